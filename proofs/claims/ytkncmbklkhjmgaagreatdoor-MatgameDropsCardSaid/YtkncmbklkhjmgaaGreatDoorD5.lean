import Derived.Lib.LaidTab
import Derived.Lib.ItoaNum
import Derived.Stop.LaidErr
import Derived.Test.YtkncmbklkhjmgaaGreatDoorProg
import Derived.Shelf.Strconv.Itoa3
import Derived.Shelf.Strconv.ErrVarAll
import Derived.Shelf.Pu.ParseUintPublic10
import Derived.Shelf.Bits.Mul64
import Derived.Shelf.Strings.OnBuilder
import Derived.Test.YtkncmbklkhjmgaaGreatDoorD4
set_option linter.unusedVariables false
set_option linter.unusedSimpArgs false
set_option maxRecDepth 100000
set_option maxHeartbeats 4000000
namespace Go.Ax.Sx
open Go.Ax.Dt Go.Ax.Rt Go.Ax.Bg
def optZ : Option Nat → Int
 | none => -1
 | some b => (b : Int)
section
variable {T : Tab} {β : List Nat} {c e k b : Nat}
theorem zOx (h : at2 T k c ≤ 0) : zBZ T β c e (k + 1) = zBZ T β c e k := by
 rw [zBZ]
 cases zBZ T β c e k with
 | none => show (if _ then _ else _) = _; rw [if_pos h]
 | some b => show (if _ then _ else _) = _; rw [if_pos h]
theorem zNR (h : ¬ at2 T k c ≤ 0) (hl : zBZ T β c e k = none) : zBZ T β c e (k + 1) = some k := by
 rw [zBZ, hl]
 show (if _ then _ else _) = _
 rw [if_neg h]
theorem zOw (h : ¬ at2 T k c ≤ 0) (hl : zBZ T β c e k = some b) : zBZ T β c e (k + 1) = if zHl T β c e k b then some k else some b := by
 rw [zBZ, hl]
 show (if _ then _ else _) = _
 rw [if_neg h]
end
theorem zNd (o : Option Nat) : (optZ o < 0) = (o = none) := by
 apply propext
 cases o with
 | none => exact ⟨fun _ => rfl, fun _ => by show (-1 : Int) < 0; omega⟩
 | some b => exact ⟨fun h => absurd h (by show ¬ (b : Int) < 0; omega), fun h => by cases h⟩
section
variable {m N w : Nat} {s : St}
theorem zLa {k : Nat} (h : zBw m N w (zAZ m N w s k) = none) : ∀ j, zAZ m N w s (k + j) = zAZ m N w s k
 | 0 => rfl
 | j + 1 => by
  have e := zLa h j
  show (zBw m N w (zAZ m N w s (k + j))).getD (zAZ m N w s (k + j)) = _
  rw [e, h]; rfl
theorem iter_end {k K : Nat} (h : zBw m N w (zAZ m N w s k) = none) (hk : k ≤ K) : zAZ m N w s K = zAZ m N w s k := by
 obtain ⟨j, rfl⟩ : ∃ j, K = k + j := ⟨K - k, by omega⟩
 exact zLa h j
theorem zQu {k : Nat} {s' : St} (h : zBw m N w (zAZ m N w s k) = some s') : zAZ m N w s (k + 1) = s' := by
 show (zBw m N w (zAZ m N w s k)).getD _ = _
 rw [h]; rfl
/-- the column of a direction without an end, or -1 -/
def resZ (m w : Nat) (s : St) : Int := if zCI m w s = w then -1 else (zCI m w s : Int)
theorem zRU (h : zCI m w s = w) : zBw m N w s = none := by
 unfold zBw; unfold zCI at h; rw [if_pos h]
theorem zRT (h : zCI m w s ≠ w) (hl : zBZ s.rows s.basis (zCI m w s) N m = none) : zBw m N w s = none := by
 unfold zBw; unfold zCI at h hl; rw [if_neg h, hl]
theorem step_go (h : zCI m w s ≠ w) {r : Nat} (hl : zBZ s.rows s.basis (zCI m w s) N m = some r) : zBw m N w s = some (piv s r (zCI m w s)) := by
 unfold zBw; unfold zCI at h hl ⊢; rw [if_neg h, hl]
end
/-- from column c on -/
theorem zOj {T : Tab} {m f c : Nat} (h : at2 T m c < 0) : zCR T m f c = c := by
 cases f with
 | zero => rfl
 | succ f => rw [zCR, if_pos h]
theorem enter_go {T : Tab} {m f c : Nat} (h : ¬ at2 T m c < 0) : zCR T m (f + 1) c = zCR T m f (c + 1) := by rw [zCR, if_neg h]
theorem nz_stop {T : Tab} {i f c : Nat} (h : at2 T i c ≠ 0) : nzN T i f c = c := by
 cases f with
 | zero => rfl
 | succ f => rw [nzN, if_pos h]
theorem nz_go {T : Tab} {i f c : Nat} (h : ¬ at2 T i c ≠ 0) : nzN T i (f + 1) c = nzN T i f (c + 1) := by rw [nzN, if_neg h]
/-- a table without its last rows -/
def cutS (m : Nat) (s : St) : St := ⟨s.rows.take m, s.den, s.basis⟩
theorem zEA {T : Tab} {m i : Nat} (hi : i < m) (j : Nat) : at2 (T.take m) i j = at2 T i j := by
 unfold at2
 simp only [List.getD, List.getElem?_take, if_pos hi]
theorem zL1 {T : Tab} {m i : Nat} (hi : i < m) : (T.take m).getD i [] = T.getD i [] := by
 simp only [List.getD, List.getElem?_take, if_pos hi]
theorem zQj {T : Tab} {m r c : Nat} {d : Int} (hr : r < m) (hm : m ≤ T.length) : zEW (T.take m) r c d = (zEW T r c d).take m := by
 rw [zKE, zKE, zEd, zEd, ← List.map_take, List.take_range, List.length_take, Nat.min_eq_left hm]
 refine List.map_congr_left (fun i hi => ?_)
 have hi : i < m := by simpa using hi
 unfold zCQ
 rw [zL1 hr, zL1 hi, zEA hr, zEA hi]
theorem piv_cut {s : St} {m r c : Nat} (hr : r < m) (hm : m ≤ s.rows.length) : piv (cutS m s) r c = cutS m (piv s r c) := by
 unfold piv cutS zEi
 simp only [zEA hr, zQj hr hm]
 split
 ·rw [List.map_take]
 ·rfl
theorem nz_cut {T : Tab} {m i : Nat} (hi : i < m) : ∀ f c, nzN (T.take m) i f c = nzN T i f c
 | 0, c => rfl
 | f + 1, c => by rw [nzN, nzN, zEA hi, nz_cut hi f (c + 1)]
theorem zQh {s : St} {m w k : Nat} (hk : k < m) (hm : m ≤ s.rows.length) : zBz w (cutS m s) k = cutS m (zBz w s k) := by
 unfold zBz
 rw [show (cutS m s).basis = s.basis from rfl, show (cutS m s).rows = s.rows.take m from rfl, nz_cut hk]
 split
 ·rfl
 ·split
  ·rfl
  ·exact piv_cut hk hm
theorem zHF {s : St} {w : Nat} : ∀ k, (zBS w s k).rows.length = s.rows.length
 | 0 => rfl
 | k + 1 => by
  rw [zBS]
  unfold zBz
  split
  ·exact zHF k
  ·split
   ·exact zHF k
   ·show (zEi _ _ _ _).length = _
    rw [zKS]; exact zHF k
theorem zHo {s : St} {m w : Nat} (hm : m ≤ s.rows.length) : ∀ k, k ≤ m → zBS w (cutS m s) k = cutS m (zBS w s k)
 | 0, _ => rfl
 | k + 1, hk => by
  rw [zBS, zBS, zHo hm k (by omega)]
  exact zQh (by omega) (by rw [zHF]; exact hm)
/-- the costs of the first phase, after i rows -/
def zC4 (w N : Nat) (s : St) (i : Nat) : List Int := (List.range (N + 1)).map (fun j => -(zt (fun q => if w ≤ s.basis.getD q 0 then at2 s.rows q j else 0) i))
def zBX (w a N : Nat) (s : St) (m k : Nat) : List Int := (List.range (N + 1)).map (fun j => if w ≤ j ∧ j < w + k then 0 else (zC4 w N s m).getD j 0)
def zC9 (k : Nat → Int) (N : Nat) (s : St) (i : Nat) : List Int := (List.range (N + 1)).map (fun j => s.den * k j - zt (fun q => k (s.basis.getD q 0) * at2 s.rows q j) i)
theorem zHA (w N : Nat) (s : St) (i : Nat) : (zC4 w N s i).length = N + 1 := by simp [zC4]
theorem zHC (k : Nat → Int) (N : Nat) (s : St) (i : Nat) : (zC9 k N s i).length = N + 1 := by simp [zC9]
theorem zFi {w N : Nat} {s : St} {i j : Nat} (hj : j < N + 1) : (zC4 w N s i).getD j 0 = -(zt (fun q => if w ≤ s.basis.getD q 0 then at2 s.rows q j else 0) i) := zA8 hj
theorem zHB {k : Nat → Int} {N : Nat} {s : St} {i j : Nat} (hj : j < N + 1) : (zC9 k N s i).getD j 0 = s.den * k j - zt (fun q => k (s.basis.getD q 0) * at2 s.rows q j) i := zA8 hj
theorem zOU {w N : Nat} {s : St} {i : Nat} (h : ¬ w ≤ s.basis.getD i 0) : zC4 w N s (i + 1) = zC4 w N s i := by
 unfold zC4
 refine List.map_congr_left (fun j _ => ?_)
 show -(zt _ i + (if w ≤ s.basis.getD i 0 then at2 s.rows i j else 0)) = _
 rw [if_neg h]; omega
theorem zOT {w N : Nat} {s : St} {i j : Nat} (h : w ≤ s.basis.getD i 0) (hj : j < N + 1) : (zC4 w N s (i + 1)).getD j 0 = (zC4 w N s i).getD j 0 - at2 s.rows i j := by
 rw [zFi hj, zFi hj]
 show -(zt _ i + (if w ≤ s.basis.getD i 0 then at2 s.rows i j else 0)) = _
 rw [if_pos h]; omega
theorem zOX {k : Nat → Int} {N : Nat} {s : St} {i : Nat} (h : k (s.basis.getD i 0) = 0) : zC9 k N s (i + 1) = zC9 k N s i := by
 unfold zC9
 refine List.map_congr_left (fun j _ => ?_)
 show _ - (zt _ i + k (s.basis.getD i 0) * at2 s.rows i j) = _
 rw [h, Int.zero_mul]; omega
theorem zOW {k : Nat → Int} {N : Nat} {s : St} {i j : Nat} (hj : j < N + 1) : (zC9 k N s (i + 1)).getD j 0 = (zC9 k N s i).getD j 0 + -(k (s.basis.getD i 0)) * at2 s.rows i j := by
 rw [zHB hj, zHB hj]
 show _ - (zt _ i + k (s.basis.getD i 0) * at2 s.rows i j) = _
 rw [Int.neg_mul]; omega
theorem zC2 {l l' : List Int} {n : Nat} (h1 : l.length = n) (h2 : l'.length = n) (h : ∀ j, j < n → l.getD j 0 = l'.getD j 0) : l = l' := by
 apply List.ext_getElem (by omega)
 intro j g1 g2
 have := h j (by omega)
 rw [zDu 0 g1, zDu 0 g2] at this
 exact this
theorem zOV (w N : Nat) (s : St) : zC4 w N s 0 = List.replicate (N + 1) 0 := by
 refine zC2 (zHA ..) (by simp) (fun j hj => ?_)
 rw [zFi hj]
 show -(0 : Int) = _
 simp [List.getD, hj]
/-- a row changed from its beginning on -/
theorem chg_to {l l' : List Int} {n : Nat} (h1 : l.length = n) (h2 : l'.length = n) : chg (fun j => l'.getD j 0) 0 l n = l' := by
 rw [← h1, zEd]
 refine zC2 (n := n) (by simp [h1]) h2 (fun j hj => ?_)
 exact zA8 (by omega)
theorem zKo {B : Nat} : ∀ {n : Nat} {f : Nat → Int}, (∀ i, i < n → (f i).natAbs ≤ B) → (zt f n).natAbs ≤ n * B
 | 0, f, _ => by rw [Nat.zero_mul]; exact Nat.le_refl 0
 | n + 1, f, h => by
  have h1 := zKo (n := n) (f := f) (fun i hi => h i (by omega))
  have h2 := h n (Nat.lt_succ_self n)
  show (zt f n + f n).natAbs ≤ _
  have h3 := Int.natAbs_add_le (zt f n) (f n)
  rw [Nat.succ_mul]; omega
theorem art_row (p : Prog) {k : Nat} (hk : k < p.a) : ∃ i, i < p.m ∧ p.neg i = true ∧ zBc p.B i = k := by
 have key : ∀ n, k < zBc p.B n → ∃ i, i < n ∧ p.neg i = true ∧ zBc p.B i = k := by
  intro n
  induction n with
  | zero => intro h; exact absurd h (Nat.not_lt_zero k)
  | succ n ih =>
   intro h
   by_cases hn : (p.B.getD n 0).num < 0
   ·rw [zMv hn] at h
    by_cases e : zBc p.B n = k
    ·exact ⟨n, by omega, by simpa using hn, e⟩
    ·obtain ⟨i, h1, h2⟩ := ih (by omega)
     exact ⟨i, by omega, h2⟩
   ·have e : zBc p.B (n + 1) = zBc p.B n := by
     show (zAT _ _).length = _
     rw [zAT, if_neg hn]
    rw [e] at h
    obtain ⟨i, h1, h2⟩ := ih h
    exact ⟨i, by omega, h2⟩
 exact key _ hk
/-- The costs of the first phase. -/
theorem zOQ (p : Prog) (i : Nat) (hi : i = p.a) : zBX (p.n + p.m) p.a p.N (zAM p) p.m i = zHD (zCw p) p.m p.N (zAM p) := by
 subst hi
 have hN : p.N = p.n + p.m + p.a := rfl
 have hinv := zEt p
 have hd : (zAM p).den = 1 := rfl
 unfold zBX zHD
 refine List.map_congr_left (fun j hj => ?_)
 have hj : j < p.N + 1 := by simpa using hj
 rw [zFi hj, hd, Int.one_mul]
 have hk : ∀ q, q < p.m → (if p.n + p.m ≤ (zAM p).basis.getD q 0 then at2 (zAM p).rows q j else 0) = zCw p ((zAM p).basis.getD q 0) * at2 (zAM p).rows q j := by
  intro q hq
  have := hinv.bc q hq
  unfold zCw
  by_cases h : p.n + p.m ≤ (zAM p).basis.getD q 0
  ·rw [if_pos h, if_pos ⟨h, this⟩, Int.one_mul]
  ·rw [if_neg h, if_neg (fun e => h e.1), Int.zero_mul]
 rw [zm hk]
 by_cases h : p.n + p.m ≤ j ∧ j < p.n + p.m + p.a
 ·rw [if_pos h]
  obtain ⟨k, rfl⟩ : ∃ k, j = p.n + p.m + k := ⟨j - (p.n + p.m), by omega⟩
  have hka : k < p.a := by omega
  have h1 : zCw p (p.n + p.m + k) = 1 := by unfold zCw; rw [if_pos (by omega)]
  rw [h1]
  -- the row of this artificial unknown
  obtain ⟨i, hi, hneg, hik⟩ := art_row p hka
  have hb : (zAM p).basis.getD i 0 = p.n + p.m + k := by
   show (zBb p).getD i 0 = _
   rw [zGQ p hi, if_pos hneg, hik]
  have hu : ∀ q, q < p.m → at2 (zAM p).rows q (p.n + p.m + k) = if q = i then 1 else 0 := by
   intro q hq
   have := hinv.unit q i (by omega) hi
   rw [hb, hd] at this
   exact this
  rw [zEM i hi (fun q hq hne => by rw [hu q hq, if_neg hne, Int.mul_zero]), hu i hi, if_pos rfl, hb, h1]; rfl
 ·rw [if_neg h]
  have : zCw p j = 0 := by unfold zCw; rw [if_neg (by omega)]
  rw [this]; omega
theorem zN2 (T : Tab) (L L' : List Int) : zBJ (T ++ [L]) T.length L' = T ++ [L'] := by
 unfold zBJ
 rw [List.take_left]
theorem ph1_rows (p : Prog) : (ph1 p).rows = zBA p ++ [zHD (zCw p) p.m p.N (zAM p)] := by
 show zBJ (zBA p ++ [_]) p.m _ = _
 rw [← zCY p]
 exact zN2 _ _ _
theorem zJK (p : Prog) : cutS p.m (zAM p) = ⟨zBA p, 1, zBb p⟩ := by
 show (⟨(zBA p ++ [_]).take p.m, 1, zBb p⟩ : St) = _
 rw [← zCY p, List.take_left]
theorem mid_cut0 (p : Prog) (K : Nat) (h : p.a = 0) : cutS p.m (mid p K) = ⟨zBA p, 1, zBb p⟩ := by
 unfold mid
 rw [if_pos h]; exact zJK p
theorem zNU (p : Prog) (hp : p.Ok) (K : Nat) (h : p.a ≠ 0) : cutS p.m (mid p K) = zBS (p.n + p.m) (cutS p.m (zCD p K)) p.m := by
 unfold mid
 rw [if_neg h]
 refine (zHo ?_ p.m (Nat.le_refl _)).symm
 rw [(zEq p hp K).1.n]; exact Nat.le_succ _
theorem ph2_rows (p : Prog) (K : Nat) : (ph2 p K).rows = (cutS p.m (mid p K)).rows ++ [zC9 (zBU p) p.N (mid p K) p.m] := rfl
theorem zQb {k : Nat → Int} {N m i : Nat} {s : St} (hi : i ≤ m) : zC9 k N (cutS m s) i = zC9 k N s i := by
 unfold zC9
 refine List.map_congr_left (fun j _ => ?_)
 show s.den * k j - zt (fun q => k (s.basis.getD q 0) * at2 (s.rows.take m) q j) i = _
 congr 1
 refine zm (fun q hq => ?_)
 rw [zEA (by omega)]
theorem zDt (w a N : Nat) (s : St) (m k : Nat) : (zBX w a N s m k).length = N + 1 := by simp [zBX]
theorem zHn {w a N : Nat} {s : St} {m k j : Nat} (hj : j < N + 1) : (zBX w a N s m k).getD j 0 = if w ≤ j ∧ j < w + k then 0 else (zC4 w N s m).getD j 0 := zA8 hj
theorem zM4 (w a N : Nat) (s : St) (m : Nat) : zBX w a N s m 0 = zC4 w N s m := by
 refine zC2 (zDt ..) (zHA ..) (fun j hj => ?_)
 rw [zHn hj, if_neg (by omega)]
theorem zOS {w a N : Nat} {s : St} {m k : Nat} (hk : w + k < N + 1) : (zBX w a N s m k).set (w + k) 0 = zBX w a N s m (k + 1) := by
 refine zC2 (by rw [List.length_set]; exact zDt ..) (zDt ..) (fun j hj => ?_)
 rw [Go.Ax.Dt.getD_set, zHn hj, zHn hj, zDt]
 by_cases h1 : j = w + k
 ·rw [if_pos ⟨h1, hk⟩, if_pos (by omega)]
 ·rw [if_neg (fun q => h1 q.1)]
  by_cases h2 : w ≤ j ∧ j < w + k
  ·rw [if_pos h2, if_pos (by omega)]
  ·rw [if_neg h2, if_neg (by omega)]
theorem zQY {w N E : Nat} {s : St} {i j : Nat} (hi : i ≤ 100) (h : ∀ q, q < i → (at2 s.rows q j).natAbs ≤ 10 ^ E) (hj : j < N + 1) : ((zC4 w N s i).getD j 0).natAbs ≤ 10 ^ (E + 2) := by
 rw [zFi hj, Int.natAbs_neg]
 have h1 := zKo (B := 10 ^ E) (n := i) (f := fun q => if w ≤ s.basis.getD q 0 then at2 s.rows q j else 0) (fun q hq => by
  show (if w ≤ s.basis.getD q 0 then at2 s.rows q j else 0).natAbs ≤ _
  split
  ·exact h q hq
  ·exact Nat.zero_le _)
 refine Nat.le_trans h1 ?_
 rw [Nat.pow_add, Nat.mul_comm]
 exact Nat.mul_le_mul_left _ hi
theorem zQZ {w N m i : Nat} {s : St} (hi : i ≤ m) : zC4 w N (cutS m s) i = zC4 w N s i := by
 unfold zC4
 refine List.map_congr_left (fun j _ => ?_)
 congr 1
 refine zm (fun q hq => ?_)
 show (if w ≤ s.basis.getD q 0 then at2 (s.rows.take m) q j else 0) = _
 rw [zEA (by omega)]
theorem zOR {w a N m k : Nat} {s : St} : zBX w a N (cutS m s) m k = zBX w a N s m k := by
 unfold zBX
 rw [zQZ (Nat.le_refl _)]
def zEI (n N : Nat) (W : List Int) : List Int := (List.range (N + 1)).map (fun j => if j < n then W.getD j 0 else 0)
def zEU (n m a : Nat) (W : List Int) (i : Nat) : List Int := (List.range (n + m + a + 1)).map (zIE n m a W i)
theorem zHR (n N : Nat) (W : List Int) : (zEI n N W).length = N + 1 := by simp [zEI]
theorem zDR (n m a : Nat) (W : List Int) (i : Nat) : (zEU n m a W i).length = n + m + a + 1 := by simp [zEU]
theorem zO4 {N : Nat} {W : List Int} : zEI 0 N W = List.replicate (N + 1) 0 := by
 refine zC2 (zHR ..) (by simp) (fun j hj => ?_)
 rw [show (zEI 0 N W).getD j 0 = 0 from (zA8 hj).trans (if_neg (Nat.not_lt_zero j))]
 simp [List.getD, hj]
theorem out_base {n m a i : Nat} {W : List Int} (hi : i < m) : ((zEI n (n + m + a) W).set (n + i) 1).set (n + m + a) (W.getD n 0) = zEU n m a W i := by
 refine zC2 (n := n + m + a + 1) (by rw [List.length_set, List.length_set]; exact zHR ..) (zDR ..) (fun j hj => ?_)
 rw [Go.Ax.Dt.getD_set, Go.Ax.Dt.getD_set, List.length_set, zHR, show (zEU n m a W i).getD j 0 = zIE n m a W i j from zA8 hj, show (zEI n (n + m + a) W).getD j 0 = (if j < n then W.getD j 0 else 0) from zA8 hj]
 unfold zIE
 by_cases h1 : j = n + m + a
 ·rw [if_pos ⟨h1, by omega⟩, if_neg (by omega), if_neg (by omega), if_pos h1]
 ·rw [if_neg (fun q => h1 q.1)]
  by_cases h2 : j = n + i
  ·rw [if_pos ⟨h2, by omega⟩, if_neg (by omega), if_pos h2]
  ·rw [if_neg (fun q => h2 q.1)]
   by_cases h3 : j < n
   ·rw [if_pos h3, if_pos h3]
   ·rw [if_neg h3, if_neg h3, if_neg h2, if_neg h1]
theorem neg_base {n m a i : Nat} {W : List Int} : chg (fun j => -((zEU n m a W i).getD j 0)) 0 (zEU n m a W i) (n + m + a + 1) = (zEU n m a W i).map (fun x => -x) := by
 have e := zEd (fun j => -((zEU n m a W i).getD j 0)) 0 (zEU n m a W i)
 rw [zDR] at e
 rw [e]
 refine zC2 (n := n + m + a + 1) (by simp) (by rw [List.length_map]; exact zDR ..) (fun j hj => ?_)
 rw [show ((List.range (n + m + a + 1)).map (fun j => -((zEU n m a W i).getD j 0))).getD j 0 = -((zEU n m a W i).getD j 0) from zA8 hj, zCK _ _ 0 _ _ (by rw [zDR]; exact hj)]
theorem row_neg {n m a i k : Nat} {W : List Int} (hk : k < a) : ((zEU n m a W i).map (fun x => -x)).set (n + m + k) 1 = zDG n m a W i true k := by
 refine zC2 (n := n + m + a + 1) (by rw [List.length_set, List.length_map]; exact zDR ..) (by simp [zDG]) (fun j hj => ?_)
 rw [Go.Ax.Dt.getD_set, List.length_map, zDR, show (zDG n m a W i true k).getD j 0 = zG3 n m a W i true k j from zA8 hj]
 unfold zG3
 rw [if_pos rfl]
 by_cases h : j = n + m + k
 ·rw [if_pos ⟨h, by omega⟩, if_pos h]
 ·rw [if_neg (fun q => h q.1), if_neg h, zCK _ _ 0 _ _ (by rw [zDR]; exact hj)]
  exact congrArg (fun x : Int => -x) (zA8 hj)
theorem row_pos {n m a i k : Nat} {W : List Int} : zEU n m a W i = zDG n m a W i false k := rfl
theorem zKt {α : Type} (l : List α) (d : α) {i : Nat} (hi : i < l.length) : l.take (i + 1) = l.take i ++ [l.getD i d] := by
 rw [List.take_add_one, zDu d hi]
 simp [hi]
end Go.Ax.Sx
namespace Go.Ax
variable [Pins]
open Go.RowKit
theorem zT.cutR {P : Program} {f : FuncId} {args : List AV} {H : zM} {fix : Nat → Prop} {K K' : AV → zM → Prop} (hc : zT P f args H fix K)
 (hK : ∀ r H', K r H' → ∃ H0 H1, H' = H0 ++ H1 ∧ (∀ h, fix h → h < H0.length) ∧ (∀ (h : Nat) (o : AObj), H0[h]? = some (some o) → zA7 H0.length o.c) ∧ zCC H0.length r = true ∧ K' r H0) : zT P f args H fix K' := by
 refine ⟨hc.1, fun w σ S vals h0 h1 h2 h3 => Calls.mono (hc.2 w σ S vals h0 h1 h2 h3) fun e w' he => ?_⟩
 obtain ⟨v, r, σ', S', H', g1, g2, g3, g4, g5⟩ := he
 obtain ⟨H0, H1, rfl, hf, hbH, hbr, hk⟩ := hK _ _ g5
 have hs : ∀ h, h < H0.length → cutσ H0.length σ' h = σ' h := fun h hl => if_pos hl
 have hget : ∀ {h : Nat} {o : AObj}, H0[h]? = some (some o) → h < H0.length ∧ (H0 ++ H1)[h]? = some (some o) := by
  intro h o ho
  have hl : h < H0.length := (List.getElem?_eq_some_iff.1 ho).1
  exact ⟨hl, by rw [List.getElem?_append_left hl]; exact ho⟩
 refine ⟨v, r, cutσ H0.length σ', S', H0, g1, ⟨fun h o ho => ?_, fun h h' o o' b s C s' C' q1 q2 e1 e2 => ?_, g2.small, fun h hl => if_neg (by omega)⟩, g3.cutv hbr _ hs, ⟨g4.os, g4.output, g4.tape, g4.size, g4.block, g4.S1, g4.S2, fun h hh => by rw [hs h (hf h hh)]; exact g4.fixed h hh, hf, fun h o b s C q e => ?_⟩, hk⟩
 ·obtain ⟨hl, ho'⟩ := hget ho
  rw [hs h hl]
  rcases g2.live h o ho' with g | ⟨b, C, cur, k1, k2, k3, k4, k5, k6, k7⟩
  ·exact .inl g
  ·refine .inr ⟨b, C, cur, k1, k2.cutv (fun ks vs hc => (hbH h o ho).mp hc) hs, k3, k4, k5, k6, fun i j hi hj => ?_⟩
   obtain ⟨v, m1, m2, m3⟩ := k7 i j hi hj
   exact ⟨v, m1, m2.cutv ((hbH h o ho).row i j hi hj) _ hs, m3⟩
 ·obtain ⟨hl, ho⟩ := hget q1
  obtain ⟨hl', ho'⟩ := hget q2
  rw [hs h hl] at e1
  rw [hs h' hl'] at e2
  exact g2.dist h h' o o' b s C s' C' ho ho' e1 e2
 ·obtain ⟨hl, ho⟩ := hget q
  rw [hs h hl] at e
  exact g4.own h o b s C ho e
/-- The result lies in a cell that is known by a fact. -/
theorem zF4 {P : Program} {fr : Fr} {H : zM} {t h : Nat} {ty oty : TypeId} {l : List AV} {fs : Array Field} {i : TypeInfo} (hl : look t fr = some (.ptr h 0 0)) (hh : H[h]? = some (some ⟨oty, .box l⟩)) (hu : P.underlying ty = some (.struct fs)) (hi : P.info? ty = some i) (hsz : Nat.beq i.size l.length = true) :
 zGd P fr H [.cell t ty] = some [.agg l] := by
 have _p := ‹Pins›
 simp only [zGd, zMt, hl, hh, hu, hi, hsz]
 rfl
/-- A call that reads the own memory and leaves it as it is. -/
theorem px_c {P : Program} {fn : Func} {c : Ctx} {H : zM} {all : Array Oper} {K0 : Fr} {i : Nat} {r : List Nat} {st : Steps} {G : Steps → Prop} {d : Nat} {g : Operand} {args : List Operand} {ats : Array TypeId} {ty : TypeId} {pos : String} {after : Array Edge} {f : FuncId} {caps ags ags' : List AV} {v : AV} {K : Fr} (hi : all[i]? = some ⟨some d, .call { callee := .value g, args := args.toArray, argTypes := ats }, ty, pos, after, none⟩)
 (hK : zFp st K0 ⟨some d, .call { callee := .value g, args := args.toArray, argTypes := ats }, ty, pos, after, none⟩ = K) (hg : ev K g = some (.fn f caps)) (ha : evs K args = some ags) (has : ags ++ caps = ags') (hcall : zT P f ags' H (fun h => h < H.length) (fun r' H' => r' = v ∧ H' = H))
 (h : zD9 P fn c H all K0 r ((i, d, v) :: st) G) : zD9 P fn c H all K0 (i :: r) st G :=
 zJt hi (hK ▸ fun k fr hk h2 => zCH (zIR hk hg) (zI8 hk ha) has hcall (fun _ h => h) (fun _ h => h) (fun r H' e => by obtain ⟨rfl, rfl⟩ := e; exact h2)) h
end Go.Ax
namespace Go.Ax
variable [Pins]
open Go.RowKit
def mvσ (σ : Nat → Option Blk) (h1 h2 : Nat) : Nat → Option Blk := fun h => if h = h1 then σ h2 else σ h
def mvH (H : zM) (h1 h2 : Nat) (o : AObj) : zM := ((zj h1 H).set h1 (some ⟨o.ty, o.c.forget h1⟩)).set h2 none
theorem zIb {H : zM} {h1 h2 : Nat} {o : AObj} (hne : h1 ≠ h2) (h1H : h1 < H.length) {h : Nat} {o' : AObj} (hh : (mvH H h1 h2 o)[h]? = some (some o')) :
 (h = h1 ∧ o' = ⟨o.ty, o.c.forget h1⟩) ∨ (h ≠ h1 ∧ h ≠ h2 ∧ ∃ o0 : AObj, H[h]? = some (some o0) ∧ o' = ⟨o0.ty, o0.c.forget h1⟩) := by
 unfold mvH at hh
 by_cases e2 : h = h2
 ·exfalso
  subst e2
  rw [List.getElem?_set] at hh
  rw [if_pos rfl] at hh
  split at hh <;> cases hh
 rw [List.getElem?_set_ne (fun q => e2 q.symm)] at hh
 by_cases e1 : h = h1
 ·subst e1
  rw [List.getElem?_set_self (by rw [zAz]; exact h1H)] at hh
  cases hh
  exact .inl ⟨Z, Z⟩
 ·rw [List.getElem?_set_ne (fun q => e1 q.symm), zFJ] at hh
  cases hx : H[h]? with
  | none => rw [hx] at hh; cases hh
  | some x =>
   rw [hx] at hh
   cases x with
   | none => cases hh
   | some o0 => cases hh; exact .inr ⟨e1, e2, o0, rfl, rfl⟩
theorem Rep.move {c : Ctx} {w : World} {a : Act} {σ : Nat → Option Blk} {S : Nat → Prop} {n : Nat} {fr : Fr} {H : zM} (hr : Rep c w a σ S n fr H) (h1 h2 t len : Nat) {o : AObj} (hne : h1 ≠ h2) (h1H : h1 < H.length) (h2o : H[h2]? = some (some o))
 (hf1 : ¬ c.fix h1) (hl : look t fr = some (.sl h2 0 len)) : Rep c w a (mvσ σ h1 h2) S n ((t, .sl h1 0 len) :: zB7 h1 fr) (mvH H h1 h2 o) := by
 have hv : ∀ {x v}, VR w S σ x v → VR w S (mvσ σ h1 h2) (x.forget h1) v := fun h => h.forget _ (fun h' q => if_neg q)
 have s1 : mvσ σ h1 h2 h1 = σ h2 := if_pos rfl
 have s2 : ∀ h, h ≠ h1 → mvσ σ h1 h2 h = σ h := fun h q => if_neg q
 have hlen : (mvH H h1 h2 o).length = H.length := by unfold mvH; rw [List.length_set, List.length_set, zAz]
 have key : ∀ (h : Nat) (o0 : AObj), H[h]? = some (some o0) → ((σ h = some .nowhere ∧ (o0.c.forget h1).len = 0) ∨
  ∃ b C cur, σ h = some (.at b (o0.c.forget h1).sz C) ∧ Lays w S (mvσ σ h1 h2) ⟨o0.ty, o0.c.forget h1⟩ b cur C ∧ cur.size = C * (o0.c.forget h1).sz ∧ C ≤ maxLen + 1 ∧ (o0.c.forget h1).len ≤ C ∧ ¬ S b ∧
  ∀ i j, i < (o0.c.forget h1).len → j < (o0.c.forget h1).sz → ∃ v, cur[i * (o0.c.forget h1).sz + j]? = some v ∧ VR w S (mvσ σ h1 h2) ((o0.c.forget h1).at i j) v ∧ v.oneCell' = true) := by
  intro h o0 ho0
  rw [Cells.forget_len, Cells.forget_sz]
  rcases hr.hr.live h o0 ho0 with g | ⟨b, C, cur, g1, g2, g3, g4, g5, g6, g7⟩
  ·exact .inl g
  ·refine .inr ⟨b, C, cur, g1, g2.forget Z hv, g3, g4, g5, g6, fun i j hi hj => ?_⟩
   obtain ⟨v, k1, k2, k3⟩ := g7 i j hi hj
   exact ⟨v, k1, by rw [Cells.forget_at _ _ _ _ hj]; exact hv k2, k3⟩
 refine ⟨⟨fun h o' ho => ?_, fun h h' o1 o1' b s C s' C' q1 q2 e1 e2 => ?_, hr.hr.small, fun h hl' => ?_⟩, ⟨hr.kp.os, hr.kp.output, hr.kp.tape, hr.kp.size, hr.kp.block, hr.kp.S1, hr.kp.S2, fun h hh => ?_, fun h hh => ?_, fun h o' b s C q e => ?_⟩, hr.defers, hr.size, fun t' v hl' => ?_⟩
 ·rcases zIb hne h1H ho with ⟨rfl, rfl⟩ | ⟨g1, g2, o0, g3, rfl⟩
  ·rw [s1]; exact key h2 o h2o
  ·rw [s2 h g1]; exact key h o0 g3
 ·rcases zIb hne h1H q1 with ⟨rfl, rfl⟩ | ⟨g1, g2, o0, g3, rfl⟩
  ·rcases zIb hne h1H q2 with ⟨rfl, rfl⟩ | ⟨k1, k2, o0', k3, rfl⟩
   ·rfl
   ·rw [s1] at e1
    rw [s2 h' k1] at e2
    exact absurd (hr.hr.dist h2 h' o o0' b s C s' C' h2o k3 e1 e2) (fun q => k2 q.symm)
  ·rcases zIb hne h1H q2 with ⟨rfl, rfl⟩ | ⟨k1, k2, o0', k3, rfl⟩
   ·rw [s1] at e2
    rw [s2 h g1] at e1
    exact absurd (hr.hr.dist h h2 o0 o b s C s' C' g3 h2o e1 e2) g2
   ·rw [s2 h g1] at e1
    rw [s2 h' k1] at e2
    exact hr.hr.dist h h' o0 o0' b s C s' C' g3 k3 e1 e2
 ·rw [hlen] at hl'
  rw [s2 h (by omega)]; exact hr.hr.dom h hl'
 ·rw [s2 h (fun q => hf1 (q ▸ hh))]; exact hr.kp.fixed h hh
 ·rw [hlen]; exact hr.kp.fixlt h hh
 ·rcases zIb hne h1H q with ⟨rfl, rfl⟩ | ⟨g1, g2, o0, g3, rfl⟩
  ·rw [s1] at e; exact hr.kp.own h2 o b s C h2o e
  ·rw [s2 h g1] at e; exact hr.kp.own h o0 b s C g3 e
 ·have hsl := hr.slots t _ hl
  simp only [look] at hl'
  cases hb : Nat.beq t' t with
  | true =>
   rw [hb] at hl'
   have et := Nat.eq_of_beq_eq_true hb
   subst et
   cases hl'
   refine ⟨hsl.1, ?_⟩
   have h2 := hsl.2
   generalize a.tmps.getD t' undef = x at h2
   cases h2 with
   | sl _ _ _ _ b s C cap e1 e2 e3 => exact .sl _ _ _ _ _ _ _ _ (by rw [s1]; exact e1) e2 e3
   | sl0 _ _ e => exact .sl0 _ _ (by rw [s1]; exact e)
  | false =>
   rw [hb] at hl'
   have hl' : look t' (zB7 h1 fr) = some v := hl'
   rw [zDj] at hl'
   cases hx : look t' fr with
   | none => rw [hx] at hl'; cases hl'
   | some v0 =>
    rw [hx] at hl'
    cases hl'
    have hs := hr.slots t' v0 hx
    exact ⟨hs.1, hv hs.2⟩
section
variable {P : Program} {fn : Func} {c : Ctx} {fr : Fr} {H : zM} {k : List It}
theorem zPS {x : Code} (h1 h2 t len : Nat) {o : AObj} (hne : h1 ≠ h2) (h1H : h1 < H.length) (h2o : H[h2]? = some (some o)) (hf1 : ¬ c.fix h1) (hl : look t fr = some (.sl h2 0 len))
 (hk : Ax P fn c (.code x k) ((t, .sl h1 0 len) :: zB7 h1 fr) (mvH H h1 h2 o)) : Ax P fn c (.code x k) fr H :=
 fun w a σ S hr => hk w a _ S (hr.move h1 h2 t len hne h1H h2o hf1 hl)
end
theorem zFW {fr K : Fr} (h : zCE fr K) : ∀ {xs : List (Nat × Operand)} {l : List (Nat × AV)}, zCl K xs = some l → zCl fr xs = some l
 | [], l, he => he
 | (n, x) :: r, l, he => by
  simp only [zCl] at he ⊢
  split at he
  ·rename_i v hv
   split at he
   ·rename_i q hq
    rw [zIR h hv, zFW h hq]
    exact he
   ·cases he
  ·cases he
/-- a slice of plain values is built without a look at the memory -/
theorem px_b {P : Program} {fn : Func} {c : Ctx} {H : zM} {all : Array Oper} {K0 : Fr} {i : Nat} {r : List Nat} {st : Go.Ax.Steps} {G : Go.Ax.Steps → Prop} {d : Nat} {t e : TypeId} {n : Nat} {parts : List (Nat × Operand)} {ty : TypeId} {pos : String} {after : Array Edge} {it : TypeInfo} {z : Value} {zs L : List AV} {l : List (Nat × AV)} {cl : Cells} {K : Fr}
 (hi : all[i]? = some ⟨some d, .buildSlice t n parts.toArray, ty, pos, after, none⟩) (hK : zFp st K0 ⟨some d, .buildSlice t n parts.toArray, ty, pos, after, none⟩ = K)
 (ht : P.underlying t = some (.slice e)) (hinf : P.info? e = some it) (hz : it.zero = some z) (hzs : zav z = some zs) (hsz : it.size = zs.length) (hpos : Nat.blt 0 zs.length = true) (hsmall : Nat.ble (n * zs.length) 16777216 = true)
 (hl : zCl K parts = some l) (hf : zFl (fun i => some (i * zs.length, zs.length)) (zDM zs n) l = some L) (hcl : zBv n zs.length L = cl) (hn : noRef.noRefs L = true)
 (h : zD9 P fn c H all K0 r ((i, d, .ro cl 0 n) :: st) G) : zD9 P fn c H all K0 (i :: r) st G :=
 zJt hi (hK ▸ fun k fr hk h2 => zf ht hinf hz hzs hsz hpos hsmall (zFW hk hl) hf hcl hn h2) h
end Go.Ax
namespace Go.Ax
variable [Pins]
open Go.RowKit
section
variable {P : Program} {fn : Func} {c : Ctx} {fr : Fr} {H : zM} {k : List It}
theorem zJh {w : World} {size : Nat} {a : Option Addr} {m cap : Nat} : (Builtin.firstCells size 0 (.slice a m cap)).run P w = .ok #[] w := by
 have _p := ‹Pins›
 cases a with
 | none => rfl
 | some a =>
  show (loadCells a (0 * size)).run P w = _
  rw [Nat.zero_mul]; rfl
theorem ax_copy0 {all : Array Oper} {d : Nat} {t tx e : TypeId} {x y : Operand} {ty : TypeId} {pos : String} {after : Array Edge} {rest : List Oper} {inf : TypeInfo} {h i n : Nat} {h2 i2 : Nat}
 (ht : P.underlying t = some (.slice e)) (hi : P.info? e = some inf) (hx : ev fr x = some (.sl h i n)) (hy : ev fr y = some (.sl h2 i2 0))
 (hk : Ax P fn c (.ops false all rest k) ((d, .int .i64 0) :: fr) H) : Ax P fn c (.ops false all (⟨some d, .call { callee := .builtin .copy, args := #[x, y], argTypes := #[t, tx] }, ty, pos, after, none⟩ :: rest) k) fr H := by
 refine ax_w (fun w a σ S hr => ?_) hk
 have h1 := hr.evAt hx
 have h2 := hr.evAt hy
 have hexec : ∀ r w', (Builtin.copy_ #[t, tx] ty #[a.eval x, a.eval y]).run P w = .ok r w' → (execOp a.eval ⟨some d, .call { callee := .builtin .copy, args := #[x, y], argTypes := #[t, tx] }, ty, pos, after, none⟩).run P w = .ok (.value r) w' := by
  intro r w' h
  simp [execOp, resolve, invoke, builtin, h]
 generalize hzx : a.eval x = vx at h1 hexec
 generalize hzy : a.eval y = vy at h2 hexec
 have key : ∀ (ax ay : Option Addr) (lx cx cy : Nat), (Builtin.copy_ #[t, tx] ty #[.slice ax lx cx, .slice ay 0 cy]).run P w = .ok (.int .i64 (0 : Nat)) w := by
  intro ax ay lx cx cy
  have hf := zJh (P := P) (w := w) (size := inf.size) (a := ay) (m := 0) (cap := cy)
  have hm : Nat.min 0 lx = 0 := Nat.zero_min lx
  cases ax with
  | none => simp [Builtin.copy_, run_underlying ht, sizeOf, typeInfo, hi, Builtin.lenOf, hm, hf, goInt]
  | some ad => simp [Builtin.copy_, run_underlying ht, sizeOf, typeInfo, hi, Builtin.lenOf, hm, hf, goInt, storeCells]
 cases h1 with
 | sl0 _ _ hσ =>
  cases h2 with
  | sl0 _ _ hσ2 => exact ⟨_, _, σ, S, hexec _ _ (key _ _ _ _ _), hr, .int _ _ _⟩
  | sl _ _ _ _ b s C cap hσ2 hlen hcap => exact ⟨_, _, σ, S, hexec _ _ (key _ _ _ _ _), hr, .int _ _ _⟩
 | sl _ _ _ _ b s C cap hσ hlen hcap =>
  cases h2 with
  | sl0 _ _ hσ2 => exact ⟨_, _, σ, S, hexec _ _ (key _ _ _ _ _), hr, .int _ _ _⟩
  | sl _ _ _ _ b s C cap hσ2 hlen hcap => exact ⟨_, _, σ, S, hexec _ _ (key _ _ _ _ _), hr, .int _ _ _⟩
end
end Go.Ax
namespace Go.Ax.Sx
open Go.Ax.Dt Go.Ax.Rt Go.Ax.Bg
theorem last0 (p : Prog) (s : St) : chg (fun q => -((zAj p.C).getD q 0) * s.den) 0 (List.replicate (p.N + 1) 0) p.n = zC9 (zBU p) p.N s 0 := by
 have hw := zFe p
 refine zC2 (n := p.N + 1) (by rw [zCk]; simp) (zHC ..) (fun j hj => ?_)
 rw [zC0 _ _ _ (by simpa using hj), zHB hj]
 show _ = s.den * zBU p j - 0
 unfold zBU
 by_cases h : j < p.n
 ·rw [if_pos h, if_pos h, Int.sub_zero, Int.mul_comm]
 ·rw [if_neg h, if_neg h, Int.mul_zero, Int.sub_zero]
  simp [List.getD, hj]
theorem zPc {p : Prog} {k : Nat} (hk : p.Dig k) (j : Nat) : (zBU p j).natAbs ≤ 10 ^ p.E k := by
 unfold zBU
 split
 ·rename_i h
  rw [Int.natAbs_neg]; exact zJQ hk h
 ·exact Nat.zero_le _
theorem zQa {p : Prog} {k E : Nat} {s : St} {i j : Nat} (hk : p.Dig k) (hi : i ≤ 98) (h : ∀ q, q < i → (at2 s.rows q j).natAbs ≤ 10 ^ E) (hd : s.den.natAbs ≤ 10 ^ E) (hj : j < p.N + 1) : ((zC9 (zBU p) p.N s i).getD j 0).natAbs ≤ 10 ^ (p.E k + E + 2) := by
 rw [zHB hj]
 have h1 := zKo (B := 10 ^ (p.E k + E)) (n := i) (f := fun q => zBU p (s.basis.getD q 0) * at2 s.rows q j) (fun q hq => by
  show (zBU p (s.basis.getD q 0) * at2 s.rows q j).natAbs ≤ _
  rw [Int.natAbs_mul, Nat.pow_add]
  exact Nat.mul_le_mul (zPc hk _) (h q hq))
 have h2 : (s.den * zBU p j).natAbs ≤ 10 ^ (p.E k + E) := by
  rw [Int.natAbs_mul, Nat.pow_add, Nat.mul_comm]
  exact Nat.mul_le_mul (zPc hk _) hd
 have h3 := Int.natAbs_sub_le (s.den * zBU p j) (zt (fun q => zBU p (s.basis.getD q 0) * at2 s.rows q j) i)
 have h4 : i * 10 ^ (p.E k + E) ≤ 98 * 10 ^ (p.E k + E) := Nat.mul_le_mul_right _ hi
 rw [Nat.pow_add]
 generalize 10 ^ (p.E k + E) = B at *
 omega
theorem zQX {p : Prog} {j : Nat} (h : ¬ (j < p.n ∧ (zAj p.C).getD j 0 ≠ 0)) : zBU p j = 0 := by
 unfold zBU
 split
 ·rename_i h1
  have : (zAj p.C).getD j 0 = 0 := Decidable.byContradiction (fun q => h ⟨h1, q⟩)
  rw [this]; rfl
 ·rfl
theorem cosK_neg {p : Prog} {j : Nat} (h : j < p.n) : -(zBU p j) = (zAj p.C).getD j 0 := by
 unfold zBU
 rw [if_pos h, Int.neg_neg]
theorem yL_as (p : Prog) (s : St) (d : Int) : yL p s d = (List.range p.m).map (fun i => ((List.range p.m).map (fun i => Rat.divInt (at2 s.rows p.m (p.n + i)) d)).getD i 0 * (((((List.range p.m).map p.fac).getD i 0 : Nat)) : Rat)) := by
 unfold yL
 refine List.map_congr_left (fun i hi => ?_)
 have hi : i < p.m := by simpa using hi
 rw [show ((List.range p.m).map (fun i => Rat.divInt (at2 s.rows p.m (p.n + i)) d)).getD i 0 = Rat.divInt (at2 s.rows p.m (p.n + i)) d from zCr hi, show ((List.range p.m).map p.fac).getD i 0 = p.fac i from zCr hi]
theorem zRL {p : Prog} {K L : Nat} (h : 0 < p.a ∧ at2 (zCD p K).rows p.m p.N < 0) : zDa p K L = ⟨1, [], yL p (zCD p K) (zCD p K).den, [], 0⟩ := by unfold zDa; rw [if_pos h]
theorem zRK {p : Prog} {K L : Nat} (h : ¬ (0 < p.a ∧ at2 (zCD p K).rows p.m p.N < 0)) (h2 : zCI p.m (p.n + p.m) (zDb p K L) < p.n + p.m) : zDa p K L = ⟨2, zBj p (zDb p K L), [], zHa p (zDb p K L) (zCI p.m (p.n + p.m) (zDb p K L)), 0⟩ := by unfold zDa; rw [if_neg h, if_pos h2]
theorem zRJ {p : Prog} {K L : Nat} (h : ¬ (0 < p.a ∧ at2 (zCD p K).rows p.m p.N < 0)) (h2 : ¬ zCI p.m (p.n + p.m) (zDb p K L) < p.n + p.m) : zDa p K L = ⟨0, zBj p (zDb p K L), yL p (zDb p K L) ((zDb p K L).den * (p.fc : Nat)), [], Rat.divInt (at2 (zDb p K L).rows p.m p.N) ((zDb p K L).den * (p.fc : Nat))⟩ := by unfold zDa; rw [if_neg h, if_neg h2]
theorem col_le (p : Prog) (s : St) : zCI p.m (p.n + p.m) s ≤ p.n + p.m := Nat.le_trans (zE1 s.rows p.m (p.n + p.m) 0).2.1 (by omega)
end Go.Ax.Sx
namespace Go.Ax
variable [Pins]
open Go.RowKit
section
variable {ind : Bool} {P : Program} {fn : Func} {c : Ctx} {fr : Fr} {H : zM} {k : List It}
variable {d : Option Nat} {ty : TypeId} {pos : String} {after : Array Edge} {g : Option (Nat × Bool)}
theorem zNo {x x1 x2 x3 : Operand} {t e : TypeId} {cl : Cells} {i n : Nat} {k1 k2 k3 : IntKind} {l h m : Int} (ht : P.underlying t = some (.slice e)) (hs : (P.info? e).map (·.size) = some cl.sz) (hx : ev fr x = some (.ro cl i n)) (h1 : ev fr x1 = some (.int k1 l)) (h2 : ev fr x2 = some (.int k2 h)) (h3 : ev fr x3 = some (.int k3 m)) (hb : 0 ≤ l ∧ l ≤ h ∧ h ≤ m ∧ m ≤ n) :
 QOp ind P fn c fr H ⟨d, .slice t x (some x1) (some x2) (some x3), ty, pos, after, g⟩ (.ro cl (i + l.toNat) (h - l).toNat) := by
 intro w a σ S hr
 have hxv := hr.evAt hx
 have e1 := hr.evInt h1
 have e2 := hr.evInt h2
 have e3 := hr.evInt h3
 generalize hz : a.eval x = z at hxv
 have hsub : h.toNat - l.toNat = (h - l).toNat := by omega
 have hbs : ∀ (w' : World) (len cap : Nat), m ≤ cap → (Instr.sliceBounds true len cap (some (a.eval x1)) (some (a.eval x2)) (some (a.eval x3))).run P w' = .ok (l.toNat, h.toNat, m.toNat) w' := by
  intro w' len cap hc
  simp only [Instr.sliceBounds, Sem.run_bind, Sem.run_pure, Result.andThen_ok, zAa (P := P) e3 (show 0 ≤ m ∧ m ≤ cap by omega), zAa (P := P) (w := w') (y := m.toNat) e2 (show 0 ≤ h ∧ h ≤ ((m.toNat : Nat) : Int) by omega), zAa (P := P) (w := w') (y := h.toNat) e1 (show 0 ≤ l ∧ l ≤ ((h.toNat : Nat) : Int) by omega)]
 cases hxv with
 | ro0 _ _ _ ad cap =>
  have hm : m = 0 := by omega
  have hn : h = 0 := by omega
  have hl : l = 0 := by omega
  subst hm hn hl
  refine ⟨.slice ad 0 0, .ro0 _ _ _ _ _, fun w' _ => ?_⟩
  have hb' := hbs w' 0 cap (by omega)
  cases hq : P.info? e with
  | none => simp [hq] at hs
  | some inf => simp [execOp, hz, Instr.sliceAt, Instr.slice, run_underlying ht, hb', sizeOf, typeInfo, hq]
 | ro _ _ _ _ b o cap val hS hlen hc hv h1' =>
  have hget : ∀ w', (execOp a.eval ⟨d, .slice t x (some x1) (some x2) (some x3), ty, pos, after, g⟩).run P w' = .ok (.value (.slice (if m.toNat = l.toNat then some ⟨b, o, none⟩ else some ⟨b, o + l.toNat * cl.sz, none⟩) (h - l).toNat (m.toNat - l.toNat))) w' := by
   intro w'
   have hb' := hbs w' n cap (by omega)
   cases hq : P.info? e with
   | none => simp [hq] at hs
   | some inf =>
    have hsz : inf.size = cl.sz := by simpa [hq] using hs
    simp [execOp, hz, Instr.sliceAt, Instr.slice, run_underlying ht, hb', sizeOf, typeInfo, hq, hsub, hsz, Addr.add_lit]
  refine ⟨_, ?_, fun w' _ => hget w'⟩
  by_cases h0 : (h - l).toNat = 0
  ·rw [h0]; exact .ro0 _ _ _ _ _
  ·have hne : ¬ m.toNat = l.toNat := by omega
   rw [if_neg hne]
   refine .ro _ _ _ _ _ _ _ (fun d j => val (l.toNat + d) j) hS (by omega) (fun d j hd hj => ?_) (fun d j hd hj => ?_) (fun d j hd hj => ?_)
   ·have := hc (l.toNat + d) j (by omega) hj
    rw [Nat.add_mul, ← Nat.add_assoc] at this
    exact this
   ·have := hv (l.toNat + d) j (by omega) hj
    rw [← Nat.add_assoc] at this
    exact this
   ·exact h1' (l.toNat + d) j (by omega) hj
end
end Go.Ax
namespace Go.Ax
variable [Pins]
open Go.RowKit
section
variable {ind : Bool} {P : Program} {fn : Func} {c : Ctx} {fr : Fr} {H : zM} {k : List It}
variable {d : Option Nat} {ty : TypeId} {pos : String} {after : Array Edge} {g : Option (Nat × Bool)}
end
theorem AEq_agg {l l' : List AV} (h : AEqs l l') : AEq (.agg l) (.agg l') := by
 intro w S σ v hv
 have hl := h.length
 cases hv with
 | agg _ _ vs h1 h2 h3 => exact .agg _ _ _ (h1.trans hl) (fun i hi => h.get i (by omega) _ _ _ _ (h2 i (by omega))) (fun i hi => h3 i (by omega))
end Go.Ax
namespace Go.Ax
variable [Pins]
open Go.RowKit
theorem px_gb {P : Program} {fn : Func} {c : Ctx} {H : zM} {all : Array Oper} {K0 : Fr} {i : Nat} {r : List Nat} {st : Go.Ax.Steps} {G : Go.Ax.Steps → Prop} {d : Nat} {t e : TypeId} {n : Nat} {parts : List (Nat × Operand)} {ty : TypeId} {pos : String} {after : Array Edge} {it : TypeInfo} {z : Value} {zs L : List AV} {l : List (Nat × AV)} {cl : Cells} {K : Fr} {j u : Nat} {p : Bool}
 (hi : all[i]? = some ⟨some d, .buildSlice t n parts.toArray, ty, pos, after, some (j, p)⟩) (hK : zFp st K0 ⟨some d, .buildSlice t n parts.toArray, ty, pos, after, some (j, p)⟩ = K) (hy : zEZ all j = some u) (hb : look u K = some (.bool p))
 (ht : P.underlying t = some (.slice e)) (hinf : P.info? e = some it) (hz : it.zero = some z) (hzs : zav z = some zs) (hsz : it.size = zs.length) (hpos : Nat.blt 0 zs.length = true) (hsmall : Nat.ble (n * zs.length) 16777216 = true)
 (hl : zCl K parts = some l) (hf : zFl (fun i => some (i * zs.length, zs.length)) (zDM zs n) l = some L) (hcl : zBv n zs.length L = cl) (hn : noRef.noRefs L = true)
 (h : zD9 P fn c H all K0 r ((i, d, .ro cl 0 n) :: st) G) : zD9 P fn c H all K0 (i :: r) st G :=
 ⟨_, _, _, hi, rfl, hK ▸ zJF hy hb (fun k fr hk h2 => zf ht hinf hz hzs hsz hpos hsmall (zFW hk hl) hf hcl hn h2), h⟩
end Go.Ax
namespace Go.Ax
variable [Pins]
open Go.RowKit
section
variable {P : Program} {fn : Func} {c : Ctx} {fr : Fr} {H : zM} {k : List It}
/-- x = append(x, y...) where x has room. -/
theorem zGh {all : Array Oper} {d : Nat} {t e : TypeId} {x y : Operand} {ty : TypeId} {pos : String} {after : Array Edge} {rest : List Oper} {inf : TypeInfo} {h n : Nat} {o : AObj} {v : AV} {cx c' : Cells} {i2 m : Nat}
 (ht : P.underlying t = some (.slice e)) (hi : P.info? e = some inf) (hszz : inf.size = o.c.sz) (hx : ev fr x = some (.sl h 0 n)) (hh : H[h]? = some (some o)) (hoty : o.ty = e) (hy : ev fr y = some v) (hs : zKm H v = some (cx, i2, m))
 (hin0 : n + m ≤ o.c.len) (hpos : 0 < o.c.len) (hin : i2 + m ≤ cx.len) (p1 : c'.sz = o.c.sz) (p2 : cx.sz = o.c.sz) (p3 : c'.len = o.c.len)
 (p4 : ∀ i' j, i' < o.c.len → j < o.c.sz → c'.at i' j = if n ≤ i' ∧ i' < n + m then cx.at (i2 + (i' - n)) j else o.c.at i' j)
 (hk : Ax P fn c (.ops false all rest k) ((d, .sl h 0 (n + m)) :: fr) (H.set h (some ⟨o.ty, c'⟩))) (hz : o.c.sz ≠ 0 := by (intro hh; cases hh)) : Ax P fn c (.ops false all (⟨some d, .call { callee := .builtin .append, args := #[x, y], argTypes := #[t, t] }, ty, pos, after, none⟩ :: rest) k) fr H := by
 refine ax_w (fun w a σ S hr => ?_) hk
 subst hoty
 have h1 := hr.evAt hx
 have h2 := hr.evAt hy
 have hsrc := hr.src h2 hs (fun _ _ => hin)
 have hexec : ∀ r w', (Builtin.append_ #[t, t] ty #[a.eval x, a.eval y]).run P w = .ok r w' → (execOp a.eval ⟨some d, .call { callee := .builtin .append, args := #[x, y], argTypes := #[t, t] }, ty, pos, after, none⟩).run P w = .ok (.value r) w' := by
  intro r w' h
  simp [execOp, resolve, invoke, builtin, h]
 generalize hzx : a.eval x = vx at h1 hexec
 generalize hzy : a.eval y = vy at h2 hsrc hexec
 unfold Src at hsrc
 rw [p2] at hsrc
 cases h1 with
 | sl0 _ _ hσ =>
  rcases hr.hr.live h o hh with ⟨_, hl⟩ | ⟨b, C, cur, hσ', _⟩
  ·omega
  ·rw [hσ] at hσ'; cases hσ'
 | sl _ _ _ _ b s C cap hσ hlen hcap =>
  obtain ⟨hs', cur, g1, g2, g3, g4, g5, g6⟩ := hr.obj hh hσ
  subst hs'
  have hcapC : cap = C := by omega
  subst hcapC
  obtain ⟨mk, g1, hmk, hrow⟩ := g1.cells hz
  rcases hsrc with ⟨rfl, ax, capx, rfl⟩ | ⟨ad, capx, news, rfl, q1, q2, q3, q4⟩
  ·have hrun : (Builtin.append_ #[t, t] ty #[.slice (some ⟨b, 0 * o.c.sz, none⟩) n cap, .slice ax 0 capx]).run P w = .ok (.slice (some ⟨b, 0 * o.c.sz, none⟩) n cap) w := by
    have hle : n ≤ cap := by omega
    cases ax <;> simp [Builtin.append_, run_underlying ht, sizeOf, typeInfo, hi, Builtin.lenOf, hle, Builtin.firstCells, loadCells, loadCellsFrom, storeCells]
   have hself := setRow_self w b cur o.ty mk g1
   have hrep := hr.setRow (cur' := cur) hh hσ hrow p1 (by omega) g2 (fun i' j hi' hj => by
    rw [p3] at hi'
    rw [p1] at hj ⊢
    rw [p4 i' j hi' hj, if_neg (by omega)]
    exact g6 i' j hi' hj)
   rw [hself] at hrep
   exact ⟨_, w, σ, S, hexec _ _ hrun, hrep, .sl _ _ _ _ _ _ _ _ hσ (by omega) (by omega)⟩
  ·have hroom : n + m ≤ cap := by omega
   have hfit : n * o.c.sz + news.length ≤ cur.size := by rw [q1, g2, ← Nat.add_mul]; exact Nat.mul_le_mul_right _ hroom
   have hrun := zE8 (P := P) w t ty o.ty inf ht hi b n cap cur g1 hmk ad m capx news (by rw [hszz]; exact q1) q2 q3 hroom (by rw [hszz]; exact hfit)
   rw [hszz] at hrun
   have hb0 : (cur.toList.take (n * o.c.sz)).length = n * o.c.sz := by rw [List.length_take]; simp; omega
   refine ⟨_, _, σ, S, hexec _ _ (by simpa using hrun), hr.setRow hh hσ hrow p1 (by omega) ?_ (fun i' j hi' hj => ?_), .sl _ _ _ _ _ _ _ _ hσ (by omega) (by omega)⟩
   ·rw [← g2]; simp; omega
   ·rw [p3] at hi'
    rw [p1] at hj ⊢
    rw [p4 i' j hi' hj]
    split
    ·rename_i hr1
     obtain ⟨u, e1, e2⟩ := q4 (i' - n) j (by omega) hj
     refine ⟨u, ?_, e2, q3 u (List.mem_of_getElem? e1)⟩
     have hidx : i' * o.c.sz + j = n * o.c.sz + ((i' - n) * o.c.sz + j) := by
      rw [← Nat.add_assoc, ← Nat.add_mul]; congr 2; omega
     have hlt : (i' - n) * o.c.sz + j < news.length := by
      rw [q1]
      have : (i' - n + 1) * o.c.sz ≤ m * o.c.sz := Nat.mul_le_mul_right _ (by omega)
      rw [Nat.add_mul] at this; omega
     simp only [List.getElem?_toArray, List.append_assoc]
     rw [hidx, List.getElem?_append_right (by omega), hb0, Nat.add_sub_cancel_left, List.getElem?_append_left hlt]
     exact e1
    ·rename_i hr1
     obtain ⟨u, e1, e2, e3⟩ := g6 i' j hi' hj
     refine ⟨u, ?_, e2, e3⟩
     simp only [List.getElem?_toArray, List.append_assoc]
     by_cases hlo : i' < n
     ·have hlt : i' * o.c.sz + j < n * o.c.sz := by
       have : (i' + 1) * o.c.sz ≤ n * o.c.sz := Nat.mul_le_mul_right _ (by omega)
       rw [Nat.add_mul] at this; omega
      rw [List.getElem?_append_left (by omega), List.getElem?_take, if_pos hlt]
      simpa using e1
     ·have hhi : n + m ≤ i' := by omega
      have hge : (n + m) * o.c.sz ≤ i' * o.c.sz := Nat.mul_le_mul_right _ hhi
      rw [Nat.add_mul, ← q1] at hge
      rw [List.getElem?_append_right (by omega), hb0, List.getElem?_append_right (by omega), List.getElem?_drop]
      have : n * o.c.sz + news.length + (i' * o.c.sz + j - n * o.c.sz - news.length) = i' * o.c.sz + j := by omega
      rw [this]
      simpa using e1
end
end Go.Ax
namespace Go.Ax
variable [Pins]
open Go.RowKit
section
variable {ind : Bool} {P : Program} {fn : Func} {c : Ctx} {fr : Fr} {H : zM} {k : List It}
variable {d : Option Nat} {ty : TypeId} {pos : String} {after : Array Edge} {g : Option (Nat × Bool)}
/-- One operation whose value nobody takes. -/
theorem ax_w0v {all : Array Oper} {op : Op} {ty : TypeId} {pos : String} {after : Array Edge} {rest : List Oper} {fr' : Fr} {H' : zM}
 (hop : ∀ w a σ S, Rep c w a σ S fn.ntmps fr H → ∃ x w' σ' S', (execOp a.eval ⟨none, op, ty, pos, after, none⟩).run P w = .ok (.value x) w' ∧ Rep c w' a σ' S' fn.ntmps fr' H')
 (h : Ax P fn c (.ops false all rest k) fr' H') : Ax P fn c (.ops false all (⟨none, op, ty, pos, after, none⟩ :: rest) k) fr H := by
 intro hd w a σ S hr
 obtain ⟨_, hd2⟩ := zB0 hd
 obtain ⟨x, w', σ', S', hrun, hr'⟩ := hop w a σ S hr
 refine wpList_step (fun K hK => ?_)
 simp only [Region.wanted, if_true]
 unfold Oper.wp
 rw [hrun]
 exact hK _ _ (h hd2 w' _ σ' S' hr')
theorem zLI {all : Array Oper} {t e : TypeId} {x : Operand} {ty : TypeId} {pos : String} {after : Array Edge} {rest : List Oper} {h i : Nat} {ob : AObj} {inf : TypeInfo} {z : Value} {v : AV} {c' : Cells}
 (ht : P.underlying t = some (.slice e)) (hi : P.info? e = some inf) (hz : inf.zero = some z) (hzc : z.cells = #[z]) (hzo : z.oneCell' = true) (hzv : ∀ (w : World) (S : Nat → Prop) (σ : Nat → Option Blk), VR w S σ v z)
 (hx : ev fr x = some (.sl h i 1)) (hh : H[h]? = some (some ob)) (hsz : ob.c.sz = 1) (hu : ob.c.upd i 0 v = some c') (hil : i < ob.c.len)
 (hk : Ax P fn c (.ops false all rest k) fr (H.set h (some ⟨ob.ty, c'⟩))) : Ax P fn c (.ops false all (⟨none, .call { callee := .builtin .clear, args := #[x], argTypes := #[t] }, ty, pos, after, none⟩ :: rest) k) fr H := by
 refine ax_w0v (fun w a σ S hr => ?_) hk
 have h1 := hr.evAt hx
 generalize hzx : a.eval x = vx at h1
 cases h1 with
 | sl _ _ _ _ b s C cap hσ hlen hcap =>
  obtain ⟨hs', cur, g1, g2, g3, g4, g5, g6⟩ := hr.obj hh hσ
  subst hs'
  obtain ⟨mk, g1, hmk, hrow⟩ := g1.cells (by omega)
  obtain ⟨l1, l2, hat⟩ := Cells.upd_spec hu
  have hin : i * ob.c.sz + 0 < cur.size := by
   rw [g2]
   have : (i + 1) * ob.c.sz ≤ C * ob.c.sz := Nat.mul_le_mul_right _ (by omega)
   rw [Nat.add_mul] at this; omega
  refine ⟨.tuple #[], w.setRow b (cur.setIfInBounds (i * ob.c.sz + 0) z), σ, S, ?_, hr.setRow hh hσ hrow l2 (by omega) (by simpa using g2) (fun i' j' hi' hj' => ?_)⟩
  ·have hc1 : w.cell? ⟨b, i * ob.c.sz + 0, none⟩ = some cur[i * ob.c.sz + 0] := by simp [World.cell?, g1, hin]
   have hf : w.frozen? ⟨b, i * ob.c.sz + 0, none⟩ = false := by simp [World.frozen?, g1]; omega
   have hst := run_store P w ⟨b, i * ob.c.sz + 0, none⟩ z .plain hzo
   rw [hc1] at hst
   simp only [hf, Bool.false_eq_true, if_false, setCell_eq_setRow w b (i * ob.c.sz + 0) cur ob.ty mk z g1] at hst
   simp only [Nat.add_zero] at hst
   have hzz : (zeroValue e).run P w = .ok z w := by simp [zeroValue, typeInfo, hi, hz]
   have hzl : (Builtin.zeroCells z.cells 1).toList = [z] := by rw [hzc]; simp [Builtin.zeroCells]
   have hclear : (Builtin.clear_ #[t] ty #[.slice (some ⟨b, i * ob.c.sz, none⟩) 1 cap]).run P w = .ok (.tuple #[]) (w.setRow b (cur.setIfInBounds (i * ob.c.sz + 0) z)) := by
    simp [Builtin.clear_, run_underlying ht, hzz, hzl, storeCells, Addr.add_lit, hst]
    try rfl
   simp [execOp, resolve, invoke, builtin, hzx, hclear]
  ·rw [l1] at hi'
   rw [l2] at hj' ⊢
   rw [hat i' j' hi' hj' hil (by omega)]
   by_cases he : i' = i ∧ j' = 0
   ·obtain ⟨rfl, rfl⟩ := he
    simp only [and_self, if_true]
    exact ⟨z, by rw [Array.getElem?_setIfInBounds_self_of_lt hin], hzv _ _ _, hzo⟩
   ·rw [if_neg he]
    obtain ⟨v', e1, e2, e3⟩ := g6 i' j' hi' hj'
    refine ⟨v', ?_, e2, e3⟩
    have hne : ¬ i * ob.c.sz + 0 = i' * ob.c.sz + j' := by
     intro e
     apply he
     rw [hsz] at e hj'
     omega
    rw [Array.getElem?_setIfInBounds_ne hne]
    exact e1
theorem zMe {x x1 x2 x3 : Operand} {t e : TypeId} {h' i n : Nat} {ob : AObj} {k1 k2 k3 : IntKind} {l h m : Int} (ht : P.underlying t = some (.slice e)) (hx : ev fr x = some (.sl h' i n)) (hh : H[h']? = some (some ob)) (hs : (P.info? e).map (·.size) = some ob.c.sz) (h1 : ev fr x1 = some (.int k1 l)) (h2 : ev fr x2 = some (.int k2 h)) (h3 : ev fr x3 = some (.int k3 m)) (hb : 0 ≤ l ∧ l ≤ h ∧ h ≤ m ∧ m ≤ n) :
 QOp ind P fn c fr H ⟨d, .slice t x (some x1) (some x2) (some x3), ty, pos, after, g⟩ .any := by
 intro w a σ S hr
 have hxv := hr.evAt hx
 have e1 := hr.evInt h1
 have e2 := hr.evInt h2
 have e3 := hr.evInt h3
 generalize hz : a.eval x = z at hxv
 have hbs : ∀ (w' : World) (len cap : Nat), m ≤ cap → (Instr.sliceBounds true len cap (some (a.eval x1)) (some (a.eval x2)) (some (a.eval x3))).run P w' = .ok (l.toNat, h.toNat, m.toNat) w' := by
  intro w' len cap hc
  simp only [Instr.sliceBounds, Sem.run_bind, Sem.run_pure, Result.andThen_ok, zAa (P := P) e3 (show 0 ≤ m ∧ m ≤ cap by omega), zAa (P := P) (w := w') (y := m.toNat) e2 (show 0 ≤ h ∧ h ≤ ((m.toNat : Nat) : Int) by omega), zAa (P := P) (w := w') (y := h.toNat) e1 (show 0 ≤ l ∧ l ≤ ((h.toNat : Nat) : Int) by omega)]
 cases hq : P.info? e with
 | none => simp [hq] at hs
 | some inf =>
  cases hxv with
  | sl0 =>
   refine ⟨.slice none (h.toNat - l.toNat) (m.toNat - l.toNat), .any _ _, fun w' _ => ?_⟩
   have hb' := hbs w' 0 0 (by omega)
   simp [execOp, hz, Instr.sliceAt, Instr.slice, run_underlying ht, hb', sizeOf, typeInfo, hq]
  | sl _ _ _ _ b s C cap hσ hlen hcap =>
   refine ⟨.slice (if m.toNat = l.toNat then some ⟨b, i * s, none⟩ else some ⟨b, i * s + l.toNat * inf.size, none⟩) (h.toNat - l.toNat) (m.toNat - l.toNat), .any _ _, fun w' _ => ?_⟩
   have hb' := hbs w' n cap (by omega)
   simp [execOp, hz, Instr.sliceAt, Instr.slice, run_underlying ht, hb', sizeOf, typeInfo, hq, Addr.add_lit]
theorem zJb {x x1 x2 : Operand} {t e : TypeId} {h' n : Nat} {ob : AObj} {k1 k2 : IntKind} {l h : Int} (ht : P.underlying t = some (.slice e)) (hx : ev fr x = some (.sl h' 0 n)) (hh : H[h']? = some (some ob)) (hs : (P.info? e).map (·.size) = some ob.c.sz) (h1 : ev fr x1 = some (.int k1 l)) (h2 : ev fr x2 = some (.int k2 h)) (hb : 0 ≤ l ∧ l < h ∧ h ≤ ob.c.len) (hn : 0 < n) :
 QOp ind P fn c fr H ⟨d, .slice t x (some x1) (some x2) none, ty, pos, after, g⟩ (.sl h' l.toNat (h - l).toNat) := by
 intro w a σ S hr
 have hxv := hr.evAt hx
 have e1 := hr.evInt h1
 have e2 := hr.evInt h2
 generalize hz : a.eval x = z at hxv
 have hsub : h.toNat - l.toNat = (h - l).toNat := by omega
 cases hxv with
 | sl0 => omega
 | sl _ _ _ _ b s C cap hσ hlen hcap =>
  obtain ⟨hs', cur, g1, g2, g3, g4, g5, g6⟩ := hr.obj hh hσ
  subst hs'
  have hne : ¬ cap = l.toNat := by omega
  refine ⟨.slice (some ⟨b, l.toNat * ob.c.sz, none⟩) (h - l).toNat (cap - l.toNat), .sl _ _ _ _ _ _ C _ hσ (by omega) (by omega), fun w' _ => ?_⟩
  have hbs : (Instr.sliceBounds true n cap (some (a.eval x1)) (some (a.eval x2)) none).run P w' = .ok (l.toNat, h.toNat, cap) w' := by
   simp only [Instr.sliceBounds, Sem.run_bind, Sem.run_pure, Result.andThen_ok, zAa (P := P) (w := w') (y := cap) e2 (show 0 ≤ h ∧ h ≤ (cap : Int) by omega), zAa (P := P) (w := w') (y := h.toNat) e1 (show 0 ≤ l ∧ l ≤ ((h.toNat : Nat) : Int) by omega)]
  cases hq : P.info? e with
  | none => simp [hq] at hs
  | some inf =>
   have hsz : inf.size = ob.c.sz := by simpa [hq] using hs
   simp [execOp, hz, Instr.sliceAt, Instr.slice, run_underlying ht, hbs, sizeOf, typeInfo, hq, hsub, hsz, Addr.add_lit, hne, Nat.add_mul]
/-- The empty end of an own row. -/
theorem zNp {x x1 : Operand} {t e : TypeId} {h' n : Nat} {ob : AObj} {k1 : IntKind} {l : Int} (cl : Cells) (ht : P.underlying t = some (.slice e)) (hx : ev fr x = some (.sl h' 0 n)) (hh : H[h']? = some (some ob)) (hs : (P.info? e).map (·.size) = some ob.c.sz) (h1 : ev fr x1 = some (.int k1 l)) (hb : l = n) :
 QOp ind P fn c fr H ⟨d, .slice t x (some x1) none none, ty, pos, after, g⟩ (.ro cl 0 0) := by
 intro w a σ S hr
 have hxv := hr.evAt hx
 have e1 := hr.evInt h1
 generalize hz : a.eval x = z at hxv
 subst hb
 have hbs : ∀ (w' : World) (cap : Nat), n ≤ cap → (Instr.sliceBounds true n cap (some (a.eval x1)) none none).run P w' = .ok (n, n, cap) w' := by
  intro w' cap hc
  simp only [Instr.sliceBounds, Sem.run_bind, Sem.run_pure, Result.andThen_ok, zAa (P := P) (w := w') (y := n) e1 (show 0 ≤ ((n : Nat) : Int) ∧ ((n : Nat) : Int) ≤ ((n : Nat) : Int) by omega), Int.toNat_natCast]
 cases hq : P.info? e with
 | none => simp [hq] at hs
 | some inf =>
  cases hxv with
  | sl0 =>
   refine ⟨.slice none (0 - 0) (0 - 0), .ro0 _ _ _ _ _, fun w' _ => ?_⟩
   have hb' := hbs w' 0 (by omega)
   simp [execOp, hz, Instr.sliceAt, Instr.slice, run_underlying ht, hb', sizeOf, typeInfo, hq]
  | sl _ _ _ _ b s C cap hσ hlen hcap =>
   refine ⟨.slice (if cap = n then some ⟨b, 0 * s, none⟩ else some ⟨b, 0 * s + n * inf.size, none⟩) 0 (cap - n), .ro0 _ _ _ _ _, fun w' _ => ?_⟩
   have hb' := hbs w' cap (by omega)
   simp [execOp, hz, Instr.sliceAt, Instr.slice, run_underlying ht, hb', sizeOf, typeInfo, hq, Addr.add_lit]
end
end Go.Ax
namespace Go.Proofs.YtkncmbklkhjmgaaGreatDoor
open Go.Ax
/-- What the walks of this seat know of the listed variables. -/
def pinG (w : World) : Prop := True
 ∧ Lib.TabIs Tryz.prog w "internal/strconv.uint64pow10" .u64 Lib.pow10Tab
 ∧ (∃ tp p, w.var? Tryz.prog "strconv.ErrSyntax" = some #[.iface tp p]) ∧ (∃ tp p, w.var? Tryz.prog "strconv.ErrRange" = some #[.iface tp p])
 ∧ True
instance : Pins := ⟨fun w _ => pinG w⟩
theorem zJP {n : String} {w w' : World} (h : ∀ b, b < w.heap.size → w'.heap[b]? = w.heap[b]?) {cs : Array Value} (hv : w.var? Tryz.prog n = some cs) : w'.var? Tryz.prog n = some cs := by
 unfold World.var? at hv ⊢
 cases hg : Tryz.prog.globalNamed n with
 | none => simp [hg] at hv
 | some g =>
  simp only [hg, Option.bind_some] at hv ⊢
  have hlt : g < w.heap.size := by
   rcases Nat.lt_or_ge g w.heap.size with q | q
   ·exact q
   ·have : w.heap[g]? = none := by simp [q]
    simp [this] at hv
  rw [h g hlt]; exact hv
theorem pin_up {W : World} {S : Nat → Prop} (h : pinG W) : zEu W S (fun _ => none) [] := by
 intro w' S' _ _ hb
 have hb' : ∀ b, b < W.heap.size → w'.heap[b]? = W.heap[b]? := fun b hl => hb b hl (by rintro ⟨h, o, s, C, h1, _⟩; simp at h1)
 show pinG w'
 unfold pinG at h ⊢
 obtain ⟨_, h⟩ := h
 obtain ⟨h1, h⟩ := h
 obtain ⟨⟨t1, p1, e1⟩, ⟨t2, p2, e2⟩, h⟩ := h
 refine ⟨trivial, ?_⟩
 refine ⟨zJP hb' h1, ?_⟩
 refine ⟨⟨t1, p1, zJP hb' e1⟩, ⟨t2, p2, zJP hb' e2⟩, ?_⟩
 trivial
end Go.Proofs.YtkncmbklkhjmgaaGreatDoor
namespace Go.Proofs.YtkncmbklkhjmgaaGreatDoor
open Go.Ax Go.Ax.Bg Go.RowKit
attribute [local irreducible] Ax zBk QOp zT
theorem norm_raw (l : List Int) (hl : Lim l) (hlen : l.length ≤ 1000000000) : zV Tryz.prog 223 [.ro (.ints .u32 l) 0 l.length] (.ro (.ints .u32 l) 0 (zR (zc l)).length) := by
 refine zT.value0 (zE (P := Tryz.prog) (fn := Tryz.f223) Z Z (by kernel_rfl) Z (fun c hR hfix => ?_)) (fix := fun _ => False) (fun _ h => h) Z Z
 refine rn1 ?_
 refine ze (ι := Nat) (fun k => [(0, .ro (.ints .u32 l) 0 k)]) (fun _ => []) (fun k => k ≤ l.length ∧ ∀ i, k ≤ i → i < l.length → l.getD i 0 = 0) (fun k => k) l.length ⟨⟨Z, trivial⟩, Z, Nat.le_refl _, fun i h1 h2 => by omega⟩ ?_
 rintro k ⟨hk, hz⟩
 have fin : (k = 0 ∨ l.getD (k - 1) 0 ≠ 0) → (zR (zc l)).length = k := fun h => by
  rw [← zQ1 hl hk hz h, List.length_take, Nat.min_eq_left hk]
 refine rn6 ?_
 refine zAe Z Z (fun h0 => ?_) (fun h0 => ?_)
 ·have hk1 : 0 < k := by omega
  have e1 : ((k : Int) - 1).toNat = k - 1 := by omega
  refine zHb ?_
  refine zA Z (fun h1 => ?_) (fun h1 => ?_)
  ·rw [e1] at h1
   refine rn19 ?_
   refine zK ⟨k - 1, ⟨by omega, fun i h2 h3 => ?_⟩, by omega, ⟨?_, trivial⟩, Z⟩
   ·by_cases h4 : i = k - 1
    ·subst h4; exact h1
    ·exact hz i (by omega) h3
   ·show some (AV.ro (.ints .u32 l) (0 + 0) _) = _
    congr 2
    omega
  ·rw [e1] at h1
   refine rn5 ?_
   exact zL hR Z (by rw [fin (.inr h1)]; rfl)
 ·refine rn6 ?_
  exact zL hR Z (by rw [fin (.inl (by omega))]; rfl)
theorem zD6 (l : List Int) (hl : Lim l) (hlen : l.length ≤ 1000000000) : zV Tryz.prog 223 [zGF l] (zg (zc l)) := by
 refine zV.res (norm_raw l hl hlen) ?_
 exact AEq.lim (zRZ hl) (zAd (zAt hl))
theorem zG2 (m : Nat) (hm : m < 18446744073709551616) : zV Tryz.prog 227 [.int .u64 (m : Nat)] (zg m) := by
 have hc := zD6 [((m % 4294967296 : Nat) : Int), ((m / 2 ^ 32 % 4294967296 : Nat) : Int)] (by
  rw [Lim.cons]; exact ⟨zD5 m, Lim.one (zD5 _)⟩) (by simp)
 have hv : zc [((m % 4294967296 : Nat) : Int), ((m / 2 ^ 32 % 4294967296 : Nat) : Int)] = m := by
  simp only [zc, Int.toNat_natCast]
  unfold B
  omega
 rw [hv] at hc
 refine zT.value0 (zE (P := Tryz.prog) (fn := Tryz.f227) Z Z (by kernel_rfl) Z (fun c hR hfix => ?_)) (fix := fun _ => False) (fun _ h => h) Z Z
 refine rn0 ?_
 refine zF (zGK (m := m) Z Z Z zFB) ?_
 repeat (refine zF (zJ rfl) ?_)
 refine zF (zGL (m := m) (s := 32) Z Z Z) ?_
 refine zF (zGK Z Z Z zFB) ?_
 repeat (refine zf rfl rfl rfl rfl rfl rfl rfl rfl rfl rfl rfl ?_)
 refine zB Z Z Z hc ?_
 refine rn0 ?_
 exact zL hR Z Z
theorem zMV {a b c : Nat} (ha : a < 4294967296) (hb : b < 4294967296) (hc : c < 4294967296) : a * b < 18446744073709551616 ∧ c + a * b < 18446744073709551616 := by
 have : a * b ≤ 4294967295 * 4294967295 := Nat.mul_le_mul (by omega) (by omega)
 omega
theorem zQz (n : List Int) (x y : Nat) (hn : Lim n) (hlen : n.length ≤ 100000000) (hx : x < 4294967296) (hy : y < 4294967296) :
 zV Tryz.prog 162 [zGF n, .int .u32 (x : Nat), .int .u32 (y : Nat)] (zg (zc n * x + y)) := by
 refine zT.value0 (zE (P := Tryz.prog) (fn := Tryz.f162) Z Z (by kernel_rfl) Z (fun c hR hfix => ?_)) (fix := fun _ => False) (fun _ h => h) Z Z
 refine rn3 ?_
 refine zCy Z Z Z Z Z Z Z Z (by show (0 : Int) ≤ 0 ∧ _ ≤ _ ∧ (4 : Int) * _ ≤ _ ∧ _; omega) ?_
 refine rn0 ?_
 refine zF (zAR (m := y) Z Z Z zBV (by omega)) ?_
 refine zMC 0 (.ints .u32 []) Z ⟨Nat.zero_le _, Z, fun i j hi _ => absurd hi (Nat.not_lt_zero _)⟩ ?_
 refine rn3 ?_
 refine ze (ι := Nat × List Int × Nat) (fun p => [(0, zGF n), (1, .int .u32 (x : Nat)), (7, .sl 0 0 p.1), (8, .int .u64 (p.2.2 : Nat)), (17, zGF n), (18, iN n.length), (19, iN p.1)]) (fun p => [some ⟨223, .ints .u32 p.2.1⟩])
  (fun p => p.1 ≤ n.length ∧ p.2.1.length = p.1 ∧ Lim p.2.1 ∧ p.2.2 < 4294967296 ∧ zc p.2.1 + B ^ p.1 * p.2.2 = zc (n.take p.1) * x + y) (fun p => n.length - p.1) (0, [], y) ⟨⟨rfl, rfl, rfl, rfl, rfl, rfl, rfl, trivial⟩, rfl, Nat.zero_le _, rfl, Lim.nil, hy, by simp [zc]⟩ ?_
 rintro ⟨i, out, cr⟩ ⟨h1, h2, h3, h4, h5⟩
 simp only at *
 refine rn4 ?_
 refine zA Z (fun h6 => ?_) (fun h6 => ?_)
 ·have hil : i < n.length := by omega
  obtain ⟨d, hd, hdB⟩ := hn.nat i
  have hb := zMV (a := d) (b := x) (c := cr) hdB hx h4
  have hq : (cr + d * x) / 4294967296 < 4294967296 := by omega
  refine rn6 ?_
  refine zD 24 (.int .u32 (d : Nat)) Z (AEq.of_eq (by rw [hd])) ?_
  refine zF (zAR (m := d) Z Z Z zBV (by omega)) ?_
  repeat (refine zF (zJ rfl) ?_)
  refine zF (zAR (m := x) Z Z Z zBV (by omega)) ?_
  refine zF (zJH Z Z zBV hb.1) ?_
  refine zF (zFa Z Z zBV hb.2) ?_
  refine rn0 ?_
  refine zF (zGK Z Z Z zFB) ?_
  repeat (refine zf rfl rfl rfl rfl rfl rfl rfl rfl rfl rfl rfl ?_)
  refine zo Z Z Z Z Z Z Z Z Z h2 Z Z (Nat.le_refl 1) Z (by show (i + 1) * 4 ≤ _ ∧ _; omega) (fun i j _ _ => rfl) (by rw [hfix]; exact fun h => h) ?_
  refine rn0 ?_
  refine zF (zGL (s := 32) Z Z Z) ?_
  refine rn5 ?_
  refine zK ⟨(i + 1, out ++ [(((cr + d * x) % 4294967296 : Nat) : Int)], (cr + d * x) / 4294967296), ⟨by simp only; omega, by simp [h2], Lim.append.2 ⟨h3, Lim.one (zD5 _)⟩, hq, ?_⟩, by simp only; omega, ⟨Z, Z, Z, Z, Z, Z, Z, trivial⟩, Z⟩
  have := zH2 h2 h5 (c := cr + d * x) (d := d * x) rfl
  rw [zv n i, hd, Int.toNat_natCast, Nat.add_mul, Nat.mul_assoc]
  simp only at this ⊢
  rw [this]
  omega
 ·have hie : i = n.length := by omega
  subst hie
  rw [List.take_length] at h5
  refine rn5 ?_
  refine zF (zGK (m := cr) Z Z Z zFB) ?_
  repeat (refine zf rfl rfl rfl rfl rfl rfl rfl rfl rfl rfl rfl ?_)
  refine zo Z Z Z Z Z Z Z Z Z h2 Z Z (Nat.le_refl 1) Z (by show (n.length + 1) * 4 ≤ _ ∧ _; omega) (fun i j _ _ => rfl) (by rw [hfix]; exact fun h => h) ?_
  have hl : Lim (out ++ [((cr % 4294967296 : Nat) : Int)]) := Lim.append.2 ⟨h3, Lim.one (zD5 _)⟩
  have hc := zD6 _ hl (by simp; omega)
  have hv : zc (out ++ [((cr % 4294967296 : Nat) : Int)]) = zc n * x + y := by
   rw [zD1, h2, Int.toNat_natCast, Nat.mod_eq_of_lt h4]; exact h5
  rw [hv] at hc
  refine zCx 0 42 (n.length + 1) [] Z zAs Z (by show _ ≤ (out ++ [((cr % 4294967296 : Nat) : Int)]).length; simp; omega) trivial ?_
  refine zB Z Z (by show [AV.ro _ 0 (n.length + 1)] ++ [] = [zGF (out ++ [((cr % 4294967296 : Nat) : Int)])]; simp only [zGF, List.length_append, h2]; rfl) hc ?_
  refine rn0 ?_
  exact zL hR Z Z
theorem isNaNi (n : Int) : zV Tryz.prog 286 [.int .i64 n] (.bool false) := by
 refine zT.value0 (zE (P := Tryz.prog) (fn := Tryz.f286) Z Z (by kernel_rfl) Z (fun c hR hfix => ?_)) (fix := fun _ => False) (fun _ h => h) Z Z
 refine rn3 ?_
 refine zL hR Z ?_
 simp [zBt]
theorem isNaNu (n : Int) : zV Tryz.prog 287 [.int .u32 n] (.bool false) := by
 refine zT.value0 (zE (P := Tryz.prog) (fn := Tryz.f287) Z Z (by kernel_rfl) Z (fun c hR hfix => ?_)) (fix := fun _ => False) (fun _ h => h) Z Z
 refine rn3 ?_
 refine zL hR Z ?_
 simp [zBt]
theorem cmpi (x y : Int) : zV Tryz.prog 272 [.int .i64 x, .int .i64 y] (.int .i64 (zEC x y)) := by
 refine zT.value0 (zE (P := Tryz.prog) (fn := Tryz.f272) Z Z (by kernel_rfl) Z (fun c hR hfix => ?_)) (fix := fun _ => False) (fun _ h => h) Z Z
 refine rn0 ?_
 refine zB Z Z Z (isNaNi x) ?_
 refine rn0 ?_
 refine zB Z Z Z (isNaNi y) ?_
 refine rn4 ?_
 refine zA Z (fun h => ?_) (fun h => ?_)
 ·refine rn2 ?_
  refine zL hR Z ?_
  unfold zEC; rw [if_pos h]; rfl
 ·refine rn6 ?_
  refine zA Z (fun h2 => ?_) (fun h2 => ?_)
  ·refine rn2 ?_
   refine zL hR Z ?_
   unfold zEC; rw [if_neg h, if_pos h2]; rfl
  ·refine rn1 ?_
   refine zL hR Z ?_
   unfold zEC; rw [if_neg h, if_neg h2]; rfl
theorem cmpu (x y : Int) : zV Tryz.prog 273 [.int .u32 x, .int .u32 y] (.int .i64 (zEC x y)) := by
 refine zT.value0 (zE (P := Tryz.prog) (fn := Tryz.f273) Z Z (by kernel_rfl) Z (fun c hR hfix => ?_)) (fix := fun _ => False) (fun _ h => h) Z Z
 refine rn0 ?_
 refine zB Z Z Z (isNaNu x) ?_
 refine rn0 ?_
 refine zB Z Z Z (isNaNu y) ?_
 refine rn4 ?_
 refine zA Z (fun h => ?_) (fun h => ?_)
 ·refine rn2 ?_
  refine zL hR Z ?_
  unfold zEC; rw [if_pos h]; rfl
 ·refine rn6 ?_
  refine zA Z (fun h2 => ?_) (fun h2 => ?_)
  ·refine rn2 ?_
   refine zL hR Z ?_
   unfold zEC; rw [if_neg h, if_pos h2]; rfl
  ·refine rn1 ?_
   refine zL hR Z ?_
   unfold zEC; rw [if_neg h, if_neg h2]; rfl
theorem zMH (a b : Nat) (ha : (zR a).length ≤ 1000000000) (hb : (zR b).length ≤ 1000000000) : zV Tryz.prog 224 [zg a, zg b] (.int .i64 (zEC a b)) := by
 have c1 := cmpi (zR a).length (zR b).length
 refine zT.value0 (zE (P := Tryz.prog) (fn := Tryz.f224) Z Z (by kernel_rfl) Z (fun c hR hfix => ?_)) (fix := fun _ => False) (fun _ h => h) Z Z
 have la := zAP a
 have lb := zAP b
 have e1 := cmp_len a b
 have e2 : ∀ i, i < (zR a).length → (zR a).length = (zR b).length → (∀ j, i < j → j < (zR a).length → (zR a).getD j 0 = (zR b).getD j 0) → (zR a).getD i 0 ≠ (zR b).getD i 0 → zEC a b = zEC ((zR a).getD i 0) ((zR b).getD i 0) := fun i hi hl hj hne => cmp_limb la lb hl hi hj hne
 have e3 : (zR a).length = (zR b).length → (∀ j, j < (zR a).length → (zR a).getD j 0 = (zR b).getD j 0) → zEC a b = 0 := cmp_same
 unfold zg
 generalize zR a = x at *
 generalize zR b = y at *
 generalize zEC (a : Int) (b : Int) = r at *
 refine rn3 ?_
 refine zA Z (fun h0 => ?_) (fun h0 => ?_)
 ·refine rn3 ?_
  refine zB Z Z Z c1 ?_
  refine rn2 ?_
  refine zL hR Z ?_
  rw [e1 (by omega)]; rfl
 ·have hl : x.length = y.length := by omega
  refine rn7 ?_
  refine ze (ι := Nat) (fun k => [(0, .ro (.ints .u32 x) 0 x.length), (1, .ro (.ints .u32 y) 0 y.length), (5, .int .i64 ((k : Int) - 1))]) (fun _ => []) (fun k => k ≤ x.length ∧ ∀ j, k ≤ j → j < x.length → x.getD j 0 = y.getD j 0) (fun k => k) x.length ⟨⟨Z, Z, Z, trivial⟩, Z, Nat.le_refl _, fun j h1 h2 => by omega⟩ ?_
  rintro k ⟨hk, hz⟩
  refine rn7 ?_
  refine zA Z (fun h1 => ?_) (fun h1 => ?_)
  ·have ek : ((k : Int) - 1).toNat = k - 1 := by omega
   refine rn1 ?_
   refine zDs (by kernel_rfl) (by kernel_rfl) Z ?_
   refine rn6 ?_
   refine zA Z (fun h2 => ?_) (fun h2 => ?_)
   ·rw [ek] at h2
    have c2 := cmpu (x.getD (k - 1) 0) (y.getD (k - 1) 0)
    repeat (refine zx ?_)
    refine zh (by kernel_rfl) ?_
    refine zU 0 Z (by kernel_rfl) (by kernel_rfl) (by kernel_rfl) Z (zJ Z) Z ?_
    refine zU 1 Z (by kernel_rfl) (by kernel_rfl) (by kernel_rfl) Z (zJ Z) Z ?_
    refine zU 2 Z (by kernel_rfl) (by kernel_rfl) (by kernel_rfl) Z (z8 Z Z Z Z (by first | (simp only [Nat.zero_add, Int.toNat_natCast, Int.toNat_zero]; exact Z) | exact Z) (by omega)) Z ?_
    refine zU 4 Z (by kernel_rfl) (by kernel_rfl) (by kernel_rfl) Z (zJ Z) Z ?_
    refine zU 5 Z (by kernel_rfl) (by kernel_rfl) (by kernel_rfl) Z (zJ Z) Z ?_
    refine zU 6 Z (by kernel_rfl) (by kernel_rfl) (by kernel_rfl) Z (z8 Z Z Z Z (by first | (simp only [Nat.zero_add, Int.toNat_natCast, Int.toNat_zero]; exact Z) | exact Z) (by omega)) Z ?_
    apply zDQ [(35, .int .u32 (x.getD ((k : Int) - 1).toNat 0)), (39, .int .u32 (y.getD ((k : Int) - 1).toNat 0))]
    ·intro fin
     refine zG (is := [3, 7]) (by kernel_rfl) (by simp) Z ⟨fun o ho => ?_, fun o ho => ?_, trivial⟩
     all_goals (cases ho)
     ·refine rn6 ?_
      refine zG (is := [7]) (by kernel_rfl) (by simp) Z ⟨fun o ho => ?_, trivial⟩
      all_goals (cases ho)
      refine rn6 ?_
      exact fin _ ⟨Z, Z, trivial⟩
     ·refine rn6 ?_
      refine zG (is := [3]) (by kernel_rfl) (by simp) Z ⟨fun o ho => ?_, trivial⟩
      all_goals (cases ho)
      refine rn6 ?_
      exact fin _ ⟨Z, Z, trivial⟩
    refine zG (is := [8]) (by kernel_rfl) (by simp) Z ⟨fun o ho => ?_, trivial⟩
    all_goals (cases ho)
    skip
    refine zB Z Z Z (by rw [ek]; exact c2) ?_
    refine rn1 ?_
    refine zU 9 Z (by kernel_rfl) (by kernel_rfl) (by kernel_rfl) Z (zl Z) Z ?_
    refine zW (by kernel_rfl) ?_
    refine rn6 ?_
    refine zL hR Z ?_
    rw [e2 (k - 1) (by omega) hl (fun j h3 h4 => hz j (by omega) h4) h2]; rfl
   ·rw [ek] at h2
    refine rn7 ?_
    refine zK ⟨k - 1, ⟨by omega, fun j h3 h4 => ?_⟩, by omega, ⟨Z, Z, ?_, trivial⟩, Z⟩
    ·by_cases h5 : j = k - 1
     ·subst h5; exact Classical.not_not.1 h2
     ·exact hz j (by omega) h4
    ·show some (AV.int .i64 _) = _
     congr 2
     omega
  ·refine rn5 ?_
   refine zL hR Z ?_
   rw [e3 hl (fun j h3 => hz j (by omega) h3)]; rfl
theorem zDV {out : List Int} {m : Nat} (h : out.length = m) : [AV.ro (.ints .u32 out) 0 m] ++ [] = [zGF out] := by
 subst h; rfl
theorem add_ok (a b : Nat) (ha : (zR a).length ≤ 100000000) (hb : (zR b).length ≤ 100000000) : zV Tryz.prog 246 [zg a, zg b] (zg (a + b)) := by
 refine zT.value0 (zE (P := Tryz.prog) (fn := Tryz.f246) Z Z (by kernel_rfl) Z (fun c hR hfix => ?_)) (fix := fun _ => False) (fun _ h => h) Z Z
 obtain ⟨p, q, hpq, hlen, hL⟩ : ∃ p q : Nat, p + q = a + b ∧ (zR q).length ≤ (zR p).length ∧ (((zR a).length < (zR b).length ∧ p = b ∧ q = a) ∨ (¬ (zR a).length < (zR b).length ∧ p = a ∧ q = b)) := by
  rcases Nat.lt_or_ge (zR a).length (zR b).length with h | h
  ·exact ⟨b, a, by omega, by omega, .inl ⟨h, Z, Z⟩⟩
  ·exact ⟨a, b, Z, h, .inr ⟨by omega, Z, Z⟩⟩
 have hpl : (zR p).length ≤ 100000000 := by rcases hL with ⟨_, rfl, rfl⟩ | ⟨_, rfl, rfl⟩ <;> assumption
 apply zAG (H := []) [(0, zg p), (1, zg q)]
 ·intro fin
  unfold zg at fin ⊢
  refine rn4 ?_
  refine zA Z (fun h0 => ?_) (fun h0 => ?_)
  ·have : p = b ∧ q = a := by
    rcases hL with h | h
    ·exact h.2
    ·exact absurd (by omega) h.1
   obtain ⟨rfl, rfl⟩ := this
   skip
   refine zd Z ?_
   refine zBa ?_
   exact fin _ ⟨Z, Z, trivial⟩
  ·have : p = a ∧ q = b := by
    rcases hL with h | h
    ·exact absurd (by omega) h0
    ·exact h.2
   obtain ⟨rfl, rfl⟩ := this
   refine zBa ?_
   exact fin _ ⟨Z, Z, trivial⟩
 have hx := zAP p
 have hy := zAP q
 have hv : zc (zR p) + zc (zR q) = a + b := by rw [zz, zz, hpq]
 unfold zg
 rw [← hv] at hR
 generalize zR p = x at *
 generalize zR q = y at *
 refine rn3 ?_
 refine zCy Z Z Z Z Z Z Z Z (by show (0 : Int) ≤ 0 ∧ _ ≤ _ ∧ (4 : Int) * _ ≤ _ ∧ _; omega) ?_
 refine rn3 ?_
 refine zID 0 (.ints .u32 []) Z ⟨Nat.zero_le _, Z, fun i j hi _ => absurd hi (Nat.not_lt_zero _)⟩ ?_
 refine ze (ι := Nat × List Int × Nat) (fun p => [(1, .ro (.ints .u32 y) 0 y.length), (5, .sl 0 0 p.1), (6, .int .u64 (p.2.2 : Nat)), (20, .ro (.ints .u32 x) 0 x.length), (21, iN x.length), (22, iN p.1)]) (fun p => [some ⟨223, .ints .u32 p.2.1⟩])
  (fun p => p.1 ≤ x.length ∧ p.2.1.length = p.1 ∧ Lim p.2.1 ∧ p.2.2 < 4294967296 ∧ zc p.2.1 + B ^ p.1 * p.2.2 = zc (x.take p.1) + zc (y.take p.1)) (fun p => x.length - p.1) (0, [], 0) ⟨⟨rfl, rfl, rfl, rfl, rfl, rfl, trivial⟩, rfl, Nat.zero_le _, rfl, Lim.nil, by decide, by simp [zc]⟩ ?_
 rintro ⟨i, out, cr⟩ ⟨h1, h2, h3, h4, h5⟩
 simp only at *
 refine rn4 ?_
 refine zA Z (fun h6 => ?_) (fun h6 => ?_)
 ·have hil : i < x.length := by omega
  obtain ⟨d, hd, hdB⟩ := hx.nat i
  obtain ⟨e, he, heB⟩ := hy.nat i
  refine rn6 ?_
  refine zD 28 (.int .u32 (d : Nat)) Z (AEq.of_eq (by rw [hd])) ?_
  refine zF (zAR (m := d) Z Z Z zBV (by omega)) ?_
  refine zF (zFa Z Z zBV (by omega)) ?_
  refine rn4 ?_
  apply zAG (H := [some ⟨223, .ints .u32 out⟩]) [(1, .ro (.ints .u32 y) 0 y.length), (5, .sl 0 0 i), (6, .int .u64 (cr + d + e : Nat)), (20, .ro (.ints .u32 x) 0 x.length), (21, iN x.length), (22, iN i)]
  ·intro fin
   refine zA Z (fun h7 => ?_) (fun h7 => ?_)
   ·refine rn6 ?_
    refine zD 39 (.int .u32 (e : Nat)) Z (AEq.of_eq (by rw [he])) ?_
    refine zF (zAR (m := e) Z Z Z zBV (by omega)) ?_
    refine zF (zFa Z Z zBV (by omega)) ?_
    refine zBa ?_
    exact fin _ ⟨Z, Z, Z, Z, Z, Z, trivial⟩
   ·have he0 : e = 0 := by
     have : y.getD i 0 = 0 := by simp [List.getD, List.getElem?_eq_none (show y.length ≤ i by omega)]
     omega
    subst he0
    refine zBa ?_
    exact fin _ ⟨Z, Z, Z, Z, Z, Z, trivial⟩
  refine rn0 ?_
  refine zF (zGK Z Z Z zFB) ?_
  repeat (refine zf rfl rfl rfl rfl rfl rfl rfl rfl rfl rfl rfl ?_)
  refine zo Z Z Z Z Z Z Z Z Z h2 Z Z (Nat.le_refl 1) Z (by show (i + 1) * 4 ≤ _ ∧ _; omega) (fun i j _ _ => rfl) (by rw [hfix]; exact fun h => h) ?_
  refine rn0 ?_
  refine zF (zGL (s := 32) Z Z Z) ?_
  refine rn5 ?_
  exact zK ⟨(i + 1, out ++ [(((cr + d + e) % 4294967296 : Nat) : Int)], (cr + d + e) / 4294967296), ⟨by simp only; omega, by simp [h2], Lim.append.2 ⟨h3, Lim.one (zD5 _)⟩, by simp only; omega, zMr h2 h5 hd he⟩, by simp only; omega, ⟨Z, Z, Z, Z, Z, Z, trivial⟩, Z⟩
 ·have hie : i = x.length := by omega
  subst hie
  rw [List.take_length, List.take_of_length_le hlen] at h5
  refine rn5 ?_
  refine zF (zGK (m := cr) Z Z Z zFB) ?_
  repeat (refine zf rfl rfl rfl rfl rfl rfl rfl rfl rfl rfl rfl ?_)
  refine zo Z Z Z Z Z Z Z Z Z h2 Z Z (Nat.le_refl 1) Z (by show (x.length + 1) * 4 ≤ _ ∧ _; omega) (fun i j _ _ => rfl) (by rw [hfix]; exact fun h => h) ?_
  have hl : Lim (out ++ [((cr % 4294967296 : Nat) : Int)]) := Lim.append.2 ⟨h3, Lim.one (zD5 _)⟩
  have hc := zD6 _ hl (by simp; omega)
  have hv : zc (out ++ [((cr % 4294967296 : Nat) : Int)]) = zc x + zc y := by
   rw [zD1, h2, Int.toNat_natCast, Nat.mod_eq_of_lt h4]; exact h5
  rw [hv] at hc
  refine zCx 0 54 (x.length + 1) [] Z zAs Z (by show _ ≤ (out ++ [((cr % 4294967296 : Nat) : Int)]).length; simp; omega) trivial ?_
  refine zB Z Z (zDV (by simp [h2])) hc ?_
  refine rn0 ?_
  exact zL hR Z Z
theorem sub_ok (a b : Nat) (hab : b ≤ a) (ha : (zR a).length ≤ 100000000) : zV Tryz.prog 247 [zg a, zg b] (zg (a - b)) := by
 refine zT.value0 (zE (P := Tryz.prog) (fn := Tryz.f247) Z Z (by kernel_rfl) Z (fun c hR hfix => ?_)) (fix := fun _ => False) (fun _ h => h) Z Z
 have hx := zAP a
 have hy := zAP b
 have hlen : (zR b).length ≤ (zR a).length := zAd (by have := zAt hx; rw [zz] at this; omega)
 have hva : zc (zR a) = a := zz a
 have hvb : zc (zR b) = b := zz b
 have haB : a < B ^ (zR a).length := by have := zAt hx; rwa [zz] at this
 unfold zg
 generalize zR a = x at *
 generalize zR b = y at *
 refine rn3 ?_
 refine zCy Z Z Z Z Z Z Z Z (by show (0 : Int) ≤ 0 ∧ _ ≤ _ ∧ (4 : Int) * _ ≤ _ ∧ _; omega) ?_
 refine rn3 ?_
 refine zID 0 (.ints .u32 []) Z ⟨Nat.zero_le _, Z, fun i j hi _ => absurd hi (Nat.not_lt_zero _)⟩ ?_
 refine ze (ι := Nat × List Int × Nat) (fun p => [(1, .ro (.ints .u32 y) 0 y.length), (5, .sl 0 0 p.1), (6, iN p.2.2), (13, .ro (.ints .u32 x) 0 x.length), (14, iN x.length), (15, iN p.1)]) (fun p => [some ⟨223, .ints .u32 p.2.1⟩])
  (fun p => p.1 ≤ x.length ∧ p.2.1.length = p.1 ∧ Lim p.2.1 ∧ p.2.2 ≤ 1 ∧ zc p.2.1 + zc (y.take p.1) = zc (x.take p.1) + B ^ p.1 * p.2.2) (fun p => x.length - p.1) (0, [], 0) ⟨⟨rfl, rfl, rfl, rfl, rfl, rfl, trivial⟩, rfl, Nat.zero_le _, rfl, Lim.nil, by decide, by simp [zc]⟩ ?_
 rintro ⟨i, out, br⟩ ⟨h1, h2, h3, h4, h5⟩
 simp only at *
 refine rn4 ?_
 refine zA Z (fun h6 => ?_) (fun h6 => ?_)
 ·have hil : i < x.length := by omega
  obtain ⟨d, hd, hdB⟩ := hx.nat i
  obtain ⟨e, he, heB⟩ := hy.nat i
  refine rn6 ?_
  refine zD 20 (.int .u32 (d : Nat)) Z (AEq.of_eq (by rw [hd])) ?_
  refine zF (zFu (m := d) Z Z Z (by omega)) ?_
  refine rn7 ?_
  apply zAG (H := [some ⟨223, .ints .u32 out⟩]) [(1, .ro (.ints .u32 y) 0 y.length), (5, .sl 0 0 i), (9, .int .i64 ((d : Int) - (br : Int) - (e : Int))), (13, .ro (.ints .u32 x) 0 x.length), (14, iN x.length), (15, iN i)]
  ·intro fin
   refine zA Z (fun h7 => ?_) (fun h7 => ?_)
   ·refine rn6 ?_
    refine zD 32 (.int .u32 (e : Nat)) Z (AEq.of_eq (by rw [he])) ?_
    refine zF (zFu (m := e) Z Z Z (by omega)) ?_
    refine zBa ?_
    exact fin _ ⟨Z, Z, Z, Z, Z, Z, trivial⟩
   ·have he0 : e = 0 := by
     have : y.getD i 0 = 0 := by simp [List.getD, List.getElem?_eq_none (show y.length ≤ i by omega)]
     omega
    subst he0
    refine zBa ?_
    exact fin _ ⟨Z, Z, by show some (AV.int .i64 ((d : Int) - (br : Int))) = _; simp, Z, Z, Z, trivial⟩
  obtain ⟨yv, br', hyv, hbr, hyB⟩ : ∃ yv br' : Nat, yv + br + e = d + 4294967296 * br' ∧ br' ≤ 1 ∧ yv < 4294967296 := by
   rcases Nat.lt_or_ge d (br + e) with q | q
   ·exact ⟨d + 4294967296 - br - e, 1, by omega, by omega, by omega⟩
   ·exact ⟨d - br - e, 0, by omega, by omega, by omega⟩
  refine rn4 ?_
  apply zAG (H := [some ⟨223, .ints .u32 out⟩]) [(1, .ro (.ints .u32 y) 0 y.length), (5, .sl 0 0 i), (6, iN br'), (9, iN yv), (13, .ro (.ints .u32 x) 0 x.length), (14, iN x.length), (15, iN i)]
  ·intro fin
   refine zA Z (fun h7 => ?_) (fun h7 => ?_)
   ·have : br' = 1 := by omega
    skip
    refine zd Z ?_
    refine zBa ?_
    subst this
    exact fin _ ⟨Z, Z, Z, by show some (AV.int .i64 ((d : Int) - (br : Int) - (e : Int) + 4294967296)) = _; congr 2; omega, Z, Z, Z, trivial⟩
   ·have : br' = 0 := by omega
    subst this
    refine zBa ?_
    exact fin _ ⟨Z, Z, Z, by show some (AV.int .i64 ((d : Int) - (br : Int) - (e : Int))) = _; congr 2; omega, Z, Z, Z, trivial⟩
  refine rn0 ?_
  refine zF (zAR (m := yv) Z Z Z zFB hyB) ?_
  repeat (refine zf rfl rfl rfl rfl rfl rfl rfl rfl rfl rfl rfl ?_)
  refine zo Z Z Z Z Z Z Z Z Z h2 Z Z (Nat.le_refl 1) Z (by show (i + 1) * 4 ≤ _ ∧ _; omega) (fun i j _ _ => rfl) (by rw [hfix]; exact fun h => h) ?_
  refine rn5 ?_
  exact zK ⟨(i + 1, out ++ [(yv : Int)], br'), ⟨by simp only; omega, by simp [h2], Lim.append.2 ⟨h3, Lim.one (by omega)⟩, hbr, zRV h2 h5 hd he hyv⟩, by simp only; omega, ⟨Z, Z, Z, Z, Z, Z, trivial⟩, Z⟩
 ·have hie : i = x.length := by omega
  subst hie
  rw [List.take_length, List.take_of_length_le hlen, hva, hvb] at h5
  have hc := zD6 _ h3 (by omega)
  have hv : zc out = a - b := by
   have hob := zAt h3
   rw [h2] at hob
   have : br = 0 ∨ br = 1 := by omega
   rcases this with rfl | rfl
   ·rw [Nat.mul_zero] at h5; omega
   ·rw [Nat.mul_one] at h5; omega
  rw [hv] at hc
  refine rn5 ?_
  refine zCx 0 45 x.length [] Z zAs Z (by show _ ≤ out.length; omega) trivial ?_
  refine zB Z Z (zDV h2) hc ?_
  refine rn0 ?_
  exact zL hR Z Z
theorem zJX (n : List Int) (x : Nat) (hn : Lim n) (hlen : n.length ≤ 100000000) (hx : 0 < x ∧ x < 4294967296) :
 zV Tryz.prog 226 [zGF n, .int .u32 (x : Nat)] (.tup [zg (zc n / x), .int .u32 (zc n % x : Nat)]) := by
 refine zT.value0 (zE (P := Tryz.prog) (fn := Tryz.f226) Z Z (by kernel_rfl) Z (fun c hR hfix => ?_)) (fix := fun _ => False) (fun _ h => h) Z Z
 unfold zGF
 refine rn3 ?_
 refine zCy Z Z Z Z Z Z Z Z (by show (0 : Int) ≤ _ ∧ _ ≤ _ ∧ (4 : Int) * _ ≤ _ ∧ _; omega) ?_
 refine rn7 ?_
 refine ze (ι := Nat × List Int × Nat) (fun p => [(0, .ro (.ints .u32 n) 0 n.length), (1, .int .u32 (x : Nat)), (6, .sl 0 0 n.length), (7, .int .u64 (p.2.2 : Nat)), (8, .int .i64 ((p.1 : Int) - 1))]) (fun p => [some ⟨223, .ints .u32 p.2.1⟩])
  (fun p => p.1 ≤ n.length ∧ p.2.1.length = n.length ∧ Lim p.2.1 ∧ p.2.2 < x ∧ zc (n.drop p.1) = x * zc (p.2.1.drop p.1) + p.2.2) (fun p => p.1) (n.length, List.replicate n.length 0, 0) ⟨⟨rfl, rfl, rfl, rfl, rfl, trivial⟩, rfl, Nat.le_refl _, by simp, Lim.zeros _, hx.1, by simp [zc]⟩ ?_
 rintro ⟨i, out, rs⟩ ⟨h1, h2, h3, h4, h5⟩
 simp only at *
 refine rn7 ?_
 refine zA Z (fun h6 => ?_) (fun h6 => ?_)
 ·obtain ⟨j, rfl⟩ : ∃ j, i = j + 1 := ⟨i - 1, by omega⟩
  obtain ⟨d, hd, hdB⟩ := hn.nat j
  have ej : (((j + 1 : Nat) : Int) - 1) = (j : Nat) := by omega
  have ejt : (((j + 1 : Nat) : Int) - 1).toNat = j := by omega
  have htop : rs * 4294967296 + d < x * 4294967296 := by
   have : (rs + 1) * 4294967296 ≤ x * 4294967296 := Nat.mul_le_mul_right _ h4
   omega
  have hq : (rs * 4294967296 + d) / x < 4294967296 := Nat.div_lt_of_lt_mul htop
  have hm : (rs * 4294967296 + d) % x < x := Nat.mod_lt _ hx.1
  have hdm := Nat.div_add_mod (rs * 4294967296 + d) x
  generalize hqe : (rs * 4294967296 + d) / x = q at *
  generalize hme : (rs * 4294967296 + d) % x = r at *
  refine rn1 ?_
  refine zF (zKb (m := rs) (s := 32) Z Z (by decide) zBV (zJJ (by omega))) ?_
  refine rn6 ?_
  refine zD 24 (.int .u32 (d : Nat)) Z (AEq.of_eq (by rw [ejt, hd])) ?_
  refine zF (zAR (m := d) Z Z Z zBV (by omega)) ?_
  refine zF (QOp.res (zNr Z Z zBV Z (zJJ (by omega)) (by omega)) (by rw [zO1 hdB])) ?_
  refine rn0 ?_
  refine zF (zAR (m := x) Z Z Z zBV (by omega)) ?_
  refine zF (QOp.res (q_uquo Z Z zBV (by omega) hx.1) (by rw [hqe])) ?_
  refine zF (zAR (m := q) Z Z Z zFB hq) ?_
  refine zD 28 (iN j) Z (AEq.of_eq (by rw [ej])) ?_
  refine rn7 ?_
  refine zF (zAR (m := x) Z Z Z zBV (by omega)) ?_
  refine zF (QOp.res (q_urem Z Z hx.1) (by rw [hme])) ?_
  refine rn7 ?_
  refine zK ⟨(j, out.set j (q : Int), r), ⟨by simp only; omega, by simp [h2], h3.set (by omega), hm, ?_⟩, by simp only; omega, ⟨Z, Z, Z, Z, ?_, trivial⟩, Z⟩
  rotate_left
  ·show some (AV.int .i64 _) = _
   congr 2
   omega
  simp only
  rw [zML (by omega), zK2, hd, Int.toNat_natCast, h5]
  simp only [zc, Int.toNat_natCast]
  have e1 : x * (q + B * zc (out.drop (j + 1))) = x * q + B * (x * zc (out.drop (j + 1))) := by rw [Nat.mul_add, Nat.mul_left_comm]
  rw [e1, Nat.mul_add]
  generalize x * zc (out.drop (j + 1)) = w at *
  generalize x * q = w2 at *
  show d + (4294967296 * w + 4294967296 * rs) = w2 + 4294967296 * w + r
  omega
 ·have hie : i = 0 := by omega
  subst hie
  rw [List.drop_zero, List.drop_zero] at h5
  have hv : zc out = zc n / x ∧ rs = zc n % x := by
   rw [h5, Nat.mul_comm]
   constructor
   ·rw [Nat.add_comm, Nat.add_mul_div_right _ _ hx.1, Nat.div_eq_of_lt h4, Nat.zero_add]
   ·rw [Nat.add_comm, Nat.add_mul_mod_self_right, Nat.mod_eq_of_lt h4]
  have hc := zD6 _ h3 (by omega)
  rw [hv.1] at hc
  obtain ⟨_, hv2⟩ := hv
  refine rn5 ?_
  refine zCx 0 39 n.length [(7, .int .u64 (rs : Nat))] Z zAs Z (by show _ ≤ out.length; omega) ⟨Z, trivial⟩ ?_
  refine zB Z Z (zDV h2) hc ?_
  repeat (refine zF (zJ rfl) ?_)
  refine zF (zAR (m := rs) Z Z Z zFB (by omega)) ?_
  refine rn0 ?_
  refine zL hR Z ?_
  rw [hv2]; rfl
theorem zMW (a b : Nat) (ha : (zR a).length ≤ 100000000) (hb : (zR b).length ≤ 100000000) : zV Tryz.prog 202 [zg a, zg b] (zg (a * b)) := by
 refine zT.value0 (zE (P := Tryz.prog) (fn := Tryz.f202) Z Z (by kernel_rfl) Z (fun c hR hfix => ?_)) (fix := fun _ => False) (fun _ h => h) Z Z
 have hx := zAP a
 have hy := zAP b
 have hv : zc (zR a) * zc (zR b) = a * b := by rw [zz, zz]
 unfold zg
 rw [← hv] at hR
 generalize zR a = x at *
 generalize zR b = y at *
 refine rn3 ?_
 refine zCy Z Z Z Z Z Z Z Z (by show (0 : Int) ≤ _ ∧ _ ≤ _ ∧ (4 : Int) * _ ≤ _ ∧ _; omega) ?_
 rw [show ((x.length : Int) + (y.length : Int)).toNat = x.length + y.length by omega]
 refine rn3 ?_
 refine ze (ι := Nat × List Int) (fun p => [(1, .ro (.ints .u32 y) 0 y.length), (5, .sl 0 0 (x.length + y.length)), (17, .ro (.ints .u32 x) 0 x.length), (18, .int .i64 (x.length : Nat)), (19, .int .i64 (p.1 : Nat))]) (fun p => [some ⟨223, .ints .u32 p.2⟩])
  (fun p => p.1 ≤ x.length ∧ p.2.length = x.length + y.length ∧ Lim p.2 ∧ zc p.2 = zc (x.take p.1) * zc y ∧ ∀ q, p.1 + y.length ≤ q → p.2.getD q 0 = 0) (fun p => x.length - p.1) (0, List.replicate (x.length + y.length) 0) ⟨⟨rfl, rfl, rfl, rfl, rfl, trivial⟩, rfl, Nat.zero_le _, by simp, Lim.zeros _, by simp [zc, zH7], fun q _ => zOJ _ _⟩ ?_
 rintro ⟨i, out⟩ ⟨h1, h2, h3, h4, h5⟩
 simp only at *
 refine rn4 ?_
 refine zA Z (fun h6 => ?_) (fun h6 => ?_)
 ·have hil : i < x.length := by omega
  obtain ⟨d, hd, hdB⟩ := hx.nat i
  refine rn6 ?_
  refine zAB 7 (.int .u32 (d : Nat)) Z (AEq.of_eq (by rw [hd])) ?_
  refine ze (ι := Nat × List Int × Nat) (fun p => [(1, .ro (.ints .u32 y) 0 y.length), (5, .sl 0 0 (x.length + y.length)), (6, .int .i64 (i : Nat)), (7, .int .u32 (d : Nat)), (8, .int .u64 (p.2.2 : Nat)), (17, .ro (.ints .u32 x) 0 x.length), (18, .int .i64 (x.length : Nat)), (19, .int .i64 (i : Nat)), (24, .ro (.ints .u32 y) 0 y.length), (25, .int .i64 (y.length : Nat)), (26, .int .i64 (p.1 : Nat))]) (fun p => [some ⟨223, .ints .u32 p.2.1⟩])
   (fun p => p.1 ≤ y.length ∧ p.2.1.length = x.length + y.length ∧ Lim p.2.1 ∧ p.2.2 < 4294967296 ∧ zc p.2.1 + B ^ (i + p.1) * p.2.2 = zc (x.take i) * zc y + B ^ i * (d * zc (y.take p.1)) ∧ ∀ q, i + y.length ≤ q → p.2.1.getD q 0 = 0) (fun p => y.length - p.1) (0, out, 0) ⟨⟨rfl, rfl, rfl, rfl, rfl, rfl, rfl, rfl, rfl, rfl, rfl, trivial⟩, rfl, Nat.zero_le _, h2, h3, Nat.zero_lt_succ _, by simp [zc, h4], h5⟩ ?_
  rintro ⟨j, o2, cr⟩ ⟨k1, k2, k3, k4, k5, k6⟩
  simp only at *
  refine rn4 ?_
  refine zA Z (fun k7 => ?_) (fun k7 => ?_)
  ·have hjl : j < y.length := by omega
   obtain ⟨e, he, heB⟩ := hy.nat j
   obtain ⟨f, hf, hfB⟩ := k3.nat (i + j)
   have hb1 : d * e ≤ 4294967295 * 4294967295 := Nat.mul_le_mul (by omega) (by omega)
   refine rn6 ?_
   refine zF (zAR (m := d) Z Z Z zBV (by omega)) ?_
   repeat (refine zF (zJ rfl) ?_)
   refine zD 34 (.int .u32 (e : Nat)) Z (AEq.of_eq (by rw [he])) ?_
   refine zF (zAR (m := e) Z Z Z zBV (by omega)) ?_
   refine zF (zJH Z Z zBV (by omega)) ?_
   refine rn3 ?_
   refine zD 40 (.int .i64 (i + j : Nat)) Z (AEq.of_eq (by rw [Int.natCast_add])) ?_
   refine rn7 ?_
   refine zD 42 (.int .u32 (f : Nat)) Z (AEq.of_eq (by rw [hf])) ?_
   refine zF (zAR (m := f) Z Z Z zBV (by omega)) ?_
   refine zF (zFa Z Z zBV (by omega)) ?_
   refine zF (zFa Z Z zBV (by omega)) ?_
   refine rn3 ?_
   refine zF (zGK Z Z Z zFB) ?_
   refine zD 49 (.int .i64 (i + j : Nat)) Z (AEq.of_eq (by rw [Int.natCast_add])) ?_
   refine rn7 ?_
   refine zF (zGL (s := 32) Z Z Z) ?_
   refine rn5 ?_
   refine zK ⟨(j + 1, o2.set (i + j) (((cr + (d * e + f)) % 4294967296 : Nat) : Int), (cr + (d * e + f)) / 4294967296), ⟨by simp only; omega, by simp [k2], k3.set (zD5 _), by simp only; omega, ?_, fun q hq => ?_⟩, by simp only; omega, ⟨Z, Z, Z, Z, Z, Z, Z, Z, Z, Z, Z, trivial⟩, Z⟩
   ·have := mul_step (cr := cr) (a := d) (b := e) (p := i + j) (by omega) k5 hf
    simp only
    rw [show i + (j + 1) = i + j + 1 from rfl, this, zv y j, he, Int.toNat_natCast, Nat.add_assoc]
    congr 1
    rw [Nat.mul_add, Nat.mul_add, Nat.pow_add]
    congr 1
    ac_rfl
   ·simp only
    rw [zDi (by omega)]; exact k6 q hq
  ·have hje : j = y.length := by omega
   subst hje
   rw [List.take_length] at k5
   have hz := k6 (i + y.length) (Nat.le_refl _)
   have hset := zK3 (x := (cr : Int)) (show i + y.length < o2.length by omega)
   rw [hz, Int.toNat_natCast] at hset
   refine rn5 ?_
   refine zF (zAR (m := cr) Z Z Z zFB k4) ?_
   refine zD 60 (.int .i64 (i + y.length : Nat)) Z (AEq.of_eq (by rw [Int.natCast_add])) ?_
   refine rn7 ?_
   refine zK ⟨(i + 1, o2.set (i + y.length) (cr : Int)), ⟨by simp only; omega, by simp [k2], k3.set (by omega), ?_, fun q hq => ?_⟩, by simp only; omega, ⟨Z, Z, Z, Z, Z, trivial⟩, Z⟩
   ·simp only
    rw [zv x i, hd, Int.toNat_natCast, Nat.add_mul, Nat.mul_assoc, ← k5]
    have : (0 : Int).toNat = 0 := rfl
    rw [this] at hset
    omega
   ·simp only at hq ⊢
    rw [zDi (by omega)]; exact k6 q (by omega)
 ·have hie : i = x.length := by omega
  subst hie
  rw [List.take_length] at h4
  have hc := zD6 _ h3 (by omega)
  rw [h4] at hc
  refine rn5 ?_
  refine zCx 0 65 (x.length + y.length) [] Z zAs Z (by show _ ≤ out.length; omega) trivial ?_
  refine zB Z Z (zDV h2) hc ?_
  refine rn0 ?_
  exact zL hR Z Z
/-- shift: limbs of one's own. -/
theorem zN7 (n : List Int) (s : Nat) (hn : Lim n) (hlen : n.length ≤ 100000000) (hs : s < 32) :
 zMo Tryz.prog 228 [zGF n, .int .i64 (s : Nat)] (fun h => .sl h 0 (n.length + 1)) ⟨223, .ints .u32 (zB5 (n.length + 1) (zc n * 2 ^ s))⟩ := by
 refine zT.fresh (K := fun r H => r = .sl 0 0 (n.length + 1) ∧ H = [some ⟨223, .ints .u32 (zB5 (n.length + 1) (zc n * 2 ^ s))⟩]) (zE (P := Tryz.prog) (fn := Tryz.f228) Z Z (by kernel_rfl) Z (fun c hR hfix => ?_)) (fix := fun _ => False) (fun _ h => h) Z (fun H => ⟨Z, trivial, trivial, trivial⟩) ?_
 ·have hp : 2 ^ s ≤ 2147483648 := by
   have := Nat.pow_le_pow_right (show 0 < 2 by decide) (show s ≤ 31 by omega)
   exact Nat.le_trans this (by decide)
  have hp1 : 0 < 2 ^ s := Nat.pow_pos (by decide)
  unfold zGF
  refine rn3 ?_
  refine zCy Z Z Z Z Z Z Z Z (by show (0 : Int) ≤ 0 ∧ _ ≤ _ ∧ (4 : Int) * _ ≤ _ ∧ _; omega) ?_
  refine rn3 ?_
  refine zID 0 (.ints .u32 []) Z ⟨Nat.zero_le _, Z, fun i j hi _ => absurd hi (Nat.not_lt_zero _)⟩ ?_
  refine ze (ι := Nat × List Int × Nat) (fun p => [(1, .int .i64 (s : Nat)), (5, .sl 0 0 p.1), (6, .int .u64 (p.2.2 : Nat)), (13, .ro (.ints .u32 n) 0 n.length), (14, .int .i64 (n.length : Nat)), (15, .int .i64 (p.1 : Nat))]) (fun p => [some ⟨223, .ints .u32 p.2.1⟩])
   (fun p => p.1 ≤ n.length ∧ p.2.1.length = p.1 ∧ Lim p.2.1 ∧ p.2.2 < 2 ^ s ∧ zc p.2.1 + B ^ p.1 * p.2.2 = zc (n.take p.1) * 2 ^ s) (fun p => n.length - p.1) (0, [], 0) ⟨⟨rfl, rfl, rfl, rfl, rfl, rfl, trivial⟩, rfl, Nat.zero_le _, rfl, Lim.nil, hp1, by simp [zc]⟩ ?_
  rintro ⟨i, out, cr⟩ ⟨h1, h2, h3, h4, h5⟩
  simp only at *
  refine rn4 ?_
  refine zA Z (fun h6 => ?_) (fun h6 => ?_)
  ·have hil : i < n.length := by omega
   obtain ⟨d, hd, hdB⟩ := hn.nat i
   have hor : cr ||| d * 2 ^ s = cr + d * 2 ^ s := by
    have := Nat.two_pow_add_eq_or_of_lt h4 d
    rw [Nat.or_comm, Nat.mul_comm d, ← this, Nat.add_comm]
   have hdm : d * 2 ^ s ≤ 4294967295 * 2147483648 := Nat.mul_le_mul (by omega) hp
   have hq : (cr + d * 2 ^ s) / 4294967296 < 2 ^ s := by
    refine Nat.div_lt_of_lt_mul ?_
    have : (d + 1) * 2 ^ s ≤ 4294967296 * 2 ^ s := Nat.mul_le_mul_right _ (by omega)
    rw [Nat.add_mul] at this
    omega
   refine rn6 ?_
   refine zD 20 (.int .u32 (d : Nat)) Z (AEq.of_eq (by rw [hd])) ?_
   refine zF (zAR (m := d) Z Z Z zBV (by omega)) ?_
   repeat (refine zF (zJ rfl) ?_)
   refine zF (zKb (m := d) (s := s) Z Z (by show s ≤ 64; omega) zBV (by omega)) ?_
   refine zF (QOp.res (zNr Z Z zBV Z (by omega) (by omega)) (by rw [hor])) ?_
   refine rn0 ?_
   refine zF (zGK Z Z Z zFB) ?_
   repeat (refine zf rfl rfl rfl rfl rfl rfl rfl rfl rfl rfl rfl ?_)
   refine zo Z Z Z Z Z Z Z Z Z h2 Z Z (Nat.le_refl 1) Z (by show (i + 1) * 4 ≤ _ ∧ _; omega) (fun i j _ _ => rfl) (by rw [hfix]; exact fun h => h) ?_
   refine rn0 ?_
   refine zF (zGL (s := 32) Z Z Z) ?_
   refine rn5 ?_
   refine zK ⟨(i + 1, out ++ [(((cr + d * 2 ^ s) % 4294967296 : Nat) : Int)], (cr + d * 2 ^ s) / 4294967296), ⟨by simp only; omega, by simp [h2], Lim.append.2 ⟨h3, Lim.one (zD5 _)⟩, hq, ?_⟩, by simp only; omega, ⟨Z, Z, Z, Z, Z, Z, trivial⟩, Z⟩
   have := zH2 h2 h5 (c := cr + d * 2 ^ s) (d := d * 2 ^ s) rfl
   simp only at this ⊢
   rw [this, zv n i, hd, Int.toNat_natCast, Nat.add_mul, Nat.mul_assoc]
  ·have hie : i = n.length := by omega
   subst hie
   rw [List.take_length] at h5
   refine rn5 ?_
   refine zF (zAR (m := cr) Z Z Z zFB (by omega)) ?_
   repeat (refine zf rfl rfl rfl rfl rfl rfl rfl rfl rfl rfl rfl ?_)
   refine zo Z Z Z Z Z Z Z Z Z h2 Z Z (Nat.le_refl 1) Z (by show (n.length + 1) * 4 ≤ _ ∧ _; omega) (fun i j _ _ => rfl) (by rw [hfix]; exact fun h => h) ?_
   have hl : Lim (out ++ [(cr : Int)]) := Lim.append.2 ⟨h3, Lim.one (by omega)⟩
   have hv : zc (out ++ [(cr : Int)]) = zc n * 2 ^ s := by
    rw [zD1, h2, Int.toNat_natCast]; exact h5
   have hfx := zHI hl (k := n.length + 1) (by simp [h2]) hv
   refine rn0 ?_
   refine zL hR Z ⟨Z, ?_⟩
   show ([some ⟨223, .ints .u32 (out ++ [(cr : Int)])⟩] : zM) = _
   rw [hfx]
 ·rintro r H ⟨rfl, rfl⟩
  refine ⟨fun o ho => by simp at ho; subst ho; show 0 + (n.length + 1) ≤ (zB5 _ _).length; rw [zB6]; omega, zJd zAs, 0, rfl, fun k => rfl⟩
theorem digit_ok (A U C V : List Int) (j s : Nat) (Hr : zM) (hj : A.length = j) (hs : 2 ≤ s) (hl : U.length = s + 1) (hlv : V.length = s) (hU : Lim U) (hV : Lim V) (htop : 2147483648 ≤ V.getD (s - 1) 0) (hlt : zc U < 4294967296 * zc V)
 (hsz : (A ++ (U ++ C)).length ≤ 1000000000) :
 zT Tryz.prog 229 [.sl 0 j (s + 1), zGF V] (some ⟨223, .ints .u32 (A ++ (U ++ C))⟩ :: Hr) (fun h => h < Hr.length + 1)
  (fun r H => r = .int .u32 (zc U / zc V : Nat) ∧ H = some ⟨223, .ints .u32 (A ++ (zB5 (s + 1) (zc U % zc V) ++ C))⟩ :: Hr) := by
 refine zE (P := Tryz.prog) (fn := Tryz.f229) Z Z (by kernel_rfl) Z (fun c hR hfix => ?_)
 have hsd := hlv
 obtain ⟨u0, h0, b0⟩ := hU.nat s
 obtain ⟨u1, h1, b1⟩ := hU.nat (s - 1)
 obtain ⟨u2, h2, b2⟩ := hU.nat (s - 2)
 obtain ⟨v1, k1, c1⟩ := hV.nat (s - 1)
 obtain ⟨v2, k2, c2⟩ := hV.nat (s - 2)
 have htop' : 2147483648 ≤ v1 := by omega
 have hest := fun g => est (g := g) hs hl hsd hU hV h0 h1 h2 k1 k2 htop' hlt
 have g0 := zGq (C := C) hj (show s < U.length by omega)
 have g1 := zGq (C := C) hj (show s - 1 < U.length by omega)
 have g2 := zGq (C := C) hj (show s - 2 < U.length by omega)
 rw [h0] at g0; rw [h1] at g1; rw [h2] at g2
 have hlen : (A ++ (U ++ C)).length = j + (s + 1) + C.length := by simp [hj, hl]; omega
 have hv0 : 0 < zc V := by
  have := zv V (s - 1)
  rw [show s - 1 + 1 = V.length by omega, List.take_length, k1, Int.toNat_natCast] at this
  have h3 : B ^ (s - 1) * 1 ≤ B ^ (s - 1) * v1 := Nat.mul_le_mul_left _ (by omega)
  have := bpos (s - 1)
  omega
 unfold zGF
 rw [hsd]
 refine rn3 ?_
 refine zDs (by kernel_rfl) (by kernel_rfl) Z ?_
 refine rn7 ?_
 refine zD 20 (.int .u32 (u0 : Nat)) Z (AEq.of_eq (by rw [g0])) ?_
 refine zF (zAR (m := u0) Z Z Z zBV (by omega)) ?_
 refine zF (zKb (m := u0) (s := 32) Z Z (by decide) zBV (zJJ b0)) ?_
 refine rn8 ?_
 refine zD 25 (.int .i64 (s - 1 : Nat)) Z (AEq.of_eq (by congr 1; omega)) ?_
 refine rn7 ?_
 refine zD 27 (.int .u32 (u1 : Nat)) Z (AEq.of_eq (by rw [g1])) ?_
 refine zF (zAR (m := u1) Z Z Z zBV (by omega)) ?_
 refine zF (QOp.res (zNr Z Z zBV Z (zJJ b0) (by omega)) (by rw [zO1 b1])) ?_
 have htb : u0 * 4294967296 + u1 < 18446744073709551616 := by omega
 obtain ⟨top, htp⟩ : ∃ top, u0 * 4294967296 + u1 = top := ⟨_, rfl⟩
 rw [htp] at hest htb ⊢
 refine rn7 ?_
 refine zD 33 (.int .i64 (s - 1 : Nat)) Z (AEq.of_eq (by congr 1; omega)) ?_
 refine rn6 ?_
 refine zD 35 (.int .u32 (v1 : Nat)) Z (AEq.of_eq (by rw [k1])) ?_
 refine zF (zAR (m := v1) Z Z Z zBV (by omega)) ?_
 refine zF (q_uquo Z Z zBV htb (by omega)) ?_
 obtain ⟨gs, hgs, hg1, hg2⟩ : ∃ gs : Nat, (if ((4294967295 : Int) < ((top / v1 : Nat) : Int)) then (4294967295 : Int) else ((top / v1 : Nat) : Int)) = (gs : Int) ∧ gs ≤ 4294967295 ∧ (gs = 4294967295 ∨ gs = top / v1) ∧ gs ≤ top / v1 := by
  generalize top / v1 = z
  by_cases hz : (4294967295 : Int) < (z : Int)
  ·exact ⟨4294967295, by rw [if_pos hz]; rfl, by omega, by omega, by omega⟩
  ·exact ⟨z, by rw [if_neg hz], by omega, by omega, by omega⟩
 obtain ⟨hg2, hg3⟩ := hg2
 have hgm : gs * v1 ≤ top := Nat.le_trans (Nat.mul_le_mul_right _ hg3) (Nat.div_mul_le_self top v1)
 have hb0 := zMV (a := gs) (b := v1) (c := 0) (by omega) c1 (by decide)
 refine zF (q_min Z Z) ?_
 refine zD 38 (.int .u64 (gs : Nat)) Z (AEq.of_eq (by rw [← hgs])) ?_
 refine rn7 ?_
 refine zD 43 (.int .i64 (s - 1 : Nat)) Z (AEq.of_eq (by congr 1; omega)) ?_
 refine rn6 ?_
 refine zD 45 (.int .u32 (v1 : Nat)) Z (AEq.of_eq (by rw [k1])) ?_
 refine zF (zAR (m := v1) Z Z Z zBV (by omega)) ?_
 refine zF (zJH Z Z zBV hb0.1) ?_
 refine zF (zPB Z Z zBV htb hgm) ?_
 refine rn1 ?_
 refine ze (ι := Nat × Nat) (fun p => [(0, .sl 0 j (s + 1)), (1, .ro (.ints .u32 V) 0 s), (5, .int .i64 (s : Nat)), (7, .int .u64 (p.1 : Nat)), (8, .int .u64 (p.2 : Nat))]) (fun _ => some ⟨223, .ints .u32 (A ++ (U ++ C))⟩ :: Hr)
  (fun p => p.1 ≤ 4294967295 ∧ p.2 + p.1 * v1 = top ∧ ∀ g', g' ≤ 4294967295 → g' * (v1 * 4294967296 + v2) ≤ top * 4294967296 + u2 → g' ≤ p.1) (fun p => p.1) (gs, top - gs * v1) ⟨⟨rfl, rfl, rfl, rfl, rfl, trivial⟩, rfl, hg1, by simp only; omega, fun g' q1 q2 => ?_⟩ ?_
 ·have := guess_ge (by omega) b2 q2
  rcases hg2 with h | h
  ·show g' ≤ gs; omega
  ·show g' ≤ gs; rw [h]; exact this
 rintro ⟨g, r⟩ ⟨i1, i2, i3⟩
 simp only at *
 have htest := zOq (B := 4294967296) (u2 := u2) (v2 := v2) i2 (by omega) c2
 have hbg := zMV (a := g) (b := v2) (c := 0) (by omega) c2 (by decide)
 apply zAG (H := some ⟨223, .ints .u32 (A ++ (U ++ C))⟩ :: Hr) [(0, .sl 0 j (s + 1)), (1, .ro (.ints .u32 V) 0 s), (5, .int .i64 (s : Nat)), (7, .int .u64 (g : Nat)), (8, .int .u64 (r : Nat)), (70, .bool (decide (r < 4294967296 ∧ r * 4294967296 + u2 < g * v2)))]
 ·intro fin
  repeat (refine zx ?_)
  refine zDs (by kernel_rfl) (by kernel_rfl) Z ?_
  repeat (first | refine zF (zJ rfl) ?_ | refine zF (zEJ rfl rfl) ?_)
  refine zAe Z Z (fun q0 => ?_) (fun q0 => ?_)
  ·have q0' : r < 4294967296 := by omega
   refine rn8 ?_
   refine zD 55 (.int .i64 (s - 2 : Nat)) Z (AEq.of_eq (by congr 1; omega)) ?_
   refine rn6 ?_
   refine zD 57 (.int .u32 (v2 : Nat)) Z (AEq.of_eq (by rw [k2])) ?_
   refine zF (zAR (m := v2) Z Z Z zBV (by omega)) ?_
   refine zBD Z Z ?_
   refine zF (zJH Z Z zBV hbg.1) ?_
   refine rn2 ?_
   refine zF (zKb (m := r) (s := 32) Z Z (by decide) zBV (zJJ q0')) ?_
   refine rn8 ?_
   refine zD 64 (.int .i64 (s - 2 : Nat)) Z (AEq.of_eq (by congr 1; omega)) ?_
   refine zDp ?_
   refine zD 66 (.int .u32 (u2 : Nat)) Z (AEq.of_eq (by rw [g2])) ?_
   refine zF (zAR (m := u2) Z Z Z zBV (by omega)) ?_
   refine zBD Z Z ?_
   refine zF (QOp.res (zNr Z Z zBV Z (zJJ q0') (by omega)) (by rw [zO1 b2])) ?_
   refine zHb ?_
   refine fin _ ⟨Z, Z, Z, Z, Z, ?_, trivial⟩
   show some (AV.bool (decide (((r * 4294967296 + u2 : Nat) : Int) < ((g * v2 : Nat) : Int)))) = _
   congr 2
   rw [decide_eq_decide]
   constructor
   ·intro h; exact ⟨q0', by omega⟩
   ·intro h; exact Int.ofNat_lt.2 h.2
  ·refine zHb ?_
   refine fin _ ⟨Z, Z, Z, Z, Z, ?_, trivial⟩
   show some (AV.bool false) = _
   rw [decide_eq_false]
   intro h
   exact q0 (by omega)
 refine zA Z (fun q0 => ?_) (fun q0 => ?_)
 ·have q1 := htest.1 q0
  have hg0 : 0 < g := by
   rcases Nat.eq_zero_or_pos g with z | z
   ·subst z; rw [Nat.zero_mul] at q1; omega
   ·exact z
  obtain ⟨g, rfl⟩ : ∃ m, g = m + 1 := ⟨g - 1, by omega⟩
  rw [Nat.add_mul, Nat.one_mul] at i2
  refine rn1 ?_
  refine zF (zPB (m := g + 1) (n := 1) Z Z zBV (by omega) (by omega)) ?_
  refine rn7 ?_
  refine zD 74 (.int .i64 (s - 1 : Nat)) Z (AEq.of_eq (by congr 1; omega)) ?_
  refine rn6 ?_
  refine zD 76 (.int .u32 (v1 : Nat)) Z (AEq.of_eq (by rw [k1])) ?_
  refine zF (zAR (m := v1) Z Z Z zBV (by omega)) ?_
  refine zF (zFa Z Z zBV (by omega)) ?_
  refine rn0 ?_
  refine zK ⟨(g, r + v1), ⟨by simp only; omega, by simp only; omega, fun g' z1 z2 => ?_⟩, by simp only; omega, ⟨Z, Z, Z, Z, Z, trivial⟩, Z⟩
  have z3 := i3 g' z1 z2
  show g' ≤ g
  rcases Nat.lt_or_ge g g' with z | z
  ·exfalso
   have : g' = g + 1 := by omega
   subst this
   omega
  ·exact z
 ·have q1 : g * (v1 * 4294967296 + v2) ≤ top * 4294967296 + u2 := by
   rcases Nat.lt_or_ge (top * 4294967296 + u2) (g * (v1 * 4294967296 + v2)) with z | z
   ·exact absurd (htest.2 z) q0
   ·exact z
  obtain ⟨e1, e2⟩ := hest g i1 q1 i3
  clear hest htest i3 q0
  have hmB : zc U % zc V < B ^ (s + 1) := Nat.lt_of_le_of_lt (Nat.mod_le _ _) (by have := zAt hU; rwa [hl] at this)
  have hdone := fun (w b : Nat) (hw : w < B ^ (s + 1)) => zOb (u := zc U) (v := zc V) (g := g) (w := w) (n := s + 1) (b := b) hw (by have := zAt hV; rw [hsd] at this; exact Nat.lt_of_lt_of_le this (Nat.pow_le_pow_right (by decide) (by omega))) (by have := zAt hU; rwa [hl] at this)
  generalize zc U / zc V = q at *
  generalize hme : zc U % zc V = m at *
  refine rn5 ?_
  have hAl : ∀ W : List Int, W.length = s + 1 → ∀ i, i < s + 1 → i + j < (A ++ (W ++ C)).length := fun W hW i hi => by simp [hj, hW]; omega
  refine ze (ι := Nat × List Int × Nat × Nat) (fun p => [(0, .sl 0 j (s + 1)), (1, .ro (.ints .u32 V) 0 s), (5, .int .i64 (s : Nat)), (7, .int .u64 (g : Nat)), (9, .int .u64 (p.2.2.1 : Nat)), (10, .int .i64 (p.2.2.2 : Nat)), (82, .int .i64 (s + 1 : Nat)), (83, .int .i64 (p.1 : Nat))]) (fun p => some ⟨223, .ints .u32 (A ++ (p.2.1 ++ C))⟩ :: Hr)
   (fun p => p.1 ≤ s + 1 ∧ p.2.1.length = s + 1 ∧ Lim p.2.1 ∧ (∀ x, p.1 ≤ x → p.2.1.getD x 0 = U.getD x 0) ∧ p.2.2.1 < 4294967296 ∧ p.2.2.2 ≤ 1 ∧ (p.1 = s + 1 → p.2.2.1 = 0) ∧ zc (p.2.1.take p.1) + g * zc (V.take p.1) = zc (U.take p.1) + B ^ p.1 * (p.2.2.1 + p.2.2.2)) (fun p => s + 1 - p.1) (0, U, 0, 0)
   ⟨⟨rfl, rfl, rfl, rfl, rfl, rfl, rfl, rfl, trivial⟩, rfl, Nat.zero_le _, hl, hU, fun _ _ => rfl, Nat.zero_lt_succ _, Nat.zero_le _, fun _ => rfl, by simp [zc]⟩ ?_
  rintro ⟨i, Uc, cr, br⟩ ⟨w1, w2, w3, w4, w5, w6, w7, w8⟩
  simp only at *
  refine rn4 ?_
  refine zA Z (fun w9 => ?_) (fun w9 => ?_)
  ·have his : i < s + 1 := by omega
   obtain ⟨ui, hui, hub⟩ := hU.nat i
   obtain ⟨vi, hvi, hvb⟩ := hV.nat i
   have hmb := zMV (a := g) (b := vi) (c := cr) (by omega) hvb w5
   have hsl := hAl Uc w2 i his
   have hcur := zGq (C := C) hj (show i < Uc.length by omega)
   rw [w4 i (Nat.le_refl _), hui] at hcur
   have hlm : (cr + g * vi) % 4294967296 < 4294967296 := Nat.mod_lt _ (by decide)
   have hdb : (cr + g * vi) / 4294967296 < 4294967296 := by omega
   obtain ⟨yv, b', y1, y2, y3, y4, y5⟩ := zQT hub hlm w6
   have hstep := zOc (g := g) (cr := cr) (yv := yv) (b' := b') (show i < Uc.length by omega) w8 hui hvi y1
   have hlast : i + 1 = s + 1 → (cr + g * vi) / 4294967296 = 0 := fun h => by
    have : V.getD i 0 = 0 := by simp [List.getD, List.getElem?_eq_none (show V.length ≤ i by omega)]
    have : vi = 0 := by omega
    subst this
    rw [Nat.mul_zero, Nat.add_zero]
    exact Nat.div_eq_of_lt w5
   refine rn4 ?_
   apply zAG (H := some ⟨223, .ints .u32 (A ++ (Uc ++ C))⟩ :: Hr) [(0, .sl 0 j (s + 1)), (1, .ro (.ints .u32 V) 0 s), (5, .int .i64 (s : Nat)), (7, .int .u64 (g : Nat)), (9, .int .u64 (cr + g * vi : Nat)), (10, .int .i64 (br : Nat)), (11, .int .i64 (i : Nat)), (82, .int .i64 (s + 1 : Nat)), (83, .int .i64 (i : Nat))]
   ·intro fin
    refine zA Z (fun q0 => ?_) (fun q0 => ?_)
    ·refine rn6 ?_
     refine zD 94 (.int .u32 (vi : Nat)) Z (AEq.of_eq (by rw [hvi])) ?_
     refine zF (zAR (m := vi) Z Z Z zBV (by omega)) ?_
     refine zF (zJH Z Z zBV hmb.1) ?_
     refine zF (zFa Z Z zBV hmb.2) ?_
     refine zBa ?_
     exact fin _ ⟨Z, Z, Z, Z, Z, Z, Z, Z, Z, trivial⟩
    ·have hv0 : vi = 0 := by
      have : V.getD i 0 = 0 := by simp [List.getD, List.getElem?_eq_none (show V.length ≤ i by omega)]
      omega
     subst hv0
     refine zBa ?_
     exact fin _ ⟨Z, Z, Z, Z, Z, Z, Z, Z, Z, trivial⟩
   refine rn7 ?_
   refine zD 101 (.int .u32 (ui : Nat)) Z (AEq.of_eq (by rw [hcur])) ?_
   refine zF (zFu (m := ui) Z Z Z (by omega)) ?_
   repeat (refine zF (zJ rfl) ?_)
   refine zF (QOp.res (q_uand (n := 4294967295) Z Z zBV Z hmb.2 (by decide)) (by rw [and_low])) ?_
   obtain ⟨lo, hlo⟩ : ∃ lo, (cr + g * vi) % 4294967296 = lo := ⟨_, rfl⟩
   rw [hlo] at hlm y1 y4 y5 ⊢
   refine zF (zFu (m := lo) Z Z Z (by omega)) ?_
   refine rn7 ?_
   refine zF (zGL (s := 32) Z Z Z) ?_
   refine rn4 ?_
   apply zAG (H := some ⟨223, .ints .u32 (A ++ (Uc ++ C))⟩ :: Hr) [(0, .sl 0 j (s + 1)), (1, .ro (.ints .u32 V) 0 s), (5, .int .i64 (s : Nat)), (7, .int .u64 (g : Nat)), (9, .int .u64 ((cr + g * vi) / 4294967296 : Nat)), (10, .int .i64 (b' : Nat)), (11, .int .i64 (i : Nat)), (12, .int .i64 (yv : Nat)), (82, .int .i64 (s + 1 : Nat)), (83, .int .i64 (i : Nat))]
   ·intro fin
    refine zA Z (fun q0 => ?_) (fun q0 => ?_)
    ·obtain ⟨z1, z2⟩ := y4 q0
     subst z1
     skip
     refine zd Z ?_
     refine zBa ?_
     exact fin _ ⟨Z, Z, Z, Z, Z, Z, Z, by rw [z2]; rfl, Z, Z, trivial⟩
    ·obtain ⟨z1, z2⟩ := y5 q0
     subst z1
     refine zBa ?_
     exact fin _ ⟨Z, Z, Z, Z, Z, Z, Z, by rw [z2]; rfl, Z, Z, trivial⟩
   refine rn0 ?_
   refine zF (zAR (m := yv) Z Z Z zFB y3) ?_
   have hset := zQF (x := (yv : Int)) (C := C) hj (show i < Uc.length by omega)
   refine rn7 ?_
   refine zK ⟨(i + 1, Uc.set i (yv : Int), (cr + g * vi) / 4294967296, b'), ⟨by simp only; omega, by simp [w2], w3.set (by omega), fun x hx => ?_, hdb, y2, hlast, hstep⟩, by simp only; omega, ⟨Z, Z, Z, Z, Z, Z, Z, Z, trivial⟩, ?_⟩
   ·simp only at hx ⊢
    rw [zDi (by omega)]; exact w4 x (by omega)
   ·show some (⟨_, .ints .u32 ((A ++ (Uc ++ C)).set (j + i) (yv : Int))⟩ : AObj) :: Hr = _
    rw [hset]
  ·have hie : i = s + 1 := by omega
   subst hie
   have hcr := w7 rfl
   subst hcr
   rw [List.take_of_length_le (by omega), List.take_of_length_le (by omega), List.take_of_length_le (by omega), Nat.zero_add] at w8
   have hUcb := zAt w3
   rw [w2] at hUcb
   obtain ⟨d0, d1⟩ := hdone (zc Uc) br hUcb w6 w8 e1 e2 hv0
   refine rn5 ?_
   refine zA Z (fun q0 => ?_) (fun q0 => ?_)
   ·obtain ⟨z1, z2⟩ := d0 (by omega)
    subst z1
    have hfx := zHI w3 w2 z2
    refine rn0 ?_
    refine zF (zAR (m := g) Z Z Z zFB (by omega)) ?_
    refine rn2 ?_
    refine zL hR Z ⟨Z, ?_⟩
    rw [hfx]
   ·obtain ⟨z1, z2⟩ := d1 (by omega)
    refine rn3 ?_
    refine ze (ι := Nat × List Int × Nat) (fun p => [(0, .sl 0 j (s + 1)), (1, .ro (.ints .u32 V) 0 s), (5, .int .i64 (s : Nat)), (7, .int .u64 (g : Nat)), (13, .int .u64 (p.2.2 : Nat)), (126, .int .i64 (s + 1 : Nat)), (127, .int .i64 (p.1 : Nat))]) (fun p => some ⟨223, .ints .u32 (A ++ (p.2.1 ++ C))⟩ :: Hr)
     (fun p => p.1 ≤ s + 1 ∧ p.2.1.length = s + 1 ∧ Lim p.2.1 ∧ (∀ x, p.1 ≤ x → p.2.1.getD x 0 = Uc.getD x 0) ∧ p.2.2 < 4294967296 ∧ zc (p.2.1.take p.1) + B ^ p.1 * p.2.2 = zc (Uc.take p.1) + zc (V.take p.1)) (fun p => s + 1 - p.1) (0, Uc, 0)
     ⟨⟨rfl, rfl, rfl, rfl, rfl, rfl, rfl, trivial⟩, rfl, Nat.zero_le _, w2, w3, fun _ _ => rfl, Nat.zero_lt_succ _, by simp [zc]⟩ ?_
    rintro ⟨i, Ud, sm⟩ ⟨x1, x2, x3, x4, x5, x6⟩
    simp only at *
    refine rn4 ?_
    refine zA Z (fun x9 => ?_) (fun x9 => ?_)
    ·have his : i < s + 1 := by omega
     obtain ⟨ui, hui, hub⟩ := w3.nat i
     obtain ⟨vi, hvi, hvb⟩ := hV.nat i
     have hcur := zGq (C := C) hj (show i < Ud.length by omega)
     rw [x4 i (Nat.le_refl _), hui] at hcur
     have hsl := hAl Ud x2 i his
     have hstep := zQR (sm := sm) (show i < Ud.length by omega) x6 hui hvi
     refine rn7 ?_
     refine zD 134 (.int .u32 (ui : Nat)) Z (AEq.of_eq (by rw [hcur])) ?_
     refine zF (zAR (m := ui) Z Z Z zBV (by omega)) ?_
     refine zF (zFa Z Z zBV (by omega)) ?_
     refine rn4 ?_
     apply zAG (H := some ⟨223, .ints .u32 (A ++ (Ud ++ C))⟩ :: Hr) [(0, .sl 0 j (s + 1)), (1, .ro (.ints .u32 V) 0 s), (5, .int .i64 (s : Nat)), (7, .int .u64 (g : Nat)), (13, .int .u64 (sm + ui + vi : Nat)), (14, .int .i64 (i : Nat)), (126, .int .i64 (s + 1 : Nat)), (127, .int .i64 (i : Nat))]
     ·intro fin
      refine zA Z (fun q1 => ?_) (fun q1 => ?_)
      ·refine rn6 ?_
       refine zD 144 (.int .u32 (vi : Nat)) Z (AEq.of_eq (by rw [hvi])) ?_
       refine zF (zAR (m := vi) Z Z Z zBV (by omega)) ?_
       refine zF (zFa Z Z zBV (by omega)) ?_
       refine zBa ?_
       exact fin _ ⟨Z, Z, Z, Z, Z, Z, Z, Z, trivial⟩
      ·have hv0 : vi = 0 := by
        have : V.getD i 0 = 0 := by simp [List.getD, List.getElem?_eq_none (show V.length ≤ i by omega)]
        omega
       subst hv0
       refine zBa ?_
       exact fin _ ⟨Z, Z, Z, Z, Z, Z, Z, Z, trivial⟩
     refine rn0 ?_
     refine zF (zGK Z Z Z zFB) ?_
     have hset := zQF (x := (((sm + ui + vi) % 4294967296 : Nat) : Int)) (C := C) hj (show i < Ud.length by omega)
     refine rn7 ?_
     refine zF (zGL (s := 32) Z Z Z) ?_
     refine rn5 ?_
     refine zK ⟨(i + 1, Ud.set i (((sm + ui + vi) % 4294967296 : Nat) : Int), (sm + ui + vi) / 4294967296), ⟨by simp only; omega, by simp [x2], x3.set (zD5 _), fun x hx => ?_, by simp only; omega, hstep⟩, by simp only; omega, ⟨Z, Z, Z, Z, Z, Z, Z, trivial⟩, ?_⟩
     ·simp only at hx ⊢
      rw [zDi (by omega)]; exact x4 x (by omega)
     ·show some (⟨_, .ints .u32 ((A ++ (Ud ++ C)).set (j + i) (((sm + ui + vi) % 4294967296 : Nat) : Int))⟩ : AObj) :: Hr = _
      rw [hset]
    ·have hie : i = s + 1 := by omega
     subst hie
     rw [List.take_of_length_le (by omega), List.take_of_length_le (by omega), List.take_of_length_le (by omega), z2] at x6
     have hUdb := zAt x3
     rw [x2] at hUdb
     have hv : zc Ud = m := by
      rcases Nat.lt_trichotomy sm 1 with z | z | z
      ·have : sm = 0 := by omega
       subst this
       omega
      ·subst z; omega
      ·have : B ^ (s + 1) * 2 ≤ B ^ (s + 1) * sm := Nat.mul_le_mul_left _ z
       omega
     have hfx := zHI x3 x2 hv
     refine rn5 ?_
     refine zF (zPB (m := g) (n := 1) Z Z zBV (by omega) (by omega)) ?_
     refine zF (zAR (m := g - 1) Z Z Z zFB (by omega)) ?_
     refine rn0 ?_
     refine zL hR Z ⟨?_, ?_⟩
     ·rw [show g - 1 = q by omega]; rfl
     ·rw [hfx]
theorem clone_ok (n : Nat) (h : (zR n).length ≤ 1000000) : zV Tryz.prog 225 [zg n] (zg n) := by
 unfold zg
 generalize zR n = l at *
 refine zT.value (K := fun r H => r = .sl 0 0 l.length ∧ H = [some ⟨223, .ints .u32 l⟩]) (zE (P := Tryz.prog) (fn := Tryz.f225) Z Z (by kernel_rfl) Z (fun c hR hfix => ?_)) (fix := fun _ => False) (fun _ h => h) Z ?_
 ·refine rn0 ?_
  refine zJ7 Z Z Z (fun b hb => ?_)
  refine rn0 ?_
  refine zD4 Z (fun h => ?_) (fun h => ?_)
  ·have := hb h
   have hn : l = [] := List.length_eq_zero_iff.mp this
   subst hn
   refine rn7 ?_
   refine zAl 2 ⟨223, .ints .u32 []⟩ Z Z ?_
   refine rn2 ?_
   exact zL hR Z ⟨Z, Z⟩
  ·refine rn1 ?_
   refine zCB Z Z Z Z Z Z Z Z Z Z ?_
   refine zn [some ⟨223, .ints .u32 []⟩] (zP.eqv ⟨Z, Z, fun i j hi => absurd hi (Nat.not_lt_zero _)⟩ zP.nil) ?_
   repeat (refine zF (zJ rfl) ?_)
   refine zo Z Z Z Z Z Z Z Z Z Z Z Z (by show 0 + l.length ≤ l.length; omega) Z (by show (0 + l.length) * 4 ≤ _ ∧ _; omega) (fun i j _ _ => rfl) (by rw [hfix]; exact fun h => h) ?_
   refine rn0 ?_
   refine zL hR Z ⟨?_, ?_⟩
   ·show AV.sl 0 0 (0 + l.length) = _; rw [Nat.zero_add]
   ·show ([some ⟨223, .ints .u32 ([] ++ List.take l.length (List.drop 0 l))⟩] : zM) = _
    simp
 ·rintro r H ⟨rfl, rfl⟩
  exact ⟨rfl, fun o ho => by simp at ho; subst ho; exact Nat.le_of_eq (by simp [Cells.len]), zJd zAs⟩
theorem div_less (n m : Nat) (h : n < m) (hn : (zR n).length ≤ 1000000) (hm : (zR m).length ≤ 1000000) : zV Tryz.prog 163 [zg n, zg m] (.tup [.nil, zg n]) := by
 have hc := zMH n m (by omega) (by omega)
 rw [zII (Int.ofNat_lt.2 h)] at hc
 have hcl := clone_ok n hn
 refine zT.value0 (zE (P := Tryz.prog) (fn := Tryz.f163) Z Z (by kernel_rfl) Z (fun c hR hfix => ?_)) (fix := fun _ => False) (fun _ h => h) Z Z
 refine rn0 ?_
 refine zB Z Z Z hc ?_
 refine rn5 ?_
 refine zB Z Z Z hcl ?_
 refine rn2 ?_
 exact zL hR Z Z
theorem zPZ {n m : Nat} (h : m ≤ n) : ¬ zEC n m < 0 := by
 rcases Nat.lt_or_ge m n with q | q
 ·rw [zIH (Int.ofNat_lt.2 q)]; decide
 ·rw [zPV (by omega)]; decide
theorem div_one (n m : Nat) (h : m ≤ n) (hn : (zR n).length ≤ 1000000) (hm : (zR m).length = 1) : zV Tryz.prog 163 [zg n, zg m] (.tup [zg (n / m), zg (n % m)]) := by
 have hc := zMH n m (by omega) (by omega)
 have hcn := zPZ h
 obtain ⟨t, low, ht, htb, htp, hv, hlow⟩ := zG7 (Nat.le_refl 1) hm
 have hmt : m = t := by
  simp at hv hlow
  subst hlow
  rw [hv]; simp
 subst hmt
 have hds := zJX (zR n) m (zAP n) (by omega) ⟨htp, htb⟩
 rw [zz] at hds
 have hr : n % m < 4294967296 := Nat.lt_trans (Nat.mod_lt _ htp) htb
 have hsm := zG2 (n % m) (by omega)
 refine zT.value0 (zE (P := Tryz.prog) (fn := Tryz.f163) Z Z (by kernel_rfl) Z (fun c hR hfix => ?_)) (fix := fun _ => False) (fun _ h => h) Z Z
 refine rn0 ?_
 refine zB Z Z Z hc ?_
 refine rn4 ?_
 refine zA Z (fun q => absurd q hcn) (fun q => ?_)
 unfold zg
 refine rn4 ?_
 rw [hm]
 refine rn6 ?_
 refine zD 31 (.int .u32 (m : Nat)) Z (AEq.of_eq (by congr 1)) ?_
 refine zB Z Z Z hds ?_
 refine rn2 ?_
 refine zF (zAR (m := n % m) Z Z Z zBV (by omega)) ?_
 refine zB Z Z Z hsm ?_
 refine rn2 ?_
 exact zL hR Z Z
theorem div_many (n m : Nat) (h : m ≤ n) (hn : (zR n).length ≤ 1000000) (hm2 : 2 ≤ (zR m).length) : zV Tryz.prog 163 [zg n, zg m] (.tup [zg (n / m), zg (n % m)]) := by
 have hlm : (zR m).length ≤ (zR n).length := zAd (by have := zAt (zAP n); rw [zz] at this; omega)
 have hc := zMH n m (by omega) (by omega)
 have hcn := zPZ h
 have hm0 : 0 < m := by
  rcases Nat.eq_zero_or_pos m with q | q
  ·subst q; rw [zBo] at hm2; simp at hm2
  ·exact q
 have hnB : n < B ^ (zR n).length := by have := zAt (zAP n); rwa [zz] at this
 obtain ⟨s, hs⟩ : ∃ s, (zR m).length = s := ⟨_, rfl⟩
 obtain ⟨ln, hln⟩ : ∃ ln, (zR n).length = ln := ⟨_, rfl⟩
 rw [hs] at hm2 hlm
 rw [hln] at hn hnB hlm
 obtain ⟨t, low, ht, htb, htp, hv, hlow⟩ := zG7 (show 1 ≤ s by omega) hs
 refine zT.value0 (zE (P := Tryz.prog) (fn := Tryz.f163) Z Z (by kernel_rfl) Z (fun c hR hfix => ?_)) (fix := fun _ => False) (fun _ h => h) Z Z
 refine rn0 ?_
 refine zB Z Z Z hc ?_
 refine rn4 ?_
 refine zA Z (fun q => absurd q hcn) (fun q => ?_)
 have en : zg n = .ro (.ints .u32 (zR n)) 0 ln := by unfold zg; rw [hln]
 have em : zg m = .ro (.ints .u32 (zR m)) 0 s := by unfold zg; rw [hs]
 rw [en, em]
 refine rn4 ?_
 refine zA Z (fun q => absurd q (by omega)) (fun q => ?_)
 refine rn1 ?_
 refine ze (ι := Nat) (fun k => [(0, .ro (.ints .u32 (zR n)) 0 ln), (1, .ro (.ints .u32 (zR m)) 0 s), (8, iN k)]) (fun _ => []) (fun k => k ≤ 31 ∧ t * 2 ^ k < 4294967296) (fun k => 32 - k) 0 ⟨⟨Z, Z, Z, trivial⟩, Z, by omega, by rw [Nat.pow_zero, Nat.mul_one]; exact htb⟩ ?_
 rintro k ⟨hk1, hk2⟩
 refine rn7 ?_
 refine zD 42 (iN (s - 1)) Z (AEq.of_eq (by congr 1; omega)) ?_
 refine rn6 ?_
 refine zD 44 (.int .u32 (t : Nat)) Z (AEq.of_eq (by rw [ht])) ?_
 skip
 refine zF (zKb (m := t) (s := k) Z Z (by show k ≤ 32; omega) zFB hk2) ?_
 refine zF (zGL (s := 31) Z Z Z) ?_
 refine rn4 ?_
 refine zA Z (fun q1 => ?_) (fun q1 => ?_)
 ·have hmore := k_more htp hk2 hk1 (by omega)
  refine rn5 ?_
  exact zK ⟨k + 1, ⟨hmore.2, hmore.1⟩, by omega, ⟨Z, Z, Z, trivial⟩, Z⟩
 have hstop := k_stop (t := t) (k := k) (by omega)
 obtain ⟨hnl, hnt⟩ := norm_top (show 1 ≤ s by omega) hs ht hstop hk2 hk1
 have hsn := zN7 (zR n) k (zAP n) (by omega) (by omega)
 have hsm := zN7 (zR m) k (zAP m) (by omega) (by omega)
 rw [zz, hln] at hsn
 rw [zz, hs] at hsm
 have hvB : m * 2 ^ k < B ^ s := by have := zAt (zAP (m * 2 ^ k)); rwa [zz, hnl] at this
 have hvB1 : m * 2 ^ k < B ^ (s + 1) := Nat.lt_of_lt_of_le hvB (Nat.pow_le_pow_right (by decide) (by omega))
 have hnorm := zD6 (zB5 (s + 1) (m * 2 ^ k)) (zFn _ _) (by rw [zB6]; omega)
 rw [zIU _ _ hvB1] at hnorm
 have hstart := zRD hnB hk1 (show 1 ≤ s by omega) hlm (top_ge (show 1 ≤ s by omega) hnl hnt)
 have hv0 : 0 < m * 2 ^ k := Nat.mul_pos hm0 (Nat.pow_pos (by decide))
 have ev : zg (m * 2 ^ k) = .ro (.ints .u32 (zR (m * 2 ^ k))) 0 s := by unfold zg; rw [hnl]
 have hdig := fun (A U C : List Int) (j : Nat) (Hr : zM) (hj : A.length = j) (hl : U.length = s + 1) (hU : Lim U) => digit_ok A U C (zR (m * 2 ^ k)) j s Hr hj hm2 hl hnl hU (zAP _) hnt
 rw [zz] at hdig
 have hend := fun Q W => quo_end (n := n) (m := m) (k := k) (W := W) (Q := Q) hm0
 obtain ⟨v, hve⟩ : ∃ v, m * 2 ^ k = v := ⟨_, rfl⟩
 rw [hve] at hsm hvB hvB1 hnorm hstart hv0 ev hdig hend hnl
 refine rn5 ?_
 have c1 : [AV.ro (.ints .u32 (zR n)) 0 ln, iN k] ++ [] = [zGF (zR n), iN k] := by unfold zGF; rw [hln]; rfl
 have c2 : [AV.ro (.ints .u32 (zR m)) 0 s, iN k] ++ [] = [zGF (zR m), iN k] := by unfold zGF; rw [hs]; rfl
 refine zEB Z Z c1 hsn ?_
 repeat (refine zF (zJ rfl) ?_)
 refine zEB Z Z c2 hsm ?_
 refine zCx 1 56 (s + 1) [(0, .ro (.ints .u32 (zR n)) 0 ln), (8, iN k), (53, .sl 0 0 (ln + 1))] Z zAs Z (by show _ ≤ (zB5 _ _).length; rw [zB6]; omega) ⟨Z, Z, Z, trivial⟩ ?_
 refine zB Z Z (zDV (zB6 _ _)) hnorm ?_
 rw [ev]
 refine rn7 ?_
 refine zCy Z Z Z Z Z Z Z Z (by show (0 : Int) ≤ _ ∧ _ ≤ _ ∧ (4 : Int) * _ ≤ _ ∧ _; omega) ?_
 obtain ⟨J, hJ⟩ : ∃ J, J + s = ln + 1 := ⟨ln + 1 - s, by omega⟩
 rw [show (((ln + 1 : Nat) : Int) - (s : Nat)).toNat = J by omega]
 rw [show ln + 1 - s = J by omega] at hstart
 refine rn7 ?_
 refine ze (ι := Nat × Nat × List Int) (fun p => [(8, iN k), (9, .sl 0 0 (ln + 1)), (10, .ro (.ints .u32 (zR v)) 0 s), (11, iN s), (12, .sl 2 0 J), (13, .int .i64 ((p.1 : Int) - 1))]) (fun p => [some ⟨223, .ints .u32 (zB5 (ln + 1) p.2.1)⟩, none, some ⟨223, .ints .u32 p.2.2⟩])
  (fun p => p.1 ≤ J ∧ p.2.1 < v * B ^ p.1 ∧ p.2.2.length = J ∧ Lim p.2.2 ∧ (∀ x, x < p.1 → p.2.2.getD x 0 = 0) ∧ zc p.2.2 * v + p.2.1 = n * 2 ^ k) (fun p => p.1) (J, n * 2 ^ k, List.replicate J 0)
  ⟨⟨rfl, rfl, rfl, rfl, rfl, ?_, trivial⟩, rfl, Nat.le_refl _, hstart, by simp, Lim.zeros _, fun x _ => zOJ _ _, by simp [zH7]⟩ ?_
 ·show some (AV.int .i64 _) = _
  congr 2
  omega
 rintro ⟨j1, W, Q⟩ ⟨w1, w2, w3, w4, w5, w6⟩
 simp only at *
 refine rn7 ?_
 refine zA Z (fun q2 => ?_) (fun q2 => ?_)
 ·obtain ⟨j, rfl⟩ : ∃ j, j1 = j + 1 := ⟨j1 - 1, by omega⟩
  obtain ⟨p1, p2, p3, W', p4, p5, p6⟩ := quo_step (N := ln + 1) hv0 hvB w2 (show j + (s + 1) ≤ ln + 1 by omega)
  have hd := hdig (zB5 j W) (zB5 (s + 1) (W / B ^ j)) (zB5 (ln + 1 - (j + (s + 1))) (W / B ^ j / B ^ (s + 1))) j [none, some ⟨223, .ints .u32 Q⟩] (zB6 _ _) (zB6 _ _) (zFn _ _) (by rw [p2]; exact p3) (by rw [← p1, zB6]; omega)
  rw [p2, p4, ← p1] at hd
  have hq : W / B ^ j / v < 4294967296 := Nat.div_lt_of_lt_mul (by rw [Nat.mul_comm]; exact p3)
  obtain ⟨dg, hdg⟩ : ∃ dg, W / B ^ j / v = dg := ⟨_, rfl⟩
  rw [hdg] at hd hq p6
  refine rn17 ?_
  refine zD 82 (.sl 0 j (s + 1)) Z (AEq.of_eq (by congr 1 <;> omega)) ?_
  skip
  have c3 : [AV.sl 0 j (s + 1), .ro (.ints .u32 (zR v)) 0 s] ++ [] = [.sl 0 j (s + 1), zGF (zR v)] := by unfold zGF; rw [hnl]; rfl
  refine zCH Z Z c3 hd (fun h hh => hh) (fun h hh => hh) ?_
  rintro r H ⟨rfl, rfl⟩
  refine zD 75 (iN j) Z (AEq.of_eq (by congr 1; omega)) ?_
  refine rn7 ?_
  have hz := w5 j (by omega)
  have hset := zK3 (x := (dg : Int)) (show j < Q.length by omega)
  rw [hz, Int.toNat_natCast] at hset
  have z0 : (0 : Int).toNat = 0 := rfl
  rw [z0, Nat.mul_zero, Nat.add_zero] at hset
  refine zK ⟨(j, W', Q.set j (dg : Int)), ⟨by simp only; omega, p5, by simp [w3], w4.set (by omega), fun x hx => ?_, ?_⟩, by simp only; omega, ⟨Z, Z, Z, Z, Z, ?_, trivial⟩, Z⟩
  ·simp only at hx ⊢
   rw [zDi (by omega)]; exact w5 x (by omega)
  ·simp only
   rw [hset, Nat.add_mul, Nat.mul_assoc, Nat.mul_comm dg v]
   omega
  ·show some (AV.int .i64 _) = _
   congr 2
   omega
 ·have hj0 : j1 = 0 := by omega
  subst hj0
  rw [Nat.pow_zero, Nat.mul_one] at w2
  have he := hend (zc Q) W
  obtain ⟨hq, hW⟩ := he w6 w2
  clear he hend
  have hWB : W < B ^ s := Nat.lt_trans w2 hvB
  have htk : (zB5 (ln + 1) W).take s = zB5 s W := by
   rw [show ln + 1 = s + J by omega, zFm, List.take_left' (zB6 _ _)]
  have hn1 := zD6 (zB5 s W) (zFn _ _) (by rw [zB6]; omega)
  rw [zIU _ _ hWB] at hn1
  refine rn5 ?_
  refine zF (zEK Z Z Z Z Z Z Z Z ⟨Z, by omega, by omega⟩) ?_
  refine zD 88 (.sl 0 0 s) Z (AEq.of_eq (by rw [Int.toNat_natCast])) ?_
  refine zCx 0 88 s [(8, iN k), (12, .sl 2 0 J)] Z zAs Z (by show _ ≤ (zB5 _ _).length; rw [zB6]; omega) ⟨Z, Z, trivial⟩ ?_
  refine zD 88 (.ro (.ints .u32 (zB5 s W)) 0 s) Z (AEq.trans AEq.take (AEq.of_eq (by rw [htk]))) ?_
  refine zB Z Z (zDV (zB6 _ _)) hn1 ?_
  have hlW := zAP W
  have hWv := zz W
  have hlWl : (zR W).length ≤ s := zAd hWB
  unfold zg
  obtain ⟨r, hr⟩ : ∃ r, zR W = r := ⟨_, rfl⟩
  rw [hr] at hlW hWv hlWl ⊢
  refine rn3 ?_
  refine zCy Z Z Z Z Z Z Z Z (by show (0 : Int) ≤ _ ∧ _ ≤ _ ∧ (4 : Int) * _ ≤ _ ∧ _; omega) ?_
  refine rn3 ?_
  have hd0 : ∃ d0 : Nat, r.getD 0 0 = (d0 : Int) ∧ d0 < 4294967296 := hlW.nat 0
  obtain ⟨d0, hd0, hd0b⟩ := hd0
  refine ze (ι := Nat × List Int) (fun p => [(8, iN k), (12, .sl 2 0 J), (14, .ro (.ints .u32 r) 0 r.length), (15, .sl 3 0 r.length), (93, .ro (.ints .u32 r) 0 r.length), (94, iN r.length), (95, iN p.1)]) (fun p => [none, none, some ⟨223, .ints .u32 Q⟩, some ⟨223, .ints .u32 p.2⟩])
   (fun p => p.1 ≤ r.length ∧ p.2.length = r.length ∧ Lim p.2 ∧ zc (p.2.take p.1) * 2 ^ k + d0 % 2 ^ k = zc (r.take p.1) + (r.getD p.1 0).toNat % 2 ^ k * B ^ p.1) (fun p => r.length - p.1) (0, List.replicate r.length 0)
   ⟨⟨rfl, rfl, rfl, rfl, rfl, rfl, rfl, trivial⟩, rfl, Nat.zero_le _, by simp, Lim.zeros _, by simp [zc]; rw [show r[0]?.getD 0 = (d0 : Int) from hd0]; simp⟩ ?_
  rintro ⟨i, O⟩ ⟨x1, x2, x3, x4⟩
  simp only at *
  refine rn4 ?_
  refine zA Z (fun x5 => ?_) (fun x5 => ?_)
  ·have hil : i < r.length := by omega
   obtain ⟨d, hd, hdb⟩ := hlW.nat i
   obtain ⟨e, he, heb⟩ := hlW.nat (i + 1)
   have hbl := zQQ (e := e) hdb hk1
   have hbm := back_lim (e := e) hdb hk1
   have hdk : d / 2 ^ k < 4294967296 := Nat.lt_of_le_of_lt (Nat.div_le_self _ _) hdb
   rw [hd, Int.toNat_natCast] at x4
   have hstep := back_val (e := e) (out := O.take i) (i := i) hk1 (by simp; omega) hd x4
   refine rn6 ?_
   refine zD 102 (.int .u32 (d : Nat)) Z (AEq.of_eq (by rw [hd])) ?_
   skip
   refine zF (zGL (m := d) (s := k) Z Z (by rw [Nat.ble_eq]; show k ≤ 32; omega)) ?_
   refine rn7 ?_
   apply zAG (H := [none, none, some ⟨223, .ints .u32 Q⟩, some ⟨223, .ints .u32 (O.set i ((d / 2 ^ k + e % 2 ^ k * 2 ^ (32 - k) : Nat) : Int))⟩]) [(8, iN k), (12, .sl 2 0 J), (14, .ro (.ints .u32 r) 0 r.length), (15, .sl 3 0 r.length), (93, .ro (.ints .u32 r) 0 r.length), (94, iN r.length), (95, iN i)]
   ·intro fin
    have noFin : (i + 1 = r.length ∨ k = 0) → e % 2 ^ k * 2 ^ (32 - k) = 0 := by
     rintro (h | h)
     ·have : r.getD (i + 1) 0 = 0 := by simp [List.getD, List.getElem?_eq_none (show r.length ≤ i + 1 by omega)]
      have : e = 0 := by omega
      subst this; simp
     ·subst h; rw [Nat.pow_zero, Nat.mod_one]; try simp
    refine zAe Z Z (fun y1 => ?_) (fun y1 => ?_)
    ·refine rn6 ?_
     refine zA Z (fun y2 => ?_) (fun y2 => ?_)
     ·skip
      refine zh (by kernel_rfl) ?_
      refine zU 0 Z (by kernel_rfl) (by kernel_rfl) (by kernel_rfl) Z (zJ Z) Z ?_
      refine zU 1 Z (by kernel_rfl) (by kernel_rfl) (by kernel_rfl) Z (zJ Z) Z ?_
      refine zU 2 Z (by kernel_rfl) (by kernel_rfl) (by kernel_rfl) Z (zBQ Z Z Z Z Z (by first | (simp only [Nat.zero_add, Int.toNat_natCast, Int.toNat_zero]; exact Z) | exact Z) (by omega)) Z ?_
      refine zU 4 Z (by kernel_rfl) (by kernel_rfl) (by kernel_rfl) Z (zJ Z) Z ?_
      refine zU 5 Z (by kernel_rfl) (by kernel_rfl) (by kernel_rfl) Z (zJ Z) Z ?_
      refine zU 6 Z (by kernel_rfl) (by kernel_rfl) (by kernel_rfl) Z (zCF Z Z (by omega)) Z ?_
      refine zU 7 Z (by kernel_rfl) (by kernel_rfl) (by kernel_rfl) Z (z8 Z Z Z Z (by first | (simp only [Nat.zero_add, Int.toNat_natCast, Int.toNat_zero]; exact Z) | exact Z) (by omega)) Z ?_
      refine zU 9 Z (by kernel_rfl) (by kernel_rfl) (by kernel_rfl) Z (zJ Z) Z ?_
      refine zU 10 Z (by kernel_rfl) (by kernel_rfl) (by kernel_rfl) Z (zE7 Z Z (by omega)) Z ?_
      apply zDQ [(8, iN k), (12, .sl 2 0 J), (14, .ro (.ints .u32 r) 0 r.length), (15, .sl 3 0 r.length), (93, .ro (.ints .u32 r) 0 r.length), (94, iN r.length), (95, iN i), (118, .int .u32 (d / 2 ^ k : Nat)), (126, .int .u32 (e * 2 ^ (32 - k) % 4294967296 : Nat)), (115, .sl 3 0 r.length), (116, iN i)]
      ·intro fin2
       have hsl : (O.set i ((d / 2 ^ k : Nat) : Int)).getD i 0 = ((d / 2 ^ k : Nat) : Int) := by simp [List.getD, show i < O.length by omega]
       have hil2 : i < (O.set i ((d / 2 ^ k : Nat) : Int)).length := by simp; omega
       refine zG (is := [3, 8]) (by kernel_rfl) (by simp) Z ⟨fun o ho => ?_, fun o ho => ?_, trivial⟩
       all_goals (cases ho)
       ·refine rn7 ?_
        refine zG (is := [8]) (by kernel_rfl) (by simp) Z ⟨fun o ho => ?_, trivial⟩
        all_goals (cases ho)
        refine rn6 ?_
        refine zB3 123 (.int .u32 (e : Nat)) Z (AEq.of_eq (by rw [show ((i : Int) + 1).toNat = i + 1 by omega, he])) ?_
        refine zB3 125 (iN (32 - k)) Z (AEq.of_eq (by congr 1; omega)) ?_
        refine zU 11 Z (by kernel_rfl) (by kernel_rfl) (by kernel_rfl) Z (zP7 (m := e) (s := 32 - k) Z Z (by show 32 - k ≤ 32; omega) zFB) Z ?_
        refine fin2 _ ⟨Z, Z, Z, Z, Z, Z, Z, ?_, Z, Z, Z, trivial⟩
        show some (AV.int .u32 ((O.set i ((d / 2 ^ k : Nat) : Int)).getD i 0)) = _
        rw [hsl]
       ·refine rn6 ?_
        refine zB3 123 (.int .u32 (e : Nat)) Z (AEq.of_eq (by rw [show ((i : Int) + 1).toNat = i + 1 by omega, he])) ?_
        refine zB3 125 (iN (32 - k)) Z (AEq.of_eq (by congr 1; omega)) ?_
        refine zU 11 Z (by kernel_rfl) (by kernel_rfl) (by kernel_rfl) Z (zP7 (m := e) (s := 32 - k) Z Z (by show 32 - k ≤ 32; omega) zFB) Z ?_
        refine zG (is := [3]) (by kernel_rfl) (by simp) Z ⟨fun o ho => ?_, trivial⟩
        all_goals (cases ho)
        refine rn7 ?_
        refine fin2 _ ⟨Z, Z, Z, Z, Z, Z, Z, ?_, Z, Z, Z, trivial⟩
        show some (AV.int .u32 ((O.set i ((d / 2 ^ k : Nat) : Int)).getD i 0)) = _
        rw [hsl]
      refine zU 12 Z (by kernel_rfl) (by kernel_rfl) (by kernel_rfl) Z (QOp.res (zNr Z Z zFB Z hdk (Nat.mod_lt _ (by decide))) (by rw [hbl])) Z ?_
      have hil2 : i < (O.set i ((d / 2 ^ k : Nat) : Int)).length := by simp; omega
      refine zU 13 Z (by kernel_rfl) (by kernel_rfl) (by kernel_rfl) Z (zBQ Z Z Z Z Z (by first | (simp only [Nat.zero_add, Int.toNat_natCast, Int.toNat_zero]; exact Z) | exact Z) (by omega)) Z ?_
      refine zG (is := [14]) (by kernel_rfl) (by simp) Z ⟨fun o ho => ?_, trivial⟩
      all_goals (cases ho)
      refine rn7 ?_
      refine zW (by kernel_rfl) ?_
      refine zBa ?_
      refine zAi _ (by show [none, none, _, some (⟨_, .ints .u32 ((O.set i _).set i _)⟩ : AObj)] = _; rw [List.set_set]) ?_
      exact fin _ ⟨Z, Z, Z, Z, Z, Z, Z, trivial⟩
     ·have hz := noFin (.inr (by omega))
      rw [hz, Nat.add_zero] at fin
      refine zBa ?_
      exact fin _ ⟨Z, Z, Z, Z, Z, Z, Z, trivial⟩
    ·have hz := noFin (.inl (by omega))
     rw [hz, Nat.add_zero] at fin
     refine zBa ?_
     exact fin _ ⟨Z, Z, Z, Z, Z, Z, Z, trivial⟩
   refine rn3 ?_
   refine zK ⟨(i + 1, O.set i ((d / 2 ^ k + e % 2 ^ k * 2 ^ (32 - k) : Nat) : Int)), ⟨by simp only; omega, by simp [x2], x3.set (by omega), ?_⟩, by simp only; omega, ⟨Z, Z, Z, Z, Z, Z, Z, trivial⟩, Z⟩
   simp only
   rw [zFc (by omega), he, Int.toNat_natCast]
   exact hstep
  ·have hie : i = r.length := by omega
   subst hie
   have hz : r.getD r.length 0 = 0 := by simp [List.getD]
   have z0 : (0 : Int).toNat = 0 := rfl
   rw [hz, z0, Nat.zero_mod, Nat.zero_mul, Nat.add_zero, List.take_of_length_le (by omega), List.take_length, hWv, hW] at x4
   have hpk : 0 < 2 ^ k := Nat.pow_pos (by decide)
   have hOv : zc O = n % m := by
    have h1 : d0 % 2 ^ k < 2 ^ k := Nat.mod_lt _ hpk
    have h2 : (zc O * 2 ^ k + d0 % 2 ^ k) / 2 ^ k = zc O := by rw [Nat.add_comm, Nat.add_mul_div_right _ _ hpk, Nat.div_eq_of_lt h1, Nat.zero_add]
    rw [x4, Nat.mul_div_cancel _ hpk] at h2
    exact h2.symm
   have nq := zD6 Q w4 (by omega)
   have no := zD6 O x3 (by omega)
   rw [hq] at nq
   rw [hOv] at no
   refine rn5 ?_
   refine zCx 2 130 J [(15, .sl 3 0 r.length)] Z zAs Z (by show _ ≤ Q.length; omega) ⟨Z, trivial⟩ ?_
   refine zB Z Z (zDV w3) nq ?_
   repeat (refine zF (zJ rfl) ?_)
   refine zCx 3 132 r.length [(131, zg (n / m))] Z zAs Z (by show _ ≤ O.length; omega) ⟨Z, trivial⟩ ?_
   refine zB Z Z (zDV x2) no ?_
   refine rn0 ?_
   exact zL hR Z Z
theorem zI5 (n m : Nat) (hm : 0 < m) (hn : (zR n).length ≤ 1000000) (hml : (zR m).length ≤ 1000000) : zV Tryz.prog 163 [zg n, zg m] (.tup [zg (n / m), zg (n % m)]) := by
 rcases Nat.lt_or_ge n m with h | h
 ·rw [Nat.div_eq_of_lt h, Nat.mod_eq_of_lt h]
  exact zV.res (div_less n m h hn hml) (AEq.tup2 AEq.natNil)
 ·have h1 : (zR m).length ≠ 0 := by
   have := zCU.2 (show m ≠ 0 by omega)
   omega
  rcases Nat.lt_or_ge (zR m).length 2 with q | q
  ·exact div_one n m h hn (by omega)
  ·exact div_many n m h hn q
theorem zOp (n m : Nat) (hn : (zR n).length ≤ 1000000) (hm : (zR m).length ≤ 1000000) : zV Tryz.prog 81 [zg n, zg m] (zg (Nat.gcd n m)) := by
 refine zT.value0 (zE (P := Tryz.prog) (fn := Tryz.f81) Z Z (by kernel_rfl) Z (fun c hR hfix => ?_)) (fix := fun _ => False) (fun _ h => h) Z Z
 refine rn1 ?_
 refine ze (ι := Nat × Nat) (fun p => [(0, zg p.1), (1, zg p.2)]) (fun _ => []) (fun p => (zR p.1).length ≤ 1000000 ∧ (zR p.2).length ≤ 1000000 ∧ Nat.gcd p.1 p.2 = Nat.gcd n m) (fun p => p.2) (n, m) ⟨⟨Z, Z, trivial⟩, Z, hn, hm, Z⟩ ?_
 rintro ⟨a, b⟩ ⟨h1, h2, h3⟩
 simp only at *
 have hd := fun h => zI5 a b h h1 h2
 have hpos : 0 < (zR b).length ↔ b ≠ 0 := zCU
 have en : zg b = .ro (.ints .u32 (zR b)) 0 (zR b).length := rfl
 rw [en] at hd ⊢
 refine rn6 ?_
 refine zA Z (fun h4 => ?_) (fun h4 => ?_)
 ·have hb : b ≠ 0 := hpos.1 (by omega)
  refine rn1 ?_
  refine zB Z Z Z (hd (by omega)) ?_
  refine rn5 ?_
  refine zK ⟨(b, a % b), ⟨h2, zFY (Nat.mod_lt a (by omega)) h2, ?_⟩, Nat.mod_lt a (by omega), ⟨Z, Z, trivial⟩, Z⟩
  show Nat.gcd b (a % b) = Nat.gcd n m
  rw [← h3, Nat.gcd_comm a b, Nat.gcd_rec b a, Nat.gcd_comm]
 ·have hb : b = 0 := by
   rcases Nat.eq_zero_or_pos b with q | q
   ·exact q
   ·have := hpos.2 (by omega); omega
  rw [hb, Nat.gcd_zero_right] at h3
  refine rn5 ?_
  refine zL hR Z ?_
  rw [← h3]; rfl
theorem one_ok (n : Nat) : zV Tryz.prog 82 [zg n] (.bool (decide (n = 1))) := by
 refine zT.value0 (zE (P := Tryz.prog) (fn := Tryz.f82) Z Z (by kernel_rfl) Z (fun c hR hfix => ?_)) (fix := fun _ => False) (fun _ h => h) Z Z
 have h1 : n = 1 ↔ (zR n).length = 1 ∧ (zR n).getD 0 0 = 1 := zQ2
 unfold zg
 refine rn4 ?_
 refine zAe Z Z (fun h2 => ?_) (fun h2 => ?_)
 ·refine rn6 ?_
  refine zL hR Z ?_
  show AV.bool (decide ((zR n).getD _ 0 = 1)) = _
  congr 1
  rw [decide_eq_decide, h1]
  exact ⟨fun h => ⟨by omega, h⟩, fun h => h.2⟩
 ·refine rn6 ?_
  refine zL hR Z ?_
  show AV.bool false = _
  rw [decide_eq_false]
  intro h
  exact h2 (by have := (h1.1 h).1; omega)
theorem zPD (l : List (List UInt8)) (hl : l.length ≤ 1000000000) :
 zT Tryz.prog 256 [.sl 0 0 l.length] [some ⟨9, .strs l⟩] (fun h => h < 1) (fun _ H => H = [some ⟨9, .strs l.reverse⟩]) := by
 refine zE (P := Tryz.prog) (fn := Tryz.f256) Z Z (by kernel_rfl) Z (fun c hR hfix => ?_)
 refine rn7 ?_
 refine ze (ι := Nat) (fun k => [(0, .sl 0 0 l.length), (2, iN k), (3, .int .i64 ((l.length : Int) - 1 - k))]) (fun k => [some ⟨9, .strs (zGa l k)⟩]) (fun k => 2 * k ≤ l.length + 1) (fun k => l.length + 1 - k) 0 ⟨⟨Z, Z, ?_, trivial⟩, by rw [zRH], by omega⟩ ?_
 ·show some (AV.int .i64 _) = _
  congr 2; omega
 rintro k hk
 have hrl := zDm l k
 refine rn4 ?_
 refine zA Z (fun h1 => ?_) (fun h1 => ?_)
 ·have hk2 : k + 1 + k < l.length := by omega
  have e1 : ((l.length : Int) - 1 - (k : Nat)).toNat = l.length - 1 - k := by omega
  refine rn1 ?_
  refine zh (by kernel_rfl) ?_
  refine zU 0 Z (by kernel_rfl) (by kernel_rfl) (by kernel_rfl) Z (zJ Z) Z ?_
  refine zU 1 Z (by kernel_rfl) (by kernel_rfl) (by kernel_rfl) Z (zJ Z) Z ?_
  refine zU 2 Z (by kernel_rfl) (by kernel_rfl) (by kernel_rfl) Z (zJ Z) Z ?_
  refine zU 3 Z (by kernel_rfl) (by kernel_rfl) (by kernel_rfl) Z (zJ Z) Z ?_
  refine zU 4 Z (by kernel_rfl) (by kernel_rfl) (by kernel_rfl) Z (zJ Z) Z ?_
  refine zU 5 Z (by kernel_rfl) (by kernel_rfl) (by kernel_rfl) Z (zJ Z) Z ?_
  refine zU 6 Z (by kernel_rfl) (by kernel_rfl) (by kernel_rfl) Z (zBQ Z Z Z Z Z (by first | (simp only [Nat.zero_add, Int.toNat_natCast, Int.toNat_zero]; exact Z) | exact Z) (by omega)) Z ?_
  refine zU 8 Z (by kernel_rfl) (by kernel_rfl) (by kernel_rfl) Z (zJ Z) Z ?_
  refine zU 9 Z (by kernel_rfl) (by kernel_rfl) (by kernel_rfl) Z (zJ Z) Z ?_
  refine zU 10 Z (by kernel_rfl) (by kernel_rfl) (by kernel_rfl) Z (zBQ Z Z Z Z Z (by first | (simp only [Nat.zero_add, Int.toNat_natCast, Int.toNat_zero]; exact Z) | exact Z) (by omega)) Z ?_
  refine zB3 20 (.ptr 0 (l.length - 1 - k) 0) Z (AEq.of_eq (by rw [e1])) ?_
  have b1 : l.length - 1 - k < (zGa l k).length := by omega
  have b2 : k < (zGa l k).length := by omega
  apply zDQ [(0, .sl 0 0 l.length), (2, iN k), (3, .int .i64 ((l.length : Int) - 1 - k)), (14, .sl 0 0 l.length), (15, iN k), (16, .sl 0 0 l.length), (17, .int .i64 ((l.length : Int) - 1 - k)), (21, .str ((zGa l k).getD (l.length - 1 - k) [])), (25, .str ((zGa l k).getD k []))]
  ·intro fin
   refine zG (is := [7, 11]) (by kernel_rfl) (by simp) Z ⟨fun o ho => ?_, fun o ho => ?_, trivial⟩
   all_goals (cases ho)
   ·refine zDp ?_
    refine zG (is := [11]) (by kernel_rfl) (by simp) Z ⟨fun o ho => ?_, trivial⟩
    all_goals (cases ho)
    refine zDp ?_
    exact fin _ ⟨Z, Z, Z, Z, Z, Z, Z, Z, Z, trivial⟩
   ·refine zDp ?_
    refine zG (is := [7]) (by kernel_rfl) (by simp) Z ⟨fun o ho => ?_, trivial⟩
    all_goals (cases ho)
    refine zDp ?_
    exact fin _ ⟨Z, Z, Z, Z, Z, Z, Z, Z, Z, trivial⟩
  refine zU 12 Z (by kernel_rfl) (by kernel_rfl) (by kernel_rfl) Z (zBQ Z Z Z Z Z (by first | (simp only [Nat.zero_add, Int.toNat_natCast, Int.toNat_zero]; exact Z) | exact Z) (by omega)) Z ?_
  refine zG (is := [13]) (by kernel_rfl) (by simp) Z ⟨fun o ho => ?_, trivial⟩
  all_goals (cases ho)
  refine rn7 ?_
  refine zU 14 Z (by kernel_rfl) (by kernel_rfl) (by kernel_rfl) Z (zBQ Z Z Z Z Z (by first | (simp only [Nat.zero_add, Int.toNat_natCast, Int.toNat_zero]; exact Z) | exact Z) (by omega)) Z ?_
  refine zB3 27 (.ptr 0 (l.length - 1 - k) 0) Z (AEq.of_eq (by rw [e1])) ?_
  have b3 : l.length - 1 - k < ((zGa l k).set k ((zGa l k).getD (l.length - 1 - k) [])).length := by simp; omega
  refine zG (is := [15]) (by kernel_rfl) (by simp) Z ⟨fun o ho => ?_, trivial⟩
  all_goals (cases ho)
  refine rn7 ?_
  refine zW (by kernel_rfl) ?_
  refine rn7 ?_
  refine zK ⟨k + 1, by omega, by omega, ⟨Z, Z, ?_, trivial⟩, ?_⟩
  ·show some (AV.int .i64 _) = _
   congr 2; omega
  ·show ([some ⟨_, .strs (((zGa l k).set k _).set (l.length - 1 - k) _)⟩] : zM) = _
   rw [zRG l hk2]
 ·refine rn5 ?_
  refine ax_end hR Z ?_
  rw [zRF l (by omega)]
end Go.Proofs.YtkncmbklkhjmgaaGreatDoor
namespace Go.Proofs
open Go.Shelf
def Tryz.lays156_ren : Go.Shelf.Ren := ⟨fun | 156 => 257 | 165 => 279 | 166 => 104 | 169 => 107 | 240 => 182 | 241 => 293 | 276 => 237 | 277 => 301 | n => n, fun | 31 => 154 | 9 => 9 | 3 => 3 | 4 => 4 | 0 => 0 | 20 => 20 | 72 => 161 | 76 => 164 | 70 => 158 | 37 => 159 | 75 => 163 | 127 => 250 | 164 => 303 | 5 => 5 | 80 => 167 | n => n, fun | n => n⟩
theorem Tryz.lays156 : Go.Proofs.Lays.n156 Tryz.prog Tryz.lays156_ren := {
 mixed := by kernel_rfl
 f156 := Tryz.func257.trans (congrArg some (by kernel_rfl))
 f165 := Tryz.func279.trans (congrArg some (by kernel_rfl))
 f166 := Tryz.func104.trans (congrArg some (by kernel_rfl))
 f169 := Tryz.func107.trans (congrArg some (by kernel_rfl))
 f240 := Tryz.func182.trans (congrArg some (by kernel_rfl))
 f241 := Tryz.func293.trans (congrArg some (by kernel_rfl))
 f276 := Tryz.func237.trans (congrArg some (by kernel_rfl))
 f277 := Tryz.func301.trans (congrArg some (by kernel_rfl))
 t0 := Tryz.underlying0
 a0 := Tryz.isAgg0
 z0 := Tryz.sizeOf0
 v0 := Tryz.zeroValue0
 t3 := Tryz.underlying3
 a3 := Tryz.isAgg3
 z3 := Tryz.sizeOf3
 v3 := Tryz.zeroValue3
 t4 := Tryz.underlying4
 a4 := Tryz.isAgg4
 z4 := Tryz.sizeOf4
 v4 := Tryz.zeroValue4
 t9 := Tryz.underlying9
 a9 := Tryz.isAgg9
 z9 := Tryz.sizeOf9
 v9 := Tryz.zeroValue9
 t20 := Tryz.underlying20
 a20 := Tryz.isAgg20
 z20 := Tryz.sizeOf20
 v20 := Tryz.zeroValue20
 t31 := Tryz.underlying154
 a31 := Tryz.isAgg154
 z31 := Tryz.sizeOf154
 v31 := Tryz.zeroValue154
 t37 := Tryz.underlying159
 a37 := Tryz.isAgg159
 z37 := Tryz.sizeOf159
 v37 := Tryz.zeroValue159
 t70 := Tryz.underlying158
 a70 := Tryz.isAgg158
 z70 := Tryz.sizeOf158
 v70 := Tryz.zeroValue158
 t72 := Tryz.underlying161
 a72 := Tryz.isAgg161
 z72 := Tryz.sizeOf161
 v72 := Tryz.zeroValue161
 t75 := Tryz.underlying163
 a75 := Tryz.isAgg163
 z75 := Tryz.sizeOf163
 v75 := Tryz.zeroValue163
 t76 := Tryz.underlying164
 a76 := Tryz.isAgg164
 z76 := Tryz.sizeOf164
 v76 := Tryz.zeroValue164
 t127 := Tryz.underlying250
 a127 := Tryz.isAgg250
 z127 := Tryz.sizeOf250
 v127 := Tryz.zeroValue250
 t164 := Tryz.underlying303
 a164 := Tryz.isAgg303
 z164 := Tryz.sizeOf303
 v164 := Tryz.zeroValue303 }
theorem Tryz.Builder_Extra_156 : Builder.Extra Tryz.prog Tryz.lays156_ren := {
 sizeBuilder := by kernel_rfl
 liesBuilder := by kernel_rfl
 t5 := Tryz.underlying5
 a5 := Tryz.isAgg5
 z5 := Tryz.sizeOf5
 v5 := Tryz.zeroValue5
 infoByte := by kernel_rfl
 cellsByte := by kernel_rfl
 sizeByte := by kernel_rfl
 neB5 := by decide }
open Go.RowKit in
/-- No element: the empty string; the world is as it was. (Whatever the slice's address and capacity: a nil slice too.) (LAID: no walk: one application.) -/
theorem Tryz.strings_Join_none (a : Option Addr) (c : Nat) (sep : ByteArray) (w : World) :
 Calls Tryz.prog 257 #[.slice a 0 c, .string sep] w fun e w' => e = .returned (.string ⟨#[]⟩) ∧ w' = w := Any.strings_Join_none Tryz.lays156 Tryz.Builder_Extra_156 a c sep w
open Go.RowKit in
/-- strings.Join: "Join concatenates the elements of its first argument to create a single string. The separator string sep is placed between elements in the resulting string.": HOWEVER MANY ELEMENTS. Below the heap's end the world is as it was. (LAID: no walk: one application.) -/
theorem Tryz.strings_Join (bk o c : Nat) (xs : List ByteArray) (sep : ByteArray) (w : World) (hcells : ∀ (j : Nat) x, xs[j]? = some x → w.cell? ⟨bk, o + j, none⟩ = some (.string x)) (hbk : bk < w.heap.size) (hN : xs.length ≤ 140737488355328) (hcap : xs.length ≤ c) (hlen : (Lib.join (xs.map (·.data.toList)) sep.data.toList).length ≤ 140737488355328) :
 Calls Tryz.prog 257 #[.slice (some ⟨bk, o, none⟩) xs.length c, .string sep] w fun e w' => e = .returned (.string ⟨(Lib.join (xs.map (·.data.toList)) sep.data.toList).toArray⟩) ∧ Below w.heap.size w w' := Any.strings_Join Tryz.lays156 Tryz.Builder_Extra_156 bk o c xs sep w hcells hbk hN hcap hlen
def Tryz.laysM171_ren : Go.Shelf.Ren := ⟨fun | 171 => 183 | 243 => 238 | 246 => 275 | 283 => 289 | 284 => 290 | 285 => 291 | 286 => 292 | 129 => 297 | 317 => 296 | 318 => 298 | 319 => 299 | 320 => 300 | 337 => 302 | 338 => 303 | n => n, fun | 3 => 3 | 9 => 9 | 2 => 2 | 4 => 4 | 171 => 342 | 0 => 0 | 53 => 228 | 37 => 159 | 5 => 5 | 173 => 345 | 212 => 356 | 51 => 223 | 20 => 20 | 213 => 357 | 46 => 292 | 232 => 361 | 233 => 362 | n => n, fun | 17 => 5 | 18 => 6 | 19 => 7 | n => n⟩
theorem Tryz.laysM171 : Go.Proofs.LaysM.n171 Tryz.prog Tryz.laysM171_ren := {
 mixed := by kernel_rfl
 f129 := Tryz.func297.trans (congrArg some (by kernel_rfl))
 f171 := Tryz.func183.trans (congrArg some (by kernel_rfl))
 f243 := Tryz.func238.trans (congrArg some (by kernel_rfl))
 f246 := Tryz.func275.trans (congrArg some (by kernel_rfl))
 f283 := Tryz.func289.trans (congrArg some (by kernel_rfl))
 f284 := Tryz.func290.trans (congrArg some (by kernel_rfl))
 f285 := Tryz.func291.trans (congrArg some (by kernel_rfl))
 f286 := Tryz.func292.trans (congrArg some (by kernel_rfl))
 f317 := Tryz.func296.trans (congrArg some (by kernel_rfl))
 f318 := Tryz.func298.trans (congrArg some (by kernel_rfl))
 f319 := Tryz.func299.trans (congrArg some (by kernel_rfl))
 f320 := Tryz.func300.trans (congrArg some (by kernel_rfl))
 f337 := Tryz.func302.trans (congrArg some (by kernel_rfl))
 f338 := Tryz.func303.trans (congrArg some (by kernel_rfl))
 t0 := Tryz.underlying0
 a0 := Tryz.isAgg0
 z0 := Tryz.sizeOf0
 v0 := Tryz.zeroValue0
 t2 := Tryz.underlying2
 a2 := Tryz.isAgg2
 z2 := Tryz.sizeOf2
 v2 := Tryz.zeroValue2
 t3 := Tryz.underlying3
 a3 := Tryz.isAgg3
 z3 := Tryz.sizeOf3
 v3 := Tryz.zeroValue3
 t4 := Tryz.underlying4
 a4 := Tryz.isAgg4
 z4 := Tryz.sizeOf4
 v4 := Tryz.zeroValue4
 t5 := Tryz.underlying5
 a5 := Tryz.isAgg5
 z5 := Tryz.sizeOf5
 v5 := Tryz.zeroValue5
 t9 := Tryz.underlying9
 a9 := Tryz.isAgg9
 z9 := Tryz.sizeOf9
 v9 := Tryz.zeroValue9
 t20 := Tryz.underlying20
 a20 := Tryz.isAgg20
 z20 := Tryz.sizeOf20
 v20 := Tryz.zeroValue20
 t37 := Tryz.underlying159
 a37 := Tryz.isAgg159
 z37 := Tryz.sizeOf159
 v37 := Tryz.zeroValue159
 t46 := Tryz.underlying292
 a46 := Tryz.isAgg292
 z46 := Tryz.sizeOf292
 v46 := Tryz.zeroValue292
 t51 := Tryz.underlying223
 a51 := Tryz.isAgg223
 z51 := Tryz.sizeOf223
 v51 := Tryz.zeroValue223
 t53 := Tryz.underlying228
 a53 := Tryz.isAgg228
 z53 := Tryz.sizeOf228
 v53 := Tryz.zeroValue228
 t171 := Tryz.underlying342
 a171 := Tryz.isAgg342
 z171 := Tryz.sizeOf342
 v171 := Tryz.zeroValue342
 t173 := Tryz.underlying345
 a173 := Tryz.isAgg345
 z173 := Tryz.sizeOf345
 v173 := Tryz.zeroValue345
 t212 := Tryz.underlying356
 a212 := Tryz.isAgg356
 z212 := Tryz.sizeOf356
 v212 := Tryz.zeroValue356
 t213 := Tryz.underlying357
 a213 := Tryz.isAgg357
 z213 := Tryz.sizeOf357
 t232 := Tryz.underlying361
 a232 := Tryz.isAgg361
 z232 := Tryz.sizeOf361
 v232 := Tryz.zeroValue361
 t233 := Tryz.underlying362
 a233 := Tryz.isAgg362
 z233 := Tryz.sizeOf362
 v233 := Tryz.zeroValue362
 g17 := by kernel_rfl
 g18 := by kernel_rfl
 g19 := by kernel_rfl
 i0 := by kernel_rfl
 i2 := by kernel_rfl
 i3 := by kernel_rfl
 i4 := by kernel_rfl
 i5 := by kernel_rfl
 i9 := by kernel_rfl
 i20 := by kernel_rfl
 i37 := by kernel_rfl
 i46 := by kernel_rfl
 i51 := by kernel_rfl
 i53 := by kernel_rfl
 i171 := by kernel_rfl
 i173 := by kernel_rfl
 i212 := by kernel_rfl
 i232 := by kernel_rfl
 i233 := by kernel_rfl
 m17 := by kernel_rfl
 m18 := by kernel_rfl
 m19 := by kernel_rfl }
open Go.RowKit Go.Sort Go.Lib in
/-- strconv.Itoa: "Itoa is equivalent to FormatInt(int64(i), 10).": i's DECIMAL NUMERAL ('Lib.itoa': a '-' where i is negative, then the digits), FOR EVERY int. The world behind the call: the world before it, new blocks behind the heap (the library's 'var a [24]byte'), draws. (LAID: no walk: one application.) -/
theorem Tryz.strconv_Itoa (n : Int) (h0 : -9223372036854775808 ≤ n) (h1 : n ≤ 9223372036854775807) (w : World) (htab : Lib.TabIs Tryz.prog w "internal/strconv.uint64pow10" .u64 Lib.pow10Tab) :
 Calls Tryz.prog 183 #[.int .i64 n] w fun e w' => e = .returned (.string ⟨(Lib.itoa n).toArray⟩) ∧ ∃ k os, w' = grow (w.drewN k) os := Any.strconv_Itoa Tryz.laysM171 n h0 h1 w htab
def Tryz.laysPu14_ren : Go.Shelf.Ren := ⟨fun | 14 => 161 | 16 => 221 | 17 => 222 | 19 => 266 | 20 => 267 | 21 => 268 | 22 => 269 | 23 => 270 | 24 => 271 | 25 => 235 | 27 => 183 | 26 => 285 | 28 => 238 | 29 => 275 | 30 => 289 | 31 => 290 | 32 => 291 | 33 => 292 | 35 => 297 | 34 => 296 | 36 => 298 | 37 => 299 | 38 => 300 | 39 => 302 | 40 => 303 | n => n, fun | 9 => 9 | 3 => 3 | 22 => 228 | 24 => 163 | 25 => 229 | 4 => 4 | 34 => 321 | 5 => 5 | 36 => 292 | 37 => 159 | 0 => 0 | 39 => 323 | 21 => 21 | 44 => 337 | 47 => 250 | 50 => 354 | 48 => 352 | 2 => 2 | 52 => 342 | 55 => 345 | 59 => 356 | 60 => 223 | 20 => 20 | 61 => 357 | 65 => 361 | 66 => 362 | 67 => 167 | n => n, fun | 0 => 1 | 1 => 2 | 2 => 5 | 3 => 6 | 4 => 7 | n => n⟩
theorem Tryz.laysPu14 : Go.Proofs.LaysPu.n14 Tryz.prog Tryz.laysPu14_ren := {
 mixed := by kernel_rfl
 f14 := Tryz.func161.trans (congrArg some (by kernel_rfl))
 f16 := Tryz.func221.trans (congrArg some (by kernel_rfl))
 f17 := Tryz.func222.trans (congrArg some (by kernel_rfl))
 f19 := Tryz.func266.trans (congrArg some (by kernel_rfl))
 f20 := Tryz.func267.trans (congrArg some (by kernel_rfl))
 f21 := Tryz.func268.trans (congrArg some (by kernel_rfl))
 f22 := Tryz.func269.trans (congrArg some (by kernel_rfl))
 f23 := Tryz.func270.trans (congrArg some (by kernel_rfl))
 f24 := Tryz.func271.trans (congrArg some (by kernel_rfl))
 f25 := Tryz.func235.trans (congrArg some (by kernel_rfl))
 f26 := Tryz.func285.trans (congrArg some (by kernel_rfl))
 f27 := Tryz.func183.trans (congrArg some (by kernel_rfl))
 f28 := Tryz.func238.trans (congrArg some (by kernel_rfl))
 f29 := Tryz.func275.trans (congrArg some (by kernel_rfl))
 f30 := Tryz.func289.trans (congrArg some (by kernel_rfl))
 f31 := Tryz.func290.trans (congrArg some (by kernel_rfl))
 f32 := Tryz.func291.trans (congrArg some (by kernel_rfl))
 f33 := Tryz.func292.trans (congrArg some (by kernel_rfl))
 f34 := Tryz.func296.trans (congrArg some (by kernel_rfl))
 f35 := Tryz.func297.trans (congrArg some (by kernel_rfl))
 f36 := Tryz.func298.trans (congrArg some (by kernel_rfl))
 f37 := Tryz.func299.trans (congrArg some (by kernel_rfl))
 f38 := Tryz.func300.trans (congrArg some (by kernel_rfl))
 f39 := Tryz.func302.trans (congrArg some (by kernel_rfl))
 f40 := Tryz.func303.trans (congrArg some (by kernel_rfl))
 t0 := Tryz.underlying0
 a0 := Tryz.isAgg0
 z0 := Tryz.sizeOf0
 v0 := Tryz.zeroValue0
 i0 := by kernel_rfl
 t2 := Tryz.underlying2
 a2 := Tryz.isAgg2
 z2 := Tryz.sizeOf2
 v2 := Tryz.zeroValue2
 i2 := by kernel_rfl
 t3 := Tryz.underlying3
 a3 := Tryz.isAgg3
 z3 := Tryz.sizeOf3
 v3 := Tryz.zeroValue3
 i3 := by kernel_rfl
 t4 := Tryz.underlying4
 a4 := Tryz.isAgg4
 z4 := Tryz.sizeOf4
 v4 := Tryz.zeroValue4
 i4 := by kernel_rfl
 t5 := Tryz.underlying5
 a5 := Tryz.isAgg5
 z5 := Tryz.sizeOf5
 v5 := Tryz.zeroValue5
 i5 := by kernel_rfl
 t9 := Tryz.underlying9
 a9 := Tryz.isAgg9
 z9 := Tryz.sizeOf9
 v9 := Tryz.zeroValue9
 i9 := by kernel_rfl
 t20 := Tryz.underlying20
 a20 := Tryz.isAgg20
 z20 := Tryz.sizeOf20
 v20 := Tryz.zeroValue20
 i20 := by kernel_rfl
 t21 := Tryz.underlying21
 a21 := Tryz.isAgg21
 z21 := Tryz.sizeOf21
 v21 := Tryz.zeroValue21
 i21 := by kernel_rfl
 t22 := Tryz.underlying228
 a22 := Tryz.isAgg228
 z22 := Tryz.sizeOf228
 v22 := Tryz.zeroValue228
 i22 := by kernel_rfl
 t24 := Tryz.underlying163
 a24 := Tryz.isAgg163
 z24 := Tryz.sizeOf163
 v24 := Tryz.zeroValue163
 i24 := by kernel_rfl
 t25 := Tryz.underlying229
 a25 := Tryz.isAgg229
 z25 := Tryz.sizeOf229
 v25 := Tryz.zeroValue229
 i25 := by kernel_rfl
 t34 := Tryz.underlying321
 a34 := Tryz.isAgg321
 z34 := Tryz.sizeOf321
 v34 := Tryz.zeroValue321
 i34 := by kernel_rfl
 c34 := by kernel_rfl
 t36 := Tryz.underlying292
 a36 := Tryz.isAgg292
 z36 := Tryz.sizeOf292
 v36 := Tryz.zeroValue292
 i36 := by kernel_rfl
 t37 := Tryz.underlying159
 a37 := Tryz.isAgg159
 z37 := Tryz.sizeOf159
 v37 := Tryz.zeroValue159
 i37 := by kernel_rfl
 t39 := Tryz.underlying323
 a39 := Tryz.isAgg323
 z39 := Tryz.sizeOf323
 v39 := Tryz.zeroValue323
 i39 := by kernel_rfl
 t44 := Tryz.underlying337
 a44 := Tryz.isAgg337
 z44 := Tryz.sizeOf337
 v44 := Tryz.zeroValue337
 i44 := by kernel_rfl
 t47 := Tryz.underlying250
 a47 := Tryz.isAgg250
 z47 := Tryz.sizeOf250
 v47 := Tryz.zeroValue250
 i47 := by kernel_rfl
 t48 := Tryz.underlying352
 a48 := Tryz.isAgg352
 z48 := Tryz.sizeOf352
 v48 := Tryz.zeroValue352
 i48 := by kernel_rfl
 t50 := Tryz.underlying354
 a50 := Tryz.isAgg354
 z50 := Tryz.sizeOf354
 v50 := Tryz.zeroValue354
 i50 := by kernel_rfl
 t52 := Tryz.underlying342
 a52 := Tryz.isAgg342
 z52 := Tryz.sizeOf342
 v52 := Tryz.zeroValue342
 i52 := by kernel_rfl
 t55 := Tryz.underlying345
 a55 := Tryz.isAgg345
 z55 := Tryz.sizeOf345
 v55 := Tryz.zeroValue345
 i55 := by kernel_rfl
 t59 := Tryz.underlying356
 a59 := Tryz.isAgg356
 z59 := Tryz.sizeOf356
 v59 := Tryz.zeroValue356
 i59 := by kernel_rfl
 t60 := Tryz.underlying223
 a60 := Tryz.isAgg223
 z60 := Tryz.sizeOf223
 v60 := Tryz.zeroValue223
 i60 := by kernel_rfl
 t61 := Tryz.underlying357
 a61 := Tryz.isAgg357
 z61 := Tryz.sizeOf357
 t65 := Tryz.underlying361
 a65 := Tryz.isAgg361
 z65 := Tryz.sizeOf361
 v65 := Tryz.zeroValue361
 i65 := by kernel_rfl
 t66 := Tryz.underlying362
 a66 := Tryz.isAgg362
 z66 := Tryz.sizeOf362
 v66 := Tryz.zeroValue362
 i66 := by kernel_rfl
 t67 := Tryz.underlying167
 a67 := Tryz.isAgg167
 z67 := Tryz.sizeOf167
 v67 := Tryz.zeroValue167
 i67 := by kernel_rfl
 g0 := by kernel_rfl
 m0 := by kernel_rfl
 g1 := by kernel_rfl
 m1 := by kernel_rfl
 g2 := by kernel_rfl
 m2 := by kernel_rfl
 g3 := by kernel_rfl
 m3 := by kernel_rfl
 g4 := by kernel_rfl
 m4 := by kernel_rfl }
open Go.RowKit in
/-- strconv.ParseUint(s, 10, 32), AT EVERY STRING THAT SPELLS A uint32 ('Lib.parseUintB 32 s.data.toList = .ok u'): u, AND NO ERROR. (LAID: no walk: one application.) -/
theorem Tryz.strconv_ParseUint_10_at32_ok (s : ByteArray) (hmax : s.size ≤ 9223372036854775806) (u : Nat) (h : Lib.parseUintB 32 s.data.toList = .ok u) (w : World) :
 Calls Tryz.prog 161 #[.string s, .int .i64 10, .int .i64 32] w fun e w' => e = .returned (.tuple #[.int .u64 u, .nilIface]) ∧ (w' = w ∨ w' = Lib.bytesWorld w 5 s) := Any.strconv_ParseUint_10_at32_ok Tryz.laysPu14 s hmax u h w
def Tryz.lays212_ren : Go.Shelf.Ren := ⟨fun | 212 => 251 | 263 => 277 | 264 => 278 | n => n, fun | 46 => 292 | 51 => 223 | 146 => 329 | 53 => 228 | 148 => 331 | n => n, fun | n => n⟩
theorem Tryz.lays212 : Go.Proofs.Lays.n212 Tryz.prog Tryz.lays212_ren := {
 mixed := by kernel_rfl
 f212 := Tryz.func251.trans (congrArg some (by kernel_rfl))
 f263 := Tryz.func277.trans (congrArg some (by kernel_rfl))
 f264 := Tryz.func278.trans (congrArg some (by kernel_rfl))
 t46 := Tryz.underlying292
 a46 := Tryz.isAgg292
 z46 := Tryz.sizeOf292
 v46 := Tryz.zeroValue292
 t51 := Tryz.underlying223
 a51 := Tryz.isAgg223
 z51 := Tryz.sizeOf223
 v51 := Tryz.zeroValue223
 t53 := Tryz.underlying228
 a53 := Tryz.isAgg228
 z53 := Tryz.sizeOf228
 v53 := Tryz.zeroValue228
 t146 := Tryz.underlying329
 a146 := Tryz.isAgg329
 z146 := Tryz.sizeOf329
 v146 := Tryz.zeroValue329
 t148 := Tryz.underlying331
 a148 := Tryz.isAgg331
 z148 := Tryz.sizeOf331
 v148 := Tryz.zeroValue331 }
open Go.RowKit Go.Lib in
/-- math/bits.Mul: "Mul returns the full-width product of x and y": on a machine of 64 bits: Mul64's. (LAID: no walk: one application.) -/
theorem Tryz.bits_Mul (x y : Nat) (hx : x < 18446744073709551616) (hy : y < 18446744073709551616) (w : World) :
 Calls Tryz.prog 251 #[.int .u64 x, .int .u64 y] w fun e w' => e = .returned (.tuple #[.int .u64 ((x * y / 18446744073709551616 : Nat) : Int), .int .u64 ((x * y % 18446744073709551616 : Nat) : Int)]) ∧ w' = w := Any.bits_Mul Tryz.lays212 x y hx hy w
end Go.Proofs
namespace Go.Proofs.YtkncmbklkhjmgaaGreatDoor
open Go.Ax Go.Ax.Bg Go.RowKit
theorem zMy (w : World) (q : Nat) (os : Array Obj) : Below w.heap.size w (Go.Sort.grow (w.drewN q) os) := by
 refine ⟨Z, Z, Z, ?_, fun k hk => ?_⟩
 ·show w.heap.size ≤ (w.heap ++ os).size
  simp
 ·show (w.heap ++ os)[k]? = w.heap[k]?
  rw [Array.getElem?_append_left hk]
theorem vals1 {w : World} {S : Nat → Prop} {σ : Nat → Option Blk} {a : AV} {vals : Array Value} (hv : VRs w S σ [a] vals) : ∃ x, vals = #[x] ∧ VR w S σ a x := by
 obtain ⟨h1, h2⟩ := hv
 have q := h2 0 (by simp)
 have hl : vals.toList.length = 1 := by simpa using h1
 match hq : vals.toList, hl with
 | [x], _ =>
  have e : vals = #[x] := by rw [← Array.toArray_toList (xs := vals), hq]
  subst e
  exact ⟨x, Z, by simpa using q⟩
theorem vals2 {w : World} {S : Nat → Prop} {σ : Nat → Option Blk} {a b : AV} {vals : Array Value} (hv : VRs w S σ [a, b] vals) : ∃ x y, vals = #[x, y] ∧ VR w S σ a x ∧ VR w S σ b y := by
 obtain ⟨h1, h2⟩ := hv
 have q := h2 0 (by simp)
 have q1 := h2 1 (by simp)
 have hl : vals.toList.length = 2 := by simpa using h1
 match hq : vals.toList, hl with
 | [x, y], _ =>
  have e : vals = #[x, y] := by rw [← Array.toArray_toList (xs := vals), hq]
  subst e
  exact ⟨x, y, Z, by simpa using q, by simpa using q1⟩
theorem vals3 {w : World} {S : Nat → Prop} {σ : Nat → Option Blk} {a b c : AV} {vals : Array Value} (hv : VRs w S σ [a, b, c] vals) : ∃ x y z, vals = #[x, y, z] ∧ VR w S σ a x ∧ VR w S σ b y ∧ VR w S σ c z := by
 obtain ⟨h1, h2⟩ := hv
 have q := h2 0 (by simp)
 have q1 := h2 1 (by simp)
 have q2 := h2 2 (by simp)
 have hl : vals.toList.length = 3 := by simpa using h1
 match hq : vals.toList, hl with
 | [x, y, z], _ =>
  have e : vals = #[x, y, z] := by rw [← Array.toArray_toList (xs := vals), hq]
  subst e
  exact ⟨x, y, z, Z, by simpa using q, by simpa using q1, by simpa using q2⟩
theorem itoa (n : Int) (h : -9223372036854775808 ≤ n ∧ n ≤ 9223372036854775807) : zV Tryz.prog 183 [.int .i64 n] (.str (Lib.itoa n)) := by
 refine zV.of_below ⟨Tryz.f183, Z, by kernel_rfl, Z⟩ Z Z (fun w S vals hG hS hv => ?_)
 obtain ⟨x, rfl, a⟩ := vals1 hv
 have hx : x = .int .i64 n := by cases a; rfl
 subst hx
 have hp : pinG w := hG
 refine (Tryz.strconv_Itoa n h.1 h.2 w hp.2.1).mono ?_
 rintro e w' ⟨rfl, k, os, rfl⟩
 exact ⟨_, Z, zMy w k os, .str _ _⟩
theorem itoaN (n : Nat) (h : n ≤ 9223372036854775807) : zV Tryz.prog 183 [iN n] (.str (Lib.decDigits n)) := by
 have := itoa n ⟨by omega, by omega⟩
 rwa [Go.Ax.Tb.itoa_nat] at this
theorem mulB (a b : Nat) (ha : a < 18446744073709551616) (hb : b < 18446744073709551616) : zV Tryz.prog 251 [.int .u64 (a : Nat), .int .u64 (b : Nat)] (.tup [.int .u64 (a * b / 18446744073709551616 : Nat), .int .u64 (a * b % 18446744073709551616 : Nat)]) := by
 refine zV.of_below ⟨Tryz.f251, Z, by kernel_rfl, Z⟩ Z Z (fun w S vals hG hS hv => ?_)
 obtain ⟨x, y, rfl, p, q⟩ := vals2 hv
 have hx : x = .int .u64 (a : Nat) := by cases p; rfl
 have hy : y = .int .u64 (b : Nat) := by cases q; rfl
 subst hx hy
 refine (Tryz.bits_Mul a b ha hb w).mono ?_
 rintro e w' ⟨rfl, rfl⟩
 refine ⟨_, Z, Below.refl _ _, .tup _ _ _ Z (fun i hi => ?_)⟩
 match i, hi with
 | 0, _ => exact .int _ _ _
 | 1, _ => exact .int _ _ _
theorem parse32 (s : List UInt8) (u : Nat) (hl : s.length ≤ 1000) (h : Lib.parseUintB 32 s = .ok u) : zV Tryz.prog 161 [.str s, .int .i64 10, .int .i64 32] (.tup [.int .u64 (u : Nat), .nilif]) := by
 refine zV.of_below ⟨Tryz.f161, Z, by kernel_rfl, Z⟩ Z Z (fun w S vals hG hS hv => ?_)
 obtain ⟨x, y, z, rfl, p, q, r⟩ := vals3 hv
 have hx : x = zJj s := by cases p; rfl
 have hy : y = .int .i64 10 := by cases q; rfl
 have hz : z = .int .i64 32 := by cases r; rfl
 subst hx hy hz
 have hd : (⟨s.toArray⟩ : ByteArray).data.toList = s := by simp
 have hsz : (⟨s.toArray⟩ : ByteArray).size = s.length := by simp [ByteArray.size]
 refine (Tryz.strconv_ParseUint_10_at32_ok ⟨s.toArray⟩ (by rw [hsz]; omega) u (by rw [hd]; exact h) w).mono ?_
 rintro e w' ⟨rfl, hw⟩
 refine ⟨_, Z, ?_, .tup _ _ _ Z (fun i hi => ?_)⟩
 ·rcases hw with rfl | rfl
  ·exact Below.refl _ _
  ·exact Lib.bytesWorld_below _ _ _
 ·match i, hi with
  | 0, _ => exact .int _ _ _
  | 1, _ => exact .nilif _
theorem join (ls : List (List UInt8)) (sep : List UInt8) (hN : ls.length ≤ 140737488355328) (hj : (Lib.join ls sep).length ≤ 140737488355328) : zV Tryz.prog 257 [.ro (.strs ls) 0 ls.length, .str sep] (.str (Lib.join ls sep)) := by
 refine zV.of_below ⟨Tryz.f257, Z, by kernel_rfl, Z⟩ Z Z (fun w S vals hG hS hv => ?_)
 obtain ⟨x, y, rfl, a, b⟩ := vals2 hv
 have hy : y = zJj sep := by cases b; rfl
 subst hy
 have hsep : (⟨sep.toArray⟩ : ByteArray).data.toList = sep := by simp
 have hbyte : ∀ l : List UInt8, (⟨l.toArray⟩ : ByteArray).data.toList = l := fun l => by simp
 generalize hn : ls.length = n at a
 cases a with
 | ro0 _ _ _ ad cap =>
  have : ls = [] := List.length_eq_zero_iff.mp hn
  subst this
  refine (Tryz.strings_Join_none ad cap ⟨sep.toArray⟩ w).mono ?_
  rintro e w' ⟨rfl, rfl⟩
  exact ⟨_, Z, Below.refl _ _, .str _ []⟩
 | ro _ _ _ _ bk o cap val hSb hlen hc hvv h1' =>
  subst hn
  have hxs : (ls.map (fun l => (⟨l.toArray⟩ : ByteArray))).length = ls.length := by simp
  have c := Tryz.strings_Join bk o cap (ls.map (fun l => (⟨l.toArray⟩ : ByteArray))) ⟨sep.toArray⟩ w (fun j x hx => ?_) (hS _ hSb) (by simpa using hN) (by simpa using hlen) ?_
  ·rw [hxs] at c
   refine c.mono ?_
   rintro e w' ⟨rfl, hb⟩
   have e2 : ((ls.map (fun l => (⟨l.toArray⟩ : ByteArray))).map (fun x => x.data.toList)) = ls := by rw [List.map_map]; exact (List.map_congr_left (fun x _ => rfl)).trans (List.map_id _)
   rw [e2, hsep]
   exact ⟨_, Z, hb, .str _ _⟩
  ·simp only [List.getElem?_map, Option.map_eq_some_iff] at hx
   obtain ⟨l, hl, rfl⟩ := hx
   have hlt : j < ls.length := (List.getElem?_eq_some_iff.1 hl).1
   have q := hc j 0 hlt (by simp [Cells.sz])
   have v := hvv j 0 hlt (by simp [Cells.sz])
   simp only [Cells.sz, Nat.mul_one, Nat.add_zero] at q
   simp only [Cells.at, Nat.zero_add, List.getD, hl, Option.getD_some] at v
   rw [q]
   generalize val j 0 = z at v
   cases v; rfl
  ·have e2 : ((ls.map (fun l => (⟨l.toArray⟩ : ByteArray))).map (fun x => x.data.toList)) = ls := by rw [List.map_map]; exact (List.map_congr_left (fun x _ => rfl)).trans (List.map_id _)
   rw [e2, hsep]; exact hj
end Go.Proofs.YtkncmbklkhjmgaaGreatDoor
namespace Go.Proofs.YtkncmbklkhjmgaaGreatDoor
open Go.Ax Go.Ax.Bg Go.RowKit
attribute [local irreducible] Ax zBk QOp zT
def zIf (s p : List UInt8) : Bool := decide (p.length ≤ s.length ∧ s.take p.length = p)
theorem zP6 (s p : List UInt8) (hs : s.length ≤ 9223372036854775807) (hp : p.length ≤ 9223372036854775807) : zV Tryz.prog 212 [.str s, .str p] (.bool (zIf s p)) := by
 refine zT.value0 (zE (P := Tryz.prog) (fn := Tryz.f212) Z Z (by kernel_rfl) Z (fun c hR hfix => ?_)) (fix := fun _ => False) (fun _ h => h) Z Z
 refine rn8 ?_
 refine zAe Z Z (fun h0 => ?_) (fun h0 => ?_)
 ·refine zHb ?_
  refine zL hR Z ?_
  show AV.bool (decide ((List.drop _ s).take _ = p)) = _
  unfold zIf
  congr 1
  rw [decide_eq_decide]
  simp only [Int.toNat_zero, List.drop_zero, Int.toNat_natCast, Nat.sub_zero]
  exact ⟨fun h => ⟨by omega, h⟩, fun h => h.2⟩
 ·refine rn6 ?_
  refine zL hR Z ?_
  show AV.bool false = _
  unfold zIf
  rw [decide_eq_false]
  exact fun h => h0 (by omega)
theorem zJs (s p : List UInt8) (hs : s.length ≤ 9223372036854775807) (hp : p.length ≤ 9223372036854775807) : zV Tryz.prog 254 [.str s, .str p] (.bool (zIf s p)) := by
 have hc := zP6 s p hs hp
 refine zT.value0 (zE (P := Tryz.prog) (fn := Tryz.f254) Z Z (by kernel_rfl) Z (fun c hR hfix => ?_)) (fix := fun _ => False) (fun _ h => h) Z Z
 generalize zIf s p = b at *
 refine rn0 ?_
 refine zB Z Z Z hc ?_
 refine rn0 ?_
 exact zL hR Z Z
/-- strings.Repeat("0", n), n small. -/
theorem repeat0 (n : Nat) (hn : n ≤ 60) : zV Tryz.prog 255 [.str [48], iN n] (.str (List.replicate n 48)) := by
 refine zT.value0 (zE (P := Tryz.prog) (fn := Tryz.f255) Z Z (by kernel_rfl) Z (fun c hR hfix => ?_)) (fix := fun _ => False) (fun _ h => h) Z Z
 refine rn4 ?_
 refine zA Z (fun h0 => ?_) (fun h0 => ?_)
 ·have : n = 0 := by omega
  subst this
  refine rn6 ?_
  exact zL hR Z Z
 refine rn4 ?_
 refine zA Z (fun h1 => ?_) (fun h1 => ?_)
 ·have : n = 1 := by omega
  subst this
  refine rn6 ?_
  exact zL hR Z Z
 refine rn6 ?_
 have hm := mulB 1 n (by omega) (by omega)
 rw [Nat.one_mul, Nat.div_eq_of_lt (by omega), Nat.mod_eq_of_lt (by omega)] at hm
 have p1 : zV Tryz.prog 254 [.str (List.replicate 128 32), .str [48]] (.bool false) := zJs _ _ (by decide) (by decide)
 have p2 : zV Tryz.prog 254 [.str (List.replicate 128 45), .str [48]] (.bool false) := zJs _ _ (by decide) (by decide)
 have p3 : zV Tryz.prog 254 [.str (List.replicate 64 48), .str [48]] (.bool true) := zJs _ _ (by decide) (by decide)
 refine zF (zAR (m := 1) Z Z Z zBV (by decide)) ?_
 repeat (refine zF (zJ rfl) ?_)
 refine zF (zAR (m := n) Z Z Z zBV (by omega)) ?_
 refine zB Z Z Z hm ?_
 refine rn6 ?_
 refine zA Z (fun h => absurd h (by omega)) (fun h => ?_)
 refine rn1 ?_
 refine zF (zFu (m := n) Z Z Z (by omega)) ?_
 refine rn12 ?_
 refine zAe Z Z (fun h3 => ?_) (fun h3 => absurd (show (n : Int) ≤ 128 by omega) h3)
 refine rn2 ?_
 refine zB Z Z Z p1 ?_
 refine rn8 ?_
 refine zAe Z Z (fun h4 => ?_) (fun h4 => absurd (show (n : Int) ≤ 128 by omega) h4)
 refine rn2 ?_
 refine zB Z Z Z p2 ?_
 refine rn8 ?_
 refine zAe Z Z (fun h5 => ?_) (fun h5 => absurd (show (n : Int) ≤ 64 by omega) h5)
 refine rn2 ?_
 refine zB Z Z Z p3 ?_
 refine rn5 ?_
 refine zF (zDx Z Z Z Z Z Z (by show (0 : Int) ≤ 0 ∧ (0 : Int) ≤ (n : Nat) ∧ ((n : Nat) : Int) ≤ ((64 : Nat) : Int); omega)) ?_
 refine rn6 ?_
 refine zL hR Z ?_
 show AV.str ((List.drop 0 (List.replicate 64 48)).take (n - 0)) = _
 rw [List.drop_zero, Nat.sub_zero, List.take_replicate, Nat.min_eq_left (by omega)]
/-- strings.asciiSet: the digits. -/
def zET (k : Nat) : List AV := (List.range 256).map fun j => AV.bool (decide (48 ≤ j ∧ j < 48 + k))
theorem zCf (k : Nat) : (zET k).length = 256 := by unfold zET; simp
theorem zJx (k j : Nat) (hj : j < 256) : (zET k)[j]? = some (AV.bool (decide (48 ≤ j ∧ j < 48 + k))) := by
 unfold zET
 rw [List.getElem?_map, List.getElem?_range hj]; rfl
theorem setL_set (k : Nat) (hk : k < 10) : (zET k).set (48 + k) (.bool true) = zET (k + 1) := by
 apply List.ext_getElem?
 intro i
 rcases Nat.lt_or_ge i 256 with hi | hi
 ·rw [zJx (k + 1) i hi]
  by_cases h : i = 48 + k
  ·subst h
   rw [List.getElem?_set_self (by rw [zCf]; exact hi)]
   congr 2
   exact (decide_eq_true (by omega)).symm
  ·rw [List.getElem?_set_ne (Ne.symm h), zJx k i hi]
   congr 2
   rw [decide_eq_decide]; omega
 ·rw [List.getElem?_eq_none (by rw [List.length_set, zCf]; exact hi), List.getElem?_eq_none (by rw [zCf]; exact hi)]
def digS : List UInt8 := [48, 49, 50, 51, 52, 53, 54, 55, 56, 57]
theorem zPi (k : Nat) (hk : k < 10) : (digS.getD k 0).toNat = 48 + k := by
 have : k = 0 ∨ k = 1 ∨ k = 2 ∨ k = 3 ∨ k = 4 ∨ k = 5 ∨ k = 6 ∨ k = 7 ∨ k = 8 ∨ k = 9 := by omega
 rcases this with rfl | rfl | rfl | rfl | rfl | rfl | rfl | rfl | rfl | rfl <;> rfl
theorem box_all (l : List AV) : (List.range (Cells.box l).sz).map ((Cells.box l).at 0) = l := by
 apply List.ext_getElem?
 intro i
 rcases Nat.lt_or_ge i l.length with h | h
 ·rw [List.getElem?_map, List.getElem?_range (by exact h)]
  show some (l.getD i .any) = _
  rw [List.getD, List.getElem?_eq_getElem h]; rfl
 ·rw [List.getElem?_eq_none (by simpa [Cells.sz] using h), List.getElem?_eq_none h]
theorem set_ok : zV Tryz.prog 216 [.str digS] (.tup [.agg (zET 10), .bool true]) := by
 refine zT.value0 (zE (P := Tryz.prog) (fn := Tryz.f216) Z Z (by kernel_rfl) Z (fun c hR hfix => ?_)) (fix := fun _ => False) (fun _ h => h) Z (by kernel_rfl)
 refine rn4 ?_
 refine zAi [some ⟨286, .box (zET 0)⟩] (by kernel_rfl) ?_
 refine ze (ι := Nat) (fun k => [(0, .str digS), (2, .ptr 0 0 0), (4, iN k)]) (fun k => [some ⟨286, .box (zET k)⟩]) (fun k => k ≤ 10) (fun k => 10 - k) 0 ⟨⟨Z, Z, Z, trivial⟩, Z, by omega⟩ ?_
 rintro k hk
 have hdl : digS.length = 10 := rfl
 refine rn6 ?_
 refine zA Z (fun h1 => ?_) (fun h1 => ?_)
 ·have hk2 : k < 10 := by omega
  refine rn12 ?_
  refine zA Z (fun h2 => absurd h2 (by rw [Int.toNat_natCast, zPi k hk2]; omega)) (fun h2 => ?_)
  refine rn1 ?_
  refine zD 18 (.int .u8 (48 + k : Nat)) Z (AEq.of_eq (by rw [Int.toNat_natCast, zPi k hk2])) ?_
  refine zF (zIi (m := ((48 + k : Nat) : Int)) (jx := 48 + k) Z Z Z Z (by rw [Int.toNat_natCast, Nat.zero_add]) (by omega)) ?_
  refine zBe Z Z Z Z Z (by rw [show (Cells.box (zET k)).sz = 256 from zCf k]; exact Nat.ble_eq.symm ▸ (by omega : 48 + k + 1 ≤ 256)) Z Nat.zero_lt_one ?_
  refine rn5 ?_
  refine zK ⟨k + 1, by omega, by omega, ⟨Z, Z, Z, trivial⟩, ?_⟩
  show ([some ⟨_, .box ((zET k).set (48 + k) (.bool true))⟩] : zM) = _
  rw [setL_set k hk2]
 ·have hke : k = 10 := by omega
  subst hke
  refine rn5 ?_
  refine zF (zHg (ob := ⟨286, .box (zET 10)⟩) Z Z Z (zCf 10).symm Z Z (box_all _) Nat.zero_lt_one) ?_
  refine zw (c' := .box (zET 10)) Z Z (by rw [show (Cells.box (zET 10)).sz = 256 from zCf 10]; rfl) Z (by rw [show (Cells.box (zET 10)).sz = 256 from zCf 10]; exact zCf 10) Nat.zero_lt_one Z Z (fun i' j' hi' hj' => ?_) ?_
  ·rw [if_pos (Nat.lt_one_iff.1 hi')]; rfl
  refine rn0 ?_
  exact zL hR Z Z
theorem zJW (ch : UInt8) : zV Tryz.prog 262 [.rp (.box (zET 10)) 0 0, .int .u8 (ch.toNat : Nat)] (.bool (dg ch)) := by
 have hlt := ch.toNat_lt
 have hat := zJx 10 ch.toNat (by simpa using hlt)
 refine zT.value0 (zE (P := Tryz.prog) (fn := Tryz.f262) Z Z (by kernel_rfl) Z (fun c hR hfix => ?_)) (fix := fun _ => False) (fun _ h => h) Z Z
 refine rn15 ?_
 refine zF (zNl (m := ((ch.toNat : Nat) : Int)) (jx := ch.toNat) Z Z Z Z (by rw [Int.toNat_natCast, Nat.zero_add]) (by omega)) ?_
 refine zF (zDw Z Z Z hat) ?_
 refine rn0 ?_
 exact zL hR Z Z
theorem right_ok (s : List UInt8) (hs : s.length ≤ 9223372036854775807) : zV Tryz.prog 218 [.str s, .rp (.box (zET 10)) 0 0] (.str (trR s)) := by
 refine zT.value0 (zE (P := Tryz.prog) (fn := Tryz.f218) Z Z (by kernel_rfl) Z (fun c hR hfix => ?_)) (fix := fun _ => False) (fun _ h => h) Z Z
 refine rn1 ?_
 refine ze (ι := Nat) (fun k => [(0, .str (s.take k)), (1, .rp (.box (zET 10)) 0 0)]) (fun _ => []) (fun k => k ≤ s.length ∧ (s.drop k).all dg = true) (fun k => k) s.length ⟨⟨by rw [List.take_length]; rfl, Z, trivial⟩, Z, Nat.le_refl _, by simp⟩ ?_
 rintro k ⟨hk, hd⟩
 have hlen : (s.take k).length = k := by simp; omega
 have hof := trR_of hk hd
 refine rn6 ?_
 refine zA Z (fun h1 => ?_) (fun h1 => ?_)
 ·have hk1 : 0 < k := by omega
  have hg : (s.take k).getD (k - 1) 0 = s.getD (k - 1) 0 := by
   simp only [List.getD, List.getElem?_take, show k - 1 < k by omega, if_true]
  have e1 : ((k : Int) - 1).toNat = k - 1 := by omega
  have hc := zJW (s.getD (k - 1) 0)
  refine rn19 ?_
  refine zD 13 (.int .u8 ((s.getD (k - 1) 0).toNat : Nat)) Z (AEq.of_eq (by rw [hlen, e1, hg])) ?_
  refine zB Z Z Z hc ?_
  refine rn5 ?_
  refine zD4 Z (fun h2 => ?_) (fun h2 => ?_)
  ·have h3 : dg (s.getD (k - 1) 0) = false := by simpa using h2
   refine rn14 ?_
   refine zL hR Z ?_
   rw [hof (.inr h3)]; rfl
  ·have h3 : dg (s.getD (k - 1) 0) = true := by simpa using h2
   refine rn8 ?_
   refine zF (zDx Z Z Z Z Z Z (by omega)) ?_
   refine rn5 ?_
   refine zK ⟨k - 1, ⟨by omega, ?_⟩, by omega, ⟨?_, Z, trivial⟩, Z⟩
   ·rw [zCh s 0 (k - 1) (by omega), show k - 1 + 1 = k by omega, List.all_cons, h3, hd]; rfl
   ·show some (AV.str ((List.drop 0 (s.take k)).take ((((s.take k).length : Int) - 1).toNat - 0))) = _
    rw [List.drop_zero, hlen, e1, Nat.sub_zero, List.take_take, Nat.min_eq_left (by omega)]
 ·have hk0 : k = 0 := by omega
  subst hk0
  refine rn5 ?_
  refine zL hR Z ?_
  rw [hof (.inl rfl)]; rfl
theorem left_ok (s : List UInt8) (hs : s.length ≤ 9223372036854775807) : zV Tryz.prog 217 [.str s, .rp (.box (zET 10)) 0 0] (.str (trL s)) := by
 refine zT.value0 (zE (P := Tryz.prog) (fn := Tryz.f217) Z Z (by kernel_rfl) Z (fun c hR hfix => ?_)) (fix := fun _ => False) (fun _ h => h) Z Z
 refine rn1 ?_
 refine ze (ι := Nat) (fun k => [(0, .str (s.drop k)), (1, .rp (.box (zET 10)) 0 0)]) (fun _ => []) (fun k => k ≤ s.length ∧ (s.take k).all dg = true) (fun k => s.length - k) 0 ⟨⟨by rw [List.drop_zero]; rfl, Z, trivial⟩, Z, Nat.zero_le _, by simp⟩ ?_
 rintro k ⟨hk, hd⟩
 have hlen : (s.drop k).length = s.length - k := by simp
 have hof := trL_of hd
 refine rn6 ?_
 refine zA Z (fun h1 => ?_) (fun h1 => ?_)
 ·have hk1 : k < s.length := by omega
  have hg : (s.drop k).getD 0 0 = s.getD k 0 := by simp [List.getD]
  have hc := zJW (s.getD k 0)
  refine rn12 ?_
  refine zD 10 (.int .u8 ((s.getD k 0).toNat : Nat)) Z (AEq.of_eq (by rw [Int.toNat_zero, hg])) ?_
  refine zB Z Z Z hc ?_
  refine rn5 ?_
  refine zD4 Z (fun h2 => ?_) (fun h2 => ?_)
  ·have h3 : dg (s.getD k 0) = false := by simpa using h2
   refine rn14 ?_
   refine zL hR Z ?_
   rw [hof (.inr h3)]; rfl
  ·have h3 : dg (s.getD k 0) = true := by simpa using h2
   refine rn1 ?_
   refine zF (zDx Z Z Z Z Z Z (by omega)) ?_
   refine rn5 ?_
   refine zK ⟨k + 1, ⟨by omega, ?_⟩, by omega, ⟨?_, Z, trivial⟩, Z⟩
   ·rw [zBL s 0 k hk1, List.all_append, hd]; simp only [List.all_cons, List.all_nil, h3, Bool.and_true]
   ·show some (AV.str ((List.drop 1 (s.drop k)).take ((s.drop k).length - 1))) = _
    rw [List.drop_drop, List.take_of_length_le (by simp; omega)]
 ·have hk0 : s.length ≤ k := by omega
  refine rn5 ?_
  refine zL hR Z ?_
  rw [hof (.inl hk0)]; rfl
theorem trim_ok (s : List UInt8) (hs : s.length ≤ 9223372036854775807) : zV Tryz.prog 160 [.str s, .str digS] (.str (trL (trR s))) := by
 have h1 := set_ok
 have h2 := right_ok s hs
 have hle : (trR s).length ≤ s.length := by
  unfold trR
  rw [List.length_reverse]
  have := (List.dropWhile_sublist (p := dg) (l := s.reverse)).length_le
  simpa using this
 have h3 := left_ok (trR s) (by omega)
 refine zT.value0 (zE (P := Tryz.prog) (fn := Tryz.f160) Z Z (by kernel_rfl) Z (fun c hR hfix => ?_)) (fix := fun _ => False) (fun _ h => h) Z Z
 have hl := zCf 10
 refine rn6 ?_
 by_cases h0 : s = []
 ·subst h0
  refine rn6 ?_
  exact zL hR Z Z
 rw [show decide (s = _) = false from decide_eq_false h0]
 refine rn6 ?_
 refine zB Z Z Z h1 ?_
 refine rn4 ?_
 refine zw (c' := .box (zET 10)) Z Z Z Z (zCf 10) Nat.zero_lt_one Z (zCf 10) (fun i' j' hi' hj' => ?_) ?_
 ·rw [if_pos (Nat.lt_one_iff.1 hi')]; rfl
 refine rn5 ?_
 have hrl : ∀ (h : Nat) (o : AObj), ([some ⟨286, .box (zET 10)⟩] : zM)[h]? = some (some o) → zAc o.c := zJd (fun i j hi hj => by
  show noRef ((zET 10).getD j .any) = true
  rw [List.getD, zJx 10 j (by have : j < (zET 10).length := hj; rwa [zCf] at this)]; rfl)
 refine zO [some ⟨286, .box (zET 10)⟩] Z ?_
 refine zIB rfl rfl rfl rfl h2 hrl ⟨trivial, fun o ho => by simp at ho; subst ho; exact Nat.zero_lt_one, trivial⟩ rfl rfl rfl ?_
 skip
 refine zIB rfl rfl rfl rfl h3 hrl ⟨trivial, fun o ho => by simp at ho; subst ho; exact Nat.zero_lt_one, trivial⟩ rfl rfl rfl ?_
 refine rn2 ?_
 exact zL hR Z Z
end Go.Proofs.YtkncmbklkhjmgaaGreatDoor
namespace Go.Proofs.YtkncmbklkhjmgaaGreatDoor
open Go.Ax Go.Ax.Bg Go.RowKit
open Go.Ax.Tb (zBm zEE zB4 zCg)
attribute [local irreducible] Ax zBk QOp zT
theorem zP4 {i : Nat} (h : i ≤ 9) : 10 ^ i ≤ 1000000000 := by
 have := Nat.pow_le_pow_right (show 0 < 10 by decide) h
 exact Nat.le_trans this (by decide)
theorem zJv (S : List UInt8) (hd : ∀ c ∈ S, zBm c) (hl : S.length ≤ 1000000) : zV Tryz.prog 80 [.str S] (zg (zAy 0 S)) := by
 refine zT.value0 (zE (P := Tryz.prog) (fn := Tryz.f80) Z Z (by kernel_rfl) Z (fun c hR hfix => ?_)) (fix := fun _ => False) (fun _ h => h) Z Z
 refine rn0 ?_
 refine zAB 3 (zg 0) Z AEq.natNil ?_
 refine zAC ?_
 refine ze (ι := Nat × List UInt8) (fun p => [(0, .str p.2), (3, zg p.1)]) (fun _ => []) (fun p => p.2.length ≤ S.length ∧ (∀ c ∈ p.2, zBm c) ∧ zAy p.1 p.2 = zAy 0 S ∧ p.1 < 10 ^ (S.length - p.2.length)) (fun p => p.2.length) (0, S) ⟨⟨Z, Z, trivial⟩, Z, Nat.le_refl _, hd, Z, by simp⟩ ?_
 rintro ⟨v, s⟩ ⟨h1, h2, h3, h4⟩
 simp only at *
 refine rn6 ?_
 refine zA Z (fun h5 => ?_) (fun h5 => ?_)
 ·have hs0 : s ≠ [] := by rintro rfl; simp at h5
  obtain ⟨k, hk, hk1, hk9, hks⟩ : ∃ k : Nat, (if (9 : Int) < (s.length : Nat) then (9 : Int) else (s.length : Nat)) = (k : Int) ∧ 1 ≤ k ∧ k ≤ 9 ∧ k ≤ s.length := by
   have : 0 < s.length := List.length_pos_iff.2 hs0
   by_cases hz : (9 : Int) < (s.length : Nat)
   ·exact ⟨9, by rw [if_pos hz]; rfl, by omega, by omega, by omega⟩
   ·exact ⟨s.length, by rw [if_neg hz], by omega, by omega, Nat.le_refl _⟩
  have ht0 : s.take k ≠ [] := by
   intro e
   have := congrArg List.length e
   rw [List.length_take, Nat.min_eq_left hks] at this
   simp at this; omega
  have htl : (s.take k).length = k := by rw [List.length_take, Nat.min_eq_left hks]
  obtain ⟨hp, hplt⟩ := zId ht0 (fun c hc => h2 c (List.mem_of_mem_take hc)) (by omega)
  have hp32 := parse32 (s.take k) _ (by omega) hp
  have hdv : zAy (v * 10 ^ k + zAy 0 (s.take k)) (s.drop k) = zAy 0 S := by
   rw [← h3]
   conv => rhs; rw [← List.take_append_drop k s]
   rw [zGl, zGk (s.take k) v, htl]
  have hxlt := zIL (l := s.take k) (fun c hc => h2 c (List.mem_of_mem_take hc))
  rw [htl] at hxlt
  have hvn : v * 10 ^ k + zAy 0 (s.take k) < 10 ^ (S.length - (s.drop k).length) := by
   rw [List.length_drop, show S.length - (s.length - k) = (S.length - s.length) + k by omega, Nat.pow_add]
   have : (v + 1) * 10 ^ k ≤ 10 ^ (S.length - s.length) * 10 ^ k := Nat.mul_le_mul_right _ h4
   rw [Nat.add_mul] at this
   omega
  obtain ⟨x, hx⟩ : ∃ x, zAy 0 (s.take k) = x := ⟨_, rfl⟩
  rw [hx] at hplt hp32 hdv hvn
  have hvl : (zR v).length ≤ S.length - s.length := zAd (Nat.lt_of_lt_of_le h4 (Nat.pow_le_pow_left (by decide) _))
  have hma := zQz (zR v) (10 ^ k) x (zAP v) (by omega) (by have := zP4 hk9; omega) (by omega)
  rw [zz] at hma
  refine rn12 ?_
  rw [hk]
  refine zD 17 (.str (s.take k)) Z (AEq.of_eq (by
   show AV.str ((List.drop 0 s).take (k - 0)) = _
   rw [List.drop_zero, Nat.sub_zero])) ?_
  refine zB Z Z Z hp32 ?_
  refine rn2 ?_
  refine ze (ι := Nat) (fun i => [(0, .str s), (3, zg v), (4, iN k), (5, .int .u64 (x : Nat)), (7, .int .u32 (10 ^ i : Nat)), (21, iN k), (22, iN i)]) (fun _ => []) (fun i => i ≤ k) (fun i => k - i) 0 ⟨⟨Z, Z, Z, Z, Z, Z, Z, trivial⟩, Z, Nat.zero_le _⟩ ?_
  rintro i hi
  refine rn4 ?_
  refine zA Z (fun h6 => ?_) (fun h6 => ?_)
  ·have hpw := zP4 (show i + 1 ≤ 9 by omega)
   rw [Nat.pow_succ] at hpw
   refine rn1 ?_
   refine zF (zJH (m := 10 ^ i) (n := 10) Z Z zFB (by omega)) ?_
   refine rn5 ?_
   exact zK ⟨i + 1, by omega, by omega, ⟨Z, Z, Z, Z, Z, Z, Z, trivial⟩, Z⟩
  ·have hie : i = k := by omega
   subst hie
   refine rn5 ?_
   refine zF (zAR (m := x) Z Z Z zFB (by omega)) ?_
   refine zB Z Z Z hma ?_
   refine rn12 ?_
   refine zK ⟨(v * 10 ^ i + x, s.drop i), ⟨by simp only [List.length_drop]; omega, fun c hc => h2 c (List.mem_of_mem_drop hc), hdv, hvn⟩, by simp only [List.length_drop]; omega, ⟨?_, Z, trivial⟩, Z⟩
   show some (AV.str ((List.drop i s).take (s.length - i))) = _
   rw [List.take_of_length_le (by simp)]
 ·have hs0 : s = [] := by
   rcases s with _ | ⟨x, r⟩
   ·rfl
   ·exact absurd (by simp) h5
  subst hs0
  refine rn5 ?_
  refine zL hR Z ?_
  rw [← h3]; rfl
theorem zRa : zV Tryz.prog 210 [zg 0] (.str (Lib.decDigits 0)) := by
 refine zT.value0 (zE (P := Tryz.prog) (fn := Tryz.f210) Z Z (by kernel_rfl) Z (fun c hR hfix => ?_)) (fix := fun _ => False) (fun _ h => h) Z Z
 have en : zg 0 = .ro (.ints .u32 []) 0 0 := by unfold zg; rw [zBo]; rfl
 rw [en]
 refine rn5 ?_
 refine zL hR Z ?_
 rw [Lib.decDigits_one (by decide)]; rfl
theorem zDe {n L : Nat} (h : (zR n).length ≤ L) (hL : 1 ≤ L) : (Lib.decDigits n).length ≤ 10 * L := by
 have h1 := zAt (zAP n)
 rw [zz] at h1
 have h2 : B ^ (zR n).length ≤ B ^ L := Nat.pow_le_pow_right (by decide) h
 have h3 : B ^ L ≤ (10 ^ 10) ^ L := Nat.pow_le_pow_left (by decide) L
 rw [← Nat.pow_mul] at h3
 exact zDB (by omega) (by omega)
theorem zJ0 (n : Nat) (h : (zR n).length ≤ 1000000) : zV Tryz.prog 210 [zg n] (.str (Lib.decDigits n)) := by
 rcases Nat.eq_zero_or_pos n with h0 | h0
 ·subst h0; exact zRa
 have hdl := zDe h (by decide)
 have hn0 : 0 < (zR n).length := zCU.2 (by omega)
 refine zT.value0 (zE (P := Tryz.prog) (fn := Tryz.f210) Z Z (by kernel_rfl) Z (fun c hR hfix => ?_)) (fix := fun _ => False) (fun _ h => h) Z Z
 unfold zg
 refine rn4 ?_
 refine zA Z (fun q => absurd q (by omega)) (fun q => ?_)
 refine rn8 ?_
 refine zAl 3 ⟨9, .strs []⟩ Z Z ?_
 refine zAC ?_
 refine ze (ι := Nat × List (List UInt8)) (fun p => [(0, zg p.1), (3, .sl 0 0 p.2.length)]) (fun p => [some ⟨9, .strs p.2⟩]) (fun p => (zR p.1).length ≤ 1000000 ∧ p.2.length ≤ p.2.reverse.flatten.length ∧ (if p.1 = 0 then Lib.decDigits n = p.2.reverse.flatten else Lib.decDigits n = Lib.decDigits p.1 ++ p.2.reverse.flatten)) (fun p => p.1) (n, [])
  ⟨⟨rfl, rfl, trivial⟩, rfl, h, by simp, by rw [if_neg (by simp only; omega)]; simp⟩ ?_
 rintro ⟨m, ps⟩ ⟨h1, h2, h3⟩
 simp only at *
 have hpos : 0 < (zR m).length ↔ m ≠ 0 := zCU
 have hds := zJX (zR m) 1000000000 (zAP m) (by omega) (by decide)
 rw [zz] at hds
 have hflen : ps.reverse.flatten.length ≤ 10000000 := by
  have e : ps.reverse.flatten.length ≤ (Lib.decDigits n).length := by
   split at h3
   ·rw [h3]; exact Nat.le_refl _
   ·rw [h3, List.length_append]; omega
  omega
 have en : zg m = .ro (.ints .u32 (zR m)) 0 (zR m).length := rfl
 rw [en]
 refine rn6 ?_
 refine zA Z (fun h4 => ?_) (fun h4 => ?_)
 ·have hm0 : m ≠ 0 := hpos.1 (by omega)
  rw [if_neg hm0] at h3
  have hr : m % 1000000000 < 1000000000 := Nat.mod_lt _ (by decide)
  have hlt : m / 1000000000 < m := Nat.div_lt_self (by omega) (by decide)
  have hit := itoaN (m % 1000000000) (by omega)
  have hpos2 : 0 < (zR (m / 1000000000)).length ↔ m / 1000000000 ≠ 0 := zCU
  have hlen2 := zFY hlt h1
  have hrl : (Lib.decDigits (m % 1000000000)).length ≤ 9 := zDB (by decide) (by have e9 : (10 : Nat) ^ 9 = 1000000000 := by decide
                                                                                rw [e9]; exact hr)
  have hrp := repeat0 (9 - (Lib.decDigits (m % 1000000000)).length) (by omega)
  obtain ⟨t, ht0, htl, htp, htn⟩ : ∃ t : List UInt8, t ≠ [] ∧ t.length ≤ 9 ∧ (m / 1000000000 ≠ 0 → t = List.replicate (9 - (Lib.decDigits (m % 1000000000)).length) 48 ++ Lib.decDigits (m % 1000000000)) ∧ (m / 1000000000 = 0 → t = Lib.decDigits (m % 1000000000)) := by
   by_cases z : m / 1000000000 = 0
   ·exact ⟨_, zCg _, hrl, fun h => absurd z h, fun _ => rfl⟩
   ·refine ⟨_, ?_, ?_, fun _ => rfl, fun h => absurd h z⟩
    ·simp [zCg]
    ·simp; omega
  have hsplit : m / 1000000000 ≠ 0 → Lib.decDigits m = Lib.decDigits (m / 1000000000) ++ t := fun z => by
   have e9 : (10 : Nat) ^ 9 = 1000000000 := by decide
   have hs := zMK (n := m) (k := 9) (by decide) (by rw [e9]; omega)
   rw [e9] at hs
   rw [hs, htp z]; rfl
  have hone : m / 1000000000 = 0 → Lib.decDigits m = t := fun z => by
   rw [htn z]
   congr 1
   have := Nat.div_add_mod m 1000000000
   omega
  have hnew : (if m / 1000000000 = 0 then Lib.decDigits n = (ps ++ [t]).reverse.flatten else Lib.decDigits n = Lib.decDigits (m / 1000000000) ++ (ps ++ [t]).reverse.flatten) := by
   rw [List.reverse_append, List.reverse_singleton, List.singleton_append, List.flatten_cons]
   split
   ·rename_i z; rw [h3, hone z]
   ·rename_i z; rw [h3, hsplit z, List.append_assoc]
  obtain ⟨r, hrr⟩ : ∃ r, m % 1000000000 = r := ⟨_, rfl⟩
  obtain ⟨d, hdd⟩ : ∃ d, m / 1000000000 = d := ⟨_, rfl⟩
  simp only [hrr, hdd] at *
  refine rn1 ?_
  refine zB Z Z Z hds ?_
  refine rn2 ?_
  refine zF (zFu (m := r) Z Z Z (by omega)) ?_
  refine zB Z Z Z hit ?_
  have en2 : zg d = .ro (.ints .u32 (zR d)) 0 (zR d).length := rfl
  rw [en2]
  refine rn6 ?_
  apply zAG (H := [some ⟨9, .strs ps⟩]) [(0, zg d), (3, .sl 0 0 ps.length), (5, .str t)]
  ·intro fin
   refine zA Z (fun q2 => ?_) (fun q2 => ?_)
   ·have hd0 : d ≠ 0 := hpos2.1 (by omega)
    refine rn8 ?_
    refine zD 25 (iN (9 - (Lib.decDigits r).length)) Z (AEq.of_eq (by congr 1; omega)) ?_
    refine zB Z Z Z hrp ?_
    repeat (refine zF (zJ rfl) ?_)
    refine zF (zE6 Z Z (by simp; omega)) ?_
    refine zBa ?_
    exact fin _ ⟨Z, Z, by rw [htp hd0]; rfl, trivial⟩
   ·have hd0 : d = 0 := by
     rcases Nat.eq_zero_or_pos d with z | z
     ·exact z
     ·exact absurd (by have := hpos2.2 (by omega); omega) q2
    refine zBa ?_
    exact fin _ ⟨Z, Z, by rw [htn hd0]; rfl, trivial⟩
  refine rn3 ?_
  refine zo Z Z Z Z Z Z Z Z Z Z Z Z (Nat.le_refl 1) Z (by show (ps.length + 1) * 16 ≤ _ ∧ _; omega) (fun i j _ _ => rfl) (by rw [hfix]; exact fun h => h) ?_
  refine rn5 ?_
  refine zK ⟨(d, ps ++ [t]), ⟨hlen2, ?_, hnew⟩, hlt, ⟨Z, ?_, trivial⟩, Z⟩
  ·simp only [List.reverse_append, List.reverse_singleton, List.singleton_append, List.flatten_cons, List.length_append, List.length_singleton]
   have := List.length_pos_iff.2 ht0
   omega
  ·show some (AV.sl 0 0 (ps.length + 1)) = _
   simp
 ·have hm0 : m = 0 := by
   rcases Nat.eq_zero_or_pos m with q | q
   ·exact q
   ·exact absurd (by have := hpos.2 (by omega); omega) h4
  rw [if_pos hm0] at h3
  have hrv := zPD ps (by omega)
  have hjl : (Lib.join ps.reverse []).length ≤ 140737488355328 := by rw [zLb]; omega
  have hjn := join ps.reverse [] (by rw [List.length_reverse]; omega) hjl
  rw [zLb, ← h3, List.length_reverse] at hjn
  refine rn5 ?_
  refine zCH (fix := fun h => h < 1) Z Z Z hrv (fun h hh => hh) (fun h hh => hh) ?_
  rintro r H rfl
  refine rn0 ?_
  refine zCx 0 35 ps.length [] Z zMh Z (by show _ ≤ ps.reverse.length; simp) trivial ?_
  refine zB Z Z Z hjn ?_
  refine rn0 ?_
  exact zL hR Z Z
end Go.Proofs.YtkncmbklkhjmgaaGreatDoor
namespace Go.Proofs.YtkncmbklkhjmgaaGreatDoor
open Go.Ax Go.Ax.Idx Go.Ax.Cd
attribute [local irreducible] Ax zBk QOp zT
theorem indexI (l : List Int) (v : Int) (hlen : l.length ≤ 9223372036854775807) :
 zV Tryz.prog 242 [.ro (.ints .i64 l) 0 l.length, .int .i64 v] (.int .i64 (idxF (eqp v) l)) := by
 refine zT.value0 (zE (P := Tryz.prog) (fn := Tryz.f242) Z Z (by kernel_rfl) Z (fun c hR hfix => ?_)) (fix := fun _ => False) (fun _ h => h) Z Z
 refine rn3 ?_
 refine ze (ι := Nat) (fun k => [(0, .ro (.ints .i64 l) 0 l.length), (1, .int .i64 v), (7, iN l.length), (8, iN k)]) (fun _ => [])
  (fun k => k ≤ l.length ∧ (l.take k).any (eqp v) = false) (fun k => l.length - k) 0 ⟨⟨rfl, rfl, rfl, rfl, trivial⟩, rfl, Nat.zero_le _, rfl⟩ ?_
 intro k ⟨hk, hany⟩
 refine rn4 ?_
 refine zA Z (fun h => ?_) (fun h => ?_)
 ·have hk' : k < l.length := by omega
  have hanys := zC6 (eqp v) l 0 k hk'
  refine rn6 ?_
  refine zA Z (fun h2 => ?_) (fun h2 => ?_)
  ·refine rn6 ?_
   refine zL hR Z ?_
   have := idxF_take (eqp v) l k hany hk
   rw [zCh l 0 k hk'] at this
   have h3 : eqp v (l.getD k 0) = true := by simpa [eqp] using h2
   simp only [idxF, h3, if_true] at this
   rw [this]; simp [zBt]
  ·refine rn5 ?_
   have h3 : eqp v (l.getD k 0) = false := by simpa [eqp] using h2
   refine zK ⟨k + 1, ⟨by omega, by rw [hanys, hany, h3]; rfl⟩, by omega, ⟨Z, Z, Z, Z, trivial⟩, Z⟩
 ·have hk' : k = l.length := by omega
  subst hk'
  refine rn5 ?_
  refine zL hR Z ?_
  have := idxF_take (eqp v) l l.length hany hk
  rw [List.drop_length] at this
  rw [this]; rfl
theorem equalI (a b : List Int) (hlen : a.length ≤ 9223372036854775807) (hlb : b.length ≤ 9223372036854775807) : zV Tryz.prog 56 [.ro (.ints .i64 a) 0 a.length, .ro (.ints .i64 b) 0 b.length] (.bool (decide (a = b))) := by
 refine zT.value0 (zE (P := Tryz.prog) (fn := Tryz.f56) Z Z (by kernel_rfl) Z (fun c hR hfix => ?_)) (fix := fun _ => False) (fun _ h => h) Z Z
 refine rn3 ?_
 refine zA Z (fun h => ?_) (fun h => ?_)
 ·refine rn2 ?_
  refine zL hR Z ?_
  have : ¬ a = b := by rintro rfl; exact h rfl
  simp [zBt, this]
 have hab : a.length = b.length := by omega
 refine rn3 ?_
 refine ze (ι := Nat) (fun k => [(0, .ro (.ints .i64 a) 0 a.length), (1, .ro (.ints .i64 b) 0 b.length), (12, iN a.length), (13, iN k)]) (fun _ => [])
  (fun k => k ≤ a.length ∧ a.take k = b.take k) (fun k => a.length - k) 0 ⟨⟨rfl, rfl, rfl, rfl, trivial⟩, rfl, Nat.zero_le _, rfl⟩ ?_
 intro k ⟨hk, heq⟩
 refine rn4 ?_
 refine zA Z (fun h2 => ?_) (fun h2 => ?_)
 ·have hk' : k < a.length := by omega
  have ha := zBL a 0 k hk'
  have hb := zBL b 0 k (by omega)
  refine rn1 ?_
  refine zDs (by kernel_rfl) (by kernel_rfl) Z ?_
  refine rn6 ?_
  refine zA Z (fun h3 => ?_) (fun h3 => ?_)
  ·refine rn6 ?_
   refine zL hR Z ?_
   have : ¬ a = b := by rintro rfl; exact h3 rfl
   simp [zBt, this]
  ·refine rn5 ?_
   have h4 : a.getD k 0 = b.getD k 0 := by omega
   exact zK ⟨k + 1, ⟨by omega, by rw [ha, hb, heq, h4]⟩, by omega, ⟨Z, Z, Z, Z, trivial⟩, Z⟩
 ·have hk' : k = a.length := by omega
  subst hk'
  rw [List.take_length, hab, List.take_length] at heq
  refine rn5 ?_
  refine zL hR Z ?_
  simp [zBt, heq]
theorem zOs (l : List Int) (g : FuncId) (caps : List AV) (p : Int → Bool) (hc : noRef.noRefs caps = true) (hlen : l.length ≤ 9223372036854775807) (hp : ∀ x ∈ l, zV Tryz.prog g ([.int .i64 x] ++ caps) (.bool (p x))) :
 zV Tryz.prog 156 [.ro (.ints .i64 l) 0 l.length, .fn g caps] (.int .i64 (idxF p l)) := by
 refine zT.value0 (zE (P := Tryz.prog) (fn := Tryz.f156) Z Z (by kernel_rfl) Z (fun c hR hfix => ?_)) (fix := fun _ => False) (fun _ h => h) (by simp [noRef.noRefs, noRef, hc]) Z
 refine rn3 ?_
 refine ze (ι := Nat) (fun k => [(0, .ro (.ints .i64 l) 0 l.length), (1, .fn g caps), (7, iN l.length), (8, iN k)]) (fun _ => [])
  (fun k => k ≤ l.length ∧ (l.take k).any p = false) (fun k => l.length - k) 0 ⟨⟨rfl, rfl, rfl, rfl, trivial⟩, rfl, Nat.zero_le _, rfl⟩ ?_
 intro k ⟨hk, hany⟩
 refine rn4 ?_
 refine zA Z (fun h => ?_) (fun h => ?_)
 ·have hk' : k < l.length := by omega
  have hanys := zC6 p l 0 k hk'
  refine rn6 ?_
  refine zB Z Z Z (hp _ (zAL 0 hk')) ?_
  refine rn0 ?_
  refine zD4 Z (fun h2 => ?_) (fun h2 => ?_)
  ·refine rn6 ?_
   refine zL hR Z ?_
   have := idxF_take p l k hany hk
   rw [zCh l 0 k hk'] at this
   simp only [idxF, h2, if_true] at this
   rw [this]; simp [zBt]
  ·refine rn5 ?_
   refine zK ⟨k + 1, ⟨by omega, by rw [hanys, hany, h2]; rfl⟩, by omega, ⟨Z, Z, Z, Z, trivial⟩, Z⟩
 ·have hk' : k = l.length := by omega
  subst hk'
  refine rn5 ?_
  refine zL hR Z ?_
  have := idxF_take p l l.length hany hk
  rw [List.drop_length] at this
  rw [this]; rfl
theorem zQU (l : List Int) (g : FuncId) (caps : List AV) (p : Int → Bool) (hc : noRef.noRefs caps = true) (hlen : l.length ≤ 9223372036854775807) (hp : ∀ x ∈ l, zV Tryz.prog g ([.int .i64 x] ++ caps) (.bool (p x))) :
 zV Tryz.prog 74 [.ro (.ints .i64 l) 0 l.length, .fn g caps] (.bool (l.any p)) := by
 refine zT.value0 (zE (P := Tryz.prog) (fn := Tryz.f74) Z Z (by kernel_rfl) Z (fun c hR hfix => ?_)) (fix := fun _ => False) (fun _ h => h) (by simp [noRef.noRefs, noRef, hc]) Z
 refine rn0 ?_
 refine zB Z Z Z (zOs l g caps p hc hlen hp) ?_
 refine rn8 ?_
 refine zL hR Z ?_
 simp only [zBt, zIX]
def notOk (e : Int) : Bool := decide (e ≠ 0)
theorem fine1 (n : Int) : zV Tryz.prog 75 [.int .i64 n] (.bool (notOk n)) := by
 refine zT.value0 (zE (P := Tryz.prog) (fn := Tryz.f75) Z Z (by kernel_rfl) Z (fun c hR hfix => ?_)) (fix := fun _ => False) (fun _ h => h) Z Z
 refine rn3 ?_
 refine zL hR Z ?_
 simp [zBt, notOk]
theorem fineI (l : List Int) (hlen : l.length ≤ 1000) : zV Tryz.prog 25 [.ro (.ints .i64 l) 0 l.length] (.bool (!(l.any notOk))) := by
 refine zT.value0 (zE (P := Tryz.prog) (fn := Tryz.f25) Z Z (by kernel_rfl) Z (fun c hR hfix => ?_)) (fix := fun _ => False) (fun _ h => h) Z Z
 refine rn0 ?_
 refine zB Z Z Z (zQU l 75 [] notOk Z (by omega) (fun x _ => fine1 x)) ?_
 refine rn5 ?_
 exact zL hR Z Z
end Go.Proofs.YtkncmbklkhjmgaaGreatDoor
namespace Go.Proofs.YtkncmbklkhjmgaaGreatDoor
open Go.Ax Go.Ax.Bg Go.RowKit
open Go.Ax.Tb (zBm zEE zB4 zCg)
attribute [local irreducible] Ax zBk QOp zT
theorem zLQ (s : List UInt8) (hs : s.length ≤ 9223372036854775807) : zV Tryz.prog 79 [.str s] (.bool (zEz s)) := by
 have ht := trim_ok s hs
 have hn := trR_nil (s := s)
 have hc : zEz s = (decide (s ≠ []) && s.all dg && (decide (s.getD 0 0 ≠ 48) || decide (s.length = 1))) := rfl
 refine zT.value0 (zE (P := Tryz.prog) (fn := Tryz.f79) Z Z (by kernel_rfl) Z (fun c hR hfix => ?_)) (fix := fun _ => False) (fun _ h => h) Z Z
 generalize trL (trR s) = u at *
 generalize zEz s = b at *
 by_cases h0 : s = []
 ·subst h0
  refine rn16 ?_
  refine zL hR Z ?_
  rw [hc]; rfl
 have hlen : 0 < s.length := List.length_pos_iff.2 h0
 refine rn8 ?_
 refine zAe Z Z (fun h1 => ?_) (fun h1 => absurd h0 h1)
 refine rn2 ?_
 refine zB Z Z Z ht ?_
 refine rn6 ?_
 refine zAe Z Z (fun h2 => ?_) (fun h2 => ?_)
 ·have ha : s.all dg = true := hn.1 h2
  rw [decide_eq_true h0, ha, Bool.true_and, Bool.true_and] at hc
  refine rn19 ?_
  refine zAe Z Z (fun h3 => ?_) (fun h3 => ?_)
  ·have h4 : decide (s.getD 0 0 ≠ 48) = true := decide_eq_true (fun e => h3 (by simp only [Int.toNat_zero]; rw [e]; rfl))
   rw [h4, Bool.true_or] at hc
   refine rn6 ?_
   refine zL hR Z ?_
   rw [hc]; rfl
  ·have h5 : s.getD 0 0 = 48 := by
    simp only [Int.toNat_zero] at h3
    apply UInt8.toNat_inj.1
    have : ((s.getD 0 0).toNat : Int) = 48 := by omega
    show (s.getD 0 0).toNat = 48
    omega
   have h4 : decide (s.getD 0 0 ≠ 48) = false := decide_eq_false (fun e => e h5)
   rw [h4, Bool.false_or] at hc
   refine rn6 ?_
   refine zL hR Z ?_
   rw [hc]
   show AV.bool (decide ((s.length : Int) = 1)) = _
   congr 1
   rw [decide_eq_decide]; omega
 ·have ha : s.all dg = false := by
   cases hq : s.all dg with
   | false => rfl
   | true => exact absurd (hn.2 hq) h2
  rw [ha, Bool.and_false, Bool.false_and] at hc
  refine rn14 ?_
  refine zL hR Z ?_
  rw [hc]; rfl
def pairA (p : List UInt8 × Int) : AV := .tup [.str p.1, .int .i64 p.2]
theorem zJq {a b k : Nat} (ha : (zR a).length ≤ k) (hb : (zR b).length ≤ k) : (zR (a * b)).length ≤ k + k := by
 have h1 := zAt (zAP a)
 have h2 := zAt (zAP b)
 rw [zz] at h1 h2
 refine zAd ?_
 rw [Nat.pow_add]
 refine Nat.mul_lt_mul'' (Nat.lt_of_lt_of_le h1 (Nat.pow_le_pow_right (by decide) ha)) (Nat.lt_of_lt_of_le h2 (Nat.pow_le_pow_right (by decide) hb))
theorem len_add {a b k : Nat} (ha : (zR a).length ≤ k) (hb : (zR b).length ≤ k) : (zR (a + b)).length ≤ k + 1 := by
 have h1 := zAt (zAP a)
 have h2 := zAt (zAP b)
 rw [zz] at h1 h2
 refine zAd ?_
 have h3 : B ^ (zR a).length ≤ B ^ k := Nat.pow_le_pow_right (by decide) ha
 have h4 : B ^ (zR b).length ≤ B ^ k := Nat.pow_le_pow_right (by decide) hb
 rw [Nat.pow_succ]
 have : B ^ k * 2 ≤ B ^ k * B := Nat.mul_le_mul_left _ (by decide)
 omega
end Go.Proofs.YtkncmbklkhjmgaaGreatDoor
namespace Go.Proofs.YtkncmbklkhjmgaaGreatDoor
open Go.Ax Go.Ax.Bg Go.Ax.Rt Go.RowKit
attribute [local irreducible] Ax zBk QOp zT zBR
def zA1 (x : Int) : AV := .agg [.bool (decide (x < 0)), zg x.natAbs]
theorem zFL (b : Bool) (n : Nat) : zV Tryz.prog 153 [.bool b, zg n] (zA1 (zEj b n)) := by
 have hp : 0 < (zR n).length ↔ n ≠ 0 := zCU
 have hr : zA1 (zEj b n) = .agg [.bool (b && decide (n ≠ 0)), zg n] := by unfold zA1; rw [zE9, zKh]
 rw [hr]
 refine zT.value0 (zE (P := Tryz.prog) (fn := Tryz.f153) Z Z (by kernel_rfl) Z (fun c hR hfix => ?_)) (fix := fun _ => False) (fun _ h => h) Z Z
 unfold zg at hR ⊢
 cases b
 ·refine rn14 ?_
  refine sa1 (c' := .box [.bool false, .ro (.ints .u32 (zR n)) 0 (zR n).length]) Z Z Z Z Z Z Z ?_
  refine rn0 ?_
  exact zL hR Z Z
 ·refine rn14 ?_
  have e : decide (0 < ((zR n).length : Int)) = decide (n ≠ 0) := by rw [decide_eq_decide, ← hp]; omega
  refine zw (c' := .box [.bool (decide (n ≠ 0)), .ro (.ints .u32 (zR n)) 0 (zR n).length]) Z Z Z Z Z Nat.zero_lt_one Z Z (fun i' j' hi' hj' => ?_) ?_
  ·rw [if_pos (Nat.lt_one_iff.1 hi'), ← e]; rfl
  refine rn0 ?_
  exact zL hR Z Z
theorem mul_sgn (x y : Int) : zEj (!(decide (x < 0) == decide (y < 0))) (x.natAbs * y.natAbs) = x * y := by
 have h : (x * y).natAbs = x.natAbs * y.natAbs := Int.natAbs_mul x y
 unfold zEj
 rcases Int.lt_trichotomy x 0 with hx | hx | hx <;> rcases Int.lt_trichotomy y 0 with hy | hy | hy
 ·have := Int.mul_pos_of_neg_of_neg hx hy
  simp only [hx, hy]; simp; omega
 ·subst hy; simp
 ·have := Int.mul_neg_of_neg_of_pos hx hy
  simp only [hx, show ¬ y < 0 by omega]; simp; omega
 ·subst hx; simp
 ·subst hx; simp
 ·subst hx; simp
 ·have := Int.mul_neg_of_pos_of_neg hx hy
  simp only [hy, show ¬ x < 0 by omega]; simp; omega
 ·subst hy; simp
 ·have := Int.mul_pos hx hy
  simp only [show ¬ x < 0 by omega, show ¬ y < 0 by omega]; simp; omega
theorem zCS (x y : Int) (hx : (zR x.natAbs).length ≤ 1000000) (hy : (zR y.natAbs).length ≤ 1000000) : zV Tryz.prog 154 [zA1 x, zA1 y] (zA1 (x * y)) := by
 have h1 := zMW x.natAbs y.natAbs (by omega) (by omega)
 have h2 := zFL (!(decide (x < 0) == decide (y < 0))) (x.natAbs * y.natAbs)
 rw [mul_sgn] at h2
 refine zT.value0 (zE (P := Tryz.prog) (fn := Tryz.f154) Z Z (by kernel_rfl) Z (fun c hR hfix => ?_)) (fix := fun _ => False) (fun _ h => h) Z Z
 refine rn6 ?_
 refine zh (by kernel_rfl) ?_
 refine zp (fuel := 1) [0, 1, 2, 3, 4, 5, 6, 7, 8, 9, 10] [(2, .ptr 0 0 0), (3, .ptr 1 0 0), (4, .ptr 2 0 0)] ⟨Z, Z, Z, trivial⟩ (by kernel_rfl) (by decide) Z Z ?_
 refine zN Z Z (zH Z Z Z Z Z Z) ?_
 refine zN Z Z (zX Z Z Z Z Z) ?_
 refine zN Z Z (zH Z Z Z Z Z Z) ?_
 refine zN Z Z (zX Z Z Z Z Z) ?_
 refine zN Z Z (zJG Z Z Z) ?_
 refine zN Z Z (zH Z Z Z Z Z Z) ?_
 refine zN Z Z (zX Z Z Z Z Z) ?_
 refine zN Z Z (zH Z Z Z Z Z Z) ?_
 refine zN Z Z (zX Z Z Z Z Z) ?_
 refine zA5 Z Z Z Z Z h1 ?_
 refine zA5 Z Z Z Z Z h2 ?_
 refine z7 ?_
 refine zG (is := [11]) (by kernel_rfl) (by simp) Z ⟨fun o ho => ?_, trivial⟩
 all_goals (cases ho)
 skip
 unfold zA1 zg
 refine sa1 (c' := .box [.bool (decide (x * y < 0)), .ro (.ints .u32 (zR (x * y).natAbs)) 0 (zR (x * y).natAbs).length]) Z Z Z Z Z Z Z ?_
 refine rn1 ?_
 refine zW (by kernel_rfl) ?_
 refine rn0 ?_
 exact zL hR Z Z
theorem opp_sgn (x : Int) : zEj (!decide (x < 0)) x.natAbs = -x := by
 unfold zEj
 by_cases h : x < 0
 ·simp [h]; omega
 ·simp [h]; omega
theorem zGC (x : Int) : zV Tryz.prog 164 [zA1 x] (zA1 (-x)) := by
 have h2 := zFL (!decide (x < 0)) x.natAbs
 rw [opp_sgn] at h2
 refine zT.value0 (zE (P := Tryz.prog) (fn := Tryz.f164) Z Z (by kernel_rfl) Z (fun c hR hfix => ?_)) (fix := fun _ => False) (fun _ h => h) Z Z
 refine rn6 ?_
 refine zB Z Z Z h2 ?_
 skip
 unfold zA1
 refine sa1 (c' := .box [.bool (decide (-x < 0)), zg (-x).natAbs]) Z Z Z Z Z Z Z ?_
 refine rn0 ?_
 exact zL hR Z Z
theorem zEG (x : Int) : zV Tryz.prog 157 [zA1 x] (.int .i64 (sgn x)) := by
 have hp : 0 < (zR x.natAbs).length ↔ x.natAbs ≠ 0 := zCU
 unfold sgn
 refine zT.value0 (zE (P := Tryz.prog) (fn := Tryz.f157) Z Z (by kernel_rfl) Z (fun c hR hfix => ?_)) (fix := fun _ => False) (fun _ h => h) Z Z
 unfold zA1 zg
 rcases Int.lt_trichotomy x 0 with h | h | h
 ·have e : decide (x < 0) = true := decide_eq_true h
  rw [e]
  rw [if_pos h] at hR
  refine rn6 ?_
  refine zA Z (fun h0 => absurd h0 (by omega)) (fun h0 => ?_)
  refine rn6 ?_
  exact zL hR Z Z
 ·subst h
  rw [if_neg (by omega), if_pos rfl] at hR
  have e0 : zR (0 : Int).natAbs = [] := zBo
  rw [e0]
  refine rn6 ?_
  exact zL hR Z Z
 ·have e : decide (x < 0) = false := decide_eq_false (by omega)
  rw [e]
  rw [if_neg (by omega), if_neg (by omega)] at hR
  refine rn6 ?_
  refine zA Z (fun h0 => absurd h0 (by omega)) (fun h0 => ?_)
  refine rn5 ?_
  exact zL hR Z Z
theorem add_sgn1 (x y : Int) (h : decide (x < 0) = decide (y < 0)) : zEj (decide (x < 0)) (x.natAbs + y.natAbs) = x + y := by
 unfold zEj
 rw [decide_eq_decide] at h
 by_cases h1 : x < 0
 ·simp [h1]; omega
 ·simp [h1]; omega
theorem add_sgn2 (x y : Int) (h : ¬ decide (x < 0) = decide (y < 0)) (h2 : y.natAbs ≤ x.natAbs) : zEj (decide (x < 0)) (x.natAbs - y.natAbs) = x + y := by
 unfold zEj
 rw [decide_eq_decide] at h
 by_cases h1 : x < 0
 ·simp [h1]; omega
 ·simp [h1]; omega
theorem add_sgn3 (x y : Int) (h : ¬ decide (x < 0) = decide (y < 0)) (h2 : ¬ y.natAbs ≤ x.natAbs) : zEj (decide (y < 0)) (y.natAbs - x.natAbs) = x + y := by
 unfold zEj
 rw [decide_eq_decide] at h
 by_cases h1 : y < 0
 ·simp [h1]; omega
 ·simp [h1]; omega
theorem zPW {x y : Int} : 0 ≤ zEC x y ↔ y ≤ x := by
 unfold zEC
 split
 ·omega
 ·split <;> omega
theorem zMQ (x y : Int) (hx : (zR x.natAbs).length ≤ 1000000) (hy : (zR y.natAbs).length ≤ 1000000) : zV Tryz.prog 197 [zA1 x, zA1 y] (zA1 (x + y)) := by
 by_cases h : decide (x < 0) = decide (y < 0)
 ·have h1 := add_ok x.natAbs y.natAbs (by omega) (by omega)
  have h2 := zFL (decide (x < 0)) (x.natAbs + y.natAbs)
  rw [add_sgn1 x y h] at h2
  refine zT.value0 (zE (P := Tryz.prog) (fn := Tryz.f197) Z Z (by kernel_rfl) Z (fun c hR hfix => ?_)) (fix := fun _ => False) (fun _ h => h) Z Z
  unfold zA1 at hR ⊢
  repeat (first | refine zQ ?_ | refine zI ?_ | refine zx ?_ | refine zd rfl ?_ | refine zF (zX rfl rfl rfl rfl rfl) ?_ | refine zF (zH rfl rfl rfl rfl rfl rfl) ?_ | refine zF (zKW rfl rfl rfl) ?_ | refine zF6 rfl rfl ?_ | refine zBC rfl rfl rfl ?_)
  refine zAB 9 (.bool true) Z (AEq.of_eq (by rw [h]; simp)) ?_
  refine rn5 ?_
  refine zh (by kernel_rfl) ?_
  refine zp (fuel := 1) [0, 1, 2, 3, 4, 5, 6, 7] [(2, .ptr 0 0 0), (3, .ptr 1 0 0), (4, .ptr 2 0 0)] ⟨Z, Z, Z, trivial⟩ (by kernel_rfl) (by decide) Z Z ?_
  refine zN Z Z (zH Z Z Z Z Z Z) ?_
  refine zN Z Z (zX Z Z Z Z Z) ?_
  refine zN Z Z (zH Z Z Z Z Z Z) ?_
  refine zN Z Z (zX Z Z Z Z Z) ?_
  refine zN Z Z (zH Z Z Z Z Z Z) ?_
  refine zN Z Z (zX Z Z Z Z Z) ?_
  refine zA5 Z Z Z Z Z h1 ?_
  refine zA5 Z Z Z Z Z h2 ?_
  refine z7 ?_
  refine zG (is := [8]) (by kernel_rfl) (by simp) Z ⟨fun o ho => ?_, trivial⟩
  all_goals (cases ho)
  skip
  unfold zA1
  refine sa1 (c' := .box [.bool (decide (x + y < 0)), zg (x + y).natAbs]) Z Z Z Z Z Z Z ?_
  refine rn1 ?_
  refine zW (by kernel_rfl) ?_
  refine rn2 ?_
  exact zL hR Z Z
 ·have h0 := zMH x.natAbs y.natAbs (by omega) (by omega)
  by_cases hc : y.natAbs ≤ x.natAbs
  ·have h1 := sub_ok x.natAbs y.natAbs hc (by omega)
   have h2 := zFL (decide (x < 0)) (x.natAbs - y.natAbs)
   rw [add_sgn2 x y h hc] at h2
   refine zT.value0 (zE (P := Tryz.prog) (fn := Tryz.f197) Z Z (by kernel_rfl) Z (fun c hR hfix => ?_)) (fix := fun _ => False) (fun _ h => h) Z Z
   unfold zA1 at hR ⊢
   repeat (first | refine zQ ?_ | refine zI ?_ | refine zx ?_ | refine zd rfl ?_ | refine zF (zX rfl rfl rfl rfl rfl) ?_ | refine zF (zH rfl rfl rfl rfl rfl rfl) ?_ | refine zF (zKW rfl rfl rfl) ?_ | refine zF6 rfl rfl ?_ | refine zBC rfl rfl rfl ?_)
   refine zAB 9 (.bool false) Z (AEq.of_eq (by rw [beq_eq_false_iff_ne.2 h])) ?_
   refine rn5 ?_
   refine zB Z Z Z h0 ?_
   refine rn7 ?_
   refine zA Z (fun h5 => ?_) (fun h5 => absurd (zPW.2 (Int.ofNat_le.2 hc)) h5)
   repeat (refine zx ?_)
   refine zh (by kernel_rfl) ?_
   refine zp (fuel := 1) [0, 1, 2, 3, 4, 5, 6, 7] [(2, .ptr 0 0 0), (3, .ptr 1 0 0), (4, .ptr 2 0 0)] ⟨Z, Z, Z, trivial⟩ (by kernel_rfl) (by decide) Z Z ?_
   refine zN Z Z (zH Z Z Z Z Z Z) ?_
   refine zN Z Z (zX Z Z Z Z Z) ?_
   refine zN Z Z (zH Z Z Z Z Z Z) ?_
   refine zN Z Z (zX Z Z Z Z Z) ?_
   refine zN Z Z (zH Z Z Z Z Z Z) ?_
   refine zN Z Z (zX Z Z Z Z Z) ?_
   refine zA5 Z Z Z Z Z h1 ?_
   refine zA5 Z Z Z Z Z h2 ?_
   refine z7 ?_
   refine zG (is := [8]) (by kernel_rfl) (by simp) Z ⟨fun o ho => ?_, trivial⟩
   all_goals (cases ho)
   skip
   unfold zA1
   refine sa1 (c' := .box [.bool (decide (x + y < 0)), zg (x + y).natAbs]) Z Z Z Z Z Z Z ?_
   refine rn1 ?_
   refine zW (by kernel_rfl) ?_
   refine rn2 ?_
   exact zL hR Z Z
  ·have h1 := sub_ok y.natAbs x.natAbs (by omega) (by omega)
   have h2 := zFL (decide (y < 0)) (y.natAbs - x.natAbs)
   rw [add_sgn3 x y h hc] at h2
   refine zT.value0 (zE (P := Tryz.prog) (fn := Tryz.f197) Z Z (by kernel_rfl) Z (fun c hR hfix => ?_)) (fix := fun _ => False) (fun _ h => h) Z Z
   unfold zA1 at hR ⊢
   repeat (first | refine zQ ?_ | refine zI ?_ | refine zx ?_ | refine zd rfl ?_ | refine zF (zX rfl rfl rfl rfl rfl) ?_ | refine zF (zH rfl rfl rfl rfl rfl rfl) ?_ | refine zF (zKW rfl rfl rfl) ?_ | refine zF6 rfl rfl ?_ | refine zBC rfl rfl rfl ?_)
   refine zAB 9 (.bool false) Z (AEq.of_eq (by rw [beq_eq_false_iff_ne.2 h])) ?_
   refine rn5 ?_
   refine zB Z Z Z h0 ?_
   refine rn7 ?_
   refine zA Z (fun h5 => absurd (Int.ofNat_le.1 (zPW.1 h5)) hc) (fun h5 => ?_)
   refine rn1 ?_
   refine zh (by kernel_rfl) ?_
   refine zp (fuel := 1) [0, 1, 2, 3, 4, 5, 6, 7] [(2, .ptr 0 0 0), (3, .ptr 1 0 0), (4, .ptr 2 0 0)] ⟨Z, Z, Z, trivial⟩ (by kernel_rfl) (by decide) Z Z ?_
   refine zN Z Z (zH Z Z Z Z Z Z) ?_
   refine zN Z Z (zX Z Z Z Z Z) ?_
   refine zN Z Z (zH Z Z Z Z Z Z) ?_
   refine zN Z Z (zX Z Z Z Z Z) ?_
   refine zN Z Z (zH Z Z Z Z Z Z) ?_
   refine zN Z Z (zX Z Z Z Z Z) ?_
   refine zA5 Z Z Z Z Z h1 ?_
   refine zA5 Z Z Z Z Z h2 ?_
   refine z7 ?_
   refine zG (is := [8]) (by kernel_rfl) (by simp) Z ⟨fun o ho => ?_, trivial⟩
   all_goals (cases ho)
   skip
   unfold zA1
   refine sa1 (c' := .box [.bool (decide (x + y < 0)), zg (x + y).natAbs]) Z Z Z Z Z Z Z ?_
   refine rn1 ?_
   refine zW (by kernel_rfl) ?_
   refine rn0 ?_
   exact zL hR Z Z
theorem len_neg {x : Int} {k : Nat} (h : (zR x.natAbs).length ≤ k) : (zR (-x).natAbs).length ≤ k := by rw [Int.natAbs_neg]; exact h
theorem zMT (x y : Int) (hx : (zR x.natAbs).length ≤ 1000000) (hy : (zR y.natAbs).length ≤ 1000000) : zV Tryz.prog 211 [zA1 x, zA1 y] (zA1 (x - y)) := by
 have h1 := zGC y
 have h2 := zMQ x (-y) hx (len_neg hy)
 rw [show x + -y = x - y from rfl] at h2
 refine zT.value0 (zE (P := Tryz.prog) (fn := Tryz.f211) Z Z (by kernel_rfl) Z (fun c hR hfix => ?_)) (fix := fun _ => False) (fun _ h => h) Z Z
 refine rn6 ?_
 refine zh (by kernel_rfl) ?_
 refine zp (fuel := 1) [0, 1, 2, 3] [(2, .ptr 0 0 0), (3, .ptr 1 0 0), (4, .ptr 2 0 0)] ⟨Z, Z, Z, trivial⟩ (by kernel_rfl) (by decide) Z Z ?_
 refine zN Z Z (qpp Z Z Z Z Z Z Z) ?_
 refine zN Z Z (qpp Z Z Z Z Z Z Z) ?_
 refine zA5 Z Z Z Z Z h1 ?_
 refine zA5 Z Z Z Z Z h2 ?_
 refine z7 ?_
 refine zG (is := [4]) (by kernel_rfl) (by simp) Z ⟨fun o ho => ?_, trivial⟩
 all_goals (cases ho)
 skip
 unfold zA1
 refine sa1 (c' := .box [.bool (decide (x - y < 0)), zg (x - y).natAbs]) Z Z Z Z Z Z Z ?_
 refine rn1 ?_
 refine zW (by kernel_rfl) ?_
 refine rn0 ?_
 exact zL hR Z Z
theorem zPs (x y : Int) (hx : (zR x.natAbs).length ≤ 1000000) (hy : (zR y.natAbs).length ≤ 1000000) : zV Tryz.prog 155 [zA1 x, zA1 y] (.int .i64 (sgn (x - y))) := by
 have h1 := zMT x y hx hy
 have h2 := zEG (x - y)
 refine zT.value0 (zE (P := Tryz.prog) (fn := Tryz.f155) Z Z (by kernel_rfl) Z (fun c hR hfix => ?_)) (fix := fun _ => False) (fun _ h => h) Z Z
 refine rn6 ?_
 refine zB Z Z Z h1 ?_
 skip
 refine zB Z Z Z h2 ?_
 refine rn0 ?_
 exact zL hR Z Z
theorem zK6 (n : Int) (h : -9223372036854775808 ≤ n ∧ n < 9223372036854775808) : zV Tryz.prog 167 [.int .i64 n] (zA1 n) := by
 refine zT.value0 (zE (P := Tryz.prog) (fn := Tryz.f167) Z Z (by kernel_rfl) Z (fun c hR hfix => ?_)) (fix := fun _ => False) (fun _ h => h) Z Z
 rcases Int.lt_or_le n 0 with hn | hn
 ·have h1 := zG2 n.natAbs (by omega)
  refine rn4 ?_
  refine zA Z (fun _ => ?_) (fun h0 => absurd hn h0)
  refine rn3 ?_
  refine zF (q_neg Z (by omega)) ?_
  refine zD 7 (.int .i64 ((n.natAbs - 1 : Nat) : Int)) Z (AEq.of_eq (congrArg _ (by omega))) ?_
  refine zF (zAR (m := n.natAbs - 1) Z Z Z zBV (by omega)) ?_
  refine zF (zFa (m := n.natAbs - 1) (n := 1) Z Z zBV (by omega)) ?_
  refine zD 9 (.int .u64 ((n.natAbs : Nat) : Int)) Z (AEq.of_eq (congrArg _ (by omega))) ?_
  skip
  refine zB Z Z Z h1 ?_
  repeat (refine zF (zBI rfl rfl rfl rfl rfl rfl) ?_)
  refine sa1 (c' := .box [.bool true, zg n.natAbs]) Z Z Z Z Z Z Z ?_
  refine rn2 ?_
  refine zL hR Z ?_
  unfold zA1
  rw [show decide (n < 0) = true from decide_eq_true hn]
  rfl
 ·have h1 := zG2 n.natAbs (by omega)
  refine rn4 ?_
  refine zA Z (fun h0 => absurd h0 (by omega)) (fun h0 => ?_)
  refine rn1 ?_
  refine zD 12 (.int .i64 ((n.natAbs : Nat) : Int)) Z (AEq.of_eq (congrArg _ (by omega))) ?_
  refine zF (zAR (m := n.natAbs) Z Z Z zBV (by omega)) ?_
  skip
  refine zB Z Z Z h1 ?_
  repeat (refine zF (zBI rfl rfl rfl rfl rfl rfl) ?_)
  refine sa1 (c' := .box [.bool false, zg n.natAbs]) Z Z Z Z Z Z Z ?_
  refine rn0 ?_
  refine zL hR Z ?_
  unfold zA1
  rw [show decide (n < 0) = false from decide_eq_false (by omega)]
  rfl
def qA (q : Rat) : AV := .agg [.bool (decide (q.num < 0)), zg q.num.natAbs, zg q.den]
theorem zIZ (n : Nat) : zA1 (n : Int) = .agg [.bool false, zg n] := by
 unfold zA1
 rw [show decide ((n : Int) < 0) = false from decide_eq_false (by omega), Int.natAbs_natCast]
theorem bne_iff {x y z : Int} (h : z < 0 ↔ x ≠ 0 ∧ ((x < 0 ∧ ¬ y < 0) ∨ (¬ x < 0 ∧ y < 0))) (hz : x = 0 → z = 0) : zEj (!(decide (x < 0) == decide (y < 0))) z.natAbs = z := by
 unfold zEj
 by_cases h1 : x < 0 <;> by_cases h2 : y < 0
 ·simp [h1, h2]; have : ¬ z < 0 := fun q => by have := h.1 q; omega
  omega
 ·simp [h1, h2]; have : z < 0 := h.2 (by omega)
  omega
 ·simp [h1, h2]
  rcases Int.lt_or_le z 0 with q | q
  ·omega
  ·have : x = 0 := by
    rcases Int.lt_trichotomy x 0 with w | w | w
    ·exact absurd w h1
    ·exact w
    ·exact absurd (h.2 ⟨by omega, .inr ⟨h1, h2⟩⟩) (by omega)
   have := hz this
   omega
 ·simp [h1, h2]; have : ¬ z < 0 := fun q => by have := h.1 q; omega
  omega
theorem gcd_len {a b k : Nat} (ha : (zR a).length ≤ k) (hb : (zR b).length ≤ k) : (zR (Nat.gcd a b)).length ≤ k := by
 rcases Nat.eq_zero_or_pos a with h | h
 ·subst h; rw [Nat.gcd_zero_left]; exact hb
 ·exact zFM (Nat.gcd_le_left b h) ha
theorem zHJ (n d : Int) (hd : d ≠ 0) (hn : (zR n.natAbs).length ≤ 1000000) (hdl : (zR d.natAbs).length ≤ 1000000) : zV Tryz.prog 166 [zA1 n, zA1 d] (qA (Rat.divInt n d)) := by
 obtain ⟨e1, e2, e3⟩ := zGB n d hd
 have hg := zOp n.natAbs d.natAbs hn hdl
 have hgl := gcd_len hn hdl
 have hgp : 0 < Nat.gcd n.natAbs d.natAbs := Nat.gcd_pos_of_pos_right _ (by omega)
 have h1 := zI5 n.natAbs _ hgp hn hgl
 have h2 := zI5 d.natAbs _ hgp hdl hgl
 have h3 := zFL (!(decide (n < 0) == decide (d < 0))) (Rat.divInt n d).num.natAbs
 rw [bne_iff e3 (fun h0 => by rw [h0, Rat.zero_divInt]; rfl)] at h3
 rw [← e1] at h1
 rw [← e2] at h2
 refine zT.value0 (zE (P := Tryz.prog) (fn := Tryz.f166) Z Z (by kernel_rfl) Z (fun c hR hfix => ?_)) (fix := fun _ => False) (fun _ h => h) Z Z
 refine rn6 ?_
 refine zB Z Z Z hg ?_
 refine rn5 ?_
 refine zB Z Z Z h1 ?_
 refine rn5 ?_
 refine zB Z Z Z h2 ?_
 repeat (first | refine zF (zJ rfl) ?_ | refine zF (zl rfl) ?_ | refine zQ ?_ | refine zI ?_ | refine zx ?_ | refine zd rfl ?_ | refine zF (zX rfl rfl rfl rfl rfl) ?_ | refine zF (zBp rfl rfl) ?_ | refine zF (zH rfl rfl rfl rfl rfl rfl) ?_ | refine zF (zJG rfl rfl rfl) ?_)
 refine zB Z Z Z h3 ?_
 refine rn8 ?_
 refine sa1 (c' := .box [.bool (decide ((Rat.divInt n d).num < 0)), zg (Rat.divInt n d).num.natAbs, zg (Rat.divInt n d).den]) Z Z Z Z Z Z Z ?_
 refine rn0 ?_
 exact zL hR Z Z
def Sz (k : Nat) (q : Rat) : Prop := (zR q.num.natAbs).length ≤ k ∧ (zR q.den).length ≤ k
theorem zDh {x y : Int} {k : Nat} (hx : (zR x.natAbs).length ≤ k) (hy : (zR y.natAbs).length ≤ k) : (zR (x * y).natAbs).length ≤ k + k := by
 rw [Int.natAbs_mul]; exact zJq hx hy
theorem zNM {x y : Int} {k : Nat} (hx : (zR x.natAbs).length ≤ k) (hy : (zR y.natAbs).length ≤ k) : (zR (x + y).natAbs).length ≤ k + 1 :=
 zFM (Int.natAbs_add_le x y) (len_add hx hy)
theorem den_ne (q : Rat) : (q.den : Int) ≠ 0 := by have := q.den_nz; omega
theorem zJu (p q : Rat) (hp : Sz 100000 p) (hq : Sz 100000 q) : zV Tryz.prog 148 [qA p, qA q] (qA (p + q)) := by
 have l1 : (zR (q.den : Int).natAbs).length ≤ 100000 := hq.2
 have l2 : (zR (p.den : Int).natAbs).length ≤ 100000 := hp.2
 have h1 := zCS p.num q.den (by have := hp.1; omega) (by omega)
 have h2 := zCS q.num p.den (by have := hq.1; omega) (by omega)
 have m1 := zDh hp.1 l1
 have m2 := zDh hq.1 l2
 have h3 := zMQ (p.num * q.den) (q.num * p.den) (by omega) (by omega)
 have h4 := zMW p.den q.den (by have := hp.2; omega) (by have := hq.2; omega)
 have m3 := zNM m1 m2
 have m4 := zJq hp.2 hq.2
 have h5 := zHJ (p.num * q.den + q.num * p.den) ((p.den * q.den : Nat) : Int) (by have := Nat.mul_ne_zero p.den_nz q.den_nz; omega) (by omega) (by rw [Int.natAbs_natCast]; omega)
 rw [zIZ, zJ3] at h5
 rw [zIZ] at h1 h2
 refine zT.value0 (zE (P := Tryz.prog) (fn := Tryz.f148) Z Z (by kernel_rfl) Z (fun c hR hfix => ?_)) (fix := fun _ => False) (fun _ h => h) Z Z
 refine rn6 ?_
 refine zh (by kernel_rfl) ?_
 refine zp (fuel := 1) [0, 1, 2, 3, 4, 5, 6, 7, 8, 9, 10, 11, 12, 13, 14, 15, 16, 17, 18, 19] [(2, .ptr 0 0 0), (3, .ptr 1 0 0), (4, .ptr 2 0 0)] ⟨Z, Z, Z, trivial⟩ (by kernel_rfl) (by decide) Z Z ?_
 refine zN Z Z (zH Z Z Z Z Z Z) ?_
 refine zN Z Z (qpp Z Z Z Z Z Z Z) ?_
 refine zN Z Z (zH Z Z Z Z Z Z) ?_
 refine zN Z Z (zX Z Z Z Z Z) ?_
 refine zN Z Z (zBI Z Z Z Z Z Z) ?_
 refine zA5 Z Z Z Z Z h1 ?_
 refine zN Z Z (zH Z Z Z Z Z Z) ?_
 refine zN Z Z (qpp Z Z Z Z Z Z Z) ?_
 refine zN Z Z (zH Z Z Z Z Z Z) ?_
 refine zN Z Z (zX Z Z Z Z Z) ?_
 refine zN Z Z (zBI Z Z Z Z Z Z) ?_
 refine zA5 Z Z Z Z Z h2 ?_
 refine zA5 Z Z Z Z Z h3 ?_
 refine zN Z Z (zH Z Z Z Z Z Z) ?_
 refine zN Z Z (zX Z Z Z Z Z) ?_
 refine zN Z Z (zH Z Z Z Z Z Z) ?_
 refine zN Z Z (zX Z Z Z Z Z) ?_
 refine zA5 Z Z Z Z Z h4 ?_
 refine zN Z Z (zBI Z Z Z Z Z Z) ?_
 refine zA5 Z Z Z Z Z h5 ?_
 refine z7 ?_
 refine zG (is := [20]) (by kernel_rfl) (by simp) Z ⟨fun o ho => ?_, trivial⟩
 all_goals (cases ho)
 skip
 unfold qA
 refine sa1 (c' := .box [.bool (decide ((p + q).num < 0)), zg (p + q).num.natAbs, zg (p + q).den]) Z Z Z Z Z Z Z ?_
 refine rn1 ?_
 refine zW (by kernel_rfl) ?_
 refine rn0 ?_
 exact zL hR Z Z
theorem zP8 (p q : Rat) (hp : Sz 100000 p) (hq : Sz 100000 q) : zV Tryz.prog 127 [qA p, qA q] (qA (p * q)) := by
 have h1 := zCS p.num q.num (by have := hp.1; omega) (by have := hq.1; omega)
 have m1 := zDh hp.1 hq.1
 have h4 := zMW p.den q.den (by have := hp.2; omega) (by have := hq.2; omega)
 have m4 := zJq hp.2 hq.2
 have h5 := zHJ (p.num * q.num) ((p.den * q.den : Nat) : Int) (by have := Nat.mul_ne_zero p.den_nz q.den_nz; omega) (by omega) (by rw [Int.natAbs_natCast]; omega)
 rw [zIZ, zNV] at h5
 refine zT.value0 (zE (P := Tryz.prog) (fn := Tryz.f127) Z Z (by kernel_rfl) Z (fun c hR hfix => ?_)) (fix := fun _ => False) (fun _ h => h) Z Z
 refine rn6 ?_
 refine zh (by kernel_rfl) ?_
 refine zp (fuel := 1) [0, 1, 2, 3, 4, 5, 6, 7, 8, 9, 10, 11] [(2, .ptr 0 0 0), (3, .ptr 1 0 0), (4, .ptr 2 0 0)] ⟨Z, Z, Z, trivial⟩ (by kernel_rfl) (by decide) Z Z ?_
 refine zN Z Z (zH Z Z Z Z Z Z) ?_
 refine zN Z Z (qpp Z Z Z Z Z Z Z) ?_
 refine zN Z Z (zH Z Z Z Z Z Z) ?_
 refine zN Z Z (qpp Z Z Z Z Z Z Z) ?_
 refine zA5 Z Z Z Z Z h1 ?_
 refine zN Z Z (zH Z Z Z Z Z Z) ?_
 refine zN Z Z (zX Z Z Z Z Z) ?_
 refine zN Z Z (zH Z Z Z Z Z Z) ?_
 refine zN Z Z (zX Z Z Z Z Z) ?_
 refine zA5 Z Z Z Z Z h4 ?_
 refine zN Z Z (zBI Z Z Z Z Z Z) ?_
 refine zA5 Z Z Z Z Z h5 ?_
 refine z7 ?_
 refine zG (is := [12]) (by kernel_rfl) (by simp) Z ⟨fun o ho => ?_, trivial⟩
 all_goals (cases ho)
 skip
 unfold qA
 refine sa1 (c' := .box [.bool (decide ((p * q).num < 0)), zg (p * q).num.natAbs, zg (p * q).den]) Z Z Z Z Z Z Z ?_
 refine rn1 ?_
 refine zW (by kernel_rfl) ?_
 refine rn0 ?_
 exact zL hR Z Z
theorem zMf (p q : Rat) (hp : Sz 100000 p) (hq : Sz 100000 q) (h0 : q ≠ 0) : zV Tryz.prog 149 [qA p, qA q] (qA (p / q)) := by
 have l1 : (zR (q.den : Int).natAbs).length ≤ 100000 := hq.2
 have l2 : (zR (p.den : Int).natAbs).length ≤ 100000 := hp.2
 have h1 := zCS p.num q.den (by have := hp.1; omega) (by omega)
 have h2 := zCS q.num p.den (by have := hq.1; omega) (by omega)
 have m1 := zDh hp.1 l1
 have m2 := zDh hq.1 l2
 have hn : q.num ≠ 0 := fun h => h0 (Rat.num_eq_zero.1 h)
 have h5 := zHJ (p.num * q.den) (q.num * p.den) (Int.mul_ne_zero hn (den_ne p)) (by omega) (by omega)
 rw [zNC p q h0] at h5
 rw [zIZ] at h1 h2
 refine zT.value0 (zE (P := Tryz.prog) (fn := Tryz.f149) Z Z (by kernel_rfl) Z (fun c hR hfix => ?_)) (fix := fun _ => False) (fun _ h => h) Z Z
 refine rn6 ?_
 refine zh (by kernel_rfl) ?_
 refine zp (fuel := 1) [0, 1, 2, 3, 4, 5, 6, 7, 8, 9, 10, 11, 12] [(2, .ptr 0 0 0), (3, .ptr 1 0 0), (4, .ptr 2 0 0)] ⟨Z, Z, Z, trivial⟩ (by kernel_rfl) (by decide) Z Z ?_
 refine zN Z Z (zH Z Z Z Z Z Z) ?_
 refine zN Z Z (qpp Z Z Z Z Z Z Z) ?_
 refine zN Z Z (zH Z Z Z Z Z Z) ?_
 refine zN Z Z (zX Z Z Z Z Z) ?_
 refine zN Z Z (zBI Z Z Z Z Z Z) ?_
 refine zA5 Z Z Z Z Z h1 ?_
 refine zN Z Z (zH Z Z Z Z Z Z) ?_
 refine zN Z Z (qpp Z Z Z Z Z Z Z) ?_
 refine zN Z Z (zH Z Z Z Z Z Z) ?_
 refine zN Z Z (zX Z Z Z Z Z) ?_
 refine zN Z Z (zBI Z Z Z Z Z Z) ?_
 refine zA5 Z Z Z Z Z h2 ?_
 refine zA5 Z Z Z Z Z h5 ?_
 refine z7 ?_
 refine zG (is := [13]) (by kernel_rfl) (by simp) Z ⟨fun o ho => ?_, trivial⟩
 all_goals (cases ho)
 skip
 unfold qA
 refine sa1 (c' := .box [.bool (decide ((p / q).num < 0)), zg (p / q).num.natAbs, zg (p / q).den]) Z Z Z Z Z Z Z ?_
 refine rn1 ?_
 refine zW (by kernel_rfl) ?_
 refine rn0 ?_
 exact zL hR Z Z
theorem zGM (p q : Rat) (hp : Sz 100000 p) (hq : Sz 100000 q) : zV Tryz.prog 71 [qA p, qA q] (.int .i64 (zCn p q)) := by
 have l1 : (zR (q.den : Int).natAbs).length ≤ 100000 := hq.2
 have l2 : (zR (p.den : Int).natAbs).length ≤ 100000 := hp.2
 have h1 := zCS p.num q.den (by have := hp.1; omega) (by omega)
 have h2 := zCS q.num p.den (by have := hq.1; omega) (by omega)
 have m1 := zDh hp.1 l1
 have m2 := zDh hq.1 l2
 have h5 := zPs (p.num * q.den) (q.num * p.den) (by omega) (by omega)
 rw [sgn_cmp p q] at h5
 rw [zIZ] at h1 h2
 refine zT.value0 (zE (P := Tryz.prog) (fn := Tryz.f71) Z Z (by kernel_rfl) Z (fun c hR hfix => ?_)) (fix := fun _ => False) (fun _ h => h) Z Z
 refine rn6 ?_
 refine zh (by kernel_rfl) ?_
 refine zp (fuel := 0) [0, 1, 2, 3, 4, 5, 6, 7, 8, 9, 10, 11, 12, 13] [(2, .ptr 0 0 0), (3, .ptr 1 0 0)] ⟨Z, Z, trivial⟩ (by kernel_rfl) (by decide) Z Z ?_
 refine zN Z Z (zH Z Z Z Z Z Z) ?_
 refine zN Z Z (qpp Z Z Z Z Z Z Z) ?_
 refine zN Z Z (zH Z Z Z Z Z Z) ?_
 refine zN Z Z (zX Z Z Z Z Z) ?_
 refine zN Z Z (zBI Z Z Z Z Z Z) ?_
 refine zA5 Z Z Z Z Z h1 ?_
 refine zN Z Z (zH Z Z Z Z Z Z) ?_
 refine zN Z Z (qpp Z Z Z Z Z Z Z) ?_
 refine zN Z Z (zH Z Z Z Z Z Z) ?_
 refine zN Z Z (zX Z Z Z Z Z) ?_
 refine zN Z Z (zBI Z Z Z Z Z Z) ?_
 refine zA5 Z Z Z Z Z h2 ?_
 refine zA5 Z Z Z Z Z h5 ?_
 refine zN Z Z (zl Z) ?_
 refine z7 ?_
 refine zW (by kernel_rfl) ?_
 refine rn0 ?_
 exact zL hR Z Z
theorem zKc (p : Rat) : zV Tryz.prog 76 [qA p] (.int .i64 (sgn p.num)) := by
 have h1 := zEG p.num
 refine zT.value0 (zE (P := Tryz.prog) (fn := Tryz.f76) Z Z (by kernel_rfl) Z (fun c hR hfix => ?_)) (fix := fun _ => False) (fun _ h => h) Z Z
 refine rn6 ?_
 refine zB Z Z Z h1 ?_
 refine rn0 ?_
 exact zL hR Z Z
theorem qopp_ok (p : Rat) : zV Tryz.prog 85 [qA p] (qA (-p)) := by
 have h1 := zGC p.num
 refine zT.value0 (zE (P := Tryz.prog) (fn := Tryz.f85) Z Z (by kernel_rfl) Z (fun c hR hfix => ?_)) (fix := fun _ => False) (fun _ h => h) Z Z
 refine rn6 ?_
 refine zh (by kernel_rfl) ?_
 refine zp (fuel := 1) [0, 1, 2, 3, 4, 5] [(1, .ptr 0 0 0), (2, .ptr 1 0 0)] ⟨Z, Z, trivial⟩ (by kernel_rfl) (by decide) Z Z ?_
 refine zN Z Z (zH Z Z Z Z Z Z) ?_
 refine zN Z Z (qpp Z Z Z Z Z Z Z) ?_
 refine zA5 Z Z Z Z Z h1 ?_
 refine zN Z Z (zH Z Z Z Z Z Z) ?_
 refine zN Z Z (zX Z Z Z Z Z) ?_
 refine zN Z Z (zBI Z Z Z Z Z Z) ?_
 refine z7 ?_
 refine zG (is := [6]) (by kernel_rfl) (by simp) Z ⟨fun o ho => ?_, trivial⟩
 all_goals (cases ho)
 skip
 refine sa1 (c' := .box [.bool (decide ((-p).num < 0)), zg (-p).num.natAbs, zg (-p).den]) Z Z Z Z Z Z Z ?_
 refine rn1 ?_
 refine zW (by kernel_rfl) ?_
 refine rn0 ?_
 exact zL hR Z Z
theorem sz_neg {k : Nat} {q : Rat} (h : Sz k q) : Sz k (-q) := by
 refine ⟨?_, h.2⟩
 show (zR (-q.num).natAbs).length ≤ k
 rw [Int.natAbs_neg]; exact h.1
theorem zP9 (p q : Rat) (hp : Sz 100000 p) (hq : Sz 100000 q) : zV Tryz.prog 147 [qA p, qA q] (qA (p - q)) := by
 have h1 := qopp_ok q
 have h2 := zJu p (-q) hp (sz_neg hq)
 rw [← Rat.sub_eq_add_neg] at h2
 refine zT.value0 (zE (P := Tryz.prog) (fn := Tryz.f147) Z Z (by kernel_rfl) Z (fun c hR hfix => ?_)) (fix := fun _ => False) (fun _ h => h) Z Z
 refine rn6 ?_
 refine zh (by kernel_rfl) ?_
 refine zp (fuel := 1) [0, 1, 2, 3] [(2, .ptr 0 0 0), (3, .ptr 1 0 0), (4, .ptr 2 0 0)] ⟨Z, Z, Z, trivial⟩ (by kernel_rfl) (by decide) Z Z ?_
 refine zN Z Z (qpp Z Z Z Z Z Z Z) ?_
 refine zN Z Z (qpp Z Z Z Z Z Z Z) ?_
 refine zA5 Z Z Z Z Z h1 ?_
 refine zA5 Z Z Z Z Z h2 ?_
 refine z7 ?_
 refine zG (is := [4]) (by kernel_rfl) (by simp) Z ⟨fun o ho => ?_, trivial⟩
 all_goals (cases ho)
 skip
 unfold qA
 refine sa1 (c' := .box [.bool (decide ((p - q).num < 0)), zg (p - q).num.natAbs, zg (p - q).den]) Z Z Z Z Z Z Z ?_
 refine rn1 ?_
 refine zW (by kernel_rfl) ?_
 refine rn0 ?_
 exact zL hR Z Z
end Go.Proofs.YtkncmbklkhjmgaaGreatDoor
namespace Go.Proofs.YtkncmbklkhjmgaaGreatDoor
open Go.Ax Go.Ax.Bg Go.Ax.Rt Go.RowKit
attribute [local irreducible] Ax zBk QOp zT zBR
open Go.Ax.Tb (zDA zJ9)
theorem zNW : zg 1 = .ro (.ints .u32 [1]) 0 1 := by unfold zg; rw [zGs]; rfl
theorem qA_int (z : Int) : qA (z : Rat) = .agg [.bool (decide (z < 0)), zg z.natAbs, zg 1] := rfl
theorem qof_ok (n : Int) (h : -9223372036854775808 ≤ n ∧ n < 9223372036854775808) : zV Tryz.prog 140 [.int .i64 n] (qA (n : Rat)) := by
 have h1 := zK6 n h
 refine zT.value0 (zE (P := Tryz.prog) (fn := Tryz.f140) Z Z (by kernel_rfl) Z (fun c hR hfix => ?_)) (fix := fun _ => False) (fun _ h => h) Z Z
 refine rn4 ?_
 refine zB Z Z Z h1 ?_
 unfold zA1
 refine rn8 ?_
 refine sa1 (c' := .box [.bool (decide (n < 0)), zg n.natAbs, .ro (.ints .u32 [1]) 0 1]) Z Z Z Z Z Z Z ?_
 refine rn0 ?_
 refine zL hR Z ?_
 rw [qA_int, zNW]
 rfl
theorem zOr (s : List UInt8) (b : Int) : zV Tryz.prog 258 [.str s, .int .u8 b] (.int .i64 (Lib.indexByte s b.toNat.toUInt8)) := by
 refine zT.value0 (zE (P := Tryz.prog) (fn := Tryz.f258) Z Z (by kernel_rfl) Z (fun c hR hfix => ?_)) (fix := fun _ => False) (fun _ h => h) Z Z
 refine rn0 ?_
 refine zF (zNm Z Z Z Z (by kernel_rfl) (by kernel_rfl) (by kernel_rfl) (by kernel_rfl)) ?_
 refine rn0 ?_
 exact zL hR Z Z
theorem indexI1 (s : List UInt8) (b : UInt8) : zV Tryz.prog 213 [.str s, .str [b]] (.int .i64 (Lib.indexByte s b)) := by
 refine zT.value0 (zE (P := Tryz.prog) (fn := Tryz.f213) Z Z (by kernel_rfl) Z (fun c hR hfix => ?_)) (fix := fun _ => False) (fun _ h => h) Z Z
 refine rn6 ?_
 refine zA Z (fun h => ?_) (fun h => ?_)
 ·refine rn6 ?_
  refine zL hR Z ?_
  subst h
  simp [zBt, Lib.indexByte]
 refine rn12 ?_
 refine zB Z Z Z (zOr s b.toNat) ?_
 refine rn6 ?_
 refine zL hR Z ?_
 simp [zBt]
theorem zMR (l : List UInt8) (b : UInt8) : Lib.indexByte l b < l.length := by
 induction l with
 | nil => simp [Lib.indexByte]
 | cons c r ih =>
  rw [Lib.indexByte]
  simp only [List.length_cons]
  split
  ·omega
  ·split
   ·omega
   ·omega
theorem cutI (s : List UInt8) (b : UInt8) (h : s.length ≤ 9223372036854775807) : zV Tryz.prog 159 [.str s, .str [b]] (.tup [.str (zDA b s).1, .str (zDA b s).2.1, .bool (zDA b s).2.2]) := by
 have hc := zJ9 b s
 have hlt := zMR s b
 have hge := Lib.indexByte_ge s b
 have ci := indexI1 s b
 refine zT.value0 (zE (P := Tryz.prog) (fn := Tryz.f159) Z Z (by kernel_rfl) Z (fun c hR hfix => ?_)) (fix := fun _ => False) (fun _ h => h) Z Z
 generalize Lib.indexByte s b = i at *
 refine rn0 ?_
 refine zB Z Z Z ci ?_
 refine rn7 ?_
 refine zA Z (fun h0 => ?_) (fun h0 => ?_)
 ·rw [if_pos h0] at hc
  rw [hc] at hR
  have hb1 : ([b] : List UInt8).length = 1 := rfl
  have hi1 : (i + 1).toNat = i.toNat + 1 := by omega
  repeat (refine zx ?_)
  refine zDs (by kernel_rfl) (by kernel_rfl) Z ?_
  refine rn16 ?_
  refine zL hR Z ?_
  simp [zBt, hi1]
  exact List.take_of_length_le (by simp)
 ·rw [if_neg h0] at hc
  rw [hc] at hR
  refine rn1 ?_
  exact zL hR Z Z
theorem cutS (s : List UInt8) (b : UInt8) (h : s.length ≤ 9223372036854775807) : zV Tryz.prog 78 [.str s, .str [b]] (.tup [.str (zDA b s).1, .str (zDA b s).2.1, .bool (zDA b s).2.2]) := by
 have ci := cutI s b h
 refine zT.value0 (zE (P := Tryz.prog) (fn := Tryz.f78) Z Z (by kernel_rfl) Z (fun c hR hfix => ?_)) (fix := fun _ => False) (fun _ h => h) Z Z
 generalize zDA b s = q at *
 refine rn0 ?_
 refine zB Z Z Z ci ?_
 refine rn2 ?_
 exact zL hR Z Z
theorem cutP1 (s p : List UInt8) (hs : s.length ≤ 9223372036854775807) (hp : p.length ≤ 9223372036854775807) : zV Tryz.prog 158 [.str s, .str p] (.tup [.str (if zIf s p then s.drop p.length else s), .bool (zIf s p)]) := by
 have h1 := zP6 s p hs hp
 refine zT.value0 (zE (P := Tryz.prog) (fn := Tryz.f158) Z Z (by kernel_rfl) Z (fun c hR hfix => ?_)) (fix := fun _ => False) (fun _ h => h) Z Z
 by_cases h : zIf s p = true
 ·have hle : p.length ≤ s.length := by unfold zIf at h; exact (of_decide_eq_true h).1
  rw [h] at h1 hR
  refine rn0 ?_
  refine zB Z Z Z h1 ?_
  refine rn16 ?_
  refine zL hR Z ?_
  simp only [zBt, Int.toNat_natCast]
  rw [List.take_of_length_le (by simp)]
  rfl
 ·rw [Bool.not_eq_true] at h
  rw [h] at h1 hR
  refine rn0 ?_
  refine zB Z Z Z h1 ?_
  refine rn5 ?_
  exact zL hR Z Z
theorem cutP (s p : List UInt8) (hs : s.length ≤ 9223372036854775807) (hp : p.length ≤ 9223372036854775807) : zV Tryz.prog 77 [.str s, .str p] (.tup [.str (if zIf s p then s.drop p.length else s), .bool (zIf s p)]) := by
 have h1 := cutP1 s p hs hp
 refine zT.value0 (zE (P := Tryz.prog) (fn := Tryz.f77) Z Z (by kernel_rfl) Z (fun c hR hfix => ?_)) (fix := fun _ => False) (fun _ h => h) Z Z
 generalize zIf s p = b at *
 refine rn0 ?_
 refine zB Z Z Z h1 ?_
 refine rn2 ?_
 exact zL hR Z Z
end Go.Proofs.YtkncmbklkhjmgaaGreatDoor
namespace Go.Proofs.YtkncmbklkhjmgaaGreatDoor
open Go.Ax Go.Ax.Bg Go.Ax.Rt Go.RowKit
attribute [local irreducible] Ax zBk QOp zT zBR
open Go.Ax.Tb (zDA zJ9 zM6)
theorem zP5 (s : List UInt8) : zIf s [45] = zDZ s := by
 unfold zIf zDZ
 cases s with
 | nil => rfl
 | cons c r => simp
theorem zM0 (s : List UInt8) : (zEV s).length ≤ s.length := by
 unfold zEV; split
 ·simp
 ·exact Nat.le_refl _
theorem zQ6 (s : List UInt8) : (zEQ s).length ≤ s.length ∧ (zEP s).length ≤ s.length := by
 have h := zM6 47 (zEV s)
 have h2 := zM0 s
 unfold zEQ zEP
 omega
theorem cutNeg (s : List UInt8) (hs : s.length ≤ 9223372036854775807) : zV Tryz.prog 77 [.str s, .str [45]] (.tup [.str (zEV s), .bool (zDZ s)]) := by
 have h := cutP s [45] hs (by decide)
 rw [zP5] at h
 exact h
theorem cutBar (s : List UInt8) (hs : s.length ≤ 9223372036854775807) : zV Tryz.prog 78 [.str (zEV s), .str [47]] (.tup [.str (zEQ s), .str (zEP s), .bool (zGZ s)]) :=
 cutS (zEV s) 47 (Nat.le_trans (zM0 s) hs)
theorem zId (s : List UInt8) (hs : s.length ≤ 9223372036854775807) (h : zER s = 0) : zV Tryz.prog 70 [.str s] (qA (zAI s)) := by
 have hp := zFx h
 have h1 := cutNeg s (by omega)
 have h2 := cutBar s hs
 have h3 := zJv (zEQ s) hp.cn.2.1 (by have := hp.ln; omega)
 have h4 := zFL (zDZ s) (zAy 0 (zEQ s))
 rw [← hp.num] at h4
 unfold qA
 rw [hp.den]
 cases e : zGZ s
 ·rw [e] at h2
  rw [zHE e, zNW]
  refine zT.value0 (zE (P := Tryz.prog) (fn := Tryz.f70) Z Z (by kernel_rfl) Z (fun c hR hfix => ?_)) (fix := fun _ => False) (fun _ h => h) Z Z
  refine rn4 ?_
  refine zB Z Z Z h1 ?_
  refine rn2 ?_
  refine zB Z Z Z h2 ?_
  refine rn2 ?_
  refine zB Z Z Z h3 ?_
  skip
  refine zB Z Z Z h4 ?_
  unfold zA1
  refine rn8 ?_
  refine sa1 (c' := .box [.bool (decide ((zAI s).num < 0)), zg (zAI s).num.natAbs, .ro (.ints .u32 [1]) 0 1]) Z Z Z Z Z Z Z ?_
  refine rn6 ?_
  refine sa1 (c' := .box [.bool (decide ((zAI s).num < 0)), zg (zAI s).num.natAbs, .ro (.ints .u32 [1]) 0 1]) Z Z Z Z Z Z Z ?_
  refine rn0 ?_
  exact zL hR Z Z
 ·rw [e] at h2
  rw [zFk e]
  have h5 := zJv (zEP s) (hp.cd e).1.2.1 (by have := hp.ld; omega)
  refine zT.value0 (zE (P := Tryz.prog) (fn := Tryz.f70) Z Z (by kernel_rfl) Z (fun c hR hfix => ?_)) (fix := fun _ => False) (fun _ h => h) Z Z
  refine rn4 ?_
  refine zB Z Z Z h1 ?_
  refine rn2 ?_
  refine zB Z Z Z h2 ?_
  refine rn2 ?_
  refine zB Z Z Z h3 ?_
  skip
  refine zB Z Z Z h4 ?_
  unfold zA1
  refine rn8 ?_
  refine sa1 (c' := .box [.bool (decide ((zAI s).num < 0)), zg (zAI s).num.natAbs, .ro (.ints .u32 [1]) 0 1]) Z Z Z Z Z Z Z ?_
  refine rn5 ?_
  refine zB Z Z Z h5 ?_
  refine rn9 ?_
  refine sa1 (c' := .box [.bool (decide ((zAI s).num < 0)), zg (zAI s).num.natAbs, zg (zAy 0 (zEP s))]) Z Z Z Z Z Z Z ?_
  refine rn0 ?_
  exact zL hR Z Z
theorem qtext_ok (q : Rat) (hq : Sz 100000 q) : zV Tryz.prog 152 [qA q] (.str (zr q)) := by
 have h1 := zJ0 q.num.natAbs (by have := hq.1; omega)
 have h2 := one_ok q.den
 have h3 := zJ0 q.den (by have := hq.2; omega)
 unfold zr
 have l1 := zDe hq.1 (by decide)
 have l2 := zDe hq.2 (by decide)
 refine zT.value0 (zE (P := Tryz.prog) (fn := Tryz.f152) Z Z (by kernel_rfl) Z (fun c hR hfix => ?_)) (fix := fun _ => False) (fun _ h => h) Z Z
 by_cases hn : q.num < 0 <;> by_cases hd : q.den = 1
 ·rw [if_pos hn, if_pos hd] at hR
  rw [decide_eq_true hd] at h2
  unfold qA
  rw [decide_eq_true hn]
  refine rn6 ?_
  refine zB Z Z Z h1 ?_
  refine rn5 ?_
  refine zF (zE6 Z Z (by show ([45] : List UInt8).length + _ ≤ _; simp only [List.length_cons, List.length_nil, List.length_append]; omega)) ?_
  refine rn5 ?_
  refine zB Z Z Z h2 ?_
  refine rn5 ?_
  refine zL hR Z ?_
  simp [zBt]
 ·rw [if_pos hn, if_neg hd] at hR
  rw [decide_eq_false hd] at h2
  unfold qA
  rw [decide_eq_true hn]
  refine rn6 ?_
  refine zB Z Z Z h1 ?_
  refine rn5 ?_
  refine zF (zE6 Z Z (by show ([45] : List UInt8).length + _ ≤ _; simp only [List.length_cons, List.length_nil, List.length_append]; omega)) ?_
  refine rn5 ?_
  refine zB Z Z Z h2 ?_
  refine rn5 ?_
  refine zB Z Z Z h3 ?_
  skip
  refine zF (zE6 Z Z (by show ([47] : List UInt8).length + _ ≤ _; simp only [List.length_cons, List.length_nil, List.length_append]; omega)) ?_
  refine zF (zE6 (b := 47 :: Lib.decDigits q.den) Z Z (by simp only [List.length_cons, List.length_nil, List.length_append]; omega)) ?_
  refine rn0 ?_
  refine zL hR Z ?_
  simp [zBt]
 ·rw [if_neg hn, if_pos hd] at hR
  rw [decide_eq_true hd] at h2
  unfold qA
  rw [decide_eq_false hn]
  refine rn6 ?_
  refine zB Z Z Z h1 ?_
  refine rn5 ?_
  refine zB Z Z Z h2 ?_
  refine rn5 ?_
  refine zL hR Z ?_
  simp [zBt]
 ·rw [if_neg hn, if_neg hd] at hR
  rw [decide_eq_false hd] at h2
  unfold qA
  rw [decide_eq_false hn]
  refine rn6 ?_
  refine zB Z Z Z h1 ?_
  refine rn5 ?_
  refine zB Z Z Z h2 ?_
  refine rn5 ?_
  refine zB Z Z Z h3 ?_
  skip
  refine zF (zE6 Z Z (by show ([47] : List UInt8).length + _ ≤ _; simp only [List.length_cons, List.length_nil, List.length_append]; omega)) ?_
  refine zF (zE6 (b := 47 :: Lib.decDigits q.den) Z Z (by simp only [List.length_cons, List.length_nil, List.length_append]; omega)) ?_
  refine rn0 ?_
  refine zL hR Z ?_
  simp [zBt]
end Go.Proofs.YtkncmbklkhjmgaaGreatDoor
namespace Go.Proofs.YtkncmbklkhjmgaaGreatDoor
open Go.Ax Go.Ax.Bg Go.Ax.Rt Go.RowKit
attribute [local irreducible] Ax zBk QOp zT zBR
theorem zPU {n k m : Nat} (h : k < (zR n).length) (hm : m ≤ 9 * k) : m < (Lib.decDigits n).length := by
 rcases Nat.lt_or_ge m (Lib.decDigits n).length with q | q
 ·exact q
 exfalso
 have h1 := zEn n
 have h2 : 10 ^ (Lib.decDigits n).length ≤ 10 ^ (9 * k) := Nat.pow_le_pow_right (by decide) (by omega)
 have h3 : 10 ^ (9 * k) ≤ B ^ k := by rw [Nat.pow_mul]; exact Nat.pow_le_pow_left (by decide) k
 have h4 : ¬ n < B ^ k := fun h5 => by have := zAd h5; omega
 omega
theorem zMO (q : Rat) (hq : Sz 100000 q) : zV Tryz.prog 151 [qA q, .int .i64 2000] (.bool (zBx q)) := by
 have h1 := zJ0 q.num.natAbs (by have := hq.1; omega)
 have h3 := zJ0 q.den (by have := hq.2; omega)
 have l1 := zDe hq.1 (by decide)
 have l2 := zDe hq.2 (by decide)
 have g1 := hq.1
 have g2 := hq.2
 have b1 := @zPU q.num.natAbs 224 2000
 have b2 := @zPU q.den 224 2000
 unfold zBx
 refine zT.value0 (zE (P := Tryz.prog) (fn := Tryz.f151) Z Z (by kernel_rfl) Z (fun c hR hfix => ?_)) (fix := fun _ => False) (fun _ h => h) Z Z
 unfold qA
 unfold zg at h1 h3 ⊢
 refine rn15 ?_
 refine zA Z (fun h0 => ?_) (fun h0 => ?_)
 ·refine rn2 ?_
  refine zL hR Z ?_
  have h5 : 224 < (zR q.num.natAbs).length ∨ 224 < (zR q.den).length := by
   split at h0 <;> omega
  have h6 : ¬ ((Lib.decDigits q.num.natAbs).length ≤ 2000 ∧ (Lib.decDigits q.den).length ≤ 2000) := by
   rcases h5 with h5 | h5
   ·have := b1 h5 (by decide); omega
   ·have := b2 h5 (by decide); omega
  rw [← Bool.decide_and, decide_eq_false h6]
  rfl
 ·refine rn5 ?_
  refine zB Z Z Z h1 ?_
  refine rn8 ?_
  refine zAe Z Z (fun h5 => ?_) (fun h5 => ?_)
  ·refine rn5 ?_
   refine zB Z Z Z h3 ?_
   refine rn8 ?_
   refine zL hR Z ?_
   rw [show decide ((Lib.decDigits q.num.natAbs).length ≤ 2000) = true from decide_eq_true (by omega), Bool.true_and]
   show AV.bool _ = AV.bool _
   rw [show decide (((Lib.decDigits q.den).length : Int) ≤ 2000) = decide ((Lib.decDigits q.den).length ≤ 2000) from by rw [decide_eq_decide]; omega]
  ·refine rn6 ?_
   refine zL hR Z ?_
   rw [show decide ((Lib.decDigits q.num.natAbs).length ≤ 2000) = false from decide_eq_false (by omega), Bool.false_and]
   rfl
theorem zMb (q : Rat) (hq : Sz 100000 q) (h : zBx q = true) : zV Tryz.prog 69 [qA q] (.tup [.str (zr q), .int .i64 0]) := by
 have h1 := zMO q hq
 have h2 := qtext_ok q hq
 rw [h] at h1
 refine zT.value0 (zE (P := Tryz.prog) (fn := Tryz.f69) Z Z (by kernel_rfl) Z (fun c hR hfix => ?_)) (fix := fun _ => False) (fun _ h => h) Z Z
 refine rn6 ?_
 refine zB Z Z Z h1 ?_
 refine rn6 ?_
 refine zB Z Z Z h2 ?_
 refine rn0 ?_
 exact zL hR Z Z
theorem out_no (q : Rat) (hq : Sz 100000 q) (h : zBx q = false) : zV Tryz.prog 69 [qA q] (.tup [.str [], .int .i64 2]) := by
 have h1 := zMO q hq
 rw [h] at h1
 refine zT.value0 (zE (P := Tryz.prog) (fn := Tryz.f69) Z Z (by kernel_rfl) Z (fun c hR hfix => ?_)) (fix := fun _ => False) (fun _ h => h) Z Z
 refine rn6 ?_
 refine zB Z Z Z h1 ?_
 refine rn5 ?_
 exact zL hR Z Z
theorem out_ok (q : Rat) (hq : Sz 100000 q) : zV Tryz.prog 69 [qA q] (pairA (outF q)) := by
 unfold outF
 cases h : zBx q
 ·exact out_no q hq h
 ·exact zMb q hq h
theorem zLq (s : List UInt8) (hs : s.length ≤ 9223372036854775807) : zV Tryz.prog 27 [.str s] (.int .i64 (zER s)) := by
 have h1 := cutNeg s (by omega)
 have h2 := cutBar s hs
 obtain ⟨ln, ld⟩ := zQ6 s
 have h3 := zLQ (zEQ s) (by omega)
 have h4 := zLQ (zEP s) (by omega)
 have cn := @zDL (zEQ s)
 have cd := @zDL (zEP s)
 unfold zER
 generalize zEQ s = n at *
 generalize zEP s = d at *
 generalize zGZ s = ok at *
 generalize zDZ s = ng at *
 generalize zEV s = b at *
 generalize zEz n = p at *
 generalize zEz d = q at *
 refine zT.value0 (zE (P := Tryz.prog) (fn := Tryz.f27) Z Z (by kernel_rfl) Z (fun c hR hfix => ?_)) (fix := fun _ => False) (fun _ h => h) Z Z
 refine rn0 ?_
 refine zB Z Z Z h1 ?_
 refine rn2 ?_
 refine zB Z Z Z h2 ?_
 refine zBa ?_
 by_cases hsyn : p = false ∨ (ok = true ∧ q = false) ∨ (ng = true ∧ n = [48])
 ·rw [if_pos hsyn] at hR
  cases p
  ·refine rn0 ?_
   refine zB Z Z Z h3 ?_
   refine rn16 ?_
   exact zL hR Z Z
  ·cases ok
   ·obtain ⟨hng, hn⟩ : ng = true ∧ n = [48] := by simpa using hsyn
    subst hng
    subst hn
    refine rn0 ?_
    refine zB Z Z Z h3 ?_
    refine rn6 ?_
    exact zL hR Z Z
   ·cases q
    ·refine rn0 ?_
     refine zB Z Z Z h3 ?_
     refine rn5 ?_
     refine zB Z Z Z h4 ?_
     refine rn16 ?_
     exact zL hR Z Z
    ·obtain ⟨hng, hn⟩ : ng = true ∧ n = [48] := by simpa using hsyn
     subst hng
     subst hn
     refine rn0 ?_
     refine zB Z Z Z h3 ?_
     refine rn5 ?_
     refine zB Z Z Z h4 ?_
     refine rn6 ?_
     exact zL hR Z Z
 rw [if_neg hsyn] at hR
 apply zAG (H := []) [(5, .str n), (6, .str d), (7, .bool ok)]
 ·intro fin
  cases p
  ·exact absurd (.inl Z) hsyn
  cases ok
  ·cases ng
   ·refine rn0 ?_
    refine zB Z Z Z h3 ?_
    refine zBa ?_
    exact fin _ ⟨Z, Z, Z, trivial⟩
   ·refine rn0 ?_
    refine zB Z Z Z h3 ?_
    refine zBa ?_
    refine zA Z (fun h0 => absurd (.inr (.inr ⟨Z, h0⟩)) hsyn) (fun h0 => ?_)
    refine zBa ?_
    exact fin _ ⟨Z, Z, Z, trivial⟩
  ·cases q
   ·exact absurd (.inr (.inl ⟨Z, Z⟩)) hsyn
   cases ng
   ·refine rn0 ?_
    refine zB Z Z Z h3 ?_
    refine rn5 ?_
    refine zB Z Z Z h4 ?_
    refine zBa ?_
    exact fin _ ⟨Z, Z, Z, trivial⟩
   ·refine rn0 ?_
    refine zB Z Z Z h3 ?_
    refine rn5 ?_
    refine zB Z Z Z h4 ?_
    refine zBa ?_
    refine zA Z (fun h0 => absurd (.inr (.inr ⟨Z, h0⟩)) hsyn) (fun h0 => ?_)
    refine zBa ?_
    exact fin _ ⟨Z, Z, Z, trivial⟩
 by_cases hl : 2000 < n.length ∨ 2000 < d.length
 ·rw [if_pos hl] at hR
  refine rn6 ?_
  refine zAe Z Z (fun h5 => ?_) (fun h5 => ?_)
  ·refine rn6 ?_
   exact zL hR Z Z
  ·refine rn6 ?_
   refine zA Z (fun h0 => ?_) (fun h0 => absurd hl (by omega))
   refine rn2 ?_
   exact zL hR Z Z
 rw [if_neg hl] at hR
 refine rn6 ?_
 refine zAe Z Z (fun h5 => absurd hl (by omega)) (fun h5 => ?_)
 refine rn6 ?_
 refine zA Z (fun h0 => absurd hl (by omega)) (fun h0 => ?_)
 cases ok
 ·rw [if_neg (fun h => Bool.false_ne_true h.1)] at hR
  refine rn14 ?_
  exact zL hR Z Z
 have hp : p = true := by cases p; exact absurd (.inl rfl) hsyn; rfl
 have hq : q = true := by cases q; exact absurd (.inr (.inl ⟨rfl, rfl⟩)) hsyn; rfl
 have c1 := cn.1 hp
 have c2 := cd.1 hq
 have h6 := zJv n c1.2.1 (by omega)
 have h7 := zJv d c2.2.1 (by omega)
 have v1 : (zR (zAy 0 n)).length ≤ 2000 := zJ1 c1 (by omega)
 have v2 : (zR (zAy 0 d)).length ≤ 2000 := zJ1 c2 (by omega)
 have h8 := zOp (zAy 0 n) (zAy 0 d) (by omega) (by omega)
 have h9 := one_ok (Nat.gcd (zAy 0 n) (zAy 0 d))
 refine rn6 ?_
 refine zAe Z Z (fun h10 => ?_) (fun h10 => ?_)
 ·rw [if_pos ⟨rfl, .inl h10⟩] at hR
  refine rn6 ?_
  exact zL hR Z Z
 ·refine rn6 ?_
  refine zAe Z Z (fun h11 => ?_) (fun h11 => ?_)
  ·rw [if_pos ⟨rfl, .inr (.inl h11)⟩] at hR
   refine rn6 ?_
   exact zL hR Z Z
  ·by_cases hg : Nat.gcd (zAy 0 n) (zAy 0 d) = 1
   ·rw [decide_eq_true hg] at h9
    rw [if_neg (fun h => by rcases h.2 with e | e | e; exact h10 e; exact h11 e; exact e hg)] at hR
    refine rn2 ?_
    refine zB Z Z Z h6 ?_
    refine rn2 ?_
    refine zB Z Z Z h7 ?_
    repeat (refine zBD rfl rfl ?_)
    refine zB Z Z Z h8 ?_
    repeat (refine zBD rfl rfl ?_)
    refine zB Z Z Z h9 ?_
    refine rn5 ?_
    exact zL hR Z Z
   ·rw [decide_eq_false hg] at h9
    rw [if_pos ⟨rfl, .inr (.inr hg)⟩] at hR
    refine rn2 ?_
    refine zB Z Z Z h6 ?_
    refine rn2 ?_
    refine zB Z Z Z h7 ?_
    repeat (refine zBD rfl rfl ?_)
    refine zB Z Z Z h8 ?_
    repeat (refine zBD rfl rfl ?_)
    refine zB Z Z Z h9 ?_
    refine rn5 ?_
    exact zL hR Z Z
theorem zEo {α : Type} {l : List α} {d : α} {k : Nat} (h : k < l.length) : l.drop k = l.getD k d :: l.drop (k + 1) := by
 rw [List.drop_eq_getElem_cons h]; simp [List.getD, h]
theorem zJV (l : List (List UInt8)) (hlen : l.length ≤ 9223372036854775807) (hs : ∀ s ∈ l, s.length ≤ 9223372036854775807) : zV Tryz.prog 73 [.ro (.strs l) 0 l.length] (.int .i64 (zEv l)) := by
 refine zT.value0 (zE (P := Tryz.prog) (fn := Tryz.f73) Z Z (by kernel_rfl) Z (fun c hR hfix => ?_)) (fix := fun _ => False) (fun _ h => h) Z Z
 refine rn3 ?_
 refine ze (ι := Nat) (fun k => [(0, .ro (.strs l) 0 l.length), (6, .ro (.strs l) 0 l.length), (7, iN l.length), (8, iN k)]) (fun _ => [])
  (fun k => k ≤ l.length ∧ zEv l = zEv (l.drop k)) (fun k => l.length - k) 0 ⟨⟨rfl, rfl, rfl, rfl, trivial⟩, rfl, Nat.zero_le _, by rw [List.drop_zero]⟩ ?_
 intro k ⟨hk, hE⟩
 refine rn4 ?_
 refine zA Z (fun h => ?_) (fun h => ?_)
 ·have hk' : k < l.length := by omega
  have hd := zEo (d := []) hk'
  have hc := zLq (l.getD k []) (hs _ (zAL [] hk'))
  rw [hd, zEv] at hE
  refine rn9 ?_
  refine zB Z Z Z hc ?_
  refine rn3 ?_
  refine zA Z (fun h2 => ?_) (fun h2 => ?_)
  ·rw [if_neg h2] at hE
   refine rn6 ?_
   refine zL hR Z ?_
   rw [hE]; rfl
  ·rw [if_pos (Classical.not_not.1 h2)] at hE
   refine rn5 ?_
   refine zK ⟨k + 1, ⟨by omega, hE⟩, by omega, ⟨Z, Z, Z, Z, trivial⟩, Z⟩
 ·have hk' : k = l.length := by omega
  subst hk'
  rw [List.drop_length] at hE
  refine rn5 ?_
  refine zL hR Z ?_
  rw [hE]; rfl
theorem sz_v {s : List UInt8} (h : zER s = 0) : Sz 2000 (zAI s) := by
 have hp := zFx h
 refine ⟨?_, ?_⟩
 ·rw [hp.num, zE9]; exact zJ1 hp.cn hp.ln
 ·rw [hp.den]
  cases e : zGZ s
  ·rw [zHE e, zGs]; decide
  ·rw [zFk e]; exact zJ1 (hp.cd e).1 hp.ld
theorem Sz.mono {j k : Nat} {q : Rat} (h : Sz j q) (hk : j ≤ k) : Sz k q := ⟨Nat.le_trans h.1 hk, Nat.le_trans h.2 hk⟩
theorem sz_frac {n d : Int} {k : Nat} (hd : d ≠ 0) (h1 : (zR n.natAbs).length ≤ k) (h2 : (zR d.natAbs).length ≤ k) : Sz k (Rat.divInt n d) := by
 obtain ⟨e1, e2, _⟩ := zGB n d hd
 refine ⟨?_, ?_⟩
 ·rw [e1]; exact zFM (Nat.div_le_self _ _) h1
 ·rw [e2]; exact zFM (Nat.div_le_self _ _) h2
theorem sz_add {p q : Rat} {k : Nat} (hp : Sz k p) (hq : Sz k q) : Sz (k + k + 1) (p + q) := by
 have l1 : (zR (q.den : Int).natAbs).length ≤ k := hq.2
 have l2 : (zR (p.den : Int).natAbs).length ≤ k := hp.2
 rw [← zJ3]
 refine sz_frac (by have := Nat.mul_ne_zero p.den_nz q.den_nz; omega) (zNM (zDh hp.1 l1) (zDh hq.1 l2)) ?_
 rw [Int.natAbs_natCast]
 have := zJq hp.2 hq.2
 omega
end Go.Proofs.YtkncmbklkhjmgaaGreatDoor
