import Derived.Shelf.Strconv.Itoa3
import Derived.Shelf.Pu.ParseUintPublic10
import Derived.Shelf.Bits.Mul64
import Derived.Shelf.Strings.OnBuilder
import Derived.Test.YtnkealfaldjipaaGreatDoorProg
import Derived.Lib.ParseIntB
import Derived.Lib.Join
import Derived.Test.YtnkealfaldjipaaGreatDoorY2
set_option linter.unusedVariables false
set_option linter.unusedSimpArgs false
namespace Go.Proofs.YtnkealfaldjipaaGreatDoor
open Go.Ax Go.Ax.Bg Go.RowKit
attribute [local irreducible] Ax zAM QOp zO
set_option maxRecDepth 100000
set_option maxHeartbeats 4000000
theorem zOY (a b : Nat) (ha : (zY a).length ≤ 100000000) (hb : (zY b).length ≤ 100000000) : zW Tryz.prog 152 [zAJ a, zAJ b] (zAJ (a * b)) := by
 refine zO.value0 (zF (P := Tryz.prog) (fn := Tryz.f152) rfl rfl (by kernel_rfl) rfl (fun c hR hfix => ?_)) (fix := fun _ => False) (fun _ h => h) rfl rfl
 have hx := zAZ a
 have hy := zAZ b
 have hv : zc (zY a) * zc (zY b) = a * b := by rw [zAA, zAA]
 unfold zAJ
 rw [← hv] at hR
 generalize zY a = x at *
 generalize zY b = y at *
 refine rn3 ?_
 refine zCC rfl rfl rfl rfl rfl rfl rfl rfl (by show (0 : Int) ≤ _ ∧ _ ≤ _ ∧ (4 : Int) * _ ≤ _ ∧ _; omega) ?_
 rw [show ((x.length : Int) + (y.length : Int)).toNat = x.length + y.length by omega]
 refine rn3 ?_
 refine zg (ι := Nat × List Int) (fun p => [(1, .ro (.ints .u32 y) 0 y.length), (5, .sl 0 0 (x.length + y.length)), (17, .ro (.ints .u32 x) 0 x.length), (18, .int .i64 (x.length : Nat)), (19, .int .i64 (p.1 : Nat))]) (fun p => [some ⟨224, .ints .u32 p.2⟩])
   (fun p => p.1 ≤ x.length ∧ p.2.length = x.length + y.length ∧ Lim p.2 ∧ zc p.2 = zc (x.take p.1) * zc y ∧ ∀ q, p.1 + y.length ≤ q → p.2.getD q 0 = 0) (fun p => x.length - p.1) (0, List.replicate (x.length + y.length) 0) ⟨⟨rfl, rfl, rfl, rfl, rfl, trivial⟩, rfl, Nat.zero_le _, by simp, Lim.zeros _, by simp [zc, zHT], fun q _ => zMt _ _⟩ ?_
 rintro ⟨i, out⟩ ⟨h1, h2, h3, h4, h5⟩
 simp only at *
 refine rn4 ?_
 refine zD rfl (fun h6 => ?_) (fun h6 => ?_)
 · have hil : i < x.length := by omega
   obtain ⟨d, hd, hdB⟩ := hx.nat i
   refine rn6 ?_
   refine zAO 7 (.int .u32 (d : Nat)) rfl (AEq.of_eq (by rw [hd])) ?_
   refine zg (ι := Nat × List Int × Nat) (fun p => [(1, .ro (.ints .u32 y) 0 y.length), (5, .sl 0 0 (x.length + y.length)), (6, .int .i64 (i : Nat)), (7, .int .u32 (d : Nat)), (8, .int .u64 (p.2.2 : Nat)), (17, .ro (.ints .u32 x) 0 x.length), (18, .int .i64 (x.length : Nat)), (19, .int .i64 (i : Nat)), (24, .ro (.ints .u32 y) 0 y.length), (25, .int .i64 (y.length : Nat)), (26, .int .i64 (p.1 : Nat))]) (fun p => [some ⟨224, .ints .u32 p.2.1⟩])
     (fun p => p.1 ≤ y.length ∧ p.2.1.length = x.length + y.length ∧ Lim p.2.1 ∧ p.2.2 < 4294967296 ∧ zc p.2.1 + B ^ (i + p.1) * p.2.2 = zc (x.take i) * zc y + B ^ i * (d * zc (y.take p.1)) ∧ ∀ q, i + y.length ≤ q → p.2.1.getD q 0 = 0) (fun p => y.length - p.1) (0, out, 0) ⟨⟨rfl, rfl, rfl, rfl, rfl, rfl, rfl, rfl, rfl, rfl, rfl, trivial⟩, rfl, Nat.zero_le _, h2, h3, Nat.zero_lt_succ _, by simp [zc, h4], h5⟩ ?_
   rintro ⟨j, o2, cr⟩ ⟨k1, k2, k3, k4, k5, k6⟩
   simp only at *
   refine rn4 ?_
   refine zD rfl (fun k7 => ?_) (fun k7 => ?_)
   · have hjl : j < y.length := by omega
     obtain ⟨e, he, heB⟩ := hy.nat j
     obtain ⟨f, hf, hfB⟩ := k3.nat (i + j)
     have hb1 : d * e ≤ 4294967295 * 4294967295 := Nat.mul_le_mul (by omega) (by omega)
     refine rn6 ?_
     refine zC (zAX (m := d) rfl rfl rfl zBD (by omega)) ?_
     repeat (refine zC (zI rfl) ?_)
     refine zN 34 (.int .u32 (e : Nat)) rfl (AEq.of_eq (by rw [he])) ?_
     refine zC (zAX (m := e) rfl rfl rfl zBD (by omega)) ?_
     refine zC (zIg rfl rfl zBD (by omega)) ?_
     refine rn3 ?_
     refine zN 40 (.int .i64 (i + j : Nat)) rfl (AEq.of_eq (by rw [Int.natCast_add])) ?_
     repeat (first | refine zC (ze rfl rfl rfl rfl rfl (by first | (simp only [Nat.zero_add, Int.toNat_natCast, Int.toNat_zero]; exact rfl) | exact rfl) (by omega)) ?_ | refine zC (zAN rfl rfl rfl rfl (by first | assumption | omega)) ?_)
     refine zN 42 (.int .u32 (f : Nat)) rfl (AEq.of_eq (by rw [hf])) ?_
     refine zC (zAX (m := f) rfl rfl rfl zBD (by omega)) ?_
     refine zC (zFE rfl rfl zBD (by omega)) ?_
     refine zC (zFE rfl rfl zBD (by omega)) ?_
     refine rn3 ?_
     refine zC (zFy rfl rfl rfl zEh) ?_
     refine zN 49 (.int .i64 (i + j : Nat)) rfl (AEq.of_eq (by rw [Int.natCast_add])) ?_
     repeat (first | refine zC (zI rfl) ?_ | refine zB ?_ | refine zA ?_ | refine zL rfl ?_ | refine zC (ze rfl rfl rfl rfl rfl (by first | (simp only [Nat.zero_add, Int.toNat_natCast, Int.toNat_zero]; exact rfl) | exact rfl) (by omega)) ?_ | refine zAt rfl rfl rfl rfl rfl rfl rfl (by first | assumption | (show _ < List.length _; first | assumption | omega)) ?_)
     refine zC (zFu (s := 32) rfl rfl rfl) ?_
     refine rn5 ?_
     refine zM ⟨(j + 1, o2.set (i + j) (((cr + (d * e + f)) % 4294967296 : Nat) : Int), (cr + (d * e + f)) / 4294967296), ⟨by simp only; omega, by simp [k2], k3.set (zDo _), by simp only; omega, ?_, fun q hq => ?_⟩, by simp only; omega, ⟨rfl, rfl, rfl, rfl, rfl, rfl, rfl, rfl, rfl, rfl, rfl, trivial⟩, rfl⟩
     · have := mul_step (cr := cr) (a := d) (b := e) (p := i + j) (by omega) k5 hf
       simp only
       rw [show i + (j + 1) = i + j + 1 from rfl, this, zz y j, he, Int.toNat_natCast, Nat.add_assoc]
       congr 1
       rw [Nat.mul_add, Nat.mul_add, Nat.pow_add]
       congr 1
       ac_rfl
     · simp only
       rw [zDP (by omega)]; exact k6 q hq
   · have hje : j = y.length := by omega
     subst hje
     rw [List.take_length] at k5
     have hz := k6 (i + y.length) (Nat.le_refl _)
     have hset := zKG (x := (cr : Int)) (show i + y.length < o2.length by omega)
     rw [hz, Int.toNat_natCast] at hset
     refine rn5 ?_
     refine zC (zAX (m := cr) rfl rfl rfl zEh k4) ?_
     refine zN 60 (.int .i64 (i + y.length : Nat)) rfl (AEq.of_eq (by rw [Int.natCast_add])) ?_
     repeat (first | refine zC (zI rfl) ?_ | refine zB ?_ | refine zA ?_ | refine zL rfl ?_ | refine za ?_ | refine zC (zDJ rfl rfl (by omega)) ?_ | refine zC (ze rfl rfl rfl rfl rfl (by first | (simp only [Nat.zero_add, Int.toNat_natCast, Int.toNat_zero]; exact rfl) | exact rfl) (by omega)) ?_ | refine zAt rfl rfl rfl rfl rfl rfl rfl (by first | assumption | (show _ < List.length _; first | assumption | omega)) ?_)
     refine zM ⟨(i + 1, o2.set (i + y.length) (cr : Int)), ⟨by simp only; omega, by simp [k2], k3.set (by omega), ?_, fun q hq => ?_⟩, by simp only; omega, ⟨rfl, rfl, rfl, rfl, rfl, trivial⟩, rfl⟩
     · simp only
       rw [zz x i, hd, Int.toNat_natCast, Nat.add_mul, Nat.mul_assoc, ← k5]
       have : (0 : Int).toNat = 0 := rfl
       rw [this] at hset
       omega
     · simp only at hq ⊢
       rw [zDP (by omega)]; exact k6 q (by omega)
 · have hie : i = x.length := by omega
   subst hie
   rw [List.take_length] at h4
   have hc := zDk _ h3 (by omega)
   rw [h4] at hc
   refine rn5 ?_
   refine zCu 0 65 (x.length + y.length) [] rfl zAW rfl (by show _ ≤ out.length; omega) trivial ?_
   refine zE rfl rfl (zC7 h2) hc ?_
   refine rn0 ?_
   exact zH hR rfl rfl
/-- shift: limbs of one's own. -/
theorem zNe (n : List Int) (s : Nat) (hn : Lim n) (hlen : n.length ≤ 100000000) (hs : s < 32) :
   zIx Tryz.prog 206 [zFq n, .int .i64 (s : Nat)] (fun h => .sl h 0 (n.length + 1)) ⟨224, .ints .u32 (zBp (n.length + 1) (zc n * 2 ^ s))⟩ := by
 refine zO.fresh (K := fun r H => r = .sl 0 0 (n.length + 1) ∧ H = [some ⟨224, .ints .u32 (zBp (n.length + 1) (zc n * 2 ^ s))⟩]) (zF (P := Tryz.prog) (fn := Tryz.f206) rfl rfl (by kernel_rfl) rfl (fun c hR hfix => ?_)) (fix := fun _ => False) (fun _ h => h) rfl (fun H => ⟨rfl, trivial, trivial, trivial⟩) ?_
 · have hp : 2 ^ s ≤ 2147483648 := by
     have := Nat.pow_le_pow_right (show 0 < 2 by decide) (show s ≤ 31 by omega)
     exact Nat.le_trans this (by decide)
   have hp1 : 0 < 2 ^ s := Nat.pow_pos (by decide)
   unfold zFq
   refine rn3 ?_
   refine zCC rfl rfl rfl rfl rfl rfl rfl rfl (by show (0 : Int) ≤ 0 ∧ _ ≤ _ ∧ (4 : Int) * _ ≤ _ ∧ _; omega) ?_
   refine rn3 ?_
   refine zJi 0 (.ints .u32 []) rfl ⟨Nat.zero_le _, rfl, fun i j hi _ => absurd hi (Nat.not_lt_zero _)⟩ ?_
   refine zg (ι := Nat × List Int × Nat) (fun p => [(1, .int .i64 (s : Nat)), (5, .sl 0 0 p.1), (6, .int .u64 (p.2.2 : Nat)), (13, .ro (.ints .u32 n) 0 n.length), (14, .int .i64 (n.length : Nat)), (15, .int .i64 (p.1 : Nat))]) (fun p => [some ⟨224, .ints .u32 p.2.1⟩])
     (fun p => p.1 ≤ n.length ∧ p.2.1.length = p.1 ∧ Lim p.2.1 ∧ p.2.2 < 2 ^ s ∧ zc p.2.1 + B ^ p.1 * p.2.2 = zc (n.take p.1) * 2 ^ s) (fun p => n.length - p.1) (0, [], 0) ⟨⟨rfl, rfl, rfl, rfl, rfl, rfl, trivial⟩, rfl, Nat.zero_le _, rfl, Lim.nil, hp1, by simp [zc]⟩ ?_
   rintro ⟨i, out, cr⟩ ⟨h1, h2, h3, h4, h5⟩
   simp only at *
   refine rn4 ?_
   refine zD rfl (fun h6 => ?_) (fun h6 => ?_)
   · have hil : i < n.length := by omega
     obtain ⟨d, hd, hdB⟩ := hn.nat i
     have hor : cr ||| d * 2 ^ s = cr + d * 2 ^ s := by
       have := Nat.two_pow_add_eq_or_of_lt h4 d
       rw [Nat.or_comm, Nat.mul_comm d, ← this, Nat.add_comm]
     have hdm : d * 2 ^ s ≤ 4294967295 * 2147483648 := Nat.mul_le_mul (by omega) hp
     have hq : (cr + d * 2 ^ s) / 4294967296 < 2 ^ s := by
       refine Nat.div_lt_of_lt_mul ?_
       have : (d + 1) * 2 ^ s ≤ 4294967296 * 2 ^ s := Nat.mul_le_mul_right _ (by omega)
       rw [Nat.add_mul] at this
       omega
     refine rn6 ?_
     refine zN 20 (.int .u32 (d : Nat)) rfl (AEq.of_eq (by rw [hd])) ?_
     refine zC (zAX (m := d) rfl rfl rfl zBD (by omega)) ?_
     repeat (refine zC (zI rfl) ?_)
     refine zC (zJ0 (m := d) (s := s) rfl rfl (by show s ≤ 64; omega) zBD (by omega)) ?_
     refine zC (QOp.res (zNL rfl rfl zBD rfl (by omega) (by omega)) (by rw [hor])) ?_
     refine rn0 ?_
     refine zC (zFy rfl rfl rfl zEh) ?_
     repeat (refine zl rfl rfl rfl rfl rfl rfl rfl rfl rfl rfl rfl ?_)
     refine zm rfl rfl rfl rfl rfl rfl rfl rfl rfl h2 rfl rfl (Nat.le_refl 1) rfl (by show (i + 1) * 4 ≤ _ ∧ _; omega) (fun i j _ _ => rfl) (by rw [hfix]; exact fun h => h) ?_
     refine rn0 ?_
     refine zC (zFu (s := 32) rfl rfl rfl) ?_
     refine rn5 ?_
     refine zM ⟨(i + 1, out ++ [(((cr + d * 2 ^ s) % 4294967296 : Nat) : Int)], (cr + d * 2 ^ s) / 4294967296), ⟨by simp only; omega, by simp [h2], Lim.append.2 ⟨h3, Lim.one (zDo _)⟩, hq, ?_⟩, by simp only; omega, ⟨rfl, rfl, rfl, rfl, rfl, rfl, trivial⟩, rfl⟩
     have := zHP h2 h5 (c := cr + d * 2 ^ s) (d := d * 2 ^ s) rfl
     simp only at this ⊢
     rw [this, zz n i, hd, Int.toNat_natCast, Nat.add_mul, Nat.mul_assoc]
   · have hie : i = n.length := by omega
     subst hie
     rw [List.take_length] at h5
     refine rn5 ?_
     refine zC (zAX (m := cr) rfl rfl rfl zEh (by omega)) ?_
     repeat (refine zl rfl rfl rfl rfl rfl rfl rfl rfl rfl rfl rfl ?_)
     refine zm rfl rfl rfl rfl rfl rfl rfl rfl rfl h2 rfl rfl (Nat.le_refl 1) rfl (by show (n.length + 1) * 4 ≤ _ ∧ _; omega) (fun i j _ _ => rfl) (by rw [hfix]; exact fun h => h) ?_
     have hl : Lim (out ++ [(cr : Int)]) := Lim.append.2 ⟨h3, Lim.one (by omega)⟩
     have hv : zc (out ++ [(cr : Int)]) = zc n * 2 ^ s := by
       rw [zDi, h2, Int.toNat_natCast]; exact h5
     have hfx := zGu hl (k := n.length + 1) (by simp [h2]) hv
     refine rn0 ?_
     refine zH hR rfl ⟨rfl, ?_⟩
     show ([some ⟨224, .ints .u32 (out ++ [(cr : Int)])⟩] : zV) = _
     rw [hfx]
 · rintro r H ⟨rfl, rfl⟩
   refine ⟨fun o ho => by simp at ho; subst ho; show 0 + (n.length + 1) ≤ (zBp _ _).length; rw [zBn]; omega, zGE zAW, 0, rfl, fun k => rfl⟩
end Go.Proofs.YtnkealfaldjipaaGreatDoor
namespace Go.Proofs.YtnkealfaldjipaaGreatDoor
open Go.Ax Go.Ax.Bg Go.RowKit
attribute [local irreducible] Ax zAM QOp zO
set_option maxRecDepth 100000
set_option maxHeartbeats 4000000
theorem digit_ok (A U C V : List Int) (j s : Nat) (Hr : zV) (hj : A.length = j) (hs : 2 ≤ s) (hl : U.length = s + 1) (hlv : V.length = s) (hU : Lim U) (hV : Lim V) (htop : 2147483648 ≤ V.getD (s - 1) 0) (hlt : zc U < 4294967296 * zc V)
   (hsz : (A ++ (U ++ C)).length ≤ 1000000000) :
   zO Tryz.prog 207 [.sl 0 j (s + 1), zFq V] (some ⟨224, .ints .u32 (A ++ (U ++ C))⟩ :: Hr) (fun h => h < Hr.length + 1)
     (fun r H => r = .int .u32 (zc U / zc V : Nat) ∧ H = some ⟨224, .ints .u32 (A ++ (zBp (s + 1) (zc U % zc V) ++ C))⟩ :: Hr) := by
 refine zF (P := Tryz.prog) (fn := Tryz.f207) rfl rfl (by kernel_rfl) rfl (fun c hR hfix => ?_)
 have hsd := hlv
 obtain ⟨u0, h0, b0⟩ := hU.nat s
 obtain ⟨u1, h1, b1⟩ := hU.nat (s - 1)
 obtain ⟨u2, h2, b2⟩ := hU.nat (s - 2)
 obtain ⟨v1, k1, c1⟩ := hV.nat (s - 1)
 obtain ⟨v2, k2, c2⟩ := hV.nat (s - 2)
 have htop' : 2147483648 ≤ v1 := by omega
 have hest := fun g => est (g := g) hs hl hsd hU hV h0 h1 h2 k1 k2 htop' hlt
 have g0 := zF7 (C := C) hj (show s < U.length by omega)
 have g1 := zF7 (C := C) hj (show s - 1 < U.length by omega)
 have g2 := zF7 (C := C) hj (show s - 2 < U.length by omega)
 rw [h0] at g0; rw [h1] at g1; rw [h2] at g2
 have hlen : (A ++ (U ++ C)).length = j + (s + 1) + C.length := by simp [hj, hl]; omega
 have hv0 : 0 < zc V := by
   have := zz V (s - 1)
   rw [show s - 1 + 1 = V.length by omega, List.take_length, k1, Int.toNat_natCast] at this
   have h3 : B ^ (s - 1) * 1 ≤ B ^ (s - 1) * v1 := Nat.mul_le_mul_left _ (by omega)
   have := bpos (s - 1)
   omega
 unfold zFq
 rw [hsd]
 refine rn3 ?_
 refine zDU (by kernel_rfl) (by kernel_rfl) rfl ?_
 repeat (first | refine zC (zI rfl) ?_ | refine zC (ze rfl rfl rfl rfl rfl (by first | (simp only [Nat.zero_add, Int.toNat_natCast, Int.toNat_zero]; exact rfl) | exact rfl) (by omega)) ?_ | refine zC (zAN rfl rfl rfl rfl (by first | assumption | omega)) ?_)
 refine zN 20 (.int .u32 (u0 : Nat)) rfl (AEq.of_eq (by rw [g0])) ?_
 refine zC (zAX (m := u0) rfl rfl rfl zBD (by omega)) ?_
 refine zC (zJ0 (m := u0) (s := 32) rfl rfl (by decide) zBD (zIa b0)) ?_
 repeat (first | refine zC (zI rfl) ?_ | refine zC (zBk rfl rfl (by omega)) ?_)
 refine zN 25 (.int .i64 (s - 1 : Nat)) rfl (AEq.of_eq (by congr 1; omega)) ?_
 repeat (first | refine zC (ze rfl rfl rfl rfl rfl (by first | (simp only [Nat.zero_add, Int.toNat_natCast, Int.toNat_zero]; exact rfl) | exact rfl) (by omega)) ?_ | refine zC (zAN rfl rfl rfl rfl (by first | assumption | omega)) ?_)
 refine zN 27 (.int .u32 (u1 : Nat)) rfl (AEq.of_eq (by rw [g1])) ?_
 refine zC (zAX (m := u1) rfl rfl rfl zBD (by omega)) ?_
 refine zC (QOp.res (zNL rfl rfl zBD rfl (zIa b0) (by omega)) (by rw [zOV b1])) ?_
 have htb : u0 * 4294967296 + u1 < 18446744073709551616 := by omega
 obtain ⟨top, htp⟩ : ∃ top, u0 * 4294967296 + u1 = top := ⟨_, rfl⟩
 rw [htp] at hest htb ⊢
 repeat (first | refine zC (zI rfl) ?_ | refine zC (zK rfl) ?_ | refine zB ?_ | refine zA ?_ | refine zZ ?_ | refine zL rfl ?_ | refine zC (zBk rfl rfl (by omega)) ?_)
 refine zN 33 (.int .i64 (s - 1 : Nat)) rfl (AEq.of_eq (by congr 1; omega)) ?_
 refine rn6 ?_
 refine zN 35 (.int .u32 (v1 : Nat)) rfl (AEq.of_eq (by rw [k1])) ?_
 refine zC (zAX (m := v1) rfl rfl rfl zBD (by omega)) ?_
 refine zC (q_uquo rfl rfl zBD htb (by omega)) ?_
 obtain ⟨gs, hgs, hg1, hg2⟩ : ∃ gs : Nat, (if ((4294967295 : Int) < ((top / v1 : Nat) : Int)) then (4294967295 : Int) else ((top / v1 : Nat) : Int)) = (gs : Int) ∧ gs ≤ 4294967295 ∧ (gs = 4294967295 ∨ gs = top / v1) ∧ gs ≤ top / v1 := by
   generalize top / v1 = z
   by_cases hz : (4294967295 : Int) < (z : Int)
   · exact ⟨4294967295, by rw [if_pos hz]; rfl, by omega, by omega, by omega⟩
   · exact ⟨z, by rw [if_neg hz], by omega, by omega, by omega⟩
 obtain ⟨hg2, hg3⟩ := hg2
 have hgm : gs * v1 ≤ top := Nat.le_trans (Nat.mul_le_mul_right _ hg3) (Nat.div_mul_le_self top v1)
 have hb0 := zLq (a := gs) (b := v1) (c := 0) (by omega) c1 (by decide)
 refine zC (q_min rfl rfl) ?_
 refine zN 38 (.int .u64 (gs : Nat)) rfl (AEq.of_eq (by rw [← hgs])) ?_
 repeat (first | refine zC (zI rfl) ?_ | refine zC (zK rfl) ?_ | refine zB ?_ | refine zA ?_ | refine zZ ?_ | refine zL rfl ?_ | refine zC (zBk rfl rfl (by omega)) ?_)
 refine zN 43 (.int .i64 (s - 1 : Nat)) rfl (AEq.of_eq (by congr 1; omega)) ?_
 refine rn6 ?_
 refine zN 45 (.int .u32 (v1 : Nat)) rfl (AEq.of_eq (by rw [k1])) ?_
 refine zC (zAX (m := v1) rfl rfl rfl zBD (by omega)) ?_
 refine zC (zIg rfl rfl zBD hb0.1) ?_
 refine zC (zOB rfl rfl zBD htb hgm) ?_
 refine rn1 ?_
 refine zg (ι := Nat × Nat) (fun p => [(0, .sl 0 j (s + 1)), (1, .ro (.ints .u32 V) 0 s), (5, .int .i64 (s : Nat)), (7, .int .u64 (p.1 : Nat)), (8, .int .u64 (p.2 : Nat))]) (fun _ => some ⟨224, .ints .u32 (A ++ (U ++ C))⟩ :: Hr)
   (fun p => p.1 ≤ 4294967295 ∧ p.2 + p.1 * v1 = top ∧ ∀ g', g' ≤ 4294967295 → g' * (v1 * 4294967296 + v2) ≤ top * 4294967296 + u2 → g' ≤ p.1) (fun p => p.1) (gs, top - gs * v1) ⟨⟨rfl, rfl, rfl, rfl, rfl, trivial⟩, rfl, hg1, by simp only; omega, fun g' q1 q2 => ?_⟩ ?_
 · have := guess_ge (by omega) b2 q2
   rcases hg2 with h | h
   · show g' ≤ gs; omega
   · show g' ≤ gs; rw [h]; exact this
 rintro ⟨g, r⟩ ⟨i1, i2, i3⟩
 simp only at *
 have htest := zO4 (B := 4294967296) (u2 := u2) (v2 := v2) i2 (by omega) c2
 have hbg := zLq (a := g) (b := v2) (c := 0) (by omega) c2 (by decide)
 apply zAv (H := some ⟨224, .ints .u32 (A ++ (U ++ C))⟩ :: Hr) [(0, .sl 0 j (s + 1)), (1, .ro (.ints .u32 V) 0 s), (5, .int .i64 (s : Nat)), (7, .int .u64 (g : Nat)), (8, .int .u64 (r : Nat)), (70, .bool (decide (r < 4294967296 ∧ r * 4294967296 + u2 < g * v2)))]
 · intro fin
   repeat (refine zZ ?_)
   refine zDU (by kernel_rfl) (by kernel_rfl) rfl ?_
   repeat (first | refine zC (zI rfl) ?_ | refine zC (zLZ rfl rfl) ?_)
   refine z8 rfl rfl (fun q0 => ?_) (fun q0 => ?_)
   · have q0' : r < 4294967296 := by omega
     repeat (first | refine zC (zI rfl) ?_ | refine zAL rfl rfl ?_ | refine zC (zBk rfl rfl (by omega)) ?_)
     refine zN 55 (.int .i64 (s - 2 : Nat)) rfl (AEq.of_eq (by congr 1; omega)) ?_
     refine rn6 ?_
     refine zN 57 (.int .u32 (v2 : Nat)) rfl (AEq.of_eq (by rw [k2])) ?_
     refine zC (zAX (m := v2) rfl rfl rfl zBD (by omega)) ?_
     refine zAL rfl rfl ?_
     refine zC (zIg rfl rfl zBD hbg.1) ?_
     refine rn2 ?_
     refine zC (zJ0 (m := r) (s := 32) rfl rfl (by decide) zBD (zIa q0')) ?_
     repeat (first | refine zC (zI rfl) ?_ | refine zAL rfl rfl ?_ | refine zC (zBk rfl rfl (by omega)) ?_)
     refine zN 64 (.int .i64 (s - 2 : Nat)) rfl (AEq.of_eq (by congr 1; omega)) ?_
     repeat (first | refine zAL rfl rfl ?_ | refine zC (ze rfl rfl rfl rfl rfl (by first | (simp only [Nat.zero_add, Int.toNat_natCast, Int.toNat_zero]; exact rfl) | exact rfl) (by omega)) ?_ | refine zC (zAN rfl rfl rfl rfl (by first | assumption | omega)) ?_)
     refine zN 66 (.int .u32 (u2 : Nat)) rfl (AEq.of_eq (by rw [g2])) ?_
     refine zC (zAX (m := u2) rfl rfl rfl zBD (by omega)) ?_
     refine zAL rfl rfl ?_
     refine zC (QOp.res (zNL rfl rfl zBD rfl (zIa q0') (by omega)) (by rw [zOV b2])) ?_
     repeat (first | refine zB ?_ | refine zA ?_ | refine zAL rfl rfl ?_ | refine zC (zJj rfl rfl) ?_ | refine zC (zAe rfl rfl) ?_)
     refine fin _ ⟨rfl, rfl, rfl, rfl, rfl, ?_, trivial⟩
     show some (AV.bool (decide (((r * 4294967296 + u2 : Nat) : Int) < ((g * v2 : Nat) : Int)))) = _
     congr 2
     rw [decide_eq_decide]
     constructor
     · intro h; exact ⟨q0', by omega⟩
     · intro h; exact Int.ofNat_lt.2 h.2
   · repeat (first | refine zB ?_ | refine zA ?_ | refine zAm rfl rfl rfl ?_ | refine zC (zAe rfl rfl) ?_)
     refine fin _ ⟨rfl, rfl, rfl, rfl, rfl, ?_, trivial⟩
     show some (AV.bool false) = _
     rw [decide_eq_false]
     intro h
     exact q0 (by omega)
 refine zD rfl (fun q0 => ?_) (fun q0 => ?_)
 · have q1 := htest.1 q0
   have hg0 : 0 < g := by
     rcases Nat.eq_zero_or_pos g with z | z
     · subst z; rw [Nat.zero_mul] at q1; omega
     · exact z
   obtain ⟨g, rfl⟩ : ∃ m, g = m + 1 := ⟨g - 1, by omega⟩
   rw [Nat.add_mul, Nat.one_mul] at i2
   refine rn1 ?_
   refine zC (zOB (m := g + 1) (n := 1) rfl rfl zBD (by omega) (by omega)) ?_
   repeat (first | refine zC (zI rfl) ?_ | refine zC (zK rfl) ?_ | refine zB ?_ | refine zA ?_ | refine zL rfl ?_ | refine za ?_ | refine zC (zBk rfl rfl (by omega)) ?_)
   refine zN 74 (.int .i64 (s - 1 : Nat)) rfl (AEq.of_eq (by congr 1; omega)) ?_
   refine rn6 ?_
   refine zN 76 (.int .u32 (v1 : Nat)) rfl (AEq.of_eq (by rw [k1])) ?_
   refine zC (zAX (m := v1) rfl rfl rfl zBD (by omega)) ?_
   refine zC (zFE rfl rfl zBD (by omega)) ?_
   refine rn0 ?_
   refine zM ⟨(g, r + v1), ⟨by simp only; omega, by simp only; omega, fun g' z1 z2 => ?_⟩, by simp only; omega, ⟨rfl, rfl, rfl, rfl, rfl, trivial⟩, rfl⟩
   have z3 := i3 g' z1 z2
   show g' ≤ g
   rcases Nat.lt_or_ge g g' with z | z
   · exfalso
     have : g' = g + 1 := by omega
     subst this
     omega
   · exact z
 · have q1 : g * (v1 * 4294967296 + v2) ≤ top * 4294967296 + u2 := by
     rcases Nat.lt_or_ge (top * 4294967296 + u2) (g * (v1 * 4294967296 + v2)) with z | z
     · exact absurd (htest.2 z) q0
     · exact z
   obtain ⟨e1, e2⟩ := hest g i1 q1 i3
   clear hest htest i3 q0
   have hmB : zc U % zc V < B ^ (s + 1) := Nat.lt_of_le_of_lt (Nat.mod_le _ _) (by have := zAw hU; rwa [hl] at this)
   have hdone := fun (w b : Nat) (hw : w < B ^ (s + 1)) => zOn (u := zc U) (v := zc V) (g := g) (w := w) (n := s + 1) (b := b) hw (by have := zAw hV; rw [hsd] at this; exact Nat.lt_of_lt_of_le this (Nat.pow_le_pow_right (by decide) (by omega))) (by have := zAw hU; rwa [hl] at this)
   generalize zc U / zc V = q at *
   generalize hme : zc U % zc V = m at *
   refine rn5 ?_
   have hAl : ∀ W : List Int, W.length = s + 1 → ∀ i, i < s + 1 → i + j < (A ++ (W ++ C)).length := fun W hW i hi => by simp [hj, hW]; omega
   refine zg (ι := Nat × List Int × Nat × Nat) (fun p => [(0, .sl 0 j (s + 1)), (1, .ro (.ints .u32 V) 0 s), (5, .int .i64 (s : Nat)), (7, .int .u64 (g : Nat)), (9, .int .u64 (p.2.2.1 : Nat)), (10, .int .i64 (p.2.2.2 : Nat)), (82, .int .i64 (s + 1 : Nat)), (83, .int .i64 (p.1 : Nat))]) (fun p => some ⟨224, .ints .u32 (A ++ (p.2.1 ++ C))⟩ :: Hr)
     (fun p => p.1 ≤ s + 1 ∧ p.2.1.length = s + 1 ∧ Lim p.2.1 ∧ (∀ x, p.1 ≤ x → p.2.1.getD x 0 = U.getD x 0) ∧ p.2.2.1 < 4294967296 ∧ p.2.2.2 ≤ 1 ∧ (p.1 = s + 1 → p.2.2.1 = 0) ∧ zc (p.2.1.take p.1) + g * zc (V.take p.1) = zc (U.take p.1) + B ^ p.1 * (p.2.2.1 + p.2.2.2)) (fun p => s + 1 - p.1) (0, U, 0, 0)
     ⟨⟨rfl, rfl, rfl, rfl, rfl, rfl, rfl, rfl, trivial⟩, rfl, Nat.zero_le _, hl, hU, fun _ _ => rfl, Nat.zero_lt_succ _, Nat.zero_le _, fun _ => rfl, by simp [zc]⟩ ?_
   rintro ⟨i, Uc, cr, br⟩ ⟨w1, w2, w3, w4, w5, w6, w7, w8⟩
   simp only at *
   refine rn4 ?_
   refine zD rfl (fun w9 => ?_) (fun w9 => ?_)
   · have his : i < s + 1 := by omega
     obtain ⟨ui, hui, hub⟩ := hU.nat i
     obtain ⟨vi, hvi, hvb⟩ := hV.nat i
     have hmb := zLq (a := g) (b := vi) (c := cr) (by omega) hvb w5
     have hsl := hAl Uc w2 i his
     have hcur := zF7 (C := C) hj (show i < Uc.length by omega)
     rw [w4 i (Nat.le_refl _), hui] at hcur
     have hlm : (cr + g * vi) % 4294967296 < 4294967296 := Nat.mod_lt _ (by decide)
     have hdb : (cr + g * vi) / 4294967296 < 4294967296 := by omega
     obtain ⟨yv, b', y1, y2, y3, y4, y5⟩ := zQr hub hlm w6
     have hstep := zN1 (g := g) (cr := cr) (yv := yv) (b' := b') (show i < Uc.length by omega) w8 hui hvi y1
     have hlast : i + 1 = s + 1 → (cr + g * vi) / 4294967296 = 0 := fun h => by
       have : V.getD i 0 = 0 := by simp [List.getD, List.getElem?_eq_none (show V.length ≤ i by omega)]
       have : vi = 0 := by omega
       subst this
       rw [Nat.mul_zero, Nat.add_zero]
       exact Nat.div_eq_of_lt w5
     refine rn4 ?_
     apply zAv (H := some ⟨224, .ints .u32 (A ++ (Uc ++ C))⟩ :: Hr) [(0, .sl 0 j (s + 1)), (1, .ro (.ints .u32 V) 0 s), (5, .int .i64 (s : Nat)), (7, .int .u64 (g : Nat)), (9, .int .u64 (cr + g * vi : Nat)), (10, .int .i64 (br : Nat)), (11, .int .i64 (i : Nat)), (82, .int .i64 (s + 1 : Nat)), (83, .int .i64 (i : Nat))]
     · intro fin
       refine zD rfl (fun q0 => ?_) (fun q0 => ?_)
       · refine rn6 ?_
         refine zN 94 (.int .u32 (vi : Nat)) rfl (AEq.of_eq (by rw [hvi])) ?_
         refine zC (zAX (m := vi) rfl rfl rfl zBD (by omega)) ?_
         refine zC (zIg rfl rfl zBD hmb.1) ?_
         refine zC (zFE rfl rfl zBD hmb.2) ?_
         repeat (first | refine zC (zK rfl) ?_ | refine zB ?_ | refine zA ?_)
         exact fin _ ⟨rfl, rfl, rfl, rfl, rfl, rfl, rfl, rfl, rfl, trivial⟩
       · have hv0 : vi = 0 := by
           have : V.getD i 0 = 0 := by simp [List.getD, List.getElem?_eq_none (show V.length ≤ i by omega)]
           omega
         subst hv0
         repeat (first | refine zA ?_ | refine zi ?_)
         exact fin _ ⟨rfl, rfl, rfl, rfl, rfl, rfl, rfl, rfl, rfl, trivial⟩
     repeat (first | refine zC (zI rfl) ?_ | refine zZ ?_ | refine zL rfl ?_ | refine zC (ze rfl rfl rfl rfl rfl (by first | (simp only [Nat.zero_add, Int.toNat_natCast, Int.toNat_zero]; exact rfl) | exact rfl) (by omega)) ?_ | refine zC (zAN rfl rfl rfl rfl (by first | assumption | omega)) ?_)
     refine zN 101 (.int .u32 (ui : Nat)) rfl (AEq.of_eq (by rw [hcur])) ?_
     refine zC (zEq (m := ui) rfl rfl rfl (by omega)) ?_
     repeat (refine zC (zI rfl) ?_)
     refine zC (QOp.res (q_uand (n := 4294967295) rfl rfl zBD rfl hmb.2 (by decide)) (by rw [and_low])) ?_
     obtain ⟨lo, hlo⟩ : ∃ lo, (cr + g * vi) % 4294967296 = lo := ⟨_, rfl⟩
     rw [hlo] at hlm y1 y4 y5 ⊢
     refine zC (zEq (m := lo) rfl rfl rfl (by omega)) ?_
     repeat (first | refine zC (zI rfl) ?_ | refine zC (zK rfl) ?_ | refine zB ?_ | refine zA ?_ | refine zZ ?_ | refine zL rfl ?_ | refine zC (zBk rfl rfl (by omega)) ?_)
     refine zC (zFu (s := 32) rfl rfl rfl) ?_
     refine rn4 ?_
     apply zAv (H := some ⟨224, .ints .u32 (A ++ (Uc ++ C))⟩ :: Hr) [(0, .sl 0 j (s + 1)), (1, .ro (.ints .u32 V) 0 s), (5, .int .i64 (s : Nat)), (7, .int .u64 (g : Nat)), (9, .int .u64 ((cr + g * vi) / 4294967296 : Nat)), (10, .int .i64 (b' : Nat)), (11, .int .i64 (i : Nat)), (12, .int .i64 (yv : Nat)), (82, .int .i64 (s + 1 : Nat)), (83, .int .i64 (i : Nat))]
     · intro fin
       refine zD rfl (fun q0 => ?_) (fun q0 => ?_)
       · obtain ⟨z1, z2⟩ := y4 q0
         subst z1
         skip
         refine zL rfl ?_
         repeat (first | refine zC (zI rfl) ?_ | refine zC (zK rfl) ?_ | refine zB ?_ | refine zA ?_ | refine zC (zDJ rfl rfl (by omega)) ?_)
         exact fin _ ⟨rfl, rfl, rfl, rfl, rfl, rfl, rfl, by rw [z2]; rfl, rfl, rfl, trivial⟩
       · obtain ⟨z1, z2⟩ := y5 q0
         subst z1
         repeat (first | refine zA ?_ | refine zi ?_)
         exact fin _ ⟨rfl, rfl, rfl, rfl, rfl, rfl, rfl, by rw [z2]; rfl, rfl, rfl, trivial⟩
     refine rn0 ?_
     refine zC (zAX (m := yv) rfl rfl rfl zEh y3) ?_
     have hset := zPa (x := (yv : Int)) (C := C) hj (show i < Uc.length by omega)
     repeat (first | refine zC (zI rfl) ?_ | refine zB ?_ | refine zA ?_ | refine zL rfl ?_ | refine za ?_ | refine zC (zDJ rfl rfl (by omega)) ?_ | refine zC (ze rfl rfl rfl rfl rfl (by first | (simp only [Nat.zero_add, Int.toNat_natCast, Int.toNat_zero]; exact rfl) | exact rfl) (by omega)) ?_ | refine zAt rfl rfl rfl rfl rfl rfl rfl (by first | assumption | (show _ < List.length _; first | assumption | omega)) ?_)
     refine zM ⟨(i + 1, Uc.set i (yv : Int), (cr + g * vi) / 4294967296, b'), ⟨by simp only; omega, by simp [w2], w3.set (by omega), fun x hx => ?_, hdb, y2, hlast, hstep⟩, by simp only; omega, ⟨rfl, rfl, rfl, rfl, rfl, rfl, rfl, rfl, trivial⟩, ?_⟩
     · simp only at hx ⊢
       rw [zDP (by omega)]; exact w4 x (by omega)
     · show some (⟨_, .ints .u32 ((A ++ (Uc ++ C)).set (j + i) (yv : Int))⟩ : AObj) :: Hr = _
       rw [hset]
   · have hie : i = s + 1 := by omega
     subst hie
     have hcr := w7 rfl
     subst hcr
     rw [List.take_of_length_le (by omega), List.take_of_length_le (by omega), List.take_of_length_le (by omega), Nat.zero_add] at w8
     have hUcb := zAw w3
     rw [w2] at hUcb
     obtain ⟨d0, d1⟩ := hdone (zc Uc) br hUcb w6 w8 e1 e2 hv0
     refine rn5 ?_
     refine zD rfl (fun q0 => ?_) (fun q0 => ?_)
     · obtain ⟨z1, z2⟩ := d0 (by omega)
       subst z1
       have hfx := zGu w3 w2 z2
       refine rn0 ?_
       refine zC (zAX (m := g) rfl rfl rfl zEh (by omega)) ?_
       refine rn2 ?_
       refine zH hR rfl ⟨rfl, ?_⟩
       rw [hfx]
     · obtain ⟨z1, z2⟩ := d1 (by omega)
       refine rn3 ?_
       refine zg (ι := Nat × List Int × Nat) (fun p => [(0, .sl 0 j (s + 1)), (1, .ro (.ints .u32 V) 0 s), (5, .int .i64 (s : Nat)), (7, .int .u64 (g : Nat)), (13, .int .u64 (p.2.2 : Nat)), (126, .int .i64 (s + 1 : Nat)), (127, .int .i64 (p.1 : Nat))]) (fun p => some ⟨224, .ints .u32 (A ++ (p.2.1 ++ C))⟩ :: Hr)
         (fun p => p.1 ≤ s + 1 ∧ p.2.1.length = s + 1 ∧ Lim p.2.1 ∧ (∀ x, p.1 ≤ x → p.2.1.getD x 0 = Uc.getD x 0) ∧ p.2.2 < 4294967296 ∧ zc (p.2.1.take p.1) + B ^ p.1 * p.2.2 = zc (Uc.take p.1) + zc (V.take p.1)) (fun p => s + 1 - p.1) (0, Uc, 0)
         ⟨⟨rfl, rfl, rfl, rfl, rfl, rfl, rfl, trivial⟩, rfl, Nat.zero_le _, w2, w3, fun _ _ => rfl, Nat.zero_lt_succ _, by simp [zc]⟩ ?_
       rintro ⟨i, Ud, sm⟩ ⟨x1, x2, x3, x4, x5, x6⟩
       simp only at *
       refine rn4 ?_
       refine zD rfl (fun x9 => ?_) (fun x9 => ?_)
       · have his : i < s + 1 := by omega
         obtain ⟨ui, hui, hub⟩ := w3.nat i
         obtain ⟨vi, hvi, hvb⟩ := hV.nat i
         have hcur := zF7 (C := C) hj (show i < Ud.length by omega)
         rw [x4 i (Nat.le_refl _), hui] at hcur
         have hsl := hAl Ud x2 i his
         have hstep := zQ1 (sm := sm) (show i < Ud.length by omega) x6 hui hvi
         repeat (first | refine zC (zI rfl) ?_ | refine zC (zK rfl) ?_ | refine zB ?_ | refine zA ?_ | refine zZ ?_ | refine zL rfl ?_ | refine zw ?_ | refine zi ?_ | refine zC (ze rfl rfl rfl rfl rfl (by first | (simp only [Nat.zero_add, Int.toNat_natCast, Int.toNat_zero]; exact rfl) | exact rfl) (by omega)) ?_ | refine zC (zAN rfl rfl rfl rfl (by first | assumption | omega)) ?_)
         refine zN 134 (.int .u32 (ui : Nat)) rfl (AEq.of_eq (by rw [hcur])) ?_
         refine zC (zAX (m := ui) rfl rfl rfl zBD (by omega)) ?_
         refine zC (zFE rfl rfl zBD (by omega)) ?_
         refine rn4 ?_
         apply zAv (H := some ⟨224, .ints .u32 (A ++ (Ud ++ C))⟩ :: Hr) [(0, .sl 0 j (s + 1)), (1, .ro (.ints .u32 V) 0 s), (5, .int .i64 (s : Nat)), (7, .int .u64 (g : Nat)), (13, .int .u64 (sm + ui + vi : Nat)), (14, .int .i64 (i : Nat)), (126, .int .i64 (s + 1 : Nat)), (127, .int .i64 (i : Nat))]
         · intro fin
           refine zD rfl (fun q1 => ?_) (fun q1 => ?_)
           · refine rn6 ?_
             refine zN 144 (.int .u32 (vi : Nat)) rfl (AEq.of_eq (by rw [hvi])) ?_
             refine zC (zAX (m := vi) rfl rfl rfl zBD (by omega)) ?_
             refine zC (zFE rfl rfl zBD (by omega)) ?_
             repeat (first | refine zC (zK rfl) ?_ | refine zB ?_ | refine zA ?_)
             exact fin _ ⟨rfl, rfl, rfl, rfl, rfl, rfl, rfl, rfl, trivial⟩
           · have hv0 : vi = 0 := by
               have : V.getD i 0 = 0 := by simp [List.getD, List.getElem?_eq_none (show V.length ≤ i by omega)]
               omega
             subst hv0
             repeat (first | refine zA ?_ | refine zi ?_)
             exact fin _ ⟨rfl, rfl, rfl, rfl, rfl, rfl, rfl, rfl, trivial⟩
         refine rn0 ?_
         refine zC (zFy rfl rfl rfl zEh) ?_
         have hset := zPa (x := (((sm + ui + vi) % 4294967296 : Nat) : Int)) (C := C) hj (show i < Ud.length by omega)
         repeat (first | refine zC (zI rfl) ?_ | refine zB ?_ | refine zA ?_ | refine zL rfl ?_ | refine zC (ze rfl rfl rfl rfl rfl (by first | (simp only [Nat.zero_add, Int.toNat_natCast, Int.toNat_zero]; exact rfl) | exact rfl) (by omega)) ?_ | refine zAt rfl rfl rfl rfl rfl rfl rfl (by first | assumption | (show _ < List.length _; first | assumption | omega)) ?_)
         refine zC (zFu (s := 32) rfl rfl rfl) ?_
         refine rn5 ?_
         refine zM ⟨(i + 1, Ud.set i (((sm + ui + vi) % 4294967296 : Nat) : Int), (sm + ui + vi) / 4294967296), ⟨by simp only; omega, by simp [x2], x3.set (zDo _), fun x hx => ?_, by simp only; omega, hstep⟩, by simp only; omega, ⟨rfl, rfl, rfl, rfl, rfl, rfl, rfl, trivial⟩, ?_⟩
         · simp only at hx ⊢
           rw [zDP (by omega)]; exact x4 x (by omega)
         · show some (⟨_, .ints .u32 ((A ++ (Ud ++ C)).set (j + i) (((sm + ui + vi) % 4294967296 : Nat) : Int))⟩ : AObj) :: Hr = _
           rw [hset]
       · have hie : i = s + 1 := by omega
         subst hie
         rw [List.take_of_length_le (by omega), List.take_of_length_le (by omega), List.take_of_length_le (by omega), z2] at x6
         have hUdb := zAw x3
         rw [x2] at hUdb
         have hv : zc Ud = m := by
           rcases Nat.lt_trichotomy sm 1 with z | z | z
           · have : sm = 0 := by omega
             subst this
             omega
           · subst z; omega
           · have : B ^ (s + 1) * 2 ≤ B ^ (s + 1) * sm := Nat.mul_le_mul_left _ z
             omega
         have hfx := zGu x3 x2 hv
         refine rn5 ?_
         refine zC (zOB (m := g) (n := 1) rfl rfl zBD (by omega) (by omega)) ?_
         refine zC (zAX (m := g - 1) rfl rfl rfl zEh (by omega)) ?_
         refine rn0 ?_
         refine zH hR rfl ⟨?_, ?_⟩
         · rw [show g - 1 = q by omega]; rfl
         · rw [hfx]
end Go.Proofs.YtnkealfaldjipaaGreatDoor
namespace Go.Ax.Bg
theorem zFV : ∀ (a b v : Nat), zBp (a + b) v = zBp a v ++ zBp b (v / B ^ a)
 | 0, b, v => by simp [zBp]
 | a + 1, b, v => by
   rw [show a + 1 + b = a + b + 1 by omega, zBp, zBp, zFV a b, List.cons_append, Nat.pow_succ, Nat.mul_comm (B ^ a), ← Nat.div_div_eq_div_mul]
theorem zFx : ∀ (k v : Nat), zc (zBp k v) = v % B ^ k
 | 0, v => by simp [zBp, zc, Nat.mod_one]
 | k + 1, v => by
   rw [zBp, zc, Int.toNat_natCast, zFx k, Nat.pow_succ, Nat.mul_comm (B ^ k), Nat.mod_mul]
theorem zOe {k v w : Nat} (h : v % B ^ k = w % B ^ k) : zBp k v = zBp k w := by
 have h1 := zGu (zFY k v) (zBn k v) (zFx k v)
 have h2 := zGu (zFY k w) (zBn k w) (zFx k w)
 rw [h1, h2, h]
/-- The top limb. -/
theorem zGK {v s : Nat} (hs : 1 ≤ s) (h : (zY v).length = s) : ∃ t low : Nat, (zY v).getD (s - 1) 0 = (t : Int) ∧ t < 4294967296 ∧ 0 < t ∧ v = low + B ^ (s - 1) * t ∧ low < B ^ (s - 1) := by
 obtain ⟨t, ht, hb⟩ := (zAZ v).nat (s - 1)
 refine ⟨t, zc ((zY v).take (s - 1)), ht, hb, ?_, ?_, ?_⟩
 · rcases zLc (n := v) with q | q
   · rw [q] at h; simp at h; omega
   · rw [h, ht] at q; omega
 · have := zz (zY v) (s - 1)
   rw [show s - 1 + 1 = (zY v).length by omega, List.take_length, zAA, ht, Int.toNat_natCast] at this
   exact this
 · have := zAw ((zAZ v).take (s - 1))
   rwa [List.length_take, Nat.min_eq_left (by omega)] at this
theorem bexp {s : Nat} (hs : 1 ≤ s) : B ^ s = B ^ (s - 1) * 4294967296 := by
 rw [show s = s - 1 + 1 by omega, Nat.pow_succ]; rfl
/-- The divisor, shifted to the top. -/
theorem norm_top {m k s t : Nat} (hs : 1 ≤ s) (h : (zY m).length = s) (ht : (zY m).getD (s - 1) 0 = (t : Int)) (h1 : 2147483648 ≤ t * 2 ^ k) (h2 : t * 2 ^ k < 4294967296) (hk : k ≤ 31) :
   (zY (m * 2 ^ k)).length = s ∧ 2147483648 ≤ (zY (m * 2 ^ k)).getD (s - 1) 0 := by
 obtain ⟨t', low, e, hb, hp, hv, hlow⟩ := zGK hs h
 have : t' = t := by omega
 subst this
 have hP := bpos (s - 1)
 have hpk : 0 < 2 ^ k := Nat.pow_pos (by decide)
 have hd : ∃ q, 4294967296 = q * 2 ^ k := ⟨2 ^ (32 - k), by rw [← Nat.pow_add, show 32 - k + k = 32 by omega]⟩
 obtain ⟨q, hq⟩ := hd
 have h3 : t' + 1 ≤ q := by
   have : t' * 2 ^ k < q * 2 ^ k := by omega
   exact Nat.lt_of_mul_lt_mul_right this
 have h4 : (t' + 1) * 2 ^ k ≤ 4294967296 := by rw [hq]; exact Nat.mul_le_mul_right _ h3
 have hup : m * 2 ^ k < B ^ s := by
   rw [bexp hs]
   have h5 : m < B ^ (s - 1) * (t' + 1) := by rw [Nat.mul_add]; omega
   have h6 : m * 2 ^ k < B ^ (s - 1) * (t' + 1) * 2 ^ k := Nat.mul_lt_mul_of_pos_right h5 hpk
   have h7 : B ^ (s - 1) * ((t' + 1) * 2 ^ k) ≤ B ^ (s - 1) * 4294967296 := Nat.mul_le_mul_left _ h4
   rw [Nat.mul_assoc] at h6
   omega
 have hlo : B ^ (s - 1) * 2147483648 ≤ m * 2 ^ k := by
   have h5 : B ^ (s - 1) * (t' * 2 ^ k) ≤ m * 2 ^ k := by
     rw [← Nat.mul_assoc]; exact Nat.mul_le_mul_right _ (by omega)
   exact Nat.le_trans (Nat.mul_le_mul_left _ h1) h5
 have hlen : (zY (m * 2 ^ k)).length = s := by
   have a := zAp hup
   have b : B ^ (s - 1) ≤ m * 2 ^ k := by
     have : B ^ (s - 1) * 1 ≤ B ^ (s - 1) * 2147483648 := Nat.mul_le_mul_left _ (by decide)
     omega
   have c := zNC b
   omega
 refine ⟨hlen, ?_⟩
 obtain ⟨t2, low2, e2, _, _, hv2, hlow2⟩ := zGK hs hlen
 rw [e2]
 rcases Nat.lt_or_ge t2 2147483648 with z | z
 · exfalso
   have : B ^ (s - 1) * (t2 + 1) ≤ B ^ (s - 1) * 2147483648 := Nat.mul_le_mul_left _ (by omega)
   rw [Nat.mul_add] at this
   omega
 · omega
theorem k_more {t k : Nat} (ht : 0 < t) (h : t * 2 ^ k < 4294967296) (hk : k ≤ 31) (h0 : t * 2 ^ k / 2 ^ 31 = 0) : t * 2 ^ (k + 1) < 4294967296 ∧ k + 1 ≤ 31 := by
 have h1 : t * 2 ^ k < 2147483648 := by
   rcases Nat.lt_or_ge (t * 2 ^ k) 2147483648 with q | q
   · exact q
   · have := Nat.div_le_div_right (c := 2 ^ 31) q
     rw [h0] at this
     exact absurd this (by decide)
 refine ⟨by rw [Nat.pow_succ, ← Nat.mul_assoc]; omega, ?_⟩
 rcases Nat.lt_or_ge k 31 with q | q
 · exact q
 · exfalso
   have : k = 31 := by omega
   subst this
   have : 1 * 2 ^ 31 ≤ t * 2 ^ 31 := Nat.mul_le_mul_right _ ht
   have e : (2 : Nat) ^ 31 = 2147483648 := by decide
   rw [e] at this h1
   omega
theorem k_stop {t k : Nat} (h0 : ¬ t * 2 ^ k / 2 ^ 31 = 0) : 2147483648 ≤ t * 2 ^ k := by
 rcases Nat.lt_or_ge (t * 2 ^ k) 2147483648 with q | q
 · exact absurd (Nat.div_eq_of_lt (by have e : (2 : Nat) ^ 31 = 2147483648 := by decide
                                      rw [e]; exact q)) h0
 · exact q
/-- Where the quotient's digits begin. -/
theorem zQY {n ln v s k : Nat} (hn : n < B ^ ln) (hk : k ≤ 31) (hs : 1 ≤ s) (hsl : s ≤ ln) (hv : B ^ (s - 1) * 2147483648 ≤ v) : n * 2 ^ k < v * B ^ (ln + 1 - s) := by
 have hp : 2 ^ k ≤ 2147483648 := Nat.le_trans (Nat.pow_le_pow_right (show 0 < 2 by decide) hk) (by decide)
 have h1 : n * 2 ^ k ≤ n * 2147483648 := Nat.mul_le_mul_left _ hp
 have h2 : B ^ (s - 1) * 2147483648 * B ^ (ln + 1 - s) ≤ v * B ^ (ln + 1 - s) := Nat.mul_le_mul_right _ hv
 have h3 : B ^ (s - 1) * 2147483648 * B ^ (ln + 1 - s) = B ^ ln * 2147483648 := by
   have e : B ^ ln = B ^ (s - 1) * B ^ (ln + 1 - s) := by rw [← Nat.pow_add]; congr 1; omega
   rw [e]; ac_rfl
 omega
theorem top_ge {v s : Nat} (hs : 1 ≤ s) (hl : (zY v).length = s) (h : 2147483648 ≤ (zY v).getD (s - 1) 0) : B ^ (s - 1) * 2147483648 ≤ v := by
 obtain ⟨t, low, e, _, _, hv, _⟩ := zGK hs hl
 have : B ^ (s - 1) * 2147483648 ≤ B ^ (s - 1) * t := Nat.mul_le_mul_left _ (by omega)
 omega
/-- One zBX: the rest. -/
theorem quo_step {W v s j N : Nat} (hv0 : 0 < v) (hv : v < B ^ s) (hW : W < v * B ^ (j + 1)) (hN : j + (s + 1) ≤ N) :
   zBp N W = zBp j W ++ (zBp (s + 1) (W / B ^ j) ++ zBp (N - (j + (s + 1))) (W / B ^ j / B ^ (s + 1))) ∧ zc (zBp (s + 1) (W / B ^ j)) = W / B ^ j ∧ W / B ^ j < 4294967296 * v ∧
     ∃ W', zBp j W ++ (zBp (s + 1) (W / B ^ j % v) ++ zBp (N - (j + (s + 1))) (W / B ^ j / B ^ (s + 1))) = zBp N W' ∧ W' < v * B ^ j ∧ W' + B ^ j * (v * (W / B ^ j / v)) = W := by
 have hP := bpos j
 have h1 : W / B ^ j < 4294967296 * v := by
   refine Nat.div_lt_of_lt_mul ?_
   have : v * B ^ (j + 1) = B ^ j * (4294967296 * v) := by rw [Nat.pow_succ]; unfold B; ac_rfl
   rw [← this]; exact hW
 have h2 : W / B ^ j < B ^ (s + 1) := by
   have : 4294967296 * v ≤ 4294967296 * B ^ s := Nat.mul_le_mul_left _ (by omega)
   rw [Nat.pow_succ, Nat.mul_comm (B ^ s)]
   exact Nat.lt_of_lt_of_le h1 this
 have h3 : W / B ^ j / B ^ (s + 1) = 0 := Nat.div_eq_of_lt h2
 have hr : W / B ^ j % v < v := Nat.mod_lt _ hv0
 have hvs : v < B ^ (s + 1) := Nat.lt_of_lt_of_le hv (Nat.pow_le_pow_right (by decide) (by omega))
 refine ⟨?_, zIB _ _ h2, h1, W % B ^ j + B ^ j * (W / B ^ j % v), ?_, ?_, ?_⟩
 · rw [← zFV, ← zFV]
   congr 1; omega
 · have e1 : (W % B ^ j + B ^ j * (W / B ^ j % v)) / B ^ j = W / B ^ j % v := by
     rw [Nat.add_mul_div_left _ _ hP, Nat.div_eq_of_lt (Nat.mod_lt _ hP), Nat.zero_add]
   have e2 : (W % B ^ j + B ^ j * (W / B ^ j % v)) % B ^ j = W % B ^ j := by
     rw [Nat.add_mul_mod_self_left, Nat.mod_mod]
   rw [show N = j + ((s + 1) + (N - (j + (s + 1)))) by omega, zFV j, zFV (s + 1), e1, h3, zOe e2.symm]
   rw [show j + (s + 1 + (N - (j + (s + 1)))) - (j + (s + 1)) = N - (j + (s + 1)) by omega, Nat.div_eq_of_lt (Nat.lt_trans hr hvs)]
 · have h5 : B ^ j * (W / B ^ j % v + 1) ≤ B ^ j * v := Nat.mul_le_mul_left _ hr
   have h6 := Nat.mod_lt W hP
   rw [Nat.mul_add] at h5
   rw [Nat.mul_comm v]
   omega
 · have a := Nat.div_add_mod W (B ^ j)
   have b := Nat.div_add_mod (W / B ^ j) v
   have c : B ^ j * (v * (W / B ^ j / v)) + B ^ j * (W / B ^ j % v) = B ^ j * (W / B ^ j) := by rw [← Nat.mul_add, b]
   omega
theorem quo_end {n m k W Q : Nat} (hm : 0 < m) (h : Q * (m * 2 ^ k) + W = n * 2 ^ k) (hW : W < m * 2 ^ k) : Q = n / m ∧ W = n % m * 2 ^ k := by
 have hk : 0 < 2 ^ k := Nat.pow_pos (by decide)
 have h0 : 0 < m * 2 ^ k := Nat.mul_pos hm hk
 have e1 : n * 2 ^ k / (m * 2 ^ k) = n / m := Nat.mul_div_mul_right _ _ hk
 have e2 : n * 2 ^ k % (m * 2 ^ k) = n % m * 2 ^ k := Nat.mul_mod_mul_right ..
 rw [← h] at e1 e2
 rw [Nat.add_comm, Nat.add_mul_div_right _ _ h0, Nat.div_eq_of_lt hW, Nat.zero_add] at e1
 rw [Nat.add_comm, Nat.add_mul_mod_self_right, Nat.mod_eq_of_lt hW] at e2
 exact ⟨e1, e2⟩
/-- A limb shifted back by k bits. -/
theorem zQa {d e k : Nat} (hd : d < 4294967296) (hk : k ≤ 31) : d / 2 ^ k ||| e * 2 ^ (32 - k) % 4294967296 = d / 2 ^ k + e % 2 ^ k * 2 ^ (32 - k) := by
 have hp : 0 < 2 ^ (32 - k) := Nat.pow_pos (by decide)
 have e1 : (4294967296 : Nat) = 2 ^ k * 2 ^ (32 - k) := by rw [← Nat.pow_add, show k + (32 - k) = 32 by omega]
 have e2 : e * 2 ^ (32 - k) % 4294967296 = e % 2 ^ k * 2 ^ (32 - k) := by
   rw [e1]; exact Nat.mul_mod_mul_right ..
 have h1 : d / 2 ^ k < 2 ^ (32 - k) := by
   refine Nat.div_lt_of_lt_mul ?_
   rw [← e1]; exact hd
 rw [e2]
 have := Nat.two_pow_add_eq_or_of_lt h1 (e % 2 ^ k)
 rw [Nat.or_comm, Nat.mul_comm (e % 2 ^ k), ← this, Nat.add_comm]
theorem back_lim {d e k : Nat} (hd : d < 4294967296) (hk : k ≤ 31) : d / 2 ^ k + e % 2 ^ k * 2 ^ (32 - k) < 4294967296 := by
 have e1 : (4294967296 : Nat) = 2 ^ k * 2 ^ (32 - k) := by rw [← Nat.pow_add, show k + (32 - k) = 32 by omega]
 have h1 : d / 2 ^ k < 2 ^ (32 - k) := by
   refine Nat.div_lt_of_lt_mul ?_
   rw [← e1]; exact hd
 have h2 : (e % 2 ^ k + 1) * 2 ^ (32 - k) ≤ 2 ^ k * 2 ^ (32 - k) := Nat.mul_le_mul_right _ (Nat.mod_lt _ (Nat.pow_pos (by decide)))
 rw [Nat.add_mul, ← e1] at h2
 omega
theorem back_val {out r : List Int} {i k d e : Nat} (hk : k ≤ 31) (hl : out.length = i) (hd : r.getD i 0 = (d : Int)) {d0 : Nat} (h : zc out * 2 ^ k + d0 = zc (r.take i) + (d % 2 ^ k) * B ^ i) :
   zc (out ++ [((d / 2 ^ k + e % 2 ^ k * 2 ^ (32 - k) : Nat) : Int)]) * 2 ^ k + d0 = zc (r.take (i + 1)) + (e % 2 ^ k) * B ^ (i + 1) := by
 rw [zDi, hl, Int.toNat_natCast, zz, hd, Int.toNat_natCast, Nat.pow_succ]
 have e1 : (4294967296 : Nat) = 2 ^ (32 - k) * 2 ^ k := by rw [← Nat.pow_add, show 32 - k + k = 32 by omega]
 have e2 := Nat.div_add_mod d (2 ^ k)
 have e3 : B ^ i * (d / 2 ^ k + e % 2 ^ k * 2 ^ (32 - k)) * 2 ^ k = B ^ i * (2 ^ k * (d / 2 ^ k)) + e % 2 ^ k * (B ^ i * B) := by
   rw [show B = 2 ^ (32 - k) * 2 ^ k from e1]
   generalize (2 ^ (32 - k) * 2 ^ k) ^ i = p
   rw [Nat.mul_add, Nat.add_mul]
   congr 1 <;> ac_rfl
 have e4 : B ^ i * (2 ^ k * (d / 2 ^ k)) + (d % 2 ^ k) * B ^ i = B ^ i * d := by
   rw [Nat.mul_comm (d % 2 ^ k), ← Nat.mul_add, e2]
 rw [Nat.add_mul, e3]
 omega
end Go.Ax.Bg
namespace Go.Proofs.YtnkealfaldjipaaGreatDoor
open Go.Ax Go.Ax.Bg Go.RowKit
attribute [local irreducible] Ax zAM QOp zO
set_option maxRecDepth 100000
set_option maxHeartbeats 4000000
theorem clone_ok (n : Nat) (h : (zY n).length ≤ 1000000) : zW Tryz.prog 204 [zAJ n] (zAJ n) := by
 unfold zAJ
 generalize zY n = l at *
 refine zO.value (K := fun r H => r = .sl 0 0 l.length ∧ H = [some ⟨224, .ints .u32 l⟩]) (zF (P := Tryz.prog) (fn := Tryz.f204) rfl rfl (by kernel_rfl) rfl (fun c hR hfix => ?_)) (fix := fun _ => False) (fun _ h => h) rfl ?_
 · refine rn0 ?_
   refine zJX rfl rfl rfl (fun b hb => ?_)
   refine rn0 ?_
   refine zDM rfl (fun h => ?_) (fun h => ?_)
   · have := hb h
     have hn : l = [] := List.length_eq_zero_iff.mp this
     subst hn
     repeat (first | refine zC (zK rfl) ?_ | refine zB ?_ | refine zA ?_ | refine zZ ?_ | refine zL rfl ?_)
     refine zA1 2 ⟨224, .ints .u32 []⟩ rfl rfl ?_
     refine rn2 ?_
     exact zH hR rfl ⟨rfl, rfl⟩
   · refine rn1 ?_
     refine zDn rfl rfl rfl rfl rfl rfl rfl rfl rfl rfl ?_
     refine zAz [some ⟨224, .ints .u32 []⟩] (zAG.eqv ⟨rfl, rfl, fun i j hi => absurd hi (Nat.not_lt_zero _)⟩ zAG.nil) ?_
     repeat (refine zC (zI rfl) ?_)
     refine zm rfl rfl rfl rfl rfl rfl rfl rfl rfl rfl rfl rfl (by show 0 + l.length ≤ l.length; omega) rfl (by show (0 + l.length) * 4 ≤ _ ∧ _; omega) (fun i j _ _ => rfl) (by rw [hfix]; exact fun h => h) ?_
     refine rn0 ?_
     refine zH hR rfl ⟨?_, ?_⟩
     · show AV.sl 0 0 (0 + l.length) = _; rw [Nat.zero_add]
     · show ([some ⟨224, .ints .u32 ([] ++ List.take l.length (List.drop 0 l))⟩] : zV) = _
       simp
 · rintro r H ⟨rfl, rfl⟩
   exact ⟨rfl, fun o ho => by simp at ho; subst ho; exact Nat.le_of_eq (by simp [Cells.len]), zGE zAW⟩
theorem div_less (n m : Nat) (h : n < m) (hn : (zY n).length ≤ 1000000) (hm : (zY m).length ≤ 1000000) : zW Tryz.prog 158 [zAJ n, zAJ m] (.tup [.nil, zAJ n]) := by
 have hc := zME n m (by omega) (by omega)
 rw [zHy (Int.ofNat_lt.2 h)] at hc
 have hcl := clone_ok n hn
 refine zO.value0 (zF (P := Tryz.prog) (fn := Tryz.f158) rfl rfl (by kernel_rfl) rfl (fun c hR hfix => ?_)) (fix := fun _ => False) (fun _ h => h) rfl rfl
 refine rn0 ?_
 refine zE rfl rfl rfl hc ?_
 refine rn5 ?_
 refine zE rfl rfl rfl hcl ?_
 refine rn2 ?_
 exact zH hR rfl rfl
theorem zPs {n m : Nat} (h : m ≤ n) : ¬ zDg n m < 0 := by
 rcases Nat.lt_or_ge m n with q | q
 · rw [zHf (Int.ofNat_lt.2 q)]; decide
 · rw [zPY (by omega)]; decide
theorem div_one (n m : Nat) (h : m ≤ n) (hn : (zY n).length ≤ 1000000) (hm : (zY m).length = 1) : zW Tryz.prog 158 [zAJ n, zAJ m] (.tup [zAJ (n / m), zAJ (n % m)]) := by
 have hc := zME n m (by omega) (by omega)
 have hcn := zPs h
 obtain ⟨t, low, ht, htb, htp, hv, hlow⟩ := zGK (Nat.le_refl 1) hm
 have hmt : m = t := by
   simp at hv hlow
   subst hlow
   rw [hv]; simp
 subst hmt
 have hds := zI8 (zY n) m (zAZ n) (by omega) ⟨htp, htb⟩
 rw [zAA] at hds
 have hr : n % m < 4294967296 := Nat.lt_trans (Nat.mod_lt _ htp) htb
 have hsm := zKb (n % m) (by omega)
 refine zO.value0 (zF (P := Tryz.prog) (fn := Tryz.f158) rfl rfl (by kernel_rfl) rfl (fun c hR hfix => ?_)) (fix := fun _ => False) (fun _ h => h) rfl rfl
 refine rn0 ?_
 refine zE rfl rfl rfl hc ?_
 refine rn4 ?_
 refine zD rfl (fun q => absurd q hcn) (fun q => ?_)
 unfold zAJ
 refine rn4 ?_
 rw [hm]
 refine rn6 ?_
 refine zN 31 (.int .u32 (m : Nat)) rfl (AEq.of_eq (by congr 1)) ?_
 refine zE rfl rfl rfl hds ?_
 refine rn2 ?_
 refine zC (zAX (m := n % m) rfl rfl rfl zBD (by omega)) ?_
 refine zE rfl rfl rfl hsm ?_
 refine rn2 ?_
 exact zH hR rfl rfl
end Go.Proofs.YtnkealfaldjipaaGreatDoor
namespace Go.Proofs.YtnkealfaldjipaaGreatDoor
open Go.Ax Go.Ax.Bg Go.RowKit
attribute [local irreducible] Ax zAM QOp zO
set_option maxRecDepth 100000
set_option maxHeartbeats 4000000
theorem div_many (n m : Nat) (h : m ≤ n) (hn : (zY n).length ≤ 1000000) (hm2 : 2 ≤ (zY m).length) : zW Tryz.prog 158 [zAJ n, zAJ m] (.tup [zAJ (n / m), zAJ (n % m)]) := by
 have hlm : (zY m).length ≤ (zY n).length := zAp (by have := zAw (zAZ n); rw [zAA] at this; omega)
 have hc := zME n m (by omega) (by omega)
 have hcn := zPs h
 have hm0 : 0 < m := by
   rcases Nat.eq_zero_or_pos m with q | q
   · subst q; rw [zBa] at hm2; simp at hm2
   · exact q
 have hnB : n < B ^ (zY n).length := by have := zAw (zAZ n); rwa [zAA] at this
 obtain ⟨s, hs⟩ : ∃ s, (zY m).length = s := ⟨_, rfl⟩
 obtain ⟨ln, hln⟩ : ∃ ln, (zY n).length = ln := ⟨_, rfl⟩
 rw [hs] at hm2 hlm
 rw [hln] at hn hnB hlm
 obtain ⟨t, low, ht, htb, htp, hv, hlow⟩ := zGK (show 1 ≤ s by omega) hs
 refine zO.value0 (zF (P := Tryz.prog) (fn := Tryz.f158) rfl rfl (by kernel_rfl) rfl (fun c hR hfix => ?_)) (fix := fun _ => False) (fun _ h => h) rfl rfl
 refine rn0 ?_
 refine zE rfl rfl rfl hc ?_
 refine rn4 ?_
 refine zD rfl (fun q => absurd q hcn) (fun q => ?_)
 have en : zAJ n = .ro (.ints .u32 (zY n)) 0 ln := by unfold zAJ; rw [hln]
 have em : zAJ m = .ro (.ints .u32 (zY m)) 0 s := by unfold zAJ; rw [hs]
 rw [en, em]
 refine rn4 ?_
 refine zD rfl (fun q => absurd q (by omega)) (fun q => ?_)
 refine rn1 ?_
 refine zg (ι := Nat) (fun k => [(0, .ro (.ints .u32 (zY n)) 0 ln), (1, .ro (.ints .u32 (zY m)) 0 s), (8, .int .i64 (k : Nat))]) (fun _ => []) (fun k => k ≤ 31 ∧ t * 2 ^ k < 4294967296) (fun k => 32 - k) 0 ⟨⟨rfl, rfl, rfl, trivial⟩, rfl, by omega, by rw [Nat.pow_zero, Nat.mul_one]; exact htb⟩ ?_
 rintro k ⟨hk1, hk2⟩
 repeat (first | refine zC (zI rfl) ?_ | refine zZ ?_ | refine zL rfl ?_ | refine zC (zBE rfl rfl rfl) ?_ | refine zC (zBk rfl rfl (by omega)) ?_)
 refine zN 42 (.int .i64 (s - 1 : Nat)) rfl (AEq.of_eq (by congr 1; omega)) ?_
 refine rn6 ?_
 refine zN 44 (.int .u32 (t : Nat)) rfl (AEq.of_eq (by rw [ht])) ?_
 skip
 refine zC (zJ0 (m := t) (s := k) rfl rfl (by show k ≤ 32; omega) zEh hk2) ?_
 refine zC (zFu (s := 31) rfl rfl rfl) ?_
 refine rn4 ?_
 refine zD rfl (fun q1 => ?_) (fun q1 => ?_)
 · have hmore := k_more htp hk2 hk1 (by omega)
   refine rn5 ?_
   exact zM ⟨k + 1, ⟨hmore.2, hmore.1⟩, by omega, ⟨rfl, rfl, rfl, trivial⟩, rfl⟩
 have hstop := k_stop (t := t) (k := k) (by omega)
 obtain ⟨hnl, hnt⟩ := norm_top (show 1 ≤ s by omega) hs ht hstop hk2 hk1
 have hsn := zNe (zY n) k (zAZ n) (by omega) (by omega)
 have hsm := zNe (zY m) k (zAZ m) (by omega) (by omega)
 rw [zAA, hln] at hsn
 rw [zAA, hs] at hsm
 have hvB : m * 2 ^ k < B ^ s := by have := zAw (zAZ (m * 2 ^ k)); rwa [zAA, hnl] at this
 have hvB1 : m * 2 ^ k < B ^ (s + 1) := Nat.lt_of_lt_of_le hvB (Nat.pow_le_pow_right (by decide) (by omega))
 have hnorm := zDk (zBp (s + 1) (m * 2 ^ k)) (zFY _ _) (by rw [zBn]; omega)
 rw [zIB _ _ hvB1] at hnorm
 have hstart := zQY hnB hk1 (show 1 ≤ s by omega) hlm (top_ge (show 1 ≤ s by omega) hnl hnt)
 have hv0 : 0 < m * 2 ^ k := Nat.mul_pos hm0 (Nat.pow_pos (by decide))
 have ev : zAJ (m * 2 ^ k) = .ro (.ints .u32 (zY (m * 2 ^ k))) 0 s := by unfold zAJ; rw [hnl]
 have hdig := fun (A U C : List Int) (j : Nat) (Hr : zV) (hj : A.length = j) (hl : U.length = s + 1) (hU : Lim U) => digit_ok A U C (zY (m * 2 ^ k)) j s Hr hj hm2 hl hnl hU (zAZ _) hnt
 rw [zAA] at hdig
 have hend := fun Q W => quo_end (n := n) (m := m) (k := k) (W := W) (Q := Q) hm0
 obtain ⟨v, hve⟩ : ∃ v, m * 2 ^ k = v := ⟨_, rfl⟩
 rw [hve] at hsm hvB hvB1 hnorm hstart hv0 ev hdig hend hnl
 refine rn5 ?_
 have c1 : [AV.ro (.ints .u32 (zY n)) 0 ln, .int .i64 (k : Nat)] ++ [] = [zFq (zY n), .int .i64 (k : Nat)] := by unfold zFq; rw [hln]; rfl
 have c2 : [AV.ro (.ints .u32 (zY m)) 0 s, .int .i64 (k : Nat)] ++ [] = [zFq (zY m), .int .i64 (k : Nat)] := by unfold zFq; rw [hs]; rfl
 refine zCJ rfl rfl c1 hsn ?_
 repeat (refine zC (zI rfl) ?_)
 refine zCJ rfl rfl c2 hsm ?_
 refine zCu 1 56 (s + 1) [(0, .ro (.ints .u32 (zY n)) 0 ln), (8, .int .i64 (k : Nat)), (53, .sl 0 0 (ln + 1))] rfl zAW rfl (by show _ ≤ (zBp _ _).length; rw [zBn]; omega) ⟨rfl, rfl, rfl, trivial⟩ ?_
 refine zE rfl rfl (zC7 (zBn _ _)) hnorm ?_
 rw [ev]
 repeat (first | refine zC (zI rfl) ?_ | refine zC (zK rfl) ?_ | refine zB ?_ | refine zA ?_ | refine zZ ?_ | refine zL rfl ?_ | refine zC (zBE rfl rfl rfl) ?_ | refine zC (zBk rfl rfl (by omega)) ?_)
 refine zCC rfl rfl rfl rfl rfl rfl rfl rfl (by show (0 : Int) ≤ _ ∧ _ ≤ _ ∧ (4 : Int) * _ ≤ _ ∧ _; omega) ?_
 obtain ⟨J, hJ⟩ : ∃ J, J + s = ln + 1 := ⟨ln + 1 - s, by omega⟩
 rw [show (((ln + 1 : Nat) : Int) - (s : Nat)).toNat = J by omega]
 rw [show ln + 1 - s = J by omega] at hstart
 repeat (first | refine zC (zI rfl) ?_ | refine zC (zK rfl) ?_ | refine zB ?_ | refine zA ?_ | refine zZ ?_ | refine zL rfl ?_ | refine zw ?_ | refine zC (zBE rfl rfl rfl) ?_ | refine zC (zBk rfl rfl (by omega)) ?_)
 refine zg (ι := Nat × Nat × List Int) (fun p => [(8, .int .i64 (k : Nat)), (9, .sl 0 0 (ln + 1)), (10, .ro (.ints .u32 (zY v)) 0 s), (11, .int .i64 (s : Nat)), (12, .sl 2 0 J), (13, .int .i64 ((p.1 : Int) - 1))]) (fun p => [some ⟨224, .ints .u32 (zBp (ln + 1) p.2.1)⟩, none, some ⟨224, .ints .u32 p.2.2⟩])
   (fun p => p.1 ≤ J ∧ p.2.1 < v * B ^ p.1 ∧ p.2.2.length = J ∧ Lim p.2.2 ∧ (∀ x, x < p.1 → p.2.2.getD x 0 = 0) ∧ zc p.2.2 * v + p.2.1 = n * 2 ^ k) (fun p => p.1) (J, n * 2 ^ k, List.replicate J 0)
   ⟨⟨rfl, rfl, rfl, rfl, rfl, ?_, trivial⟩, rfl, Nat.le_refl _, hstart, by simp, Lim.zeros _, fun x _ => zMt _ _, by simp [zHT]⟩ ?_
 · show some (AV.int .i64 _) = _
   congr 2
   omega
 rintro ⟨j1, W, Q⟩ ⟨w1, w2, w3, w4, w5, w6⟩
 simp only at *
 repeat (first | refine zC (zI rfl) ?_ | refine zB ?_ | refine zA ?_ | refine zZ ?_ | refine zL rfl ?_ | refine zC (zCX rfl rfl) ?_)
 refine zD rfl (fun q2 => ?_) (fun q2 => ?_)
 · obtain ⟨j, rfl⟩ : ∃ j, j1 = j + 1 := ⟨j1 - 1, by omega⟩
   obtain ⟨p1, p2, p3, W', p4, p5, p6⟩ := quo_step (N := ln + 1) hv0 hvB w2 (show j + (s + 1) ≤ ln + 1 by omega)
   have hd := hdig (zBp j W) (zBp (s + 1) (W / B ^ j)) (zBp (ln + 1 - (j + (s + 1))) (W / B ^ j / B ^ (s + 1))) j [none, some ⟨224, .ints .u32 Q⟩] (zBn _ _) (zBn _ _) (zFY _ _) (by rw [p2]; exact p3) (by rw [← p1, zBn]; omega)
   rw [p2, p4, ← p1] at hd
   have hq : W / B ^ j / v < 4294967296 := Nat.div_lt_of_lt_mul (by rw [Nat.mul_comm]; exact p3)
   obtain ⟨dg, hdg⟩ : ∃ dg, W / B ^ j / v = dg := ⟨_, rfl⟩
   rw [hdg] at hd hq p6
   repeat (first | refine zC (zI rfl) ?_ | refine zA ?_ | refine zZ ?_ | refine zL rfl ?_ | refine zw ?_ | refine zi ?_ | refine zC (zDJ rfl rfl (by omega)) ?_ | refine zC (zHO rfl rfl rfl rfl rfl rfl rfl rfl (by omega)) ?_)
   refine zN 82 (.sl 0 j (s + 1)) rfl (AEq.of_eq (by congr 1 <;> omega)) ?_
   skip
   have c3 : [AV.sl 0 j (s + 1), .ro (.ints .u32 (zY v)) 0 s] ++ [] = [.sl 0 j (s + 1), zFq (zY v)] := by unfold zFq; rw [hnl]; rfl
   refine zJo rfl rfl c3 hd (fun h hh => hh) (fun h hh => hh) ?_
   rintro r H ⟨rfl, rfl⟩
   refine zN 75 (.int .i64 (j : Nat)) rfl (AEq.of_eq (by congr 1; omega)) ?_
   repeat (first | refine zC (zI rfl) ?_ | refine zC (zK rfl) ?_ | refine zB ?_ | refine zA ?_ | refine zL rfl ?_ | refine za ?_ | refine zC (zBk rfl rfl (by omega)) ?_ | refine zC (ze rfl rfl rfl rfl rfl (by first | (simp only [Nat.zero_add, Int.toNat_natCast, Int.toNat_zero]; exact rfl) | exact rfl) (by omega)) ?_ | refine zAt rfl rfl rfl rfl rfl rfl rfl (by first | assumption | (show _ < List.length _; first | assumption | omega)) ?_)
   have hz := w5 j (by omega)
   have hset := zKG (x := (dg : Int)) (show j < Q.length by omega)
   rw [hz, Int.toNat_natCast] at hset
   have z0 : (0 : Int).toNat = 0 := rfl
   rw [z0, Nat.mul_zero, Nat.add_zero] at hset
   refine zM ⟨(j, W', Q.set j (dg : Int)), ⟨by simp only; omega, p5, by simp [w3], w4.set (by omega), fun x hx => ?_, ?_⟩, by simp only; omega, ⟨rfl, rfl, rfl, rfl, rfl, ?_, trivial⟩, rfl⟩
   · simp only at hx ⊢
     rw [zDP (by omega)]; exact w5 x (by omega)
   · simp only
     rw [hset, Nat.add_mul, Nat.mul_assoc, Nat.mul_comm dg v]
     omega
   · show some (AV.int .i64 _) = _
     congr 2
     omega
 · have hj0 : j1 = 0 := by omega
   subst hj0
   rw [Nat.pow_zero, Nat.mul_one] at w2
   have he := hend (zc Q) W
   obtain ⟨hq, hW⟩ := he w6 w2
   clear he hend
   have hWB : W < B ^ s := Nat.lt_trans w2 hvB
   have htk : (zBp (ln + 1) W).take s = zBp s W := by
     rw [show ln + 1 = s + J by omega, zFV, List.take_left' (zBn _ _)]
   have hn1 := zDk (zBp s W) (zFY _ _) (by rw [zBn]; omega)
   rw [zIB _ _ hWB] at hn1
   refine rn5 ?_
   refine zC (zI6 rfl rfl rfl rfl rfl rfl rfl rfl ⟨rfl, by omega, by omega⟩) ?_
   refine zN 88 (.sl 0 0 s) rfl (AEq.of_eq (by rw [Int.toNat_natCast])) ?_
   refine zCu 0 88 s [(8, .int .i64 (k : Nat)), (12, .sl 2 0 J)] rfl zAW rfl (by show _ ≤ (zBp _ _).length; rw [zBn]; omega) ⟨rfl, rfl, trivial⟩ ?_
   refine zN 88 (.ro (.ints .u32 (zBp s W)) 0 s) rfl (AEq.trans AEq.take (AEq.of_eq (by rw [htk]))) ?_
   refine zE rfl rfl (zC7 (zBn _ _)) hn1 ?_
   have hlW := zAZ W
   have hWv := zAA W
   have hlWl : (zY W).length ≤ s := zAp hWB
   unfold zAJ
   obtain ⟨r, hr⟩ : ∃ r, zY W = r := ⟨_, rfl⟩
   rw [hr] at hlW hWv hlWl ⊢
   refine rn3 ?_
   refine zCC rfl rfl rfl rfl rfl rfl rfl rfl (by show (0 : Int) ≤ _ ∧ _ ≤ _ ∧ (4 : Int) * _ ≤ _ ∧ _; omega) ?_
   refine rn3 ?_
   have hd0 : ∃ d0 : Nat, r.getD 0 0 = (d0 : Int) ∧ d0 < 4294967296 := hlW.nat 0
   obtain ⟨d0, hd0, hd0b⟩ := hd0
   refine zg (ι := Nat × List Int) (fun p => [(8, .int .i64 (k : Nat)), (12, .sl 2 0 J), (14, .ro (.ints .u32 r) 0 r.length), (15, .sl 3 0 r.length), (93, .ro (.ints .u32 r) 0 r.length), (94, .int .i64 (r.length : Nat)), (95, .int .i64 (p.1 : Nat))]) (fun p => [none, none, some ⟨224, .ints .u32 Q⟩, some ⟨224, .ints .u32 p.2⟩])
     (fun p => p.1 ≤ r.length ∧ p.2.length = r.length ∧ Lim p.2 ∧ zc (p.2.take p.1) * 2 ^ k + d0 % 2 ^ k = zc (r.take p.1) + (r.getD p.1 0).toNat % 2 ^ k * B ^ p.1) (fun p => r.length - p.1) (0, List.replicate r.length 0)
     ⟨⟨rfl, rfl, rfl, rfl, rfl, rfl, rfl, trivial⟩, rfl, Nat.zero_le _, by simp, Lim.zeros _, by simp [zc]; rw [show r[0]?.getD 0 = (d0 : Int) from hd0]; simp⟩ ?_
   rintro ⟨i, O⟩ ⟨x1, x2, x3, x4⟩
   simp only at *
   refine rn4 ?_
   refine zD rfl (fun x5 => ?_) (fun x5 => ?_)
   · have hil : i < r.length := by omega
     obtain ⟨d, hd, hdb⟩ := hlW.nat i
     obtain ⟨e, he, heb⟩ := hlW.nat (i + 1)
     have hbl := zQa (e := e) hdb hk1
     have hbm := back_lim (e := e) hdb hk1
     have hdk : d / 2 ^ k < 4294967296 := Nat.lt_of_le_of_lt (Nat.div_le_self _ _) hdb
     rw [hd, Int.toNat_natCast] at x4
     have hstep := back_val (e := e) (out := O.take i) (i := i) hk1 (by simp; omega) hd x4
     refine rn6 ?_
     refine zN 102 (.int .u32 (d : Nat)) rfl (AEq.of_eq (by rw [hd])) ?_
     skip
     refine zC (zFu (m := d) (s := k) rfl rfl (by rw [Nat.ble_eq]; show k ≤ 32; omega)) ?_
     repeat (first | refine zC (zI rfl) ?_ | refine zB ?_ | refine zA ?_ | refine zZ ?_ | refine zL rfl ?_ | refine zC (zLZ rfl rfl) ?_ | refine zC (zBE rfl rfl rfl) ?_ | refine zC (zDJ rfl rfl (by omega)) ?_ | refine zC (ze rfl rfl rfl rfl rfl (by first | (simp only [Nat.zero_add, Int.toNat_natCast, Int.toNat_zero]; exact rfl) | exact rfl) (by omega)) ?_ | refine zAt rfl rfl rfl rfl rfl rfl rfl (by first | assumption | (show _ < List.length _; first | assumption | omega)) ?_)
     apply zAv (H := [none, none, some ⟨224, .ints .u32 Q⟩, some ⟨224, .ints .u32 (O.set i ((d / 2 ^ k + e % 2 ^ k * 2 ^ (32 - k) : Nat) : Int))⟩]) [(8, .int .i64 (k : Nat)), (12, .sl 2 0 J), (14, .ro (.ints .u32 r) 0 r.length), (15, .sl 3 0 r.length), (93, .ro (.ints .u32 r) 0 r.length), (94, .int .i64 (r.length : Nat)), (95, .int .i64 (i : Nat))]
     · intro fin
       have noFin : (i + 1 = r.length ∨ k = 0) → e % 2 ^ k * 2 ^ (32 - k) = 0 := by
         rintro (h | h)
         · have : r.getD (i + 1) 0 = 0 := by simp [List.getD, List.getElem?_eq_none (show r.length ≤ i + 1 by omega)]
           have : e = 0 := by omega
           subst this; simp
         · subst h; rw [Nat.pow_zero, Nat.mod_one]; try simp
       refine z8 rfl rfl (fun y1 => ?_) (fun y1 => ?_)
       · refine rn6 ?_
         refine zD rfl (fun y2 => ?_) (fun y2 => ?_)
         · skip
           refine zn (by kernel_rfl) ?_
           refine zR 0 rfl (by kernel_rfl) (by kernel_rfl) (by kernel_rfl) rfl (zI rfl) rfl ?_
           refine zR 1 rfl (by kernel_rfl) (by kernel_rfl) (by kernel_rfl) rfl (zI rfl) rfl ?_
           refine zR 2 rfl (by kernel_rfl) (by kernel_rfl) (by kernel_rfl) rfl (ze rfl rfl rfl rfl rfl (by first | (simp only [Nat.zero_add, Int.toNat_natCast, Int.toNat_zero]; exact rfl) | exact rfl) (by omega)) rfl ?_
           refine zR 4 rfl (by kernel_rfl) (by kernel_rfl) (by kernel_rfl) rfl (zI rfl) rfl ?_
           refine zR 5 rfl (by kernel_rfl) (by kernel_rfl) (by kernel_rfl) rfl (zI rfl) rfl ?_
           refine zR 6 rfl (by kernel_rfl) (by kernel_rfl) (by kernel_rfl) rfl (zDJ rfl rfl (by omega)) rfl ?_
           refine zR 7 rfl (by kernel_rfl) (by kernel_rfl) (by kernel_rfl) rfl (zf rfl rfl rfl rfl (by first | (simp only [Nat.zero_add, Int.toNat_natCast, Int.toNat_zero]; exact rfl) | exact rfl) (by omega)) rfl ?_
           refine zR 9 rfl (by kernel_rfl) (by kernel_rfl) (by kernel_rfl) rfl (zI rfl) rfl ?_
           refine zR 10 rfl (by kernel_rfl) (by kernel_rfl) (by kernel_rfl) rfl (zBk rfl rfl (by omega)) rfl ?_
           apply zC4 [(8, .int .i64 (k : Nat)), (12, .sl 2 0 J), (14, .ro (.ints .u32 r) 0 r.length), (15, .sl 3 0 r.length), (93, .ro (.ints .u32 r) 0 r.length), (94, .int .i64 (r.length : Nat)), (95, .int .i64 (i : Nat)), (118, .int .u32 (d / 2 ^ k : Nat)), (126, .int .u32 (e * 2 ^ (32 - k) % 4294967296 : Nat)), (115, .sl 3 0 r.length), (116, .int .i64 (i : Nat))]
           · intro fin2
             have hsl : (O.set i ((d / 2 ^ k : Nat) : Int)).getD i 0 = ((d / 2 ^ k : Nat) : Int) := by simp [List.getD, show i < O.length by omega]
             have hil2 : i < (O.set i ((d / 2 ^ k : Nat) : Int)).length := by simp; omega
             refine zG (is := [3, 8]) (by kernel_rfl) (by simp) rfl ⟨fun o ho => ?_, fun o ho => ?_, trivial⟩
             all_goals (cases ho)
             · repeat (first | refine zB ?_ | refine zj ?_ | refine zC (zAN rfl rfl rfl rfl (by first | assumption | omega)) ?_)
               refine zG (is := [8]) (by kernel_rfl) (by simp) rfl ⟨fun o ho => ?_, trivial⟩
               all_goals (cases ho)
               refine rn6 ?_
               refine zBL 123 (.int .u32 (e : Nat)) rfl (AEq.of_eq (by rw [show ((i : Int) + 1).toNat = i + 1 by omega, he])) ?_
               refine zBL 125 (.int .i64 (32 - k : Nat)) rfl (AEq.of_eq (by congr 1; omega)) ?_
               refine zR 11 rfl (by kernel_rfl) (by kernel_rfl) (by kernel_rfl) rfl (zPT (m := e) (s := 32 - k) rfl rfl (by show 32 - k ≤ 32; omega) zEh) rfl ?_
               refine fin2 _ ⟨rfl, rfl, rfl, rfl, rfl, rfl, rfl, ?_, rfl, rfl, rfl, trivial⟩
               show some (AV.int .u32 ((O.set i ((d / 2 ^ k : Nat) : Int)).getD i 0)) = _
               rw [hsl]
             · refine rn6 ?_
               refine zBL 123 (.int .u32 (e : Nat)) rfl (AEq.of_eq (by rw [show ((i : Int) + 1).toNat = i + 1 by omega, he])) ?_
               refine zBL 125 (.int .i64 (32 - k : Nat)) rfl (AEq.of_eq (by congr 1; omega)) ?_
               refine zR 11 rfl (by kernel_rfl) (by kernel_rfl) (by kernel_rfl) rfl (zPT (m := e) (s := 32 - k) rfl rfl (by show 32 - k ≤ 32; omega) zEh) rfl ?_
               refine zG (is := [3]) (by kernel_rfl) (by simp) rfl ⟨fun o ho => ?_, trivial⟩
               all_goals (cases ho)
               repeat (first | refine zB ?_ | refine zj ?_ | refine zC (zAN rfl rfl rfl rfl (by first | assumption | omega)) ?_)
               refine fin2 _ ⟨rfl, rfl, rfl, rfl, rfl, rfl, rfl, ?_, rfl, rfl, rfl, trivial⟩
               show some (AV.int .u32 ((O.set i ((d / 2 ^ k : Nat) : Int)).getD i 0)) = _
               rw [hsl]
           refine zR 12 rfl (by kernel_rfl) (by kernel_rfl) (by kernel_rfl) rfl (QOp.res (zNL rfl rfl zEh rfl hdk (Nat.mod_lt _ (by decide))) (by rw [hbl])) rfl ?_
           have hil2 : i < (O.set i ((d / 2 ^ k : Nat) : Int)).length := by simp; omega
           refine zR 13 rfl (by kernel_rfl) (by kernel_rfl) (by kernel_rfl) rfl (ze rfl rfl rfl rfl rfl (by first | (simp only [Nat.zero_add, Int.toNat_natCast, Int.toNat_zero]; exact rfl) | exact rfl) (by omega)) rfl ?_
           refine zG (is := [14]) (by kernel_rfl) (by simp) rfl ⟨fun o ho => ?_, trivial⟩
           all_goals (cases ho)
           repeat (first | refine zB ?_ | refine zj ?_ | refine zAt rfl rfl rfl rfl rfl rfl rfl (by first | assumption | (show _ < List.length _; first | assumption | omega)) ?_)
           refine zh (by kernel_rfl) ?_
           repeat (first | refine zA ?_ | refine za ?_)
           refine zBs _ (by show [none, none, _, some (⟨_, .ints .u32 ((O.set i _).set i _)⟩ : AObj)] = _; rw [List.set_set]) ?_
           exact fin _ ⟨rfl, rfl, rfl, rfl, rfl, rfl, rfl, trivial⟩
         · have hz := noFin (.inr (by omega))
           rw [hz, Nat.add_zero] at fin
           repeat (first | refine zA ?_ | refine za ?_ | refine zi ?_)
           exact fin _ ⟨rfl, rfl, rfl, rfl, rfl, rfl, rfl, trivial⟩
       · have hz := noFin (.inl (by omega))
         rw [hz, Nat.add_zero] at fin
         repeat (first | refine zB ?_ | refine zA ?_ | refine zAm rfl rfl rfl ?_ | refine zx rfl ?_ | refine za ?_ | refine zi ?_ | refine zC (zAe rfl rfl) ?_)
         exact fin _ ⟨rfl, rfl, rfl, rfl, rfl, rfl, rfl, trivial⟩
     refine rn3 ?_
     refine zM ⟨(i + 1, O.set i ((d / 2 ^ k + e % 2 ^ k * 2 ^ (32 - k) : Nat) : Int)), ⟨by simp only; omega, by simp [x2], x3.set (by omega), ?_⟩, by simp only; omega, ⟨rfl, rfl, rfl, rfl, rfl, rfl, rfl, trivial⟩, rfl⟩
     simp only
     rw [zFF (by omega), he, Int.toNat_natCast]
     exact hstep
   · have hie : i = r.length := by omega
     subst hie
     have hz : r.getD r.length 0 = 0 := by simp [List.getD]
     have z0 : (0 : Int).toNat = 0 := rfl
     rw [hz, z0, Nat.zero_mod, Nat.zero_mul, Nat.add_zero, List.take_of_length_le (by omega), List.take_length, hWv, hW] at x4
     have hpk : 0 < 2 ^ k := Nat.pow_pos (by decide)
     have hOv : zc O = n % m := by
       have h1 : d0 % 2 ^ k < 2 ^ k := Nat.mod_lt _ hpk
       have h2 : (zc O * 2 ^ k + d0 % 2 ^ k) / 2 ^ k = zc O := by rw [Nat.add_comm, Nat.add_mul_div_right _ _ hpk, Nat.div_eq_of_lt h1, Nat.zero_add]
       rw [x4, Nat.mul_div_cancel _ hpk] at h2
       exact h2.symm
     have nq := zDk Q w4 (by omega)
     have no := zDk O x3 (by omega)
     rw [hq] at nq
     rw [hOv] at no
     refine rn5 ?_
     refine zCu 2 130 J [(15, .sl 3 0 r.length)] rfl zAW rfl (by show _ ≤ Q.length; omega) ⟨rfl, trivial⟩ ?_
     refine zE rfl rfl (zC7 w3) nq ?_
     repeat (refine zC (zI rfl) ?_)
     refine zCu 3 132 r.length [(131, zAJ (n / m))] rfl zAW rfl (by show _ ≤ O.length; omega) ⟨rfl, trivial⟩ ?_
     refine zE rfl rfl (zC7 x2) no ?_
     refine rn0 ?_
     exact zH hR rfl rfl
end Go.Proofs.YtnkealfaldjipaaGreatDoor
namespace Go.Ax.Bg
theorem zFC {a b k : Nat} (h : a < b) (hb : (zY b).length ≤ k) : (zY a).length ≤ k := by
 have h1 := zAw (zAZ b)
 rw [zAA] at h1
 have := zAp (Nat.lt_trans h h1)
 omega
theorem zE3 {a b k : Nat} (h : a ≤ b) (hb : (zY b).length ≤ k) : (zY a).length ≤ k := by
 rcases Nat.lt_or_ge a b with q | q
 · exact zFC q hb
 · have : a = b := by omega
   subst this; exact hb
theorem zGd : zY 1 = [1] := by
 rw [zGB (by decide)]
 have : 1 / B = 0 := by decide
 rw [this, zBa]; rfl
theorem zRM {n : Nat} : n = 1 ↔ (zY n).length = 1 ∧ (zY n).getD 0 0 = 1 := by
 constructor
 · rintro rfl; rw [zGd]; exact ⟨rfl, rfl⟩
 · rintro ⟨h1, h2⟩
   have h3 := zz (zY n) 0
   rw [List.take_of_length_le (by omega), zAA, h2] at h3
   simpa [zc] using h3
/-- A row of which k elements on each side have changed places. -/
def zF5 (l : List (List UInt8)) (k : Nat) : List (List UInt8) := (List.range l.length).map fun i => if i < k ∨ l.length - k ≤ i then l.getD (l.length - 1 - i) [] else l.getD i []
theorem zDA (l : List (List UInt8)) (k : Nat) : (zF5 l k).length = l.length := by unfold zF5; simp
theorem zGk (l : List (List UInt8)) (k i : Nat) (hi : i < l.length) : (zF5 l k).getD i [] = if i < k ∨ l.length - k ≤ i then l.getD (l.length - 1 - i) [] else l.getD i [] := by
 unfold zF5
 simp only [List.getD, List.getElem?_map, List.getElem?_range hi, Option.map_some, Option.getD_some]
theorem zJk {l m : List (List UInt8)} (h : l.length = m.length) (he : ∀ i, i < l.length → l.getD i [] = m.getD i []) : l = m := by
 apply List.ext_getElem h
 intro i h1 h2
 have := he i h1
 rw [zDs [] h1, zDs [] h2] at this
 exact this
theorem zRI (l : List (List UInt8)) : zF5 l 0 = l := by
 refine zJk (zDA l 0) (fun i hi => ?_)
 rw [zDA] at hi
 rw [zGk l 0 i hi, if_neg (by omega)]
theorem zQl (l : List (List UInt8)) {k : Nat} (h : l.length ≤ 2 * k + 1) : zF5 l k = l.reverse := by
 refine zJk (by rw [zDA, List.length_reverse]) (fun i hi => ?_)
 rw [zDA] at hi
 have hr : l.reverse.getD i [] = l.getD (l.length - 1 - i) [] := by
   simp only [List.getD]
   rw [List.getElem?_reverse hi]
 rw [zGk l k i hi, hr]
 split
 · rfl
 · congr 1; omega
theorem zQf (l : List (List UInt8)) {k : Nat} (h : k + 1 + k < l.length) : ((zF5 l k).set k ((zF5 l k).getD (l.length - 1 - k) [])).set (l.length - 1 - k) ((zF5 l k).getD k []) = zF5 l (k + 1) := by
 refine zJk (by simp [zDA]) (fun i hi => ?_)
 simp only [List.length_set, zDA] at hi
 rw [zGk l (k + 1) i hi, zGk l k (l.length - 1 - k) (by omega), if_neg (by omega), zGk l k k (by omega), if_neg (by omega)]
 simp only [List.getD]
 by_cases h1 : i = l.length - 1 - k
 · subst h1
   rw [List.getElem?_set_self (by simp [zDA]; omega), if_pos (by omega)]
   simp only [Option.getD_some]
   congr 2; omega
 · rw [List.getElem?_set_ne (Ne.symm h1)]
   by_cases h2 : i = k
   · subst h2
     rw [List.getElem?_set_self (by rw [zDA]; omega), if_pos (by omega)]
     simp only [Option.getD_some]
   · rw [List.getElem?_set_ne (Ne.symm h2)]
     have := zGk l k i hi
     simp only [List.getD] at this
     rw [this]
     by_cases h3 : i < k ∨ l.length - k ≤ i
     · rw [if_pos h3, if_pos (by omega)]
     · rw [if_neg h3, if_neg (by omega)]
end Go.Ax.Bg
namespace Go.Proofs.YtnkealfaldjipaaGreatDoor
open Go.Ax Go.Ax.Bg Go.RowKit
attribute [local irreducible] Ax zAM QOp zO
set_option maxRecDepth 100000
set_option maxHeartbeats 4000000
theorem zOz (n m : Nat) (hm : 0 < m) (hn : (zY n).length ≤ 1000000) (hml : (zY m).length ≤ 1000000) : zW Tryz.prog 158 [zAJ n, zAJ m] (.tup [zAJ (n / m), zAJ (n % m)]) := by
 rcases Nat.lt_or_ge n m with h | h
 · rw [Nat.div_eq_of_lt h, Nat.mod_eq_of_lt h]
   exact zW.res (div_less n m h hn hml) (AEq.tup2 AEq.natNil)
 · have h1 : (zY m).length ≠ 0 := by
     have := zB9.2 (show m ≠ 0 by omega)
     omega
   rcases Nat.lt_or_ge (zY m).length 2 with q | q
   · exact div_one n m h hn (by omega)
   · exact div_many n m h hn q
theorem gcd_ok (n m : Nat) (hn : (zY n).length ≤ 1000000) (hm : (zY m).length ≤ 1000000) : zW Tryz.prog 96 [zAJ n, zAJ m] (zAJ (Nat.gcd n m)) := by
 refine zO.value0 (zF (P := Tryz.prog) (fn := Tryz.f96) rfl rfl (by kernel_rfl) rfl (fun c hR hfix => ?_)) (fix := fun _ => False) (fun _ h => h) rfl rfl
 refine rn1 ?_
 refine zg (ι := Nat × Nat) (fun p => [(0, zAJ p.1), (1, zAJ p.2)]) (fun _ => []) (fun p => (zY p.1).length ≤ 1000000 ∧ (zY p.2).length ≤ 1000000 ∧ Nat.gcd p.1 p.2 = Nat.gcd n m) (fun p => p.2) (n, m) ⟨⟨rfl, rfl, trivial⟩, rfl, hn, hm, rfl⟩ ?_
 rintro ⟨a, b⟩ ⟨h1, h2, h3⟩
 simp only at *
 have hd := fun h => zOz a b h h1 h2
 have hpos : 0 < (zY b).length ↔ b ≠ 0 := zB9
 have en : zAJ b = .ro (.ints .u32 (zY b)) 0 (zY b).length := rfl
 rw [en] at hd ⊢
 refine rn6 ?_
 refine zD rfl (fun h4 => ?_) (fun h4 => ?_)
 · have hb : b ≠ 0 := hpos.1 (by omega)
   refine rn1 ?_
   refine zE rfl rfl rfl (hd (by omega)) ?_
   refine rn5 ?_
   refine zM ⟨(b, a % b), ⟨h2, zFC (Nat.mod_lt a (by omega)) h2, ?_⟩, Nat.mod_lt a (by omega), ⟨rfl, rfl, trivial⟩, rfl⟩
   show Nat.gcd b (a % b) = Nat.gcd n m
   rw [← h3, Nat.gcd_comm a b, Nat.gcd_rec b a, Nat.gcd_comm]
 · have hb : b = 0 := by
     rcases Nat.eq_zero_or_pos b with q | q
     · exact q
     · have := hpos.2 (by omega); omega
   rw [hb, Nat.gcd_zero_right] at h3
   refine rn5 ?_
   refine zH hR rfl ?_
   rw [← h3]; rfl
theorem one_ok (n : Nat) : zW Tryz.prog 97 [zAJ n] (.bool (decide (n = 1))) := by
 refine zO.value0 (zF (P := Tryz.prog) (fn := Tryz.f97) rfl rfl (by kernel_rfl) rfl (fun c hR hfix => ?_)) (fix := fun _ => False) (fun _ h => h) rfl rfl
 have h1 : n = 1 ↔ (zY n).length = 1 ∧ (zY n).getD 0 0 = 1 := zRM
 unfold zAJ
 refine rn4 ?_
 refine z8 rfl rfl (fun h2 => ?_) (fun h2 => ?_)
 · refine rn6 ?_
   refine zH hR rfl ?_
   show AV.bool (decide ((zY n).getD _ 0 = 1)) = _
   congr 1
   rw [decide_eq_decide, h1]
   exact ⟨fun h => ⟨by omega, h⟩, fun h => h.2⟩
 · refine rn6 ?_
   refine zH hR rfl ?_
   show AV.bool false = _
   rw [decide_eq_false]
   intro h
   exact h2 (by have := (h1.1 h).1; omega)
theorem zOw (l : List (List UInt8)) (hl : l.length ≤ 1000000000) :
   zO Tryz.prog 218 [.sl 0 0 l.length] [some ⟨9, .strs l⟩] (fun h => h < 1) (fun _ H => H = [some ⟨9, .strs l.reverse⟩]) := by
 refine zF (P := Tryz.prog) (fn := Tryz.f218) rfl rfl (by kernel_rfl) rfl (fun c hR hfix => ?_)
 repeat (first | refine zC (zI rfl) ?_ | refine zC (zK rfl) ?_ | refine zB ?_ | refine zA ?_ | refine zZ ?_ | refine zL rfl ?_ | refine zw ?_ | refine zC (zBE rfl rfl rfl) ?_ | refine zC (zBk rfl rfl (by omega)) ?_)
 refine zg (ι := Nat) (fun k => [(0, .sl 0 0 l.length), (2, .int .i64 (k : Nat)), (3, .int .i64 ((l.length : Int) - 1 - k))]) (fun k => [some ⟨9, .strs (zF5 l k)⟩]) (fun k => 2 * k ≤ l.length + 1) (fun k => l.length + 1 - k) 0 ⟨⟨rfl, rfl, ?_, trivial⟩, by rw [zRI], by omega⟩ ?_
 · show some (AV.int .i64 _) = _
   congr 2; omega
 rintro k hk
 have hrl := zDA l k
 refine rn4 ?_
 refine zD rfl (fun h1 => ?_) (fun h1 => ?_)
 · have hk2 : k + 1 + k < l.length := by omega
   have e1 : ((l.length : Int) - 1 - (k : Nat)).toNat = l.length - 1 - k := by omega
   refine rn1 ?_
   refine zn (by kernel_rfl) ?_
   refine zR 0 rfl (by kernel_rfl) (by kernel_rfl) (by kernel_rfl) rfl (zI rfl) rfl ?_
   refine zR 1 rfl (by kernel_rfl) (by kernel_rfl) (by kernel_rfl) rfl (zI rfl) rfl ?_
   refine zR 2 rfl (by kernel_rfl) (by kernel_rfl) (by kernel_rfl) rfl (zI rfl) rfl ?_
   refine zR 3 rfl (by kernel_rfl) (by kernel_rfl) (by kernel_rfl) rfl (zI rfl) rfl ?_
   refine zR 4 rfl (by kernel_rfl) (by kernel_rfl) (by kernel_rfl) rfl (zI rfl) rfl ?_
   refine zR 5 rfl (by kernel_rfl) (by kernel_rfl) (by kernel_rfl) rfl (zI rfl) rfl ?_
   refine zR 6 rfl (by kernel_rfl) (by kernel_rfl) (by kernel_rfl) rfl (ze rfl rfl rfl rfl rfl (by first | (simp only [Nat.zero_add, Int.toNat_natCast, Int.toNat_zero]; exact rfl) | exact rfl) (by omega)) rfl ?_
   refine zR 8 rfl (by kernel_rfl) (by kernel_rfl) (by kernel_rfl) rfl (zI rfl) rfl ?_
   refine zR 9 rfl (by kernel_rfl) (by kernel_rfl) (by kernel_rfl) rfl (zI rfl) rfl ?_
   refine zR 10 rfl (by kernel_rfl) (by kernel_rfl) (by kernel_rfl) rfl (ze rfl rfl rfl rfl rfl (by first | (simp only [Nat.zero_add, Int.toNat_natCast, Int.toNat_zero]; exact rfl) | exact rfl) (by omega)) rfl ?_
   refine zBL 20 (.ptr 0 (l.length - 1 - k) 0) rfl (AEq.of_eq (by rw [e1])) ?_
   have b1 : l.length - 1 - k < (zF5 l k).length := by omega
   have b2 : k < (zF5 l k).length := by omega
   apply zC4 [(0, .sl 0 0 l.length), (2, .int .i64 (k : Nat)), (3, .int .i64 ((l.length : Int) - 1 - k)), (14, .sl 0 0 l.length), (15, .int .i64 (k : Nat)), (16, .sl 0 0 l.length), (17, .int .i64 ((l.length : Int) - 1 - k)), (21, .str ((zF5 l k).getD (l.length - 1 - k) [])), (25, .str ((zF5 l k).getD k []))]
   · intro fin
     refine zG (is := [7, 11]) (by kernel_rfl) (by simp) rfl ⟨fun o ho => ?_, fun o ho => ?_, trivial⟩
     all_goals (cases ho)
     · repeat (first | refine zB ?_ | refine zj ?_ | refine zC (zE7 rfl rfl rfl rfl (by first | assumption | omega)) ?_)
       refine zG (is := [11]) (by kernel_rfl) (by simp) rfl ⟨fun o ho => ?_, trivial⟩
       all_goals (cases ho)
       repeat (first | refine zB ?_ | refine zj ?_ | refine zC (zE7 rfl rfl rfl rfl (by first | assumption | omega)) ?_)
       exact fin _ ⟨rfl, rfl, rfl, rfl, rfl, rfl, rfl, rfl, rfl, trivial⟩
     · repeat (first | refine zB ?_ | refine zj ?_ | refine zC (zE7 rfl rfl rfl rfl (by first | assumption | omega)) ?_)
       refine zG (is := [7]) (by kernel_rfl) (by simp) rfl ⟨fun o ho => ?_, trivial⟩
       all_goals (cases ho)
       repeat (first | refine zB ?_ | refine zj ?_ | refine zC (zE7 rfl rfl rfl rfl (by first | assumption | omega)) ?_)
       exact fin _ ⟨rfl, rfl, rfl, rfl, rfl, rfl, rfl, rfl, rfl, trivial⟩
   refine zR 12 rfl (by kernel_rfl) (by kernel_rfl) (by kernel_rfl) rfl (ze rfl rfl rfl rfl rfl (by first | (simp only [Nat.zero_add, Int.toNat_natCast, Int.toNat_zero]; exact rfl) | exact rfl) (by omega)) rfl ?_
   refine zG (is := [13]) (by kernel_rfl) (by simp) rfl ⟨fun o ho => ?_, trivial⟩
   all_goals (cases ho)
   repeat (first | refine zB ?_ | refine zj ?_ | refine zAt rfl rfl rfl rfl rfl rfl rfl (by first | assumption | (show _ < List.length _; first | assumption | omega)) ?_)
   refine zR 14 rfl (by kernel_rfl) (by kernel_rfl) (by kernel_rfl) rfl (ze rfl rfl rfl rfl rfl (by first | (simp only [Nat.zero_add, Int.toNat_natCast, Int.toNat_zero]; exact rfl) | exact rfl) (by omega)) rfl ?_
   refine zBL 27 (.ptr 0 (l.length - 1 - k) 0) rfl (AEq.of_eq (by rw [e1])) ?_
   have b3 : l.length - 1 - k < ((zF5 l k).set k ((zF5 l k).getD (l.length - 1 - k) [])).length := by simp; omega
   refine zG (is := [15]) (by kernel_rfl) (by simp) rfl ⟨fun o ho => ?_, trivial⟩
   all_goals (cases ho)
   repeat (first | refine zB ?_ | refine zj ?_ | refine zAt rfl rfl rfl rfl rfl rfl rfl (by first | assumption | (show _ < List.length _; first | assumption | omega)) ?_)
   refine zh (by kernel_rfl) ?_
   repeat (first | refine zC (zI rfl) ?_ | refine zC (zK rfl) ?_ | refine zB ?_ | refine zA ?_ | refine zL rfl ?_ | refine za ?_ | refine zC (zDJ rfl rfl (by omega)) ?_ | refine zC (zBk rfl rfl (by omega)) ?_)
   refine zM ⟨k + 1, by omega, by omega, ⟨rfl, rfl, ?_, trivial⟩, ?_⟩
   · show some (AV.int .i64 _) = _
     congr 2; omega
   · show ([some ⟨_, .strs (((zF5 l k).set k _).set (l.length - 1 - k) _)⟩] : zV) = _
     rw [zQf l hk2]
 · refine rn5 ?_
   refine ax_end hR rfl ?_
   rw [zQl l (by omega)]
end Go.Proofs.YtnkealfaldjipaaGreatDoor
namespace Go.Proofs
open Go.Shelf
def Tryz.lays156_ren : Go.Shelf.Ren := ⟨fun | 156 => 219 | 165 => 238 | 166 => 239 | 169 => 241 | 240 => 251 | 241 => 252 | 276 => 259 | 277 => 260 | n => n, fun | 31 => 288 | 9 => 9 | 3 => 3 | 4 => 4 | 0 => 0 | 20 => 20 | 72 => 307 | 76 => 309 | 70 => 305 | 37 => 301 | 75 => 231 | 127 => 319 | 164 => 333 | 5 => 5 | 80 => 215 | n => n, fun | n => n⟩
theorem Tryz.lays156 : Go.Proofs.Lays.n156 Tryz.prog Tryz.lays156_ren := {
 mixed := by kernel_rfl
 f156 := Tryz.func219.trans (congrArg some (by kernel_rfl))
 f165 := Tryz.func238.trans (congrArg some (by kernel_rfl))
 f166 := Tryz.func239.trans (congrArg some (by kernel_rfl))
 f169 := Tryz.func241.trans (congrArg some (by kernel_rfl))
 f240 := Tryz.func251.trans (congrArg some (by kernel_rfl))
 f241 := Tryz.func252.trans (congrArg some (by kernel_rfl))
 f276 := Tryz.func259.trans (congrArg some (by kernel_rfl))
 f277 := Tryz.func260.trans (congrArg some (by kernel_rfl))
 t0 := Tryz.underlying0
 a0 := Tryz.isAgg0
 z0 := Tryz.sizeOf0
 v0 := Tryz.zeroValue0
 t3 := Tryz.underlying3
 a3 := Tryz.isAgg3
 z3 := Tryz.sizeOf3
 v3 := Tryz.zeroValue3
 t4 := Tryz.underlying4
 a4 := Tryz.isAgg4
 z4 := Tryz.sizeOf4
 v4 := Tryz.zeroValue4
 t9 := Tryz.underlying9
 a9 := Tryz.isAgg9
 z9 := Tryz.sizeOf9
 v9 := Tryz.zeroValue9
 t20 := Tryz.underlying20
 a20 := Tryz.isAgg20
 z20 := Tryz.sizeOf20
 v20 := Tryz.zeroValue20
 t31 := Tryz.underlying288
 a31 := Tryz.isAgg288
 z31 := Tryz.sizeOf288
 v31 := Tryz.zeroValue288
 t37 := Tryz.underlying301
 a37 := Tryz.isAgg301
 z37 := Tryz.sizeOf301
 v37 := Tryz.zeroValue301
 t70 := Tryz.underlying305
 a70 := Tryz.isAgg305
 z70 := Tryz.sizeOf305
 v70 := Tryz.zeroValue305
 t72 := Tryz.underlying307
 a72 := Tryz.isAgg307
 z72 := Tryz.sizeOf307
 v72 := Tryz.zeroValue307
 t75 := Tryz.underlying231
 a75 := Tryz.isAgg231
 z75 := Tryz.sizeOf231
 v75 := Tryz.zeroValue231
 t76 := Tryz.underlying309
 a76 := Tryz.isAgg309
 z76 := Tryz.sizeOf309
 v76 := Tryz.zeroValue309
 t127 := Tryz.underlying319
 a127 := Tryz.isAgg319
 z127 := Tryz.sizeOf319
 v127 := Tryz.zeroValue319
 t164 := Tryz.underlying333
 a164 := Tryz.isAgg333
 z164 := Tryz.sizeOf333
 v164 := Tryz.zeroValue333 }
theorem Tryz.Builder_Extra_156 : Builder.Extra Tryz.prog Tryz.lays156_ren := {
 sizeBuilder := by kernel_rfl
 liesBuilder := by kernel_rfl
 t5 := Tryz.underlying5
 a5 := Tryz.isAgg5
 z5 := Tryz.sizeOf5
 v5 := Tryz.zeroValue5
 infoByte := by kernel_rfl
 cellsByte := by kernel_rfl
 sizeByte := by kernel_rfl
 neB5 := by decide }
open Go.RowKit in
/-- No element: the empty string; the world is as it was. (Whatever the slice's address and capacity: a nil slice too.) (LAID: no walk: one application.) -/
theorem Tryz.strings_Join_none (a : Option Addr) (c : Nat) (sep : ByteArray) (w : World) :
   Calls Tryz.prog 219 #[.slice a 0 c, .string sep] w fun e w' => e = .returned (.string ⟨#[]⟩) ∧ w' = w := Any.strings_Join_none Tryz.lays156 Tryz.Builder_Extra_156 a c sep w
open Go.RowKit in
/-- strings.Join: "Join concatenates the elements of its first argument to create a single string. The separator string sep is placed between elements in the resulting string.": HOWEVER MANY ELEMENTS. Below the heap's end the world is as it was. (LAID: no walk: one application.) -/
theorem Tryz.strings_Join (bk o c : Nat) (xs : List ByteArray) (sep : ByteArray) (w : World) (hcells : ∀ (j : Nat) x, xs[j]? = some x → w.cell? ⟨bk, o + j, none⟩ = some (.string x)) (hbk : bk < w.heap.size) (hN : xs.length ≤ 140737488355328) (hcap : xs.length ≤ c) (hlen : (Lib.join (xs.map (·.data.toList)) sep.data.toList).length ≤ 140737488355328) :
   Calls Tryz.prog 219 #[.slice (some ⟨bk, o, none⟩) xs.length c, .string sep] w fun e w' => e = .returned (.string ⟨(Lib.join (xs.map (·.data.toList)) sep.data.toList).toArray⟩) ∧ Below w.heap.size w w' := Any.strings_Join Tryz.lays156 Tryz.Builder_Extra_156 bk o c xs sep w hcells hbk hN hcap hlen
def Tryz.laysM171_ren : Go.Shelf.Ren := ⟨fun | 171 => 216 | 243 => 237 | 246 => 250 | 283 => 255 | 284 => 256 | 285 => 257 | 286 => 258 | 129 => 262 | 317 => 261 | 318 => 263 | 319 => 264 | 320 => 265 | 337 => 266 | 338 => 267 | n => n, fun | 3 => 3 | 9 => 9 | 2 => 2 | 4 => 4 | 171 => 328 | 0 => 0 | 53 => 229 | 37 => 301 | 5 => 5 | 173 => 331 | 212 => 337 | 51 => 224 | 20 => 20 | 213 => 338 | 46 => 195 | 232 => 341 | 233 => 342 | n => n, fun | 17 => 5 | 18 => 6 | 19 => 7 | n => n⟩
theorem Tryz.laysM171 : Go.Proofs.LaysM.n171 Tryz.prog Tryz.laysM171_ren := {
 mixed := by kernel_rfl
 f129 := Tryz.func262.trans (congrArg some (by kernel_rfl))
 f171 := Tryz.func216.trans (congrArg some (by kernel_rfl))
 f243 := Tryz.func237.trans (congrArg some (by kernel_rfl))
 f246 := Tryz.func250.trans (congrArg some (by kernel_rfl))
 f283 := Tryz.func255.trans (congrArg some (by kernel_rfl))
 f284 := Tryz.func256.trans (congrArg some (by kernel_rfl))
 f285 := Tryz.func257.trans (congrArg some (by kernel_rfl))
 f286 := Tryz.func258.trans (congrArg some (by kernel_rfl))
 f317 := Tryz.func261.trans (congrArg some (by kernel_rfl))
 f318 := Tryz.func263.trans (congrArg some (by kernel_rfl))
 f319 := Tryz.func264.trans (congrArg some (by kernel_rfl))
 f320 := Tryz.func265.trans (congrArg some (by kernel_rfl))
 f337 := Tryz.func266.trans (congrArg some (by kernel_rfl))
 f338 := Tryz.func267.trans (congrArg some (by kernel_rfl))
 t0 := Tryz.underlying0
 a0 := Tryz.isAgg0
 z0 := Tryz.sizeOf0
 v0 := Tryz.zeroValue0
 t2 := Tryz.underlying2
 a2 := Tryz.isAgg2
 z2 := Tryz.sizeOf2
 v2 := Tryz.zeroValue2
 t3 := Tryz.underlying3
 a3 := Tryz.isAgg3
 z3 := Tryz.sizeOf3
 v3 := Tryz.zeroValue3
 t4 := Tryz.underlying4
 a4 := Tryz.isAgg4
 z4 := Tryz.sizeOf4
 v4 := Tryz.zeroValue4
 t5 := Tryz.underlying5
 a5 := Tryz.isAgg5
 z5 := Tryz.sizeOf5
 v5 := Tryz.zeroValue5
 t9 := Tryz.underlying9
 a9 := Tryz.isAgg9
 z9 := Tryz.sizeOf9
 v9 := Tryz.zeroValue9
 t20 := Tryz.underlying20
 a20 := Tryz.isAgg20
 z20 := Tryz.sizeOf20
 v20 := Tryz.zeroValue20
 t37 := Tryz.underlying301
 a37 := Tryz.isAgg301
 z37 := Tryz.sizeOf301
 v37 := Tryz.zeroValue301
 t46 := Tryz.underlying195
 a46 := Tryz.isAgg195
 z46 := Tryz.sizeOf195
 v46 := Tryz.zeroValue195
 t51 := Tryz.underlying224
 a51 := Tryz.isAgg224
 z51 := Tryz.sizeOf224
 v51 := Tryz.zeroValue224
 t53 := Tryz.underlying229
 a53 := Tryz.isAgg229
 z53 := Tryz.sizeOf229
 v53 := Tryz.zeroValue229
 t171 := Tryz.underlying328
 a171 := Tryz.isAgg328
 z171 := Tryz.sizeOf328
 v171 := Tryz.zeroValue328
 t173 := Tryz.underlying331
 a173 := Tryz.isAgg331
 z173 := Tryz.sizeOf331
 v173 := Tryz.zeroValue331
 t212 := Tryz.underlying337
 a212 := Tryz.isAgg337
 z212 := Tryz.sizeOf337
 v212 := Tryz.zeroValue337
 t213 := Tryz.underlying338
 a213 := Tryz.isAgg338
 z213 := Tryz.sizeOf338
 t232 := Tryz.underlying341
 a232 := Tryz.isAgg341
 z232 := Tryz.sizeOf341
 v232 := Tryz.zeroValue341
 t233 := Tryz.underlying342
 a233 := Tryz.isAgg342
 z233 := Tryz.sizeOf342
 v233 := Tryz.zeroValue342
 g17 := by kernel_rfl
 g18 := by kernel_rfl
 g19 := by kernel_rfl
 i0 := by kernel_rfl
 i2 := by kernel_rfl
 i3 := by kernel_rfl
 i4 := by kernel_rfl
 i5 := by kernel_rfl
 i9 := by kernel_rfl
 i20 := by kernel_rfl
 i37 := by kernel_rfl
 i46 := by kernel_rfl
 i51 := by kernel_rfl
 i53 := by kernel_rfl
 i171 := by kernel_rfl
 i173 := by kernel_rfl
 i212 := by kernel_rfl
 i232 := by kernel_rfl
 i233 := by kernel_rfl
 m17 := by kernel_rfl
 m18 := by kernel_rfl
 m19 := by kernel_rfl }
open Go.RowKit Go.Sort Go.Lib in
/-- strconv.Itoa: "Itoa is equivalent to FormatInt(int64(i), 10).": i's DECIMAL NUMERAL ('Lib.itoa': a '-' where i is negative, then the digits), FOR EVERY int. The world behind the call: the world before it, new blocks behind the heap (the library's 'var a [24]byte'), draws. (LAID: no walk: one application.) -/
theorem Tryz.strconv_Itoa (n : Int) (h0 : -9223372036854775808 ≤ n) (h1 : n ≤ 9223372036854775807) (w : World) (htab : Lib.TabIs Tryz.prog w "internal/strconv.uint64pow10" .u64 Lib.pow10Tab) :
   Calls Tryz.prog 216 #[.int .i64 n] w fun e w' => e = .returned (.string ⟨(Lib.itoa n).toArray⟩) ∧ ∃ k os, w' = grow (w.drewN k) os := Any.strconv_Itoa Tryz.laysM171 n h0 h1 w htab
def Tryz.laysPu14_ren : Go.Shelf.Ren := ⟨fun | 14 => 156 | 16 => 202 | 17 => 203 | 19 => 229 | 20 => 230 | 21 => 231 | 22 => 232 | 23 => 233 | 24 => 234 | 25 => 248 | 27 => 216 | 26 => 249 | 28 => 237 | 29 => 250 | 30 => 255 | 31 => 256 | 32 => 257 | 33 => 258 | 35 => 262 | 34 => 261 | 36 => 263 | 37 => 264 | 38 => 265 | 39 => 266 | 40 => 267 | n => n, fun | 9 => 9 | 3 => 3 | 22 => 229 | 24 => 231 | 25 => 232 | 4 => 4 | 34 => 299 | 5 => 5 | 36 => 195 | 37 => 301 | 0 => 0 | 39 => 302 | 21 => 21 | 44 => 316 | 47 => 319 | 50 => 327 | 48 => 325 | 2 => 2 | 52 => 328 | 55 => 331 | 59 => 337 | 60 => 224 | 20 => 20 | 61 => 338 | 65 => 341 | 66 => 342 | 67 => 215 | n => n, fun | 0 => 1 | 1 => 2 | 2 => 5 | 3 => 6 | 4 => 7 | n => n⟩
theorem Tryz.laysPu14 : Go.Proofs.LaysPu.n14 Tryz.prog Tryz.laysPu14_ren := {
 mixed := by kernel_rfl
 f14 := Tryz.func156.trans (congrArg some (by kernel_rfl))
 f16 := Tryz.func202.trans (congrArg some (by kernel_rfl))
 f17 := Tryz.func203.trans (congrArg some (by kernel_rfl))
 f19 := Tryz.func229.trans (congrArg some (by kernel_rfl))
 f20 := Tryz.func230.trans (congrArg some (by kernel_rfl))
 f21 := Tryz.func231.trans (congrArg some (by kernel_rfl))
 f22 := Tryz.func232.trans (congrArg some (by kernel_rfl))
 f23 := Tryz.func233.trans (congrArg some (by kernel_rfl))
 f24 := Tryz.func234.trans (congrArg some (by kernel_rfl))
 f25 := Tryz.func248.trans (congrArg some (by kernel_rfl))
 f26 := Tryz.func249.trans (congrArg some (by kernel_rfl))
 f27 := Tryz.func216.trans (congrArg some (by kernel_rfl))
 f28 := Tryz.func237.trans (congrArg some (by kernel_rfl))
 f29 := Tryz.func250.trans (congrArg some (by kernel_rfl))
 f30 := Tryz.func255.trans (congrArg some (by kernel_rfl))
 f31 := Tryz.func256.trans (congrArg some (by kernel_rfl))
 f32 := Tryz.func257.trans (congrArg some (by kernel_rfl))
 f33 := Tryz.func258.trans (congrArg some (by kernel_rfl))
 f34 := Tryz.func261.trans (congrArg some (by kernel_rfl))
 f35 := Tryz.func262.trans (congrArg some (by kernel_rfl))
 f36 := Tryz.func263.trans (congrArg some (by kernel_rfl))
 f37 := Tryz.func264.trans (congrArg some (by kernel_rfl))
 f38 := Tryz.func265.trans (congrArg some (by kernel_rfl))
 f39 := Tryz.func266.trans (congrArg some (by kernel_rfl))
 f40 := Tryz.func267.trans (congrArg some (by kernel_rfl))
 t0 := Tryz.underlying0
 a0 := Tryz.isAgg0
 z0 := Tryz.sizeOf0
 v0 := Tryz.zeroValue0
 i0 := by kernel_rfl
 t2 := Tryz.underlying2
 a2 := Tryz.isAgg2
 z2 := Tryz.sizeOf2
 v2 := Tryz.zeroValue2
 i2 := by kernel_rfl
 t3 := Tryz.underlying3
 a3 := Tryz.isAgg3
 z3 := Tryz.sizeOf3
 v3 := Tryz.zeroValue3
 i3 := by kernel_rfl
 t4 := Tryz.underlying4
 a4 := Tryz.isAgg4
 z4 := Tryz.sizeOf4
 v4 := Tryz.zeroValue4
 i4 := by kernel_rfl
 t5 := Tryz.underlying5
 a5 := Tryz.isAgg5
 z5 := Tryz.sizeOf5
 v5 := Tryz.zeroValue5
 i5 := by kernel_rfl
 t9 := Tryz.underlying9
 a9 := Tryz.isAgg9
 z9 := Tryz.sizeOf9
 v9 := Tryz.zeroValue9
 i9 := by kernel_rfl
 t20 := Tryz.underlying20
 a20 := Tryz.isAgg20
 z20 := Tryz.sizeOf20
 v20 := Tryz.zeroValue20
 i20 := by kernel_rfl
 t21 := Tryz.underlying21
 a21 := Tryz.isAgg21
 z21 := Tryz.sizeOf21
 v21 := Tryz.zeroValue21
 i21 := by kernel_rfl
 t22 := Tryz.underlying229
 a22 := Tryz.isAgg229
 z22 := Tryz.sizeOf229
 v22 := Tryz.zeroValue229
 i22 := by kernel_rfl
 t24 := Tryz.underlying231
 a24 := Tryz.isAgg231
 z24 := Tryz.sizeOf231
 v24 := Tryz.zeroValue231
 i24 := by kernel_rfl
 t25 := Tryz.underlying232
 a25 := Tryz.isAgg232
 z25 := Tryz.sizeOf232
 v25 := Tryz.zeroValue232
 i25 := by kernel_rfl
 t34 := Tryz.underlying299
 a34 := Tryz.isAgg299
 z34 := Tryz.sizeOf299
 v34 := Tryz.zeroValue299
 i34 := by kernel_rfl
 c34 := by kernel_rfl
 t36 := Tryz.underlying195
 a36 := Tryz.isAgg195
 z36 := Tryz.sizeOf195
 v36 := Tryz.zeroValue195
 i36 := by kernel_rfl
 t37 := Tryz.underlying301
 a37 := Tryz.isAgg301
 z37 := Tryz.sizeOf301
 v37 := Tryz.zeroValue301
 i37 := by kernel_rfl
 t39 := Tryz.underlying302
 a39 := Tryz.isAgg302
 z39 := Tryz.sizeOf302
 v39 := Tryz.zeroValue302
 i39 := by kernel_rfl
 t44 := Tryz.underlying316
 a44 := Tryz.isAgg316
 z44 := Tryz.sizeOf316
 v44 := Tryz.zeroValue316
 i44 := by kernel_rfl
 t47 := Tryz.underlying319
 a47 := Tryz.isAgg319
 z47 := Tryz.sizeOf319
 v47 := Tryz.zeroValue319
 i47 := by kernel_rfl
 t48 := Tryz.underlying325
 a48 := Tryz.isAgg325
 z48 := Tryz.sizeOf325
 v48 := Tryz.zeroValue325
 i48 := by kernel_rfl
 t50 := Tryz.underlying327
 a50 := Tryz.isAgg327
 z50 := Tryz.sizeOf327
 v50 := Tryz.zeroValue327
 i50 := by kernel_rfl
 t52 := Tryz.underlying328
 a52 := Tryz.isAgg328
 z52 := Tryz.sizeOf328
 v52 := Tryz.zeroValue328
 i52 := by kernel_rfl
 t55 := Tryz.underlying331
 a55 := Tryz.isAgg331
 z55 := Tryz.sizeOf331
 v55 := Tryz.zeroValue331
 i55 := by kernel_rfl
 t59 := Tryz.underlying337
 a59 := Tryz.isAgg337
 z59 := Tryz.sizeOf337
 v59 := Tryz.zeroValue337
 i59 := by kernel_rfl
 t60 := Tryz.underlying224
 a60 := Tryz.isAgg224
 z60 := Tryz.sizeOf224
 v60 := Tryz.zeroValue224
 i60 := by kernel_rfl
 t61 := Tryz.underlying338
 a61 := Tryz.isAgg338
 z61 := Tryz.sizeOf338
 t65 := Tryz.underlying341
 a65 := Tryz.isAgg341
 z65 := Tryz.sizeOf341
 v65 := Tryz.zeroValue341
 i65 := by kernel_rfl
 t66 := Tryz.underlying342
 a66 := Tryz.isAgg342
 z66 := Tryz.sizeOf342
 v66 := Tryz.zeroValue342
 i66 := by kernel_rfl
 t67 := Tryz.underlying215
 a67 := Tryz.isAgg215
 z67 := Tryz.sizeOf215
 v67 := Tryz.zeroValue215
 i67 := by kernel_rfl
 g0 := by kernel_rfl
 m0 := by kernel_rfl
 g1 := by kernel_rfl
 m1 := by kernel_rfl
 g2 := by kernel_rfl
 m2 := by kernel_rfl
 g3 := by kernel_rfl
 m3 := by kernel_rfl
 g4 := by kernel_rfl
 m4 := by kernel_rfl }
open Go.RowKit in
/-- strconv.ParseUint(s, 10, 32), AT EVERY STRING THAT SPELLS A uint32 ('Lib.parseUintB 32 s.data.toList = .ok u'): u, AND NO ERROR. (LAID: no walk: one application.) -/
theorem Tryz.strconv_ParseUint_10_at32_ok (s : ByteArray) (hmax : s.size ≤ 9223372036854775806) (u : Nat) (h : Lib.parseUintB 32 s.data.toList = .ok u) (w : World) :
   Calls Tryz.prog 156 #[.string s, .int .i64 10, .int .i64 32] w fun e w' => e = .returned (.tuple #[.int .u64 u, .nilIface]) ∧ (w' = w ∨ w' = Lib.bytesWorld w 5 s) := Any.strconv_ParseUint_10_at32_ok Tryz.laysPu14 s hmax u h w
def Tryz.lays212_ren : Go.Shelf.Ren := ⟨fun | 212 => 139 | 263 => 185 | 264 => 186 | n => n, fun | 46 => 195 | 51 => 224 | 146 => 264 | 53 => 229 | 148 => 266 | n => n, fun | n => n⟩
theorem Tryz.lays212 : Go.Proofs.Lays.n212 Tryz.prog Tryz.lays212_ren := {
 mixed := by kernel_rfl
 f212 := Tryz.func139.trans (congrArg some (by kernel_rfl))
 f263 := Tryz.func185.trans (congrArg some (by kernel_rfl))
 f264 := Tryz.func186.trans (congrArg some (by kernel_rfl))
 t46 := Tryz.underlying195
 a46 := Tryz.isAgg195
 z46 := Tryz.sizeOf195
 v46 := Tryz.zeroValue195
 t51 := Tryz.underlying224
 a51 := Tryz.isAgg224
 z51 := Tryz.sizeOf224
 v51 := Tryz.zeroValue224
 t53 := Tryz.underlying229
 a53 := Tryz.isAgg229
 z53 := Tryz.sizeOf229
 v53 := Tryz.zeroValue229
 t146 := Tryz.underlying264
 a146 := Tryz.isAgg264
 z146 := Tryz.sizeOf264
 v146 := Tryz.zeroValue264
 t148 := Tryz.underlying266
 a148 := Tryz.isAgg266
 z148 := Tryz.sizeOf266
 v148 := Tryz.zeroValue266 }
open Go.RowKit Go.Lib in
/-- math/bits.Mul: "Mul returns the full-width product of x and y": on a machine of 64 bits: Mul64's. (LAID: no walk: one application.) -/
theorem Tryz.bits_Mul (x y : Nat) (hx : x < 18446744073709551616) (hy : y < 18446744073709551616) (w : World) :
   Calls Tryz.prog 139 #[.int .u64 x, .int .u64 y] w fun e w' => e = .returned (.tuple #[.int .u64 ((x * y / 18446744073709551616 : Nat) : Int), .int .u64 ((x * y % 18446744073709551616 : Nat) : Int)]) ∧ w' = w := Any.bits_Mul Tryz.lays212 x y hx hy w
end Go.Proofs
namespace Go.Ax.Bg
open Go.Ax.Tb (zBX)
def dg (c : UInt8) : Bool := decide (48 ≤ c.toNat ∧ c.toNat < 58)
theorem dg_iff {c : UInt8} : dg c = true ↔ zBX c := by
 unfold dg zBX
 simp only [decide_eq_true_eq]
 constructor <;> intro h <;> exact ⟨by omega, by omega⟩
def trR (s : List UInt8) : List UInt8 := (s.reverse.dropWhile dg).reverse
def trL (s : List UInt8) : List UInt8 := s.dropWhile dg
theorem zGS {l m : List UInt8} (h : l.all dg = true) : (l ++ m).dropWhile dg = m.dropWhile dg := by
 induction l with
 | nil => rfl
 | cons x r ih =>
   simp only [List.all_cons, Bool.and_eq_true] at h
   rw [List.cons_append, List.dropWhile_cons_of_pos h.1, ih h.2]
theorem trR_of {s : List UInt8} {k : Nat} (hk : k ≤ s.length) (h : (s.drop k).all dg = true) (h2 : k = 0 ∨ dg (s.getD (k - 1) 0) = false) : trR s = s.take k := by
 unfold trR
 conv => lhs; rw [← List.take_append_drop k s]
 rw [List.reverse_append, zGS (by rw [List.all_reverse]; exact h)]
 rcases h2 with h2 | h2
 · subst h2; rfl
 · rcases Nat.eq_zero_or_pos k with q | q
   · subst q; rfl
   · have e : s.take k = s.take (k - 1) ++ [s.getD (k - 1) 0] := by
       have := zAj s 0 (k - 1) (by omega)
       rwa [show k - 1 + 1 = k by omega] at this
     rw [e, List.reverse_append, List.reverse_singleton, List.singleton_append, List.dropWhile_cons_of_neg (by rw [h2]; decide)]
     simp
theorem trL_of {s : List UInt8} {k : Nat} (h : (s.take k).all dg = true) (h2 : s.length ≤ k ∨ dg (s.getD k 0) = false) : trL s = s.drop k := by
 unfold trL
 conv => lhs; rw [← List.take_append_drop k s]
 rw [zGS h]
 rcases h2 with h2 | h2
 · rw [List.drop_of_length_le h2]; rfl
 · rcases Nat.lt_or_ge k s.length with q | q
   · rw [zBi s 0 k q, List.dropWhile_cons_of_neg (by rw [h2]; decide)]
   · rw [List.drop_of_length_le q]; rfl
theorem zO7 {l : List UInt8} : l.dropWhile dg = [] ↔ l.all dg = true := by
 induction l with
 | nil => simp
 | cons x r ih =>
   cases h : dg x with
   | true => rw [List.dropWhile_cons_of_pos h, ih]; simp [h]
   | false => rw [List.dropWhile_cons_of_neg (by rw [h]; decide)]; simp [h]
theorem dw_head {l : List UInt8} {x : UInt8} {r : List UInt8} (h : l.dropWhile dg = x :: r) : dg x = false := by
 induction l with
 | nil => cases h
 | cons y q ih =>
   cases hy : dg y with
   | true => rw [List.dropWhile_cons_of_pos hy] at h; exact ih h
   | false =>
     rw [List.dropWhile_cons_of_neg (by rw [hy]; decide)] at h
     cases h; exact hy
theorem trR_nil {s : List UInt8} : trL (trR s) = [] ↔ s.all dg = true := by
 unfold trL trR
 rw [zO7, List.all_reverse]
 constructor
 · intro h
   cases hq : s.reverse.dropWhile dg with
   | nil => rw [zO7, List.all_reverse] at hq; exact hq
   | cons x r =>
     rw [hq] at h
     have := dw_head hq
     simp [this] at h
 · intro h
   have : s.reverse.dropWhile dg = [] := by rw [zO7, List.all_reverse]; exact h
   rw [this]; rfl
/-- Up to nine digits as a number. -/
theorem parse_go {l : List UInt8} (hd : ∀ c ∈ l, zBX c) : ∀ (a : Nat), zAf a l ≤ 4294967295 → Lib.parseUintM 4294967295 a l = .ok (zAf a l) := by
 induction l with
 | nil => intro a _; rfl
 | cons c r ih =>
   intro a h
   have hc := hd c (by simp)
   unfold zBX at hc
   rw [zC8] at h ⊢
   have h1 : a * 10 + (c.toNat - 48) ≤ 4294967295 := by
     refine Nat.le_trans ?_ h
     rw [zGX r]
     have : (a * 10 + (c.toNat - 48)) * 1 ≤ (a * 10 + (c.toNat - 48)) * 10 ^ r.length := Nat.mul_le_mul_left _ (Nat.one_le_pow _ _ (by decide))
     omega
   have i := ih (fun x hx => hd x (by simp [hx])) _ h
   unfold Lib.parseUintM
   rw [if_pos (by omega), if_neg (by omega), if_neg (by omega)]
   exact i
theorem zFd {l : List UInt8} (h0 : l ≠ []) (hd : ∀ c ∈ l, zBX c) (h9 : l.length ≤ 9) : Lib.parseUintB 32 l = .ok (zAf 0 l) ∧ zAf 0 l < 1000000000 := by
 have hlt := zHu hd
 have hp : 10 ^ l.length ≤ 10 ^ 9 := Nat.pow_le_pow_right (by decide) h9
 have e9 : (10 : Nat) ^ 9 = 1000000000 := by decide
 rw [e9] at hp
 unfold Lib.parseUintB
 rw [if_neg h0]
 have e32 : (2 : Nat) ^ 32 - 1 = 4294967295 := by decide
 rw [e32]
 exact ⟨parse_go hd 0 (by omega), by omega⟩
theorem zKy : ∀ (ls : List (List UInt8)), Lib.join ls [] = ls.flatten
 | [] => rfl
 | x :: r => by
   rw [Lib.join_cons, List.flatten_cons]
   congr 1
   unfold Lib.joinTail
   congr 1
   simp
end Go.Ax.Bg
namespace Go.Proofs.YtnkealfaldjipaaGreatDoor
open Go.Ax Go.Ax.Bg Go.RowKit
set_option maxRecDepth 100000
set_option maxHeartbeats 4000000
theorem zNV (w : World) (q : Nat) (os : Array Obj) : Below w.heap.size w (Go.Sort.grow (w.drewN q) os) := by
 refine ⟨rfl, rfl, rfl, ?_, fun k hk => ?_⟩
 · show w.heap.size ≤ (w.heap ++ os).size
   simp
 · show (w.heap ++ os)[k]? = w.heap[k]?
   rw [Array.getElem?_append_left hk]
theorem vals1 {w : World} {S : Nat → Prop} {σ : Nat → Option Blk} {a : AV} {vals : Array Value} (hv : VRs w S σ [a] vals) : ∃ x, vals = #[x] ∧ VR w S σ a x := by
 obtain ⟨h1, h2⟩ := hv
 have q := h2 0 (by simp)
 have hl : vals.toList.length = 1 := by simpa using h1
 match hq : vals.toList, hl with
 | [x], _ =>
   have e : vals = #[x] := by rw [← Array.toArray_toList (xs := vals), hq]
   subst e
   exact ⟨x, rfl, by simpa using q⟩
theorem vals2 {w : World} {S : Nat → Prop} {σ : Nat → Option Blk} {a b : AV} {vals : Array Value} (hv : VRs w S σ [a, b] vals) : ∃ x y, vals = #[x, y] ∧ VR w S σ a x ∧ VR w S σ b y := by
 obtain ⟨h1, h2⟩ := hv
 have q := h2 0 (by simp)
 have q1 := h2 1 (by simp)
 have hl : vals.toList.length = 2 := by simpa using h1
 match hq : vals.toList, hl with
 | [x, y], _ =>
   have e : vals = #[x, y] := by rw [← Array.toArray_toList (xs := vals), hq]
   subst e
   exact ⟨x, y, rfl, by simpa using q, by simpa using q1⟩
theorem vals3 {w : World} {S : Nat → Prop} {σ : Nat → Option Blk} {a b c : AV} {vals : Array Value} (hv : VRs w S σ [a, b, c] vals) : ∃ x y z, vals = #[x, y, z] ∧ VR w S σ a x ∧ VR w S σ b y ∧ VR w S σ c z := by
 obtain ⟨h1, h2⟩ := hv
 have q := h2 0 (by simp)
 have q1 := h2 1 (by simp)
 have q2 := h2 2 (by simp)
 have hl : vals.toList.length = 3 := by simpa using h1
 match hq : vals.toList, hl with
 | [x, y, z], _ =>
   have e : vals = #[x, y, z] := by rw [← Array.toArray_toList (xs := vals), hq]
   subst e
   exact ⟨x, y, z, rfl, by simpa using q, by simpa using q1, by simpa using q2⟩
theorem itoa (n : Int) (h : -9223372036854775808 ≤ n ∧ n ≤ 9223372036854775807) : zW Tryz.prog 216 [.int .i64 n] (.str (Lib.itoa n)) := by
 refine zW.of_below ⟨Tryz.f216, rfl, by kernel_rfl, rfl⟩ rfl rfl (fun w S vals hG hS hv => ?_)
 obtain ⟨x, rfl, a⟩ := vals1 hv
 have hx : x = .int .i64 n := by cases a; rfl
 subst hx
 have hp : pinG w := hG
 refine (Tryz.strconv_Itoa n h.1 h.2 w hp.2.1).mono ?_
 rintro e w' ⟨rfl, k, os, rfl⟩
 exact ⟨_, rfl, zNV w k os, .str _ _⟩
theorem itoaN (n : Nat) (h : n ≤ 9223372036854775807) : zW Tryz.prog 216 [.int .i64 (n : Nat)] (.str (Lib.decDigits n)) := by
 have := itoa n ⟨by omega, by omega⟩
 rwa [Go.Ax.Tb.itoa_nat] at this
theorem mulB (a b : Nat) (ha : a < 18446744073709551616) (hb : b < 18446744073709551616) : zW Tryz.prog 139 [.int .u64 (a : Nat), .int .u64 (b : Nat)] (.tup [.int .u64 (a * b / 18446744073709551616 : Nat), .int .u64 (a * b % 18446744073709551616 : Nat)]) := by
 refine zW.of_below ⟨Tryz.f139, rfl, by kernel_rfl, rfl⟩ rfl rfl (fun w S vals hG hS hv => ?_)
 obtain ⟨x, y, rfl, p, q⟩ := vals2 hv
 have hx : x = .int .u64 (a : Nat) := by cases p; rfl
 have hy : y = .int .u64 (b : Nat) := by cases q; rfl
 subst hx hy
 refine (Tryz.bits_Mul a b ha hb w).mono ?_
 rintro e w' ⟨rfl, rfl⟩
 refine ⟨_, rfl, Below.refl _ _, .tup _ _ _ rfl (fun i hi => ?_)⟩
 match i, hi with
 | 0, _ => exact .int _ _ _
 | 1, _ => exact .int _ _ _
theorem parse32 (s : List UInt8) (u : Nat) (hl : s.length ≤ 1000) (h : Lib.parseUintB 32 s = .ok u) : zW Tryz.prog 156 [.str s, .int .i64 10, .int .i64 32] (.tup [.int .u64 (u : Nat), .nilif]) := by
 refine zW.of_below ⟨Tryz.f156, rfl, by kernel_rfl, rfl⟩ rfl rfl (fun w S vals hG hS hv => ?_)
 obtain ⟨x, y, z, rfl, p, q, r⟩ := vals3 hv
 have hx : x = zGy s := by cases p; rfl
 have hy : y = .int .i64 10 := by cases q; rfl
 have hz : z = .int .i64 32 := by cases r; rfl
 subst hx hy hz
 have hd : (⟨s.toArray⟩ : ByteArray).data.toList = s := by simp
 have hsz : (⟨s.toArray⟩ : ByteArray).size = s.length := by simp [ByteArray.size]
 refine (Tryz.strconv_ParseUint_10_at32_ok ⟨s.toArray⟩ (by rw [hsz]; omega) u (by rw [hd]; exact h) w).mono ?_
 rintro e w' ⟨rfl, hw⟩
 refine ⟨_, rfl, ?_, .tup _ _ _ rfl (fun i hi => ?_)⟩
 · rcases hw with rfl | rfl
   · exact Below.refl _ _
   · exact Lib.bytesWorld_below _ _ _
 · match i, hi with
   | 0, _ => exact .int _ _ _
   | 1, _ => exact .nilif _
theorem join (ls : List (List UInt8)) (sep : List UInt8) (hN : ls.length ≤ 140737488355328) (hj : (Lib.join ls sep).length ≤ 140737488355328) : zW Tryz.prog 219 [.ro (.strs ls) 0 ls.length, .str sep] (.str (Lib.join ls sep)) := by
 refine zW.of_below ⟨Tryz.f219, rfl, by kernel_rfl, rfl⟩ rfl rfl (fun w S vals hG hS hv => ?_)
 obtain ⟨x, y, rfl, a, b⟩ := vals2 hv
 have hy : y = zGy sep := by cases b; rfl
 subst hy
 have hsep : (⟨sep.toArray⟩ : ByteArray).data.toList = sep := by simp
 have hbyte : ∀ l : List UInt8, (⟨l.toArray⟩ : ByteArray).data.toList = l := fun l => by simp
 generalize hn : ls.length = n at a
 cases a with
 | ro0 _ _ _ ad cap =>
   have : ls = [] := List.length_eq_zero_iff.mp hn
   subst this
   refine (Tryz.strings_Join_none ad cap ⟨sep.toArray⟩ w).mono ?_
   rintro e w' ⟨rfl, rfl⟩
   exact ⟨_, rfl, Below.refl _ _, .str _ []⟩
 | ro _ _ _ _ bk o cap val hSb hlen hc hvv h1' =>
   subst hn
   have hxs : (ls.map (fun l => (⟨l.toArray⟩ : ByteArray))).length = ls.length := by simp
   have c := Tryz.strings_Join bk o cap (ls.map (fun l => (⟨l.toArray⟩ : ByteArray))) ⟨sep.toArray⟩ w (fun j x hx => ?_) (hS _ hSb) (by simpa using hN) (by simpa using hlen) ?_
   · rw [hxs] at c
     refine c.mono ?_
     rintro e w' ⟨rfl, hb⟩
     have e2 : ((ls.map (fun l => (⟨l.toArray⟩ : ByteArray))).map (fun x => x.data.toList)) = ls := by rw [List.map_map]; exact (List.map_congr_left (fun x _ => rfl)).trans (List.map_id _)
     rw [e2, hsep]
     exact ⟨_, rfl, hb, .str _ _⟩
   · simp only [List.getElem?_map, Option.map_eq_some_iff] at hx
     obtain ⟨l, hl, rfl⟩ := hx
     have hlt : j < ls.length := (List.getElem?_eq_some_iff.1 hl).1
     have q := hc j 0 hlt (by simp [Cells.sz])
     have v := hvv j 0 hlt (by simp [Cells.sz])
     simp only [Cells.sz, Nat.mul_one, Nat.add_zero] at q
     simp only [Cells.at, Nat.zero_add, List.getD, hl, Option.getD_some] at v
     rw [q]
     generalize val j 0 = z at v
     cases v; rfl
   · have e2 : ((ls.map (fun l => (⟨l.toArray⟩ : ByteArray))).map (fun x => x.data.toList)) = ls := by rw [List.map_map]; exact (List.map_congr_left (fun x _ => rfl)).trans (List.map_id _)
     rw [e2, hsep]; exact hj
end Go.Proofs.YtnkealfaldjipaaGreatDoor
namespace Go.Proofs.YtnkealfaldjipaaGreatDoor
open Go.Ax Go.Ax.Bg Go.RowKit
attribute [local irreducible] Ax zAM QOp zO
set_option maxRecDepth 100000
set_option maxHeartbeats 4000000
def zHl (s p : List UInt8) : Bool := decide (p.length ≤ s.length ∧ s.take p.length = p)
theorem zPX (s p : List UInt8) (hs : s.length ≤ 9223372036854775807) (hp : p.length ≤ 9223372036854775807) : zW Tryz.prog 187 [.str s, .str p] (.bool (zHl s p)) := by
 refine zO.value0 (zF (P := Tryz.prog) (fn := Tryz.f187) rfl rfl (by kernel_rfl) rfl (fun c hR hfix => ?_)) (fix := fun _ => False) (fun _ h => h) rfl rfl
 repeat (first | refine zC (zI rfl) ?_ | refine zC (zK rfl) ?_ | refine zB ?_ | refine zA ?_ | refine zZ ?_ | refine zL rfl ?_ | refine zC (zCX rfl rfl) ?_ | refine zC (zCH rfl rfl) ?_)
 refine z8 rfl rfl (fun h0 => ?_) (fun h0 => ?_)
 · repeat (first | refine zC (zI rfl) ?_ | refine zC (zK rfl) ?_ | refine zB ?_ | refine zA ?_ | refine zAL rfl rfl ?_ | refine zAQ ?_ | refine zC (zAe rfl rfl) ?_ | refine zC (zCH rfl rfl) ?_ | refine zC (zFM rfl rfl) ?_ | refine zC (zCc rfl rfl rfl rfl rfl rfl (by omega)) ?_)
   refine zH hR rfl ?_
   show AV.bool (decide ((List.drop _ s).take _ = p)) = _
   unfold zHl
   congr 1
   rw [decide_eq_decide]
   simp only [Int.toNat_zero, List.drop_zero, Int.toNat_natCast, Nat.sub_zero]
   exact ⟨fun h => ⟨by omega, h⟩, fun h => h.2⟩
 · refine rn6 ?_
   refine zH hR rfl ?_
   show AV.bool false = _
   unfold zHl
   rw [decide_eq_false]
   exact fun h => h0 (by omega)
theorem zJJ (s p : List UInt8) (hs : s.length ≤ 9223372036854775807) (hp : p.length ≤ 9223372036854775807) : zW Tryz.prog 143 [.str s, .str p] (.bool (zHl s p)) := by
 have hc := zPX s p hs hp
 refine zO.value0 (zF (P := Tryz.prog) (fn := Tryz.f143) rfl rfl (by kernel_rfl) rfl (fun c hR hfix => ?_)) (fix := fun _ => False) (fun _ h => h) rfl rfl
 generalize zHl s p = b at *
 refine rn0 ?_
 refine zE rfl rfl rfl hc ?_
 refine rn0 ?_
 exact zH hR rfl rfl
/-- strings.Repeat("0", n), n small. -/
theorem repeat0 (n : Nat) (hn : n ≤ 60) : zW Tryz.prog 217 [.str [48], .int .i64 (n : Nat)] (.str (List.replicate n 48)) := by
 refine zO.value0 (zF (P := Tryz.prog) (fn := Tryz.f217) rfl rfl (by kernel_rfl) rfl (fun c hR hfix => ?_)) (fix := fun _ => False) (fun _ h => h) rfl rfl
 refine rn4 ?_
 refine zD rfl (fun h0 => ?_) (fun h0 => ?_)
 · have : n = 0 := by omega
   subst this
   refine rn6 ?_
   exact zH hR rfl rfl
 refine rn4 ?_
 refine zD rfl (fun h1 => ?_) (fun h1 => ?_)
 · have : n = 1 := by omega
   subst this
   refine rn6 ?_
   exact zH hR rfl rfl
 refine rn6 ?_
 have hm := mulB 1 n (by omega) (by omega)
 rw [Nat.one_mul, Nat.div_eq_of_lt (by omega), Nat.mod_eq_of_lt (by omega)] at hm
 have p1 : zW Tryz.prog 143 [.str (List.replicate 128 32), .str [48]] (.bool false) := zJJ _ _ (by decide) (by decide)
 have p2 : zW Tryz.prog 143 [.str (List.replicate 128 45), .str [48]] (.bool false) := zJJ _ _ (by decide) (by decide)
 have p3 : zW Tryz.prog 143 [.str (List.replicate 64 48), .str [48]] (.bool true) := zJJ _ _ (by decide) (by decide)
 refine zC (zAX (m := 1) rfl rfl rfl zBD (by decide)) ?_
 repeat (refine zC (zI rfl) ?_)
 refine zC (zAX (m := n) rfl rfl rfl zBD (by omega)) ?_
 refine zE rfl rfl rfl hm ?_
 refine rn6 ?_
 refine zD rfl (fun h => absurd h (by omega)) (fun h => ?_)
 refine rn1 ?_
 refine zC (zEq (m := n) rfl rfl rfl (by omega)) ?_
 repeat (first | refine zC (zI rfl) ?_ | refine zC (zK rfl) ?_ | refine zB ?_ | refine zA ?_ | refine zZ ?_ | refine zL rfl ?_ | refine zAV rfl ?_ | refine zx rfl ?_ | refine zw ?_ | refine zi ?_ | refine zC (zGa rfl rfl) ?_ | refine zC (zJl rfl rfl) ?_ | refine zC (zCH rfl rfl) ?_ | refine zC (zFU rfl rfl rfl (by first | assumption | omega | simp)) ?_)
 refine z8 rfl rfl (fun h3 => ?_) (fun h3 => absurd (show (n : Int) ≤ 128 by omega) h3)
 refine rn2 ?_
 refine zE rfl rfl rfl p1 ?_
 repeat (first | refine zC (zI rfl) ?_ | refine zC (zK rfl) ?_ | refine zB ?_ | refine zA ?_ | refine zZ ?_ | refine zL rfl ?_ | refine zx rfl ?_ | refine zC (zJl rfl rfl) ?_ | refine zC (zAe rfl rfl) ?_)
 refine z8 rfl rfl (fun h4 => ?_) (fun h4 => absurd (show (n : Int) ≤ 128 by omega) h4)
 refine rn2 ?_
 refine zE rfl rfl rfl p2 ?_
 repeat (first | refine zC (zI rfl) ?_ | refine zC (zK rfl) ?_ | refine zB ?_ | refine zA ?_ | refine zZ ?_ | refine zL rfl ?_ | refine zx rfl ?_ | refine zC (zJl rfl rfl) ?_ | refine zC (zAe rfl rfl) ?_)
 refine z8 rfl rfl (fun h5 => ?_) (fun h5 => absurd (show (n : Int) ≤ 64 by omega) h5)
 refine rn2 ?_
 refine zE rfl rfl rfl p3 ?_
 refine rn5 ?_
 refine zC (zCc rfl rfl rfl rfl rfl rfl (by show (0 : Int) ≤ 0 ∧ (0 : Int) ≤ (n : Nat) ∧ ((n : Nat) : Int) ≤ ((64 : Nat) : Int); omega)) ?_
 refine rn6 ?_
 refine zH hR rfl ?_
 show AV.str ((List.drop 0 (List.replicate 64 48)).take (n - 0)) = _
 rw [List.drop_zero, Nat.sub_zero, List.take_replicate, Nat.min_eq_left (by omega)]
/-- strings.asciiSet: the digits. -/
def zD8 (k : Nat) : List AV := (List.range 256).map fun j => AV.bool (decide (48 ≤ j ∧ j < 48 + k))
theorem zCK (k : Nat) : (zD8 k).length = 256 := by unfold zD8; simp
theorem zJL (k j : Nat) (hj : j < 256) : (zD8 k)[j]? = some (AV.bool (decide (48 ≤ j ∧ j < 48 + k))) := by
 unfold zD8
 rw [List.getElem?_map, List.getElem?_range hj]; rfl
theorem setL_set (k : Nat) (hk : k < 10) : (zD8 k).set (48 + k) (.bool true) = zD8 (k + 1) := by
 apply List.ext_getElem?
 intro i
 rcases Nat.lt_or_ge i 256 with hi | hi
 · rw [zJL (k + 1) i hi]
   by_cases h : i = 48 + k
   · subst h
     rw [List.getElem?_set_self (by rw [zCK]; exact hi)]
     congr 2
     exact (decide_eq_true (by omega)).symm
   · rw [List.getElem?_set_ne (Ne.symm h), zJL k i hi]
     congr 2
     rw [decide_eq_decide]; omega
 · rw [List.getElem?_eq_none (by rw [List.length_set, zCK]; exact hi), List.getElem?_eq_none (by rw [zCK]; exact hi)]
def digS : List UInt8 := [48, 49, 50, 51, 52, 53, 54, 55, 56, 57]
theorem zPy (k : Nat) (hk : k < 10) : (digS.getD k 0).toNat = 48 + k := by
 have : k = 0 ∨ k = 1 ∨ k = 2 ∨ k = 3 ∨ k = 4 ∨ k = 5 ∨ k = 6 ∨ k = 7 ∨ k = 8 ∨ k = 9 := by omega
 rcases this with rfl | rfl | rfl | rfl | rfl | rfl | rfl | rfl | rfl | rfl <;> rfl
theorem box_all (l : List AV) : (List.range (Cells.box l).sz).map ((Cells.box l).at 0) = l := by
 apply List.ext_getElem?
 intro i
 rcases Nat.lt_or_ge i l.length with h | h
 · rw [List.getElem?_map, List.getElem?_range (by exact h)]
   show some (l.getD i .any) = _
   rw [List.getD, List.getElem?_eq_getElem h]; rfl
 · rw [List.getElem?_eq_none (by simpa [Cells.sz] using h), List.getElem?_eq_none h]
theorem set_ok : zW Tryz.prog 197 [.str digS] (.tup [.agg (zD8 10), .bool true]) := by
 refine zO.value0 (zF (P := Tryz.prog) (fn := Tryz.f197) rfl rfl (by kernel_rfl) rfl (fun c hR hfix => ?_)) (fix := fun _ => False) (fun _ h => h) rfl (by kernel_rfl)
 refine rn4 ?_
 refine zBs [some ⟨273, .box (zD8 0)⟩] (by kernel_rfl) ?_
 refine zg (ι := Nat) (fun k => [(0, .str digS), (2, .ptr 0 0 0), (4, .int .i64 (k : Nat))]) (fun k => [some ⟨273, .box (zD8 k)⟩]) (fun k => k ≤ 10) (fun k => 10 - k) 0 ⟨⟨rfl, rfl, rfl, trivial⟩, rfl, by omega⟩ ?_
 rintro k hk
 have hdl : digS.length = 10 := rfl
 refine rn6 ?_
 refine zD rfl (fun h1 => ?_) (fun h1 => ?_)
 · have hk2 : k < 10 := by omega
   repeat (first | refine zC (zI rfl) ?_ | refine zC (zK rfl) ?_ | refine zB ?_ | refine zA ?_ | refine zZ ?_ | refine zL rfl ?_ | refine zw ?_ | refine zi ?_ | refine zC (zCX rfl rfl) ?_ | refine zC (zFU rfl rfl rfl (by first | assumption | omega | simp)) ?_)
   refine zD rfl (fun h2 => absurd h2 (by rw [Int.toNat_natCast, zPy k hk2]; omega)) (fun h2 => ?_)
   refine rn1 ?_
   refine zN 18 (.int .u8 (48 + k : Nat)) rfl (AEq.of_eq (by rw [Int.toNat_natCast, zPy k hk2])) ?_
   refine zC (zMA (m := ((48 + k : Nat) : Int)) (jx := 48 + k) rfl rfl rfl rfl (by rw [Int.toNat_natCast, Nat.zero_add]) (by omega)) ?_
   refine zAt rfl rfl rfl rfl rfl (by rw [show (Cells.box (zD8 k)).sz = 256 from zCK k]; exact Nat.ble_eq.symm ▸ (by omega : 48 + k + 1 ≤ 256)) rfl Nat.zero_lt_one ?_
   refine rn5 ?_
   refine zM ⟨k + 1, by omega, by omega, ⟨rfl, rfl, rfl, trivial⟩, ?_⟩
   show ([some ⟨_, .box ((zD8 k).set (48 + k) (.bool true))⟩] : zV) = _
   rw [setL_set k hk2]
 · have hke : k = 10 := by omega
   subst hke
   refine rn5 ?_
   refine zC (zKo (ob := ⟨273, .box (zD8 10)⟩) rfl rfl rfl (zCK 10).symm rfl rfl (box_all _) Nat.zero_lt_one) ?_
   refine zQ (c' := .box (zD8 10)) rfl rfl (by rw [show (Cells.box (zD8 10)).sz = 256 from zCK 10]; rfl) rfl (by rw [show (Cells.box (zD8 10)).sz = 256 from zCK 10]; exact zCK 10) Nat.zero_lt_one rfl rfl (fun i' j' hi' hj' => ?_) ?_
   · rw [if_pos (Nat.lt_one_iff.1 hi')]; rfl
   refine rn0 ?_
   exact zH hR rfl rfl
theorem zIv (ch : UInt8) : zW Tryz.prog 225 [.rp (.box (zD8 10)) 0 0, .int .u8 (ch.toNat : Nat)] (.bool (dg ch)) := by
 have hlt := ch.toNat_lt
 have hat := zJL 10 ch.toNat (by simpa using hlt)
 refine zO.value0 (zF (P := Tryz.prog) (fn := Tryz.f225) rfl rfl (by kernel_rfl) rfl (fun c hR hfix => ?_)) (fix := fun _ => False) (fun _ h => h) rfl rfl
 repeat (first | refine zC (zI rfl) ?_ | refine zC (zK rfl) ?_ | refine zB ?_ | refine zA ?_ | refine zZ ?_ | refine zL rfl ?_ | refine zC (zKi rfl) ?_)
 refine zC (zGc (m := ((ch.toNat : Nat) : Int)) (jx := ch.toNat) rfl rfl rfl rfl (by rw [Int.toNat_natCast, Nat.zero_add]) (by omega)) ?_
 refine zC (zBu rfl rfl rfl hat) ?_
 refine rn0 ?_
 exact zH hR rfl rfl
theorem right_ok (s : List UInt8) (hs : s.length ≤ 9223372036854775807) : zW Tryz.prog 199 [.str s, .rp (.box (zD8 10)) 0 0] (.str (trR s)) := by
 refine zO.value0 (zF (P := Tryz.prog) (fn := Tryz.f199) rfl rfl (by kernel_rfl) rfl (fun c hR hfix => ?_)) (fix := fun _ => False) (fun _ h => h) rfl rfl
 refine rn1 ?_
 refine zg (ι := Nat) (fun k => [(0, .str (s.take k)), (1, .rp (.box (zD8 10)) 0 0)]) (fun _ => []) (fun k => k ≤ s.length ∧ (s.drop k).all dg = true) (fun k => k) s.length ⟨⟨by rw [List.take_length]; rfl, rfl, trivial⟩, rfl, Nat.le_refl _, by simp⟩ ?_
 rintro k ⟨hk, hd⟩
 have hlen : (s.take k).length = k := by simp; omega
 have hof := trR_of hk hd
 refine rn6 ?_
 refine zD rfl (fun h1 => ?_) (fun h1 => ?_)
 · have hk1 : 0 < k := by omega
   have hg : (s.take k).getD (k - 1) 0 = s.getD (k - 1) 0 := by
     simp only [List.getD, List.getElem?_take, show k - 1 < k by omega, if_true]
   have e1 : ((k : Int) - 1).toNat = k - 1 := by omega
   have hc := zIv (s.getD (k - 1) 0)
   repeat (first | refine zC (zI rfl) ?_ | refine zA ?_ | refine zZ ?_ | refine zL rfl ?_ | refine zw ?_ | refine zi ?_ | refine zC (zCH rfl rfl) ?_ | refine zC (zBk rfl rfl (by omega)) ?_ | refine zC (zFU rfl rfl rfl (by first | assumption | omega | simp)) ?_)
   refine zN 13 (.int .u8 ((s.getD (k - 1) 0).toNat : Nat)) rfl (AEq.of_eq (by rw [hlen, e1, hg])) ?_
   refine zE rfl rfl rfl hc ?_
   refine rn5 ?_
   refine zDM rfl (fun h2 => ?_) (fun h2 => ?_)
   · have h3 : dg (s.getD (k - 1) 0) = false := by simpa using h2
     repeat (first | refine zC (zI rfl) ?_ | refine zC (zK rfl) ?_ | refine zB ?_ | refine zA ?_ | refine zZ ?_ | refine zL rfl ?_ | refine zAq ?_ | refine zq ?_ | refine zp ?_ | refine zAH ?_ | refine zJu rfl ?_ | refine zAQ ?_)
     refine zH hR rfl ?_
     rw [hof (.inr h3)]; rfl
   · have h3 : dg (s.getD (k - 1) 0) = true := by simpa using h2
     repeat (first | refine zC (zI rfl) ?_ | refine zA ?_ | refine zL rfl ?_ | refine zi ?_ | refine zC (zCH rfl rfl) ?_ | refine zC (zBk rfl rfl (by omega)) ?_)
     refine zC (zCc rfl rfl rfl rfl rfl rfl (by omega)) ?_
     refine rn5 ?_
     refine zM ⟨k - 1, ⟨by omega, ?_⟩, by omega, ⟨?_, rfl, trivial⟩, rfl⟩
     · rw [zBi s 0 (k - 1) (by omega), show k - 1 + 1 = k by omega, List.all_cons, h3, hd]; rfl
     · show some (AV.str ((List.drop 0 (s.take k)).take ((((s.take k).length : Int) - 1).toNat - 0))) = _
       rw [List.drop_zero, hlen, e1, Nat.sub_zero, List.take_take, Nat.min_eq_left (by omega)]
 · have hk0 : k = 0 := by omega
   subst hk0
   refine rn5 ?_
   refine zH hR rfl ?_
   rw [hof (.inl rfl)]; rfl
theorem left_ok (s : List UInt8) (hs : s.length ≤ 9223372036854775807) : zW Tryz.prog 198 [.str s, .rp (.box (zD8 10)) 0 0] (.str (trL s)) := by
 refine zO.value0 (zF (P := Tryz.prog) (fn := Tryz.f198) rfl rfl (by kernel_rfl) rfl (fun c hR hfix => ?_)) (fix := fun _ => False) (fun _ h => h) rfl rfl
 refine rn1 ?_
 refine zg (ι := Nat) (fun k => [(0, .str (s.drop k)), (1, .rp (.box (zD8 10)) 0 0)]) (fun _ => []) (fun k => k ≤ s.length ∧ (s.take k).all dg = true) (fun k => s.length - k) 0 ⟨⟨by rw [List.drop_zero]; rfl, rfl, trivial⟩, rfl, Nat.zero_le _, by simp⟩ ?_
 rintro k ⟨hk, hd⟩
 have hlen : (s.drop k).length = s.length - k := by simp
 have hof := trL_of hd
 refine rn6 ?_
 refine zD rfl (fun h1 => ?_) (fun h1 => ?_)
 · have hk1 : k < s.length := by omega
   have hg : (s.drop k).getD 0 0 = s.getD k 0 := by simp [List.getD]
   have hc := zIv (s.getD k 0)
   repeat (first | refine zC (zI rfl) ?_ | refine zA ?_ | refine zZ ?_ | refine zL rfl ?_ | refine zw ?_ | refine zi ?_ | refine zC (zFU rfl rfl rfl (by first | assumption | omega | simp)) ?_)
   refine zN 10 (.int .u8 ((s.getD k 0).toNat : Nat)) rfl (AEq.of_eq (by rw [Int.toNat_zero, hg])) ?_
   refine zE rfl rfl rfl hc ?_
   refine rn5 ?_
   refine zDM rfl (fun h2 => ?_) (fun h2 => ?_)
   · have h3 : dg (s.getD k 0) = false := by simpa using h2
     repeat (first | refine zC (zI rfl) ?_ | refine zC (zK rfl) ?_ | refine zB ?_ | refine zA ?_ | refine zZ ?_ | refine zL rfl ?_ | refine zAq ?_ | refine zq ?_ | refine zp ?_ | refine zAH ?_ | refine zJu rfl ?_ | refine zAQ ?_)
     refine zH hR rfl ?_
     rw [hof (.inr h3)]; rfl
   · have h3 : dg (s.getD k 0) = true := by simpa using h2
     refine rn1 ?_
     refine zC (zCc rfl rfl rfl rfl rfl rfl (by omega)) ?_
     refine rn5 ?_
     refine zM ⟨k + 1, ⟨by omega, ?_⟩, by omega, ⟨?_, rfl, trivial⟩, rfl⟩
     · rw [zAj s 0 k hk1, List.all_append, hd]; simp only [List.all_cons, List.all_nil, h3, Bool.and_true]
     · show some (AV.str ((List.drop 1 (s.drop k)).take ((s.drop k).length - 1))) = _
       rw [List.drop_drop, List.take_of_length_le (by simp; omega)]
 · have hk0 : s.length ≤ k := by omega
   refine rn5 ?_
   refine zH hR rfl ?_
   rw [hof (.inl hk0)]; rfl
theorem trim_ok (s : List UInt8) (hs : s.length ≤ 9223372036854775807) : zW Tryz.prog 155 [.str s, .str digS] (.str (trL (trR s))) := by
 have h1 := set_ok
 have h2 := right_ok s hs
 have hle : (trR s).length ≤ s.length := by
   unfold trR
   rw [List.length_reverse]
   have := (List.dropWhile_sublist (p := dg) (l := s.reverse)).length_le
   simpa using this
 have h3 := left_ok (trR s) (by omega)
 refine zO.value0 (zF (P := Tryz.prog) (fn := Tryz.f155) rfl rfl (by kernel_rfl) rfl (fun c hR hfix => ?_)) (fix := fun _ => False) (fun _ h => h) rfl rfl
 have hl := zCK 10
 refine rn6 ?_
 by_cases h0 : s = []
 · subst h0
   refine rn6 ?_
   exact zH hR rfl rfl
 rw [show decide (s = _) = false from decide_eq_false h0]
 refine rn6 ?_
 refine zE rfl rfl rfl h1 ?_
 refine rn4 ?_
 refine zQ (c' := .box (zD8 10)) rfl rfl rfl rfl (zCK 10) Nat.zero_lt_one rfl (zCK 10) (fun i' j' hi' hj' => ?_) ?_
 · rw [if_pos (Nat.lt_one_iff.1 hi')]; rfl
 refine rn5 ?_
 have hrl : ∀ (h : Nat) (o : AObj), ([some ⟨273, .box (zD8 10)⟩] : zV)[h]? = some (some o) → z7 o.c := zGE (fun i j hi hj => by
   show noRef ((zD8 10).getD j .any) = true
   rw [List.getD, zJL 10 j (by have : j < (zD8 10).length := hj; rwa [zCK] at this)]; rfl)
 refine zAb [some ⟨273, .box (zD8 10)⟩] rfl ?_
 refine zGU rfl rfl rfl rfl h2 hrl ⟨trivial, fun o ho => by simp at ho; subst ho; exact Nat.zero_lt_one, trivial⟩ rfl rfl rfl ?_
 skip
 refine zGU rfl rfl rfl rfl h3 hrl ⟨trivial, fun o ho => by simp at ho; subst ho; exact Nat.zero_lt_one, trivial⟩ rfl rfl rfl ?_
 refine rn2 ?_
 exact zH hR rfl rfl
end Go.Proofs.YtnkealfaldjipaaGreatDoor
namespace Go.Proofs.YtnkealfaldjipaaGreatDoor
open Go.Ax Go.Ax.Bg Go.RowKit
open Go.Ax.Tb (zBX zDI zBZ zBv)
attribute [local irreducible] Ax zAM QOp zO
set_option maxRecDepth 100000
set_option maxHeartbeats 4000000
theorem zP4 {i : Nat} (h : i ≤ 9) : 10 ^ i ≤ 1000000000 := by
 have := Nat.pow_le_pow_right (show 0 < 10 by decide) h
 exact Nat.le_trans this (by decide)
theorem zJM (S : List UInt8) (hd : ∀ c ∈ S, zBX c) (hl : S.length ≤ 1000000) : zW Tryz.prog 95 [.str S] (zAJ (zAf 0 S)) := by
 refine zO.value0 (zF (P := Tryz.prog) (fn := Tryz.f95) rfl rfl (by kernel_rfl) rfl (fun c hR hfix => ?_)) (fix := fun _ => False) (fun _ h => h) rfl rfl
 refine rn0 ?_
 refine zAO 3 (zAJ 0) rfl AEq.natNil ?_
 refine zw ?_
 refine zg (ι := Nat × List UInt8) (fun p => [(0, .str p.2), (3, zAJ p.1)]) (fun _ => []) (fun p => p.2.length ≤ S.length ∧ (∀ c ∈ p.2, zBX c) ∧ zAf p.1 p.2 = zAf 0 S ∧ p.1 < 10 ^ (S.length - p.2.length)) (fun p => p.2.length) (0, S) ⟨⟨rfl, rfl, trivial⟩, rfl, Nat.le_refl _, hd, rfl, by simp⟩ ?_
 rintro ⟨v, s⟩ ⟨h1, h2, h3, h4⟩
 simp only at *
 refine rn6 ?_
 refine zD rfl (fun h5 => ?_) (fun h5 => ?_)
 · have hs0 : s ≠ [] := by rintro rfl; simp at h5
   obtain ⟨k, hk, hk1, hk9, hks⟩ : ∃ k : Nat, (if (9 : Int) < (s.length : Nat) then (9 : Int) else (s.length : Nat)) = (k : Int) ∧ 1 ≤ k ∧ k ≤ 9 ∧ k ≤ s.length := by
     have : 0 < s.length := List.length_pos_iff.2 hs0
     by_cases hz : (9 : Int) < (s.length : Nat)
     · exact ⟨9, by rw [if_pos hz]; rfl, by omega, by omega, by omega⟩
     · exact ⟨s.length, by rw [if_neg hz], by omega, by omega, Nat.le_refl _⟩
   have ht0 : s.take k ≠ [] := by
     intro e
     have := congrArg List.length e
     rw [List.length_take, Nat.min_eq_left hks] at this
     simp at this; omega
   have htl : (s.take k).length = k := by rw [List.length_take, Nat.min_eq_left hks]
   obtain ⟨hp, hplt⟩ := zFd ht0 (fun c hc => h2 c (List.mem_of_mem_take hc)) (by omega)
   have hp32 := parse32 (s.take k) _ (by omega) hp
   have hdv : zAf (v * 10 ^ k + zAf 0 (s.take k)) (s.drop k) = zAf 0 S := by
     rw [← h3]
     conv => rhs; rw [← List.take_append_drop k s]
     rw [zGI, zGX (s.take k) v, htl]
   have hxlt := zHu (l := s.take k) (fun c hc => h2 c (List.mem_of_mem_take hc))
   rw [htl] at hxlt
   have hvn : v * 10 ^ k + zAf 0 (s.take k) < 10 ^ (S.length - (s.drop k).length) := by
     rw [List.length_drop, show S.length - (s.length - k) = (S.length - s.length) + k by omega, Nat.pow_add]
     have : (v + 1) * 10 ^ k ≤ 10 ^ (S.length - s.length) * 10 ^ k := Nat.mul_le_mul_right _ h4
     rw [Nat.add_mul] at this
     omega
   obtain ⟨x, hx⟩ : ∃ x, zAf 0 (s.take k) = x := ⟨_, rfl⟩
   rw [hx] at hplt hp32 hdv hvn
   have hvl : (zY v).length ≤ S.length - s.length := zAp (Nat.lt_of_lt_of_le h4 (Nat.pow_le_pow_left (by decide) _))
   have hma := zRQ (zY v) (10 ^ k) x (zAZ v) (by omega) (by have := zP4 hk9; omega) (by omega)
   rw [zAA] at hma
   repeat (first | refine zC (zI rfl) ?_ | refine zC (zK rfl) ?_ | refine zB ?_ | refine zA ?_ | refine zZ ?_ | refine zL rfl ?_ | refine zw ?_ | refine zi ?_ | refine zC (zCH rfl rfl) ?_ | refine zC (q_min rfl rfl) ?_ | refine zC (zCc rfl rfl rfl rfl rfl rfl (by omega)) ?_)
   rw [hk]
   refine zN 17 (.str (s.take k)) rfl (AEq.of_eq (by
     show AV.str ((List.drop 0 s).take (k - 0)) = _
     rw [List.drop_zero, Nat.sub_zero])) ?_
   refine zE rfl rfl rfl hp32 ?_
   refine rn2 ?_
   refine zg (ι := Nat) (fun i => [(0, .str s), (3, zAJ v), (4, .int .i64 (k : Nat)), (5, .int .u64 (x : Nat)), (7, .int .u32 (10 ^ i : Nat)), (21, .int .i64 (k : Nat)), (22, .int .i64 (i : Nat))]) (fun _ => []) (fun i => i ≤ k) (fun i => k - i) 0 ⟨⟨rfl, rfl, rfl, rfl, rfl, rfl, rfl, trivial⟩, rfl, Nat.zero_le _⟩ ?_
   rintro i hi
   refine rn4 ?_
   refine zD rfl (fun h6 => ?_) (fun h6 => ?_)
   · have hpw := zP4 (show i + 1 ≤ 9 by omega)
     rw [Nat.pow_succ] at hpw
     refine rn1 ?_
     refine zC (zIg (m := 10 ^ i) (n := 10) rfl rfl zEh (by omega)) ?_
     refine rn5 ?_
     exact zM ⟨i + 1, by omega, by omega, ⟨rfl, rfl, rfl, rfl, rfl, rfl, rfl, trivial⟩, rfl⟩
   · have hie : i = k := by omega
     subst hie
     refine rn5 ?_
     refine zC (zAX (m := x) rfl rfl rfl zEh (by omega)) ?_
     refine zE rfl rfl rfl hma ?_
     repeat (first | refine zC (zI rfl) ?_ | refine zC (zK rfl) ?_ | refine zB ?_ | refine zA ?_ | refine zL rfl ?_ | refine za ?_ | refine zC (zCc rfl rfl rfl rfl rfl rfl (by omega)) ?_)
     refine zM ⟨(v * 10 ^ i + x, s.drop i), ⟨by simp only [List.length_drop]; omega, fun c hc => h2 c (List.mem_of_mem_drop hc), hdv, hvn⟩, by simp only [List.length_drop]; omega, ⟨?_, rfl, trivial⟩, rfl⟩
     show some (AV.str ((List.drop i s).take (s.length - i))) = _
     rw [List.take_of_length_le (by simp)]
 · have hs0 : s = [] := by
     rcases s with _ | ⟨x, r⟩
     · rfl
     · exact absurd (by simp) h5
   subst hs0
   refine rn5 ?_
   refine zH hR rfl ?_
   rw [← h3]; rfl
theorem zQZ : zW Tryz.prog 184 [zAJ 0] (.str (Lib.decDigits 0)) := by
 refine zO.value0 (zF (P := Tryz.prog) (fn := Tryz.f184) rfl rfl (by kernel_rfl) rfl (fun c hR hfix => ?_)) (fix := fun _ => False) (fun _ h => h) rfl rfl
 have en : zAJ 0 = .ro (.ints .u32 []) 0 0 := by unfold zAJ; rw [zBa]; rfl
 rw [en]
 refine rn5 ?_
 refine zH hR rfl ?_
 rw [Lib.decDigits_one (by decide)]; rfl
theorem zDC {n L : Nat} (h : (zY n).length ≤ L) (hL : 1 ≤ L) : (Lib.decDigits n).length ≤ 10 * L := by
 have h1 := zAw (zAZ n)
 rw [zAA] at h1
 have h2 : B ^ (zY n).length ≤ B ^ L := Nat.pow_le_pow_right (by decide) h
 have h3 : B ^ L ≤ (10 ^ 10) ^ L := Nat.pow_le_pow_left (by decide) L
 rw [← Nat.pow_mul] at h3
 exact zDq (by omega) (by omega)
theorem zJN (n : Nat) (h : (zY n).length ≤ 1000000) : zW Tryz.prog 184 [zAJ n] (.str (Lib.decDigits n)) := by
 rcases Nat.eq_zero_or_pos n with h0 | h0
 · subst h0; exact zQZ
 have hdl := zDC h (by decide)
 have hn0 : 0 < (zY n).length := zB9.2 (by omega)
 refine zO.value0 (zF (P := Tryz.prog) (fn := Tryz.f184) rfl rfl (by kernel_rfl) rfl (fun c hR hfix => ?_)) (fix := fun _ => False) (fun _ h => h) rfl rfl
 unfold zAJ
 refine rn4 ?_
 refine zD rfl (fun q => absurd q (by omega)) (fun q => ?_)
 repeat (first | refine zC (zK rfl) ?_ | refine zB ?_ | refine zA ?_ | refine zZ ?_ | refine zL rfl ?_ | refine zi ?_)
 refine zA1 3 ⟨9, .strs []⟩ rfl rfl ?_
 refine zw ?_
 refine zg (ι := Nat × List (List UInt8)) (fun p => [(0, zAJ p.1), (3, .sl 0 0 p.2.length)]) (fun p => [some ⟨9, .strs p.2⟩]) (fun p => (zY p.1).length ≤ 1000000 ∧ p.2.length ≤ p.2.reverse.flatten.length ∧ (if p.1 = 0 then Lib.decDigits n = p.2.reverse.flatten else Lib.decDigits n = Lib.decDigits p.1 ++ p.2.reverse.flatten)) (fun p => p.1) (n, [])
   ⟨⟨rfl, rfl, trivial⟩, rfl, h, by simp, by rw [if_neg (by simp only; omega)]; simp⟩ ?_
 rintro ⟨m, ps⟩ ⟨h1, h2, h3⟩
 simp only at *
 have hpos : 0 < (zY m).length ↔ m ≠ 0 := zB9
 have hds := zI8 (zY m) 1000000000 (zAZ m) (by omega) (by decide)
 rw [zAA] at hds
 have hflen : ps.reverse.flatten.length ≤ 10000000 := by
   have e : ps.reverse.flatten.length ≤ (Lib.decDigits n).length := by
     split at h3
     · rw [h3]; exact Nat.le_refl _
     · rw [h3, List.length_append]; omega
   omega
 have en : zAJ m = .ro (.ints .u32 (zY m)) 0 (zY m).length := rfl
 rw [en]
 refine rn6 ?_
 refine zD rfl (fun h4 => ?_) (fun h4 => ?_)
 · have hm0 : m ≠ 0 := hpos.1 (by omega)
   rw [if_neg hm0] at h3
   have hr : m % 1000000000 < 1000000000 := Nat.mod_lt _ (by decide)
   have hlt : m / 1000000000 < m := Nat.div_lt_self (by omega) (by decide)
   have hit := itoaN (m % 1000000000) (by omega)
   have hpos2 : 0 < (zY (m / 1000000000)).length ↔ m / 1000000000 ≠ 0 := zB9
   have hlen2 := zFC hlt h1
   have hrl : (Lib.decDigits (m % 1000000000)).length ≤ 9 := zDq (by decide) (by have e9 : (10 : Nat) ^ 9 = 1000000000 := by decide
                                                                                 rw [e9]; exact hr)
   have hrp := repeat0 (9 - (Lib.decDigits (m % 1000000000)).length) (by omega)
   obtain ⟨t, ht0, htl, htp, htn⟩ : ∃ t : List UInt8, t ≠ [] ∧ t.length ≤ 9 ∧ (m / 1000000000 ≠ 0 → t = List.replicate (9 - (Lib.decDigits (m % 1000000000)).length) 48 ++ Lib.decDigits (m % 1000000000)) ∧ (m / 1000000000 = 0 → t = Lib.decDigits (m % 1000000000)) := by
     by_cases z : m / 1000000000 = 0
     · exact ⟨_, zBv _, hrl, fun h => absurd z h, fun _ => rfl⟩
     · refine ⟨_, ?_, ?_, fun _ => rfl, fun h => absurd h z⟩
       · simp [zBv]
       · simp; omega
   have hsplit : m / 1000000000 ≠ 0 → Lib.decDigits m = Lib.decDigits (m / 1000000000) ++ t := fun z => by
     have e9 : (10 : Nat) ^ 9 = 1000000000 := by decide
     have hs := zL9 (n := m) (k := 9) (by decide) (by rw [e9]; omega)
     rw [e9] at hs
     rw [hs, htp z]; rfl
   have hone : m / 1000000000 = 0 → Lib.decDigits m = t := fun z => by
     rw [htn z]
     congr 1
     have := Nat.div_add_mod m 1000000000
     omega
   have hnew : (if m / 1000000000 = 0 then Lib.decDigits n = (ps ++ [t]).reverse.flatten else Lib.decDigits n = Lib.decDigits (m / 1000000000) ++ (ps ++ [t]).reverse.flatten) := by
     rw [List.reverse_append, List.reverse_singleton, List.singleton_append, List.flatten_cons]
     split
     · rename_i z; rw [h3, hone z]
     · rename_i z; rw [h3, hsplit z, List.append_assoc]
   obtain ⟨r, hrr⟩ : ∃ r, m % 1000000000 = r := ⟨_, rfl⟩
   obtain ⟨d, hdd⟩ : ∃ d, m / 1000000000 = d := ⟨_, rfl⟩
   simp only [hrr, hdd] at *
   refine rn1 ?_
   refine zE rfl rfl rfl hds ?_
   refine rn2 ?_
   refine zC (zEq (m := r) rfl rfl rfl (by omega)) ?_
   refine zE rfl rfl rfl hit ?_
   have en2 : zAJ d = .ro (.ints .u32 (zY d)) 0 (zY d).length := rfl
   rw [en2]
   refine rn6 ?_
   apply zAv (H := [some ⟨9, .strs ps⟩]) [(0, zAJ d), (3, .sl 0 0 ps.length), (5, .str t)]
   · intro fin
     refine zD rfl (fun q2 => ?_) (fun q2 => ?_)
     · have hd0 : d ≠ 0 := hpos2.1 (by omega)
       repeat (first | refine zC (zI rfl) ?_ | refine zL rfl ?_ | refine zC (zCH rfl rfl) ?_ | refine zC (zBk rfl rfl (by omega)) ?_)
       refine zN 25 (.int .i64 (9 - (Lib.decDigits r).length : Nat)) rfl (AEq.of_eq (by congr 1; omega)) ?_
       refine zE rfl rfl rfl hrp ?_
       repeat (refine zC (zI rfl) ?_)
       refine zC (zEp rfl rfl (by simp; omega)) ?_
       repeat (first | refine zC (zK rfl) ?_ | refine zB ?_ | refine zA ?_)
       exact fin _ ⟨rfl, rfl, by rw [htp hd0]; rfl, trivial⟩
     · have hd0 : d = 0 := by
         rcases Nat.eq_zero_or_pos d with z | z
         · exact z
         · exact absurd (by have := hpos2.2 (by omega); omega) q2
       repeat (first | refine zA ?_ | refine zi ?_)
       exact fin _ ⟨rfl, rfl, by rw [htn hd0]; rfl, trivial⟩
   refine rn3 ?_
   refine zm rfl rfl rfl rfl rfl rfl rfl rfl rfl rfl rfl rfl (Nat.le_refl 1) rfl (by show (ps.length + 1) * 16 ≤ _ ∧ _; omega) (fun i j _ _ => rfl) (by rw [hfix]; exact fun h => h) ?_
   refine rn5 ?_
   refine zM ⟨(d, ps ++ [t]), ⟨hlen2, ?_, hnew⟩, hlt, ⟨rfl, ?_, trivial⟩, rfl⟩
   · simp only [List.reverse_append, List.reverse_singleton, List.singleton_append, List.flatten_cons, List.length_append, List.length_singleton]
     have := List.length_pos_iff.2 ht0
     omega
   · show some (AV.sl 0 0 (ps.length + 1)) = _
     simp
 · have hm0 : m = 0 := by
     rcases Nat.eq_zero_or_pos m with q | q
     · exact q
     · exact absurd (by have := hpos.2 (by omega); omega) h4
   rw [if_pos hm0] at h3
   have hrv := zOw ps (by omega)
   have hjl : (Lib.join ps.reverse []).length ≤ 140737488355328 := by rw [zKy]; omega
   have hjn := join ps.reverse [] (by rw [List.length_reverse]; omega) hjl
   rw [zKy, ← h3, List.length_reverse] at hjn
   refine rn5 ?_
   refine zJo (fix := fun h => h < 1) rfl rfl rfl hrv (fun h hh => hh) (fun h hh => hh) ?_
   rintro r H rfl
   refine rn0 ?_
   refine zCu 0 35 ps.length [] rfl zEK rfl (by show _ ≤ ps.reverse.length; simp) trivial ?_
   refine zE rfl rfl rfl hjn ?_
   refine rn0 ?_
   exact zH hR rfl rfl
end Go.Proofs.YtnkealfaldjipaaGreatDoor
namespace Go.Ax.Idx
def outC (n : Int) : Bool := decide (n < 0 ∨ 16 < n)
def outK (n : Int) : Bool := decide (n < 0 ∨ 6 < n)
/-- index.CheckCounts -/
def checkCountsF (l : List Int) : Int :=
 if l.length ≠ 7 then 3 else if l.any outC then 4 else if 16 < l.sum then 2 else 0
/-- index.Check -/
def checkF (l : List Int) : Int := if 16 < l.length then 2 else if l.any outK then 4 else 0
def zM4 (s : Int × Int) (k : Nat) : Int × Int := (s.1 * (s.2 + 1) / (k + 1), s.2 + 1)
def wrow (s : Int × Int) (c : Int) : Int × Int := (List.range c.toNat).foldl zM4 s
def waysS (l : List Int) : Int × Int := l.foldl wrow (1, 0)
def waysF (l : List Int) : Int := (waysS l).1
def fct : Nat → Int
 | 0 => 1
 | n + 1 => (n + 1) * fct n
theorem zPm : ∀ n, 1 ≤ fct n
 | 0 => by simp [fct]
 | n + 1 => by
   have := zPm n
   simp only [fct]
   have h : (1 : Int) * 1 ≤ (n + 1) * fct n := Int.mul_le_mul (by omega) this (by omega) (by omega)
   omega
theorem fct_mono : ∀ d m, fct m ≤ fct (m + d) := by
 intro d
 induction d with
 | zero => intro m; exact Int.le_refl _
 | succ d ih =>
   intro m
   have h := ih m
   have p := zPm (m + d)
   have : fct (m + d + 1) = (m + d + 1) * fct (m + d) := by simp only [fct]; congr 1
   rw [← Nat.add_assoc, this]
   have h5 : (1 : Int) * fct (m + d) ≤ (m + d + 1) * fct (m + d) := Int.mul_le_mul_of_nonneg_right (by omega) (by omega)
   omega
/-- What holds of the two zAi while 'ways' counts. -/
structure WOk (s : Int × Int) (n : Nat) : Prop where
 num : s.2 = n
 lo : 0 ≤ s.1
 hi : s.1 ≤ fct n
theorem WOk.step {s : Int × Int} {n : Nat} (h : WOk s n) (k : Nat) : WOk (zM4 s k) (n + 1) := by
 obtain ⟨h1, h2, h3⟩ := h
 have hm : 0 ≤ s.1 * (s.2 + 1) := Int.mul_nonneg h2 (by omega)
 refine ⟨by simp only [zM4]; omega, Int.ediv_nonneg hm (by omega), ?_⟩
 simp only [zM4, fct]
 refine Int.le_trans (Int.ediv_le_self _ hm) ?_
 rw [h1, Int.mul_comm]
 exact Int.mul_le_mul_of_nonneg_left h3 (by omega)
theorem WOk.range {s : Int × Int} {n : Nat} (h : WOk s n) (j : Nat) : WOk ((List.range j).foldl zM4 s) (n + j) := by
 induction j with
 | zero => exact h
 | succ j ih => rw [List.range_succ, List.foldl_append]; exact ih.step j
theorem WOk.mul {s : Int × Int} {n : Nat} (h : WOk s n) (hn : n ≤ 15) : 0 ≤ s.1 * (s.2 + 1) ∧ s.1 * (s.2 + 1) ≤ 9223372036854775807 := by
 obtain ⟨h1, h2, h3⟩ := h
 have h4 : fct n ≤ fct 15 := by
   have := fct_mono (15 - n) n
   rwa [show n + (15 - n) = 15 by omega] at this
 have h5 : fct 15 = 1307674368000 := by decide
 refine ⟨Int.mul_nonneg h2 (by omega), ?_⟩
 have : s.1 * (s.2 + 1) ≤ 1307674368000 * 16 := Int.mul_le_mul (by omega) (by omega) (by omega) (by omega)
 omega
/-- The place of the first element with a property, or -1. -/
def zCr {α : Type} (p : α → Bool) : List α → Int
 | [] => -1
 | x :: r => if p x then 0 else if zCr p r < 0 then -1 else zCr p r + 1
theorem zNs {α : Type} (p : α → Bool) (l : List α) (h : zCr p l < 0) : zCr p l = -1 := by
 cases l with
 | nil => rfl
 | cons x r =>
   simp only [zCr] at h ⊢
   by_cases h1 : p x = true
   · simp [h1] at h
   · by_cases h2 : zCr p r < 0
     · simp [h1, h2]
     · simp only [h1, h2, if_false, Bool.false_eq_true] at h
       omega
theorem zBP {α : Type} (p : α → Bool) (l : List α) (k : Nat) (h : (l.take k).any p = false) (hk : k ≤ l.length) : zCr p l = if zCr p (l.drop k) < 0 then -1 else zCr p (l.drop k) + k := by
 induction k generalizing l with
 | zero =>
   simp only [List.drop_zero]
   split
   · exact zNs p l (by assumption)
   · omega
 | succ k ih => cases l with
   | nil => simp at hk
   | cons x r =>
     simp only [List.take_succ_cons, List.any_cons, Bool.or_eq_false_iff] at h
     have := ih r h.2 (by simpa using hk)
     simp only [zCr, h.1, List.drop_succ_cons, Bool.false_eq_true, if_false]
     rw [this]
     split <;> split <;> omega
theorem zEr {α : Type} (p : α → Bool) (l : List α) : decide (0 ≤ zCr p l) = l.any p := by
 induction l with
 | nil => rfl
 | cons x r ih =>
   simp only [zCr, List.any_cons]
   by_cases h1 : p x = true
   · simp [h1]
   · simp only [Bool.not_eq_true] at h1
     simp only [h1, Bool.false_eq_true, if_false, Bool.false_or]
     rw [← ih]
     by_cases h2 : zCr p r < 0
     · rw [if_pos h2]; simp; omega
     · rw [if_neg h2]; congr 1; simp; omega
/-- How often each kind occurs. -/
def cnt (m : List Int) : List Int := (List.range 7).map fun (i : Nat) => ((m.count (i : Int) : Nat) : Int)
theorem getD_set {l : List Int} {i j : Nat} {v : Int} (hi : i < l.length) : (l.set i v).getD j 0 = if j = i then v else l.getD j 0 := by
 by_cases h : j = i
 · subst h; simp [List.getD, hi]
 · simp only [List.getD, h, if_false]
   rw [List.getElem?_set_ne (fun e => h e.symm)]
/-- One less of kind i. -/
def less (l : List Int) (i : Nat) : List Int := l.set i (l.getD i 0 - 1)
/-- The zAi of placements that begin with a smaller kind. -/
def rrow (l : List Int) (c : Nat) : Int := ((List.range c).map fun i => if 0 < l.getD i 0 then waysF (less l i) else 0).sum
def rankF : List Int → Int
 | [] => 0
 | c :: r => rrow (cnt (c :: r)) c.toNat + rankF r
end Go.Ax.Idx
namespace Go.Ax.Cd
open Go.Ax.Idx
def eqp (v y : Int) : Bool := decide (v = y)
/-- cards.Check, from some card on -/
def deckGo (seen : List Int) : List Int → Int
 | [] => 0
 | c :: r => if c < 0 ∨ 52 ≤ c then 4 else if seen.any (eqp c) then 7 else deckGo (seen ++ [c]) r
def deckF (l : List Int) : Int := if 52 < l.length then 2 else deckGo [] l
/-- cards.Fits -/
def fitsGo (n : Int) (j : Nat) : List Int → Int
 | [] => 0
 | d :: r => if d < 0 ∨ n - 1 - j < d then 4 else fitsGo n (j + 1) r
def fitsF (n : Int) (l : List Int) : Int := if (l.length : Int) ≠ (if 1 > n then 1 else n) - 1 then 3 else fitsGo n 0 l
/-- The first zAi. -/
def iota (n : Nat) : List Int := (List.range n).map fun (i : Nat) => (i : Int)
def swapF (l : List Int) (i k : Nat) : List Int := (l.set i (l.getD k 0)).set k (l.getD i 0)
/-- cards.Shuffle, from some draw on -/
def shufGo (l : List Int) (j : Nat) : List Int → List Int
 | [] => l
 | d :: r => shufGo (swapF l (l.length - 1 - j) d.toNat) (j + 1) r
def shufF (l draws : List Int) : List Int := shufGo l 0 draws
/-- The draws between two decks, from place i on downwards: what is still to be placed is 'now'. -/
def zPo (to : List Int) : Nat → List Int → List Int
 | 0, _ => []
 | i + 1, now => zCr (eqp (to.getD (i + 1) 0)) now :: zPo to i (swapF now (i + 1) (zCr (eqp (to.getD (i + 1) 0)) now).toNat)
def drawsF (l to : List Int) : List Int := zPo to (l.length - 1) l
def drawsE (l to : List Int) : Int := if l.length ≠ to.length then 3 else if to.any (fun c => !(l.any (eqp c))) then 3 else 0
end Go.Ax.Cd
namespace Go.Ax.Cd
open Go.Ax.Idx
end Go.Ax.Cd
namespace Go.Ax.Cd
open Go.Ax.Idx
/-- The hands behind so many cards. -/
def dealGo (P : Nat) (l : List Int) : Nat → List (List Int)
 | 0 => List.replicate P []
 | m + 1 => (dealGo P l m).set (m % P) ((dealGo P l m).getD (m % P) [] ++ [l.getD m 0])
end Go.Ax.Cd
namespace Go.Proofs.YtnkealfaldjipaaGreatDoor
open Go.Ax Go.Ax.Idx Go.Ax.Cd
attribute [local irreducible] Ax zAM QOp zO
set_option maxRecDepth 100000
set_option maxHeartbeats 4000000
theorem indexI (l : List Int) (v : Int) (hlen : l.length ≤ 9223372036854775807) :
   zW Tryz.prog 161 [.ro (.ints .i64 l) 0 l.length, .int .i64 v] (.int .i64 (zCr (eqp v) l)) := by
 refine zO.value0 (zF (P := Tryz.prog) (fn := Tryz.f161) rfl rfl (by kernel_rfl) rfl (fun c hR hfix => ?_)) (fix := fun _ => False) (fun _ h => h) rfl rfl
 refine rn3 ?_
 refine zg (ι := Nat) (fun k => [(0, .ro (.ints .i64 l) 0 l.length), (1, .int .i64 v), (7, .int .i64 (l.length : Nat)), (8, .int .i64 (k : Nat))]) (fun _ => [])
   (fun k => k ≤ l.length ∧ (l.take k).any (eqp v) = false) (fun k => l.length - k) 0 ⟨⟨rfl, rfl, rfl, rfl, trivial⟩, rfl, Nat.zero_le _, rfl⟩ ?_
 intro k ⟨hk, hany⟩
 refine rn4 ?_
 refine zD rfl (fun h => ?_) (fun h => ?_)
 · have hk' : k < l.length := by omega
   have hanys := zBt (eqp v) l 0 k hk'
   refine rn6 ?_
   refine zD rfl (fun h2 => ?_) (fun h2 => ?_)
   · refine rn6 ?_
     refine zH hR rfl ?_
     have := zBP (eqp v) l k hany hk
     rw [zBi l 0 k hk'] at this
     have h3 : eqp v (l.getD k 0) = true := by simpa [eqp] using h2
     simp only [zCr, h3, if_true] at this
     rw [this]; simp [zBF]
   · refine rn5 ?_
     have h3 : eqp v (l.getD k 0) = false := by simpa [eqp] using h2
     refine zM ⟨k + 1, ⟨by omega, by rw [hanys, hany, h3]; rfl⟩, by omega, ⟨rfl, rfl, rfl, rfl, trivial⟩, rfl⟩
 · have hk' : k = l.length := by omega
   subst hk'
   refine rn5 ?_
   refine zH hR rfl ?_
   have := zBP (eqp v) l l.length hany hk
   rw [List.drop_length] at this
   rw [this]; rfl
theorem equalI (a b : List Int) (hlen : a.length ≤ 9223372036854775807) (hlb : b.length ≤ 9223372036854775807) : zW Tryz.prog 101 [.ro (.ints .i64 a) 0 a.length, .ro (.ints .i64 b) 0 b.length] (.bool (decide (a = b))) := by
 refine zO.value0 (zF (P := Tryz.prog) (fn := Tryz.f101) rfl rfl (by kernel_rfl) rfl (fun c hR hfix => ?_)) (fix := fun _ => False) (fun _ h => h) rfl rfl
 refine rn3 ?_
 refine zD rfl (fun h => ?_) (fun h => ?_)
 · refine rn2 ?_
   refine zH hR rfl ?_
   have : ¬ a = b := by rintro rfl; exact h rfl
   simp [zBF, this]
 have hab : a.length = b.length := by omega
 refine rn3 ?_
 refine zg (ι := Nat) (fun k => [(0, .ro (.ints .i64 a) 0 a.length), (1, .ro (.ints .i64 b) 0 b.length), (12, .int .i64 (a.length : Nat)), (13, .int .i64 (k : Nat))]) (fun _ => [])
   (fun k => k ≤ a.length ∧ a.take k = b.take k) (fun k => a.length - k) 0 ⟨⟨rfl, rfl, rfl, rfl, trivial⟩, rfl, Nat.zero_le _, rfl⟩ ?_
 intro k ⟨hk, heq⟩
 refine rn4 ?_
 refine zD rfl (fun h2 => ?_) (fun h2 => ?_)
 · have hk' : k < a.length := by omega
   have ha := zAj a 0 k hk'
   have hb := zAj b 0 k (by omega)
   refine rn1 ?_
   refine zDU (by kernel_rfl) (by kernel_rfl) rfl ?_
   refine rn6 ?_
   refine zD rfl (fun h3 => ?_) (fun h3 => ?_)
   · refine rn6 ?_
     refine zH hR rfl ?_
     have : ¬ a = b := by rintro rfl; exact h3 rfl
     simp [zBF, this]
   · refine rn5 ?_
     have h4 : a.getD k 0 = b.getD k 0 := by omega
     exact zM ⟨k + 1, ⟨by omega, by rw [ha, hb, heq, h4]⟩, by omega, ⟨rfl, rfl, rfl, rfl, trivial⟩, rfl⟩
 · have hk' : k = a.length := by omega
   subst hk'
   rw [List.take_length, hab, List.take_length] at heq
   refine rn5 ?_
   refine zH hR rfl ?_
   simp [zBF, heq]
theorem zOO (l : List Int) (g : FuncId) (caps : List AV) (p : Int → Bool) (hc : noRef.noRefs caps = true) (hlen : l.length ≤ 9223372036854775807) (hp : ∀ x ∈ l, zW Tryz.prog g ([.int .i64 x] ++ caps) (.bool (p x))) :
   zW Tryz.prog 215 [.ro (.ints .i64 l) 0 l.length, .fn g caps] (.int .i64 (zCr p l)) := by
 refine zO.value0 (zF (P := Tryz.prog) (fn := Tryz.f215) rfl rfl (by kernel_rfl) rfl (fun c hR hfix => ?_)) (fix := fun _ => False) (fun _ h => h) (by simp [noRef.noRefs, noRef, hc]) rfl
 refine rn3 ?_
 refine zg (ι := Nat) (fun k => [(0, .ro (.ints .i64 l) 0 l.length), (1, .fn g caps), (7, .int .i64 (l.length : Nat)), (8, .int .i64 (k : Nat))]) (fun _ => [])
   (fun k => k ≤ l.length ∧ (l.take k).any p = false) (fun k => l.length - k) 0 ⟨⟨rfl, rfl, rfl, rfl, trivial⟩, rfl, Nat.zero_le _, rfl⟩ ?_
 intro k ⟨hk, hany⟩
 refine rn4 ?_
 refine zD rfl (fun h => ?_) (fun h => ?_)
 · have hk' : k < l.length := by omega
   have hanys := zBt p l 0 k hk'
   refine rn6 ?_
   refine zE rfl rfl rfl (hp _ (zBH 0 hk')) ?_
   refine rn0 ?_
   refine zDM rfl (fun h2 => ?_) (fun h2 => ?_)
   · refine rn6 ?_
     refine zH hR rfl ?_
     have := zBP p l k hany hk
     rw [zBi l 0 k hk'] at this
     simp only [zCr, h2, if_true] at this
     rw [this]; simp [zBF]
   · refine rn5 ?_
     refine zM ⟨k + 1, ⟨by omega, by rw [hanys, hany, h2]; rfl⟩, by omega, ⟨rfl, rfl, rfl, rfl, trivial⟩, rfl⟩
 · have hk' : k = l.length := by omega
   subst hk'
   refine rn5 ?_
   refine zH hR rfl ?_
   have := zBP p l l.length hany hk
   rw [List.drop_length] at this
   rw [this]; rfl
theorem zK3 (l : List Int) (g : FuncId) (caps : List AV) (p : Int → Bool) (hc : noRef.noRefs caps = true) (hlen : l.length ≤ 9223372036854775807) (hp : ∀ x ∈ l, zW Tryz.prog g ([.int .i64 x] ++ caps) (.bool (p x))) :
   zW Tryz.prog 181 [.ro (.ints .i64 l) 0 l.length, .fn g caps] (.bool (l.any p)) := by
 refine zO.value0 (zF (P := Tryz.prog) (fn := Tryz.f181) rfl rfl (by kernel_rfl) rfl (fun c hR hfix => ?_)) (fix := fun _ => False) (fun _ h => h) (by simp [noRef.noRefs, noRef, hc]) rfl
 refine rn0 ?_
 refine zE rfl rfl rfl (zOO l g caps p hc hlen hp) ?_
 repeat (first | refine zC (zK rfl) ?_ | refine zB ?_ | refine zA ?_ | refine zAQ ?_ | refine zC (zCX rfl rfl) ?_)
 refine zH hR rfl ?_
 simp only [zBF, zEr]
theorem zOr (l : List Int) (g : FuncId) (caps : List AV) (p : Int → Bool) (hc : noRef.noRefs caps = true) (hlen : l.length ≤ 9223372036854775807) (hp : ∀ x ∈ l, zW Tryz.prog g ([.int .i64 x] ++ caps) (.bool (p x))) :
   zW Tryz.prog 147 [.ro (.ints .i64 l) 0 l.length, .fn g caps] (.int .i64 (zCr p l)) := by
 refine zO.value0 (zF (P := Tryz.prog) (fn := Tryz.f147) rfl rfl (by kernel_rfl) rfl (fun c hR hfix => ?_)) (fix := fun _ => False) (fun _ h => h) (by simp [noRef.noRefs, noRef, hc]) rfl
 refine rn3 ?_
 refine zg (ι := Nat) (fun k => [(0, .ro (.ints .i64 l) 0 l.length), (1, .fn g caps), (7, .int .i64 (l.length : Nat)), (8, .int .i64 (k : Nat))]) (fun _ => [])
   (fun k => k ≤ l.length ∧ (l.take k).any p = false) (fun k => l.length - k) 0 ⟨⟨rfl, rfl, rfl, rfl, trivial⟩, rfl, Nat.zero_le _, rfl⟩ ?_
 intro k ⟨hk, hany⟩
 refine rn4 ?_
 refine zD rfl (fun h => ?_) (fun h => ?_)
 · have hk' : k < l.length := by omega
   have hanys := zBt p l 0 k hk'
   refine rn6 ?_
   refine zE rfl rfl rfl (hp _ (zBH 0 hk')) ?_
   refine rn0 ?_
   refine zDM rfl (fun h2 => ?_) (fun h2 => ?_)
   · refine rn6 ?_
     refine zH hR rfl ?_
     have := zBP p l k hany hk
     rw [zBi l 0 k hk'] at this
     simp only [zCr, h2, if_true] at this
     rw [this]; simp [zBF]
   · refine rn5 ?_
     refine zM ⟨k + 1, ⟨by omega, by rw [hanys, hany, h2]; rfl⟩, by omega, ⟨rfl, rfl, rfl, rfl, trivial⟩, rfl⟩
 · have hk' : k = l.length := by omega
   subst hk'
   refine rn5 ?_
   refine zH hR rfl ?_
   have := zBP p l l.length hany hk
   rw [List.drop_length] at this
   rw [this]; rfl
theorem zQp (l : List Int) (g : FuncId) (caps : List AV) (p : Int → Bool) (hc : noRef.noRefs caps = true) (hlen : l.length ≤ 9223372036854775807) (hp : ∀ x ∈ l, zW Tryz.prog g ([.int .i64 x] ++ caps) (.bool (p x))) :
   zW Tryz.prog 86 [.ro (.ints .i64 l) 0 l.length, .fn g caps] (.bool (l.any p)) := by
 refine zO.value0 (zF (P := Tryz.prog) (fn := Tryz.f86) rfl rfl (by kernel_rfl) rfl (fun c hR hfix => ?_)) (fix := fun _ => False) (fun _ h => h) (by simp [noRef.noRefs, noRef, hc]) rfl
 refine rn0 ?_
 refine zE rfl rfl rfl (zOr l g caps p hc hlen hp) ?_
 repeat (first | refine zC (zK rfl) ?_ | refine zB ?_ | refine zA ?_ | refine zAQ ?_ | refine zC (zCX rfl rfl) ?_)
 refine zH hR rfl ?_
 simp only [zBF, zEr]
def notOk (e : Int) : Bool := decide (e ≠ 0)
theorem fine1 (n : Int) : zW Tryz.prog 87 [.int .i64 n] (.bool (notOk n)) := by
 refine zO.value0 (zF (P := Tryz.prog) (fn := Tryz.f87) rfl rfl (by kernel_rfl) rfl (fun c hR hfix => ?_)) (fix := fun _ => False) (fun _ h => h) rfl rfl
 refine rn3 ?_
 refine zH hR rfl ?_
 simp [zBF, notOk]
theorem fineI (l : List Int) (hlen : l.length ≤ 1000) : zW Tryz.prog 24 [.ro (.ints .i64 l) 0 l.length] (.bool (!(l.any notOk))) := by
 refine zO.value0 (zF (P := Tryz.prog) (fn := Tryz.f24) rfl rfl (by kernel_rfl) rfl (fun c hR hfix => ?_)) (fix := fun _ => False) (fun _ h => h) rfl rfl
 refine rn0 ?_
 refine zE rfl rfl rfl (zQp l 87 [] notOk rfl (by omega) (fun x _ => fine1 x)) ?_
 refine rn5 ?_
 exact zH hR rfl rfl
theorem clone (l : List Int) (hl : l.length ≤ 1000000) : zIx Tryz.prog 160 [.ro (.ints .i64 l) 0 l.length] (fun N => .sl N 0 l.length) ⟨3, .ints .i64 l⟩ := by
 refine zO.fresh (K := fun r H => r = .sl 0 0 l.length ∧ H = [some ⟨3, .ints .i64 l⟩]) (zF (P := Tryz.prog) (fn := Tryz.f160) rfl rfl (by kernel_rfl) rfl (fun c hR hfix => ?_)) (fix := fun _ => False) (fun _ h => h) rfl (fun H => ⟨rfl, by simp [zHH, inB]⟩) ?_
 · refine rn0 ?_
   refine zJX rfl rfl rfl (fun b hb => ?_)
   refine rn0 ?_
   refine zDM rfl (fun h => ?_) (fun h => ?_)
   · have := hb h
     have hn : l = [] := List.length_eq_zero_iff.mp this
     subst hn
     repeat (first | refine zC (zK rfl) ?_ | refine zB ?_ | refine zA ?_ | refine zZ ?_ | refine zL rfl ?_)
     refine zA1 2 ⟨3, .ints .i64 []⟩ rfl rfl ?_
     refine rn2 ?_
     exact zH hR rfl ⟨rfl, rfl⟩
   · refine rn1 ?_
     refine zDn rfl rfl rfl rfl rfl rfl rfl rfl rfl rfl ?_
     refine zAz [some ⟨3, .ints .i64 []⟩] (zAG.eqv ⟨rfl, rfl, fun i j hi => absurd hi (Nat.not_lt_zero _)⟩ zAG.nil) ?_
     repeat (refine zC (zI rfl) ?_)
     refine zm rfl rfl rfl rfl rfl rfl rfl rfl rfl rfl rfl rfl (by show 0 + l.length ≤ l.length; omega) rfl (by show (0 + l.length) * 8 ≤ _ ∧ _; omega) (fun i j _ _ => rfl) (by rw [hfix]; exact fun h => h) ?_
     refine rn0 ?_
     refine zH hR rfl ⟨?_, ?_⟩
     · show AV.sl 0 0 (0 + l.length) = _; rw [Nat.zero_add]
     · show ([some ⟨3, .ints .i64 ([] ++ List.take l.length (List.drop 0 l))⟩] : zV) = _
       simp
 · rintro r H ⟨rfl, rfl⟩
   refine ⟨?_, fun h o ho => zGE zAW h o ho, 0, rfl, fun n => rfl⟩
   intro o ho; simp at ho; subst ho; show 0 + l.length ≤ l.length; omega
end Go.Proofs.YtnkealfaldjipaaGreatDoor
namespace Go.Ax.Bg
open Go.Ax.Tb (zBX)
def zEU (s : List UInt8) : Bool := decide (s ≠ []) && s.all dg && (decide (s.getD 0 0 ≠ 48) || decide (s.length = 1))
theorem zC2 {s : List UInt8} : zEU s = true ↔ zGM s := by
 unfold zEU zGM
 simp only [Bool.and_eq_true, Bool.or_eq_true, decide_eq_true_eq, List.all_eq_true, dg_iff]
 constructor
 · rintro ⟨⟨h1, h2⟩, h3⟩; exact ⟨h1, h2, h3⟩
 · rintro ⟨h1, h2, h3⟩; exact ⟨⟨h1, h2⟩, h3⟩
def natE (s : List UInt8) : Int := if zEU s = false then 5 else if 2000 < s.length then 2 else 0
theorem zMS {s : List UInt8} (h : natE s = 0) : zGM s ∧ s.length ≤ 2000 := by
 unfold natE at h
 split at h
 · omega
 · split at h
   · omega
   · rename_i h1 h2
     exact ⟨zC2.1 (by simpa using h1), by omega⟩
def zG1 (a b : List UInt8) : Int := if natE a ≠ 0 then natE a else natE b
theorem zJH {s : List UInt8} (h : zGM s) {k : Nat} (hl : s.length ≤ k) : (zY (zAf 0 s)).length ≤ k := by
 refine zAp (Nat.lt_of_lt_of_le (zHu h.2.1) ?_)
 exact Nat.le_trans (Nat.pow_le_pow_right (by decide) hl) (Nat.pow_le_pow_left (by decide) k)
/-- A result, if it is not too long. -/
def resF (n : Nat) : List UInt8 × Int := if 2000 < (Lib.decDigits n).length then ([], 2) else (Lib.decDigits n, 0)
/-- Texts that are not too long spell zAi below this one. -/
def powT : Nat → Nat
 | 0 => 1
 | k + 1 => 10 * powT k
theorem zQA : ∀ k, powT k = 10 ^ k
 | 0 => rfl
 | k + 1 => by rw [powT, zQA k, Nat.pow_succ, Nat.mul_comm]
def TB : Nat := powT 2000
theorem TB_eq : TB = 10 ^ 2000 := zQA 2000
theorem zOf {n : Nat} (h : n < TB) : (Lib.decDigits n).length ≤ 2000 := by
 rw [TB_eq] at h
 revert h
 generalize hk : 2000 = k
 intro h
 exact zDq (by omega) h
theorem zMB {n : Nat} (h : n < TB) : resF n = (Lib.decDigits n, 0) := by
 unfold resF
 rw [if_neg (by have := zOf h; omega)]
def addF (a b : List UInt8) : List UInt8 × Int := if zG1 a b ≠ 0 then ([], zG1 a b) else resF (zAf 0 a + zAf 0 b)
def mulF (a b : List UInt8) : List UInt8 × Int := if zG1 a b ≠ 0 then ([], zG1 a b) else resF (zAf 0 a * zAf 0 b)
def subF (a b : List UInt8) : List UInt8 × Int := if zG1 a b ≠ 0 then ([], zG1 a b) else if zAf 0 a < zAf 0 b then ([], 4) else resF (zAf 0 a - zAf 0 b)
def divF (a b : List UInt8) : List UInt8 × List UInt8 × Int := if zG1 a b ≠ 0 then ([], [], zG1 a b) else if zAf 0 b = 0 then ([], [], 18) else (Lib.decDigits (zAf 0 a / zAf 0 b), Lib.decDigits (zAf 0 a % zAf 0 b), 0)
def gcdF (a b : List UInt8) : List UInt8 × Int := if zG1 a b ≠ 0 then ([], zG1 a b) else (Lib.decDigits (Nat.gcd (zAf 0 a) (zAf 0 b)), 0)
def ncmpF (a b : List UInt8) : Int × Int := if zG1 a b ≠ 0 then (0, zG1 a b) else (zDg (zAf 0 a) (zAf 0 b), 0)
/-- Products of zAi from one to another. -/
def prodF (low : Nat) : Nat → Nat
 | 0 => 1
 | k + 1 => prodF low k * (low + k)
def factN (n : Nat) : Nat := prodF 1 n
def factF (n : Int) : List UInt8 × Int := if n < 0 ∨ 1000 < n then ([], 4) else resF (factN n.toNat)
def binoF (n k : Int) : List UInt8 × Int := if n < 0 ∨ 1000 < n ∨ k < 0 ∨ n < k then ([], 4) else (Lib.decDigits (prodF (n.toNat - k.toNat + 1) k.toNat / factN k.toNat), 0)
/-- A text that spells n. -/
def IsN (s : List UInt8) (n : Nat) : Prop := natE s = 0 ∧ zAf 0 s = n
theorem IsN.self {s : List UInt8} (h : natE s = 0) : IsN s (zAf 0 s) := ⟨h, rfl⟩
theorem IsN.dig {s : List UInt8} {n : Nat} (h : IsN s n) : s = Lib.decDigits n := by
 rw [← h.2, zEV (zMS h.1).1]
theorem IsN.two {a b : List UInt8} {m n : Nat} (ha : IsN a m) (hb : IsN b n) : zG1 a b = 0 := by
 unfold zG1; rw [if_neg (by simp [ha.1])]; exact hb.1
theorem IsN.lt {a : List UInt8} {m k : Nat} (ha : IsN a m) (h : a.length ≤ k) : m < 10 ^ k := by
 rw [← ha.2]
 exact Nat.lt_of_lt_of_le (zHu (zMS ha.1).1.2.1) (Nat.pow_le_pow_right (by decide) h)
theorem IsN.lt2 {a : List UInt8} {m : Nat} (ha : IsN a m) : m < TB := by
 have h := (zMS ha.1).2
 rw [TB_eq]
 revert h
 generalize 2000 = j
 intro h
 exact ha.lt h
theorem IsN.add {a b : List UInt8} {m n : Nat} (ha : IsN a m) (hb : IsN b n) (h : m + n < TB) : addF a b = (Lib.decDigits (m + n), 0) := by
 unfold addF; rw [if_neg (by simp [ha.two hb]), ha.2, hb.2, zMB h]
theorem IsN.mul {a b : List UInt8} {m n : Nat} (ha : IsN a m) (hb : IsN b n) (h : m * n < TB) : mulF a b = (Lib.decDigits (m * n), 0) := by
 unfold mulF; rw [if_neg (by simp [ha.two hb]), ha.2, hb.2, zMB h]
theorem IsN.sub {a b : List UInt8} {m n : Nat} (ha : IsN a m) (hb : IsN b n) : subF a b = if m < n then ([], 4) else (Lib.decDigits (m - n), 0) := by
 unfold subF; rw [if_neg (by simp [ha.two hb]), ha.2, hb.2, zMB (by have := ha.lt2; omega)]
theorem IsN.div {a b : List UInt8} {m n : Nat} (ha : IsN a m) (hb : IsN b n) (h : n ≠ 0) : divF a b = (Lib.decDigits (m / n), Lib.decDigits (m % n), 0) := by
 unfold divF; rw [if_neg (by simp [ha.two hb]), hb.2, if_neg h, ha.2]
theorem IsN.gcd {a b : List UInt8} {m n : Nat} (ha : IsN a m) (hb : IsN b n) : gcdF a b = (Lib.decDigits (Nat.gcd m n), 0) := by
 unfold gcdF; rw [if_neg (by simp [ha.two hb]), ha.2, hb.2]
theorem IsN.inj {a b : List UInt8} {n : Nat} (ha : IsN a n) (hb : IsN b n) : a = b := by rw [ha.dig, hb.dig]
theorem lt_big {n k : Nat} (h : n < 10 ^ k) (hk : k ≤ 2000) : n < TB := by
 rw [TB_eq]
 revert hk
 generalize 2000 = j
 intro hk
 exact Nat.lt_of_lt_of_le h (Nat.pow_le_pow_right (by decide) hk)
theorem zFl {m n j k : Nat} (hm : m < 10 ^ j) (hn : n < 10 ^ k) : m * n < 10 ^ (j + k) := by
 rw [Nat.pow_add]; exact Nat.mul_lt_mul'' hm hn
theorem add_big {m n k : Nat} (hm : m < 10 ^ k) (hn : n < 10 ^ k) : m + n < 10 ^ (k + 1) := by
 rw [Nat.pow_succ]; omega
/-- Choices. -/
def ch : Nat → Nat → Nat
 | _, 0 => 1
 | 0, _ + 1 => 0
 | n + 1, k + 1 => ch n k + ch n (k + 1)
end Go.Ax.Bg
namespace Go.Proofs.YtnkealfaldjipaaGreatDoor
open Go.Ax Go.Ax.Bg Go.RowKit
open Go.Ax.Tb (zBX zDI zBZ zBv)
attribute [local irreducible] Ax zAM QOp zO
set_option maxRecDepth 100000
set_option maxHeartbeats 4000000
theorem zK1 (s : List UInt8) (hs : s.length ≤ 9223372036854775807) : zW Tryz.prog 94 [.str s] (.bool (zEU s)) := by
 have ht := trim_ok s hs
 have hn := trR_nil (s := s)
 have hc : zEU s = (decide (s ≠ []) && s.all dg && (decide (s.getD 0 0 ≠ 48) || decide (s.length = 1))) := rfl
 refine zO.value0 (zF (P := Tryz.prog) (fn := Tryz.f94) rfl rfl (by kernel_rfl) rfl (fun c hR hfix => ?_)) (fix := fun _ => False) (fun _ h => h) rfl rfl
 generalize trL (trR s) = u at *
 generalize zEU s = b at *
 by_cases h0 : s = []
 · subst h0
   repeat (first | refine zC (zI rfl) ?_ | refine zC (zK rfl) ?_ | refine zB ?_ | refine zA ?_ | refine zZ ?_ | refine zL rfl ?_ | refine zCp rfl rfl ?_ | refine zAm rfl rfl rfl ?_ | refine zAQ ?_ | refine zC (zAe rfl rfl) ?_ | refine zC (zGG rfl rfl) ?_)
   refine zH hR rfl ?_
   rw [hc]; rfl
 have hlen : 0 < s.length := List.length_pos_iff.2 h0
 repeat (first | refine zC (zI rfl) ?_ | refine zC (zK rfl) ?_ | refine zB ?_ | refine zA ?_ | refine zZ ?_ | refine zL rfl ?_ | refine zC (zGG rfl rfl) ?_)
 refine z8 rfl rfl (fun h1 => ?_) (fun h1 => absurd h0 h1)
 refine rn2 ?_
 refine zE rfl rfl rfl ht ?_
 refine rn6 ?_
 refine z8 rfl rfl (fun h2 => ?_) (fun h2 => ?_)
 · have ha : s.all dg = true := hn.1 h2
   rw [decide_eq_true h0, ha, Bool.true_and, Bool.true_and] at hc
   repeat (first | refine zC (zI rfl) ?_ | refine zAL rfl rfl ?_ | refine zC (zDw rfl rfl) ?_ | refine zC (zFU rfl rfl rfl (by first | assumption | omega | simp)) ?_)
   refine z8 rfl rfl (fun h3 => ?_) (fun h3 => ?_)
   · have h4 : decide (s.getD 0 0 ≠ 48) = true := decide_eq_true (fun e => h3 (by simp only [Int.toNat_zero]; rw [e]; rfl))
     rw [h4, Bool.true_or] at hc
     refine rn6 ?_
     refine zH hR rfl ?_
     rw [hc]; rfl
   · have h5 : s.getD 0 0 = 48 := by
       simp only [Int.toNat_zero] at h3
       apply UInt8.toNat_inj.1
       have : ((s.getD 0 0).toNat : Int) = 48 := by omega
       show (s.getD 0 0).toNat = 48
       omega
     have h4 : decide (s.getD 0 0 ≠ 48) = false := decide_eq_false (fun e => e h5)
     rw [h4, Bool.false_or] at hc
     refine rn6 ?_
     refine zH hR rfl ?_
     rw [hc]
     show AV.bool (decide ((s.length : Int) = 1)) = _
     congr 1
     rw [decide_eq_decide]; omega
 · have ha : s.all dg = false := by
     cases hq : s.all dg with
     | false => rfl
     | true => exact absurd (hn.2 hq) h2
   rw [ha, Bool.and_false, Bool.false_and] at hc
   repeat (first | refine zC (zK rfl) ?_ | refine zB ?_ | refine zA ?_ | refine zCp rfl rfl ?_ | refine zAm rfl rfl rfl ?_ | refine zAQ ?_ | refine zC (zAe rfl rfl) ?_)
   refine zH hR rfl ?_
   rw [hc]; rfl
def twoA (a b : List UInt8) : AV := .tup (if zG1 a b ≠ 0 then [.nil, .nil, .int .i64 (zG1 a b)] else [zAJ (zAf 0 a), zAJ (zAf 0 b), .int .i64 0])
def pairA (p : List UInt8 × Int) : AV := .tup [.str p.1, .int .i64 p.2]
end Go.Proofs.YtnkealfaldjipaaGreatDoor
namespace Go.Proofs.YtnkealfaldjipaaGreatDoor
open Go.Ax Go.Ax.Bg Go.RowKit
open Go.Ax.Tb (zBX zDI zBZ zBv)
attribute [local irreducible] Ax zAM QOp zO
set_option maxRecDepth 100000
set_option maxHeartbeats 4000000
theorem zJQ {a b k : Nat} (ha : (zY a).length ≤ k) (hb : (zY b).length ≤ k) : (zY (a * b)).length ≤ k + k := by
 have h1 := zAw (zAZ a)
 have h2 := zAw (zAZ b)
 rw [zAA] at h1 h2
 refine zAp ?_
 rw [Nat.pow_add]
 refine Nat.mul_lt_mul'' (Nat.lt_of_lt_of_le h1 (Nat.pow_le_pow_right (by decide) ha)) (Nat.lt_of_lt_of_le h2 (Nat.pow_le_pow_right (by decide) hb))
theorem len_add {a b k : Nat} (ha : (zY a).length ≤ k) (hb : (zY b).length ≤ k) : (zY (a + b)).length ≤ k + 1 := by
 have h1 := zAw (zAZ a)
 have h2 := zAw (zAZ b)
 rw [zAA] at h1 h2
 refine zAp ?_
 have h3 : B ^ (zY a).length ≤ B ^ k := Nat.pow_le_pow_right (by decide) ha
 have h4 : B ^ (zY b).length ≤ B ^ k := Nat.pow_le_pow_right (by decide) hb
 rw [Nat.pow_succ]
 have : B ^ k * 2 ≤ B ^ k * B := Nat.mul_le_mul_left _ (by decide)
 omega
def tripA (p : List UInt8 × List UInt8 × Int) : AV := .tup [.str p.1, .str p.2.1, .int .i64 p.2.2]
end Go.Proofs.YtnkealfaldjipaaGreatDoor
namespace Go.Ax.Rt
open Go.Ax.Bg
/-- The quotient of integers, its parts. -/
theorem zHt (n : Int) (d : Nat) (hd : d ≠ 0) : (Rat.divInt n d).num.natAbs = n.natAbs / Nat.gcd n.natAbs d ∧ (Rat.divInt n d).den = d / Nat.gcd n.natAbs d ∧ ((Rat.divInt n d).num < 0 ↔ n < 0) := by
 have e : Rat.divInt n d = Rat.normalize n d hd := by rw [Rat.divInt_ofNat, ← Rat.normalize_eq_mkRat]
 have hg : 0 < Nat.gcd n.natAbs d := Nat.gcd_pos_of_pos_right _ (by omega)
 have hdv : (Nat.gcd n.natAbs d : Int) ∣ n := by
   rw [Int.ofNat_dvd_left]; exact Nat.gcd_dvd_left _ _
 rw [e, Rat.num_normalize, Rat.den_normalize]
 obtain ⟨q, hq⟩ := hdv
 generalize Nat.gcd n.natAbs d = g at *
 refine ⟨?_, rfl, ?_⟩
 · rw [hq, Int.mul_ediv_cancel_left _ (by omega), Int.natAbs_mul, Int.natAbs_natCast, Nat.mul_div_cancel_left _ hg]
 · rw [hq, Int.mul_ediv_cancel_left _ (by omega)]
   constructor
   · intro h; exact Int.mul_neg_of_pos_of_neg (by omega) h
   · intro h
     rcases Int.lt_or_le q 0 with z | z
     · exact z
     · exact absurd h (Int.not_lt.2 (Int.mul_nonneg (by omega) z))
theorem zHV (n d : Int) (hd : d ≠ 0) : (Rat.divInt n d).num.natAbs = n.natAbs / Nat.gcd n.natAbs d.natAbs ∧ (Rat.divInt n d).den = d.natAbs / Nat.gcd n.natAbs d.natAbs ∧ ((Rat.divInt n d).num < 0 ↔ n ≠ 0 ∧ ((n < 0 ∧ ¬ d < 0) ∨ (¬ n < 0 ∧ d < 0))) := by
 rcases Int.lt_or_le d 0 with h | h
 · obtain ⟨m, rfl⟩ : ∃ m : Nat, d = -(m : Int) := ⟨d.natAbs, by omega⟩
   have e : Rat.divInt n (-(m : Int)) = Rat.divInt (-n) m := Rat.divInt_neg' n m
   obtain ⟨h1, h2, h3⟩ := zHt (-n) m (by omega)
   rw [e]
   rw [Int.natAbs_neg] at h1 h2
   rw [Int.natAbs_neg, Int.natAbs_natCast]
   exact ⟨h1, h2, h3.trans (by omega)⟩
 · obtain ⟨m, rfl⟩ : ∃ m : Nat, d = (m : Int) := ⟨d.natAbs, by omega⟩
   obtain ⟨h1, h2, h3⟩ := zHt n m (by omega)
   rw [Int.natAbs_natCast]
   exact ⟨h1, h2, h3.trans (by omega)⟩
theorem zJU (p q : Rat) : Rat.divInt (p.num * q.den + q.num * p.den) ((p.den * q.den : Nat) : Int) = p + q := by
 rw [Rat.add_def', Rat.divInt_ofNat]
theorem zNl (p q : Rat) : Rat.divInt (p.num * q.num) ((p.den * q.den : Nat) : Int) = p * q := by
 rw [Rat.mul_def', Rat.divInt_ofNat]
theorem zMp (p q : Rat) (hq : q ≠ 0) : Rat.divInt (p.num * q.den) (q.num * p.den) = p / q := by
 have hn : q.num ≠ 0 := fun h => hq (Rat.num_eq_zero.1 h)
 have hp : (p.den : Int) ≠ 0 := by have := p.den_nz; omega
 have hqd : (q.den : Int) ≠ 0 := by have := q.den_nz; omega
 have h1 : Rat.divInt (p.num * q.den) (q.num * p.den) * q = p := by
   conv => lhs; rhs; rw [← Rat.num_divInt_den q]
   rw [Rat.divInt_mul_divInt]
   conv => rhs; rw [← Rat.num_divInt_den p]
   rw [Rat.divInt_eq_divInt_iff (Int.mul_ne_zero (Int.mul_ne_zero hn hp) hqd) hp]
   ac_rfl
 rw [← h1, Rat.mul_div_cancel hq]
 rw [h1]
def sgn (x : Int) : Int := if x < 0 then -1 else if x = 0 then 0 else 1
def cmpQ (p q : Rat) : Int := if p < q then -1 else if p = q then 0 else 1
theorem sgn_cmp (p q : Rat) : sgn (p.num * q.den - q.num * p.den) = cmpQ p q := by
 unfold sgn cmpQ
 have h1 : p < q ↔ p.num * q.den - q.num * p.den < 0 := by rw [Rat.lt_iff]; omega
 have h2 : p = q ↔ p.num * q.den - q.num * p.den = 0 := by rw [Rat.eq_iff_mul_eq_mul]; omega
 simp only [h1, h2]
def zEe (b : Bool) (n : Nat) : Int := if b then -(n : Int) else n
theorem zEY (b : Bool) (n : Nat) : (zEe b n).natAbs = n := by unfold zEe; split <;> omega
theorem zKH (b : Bool) (n : Nat) : decide (zEe b n < 0) = (b && decide (n ≠ 0)) := by
 unfold zEe
 cases b
 · simp <;> try omega
 · simp only [if_true, Bool.true_and]
   rw [decide_eq_decide]; omega
theorem zRb (x : Int) : zEe (decide (x < 0)) x.natAbs = x := by
 unfold zEe
 by_cases h : x < 0
 · simp [h]; omega
 · simp [h]; omega
end Go.Ax.Rt
namespace Go.Proofs.YtnkealfaldjipaaGreatDoor
open Go.Ax Go.Ax.Bg Go.Ax.Rt Go.RowKit
attribute [local irreducible] Ax zAM QOp zO zo
set_option maxRecDepth 100000
set_option maxHeartbeats 4000000
def zCR (x : Int) : AV := .agg [.bool (decide (x < 0)), zAJ x.natAbs]
theorem zFf (b : Bool) (n : Nat) : zW Tryz.prog 148 [.bool b, zAJ n] (zCR (zEe b n)) := by
 have hp : 0 < (zY n).length ↔ n ≠ 0 := zB9
 have hr : zCR (zEe b n) = .agg [.bool (b && decide (n ≠ 0)), zAJ n] := by unfold zCR; rw [zEY, zKH]
 rw [hr]
 refine zO.value0 (zF (P := Tryz.prog) (fn := Tryz.f148) rfl rfl (by kernel_rfl) rfl (fun c hR hfix => ?_)) (fix := fun _ => False) (fun _ h => h) rfl rfl
 unfold zAJ at hR ⊢
 cases b
 · repeat (first | refine zC (zI rfl) ?_ | refine zB ?_ | refine zA ?_ | refine zZ ?_ | refine zL rfl ?_ | refine zAm rfl rfl rfl ?_ | refine zC (zAe rfl rfl) ?_ | refine zC (zAU rfl rfl rfl rfl rfl rfl) ?_ | refine zBI rfl rfl rfl ?_)
   refine zQ (c' := .box [.bool false, .ro (.ints .u32 (zY n)) 0 (zY n).length]) rfl rfl rfl rfl rfl Nat.zero_lt_one rfl rfl (fun i' j' hi' hj' => ?_) ?_
   · rw [if_pos (Nat.lt_one_iff.1 hi')]; rfl
   refine rn0 ?_
   exact zH hR rfl rfl
 · repeat (first | refine zC (zI rfl) ?_ | refine zB ?_ | refine zA ?_ | refine zZ ?_ | refine zL rfl ?_ | refine zAL rfl rfl ?_ | refine zC (zJj rfl rfl) ?_ | refine zC (zAe rfl rfl) ?_ | refine zC (zBE rfl rfl rfl) ?_ | refine zC (zAU rfl rfl rfl rfl rfl rfl) ?_ | refine zBI rfl rfl rfl ?_)
   have e : decide (0 < ((zY n).length : Int)) = decide (n ≠ 0) := by rw [decide_eq_decide, ← hp]; omega
   refine zQ (c' := .box [.bool (decide (n ≠ 0)), .ro (.ints .u32 (zY n)) 0 (zY n).length]) rfl rfl rfl rfl rfl Nat.zero_lt_one rfl rfl (fun i' j' hi' hj' => ?_) ?_
   · rw [if_pos (Nat.lt_one_iff.1 hi'), ← e]; rfl
   refine rn0 ?_
   exact zH hR rfl rfl
theorem mul_sgn (x y : Int) : zEe (!(decide (x < 0) == decide (y < 0))) (x.natAbs * y.natAbs) = x * y := by
 have h : (x * y).natAbs = x.natAbs * y.natAbs := Int.natAbs_mul x y
 unfold zEe
 rcases Int.lt_trichotomy x 0 with hx | hx | hx <;> rcases Int.lt_trichotomy y 0 with hy | hy | hy
 · have := Int.mul_pos_of_neg_of_neg hx hy
   simp only [hx, hy]; simp; omega
 · subst hy; simp
 · have := Int.mul_neg_of_neg_of_pos hx hy
   simp only [hx, show ¬ y < 0 by omega]; simp; omega
 · subst hx; simp
 · subst hx; simp
 · subst hx; simp
 · have := Int.mul_neg_of_pos_of_neg hx hy
   simp only [hy, show ¬ x < 0 by omega]; simp; omega
 · subst hy; simp
 · have := Int.mul_pos hx hy
   simp only [show ¬ x < 0 by omega, show ¬ y < 0 by omega]; simp; omega
theorem zFs (x y : Int) (hx : (zY x.natAbs).length ≤ 1000000) (hy : (zY y.natAbs).length ≤ 1000000) : zW Tryz.prog 144 [zCR x, zCR y] (zCR (x * y)) := by
 have h1 := zOY x.natAbs y.natAbs (by omega) (by omega)
 have h2 := zFf (!(decide (x < 0) == decide (y < 0))) (x.natAbs * y.natAbs)
 rw [mul_sgn] at h2
 refine zO.value0 (zF (P := Tryz.prog) (fn := Tryz.f144) rfl rfl (by kernel_rfl) rfl (fun c hR hfix => ?_)) (fix := fun _ => False) (fun _ h => h) rfl rfl
 refine rn6 ?_
 refine zn (by kernel_rfl) ?_
 refine zr (fuel := 1) [0, 1, 2, 3, 4, 5, 6, 7, 8, 9, 10] [(2, .ptr 0 0 0), (3, .ptr 1 0 0), (4, .ptr 2 0 0)] ⟨rfl, rfl, rfl, trivial⟩ (by kernel_rfl) (by decide) rfl rfl ?_
 refine zX rfl rfl (zP rfl rfl rfl rfl rfl rfl) ?_
 refine zX rfl rfl (zU rfl rfl rfl rfl rfl) ?_
 refine zX rfl rfl (zP rfl rfl rfl rfl rfl rfl) ?_
 refine zX rfl rfl (zU rfl rfl rfl rfl rfl) ?_
 refine zX rfl rfl (zLj rfl rfl rfl) ?_
 refine zX rfl rfl (zP rfl rfl rfl rfl rfl rfl) ?_
 refine zX rfl rfl (zU rfl rfl rfl rfl rfl) ?_
 refine zX rfl rfl (zP rfl rfl rfl rfl rfl rfl) ?_
 refine zX rfl rfl (zU rfl rfl rfl rfl rfl) ?_
 refine zBc rfl rfl rfl rfl rfl h1 ?_
 refine zBc rfl rfl rfl rfl rfl h2 ?_
 refine zAc ?_
 refine zG (is := [11]) (by kernel_rfl) (by simp) rfl ⟨fun o ho => ?_, trivial⟩
 all_goals (cases ho)
 skip
 unfold zCR zAJ
 refine zQ (c' := .box [.bool (decide (x * y < 0)), .ro (.ints .u32 (zY (x * y).natAbs)) 0 (zY (x * y).natAbs).length]) rfl rfl rfl rfl rfl Nat.zero_lt_one rfl rfl (fun i' j' hi' hj' => ?_) ?_
 · rw [if_pos (Nat.lt_one_iff.1 hi')]; rfl
 refine rn1 ?_
 refine zh (by kernel_rfl) ?_
 refine rn0 ?_
 exact zH hR rfl rfl
end Go.Proofs.YtnkealfaldjipaaGreatDoor
namespace Go.Proofs.YtnkealfaldjipaaGreatDoor
open Go.Ax Go.Ax.Bg Go.Ax.Rt Go.RowKit
attribute [local irreducible] Ax zAM QOp zO zo
set_option maxRecDepth 100000
set_option maxHeartbeats 4000000
theorem opp_sgn (x : Int) : zEe (!decide (x < 0)) x.natAbs = -x := by
 unfold zEe
 by_cases h : x < 0
 · simp [h]; omega
 · simp [h]; omega
theorem iopp_ok (x : Int) : zW Tryz.prog 140 [zCR x] (zCR (-x)) := by
 have h2 := zFf (!decide (x < 0)) x.natAbs
 rw [opp_sgn] at h2
 refine zO.value0 (zF (P := Tryz.prog) (fn := Tryz.f140) rfl rfl (by kernel_rfl) rfl (fun c hR hfix => ?_)) (fix := fun _ => False) (fun _ h => h) rfl rfl
 refine rn6 ?_
 refine zE rfl rfl rfl h2 ?_
 skip
 unfold zCR
 refine zQ (c' := .box [.bool (decide (-x < 0)), zAJ (-x).natAbs]) rfl rfl rfl rfl rfl Nat.zero_lt_one rfl rfl (fun i' j' hi' hj' => ?_) ?_
 · rw [if_pos (Nat.lt_one_iff.1 hi')]; rfl
 refine rn0 ?_
 exact zH hR rfl rfl
theorem zM8 (x : Int) : zW Tryz.prog 159 [zCR x] (.int .i64 (sgn x)) := by
 have hp : 0 < (zY x.natAbs).length ↔ x.natAbs ≠ 0 := zB9
 unfold sgn
 refine zO.value0 (zF (P := Tryz.prog) (fn := Tryz.f159) rfl rfl (by kernel_rfl) rfl (fun c hR hfix => ?_)) (fix := fun _ => False) (fun _ h => h) rfl rfl
 unfold zCR zAJ
 rcases Int.lt_trichotomy x 0 with h | h | h
 · have e : decide (x < 0) = true := decide_eq_true h
   rw [e]
   rw [if_pos h] at hR
   refine rn6 ?_
   refine zD rfl (fun h0 => absurd h0 (by omega)) (fun h0 => ?_)
   refine rn6 ?_
   exact zH hR rfl rfl
 · subst h
   rw [if_neg (by omega), if_pos rfl] at hR
   have e0 : zY (0 : Int).natAbs = [] := zBa
   rw [e0]
   refine rn6 ?_
   exact zH hR rfl rfl
 · have e : decide (x < 0) = false := decide_eq_false (by omega)
   rw [e]
   rw [if_neg (by omega), if_neg (by omega)] at hR
   refine rn6 ?_
   refine zD rfl (fun h0 => absurd h0 (by omega)) (fun h0 => ?_)
   refine rn5 ?_
   exact zH hR rfl rfl
theorem add_sgn1 (x y : Int) (h : decide (x < 0) = decide (y < 0)) : zEe (decide (x < 0)) (x.natAbs + y.natAbs) = x + y := by
 unfold zEe
 rw [decide_eq_decide] at h
 by_cases h1 : x < 0
 · simp [h1]; omega
 · simp [h1]; omega
theorem add_sgn2 (x y : Int) (h : ¬ decide (x < 0) = decide (y < 0)) (h2 : y.natAbs ≤ x.natAbs) : zEe (decide (x < 0)) (x.natAbs - y.natAbs) = x + y := by
 unfold zEe
 rw [decide_eq_decide] at h
 by_cases h1 : x < 0
 · simp [h1]; omega
 · simp [h1]; omega
theorem add_sgn3 (x y : Int) (h : ¬ decide (x < 0) = decide (y < 0)) (h2 : ¬ y.natAbs ≤ x.natAbs) : zEe (decide (y < 0)) (y.natAbs - x.natAbs) = x + y := by
 unfold zEe
 rw [decide_eq_decide] at h
 by_cases h1 : y < 0
 · simp [h1]; omega
 · simp [h1]; omega
theorem zPw {x y : Int} : 0 ≤ zDg x y ↔ y ≤ x := by
 unfold zDg
 split
 · omega
 · split <;> omega
theorem zPl (x y : Int) (hx : (zY x.natAbs).length ≤ 1000000) (hy : (zY y.natAbs).length ≤ 1000000) : zW Tryz.prog 151 [zCR x, zCR y] (zCR (x + y)) := by
 by_cases h : decide (x < 0) = decide (y < 0)
 · have h1 := add_ok x.natAbs y.natAbs (by omega) (by omega)
   have h2 := zFf (decide (x < 0)) (x.natAbs + y.natAbs)
   rw [add_sgn1 x y h] at h2
   refine zO.value0 (zF (P := Tryz.prog) (fn := Tryz.f151) rfl rfl (by kernel_rfl) rfl (fun c hR hfix => ?_)) (fix := fun _ => False) (fun _ h => h) rfl rfl
   unfold zCR at hR ⊢
   repeat (first | refine zB ?_ | refine zA ?_ | refine zZ ?_ | refine zL rfl ?_ | refine zC (zU rfl rfl rfl rfl rfl) ?_ | refine zC (zP rfl rfl rfl rfl rfl rfl) ?_ | refine zC (zJx rfl rfl rfl) ?_ | refine zF9 rfl rfl ?_ | refine zBI rfl rfl rfl ?_)
   refine zAO 9 (.bool true) rfl (AEq.of_eq (by rw [h]; simp)) ?_
   refine rn5 ?_
   refine zn (by kernel_rfl) ?_
   refine zr (fuel := 1) [0, 1, 2, 3, 4, 5, 6, 7] [(2, .ptr 0 0 0), (3, .ptr 1 0 0), (4, .ptr 2 0 0)] ⟨rfl, rfl, rfl, trivial⟩ (by kernel_rfl) (by decide) rfl rfl ?_
   refine zX rfl rfl (zP rfl rfl rfl rfl rfl rfl) ?_
   refine zX rfl rfl (zU rfl rfl rfl rfl rfl) ?_
   refine zX rfl rfl (zP rfl rfl rfl rfl rfl rfl) ?_
   refine zX rfl rfl (zU rfl rfl rfl rfl rfl) ?_
   refine zX rfl rfl (zP rfl rfl rfl rfl rfl rfl) ?_
   refine zX rfl rfl (zU rfl rfl rfl rfl rfl) ?_
   refine zBc rfl rfl rfl rfl rfl h1 ?_
   refine zBc rfl rfl rfl rfl rfl h2 ?_
   refine zAc ?_
   refine zG (is := [8]) (by kernel_rfl) (by simp) rfl ⟨fun o ho => ?_, trivial⟩
   all_goals (cases ho)
   skip
   unfold zCR
   refine zQ (c' := .box [.bool (decide (x + y < 0)), zAJ (x + y).natAbs]) rfl rfl rfl rfl rfl Nat.zero_lt_one rfl rfl (fun i' j' hi' hj' => ?_) ?_
   · rw [if_pos (Nat.lt_one_iff.1 hi')]; rfl
   refine rn1 ?_
   refine zh (by kernel_rfl) ?_
   refine rn2 ?_
   exact zH hR rfl rfl
 · have h0 := zME x.natAbs y.natAbs (by omega) (by omega)
   by_cases hc : y.natAbs ≤ x.natAbs
   · have h1 := sub_ok x.natAbs y.natAbs hc (by omega)
     have h2 := zFf (decide (x < 0)) (x.natAbs - y.natAbs)
     rw [add_sgn2 x y h hc] at h2
     refine zO.value0 (zF (P := Tryz.prog) (fn := Tryz.f151) rfl rfl (by kernel_rfl) rfl (fun c hR hfix => ?_)) (fix := fun _ => False) (fun _ h => h) rfl rfl
     unfold zCR at hR ⊢
     repeat (first | refine zB ?_ | refine zA ?_ | refine zZ ?_ | refine zL rfl ?_ | refine zC (zU rfl rfl rfl rfl rfl) ?_ | refine zC (zP rfl rfl rfl rfl rfl rfl) ?_ | refine zC (zJx rfl rfl rfl) ?_ | refine zF9 rfl rfl ?_ | refine zBI rfl rfl rfl ?_)
     refine zAO 9 (.bool false) rfl (AEq.of_eq (by rw [beq_eq_false_iff_ne.2 h])) ?_
     refine rn5 ?_
     refine zE rfl rfl rfl h0 ?_
     repeat (first | refine zB ?_ | refine zA ?_ | refine zC (zCX rfl rfl) ?_)
     refine zD rfl (fun h5 => ?_) (fun h5 => absurd (zPw.2 (Int.ofNat_le.2 hc)) h5)
     repeat (refine zZ ?_)
     refine zn (by kernel_rfl) ?_
     refine zr (fuel := 1) [0, 1, 2, 3, 4, 5, 6, 7] [(2, .ptr 0 0 0), (3, .ptr 1 0 0), (4, .ptr 2 0 0)] ⟨rfl, rfl, rfl, trivial⟩ (by kernel_rfl) (by decide) rfl rfl ?_
     refine zX rfl rfl (zP rfl rfl rfl rfl rfl rfl) ?_
     refine zX rfl rfl (zU rfl rfl rfl rfl rfl) ?_
     refine zX rfl rfl (zP rfl rfl rfl rfl rfl rfl) ?_
     refine zX rfl rfl (zU rfl rfl rfl rfl rfl) ?_
     refine zX rfl rfl (zP rfl rfl rfl rfl rfl rfl) ?_
     refine zX rfl rfl (zU rfl rfl rfl rfl rfl) ?_
     refine zBc rfl rfl rfl rfl rfl h1 ?_
     refine zBc rfl rfl rfl rfl rfl h2 ?_
     refine zAc ?_
     refine zG (is := [8]) (by kernel_rfl) (by simp) rfl ⟨fun o ho => ?_, trivial⟩
     all_goals (cases ho)
     skip
     unfold zCR
     refine zQ (c' := .box [.bool (decide (x + y < 0)), zAJ (x + y).natAbs]) rfl rfl rfl rfl rfl Nat.zero_lt_one rfl rfl (fun i' j' hi' hj' => ?_) ?_
     · rw [if_pos (Nat.lt_one_iff.1 hi')]; rfl
     refine rn1 ?_
     refine zh (by kernel_rfl) ?_
     refine rn2 ?_
     exact zH hR rfl rfl
   · have h1 := sub_ok y.natAbs x.natAbs (by omega) (by omega)
     have h2 := zFf (decide (y < 0)) (y.natAbs - x.natAbs)
     rw [add_sgn3 x y h hc] at h2
     refine zO.value0 (zF (P := Tryz.prog) (fn := Tryz.f151) rfl rfl (by kernel_rfl) rfl (fun c hR hfix => ?_)) (fix := fun _ => False) (fun _ h => h) rfl rfl
     unfold zCR at hR ⊢
     repeat (first | refine zB ?_ | refine zA ?_ | refine zZ ?_ | refine zL rfl ?_ | refine zC (zU rfl rfl rfl rfl rfl) ?_ | refine zC (zP rfl rfl rfl rfl rfl rfl) ?_ | refine zC (zJx rfl rfl rfl) ?_ | refine zF9 rfl rfl ?_ | refine zBI rfl rfl rfl ?_)
     refine zAO 9 (.bool false) rfl (AEq.of_eq (by rw [beq_eq_false_iff_ne.2 h])) ?_
     refine rn5 ?_
     refine zE rfl rfl rfl h0 ?_
     repeat (first | refine zB ?_ | refine zA ?_ | refine zC (zCX rfl rfl) ?_)
     refine zD rfl (fun h5 => absurd (Int.ofNat_le.1 (zPw.1 h5)) hc) (fun h5 => ?_)
     refine rn1 ?_
     refine zn (by kernel_rfl) ?_
     refine zr (fuel := 1) [0, 1, 2, 3, 4, 5, 6, 7] [(2, .ptr 0 0 0), (3, .ptr 1 0 0), (4, .ptr 2 0 0)] ⟨rfl, rfl, rfl, trivial⟩ (by kernel_rfl) (by decide) rfl rfl ?_
     refine zX rfl rfl (zP rfl rfl rfl rfl rfl rfl) ?_
     refine zX rfl rfl (zU rfl rfl rfl rfl rfl) ?_
     refine zX rfl rfl (zP rfl rfl rfl rfl rfl rfl) ?_
     refine zX rfl rfl (zU rfl rfl rfl rfl rfl) ?_
     refine zX rfl rfl (zP rfl rfl rfl rfl rfl rfl) ?_
     refine zX rfl rfl (zU rfl rfl rfl rfl rfl) ?_
     refine zBc rfl rfl rfl rfl rfl h1 ?_
     refine zBc rfl rfl rfl rfl rfl h2 ?_
     refine zAc ?_
     refine zG (is := [8]) (by kernel_rfl) (by simp) rfl ⟨fun o ho => ?_, trivial⟩
     all_goals (cases ho)
     skip
     unfold zCR
     refine zQ (c' := .box [.bool (decide (x + y < 0)), zAJ (x + y).natAbs]) rfl rfl rfl rfl rfl Nat.zero_lt_one rfl rfl (fun i' j' hi' hj' => ?_) ?_
     · rw [if_pos (Nat.lt_one_iff.1 hi')]; rfl
     refine rn1 ?_
     refine zh (by kernel_rfl) ?_
     refine rn0 ?_
     exact zH hR rfl rfl
theorem len_neg {x : Int} {k : Nat} (h : (zY x.natAbs).length ≤ k) : (zY (-x).natAbs).length ≤ k := by rw [Int.natAbs_neg]; exact h
theorem isub_ok (x y : Int) (hx : (zY x.natAbs).length ≤ 1000000) (hy : (zY y.natAbs).length ≤ 1000000) : zW Tryz.prog 188 [zCR x, zCR y] (zCR (x - y)) := by
 have h1 := iopp_ok y
 have h2 := zPl x (-y) hx (len_neg hy)
 rw [show x + -y = x - y from rfl] at h2
 refine zO.value0 (zF (P := Tryz.prog) (fn := Tryz.f188) rfl rfl (by kernel_rfl) rfl (fun c hR hfix => ?_)) (fix := fun _ => False) (fun _ h => h) rfl rfl
 refine rn6 ?_
 refine zn (by kernel_rfl) ?_
 refine zr (fuel := 1) [0, 1, 2, 3] [(2, .ptr 0 0 0), (3, .ptr 1 0 0), (4, .ptr 2 0 0)] ⟨rfl, rfl, rfl, trivial⟩ (by kernel_rfl) (by decide) rfl rfl ?_
 refine zX rfl rfl (zAC rfl rfl rfl rfl rfl rfl rfl (by first | exact Nat.zero_lt_one | assumption | omega)) ?_
 refine zX rfl rfl (zAC rfl rfl rfl rfl rfl rfl rfl (by first | exact Nat.zero_lt_one | assumption | omega)) ?_
 refine zBc rfl rfl rfl rfl rfl h1 ?_
 refine zBc rfl rfl rfl rfl rfl h2 ?_
 refine zAc ?_
 refine zG (is := [4]) (by kernel_rfl) (by simp) rfl ⟨fun o ho => ?_, trivial⟩
 all_goals (cases ho)
 skip
 unfold zCR
 refine zQ (c' := .box [.bool (decide (x - y < 0)), zAJ (x - y).natAbs]) rfl rfl rfl rfl rfl Nat.zero_lt_one rfl rfl (fun i' j' hi' hj' => ?_) ?_
 · rw [if_pos (Nat.lt_one_iff.1 hi')]; rfl
 refine rn1 ?_
 refine zh (by kernel_rfl) ?_
 refine rn0 ?_
 exact zH hR rfl rfl
theorem icmp_ok (x y : Int) (hx : (zY x.natAbs).length ≤ 1000000) (hy : (zY y.natAbs).length ≤ 1000000) : zW Tryz.prog 145 [zCR x, zCR y] (.int .i64 (sgn (x - y))) := by
 have h1 := isub_ok x y hx hy
 have h2 := zM8 (x - y)
 refine zO.value0 (zF (P := Tryz.prog) (fn := Tryz.f145) rfl rfl (by kernel_rfl) rfl (fun c hR hfix => ?_)) (fix := fun _ => False) (fun _ h => h) rfl rfl
 refine rn6 ?_
 refine zE rfl rfl rfl h1 ?_
 skip
 refine zE rfl rfl rfl h2 ?_
 refine rn0 ?_
 exact zH hR rfl rfl
theorem whole_ok (n : Int) (h : -9223372036854775808 ≤ n ∧ n < 9223372036854775808) : zW Tryz.prog 146 [.int .i64 n] (zCR n) := by
 refine zO.value0 (zF (P := Tryz.prog) (fn := Tryz.f146) rfl rfl (by kernel_rfl) rfl (fun c hR hfix => ?_)) (fix := fun _ => False) (fun _ h => h) rfl rfl
 rcases Int.lt_or_le n 0 with hn | hn
 · have h1 := zKb n.natAbs (by omega)
   refine rn4 ?_
   refine zD rfl (fun _ => ?_) (fun h0 => absurd hn h0)
   refine rn3 ?_
   refine zC (q_neg rfl (by omega)) ?_
   refine zN 7 (.int .i64 ((n.natAbs - 1 : Nat) : Int)) rfl (AEq.of_eq (congrArg _ (by omega))) ?_
   refine zC (zAX (m := n.natAbs - 1) rfl rfl rfl zBD (by omega)) ?_
   refine zC (zFE (m := n.natAbs - 1) (n := 1) rfl rfl zBD (by omega)) ?_
   refine zN 9 (.int .u64 ((n.natAbs : Nat) : Int)) rfl (AEq.of_eq (congrArg _ (by omega))) ?_
   skip
   refine zE rfl rfl rfl h1 ?_
   repeat (refine zC (zAU rfl rfl rfl rfl rfl rfl) ?_)
   refine zQ (c' := .box [.bool true, zAJ n.natAbs]) rfl rfl rfl rfl rfl Nat.zero_lt_one rfl rfl (fun i' j' hi' hj' => ?_) ?_
   · rw [if_pos (Nat.lt_one_iff.1 hi')]; rfl
   refine rn2 ?_
   refine zH hR rfl ?_
   unfold zCR
   rw [show decide (n < 0) = true from decide_eq_true hn]
   rfl
 · have h1 := zKb n.natAbs (by omega)
   refine rn4 ?_
   refine zD rfl (fun h0 => absurd h0 (by omega)) (fun h0 => ?_)
   refine rn1 ?_
   refine zN 12 (.int .i64 ((n.natAbs : Nat) : Int)) rfl (AEq.of_eq (congrArg _ (by omega))) ?_
   refine zC (zAX (m := n.natAbs) rfl rfl rfl zBD (by omega)) ?_
   skip
   refine zE rfl rfl rfl h1 ?_
   repeat (refine zC (zAU rfl rfl rfl rfl rfl rfl) ?_)
   refine zQ (c' := .box [.bool false, zAJ n.natAbs]) rfl rfl rfl rfl rfl Nat.zero_lt_one rfl rfl (fun i' j' hi' hj' => ?_) ?_
   · rw [if_pos (Nat.lt_one_iff.1 hi')]; rfl
   refine rn0 ?_
   refine zH hR rfl ?_
   unfold zCR
   rw [show decide (n < 0) = false from decide_eq_false (by omega)]
   rfl
end Go.Proofs.YtnkealfaldjipaaGreatDoor
namespace Go.Proofs.YtnkealfaldjipaaGreatDoor
open Go.Ax Go.Ax.Bg Go.Ax.Rt Go.RowKit
attribute [local irreducible] Ax zAM QOp zO zo
set_option maxRecDepth 100000
set_option maxHeartbeats 4000000
def qA (q : Rat) : AV := .agg [.bool (decide (q.num < 0)), zAJ q.num.natAbs, zAJ q.den]
theorem zH5 (n : Nat) : zCR (n : Int) = .agg [.bool false, zAJ n] := by
 unfold zCR
 rw [show decide ((n : Int) < 0) = false from decide_eq_false (by omega), Int.natAbs_natCast]
theorem bne_iff {x y z : Int} (h : z < 0 ↔ x ≠ 0 ∧ ((x < 0 ∧ ¬ y < 0) ∨ (¬ x < 0 ∧ y < 0))) (hz : x = 0 → z = 0) : zEe (!(decide (x < 0) == decide (y < 0))) z.natAbs = z := by
 unfold zEe
 by_cases h1 : x < 0 <;> by_cases h2 : y < 0
 · simp [h1, h2]; have : ¬ z < 0 := fun q => by have := h.1 q; omega
   omega
 · simp [h1, h2]; have : z < 0 := h.2 (by omega)
   omega
 · simp [h1, h2]
   rcases Int.lt_or_le z 0 with q | q
   · omega
   · have : x = 0 := by
       rcases Int.lt_trichotomy x 0 with w | w | w
       · exact absurd w h1
       · exact w
       · exact absurd (h.2 ⟨by omega, .inr ⟨h1, h2⟩⟩) (by omega)
     have := hz this
     omega
 · simp [h1, h2]; have : ¬ z < 0 := fun q => by have := h.1 q; omega
   omega
theorem gcd_len {a b k : Nat} (ha : (zY a).length ≤ k) (hb : (zY b).length ≤ k) : (zY (Nat.gcd a b)).length ≤ k := by
 rcases Nat.eq_zero_or_pos a with h | h
 · subst h; rw [Nat.gcd_zero_left]; exact hb
 · exact zE3 (Nat.gcd_le_left b h) ha
theorem zMW (n d : Int) (hd : d ≠ 0) (hn : (zY n.natAbs).length ≤ 1000000) (hdl : (zY d.natAbs).length ≤ 1000000) : zW Tryz.prog 150 [zCR n, zCR d] (qA (Rat.divInt n d)) := by
 obtain ⟨e1, e2, e3⟩ := zHV n d hd
 have hg := gcd_ok n.natAbs d.natAbs hn hdl
 have hgl := gcd_len hn hdl
 have hgp : 0 < Nat.gcd n.natAbs d.natAbs := Nat.gcd_pos_of_pos_right _ (by omega)
 have h1 := zOz n.natAbs _ hgp hn hgl
 have h2 := zOz d.natAbs _ hgp hdl hgl
 have h3 := zFf (!(decide (n < 0) == decide (d < 0))) (Rat.divInt n d).num.natAbs
 rw [bne_iff e3 (fun h0 => by rw [h0, Rat.zero_divInt]; rfl)] at h3
 rw [← e1] at h1
 rw [← e2] at h2
 refine zO.value0 (zF (P := Tryz.prog) (fn := Tryz.f150) rfl rfl (by kernel_rfl) rfl (fun c hR hfix => ?_)) (fix := fun _ => False) (fun _ h => h) rfl rfl
 refine rn6 ?_
 refine zE rfl rfl rfl hg ?_
 refine rn5 ?_
 refine zE rfl rfl rfl h1 ?_
 refine rn5 ?_
 refine zE rfl rfl rfl h2 ?_
 repeat (first | refine zC (zI rfl) ?_ | refine zC (zK rfl) ?_ | refine zB ?_ | refine zA ?_ | refine zZ ?_ | refine zL rfl ?_ | refine zC (zU rfl rfl rfl rfl rfl) ?_ | refine zC (zBQ rfl rfl) ?_ | refine zC (zP rfl rfl rfl rfl rfl rfl) ?_ | refine zC (zLj rfl rfl rfl) ?_)
 refine zE rfl rfl rfl h3 ?_
 repeat (first | refine zC (zI rfl) ?_ | refine zC (zAU rfl rfl rfl rfl rfl rfl) ?_)
 refine zQ (c' := .box [.bool (decide ((Rat.divInt n d).num < 0)), zAJ (Rat.divInt n d).num.natAbs, zAJ (Rat.divInt n d).den]) rfl rfl rfl rfl rfl Nat.zero_lt_one rfl rfl (fun i' j' hi' hj' => ?_) ?_
 · rw [if_pos (Nat.lt_one_iff.1 hi')]; rfl
 refine rn0 ?_
 exact zH hR rfl rfl
def Sz (k : Nat) (q : Rat) : Prop := (zY q.num.natAbs).length ≤ k ∧ (zY q.den).length ≤ k
theorem zDQ {x y : Int} {k : Nat} (hx : (zY x.natAbs).length ≤ k) (hy : (zY y.natAbs).length ≤ k) : (zY (x * y).natAbs).length ≤ k + k := by
 rw [Int.natAbs_mul]; exact zJQ hx hy
theorem zNd {x y : Int} {k : Nat} (hx : (zY x.natAbs).length ≤ k) (hy : (zY y.natAbs).length ≤ k) : (zY (x + y).natAbs).length ≤ k + 1 :=
 zE3 (Int.natAbs_add_le x y) (len_add hx hy)
theorem den_ne (q : Rat) : (q.den : Int) ≠ 0 := by have := q.den_nz; omega
theorem zHr (p q : Rat) (hp : Sz 100000 p) (hq : Sz 100000 q) : zW Tryz.prog 91 [qA p, qA q] (qA (p + q)) := by
 have l1 : (zY (q.den : Int).natAbs).length ≤ 100000 := hq.2
 have l2 : (zY (p.den : Int).natAbs).length ≤ 100000 := hp.2
 have h1 := zFs p.num q.den (by have := hp.1; omega) (by omega)
 have h2 := zFs q.num p.den (by have := hq.1; omega) (by omega)
 have m1 := zDQ hp.1 l1
 have m2 := zDQ hq.1 l2
 have h3 := zPl (p.num * q.den) (q.num * p.den) (by omega) (by omega)
 have h4 := zOY p.den q.den (by have := hp.2; omega) (by have := hq.2; omega)
 have m3 := zNd m1 m2
 have m4 := zJQ hp.2 hq.2
 have h5 := zMW (p.num * q.den + q.num * p.den) ((p.den * q.den : Nat) : Int) (by have := Nat.mul_ne_zero p.den_nz q.den_nz; omega) (by omega) (by rw [Int.natAbs_natCast]; omega)
 rw [zH5, zJU] at h5
 rw [zH5] at h1 h2
 refine zO.value0 (zF (P := Tryz.prog) (fn := Tryz.f91) rfl rfl (by kernel_rfl) rfl (fun c hR hfix => ?_)) (fix := fun _ => False) (fun _ h => h) rfl rfl
 refine rn6 ?_
 refine zn (by kernel_rfl) ?_
 refine zr (fuel := 1) [0, 1, 2, 3, 4, 5, 6, 7, 8, 9, 10, 11, 12, 13, 14, 15, 16, 17, 18, 19] [(2, .ptr 0 0 0), (3, .ptr 1 0 0), (4, .ptr 2 0 0)] ⟨rfl, rfl, rfl, trivial⟩ (by kernel_rfl) (by decide) rfl rfl ?_
 refine zX rfl rfl (zP rfl rfl rfl rfl rfl rfl) ?_
 refine zX rfl rfl (zAC rfl rfl rfl rfl rfl rfl rfl (by first | exact Nat.zero_lt_one | assumption | omega)) ?_
 refine zX rfl rfl (zP rfl rfl rfl rfl rfl rfl) ?_
 refine zX rfl rfl (zU rfl rfl rfl rfl rfl) ?_
 refine zX rfl rfl (zAU rfl rfl rfl rfl rfl rfl) ?_
 refine zBc rfl rfl rfl rfl rfl h1 ?_
 refine zX rfl rfl (zP rfl rfl rfl rfl rfl rfl) ?_
 refine zX rfl rfl (zAC rfl rfl rfl rfl rfl rfl rfl (by first | exact Nat.zero_lt_one | assumption | omega)) ?_
 refine zX rfl rfl (zP rfl rfl rfl rfl rfl rfl) ?_
 refine zX rfl rfl (zU rfl rfl rfl rfl rfl) ?_
 refine zX rfl rfl (zAU rfl rfl rfl rfl rfl rfl) ?_
 refine zBc rfl rfl rfl rfl rfl h2 ?_
 refine zBc rfl rfl rfl rfl rfl h3 ?_
 refine zX rfl rfl (zP rfl rfl rfl rfl rfl rfl) ?_
 refine zX rfl rfl (zU rfl rfl rfl rfl rfl) ?_
 refine zX rfl rfl (zP rfl rfl rfl rfl rfl rfl) ?_
 refine zX rfl rfl (zU rfl rfl rfl rfl rfl) ?_
 refine zBc rfl rfl rfl rfl rfl h4 ?_
 refine zX rfl rfl (zAU rfl rfl rfl rfl rfl rfl) ?_
 refine zBc rfl rfl rfl rfl rfl h5 ?_
 refine zAc ?_
 refine zG (is := [20]) (by kernel_rfl) (by simp) rfl ⟨fun o ho => ?_, trivial⟩
 all_goals (cases ho)
 skip
 unfold qA
 refine zQ (c' := .box [.bool (decide ((p + q).num < 0)), zAJ (p + q).num.natAbs, zAJ (p + q).den]) rfl rfl rfl rfl rfl Nat.zero_lt_one rfl rfl (fun i' j' hi' hj' => ?_) ?_
 · rw [if_pos (Nat.lt_one_iff.1 hi')]; rfl
 refine rn1 ?_
 refine zh (by kernel_rfl) ?_
 refine rn0 ?_
 exact zH hR rfl rfl
theorem zHi (p q : Rat) (hp : Sz 100000 p) (hq : Sz 100000 q) : zW Tryz.prog 105 [qA p, qA q] (qA (p * q)) := by
 have h1 := zFs p.num q.num (by have := hp.1; omega) (by have := hq.1; omega)
 have m1 := zDQ hp.1 hq.1
 have h4 := zOY p.den q.den (by have := hp.2; omega) (by have := hq.2; omega)
 have m4 := zJQ hp.2 hq.2
 have h5 := zMW (p.num * q.num) ((p.den * q.den : Nat) : Int) (by have := Nat.mul_ne_zero p.den_nz q.den_nz; omega) (by omega) (by rw [Int.natAbs_natCast]; omega)
 rw [zH5, zNl] at h5
 refine zO.value0 (zF (P := Tryz.prog) (fn := Tryz.f105) rfl rfl (by kernel_rfl) rfl (fun c hR hfix => ?_)) (fix := fun _ => False) (fun _ h => h) rfl rfl
 refine rn6 ?_
 refine zn (by kernel_rfl) ?_
 refine zr (fuel := 1) [0, 1, 2, 3, 4, 5, 6, 7, 8, 9, 10, 11] [(2, .ptr 0 0 0), (3, .ptr 1 0 0), (4, .ptr 2 0 0)] ⟨rfl, rfl, rfl, trivial⟩ (by kernel_rfl) (by decide) rfl rfl ?_
 refine zX rfl rfl (zP rfl rfl rfl rfl rfl rfl) ?_
 refine zX rfl rfl (zAC rfl rfl rfl rfl rfl rfl rfl (by first | exact Nat.zero_lt_one | assumption | omega)) ?_
 refine zX rfl rfl (zP rfl rfl rfl rfl rfl rfl) ?_
 refine zX rfl rfl (zAC rfl rfl rfl rfl rfl rfl rfl (by first | exact Nat.zero_lt_one | assumption | omega)) ?_
 refine zBc rfl rfl rfl rfl rfl h1 ?_
 refine zX rfl rfl (zP rfl rfl rfl rfl rfl rfl) ?_
 refine zX rfl rfl (zU rfl rfl rfl rfl rfl) ?_
 refine zX rfl rfl (zP rfl rfl rfl rfl rfl rfl) ?_
 refine zX rfl rfl (zU rfl rfl rfl rfl rfl) ?_
 refine zBc rfl rfl rfl rfl rfl h4 ?_
 refine zX rfl rfl (zAU rfl rfl rfl rfl rfl rfl) ?_
 refine zBc rfl rfl rfl rfl rfl h5 ?_
 refine zAc ?_
 refine zG (is := [12]) (by kernel_rfl) (by simp) rfl ⟨fun o ho => ?_, trivial⟩
 all_goals (cases ho)
 skip
 unfold qA
 refine zQ (c' := .box [.bool (decide ((p * q).num < 0)), zAJ (p * q).num.natAbs, zAJ (p * q).den]) rfl rfl rfl rfl rfl Nat.zero_lt_one rfl rfl (fun i' j' hi' hj' => ?_) ?_
 · rw [if_pos (Nat.lt_one_iff.1 hi')]; rfl
 refine rn1 ?_
 refine zh (by kernel_rfl) ?_
 refine rn0 ?_
 exact zH hR rfl rfl
theorem qdiv_ok (p q : Rat) (hp : Sz 100000 p) (hq : Sz 100000 q) (h0 : q ≠ 0) : zW Tryz.prog 108 [qA p, qA q] (qA (p / q)) := by
 have l1 : (zY (q.den : Int).natAbs).length ≤ 100000 := hq.2
 have l2 : (zY (p.den : Int).natAbs).length ≤ 100000 := hp.2
 have h1 := zFs p.num q.den (by have := hp.1; omega) (by omega)
 have h2 := zFs q.num p.den (by have := hq.1; omega) (by omega)
 have m1 := zDQ hp.1 l1
 have m2 := zDQ hq.1 l2
 have hn : q.num ≠ 0 := fun h => h0 (Rat.num_eq_zero.1 h)
 have h5 := zMW (p.num * q.den) (q.num * p.den) (Int.mul_ne_zero hn (den_ne p)) (by omega) (by omega)
 rw [zMp p q h0] at h5
 rw [zH5] at h1 h2
 refine zO.value0 (zF (P := Tryz.prog) (fn := Tryz.f108) rfl rfl (by kernel_rfl) rfl (fun c hR hfix => ?_)) (fix := fun _ => False) (fun _ h => h) rfl rfl
 refine rn6 ?_
 refine zn (by kernel_rfl) ?_
 refine zr (fuel := 1) [0, 1, 2, 3, 4, 5, 6, 7, 8, 9, 10, 11, 12] [(2, .ptr 0 0 0), (3, .ptr 1 0 0), (4, .ptr 2 0 0)] ⟨rfl, rfl, rfl, trivial⟩ (by kernel_rfl) (by decide) rfl rfl ?_
 refine zX rfl rfl (zP rfl rfl rfl rfl rfl rfl) ?_
 refine zX rfl rfl (zAC rfl rfl rfl rfl rfl rfl rfl (by first | exact Nat.zero_lt_one | assumption | omega)) ?_
 refine zX rfl rfl (zP rfl rfl rfl rfl rfl rfl) ?_
 refine zX rfl rfl (zU rfl rfl rfl rfl rfl) ?_
 refine zX rfl rfl (zAU rfl rfl rfl rfl rfl rfl) ?_
 refine zBc rfl rfl rfl rfl rfl h1 ?_
 refine zX rfl rfl (zP rfl rfl rfl rfl rfl rfl) ?_
 refine zX rfl rfl (zAC rfl rfl rfl rfl rfl rfl rfl (by first | exact Nat.zero_lt_one | assumption | omega)) ?_
 refine zX rfl rfl (zP rfl rfl rfl rfl rfl rfl) ?_
 refine zX rfl rfl (zU rfl rfl rfl rfl rfl) ?_
 refine zX rfl rfl (zAU rfl rfl rfl rfl rfl rfl) ?_
 refine zBc rfl rfl rfl rfl rfl h2 ?_
 refine zBc rfl rfl rfl rfl rfl h5 ?_
 refine zAc ?_
 refine zG (is := [13]) (by kernel_rfl) (by simp) rfl ⟨fun o ho => ?_, trivial⟩
 all_goals (cases ho)
 skip
 unfold qA
 refine zQ (c' := .box [.bool (decide ((p / q).num < 0)), zAJ (p / q).num.natAbs, zAJ (p / q).den]) rfl rfl rfl rfl rfl Nat.zero_lt_one rfl rfl (fun i' j' hi' hj' => ?_) ?_
 · rw [if_pos (Nat.lt_one_iff.1 hi')]; rfl
 refine rn1 ?_
 refine zh (by kernel_rfl) ?_
 refine rn0 ?_
 exact zH hR rfl rfl
theorem qcmp_ok (p q : Rat) (hp : Sz 100000 p) (hq : Sz 100000 q) : zW Tryz.prog 84 [qA p, qA q] (.int .i64 (cmpQ p q)) := by
 have l1 : (zY (q.den : Int).natAbs).length ≤ 100000 := hq.2
 have l2 : (zY (p.den : Int).natAbs).length ≤ 100000 := hp.2
 have h1 := zFs p.num q.den (by have := hp.1; omega) (by omega)
 have h2 := zFs q.num p.den (by have := hq.1; omega) (by omega)
 have m1 := zDQ hp.1 l1
 have m2 := zDQ hq.1 l2
 have h5 := icmp_ok (p.num * q.den) (q.num * p.den) (by omega) (by omega)
 rw [sgn_cmp p q] at h5
 rw [zH5] at h1 h2
 refine zO.value0 (zF (P := Tryz.prog) (fn := Tryz.f84) rfl rfl (by kernel_rfl) rfl (fun c hR hfix => ?_)) (fix := fun _ => False) (fun _ h => h) rfl rfl
 refine rn6 ?_
 refine zn (by kernel_rfl) ?_
 refine zr (fuel := 0) [0, 1, 2, 3, 4, 5, 6, 7, 8, 9, 10, 11, 12, 13] [(2, .ptr 0 0 0), (3, .ptr 1 0 0)] ⟨rfl, rfl, trivial⟩ (by kernel_rfl) (by decide) rfl rfl ?_
 refine zX rfl rfl (zP rfl rfl rfl rfl rfl rfl) ?_
 refine zX rfl rfl (zAC rfl rfl rfl rfl rfl rfl rfl (by first | exact Nat.zero_lt_one | assumption | omega)) ?_
 refine zX rfl rfl (zP rfl rfl rfl rfl rfl rfl) ?_
 refine zX rfl rfl (zU rfl rfl rfl rfl rfl) ?_
 refine zX rfl rfl (zAU rfl rfl rfl rfl rfl rfl) ?_
 refine zBc rfl rfl rfl rfl rfl h1 ?_
 refine zX rfl rfl (zP rfl rfl rfl rfl rfl rfl) ?_
 refine zX rfl rfl (zAC rfl rfl rfl rfl rfl rfl rfl (by first | exact Nat.zero_lt_one | assumption | omega)) ?_
 refine zX rfl rfl (zP rfl rfl rfl rfl rfl rfl) ?_
 refine zX rfl rfl (zU rfl rfl rfl rfl rfl) ?_
 refine zX rfl rfl (zAU rfl rfl rfl rfl rfl rfl) ?_
 refine zBc rfl rfl rfl rfl rfl h2 ?_
 refine zBc rfl rfl rfl rfl rfl h5 ?_
 refine zX rfl rfl (zK rfl) ?_
 refine zAc ?_
 refine zh (by kernel_rfl) ?_
 refine rn0 ?_
 exact zH hR rfl rfl
theorem zM5 (p : Rat) : zW Tryz.prog 98 [qA p] (.int .i64 (sgn p.num)) := by
 have h1 := zM8 p.num
 refine zO.value0 (zF (P := Tryz.prog) (fn := Tryz.f98) rfl rfl (by kernel_rfl) rfl (fun c hR hfix => ?_)) (fix := fun _ => False) (fun _ h => h) rfl rfl
 refine rn6 ?_
 refine zE rfl rfl rfl h1 ?_
 refine rn0 ?_
 exact zH hR rfl rfl
end Go.Proofs.YtnkealfaldjipaaGreatDoor
namespace Go.Proofs.YtnkealfaldjipaaGreatDoor
open Go.Ax Go.Ax.Bg Go.Ax.Rt Go.RowKit
attribute [local irreducible] Ax zAM QOp zO zo
set_option maxRecDepth 100000
set_option maxHeartbeats 4000000
open Go.Ax.Tb (zCd zJp)
theorem zNm : zAJ 1 = .ro (.ints .u32 [1]) 0 1 := by unfold zAJ; rw [zGd]; rfl
theorem qA_int (z : Int) : qA (z : Rat) = .agg [.bool (decide (z < 0)), zAJ z.natAbs, zAJ 1] := rfl
theorem qof_ok (n : Int) (h : -9223372036854775808 ≤ n ∧ n < 9223372036854775808) : zW Tryz.prog 85 [.int .i64 n] (qA (n : Rat)) := by
 have h1 := whole_ok n h
 refine zO.value0 (zF (P := Tryz.prog) (fn := Tryz.f85) rfl rfl (by kernel_rfl) rfl (fun c hR hfix => ?_)) (fix := fun _ => False) (fun _ h => h) rfl rfl
 refine rn4 ?_
 refine zE rfl rfl rfl h1 ?_
 unfold zCR
 repeat (first | refine zC (zAU rfl rfl rfl rfl rfl rfl) ?_ | refine zl rfl rfl rfl rfl rfl rfl rfl rfl rfl rfl rfl ?_)
 refine zQ (c' := .box [.bool (decide (n < 0)), zAJ n.natAbs, .ro (.ints .u32 [1]) 0 1]) rfl rfl rfl rfl rfl Nat.zero_lt_one rfl rfl (fun i' j' hi' hj' => ?_) ?_
 · rw [if_pos (Nat.lt_one_iff.1 hi')]; rfl
 refine rn0 ?_
 refine zH hR rfl ?_
 rw [qA_int, zNm]
 rfl
theorem zO6 (s : List UInt8) (b : Int) : zW Tryz.prog 221 [.str s, .int .u8 b] (.int .i64 (Lib.indexByte s b.toNat.toUInt8)) := by
 refine zO.value0 (zF (P := Tryz.prog) (fn := Tryz.f221) rfl rfl (by kernel_rfl) rfl (fun c hR hfix => ?_)) (fix := fun _ => False) (fun _ h => h) rfl rfl
 refine rn0 ?_
 refine zC (zNp rfl rfl rfl rfl (by kernel_rfl) (by kernel_rfl) (by kernel_rfl) (by kernel_rfl)) ?_
 refine rn0 ?_
 exact zH hR rfl rfl
theorem indexI1 (s : List UInt8) (b : UInt8) : zW Tryz.prog 194 [.str s, .str [b]] (.int .i64 (Lib.indexByte s b)) := by
 refine zO.value0 (zF (P := Tryz.prog) (fn := Tryz.f194) rfl rfl (by kernel_rfl) rfl (fun c hR hfix => ?_)) (fix := fun _ => False) (fun _ h => h) rfl rfl
 refine rn6 ?_
 refine zD rfl (fun h => ?_) (fun h => ?_)
 · refine rn6 ?_
   refine zH hR rfl ?_
   subst h
   simp [zBF, Lib.indexByte]
 repeat (first | refine zC (zI rfl) ?_ | refine zC (zK rfl) ?_ | refine zB ?_ | refine zA ?_ | refine zZ ?_ | refine zL rfl ?_ | refine zAV rfl ?_ | refine zC (zGa rfl rfl) ?_ | refine zC (zFU rfl rfl rfl (by first | assumption | omega | simp)) ?_)
 refine zE rfl rfl rfl (zO6 s b.toNat) ?_
 refine rn6 ?_
 refine zH hR rfl ?_
 simp [zBF]
theorem zLr (l : List UInt8) (b : UInt8) : Lib.indexByte l b < l.length := by
 induction l with
 | nil => simp [Lib.indexByte]
 | cons c r ih =>
   rw [Lib.indexByte]
   simp only [List.length_cons]
   split
   · omega
   · split
     · omega
     · omega
theorem cutI (s : List UInt8) (b : UInt8) (h : s.length ≤ 9223372036854775807) : zW Tryz.prog 154 [.str s, .str [b]] (.tup [.str (zCd b s).1, .str (zCd b s).2.1, .bool (zCd b s).2.2]) := by
 have hc := zJp b s
 have hlt := zLr s b
 have hge := Lib.indexByte_ge s b
 have ci := indexI1 s b
 refine zO.value0 (zF (P := Tryz.prog) (fn := Tryz.f154) rfl rfl (by kernel_rfl) rfl (fun c hR hfix => ?_)) (fix := fun _ => False) (fun _ h => h) rfl rfl
 generalize Lib.indexByte s b = i at *
 refine rn0 ?_
 refine zE rfl rfl rfl ci ?_
 repeat (first | refine zC (zI rfl) ?_ | refine zC (zK rfl) ?_ | refine zB ?_ | refine zA ?_ | refine zZ ?_ | refine zL rfl ?_ | refine zC (zCX rfl rfl) ?_)
 refine zD rfl (fun h0 => ?_) (fun h0 => ?_)
 · rw [if_pos h0] at hc
   rw [hc] at hR
   have hb1 : ([b] : List UInt8).length = 1 := rfl
   have hi1 : (i + 1).toNat = i.toNat + 1 := by omega
   repeat (refine zZ ?_)
   refine zDU (by kernel_rfl) (by kernel_rfl) rfl ?_
   repeat (first | refine zC (zI rfl) ?_ | refine zC (zK rfl) ?_ | refine zB ?_ | refine zA ?_ | refine zAQ ?_ | refine zB0 ?_ | refine zC (zCH rfl rfl) ?_ | refine zC (zDJ rfl rfl (by omega)) ?_ | refine zC (zCc rfl rfl rfl rfl rfl rfl (by omega)) ?_)
   refine zH hR rfl ?_
   simp [zBF, hi1]
   exact List.take_of_length_le (by simp)
 · rw [if_neg h0] at hc
   rw [hc] at hR
   refine rn1 ?_
   exact zH hR rfl rfl
theorem cutS (s : List UInt8) (b : UInt8) (h : s.length ≤ 9223372036854775807) : zW Tryz.prog 93 [.str s, .str [b]] (.tup [.str (zCd b s).1, .str (zCd b s).2.1, .bool (zCd b s).2.2]) := by
 have ci := cutI s b h
 refine zO.value0 (zF (P := Tryz.prog) (fn := Tryz.f93) rfl rfl (by kernel_rfl) rfl (fun c hR hfix => ?_)) (fix := fun _ => False) (fun _ h => h) rfl rfl
 generalize zCd b s = q at *
 refine rn0 ?_
 refine zE rfl rfl rfl ci ?_
 refine rn2 ?_
 exact zH hR rfl rfl
theorem cutP1 (s p : List UInt8) (hs : s.length ≤ 9223372036854775807) (hp : p.length ≤ 9223372036854775807) : zW Tryz.prog 153 [.str s, .str p] (.tup [.str (if zHl s p then s.drop p.length else s), .bool (zHl s p)]) := by
 have h1 := zPX s p hs hp
 refine zO.value0 (zF (P := Tryz.prog) (fn := Tryz.f153) rfl rfl (by kernel_rfl) rfl (fun c hR hfix => ?_)) (fix := fun _ => False) (fun _ h => h) rfl rfl
 by_cases h : zHl s p = true
 · have hle : p.length ≤ s.length := by unfold zHl at h; exact (of_decide_eq_true h).1
   rw [h] at h1 hR
   refine rn0 ?_
   refine zE rfl rfl rfl h1 ?_
   repeat (first | refine zC (zI rfl) ?_ | refine zC (zK rfl) ?_ | refine zB ?_ | refine zA ?_ | refine zZ ?_ | refine zL rfl ?_ | refine zx rfl ?_ | refine zi ?_ | refine zAQ ?_ | refine zC (zEB rfl) ?_ | refine zC (zCH rfl rfl) ?_ | refine zC (zCc rfl rfl rfl rfl rfl rfl (by omega)) ?_)
   refine zH hR rfl ?_
   simp only [zBF, Int.toNat_natCast]
   rw [List.take_of_length_le (by simp)]
   rfl
 · rw [Bool.not_eq_true] at h
   rw [h] at h1 hR
   refine rn0 ?_
   refine zE rfl rfl rfl h1 ?_
   refine rn5 ?_
   exact zH hR rfl rfl
theorem cutP (s p : List UInt8) (hs : s.length ≤ 9223372036854775807) (hp : p.length ≤ 9223372036854775807) : zW Tryz.prog 92 [.str s, .str p] (.tup [.str (if zHl s p then s.drop p.length else s), .bool (zHl s p)]) := by
 have h1 := cutP1 s p hs hp
 refine zO.value0 (zF (P := Tryz.prog) (fn := Tryz.f92) rfl rfl (by kernel_rfl) rfl (fun c hR hfix => ?_)) (fix := fun _ => False) (fun _ h => h) rfl rfl
 generalize zHl s p = b at *
 refine rn0 ?_
 refine zE rfl rfl rfl h1 ?_
 refine rn2 ?_
 exact zH hR rfl rfl
end Go.Proofs.YtnkealfaldjipaaGreatDoor
namespace Go.Ax.Rt
open Go.Ax.Bg
open Go.Ax.Tb (zBX zBZ zBv zCd zPM zP1 zEH)
def zCw : List UInt8 → Bool
 | c :: _ => decide (c = 45)
 | [] => false
def zEA (s : List UInt8) : List UInt8 := if zCw s then s.drop 1 else s
def zD9 (s : List UInt8) : List UInt8 := (zCd 47 (zEA s)).1
def zD6 (s : List UInt8) : List UInt8 := (zCd 47 (zEA s)).2.1
def zF4 (s : List UInt8) : Bool := (zCd 47 (zEA s)).2.2
/-- rat.Check -/
def zCi (s : List UInt8) : Int :=
 if zEU (zD9 s) = false ∨ (zF4 s = true ∧ zEU (zD6 s) = false) ∨ (zCw s = true ∧ zD9 s = [48]) then 5
 else if 2000 < (zD9 s).length ∨ 2000 < (zD6 s).length then 2
 else if zF4 s = true ∧ (zD6 s = [48] ∨ zD6 s = [49] ∨ Nat.gcd (zAf 0 (zD9 s)) (zAf 0 (zD6 s)) ≠ 1) then 3 else 0
def zKX (s : List UInt8) : Nat := if zF4 s then zAf 0 (zD6 s) else 1
def zAB (s : List UInt8) : Rat := Rat.divInt (zEe (zCw s) (zAf 0 (zD9 s))) (zKX s : Nat)
def zt (q : Rat) : List UInt8 := (if q.num < 0 then [45] else []) ++ (Lib.decDigits q.num.natAbs ++ (if q.den = 1 then [] else 47 :: Lib.decDigits q.den))
def zA3 (q : Rat) : Bool := decide ((Lib.decDigits q.num.natAbs).length ≤ 2000) && decide ((Lib.decDigits q.den).length ≤ 2000)
def zFI (q : Rat) : List UInt8 × Int := if zA3 q then (zt q, 0) else ([], 2)
theorem zK6 (b : UInt8) : ∀ l : List UInt8, l = (zCd b l).1 ++ (if (zCd b l).2.2 then b :: (zCd b l).2.1 else [])
 | [] => rfl
 | c :: r => by
   rw [zCd]
   split
   · rename_i h; subst h; simp
   · have := zK6 b r
     simp only [List.cons_append, List.cons.injEq, true_and]
     exact this
structure Parts (s : List UInt8) (q : Rat) : Prop where
 num : q.num = zEe (zCw s) (zAf 0 (zD9 s))
 den : q.den = zKX s
 cn : zGM (zD9 s)
 cd : zF4 s = true → zGM (zD6 s) ∧ zAf 0 (zD6 s) ≠ 0 ∧ zAf 0 (zD6 s) ≠ 1
 ln : (zD9 s).length ≤ 2000
 ld : (zD6 s).length ≤ 2000
 ng : zCw s = true → zAf 0 (zD9 s) ≠ 0
theorem zMY {s : List UInt8} {n : Nat} (hc : zGM s) (hn : n < 10) (h : zAf 0 s = n) : s = [UInt8.ofNat (48 + n)] := by
 rw [← zEV hc, h, Lib.decDigits_one hn]
theorem zGq {s : List UInt8} (h : zF4 s = false) : zKX s = 1 := by unfold zKX; rw [h]; rfl
theorem zFb {s : List UInt8} (h : zF4 s = true) : zKX s = zAf 0 (zD6 s) := by unfold zKX; rw [h]; rfl
theorem zET {s : List UInt8} (h : zCi s = 0) : Parts s (zAB s) := by
 unfold zCi at h
 split at h
 · omega
 split at h
 · omega
 split at h
 · omega
 rename_i h1 h2 h3
 simp only [not_or, not_and, Bool.not_eq_false] at h1 h2 h3
 obtain ⟨a1, a2, a3⟩ := h1
 have cn := zC2.1 a1
 have cd : zF4 s = true → zGM (zD6 s) ∧ zAf 0 (zD6 s) ≠ 0 ∧ zAf 0 (zD6 s) ≠ 1 := fun hd => by
   have c := zC2.1 (a2 hd)
   exact ⟨c, fun e => (h3 hd).1 (zMY c (by decide) e), fun e => (h3 hd).2.1 (zMY c (by decide) e)⟩
 have hd0 : zKX s ≠ 0 := by
   cases e : zF4 s
   · rw [zGq e]; decide
   · rw [zFb e]; exact (cd e).2.1
 have hg : Nat.gcd (zAf 0 (zD9 s)) (zKX s) = 1 := by
   cases e : zF4 s
   · rw [zGq e]; exact Nat.gcd_one_right _
   · rw [zFb e]; exact Classical.not_not.1 (h3 e).2.2
 obtain ⟨e1, e2, e3⟩ := zHt (zEe (zCw s) (zAf 0 (zD9 s))) (zKX s) hd0
 rw [zEY, hg, Nat.div_one] at e1
 rw [zEY, hg, Nat.div_one] at e2
 refine ⟨?_, e2, cn, cd, by omega, by omega, fun hn e => a3 hn (zMY cn (by decide) e)⟩
 show (Rat.divInt _ _).num = _
 have := zEY (zCw s) (zAf 0 (zD9 s))
 omega
theorem neg_body {s : List UInt8} : s = (if zCw s then [45] else []) ++ zEA s := by
 unfold zEA
 cases s with
 | nil => rfl
 | cons c r =>
   unfold zCw
   by_cases h : c = 45
   · subst h; rfl
   · simp [h]
theorem Parts.text {s : List UInt8} {q : Rat} (h : Parts s q) : zt q = s := by
 conv => rhs; rw [neg_body (s := s), zK6 47 (zEA s)]
 change zt q = _ ++ (zD9 s ++ if zF4 s then 47 :: zD6 s else [])
 unfold zt
 rw [h.num, h.den, zEY, zEV h.cn]
 congr 1
 · have := zKH (zCw s) (zAf 0 (zD9 s))
   cases e : zCw s
   · rw [e] at this; simp at this
     rw [if_neg (by simpa [e] using this)]; rfl
   · rw [e] at this
     have hn := h.ng e
     simp [hn] at this
     rw [if_pos this]; rfl
 · congr 1
   cases e : zF4 s
   · rw [zGq e]; rfl
   · obtain ⟨c, c0, c1⟩ := h.cd e
     rw [zFb e, if_neg c1, zEV c]; rfl
theorem zMr (q : Rat) : zCw (zt q) = decide (q.num < 0) ∧ zEA (zt q) = Lib.decDigits q.num.natAbs ++ (if q.den = 1 then [] else 47 :: Lib.decDigits q.den) := by
 have hne := zBv q.num.natAbs
 have h45 := zEH q.num.natAbs 45 (by decide)
 unfold zEA zt
 by_cases h : q.num < 0
 · simp [h, zCw]
 · have : zCw (Lib.decDigits q.num.natAbs ++ (if q.den = 1 then [] else 47 :: Lib.decDigits q.den)) = false := by
     cases e : Lib.decDigits q.num.natAbs with
     | nil => exact absurd e hne
     | cons c r =>
       rw [e] at h45
       have : c ≠ 45 := fun e => h45 (by simp [e])
       simp [zCw, this]
   simp [h, this]
theorem zJr (q : Rat) : zCd 47 (zEA (zt q)) = (Lib.decDigits q.num.natAbs, (if q.den = 1 then [] else Lib.decDigits q.den), decide (q.den ≠ 1)) := by
 rw [(zMr q).2]
 by_cases h : q.den = 1
 · rw [if_pos h, if_pos h, List.append_nil, zPM (zEH _ 47 (by decide))]
   simp [h]
 · rw [if_neg h, if_neg h, zP1 (zEH _ 47 (by decide))]
   simp [h]
theorem zN0 {q : Rat} (h : zA3 q = true) : zCi (zt q) = 0 ∧ zAB (zt q) = q := by
 have e1 : zD9 (zt q) = Lib.decDigits q.num.natAbs := by unfold zD9; rw [zJr]
 have e2 : zD6 (zt q) = if q.den = 1 then [] else Lib.decDigits q.den := by unfold zD6; rw [zJr]
 have e3 : zF4 (zt q) = decide (q.den ≠ 1) := by unfold zF4; rw [zJr]
 have e4 := (zMr q).1
 unfold zA3 at h
 rw [Bool.and_eq_true, decide_eq_true_eq, decide_eq_true_eq] at h
 constructor
 · unfold zCi
   rw [e1, e2, e3, e4, zBO, zC2.2 (zEO _)]
   have g1 : ¬ (true = false ∨ (decide (q.den ≠ 1) = true ∧ zEU (if q.den = 1 then [] else Lib.decDigits q.den) = false) ∨ (decide (q.num < 0) = true ∧ Lib.decDigits q.num.natAbs = [48])) := by
     rintro (g | ⟨g1, g2⟩ | ⟨g1, g2⟩)
     · cases g
     · rw [decide_eq_true_eq] at g1
       rw [if_neg g1, zC2.2 (zEO _)] at g2
       cases g2
     · rw [decide_eq_true_eq] at g1
       have : q.num.natAbs = 0 := zFG (by rw [g2, Lib.decDigits_one (by decide)]; rfl)
       omega
   have g2 : ¬ (2000 < (Lib.decDigits q.num.natAbs).length ∨ 2000 < (if q.den = 1 then [] else Lib.decDigits q.den : List UInt8).length) := by
     rintro (g | g)
     · omega
     · split at g
       · simp at g
       · omega
   have g3 : ¬ (decide (q.den ≠ 1) = true ∧ ((if q.den = 1 then [] else Lib.decDigits q.den) = [48] ∨ (if q.den = 1 then [] else Lib.decDigits q.den) = [49] ∨ Nat.gcd q.num.natAbs (zAf 0 (if q.den = 1 then [] else Lib.decDigits q.den)) ≠ 1)) := by
     rintro ⟨g, g3⟩
     rw [decide_eq_true_eq] at g
     rw [if_neg g] at g3
     rw [zBO] at g3
     rcases g3 with g3 | g3 | g3
     · have : q.den = 0 := zFG (by rw [g3, Lib.decDigits_one (by decide)]; rfl)
       exact q.den_nz this
     · exact g (zFG (by rw [g3, Lib.decDigits_one (by decide)]; rfl))
     · exact g3 q.reduced
   rw [if_neg g1, if_neg g2, if_neg g3]
 · unfold zAB
   have e5 : zKX (zt q) = q.den := by
     unfold zKX
     rw [e3, e2]
     by_cases g : q.den = 1
     · simp [g]
     · simp [g, zBO]
   rw [e1, e4, e5, zBO, zRb]
   exact Rat.num_divInt_den q
/-- rat.CheckAll -/
def zEI : List (List UInt8) → Int
 | [] => 0
 | s :: r => if zCi s = 0 then zEI r else zCi s
theorem zGD : ∀ {l : List (List UInt8)}, zEI l = 0 → ∀ s ∈ l, zCi s = 0
 | [], _, s, h => by simp at h
 | a :: r, h, s, hs => by
   rw [zEI] at h
   split at h
   · rename_i h1
     rcases List.mem_cons.1 hs with e | e
     · rw [e]; exact h1
     · exact zGD h s e
   · contradiction
theorem zMI : ∀ {l : List (List UInt8)}, (∀ s ∈ l, zCi s = 0) → zEI l = 0
 | [], _ => rfl
 | a :: r, h => by
   rw [zEI, if_pos (h a (by simp))]
   exact zMI (fun s hs => h s (by simp [hs]))
theorem Parts.zero {s : List UInt8} (h : zCi s = 0) : zAB s = 0 ↔ s = [48] := by
 constructor
 · intro e
   have := (zET h).text
   rw [e] at this
   rw [← this]
   unfold zt
   rw [if_neg (by decide), if_pos (show (0 : Rat).den = 1 from rfl)]
   show [] ++ (Lib.decDigits 0 ++ []) = _
   rw [Lib.decDigits_one (by decide)]; rfl
 · intro e
   subst e
   decide
/-- Sums, products and so on of two texts. -/
def twoR (F : Rat → Rat → Rat) (a b : List UInt8) : List UInt8 × Int := if zEI [a, b] = 0 then zFI (F (zAB a) (zAB b)) else ([], zEI [a, b])
def oneR (F : Rat → Rat) (a : List UInt8) : List UInt8 × Int := if zCi a = 0 then zFI (F (zAB a)) else ([], zCi a)
def divR (a b : List UInt8) : List UInt8 × Int := if zEI [a, b] = 0 then (if b = [48] then ([], 18) else zFI (zAB a / zAB b)) else ([], zEI [a, b])
def cmpR (a b : List UInt8) : Int × Int := if zEI [a, b] = 0 then (cmpQ (zAB a) (zAB b), 0) else (0, zEI [a, b])
def signR (a : List UInt8) : Int × Int := if zCi a = 0 then (sgn (zAB a).num, 0) else (0, zCi a)
def zBG (l : List Rat) : List (List UInt8) × Int := if l.all zA3 then (l.map zt, 0) else ([], 2)
def zIe : Rat → List Rat → Rat × Int
 | acc, [] => (acc, 0)
 | acc, q :: r => if zA3 (acc + q) then zIe (acc + q) r else (acc + q, 2)
def zEi (l : List (List UInt8)) : Rat × Int := if 256 < l.length then (0, 2) else if zEI l = 0 then zIe 0 (l.map zAB) else (0, zEI l)
def sumT (l : List (List UInt8)) : List UInt8 × Int := if (zEi l).2 = 0 then zFI (zEi l).1 else ([], (zEi l).2)
def zKU (l : List (List UInt8)) : Int := if (zEi l).2 = 0 ∧ l.any zCw = true then 4 else (zEi l).2
def sharesR (l : List (List UInt8)) : List (List UInt8) × Int :=
 if zKU l = 0 then (if (zEi l).1 = 0 then ([], 18) else zBG ((l.map zAB).map (fun q => q / (zEi l).1))) else ([], zKU l)
def zCV (l : List (List UInt8)) : Int := if zKU l = 0 then (if cmpQ (zEi l).1 1 = 0 then 0 else 3) else zKU l
def bestK (x : List Rat) : Nat → Nat
 | 0 => 0
 | k + 1 => if 0 < cmpQ (x.getD k 0) (x.getD (bestK x k) 0) then k else bestK x k
def zKz (l : List (List UInt8)) : Int × Int := if 256 < l.length then (0, 2) else if l = [] then (0, 8) else if zEI l = 0 then ((bestK (l.map zAB) l.length : Nat), 0) else (0, zEI l)
theorem zPQ {q : Rat} (h : zA3 q = true) : (zY q.num.natAbs).length ≤ 2000 ∧ (zY q.den).length ≤ 2000 := by
 unfold zA3 at h
 rw [Bool.and_eq_true, decide_eq_true_eq, decide_eq_true_eq] at h
 have key : ∀ (n m : Nat), (Lib.decDigits n).length ≤ m → (zY n).length ≤ m := fun n m hl => by
   refine zAp (Nat.lt_of_lt_of_le (zEQ n) ?_)
   exact Nat.le_trans (Nat.pow_le_pow_right (by decide) hl) (Nat.pow_le_pow_left (by decide) m)
 exact ⟨key _ _ h.1, key _ _ h.2⟩
def ofR (n d : Int) : List UInt8 × Int := if d = 0 then ([], 18) else zFI (Rat.divInt n d)
end Go.Ax.Rt
namespace Go.Proofs.YtnkealfaldjipaaGreatDoor
open Go.Ax Go.Ax.Bg Go.Ax.Rt Go.RowKit
attribute [local irreducible] Ax zAM QOp zO zo
set_option maxRecDepth 100000
set_option maxHeartbeats 4000000
open Go.Ax.Tb (zCd zJp zM3)
theorem zP9 (s : List UInt8) : zHl s [45] = zCw s := by
 unfold zHl zCw
 cases s with
 | nil => rfl
 | cons c r => simp
theorem zNF (s : List UInt8) : (zEA s).length ≤ s.length := by
 unfold zEA; split
 · simp
 · exact Nat.le_refl _
theorem zRU (s : List UInt8) : (zD9 s).length ≤ s.length ∧ (zD6 s).length ≤ s.length := by
 have h := zM3 47 (zEA s)
 have h2 := zNF s
 unfold zD9 zD6
 omega
theorem cutNeg (s : List UInt8) (hs : s.length ≤ 9223372036854775807) : zW Tryz.prog 92 [.str s, .str [45]] (.tup [.str (zEA s), .bool (zCw s)]) := by
 have h := cutP s [45] hs (by decide)
 rw [zP9] at h
 exact h
theorem cutBar (s : List UInt8) (hs : s.length ≤ 9223372036854775807) : zW Tryz.prog 93 [.str (zEA s), .str [47]] (.tup [.str (zD9 s), .str (zD6 s), .bool (zF4 s)]) :=
 cutS (zEA s) 47 (Nat.le_trans (zNF s) hs)
theorem zFd (s : List UInt8) (hs : s.length ≤ 9223372036854775807) (h : zCi s = 0) : zW Tryz.prog 89 [.str s] (qA (zAB s)) := by
 have hp := zET h
 have h1 := cutNeg s (by omega)
 have h2 := cutBar s hs
 have h3 := zJM (zD9 s) hp.cn.2.1 (by have := hp.ln; omega)
 have h4 := zFf (zCw s) (zAf 0 (zD9 s))
 rw [← hp.num] at h4
 unfold qA
 rw [hp.den]
 cases e : zF4 s
 · rw [e] at h2
   rw [zGq e, zNm]
   refine zO.value0 (zF (P := Tryz.prog) (fn := Tryz.f89) rfl rfl (by kernel_rfl) rfl (fun c hR hfix => ?_)) (fix := fun _ => False) (fun _ h => h) rfl rfl
   refine rn4 ?_
   refine zE rfl rfl rfl h1 ?_
   refine rn2 ?_
   refine zE rfl rfl rfl h2 ?_
   refine rn2 ?_
   refine zE rfl rfl rfl h3 ?_
   skip
   refine zE rfl rfl rfl h4 ?_
   unfold zCR
   repeat (first | refine zC (zAU rfl rfl rfl rfl rfl rfl) ?_ | refine zl rfl rfl rfl rfl rfl rfl rfl rfl rfl rfl rfl ?_ | refine zBI rfl rfl rfl ?_)
   refine zQ (c' := .box [.bool (decide ((zAB s).num < 0)), zAJ (zAB s).num.natAbs, .ro (.ints .u32 [1]) 0 1]) rfl rfl rfl rfl rfl Nat.zero_lt_one rfl rfl (fun i' j' hi' hj' => ?_) ?_
   · rw [if_pos (Nat.lt_one_iff.1 hi')]; rfl
   refine rn6 ?_
   refine zQ (c' := .box [.bool (decide ((zAB s).num < 0)), zAJ (zAB s).num.natAbs, .ro (.ints .u32 [1]) 0 1]) rfl rfl rfl rfl rfl Nat.zero_lt_one rfl rfl (fun i' j' hi' hj' => ?_) ?_
   · rw [if_pos (Nat.lt_one_iff.1 hi')]; rfl
   refine rn0 ?_
   exact zH hR rfl rfl
 · rw [e] at h2
   rw [zFb e]
   have h5 := zJM (zD6 s) (hp.cd e).1.2.1 (by have := hp.ld; omega)
   refine zO.value0 (zF (P := Tryz.prog) (fn := Tryz.f89) rfl rfl (by kernel_rfl) rfl (fun c hR hfix => ?_)) (fix := fun _ => False) (fun _ h => h) rfl rfl
   refine rn4 ?_
   refine zE rfl rfl rfl h1 ?_
   refine rn2 ?_
   refine zE rfl rfl rfl h2 ?_
   refine rn2 ?_
   refine zE rfl rfl rfl h3 ?_
   skip
   refine zE rfl rfl rfl h4 ?_
   unfold zCR
   repeat (first | refine zC (zAU rfl rfl rfl rfl rfl rfl) ?_ | refine zl rfl rfl rfl rfl rfl rfl rfl rfl rfl rfl rfl ?_ | refine zBI rfl rfl rfl ?_)
   refine zQ (c' := .box [.bool (decide ((zAB s).num < 0)), zAJ (zAB s).num.natAbs, .ro (.ints .u32 [1]) 0 1]) rfl rfl rfl rfl rfl Nat.zero_lt_one rfl rfl (fun i' j' hi' hj' => ?_) ?_
   · rw [if_pos (Nat.lt_one_iff.1 hi')]; rfl
   refine rn5 ?_
   refine zE rfl rfl rfl h5 ?_
   repeat (first | refine zB ?_ | refine zA ?_ | refine zZ ?_ | refine zL rfl ?_ | refine zC (zP rfl rfl rfl rfl rfl rfl) ?_ | refine zC (zAC rfl rfl rfl rfl rfl rfl rfl (by first | exact Nat.zero_lt_one | assumption | omega)) ?_ | refine zAt rfl rfl rfl rfl rfl rfl rfl Nat.zero_lt_one ?_)
   refine zQ (c' := .box [.bool (decide ((zAB s).num < 0)), zAJ (zAB s).num.natAbs, zAJ (zAf 0 (zD6 s))]) rfl rfl rfl rfl rfl Nat.zero_lt_one rfl rfl (fun i' j' hi' hj' => ?_) ?_
   · rw [if_pos (Nat.lt_one_iff.1 hi')]; rfl
   refine rn0 ?_
   exact zH hR rfl rfl
theorem qtext_ok (q : Rat) (hq : Sz 100000 q) : zW Tryz.prog 137 [qA q] (.str (zt q)) := by
 have h1 := zJN q.num.natAbs (by have := hq.1; omega)
 have h2 := one_ok q.den
 have h3 := zJN q.den (by have := hq.2; omega)
 unfold zt
 have l1 := zDC hq.1 (by decide)
 have l2 := zDC hq.2 (by decide)
 refine zO.value0 (zF (P := Tryz.prog) (fn := Tryz.f137) rfl rfl (by kernel_rfl) rfl (fun c hR hfix => ?_)) (fix := fun _ => False) (fun _ h => h) rfl rfl
 by_cases hn : q.num < 0 <;> by_cases hd : q.den = 1
 · rw [if_pos hn, if_pos hd] at hR
   rw [decide_eq_true hd] at h2
   unfold qA
   rw [decide_eq_true hn]
   refine rn6 ?_
   refine zE rfl rfl rfl h1 ?_
   refine rn5 ?_
   refine zC (zEp rfl rfl (by show ([45] : List UInt8).length + _ ≤ _; simp only [List.length_cons, List.length_nil, List.length_append]; omega)) ?_
   refine rn5 ?_
   refine zE rfl rfl rfl h2 ?_
   refine rn5 ?_
   refine zH hR rfl ?_
   simp [zBF]
 · rw [if_pos hn, if_neg hd] at hR
   rw [decide_eq_false hd] at h2
   unfold qA
   rw [decide_eq_true hn]
   refine rn6 ?_
   refine zE rfl rfl rfl h1 ?_
   refine rn5 ?_
   refine zC (zEp rfl rfl (by show ([45] : List UInt8).length + _ ≤ _; simp only [List.length_cons, List.length_nil, List.length_append]; omega)) ?_
   refine rn5 ?_
   refine zE rfl rfl rfl h2 ?_
   refine rn5 ?_
   refine zE rfl rfl rfl h3 ?_
   skip
   refine zC (zEp rfl rfl (by show ([47] : List UInt8).length + _ ≤ _; simp only [List.length_cons, List.length_nil, List.length_append]; omega)) ?_
   refine zC (zEp (b := 47 :: Lib.decDigits q.den) rfl rfl (by simp only [List.length_cons, List.length_nil, List.length_append]; omega)) ?_
   refine rn0 ?_
   refine zH hR rfl ?_
   simp [zBF]
 · rw [if_neg hn, if_pos hd] at hR
   rw [decide_eq_true hd] at h2
   unfold qA
   rw [decide_eq_false hn]
   refine rn6 ?_
   refine zE rfl rfl rfl h1 ?_
   refine rn5 ?_
   refine zE rfl rfl rfl h2 ?_
   refine rn5 ?_
   refine zH hR rfl ?_
   simp [zBF]
 · rw [if_neg hn, if_neg hd] at hR
   rw [decide_eq_false hd] at h2
   unfold qA
   rw [decide_eq_false hn]
   refine rn6 ?_
   refine zE rfl rfl rfl h1 ?_
   refine rn5 ?_
   refine zE rfl rfl rfl h2 ?_
   refine rn5 ?_
   refine zE rfl rfl rfl h3 ?_
   skip
   refine zC (zEp rfl rfl (by show ([47] : List UInt8).length + _ ≤ _; simp only [List.length_cons, List.length_nil, List.length_append]; omega)) ?_
   refine zC (zEp (b := 47 :: Lib.decDigits q.den) rfl rfl (by simp only [List.length_cons, List.length_nil, List.length_append]; omega)) ?_
   refine rn0 ?_
   refine zH hR rfl ?_
   simp [zBF]
end Go.Proofs.YtnkealfaldjipaaGreatDoor
namespace Go.Proofs.YtnkealfaldjipaaGreatDoor
open Go.Ax Go.Ax.Bg Go.Ax.Rt Go.RowKit
attribute [local irreducible] Ax zAM QOp zO zo
set_option maxRecDepth 100000
set_option maxHeartbeats 4000000
theorem zPP {n k m : Nat} (h : k < (zY n).length) (hm : m ≤ 9 * k) : m < (Lib.decDigits n).length := by
 rcases Nat.lt_or_ge m (Lib.decDigits n).length with q | q
 · exact q
 exfalso
 have h1 := zEQ n
 have h2 : 10 ^ (Lib.decDigits n).length ≤ 10 ^ (9 * k) := Nat.pow_le_pow_right (by decide) (by omega)
 have h3 : 10 ^ (9 * k) ≤ B ^ k := by rw [Nat.pow_mul]; exact Nat.pow_le_pow_left (by decide) k
 have h4 : ¬ n < B ^ k := fun h5 => by have := zAp h5; omega
 omega
theorem zLu (q : Rat) (hq : Sz 100000 q) : zW Tryz.prog 136 [qA q, .int .i64 2000] (.bool (zA3 q)) := by
 have h1 := zJN q.num.natAbs (by have := hq.1; omega)
 have h3 := zJN q.den (by have := hq.2; omega)
 have l1 := zDC hq.1 (by decide)
 have l2 := zDC hq.2 (by decide)
 have g1 := hq.1
 have g2 := hq.2
 have b1 := @zPP q.num.natAbs 224 2000
 have b2 := @zPP q.den 224 2000
 unfold zA3
 refine zO.value0 (zF (P := Tryz.prog) (fn := Tryz.f136) rfl rfl (by kernel_rfl) rfl (fun c hR hfix => ?_)) (fix := fun _ => False) (fun _ h => h) rfl rfl
 unfold qA
 unfold zAJ at h1 h3 ⊢
 repeat (first | refine zC (zI rfl) ?_ | refine zC (zK rfl) ?_ | refine zB ?_ | refine zA ?_ | refine zZ ?_ | refine zL rfl ?_ | refine zC (zU rfl rfl rfl rfl rfl) ?_ | refine zC (zJj rfl rfl) ?_ | refine zC (zBE rfl rfl rfl) ?_ | refine zC (zDJ rfl rfl (by omega)) ?_ | refine zC (q_quo rfl rfl (by omega)) ?_ | refine zC (q_max rfl rfl) ?_ | refine zC (zP rfl rfl rfl rfl rfl rfl) ?_ | refine zF9 rfl rfl ?_)
 refine zD rfl (fun h0 => ?_) (fun h0 => ?_)
 · refine rn2 ?_
   refine zH hR rfl ?_
   have h5 : 224 < (zY q.num.natAbs).length ∨ 224 < (zY q.den).length := by
     split at h0 <;> omega
   have h6 : ¬ ((Lib.decDigits q.num.natAbs).length ≤ 2000 ∧ (Lib.decDigits q.den).length ≤ 2000) := by
     rcases h5 with h5 | h5
     · have := b1 h5 (by decide); omega
     · have := b2 h5 (by decide); omega
   rw [← Bool.decide_and, decide_eq_false h6]
   rfl
 · refine rn5 ?_
   refine zE rfl rfl rfl h1 ?_
   repeat (first | refine zC (zI rfl) ?_ | refine zC (zJl rfl rfl) ?_ | refine zC (zCH rfl rfl) ?_)
   refine z8 rfl rfl (fun h5 => ?_) (fun h5 => ?_)
   · refine rn5 ?_
     refine zE rfl rfl rfl h3 ?_
     repeat (first | refine zC (zI rfl) ?_ | refine zC (zK rfl) ?_ | refine zB ?_ | refine zA ?_ | refine zAL rfl rfl ?_ | refine zAQ ?_ | refine zC (zJl rfl rfl) ?_ | refine zC (zAe rfl rfl) ?_ | refine zC (zCH rfl rfl) ?_)
     refine zH hR rfl ?_
     rw [show decide ((Lib.decDigits q.num.natAbs).length ≤ 2000) = true from decide_eq_true (by omega), Bool.true_and]
     show AV.bool _ = AV.bool _
     rw [show decide (((Lib.decDigits q.den).length : Int) ≤ 2000) = decide ((Lib.decDigits q.den).length ≤ 2000) from by rw [decide_eq_decide]; omega]
   · refine rn6 ?_
     refine zH hR rfl ?_
     rw [show decide ((Lib.decDigits q.num.natAbs).length ≤ 2000) = false from decide_eq_false (by omega), Bool.false_and]
     rfl
theorem zMV (q : Rat) (hq : Sz 100000 q) (h : zA3 q = true) : zW Tryz.prog 74 [qA q] (.tup [.str (zt q), .int .i64 0]) := by
 have h1 := zLu q hq
 have h2 := qtext_ok q hq
 rw [h] at h1
 refine zO.value0 (zF (P := Tryz.prog) (fn := Tryz.f74) rfl rfl (by kernel_rfl) rfl (fun c hR hfix => ?_)) (fix := fun _ => False) (fun _ h => h) rfl rfl
 refine rn6 ?_
 refine zE rfl rfl rfl h1 ?_
 refine rn6 ?_
 refine zE rfl rfl rfl h2 ?_
 refine rn0 ?_
 exact zH hR rfl rfl
theorem out_no (q : Rat) (hq : Sz 100000 q) (h : zA3 q = false) : zW Tryz.prog 74 [qA q] (.tup [.str [], .int .i64 2]) := by
 have h1 := zLu q hq
 rw [h] at h1
 refine zO.value0 (zF (P := Tryz.prog) (fn := Tryz.f74) rfl rfl (by kernel_rfl) rfl (fun c hR hfix => ?_)) (fix := fun _ => False) (fun _ h => h) rfl rfl
 refine rn6 ?_
 refine zE rfl rfl rfl h1 ?_
 refine rn5 ?_
 exact zH hR rfl rfl
theorem out_ok (q : Rat) (hq : Sz 100000 q) : zW Tryz.prog 74 [qA q] (pairA (zFI q)) := by
 unfold zFI
 cases h : zA3 q
 · exact out_no q hq h
 · exact zMV q hq h
theorem zLd (s : List UInt8) (hs : s.length ≤ 9223372036854775807) : zW Tryz.prog 30 [.str s] (.int .i64 (zCi s)) := by
 have h1 := cutNeg s (by omega)
 have h2 := cutBar s hs
 obtain ⟨ln, ld⟩ := zRU s
 have h3 := zK1 (zD9 s) (by omega)
 have h4 := zK1 (zD6 s) (by omega)
 have cn := @zC2 (zD9 s)
 have cd := @zC2 (zD6 s)
 unfold zCi
 generalize zD9 s = n at *
 generalize zD6 s = d at *
 generalize zF4 s = ok at *
 generalize zCw s = ng at *
 generalize zEA s = b at *
 generalize zEU n = p at *
 generalize zEU d = q at *
 refine zO.value0 (zF (P := Tryz.prog) (fn := Tryz.f30) rfl rfl (by kernel_rfl) rfl (fun c hR hfix => ?_)) (fix := fun _ => False) (fun _ h => h) rfl rfl
 refine rn0 ?_
 refine zE rfl rfl rfl h1 ?_
 refine rn2 ?_
 refine zE rfl rfl rfl h2 ?_
 repeat (first | refine zC (zI rfl) ?_ | refine zC (zK rfl) ?_ | refine zB ?_ | refine zA ?_ | refine zC (zBQ rfl rfl) ?_)
 by_cases hsyn : p = false ∨ (ok = true ∧ q = false) ∨ (ng = true ∧ n = [48])
 · rw [if_pos hsyn] at hR
   cases p
   · refine rn0 ?_
     refine zE rfl rfl rfl h3 ?_
     repeat (first | refine zC (zI rfl) ?_ | refine zC (zK rfl) ?_ | refine zB ?_ | refine zA ?_ | refine zZ ?_ | refine zL rfl ?_ | refine zCp rfl rfl ?_ | refine zAm rfl rfl rfl ?_ | refine zAV rfl ?_ | refine zAQ ?_ | refine zB0 ?_ | refine zC (zEB rfl) ?_ | refine zC (zAe rfl rfl) ?_)
     exact zH hR rfl rfl
   · cases ok
     · obtain ⟨hng, hn⟩ : ng = true ∧ n = [48] := by simpa using hsyn
       subst hng
       subst hn
       refine rn0 ?_
       refine zE rfl rfl rfl h3 ?_
       refine rn6 ?_
       exact zH hR rfl rfl
     · cases q
       · refine rn0 ?_
         refine zE rfl rfl rfl h3 ?_
         refine rn5 ?_
         refine zE rfl rfl rfl h4 ?_
         repeat (first | refine zC (zI rfl) ?_ | refine zC (zK rfl) ?_ | refine zB ?_ | refine zA ?_ | refine zZ ?_ | refine zL rfl ?_ | refine zAL rfl rfl ?_ | refine zCp rfl rfl ?_ | refine zAm rfl rfl rfl ?_ | refine zAV rfl ?_ | refine zAQ ?_ | refine zB0 ?_ | refine zC (zEB rfl) ?_ | refine zC (zAe rfl rfl) ?_)
         exact zH hR rfl rfl
       · obtain ⟨hng, hn⟩ : ng = true ∧ n = [48] := by simpa using hsyn
         subst hng
         subst hn
         refine rn0 ?_
         refine zE rfl rfl rfl h3 ?_
         refine rn5 ?_
         refine zE rfl rfl rfl h4 ?_
         refine rn6 ?_
         exact zH hR rfl rfl
 rw [if_neg hsyn] at hR
 apply zAv (H := []) [(5, .str n), (6, .str d), (7, .bool ok)]
 · intro fin
   cases p
   · exact absurd (.inl rfl) hsyn
   cases ok
   · cases ng
     · refine rn0 ?_
       refine zE rfl rfl rfl h3 ?_
       repeat (first | refine zC (zI rfl) ?_ | refine zB ?_ | refine zA ?_ | refine zAL rfl rfl ?_ | refine zAm rfl rfl rfl ?_ | refine zx rfl ?_ | refine zi ?_ | refine zC (zEB rfl) ?_ | refine zC (zAe rfl rfl) ?_)
       exact fin _ ⟨rfl, rfl, rfl, trivial⟩
     · refine rn0 ?_
       refine zE rfl rfl rfl h3 ?_
       repeat (first | refine zC (zI rfl) ?_ | refine zB ?_ | refine zA ?_ | refine zAL rfl rfl ?_ | refine zAm rfl rfl rfl ?_ | refine zC (zEB rfl) ?_ | refine zC (zAe rfl rfl) ?_ | refine zC (zFM rfl rfl) ?_)
       refine zD rfl (fun h0 => absurd (.inr (.inr ⟨rfl, h0⟩)) hsyn) (fun h0 => ?_)
       repeat (first | refine zA ?_ | refine zi ?_)
       exact fin _ ⟨rfl, rfl, rfl, trivial⟩
   · cases q
     · exact absurd (.inr (.inl ⟨rfl, rfl⟩)) hsyn
     cases ng
     · refine rn0 ?_
       refine zE rfl rfl rfl h3 ?_
       refine rn5 ?_
       refine zE rfl rfl rfl h4 ?_
       repeat (first | refine zC (zI rfl) ?_ | refine zB ?_ | refine zA ?_ | refine zAL rfl rfl ?_ | refine zAm rfl rfl rfl ?_ | refine zx rfl ?_ | refine zi ?_ | refine zC (zEB rfl) ?_ | refine zC (zAe rfl rfl) ?_)
       exact fin _ ⟨rfl, rfl, rfl, trivial⟩
     · refine rn0 ?_
       refine zE rfl rfl rfl h3 ?_
       refine rn5 ?_
       refine zE rfl rfl rfl h4 ?_
       repeat (first | refine zC (zI rfl) ?_ | refine zB ?_ | refine zA ?_ | refine zAL rfl rfl ?_ | refine zC (zEB rfl) ?_ | refine zC (zAe rfl rfl) ?_ | refine zC (zFM rfl rfl) ?_)
       refine zD rfl (fun h0 => absurd (.inr (.inr ⟨rfl, h0⟩)) hsyn) (fun h0 => ?_)
       repeat (first | refine zA ?_ | refine zi ?_)
       exact fin _ ⟨rfl, rfl, rfl, trivial⟩
 by_cases hl : 2000 < n.length ∨ 2000 < d.length
 · rw [if_pos hl] at hR
   refine rn6 ?_
   refine z8 rfl rfl (fun h5 => ?_) (fun h5 => ?_)
   · refine rn6 ?_
     exact zH hR rfl rfl
   · refine rn6 ?_
     refine zD rfl (fun h0 => ?_) (fun h0 => absurd hl (by omega))
     refine rn2 ?_
     exact zH hR rfl rfl
 rw [if_neg hl] at hR
 refine rn6 ?_
 refine z8 rfl rfl (fun h5 => absurd hl (by omega)) (fun h5 => ?_)
 refine rn6 ?_
 refine zD rfl (fun h0 => absurd hl (by omega)) (fun h0 => ?_)
 cases ok
 · rw [if_neg (fun h => Bool.false_ne_true h.1)] at hR
   repeat (first | refine zC (zI rfl) ?_ | refine zC (zK rfl) ?_ | refine zB ?_ | refine zA ?_ | refine zZ ?_ | refine zL rfl ?_ | refine zCp rfl rfl ?_ | refine zAm rfl rfl rfl ?_ | refine zx rfl ?_ | refine zi ?_ | refine zAQ ?_ | refine zC (zAe rfl rfl) ?_)
   exact zH hR rfl rfl
 have hp : p = true := by cases p; exact absurd (.inl rfl) hsyn; rfl
 have hq : q = true := by cases q; exact absurd (.inr (.inl ⟨rfl, rfl⟩)) hsyn; rfl
 have c1 := cn.1 hp
 have c2 := cd.1 hq
 have h6 := zJM n c1.2.1 (by omega)
 have h7 := zJM d c2.2.1 (by omega)
 have v1 : (zY (zAf 0 n)).length ≤ 2000 := zJH c1 (by omega)
 have v2 : (zY (zAf 0 d)).length ≤ 2000 := zJH c2 (by omega)
 have h8 := gcd_ok (zAf 0 n) (zAf 0 d) (by omega) (by omega)
 have h9 := one_ok (Nat.gcd (zAf 0 n) (zAf 0 d))
 refine rn6 ?_
 refine z8 rfl rfl (fun h10 => ?_) (fun h10 => ?_)
 · rw [if_pos ⟨rfl, .inl h10⟩] at hR
   refine rn6 ?_
   exact zH hR rfl rfl
 · refine rn6 ?_
   refine z8 rfl rfl (fun h11 => ?_) (fun h11 => ?_)
   · rw [if_pos ⟨rfl, .inr (.inl h11)⟩] at hR
     refine rn6 ?_
     exact zH hR rfl rfl
   · by_cases hg : Nat.gcd (zAf 0 n) (zAf 0 d) = 1
     · rw [decide_eq_true hg] at h9
       rw [if_neg (fun h => by rcases h.2 with e | e | e; exact h10 e; exact h11 e; exact e hg)] at hR
       refine rn2 ?_
       refine zE rfl rfl rfl h6 ?_
       refine rn2 ?_
       refine zE rfl rfl rfl h7 ?_
       repeat (refine zAL rfl rfl ?_)
       refine zE rfl rfl rfl h8 ?_
       repeat (refine zAL rfl rfl ?_)
       refine zE rfl rfl rfl h9 ?_
       refine rn5 ?_
       exact zH hR rfl rfl
     · rw [decide_eq_false hg] at h9
       rw [if_pos ⟨rfl, .inr (.inr hg)⟩] at hR
       refine rn2 ?_
       refine zE rfl rfl rfl h6 ?_
       refine rn2 ?_
       refine zE rfl rfl rfl h7 ?_
       repeat (refine zAL rfl rfl ?_)
       refine zE rfl rfl rfl h8 ?_
       repeat (refine zAL rfl rfl ?_)
       refine zE rfl rfl rfl h9 ?_
       refine rn5 ?_
       exact zH hR rfl rfl
end Go.Proofs.YtnkealfaldjipaaGreatDoor
namespace Go.Proofs.YtnkealfaldjipaaGreatDoor
open Go.Ax Go.Ax.Bg Go.Ax.Rt Go.RowKit
attribute [local irreducible] Ax zAM QOp zO zo
set_option maxRecDepth 100000
set_option maxHeartbeats 4000000
theorem zGf {α : Type} {l : List α} {d : α} {k : Nat} (h : k < l.length) : l.drop k = l.getD k d :: l.drop (k + 1) := by
 rw [List.drop_eq_getElem_cons h]; simp [List.getD, h]
theorem zNX (l : List (List UInt8)) (hlen : l.length ≤ 9223372036854775807) (hs : ∀ s ∈ l, s.length ≤ 9223372036854775807) : zW Tryz.prog 88 [.ro (.strs l) 0 l.length] (.int .i64 (zEI l)) := by
 refine zO.value0 (zF (P := Tryz.prog) (fn := Tryz.f88) rfl rfl (by kernel_rfl) rfl (fun c hR hfix => ?_)) (fix := fun _ => False) (fun _ h => h) rfl rfl
 refine rn3 ?_
 refine zg (ι := Nat) (fun k => [(0, .ro (.strs l) 0 l.length), (6, .ro (.strs l) 0 l.length), (7, .int .i64 (l.length : Nat)), (8, .int .i64 (k : Nat))]) (fun _ => [])
   (fun k => k ≤ l.length ∧ zEI l = zEI (l.drop k)) (fun k => l.length - k) 0 ⟨⟨rfl, rfl, rfl, rfl, trivial⟩, rfl, Nat.zero_le _, by rw [List.drop_zero]⟩ ?_
 intro k ⟨hk, hE⟩
 refine rn4 ?_
 refine zD rfl (fun h => ?_) (fun h => ?_)
 · have hk' : k < l.length := by omega
   have hd := zGf (d := []) hk'
   have hc := zLd (l.getD k []) (hs _ (zBH [] hk'))
   rw [hd, zEI] at hE
   repeat (first | refine zC (zI rfl) ?_ | refine zC (zK rfl) ?_ | refine zB ?_ | refine zA ?_ | refine zZ ?_ | refine zL rfl ?_ | refine zw ?_ | refine zi ?_ | refine zC (zEu rfl rfl rfl) ?_ | refine zC (zf rfl rfl rfl rfl (by first | (simp only [Nat.zero_add, Int.toNat_natCast, Int.toNat_zero]; exact rfl) | exact rfl) (by omega)) ?_)
   refine zE rfl rfl rfl hc ?_
   refine rn3 ?_
   refine zD rfl (fun h2 => ?_) (fun h2 => ?_)
   · rw [if_neg h2] at hE
     refine rn6 ?_
     refine zH hR rfl ?_
     rw [hE]; rfl
   · rw [if_pos (Classical.not_not.1 h2)] at hE
     refine rn5 ?_
     refine zM ⟨k + 1, ⟨by omega, hE⟩, by omega, ⟨rfl, rfl, rfl, rfl, trivial⟩, rfl⟩
 · have hk' : k = l.length := by omega
   subst hk'
   rw [List.drop_length] at hE
   refine rn5 ?_
   refine zH hR rfl ?_
   rw [hE]; rfl
theorem sz_v {s : List UInt8} (h : zCi s = 0) : Sz 2000 (zAB s) := by
 have hp := zET h
 refine ⟨?_, ?_⟩
 · rw [hp.num, zEY]; exact zJH hp.cn hp.ln
 · rw [hp.den]
   cases e : zF4 s
   · rw [zGq e, zGd]; decide
   · rw [zFb e]; exact zJH (hp.cd e).1 hp.ld
theorem Sz.mono {j k : Nat} {q : Rat} (h : Sz j q) (hk : j ≤ k) : Sz k q := ⟨Nat.le_trans h.1 hk, Nat.le_trans h.2 hk⟩
theorem sz_frac {n d : Int} {k : Nat} (hd : d ≠ 0) (h1 : (zY n.natAbs).length ≤ k) (h2 : (zY d.natAbs).length ≤ k) : Sz k (Rat.divInt n d) := by
 obtain ⟨e1, e2, _⟩ := zHV n d hd
 refine ⟨?_, ?_⟩
 · rw [e1]; exact zE3 (Nat.div_le_self _ _) h1
 · rw [e2]; exact zE3 (Nat.div_le_self _ _) h2
theorem sz_add {p q : Rat} {k : Nat} (hp : Sz k p) (hq : Sz k q) : Sz (k + k + 1) (p + q) := by
 have l1 : (zY (q.den : Int).natAbs).length ≤ k := hq.2
 have l2 : (zY (p.den : Int).natAbs).length ≤ k := hp.2
 rw [← zJU]
 refine sz_frac (by have := Nat.mul_ne_zero p.den_nz q.den_nz; omega) (zNd (zDQ hp.1 l1) (zDQ hq.1 l2)) ?_
 rw [Int.natAbs_natCast]
 have := zJQ hp.2 hq.2
 omega
end Go.Proofs.YtnkealfaldjipaaGreatDoor
namespace Go.Proofs.YtnkealfaldjipaaGreatDoor
open Go.Ax Go.Ax.Bg Go.Ax.Rt Go.RowKit
attribute [local irreducible] Ax zAM QOp zO zo
set_option maxRecDepth 100000
set_option maxHeartbeats 4000000
section
variable {α : Type}
theorem zNO (d : α) (n : Nat) (e : α → List AV) (ls : List α) (s : α) (cx : Cells) (h0 : ∀ j, j < n → cx.at 0 j = (e s).getD j .any) (i j : Nat) (hi : i < ls.length + 1) (hj : j < n) :
   (bif Nat.blt i ls.length then (zCf d n e ls).at i j else cx.at (0 + (i - ls.length)) j) = (zCf d n e (ls ++ [s])).at i j := by
 rcases Nat.lt_or_ge i ls.length with h | h
 · have e1 : Nat.blt i ls.length = true := by rw [Nat.blt_eq]; exact h
   rw [e1]
   simp only [zCf, Cells.at, cond_true, List.getD, List.getElem?_append_left h]
 · have hie : i = ls.length := by omega
   have e1 : Nat.blt i ls.length = false := by rw [← Bool.not_eq_true, Nat.blt_eq]; omega
   subst hie
   rw [e1]
   simp only [cond_false, Nat.sub_self, Nat.zero_add]
   rw [h0 j hj]
   simp [zCf, Cells.at, List.getD]
theorem zC5 (d : α) (n : Nat) (e : α → List AV) (ls : List α) (s : α) (cx : Cells) (h0 : ∀ j, j < n → cx.at 0 j = (e s).getD j .any) :
   CEq (.fn (ls.length + 1) n (fun i j => bif Nat.blt i ls.length then (zCf d n e ls).at i j else cx.at (0 + (i - ls.length)) j)) (zCf d n e (ls ++ [s])) := by
 refine ⟨by simp [zCf, Cells.len], rfl, fun i j hi hj => ?_⟩
 exact (zNO d n e ls s cx h0 i j hi hj).symm
theorem zDW (d : α) (n : Nat) (e : α → List AV) (hn : ∀ a j h, j < n → ((e a).getD j .any).forget h = (e a).getD j .any) (ls : List α) (s : α) (cx : Cells) (h0 : ∀ j, j < n → cx.at 0 j = (e s).getD j .any) (h i j : Nat) (hi : i < ls.length + 1) (hj : j < n) :
   (bif Nat.blt i ls.length then (zCf d n e ls).at i j else cx.at (0 + (i - ls.length)) j).forget h = (bif Nat.blt i ls.length then (zCf d n e ls).at i j else cx.at (0 + (i - ls.length)) j) := by
 rw [zNO d n e ls s cx h0 i j hi hj]; exact hn _ _ _ hj
theorem zFD {β : Type} (f : α → β) (l : List α) (d : α) (k : Nat) (hk : k < l.length) : (l.take (k + 1)).map f = (l.take k).map f ++ [f (l.getD k d)] := by
 rw [List.take_succ_eq_append_getElem hk, List.map_append]; simp [List.getD, hk]
end
def zAD (q : Rat) : List AV := [.bool (decide (q.num < 0)), zAJ q.num.natAbs, zAJ q.den]
abbrev qsC (l : List Rat) : Cells := zCf 0 3 zAD l
theorem zL1 (q : Rat) (j h : Nat) (hj : j < 3) : ((zAD q).getD j .any).forget h = (zAD q).getD j .any := by
 match j, hj with
 | 0, _ => rfl
 | 1, _ => rfl
 | 2, _ => rfl
theorem zFo (l : List Rat) : z7 (qsC l) := by
 intro i j _ hj
 show noRef ((zAD (l.getD i 0)).getD j .any) = true
 have hj : j < 3 := hj
 match j, hj with
 | 0, _ => rfl
 | 1, _ => rfl
 | 2, _ => rfl
theorem rowQ1 (q : Rat) (j : Nat) (hj : j < 3) : (zED 1 3 [.bool (decide (q.num < 0)), zAJ q.num.natAbs, zAJ q.den]).at 0 j = (zAD q).getD j .any := by
 match j, hj with
 | 0, _ => rfl
 | 1, _ => rfl
 | 2, _ => rfl
theorem in_ok (l : List (List UInt8)) (hlen : l.length ≤ 1000000) (hs : ∀ s ∈ l, s.length ≤ 9223372036854775807 ∧ zCi s = 0) : zW Tryz.prog 104 [.ro (.strs l) 0 l.length] (.ro (qsC (l.map zAB)) 0 l.length) := by
 refine zO.value0 (zF (P := Tryz.prog) (fn := Tryz.f104) rfl rfl (by kernel_rfl) rfl (fun c hR hfix => ?_)) (fix := fun _ => False) (fun _ h => h) rfl rfl
 repeat (first | refine zC (zI rfl) ?_ | refine zC (zK rfl) ?_ | refine zB ?_ | refine zA ?_ | refine zZ ?_ | refine zL rfl ?_ | refine zC (zBE rfl rfl rfl) ?_)
 refine zA1 3 ⟨122, qsC []⟩ rfl rfl ?_
 repeat (refine zw ?_)
 refine zg (ι := Nat) (fun k => [(0, .ro (.strs l) 0 l.length), (3, .sl 0 0 k), (6, .ro (.strs l) 0 l.length), (7, .int .i64 (l.length : Nat)), (8, .int .i64 (k : Nat))]) (fun k => [some ⟨122, qsC ((l.take k).map zAB)⟩])
   (fun k => k ≤ l.length) (fun k => l.length - k) 0 ⟨⟨rfl, rfl, rfl, rfl, rfl, trivial⟩, rfl, Nat.zero_le _⟩ ?_
 intro k hk
 refine rn4 ?_
 refine zD rfl (fun h => ?_) (fun h => ?_)
 · have hk' : k < l.length := by omega
   obtain ⟨b1, b2⟩ := hs _ (zBH [] hk')
   have hc := zFd (l.getD k []) b1 b2
   have htk := zFD zAB l [] k hk'
   have hml : ((l.take k).map zAB).length = k := by rw [List.length_map, List.length_take]; omega
   generalize (l.take k).map zAB = qs at *
   repeat (first | refine zC (zI rfl) ?_ | refine zC (zK rfl) ?_ | refine zB ?_ | refine zA ?_ | refine zZ ?_ | refine zL rfl ?_ | refine zw ?_ | refine zi ?_ | refine zC (zEu rfl rfl rfl) ?_ | refine zC (zf rfl rfl rfl rfl (by first | (simp only [Nat.zero_add, Int.toNat_natCast, Int.toNat_zero]; exact rfl) | exact rfl) (by omega)) ?_)
   refine zE rfl rfl rfl hc ?_
   unfold qA
   repeat (refine zl rfl rfl rfl rfl rfl rfl rfl rfl rfl rfl rfl ?_)
   refine zm rfl rfl rfl rfl rfl rfl rfl rfl rfl hml rfl rfl (by show 0 + 1 ≤ 1; omega) rfl (by show (k + 1) * 56 ≤ _ ∧ _; omega) ?_ (by rw [hfix]; exact fun h => h) ?_
   · intro i' j hi hj
     exact zDW 0 3 zAD zL1 qs (zAB (l.getD k [])) _ (rowQ1 _) 0 i' j hi hj
   repeat (first | refine zC (zK rfl) ?_ | refine zB ?_ | refine za ?_)
   refine zA ?_
   refine zB5 [some ⟨122, qsC ((l.take (k + 1)).map zAB)⟩] ?_ ?_
   · rw [htk]
     exact zAG.eqv (zC5 0 3 zAD qs (zAB (l.getD k [])) _ (rowQ1 _)) zAG.nil
   refine rn3 ?_
   exact zM ⟨k + 1, by omega, by omega, ⟨rfl, rfl, rfl, rfl, rfl, trivial⟩, rfl⟩
 · have hk' : k = l.length := by omega
   subst hk'
   rw [List.take_length]
   repeat (first | refine zA ?_ | refine zZ ?_ | refine zAq ?_ | refine zq ?_ | refine zp ?_ | refine zAH ?_)
   refine zAY 0 3 l.length [] rfl (zFo _) rfl (by show _ ≤ (l.map zAB).length; rw [List.length_map]; exact Nat.le_refl _) trivial ?_
   refine rn0 ?_
   exact zH hR rfl rfl
end Go.Proofs.YtnkealfaldjipaaGreatDoor
namespace Go.Proofs.YtnkealfaldjipaaGreatDoor
open Go.Ax Go.Ax.Bg Go.Ax.Rt Go.RowKit
attribute [local irreducible] Ax zAM QOp zO zo
set_option maxRecDepth 100000
set_option maxHeartbeats 4000000
open Go.Ax.Idx Go.Ax.Cd
theorem zOG (l : List (List UInt8)) (g : FuncId) (caps : List AV) (p : List UInt8 → Bool) (hc : noRef.noRefs caps = true) (hlen : l.length ≤ 9223372036854775807) (hp : ∀ x ∈ l, zW Tryz.prog g ([.str x] ++ caps) (.bool (p x))) :
   zW Tryz.prog 128 [.ro (.strs l) 0 l.length, .fn g caps] (.int .i64 (zCr p l)) := by
 refine zO.value0 (zF (P := Tryz.prog) (fn := Tryz.f128) rfl rfl (by kernel_rfl) rfl (fun c hR hfix => ?_)) (fix := fun _ => False) (fun _ h => h) (by simp [noRef.noRefs, noRef, hc]) rfl
 refine rn3 ?_
 refine zg (ι := Nat) (fun k => [(0, .ro (.strs l) 0 l.length), (1, .fn g caps), (7, .int .i64 (l.length : Nat)), (8, .int .i64 (k : Nat))]) (fun _ => [])
   (fun k => k ≤ l.length ∧ (l.take k).any p = false) (fun k => l.length - k) 0 ⟨⟨rfl, rfl, rfl, rfl, trivial⟩, rfl, Nat.zero_le _, rfl⟩ ?_
 intro k ⟨hk, hany⟩
 refine rn4 ?_
 refine zD rfl (fun h => ?_) (fun h => ?_)
 · have hk' : k < l.length := by omega
   have hanys := zBt p l [] k hk'
   repeat (first | refine zC (zI rfl) ?_ | refine zC (zK rfl) ?_ | refine zB ?_ | refine zA ?_ | refine zZ ?_ | refine zL rfl ?_ | refine zw ?_ | refine zi ?_ | refine zC (zEu rfl rfl rfl) ?_ | refine zC (zf rfl rfl rfl rfl (by first | (simp only [Nat.zero_add, Int.toNat_natCast, Int.toNat_zero]; exact rfl) | exact rfl) (by omega)) ?_)
   refine zE rfl rfl rfl (hp _ (zBH [] hk')) ?_
   refine rn0 ?_
   refine zDM rfl (fun h2 => ?_) (fun h2 => ?_)
   · refine rn6 ?_
     refine zH hR rfl ?_
     have := zBP p l k hany hk
     rw [zBi l [] k hk'] at this
     simp only [zCr, h2, if_true] at this
     rw [this]; simp [zBF]
   · refine rn5 ?_
     refine zM ⟨k + 1, ⟨by omega, by rw [hanys, hany, h2]; rfl⟩, by omega, ⟨rfl, rfl, rfl, rfl, trivial⟩, rfl⟩
 · have hk' : k = l.length := by omega
   subst hk'
   refine rn5 ?_
   refine zH hR rfl ?_
   have := zBP p l l.length hany hk
   rw [List.drop_length] at this
   rw [this]; rfl
theorem zIZ (l : List (List UInt8)) (g : FuncId) (caps : List AV) (p : List UInt8 → Bool) (hc : noRef.noRefs caps = true) (hlen : l.length ≤ 9223372036854775807) (hp : ∀ x ∈ l, zW Tryz.prog g ([.str x] ++ caps) (.bool (p x))) :
   zW Tryz.prog 66 [.ro (.strs l) 0 l.length, .fn g caps] (.bool (l.any p)) := by
 refine zO.value0 (zF (P := Tryz.prog) (fn := Tryz.f66) rfl rfl (by kernel_rfl) rfl (fun c hR hfix => ?_)) (fix := fun _ => False) (fun _ h => h) (by simp [noRef.noRefs, noRef, hc]) rfl
 refine rn0 ?_
 refine zE rfl rfl rfl (zOG l g caps p hc hlen hp) ?_
 repeat (first | refine zC (zK rfl) ?_ | refine zB ?_ | refine zA ?_ | refine zAQ ?_ | refine zC (zCX rfl rfl) ?_)
 refine zH hR rfl ?_
 simp only [zBF, zEr]
theorem ratNeg1 (s : List UInt8) (hs : s.length ≤ 9223372036854775807) : zW Tryz.prog 142 [.str s] (.bool (zCw s)) := by
 have h1 := zJJ s [45] hs (by decide)
 rw [zP9] at h1
 refine zO.value0 (zF (P := Tryz.prog) (fn := Tryz.f142) rfl rfl (by kernel_rfl) rfl (fun c hR hfix => ?_)) (fix := fun _ => False) (fun _ h => h) rfl rfl
 refine rn0 ?_
 refine zE rfl rfl rfl h1 ?_
 refine rn0 ?_
 exact zH hR rfl rfl
theorem zOj (l : List Rat) (hlen : l.length ≤ 1000000) (hs : ∀ q ∈ l, Sz 100000 q) (hall : l.all zA3 = true) : zW Tryz.prog 80 [.ro (qsC l) 0 l.length] (.tup [.ro (.strs (l.map zt)) 0 l.length, .int .i64 0]) := by
 refine zO.value0 (zF (P := Tryz.prog) (fn := Tryz.f80) rfl rfl (by kernel_rfl) rfl (fun c hR hfix => ?_)) (fix := fun _ => False) (fun _ h => h) rfl rfl
 repeat (first | refine zC (zI rfl) ?_ | refine zC (zK rfl) ?_ | refine zB ?_ | refine zA ?_ | refine zZ ?_ | refine zL rfl ?_ | refine zC (zBE rfl rfl rfl) ?_)
 refine zA1 4 ⟨27, .strs []⟩ rfl rfl ?_
 repeat (refine zw ?_)
 refine zg (ι := Nat) (fun k => [(0, .ro (qsC l) 0 l.length), (4, .sl 0 0 k), (9, .ro (qsC l) 0 l.length), (10, .int .i64 (l.length : Nat)), (11, .int .i64 (k : Nat))]) (fun k => [some ⟨27, .strs ((l.take k).map zt)⟩])
   (fun k => k ≤ l.length ∧ (l.drop k).all zA3 = true) (fun k => l.length - k) 0 ⟨⟨rfl, rfl, rfl, rfl, rfl, trivial⟩, rfl, Nat.zero_le _, hall⟩ ?_
 rintro k ⟨hk, hA⟩
 refine rn4 ?_
 refine zD rfl (fun h => ?_) (fun h => ?_)
 · have hk' : k < l.length := by omega
   have hz := hs _ (zBH 0 hk')
   have hd := zGf (d := (0 : Rat)) hk'
   rw [hd, List.all_cons] at hA
   have htk := zFD zt l 0 k hk'
   have hml : ((l.take k).map zt).length = k := by rw [List.length_map, List.length_take]; omega
   generalize hX : (l.take k).map zt = ts at *
   refine rn6 ?_
   refine zN 14 (.agg (zAD (l.getD k 0))) rfl (AEq.of_eq rfl) ?_
   generalize l.getD k 0 = q at *
   refine zQ (c' := .box (zAD q)) rfl rfl rfl rfl rfl Nat.zero_lt_one rfl rfl (fun i' j' hi' hj' => ?_) ?_
   · rw [if_pos (Nat.lt_one_iff.1 hi')]; rfl
   rw [Bool.and_eq_true] at hA
   have hc := zMV q hz hA.1
   refine rn6 ?_
   refine zE rfl rfl rfl hc ?_
   refine rn4 ?_
   refine zm rfl rfl rfl rfl rfl rfl rfl rfl rfl hml rfl rfl (by show 0 + 1 ≤ 1; omega) rfl (by show (k + 1) * 16 ≤ _ ∧ _; omega) (fun i j _ _ => rfl) (by rw [hfix]; exact fun h => h) ?_
   repeat (first | refine zC (zK rfl) ?_ | refine zB ?_ | refine za ?_)
   refine zA ?_
   refine zB5 ([some ⟨27, .strs ((l.take (k + 1)).map zt)⟩] ++ [none]) ?_ ?_
   · rw [htk]
     exact zAG.eqv (CEq.refl _) (zAG.drop zAG.nil)
   refine zEN (H1 := [some ⟨27, .strs ((l.take (k + 1)).map zt)⟩]) rfl (by rw [hfix]; exact fun h => h) ?_
   refine rn3 ?_
   exact zM ⟨k + 1, ⟨by omega, hA.2⟩, by omega, ⟨rfl, rfl, rfl, rfl, rfl, trivial⟩, rfl⟩
 · have hk' : k = l.length := by omega
   subst hk'
   rw [List.take_length]
   repeat (first | refine zA ?_ | refine zZ ?_ | refine zAq ?_ | refine zq ?_ | refine zp ?_ | refine zAH ?_)
   refine zAY 0 4 l.length [] rfl (fun _ _ _ _ => rfl) rfl (by show _ ≤ (l.map zt).length; rw [List.length_map]; exact Nat.le_refl _) trivial ?_
   refine rn0 ?_
   exact zH hR rfl rfl
theorem zRY (l : List Rat) (hlen : l.length ≤ 1000000) (hs : ∀ q ∈ l, Sz 100000 q) (hall : l.all zA3 = false) : zW Tryz.prog 80 [.ro (qsC l) 0 l.length] (.tup [.nil, .int .i64 2]) := by
 refine zO.value0 (zF (P := Tryz.prog) (fn := Tryz.f80) rfl rfl (by kernel_rfl) rfl (fun c hR hfix => ?_)) (fix := fun _ => False) (fun _ h => h) rfl rfl
 repeat (first | refine zC (zI rfl) ?_ | refine zC (zK rfl) ?_ | refine zB ?_ | refine zA ?_ | refine zZ ?_ | refine zL rfl ?_ | refine zC (zBE rfl rfl rfl) ?_)
 refine zA1 4 ⟨27, .strs []⟩ rfl rfl ?_
 repeat (refine zw ?_)
 refine zg (ι := Nat) (fun k => [(0, .ro (qsC l) 0 l.length), (4, .sl 0 0 k), (9, .ro (qsC l) 0 l.length), (10, .int .i64 (l.length : Nat)), (11, .int .i64 (k : Nat))]) (fun k => [some ⟨27, .strs ((l.take k).map zt)⟩])
   (fun k => k ≤ l.length ∧ (l.drop k).all zA3 = false) (fun k => l.length - k) 0 ⟨⟨rfl, rfl, rfl, rfl, rfl, trivial⟩, rfl, Nat.zero_le _, hall⟩ ?_
 rintro k ⟨hk, hA⟩
 refine rn4 ?_
 refine zD rfl (fun h => ?_) (fun h => ?_)
 · have hk' : k < l.length := by omega
   have hz := hs _ (zBH 0 hk')
   have hd := zGf (d := (0 : Rat)) hk'
   rw [hd, List.all_cons] at hA
   have htk := zFD zt l 0 k hk'
   have hml : ((l.take k).map zt).length = k := by rw [List.length_map, List.length_take]; omega
   generalize hX : (l.take k).map zt = ts at *
   refine rn6 ?_
   refine zN 14 (.agg (zAD (l.getD k 0))) rfl (AEq.of_eq rfl) ?_
   generalize l.getD k 0 = q at *
   refine zQ (c' := .box (zAD q)) rfl rfl rfl rfl rfl Nat.zero_lt_one rfl rfl (fun i' j' hi' hj' => ?_) ?_
   · rw [if_pos (Nat.lt_one_iff.1 hi')]; rfl
   cases hf : zA3 q
   · have hc := out_no q hz hf
     refine rn6 ?_
     refine zE rfl rfl rfl hc ?_
     refine rn6 ?_
     exact zH hR rfl rfl
   · have hc := zMV q hz hf
     rw [hf, Bool.true_and] at hA
     refine rn6 ?_
     refine zE rfl rfl rfl hc ?_
     refine rn4 ?_
     refine zm rfl rfl rfl rfl rfl rfl rfl rfl rfl hml rfl rfl (by show 0 + 1 ≤ 1; omega) rfl (by show (k + 1) * 16 ≤ _ ∧ _; omega) (fun i j _ _ => rfl) (by rw [hfix]; exact fun h => h) ?_
     repeat (first | refine zC (zK rfl) ?_ | refine zB ?_ | refine za ?_)
     refine zA ?_
     refine zB5 ([some ⟨27, .strs ((l.take (k + 1)).map zt)⟩] ++ [none]) ?_ ?_
     · rw [htk]
       exact zAG.eqv (CEq.refl _) (zAG.drop zAG.nil)
     refine zEN (H1 := [some ⟨27, .strs ((l.take (k + 1)).map zt)⟩]) rfl (by rw [hfix]; exact fun h => h) ?_
     refine rn3 ?_
     exact zM ⟨k + 1, ⟨by omega, hA⟩, by omega, ⟨rfl, rfl, rfl, rfl, rfl, trivial⟩, rfl⟩
 · have hk' : k = l.length := by omega
   subst hk'
   rw [List.drop_length] at hA
   exact absurd hA (by decide)
end Go.Proofs.YtnkealfaldjipaaGreatDoor
