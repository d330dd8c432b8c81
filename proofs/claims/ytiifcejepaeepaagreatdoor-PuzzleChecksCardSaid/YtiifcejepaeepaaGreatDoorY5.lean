import Derived.Test.YtiifcejepaeepaaGreatDoorProg
import Derived.Shelf.RegionOpenPlain
import Derived.WalkKit
import Derived.Deep.LoopGhost
import Derived.Deep.Draws
import Derived.Lib.Walk
import Derived.Lib.Slices
import Derived.StillTailTactics
import Derived.Lib.LaidTab
import Derived.Lib.ItoaNum
import Derived.Stop.LaidErr
import Derived.Shelf.SlSortCmp.NoneTotal
import Derived.Ground.SlsfProg
import Derived.Shelf.Strconv.AppendIntPublic10
import Derived.Test.YtiifcejepaeepaaGreatDoorY4
set_option linter.unusedVariables false
set_option linter.unusedSimpArgs false
set_option maxRecDepth 100000
set_option maxHeartbeats 4000000
namespace Go.Proofs
open Go.Shelf Go.RowKit Go.Lib Go.Sort
theorem rIsNaN (x : Int) (w : World) : Calls Tryz.prog 80 #[.int .i64 x] w fun e w' => e = .returned (.bool false) ∧ w' = w := by
 go_enter Tryz.func80, Tryz.ntmps80
 go_wp2
 go_ret
 exact ⟨by simp, rfl⟩
theorem zJC (x y : Int) (w : World) : Calls Tryz.prog 100 #[.int .i64 x, .int .i64 y] w fun e w' => e = .returned (.int .i64 (Go.Ax.Gm.cmpI x y)) ∧ w' = w := by
 go_enter Tryz.func100, Tryz.ntmps100
 go_wp2_with (go_at_call 80; refine (rIsNaN _ _).mono ?_; rintro e w' ⟨rfl, hw⟩; rw [hw])
 all_goals (go_ret; refine ⟨?_, rfl⟩; unfold Go.Ax.Gm.cmpI; (repeat' split) <;> first | rfl | (exfalso; omega))
theorem rOr (b : Nat) (x0 x1 x2 : Int) (w : World) (h0 : w.cell? ⟨b, 0, none⟩ = some (.int .i64 x0)) (h1 : w.cell? ⟨b, 1, none⟩ = some (.int .i64 x1)) (h2 : w.cell? ⟨b, 2, none⟩ = some (.int .i64 x2)) :
 Calls Tryz.prog 99 #[.slice (some ⟨b, 0, none⟩) 3 3] w fun e w' => e = .returned (.int .i64 (if x0 ≠ 0 then x0 else if x1 ≠ 0 then x1 else x2)) ∧ w' = w := by
 go_enter Tryz.func99, Tryz.ntmps99
 go_wp2
 go_loopg [8] 3 (fun g s8 wr => ∃ k : Nat, k ≤ 3 ∧ 3 - k ≤ g ∧ s8 = .int .i64 k ∧ wr = w ∧ (0 < k → x0 = 0) ∧ (1 < k → x1 = 0) ∧ (2 < k → x2 = 0))
 case atStart => exact ⟨0, Nat.zero_le _, by omega, rfl, rfl, fun h => absurd h (Nat.not_lt_zero _), fun h => absurd h (Nat.not_lt_zero _), fun h => absurd h (Nat.not_lt_zero _)⟩
 case round =>
  obtain ⟨k, hk, hg, rfl, rfl, z0, z1, z2⟩ := hrel
  match k, hk with
  | 0, _ =>
   by_cases q : x0 = 0
   ·go_wp2
    go_roundg 2
    case measure => omega
    case rel => exact ⟨1, by omega, by omega, by go_num, rfl, fun _ => q, fun h => absurd h (by omega), fun h => absurd h (by omega)⟩
   ·go_wp2
    go_ret
    exact ⟨by first | rfl | rw [if_pos q], rfl⟩
  | 1, _ =>
   have q0 := z0 (by omega)
   by_cases q : x1 = 0
   ·go_wp2
    go_roundg 1
    case measure => omega
    case rel => exact ⟨2, by omega, by omega, by go_num, rfl, fun _ => q0, fun _ => q, fun h => absurd h (by omega)⟩
   ·go_wp2
    go_ret
    exact ⟨by first | rfl | rw [if_neg (fun h => h q0), if_pos q], rfl⟩
  | 2, _ =>
   have q0 := z0 (by omega)
   have q1 := z1 (by omega)
   by_cases q : x2 = 0
   ·go_wp2
    go_roundg 0
    case measure => omega
    case rel => exact ⟨3, by omega, by omega, by go_num, rfl, fun _ => q0, fun _ => q1, fun _ => q⟩
   ·go_wp2
    go_ret
    exact ⟨by first | rfl | rw [if_neg (fun h => h q0), if_neg (fun h => h q1)], rfl⟩
  | 3, _ =>
   have q0 := z0 (by omega)
   have q1 := z1 (by omega)
   have q2 := z2 (by omega)
   go_wp2
   go_ret
   exact ⟨by first | rfl | rw [if_neg (fun h => h q0), if_neg (fun h => h q1), q2], rfl⟩
theorem rClosure (a0 a1 a2 b0 b1 b2 : Int) (W : World) : Calls Tryz.prog 98 #[.agg #[.int .i64 a0, .int .i64 a1, .int .i64 a2], .agg #[.int .i64 b0, .int .i64 b1, .int .i64 b2]] W fun e w' =>
 e = .returned (.int .i64 (if Go.Ax.Gm.cmpI a0 b0 ≠ 0 then Go.Ax.Gm.cmpI a0 b0 else if Go.Ax.Gm.cmpI a1 b1 ≠ 0 then Go.Ax.Gm.cmpI a1 b1 else Go.Ax.Gm.cmpI a2 b2)) ∧ ∃ q os', w' = grow (W.drewN q) os' := by
 have c0 := zJC a0 b0
 have c1 := zJC a1 b1
 have c2 := zJC a2 b2
 generalize Go.Ax.Gm.cmpI a0 b0 = x0 at c0 ⊢
 generalize Go.Ax.Gm.cmpI a1 b1 = x1 at c1 ⊢
 generalize Go.Ax.Gm.cmpI a2 b2 = x2 at c2 ⊢
 have hor := fun b W' h0 h1 h2 => rOr b x0 x1 x2 W' h0 h1 h2
 generalize (if x0 ≠ 0 then x0 else if x1 ≠ 0 then x1 else x2) = res at hor ⊢
 go_enter Tryz.func98, Tryz.ntmps98
 go_wp2_with fail
 refine wp_region_still_tail 15 (by kernel_rfl) (by kernel_rfl) ?_
 simp only [List.take_succ_cons, List.take_zero, List.drop_succ_cons, List.drop_zero]
 change wpStill _ _ (World.drew _) (fun a' => wpList _ _ _ _ a' (World.drew _)) _ _
 generalize hw2 : World.drew _ = w2
 have g0 : w2.cell? ⟨W.heap.size, 0, none⟩ = some (.int .i64 a0) := by rw [← hw2]; simp
 have g1 : w2.cell? ⟨W.heap.size, 1, none⟩ = some (.int .i64 a1) := by rw [← hw2]; simp
 have g2 : w2.cell? ⟨W.heap.size, 2, none⟩ = some (.int .i64 a2) := by rw [← hw2]; simp
 have k0 : w2.cell? ⟨W.heap.size + 1, 0, none⟩ = some (.int .i64 b0) := by rw [← hw2]; simp
 have k1 : w2.cell? ⟨W.heap.size + 1, 1, none⟩ = some (.int .i64 b1) := by rw [← hw2]; simp
 have k2 : w2.cell? ⟨W.heap.size + 1, 2, none⟩ = some (.int .i64 b2) := by rw [← hw2]; simp
 have e2 : ∃ q os', w2 = grow (W.drewN q) os' := ⟨1, _, by rw [← hw2, alloc_eq_grow, alloc_eq_grow, grow_grow]; rfl⟩
 clear hw2
 repeat still_step
 still_call (c0 _)
 repeat still_step
 still_call (c1 _)
 repeat still_step
 still_call (c2 _)
 repeat still_step
 try refine wpStill_nil ?_
 clear c0 c1 c2 g0 g1 g2 k0 k1 k2
 go_wp2_with (go_at_call 99; refine (hor _ _ (by simp) (by simp) (by simp)).mono ?_; rintro e w' ⟨rfl, rfl⟩)
 go_ret
 obtain ⟨q, os, rfl⟩ := e2
 exact ⟨rfl, q, _, by rw [alloc_eq_grow, grow_grow]⟩
end Go.Proofs
namespace Go.Proofs.YtiifcejepaeepaaGreatDoor
open Go.Ax
/-- What the walks of this seat know of the listed variables. -/
def pinG (w : World) : Prop := True
 ∧ Lib.TabIs Tryz.prog w "internal/strconv.uint64pow10" .u64 Lib.pow10Tab
 ∧ True
instance : Pins := ⟨fun w _ => pinG w⟩
theorem zOb {n : String} {w w' : World} (h : ∀ b, b < w.heap.size → w'.heap[b]? = w.heap[b]?) {cs : Array Value} (hv : w.var? Tryz.prog n = some cs) : w'.var? Tryz.prog n = some cs := by
 unfold World.var? at hv ⊢
 cases hg : Tryz.prog.globalNamed n with
 | none => simp [hg] at hv
 | some g =>
  simp only [hg, Option.bind_some] at hv ⊢
  have hlt : g < w.heap.size := by
   rcases Nat.lt_or_ge g w.heap.size with q | q
   ·exact q
   ·have : w.heap[g]? = none := by simp [q]
    simp [this] at hv
  rw [h g hlt]; exact hv
theorem pin_up {W : World} {S : Nat → Prop} (h : pinG W) : zDG W S (fun _ => none) [] := by
 intro w' S' _ _ hb
 have hb' : ∀ b, b < W.heap.size → w'.heap[b]? = W.heap[b]? := fun b hl => hb b hl (by rintro ⟨h, o, s, C, h1, _⟩; simp at h1)
 show pinG w'
 unfold pinG at h ⊢
 obtain ⟨_, h⟩ := h
 obtain ⟨h1, h⟩ := h
 refine ⟨trivial, ?_⟩
 refine ⟨zOb hb' h1, ?_⟩
 trivial
end Go.Proofs.YtiifcejepaeepaaGreatDoor
namespace Go.Proofs.YtiifcejepaeepaaGreatDoor
open Go.Ax Go.Ax.Idx Go.Ax.Cd
attribute [local irreducible] Ax zCM QOp zd
theorem zMZ (l : List Int) (g : FuncId) (caps : List AV) (p : Int → Bool) (hc : noRef.noRefs caps = true) (hlen : l.length ≤ 9223372036854775807) (hp : ∀ x ∈ l, zl Tryz.prog g ([.int .i64 x] ++ caps) (.bool (p x))) :
 zl Tryz.prog 119 [.ro (.ints .i64 l) 0 l.length, .fn g caps] (.int .i64 (zDN p l)) := by
 refine zd.value0 (zN (P := Tryz.prog) (fn := Tryz.f119) J J (by kernel_rfl) J (fun c hR hfix => ?_)) (fix := fun _ => False) (fun _ h => h) (by simp [noRef.noRefs, noRef, hc]) J
 refine rn3 ?_
 refine z8 (ι := Nat) (fun k => [(0, .ro (.ints .i64 l) 0 l.length), (1, .fn g caps), (7, iN l.length), (8, iN k)]) (fun _ => [])
  (fun k => k ≤ l.length ∧ (l.take k).any p = false) (fun k => l.length - k) 0 ⟨⟨rfl, rfl, rfl, rfl, trivial⟩, rfl, Nat.zero_le _, rfl⟩ ?_
 intro k ⟨hk, hany⟩
 refine rn4 ?_
 refine zF J (fun h => ?_) (fun h => ?_)
 ·have hk' : k < l.length := by omega
  have hanys := zBn p l 0 k hk'
  refine rn6 ?_
  refine zP J J J (hp _ (zAN 0 hk')) ?_
  refine rn0 ?_
  refine zAP J (fun h2 => ?_) (fun h2 => ?_)
  ·refine rn6 ?_
   refine zL hR J ?_
   have := zBf p l k hany hk
   rw [zD0 l 0 k hk'] at this
   simp only [zDN, h2, if_true] at this
   rw [this]; simp [zDE]
  ·refine rn5 ?_
   refine zR ⟨k + 1, ⟨by omega, by rw [hanys, hany, h2]; rfl⟩, by omega, ⟨J, J, J, J, trivial⟩, J⟩
 ·have hk' : k = l.length := by omega
  subst hk'
  refine rn5 ?_
  refine zL hR J ?_
  have := zBf p l l.length hany hk
  rw [List.drop_length] at this
  rw [this]; rfl
theorem zHe (l : List Int) (g : FuncId) (caps : List AV) (p : Int → Bool) (hc : noRef.noRefs caps = true) (hlen : l.length ≤ 9223372036854775807) (hp : ∀ x ∈ l, zl Tryz.prog g ([.int .i64 x] ++ caps) (.bool (p x))) :
 zl Tryz.prog 91 [.ro (.ints .i64 l) 0 l.length, .fn g caps] (.bool (l.any p)) := by
 refine zd.value0 (zN (P := Tryz.prog) (fn := Tryz.f91) J J (by kernel_rfl) J (fun c hR hfix => ?_)) (fix := fun _ => False) (fun _ h => h) (by simp [noRef.noRefs, noRef, hc]) J
 refine rn0 ?_
 refine zP J J J (zMZ l g caps p hc hlen hp) ?_
 refine rn8 ?_
 refine zL hR J ?_
 simp only [zDE, zHD]
theorem zMX (l : List Int) (g : FuncId) (caps : List AV) (p : Int → Bool) (hc : noRef.noRefs caps = true) (hlen : l.length ≤ 9223372036854775807) (hp : ∀ x ∈ l, zl Tryz.prog g ([.int .i64 x] ++ caps) (.bool (p x))) :
 zl Tryz.prog 87 [.ro (.ints .i64 l) 0 l.length, .fn g caps] (.int .i64 (zDN p l)) := by
 refine zd.value0 (zN (P := Tryz.prog) (fn := Tryz.f87) J J (by kernel_rfl) J (fun c hR hfix => ?_)) (fix := fun _ => False) (fun _ h => h) (by simp [noRef.noRefs, noRef, hc]) J
 refine rn3 ?_
 refine z8 (ι := Nat) (fun k => [(0, .ro (.ints .i64 l) 0 l.length), (1, .fn g caps), (7, iN l.length), (8, iN k)]) (fun _ => [])
  (fun k => k ≤ l.length ∧ (l.take k).any p = false) (fun k => l.length - k) 0 ⟨⟨rfl, rfl, rfl, rfl, trivial⟩, rfl, Nat.zero_le _, rfl⟩ ?_
 intro k ⟨hk, hany⟩
 refine rn4 ?_
 refine zF J (fun h => ?_) (fun h => ?_)
 ·have hk' : k < l.length := by omega
  have hanys := zBn p l 0 k hk'
  refine rn6 ?_
  refine zP J J J (hp _ (zAN 0 hk')) ?_
  refine rn0 ?_
  refine zAP J (fun h2 => ?_) (fun h2 => ?_)
  ·refine rn6 ?_
   refine zL hR J ?_
   have := zBf p l k hany hk
   rw [zD0 l 0 k hk'] at this
   simp only [zDN, h2, if_true] at this
   rw [this]; simp [zDE]
  ·refine rn5 ?_
   refine zR ⟨k + 1, ⟨by omega, by rw [hanys, hany, h2]; rfl⟩, by omega, ⟨J, J, J, J, trivial⟩, J⟩
 ·have hk' : k = l.length := by omega
  subst hk'
  refine rn5 ?_
  refine zL hR J ?_
  have := zBf p l l.length hany hk
  rw [List.drop_length] at this
  rw [this]; rfl
theorem zNg (l : List Int) (g : FuncId) (caps : List AV) (p : Int → Bool) (hc : noRef.noRefs caps = true) (hlen : l.length ≤ 9223372036854775807) (hp : ∀ x ∈ l, zl Tryz.prog g ([.int .i64 x] ++ caps) (.bool (p x))) :
 zl Tryz.prog 58 [.ro (.ints .i64 l) 0 l.length, .fn g caps] (.bool (l.any p)) := by
 refine zd.value0 (zN (P := Tryz.prog) (fn := Tryz.f58) J J (by kernel_rfl) J (fun c hR hfix => ?_)) (fix := fun _ => False) (fun _ h => h) (by simp [noRef.noRefs, noRef, hc]) J
 refine rn0 ?_
 refine zP J J J (zMX l g caps p hc hlen hp) ?_
 refine rn8 ?_
 refine zL hR J ?_
 simp only [zDE, zHD]
def notOk (e : Int) : Bool := decide (e ≠ 0)
theorem fine1 (n : Int) : zl Tryz.prog 59 [.int .i64 n] (.bool (notOk n)) := by
 refine zd.value0 (zN (P := Tryz.prog) (fn := Tryz.f59) J J (by kernel_rfl) J (fun c hR hfix => ?_)) (fix := fun _ => False) (fun _ h => h) J J
 refine rn3 ?_
 refine zL hR J ?_
 simp [zDE, notOk]
theorem fineI (l : List Int) (hlen : l.length ≤ 1000) : zl Tryz.prog 22 [.ro (.ints .i64 l) 0 l.length] (.bool (!(l.any notOk))) := by
 refine zd.value0 (zN (P := Tryz.prog) (fn := Tryz.f22) J J (by kernel_rfl) J (fun c hR hfix => ?_)) (fix := fun _ => False) (fun _ h => h) J J
 refine rn0 ?_
 refine zP J J J (zNg l 59 [] notOk J (by omega) (fun x _ => fine1 x)) ?_
 refine rn5 ?_
 exact zL hR J J
theorem zLM (l : List Int) (hl : l.length ≤ 1000000) : zHy Tryz.prog 63 [.ro (.ints .i64 l) 0 l.length] (fun N => .sl N 0 l.length) ⟨3, .ints .i64 l⟩ := by
 refine zd.fresh (K := fun r H => r = .sl 0 0 l.length ∧ H = [some ⟨3, .ints .i64 l⟩]) (zN (P := Tryz.prog) (fn := Tryz.f63) J J (by kernel_rfl) J (fun c hR hfix => ?_)) (fix := fun _ => False) (fun _ h => h) J (fun H => ⟨J, by simp [zGd, inB]⟩) ?_
 ·refine rn0 ?_
  refine zIY J J J (fun b hb => ?_)
  refine rn0 ?_
  refine zAP J (fun h => ?_) (fun h => ?_)
  ·have := hb h
   have hn : l = [] := List.length_eq_zero_iff.mp this
   subst hn
   refine rn7 ?_
   refine zBq 2 ⟨3, .ints .i64 []⟩ J J ?_
   refine rn2 ?_
   exact zL hR J ⟨J, J⟩
  ·refine rn1 ?_
   refine zDS J J J J J J J J J J ?_
   refine zBJ [some ⟨3, .ints .i64 []⟩] (zAs.eqv ⟨J, J, fun i j hi => absurd hi (Nat.not_lt_zero _)⟩ zAs.nil) ?_
   repeat (refine zA (zG rfl) ?_)
   refine zAj J J J J J J J J J J J J (by show 0 + l.length ≤ l.length; omega) J (by show (0 + l.length) * 8 ≤ _ ∧ _; omega) (fun i j _ _ => rfl) (by rw [hfix]; exact fun h => h) ?_
   refine rn0 ?_
   refine zL hR J ⟨?_, ?_⟩
   ·show AV.sl 0 0 (0 + l.length) = _; rw [Nat.zero_add]
   ·show ([some ⟨3, .ints .i64 ([] ++ List.take l.length (List.drop 0 l))⟩] : zQ) = _
    simp
 ·rintro r H ⟨rfl, rfl⟩
  refine ⟨?_, fun h o ho => zEN zAR h o ho, 0, J, fun n => rfl⟩
  intro o ho; simp at ho; subst ho; show 0 + l.length ≤ l.length; omega
end Go.Proofs.YtiifcejepaeepaaGreatDoor
namespace Go.Proofs.YtiifcejepaeepaaGreatDoor
open Go.Ax Go.Ax.Gm Go.RowKit Go.Ax.Idx Go.Ax.Cd
attribute [local irreducible] Ax zCM QOp zd
theorem zLf (l : List Go.Ax.Gm.Pc) (m : Nat) (g : FuncId) (caps : List AV) (p : Go.Ax.Gm.Pc → Bool) (hm : m ≤ l.length) (hc : noRef.noRefs caps = true) (hlen : l.length ≤ 9223372036854775807) (hp : ∀ x ∈ l, zl Tryz.prog g ([.agg (pcC x)] ++ caps) (.bool (p x))) :
 zl Tryz.prog 127 [.ro (zAi l) 0 m, .fn g caps] (.int .i64 (zDN p (l.take m))) := by
 refine zd.value0 (zN (P := Tryz.prog) (fn := Tryz.f127) J J (by kernel_rfl) J (fun c hR hfix => ?_)) (fix := fun _ => False) (fun _ h => h) (by simp [noRef.noRefs, noRef, hc]) J
 have hlt : (l.take m).length = m := by rw [List.length_take]; omega
 refine rn3 ?_
 refine z8 (ι := Nat) (fun k => [(0, .ro (zAi l) 0 m), (1, .fn g caps), (7, iN m), (8, iN k)]) (fun _ => [])
  (fun k => k ≤ m ∧ ((l.take m).take k).any p = false) (fun k => m - k) 0 ⟨⟨rfl, rfl, rfl, rfl, trivial⟩, rfl, Nat.zero_le _, rfl⟩ ?_
 intro k ⟨hk, hany⟩
 refine rn4 ?_
 refine zF J (fun h => ?_) (fun h => ?_)
 ·have hk' : k < m := by omega
  have hkl : k < l.length := by omega
  have hg : (l.take m).getD k pc0 = l.getD k pc0 := by simp [List.getD, hk', hkl]
  have hanys := zBn p (l.take m) pc0 k (by omega)
  rw [hg] at hanys
  refine rn6 ?_
  refine zP J J J (hp _ (zAN pc0 hkl)) ?_
  refine rn0 ?_
  refine zAP J (fun h2 => ?_) (fun h2 => ?_)
  ·refine rn6 ?_
   refine zL hR J ?_
   have := zBf p (l.take m) k hany (by omega)
   rw [zD0 (l.take m) pc0 k (by omega), hg] at this
   simp only [zDN, h2, if_true] at this
   rw [this]; simp [zDE]
  ·refine rn5 ?_
   refine zR ⟨k + 1, ⟨by omega, by rw [hanys, hany, h2]; rfl⟩, by omega, ⟨J, J, J, J, trivial⟩, J⟩
 ·have hk' : k = m := by omega
  subst hk'
  refine rn5 ?_
  refine zL hR J ?_
  have := zBf p (l.take k) k hany (by omega)
  rw [List.drop_of_length_le (by omega)] at this
  rw [this]; rfl
theorem zMT (l : List Go.Ax.Gm.Pc) (m : Nat) (g : FuncId) (caps : List AV) (p : Go.Ax.Gm.Pc → Bool) (hm : m ≤ l.length) (hc : noRef.noRefs caps = true) (hlen : l.length ≤ 9223372036854775807) (hp : ∀ x ∈ l, zl Tryz.prog g ([.agg (pcC x)] ++ caps) (.bool (p x))) :
 zl Tryz.prog 117 [.ro (zAi l) 0 m, .fn g caps] (.bool ((l.take m).any p)) := by
 refine zd.value0 (zN (P := Tryz.prog) (fn := Tryz.f117) J J (by kernel_rfl) J (fun c hR hfix => ?_)) (fix := fun _ => False) (fun _ h => h) (by simp [noRef.noRefs, noRef, hc]) J
 refine rn0 ?_
 refine zP J J J (zLf l m g caps p hm hc hlen hp) ?_
 refine rn8 ?_
 refine zL hR J ?_
 simp only [zDE, zHD]
theorem zLd (l : List Go.Ax.Gm.En) (m : Nat) (g : FuncId) (caps : List AV) (p : Go.Ax.Gm.En → Bool) (hm : m ≤ l.length) (hc : noRef.noRefs caps = true) (hlen : l.length ≤ 9223372036854775807) (hp : ∀ x ∈ l, zl Tryz.prog g ([.agg (enC x)] ++ caps) (.bool (p x))) :
 zl Tryz.prog 82 [.ro (zE8 l) 0 m, .fn g caps] (.int .i64 (zDN p (l.take m))) := by
 refine zd.value0 (zN (P := Tryz.prog) (fn := Tryz.f82) J J (by kernel_rfl) J (fun c hR hfix => ?_)) (fix := fun _ => False) (fun _ h => h) (by simp [noRef.noRefs, noRef, hc]) J
 have hlt : (l.take m).length = m := by rw [List.length_take]; omega
 refine rn3 ?_
 refine z8 (ι := Nat) (fun k => [(0, .ro (zE8 l) 0 m), (1, .fn g caps), (7, iN m), (8, iN k)]) (fun _ => [])
  (fun k => k ≤ m ∧ ((l.take m).take k).any p = false) (fun k => m - k) 0 ⟨⟨rfl, rfl, rfl, rfl, trivial⟩, rfl, Nat.zero_le _, rfl⟩ ?_
 intro k ⟨hk, hany⟩
 refine rn4 ?_
 refine zF J (fun h => ?_) (fun h => ?_)
 ·have hk' : k < m := by omega
  have hkl : k < l.length := by omega
  have hg : (l.take m).getD k en0 = l.getD k en0 := by simp [List.getD, hk', hkl]
  have hanys := zBn p (l.take m) en0 k (by omega)
  rw [hg] at hanys
  refine rn6 ?_
  refine zP J J J (hp _ (zAN en0 hkl)) ?_
  refine rn0 ?_
  refine zAP J (fun h2 => ?_) (fun h2 => ?_)
  ·refine rn6 ?_
   refine zL hR J ?_
   have := zBf p (l.take m) k hany (by omega)
   rw [zD0 (l.take m) en0 k (by omega), hg] at this
   simp only [zDN, h2, if_true] at this
   rw [this]; simp [zDE]
  ·refine rn5 ?_
   refine zR ⟨k + 1, ⟨by omega, by rw [hanys, hany, h2]; rfl⟩, by omega, ⟨J, J, J, J, trivial⟩, J⟩
 ·have hk' : k = m := by omega
  subst hk'
  refine rn5 ?_
  refine zL hR J ?_
  have := zBf p (l.take k) k hany (by omega)
  rw [List.drop_of_length_le (by omega)] at this
  rw [this]; rfl
theorem zLe (l : List Go.Ax.Gm.Mv) (m : Nat) (g : FuncId) (caps : List AV) (p : Go.Ax.Gm.Mv → Bool) (hm : m ≤ l.length) (hc : noRef.noRefs caps = true) (hlen : l.length ≤ 9223372036854775807) (hp : ∀ x ∈ l, zl Tryz.prog g ([.agg (mvC x)] ++ caps) (.bool (p x))) :
 zl Tryz.prog 71 [.ro (zAy l) 0 m, .fn g caps] (.int .i64 (zDN p (l.take m))) := by
 refine zd.value0 (zN (P := Tryz.prog) (fn := Tryz.f71) J J (by kernel_rfl) J (fun c hR hfix => ?_)) (fix := fun _ => False) (fun _ h => h) (by simp [noRef.noRefs, noRef, hc]) J
 have hlt : (l.take m).length = m := by rw [List.length_take]; omega
 refine rn3 ?_
 refine z8 (ι := Nat) (fun k => [(0, .ro (zAy l) 0 m), (1, .fn g caps), (7, iN m), (8, iN k)]) (fun _ => [])
  (fun k => k ≤ m ∧ ((l.take m).take k).any p = false) (fun k => m - k) 0 ⟨⟨rfl, rfl, rfl, rfl, trivial⟩, rfl, Nat.zero_le _, rfl⟩ ?_
 intro k ⟨hk, hany⟩
 refine rn4 ?_
 refine zF J (fun h => ?_) (fun h => ?_)
 ·have hk' : k < m := by omega
  have hkl : k < l.length := by omega
  have hg : (l.take m).getD k mv0 = l.getD k mv0 := by simp [List.getD, hk', hkl]
  have hanys := zBn p (l.take m) mv0 k (by omega)
  rw [hg] at hanys
  refine rn6 ?_
  refine zP J J J (hp _ (zAN mv0 hkl)) ?_
  refine rn0 ?_
  refine zAP J (fun h2 => ?_) (fun h2 => ?_)
  ·refine rn6 ?_
   refine zL hR J ?_
   have := zBf p (l.take m) k hany (by omega)
   rw [zD0 (l.take m) mv0 k (by omega), hg] at this
   simp only [zDN, h2, if_true] at this
   rw [this]; simp [zDE]
  ·refine rn5 ?_
   refine zR ⟨k + 1, ⟨by omega, by rw [hanys, hany, h2]; rfl⟩, by omega, ⟨J, J, J, J, trivial⟩, J⟩
 ·have hk' : k = m := by omega
  subst hk'
  refine rn5 ?_
  refine zL hR J ?_
  have := zBf p (l.take k) k hany (by omega)
  rw [List.drop_of_length_le (by omega)] at this
  rw [this]; rfl
/-- rules.within -/
theorem zA3 (n a b : Int) : zl Tryz.prog 89 [.int .i64 n, .int .i64 a, .int .i64 b] (.bool (within n a b)) := by
 refine zd.value0 (zN (P := Tryz.prog) (fn := Tryz.f89) J J (by kernel_rfl) J (fun c hR hfix => ?_)) (fix := fun _ => False) (fun _ h => h) J J
 refine rn7 ?_
 refine zo J J (fun h => ?_) (fun h => ?_)
 ·refine rn8 ?_
  refine zL hR J ?_
  have h : a ≤ n := h
  unfold within; rw [decide_eq_true h]; rfl
 ·refine rn6 ?_
  refine zL hR J ?_
  have h : ¬ a ≤ n := h
  unfold within; rw [decide_eq_false h]; rfl
/-- rules.Name -/
theorem name_ok (s : zDU) (hs : s.length ≤ 9223372036854775807) : zl Tryz.prog 88 [.str s] (.bool (zKD s)) := by
 refine zd.value0 (zN (P := Tryz.prog) (fn := Tryz.f88) J J (by kernel_rfl) J (fun c hR hfix => ?_)) (fix := fun _ => False) (fun _ h => h) J J
 refine rn6 ?_
 refine z8 (ι := Nat) (fun k => [(0, .str s), (6, iN s.length), (7, iN k)]) (fun _ => [])
  (fun k => k ≤ s.length ∧ (List.range k).all (zGR s) = true) (fun k => s.length - k) 0 ⟨⟨rfl, rfl, rfl, trivial⟩, rfl, Nat.zero_le _, rfl⟩ ?_
 intro k ⟨hk, hall⟩
 refine rn4 ?_
 refine zF J (fun h => ?_) (fun h => ?_)
 ·have hk' : k < s.length := by omega
  have hall' : (List.range (k + 1)).all (zGR s) = ((List.range k).all (zGR s) && zGR s k) := by rw [List.range_succ, List.all_append]; simp
  rw [hall, Bool.true_and] at hall'
  have hnat : (s.getD k 0).toNat = (s.getD ((k : Int).toNat) 0).toNat := rfl
  have bad : ((s.getD k 0).toNat < 65 ∨ 90 < (s.getD k 0).toNat) → (k = 0 ∨ (s.getD k 0).toNat < 48 ∨ 57 < (s.getD k 0).toNat) → zKD s = false := fun h1 h2 => by
   have : zGR s k = false := by
    unfold zGR isCap isNum
    rw [Bool.or_eq_false_iff, Bool.and_eq_false_iff, Bool.and_eq_false_iff, decide_eq_false_iff_not, decide_eq_false_iff_not, decide_eq_false_iff_not, Bool.and_eq_false_iff, decide_eq_false_iff_not, decide_eq_false_iff_not]
    omega
   unfold zKD
   rw [show (List.range s.length).all (zGR s) = false from Bool.eq_false_iff.2 (fun q => by rw [List.all_eq_true.1 q k (List.mem_range.2 hk')] at this; cases this)]
   rfl
  have good : ((65 ≤ (s.getD k 0).toNat ∧ (s.getD k 0).toNat ≤ 90) ∨ (k ≠ 0 ∧ 48 ≤ (s.getD k 0).toNat ∧ (s.getD k 0).toNat ≤ 57)) → zGR s k = true := fun h => by
   unfold zGR isCap isNum
   rw [Bool.or_eq_true, Bool.and_eq_true, Bool.and_eq_true, Bool.and_eq_true, decide_eq_true_eq, decide_eq_true_eq, decide_eq_true_eq, decide_eq_true_eq, decide_eq_true_eq]
   exact h
  refine zBx ?_
  refine zo J J (fun h1 => ?_) (fun h1 => ?_)
  ·repeat (first | refine zA (zG rfl) ?_ | refine zA (zO rfl) ?_ | refine zC ?_ | refine zB ?_ | refine zY ?_ | refine zJ rfl ?_ | refine zr rfl rfl ?_ | refine zA (q_leq rfl rfl) ?_ | refine zA (zEK rfl) ?_ | refine zA (zg rfl rfl) ?_ | refine zA (zEL rfl rfl rfl (by first | assumption | omega | simp)) ?_)
   refine zAz J J (fun h2 => ?_) (fun h2 => ?_)
   ·rw [Bool.not_eq_true', decide_eq_false_iff_not] at h2
    refine rn4 ?_
    refine zo J J (fun h5 => ?_) (fun h5 => ?_)
    ·refine rn6 ?_
     refine zL hR J ?_
     exact congrArg AV.bool (bad (.inr (by omega)) (.inl (by omega))).symm
    ·repeat (first | refine zA (zG rfl) ?_ | refine zr rfl rfl ?_ | refine zA (zCE rfl rfl) ?_ | refine zA (zg rfl rfl) ?_ | refine zA (zEL rfl rfl rfl (by first | assumption | omega | simp)) ?_)
     refine zo J J (fun h6 => ?_) (fun h6 => ?_)
     ·refine rn6 ?_
      refine zL hR J ?_
      exact congrArg AV.bool (bad (.inr (by omega)) (.inr (.inl (by omega)))).symm
     ·repeat (first | refine zA (zG rfl) ?_ | refine zC ?_ | refine zB ?_ | refine zr rfl rfl ?_ | refine zA (zCY rfl rfl) ?_ | refine zA (zg rfl rfl) ?_ | refine zA (zEL rfl rfl rfl (by first | assumption | omega | simp)) ?_)
      refine zF J (fun h7 => ?_) (fun h7 => ?_)
      ·refine rn6 ?_
       refine zL hR J ?_
       exact congrArg AV.bool (bad (.inr (by omega)) (.inr (.inr (by omega)))).symm
      ·refine rn5 ?_
       exact zR ⟨k + 1, ⟨by omega, by rw [hall']; exact good (.inr ⟨by omega, by omega, by omega⟩)⟩, by omega, ⟨J, J, J, trivial⟩, J⟩
   ·rw [Bool.not_eq_false', decide_eq_true_eq] at h2
    refine rn14 ?_
    exact zR ⟨k + 1, ⟨by omega, by rw [hall']; exact good (.inl ⟨by omega, by omega⟩)⟩, by omega, ⟨J, J, J, trivial⟩, J⟩
  ·refine rn6 ?_
   refine zo J J (fun h5 => ?_) (fun h5 => ?_)
   ·refine rn6 ?_
    refine zL hR J ?_
    exact congrArg AV.bool (bad (.inl (by omega)) (.inl (by omega))).symm
   ·repeat (first | refine zA (zG rfl) ?_ | refine zr rfl rfl ?_ | refine zA (zCE rfl rfl) ?_ | refine zA (zg rfl rfl) ?_ | refine zA (zEL rfl rfl rfl (by first | assumption | omega | simp)) ?_)
    refine zo J J (fun h6 => ?_) (fun h6 => ?_)
    ·refine rn6 ?_
     refine zL hR J ?_
     exact congrArg AV.bool (bad (.inl (by omega)) (.inr (.inl (by omega)))).symm
    ·repeat (first | refine zA (zG rfl) ?_ | refine zC ?_ | refine zB ?_ | refine zr rfl rfl ?_ | refine zA (zCY rfl rfl) ?_ | refine zA (zg rfl rfl) ?_ | refine zA (zEL rfl rfl rfl (by first | assumption | omega | simp)) ?_)
     refine zF J (fun h7 => ?_) (fun h7 => ?_)
     ·refine rn6 ?_
      refine zL hR J ?_
      exact congrArg AV.bool (bad (.inl (by omega)) (.inr (.inr (by omega)))).symm
     ·refine rn5 ?_
      exact zR ⟨k + 1, ⟨by omega, by rw [hall']; exact good (.inr ⟨by omega, by omega, by omega⟩)⟩, by omega, ⟨J, J, J, trivial⟩, J⟩
 ·have hk' : k = s.length := by omega
  subst hk'
  repeat (first | refine zA (zG rfl) ?_ | refine zB ?_ | refine zY ?_ | refine zJ rfl ?_ | refine zCm ?_ | refine zAr ?_ | refine zAq ?_ | refine zA5 ?_ | refine zA (zHM rfl rfl) ?_)
  refine zo J J (fun h1 => ?_) (fun h1 => ?_)
  ·refine rn8 ?_
   refine zL hR J ?_
   have h1 : ¬ s = [] := h1
   unfold zKD
   rw [hall, Bool.true_and, decide_eq_true (p := s ≠ []) h1, Bool.true_and]
   exact congrArg AV.bool (decide_eq_decide.2 (by omega))
  ·refine rn6 ?_
   refine zL hR J ?_
   have h1 : s = [] := Classical.not_not.1 h1
   rw [h1]; rfl
/-- rules.pieces$1 -/
theorem zMj (q p : Pc) : zl Tryz.prog 118 [.agg (pcC q), .rp (.box (pcC p)) 0 0] (.bool (decide (q.letter = p.letter))) := by
 refine zd.value0 (zN (P := Tryz.prog) (fn := Tryz.f118) J J (by kernel_rfl) J (fun c hR hfix => ?_)) (fix := fun _ => False) (fun _ h => h) J J
 repeat (first | refine zA (zO rfl) ?_ | refine zC ?_ | refine zB ?_ | refine zY ?_ | refine zJ rfl ?_ | refine zAA ?_ | refine zA (zU rfl rfl rfl rfl rfl) ?_ | refine zA (zBR rfl rfl) ?_ | refine zA (zD rfl rfl rfl rfl) ?_ | refine zA (zM rfl rfl rfl rfl rfl rfl) ?_ | refine zA (zK rfl rfl rfl rfl rfl rfl) ?_ | refine zAO rfl rfl ?_)
 exact zL hR J J
/-- rules.pieces -/
theorem zN8 (r : Go.Ax.Gm.Rules) (hr : Lens r) : zl Tryz.prog 90 [ruA r] (.int .i64 (zCp r.pcs)) := by
 refine zd.value0 (zN (P := Tryz.prog) (fn := Tryz.f90) J J (by kernel_rfl) J (fun c hR hfix => ?_)) (fix := fun _ => False) (fun _ h => h) J J
 have hpl := hr.pcs
 refine zY ?_
 repeat (first | refine zA (zO rfl) ?_ | refine zC ?_ | refine zB ?_ | refine zJ rfl ?_ | refine zAO rfl rfl ?_)
 refine zB0 1 [(2, .int .i64 0)] J ⟨J, J, trivial⟩ ⟨J, trivial⟩ J hfix ?_
 refine zBx ?_
 refine zF J (fun h => ?_) (fun h => ?_)
 ·refine rn2 ?_
  refine zL hR J ?_
  unfold zCp; rw [if_pos (by omega)]; rfl
 repeat (first | refine zC ?_ | refine zB ?_ | refine zY ?_ | refine zJ rfl ?_ | refine zAQ ?_ | refine zA (zCY rfl rfl) ?_ | refine zA (zAx rfl rfl rfl) ?_ | refine zA (zD rfl rfl rfl rfl) ?_ | refine zA (zK rfl rfl rfl rfl rfl rfl) ?_)
 refine zF J (fun h1 => ?_) (fun h1 => ?_)
 ·refine rn2 ?_
  refine zL hR J ?_
  unfold zCp; rw [if_neg (by omega), if_pos (by omega)]; rfl
 refine zBx ?_
 refine z8 (ι := Nat) (fun k => [(1, .rp (.box (ruC r)) 0 0), (16, .ro (zAi r.pcs) 0 r.pcs.length), (17, iN r.pcs.length), (18, iN k)]) (fun _ => [])
  (fun k => k ≤ r.pcs.length ∧ upE (zC9 r.pcs) k = 0) (fun k => r.pcs.length - k) 0 ⟨⟨rfl, rfl, rfl, rfl, trivial⟩, rfl, Nat.zero_le _, rfl⟩ ?_
 intro k ⟨hk, hup⟩
 refine rn4 ?_
 refine zF J (fun h2 => ?_) (fun h2 => ?_)
 ·have hk' : k < r.pcs.length := by omega
  have done : ∀ e, zC9 r.pcs k = e → e ≠ 0 → zCp r.pcs = e := fun e he hne => by
   unfold zCp
   rw [if_neg (by omega), if_neg (by omega), zJW hup (by rw [he]; exact hne) hk', he]
  generalize hp : r.pcs.getD k pc0 = p
  have hpw := hr.ways p (by rw [← hp]; exact zAN pc0 hk')
  refine zFu ?_
  refine rn8 ?_
  refine zb (pcC p) J J J J J (by rw [← hp]; rfl) J ?_
  refine rn0 ?_
  refine zB0 4 [(1, .rp (.box (ruC r)) 0 0), (16, .ro (zAi r.pcs) 0 r.pcs.length), (17, iN r.pcs.length), (18, iN k), (3, iN k)] J ⟨J, J, J, J, J, J, trivial⟩ ⟨J, J, J, J, J, trivial⟩ J hfix ?_
  repeat (first | refine zA (zG rfl) ?_ | refine zY ?_ | refine zJ rfl ?_ | refine zAc ?_ | refine zA (zCE rfl rfl) ?_ | refine zA (zD rfl rfl rfl rfl) ?_ | refine zA (zK rfl rfl rfl rfl rfl rfl) ?_)
  refine zo J J (fun h3 => ?_) (fun h3 => ?_)
  ·refine rn6 ?_
   refine zL hR J ?_
   rw [done 6 (by unfold zC9; rw [hp, if_pos (.inl h3)]) (by decide)]; rfl
  refine zBA ?_
  refine zF J (fun h4 => ?_) (fun h4 => ?_)
  ·refine rn6 ?_
   refine zL hR J ?_
   rw [done 6 (by unfold zC9; rw [hp, if_pos (.inr h4)]) (by decide)]; rfl
  repeat (first | refine zA (zG rfl) ?_ | refine zY ?_ | refine zJ rfl ?_ | refine zA (zGl rfl rfl rfl rfl rfl rfl rfl (by omega)) ?_ | refine zA (zD rfl rfl rfl rfl) ?_ | refine zA (zCj rfl) ?_ | refine zA (zK rfl rfl rfl rfl rfl rfl) ?_)
  refine zP J J J (zMT r.pcs k 118 [.rp (.box (pcC p)) 0 0] (fun q => decide (q.letter = p.letter)) (by omega) J hpl (fun q _ => zMj q p)) ?_
  refine rn0 ?_
  refine zAP J (fun h5 => ?_) (fun h5 => ?_)
  ·refine rn6 ?_
   refine zL hR J ?_
   rw [done 7 (by unfold zC9; rw [hp, if_neg (by omega), if_pos h5]) (by decide)]; rfl
  have h5 : ¬ ((r.pcs.take k).any (fun q => decide (q.letter = p.letter)) = true) := by rw [h5]; exact Bool.false_ne_true
  refine zBx ?_
  refine zP J J J (zA3 _ _ _) ?_
  refine rn5 ?_
  refine zAz J J (fun h6 => ?_) (fun h6 => ?_)
  ·refine rn6 ?_
   refine zL hR J ?_
   rw [Bool.not_eq_true'] at h6
   rw [done 4 (by unfold zC9; rw [hp, if_neg (by omega), if_neg h5, if_pos (fun q => by rw [h6] at q; exact Bool.false_ne_true q.1)]) (by decide)]; rfl
  rw [Bool.not_eq_false'] at h6
  refine zBA ?_
  refine zP J J J (zA3 _ _ _) ?_
  refine rn5 ?_
  refine zAP J (fun h7 => ?_) (fun h7 => ?_)
  ·refine rn6 ?_
   refine zL hR J ?_
   rw [Bool.not_eq_true'] at h7
   rw [done 4 (by unfold zC9; rw [hp, if_neg (by omega), if_neg h5, if_pos (fun q => by rw [h7] at q; exact Bool.false_ne_true q.2)]) (by decide)]; rfl
  rw [Bool.not_eq_false'] at h7
  have h67 : ¬ ¬ (within p.hand 0 64 = true ∧ within p.promote 0 r.pcs.length = true) := fun q => q ⟨h6, h7⟩
  repeat (first | refine zA (zO rfl) ?_ | refine zC ?_ | refine zB ?_ | refine zY ?_ | refine zJ rfl ?_ | refine zA (zCY rfl rfl) ?_ | refine zA (zAx rfl rfl rfl) ?_ | refine zA (zD rfl rfl rfl rfl) ?_ | refine zA (zK rfl rfl rfl rfl rfl rfl) ?_)
  refine zF J (fun h8 => ?_) (fun h8 => ?_)
  ·refine rn6 ?_
   refine zL hR J ?_
   rw [done 2 (by unfold zC9; rw [hp, if_neg (by omega), if_neg h5, if_neg h67, if_pos (by omega)]) (by decide)]; rfl
  have bad : p.ways.all zET = false → zCp r.pcs = 4 := fun q => done 4 (by unfold zC9; rw [hp, if_neg (by omega), if_neg h5, if_neg h67, if_neg (by omega), if_pos q]) (by decide)
  refine zBx ?_
  refine z8 (ι := Nat) (fun j => [(1, .rp (.box (ruC r)) 0 0), (16, .ro (zAi r.pcs) 0 r.pcs.length), (17, iN r.pcs.length), (18, iN k), (59, .ro (zE1 p.ways) 0 p.ways.length), (60, iN p.ways.length), (61, iN j)]) (fun _ => [])
   (fun j => j ≤ p.ways.length ∧ (p.ways.take j).all zET = true) (fun j => p.ways.length - j) 0 ⟨⟨rfl, rfl, rfl, rfl, rfl, rfl, rfl, trivial⟩, rfl, Nat.zero_le _, rfl⟩ ?_
  intro j ⟨hj, hall⟩
  refine rn4 ?_
  refine zF J (fun g1 => ?_) (fun g1 => ?_)
  ·have hj' : j < p.ways.length := by omega
   generalize hw : p.ways.getD j way0 = w
   have hwm : w ∈ p.ways := by rw [← hw]; exact zAN way0 hj'
   have no : zET w = false → zCp r.pcs = 4 := fun q => bad (Bool.eq_false_iff.2 (fun q2 => by rw [List.all_eq_true.1 q2 w hwm] at q; cases q))
   have yes : zET w = true → (p.ways.take (j + 1)).all zET = true := fun q => by rw [zz _ way0 j hj', List.all_append, hall, hw]; simp [q]
   refine zFu ?_
   repeat (refine zAK rfl rfl rfl ?_)
   refine zb (zF3 w) J J J J J (by rw [← hw]; rfl) J ?_
   refine zBA ?_
   refine zB0 6 [(1, .rp (.box (ruC r)) 0 0), (16, .ro (zAi r.pcs) 0 r.pcs.length), (17, iN r.pcs.length), (18, iN k), (59, .ro (zE1 p.ways) 0 p.ways.length), (60, iN p.ways.length), (61, iN j)] J ⟨J, J, J, J, J, J, J, J, trivial⟩ ⟨J, J, J, J, J, J, J, trivial⟩ J hfix ?_
   refine zBx ?_
   refine zP J J J (zA3 _ _ _) ?_
   refine rn5 ?_
   refine zAz J J (fun g2 => ?_) (fun g2 => ?_)
   ·repeat (first | refine zA (zG rfl) ?_ | refine zA (zO rfl) ?_ | refine zC ?_ | refine zB ?_ | refine zY ?_ | refine zJ rfl ?_ | refine zAn rfl rfl ?_ | refine zAX rfl rfl rfl ?_ | refine zAg rfl ?_ | refine zAA ?_ | refine zA6 ?_ | refine zE4 ?_ | refine zE5 ?_ | refine zA (zg rfl rfl) ?_)
    refine zL hR J ?_
    rw [Bool.not_eq_true'] at g2
    rw [no (by unfold zET; rw [g2]; rfl)]; rfl
   rw [Bool.not_eq_false'] at g2
   refine zBA ?_
   refine zP J J J (zA3 _ _ _) ?_
   refine rn5 ?_
   refine zAz J J (fun g3 => ?_) (fun g3 => ?_)
   ·repeat (first | refine zA (zG rfl) ?_ | refine zA (zO rfl) ?_ | refine zC ?_ | refine zB ?_ | refine zY ?_ | refine zJ rfl ?_ | refine zAn rfl rfl ?_ | refine zAX rfl rfl rfl ?_ | refine zAg rfl ?_ | refine zAA ?_ | refine zA6 ?_ | refine zE4 ?_ | refine zE5 ?_ | refine zA (zg rfl rfl) ?_)
    refine zL hR J ?_
    rw [Bool.not_eq_true'] at g3
    rw [no (by unfold zET; rw [g2, g3]; rfl)]; rfl
   rw [Bool.not_eq_false'] at g3
   refine zBA ?_
   refine zo J J (fun g4 => ?_) (fun g4 => ?_)
   ·refine zBA ?_
    refine zo J J (fun g5 => ?_) (fun g5 => ?_)
    ·refine rn6 ?_
     refine zL hR J ?_
     rw [no (by unfold zET; rw [g2, g3, decide_eq_true (show w.dx = 0 from g4), decide_eq_true (show w.dy = 0 from g5)]; rfl)]; rfl
    have gz : (!(decide (w.dx = 0) && decide (w.dy = 0))) = true := by rw [decide_eq_false (show ¬ w.dy = 0 from g5), Bool.and_false]; rfl
    refine zBA ?_
    refine zP J J J (zA3 _ _ _) ?_
    refine rn5 ?_
    refine zAz J J (fun g6 => ?_) (fun g6 => ?_)
    ·refine rn6 ?_
     refine zL hR J ?_
     rw [Bool.not_eq_true'] at g6
     rw [no (by unfold zET; rw [g2, g3, gz, g6]; rfl)]; rfl
    rw [Bool.not_eq_false'] at g6
    refine zBA ?_
    refine zP J J J (zA3 _ _ _) ?_
    refine rn5 ?_
    refine zAP J (fun g7 => ?_) (fun g7 => ?_)
    ·refine rn6 ?_
     refine zL hR J ?_
     rw [Bool.not_eq_true'] at g7
     rw [no (by unfold zET; rw [g2, g3, gz, g6, g7]; rfl)]; rfl
    rw [Bool.not_eq_false'] at g7
    refine rn5 ?_
    exact zR ⟨j + 1, ⟨by omega, yes (by unfold zET; rw [g2, g3, gz, g6, g7]; rfl)⟩, by omega, ⟨J, J, J, J, J, J, J, trivial⟩, J⟩
   have gz : (!(decide (w.dx = 0) && decide (w.dy = 0))) = true := by rw [decide_eq_false (show ¬ w.dx = 0 from g4)]; rfl
   refine zBA ?_
   refine zP J J J (zA3 _ _ _) ?_
   refine rn5 ?_
   refine zAz J J (fun g6 => ?_) (fun g6 => ?_)
   ·refine rn6 ?_
    refine zL hR J ?_
    rw [Bool.not_eq_true'] at g6
    rw [no (by unfold zET; rw [g2, g3, gz, g6]; rfl)]; rfl
   rw [Bool.not_eq_false'] at g6
   refine zBA ?_
   refine zP J J J (zA3 _ _ _) ?_
   refine rn5 ?_
   refine zAP J (fun g7 => ?_) (fun g7 => ?_)
   ·refine rn6 ?_
    refine zL hR J ?_
    rw [Bool.not_eq_true'] at g7
    rw [no (by unfold zET; rw [g2, g3, gz, g6, g7]; rfl)]; rfl
   rw [Bool.not_eq_false'] at g7
   refine rn5 ?_
   exact zR ⟨j + 1, ⟨by omega, yes (by unfold zET; rw [g2, g3, gz, g6, g7]; rfl)⟩, by omega, ⟨J, J, J, J, J, J, J, trivial⟩, J⟩
  ·have hj' : j = p.ways.length := by omega
   subst hj'
   rw [List.take_length] at hall
   refine rn5 ?_
   refine zR ⟨k + 1, ⟨by omega, zMF hup (by unfold zC9; rw [hp, if_neg (by omega), if_neg h5, if_neg h67, if_neg (by omega), if_neg (by rw [hall]; decide)])⟩, by omega, ⟨J, J, J, J, trivial⟩, J⟩
 ·have hk' : k = r.pcs.length := by omega
  subst hk'
  refine rn5 ?_
  refine zL hR J ?_
  unfold zCp; rw [if_neg (by omega), if_neg (by omega), hup]; rfl
/-- rules.Check$1 -/
theorem zNd (r : Go.Ax.Gm.Rules) (hr : Lens r) (h6 : r.pcs.length ≤ 6) (c0 : Int) : zl Tryz.prog 92 [.int .i64 c0, .rp (.box (ruC r)) 0 0] (.bool (!(zFQ r.pcs.length c0))) := by
 refine zd.value0 (zN (P := Tryz.prog) (fn := Tryz.f92) J J (by kernel_rfl) J (fun c hR hfix => ?_)) (fix := fun _ => False) (fun _ h => h) J J
 have hpl := hr.pcs
 refine zBx ?_
 refine zA (zDA J J (by omega)) ?_
 skip
 refine zP J J J (zA3 _ _ _) ?_
 refine rn5 ?_
 exact zL hR J J
/-- rules.conditions -/
theorem zJZ (r : Go.Ax.Gm.Rules) (hr : Lens r) : zl Tryz.prog 93 [ruA r] (.int .i64 (zH4 r.pcs.length r.ends)) := by
 refine zd.value0 (zN (P := Tryz.prog) (fn := Tryz.f93) J J (by kernel_rfl) J (fun c hR hfix => ?_)) (fix := fun _ => False) (fun _ h => h) J J
 have hpl := hr.pcs
 have hel := hr.ends
 refine zY ?_
 repeat (first | refine zA (zO rfl) ?_ | refine zC ?_ | refine zB ?_ | refine zJ rfl ?_ | refine zAO rfl rfl ?_)
 refine zB0 1 [(2, .int .i64 0)] J ⟨J, J, trivial⟩ ⟨J, trivial⟩ J hfix ?_
 repeat (first | refine zC ?_ | refine zB ?_ | refine zY ?_ | refine zJ rfl ?_ | refine zA (zCY rfl rfl) ?_ | refine zA (zAx rfl rfl rfl) ?_ | refine zA (zD rfl rfl rfl rfl) ?_ | refine zA (zK rfl rfl rfl rfl rfl rfl) ?_)
 refine zF J (fun h => ?_) (fun h => ?_)
 ·refine rn2 ?_
  refine zL hR J ?_
  unfold zH4; rw [if_pos (by omega)]; rfl
 refine zBx ?_
 refine z8 (ι := Nat) (fun k => [(1, .rp (.box (ruC r)) 0 0), (12, .ro (zE8 r.ends) 0 r.ends.length), (13, iN r.ends.length), (14, iN k)]) (fun _ => [])
  (fun k => k ≤ r.ends.length ∧ upE (fun i => zEA r.pcs.length (r.ends.getD i en0)) k = 0) (fun k => r.ends.length - k) 0 ⟨⟨rfl, rfl, rfl, rfl, trivial⟩, rfl, Nat.zero_le _, rfl⟩ ?_
 intro k ⟨hk, hup⟩
 refine rn4 ?_
 refine zF J (fun h2 => ?_) (fun h2 => ?_)
 ·have hk' : k < r.ends.length := by omega
  generalize hx : r.ends.getD k en0 = x
  have done : ∀ e, zEA r.pcs.length x = e → e ≠ 0 → zH4 r.pcs.length r.ends = e := fun e he hne => by
   unfold zH4
   rw [if_neg (by omega), zJW (f := fun i => zEA r.pcs.length (r.ends.getD i en0)) hup (by show zEA _ _ ≠ 0; rw [hx, he]; exact hne) hk']
   show zEA _ _ = e; rw [hx, he]
  have next : zEA r.pcs.length x = 0 → upE (fun i => zEA r.pcs.length (r.ends.getD i en0)) (k + 1) = 0 := fun he => zMF hup (by show zEA _ _ = 0; rw [hx, he])
  refine zFu ?_
  repeat (refine zAK rfl rfl rfl ?_)
  refine zb (enC x) J J J J J (by rw [← hx]; rfl) J ?_
  refine zBA ?_
  refine zB0 4 [(1, .rp (.box (ruC r)) 0 0), (12, .ro (zE8 r.ends) 0 r.ends.length), (13, iN r.ends.length), (14, iN k)] J ⟨J, J, J, J, J, trivial⟩ ⟨J, J, J, J, trivial⟩ J hfix ?_
  refine ze (by kernel_rfl) ?_
  refine zBU (fuel := 0) [0, 1, 2, 3, 4, 5, 6, 7, 8, 9, 10, 11] [(4, .rp (.box (enC x)) 0 0), (1, .rp (.box (ruC r)) 0 0), (12, .ro (zE8 r.ends) 0 r.ends.length), (13, iN r.ends.length), (14, iN k)] ⟨J, J, J, J, J, trivial⟩ (by kernel_rfl) (by decide) J J ?_
  refine zI J J (zK J J J J J J) ?_
  refine zI J J (zD J J J J) ?_
  refine zCL J J J J J (zA3 _ _ _) ?_
  refine zI J J (zK J J J J J J) ?_
  refine zI J J (zD J J J J) ?_
  refine zI J J (zK J J J J J J) ?_
  refine zI J J (zD J J J J) ?_
  refine zI J J (zAx J J J) ?_
  refine zI J J (zBL J J (by omega)) ?_
  refine zCL J J J J J (zA3 _ _ _) ?_
  refine zI J J (zO J) ?_
  refine zI J J (zO J) ?_
  refine zu ?_
  refine zW (by kernel_rfl) ?_
  refine zBx ?_
  refine zF J (fun k0 => ?_) (fun k0 => ?_)
  ·repeat (first | refine zA (zG rfl) ?_ | refine zA (zO rfl) ?_ | refine zC ?_ | refine zB ?_ | refine zY ?_ | refine zJ rfl ?_ | refine zAW ?_ | refine zA (zBR rfl rfl) ?_ | refine zA (zEK rfl) ?_ | refine zA (zD rfl rfl rfl rfl) ?_ | refine zA (zK rfl rfl rfl rfl rfl rfl) ?_)
   refine zAz J J (fun g1 => ?_) (fun g1 => ?_)
   ·refine rn6 ?_
    refine zL hR J ?_
    rw [done 4 (by unfold zEA; rw [if_pos k0]; rw [Bool.not_eq_true', ← Bool.not_eq_true] at g1; rw [if_neg (fun q => g1 q.1)]) (by decide)]; rfl
   refine rn5 ?_
   refine zAP J (fun g2 => ?_) (fun g2 => ?_)
   ·refine rn6 ?_
    refine zL hR J ?_
    rw [done 4 (by unfold zEA; rw [if_pos k0]; rw [Bool.not_eq_true', decide_eq_false_iff_not] at g2; rw [if_neg (fun q => g2 q.2)]) (by decide)]; rfl
   refine rn5 ?_
   exact zR ⟨k + 1, ⟨by omega, next (by unfold zEA; rw [if_pos k0]; rw [Bool.not_eq_false'] at g1; rw [Bool.not_eq_false', decide_eq_true_eq] at g2; rw [if_pos ⟨g1, g2⟩])⟩, by omega, ⟨J, J, J, J, trivial⟩, J⟩
  refine rn4 ?_
  refine zF J (fun k1 => ?_) (fun k1 => ?_)
  ·repeat (first | refine zA (zG rfl) ?_ | refine zA (zO rfl) ?_ | refine zC ?_ | refine zB ?_ | refine zY ?_ | refine zJ rfl ?_ | refine zAW ?_ | refine zA (zBR rfl rfl) ?_ | refine zA (zEK rfl) ?_ | refine zA (zD rfl rfl rfl rfl) ?_ | refine zA (zK rfl rfl rfl rfl rfl rfl) ?_)
   refine zAz J J (fun g1 => ?_) (fun g1 => ?_)
   ·refine rn6 ?_
    refine zL hR J ?_
    rw [done 4 (by unfold zEA; rw [if_neg k0, if_pos k1]; rw [Bool.not_eq_true', decide_eq_false_iff_not] at g1; rw [if_neg (fun q => g1 q.1)]) (by decide)]; rfl
   refine rn5 ?_
   refine zAP J (fun g2 => ?_) (fun g2 => ?_)
   ·refine rn6 ?_
    refine zL hR J ?_
    rw [done 4 (by unfold zEA; rw [if_neg k0, if_pos k1]; rw [Bool.not_eq_true', ← Bool.not_eq_true] at g2; rw [if_neg (fun q => g2 q.2)]) (by decide)]; rfl
   refine rn5 ?_
   exact zR ⟨k + 1, ⟨by omega, next (by unfold zEA; rw [if_neg k0, if_pos k1]; rw [Bool.not_eq_false', decide_eq_true_eq] at g1; rw [Bool.not_eq_false'] at g2; rw [if_pos ⟨g1, g2⟩])⟩, by omega, ⟨J, J, J, J, trivial⟩, J⟩
  refine rn4 ?_
  refine zF J (fun k2 => ?_) (fun k2 => ?_)
  ·refine rn5 ?_
   refine zAz J J (fun g1 => ?_) (fun g1 => ?_)
   ·refine rn6 ?_
    refine zL hR J ?_
    rw [done 4 (by unfold zEA; rw [if_neg k0, if_neg k1, if_pos k2]; rw [Bool.not_eq_true', ← Bool.not_eq_true] at g1; rw [if_neg (fun q => g1 q.1)]) (by decide)]; rfl
   refine rn5 ?_
   refine zAP J (fun g2 => ?_) (fun g2 => ?_)
   ·refine rn6 ?_
    refine zL hR J ?_
    rw [done 4 (by unfold zEA; rw [if_neg k0, if_neg k1, if_pos k2]; rw [Bool.not_eq_true', ← Bool.not_eq_true] at g2; rw [if_neg (fun q => g2 q.2)]) (by decide)]; rfl
   refine rn5 ?_
   exact zR ⟨k + 1, ⟨by omega, next (by unfold zEA; rw [if_neg k0, if_neg k1, if_pos k2]; rw [Bool.not_eq_false'] at g1; rw [Bool.not_eq_false'] at g2; rw [if_pos ⟨g1, g2⟩])⟩, by omega, ⟨J, J, J, J, trivial⟩, J⟩
  refine rn6 ?_
  refine zL hR J ?_
  rw [done 1 (by unfold zEA; rw [if_neg k0, if_neg k1, if_neg k2]) (by decide)]; rfl
 ·have hk' : k = r.ends.length := by omega
  subst hk'
  refine rn5 ?_
  refine zL hR J ?_
  unfold zH4; rw [if_neg (by omega), hup]; rfl
theorem zMH (a : Go.Ax.Gm.Way) (j k : Nat) (hj : j < 4) : ((zF3 a).getD j .any).forget k = (zF3 a).getD j .any := by
 match j, hj with
 | 0, _ => rfl
 | 1, _ => rfl
 | 2, _ => rfl
 | 3, _ => rfl
theorem zMV (a : Go.Ax.Gm.En) (j k : Nat) (hj : j < 4) : ((enC a).getD j .any).forget k = (enC a).getD j .any := by
 match j, hj with
 | 0, _ => rfl
 | 1, _ => rfl
 | 2, _ => rfl
 | 3, _ => rfl
theorem zMi (a : Go.Ax.Gm.Pc) (j k : Nat) (hj : j < 4) : ((pcC a).getD j .any).forget k = (pcC a).getD j .any := by
 match j, hj with
 | 0, _ => rfl
 | 1, _ => rfl
 | 2, _ => rfl
 | 3, _ => rfl
theorem zAZ {α : Type} {d : α} {n : Nat} {e : α → List AV} {l : List α} (h : ∀ a j, j < n → noRef ((e a).getD j .any) = true) : zAG (zCk d n e l) := fun i j _ hj => h _ j hj
theorem zM4 (a : Go.Ax.Gm.Way) (j : Nat) (hj : j < 4) : noRef ((zF3 a).getD j .any) = true := by
 match j, hj with
 | 0, _ => rfl
 | 1, _ => rfl
 | 2, _ => rfl
 | 3, _ => rfl
theorem zNm (a : Go.Ax.Gm.En) (j : Nat) (hj : j < 4) : noRef ((enC a).getD j .any) = true := by
 match j, hj with
 | 0, _ => rfl
 | 1, _ => rfl
 | 2, _ => rfl
 | 3, _ => rfl
theorem zN6 (a : Go.Ax.Gm.Pc) (j : Nat) (hj : j < 4) : noRef ((pcC a).getD j .any) = true := by
 match j, hj with
 | 0, _ => rfl
 | 1, _ => rfl
 | 2, _ => rfl
 | 3, _ => rfl
/-- slices.Clone of gamehall/api.RuleWay -/
theorem cloneW (l : List Go.Ax.Gm.Way) (hl : l.length ≤ 1000000) : zl Tryz.prog 106 [.ro (zE1 l) 0 l.length] (.ro (zE1 l) 0 l.length) := by
 refine zd.value (K := fun r H => r = .sl 0 0 l.length ∧ H = [some ⟨143, zE1 l⟩]) (zN (P := Tryz.prog) (fn := Tryz.f106) J J (by kernel_rfl) J (fun c hR hfix => ?_)) (fix := fun _ => False) (fun _ h => h) J ?_
 ·refine rn0 ?_
  refine zIY J J J (fun b hb => ?_)
  refine rn0 ?_
  refine zAP J (fun h => ?_) (fun h => ?_)
  ·have hn : l = [] := List.length_eq_zero_iff.mp (hb h)
   subst hn
   refine rn7 ?_
   refine zBq 2 ⟨143, zE1 []⟩ J J ?_
   refine rn2 ?_
   exact zL hR J ⟨J, J⟩
  ·refine rn1 ?_
   refine zDS J J J J J J J J J J ?_
   refine zBJ [some ⟨143, zE1 []⟩] (zAs.eqv ⟨J, J, fun i j hi => absurd hi (Nat.not_lt_zero _)⟩ zAs.nil) ?_
   repeat (refine zA (zG rfl) ?_)
   refine zBV l J J J J J J J J J J J J J (by show 0 + l.length ≤ l.length; omega) (fun k j _ _ => by rw [Nat.zero_add]; rfl) (by show (0 + l.length) * 32 ≤ _ ∧ _; omega) zMH (by rw [hfix]; exact fun h => h) ?_
   refine rn0 ?_
   refine zL hR J ⟨?_, J⟩
   show AV.sl 0 0 (0 + l.length) = _; rw [Nat.zero_add]
 ·rintro r H ⟨rfl, rfl⟩
  refine ⟨J, ?_, fun h o ho => zEN (zAZ zM4) h o ho⟩
  intro o ho; simp at ho; subst ho; show 0 + l.length ≤ l.length; omega
/-- slices.Clone of gamehall/api.RuleEnd -/
theorem cloneE (l : List Go.Ax.Gm.En) (hl : l.length ≤ 1000000) : zl Tryz.prog 107 [.ro (zE8 l) 0 l.length] (.ro (zE8 l) 0 l.length) := by
 refine zd.value (K := fun r H => r = .sl 0 0 l.length ∧ H = [some ⟨132, zE8 l⟩]) (zN (P := Tryz.prog) (fn := Tryz.f107) J J (by kernel_rfl) J (fun c hR hfix => ?_)) (fix := fun _ => False) (fun _ h => h) J ?_
 ·refine rn0 ?_
  refine zIY J J J (fun b hb => ?_)
  refine rn0 ?_
  refine zAP J (fun h => ?_) (fun h => ?_)
  ·have hn : l = [] := List.length_eq_zero_iff.mp (hb h)
   subst hn
   refine rn7 ?_
   refine zBq 2 ⟨132, zE8 []⟩ J J ?_
   refine rn2 ?_
   exact zL hR J ⟨J, J⟩
  ·refine rn1 ?_
   refine zDS J J J J J J J J J J ?_
   refine zBJ [some ⟨132, zE8 []⟩] (zAs.eqv ⟨J, J, fun i j hi => absurd hi (Nat.not_lt_zero _)⟩ zAs.nil) ?_
   repeat (refine zA (zG rfl) ?_)
   refine zBV l J J J J J J J J J J J J J (by show 0 + l.length ≤ l.length; omega) (fun k j _ _ => by rw [Nat.zero_add]; rfl) (by show (0 + l.length) * 32 ≤ _ ∧ _; omega) zMV (by rw [hfix]; exact fun h => h) ?_
   refine rn0 ?_
   refine zL hR J ⟨?_, J⟩
   show AV.sl 0 0 (0 + l.length) = _; rw [Nat.zero_add]
 ·rintro r H ⟨rfl, rfl⟩
  refine ⟨J, ?_, fun h o ho => zEN (zAZ zNm) h o ho⟩
  intro o ho; simp at ho; subst ho; show 0 + l.length ≤ l.length; omega
theorem zIf (l : List Int) (hl : l.length ≤ 1000000) : zl Tryz.prog 63 [z6 l] (z6 l) := zl.of_fcall (zLM l hl) zAR rfl rfl
/-- rules.IsLast -/
theorem zJ8 (r : Go.Ax.Gm.Rules) (hw : 1 ≤ r.w ∧ r.w ≤ 8) (hh : 1 ≤ r.h ∧ r.h ≤ 8) (player s : Int) (hs : 0 ≤ s ∧ s < 1000) : zl Tryz.prog 96 [ruA r, .int .i64 player, .int .i64 s] (.bool (zFh r player s)) := by
 refine zd.value0 (zN (P := Tryz.prog) (fn := Tryz.f96) J J (by kernel_rfl) J (fun c hR hfix => ?_)) (fix := fun _ => False) (fun _ h => h) J J
 refine zY ?_
 repeat (first | refine zA (zO rfl) ?_ | refine zC ?_ | refine zB ?_ | refine zJ rfl ?_ | refine zAO rfl rfl ?_)
 refine zB0 3 [(1, .int .i64 player), (2, .int .i64 s)] J ⟨J, J, J, trivial⟩ ⟨J, J, trivial⟩ J hfix ?_
 refine rn4 ?_
 refine zF J (fun h => ?_) (fun h => ?_)
 ·repeat (refine zY ?_)
  refine zML (by kernel_rfl) (by kernel_rfl) J ?_
  repeat (first | refine zA (zG rfl) ?_ | refine zA (zO rfl) ?_ | refine zC ?_ | refine zB ?_ | refine zAA ?_ | refine zA6 ?_ | refine zA (zBR rfl rfl) ?_ | refine zA (zBL rfl rfl (by omega)) ?_ | refine zA (zIA rfl rfl (by omega)) ?_ | refine zA (zD rfl rfl rfl rfl) ?_ | refine zA (zK rfl rfl rfl rfl rfl rfl) ?_)
  refine zL hR J ?_
  unfold zFh; rw [if_pos h, Int.tdiv_eq_ediv_of_nonneg hs.1]; rfl
 ·repeat (first | refine zA (zG rfl) ?_ | refine zA (zO rfl) ?_ | refine zC ?_ | refine zB ?_ | refine zY ?_ | refine zJ rfl ?_ | refine zAQ ?_ | refine zAA ?_ | refine zA (zBR rfl rfl) ?_ | refine zA (zIA rfl rfl (by omega)) ?_ | refine zA (zD rfl rfl rfl rfl) ?_ | refine zA (zK rfl rfl rfl rfl rfl rfl) ?_)
  refine zL hR J ?_
  unfold zFh; rw [if_neg h, Int.tdiv_eq_ediv_of_nonneg hs.1]; rfl
/-- rules.Check -/
theorem zG1 (r : Go.Ax.Gm.Rules) (hr : Lens r) : zl Tryz.prog 62 [ruA r] (.int .i64 (zAa r)) := by
 refine zd.value0 (zN (P := Tryz.prog) (fn := Tryz.f62) J J (by kernel_rfl) J (fun c hR hfix => ?_)) (fix := fun _ => False) (fun _ h => h) J J
 have hpl := hr.pcs
 have hsl := hr.start
 refine zY ?_
 repeat (first | refine zA (zO rfl) ?_ | refine zC ?_ | refine zB ?_ | refine zJ rfl ?_ | refine zAO rfl rfl ?_)
 refine zB0 1 [(2, .int .i64 0)] J ⟨J, J, trivial⟩ ⟨J, trivial⟩ J hfix ?_
 refine zBx ?_
 refine zP J J J (name_ok r.name hr.name) ?_
 refine rn5 ?_
 refine zAP J (fun h1 => ?_) (fun h1 => ?_)
 ·rw [Bool.not_eq_true'] at h1
  refine rn2 ?_
  refine zL hR J ?_
  unfold zAa; rw [if_pos h1]; rfl
 rw [Bool.not_eq_false'] at h1
 have h1 : ¬ zKD r.name = false := by rw [h1]; decide
 refine zBx ?_
 refine zP J J J (zA3 _ _ _) ?_
 refine rn5 ?_
 refine zAz J J (fun h2 => ?_) (fun h2 => ?_)
 ·rw [Bool.not_eq_true', ← Bool.not_eq_true] at h2
  refine rn6 ?_
  refine zL hR J ?_
  unfold zAa; rw [if_neg h1, if_pos (fun q => h2 q.1)]; rfl
 rw [Bool.not_eq_false'] at h2
 refine zBA ?_
 refine zP J J J (zA3 _ _ _) ?_
 refine rn5 ?_
 refine zAP J (fun h3 => ?_) (fun h3 => ?_)
 ·rw [Bool.not_eq_true', ← Bool.not_eq_true] at h3
  refine rn2 ?_
  refine zL hR J ?_
  unfold zAa; rw [if_neg h1, if_pos (fun q => h3 q.2)]; rfl
 rw [Bool.not_eq_false'] at h3
 have h23 : ¬ ¬ (within r.w 1 8 = true ∧ within r.h 1 8 = true) := fun q => q ⟨h2, h3⟩
 have w2 := Go.Ax.Gm.within_iff.1 h2
 have w3 := Go.Ax.Gm.within_iff.1 h3
 have hwh : 0 ≤ r.w * r.h ∧ r.w * r.h ≤ 64 := ⟨Int.mul_nonneg (by omega) (by omega), by
  have a := Int.mul_le_mul w2.2 w3.2 (by omega) (by decide)
  exact Int.le_trans a (by decide)⟩
 refine rn6 ?_
 refine zP J J J (zN8 r hr) ?_
 refine rn3 ?_
 refine zF J (fun h4 => ?_) (fun h4 => ?_)
 ·refine rn2 ?_
  refine zL hR J ?_
  unfold zAa; rw [if_neg h1, if_neg h23, if_pos h4]; rfl
 have h6 : r.pcs.length ≤ 6 := by
  have h4 := Classical.not_not.1 h4
  unfold zCp at h4
  split at h4
  ·cases h4
  split at h4
  ·cases h4
  ·omega
 refine zBx ?_
 refine zA (zDA J J (by omega)) ?_
 refine rn3 ?_
 refine zF J (fun h5 => ?_) (fun h5 => ?_)
 ·refine rn2 ?_
  refine zL hR J ?_
  unfold zAa; rw [if_neg h1, if_neg h23, if_neg h4, if_pos h5]; rfl
 refine zBx ?_
 refine zP J J J (zHe r.start 92 [.rp (.box (ruC r)) 0 0] (fun c0 => !(zFQ r.pcs.length c0)) J hsl (fun x _ => zNd r hr h6 x)) ?_
 refine rn0 ?_
 have hany : r.start.any (fun c0 => !(zFQ r.pcs.length c0)) = !(r.start.all (zFQ r.pcs.length)) := by rw [List.not_all_eq_any_not]
 rw [hany]
 refine zAP J (fun h7 => ?_) (fun h7 => ?_)
 ·rw [Bool.not_eq_true'] at h7
  refine rn2 ?_
  refine zL hR J ?_
  unfold zAa; rw [if_neg h1, if_neg h23, if_neg h4, if_neg h5, if_pos h7]; rfl
 rw [Bool.not_eq_false'] at h7
 have h7 : ¬ r.start.all (zFQ r.pcs.length) = false := by rw [h7]; decide
 refine rn6 ?_
 refine zP J J J (zJZ r hr) ?_
 refine rn3 ?_
 refine zF J (fun h8 => ?_) (fun h8 => ?_)
 ·refine rn2 ?_
  refine zL hR J ?_
  unfold zAa; rw [if_neg h1, if_neg h23, if_neg h4, if_neg h5, if_neg h7, if_pos h8]; rfl
 have fin : ∀ e, (if ¬ (within r.blocked 0 2 = true ∧ within r.quiet 0 200 = true ∧ (r.rep = 0 ∨ within r.rep 2 5 = true)) then (4 : Int) else 0) = e → zAa r = e := fun e q => by
  unfold zAa; rw [if_neg h1, if_neg h23, if_neg h4, if_neg h5, if_neg h7, if_neg h8, q]
 refine zBx ?_
 refine zP J J J (zA3 _ _ _) ?_
 refine rn5 ?_
 refine zAz J J (fun g1 => ?_) (fun g1 => ?_)
 ·rw [Bool.not_eq_true', ← Bool.not_eq_true] at g1
  refine rn16 ?_
  refine zL hR J ?_
  rw [fin 4 (if_pos (fun q => g1 q.1))]; rfl
 rw [Bool.not_eq_false'] at g1
 refine zBA ?_
 refine zP J J J (zA3 _ _ _) ?_
 refine rn5 ?_
 refine zAz J J (fun g2 => ?_) (fun g2 => ?_)
 ·rw [Bool.not_eq_true', ← Bool.not_eq_true] at g2
  refine rn16 ?_
  refine zL hR J ?_
  rw [fin 4 (if_pos (fun q => g2 q.2.1))]; rfl
 rw [Bool.not_eq_false'] at g2
 repeat (first | refine zA (zG rfl) ?_ | refine zr rfl rfl ?_ | refine zA (zBl rfl rfl) ?_ | refine zA (zD rfl rfl rfl rfl) ?_ | refine zA (zK rfl rfl rfl rfl rfl rfl) ?_)
 refine zo J J (fun g3 => ?_) (fun g3 => ?_)
 ·refine zBA ?_
  refine zP J J J (zA3 _ _ _) ?_
  refine rn5 ?_
  refine zAP J (fun g4 => ?_) (fun g4 => ?_)
  ·rw [Bool.not_eq_true', ← Bool.not_eq_true] at g4
   refine rn2 ?_
   refine zL hR J ?_
   rw [fin 4 (if_pos (fun q => q.2.2.elim g3 g4))]; rfl
  rw [Bool.not_eq_false'] at g4
  refine rn1 ?_
  refine zL hR J ?_
  rw [fin 0 (if_neg (fun q => q ⟨g1, g2, .inr g4⟩))]; rfl
 ·have g3 : r.rep = 0 := Classical.not_not.1 g3
  refine rn6 ?_
  refine zL hR J ?_
  rw [fin 0 (if_neg (fun q => q ⟨g1, g2, .inl g3⟩))]; rfl
end Go.Proofs.YtiifcejepaeepaaGreatDoor
namespace Go.Proofs.YtiifcejepaeepaaGreatDoor
open Go.Ax Go.Ax.Idx Go.Ax.Cd
attribute [local irreducible] Ax zCM QOp zd
theorem grow (n : Int) (h0 : 0 ≤ n) (h1 : n ≤ 1000000) : zHy Tryz.prog 124 [.nil, .int .i64 n] (fun N => .sl N 0 0) ⟨3, .ints .i64 []⟩ := by
 refine zd.fresh (K := fun r H => r = .sl 0 0 0 ∧ H = [some ⟨3, .ints .i64 []⟩]) (zN (P := Tryz.prog) (fn := Tryz.f124) J J (by kernel_rfl) J (fun c hR hfix => ?_)) (fix := fun _ => False) (fun _ h => h) J (fun H => ⟨J, by simp [zGd, inB]⟩) ?_
 ·refine rn4 ?_
  refine zF J (fun h => absurd h (by omega)) (fun h => ?_)
  repeat (first | refine zA (zG rfl) ?_ | refine zA (zO rfl) ?_ | refine zC ?_ | refine zB ?_ | refine zY ?_ | refine zJ rfl ?_ | refine zAQ ?_ | refine zA (zCY rfl rfl) ?_ | refine zA (zAx rfl rfl rfl) ?_ | refine zA (zBL rfl rfl (by omega)) ?_ | refine zA (zLu rfl rfl) ?_)
  refine zF J (fun h => ?_) (fun h => ?_)
  rotate_left
  ·refine rn7 ?_
   refine zBq 4 ⟨3, .ints .i64 []⟩ J J ?_
   repeat (refine zAA ?_)
   exact zL hR J ⟨J, J⟩
  repeat (first | refine zA (zG rfl) ?_ | refine zJ rfl ?_ | refine zA (zLu rfl rfl) ?_ | refine zA (zMp rfl rfl rfl rfl rfl rfl rfl) ?_)
  refine ax_growz J J J J J J J J J (by show 0 < _ ∧ _ * 8 ≤ _ ∧ _; omega) ?_
  refine rn3 ?_
  refine zA (zLx J J J J J J J J (by omega)) ?_
  refine zKY 0 (.ints .i64 []) J ⟨Nat.zero_le _, J, fun i j hi => absurd hi (Nat.not_lt_zero _)⟩ ?_
  refine rn0 ?_
  exact zL hR J ⟨J, J⟩
 ·rintro r H ⟨rfl, rfl⟩
  refine ⟨?_, fun h o ho => zEN zAR h o ho, 0, J, fun n => rfl⟩
  intro o ho; simp at ho; subst ho; exact Nat.zero_le _
def zEE (ls : List (List Int)) : Int := (ls.map fun l => (l.length : Int)).sum
theorem zEt (ls : List (List Int)) (k : Nat) (h : k < ls.length) : zEE (ls.take (k + 1)) = zEE (ls.take k) + ((ls.getD k []).length : Int) := by
 unfold zEE
 rw [zz ls [] k h, List.map_append, List.sum_append]
 simp
theorem zCS (ls : List (List Int)) : zEE ls = (ls.flatten.length : Int) := by
 induction ls with
 | nil => rfl
 | cons l r ih => unfold zEE at ih ⊢; simp [ih]
theorem zGG (ls : List (List Int)) (k : Nat) : 0 ≤ zEE (ls.take k) ∧ zEE (ls.take k) ≤ zEE ls := by
 have h : ls.flatten = (ls.take k).flatten ++ (ls.drop k).flatten := by rw [← List.flatten_append, List.take_append_drop]
 rw [zCS, zCS, h, List.length_append]; omega
theorem zHB (ls : List (List Int)) (k : Nat) (h : k < ls.length) : (ls.take (k + 1)).flatten = (ls.take k).flatten ++ ls.getD k [] := by
 rw [zz ls [] k h, List.flatten_append]; simp
theorem concat (ls : List (List Int)) (hlen : ls.length ≤ 1000000) (hs : zEE ls ≤ 1000000) :
 zHy Tryz.prog 114 [.ro (zJF ls) 0 ls.length] (fun N => .sl N 0 ls.flatten.length) ⟨3, .ints .i64 ls.flatten⟩ := by
 refine zd.fresh (K := fun r H => r = .sl 0 0 ls.flatten.length ∧ H = [some ⟨3, .ints .i64 ls.flatten⟩]) (zN (P := Tryz.prog) (fn := Tryz.f114) J J (by kernel_rfl) J (fun c hR hfix => ?_)) (fix := fun _ => False) (fun _ h => h) J (fun H => ⟨J, by simp [zGd, inB]⟩) ?_
 ·refine rn3 ?_
  refine z8 (ι := Nat) (fun k => [(0, .ro (zJF ls) 0 ls.length), (3, .int .i64 (zEE (ls.take k))), (9, .ro (zJF ls) 0 ls.length), (10, iN ls.length), (11, iN k)]) (fun _ => [])
   (fun k => k ≤ ls.length) (fun k => ls.length - k) 0 ⟨⟨rfl, rfl, rfl, rfl, rfl, trivial⟩, rfl, Nat.zero_le _⟩ ?_
  intro k hk
  refine rn4 ?_
  refine zF J (fun h1 => ?_) (fun h1 => ?_)
  ·have hk' : k < ls.length := by omega
   have hsum := zEt ls k hk'
   have hb := zGG ls (k + 1)
   have hb0 := zGG ls k
   refine rn6 ?_
   refine zF J (fun h2 => absurd h2 (by omega)) (fun h2 => ?_)
   refine rn5 ?_
   exact zR ⟨k + 1, by omega, by omega, ⟨J, by rw [hsum]; rfl, J, J, J, trivial⟩, J⟩
  ·have hk' : k = ls.length := by omega
   subst hk'
   simp only [List.take_length] at *
   have hfl := zCS ls
   refine rn5 ?_
   refine zD3 J J J (grow (zEE ls) (by omega) hs) ?_
   refine rn3 ?_
   refine z8 (ι := Nat) (fun k => [(6, .sl 0 0 (ls.take k).flatten.length), (25, .ro (zJF ls) 0 ls.length), (26, iN ls.length), (27, iN k)]) (fun k => [some ⟨3, .ints .i64 (ls.take k).flatten⟩])
    (fun k => k ≤ ls.length) (fun k => ls.length - k) 0 ⟨⟨rfl, rfl, rfl, rfl, trivial⟩, rfl, Nat.zero_le _⟩ ?_
   intro k hk
   refine rn4 ?_
   refine zF J (fun h1 => ?_) (fun h1 => ?_)
   ·have hk' : k < ls.length := by omega
    have hfs := zHB ls k hk'
    have hb := zGG ls (k + 1)
    have hsl := zEt ls k hk'
    have hb0 := zGG ls k
    have hfl0 := zCS (ls.take k)
    refine rn6 ?_
    refine zAj J J J J J J J J J J J J (by show 0 + (ls.getD k []).length ≤ (ls.getD k []).length; omega) J (by show ((ls.take k).flatten.length + (ls.getD k []).length) * 8 ≤ _ ∧ _; omega) (fun i j _ _ => rfl) (by rw [hfix]; exact fun h => h) ?_
    refine rn5 ?_
    refine zR ⟨k + 1, by omega, by omega, ⟨?_, J, J, J, trivial⟩, ?_⟩
    ·show some (AV.sl 0 0 ((ls.take k).flatten.length + (ls.getD k []).length)) = _
     rw [hfs, List.length_append]
    ·show ([some ⟨3, .ints .i64 ((ls.take k).flatten ++ List.take (ls.getD k []).length (List.drop 0 (ls.getD k [])))⟩] : zQ) = _
     rw [hfs]; simp
   ·have hk' : k = ls.length := by omega
    subst hk'
    simp only [List.take_length] at *
    refine rn5 ?_
    exact zL hR J ⟨J, J⟩
 ·rintro r H ⟨rfl, rfl⟩
  refine ⟨?_, fun h o ho => zEN zAR h o ho, 0, J, fun n => rfl⟩
  intro o ho; simp at ho; subst ho; show 0 + ls.flatten.length ≤ ls.flatten.length; omega
end Go.Proofs.YtiifcejepaeepaaGreatDoor
namespace Go.Proofs.YtiifcejepaeepaaGreatDoor
open Go.Ax Go.Ax.Gm Go.RowKit Go.Ax.Idx Go.Ax.Cd
attribute [local irreducible] Ax zCM QOp zd
structure LenP (p : Pos) : Prop where
 c : p.cells.length ≤ 9223372036854775807
 h0 : p.h0.length ≤ 9223372036854775807
 h1 : p.h1.length ≤ 9223372036854775807
def outB (a b x : Int) : Bool := decide (x < a) || decide (b < x)
theorem outB_eq (a b x : Int) : outB a b x = !(Go.Ax.Gm.within x a b) := by
 unfold outB Go.Ax.Gm.within
 rw [Bool.not_and, ← decide_not, ← decide_not]
 congr 1
 ·exact decide_eq_decide.2 (by omega)
 ·exact decide_eq_decide.2 (by omega)
theorem any_out (l : List Int) (a b : Int) : l.any (outB a b) = !(l.all (fun x => Go.Ax.Gm.within x a b)) := by
 rw [List.not_all_eq_any_not]
 congr 1
 funext x; exact outB_eq a b x
/-- place.sound$1$1 -/
theorem zNT (a b x : Int) : zl Tryz.prog 113 [.int .i64 x, .rp (.box [.int .i64 a]) 0 0, .rp (.box [.int .i64 b]) 0 0] (.bool (outB a b x)) := by
 refine zd.value0 (zN (P := Tryz.prog) (fn := Tryz.f113) J J (by kernel_rfl) J (fun c hR hfix => ?_)) (fix := fun _ => False) (fun _ h => h) J J
 repeat (first | refine zA (zG rfl) ?_ | refine zA (zO rfl) ?_ | refine zC ?_ | refine zB ?_ | refine zY ?_ | refine zJ rfl ?_ | refine zA (zCE rfl rfl) ?_ | refine zA (zD rfl rfl rfl rfl) ?_)
 refine zo J J (fun h => ?_) (fun h => ?_)
 ·refine rn6 ?_
  refine zL hR J ?_
  unfold outB; rw [decide_eq_true (show x < a from h)]; rfl
 ·refine zBA ?_
  refine zL hR J ?_
  unfold outB; rw [decide_eq_false (show ¬ x < a from h)]; rfl
abbrev outF (a b : Int) : AV := .fn 113 [.rp (.box [.int .i64 a]) 0 0, .rp (.box [.int .i64 b]) 0 0]
/-- place.sound$1 -/
theorem zBa (a b : Int) : zl Tryz.prog 112 [.int .i64 a, .int .i64 b] (outF a b) := by
 refine zd.value (K := fun r H => r = .fn 113 [.ptr 0 0 0, .ptr 1 0 0] ∧ H = [some ⟨3, .box [.int .i64 a]⟩, some ⟨3, .box [.int .i64 b]⟩]) (zN (P := Tryz.prog) (fn := Tryz.f112) J J (by kernel_rfl) J (fun c hR hfix => ?_)) (fix := fun _ => False) (fun _ h => h) J ?_
 ·repeat (first | refine zA (zO rfl) ?_ | refine zC ?_ | refine zB ?_ | refine zY ?_ | refine zJ rfl ?_ | refine zAA ?_ | refine zA (zCj rfl) ?_ | refine zAO rfl rfl ?_)
  exact zL hR J ⟨J, J⟩
 ·rintro r H ⟨rfl, rfl⟩
  refine ⟨J, ?_, refl2 (zq J) (zq J)⟩
  exact ⟨fun o ho => by cases ho; exact Nat.zero_lt_one, fun o ho => by cases ho; exact Nat.zero_lt_one, trivial⟩
theorem zNI (a b : List Int) (h : a.length + b.length ≤ 1000000) : zl Tryz.prog 114 [.ro (zJF [a, b]) 0 2] (z6 (a ++ b)) := by
 have e : ([a, b] : List (List Int)).flatten = a ++ b := by simp
 have := zl.of_fcall (concat [a, b] (by show 2 ≤ 1000000; omega) (by rw [zCS, e, List.length_append]; omega)) zAR rfl rfl
 rw [e] at this
 exact this
/-- place.sound -/
theorem sound_ok (r : Go.Ax.Gm.Rules) (hv : ValidR r) (p : Pos) (hp : LenP p) : zl Tryz.prog 81 [ruA r, poA p] (.int .i64 (zDo r p)) := by
 refine zd.value0 (zN (P := Tryz.prog) (fn := Tryz.f81) J J (by kernel_rfl) J (fun c hR hfix => ?_)) (fix := fun _ => False) (fun _ h => h) J J
 have hn6 := hv.n6
 obtain ⟨hc, hh0, hh1⟩ := hp
 have w1 := hv.w1
 have w8 := hv.w8
 have g1 := hv.h1
 have g8 := hv.h8
 have hwh : 0 ≤ r.w * r.h ∧ r.w * r.h ≤ 64 := ⟨Int.mul_nonneg (by omega) (by omega), by
  have a := Int.mul_le_mul w8 g8 (by omega) (by decide)
  exact Int.le_trans a (by decide)⟩
 refine zY ?_
 repeat (first | refine zA (zO rfl) ?_ | refine zC ?_ | refine zB ?_ | refine zJ rfl ?_ | refine zAO rfl rfl ?_)
 refine zCn 2 3 [] J J J J trivial ⟨J, J, trivial⟩ J hfix ?_
 refine zBx ?_
 refine zA (zDA J J (by omega)) ?_
 refine rn3 ?_
 refine zo J J (fun h1 => ?_) (fun h1 => ?_)
 ·refine rn6 ?_
  refine zL hR J ?_
  unfold zDo; rw [if_pos (.inl h1)]; rfl
 repeat (first | refine zA (zG rfl) ?_ | refine zr rfl rfl ?_ | refine zA (zBl rfl rfl) ?_ | refine zA (zg rfl rfl) ?_ | refine zA (zAx rfl rfl rfl) ?_ | refine zA (zD rfl rfl rfl rfl) ?_ | refine zA (zK rfl rfl rfl rfl rfl rfl) ?_ | refine zA (zBz rfl rfl rfl rfl (by first | (simp only [Nat.zero_add, Int.toNat_natCast]; exact rfl) | exact rfl) (by omega)) ?_)
 refine zo J J (fun h2 => ?_) (fun h2 => ?_)
 ·refine rn6 ?_
  refine zL hR J ?_
  unfold zDo; rw [if_pos (.inr (.inl (by omega)))]; rfl
 repeat (first | refine zA (zG rfl) ?_ | refine zC ?_ | refine zB ?_ | refine zr rfl rfl ?_ | refine zA (zBl rfl rfl) ?_ | refine zA (zg rfl rfl) ?_ | refine zA (zAx rfl rfl rfl) ?_ | refine zA (zD rfl rfl rfl rfl) ?_ | refine zA (zK rfl rfl rfl rfl rfl rfl) ?_ | refine zA (zBz rfl rfl rfl rfl (by first | (simp only [Nat.zero_add, Int.toNat_natCast]; exact rfl) | exact rfl) (by omega)) ?_)
 refine zF J (fun h3 => ?_) (fun h3 => ?_)
 ·refine rn2 ?_
  refine zL hR J ?_
  unfold zDo; rw [if_pos (.inr (.inr (by omega)))]; rfl
 have h123 : ¬ ((p.cells.length : Int) ≠ r.w * r.h ∨ p.h0.length ≠ r.pcs.length ∨ p.h1.length ≠ r.pcs.length) := by
  rintro (q | q | q)
  ·exact h1 q
  ·omega
  ·omega
 repeat (first | refine zA (zO rfl) ?_ | refine zC ?_ | refine zB ?_ | refine zY ?_ | refine zJ rfl ?_ | refine zAQ ?_ | refine zA (zD rfl rfl rfl rfl) ?_ | refine zA (zK rfl rfl rfl rfl rfl rfl) ?_ | refine zA (zBz rfl rfl rfl rfl (by first | (simp only [Nat.zero_add, Int.toNat_natCast]; exact rfl) | exact rfl) (by omega)) ?_ | refine zAH rfl rfl rfl rfl rfl rfl rfl rfl rfl rfl rfl ?_)
 refine zAt 42 (.ro (zJF [p.h0, p.h1]) 0 2) J (AEq.ro J (fun d j hd hj => ?_)) ?_
 ·obtain rfl : j = 0 := Nat.lt_one_iff.1 hj
  match d, hd with
  | 0, _ => rfl
  | 1, _ => rfl
 refine zP J J J (zNI p.h0 p.h1 (by omega)) ?_
 refine rn0 ?_
 have hlen2 : (p.h0 ++ p.h1).length ≤ 9223372036854775807 := by rw [List.length_append]; omega
 have bad : (p.cells.all (zFQ r.pcs.length) = false ∨ (p.h0 ++ p.h1).all (fun n => Go.Ax.Gm.within n 0 1000) = false ∨ (p.turn ≠ 0 ∧ p.turn ≠ 1) ∨ p.quiet < 0 ∨ 200 < p.quiet) → zDo r p = 4 := fun q => by
  unfold zDo; rw [if_neg h123, if_pos q]
 have good : ¬ (p.cells.all (zFQ r.pcs.length) = false ∨ (p.h0 ++ p.h1).all (fun n => Go.Ax.Gm.within n 0 1000) = false ∨ (p.turn ≠ 0 ∧ p.turn ≠ 1) ∨ p.quiet < 0 ∨ 200 < p.quiet) → zDo r p = 0 := fun q => by
  unfold zDo; rw [if_neg h123, if_neg q]
 have ccell := zHe p.cells 113 [.rp (.box [.int .i64 0]) 0 0, .rp (.box [.int .i64 (2 * (r.pcs.length : Int))]) 0 0] (outB 0 (2 * (r.pcs.length : Int))) rfl hc (fun x _ => zNT _ _ x)
 have chand := zHe (p.h0 ++ p.h1) 113 [.rp (.box [.int .i64 0]) 0 0, .rp (.box [.int .i64 1000]) 0 0] (outB 0 1000) rfl hlen2 (fun x _ => zNT _ _ x)
 rw [any_out] at ccell chand
 have ccell : zl Tryz.prog 91 [z6 p.cells, outF 0 (2 * (r.pcs.length : Int))] (.bool (!(p.cells.all (zFQ r.pcs.length)))) := ccell
 have chand : zl Tryz.prog 91 [z6 (p.h0 ++ p.h1), outF 0 1000] (.bool (!((p.h0 ++ p.h1).all (fun n => Go.Ax.Gm.within n 0 1000)))) := chand
 cases b1 : p.cells.all (zFQ r.pcs.length) with
 | false =>
  refine ze (by kernel_rfl) ?_
  refine zBU (fuel := 0) [0, 1, 2, 3, 4, 5, 6, 7, 8, 9, 10, 11, 12, 13, 14, 15, 16, 17, 18, 19, 20, 21, 22, 23, 24, 25, 26, 27, 28, 29, 30, 31, 32] [(2, .rp (.box (ruC r)) 0 0), (3, .rp (.box (poC p)) 0 0), (5, iN r.pcs.length), (6, .fn 112 []), (7, z6 (p.h0 ++ p.h1))] ⟨J, J, J, J, J, trivial⟩ (by kernel_rfl) (by decide) J J ?_
  refine zI J J (zK J J J J J J) ?_
  refine zI J J (zD J J J J) ?_
  refine zI J J (zG J) ?_
  refine zI J J (zG J) ?_
  refine zI J J (zDA J J (by omega)) ?_
  refine zCL J J J J J (zBa _ _) ?_
  refine zCL J J J J J ccell ?_
  rw [b1]
  refine zI J J (zG J) ?_
  refine zj J J J J J ?_
  refine zj J J J J J ?_
  first | refine zj rfl rfl rfl rfl rfl ?_ | refine zAv rfl rfl rfl rfl ?_ | refine zBb rfl rfl rfl rfl rfl rfl rfl (zBa _ _) ?_
  first | refine zj rfl rfl rfl rfl rfl ?_ | refine zAv rfl rfl rfl rfl ?_ | refine zBb rfl rfl rfl rfl rfl rfl rfl chand ?_
  refine zI J J (zg J J) ?_
  refine zI J J (zG J) ?_
  refine zj J J J J J ?_
  refine zj J J J J J ?_
  refine zj J J J J J ?_
  refine zj J J J J J ?_
  refine zAv J J J J ?_
  refine zAv J J J J ?_
  refine zAv J J J J ?_
  refine zj J J J J J ?_
  refine zI J J (zg J J) ?_
  refine zI J J (zG J) ?_
  refine zj J J J J J ?_
  refine zj J J J J J ?_
  refine zj J J J J J ?_
  refine zI J J (zg J J) ?_
  refine zI J J (zG J) ?_
  refine zj J J J J J ?_
  refine zj J J J J J ?_
  refine zj J J J J J ?_
  refine zI J J (zg J J) ?_
  refine zu ?_
  refine zW (by kernel_rfl) ?_
  refine rn5 ?_
  refine zL hR J ?_
  rw [bad (.inl b1)]; rfl
 | true =>
 cases b2 : (p.h0 ++ p.h1).all (fun n => Go.Ax.Gm.within n 0 1000) with
 | false =>
  refine ze (by kernel_rfl) ?_
  refine zBU (fuel := 0) [0, 1, 2, 3, 4, 5, 6, 7, 8, 9, 10, 11, 12, 13, 14, 15, 16, 17, 18, 19, 20, 21, 22, 23, 24, 25, 26, 27, 28, 29, 30, 31, 32] [(2, .rp (.box (ruC r)) 0 0), (3, .rp (.box (poC p)) 0 0), (5, iN r.pcs.length), (6, .fn 112 []), (7, z6 (p.h0 ++ p.h1))] ⟨J, J, J, J, J, trivial⟩ (by kernel_rfl) (by decide) J J ?_
  refine zI J J (zK J J J J J J) ?_
  refine zI J J (zD J J J J) ?_
  refine zI J J (zG J) ?_
  refine zI J J (zG J) ?_
  refine zI J J (zDA J J (by omega)) ?_
  refine zCL J J J J J (zBa _ _) ?_
  refine zCL J J J J J ccell ?_
  rw [b1]
  refine zI J J (zG J) ?_
  refine zi J J J J (zG J) ?_
  refine zi J J J J (zG J) ?_
  first | refine zj rfl rfl rfl rfl rfl ?_ | refine zAv rfl rfl rfl rfl ?_ | refine zBb rfl rfl rfl rfl rfl rfl rfl (zBa _ _) ?_
  first | refine zj rfl rfl rfl rfl rfl ?_ | refine zAv rfl rfl rfl rfl ?_ | refine zBb rfl rfl rfl rfl rfl rfl rfl chand ?_
  rw [b2]
  refine zI J J (zg J J) ?_
  refine zI J J (zG J) ?_
  refine zj J J J J J ?_
  refine zj J J J J J ?_
  refine zj J J J J J ?_
  refine zj J J J J J ?_
  refine zAv J J J J ?_
  refine zAv J J J J ?_
  refine zAv J J J J ?_
  refine zj J J J J J ?_
  refine zI J J (zg J J) ?_
  refine zI J J (zG J) ?_
  refine zj J J J J J ?_
  refine zj J J J J J ?_
  refine zj J J J J J ?_
  refine zI J J (zg J J) ?_
  refine zI J J (zG J) ?_
  refine zj J J J J J ?_
  refine zj J J J J J ?_
  refine zj J J J J J ?_
  refine zI J J (zg J J) ?_
  refine zu ?_
  refine zW (by kernel_rfl) ?_
  refine rn5 ?_
  refine zL hR J ?_
  rw [bad (.inr (.inl b2))]; rfl
 | true =>
 obtain ⟨cells, ha, hb, turn, quiet⟩ := p
 simp only at *
 by_cases t0 : turn = 0
 ·subst t0
  by_cases q0 : quiet < 0
  ·refine ze (by kernel_rfl) ?_
   refine zBU (fuel := 0) [0, 1, 2, 3, 4, 5, 6, 7, 8, 9, 10, 11, 12, 13, 14, 15, 16, 17, 18, 19, 20, 21, 22, 23, 24, 25, 26, 27, 28, 29, 30, 31, 32] [(2, .rp (.box (ruC r)) 0 0), (3, .rp (.box (poC ⟨cells, ha, hb, 0, quiet⟩)) 0 0), (5, iN r.pcs.length), (6, .fn 112 []), (7, z6 (ha ++ hb))] ⟨J, J, J, J, J, trivial⟩ (by kernel_rfl) (by decide) J J ?_
   refine zI J J (zK J J J J J J) ?_
   refine zI J J (zD J J J J) ?_
   refine zI J J (zG J) ?_
   refine zI J J (zG J) ?_
   refine zI J J (zDA J J (by omega)) ?_
   refine zCL J J J J J (zBa _ _) ?_
   refine zCL J J J J J ccell ?_
   rw [b1]
   refine zI J J (zG J) ?_
   refine zi J J J J (zG J) ?_
   refine zi J J J J (zG J) ?_
   first | refine zj rfl rfl rfl rfl rfl ?_ | refine zAv rfl rfl rfl rfl ?_ | refine zBb rfl rfl rfl rfl rfl rfl rfl (zBa _ _) ?_
   first | refine zj rfl rfl rfl rfl rfl ?_ | refine zAv rfl rfl rfl rfl ?_ | refine zBb rfl rfl rfl rfl rfl rfl rfl chand ?_
   rw [b2]
   refine zI J J (zg J J) ?_
   refine zI J J (zG J) ?_
   refine zi J J J J (zK J J J J J J) ?_
   refine zi J J J J (zD J J J J) ?_
   refine zi J J J J (zBl J J) ?_
   refine zi J J J J (zG J) ?_
   refine zj J J J J J ?_
   refine zj J J J J J ?_
   refine zj J J J J J ?_
   refine zi J J J J (zg J J) ?_
   refine zI J J (zg J J) ?_
   refine zI J J (zG J) ?_
   refine zi J J J J (zK J J J J J J) ?_
   refine zi J J J J (zD J J J J) ?_
   refine zi J J J J (zCE J J) ?_
   rw [decide_eq_true q0]
   refine zI J J (zg J J) ?_
   refine zI J J (zG J) ?_
   refine zj J J J J J ?_
   refine zj J J J J J ?_
   refine zj J J J J J ?_
   refine zI J J (zg J J) ?_
   refine zu ?_
   refine zW (by kernel_rfl) ?_
   refine rn5 ?_
   refine zL hR J ?_
   rw [bad (.inr (.inr (.inr (.inl q0))))]; rfl
  by_cases q1 : 200 < quiet
  ·refine ze (by kernel_rfl) ?_
   refine zBU (fuel := 0) [0, 1, 2, 3, 4, 5, 6, 7, 8, 9, 10, 11, 12, 13, 14, 15, 16, 17, 18, 19, 20, 21, 22, 23, 24, 25, 26, 27, 28, 29, 30, 31, 32] [(2, .rp (.box (ruC r)) 0 0), (3, .rp (.box (poC ⟨cells, ha, hb, 0, quiet⟩)) 0 0), (5, iN r.pcs.length), (6, .fn 112 []), (7, z6 (ha ++ hb))] ⟨J, J, J, J, J, trivial⟩ (by kernel_rfl) (by decide) J J ?_
   refine zI J J (zK J J J J J J) ?_
   refine zI J J (zD J J J J) ?_
   refine zI J J (zG J) ?_
   refine zI J J (zG J) ?_
   refine zI J J (zDA J J (by omega)) ?_
   refine zCL J J J J J (zBa _ _) ?_
   refine zCL J J J J J ccell ?_
   rw [b1]
   refine zI J J (zG J) ?_
   refine zi J J J J (zG J) ?_
   refine zi J J J J (zG J) ?_
   first | refine zj rfl rfl rfl rfl rfl ?_ | refine zAv rfl rfl rfl rfl ?_ | refine zBb rfl rfl rfl rfl rfl rfl rfl (zBa _ _) ?_
   first | refine zj rfl rfl rfl rfl rfl ?_ | refine zAv rfl rfl rfl rfl ?_ | refine zBb rfl rfl rfl rfl rfl rfl rfl chand ?_
   rw [b2]
   refine zI J J (zg J J) ?_
   refine zI J J (zG J) ?_
   refine zi J J J J (zK J J J J J J) ?_
   refine zi J J J J (zD J J J J) ?_
   refine zi J J J J (zBl J J) ?_
   refine zi J J J J (zG J) ?_
   refine zj J J J J J ?_
   refine zj J J J J J ?_
   refine zj J J J J J ?_
   refine zi J J J J (zg J J) ?_
   refine zI J J (zg J J) ?_
   refine zI J J (zG J) ?_
   refine zi J J J J (zK J J J J J J) ?_
   refine zi J J J J (zD J J J J) ?_
   refine zi J J J J (zCE J J) ?_
   rw [decide_eq_false q0]
   refine zI J J (zg J J) ?_
   refine zI J J (zG J) ?_
   refine zi J J J J (zK J J J J J J) ?_
   refine zi J J J J (zD J J J J) ?_
   refine zi J J J J (zCY J J) ?_
   rw [decide_eq_true q1]
   refine zI J J (zg J J) ?_
   refine zu ?_
   refine zW (by kernel_rfl) ?_
   refine rn5 ?_
   refine zL hR J ?_
   rw [bad (.inr (.inr (.inr (.inr q1))))]; rfl
  refine ze (by kernel_rfl) ?_
  refine zBU (fuel := 0) [0, 1, 2, 3, 4, 5, 6, 7, 8, 9, 10, 11, 12, 13, 14, 15, 16, 17, 18, 19, 20, 21, 22, 23, 24, 25, 26, 27, 28, 29, 30, 31, 32] [(2, .rp (.box (ruC r)) 0 0), (3, .rp (.box (poC ⟨cells, ha, hb, 0, quiet⟩)) 0 0), (5, iN r.pcs.length), (6, .fn 112 []), (7, z6 (ha ++ hb))] ⟨J, J, J, J, J, trivial⟩ (by kernel_rfl) (by decide) J J ?_
  refine zI J J (zK J J J J J J) ?_
  refine zI J J (zD J J J J) ?_
  refine zI J J (zG J) ?_
  refine zI J J (zG J) ?_
  refine zI J J (zDA J J (by omega)) ?_
  refine zCL J J J J J (zBa _ _) ?_
  refine zCL J J J J J ccell ?_
  rw [b1]
  refine zI J J (zG J) ?_
  refine zi J J J J (zG J) ?_
  refine zi J J J J (zG J) ?_
  first | refine zj rfl rfl rfl rfl rfl ?_ | refine zAv rfl rfl rfl rfl ?_ | refine zBb rfl rfl rfl rfl rfl rfl rfl (zBa _ _) ?_
  first | refine zj rfl rfl rfl rfl rfl ?_ | refine zAv rfl rfl rfl rfl ?_ | refine zBb rfl rfl rfl rfl rfl rfl rfl chand ?_
  rw [b2]
  refine zI J J (zg J J) ?_
  refine zI J J (zG J) ?_
  refine zi J J J J (zK J J J J J J) ?_
  refine zi J J J J (zD J J J J) ?_
  refine zi J J J J (zBl J J) ?_
  refine zi J J J J (zG J) ?_
  refine zj J J J J J ?_
  refine zj J J J J J ?_
  refine zj J J J J J ?_
  refine zi J J J J (zg J J) ?_
  refine zI J J (zg J J) ?_
  refine zI J J (zG J) ?_
  refine zi J J J J (zK J J J J J J) ?_
  refine zi J J J J (zD J J J J) ?_
  refine zi J J J J (zCE J J) ?_
  rw [decide_eq_false q0]
  refine zI J J (zg J J) ?_
  refine zI J J (zG J) ?_
  refine zi J J J J (zK J J J J J J) ?_
  refine zi J J J J (zD J J J J) ?_
  refine zi J J J J (zCY J J) ?_
  rw [decide_eq_false q1]
  refine zI J J (zg J J) ?_
  refine zu ?_
  refine zW (by kernel_rfl) ?_
  refine rn4 ?_
  refine zL hR J ?_
  rw [good (fun q => q.elim (fun q => by rw [b1] at q; cases q) (fun q => q.elim (fun q => by rw [b2] at q; cases q) (fun q => q.elim (fun q => absurd q (by omega)) (fun q => q.elim q0 q1))))]; rfl
 by_cases t1 : turn = 1
 ·subst t1
  by_cases q0 : quiet < 0
  ·refine ze (by kernel_rfl) ?_
   refine zBU (fuel := 0) [0, 1, 2, 3, 4, 5, 6, 7, 8, 9, 10, 11, 12, 13, 14, 15, 16, 17, 18, 19, 20, 21, 22, 23, 24, 25, 26, 27, 28, 29, 30, 31, 32] [(2, .rp (.box (ruC r)) 0 0), (3, .rp (.box (poC ⟨cells, ha, hb, 1, quiet⟩)) 0 0), (5, iN r.pcs.length), (6, .fn 112 []), (7, z6 (ha ++ hb))] ⟨J, J, J, J, J, trivial⟩ (by kernel_rfl) (by decide) J J ?_
   refine zI J J (zK J J J J J J) ?_
   refine zI J J (zD J J J J) ?_
   refine zI J J (zG J) ?_
   refine zI J J (zG J) ?_
   refine zI J J (zDA J J (by omega)) ?_
   refine zCL J J J J J (zBa _ _) ?_
   refine zCL J J J J J ccell ?_
   rw [b1]
   refine zI J J (zG J) ?_
   refine zi J J J J (zG J) ?_
   refine zi J J J J (zG J) ?_
   first | refine zj rfl rfl rfl rfl rfl ?_ | refine zAv rfl rfl rfl rfl ?_ | refine zBb rfl rfl rfl rfl rfl rfl rfl (zBa _ _) ?_
   first | refine zj rfl rfl rfl rfl rfl ?_ | refine zAv rfl rfl rfl rfl ?_ | refine zBb rfl rfl rfl rfl rfl rfl rfl chand ?_
   rw [b2]
   refine zI J J (zg J J) ?_
   refine zI J J (zG J) ?_
   refine zi J J J J (zK J J J J J J) ?_
   refine zi J J J J (zD J J J J) ?_
   refine zi J J J J (zBl J J) ?_
   refine zi J J J J (zG J) ?_
   refine zi J J J J (zK J J J J J J) ?_
   refine zi J J J J (zD J J J J) ?_
   refine zi J J J J (zBl J J) ?_
   refine zi J J J J (zg J J) ?_
   refine zI J J (zg J J) ?_
   refine zI J J (zG J) ?_
   refine zi J J J J (zK J J J J J J) ?_
   refine zi J J J J (zD J J J J) ?_
   refine zi J J J J (zCE J J) ?_
   rw [decide_eq_true q0]
   refine zI J J (zg J J) ?_
   refine zI J J (zG J) ?_
   refine zj J J J J J ?_
   refine zj J J J J J ?_
   refine zj J J J J J ?_
   refine zI J J (zg J J) ?_
   refine zu ?_
   refine zW (by kernel_rfl) ?_
   refine rn5 ?_
   refine zL hR J ?_
   rw [bad (.inr (.inr (.inr (.inl q0))))]; rfl
  by_cases q1 : 200 < quiet
  ·refine ze (by kernel_rfl) ?_
   refine zBU (fuel := 0) [0, 1, 2, 3, 4, 5, 6, 7, 8, 9, 10, 11, 12, 13, 14, 15, 16, 17, 18, 19, 20, 21, 22, 23, 24, 25, 26, 27, 28, 29, 30, 31, 32] [(2, .rp (.box (ruC r)) 0 0), (3, .rp (.box (poC ⟨cells, ha, hb, 1, quiet⟩)) 0 0), (5, iN r.pcs.length), (6, .fn 112 []), (7, z6 (ha ++ hb))] ⟨J, J, J, J, J, trivial⟩ (by kernel_rfl) (by decide) J J ?_
   refine zI J J (zK J J J J J J) ?_
   refine zI J J (zD J J J J) ?_
   refine zI J J (zG J) ?_
   refine zI J J (zG J) ?_
   refine zI J J (zDA J J (by omega)) ?_
   refine zCL J J J J J (zBa _ _) ?_
   refine zCL J J J J J ccell ?_
   rw [b1]
   refine zI J J (zG J) ?_
   refine zi J J J J (zG J) ?_
   refine zi J J J J (zG J) ?_
   first | refine zj rfl rfl rfl rfl rfl ?_ | refine zAv rfl rfl rfl rfl ?_ | refine zBb rfl rfl rfl rfl rfl rfl rfl (zBa _ _) ?_
   first | refine zj rfl rfl rfl rfl rfl ?_ | refine zAv rfl rfl rfl rfl ?_ | refine zBb rfl rfl rfl rfl rfl rfl rfl chand ?_
   rw [b2]
   refine zI J J (zg J J) ?_
   refine zI J J (zG J) ?_
   refine zi J J J J (zK J J J J J J) ?_
   refine zi J J J J (zD J J J J) ?_
   refine zi J J J J (zBl J J) ?_
   refine zi J J J J (zG J) ?_
   refine zi J J J J (zK J J J J J J) ?_
   refine zi J J J J (zD J J J J) ?_
   refine zi J J J J (zBl J J) ?_
   refine zi J J J J (zg J J) ?_
   refine zI J J (zg J J) ?_
   refine zI J J (zG J) ?_
   refine zi J J J J (zK J J J J J J) ?_
   refine zi J J J J (zD J J J J) ?_
   refine zi J J J J (zCE J J) ?_
   rw [decide_eq_false q0]
   refine zI J J (zg J J) ?_
   refine zI J J (zG J) ?_
   refine zi J J J J (zK J J J J J J) ?_
   refine zi J J J J (zD J J J J) ?_
   refine zi J J J J (zCY J J) ?_
   rw [decide_eq_true q1]
   refine zI J J (zg J J) ?_
   refine zu ?_
   refine zW (by kernel_rfl) ?_
   refine rn5 ?_
   refine zL hR J ?_
   rw [bad (.inr (.inr (.inr (.inr q1))))]; rfl
  refine ze (by kernel_rfl) ?_
  refine zBU (fuel := 0) [0, 1, 2, 3, 4, 5, 6, 7, 8, 9, 10, 11, 12, 13, 14, 15, 16, 17, 18, 19, 20, 21, 22, 23, 24, 25, 26, 27, 28, 29, 30, 31, 32] [(2, .rp (.box (ruC r)) 0 0), (3, .rp (.box (poC ⟨cells, ha, hb, 1, quiet⟩)) 0 0), (5, iN r.pcs.length), (6, .fn 112 []), (7, z6 (ha ++ hb))] ⟨J, J, J, J, J, trivial⟩ (by kernel_rfl) (by decide) J J ?_
  refine zI J J (zK J J J J J J) ?_
  refine zI J J (zD J J J J) ?_
  refine zI J J (zG J) ?_
  refine zI J J (zG J) ?_
  refine zI J J (zDA J J (by omega)) ?_
  refine zCL J J J J J (zBa _ _) ?_
  refine zCL J J J J J ccell ?_
  rw [b1]
  refine zI J J (zG J) ?_
  refine zi J J J J (zG J) ?_
  refine zi J J J J (zG J) ?_
  first | refine zj rfl rfl rfl rfl rfl ?_ | refine zAv rfl rfl rfl rfl ?_ | refine zBb rfl rfl rfl rfl rfl rfl rfl (zBa _ _) ?_
  first | refine zj rfl rfl rfl rfl rfl ?_ | refine zAv rfl rfl rfl rfl ?_ | refine zBb rfl rfl rfl rfl rfl rfl rfl chand ?_
  rw [b2]
  refine zI J J (zg J J) ?_
  refine zI J J (zG J) ?_
  refine zi J J J J (zK J J J J J J) ?_
  refine zi J J J J (zD J J J J) ?_
  refine zi J J J J (zBl J J) ?_
  refine zi J J J J (zG J) ?_
  refine zi J J J J (zK J J J J J J) ?_
  refine zi J J J J (zD J J J J) ?_
  refine zi J J J J (zBl J J) ?_
  refine zi J J J J (zg J J) ?_
  refine zI J J (zg J J) ?_
  refine zI J J (zG J) ?_
  refine zi J J J J (zK J J J J J J) ?_
  refine zi J J J J (zD J J J J) ?_
  refine zi J J J J (zCE J J) ?_
  rw [decide_eq_false q0]
  refine zI J J (zg J J) ?_
  refine zI J J (zG J) ?_
  refine zi J J J J (zK J J J J J J) ?_
  refine zi J J J J (zD J J J J) ?_
  refine zi J J J J (zCY J J) ?_
  rw [decide_eq_false q1]
  refine zI J J (zg J J) ?_
  refine zu ?_
  refine zW (by kernel_rfl) ?_
  refine rn4 ?_
  refine zL hR J ?_
  rw [good (fun q => q.elim (fun q => by rw [b1] at q; cases q) (fun q => q.elim (fun q => by rw [b2] at q; cases q) (fun q => q.elim (fun q => absurd q (by omega)) (fun q => q.elim q0 q1))))]; rfl
 refine ze (by kernel_rfl) ?_
 refine zBU (fuel := 0) [0, 1, 2, 3, 4, 5, 6, 7, 8, 9, 10, 11, 12, 13, 14, 15, 16, 17, 18, 19, 20, 21, 22, 23, 24, 25, 26, 27, 28, 29, 30, 31, 32] [(2, .rp (.box (ruC r)) 0 0), (3, .rp (.box (poC ⟨cells, ha, hb, turn, quiet⟩)) 0 0), (5, iN r.pcs.length), (6, .fn 112 []), (7, z6 (ha ++ hb))] ⟨J, J, J, J, J, trivial⟩ (by kernel_rfl) (by decide) J J ?_
 refine zI J J (zK J J J J J J) ?_
 refine zI J J (zD J J J J) ?_
 refine zI J J (zG J) ?_
 refine zI J J (zG J) ?_
 refine zI J J (zDA J J (by omega)) ?_
 refine zCL J J J J J (zBa _ _) ?_
 refine zCL J J J J J ccell ?_
 rw [b1]
 refine zI J J (zG J) ?_
 refine zi J J J J (zG J) ?_
 refine zi J J J J (zG J) ?_
 first | refine zj rfl rfl rfl rfl rfl ?_ | refine zAv rfl rfl rfl rfl ?_ | refine zBb rfl rfl rfl rfl rfl rfl rfl (zBa _ _) ?_
 first | refine zj rfl rfl rfl rfl rfl ?_ | refine zAv rfl rfl rfl rfl ?_ | refine zBb rfl rfl rfl rfl rfl rfl rfl chand ?_
 rw [b2]
 refine zI J J (zg J J) ?_
 refine zI J J (zG J) ?_
 refine zi J J J J (zK J J J J J J) ?_
 refine zi J J J J (zD J J J J) ?_
 refine zi J J J J (zBl J J) ?_
 rw [decide_eq_true (show ¬ turn = 0 from t0)]
 refine zi J J J J (zG J) ?_
 refine zi J J J J (zK J J J J J J) ?_
 refine zi J J J J (zD J J J J) ?_
 refine zi J J J J (zBl J J) ?_
 rw [decide_eq_true (show ¬ turn = 1 from t1)]
 refine zi J J J J (zg J J) ?_
 refine zI J J (zg J J) ?_
 refine zI J J (zG J) ?_
 refine zj J J J J J ?_
 refine zj J J J J J ?_
 refine zj J J J J J ?_
 refine zI J J (zg J J) ?_
 refine zI J J (zG J) ?_
 refine zj J J J J J ?_
 refine zj J J J J J ?_
 refine zj J J J J J ?_
 refine zI J J (zg J J) ?_
 refine zu ?_
 refine zW (by kernel_rfl) ?_
 refine rn5 ?_
 refine zL hR J ?_
 rw [bad (.inr (.inr (.inl ⟨t0, t1⟩)))]; rfl
/-- place.Check -/
theorem zCG (r : Go.Ax.Gm.Rules) (hr : Lens r) (p : Pos) (hp : LenP p) : zl Tryz.prog 55 [ruA r, poA p] (.int .i64 (zAp r p)) := by
 refine zd.value0 (zN (P := Tryz.prog) (fn := Tryz.f55) J J (by kernel_rfl) J (fun c hR hfix => ?_)) (fix := fun _ => False) (fun _ h => h) J J
 refine zY ?_
 repeat (first | refine zA (zO rfl) ?_ | refine zC ?_ | refine zB ?_ | refine zJ rfl ?_ | refine zAO rfl rfl ?_)
 refine zCn 2 3 [] J J J J trivial ⟨J, J, trivial⟩ J hfix ?_
 refine rn6 ?_
 refine zP J J J (zG1 r hr) ?_
 refine rn3 ?_
 refine zF J (fun h => ?_) (fun h => ?_)
 ·refine rn2 ?_
  refine zL hR J ?_
  unfold zAp; rw [if_pos h]; rfl
 refine rn6 ?_
 refine zP J J J (sound_ok r (zAu (Classical.not_not.1 h)) p hp) ?_
 refine rn0 ?_
 refine zL hR J ?_
 unfold zAp; rw [if_neg h]; rfl
structure Small (r : Go.Ax.Gm.Rules) : Prop where
 pcs : r.pcs.length ≤ 6
 ways : ∀ p ∈ r.pcs, p.ways.length ≤ 16
 start : r.start.length ≤ 64
 ends : r.ends.length ≤ 6
theorem zL2 {r : Go.Ax.Gm.Rules} (hv : ValidR r) : Small r := by
 refine ⟨hv.n6, fun p hp => ?_, ?_, hv.e6⟩
 ·obtain ⟨i, hi, rfl⟩ := List.mem_iff_getElem.1 hp
  have := (zEI (hv.pc i hi)).2.2.2.2.1
  rwa [zFB pc0 hi] at this
 ·have := hv.st
  have a := Int.mul_le_mul hv.w8 hv.h8 (by have := hv.h1; omega) (by decide)
  omega
def ruZ : List AV := [.str [], .int .i64 0, .int .i64 0, .nil, .nil, .bool false, .bool false, .nil, .int .i64 0, .int .i64 0, .int .i64 0]
def ruP (r : Go.Ax.Gm.Rules) (x : AV) : List AV := [.str r.name, .int .i64 r.w, .int .i64 r.h, x, z6 r.start, .bool r.falls, .bool r.keeps, .ro (zE8 r.ends) 0 r.ends.length, .int .i64 r.blocked, .int .i64 r.quiet, .int .i64 r.rep]
theorem zN5 {n : Nat} (l : List Go.Ax.Gm.Pc) : zAo n (zAi l) := fun i j _ hj => by
 have hj : j < 4 := hj
 show zCb n ((pcC (l.getD i pc0)).getD j .any) = true
 match j, hj with
 | 0, _ => rfl
 | 1, _ => rfl
 | 2, _ => rfl
 | 3, _ => rfl
theorem zGP {n : Nat} {l : List AV} (h : zB2 n l = true) : zAo n (.box l) := fun i j _ hj => zJr (c := .box l) h i j hj
abbrev hpR (r : Go.Ax.Gm.Rules) (k : Nat) : zQ := [some ⟨26, .box (ruC r)⟩, some ⟨26, .box ruZ⟩, some ⟨26, .box (ruP r (.sl 3 0 k))⟩, some ⟨114, zAi (r.pcs.take k)⟩]
/-- rules.Copy -/
theorem copyR_ok (r : Go.Ax.Gm.Rules) (hr : Small r) : zl Tryz.prog 77 [ruA r] (ruA r) := by
 refine zd.value0 (zN (P := Tryz.prog) (fn := Tryz.f77) J J (by kernel_rfl) J (fun c hR hfix => ?_)) (fix := fun _ => False) (fun _ h => h) J J
 have hpl := hr.pcs
 refine rn6 ?_
 refine zb (ruC r) J J J J J J J ?_
 refine rn9 ?_
 refine zAS [some ⟨26, .box (ruC r)⟩, some ⟨26, .box ruZ⟩, some ⟨26, .box (ruP r .nil)⟩] J ?_
 refine zDK 2 ⟨114, zAi []⟩ (.box (ruP r (.sl 3 0 0))) J J J J (fun i j hi hj => ?_) ?_
 ·obtain rfl : i = 0 := Nat.lt_one_iff.1 hi
  have hj : j < 11 := hj
  match j, hj with
  | 0, _ => exact .inl rfl
  | 1, _ => exact .inl rfl
  | 2, _ => exact .inl rfl
  | 3, _ => exact .inr ⟨rfl, rfl⟩
  | 4, _ => exact .inl rfl
  | 5, _ => exact .inl rfl
  | 6, _ => exact .inl rfl
  | 7, _ => exact .inl rfl
  | 8, _ => exact .inl rfl
  | 9, _ => exact .inl rfl
  | 10, _ => exact .inl rfl
 refine z8 (ι := Nat) (fun k => [(1, .ptr 0 0 0), (2, .ptr 1 0 0), (3, .ptr 2 0 0), (9, .ro (zAi r.pcs) 0 r.pcs.length), (10, iN r.pcs.length), (11, iN k)]) (fun k => hpR r k)
  (fun k => k ≤ r.pcs.length) (fun k => r.pcs.length - k) 0 ⟨⟨rfl, rfl, rfl, rfl, rfl, rfl, trivial⟩, rfl, Nat.zero_le _⟩ ?_
 intro k hk
 refine rn4 ?_
 refine zF J (fun h2 => ?_) (fun h2 => ?_)
 ·have hk' : k < r.pcs.length := by omega
  generalize hp : r.pcs.getD k pc0 = p
  have hpw := hr.ways p (by rw [← hp]; exact zAN pc0 hk')
  have htk : r.pcs.take (k + 1) = r.pcs.take k ++ [p] := by rw [zz _ pc0 k hk', hp]
  have htl : (r.pcs.take k).length = k := by rw [List.length_take]; omega
  refine zFu ?_
  repeat (refine zAK rfl rfl rfl ?_)
  refine zb (pcC p) J J J J J (by rw [← hp]; rfl) J ?_
  refine rn5 ?_
  refine zP J J J (cloneW p.ways (by omega)) ?_
  repeat (first | refine zC ?_ | refine zB ?_ | refine zJ rfl ?_ | refine zA (zU rfl rfl rfl rfl rfl) ?_ | refine zA (zM rfl rfl rfl rfl rfl rfl) ?_ | refine zA (qpp rfl rfl rfl rfl rfl rfl rfl) ?_ | refine zAF rfl rfl rfl rfl rfl rfl rfl Nat.zero_lt_one ?_ | refine zAH rfl rfl rfl rfl rfl rfl rfl rfl rfl rfl rfl ?_)
  refine zBV [p] J J J J J J J J htl J J J J (by show 0 + 1 ≤ 1; omega) (fun k' j hk' hj => ?_) (by show (k + 1) * 48 ≤ _ ∧ _; omega) zMi (by rw [hfix]; exact fun h => h) ?_
  ·obtain rfl : k' = 0 := Nat.lt_one_iff.1 hk'
   match j, hj with
   | 0, _ => rfl
   | 1, _ => rfl
   | 2, _ => rfl
   | 3, _ => rfl
  rw [← htk]
  repeat (first | refine zC ?_ | refine zAW ?_ | refine zA (zM rfl rfl rfl rfl rfl rfl) ?_ | refine zAF rfl rfl rfl rfl rfl rfl rfl Nat.zero_lt_one ?_)
  refine zB ?_
  refine zBh (hpR r (k + 1)) [some ⟨114, .box (pcC p)⟩] [(1, .ptr 0 0 0), (2, .ptr 1 0 0), (3, .ptr 2 0 0), (9, .ro (zAi r.pcs) 0 r.pcs.length), (10, iN r.pcs.length), (11, iN k)] J ⟨J, J, J, J, J, J, trivial⟩ (fun h hh => by rw [hfix] at hh; exact hh.elim) (zBo (zGP J) (zBo (zGP J) (zBo (zGP J) (zBo (zN5 _) zBK)))) J ?_
  refine rn3 ?_
  exact zR ⟨k + 1, by omega, by omega, ⟨J, J, J, J, J, J, trivial⟩, J⟩
 ·have hk' : k = r.pcs.length := by omega
  subst hk'
  have htl : hpR r r.pcs.length = [some ⟨26, .box (ruC r)⟩, some ⟨26, .box ruZ⟩, some ⟨26, .box (ruP r (.sl 3 0 r.pcs.length))⟩, some ⟨114, zAi r.pcs⟩] := by show [_, _, _, some (AObj.mk _ (zAi (r.pcs.take r.pcs.length)))] = _; rw [List.take_length]
  rw [htl]
  refine rn5 ?_
  refine ze (by kernel_rfl) ?_
  refine zm (fuel := 3) [0, 1, 2, 3, 4, 5, 6] [(1, .ptr 0 0 0), (2, .ptr 1 0 0), (3, .ptr 2 0 0)] ⟨J, J, J, trivial⟩ (by kernel_rfl) (by decide) J J ?_
  refine zI J J (zM J J J J J J) ?_
  refine zI J J (zU J J J J J) ?_
  refine zCL J J J J J (zIf r.start (by have := hr.start; omega)) ?_
  refine zI J J (zM J J J J J J) ?_
  refine zI J J (zU J J J J J) ?_
  refine zCL J J J J J (cloneE r.ends (by have := hr.ends; omega)) ?_
  refine zI J J (zM J J J J J J) ?_
  refine zu ?_
  refine zH (is := [7]) (by kernel_rfl) (by simp) J ⟨fun o ho => ?_, trivial⟩
  all_goals (cases ho)
  refine rn9 ?_
  refine zV 8 J (by kernel_rfl) (by kernel_rfl) (by kernel_rfl) J (zM J J J J J J) J ?_
  refine zH (is := [9]) (by kernel_rfl) (by simp) J ⟨fun o ho => ?_, trivial⟩
  all_goals (cases ho)
  refine rn9 ?_
  refine zW (by kernel_rfl) ?_
  refine rn6 ?_
  refine zb (ruP r (.sl 3 0 r.pcs.length)) J J J J J J J ?_
  refine rn7 ?_
  refine zBE [none, none, none, some ⟨114, zAi r.pcs⟩] [none, some ⟨26, .box (ruC r)⟩, none, none] [(2, .ptr 1 0 0)] ?_ (zCc (zCc (zCc (zB8 (zAZ zN6) zCd)))) J ?_ ⟨⟨.ptr 1 0 0, J, .inl J⟩, trivial⟩ ?_
  ·intro h o ho
   match h, ho with
   | 0, ho => simp at ho
   | 1, ho => simp at ho
   | 2, ho => simp at ho
   | 3, ho => exact ho
   | _ + 4, ho => simp at ho
  ·intro h o ho
   match h, ho with
   | 0, ho => simp at ho
   | 1, ho =>
    cases ho
    refine ⟨fun o h => by simp at h, ⟨26, .box (ruP r (.sl 3 0 r.pcs.length))⟩, J, J, J, J, fun i j hi hj => ?_⟩
    obtain rfl : i = 0 := Nat.lt_one_iff.1 hi
    have hj : j < 11 := hj
    match j, hj with
    | 0, _ => exact .inl rfl
    | 1, _ => exact .inl rfl
    | 2, _ => exact .inl rfl
    | 3, _ => exact .inr (.inr ⟨rfl, fun o ho => by cases ho; show 0 + r.pcs.length ≤ r.pcs.length; omega⟩)
    | 4, _ => exact .inl rfl
    | 5, _ => exact .inl rfl
    | 6, _ => exact .inl rfl
    | 7, _ => exact .inl rfl
    | 8, _ => exact .inl rfl
    | 9, _ => exact .inl rfl
    | 10, _ => exact .inl rfl
   | 2, ho => simp at ho
   | 3, ho => simp at ho
   | _ + 4, ho => simp at ho
  repeat (refine zAA ?_)
  exact zL hR J J
structure SmallP (p : Pos) : Prop where
 c : p.cells.length ≤ 64
 h0 : p.h0.length ≤ 6
 h1 : p.h1.length ≤ 6
theorem SmallP.len {p : Pos} (h : SmallP p) : LenP p := ⟨by have := h.c; omega, by have := h.h0; omega, by have := h.h1; omega⟩
theorem zBT {r : Go.Ax.Gm.Rules} (hv : ValidR r) {p : Pos} (h : Sound r p) : SmallP p := by
 have a := Int.mul_le_mul hv.w8 hv.h8 (by have := hv.h1; omega) (by decide)
 have b := hv.n6
 have c1 := h.cl
 have c2 := h.l0
 have c3 := h.l1
 exact ⟨by omega, by omega, by omega⟩
/-- place.Copy -/
theorem zIj (p : Pos) (hp : SmallP p) : zl Tryz.prog 53 [poA p] (poA p) := by
 refine zd.value0 (zN (P := Tryz.prog) (fn := Tryz.f53) J J (by kernel_rfl) J (fun c hR hfix => ?_)) (fix := fun _ => False) (fun _ h => h) J J
 obtain ⟨h1, h2, h3⟩ := hp
 refine rn6 ?_
 refine zP J J J (zIf p.cells (by omega)) ?_
 refine rn8 ?_
 refine ze (by kernel_rfl) ?_
 refine zm (fuel := 2) [0, 1, 2, 3, 4, 5, 6, 7, 8] [(1, .ptr 0 0 0), (2, .ptr 1 0 0)] ⟨J, J, trivial⟩ (by kernel_rfl) (by decide) J J ?_
 refine zI J J (zM J J J J J J) ?_
 refine zI J J (zAh J J J J (by first | (simp only [Nat.zero_add, Int.toNat_natCast]; exact J) | exact J) (by omega)) ?_
 refine zI J J (zU J J J J J) ?_
 refine zCL J J J J J (zIf p.h0 (by omega)) ?_
 refine zI J J (zM J J J J J J) ?_
 refine zI J J (zAh J J J J (by first | (simp only [Nat.zero_add, Int.toNat_natCast]; exact J) | exact J) (by omega)) ?_
 refine zI J J (zU J J J J J) ?_
 refine zCL J J J J J (zIf p.h1 (by omega)) ?_
 refine zI J J (zCW J J J J J J) ?_
 refine zu ?_
 refine zV 9 J (by kernel_rfl) (by kernel_rfl) (by kernel_rfl) J (zM J J J J J J) J ?_
 refine zH (is := [10]) (by kernel_rfl) (by simp) J ⟨fun o ho => ?_, trivial⟩
 all_goals (cases ho)
 refine zGz (c' := .box (poC p)) (i := 0) (j := 1) J J J J J (by show 1 + 2 ≤ 5; omega) Nat.zero_lt_one J J (fun i' j' hi' hj' => ?_) ?_
 ·obtain rfl : i' = 0 := Nat.lt_one_iff.1 hi'
  have hj' : j' < 5 := hj'
  match j', hj' with
  | 0, _ => rfl
  | 1, _ => rfl
  | 2, _ => rfl
  | 3, _ => rfl
  | 4, _ => rfl
 refine rn1 ?_
 refine zW (by kernel_rfl) ?_
 refine rn6 ?_
 refine zb (poC p) J J J J J J J ?_
 refine rn0 ?_
 exact zL hR J J
theorem zGg (a : Mv) (j k : Nat) (hj : j < 3) : ((mvC a).getD j .any).forget k = (mvC a).getD j .any := by
 match j, hj with
 | 0, _ => rfl
 | 1, _ => rfl
 | 2, _ => rfl
theorem zDO (a : Mv) (j : Nat) (hj : j < 3) : noRef ((mvC a).getD j .any) = true := by
 match j, hj with
 | 0, _ => rfl
 | 1, _ => rfl
 | 2, _ => rfl
theorem zJ1 {w s : Nat} (hw : 0 < w) {p : Pos} {k : Nat} : k < s / w ↔ (k + 1) * w ≤ s := by rw [← Nat.le_div_iff_mul_le hw]; omega
/-- moves.filled -/
theorem zNp (r : Go.Ax.Gm.Rules) (hw : 1 ≤ r.w ∧ r.w ≤ 8) (p : Pos) (hp : SmallP p) (s : Nat) (hs : s < p.cells.length) : zl Tryz.prog 120 [ruA r, poA p, .int .i64 s] (.bool (zG9 r.w.toNat s p)) := by
 refine zd.value0 (zN (P := Tryz.prog) (fn := Tryz.f120) J J (by kernel_rfl) J (fun c hR hfix => ?_)) (fix := fun _ => False) (fun _ h => h) J J
 have hc := hp.c
 obtain ⟨W, hW⟩ : ∃ W : Nat, r.w = (W : Int) := ⟨r.w.toNat, by omega⟩
 have hWt : r.w.toNat = W := by omega
 have hW0 : 0 < W := by omega
 rw [hWt] at hR
 refine zY ?_
 repeat (first | refine zA (zO rfl) ?_ | refine zC ?_ | refine zB ?_ | refine zJ rfl ?_ | refine zAO rfl rfl ?_)
 refine zCn 3 4 [(2, iN s)] J J J J ⟨J, trivial⟩ ⟨J, J, J, trivial⟩ J hfix ?_
 repeat (first | refine zA (zG rfl) ?_ | refine zA (zO rfl) ?_ | refine zC ?_ | refine zB ?_ | refine zY ?_ | refine zJ rfl ?_ | refine zAc ?_ | refine zA (zBL rfl rfl (by omega)) ?_ | refine zA (zD rfl rfl rfl rfl) ?_ | refine zA (zK rfl rfl rfl rfl rfl rfl) ?_)
 refine z8 (ι := Nat) (fun k => [(3, .rp (.box (ruC r)) 0 0), (4, .rp (.box (poC p)) 0 0), (2, .int .i64 ((s : Int) - ((k + 1) * W : Nat)))]) (fun _ => [])
  (fun k => k ≤ s / W ∧ (List.range k).all (fun k => decide (zAL p (s - (k + 1) * W) ≠ 0)) = true) (fun k => s / W - k) 0 ⟨⟨rfl, rfl, ?_, trivial⟩, rfl, Nat.zero_le _, rfl⟩ ?_
 ·show some (AV.int .i64 _) = _
  congr 2; rw [hW]; omega
 intro k ⟨hk, hall⟩
 have hmul : (k + 1) * W = k * W + W := Nat.succ_mul k W
 have hkW : k * W ≤ s := Nat.le_trans (Nat.mul_le_mul_right W hk) (Nat.div_mul_le_self s W)
 refine rn7 ?_
 refine zF J (fun h => ?_) (fun h => ?_)
 ·have hle : (k + 1) * W ≤ s := by omega
  have hlt : k < s / W := (zJ1 hW0 (p := p)).2 hle
  have hall' : (List.range (k + 1)).all (fun k => decide (zAL p (s - (k + 1) * W) ≠ 0)) = decide (zAL p (s - (k + 1) * W) ≠ 0) := by rw [List.range_succ, List.all_append, hall]; simp
  have hn : ((s : Int) - ((k + 1) * W : Nat)).toNat = s - (k + 1) * W := by omega
  repeat (first | refine zA (zG rfl) ?_ | refine zA (zBZ rfl rfl rfl) ?_ | refine zC ?_ | refine zB ?_ | refine zY ?_ | refine zJ rfl ?_ | refine zAc ?_ | refine zAQ ?_ | refine zA (zBR rfl rfl) ?_ | refine zA (zh rfl rfl rfl rfl (by first | (simp only [Nat.zero_add, Int.toNat_natCast, Int.toNat_zero]; exact rfl) | exact rfl) (by omega)) ?_ | refine zA (zD rfl rfl rfl rfl) ?_ | refine zA (zK rfl rfl rfl rfl rfl rfl) ?_)
  refine zF J (fun h2 => ?_) (fun h2 => ?_)
  ·rw [hn] at h2
   refine rn6 ?_
   refine zL hR J ?_
   have : zG9 W s p = false := by
    unfold zG9
    refine Bool.eq_false_iff.2 (fun q => ?_)
    have := List.all_eq_true.1 q k (List.mem_range.2 hlt)
    rw [decide_eq_true_eq] at this
    exact this h2
   rw [this]; rfl
  ·rw [hn] at h2
   repeat (first | refine zA (zG rfl) ?_ | refine zA (zO rfl) ?_ | refine zC ?_ | refine zB ?_ | refine zJ rfl ?_ | refine zAW ?_ | refine zAQ ?_ | refine zA (zBL rfl rfl (by omega)) ?_ | refine zA (zD rfl rfl rfl rfl) ?_ | refine zA (zK rfl rfl rfl rfl rfl rfl) ?_)
   refine zR ⟨k + 1, ⟨by omega, by rw [hall']; exact decide_eq_true h2⟩, by omega, ⟨J, J, ?_, trivial⟩, J⟩
   show some (AV.int .i64 _) = _
   congr 2; rw [hW, Nat.succ_mul (k + 1) W]; omega
 ·have hk' : k = s / W := by
   rcases Nat.lt_or_ge k (s / W) with q | q
   ·have := (zJ1 hW0 (p := p)).1 q; omega
   ·omega
  refine rn5 ?_
  refine zL hR J ?_
  unfold zG9
  rw [← hk', hall]; rfl
def zBd (r : Go.Ax.Gm.Rules) (p : Pos) (k : Nat) : List Mv := (List.range k).flatMap (fun s => if zFq r p s = true then zJA (zBt p p.turn) s else [])
def zDr (l : List Int) (s k : Nat) : List Mv := ((List.range k).filter (fun k : Nat => decide (0 < l.getD k 0))).map (fun k : Nat => ⟨-1, (s : Int), (k : Int)⟩)
theorem zMl (l : List Int) (s k : Nat) : zDr l s (k + 1) = if 0 < l.getD k 0 then zDr l s k ++ [⟨-1, (s : Int), (k : Int)⟩] else zDr l s k := by
 unfold zDr
 rw [List.range_succ, List.filter_append, List.map_append]
 split
 ·rename_i h; rw [List.filter_cons_of_pos (by exact decide_eq_true h)]; rfl
 ·rename_i h; rw [List.filter_cons_of_neg (by rw [decide_eq_false h]; exact Bool.false_ne_true)]; simp
theorem zKJ (l : List Int) (s k : Nat) : (zDr l s k).length ≤ k := by
 unfold zDr
 rw [List.length_map]
 exact Nat.le_trans (List.length_filter_le ..) (by rw [List.length_range]; exact Nat.le_refl _)
theorem zH9 (r : Go.Ax.Gm.Rules) (p : Pos) (k : Nat) : zBd r p (k + 1) = zBd r p k ++ (if zFq r p k = true then zJA (zBt p p.turn) k else []) := by
 unfold zBd
 rw [List.range_succ, List.flatMap_append]; simp
theorem zGk (r : Go.Ax.Gm.Rules) (p : Pos) (hl : (zBt p p.turn).length ≤ 6) : ∀ k, (zBd r p k).length ≤ 6 * k
 | 0 => Nat.le_refl _
 | k + 1 => by
  have ih := zGk r p hl k
  rw [zH9, List.length_append]
  have : (if zFq r p k = true then zJA (zBt p p.turn) k else []).length ≤ 6 := by
   split
   ·exact Nat.le_trans (zKJ (zBt p p.turn) k _) hl
   ·exact Nat.zero_le _
  omega
/-- moves.puts -/
theorem puts_ok (r : Go.Ax.Gm.Rules) (hw : 1 ≤ r.w ∧ r.w ≤ 8) (p : Pos) (hp : SmallP p) (ht : p.turn = 0 ∨ p.turn = 1) : zHy Tryz.prog 94 [ruA r, poA p] (fun N => .sl N 0 (zFr r p).length) ⟨58, zAy (zFr r p)⟩ := by
 refine zd.fresh (K := fun v H => v = .sl 0 0 (zFr r p).length ∧ H = [some ⟨58, zAy (zFr r p)⟩]) (zN (P := Tryz.prog) (fn := Tryz.f94) J J (by kernel_rfl) J (fun c hR hfix => ?_)) (fix := fun _ => False) (fun _ h => h) J (fun H => ⟨J, by simp [zGd, inB, ruC, poC]⟩) ?_
 ·have hc := hp.c
  have hh6 : (zBt p p.turn).length ≤ 6 := by unfold zBt; have := hp.h0; have := hp.h1; split <;> omega
  generalize hL : zBt p p.turn = L at hh6
  obtain ⟨W, hW⟩ : ∃ W : Nat, r.w = (W : Int) := ⟨r.w.toNat, by omega⟩
  have hWt : r.w.toNat = W := by omega
  refine zY ?_
  repeat (first | refine zA (zO rfl) ?_ | refine zC ?_ | refine zB ?_ | refine zJ rfl ?_ | refine zAO rfl rfl ?_)
  refine zCn 2 3 [(4, .nil)] J J J J ⟨J, trivial⟩ ⟨J, J, J, trivial⟩ J hfix ?_
  refine zBx ?_
  refine zBq 5 ⟨58, zAy []⟩ J J ?_
  refine z8 (ι := Nat) (fun k => [(2, .rp (.box (ruC r)) 0 0), (3, .rp (.box (poC p)) 0 0), (5, .sl 0 0 (zBd r p k).length), (11, z6 p.cells), (12, iN p.cells.length), (13, iN k)]) (fun k => [some ⟨58, zAy (zBd r p k)⟩])
   (fun k => k ≤ p.cells.length) (fun k => p.cells.length - k) 0 ⟨⟨rfl, rfl, rfl, rfl, rfl, rfl, trivial⟩, rfl, Nat.zero_le _⟩ ?_
  intro k hk
  refine rn4 ?_
  refine zF J (fun h => ?_) (fun h => ?_)
  ·have hk' : k < p.cells.length := by omega
   have hsucc := zH9 r p k
   have hlen := zGk r p (by rw [hL]; exact hh6) k
   rw [hL] at hsucc
   have no : zFq r p k = false → zBd r p (k + 1) = zBd r p k := fun q => by rw [hsucc, q]; simp
   have yes : zFq r p k = true → zBd r p (k + 1) = zBd r p k ++ zDr L k L.length := fun q => by rw [hsucc, q]; rfl
   refine rn6 ?_
   apply zAJ (H := [some ⟨58, zAy (zBd r p k)⟩]) [(2, .rp (.box (ruC r)) 0 0), (3, .rp (.box (poC p)) 0 0), (5, .sl 0 0 (zBd r p k).length), (11, z6 p.cells), (12, iN p.cells.length), (13, iN k), (6, iN k), (36, .bool (!(zFq r p k)))]
   ·intro fin
    refine zo J J (fun g1 => ?_) (fun g1 => ?_)
    ·repeat (first | refine zC ?_ | refine zB ?_ | refine zAn rfl rfl ?_ | refine zAX rfl rfl rfl ?_ | refine zA (zg rfl rfl) ?_)
     have g1 : ¬ zAL p k = 0 := g1
     exact fin _ ⟨J, J, J, J, J, J, J, by unfold zFq; rw [decide_eq_false g1]; rfl, trivial⟩
    have g1 : zAL p k = 0 := Classical.not_not.1 g1
    refine zBA ?_
    refine zAz J J (fun g2 => ?_) (fun g2 => ?_)
    ·repeat (first | refine zA (zG rfl) ?_ | refine zr rfl rfl ?_ | refine zA (zDs rfl rfl) ?_ | refine zA (zg rfl rfl) ?_ | refine zA (zD rfl rfl rfl rfl) ?_ | refine zA (zK rfl rfl rfl rfl rfl rfl) ?_)
     refine zo J J (fun g3 => ?_) (fun g3 => ?_)
     ·refine zFu ?_
      refine zP J J J (zNp r hw p hp k hk') ?_
      repeat (first | refine zC ?_ | refine zB ?_ | refine zr rfl rfl ?_ | refine zA (zEK rfl) ?_ | refine zA (zg rfl rfl) ?_)
      exact fin _ ⟨J, J, J, J, J, J, J, by unfold zFq; rw [decide_eq_true g1, g2, decide_eq_true (show r.w.toNat ≤ k by omega), Bool.true_and, Bool.true_and, Bool.true_and, Bool.not_not]; rfl, trivial⟩
     ·refine zBA ?_
      exact fin _ ⟨J, J, J, J, J, J, J, by unfold zFq; rw [decide_eq_true g1, g2, decide_eq_false (show ¬ r.w.toNat ≤ k by omega)]; rfl, trivial⟩
    ·refine zBA ?_
     exact fin _ ⟨J, J, J, J, J, J, J, by unfold zFq; rw [decide_eq_true g1, g2]; rfl, trivial⟩
   refine zAP J (fun g => ?_) (fun g => ?_)
   ·rw [Bool.not_eq_true'] at g
    refine rn5 ?_
    refine zR ⟨k + 1, by omega, by omega, ⟨J, J, ?_, J, J, J, trivial⟩, ?_⟩
    ·rw [no g]; rfl
    ·rw [no g]
   rw [Bool.not_eq_false'] at g
   refine rn20 ?_
   apply zAJ (H := [some ⟨58, zAy (zBd r p k)⟩]) [(2, .rp (.box (ruC r)) 0 0), (3, .rp (.box (poC p)) 0 0), (5, .sl 0 0 (zBd r p k).length), (11, z6 p.cells), (12, iN p.cells.length), (13, iN k), (6, iN k), (41, z6 L), (42, iN L.length), (43, .int .i64 ((0 : Nat) : Int))]
   ·intro fin
    rcases ht with ht | ht
    ·have e : L = p.h0 := by rw [← hL]; unfold zBt; rw [if_pos ht]
     refine zJ J ?_
     refine zBA ?_
     rw [ht]
     repeat (first | refine zA (zG rfl) ?_ | refine zC ?_ | refine zB ?_ | refine zA (zAx rfl rfl rfl) ?_ | refine zA (zD rfl rfl rfl rfl) ?_ | refine zA (zBz rfl rfl rfl rfl (by first | (simp only [Nat.zero_add, Int.toNat_natCast]; exact rfl) | exact rfl) (by omega)) ?_)
     exact fin _ ⟨J, J, J, J, J, J, J, by rw [e]; rfl, by rw [e]; rfl, J, trivial⟩
    ·have e : L = p.h1 := by rw [← hL]; unfold zBt; rw [if_neg (by omega)]
     refine zJ J ?_
     refine zBA ?_
     rw [ht]
     repeat (first | refine zA (zG rfl) ?_ | refine zC ?_ | refine zB ?_ | refine zA (zAx rfl rfl rfl) ?_ | refine zA (zD rfl rfl rfl rfl) ?_ | refine zA (zBz rfl rfl rfl rfl (by first | (simp only [Nat.zero_add, Int.toNat_natCast]; exact rfl) | exact rfl) (by omega)) ?_)
     exact fin _ ⟨J, J, J, J, J, J, J, by rw [e]; rfl, by rw [e]; rfl, J, trivial⟩
   repeat (refine zAc ?_)
   refine z8 (ι := Nat) (fun j => [(2, .rp (.box (ruC r)) 0 0), (3, .rp (.box (poC p)) 0 0), (5, .sl 0 0 (zBd r p k ++ zDr L k j).length), (11, z6 p.cells), (12, iN p.cells.length), (13, iN k), (6, iN k), (41, z6 L), (42, iN L.length), (43, iN j)]) (fun j => [some ⟨58, zAy (zBd r p k ++ zDr L k j)⟩])
    (fun j => j ≤ L.length) (fun j => L.length - j) 0 ⟨⟨rfl, rfl, ?_, rfl, rfl, rfl, rfl, rfl, rfl, rfl, trivial⟩, ?_, Nat.zero_le _⟩ ?_
   ·rw [show zDr L k 0 = [] from rfl, List.append_nil]; rfl
   ·rw [show zDr L k 0 = [] from rfl, List.append_nil]
   intro j hj
   have hjl := zKJ L k j
   have hal : (zBd r p k ++ zDr L k j).length = (zBd r p k).length + (zDr L k j).length := List.length_append
   refine rn4 ?_
   refine zF J (fun q => ?_) (fun q => ?_)
   ·have hj' : j < L.length := by omega
    have hps := zMl L k j
    refine rn6 ?_
    refine zF J (fun q2 => ?_) (fun q2 => ?_)
    ·have q2 : 0 < L.getD j 0 := q2
     rw [if_pos q2] at hps
     have hnl : (zBd r p k ++ zDr L k (j + 1)).length = (zBd r p k ++ zDr L k j).length + 1 := by rw [hps, ← List.append_assoc, List.length_append (bs := [_])]; rfl
     refine rn8 ?_
     refine zBV [⟨-1, (k : Int), (j : Int)⟩] J J J J J J J J J J J J J (by show 0 + 1 ≤ 1; omega) (fun k' j' hk' hj' => ?_) (by show ((zBd r p k ++ zDr L k j).length + 1) * 24 ≤ _ ∧ _; omega) zGg (by rw [hfix]; exact fun h => h) ?_
     ·obtain rfl : k' = 0 := Nat.lt_one_iff.1 hk'
      match j', hj' with
      | 0, _ => rfl
      | 1, _ => rfl
      | 2, _ => rfl
     refine rn5 ?_
     refine zR ⟨j + 1, by omega, by omega, ⟨J, J, ?_, J, J, J, J, J, J, J, trivial⟩, ?_⟩
     ·rw [hnl]; rfl
     ·rw [hps, ← List.append_assoc]; rfl
    ·have q2 : ¬ 0 < L.getD j 0 := q2
     rw [if_neg q2] at hps
     refine rn5 ?_
     refine zR ⟨j + 1, by omega, by omega, ⟨J, J, ?_, J, J, J, J, J, J, J, trivial⟩, ?_⟩
     ·rw [hps]; rfl
     ·rw [hps]
   ·have hj' : j = L.length := by omega
    subst hj'
    refine rn5 ?_
    refine zR ⟨k + 1, by omega, by omega, ⟨J, J, ?_, J, J, J, trivial⟩, ?_⟩
    ·rw [yes g]; rfl
    ·rw [yes g]
  ·have hk' : k = p.cells.length := by omega
   subst hk'
   refine rn5 ?_
   exact zL hR J ⟨J, J⟩
 ·rintro v H ⟨rfl, rfl⟩
  refine ⟨?_, fun h o ho => zEN (zAZ zDO) h o ho, 0, J, fun n => rfl⟩
  intro o ho; simp at ho; subst ho; show 0 + (zFr r p).length ≤ (zFr r p).length; omega
def zFn (turn c : Int) : Bool := decide (0 < c) && decide ((c - 1).tmod 2 ≠ turn)
theorem hitB_eq (take turn c : Int) : hitB take turn c = ((decide (take = 0) && decide (c = 0)) || ((decide (take = 1) && (decide (c = 0) || zFn turn c)) || (decide (take = 2) && zFn turn c))) := rfl
theorem zMI (r : Go.Ax.Gm.Rules) (p : Pos) (take dx dy : Int) : ∀ (n : Nat) (x y : Int), (zHW r p take dx dy n x y).length ≤ n
 | 0, _, _ => Nat.le_refl _
 | n + 1, x, y => by
  have ih := zMI r p take dx dy n (x + dx) (y + dy)
  rw [zHW]
  split
  ·exact Nat.zero_le _
  ·rw [List.length_append]
   have a : (if hitB take p.turn (zAL p ((y + dy) * r.w + (x + dx)).toNat) = true then [(y + dy) * r.w + (x + dx)] else []).length ≤ 1 := by split <;> simp
   have b : (if zAL p ((y + dy) * r.w + (x + dx)).toNat ≠ 0 then [] else zHW r p take dx dy n (x + dx) (y + dy)).length ≤ n := by split; exact Nat.zero_le _; exact ih
   omega
theorem zIe {r : Go.Ax.Gm.Rules} (hv : ValidR r) {p : Pos} (S : Sound r p) (s : Nat) : 0 ≤ zAL p s ∧ zAL p s ≤ 12 := by
 have := zE6 S s
 have := hv.n6
 omega
/-- moves.way -/
theorem way_ok (r : Go.Ax.Gm.Rules) (hv : ValidR r) (p : Pos) (S : Sound r p) (s : Nat) (hs : s < p.cells.length) (w : Go.Ax.Gm.Way) (hwb : zET w = true) :
 zl Tryz.prog 95 [ruA r, poA p, .int .i64 s, .agg (zF3 w)] (z6 (zHv r p s w)) := by
 refine zd.value (K := fun v H => v = .sl 0 0 (zHv r p s w).length ∧ H = [some ⟨3, .ints .i64 (zHv r p s w)⟩]) (zN (P := Tryz.prog) (fn := Tryz.f95) J J (by kernel_rfl) J (fun c hR hfix => ?_)) (fix := fun _ => False) (fun _ h => h) J ?_
 ·have hc := (zBT hv S).c
  have hcl := S.cl
  have hw : 1 ≤ r.w ∧ r.w ≤ 8 := ⟨hv.w1, hv.w8⟩
  have hh : 1 ≤ r.h ∧ r.h ≤ 8 := ⟨hv.h1, hv.h8⟩
  have htn : 0 ≤ p.turn ∧ p.turn ≤ 1 := by have := S.tn; omega
  unfold zET at hwb
  simp only [Bool.and_eq_true, Bool.not_eq_true'] at hwb
  obtain ⟨b1, b2, _, b4, b5⟩ := hwb
  have b1 := Go.Ax.Gm.within_iff.1 b1
  have b2 := Go.Ax.Gm.within_iff.1 b2
  have b4 := Go.Ax.Gm.within_iff.1 b4
  have b5 := Go.Ax.Gm.within_iff.1 b5
  have hsx : 0 ≤ (s : Int) / r.w ∧ (s : Int) / r.w < r.h ∧ 0 ≤ (s : Int) % r.w ∧ (s : Int) % r.w < r.w := by
   refine ⟨Int.ediv_nonneg (by omega) (by omega), Int.ediv_lt_of_lt_mul (by omega) ?_, Int.emod_nonneg _ (by omega), Int.emod_lt_of_pos _ (by omega)⟩
   rw [Int.mul_comm, ← hcl]; omega
  generalize hD : dyOf p w = D
  have hD7 : -7 ≤ D ∧ D ≤ 7 := by
   rw [← hD]
   unfold dyOf
   by_cases q : p.turn = 1
   ·rw [if_pos q]; omega
   ·rw [if_neg q]; exact b2
  have hM : zHv r p s w = zHW r p w.take w.dx D w.most.toNat ((s : Int) % r.w) ((s : Int) / r.w) := by
   unfold zHv; rw [hD, Int.tdiv_eq_ediv_of_nonneg (by omega), Int.tmod_eq_emod_of_nonneg (by omega)]
  rw [hM] at hR
  generalize hW : zHW r p w.take w.dx D w.most.toNat ((s : Int) % r.w) ((s : Int) / r.w) = WL at hR
  refine zY ?_
  repeat (first | refine zA (zO rfl) ?_ | refine zC ?_ | refine zB ?_ | refine zJ rfl ?_ | refine zAO rfl rfl ?_)
  refine zGX [(4, .rp (.box (ruC r)) 0 0), (5, .rp (.box (poC p)) 0 0), (7, .rp (.box (zF3 w)) 0 0), (2, iN s), (8, .nil)] (zB8 (zq rfl) (zB8 (zq rfl) (zB8 (zq rfl) zCd))) ⟨⟨.ptr 0 0 0, rfl, .inr (.inr ⟨rfl, fun o ho => by cases ho; exact Nat.zero_lt_one⟩)⟩, ⟨.ptr 1 0 0, rfl, .inr (.inr ⟨rfl, fun o ho => by cases ho; exact Nat.zero_lt_one⟩)⟩, ⟨.ptr 2 0 0, rfl, .inr (.inr ⟨rfl, fun o ho => by cases ho; exact Nat.zero_lt_one⟩)⟩, ⟨_, rfl, .inl rfl⟩, ⟨_, rfl, .inl rfl⟩, trivial⟩ ⟨rfl, rfl, rfl, rfl, rfl, trivial⟩ rfl hfix ?_
  refine zBx ?_
  apply zAJ (H := []) [(4, .rp (.box (ruC r)) 0 0), (5, .rp (.box (poC p)) 0 0), (7, .rp (.box (zF3 w)) 0 0), (2, iN s), (9, .nil), (10, .int .i64 D)]
  ·intro fin
   refine zF J (fun t1 => ?_) (fun t1 => ?_)
   ·repeat (first | refine zA (zG rfl) ?_ | refine zJ rfl ?_)
    refine zA (q_neg J (by omega)) ?_
    refine zFt ?_
    exact fin _ ⟨J, J, J, J, J, by rw [← hD]; unfold dyOf; rw [if_pos t1]; rfl, trivial⟩
   ·refine zFt ?_
    exact fin _ ⟨J, J, J, J, J, by rw [← hD]; unfold dyOf; rw [if_neg t1]; rfl, trivial⟩
  repeat (refine zY ?_)
  refine ze (by kernel_rfl) ?_
  refine zm (fuel := 0) [0, 1, 2, 3, 4, 5, 6, 7, 8, 9] [(4, .rp (.box (ruC r)) 0 0), (5, .rp (.box (poC p)) 0 0), (7, .rp (.box (zF3 w)) 0 0), (2, iN s), (9, .nil), (10, .int .i64 D)] ⟨J, J, J, J, J, J, trivial⟩ (by kernel_rfl) (by decide) J J ?_
  refine zI J J (zG J) ?_
  refine zI J J (zK J J J J J J) ?_
  refine zI J J (zD J J J J) ?_
  refine zI J J (zKK J J (by omega)) ?_
  refine zI J J (zG J) ?_
  refine zI J J (zK J J J J J J) ?_
  refine zI J J (zD J J J J) ?_
  refine zI J J (zIA J J (by omega)) ?_
  refine zI J J (zO J) ?_
  refine zI J J (zO J) ?_
  refine zu ?_
  refine zW (by kernel_rfl) ?_
  refine zBx ?_
  refine zBq 9 ⟨3, .ints .i64 []⟩ J J ?_
  refine z8 (ι := Nat × Int × Int × List Int) (fun z => [(4, .rp (.box (ruC r)) 0 0), (5, .rp (.box (poC p)) 0 0), (7, .rp (.box (zF3 w)) 0 0), (9, .sl 0 0 z.2.2.2.length), (10, .int .i64 D), (11, .int .i64 z.2.1), (12, .int .i64 z.2.2.1), (31, .int .i64 w.most), (32, iN z.1)]) (fun z => [some ⟨3, .ints .i64 z.2.2.2⟩])
   (fun z => z.1 ≤ w.most.toNat ∧ 0 ≤ z.2.1 ∧ z.2.1 < r.w ∧ 0 ≤ z.2.2.1 ∧ z.2.2.1 < r.h ∧ WL = z.2.2.2 ++ zHW r p w.take w.dx D (w.most.toNat - z.1) z.2.1 z.2.2.1 ∧ z.2.2.2.length ≤ z.1) (fun z => w.most.toNat - z.1) (0, (s : Int) % r.w, (s : Int) / r.w, []) ⟨⟨rfl, rfl, rfl, rfl, rfl, rfl, rfl, rfl, rfl, trivial⟩, rfl, Nat.zero_le _, hsx.2.2.1, hsx.2.2.2, hsx.1, hsx.2.1, hW.symm, Nat.zero_le _⟩ ?_
  rintro ⟨k, x, y, out⟩ ⟨hk, hx0, hx1, hy0, hy1, hWL, hol⟩
  simp only at hk hx0 hx1 hy0 hy1 hWL hol
  change Ax _ _ _ _ [(4, .rp (.box (ruC r)) 0 0), (5, .rp (.box (poC p)) 0 0), (7, .rp (.box (zF3 w)) 0 0), (9, .sl 0 0 out.length), (10, .int .i64 D), (11, .int .i64 x), (12, .int .i64 y), (31, .int .i64 w.most), (32, iN k)] [some ⟨3, .ints .i64 out⟩]
  refine rn4 ?_
  refine zF J (fun q => ?_) (fun q => ?_)
  ·have hk' : k < w.most.toNat := by
    have q : (k : Int) < w.most := q
    omega
   obtain ⟨n, hn⟩ : ∃ n, w.most.toNat - k = n + 1 := ⟨w.most.toNat - k - 1, by omega⟩
   have hn2 : w.most.toNat - (k + 1) = n := by omega
   rw [hn, zHW] at hWL
   repeat (first | refine zA (zG rfl) ?_ | refine zA (zO rfl) ?_ | refine zC ?_ | refine zB ?_ | refine zY ?_ | refine zJ rfl ?_ | refine zAc ?_ | refine zAQ ?_ | refine zA (zCE rfl rfl) ?_ | refine zA (zAw rfl rfl (by omega)) ?_ | refine zA (zD rfl rfl rfl rfl) ?_ | refine zA (zK rfl rfl rfl rfl rfl rfl) ?_)
   apply zAJ (H := [some ⟨3, .ints .i64 out⟩]) [(4, .rp (.box (ruC r)) 0 0), (5, .rp (.box (poC p)) 0 0), (7, .rp (.box (zF3 w)) 0 0), (9, .sl 0 0 out.length), (10, .int .i64 D), (11, .int .i64 (x + w.dx)), (12, .int .i64 (y + D)), (31, .int .i64 w.most), (32, iN k), (58, .bool (zFm r (x + w.dx) (y + D)))]
   ·intro fin
    refine zo J J (fun f1 => ?_) (fun f1 => ?_)
    ·refine zBA ?_
     exact fin _ ⟨J, J, J, J, J, J, J, J, J, by unfold zFm; rw [decide_eq_true (show x + w.dx < 0 from f1)]; rfl, trivial⟩
    repeat (first | refine zA (zG rfl) ?_ | refine zr rfl rfl ?_ | refine zA (zDs rfl rfl) ?_ | refine zA (zg rfl rfl) ?_ | refine zA (zD rfl rfl rfl rfl) ?_ | refine zA (zK rfl rfl rfl rfl rfl rfl) ?_)
    refine zo J J (fun f2 => ?_) (fun f2 => ?_)
    ·refine zBA ?_
     exact fin _ ⟨J, J, J, J, J, J, J, J, J, by unfold zFm; rw [decide_eq_false (show ¬ x + w.dx < 0 from f1), decide_eq_true (show r.w ≤ x + w.dx from f2)]; rfl, trivial⟩
    repeat (first | refine zA (zG rfl) ?_ | refine zr rfl rfl ?_ | refine zA (zCE rfl rfl) ?_ | refine zA (zg rfl rfl) ?_)
    refine zo J J (fun f3 => ?_) (fun f3 => ?_)
    ·refine zBA ?_
     exact fin _ ⟨J, J, J, J, J, J, J, J, J, by unfold zFm; rw [decide_eq_false (show ¬ x + w.dx < 0 from f1), decide_eq_false (show ¬ r.w ≤ x + w.dx from f2), decide_eq_true (show y + D < 0 from f3)]; rfl, trivial⟩
    repeat (first | refine zA (zG rfl) ?_ | refine zC ?_ | refine zB ?_ | refine zr rfl rfl ?_ | refine zA (zDs rfl rfl) ?_ | refine zA (zg rfl rfl) ?_ | refine zA (zD rfl rfl rfl rfl) ?_ | refine zA (zK rfl rfl rfl rfl rfl rfl) ?_)
    exact fin _ ⟨J, J, J, J, J, J, J, J, J, by unfold zFm; rw [decide_eq_false (show ¬ x + w.dx < 0 from f1), decide_eq_false (show ¬ r.w ≤ x + w.dx from f2), decide_eq_false (show ¬ y + D < 0 from f3)]; rfl, trivial⟩
   refine zAP J (fun g => ?_) (fun g => ?_)
   ·rw [if_pos g, List.append_nil] at hWL
    refine rn14 ?_
    exact zL hR J ⟨by rw [hWL]; rfl, by rw [hWL]⟩
   rw [if_neg (by rw [g]; exact Bool.false_ne_true)] at hWL
   have hsq := sq_lt g
   have hoff : 0 ≤ x + w.dx ∧ x + w.dx < r.w ∧ 0 ≤ y + D ∧ y + D < r.h := by
    unfold zFm at g
    simp only [Bool.or_eq_false_iff, decide_eq_false_iff_not] at g
    omega
   have hYw : 0 ≤ (y + D) * r.w ∧ (y + D) * r.w ≤ 64 := ⟨Int.mul_nonneg (by omega) (by omega), by
    have a := Int.mul_le_mul (show y + D ≤ 8 by omega) hw.2 (by omega) (by decide)
    exact Int.le_trans a (by decide)⟩
   have hC12 := zIe hv S ((y + D) * r.w + (x + w.dx)).toNat
   refine zBx ?_
   refine zA (zDA J J (by omega)) ?_
   repeat (first | refine zA (zG rfl) ?_ | refine zA (zO rfl) ?_ | refine zA (zBZ rfl rfl rfl) ?_ | refine zC ?_ | refine zB ?_ | refine zA (zAw rfl rfl (by omega)) ?_ | refine zA (zh rfl rfl rfl rfl (by first | (simp only [Nat.zero_add, Int.toNat_natCast, Int.toNat_zero]; exact rfl) | exact rfl) (by omega)) ?_)
   obtain ⟨C, hC⟩ : ∃ C, zAL p ((y + D) * r.w + (x + w.dx)).toNat = C := ⟨_, rfl⟩
   rw [hC] at hWL hC12
   refine zBB 13 (.int .i64 C) J (AEq.of_eq (by rw [← hC]; rfl)) ?_
   refine rn6 ?_
   apply zAJ (H := [some ⟨3, .ints .i64 out⟩]) [(4, .rp (.box (ruC r)) 0 0), (5, .rp (.box (poC p)) 0 0), (7, .rp (.box (zF3 w)) 0 0), (9, .sl 0 0 out.length), (10, .int .i64 D), (11, .int .i64 (x + w.dx)), (12, .int .i64 (y + D)), (31, .int .i64 w.most), (32, iN k), (13, .int .i64 C), (14, .bool (zFn p.turn C))]
   ·intro fin
    refine zo J J (fun e1 => ?_) (fun e1 => ?_)
    ·repeat (first | refine zA (zG rfl) ?_ | refine zA (zO rfl) ?_ | refine zC ?_ | refine zB ?_ | refine zr rfl rfl ?_ | refine zA (zBl rfl rfl) ?_ | refine zA (zg rfl rfl) ?_ | refine zA (zBL rfl rfl (by omega)) ?_ | refine zA (zKK rfl rfl (by omega)) ?_ | refine zA (zD rfl rfl rfl rfl) ?_ | refine zA (zK rfl rfl rfl rfl rfl rfl) ?_)
     exact fin _ ⟨J, J, J, J, J, J, J, J, J, J, congrArg (fun b => some (AV.bool b)) (show decide (¬ (C - 1) % 2 = p.turn) = zFn p.turn C by unfold zFn; rw [decide_eq_true (show 0 < C from e1), Int.tmod_eq_emod_of_nonneg (by have e1 : 0 < C := e1; omega), Bool.true_and]), trivial⟩
    ·refine zFt ?_
     exact fin _ ⟨J, J, J, J, J, J, J, J, J, J, congrArg (fun b => some (AV.bool b)) (show false = zFn p.turn C by unfold zFn; rw [decide_eq_false (show ¬ 0 < C from e1)]; rfl), trivial⟩
   have hHit := hitB_eq w.take p.turn C
   generalize zFn p.turn C = oth at hHit
   generalize hitB w.take p.turn C = hit at hWL hHit
   refine zBx ?_
   apply zAJ (H := [some ⟨3, .ints .i64 out⟩]) [(4, .rp (.box (ruC r)) 0 0), (5, .rp (.box (poC p)) 0 0), (7, .rp (.box (zF3 w)) 0 0), (9, .sl 0 0 out.length), (10, .int .i64 D), (11, .int .i64 (x + w.dx)), (12, .int .i64 (y + D)), (31, .int .i64 w.most), (32, iN k), (13, .int .i64 C), (14, .bool oth), (105, .bool hit)]
   ·intro fin
    refine zo J J (fun a1 => ?_) (fun a1 => ?_)
    ·have a1 : w.take = 0 := a1
     refine zBA ?_
     refine zo J J (fun a2 => ?_) (fun a2 => ?_)
     ·have a2 : C = 0 := a2
      repeat (first | refine zA (zG rfl) ?_ | refine zC ?_ | refine zB ?_ | refine zAn rfl rfl ?_ | refine zAX rfl rfl rfl ?_ | refine zA (zg rfl rfl) ?_)
      exact fin _ ⟨J, J, J, J, J, J, J, J, J, J, J, congrArg (fun b => some (AV.bool b)) (show true = hit by rw [hHit]; simp [a1, a2]), trivial⟩
     have a2 : ¬ C = 0 := a2
     refine zBA ?_
     refine zo J J (fun a3 => ?_) (fun a3 => ?_)
     ·exact absurd (show w.take = 1 from a3) (by omega)
     repeat (first | refine zA (zG rfl) ?_ | refine zr rfl rfl ?_ | refine zAn rfl rfl ?_ | refine zAX rfl rfl rfl ?_ | refine zA (zBR rfl rfl) ?_ | refine zA (zg rfl rfl) ?_ | refine zA (zD rfl rfl rfl rfl) ?_ | refine zA (zK rfl rfl rfl rfl rfl rfl) ?_)
     refine zo J J (fun a4 => ?_) (fun a4 => ?_)
     ·exact absurd (show w.take = 2 from a4) (by omega)
     refine zBA ?_
     exact fin _ ⟨J, J, J, J, J, J, J, J, J, J, J, congrArg (fun b => some (AV.bool b)) (show false = hit by rw [hHit]; simp [a1, a2]), trivial⟩
    have a1 : ¬ w.take = 0 := a1
    refine zBA ?_
    refine zo J J (fun a3 => ?_) (fun a3 => ?_)
    ·have a3 : w.take = 1 := a3
     refine zBA ?_
     refine zo J J (fun a5 => ?_) (fun a5 => ?_)
     ·have a5 : C = 0 := a5
      repeat (first | refine zA (zG rfl) ?_ | refine zC ?_ | refine zB ?_ | refine zr rfl rfl ?_ | refine zAn rfl rfl ?_ | refine zAX rfl rfl rfl ?_ | refine zA (zg rfl rfl) ?_)
      exact fin _ ⟨J, J, J, J, J, J, J, J, J, J, J, congrArg (fun b => some (AV.bool b)) (show true = hit by rw [hHit]; simp [a3, a5]), trivial⟩
     have a5 : ¬ C = 0 := a5
     refine rn2 ?_
     refine zAz J J (fun a6 => ?_) (fun a6 => ?_)
     ·repeat (first | refine zC ?_ | refine zB ?_ | refine zAn rfl rfl ?_ | refine zAX rfl rfl rfl ?_ | refine zA (zg rfl rfl) ?_)
      exact fin _ ⟨J, J, J, J, J, J, J, J, J, J, J, congrArg (fun b => some (AV.bool b)) (show true = hit by rw [hHit]; simp [a3, a5, a6]), trivial⟩
     refine zBA ?_
     refine zo J J (fun a4 => ?_) (fun a4 => ?_)
     ·exact absurd (show w.take = 2 from a4) (by omega)
     refine zBA ?_
     exact fin _ ⟨J, J, J, J, J, J, J, J, J, J, J, congrArg (fun b => some (AV.bool b)) (show false = hit by rw [hHit]; simp [a3, a5, a6]), trivial⟩
    have a3 : ¬ w.take = 1 := a3
    repeat (first | refine zA (zG rfl) ?_ | refine zr rfl rfl ?_ | refine zAn rfl rfl ?_ | refine zAX rfl rfl rfl ?_ | refine zA (zBR rfl rfl) ?_ | refine zA (zg rfl rfl) ?_ | refine zA (zD rfl rfl rfl rfl) ?_ | refine zA (zK rfl rfl rfl rfl rfl rfl) ?_)
    refine zo J J (fun a4 => ?_) (fun a4 => ?_)
    ·have a4 : w.take = 2 := a4
     refine rn2 ?_
     exact fin _ ⟨J, J, J, J, J, J, J, J, J, J, J, congrArg (fun b => some (AV.bool b)) (show oth = hit by rw [hHit]; simp [a1, a3, a4]), trivial⟩
    have a4 : ¬ w.take = 2 := a4
    refine zBA ?_
    exact fin _ ⟨J, J, J, J, J, J, J, J, J, J, J, congrArg (fun b => some (AV.bool b)) (show false = hit by rw [hHit]; simp [a1, a3, a4]), trivial⟩
   have hidx : (y + D) * r.w + (x + w.dx) ≤ 64 := by omega
   obtain ⟨O, hO⟩ : ∃ O, (if hit = true then out ++ [(y + D) * r.w + (x + w.dx)] else out) = O := ⟨_, rfl⟩
   have hOl : O.length ≤ k + 1 := by
    rw [← hO]; split
    ·rw [List.length_append]; simp; exact hol
    ·omega
   have hWL : WL = O ++ (if C ≠ 0 then [] else zHW r p w.take w.dx D n (x + w.dx) (y + D)) := by
    rw [hWL, ← hO]
    cases hit with
    | true => simp
    | false => simp
   apply zAJ (H := [some ⟨3, .ints .i64 O⟩]) [(4, .rp (.box (ruC r)) 0 0), (5, .rp (.box (poC p)) 0 0), (7, .rp (.box (zF3 w)) 0 0), (9, .sl 0 0 O.length), (10, .int .i64 D), (11, .int .i64 (x + w.dx)), (12, .int .i64 (y + D)), (31, .int .i64 w.most), (32, iN k), (13, .int .i64 C)]
   ·intro fin
    refine zAP J (fun g1 => ?_) (fun g1 => ?_)
    ·rw [if_pos g1] at hO
     refine zBx ?_
     refine zA (zDA J J (by omega)) ?_
     refine rn3 ?_
     refine zAj J J J J J J J J J J J J (by show 0 + 1 ≤ 1; omega) J (by show (out.length + 1) * 8 ≤ _ ∧ _; omega) (fun i j _ _ => rfl) (by rw [hfix]; exact fun h => h) ?_
     refine zFt ?_
     refine zAS [some ⟨3, .ints .i64 O⟩] (by rw [← hO]; rfl) ?_
     exact fin _ ⟨J, J, J, by rw [← hO, List.length_append]; rfl, J, J, J, J, J, J, trivial⟩
    ·rw [if_neg (by rw [g1]; exact Bool.false_ne_true)] at hO
     subst hO
     refine zFt ?_
     exact fin _ ⟨J, J, J, J, J, J, J, J, J, J, trivial⟩
   refine rn3 ?_
   refine zF J (fun g2 => ?_) (fun g2 => ?_)
   ·rw [if_pos g2, List.append_nil] at hWL
    refine rn14 ?_
    exact zL hR J ⟨by rw [hWL]; rfl, by rw [hWL]⟩
   ·rw [if_neg g2] at hWL
    refine rn5 ?_
    exact zR ⟨(k + 1, x + w.dx, y + D, O), ⟨by show k + 1 ≤ _; omega, hoff.1, hoff.2.1, hoff.2.2.1, hoff.2.2.2, by rw [hWL, hn2], hOl⟩, by show w.most.toNat - (k + 1) < w.most.toNat - k; omega, ⟨J, J, J, J, J, J, J, J, J, trivial⟩, J⟩
  ·have hk' : k = w.most.toNat := by
    have q : ¬ (k : Int) < w.most := q
    omega
   subst hk'
   rw [Nat.sub_self, zHW, List.append_nil] at hWL
   refine rn5 ?_
   exact zL hR J ⟨by rw [hWL]; rfl, by rw [hWL]⟩
 ·rintro v H ⟨rfl, rfl⟩
  refine ⟨J, ?_, fun h o ho => zEN zAR h o ho⟩
  intro o ho; simp at ho; subst ho; show 0 + (zHv r p s w).length ≤ (zHv r p s w).length; omega
end Go.Proofs.YtiifcejepaeepaaGreatDoor
namespace Go.Proofs
open Go.Shelf
def Tryz.sortMv_ren : Go.Shelf.Ren := ⟨fun | 6 => 97 | 15 => 122 | 14 => 121 | 28 => 136 | 29 => 137 | 20 => 128 | 21 => 129 | 22 => 130 | 23 => 131 | 24 => 132 | 25 => 133 | 26 => 134 | 27 => 135 | 46 => 139 | 47 => 140 | 48 => 141 | 49 => 142 | 50 => 143 | 57 => 148 | n => n, fun | 22 => 49 | 24 => 58 | 25 => 148 | 3 => 3 | 39 => 108 | 0 => 0 | 53 => 182 | 55 => 184 | 4 => 4 | 46 => 176 | 45 => 175 | 50 => 136 | 5 => 5 | 9 => 9 | 66 => 186 | 70 => 190 | 76 => 197 | 77 => 198 | n => n, fun | n => n⟩
theorem Tryz.sortMv : Go.Proofs.SlLaysF0.n6 Tryz.prog Tryz.sortMv_ren := {
 mixed := by kernel_rfl
 f6 := ⟨Tryz.f97.name, by decide, Tryz.func97.trans (congrArg some (by kernel_rfl))⟩
 f14 := ⟨Tryz.f121.name, by decide, Tryz.func121.trans (congrArg some (by kernel_rfl))⟩
 f15 := Tryz.func122.trans (congrArg some (by kernel_rfl))
 f20 := ⟨Tryz.f128.name, by decide, Tryz.func128.trans (congrArg some (by kernel_rfl))⟩
 f21 := ⟨Tryz.f129.name, by decide, Tryz.func129.trans (congrArg some (by kernel_rfl))⟩
 f22 := ⟨Tryz.f130.name, by decide, Tryz.func130.trans (congrArg some (by kernel_rfl))⟩
 f23 := ⟨Tryz.f131.name, by decide, Tryz.func131.trans (congrArg some (by kernel_rfl))⟩
 f24 := ⟨Tryz.f132.name, by decide, Tryz.func132.trans (congrArg some (by kernel_rfl))⟩
 f25 := ⟨Tryz.f133.name, by decide, Tryz.func133.trans (congrArg some (by kernel_rfl))⟩
 f26 := ⟨Tryz.f134.name, by decide, Tryz.func134.trans (congrArg some (by kernel_rfl))⟩
 f27 := ⟨Tryz.f135.name, by decide, Tryz.func135.trans (congrArg some (by kernel_rfl))⟩
 f28 := Tryz.func136.trans (congrArg some (by kernel_rfl))
 f29 := Tryz.func137.trans (congrArg some (by kernel_rfl))
 f46 := ⟨Tryz.f139.name, by decide, Tryz.func139.trans (congrArg some (by kernel_rfl))⟩
 f47 := Tryz.func140.trans (congrArg some (by kernel_rfl))
 f48 := Tryz.func141.trans (congrArg some (by kernel_rfl))
 f49 := ⟨Tryz.f142.name, by decide, Tryz.func142.trans (congrArg some (by kernel_rfl))⟩
 f50 := ⟨Tryz.f143.name, by decide, Tryz.func143.trans (congrArg some (by kernel_rfl))⟩
 f57 := ⟨Tryz.f148.name, by decide, Tryz.func148.trans (congrArg some (by kernel_rfl))⟩
 t0 := Tryz.underlying0
 a0 := Tryz.isAgg0
 z0 := Tryz.sizeOf0
 v0 := Tryz.zeroValue0
 t3 := Tryz.underlying3
 a3 := Tryz.isAgg3
 z3 := Tryz.sizeOf3
 v3 := Tryz.zeroValue3
 t4 := Tryz.underlying4
 a4 := Tryz.isAgg4
 z4 := Tryz.sizeOf4
 v4 := Tryz.zeroValue4
 t5 := Tryz.underlying5
 a5 := Tryz.isAgg5
 z5 := Tryz.sizeOf5
 v5 := Tryz.zeroValue5
 t9 := Tryz.underlying9
 a9 := Tryz.isAgg9
 z9 := Tryz.sizeOf9
 v9 := Tryz.zeroValue9
 t22 := Tryz.underlying49
 a22 := Tryz.isAgg49
 z22 := Tryz.sizeOf49
 v22 := Tryz.zeroValue49
 t25 := Tryz.underlying148
 a25 := Tryz.isAgg148
 z25 := Tryz.sizeOf148
 v25 := Tryz.zeroValue148
 t39 := Tryz.underlying108
 a39 := Tryz.isAgg108
 z39 := Tryz.sizeOf108
 v39 := Tryz.zeroValue108
 t45 := Tryz.underlying175
 a45 := Tryz.isAgg175
 z45 := Tryz.sizeOf175
 v45 := Tryz.zeroValue175
 t46 := Tryz.underlying176
 a46 := Tryz.isAgg176
 z46 := Tryz.sizeOf176
 v46 := Tryz.zeroValue176
 t50 := Tryz.underlying136
 a50 := Tryz.isAgg136
 z50 := Tryz.sizeOf136
 v50 := Tryz.zeroValue136
 t53 := Tryz.underlying182
 a53 := Tryz.isAgg182
 z53 := Tryz.sizeOf182
 v53 := Tryz.zeroValue182
 t55 := Tryz.underlying184
 a55 := Tryz.isAgg184
 z55 := Tryz.sizeOf184
 v55 := Tryz.zeroValue184
 t66 := Tryz.underlying186
 a66 := Tryz.isAgg186
 z66 := Tryz.sizeOf186
 v66 := Tryz.zeroValue186
 t70 := Tryz.underlying190
 a70 := Tryz.isAgg190
 z70 := Tryz.sizeOf190
 v70 := Tryz.zeroValue190
 t76 := Tryz.underlying197
 a76 := Tryz.isAgg197
 z76 := Tryz.sizeOf197
 v76 := Tryz.zeroValue197
 t77 := Tryz.underlying198
 a77 := Tryz.isAgg198
 z77 := Tryz.sizeOf198
 v77 := Tryz.zeroValue198 }
end Go.Proofs
namespace Go.Proofs.YtiifcejepaeepaaGreatDoor
open Go.Ax Go.Ax.Gm Go.RowKit Go.Ax.Idx Go.Ax.Cd
attribute [local irreducible] Ax zCM QOp zd
/-- slices.SortFunc of moves -/
theorem zON {H : zQ} {h : Nat} {l : List Mv} (hl : l.length < 4611686018427387904) (hh : H[h]? = some (some ⟨58, zAy l⟩)) :
 zd Tryz.prog 97 [.sl h 0 l.length, .fn 98 []] H (fun x => x < H.length) (fun r H' => r = .tup [] ∧ H' = H.set h (some ⟨58, zAy (l.mergeSort leM)⟩)) :=
 zOO Tryz.sortMv Tryz.isAgg58 Tryz.sizeOf58 (enters_of Tryz.func98 (by kernel_rfl) rfl) ⟨Tryz.f97, Tryz.func97, by kernel_rfl, rfl⟩
  (fun x y W => rClosure x.fr x.to x.pc y.fr y.to y.pc W) hl hh
theorem zJ5 {a b : List Mv} {i : Nat} (h : a.length ≤ i) : (a ++ b).getD i mv0 = b.getD (i - a.length) mv0 := by rw [zBX, if_neg (by omega)]
theorem zFA (l : List Mv) (n i : Nat) : (l.drop n).getD i mv0 = l.getD (n + i) mv0 := by simp [List.getD]
theorem zKM (A l : List Mv) (v : Mv) (i : Nat) : ((A ++ [v]) ++ l.drop (A.length + 1)).getD i mv0 = if i = A.length then v else (A ++ l.drop A.length).getD i mv0 := by
 rw [zBX, zBX, zBX, zFA, zFA, List.length_append, List.length_singleton]
 rcases Nat.lt_trichotomy i A.length with h | h | h
 ·rw [if_pos (by omega), if_pos h, if_neg (by omega), if_pos h]
 ·subst h
  rw [if_pos (by omega), if_neg (by omega), if_pos rfl, Nat.sub_self]; rfl
 ·rw [if_neg (by omega), if_neg (by omega), if_neg (by omega)]
  congr 1; omega
theorem zKv (n i : Nat) : (List.replicate n mv0).getD i mv0 = mv0 := by
 simp only [List.getD, List.getElem?_replicate]
 split <;> rfl
theorem eqMv (a b : Mv) : (decide (a.fr = b.fr) && (decide (a.to = b.to) && (decide (a.pc = b.pc) && true))) = decide (b = a) := by
 obtain ⟨x, y, z⟩ := a
 obtain ⟨x', y', z'⟩ := b
 rw [Bool.eq_iff_iff]
 simp only [Bool.and_eq_true, decide_eq_true_eq, Mv.mk.injEq, and_true]
 constructor
 ·rintro ⟨h1, h2, h3⟩; exact ⟨h1.symm, h2.symm, h3.symm⟩
 ·rintro ⟨h1, h2, h3⟩; exact ⟨h1.symm, h2.symm, h3.symm⟩
/-- slices.Compact of moves -/
theorem zMR (l : List Mv) (hl : l.length ≤ 1000000) :
 zd Tryz.prog 101 [.sl 0 0 l.length] [some ⟨58, zAy l⟩] (fun h => h < 1) (fun r H => r = .sl 0 0 (zt l).length ∧ H = [some ⟨58, zAy (zt l ++ List.replicate (l.length - (zt l).length) mv0)⟩]) := by
 refine zN (P := Tryz.prog) (fn := Tryz.f101) J J (by kernel_rfl) J (fun c hR hfix => ?_)
 have whole : zt l = l → ([some ⟨58, zAy l⟩] : zQ) = [some ⟨58, zAy (zt l ++ List.replicate (l.length - (zt l).length) mv0)⟩] := fun e => by rw [e, Nat.sub_self]; simp
 refine rn4 ?_
 refine zF J (fun h => ?_) (fun h => ?_)
 ·have e : zt l = l := by
   match l, h with
   | [], _ => rfl
   | [_], _ => rfl
   | _ :: _ :: r, h => simp at h; omega
  refine rn2 ?_
  exact zL hR J ⟨by rw [e]; rfl, whole e⟩
 have hl2 : 2 ≤ l.length := by omega
 refine rn1 ?_
 refine z8 (ι := Nat) (fun k => [(0, .sl 0 0 l.length), (3, iN k)]) (fun _ => [some ⟨58, zAy l⟩])
  (fun k => 1 ≤ k ∧ k ≤ l.length ∧ zt (l.take k) = l.take k) (fun k => l.length - k) 1 ⟨⟨rfl, rfl, trivial⟩, rfl, Nat.le_refl _, by omega, ?_⟩ ?_
 ·match l, hl2 with
  | a :: r, _ => rfl
 intro k ⟨hk1, hk, hpre⟩
 refine rn4 ?_
 refine zF J (fun q => ?_) (fun q => ?_)
 ·have hk' : k < l.length := by omega
  have hct := zG3 (l := l) (i := k) (by omega) hk'
  have ek : ((k : Int) - 1).toNat = k - 1 := by omega
  have hb1 : ((k : Int) - 1).toNat < l.length := by omega
  have hb2 : ((k : Int) - 1).toNat < (zAy l).len := hb1
  refine rn1 ?_
  refine ze (by kernel_rfl) ?_
  refine zm (fuel := 0) [0, 1, 2, 3, 4, 5, 6, 7, 8, 9] [(0, .sl 0 0 l.length), (3, iN k)] ⟨J, J, trivial⟩ (by kernel_rfl) (by decide) J J ?_
  refine zI J J (zG J) ?_
  refine zI J J (zG J) ?_
  refine zI J J (zn J J J J J (by first | (simp only [Nat.zero_add, Int.toNat_natCast, Int.toNat_zero]; exact J) | exact J) (by omega)) ?_
  refine zI J J (qpp J J J J J J J) ?_
  refine zI J J (zG J) ?_
  refine zI J J (zG J) ?_
  refine zI J J (zBL J J (by omega)) ?_
  refine zI J J (zn J J J J J (by first | (simp only [Nat.zero_add, Int.toNat_natCast, Int.toNat_zero]; exact J) | exact J) (by omega)) ?_
  refine zI J J (qpp J J J J J J J) ?_
  refine zI J J (zEM J J J (by kernel_rfl) (by kernel_rfl) (by kernel_rfl) J) ?_
  refine zu ?_
  refine zW (by kernel_rfl) ?_
  repeat (refine zB ?_)
  refine zBB 25 (.bool (decide (l.getD (k - 1) mv0 = l.getD k mv0))) J (AEq.of_eq (by rw [← eqMv (l.getD k mv0) (l.getD (k - 1) mv0), ← ek])) ?_
  refine zF J (fun d => ?_) (fun d => ?_)
  ·rw [if_pos d] at hct
   have hpl : (l.take k).length = k := by rw [List.length_take]; omega
   repeat (first | refine zA (zG rfl) ?_ | refine zA (zO rfl) ?_ | refine zC ?_ | refine zB ?_ | refine zY ?_ | refine zJ rfl ?_ | refine zA (zGm rfl rfl rfl rfl rfl rfl rfl rfl (by omega)) ?_)
   refine zBB 4 (.sl 0 k (l.length - k)) J (AEq.of_eq (by congr 1 <;> omega)) ?_
   repeat (refine zAc ?_)
   refine z8 (ι := Nat) (fun j => [(0, .sl 0 0 l.length), (3, .int .i64 ((zt (l.take (k + j))).length : Nat)), (4, .sl 0 k (l.length - k)), (5, iN j)]) (fun j => [some ⟨58, zAy (zt (l.take (k + j)) ++ l.drop (zt (l.take (k + j))).length)⟩])
    (fun j => 1 ≤ j ∧ k + j ≤ l.length ∧ (zt (l.take (k + j))).length < k + j) (fun j => l.length - j) 1 ⟨⟨rfl, ?_, rfl, rfl, trivial⟩, ?_, Nat.le_refl _, by omega, ?_⟩ ?_
   ·rw [hct, hpre, hpl]; rfl
   ·rw [hct, hpre, hpl, List.take_append_drop]
   ·rw [hct, hpre, hpl]; omega
   intro j ⟨hj1, hjl, hjc⟩
   have hct2 : k + j < l.length → zt (l.take (k + (j + 1))) = if l.getD (k + j - 1) mv0 = l.getD (k + j) mv0 then zt (l.take (k + j)) else zt (l.take (k + j)) ++ [l.getD (k + j) mv0] := fun q => zG3 (i := k + j) (by omega) q
   generalize hA : zt (l.take (k + j)) = A at hjc hct2
   have hXl : (A ++ l.drop A.length).length = l.length := by rw [List.length_append, List.length_drop]; omega
   have hXg : ∀ i, A.length ≤ i → (A ++ l.drop A.length).getD i mv0 = l.getD i mv0 := fun i q => by rw [zJ5 q, zFA]; congr 1; omega
   generalize hX : A ++ l.drop A.length = X at hXl hXg
   refine rn4 ?_
   refine zF J (fun q2 => ?_) (fun q2 => ?_)
   ·have q2 : k + j < l.length := by
     have q2 : (j : Int) < ((l.length - k : Nat) : Int) := q2
     omega
    have hct2 := hct2 q2
    have ej : k + ((j : Int) - 1).toNat = k + j - 1 := by omega
    have hc1 : k + j < X.length := by omega
    have hc2 : k + j < (zAy X).len := hc1
    have hc3 : k + ((j : Int) - 1).toNat < X.length := by omega
    have hc4 : k + ((j : Int) - 1).toNat < (zAy X).len := hc3
    refine rn1 ?_
    refine ze (by kernel_rfl) ?_
    refine zm (fuel := 0) [0, 1, 2, 3, 4, 5, 6, 7, 8, 9] [(0, .sl 0 0 l.length), (3, iN A.length), (4, .sl 0 k (l.length - k)), (5, iN j)] ⟨J, J, J, J, trivial⟩ (by kernel_rfl) (by decide) J J ?_
    refine zI J J (zG J) ?_
    refine zI J J (zG J) ?_
    refine zI J J (zn J J J J J (by first | (simp only [Nat.zero_add, Int.toNat_natCast, Int.toNat_zero]; exact J) | exact J) (by omega)) ?_
    refine zI J J (qpp J J J J J J J) ?_
    refine zI J J (zG J) ?_
    refine zI J J (zG J) ?_
    refine zI J J (zBL J J (by omega)) ?_
    refine zI J J (zn J J J J J (by first | (simp only [Nat.zero_add, Int.toNat_natCast, Int.toNat_zero]; exact J) | exact J) (by omega)) ?_
    refine zI J J (qpp J J J J J J J) ?_
    refine zI J J (zFs J J J (by kernel_rfl) (by kernel_rfl) (by kernel_rfl) J) ?_
    refine zu ?_
    refine zW (by kernel_rfl) ?_
    repeat (refine zB ?_)
    refine zBB 44 (.bool (decide (¬ l.getD (k + j - 1) mv0 = l.getD (k + j) mv0))) J (AEq.of_eq ?_) ?_
    ·rw [decide_not, ← eqMv (l.getD (k + j) mv0) (l.getD (k + j - 1) mv0), ← hXg (k + j) (by omega), ← hXg (k + j - 1) (by omega), ← ej]
    refine zF J (fun d2 => ?_) (fun d2 => ?_)
    ·rw [if_neg d2] at hct2
     have hAk : A.length < l.length := by omega
     have hAX : A.length < X.length := by omega
     have hAX2 : A.length < (zAy X).len := hAX
     have hnl : (A ++ [l.getD (k + j) mv0]).length = A.length + 1 := by rw [List.length_append]; rfl
     refine rn6 ?_
     refine zDW (c' := zAy ((A ++ [l.getD (k + j) mv0]) ++ l.drop (A.length + 1))) J J J J J hAX ?_ J (fun i' j' hi' hj' => ?_) ?_
     ·show ((A ++ [l.getD (k + j) mv0]) ++ l.drop (A.length + 1)).length = X.length
      rw [List.length_append, hnl, List.length_drop]; omega
     ·have hj' : j' < 3 := hj'
      show (mvC (((A ++ [l.getD (k + j) mv0]) ++ l.drop (A.length + 1)).getD i' mv0)).getD j' .any = _
      rw [zKM, hX]
      by_cases e : i' = A.length
      ·rw [if_pos e, if_pos e, ← hXg (k + j) (by omega)]
       match j', hj' with
       | 0, _ => rfl
       | 1, _ => rfl
       | 2, _ => rfl
      ·rw [if_neg e, if_neg e]; rfl
     refine rn5 ?_
     refine zR ⟨j + 1, ⟨by omega, by omega, by rw [hct2, hnl]; omega⟩, by omega, ⟨J, ?_, J, J, trivial⟩, ?_⟩
     ·show some (AV.int .i64 _) = some (AV.int .i64 _)
      congr 2; rw [hct2, hnl]; omega
     ·rw [hct2, hnl]; rfl
    ·rw [if_pos (Classical.not_not.1 d2)] at hct2
     refine rn5 ?_
     exact zR ⟨j + 1, ⟨by omega, by omega, by rw [hct2]; omega⟩, by omega, ⟨J, by rw [hct2]; rfl, J, J, trivial⟩, by rw [hct2, hX]⟩
   ·have hj' : k + j = l.length := by
     have q2 : ¬ (j : Int) < ((l.length - k : Nat) : Int) := q2
     omega
    rw [hj', List.take_length] at hA
    have hAk : A.length < l.length := by omega
    have hlen : zt l = A := hA
    have hA0 : 0 < A.length := by rw [← hlen]; exact List.length_pos_iff.2 (zIi (fun e => by rw [e] at hl2; simp at hl2))
    refine rn17 ?_
    refine zAt 56 (.sl 0 A.length (l.length - A.length)) J (AEq.of_eq (by congr 1 <;> omega)) ?_
    refine zJo (zs := [.int .i64 0, .int .i64 0, .int .i64 0]) (s := 3) (c' := zAy (A ++ List.replicate (l.length - A.length) mv0)) J J J J J J J (fun j' hj' w S σ => ?_) J (by omega) J (by show A.length + (l.length - A.length) ≤ X.length; omega) ?_ J (fun i' j' hi' hj' => ?_) ?_
    ·match j', hj' with
     | 0, _ => exact .int _ _ _
     | 1, _ => exact .int _ _ _
     | 2, _ => exact .int _ _ _
    ·show (A ++ List.replicate (l.length - A.length) mv0).length = X.length
     rw [List.length_append, List.length_replicate]; omega
    ·have hj' : j' < 3 := hj'
     have hi' : i' < X.length := hi'
     show (mvC ((A ++ List.replicate (l.length - A.length) mv0).getD i' mv0)).getD j' .any = _
     by_cases e : i' < A.length
     ·rw [if_neg (by omega), zBX, if_pos e]
      show _ = (mvC (X.getD i' mv0)).getD j' .any
      rw [← hX, zBX, if_pos e]
     ·rw [if_pos (by omega), zBX, if_neg e, zKv]
      match j', hj' with
      | 0, _ => rfl
      | 1, _ => rfl
      | 2, _ => rfl
    repeat (first | refine zA (zG rfl) ?_ | refine zA (zO rfl) ?_ | refine zC ?_ | refine zB ?_ | refine zY ?_ | refine zJ rfl ?_ | refine zAA ?_ | refine zA6 ?_ | refine zE4 ?_ | refine zE5 ?_ | refine zA (zGm rfl rfl rfl rfl rfl rfl rfl rfl (by omega)) ?_)
    refine zL hR J ⟨?_, ?_⟩
    ·rw [hlen]; show AV.sl 0 (0 + 0) _ = _
     congr 1
    ·rw [hlen]; rfl
  ·rw [if_neg d, hpre] at hct
   refine rn5 ?_
   exact zR ⟨k + 1, ⟨by omega, by omega, by rw [hct, zz l mv0 k hk']⟩, by omega, ⟨J, J, trivial⟩, J⟩
 ·have hk' : k = l.length := by omega
  subst hk'
  rw [List.take_length] at hpre
  refine rn5 ?_
  exact zL hR J ⟨by rw [hpre]; rfl, whole hpre⟩
end Go.Proofs.YtiifcejepaeepaaGreatDoor
namespace Go.Proofs
open Go.Shelf
def Tryz.lays283_ren : Go.Shelf.Ren := ⟨fun | 283 => 144 | n => n, fun | 3 => 3 | 9 => 9 | 4 => 4 | n => n, fun | n => n⟩
theorem Tryz.lays283 : Go.Proofs.Lays.n283 Tryz.prog Tryz.lays283_ren := {
 mixed := by kernel_rfl
 f283 := Tryz.func144.trans (congrArg some (by kernel_rfl))
 t3 := Tryz.underlying3
 a3 := Tryz.isAgg3
 z3 := Tryz.sizeOf3
 v3 := Tryz.zeroValue3
 t4 := Tryz.underlying4
 a4 := Tryz.isAgg4
 z4 := Tryz.sizeOf4
 v4 := Tryz.zeroValue4
 t9 := Tryz.underlying9
 a9 := Tryz.isAgg9
 z9 := Tryz.sizeOf9
 v9 := Tryz.zeroValue9 }
open Go.Lib in
/-- internal/strconv.small: "small returns the string for an i with 0 <= i < nSmalls.": i's decimal numeral. The world is as it was. (LAID: no walk: one application.) -/
theorem Tryz.internal_strconv_small (i : Nat) (h : i < 100) (w : World) :
 Calls Tryz.prog 144 #[.int .i64 i] w fun e w' => e = .returned (.string ⟨(Lib.decDigits i).toArray⟩) ∧ w' = w := Any.internal_strconv_small Tryz.lays283 i h w
def Tryz.laysM284_ren : Go.Shelf.Ren := ⟨fun | 284 => 145 | 129 => 137 | 317 => 149 | 318 => 150 | n => n, fun | 53 => 184 | 3 => 3 | 212 => 201 | 0 => 0 | 4 => 4 | 46 => 108 | 5 => 5 | 9 => 9 | n => n, fun | 17 => 0 | n => n⟩
theorem Tryz.laysM284 : Go.Proofs.LaysM.n284 Tryz.prog Tryz.laysM284_ren := {
 mixed := by kernel_rfl
 f129 := Tryz.func137.trans (congrArg some (by kernel_rfl))
 f284 := Tryz.func145.trans (congrArg some (by kernel_rfl))
 f317 := Tryz.func149.trans (congrArg some (by kernel_rfl))
 f318 := Tryz.func150.trans (congrArg some (by kernel_rfl))
 t0 := Tryz.underlying0
 a0 := Tryz.isAgg0
 z0 := Tryz.sizeOf0
 v0 := Tryz.zeroValue0
 t3 := Tryz.underlying3
 a3 := Tryz.isAgg3
 z3 := Tryz.sizeOf3
 v3 := Tryz.zeroValue3
 t4 := Tryz.underlying4
 a4 := Tryz.isAgg4
 z4 := Tryz.sizeOf4
 v4 := Tryz.zeroValue4
 t5 := Tryz.underlying5
 a5 := Tryz.isAgg5
 z5 := Tryz.sizeOf5
 v5 := Tryz.zeroValue5
 t9 := Tryz.underlying9
 a9 := Tryz.isAgg9
 z9 := Tryz.sizeOf9
 v9 := Tryz.zeroValue9
 t46 := Tryz.underlying108
 a46 := Tryz.isAgg108
 z46 := Tryz.sizeOf108
 v46 := Tryz.zeroValue108
 t53 := Tryz.underlying184
 a53 := Tryz.isAgg184
 z53 := Tryz.sizeOf184
 v53 := Tryz.zeroValue184
 t212 := Tryz.underlying201
 a212 := Tryz.isAgg201
 z212 := Tryz.sizeOf201
 v212 := Tryz.zeroValue201
 g17 := by kernel_rfl
 i0 := by kernel_rfl
 i3 := by kernel_rfl
 i4 := by kernel_rfl
 i5 := by kernel_rfl
 i9 := by kernel_rfl
 i46 := by kernel_rfl
 i53 := by kernel_rfl
 i212 := by kernel_rfl
 m17 := by kernel_rfl }
open Go.Lib in
/-- internal/strconv.numDigits, at a d that is not 0: THE NUMBER OF d's DECIMAL DIGITS. The world is as it was. (LAID: no walk: one application.) -/
theorem Tryz.internal_strconv_numDigits (u : Nat) (h1 : 1 ≤ u) (h2 : u < 18446744073709551616) (w : World) (htab : Lib.TabIs Tryz.prog w "internal/strconv.uint64pow10" .u64 Lib.pow10Tab) :
 Calls Tryz.prog 145 #[.int .u64 u] w fun e w' => e = .returned (.int .i64 (Lib.nDigits u)) ∧ w' = w := Any.internal_strconv_numDigits Tryz.laysM284 u h1 h2 w htab
def Tryz.lays285_ren : Go.Shelf.Ren := ⟨fun | 285 => 146 | n => n, fun | 37 => 160 | 53 => 184 | 3 => 3 | 4 => 4 | 51 => 182 | 9 => 9 | 5 => 5 | 0 => 0 | n => n, fun | n => n⟩
theorem Tryz.lays285 : Go.Proofs.Lays.n285 Tryz.prog Tryz.lays285_ren := {
 mixed := by kernel_rfl
 f285 := Tryz.func146.trans (congrArg some (by kernel_rfl))
 t0 := Tryz.underlying0
 a0 := Tryz.isAgg0
 z0 := Tryz.sizeOf0
 v0 := Tryz.zeroValue0
 t3 := Tryz.underlying3
 a3 := Tryz.isAgg3
 z3 := Tryz.sizeOf3
 v3 := Tryz.zeroValue3
 t4 := Tryz.underlying4
 a4 := Tryz.isAgg4
 z4 := Tryz.sizeOf4
 v4 := Tryz.zeroValue4
 t5 := Tryz.underlying5
 a5 := Tryz.isAgg5
 z5 := Tryz.sizeOf5
 v5 := Tryz.zeroValue5
 t9 := Tryz.underlying9
 a9 := Tryz.isAgg9
 z9 := Tryz.sizeOf9
 v9 := Tryz.zeroValue9
 t37 := Tryz.underlying160
 a37 := Tryz.isAgg160
 z37 := Tryz.sizeOf160
 v37 := Tryz.zeroValue160
 t51 := Tryz.underlying182
 a51 := Tryz.isAgg182
 z51 := Tryz.sizeOf182
 v51 := Tryz.zeroValue182
 t53 := Tryz.underlying184
 a53 := Tryz.isAgg184
 z53 := Tryz.sizeOf184
 v53 := Tryz.zeroValue184 }
end Go.Proofs
namespace Go.Proofs.YtiifcejepaeepaaGreatDoor
open Go.Ax Go.Ax.Gm Go.RowKit Go.Ax.Idx Go.Ax.Cd
attribute [local irreducible] Ax zCM QOp zd
theorem valsO {w : World} {S : Nat → Prop} {σ : Nat → Option Blk} {a : AV} {vals : Array Value} (h : VRs w S σ [a] vals) : ∃ x, vals = #[x] ∧ VR w S σ a x := by
 obtain ⟨h1, h2⟩ := h
 have q := h2 0 (by simp)
 have hl : vals.toList.length = 1 := by simpa using h1
 match hq : vals.toList, hl with
 | [x], _ =>
  have e : vals = #[x] := by rw [← Array.toArray_toList (xs := vals), hq]
  subst e
  exact ⟨x, J, by simpa using q⟩
theorem smallD (u : Nat) (h : u < 100) : zl Tryz.prog 144 [.int .i64 u] (.str (Lib.decDigits u)) := by
 refine zl.of_below ⟨Tryz.f144, J, by kernel_rfl, J⟩ J J (fun w S vals hG hS hv => ?_)
 obtain ⟨x, rfl, a⟩ := valsO hv
 have hx : x = .int .i64 (u : Nat) := by cases a; rfl
 subst hx
 refine (Tryz.internal_strconv_small u h w).mono ?_
 rintro e w' ⟨rfl, rfl⟩
 exact ⟨_, J, Below.refl _ _, .str _ _⟩
theorem numDig (u : Nat) (h1 : 1 ≤ u) (h2 : u < 18446744073709551616) : zl Tryz.prog 145 [.int .u64 u] (.int .i64 (Lib.nDigits u)) := by
 refine zl.of_below ⟨Tryz.f145, J, by kernel_rfl, J⟩ J J (fun w S vals hG hS hv => ?_)
 obtain ⟨x, rfl, a⟩ := valsO hv
 have hx : x = .int .u64 (u : Nat) := by cases a; rfl
 subst hx
 have hp : pinG w := hG
 refine (Tryz.internal_strconv_numDigits u h1 h2 w hp.2.1).mono ?_
 rintro e w' ⟨rfl, rfl⟩
 exact ⟨_, J, Below.refl _ _, .int _ _ _⟩
theorem fmt_ok {H : zQ} {h : Nat} {ty : TypeId} {s : List UInt8} {u : Nat} (hu64 : u < 18446744073709551616) (hn : Lib.nDigits u ≤ s.length) (hh : H[h]? = some (some ⟨ty, .ints .u8 (zAB s)⟩)) :
 zd Tryz.prog 146 [.sl h 0 (Lib.nDigits u), .int .u64 u] H (fun x => x < H.length) (fun r H' => r = .tup [] ∧ H' = H.set h (some ⟨ty, .ints .u8 (zAB (Lib.decDigits u ++ s.drop (Lib.nDigits u)))⟩)) :=
 fmt_call Tryz.lays285 ⟨Tryz.f146, Tryz.func146, by kernel_rfl, rfl⟩ hu64 hn hh
theorem zBW (s : List UInt8) : (zAB s).length = s.length := List.length_map _
theorem zD5 (s t : List UInt8) : zAB (s ++ t) = zAB s ++ zAB t := List.map_append
theorem zLL (s t : List UInt8) (n : Nat) (h : n = s.length) : ((zAB (s ++ t)).drop 0).take n = zAB s := by
 rw [List.drop_zero, zD5, List.take_append_of_le_length (by rw [zBW, h]; exact Nat.le_refl _), List.take_of_length_le (by rw [zBW, h]; exact Nat.le_refl _)]
/-- internal/strconv.AppendUint on an own row -/
theorem appU_ok (s : List UInt8) (u : Nat) (hu : u < 18446744073709551616) (hl : s.length ≤ 1000000) :
 zd Tryz.prog 138 [.sl 0 0 s.length, .int .u64 u, .int .i64 10] [some ⟨5, .ints .u8 (zAB s)⟩] (fun _ => False) (fun r H => r = .sl 0 0 (s ++ Lib.decDigits u).length ∧ ∃ T, H = some ⟨5, .ints .u8 (zAB (s ++ Lib.decDigits u))⟩ :: T) := by
 refine zN (P := Tryz.prog) (fn := Tryz.f138) J J (by kernel_rfl) J (fun c hR hfix => ?_)
 refine rn5 ?_
 have hd20 := Lib.nDigits_le20 u hu
 have hdl := Lib.decDigits_length u
 refine zF J (fun q => ?_) (fun q => ?_)
 ·refine rn0 ?_
  refine zA (q_conv64 J J J (by omega)) ?_
  skip
  refine zP J J J (smallD u (by omega)) ?_
  skip
  refine zJY (o := ⟨5, .ints .u8 (zAB s)⟩) (h := 0) (n := s.length) (s := Lib.decDigits u) (c' := .ints .u8 (zAB (s ++ Lib.decDigits u))) J J J J J J J J J (zBW s) J J J J ?_ (fun i j hi hj => ?_) (fun d j hd hj => ?_) (by show (s.length + (Lib.decDigits u).length) * 1 ≤ _ ∧ _; omega) (fun _ _ _ _ => rfl) (by rw [hfix]; exact fun h => h) ?_
  ·show (zAB (s ++ Lib.decDigits u)).length = (zAB s).length + (Lib.decDigits u).length
   rw [zBW, zBW, List.length_append]
  ·show AV.int .u8 ((zAB (s ++ Lib.decDigits u)).getD i 0) = AV.int .u8 ((zAB s).getD i 0)
   have hi' : i < (zAB s).length := hi
   rw [zD5]
   simp [List.getD, List.getElem?_append, hi']
  ·show AV.int .u8 ((zAB (s ++ Lib.decDigits u)).getD ((zAB s).length + d) 0) = _
   rw [zD6, zBW, zBX, if_neg (by omega), Nat.add_sub_cancel_left]
  refine rn2 ?_
  exact zL hR J ⟨by rw [List.length_append]; rfl, [], J⟩
 ·refine zFt ?_
  have hbl := zBW s
  refine zMM (n := 24) J J J (by kernel_rfl) (by unfold maxLen; omega) (by rw [hfix]; exact fun _ h => h) (fun c' b hσ hR' hfix' => ?_)
  refine rn0 ?_
  refine zP J J J (numDig u (by omega) hu) ?_
  refine rn0 ?_
  refine zA (zIB (n := 24) J J J J (by omega) hσ (by rw [hfix'])) ?_
  repeat (refine zA (zG rfl) ?_)
  refine zCA J J J (fmt_ok (s := List.replicate 24 0) (h := 1) hu (by rw [List.length_replicate]; omega) J) (fun _ h => h) (fun _ h => h) ?_
  rintro r H ⟨rfl, rfl⟩
  refine rn0 ?_
  refine zA (zIB (n := 24) J J J J (by omega) hσ (by rw [hfix'])) ?_
  skip
  refine zAj (h := 0) (n := s.length) (o := ⟨5, .ints .u8 (zAB s)⟩) (i := 0) (m := Lib.nDigits u) (cx := .ints .u8 (zAB (Lib.decDigits u ++ (List.replicate 24 0).drop (Lib.nDigits u)))) rfl rfl rfl rfl rfl rfl rfl rfl rfl hbl rfl rfl (by show 0 + Lib.nDigits u ≤ (zAB _).length; rw [zBW, List.length_append]; omega) rfl (by show (s.length + Lib.nDigits u) * 1 ≤ _ ∧ _; omega) (fun _ _ _ _ => rfl) (by rw [hfix']; exact fun e => by cases e) ?_
  rw [zLL _ _ _ hdl.symm]
  refine rn6 ?_
  refine zL (hR'.trans hR) J ⟨by rw [List.length_append, hdl]; rfl, ?_⟩
  rw [← zD5 s (Lib.decDigits u)]
  exact ⟨_, J⟩
/-- strconv.AppendInt on an own row -/
theorem appI_ok (s : List UInt8) (u : Nat) (hu : u < 9223372036854775808) (hl : s.length ≤ 1000000) :
 zd Tryz.prog 116 [.sl 0 0 s.length, .int .i64 u, .int .i64 10] [some ⟨5, .ints .u8 (zAB s)⟩] (fun _ => False) (fun r H => r = .sl 0 0 (s ++ Lib.decDigits u).length ∧ H = [some ⟨5, .ints .u8 (zAB (s ++ Lib.decDigits u))⟩]) := by
 have hI : zd Tryz.prog 126 [.sl 0 0 s.length, .int .i64 u, .int .i64 10] [some ⟨5, .ints .u8 (zAB s)⟩] (fun _ => False) (fun r H => r = .sl 0 0 (s ++ Lib.decDigits u).length ∧ ∃ T, H = some ⟨5, .ints .u8 (zAB (s ++ Lib.decDigits u))⟩ :: T) := by
  refine zN (P := Tryz.prog) (fn := Tryz.f126) J J (by kernel_rfl) J (fun c hR hfix => ?_)
  refine rn0 ?_
  refine zA (q_uconv (k' := .u64) (M := 18446744073709551616) (m := u) J J J uk64 (by omega)) ?_
  refine rn4 ?_
  refine zD4 0 rfl rfl rfl (appU_ok s u (by omega) hl) (fun h q1 q2 => absurd q1 (by intro q1; exact q2 (Nat.lt_one_iff.1 q1))) (fun h q => q.elim) (by rw [hfix]; exact fun h => h) ?_
  rintro r H ⟨rfl, T, rfl⟩
  refine ⟨Nat.succ_le_succ (Nat.zero_le _), ?_⟩
  refine rn0 ?_
  exact zL hR J ⟨J, T, J⟩
 refine zN (P := Tryz.prog) (fn := Tryz.f116) J J (by kernel_rfl) J (fun c hR hfix => ?_)
 refine rn0 ?_
 refine zD4 0 rfl rfl rfl (zd.cutR (K' := fun r H => r = .sl 0 0 (s ++ Lib.decDigits u).length ∧ H = [some ⟨5, .ints .u8 (zAB (s ++ Lib.decDigits u))⟩]) hI ?_) (fun h q1 q2 => absurd q1 (by intro q1; exact q2 (Nat.lt_one_iff.1 q1))) (fun h q => q.elim) (by rw [hfix]; exact fun h => h) ?_
 ·rintro r H ⟨rfl, T, rfl⟩
  exact ⟨[_], T, J, fun h q => q.elim, zBo (fun _ _ _ _ => rfl) zBK, J, J, J⟩
 rintro r H ⟨rfl, rfl⟩
 refine ⟨Nat.le_refl _, ?_⟩
 refine rn0 ?_
 exact zL hR J ⟨J, J⟩
theorem byte_nat {c : Int} (h : 0 ≤ c ∧ c < 256) : ((Go.Ax.Gm.byteOf c).toNat : Int) = c := by
 unfold Go.Ax.Gm.byteOf
 rw [UInt8.toNat_ofNat', Nat.mod_eq_of_lt (by omega)]; omega
theorem q_byte {ind : Bool} {P : Program} {fn : Func} {c : Ctx} {fr : Fr} {H : zQ} {d : Option Nat} {ty : TypeId} {pos : String} {after : Array Edge} {g : Option (Nat × Bool)} {x : Operand} {src dst : TypeId} {u : TypeDesc} {m : Int} (hs : P.underlying src = some u) (hd : P.underlying dst = some (.int .u8)) (hx : ev fr x = some (.int .i64 m)) (h : 0 ≤ m ∧ m < 256) :
 QOp ind P fn c fr H ⟨d, .convert src dst x, ty, pos, after, g⟩ (.int .u8 ((Go.Ax.Gm.byteOf m).toNat : Nat)) :=
 (zMm hs hd hx).res (by rw [byte_nat h]; exact congrArg _ (by have := uk8.in (m := m.toNat) (by omega); rwa [show ((m.toNat : Nat) : Int) = m by omega] at this))
/-- retro.key -/
theorem key_ok (p : Pos) (S : SmallP p) (ht : p.turn = 0 ∨ p.turn = 1) (hc : ∀ c ∈ p.cells, 0 ≤ c ∧ c < 256) (h0 : ∀ c ∈ p.h0, 0 ≤ c ∧ c ≤ 1000) (h1 : ∀ c ∈ p.h1, 0 ≤ c ∧ c ≤ 1000) : zl Tryz.prog 86 [poA p] (.str (keyT p)) := by
 refine zd.value0 (zN (P := Tryz.prog) (fn := Tryz.f86) J J (by kernel_rfl) J (fun c hR hfix => ?_)) (fix := fun _ => False) (fun _ h => h) J J
 refine zY ?_
 repeat (first | refine zA (zO rfl) ?_ | refine zC ?_ | refine zB ?_ | refine zJ rfl ?_ | refine zAO rfl rfl ?_)
 refine zB0 1 [] J ⟨J, trivial⟩ trivial J hfix ?_
 refine zBx ?_
 refine zA (q_byte J J J (by omega)) ?_
 refine zDS J J J J J J J J J J ?_
 refine zBx ?_
 have hcl := S.c
 refine z8 (ι := Nat) (fun k => [(1, .rp (.box (poC p)) 0 0), (13, z6 p.cells), (14, .int .i64 (p.cells.length : Nat)), (15, .int .i64 (k : Nat)), (3, .sl 0 0 (Go.Ax.Gm.byteOf p.turn :: (p.cells.take k).map Go.Ax.Gm.byteOf).length)]) (fun k => [some ⟨5, .ints .u8 (zAB (Go.Ax.Gm.byteOf p.turn :: (p.cells.take k).map Go.Ax.Gm.byteOf))⟩])
  (fun k => k ≤ p.cells.length) (fun k => p.cells.length - k) 0 ⟨⟨rfl, rfl, rfl, rfl, rfl, trivial⟩, rfl, Nat.zero_le _⟩ ?_
 intro k hk
 refine rn4 ?_
 refine zF J (fun q => ?_) (fun q => ?_)
 ·have hk' : k < p.cells.length := by omega
  have htk : (p.cells.take (k + 1)).map Go.Ax.Gm.byteOf = (p.cells.take k).map Go.Ax.Gm.byteOf ++ [Go.Ax.Gm.byteOf (p.cells.getD k 0)] := by
   rw [List.take_succ_eq_append_getElem hk', List.map_append]; simp [List.getD, hk']
  have hX : (Go.Ax.Gm.byteOf p.turn :: (p.cells.take k).map Go.Ax.Gm.byteOf).length = k + 1 := by rw [List.length_cons, List.length_map, List.length_take]; omega
  have hv : 0 ≤ p.cells.getD k 0 ∧ p.cells.getD k 0 < 256 := hc _ (by rw [List.getD, List.getElem?_eq_getElem hk']; exact List.getElem_mem hk')
  have hXX : Go.Ax.Gm.byteOf p.turn :: (p.cells.take (k + 1)).map Go.Ax.Gm.byteOf = (Go.Ax.Gm.byteOf p.turn :: (p.cells.take k).map Go.Ax.Gm.byteOf) ++ [Go.Ax.Gm.byteOf (p.cells.getD k 0)] := by rw [htk]; rfl
  generalize Go.Ax.Gm.byteOf p.turn :: (p.cells.take k).map Go.Ax.Gm.byteOf = X at hX hXX
  have hbl := zBW X
  refine rn6 ?_
  refine zA (q_byte J J J hv) ?_
  repeat (refine zAH rfl rfl rfl rfl rfl rfl rfl rfl rfl rfl rfl ?_)
  refine zAj (h := 0) (n := X.length) (o := ⟨5, .ints .u8 (zAB X)⟩) (i := 0) (m := 1) (cx := .ints .u8 [((Go.Ax.Gm.byteOf (p.cells.getD k 0)).toNat : Nat)]) J J J J J J J J J hbl J J (Nat.le_refl _) J (by show (X.length + 1) * 1 ≤ _ ∧ _; omega) (fun _ _ _ _ => rfl) (by rw [hfix]; exact fun h => h) ?_
  refine rn5 ?_
  refine zR ⟨k + 1, by omega, by omega, ⟨J, J, J, J, ?_, trivial⟩, ?_⟩
  ·rw [hXX, List.length_append]; rfl
  ·rw [hXX, zD5]; rfl
 ·have hk' : k = p.cells.length := by omega
  subst hk'
  rw [List.take_length]
  have hX : (Go.Ax.Gm.byteOf p.turn :: p.cells.map Go.Ax.Gm.byteOf).length ≤ 65 := by rw [List.length_cons, List.length_map]; omega
  have hkey : keyT p = (Go.Ax.Gm.byteOf p.turn :: p.cells.map Go.Ax.Gm.byteOf) ++ zCC (p.h0 ++ p.h1) := rfl
  rw [hkey] at hR
  generalize Go.Ax.Gm.byteOf p.turn :: p.cells.map Go.Ax.Gm.byteOf = X at hX hR
  repeat (first | refine zB ?_ | refine zY ?_ | refine zJ rfl ?_ | refine zCm ?_ | refine zAr ?_ | refine zAq ?_ | refine zA5 ?_ | refine zA (zD rfl rfl rfl rfl) ?_ | refine zA (zK rfl rfl rfl rfl rfl rfl) ?_ | refine zA (zBz rfl rfl rfl rfl (by first | (simp only [Nat.zero_add, Int.toNat_natCast]; exact rfl) | exact rfl) (by omega)) ?_ | refine zAH rfl rfl rfl rfl rfl rfl rfl rfl rfl rfl rfl ?_)
  refine zAt 31 (.ro (zJF [p.h0, p.h1]) 0 2) J (AEq.ro J (fun d j hd hj => ?_)) ?_
  ·obtain rfl : j = 0 := Nat.lt_one_iff.1 hj
   match d, hd with
   | 0, _ => rfl
   | 1, _ => rfl
  have s0 := S.h0
  have s1 := S.h1
  refine zP J J J (zNI p.h0 p.h1 (by omega)) ?_
  have hNl : (p.h0 ++ p.h1).length ≤ 12 := by rw [List.length_append]; omega
  have hNb : ∀ x ∈ p.h0 ++ p.h1, 0 ≤ x ∧ x ≤ 1000 := fun x hx => (List.mem_append.1 hx).elim (h0 x) (h1 x)
  generalize p.h0 ++ p.h1 = N at *
  refine rn3 ?_
  refine z8 (ι := Nat) (fun k => [(32, z6 N), (33, .int .i64 (N.length : Nat)), (34, .int .i64 (k : Nat)), (3, .sl 0 0 (X ++ zCC (N.take k)).length)]) (fun k => [some ⟨5, .ints .u8 (zAB (X ++ zCC (N.take k)))⟩])
   (fun k => k ≤ N.length ∧ (X ++ zCC (N.take k)).length ≤ 65 + 21 * k) (fun k => N.length - k) 0 ⟨⟨rfl, rfl, rfl, ?_, trivial⟩, ?_, Nat.zero_le _, ?_⟩ ?_
  ·rw [List.take_zero, show zCC [] = [] from rfl, List.append_nil]; rfl
  ·rw [List.take_zero, show zCC [] = [] from rfl, List.append_nil]
  ·rw [List.take_zero, show zCC [] = [] from rfl, List.append_nil]; omega
  intro k ⟨hk, hXl⟩
  refine rn4 ?_
  refine zF J (fun q => ?_) (fun q => ?_)
  ·have hk' : k < N.length := by omega
   have htk : zCC (N.take (k + 1)) = zCC (N.take k) ++ (Lib.itoa (N.getD k 0) ++ [32]) := by
    unfold zCC
    rw [List.take_succ_eq_append_getElem hk', List.map_append, List.flatten_append]; simp [List.getD, hk']
   obtain ⟨u, hu⟩ := Int.eq_ofNat_of_zero_le (hNb (N.getD k 0) (by rw [List.getD, List.getElem?_eq_getElem hk']; exact List.getElem_mem hk')).1
   have hu2 := (hNb (N.getD k 0) (by rw [List.getD, List.getElem?_eq_getElem hk']; exact List.getElem_mem hk')).2
   have hXX : X ++ zCC (N.take (k + 1)) = (X ++ zCC (N.take k)) ++ Lib.decDigits u ++ [32] := by rw [htk, hu, Go.Ax.Tb.itoa_nat]; simp
   have hd20 := Lib.nDigits_le20 u (by omega)
   have hdl := Lib.decDigits_length u
   generalize X ++ zCC (N.take k) = Y at hXl hXX
   refine rn6 ?_
   refine zAt 39 (.int .i64 (u : Nat)) J (AEq.of_eq (by rw [hu])) ?_
   refine zD4 0 rfl rfl rfl (appI_ok Y u (by omega) (by omega)) (fun h q1 q2 => absurd q1 (by intro q1; exact q2 (Nat.lt_one_iff.1 q1))) (fun h q => q.elim) (by rw [hfix]; exact fun h => h) ?_
   rintro r H ⟨rfl, rfl⟩
   refine ⟨Nat.le_refl _, ?_⟩
   repeat (refine zAH rfl rfl rfl rfl rfl rfl rfl rfl rfl rfl rfl ?_)
   refine zAj (h := 0) (n := (Y ++ Lib.decDigits u).length) (o := ⟨5, .ints .u8 (zAB (Y ++ Lib.decDigits u))⟩) (i := 0) (m := 1) (cx := .ints .u8 [32]) J J J J J J J J J (zBW _) J J (Nat.le_refl _) J (by show ((Y ++ Lib.decDigits u).length + 1) * 1 ≤ _ ∧ _; rw [List.length_append]; omega) (fun _ _ _ _ => rfl) (by rw [hfix]; exact fun h => h) ?_
   refine rn5 ?_
   refine zR ⟨k + 1, ⟨by omega, ?_⟩, by omega, ⟨J, J, J, ?_, trivial⟩, ?_⟩
   ·rw [hXX, List.length_append, List.length_append, List.length_singleton]; omega
   ·rw [hXX, show (Y ++ Lib.decDigits u ++ ([32] : List UInt8)).length = (Y ++ Lib.decDigits u).length + 1 by rw [List.length_append]; rfl]; rfl
   ·rw [hXX, zD5 (Y ++ Lib.decDigits u) [32]]; rfl
  ·have hk' : k = N.length := by omega
   subst hk'
   rw [List.take_length]
   refine rn5 ?_
   refine zA (q_strof (X ++ zCC N) J J J J J (by show 0 + (X ++ zCC N).length ≤ (zAB _).length; rw [zBW]; omega) J J (fun j hj => by show AV.int .u8 ((zAB (X ++ zCC N)).getD (0 + j) 0) = _; rw [zD6, Nat.zero_add])) ?_
   refine rn0 ?_
   exact zL hR J J
theorem zGH {n : Nat} (l : List Mv) : zAo n (zAy l) := fun i j _ hj => by
 have hj : j < 3 := hj
 show zCb n ((mvC (l.getD i mv0)).getD j .any) = true
 match j, hj with
 | 0, _ => rfl
 | 1, _ => rfl
 | 2, _ => rfl
def zCT (r : Go.Ax.Gm.Rules) (p : Pos) (k : Nat) : List Mv := zFr r p ++ (List.range k).flatMap (zFC r p)
theorem zMr (r : Go.Ax.Gm.Rules) (p : Pos) (k : Nat) : zCT r p (k + 1) = zCT r p k ++ zFC r p k := by
 unfold zCT
 rw [List.range_succ, List.flatMap_append, ← List.append_assoc]; simp
theorem zHw {r : Go.Ax.Gm.Rules} {p : Pos} {s k : Nat} {w : Go.Ax.Gm.Way} (h : zET w = true) : (zDh r p s k w).length ≤ 7 := by
 unfold zDh zHv
 rw [List.length_map]
 have := zMI r p w.take w.dx (dyOf p w) w.most.toNat ((s : Int).tmod r.w) ((s : Int).tdiv r.w)
 unfold zET at h
 simp only [Bool.and_eq_true] at h
 have b4 := Go.Ax.Gm.within_iff.1 h.2.2.2.1
 omega
theorem zHA {α β : Type} (f : α → List β) (m : Nat) : ∀ (l : List α), (∀ a ∈ l, (f a).length ≤ m) → (l.flatMap f).length ≤ m * l.length
 | [], _ => Nat.le_refl _
 | a :: l, h => by
  rw [List.flatMap_cons, List.length_append, List.length_cons, Nat.mul_succ]
  have h1 := h a (List.mem_cons_self ..)
  have h2 := zHA f m l (fun b hb => h b (List.mem_cons_of_mem _ hb))
  omega
theorem zNY {r : Go.Ax.Gm.Rules} (hv : ValidR r) {i : Nat} (hi : i < r.pcs.length) : (r.pcs.getD i pc0).ways.length ≤ 16 ∧ ∀ w ∈ (r.pcs.getD i pc0).ways, zET w = true := (zEI (hv.pc i hi)).2.2.2.2
theorem zHo {r : Go.Ax.Gm.Rules} (hv : ValidR r) {p : Pos} (S : Sound r p) (k : Nat) : (zCT r p k).length ≤ 384 + 112 * k := by
 unfold zCT
 rw [List.length_append]
 have h1 : (zFr r p).length ≤ 384 := by
  have := zGk r p (by have := zIr S p.turn; have := hv.n6; omega) p.cells.length
  have hc := (zBT hv S).c
  have e : zFr r p = zBd r p p.cells.length := rfl
  rw [e]; omega
 have h2 := zHA (zFC r p) 112 (List.range k) (fun s _ => by
  unfold zFC
  split
  ·rename_i ho
   unfold ownC at ho
   rw [Bool.and_eq_true, decide_eq_true_eq] at ho
   have hc := zE6 S s
   have hk := zGF ho.1 hc.1 hc.2
   obtain ⟨h16, hw⟩ := zNY hv hk
   have := zHA (zDh r p s (zAd (zAL p s))) 7 _ (fun w hm => zHw (hw w hm))
   omega
  ·exact Nat.zero_le _)
 rw [List.length_range] at h2
 omega
/-- moves.List: the list is the caller's -/
theorem zLj (r : Go.Ax.Gm.Rules) (hv : ValidR r) (p : Pos) (S : Sound r p) : zd Tryz.prog 65 [ruA r, poA p] [] (fun _ => False) (fun v H => v = .sl 0 0 (zx r p).length ∧ H = [some ⟨58, zAy (zx r p)⟩]) := by
 refine zN (P := Tryz.prog) (fn := Tryz.f65) J J (by kernel_rfl) J (fun c hR hfix => ?_)
 ·have hc := (zBT hv S).c
  have hw : 1 ≤ r.w ∧ r.w ≤ 8 := ⟨hv.w1, hv.w8⟩
  have hh : 1 ≤ r.h ∧ r.h ≤ 8 := ⟨hv.h1, hv.h8⟩
  refine zY ?_
  repeat (first | refine zA (zO rfl) ?_ | refine zC ?_ | refine zB ?_ | refine zJ rfl ?_ | refine zAO rfl rfl ?_)
  refine zCn 2 3 [(4, .nil)] J J J J ⟨J, trivial⟩ ⟨J, J, J, trivial⟩ J hfix ?_
  refine rn6 ?_
  refine zD3 J J J (puts_ok r hw p (zBT hv S) S.tn) ?_
  refine zBx ?_
  refine z8 (ι := Nat) (fun k => [(2, .rp (.box (ruC r)) 0 0), (3, .rp (.box (poC p)) 0 0), (5, .sl 0 0 (zCT r p k).length), (19, z6 p.cells), (20, iN p.cells.length), (21, iN k)]) (fun k => [some ⟨58, zAy (zCT r p k)⟩])
   (fun k => k ≤ p.cells.length) (fun k => p.cells.length - k) 0 ⟨⟨rfl, rfl, ?_, rfl, rfl, rfl, trivial⟩, ?_, Nat.zero_le _⟩ ?_
  ·unfold zCT; rw [List.range_zero, List.flatMap_nil, List.append_nil]; rfl
  ·unfold zCT; rw [List.range_zero, List.flatMap_nil, List.append_nil]; rfl
  intro k hk
  refine rn4 ?_
  refine zF J (fun q => ?_) (fun q => ?_)
  ·have hk' : k < p.cells.length := by omega
   have hC12 := zIe hv S k
   have hsucc := zMr r p k
   have hNl := zHo hv S k
   have htn : 0 ≤ p.turn ∧ p.turn ≤ 1 := by have := S.tn; omega
   repeat (first | refine zA (zG rfl) ?_ | refine zA (zO rfl) ?_ | refine zA (zBZ rfl rfl rfl) ?_ | refine zC ?_ | refine zB ?_ | refine zY ?_ | refine zJ rfl ?_ | refine zAc ?_ | refine zAQ ?_ | refine zA (zh rfl rfl rfl rfl (by first | (simp only [Nat.zero_add, Int.toNat_natCast, Int.toNat_zero]; exact rfl) | exact rfl) (by omega)) ?_)
   obtain ⟨C, hC⟩ : ∃ C, zAL p k = C := ⟨_, rfl⟩
   have hown : ownC p k = (decide (C ≠ 0) && decide ((C - 1).tmod 2 = p.turn)) := by rw [← hC]; rfl
   have hKlt : C ≠ 0 → zAd C < r.pcs.length := fun q => zGF q (by have := hC12.1; rw [hC] at this; exact this) (by have := (zE6 S k).2; rw [hC] at this; exact this)
   rw [hC] at hC12
   refine zAt 7 (.int .i64 C) J (AEq.of_eq (by rw [← hC]; rfl)) ?_
   refine zAt 26 (.int .i64 C) J (AEq.of_eq (by rw [← hC]; rfl)) ?_
   refine rn4 ?_
   apply zAJ (H := [some ⟨58, zAy (zCT r p k)⟩]) [(2, .rp (.box (ruC r)) 0 0), (3, .rp (.box (poC p)) 0 0), (5, .sl 0 0 (zCT r p k).length), (19, z6 p.cells), (20, iN p.cells.length), (21, iN k), (6, iN k), (7, .int .i64 C), (35, .bool (!(ownC p k)))]
   ·intro fin
    refine zo J J (fun f1 => ?_) (fun f1 => ?_)
    ·refine zBA ?_
     exact fin _ ⟨J, J, J, J, J, J, J, J, congrArg (fun b => some (AV.bool b)) (show true = !(ownC p k) by rw [hown, decide_eq_false (show ¬ C ≠ 0 from fun q => q f1)]; rfl), trivial⟩
    ·have f1 : ¬ C = 0 := f1
     repeat (first | refine zA (zG rfl) ?_ | refine zC ?_ | refine zB ?_ | refine zr rfl rfl ?_ | refine zA (zBl rfl rfl) ?_ | refine zA (zg rfl rfl) ?_ | refine zA (zBL rfl rfl (by omega)) ?_ | refine zA (zKK rfl rfl (by omega)) ?_ | refine zA (zD rfl rfl rfl rfl) ?_ | refine zA (zK rfl rfl rfl rfl rfl rfl) ?_)
     exact fin _ ⟨J, J, J, J, J, J, J, J, congrArg (fun b => some (AV.bool b)) (show decide (¬ (C - 1) % 2 = p.turn) = !(ownC p k) by rw [hown, decide_eq_true f1, Int.tmod_eq_emod_of_nonneg (by omega), Bool.true_and, decide_not]), trivial⟩
   refine zAP J (fun g => ?_) (fun g => ?_)
   ·rw [Bool.not_eq_true'] at g
    have e : zCT r p (k + 1) = zCT r p k := by rw [hsucc]; unfold zFC; rw [if_neg (by rw [g]; exact Bool.false_ne_true), List.append_nil]
    refine rn5 ?_
    exact zR ⟨k + 1, by omega, by omega, by rw [e]; exact ⟨J, J, J, J, J, J, trivial⟩, by rw [e]⟩
   rw [Bool.not_eq_false'] at g
   have hC0 : C ≠ 0 := by
    rw [hown, Bool.and_eq_true, decide_eq_true_eq] at g
    exact g.1
   have hK := hKlt hC0
   have hgo : zFC r p k = (r.pcs.getD (zAd C) pc0).ways.flatMap (zDh r p k (zAd C)) := by unfold zFC; rw [if_pos g, hC]
   have hKC : (C - 1) / 2 = ((zAd C : Nat) : Int) := by unfold zAd; rw [Int.tdiv_eq_ediv_of_nonneg (by omega)]; omega
   obtain ⟨hw16, hwo⟩ := zNY hv hK
   have hpr := zEI (hv.pc _ hK)
   generalize zAd C = K at hK hgo hKC hw16 hwo hpr
   generalize hpc : r.pcs.getD K pc0 = pc at hgo hw16 hwo hpr
   obtain ⟨ws, hws⟩ : ∃ ws, pc.ways = ws := ⟨_, rfl⟩
   rw [hws] at hgo hw16 hwo
   repeat (first | refine zA (zG rfl) ?_ | refine zA (zO rfl) ?_ | refine zC ?_ | refine zB ?_ | refine zY ?_ | refine zJ rfl ?_ | refine zAQ ?_ | refine zA (zBL rfl rfl (by omega)) ?_ | refine zA (zIA rfl rfl (by omega)) ?_)
   refine zAt 8 (iN K) J (AEq.of_eq (by rw [hKC])) ?_
   refine zBx ?_
   refine z8 (ι := Nat) (fun j => [(2, .rp (.box (ruC r)) 0 0), (3, .rp (.box (poC p)) 0 0), (5, .sl 0 0 (zCT r p k ++ (ws.take j).flatMap (zDh r p k K)).length), (19, z6 p.cells), (20, iN p.cells.length), (21, iN k), (6, iN k), (8, iN K), (44, .ro (zE1 ws) 0 ws.length), (45, iN ws.length), (46, iN j)]) (fun j => [some ⟨58, zAy (zCT r p k ++ (ws.take j).flatMap (zDh r p k K))⟩])
    (fun j => j ≤ ws.length) (fun j => ws.length - j) 0 ⟨⟨rfl, rfl, ?_, rfl, rfl, rfl, rfl, rfl, ?_, ?_, rfl, trivial⟩, ?_, Nat.zero_le _⟩ ?_
   ·rw [List.take_zero, List.flatMap_nil, List.append_nil]; rfl
   ·rw [← hws, ← hpc]; rfl
   ·rw [← hws, ← hpc]; rfl
   ·rw [List.take_zero, List.flatMap_nil, List.append_nil]
   intro j hj
   have hMl : (zCT r p k ++ (ws.take j).flatMap (zDh r p k K)).length ≤ 384 + 112 * k + 7 * j := by
    rw [List.length_append]
    have := zHA (zDh r p k K) 7 (ws.take j) (fun w hm => zHw (hwo w (List.mem_of_mem_take hm)))
    rw [List.length_take] at this
    have : min j ws.length ≤ j := Nat.min_le_left _ _
    omega
   have hMs : ∀ w, ws.getD j way0 = w → j < ws.length → zCT r p k ++ (ws.take (j + 1)).flatMap (zDh r p k K) = (zCT r p k ++ (ws.take j).flatMap (zDh r p k K)) ++ zDh r p k K w := fun w hw1 q => by
    rw [zz ws way0 j q, List.flatMap_append, hw1, List.append_assoc]; simp
   generalize hM : zCT r p k ++ (ws.take j).flatMap (zDh r p k K) = M at hMl hMs
   refine rn4 ?_
   refine zF J (fun q2 => ?_) (fun q2 => ?_)
   ·have hj' : j < ws.length := by omega
    generalize hwj : ws.getD j way0 = w
    have hwm : zET w = true := hwo w (by rw [← hwj]; exact zAN way0 hj')
    have hMs := hMs w hwj hj'
    refine zFu ?_
    repeat (refine zAK rfl rfl rfl ?_)
    refine zb (zF3 w) J J J J J (by rw [← hwj]; rfl) J ?_
    refine zBA ?_
    refine ax_fzL [some ⟨58, zAy M⟩] 10 [(2, .rp (.box (ruC r)) 0 0), (3, .rp (.box (poC p)) 0 0), (5, .sl 0 0 M.length), (19, z6 p.cells), (20, iN p.cells.length), (21, iN k), (6, iN k), (8, iN K), (44, .ro (zE1 ws) 0 ws.length), (45, iN ws.length), (46, iN j)] J J ⟨J, J, J, J, J, J, J, J, J, J, J, trivial⟩ ⟨J, J, J, J, J, J, J, J, J, J, J, J, trivial⟩ (zBo (zGH _) zBK) J hfix ?_
    refine rn6 ?_
    refine zP J J J (way_ok r hv p S k hk' w hwm) ?_
    have hTl : (zDh r p k K w).length = (zHv r p k w).length := List.length_map ..
    have hT7 := zHw (r := r) (p := p) (s := k) (k := K) hwm
    have hTd : zDh r p k K w = (zHv r p k w).map (goM r p k K pc.promote) := by unfold zDh; rw [hpc]
    generalize hTT : zHv r p k w = T at hTl hTd
    have hTb : ∀ t ∈ T, 0 ≤ t ∧ t < 1000 := fun t ht => by
     rw [← hTT] at ht
     have := zKn ht
     have hcl := S.cl
     omega
    refine rn3 ?_
    refine z8 (ι := Nat) (fun i => [(2, .rp (.box (ruC r)) 0 0), (3, .rp (.box (poC p)) 0 0), (5, .sl 0 0 (M ++ (T.take i).map (goM r p k K pc.promote)).length), (19, z6 p.cells), (20, iN p.cells.length), (21, iN k), (6, iN k), (8, iN K), (44, .ro (zE1 ws) 0 ws.length), (45, iN ws.length), (46, iN j), (54, z6 T), (55, iN T.length), (56, iN i)]) (fun i => [some ⟨58, zAy (M ++ (T.take i).map (goM r p k K pc.promote))⟩])
     (fun i => i ≤ T.length) (fun i => T.length - i) 0 ⟨⟨rfl, rfl, ?_, rfl, rfl, rfl, rfl, rfl, rfl, rfl, rfl, rfl, rfl, rfl, trivial⟩, ?_, Nat.zero_le _⟩ ?_
    ·rw [List.take_zero, List.map_nil, List.append_nil]; rfl
    ·rw [List.take_zero, List.map_nil, List.append_nil]
    intro i hi
    have hNs : ∀ t, T.getD i 0 = t → i < T.length → M ++ (T.take (i + 1)).map (goM r p k K pc.promote) = (M ++ (T.take i).map (goM r p k K pc.promote)) ++ [goM r p k K pc.promote t] := fun t ht q => by
     rw [zz T 0 i q, List.map_append, ht, List.append_assoc]; rfl
    have hNl : (M ++ (T.take i).map (goM r p k K pc.promote)).length ≤ 384 + 112 * k + 7 * j + i := by
     rw [List.length_append, List.length_map, List.length_take]
     have : min i T.length ≤ i := Nat.min_le_left _ _
     omega
    generalize hN : M ++ (T.take i).map (goM r p k K pc.promote) = N at hNl hNs
    refine rn4 ?_
    refine zF J (fun q3 => ?_) (fun q3 => ?_)
    ·have hi' : i < T.length := by omega
     obtain ⟨t, ht⟩ : ∃ t, T.getD i 0 = t := ⟨_, rfl⟩
     have htb := hTb t (by rw [← ht]; exact zAN 0 hi')
     have hNs := hNs t ht hi'
     have hnl : (N ++ [goM r p k K pc.promote t]).length = N.length + 1 := by rw [List.length_append]; rfl
     refine rn6 ?_
     refine zAt 12 (.int .i64 t) J (AEq.of_eq (by rw [← ht])) ?_
     refine zAt 61 (.int .i64 t) J (AEq.of_eq (by rw [← ht])) ?_
     refine rn8 ?_
     refine zb [iN k, .int .i64 t, iN K] J J J J J J J ?_
     repeat (first | refine zA (zG rfl) ?_ | refine zA (zO rfl) ?_ | refine zC ?_ | refine zB ?_ | refine zY ?_ | refine zJ rfl ?_ | refine zA (zAm rfl rfl rfl rfl) ?_ | refine zA (zCY rfl rfl) ?_ | refine zA (zh rfl rfl rfl rfl (by first | (simp only [Nat.zero_add, Int.toNat_natCast, Int.toNat_zero]; exact rfl) | exact rfl) (by omega)) ?_ | refine zA (zD rfl rfl rfl rfl) ?_ | refine zA (zK rfl rfl rfl rfl rfl rfl) ?_)
     apply zAJ (H := [some ⟨58, zAy N⟩, some ⟨58, .box (mvC (goM r p k K pc.promote t))⟩]) [(2, .rp (.box (ruC r)) 0 0), (3, .rp (.box (poC p)) 0 0), (5, .sl 0 0 N.length), (19, z6 p.cells), (20, iN p.cells.length), (21, iN k), (6, iN k), (8, iN K), (44, .ro (zE1 ws) 0 ws.length), (45, iN ws.length), (46, iN j), (54, z6 T), (55, iN T.length), (56, iN i), (13, .ptr 1 0 0)]
     ·intro fin
      have keep : ¬ (0 < pc.promote ∧ zFh r p.turn t = true) → goM r p k K pc.promote t = ⟨k, t, K⟩ := fun q => by unfold goM; rw [if_neg q]
      refine zo J J (fun n1 => ?_) (fun n1 => ?_)
      ·have n1 : 0 < (r.pcs.getD K pc0).promote := n1
       rw [hpc] at n1
       repeat (first | refine zA (zG rfl) ?_ | refine zr rfl rfl ?_ | refine zA (zD rfl rfl rfl rfl) ?_ | refine zA (zK rfl rfl rfl rfl rfl rfl) ?_ | refine zA (zf rfl rfl rfl rfl rfl rfl) ?_)
       refine zP J J J (zJ8 r hw hh p.turn t htb) ?_
       refine rn2 ?_
       refine zAP J (fun n2 => ?_) (fun n2 => ?_)
       ·have e : goM r p k K pc.promote t = ⟨k, t, pc.promote - 1⟩ := by unfold goM; rw [if_pos ⟨n1, n2⟩]
        have hn6 := hv.n6
        have hb6 : -9223372036854775808 ≤ (r.pcs.getD K pc0).promote - 1 ∧ (r.pcs.getD K pc0).promote - 1 ≤ 9223372036854775807 := by rw [hpc]; omega
        skip
        refine zJ J ?_
        repeat (first | refine zA (zG rfl) ?_ | refine zC ?_ | refine zB ?_ | refine zA (zBL rfl rfl (by omega)) ?_ | refine zA (zM rfl rfl rfl rfl rfl rfl) ?_ | refine zAF rfl rfl rfl rfl rfl rfl rfl Nat.zero_lt_one ?_)
        refine zAS [some ⟨58, zAy N⟩, some ⟨58, .box (mvC (goM r p k K pc.promote t))⟩] (by rw [e, ← hpc]; rfl) ?_
        exact fin _ ⟨J, J, J, J, J, J, J, J, J, J, J, J, J, J, J, trivial⟩
       ·have e := keep (fun q => by rw [n2] at q; exact Bool.false_ne_true q.2)
        refine zFt ?_
        refine zAS [some ⟨58, zAy N⟩, some ⟨58, .box (mvC (goM r p k K pc.promote t))⟩] (by rw [e]; rfl) ?_
        exact fin _ ⟨J, J, J, J, J, J, J, J, J, J, J, J, J, J, J, trivial⟩
      ·have n1 : ¬ 0 < (r.pcs.getD K pc0).promote := n1
       rw [hpc] at n1
       have e := keep (fun q => n1 q.1)
       refine zFt ?_
       refine zAS [some ⟨58, zAy N⟩, some ⟨58, .box (mvC (goM r p k K pc.promote t))⟩] (by rw [e]; rfl) ?_
       exact fin _ ⟨J, J, J, J, J, J, J, J, J, J, J, J, J, J, J, trivial⟩
     generalize hgm : goM r p k K pc.promote t = gm at hNs hnl
     refine rn6 ?_
     refine zBV [gm] J J J J J J J J J J J J J (by show 0 + 1 ≤ 1; omega) (fun k' j' hk' hj' => ?_) (by show (N.length + 1) * 24 ≤ _ ∧ _; omega) zGg (by rw [hfix]; exact fun h => h) ?_
     ·obtain rfl : k' = 0 := Nat.lt_one_iff.1 hk'
      match j', hj' with
      | 0, _ => rfl
      | 1, _ => rfl
      | 2, _ => rfl
     refine rn10 ?_
     refine zB ?_
     refine zBh [some ⟨58, zAy (N ++ [gm])⟩] [some ⟨58, .box (mvC gm)⟩] [(2, .rp (.box (ruC r)) 0 0), (3, .rp (.box (poC p)) 0 0), (5, .sl 0 0 (N ++ [gm]).length), (19, z6 p.cells), (20, iN p.cells.length), (21, iN k), (6, iN k), (8, iN K), (44, .ro (zE1 ws) 0 ws.length), (45, iN ws.length), (46, iN j), (54, z6 T), (55, iN T.length), (56, iN i)] J ⟨J, J, by rw [hnl]; rfl, J, J, J, J, J, J, J, J, J, J, J, trivial⟩ (fun h hh => by rw [hfix] at hh; exact hh.elim) (zBo (zGH _) zBK) J ?_
     refine rn3 ?_
     exact zR ⟨i + 1, by omega, by omega, by rw [hNs]; exact ⟨J, J, J, J, J, J, J, J, J, J, J, J, J, J, trivial⟩, by rw [hNs]⟩
    ·have hi' : i = T.length := by omega
     subst hi'
     rw [List.take_length, ← hTd] at hN
     rw [← hMs] at hN
     refine rn5 ?_
     exact zR ⟨j + 1, by omega, by omega, by rw [hN]; exact ⟨J, J, J, J, J, J, J, J, J, J, J, trivial⟩, by rw [hN]⟩
   ·have hj' : j = ws.length := by omega
    subst hj'
    rw [List.take_length] at hM
    have e : zCT r p (k + 1) = M := by rw [hsucc, hgo, hM]
    refine rn5 ?_
    exact zR ⟨k + 1, by omega, by omega, by rw [e]; exact ⟨J, J, J, J, J, J, trivial⟩, by rw [e]⟩
  ·have hk' : k = p.cells.length := by omega
   subst hk'
   have hNl := zHo hv S p.cells.length
   have hraw : rawM r p = zCT r p p.cells.length := rfl
   have hlist : zx r p = zt ((zCT r p p.cells.length).mergeSort leM) := rfl
   generalize zCT r p p.cells.length = R at hNl hlist
   have hsl : (R.mergeSort leM).length = R.length := List.length_mergeSort ..
   have csort := zON (H := [some ⟨58, zAy R⟩]) (h := 0) (l := R) (by omega) rfl
   have ccomp := zMR (R.mergeSort leM) (by omega)
   rw [hsl, ← hlist] at ccomp
   refine rn5 ?_
   refine zCA J J J csort (fun _ h => h) (fun _ h => h) ?_
   rintro r' H' ⟨rfl, rfl⟩
   refine rn0 ?_
   refine zCA J J J ccomp (fun _ h => h) (fun _ h => h) ?_
   rintro r' H' ⟨rfl, rfl⟩
   refine rn7 ?_
   refine zLH 0 (zAy (zx r p)) J ⟨?_, J, fun i j hi hj => ?_⟩ ?_
   ·show (zx r p).length ≤ (zx r p ++ List.replicate (R.length - (zx r p).length) mv0).length
    rw [List.length_append]; omega
   ·show (mvC ((zx r p).getD i mv0)).getD j .any = (mvC ((zx r p ++ List.replicate (R.length - (zx r p).length) mv0).getD i mv0)).getD j .any
    have hi : i < (zx r p).length := hi
    rw [zBX, if_pos hi]
   repeat (refine zAA ?_)
   exact zL hR J ⟨J, J⟩
/-- moves.List -/
theorem list_ok (r : Go.Ax.Gm.Rules) (hv : ValidR r) (p : Pos) (S : Sound r p) : zl Tryz.prog 65 [ruA r, poA p] (zBC (zx r p)) := by
 refine zd.value (K := (fun v H => v = .sl 0 0 (zx r p).length ∧ H = [some ⟨58, zAy (zx r p)⟩])) (zLj r hv p S) (fix := fun _ => False) (fun _ h => h) J ?_
 rintro v H ⟨rfl, rfl⟩
 refine ⟨J, ?_, fun h o ho => zEN (zAZ zDO) h o ho⟩
 intro o ho; simp at ho; subst ho; show 0 + (zx r p).length ≤ (zx r p).length; omega
theorem listF_ok (r : Go.Ax.Gm.Rules) (hv : ValidR r) (p : Pos) (S : Sound r p) : zHy Tryz.prog 65 [ruA r, poA p] (fun N => .sl N 0 (zx r p).length) ⟨58, zAy (zx r p)⟩ := by
 refine zd.fresh (K := (fun v H => v = .sl 0 0 (zx r p).length ∧ H = [some ⟨58, zAy (zx r p)⟩])) (zLj r hv p S) (fix := fun _ => False) (fun _ h => h) J (fun H => ⟨J, by simp [zGd, inB, ruC, poC]⟩) ?_
 rintro v H ⟨rfl, rfl⟩
 refine ⟨?_, fun h o ho => zEN (zAZ zDO) h o ho, 0, J, fun n => rfl⟩
 intro o ho; simp at ho; subst ho; show 0 + (zx r p).length ≤ (zx r p).length; omega
/-- ends.line$1 -/
theorem own_ok (r : Go.Ax.Gm.Rules) (hv : ValidR r) (p : Pos) (S : Sound r p) (player x y : Int) : zl Tryz.prog 125 [.int .i64 x, .int .i64 y, .rp (.box (ruC r)) 0 0, .rp (.box (poC p)) 0 0, .rp (.box [.int .i64 player]) 0 0] (.bool (zHH r p player x y)) := by
 refine zd.value0 (zN (P := Tryz.prog) (fn := Tryz.f125) J J (by kernel_rfl) J (fun c hR hfix => ?_)) (fix := fun _ => False) (fun _ h => h) J J
 have hc := (zBT hv S).c
 have hcl := S.cl
 have hw : 1 ≤ r.w ∧ r.w ≤ 8 := ⟨hv.w1, hv.w8⟩
 have hh : 1 ≤ r.h ∧ r.h ≤ 8 := ⟨hv.h1, hv.h8⟩
 refine rn4 ?_
 apply zAJ (H := []) [(0, .int .i64 x), (1, .int .i64 y), (2, .rp (.box (ruC r)) 0 0), (3, .rp (.box (poC p)) 0 0), (4, .rp (.box [.int .i64 player]) 0 0), (26, .bool (zFm r x y))]
 ·intro fin
  refine zo J J (fun f1 => ?_) (fun f1 => ?_)
  ·refine zBA ?_
   exact fin _ ⟨J, J, J, J, J, by unfold zFm; rw [decide_eq_true (show x < 0 from f1)]; rfl, trivial⟩
  repeat (first | refine zA (zG rfl) ?_ | refine zr rfl rfl ?_ | refine zA (zDs rfl rfl) ?_ | refine zA (zg rfl rfl) ?_ | refine zA (zD rfl rfl rfl rfl) ?_ | refine zA (zK rfl rfl rfl rfl rfl rfl) ?_)
  refine zo J J (fun f2 => ?_) (fun f2 => ?_)
  ·refine zBA ?_
   exact fin _ ⟨J, J, J, J, J, by unfold zFm; rw [decide_eq_false (show ¬ x < 0 from f1), decide_eq_true (show r.w ≤ x from f2)]; rfl, trivial⟩
  repeat (first | refine zA (zG rfl) ?_ | refine zr rfl rfl ?_ | refine zA (zCE rfl rfl) ?_ | refine zA (zg rfl rfl) ?_)
  refine zo J J (fun f3 => ?_) (fun f3 => ?_)
  ·refine zBA ?_
   exact fin _ ⟨J, J, J, J, J, by unfold zFm; rw [decide_eq_false (show ¬ x < 0 from f1), decide_eq_false (show ¬ r.w ≤ x from f2), decide_eq_true (show y < 0 from f3)]; rfl, trivial⟩
  repeat (first | refine zA (zG rfl) ?_ | refine zC ?_ | refine zB ?_ | refine zr rfl rfl ?_ | refine zA (zDs rfl rfl) ?_ | refine zA (zg rfl rfl) ?_ | refine zA (zD rfl rfl rfl rfl) ?_ | refine zA (zK rfl rfl rfl rfl rfl rfl) ?_)
  exact fin _ ⟨J, J, J, J, J, by unfold zFm; rw [decide_eq_false (show ¬ x < 0 from f1), decide_eq_false (show ¬ r.w ≤ x from f2), decide_eq_false (show ¬ y < 0 from f3)]; rfl, trivial⟩
 refine zAP J (fun g => ?_) (fun g => ?_)
 ·refine rn2 ?_
  refine zL hR J ?_
  unfold zHH; rw [g]; rfl
 have hsq := sq_lt g
 have hoff : 0 ≤ x ∧ x < r.w ∧ 0 ≤ y ∧ y < r.h := by
  unfold zFm at g
  simp only [Bool.or_eq_false_iff, decide_eq_false_iff_not] at g
  omega
 have hYw : 0 ≤ y * r.w ∧ y * r.w ≤ 64 := ⟨Int.mul_nonneg (by omega) (by omega), by
  have a := Int.mul_le_mul (show y ≤ 8 by omega) hw.2 (by omega) (by decide)
  exact Int.le_trans a (by decide)⟩
 have hC12 := zIe hv S (y * r.w + x).toNat
 refine zBx ?_
 refine zA (zDA J J (by omega)) ?_
 repeat (first | refine zA (zG rfl) ?_ | refine zA (zO rfl) ?_ | refine zA (zBZ rfl rfl rfl) ?_ | refine zC ?_ | refine zB ?_ | refine zA (zAw rfl rfl (by omega)) ?_ | refine zA (zh rfl rfl rfl rfl (by first | (simp only [Nat.zero_add, Int.toNat_natCast, Int.toNat_zero]; exact rfl) | exact rfl) (by omega)) ?_)
 obtain ⟨C, hC⟩ : ∃ C, zAL p (y * r.w + x).toNat = C := ⟨_, rfl⟩
 rw [hC] at hC12
 refine zBB 8 (.int .i64 C) J (AEq.of_eq (by rw [← hC]; rfl)) ?_
 refine rn6 ?_
 refine zo J J (fun e1 => ?_) (fun e1 => ?_)
 ·repeat (first | refine zA (zG rfl) ?_ | refine zA (zO rfl) ?_ | refine zC ?_ | refine zB ?_ | refine zr rfl rfl ?_ | refine zAA ?_ | refine zA (zBR rfl rfl) ?_ | refine zA (zg rfl rfl) ?_ | refine zA (zBL rfl rfl (by omega)) ?_ | refine zA (zKK rfl rfl (by omega)) ?_ | refine zA (zD rfl rfl rfl rfl) ?_)
  refine zL hR J ?_
  have e1 : 0 < C := e1
  unfold zHH; rw [g, hC, decide_eq_true e1, Int.tmod_eq_emod_of_nonneg (by omega)]; rfl
 ·refine rn6 ?_
  refine zL hR J ?_
  have e1 : ¬ 0 < C := e1
  unfold zHH; rw [g, hC, decide_eq_false e1]; rfl
/-- ends.wins -/
theorem zIX (n : Int) (h : 0 ≤ n ∧ n ≤ 1) : zl Tryz.prog 85 [.int .i64 n] (.int .i64 (1 + n)) := by
 refine zd.value0 (zN (P := Tryz.prog) (fn := Tryz.f85) J J (by kernel_rfl) J (fun c hR hfix => ?_)) (fix := fun _ => False) (fun _ h => h) J J
 refine rn3 ?_
 exact zL hR J J
def dirA : List AV := [.int .i64 1, .int .i64 0, .int .i64 0, .int .i64 1, .int .i64 1, .int .i64 1, .int .i64 1, .int .i64 (-1)]
def zEo (i : Nat) : Int × Int := dirs.getD i (0, 0)
theorem dirA_at {i : Nat} (hi : i < 4) : (dirA.drop (i * 2)).take 2 = [.int .i64 (zEo i).1, .int .i64 (zEo i).2] := by
 match i, hi with
 | 0, _ => rfl
 | 1, _ => rfl
 | 2, _ => rfl
 | 3, _ => rfl
theorem zNi {i : Nat} (hi : i < 4) : -1 ≤ (zEo i).1 ∧ (zEo i).1 ≤ 1 ∧ -1 ≤ (zEo i).2 ∧ (zEo i).2 ≤ 1 := by
 match i, hi with
 | 0, _ => decide
 | 1, _ => decide
 | 2, _ => decide
 | 3, _ => decide
theorem zNj {i : Nat} (hi : i < 4) (f : Int × Int → Bool) : (dirs.take (i + 1)).any f = ((dirs.take i).any f || f (zEo i)) := zBn f dirs (0, 0) i hi
theorem row_succ (r : Go.Ax.Gm.Rules) (p : Pos) (player : Int) (n : Nat) (x y dx dy : Int) : zCJ r p player (n + 1) x y dx dy = (zCJ r p player n x y dx dy && zHH r p player (x + n * dx) (y + n * dy)) := by
 unfold zCJ
 rw [List.range_succ, List.all_append]; simp
theorem row_no {r : Go.Ax.Gm.Rules} {p : Pos} {player : Int} {n N : Nat} {x y dx dy : Int} (h : n < N) (ho : zHH r p player (x + n * dx) (y + n * dy) = false) : zCJ r p player N x y dx dy = false := by
 refine Bool.eq_false_iff.2 (fun q => ?_)
 unfold zCJ at q
 have := List.all_eq_true.1 q n (List.mem_range.2 h)
 rw [ho] at this; cases this
theorem own_in {r : Go.Ax.Gm.Rules} {p : Pos} {player x y : Int} (h : zHH r p player x y = true) : 0 ≤ x ∧ x < r.w ∧ 0 ≤ y ∧ y < r.h := by
 unfold zHH at h
 rw [Bool.and_eq_true, Bool.not_eq_true'] at h
 have g := h.1
 unfold zFm at g
 simp only [Bool.or_eq_false_iff, decide_eq_false_iff_not] at g
 omega
/-- ends.line -/
theorem line_ok (r : Go.Ax.Gm.Rules) (hv : ValidR r) (p : Pos) (S : Sound r p) (player : Int) (N : Nat) (hN : N ≤ 64) : zl Tryz.prog 115 [ruA r, poA p, .int .i64 player, iN N] (.bool (zKC r p player N)) := by
 refine zd.value0 (zN (P := Tryz.prog) (fn := Tryz.f115) J J (by kernel_rfl) J (fun c hR hfix => ?_)) (fix := fun _ => False) (fun _ h => h) J J
 have hc := (zBT hv S).c
 have hcl := S.cl
 have hw : 1 ≤ r.w ∧ r.w ≤ 8 := ⟨hv.w1, hv.w8⟩
 have hh : 1 ≤ r.h ∧ r.h ≤ 8 := ⟨hv.h1, hv.h8⟩
 refine zY ?_
 repeat (first | refine zA (zO rfl) ?_ | refine zC ?_ | refine zB ?_ | refine zJ rfl ?_ | refine zAO rfl rfl ?_)
 refine zGX [(3, iN N), (4, .rp (.box (ruC r)) 0 0), (5, .rp (.box (poC p)) 0 0), (6, .rp (.box [.int .i64 player]) 0 0), (8, .bool false)] (zB8 (zq rfl) (zB8 (zq rfl) (zB8 (zq rfl) zCd))) ⟨⟨_, rfl, .inl rfl⟩, ⟨.ptr 0 0 0, rfl, .inr (.inr ⟨rfl, fun o ho => by cases ho; exact Nat.zero_lt_one⟩)⟩, ⟨.ptr 1 0 0, rfl, .inr (.inr ⟨rfl, fun o ho => by cases ho; exact Nat.zero_lt_one⟩)⟩, ⟨.ptr 2 0 0, rfl, .inr (.inr ⟨rfl, fun o ho => by cases ho; exact Nat.zero_lt_one⟩)⟩, ⟨_, rfl, .inl rfl⟩, trivial⟩ ⟨rfl, rfl, rfl, rfl, rfl, trivial⟩ rfl hfix ?_
 refine zBx ?_
 refine z8 (ι := Nat) (fun k => [(3, iN N), (4, .rp (.box (ruC r)) 0 0), (5, .rp (.box (poC p)) 0 0), (6, .rp (.box [.int .i64 player]) 0 0), (9, .fn 125 [.rp (.box (ruC r)) 0 0, .rp (.box (poC p)) 0 0, .rp (.box [.int .i64 player]) 0 0]), (18, z6 p.cells), (19, iN p.cells.length), (20, iN k)]) (fun _ => [])
  (fun k => k ≤ p.cells.length ∧ (List.range k).any (fun s => dirs.any (fun d => zCJ r p player N ((s : Int).tmod r.w) ((s : Int).tdiv r.w) d.1 d.2)) = false) (fun k => p.cells.length - k) 0 ⟨⟨rfl, rfl, rfl, rfl, rfl, rfl, rfl, rfl, trivial⟩, rfl, Nat.zero_le _, rfl⟩ ?_
 intro k ⟨hk, hno⟩
 refine rn4 ?_
 refine zF J (fun q => ?_) (fun q => ?_)
 ·have hk' : k < p.cells.length := by omega
  have hsx : 0 ≤ (k : Int) / r.w ∧ (k : Int) / r.w < r.h ∧ 0 ≤ (k : Int) % r.w ∧ (k : Int) % r.w < r.w := by
   refine ⟨Int.ediv_nonneg (by omega) (by omega), Int.ediv_lt_of_lt_mul (by omega) ?_, Int.emod_nonneg _ (by omega), Int.emod_lt_of_pos _ (by omega)⟩
   rw [Int.mul_comm, ← hcl]; omega
  have hstep : (List.range (k + 1)).any (fun s => dirs.any (fun d => zCJ r p player N ((s : Int).tmod r.w) ((s : Int).tdiv r.w) d.1 d.2)) = dirs.any (fun d => zCJ r p player N ((k : Int) % r.w) ((k : Int) / r.w) d.1 d.2) := by
   rw [List.range_succ, List.any_append, hno, Bool.false_or, ← Int.tdiv_eq_ediv_of_nonneg (show 0 ≤ (k : Int) by omega), ← Int.tmod_eq_emod_of_nonneg (show 0 ≤ (k : Int) by omega)]; simp
  have win : dirs.any (fun d => zCJ r p player N ((k : Int) % r.w) ((k : Int) / r.w) d.1 d.2) = true → zKC r p player N = true := fun h => by
   unfold zKC
   rw [List.any_eq_true]
   refine ⟨k, List.mem_range.2 hk', ?_⟩
   rw [Int.tdiv_eq_ediv_of_nonneg (show 0 ≤ (k : Int) by omega), Int.tmod_eq_emod_of_nonneg (show 0 ≤ (k : Int) by omega)]; exact h
  generalize hX : (k : Int) % r.w = X at hsx hstep win
  generalize hY : (k : Int) / r.w = Y at hsx hstep win
  refine rn9 ?_
  refine zBB 27 (.agg dirA) J (AEq.of_eq J) ?_
  refine z8 (ι := Nat) (fun i => [(3, iN N), (4, .rp (.box (ruC r)) 0 0), (5, .rp (.box (poC p)) 0 0), (6, .rp (.box [.int .i64 player]) 0 0), (9, .fn 125 [.rp (.box (ruC r)) 0 0, .rp (.box (poC p)) 0 0, .rp (.box [.int .i64 player]) 0 0]), (18, z6 p.cells), (19, iN p.cells.length), (20, iN k), (10, iN k), (27, .agg dirA), (28, iN i)]) (fun _ => [])
   (fun i => i ≤ 4 ∧ (dirs.take i).any (fun d => zCJ r p player N X Y d.1 d.2) = false) (fun i => 4 - i) 0 ⟨⟨rfl, rfl, rfl, rfl, rfl, rfl, rfl, rfl, rfl, rfl, rfl, trivial⟩, rfl, Nat.zero_le _, rfl⟩ ?_
  intro i ⟨hi, hno2⟩
  refine rn4 ?_
  refine zF J (fun q2 => ?_) (fun q2 => ?_)
  ·have hi' : i < 4 := by omega
   have hdt := zNj hi' (fun d => zCJ r p player N X Y d.1 d.2)
   rw [hno2, Bool.false_or] at hdt
   have hda := dirA_at hi'
   have hds := zNi hi'
   have hwin2 : zCJ r p player N X Y (zEo i).1 (zEo i).2 = true → zKC r p player N = true := fun h => win (List.any_eq_true.2 ⟨zEo i, by unfold zEo; exact zAN (0, 0) hi', h⟩)
   generalize (zEo i).1 = dx at hdt hda hds hwin2
   generalize (zEo i).2 = dy at hdt hda hds hwin2
   refine rn1 ?_
   refine zA (zOD J J J J J J hda ⟨(by omega), (by show (i : Int) < ((4 : Nat) : Int); omega), (by show i * 2 + 2 ≤ 8; omega)⟩) ?_
   repeat (refine zAK rfl rfl rfl ?_)
   refine zb [.int .i64 dx, .int .i64 dy] J J J J J J J ?_
   refine zBA ?_
   refine zB0 12 [(3, iN N), (4, .rp (.box (ruC r)) 0 0), (5, .rp (.box (poC p)) 0 0), (6, .rp (.box [.int .i64 player]) 0 0), (9, .fn 125 [.rp (.box (ruC r)) 0 0, .rp (.box (poC p)) 0 0, .rp (.box [.int .i64 player]) 0 0]), (18, z6 p.cells), (19, iN p.cells.length), (20, iN k), (10, iN k), (27, .agg dirA), (28, iN i)] J ⟨J, J, J, J, J, J, J, J, J, J, J, J, trivial⟩ ⟨J, J, J, J, J, J, J, J, J, J, J, trivial⟩ J hfix ?_
   refine ze (by kernel_rfl) ?_
   refine zm (fuel := 0) [0, 1, 2, 3, 4, 5, 6, 7, 8, 9, 10] [(3, iN N), (4, .rp (.box (ruC r)) 0 0), (5, .rp (.box (poC p)) 0 0), (6, .rp (.box [.int .i64 player]) 0 0), (9, .fn 125 [.rp (.box (ruC r)) 0 0, .rp (.box (poC p)) 0 0, .rp (.box [.int .i64 player]) 0 0]), (18, z6 p.cells), (19, iN p.cells.length), (20, iN k), (10, iN k), (27, .agg dirA), (28, iN i), (12, .rp (.box [.int .i64 dx, .int .i64 dy]) 0 0)] ⟨J, J, J, J, J, J, J, J, J, J, J, J, trivial⟩ (by kernel_rfl) (by decide) J J ?_
   refine zI J J (zG J) ?_
   refine zI J J (zK J J J J J J) ?_
   refine zI J J (zD J J J J) ?_
   refine zI J J (zKK J J (by omega)) ?_
   refine zI J J (zG J) ?_
   refine zI J J (zK J J J J J J) ?_
   refine zI J J (zD J J J J) ?_
   refine zI J J (zIA J J (by omega)) ?_
   refine zI J J (zO J) ?_
   refine zI J J (zO J) ?_
   refine zI J J (zO J) ?_
   refine zu ?_
   refine zW (by kernel_rfl) ?_
   refine rn1 ?_
   refine z8 (ι := Nat) (fun n => [(3, iN N), (4, .rp (.box (ruC r)) 0 0), (5, .rp (.box (poC p)) 0 0), (6, .rp (.box [.int .i64 player]) 0 0), (9, .fn 125 [.rp (.box (ruC r)) 0 0, .rp (.box (poC p)) 0 0, .rp (.box [.int .i64 player]) 0 0]), (18, z6 p.cells), (19, iN p.cells.length), (20, iN k), (10, iN k), (27, .agg dirA), (28, iN i), (12, .rp (.box [.int .i64 dx, .int .i64 dy]) 0 0), (13, .int .i64 (X + (n : Int) * dx)), (14, .int .i64 (Y + (n : Int) * dy)), (15, iN n)]) (fun _ => [])
    (fun n => n ≤ N ∧ zCJ r p player n X Y dx dy = true) (fun n => N - n) 0 ⟨⟨rfl, rfl, rfl, rfl, rfl, rfl, rfl, rfl, rfl, rfl, rfl, rfl, ?_, ?_, rfl, trivial⟩, rfl, Nat.zero_le _, rfl⟩ ?_
   ·rw [show X + ((0 : Nat) : Int) * dx = X by rw [Int.natCast_zero, Int.zero_mul, Int.add_zero], ← hX]; rfl
   ·rw [show Y + ((0 : Nat) : Int) * dy = Y by rw [Int.natCast_zero, Int.zero_mul, Int.add_zero], ← hY]; rfl
   intro n ⟨hn, hrow⟩
   have hrs := row_succ r p player n X Y dx dy
   rw [hrow, Bool.true_and] at hrs
   have hrn := fun (h : n < N) => row_no (r := r) (p := p) (player := player) (x := X) (y := Y) (dx := dx) (dy := dy) h
   have e1 : X + ((n + 1 : Nat) : Int) * dx = X + (n : Int) * dx + dx := by rw [Int.natCast_add, Int.add_mul, Int.natCast_one, Int.one_mul, Int.add_assoc]
   have e2 : Y + ((n + 1 : Nat) : Int) * dy = Y + (n : Int) * dy + dy := by rw [Int.natCast_add, Int.add_mul, Int.natCast_one, Int.one_mul, Int.add_assoc]
   generalize X + (n : Int) * dx = x at hrs hrn e1 ⊢
   generalize Y + (n : Int) * dy = y at hrs hrn e2 ⊢
   refine rn4 ?_
   refine zo J J (fun a1 => ?_) (fun a1 => ?_)
   ·have a1 : n < N := by
     have a1 : (n : Int) < (N : Int) := a1
     omega
    refine rn2 ?_
    refine zP J J J (own_ok r hv p S player x y) ?_
    refine rn2 ?_
    refine zAP J (fun a2 => ?_) (fun a2 => ?_)
    ·have hin := own_in a2
     rw [a2] at hrs
     refine rn1 ?_
     refine ze (by kernel_rfl) ?_
     refine zV 0 J (by kernel_rfl) (by kernel_rfl) (by kernel_rfl) J (zG J) J ?_
     refine zV 1 J (by kernel_rfl) (by kernel_rfl) (by kernel_rfl) J (zBz J J J J (by first | (simp only [Nat.zero_add, Int.toNat_natCast]; exact J) | exact J) (by omega)) J ?_
     refine zV 4 J (by kernel_rfl) (by kernel_rfl) (by kernel_rfl) J (zG J) J ?_
     refine zV 5 J (by kernel_rfl) (by kernel_rfl) (by kernel_rfl) J (zBz J J J J (by first | (simp only [Nat.zero_add, Int.toNat_natCast]; exact J) | exact J) (by omega)) J ?_
     refine zV 8 J (by kernel_rfl) (by kernel_rfl) (by kernel_rfl) J (zG J) J ?_
     refine zV 9 J (by kernel_rfl) (by kernel_rfl) (by kernel_rfl) J (zAw J J (by omega)) J ?_
     apply zS (H := []) [(3, iN N), (4, .rp (.box (ruC r)) 0 0), (5, .rp (.box (poC p)) 0 0), (6, .rp (.box [.int .i64 player]) 0 0), (9, .fn 125 [.rp (.box (ruC r)) 0 0, .rp (.box (poC p)) 0 0, .rp (.box [.int .i64 player]) 0 0]), (18, z6 p.cells), (19, iN p.cells.length), (20, iN k), (10, iN k), (27, .agg dirA), (28, iN i), (12, .rp (.box [.int .i64 dx, .int .i64 dy]) 0 0), (13, .int .i64 (x + dx)), (14, .int .i64 (y + dy)), (15, .int .i64 ((n : Int) + 1))]
     ·intro fin
      refine zH (is := [2, 6]) (by kernel_rfl) (by simp) J ⟨fun o ho => ?_, fun o ho => ?_, trivial⟩
      all_goals (cases ho)
      ·repeat (first | refine zC ?_ | refine zX ?_ | refine zA (zD rfl rfl rfl rfl) ?_)
       refine zV 3 J (by kernel_rfl) (by kernel_rfl) (by kernel_rfl) J (zAw J J (by omega)) J ?_
       refine zV 10 J (by kernel_rfl) (by kernel_rfl) (by kernel_rfl) J (zO J) J ?_
       refine zH (is := [6]) (by kernel_rfl) (by simp) J ⟨fun o ho => ?_, trivial⟩
       all_goals (cases ho)
       repeat (first | refine zC ?_ | refine zX ?_ | refine zA (zD rfl rfl rfl rfl) ?_)
       refine zV 7 J (by kernel_rfl) (by kernel_rfl) (by kernel_rfl) J (zAw J J (by omega)) J ?_
       refine zV 11 J (by kernel_rfl) (by kernel_rfl) (by kernel_rfl) J (zO J) J ?_
       refine zV 12 J (by kernel_rfl) (by kernel_rfl) (by kernel_rfl) J (zO J) J ?_
       exact fin _ ⟨J, J, J, J, J, J, J, J, J, J, J, J, J, J, J, trivial⟩
      ·repeat (first | refine zC ?_ | refine zX ?_ | refine zA (zD rfl rfl rfl rfl) ?_)
       refine zV 7 J (by kernel_rfl) (by kernel_rfl) (by kernel_rfl) J (zAw J J (by omega)) J ?_
       refine zH (is := [2]) (by kernel_rfl) (by simp) J ⟨fun o ho => ?_, trivial⟩
       all_goals (cases ho)
       repeat (first | refine zC ?_ | refine zX ?_ | refine zA (zD rfl rfl rfl rfl) ?_)
       refine zV 3 J (by kernel_rfl) (by kernel_rfl) (by kernel_rfl) J (zAw J J (by omega)) J ?_
       refine zV 10 J (by kernel_rfl) (by kernel_rfl) (by kernel_rfl) J (zO J) J ?_
       refine zV 11 J (by kernel_rfl) (by kernel_rfl) (by kernel_rfl) J (zO J) J ?_
       refine zV 12 J (by kernel_rfl) (by kernel_rfl) (by kernel_rfl) J (zO J) J ?_
       exact fin _ ⟨J, J, J, J, J, J, J, J, J, J, J, J, J, J, J, trivial⟩
     refine zW (by kernel_rfl) ?_
     repeat (refine zAW ?_)
     refine zR ⟨n + 1, ⟨by omega, hrs⟩, by omega, ⟨J, J, J, J, J, J, J, J, J, J, J, J, ?_, ?_, J, trivial⟩, J⟩
     ·rw [e1]; rfl
     ·rw [e2]; rfl
    ·have hno3 := hrn a1 a2
     refine rn5 ?_
     refine zF J (fun a3 => ?_) (fun a3 => ?_)
     ·exact absurd (show (n : Int) = (N : Int) from a3) (by omega)
     refine rn5 ?_
     exact zR ⟨i + 1, ⟨by omega, by rw [hdt]; exact hno3⟩, by omega, ⟨J, J, J, J, J, J, J, J, J, J, J, trivial⟩, J⟩
   ·have a1 : n = N := by
     have a1 : ¬ (n : Int) < (N : Int) := a1
     omega
    refine rn6 ?_
    refine zF J (fun a3 => ?_) (fun a3 => absurd (show (n : Int) = (N : Int) by omega) a3)
    refine rn6 ?_
    refine zL hR J ?_
    rw [hwin2 (by rw [← a1]; exact hrow)]; rfl
  ·have hi' : i = 4 := by omega
   subst hi'
   refine rn5 ?_
   exact zR ⟨k + 1, ⟨by omega, by rw [hstep]; exact hno2⟩, by omega, ⟨J, J, J, J, J, J, J, J, trivial⟩, J⟩
 ·have hk' : k = p.cells.length := by omega
  subst hk'
  refine rn5 ?_
  refine zL hR J ?_
  unfold zKC; rw [hno]; rfl
/-- ends.holds -/
theorem holds_ok (r : Go.Ax.Gm.Rules) (hv : ValidR r) (p : Pos) (S : Sound r p) (x : En) (hx : zEA r.pcs.length x = 0) (mover : Int) (hm : 0 ≤ mover ∧ mover ≤ 1) : zl Tryz.prog 84 [ruA r, poA p, .agg (enC x), .int .i64 mover] (.bool (zDM r p mover x)) := by
 refine zd.value0 (zN (P := Tryz.prog) (fn := Tryz.f84) J J (by kernel_rfl) J (fun c hR hfix => ?_)) (fix := fun _ => False) (fun _ h => h) J J
 have hc := (zBT hv S).c
 have hw : 1 ≤ r.w ∧ r.w ≤ 8 := ⟨hv.w1, hv.w8⟩
 have hh : 1 ≤ r.h ∧ r.h ≤ 8 := ⟨hv.h1, hv.h8⟩
 have hn6 := hv.n6
 have hxk : (x.kind = 0 → 1 ≤ x.count ∧ x.count ≤ 64) ∧ (x.kind ≠ 0 → 0 ≤ x.piece ∧ x.piece ≤ 5) ∧ -1 ≤ x.count ∧ x.count ≤ 64 := by
  unfold zEA at hx
  split at hx
  ·rename_i k0
   split at hx
   ·rename_i h; have := Go.Ax.Gm.within_iff.1 h.1; exact ⟨fun _ => by omega, fun q => absurd k0 q, by omega, by omega⟩
   ·cases hx
  ·rename_i k0
   split at hx
   ·split at hx
    ·rename_i h; have := Go.Ax.Gm.within_iff.1 h.2; exact ⟨fun q => absurd q k0, fun _ => by omega, by omega, by omega⟩
    ·cases hx
   ·split at hx
    ·split at hx
     ·rename_i h; have := Go.Ax.Gm.within_iff.1 h.1; have := Go.Ax.Gm.within_iff.1 h.2; exact ⟨fun q => absurd q k0, fun _ => by omega, by omega, by omega⟩
     ·cases hx
    ·cases hx
 obtain ⟨hx0, hx1, hx2⟩ := hxk
 refine zY ?_
 repeat (first | refine zA (zO rfl) ?_ | refine zC ?_ | refine zB ?_ | refine zJ rfl ?_ | refine zAO rfl rfl ?_)
 refine zGX [(3, .int .i64 mover), (4, .rp (.box (ruC r)) 0 0), (5, .rp (.box (poC p)) 0 0), (6, .rp (.box (enC x)) 0 0)] (zB8 (zq rfl) (zB8 (zq rfl) (zB8 (zq rfl) zCd))) ⟨⟨_, rfl, .inl rfl⟩, ⟨.ptr 0 0 0, rfl, .inr (.inr ⟨rfl, fun o ho => by cases ho; exact Nat.zero_lt_one⟩)⟩, ⟨.ptr 1 0 0, rfl, .inr (.inr ⟨rfl, fun o ho => by cases ho; exact Nat.zero_lt_one⟩)⟩, ⟨.ptr 2 0 0, rfl, .inr (.inr ⟨rfl, fun o ho => by cases ho; exact Nat.zero_lt_one⟩)⟩, trivial⟩ ⟨rfl, rfl, rfl, rfl, trivial⟩ rfl hfix ?_
 refine zBx ?_
 refine zF J (fun k0 => ?_) (fun k0 => ?_)
 ·have k0 : x.kind = 0 := k0
  have hN := hx0 k0
  obtain ⟨N, hNc⟩ : ∃ N : Nat, x.count = (N : Int) := ⟨x.count.toNat, by omega⟩
  repeat (first | refine zA (zG rfl) ?_ | refine zY ?_ | refine zJ rfl ?_ | refine zA (zD rfl rfl rfl rfl) ?_ | refine zA (zK rfl rfl rfl rfl rfl rfl) ?_ | refine zA (zf rfl rfl rfl rfl rfl rfl) ?_)
  rw [hNc]
  refine zP J J J (line_ok r hv p S mover N (by omega)) ?_
  refine rn6 ?_
  refine zL hR J ?_
  unfold zDM; rw [if_pos k0, hNc]; rfl
 have k0 : x.kind ≠ 0 := k0
 have hp := hx1 k0
 refine rn4 ?_
 refine zF J (fun k1 => ?_) (fun k1 => ?_)
 ·have k1 : x.kind = 1 := k1
  have hval : zDM r p mover x = zKu r p mover (2 * x.piece + mover + 1) := by unfold zDM; rw [if_neg k0, if_pos k1]
  refine zBx ?_
  refine z8 (ι := Nat) (fun k => [(3, .int .i64 mover), (4, .rp (.box (ruC r)) 0 0), (5, .rp (.box (poC p)) 0 0), (6, .rp (.box (enC x)) 0 0), (27, z6 p.cells), (28, iN p.cells.length), (29, iN k)]) (fun _ => [])
   (fun k => k ≤ p.cells.length ∧ (List.range k).any (fun s => decide (zAL p s = 2 * x.piece + mover + 1) && zFh r mover s) = false) (fun k => p.cells.length - k) 0 ⟨⟨rfl, rfl, rfl, rfl, rfl, rfl, rfl, trivial⟩, rfl, Nat.zero_le _, rfl⟩ ?_
  intro k ⟨hk, hno⟩
  refine rn4 ?_
  refine zF J (fun q => ?_) (fun q => ?_)
  ·have hk' : k < p.cells.length := by omega
   have hst : (List.range (k + 1)).any (fun s => decide (zAL p s = 2 * x.piece + mover + 1) && zFh r mover s) = (decide (zAL p k = 2 * x.piece + mover + 1) && zFh r mover k) := by rw [List.range_succ, List.any_append, hno]; simp
   repeat (first | refine zA (zG rfl) ?_ | refine zA (zO rfl) ?_ | refine zA (zBZ rfl rfl rfl) ?_ | refine zC ?_ | refine zB ?_ | refine zY ?_ | refine zJ rfl ?_ | refine zAc ?_ | refine zAQ ?_ | refine zA (zh rfl rfl rfl rfl (by first | (simp only [Nat.zero_add, Int.toNat_natCast, Int.toNat_zero]; exact rfl) | exact rfl) (by omega)) ?_ | refine zA (zD rfl rfl rfl rfl) ?_ | refine zA (zK rfl rfl rfl rfl rfl rfl) ?_)
   refine zA (zDA J J (by omega)) ?_
   refine rn4 ?_
   refine zo J J (fun a1 => ?_) (fun a1 => ?_)
   ·have a1 : zAL p k = 2 * x.piece + mover + 1 := a1
    rw [decide_eq_true a1, Bool.true_and] at hst
    refine rn6 ?_
    refine zP J J J (zJ8 r hw hh mover k (by omega)) ?_
    refine rn2 ?_
    refine zAP J (fun a2 => ?_) (fun a2 => ?_)
    ·refine rn6 ?_
     refine zL hR J ?_
     rw [hval]
     unfold zKu
     rw [show (List.range p.cells.length).any (fun s => decide (zAL p s = 2 * x.piece + mover + 1) && zFh r mover s) = true from List.any_eq_true.2 ⟨k, List.mem_range.2 hk', by rw [decide_eq_true a1, a2]; rfl⟩]; rfl
    ·refine rn5 ?_
     exact zR ⟨k + 1, ⟨by omega, by rw [hst]; exact a2⟩, by omega, ⟨J, J, J, J, J, J, J, trivial⟩, J⟩
   ·have a1 : ¬ zAL p k = 2 * x.piece + mover + 1 := a1
    rw [decide_eq_false a1, Bool.false_and] at hst
    refine rn6 ?_
    exact zR ⟨k + 1, ⟨by omega, hst⟩, by omega, ⟨J, J, J, J, J, J, J, trivial⟩, J⟩
  ·have hk' : k = p.cells.length := by omega
   subst hk'
   refine rn6 ?_
   refine zL hR J ?_
   rw [hval]; unfold zKu; rw [hno]; rfl
 ·have k1 : ¬ x.kind = 1 := k1
  have hval : zDM r p mover x = decide (((p.cells.filter (fun c => decide (c = 2 * x.piece + 1 - mover + 1))).length : Int) < x.count) := by unfold zDM; rw [if_neg k0, if_neg k1]
  refine zBx ?_
  refine z8 (ι := Nat) (fun k => [(3, .int .i64 mover), (4, .rp (.box (ruC r)) 0 0), (5, .rp (.box (poC p)) 0 0), (6, .rp (.box (enC x)) 0 0), (11, .int .i64 (((p.cells.take k).filter (fun c => decide (c = 2 * x.piece + 1 - mover + 1))).length : Nat)), (50, z6 p.cells), (51, iN p.cells.length), (52, iN k)]) (fun _ => [])
   (fun k => k ≤ p.cells.length) (fun k => p.cells.length - k) 0 ⟨⟨rfl, rfl, rfl, rfl, rfl, rfl, rfl, rfl, trivial⟩, rfl, Nat.zero_le _⟩ ?_
  intro k hk
  refine rn4 ?_
  refine zF J (fun q => ?_) (fun q => ?_)
  ·have hk' : k < p.cells.length := by omega
   have hfl : ((p.cells.take k).filter (fun c => decide (c = 2 * x.piece + 1 - mover + 1))).length ≤ k := Nat.le_trans (List.length_filter_le ..) (by rw [List.length_take]; exact Nat.min_le_left _ _)
   have htk := zz p.cells 0 k hk'
   repeat (first | refine zA (zG rfl) ?_ | refine zA (zO rfl) ?_ | refine zA (zBZ rfl rfl rfl) ?_ | refine zC ?_ | refine zB ?_ | refine zY ?_ | refine zJ rfl ?_ | refine zAc ?_ | refine zAQ ?_ | refine zA (zh rfl rfl rfl rfl (by first | (simp only [Nat.zero_add, Int.toNat_natCast, Int.toNat_zero]; exact rfl) | exact rfl) (by omega)) ?_ | refine zA (zD rfl rfl rfl rfl) ?_ | refine zA (zK rfl rfl rfl rfl rfl rfl) ?_)
   refine zA (zDA J J (by omega)) ?_
   repeat (first | refine zA (zG rfl) ?_ | refine zC ?_ | refine zB ?_ | refine zA (zBR rfl rfl) ?_ | refine zA (zAw rfl rfl (by omega)) ?_ | refine zA (zBL rfl rfl (by omega)) ?_)
   refine zF J (fun a1 => ?_) (fun a1 => ?_)
   ·have a1 : p.cells.getD k 0 = 2 * x.piece + 1 - mover + 1 := a1
    have e : ((p.cells.take (k + 1)).filter (fun c => decide (c = 2 * x.piece + 1 - mover + 1))).length = ((p.cells.take k).filter (fun c => decide (c = 2 * x.piece + 1 - mover + 1))).length + 1 := by rw [htk, List.filter_append, List.length_append, List.filter_cons_of_pos (by exact decide_eq_true a1)]; rfl
    refine rn5 ?_
    exact zR ⟨k + 1, by omega, by omega, ⟨J, J, J, J, by rw [e]; rfl, J, J, J, trivial⟩, J⟩
   ·have a1 : ¬ p.cells.getD k 0 = 2 * x.piece + 1 - mover + 1 := a1
    have e : ((p.cells.take (k + 1)).filter (fun c => decide (c = 2 * x.piece + 1 - mover + 1))).length = ((p.cells.take k).filter (fun c => decide (c = 2 * x.piece + 1 - mover + 1))).length := by rw [htk, List.filter_append, List.length_append, List.filter_cons_of_neg (by rw [decide_eq_false a1]; exact Bool.false_ne_true)]; rfl
    refine rn5 ?_
    exact zR ⟨k + 1, by omega, by omega, ⟨J, J, J, J, by rw [e]; rfl, J, J, J, trivial⟩, J⟩
  ·have hk' : k = p.cells.length := by omega
   subst hk'
   rw [List.take_length]
   repeat (first | refine zA (zG rfl) ?_ | refine zA (zO rfl) ?_ | refine zC ?_ | refine zB ?_ | refine zY ?_ | refine zJ rfl ?_ | refine zCm ?_ | refine zAr ?_ | refine zAq ?_ | refine zA5 ?_ | refine zAA ?_ | refine zA (zCE rfl rfl) ?_ | refine zA (zD rfl rfl rfl rfl) ?_ | refine zA (zK rfl rfl rfl rfl rfl rfl) ?_)
   refine zL hR J ?_
   rw [hval]; rfl
/-- ends.Result$1 -/
theorem zMs (r : Go.Ax.Gm.Rules) (hv : ValidR r) (p : Pos) (S : Sound r p) (x : En) (hx : zEA r.pcs.length x = 0) (mover : Int) (hm : 0 ≤ mover ∧ mover ≤ 1) : zl Tryz.prog 83 [.agg (enC x), .rp (.box (ruC r)) 0 0, .rp (.box (poC p)) 0 0, .rp (.box [.int .i64 mover]) 0 0] (.bool (zDM r p mover x)) := by
 refine zd.value0 (zN (P := Tryz.prog) (fn := Tryz.f83) J J (by kernel_rfl) J (fun c hR hfix => ?_)) (fix := fun _ => False) (fun _ h => h) J J
 repeat (first | refine zA (zO rfl) ?_ | refine zC ?_ | refine zB ?_ | refine zY ?_ | refine zJ rfl ?_ | refine zA (zD rfl rfl rfl rfl) ?_ | refine zA (zf rfl rfl rfl rfl rfl rfl) ?_ | refine zA (qpp rfl rfl rfl rfl rfl rfl rfl) ?_ | refine zAO rfl rfl ?_)
 refine zP J J J (holds_ok r hv p S x hx mover hm) ?_
 refine rn0 ?_
 exact zL hR J J
theorem zIt {α : Type} (p : α → Bool) : ∀ l : List α, zDN p l = if l.findIdx p < l.length then ((l.findIdx p : Nat) : Int) else -1
 | [] => rfl
 | x :: r => by
  have ih := zIt p r
  rw [zDN, List.findIdx_cons]
  by_cases h : p x = true
  ·rw [if_pos h, h]; simp
  ·rw [if_neg h, Bool.eq_false_iff.2 h, ih, cond_false, List.length_cons]
   have hle := List.findIdx_le_length (p := p) (xs := r)
   by_cases h2 : r.findIdx p < r.length
   ·rw [if_pos h2, if_neg (by omega), if_pos (by omega)]; omega
   ·rw [if_neg h2, if_pos (by omega), if_neg (by omega)]
theorem zCw {r : Go.Ax.Gm.Rules} {p : Pos} (h : zAp r p = 0) : zAa r = 0 ∧ Sound r p := by
 unfold zAp at h
 split at h
 ·rename_i q; exact absurd h q
 ·rename_i q; exact ⟨Classical.not_not.1 q, zFw.1 h⟩
/-- ends.Result -/
theorem zCH (r : Go.Ax.Gm.Rules) (hv : ValidR r) (p : Pos) (S : Sound r p) : zl Tryz.prog 56 [ruA r, poA p] (.int .i64 (zp r p)) := by
 refine zd.value0 (zN (P := Tryz.prog) (fn := Tryz.f56) J J (by kernel_rfl) J (fun c hR hfix => ?_)) (fix := fun _ => False) (fun _ h => h) J J
 have htn : 0 ≤ p.turn ∧ p.turn ≤ 1 := by have := S.tn; omega
 have hen := hv.e6
 refine zY ?_
 repeat (first | refine zA (zO rfl) ?_ | refine zC ?_ | refine zB ?_ | refine zJ rfl ?_ | refine zAO rfl rfl ?_)
 refine zY ?_
 repeat (first | refine zC ?_ | refine zB ?_ | refine zJ rfl ?_ | refine zA (zU rfl rfl rfl rfl rfl) ?_ | refine zA (zBL rfl rfl (by omega)) ?_ | refine zA (zM rfl rfl rfl rfl rfl rfl) ?_ | refine zAF rfl rfl rfl rfl rfl rfl rfl Nat.zero_lt_one ?_ | refine zAK rfl rfl rfl ?_)
 refine zGX [(2, .rp (.box (ruC r)) 0 0), (3, .rp (.box (poC p)) 0 0), (5, .rp (.box [.int .i64 (1 - p.turn)]) 0 0)] (zB8 (zq rfl) (zB8 (zq rfl) (zB8 (zq rfl) zCd))) ⟨⟨.ptr 0 0 0, rfl, .inr (.inr ⟨rfl, fun o ho => by cases ho; exact Nat.zero_lt_one⟩)⟩, ⟨.ptr 1 0 0, rfl, .inr (.inr ⟨rfl, fun o ho => by cases ho; exact Nat.zero_lt_one⟩)⟩, ⟨.ptr 2 0 0, rfl, .inr (.inr ⟨rfl, fun o ho => by cases ho; exact Nat.zero_lt_one⟩)⟩, trivial⟩ ⟨rfl, rfl, rfl, trivial⟩ rfl hfix ?_
 refine zBx ?_
 have cidx := zLd r.ends r.ends.length 83 [.rp (.box (ruC r)) 0 0, .rp (.box (poC p)) 0 0, .rp (.box [.int .i64 (1 - p.turn)]) 0 0] (zDM r p (1 - p.turn)) (Nat.le_refl _) rfl (by omega) (fun x hx => zMs r hv p S x (hv.en x hx) (1 - p.turn) (by omega))
 rw [List.take_length, zIt] at cidx
 obtain ⟨I, hI⟩ : ∃ I, r.ends.findIdx (zDM r p (1 - p.turn)) = I := ⟨_, rfl⟩
 rw [hI] at cidx
 refine zP J J J cidx ?_
 by_cases hlt : I < r.ends.length
 ·rw [if_pos hlt]
  have hval : zp r p = if (r.ends.getD I en0).loses = true then 1 + p.turn else 1 + (1 - p.turn) := by unfold zp; rw [hI, if_pos hlt]
  refine zBx ?_
  refine zBB 21 (.bool (r.ends.getD I en0).loses) J (AEq.of_eq J) ?_
  refine zAP J (fun b => ?_) (fun b => ?_)
  ·have b : (r.ends.getD I en0).loses = true := b
   refine zBx ?_
   refine zP J J J (zIX p.turn htn) ?_
   refine rn2 ?_
   refine zL hR J ?_
   rw [hval, if_pos b]; rfl
  ·have b : (r.ends.getD I en0).loses = false := b
   refine rn8 ?_
   refine zP J J J (zIX (1 - p.turn) (by omega)) ?_
   refine rn2 ?_
   refine zL hR J ?_
   rw [hval, if_neg (by rw [b]; exact Bool.false_ne_true)]; rfl
 rw [if_neg hlt]
 have hval : zp r p = if r.quiet ≠ 0 ∧ r.quiet ≤ p.quiet then 3 else if 0 < (zx r p).length then 0 else if r.blocked = 0 then 1 + (1 - p.turn) else if r.blocked = 1 then 1 + p.turn else 3 := by unfold zp; rw [hI, if_neg hlt]
 refine zBx ?_
 apply zAJ (H := []) [(2, .rp (.box (ruC r)) 0 0), (3, .rp (.box (poC p)) 0 0), (5, .rp (.box [.int .i64 (1 - p.turn)]) 0 0), (27, .bool (decide (r.quiet ≠ 0 ∧ r.quiet ≤ p.quiet)))]
 ·intro fin
  refine zo J J (fun b => ?_) (fun b => ?_)
  ·have b : r.quiet ≠ 0 := b
   repeat (first | refine zA (zO rfl) ?_ | refine zC ?_ | refine zB ?_ | refine zr rfl rfl ?_ | refine zA (zDs rfl rfl) ?_ | refine zA (zg rfl rfl) ?_ | refine zA (zD rfl rfl rfl rfl) ?_ | refine zA (zK rfl rfl rfl rfl rfl rfl) ?_)
   exact fin _ ⟨J, J, J, congrArg (fun b => some (AV.bool b)) (decide_eq_decide.2 (show r.quiet ≤ p.quiet ↔ _ from ⟨fun h => ⟨b, h⟩, fun h => h.2⟩)), trivial⟩
  ·have b : ¬ r.quiet ≠ 0 := b
   refine zBA ?_
   exact fin _ ⟨J, J, J, congrArg (fun b => some (AV.bool b)) (show false = decide (r.quiet ≠ 0 ∧ r.quiet ≤ p.quiet) from (decide_eq_false (fun h => b h.1)).symm), trivial⟩
 refine zF J (fun q1 => ?_) (fun q1 => ?_)
 ·refine rn6 ?_
  refine zL hR J ?_
  rw [hval, if_pos q1]; rfl
 rw [if_neg q1] at hval
 refine rn6 ?_
 refine zP J J J (list_ok r hv p S) ?_
 refine rn6 ?_
 refine zF J (fun q2 => ?_) (fun q2 => ?_)
 ·refine rn6 ?_
  refine zL hR J ?_
  rw [hval, if_pos (by omega)]; rfl
 rw [if_neg (by omega)] at hval
 refine zBx ?_
 refine zF J (fun q3 => ?_) (fun q3 => ?_)
 ·refine rn8 ?_
  refine zP J J J (zIX (1 - p.turn) (by omega)) ?_
  refine rn6 ?_
  refine zL hR J ?_
  rw [hval, if_pos q3]; rfl
 rw [if_neg q3] at hval
 refine zBx ?_
 refine zF J (fun q4 => ?_) (fun q4 => ?_)
 ·refine zBx ?_
  refine zP J J J (zIX p.turn htn) ?_
  refine rn6 ?_
  refine zL hR J ?_
  rw [hval, if_pos q4]; rfl
 refine rn5 ?_
 refine zL hR J ?_
 rw [hval, if_neg q4]; rfl
/-- ends.Moves -/
theorem zEW (r : Go.Ax.Gm.Rules) (hv : ValidR r) (p : Pos) (S : Sound r p) : zl Tryz.prog 61 [ruA r, poA p] (zBC (zAD r p)) := by
 refine zd.value0 (zN (P := Tryz.prog) (fn := Tryz.f61) J J (by kernel_rfl) J (fun c hR hfix => ?_)) (fix := fun _ => False) (fun _ h => h) J J
 refine rn6 ?_
 refine zP J J J (zCH r hv p S) ?_
 refine rn3 ?_
 refine zF J (fun q => ?_) (fun q => ?_)
 ·refine rn7 ?_
  refine zBB 4 (zBC []) J AEq.nil ?_
  refine rn2 ?_
  refine zL hR J ?_
  unfold zAD; rw [if_pos q]; rfl
 ·refine rn6 ?_
  refine zP J J J (list_ok r hv p S) ?_
  refine rn0 ?_
  refine zL hR J ?_
  unfold zAD; rw [if_neg q]; rfl
/-- ends.Of -/
theorem endOf_ok (r : Go.Ax.Gm.Rules) (hr : Lens r) (p : Pos) (hp : LenP p) : zl Tryz.prog 20 [ruA r, poA p] (.tup [.int .i64 (if zAp r p ≠ 0 then 0 else zp r p), .int .i64 (zAp r p)]) := by
 refine zd.value0 (zN (P := Tryz.prog) (fn := Tryz.f20) J J (by kernel_rfl) J (fun c hR hfix => ?_)) (fix := fun _ => False) (fun _ h => h) J J
 refine rn6 ?_
 refine zP J J J (zCG r hr p hp) ?_
 refine rn3 ?_
 refine zF J (fun q => ?_) (fun q => ?_)
 ·refine rn2 ?_
  refine zL hR J ?_
  rw [if_pos q]; rfl
 ·obtain ⟨hz, S⟩ := zCw (Classical.not_not.1 q)
  refine rn6 ?_
  refine zP J J J (zCH r (zAu hz) p S) ?_
  refine rn0 ?_
  refine zL hR J ?_
  rw [if_neg q, Classical.not_not.1 q]; rfl
/-- moves.All -/
theorem all_ok (r : Go.Ax.Gm.Rules) (hr : Lens r) (p : Pos) (hp : LenP p) : zl Tryz.prog 32 [ruA r, poA p] (.tup [zBC (if zAp r p ≠ 0 then [] else zx r p), .int .i64 (zAp r p)]) := by
 refine zd.value0 (zN (P := Tryz.prog) (fn := Tryz.f32) J J (by kernel_rfl) J (fun c hR hfix => ?_)) (fix := fun _ => False) (fun _ h => h) J J
 refine rn6 ?_
 refine zP J J J (zCG r hr p hp) ?_
 refine rn3 ?_
 refine zF J (fun q => ?_) (fun q => ?_)
 ·refine rn7 ?_
  refine zBB 4 (zBC []) J AEq.nil ?_
  refine rn2 ?_
  refine zL hR J ?_
  rw [if_pos q]; rfl
 ·obtain ⟨hz, S⟩ := zCw (Classical.not_not.1 q)
  refine rn6 ?_
  refine zP J J J (list_ok r (zAu hz) p S) ?_
  refine rn0 ?_
  refine zL hR J ?_
  rw [if_neg q, Classical.not_not.1 q]; rfl
end Go.Proofs.YtiifcejepaeepaaGreatDoor
