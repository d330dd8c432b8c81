import Derived.Test.YtnkealfaldjipaaGreatDoorY4
set_option linter.unusedVariables false
set_option linter.unusedSimpArgs false
namespace Go.Proofs.YtnkealfaldjipaaGreatDoor
open Go.Ax Go.Ax.Bg Go.Ax.Rt Go.RowKit Go.Ax.Idx Go.Ax.Cd Go.Ax.Sx
attribute [local irreducible] Ax zBR QOp zY zBK
set_option maxRecDepth 100000
set_option maxHeartbeats 4000000
/-- All objects are only read from now on. -/
theorem zKB {P : Program} {fn : Func} {c : Ctx} {fr : Fr} {k : List It} {x : Code} {H : zN} (L : Fr) (hrl : ∀ (h : Nat) (o : AObj), H[h]? = some (some o) → zAJ o.c) (hL : fzk H fr L) (hk2 : zBp L L) (hb : zCa 0 L = true) (hfx : ∀ h, ¬ c.fix h)
   (hk : Ax P fn c (.code x k) L []) : Ax P fn c (.code x k) fr H := by
 refine zPD H (List.replicate H.length none) L (fun _ _ h => h) hrl List.length_replicate ?_ hL ?_
 · intro h o' ho'
   rw [List.getElem?_replicate] at ho'
   split at ho' <;> cases ho'
 exact ax_cut [] (List.replicate H.length none) L Z hk2 (fun h hh => (hfx h hh).elim) Z hb hk
theorem zM5 (q : Rat) (n : Nat) : zBo n (.box (z7 q)) := by
 intro i j _ hj
 have hj : j < 3 := hj
 match j, hj with
 | 0, _ => rfl
 | 1, _ => rfl
 | 2, _ => rfl
theorem belowS1 {n : Nat} {o1 : AObj} (h1 : zBo n o1.c) : ∀ (h : Nat) (o : AObj), ([some o1] : zN)[h]? = some (some o) → zBo n o.c := by
 intro h o ho
 match h, ho with
 | 0, ho => cases ho; exact h1
 | _ + 1, ho => simp at ho
theorem refl2 {o1 o2 : AObj} (h1 : zAJ o1.c) (h2 : zAJ o2.c) : ∀ (h : Nat) (o : AObj), ([some o1, some o2] : zN)[h]? = some (some o) → zAJ o.c := by
 intro h o ho
 match h, ho with
 | 0, ho => cases ho; exact h1
 | 1, ho => cases ho; exact h2
 | _ + 2, ho => simp at ho
theorem refl3 {o1 o2 o3 : AObj} (h1 : zAJ o1.c) (h2 : zAJ o2.c) (h3 : zAJ o3.c) : ∀ (h : Nat) (o : AObj), ([some o1, some o2, some o3] : zN)[h]? = some (some o) → zAJ o.c := by
 intro h o ho
 match h, ho with
 | 0, ho => cases ho; exact h1
 | 1, ho => cases ho; exact h2
 | 2, ho => cases ho; exact h3
 | _ + 3, ho => simp at ho
theorem zLe : ∀ {l : List AV}, noRef.noRefs l = true → ∀ j, j < l.length → noRef (l.getD j .any) = true
 | [], _, j, hj => absurd hj (Nat.not_lt_zero _)
 | a :: r, h, j, hj => by
   simp only [noRef.noRefs, Bool.and_eq_true] at h
   cases j with
   | zero => exact h.1
   | succ j => exact zLe h.2 j (by simpa using hj)
theorem zDe {l : List AV} (h : noRef.noRefs l = true) : zAJ (.box l) := fun _ j _ hj => zLe h j hj
theorem zOZ (p q : Rat) : decide (cmpQ p q = 0) = decide (p = q) := by
 rw [Bool.eq_iff_iff, decide_eq_true_eq, decide_eq_true_eq]
 unfold cmpQ
 split
 · rename_i h; constructor
   · intro h2; cases h2
   · intro h2; rw [h2] at h; exact absurd h Rat.lt_irrefl
 · split
   · rename_i h; exact ⟨fun _ => h, fun _ => rfl⟩
   · rename_i h; exact ⟨fun h2 => (by cases h2), fun h2 => absurd h2 h⟩
theorem sgnQ_gt (q : Rat) : decide (0 < sgn q.num) = decide (0 < q) := by
 have h1 := zOA q
 rw [Bool.eq_iff_iff, decide_eq_true_eq, decide_eq_true_eq] at h1 ⊢
 constructor
 · intro h
   have : ¬ q ≤ 0 := fun h2 => by have := h1.2 h2; omega
   grind
 · intro h
   have : ¬ sgn q.num ≤ 0 := fun h2 => absurd (h1.1 h2) (by grind)
   omega
theorem sgnQ_lt (q : Rat) : decide (sgn q.num < 0) = decide (q < 0) := by
 have h1 := zLC q
 rw [Bool.eq_iff_iff, decide_eq_true_eq, decide_eq_true_eq] at h1 ⊢
 constructor
 · intro h
   have : ¬ 0 ≤ q := fun h2 => by have := h1.2 h2; omega
   grind
 · intro h
   have : ¬ 0 ≤ sgn q.num := fun h2 => absurd (h1.1 h2) (by grind)
   omega
theorem zDm (f : Rat → Bool) (l : List Rat) : (List.range l.length).all (fun i => f (l.getD i 0)) = l.all f := by
 rw [Bool.eq_iff_iff, List.all_eq_true, List.all_eq_true]
 constructor
 · intro h q hq
   obtain ⟨i, hi, rfl⟩ := List.getElem_of_mem hq
   have := h i (List.mem_range.2 hi)
   rwa [zDg 0 hi] at this
 · intro h i hi
   exact h _ (zAt 0 (List.mem_range.1 hi))
theorem zFq (l : List Rat) (hl : l.length ≤ 1000000) : zZ Tryz.prog 173 [.ro (qsC l) 0 l.length, .fn 172 []] (.bool (zCs l)) := by
 have h := zOT l 172 [] (fun i => decide (0 ≤ l.getD i 0)) rfl rfl (by omega) (fun i hi => pnn_ok i _)
 rwa [zDm (fun q => decide (0 ≤ q)) l] at h
theorem dot1 {a b : List Rat} (ha : ∀ q ∈ a, D 2000 q) (hb : ∀ q ∈ b, D 2000 q) (hl : a.length ≤ b.length) (h40 : b.length ≤ 40) : zZ Tryz.prog 125 [.ro (qsC a) 0 a.length, .ro (qsC b) 0 b.length] (qA (zAr a b)) ∧ Sz 100000 (zAr a b) := by
 have hk : 1 + a.length * (2000 + 2000 + 1) ≤ 900000 := by omega
 exact ⟨dot_ok a b 2000 2000 ha hb hl (by omega) hk, zGx ((dotQ_D ha hb hl).mono hk)⟩
structure DotsOk (A : List (List Rat)) (B C x y r : List Rat) : Prop where
 ab : A.length = B.length
 m : A.length ≤ 40
 n : C.length ≤ 40
 w : ∀ a ∈ A, a.length = C.length ∧ ∀ q ∈ a, D 2000 q
 b : ∀ q ∈ B, D 2000 q
 c : ∀ q ∈ C, D 2000 q
 x : ∀ q ∈ x, D 2000 q
 y : ∀ q ∈ y, D 2000 q
 r : ∀ q ∈ r, D 2000 q
theorem zPr (A : List (List Rat)) (B C : List Rat) (k : Nat) (X Y R : List zAX) (V : zAX) (hk : k < 3) (hD : DotsOk A B C (X.map zAT) (Y.map zAT) (R.map zAT))
   (hX : ∀ s ∈ X, s.length ≤ 9223372036854775807 ∧ zDF s = 0) (hY : ∀ s ∈ Y, s.length ≤ 9223372036854775807 ∧ zDF s = 0) (hR' : ∀ s ∈ R, s.length ≤ 9223372036854775807 ∧ zDF s = 0)
   (hV : V.length ≤ 9223372036854775807 ∧ (k = 0 → zDF V = 0)) (hl : X.length = (if k = 1 then 0 else C.length) ∧ Y.length = (if k = 2 then 0 else B.length) ∧ R.length = (if k = 2 then C.length else 0)) :
   zZ Tryz.prog 122 [.agg [.ro (zq A) 0 A.length, .ro (qsC B) 0 B.length, .ro (qsC C) 0 C.length], .agg [.int .i64 (k : Nat), .ro (.strs X) 0 X.length, .ro (.strs Y) 0 Y.length, .ro (.strs R) 0 R.length, .str V]] (.bool (zCu ⟨A, B, C⟩ k (X.map zAT) (Y.map zAT) (R.map zAT) (zAT V))) := by
 obtain ⟨hl1, hl2, hl3⟩ := hl
 have hn := hD.n
 have hm := hD.m
 have hab := hD.ab
 have c1 := zLR X (by split at hl1 <;> omega) hX
 have c2 := zLR Y (by split at hl2 <;> omega) hY
 have c3 := zLR R (by split at hl3 <;> omega) hR'
 have hx := (List.length_map _ : (X.map zAT).length = X.length)
 have hy := (List.length_map _ : (Y.map zAT).length = Y.length)
 have hr := (List.length_map _ : (R.map zAT).length = R.length)
 refine zY.value0 (zK (P := Tryz.prog) (fn := Tryz.f122) Z Z (by kernel_rfl) Z (fun c hR hfix => ?_)) (fix := fun _ => False) (fun _ h => h) Z Z
 unfold zCu at hR
 generalize X.map zAT = x at *
 generalize Y.map zAT = y at *
 generalize R.map zAT = r at *
 refine rn6 ?_
 refine zx (by kernel_rfl) ?_
 refine zMI [some ⟨188, .box [.ro (zq A) 0 A.length, .ro (qsC B) 0 B.length, .ro (qsC C) 0 C.length]⟩, some ⟨88, .box [.int .i64 (k : Nat), .ro (.strs X) 0 X.length, .ro (.strs Y) 0 Y.length, .ro (.strs R) 0 R.length, .str V]⟩] (zn.refl _) ?_
 refine zAA 0 Z (by kernel_rfl) (by kernel_rfl) (by kernel_rfl) Z (zI Z Z Z Z Z Z) Z ?_
 refine zAA 3 Z (by kernel_rfl) (by kernel_rfl) (by kernel_rfl) Z (zI Z Z Z Z Z Z) Z ?_
 refine zAA 6 Z (by kernel_rfl) (by kernel_rfl) (by kernel_rfl) Z (zI Z Z Z Z Z Z) Z ?_
 apply zAd (H := [some ⟨188, .box [.ro (zq A) 0 A.length, .ro (qsC B) 0 B.length, .ro (qsC C) 0 C.length]⟩, some ⟨88, .box [.int .i64 (k : Nat), .ro (.strs X) 0 X.length, .ro (.strs Y) 0 Y.length, .ro (.strs R) 0 R.length, .str V]⟩, some ⟨135, .box [.nil]⟩]) [(2, .ptr 0 0 0), (3, .ptr 1 0 0), (18, .ro (qsC x) 0 x.length), (21, .ro (qsC y) 0 y.length), (24, .ro (qsC r) 0 r.length), (5, .ptr 2 0 0)]
 intro fin
 apply zAd (H := [some ⟨188, .box [.ro (zq A) 0 A.length, .ro (qsC B) 0 B.length, .ro (qsC C) 0 C.length]⟩, some ⟨88, .box [.int .i64 (k : Nat), .ro (.strs X) 0 X.length, .ro (.strs Y) 0 Y.length, .ro (.strs R) 0 R.length, .str V]⟩]) [(2, .ptr 0 0 0), (3, .ptr 1 0 0), (16, .ptr 1 0 1), (19, .ptr 1 0 2), (22, .ptr 1 0 3), (17, .ro (.strs X) 0 X.length), (18, .ro (qsC x) 0 x.length), (20, .ro (.strs Y) 0 Y.length), (21, .ro (qsC y) 0 y.length), (23, .ro (.strs R) 0 R.length), (24, .ro (qsC r) 0 r.length)]
 intro s14
 apply zAd (H := [some ⟨188, .box [.ro (zq A) 0 A.length, .ro (qsC B) 0 B.length, .ro (qsC C) 0 C.length]⟩, some ⟨88, .box [.int .i64 (k : Nat), .ro (.strs X) 0 X.length, .ro (.strs Y) 0 Y.length, .ro (.strs R) 0 R.length, .str V]⟩]) [(2, .ptr 0 0 0), (3, .ptr 1 0 0), (16, .ptr 1 0 1), (19, .ptr 1 0 2), (22, .ptr 1 0 3), (17, .ro (.strs X) 0 X.length), (18, .ro (qsC x) 0 x.length), (20, .ro (.strs Y) 0 Y.length), (21, .ro (qsC y) 0 y.length), (23, .ro (.strs R) 0 R.length)]
 intro s13
 apply zAd (H := [some ⟨188, .box [.ro (zq A) 0 A.length, .ro (qsC B) 0 B.length, .ro (qsC C) 0 C.length]⟩, some ⟨88, .box [.int .i64 (k : Nat), .ro (.strs X) 0 X.length, .ro (.strs Y) 0 Y.length, .ro (.strs R) 0 R.length, .str V]⟩]) [(2, .ptr 0 0 0), (3, .ptr 1 0 0), (16, .ptr 1 0 1), (19, .ptr 1 0 2), (22, .ptr 1 0 3), (17, .ro (.strs X) 0 X.length), (18, .ro (qsC x) 0 x.length), (20, .ro (.strs Y) 0 Y.length), (23, .ro (.strs R) 0 R.length)]
 intro s12
 apply zAd (H := [some ⟨188, .box [.ro (zq A) 0 A.length, .ro (qsC B) 0 B.length, .ro (qsC C) 0 C.length]⟩, some ⟨88, .box [.int .i64 (k : Nat), .ro (.strs X) 0 X.length, .ro (.strs Y) 0 Y.length, .ro (.strs R) 0 R.length, .str V]⟩]) [(2, .ptr 0 0 0), (3, .ptr 1 0 0), (16, .ptr 1 0 1), (19, .ptr 1 0 2), (22, .ptr 1 0 3), (17, .ro (.strs X) 0 X.length), (18, .ro (qsC x) 0 x.length), (20, .ro (.strs Y) 0 Y.length), (21, .ro (qsC y) 0 y.length)]
 intro s11
 apply zAd (H := [some ⟨188, .box [.ro (zq A) 0 A.length, .ro (qsC B) 0 B.length, .ro (qsC C) 0 C.length]⟩, some ⟨88, .box [.int .i64 (k : Nat), .ro (.strs X) 0 X.length, .ro (.strs Y) 0 Y.length, .ro (.strs R) 0 R.length, .str V]⟩]) [(2, .ptr 0 0 0), (3, .ptr 1 0 0), (16, .ptr 1 0 1), (19, .ptr 1 0 2), (22, .ptr 1 0 3), (17, .ro (.strs X) 0 X.length), (20, .ro (.strs Y) 0 Y.length), (23, .ro (.strs R) 0 R.length)]
 intro s10
 apply zAd (H := [some ⟨188, .box [.ro (zq A) 0 A.length, .ro (qsC B) 0 B.length, .ro (qsC C) 0 C.length]⟩, some ⟨88, .box [.int .i64 (k : Nat), .ro (.strs X) 0 X.length, .ro (.strs Y) 0 Y.length, .ro (.strs R) 0 R.length, .str V]⟩]) [(2, .ptr 0 0 0), (3, .ptr 1 0 0), (16, .ptr 1 0 1), (19, .ptr 1 0 2), (22, .ptr 1 0 3), (17, .ro (.strs X) 0 X.length), (18, .ro (qsC x) 0 x.length), (23, .ro (.strs R) 0 R.length)]
 intro s9
 apply zAd (H := [some ⟨188, .box [.ro (zq A) 0 A.length, .ro (qsC B) 0 B.length, .ro (qsC C) 0 C.length]⟩, some ⟨88, .box [.int .i64 (k : Nat), .ro (.strs X) 0 X.length, .ro (.strs Y) 0 Y.length, .ro (.strs R) 0 R.length, .str V]⟩]) [(2, .ptr 0 0 0), (3, .ptr 1 0 0), (16, .ptr 1 0 1), (19, .ptr 1 0 2), (22, .ptr 1 0 3), (17, .ro (.strs X) 0 X.length), (18, .ro (qsC x) 0 x.length), (20, .ro (.strs Y) 0 Y.length)]
 intro s8
 apply zAd (H := [some ⟨188, .box [.ro (zq A) 0 A.length, .ro (qsC B) 0 B.length, .ro (qsC C) 0 C.length]⟩, some ⟨88, .box [.int .i64 (k : Nat), .ro (.strs X) 0 X.length, .ro (.strs Y) 0 Y.length, .ro (.strs R) 0 R.length, .str V]⟩]) [(2, .ptr 0 0 0), (3, .ptr 1 0 0), (16, .ptr 1 0 1), (19, .ptr 1 0 2), (22, .ptr 1 0 3), (20, .ro (.strs Y) 0 Y.length), (23, .ro (.strs R) 0 R.length)]
 intro s7
 apply zAd (H := [some ⟨188, .box [.ro (zq A) 0 A.length, .ro (qsC B) 0 B.length, .ro (qsC C) 0 C.length]⟩, some ⟨88, .box [.int .i64 (k : Nat), .ro (.strs X) 0 X.length, .ro (.strs Y) 0 Y.length, .ro (.strs R) 0 R.length, .str V]⟩]) [(2, .ptr 0 0 0), (3, .ptr 1 0 0), (16, .ptr 1 0 1), (19, .ptr 1 0 2), (22, .ptr 1 0 3), (17, .ro (.strs X) 0 X.length), (23, .ro (.strs R) 0 R.length)]
 intro s6
 apply zAd (H := [some ⟨188, .box [.ro (zq A) 0 A.length, .ro (qsC B) 0 B.length, .ro (qsC C) 0 C.length]⟩, some ⟨88, .box [.int .i64 (k : Nat), .ro (.strs X) 0 X.length, .ro (.strs Y) 0 Y.length, .ro (.strs R) 0 R.length, .str V]⟩]) [(2, .ptr 0 0 0), (3, .ptr 1 0 0), (16, .ptr 1 0 1), (19, .ptr 1 0 2), (22, .ptr 1 0 3), (17, .ro (.strs X) 0 X.length), (20, .ro (.strs Y) 0 Y.length)]
 intro s5
 apply zAd (H := [some ⟨188, .box [.ro (zq A) 0 A.length, .ro (qsC B) 0 B.length, .ro (qsC C) 0 C.length]⟩, some ⟨88, .box [.int .i64 (k : Nat), .ro (.strs X) 0 X.length, .ro (.strs Y) 0 Y.length, .ro (.strs R) 0 R.length, .str V]⟩]) [(2, .ptr 0 0 0), (3, .ptr 1 0 0), (16, .ptr 1 0 1), (19, .ptr 1 0 2), (22, .ptr 1 0 3), (17, .ro (.strs X) 0 X.length), (18, .ro (qsC x) 0 x.length)]
 intro s4
 apply zAd (H := [some ⟨188, .box [.ro (zq A) 0 A.length, .ro (qsC B) 0 B.length, .ro (qsC C) 0 C.length]⟩, some ⟨88, .box [.int .i64 (k : Nat), .ro (.strs X) 0 X.length, .ro (.strs Y) 0 Y.length, .ro (.strs R) 0 R.length, .str V]⟩]) [(2, .ptr 0 0 0), (3, .ptr 1 0 0), (16, .ptr 1 0 1), (19, .ptr 1 0 2), (22, .ptr 1 0 3), (23, .ro (.strs R) 0 R.length)]
 intro s3
 apply zAd (H := [some ⟨188, .box [.ro (zq A) 0 A.length, .ro (qsC B) 0 B.length, .ro (qsC C) 0 C.length]⟩, some ⟨88, .box [.int .i64 (k : Nat), .ro (.strs X) 0 X.length, .ro (.strs Y) 0 Y.length, .ro (.strs R) 0 R.length, .str V]⟩]) [(2, .ptr 0 0 0), (3, .ptr 1 0 0), (16, .ptr 1 0 1), (19, .ptr 1 0 2), (22, .ptr 1 0 3), (20, .ro (.strs Y) 0 Y.length)]
 intro s2
 apply zAd (H := [some ⟨188, .box [.ro (zq A) 0 A.length, .ro (qsC B) 0 B.length, .ro (qsC C) 0 C.length]⟩, some ⟨88, .box [.int .i64 (k : Nat), .ro (.strs X) 0 X.length, .ro (.strs Y) 0 Y.length, .ro (.strs R) 0 R.length, .str V]⟩]) [(2, .ptr 0 0 0), (3, .ptr 1 0 0), (16, .ptr 1 0 1), (19, .ptr 1 0 2), (22, .ptr 1 0 3), (17, .ro (.strs X) 0 X.length)]
 intro s1
 · refine zW (is := [1, 4, 7, 9]) (by kernel_rfl) (by simp) Z ⟨fun o ho => ?_, fun o ho => ?_, fun o ho => ?_, fun o ho => ?_, trivial⟩
   all_goals (cases ho)
   · refine rn4 ?_
     exact s1 _ ⟨Z, Z, Z, Z, Z, Z, trivial⟩
   · refine rn4 ?_
     exact s2 _ ⟨Z, Z, Z, Z, Z, Z, trivial⟩
   · refine rn4 ?_
     exact s3 _ ⟨Z, Z, Z, Z, Z, Z, trivial⟩
   · refine rn4 ?_
     refine zAl (fuel := 3) [1, 2, 4, 5, 7, 8] [(2, .ptr 0 0 0), (3, .ptr 1 0 0), (16, .ptr 1 0 1), (19, .ptr 1 0 2), (22, .ptr 1 0 3), (5, .ptr 2 0 0)] ⟨Z, Z, Z, Z, Z, Z, trivial⟩ (by kernel_rfl) (by decide) Z Z ?_
     refine zM Z Z (zP Z Z Z Z Z) ?_
     refine zAf Z Z Z Z Z c1 ?_
     refine zM Z Z (zP Z Z Z Z Z) ?_
     refine zAf Z Z Z Z Z c2 ?_
     refine zM Z Z (zP Z Z Z Z Z) ?_
     refine zAf Z Z Z Z Z c3 ?_
     refine zAC ?_
     exact fin _ ⟨Z, Z, Z, Z, Z, Z, trivial⟩
 · refine zW (is := [2, 4, 7, 9]) (by kernel_rfl) (by simp) Z ⟨fun o ho => ?_, fun o ho => ?_, fun o ho => ?_, fun o ho => ?_, trivial⟩
   all_goals (cases ho)
   · refine zJ Z Z Z c1 ?_
     refine rn1 ?_
     exact s4 _ ⟨Z, Z, Z, Z, Z, Z, Z, trivial⟩
   · refine rn4 ?_
     exact s5 _ ⟨Z, Z, Z, Z, Z, Z, Z, trivial⟩
   · refine rn4 ?_
     exact s6 _ ⟨Z, Z, Z, Z, Z, Z, Z, trivial⟩
   · refine rn4 ?_
     refine zAl (fuel := 3) [2, 4, 5, 7, 8] [(2, .ptr 0 0 0), (3, .ptr 1 0 0), (16, .ptr 1 0 1), (19, .ptr 1 0 2), (22, .ptr 1 0 3), (17, .ro (.strs X) 0 X.length), (5, .ptr 2 0 0)] ⟨Z, Z, Z, Z, Z, Z, Z, trivial⟩ (by kernel_rfl) (by decide) Z Z ?_
     refine zAf Z Z Z Z Z c1 ?_
     refine zM Z Z (zP Z Z Z Z Z) ?_
     refine zAf Z Z Z Z Z c2 ?_
     refine zM Z Z (zP Z Z Z Z Z) ?_
     refine zAf Z Z Z Z Z c3 ?_
     refine zAC ?_
     exact fin _ ⟨Z, Z, Z, Z, Z, Z, trivial⟩
 · refine zW (is := [1, 7, 9]) (by kernel_rfl) (by simp) Z ⟨fun o ho => ?_, fun o ho => ?_, fun o ho => ?_, trivial⟩
   all_goals (cases ho)
   · refine rn4 ?_
     exact s5 _ ⟨Z, Z, Z, Z, Z, Z, Z, trivial⟩
   · refine rn4 ?_
     exact s7 _ ⟨Z, Z, Z, Z, Z, Z, Z, trivial⟩
   · refine rn4 ?_
     refine zAl (fuel := 3) [1, 2, 5, 7, 8] [(2, .ptr 0 0 0), (3, .ptr 1 0 0), (16, .ptr 1 0 1), (19, .ptr 1 0 2), (22, .ptr 1 0 3), (20, .ro (.strs Y) 0 Y.length), (5, .ptr 2 0 0)] ⟨Z, Z, Z, Z, Z, Z, Z, trivial⟩ (by kernel_rfl) (by decide) Z Z ?_
     refine zM Z Z (zP Z Z Z Z Z) ?_
     refine zAf Z Z Z Z Z c1 ?_
     refine zAf Z Z Z Z Z c2 ?_
     refine zM Z Z (zP Z Z Z Z Z) ?_
     refine zAf Z Z Z Z Z c3 ?_
     refine zAC ?_
     exact fin _ ⟨Z, Z, Z, Z, Z, Z, trivial⟩
 · refine zW (is := [1, 4, 9]) (by kernel_rfl) (by simp) Z ⟨fun o ho => ?_, fun o ho => ?_, fun o ho => ?_, trivial⟩
   all_goals (cases ho)
   · refine rn4 ?_
     exact s6 _ ⟨Z, Z, Z, Z, Z, Z, Z, trivial⟩
   · refine rn4 ?_
     exact s7 _ ⟨Z, Z, Z, Z, Z, Z, Z, trivial⟩
   · refine rn4 ?_
     refine zAl (fuel := 3) [1, 2, 4, 5, 8] [(2, .ptr 0 0 0), (3, .ptr 1 0 0), (16, .ptr 1 0 1), (19, .ptr 1 0 2), (22, .ptr 1 0 3), (23, .ro (.strs R) 0 R.length), (5, .ptr 2 0 0)] ⟨Z, Z, Z, Z, Z, Z, Z, trivial⟩ (by kernel_rfl) (by decide) Z Z ?_
     refine zM Z Z (zP Z Z Z Z Z) ?_
     refine zAf Z Z Z Z Z c1 ?_
     refine zM Z Z (zP Z Z Z Z Z) ?_
     refine zAf Z Z Z Z Z c2 ?_
     refine zAf Z Z Z Z Z c3 ?_
     refine zAC ?_
     exact fin _ ⟨Z, Z, Z, Z, Z, Z, trivial⟩
 · refine zW (is := [4, 7, 9]) (by kernel_rfl) (by simp) Z ⟨fun o ho => ?_, fun o ho => ?_, fun o ho => ?_, trivial⟩
   all_goals (cases ho)
   · refine rn4 ?_
     exact s8 _ ⟨Z, Z, Z, Z, Z, Z, Z, Z, trivial⟩
   · refine rn4 ?_
     exact s9 _ ⟨Z, Z, Z, Z, Z, Z, Z, Z, trivial⟩
   · refine rn4 ?_
     refine zAl (fuel := 3) [4, 5, 7, 8] [(2, .ptr 0 0 0), (3, .ptr 1 0 0), (16, .ptr 1 0 1), (19, .ptr 1 0 2), (22, .ptr 1 0 3), (17, .ro (.strs X) 0 X.length), (18, .ro (qsC x) 0 x.length), (5, .ptr 2 0 0)] ⟨Z, Z, Z, Z, Z, Z, Z, Z, trivial⟩ (by kernel_rfl) (by decide) Z Z ?_
     refine zM Z Z (zP Z Z Z Z Z) ?_
     refine zAf Z Z Z Z Z c2 ?_
     refine zM Z Z (zP Z Z Z Z Z) ?_
     refine zAf Z Z Z Z Z c3 ?_
     refine zAC ?_
     exact fin _ ⟨Z, Z, Z, Z, Z, Z, trivial⟩
 · refine zW (is := [2, 7, 9]) (by kernel_rfl) (by simp) Z ⟨fun o ho => ?_, fun o ho => ?_, fun o ho => ?_, trivial⟩
   all_goals (cases ho)
   · refine zJ Z Z Z c1 ?_
     refine rn1 ?_
     exact s8 _ ⟨Z, Z, Z, Z, Z, Z, Z, Z, trivial⟩
   · refine rn4 ?_
     exact s10 _ ⟨Z, Z, Z, Z, Z, Z, Z, Z, trivial⟩
   · refine rn4 ?_
     refine zAl (fuel := 3) [2, 5, 7, 8] [(2, .ptr 0 0 0), (3, .ptr 1 0 0), (16, .ptr 1 0 1), (19, .ptr 1 0 2), (22, .ptr 1 0 3), (17, .ro (.strs X) 0 X.length), (20, .ro (.strs Y) 0 Y.length), (5, .ptr 2 0 0)] ⟨Z, Z, Z, Z, Z, Z, Z, Z, trivial⟩ (by kernel_rfl) (by decide) Z Z ?_
     refine zAf Z Z Z Z Z c1 ?_
     refine zAf Z Z Z Z Z c2 ?_
     refine zM Z Z (zP Z Z Z Z Z) ?_
     refine zAf Z Z Z Z Z c3 ?_
     refine zAC ?_
     exact fin _ ⟨Z, Z, Z, Z, Z, Z, trivial⟩
 · refine zW (is := [2, 4, 9]) (by kernel_rfl) (by simp) Z ⟨fun o ho => ?_, fun o ho => ?_, fun o ho => ?_, trivial⟩
   all_goals (cases ho)
   · refine zJ Z Z Z c1 ?_
     refine rn1 ?_
     exact s9 _ ⟨Z, Z, Z, Z, Z, Z, Z, Z, trivial⟩
   · refine rn4 ?_
     exact s10 _ ⟨Z, Z, Z, Z, Z, Z, Z, Z, trivial⟩
   · refine rn4 ?_
     refine zAl (fuel := 3) [2, 4, 5, 8] [(2, .ptr 0 0 0), (3, .ptr 1 0 0), (16, .ptr 1 0 1), (19, .ptr 1 0 2), (22, .ptr 1 0 3), (17, .ro (.strs X) 0 X.length), (23, .ro (.strs R) 0 R.length), (5, .ptr 2 0 0)] ⟨Z, Z, Z, Z, Z, Z, Z, Z, trivial⟩ (by kernel_rfl) (by decide) Z Z ?_
     refine zAf Z Z Z Z Z c1 ?_
     refine zM Z Z (zP Z Z Z Z Z) ?_
     refine zAf Z Z Z Z Z c2 ?_
     refine zAf Z Z Z Z Z c3 ?_
     refine zAC ?_
     exact fin _ ⟨Z, Z, Z, Z, Z, Z, trivial⟩
 · refine zW (is := [1, 9]) (by kernel_rfl) (by simp) Z ⟨fun o ho => ?_, fun o ho => ?_, trivial⟩
   all_goals (cases ho)
   · refine rn4 ?_
     exact s10 _ ⟨Z, Z, Z, Z, Z, Z, Z, Z, trivial⟩
   · refine rn4 ?_
     refine zAl (fuel := 3) [1, 2, 5, 8] [(2, .ptr 0 0 0), (3, .ptr 1 0 0), (16, .ptr 1 0 1), (19, .ptr 1 0 2), (22, .ptr 1 0 3), (20, .ro (.strs Y) 0 Y.length), (23, .ro (.strs R) 0 R.length), (5, .ptr 2 0 0)] ⟨Z, Z, Z, Z, Z, Z, Z, Z, trivial⟩ (by kernel_rfl) (by decide) Z Z ?_
     refine zM Z Z (zP Z Z Z Z Z) ?_
     refine zAf Z Z Z Z Z c1 ?_
     refine zAf Z Z Z Z Z c2 ?_
     refine zAf Z Z Z Z Z c3 ?_
     refine zAC ?_
     exact fin _ ⟨Z, Z, Z, Z, Z, Z, trivial⟩
 · refine zW (is := [5, 7, 9]) (by kernel_rfl) (by simp) Z ⟨fun o ho => ?_, fun o ho => ?_, fun o ho => ?_, trivial⟩
   all_goals (cases ho)
   · refine zJ Z Z Z c2 ?_
     refine rn1 ?_
     exact s11 _ ⟨Z, Z, Z, Z, Z, Z, Z, Z, Z, trivial⟩
   · refine rn4 ?_
     exact s12 _ ⟨Z, Z, Z, Z, Z, Z, Z, Z, Z, trivial⟩
   · refine rn4 ?_
     refine zAl (fuel := 3) [5, 7, 8] [(2, .ptr 0 0 0), (3, .ptr 1 0 0), (16, .ptr 1 0 1), (19, .ptr 1 0 2), (22, .ptr 1 0 3), (17, .ro (.strs X) 0 X.length), (18, .ro (qsC x) 0 x.length), (20, .ro (.strs Y) 0 Y.length), (5, .ptr 2 0 0)] ⟨Z, Z, Z, Z, Z, Z, Z, Z, Z, trivial⟩ (by kernel_rfl) (by decide) Z Z ?_
     refine zAf Z Z Z Z Z c2 ?_
     refine zM Z Z (zP Z Z Z Z Z) ?_
     refine zAf Z Z Z Z Z c3 ?_
     refine zAC ?_
     exact fin _ ⟨Z, Z, Z, Z, Z, Z, trivial⟩
 · refine zW (is := [4, 9]) (by kernel_rfl) (by simp) Z ⟨fun o ho => ?_, fun o ho => ?_, trivial⟩
   all_goals (cases ho)
   · refine rn4 ?_
     exact s12 _ ⟨Z, Z, Z, Z, Z, Z, Z, Z, Z, trivial⟩
   · refine rn4 ?_
     refine zAl (fuel := 3) [4, 5, 8] [(2, .ptr 0 0 0), (3, .ptr 1 0 0), (16, .ptr 1 0 1), (19, .ptr 1 0 2), (22, .ptr 1 0 3), (17, .ro (.strs X) 0 X.length), (18, .ro (qsC x) 0 x.length), (23, .ro (.strs R) 0 R.length), (5, .ptr 2 0 0)] ⟨Z, Z, Z, Z, Z, Z, Z, Z, Z, trivial⟩ (by kernel_rfl) (by decide) Z Z ?_
     refine zM Z Z (zP Z Z Z Z Z) ?_
     refine zAf Z Z Z Z Z c2 ?_
     refine zAf Z Z Z Z Z c3 ?_
     refine zAC ?_
     exact fin _ ⟨Z, Z, Z, Z, Z, Z, trivial⟩
 · refine zW (is := [2, 9]) (by kernel_rfl) (by simp) Z ⟨fun o ho => ?_, fun o ho => ?_, trivial⟩
   all_goals (cases ho)
   · refine zJ Z Z Z c1 ?_
     refine rn1 ?_
     exact s12 _ ⟨Z, Z, Z, Z, Z, Z, Z, Z, Z, trivial⟩
   · refine rn4 ?_
     refine zAl (fuel := 3) [2, 5, 8] [(2, .ptr 0 0 0), (3, .ptr 1 0 0), (16, .ptr 1 0 1), (19, .ptr 1 0 2), (22, .ptr 1 0 3), (17, .ro (.strs X) 0 X.length), (20, .ro (.strs Y) 0 Y.length), (23, .ro (.strs R) 0 R.length), (5, .ptr 2 0 0)] ⟨Z, Z, Z, Z, Z, Z, Z, Z, Z, trivial⟩ (by kernel_rfl) (by decide) Z Z ?_
     refine zAf Z Z Z Z Z c1 ?_
     refine zAf Z Z Z Z Z c2 ?_
     refine zAf Z Z Z Z Z c3 ?_
     refine zAC ?_
     exact fin _ ⟨Z, Z, Z, Z, Z, Z, trivial⟩
 · refine zW (is := [7, 9]) (by kernel_rfl) (by simp) Z ⟨fun o ho => ?_, fun o ho => ?_, trivial⟩
   all_goals (cases ho)
   · refine rn4 ?_
     exact s13 _ ⟨Z, Z, Z, Z, Z, Z, Z, Z, Z, Z, trivial⟩
   · refine rn4 ?_
     refine zAl (fuel := 3) [7, 8] [(2, .ptr 0 0 0), (3, .ptr 1 0 0), (16, .ptr 1 0 1), (19, .ptr 1 0 2), (22, .ptr 1 0 3), (17, .ro (.strs X) 0 X.length), (18, .ro (qsC x) 0 x.length), (20, .ro (.strs Y) 0 Y.length), (21, .ro (qsC y) 0 y.length), (5, .ptr 2 0 0)] ⟨Z, Z, Z, Z, Z, Z, Z, Z, Z, Z, trivial⟩ (by kernel_rfl) (by decide) Z Z ?_
     refine zM Z Z (zP Z Z Z Z Z) ?_
     refine zAf Z Z Z Z Z c3 ?_
     refine zAC ?_
     exact fin _ ⟨Z, Z, Z, Z, Z, Z, trivial⟩
 · refine zW (is := [5, 9]) (by kernel_rfl) (by simp) Z ⟨fun o ho => ?_, fun o ho => ?_, trivial⟩
   all_goals (cases ho)
   · refine zJ Z Z Z c2 ?_
     refine rn1 ?_
     exact s13 _ ⟨Z, Z, Z, Z, Z, Z, Z, Z, Z, Z, trivial⟩
   · refine rn4 ?_
     refine zAl (fuel := 3) [5, 8] [(2, .ptr 0 0 0), (3, .ptr 1 0 0), (16, .ptr 1 0 1), (19, .ptr 1 0 2), (22, .ptr 1 0 3), (17, .ro (.strs X) 0 X.length), (18, .ro (qsC x) 0 x.length), (20, .ro (.strs Y) 0 Y.length), (23, .ro (.strs R) 0 R.length), (5, .ptr 2 0 0)] ⟨Z, Z, Z, Z, Z, Z, Z, Z, Z, Z, trivial⟩ (by kernel_rfl) (by decide) Z Z ?_
     refine zAf Z Z Z Z Z c2 ?_
     refine zAf Z Z Z Z Z c3 ?_
     refine zAC ?_
     exact fin _ ⟨Z, Z, Z, Z, Z, Z, trivial⟩
 · refine zW (is := [8, 9]) (by kernel_rfl) (by simp) Z ⟨fun o ho => ?_, fun o ho => ?_, trivial⟩
   all_goals (cases ho)
   · refine zJ Z Z Z c3 ?_
     refine rn1 ?_
     exact s14 _ ⟨Z, Z, Z, Z, Z, Z, Z, Z, Z, Z, Z, trivial⟩
   · refine rn4 ?_
     refine zAl (fuel := 3) [8] [(2, .ptr 0 0 0), (3, .ptr 1 0 0), (16, .ptr 1 0 1), (19, .ptr 1 0 2), (22, .ptr 1 0 3), (17, .ro (.strs X) 0 X.length), (18, .ro (qsC x) 0 x.length), (20, .ro (.strs Y) 0 Y.length), (21, .ro (qsC y) 0 y.length), (23, .ro (.strs R) 0 R.length), (5, .ptr 2 0 0)] ⟨Z, Z, Z, Z, Z, Z, Z, Z, Z, Z, Z, trivial⟩ (by kernel_rfl) (by decide) Z Z ?_
     refine zAf Z Z Z Z Z c3 ?_
     refine zAC ?_
     exact fin _ ⟨Z, Z, Z, Z, Z, Z, trivial⟩
 · refine zW (is := [9]) (by kernel_rfl) (by simp) Z ⟨fun o ho => ?_, trivial⟩
   all_goals (cases ho)
   refine rn4 ?_
   exact fin _ ⟨Z, Z, Z, Z, Z, Z, trivial⟩
 refine zW (is := [10]) (by kernel_rfl) (by simp) Z ⟨fun o ho => ?_, trivial⟩
 all_goals (cases ho)
 repeat (first | refine zD ?_ | refine zAF ?_ | refine zAi rfl rfl rfl rfl rfl rfl rfl Nat.zero_lt_one ?_)
 refine zW (is := [11]) (by kernel_rfl) (by simp) Z ⟨fun o ho => ?_, trivial⟩
 all_goals (cases ho)
 refine rn1 ?_
 refine zW (is := [12]) (by kernel_rfl) (by simp) Z ⟨fun o ho => ?_, trivial⟩
 all_goals (cases ho)
 refine rn1 ?_
 refine zf (by kernel_rfl) ?_
 repeat (first | refine zA ?_ | refine zR ?_)
 refine zAW [some ⟨188, .box [.ro (zq A) 0 A.length, .ro (qsC B) 0 B.length, .ro (qsC C) 0 C.length]⟩, some ⟨88, .box [.int .i64 (k : Nat), .ro (.strs X) 0 X.length, .ro (.strs Y) 0 Y.length, .ro (.strs R) 0 R.length, .str V]⟩, some ⟨135, .box [.ro (qsC x) 0 x.length]⟩] Z ?_
 refine zKB [(2, .rp (zF2 A B C) 0 0), (3, .rp (.box [.int .i64 (k : Nat), .ro (.strs X) 0 X.length, .ro (.strs Y) 0 Y.length, .ro (.strs R) 0 R.length, .str V]) 0 0), (5, .rp (.box [.ro (qsC x) 0 x.length]) 0 0), (6, .ro (qsC y) 0 y.length), (7, .ro (qsC r) 0 r.length)] (refl3 (zDe rfl) (zDe rfl) (zDe rfl)) ⟨⟨.ptr 0 0 0, rfl, .inr (.inr ⟨rfl, fun o ho => by simp at ho; subst ho; exact Nat.zero_lt_one⟩)⟩, ⟨.ptr 1 0 0, rfl, .inr (.inr ⟨rfl, fun o ho => by simp at ho; subst ho; exact Nat.zero_lt_one⟩)⟩, ⟨.ptr 2 0 0, rfl, .inr (.inr ⟨rfl, fun o ho => by simp at ho; subst ho; exact Nat.zero_lt_one⟩)⟩, ⟨_, rfl, .inl rfl⟩, ⟨_, rfl, .inl rfl⟩, trivial⟩ ⟨rfl, rfl, rfl, rfl, rfl, trivial⟩ rfl (by rw [hfix]; exact fun h hh => hh) ?_
 have hx40 : x.length ≤ 40 := by rw [hx, hl1]; split <;> omega
 have hy40 : y.length ≤ 40 := by rw [hy, hl2]; split <;> omega
 have hr40 : r.length ≤ 40 := by rw [hr, hl3]; split <;> omega
 have n1 := zFq x (by omega)
 have n2 := zFq y (by omega)
 have n3 := zFq r (by omega)
 have cC := cols_ok A C.length (by omega) (by omega) (fun a ha => (hD.w a ha).1)
 repeat (first | refine zB (zE rfl) ?_ | refine zB (zL rfl) ?_ | refine zD ?_ | refine zA ?_ | refine zR ?_ | refine zG rfl ?_ | refine zB (zAV rfl rfl rfl rfl) ?_)
 refine zJ Z Z Z n1 ?_
 cases h1 : zCs x
 · rw [h1] at hR
   simp only [Bool.false_and] at hR
   refine rn6 ?_
   exact zO hR Z Z
 rw [h1] at hR
 refine rn5 ?_
 refine zJ Z Z Z n2 ?_
 cases h2 : zCs y
 · rw [h2] at hR
   simp only [Bool.false_and, Bool.and_false] at hR
   refine rn6 ?_
   exact zO hR Z Z
 rw [h2] at hR
 refine rn5 ?_
 refine zJ Z Z Z n3 ?_
 cases h3 : zCs r
 · rw [h3] at hR
   simp only [Bool.false_and, Bool.and_false] at hR
   refine rn5 ?_
   exact zO hR Z Z
 rw [h3] at hR
 simp only [Bool.true_and] at hR
 unfold zF2
 repeat (first | refine zD ?_ | refine zA ?_ | refine zR ?_ | refine zG rfl ?_ | refine zAL rfl rfl ?_ | refine zr rfl ?_ | refine zi ?_ | refine zB (zE2 rfl) ?_ | refine zB (zAM rfl rfl) ?_ | refine zB (zAR rfl rfl rfl) ?_ | refine zB (zAV rfl rfl rfl rfl) ?_ | refine zB (zA5 rfl rfl rfl rfl rfl rfl) ?_)
 refine zJ Z Z Z cC ?_
 repeat (first | refine zB (zE rfl) ?_ | refine zB (zL rfl) ?_ | refine zD ?_ | refine zA ?_ | refine zR ?_ | refine zG rfl ?_ | refine zB (zAR rfl rfl rfl) ?_)
 have hrow : ∀ i, i < A.length → (A.getD i []).length = C.length ∧ ∀ q ∈ A.getD i [], D 2000 q := fun i hi => hD.w _ (zAt [] hi)
 have hfe : zKk ⟨A, B, C⟩ x = (List.range A.length).all (fun i => decide (zAr (A.getD i []) x ≤ B.getD i 0)) := by
   unfold zKk; rw [hab]
 by_cases k2 : k = 2
 · subst k2
   rw [if_pos rfl] at hl2 hl3
   rw [if_neg (by decide)] at hl1
   rw [if_neg (by decide), if_neg (by decide), hfe] at hR
   repeat (refine zb ?_)
   refine zt (ι := Nat) (fun j => [(2, .rp (.box [.ro (zq A) 0 A.length, .ro (qsC B) 0 B.length, .ro (qsC C) 0 C.length]) 0 0), (3, .rp (.box [.int .i64 (2 : Nat), .ro (.strs X) 0 X.length, .ro (.strs Y) 0 Y.length, .ro (.strs R) 0 R.length, .str V]) 0 0), (5, .rp (.box [.ro (qsC x) 0 x.length]) 0 0), (6, .ro (qsC y) 0 y.length), (7, .ro (qsC r) 0 r.length), (8, .fn 172 []), (10, .nil), (47, .ro (zq (zHf A C.length)) 0 C.length), (48, .int .i64 (C.length : Nat)), (49, .int .i64 (j : Nat))]) (fun _ => [])
     (fun j => j ≤ C.length) (fun j => C.length - j) 0 ⟨⟨rfl, rfl, rfl, rfl, rfl, rfl, rfl, rfl, rfl, rfl, trivial⟩, rfl, Nat.zero_le _⟩ ?_
   intro j hj
   refine rn4 ?_
   refine zF Z (fun h5 => ?_) (fun h5 => ?_)
   · repeat (first | refine zB (zE rfl) ?_ | refine zB (zL rfl) ?_ | refine zD ?_ | refine zA ?_ | refine zR ?_ | refine zG rfl ?_ | refine zr rfl ?_ | refine zc ?_ | refine zb ?_ | refine zi ?_ | refine zB (zCo rfl rfl rfl rfl) ?_ | refine zB (zEc rfl rfl) ?_ | refine zB (zCA rfl rfl (by omega)) ?_ | refine zB (zAN rfl rfl rfl rfl (by first | (simp only [Nat.zero_add, Int.toNat_natCast, Int.toNat_zero]; exact rfl) | exact rfl) (by omega)) ?_ | refine zB (zAV rfl rfl rfl rfl) ?_ | refine zB (zA5 rfl rfl rfl rfl rfl rfl) ?_)
     exact zQ ⟨j + 1, by omega, by omega, ⟨Z, Z, Z, Z, Z, Z, Z, Z, Z, Z, trivial⟩, Z⟩
   have d1 := fun i (hi : i < A.length) => dot1 (hrow i hi).2 hD.x (by rw [(hrow i hi).1]; omega) hx40
   have d2 := fun i (hi : i < A.length) => dot1 (hrow i hi).2 hD.r (by rw [(hrow i hi).1]; omega) hr40
   obtain ⟨d3, d4⟩ := dot1 hD.c hD.r (by omega) hr40
   have cf := zLi A B C x (by omega) hab (fun q hq => zGx ((hD.b q hq).mono (by decide))) (fun i hi => (d1 i hi).1) (fun i hi => (d1 i hi).2)
   have cr := zMY A B C r 179 [] (fun i => decide (zAr (A.getD i []) r ≤ 0)) rfl rfl (by omega) (fun i hi => (d2 i hi).1) (fun i hi => pnp_ok i _)
   have hra : rays0 ⟨A, B, C⟩ r = (List.range A.length).all (fun i => decide (zAr (A.getD i []) r ≤ 0)) := by
     unfold rays0; rw [hab]
   have hg := sgnQ_gt (zAr C r)
   have cs := zEb (zAr C r)
   rw [hra, show zAr (⟨A, B, C⟩ : Prog).C r = zAr C r from rfl, ← hg] at hR
   generalize (List.range A.length).all (fun i => decide (zAr (A.getD i []) x ≤ B.getD i 0)) = F1 at *
   generalize (List.range A.length).all (fun i => decide (zAr (A.getD i []) r ≤ 0)) = F2 at *
   repeat (first | refine zA ?_ | refine zR ?_ | refine zAg ?_ | refine zw ?_ | refine zv ?_ | refine zAD ?_)
   refine zG Z ?_
   repeat (first | refine zD ?_ | refine zA ?_ | refine zR ?_ | refine zB (zCm rfl) ?_ | refine zAi rfl rfl rfl rfl rfl rfl rfl Nat.zero_lt_one ?_ | refine zAe rfl rfl rfl ?_)
   refine zAW [some ⟨259, .box [.fn 175 [.rp (.box [.ro (zq A) 0 A.length, .ro (qsC B) 0 B.length, .ro (qsC C) 0 C.length]) 0 0]]⟩] Z ?_
   refine zKB [(2, .rp (.box [.ro (zq A) 0 A.length, .ro (qsC B) 0 B.length, .ro (qsC C) 0 C.length]) 0 0), (3, .rp (.box [.int .i64 (2 : Nat), .ro (.strs X) 0 X.length, .ro (.strs Y) 0 Y.length, .ro (.strs R) 0 R.length, .str V]) 0 0), (5, .rp (.box [.ro (qsC x) 0 x.length]) 0 0), (6, .ro (qsC y) 0 y.length), (7, .ro (qsC r) 0 r.length), (8, .fn 172 []), (10, .nil), (13, .rp (.box [.fn 175 [.rp (.box [.ro (zq A) 0 A.length, .ro (qsC B) 0 B.length, .ro (qsC C) 0 C.length]) 0 0]]) 0 0)] (zIc (zDe rfl)) ⟨⟨_, rfl, .inl rfl⟩, ⟨_, rfl, .inl rfl⟩, ⟨_, rfl, .inl rfl⟩, ⟨_, rfl, .inl rfl⟩, ⟨_, rfl, .inl rfl⟩, ⟨_, rfl, .inl rfl⟩, ⟨_, rfl, .inl rfl⟩, ⟨.ptr 0 0 0, rfl, .inr (.inr ⟨rfl, fun o ho => by simp at ho; subst ho; exact Nat.zero_lt_one⟩)⟩, trivial⟩ ⟨rfl, rfl, rfl, rfl, rfl, rfl, rfl, rfl, trivial⟩ rfl (by rw [hfix]; exact fun h hh => hh) ?_
   repeat (first | refine zB (zE rfl) ?_ | refine zB (zL rfl) ?_ | refine zD ?_ | refine zA ?_ | refine zR ?_ | refine zG rfl ?_ | refine zr rfl ?_ | refine zc ?_ | refine zb ?_ | refine zi ?_ | refine zB (zCD rfl rfl) ?_ | refine zB (zAV rfl rfl rfl rfl) ?_ | refine zB (zCm rfl) ?_ | refine zB (zA5 rfl rfl rfl rfl rfl rfl) ?_)
   refine zJ Z Z Z cf ?_
   cases F1
   · simp only [Bool.false_and] at hR
     refine rn6 ?_
     exact zO hR Z Z
   simp only [Bool.true_and] at hR
   repeat (first | refine zB (zE rfl) ?_ | refine zAL rfl rfl ?_ | refine zB (zAV rfl rfl rfl rfl) ?_)
   refine zJ Z Z Z cr ?_
   cases F2
   · simp only [Bool.false_and] at hR
     refine rn6 ?_
     exact zO hR Z Z
   simp only [Bool.true_and] at hR
   repeat (first | refine zB (zE rfl) ?_ | refine zAL rfl rfl ?_ | refine zB (zAM rfl rfl) ?_ | refine zB (zAV rfl rfl rfl rfl) ?_ | refine zB (zA5 rfl rfl rfl rfl rfl rfl) ?_)
   refine zJ Z Z Z d3 ?_
   repeat (refine zAL rfl rfl ?_)
   refine zJ Z Z Z cs ?_
   refine rn6 ?_
   exact zO hR Z Z
 rw [if_neg k2] at hl2
 have hcl := zOp A C.length
 have hcd : ∀ c ∈ zHf A C.length, c.length = A.length ∧ ∀ q ∈ c, D 2000 q := fun c hc => by
   obtain ⟨l, hl, rfl⟩ := List.mem_map.1 hc
   refine ⟨zHh _ _, fun q hq => ?_⟩
   obtain ⟨a, ha, rfl⟩ := List.mem_map.1 hq
   exact (hD.w a ha).2 _ (zAt 0 (by rw [(hD.w a ha).1]; simpa using hl))
 have hbe : (zHf A C.length).map (fun c => zAr c y) = (List.range C.length).map (fun j => zAr (zDH A j) y) := by unfold zHf; rw [List.map_map]; rfl
 generalize zHf A C.length = cols at *
 refine zBH 10 ⟨122, qsC []⟩ Z Z ?_
 repeat (refine zb ?_)
 refine zt (ι := Nat) (fun j => [(2, .rp (.box [.ro (zq A) 0 A.length, .ro (qsC B) 0 B.length, .ro (qsC C) 0 C.length]) 0 0), (3, .rp (.box [.int .i64 (k : Nat), .ro (.strs X) 0 X.length, .ro (.strs Y) 0 Y.length, .ro (.strs R) 0 R.length, .str V]) 0 0), (5, .rp (.box [.ro (qsC x) 0 x.length]) 0 0), (6, .ro (qsC y) 0 y.length), (7, .ro (qsC r) 0 r.length), (8, .fn 172 []), (10, .sl 0 0 j), (47, .ro (zq cols) 0 C.length), (48, .int .i64 (C.length : Nat)), (49, .int .i64 (j : Nat))]) (fun j => [some ⟨122, qsC ((cols.take j).map (fun c => zAr c y))⟩])
   (fun j => j ≤ C.length) (fun j => C.length - j) 0 ⟨⟨rfl, rfl, rfl, rfl, rfl, rfl, rfl, rfl, rfl, rfl, trivial⟩, rfl, Nat.zero_le _⟩ ?_
 intro j hj
 refine rn4 ?_
 refine zF Z (fun h5 => ?_) (fun h5 => ?_)
 · have hj' : j < cols.length := by omega
   obtain ⟨cl, cd⟩ := hcd _ (zAt [] hj')
   obtain ⟨hdot, _⟩ := dot1 cd hD.y (by omega) hy40
   have htj := zB7 (fun c => zAr c y) cols [] j hj'
   have hmj : ((cols.take j).map (fun c => zAr c y)).length = j := by rw [List.length_map, List.length_take]; omega
   generalize hQ2 : (cols.take (j + 1)).map (fun c => zAr c y) = qs2 at *
   generalize (cols.take j).map (fun c => zAr c y) = qs at *
   generalize zAr (cols.getD j []) y = q at *
   repeat (first | refine zB (zL rfl) ?_ | refine zD ?_ | refine zA ?_ | refine zR ?_ | refine zG rfl ?_ | refine zb ?_ | refine zi ?_ | refine zB (zCo rfl rfl rfl rfl) ?_ | refine zB (zEc rfl rfl) ?_ | refine zB (zAN rfl rfl rfl rfl (by first | (simp only [Nat.zero_add, Int.toNat_natCast, Int.toNat_zero]; exact rfl) | exact rfl) (by omega)) ?_ | refine zB (zAV rfl rfl rfl rfl) ?_ | refine zB (zA5 rfl rfl rfl rfl rfl rfl) ?_)
   rw [decide_eq_true (show ¬ ((k : Nat) : Int) = 2 by omega)]
   refine rn5 ?_
   refine zJ Z Z Z hdot ?_
   unfold qA
   repeat (refine zh rfl rfl rfl rfl rfl rfl rfl rfl rfl rfl rfl ?_)
   refine zAS Z Z Z Z Z Z Z Z Z hmj Z Z (by show 0 + 1 ≤ 1; omega) Z (by show (j + 1) * 56 ≤ _ ∧ _; omega) ?_ (by rw [hfix]; exact fun h => h) ?_
   · intro i' j' hi hj
     exact zBg 0 3 z7 zBj qs q _ (zEF _) 0 i' j' hi hj
   repeat (first | refine zB (zL rfl) ?_ | refine zD ?_ | refine zc ?_)
   refine zA ?_
   refine zBe [some ⟨122, qsC qs2⟩] ?_ ?_
   · rw [htj]
     exact zn.eqv (zBx 0 3 z7 qs q _ (zEF _)) zn.nil
   refine rn3 ?_
   exact zQ ⟨j + 1, by omega, by omega, ⟨Z, Z, Z, Z, Z, Z, Z, Z, Z, Z, trivial⟩, by rw [hQ2]⟩
 have hje : j = cols.length := by omega
 subst hje
 rw [List.take_length]
 have hbl : (cols.map (fun c => zAr c y)).length = C.length := by rw [List.length_map]; exact hcl
 have hbz : ∀ q ∈ cols.map (fun c => zAr c y), Sz 100000 q := fun q hq => by
   obtain ⟨c, hc, rfl⟩ := List.mem_map.1 hq
   exact (dot1 (hcd c hc).2 hD.y (by rw [(hcd c hc).1]; omega) hy40).2
 generalize cols.map (fun c => zAr c y) = bel at *
 repeat (first | refine zA ?_ | refine zR ?_ | refine zAg ?_ | refine zw ?_ | refine zv ?_ | refine zAD ?_)
 refine zG Z ?_
 repeat (first | refine zD ?_ | refine zA ?_ | refine zR ?_ | refine zB (zCm rfl) ?_ | refine zAi rfl rfl rfl rfl rfl rfl rfl Nat.zero_lt_one ?_ | refine zAe rfl rfl rfl ?_)
 refine zAW [some ⟨122, qsC bel⟩, some ⟨259, (.box [.fn 175 [.rp (.box [.ro (zq A) 0 A.length, .ro (qsC B) 0 B.length, .ro (qsC C) 0 C.length]) 0 0]])⟩] Z ?_
 refine zKB [(2, .rp (.box [.ro (zq A) 0 A.length, .ro (qsC B) 0 B.length, .ro (qsC C) 0 C.length]) 0 0), (3, .rp (.box [.int .i64 (k : Nat), .ro (.strs X) 0 X.length, .ro (.strs Y) 0 Y.length, .ro (.strs R) 0 R.length, .str V]) 0 0), (5, .rp (.box [.ro (qsC x) 0 x.length]) 0 0), (6, .ro (qsC y) 0 y.length), (7, .ro (qsC r) 0 r.length), (8, .fn 172 []), (10, .ro (qsC bel) 0 cols.length), (13, .rp (.box [.fn 175 [.rp (.box [.ro (zq A) 0 A.length, .ro (qsC B) 0 B.length, .ro (qsC C) 0 C.length]) 0 0]]) 0 0)] (refl2 (zBm _) (zDe rfl)) ⟨⟨_, rfl, .inl rfl⟩, ⟨_, rfl, .inl rfl⟩, ⟨_, rfl, .inl rfl⟩, ⟨_, rfl, .inl rfl⟩, ⟨_, rfl, .inl rfl⟩, ⟨_, rfl, .inl rfl⟩, ⟨.sl 0 0 cols.length, rfl, .inr (.inr ⟨rfl, fun o ho => by simp at ho; subst ho; show 0 + cols.length ≤ bel.length; omega⟩)⟩, ⟨.ptr 1 0 0, rfl, .inr (.inr ⟨rfl, fun o ho => by simp at ho; subst ho; exact Nat.zero_lt_one⟩)⟩, trivial⟩ ⟨rfl, rfl, rfl, rfl, rfl, rfl, rfl, rfl, trivial⟩ rfl (by rw [hfix]; exact fun h hh => hh) ?_
 refine zAp 10 (.ro (qsC bel) 0 bel.length) Z (AEq.of_eq (by rw [hbl, hcl])) ?_
 have hk01 : k = 0 ∨ k = 1 := by omega
 rcases hk01 with rfl | rfl
 rotate_left
 · have n4 := zFq bel (by omega)
   obtain ⟨d3, d4⟩ := dot1 hD.b hD.y (by omega) hy40
   have hb0 : zLI ⟨A, B, C⟩ y = zCs bel := by
     rw [hbe]
     unfold zLI zCs
     rw [List.all_map]; rfl
   have hg := sgnQ_lt (zAr B y)
   have cs := zEb (zAr B y)
   rw [if_neg (by decide), if_pos rfl, hb0, show zAr (⟨A, B, C⟩ : Prog).B y = zAr B y from rfl, ← hg] at hR
   repeat (first | refine zB (zE rfl) ?_ | refine zB (zL rfl) ?_ | refine zD ?_ | refine zA ?_ | refine zR ?_ | refine zG rfl ?_ | refine zAn rfl ?_ | refine zr rfl ?_ | refine zb ?_ | refine zB (zCD rfl rfl) ?_ | refine zB (zAV rfl rfl rfl rfl) ?_ | refine zB (zCm rfl) ?_ | refine zB (zA5 rfl rfl rfl rfl rfl rfl) ?_)
   refine zJ Z Z Z n4 ?_
   cases h6 : zCs bel
   · rw [h6] at hR
     simp only [Bool.false_and] at hR
     refine rn6 ?_
     exact zO hR Z Z
   rw [h6] at hR
   simp only [Bool.true_and] at hR
   repeat (first | refine zB (zE rfl) ?_ | refine zAL rfl rfl ?_ | refine zB (zAV rfl rfl rfl rfl) ?_ | refine zB (zA5 rfl rfl rfl rfl rfl rfl) ?_)
   refine zJ Z Z Z d3 ?_
   repeat (refine zAL rfl rfl ?_)
   refine zJ Z Z Z cs ?_
   refine rn6 ?_
   exact zO hR Z Z
 rw [if_neg (by decide)] at hl1
 have hrv := hV.2 rfl
 have cpar := zHl V hV.1 hrv
 have hvD : D 2000 (zAT V) := zFj (r := [V]) (fun s hs => by rw [List.mem_singleton.1 hs]; exact hrv) (zAT V) (by simp)
 have d1 := fun i (hi : i < A.length) => dot1 (hrow i hi).2 hD.x (by rw [(hrow i hi).1]; omega) hx40
 have cf := zLi A B C x (by omega) hab (fun q hq => zGx ((hD.b q hq).mono (by decide))) (fun i hi => (d1 i hi).1) (fun i hi => (d1 i hi).2)
 have cl := zOT bel 178 [.rp (zF2 A B C) 0 0] (fun i => decide (C.getD i 0 ≤ bel.getD i 0)) rfl rfl (by omega) (fun i hi => plc_ok A B C i _ (by omega) (by omega) (hbz _ (zAt 0 hi)) (zGx ((hD.c _ (zAt 0 (by omega))).mono (by decide))))
 have hbb : zCf ⟨A, B, C⟩ y = (List.range bel.length).all (fun i => decide (C.getD i 0 ≤ bel.getD i 0)) := by
   unfold zCf
   rw [Bool.eq_iff_iff, List.all_eq_true, List.all_eq_true]
   have e : ∀ j, j < C.length → bel.getD j 0 = zAr (zDH A j) y := fun j hj => by
     rw [hbe, zEn _ _ 0 0 j (by rw [List.length_range]; exact hj), zDg 0 (by rw [List.length_range]; exact hj), List.getElem_range]
   constructor
   · intro h j hj
     have hj := List.mem_range.1 hj
     rw [e j (by omega)]
     exact h j (List.mem_range.2 (by show j < C.length; omega))
   · intro h j hj
     have hj : j < C.length := List.mem_range.1 hj
     have := h j (List.mem_range.2 (by omega))
     rw [e j hj] at this
     exact this
 obtain ⟨d3, d4⟩ := dot1 hD.c hD.x (by omega) hx40
 obtain ⟨d5, d6⟩ := dot1 hD.b hD.y (by omega) hy40
 have k1 := zI1 (zAr C x) (zAT V) d4 (zGx (hvD.mono (by decide)))
 have k2 := zI1 (zAr B y) (zAT V) d6 (zGx (hvD.mono (by decide)))
 rw [if_pos rfl, hfe, hbb, show zAr (⟨A, B, C⟩ : Prog).C x = zAr C x from rfl, show zAr (⟨A, B, C⟩ : Prog).B y = zAr B y from rfl, ← zOZ, ← zOZ] at hR
 have hz0 : A = [] → bel = List.replicate C.length 0 := fun h => by
   rw [hbe, h]
   refine List.ext_getElem (by rw [List.length_map, List.length_range, List.length_replicate]) (fun j h1 h2 => ?_)
   rw [List.getElem_map, List.getElem_replicate]
   rfl
 generalize (List.range A.length).all (fun i => decide (zAr (A.getD i []) x ≤ B.getD i 0)) = F1 at *
 generalize (List.range bel.length).all (fun i => decide (C.getD i 0 ≤ bel.getD i 0)) = F2 at *
 generalize zAr C x = dc at *
 generalize zAr B y = db at *
 generalize zAT V = v at *
 repeat (first | refine zB (zL rfl) ?_ | refine zD ?_ | refine zA ?_ | refine zR ?_ | refine zG rfl ?_ | refine zAn rfl ?_ | refine zb ?_ | refine zB (zCD rfl rfl) ?_ | refine zB (zAV rfl rfl rfl rfl) ?_ | refine zB (zCm rfl) ?_ | refine zB (zA5 rfl rfl rfl rfl rfl rfl) ?_)
 refine zJ Z Z Z cpar ?_
 unfold qA
 repeat (refine zAe rfl rfl rfl ?_)
 refine zU (c' := .box (z7 v)) Z Z Z Z Z Nat.zero_lt_one Z Z (fun i' j' hi' hj' => ?_) ?_
 · rw [if_pos (Nat.lt_one_iff.1 hi')]; rfl
 apply zAP (H := [some ⟨122, .box (z7 v)⟩]) [(2, .rp (.box [.ro (zq A) 0 A.length, .ro (qsC B) 0 B.length, .ro (qsC C) 0 C.length]) 0 0), (3, .rp (.box [.int .i64 (0 : Nat), .ro (.strs X) 0 X.length, .ro (.strs Y) 0 Y.length, .ro (.strs R) 0 R.length, .str V]) 0 0), (5, .rp (.box [.ro (qsC x) 0 x.length]) 0 0), (6, .ro (qsC y) 0 y.length), (7, .ro (qsC r) 0 r.length), (8, .fn 172 []), (13, .rp (.box [.fn 175 [.rp (.box [.ro (zq A) 0 A.length, .ro (qsC B) 0 B.length, .ro (qsC C) 0 C.length]) 0 0]]) 0 0), (14, .fn 176 [.rp (.box [.fn 175 [.rp (.box [.ro (zq A) 0 A.length, .ro (qsC B) 0 B.length, .ro (qsC C) 0 C.length]) 0 0]]) 0 0, .rp (.box [.ro (qsC x) 0 x.length]) 0 0, .rp (.box [.ro (zq A) 0 A.length, .ro (qsC B) 0 B.length, .ro (qsC C) 0 C.length]) 0 0]), (15, .ptr 0 0 0), (10, .ro (qsC bel) 0 bel.length)]
 · intro fin
   repeat (first | refine zD ?_ | refine zA ?_ | refine zR ?_ | refine zG rfl ?_ | refine zB (zCD rfl rfl) ?_ | refine zB (zAR rfl rfl rfl) ?_ | refine zB (zAV rfl rfl rfl rfl) ?_ | refine zB (zA5 rfl rfl rfl rfl rfl rfl) ?_)
   refine zF Z (fun hA => ?_) (fun hA => ?_)
   · have hA0 : A = [] := List.length_eq_zero_iff.1 (by omega)
     have hbel := hz0 hA0
     repeat (first | refine zB (zE rfl) ?_ | refine zB (zL rfl) ?_ | refine zD ?_ | refine zA ?_ | refine zR ?_ | refine zG rfl ?_ | refine zB (zAR rfl rfl rfl) ?_ | refine zB (zAV rfl rfl rfl rfl) ?_ | refine zB (zA5 rfl rfl rfl rfl rfl rfl) ?_)
     refine zBH 10 ⟨122, qsC []⟩ Z Z ?_
     repeat (refine zb ?_)
     refine zt (ι := Nat) (fun j => [(2, .rp (.box [.ro (zq A) 0 A.length, .ro (qsC B) 0 B.length, .ro (qsC C) 0 C.length]) 0 0), (3, .rp (.box [.int .i64 (0 : Nat), .ro (.strs X) 0 X.length, .ro (.strs Y) 0 Y.length, .ro (.strs R) 0 R.length, .str V]) 0 0), (5, .rp (.box [.ro (qsC x) 0 x.length]) 0 0), (6, .ro (qsC y) 0 y.length), (7, .ro (qsC r) 0 r.length), (8, .fn 172 []), (13, .rp (.box [.fn 175 [.rp (.box [.ro (zq A) 0 A.length, .ro (qsC B) 0 B.length, .ro (qsC C) 0 C.length]) 0 0]]) 0 0), (14, .fn 176 [.rp (.box [.fn 175 [.rp (.box [.ro (zq A) 0 A.length, .ro (qsC B) 0 B.length, .ro (qsC C) 0 C.length]) 0 0]]) 0 0, .rp (.box [.ro (qsC x) 0 x.length]) 0 0, .rp (.box [.ro (zq A) 0 A.length, .ro (qsC B) 0 B.length, .ro (qsC C) 0 C.length]) 0 0]), (15, .ptr 0 0 0), (10, .sl 1 0 j), (78, .int .i64 (C.length : Nat)), (79, .int .i64 (j : Nat))]) (fun j => [some ⟨122, .box (z7 v)⟩, some ⟨122, qsC (List.replicate j 0)⟩])
       (fun j => j ≤ C.length) (fun j => C.length - j) 0 ⟨⟨rfl, rfl, rfl, rfl, rfl, rfl, rfl, rfl, rfl, rfl, rfl, rfl, trivial⟩, rfl, Nat.zero_le _⟩ ?_
     intro j hj
     refine rn4 ?_
     refine zF Z (fun h6 => ?_) (fun h6 => ?_)
     · have hrl : (List.replicate j (0 : Rat)).length = j := List.length_replicate
       have hrs : List.replicate (j + 1) (0 : Rat) = List.replicate j 0 ++ [0] := List.replicate_succ'
       generalize hq2 : List.replicate (j + 1) (0 : Rat) = qs2 at *
       generalize List.replicate j (0 : Rat) = qs at *
       refine rn1 ?_
       refine zJ Z Z Z zIr ?_
       unfold qA
       repeat (refine zh rfl rfl rfl rfl rfl rfl rfl rfl rfl rfl rfl ?_)
       refine zAS Z Z Z Z Z Z Z Z Z hrl Z Z (by show 0 + 1 ≤ 1; omega) Z (by show (j + 1) * 56 ≤ _ ∧ _; omega) ?_ (by rw [hfix]; exact fun h => h) ?_
       · intro i' j' hi hj
         exact zBg 0 3 z7 zBj qs 0 _ (zEF _) 1 i' j' hi hj
       repeat (first | refine zB (zL rfl) ?_ | refine zD ?_ | refine zc ?_)
       refine zA ?_
       refine zBe [some ⟨122, .box (z7 v)⟩, some ⟨122, qsC qs2⟩] ?_ ?_
       · rw [hrs]
         exact zn.eqv (CEq.refl _) (zn.eqv (zBx 0 3 z7 qs 0 _ (zEF _)) zn.nil)
       refine rn3 ?_
       exact zQ ⟨j + 1, by omega, by omega, ⟨Z, Z, Z, Z, Z, Z, Z, Z, Z, Z, Z, Z, trivial⟩, by rw [hq2]⟩
     · have hje : j = C.length := by omega
       subst hje
       rw [← hbel]
       repeat (first | refine zAg ?_ | refine zw ?_ | refine zv ?_ | refine zAD ?_)
       refine zA ?_
       refine zBM 1 10 C.length [(2, .rp (.box [.ro (zq A) 0 A.length, .ro (qsC B) 0 B.length, .ro (qsC C) 0 C.length]) 0 0), (3, .rp (.box [.int .i64 (0 : Nat), .ro (.strs X) 0 X.length, .ro (.strs Y) 0 Y.length, .ro (.strs R) 0 R.length, .str V]) 0 0), (5, .rp (.box [.ro (qsC x) 0 x.length]) 0 0), (6, .ro (qsC y) 0 y.length), (7, .ro (qsC r) 0 r.length), (8, .fn 172 []), (13, .rp (.box [.fn 175 [.rp (.box [.ro (zq A) 0 A.length, .ro (qsC B) 0 B.length, .ro (qsC C) 0 C.length]) 0 0]]) 0 0), (14, .fn 176 [.rp (.box [.fn 175 [.rp (.box [.ro (zq A) 0 A.length, .ro (qsC B) 0 B.length, .ro (qsC C) 0 C.length]) 0 0]]) 0 0, .rp (.box [.ro (qsC x) 0 x.length]) 0 0, .rp (.box [.ro (zq A) 0 A.length, .ro (qsC B) 0 B.length, .ro (qsC C) 0 C.length]) 0 0]), (15, .ptr 0 0 0)] Z (zBm _) Z (by show C.length ≤ bel.length; omega) ⟨Z, Z, Z, Z, Z, Z, Z, Z, Z, trivial⟩ ?_
       refine zAp 10 (.ro (qsC bel) 0 bel.length) Z (AEq.of_eq (by rw [hbl])) ?_
       refine zBi [some ⟨122, .box (z7 v)⟩] [none] [(2, .rp (.box [.ro (zq A) 0 A.length, .ro (qsC B) 0 B.length, .ro (qsC C) 0 C.length]) 0 0), (3, .rp (.box [.int .i64 (0 : Nat), .ro (.strs X) 0 X.length, .ro (.strs Y) 0 Y.length, .ro (.strs R) 0 R.length, .str V]) 0 0), (5, .rp (.box [.ro (qsC x) 0 x.length]) 0 0), (6, .ro (qsC y) 0 y.length), (7, .ro (qsC r) 0 r.length), (8, .fn 172 []), (13, .rp (.box [.fn 175 [.rp (.box [.ro (zq A) 0 A.length, .ro (qsC B) 0 B.length, .ro (qsC C) 0 C.length]) 0 0]]) 0 0), (14, .fn 176 [.rp (.box [.fn 175 [.rp (.box [.ro (zq A) 0 A.length, .ro (qsC B) 0 B.length, .ro (qsC C) 0 C.length]) 0 0]]) 0 0, .rp (.box [.ro (qsC x) 0 x.length]) 0 0, .rp (.box [.ro (zq A) 0 A.length, .ro (qsC B) 0 B.length, .ro (qsC C) 0 C.length]) 0 0]), (15, .ptr 0 0 0), (10, .ro (qsC bel) 0 bel.length)] Z ⟨Z, Z, Z, Z, Z, Z, Z, Z, Z, Z, trivial⟩ (fun h hh => by rw [hfix] at hh; exact absurd hh id) (belowS1 (zM5 _ _)) Z ?_
       exact fin _ ⟨Z, Z, Z, Z, Z, Z, Z, Z, Z, Z, trivial⟩
   · repeat (refine zi ?_)
     refine zA ?_
     exact fin _ ⟨Z, Z, Z, Z, Z, Z, Z, Z, Z, Z, trivial⟩
 repeat (refine zR ?_)
 refine zx (by kernel_rfl) ?_
 cases F1
 · simp only [Bool.false_and] at hR
   refine z8 (fuel := 0) [0, 1, 2, 3, 4, 5, 6, 7, 8, 9, 10, 11, 12, 13, 14, 15, 16, 17, 18, 19, 20, 21, 22, 23, 24, 25] [(2, .rp (.box [.ro (zq A) 0 A.length, .ro (qsC B) 0 B.length, .ro (qsC C) 0 C.length]) 0 0), (3, .rp (.box [.int .i64 (0 : Nat), .ro (.strs X) 0 X.length, .ro (.strs Y) 0 Y.length, .ro (.strs R) 0 R.length, .str V]) 0 0), (5, .rp (.box [.ro (qsC x) 0 x.length]) 0 0), (6, .ro (qsC y) 0 y.length), (7, .ro (qsC r) 0 r.length), (8, .fn 172 []), (13, .rp (.box [.fn 175 [.rp (.box [.ro (zq A) 0 A.length, .ro (qsC B) 0 B.length, .ro (qsC C) 0 C.length]) 0 0]]) 0 0), (14, .fn 176 [.rp (.box [.fn 175 [.rp (.box [.ro (zq A) 0 A.length, .ro (qsC B) 0 B.length, .ro (qsC C) 0 C.length]) 0 0]]) 0 0, .rp (.box [.ro (qsC x) 0 x.length]) 0 0, .rp (.box [.ro (zq A) 0 A.length, .ro (qsC B) 0 B.length, .ro (qsC C) 0 C.length]) 0 0]), (15, .ptr 0 0 0), (10, .ro (qsC bel) 0 bel.length)] ⟨Z, Z, Z, Z, Z, Z, Z, Z, Z, Z, trivial⟩ (by kernel_rfl) (by decide) Z Z ?_
   refine zM Z Z (zE Z) ?_
   refine zAf Z Z Z Z Z cf ?_
   refine zM Z Z (zE Z) ?_
   refine zAE Z Z Z Z Z ?_
   refine zAE Z Z Z Z Z ?_
   refine zAE Z Z Z Z Z ?_
   refine zM Z Z (zAM Z Z) ?_
   refine zM Z Z (zE Z) ?_
   refine zAE Z Z Z Z Z ?_
   refine zAE Z Z Z Z Z ?_
   refine zAE Z Z Z Z Z ?_
   refine zAE Z Z Z Z Z ?_
   refine zAE Z Z Z Z Z ?_
   refine zAE Z Z Z Z Z ?_
   refine zAE Z Z Z Z Z ?_
   refine zM Z Z (zAM Z Z) ?_
   refine zM Z Z (zE Z) ?_
   refine zAE Z Z Z Z Z ?_
   refine zAE Z Z Z Z Z ?_
   refine zAE Z Z Z Z Z ?_
   refine zAE Z Z Z Z Z ?_
   refine zAE Z Z Z Z Z ?_
   refine zAE Z Z Z Z Z ?_
   refine zAE Z Z Z Z Z ?_
   refine zM Z Z (zAM Z Z) ?_
   refine zM Z Z (zL Z) ?_
   refine zAC ?_
   refine zf (by kernel_rfl) ?_
   refine rn6 ?_
   exact zO hR Z Z
 cases F2
 · simp only [Bool.true_and, Bool.false_and] at hR
   refine z8 (fuel := 0) [0, 1, 2, 3, 4, 5, 6, 7, 8, 9, 10, 11, 12, 13, 14, 15, 16, 17, 18, 19, 20, 21, 22, 23, 24, 25] [(2, .rp (.box [.ro (zq A) 0 A.length, .ro (qsC B) 0 B.length, .ro (qsC C) 0 C.length]) 0 0), (3, .rp (.box [.int .i64 (0 : Nat), .ro (.strs X) 0 X.length, .ro (.strs Y) 0 Y.length, .ro (.strs R) 0 R.length, .str V]) 0 0), (5, .rp (.box [.ro (qsC x) 0 x.length]) 0 0), (6, .ro (qsC y) 0 y.length), (7, .ro (qsC r) 0 r.length), (8, .fn 172 []), (13, .rp (.box [.fn 175 [.rp (.box [.ro (zq A) 0 A.length, .ro (qsC B) 0 B.length, .ro (qsC C) 0 C.length]) 0 0]]) 0 0), (14, .fn 176 [.rp (.box [.fn 175 [.rp (.box [.ro (zq A) 0 A.length, .ro (qsC B) 0 B.length, .ro (qsC C) 0 C.length]) 0 0]]) 0 0, .rp (.box [.ro (qsC x) 0 x.length]) 0 0, .rp (.box [.ro (zq A) 0 A.length, .ro (qsC B) 0 B.length, .ro (qsC C) 0 C.length]) 0 0]), (15, .ptr 0 0 0), (10, .ro (qsC bel) 0 bel.length)] ⟨Z, Z, Z, Z, Z, Z, Z, Z, Z, Z, trivial⟩ (by kernel_rfl) (by decide) Z Z ?_
   refine zM Z Z (zE Z) ?_
   refine zAf Z Z Z Z Z cf ?_
   refine zM Z Z (zE Z) ?_
   refine zAK Z Z Z Z (zE Z) ?_
   refine zAK Z Z Z Z (zCm Z) ?_
   refine zEq Z Z Z Z Z Z Z cl ?_
   refine zM Z Z (zAM Z Z) ?_
   refine zM Z Z (zE Z) ?_
   refine zAE Z Z Z Z Z ?_
   refine zAE Z Z Z Z Z ?_
   refine zAE Z Z Z Z Z ?_
   refine zAE Z Z Z Z Z ?_
   refine zAE Z Z Z Z Z ?_
   refine zAE Z Z Z Z Z ?_
   refine zAE Z Z Z Z Z ?_
   refine zM Z Z (zAM Z Z) ?_
   refine zM Z Z (zE Z) ?_
   refine zAE Z Z Z Z Z ?_
   refine zAE Z Z Z Z Z ?_
   refine zAE Z Z Z Z Z ?_
   refine zAE Z Z Z Z Z ?_
   refine zAE Z Z Z Z Z ?_
   refine zAE Z Z Z Z Z ?_
   refine zAE Z Z Z Z Z ?_
   refine zM Z Z (zAM Z Z) ?_
   refine zM Z Z (zL Z) ?_
   refine zAC ?_
   refine zf (by kernel_rfl) ?_
   refine rn6 ?_
   exact zO hR Z Z
 simp only [Bool.true_and] at hR
 by_cases g1 : cmpQ dc v = 0
 case neg =>
   rw [decide_eq_false g1] at hR
   simp only [Bool.false_and] at hR
   refine z8 (fuel := 0) [0, 1, 2, 3, 4, 5, 6, 7, 8, 9, 10, 11, 12, 13, 14, 15, 16, 17, 18, 19, 20, 21, 22, 23, 24, 25] [(2, .rp (.box [.ro (zq A) 0 A.length, .ro (qsC B) 0 B.length, .ro (qsC C) 0 C.length]) 0 0), (3, .rp (.box [.int .i64 (0 : Nat), .ro (.strs X) 0 X.length, .ro (.strs Y) 0 Y.length, .ro (.strs R) 0 R.length, .str V]) 0 0), (5, .rp (.box [.ro (qsC x) 0 x.length]) 0 0), (6, .ro (qsC y) 0 y.length), (7, .ro (qsC r) 0 r.length), (8, .fn 172 []), (13, .rp (.box [.fn 175 [.rp (.box [.ro (zq A) 0 A.length, .ro (qsC B) 0 B.length, .ro (qsC C) 0 C.length]) 0 0]]) 0 0), (14, .fn 176 [.rp (.box [.fn 175 [.rp (.box [.ro (zq A) 0 A.length, .ro (qsC B) 0 B.length, .ro (qsC C) 0 C.length]) 0 0]]) 0 0, .rp (.box [.ro (qsC x) 0 x.length]) 0 0, .rp (.box [.ro (zq A) 0 A.length, .ro (qsC B) 0 B.length, .ro (qsC C) 0 C.length]) 0 0]), (15, .ptr 0 0 0), (10, .ro (qsC bel) 0 bel.length)] ⟨Z, Z, Z, Z, Z, Z, Z, Z, Z, Z, trivial⟩ (by kernel_rfl) (by decide) Z Z ?_
   refine zM Z Z (zE Z) ?_
   refine zAf Z Z Z Z Z cf ?_
   refine zM Z Z (zE Z) ?_
   refine zAK Z Z Z Z (zE Z) ?_
   refine zAK Z Z Z Z (zCm Z) ?_
   refine zEq Z Z Z Z Z Z Z cl ?_
   refine zM Z Z (zAM Z Z) ?_
   refine zM Z Z (zE Z) ?_
   refine zAK Z Z Z Z (zA5 Z Z Z Z Z Z) ?_
   refine zAK Z Z Z Z (zAV Z Z Z Z) ?_
   refine zAK Z Z Z Z (zAV Z Z Z Z) ?_
   refine zEq Z Z Z Z Z Z Z d3 ?_
   refine zAK Z Z Z Z (zp Z Z Z Z Z Z Z (by first | exact Nat.zero_lt_one | assumption | omega)) ?_
   refine zEq Z Z Z Z Z Z Z k1 ?_
   refine zAK Z Z Z Z (zCD Z Z) ?_
   rw [decide_eq_false g1]
   refine zM Z Z (zAM Z Z) ?_
   refine zM Z Z (zE Z) ?_
   refine zAE Z Z Z Z Z ?_
   refine zAE Z Z Z Z Z ?_
   refine zAE Z Z Z Z Z ?_
   refine zAE Z Z Z Z Z ?_
   refine zAE Z Z Z Z Z ?_
   refine zAE Z Z Z Z Z ?_
   refine zAE Z Z Z Z Z ?_
   refine zM Z Z (zAM Z Z) ?_
   refine zM Z Z (zL Z) ?_
   refine zAC ?_
   refine zf (by kernel_rfl) ?_
   refine rn6 ?_
   exact zO hR Z Z
 rw [decide_eq_true g1] at hR
 simp only [Bool.true_and] at hR
 refine z8 (fuel := 0) [0, 1, 2, 3, 4, 5, 6, 7, 8, 9, 10, 11, 12, 13, 14, 15, 16, 17, 18, 19, 20, 21, 22, 23, 24, 25] [(2, .rp (.box [.ro (zq A) 0 A.length, .ro (qsC B) 0 B.length, .ro (qsC C) 0 C.length]) 0 0), (3, .rp (.box [.int .i64 (0 : Nat), .ro (.strs X) 0 X.length, .ro (.strs Y) 0 Y.length, .ro (.strs R) 0 R.length, .str V]) 0 0), (5, .rp (.box [.ro (qsC x) 0 x.length]) 0 0), (6, .ro (qsC y) 0 y.length), (7, .ro (qsC r) 0 r.length), (8, .fn 172 []), (13, .rp (.box [.fn 175 [.rp (.box [.ro (zq A) 0 A.length, .ro (qsC B) 0 B.length, .ro (qsC C) 0 C.length]) 0 0]]) 0 0), (14, .fn 176 [.rp (.box [.fn 175 [.rp (.box [.ro (zq A) 0 A.length, .ro (qsC B) 0 B.length, .ro (qsC C) 0 C.length]) 0 0]]) 0 0, .rp (.box [.ro (qsC x) 0 x.length]) 0 0, .rp (.box [.ro (zq A) 0 A.length, .ro (qsC B) 0 B.length, .ro (qsC C) 0 C.length]) 0 0]), (15, .ptr 0 0 0), (10, .ro (qsC bel) 0 bel.length)] ⟨Z, Z, Z, Z, Z, Z, Z, Z, Z, Z, trivial⟩ (by kernel_rfl) (by decide) Z Z ?_
 refine zM Z Z (zE Z) ?_
 refine zAf Z Z Z Z Z cf ?_
 refine zM Z Z (zE Z) ?_
 refine zAK Z Z Z Z (zE Z) ?_
 refine zAK Z Z Z Z (zCm Z) ?_
 refine zEq Z Z Z Z Z Z Z cl ?_
 refine zM Z Z (zAM Z Z) ?_
 refine zM Z Z (zE Z) ?_
 refine zAK Z Z Z Z (zA5 Z Z Z Z Z Z) ?_
 refine zAK Z Z Z Z (zAV Z Z Z Z) ?_
 refine zAK Z Z Z Z (zAV Z Z Z Z) ?_
 refine zEq Z Z Z Z Z Z Z d3 ?_
 refine zAK Z Z Z Z (zp Z Z Z Z Z Z Z (by first | exact Nat.zero_lt_one | assumption | omega)) ?_
 refine zEq Z Z Z Z Z Z Z k1 ?_
 refine zAK Z Z Z Z (zCD Z Z) ?_
 rw [decide_eq_true g1]
 refine zM Z Z (zAM Z Z) ?_
 refine zM Z Z (zE Z) ?_
 refine zAK Z Z Z Z (zA5 Z Z Z Z Z Z) ?_
 refine zAK Z Z Z Z (zAV Z Z Z Z) ?_
 refine zAK Z Z Z Z (zE Z) ?_
 refine zEq Z Z Z Z Z Z Z d5 ?_
 refine zAK Z Z Z Z (zp Z Z Z Z Z Z Z (by first | exact Nat.zero_lt_one | assumption | omega)) ?_
 refine zEq Z Z Z Z Z Z Z k2 ?_
 refine zAK Z Z Z Z (zCD Z Z) ?_
 refine zM Z Z (zAM Z Z) ?_
 refine zM Z Z (zL Z) ?_
 refine zAC ?_
 refine zf (by kernel_rfl) ?_
 refine rn6 ?_
 exact zO hR Z Z
structure ShortR (X Y R : List zAX) (V : zAX) : Prop where
 x : X.length ≤ 1000000 ∧ ∀ s ∈ X, s.length ≤ 9223372036854775807
 y : Y.length ≤ 1000000 ∧ ∀ s ∈ Y, s.length ≤ 9223372036854775807
 r : R.length ≤ 1000000 ∧ ∀ s ∈ R, s.length ≤ 9223372036854775807
 v : V.length ≤ 9223372036854775807
theorem form_ok (A : List (List zAX)) (B C : List zAX) (k : Nat) (X Y R : List zAX) (V : zAX) (hk : k < 3) (hB : B.length ≤ 1000000) (hC : C.length ≤ 1000000) (h : ShortR X Y R V) :
   zZ Tryz.prog 121 [.agg [.ro (zA3 A) 0 A.length, .ro (.strs B) 0 B.length, .ro (.strs C) 0 C.length], .agg [.int .i64 (k : Nat), .ro (.strs X) 0 X.length, .ro (.strs Y) 0 Y.length, .ro (.strs R) 0 R.length, .str V]] (.int .i64 (zG2 ⟨A, B, C⟩ k X Y R V)) := by
 have c1 := zH6 X (by have := h.x.1; omega) h.x.2
 have c2 := zH6 Y (by have := h.y.1; omega) h.y.2
 have c3 := zH6 R (by have := h.r.1; omega) h.r.2
 have c4 := zKL V h.v
 obtain ⟨⟨hX, _⟩, ⟨hY, _⟩, ⟨hRl, _⟩, hV⟩ := h
 refine zY.value0 (zK (P := Tryz.prog) (fn := Tryz.f121) Z Z (by kernel_rfl) Z (fun c hR hfix => ?_)) (fix := fun _ => False) (fun _ h => h) Z Z
 unfold zG2 at hR
 repeat (first | refine zB (zE rfl) ?_ | refine zB (zL rfl) ?_ | refine zD ?_ | refine zA ?_ | refine zR ?_ | refine zG rfl ?_ | refine zb ?_ | refine zB (zP rfl rfl rfl rfl rfl) ?_ | refine zB (zAY rfl rfl rfl rfl rfl rfl) ?_ | refine zB (zI rfl rfl rfl rfl rfl rfl) ?_ | refine zFo rfl rfl ?_)
 refine zAW [some ⟨85, .box [.ro (zA3 A) 0 A.length, .ro (.strs B) 0 B.length, .ro (.strs C) 0 C.length]⟩, some ⟨88, .box [.int .i64 (k : Nat), .ro (.strs X) 0 X.length, .ro (.strs Y) 0 Y.length, .ro (.strs R) 0 R.length, .str V]⟩] Z ?_
 refine zt (ι := Nat) (fun j => [(2, .ptr 0 0 0), (3, .ptr 1 0 0), (17, .agg [.ro (.strs X) 0 X.length, .ro (.strs Y) 0 Y.length, .ro (.strs R) 0 R.length]), (18, .int .i64 (j : Nat))]) (fun _ => [some ⟨85, .box [.ro (zA3 A) 0 A.length, .ro (.strs B) 0 B.length, .ro (.strs C) 0 C.length]⟩, some ⟨88, .box [.int .i64 (k : Nat), .ro (.strs X) 0 X.length, .ro (.strs Y) 0 Y.length, .ro (.strs R) 0 R.length, .str V]⟩])
   (fun j => j ≤ 3 ∧ (1 ≤ j → zCb X = 0) ∧ (2 ≤ j → zCb Y = 0) ∧ (3 ≤ j → zCb R = 0)) (fun j => 3 - j) 0 ⟨⟨rfl, rfl, rfl, rfl, trivial⟩, rfl, by decide, by omega, by omega, by omega⟩ ?_
 rintro j ⟨hj, hkX, hkY, hkR⟩
 refine rn4 ?_
 refine zF Z (fun h2 => ?_) (fun h2 => ?_)
 · have hj2 : j = 0 ∨ j = 1 ∨ j = 2 := by omega
   rcases hj2 with rfl | rfl | rfl
   · refine rn1 ?_
     refine zB (zGb Z Z Z Z Z Z Z ⟨by decide, by decide, (by show ((0 : Nat) : Int) < ((3 : Nat) : Int); decide)⟩) ?_
     refine rn0 ?_
     refine zJ Z Z Z c1 ?_
     refine rn3 ?_
     refine zF Z (fun h3 => ?_) (fun h3 => ?_)
     · rw [if_pos h3] at hR
       refine rn6 ?_
       exact zO hR Z Z
     refine rn5 ?_
     exact zQ ⟨1, ⟨by omega, fun _ => Classical.not_not.1 h3, fun q => absurd q (by decide), fun q => absurd q (by decide)⟩, by omega, ⟨Z, Z, Z, Z, trivial⟩, Z⟩
   · refine rn1 ?_
     refine zB (zGb Z Z Z Z Z Z Z ⟨by decide, by decide, (by show ((1 : Nat) : Int) < ((3 : Nat) : Int); decide)⟩) ?_
     refine rn0 ?_
     refine zJ Z Z Z c2 ?_
     refine rn3 ?_
     refine zF Z (fun h3 => ?_) (fun h3 => ?_)
     · rw [if_neg (fun q => q (hkX (by omega))), if_pos h3] at hR
       refine rn6 ?_
       exact zO hR Z Z
     refine rn5 ?_
     exact zQ ⟨2, ⟨by omega, fun _ => hkX (by omega), fun _ => Classical.not_not.1 h3, fun q => absurd q (by decide)⟩, by omega, ⟨Z, Z, Z, Z, trivial⟩, Z⟩
   · refine rn1 ?_
     refine zB (zGb Z Z Z Z Z Z Z ⟨by decide, by decide, (by show ((2 : Nat) : Int) < ((3 : Nat) : Int); decide)⟩) ?_
     refine rn0 ?_
     refine zJ Z Z Z c3 ?_
     refine rn3 ?_
     refine zF Z (fun h3 => ?_) (fun h3 => ?_)
     · rw [if_neg (fun q => q (hkX (by omega))), if_neg (fun q => q (hkY (by omega))), if_pos h3] at hR
       refine rn6 ?_
       exact zO hR Z Z
     refine rn5 ?_
     exact zQ ⟨3, ⟨by omega, fun _ => hkX (by omega), fun _ => hkY (by omega), fun _ => Classical.not_not.1 h3⟩, by omega, ⟨Z, Z, Z, Z, trivial⟩, Z⟩
 have hj3 : j = 3 := by omega
 subst hj3
 rw [if_neg (fun q => q (hkX (by decide))), if_neg (fun q => q (hkY (by decide))), if_neg (fun q => q (hkR (by decide)))] at hR
 refine rn5 ?_
 refine zx (by kernel_rfl) ?_
 refine z8 (fuel := 0) [0, 1, 2, 3, 4, 5, 6, 7] [(2, .ptr 0 0 0), (3, .ptr 1 0 0)] ⟨Z, Z, trivial⟩ (by kernel_rfl) (by decide) Z Z ?_
 refine zM Z Z (zI Z Z Z Z Z Z) ?_
 refine zM Z Z (zP Z Z Z Z Z) ?_
 refine zM Z Z (zAR Z Z Z) ?_
 refine zM Z Z (zI Z Z Z Z Z Z) ?_
 refine zM Z Z (zP Z Z Z Z Z) ?_
 refine zM Z Z (zAR Z Z Z) ?_
 refine zM Z Z (zL Z) ?_
 refine zM Z Z (zL Z) ?_
 refine zAC ?_
 refine zf (by kernel_rfl) ?_
 have hk3 : k = 0 ∨ k = 1 ∨ k = 2 := by omega
 rcases hk3 with rfl | rfl | rfl
 · repeat (first | refine zB (zE rfl) ?_ | refine zB (zL rfl) ?_ | refine zD ?_ | refine zA ?_ | refine zR ?_ | refine zG rfl ?_ | refine zAn rfl ?_ | refine zb ?_ | refine zB (zP rfl rfl rfl rfl rfl) ?_ | refine zB (zCD rfl rfl) ?_ | refine zB (zAY rfl rfl rfl rfl rfl rfl) ?_ | refine zB (zI rfl rfl rfl rfl rfl rfl) ?_ | refine zAe rfl rfl rfl ?_)
   refine zU (c' := .box [.int .i64 (C.length : Nat), .int .i64 (B.length : Nat), .int .i64 (0 : Nat)]) Z Z Z Z Z Nat.zero_lt_one Z Z (fun i' j' hi' hj' => ?_) ?_
   · rw [if_pos (Nat.lt_one_iff.1 hi')]; rfl
   repeat (first | refine zD ?_ | refine zA ?_ | refine zR ?_ | refine zG rfl ?_ | refine zc ?_ | refine zB (zP rfl rfl rfl rfl rfl) ?_ | refine zB (zAR rfl rfl rfl) ?_ | refine zB (zAY rfl rfl rfl rfl rfl rfl) ?_ | refine zB (zI rfl rfl rfl rfl rfl rfl) ?_ | refine zB (zp rfl rfl rfl rfl rfl rfl rfl (by first | exact Nat.zero_lt_one | assumption | omega)) ?_)
   by_cases hl : zIb ⟨A, B, C⟩ 0 X.length Y.length R.length
   · have hb : (decide (((C.length : Nat) : Int) = ((X.length : Nat) : Int)) && (decide (((B.length : Nat) : Int) = ((Y.length : Nat) : Int)) && (decide (((0 : Nat) : Int) = ((R.length : Nat) : Int)) && true))) = true := by
       obtain ⟨e1, e2, e3⟩ := id hl
       simp at e1 e2 e3
       simp [e1, e2, e3]
     refine zB (zFa (L := [.int .i64 (C.length : Nat), .int .i64 (B.length : Nat), .int .i64 (0 : Nat)]) (M := [.int .i64 (X.length : Nat), .int .i64 (Y.length : Nat), .int .i64 (R.length : Nat)]) (b := true) Z Z Z Z (by kernel_rfl) (by kernel_rfl) (Eq.trans (by kernel_rfl) (congrArg some hb))) ?_
     rw [if_pos hl] at hR
     rw [if_pos rfl] at hR
     refine rn5 ?_
     refine zJ Z Z Z c4 ?_
     refine rn2 ?_
     exact zO hR Z Z
   · have hb : (decide (((C.length : Nat) : Int) = ((X.length : Nat) : Int)) && (decide (((B.length : Nat) : Int) = ((Y.length : Nat) : Int)) && (decide (((0 : Nat) : Int) = ((R.length : Nat) : Int)) && true))) = false := by
       rw [← Bool.not_eq_true, Bool.and_true, Bool.and_eq_true, Bool.and_eq_true, decide_eq_true_eq, decide_eq_true_eq, decide_eq_true_eq]
       rintro ⟨e1, e2, e3⟩
       refine hl ⟨?_, ?_, ?_⟩
       · first | (rw [if_pos (by decide)]; exact (Int.ofNat_inj.1 e1).symm) | (rw [if_neg (by decide)]; exact (Int.ofNat_inj.1 e1).symm)
       · first | (rw [if_pos (by decide)]; exact (Int.ofNat_inj.1 e2).symm) | (rw [if_neg (by decide)]; exact (Int.ofNat_inj.1 e2).symm)
       · first | (rw [if_pos (by decide)]; exact (Int.ofNat_inj.1 e3).symm) | (rw [if_neg (by decide)]; exact (Int.ofNat_inj.1 e3).symm)
     refine zB (zFa (L := [.int .i64 (C.length : Nat), .int .i64 (B.length : Nat), .int .i64 (0 : Nat)]) (M := [.int .i64 (X.length : Nat), .int .i64 (Y.length : Nat), .int .i64 (R.length : Nat)]) (b := false) Z Z Z Z (by kernel_rfl) (by kernel_rfl) (Eq.trans (by kernel_rfl) (congrArg some hb))) ?_
     rw [if_neg hl] at hR
     refine rn5 ?_
     exact zO hR Z Z
 · repeat (first | refine zB (zE rfl) ?_ | refine zB (zL rfl) ?_ | refine zD ?_ | refine zA ?_ | refine zR ?_ | refine zG rfl ?_ | refine zAn rfl ?_ | refine zr rfl ?_ | refine zb ?_ | refine zB (zP rfl rfl rfl rfl rfl) ?_ | refine zB (zCD rfl rfl) ?_ | refine zB (zAY rfl rfl rfl rfl rfl rfl) ?_ | refine zB (zI rfl rfl rfl rfl rfl rfl) ?_ | refine zAe rfl rfl rfl ?_)
   refine zU (c' := .box [.int .i64 (0 : Nat), .int .i64 (B.length : Nat), .int .i64 (0 : Nat)]) Z Z Z Z Z Nat.zero_lt_one Z Z (fun i' j' hi' hj' => ?_) ?_
   · rw [if_pos (Nat.lt_one_iff.1 hi')]; rfl
   repeat (first | refine zD ?_ | refine zA ?_ | refine zR ?_ | refine zG rfl ?_ | refine zc ?_ | refine zB (zP rfl rfl rfl rfl rfl) ?_ | refine zB (zAR rfl rfl rfl) ?_ | refine zB (zAY rfl rfl rfl rfl rfl rfl) ?_ | refine zB (zI rfl rfl rfl rfl rfl rfl) ?_ | refine zB (zp rfl rfl rfl rfl rfl rfl rfl (by first | exact Nat.zero_lt_one | assumption | omega)) ?_)
   by_cases hl : zIb ⟨A, B, C⟩ 1 X.length Y.length R.length
   · have hb : (decide (((0 : Nat) : Int) = ((X.length : Nat) : Int)) && (decide (((B.length : Nat) : Int) = ((Y.length : Nat) : Int)) && (decide (((0 : Nat) : Int) = ((R.length : Nat) : Int)) && true))) = true := by
       obtain ⟨e1, e2, e3⟩ := id hl
       simp at e1 e2 e3
       simp [e1, e2, e3]
     refine zB (zFa (L := [.int .i64 (0 : Nat), .int .i64 (B.length : Nat), .int .i64 (0 : Nat)]) (M := [.int .i64 (X.length : Nat), .int .i64 (Y.length : Nat), .int .i64 (R.length : Nat)]) (b := true) Z Z Z Z (by kernel_rfl) (by kernel_rfl) (Eq.trans (by kernel_rfl) (congrArg some hb))) ?_
     rw [if_pos hl] at hR
     rw [if_neg (by decide)] at hR
     repeat (first | refine zD ?_ | refine zA ?_ | refine zR ?_ | refine zG rfl ?_ | refine zr rfl ?_ | refine zi ?_ | refine zB (zP rfl rfl rfl rfl rfl) ?_ | refine zB (zCD rfl rfl) ?_ | refine zB (zHb rfl rfl) ?_ | refine zB (zI rfl rfl rfl rfl rfl rfl) ?_)
     by_cases hv0 : V = []
     · rw [if_pos hv0] at hR
       subst hv0
       refine rn4 ?_
       exact zO hR Z Z
     · rw [if_neg hv0] at hR
       skip
       refine zF Z (fun h5 => ?_) (fun h5 => absurd (Classical.not_not.1 h5) hv0)
       refine rn2 ?_
       exact zO hR Z Z
   · have hb : (decide (((0 : Nat) : Int) = ((X.length : Nat) : Int)) && (decide (((B.length : Nat) : Int) = ((Y.length : Nat) : Int)) && (decide (((0 : Nat) : Int) = ((R.length : Nat) : Int)) && true))) = false := by
       rw [← Bool.not_eq_true, Bool.and_true, Bool.and_eq_true, Bool.and_eq_true, decide_eq_true_eq, decide_eq_true_eq, decide_eq_true_eq]
       rintro ⟨e1, e2, e3⟩
       refine hl ⟨?_, ?_, ?_⟩
       · first | (rw [if_pos (by decide)]; exact (Int.ofNat_inj.1 e1).symm) | (rw [if_neg (by decide)]; exact (Int.ofNat_inj.1 e1).symm)
       · first | (rw [if_pos (by decide)]; exact (Int.ofNat_inj.1 e2).symm) | (rw [if_neg (by decide)]; exact (Int.ofNat_inj.1 e2).symm)
       · first | (rw [if_pos (by decide)]; exact (Int.ofNat_inj.1 e3).symm) | (rw [if_neg (by decide)]; exact (Int.ofNat_inj.1 e3).symm)
     refine zB (zFa (L := [.int .i64 (0 : Nat), .int .i64 (B.length : Nat), .int .i64 (0 : Nat)]) (M := [.int .i64 (X.length : Nat), .int .i64 (Y.length : Nat), .int .i64 (R.length : Nat)]) (b := false) Z Z Z Z (by kernel_rfl) (by kernel_rfl) (Eq.trans (by kernel_rfl) (congrArg some hb))) ?_
     rw [if_neg hl] at hR
     refine rn5 ?_
     exact zO hR Z Z
 · repeat (first | refine zB (zE rfl) ?_ | refine zB (zL rfl) ?_ | refine zD ?_ | refine zA ?_ | refine zR ?_ | refine zG rfl ?_ | refine zAn rfl ?_ | refine zr rfl ?_ | refine zb ?_ | refine zB (zP rfl rfl rfl rfl rfl) ?_ | refine zB (zCD rfl rfl) ?_ | refine zB (zAY rfl rfl rfl rfl rfl rfl) ?_ | refine zB (zI rfl rfl rfl rfl rfl rfl) ?_ | refine zAe rfl rfl rfl ?_)
   refine zU (c' := .box [.int .i64 (C.length : Nat), .int .i64 (0 : Nat), .int .i64 (C.length : Nat)]) Z Z Z Z Z Nat.zero_lt_one Z Z (fun i' j' hi' hj' => ?_) ?_
   · rw [if_pos (Nat.lt_one_iff.1 hi')]; rfl
   repeat (first | refine zD ?_ | refine zA ?_ | refine zR ?_ | refine zG rfl ?_ | refine zc ?_ | refine zB (zP rfl rfl rfl rfl rfl) ?_ | refine zB (zAR rfl rfl rfl) ?_ | refine zB (zAY rfl rfl rfl rfl rfl rfl) ?_ | refine zB (zI rfl rfl rfl rfl rfl rfl) ?_ | refine zB (zp rfl rfl rfl rfl rfl rfl rfl (by first | exact Nat.zero_lt_one | assumption | omega)) ?_)
   by_cases hl : zIb ⟨A, B, C⟩ 2 X.length Y.length R.length
   · have hb : (decide (((C.length : Nat) : Int) = ((X.length : Nat) : Int)) && (decide (((0 : Nat) : Int) = ((Y.length : Nat) : Int)) && (decide (((C.length : Nat) : Int) = ((R.length : Nat) : Int)) && true))) = true := by
       obtain ⟨e1, e2, e3⟩ := id hl
       simp at e1 e2 e3
       simp [e1, e2, e3]
     refine zB (zFa (L := [.int .i64 (C.length : Nat), .int .i64 (0 : Nat), .int .i64 (C.length : Nat)]) (M := [.int .i64 (X.length : Nat), .int .i64 (Y.length : Nat), .int .i64 (R.length : Nat)]) (b := true) Z Z Z Z (by kernel_rfl) (by kernel_rfl) (Eq.trans (by kernel_rfl) (congrArg some hb))) ?_
     rw [if_pos hl] at hR
     rw [if_neg (by decide)] at hR
     repeat (first | refine zD ?_ | refine zA ?_ | refine zR ?_ | refine zG rfl ?_ | refine zr rfl ?_ | refine zi ?_ | refine zB (zP rfl rfl rfl rfl rfl) ?_ | refine zB (zCD rfl rfl) ?_ | refine zB (zHb rfl rfl) ?_ | refine zB (zI rfl rfl rfl rfl rfl rfl) ?_)
     by_cases hv0 : V = []
     · rw [if_pos hv0] at hR
       subst hv0
       refine rn4 ?_
       exact zO hR Z Z
     · rw [if_neg hv0] at hR
       skip
       refine zF Z (fun h5 => ?_) (fun h5 => absurd (Classical.not_not.1 h5) hv0)
       refine rn2 ?_
       exact zO hR Z Z
   · have hb : (decide (((C.length : Nat) : Int) = ((X.length : Nat) : Int)) && (decide (((0 : Nat) : Int) = ((Y.length : Nat) : Int)) && (decide (((C.length : Nat) : Int) = ((R.length : Nat) : Int)) && true))) = false := by
       rw [← Bool.not_eq_true, Bool.and_true, Bool.and_eq_true, Bool.and_eq_true, decide_eq_true_eq, decide_eq_true_eq, decide_eq_true_eq]
       rintro ⟨e1, e2, e3⟩
       refine hl ⟨?_, ?_, ?_⟩
       · first | (rw [if_pos (by decide)]; exact (Int.ofNat_inj.1 e1).symm) | (rw [if_neg (by decide)]; exact (Int.ofNat_inj.1 e1).symm)
       · first | (rw [if_pos (by decide)]; exact (Int.ofNat_inj.1 e2).symm) | (rw [if_neg (by decide)]; exact (Int.ofNat_inj.1 e2).symm)
       · first | (rw [if_pos (by decide)]; exact (Int.ofNat_inj.1 e3).symm) | (rw [if_neg (by decide)]; exact (Int.ofNat_inj.1 e3).symm)
     refine zB (zFa (L := [.int .i64 (C.length : Nat), .int .i64 (0 : Nat), .int .i64 (C.length : Nat)]) (M := [.int .i64 (X.length : Nat), .int .i64 (Y.length : Nat), .int .i64 (R.length : Nat)]) (b := false) Z Z Z Z (by kernel_rfl) (by kernel_rfl) (Eq.trans (by kernel_rfl) (congrArg some hb))) ?_
     rw [if_neg hl] at hR
     refine rn5 ?_
     exact zO hR Z Z
theorem zH4 (A : List (List zAX)) (B C : List zAX) (k : Nat) (X Y R : List zAX) (V : zAX) (hk : k < 3) (hP : ShortPr ⟨A, B, C⟩) (h : ShortR X Y R V) :
   zZ Tryz.prog 53 [.agg [.ro (zA3 A) 0 A.length, .ro (.strs B) 0 B.length, .ro (.strs C) 0 C.length], .agg [.int .i64 (k : Nat), .ro (.strs X) 0 X.length, .ro (.strs Y) 0 Y.length, .ro (.strs R) 0 R.length, .str V]] (.int .i64 (verK ⟨A, B, C⟩ k X Y R V)) := by
 have c1 := zFQ A B C hP
 refine zY.value0 (zK (P := Tryz.prog) (fn := Tryz.f53) Z Z (by kernel_rfl) Z (fun c hR hfix => ?_)) (fix := fun _ => False) (fun _ h => h) Z Z
 unfold verK at hR
 refine rn6 ?_
 refine zJ Z Z Z c1 ?_
 refine rn3 ?_
 refine zF Z (fun h1 => ?_) (fun h1 => ?_)
 · rw [if_pos h1] at hR
   refine rn2 ?_
   exact zO hR Z Z
 rw [if_neg h1] at hR
 have hC0 := Classical.not_not.1 h1
 have hI := zCq hC0
 obtain ⟨hn, hm⟩ := hI.le
 rw [zG7] at hn
 rw [zHG] at hm
 simp only at hn hm
 have c2 := form_ok A B C k X Y R V hk (by omega) (by omega) h
 refine rn6 ?_
 refine zJ Z Z Z c2 ?_
 refine rn3 ?_
 refine zF Z (fun h2 => ?_) (fun h2 => ?_)
 · rw [if_pos h2] at hR
   refine rn2 ?_
   exact zO hR Z Z
 rw [if_neg h2] at hR
 obtain ⟨z1, z2, z3, z4, z5, z6⟩ := zNj (Classical.not_not.1 h2)
 have aX := fun s hs => zCk (zBf z1).2 s hs
 have aY := fun s hs => zCk (zBf z2).2 s hs
 have aR := fun s hs => zCk (zBf z3).2 s hs
 have aB := fun s hs => zCk (zBf hI.b).2 s hs
 have aC := fun s hs => zCk (zBf hI.c).2 s hs
 have e1 : (inM A).length = A.length := List.length_map _
 have e2 : (B.map zAT).length = B.length := List.length_map _
 have e3 : (C.map zAT).length = C.length := List.length_map _
 have hm1 : A.length = B.length := hI.m.rows
 have c3 := sin_ok A B C (by omega) (fun r hr => ⟨by have h8 : r.length = C.length := hI.m.cols r hr; omega, fun s hs => ⟨(hP.r r hr).2 s hs, hI.m.ok r hr s hs⟩⟩) (by omega) (fun s hs => ⟨hP.bs s hs, aB s hs⟩) (by omega) (fun s hs => ⟨hP.cs s hs, aC s hs⟩)
 have hD : DotsOk (inM A) (B.map zAT) (C.map zAT) (X.map zAT) (Y.map zAT) (R.map zAT) := by
   refine ⟨by omega, by omega, by omega, fun r hr => ?_, zFj aB, zFj aC, zFj aX, zFj aY, zFj aR⟩
   obtain ⟨t, ht, rfl⟩ := List.mem_map.1 hr
   refine ⟨?_, zFj (fun s hs => hI.m.ok t ht s hs)⟩
   rw [List.length_map, e3]
   exact hI.m.cols t ht
 have c4 := zPr (inM A) (B.map zAT) (C.map zAT) k X Y R V hk hD (fun s hs => ⟨h.x.2 s hs, aX s hs⟩) (fun s hs => ⟨h.y.2 s hs, aY s hs⟩) (fun s hs => ⟨h.r.2 s hs, aR s hs⟩) ⟨h.v, z5⟩ (by rw [e2, e3]; exact z4)
 rw [e1, e2, e3] at c4
 unfold zL4 at c3
 refine rn1 ?_
 refine zx (by kernel_rfl) ?_
 refine z8 (fuel := 0) [0, 1, 2, 3, 4] [(2, .ptr 0 0 0), (3, .ptr 1 0 0)] ⟨Z, Z, trivial⟩ (by kernel_rfl) (by decide) Z Z ?_
 refine zM Z Z (zp Z Z Z Z Z Z Z (by first | exact Nat.zero_lt_one | assumption | omega)) ?_
 refine zAf Z Z Z Z Z c3 ?_
 refine zM Z Z (zp Z Z Z Z Z Z Z (by first | exact Nat.zero_lt_one | assumption | omega)) ?_
 refine zAf Z Z Z Z Z c4 ?_
 refine zM Z Z (zE2 Z) ?_
 refine zAC ?_
 refine zf (by kernel_rfl) ?_
 repeat (refine zA ?_)
 cases hv : zCu (Prob.prog ⟨A, B, C⟩) k (X.map zAT) (Y.map zAT) (R.map zAT) (zAT V) with
 | true =>
   rw [hv, if_pos rfl] at hR
   have hv' : zCu ⟨inM A, B.map zAT, C.map zAT⟩ k (X.map zAT) (Y.map zAT) (R.map zAT) (zAT V) = true := hv
   rw [hv']
   refine rn4 ?_
   exact zO hR Z Z
 | false =>
   rw [hv, if_neg (by decide)] at hR
   have hv' : zCu ⟨inM A, B.map zAT, C.map zAT⟩ k (X.map zAT) (Y.map zAT) (R.map zAT) (zAT V) = false := hv
   rw [hv']
   refine rn5 ?_
   exact zO hR Z Z
end Go.Proofs.YtnkealfaldjipaaGreatDoor
namespace Go.Ax.Rt
open Go.Ax.Bg Go.Ax.Dt
/-- The first k elements are new. -/
def chg {α : Type} (g : Nat → α) (d : α) (x : List α) (k : Nat) : List α := (List.range x.length).map (fun j => if j < k then g j else x.getD j d)
theorem zCd {α : Type} (g : Nat → α) (d : α) (x : List α) (k : Nat) : (chg g d x k).length = x.length := by simp [chg]
theorem zC5 {α : Type} (g : Nat → α) (d : α) (x : List α) : chg g d x 0 = x := by
 apply List.ext_getElem (zCd _ _ _ _)
 intro i h1 h2
 simp [chg, List.getD, h2]
theorem zCz {α : Type} (g : Nat → α) (d : α) (x : List α) {k i : Nat} (hi : i < x.length) : (chg g d x k).getD i d = if i < k then g i else x.getD i d := by
 unfold chg
 rw [zEn _ _ 0 _ _ (by simpa using hi)]
 simp [List.getD, hi]
theorem zDh {α : Type} (g : Nat → α) (d : α) (x : List α) {k : Nat} (hk : k < x.length) : (chg g d x k).set k (g k) = chg g d x (k + 1) := by
 apply List.ext_getElem (by simp [chg])
 intro i h1 h2
 have hi : i < x.length := by simpa [chg] using h2
 have e1 := zCz g d x (k := k + 1) hi
 rw [zDg d h2] at e1
 rw [e1, List.getElem_set]
 by_cases hik : k = i
 · subst hik; simp
 · have e2 := zCz g d x (k := k) hi
   rw [zDg d (by rw [zCd]; exact hi)] at e2
   rw [if_neg hik, e2]
   by_cases h3 : i < k
   · rw [if_pos h3, if_pos (by omega)]
   · rw [if_neg h3, if_neg (by omega)]
theorem zEM {α : Type} (g : Nat → α) (d : α) (x : List α) : chg g d x x.length = (List.range x.length).map g := by
 unfold chg
 refine List.map_congr_left (fun j hj => ?_)
 rw [if_pos (by simpa using hj)]
theorem chg_same {α : Type} (g : Nat → α) (d : α) (x : List α) {k : Nat} (hk : k < x.length) (h : g k = x.getD k d) : chg g d x (k + 1) = chg g d x k := by
 rw [← zDh g d x hk, h]
 apply List.ext_getElem (by simp [chg])
 intro i h1 h2
 rw [List.getElem_set]
 split
 · rename_i e; subst e
   have e2 := zCz g d x (k := k) hk
   rw [if_neg (Nat.lt_irrefl k)] at e2
   rw [← zDg d h2, e2]
 · rfl
/-- The rows that are new, one by one. -/
def zCL (T : Tab) (k c : Nat) (d : Int) (i : Nat) : List Int := if i = k then T.getD k [] else zEx (T.getD i []) (T.getD k []) (at2 T k c) (at2 T i c) d
theorem zJg (T : Tab) (k c : Nat) (d : Int) : zEB T k c d = chg (zCL T k c d) [] T T.length := by rw [zEM]; rfl
def rowG (R K : List Int) (p f d : Int) (j : Nat) : Int := zDd (R.getD j 0 * p - f * K.getD j 0) d
theorem row_chg (R K : List Int) (p f d : Int) : zEx R K p f d = chg (rowG R K p f d) 0 R R.length := by rw [zEM]; rfl
end Go.Ax.Rt
namespace Go.Ax.Tb
open Go.Ax.Bg (zDC)
end Go.Ax.Tb
namespace Go.Ax
variable [Pins]
section
variable {P : Program} {fn : Func} {c : Ctx} {fr : Fr} {H : zN} {k : List It}
theorem zJX {x : Code} (h : Nat) (o : AObj) {ob : AObj} (c' : Cells) (hh : H[h]? = some (some ob)) (ho : o.c.len = 0) (h1 : c'.len = ob.c.len) (h2 : c'.kd = ob.c.kd)
   (h3 : ∀ i j, i < ob.c.len → j < ob.c.sz → c'.at i j = ob.c.at i j ∨ (ob.c.at i j = .nil ∧ c'.at i j = .sl H.length 0 0)) (hk : Ax P fn c (.code x k) fr ((H ++ [some o]).set h (some ⟨ob.ty, c'⟩))) : Ax P fn c (.code x k) fr H := by
 intro w a σ S hr
 have g1 := hr.nowhere1 ho
 have hlt : h < H.length := (List.getElem?_eq_some_iff.1 hh).1
 have hh' : (H ++ [some o])[h]? = some (some ob) := by rw [List.getElem?_append_left hlt]; exact hh
 refine hk w a _ S (g1.recell hh' h1 h2 (fun i j v hi hj hv => ?_))
 rcases h3 i j hi hj with e | ⟨e1, e2⟩
 · rw [e]; exact hv
 · rw [e1] at hv
   rw [e2]
   cases hv
   exact .sl0 _ _ (by simp [upσ])
end
end Go.Ax
namespace Go.Ax
variable [Pins]
open Go.RowKit
section
variable {ind : Bool} {P : Program} {fn : Func} {c : Ctx} {fr : Fr} {H : zN} {k : List It}
variable {d : Option Nat} {ty : TypeId} {pos : String} {after : Array Edge} {g : Option (Nat × Bool)}
theorem zCI {x : Operand} {t : TypeId} {u : TypeDesc} {h i : Nat} {oty : TypeId} {kk : IntKind} {l : List Int} (ht : P.underlying t = some u) (hu : zBZ u = false) (hx : ev fr x = some (.ptr h i 0)) (hh : H[h]? = some (some ⟨oty, .ints kk l⟩)) (hi : i < l.length) :
   QOp false P fn c fr H ⟨d, .load t x, ty, pos, after, g⟩ (.int kk (l.getD i 0)) := zBz ht hu hx hh hi
theorem zAm {x : Operand} {t : TypeId} {u : TypeDesc} {h i j : Nat} {oty : TypeId} {n s : Nat} {f : Nat → Nat → AV} (ht : P.underlying t = some u) (hu : zBZ u = false) (hx : ev fr x = some (.ptr h i j)) (hh : H[h]? = some (some ⟨oty, .fn n s f⟩)) (hj : Nat.blt j s = true) (hi : i < n) :
   QOp false P fn c fr H ⟨d, .load t x, ty, pos, after, g⟩ (f i j) := zMD ht hu hx hh hj hi
end
end Go.Ax
namespace Go.Proofs.YtnkealfaldjipaaGreatDoor
open Go.Ax Go.Ax.Bg Go.Ax.Rt Go.RowKit Go.Ax.Dt Go.Ax.Sx
set_option maxRecDepth 100000
set_option maxHeartbeats 4000000
theorem zAB {a b : Nat} (h : a ≠ b) : Nat.beq a b = false := by
 cases h' : Nat.beq a b
 · rfl
 · exact absurd (Nat.eq_of_beq_eq_true h') h
theorem zA1 {h : Nat} {fr : Fr} : ∀ {L : Fr}, zBp fr L → (∀ p ∈ L, p.2.forget h = p.2) → zBp (zB5 h fr) L
 | [], _, _ => trivial
 | (t, v) :: r, hk, hp => by
   refine ⟨?_, zA1 hk.2 (fun p hp' => hp p (List.mem_cons_of_mem _ hp'))⟩
   have h1 := hk.1
   have hv : v.forget h = v := hp (t, v) (List.mem_cons_self ..)
   clear hk hp
   induction fr with
   | nil => cases h1
   | cons q s ih =>
     obtain ⟨u, x⟩ := q
     show Go.Ax.look t ((u, x.forget h) :: zB5 h s) = some v
     simp only [Go.Ax.look] at h1 ⊢
     cases hq : Nat.beq t u with
     | true => rw [hq] at h1; simp at h1; subst h1; rw [hv]; rfl
     | false => rw [hq] at h1; exact ih (by simpa using h1)
section
variable {P : Program} {fn : Func} {c : Ctx} {fr : Fr} {H : zN} {k : List It}
theorem zOH {x : Code} (L : Fr) (hL : zBp fr L) (hk : Ax P fn c (.code x k) L H) : Ax P fn c (.code x k) fr H := fun w a σ S hr => hk w a σ S (hr.weaken hL)
theorem zBl {q : Bool} {all : Array Oper} {rest : List Oper} (L : Fr) (hL : zBp fr L) (hk : Ax P fn c (.ops q all rest k) L H) : Ax P fn c (.ops q all rest k) fr H := by
 cases q with
 | true => exact fun hd w a σ S hr => hk hd w a σ S (hr.weaken hL)
 | false => exact fun hd w a σ S hr => hk hd w a σ S (hr.weaken hL)
end
abbrev zBs (l : List Nat) : Cells := .ints .i64 (l.map (fun a : Nat => (a : Int)))
theorem zIP (x : Int) : (sgn x = 0) = (x = 0) := by
 apply propext
 unfold sgn
 constructor
 · intro h; split at h
   · exact absurd h (by decide)
   · split at h
     · assumption
     · exact absurd h (by decide)
 · intro h; subst h; rfl
theorem zBO (h : Nat) (a : List Int) : (zC a).forget h = zC a := by
 show Cells.fn _ _ _ = Cells.fn _ _ _
 congr 1
 funext i j
 match j with
 | 0 => rfl
 | 1 => rfl
 | _ + 2 => rfl
theorem zLT (m : Nat) (x : Int) : zBo m (.box (zm x)) := by
 intro i j hi hj
 have hj' : j < 2 := hj
 match j, hj' with
 | 0, _ => rfl
 | 1, _ => rfl
theorem zKO (l : List Nat) (a : Nat) : CEq (.ints .i64 (l.map (fun a : Nat => (a : Int)) ++ [(a : Int)])) (zBs (l ++ [a])) := by
 show CEq _ (.ints .i64 ((l ++ [a]).map (fun a : Nat => (a : Int))))
 rw [List.map_append]
 exact CEq.refl _
theorem zC6 (l : List Int) (j : Nat) (v : Int) : ∀ i' j', i' < (zC l).len → j' < 2 → (zC (l.set j v)).at i' j' = if i' = j then (zm v).getD j' .any else (zC l).at i' j' := by
 intro i' j' hi' hj'
 show (zm ((l.set j v).getD i' 0)).getD j' .any = if i' = j then _ else (zm (l.getD i' 0)).getD j' .any
 rw [getD_set]
 have hl : i' < l.length := hi'
 by_cases h : i' = j
 · rw [if_pos ⟨h, by omega⟩, if_pos h]
 · rw [if_neg (fun q => h q.1), if_neg h]
theorem zMd {α : Type} (l : List α) (d : α) (i : Nat) (hi : i < l.length) : l.set i (l.getD i d) = l := by
 apply List.ext_getElem (by simp)
 intro a h1 h2
 rw [List.getElem_set]
 split
 · rename_i e; subst e; rw [zDg d hi]
 · rfl
theorem zJC {x p f y : Int} {E : Nat} (hx : x.natAbs ≤ 10 ^ E) (hp : p.natAbs ≤ 10 ^ E) (hf : f.natAbs ≤ 10 ^ E) (hy : y.natAbs ≤ 10 ^ E) (hE : E ≤ 3600000) :
   (zX (x * p).natAbs).length ≤ 1000000 ∧ (zX (f * y).natAbs).length ≤ 1000000 ∧ (zX (x * p - f * y).natAbs).length ≤ 1000000 := by
 have e1 : (x * p).natAbs ≤ 10 ^ (E + E) := by rw [Int.natAbs_mul, Nat.pow_add]; exact Nat.mul_le_mul hx hp
 have e2 : (f * y).natAbs ≤ 10 ^ (E + E) := by rw [Int.natAbs_mul, Nat.pow_add]; exact Nat.mul_le_mul hf hy
 have e3 : (x * p - f * y).natAbs ≤ 10 ^ (E + E + 1) := by
   refine Nat.le_trans (Int.natAbs_sub_le _ _) ?_
   rw [Nat.pow_succ]; omega
 exact ⟨zE1 e1 (by omega), zE1 e2 (by omega), zE1 e3 (by omega)⟩
abbrev zBb (b n L : Nat) : Cells := .fn n 1 (fun i _ => .sl (b + 4 + i) 0 L)
abbrev zDj (b k m w : Nat) (d : Int) : Cells := .box [.sl (b + 3) 0 k, .bool (decide (d < 0)), zj d.natAbs, .sl (b + 2) 0 m, .int .i64 (w : Nat)]
/-- The memory of a tableau: what was there, the table, what is behind it. -/
abbrev zd (G : zN) (F : Option AObj) (L w k : Nat) (X : Tab) (d : Int) (β : List Nat) (T : zN) : zN :=
 G ++ (some ⟨253, zDj G.length k β.length w d⟩ :: F :: some ⟨3, zBs β⟩ :: zAu ⟨248, zBb G.length X.length L⟩ 120 zC X T)
def OkG (G : zN) : Prop := ∀ m, G.length ≤ m → ∀ o : AObj, some o ∈ G → zBo m o.c
section
variable {G : zN} {F : Option AObj} {L w k : Nat} {X : Tab} {d : Int} {β : List Nat} {T : zN}
theorem zA7 : (zd G F L w k X d β T)[G.length]? = some (some ⟨253, zDj G.length k β.length w d⟩) := zDr (i := 0) rfl
theorem tb_fac : (zd G F L w k X d β T)[G.length + 1]? = some F := zDr (i := 1) rfl
theorem zFB : (zd G F L w k X d β T)[G.length + 2]? = some (some ⟨3, zBs β⟩) := zDr (i := 2) rfl
theorem zCc : (zd G F L w k X d β T)[G.length + 3]? = some (some ⟨248, zBb G.length X.length L⟩) := zDr (i := 3) rfl
theorem zCM {a : Nat} (ha : a < X.length) : (zd G F L w k X d β T)[G.length + 4 + a]? = some (some ⟨120, zC (X.getD a [])⟩) := by
 rw [show G.length + 4 + a = G.length + (3 + (a + 1)) by omega]
 refine (zDr (i := 3 + (a + 1)) Z).trans ?_
 rw [show 3 + (a + 1) = (a + 1) + 3 by omega]
 exact nest_row (O := ⟨248, zBb G.length X.length L⟩) (t := 120) (f := zC) (X := X) (L := T) [] ha
theorem zAk (j : Nat) : (zd G F L w k X d β T)[G.length + 4 + X.length + j]? = T[j]? := by
 rw [show G.length + 4 + X.length + j = G.length + ((X.length + 1 + j) + 3) by omega]
 refine (zDr (i := (X.length + 1 + j) + 3) Z).trans ?_
 exact nest_loc (O := ⟨248, zBb G.length X.length L⟩) (t := 120) (f := zC) (X := X) (L := T)
theorem zBC : (zd G F L w k X d β T).length = G.length + 4 + X.length + T.length := by
 unfold zd
 rw [List.length_append, List.length_cons, List.length_cons, List.length_cons, nest_len]; omega
theorem zAj (T' : zN) : zd G F L w k X d β T ++ T' = zd G F L w k X d β (T ++ T') := by
 unfold zd
 rw [List.append_assoc, List.cons_append, List.cons_append, List.cons_append, nest_app]
theorem zHL (k' w' : Nat) (d' : Int) : (zd G F L w k X d β T).set G.length (some ⟨253, zDj G.length k' β.length w' d'⟩) = zd G F L w' k' X d' β T := zB2 (i := 0) _ rfl
theorem zJR {β' : List Nat} (hb : β'.length = β.length) : (zd G F L w k X d β T).set (G.length + 2) (some ⟨3, zBs β'⟩) = zd G F L w k X d β' T := by
 refine (zB2 (i := 2) _ Z).trans ?_
 show G ++ (some ⟨_, zDj G.length k β.length w d⟩ :: F :: some ⟨_, zBs β'⟩ :: _) = _
 rw [← hb]
theorem zI7 {a : Nat} (ha : a < X.length) (x : List Int) : (zd G F L w k X d β T).set (G.length + 4 + a) (some ⟨120, zC x⟩) = zd G F L w k (X.set a x) d β T := by
 rw [show G.length + 4 + a = G.length + ((a + 1) + 3) by omega]
 refine (zB2 (i := (a + 1) + 3) _ Z).trans ?_
 have h := zLP (O := ⟨248, zBb G.length X.length L⟩) (t := 120) (f := zC) (X := X) (L := T) x ha
 show G ++ (_ :: F :: _ :: (zAu _ _ _ X T).set (a + 1) _) = _
 rw [h]
 unfold zd
 rw [List.length_set]
theorem zAQ (j : Nat) (x : Option AObj) : (zd G F L w k X d β T).set (G.length + 4 + X.length + j) x = zd G F L w k X d β (T.set j x) := by
 rw [show G.length + 4 + X.length + j = G.length + ((X.length + 1 + j) + 3) by omega]
 refine (zB2 (i := (X.length + 1 + j) + 3) _ Z).trans ?_
 show G ++ (_ :: F :: _ :: (zAu _ _ _ X T).set (X.length + 1 + j) _) = _
 rw [zK1]
theorem zCC (hG : OkG G) (m : Nat) (hm : G.length + 4 + X.length ≤ m) (hF : ∀ o : AObj, F = some o → zBo m o.c) (hT : ∀ o : AObj, some o ∈ T → zBo m o.c) : ∀ (h : Nat) (o : AObj), (zd G F L w k X d β T)[h]? = some (some o) → zBo m o.c := by
 intro h o ho
 have hmem := List.mem_of_getElem? ho
 unfold zd zAu at hmem
 rw [List.mem_append] at hmem
 rcases hmem with hmem | hmem
 · exact hG m (by omega) o hmem
 rw [List.mem_cons, List.mem_cons, List.mem_cons, List.mem_cons, List.mem_append] at hmem
 rcases hmem with e | e | e | e | hmem | hmem
 · cases e
   intro i j hi hj
   have hj' : j < 5 := hj
   match j, hj' with
   | 0, _ => exact Nat.ble_eq_true_of_le (show G.length + 3 + 1 ≤ m by omega)
   | 1, _ => rfl
   | 2, _ => rfl
   | 3, _ => exact Nat.ble_eq_true_of_le (show G.length + 2 + 1 ≤ m by omega)
   | 4, _ => rfl
 · exact hF o e.symm
 · cases e
   exact fun i j _ _ => rfl
 · cases e
   intro i j hi hj
   have hi' : i < X.length := hi
   exact Nat.ble_eq_true_of_le (show G.length + 4 + i + 1 ≤ m by omega)
 · obtain ⟨a, _, e⟩ := List.mem_map.1 hmem
   cases e
   intro i j hi hj
   have hj' : j < 2 := hj
   match j, hj' with
   | 0, _ => rfl
   | 1, _ => rfl
 · exact hT o hmem
theorem tabB_den (b k m w : Nat) (d v : Int) : ∀ i' j', i' < (zDj b k m w d).len → j' < (zDj b k m w d).sz → (zDj b k m w v).at i' j' = if i' = 0 ∧ 1 ≤ j' ∧ j' < 1 + 2 then (zm v).getD (j' - 1) .any else (zDj b k m w d).at i' j' := by
 intro i' j' hi' hj'
 obtain rfl := Nat.lt_one_iff.1 (show i' < 1 from hi')
 have hj2 : j' < 5 := hj'
 match j', hj2 with
 | 0, _ => rfl
 | 1, _ => rfl
 | 2, _ => rfl
 | 3, _ => rfl
 | 4, _ => rfl
end
end Go.Proofs.YtnkealfaldjipaaGreatDoor
namespace Go.Proofs.YtnkealfaldjipaaGreatDoor
open Go.Ax Go.Ax.Bg Go.Ax.Rt Go.RowKit Go.Ax.Dt Go.Ax.Sx
attribute [local irreducible] Ax zBR QOp zY zBK
set_option maxRecDepth 100000
set_option maxHeartbeats 4000000
theorem zFI (x : Int) : (sgn x < 0) = (x < 0) := by
 apply propext
 unfold sgn
 constructor
 · intro h
   split at h
   · assumption
   · split at h <;> omega
 · intro h
   rw [if_pos h]; decide
theorem zKp {α β : Type} (f : α → β) (l : List α) (d : α) : (List.range l.length).map (fun i => f (l.getD i d)) = l.map f := by
 apply List.ext_getElem (by simp)
 intro i h1 h2
 simp [List.getD, List.getElem?_eq_getElem (by simpa using h2 : i < l.length)]
theorem zMk (G : zN) (hG : OkG G) (L w n : Nat) (X : Tab) (d : Int) (β : List Nat) (r cc : Nat) (E : Nat) (hn : X.length = n) (hn40 : n ≤ 1000000) (hL : ∀ x ∈ X, x.length = L) (hL40 : L ≤ 1000000) (hr : r < β.length) (hβ : β.length ≤ n) (hc : cc < L) (hd : d ≠ 0)
   (hX : ∀ i j, i < n → j < L → (at2 X i j).natAbs ≤ 10 ^ E) (hdE : d.natAbs ≤ 10 ^ E) (hE : E ≤ 3600000) :
   zY Tryz.prog 211 [.ptr G.length 0 0, .int .i64 (r : Nat), .int .i64 (cc : Nat)] (zd G none L w n X d β []) (fun h => h < (zd G none L w n X d β []).length)
     (fun r' H' => r' = .tup [] ∧ H' = zd G none L w n (zEL X r cc d) (if at2 X r cc < 0 then -(at2 X r cc) else at2 X r cc) (β.set r cc) []) := by
 refine zK (P := Tryz.prog) (fn := Tryz.f211) Z Z (by kernel_rfl) Z (fun c hR hfix => ?_)
 have hrn : r < n := Nat.lt_of_lt_of_le hr hβ
 have hlen : (zd G none L w n X d β []).length = G.length + 4 + n := by rw [zBC, hn]; rfl
 rw [hlen] at hfix
 have f1 := zA7 (G := G) (F := none) (L := L) (w := w) (k := n) (X := X) (d := d) (β := β) (T := [])
 have f2 := zCc (G := G) (F := none) (L := L) (w := w) (k := n) (X := X) (d := d) (β := β) (T := [])
 have f3 := zCM (G := G) (F := none) (L := L) (w := w) (k := n) (X := X) (d := d) (β := β) (T := []) (a := r) (by rw [hn]; exact hrn)
 have lr : (X.getD r []).length = L := hL _ (zAt [] (by rw [hn]; exact hrn))
 have g1 : r < (zBb G.length X.length L).len := by show r < X.length; rw [hn]; exact hrn
 have g2 : cc < (zC (X.getD r [])).len := by show cc < (X.getD r []).length; rw [lr]; exact hc
 repeat (first | refine zB (zE rfl) ?_ | refine zR ?_ | refine zG rfl ?_ | refine zB (zT rfl) ?_ | refine zB (zI rfl rfl rfl rfl rfl rfl) ?_ | refine zB (zV rfl rfl rfl (by assumption) (by rfl) (by first | (simp only [Nat.zero_add, Int.toNat_natCast, Int.toNat_zero]; exact rfl) | exact rfl) (by omega)) ?_ | refine zB (zg rfl rfl rfl rfl (by assumption) (by rfl) (by rfl) (by first | exact Nat.zero_lt_one | assumption | omega)) ?_ | refine zB (zl rfl rfl rfl (by assumption) (by rfl)) ?_ | refine zB (zAm rfl rfl rfl (by assumption) rfl (by first | assumption | omega)) ?_ | refine zAe rfl rfl rfl ?_)
 refine zS (zd G none L w n X d β [some ⟨120, .box [.bool false, .nil]⟩]) (by rw [zAj]; rfl) ?_
 refine zH 6 (.ptr (G.length + 4 + n) 0 0) Z (AEq.of_eq (by rw [hlen])) ?_
 refine zH 23 (zA6 (at2 X r cc)) Z (AEq.of_eq Z) ?_
 have q0 := zAk (G := G) (F := none) (L := L) (w := w) (k := n) (X := X) (d := d) (β := β) (T := [some ⟨120, .box [.bool false, .nil]⟩]) 0
 rw [hn] at q0
 refine zU (c' := .box (zm (at2 X r cc))) Z Z Z q0 Z Nat.zero_lt_one Z Z (fun i' j' hi' hj' => ?_) ?_
 · rw [if_pos (Nat.lt_one_iff.1 hi')]; rfl
 refine zS (zd G none L w n X d β [some ⟨120, .box (zm (at2 X r cc))⟩]) (by have q := zAQ (G := G) (F := none) (L := L) (w := w) (k := n) (X := X) (d := d) (β := β) (T := [some ⟨120, .box [.bool false, .nil]⟩]) 0 (some ⟨120, .box (zm (at2 X r cc))⟩); rw [hn] at q; exact q) ?_
 clear f1 f2 f3 q0
 have f1 := zA7 (G := G) (F := none) (L := L) (w := w) (k := n) (X := X) (d := d) (β := β) (T := [some ⟨120, .box (zm (at2 X r cc))⟩])
 have hsz : ∀ x : Int, x.natAbs ≤ 10 ^ E → (zX x.natAbs).length ≤ 400001 := fun x hx => zE1 hx (by omega)
 have bp := hX r cc hrn hc
 repeat (first | refine zB (zE rfl) ?_ | refine zD ?_ | refine zA ?_ | refine zR ?_ | refine zG rfl ?_ | refine zb ?_ | refine zB (zAR rfl rfl rfl) ?_ | refine zB (zT rfl) ?_ | refine zB (zI rfl rfl rfl rfl rfl rfl) ?_ | refine zB (zl rfl rfl rfl (by assumption) (by rfl)) ?_)
 refine zt (ι := Nat) (fun a => [(0, .ptr G.length 0 0), (1, .int .i64 (r : Nat)), (2, .int .i64 (cc : Nat)), (6, .ptr (G.length + 4 + n) 0 0), (27, .sl (G.length + 3) 0 n), (28, .int .i64 (n : Nat)), (29, .int .i64 (a : Nat))]) (fun a => zd G none L w n (chg (zCL X r cc d) [] X a) d β [some ⟨120, .box (zm (at2 X r cc))⟩]) (fun a => a ≤ n) (fun a => n - a) 0 ⟨⟨Z, Z, Z, Z, Z, Z, Z, trivial⟩, by rw [zC5], Nat.zero_le _⟩ ?_
 clear f1
 intro a ha
 have hXl : (chg (zCL X r cc d) [] X a).length = n := by rw [zCd, hn]
 refine rn4 ?_
 refine zF Z (fun h7 => ?_) (fun h7 => ?_)
 · have ha' : a < n := by omega
   have eA : (chg (zCL X r cc d) [] X a).getD a [] = X.getD a [] := by rw [zCz _ _ _ (by omega), if_neg (Nat.lt_irrefl a)]
   have eK : (chg (zCL X r cc d) [] X a).getD r [] = X.getD r [] := by
     rw [zCz _ _ _ (by omega)]
     split
     · unfold zCL; rw [if_pos rfl]
     · rfl
   have lA : (X.getD a []).length = L := hL _ (zAt [] (by omega))
   have f2 := zCc (G := G) (F := none) (L := L) (w := w) (k := n) (X := (chg (zCL X r cc d) [] X a)) (d := d) (β := β) (T := [some ⟨120, .box (zm (at2 X r cc))⟩])
   have f3 := zCM (G := G) (F := none) (L := L) (w := w) (k := n) (X := (chg (zCL X r cc d) [] X a)) (d := d) (β := β) (T := [some ⟨120, .box (zm (at2 X r cc))⟩]) (a := a) (by omega)
   rw [eA] at f3
   have g3 : a < (zBb G.length (chg (zCL X r cc d) [] X a).length L).len := by show a < (chg (zCL X r cc d) [] X a).length; omega
   have g4 : cc < (zC (X.getD a [])).len := by show cc < (X.getD a []).length; omega
   repeat (first | refine zB (zE rfl) ?_ | refine zB (zL rfl) ?_ | refine zD ?_ | refine zA ?_ | refine zR ?_ | refine zG rfl ?_ | refine zb ?_ | refine zi ?_ | refine zB (zCD rfl rfl) ?_ | refine zB (zV rfl rfl rfl (by assumption) (by rfl) (by first | (simp only [Nat.zero_add, Int.toNat_natCast, Int.toNat_zero]; exact rfl) | exact rfl) (by omega)) ?_ | refine zB (zAm rfl rfl rfl (by assumption) rfl (by first | assumption | omega)) ?_)
   refine zF Z (fun h8 => ?_) (fun h8 => ?_)
   · have h8' : a = r := by omega
     refine rn5 ?_
     exact zQ ⟨a + 1, by omega, by omega, ⟨Z, Z, Z, Z, Z, Z, Z, trivial⟩, by rw [chg_same _ _ _ (by omega) (by rw [h8']; unfold zCL; rw [if_pos rfl])]⟩
   · have hne : ¬ a = r := by omega
     repeat (first | refine zB (zE rfl) ?_ | refine zA ?_ | refine zR ?_ | refine zG rfl ?_ | refine zi ?_ | refine zB (zV rfl rfl rfl (by assumption) (by rfl) (by first | (simp only [Nat.zero_add, Int.toNat_natCast, Int.toNat_zero]; exact rfl) | exact rfl) (by omega)) ?_ | refine zB (zg rfl rfl rfl rfl (by assumption) (by rfl) (by rfl) (by first | exact Nat.zero_lt_one | assumption | omega)) ?_ | refine zAe rfl rfl rfl ?_)
     have hl2 : (zd G none L w n (chg (zCL X r cc d) [] X a) d β [some ⟨120, .box (zm (at2 X r cc))⟩]).length = G.length + 5 + n := by rw [zBC, hXl]; show _ + 1 = _; omega
     refine zS (zd G none L w n (chg (zCL X r cc d) [] X a) d β [some ⟨120, .box (zm (at2 X r cc))⟩, some ⟨120, .box [.bool false, .nil]⟩]) (by rw [zAj]; rfl) ?_
     refine zH 9 (.ptr (G.length + 5 + n) 0 0) Z (AEq.of_eq (by rw [hl2])) ?_
     refine zH 40 (zA6 (at2 X a cc)) Z (AEq.of_eq Z) ?_
     have q1 := zAk (G := G) (F := none) (L := L) (w := w) (k := n) (X := (chg (zCL X r cc d) [] X a)) (d := d) (β := β) (T := [some ⟨120, .box (zm (at2 X r cc))⟩, some ⟨120, .box [.bool false, .nil]⟩]) 1
     rw [hXl, show G.length + 4 + n + 1 = G.length + 5 + n by omega] at q1
     refine zU (c' := .box (zm (at2 X a cc))) Z Z Z q1 Z Nat.zero_lt_one Z Z (fun i' j' hi' hj' => ?_) ?_
     · rw [if_pos (Nat.lt_one_iff.1 hi')]; rfl
     refine zS (zd G none L w n (chg (zCL X r cc d) [] X a) d β [some ⟨120, .box (zm (at2 X r cc))⟩, some ⟨120, .box (zm (at2 X a cc))⟩]) (by have q := zAQ (G := G) (F := none) (L := L) (w := w) (k := n) (X := (chg (zCL X r cc d) [] X a)) (d := d) (β := β) (T := [some ⟨120, .box (zm (at2 X r cc))⟩, some ⟨120, .box [.bool false, .nil]⟩]) 1 (some ⟨120, .box (zm (at2 X a cc))⟩); rw [hXl, show G.length + 4 + n + 1 = G.length + 5 + n by omega] at q; exact q) ?_
     clear f2 f3 q1
     refine rn3 ?_
     refine zt (ι := Nat) (fun j => [(0, .ptr G.length 0 0), (1, .int .i64 (r : Nat)), (2, .int .i64 (cc : Nat)), (6, .ptr (G.length + 4 + n) 0 0), (7, .int .i64 (a : Nat)), (8, .sl (G.length + 4 + a) 0 L), (9, .ptr (G.length + 5 + n) 0 0), (27, .sl (G.length + 3) 0 n), (28, .int .i64 (n : Nat)), (29, .int .i64 (a : Nat)), (42, .int .i64 (L : Nat)), (43, .int .i64 (j : Nat))]) (fun j => zd G none L w n ((chg (zCL X r cc d) [] X a).set a (chg (rowG (X.getD a []) (X.getD r []) (at2 X r cc) (at2 X a cc) d) 0 (X.getD a []) j)) d β [some ⟨120, .box (zm (at2 X r cc))⟩, some ⟨120, .box (zm (at2 X a cc))⟩]) (fun j => j ≤ L) (fun j => L - j) 0 ⟨⟨Z, Z, Z, Z, Z, Z, Z, Z, Z, Z, Z, Z, trivial⟩, by rw [zC5, ← eA, zMd (chg (zCL X r cc d) [] X a) [] _ (by omega)], Nat.zero_le _⟩ ?_
     intro j hj
     refine rn4 ?_
     refine zF Z (fun h9 => ?_) (fun h9 => ?_)
     · have hj' : j < L := by omega
       have hgj := zCz (rowG (X.getD a []) (X.getD r []) (at2 X r cc) (at2 X a cc) d) 0 (X.getD a []) (k := j) (i := j) (by omega)
       rw [if_neg (Nat.lt_irrefl j)] at hgj
       have hsj := zDh (rowG (X.getD a []) (X.getD r []) (at2 X r cc) (at2 X a cc) d) 0 (X.getD a []) (k := j) (by omega)
       have hlj := zCd (rowG (X.getD a []) (X.getD r []) (at2 X r cc) (at2 X a cc) d) 0 (X.getD a []) j
       have hgx : (rowG (X.getD a []) (X.getD r []) (at2 X r cc) (at2 X a cc) d) j = zDd ((X.getD a []).getD j 0 * at2 X r cc - at2 X a cc * (X.getD r []).getD j 0) d := rfl
       rw [← hgj] at hgx
       rw [hgx] at hsj
       have ex : ((chg (rowG (X.getD a []) (X.getD r []) (at2 X r cc) (at2 X a cc) d) 0 (X.getD a []) j).getD j 0).natAbs ≤ 10 ^ E := by rw [hgj]; exact hX a j ha' hj'
       clear hgj hgx
       generalize (chg (rowG (X.getD a []) (X.getD r []) (at2 X r cc) (at2 X a cc) d) 0 (X.getD a []) j) = row at *
       generalize hXA : (chg (zCL X r cc d) [] X a) = XA at *
       have hXl2 : (XA.set a row).length = n := by rw [List.length_set]; exact hXl
       have rA : (XA.set a row).getD a [] = row := by rw [getD_set, if_pos ⟨rfl, by omega⟩]
       have rK : (XA.set a row).getD r [] = X.getD r [] := by rw [getD_set, if_neg (fun q => hne q.1.symm), eK]
       have q4 := zCc (G := G) (F := none) (L := L) (w := w) (k := n) (X := (XA.set a row)) (d := d) (β := β) (T := [some ⟨120, .box (zm (at2 X r cc))⟩, some ⟨120, .box (zm (at2 X a cc))⟩])
       have q5 := zCM (G := G) (F := none) (L := L) (w := w) (k := n) (X := (XA.set a row)) (d := d) (β := β) (T := [some ⟨120, .box (zm (at2 X r cc))⟩, some ⟨120, .box (zm (at2 X a cc))⟩]) (a := a) (by omega)
       rw [rA] at q5
       have q6 := zCM (G := G) (F := none) (L := L) (w := w) (k := n) (X := (XA.set a row)) (d := d) (β := β) (T := [some ⟨120, .box (zm (at2 X r cc))⟩, some ⟨120, .box (zm (at2 X a cc))⟩]) (a := r) (by omega)
       rw [rK] at q6
       have q7 := zA7 (G := G) (F := none) (L := L) (w := w) (k := n) (X := (XA.set a row)) (d := d) (β := β) (T := [some ⟨120, .box (zm (at2 X r cc))⟩, some ⟨120, .box (zm (at2 X a cc))⟩])
       have q8 := zAk (G := G) (F := none) (L := L) (w := w) (k := n) (X := (XA.set a row)) (d := d) (β := β) (T := [some ⟨120, .box (zm (at2 X r cc))⟩, some ⟨120, .box (zm (at2 X a cc))⟩]) 0
       rw [hXl2, Nat.add_zero] at q8
       have q9 := zAk (G := G) (F := none) (L := L) (w := w) (k := n) (X := (XA.set a row)) (d := d) (β := β) (T := [some ⟨120, .box (zm (at2 X r cc))⟩, some ⟨120, .box (zm (at2 X a cc))⟩]) 1
       rw [hXl2, show G.length + 4 + n + 1 = G.length + 5 + n by omega] at q9
       have g5 : r < (zBb G.length (XA.set a row).length L).len := by show r < (XA.set a row).length; omega
       have g6 : j < (zC row).len := by show j < row.length; omega
       have g7 : j < (zC (X.getD r [])).len := by show j < (X.getD r []).length; omega
       have bK : ((X.getD r []).getD j 0).natAbs ≤ 10 ^ E := hX r j hrn hj'
       have bf : (at2 X a cc).natAbs ≤ 10 ^ E := hX a cc ha' hc
       obtain ⟨s1, s2, s3⟩ := zJC ex bp bf bK hE
       have m1 := zCx (row.getD j 0) (at2 X r cc) (by have := hsz _ ex; omega) (by have := hsz _ bp; omega)
       have m2 := zCx (at2 X a cc) ((X.getD r []).getD j 0) (by have := hsz _ bf; omega) (by have := hsz _ bK; omega)
       have m3 := zK9 (row.getD j 0 * at2 X r cc) (at2 X a cc * (X.getD r []).getD j 0) s1 s2
       have m4 := zOv (row.getD j 0 * at2 X r cc - at2 X a cc * (X.getD r []).getD j 0) d hd s3 (by have := hsz _ hdE; omega)
       refine rn1 ?_
       refine zx (by kernel_rfl) ?_
       refine z8 (fuel := 1) [0, 1, 2, 3, 4, 5, 6, 7, 8, 9, 10, 11, 12, 13, 14, 15, 16, 17, 18, 19, 20, 21, 22, 23, 24, 25, 26] [(0, .ptr G.length 0 0), (1, .int .i64 (r : Nat)), (2, .int .i64 (cc : Nat)), (6, .ptr (G.length + 4 + n) 0 0), (7, .int .i64 (a : Nat)), (8, .sl (G.length + 4 + a) 0 L), (9, .ptr (G.length + 5 + n) 0 0), (27, .sl (G.length + 3) 0 n), (28, .int .i64 (n : Nat)), (29, .int .i64 (a : Nat)), (42, .int .i64 (L : Nat)), (43, .int .i64 (j : Nat)), (10, .int .i64 (j : Nat))] ⟨Z, Z, Z, Z, Z, Z, Z, Z, Z, Z, Z, Z, Z, trivial⟩ (by kernel_rfl) (by decide) Z Z ?_
       refine zM Z Z (zE Z) ?_
       refine zM Z Z (zE Z) ?_
       refine zM Z Z (zE Z) ?_
       refine zM Z Z (zE Z) ?_
       refine zM Z Z (zV Z Z Z (by assumption) (by rfl) (by first | (simp only [Nat.zero_add, Int.toNat_natCast, Int.toNat_zero]; exact Z) | exact Z) (by omega)) ?_
       refine zM Z Z (zg Z Z Z Z (by assumption) (by rfl) (by rfl) (by first | exact Nat.zero_lt_one | assumption | omega)) ?_
       refine zM Z Z (zg Z Z Z Z (by assumption) (by rfl) (by rfl) (by first | exact Nat.zero_lt_one | assumption | omega)) ?_
       refine zAf Z Z Z Z Z m1 ?_
       refine zM Z Z (zg Z Z Z Z (by assumption) (by rfl) (by rfl) (by first | exact Nat.zero_lt_one | assumption | omega)) ?_
       refine zM Z Z (zE Z) ?_
       refine zM Z Z (zT Z) ?_
       refine zM Z Z (zI Z Z Z Z Z Z) ?_
       refine zM Z Z (zl Z Z Z (by assumption) (by rfl)) ?_
       refine zM Z Z (zE Z) ?_
       refine zM Z Z (zV Z Z Z (by assumption) (by rfl) (by first | (simp only [Nat.zero_add, Int.toNat_natCast, Int.toNat_zero]; exact Z) | exact Z) (by omega)) ?_
       refine zM Z Z (zAm Z Z Z (by assumption) Z (by first | assumption | omega)) ?_
       refine zM Z Z (zE Z) ?_
       refine zM Z Z (zV Z Z Z (by assumption) (by rfl) (by first | (simp only [Nat.zero_add, Int.toNat_natCast, Int.toNat_zero]; exact Z) | exact Z) (by omega)) ?_
       refine zM Z Z (zg Z Z Z Z (by assumption) (by rfl) (by rfl) (by first | exact Nat.zero_lt_one | assumption | omega)) ?_
       refine zAf Z Z Z Z Z m2 ?_
       refine zAf Z Z Z Z Z m3 ?_
       refine zM Z Z (zE Z) ?_
       refine zM Z Z (zT Z) ?_
       refine zM Z Z (zI Z Z Z Z Z Z) ?_
       refine zM Z Z (zCn Z Z Z Z (by assumption) (by rfl) (by rfl) (by first | exact Nat.zero_lt_one | assumption | omega)) ?_
       refine zAf Z Z Z Z Z m4 ?_
       refine zM Z Z (zV Z Z Z (by assumption) (by rfl) (by first | (simp only [Nat.zero_add, Int.toNat_natCast, Int.toNat_zero]; exact Z) | exact Z) (by omega)) ?_
       refine zAC ?_
       generalize zDd (row.getD j 0 * at2 X r cc - at2 X a cc * (X.getD r []).getD j 0) d = v at *
       refine zW (is := [27]) (by kernel_rfl) (by simp) Z ⟨fun o ho => ?_, trivial⟩
       all_goals (cases ho)
       refine zU (c' := zC (row.set j v)) Z Z Z q5 Z g6 (List.length_set ..) Z (zC6 row j v) ?_
       refine zS (zd G none L w n (XA.set a (row.set j v)) d β [some ⟨120, .box (zm (at2 X r cc))⟩, some ⟨120, .box (zm (at2 X a cc))⟩]) ((zI7 (by omega) _).trans (by rw [List.set_set])) ?_
       refine rn1 ?_
       refine zf (by kernel_rfl) ?_
       refine rn5 ?_
       exact zQ ⟨j + 1, by omega, by omega, ⟨Z, Z, Z, Z, Z, Z, Z, Z, Z, Z, Z, Z, trivial⟩, by rw [hsj]⟩
     · have hje : L = j := by omega
       subst hje
       have hall := row_chg (X.getD a []) (X.getD r []) (at2 X r cc) (at2 X a cc) d
       rw [lA] at hall
       have hel : zCL X r cc d a = zEx (X.getD a []) (X.getD r []) (at2 X r cc) (at2 X a cc) d := by unfold zCL; rw [if_neg hne]
       rw [← hall, ← hel, zDh _ _ _ (by omega)]
       have hXl3 : (chg (zCL X r cc d) [] X (a + 1)).length = n := by rw [zCd, hn]
       have hl3 : (zd G none L w n (chg (zCL X r cc d) [] X (a + 1)) d β [some ⟨120, .box (zm (at2 X r cc))⟩]).length = G.length + 5 + n := by rw [zBC, hXl3]; show _ + 1 = _; omega
       repeat (first | refine zc ?_ | refine zAg ?_ | refine zw ?_ | refine zv ?_ | refine zAD ?_)
       refine zA ?_
       refine zBi (zd G none L w n (chg (zCL X r cc d) [] X (a + 1)) d β [some ⟨120, .box (zm (at2 X r cc))⟩]) [some ⟨120, .box (zm (at2 X a cc))⟩] [(0, .ptr G.length 0 0), (1, .int .i64 (r : Nat)), (2, .int .i64 (cc : Nat)), (6, .ptr (G.length + 4 + n) 0 0), (27, .sl (G.length + 3) 0 n), (28, .int .i64 (n : Nat)), (29, .int .i64 (a : Nat))] (by rw [zAj]; rfl) ⟨Z, Z, Z, Z, Z, Z, Z, trivial⟩ (fun h hh => by rw [hfix] at hh; rw [hl3]; omega)
         (by rw [hl3]; exact zCC hG _ (by omega) (fun o ho => by cases ho) (fun o ho => by cases List.mem_singleton.1 ho; exact zLT _ _)) (by rw [hl3]; simp [zCa, zBt]; omega) ?_
       refine rn3 ?_
       exact zQ ⟨a + 1, by omega, by omega, ⟨Z, Z, Z, Z, Z, Z, Z, trivial⟩, Z⟩
 have hae : n = a := by omega
 subst hae
 rw [show chg (zCL X r cc d) [] X n = zEB X r cc d by rw [zJg, hn]]
 have hYL := zIT X r cc d (by omega) hL
 have hYl : (zEB X r cc d).length = n := by rw [zIF, hn]
 have eP : zEL X r cc d = if at2 X r cc < 0 then (zEB X r cc d).map (fun l => l.map (fun x => -x)) else zEB X r cc d := rfl
 have hEl : (zEL X r cc d).length = n := by rw [zJK, hn]
 clear ha hXl h7
 generalize zEB X r cc d = Y at *
 repeat (first | refine zA ?_ | refine zAg ?_ | refine zw ?_ | refine zv ?_ | refine zAD ?_)
 refine zR ?_
 apply zAP (H := zd G none L w n (zEL X r cc d) d β [some ⟨120, .box (zm (if at2 X r cc < 0 then -(at2 X r cc) else at2 X r cc))⟩]) [(0, .ptr G.length 0 0), (1, .int .i64 (r : Nat)), (2, .int .i64 (cc : Nat)), (6, .ptr (G.length + 4 + n) 0 0)]
 · intro fin
   have f1 := zA7 (G := G) (F := none) (L := L) (w := w) (k := n) (X := Y) (d := d) (β := β) (T := [some ⟨120, .box (zm (at2 X r cc))⟩])
   have q0 := zAk (G := G) (F := none) (L := L) (w := w) (k := n) (X := Y) (d := d) (β := β) (T := [some ⟨120, .box (zm (at2 X r cc))⟩]) 0
   rw [hYl, Nat.add_zero] at q0
   have cs := zD1 (at2 X r cc)
   repeat (first | refine zR ?_ | refine zG rfl ?_ | refine zB (zg rfl rfl rfl rfl (by assumption) (by rfl) (by rfl) (by first | exact Nat.zero_lt_one | assumption | omega)) ?_)
   refine zH 75 (zA6 (at2 X r cc)) Z (AEq.of_eq Z) ?_
   refine zJ Z Z Z cs ?_
   repeat (first | refine zD ?_ | refine zA ?_ | refine zB (zCg rfl rfl) ?_)
   refine zF Z (fun h1 => ?_) (fun h1 => ?_)
   · rw [zFI] at h1
     rw [if_pos h1] at eP
     rw [if_pos h1] at fin
     have co := zGu (at2 X r cc)
     repeat (first | refine zR ?_ | refine zG rfl ?_ | refine zB (zg rfl rfl rfl rfl (by assumption) (by rfl) (by rfl) (by first | exact Nat.zero_lt_one | assumption | omega)) ?_)
     refine zH 78 (zA6 (at2 X r cc)) Z (AEq.of_eq Z) ?_
     refine zJ Z Z Z co ?_
     skip
     refine zU (c' := .box (zm (-(at2 X r cc)))) Z Z Z q0 Z Nat.zero_lt_one Z Z (fun i' j' hi' hj' => ?_) ?_
     · rw [if_pos (Nat.lt_one_iff.1 hi')]; rfl
     refine zS (zd G none L w n Y d β [some ⟨120, .box (zm (-(at2 X r cc)))⟩]) (by have q := zAQ (G := G) (F := none) (L := L) (w := w) (k := n) (X := Y) (d := d) (β := β) (T := [some ⟨120, .box (zm (at2 X r cc))⟩]) 0 (some ⟨120, .box (zm (-(at2 X r cc)))⟩); rw [hYl, Nat.add_zero] at q; exact q) ?_
     clear f1 q0
     have f1 := zA7 (G := G) (F := none) (L := L) (w := w) (k := n) (X := Y) (d := d) (β := β) (T := [some ⟨120, .box (zm (-(at2 X r cc)))⟩])
     repeat (first | refine zB (zE rfl) ?_ | refine zD ?_ | refine zA ?_ | refine zR ?_ | refine zG rfl ?_ | refine zb ?_ | refine zB (zAR rfl rfl rfl) ?_ | refine zB (zT rfl) ?_ | refine zB (zI rfl rfl rfl rfl rfl rfl) ?_ | refine zB (zl rfl rfl rfl (by assumption) (by rfl)) ?_)
     refine zt (ι := Nat) (fun a => [(0, .ptr G.length 0 0), (1, .int .i64 (r : Nat)), (2, .int .i64 (cc : Nat)), (6, .ptr (G.length + 4 + n) 0 0), (83, .sl (G.length + 3) 0 n), (84, .int .i64 (n : Nat)), (85, .int .i64 (a : Nat))]) (fun a => zd G none L w n (chg (fun i => (Y.getD i []).map (fun x => -x)) [] Y a) d β [some ⟨120, .box (zm (-(at2 X r cc)))⟩]) (fun a => a ≤ n) (fun a => n - a) 0 ⟨⟨Z, Z, Z, Z, Z, Z, Z, trivial⟩, by rw [zC5], Nat.zero_le _⟩ ?_
     clear f1
     intro a ha
     have hXl : (chg (fun i => (Y.getD i []).map (fun x => -x)) [] Y a).length = n := by rw [zCd, hYl]
     refine rn4 ?_
     refine zF Z (fun h7 => ?_) (fun h7 => ?_)
     · have ha' : a < n := by omega
       have eA : (chg (fun i => (Y.getD i []).map (fun x => -x)) [] Y a).getD a [] = Y.getD a [] := by rw [zCz _ _ _ (by omega), if_neg (Nat.lt_irrefl a)]
       have lA : (Y.getD a []).length = L := hYL _ (zAt [] (by omega))
       have hst := zDh (fun i => (Y.getD i []).map (fun x => -x)) [] Y (k := a) (by omega)
       have f2 := zCc (G := G) (F := none) (L := L) (w := w) (k := n) (X := (chg (fun i => (Y.getD i []).map (fun x => -x)) [] Y a)) (d := d) (β := β) (T := [some ⟨120, .box (zm (-(at2 X r cc)))⟩])
       have g3 : a < (zBb G.length (chg (fun i => (Y.getD i []).map (fun x => -x)) [] Y a).length L).len := by show a < (chg (fun i => (Y.getD i []).map (fun x => -x)) [] Y a).length; omega
       repeat (first | refine zB (zE rfl) ?_ | refine zB (zL rfl) ?_ | refine zD ?_ | refine zA ?_ | refine zR ?_ | refine zG rfl ?_ | refine zb ?_ | refine zi ?_ | refine zB (zAR rfl rfl rfl) ?_ | refine zB (zV rfl rfl rfl (by assumption) (by rfl) (by first | (simp only [Nat.zero_add, Int.toNat_natCast, Int.toNat_zero]; exact rfl) | exact rfl) (by omega)) ?_ | refine zB (zAm rfl rfl rfl (by assumption) rfl (by first | assumption | omega)) ?_)
       generalize hZA : (chg (fun i => (Y.getD i []).map (fun x => -x)) [] Y a) = ZA at *
       generalize hy : Y.getD a [] = y at *
       refine zt (ι := Nat) (fun j => [(0, .ptr G.length 0 0), (1, .int .i64 (r : Nat)), (2, .int .i64 (cc : Nat)), (6, .ptr (G.length + 4 + n) 0 0), (12, .sl (G.length + 4 + a) 0 L), (83, .sl (G.length + 3) 0 n), (84, .int .i64 (n : Nat)), (85, .int .i64 (a : Nat)), (90, .int .i64 (L : Nat)), (91, .int .i64 (j : Nat))]) (fun j => zd G none L w n (ZA.set a (chg (fun j => -(y.getD j 0)) 0 y j)) d β [some ⟨120, .box (zm (-(at2 X r cc)))⟩]) (fun j => j ≤ L) (fun j => L - j) 0 ⟨⟨Z, Z, Z, Z, Z, Z, Z, Z, Z, Z, trivial⟩, by rw [zC5, ← eA, zMd ZA [] _ (by omega)], Nat.zero_le _⟩ ?_
       intro j hj
       refine rn4 ?_
       refine zF Z (fun h9 => ?_) (fun h9 => ?_)
       · have hj' : j < L := by omega
         have hgj := zCz (fun j => -(y.getD j 0)) 0 y (k := j) (i := j) (by omega)
         rw [if_neg (Nat.lt_irrefl j)] at hgj
         have hsj := zDh (fun j => -(y.getD j 0)) 0 y (k := j) (by omega)
         have hlj := zCd (fun j => -(y.getD j 0)) 0 y j
         rw [← hgj] at hsj
         generalize (chg (fun j => -(y.getD j 0)) 0 y j) = row at *
         have hXl2 : (ZA.set a row).length = n := by rw [List.length_set]; exact hXl
         have rA : (ZA.set a row).getD a [] = row := by rw [getD_set, if_pos ⟨rfl, by omega⟩]
         have q5 := zCM (G := G) (F := none) (L := L) (w := w) (k := n) (X := (ZA.set a row)) (d := d) (β := β) (T := [some ⟨120, .box (zm (-(at2 X r cc)))⟩]) (a := a) (by omega)
         rw [rA] at q5
         have g6 : j < (zC row).len := by show j < row.length; omega
         have co := zGu (row.getD j 0)
         repeat (first | refine zB (zE rfl) ?_ | refine zB (zL rfl) ?_ | refine zD ?_ | refine zA ?_ | refine zR ?_ | refine zG rfl ?_ | refine zb ?_ | refine zi ?_ | refine zB (zV rfl rfl rfl (by assumption) (by rfl) (by first | (simp only [Nat.zero_add, Int.toNat_natCast, Int.toNat_zero]; exact rfl) | exact rfl) (by omega)) ?_ | refine zB (zg rfl rfl rfl rfl (by assumption) (by rfl) (by rfl) (by first | exact Nat.zero_lt_one | assumption | omega)) ?_)
         refine zH 99 (zA6 (row.getD j 0)) Z (AEq.of_eq Z) ?_
         refine zJ Z Z Z co ?_
         repeat (refine zB (zV rfl rfl rfl (by assumption) (by rfl) (by first | (simp only [Nat.zero_add, Int.toNat_natCast, Int.toNat_zero]; exact rfl) | exact rfl) (by omega)) ?_)
         refine zU (c' := zC (row.set j (-(row.getD j 0)))) Z Z Z q5 Z g6 (List.length_set ..) Z (zC6 row j _) ?_
         refine zS (zd G none L w n (ZA.set a (row.set j (-(row.getD j 0)))) d β [some ⟨120, .box (zm (-(at2 X r cc)))⟩]) ((zI7 (by omega) _).trans (by rw [List.set_set])) ?_
         refine rn5 ?_
         exact zQ ⟨j + 1, by omega, by omega, ⟨Z, Z, Z, Z, Z, Z, Z, Z, Z, Z, trivial⟩, by rw [hsj]⟩
       · have hje : L = j := by omega
         subst hje
         have hall : chg (fun j => -(y.getD j 0)) 0 y L = y.map (fun x => -x) := by rw [← lA, zEM, zKp (fun x => -x) y 0]
         rw [hall, hst]
         refine rn5 ?_
         exact zQ ⟨a + 1, by omega, by omega, ⟨Z, Z, Z, Z, Z, Z, Z, trivial⟩, Z⟩
     · have hae : a = n := by omega
       have hall : (chg (fun i => (Y.getD i []).map (fun x => -x)) [] Y a) = zEL X r cc d := by rw [hae, ← hYl, zEM, zKp (fun l : List Int => l.map (fun x => -x)) Y [], eP]
       rw [hall]
       repeat (first | refine zA ?_ | refine zAg ?_ | refine zw ?_ | refine zv ?_ | refine zAD ?_)
       exact fin _ ⟨Z, Z, Z, Z, trivial⟩
   · rw [zFI] at h1
     rw [if_neg h1] at eP
     rw [if_neg h1, eP] at fin
     repeat (first | refine zA ?_ | refine zi ?_)
     exact fin _ ⟨Z, Z, Z, Z, trivial⟩
 clear eP hYl hYL
 clear Y
 generalize hPV : (if at2 X r cc < 0 then -(at2 X r cc) else at2 X r cc) = PV at *
 have f1 := zA7 (G := G) (F := none) (L := L) (w := w) (k := n) (X := (zEL X r cc d)) (d := d) (β := β) (T := [some ⟨120, .box (zm PV)⟩])
 have q0 := zAk (G := G) (F := none) (L := L) (w := w) (k := n) (X := (zEL X r cc d)) (d := d) (β := β) (T := [some ⟨120, .box (zm PV)⟩]) 0
 rw [hEl, Nat.add_zero] at q0
 repeat (first | refine zB (zE rfl) ?_ | refine zR ?_ | refine zG rfl ?_ | refine zB (zT rfl) ?_ | refine zB (zI rfl rfl rfl rfl rfl rfl) ?_ | refine zB (zg rfl rfl rfl rfl (by assumption) (by rfl) (by rfl) (by first | exact Nat.zero_lt_one | assumption | omega)) ?_)
 refine zH 105 (zA6 PV) Z (AEq.of_eq Z) ?_
 refine zK0 (s := 2) (c' := zDj G.length n β.length w PV) Z Z Z f1 Z (show 1 + 2 ≤ 5 from by decide) Nat.zero_lt_one Z Z (tabB_den _ _ _ _ _ _) ?_
 refine zS (zd G none L w n (zEL X r cc d) PV β [some ⟨120, .box (zm PV)⟩]) (zHL n w PV) ?_
 repeat (first | refine zD ?_ | refine zA ?_)
 have hle : (zd G none L w n (zEL X r cc d) PV β []).length = G.length + 4 + n := by rw [zBC, hEl]; rfl
 refine zBi (zd G none L w n (zEL X r cc d) PV β []) [some ⟨120, .box (zm PV)⟩] [(0, .ptr G.length 0 0), (1, .int .i64 (r : Nat)), (2, .int .i64 (cc : Nat))] (by rw [zAj]; rfl) ⟨Z, Z, Z, trivial⟩ (fun h hh => by rw [hfix] at hh; rw [hle]; exact hh)
   (by rw [hle]; exact zCC hG _ (by omega) (fun o ho => by cases ho) (fun o ho => by cases ho)) (by rw [hle]; simp [zCa, zBt]; omega) ?_
 clear f1 q0
 have f1 := zA7 (G := G) (F := none) (L := L) (w := w) (k := n) (X := zEL X r cc d) (d := PV) (β := β) (T := [])
 have f2 := zFB (G := G) (F := none) (L := L) (w := w) (k := n) (X := zEL X r cc d) (d := PV) (β := β) (T := [])
 repeat (first | refine zB (zE rfl) ?_ | refine zG rfl ?_ | refine zB (zT rfl) ?_ | refine zB (zI rfl rfl rfl rfl rfl rfl) ?_ | refine zB (zV rfl rfl rfl (by assumption) (by rfl) (by first | (simp only [Nat.zero_add, Int.toNat_natCast, Int.toNat_zero]; exact rfl) | exact rfl) (by omega)) ?_ | refine zB (zl rfl rfl rfl (by assumption) (by rfl)) ?_)
 refine zAi Z Z Z Z f2 Z Z (by show r < (β.map _).length; rw [List.length_map]; exact hr) ?_
 refine zS (zd G none L w n (zEL X r cc d) PV (β.set r cc) []) (by
   rw [← zJR (β := β) (List.length_set ..)]
   show _ = List.set _ _ (some (⟨3, .ints .i64 ((β.set r cc).map (fun a : Nat => (a : Int)))⟩ : AObj))
   rw [List.map_set]) ?_
 repeat (refine zD ?_)
 exact ax_end hR Z ⟨Z, Z⟩
end Go.Proofs.YtnkealfaldjipaaGreatDoor
namespace Go.Ax.Sx
open Go.Ax.Dt Go.Ax.Rt Go.Ax.Bg
def optZ : Option Nat → Int
 | none => -1
 | some b => (b : Int)
section
variable {T : Tab} {β : List Nat} {c e k b : Nat}
theorem zNV (h : at2 T k c ≤ 0) : zBW T β c e (k + 1) = zBW T β c e k := by
 rw [zBW]
 cases zBW T β c e k with
 | none => show (if _ then _ else _) = _; rw [if_pos h]
 | some b => show (if _ then _ else _) = _; rw [if_pos h]
theorem zMX (h : ¬ at2 T k c ≤ 0) (hl : zBW T β c e k = none) : zBW T β c e (k + 1) = some k := by
 rw [zBW, hl]
 show (if _ then _ else _) = _
 rw [if_neg h]
theorem zNe (h : ¬ at2 T k c ≤ 0) (hl : zBW T β c e k = some b) : zBW T β c e (k + 1) = if zHB T β c e k b then some k else some b := by
 rw [zBW, hl]
 show (if _ then _ else _) = _
 rw [if_neg h]
end
theorem zMS (o : Option Nat) : (optZ o < 0) = (o = none) := by
 apply propext
 cases o with
 | none => exact ⟨fun _ => rfl, fun _ => by show (-1 : Int) < 0; omega⟩
 | some b => exact ⟨fun h => absurd h (by show ¬ (b : Int) < 0; omega), fun h => by cases h⟩
section
variable {m N w : Nat} {s : St}
theorem zKg {k : Nat} (h : zBq m N w (zAo m N w s k) = none) : ∀ j, zAo m N w s (k + j) = zAo m N w s k
 | 0 => rfl
 | j + 1 => by
   have e := zKg h j
   show (zBq m N w (zAo m N w s (k + j))).getD (zAo m N w s (k + j)) = _
   rw [e, h]; rfl
theorem iter_end {k K : Nat} (h : zBq m N w (zAo m N w s k) = none) (hk : k ≤ K) : zAo m N w s K = zAo m N w s k := by
 obtain ⟨j, rfl⟩ : ∃ j, K = k + j := ⟨K - k, by omega⟩
 exact zKg h j
theorem zOu {k : Nat} {s' : St} (h : zBq m N w (zAo m N w s k) = some s') : zAo m N w s (k + 1) = s' := by
 show (zBq m N w (zAo m N w s k)).getD _ = _
 rw [h]; rfl
/-- the column of a direction without an end, or -1 -/
def resZ (m w : Nat) (s : St) : Int := if zCR m w s = w then -1 else (zCR m w s : Int)
theorem zOw (h : zCR m w s = w) : zBq m N w s = none := by
 unfold zBq; unfold zCR at h; rw [if_pos h]
theorem zO5 (h : zCR m w s ≠ w) (hl : zBW s.rows s.basis (zCR m w s) N m = none) : zBq m N w s = none := by
 unfold zBq; unfold zCR at h hl; rw [if_neg h, hl]
theorem step_go (h : zCR m w s ≠ w) {r : Nat} (hl : zBW s.rows s.basis (zCR m w s) N m = some r) : zBq m N w s = some (piv s r (zCR m w s)) := by
 unfold zBq; unfold zCR at h hl ⊢; rw [if_neg h, hl]
end
/-- from column c on -/
theorem zMw {T : Tab} {m f c : Nat} (h : at2 T m c < 0) : zCP T m f c = c := by
 cases f with
 | zero => rfl
 | succ f => rw [zCP, if_pos h]
theorem enter_go {T : Tab} {m f c : Nat} (h : ¬ at2 T m c < 0) : zCP T m (f + 1) c = zCP T m f (c + 1) := by rw [zCP, if_neg h]
theorem nz_stop {T : Tab} {i f c : Nat} (h : at2 T i c ≠ 0) : nzN T i f c = c := by
 cases f with
 | zero => rfl
 | succ f => rw [nzN, if_pos h]
theorem nz_go {T : Tab} {i f c : Nat} (h : ¬ at2 T i c ≠ 0) : nzN T i (f + 1) c = nzN T i f (c + 1) := by rw [nzN, if_neg h]
/-- a table without its last rows -/
def cutS (m : Nat) (s : St) : St := ⟨s.rows.take m, s.den, s.basis⟩
theorem zDw {T : Tab} {m i : Nat} (hi : i < m) (j : Nat) : at2 (T.take m) i j = at2 T i j := by
 unfold at2
 simp only [List.getD, List.getElem?_take, if_pos hi]
theorem zKr {T : Tab} {m i : Nat} (hi : i < m) : (T.take m).getD i [] = T.getD i [] := by
 simp only [List.getD, List.getElem?_take, if_pos hi]
theorem zPF {T : Tab} {m r c : Nat} {d : Int} (hr : r < m) (hm : m ≤ T.length) : zEB (T.take m) r c d = (zEB T r c d).take m := by
 rw [zJg, zJg, zEM, zEM, ← List.map_take, List.take_range, List.length_take, Nat.min_eq_left hm]
 refine List.map_congr_left (fun i hi => ?_)
 have hi : i < m := by simpa using hi
 unfold zCL
 rw [zKr hr, zKr hi, zDw hr, zDw hi]
theorem piv_cut {s : St} {m r c : Nat} (hr : r < m) (hm : m ≤ s.rows.length) : piv (cutS m s) r c = cutS m (piv s r c) := by
 unfold piv cutS zEL
 simp only [zDw hr, zPF hr hm]
 split
 · rw [List.map_take]
 · rfl
theorem nz_cut {T : Tab} {m i : Nat} (hi : i < m) : ∀ f c, nzN (T.take m) i f c = nzN T i f c
 | 0, c => rfl
 | f + 1, c => by rw [nzN, nzN, zDw hi, nz_cut hi f (c + 1)]
theorem zOh {s : St} {m w k : Nat} (hk : k < m) (hm : m ≤ s.rows.length) : zBw w (cutS m s) k = cutS m (zBw w s k) := by
 unfold zBw
 rw [show (cutS m s).basis = s.basis from rfl, show (cutS m s).rows = s.rows.take m from rfl, nz_cut hk]
 split
 · rfl
 · split
   · rfl
   · exact piv_cut hk hm
theorem zGe {s : St} {w : Nat} : ∀ k, (zBP w s k).rows.length = s.rows.length
 | 0 => rfl
 | k + 1 => by
   rw [zBP]
   unfold zBw
   split
   · exact zGe k
   · split
     · exact zGe k
     · show (zEL _ _ _ _).length = _
       rw [zJK]; exact zGe k
theorem zG8 {s : St} {m w : Nat} (hm : m ≤ s.rows.length) : ∀ k, k ≤ m → zBP w (cutS m s) k = cutS m (zBP w s k)
 | 0, _ => rfl
 | k + 1, hk => by
   rw [zBP, zBP, zG8 hm k (by omega)]
   exact zOh (by omega) (by rw [zGe]; exact hm)
/-- the costs of the first phase, after i rows -/
def zC0 (w N : Nat) (s : St) (i : Nat) : List Int := (List.range (N + 1)).map (fun j => -(zAG (fun q => if w ≤ s.basis.getD q 0 then at2 s.rows q j else 0) i))
def zBU (w a N : Nat) (s : St) (m k : Nat) : List Int := (List.range (N + 1)).map (fun j => if w ≤ j ∧ j < w + k then 0 else (zC0 w N s m).getD j 0)
def zC9 (k : Nat → Int) (N : Nat) (s : St) (i : Nat) : List Int := (List.range (N + 1)).map (fun j => s.den * k j - zAG (fun q => k (s.basis.getD q 0) * at2 s.rows q j) i)
theorem zGp (w N : Nat) (s : St) (i : Nat) : (zC0 w N s i).length = N + 1 := by simp [zC0]
theorem zGt (k : Nat → Int) (N : Nat) (s : St) (i : Nat) : (zC9 k N s i).length = N + 1 := by simp [zC9]
theorem zFK {w N : Nat} {s : St} {i j : Nat} (hj : j < N + 1) : (zC0 w N s i).getD j 0 = -(zAG (fun q => if w ≤ s.basis.getD q 0 then at2 s.rows q j else 0) i) := zBD hj
theorem zGd {k : Nat → Int} {N : Nat} {s : St} {i j : Nat} (hj : j < N + 1) : (zC9 k N s i).getD j 0 = s.den * k j - zAG (fun q => k (s.basis.getD q 0) * at2 s.rows q j) i := zBD hj
theorem zNm {w N : Nat} {s : St} {i : Nat} (h : ¬ w ≤ s.basis.getD i 0) : zC0 w N s (i + 1) = zC0 w N s i := by
 unfold zC0
 refine List.map_congr_left (fun j _ => ?_)
 show -(zAG _ i + (if w ≤ s.basis.getD i 0 then at2 s.rows i j else 0)) = _
 rw [if_neg h]; omega
theorem zNL {w N : Nat} {s : St} {i j : Nat} (h : w ≤ s.basis.getD i 0) (hj : j < N + 1) : (zC0 w N s (i + 1)).getD j 0 = (zC0 w N s i).getD j 0 - at2 s.rows i j := by
 rw [zFK hj, zFK hj]
 show -(zAG _ i + (if w ≤ s.basis.getD i 0 then at2 s.rows i j else 0)) = _
 rw [if_pos h]; omega
theorem zMv {k : Nat → Int} {N : Nat} {s : St} {i : Nat} (h : k (s.basis.getD i 0) = 0) : zC9 k N s (i + 1) = zC9 k N s i := by
 unfold zC9
 refine List.map_congr_left (fun j _ => ?_)
 show _ - (zAG _ i + k (s.basis.getD i 0) * at2 s.rows i j) = _
 rw [h, Int.zero_mul]; omega
theorem zNP {k : Nat → Int} {N : Nat} {s : St} {i j : Nat} (hj : j < N + 1) : (zC9 k N s (i + 1)).getD j 0 = (zC9 k N s i).getD j 0 + -(k (s.basis.getD i 0)) * at2 s.rows i j := by
 rw [zGd hj, zGd hj]
 show _ - (zAG _ i + k (s.basis.getD i 0) * at2 s.rows i j) = _
 rw [Int.neg_mul]; omega
theorem zCw {l l' : List Int} {n : Nat} (h1 : l.length = n) (h2 : l'.length = n) (h : ∀ j, j < n → l.getD j 0 = l'.getD j 0) : l = l' := by
 apply List.ext_getElem (by omega)
 intro j g1 g2
 have := h j (by omega)
 rw [zDg 0 g1, zDg 0 g2] at this
 exact this
theorem zNW (w N : Nat) (s : St) : zC0 w N s 0 = List.replicate (N + 1) 0 := by
 refine zCw (zGp ..) (by simp) (fun j hj => ?_)
 rw [zFK hj]
 show -(0 : Int) = _
 simp [List.getD, hj]
/-- a row changed from its beginning on -/
theorem chg_to {l l' : List Int} {n : Nat} (h1 : l.length = n) (h2 : l'.length = n) : chg (fun j => l'.getD j 0) 0 l n = l' := by
 rw [← h1, zEM]
 refine zCw (n := n) (by simp [h1]) h2 (fun j hj => ?_)
 exact zBD (by omega)
theorem zJ6 {B : Nat} : ∀ {n : Nat} {f : Nat → Int}, (∀ i, i < n → (f i).natAbs ≤ B) → (zAG f n).natAbs ≤ n * B
 | 0, f, _ => by rw [Nat.zero_mul]; exact Nat.le_refl 0
 | n + 1, f, h => by
   have h1 := zJ6 (n := n) (f := f) (fun i hi => h i (by omega))
   have h2 := h n (Nat.lt_succ_self n)
   show (zAG f n + f n).natAbs ≤ _
   have h3 := Int.natAbs_add_le (zAG f n) (f n)
   rw [Nat.succ_mul]; omega
theorem art_row (p : Prog) {k : Nat} (hk : k < p.a) : ∃ i, i < p.m ∧ p.neg i = true ∧ zBY p.B i = k := by
 have key : ∀ n, k < zBY p.B n → ∃ i, i < n ∧ p.neg i = true ∧ zBY p.B i = k := by
   intro n
   induction n with
   | zero => intro h; exact absurd h (Nat.not_lt_zero k)
   | succ n ih =>
     intro h
     by_cases hn : (p.B.getD n 0).num < 0
     · rw [zLy hn] at h
       by_cases e : zBY p.B n = k
       · exact ⟨n, by omega, by simpa using hn, e⟩
       · obtain ⟨i, h1, h2⟩ := ih (by omega)
         exact ⟨i, by omega, h2⟩
     · have e : zBY p.B (n + 1) = zBY p.B n := by
         show (zAc _ _).length = _
         rw [zAc, if_neg hn]
       rw [e] at h
       obtain ⟨i, h1, h2⟩ := ih h
       exact ⟨i, by omega, h2⟩
 exact key _ hk
/-- The costs of the first phase. -/
theorem zM7 (p : Prog) (i : Nat) (hi : i = p.a) : zBU (p.n + p.m) p.a p.N (zAZ p) p.m i = zGi (zCy p) p.m p.N (zAZ p) := by
 subst hi
 have hN : p.N = p.n + p.m + p.a := rfl
 have hinv := zEW p
 have hd : (zAZ p).den = 1 := rfl
 unfold zBU zGi
 refine List.map_congr_left (fun j hj => ?_)
 have hj : j < p.N + 1 := by simpa using hj
 rw [zFK hj, hd, Int.one_mul]
 have hk : ∀ q, q < p.m → (if p.n + p.m ≤ (zAZ p).basis.getD q 0 then at2 (zAZ p).rows q j else 0) = zCy p ((zAZ p).basis.getD q 0) * at2 (zAZ p).rows q j := by
   intro q hq
   have := hinv.bc q hq
   unfold zCy
   by_cases h : p.n + p.m ≤ (zAZ p).basis.getD q 0
   · rw [if_pos h, if_pos ⟨h, this⟩, Int.one_mul]
   · rw [if_neg h, if_neg (fun e => h e.1), Int.zero_mul]
 rw [zz hk]
 by_cases h : p.n + p.m ≤ j ∧ j < p.n + p.m + p.a
 · rw [if_pos h]
   obtain ⟨k, rfl⟩ : ∃ k, j = p.n + p.m + k := ⟨j - (p.n + p.m), by omega⟩
   have hka : k < p.a := by omega
   have h1 : zCy p (p.n + p.m + k) = 1 := by unfold zCy; rw [if_pos (by omega)]
   rw [h1]
   -- the row of this artificial unknown
   obtain ⟨i, hi, hneg, hik⟩ := art_row p hka
   have hb : (zAZ p).basis.getD i 0 = p.n + p.m + k := by
     show (zBV p).getD i 0 = _
     rw [zFr p hi, if_pos hneg, hik]
   have hu : ∀ q, q < p.m → at2 (zAZ p).rows q (p.n + p.m + k) = if q = i then 1 else 0 := by
     intro q hq
     have := hinv.unit q i (by omega) hi
     rw [hb, hd] at this
     exact this
   rw [zDv i hi (fun q hq hne => by rw [hu q hq, if_neg hne, Int.mul_zero]), hu i hi, if_pos rfl, hb, h1]; rfl
 · rw [if_neg h]
   have : zCy p j = 0 := by unfold zCy; rw [if_neg (by omega)]
   rw [this]; omega
theorem zMj (T : Tab) (L L' : List Int) : zBJ (T ++ [L]) T.length L' = T ++ [L'] := by
 unfold zBJ
 rw [List.take_left]
theorem ph1_rows (p : Prog) : (ph1 p).rows = zBE p ++ [zGi (zCy p) p.m p.N (zAZ p)] := by
 show zBJ (zBE p ++ [_]) p.m _ = _
 rw [← zCS p]
 exact zMj _ _ _
theorem zIL (p : Prog) : cutS p.m (zAZ p) = ⟨zBE p, 1, zBV p⟩ := by
 show (⟨(zBE p ++ [_]).take p.m, 1, zBV p⟩ : St) = _
 rw [← zCS p, List.take_left]
theorem mid_cut0 (p : Prog) (K : Nat) (h : p.a = 0) : cutS p.m (mid p K) = ⟨zBE p, 1, zBV p⟩ := by
 unfold mid
 rw [if_pos h]; exact zIL p
theorem zLc (p : Prog) (hp : p.Ok) (K : Nat) (h : p.a ≠ 0) : cutS p.m (mid p K) = zBP (p.n + p.m) (cutS p.m (zCB p K)) p.m := by
 unfold mid
 rw [if_neg h]
 refine (zG8 ?_ p.m (Nat.le_refl _)).symm
 rw [(zEV p hp K).1.n]; exact Nat.le_succ _
theorem ph2_rows (p : Prog) (K : Nat) : (ph2 p K).rows = (cutS p.m (mid p K)).rows ++ [zC9 (zBX p) p.N (mid p K) p.m] := rfl
theorem zO2 {k : Nat → Int} {N m i : Nat} {s : St} (hi : i ≤ m) : zC9 k N (cutS m s) i = zC9 k N s i := by
 unfold zC9
 refine List.map_congr_left (fun j _ => ?_)
 show s.den * k j - zAG (fun q => k (s.basis.getD q 0) * at2 (s.rows.take m) q j) i = _
 congr 1
 refine zz (fun q hq => ?_)
 rw [zDw (by omega)]
theorem zDn (w a N : Nat) (s : St) (m k : Nat) : (zBU w a N s m k).length = N + 1 := by simp [zBU]
theorem zHM {w a N : Nat} {s : St} {m k j : Nat} (hj : j < N + 1) : (zBU w a N s m k).getD j 0 = if w ≤ j ∧ j < w + k then 0 else (zC0 w N s m).getD j 0 := zBD hj
theorem zL5 (w a N : Nat) (s : St) (m : Nat) : zBU w a N s m 0 = zC0 w N s m := by
 refine zCw (zDn ..) (zGp ..) (fun j hj => ?_)
 rw [zHM hj, if_neg (by omega)]
theorem zNl {w a N : Nat} {s : St} {m k : Nat} (hk : w + k < N + 1) : (zBU w a N s m k).set (w + k) 0 = zBU w a N s m (k + 1) := by
 refine zCw (by rw [List.length_set]; exact zDn ..) (zDn ..) (fun j hj => ?_)
 rw [Go.Ax.Dt.getD_set, zHM hj, zHM hj, zDn]
 by_cases h1 : j = w + k
 · rw [if_pos ⟨h1, hk⟩, if_pos (by omega)]
 · rw [if_neg (fun q => h1 q.1)]
   by_cases h2 : w ≤ j ∧ j < w + k
   · rw [if_pos h2, if_pos (by omega)]
   · rw [if_neg h2, if_neg (by omega)]
theorem zPG {w N E : Nat} {s : St} {i j : Nat} (hi : i ≤ 100) (h : ∀ q, q < i → (at2 s.rows q j).natAbs ≤ 10 ^ E) (hj : j < N + 1) : ((zC0 w N s i).getD j 0).natAbs ≤ 10 ^ (E + 2) := by
 rw [zFK hj, Int.natAbs_neg]
 have h1 := zJ6 (B := 10 ^ E) (n := i) (f := fun q => if w ≤ s.basis.getD q 0 then at2 s.rows q j else 0) (fun q hq => by
   show (if w ≤ s.basis.getD q 0 then at2 s.rows q j else 0).natAbs ≤ _
   split
   · exact h q hq
   · exact Nat.zero_le _)
 refine Nat.le_trans h1 ?_
 rw [Nat.pow_add, Nat.mul_comm]
 exact Nat.mul_le_mul_left _ hi
theorem zO4 {w N m i : Nat} {s : St} (hi : i ≤ m) : zC0 w N (cutS m s) i = zC0 w N s i := by
 unfold zC0
 refine List.map_congr_left (fun j _ => ?_)
 congr 1
 refine zz (fun q hq => ?_)
 show (if w ≤ s.basis.getD q 0 then at2 (s.rows.take m) q j else 0) = _
 rw [zDw (by omega)]
theorem zM1 {w a N m k : Nat} {s : St} : zBU w a N (cutS m s) m k = zBU w a N s m k := by
 unfold zBU
 rw [zO4 (Nat.le_refl _)]
def zD0 (n N : Nat) (W : List Int) : List Int := (List.range (N + 1)).map (fun j => if j < n then W.getD j 0 else 0)
def zEG (n m a : Nat) (W : List Int) (i : Nat) : List Int := (List.range (n + m + a + 1)).map (zHu n m a W i)
theorem zGc (n N : Nat) (W : List Int) : (zD0 n N W).length = N + 1 := by simp [zD0]
theorem zDR (n m a : Nat) (W : List Int) (i : Nat) : (zEG n m a W i).length = n + m + a + 1 := by simp [zEG]
theorem zM3 {N : Nat} {W : List Int} : zD0 0 N W = List.replicate (N + 1) 0 := by
 refine zCw (zGc ..) (by simp) (fun j hj => ?_)
 rw [show (zD0 0 N W).getD j 0 = 0 from (zBD hj).trans (if_neg (Nat.not_lt_zero j))]
 simp [List.getD, hj]
theorem out_base {n m a i : Nat} {W : List Int} (hi : i < m) : ((zD0 n (n + m + a) W).set (n + i) 1).set (n + m + a) (W.getD n 0) = zEG n m a W i := by
 refine zCw (n := n + m + a + 1) (by rw [List.length_set, List.length_set]; exact zGc ..) (zDR ..) (fun j hj => ?_)
 rw [Go.Ax.Dt.getD_set, Go.Ax.Dt.getD_set, List.length_set, zGc, show (zEG n m a W i).getD j 0 = zHu n m a W i j from zBD hj, show (zD0 n (n + m + a) W).getD j 0 = (if j < n then W.getD j 0 else 0) from zBD hj]
 unfold zHu
 by_cases h1 : j = n + m + a
 · rw [if_pos ⟨h1, by omega⟩, if_neg (by omega), if_neg (by omega), if_pos h1]
 · rw [if_neg (fun q => h1 q.1)]
   by_cases h2 : j = n + i
   · rw [if_pos ⟨h2, by omega⟩, if_neg (by omega), if_pos h2]
   · rw [if_neg (fun q => h2 q.1)]
     by_cases h3 : j < n
     · rw [if_pos h3, if_pos h3]
     · rw [if_neg h3, if_neg h3, if_neg h2, if_neg h1]
theorem neg_base {n m a i : Nat} {W : List Int} : chg (fun j => -((zEG n m a W i).getD j 0)) 0 (zEG n m a W i) (n + m + a + 1) = (zEG n m a W i).map (fun x => -x) := by
 have e := zEM (fun j => -((zEG n m a W i).getD j 0)) 0 (zEG n m a W i)
 rw [zDR] at e
 rw [e]
 refine zCw (n := n + m + a + 1) (by simp) (by rw [List.length_map]; exact zDR ..) (fun j hj => ?_)
 rw [show ((List.range (n + m + a + 1)).map (fun j => -((zEG n m a W i).getD j 0))).getD j 0 = -((zEG n m a W i).getD j 0) from zBD hj, zEn _ _ 0 _ _ (by rw [zDR]; exact hj)]
theorem row_neg {n m a i k : Nat} {W : List Int} (hk : k < a) : ((zEG n m a W i).map (fun x => -x)).set (n + m + k) 1 = zC2 n m a W i true k := by
 refine zCw (n := n + m + a + 1) (by rw [List.length_set, List.length_map]; exact zDR ..) (by simp [zC2]) (fun j hj => ?_)
 rw [Go.Ax.Dt.getD_set, List.length_map, zDR, show (zC2 n m a W i true k).getD j 0 = zGY n m a W i true k j from zBD hj]
 unfold zGY
 rw [if_pos rfl]
 by_cases h : j = n + m + k
 · rw [if_pos ⟨h, by omega⟩, if_pos h]
 · rw [if_neg (fun q => h q.1), if_neg h, zEn _ _ 0 _ _ (by rw [zDR]; exact hj)]
   exact congrArg (fun x : Int => -x) (zBD hj)
theorem row_pos {n m a i k : Nat} {W : List Int} : zEG n m a W i = zC2 n m a W i false k := rfl
theorem zJD {α : Type} (l : List α) (d : α) {i : Nat} (hi : i < l.length) : l.take (i + 1) = l.take i ++ [l.getD i d] := by
 rw [List.take_add_one, zDg d hi]
 simp [hi]
end Go.Ax.Sx
namespace Go.Proofs.YtnkealfaldjipaaGreatDoor
open Go.Ax Go.Ax.Bg Go.Ax.Rt Go.RowKit Go.Ax.Dt Go.Ax.Sx
attribute [local irreducible] Ax zBR QOp zY zBK
set_option maxRecDepth 100000
set_option maxHeartbeats 4000000
theorem zEJ (β : List Nat) (i : Nat) : (β.map (fun a : Nat => (a : Int))).getD i 0 = ((β.getD i 0 : Nat) : Int) := by
 simp only [List.getD, List.getElem?_map]
 cases β[i]? <;> rfl
theorem zMR (x : Int) : (sgn x ≤ 0) = (x ≤ 0) := by
 apply propext
 unfold sgn
 constructor
 · intro h
   split at h
   · omega
   · split at h
     · omega
     · exact absurd h (by decide)
 · intro h
   by_cases h1 : x < 0
   · rw [if_pos h1]; decide
   · rw [if_neg h1, if_pos (by omega)]; decide
theorem sgn_neg {x : Int} (h : x < 0) : sgn x = -1 := by unfold sgn; rw [if_pos h]
theorem sgn_zer {x : Int} (h : x = 0) : sgn x = 0 := by subst h; rfl
theorem sgn_pos {x : Int} (h : 0 < x) : sgn x = 1 := by unfold sgn; rw [if_neg (by omega), if_neg (by omega)]
theorem leave_ok (G : zN) (hG : OkG G) (N w n : Nat) (X : Tab) (d : Int) (β : List Nat) (cc : Nat) (E : Nat) (hn : X.length = n) (hn0 : 0 < n) (hn40 : n ≤ 1000000) (hL : ∀ x ∈ X, x.length = N + 1) (hL40 : N + 1 ≤ 1000000) (hβ : β.length ≤ n) (hc : cc < N + 1)
   (hX : ∀ i j, i < n → j < N + 1 → (at2 X i j).natAbs ≤ 10 ^ E) (hE : E ≤ 3600000) :
   zY Tryz.prog 213 [.ptr G.length 0 0, .int .i64 (cc : Nat)] (zd G none (N + 1) w n X d β []) (fun h => h < (zd G none (N + 1) w n X d β []).length)
     (fun r' H' => r' = .int .i64 (optZ (zBW X β cc N β.length)) ∧ H' = zd G none (N + 1) w n X d β []) := by
 refine zK (P := Tryz.prog) (fn := Tryz.f213) Z Z (by kernel_rfl) Z (fun c hR hfix => ?_)
 have hlen : (zd G none (N + 1) w n X d β []).length = G.length + 4 + n := by rw [zBC, hn]; rfl
 rw [hlen] at hfix
 have f1 := zA7 (G := G) (F := none) (L := N + 1) (w := w) (k := n) (X := X) (d := d) (β := β) (T := [])
 have f2 := zCc (G := G) (F := none) (L := N + 1) (w := w) (k := n) (X := X) (d := d) (β := β) (T := [])
 have g1 : 0 < (zBb G.length X.length (N + 1)).len := by show 0 < X.length; omega
 refine rn0 ?_
 refine zx (by kernel_rfl) ?_
 refine z8 (fuel := 0) [0, 1, 2, 3, 4, 5, 6, 7, 8, 9] [(0, .ptr G.length 0 0), (1, .int .i64 (cc : Nat))] ⟨Z, Z, trivial⟩ (by kernel_rfl) (by decide) Z Z ?_
 refine zM Z Z (zE Z) ?_
 refine zM Z Z (zT Z) ?_
 refine zM Z Z (zI Z Z Z Z Z Z) ?_
 refine zM Z Z (zl Z Z Z (by assumption) (by rfl)) ?_
 refine zM Z Z (zV Z Z Z (by assumption) (by rfl) (by first | (simp only [Nat.zero_add, Int.toNat_natCast, Int.toNat_zero]; exact Z) | exact Z) (by omega)) ?_
 refine zM Z Z (zAm Z Z Z (by assumption) Z (by first | assumption | omega)) ?_
 refine zM Z Z (zAR Z Z Z) ?_
 refine zM Z Z (zBc Z Z (by omega)) ?_
 refine zM Z Z (zL Z) ?_
 refine zM Z Z (zL Z) ?_
 refine zAC ?_
 refine zf (by kernel_rfl) ?_
 repeat (refine zA ?_)
 refine zAp 6 (.int .i64 (N : Nat)) Z (AEq.of_eq (by show AV.int .i64 (((N + 1 : Nat) : Int) - 1) = _; rw [show ((N + 1 : Nat) : Int) - 1 = (N : Nat) by omega])) ?_
 have f3 := zFB (G := G) (F := none) (L := N + 1) (w := w) (k := n) (X := X) (d := d) (β := β) (T := [])
 repeat (first | refine zB (zE rfl) ?_ | refine zD ?_ | refine zA ?_ | refine zR ?_ | refine zG rfl ?_ | refine zb ?_ | refine zB (zAR rfl rfl rfl) ?_ | refine zB (zT rfl) ?_ | refine zB (zI rfl rfl rfl rfl rfl rfl) ?_ | refine zB (zl rfl rfl rfl (by assumption) (by rfl)) ?_)
 refine zt (ι := Nat) (fun i => [(0, .ptr G.length 0 0), (1, .int .i64 (cc : Nat)), (5, .int .i64 (optZ (zBW X β cc N i))), (6, .int .i64 (N : Nat)), (22, .int .i64 (β.length : Nat)), (23, .int .i64 (i : Nat))]) (fun i => zd G none (N + 1) w n X d β []) (fun i => i ≤ β.length) (fun i => β.length - i) 0 ⟨⟨Z, Z, Z, Z, Z, Z, trivial⟩, Z, Nat.zero_le _⟩ ?_
 clear f3
 intro i hi
 refine rn4 ?_
 refine zF Z (fun h => ?_) (fun h => ?_)
 · have hi' : i < β.length := by omega
   have hin : i < n := by omega
   have lI : (X.getD i []).length = N + 1 := hL _ (zAt [] (by omega))
   have f3 := zCM (G := G) (F := none) (L := N + 1) (w := w) (k := n) (X := X) (d := d) (β := β) (T := []) (a := i) (by omega)
   have g3 : i < (zBb G.length X.length (N + 1)).len := by show i < X.length; omega
   have g4 : cc < (zC (X.getD i [])).len := by show cc < (X.getD i []).length; omega
   repeat (first | refine zB (zE rfl) ?_ | refine zB (zL rfl) ?_ | refine zD ?_ | refine zA ?_ | refine zR ?_ | refine zG rfl ?_ | refine zb ?_ | refine zi ?_ | refine zB (zT rfl) ?_ | refine zB (zI rfl rfl rfl rfl rfl rfl) ?_ | refine zB (zV rfl rfl rfl (by assumption) (by rfl) (by first | (simp only [Nat.zero_add, Int.toNat_natCast, Int.toNat_zero]; exact rfl) | exact rfl) (by omega)) ?_ | refine zB (zg rfl rfl rfl rfl (by assumption) (by rfl) (by rfl) (by first | exact Nat.zero_lt_one | assumption | omega)) ?_ | refine zB (zl rfl rfl rfl (by assumption) (by rfl)) ?_ | refine zB (zAm rfl rfl rfl (by assumption) rfl (by first | assumption | omega)) ?_ | refine zAe rfl rfl rfl ?_)
   refine zS (zd G none (N + 1) w n X d β [some ⟨120, .box [.bool false, .nil]⟩]) (by rw [zAj]; rfl) ?_
   refine zH 8 (.ptr (G.length + 4 + n) 0 0) Z (AEq.of_eq (by rw [hlen])) ?_
   refine zH 35 (zA6 (at2 X i cc)) Z (AEq.of_eq Z) ?_
   have q0 := zAk (G := G) (F := none) (L := N + 1) (w := w) (k := n) (X := X) (d := d) (β := β) (T := [some ⟨120, .box [.bool false, .nil]⟩]) 0
   rw [hn] at q0
   refine zU (c' := .box (zm (at2 X i cc))) Z Z Z q0 Z Nat.zero_lt_one Z Z (fun i' j' hi' hj' => ?_) ?_
   · rw [if_pos (Nat.lt_one_iff.1 hi')]; rfl
   refine zS (zd G none (N + 1) w n X d β [some ⟨120, .box (zm (at2 X i cc))⟩]) (by have q := zAQ (G := G) (F := none) (L := N + 1) (w := w) (k := n) (X := X) (d := d) (β := β) (T := [some ⟨120, .box [.bool false, .nil]⟩]) 0 (some ⟨120, .box (zm (at2 X i cc))⟩); rw [hn] at q; exact q) ?_
   clear f1 f2 f3 q0
   apply zAP (H := zd G none (N + 1) w n X d β [some ⟨120, .box (zm (at2 X i cc))⟩]) [(0, .ptr G.length 0 0), (1, .int .i64 (cc : Nat)), (5, .int .i64 (optZ (zBW X β cc N (i + 1)))), (6, .int .i64 (N : Nat)), (22, .int .i64 (β.length : Nat)), (23, .int .i64 (i : Nat))]
   · intro fin
     have f1 := zA7 (G := G) (F := none) (L := N + 1) (w := w) (k := n) (X := X) (d := d) (β := β) (T := [some ⟨120, .box (zm (at2 X i cc))⟩])
     have f2 := zCc (G := G) (F := none) (L := N + 1) (w := w) (k := n) (X := X) (d := d) (β := β) (T := [some ⟨120, .box (zm (at2 X i cc))⟩])
     have q0 := zAk (G := G) (F := none) (L := N + 1) (w := w) (k := n) (X := X) (d := d) (β := β) (T := [some ⟨120, .box (zm (at2 X i cc))⟩]) 0
     rw [hn, Nat.add_zero] at q0
     have cs := zD1 (at2 X i cc)
     repeat (first | refine zD ?_ | refine zA ?_ | refine zR ?_ | refine zG rfl ?_ | refine zB (zg rfl rfl rfl rfl (by assumption) (by rfl) (by rfl) (by first | exact Nat.zero_lt_one | assumption | omega)) ?_)
     refine zH 36 (zA6 (at2 X i cc)) Z (AEq.of_eq Z) ?_
     refine zJ Z Z Z cs ?_
     repeat (first | refine zD ?_ | refine zA ?_ | refine zB (zId rfl rfl) ?_)
     refine zF Z (fun h1 => ?_) (fun h1 => ?_)
     · rw [zMR] at h1
       rw [zNV h1] at fin
       repeat (first | refine zA ?_ | refine zAg ?_ | refine zw ?_ | refine zv ?_)
       exact fin _ ⟨Z, Z, Z, Z, Z, Z, trivial⟩
     · rw [zMR] at h1
       refine rn4 ?_
       refine zF Z (fun h2 => ?_) (fun h2 => ?_)
       · rw [zMS] at h2
         rw [zMX h1 h2] at fin
         skip
         refine zR ?_
         refine zG Z ?_
         repeat (first | refine zB (zE rfl) ?_ | refine zB (zL rfl) ?_ | refine zD ?_ | refine zA ?_ | refine zAg ?_ | refine zw ?_ | refine zv ?_)
         exact fin _ ⟨Z, Z, Z, Z, Z, Z, trivial⟩
       · cases hl : zBW X β cc N i with
         | none => rw [hl] at h2; exact absurd (show (-1 : Int) < 0 by decide) h2
         | some b =>
           have hb := (zFz X β cc N i b hl).lt
           have hbn : b < n := by omega
           have hnx := zNe (T := X) (β := β) (c := cc) (e := N) h1 hl
           rw [hnx] at fin
           have lB : (X.getD b []).length = N + 1 := hL _ (zAt [] (by omega))
           have f3 := zCM (G := G) (F := none) (L := N + 1) (w := w) (k := n) (X := X) (d := d) (β := β) (T := [some ⟨120, .box (zm (at2 X i cc))⟩]) (a := i) (by omega)
           have f4 := zCM (G := G) (F := none) (L := N + 1) (w := w) (k := n) (X := X) (d := d) (β := β) (T := [some ⟨120, .box (zm (at2 X i cc))⟩]) (a := b) (by omega)
           have g3 : i < (zBb G.length X.length (N + 1)).len := by show i < X.length; omega
           have g4 : b < (zBb G.length X.length (N + 1)).len := by show b < X.length; omega
           have g5 : cc < (zC (X.getD b [])).len := by show cc < (X.getD b []).length; omega
           have g6 : N < (zC (X.getD b [])).len := by show N < (X.getD b []).length; omega
           have g7 : N < (zC (X.getD i [])).len := by show N < (X.getD i []).length; omega
           have bi := hX i cc hin hc
           have bb := hX b cc hbn hc
           have ei := hX i N hin (Nat.lt_succ_self N)
           have eb := hX b N hbn (Nat.lt_succ_self N)
           have hsz : ∀ x : Int, x.natAbs ≤ 10 ^ E → (zX x.natAbs).length ≤ 400001 := fun x hx => zE1 hx (by omega)
           obtain ⟨s1, s2, s3⟩ := zJC ei bb bi eb hE
           rw [Int.mul_comm (at2 X i cc) (at2 X b N)] at s2
           have m1 := zCx (at2 X i N) (at2 X b cc) (by have := hsz _ ei; omega) (by have := hsz _ bb; omega)
           have m2 := zCx (at2 X b N) (at2 X i cc) (by have := hsz _ eb; omega) (by have := hsz _ bi; omega)
           have m3 := zOS (at2 X i N * at2 X b cc) (at2 X b N * at2 X i cc) s1 s2
           repeat (first | refine zA ?_ | refine zR ?_ | refine zi ?_)
           refine zAp 5 (.int .i64 (b : Nat)) Z (AEq.of_eq Z) ?_
           refine zx (by kernel_rfl) ?_
           refine z8 (fuel := 0) [0, 1, 2, 3, 4, 5, 6, 7, 8, 9, 10, 11, 12, 13, 14, 15, 16, 17, 18, 19, 20, 21, 22, 23, 24, 25, 26, 27, 28, 29, 30, 31, 32, 33, 34] [(0, .ptr G.length 0 0), (1, .int .i64 (cc : Nat)), (5, .int .i64 (b : Nat)), (6, .int .i64 (N : Nat)), (7, .int .i64 (i : Nat)), (8, .ptr (G.length + 4 + n) 0 0), (22, .int .i64 (β.length : Nat)), (23, .int .i64 (i : Nat))] ⟨Z, Z, Z, Z, Z, Z, Z, Z, trivial⟩ (by kernel_rfl) (by decide) Z Z ?_
           refine zM Z Z (zE Z) ?_
           refine zM Z Z (zT Z) ?_
           refine zM Z Z (zI Z Z Z Z Z Z) ?_
           refine zM Z Z (zl Z Z Z (by assumption) (by rfl)) ?_
           refine zM Z Z (zE Z) ?_
           refine zM Z Z (zV Z Z Z (by assumption) (by rfl) (by first | (simp only [Nat.zero_add, Int.toNat_natCast, Int.toNat_zero]; exact Z) | exact Z) (by omega)) ?_
           refine zM Z Z (zAm Z Z Z (by assumption) Z (by first | assumption | omega)) ?_
           refine zM Z Z (zE Z) ?_
           refine zM Z Z (zV Z Z Z (by assumption) (by rfl) (by first | (simp only [Nat.zero_add, Int.toNat_natCast, Int.toNat_zero]; exact Z) | exact Z) (by omega)) ?_
           refine zM Z Z (zg Z Z Z Z (by assumption) (by rfl) (by rfl) (by first | exact Nat.zero_lt_one | assumption | omega)) ?_
           refine zM Z Z (zE Z) ?_
           refine zM Z Z (zT Z) ?_
           refine zM Z Z (zI Z Z Z Z Z Z) ?_
           refine zM Z Z (zl Z Z Z (by assumption) (by rfl)) ?_
           refine zM Z Z (zE Z) ?_
           refine zM Z Z (zV Z Z Z (by assumption) (by rfl) (by first | (simp only [Nat.zero_add, Int.toNat_natCast, Int.toNat_zero]; exact Z) | exact Z) (by omega)) ?_
           refine zM Z Z (zAm Z Z Z (by assumption) Z (by first | assumption | omega)) ?_
           refine zM Z Z (zE Z) ?_
           refine zM Z Z (zV Z Z Z (by assumption) (by rfl) (by first | (simp only [Nat.zero_add, Int.toNat_natCast, Int.toNat_zero]; exact Z) | exact Z) (by omega)) ?_
           refine zM Z Z (zg Z Z Z Z (by assumption) (by rfl) (by rfl) (by first | exact Nat.zero_lt_one | assumption | omega)) ?_
           refine zAf Z Z Z Z Z m1 ?_
           refine zM Z Z (zE Z) ?_
           refine zM Z Z (zT Z) ?_
           refine zM Z Z (zI Z Z Z Z Z Z) ?_
           refine zM Z Z (zl Z Z Z (by assumption) (by rfl)) ?_
           refine zM Z Z (zE Z) ?_
           refine zM Z Z (zV Z Z Z (by assumption) (by rfl) (by first | (simp only [Nat.zero_add, Int.toNat_natCast, Int.toNat_zero]; exact Z) | exact Z) (by omega)) ?_
           refine zM Z Z (zAm Z Z Z (by assumption) Z (by first | assumption | omega)) ?_
           refine zM Z Z (zE Z) ?_
           refine zM Z Z (zV Z Z Z (by assumption) (by rfl) (by first | (simp only [Nat.zero_add, Int.toNat_natCast, Int.toNat_zero]; exact Z) | exact Z) (by omega)) ?_
           refine zM Z Z (zg Z Z Z Z (by assumption) (by rfl) (by rfl) (by first | exact Nat.zero_lt_one | assumption | omega)) ?_
           refine zM Z Z (zg Z Z Z Z (by assumption) (by rfl) (by rfl) (by first | exact Nat.zero_lt_one | assumption | omega)) ?_
           refine zAf Z Z Z Z Z m2 ?_
           refine zAf Z Z Z Z Z m3 ?_
           refine zM Z Z (zL Z) ?_
           refine zAC ?_
           refine zf (by kernel_rfl) ?_
           repeat (refine zA ?_)
           have f5 := zFB (G := G) (F := none) (L := N + 1) (w := w) (k := n) (X := X) (d := d) (β := β) (T := [some ⟨120, .box (zm (at2 X i cc))⟩])
           have g8 : i < (β.map (fun a : Nat => (a : Int))).length := by rw [List.length_map]; exact hi'
           have g9 : b < (β.map (fun a : Nat => (a : Int))).length := by rw [List.length_map]; omega
           clear f2 f3 f4 m1 m2 m3
           rcases Int.lt_trichotomy (at2 X i N * at2 X b cc - at2 X b N * at2 X i cc) 0 with hD | hD | hD
           · rw [if_pos (.inl (by omega))] at fin
             refine zAp 9 (.int .i64 (-1)) Z (AEq.of_eq (by rw [sgn_neg hD])) ?_
             repeat (refine zR ?_)
             refine zx (by kernel_rfl) ?_
             refine z8 (fuel := 0) [0, 1, 2, 3, 4, 5, 6, 7, 8, 9, 10, 11, 12, 13, 14, 15, 16, 17, 18, 19, 20, 21, 22] [(0, .ptr G.length 0 0), (1, .int .i64 (cc : Nat)), (5, .int .i64 (b : Nat)), (6, .int .i64 (N : Nat)), (7, .int .i64 (i : Nat)), (8, .ptr (G.length + 4 + n) 0 0), (22, .int .i64 (β.length : Nat)), (23, .int .i64 (i : Nat)), (9, .int .i64 (-1))] ⟨Z, Z, Z, Z, Z, Z, Z, Z, Z, trivial⟩ (by kernel_rfl) (by decide) Z Z ?_
             refine zM Z Z (zE Z) ?_
             refine zM Z Z (zCg Z Z) ?_
             refine zM Z Z (zE Z) ?_
             refine zAE Z Z Z Z Z ?_
             refine zAE Z Z Z Z Z ?_
             refine zAE Z Z Z Z Z ?_
             refine zBI Z Z Z Z ?_
             refine zBI Z Z Z Z ?_
             refine zBI Z Z Z Z ?_
             refine zBI Z Z Z Z ?_
             refine zBI Z Z Z Z ?_
             refine zBI Z Z Z Z ?_
             refine zBI Z Z Z Z ?_
             refine zBI Z Z Z Z ?_
             refine zBI Z Z Z Z ?_
             refine zBI Z Z Z Z ?_
             refine zBI Z Z Z Z ?_
             refine zBI Z Z Z Z ?_
             refine zBI Z Z Z Z ?_
             refine zBI Z Z Z Z ?_
             refine zBI Z Z Z Z ?_
             refine zAE Z Z Z Z Z ?_
             refine zM Z Z (zAM Z Z) ?_
             refine zAC ?_
             refine zf (by kernel_rfl) ?_
             repeat (first | refine zA ?_ | refine zAn rfl ?_)
             refine zG Z ?_
             repeat (first | refine zB (zE rfl) ?_ | refine zB (zL rfl) ?_ | refine zD ?_ | refine zA ?_ | refine zc ?_)
             exact fin _ ⟨Z, Z, Z, Z, Z, Z, trivial⟩
           · refine zAp 9 (.int .i64 0) Z (AEq.of_eq (by rw [sgn_zer hD])) ?_
             repeat (refine zR ?_)
             refine zx (by kernel_rfl) ?_
             refine z8 (fuel := 0) [0, 1, 2, 3, 4, 5, 6, 7, 8, 9, 10, 11, 12, 13, 14, 15, 16, 17, 18, 19, 20, 21, 22] [(0, .ptr G.length 0 0), (1, .int .i64 (cc : Nat)), (5, .int .i64 (b : Nat)), (6, .int .i64 (N : Nat)), (7, .int .i64 (i : Nat)), (8, .ptr (G.length + 4 + n) 0 0), (22, .int .i64 (β.length : Nat)), (23, .int .i64 (i : Nat)), (9, .int .i64 (0))] ⟨Z, Z, Z, Z, Z, Z, Z, Z, Z, trivial⟩ (by kernel_rfl) (by decide) Z Z ?_
             refine zM Z Z (zE Z) ?_
             refine zM Z Z (zCg Z Z) ?_
             refine zM Z Z (zE Z) ?_
             refine zAK Z Z Z Z (zE Z) ?_
             refine zAK Z Z Z Z (zCD Z Z) ?_
             refine zAK Z Z Z Z (zE Z) ?_
             refine zAK Z Z Z Z (zE Z) ?_
             refine zAK Z Z Z Z (zT Z) ?_
             refine zAK Z Z Z Z (zI Z Z Z Z Z Z) ?_
             refine zAK Z Z Z Z (zl Z Z Z (by assumption) (by rfl)) ?_
             refine zAK Z Z Z Z (zE Z) ?_
             refine zAK Z Z Z Z (zV Z Z Z (by assumption) (by rfl) (by first | (simp only [Nat.zero_add, Int.toNat_natCast, Int.toNat_zero]; exact Z) | exact Z) (by omega)) ?_
             refine zAK Z Z Z Z (zCI Z Z Z (by assumption) (by first | assumption | omega)) ?_
             refine zAK Z Z Z Z (zE Z) ?_
             refine zAK Z Z Z Z (zT Z) ?_
             refine zAK Z Z Z Z (zI Z Z Z Z Z Z) ?_
             refine zAK Z Z Z Z (zl Z Z Z (by assumption) (by rfl)) ?_
             refine zAK Z Z Z Z (zE Z) ?_
             refine zAK Z Z Z Z (zV Z Z Z (by assumption) (by rfl) (by first | (simp only [Nat.zero_add, Int.toNat_natCast, Int.toNat_zero]; exact Z) | exact Z) (by omega)) ?_
             refine zAK Z Z Z Z (zCI Z Z Z (by assumption) (by first | assumption | omega)) ?_
             refine zAK Z Z Z Z (zCg Z Z) ?_
             refine zAK Z Z Z Z (zAM Z Z) ?_
             refine zM Z Z (zAM Z Z) ?_
             refine zAC ?_
             refine zf (by kernel_rfl) ?_
             repeat (refine zA ?_)
             refine zF Z (fun h3 => ?_) (fun h3 => ?_)
             · rw [zEJ, zEJ] at h3
               rw [if_pos (.inr ⟨by omega, by omega⟩)] at fin
               skip
               refine zG Z ?_
               repeat (first | refine zB (zE rfl) ?_ | refine zB (zL rfl) ?_ | refine zD ?_ | refine zA ?_ | refine zc ?_)
               exact fin _ ⟨Z, Z, Z, Z, Z, Z, trivial⟩
             · rw [zEJ, zEJ] at h3
               rw [if_neg (by unfold zHB; omega)] at fin
               repeat (first | refine zA ?_ | refine zc ?_ | refine zi ?_)
               exact fin _ ⟨Z, Z, Z, Z, Z, Z, trivial⟩
           · rw [if_neg (by unfold zHB; omega)] at fin
             refine zAp 9 (.int .i64 1) Z (AEq.of_eq (by rw [sgn_pos hD])) ?_
             repeat (refine zR ?_)
             refine zx (by kernel_rfl) ?_
             refine z8 (fuel := 0) [0, 1, 2, 3, 4, 5, 6, 7, 8, 9, 10, 11, 12, 13, 14, 15, 16, 17, 18, 19, 20, 21, 22] [(0, .ptr G.length 0 0), (1, .int .i64 (cc : Nat)), (5, .int .i64 (b : Nat)), (6, .int .i64 (N : Nat)), (7, .int .i64 (i : Nat)), (8, .ptr (G.length + 4 + n) 0 0), (22, .int .i64 (β.length : Nat)), (23, .int .i64 (i : Nat)), (9, .int .i64 (1))] ⟨Z, Z, Z, Z, Z, Z, Z, Z, Z, trivial⟩ (by kernel_rfl) (by decide) Z Z ?_
             refine zM Z Z (zE Z) ?_
             refine zM Z Z (zCg Z Z) ?_
             refine zM Z Z (zE Z) ?_
             refine zAK Z Z Z Z (zE Z) ?_
             refine zAK Z Z Z Z (zCD Z Z) ?_
             refine zAK Z Z Z Z (zE Z) ?_
             refine zAE Z Z Z Z Z ?_
             refine zAE Z Z Z Z Z ?_
             refine zAE Z Z Z Z Z ?_
             refine zAE Z Z Z Z Z ?_
             refine zAE Z Z Z Z Z ?_
             refine zAE Z Z Z Z Z ?_
             refine zAE Z Z Z Z Z ?_
             refine zAE Z Z Z Z Z ?_
             refine zAE Z Z Z Z Z ?_
             refine zAE Z Z Z Z Z ?_
             refine zAE Z Z Z Z Z ?_
             refine zAE Z Z Z Z Z ?_
             refine zAE Z Z Z Z Z ?_
             refine zAE Z Z Z Z Z ?_
             refine zAE Z Z Z Z Z ?_
             refine zAK Z Z Z Z (zAM Z Z) ?_
             refine zM Z Z (zAM Z Z) ?_
             refine zAC ?_
             refine zf (by kernel_rfl) ?_
             repeat (first | refine zA ?_ | refine zr rfl ?_ | refine zc ?_ | refine zi ?_)
             exact fin _ ⟨Z, Z, Z, Z, Z, Z, trivial⟩
   · refine zBi (zd G none (N + 1) w n X d β []) [some ⟨120, .box (zm (at2 X i cc))⟩] [(0, .ptr G.length 0 0), (1, .int .i64 (cc : Nat)), (5, .int .i64 (optZ (zBW X β cc N (i + 1)))), (6, .int .i64 (N : Nat)), (22, .int .i64 (β.length : Nat)), (23, .int .i64 (i : Nat))] (by rw [zAj]; rfl) ⟨Z, Z, Z, Z, Z, Z, trivial⟩ (fun h hh => by rw [hfix] at hh; rw [hlen]; exact hh)
       (by rw [hlen]; exact zCC hG _ (by omega) (fun o ho => by cases ho) (fun o ho => by cases ho)) (by rw [hlen]; simp [zCa, zBt]; omega) ?_
     refine rn3 ?_
     exact zQ ⟨i + 1, by omega, by omega, ⟨Z, Z, Z, Z, Z, Z, trivial⟩, Z⟩
 · have hie : i = β.length := by omega
   subst hie
   refine rn5 ?_
   exact zO hR Z ⟨Z, Z⟩
theorem zME (x : Int) : (0 ≤ sgn x) = (¬ x < 0) := by
 apply propext
 unfold sgn
 constructor
 · intro h
   split at h
   · exact absurd h (by decide)
   · assumption
 · intro h
   rw [if_neg h]
   split <;> decide
/-- the tableau of a state -/
abbrev stH (G : zN) (N w n : Nat) (t : St) : zN := zd G none (N + 1) w n t.rows t.den t.basis []
theorem run_ok (G : zN) (hG : OkG G) (m N w : Nat) (M : Tab) (s : St) (hi : Inv m N M s) (hf : zDZ m N s) (hw : w ≤ N) (K : Nat) (hK : zBq m N w (zAo m N w s K) = none) (E : Nat) (hm : m + 1 ≤ 1000000) (hN : N + 1 ≤ 1000000)
   (hB : ∀ t, Inv m N M t → (∀ i j, i < m + 1 → j < N + 1 → (at2 t.rows i j).natAbs ≤ 10 ^ E) ∧ t.den.natAbs ≤ 10 ^ E) (hE : E ≤ 3600000) :
   zY Tryz.prog 169 [.ptr G.length 0 0] (stH G N w (m + 1) s) (fun h => h < (stH G N w (m + 1) s).length)
     (fun r' H' => r' = .int .i64 (resZ m w (zAo m N w s K)) ∧ H' = stH G N w (m + 1) (zAo m N w s K)) := by
 refine zK (P := Tryz.prog) (fn := Tryz.f169) Z Z (by kernel_rfl) Z (fun c hR hfix => ?_)
 have hlen : ∀ t : St, t.rows.length = m + 1 → (stH G N w (m + 1) t).length = G.length + 4 + (m + 1) := fun t ht => by rw [zBC, ht]; rfl
 rw [hlen s hi.n] at hfix
 refine rn1 ?_
 refine zt (ι := Nat) (fun k => [(0, .ptr G.length 0 0)]) (fun k => stH G N w (m + 1) (zAo m N w s k)) (fun k => k ≤ K) (fun k => K - k) 0 ⟨⟨Z, trivial⟩, Z, Nat.zero_le _⟩ ?_
 intro k hk
 obtain ⟨hi', hf'⟩ := zER hi hf hw k
 obtain ⟨hB1, hB2⟩ := hB _ hi'
 have hnx := fun s' => @zOu m N w s k s'
 have hen := @iter_end m N w s k K
 have hkK : zBq m N w (zAo m N w s k) ≠ none → k ≠ K := fun h e => h (by rw [e]; exact hK)
 generalize zAo m N w s k = t at *
 have hn := hi'.n
 have hβ := hi'.b
 have hrow := hi'.row
 have hd : t.den ≠ 0 := by have := hi'.dp; omega
 have lm : (t.rows.getD m []).length = N + 1 := hrow _ (zAt [] (by omega))
 have f1 := zA7 (G := G) (F := none) (L := N + 1) (w := w) (k := m + 1) (X := t.rows) (d := t.den) (β := t.basis) (T := [])
 have f2 := zCc (G := G) (F := none) (L := N + 1) (w := w) (k := m + 1) (X := t.rows) (d := t.den) (β := t.basis) (T := [])
 have f3 := zCM (G := G) (F := none) (L := N + 1) (w := w) (k := m + 1) (X := t.rows) (d := t.den) (β := t.basis) (T := []) (a := m) (by omega)
 refine rn1 ?_
 refine zx (by kernel_rfl) ?_
 refine z8 (fuel := 0) [0, 1, 2, 3, 4, 5, 6, 7, 8, 9, 10, 11, 12] [(0, .ptr G.length 0 0)] ⟨Z, trivial⟩ (by kernel_rfl) (by decide) Z Z ?_
 refine zM Z Z (zE Z) ?_
 refine zM Z Z (zT Z) ?_
 refine zM Z Z (zI Z Z Z Z Z Z) ?_
 refine zM Z Z (zl Z Z Z (by assumption) (by rfl)) ?_
 refine zM Z Z (zE Z) ?_
 refine zM Z Z (zT Z) ?_
 refine zM Z Z (zI Z Z Z Z Z Z) ?_
 refine zM Z Z (zl Z Z Z (by assumption) (by rfl)) ?_
 refine zM Z Z (zAR Z Z Z) ?_
 refine zM Z Z (zBc Z Z (by omega)) ?_
 refine zM Z Z (zV Z Z Z (by assumption) (by rfl) (by first | (simp only [Nat.zero_add, Int.toNat_natCast, Int.toNat_zero]; exact Z) | exact Z) (by omega)) ?_
 refine zM Z Z (zAm Z Z Z (by assumption) Z (by first | assumption | omega)) ?_
 refine zM Z Z (zL Z) ?_
 refine zAC ?_
 refine zf (by kernel_rfl) ?_
 repeat (refine zA ?_)
 refine zAp 3 (.sl (G.length + 4 + m) 0 (N + 1)) Z (AEq.of_eq (by show AV.sl (G.length + 4 + (((m + 1 : Nat) : Int) - 1).toNat) 0 (N + 1) = _; rw [show (((m + 1 : Nat) : Int) - 1).toNat = m by omega])) ?_
 skip
 refine zR ?_
 apply zAP (H := stH G N w (m + 1) t) [(0, .ptr G.length 0 0), (4, .int .i64 (zCR m w t : Nat))]
 · intro fin
   refine rn1 ?_
   refine zt (ι := Nat) (fun a => [(0, .ptr G.length 0 0), (3, .sl (G.length + 4 + m) 0 (N + 1)), (4, .int .i64 (a : Nat))]) (fun _ => stH G N w (m + 1) t) (fun a => a ≤ w ∧ zCP t.rows m (w - a) a = zCR m w t) (fun a => w - a) 0 ⟨⟨Z, Z, Z, trivial⟩, Z, Nat.zero_le _, Z⟩ ?_
   rintro a ⟨ha, hcol⟩
   by_cases haw : a < w
   · have g1 : a < (zC (t.rows.getD m [])).len := by show a < (t.rows.getD m []).length; omega
     have cs := zD1 (at2 t.rows m a)
     repeat (first | refine zB (zE rfl) ?_ | refine zR ?_ | refine zG rfl ?_ | refine zB (zCg rfl rfl) ?_ | refine zB (zT rfl) ?_ | refine zB (zI rfl rfl rfl rfl rfl rfl) ?_ | refine zB (zl rfl rfl rfl (by assumption) (by rfl)) ?_)
     refine zH 24 (.bool true) Z (AEq.of_eq (by rw [decide_eq_true (by omega)])) ?_
     repeat (first | refine zB (zE rfl) ?_ | refine zAL rfl rfl ?_ | refine zB (zV rfl rfl rfl (by assumption) (by rfl) (by first | (simp only [Nat.zero_add, Int.toNat_natCast, Int.toNat_zero]; exact rfl) | exact rfl) (by omega)) ?_ | refine zB (zg rfl rfl rfl rfl (by assumption) (by rfl) (by rfl) (by first | exact Nat.zero_lt_one | assumption | omega)) ?_)
     refine zH 28 (zA6 (at2 t.rows m a)) Z (AEq.of_eq Z) ?_
     refine zJ Z Z Z cs ?_
     repeat (first | refine zD ?_ | refine zA ?_ | refine zAL rfl rfl ?_ | refine zB (zDY rfl rfl) ?_ | refine zB (zAM rfl rfl) ?_)
     refine zF Z (fun h1 => ?_) (fun h1 => ?_)
     · rw [zME] at h1
       refine rn5 ?_
       exact zQ ⟨a + 1, ⟨by omega, by rw [← hcol, show w - a = (w - (a + 1)) + 1 by omega, enter_go h1]⟩, by omega, ⟨Z, Z, Z, trivial⟩, Z⟩
     · rw [zME] at h1
       rw [zMw (by omega)] at hcol
       repeat (first | refine zA ?_ | refine zAg ?_ | refine zw ?_ | refine zv ?_ | refine zAD ?_)
       exact fin _ ⟨Z, by rw [← hcol]; rfl, trivial⟩
   · have haw' : a = w := by omega
     subst haw'
     rw [Nat.sub_self] at hcol
     have hcol : a = zCR m a t := hcol
     repeat (first | refine zB (zE rfl) ?_ | refine zR ?_ | refine zG rfl ?_ | refine zB (zCg rfl rfl) ?_ | refine zB (zT rfl) ?_ | refine zB (zI rfl rfl rfl rfl rfl rfl) ?_ | refine zB (zl rfl rfl rfl (by assumption) (by rfl)) ?_)
     refine zH 24 (.bool false) Z (AEq.of_eq (by rw [decide_eq_false (by omega)])) ?_
     repeat (first | refine zD ?_ | refine zA ?_ | refine zAv rfl rfl rfl ?_ | refine zr rfl ?_ | refine zAg ?_ | refine zw ?_ | refine zv ?_ | refine zAD ?_ | refine zB (zAM rfl rfl) ?_)
     exact fin _ ⟨Z, by rw [← hcol]; rfl, trivial⟩
 · have hcl : zCR m w t ≤ w := Nat.le_trans (zEa t.rows m w 0).2.1 (by omega)
   repeat (first | refine zB (zE rfl) ?_ | refine zD ?_ | refine zA ?_ | refine zR ?_ | refine zG rfl ?_ | refine zB (zCD rfl rfl) ?_ | refine zB (zT rfl) ?_ | refine zB (zI rfl rfl rfl rfl rfl rfl) ?_ | refine zB (zl rfl rfl rfl (by assumption) (by rfl)) ?_)
   refine zF Z (fun h1 => ?_) (fun h1 => ?_)
   · have h1' : zCR m w t = w := by omega
     have e := hen (zOw h1') hk
     refine rn6 ?_
     exact zO hR Z ⟨by rw [e]; unfold resZ; rw [if_pos h1']; rfl, by rw [e]⟩
   · have h1' : zCR m w t ≠ w := by omega
     have cl := leave_ok G hG N w (m + 1) t.rows t.den t.basis (zCR m w t) E hn (by omega) hm hrow hN (by omega) (by omega) hB1 hE
     rw [hβ] at cl
     refine rn1 ?_
     refine zCV Z Z Z cl (fun _ h => h) (fun _ h => h) ?_
     rintro r' H' ⟨rfl, rfl⟩
     refine rn4 ?_
     refine zF Z (fun h2 => ?_) (fun h2 => ?_)
     · rw [zMS] at h2
       have e := hen (zO5 h1' h2) hk
       refine rn6 ?_
       exact zO hR Z ⟨by rw [e]; unfold resZ; rw [if_neg h1']; rfl, by rw [e]⟩
     · cases hl : zBW t.rows t.basis (zCR m w t) N m with
       | none => rw [hl] at h2; exact absurd (show (-1 : Int) < 0 by decide) h2
       | some r =>
         have hs := step_go h1' hl
         have hr := (zFz _ _ _ _ _ _ hl).lt
         have hkk := hkK (by rw [hs]; exact fun q => by cases q)
         have e := hnx _ hs
         have cp := zMk G hG (N + 1) w (m + 1) t.rows t.den t.basis r (zCR m w t) E hn hm hrow hN (by omega) (by omega) (by omega) hd hB1 hB2 hE
         refine rn1 ?_
         refine zCV Z Z Z cp (fun _ h => h) (fun _ h => h) ?_
         rintro r' H' ⟨rfl, rfl⟩
         refine rn5 ?_
         exact zQ ⟨k + 1, by omega, by omega, ⟨Z, trivial⟩, by rw [e]; rfl⟩
end Go.Proofs.YtnkealfaldjipaaGreatDoor
namespace Go.Ax
variable [Pins]
open Go.RowKit
theorem zY.cutR {P : Program} {f : FuncId} {args : List AV} {H : zN} {fix : Nat → Prop} {K K' : AV → zN → Prop} (hc : zY P f args H fix K)
   (hK : ∀ r H', K r H' → ∃ H0 H1, H' = H0 ++ H1 ∧ (∀ h, fix h → h < H0.length) ∧ (∀ (h : Nat) (o : AObj), H0[h]? = some (some o) → zBo H0.length o.c) ∧ zBt H0.length r = true ∧ K' r H0) : zY P f args H fix K' := by
 refine ⟨hc.1, fun w σ S vals h0 h1 h2 h3 => Calls.mono (hc.2 w σ S vals h0 h1 h2 h3) fun e w' he => ?_⟩
 obtain ⟨v, r, σ', S', H', g1, g2, g3, g4, g5⟩ := he
 obtain ⟨H0, H1, rfl, hf, hbH, hbr, hk⟩ := hK _ _ g5
 have hs : ∀ h, h < H0.length → cutσ H0.length σ' h = σ' h := fun h hl => if_pos hl
 have hget : ∀ {h : Nat} {o : AObj}, H0[h]? = some (some o) → h < H0.length ∧ (H0 ++ H1)[h]? = some (some o) := by
   intro h o ho
   have hl : h < H0.length := (List.getElem?_eq_some_iff.1 ho).1
   exact ⟨hl, by rw [List.getElem?_append_left hl]; exact ho⟩
 refine ⟨v, r, cutσ H0.length σ', S', H0, g1, ⟨fun h o ho => ?_, fun h h' o o' b s C s' C' q1 q2 e1 e2 => ?_, g2.small, fun h hl => if_neg (by omega)⟩, g3.cutv hbr _ hs, ⟨g4.os, g4.output, g4.tape, g4.size, g4.block, g4.S1, g4.S2, fun h hh => by rw [hs h (hf h hh)]; exact g4.fixed h hh, hf, fun h o b s C q e => ?_⟩, hk⟩
 · obtain ⟨hl, ho'⟩ := hget ho
   rw [hs h hl]
   rcases g2.live h o ho' with g | ⟨b, C, cur, k1, k2, k3, k4, k5, k6, k7⟩
   · exact .inl g
   · refine .inr ⟨b, C, cur, k1, k2.cutv (fun ks vs hc => (hbH h o ho).mp hc) hs, k3, k4, k5, k6, fun i j hi hj => ?_⟩
     obtain ⟨v, m1, m2, m3⟩ := k7 i j hi hj
     exact ⟨v, m1, m2.cutv ((hbH h o ho).row i j hi hj) _ hs, m3⟩
 · obtain ⟨hl, ho⟩ := hget q1
   obtain ⟨hl', ho'⟩ := hget q2
   rw [hs h hl] at e1
   rw [hs h' hl'] at e2
   exact g2.dist h h' o o' b s C s' C' ho ho' e1 e2
 · obtain ⟨hl, ho⟩ := hget q
   rw [hs h hl] at e
   exact g4.own h o b s C ho e
/-- The result lies in a cell that is known by a fact. -/
theorem zF1 {P : Program} {fr : Fr} {H : zN} {t h : Nat} {ty oty : TypeId} {l : List AV} {fs : Array Field} {i : TypeInfo} (hl : look t fr = some (.ptr h 0 0)) (hh : H[h]? = some (some ⟨oty, .box l⟩)) (hu : P.underlying ty = some (.struct fs)) (hi : P.info? ty = some i) (hsz : Nat.beq i.size l.length = true) :
   zGK P fr H [.cell t ty] = some [.agg l] := by
 simp only [zGK, zMq, hl, hh, hu, hi, hsz]
 rfl
/-- A call that reads the own memory and leaves it as it is. -/
theorem px_c {P : Program} {fn : Func} {c : Ctx} {H : zN} {all : Array Oper} {K0 : Fr} {i : Nat} {r : List Nat} {st : Steps} {G : Steps → Prop} {d : Nat} {g : Operand} {args : List Operand} {ats : Array TypeId} {ty : TypeId} {pos : String} {after : Array Edge} {f : FuncId} {caps ags ags' : List AV} {v : AV} {K : Fr} (hi : all[i]? = some ⟨some d, .call { callee := .value g, args := args.toArray, argTypes := ats }, ty, pos, after, none⟩)
   (hK : zFL st K0 ⟨some d, .call { callee := .value g, args := args.toArray, argTypes := ats }, ty, pos, after, none⟩ = K) (hg : ev K g = some (.fn f caps)) (ha : evs K args = some ags) (has : ags ++ caps = ags') (hcall : zY P f ags' H (fun h => h < H.length) (fun r' H' => r' = v ∧ H' = H))
   (h : zDz P fn c H all K0 r ((i, d, v) :: st) G) : zDz P fn c H all K0 (i :: r) st G :=
 zI0 hi (hK ▸ fun k fr hk h2 => zCV (zHZ hk hg) (zIC hk ha) has hcall (fun _ h => h) (fun _ h => h) (fun r H' e => by obtain ⟨rfl, rfl⟩ := e; exact h2)) h
end Go.Ax
namespace Go.Proofs.YtnkealfaldjipaaGreatDoor
open Go.Ax Go.Ax.Bg Go.Ax.Rt Go.RowKit Go.Ax.Dt Go.Ax.Sx
attribute [local irreducible] Ax zBR QOp zY zBK
set_option maxRecDepth 100000
set_option maxHeartbeats 4000000
section
variable {G : zN} {F : Option AObj} {L w k : Nat} {X : Tab} {d : Int} {β : List Nat} {T : zN}
theorem zFe (o : Option AObj) : (zd G F L w k X d β (T ++ [o]))[G.length + 4 + X.length + T.length]? = some o := by
 rw [zAk, List.getElem?_append_right (Nat.le_refl _), Nat.sub_self]; rfl
theorem zCh (o o' : Option AObj) : (zd G F L w k X d β (T ++ [o])).set (G.length + 4 + X.length + T.length) o' = zd G F L w k X d β (T ++ [o']) := by
 rw [zAQ]
 congr 1
 rw [List.set_append_right _ _ (Nat.le_refl _), Nat.sub_self]; rfl
end
theorem q_ok (G : zN) (hG : OkG G) (L w k : Nat) (X : Tab) (d : Int) (β : List Nat) (T : zN) (hT : ∀ o : AObj, some o ∈ T → zBo (zd G none L w k X d β T).length o.c) (x : Int) (hd : d ≠ 0) (hx : (zX x.natAbs).length ≤ 1000000) (hdl : (zX d.natAbs).length ≤ 1000000) :
   zY Tryz.prog 210 [.ptr G.length 0 0, zA6 x] (zd G none L w k X d β T) (fun h => h < (zd G none L w k X d β T).length)
     (fun r' H' => r' = qA (Rat.divInt x d) ∧ H' = zd G none L w k X d β T) := by
 have hlen : (zd G none L w k X d β T).length = G.length + 4 + X.length + T.length := zBC
 refine zY.cutR (K := fun r' H' => r' = qA (Rat.divInt x d) ∧ ∃ H1, H' = zd G none L w k X d β T ++ H1) ?_ (fun r' H' h => ?_)
 · refine zK (P := Tryz.prog) (fn := Tryz.f210) Z Z (by kernel_rfl) Z (fun c hR hfix => ?_)
   have cf := zHy x d hd hx hdl
   refine rn6 ?_
   refine zAW (zd G none L w k X d β (T ++ [some ⟨120, .box (zm x)⟩] ++ [some ⟨122, .box [.bool false, .nil, .nil]⟩])) (by rw [zAj, zAj]; rfl) ?_
   refine zAp 3 (.ptr (G.length + 4 + X.length + T.length) 0 0) Z (AEq.of_eq (by rw [hlen])) ?_
   refine zAp 4 (.ptr (G.length + 4 + X.length + (T ++ [some (⟨120, .box (zm x)⟩ : AObj)]).length) 0 0) Z (AEq.of_eq (by rw [zAj, zBC]; rfl)) ?_
   have f1 := zA7 (G := G) (F := none) (L := L) (w := w) (k := k) (X := X) (d := d) (β := β) (T := T ++ [some ⟨120, .box (zm x)⟩] ++ [some ⟨122, .box [.bool false, .nil, .nil]⟩])
   have f2 := zAk (G := G) (F := none) (L := L) (w := w) (k := k) (X := X) (d := d) (β := β) (T := T ++ ([some ⟨120, .box (zm x)⟩] ++ [some ⟨122, .box [.bool false, .nil, .nil]⟩])) T.length
   rw [List.getElem?_append_right (Nat.le_refl _), Nat.sub_self] at f2
   rw [← List.append_assoc] at f2
   have f3 := zFe (G := G) (F := none) (L := L) (w := w) (k := k) (X := X) (d := d) (β := β) (T := T ++ [some ⟨120, .box (zm x)⟩]) (some ⟨122, .box [.bool false, .nil, .nil]⟩)
   have f2 : (zd G none L w k X d β (T ++ [some ⟨120, .box (zm x)⟩] ++ [some ⟨122, .box [.bool false, .nil, .nil]⟩]))[G.length + 4 + X.length + T.length]? = some (some (⟨120, .box (zm x)⟩ : AObj)) := f2
   refine zx (by kernel_rfl) ?_
   refine z8 (fuel := 1) [0, 1, 2, 3, 4, 5] [(0, .ptr G.length 0 0), (3, .ptr (G.length + 4 + X.length + T.length) 0 0), (4, .ptr (G.length + 4 + X.length + (T ++ [some (⟨120, .box (zm x)⟩ : AObj)]).length) 0 0)] ⟨Z, Z, Z, trivial⟩ (by kernel_rfl) (by decide) Z Z ?_
   refine zM Z Z (zg Z Z Z Z (by assumption) (by rfl) (by rfl) (by first | exact Nat.zero_lt_one | assumption | omega)) ?_
   refine zM Z Z (zE Z) ?_
   refine zM Z Z (zT Z) ?_
   refine zM Z Z (zI Z Z Z Z Z Z) ?_
   refine zM Z Z (zCn Z Z Z Z (by assumption) (by rfl) (by rfl) (by first | exact Nat.zero_lt_one | assumption | omega)) ?_
   refine zAf Z Z Z Z Z cf ?_
   refine zAC ?_
   unfold qA
   refine zW (is := [6]) (by kernel_rfl) (by simp) Z ⟨fun o ho => ?_, trivial⟩
   all_goals (cases ho)
   refine zU (c' := .box (z7 (Rat.divInt x d))) Z Z Z f3 Z Nat.zero_lt_one Z Z (fun i' j' hi' hj' => ?_) ?_
   · rw [if_pos (Nat.lt_one_iff.1 hi')]; rfl
   refine zS (zd G none L w k X d β (T ++ [some ⟨120, .box (zm x)⟩] ++ [some ⟨122, .box (z7 (Rat.divInt x d))⟩])) (zCh _ _) ?_
   have f4 := zFe (G := G) (F := none) (L := L) (w := w) (k := k) (X := X) (d := d) (β := β) (T := T ++ [some ⟨120, .box (zm x)⟩]) (some ⟨122, .box (z7 (Rat.divInt x d))⟩)
   refine rn1 ?_
   refine zf (by kernel_rfl) ?_
   refine rn0 ?_
   exact zO hR (zF1 Z f4 Z Z Z) ⟨Z, _, by rw [zAj, List.append_assoc]⟩
 · obtain ⟨rfl, H1, rfl⟩ := h
   exact ⟨_, H1, rfl, fun h hh => hh, zCC hG _ (by omega) (fun o ho => by cases ho) hT, rfl, rfl, rfl⟩
end Go.Proofs.YtnkealfaldjipaaGreatDoor
namespace Go.Proofs.YtnkealfaldjipaaGreatDoor
open Go.Ax Go.Ax.Bg Go.Ax.Rt Go.RowKit Go.Ax.Dt Go.Ax.Sx
set_option maxRecDepth 100000
set_option maxHeartbeats 4000000
/-- A row of zeros. -/
theorem zHP {A : zN} {t : TypeId} {n : Nat} : ∀ (h : Nat) (o' : AObj), (A ++ [some ⟨t, zC (List.replicate n 0)⟩])[h]? = some (some o') → ∃ o : AObj, (A ++ [some ⟨t, zBF n [.bool false, .nil]⟩])[h]? = some (some o) ∧ o'.ty = o.ty ∧ o'.c.len = o.c.len ∧ o'.c.kd = o.c.kd ∧ ∀ i j, i < o.c.len → j < o.c.sz → AEq (o.c.at i j) (o'.c.at i j) := by
 intro h o' ho'
 by_cases hl : h < A.length
 · rw [List.getElem?_append_left hl] at ho'
   refine ⟨o', by rw [List.getElem?_append_left hl]; exact ho', Z, Z, Z, fun i j _ _ => AEq.of_eq Z⟩
 · have hh : h = A.length := by
     have h1 := (List.getElem?_eq_some_iff.1 ho').1
     rw [List.length_append] at h1
     have h1 : h < A.length + 1 := h1
     omega
   subst hh
   rw [List.getElem?_append_right (Nat.le_refl _), Nat.sub_self] at ho'
   cases ho'
   refine ⟨⟨t, zBF n [.bool false, .nil]⟩, by rw [List.getElem?_append_right (Nat.le_refl _), Nat.sub_self]; rfl, Z, ?_, Z, fun i j hi hj => ?_⟩
   · simp [zDV, Cells.len, zBF]
   · have hi : i < n := by simpa [Cells.len, zBF] using hi
     have hj : j < 2 := hj
     show AEq _ ((zm ((List.replicate n (0 : Int)).getD i 0)).getD j .any)
     rw [zDg 0 (by simpa using hi), List.getElem_replicate]
     match j, hj with
     | 0, _ => exact AEq.of_eq rfl
     | 1, _ => exact AEq.natNil
theorem zn.set {H H' : zN} (hs : zn H H') (h : Nat) {x x' : Option AObj} (hx : ∀ o', x' = some o' → ∃ o, x = some o ∧ o'.ty = o.ty ∧ CEq o.c o'.c) : zn (H.set h x) (H'.set h x') := by
 refine ⟨by rw [List.length_set, List.length_set, hs.1], fun i o' ho' => ?_⟩
 rw [List.getElem?_set] at ho' ⊢
 by_cases e : h = i
 · rw [if_pos e] at ho' ⊢
   split at ho'
   · rename_i hl
     rw [if_pos (by rw [← hs.1]; exact hl)]
     cases ho'
     obtain ⟨o, h1, h2⟩ := hx o' rfl
     exact ⟨o, by rw [h1], h2⟩
   · cases ho'
 · rw [if_neg e] at ho' ⊢
   exact hs.2 i o' ho'
theorem zn.trans' {A B C : zN} (h1 : zn A B) (h2 : zn B C) : zn A C := by
 refine ⟨h2.1.trans h1.1, fun h o ho => ?_⟩
 obtain ⟨o1, g1, g2, g3⟩ := h2.2 h o ho
 obtain ⟨o2, k1, k2, k3⟩ := h1.2 h o1 g1
 refine ⟨o2, k1, g2.trans k2, ?_⟩
 obtain ⟨a1, a2, a3⟩ := k3
 obtain ⟨b1, b2, b3⟩ := g3
 exact ⟨b1.trans a1, b2.trans a2, fun i j hi hj => (b3 i j (by rw [a1]; exact hi) (by rw [zKT a2]; exact hj)).trans (a3 i j hi hj)⟩
/-- The tableau while its rows are moved. -/
abbrev zI9 (G : zN) (L w : Nat) (X : Tab) (d : Int) (β : List Nat) (T : zN) : zN :=
 G ++ (some ⟨253, .box [.any, .bool (decide (d < 0)), zj d.natAbs, .sl (G.length + 2) 0 β.length, .int .i64 (w : Nat)]⟩ :: none :: some ⟨3, zBs β⟩ :: zAu ⟨248, zBb G.length X.length L⟩ 120 zC X T)
theorem zOg {G : zN} {L w : Nat} {X : Tab} {d : Int} {β : List Nat} {T : zN} : (zI9 G L w X d β T)[G.length]? = some (some ⟨253, .box [.any, .bool (decide (d < 0)), zj d.natAbs, .sl (G.length + 2) 0 β.length, .int .i64 (w : Nat)]⟩) := zDr (i := 0) rfl
theorem zOL {G : zN} {L w k : Nat} {X : Tab} {d : Int} {β : List Nat} {T : zN} : (zI9 G L w X d β T).set G.length (some ⟨253, zDj G.length k β.length w d⟩) = zd G none L w k X d β T := zB2 (i := 0) _ rfl
theorem zII {α : Type} {O : AObj} {t : TypeId} {f : α → Cells} {X : List α} {x : α} {T : zN} : zAu O t f X (some ⟨t, f x⟩ :: T) = zAu O t f (X ++ [x]) T := by
 unfold zAu
 congr 1
 show zCH t f X ++ ([some ⟨t, f x⟩] ++ T) = _
 rw [← List.append_assoc, zNT]
/-- A row more: the outer row is moved. -/
theorem zKl {G : zN} {L w k : Nat} {X : Tab} {x : List Int} {d : Int} {β : List Nat} {a : Option AObj} {c' : Cells} (hG : zo (G.length + 3) G = G)
   (hc : CEq c' (zBb G.length (X.length + 1) L)) :
   zn ((zo (G.length + 3) (zd G none L w k X d β [some ⟨120, zC x⟩, a])).set (G.length + 3) (some ⟨248, c'⟩)) (zI9 G L w (X ++ [x]) d β [none]) := by
 unfold zd
 rw [zDL, hG]
 have e : zo (G.length + 3) (some (⟨253, zDj G.length k β.length w d⟩ : AObj) :: none :: some ⟨3, zBs β⟩ :: zAu ⟨248, zBb G.length X.length L⟩ 120 zC X [some ⟨120, zC x⟩, a])
     = some ⟨253, .box [.any, .bool (decide (d < 0)), zj d.natAbs, .sl (G.length + 2) 0 β.length, .int .i64 (w : Nat)]⟩ :: none :: some ⟨3, zBs β⟩ :: zAu ⟨248, (zBb G.length X.length L).forget (G.length + 3)⟩ 120 zC X (zo (G.length + 3) [some ⟨120, zC x⟩, a]) := by
   show some (⟨_, Cells.box (AV.forgets _ _)⟩ : AObj) :: none :: some (⟨_, zBs β⟩ : AObj) :: zo (G.length + 3) (zAu _ _ _ X _) = _
   rw [zDx (G.length + 3) (zBO (G.length + 3))]
   simp [AV.forgets, AV.forget, zj, zAB]
 rw [e]
 refine zn.trans' (B := G ++ (some ⟨253, .box [.any, .bool (decide (d < 0)), zj d.natAbs, .sl (G.length + 2) 0 β.length, .int .i64 (w : Nat)]⟩ :: none :: some ⟨3, zBs β⟩ :: zAu ⟨248, c'⟩ 120 zC X (zo (G.length + 3) [some ⟨120, zC x⟩, a]))) ?_ ?_
 · rw [show (G ++ (some (⟨253, .box [.any, .bool (decide (d < 0)), zj d.natAbs, .sl (G.length + 2) 0 β.length, .int .i64 (w : Nat)]⟩ : AObj) :: none :: some ⟨3, zBs β⟩ :: zAu ⟨248, (zBb G.length X.length L).forget (G.length + 3)⟩ 120 zC X (zo (G.length + 3) [some ⟨120, zC x⟩, a]))).set (G.length + 3) (some ⟨248, c'⟩) = _ from zB2 (i := 3) _ rfl]
   exact zn.refl _
 · refine zn.append (zn.refl _) (zn.same (zn.same (zn.same ?_)))
   have hl : zo (G.length + 3) [some (⟨120, zC x⟩ : AObj), a] = [some ⟨120, zC x⟩, zA0 (G.length + 3) a] := by
     show [some (⟨120, (zC x).forget _⟩ : AObj), _] = _
     rw [zBO]
   rw [hl, zII]
   refine zGV ⟨Z, ?_⟩ (zn.drop zn.nil)
   show CEq c' (zBb G.length (X ++ [x]).length L)
   rw [List.length_append]; exact hc
theorem zET (b n L : Nat) (cx : Cells) (h0 : cx.at 0 0 = .sl (b + 4 + n) 0 L) : CEq (.fn (n + 1) 1 (fun i j => bif Nat.blt i n then (zBb b n L).at i j else cx.at (0 + (i - n)) j)) (zBb b (n + 1) L) := by
 refine ⟨Z, Z, fun i j hi hj => ?_⟩
 obtain rfl := Nat.lt_one_iff.1 (show j < 1 from hj)
 have hi : i < n + 1 := hi
 show AV.sl (b + 4 + i) 0 L = bif Nat.blt i n then AV.sl (b + 4 + i) 0 L else cx.at (0 + (i - n)) 0
 by_cases e : i < n
 · rw [show Nat.blt i n = true from Nat.ble_eq_true_of_le e]; rfl
 · have e2 : i = n := by omega
   subst e2
   rw [show Nat.blt i i = false by
     cases h : Nat.blt i i with
     | false => rfl
     | true => exact absurd (Nat.le_of_ble_eq_true h) (Nat.not_succ_le_self i)]
   rw [Nat.sub_self, Nat.add_zero]
   exact h0.symm
theorem zHx {H : zN} {h i m : Nat} {o : AObj} (hh : H[h]? = some (some o)) : zKZ H (.sl h i m) = some (o.c, i, m) := by
 simp only [zKZ, hh]
/-- forgetting what lies behind the tableau -/
theorem zIS {G : zN} {L w k : Nat} {X : Tab} {d : Int} {β : List Nat} {T T' : zN} (h : Nat) (hG : zo h G = G) (hh : G.length + 4 + X.length ≤ h) (hT : zn (zo h T) T') :
   zn (zo h (zd G none L w k X d β T)) (zd G none L w k X d β T') := by
 unfold zd
 rw [zDL, hG]
 refine zn.append (zn.refl _) ?_
 have e : zo h (some (⟨253, zDj G.length k β.length w d⟩ : AObj) :: none :: some ⟨3, zBs β⟩ :: zAu ⟨248, zBb G.length X.length L⟩ 120 zC X T)
     = some ⟨253, zDj G.length k β.length w d⟩ :: none :: some ⟨3, zBs β⟩ :: zAu ⟨248, (zBb G.length X.length L).forget h⟩ 120 zC X (zo h T) := by
   show some (⟨_, Cells.box (AV.forgets _ _)⟩ : AObj) :: none :: some (⟨_, zBs β⟩ : AObj) :: zo h (zAu _ _ _ X _) = _
   rw [zDx h (zBO h)]
   simp [AV.forgets, AV.forget, zj, zAB (show G.length + 3 ≠ h by omega), zAB (show G.length + 2 ≠ h by omega)]
 rw [e]
 refine zn.same (zn.same (zn.same (zGV ⟨Z, Z, Z, fun i j hi hj => ?_⟩ hT)))
 obtain rfl := Nat.lt_one_iff.1 (show j < 1 from hj)
 have hi : i < X.length := hi
 show AV.sl (G.length + 4 + i) 0 L = AV.forget h (AV.sl (G.length + 4 + i) 0 L)
 unfold AV.forget
 rw [zAB (show G.length + 4 + i ≠ h by omega)]; rfl
/-- an object behind the tableau grows -/
theorem zKE {G : zN} {L w k : Nat} {X : Tab} {d : Int} {β : List Nat} {y : Option AObj} {t : TypeId} {c' c'' : Cells} (hG : zo (G.length + 4 + X.length) G = G) (hc : CEq c' c'') :
   zn ((zo (G.length + 4 + X.length) (zd G none L w k X d β [y])).set (G.length + 4 + X.length) (some ⟨t, c'⟩)) (zd G none L w k X d β [some ⟨t, c''⟩]) := by
 have e : zd G none L w k X d β [some ⟨t, c''⟩] = (zd G none L w k X d β [none]).set (G.length + 4 + X.length) (some ⟨t, c''⟩) := by
   have q := zAQ (G := G) (F := none) (L := L) (w := w) (k := k) (X := X) (d := d) (β := β) (T := [none]) 0 (some ⟨t, c''⟩)
   exact q.symm
 rw [e]
 exact zn.set (zIS (T := [y]) (T' := [none]) _ hG (Nat.le_refl _) (show zn [zA0 _ y] [none] from zn.drop zn.nil)) _ (fun o ho => by cases ho; exact ⟨_, rfl, rfl, hc⟩)
theorem zPj {X : Tab} {m : Nat} (h : X.length = m + 1) : X.take m ++ [X.getD m []] = X := by
 apply List.ext_getElem (by rw [List.length_append, List.length_take, h]; show min m (m + 1) + 1 = m + 1; omega)
 intro i h1 h2
 by_cases e : i < m
 · rw [List.getElem_append_left (by rw [List.length_take]; omega), List.getElem_take]
 · have e2 : i = m := by omega
   subst e2
   rw [List.getElem_append_right (by rw [List.length_take]; omega)]
   simp [List.getD, h]
/-- without its last row -/
theorem tb_trunc {G : zN} {L w k m : Nat} {X : Tab} {d : Int} {β : List Nat} (h : X.length = m + 1) :
   (zd G none L w k X d β []).set (G.length + 3) (some ⟨248, zBb G.length m L⟩) = zd G none L w k (X.take m) d β [some ⟨120, zC (X.getD m [])⟩] := by
 refine (zB2 (i := 3) _ Z).trans ?_
 show G ++ (_ :: _ :: _ :: zAu ⟨_, zBb G.length m L⟩ _ _ X []) = _
 have hl : (X.take m).length = m := by rw [List.length_take, h]; omega
 unfold zd
 rw [zII, zPj h, hl]
end Go.Proofs.YtnkealfaldjipaaGreatDoor
namespace Go.Proofs.YtnkealfaldjipaaGreatDoor
open Go.Ax Go.Ax.Bg Go.Ax.Rt Go.RowKit Go.Ax.Dt Go.Ax.Sx
attribute [local irreducible] Ax zBR QOp zY zBK
set_option maxRecDepth 100000
set_option maxHeartbeats 4000000
/-- rows of natural numbers -/
abbrev nsC (l : List Nat) : Cells := zDV 0 1 (fun n : Nat => [zj n]) l
def zIB (y : List Rat) (f : List Nat) (k : Nat) : List Rat := (List.range k).map (fun i => y.getD i 0 * ((f.getD i 0 : Nat) : Rat))
theorem zO6 (y : List Rat) (f : List Nat) (k : Nat) : zIB y f (k + 1) = zIB y f k ++ [y.getD k 0 * ((f.getD k 0 : Nat) : Rat)] := by
 unfold zIB
 rw [List.range_succ, List.map_append]; rfl
theorem zML (y : List Rat) (f : List Nat) (k : Nat) : (zIB y f k).length = k := by simp [zIB]
theorem qA_nat (n : Nat) : qA ((n : Nat) : Rat) = .agg [.bool false, zj n, zj 1] := by
 unfold qA
 have h1 : ((n : Nat) : Rat).num = (n : Int) := rfl
 have h2 : ((n : Nat) : Rat).den = 1 := rfl
 rw [h1, h2, Int.natAbs_natCast, decide_eq_false (by omega)]
theorem belowQ (l : List Rat) (n : Nat) : zBo n (qsC l) := by
 intro i j _ hj
 show zBt n ((z7 (l.getD i 0)).getD j .any) = true
 have hj : j < 3 := hj
 match j, hj with
 | 0, _ => rfl
 | 1, _ => rfl
 | 2, _ => rfl
theorem zJZ (y : List Rat) (f : List Nat) (K : Nat) (hl : y.length = f.length) (hy40 : y.length ≤ 1000000) (hy : ∀ q ∈ y, D K q) (hf : ∀ n ∈ f, n < 10 ^ K) (hK : K ≤ 800000) :
   zZ Tryz.prog 167 [.ro (qsC y) 0 y.length, .ro (nsC f) 0 f.length] (.ro (qsC (zIB y f y.length)) 0 y.length) := by
 have c1 := zGS 1 (by decide)
 refine zY.value (K := fun r H => r = .sl 0 0 y.length ∧ H = [some ⟨122, qsC (zIB y f y.length)⟩]) (zK (P := Tryz.prog) (fn := Tryz.f167) Z Z (by kernel_rfl) Z (fun c hR hfix => ?_)) (fix := fun _ => False) (fun _ h => h) Z ?_
 · repeat (first | refine zB (zE rfl) ?_ | refine zB (zL rfl) ?_ | refine zD ?_ | refine zA ?_ | refine zR ?_ | refine zG rfl ?_ | refine zB (zAR rfl rfl rfl) ?_)
   refine zBH 5 ⟨122, qsC (zIB y f 0)⟩ Z Z ?_
   repeat (refine zb ?_)
   refine zt (ι := Nat) (fun k => [(1, .ro (nsC f) 0 f.length), (5, .sl 0 0 k), (8, .ro (qsC y) 0 y.length), (9, .int .i64 (y.length : Nat)), (10, .int .i64 (k : Nat))]) (fun k => [some ⟨122, qsC (zIB y f k)⟩])
     (fun k => k ≤ y.length) (fun k => y.length - k) 0 ⟨⟨rfl, rfl, rfl, rfl, rfl, trivial⟩, rfl, Nat.zero_le _⟩ ?_
   intro k hk
   refine rn4 ?_
   refine zF Z (fun h => ?_) (fun h => ?_)
   · have hk' : k < y.length := by omega
     have hkf : k < f.length := by omega
     have hs := zO6 y f k
     have hul := zML y f k
     have hDy := hy _ (zAt 0 hk')
     have hDf : D (K + 1) ((f.getD k 0 : Nat) : Rat) := nat_D (Nat.le_of_lt (hf _ (zAt 0 hkf)))
     have cm := zOf (y.getD k 0) ((f.getD k 0 : Nat) : Rat) (zGx (hDy.mono (by omega))) (zGx (hDf.mono (by omega)))
     rw [qA_nat] at cm
     generalize hU2 : zIB y f (k + 1) = U2 at *
     generalize zIB y f k = U at *
     refine rn6 ?_
     refine zS [some ⟨122, qsC U⟩, some ⟨122, .box [.bool false, .nil, .nil]⟩] Z ?_
     refine zH 7 (.ptr 1 0 0) Z (AEq.of_eq Z) ?_
     refine zH 14 (.agg (z7 (y.getD k 0))) Z (AEq.of_eq Z) ?_
     refine zU (c' := .box (z7 (y.getD k 0))) Z Z Z Z Z Nat.zero_lt_one Z Z (fun i' j' hi' hj' => ?_) ?_
     · rw [if_pos (Nat.lt_one_iff.1 hi')]; rfl
     refine rn0 ?_
     refine zAW [some ⟨122, qsC U⟩, some ⟨122, .box (z7 (y.getD k 0))⟩] Z ?_
     refine zx (by kernel_rfl) ?_
     refine zAA 0 Z (by kernel_rfl) (by kernel_rfl) (by kernel_rfl) Z (zE Z) Z ?_
     refine zEr (fuel := 3) [1, 2, 3, 4, 5, 6, 7, 8, 9] [(15, .sl 0 0 k), (1, .ro (nsC f) 0 f.length), (5, .sl 0 0 k), (8, .ro (qsC y) 0 y.length), (9, .int .i64 (y.length : Nat)), (10, .int .i64 (k : Nat)), (6, .int .i64 (k : Nat)), (7, .ptr 1 0 0)] ⟨Z, Z, Z, Z, Z, Z, Z, Z, trivial⟩ (by kernel_rfl) (by decide) Z Z ?_
     refine zM Z Z (zp Z Z Z Z Z Z Z (by first | exact Nat.zero_lt_one | assumption | omega)) ?_
     refine zM Z Z (zE Z) ?_
     refine zM Z Z (zE Z) ?_
     refine zM Z Z (zAN Z Z Z Z (by first | (simp only [Nat.zero_add, Int.toNat_natCast, Int.toNat_zero]; exact Z) | exact Z) (by omega)) ?_
     refine zM Z Z (zCo Z Z Z Z) ?_
     refine zM Z Z (zAY Z Z Z Z Z Z) ?_
     refine zAf Z Z Z Z Z c1 ?_
     refine zM Z Z (zAY Z Z Z Z Z Z) ?_
     refine zAf Z Z Z Z Z cm ?_
     refine zAC ?_
     unfold qA
     refine zW (is := [10]) (by kernel_rfl) (by simp) Z ⟨fun o ho => ?_, trivial⟩
     all_goals (cases ho)
     refine rn3 ?_
     refine zW (is := [11]) (by kernel_rfl) (by simp) Z ⟨fun o ho => ?_, trivial⟩
     all_goals (cases ho)
     refine zAS Z Z Z Z Z Z Z Z Z hul Z Z (by show 0 + 1 ≤ 1; omega) Z (by show (k + 1) * 56 ≤ _ ∧ _; omega) ?_ (by rw [hfix]; exact fun h => h) ?_
     · intro i' j hi hj
       exact zBg 0 3 z7 zBj U _ _ (zEF _) 0 i' j hi hj
     refine zAw [some ⟨122, qsC U2⟩, some ⟨122, .box (z7 (y.getD k 0))⟩] ?_ ?_
     · rw [hs]
       exact zn.eqv (zBx 0 3 z7 U _ _ (zEF _)) (zn.eqv (CEq.refl _) zn.nil)
     refine rn1 ?_
     refine zAA 12 Z (by kernel_rfl) (by kernel_rfl) (by kernel_rfl) Z (zL Z) Z ?_
     refine zf (by kernel_rfl) ?_
     repeat (refine zc ?_)
     refine zA ?_
     refine zBi [some ⟨122, qsC U2⟩] [some ⟨122, .box (z7 (y.getD k 0))⟩] [(1, .ro (nsC f) 0 f.length), (5, .sl 0 0 (k + 1)), (8, .ro (qsC y) 0 y.length), (9, .int .i64 (y.length : Nat)), (10, .int .i64 (k : Nat))] Z ⟨Z, Z, Z, Z, Z, trivial⟩ (fun h hh => by rw [hfix] at hh; exact hh.elim) (fun h o ho => by
       match h, ho with
       | 0, ho => cases ho; exact belowQ U2 _) rfl ?_
     refine rn3 ?_
     exact zQ ⟨k + 1, by omega, by omega, ⟨Z, Z, Z, Z, Z, trivial⟩, by rw [hU2]⟩
   · have hke : k = y.length := by omega
     subst hke
     refine rn5 ?_
     exact zO hR Z ⟨Z, Z⟩
 · rintro r H ⟨rfl, rfl⟩
   exact ⟨rfl, fun o ho => by simp at ho; subst ho; exact Nat.le_of_eq (by simp [Cells.len, zDV, zML]), zIc (zBm _)⟩
end Go.Proofs.YtnkealfaldjipaaGreatDoor
namespace Go.Ax
variable [Pins]
open Go.RowKit
def mvσ (σ : Nat → Option Blk) (h1 h2 : Nat) : Nat → Option Blk := fun h => if h = h1 then σ h2 else σ h
def mvH (H : zN) (h1 h2 : Nat) (o : AObj) : zN := ((zo h1 H).set h1 (some ⟨o.ty, o.c.forget h1⟩)).set h2 none
theorem zHv {H : zN} {h1 h2 : Nat} {o : AObj} (hne : h1 ≠ h2) (h1H : h1 < H.length) {h : Nat} {o' : AObj} (hh : (mvH H h1 h2 o)[h]? = some (some o')) :
   (h = h1 ∧ o' = ⟨o.ty, o.c.forget h1⟩) ∨ (h ≠ h1 ∧ h ≠ h2 ∧ ∃ o0 : AObj, H[h]? = some (some o0) ∧ o' = ⟨o0.ty, o0.c.forget h1⟩) := by
 unfold mvH at hh
 by_cases e2 : h = h2
 · exfalso
   subst e2
   rw [List.getElem?_set] at hh
   rw [if_pos rfl] at hh
   split at hh <;> cases hh
 rw [List.getElem?_set_ne (fun q => e2 q.symm)] at hh
 by_cases e1 : h = h1
 · subst e1
   rw [List.getElem?_set_self (by rw [zA9]; exact h1H)] at hh
   cases hh
   exact .inl ⟨Z, Z⟩
 · rw [List.getElem?_set_ne (fun q => e1 q.symm), zEw] at hh
   cases hx : H[h]? with
   | none => rw [hx] at hh; cases hh
   | some x =>
     rw [hx] at hh
     cases x with
     | none => cases hh
     | some o0 => cases hh; exact .inr ⟨e1, e2, o0, rfl, rfl⟩
theorem Rep.move {c : Ctx} {w : World} {a : Act} {σ : Nat → Option Blk} {S : Nat → Prop} {n : Nat} {fr : Fr} {H : zN} (hr : Rep c w a σ S n fr H) (h1 h2 t len : Nat) {o : AObj} (hne : h1 ≠ h2) (h1H : h1 < H.length) (h2o : H[h2]? = some (some o))
   (hf1 : ¬ c.fix h1) (hl : look t fr = some (.sl h2 0 len)) : Rep c w a (mvσ σ h1 h2) S n ((t, .sl h1 0 len) :: zB5 h1 fr) (mvH H h1 h2 o) := by
 have hv : ∀ {x v}, VR w S σ x v → VR w S (mvσ σ h1 h2) (x.forget h1) v := fun h => h.forget _ (fun h' q => if_neg q)
 have s1 : mvσ σ h1 h2 h1 = σ h2 := if_pos rfl
 have s2 : ∀ h, h ≠ h1 → mvσ σ h1 h2 h = σ h := fun h q => if_neg q
 have hlen : (mvH H h1 h2 o).length = H.length := by unfold mvH; rw [List.length_set, List.length_set, zA9]
 have key : ∀ (h : Nat) (o0 : AObj), H[h]? = some (some o0) → ((σ h = some .nowhere ∧ (o0.c.forget h1).len = 0) ∨
     ∃ b C cur, σ h = some (.at b (o0.c.forget h1).sz C) ∧ Lays w S (mvσ σ h1 h2) ⟨o0.ty, o0.c.forget h1⟩ b cur C ∧ cur.size = C * (o0.c.forget h1).sz ∧ C ≤ maxLen + 1 ∧ (o0.c.forget h1).len ≤ C ∧ ¬ S b ∧
     ∀ i j, i < (o0.c.forget h1).len → j < (o0.c.forget h1).sz → ∃ v, cur[i * (o0.c.forget h1).sz + j]? = some v ∧ VR w S (mvσ σ h1 h2) ((o0.c.forget h1).at i j) v ∧ v.oneCell' = true) := by
   intro h o0 ho0
   rw [Cells.forget_len, Cells.forget_sz]
   rcases hr.hr.live h o0 ho0 with g | ⟨b, C, cur, g1, g2, g3, g4, g5, g6, g7⟩
   · exact .inl g
   · refine .inr ⟨b, C, cur, g1, g2.forget Z hv, g3, g4, g5, g6, fun i j hi hj => ?_⟩
     obtain ⟨v, k1, k2, k3⟩ := g7 i j hi hj
     exact ⟨v, k1, by rw [Cells.forget_at _ _ _ _ hj]; exact hv k2, k3⟩
 refine ⟨⟨fun h o' ho => ?_, fun h h' o1 o1' b s C s' C' q1 q2 e1 e2 => ?_, hr.hr.small, fun h hl' => ?_⟩, ⟨hr.kp.os, hr.kp.output, hr.kp.tape, hr.kp.size, hr.kp.block, hr.kp.S1, hr.kp.S2, fun h hh => ?_, fun h hh => ?_, fun h o' b s C q e => ?_⟩, hr.defers, hr.size, fun t' v hl' => ?_⟩
 · rcases zHv hne h1H ho with ⟨rfl, rfl⟩ | ⟨g1, g2, o0, g3, rfl⟩
   · rw [s1]; exact key h2 o h2o
   · rw [s2 h g1]; exact key h o0 g3
 · rcases zHv hne h1H q1 with ⟨rfl, rfl⟩ | ⟨g1, g2, o0, g3, rfl⟩
   · rcases zHv hne h1H q2 with ⟨rfl, rfl⟩ | ⟨k1, k2, o0', k3, rfl⟩
     · rfl
     · rw [s1] at e1
       rw [s2 h' k1] at e2
       exact absurd (hr.hr.dist h2 h' o o0' b s C s' C' h2o k3 e1 e2) (fun q => k2 q.symm)
   · rcases zHv hne h1H q2 with ⟨rfl, rfl⟩ | ⟨k1, k2, o0', k3, rfl⟩
     · rw [s1] at e2
       rw [s2 h g1] at e1
       exact absurd (hr.hr.dist h h2 o0 o b s C s' C' g3 h2o e1 e2) g2
     · rw [s2 h g1] at e1
       rw [s2 h' k1] at e2
       exact hr.hr.dist h h' o0 o0' b s C s' C' g3 k3 e1 e2
 · rw [hlen] at hl'
   rw [s2 h (by omega)]; exact hr.hr.dom h hl'
 · rw [s2 h (fun q => hf1 (q ▸ hh))]; exact hr.kp.fixed h hh
 · rw [hlen]; exact hr.kp.fixlt h hh
 · rcases zHv hne h1H q with ⟨rfl, rfl⟩ | ⟨g1, g2, o0, g3, rfl⟩
   · rw [s1] at e; exact hr.kp.own h2 o b s C h2o e
   · rw [s2 h g1] at e; exact hr.kp.own h o0 b s C g3 e
 · have hsl := hr.slots t _ hl
   simp only [look] at hl'
   cases hb : Nat.beq t' t with
   | true =>
     rw [hb] at hl'
     have et := Nat.eq_of_beq_eq_true hb
     subst et
     cases hl'
     refine ⟨hsl.1, ?_⟩
     have h2 := hsl.2
     generalize a.tmps.getD t' undef = x at h2
     cases h2 with
     | sl _ _ _ _ b s C cap e1 e2 e3 => exact .sl _ _ _ _ _ _ _ _ (by rw [s1]; exact e1) e2 e3
     | sl0 _ _ e => exact .sl0 _ _ (by rw [s1]; exact e)
   | false =>
     rw [hb] at hl'
     have hl' : look t' (zB5 h1 fr) = some v := hl'
     rw [zDc] at hl'
     cases hx : look t' fr with
     | none => rw [hx] at hl'; cases hl'
     | some v0 =>
       rw [hx] at hl'
       cases hl'
       have hs := hr.slots t' v0 hx
       exact ⟨hs.1, hv hs.2⟩
section
variable {P : Program} {fn : Func} {c : Ctx} {fr : Fr} {H : zN} {k : List It}
theorem zOX {x : Code} (h1 h2 t len : Nat) {o : AObj} (hne : h1 ≠ h2) (h1H : h1 < H.length) (h2o : H[h2]? = some (some o)) (hf1 : ¬ c.fix h1) (hl : look t fr = some (.sl h2 0 len))
   (hk : Ax P fn c (.code x k) ((t, .sl h1 0 len) :: zB5 h1 fr) (mvH H h1 h2 o)) : Ax P fn c (.code x k) fr H :=
 fun w a σ S hr => hk w a _ S (hr.move h1 h2 t len hne h1H h2o hf1 hl)
end
theorem zE6 {fr K : Fr} (h : zBp fr K) : ∀ {xs : List (Nat × Operand)} {l : List (Nat × AV)}, zCe K xs = some l → zCe fr xs = some l
 | [], l, he => he
 | (n, x) :: r, l, he => by
   simp only [zCe] at he ⊢
   split at he
   · rename_i v hv
     split at he
     · rename_i q hq
       rw [zHZ h hv, zE6 h hq]
       exact he
     · cases he
   · cases he
/-- a slice of plain values is built without a look at the memory -/
theorem px_b {P : Program} {fn : Func} {c : Ctx} {H : zN} {all : Array Oper} {K0 : Fr} {i : Nat} {r : List Nat} {st : Go.Ax.Steps} {G : Go.Ax.Steps → Prop} {d : Nat} {t e : TypeId} {n : Nat} {parts : List (Nat × Operand)} {ty : TypeId} {pos : String} {after : Array Edge} {it : TypeInfo} {z : Value} {zs L : List AV} {l : List (Nat × AV)} {cl : Cells} {K : Fr}
   (hi : all[i]? = some ⟨some d, .buildSlice t n parts.toArray, ty, pos, after, none⟩) (hK : zFL st K0 ⟨some d, .buildSlice t n parts.toArray, ty, pos, after, none⟩ = K)
   (ht : P.underlying t = some (.slice e)) (hinf : P.info? e = some it) (hz : it.zero = some z) (hzs : zav z = some zs) (hsz : it.size = zs.length) (hpos : Nat.blt 0 zs.length = true) (hsmall : Nat.ble (n * zs.length) 16777216 = true)
   (hl : zCe K parts = some l) (hf : zFR (fun i => some (i * zs.length, zs.length)) (zDI zs n) l = some L) (hcl : zB9 n zs.length L = cl) (hn : noRef.noRefs L = true)
   (h : zDz P fn c H all K0 r ((i, d, .ro cl 0 n) :: st) G) : zDz P fn c H all K0 (i :: r) st G :=
 zI0 hi (hK ▸ fun k fr hk h2 => zh ht hinf hz hzs hsz hpos hsmall (zE6 hk hl) hf hcl hn h2) h
end Go.Ax
namespace Go.Ax
variable [Pins]
open Go.RowKit
section
variable {P : Program} {fn : Func} {c : Ctx} {fr : Fr} {H : zN} {k : List It}
theorem zIq {w : World} {size : Nat} {a : Option Addr} {m cap : Nat} : (Builtin.firstCells size 0 (.slice a m cap)).run P w = .ok #[] w := by
 cases a with
 | none => rfl
 | some a =>
   show (loadCells a (0 * size)).run P w = _
   rw [Nat.zero_mul]; rfl
theorem ax_copy0 {all : Array Oper} {d : Nat} {t tx e : TypeId} {x y : Operand} {ty : TypeId} {pos : String} {after : Array Edge} {rest : List Oper} {inf : TypeInfo} {h i n : Nat} {h2 i2 : Nat}
   (ht : P.underlying t = some (.slice e)) (hi : P.info? e = some inf) (hx : ev fr x = some (.sl h i n)) (hy : ev fr y = some (.sl h2 i2 0))
   (hk : Ax P fn c (.ops false all rest k) ((d, .int .i64 0) :: fr) H) : Ax P fn c (.ops false all (⟨some d, .call { callee := .builtin .copy, args := #[x, y], argTypes := #[t, tx] }, ty, pos, after, none⟩ :: rest) k) fr H := by
 refine ax_w (fun w a σ S hr => ?_) hk
 have h1 := hr.evAt hx
 have h2 := hr.evAt hy
 have hexec : ∀ r w', (Builtin.copy_ #[t, tx] ty #[a.eval x, a.eval y]).run P w = .ok r w' → (execOp a.eval ⟨some d, .call { callee := .builtin .copy, args := #[x, y], argTypes := #[t, tx] }, ty, pos, after, none⟩).run P w = .ok (.value r) w' := by
   intro r w' h
   simp [execOp, resolve, invoke, builtin, h]
 generalize hzx : a.eval x = vx at h1 hexec
 generalize hzy : a.eval y = vy at h2 hexec
 have key : ∀ (ax ay : Option Addr) (lx cx cy : Nat), (Builtin.copy_ #[t, tx] ty #[.slice ax lx cx, .slice ay 0 cy]).run P w = .ok (.int .i64 (0 : Nat)) w := by
   intro ax ay lx cx cy
   have hf := zIq (P := P) (w := w) (size := inf.size) (a := ay) (m := 0) (cap := cy)
   have hm : Nat.min 0 lx = 0 := Nat.zero_min lx
   cases ax with
   | none => simp [Builtin.copy_, run_underlying ht, sizeOf, typeInfo, hi, Builtin.lenOf, hm, hf, goInt]
   | some ad => simp [Builtin.copy_, run_underlying ht, sizeOf, typeInfo, hi, Builtin.lenOf, hm, hf, goInt, storeCells]
 cases h1 with
 | sl0 _ _ hσ =>
   cases h2 with
   | sl0 _ _ hσ2 => exact ⟨_, _, σ, S, hexec _ _ (key _ _ _ _ _), hr, .int _ _ _⟩
   | sl _ _ _ _ b s C cap hσ2 hlen hcap => exact ⟨_, _, σ, S, hexec _ _ (key _ _ _ _ _), hr, .int _ _ _⟩
 | sl _ _ _ _ b s C cap hσ hlen hcap =>
   cases h2 with
   | sl0 _ _ hσ2 => exact ⟨_, _, σ, S, hexec _ _ (key _ _ _ _ _), hr, .int _ _ _⟩
   | sl _ _ _ _ b s C cap hσ2 hlen hcap => exact ⟨_, _, σ, S, hexec _ _ (key _ _ _ _ _), hr, .int _ _ _⟩
end
end Go.Ax
namespace Go.Proofs.YtnkealfaldjipaaGreatDoor
open Go.Ax Go.Ax.Bg Go.Ax.Rt Go.RowKit Go.Ax.Dt Go.Ax.Sx
attribute [local irreducible] Ax zBR QOp zY zBK
set_option maxRecDepth 100000
set_option maxHeartbeats 4000000
theorem zKo {α : Type} (d : α) (n : Nat) (e : α → List AV) (a b : List α) : CEq (.fn (a.length + b.length) n (fun i j => bif Nat.blt i a.length then (zDV d n e a).at i j else (zDV d n e b).at (0 + (i - a.length)) j)) (zDV d n e (a ++ b)) := by
 refine ⟨by simp [zDV, Cells.len], Z, fun i j hi hj => ?_⟩
 show (e ((a ++ b).getD i d)).getD j .any = bif Nat.blt i a.length then (e (a.getD i d)).getD j .any else (e (b.getD (0 + (i - a.length)) d)).getD j .any
 by_cases h : i < a.length
 · rw [show Nat.blt i a.length = true from Nat.ble_eq_true_of_le h, zIs d h]; rfl
 · have h2 : Nat.blt i a.length = false := by
     cases e : Nat.blt i a.length with
     | false => rfl
     | true => have : i + 1 ≤ a.length := Nat.le_of_ble_eq_true e
               omega
   rw [h2, Nat.zero_add]
   have : (a ++ b).getD i d = b.getD (i - a.length) d := by
     simp only [List.getD]
     rw [List.getElem?_append_right (by omega)]
   rw [this]; rfl
theorem cloneQ (l : List Rat) (hl : l.length ≤ 1000000) : FCall Tryz.prog 209 [.ro (qsC l) 0 l.length] (fun N => .sl N 0 l.length) ⟨122, qsC l⟩ := by
 refine zY.fresh (K := fun r H => r = .sl 0 0 l.length ∧ H = [some ⟨122, qsC l⟩]) (zK (P := Tryz.prog) (fn := Tryz.f209) Z Z (by kernel_rfl) Z (fun c hR hfix => ?_)) (fix := fun _ => False) (fun _ h => h) Z (fun H => ⟨Z, by simp [zIU, inB]⟩) ?_
 · refine rn0 ?_
   refine zMg Z Z Z (fun b hb => ?_)
   refine rn0 ?_
   refine zFw Z (fun h => ?_) (fun h => ?_)
   · have := hb h
     have hn : l = [] := List.length_eq_zero_iff.mp this
     subst hn
     repeat (first | refine zB (zL rfl) ?_ | refine zD ?_ | refine zA ?_ | refine zR ?_ | refine zG rfl ?_)
     refine zBH 2 ⟨122, qsC []⟩ Z Z ?_
     refine rn2 ?_
     exact zO hR Z ⟨Z, Z⟩
   · refine rn1 ?_
     refine zC3 Z Z Z Z Z Z Z Z Z Z ?_
     refine zAw [some ⟨122, qsC []⟩] (zn.eqv ⟨Z, Z, fun i j hi => absurd hi (Nat.not_lt_zero _)⟩ zn.nil) ?_
     repeat (refine zB (zE rfl) ?_)
     refine zAS Z Z Z Z Z Z Z Z Z Z Z Z (by show 0 + l.length ≤ l.length; omega) Z (by show (0 + l.length) * 56 ≤ _ ∧ _; omega) ?_ (by rw [hfix]; exact fun h => h) ?_
     · intro i' j' hi' hj'
       have q := (zKo 0 3 z7 [] l).2.2 i' j' hi' hj'
       refine (congrArg (AV.forget 0) q.symm).trans (Eq.trans ?_ q)
       exact zBj _ j' 0 hj'
     refine zAw [some ⟨122, qsC l⟩] (zn.eqv (zKo 0 3 z7 [] l) zn.nil) ?_
     refine rn0 ?_
     refine zO hR Z ⟨?_, Z⟩
     show AV.sl 0 0 (0 + l.length) = _; rw [Nat.zero_add]
 · rintro r H ⟨rfl, rfl⟩
   refine ⟨?_, fun h o ho => zIc (zBm _) h o ho, 0, Z, fun n => rfl⟩
   intro o ho; simp at ho; subst ho; show 0 + l.length ≤ l.length; omega
theorem zGo (N : Nat) (a : List Int) : (zC a).shift N = zC a := by
 show Cells.fn _ _ _ = Cells.fn _ _ _
 congr 1
 funext i j
 match j with
 | 0 => rfl
 | 1 => rfl
 | _ + 2 => rfl
theorem zLu (l : List Rat) (K : Nat) (hD : ∀ q ∈ l, D K q) (hlen : l.length ≤ 1000) (hK : K * l.length + K ≤ 900000) :
   MCall Tryz.prog 168 [.ro (qsC l) 0 l.length] (.tup [.sl 0 0 l.length, zj (zDE 1 l)]) [some ⟨120, zC (zA4 l)⟩] := by
 have c1 := zPN l K hD hlen hK
 refine zY.many (zK (P := Tryz.prog) (fn := Tryz.f168) Z Z (by kernel_rfl) Z (fun c hR hfix => ?_)) (fix := fun _ => False) (fun _ h => h) Z
 refine rn0 ?_
 refine zHc (.tup [.sl 0 0 l.length, zj (zDE 1 l)]) [some ⟨120, zC (zA4 l)⟩] Z Z Z c1 Z (by show [] ++ [some (⟨_, (zC (zA4 l)).shift 0⟩ : AObj)] = _; rw [zGo]; rfl) ?_
 refine rn2 ?_
 exact zO hR Z ⟨Z, Z⟩
/-- where an unknown stands among those that need an artificial one -/
theorem zJ3 (B : List Rat) (i : Nat) (hi : (B.getD i 0).num < 0) : ∀ d, ∃ r, zAc B (i + 1 + d) = zAc B i ++ i :: r
 | 0 => ⟨[], by show zAc B (i + 1) = _; rw [zAc, if_pos hi]⟩
 | d + 1 => by
   obtain ⟨r, hr⟩ := zJ3 B i hi d
   show ∃ r, zAc B (i + 1 + d + 1) = _
   rw [zAc]
   split
   · exact ⟨r ++ [i + 1 + d], by rw [hr]; simp⟩
   · exact ⟨r, hr⟩
theorem need_idx (B : List Rat) {i m : Nat} (hi : i < m) : Go.Ax.Idx.idxF (Go.Ax.Cd.eqp (i : Int)) ((zAc B m).map (fun a : Nat => (a : Int))) = if (B.getD i 0).num < 0 then ((zBY B i : Nat) : Int) else -1 := by
 have hany : ∀ l : List Nat, i ∉ l → (l.map (fun a : Nat => (a : Int))).any (Go.Ax.Cd.eqp (i : Int)) = false := by
   intro l hl
   rw [List.any_eq_false]
   intro x hx
   obtain ⟨a, ha, rfl⟩ := List.mem_map.1 hx
   simp only [Go.Ax.Cd.eqp, decide_eq_true_eq]
   intro e
   have : i = a := by omega
   exact hl (this ▸ ha)
 by_cases h : (B.getD i 0).num < 0
 · rw [if_pos h]
   obtain ⟨r, hr⟩ := zJ3 B i h (m - (i + 1))
   rw [show i + 1 + (m - (i + 1)) = m by omega] at hr
   have hni : i ∉ zAc B i := fun q => absurd (zHr.1 q).1 (Nat.lt_irrefl i)
   have hl : (zAc B i).length ≤ ((zAc B m).map (fun a : Nat => (a : Int))).length := by rw [hr]; simp
   have ht : ((zAc B m).map (fun a : Nat => (a : Int))).take (zAc B i).length = (zAc B i).map (fun a : Nat => (a : Int)) := by rw [hr, List.map_append, List.take_left' (by simp)]
   have hd : ((zAc B m).map (fun a : Nat => (a : Int))).drop (zAc B i).length = (i : Int) :: r.map (fun a : Nat => (a : Int)) := by rw [hr, List.map_append, List.drop_left' (by simp)]; rfl
   rw [Go.Ax.Idx.idxF_take _ _ (zAc B i).length (by rw [ht]; exact hany _ hni) hl, hd]
   have e0 : Go.Ax.Idx.idxF (Go.Ax.Cd.eqp (i : Int)) ((i : Int) :: r.map (fun a : Nat => (a : Int))) = 0 := by
     rw [Go.Ax.Idx.idxF, if_pos (by simp [Go.Ax.Cd.eqp])]
   rw [e0, if_neg (by omega)]
   show (0 : Int) + ((zAc B i).length : Nat) = _
   rw [Int.zero_add]
 · rw [if_neg h]
   have hni : i ∉ zAc B m := fun q => h (zHr.1 q).2
   rw [Go.Ax.Idx.idxF_take _ _ ((zAc B m).map (fun a : Nat => (a : Int))).length (by rw [List.take_length]; exact hany _ hni) (Nat.le_refl _), List.drop_length]
   rfl
section
variable {G : zN} {F : Option AObj} {L w k : Nat} {X : Tab} {d : Int} {β : List Nat} {T T' : zN}
abbrev zIu (G : zN) (F : Option AObj) (L w : Nat) (X : Tab) (d : Int) (β : List Nat) (T : zN) : zN :=
 G ++ (some ⟨253, .box [.any, .bool (decide (d < 0)), zj d.natAbs, .sl (G.length + 2) 0 β.length, .int .i64 (w : Nat)]⟩ :: F :: some ⟨3, zBs β⟩ :: zAu ⟨248, zBb G.length X.length L⟩ 120 zC X T)
theorem anyF_box : (zIu G F L w X d β T)[G.length]? = some (some ⟨253, .box [.any, .bool (decide (d < 0)), zj d.natAbs, .sl (G.length + 2) 0 β.length, .int .i64 (w : Nat)]⟩) := zDr (i := 0) rfl
theorem anyF_set : (zIu G F L w X d β T).set G.length (some ⟨253, zDj G.length k β.length w d⟩) = zd G F L w k X d β T := zB2 (i := 0) _ rfl
/-- the basis while it is moved -/
abbrev zI8 (G : zN) (F : Option AObj) (L w k : Nat) (X : Tab) (d : Int) (β : List Nat) (T : zN) : zN :=
 G ++ (some ⟨253, .box [.sl (G.length + 3) 0 k, .bool (decide (d < 0)), zj d.natAbs, .any, .int .i64 (w : Nat)]⟩ :: F :: some ⟨3, zBs β⟩ :: zAu ⟨248, zBb G.length X.length L⟩ 120 zC X T)
theorem bas_box : (zI8 G F L w k X d β T)[G.length]? = some (some ⟨253, .box [.sl (G.length + 3) 0 k, .bool (decide (d < 0)), zj d.natAbs, .any, .int .i64 (w : Nat)]⟩) := zDr (i := 0) rfl
theorem bas_set : (zI8 G F L w k X d β T).set G.length (some ⟨253, zDj G.length k β.length w d⟩) = zd G F L w k X d β T := zB2 (i := 0) _ rfl
theorem zNr (h : Nat) (B : Cells) (hG : zo h G = G) (hF : zA0 h F = F) {O : Cells} (hO : CEq (O.forget h) O) (hT : zn (zo h T) T') :
   zn (zo h (G ++ (some ⟨253, B⟩ :: F :: some ⟨3, zBs β⟩ :: zAu ⟨248, O⟩ 120 zC X T))) (G ++ (some ⟨253, B.forget h⟩ :: F :: some ⟨3, zBs β⟩ :: zAu ⟨248, O⟩ 120 zC X T')) := by
 rw [zDL, hG]
 refine zn.append (zn.refl _) ?_
 have e : zo h (some (⟨253, B⟩ : AObj) :: F :: some ⟨3, zBs β⟩ :: zAu ⟨248, O⟩ 120 zC X T)
     = some ⟨253, B.forget h⟩ :: F :: some ⟨3, zBs β⟩ :: zAu ⟨248, O.forget h⟩ 120 zC X (zo h T) := by
   show some (⟨_, B.forget h⟩ : AObj) :: zA0 h F :: some (⟨_, zBs β⟩ : AObj) :: zo h (zAu _ _ _ X _) = _
   rw [zDx h (zBO h), hF]
 rw [e]
 exact zn.same (zn.same (zn.same (zGV ⟨Z, hO⟩ hT)))
theorem zLa (b n L h : Nat) (hh : b + 4 + n ≤ h ∨ h < b + 4) : CEq ((zBb b n L).forget h) (zBb b n L) := by
 refine ⟨Z, Z, fun i j hi hj => ?_⟩
 obtain rfl := Nat.lt_one_iff.1 (show j < 1 from hj)
 have hi : i < n := hi
 show AV.sl (b + 4 + i) 0 L = AV.forget h (AV.sl (b + 4 + i) 0 L)
 unfold AV.forget
 rw [zAB (show b + 4 + i ≠ h by omega)]; rfl
theorem zN2 (b k m w h : Nat) (d : Int) (h1 : b + 3 ≠ h) (h2 : b + 2 ≠ h) : (zDj b k m w d).forget h = zDj b k m w d := by
 show Cells.box (AV.forgets h _) = _
 simp [AV.forgets, AV.forget, zj, zAB h1, zAB h2]
theorem tabB_fgR (b k m w : Nat) (d : Int) : (zDj b k m w d).forget (b + 3) = .box [.any, .bool (decide (d < 0)), zj d.natAbs, .sl (b + 2) 0 m, .int .i64 (w : Nat)] := by
 show Cells.box (AV.forgets _ _) = _
 simp [AV.forgets, AV.forget, zj, zAB (show b + 2 ≠ b + 3 by omega)]
theorem tabB_fgB (b k m w : Nat) (d : Int) : (zDj b k m w d).forget (b + 2) = .box [.sl (b + 3) 0 k, .bool (decide (d < 0)), zj d.natAbs, .any, .int .i64 (w : Nat)] := by
 show Cells.box (AV.forgets _ _) = _
 simp [AV.forgets, AV.forget, zj, zAB (show b + 3 ≠ b + 2 by omega)]
/-- forgetting what lies behind the tableau, or where the factors lie -/
theorem zJb (h : Nat) (hh : G.length + 4 + X.length ≤ h ∨ h = G.length + 1) (hG : zo h G = G) (hF : zA0 h F = F) (hT : zn (zo h T) T') : zn (zo h (zd G F L w k X d β T)) (zd G F L w k X d β T') := by
 have q := zNr (X := X) (β := β) h (zDj G.length k β.length w d) hG hF (zLa G.length X.length L h (by omega)) hT
 rw [zN2 _ _ _ _ _ _ (by omega) (by omega)] at q
 exact q
/-- an object behind the tableau grows -/
theorem zJJ {y : Option AObj} {t : TypeId} {c' c'' : Cells} (hG : zo (G.length + 4 + X.length) G = G) (hF : zA0 (G.length + 4 + X.length) F = F) (hc : CEq c' c'') :
   zn ((zo (G.length + 4 + X.length) (zd G F L w k X d β [y])).set (G.length + 4 + X.length) (some ⟨t, c'⟩)) (zd G F L w k X d β [some ⟨t, c''⟩]) := by
 have e : zd G F L w k X d β [some ⟨t, c''⟩] = (zd G F L w k X d β [none]).set (G.length + 4 + X.length) (some ⟨t, c''⟩) := by
   have q := zAQ (G := G) (F := F) (L := L) (w := w) (k := k) (X := X) (d := d) (β := β) (T := [none]) 0 (some ⟨t, c''⟩)
   exact q.symm
 rw [e]
 exact zn.set (zJb (T := [y]) (T' := [none]) _ (.inl (Nat.le_refl _)) hG hF (show zn [zA0 _ y] [none] from zn.drop zn.nil)) _ (fun o ho => by cases ho; exact ⟨_, rfl, rfl, hc⟩)
/-- the factors grow -/
theorem zJt {c' c'' : Cells} {t : TypeId} (hG : zo (G.length + 1) G = G) (hc : CEq c' c'') (hT : zn (zo (G.length + 1) T) T') :
   zn ((zo (G.length + 1) (zd G F L w k X d β T)).set (G.length + 1) (some ⟨t, c'⟩)) (zd G (some ⟨t, c''⟩) L w k X d β T') := by
 have e : zd G (some ⟨t, c''⟩) L w k X d β T' = (zd G none L w k X d β T').set (G.length + 1) (some ⟨t, c''⟩) := by
   refine Eq.symm ((zB2 (i := 1) _ Z).trans ?_)
   rfl
 rw [e]
 have e2 : zo (G.length + 1) (zd G F L w k X d β T) = G ++ (some ⟨253, zDj G.length k β.length w d⟩ :: zA0 (G.length + 1) F :: some ⟨3, zBs β⟩ :: zAu ⟨248, (zBb G.length X.length L).forget (G.length + 1)⟩ 120 zC X (zo (G.length + 1) T)) := by
   unfold zd
   rw [zDL, hG]
   show G ++ (some (⟨_, (zDj G.length k β.length w d).forget (G.length + 1)⟩ : AObj) :: zA0 (G.length + 1) F :: some (⟨_, zBs β⟩ : AObj) :: zo (G.length + 1) (zAu _ _ _ X _)) = _
   rw [zDx (G.length + 1) (zBO (G.length + 1)), zN2 _ _ _ _ _ _ (by omega) (by omega)]
 rw [e2]
 have q : zn (G ++ (some ⟨253, zDj G.length k β.length w d⟩ :: zA0 (G.length + 1) F :: some ⟨3, zBs β⟩ :: zAu ⟨248, (zBb G.length X.length L).forget (G.length + 1)⟩ 120 zC X (zo (G.length + 1) T))) (zd G none L w k X d β T') :=
   zn.append (zn.refl _) (zn.same (zn.drop (zn.same (zGV (O := ⟨248, (zBb G.length X.length L).forget (G.length + 1)⟩) (O' := ⟨248, zBb G.length X.length L⟩) ⟨rfl, zLa G.length X.length L (G.length + 1) (.inr (by omega))⟩ hT))))
 exact zn.set q _ (fun o ho => by cases ho; exact ⟨_, rfl, rfl, hc⟩)
/-- the basis grows -/
theorem zJ4 {c' : Cells} {β' : List Nat} (hG : zo (G.length + 2) G = G) (hF : zA0 (G.length + 2) F = F) (hc : CEq c' (zBs β')) (hT : zn (zo (G.length + 2) T) T') :
   zn ((zo (G.length + 2) (zd G F L w k X d β T)).set (G.length + 2) (some ⟨3, c'⟩)) (zI8 G F L w k X d β' T') := by
 have q := zNr (X := X) (β := β) (G.length + 2) (zDj G.length k β.length w d) hG hF (zLa G.length X.length L _ (by omega)) hT
 rw [tabB_fgB] at q
 have e : zI8 G F L w k X d β' T' = (G ++ (some ⟨253, .box [.sl (G.length + 3) 0 k, .bool (decide (d < 0)), zj d.natAbs, .any, .int .i64 (w : Nat)]⟩ :: F :: some ⟨3, zBs β⟩ :: zAu ⟨248, zBb G.length X.length L⟩ 120 zC X T')).set (G.length + 2) (some ⟨3, zBs β'⟩) := by
   refine Eq.symm ((zB2 (i := 2) _ Z).trans ?_)
   rfl
 rw [e]
 exact zn.set q _ (fun o ho => by cases ho; exact ⟨_, rfl, rfl, hc⟩)
/-- a row more -/
theorem zNd {x : List Int} {a : Option AObj} {c' : Cells} (hG : zo (G.length + 3) G = G) (hF : zA0 (G.length + 3) F = F) (hc : CEq c' (zBb G.length (X.length + 1) L)) :
   zn ((zo (G.length + 3) (zd G F L w k X d β [some ⟨120, zC x⟩, a])).set (G.length + 3) (some ⟨248, c'⟩)) (zIu G F L w (X ++ [x]) d β [none]) := by
 have e2 : zo (G.length + 3) (zd G F L w k X d β [some ⟨120, zC x⟩, a]) = G ++ (some ⟨253, .box [.any, .bool (decide (d < 0)), zj d.natAbs, .sl (G.length + 2) 0 β.length, .int .i64 (w : Nat)]⟩ :: F :: some ⟨3, zBs β⟩ :: zAu ⟨248, (zBb G.length X.length L).forget (G.length + 3)⟩ 120 zC X [some ⟨120, zC x⟩, zA0 (G.length + 3) a]) := by
   unfold zd
   rw [zDL, hG]
   show G ++ (some (⟨_, (zDj G.length k β.length w d).forget (G.length + 3)⟩ : AObj) :: zA0 (G.length + 3) F :: some (⟨_, zBs β⟩ : AObj) :: zo (G.length + 3) (zAu _ _ _ X _)) = _
   rw [zDx (G.length + 3) (zBO (G.length + 3)), tabB_fgR, hF]
   show _ = G ++ (_ :: _ :: _ :: zAu _ _ _ X [some (⟨120, zC x⟩ : AObj), _])
   rw [show zo (G.length + 3) [some (⟨120, zC x⟩ : AObj), a] = [some ⟨120, (zC x).forget (G.length + 3)⟩, zA0 (G.length + 3) a] from rfl, zBO]
 rw [e2, show ∀ O' : Option AObj, (G ++ (some (⟨253, .box [.any, .bool (decide (d < 0)), zj d.natAbs, .sl (G.length + 2) 0 β.length, .int .i64 (w : Nat)]⟩ : AObj) :: F :: some ⟨3, zBs β⟩ :: zAu ⟨248, (zBb G.length X.length L).forget (G.length + 3)⟩ 120 zC X [some ⟨120, zC x⟩, zA0 (G.length + 3) a])).set (G.length + 3) O' = _ from fun O' => zB2 (i := 3) _ rfl]
 refine zn.append (zn.refl _) (zn.same (zn.same (zn.same ?_)))
 show zn (zAu ⟨248, c'⟩ 120 zC X _) _
 rw [zII]
 refine zGV ⟨Z, ?_⟩ (zn.drop zn.nil)
 show CEq c' (zBb G.length (X ++ [x]).length L)
 rw [List.length_append]; exact hc
end
theorem nsC_fg (h : Nat) (l : List Nat) : (nsC l).forget h = nsC l := by
 show Cells.fn _ _ _ = Cells.fn _ _ _
 congr 1
 funext i j
 match j with
 | 0 => rfl
 | _ + 1 => rfl
theorem zM4 (l : List Nat) : zAJ (nsC l) := by
 intro i j _ hj
 obtain rfl := Nat.lt_one_iff.1 (show j < 1 from hj)
 rfl
end Go.Proofs.YtnkealfaldjipaaGreatDoor
