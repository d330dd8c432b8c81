import Derived.Test.YtnkealfaldjipaaGreatDoorY5
set_option linter.unusedVariables false
set_option linter.unusedSimpArgs false
namespace Go.Proofs.YtnkealfaldjipaaGreatDoor
open Go.Ax Go.Ax.Bg Go.Ax.Rt Go.RowKit Go.Ax.Idx Go.Ax.Cd Go.Ax.Sx
attribute [local irreducible] Ax zBZ QOp zS zBC
set_option maxRecDepth 100000
set_option maxHeartbeats 4000000
/-- All objects are only read from now on. -/
theorem zKL {P : Program} {fn : Func} {c : Ctx} {fr : Fr} {k : List It} {x : Code} {H : zO} (L : Fr) (hrl : ∀ (h : Nat) (o : AObj), H[h]? = some (some o) → zAK o.c) (hL : fzk H fr L) (hk2 : zB2 L L) (hb : zCl 0 L = true) (hfx : ∀ h, ¬ c.fix h)
 (hk : Ax P fn c (.code x k) L []) : Ax P fn c (.code x k) fr H := by
 refine zQn H (List.replicate H.length none) L (fun _ _ h => h) hrl List.length_replicate ?_ hL ?_
 ·intro h o' ho'
  rw [List.getElem?_replicate] at ho'
  split at ho' <;> cases ho'
 exact ax_cut [] (List.replicate H.length none) L Z hk2 (fun h hh => (hfx h hh).elim) Z hb hk
theorem zOb (q : Rat) (n : Nat) : zBu n (.box (zq q)) := by
 intro i j _ hj
 have hj : j < 3 := hj
 match j, hj with
 | 0, _ => rfl
 | 1, _ => rfl
 | 2, _ => rfl
theorem belowS1 {n : Nat} {o1 : AObj} (h1 : zBu n o1.c) : ∀ (h : Nat) (o : AObj), ([some o1] : zO)[h]? = some (some o) → zBu n o.c := by
 intro h o ho
 match h, ho with
 | 0, ho => cases ho; exact h1
 | _ + 1, ho => simp at ho
theorem refl2 {o1 o2 : AObj} (h1 : zAK o1.c) (h2 : zAK o2.c) : ∀ (h : Nat) (o : AObj), ([some o1, some o2] : zO)[h]? = some (some o) → zAK o.c := by
 intro h o ho
 match h, ho with
 | 0, ho => cases ho; exact h1
 | 1, ho => cases ho; exact h2
 | _ + 2, ho => simp at ho
theorem refl3 {o1 o2 o3 : AObj} (h1 : zAK o1.c) (h2 : zAK o2.c) (h3 : zAK o3.c) : ∀ (h : Nat) (o : AObj), ([some o1, some o2, some o3] : zO)[h]? = some (some o) → zAK o.c := by
 intro h o ho
 match h, ho with
 | 0, ho => cases ho; exact h1
 | 1, ho => cases ho; exact h2
 | 2, ho => cases ho; exact h3
 | _ + 3, ho => simp at ho
theorem zNr : ∀ {l : List AV}, noRef.noRefs l = true → ∀ j, j < l.length → noRef (l.getD j .any) = true
 | [], _, j, hj => absurd hj (Nat.not_lt_zero _)
 | a :: r, h, j, hj => by
  simp only [noRef.noRefs, Bool.and_eq_true] at h
  cases j with
  | zero => exact h.1
  | succ j => exact zNr h.2 j (by simpa using hj)
theorem zDi {l : List AV} (h : noRef.noRefs l = true) : zAK (.box l) := fun _ j _ hj => zNr h j hj
theorem zQI (p q : Rat) : decide (zD0 p q = 0) = decide (p = q) := by
 rw [Bool.eq_iff_iff, decide_eq_true_eq, decide_eq_true_eq]
 unfold zD0
 split
 ·rename_i h; constructor
  ·intro h2; cases h2
  ·intro h2; rw [h2] at h; exact absurd h Rat.lt_irrefl
 ·split
  ·rename_i h; exact ⟨fun _ => h, fun _ => rfl⟩
  ·rename_i h; exact ⟨fun h2 => (by cases h2), fun h2 => absurd h2 h⟩
theorem sgnQ_gt (q : Rat) : decide (0 < sgn q.num) = decide (0 < q) := by
 have h1 := zP3 q
 rw [Bool.eq_iff_iff, decide_eq_true_eq, decide_eq_true_eq] at h1 ⊢
 constructor
 ·intro h
  have : ¬ q ≤ 0 := fun h2 => by have := h1.2 h2; omega
  grind
 ·intro h
  have : ¬ sgn q.num ≤ 0 := fun h2 => absurd (h1.1 h2) (by grind)
  omega
theorem sgnQ_lt (q : Rat) : decide (sgn q.num < 0) = decide (q < 0) := by
 have h1 := zMo q
 rw [Bool.eq_iff_iff, decide_eq_true_eq, decide_eq_true_eq] at h1 ⊢
 constructor
 ·intro h
  have : ¬ 0 ≤ q := fun h2 => by have := h1.2 h2; omega
  grind
 ·intro h
  have : ¬ 0 ≤ sgn q.num := fun h2 => absurd (h1.1 h2) (by grind)
  omega
theorem zDx (f : Rat → Bool) (l : List Rat) : (List.range l.length).all (fun i => f (l.getD i 0)) = l.all f := by
 rw [Bool.eq_iff_iff, List.all_eq_true, List.all_eq_true]
 constructor
 ·intro h q hq
  obtain ⟨i, hi, rfl⟩ := List.getElem_of_mem hq
  have := h i (List.mem_range.2 hi)
  rwa [zDo 0 hi] at this
 ·intro h i hi
  exact h _ (zAr 0 (List.mem_range.1 hi))
theorem zGV (l : List Rat) (hl : l.length ≤ 1000000) : zU Tryz.prog 173 [.ro (qsC l) 0 l.length, .fn 172 []] (.bool (zCD l)) := by
 have h := zQG l 172 [] (fun i => decide (0 ≤ l.getD i 0)) rfl rfl (by omega) (fun i hi => pnn_ok i _)
 rwa [zDx (fun q => decide (0 ≤ q)) l] at h
theorem dot1 {a b : List Rat} (ha : ∀ q ∈ a, D 2000 q) (hb : ∀ q ∈ b, D 2000 q) (hl : a.length ≤ b.length) (h40 : b.length ≤ 40) : zU Tryz.prog 125 [.ro (qsC a) 0 a.length, .ro (qsC b) 0 b.length] (qA (zAB a b)) ∧ Sz 100000 (zAB a b) := by
 have hk : 1 + a.length * (2000 + 2000 + 1) ≤ 900000 := by omega
 exact ⟨zMN a b 2000 2000 ha hb hl (by omega) hk, zGG ((zI9 ha hb hl).mono hk)⟩
structure DotsOk (A : List (List Rat)) (B C x y r : List Rat) : Prop where
 ab : A.length = B.length
 m : A.length ≤ 40
 n : C.length ≤ 40
 w : ∀ a ∈ A, a.length = C.length ∧ ∀ q ∈ a, D 2000 q
 b : ∀ q ∈ B, D 2000 q
 c : ∀ q ∈ C, D 2000 q
 x : ∀ q ∈ x, D 2000 q
 y : ∀ q ∈ y, D 2000 q
 r : ∀ q ∈ r, D 2000 q
theorem zRG (A : List (List Rat)) (B C : List Rat) (k : Nat) (X Y R : List zp) (V : zp) (hk : k < 3) (hD : DotsOk A B C (X.map zg) (Y.map zg) (R.map zg))
 (hX : ∀ s ∈ X, s.length ≤ 9223372036854775807 ∧ zAy s = 0) (hY : ∀ s ∈ Y, s.length ≤ 9223372036854775807 ∧ zAy s = 0) (hR' : ∀ s ∈ R, s.length ≤ 9223372036854775807 ∧ zAy s = 0)
 (hV : V.length ≤ 9223372036854775807 ∧ (k = 0 → zAy V = 0)) (hl : X.length = (if k = 1 then 0 else C.length) ∧ Y.length = (if k = 2 then 0 else B.length) ∧ R.length = (if k = 2 then C.length else 0)) :
 zU Tryz.prog 122 [.agg [.ro (zn A) 0 A.length, .ro (qsC B) 0 B.length, .ro (qsC C) 0 C.length], .agg [.int .i64 (k : Nat), .ro (.strs X) 0 X.length, .ro (.strs Y) 0 Y.length, .ro (.strs R) 0 R.length, .str V]] (.bool (zCC ⟨A, B, C⟩ k (X.map zg) (Y.map zg) (R.map zg) (zg V))) := by
 obtain ⟨hl1, hl2, hl3⟩ := hl
 have hn := hD.n
 have hm := hD.m
 have hab := hD.ab
 have c1 := zG5 X (by split at hl1 <;> omega) hX
 have c2 := zG5 Y (by split at hl2 <;> omega) hY
 have c3 := zG5 R (by split at hl3 <;> omega) hR'
 have hx := (List.length_map _ : (X.map zg).length = X.length)
 have hy := (List.length_map _ : (Y.map zg).length = Y.length)
 have hr := (List.length_map _ : (R.map zg).length = R.length)
 refine zS.value0 (zE (P := Tryz.prog) (fn := Tryz.f122) Z Z (by kernel_rfl) Z (fun c hR hfix => ?_)) (fix := fun _ => False) (fun _ h => h) Z Z
 unfold zCC at hR
 generalize X.map zg = x at *
 generalize Y.map zg = y at *
 generalize R.map zg = r at *
 refine rn6 ?_
 refine zo (by kernel_rfl) ?_
 refine zNl [some ⟨188, .box [.ro (zn A) 0 A.length, .ro (qsC B) 0 B.length, .ro (qsC C) 0 C.length]⟩, some ⟨88, .box [.int .i64 (k : Nat), .ro (.strs X) 0 X.length, .ro (.strs Y) 0 Y.length, .ro (.strs R) 0 R.length, .str V]⟩] (ze.refl _) ?_
 refine zw 0 Z (by kernel_rfl) (by kernel_rfl) (by kernel_rfl) Z (zJ Z Z Z Z Z Z) Z ?_
 refine zw 3 Z (by kernel_rfl) (by kernel_rfl) (by kernel_rfl) Z (zJ Z Z Z Z Z Z) Z ?_
 refine zw 6 Z (by kernel_rfl) (by kernel_rfl) (by kernel_rfl) Z (zJ Z Z Z Z Z Z) Z ?_
 apply zAQ (H := [some ⟨188, .box [.ro (zn A) 0 A.length, .ro (qsC B) 0 B.length, .ro (qsC C) 0 C.length]⟩, some ⟨88, .box [.int .i64 (k : Nat), .ro (.strs X) 0 X.length, .ro (.strs Y) 0 Y.length, .ro (.strs R) 0 R.length, .str V]⟩, some ⟨135, .box [.nil]⟩]) [(2, .ptr 0 0 0), (3, .ptr 1 0 0), (18, .ro (qsC x) 0 x.length), (21, .ro (qsC y) 0 y.length), (24, .ro (qsC r) 0 r.length), (5, .ptr 2 0 0)]
 intro fin
 apply zAQ (H := [some ⟨188, .box [.ro (zn A) 0 A.length, .ro (qsC B) 0 B.length, .ro (qsC C) 0 C.length]⟩, some ⟨88, .box [.int .i64 (k : Nat), .ro (.strs X) 0 X.length, .ro (.strs Y) 0 Y.length, .ro (.strs R) 0 R.length, .str V]⟩]) [(2, .ptr 0 0 0), (3, .ptr 1 0 0), (16, .ptr 1 0 1), (19, .ptr 1 0 2), (22, .ptr 1 0 3), (17, .ro (.strs X) 0 X.length), (18, .ro (qsC x) 0 x.length), (20, .ro (.strs Y) 0 Y.length), (21, .ro (qsC y) 0 y.length), (23, .ro (.strs R) 0 R.length), (24, .ro (qsC r) 0 r.length)]
 intro s14
 apply zAQ (H := [some ⟨188, .box [.ro (zn A) 0 A.length, .ro (qsC B) 0 B.length, .ro (qsC C) 0 C.length]⟩, some ⟨88, .box [.int .i64 (k : Nat), .ro (.strs X) 0 X.length, .ro (.strs Y) 0 Y.length, .ro (.strs R) 0 R.length, .str V]⟩]) [(2, .ptr 0 0 0), (3, .ptr 1 0 0), (16, .ptr 1 0 1), (19, .ptr 1 0 2), (22, .ptr 1 0 3), (17, .ro (.strs X) 0 X.length), (18, .ro (qsC x) 0 x.length), (20, .ro (.strs Y) 0 Y.length), (21, .ro (qsC y) 0 y.length), (23, .ro (.strs R) 0 R.length)]
 intro s13
 apply zAQ (H := [some ⟨188, .box [.ro (zn A) 0 A.length, .ro (qsC B) 0 B.length, .ro (qsC C) 0 C.length]⟩, some ⟨88, .box [.int .i64 (k : Nat), .ro (.strs X) 0 X.length, .ro (.strs Y) 0 Y.length, .ro (.strs R) 0 R.length, .str V]⟩]) [(2, .ptr 0 0 0), (3, .ptr 1 0 0), (16, .ptr 1 0 1), (19, .ptr 1 0 2), (22, .ptr 1 0 3), (17, .ro (.strs X) 0 X.length), (18, .ro (qsC x) 0 x.length), (20, .ro (.strs Y) 0 Y.length), (23, .ro (.strs R) 0 R.length)]
 intro s12
 apply zAQ (H := [some ⟨188, .box [.ro (zn A) 0 A.length, .ro (qsC B) 0 B.length, .ro (qsC C) 0 C.length]⟩, some ⟨88, .box [.int .i64 (k : Nat), .ro (.strs X) 0 X.length, .ro (.strs Y) 0 Y.length, .ro (.strs R) 0 R.length, .str V]⟩]) [(2, .ptr 0 0 0), (3, .ptr 1 0 0), (16, .ptr 1 0 1), (19, .ptr 1 0 2), (22, .ptr 1 0 3), (17, .ro (.strs X) 0 X.length), (18, .ro (qsC x) 0 x.length), (20, .ro (.strs Y) 0 Y.length), (21, .ro (qsC y) 0 y.length)]
 intro s11
 apply zAQ (H := [some ⟨188, .box [.ro (zn A) 0 A.length, .ro (qsC B) 0 B.length, .ro (qsC C) 0 C.length]⟩, some ⟨88, .box [.int .i64 (k : Nat), .ro (.strs X) 0 X.length, .ro (.strs Y) 0 Y.length, .ro (.strs R) 0 R.length, .str V]⟩]) [(2, .ptr 0 0 0), (3, .ptr 1 0 0), (16, .ptr 1 0 1), (19, .ptr 1 0 2), (22, .ptr 1 0 3), (17, .ro (.strs X) 0 X.length), (20, .ro (.strs Y) 0 Y.length), (23, .ro (.strs R) 0 R.length)]
 intro s10
 apply zAQ (H := [some ⟨188, .box [.ro (zn A) 0 A.length, .ro (qsC B) 0 B.length, .ro (qsC C) 0 C.length]⟩, some ⟨88, .box [.int .i64 (k : Nat), .ro (.strs X) 0 X.length, .ro (.strs Y) 0 Y.length, .ro (.strs R) 0 R.length, .str V]⟩]) [(2, .ptr 0 0 0), (3, .ptr 1 0 0), (16, .ptr 1 0 1), (19, .ptr 1 0 2), (22, .ptr 1 0 3), (17, .ro (.strs X) 0 X.length), (18, .ro (qsC x) 0 x.length), (23, .ro (.strs R) 0 R.length)]
 intro s9
 apply zAQ (H := [some ⟨188, .box [.ro (zn A) 0 A.length, .ro (qsC B) 0 B.length, .ro (qsC C) 0 C.length]⟩, some ⟨88, .box [.int .i64 (k : Nat), .ro (.strs X) 0 X.length, .ro (.strs Y) 0 Y.length, .ro (.strs R) 0 R.length, .str V]⟩]) [(2, .ptr 0 0 0), (3, .ptr 1 0 0), (16, .ptr 1 0 1), (19, .ptr 1 0 2), (22, .ptr 1 0 3), (17, .ro (.strs X) 0 X.length), (18, .ro (qsC x) 0 x.length), (20, .ro (.strs Y) 0 Y.length)]
 intro s8
 apply zAQ (H := [some ⟨188, .box [.ro (zn A) 0 A.length, .ro (qsC B) 0 B.length, .ro (qsC C) 0 C.length]⟩, some ⟨88, .box [.int .i64 (k : Nat), .ro (.strs X) 0 X.length, .ro (.strs Y) 0 Y.length, .ro (.strs R) 0 R.length, .str V]⟩]) [(2, .ptr 0 0 0), (3, .ptr 1 0 0), (16, .ptr 1 0 1), (19, .ptr 1 0 2), (22, .ptr 1 0 3), (20, .ro (.strs Y) 0 Y.length), (23, .ro (.strs R) 0 R.length)]
 intro s7
 apply zAQ (H := [some ⟨188, .box [.ro (zn A) 0 A.length, .ro (qsC B) 0 B.length, .ro (qsC C) 0 C.length]⟩, some ⟨88, .box [.int .i64 (k : Nat), .ro (.strs X) 0 X.length, .ro (.strs Y) 0 Y.length, .ro (.strs R) 0 R.length, .str V]⟩]) [(2, .ptr 0 0 0), (3, .ptr 1 0 0), (16, .ptr 1 0 1), (19, .ptr 1 0 2), (22, .ptr 1 0 3), (17, .ro (.strs X) 0 X.length), (23, .ro (.strs R) 0 R.length)]
 intro s6
 apply zAQ (H := [some ⟨188, .box [.ro (zn A) 0 A.length, .ro (qsC B) 0 B.length, .ro (qsC C) 0 C.length]⟩, some ⟨88, .box [.int .i64 (k : Nat), .ro (.strs X) 0 X.length, .ro (.strs Y) 0 Y.length, .ro (.strs R) 0 R.length, .str V]⟩]) [(2, .ptr 0 0 0), (3, .ptr 1 0 0), (16, .ptr 1 0 1), (19, .ptr 1 0 2), (22, .ptr 1 0 3), (17, .ro (.strs X) 0 X.length), (20, .ro (.strs Y) 0 Y.length)]
 intro s5
 apply zAQ (H := [some ⟨188, .box [.ro (zn A) 0 A.length, .ro (qsC B) 0 B.length, .ro (qsC C) 0 C.length]⟩, some ⟨88, .box [.int .i64 (k : Nat), .ro (.strs X) 0 X.length, .ro (.strs Y) 0 Y.length, .ro (.strs R) 0 R.length, .str V]⟩]) [(2, .ptr 0 0 0), (3, .ptr 1 0 0), (16, .ptr 1 0 1), (19, .ptr 1 0 2), (22, .ptr 1 0 3), (17, .ro (.strs X) 0 X.length), (18, .ro (qsC x) 0 x.length)]
 intro s4
 apply zAQ (H := [some ⟨188, .box [.ro (zn A) 0 A.length, .ro (qsC B) 0 B.length, .ro (qsC C) 0 C.length]⟩, some ⟨88, .box [.int .i64 (k : Nat), .ro (.strs X) 0 X.length, .ro (.strs Y) 0 Y.length, .ro (.strs R) 0 R.length, .str V]⟩]) [(2, .ptr 0 0 0), (3, .ptr 1 0 0), (16, .ptr 1 0 1), (19, .ptr 1 0 2), (22, .ptr 1 0 3), (23, .ro (.strs R) 0 R.length)]
 intro s3
 apply zAQ (H := [some ⟨188, .box [.ro (zn A) 0 A.length, .ro (qsC B) 0 B.length, .ro (qsC C) 0 C.length]⟩, some ⟨88, .box [.int .i64 (k : Nat), .ro (.strs X) 0 X.length, .ro (.strs Y) 0 Y.length, .ro (.strs R) 0 R.length, .str V]⟩]) [(2, .ptr 0 0 0), (3, .ptr 1 0 0), (16, .ptr 1 0 1), (19, .ptr 1 0 2), (22, .ptr 1 0 3), (20, .ro (.strs Y) 0 Y.length)]
 intro s2
 apply zAQ (H := [some ⟨188, .box [.ro (zn A) 0 A.length, .ro (qsC B) 0 B.length, .ro (qsC C) 0 C.length]⟩, some ⟨88, .box [.int .i64 (k : Nat), .ro (.strs X) 0 X.length, .ro (.strs Y) 0 Y.length, .ro (.strs R) 0 R.length, .str V]⟩]) [(2, .ptr 0 0 0), (3, .ptr 1 0 0), (16, .ptr 1 0 1), (19, .ptr 1 0 2), (22, .ptr 1 0 3), (17, .ro (.strs X) 0 X.length)]
 intro s1
 ·refine zH (is := [1, 4, 7, 9]) (by kernel_rfl) (by simp) Z ⟨fun o ho => ?_, fun o ho => ?_, fun o ho => ?_, fun o ho => ?_, trivial⟩
  all_goals (cases ho)
  ·refine rn4 ?_
   exact s1 _ ⟨Z, Z, Z, Z, Z, Z, trivial⟩
  ·refine rn4 ?_
   exact s2 _ ⟨Z, Z, Z, Z, Z, Z, trivial⟩
  ·refine rn4 ?_
   exact s3 _ ⟨Z, Z, Z, Z, Z, Z, trivial⟩
  ·refine rn4 ?_
   refine zAm (fuel := 3) [1, 2, 4, 5, 7, 8] [(2, .ptr 0 0 0), (3, .ptr 1 0 0), (16, .ptr 1 0 1), (19, .ptr 1 0 2), (22, .ptr 1 0 3), (5, .ptr 2 0 0)] ⟨Z, Z, Z, Z, Z, Z, trivial⟩ (by kernel_rfl) (by decide) Z Z ?_
   refine zK Z Z (zQ Z Z Z Z Z) ?_
   refine zAc Z Z Z Z Z c1 ?_
   refine zK Z Z (zQ Z Z Z Z Z) ?_
   refine zAc Z Z Z Z Z c2 ?_
   refine zK Z Z (zQ Z Z Z Z Z) ?_
   refine zAc Z Z Z Z Z c3 ?_
   refine zz ?_
   exact fin _ ⟨Z, Z, Z, Z, Z, Z, trivial⟩
 ·refine zH (is := [2, 4, 7, 9]) (by kernel_rfl) (by simp) Z ⟨fun o ho => ?_, fun o ho => ?_, fun o ho => ?_, fun o ho => ?_, trivial⟩
  all_goals (cases ho)
  ·refine zB Z Z Z c1 ?_
   refine rn1 ?_
   exact s4 _ ⟨Z, Z, Z, Z, Z, Z, Z, trivial⟩
  ·refine rn4 ?_
   exact s5 _ ⟨Z, Z, Z, Z, Z, Z, Z, trivial⟩
  ·refine rn4 ?_
   exact s6 _ ⟨Z, Z, Z, Z, Z, Z, Z, trivial⟩
  ·refine rn4 ?_
   refine zAm (fuel := 3) [2, 4, 5, 7, 8] [(2, .ptr 0 0 0), (3, .ptr 1 0 0), (16, .ptr 1 0 1), (19, .ptr 1 0 2), (22, .ptr 1 0 3), (17, .ro (.strs X) 0 X.length), (5, .ptr 2 0 0)] ⟨Z, Z, Z, Z, Z, Z, Z, trivial⟩ (by kernel_rfl) (by decide) Z Z ?_
   refine zAc Z Z Z Z Z c1 ?_
   refine zK Z Z (zQ Z Z Z Z Z) ?_
   refine zAc Z Z Z Z Z c2 ?_
   refine zK Z Z (zQ Z Z Z Z Z) ?_
   refine zAc Z Z Z Z Z c3 ?_
   refine zz ?_
   exact fin _ ⟨Z, Z, Z, Z, Z, Z, trivial⟩
 ·refine zH (is := [1, 7, 9]) (by kernel_rfl) (by simp) Z ⟨fun o ho => ?_, fun o ho => ?_, fun o ho => ?_, trivial⟩
  all_goals (cases ho)
  ·refine rn4 ?_
   exact s5 _ ⟨Z, Z, Z, Z, Z, Z, Z, trivial⟩
  ·refine rn4 ?_
   exact s7 _ ⟨Z, Z, Z, Z, Z, Z, Z, trivial⟩
  ·refine rn4 ?_
   refine zAm (fuel := 3) [1, 2, 5, 7, 8] [(2, .ptr 0 0 0), (3, .ptr 1 0 0), (16, .ptr 1 0 1), (19, .ptr 1 0 2), (22, .ptr 1 0 3), (20, .ro (.strs Y) 0 Y.length), (5, .ptr 2 0 0)] ⟨Z, Z, Z, Z, Z, Z, Z, trivial⟩ (by kernel_rfl) (by decide) Z Z ?_
   refine zK Z Z (zQ Z Z Z Z Z) ?_
   refine zAc Z Z Z Z Z c1 ?_
   refine zAc Z Z Z Z Z c2 ?_
   refine zK Z Z (zQ Z Z Z Z Z) ?_
   refine zAc Z Z Z Z Z c3 ?_
   refine zz ?_
   exact fin _ ⟨Z, Z, Z, Z, Z, Z, trivial⟩
 ·refine zH (is := [1, 4, 9]) (by kernel_rfl) (by simp) Z ⟨fun o ho => ?_, fun o ho => ?_, fun o ho => ?_, trivial⟩
  all_goals (cases ho)
  ·refine rn4 ?_
   exact s6 _ ⟨Z, Z, Z, Z, Z, Z, Z, trivial⟩
  ·refine rn4 ?_
   exact s7 _ ⟨Z, Z, Z, Z, Z, Z, Z, trivial⟩
  ·refine rn4 ?_
   refine zAm (fuel := 3) [1, 2, 4, 5, 8] [(2, .ptr 0 0 0), (3, .ptr 1 0 0), (16, .ptr 1 0 1), (19, .ptr 1 0 2), (22, .ptr 1 0 3), (23, .ro (.strs R) 0 R.length), (5, .ptr 2 0 0)] ⟨Z, Z, Z, Z, Z, Z, Z, trivial⟩ (by kernel_rfl) (by decide) Z Z ?_
   refine zK Z Z (zQ Z Z Z Z Z) ?_
   refine zAc Z Z Z Z Z c1 ?_
   refine zK Z Z (zQ Z Z Z Z Z) ?_
   refine zAc Z Z Z Z Z c2 ?_
   refine zAc Z Z Z Z Z c3 ?_
   refine zz ?_
   exact fin _ ⟨Z, Z, Z, Z, Z, Z, trivial⟩
 ·refine zH (is := [4, 7, 9]) (by kernel_rfl) (by simp) Z ⟨fun o ho => ?_, fun o ho => ?_, fun o ho => ?_, trivial⟩
  all_goals (cases ho)
  ·refine rn4 ?_
   exact s8 _ ⟨Z, Z, Z, Z, Z, Z, Z, Z, trivial⟩
  ·refine rn4 ?_
   exact s9 _ ⟨Z, Z, Z, Z, Z, Z, Z, Z, trivial⟩
  ·refine rn4 ?_
   refine zAm (fuel := 3) [4, 5, 7, 8] [(2, .ptr 0 0 0), (3, .ptr 1 0 0), (16, .ptr 1 0 1), (19, .ptr 1 0 2), (22, .ptr 1 0 3), (17, .ro (.strs X) 0 X.length), (18, .ro (qsC x) 0 x.length), (5, .ptr 2 0 0)] ⟨Z, Z, Z, Z, Z, Z, Z, Z, trivial⟩ (by kernel_rfl) (by decide) Z Z ?_
   refine zK Z Z (zQ Z Z Z Z Z) ?_
   refine zAc Z Z Z Z Z c2 ?_
   refine zK Z Z (zQ Z Z Z Z Z) ?_
   refine zAc Z Z Z Z Z c3 ?_
   refine zz ?_
   exact fin _ ⟨Z, Z, Z, Z, Z, Z, trivial⟩
 ·refine zH (is := [2, 7, 9]) (by kernel_rfl) (by simp) Z ⟨fun o ho => ?_, fun o ho => ?_, fun o ho => ?_, trivial⟩
  all_goals (cases ho)
  ·refine zB Z Z Z c1 ?_
   refine rn1 ?_
   exact s8 _ ⟨Z, Z, Z, Z, Z, Z, Z, Z, trivial⟩
  ·refine rn4 ?_
   exact s10 _ ⟨Z, Z, Z, Z, Z, Z, Z, Z, trivial⟩
  ·refine rn4 ?_
   refine zAm (fuel := 3) [2, 5, 7, 8] [(2, .ptr 0 0 0), (3, .ptr 1 0 0), (16, .ptr 1 0 1), (19, .ptr 1 0 2), (22, .ptr 1 0 3), (17, .ro (.strs X) 0 X.length), (20, .ro (.strs Y) 0 Y.length), (5, .ptr 2 0 0)] ⟨Z, Z, Z, Z, Z, Z, Z, Z, trivial⟩ (by kernel_rfl) (by decide) Z Z ?_
   refine zAc Z Z Z Z Z c1 ?_
   refine zAc Z Z Z Z Z c2 ?_
   refine zK Z Z (zQ Z Z Z Z Z) ?_
   refine zAc Z Z Z Z Z c3 ?_
   refine zz ?_
   exact fin _ ⟨Z, Z, Z, Z, Z, Z, trivial⟩
 ·refine zH (is := [2, 4, 9]) (by kernel_rfl) (by simp) Z ⟨fun o ho => ?_, fun o ho => ?_, fun o ho => ?_, trivial⟩
  all_goals (cases ho)
  ·refine zB Z Z Z c1 ?_
   refine rn1 ?_
   exact s9 _ ⟨Z, Z, Z, Z, Z, Z, Z, Z, trivial⟩
  ·refine rn4 ?_
   exact s10 _ ⟨Z, Z, Z, Z, Z, Z, Z, Z, trivial⟩
  ·refine rn4 ?_
   refine zAm (fuel := 3) [2, 4, 5, 8] [(2, .ptr 0 0 0), (3, .ptr 1 0 0), (16, .ptr 1 0 1), (19, .ptr 1 0 2), (22, .ptr 1 0 3), (17, .ro (.strs X) 0 X.length), (23, .ro (.strs R) 0 R.length), (5, .ptr 2 0 0)] ⟨Z, Z, Z, Z, Z, Z, Z, Z, trivial⟩ (by kernel_rfl) (by decide) Z Z ?_
   refine zAc Z Z Z Z Z c1 ?_
   refine zK Z Z (zQ Z Z Z Z Z) ?_
   refine zAc Z Z Z Z Z c2 ?_
   refine zAc Z Z Z Z Z c3 ?_
   refine zz ?_
   exact fin _ ⟨Z, Z, Z, Z, Z, Z, trivial⟩
 ·refine zH (is := [1, 9]) (by kernel_rfl) (by simp) Z ⟨fun o ho => ?_, fun o ho => ?_, trivial⟩
  all_goals (cases ho)
  ·refine rn4 ?_
   exact s10 _ ⟨Z, Z, Z, Z, Z, Z, Z, Z, trivial⟩
  ·refine rn4 ?_
   refine zAm (fuel := 3) [1, 2, 5, 8] [(2, .ptr 0 0 0), (3, .ptr 1 0 0), (16, .ptr 1 0 1), (19, .ptr 1 0 2), (22, .ptr 1 0 3), (20, .ro (.strs Y) 0 Y.length), (23, .ro (.strs R) 0 R.length), (5, .ptr 2 0 0)] ⟨Z, Z, Z, Z, Z, Z, Z, Z, trivial⟩ (by kernel_rfl) (by decide) Z Z ?_
   refine zK Z Z (zQ Z Z Z Z Z) ?_
   refine zAc Z Z Z Z Z c1 ?_
   refine zAc Z Z Z Z Z c2 ?_
   refine zAc Z Z Z Z Z c3 ?_
   refine zz ?_
   exact fin _ ⟨Z, Z, Z, Z, Z, Z, trivial⟩
 ·refine zH (is := [5, 7, 9]) (by kernel_rfl) (by simp) Z ⟨fun o ho => ?_, fun o ho => ?_, fun o ho => ?_, trivial⟩
  all_goals (cases ho)
  ·refine zB Z Z Z c2 ?_
   refine rn1 ?_
   exact s11 _ ⟨Z, Z, Z, Z, Z, Z, Z, Z, Z, trivial⟩
  ·refine rn4 ?_
   exact s12 _ ⟨Z, Z, Z, Z, Z, Z, Z, Z, Z, trivial⟩
  ·refine rn4 ?_
   refine zAm (fuel := 3) [5, 7, 8] [(2, .ptr 0 0 0), (3, .ptr 1 0 0), (16, .ptr 1 0 1), (19, .ptr 1 0 2), (22, .ptr 1 0 3), (17, .ro (.strs X) 0 X.length), (18, .ro (qsC x) 0 x.length), (20, .ro (.strs Y) 0 Y.length), (5, .ptr 2 0 0)] ⟨Z, Z, Z, Z, Z, Z, Z, Z, Z, trivial⟩ (by kernel_rfl) (by decide) Z Z ?_
   refine zAc Z Z Z Z Z c2 ?_
   refine zK Z Z (zQ Z Z Z Z Z) ?_
   refine zAc Z Z Z Z Z c3 ?_
   refine zz ?_
   exact fin _ ⟨Z, Z, Z, Z, Z, Z, trivial⟩
 ·refine zH (is := [4, 9]) (by kernel_rfl) (by simp) Z ⟨fun o ho => ?_, fun o ho => ?_, trivial⟩
  all_goals (cases ho)
  ·refine rn4 ?_
   exact s12 _ ⟨Z, Z, Z, Z, Z, Z, Z, Z, Z, trivial⟩
  ·refine rn4 ?_
   refine zAm (fuel := 3) [4, 5, 8] [(2, .ptr 0 0 0), (3, .ptr 1 0 0), (16, .ptr 1 0 1), (19, .ptr 1 0 2), (22, .ptr 1 0 3), (17, .ro (.strs X) 0 X.length), (18, .ro (qsC x) 0 x.length), (23, .ro (.strs R) 0 R.length), (5, .ptr 2 0 0)] ⟨Z, Z, Z, Z, Z, Z, Z, Z, Z, trivial⟩ (by kernel_rfl) (by decide) Z Z ?_
   refine zK Z Z (zQ Z Z Z Z Z) ?_
   refine zAc Z Z Z Z Z c2 ?_
   refine zAc Z Z Z Z Z c3 ?_
   refine zz ?_
   exact fin _ ⟨Z, Z, Z, Z, Z, Z, trivial⟩
 ·refine zH (is := [2, 9]) (by kernel_rfl) (by simp) Z ⟨fun o ho => ?_, fun o ho => ?_, trivial⟩
  all_goals (cases ho)
  ·refine zB Z Z Z c1 ?_
   refine rn1 ?_
   exact s12 _ ⟨Z, Z, Z, Z, Z, Z, Z, Z, Z, trivial⟩
  ·refine rn4 ?_
   refine zAm (fuel := 3) [2, 5, 8] [(2, .ptr 0 0 0), (3, .ptr 1 0 0), (16, .ptr 1 0 1), (19, .ptr 1 0 2), (22, .ptr 1 0 3), (17, .ro (.strs X) 0 X.length), (20, .ro (.strs Y) 0 Y.length), (23, .ro (.strs R) 0 R.length), (5, .ptr 2 0 0)] ⟨Z, Z, Z, Z, Z, Z, Z, Z, Z, trivial⟩ (by kernel_rfl) (by decide) Z Z ?_
   refine zAc Z Z Z Z Z c1 ?_
   refine zAc Z Z Z Z Z c2 ?_
   refine zAc Z Z Z Z Z c3 ?_
   refine zz ?_
   exact fin _ ⟨Z, Z, Z, Z, Z, Z, trivial⟩
 ·refine zH (is := [7, 9]) (by kernel_rfl) (by simp) Z ⟨fun o ho => ?_, fun o ho => ?_, trivial⟩
  all_goals (cases ho)
  ·refine rn4 ?_
   exact s13 _ ⟨Z, Z, Z, Z, Z, Z, Z, Z, Z, Z, trivial⟩
  ·refine rn4 ?_
   refine zAm (fuel := 3) [7, 8] [(2, .ptr 0 0 0), (3, .ptr 1 0 0), (16, .ptr 1 0 1), (19, .ptr 1 0 2), (22, .ptr 1 0 3), (17, .ro (.strs X) 0 X.length), (18, .ro (qsC x) 0 x.length), (20, .ro (.strs Y) 0 Y.length), (21, .ro (qsC y) 0 y.length), (5, .ptr 2 0 0)] ⟨Z, Z, Z, Z, Z, Z, Z, Z, Z, Z, trivial⟩ (by kernel_rfl) (by decide) Z Z ?_
   refine zK Z Z (zQ Z Z Z Z Z) ?_
   refine zAc Z Z Z Z Z c3 ?_
   refine zz ?_
   exact fin _ ⟨Z, Z, Z, Z, Z, Z, trivial⟩
 ·refine zH (is := [5, 9]) (by kernel_rfl) (by simp) Z ⟨fun o ho => ?_, fun o ho => ?_, trivial⟩
  all_goals (cases ho)
  ·refine zB Z Z Z c2 ?_
   refine rn1 ?_
   exact s13 _ ⟨Z, Z, Z, Z, Z, Z, Z, Z, Z, Z, trivial⟩
  ·refine rn4 ?_
   refine zAm (fuel := 3) [5, 8] [(2, .ptr 0 0 0), (3, .ptr 1 0 0), (16, .ptr 1 0 1), (19, .ptr 1 0 2), (22, .ptr 1 0 3), (17, .ro (.strs X) 0 X.length), (18, .ro (qsC x) 0 x.length), (20, .ro (.strs Y) 0 Y.length), (23, .ro (.strs R) 0 R.length), (5, .ptr 2 0 0)] ⟨Z, Z, Z, Z, Z, Z, Z, Z, Z, Z, trivial⟩ (by kernel_rfl) (by decide) Z Z ?_
   refine zAc Z Z Z Z Z c2 ?_
   refine zAc Z Z Z Z Z c3 ?_
   refine zz ?_
   exact fin _ ⟨Z, Z, Z, Z, Z, Z, trivial⟩
 ·refine zH (is := [8, 9]) (by kernel_rfl) (by simp) Z ⟨fun o ho => ?_, fun o ho => ?_, trivial⟩
  all_goals (cases ho)
  ·refine zB Z Z Z c3 ?_
   refine rn1 ?_
   exact s14 _ ⟨Z, Z, Z, Z, Z, Z, Z, Z, Z, Z, Z, trivial⟩
  ·refine rn4 ?_
   refine zAm (fuel := 3) [8] [(2, .ptr 0 0 0), (3, .ptr 1 0 0), (16, .ptr 1 0 1), (19, .ptr 1 0 2), (22, .ptr 1 0 3), (17, .ro (.strs X) 0 X.length), (18, .ro (qsC x) 0 x.length), (20, .ro (.strs Y) 0 Y.length), (21, .ro (qsC y) 0 y.length), (23, .ro (.strs R) 0 R.length), (5, .ptr 2 0 0)] ⟨Z, Z, Z, Z, Z, Z, Z, Z, Z, Z, Z, trivial⟩ (by kernel_rfl) (by decide) Z Z ?_
   refine zAc Z Z Z Z Z c3 ?_
   refine zz ?_
   exact fin _ ⟨Z, Z, Z, Z, Z, Z, trivial⟩
 ·refine zH (is := [9]) (by kernel_rfl) (by simp) Z ⟨fun o ho => ?_, trivial⟩
  all_goals (cases ho)
  refine rn4 ?_
  exact fin _ ⟨Z, Z, Z, Z, Z, Z, trivial⟩
 refine zH (is := [10]) (by kernel_rfl) (by simp) Z ⟨fun o ho => ?_, trivial⟩
 all_goals (cases ho)
 refine zEL ?_
 refine zH (is := [11]) (by kernel_rfl) (by simp) Z ⟨fun o ho => ?_, trivial⟩
 all_goals (cases ho)
 refine rn1 ?_
 refine zH (is := [12]) (by kernel_rfl) (by simp) Z ⟨fun o ho => ?_, trivial⟩
 all_goals (cases ho)
 refine rn1 ?_
 refine zX (by kernel_rfl) ?_
 refine zEL ?_
 refine zAV [some ⟨188, .box [.ro (zn A) 0 A.length, .ro (qsC B) 0 B.length, .ro (qsC C) 0 C.length]⟩, some ⟨88, .box [.int .i64 (k : Nat), .ro (.strs X) 0 X.length, .ro (.strs Y) 0 Y.length, .ro (.strs R) 0 R.length, .str V]⟩, some ⟨135, .box [.ro (qsC x) 0 x.length]⟩] Z ?_
 refine zKL [(2, .rp (zGe A B C) 0 0), (3, .rp (.box [.int .i64 (k : Nat), .ro (.strs X) 0 X.length, .ro (.strs Y) 0 Y.length, .ro (.strs R) 0 R.length, .str V]) 0 0), (5, .rp (.box [.ro (qsC x) 0 x.length]) 0 0), (6, .ro (qsC y) 0 y.length), (7, .ro (qsC r) 0 r.length)] (refl3 (zDi rfl) (zDi rfl) (zDi rfl)) ⟨⟨.ptr 0 0 0, rfl, .inr (.inr ⟨rfl, fun o ho => by simp at ho; subst ho; exact Nat.zero_lt_one⟩)⟩, ⟨.ptr 1 0 0, rfl, .inr (.inr ⟨rfl, fun o ho => by simp at ho; subst ho; exact Nat.zero_lt_one⟩)⟩, ⟨.ptr 2 0 0, rfl, .inr (.inr ⟨rfl, fun o ho => by simp at ho; subst ho; exact Nat.zero_lt_one⟩)⟩, ⟨_, rfl, .inl rfl⟩, ⟨_, rfl, .inl rfl⟩, trivial⟩ ⟨rfl, rfl, rfl, rfl, rfl, trivial⟩ rfl (by rw [hfix]; exact fun h hh => hh) ?_
 have hx40 : x.length ≤ 40 := by rw [hx, hl1]; split <;> omega
 have hy40 : y.length ≤ 40 := by rw [hy, hl2]; split <;> omega
 have hr40 : r.length ≤ 40 := by rw [hr, hl3]; split <;> omega
 have n1 := zGV x (by omega)
 have n2 := zGV y (by omega)
 have n3 := zGV r (by omega)
 have cC := cols_ok A C.length (by omega) (by omega) (fun a ha => (hD.w a ha).1)
 refine zHe ?_
 refine zB Z Z Z n1 ?_
 cases h1 : zCD x
 ·rw [h1] at hR
  simp only [Bool.false_and] at hR
  refine rn6 ?_
  exact zI hR Z Z
 rw [h1] at hR
 refine rn5 ?_
 refine zB Z Z Z n2 ?_
 cases h2 : zCD y
 ·rw [h2] at hR
  simp only [Bool.false_and, Bool.and_false] at hR
  refine rn6 ?_
  exact zI hR Z Z
 rw [h2] at hR
 refine rn5 ?_
 refine zB Z Z Z n3 ?_
 cases h3 : zCD r
 ·rw [h3] at hR
  simp only [Bool.false_and, Bool.and_false] at hR
  refine rn5 ?_
  exact zI hR Z Z
 rw [h3] at hR
 simp only [Bool.true_and] at hR
 unfold zGe
 repeat (first | refine zP ?_ | refine zF ?_ | refine z8 ?_ | refine zV rfl ?_ | refine zAo rfl rfl ?_ | refine zAT rfl ?_ | refine zAh ?_ | refine zG (zIk rfl) ?_ | refine zG (zAb rfl rfl) ?_ | refine zG (zA5 rfl rfl rfl) ?_ | refine zG (zBv rfl rfl rfl rfl) ?_ | refine zG (zCU rfl rfl rfl rfl rfl rfl) ?_)
 refine zB Z Z Z cC ?_
 refine rn8 ?_
 have hrow : ∀ i, i < A.length → (A.getD i []).length = C.length ∧ ∀ q ∈ A.getD i [], D 2000 q := fun i hi => hD.w _ (zAr [] hi)
 have hfe : zLZ ⟨A, B, C⟩ x = (List.range A.length).all (fun i => decide (zAB (A.getD i []) x ≤ B.getD i 0)) := by
  unfold zLZ; rw [hab]
 by_cases k2 : k = 2
 ·subst k2
  rw [if_pos rfl] at hl2 hl3
  rw [if_neg (by decide)] at hl1
  rw [if_neg (by decide), if_neg (by decide), hfe] at hR
  repeat (refine z7 ?_)
  refine zh (ι := Nat) (fun j => [(2, .rp (.box [.ro (zn A) 0 A.length, .ro (qsC B) 0 B.length, .ro (qsC C) 0 C.length]) 0 0), (3, .rp (.box [.int .i64 (2 : Nat), .ro (.strs X) 0 X.length, .ro (.strs Y) 0 Y.length, .ro (.strs R) 0 R.length, .str V]) 0 0), (5, .rp (.box [.ro (qsC x) 0 x.length]) 0 0), (6, .ro (qsC y) 0 y.length), (7, .ro (qsC r) 0 r.length), (8, .fn 172 []), (10, .nil), (47, .ro (zn (zDu A C.length)) 0 C.length), (48, .int .i64 (C.length : Nat)), (49, .int .i64 (j : Nat))]) (fun _ => [])
   (fun j => j ≤ C.length) (fun j => C.length - j) 0 ⟨⟨rfl, rfl, rfl, rfl, rfl, rfl, rfl, rfl, rfl, rfl, trivial⟩, rfl, Nat.zero_le _⟩ ?_
  intro j hj
  refine rn4 ?_
  refine zD Z (fun h5 => ?_) (fun h5 => ?_)
  ·refine rn20 ?_
   exact zM ⟨j + 1, by omega, by omega, ⟨Z, Z, Z, Z, Z, Z, Z, Z, Z, Z, trivial⟩, Z⟩
  have d1 := fun i (hi : i < A.length) => dot1 (hrow i hi).2 hD.x (by rw [(hrow i hi).1]; omega) hx40
  have d2 := fun i (hi : i < A.length) => dot1 (hrow i hi).2 hD.r (by rw [(hrow i hi).1]; omega) hr40
  obtain ⟨d3, d4⟩ := dot1 hD.c hD.r (by omega) hr40
  have cf := zNs A B C x (by omega) hab (fun q hq => zGG ((hD.b q hq).mono (by decide))) (fun i hi => (d1 i hi).1) (fun i hi => (d1 i hi).2)
  have cr := zNG A B C r 179 [] (fun i => decide (zAB (A.getD i []) r ≤ 0)) rfl rfl (by omega) (fun i hi => (d2 i hi).1) (fun i hi => pnp_ok i _)
  have hra : rays0 ⟨A, B, C⟩ r = (List.range A.length).all (fun i => decide (zAB (A.getD i []) r ≤ 0)) := by
   unfold rays0; rw [hab]
  have hg := sgnQ_gt (zAB C r)
  have cs := zEB (zAB C r)
  rw [hra, show zAB (⟨A, B, C⟩ : Prog).C r = zAB C r from rfl, ← hg] at hR
  generalize (List.range A.length).all (fun i => decide (zAB (A.getD i []) x ≤ B.getD i 0)) = F1 at *
  generalize (List.range A.length).all (fun i => decide (zAB (A.getD i []) r ≤ 0)) = F2 at *
  refine zEL ?_
  refine zV Z ?_
  refine zEL ?_
  refine zAV [some ⟨259, .box [.fn 175 [.rp (.box [.ro (zn A) 0 A.length, .ro (qsC B) 0 B.length, .ro (qsC C) 0 C.length]) 0 0]]⟩] Z ?_
  refine zKL [(2, .rp (.box [.ro (zn A) 0 A.length, .ro (qsC B) 0 B.length, .ro (qsC C) 0 C.length]) 0 0), (3, .rp (.box [.int .i64 (2 : Nat), .ro (.strs X) 0 X.length, .ro (.strs Y) 0 Y.length, .ro (.strs R) 0 R.length, .str V]) 0 0), (5, .rp (.box [.ro (qsC x) 0 x.length]) 0 0), (6, .ro (qsC y) 0 y.length), (7, .ro (qsC r) 0 r.length), (8, .fn 172 []), (10, .nil), (13, .rp (.box [.fn 175 [.rp (.box [.ro (zn A) 0 A.length, .ro (qsC B) 0 B.length, .ro (qsC C) 0 C.length]) 0 0]]) 0 0)] (zIB (zDi rfl)) ⟨⟨_, rfl, .inl rfl⟩, ⟨_, rfl, .inl rfl⟩, ⟨_, rfl, .inl rfl⟩, ⟨_, rfl, .inl rfl⟩, ⟨_, rfl, .inl rfl⟩, ⟨_, rfl, .inl rfl⟩, ⟨_, rfl, .inl rfl⟩, ⟨.ptr 0 0 0, rfl, .inr (.inr ⟨rfl, fun o ho => by simp at ho; subst ho; exact Nat.zero_lt_one⟩)⟩, trivial⟩ ⟨rfl, rfl, rfl, rfl, rfl, rfl, rfl, rfl, trivial⟩ rfl (by rw [hfix]; exact fun h hh => hh) ?_
  refine rn17 ?_
  refine zB Z Z Z cf ?_
  cases F1
  ·simp only [Bool.false_and] at hR
   refine rn6 ?_
   exact zI hR Z Z
  simp only [Bool.true_and] at hR
  refine zHe ?_
  refine zB Z Z Z cr ?_
  cases F2
  ·simp only [Bool.false_and] at hR
   refine rn6 ?_
   exact zI hR Z Z
  simp only [Bool.true_and] at hR
  refine zHe ?_
  refine zB Z Z Z d3 ?_
  repeat (refine zAo rfl rfl ?_)
  refine zB Z Z Z cs ?_
  refine rn6 ?_
  exact zI hR Z Z
 rw [if_neg k2] at hl2
 have hcl := zI8 A C.length
 have hcd : ∀ c ∈ zDu A C.length, c.length = A.length ∧ ∀ q ∈ c, D 2000 q := fun c hc => by
  obtain ⟨l, hl, rfl⟩ := List.mem_map.1 hc
  refine ⟨zFI _ _, fun q hq => ?_⟩
  obtain ⟨a, ha, rfl⟩ := List.mem_map.1 hq
  exact (hD.w a ha).2 _ (zAr 0 (by rw [(hD.w a ha).1]; simpa using hl))
 have hbe : (zDu A C.length).map (fun c => zAB c y) = (List.range C.length).map (fun j => zAB (zCK A j) y) := by unfold zDu; rw [List.map_map]; rfl
 generalize zDu A C.length = cols at *
 refine zAi 10 ⟨122, qsC []⟩ Z Z ?_
 repeat (refine z7 ?_)
 refine zh (ι := Nat) (fun j => [(2, .rp (.box [.ro (zn A) 0 A.length, .ro (qsC B) 0 B.length, .ro (qsC C) 0 C.length]) 0 0), (3, .rp (.box [.int .i64 (k : Nat), .ro (.strs X) 0 X.length, .ro (.strs Y) 0 Y.length, .ro (.strs R) 0 R.length, .str V]) 0 0), (5, .rp (.box [.ro (qsC x) 0 x.length]) 0 0), (6, .ro (qsC y) 0 y.length), (7, .ro (qsC r) 0 r.length), (8, .fn 172 []), (10, .sl 0 0 j), (47, .ro (zn cols) 0 C.length), (48, .int .i64 (C.length : Nat)), (49, .int .i64 (j : Nat))]) (fun j => [some ⟨122, qsC ((cols.take j).map (fun c => zAB c y))⟩])
  (fun j => j ≤ C.length) (fun j => C.length - j) 0 ⟨⟨rfl, rfl, rfl, rfl, rfl, rfl, rfl, rfl, rfl, rfl, trivial⟩, rfl, Nat.zero_le _⟩ ?_
 intro j hj
 refine rn4 ?_
 refine zD Z (fun h5 => ?_) (fun h5 => ?_)
 ·have hj' : j < cols.length := by omega
  obtain ⟨cl, cd⟩ := hcd _ (zAr [] hj')
  obtain ⟨hdot, _⟩ := dot1 cd hD.y (by omega) hy40
  have htj := zAx (fun c => zAB c y) cols [] j hj'
  have hmj : ((cols.take j).map (fun c => zAB c y)).length = j := by rw [List.length_map, List.length_take]; omega
  generalize hQ2 : (cols.take (j + 1)).map (fun c => zAB c y) = qs2 at *
  generalize (cols.take j).map (fun c => zAB c y) = qs at *
  generalize zAB (cols.getD j []) y = q at *
  refine rn20 ?_
  rw [decide_eq_true (show ¬ ((k : Nat) : Int) = 2 by omega)]
  refine rn5 ?_
  refine zB Z Z Z hdot ?_
  unfold qA
  repeat (refine zW rfl rfl rfl rfl rfl rfl rfl rfl rfl rfl rfl ?_)
  refine zAG Z Z Z Z Z Z Z Z Z hmj Z Z (by show 0 + 1 ≤ 1; omega) Z (by show (j + 1) * 56 ≤ _ ∧ _; omega) ?_ (by rw [hfix]; exact fun h => h) ?_
  ·intro i' j' hi hj
   exact zA9 0 3 zq zBS qs q _ (zDb _) 0 i' j' hi hj
  refine zEg ?_
  refine zF ?_
  refine zBH [some ⟨122, qsC qs2⟩] ?_ ?_
  ·rw [htj]
   exact ze.eqv (zBX 0 3 zq qs q _ (zDb _)) ze.nil
  refine rn3 ?_
  exact zM ⟨j + 1, by omega, by omega, ⟨Z, Z, Z, Z, Z, Z, Z, Z, Z, Z, trivial⟩, by rw [hQ2]⟩
 have hje : j = cols.length := by omega
 subst hje
 rw [List.take_length]
 have hbl : (cols.map (fun c => zAB c y)).length = C.length := by rw [List.length_map]; exact hcl
 have hbz : ∀ q ∈ cols.map (fun c => zAB c y), Sz 100000 q := fun q hq => by
  obtain ⟨c, hc, rfl⟩ := List.mem_map.1 hq
  exact (dot1 (hcd c hc).2 hD.y (by rw [(hcd c hc).1]; omega) hy40).2
 generalize cols.map (fun c => zAB c y) = bel at *
 refine zEL ?_
 refine zV Z ?_
 refine zEL ?_
 refine zAV [some ⟨122, qsC bel⟩, some ⟨259, (.box [.fn 175 [.rp (.box [.ro (zn A) 0 A.length, .ro (qsC B) 0 B.length, .ro (qsC C) 0 C.length]) 0 0]])⟩] Z ?_
 refine zKL [(2, .rp (.box [.ro (zn A) 0 A.length, .ro (qsC B) 0 B.length, .ro (qsC C) 0 C.length]) 0 0), (3, .rp (.box [.int .i64 (k : Nat), .ro (.strs X) 0 X.length, .ro (.strs Y) 0 Y.length, .ro (.strs R) 0 R.length, .str V]) 0 0), (5, .rp (.box [.ro (qsC x) 0 x.length]) 0 0), (6, .ro (qsC y) 0 y.length), (7, .ro (qsC r) 0 r.length), (8, .fn 172 []), (10, .ro (qsC bel) 0 cols.length), (13, .rp (.box [.fn 175 [.rp (.box [.ro (zn A) 0 A.length, .ro (qsC B) 0 B.length, .ro (qsC C) 0 C.length]) 0 0]]) 0 0)] (refl2 (zBk _) (zDi rfl)) ⟨⟨_, rfl, .inl rfl⟩, ⟨_, rfl, .inl rfl⟩, ⟨_, rfl, .inl rfl⟩, ⟨_, rfl, .inl rfl⟩, ⟨_, rfl, .inl rfl⟩, ⟨_, rfl, .inl rfl⟩, ⟨.sl 0 0 cols.length, rfl, .inr (.inr ⟨rfl, fun o ho => by simp at ho; subst ho; show 0 + cols.length ≤ bel.length; omega⟩)⟩, ⟨.ptr 1 0 0, rfl, .inr (.inr ⟨rfl, fun o ho => by simp at ho; subst ho; exact Nat.zero_lt_one⟩)⟩, trivial⟩ ⟨rfl, rfl, rfl, rfl, rfl, rfl, rfl, rfl, trivial⟩ rfl (by rw [hfix]; exact fun h hh => hh) ?_
 refine zAN 10 (.ro (qsC bel) 0 bel.length) Z (AEq.of_eq (by rw [hbl, hcl])) ?_
 have hk01 : k = 0 ∨ k = 1 := by omega
 rcases hk01 with rfl | rfl
 rotate_left
 ·have n4 := zGV bel (by omega)
  obtain ⟨d3, d4⟩ := dot1 hD.b hD.y (by omega) hy40
  have hb0 : zMg ⟨A, B, C⟩ y = zCD bel := by
   rw [hbe]
   unfold zMg zCD
   rw [List.all_map]; rfl
  have hg := sgnQ_lt (zAB B y)
  have cs := zEB (zAB B y)
  rw [if_neg (by decide), if_pos rfl, hb0, show zAB (⟨A, B, C⟩ : Prog).B y = zAB B y from rfl, ← hg] at hR
  refine rn17 ?_
  refine zB Z Z Z n4 ?_
  cases h6 : zCD bel
  ·rw [h6] at hR
   simp only [Bool.false_and] at hR
   refine rn6 ?_
   exact zI hR Z Z
  rw [h6] at hR
  simp only [Bool.true_and] at hR
  refine zHe ?_
  refine zB Z Z Z d3 ?_
  repeat (refine zAo rfl rfl ?_)
  refine zB Z Z Z cs ?_
  refine rn6 ?_
  exact zI hR Z Z
 rw [if_neg (by decide)] at hl1
 have hrv := hV.2 rfl
 have cpar := zDB V hV.1 hrv
 have hvD : D 2000 (zg V) := zDO (r := [V]) (fun s hs => by rw [List.mem_singleton.1 hs]; exact hrv) (zg V) (by simp)
 have d1 := fun i (hi : i < A.length) => dot1 (hrow i hi).2 hD.x (by rw [(hrow i hi).1]; omega) hx40
 have cf := zNs A B C x (by omega) hab (fun q hq => zGG ((hD.b q hq).mono (by decide))) (fun i hi => (d1 i hi).1) (fun i hi => (d1 i hi).2)
 have cl := zQG bel 178 [.rp (zGe A B C) 0 0] (fun i => decide (C.getD i 0 ≤ bel.getD i 0)) rfl rfl (by omega) (fun i hi => plc_ok A B C i _ (by omega) (by omega) (hbz _ (zAr 0 hi)) (zGG ((hD.c _ (zAr 0 (by omega))).mono (by decide))))
 have hbb : zCp ⟨A, B, C⟩ y = (List.range bel.length).all (fun i => decide (C.getD i 0 ≤ bel.getD i 0)) := by
  unfold zCp
  rw [Bool.eq_iff_iff, List.all_eq_true, List.all_eq_true]
  have e : ∀ j, j < C.length → bel.getD j 0 = zAB (zCK A j) y := fun j hj => by
   rw [hbe, zCe _ _ 0 0 j (by rw [List.length_range]; exact hj), zDo 0 (by rw [List.length_range]; exact hj), List.getElem_range]
  constructor
  ·intro h j hj
   have hj := List.mem_range.1 hj
   rw [e j (by omega)]
   exact h j (List.mem_range.2 (by show j < C.length; omega))
  ·intro h j hj
   have hj : j < C.length := List.mem_range.1 hj
   have := h j (List.mem_range.2 (by omega))
   rw [e j hj] at this
   exact this
 obtain ⟨d3, d4⟩ := dot1 hD.c hD.x (by omega) hx40
 obtain ⟨d5, d6⟩ := dot1 hD.b hD.y (by omega) hy40
 have k1 := zII (zAB C x) (zg V) d4 (zGG (hvD.mono (by decide)))
 have k2 := zII (zAB B y) (zg V) d6 (zGG (hvD.mono (by decide)))
 rw [if_pos rfl, hfe, hbb, show zAB (⟨A, B, C⟩ : Prog).C x = zAB C x from rfl, show zAB (⟨A, B, C⟩ : Prog).B y = zAB B y from rfl, ← zQI, ← zQI] at hR
 have hz0 : A = [] → bel = List.replicate C.length 0 := fun h => by
  rw [hbe, h]
  refine List.ext_getElem (by rw [List.length_map, List.length_range, List.length_replicate]) (fun j h1 h2 => ?_)
  rw [List.getElem_map, List.getElem_replicate]
  rfl
 generalize (List.range A.length).all (fun i => decide (zAB (A.getD i []) x ≤ B.getD i 0)) = F1 at *
 generalize (List.range bel.length).all (fun i => decide (C.getD i 0 ≤ bel.getD i 0)) = F2 at *
 generalize zAB C x = dc at *
 generalize zAB B y = db at *
 generalize zg V = v at *
 refine rn17 ?_
 refine zB Z Z Z cpar ?_
 unfold qA
 repeat (refine zBV rfl rfl rfl ?_)
 refine zN (c' := .box (zq v)) Z Z Z Z Z Nat.zero_lt_one Z Z (fun i' j' hi' hj' => ?_) ?_
 ·rw [if_pos (Nat.lt_one_iff.1 hi')]; rfl
 apply zAM (H := [some ⟨122, .box (zq v)⟩]) [(2, .rp (.box [.ro (zn A) 0 A.length, .ro (qsC B) 0 B.length, .ro (qsC C) 0 C.length]) 0 0), (3, .rp (.box [.int .i64 (0 : Nat), .ro (.strs X) 0 X.length, .ro (.strs Y) 0 Y.length, .ro (.strs R) 0 R.length, .str V]) 0 0), (5, .rp (.box [.ro (qsC x) 0 x.length]) 0 0), (6, .ro (qsC y) 0 y.length), (7, .ro (qsC r) 0 r.length), (8, .fn 172 []), (13, .rp (.box [.fn 175 [.rp (.box [.ro (zn A) 0 A.length, .ro (qsC B) 0 B.length, .ro (qsC C) 0 C.length]) 0 0]]) 0 0), (14, .fn 176 [.rp (.box [.fn 175 [.rp (.box [.ro (zn A) 0 A.length, .ro (qsC B) 0 B.length, .ro (qsC C) 0 C.length]) 0 0]]) 0 0, .rp (.box [.ro (qsC x) 0 x.length]) 0 0, .rp (.box [.ro (zn A) 0 A.length, .ro (qsC B) 0 B.length, .ro (qsC C) 0 C.length]) 0 0]), (15, .ptr 0 0 0), (10, .ro (qsC bel) 0 bel.length)]
 ·intro fin
  refine zHe ?_
  refine zD Z (fun hA => ?_) (fun hA => ?_)
  ·have hA0 : A = [] := List.length_eq_zero_iff.1 (by omega)
   have hbel := hz0 hA0
   refine zHe ?_
   refine zAi 10 ⟨122, qsC []⟩ Z Z ?_
   repeat (refine z7 ?_)
   refine zh (ι := Nat) (fun j => [(2, .rp (.box [.ro (zn A) 0 A.length, .ro (qsC B) 0 B.length, .ro (qsC C) 0 C.length]) 0 0), (3, .rp (.box [.int .i64 (0 : Nat), .ro (.strs X) 0 X.length, .ro (.strs Y) 0 Y.length, .ro (.strs R) 0 R.length, .str V]) 0 0), (5, .rp (.box [.ro (qsC x) 0 x.length]) 0 0), (6, .ro (qsC y) 0 y.length), (7, .ro (qsC r) 0 r.length), (8, .fn 172 []), (13, .rp (.box [.fn 175 [.rp (.box [.ro (zn A) 0 A.length, .ro (qsC B) 0 B.length, .ro (qsC C) 0 C.length]) 0 0]]) 0 0), (14, .fn 176 [.rp (.box [.fn 175 [.rp (.box [.ro (zn A) 0 A.length, .ro (qsC B) 0 B.length, .ro (qsC C) 0 C.length]) 0 0]]) 0 0, .rp (.box [.ro (qsC x) 0 x.length]) 0 0, .rp (.box [.ro (zn A) 0 A.length, .ro (qsC B) 0 B.length, .ro (qsC C) 0 C.length]) 0 0]), (15, .ptr 0 0 0), (10, .sl 1 0 j), (78, .int .i64 (C.length : Nat)), (79, .int .i64 (j : Nat))]) (fun j => [some ⟨122, .box (zq v)⟩, some ⟨122, qsC (List.replicate j 0)⟩])
    (fun j => j ≤ C.length) (fun j => C.length - j) 0 ⟨⟨rfl, rfl, rfl, rfl, rfl, rfl, rfl, rfl, rfl, rfl, rfl, rfl, trivial⟩, rfl, Nat.zero_le _⟩ ?_
   intro j hj
   refine rn4 ?_
   refine zD Z (fun h6 => ?_) (fun h6 => ?_)
   ·have hrl : (List.replicate j (0 : Rat)).length = j := List.length_replicate
    have hrs : List.replicate (j + 1) (0 : Rat) = List.replicate j 0 ++ [0] := List.replicate_succ'
    generalize hq2 : List.replicate (j + 1) (0 : Rat) = qs2 at *
    generalize List.replicate j (0 : Rat) = qs at *
    refine rn1 ?_
    refine zB Z Z Z zJp ?_
    unfold qA
    repeat (refine zW rfl rfl rfl rfl rfl rfl rfl rfl rfl rfl rfl ?_)
    refine zAG Z Z Z Z Z Z Z Z Z hrl Z Z (by show 0 + 1 ≤ 1; omega) Z (by show (j + 1) * 56 ≤ _ ∧ _; omega) ?_ (by rw [hfix]; exact fun h => h) ?_
    ·intro i' j' hi hj
     exact zA9 0 3 zq zBS qs 0 _ (zDb _) 1 i' j' hi hj
    refine zEg ?_
    refine zF ?_
    refine zBH [some ⟨122, .box (zq v)⟩, some ⟨122, qsC qs2⟩] ?_ ?_
    ·rw [hrs]
     exact ze.eqv (CEq.refl _) (ze.eqv (zBX 0 3 zq qs 0 _ (zDb _)) ze.nil)
    refine rn3 ?_
    exact zM ⟨j + 1, by omega, by omega, ⟨Z, Z, Z, Z, Z, Z, Z, Z, Z, Z, Z, Z, trivial⟩, by rw [hq2]⟩
   ·have hje : j = C.length := by omega
    subst hje
    rw [← hbel]
    refine zEg ?_
    refine zF ?_
    refine zAW 1 10 C.length [(2, .rp (.box [.ro (zn A) 0 A.length, .ro (qsC B) 0 B.length, .ro (qsC C) 0 C.length]) 0 0), (3, .rp (.box [.int .i64 (0 : Nat), .ro (.strs X) 0 X.length, .ro (.strs Y) 0 Y.length, .ro (.strs R) 0 R.length, .str V]) 0 0), (5, .rp (.box [.ro (qsC x) 0 x.length]) 0 0), (6, .ro (qsC y) 0 y.length), (7, .ro (qsC r) 0 r.length), (8, .fn 172 []), (13, .rp (.box [.fn 175 [.rp (.box [.ro (zn A) 0 A.length, .ro (qsC B) 0 B.length, .ro (qsC C) 0 C.length]) 0 0]]) 0 0), (14, .fn 176 [.rp (.box [.fn 175 [.rp (.box [.ro (zn A) 0 A.length, .ro (qsC B) 0 B.length, .ro (qsC C) 0 C.length]) 0 0]]) 0 0, .rp (.box [.ro (qsC x) 0 x.length]) 0 0, .rp (.box [.ro (zn A) 0 A.length, .ro (qsC B) 0 B.length, .ro (qsC C) 0 C.length]) 0 0]), (15, .ptr 0 0 0)] Z (zBk _) Z (by show C.length ≤ bel.length; omega) ⟨Z, Z, Z, Z, Z, Z, Z, Z, Z, trivial⟩ ?_
    refine zAN 10 (.ro (qsC bel) 0 bel.length) Z (AEq.of_eq (by rw [hbl])) ?_
    refine zA3 [some ⟨122, .box (zq v)⟩] [none] [(2, .rp (.box [.ro (zn A) 0 A.length, .ro (qsC B) 0 B.length, .ro (qsC C) 0 C.length]) 0 0), (3, .rp (.box [.int .i64 (0 : Nat), .ro (.strs X) 0 X.length, .ro (.strs Y) 0 Y.length, .ro (.strs R) 0 R.length, .str V]) 0 0), (5, .rp (.box [.ro (qsC x) 0 x.length]) 0 0), (6, .ro (qsC y) 0 y.length), (7, .ro (qsC r) 0 r.length), (8, .fn 172 []), (13, .rp (.box [.fn 175 [.rp (.box [.ro (zn A) 0 A.length, .ro (qsC B) 0 B.length, .ro (qsC C) 0 C.length]) 0 0]]) 0 0), (14, .fn 176 [.rp (.box [.fn 175 [.rp (.box [.ro (zn A) 0 A.length, .ro (qsC B) 0 B.length, .ro (qsC C) 0 C.length]) 0 0]]) 0 0, .rp (.box [.ro (qsC x) 0 x.length]) 0 0, .rp (.box [.ro (zn A) 0 A.length, .ro (qsC B) 0 B.length, .ro (qsC C) 0 C.length]) 0 0]), (15, .ptr 0 0 0), (10, .ro (qsC bel) 0 bel.length)] Z ⟨Z, Z, Z, Z, Z, Z, Z, Z, Z, Z, trivial⟩ (fun h hh => by rw [hfix] at hh; exact absurd hh id) (belowS1 (zOb _ _)) Z ?_
    exact fin _ ⟨Z, Z, Z, Z, Z, Z, Z, Z, Z, Z, trivial⟩
  ·repeat (refine zAh ?_)
   refine zF ?_
   exact fin _ ⟨Z, Z, Z, Z, Z, Z, Z, Z, Z, Z, trivial⟩
 repeat (refine z8 ?_)
 refine zo (by kernel_rfl) ?_
 cases F1
 ·simp only [Bool.false_and] at hR
  refine zv (fuel := 0) [0, 1, 2, 3, 4, 5, 6, 7, 8, 9, 10, 11, 12, 13, 14, 15, 16, 17, 18, 19, 20, 21, 22, 23, 24, 25] [(2, .rp (.box [.ro (zn A) 0 A.length, .ro (qsC B) 0 B.length, .ro (qsC C) 0 C.length]) 0 0), (3, .rp (.box [.int .i64 (0 : Nat), .ro (.strs X) 0 X.length, .ro (.strs Y) 0 Y.length, .ro (.strs R) 0 R.length, .str V]) 0 0), (5, .rp (.box [.ro (qsC x) 0 x.length]) 0 0), (6, .ro (qsC y) 0 y.length), (7, .ro (qsC r) 0 r.length), (8, .fn 172 []), (13, .rp (.box [.fn 175 [.rp (.box [.ro (zn A) 0 A.length, .ro (qsC B) 0 B.length, .ro (qsC C) 0 C.length]) 0 0]]) 0 0), (14, .fn 176 [.rp (.box [.fn 175 [.rp (.box [.ro (zn A) 0 A.length, .ro (qsC B) 0 B.length, .ro (qsC C) 0 C.length]) 0 0]]) 0 0, .rp (.box [.ro (qsC x) 0 x.length]) 0 0, .rp (.box [.ro (zn A) 0 A.length, .ro (qsC B) 0 B.length, .ro (qsC C) 0 C.length]) 0 0]), (15, .ptr 0 0 0), (10, .ro (qsC bel) 0 bel.length)] ⟨Z, Z, Z, Z, Z, Z, Z, Z, Z, Z, trivial⟩ (by kernel_rfl) (by decide) Z Z ?_
  refine zK Z Z (zL Z) ?_
  refine zAc Z Z Z Z Z cf ?_
  refine zK Z Z (zL Z) ?_
  refine zAA Z Z Z Z Z ?_
  refine zAA Z Z Z Z Z ?_
  refine zAA Z Z Z Z Z ?_
  refine zK Z Z (zAb Z Z) ?_
  refine zK Z Z (zL Z) ?_
  refine zAA Z Z Z Z Z ?_
  refine zAA Z Z Z Z Z ?_
  refine zAA Z Z Z Z Z ?_
  refine zAA Z Z Z Z Z ?_
  refine zAA Z Z Z Z Z ?_
  refine zAA Z Z Z Z Z ?_
  refine zAA Z Z Z Z Z ?_
  refine zK Z Z (zAb Z Z) ?_
  refine zK Z Z (zL Z) ?_
  refine zAA Z Z Z Z Z ?_
  refine zAA Z Z Z Z Z ?_
  refine zAA Z Z Z Z Z ?_
  refine zAA Z Z Z Z Z ?_
  refine zAA Z Z Z Z Z ?_
  refine zAA Z Z Z Z Z ?_
  refine zAA Z Z Z Z Z ?_
  refine zK Z Z (zAb Z Z) ?_
  refine zK Z Z (zi Z) ?_
  refine zz ?_
  refine zX (by kernel_rfl) ?_
  refine rn6 ?_
  exact zI hR Z Z
 cases F2
 ·simp only [Bool.true_and, Bool.false_and] at hR
  refine zv (fuel := 0) [0, 1, 2, 3, 4, 5, 6, 7, 8, 9, 10, 11, 12, 13, 14, 15, 16, 17, 18, 19, 20, 21, 22, 23, 24, 25] [(2, .rp (.box [.ro (zn A) 0 A.length, .ro (qsC B) 0 B.length, .ro (qsC C) 0 C.length]) 0 0), (3, .rp (.box [.int .i64 (0 : Nat), .ro (.strs X) 0 X.length, .ro (.strs Y) 0 Y.length, .ro (.strs R) 0 R.length, .str V]) 0 0), (5, .rp (.box [.ro (qsC x) 0 x.length]) 0 0), (6, .ro (qsC y) 0 y.length), (7, .ro (qsC r) 0 r.length), (8, .fn 172 []), (13, .rp (.box [.fn 175 [.rp (.box [.ro (zn A) 0 A.length, .ro (qsC B) 0 B.length, .ro (qsC C) 0 C.length]) 0 0]]) 0 0), (14, .fn 176 [.rp (.box [.fn 175 [.rp (.box [.ro (zn A) 0 A.length, .ro (qsC B) 0 B.length, .ro (qsC C) 0 C.length]) 0 0]]) 0 0, .rp (.box [.ro (qsC x) 0 x.length]) 0 0, .rp (.box [.ro (zn A) 0 A.length, .ro (qsC B) 0 B.length, .ro (qsC C) 0 C.length]) 0 0]), (15, .ptr 0 0 0), (10, .ro (qsC bel) 0 bel.length)] ⟨Z, Z, Z, Z, Z, Z, Z, Z, Z, Z, trivial⟩ (by kernel_rfl) (by decide) Z Z ?_
  refine zK Z Z (zL Z) ?_
  refine zAc Z Z Z Z Z cf ?_
  refine zK Z Z (zL Z) ?_
  refine zAL Z Z Z Z (zL Z) ?_
  refine zAL Z Z Z Z (zGu Z) ?_
  refine zFV Z Z Z Z Z Z Z cl ?_
  refine zK Z Z (zAb Z Z) ?_
  refine zK Z Z (zL Z) ?_
  refine zAA Z Z Z Z Z ?_
  refine zAA Z Z Z Z Z ?_
  refine zAA Z Z Z Z Z ?_
  refine zAA Z Z Z Z Z ?_
  refine zAA Z Z Z Z Z ?_
  refine zAA Z Z Z Z Z ?_
  refine zAA Z Z Z Z Z ?_
  refine zK Z Z (zAb Z Z) ?_
  refine zK Z Z (zL Z) ?_
  refine zAA Z Z Z Z Z ?_
  refine zAA Z Z Z Z Z ?_
  refine zAA Z Z Z Z Z ?_
  refine zAA Z Z Z Z Z ?_
  refine zAA Z Z Z Z Z ?_
  refine zAA Z Z Z Z Z ?_
  refine zAA Z Z Z Z Z ?_
  refine zK Z Z (zAb Z Z) ?_
  refine zK Z Z (zi Z) ?_
  refine zz ?_
  refine zX (by kernel_rfl) ?_
  refine rn6 ?_
  exact zI hR Z Z
 simp only [Bool.true_and] at hR
 by_cases g1 : zD0 dc v = 0
 case neg =>
  rw [decide_eq_false g1] at hR
  simp only [Bool.false_and] at hR
  refine zv (fuel := 0) [0, 1, 2, 3, 4, 5, 6, 7, 8, 9, 10, 11, 12, 13, 14, 15, 16, 17, 18, 19, 20, 21, 22, 23, 24, 25] [(2, .rp (.box [.ro (zn A) 0 A.length, .ro (qsC B) 0 B.length, .ro (qsC C) 0 C.length]) 0 0), (3, .rp (.box [.int .i64 (0 : Nat), .ro (.strs X) 0 X.length, .ro (.strs Y) 0 Y.length, .ro (.strs R) 0 R.length, .str V]) 0 0), (5, .rp (.box [.ro (qsC x) 0 x.length]) 0 0), (6, .ro (qsC y) 0 y.length), (7, .ro (qsC r) 0 r.length), (8, .fn 172 []), (13, .rp (.box [.fn 175 [.rp (.box [.ro (zn A) 0 A.length, .ro (qsC B) 0 B.length, .ro (qsC C) 0 C.length]) 0 0]]) 0 0), (14, .fn 176 [.rp (.box [.fn 175 [.rp (.box [.ro (zn A) 0 A.length, .ro (qsC B) 0 B.length, .ro (qsC C) 0 C.length]) 0 0]]) 0 0, .rp (.box [.ro (qsC x) 0 x.length]) 0 0, .rp (.box [.ro (zn A) 0 A.length, .ro (qsC B) 0 B.length, .ro (qsC C) 0 C.length]) 0 0]), (15, .ptr 0 0 0), (10, .ro (qsC bel) 0 bel.length)] ⟨Z, Z, Z, Z, Z, Z, Z, Z, Z, Z, trivial⟩ (by kernel_rfl) (by decide) Z Z ?_
  refine zK Z Z (zL Z) ?_
  refine zAc Z Z Z Z Z cf ?_
  refine zK Z Z (zL Z) ?_
  refine zAL Z Z Z Z (zL Z) ?_
  refine zAL Z Z Z Z (zGu Z) ?_
  refine zFV Z Z Z Z Z Z Z cl ?_
  refine zK Z Z (zAb Z Z) ?_
  refine zK Z Z (zL Z) ?_
  refine zAL Z Z Z Z (zCU Z Z Z Z Z Z) ?_
  refine zAL Z Z Z Z (zBv Z Z Z Z) ?_
  refine zAL Z Z Z Z (zBv Z Z Z Z) ?_
  refine zFV Z Z Z Z Z Z Z d3 ?_
  refine zAL Z Z Z Z (zu Z Z Z Z Z Z Z (by first | exact Nat.zero_lt_one | assumption | omega)) ?_
  refine zFV Z Z Z Z Z Z Z k1 ?_
  refine zAL Z Z Z Z (zDV Z Z) ?_
  rw [decide_eq_false g1]
  refine zK Z Z (zAb Z Z) ?_
  refine zK Z Z (zL Z) ?_
  refine zAA Z Z Z Z Z ?_
  refine zAA Z Z Z Z Z ?_
  refine zAA Z Z Z Z Z ?_
  refine zAA Z Z Z Z Z ?_
  refine zAA Z Z Z Z Z ?_
  refine zAA Z Z Z Z Z ?_
  refine zAA Z Z Z Z Z ?_
  refine zK Z Z (zAb Z Z) ?_
  refine zK Z Z (zi Z) ?_
  refine zz ?_
  refine zX (by kernel_rfl) ?_
  refine rn6 ?_
  exact zI hR Z Z
 rw [decide_eq_true g1] at hR
 simp only [Bool.true_and] at hR
 refine zv (fuel := 0) [0, 1, 2, 3, 4, 5, 6, 7, 8, 9, 10, 11, 12, 13, 14, 15, 16, 17, 18, 19, 20, 21, 22, 23, 24, 25] [(2, .rp (.box [.ro (zn A) 0 A.length, .ro (qsC B) 0 B.length, .ro (qsC C) 0 C.length]) 0 0), (3, .rp (.box [.int .i64 (0 : Nat), .ro (.strs X) 0 X.length, .ro (.strs Y) 0 Y.length, .ro (.strs R) 0 R.length, .str V]) 0 0), (5, .rp (.box [.ro (qsC x) 0 x.length]) 0 0), (6, .ro (qsC y) 0 y.length), (7, .ro (qsC r) 0 r.length), (8, .fn 172 []), (13, .rp (.box [.fn 175 [.rp (.box [.ro (zn A) 0 A.length, .ro (qsC B) 0 B.length, .ro (qsC C) 0 C.length]) 0 0]]) 0 0), (14, .fn 176 [.rp (.box [.fn 175 [.rp (.box [.ro (zn A) 0 A.length, .ro (qsC B) 0 B.length, .ro (qsC C) 0 C.length]) 0 0]]) 0 0, .rp (.box [.ro (qsC x) 0 x.length]) 0 0, .rp (.box [.ro (zn A) 0 A.length, .ro (qsC B) 0 B.length, .ro (qsC C) 0 C.length]) 0 0]), (15, .ptr 0 0 0), (10, .ro (qsC bel) 0 bel.length)] ⟨Z, Z, Z, Z, Z, Z, Z, Z, Z, Z, trivial⟩ (by kernel_rfl) (by decide) Z Z ?_
 refine zK Z Z (zL Z) ?_
 refine zAc Z Z Z Z Z cf ?_
 refine zK Z Z (zL Z) ?_
 refine zAL Z Z Z Z (zL Z) ?_
 refine zAL Z Z Z Z (zGu Z) ?_
 refine zFV Z Z Z Z Z Z Z cl ?_
 refine zK Z Z (zAb Z Z) ?_
 refine zK Z Z (zL Z) ?_
 refine zAL Z Z Z Z (zCU Z Z Z Z Z Z) ?_
 refine zAL Z Z Z Z (zBv Z Z Z Z) ?_
 refine zAL Z Z Z Z (zBv Z Z Z Z) ?_
 refine zFV Z Z Z Z Z Z Z d3 ?_
 refine zAL Z Z Z Z (zu Z Z Z Z Z Z Z (by first | exact Nat.zero_lt_one | assumption | omega)) ?_
 refine zFV Z Z Z Z Z Z Z k1 ?_
 refine zAL Z Z Z Z (zDV Z Z) ?_
 rw [decide_eq_true g1]
 refine zK Z Z (zAb Z Z) ?_
 refine zK Z Z (zL Z) ?_
 refine zAL Z Z Z Z (zCU Z Z Z Z Z Z) ?_
 refine zAL Z Z Z Z (zBv Z Z Z Z) ?_
 refine zAL Z Z Z Z (zL Z) ?_
 refine zFV Z Z Z Z Z Z Z d5 ?_
 refine zAL Z Z Z Z (zu Z Z Z Z Z Z Z (by first | exact Nat.zero_lt_one | assumption | omega)) ?_
 refine zFV Z Z Z Z Z Z Z k2 ?_
 refine zAL Z Z Z Z (zDV Z Z) ?_
 refine zK Z Z (zAb Z Z) ?_
 refine zK Z Z (zi Z) ?_
 refine zz ?_
 refine zX (by kernel_rfl) ?_
 refine rn6 ?_
 exact zI hR Z Z
structure ShortR (X Y R : List zp) (V : zp) : Prop where
 x : X.length ≤ 1000000 ∧ ∀ s ∈ X, s.length ≤ 9223372036854775807
 y : Y.length ≤ 1000000 ∧ ∀ s ∈ Y, s.length ≤ 9223372036854775807
 r : R.length ≤ 1000000 ∧ ∀ s ∈ R, s.length ≤ 9223372036854775807
 v : V.length ≤ 9223372036854775807
theorem form_ok (A : List (List zp)) (B C : List zp) (k : Nat) (X Y R : List zp) (V : zp) (hk : k < 3) (hB : B.length ≤ 1000000) (hC : C.length ≤ 1000000) (h : ShortR X Y R V) :
 zU Tryz.prog 121 [.agg [.ro (zr A) 0 A.length, .ro (.strs B) 0 B.length, .ro (.strs C) 0 C.length], .agg [.int .i64 (k : Nat), .ro (.strs X) 0 X.length, .ro (.strs Y) 0 Y.length, .ro (.strs R) 0 R.length, .str V]] (.int .i64 (zGd ⟨A, B, C⟩ k X Y R V)) := by
 have c1 := zFj X (by have := h.x.1; omega) h.x.2
 have c2 := zFj Y (by have := h.y.1; omega) h.y.2
 have c3 := zFj R (by have := h.r.1; omega) h.r.2
 have c4 := zHZ V h.v
 obtain ⟨⟨hX, _⟩, ⟨hY, _⟩, ⟨hRl, _⟩, hV⟩ := h
 refine zS.value0 (zE (P := Tryz.prog) (fn := Tryz.f121) Z Z (by kernel_rfl) Z (fun c hR hfix => ?_)) (fix := fun _ => False) (fun _ h => h) Z Z
 unfold zGd at hR
 repeat (first | refine zG (zL rfl) ?_ | refine zG (zi rfl) ?_ | refine zP ?_ | refine zF ?_ | refine z8 ?_ | refine zV rfl ?_ | refine z7 ?_ | refine zG (zQ rfl rfl rfl rfl rfl) ?_ | refine zG (zA0 rfl rfl rfl rfl rfl rfl) ?_ | refine zG (zJ rfl rfl rfl rfl rfl rfl) ?_ | refine zGH rfl rfl ?_)
 refine zAV [some ⟨85, .box [.ro (zr A) 0 A.length, .ro (.strs B) 0 B.length, .ro (.strs C) 0 C.length]⟩, some ⟨88, .box [.int .i64 (k : Nat), .ro (.strs X) 0 X.length, .ro (.strs Y) 0 Y.length, .ro (.strs R) 0 R.length, .str V]⟩] Z ?_
 refine zh (ι := Nat) (fun j => [(2, .ptr 0 0 0), (3, .ptr 1 0 0), (17, .agg [.ro (.strs X) 0 X.length, .ro (.strs Y) 0 Y.length, .ro (.strs R) 0 R.length]), (18, .int .i64 (j : Nat))]) (fun _ => [some ⟨85, .box [.ro (zr A) 0 A.length, .ro (.strs B) 0 B.length, .ro (.strs C) 0 C.length]⟩, some ⟨88, .box [.int .i64 (k : Nat), .ro (.strs X) 0 X.length, .ro (.strs Y) 0 Y.length, .ro (.strs R) 0 R.length, .str V]⟩])
  (fun j => j ≤ 3 ∧ (1 ≤ j → zBd X = 0) ∧ (2 ≤ j → zBd Y = 0) ∧ (3 ≤ j → zBd R = 0)) (fun j => 3 - j) 0 ⟨⟨rfl, rfl, rfl, rfl, trivial⟩, rfl, by decide, by omega, by omega, by omega⟩ ?_
 rintro j ⟨hj, hkX, hkY, hkR⟩
 refine rn4 ?_
 refine zD Z (fun h2 => ?_) (fun h2 => ?_)
 ·have hj2 : j = 0 ∨ j = 1 ∨ j = 2 := by omega
  rcases hj2 with rfl | rfl | rfl
  ·refine rn1 ?_
   refine zG (zEO Z Z Z Z Z Z Z ⟨by decide, by decide, (by show ((0 : Nat) : Int) < ((3 : Nat) : Int); decide)⟩) ?_
   refine rn0 ?_
   refine zB Z Z Z c1 ?_
   refine rn3 ?_
   refine zD Z (fun h3 => ?_) (fun h3 => ?_)
   ·rw [if_pos h3] at hR
    refine rn6 ?_
    exact zI hR Z Z
   refine rn5 ?_
   exact zM ⟨1, ⟨by omega, fun _ => Classical.not_not.1 h3, fun q => absurd q (by decide), fun q => absurd q (by decide)⟩, by omega, ⟨Z, Z, Z, Z, trivial⟩, Z⟩
  ·refine rn1 ?_
   refine zG (zEO Z Z Z Z Z Z Z ⟨by decide, by decide, (by show ((1 : Nat) : Int) < ((3 : Nat) : Int); decide)⟩) ?_
   refine rn0 ?_
   refine zB Z Z Z c2 ?_
   refine rn3 ?_
   refine zD Z (fun h3 => ?_) (fun h3 => ?_)
   ·rw [if_neg (fun q => q (hkX (by omega))), if_pos h3] at hR
    refine rn6 ?_
    exact zI hR Z Z
   refine rn5 ?_
   exact zM ⟨2, ⟨by omega, fun _ => hkX (by omega), fun _ => Classical.not_not.1 h3, fun q => absurd q (by decide)⟩, by omega, ⟨Z, Z, Z, Z, trivial⟩, Z⟩
  ·refine rn1 ?_
   refine zG (zEO Z Z Z Z Z Z Z ⟨by decide, by decide, (by show ((2 : Nat) : Int) < ((3 : Nat) : Int); decide)⟩) ?_
   refine rn0 ?_
   refine zB Z Z Z c3 ?_
   refine rn3 ?_
   refine zD Z (fun h3 => ?_) (fun h3 => ?_)
   ·rw [if_neg (fun q => q (hkX (by omega))), if_neg (fun q => q (hkY (by omega))), if_pos h3] at hR
    refine rn6 ?_
    exact zI hR Z Z
   refine rn5 ?_
   exact zM ⟨3, ⟨by omega, fun _ => hkX (by omega), fun _ => hkY (by omega), fun _ => Classical.not_not.1 h3⟩, by omega, ⟨Z, Z, Z, Z, trivial⟩, Z⟩
 have hj3 : j = 3 := by omega
 subst hj3
 rw [if_neg (fun q => q (hkX (by decide))), if_neg (fun q => q (hkY (by decide))), if_neg (fun q => q (hkR (by decide)))] at hR
 refine rn5 ?_
 refine zo (by kernel_rfl) ?_
 refine zv (fuel := 0) [0, 1, 2, 3, 4, 5, 6, 7] [(2, .ptr 0 0 0), (3, .ptr 1 0 0)] ⟨Z, Z, trivial⟩ (by kernel_rfl) (by decide) Z Z ?_
 refine zK Z Z (zJ Z Z Z Z Z Z) ?_
 refine zK Z Z (zQ Z Z Z Z Z) ?_
 refine zK Z Z (zA5 Z Z Z) ?_
 refine zK Z Z (zJ Z Z Z Z Z Z) ?_
 refine zK Z Z (zQ Z Z Z Z Z) ?_
 refine zK Z Z (zA5 Z Z Z) ?_
 refine zK Z Z (zi Z) ?_
 refine zK Z Z (zi Z) ?_
 refine zz ?_
 refine zX (by kernel_rfl) ?_
 have hk3 : k = 0 ∨ k = 1 ∨ k = 2 := by omega
 rcases hk3 with rfl | rfl | rfl
 ·refine zJl ?_
  refine zN (c' := .box [.int .i64 (C.length : Nat), .int .i64 (B.length : Nat), .int .i64 (0 : Nat)]) Z Z Z Z Z Nat.zero_lt_one Z Z (fun i' j' hi' hj' => ?_) ?_
  ·rw [if_pos (Nat.lt_one_iff.1 hi')]; rfl
  refine zJi ?_
  by_cases hl : zJX ⟨A, B, C⟩ 0 X.length Y.length R.length
  ·have hb : (decide (((C.length : Nat) : Int) = ((X.length : Nat) : Int)) && (decide (((B.length : Nat) : Int) = ((Y.length : Nat) : Int)) && (decide (((0 : Nat) : Int) = ((R.length : Nat) : Int)) && true))) = true := by
    obtain ⟨e1, e2, e3⟩ := id hl
    simp at e1 e2 e3
    simp [e1, e2, e3]
   refine zG (zF7 (L := [.int .i64 (C.length : Nat), .int .i64 (B.length : Nat), .int .i64 (0 : Nat)]) (M := [.int .i64 (X.length : Nat), .int .i64 (Y.length : Nat), .int .i64 (R.length : Nat)]) (b := true) Z Z Z Z (by kernel_rfl) (by kernel_rfl) (Eq.trans (by kernel_rfl) (congrArg some hb))) ?_
   rw [if_pos hl] at hR
   rw [if_pos rfl] at hR
   refine rn5 ?_
   refine zB Z Z Z c4 ?_
   refine rn2 ?_
   exact zI hR Z Z
  ·have hb : (decide (((C.length : Nat) : Int) = ((X.length : Nat) : Int)) && (decide (((B.length : Nat) : Int) = ((Y.length : Nat) : Int)) && (decide (((0 : Nat) : Int) = ((R.length : Nat) : Int)) && true))) = false := by
    rw [← Bool.not_eq_true, Bool.and_true, Bool.and_eq_true, Bool.and_eq_true, decide_eq_true_eq, decide_eq_true_eq, decide_eq_true_eq]
    rintro ⟨e1, e2, e3⟩
    refine hl ⟨?_, ?_, ?_⟩
    ·first | (rw [if_pos (by decide)]; exact (Int.ofNat_inj.1 e1).symm) | (rw [if_neg (by decide)]; exact (Int.ofNat_inj.1 e1).symm)
    ·first | (rw [if_pos (by decide)]; exact (Int.ofNat_inj.1 e2).symm) | (rw [if_neg (by decide)]; exact (Int.ofNat_inj.1 e2).symm)
    ·first | (rw [if_pos (by decide)]; exact (Int.ofNat_inj.1 e3).symm) | (rw [if_neg (by decide)]; exact (Int.ofNat_inj.1 e3).symm)
   refine zG (zF7 (L := [.int .i64 (C.length : Nat), .int .i64 (B.length : Nat), .int .i64 (0 : Nat)]) (M := [.int .i64 (X.length : Nat), .int .i64 (Y.length : Nat), .int .i64 (R.length : Nat)]) (b := false) Z Z Z Z (by kernel_rfl) (by kernel_rfl) (Eq.trans (by kernel_rfl) (congrArg some hb))) ?_
   rw [if_neg hl] at hR
   refine rn5 ?_
   exact zI hR Z Z
 ·refine zJl ?_
  refine zN (c' := .box [.int .i64 (0 : Nat), .int .i64 (B.length : Nat), .int .i64 (0 : Nat)]) Z Z Z Z Z Nat.zero_lt_one Z Z (fun i' j' hi' hj' => ?_) ?_
  ·rw [if_pos (Nat.lt_one_iff.1 hi')]; rfl
  refine zJi ?_
  by_cases hl : zJX ⟨A, B, C⟩ 1 X.length Y.length R.length
  ·have hb : (decide (((0 : Nat) : Int) = ((X.length : Nat) : Int)) && (decide (((B.length : Nat) : Int) = ((Y.length : Nat) : Int)) && (decide (((0 : Nat) : Int) = ((R.length : Nat) : Int)) && true))) = true := by
    obtain ⟨e1, e2, e3⟩ := id hl
    simp at e1 e2 e3
    simp [e1, e2, e3]
   refine zG (zF7 (L := [.int .i64 (0 : Nat), .int .i64 (B.length : Nat), .int .i64 (0 : Nat)]) (M := [.int .i64 (X.length : Nat), .int .i64 (Y.length : Nat), .int .i64 (R.length : Nat)]) (b := true) Z Z Z Z (by kernel_rfl) (by kernel_rfl) (Eq.trans (by kernel_rfl) (congrArg some hb))) ?_
   rw [if_pos hl] at hR
   rw [if_neg (by decide)] at hR
   refine zJl ?_
   by_cases hv0 : V = []
   ·rw [if_pos hv0] at hR
    subst hv0
    refine rn4 ?_
    exact zI hR Z Z
   ·rw [if_neg hv0] at hR
    skip
    refine zD Z (fun h5 => ?_) (fun h5 => absurd (Classical.not_not.1 h5) hv0)
    refine rn2 ?_
    exact zI hR Z Z
  ·have hb : (decide (((0 : Nat) : Int) = ((X.length : Nat) : Int)) && (decide (((B.length : Nat) : Int) = ((Y.length : Nat) : Int)) && (decide (((0 : Nat) : Int) = ((R.length : Nat) : Int)) && true))) = false := by
    rw [← Bool.not_eq_true, Bool.and_true, Bool.and_eq_true, Bool.and_eq_true, decide_eq_true_eq, decide_eq_true_eq, decide_eq_true_eq]
    rintro ⟨e1, e2, e3⟩
    refine hl ⟨?_, ?_, ?_⟩
    ·first | (rw [if_pos (by decide)]; exact (Int.ofNat_inj.1 e1).symm) | (rw [if_neg (by decide)]; exact (Int.ofNat_inj.1 e1).symm)
    ·first | (rw [if_pos (by decide)]; exact (Int.ofNat_inj.1 e2).symm) | (rw [if_neg (by decide)]; exact (Int.ofNat_inj.1 e2).symm)
    ·first | (rw [if_pos (by decide)]; exact (Int.ofNat_inj.1 e3).symm) | (rw [if_neg (by decide)]; exact (Int.ofNat_inj.1 e3).symm)
   refine zG (zF7 (L := [.int .i64 (0 : Nat), .int .i64 (B.length : Nat), .int .i64 (0 : Nat)]) (M := [.int .i64 (X.length : Nat), .int .i64 (Y.length : Nat), .int .i64 (R.length : Nat)]) (b := false) Z Z Z Z (by kernel_rfl) (by kernel_rfl) (Eq.trans (by kernel_rfl) (congrArg some hb))) ?_
   rw [if_neg hl] at hR
   refine rn5 ?_
   exact zI hR Z Z
 ·refine zJl ?_
  refine zN (c' := .box [.int .i64 (C.length : Nat), .int .i64 (0 : Nat), .int .i64 (C.length : Nat)]) Z Z Z Z Z Nat.zero_lt_one Z Z (fun i' j' hi' hj' => ?_) ?_
  ·rw [if_pos (Nat.lt_one_iff.1 hi')]; rfl
  refine zJi ?_
  by_cases hl : zJX ⟨A, B, C⟩ 2 X.length Y.length R.length
  ·have hb : (decide (((C.length : Nat) : Int) = ((X.length : Nat) : Int)) && (decide (((0 : Nat) : Int) = ((Y.length : Nat) : Int)) && (decide (((C.length : Nat) : Int) = ((R.length : Nat) : Int)) && true))) = true := by
    obtain ⟨e1, e2, e3⟩ := id hl
    simp at e1 e2 e3
    simp [e1, e2, e3]
   refine zG (zF7 (L := [.int .i64 (C.length : Nat), .int .i64 (0 : Nat), .int .i64 (C.length : Nat)]) (M := [.int .i64 (X.length : Nat), .int .i64 (Y.length : Nat), .int .i64 (R.length : Nat)]) (b := true) Z Z Z Z (by kernel_rfl) (by kernel_rfl) (Eq.trans (by kernel_rfl) (congrArg some hb))) ?_
   rw [if_pos hl] at hR
   rw [if_neg (by decide)] at hR
   refine zJl ?_
   by_cases hv0 : V = []
   ·rw [if_pos hv0] at hR
    subst hv0
    refine rn4 ?_
    exact zI hR Z Z
   ·rw [if_neg hv0] at hR
    skip
    refine zD Z (fun h5 => ?_) (fun h5 => absurd (Classical.not_not.1 h5) hv0)
    refine rn2 ?_
    exact zI hR Z Z
  ·have hb : (decide (((C.length : Nat) : Int) = ((X.length : Nat) : Int)) && (decide (((0 : Nat) : Int) = ((Y.length : Nat) : Int)) && (decide (((C.length : Nat) : Int) = ((R.length : Nat) : Int)) && true))) = false := by
    rw [← Bool.not_eq_true, Bool.and_true, Bool.and_eq_true, Bool.and_eq_true, decide_eq_true_eq, decide_eq_true_eq, decide_eq_true_eq]
    rintro ⟨e1, e2, e3⟩
    refine hl ⟨?_, ?_, ?_⟩
    ·first | (rw [if_pos (by decide)]; exact (Int.ofNat_inj.1 e1).symm) | (rw [if_neg (by decide)]; exact (Int.ofNat_inj.1 e1).symm)
    ·first | (rw [if_pos (by decide)]; exact (Int.ofNat_inj.1 e2).symm) | (rw [if_neg (by decide)]; exact (Int.ofNat_inj.1 e2).symm)
    ·first | (rw [if_pos (by decide)]; exact (Int.ofNat_inj.1 e3).symm) | (rw [if_neg (by decide)]; exact (Int.ofNat_inj.1 e3).symm)
   refine zG (zF7 (L := [.int .i64 (C.length : Nat), .int .i64 (0 : Nat), .int .i64 (C.length : Nat)]) (M := [.int .i64 (X.length : Nat), .int .i64 (Y.length : Nat), .int .i64 (R.length : Nat)]) (b := false) Z Z Z Z (by kernel_rfl) (by kernel_rfl) (Eq.trans (by kernel_rfl) (congrArg some hb))) ?_
   rw [if_neg hl] at hR
   refine rn5 ?_
   exact zI hR Z Z
theorem zD1 (A : List (List zp)) (B C : List zp) (k : Nat) (X Y R : List zp) (V : zp) (hk : k < 3) (hP : ShortPr ⟨A, B, C⟩) (h : ShortR X Y R V) :
 zU Tryz.prog 53 [.agg [.ro (zr A) 0 A.length, .ro (.strs B) 0 B.length, .ro (.strs C) 0 C.length], .agg [.int .i64 (k : Nat), .ro (.strs X) 0 X.length, .ro (.strs Y) 0 Y.length, .ro (.strs R) 0 R.length, .str V]] (.int .i64 (zFL ⟨A, B, C⟩ k X Y R V)) := by
 have c1 := zEw A B C hP
 refine zS.value0 (zE (P := Tryz.prog) (fn := Tryz.f53) Z Z (by kernel_rfl) Z (fun c hR hfix => ?_)) (fix := fun _ => False) (fun _ h => h) Z Z
 unfold zFL at hR
 refine rn6 ?_
 refine zB Z Z Z c1 ?_
 refine rn3 ?_
 refine zD Z (fun h1 => ?_) (fun h1 => ?_)
 ·rw [if_pos h1] at hR
  refine rn2 ?_
  exact zI hR Z Z
 rw [if_neg h1] at hR
 have hC0 := Classical.not_not.1 h1
 have hI := zAg hC0
 obtain ⟨hn, hm⟩ := hI.le
 rw [zFD] at hn
 rw [zFg] at hm
 simp only at hn hm
 have c2 := form_ok A B C k X Y R V hk (by omega) (by omega) h
 refine rn6 ?_
 refine zB Z Z Z c2 ?_
 refine rn3 ?_
 refine zD Z (fun h2 => ?_) (fun h2 => ?_)
 ·rw [if_pos h2] at hR
  refine rn2 ?_
  exact zI hR Z Z
 rw [if_neg h2] at hR
 obtain ⟨z1, z2, z3, z4, z5, z6⟩ := zHz (Classical.not_not.1 h2)
 have aX := fun s hs => zAS (zAJ z1).2 s hs
 have aY := fun s hs => zAS (zAJ z2).2 s hs
 have aR := fun s hs => zAS (zAJ z3).2 s hs
 have aB := fun s hs => zAS (zAJ hI.b).2 s hs
 have aC := fun s hs => zAS (zAJ hI.c).2 s hs
 have e1 : (inM A).length = A.length := List.length_map _
 have e2 : (B.map zg).length = B.length := List.length_map _
 have e3 : (C.map zg).length = C.length := List.length_map _
 have hm1 : A.length = B.length := hI.m.rows
 have c3 := sin_ok A B C (by omega) (fun r hr => ⟨by have h8 : r.length = C.length := hI.m.cols r hr; omega, fun s hs => ⟨(hP.r r hr).2 s hs, hI.m.ok r hr s hs⟩⟩) (by omega) (fun s hs => ⟨hP.bs s hs, aB s hs⟩) (by omega) (fun s hs => ⟨hP.cs s hs, aC s hs⟩)
 have hD : DotsOk (inM A) (B.map zg) (C.map zg) (X.map zg) (Y.map zg) (R.map zg) := by
  refine ⟨by omega, by omega, by omega, fun r hr => ?_, zDO aB, zDO aC, zDO aX, zDO aY, zDO aR⟩
  obtain ⟨t, ht, rfl⟩ := List.mem_map.1 hr
  refine ⟨?_, zDO (fun s hs => hI.m.ok t ht s hs)⟩
  rw [List.length_map, e3]
  exact hI.m.cols t ht
 have c4 := zRG (inM A) (B.map zg) (C.map zg) k X Y R V hk hD (fun s hs => ⟨h.x.2 s hs, aX s hs⟩) (fun s hs => ⟨h.y.2 s hs, aY s hs⟩) (fun s hs => ⟨h.r.2 s hs, aR s hs⟩) ⟨h.v, z5⟩ (by rw [e2, e3]; exact z4)
 rw [e1, e2, e3] at c4
 unfold zMv at c3
 refine rn1 ?_
 refine zo (by kernel_rfl) ?_
 refine zv (fuel := 0) [0, 1, 2, 3, 4] [(2, .ptr 0 0 0), (3, .ptr 1 0 0)] ⟨Z, Z, trivial⟩ (by kernel_rfl) (by decide) Z Z ?_
 refine zK Z Z (zu Z Z Z Z Z Z Z (by first | exact Nat.zero_lt_one | assumption | omega)) ?_
 refine zAc Z Z Z Z Z c3 ?_
 refine zK Z Z (zu Z Z Z Z Z Z Z (by first | exact Nat.zero_lt_one | assumption | omega)) ?_
 refine zAc Z Z Z Z Z c4 ?_
 refine zK Z Z (zIk Z) ?_
 refine zz ?_
 refine zX (by kernel_rfl) ?_
 repeat (refine zF ?_)
 cases hv : zCC (Prob.prog ⟨A, B, C⟩) k (X.map zg) (Y.map zg) (R.map zg) (zg V) with
 | true =>
  rw [hv, if_pos rfl] at hR
  have hv' : zCC ⟨inM A, B.map zg, C.map zg⟩ k (X.map zg) (Y.map zg) (R.map zg) (zg V) = true := hv
  rw [hv']
  refine rn4 ?_
  exact zI hR Z Z
 | false =>
  rw [hv, if_neg (by decide)] at hR
  have hv' : zCC ⟨inM A, B.map zg, C.map zg⟩ k (X.map zg) (Y.map zg) (R.map zg) (zg V) = false := hv
  rw [hv']
  refine rn5 ?_
  exact zI hR Z Z
end Go.Proofs.YtnkealfaldjipaaGreatDoor
namespace Go.Ax.Rt
open Go.Ax.Bg Go.Ax.Dt
/-- The first k elements are new. -/
def chg {α : Type} (g : Nat → α) (d : α) (x : List α) (k : Nat) : List α := (List.range x.length).map (fun j => if j < k then g j else x.getD j d)
theorem zCm {α : Type} (g : Nat → α) (d : α) (x : List α) (k : Nat) : (chg g d x k).length = x.length := by simp [chg]
theorem zDC {α : Type} (g : Nat → α) (d : α) (x : List α) : chg g d x 0 = x := by
 apply List.ext_getElem (zCm _ _ _ _)
 intro i h1 h2
 simp [chg, List.getD, h2]
theorem zC5 {α : Type} (g : Nat → α) (d : α) (x : List α) {k i : Nat} (hi : i < x.length) : (chg g d x k).getD i d = if i < k then g i else x.getD i d := by
 unfold chg
 rw [zCe _ _ 0 _ _ (by simpa using hi)]
 simp [List.getD, hi]
theorem zDp {α : Type} (g : Nat → α) (d : α) (x : List α) {k : Nat} (hk : k < x.length) : (chg g d x k).set k (g k) = chg g d x (k + 1) := by
 apply List.ext_getElem (by simp [chg])
 intro i h1 h2
 have hi : i < x.length := by simpa [chg] using h2
 have e1 := zC5 g d x (k := k + 1) hi
 rw [zDo d h2] at e1
 rw [e1, List.getElem_set]
 by_cases hik : k = i
 ·subst hik; simp
 ·have e2 := zC5 g d x (k := k) hi
  rw [zDo d (by rw [zCm]; exact hi)] at e2
  rw [if_neg hik, e2]
  by_cases h3 : i < k
  ·rw [if_pos h3, if_pos (by omega)]
  ·rw [if_neg h3, if_neg (by omega)]
theorem zEh {α : Type} (g : Nat → α) (d : α) (x : List α) : chg g d x x.length = (List.range x.length).map g := by
 unfold chg
 refine List.map_congr_left (fun j hj => ?_)
 rw [if_pos (by simpa using hj)]
theorem chg_same {α : Type} (g : Nat → α) (d : α) (x : List α) {k : Nat} (hk : k < x.length) (h : g k = x.getD k d) : chg g d x (k + 1) = chg g d x k := by
 rw [← zDp g d x hk, h]
 apply List.ext_getElem (by simp [chg])
 intro i h1 h2
 rw [List.getElem_set]
 split
 ·rename_i e; subst e
  have e2 := zC5 g d x (k := k) hk
  rw [if_neg (Nat.lt_irrefl k)] at e2
  rw [← zDo d h2, e2]
 ·rfl
/-- The rows that are new, one by one. -/
def zCT (T : Tab) (k c : Nat) (d : Int) (i : Nat) : List Int := if i = k then T.getD k [] else zFU (T.getD i []) (T.getD k []) (at2 T k c) (at2 T i c) d
theorem zKY (T : Tab) (k c : Nat) (d : Int) : zEa T k c d = chg (zCT T k c d) [] T T.length := by rw [zEh]; rfl
def rowG (R K : List Int) (p f d : Int) (j : Nat) : Int := zDl (R.getD j 0 * p - f * K.getD j 0) d
theorem row_chg (R K : List Int) (p f d : Int) : zFU R K p f d = chg (rowG R K p f d) 0 R R.length := by rw [zEh]; rfl
end Go.Ax.Rt
namespace Go.Ax.Tb
open Go.Ax.Bg (zDL)
end Go.Ax.Tb
namespace Go.Ax
variable [Pins]
section
variable {P : Program} {fn : Func} {c : Ctx} {fr : Fr} {H : zO} {k : List It}
theorem zKX {x : Code} (h : Nat) (o : AObj) {ob : AObj} (c' : Cells) (hh : H[h]? = some (some ob)) (ho : o.c.len = 0) (h1 : c'.len = ob.c.len) (h2 : c'.kd = ob.c.kd)
 (h3 : ∀ i j, i < ob.c.len → j < ob.c.sz → c'.at i j = ob.c.at i j ∨ (ob.c.at i j = .nil ∧ c'.at i j = .sl H.length 0 0)) (hk : Ax P fn c (.code x k) fr ((H ++ [some o]).set h (some ⟨ob.ty, c'⟩))) : Ax P fn c (.code x k) fr H := by
 intro w a σ S hr
 have g1 := hr.nowhere1 ho
 have hlt : h < H.length := (List.getElem?_eq_some_iff.1 hh).1
 have hh' : (H ++ [some o])[h]? = some (some ob) := by rw [List.getElem?_append_left hlt]; exact hh
 refine hk w a _ S (g1.recell hh' h1 h2 (fun i j v hi hj hv => ?_))
 rcases h3 i j hi hj with e | ⟨e1, e2⟩
 ·rw [e]; exact hv
 ·rw [e1] at hv
  rw [e2]
  cases hv
  exact .sl0 _ _ (by simp [upσ])
end
end Go.Ax
namespace Go.Ax
variable [Pins]
open Go.RowKit
section
variable {ind : Bool} {P : Program} {fn : Func} {c : Ctx} {fr : Fr} {H : zO} {k : List It}
variable {d : Option Nat} {ty : TypeId} {pos : String} {after : Array Edge} {g : Option (Nat × Bool)}
theorem zG7 {x : Operand} {t : TypeId} {u : TypeDesc} {h i : Nat} {oty : TypeId} {kk : IntKind} {l : List Int} (ht : P.underlying t = some u) (hu : zBq u = false) (hx : ev fr x = some (.ptr h i 0)) (hh : H[h]? = some (some ⟨oty, .ints kk l⟩)) (hi : i < l.length) :
 QOp false P fn c fr H ⟨d, .load t x, ty, pos, after, g⟩ (.int kk (l.getD i 0)) := zFS ht hu hx hh hi
theorem zBA {x : Operand} {t : TypeId} {u : TypeDesc} {h i j : Nat} {oty : TypeId} {n s : Nat} {f : Nat → Nat → AV} (ht : P.underlying t = some u) (hu : zBq u = false) (hx : ev fr x = some (.ptr h i j)) (hh : H[h]? = some (some ⟨oty, .fn n s f⟩)) (hj : Nat.blt j s = true) (hi : i < n) :
 QOp false P fn c fr H ⟨d, .load t x, ty, pos, after, g⟩ (f i j) := zOF ht hu hx hh hj hi
end
end Go.Ax
namespace Go.Proofs.YtnkealfaldjipaaGreatDoor
open Go.Ax Go.Ax.Bg Go.Ax.Rt Go.RowKit Go.Ax.Dt Go.Ax.Sx
set_option maxRecDepth 100000
set_option maxHeartbeats 4000000
theorem zx {a b : Nat} (h : a ≠ b) : Nat.beq a b = false := by
 cases h' : Nat.beq a b
 ·rfl
 ·exact absurd (Nat.eq_of_beq_eq_true h') h
theorem zA4 {h : Nat} {fr : Fr} : ∀ {L : Fr}, zB2 fr L → (∀ p ∈ L, p.2.forget h = p.2) → zB2 (zCJ h fr) L
 | [], _, _ => trivial
 | (t, v) :: r, hk, hp => by
  refine ⟨?_, zA4 hk.2 (fun p hp' => hp p (List.mem_cons_of_mem _ hp'))⟩
  have h1 := hk.1
  have hv : v.forget h = v := hp (t, v) (List.mem_cons_self ..)
  clear hk hp
  induction fr with
  | nil => cases h1
  | cons q s ih =>
   obtain ⟨u, x⟩ := q
   show Go.Ax.look t ((u, x.forget h) :: zCJ h s) = some v
   simp only [Go.Ax.look] at h1 ⊢
   cases hq : Nat.beq t u with
   | true => rw [hq] at h1; simp at h1; subst h1; rw [hv]; rfl
   | false => rw [hq] at h1; exact ih (by simpa using h1)
section
variable {P : Program} {fn : Func} {c : Ctx} {fr : Fr} {H : zO} {k : List It}
theorem zQH {x : Code} (L : Fr) (hL : zB2 fr L) (hk : Ax P fn c (.code x k) L H) : Ax P fn c (.code x k) fr H := fun w a σ S hr => hk w a σ S (hr.weaken hL)
theorem zBw {q : Bool} {all : Array Oper} {rest : List Oper} (L : Fr) (hL : zB2 fr L) (hk : Ax P fn c (.ops q all rest k) L H) : Ax P fn c (.ops q all rest k) fr H := by
 cases q with
 | true => exact fun hd w a σ S hr => hk hd w a σ S (hr.weaken hL)
 | false => exact fun hd w a σ S hr => hk hd w a σ S (hr.weaken hL)
end
abbrev zB5 (l : List Nat) : Cells := .ints .i64 (l.map (fun a : Nat => (a : Int)))
theorem zI5 (x : Int) : (sgn x = 0) = (x = 0) := by
 apply propext
 unfold sgn
 constructor
 ·intro h; split at h
  ·exact absurd h (by decide)
  ·split at h
   ·assumption
   ·exact absurd h (by decide)
 ·intro h; subst h; rfl
theorem zBY (h : Nat) (a : List Int) : (zC a).forget h = zC a := by
 show Cells.fn _ _ _ = Cells.fn _ _ _
 congr 1
 funext i j
 match j with
 | 0 => rfl
 | 1 => rfl
 | _ + 2 => rfl
theorem zMS (m : Nat) (x : Int) : zBu m (.box (zl x)) := by
 intro i j hi hj
 have hj' : j < 2 := hj
 match j, hj' with
 | 0, _ => rfl
 | 1, _ => rfl
theorem zLh (l : List Nat) (a : Nat) : CEq (.ints .i64 (l.map (fun a : Nat => (a : Int)) ++ [(a : Int)])) (zB5 (l ++ [a])) := by
 show CEq _ (.ints .i64 ((l ++ [a]).map (fun a : Nat => (a : Int))))
 rw [List.map_append]
 exact CEq.refl _
theorem zDM (l : List Int) (j : Nat) (v : Int) : ∀ i' j', i' < (zC l).len → j' < 2 → (zC (l.set j v)).at i' j' = if i' = j then (zl v).getD j' .any else (zC l).at i' j' := by
 intro i' j' hi' hj'
 show (zl ((l.set j v).getD i' 0)).getD j' .any = if i' = j then _ else (zl (l.getD i' 0)).getD j' .any
 rw [getD_set]
 have hl : i' < l.length := hi'
 by_cases h : i' = j
 ·rw [if_pos ⟨h, by omega⟩, if_pos h]
 ·rw [if_neg (fun q => h q.1), if_neg h]
theorem zNk {α : Type} (l : List α) (d : α) (i : Nat) (hi : i < l.length) : l.set i (l.getD i d) = l := by
 apply List.ext_getElem (by simp)
 intro a h1 h2
 rw [List.getElem_set]
 split
 ·rename_i e; subst e; rw [zDo d hi]
 ·rfl
theorem zKW {x p f y : Int} {E : Nat} (hx : x.natAbs ≤ 10 ^ E) (hp : p.natAbs ≤ 10 ^ E) (hf : f.natAbs ≤ 10 ^ E) (hy : y.natAbs ≤ 10 ^ E) (hE : E ≤ 3600000) :
 (zT (x * p).natAbs).length ≤ 1000000 ∧ (zT (f * y).natAbs).length ≤ 1000000 ∧ (zT (x * p - f * y).natAbs).length ≤ 1000000 := by
 have e1 : (x * p).natAbs ≤ 10 ^ (E + E) := by rw [Int.natAbs_mul, Nat.pow_add]; exact Nat.mul_le_mul hx hp
 have e2 : (f * y).natAbs ≤ 10 ^ (E + E) := by rw [Int.natAbs_mul, Nat.pow_add]; exact Nat.mul_le_mul hf hy
 have e3 : (x * p - f * y).natAbs ≤ 10 ^ (E + E + 1) := by
  refine Nat.le_trans (Int.natAbs_sub_le _ _) ?_
  rw [Nat.pow_succ]; omega
 exact ⟨zFT e1 (by omega), zFT e2 (by omega), zFT e3 (by omega)⟩
abbrev zBr (b n L : Nat) : Cells := .fn n 1 (fun i _ => .sl (b + 4 + i) 0 L)
abbrev zDt (b k m w : Nat) (d : Int) : Cells := .box [.sl (b + 3) 0 k, .bool (decide (d < 0)), zf d.natAbs, .sl (b + 2) 0 m, .int .i64 (w : Nat)]
/-- The memory of a tableau: what was there, the table, what is behind it. -/
abbrev zY (G : zO) (F : Option AObj) (L w k : Nat) (X : Tab) (d : Int) (β : List Nat) (T : zO) : zO :=
 G ++ (some ⟨253, zDt G.length k β.length w d⟩ :: F :: some ⟨3, zB5 β⟩ :: zAu ⟨248, zBr G.length X.length L⟩ 120 zC X T)
def OkG (G : zO) : Prop := ∀ m, G.length ≤ m → ∀ o : AObj, some o ∈ G → zBu m o.c
section
variable {G : zO} {F : Option AObj} {L w k : Nat} {X : Tab} {d : Int} {β : List Nat} {T : zO}
theorem zBB : (zY G F L w k X d β T)[G.length]? = some (some ⟨253, zDt G.length k β.length w d⟩) := zD6 (i := 0) rfl
theorem tb_fac : (zY G F L w k X d β T)[G.length + 1]? = some F := zD6 (i := 1) rfl
theorem zFe : (zY G F L w k X d β T)[G.length + 2]? = some (some ⟨3, zB5 β⟩) := zD6 (i := 2) rfl
theorem zCk : (zY G F L w k X d β T)[G.length + 3]? = some (some ⟨248, zBr G.length X.length L⟩) := zD6 (i := 3) rfl
theorem zCa {a : Nat} (ha : a < X.length) : (zY G F L w k X d β T)[G.length + 4 + a]? = some (some ⟨120, zC (X.getD a [])⟩) := by
 rw [show G.length + 4 + a = G.length + (3 + (a + 1)) by omega]
 refine (zD6 (i := 3 + (a + 1)) Z).trans ?_
 rw [show 3 + (a + 1) = (a + 1) + 3 by omega]
 exact nest_row (O := ⟨248, zBr G.length X.length L⟩) (t := 120) (f := zC) (X := X) (L := T) [] ha
theorem zAk (j : Nat) : (zY G F L w k X d β T)[G.length + 4 + X.length + j]? = T[j]? := by
 rw [show G.length + 4 + X.length + j = G.length + ((X.length + 1 + j) + 3) by omega]
 refine (zD6 (i := (X.length + 1 + j) + 3) Z).trans ?_
 exact nest_loc (O := ⟨248, zBr G.length X.length L⟩) (t := 120) (f := zC) (X := X) (L := T)
theorem zBM : (zY G F L w k X d β T).length = G.length + 4 + X.length + T.length := by
 unfold zY
 rw [List.length_append, List.length_cons, List.length_cons, List.length_cons, nest_len]; omega
theorem zAj (T' : zO) : zY G F L w k X d β T ++ T' = zY G F L w k X d β (T ++ T') := by
 unfold zY
 rw [List.append_assoc, List.cons_append, List.cons_append, List.cons_append, nest_app]
theorem zHw (k' w' : Nat) (d' : Int) : (zY G F L w k X d β T).set G.length (some ⟨253, zDt G.length k' β.length w' d'⟩) = zY G F L w' k' X d' β T := zCA (i := 0) _ rfl
theorem zKA {β' : List Nat} (hb : β'.length = β.length) : (zY G F L w k X d β T).set (G.length + 2) (some ⟨3, zB5 β'⟩) = zY G F L w k X d β' T := by
 refine (zCA (i := 2) _ Z).trans ?_
 show G ++ (some ⟨_, zDt G.length k β.length w d⟩ :: F :: some ⟨_, zB5 β'⟩ :: _) = _
 rw [← hb]
theorem zKU {a : Nat} (ha : a < X.length) (x : List Int) : (zY G F L w k X d β T).set (G.length + 4 + a) (some ⟨120, zC x⟩) = zY G F L w k (X.set a x) d β T := by
 rw [show G.length + 4 + a = G.length + ((a + 1) + 3) by omega]
 refine (zCA (i := (a + 1) + 3) _ Z).trans ?_
 have h := zMF (O := ⟨248, zBr G.length X.length L⟩) (t := 120) (f := zC) (X := X) (L := T) x ha
 show G ++ (_ :: F :: _ :: (zAu _ _ _ X T).set (a + 1) _) = _
 rw [h]
 unfold zY
 rw [List.length_set]
theorem zAP (j : Nat) (x : Option AObj) : (zY G F L w k X d β T).set (G.length + 4 + X.length + j) x = zY G F L w k X d β (T.set j x) := by
 rw [show G.length + 4 + X.length + j = G.length + ((X.length + 1 + j) + 3) by omega]
 refine (zCA (i := (X.length + 1 + j) + 3) _ Z).trans ?_
 show G ++ (_ :: F :: _ :: (zAu _ _ _ X T).set (X.length + 1 + j) _) = _
 rw [zMR]
theorem zCQ (hG : OkG G) (m : Nat) (hm : G.length + 4 + X.length ≤ m) (hF : ∀ o : AObj, F = some o → zBu m o.c) (hT : ∀ o : AObj, some o ∈ T → zBu m o.c) : ∀ (h : Nat) (o : AObj), (zY G F L w k X d β T)[h]? = some (some o) → zBu m o.c := by
 intro h o ho
 have hmem := List.mem_of_getElem? ho
 unfold zY zAu at hmem
 rw [List.mem_append] at hmem
 rcases hmem with hmem | hmem
 ·exact hG m (by omega) o hmem
 rw [List.mem_cons, List.mem_cons, List.mem_cons, List.mem_cons, List.mem_append] at hmem
 rcases hmem with e | e | e | e | hmem | hmem
 ·cases e
  intro i j hi hj
  have hj' : j < 5 := hj
  match j, hj' with
  | 0, _ => exact Nat.ble_eq_true_of_le (show G.length + 3 + 1 ≤ m by omega)
  | 1, _ => rfl
  | 2, _ => rfl
  | 3, _ => exact Nat.ble_eq_true_of_le (show G.length + 2 + 1 ≤ m by omega)
  | 4, _ => rfl
 ·exact hF o e.symm
 ·cases e
  exact fun i j _ _ => rfl
 ·cases e
  intro i j hi hj
  have hi' : i < X.length := hi
  exact Nat.ble_eq_true_of_le (show G.length + 4 + i + 1 ≤ m by omega)
 ·obtain ⟨a, _, e⟩ := List.mem_map.1 hmem
  cases e
  intro i j hi hj
  have hj' : j < 2 := hj
  match j, hj' with
  | 0, _ => rfl
  | 1, _ => rfl
 ·exact hT o hmem
theorem tabB_den (b k m w : Nat) (d v : Int) : ∀ i' j', i' < (zDt b k m w d).len → j' < (zDt b k m w d).sz → (zDt b k m w v).at i' j' = if i' = 0 ∧ 1 ≤ j' ∧ j' < 1 + 2 then (zl v).getD (j' - 1) .any else (zDt b k m w d).at i' j' := by
 intro i' j' hi' hj'
 obtain rfl := Nat.lt_one_iff.1 (show i' < 1 from hi')
 have hj2 : j' < 5 := hj'
 match j', hj2 with
 | 0, _ => rfl
 | 1, _ => rfl
 | 2, _ => rfl
 | 3, _ => rfl
 | 4, _ => rfl
end
end Go.Proofs.YtnkealfaldjipaaGreatDoor
namespace Go.Proofs.YtnkealfaldjipaaGreatDoor
open Go.Ax Go.Ax.Bg Go.Ax.Rt Go.RowKit Go.Ax.Dt Go.Ax.Sx
attribute [local irreducible] Ax zBZ QOp zS zBC
set_option maxRecDepth 100000
set_option maxHeartbeats 4000000
theorem zF6 (x : Int) : (sgn x < 0) = (x < 0) := by
 apply propext
 unfold sgn
 constructor
 ·intro h
  split at h
  ·assumption
  ·split at h <;> omega
 ·intro h
  rw [if_pos h]; decide
theorem zL3 {α β : Type} (f : α → β) (l : List α) (d : α) : (List.range l.length).map (fun i => f (l.getD i d)) = l.map f := by
 apply List.ext_getElem (by simp)
 intro i h1 h2
 simp [List.getD, List.getElem?_eq_getElem (by simpa using h2 : i < l.length)]
theorem zNx (G : zO) (hG : OkG G) (L w n : Nat) (X : Tab) (d : Int) (β : List Nat) (r cc : Nat) (E : Nat) (hn : X.length = n) (hn40 : n ≤ 1000000) (hL : ∀ x ∈ X, x.length = L) (hL40 : L ≤ 1000000) (hr : r < β.length) (hβ : β.length ≤ n) (hc : cc < L) (hd : d ≠ 0)
 (hX : ∀ i j, i < n → j < L → (at2 X i j).natAbs ≤ 10 ^ E) (hdE : d.natAbs ≤ 10 ^ E) (hE : E ≤ 3600000) :
 zS Tryz.prog 211 [.ptr G.length 0 0, .int .i64 (r : Nat), .int .i64 (cc : Nat)] (zY G none L w n X d β []) (fun h => h < (zY G none L w n X d β []).length)
  (fun r' H' => r' = .tup [] ∧ H' = zY G none L w n (zEd X r cc d) (if at2 X r cc < 0 then -(at2 X r cc) else at2 X r cc) (β.set r cc) []) := by
 refine zE (P := Tryz.prog) (fn := Tryz.f211) Z Z (by kernel_rfl) Z (fun c hR hfix => ?_)
 have hrn : r < n := Nat.lt_of_lt_of_le hr hβ
 have hlen : (zY G none L w n X d β []).length = G.length + 4 + n := by rw [zBM, hn]; rfl
 rw [hlen] at hfix
 have f1 := zBB (G := G) (F := none) (L := L) (w := w) (k := n) (X := X) (d := d) (β := β) (T := [])
 have f2 := zCk (G := G) (F := none) (L := L) (w := w) (k := n) (X := X) (d := d) (β := β) (T := [])
 have f3 := zCa (G := G) (F := none) (L := L) (w := w) (k := n) (X := X) (d := d) (β := β) (T := []) (a := r) (by rw [hn]; exact hrn)
 have lr : (X.getD r []).length = L := hL _ (zAr [] (by rw [hn]; exact hrn))
 have g1 : r < (zBr G.length X.length L).len := by show r < X.length; rw [hn]; exact hrn
 have g2 : cc < (zC (X.getD r [])).len := by show cc < (X.getD r []).length; rw [lr]; exact hc
 refine rn7 ?_
 refine zR (zY G none L w n X d β [some ⟨120, .box [.bool false, .nil]⟩]) (by rw [zAj]; rfl) ?_
 refine zA 6 (.ptr (G.length + 4 + n) 0 0) Z (AEq.of_eq (by rw [hlen])) ?_
 refine zA 23 (zBD (at2 X r cc)) Z (AEq.of_eq Z) ?_
 have q0 := zAk (G := G) (F := none) (L := L) (w := w) (k := n) (X := X) (d := d) (β := β) (T := [some ⟨120, .box [.bool false, .nil]⟩]) 0
 rw [hn] at q0
 refine zN (c' := .box (zl (at2 X r cc))) Z Z Z q0 Z Nat.zero_lt_one Z Z (fun i' j' hi' hj' => ?_) ?_
 ·rw [if_pos (Nat.lt_one_iff.1 hi')]; rfl
 refine zR (zY G none L w n X d β [some ⟨120, .box (zl (at2 X r cc))⟩]) (by have q := zAP (G := G) (F := none) (L := L) (w := w) (k := n) (X := X) (d := d) (β := β) (T := [some ⟨120, .box [.bool false, .nil]⟩]) 0 (some ⟨120, .box (zl (at2 X r cc))⟩); rw [hn] at q; exact q) ?_
 clear f1 f2 f3 q0
 have f1 := zBB (G := G) (F := none) (L := L) (w := w) (k := n) (X := X) (d := d) (β := β) (T := [some ⟨120, .box (zl (at2 X r cc))⟩])
 have hsz : ∀ x : Int, x.natAbs ≤ 10 ^ E → (zT x.natAbs).length ≤ 400001 := fun x hx => zFT hx (by omega)
 have bp := hX r cc hrn hc
 refine rn7 ?_
 refine zh (ι := Nat) (fun a => [(0, .ptr G.length 0 0), (1, .int .i64 (r : Nat)), (2, .int .i64 (cc : Nat)), (6, .ptr (G.length + 4 + n) 0 0), (27, .sl (G.length + 3) 0 n), (28, .int .i64 (n : Nat)), (29, .int .i64 (a : Nat))]) (fun a => zY G none L w n (chg (zCT X r cc d) [] X a) d β [some ⟨120, .box (zl (at2 X r cc))⟩]) (fun a => a ≤ n) (fun a => n - a) 0 ⟨⟨Z, Z, Z, Z, Z, Z, Z, trivial⟩, by rw [zDC], Nat.zero_le _⟩ ?_
 clear f1
 intro a ha
 have hXl : (chg (zCT X r cc d) [] X a).length = n := by rw [zCm, hn]
 refine rn4 ?_
 refine zD Z (fun h7 => ?_) (fun h7 => ?_)
 ·have ha' : a < n := by omega
  have eA : (chg (zCT X r cc d) [] X a).getD a [] = X.getD a [] := by rw [zC5 _ _ _ (by omega), if_neg (Nat.lt_irrefl a)]
  have eK : (chg (zCT X r cc d) [] X a).getD r [] = X.getD r [] := by
   rw [zC5 _ _ _ (by omega)]
   split
   ·unfold zCT; rw [if_pos rfl]
   ·rfl
  have lA : (X.getD a []).length = L := hL _ (zAr [] (by omega))
  have f2 := zCk (G := G) (F := none) (L := L) (w := w) (k := n) (X := (chg (zCT X r cc d) [] X a)) (d := d) (β := β) (T := [some ⟨120, .box (zl (at2 X r cc))⟩])
  have f3 := zCa (G := G) (F := none) (L := L) (w := w) (k := n) (X := (chg (zCT X r cc d) [] X a)) (d := d) (β := β) (T := [some ⟨120, .box (zl (at2 X r cc))⟩]) (a := a) (by omega)
  rw [eA] at f3
  have g3 : a < (zBr G.length (chg (zCT X r cc d) [] X a).length L).len := by show a < (chg (zCT X r cc d) [] X a).length; omega
  have g4 : cc < (zC (X.getD a [])).len := by show cc < (X.getD a []).length; omega
  repeat (first | refine zG (zL rfl) ?_ | refine zG (zi rfl) ?_ | refine zP ?_ | refine zF ?_ | refine z8 ?_ | refine zV rfl ?_ | refine z7 ?_ | refine zAh ?_ | refine zG (zDV rfl rfl) ?_ | refine zG (zZ rfl rfl rfl (by assumption) (by rfl) (by first | (simp only [Nat.zero_add, Int.toNat_natCast, Int.toNat_zero]; exact rfl) | exact rfl) (by omega)) ?_ | refine zG (zBA rfl rfl rfl (by assumption) rfl (by first | assumption | omega)) ?_)
  refine zD Z (fun h8 => ?_) (fun h8 => ?_)
  ·have h8' : a = r := by omega
   refine rn5 ?_
   exact zM ⟨a + 1, by omega, by omega, ⟨Z, Z, Z, Z, Z, Z, Z, trivial⟩, by rw [chg_same _ _ _ (by omega) (by rw [h8']; unfold zCT; rw [if_pos rfl])]⟩
  ·have hne : ¬ a = r := by omega
   refine rn7 ?_
   have hl2 : (zY G none L w n (chg (zCT X r cc d) [] X a) d β [some ⟨120, .box (zl (at2 X r cc))⟩]).length = G.length + 5 + n := by rw [zBM, hXl]; show _ + 1 = _; omega
   refine zR (zY G none L w n (chg (zCT X r cc d) [] X a) d β [some ⟨120, .box (zl (at2 X r cc))⟩, some ⟨120, .box [.bool false, .nil]⟩]) (by rw [zAj]; rfl) ?_
   refine zA 9 (.ptr (G.length + 5 + n) 0 0) Z (AEq.of_eq (by rw [hl2])) ?_
   refine zA 40 (zBD (at2 X a cc)) Z (AEq.of_eq Z) ?_
   have q1 := zAk (G := G) (F := none) (L := L) (w := w) (k := n) (X := (chg (zCT X r cc d) [] X a)) (d := d) (β := β) (T := [some ⟨120, .box (zl (at2 X r cc))⟩, some ⟨120, .box [.bool false, .nil]⟩]) 1
   rw [hXl, show G.length + 4 + n + 1 = G.length + 5 + n by omega] at q1
   refine zN (c' := .box (zl (at2 X a cc))) Z Z Z q1 Z Nat.zero_lt_one Z Z (fun i' j' hi' hj' => ?_) ?_
   ·rw [if_pos (Nat.lt_one_iff.1 hi')]; rfl
   refine zR (zY G none L w n (chg (zCT X r cc d) [] X a) d β [some ⟨120, .box (zl (at2 X r cc))⟩, some ⟨120, .box (zl (at2 X a cc))⟩]) (by have q := zAP (G := G) (F := none) (L := L) (w := w) (k := n) (X := (chg (zCT X r cc d) [] X a)) (d := d) (β := β) (T := [some ⟨120, .box (zl (at2 X r cc))⟩, some ⟨120, .box [.bool false, .nil]⟩]) 1 (some ⟨120, .box (zl (at2 X a cc))⟩); rw [hXl, show G.length + 4 + n + 1 = G.length + 5 + n by omega] at q; exact q) ?_
   clear f2 f3 q1
   refine rn3 ?_
   refine zh (ι := Nat) (fun j => [(0, .ptr G.length 0 0), (1, .int .i64 (r : Nat)), (2, .int .i64 (cc : Nat)), (6, .ptr (G.length + 4 + n) 0 0), (7, .int .i64 (a : Nat)), (8, .sl (G.length + 4 + a) 0 L), (9, .ptr (G.length + 5 + n) 0 0), (27, .sl (G.length + 3) 0 n), (28, .int .i64 (n : Nat)), (29, .int .i64 (a : Nat)), (42, .int .i64 (L : Nat)), (43, .int .i64 (j : Nat))]) (fun j => zY G none L w n ((chg (zCT X r cc d) [] X a).set a (chg (rowG (X.getD a []) (X.getD r []) (at2 X r cc) (at2 X a cc) d) 0 (X.getD a []) j)) d β [some ⟨120, .box (zl (at2 X r cc))⟩, some ⟨120, .box (zl (at2 X a cc))⟩]) (fun j => j ≤ L) (fun j => L - j) 0 ⟨⟨Z, Z, Z, Z, Z, Z, Z, Z, Z, Z, Z, Z, trivial⟩, by rw [zDC, ← eA, zNk (chg (zCT X r cc d) [] X a) [] _ (by omega)], Nat.zero_le _⟩ ?_
   intro j hj
   refine rn4 ?_
   refine zD Z (fun h9 => ?_) (fun h9 => ?_)
   ·have hj' : j < L := by omega
    have hgj := zC5 (rowG (X.getD a []) (X.getD r []) (at2 X r cc) (at2 X a cc) d) 0 (X.getD a []) (k := j) (i := j) (by omega)
    rw [if_neg (Nat.lt_irrefl j)] at hgj
    have hsj := zDp (rowG (X.getD a []) (X.getD r []) (at2 X r cc) (at2 X a cc) d) 0 (X.getD a []) (k := j) (by omega)
    have hlj := zCm (rowG (X.getD a []) (X.getD r []) (at2 X r cc) (at2 X a cc) d) 0 (X.getD a []) j
    have hgx : (rowG (X.getD a []) (X.getD r []) (at2 X r cc) (at2 X a cc) d) j = zDl ((X.getD a []).getD j 0 * at2 X r cc - at2 X a cc * (X.getD r []).getD j 0) d := rfl
    rw [← hgj] at hgx
    rw [hgx] at hsj
    have ex : ((chg (rowG (X.getD a []) (X.getD r []) (at2 X r cc) (at2 X a cc) d) 0 (X.getD a []) j).getD j 0).natAbs ≤ 10 ^ E := by rw [hgj]; exact hX a j ha' hj'
    clear hgj hgx
    generalize (chg (rowG (X.getD a []) (X.getD r []) (at2 X r cc) (at2 X a cc) d) 0 (X.getD a []) j) = row at *
    generalize hXA : (chg (zCT X r cc d) [] X a) = XA at *
    have hXl2 : (XA.set a row).length = n := by rw [List.length_set]; exact hXl
    have rA : (XA.set a row).getD a [] = row := by rw [getD_set, if_pos ⟨rfl, by omega⟩]
    have rK : (XA.set a row).getD r [] = X.getD r [] := by rw [getD_set, if_neg (fun q => hne q.1.symm), eK]
    have q4 := zCk (G := G) (F := none) (L := L) (w := w) (k := n) (X := (XA.set a row)) (d := d) (β := β) (T := [some ⟨120, .box (zl (at2 X r cc))⟩, some ⟨120, .box (zl (at2 X a cc))⟩])
    have q5 := zCa (G := G) (F := none) (L := L) (w := w) (k := n) (X := (XA.set a row)) (d := d) (β := β) (T := [some ⟨120, .box (zl (at2 X r cc))⟩, some ⟨120, .box (zl (at2 X a cc))⟩]) (a := a) (by omega)
    rw [rA] at q5
    have q6 := zCa (G := G) (F := none) (L := L) (w := w) (k := n) (X := (XA.set a row)) (d := d) (β := β) (T := [some ⟨120, .box (zl (at2 X r cc))⟩, some ⟨120, .box (zl (at2 X a cc))⟩]) (a := r) (by omega)
    rw [rK] at q6
    have q7 := zBB (G := G) (F := none) (L := L) (w := w) (k := n) (X := (XA.set a row)) (d := d) (β := β) (T := [some ⟨120, .box (zl (at2 X r cc))⟩, some ⟨120, .box (zl (at2 X a cc))⟩])
    have q8 := zAk (G := G) (F := none) (L := L) (w := w) (k := n) (X := (XA.set a row)) (d := d) (β := β) (T := [some ⟨120, .box (zl (at2 X r cc))⟩, some ⟨120, .box (zl (at2 X a cc))⟩]) 0
    rw [hXl2, Nat.add_zero] at q8
    have q9 := zAk (G := G) (F := none) (L := L) (w := w) (k := n) (X := (XA.set a row)) (d := d) (β := β) (T := [some ⟨120, .box (zl (at2 X r cc))⟩, some ⟨120, .box (zl (at2 X a cc))⟩]) 1
    rw [hXl2, show G.length + 4 + n + 1 = G.length + 5 + n by omega] at q9
    have g5 : r < (zBr G.length (XA.set a row).length L).len := by show r < (XA.set a row).length; omega
    have g6 : j < (zC row).len := by show j < row.length; omega
    have g7 : j < (zC (X.getD r [])).len := by show j < (X.getD r []).length; omega
    have bK : ((X.getD r []).getD j 0).natAbs ≤ 10 ^ E := hX r j hrn hj'
    have bf : (at2 X a cc).natAbs ≤ 10 ^ E := hX a cc ha' hc
    obtain ⟨s1, s2, s3⟩ := zKW ex bp bf bK hE
    have m1 := zC1 (row.getD j 0) (at2 X r cc) (by have := hsz _ ex; omega) (by have := hsz _ bp; omega)
    have m2 := zC1 (at2 X a cc) ((X.getD r []).getD j 0) (by have := hsz _ bf; omega) (by have := hsz _ bK; omega)
    have m3 := zMh (row.getD j 0 * at2 X r cc) (at2 X a cc * (X.getD r []).getD j 0) s1 s2
    have m4 := zRT (row.getD j 0 * at2 X r cc - at2 X a cc * (X.getD r []).getD j 0) d hd s3 (by have := hsz _ hdE; omega)
    refine rn1 ?_
    refine zo (by kernel_rfl) ?_
    refine zv (fuel := 1) [0, 1, 2, 3, 4, 5, 6, 7, 8, 9, 10, 11, 12, 13, 14, 15, 16, 17, 18, 19, 20, 21, 22, 23, 24, 25, 26] [(0, .ptr G.length 0 0), (1, .int .i64 (r : Nat)), (2, .int .i64 (cc : Nat)), (6, .ptr (G.length + 4 + n) 0 0), (7, .int .i64 (a : Nat)), (8, .sl (G.length + 4 + a) 0 L), (9, .ptr (G.length + 5 + n) 0 0), (27, .sl (G.length + 3) 0 n), (28, .int .i64 (n : Nat)), (29, .int .i64 (a : Nat)), (42, .int .i64 (L : Nat)), (43, .int .i64 (j : Nat)), (10, .int .i64 (j : Nat))] ⟨Z, Z, Z, Z, Z, Z, Z, Z, Z, Z, Z, Z, Z, trivial⟩ (by kernel_rfl) (by decide) Z Z ?_
    refine zK Z Z (zL Z) ?_
    refine zK Z Z (zL Z) ?_
    refine zK Z Z (zL Z) ?_
    refine zK Z Z (zL Z) ?_
    refine zK Z Z (zZ Z Z Z (by assumption) (by rfl) (by first | (simp only [Nat.zero_add, Int.toNat_natCast, Int.toNat_zero]; exact Z) | exact Z) (by omega)) ?_
    refine zK Z Z (zAD Z Z Z Z (by assumption) (by rfl) (by rfl) (by first | exact Nat.zero_lt_one | assumption | omega)) ?_
    refine zK Z Z (zAD Z Z Z Z (by assumption) (by rfl) (by rfl) (by first | exact Nat.zero_lt_one | assumption | omega)) ?_
    refine zAc Z Z Z Z Z m1 ?_
    refine zK Z Z (zAD Z Z Z Z (by assumption) (by rfl) (by rfl) (by first | exact Nat.zero_lt_one | assumption | omega)) ?_
    refine zK Z Z (zL Z) ?_
    refine zK Z Z (zd Z) ?_
    refine zK Z Z (zJ Z Z Z Z Z Z) ?_
    refine zK Z Z (zAI Z Z Z (by assumption) (by rfl)) ?_
    refine zK Z Z (zL Z) ?_
    refine zK Z Z (zZ Z Z Z (by assumption) (by rfl) (by first | (simp only [Nat.zero_add, Int.toNat_natCast, Int.toNat_zero]; exact Z) | exact Z) (by omega)) ?_
    refine zK Z Z (zBA Z Z Z (by assumption) Z (by first | assumption | omega)) ?_
    refine zK Z Z (zL Z) ?_
    refine zK Z Z (zZ Z Z Z (by assumption) (by rfl) (by first | (simp only [Nat.zero_add, Int.toNat_natCast, Int.toNat_zero]; exact Z) | exact Z) (by omega)) ?_
    refine zK Z Z (zAD Z Z Z Z (by assumption) (by rfl) (by rfl) (by first | exact Nat.zero_lt_one | assumption | omega)) ?_
    refine zAc Z Z Z Z Z m2 ?_
    refine zAc Z Z Z Z Z m3 ?_
    refine zK Z Z (zL Z) ?_
    refine zK Z Z (zd Z) ?_
    refine zK Z Z (zJ Z Z Z Z Z Z) ?_
    refine zK Z Z (zCu Z Z Z Z (by assumption) (by rfl) (by rfl) (by first | exact Nat.zero_lt_one | assumption | omega)) ?_
    refine zAc Z Z Z Z Z m4 ?_
    refine zK Z Z (zZ Z Z Z (by assumption) (by rfl) (by first | (simp only [Nat.zero_add, Int.toNat_natCast, Int.toNat_zero]; exact Z) | exact Z) (by omega)) ?_
    refine zz ?_
    generalize zDl (row.getD j 0 * at2 X r cc - at2 X a cc * (X.getD r []).getD j 0) d = v at *
    refine zH (is := [27]) (by kernel_rfl) (by simp) Z ⟨fun o ho => ?_, trivial⟩
    all_goals (cases ho)
    refine zN (c' := zC (row.set j v)) Z Z Z q5 Z g6 (List.length_set ..) Z (zDM row j v) ?_
    refine zR (zY G none L w n (XA.set a (row.set j v)) d β [some ⟨120, .box (zl (at2 X r cc))⟩, some ⟨120, .box (zl (at2 X a cc))⟩]) ((zKU (by omega) _).trans (by rw [List.set_set])) ?_
    refine rn1 ?_
    refine zX (by kernel_rfl) ?_
    refine rn5 ?_
    exact zM ⟨j + 1, by omega, by omega, ⟨Z, Z, Z, Z, Z, Z, Z, Z, Z, Z, Z, Z, trivial⟩, by rw [hsj]⟩
   ·have hje : L = j := by omega
    subst hje
    have hall := row_chg (X.getD a []) (X.getD r []) (at2 X r cc) (at2 X a cc) d
    rw [lA] at hall
    have hel : zCT X r cc d a = zFU (X.getD a []) (X.getD r []) (at2 X r cc) (at2 X a cc) d := by unfold zCT; rw [if_neg hne]
    rw [← hall, ← hel, zDp _ _ _ (by omega)]
    have hXl3 : (chg (zCT X r cc d) [] X (a + 1)).length = n := by rw [zCm, hn]
    have hl3 : (zY G none L w n (chg (zCT X r cc d) [] X (a + 1)) d β [some ⟨120, .box (zl (at2 X r cc))⟩]).length = G.length + 5 + n := by rw [zBM, hXl3]; show _ + 1 = _; omega
    refine zEg ?_
    refine zF ?_
    refine zA3 (zY G none L w n (chg (zCT X r cc d) [] X (a + 1)) d β [some ⟨120, .box (zl (at2 X r cc))⟩]) [some ⟨120, .box (zl (at2 X a cc))⟩] [(0, .ptr G.length 0 0), (1, .int .i64 (r : Nat)), (2, .int .i64 (cc : Nat)), (6, .ptr (G.length + 4 + n) 0 0), (27, .sl (G.length + 3) 0 n), (28, .int .i64 (n : Nat)), (29, .int .i64 (a : Nat))] (by rw [zAj]; rfl) ⟨Z, Z, Z, Z, Z, Z, Z, trivial⟩ (fun h hh => by rw [hfix] at hh; rw [hl3]; omega)
     (by rw [hl3]; exact zCQ hG _ (by omega) (fun o ho => by cases ho) (fun o ho => by cases List.mem_singleton.1 ho; exact zMS _ _)) (by rw [hl3]; simp [zCl, zBR]; omega) ?_
    refine rn3 ?_
    exact zM ⟨a + 1, by omega, by omega, ⟨Z, Z, Z, Z, Z, Z, Z, trivial⟩, Z⟩
 have hae : n = a := by omega
 subst hae
 rw [show chg (zCT X r cc d) [] X n = zEa X r cc d by rw [zKY, hn]]
 have hYL := zJJ X r cc d (by omega) hL
 have hYl : (zEa X r cc d).length = n := by rw [zIy, hn]
 have eP : zEd X r cc d = if at2 X r cc < 0 then (zEa X r cc d).map (fun l => l.map (fun x => -x)) else zEa X r cc d := rfl
 have hEl : (zEd X r cc d).length = n := by rw [zKB, hn]
 clear ha hXl h7
 generalize zEa X r cc d = Y at *
 refine rn9 ?_
 refine z8 ?_
 apply zAM (H := zY G none L w n (zEd X r cc d) d β [some ⟨120, .box (zl (if at2 X r cc < 0 then -(at2 X r cc) else at2 X r cc))⟩]) [(0, .ptr G.length 0 0), (1, .int .i64 (r : Nat)), (2, .int .i64 (cc : Nat)), (6, .ptr (G.length + 4 + n) 0 0)]
 ·intro fin
  have f1 := zBB (G := G) (F := none) (L := L) (w := w) (k := n) (X := Y) (d := d) (β := β) (T := [some ⟨120, .box (zl (at2 X r cc))⟩])
  have q0 := zAk (G := G) (F := none) (L := L) (w := w) (k := n) (X := Y) (d := d) (β := β) (T := [some ⟨120, .box (zl (at2 X r cc))⟩]) 0
  rw [hYl, Nat.add_zero] at q0
  have cs := zED (at2 X r cc)
  refine rn7 ?_
  refine zA 75 (zBD (at2 X r cc)) Z (AEq.of_eq Z) ?_
  refine zB Z Z Z cs ?_
  repeat (first | refine zP ?_ | refine zF ?_ | refine zG (zEZ rfl rfl) ?_)
  refine zD Z (fun h1 => ?_) (fun h1 => ?_)
  ·rw [zF6] at h1
   rw [if_pos h1] at eP
   rw [if_pos h1] at fin
   have co := zGZ (at2 X r cc)
   refine rn7 ?_
   refine zA 78 (zBD (at2 X r cc)) Z (AEq.of_eq Z) ?_
   refine zB Z Z Z co ?_
   skip
   refine zN (c' := .box (zl (-(at2 X r cc)))) Z Z Z q0 Z Nat.zero_lt_one Z Z (fun i' j' hi' hj' => ?_) ?_
   ·rw [if_pos (Nat.lt_one_iff.1 hi')]; rfl
   refine zR (zY G none L w n Y d β [some ⟨120, .box (zl (-(at2 X r cc)))⟩]) (by have q := zAP (G := G) (F := none) (L := L) (w := w) (k := n) (X := Y) (d := d) (β := β) (T := [some ⟨120, .box (zl (at2 X r cc))⟩]) 0 (some ⟨120, .box (zl (-(at2 X r cc)))⟩); rw [hYl, Nat.add_zero] at q; exact q) ?_
   clear f1 q0
   have f1 := zBB (G := G) (F := none) (L := L) (w := w) (k := n) (X := Y) (d := d) (β := β) (T := [some ⟨120, .box (zl (-(at2 X r cc)))⟩])
   refine rn7 ?_
   refine zh (ι := Nat) (fun a => [(0, .ptr G.length 0 0), (1, .int .i64 (r : Nat)), (2, .int .i64 (cc : Nat)), (6, .ptr (G.length + 4 + n) 0 0), (83, .sl (G.length + 3) 0 n), (84, .int .i64 (n : Nat)), (85, .int .i64 (a : Nat))]) (fun a => zY G none L w n (chg (fun i => (Y.getD i []).map (fun x => -x)) [] Y a) d β [some ⟨120, .box (zl (-(at2 X r cc)))⟩]) (fun a => a ≤ n) (fun a => n - a) 0 ⟨⟨Z, Z, Z, Z, Z, Z, Z, trivial⟩, by rw [zDC], Nat.zero_le _⟩ ?_
   clear f1
   intro a ha
   have hXl : (chg (fun i => (Y.getD i []).map (fun x => -x)) [] Y a).length = n := by rw [zCm, hYl]
   refine rn4 ?_
   refine zD Z (fun h7 => ?_) (fun h7 => ?_)
   ·have ha' : a < n := by omega
    have eA : (chg (fun i => (Y.getD i []).map (fun x => -x)) [] Y a).getD a [] = Y.getD a [] := by rw [zC5 _ _ _ (by omega), if_neg (Nat.lt_irrefl a)]
    have lA : (Y.getD a []).length = L := hYL _ (zAr [] (by omega))
    have hst := zDp (fun i => (Y.getD i []).map (fun x => -x)) [] Y (k := a) (by omega)
    have f2 := zCk (G := G) (F := none) (L := L) (w := w) (k := n) (X := (chg (fun i => (Y.getD i []).map (fun x => -x)) [] Y a)) (d := d) (β := β) (T := [some ⟨120, .box (zl (-(at2 X r cc)))⟩])
    have g3 : a < (zBr G.length (chg (fun i => (Y.getD i []).map (fun x => -x)) [] Y a).length L).len := by show a < (chg (fun i => (Y.getD i []).map (fun x => -x)) [] Y a).length; omega
    refine rn7 ?_
    generalize hZA : (chg (fun i => (Y.getD i []).map (fun x => -x)) [] Y a) = ZA at *
    generalize hy : Y.getD a [] = y at *
    refine zh (ι := Nat) (fun j => [(0, .ptr G.length 0 0), (1, .int .i64 (r : Nat)), (2, .int .i64 (cc : Nat)), (6, .ptr (G.length + 4 + n) 0 0), (12, .sl (G.length + 4 + a) 0 L), (83, .sl (G.length + 3) 0 n), (84, .int .i64 (n : Nat)), (85, .int .i64 (a : Nat)), (90, .int .i64 (L : Nat)), (91, .int .i64 (j : Nat))]) (fun j => zY G none L w n (ZA.set a (chg (fun j => -(y.getD j 0)) 0 y j)) d β [some ⟨120, .box (zl (-(at2 X r cc)))⟩]) (fun j => j ≤ L) (fun j => L - j) 0 ⟨⟨Z, Z, Z, Z, Z, Z, Z, Z, Z, Z, trivial⟩, by rw [zDC, ← eA, zNk ZA [] _ (by omega)], Nat.zero_le _⟩ ?_
    intro j hj
    refine rn4 ?_
    refine zD Z (fun h9 => ?_) (fun h9 => ?_)
    ·have hj' : j < L := by omega
     have hgj := zC5 (fun j => -(y.getD j 0)) 0 y (k := j) (i := j) (by omega)
     rw [if_neg (Nat.lt_irrefl j)] at hgj
     have hsj := zDp (fun j => -(y.getD j 0)) 0 y (k := j) (by omega)
     have hlj := zCm (fun j => -(y.getD j 0)) 0 y j
     rw [← hgj] at hsj
     generalize (chg (fun j => -(y.getD j 0)) 0 y j) = row at *
     have hXl2 : (ZA.set a row).length = n := by rw [List.length_set]; exact hXl
     have rA : (ZA.set a row).getD a [] = row := by rw [getD_set, if_pos ⟨rfl, by omega⟩]
     have q5 := zCa (G := G) (F := none) (L := L) (w := w) (k := n) (X := (ZA.set a row)) (d := d) (β := β) (T := [some ⟨120, .box (zl (-(at2 X r cc)))⟩]) (a := a) (by omega)
     rw [rA] at q5
     have g6 : j < (zC row).len := by show j < row.length; omega
     have co := zGZ (row.getD j 0)
     refine rn7 ?_
     refine zA 99 (zBD (row.getD j 0)) Z (AEq.of_eq Z) ?_
     refine zB Z Z Z co ?_
     repeat (refine zG (zZ rfl rfl rfl (by assumption) (by rfl) (by first | (simp only [Nat.zero_add, Int.toNat_natCast, Int.toNat_zero]; exact rfl) | exact rfl) (by omega)) ?_)
     refine zN (c' := zC (row.set j (-(row.getD j 0)))) Z Z Z q5 Z g6 (List.length_set ..) Z (zDM row j _) ?_
     refine zR (zY G none L w n (ZA.set a (row.set j (-(row.getD j 0)))) d β [some ⟨120, .box (zl (-(at2 X r cc)))⟩]) ((zKU (by omega) _).trans (by rw [List.set_set])) ?_
     refine rn5 ?_
     exact zM ⟨j + 1, by omega, by omega, ⟨Z, Z, Z, Z, Z, Z, Z, Z, Z, Z, trivial⟩, by rw [hsj]⟩
    ·have hje : L = j := by omega
     subst hje
     have hall : chg (fun j => -(y.getD j 0)) 0 y L = y.map (fun x => -x) := by rw [← lA, zEh, zL3 (fun x => -x) y 0]
     rw [hall, hst]
     refine rn5 ?_
     exact zM ⟨a + 1, by omega, by omega, ⟨Z, Z, Z, Z, Z, Z, Z, trivial⟩, Z⟩
   ·have hae : a = n := by omega
    have hall : (chg (fun i => (Y.getD i []).map (fun x => -x)) [] Y a) = zEd X r cc d := by rw [hae, ← hYl, zEh, zL3 (fun l : List Int => l.map (fun x => -x)) Y [], eP]
    rw [hall]
    refine rn9 ?_
    exact fin _ ⟨Z, Z, Z, Z, trivial⟩
  ·rw [zF6] at h1
   rw [if_neg h1] at eP
   rw [if_neg h1, eP] at fin
   refine rn9 ?_
   exact fin _ ⟨Z, Z, Z, Z, trivial⟩
 clear eP hYl hYL
 clear Y
 generalize hPV : (if at2 X r cc < 0 then -(at2 X r cc) else at2 X r cc) = PV at *
 have f1 := zBB (G := G) (F := none) (L := L) (w := w) (k := n) (X := (zEd X r cc d)) (d := d) (β := β) (T := [some ⟨120, .box (zl PV)⟩])
 have q0 := zAk (G := G) (F := none) (L := L) (w := w) (k := n) (X := (zEd X r cc d)) (d := d) (β := β) (T := [some ⟨120, .box (zl PV)⟩]) 0
 rw [hEl, Nat.add_zero] at q0
 refine rn7 ?_
 refine zA 105 (zBD PV) Z (AEq.of_eq Z) ?_
 refine zMK (s := 2) (c' := zDt G.length n β.length w PV) Z Z Z f1 Z (show 1 + 2 ≤ 5 from by decide) Nat.zero_lt_one Z Z (tabB_den _ _ _ _ _ _) ?_
 refine zR (zY G none L w n (zEd X r cc d) PV β [some ⟨120, .box (zl PV)⟩]) (zHw n w PV) ?_
 refine rn9 ?_
 have hle : (zY G none L w n (zEd X r cc d) PV β []).length = G.length + 4 + n := by rw [zBM, hEl]; rfl
 refine zA3 (zY G none L w n (zEd X r cc d) PV β []) [some ⟨120, .box (zl PV)⟩] [(0, .ptr G.length 0 0), (1, .int .i64 (r : Nat)), (2, .int .i64 (cc : Nat))] (by rw [zAj]; rfl) ⟨Z, Z, Z, trivial⟩ (fun h hh => by rw [hfix] at hh; rw [hle]; exact hh)
  (by rw [hle]; exact zCQ hG _ (by omega) (fun o ho => by cases ho) (fun o ho => by cases ho)) (by rw [hle]; simp [zCl, zBR]; omega) ?_
 clear f1 q0
 have f1 := zBB (G := G) (F := none) (L := L) (w := w) (k := n) (X := zEd X r cc d) (d := PV) (β := β) (T := [])
 have f2 := zFe (G := G) (F := none) (L := L) (w := w) (k := n) (X := zEd X r cc d) (d := PV) (β := β) (T := [])
 refine rn7 ?_
 refine zCG Z Z Z Z f2 Z Z (by show r < (β.map _).length; rw [List.length_map]; exact hr) ?_
 refine zR (zY G none L w n (zEd X r cc d) PV (β.set r cc) []) (by
  rw [← zKA (β := β) (List.length_set ..)]
  show _ = List.set _ _ (some (⟨3, .ints .i64 ((β.set r cc).map (fun a : Nat => (a : Int)))⟩ : AObj))
  rw [List.map_set]) ?_
 repeat (refine zP ?_)
 exact ax_end hR Z ⟨Z, Z⟩
end Go.Proofs.YtnkealfaldjipaaGreatDoor
namespace Go.Ax.Sx
open Go.Ax.Dt Go.Ax.Rt Go.Ax.Bg
def optZ : Option Nat → Int
 | none => -1
 | some b => (b : Int)
section
variable {T : Tab} {β : List Nat} {c e k b : Nat}
theorem zOm (h : at2 T k c ≤ 0) : zBg T β c e (k + 1) = zBg T β c e k := by
 rw [zBg]
 cases zBg T β c e k with
 | none => show (if _ then _ else _) = _; rw [if_pos h]
 | some b => show (if _ then _ else _) = _; rw [if_pos h]
theorem zNL (h : ¬ at2 T k c ≤ 0) (hl : zBg T β c e k = none) : zBg T β c e (k + 1) = some k := by
 rw [zBg, hl]
 show (if _ then _ else _) = _
 rw [if_neg h]
theorem zOt (h : ¬ at2 T k c ≤ 0) (hl : zBg T β c e k = some b) : zBg T β c e (k + 1) = if zH4 T β c e k b then some k else some b := by
 rw [zBg, hl]
 show (if _ then _ else _) = _
 rw [if_neg h]
end
theorem zNh (o : Option Nat) : (optZ o < 0) = (o = none) := by
 apply propext
 cases o with
 | none => exact ⟨fun _ => rfl, fun _ => by show (-1 : Int) < 0; omega⟩
 | some b => exact ⟨fun h => absurd h (by show ¬ (b : Int) < 0; omega), fun h => by cases h⟩
section
variable {m N w : Nat} {s : St}
theorem zLs {k : Nat} (h : zB1 m N w (zAn m N w s k) = none) : ∀ j, zAn m N w s (k + j) = zAn m N w s k
 | 0 => rfl
 | j + 1 => by
  have e := zLs h j
  show (zB1 m N w (zAn m N w s (k + j))).getD (zAn m N w s (k + j)) = _
  rw [e, h]; rfl
theorem iter_end {k K : Nat} (h : zB1 m N w (zAn m N w s k) = none) (hk : k ≤ K) : zAn m N w s K = zAn m N w s k := by
 obtain ⟨j, rfl⟩ : ∃ j, K = k + j := ⟨K - k, by omega⟩
 exact zLs h j
theorem zQu {k : Nat} {s' : St} (h : zB1 m N w (zAn m N w s k) = some s') : zAn m N w s (k + 1) = s' := by
 show (zB1 m N w (zAn m N w s k)).getD _ = _
 rw [h]; rfl
/-- the column of a direction without an end, or -1 -/
def resZ (m w : Nat) (s : St) : Int := if zCX m w s = w then -1 else (zCX m w s : Int)
theorem zQd (h : zCX m w s = w) : zB1 m N w s = none := by
 unfold zB1; unfold zCX at h; rw [if_pos h]
theorem zQ2 (h : zCX m w s ≠ w) (hl : zBg s.rows s.basis (zCX m w s) N m = none) : zB1 m N w s = none := by
 unfold zB1; unfold zCX at h hl; rw [if_neg h, hl]
theorem step_go (h : zCX m w s ≠ w) {r : Nat} (hl : zBg s.rows s.basis (zCX m w s) N m = some r) : zB1 m N w s = some (piv s r (zCX m w s)) := by
 unfold zB1; unfold zCX at h hl ⊢; rw [if_neg h, hl]
end
/-- from column c on -/
theorem zO3 {T : Tab} {m f c : Nat} (h : at2 T m c < 0) : zCW T m f c = c := by
 cases f with
 | zero => rfl
 | succ f => rw [zCW, if_pos h]
theorem enter_go {T : Tab} {m f c : Nat} (h : ¬ at2 T m c < 0) : zCW T m (f + 1) c = zCW T m f (c + 1) := by rw [zCW, if_neg h]
theorem nz_stop {T : Tab} {i f c : Nat} (h : at2 T i c ≠ 0) : nzN T i f c = c := by
 cases f with
 | zero => rfl
 | succ f => rw [nzN, if_pos h]
theorem nz_go {T : Tab} {i f c : Nat} (h : ¬ at2 T i c ≠ 0) : nzN T i (f + 1) c = nzN T i f (c + 1) := by rw [nzN, if_neg h]
/-- a table without its last rows -/
def cutS (m : Nat) (s : St) : St := ⟨s.rows.take m, s.den, s.basis⟩
theorem zEI {T : Tab} {m i : Nat} (hi : i < m) (j : Nat) : at2 (T.take m) i j = at2 T i j := by
 unfold at2
 simp only [List.getD, List.getElem?_take, if_pos hi]
theorem zL5 {T : Tab} {m i : Nat} (hi : i < m) : (T.take m).getD i [] = T.getD i [] := by
 simp only [List.getD, List.getElem?_take, if_pos hi]
theorem zRM {T : Tab} {m r c : Nat} {d : Int} (hr : r < m) (hm : m ≤ T.length) : zEa (T.take m) r c d = (zEa T r c d).take m := by
 rw [zKY, zKY, zEh, zEh, ← List.map_take, List.take_range, List.length_take, Nat.min_eq_left hm]
 refine List.map_congr_left (fun i hi => ?_)
 have hi : i < m := by simpa using hi
 unfold zCT
 rw [zL5 hr, zL5 hi, zEI hr, zEI hi]
theorem piv_cut {s : St} {m r c : Nat} (hr : r < m) (hm : m ≤ s.rows.length) : piv (cutS m s) r c = cutS m (piv s r c) := by
 unfold piv cutS zEd
 simp only [zEI hr, zRM hr hm]
 split
 ·rw [List.map_take]
 ·rfl
theorem nz_cut {T : Tab} {m i : Nat} (hi : i < m) : ∀ f c, nzN (T.take m) i f c = nzN T i f c
 | 0, c => rfl
 | f + 1, c => by rw [nzN, nzN, zEI hi, nz_cut hi f (c + 1)]
theorem zQW {s : St} {m w k : Nat} (hk : k < m) (hm : m ≤ s.rows.length) : zB7 w (cutS m s) k = cutS m (zB7 w s k) := by
 unfold zB7
 rw [show (cutS m s).basis = s.basis from rfl, show (cutS m s).rows = s.rows.take m from rfl, nz_cut hk]
 split
 ·rfl
 ·split
  ·rfl
  ·exact piv_cut hk hm
theorem zHO {s : St} {w : Nat} : ∀ k, (zBb w s k).rows.length = s.rows.length
 | 0 => rfl
 | k + 1 => by
  rw [zBb]
  unfold zB7
  split
  ·exact zHO k
  ·split
   ·exact zHO k
   ·show (zEd _ _ _ _).length = _
    rw [zKB]; exact zHO k
theorem zHr {s : St} {m w : Nat} (hm : m ≤ s.rows.length) : ∀ k, k ≤ m → zBb w (cutS m s) k = cutS m (zBb w s k)
 | 0, _ => rfl
 | k + 1, hk => by
  rw [zBb, zBb, zHr hm k (by omega)]
  exact zQW (by omega) (by rw [zHO]; exact hm)
/-- the costs of the first phase, after i rows -/
def zC8 (w N : Nat) (s : St) (i : Nat) : List Int := (List.range (N + 1)).map (fun j => -(zAC (fun q => if w ≤ s.basis.getD q 0 then at2 s.rows q j else 0) i))
def zBj (w a N : Nat) (s : St) (m k : Nat) : List Int := (List.range (N + 1)).map (fun j => if w ≤ j ∧ j < w + k then 0 else (zC8 w N s m).getD j 0)
def zDG (k : Nat → Int) (N : Nat) (s : St) (i : Nat) : List Int := (List.range (N + 1)).map (fun j => s.den * k j - zAC (fun q => k (s.basis.getD q 0) * at2 s.rows q j) i)
theorem zHb (w N : Nat) (s : St) (i : Nat) : (zC8 w N s i).length = N + 1 := by simp [zC8]
theorem zHS (k : Nat → Int) (N : Nat) (s : St) (i : Nat) : (zDG k N s i).length = N + 1 := by simp [zDG]
theorem zFr {w N : Nat} {s : St} {i j : Nat} (hj : j < N + 1) : (zC8 w N s i).getD j 0 = -(zAC (fun q => if w ≤ s.basis.getD q 0 then at2 s.rows q j else 0) i) := zBL hj
theorem zHM {k : Nat → Int} {N : Nat} {s : St} {i j : Nat} (hj : j < N + 1) : (zDG k N s i).getD j 0 = s.den * k j - zAC (fun q => k (s.basis.getD q 0) * at2 s.rows q j) i := zBL hj
theorem zOe {w N : Nat} {s : St} {i : Nat} (h : ¬ w ≤ s.basis.getD i 0) : zC8 w N s (i + 1) = zC8 w N s i := by
 unfold zC8
 refine List.map_congr_left (fun j _ => ?_)
 show -(zAC _ i + (if w ≤ s.basis.getD i 0 then at2 s.rows i j else 0)) = _
 rw [if_neg h]; omega
theorem zOZ {w N : Nat} {s : St} {i j : Nat} (h : w ≤ s.basis.getD i 0) (hj : j < N + 1) : (zC8 w N s (i + 1)).getD j 0 = (zC8 w N s i).getD j 0 - at2 s.rows i j := by
 rw [zFr hj, zFr hj]
 show -(zAC _ i + (if w ≤ s.basis.getD i 0 then at2 s.rows i j else 0)) = _
 rw [if_pos h]; omega
theorem zOi {k : Nat → Int} {N : Nat} {s : St} {i : Nat} (h : k (s.basis.getD i 0) = 0) : zDG k N s (i + 1) = zDG k N s i := by
 unfold zDG
 refine List.map_congr_left (fun j _ => ?_)
 show _ - (zAC _ i + k (s.basis.getD i 0) * at2 s.rows i j) = _
 rw [h, Int.zero_mul]; omega
theorem zOa {k : Nat → Int} {N : Nat} {s : St} {i j : Nat} (hj : j < N + 1) : (zDG k N s (i + 1)).getD j 0 = (zDG k N s i).getD j 0 + -(k (s.basis.getD i 0)) * at2 s.rows i j := by
 rw [zHM hj, zHM hj]
 show _ - (zAC _ i + k (s.basis.getD i 0) * at2 s.rows i j) = _
 rw [Int.neg_mul]; omega
theorem zC7 {l l' : List Int} {n : Nat} (h1 : l.length = n) (h2 : l'.length = n) (h : ∀ j, j < n → l.getD j 0 = l'.getD j 0) : l = l' := by
 apply List.ext_getElem (by omega)
 intro j g1 g2
 have := h j (by omega)
 rw [zDo 0 g1, zDo 0 g2] at this
 exact this
theorem zOs (w N : Nat) (s : St) : zC8 w N s 0 = List.replicate (N + 1) 0 := by
 refine zC7 (zHb ..) (by simp) (fun j hj => ?_)
 rw [zFr hj]
 show -(0 : Int) = _
 simp [List.getD, hj]
/-- a row changed from its beginning on -/
theorem chg_to {l l' : List Int} {n : Nat} (h1 : l.length = n) (h2 : l'.length = n) : chg (fun j => l'.getD j 0) 0 l n = l' := by
 rw [← h1, zEh]
 refine zC7 (n := n) (by simp [h1]) h2 (fun j hj => ?_)
 exact zBL (by omega)
theorem zLF {B : Nat} : ∀ {n : Nat} {f : Nat → Int}, (∀ i, i < n → (f i).natAbs ≤ B) → (zAC f n).natAbs ≤ n * B
 | 0, f, _ => by rw [Nat.zero_mul]; exact Nat.le_refl 0
 | n + 1, f, h => by
  have h1 := zLF (n := n) (f := f) (fun i hi => h i (by omega))
  have h2 := h n (Nat.lt_succ_self n)
  show (zAC f n + f n).natAbs ≤ _
  have h3 := Int.natAbs_add_le (zAC f n) (f n)
  rw [Nat.succ_mul]; omega
theorem art_row (p : Prog) {k : Nat} (hk : k < p.a) : ∃ i, i < p.m ∧ p.neg i = true ∧ zBm p.B i = k := by
 have key : ∀ n, k < zBm p.B n → ∃ i, i < n ∧ p.neg i = true ∧ zBm p.B i = k := by
  intro n
  induction n with
  | zero => intro h; exact absurd h (Nat.not_lt_zero k)
  | succ n ih =>
   intro h
   by_cases hn : (p.B.getD n 0).num < 0
   ·rw [zNy hn] at h
    by_cases e : zBm p.B n = k
    ·exact ⟨n, by omega, by simpa using hn, e⟩
    ·obtain ⟨i, h1, h2⟩ := ih (by omega)
     exact ⟨i, by omega, h2⟩
   ·have e : zBm p.B (n + 1) = zBm p.B n := by
     show (zAe _ _).length = _
     rw [zAe, if_neg hn]
    rw [e] at h
    obtain ⟨i, h1, h2⟩ := ih h
    exact ⟨i, by omega, h2⟩
 exact key _ hk
/-- The costs of the first phase. -/
theorem zOO (p : Prog) (i : Nat) (hi : i = p.a) : zBj (p.n + p.m) p.a p.N (zAX p) p.m i = zHN (zC6 p) p.m p.N (zAX p) := by
 subst hi
 have hN : p.N = p.n + p.m + p.a := rfl
 have hinv := zEq p
 have hd : (zAX p).den = 1 := rfl
 unfold zBj zHN
 refine List.map_congr_left (fun j hj => ?_)
 have hj : j < p.N + 1 := by simpa using hj
 rw [zFr hj, hd, Int.one_mul]
 have hk : ∀ q, q < p.m → (if p.n + p.m ≤ (zAX p).basis.getD q 0 then at2 (zAX p).rows q j else 0) = zC6 p ((zAX p).basis.getD q 0) * at2 (zAX p).rows q j := by
  intro q hq
  have := hinv.bc q hq
  unfold zC6
  by_cases h : p.n + p.m ≤ (zAX p).basis.getD q 0
  ·rw [if_pos h, if_pos ⟨h, this⟩, Int.one_mul]
  ·rw [if_neg h, if_neg (fun e => h e.1), Int.zero_mul]
 rw [zt hk]
 by_cases h : p.n + p.m ≤ j ∧ j < p.n + p.m + p.a
 ·rw [if_pos h]
  obtain ⟨k, rfl⟩ : ∃ k, j = p.n + p.m + k := ⟨j - (p.n + p.m), by omega⟩
  have hka : k < p.a := by omega
  have h1 : zC6 p (p.n + p.m + k) = 1 := by unfold zC6; rw [if_pos (by omega)]
  rw [h1]
  -- the row of this artificial unknown
  obtain ⟨i, hi, hneg, hik⟩ := art_row p hka
  have hb : (zAX p).basis.getD i 0 = p.n + p.m + k := by
   show (zBl p).getD i 0 = _
   rw [zGM p hi, if_pos hneg, hik]
  have hu : ∀ q, q < p.m → at2 (zAX p).rows q (p.n + p.m + k) = if q = i then 1 else 0 := by
   intro q hq
   have := hinv.unit q i (by omega) hi
   rw [hb, hd] at this
   exact this
  rw [zEF i hi (fun q hq hne => by rw [hu q hq, if_neg hne, Int.mul_zero]), hu i hi, if_pos rfl, hb, h1]; rfl
 ·rw [if_neg h]
  have : zC6 p j = 0 := by unfold zC6; rw [if_neg (by omega)]
  rw [this]; omega
theorem zMr (T : Tab) (L L' : List Int) : zBQ (T ++ [L]) T.length L' = T ++ [L'] := by
 unfold zBQ
 rw [List.take_left]
theorem ph1_rows (p : Prog) : (ph1 p).rows = zBK p ++ [zHN (zC6 p) p.m p.N (zAX p)] := by
 show zBQ (zBK p ++ [_]) p.m _ = _
 rw [← zCb p]
 exact zMr _ _ _
theorem zI0 (p : Prog) : cutS p.m (zAX p) = ⟨zBK p, 1, zBl p⟩ := by
 show (⟨(zBK p ++ [_]).take p.m, 1, zBl p⟩ : St) = _
 rw [← zCb p, List.take_left]
theorem mid_cut0 (p : Prog) (K : Nat) (h : p.a = 0) : cutS p.m (mid p K) = ⟨zBK p, 1, zBl p⟩ := by
 unfold mid
 rw [if_pos h]; exact zI0 p
theorem zNE (p : Prog) (hp : p.Ok) (K : Nat) (h : p.a ≠ 0) : cutS p.m (mid p K) = zBb (p.n + p.m) (cutS p.m (zCL p K)) p.m := by
 unfold mid
 rw [if_neg h]
 refine (zHr ?_ p.m (Nat.le_refl _)).symm
 rw [(zEt p hp K).1.n]; exact Nat.le_succ _
theorem ph2_rows (p : Prog) (K : Nat) : (ph2 p K).rows = (cutS p.m (mid p K)).rows ++ [zDG (zBh p) p.N (mid p K) p.m] := rfl
theorem zQq {k : Nat → Int} {N m i : Nat} {s : St} (hi : i ≤ m) : zDG k N (cutS m s) i = zDG k N s i := by
 unfold zDG
 refine List.map_congr_left (fun j _ => ?_)
 show s.den * k j - zAC (fun q => k (s.basis.getD q 0) * at2 (s.rows.take m) q j) i = _
 congr 1
 refine zt (fun q hq => ?_)
 rw [zEI (by omega)]
theorem zD3 (w a N : Nat) (s : St) (m k : Nat) : (zBj w a N s m k).length = N + 1 := by simp [zBj]
theorem zH5 {w a N : Nat} {s : St} {m k j : Nat} (hj : j < N + 1) : (zBj w a N s m k).getD j 0 = if w ≤ j ∧ j < w + k then 0 else (zC8 w N s m).getD j 0 := zBL hj
theorem zOA (w a N : Nat) (s : St) (m : Nat) : zBj w a N s m 0 = zC8 w N s m := by
 refine zC7 (zD3 ..) (zHb ..) (fun j hj => ?_)
 rw [zH5 hj, if_neg (by omega)]
theorem zO5 {w a N : Nat} {s : St} {m k : Nat} (hk : w + k < N + 1) : (zBj w a N s m k).set (w + k) 0 = zBj w a N s m (k + 1) := by
 refine zC7 (by rw [List.length_set]; exact zD3 ..) (zD3 ..) (fun j hj => ?_)
 rw [Go.Ax.Dt.getD_set, zH5 hj, zH5 hj, zD3]
 by_cases h1 : j = w + k
 ·rw [if_pos ⟨h1, hk⟩, if_pos (by omega)]
 ·rw [if_neg (fun q => h1 q.1)]
  by_cases h2 : w ≤ j ∧ j < w + k
  ·rw [if_pos h2, if_pos (by omega)]
  ·rw [if_neg h2, if_neg (by omega)]
theorem zQ0 {w N E : Nat} {s : St} {i j : Nat} (hi : i ≤ 100) (h : ∀ q, q < i → (at2 s.rows q j).natAbs ≤ 10 ^ E) (hj : j < N + 1) : ((zC8 w N s i).getD j 0).natAbs ≤ 10 ^ (E + 2) := by
 rw [zFr hj, Int.natAbs_neg]
 have h1 := zLF (B := 10 ^ E) (n := i) (f := fun q => if w ≤ s.basis.getD q 0 then at2 s.rows q j else 0) (fun q hq => by
  show (if w ≤ s.basis.getD q 0 then at2 s.rows q j else 0).natAbs ≤ _
  split
  ·exact h q hq
  ·exact Nat.zero_le _)
 refine Nat.le_trans h1 ?_
 rw [Nat.pow_add, Nat.mul_comm]
 exact Nat.mul_le_mul_left _ hi
theorem zQe {w N m i : Nat} {s : St} (hi : i ≤ m) : zC8 w N (cutS m s) i = zC8 w N s i := by
 unfold zC8
 refine List.map_congr_left (fun j _ => ?_)
 congr 1
 refine zt (fun q hq => ?_)
 show (if w ≤ s.basis.getD q 0 then at2 (s.rows.take m) q j else 0) = _
 rw [zEI (by omega)]
theorem zOd {w a N m k : Nat} {s : St} : zBj w a N (cutS m s) m k = zBj w a N s m k := by
 unfold zBj
 rw [zQe (Nat.le_refl _)]
def zEE (n N : Nat) (W : List Int) : List Int := (List.range (N + 1)).map (fun j => if j < n then W.getD j 0 else 0)
def zEb (n m a : Nat) (W : List Int) (i : Nat) : List Int := (List.range (n + m + a + 1)).map (zIe n m a W i)
theorem zHR (n N : Nat) (W : List Int) : (zEE n N W).length = N + 1 := by simp [zEE]
theorem zDY (n m a : Nat) (W : List Int) (i : Nat) : (zEb n m a W i).length = n + m + a + 1 := by simp [zEb]
theorem zPD {N : Nat} {W : List Int} : zEE 0 N W = List.replicate (N + 1) 0 := by
 refine zC7 (zHR ..) (by simp) (fun j hj => ?_)
 rw [show (zEE 0 N W).getD j 0 = 0 from (zBL hj).trans (if_neg (Nat.not_lt_zero j))]
 simp [List.getD, hj]
theorem out_base {n m a i : Nat} {W : List Int} (hi : i < m) : ((zEE n (n + m + a) W).set (n + i) 1).set (n + m + a) (W.getD n 0) = zEb n m a W i := by
 refine zC7 (n := n + m + a + 1) (by rw [List.length_set, List.length_set]; exact zHR ..) (zDY ..) (fun j hj => ?_)
 rw [Go.Ax.Dt.getD_set, Go.Ax.Dt.getD_set, List.length_set, zHR, show (zEb n m a W i).getD j 0 = zIe n m a W i j from zBL hj, show (zEE n (n + m + a) W).getD j 0 = (if j < n then W.getD j 0 else 0) from zBL hj]
 unfold zIe
 by_cases h1 : j = n + m + a
 ·rw [if_pos ⟨h1, by omega⟩, if_neg (by omega), if_neg (by omega), if_pos h1]
 ·rw [if_neg (fun q => h1 q.1)]
  by_cases h2 : j = n + i
  ·rw [if_pos ⟨h2, by omega⟩, if_neg (by omega), if_pos h2]
  ·rw [if_neg (fun q => h2 q.1)]
   by_cases h3 : j < n
   ·rw [if_pos h3, if_pos h3]
   ·rw [if_neg h3, if_neg h3, if_neg h2, if_neg h1]
theorem neg_base {n m a i : Nat} {W : List Int} : chg (fun j => -((zEb n m a W i).getD j 0)) 0 (zEb n m a W i) (n + m + a + 1) = (zEb n m a W i).map (fun x => -x) := by
 have e := zEh (fun j => -((zEb n m a W i).getD j 0)) 0 (zEb n m a W i)
 rw [zDY] at e
 rw [e]
 refine zC7 (n := n + m + a + 1) (by simp) (by rw [List.length_map]; exact zDY ..) (fun j hj => ?_)
 rw [show ((List.range (n + m + a + 1)).map (fun j => -((zEb n m a W i).getD j 0))).getD j 0 = -((zEb n m a W i).getD j 0) from zBL hj, zCe _ _ 0 _ _ (by rw [zDY]; exact hj)]
theorem row_neg {n m a i k : Nat} {W : List Int} (hk : k < a) : ((zEb n m a W i).map (fun x => -x)).set (n + m + k) 1 = zDN n m a W i true k := by
 refine zC7 (n := n + m + a + 1) (by rw [List.length_set, List.length_map]; exact zDY ..) (by simp [zDN]) (fun j hj => ?_)
 rw [Go.Ax.Dt.getD_set, List.length_map, zDY, show (zDN n m a W i true k).getD j 0 = zHD n m a W i true k j from zBL hj]
 unfold zHD
 rw [if_pos rfl]
 by_cases h : j = n + m + k
 ·rw [if_pos ⟨h, by omega⟩, if_pos h]
 ·rw [if_neg (fun q => h q.1), if_neg h, zCe _ _ 0 _ _ (by rw [zDY]; exact hj)]
  exact congrArg (fun x : Int => -x) (zBL hj)
theorem row_pos {n m a i k : Nat} {W : List Int} : zEb n m a W i = zDN n m a W i false k := rfl
theorem zKD {α : Type} (l : List α) (d : α) {i : Nat} (hi : i < l.length) : l.take (i + 1) = l.take i ++ [l.getD i d] := by
 rw [List.take_add_one, zDo d hi]
 simp [hi]
end Go.Ax.Sx
namespace Go.Proofs.YtnkealfaldjipaaGreatDoor
open Go.Ax Go.Ax.Bg Go.Ax.Rt Go.RowKit Go.Ax.Dt Go.Ax.Sx
attribute [local irreducible] Ax zBZ QOp zS zBC
set_option maxRecDepth 100000
set_option maxHeartbeats 4000000
theorem zEl (β : List Nat) (i : Nat) : (β.map (fun a : Nat => (a : Int))).getD i 0 = ((β.getD i 0 : Nat) : Int) := by
 simp only [List.getD, List.getElem?_map]
 cases β[i]? <;> rfl
theorem zNa (x : Int) : (sgn x ≤ 0) = (x ≤ 0) := by
 apply propext
 unfold sgn
 constructor
 ·intro h
  split at h
  ·omega
  ·split at h
   ·omega
   ·exact absurd h (by decide)
 ·intro h
  by_cases h1 : x < 0
  ·rw [if_pos h1]; decide
  ·rw [if_neg h1, if_pos (by omega)]; decide
theorem sgn_neg {x : Int} (h : x < 0) : sgn x = -1 := by unfold sgn; rw [if_pos h]
theorem sgn_zer {x : Int} (h : x = 0) : sgn x = 0 := by subst h; rfl
theorem sgn_pos {x : Int} (h : 0 < x) : sgn x = 1 := by unfold sgn; rw [if_neg (by omega), if_neg (by omega)]
theorem leave_ok (G : zO) (hG : OkG G) (N w n : Nat) (X : Tab) (d : Int) (β : List Nat) (cc : Nat) (E : Nat) (hn : X.length = n) (hn0 : 0 < n) (hn40 : n ≤ 1000000) (hL : ∀ x ∈ X, x.length = N + 1) (hL40 : N + 1 ≤ 1000000) (hβ : β.length ≤ n) (hc : cc < N + 1)
 (hX : ∀ i j, i < n → j < N + 1 → (at2 X i j).natAbs ≤ 10 ^ E) (hE : E ≤ 3600000) :
 zS Tryz.prog 213 [.ptr G.length 0 0, .int .i64 (cc : Nat)] (zY G none (N + 1) w n X d β []) (fun h => h < (zY G none (N + 1) w n X d β []).length)
  (fun r' H' => r' = .int .i64 (optZ (zBg X β cc N β.length)) ∧ H' = zY G none (N + 1) w n X d β []) := by
 refine zE (P := Tryz.prog) (fn := Tryz.f213) Z Z (by kernel_rfl) Z (fun c hR hfix => ?_)
 have hlen : (zY G none (N + 1) w n X d β []).length = G.length + 4 + n := by rw [zBM, hn]; rfl
 rw [hlen] at hfix
 have f1 := zBB (G := G) (F := none) (L := N + 1) (w := w) (k := n) (X := X) (d := d) (β := β) (T := [])
 have f2 := zCk (G := G) (F := none) (L := N + 1) (w := w) (k := n) (X := X) (d := d) (β := β) (T := [])
 have g1 : 0 < (zBr G.length X.length (N + 1)).len := by show 0 < X.length; omega
 refine rn0 ?_
 refine zo (by kernel_rfl) ?_
 refine zv (fuel := 0) [0, 1, 2, 3, 4, 5, 6, 7, 8, 9] [(0, .ptr G.length 0 0), (1, .int .i64 (cc : Nat))] ⟨Z, Z, trivial⟩ (by kernel_rfl) (by decide) Z Z ?_
 refine zK Z Z (zL Z) ?_
 refine zK Z Z (zd Z) ?_
 refine zK Z Z (zJ Z Z Z Z Z Z) ?_
 refine zK Z Z (zAI Z Z Z (by assumption) (by rfl)) ?_
 refine zK Z Z (zZ Z Z Z (by assumption) (by rfl) (by first | (simp only [Nat.zero_add, Int.toNat_natCast, Int.toNat_zero]; exact Z) | exact Z) (by omega)) ?_
 refine zK Z Z (zBA Z Z Z (by assumption) Z (by first | assumption | omega)) ?_
 refine zK Z Z (zA5 Z Z Z) ?_
 refine zK Z Z (zEN Z Z (by omega)) ?_
 refine zK Z Z (zi Z) ?_
 refine zK Z Z (zi Z) ?_
 refine zz ?_
 refine zX (by kernel_rfl) ?_
 repeat (refine zF ?_)
 refine zAN 6 (.int .i64 (N : Nat)) Z (AEq.of_eq (by show AV.int .i64 (((N + 1 : Nat) : Int) - 1) = _; rw [show ((N + 1 : Nat) : Int) - 1 = (N : Nat) by omega])) ?_
 have f3 := zFe (G := G) (F := none) (L := N + 1) (w := w) (k := n) (X := X) (d := d) (β := β) (T := [])
 refine rn7 ?_
 refine zh (ι := Nat) (fun i => [(0, .ptr G.length 0 0), (1, .int .i64 (cc : Nat)), (5, .int .i64 (optZ (zBg X β cc N i))), (6, .int .i64 (N : Nat)), (22, .int .i64 (β.length : Nat)), (23, .int .i64 (i : Nat))]) (fun i => zY G none (N + 1) w n X d β []) (fun i => i ≤ β.length) (fun i => β.length - i) 0 ⟨⟨Z, Z, Z, Z, Z, Z, trivial⟩, Z, Nat.zero_le _⟩ ?_
 clear f3
 intro i hi
 refine rn4 ?_
 refine zD Z (fun h => ?_) (fun h => ?_)
 ·have hi' : i < β.length := by omega
  have hin : i < n := by omega
  have lI : (X.getD i []).length = N + 1 := hL _ (zAr [] (by omega))
  have f3 := zCa (G := G) (F := none) (L := N + 1) (w := w) (k := n) (X := X) (d := d) (β := β) (T := []) (a := i) (by omega)
  have g3 : i < (zBr G.length X.length (N + 1)).len := by show i < X.length; omega
  have g4 : cc < (zC (X.getD i [])).len := by show cc < (X.getD i []).length; omega
  refine rn7 ?_
  refine zR (zY G none (N + 1) w n X d β [some ⟨120, .box [.bool false, .nil]⟩]) (by rw [zAj]; rfl) ?_
  refine zA 8 (.ptr (G.length + 4 + n) 0 0) Z (AEq.of_eq (by rw [hlen])) ?_
  refine zA 35 (zBD (at2 X i cc)) Z (AEq.of_eq Z) ?_
  have q0 := zAk (G := G) (F := none) (L := N + 1) (w := w) (k := n) (X := X) (d := d) (β := β) (T := [some ⟨120, .box [.bool false, .nil]⟩]) 0
  rw [hn] at q0
  refine zN (c' := .box (zl (at2 X i cc))) Z Z Z q0 Z Nat.zero_lt_one Z Z (fun i' j' hi' hj' => ?_) ?_
  ·rw [if_pos (Nat.lt_one_iff.1 hi')]; rfl
  refine zR (zY G none (N + 1) w n X d β [some ⟨120, .box (zl (at2 X i cc))⟩]) (by have q := zAP (G := G) (F := none) (L := N + 1) (w := w) (k := n) (X := X) (d := d) (β := β) (T := [some ⟨120, .box [.bool false, .nil]⟩]) 0 (some ⟨120, .box (zl (at2 X i cc))⟩); rw [hn] at q; exact q) ?_
  clear f1 f2 f3 q0
  apply zAM (H := zY G none (N + 1) w n X d β [some ⟨120, .box (zl (at2 X i cc))⟩]) [(0, .ptr G.length 0 0), (1, .int .i64 (cc : Nat)), (5, .int .i64 (optZ (zBg X β cc N (i + 1)))), (6, .int .i64 (N : Nat)), (22, .int .i64 (β.length : Nat)), (23, .int .i64 (i : Nat))]
  ·intro fin
   have f1 := zBB (G := G) (F := none) (L := N + 1) (w := w) (k := n) (X := X) (d := d) (β := β) (T := [some ⟨120, .box (zl (at2 X i cc))⟩])
   have f2 := zCk (G := G) (F := none) (L := N + 1) (w := w) (k := n) (X := X) (d := d) (β := β) (T := [some ⟨120, .box (zl (at2 X i cc))⟩])
   have q0 := zAk (G := G) (F := none) (L := N + 1) (w := w) (k := n) (X := X) (d := d) (β := β) (T := [some ⟨120, .box (zl (at2 X i cc))⟩]) 0
   rw [hn, Nat.add_zero] at q0
   have cs := zED (at2 X i cc)
   refine rn7 ?_
   refine zA 36 (zBD (at2 X i cc)) Z (AEq.of_eq Z) ?_
   refine zB Z Z Z cs ?_
   refine zHe ?_
   refine zD Z (fun h1 => ?_) (fun h1 => ?_)
   ·rw [zNa] at h1
    rw [zOm h1] at fin
    refine rn9 ?_
    exact fin _ ⟨Z, Z, Z, Z, Z, Z, trivial⟩
   ·rw [zNa] at h1
    refine rn4 ?_
    refine zD Z (fun h2 => ?_) (fun h2 => ?_)
    ·rw [zNh] at h2
     rw [zNL h1 h2] at fin
     skip
     refine z8 ?_
     refine zV Z ?_
     refine rn9 ?_
     exact fin _ ⟨Z, Z, Z, Z, Z, Z, trivial⟩
    ·cases hl : zBg X β cc N i with
     | none => rw [hl] at h2; exact absurd (show (-1 : Int) < 0 by decide) h2
     | some b =>
      have hb := (zGJ X β cc N i b hl).lt
      have hbn : b < n := by omega
      have hnx := zOt (T := X) (β := β) (c := cc) (e := N) h1 hl
      rw [hnx] at fin
      have lB : (X.getD b []).length = N + 1 := hL _ (zAr [] (by omega))
      have f3 := zCa (G := G) (F := none) (L := N + 1) (w := w) (k := n) (X := X) (d := d) (β := β) (T := [some ⟨120, .box (zl (at2 X i cc))⟩]) (a := i) (by omega)
      have f4 := zCa (G := G) (F := none) (L := N + 1) (w := w) (k := n) (X := X) (d := d) (β := β) (T := [some ⟨120, .box (zl (at2 X i cc))⟩]) (a := b) (by omega)
      have g3 : i < (zBr G.length X.length (N + 1)).len := by show i < X.length; omega
      have g4 : b < (zBr G.length X.length (N + 1)).len := by show b < X.length; omega
      have g5 : cc < (zC (X.getD b [])).len := by show cc < (X.getD b []).length; omega
      have g6 : N < (zC (X.getD b [])).len := by show N < (X.getD b []).length; omega
      have g7 : N < (zC (X.getD i [])).len := by show N < (X.getD i []).length; omega
      have bi := hX i cc hin hc
      have bb := hX b cc hbn hc
      have ei := hX i N hin (Nat.lt_succ_self N)
      have eb := hX b N hbn (Nat.lt_succ_self N)
      have hsz : ∀ x : Int, x.natAbs ≤ 10 ^ E → (zT x.natAbs).length ≤ 400001 := fun x hx => zFT hx (by omega)
      obtain ⟨s1, s2, s3⟩ := zKW ei bb bi eb hE
      rw [Int.mul_comm (at2 X i cc) (at2 X b N)] at s2
      have m1 := zC1 (at2 X i N) (at2 X b cc) (by have := hsz _ ei; omega) (by have := hsz _ bb; omega)
      have m2 := zC1 (at2 X b N) (at2 X i cc) (by have := hsz _ eb; omega) (by have := hsz _ bi; omega)
      have m3 := zPj (at2 X i N * at2 X b cc) (at2 X b N * at2 X i cc) s1 s2
      repeat (first | refine zF ?_ | refine z8 ?_ | refine zAh ?_)
      refine zAN 5 (.int .i64 (b : Nat)) Z (AEq.of_eq Z) ?_
      refine zo (by kernel_rfl) ?_
      refine zv (fuel := 0) [0, 1, 2, 3, 4, 5, 6, 7, 8, 9, 10, 11, 12, 13, 14, 15, 16, 17, 18, 19, 20, 21, 22, 23, 24, 25, 26, 27, 28, 29, 30, 31, 32, 33, 34] [(0, .ptr G.length 0 0), (1, .int .i64 (cc : Nat)), (5, .int .i64 (b : Nat)), (6, .int .i64 (N : Nat)), (7, .int .i64 (i : Nat)), (8, .ptr (G.length + 4 + n) 0 0), (22, .int .i64 (β.length : Nat)), (23, .int .i64 (i : Nat))] ⟨Z, Z, Z, Z, Z, Z, Z, Z, trivial⟩ (by kernel_rfl) (by decide) Z Z ?_
      refine zK Z Z (zL Z) ?_
      refine zK Z Z (zd Z) ?_
      refine zK Z Z (zJ Z Z Z Z Z Z) ?_
      refine zK Z Z (zAI Z Z Z (by assumption) (by rfl)) ?_
      refine zK Z Z (zL Z) ?_
      refine zK Z Z (zZ Z Z Z (by assumption) (by rfl) (by first | (simp only [Nat.zero_add, Int.toNat_natCast, Int.toNat_zero]; exact Z) | exact Z) (by omega)) ?_
      refine zK Z Z (zBA Z Z Z (by assumption) Z (by first | assumption | omega)) ?_
      refine zK Z Z (zL Z) ?_
      refine zK Z Z (zZ Z Z Z (by assumption) (by rfl) (by first | (simp only [Nat.zero_add, Int.toNat_natCast, Int.toNat_zero]; exact Z) | exact Z) (by omega)) ?_
      refine zK Z Z (zAD Z Z Z Z (by assumption) (by rfl) (by rfl) (by first | exact Nat.zero_lt_one | assumption | omega)) ?_
      refine zK Z Z (zL Z) ?_
      refine zK Z Z (zd Z) ?_
      refine zK Z Z (zJ Z Z Z Z Z Z) ?_
      refine zK Z Z (zAI Z Z Z (by assumption) (by rfl)) ?_
      refine zK Z Z (zL Z) ?_
      refine zK Z Z (zZ Z Z Z (by assumption) (by rfl) (by first | (simp only [Nat.zero_add, Int.toNat_natCast, Int.toNat_zero]; exact Z) | exact Z) (by omega)) ?_
      refine zK Z Z (zBA Z Z Z (by assumption) Z (by first | assumption | omega)) ?_
      refine zK Z Z (zL Z) ?_
      refine zK Z Z (zZ Z Z Z (by assumption) (by rfl) (by first | (simp only [Nat.zero_add, Int.toNat_natCast, Int.toNat_zero]; exact Z) | exact Z) (by omega)) ?_
      refine zK Z Z (zAD Z Z Z Z (by assumption) (by rfl) (by rfl) (by first | exact Nat.zero_lt_one | assumption | omega)) ?_
      refine zAc Z Z Z Z Z m1 ?_
      refine zK Z Z (zL Z) ?_
      refine zK Z Z (zd Z) ?_
      refine zK Z Z (zJ Z Z Z Z Z Z) ?_
      refine zK Z Z (zAI Z Z Z (by assumption) (by rfl)) ?_
      refine zK Z Z (zL Z) ?_
      refine zK Z Z (zZ Z Z Z (by assumption) (by rfl) (by first | (simp only [Nat.zero_add, Int.toNat_natCast, Int.toNat_zero]; exact Z) | exact Z) (by omega)) ?_
      refine zK Z Z (zBA Z Z Z (by assumption) Z (by first | assumption | omega)) ?_
      refine zK Z Z (zL Z) ?_
      refine zK Z Z (zZ Z Z Z (by assumption) (by rfl) (by first | (simp only [Nat.zero_add, Int.toNat_natCast, Int.toNat_zero]; exact Z) | exact Z) (by omega)) ?_
      refine zK Z Z (zAD Z Z Z Z (by assumption) (by rfl) (by rfl) (by first | exact Nat.zero_lt_one | assumption | omega)) ?_
      refine zK Z Z (zAD Z Z Z Z (by assumption) (by rfl) (by rfl) (by first | exact Nat.zero_lt_one | assumption | omega)) ?_
      refine zAc Z Z Z Z Z m2 ?_
      refine zAc Z Z Z Z Z m3 ?_
      refine zK Z Z (zi Z) ?_
      refine zz ?_
      refine zX (by kernel_rfl) ?_
      repeat (refine zF ?_)
      have f5 := zFe (G := G) (F := none) (L := N + 1) (w := w) (k := n) (X := X) (d := d) (β := β) (T := [some ⟨120, .box (zl (at2 X i cc))⟩])
      have g8 : i < (β.map (fun a : Nat => (a : Int))).length := by rw [List.length_map]; exact hi'
      have g9 : b < (β.map (fun a : Nat => (a : Int))).length := by rw [List.length_map]; omega
      clear f2 f3 f4 m1 m2 m3
      rcases Int.lt_trichotomy (at2 X i N * at2 X b cc - at2 X b N * at2 X i cc) 0 with hD | hD | hD
      ·rw [if_pos (.inl (by omega))] at fin
       refine zAN 9 (.int .i64 (-1)) Z (AEq.of_eq (by rw [sgn_neg hD])) ?_
       repeat (refine z8 ?_)
       refine zo (by kernel_rfl) ?_
       refine zv (fuel := 0) [0, 1, 2, 3, 4, 5, 6, 7, 8, 9, 10, 11, 12, 13, 14, 15, 16, 17, 18, 19, 20, 21, 22] [(0, .ptr G.length 0 0), (1, .int .i64 (cc : Nat)), (5, .int .i64 (b : Nat)), (6, .int .i64 (N : Nat)), (7, .int .i64 (i : Nat)), (8, .ptr (G.length + 4 + n) 0 0), (22, .int .i64 (β.length : Nat)), (23, .int .i64 (i : Nat)), (9, .int .i64 (-1))] ⟨Z, Z, Z, Z, Z, Z, Z, Z, Z, trivial⟩ (by kernel_rfl) (by decide) Z Z ?_
       refine zK Z Z (zL Z) ?_
       refine zK Z Z (zEZ Z Z) ?_
       refine zK Z Z (zL Z) ?_
       refine zAA Z Z Z Z Z ?_
       refine zAA Z Z Z Z Z ?_
       refine zAA Z Z Z Z Z ?_
       refine zBP Z Z Z Z ?_
       refine zBP Z Z Z Z ?_
       refine zBP Z Z Z Z ?_
       refine zBP Z Z Z Z ?_
       refine zBP Z Z Z Z ?_
       refine zBP Z Z Z Z ?_
       refine zBP Z Z Z Z ?_
       refine zBP Z Z Z Z ?_
       refine zBP Z Z Z Z ?_
       refine zBP Z Z Z Z ?_
       refine zBP Z Z Z Z ?_
       refine zBP Z Z Z Z ?_
       refine zBP Z Z Z Z ?_
       refine zBP Z Z Z Z ?_
       refine zBP Z Z Z Z ?_
       refine zAA Z Z Z Z Z ?_
       refine zK Z Z (zAb Z Z) ?_
       refine zz ?_
       refine zX (by kernel_rfl) ?_
       repeat (first | refine zF ?_ | refine zBU rfl ?_)
       refine zV Z ?_
       refine rn9 ?_
       exact fin _ ⟨Z, Z, Z, Z, Z, Z, trivial⟩
      ·refine zAN 9 (.int .i64 0) Z (AEq.of_eq (by rw [sgn_zer hD])) ?_
       repeat (refine z8 ?_)
       refine zo (by kernel_rfl) ?_
       refine zv (fuel := 0) [0, 1, 2, 3, 4, 5, 6, 7, 8, 9, 10, 11, 12, 13, 14, 15, 16, 17, 18, 19, 20, 21, 22] [(0, .ptr G.length 0 0), (1, .int .i64 (cc : Nat)), (5, .int .i64 (b : Nat)), (6, .int .i64 (N : Nat)), (7, .int .i64 (i : Nat)), (8, .ptr (G.length + 4 + n) 0 0), (22, .int .i64 (β.length : Nat)), (23, .int .i64 (i : Nat)), (9, .int .i64 (0))] ⟨Z, Z, Z, Z, Z, Z, Z, Z, Z, trivial⟩ (by kernel_rfl) (by decide) Z Z ?_
       refine zK Z Z (zL Z) ?_
       refine zK Z Z (zEZ Z Z) ?_
       refine zK Z Z (zL Z) ?_
       refine zAL Z Z Z Z (zL Z) ?_
       refine zAL Z Z Z Z (zDV Z Z) ?_
       refine zAL Z Z Z Z (zL Z) ?_
       refine zAL Z Z Z Z (zL Z) ?_
       refine zAL Z Z Z Z (zd Z) ?_
       refine zAL Z Z Z Z (zJ Z Z Z Z Z Z) ?_
       refine zAL Z Z Z Z (zAI Z Z Z (by assumption) (by rfl)) ?_
       refine zAL Z Z Z Z (zL Z) ?_
       refine zAL Z Z Z Z (zZ Z Z Z (by assumption) (by rfl) (by first | (simp only [Nat.zero_add, Int.toNat_natCast, Int.toNat_zero]; exact Z) | exact Z) (by omega)) ?_
       refine zAL Z Z Z Z (zG7 Z Z Z (by assumption) (by first | assumption | omega)) ?_
       refine zAL Z Z Z Z (zL Z) ?_
       refine zAL Z Z Z Z (zd Z) ?_
       refine zAL Z Z Z Z (zJ Z Z Z Z Z Z) ?_
       refine zAL Z Z Z Z (zAI Z Z Z (by assumption) (by rfl)) ?_
       refine zAL Z Z Z Z (zL Z) ?_
       refine zAL Z Z Z Z (zZ Z Z Z (by assumption) (by rfl) (by first | (simp only [Nat.zero_add, Int.toNat_natCast, Int.toNat_zero]; exact Z) | exact Z) (by omega)) ?_
       refine zAL Z Z Z Z (zG7 Z Z Z (by assumption) (by first | assumption | omega)) ?_
       refine zAL Z Z Z Z (zEZ Z Z) ?_
       refine zAL Z Z Z Z (zAb Z Z) ?_
       refine zK Z Z (zAb Z Z) ?_
       refine zz ?_
       refine zX (by kernel_rfl) ?_
       repeat (refine zF ?_)
       refine zD Z (fun h3 => ?_) (fun h3 => ?_)
       ·rw [zEl, zEl] at h3
        rw [if_pos (.inr ⟨by omega, by omega⟩)] at fin
        skip
        refine zV Z ?_
        refine rn9 ?_
        exact fin _ ⟨Z, Z, Z, Z, Z, Z, trivial⟩
       ·rw [zEl, zEl] at h3
        rw [if_neg (by unfold zH4; omega)] at fin
        refine rn9 ?_
        exact fin _ ⟨Z, Z, Z, Z, Z, Z, trivial⟩
      ·rw [if_neg (by unfold zH4; omega)] at fin
       refine zAN 9 (.int .i64 1) Z (AEq.of_eq (by rw [sgn_pos hD])) ?_
       repeat (refine z8 ?_)
       refine zo (by kernel_rfl) ?_
       refine zv (fuel := 0) [0, 1, 2, 3, 4, 5, 6, 7, 8, 9, 10, 11, 12, 13, 14, 15, 16, 17, 18, 19, 20, 21, 22] [(0, .ptr G.length 0 0), (1, .int .i64 (cc : Nat)), (5, .int .i64 (b : Nat)), (6, .int .i64 (N : Nat)), (7, .int .i64 (i : Nat)), (8, .ptr (G.length + 4 + n) 0 0), (22, .int .i64 (β.length : Nat)), (23, .int .i64 (i : Nat)), (9, .int .i64 (1))] ⟨Z, Z, Z, Z, Z, Z, Z, Z, Z, trivial⟩ (by kernel_rfl) (by decide) Z Z ?_
       refine zK Z Z (zL Z) ?_
       refine zK Z Z (zEZ Z Z) ?_
       refine zK Z Z (zL Z) ?_
       refine zAL Z Z Z Z (zL Z) ?_
       refine zAL Z Z Z Z (zDV Z Z) ?_
       refine zAL Z Z Z Z (zL Z) ?_
       refine zAA Z Z Z Z Z ?_
       refine zAA Z Z Z Z Z ?_
       refine zAA Z Z Z Z Z ?_
       refine zAA Z Z Z Z Z ?_
       refine zAA Z Z Z Z Z ?_
       refine zAA Z Z Z Z Z ?_
       refine zAA Z Z Z Z Z ?_
       refine zAA Z Z Z Z Z ?_
       refine zAA Z Z Z Z Z ?_
       refine zAA Z Z Z Z Z ?_
       refine zAA Z Z Z Z Z ?_
       refine zAA Z Z Z Z Z ?_
       refine zAA Z Z Z Z Z ?_
       refine zAA Z Z Z Z Z ?_
       refine zAA Z Z Z Z Z ?_
       refine zAL Z Z Z Z (zAb Z Z) ?_
       refine zK Z Z (zAb Z Z) ?_
       refine zz ?_
       refine zX (by kernel_rfl) ?_
       refine rn9 ?_
       exact fin _ ⟨Z, Z, Z, Z, Z, Z, trivial⟩
  ·refine zA3 (zY G none (N + 1) w n X d β []) [some ⟨120, .box (zl (at2 X i cc))⟩] [(0, .ptr G.length 0 0), (1, .int .i64 (cc : Nat)), (5, .int .i64 (optZ (zBg X β cc N (i + 1)))), (6, .int .i64 (N : Nat)), (22, .int .i64 (β.length : Nat)), (23, .int .i64 (i : Nat))] (by rw [zAj]; rfl) ⟨Z, Z, Z, Z, Z, Z, trivial⟩ (fun h hh => by rw [hfix] at hh; rw [hlen]; exact hh)
    (by rw [hlen]; exact zCQ hG _ (by omega) (fun o ho => by cases ho) (fun o ho => by cases ho)) (by rw [hlen]; simp [zCl, zBR]; omega) ?_
   refine rn3 ?_
   exact zM ⟨i + 1, by omega, by omega, ⟨Z, Z, Z, Z, Z, Z, trivial⟩, Z⟩
 ·have hie : i = β.length := by omega
  subst hie
  refine rn5 ?_
  exact zI hR Z ⟨Z, Z⟩
theorem zNw (x : Int) : (0 ≤ sgn x) = (¬ x < 0) := by
 apply propext
 unfold sgn
 constructor
 ·intro h
  split at h
  ·exact absurd h (by decide)
  ·assumption
 ·intro h
  rw [if_neg h]
  split <;> decide
/-- the tableau of a state -/
abbrev stH (G : zO) (N w n : Nat) (t : St) : zO := zY G none (N + 1) w n t.rows t.den t.basis []
theorem run_ok (G : zO) (hG : OkG G) (m N w : Nat) (M : Tab) (s : St) (hi : Inv m N M s) (hf : zDf m N s) (hw : w ≤ N) (K : Nat) (hK : zB1 m N w (zAn m N w s K) = none) (E : Nat) (hm : m + 1 ≤ 1000000) (hN : N + 1 ≤ 1000000)
 (hB : ∀ t, Inv m N M t → (∀ i j, i < m + 1 → j < N + 1 → (at2 t.rows i j).natAbs ≤ 10 ^ E) ∧ t.den.natAbs ≤ 10 ^ E) (hE : E ≤ 3600000) :
 zS Tryz.prog 169 [.ptr G.length 0 0] (stH G N w (m + 1) s) (fun h => h < (stH G N w (m + 1) s).length)
  (fun r' H' => r' = .int .i64 (resZ m w (zAn m N w s K)) ∧ H' = stH G N w (m + 1) (zAn m N w s K)) := by
 refine zE (P := Tryz.prog) (fn := Tryz.f169) Z Z (by kernel_rfl) Z (fun c hR hfix => ?_)
 have hlen : ∀ t : St, t.rows.length = m + 1 → (stH G N w (m + 1) t).length = G.length + 4 + (m + 1) := fun t ht => by rw [zBM, ht]; rfl
 rw [hlen s hi.n] at hfix
 refine rn1 ?_
 refine zh (ι := Nat) (fun k => [(0, .ptr G.length 0 0)]) (fun k => stH G N w (m + 1) (zAn m N w s k)) (fun k => k ≤ K) (fun k => K - k) 0 ⟨⟨Z, trivial⟩, Z, Nat.zero_le _⟩ ?_
 intro k hk
 obtain ⟨hi', hf'⟩ := zEs hi hf hw k
 obtain ⟨hB1, hB2⟩ := hB _ hi'
 have hnx := fun s' => @zQu m N w s k s'
 have hen := @iter_end m N w s k K
 have hkK : zB1 m N w (zAn m N w s k) ≠ none → k ≠ K := fun h e => h (by rw [e]; exact hK)
 generalize zAn m N w s k = t at *
 have hn := hi'.n
 have hβ := hi'.b
 have hrow := hi'.row
 have hd : t.den ≠ 0 := by have := hi'.dp; omega
 have lm : (t.rows.getD m []).length = N + 1 := hrow _ (zAr [] (by omega))
 have f1 := zBB (G := G) (F := none) (L := N + 1) (w := w) (k := m + 1) (X := t.rows) (d := t.den) (β := t.basis) (T := [])
 have f2 := zCk (G := G) (F := none) (L := N + 1) (w := w) (k := m + 1) (X := t.rows) (d := t.den) (β := t.basis) (T := [])
 have f3 := zCa (G := G) (F := none) (L := N + 1) (w := w) (k := m + 1) (X := t.rows) (d := t.den) (β := t.basis) (T := []) (a := m) (by omega)
 refine rn1 ?_
 refine zo (by kernel_rfl) ?_
 refine zv (fuel := 0) [0, 1, 2, 3, 4, 5, 6, 7, 8, 9, 10, 11, 12] [(0, .ptr G.length 0 0)] ⟨Z, trivial⟩ (by kernel_rfl) (by decide) Z Z ?_
 refine zK Z Z (zL Z) ?_
 refine zK Z Z (zd Z) ?_
 refine zK Z Z (zJ Z Z Z Z Z Z) ?_
 refine zK Z Z (zAI Z Z Z (by assumption) (by rfl)) ?_
 refine zK Z Z (zL Z) ?_
 refine zK Z Z (zd Z) ?_
 refine zK Z Z (zJ Z Z Z Z Z Z) ?_
 refine zK Z Z (zAI Z Z Z (by assumption) (by rfl)) ?_
 refine zK Z Z (zA5 Z Z Z) ?_
 refine zK Z Z (zEN Z Z (by omega)) ?_
 refine zK Z Z (zZ Z Z Z (by assumption) (by rfl) (by first | (simp only [Nat.zero_add, Int.toNat_natCast, Int.toNat_zero]; exact Z) | exact Z) (by omega)) ?_
 refine zK Z Z (zBA Z Z Z (by assumption) Z (by first | assumption | omega)) ?_
 refine zK Z Z (zi Z) ?_
 refine zz ?_
 refine zX (by kernel_rfl) ?_
 repeat (refine zF ?_)
 refine zAN 3 (.sl (G.length + 4 + m) 0 (N + 1)) Z (AEq.of_eq (by show AV.sl (G.length + 4 + (((m + 1 : Nat) : Int) - 1).toNat) 0 (N + 1) = _; rw [show (((m + 1 : Nat) : Int) - 1).toNat = m by omega])) ?_
 skip
 refine z8 ?_
 apply zAM (H := stH G N w (m + 1) t) [(0, .ptr G.length 0 0), (4, .int .i64 (zCX m w t : Nat))]
 ·intro fin
  refine rn1 ?_
  refine zh (ι := Nat) (fun a => [(0, .ptr G.length 0 0), (3, .sl (G.length + 4 + m) 0 (N + 1)), (4, .int .i64 (a : Nat))]) (fun _ => stH G N w (m + 1) t) (fun a => a ≤ w ∧ zCW t.rows m (w - a) a = zCX m w t) (fun a => w - a) 0 ⟨⟨Z, Z, Z, trivial⟩, Z, Nat.zero_le _, Z⟩ ?_
  rintro a ⟨ha, hcol⟩
  by_cases haw : a < w
  ·have g1 : a < (zC (t.rows.getD m [])).len := by show a < (t.rows.getD m []).length; omega
   have cs := zED (at2 t.rows m a)
   refine rn15 ?_
   refine zA 24 (.bool true) Z (AEq.of_eq (by rw [decide_eq_true (by omega)])) ?_
   refine rn7 ?_
   refine zA 28 (zBD (at2 t.rows m a)) Z (AEq.of_eq Z) ?_
   refine zB Z Z Z cs ?_
   repeat (first | refine zP ?_ | refine zF ?_ | refine zAo rfl rfl ?_ | refine zG (zIE rfl rfl) ?_ | refine zG (zAb rfl rfl) ?_)
   refine zD Z (fun h1 => ?_) (fun h1 => ?_)
   ·rw [zNw] at h1
    refine rn5 ?_
    exact zM ⟨a + 1, ⟨by omega, by rw [← hcol, show w - a = (w - (a + 1)) + 1 by omega, enter_go h1]⟩, by omega, ⟨Z, Z, Z, trivial⟩, Z⟩
   ·rw [zNw] at h1
    rw [zO3 (by omega)] at hcol
    refine rn9 ?_
    exact fin _ ⟨Z, by rw [← hcol]; rfl, trivial⟩
  ·have haw' : a = w := by omega
   subst haw'
   rw [Nat.sub_self] at hcol
   have hcol : a = zCX m a t := hcol
   refine rn15 ?_
   refine zA 24 (.bool false) Z (AEq.of_eq (by rw [decide_eq_false (by omega)])) ?_
   refine rn9 ?_
   exact fin _ ⟨Z, by rw [← hcol]; rfl, trivial⟩
 ·have hcl : zCX m w t ≤ w := Nat.le_trans (zE7 t.rows m w 0).2.1 (by omega)
  refine rn15 ?_
  refine zD Z (fun h1 => ?_) (fun h1 => ?_)
  ·have h1' : zCX m w t = w := by omega
   have e := hen (zQd h1') hk
   refine rn6 ?_
   exact zI hR Z ⟨by rw [e]; unfold resZ; rw [if_pos h1']; rfl, by rw [e]⟩
  ·have h1' : zCX m w t ≠ w := by omega
   have cl := leave_ok G hG N w (m + 1) t.rows t.den t.basis (zCX m w t) E hn (by omega) hm hrow hN (by omega) (by omega) hB1 hE
   rw [hβ] at cl
   refine rn1 ?_
   refine zCd Z Z Z cl (fun _ h => h) (fun _ h => h) ?_
   rintro r' H' ⟨rfl, rfl⟩
   refine rn4 ?_
   refine zD Z (fun h2 => ?_) (fun h2 => ?_)
   ·rw [zNh] at h2
    have e := hen (zQ2 h1' h2) hk
    refine rn6 ?_
    exact zI hR Z ⟨by rw [e]; unfold resZ; rw [if_neg h1']; rfl, by rw [e]⟩
   ·cases hl : zBg t.rows t.basis (zCX m w t) N m with
    | none => rw [hl] at h2; exact absurd (show (-1 : Int) < 0 by decide) h2
    | some r =>
     have hs := step_go h1' hl
     have hr := (zGJ _ _ _ _ _ _ hl).lt
     have hkk := hkK (by rw [hs]; exact fun q => by cases q)
     have e := hnx _ hs
     have cp := zNx G hG (N + 1) w (m + 1) t.rows t.den t.basis r (zCX m w t) E hn hm hrow hN (by omega) (by omega) (by omega) hd hB1 hB2 hE
     refine rn1 ?_
     refine zCd Z Z Z cp (fun _ h => h) (fun _ h => h) ?_
     rintro r' H' ⟨rfl, rfl⟩
     refine rn5 ?_
     exact zM ⟨k + 1, by omega, by omega, ⟨Z, trivial⟩, by rw [e]; rfl⟩
end Go.Proofs.YtnkealfaldjipaaGreatDoor
namespace Go.Ax
variable [Pins]
open Go.RowKit
theorem zS.cutR {P : Program} {f : FuncId} {args : List AV} {H : zO} {fix : Nat → Prop} {K K' : AV → zO → Prop} (hc : zS P f args H fix K)
 (hK : ∀ r H', K r H' → ∃ H0 H1, H' = H0 ++ H1 ∧ (∀ h, fix h → h < H0.length) ∧ (∀ (h : Nat) (o : AObj), H0[h]? = some (some o) → zBu H0.length o.c) ∧ zBR H0.length r = true ∧ K' r H0) : zS P f args H fix K' := by
 refine ⟨hc.1, fun w σ S vals h0 h1 h2 h3 => Calls.mono (hc.2 w σ S vals h0 h1 h2 h3) fun e w' he => ?_⟩
 obtain ⟨v, r, σ', S', H', g1, g2, g3, g4, g5⟩ := he
 obtain ⟨H0, H1, rfl, hf, hbH, hbr, hk⟩ := hK _ _ g5
 have hs : ∀ h, h < H0.length → cutσ H0.length σ' h = σ' h := fun h hl => if_pos hl
 have hget : ∀ {h : Nat} {o : AObj}, H0[h]? = some (some o) → h < H0.length ∧ (H0 ++ H1)[h]? = some (some o) := by
  intro h o ho
  have hl : h < H0.length := (List.getElem?_eq_some_iff.1 ho).1
  exact ⟨hl, by rw [List.getElem?_append_left hl]; exact ho⟩
 refine ⟨v, r, cutσ H0.length σ', S', H0, g1, ⟨fun h o ho => ?_, fun h h' o o' b s C s' C' q1 q2 e1 e2 => ?_, g2.small, fun h hl => if_neg (by omega)⟩, g3.cutv hbr _ hs, ⟨g4.os, g4.output, g4.tape, g4.size, g4.block, g4.S1, g4.S2, fun h hh => by rw [hs h (hf h hh)]; exact g4.fixed h hh, hf, fun h o b s C q e => ?_⟩, hk⟩
 ·obtain ⟨hl, ho'⟩ := hget ho
  rw [hs h hl]
  rcases g2.live h o ho' with g | ⟨b, C, cur, k1, k2, k3, k4, k5, k6, k7⟩
  ·exact .inl g
  ·refine .inr ⟨b, C, cur, k1, k2.cutv (fun ks vs hc => (hbH h o ho).mp hc) hs, k3, k4, k5, k6, fun i j hi hj => ?_⟩
   obtain ⟨v, m1, m2, m3⟩ := k7 i j hi hj
   exact ⟨v, m1, m2.cutv ((hbH h o ho).row i j hi hj) _ hs, m3⟩
 ·obtain ⟨hl, ho⟩ := hget q1
  obtain ⟨hl', ho'⟩ := hget q2
  rw [hs h hl] at e1
  rw [hs h' hl'] at e2
  exact g2.dist h h' o o' b s C s' C' ho ho' e1 e2
 ·obtain ⟨hl, ho⟩ := hget q
  rw [hs h hl] at e
  exact g4.own h o b s C ho e
/-- The result lies in a cell that is known by a fact. -/
theorem zGS {P : Program} {fr : Fr} {H : zO} {t h : Nat} {ty oty : TypeId} {l : List AV} {fs : Array Field} {i : TypeInfo} (hl : look t fr = some (.ptr h 0 0)) (hh : H[h]? = some (some ⟨oty, .box l⟩)) (hu : P.underlying ty = some (.struct fs)) (hi : P.info? ty = some i) (hsz : Nat.beq i.size l.length = true) :
 zG1 P fr H [.cell t ty] = some [.agg l] := by
 have _p := ‹Pins›
 simp only [zG1, zNu, hl, hh, hu, hi, hsz]
 rfl
/-- A call that reads the own memory and leaves it as it is. -/
theorem px_c {P : Program} {fn : Func} {c : Ctx} {H : zO} {all : Array Oper} {K0 : Fr} {i : Nat} {r : List Nat} {st : Steps} {G : Steps → Prop} {d : Nat} {g : Operand} {args : List Operand} {ats : Array TypeId} {ty : TypeId} {pos : String} {after : Array Edge} {f : FuncId} {caps ags ags' : List AV} {v : AV} {K : Fr} (hi : all[i]? = some ⟨some d, .call { callee := .value g, args := args.toArray, argTypes := ats }, ty, pos, after, none⟩)
 (hK : zFp st K0 ⟨some d, .call { callee := .value g, args := args.toArray, argTypes := ats }, ty, pos, after, none⟩ = K) (hg : ev K g = some (.fn f caps)) (ha : evs K args = some ags) (has : ags ++ caps = ags') (hcall : zS P f ags' H (fun h => h < H.length) (fun r' H' => r' = v ∧ H' = H))
 (h : zEA P fn c H all K0 r ((i, d, v) :: st) G) : zEA P fn c H all K0 (i :: r) st G :=
 zJz hi (hK ▸ fun k fr hk h2 => zCd (zIq hk hg) (zIx hk ha) has hcall (fun _ h => h) (fun _ h => h) (fun r H' e => by obtain ⟨rfl, rfl⟩ := e; exact h2)) h
end Go.Ax
namespace Go.Proofs.YtnkealfaldjipaaGreatDoor
open Go.Ax Go.Ax.Bg Go.Ax.Rt Go.RowKit Go.Ax.Dt Go.Ax.Sx
attribute [local irreducible] Ax zBZ QOp zS zBC
set_option maxRecDepth 100000
set_option maxHeartbeats 4000000
section
variable {G : zO} {F : Option AObj} {L w k : Nat} {X : Tab} {d : Int} {β : List Nat} {T : zO}
theorem zGC (o : Option AObj) : (zY G F L w k X d β (T ++ [o]))[G.length + 4 + X.length + T.length]? = some o := by
 rw [zAk, List.getElem?_append_right (Nat.le_refl _), Nat.sub_self]; rfl
theorem zCq (o o' : Option AObj) : (zY G F L w k X d β (T ++ [o])).set (G.length + 4 + X.length + T.length) o' = zY G F L w k X d β (T ++ [o']) := by
 rw [zAP]
 congr 1
 rw [List.set_append_right _ _ (Nat.le_refl _), Nat.sub_self]; rfl
end
theorem q_ok (G : zO) (hG : OkG G) (L w k : Nat) (X : Tab) (d : Int) (β : List Nat) (T : zO) (hT : ∀ o : AObj, some o ∈ T → zBu (zY G none L w k X d β T).length o.c) (x : Int) (hd : d ≠ 0) (hx : (zT x.natAbs).length ≤ 1000000) (hdl : (zT d.natAbs).length ≤ 1000000) :
 zS Tryz.prog 210 [.ptr G.length 0 0, zBD x] (zY G none L w k X d β T) (fun h => h < (zY G none L w k X d β T).length)
  (fun r' H' => r' = qA (Rat.divInt x d) ∧ H' = zY G none L w k X d β T) := by
 have hlen : (zY G none L w k X d β T).length = G.length + 4 + X.length + T.length := zBM
 refine zS.cutR (K := fun r' H' => r' = qA (Rat.divInt x d) ∧ ∃ H1, H' = zY G none L w k X d β T ++ H1) ?_ (fun r' H' h => ?_)
 ·refine zE (P := Tryz.prog) (fn := Tryz.f210) Z Z (by kernel_rfl) Z (fun c hR hfix => ?_)
  have cf := zIV x d hd hx hdl
  refine rn6 ?_
  refine zAV (zY G none L w k X d β (T ++ [some ⟨120, .box (zl x)⟩] ++ [some ⟨122, .box [.bool false, .nil, .nil]⟩])) (by rw [zAj, zAj]; rfl) ?_
  refine zAN 3 (.ptr (G.length + 4 + X.length + T.length) 0 0) Z (AEq.of_eq (by rw [hlen])) ?_
  refine zAN 4 (.ptr (G.length + 4 + X.length + (T ++ [some (⟨120, .box (zl x)⟩ : AObj)]).length) 0 0) Z (AEq.of_eq (by rw [zAj, zBM]; rfl)) ?_
  have f1 := zBB (G := G) (F := none) (L := L) (w := w) (k := k) (X := X) (d := d) (β := β) (T := T ++ [some ⟨120, .box (zl x)⟩] ++ [some ⟨122, .box [.bool false, .nil, .nil]⟩])
  have f2 := zAk (G := G) (F := none) (L := L) (w := w) (k := k) (X := X) (d := d) (β := β) (T := T ++ ([some ⟨120, .box (zl x)⟩] ++ [some ⟨122, .box [.bool false, .nil, .nil]⟩])) T.length
  rw [List.getElem?_append_right (Nat.le_refl _), Nat.sub_self] at f2
  rw [← List.append_assoc] at f2
  have f3 := zGC (G := G) (F := none) (L := L) (w := w) (k := k) (X := X) (d := d) (β := β) (T := T ++ [some ⟨120, .box (zl x)⟩]) (some ⟨122, .box [.bool false, .nil, .nil]⟩)
  have f2 : (zY G none L w k X d β (T ++ [some ⟨120, .box (zl x)⟩] ++ [some ⟨122, .box [.bool false, .nil, .nil]⟩]))[G.length + 4 + X.length + T.length]? = some (some (⟨120, .box (zl x)⟩ : AObj)) := f2
  refine zo (by kernel_rfl) ?_
  refine zv (fuel := 1) [0, 1, 2, 3, 4, 5] [(0, .ptr G.length 0 0), (3, .ptr (G.length + 4 + X.length + T.length) 0 0), (4, .ptr (G.length + 4 + X.length + (T ++ [some (⟨120, .box (zl x)⟩ : AObj)]).length) 0 0)] ⟨Z, Z, Z, trivial⟩ (by kernel_rfl) (by decide) Z Z ?_
  refine zK Z Z (zAD Z Z Z Z (by assumption) (by rfl) (by rfl) (by first | exact Nat.zero_lt_one | assumption | omega)) ?_
  refine zK Z Z (zL Z) ?_
  refine zK Z Z (zd Z) ?_
  refine zK Z Z (zJ Z Z Z Z Z Z) ?_
  refine zK Z Z (zCu Z Z Z Z (by assumption) (by rfl) (by rfl) (by first | exact Nat.zero_lt_one | assumption | omega)) ?_
  refine zAc Z Z Z Z Z cf ?_
  refine zz ?_
  unfold qA
  refine zH (is := [6]) (by kernel_rfl) (by simp) Z ⟨fun o ho => ?_, trivial⟩
  all_goals (cases ho)
  refine zN (c' := .box (zq (Rat.divInt x d))) Z Z Z f3 Z Nat.zero_lt_one Z Z (fun i' j' hi' hj' => ?_) ?_
  ·rw [if_pos (Nat.lt_one_iff.1 hi')]; rfl
  refine zR (zY G none L w k X d β (T ++ [some ⟨120, .box (zl x)⟩] ++ [some ⟨122, .box (zq (Rat.divInt x d))⟩])) (zCq _ _) ?_
  have f4 := zGC (G := G) (F := none) (L := L) (w := w) (k := k) (X := X) (d := d) (β := β) (T := T ++ [some ⟨120, .box (zl x)⟩]) (some ⟨122, .box (zq (Rat.divInt x d))⟩)
  refine rn1 ?_
  refine zX (by kernel_rfl) ?_
  refine rn0 ?_
  exact zI hR (zGS Z f4 Z Z Z) ⟨Z, _, by rw [zAj, List.append_assoc]⟩
 ·obtain ⟨rfl, H1, rfl⟩ := h
  exact ⟨_, H1, rfl, fun h hh => hh, zCQ hG _ (by omega) (fun o ho => by cases ho) hT, rfl, rfl, rfl⟩
end Go.Proofs.YtnkealfaldjipaaGreatDoor
namespace Go.Proofs.YtnkealfaldjipaaGreatDoor
open Go.Ax Go.Ax.Bg Go.Ax.Rt Go.RowKit Go.Ax.Dt Go.Ax.Sx
set_option maxRecDepth 100000
set_option maxHeartbeats 4000000
/-- A row of zeros. -/
theorem zHy {A : zO} {t : TypeId} {n : Nat} : ∀ (h : Nat) (o' : AObj), (A ++ [some ⟨t, zC (List.replicate n 0)⟩])[h]? = some (some o') → ∃ o : AObj, (A ++ [some ⟨t, zBN n [.bool false, .nil]⟩])[h]? = some (some o) ∧ o'.ty = o.ty ∧ o'.c.len = o.c.len ∧ o'.c.kd = o.c.kd ∧ ∀ i j, i < o.c.len → j < o.c.sz → AEq (o.c.at i j) (o'.c.at i j) := by
 intro h o' ho'
 by_cases hl : h < A.length
 ·rw [List.getElem?_append_left hl] at ho'
  refine ⟨o', by rw [List.getElem?_append_left hl]; exact ho', Z, Z, Z, fun i j _ _ => AEq.of_eq Z⟩
 ·have hh : h = A.length := by
   have h1 := (List.getElem?_eq_some_iff.1 ho').1
   rw [List.length_append] at h1
   have h1 : h < A.length + 1 := h1
   omega
  subst hh
  rw [List.getElem?_append_right (Nat.le_refl _), Nat.sub_self] at ho'
  cases ho'
  refine ⟨⟨t, zBN n [.bool false, .nil]⟩, by rw [List.getElem?_append_right (Nat.le_refl _), Nat.sub_self]; rfl, Z, ?_, Z, fun i j hi hj => ?_⟩
  ·simp [zDg, Cells.len, zBN]
  ·have hi : i < n := by simpa [Cells.len, zBN] using hi
   have hj : j < 2 := hj
   show AEq _ ((zl ((List.replicate n (0 : Int)).getD i 0)).getD j .any)
   rw [zDo 0 (by simpa using hi), List.getElem_replicate]
   match j, hj with
   | 0, _ => exact AEq.of_eq rfl
   | 1, _ => exact AEq.natNil
theorem ze.set {H H' : zO} (hs : ze H H') (h : Nat) {x x' : Option AObj} (hx : ∀ o', x' = some o' → ∃ o, x = some o ∧ o'.ty = o.ty ∧ CEq o.c o'.c) : ze (H.set h x) (H'.set h x') := by
 refine ⟨by rw [List.length_set, List.length_set, hs.1], fun i o' ho' => ?_⟩
 rw [List.getElem?_set] at ho' ⊢
 by_cases e : h = i
 ·rw [if_pos e] at ho' ⊢
  split at ho'
  ·rename_i hl
   rw [if_pos (by rw [← hs.1]; exact hl)]
   cases ho'
   obtain ⟨o, h1, h2⟩ := hx o' rfl
   exact ⟨o, by rw [h1], h2⟩
  ·cases ho'
 ·rw [if_neg e] at ho' ⊢
  exact hs.2 i o' ho'
theorem ze.trans' {A B C : zO} (h1 : ze A B) (h2 : ze B C) : ze A C := by
 refine ⟨h2.1.trans h1.1, fun h o ho => ?_⟩
 obtain ⟨o1, g1, g2, g3⟩ := h2.2 h o ho
 obtain ⟨o2, k1, k2, k3⟩ := h1.2 h o1 g1
 refine ⟨o2, k1, g2.trans k2, ?_⟩
 obtain ⟨a1, a2, a3⟩ := k3
 obtain ⟨b1, b2, b3⟩ := g3
 exact ⟨b1.trans a1, b2.trans a2, fun i j hi hj => (b3 i j (by rw [a1]; exact hi) (by rw [zLl a2]; exact hj)).trans (a3 i j hi hj)⟩
/-- The tableau while its rows are moved. -/
abbrev zKc (G : zO) (L w : Nat) (X : Tab) (d : Int) (β : List Nat) (T : zO) : zO :=
 G ++ (some ⟨253, .box [.any, .bool (decide (d < 0)), zf d.natAbs, .sl (G.length + 2) 0 β.length, .int .i64 (w : Nat)]⟩ :: none :: some ⟨3, zB5 β⟩ :: zAu ⟨248, zBr G.length X.length L⟩ 120 zC X T)
theorem zPe {G : zO} {L w : Nat} {X : Tab} {d : Int} {β : List Nat} {T : zO} : (zKc G L w X d β T)[G.length]? = some (some ⟨253, .box [.any, .bool (decide (d < 0)), zf d.natAbs, .sl (G.length + 2) 0 β.length, .int .i64 (w : Nat)]⟩) := zD6 (i := 0) rfl
theorem zQA {G : zO} {L w k : Nat} {X : Tab} {d : Int} {β : List Nat} {T : zO} : (zKc G L w X d β T).set G.length (some ⟨253, zDt G.length k β.length w d⟩) = zY G none L w k X d β T := zCA (i := 0) _ rfl
theorem zIt {α : Type} {O : AObj} {t : TypeId} {f : α → Cells} {X : List α} {x : α} {T : zO} : zAu O t f X (some ⟨t, f x⟩ :: T) = zAu O t f (X ++ [x]) T := by
 unfold zAu
 congr 1
 show zCO t f X ++ ([some ⟨t, f x⟩] ++ T) = _
 rw [← List.append_assoc, zOH]
/-- A row more: the outer row is moved. -/
theorem zLj {G : zO} {L w k : Nat} {X : Tab} {x : List Int} {d : Int} {β : List Nat} {a : Option AObj} {c' : Cells} (hG : zm (G.length + 3) G = G)
 (hc : CEq c' (zBr G.length (X.length + 1) L)) :
 ze ((zm (G.length + 3) (zY G none L w k X d β [some ⟨120, zC x⟩, a])).set (G.length + 3) (some ⟨248, c'⟩)) (zKc G L w (X ++ [x]) d β [none]) := by
 unfold zY
 rw [zDT, hG]
 have e : zm (G.length + 3) (some (⟨253, zDt G.length k β.length w d⟩ : AObj) :: none :: some ⟨3, zB5 β⟩ :: zAu ⟨248, zBr G.length X.length L⟩ 120 zC X [some ⟨120, zC x⟩, a])
  = some ⟨253, .box [.any, .bool (decide (d < 0)), zf d.natAbs, .sl (G.length + 2) 0 β.length, .int .i64 (w : Nat)]⟩ :: none :: some ⟨3, zB5 β⟩ :: zAu ⟨248, (zBr G.length X.length L).forget (G.length + 3)⟩ 120 zC X (zm (G.length + 3) [some ⟨120, zC x⟩, a]) := by
  show some (⟨_, Cells.box (AV.forgets _ _)⟩ : AObj) :: none :: some (⟨_, zB5 β⟩ : AObj) :: zm (G.length + 3) (zAu _ _ _ X _) = _
  rw [zEK (G.length + 3) (zBY (G.length + 3))]
  simp [AV.forgets, AV.forget, zf, zx]
 rw [e]
 refine ze.trans' (B := G ++ (some ⟨253, .box [.any, .bool (decide (d < 0)), zf d.natAbs, .sl (G.length + 2) 0 β.length, .int .i64 (w : Nat)]⟩ :: none :: some ⟨3, zB5 β⟩ :: zAu ⟨248, c'⟩ 120 zC X (zm (G.length + 3) [some ⟨120, zC x⟩, a]))) ?_ ?_
 ·rw [show (G ++ (some (⟨253, .box [.any, .bool (decide (d < 0)), zf d.natAbs, .sl (G.length + 2) 0 β.length, .int .i64 (w : Nat)]⟩ : AObj) :: none :: some ⟨3, zB5 β⟩ :: zAu ⟨248, (zBr G.length X.length L).forget (G.length + 3)⟩ 120 zC X (zm (G.length + 3) [some ⟨120, zC x⟩, a]))).set (G.length + 3) (some ⟨248, c'⟩) = _ from zCA (i := 3) _ rfl]
  exact ze.refl _
 ·refine ze.append (ze.refl _) (ze.same (ze.same (ze.same ?_)))
  have hl : zm (G.length + 3) [some (⟨120, zC x⟩ : AObj), a] = [some ⟨120, zC x⟩, zA1 (G.length + 3) a] := by
   show [some (⟨120, (zC x).forget _⟩ : AObj), _] = _
   rw [zBY]
  rw [hl, zIt]
  refine zGv ⟨Z, ?_⟩ (ze.drop ze.nil)
  show CEq c' (zBr G.length (X ++ [x]).length L)
  rw [List.length_append]; exact hc
theorem zEu (b n L : Nat) (cx : Cells) (h0 : cx.at 0 0 = .sl (b + 4 + n) 0 L) : CEq (.fn (n + 1) 1 (fun i j => bif Nat.blt i n then (zBr b n L).at i j else cx.at (0 + (i - n)) j)) (zBr b (n + 1) L) := by
 refine ⟨Z, Z, fun i j hi hj => ?_⟩
 obtain rfl := Nat.lt_one_iff.1 (show j < 1 from hj)
 have hi : i < n + 1 := hi
 show AV.sl (b + 4 + i) 0 L = bif Nat.blt i n then AV.sl (b + 4 + i) 0 L else cx.at (0 + (i - n)) 0
 by_cases e : i < n
 ·rw [show Nat.blt i n = true from Nat.ble_eq_true_of_le e]; rfl
 ·have e2 : i = n := by omega
  subst e2
  rw [show Nat.blt i i = false by
   cases h : Nat.blt i i with
   | false => rfl
   | true => exact absurd (Nat.le_of_ble_eq_true h) (Nat.not_succ_le_self i)]
  rw [Nat.sub_self, Nat.add_zero]
  exact h0.symm
theorem zIn {H : zO} {h i m : Nat} {o : AObj} (hh : H[h]? = some (some o)) : zLe H (.sl h i m) = some (o.c, i, m) := by
 simp only [zLe, hh]
/-- forgetting what lies behind the tableau -/
theorem zJE {G : zO} {L w k : Nat} {X : Tab} {d : Int} {β : List Nat} {T T' : zO} (h : Nat) (hG : zm h G = G) (hh : G.length + 4 + X.length ≤ h) (hT : ze (zm h T) T') :
 ze (zm h (zY G none L w k X d β T)) (zY G none L w k X d β T') := by
 unfold zY
 rw [zDT, hG]
 refine ze.append (ze.refl _) ?_
 have e : zm h (some (⟨253, zDt G.length k β.length w d⟩ : AObj) :: none :: some ⟨3, zB5 β⟩ :: zAu ⟨248, zBr G.length X.length L⟩ 120 zC X T)
  = some ⟨253, zDt G.length k β.length w d⟩ :: none :: some ⟨3, zB5 β⟩ :: zAu ⟨248, (zBr G.length X.length L).forget h⟩ 120 zC X (zm h T) := by
  show some (⟨_, Cells.box (AV.forgets _ _)⟩ : AObj) :: none :: some (⟨_, zB5 β⟩ : AObj) :: zm h (zAu _ _ _ X _) = _
  rw [zEK h (zBY h)]
  simp [AV.forgets, AV.forget, zf, zx (show G.length + 3 ≠ h by omega), zx (show G.length + 2 ≠ h by omega)]
 rw [e]
 refine ze.same (ze.same (ze.same (zGv ⟨Z, Z, Z, fun i j hi hj => ?_⟩ hT)))
 obtain rfl := Nat.lt_one_iff.1 (show j < 1 from hj)
 have hi : i < X.length := hi
 show AV.sl (G.length + 4 + i) 0 L = AV.forget h (AV.sl (G.length + 4 + i) 0 L)
 unfold AV.forget
 rw [zx (show G.length + 4 + i ≠ h by omega)]; rfl
/-- an object behind the tableau grows -/
theorem zLS {G : zO} {L w k : Nat} {X : Tab} {d : Int} {β : List Nat} {y : Option AObj} {t : TypeId} {c' c'' : Cells} (hG : zm (G.length + 4 + X.length) G = G) (hc : CEq c' c'') :
 ze ((zm (G.length + 4 + X.length) (zY G none L w k X d β [y])).set (G.length + 4 + X.length) (some ⟨t, c'⟩)) (zY G none L w k X d β [some ⟨t, c''⟩]) := by
 have e : zY G none L w k X d β [some ⟨t, c''⟩] = (zY G none L w k X d β [none]).set (G.length + 4 + X.length) (some ⟨t, c''⟩) := by
  have q := zAP (G := G) (F := none) (L := L) (w := w) (k := k) (X := X) (d := d) (β := β) (T := [none]) 0 (some ⟨t, c''⟩)
  exact q.symm
 rw [e]
 exact ze.set (zJE (T := [y]) (T' := [none]) _ hG (Nat.le_refl _) (show ze [zA1 _ y] [none] from ze.drop ze.nil)) _ (fun o ho => by cases ho; exact ⟨_, rfl, rfl, hc⟩)
theorem zQ7 {X : Tab} {m : Nat} (h : X.length = m + 1) : X.take m ++ [X.getD m []] = X := by
 apply List.ext_getElem (by rw [List.length_append, List.length_take, h]; show min m (m + 1) + 1 = m + 1; omega)
 intro i h1 h2
 by_cases e : i < m
 ·rw [List.getElem_append_left (by rw [List.length_take]; omega), List.getElem_take]
 ·have e2 : i = m := by omega
  subst e2
  rw [List.getElem_append_right (by rw [List.length_take]; omega)]
  simp [List.getD, h]
/-- without its last row -/
theorem tb_trunc {G : zO} {L w k m : Nat} {X : Tab} {d : Int} {β : List Nat} (h : X.length = m + 1) :
 (zY G none L w k X d β []).set (G.length + 3) (some ⟨248, zBr G.length m L⟩) = zY G none L w k (X.take m) d β [some ⟨120, zC (X.getD m [])⟩] := by
 refine (zCA (i := 3) _ Z).trans ?_
 show G ++ (_ :: _ :: _ :: zAu ⟨_, zBr G.length m L⟩ _ _ X []) = _
 have hl : (X.take m).length = m := by rw [List.length_take, h]; omega
 unfold zY
 rw [zIt, zQ7 h, hl]
end Go.Proofs.YtnkealfaldjipaaGreatDoor
namespace Go.Proofs.YtnkealfaldjipaaGreatDoor
open Go.Ax Go.Ax.Bg Go.Ax.Rt Go.RowKit Go.Ax.Dt Go.Ax.Sx
attribute [local irreducible] Ax zBZ QOp zS zBC
set_option maxRecDepth 100000
set_option maxHeartbeats 4000000
/-- rows of natural numbers -/
abbrev nsC (l : List Nat) : Cells := zDg 0 1 (fun n : Nat => [zf n]) l
def zJK (y : List Rat) (f : List Nat) (k : Nat) : List Rat := (List.range k).map (fun i => y.getD i 0 * ((f.getD i 0 : Nat) : Rat))
theorem zQa (y : List Rat) (f : List Nat) (k : Nat) : zJK y f (k + 1) = zJK y f k ++ [y.getD k 0 * ((f.getD k 0 : Nat) : Rat)] := by
 unfold zJK
 rw [List.range_succ, List.map_append]; rfl
theorem zM3 (y : List Rat) (f : List Nat) (k : Nat) : (zJK y f k).length = k := by simp [zJK]
theorem qA_nat (n : Nat) : qA ((n : Nat) : Rat) = .agg [.bool false, zf n, zf 1] := by
 unfold qA
 have h1 : ((n : Nat) : Rat).num = (n : Int) := rfl
 have h2 : ((n : Nat) : Rat).den = 1 := rfl
 rw [h1, h2, Int.natAbs_natCast, decide_eq_false (by omega)]
theorem belowQ (l : List Rat) (n : Nat) : zBu n (qsC l) := by
 intro i j _ hj
 show zBR n ((zq (l.getD i 0)).getD j .any) = true
 have hj : j < 3 := hj
 match j, hj with
 | 0, _ => rfl
 | 1, _ => rfl
 | 2, _ => rfl
theorem zKV (y : List Rat) (f : List Nat) (K : Nat) (hl : y.length = f.length) (hy40 : y.length ≤ 1000000) (hy : ∀ q ∈ y, D K q) (hf : ∀ n ∈ f, n < 10 ^ K) (hK : K ≤ 800000) :
 zU Tryz.prog 167 [.ro (qsC y) 0 y.length, .ro (nsC f) 0 f.length] (.ro (qsC (zJK y f y.length)) 0 y.length) := by
 have c1 := zG2 1 (by decide)
 refine zS.value (K := fun r H => r = .sl 0 0 y.length ∧ H = [some ⟨122, qsC (zJK y f y.length)⟩]) (zE (P := Tryz.prog) (fn := Tryz.f167) Z Z (by kernel_rfl) Z (fun c hR hfix => ?_)) (fix := fun _ => False) (fun _ h => h) Z ?_
 ·refine rn8 ?_
  refine zAi 5 ⟨122, qsC (zJK y f 0)⟩ Z Z ?_
  repeat (refine z7 ?_)
  refine zh (ι := Nat) (fun k => [(1, .ro (nsC f) 0 f.length), (5, .sl 0 0 k), (8, .ro (qsC y) 0 y.length), (9, .int .i64 (y.length : Nat)), (10, .int .i64 (k : Nat))]) (fun k => [some ⟨122, qsC (zJK y f k)⟩])
   (fun k => k ≤ y.length) (fun k => y.length - k) 0 ⟨⟨rfl, rfl, rfl, rfl, rfl, trivial⟩, rfl, Nat.zero_le _⟩ ?_
  intro k hk
  refine rn4 ?_
  refine zD Z (fun h => ?_) (fun h => ?_)
  ·have hk' : k < y.length := by omega
   have hkf : k < f.length := by omega
   have hs := zQa y f k
   have hul := zM3 y f k
   have hDy := hy _ (zAr 0 hk')
   have hDf : D (K + 1) ((f.getD k 0 : Nat) : Rat) := nat_D (Nat.le_of_lt (hf _ (zAr 0 hkf)))
   have cm := zPI (y.getD k 0) ((f.getD k 0 : Nat) : Rat) (zGG (hDy.mono (by omega))) (zGG (hDf.mono (by omega)))
   rw [qA_nat] at cm
   generalize hU2 : zJK y f (k + 1) = U2 at *
   generalize zJK y f k = U at *
   refine rn6 ?_
   refine zR [some ⟨122, qsC U⟩, some ⟨122, .box [.bool false, .nil, .nil]⟩] Z ?_
   refine zA 7 (.ptr 1 0 0) Z (AEq.of_eq Z) ?_
   refine zA 14 (.agg (zq (y.getD k 0))) Z (AEq.of_eq Z) ?_
   refine zN (c' := .box (zq (y.getD k 0))) Z Z Z Z Z Nat.zero_lt_one Z Z (fun i' j' hi' hj' => ?_) ?_
   ·rw [if_pos (Nat.lt_one_iff.1 hi')]; rfl
   refine rn0 ?_
   refine zAV [some ⟨122, qsC U⟩, some ⟨122, .box (zq (y.getD k 0))⟩] Z ?_
   refine zo (by kernel_rfl) ?_
   refine zw 0 Z (by kernel_rfl) (by kernel_rfl) (by kernel_rfl) Z (zL Z) Z ?_
   refine zFR (fuel := 3) [1, 2, 3, 4, 5, 6, 7, 8, 9] [(15, .sl 0 0 k), (1, .ro (nsC f) 0 f.length), (5, .sl 0 0 k), (8, .ro (qsC y) 0 y.length), (9, .int .i64 (y.length : Nat)), (10, .int .i64 (k : Nat)), (6, .int .i64 (k : Nat)), (7, .ptr 1 0 0)] ⟨Z, Z, Z, Z, Z, Z, Z, Z, trivial⟩ (by kernel_rfl) (by decide) Z Z ?_
   refine zK Z Z (zu Z Z Z Z Z Z Z (by first | exact Nat.zero_lt_one | assumption | omega)) ?_
   refine zK Z Z (zL Z) ?_
   refine zK Z Z (zL Z) ?_
   refine zK Z Z (zAU Z Z Z Z (by first | (simp only [Nat.zero_add, Int.toNat_natCast, Int.toNat_zero]; exact Z) | exact Z) (by omega)) ?_
   refine zK Z Z (zCx Z Z Z Z) ?_
   refine zK Z Z (zA0 Z Z Z Z Z Z) ?_
   refine zAc Z Z Z Z Z c1 ?_
   refine zK Z Z (zA0 Z Z Z Z Z Z) ?_
   refine zAc Z Z Z Z Z cm ?_
   refine zz ?_
   unfold qA
   refine zH (is := [10]) (by kernel_rfl) (by simp) Z ⟨fun o ho => ?_, trivial⟩
   all_goals (cases ho)
   refine rn3 ?_
   refine zH (is := [11]) (by kernel_rfl) (by simp) Z ⟨fun o ho => ?_, trivial⟩
   all_goals (cases ho)
   refine zAG Z Z Z Z Z Z Z Z Z hul Z Z (by show 0 + 1 ≤ 1; omega) Z (by show (k + 1) * 56 ≤ _ ∧ _; omega) ?_ (by rw [hfix]; exact fun h => h) ?_
   ·intro i' j hi hj
    exact zA9 0 3 zq zBS U _ _ (zDb _) 0 i' j hi hj
   refine zAl [some ⟨122, qsC U2⟩, some ⟨122, .box (zq (y.getD k 0))⟩] ?_ ?_
   ·rw [hs]
    exact ze.eqv (zBX 0 3 zq U _ _ (zDb _)) (ze.eqv (CEq.refl _) ze.nil)
   refine rn1 ?_
   refine zw 12 Z (by kernel_rfl) (by kernel_rfl) (by kernel_rfl) Z (zi Z) Z ?_
   refine zX (by kernel_rfl) ?_
   repeat (refine zAf ?_)
   refine zF ?_
   refine zA3 [some ⟨122, qsC U2⟩] [some ⟨122, .box (zq (y.getD k 0))⟩] [(1, .ro (nsC f) 0 f.length), (5, .sl 0 0 (k + 1)), (8, .ro (qsC y) 0 y.length), (9, .int .i64 (y.length : Nat)), (10, .int .i64 (k : Nat))] Z ⟨Z, Z, Z, Z, Z, trivial⟩ (fun h hh => by rw [hfix] at hh; exact hh.elim) (fun h o ho => by
    match h, ho with
    | 0, ho => cases ho; exact belowQ U2 _) rfl ?_
   refine rn3 ?_
   exact zM ⟨k + 1, by omega, by omega, ⟨Z, Z, Z, Z, Z, trivial⟩, by rw [hU2]⟩
  ·have hke : k = y.length := by omega
   subst hke
   refine rn5 ?_
   exact zI hR Z ⟨Z, Z⟩
 ·rintro r H ⟨rfl, rfl⟩
  exact ⟨rfl, fun o ho => by simp at ho; subst ho; exact Nat.le_of_eq (by simp [Cells.len, zDg, zM3]), zIB (zBk _)⟩
end Go.Proofs.YtnkealfaldjipaaGreatDoor
namespace Go.Ax
variable [Pins]
open Go.RowKit
def mvσ (σ : Nat → Option Blk) (h1 h2 : Nat) : Nat → Option Blk := fun h => if h = h1 then σ h2 else σ h
def mvH (H : zO) (h1 h2 : Nat) (o : AObj) : zO := ((zm h1 H).set h1 (some ⟨o.ty, o.c.forget h1⟩)).set h2 none
theorem zIJ {H : zO} {h1 h2 : Nat} {o : AObj} (hne : h1 ≠ h2) (h1H : h1 < H.length) {h : Nat} {o' : AObj} (hh : (mvH H h1 h2 o)[h]? = some (some o')) :
 (h = h1 ∧ o' = ⟨o.ty, o.c.forget h1⟩) ∨ (h ≠ h1 ∧ h ≠ h2 ∧ ∃ o0 : AObj, H[h]? = some (some o0) ∧ o' = ⟨o0.ty, o0.c.forget h1⟩) := by
 unfold mvH at hh
 by_cases e2 : h = h2
 ·exfalso
  subst e2
  rw [List.getElem?_set] at hh
  rw [if_pos rfl] at hh
  split at hh <;> cases hh
 rw [List.getElem?_set_ne (fun q => e2 q.symm)] at hh
 by_cases e1 : h = h1
 ·subst e1
  rw [List.getElem?_set_self (by rw [zBE]; exact h1H)] at hh
  cases hh
  exact .inl ⟨Z, Z⟩
 ·rw [List.getElem?_set_ne (fun q => e1 q.symm), zFN] at hh
  cases hx : H[h]? with
  | none => rw [hx] at hh; cases hh
  | some x =>
   rw [hx] at hh
   cases x with
   | none => cases hh
   | some o0 => cases hh; exact .inr ⟨e1, e2, o0, rfl, rfl⟩
theorem Rep.move {c : Ctx} {w : World} {a : Act} {σ : Nat → Option Blk} {S : Nat → Prop} {n : Nat} {fr : Fr} {H : zO} (hr : Rep c w a σ S n fr H) (h1 h2 t len : Nat) {o : AObj} (hne : h1 ≠ h2) (h1H : h1 < H.length) (h2o : H[h2]? = some (some o))
 (hf1 : ¬ c.fix h1) (hl : look t fr = some (.sl h2 0 len)) : Rep c w a (mvσ σ h1 h2) S n ((t, .sl h1 0 len) :: zCJ h1 fr) (mvH H h1 h2 o) := by
 have hv : ∀ {x v}, VR w S σ x v → VR w S (mvσ σ h1 h2) (x.forget h1) v := fun h => h.forget _ (fun h' q => if_neg q)
 have s1 : mvσ σ h1 h2 h1 = σ h2 := if_pos rfl
 have s2 : ∀ h, h ≠ h1 → mvσ σ h1 h2 h = σ h := fun h q => if_neg q
 have hlen : (mvH H h1 h2 o).length = H.length := by unfold mvH; rw [List.length_set, List.length_set, zBE]
 have key : ∀ (h : Nat) (o0 : AObj), H[h]? = some (some o0) → ((σ h = some .nowhere ∧ (o0.c.forget h1).len = 0) ∨
  ∃ b C cur, σ h = some (.at b (o0.c.forget h1).sz C) ∧ Lays w S (mvσ σ h1 h2) ⟨o0.ty, o0.c.forget h1⟩ b cur C ∧ cur.size = C * (o0.c.forget h1).sz ∧ C ≤ maxLen + 1 ∧ (o0.c.forget h1).len ≤ C ∧ ¬ S b ∧
  ∀ i j, i < (o0.c.forget h1).len → j < (o0.c.forget h1).sz → ∃ v, cur[i * (o0.c.forget h1).sz + j]? = some v ∧ VR w S (mvσ σ h1 h2) ((o0.c.forget h1).at i j) v ∧ v.oneCell' = true) := by
  intro h o0 ho0
  rw [Cells.forget_len, Cells.forget_sz]
  rcases hr.hr.live h o0 ho0 with g | ⟨b, C, cur, g1, g2, g3, g4, g5, g6, g7⟩
  ·exact .inl g
  ·refine .inr ⟨b, C, cur, g1, g2.forget Z hv, g3, g4, g5, g6, fun i j hi hj => ?_⟩
   obtain ⟨v, k1, k2, k3⟩ := g7 i j hi hj
   exact ⟨v, k1, by rw [Cells.forget_at _ _ _ _ hj]; exact hv k2, k3⟩
 refine ⟨⟨fun h o' ho => ?_, fun h h' o1 o1' b s C s' C' q1 q2 e1 e2 => ?_, hr.hr.small, fun h hl' => ?_⟩, ⟨hr.kp.os, hr.kp.output, hr.kp.tape, hr.kp.size, hr.kp.block, hr.kp.S1, hr.kp.S2, fun h hh => ?_, fun h hh => ?_, fun h o' b s C q e => ?_⟩, hr.defers, hr.size, fun t' v hl' => ?_⟩
 ·rcases zIJ hne h1H ho with ⟨rfl, rfl⟩ | ⟨g1, g2, o0, g3, rfl⟩
  ·rw [s1]; exact key h2 o h2o
  ·rw [s2 h g1]; exact key h o0 g3
 ·rcases zIJ hne h1H q1 with ⟨rfl, rfl⟩ | ⟨g1, g2, o0, g3, rfl⟩
  ·rcases zIJ hne h1H q2 with ⟨rfl, rfl⟩ | ⟨k1, k2, o0', k3, rfl⟩
   ·rfl
   ·rw [s1] at e1
    rw [s2 h' k1] at e2
    exact absurd (hr.hr.dist h2 h' o o0' b s C s' C' h2o k3 e1 e2) (fun q => k2 q.symm)
  ·rcases zIJ hne h1H q2 with ⟨rfl, rfl⟩ | ⟨k1, k2, o0', k3, rfl⟩
   ·rw [s1] at e2
    rw [s2 h g1] at e1
    exact absurd (hr.hr.dist h h2 o0 o b s C s' C' g3 h2o e1 e2) g2
   ·rw [s2 h g1] at e1
    rw [s2 h' k1] at e2
    exact hr.hr.dist h h' o0 o0' b s C s' C' g3 k3 e1 e2
 ·rw [hlen] at hl'
  rw [s2 h (by omega)]; exact hr.hr.dom h hl'
 ·rw [s2 h (fun q => hf1 (q ▸ hh))]; exact hr.kp.fixed h hh
 ·rw [hlen]; exact hr.kp.fixlt h hh
 ·rcases zIJ hne h1H q with ⟨rfl, rfl⟩ | ⟨g1, g2, o0, g3, rfl⟩
  ·rw [s1] at e; exact hr.kp.own h2 o b s C h2o e
  ·rw [s2 h g1] at e; exact hr.kp.own h o0 b s C g3 e
 ·have hsl := hr.slots t _ hl
  simp only [look] at hl'
  cases hb : Nat.beq t' t with
  | true =>
   rw [hb] at hl'
   have et := Nat.eq_of_beq_eq_true hb
   subst et
   cases hl'
   refine ⟨hsl.1, ?_⟩
   have h2 := hsl.2
   generalize a.tmps.getD t' undef = x at h2
   cases h2 with
   | sl _ _ _ _ b s C cap e1 e2 e3 => exact .sl _ _ _ _ _ _ _ _ (by rw [s1]; exact e1) e2 e3
   | sl0 _ _ e => exact .sl0 _ _ (by rw [s1]; exact e)
  | false =>
   rw [hb] at hl'
   have hl' : look t' (zCJ h1 fr) = some v := hl'
   rw [zDe] at hl'
   cases hx : look t' fr with
   | none => rw [hx] at hl'; cases hl'
   | some v0 =>
    rw [hx] at hl'
    cases hl'
    have hs := hr.slots t' v0 hx
    exact ⟨hs.1, hv hs.2⟩
section
variable {P : Program} {fn : Func} {c : Ctx} {fr : Fr} {H : zO} {k : List It}
theorem zP1 {x : Code} (h1 h2 t len : Nat) {o : AObj} (hne : h1 ≠ h2) (h1H : h1 < H.length) (h2o : H[h2]? = some (some o)) (hf1 : ¬ c.fix h1) (hl : look t fr = some (.sl h2 0 len))
 (hk : Ax P fn c (.code x k) ((t, .sl h1 0 len) :: zCJ h1 fr) (mvH H h1 h2 o)) : Ax P fn c (.code x k) fr H :=
 fun w a σ S hr => hk w a _ S (hr.move h1 h2 t len hne h1H h2o hf1 hl)
end
theorem zFk {fr K : Fr} (h : zB2 fr K) : ∀ {xs : List (Nat × Operand)} {l : List (Nat × AV)}, zCn K xs = some l → zCn fr xs = some l
 | [], l, he => he
 | (n, x) :: r, l, he => by
  simp only [zCn] at he ⊢
  split at he
  ·rename_i v hv
   split at he
   ·rename_i q hq
    rw [zIq h hv, zFk h hq]
    exact he
   ·cases he
  ·cases he
/-- a slice of plain values is built without a look at the memory -/
theorem px_b {P : Program} {fn : Func} {c : Ctx} {H : zO} {all : Array Oper} {K0 : Fr} {i : Nat} {r : List Nat} {st : Go.Ax.Steps} {G : Go.Ax.Steps → Prop} {d : Nat} {t e : TypeId} {n : Nat} {parts : List (Nat × Operand)} {ty : TypeId} {pos : String} {after : Array Edge} {it : TypeInfo} {z : Value} {zs L : List AV} {l : List (Nat × AV)} {cl : Cells} {K : Fr}
 (hi : all[i]? = some ⟨some d, .buildSlice t n parts.toArray, ty, pos, after, none⟩) (hK : zFp st K0 ⟨some d, .buildSlice t n parts.toArray, ty, pos, after, none⟩ = K)
 (ht : P.underlying t = some (.slice e)) (hinf : P.info? e = some it) (hz : it.zero = some z) (hzs : zav z = some zs) (hsz : it.size = zs.length) (hpos : Nat.blt 0 zs.length = true) (hsmall : Nat.ble (n * zs.length) 16777216 = true)
 (hl : zCn K parts = some l) (hf : zFz (fun i => some (i * zs.length, zs.length)) (zDU zs n) l = some L) (hcl : zB4 n zs.length L = cl) (hn : noRef.noRefs L = true)
 (h : zEA P fn c H all K0 r ((i, d, .ro cl 0 n) :: st) G) : zEA P fn c H all K0 (i :: r) st G :=
 zJz hi (hK ▸ fun k fr hk h2 => zW ht hinf hz hzs hsz hpos hsmall (zFk hk hl) hf hcl hn h2) h
end Go.Ax
namespace Go.Ax
variable [Pins]
open Go.RowKit
section
variable {P : Program} {fn : Func} {c : Ctx} {fr : Fr} {H : zO} {k : List It}
theorem zJj {w : World} {size : Nat} {a : Option Addr} {m cap : Nat} : (Builtin.firstCells size 0 (.slice a m cap)).run P w = .ok #[] w := by
 have _p := ‹Pins›
 cases a with
 | none => rfl
 | some a =>
  show (loadCells a (0 * size)).run P w = _
  rw [Nat.zero_mul]; rfl
theorem ax_copy0 {all : Array Oper} {d : Nat} {t tx e : TypeId} {x y : Operand} {ty : TypeId} {pos : String} {after : Array Edge} {rest : List Oper} {inf : TypeInfo} {h i n : Nat} {h2 i2 : Nat}
 (ht : P.underlying t = some (.slice e)) (hi : P.info? e = some inf) (hx : ev fr x = some (.sl h i n)) (hy : ev fr y = some (.sl h2 i2 0))
 (hk : Ax P fn c (.ops false all rest k) ((d, .int .i64 0) :: fr) H) : Ax P fn c (.ops false all (⟨some d, .call { callee := .builtin .copy, args := #[x, y], argTypes := #[t, tx] }, ty, pos, after, none⟩ :: rest) k) fr H := by
 refine ax_w (fun w a σ S hr => ?_) hk
 have h1 := hr.evAt hx
 have h2 := hr.evAt hy
 have hexec : ∀ r w', (Builtin.copy_ #[t, tx] ty #[a.eval x, a.eval y]).run P w = .ok r w' → (execOp a.eval ⟨some d, .call { callee := .builtin .copy, args := #[x, y], argTypes := #[t, tx] }, ty, pos, after, none⟩).run P w = .ok (.value r) w' := by
  intro r w' h
  simp [execOp, resolve, invoke, builtin, h]
 generalize hzx : a.eval x = vx at h1 hexec
 generalize hzy : a.eval y = vy at h2 hexec
 have key : ∀ (ax ay : Option Addr) (lx cx cy : Nat), (Builtin.copy_ #[t, tx] ty #[.slice ax lx cx, .slice ay 0 cy]).run P w = .ok (.int .i64 (0 : Nat)) w := by
  intro ax ay lx cx cy
  have hf := zJj (P := P) (w := w) (size := inf.size) (a := ay) (m := 0) (cap := cy)
  have hm : Nat.min 0 lx = 0 := Nat.zero_min lx
  cases ax with
  | none => simp [Builtin.copy_, run_underlying ht, sizeOf, typeInfo, hi, Builtin.lenOf, hm, hf, goInt]
  | some ad => simp [Builtin.copy_, run_underlying ht, sizeOf, typeInfo, hi, Builtin.lenOf, hm, hf, goInt, storeCells]
 cases h1 with
 | sl0 _ _ hσ =>
  cases h2 with
  | sl0 _ _ hσ2 => exact ⟨_, _, σ, S, hexec _ _ (key _ _ _ _ _), hr, .int _ _ _⟩
  | sl _ _ _ _ b s C cap hσ2 hlen hcap => exact ⟨_, _, σ, S, hexec _ _ (key _ _ _ _ _), hr, .int _ _ _⟩
 | sl _ _ _ _ b s C cap hσ hlen hcap =>
  cases h2 with
  | sl0 _ _ hσ2 => exact ⟨_, _, σ, S, hexec _ _ (key _ _ _ _ _), hr, .int _ _ _⟩
  | sl _ _ _ _ b s C cap hσ2 hlen hcap => exact ⟨_, _, σ, S, hexec _ _ (key _ _ _ _ _), hr, .int _ _ _⟩
end
end Go.Ax
namespace Go.Proofs.YtnkealfaldjipaaGreatDoor
open Go.Ax Go.Ax.Bg Go.Ax.Rt Go.RowKit Go.Ax.Dt Go.Ax.Sx
attribute [local irreducible] Ax zBZ QOp zS zBC
set_option maxRecDepth 100000
set_option maxHeartbeats 4000000
theorem zLV {α : Type} (d : α) (n : Nat) (e : α → List AV) (a b : List α) : CEq (.fn (a.length + b.length) n (fun i j => bif Nat.blt i a.length then (zDg d n e a).at i j else (zDg d n e b).at (0 + (i - a.length)) j)) (zDg d n e (a ++ b)) := by
 refine ⟨by simp [zDg, Cells.len], Z, fun i j hi hj => ?_⟩
 show (e ((a ++ b).getD i d)).getD j .any = bif Nat.blt i a.length then (e (a.getD i d)).getD j .any else (e (b.getD (0 + (i - a.length)) d)).getD j .any
 by_cases h : i < a.length
 ·rw [show Nat.blt i a.length = true from Nat.ble_eq_true_of_le h, zJs d h]; rfl
 ·have h2 : Nat.blt i a.length = false := by
   cases e : Nat.blt i a.length with
   | false => rfl
   | true => have : i + 1 ≤ a.length := Nat.le_of_ble_eq_true e
             omega
  rw [h2, Nat.zero_add]
  have : (a ++ b).getD i d = b.getD (i - a.length) d := by
   simp only [List.getD]
   rw [List.getElem?_append_right (by omega)]
  rw [this]; rfl
theorem cloneQ (l : List Rat) (hl : l.length ≤ 1000000) : zNH Tryz.prog 209 [.ro (qsC l) 0 l.length] (fun N => .sl N 0 l.length) ⟨122, qsC l⟩ := by
 refine zS.fresh (K := fun r H => r = .sl 0 0 l.length ∧ H = [some ⟨122, qsC l⟩]) (zE (P := Tryz.prog) (fn := Tryz.f209) Z Z (by kernel_rfl) Z (fun c hR hfix => ?_)) (fix := fun _ => False) (fun _ h => h) Z (fun H => ⟨Z, by simp [zIm, inB]⟩) ?_
 ·refine rn0 ?_
  refine zKt Z Z Z (fun b hb => ?_)
  refine rn0 ?_
  refine zEk Z (fun h => ?_) (fun h => ?_)
  ·have := hb h
   have hn : l = [] := List.length_eq_zero_iff.mp this
   subst hn
   refine rn7 ?_
   refine zAi 2 ⟨122, qsC []⟩ Z Z ?_
   refine rn2 ?_
   exact zI hR Z ⟨Z, Z⟩
  ·refine rn1 ?_
   refine zCj Z Z Z Z Z Z Z Z Z Z ?_
   refine zAl [some ⟨122, qsC []⟩] (ze.eqv ⟨Z, Z, fun i j hi => absurd hi (Nat.not_lt_zero _)⟩ ze.nil) ?_
   repeat (refine zG (zL rfl) ?_)
   refine zAG Z Z Z Z Z Z Z Z Z Z Z Z (by show 0 + l.length ≤ l.length; omega) Z (by show (0 + l.length) * 56 ≤ _ ∧ _; omega) ?_ (by rw [hfix]; exact fun h => h) ?_
   ·intro i' j' hi' hj'
    have q := (zLV 0 3 zq [] l).2.2 i' j' hi' hj'
    refine (congrArg (AV.forget 0) q.symm).trans (Eq.trans ?_ q)
    exact zBS _ j' 0 hj'
   refine zAl [some ⟨122, qsC l⟩] (ze.eqv (zLV 0 3 zq [] l) ze.nil) ?_
   refine rn0 ?_
   refine zI hR Z ⟨?_, Z⟩
   show AV.sl 0 0 (0 + l.length) = _; rw [Nat.zero_add]
 ·rintro r H ⟨rfl, rfl⟩
  refine ⟨?_, fun h o ho => zIB (zBk _) h o ho, 0, Z, fun n => rfl⟩
  intro o ho; simp at ho; subst ho; show 0 + l.length ≤ l.length; omega
theorem zHP (N : Nat) (a : List Int) : (zC a).shift N = zC a := by
 show Cells.fn _ _ _ = Cells.fn _ _ _
 congr 1
 funext i j
 match j with
 | 0 => rfl
 | 1 => rfl
 | _ + 2 => rfl
theorem zNj (l : List Rat) (K : Nat) (hD : ∀ q ∈ l, D K q) (hlen : l.length ≤ 1000) (hK : K * l.length + K ≤ 900000) :
 MCall Tryz.prog 168 [.ro (qsC l) 0 l.length] (.tup [.sl 0 0 l.length, zf (zDH 1 l)]) [some ⟨120, zC (zA6 l)⟩] := by
 have c1 := zRK l K hD hlen hK
 refine zS.many (zE (P := Tryz.prog) (fn := Tryz.f168) Z Z (by kernel_rfl) Z (fun c hR hfix => ?_)) (fix := fun _ => False) (fun _ h => h) Z
 refine rn0 ?_
 refine zIj (.tup [.sl 0 0 l.length, zf (zDH 1 l)]) [some ⟨120, zC (zA6 l)⟩] Z Z Z c1 Z (by show [] ++ [some (⟨_, (zC (zA6 l)).shift 0⟩ : AObj)] = _; rw [zHP]; rfl) ?_
 refine rn2 ?_
 exact zI hR Z ⟨Z, Z⟩
/-- where an unknown stands among those that need an artificial one -/
theorem zKJ (B : List Rat) (i : Nat) (hi : (B.getD i 0).num < 0) : ∀ d, ∃ r, zAe B (i + 1 + d) = zAe B i ++ i :: r
 | 0 => ⟨[], by show zAe B (i + 1) = _; rw [zAe, if_pos hi]⟩
 | d + 1 => by
  obtain ⟨r, hr⟩ := zKJ B i hi d
  show ∃ r, zAe B (i + 1 + d + 1) = _
  rw [zAe]
  split
  ·exact ⟨r ++ [i + 1 + d], by rw [hr]; simp⟩
  ·exact ⟨r, hr⟩
theorem need_idx (B : List Rat) {i m : Nat} (hi : i < m) : Go.Ax.Idx.idxF (Go.Ax.Cd.eqp (i : Int)) ((zAe B m).map (fun a : Nat => (a : Int))) = if (B.getD i 0).num < 0 then ((zBm B i : Nat) : Int) else -1 := by
 have hany : ∀ l : List Nat, i ∉ l → (l.map (fun a : Nat => (a : Int))).any (Go.Ax.Cd.eqp (i : Int)) = false := by
  intro l hl
  rw [List.any_eq_false]
  intro x hx
  obtain ⟨a, ha, rfl⟩ := List.mem_map.1 hx
  simp only [Go.Ax.Cd.eqp, decide_eq_true_eq]
  intro e
  have : i = a := by omega
  exact hl (this ▸ ha)
 by_cases h : (B.getD i 0).num < 0
 ·rw [if_pos h]
  obtain ⟨r, hr⟩ := zKJ B i h (m - (i + 1))
  rw [show i + 1 + (m - (i + 1)) = m by omega] at hr
  have hni : i ∉ zAe B i := fun q => absurd (zIF.1 q).1 (Nat.lt_irrefl i)
  have hl : (zAe B i).length ≤ ((zAe B m).map (fun a : Nat => (a : Int))).length := by rw [hr]; simp
  have ht : ((zAe B m).map (fun a : Nat => (a : Int))).take (zAe B i).length = (zAe B i).map (fun a : Nat => (a : Int)) := by rw [hr, List.map_append, List.take_left' (by simp)]
  have hd : ((zAe B m).map (fun a : Nat => (a : Int))).drop (zAe B i).length = (i : Int) :: r.map (fun a : Nat => (a : Int)) := by rw [hr, List.map_append, List.drop_left' (by simp)]; rfl
  rw [Go.Ax.Idx.idxF_take _ _ (zAe B i).length (by rw [ht]; exact hany _ hni) hl, hd]
  have e0 : Go.Ax.Idx.idxF (Go.Ax.Cd.eqp (i : Int)) ((i : Int) :: r.map (fun a : Nat => (a : Int))) = 0 := by
   rw [Go.Ax.Idx.idxF, if_pos (by simp [Go.Ax.Cd.eqp])]
  rw [e0, if_neg (by omega)]
  show (0 : Int) + ((zAe B i).length : Nat) = _
  rw [Int.zero_add]
 ·rw [if_neg h]
  have hni : i ∉ zAe B m := fun q => h (zIF.1 q).2
  rw [Go.Ax.Idx.idxF_take _ _ ((zAe B m).map (fun a : Nat => (a : Int))).length (by rw [List.take_length]; exact hany _ hni) (Nat.le_refl _), List.drop_length]
  rfl
section
variable {G : zO} {F : Option AObj} {L w k : Nat} {X : Tab} {d : Int} {β : List Nat} {T T' : zO}
abbrev zJw (G : zO) (F : Option AObj) (L w : Nat) (X : Tab) (d : Int) (β : List Nat) (T : zO) : zO :=
 G ++ (some ⟨253, .box [.any, .bool (decide (d < 0)), zf d.natAbs, .sl (G.length + 2) 0 β.length, .int .i64 (w : Nat)]⟩ :: F :: some ⟨3, zB5 β⟩ :: zAu ⟨248, zBr G.length X.length L⟩ 120 zC X T)
theorem anyF_box : (zJw G F L w X d β T)[G.length]? = some (some ⟨253, .box [.any, .bool (decide (d < 0)), zf d.natAbs, .sl (G.length + 2) 0 β.length, .int .i64 (w : Nat)]⟩) := zD6 (i := 0) rfl
theorem anyF_set : (zJw G F L w X d β T).set G.length (some ⟨253, zDt G.length k β.length w d⟩) = zY G F L w k X d β T := zCA (i := 0) _ rfl
/-- the basis while it is moved -/
abbrev zKN (G : zO) (F : Option AObj) (L w k : Nat) (X : Tab) (d : Int) (β : List Nat) (T : zO) : zO :=
 G ++ (some ⟨253, .box [.sl (G.length + 3) 0 k, .bool (decide (d < 0)), zf d.natAbs, .any, .int .i64 (w : Nat)]⟩ :: F :: some ⟨3, zB5 β⟩ :: zAu ⟨248, zBr G.length X.length L⟩ 120 zC X T)
theorem bas_box : (zKN G F L w k X d β T)[G.length]? = some (some ⟨253, .box [.sl (G.length + 3) 0 k, .bool (decide (d < 0)), zf d.natAbs, .any, .int .i64 (w : Nat)]⟩) := zD6 (i := 0) rfl
theorem bas_set : (zKN G F L w k X d β T).set G.length (some ⟨253, zDt G.length k β.length w d⟩) = zY G F L w k X d β T := zCA (i := 0) _ rfl
theorem zP9 (h : Nat) (B : Cells) (hG : zm h G = G) (hF : zA1 h F = F) {O : Cells} (hO : CEq (O.forget h) O) (hT : ze (zm h T) T') :
 ze (zm h (G ++ (some ⟨253, B⟩ :: F :: some ⟨3, zB5 β⟩ :: zAu ⟨248, O⟩ 120 zC X T))) (G ++ (some ⟨253, B.forget h⟩ :: F :: some ⟨3, zB5 β⟩ :: zAu ⟨248, O⟩ 120 zC X T')) := by
 rw [zDT, hG]
 refine ze.append (ze.refl _) ?_
 have e : zm h (some (⟨253, B⟩ : AObj) :: F :: some ⟨3, zB5 β⟩ :: zAu ⟨248, O⟩ 120 zC X T)
  = some ⟨253, B.forget h⟩ :: F :: some ⟨3, zB5 β⟩ :: zAu ⟨248, O.forget h⟩ 120 zC X (zm h T) := by
  show some (⟨_, B.forget h⟩ : AObj) :: zA1 h F :: some (⟨_, zB5 β⟩ : AObj) :: zm h (zAu _ _ _ X _) = _
  rw [zEK h (zBY h), hF]
 rw [e]
 exact ze.same (ze.same (ze.same (zGv ⟨Z, hO⟩ hT)))
theorem zMT (b n L h : Nat) (hh : b + 4 + n ≤ h ∨ h < b + 4) : CEq ((zBr b n L).forget h) (zBr b n L) := by
 refine ⟨Z, Z, fun i j hi hj => ?_⟩
 obtain rfl := Nat.lt_one_iff.1 (show j < 1 from hj)
 have hi : i < n := hi
 show AV.sl (b + 4 + i) 0 L = AV.forget h (AV.sl (b + 4 + i) 0 L)
 unfold AV.forget
 rw [zx (show b + 4 + i ≠ h by omega)]; rfl
theorem zPR (b k m w h : Nat) (d : Int) (h1 : b + 3 ≠ h) (h2 : b + 2 ≠ h) : (zDt b k m w d).forget h = zDt b k m w d := by
 show Cells.box (AV.forgets h _) = _
 simp [AV.forgets, AV.forget, zf, zx h1, zx h2]
theorem tabB_fgR (b k m w : Nat) (d : Int) : (zDt b k m w d).forget (b + 3) = .box [.any, .bool (decide (d < 0)), zf d.natAbs, .sl (b + 2) 0 m, .int .i64 (w : Nat)] := by
 show Cells.box (AV.forgets _ _) = _
 simp [AV.forgets, AV.forget, zf, zx (show b + 2 ≠ b + 3 by omega)]
theorem tabB_fgB (b k m w : Nat) (d : Int) : (zDt b k m w d).forget (b + 2) = .box [.sl (b + 3) 0 k, .bool (decide (d < 0)), zf d.natAbs, .any, .int .i64 (w : Nat)] := by
 show Cells.box (AV.forgets _ _) = _
 simp [AV.forgets, AV.forget, zf, zx (show b + 3 ≠ b + 2 by omega)]
/-- forgetting what lies behind the tableau, or where the factors lie -/
theorem zLH (h : Nat) (hh : G.length + 4 + X.length ≤ h ∨ h = G.length + 1) (hG : zm h G = G) (hF : zA1 h F = F) (hT : ze (zm h T) T') : ze (zm h (zY G F L w k X d β T)) (zY G F L w k X d β T') := by
 have q := zP9 (X := X) (β := β) h (zDt G.length k β.length w d) hG hF (zMT G.length X.length L h (by omega)) hT
 rw [zPR _ _ _ _ _ _ (by omega) (by omega)] at q
 exact q
/-- an object behind the tableau grows -/
theorem zKw {y : Option AObj} {t : TypeId} {c' c'' : Cells} (hG : zm (G.length + 4 + X.length) G = G) (hF : zA1 (G.length + 4 + X.length) F = F) (hc : CEq c' c'') :
 ze ((zm (G.length + 4 + X.length) (zY G F L w k X d β [y])).set (G.length + 4 + X.length) (some ⟨t, c'⟩)) (zY G F L w k X d β [some ⟨t, c''⟩]) := by
 have e : zY G F L w k X d β [some ⟨t, c''⟩] = (zY G F L w k X d β [none]).set (G.length + 4 + X.length) (some ⟨t, c''⟩) := by
  have q := zAP (G := G) (F := F) (L := L) (w := w) (k := k) (X := X) (d := d) (β := β) (T := [none]) 0 (some ⟨t, c''⟩)
  exact q.symm
 rw [e]
 exact ze.set (zLH (T := [y]) (T' := [none]) _ (.inl (Nat.le_refl _)) hG hF (show ze [zA1 _ y] [none] from ze.drop ze.nil)) _ (fun o ho => by cases ho; exact ⟨_, rfl, rfl, hc⟩)
/-- the factors grow -/
theorem zKo {c' c'' : Cells} {t : TypeId} (hG : zm (G.length + 1) G = G) (hc : CEq c' c'') (hT : ze (zm (G.length + 1) T) T') :
 ze ((zm (G.length + 1) (zY G F L w k X d β T)).set (G.length + 1) (some ⟨t, c'⟩)) (zY G (some ⟨t, c''⟩) L w k X d β T') := by
 have e : zY G (some ⟨t, c''⟩) L w k X d β T' = (zY G none L w k X d β T').set (G.length + 1) (some ⟨t, c''⟩) := by
  refine Eq.symm ((zCA (i := 1) _ Z).trans ?_)
  rfl
 rw [e]
 have e2 : zm (G.length + 1) (zY G F L w k X d β T) = G ++ (some ⟨253, zDt G.length k β.length w d⟩ :: zA1 (G.length + 1) F :: some ⟨3, zB5 β⟩ :: zAu ⟨248, (zBr G.length X.length L).forget (G.length + 1)⟩ 120 zC X (zm (G.length + 1) T)) := by
  unfold zY
  rw [zDT, hG]
  show G ++ (some (⟨_, (zDt G.length k β.length w d).forget (G.length + 1)⟩ : AObj) :: zA1 (G.length + 1) F :: some (⟨_, zB5 β⟩ : AObj) :: zm (G.length + 1) (zAu _ _ _ X _)) = _
  rw [zEK (G.length + 1) (zBY (G.length + 1)), zPR _ _ _ _ _ _ (by omega) (by omega)]
 rw [e2]
 have q : ze (G ++ (some ⟨253, zDt G.length k β.length w d⟩ :: zA1 (G.length + 1) F :: some ⟨3, zB5 β⟩ :: zAu ⟨248, (zBr G.length X.length L).forget (G.length + 1)⟩ 120 zC X (zm (G.length + 1) T))) (zY G none L w k X d β T') :=
  ze.append (ze.refl _) (ze.same (ze.drop (ze.same (zGv (O := ⟨248, (zBr G.length X.length L).forget (G.length + 1)⟩) (O' := ⟨248, zBr G.length X.length L⟩) ⟨rfl, zMT G.length X.length L (G.length + 1) (.inr (by omega))⟩ hT))))
 exact ze.set q _ (fun o ho => by cases ho; exact ⟨_, rfl, rfl, hc⟩)
/-- the basis grows -/
theorem zKI {c' : Cells} {β' : List Nat} (hG : zm (G.length + 2) G = G) (hF : zA1 (G.length + 2) F = F) (hc : CEq c' (zB5 β')) (hT : ze (zm (G.length + 2) T) T') :
 ze ((zm (G.length + 2) (zY G F L w k X d β T)).set (G.length + 2) (some ⟨3, c'⟩)) (zKN G F L w k X d β' T') := by
 have q := zP9 (X := X) (β := β) (G.length + 2) (zDt G.length k β.length w d) hG hF (zMT G.length X.length L _ (by omega)) hT
 rw [tabB_fgB] at q
 have e : zKN G F L w k X d β' T' = (G ++ (some ⟨253, .box [.sl (G.length + 3) 0 k, .bool (decide (d < 0)), zf d.natAbs, .any, .int .i64 (w : Nat)]⟩ :: F :: some ⟨3, zB5 β⟩ :: zAu ⟨248, zBr G.length X.length L⟩ 120 zC X T')).set (G.length + 2) (some ⟨3, zB5 β'⟩) := by
  refine Eq.symm ((zCA (i := 2) _ Z).trans ?_)
  rfl
 rw [e]
 exact ze.set q _ (fun o ho => by cases ho; exact ⟨_, rfl, rfl, hc⟩)
/-- a row more -/
theorem zOc {x : List Int} {a : Option AObj} {c' : Cells} (hG : zm (G.length + 3) G = G) (hF : zA1 (G.length + 3) F = F) (hc : CEq c' (zBr G.length (X.length + 1) L)) :
 ze ((zm (G.length + 3) (zY G F L w k X d β [some ⟨120, zC x⟩, a])).set (G.length + 3) (some ⟨248, c'⟩)) (zJw G F L w (X ++ [x]) d β [none]) := by
 have e2 : zm (G.length + 3) (zY G F L w k X d β [some ⟨120, zC x⟩, a]) = G ++ (some ⟨253, .box [.any, .bool (decide (d < 0)), zf d.natAbs, .sl (G.length + 2) 0 β.length, .int .i64 (w : Nat)]⟩ :: F :: some ⟨3, zB5 β⟩ :: zAu ⟨248, (zBr G.length X.length L).forget (G.length + 3)⟩ 120 zC X [some ⟨120, zC x⟩, zA1 (G.length + 3) a]) := by
  unfold zY
  rw [zDT, hG]
  show G ++ (some (⟨_, (zDt G.length k β.length w d).forget (G.length + 3)⟩ : AObj) :: zA1 (G.length + 3) F :: some (⟨_, zB5 β⟩ : AObj) :: zm (G.length + 3) (zAu _ _ _ X _)) = _
  rw [zEK (G.length + 3) (zBY (G.length + 3)), tabB_fgR, hF]
  show _ = G ++ (_ :: _ :: _ :: zAu _ _ _ X [some (⟨120, zC x⟩ : AObj), _])
  rw [show zm (G.length + 3) [some (⟨120, zC x⟩ : AObj), a] = [some ⟨120, (zC x).forget (G.length + 3)⟩, zA1 (G.length + 3) a] from rfl, zBY]
 rw [e2, show ∀ O' : Option AObj, (G ++ (some (⟨253, .box [.any, .bool (decide (d < 0)), zf d.natAbs, .sl (G.length + 2) 0 β.length, .int .i64 (w : Nat)]⟩ : AObj) :: F :: some ⟨3, zB5 β⟩ :: zAu ⟨248, (zBr G.length X.length L).forget (G.length + 3)⟩ 120 zC X [some ⟨120, zC x⟩, zA1 (G.length + 3) a])).set (G.length + 3) O' = _ from fun O' => zCA (i := 3) _ rfl]
 refine ze.append (ze.refl _) (ze.same (ze.same (ze.same ?_)))
 show ze (zAu ⟨248, c'⟩ 120 zC X _) _
 rw [zIt]
 refine zGv ⟨Z, ?_⟩ (ze.drop ze.nil)
 show CEq c' (zBr G.length (X ++ [x]).length L)
 rw [List.length_append]; exact hc
end
theorem nsC_fg (h : Nat) (l : List Nat) : (nsC l).forget h = nsC l := by
 show Cells.fn _ _ _ = Cells.fn _ _ _
 congr 1
 funext i j
 match j with
 | 0 => rfl
 | _ + 1 => rfl
theorem zOk (l : List Nat) : zAK (nsC l) := by
 intro i j _ hj
 obtain rfl := Nat.lt_one_iff.1 (show j < 1 from hj)
 rfl
end Go.Proofs.YtnkealfaldjipaaGreatDoor
