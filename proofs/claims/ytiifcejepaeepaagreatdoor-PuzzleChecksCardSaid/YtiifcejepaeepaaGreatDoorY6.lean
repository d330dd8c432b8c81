import Derived.Test.YtiifcejepaeepaaGreatDoorY5
set_option linter.unusedVariables false
set_option linter.unusedSimpArgs false
set_option maxRecDepth 100000
set_option maxHeartbeats 4000000
namespace Go.Proofs.YtiifcejepaeepaaGreatDoor
open Go.Ax Go.Ax.Gm Go.RowKit Go.Ax.Idx Go.Ax.Cd
attribute [local irreducible] Ax zCM QOp zd
def poZ : List AV := [.nil, .nil, .nil, .int .i64 0, .int .i64 0]
def poB (s : List Int) (x y : AV) : List AV := [z6 s, x, y, .int .i64 0, .int .i64 0]
abbrev hpB (s : List Int) (x y : AV) (l l' : List Int) : zQ := [none, some ⟨35, .box poZ⟩, some ⟨35, .box (poB s x y)⟩, some ⟨3, .ints .i64 l⟩, some ⟨3, .ints .i64 l'⟩]
/-- place.Begin, refused -/
theorem begin_no (r : Go.Ax.Gm.Rules) (hr : Lens r) (h : zAa r ≠ 0) : zl Tryz.prog 28 [ruA r] (.tup [poA z7, .int .i64 (zAa r)]) := by
 refine zd.value0 (zN (P := Tryz.prog) (fn := Tryz.f28) J J (by kernel_rfl) J (fun c hR hfix => ?_)) (fix := fun _ => False) (fun _ h => h) J J
 refine rn6 ?_
 refine zP J J J (zG1 r hr) ?_
 refine rn3 ?_
 refine zF J (fun h1 => ?_) (fun h1 => absurd h1 (fun q => q h))
 refine rn8 ?_
 refine zb poZ J J J J J J J ?_
 refine rn7 ?_
 refine zLF [some ⟨26, .box (ruC r)⟩, some ⟨35, .box (poC z7)⟩] J ?_ ?_
 ·intro h o ho
  match h, ho with
  | 0, ho => cases ho; exact ⟨_, rfl, rfl, rfl, rfl, fun _ _ _ _ => AEq.rfl'⟩
  | 1, ho =>
   cases ho
   refine ⟨_, J, J, J, J, fun i j hi hj => ?_⟩
   obtain rfl : i = 0 := Nat.lt_one_iff.1 hi
   have hj : j < 5 := hj
   match j, hj with
   | 0, _ => exact AEq.nil
   | 1, _ => exact AEq.nil
   | 2, _ => exact AEq.nil
   | 3, _ => exact AEq.rfl'
   | 4, _ => exact AEq.rfl'
  | _ + 2, ho => simp at ho
 refine rn2 ?_
 exact zL hR J J
/-- place.Begin -/
theorem zLI (r : Go.Ax.Gm.Rules) (hr : Lens r) (h : zAa r = 0) : zl Tryz.prog 28 [ruA r] (.tup [poA (zAI r), .int .i64 0]) := by
 refine zd.value0 (zN (P := Tryz.prog) (fn := Tryz.f28) J J (by kernel_rfl) J (fun c hR hfix => ?_)) (fix := fun _ => False) (fun _ h => h) J J
 have hs := zL2 (zAu h)
 have hpl := hs.pcs
 have hsl := hs.start
 refine rn6 ?_
 refine zP J J J (zG1 r hr) ?_
 refine rn3 ?_
 refine zF J (fun h1 => absurd h h1) (fun _ => ?_)
 refine rn5 ?_
 refine zP J J J (zIf r.start (by omega)) ?_
 refine rn8 ?_
 refine zb (poB r.start .nil .nil) J J J J J J J ?_
 refine rn5 ?_
 refine zBE [some ⟨26, .box (ruC r)⟩, none, none] [none, some ⟨35, .box poZ⟩, some ⟨35, .box (poB r.start .nil .nil)⟩] [(2, .ptr 1 0 0), (5, .ptr 2 0 0), (19, .ro (zAi r.pcs) 0 r.pcs.length), (20, iN r.pcs.length), (21, .int .i64 ((0 : Nat) : Int))] ?_ (zB8 (zq J) (zCc (zCc zCd))) J ?_ (zCP ⟨J, J, J, J, J, trivial⟩) ?_
 ·intro h o ho
  match h, ho with
  | 0, ho => exact ho
  | 1, ho => simp at ho
  | 2, ho => simp at ho
  | _ + 3, ho => simp at ho
 ·intro h o ho
  match h, ho with
  | 0, ho => simp at ho
  | 1, ho => cases ho; exact ⟨fun o h => by simp at h, _, rfl, rfl, rfl, rfl, fun _ _ _ _ => .inl rfl⟩
  | 2, ho => cases ho; exact ⟨fun o h => by simp at h, _, rfl, rfl, rfl, rfl, fun _ _ _ _ => .inl rfl⟩
  | _ + 3, ho => simp at ho
 refine zDK 2 ⟨3, .ints .i64 []⟩ (.box (poB r.start (.sl 3 0 0) .nil)) J J J J (fun i j hi hj => ?_) ?_
 ·obtain rfl : i = 0 := Nat.lt_one_iff.1 hi
  have hj : j < 5 := hj
  match j, hj with
  | 0, _ => exact .inl rfl
  | 1, _ => exact .inr ⟨rfl, rfl⟩
  | 2, _ => exact .inl rfl
  | 3, _ => exact .inl rfl
  | 4, _ => exact .inl rfl
 refine zDK 2 ⟨3, .ints .i64 []⟩ (.box (poB r.start (.sl 3 0 0) (.sl 4 0 0))) J J J J (fun i j hi hj => ?_) ?_
 ·obtain rfl : i = 0 := Nat.lt_one_iff.1 hi
  have hj : j < 5 := hj
  match j, hj with
  | 0, _ => exact .inl rfl
  | 1, _ => exact .inl rfl
  | 2, _ => exact .inr ⟨rfl, rfl⟩
  | 3, _ => exact .inl rfl
  | 4, _ => exact .inl rfl
 refine z8 (ι := Nat) (fun k => [(2, .ptr 1 0 0), (5, .ptr 2 0 0), (19, .ro (zAi r.pcs) 0 r.pcs.length), (20, iN r.pcs.length), (21, iN k)]) (fun k => hpB r.start (.sl 3 0 k) (.sl 4 0 k) ((zBc r).take k) ((zBc r).take k))
  (fun k => k ≤ r.pcs.length) (fun k => r.pcs.length - k) 0 ⟨⟨rfl, rfl, rfl, rfl, rfl, trivial⟩, rfl, Nat.zero_le _⟩ ?_
 intro k hk
 have hhl : (zBc r).length = r.pcs.length := List.length_map ..
 refine rn4 ?_
 refine zF J (fun h2 => ?_) (fun h2 => ?_)
 ·have hk' : k < r.pcs.length := by omega
  generalize hp : r.pcs.getD k pc0 = p
  have hph : (zBc r).getD k 0 = p.hand := by rw [← hp]; unfold zBc; simp [List.getD, hk']
  have htk : (zBc r).take (k + 1) = (zBc r).take k ++ [p.hand] := by rw [zz _ 0 k (by omega), hph]
  have htl : ((zBc r).take k).length = k := by rw [List.length_take]; omega
  generalize hA : (zBc r).take k = A at htl htk
  refine zFu ?_
  repeat (refine zAK rfl rfl rfl ?_)
  refine zb (pcC p) J J J J J (by rw [← hp]; rfl) J ?_
  refine rn0 ?_
  refine zBE [none, none, none, none, none, some ⟨114, .box (pcC p)⟩] [none, some ⟨35, .box poZ⟩, some ⟨35, .box (poB r.start (.sl 3 0 k) (.sl 4 0 k))⟩, some ⟨3, .ints .i64 A⟩, some ⟨3, .ints .i64 A⟩, none] [(2, .ptr 1 0 0), (5, .ptr 2 0 0), (19, .ro (zAi r.pcs) 0 r.pcs.length), (20, iN r.pcs.length), (21, iN k), (7, .rp (.box (pcC p)) 0 0)] ?_ (zCc (zCc (zCc (zCc (zCc (zB8 (zq rfl) zCd)))))) rfl ?_ ⟨⟨_, rfl, .inl rfl⟩, ⟨_, rfl, .inl rfl⟩, ⟨_, rfl, .inl rfl⟩, ⟨_, rfl, .inl rfl⟩, ⟨_, rfl, .inl rfl⟩, ⟨.ptr 5 0 0, rfl, .inr (.inr ⟨rfl, fun o ho => by cases ho; exact Nat.zero_lt_one⟩)⟩, trivial⟩ ?_
  ·intro h o ho
   match h, ho with
   | 0, ho => simp at ho
   | 1, ho => simp at ho
   | 2, ho => simp at ho
   | 3, ho => simp at ho
   | 4, ho => simp at ho
   | 5, ho => exact ho
   | _ + 6, ho => simp at ho
  ·intro h o ho
   match h, ho with
   | 0, ho => simp at ho
   | 1, ho => cases ho; exact ⟨fun o h => by simp at h, _, rfl, rfl, rfl, rfl, fun _ _ _ _ => .inl rfl⟩
   | 2, ho => cases ho; exact ⟨fun o h => by simp at h, _, rfl, rfl, rfl, rfl, fun _ _ _ _ => .inl rfl⟩
   | 3, ho => cases ho; exact ⟨fun o h => by simp at h, _, rfl, rfl, rfl, rfl, fun _ _ _ _ => .inl rfl⟩
   | 4, ho => cases ho; exact ⟨fun o h => by simp at h, _, rfl, rfl, rfl, rfl, fun _ _ _ _ => .inl rfl⟩
   | 5, ho => simp at ho
   | _ + 6, ho => simp at ho
  have hb : (k + 1) * 8 ≤ 140737488355328 ∧ k + 1 ≤ 9223372036854775807 := by omega
  refine ze (by kernel_rfl) ?_
  refine zV 0 J (by kernel_rfl) (by kernel_rfl) (by kernel_rfl) J (zM J J J J J J) J ?_
  refine zV 1 J (by kernel_rfl) (by kernel_rfl) (by kernel_rfl) J (zAh J J J J (by first | (simp only [Nat.zero_add, Int.toNat_natCast]; exact J) | exact J) (by omega)) J ?_
  refine zV 3 J (by kernel_rfl) (by kernel_rfl) (by kernel_rfl) J (zK J J J J J J) J ?_
  refine zV 7 J (by kernel_rfl) (by kernel_rfl) (by kernel_rfl) J (zM J J J J J J) J ?_
  refine zV 8 J (by kernel_rfl) (by kernel_rfl) (by kernel_rfl) J (zAh J J J J (by first | (simp only [Nat.zero_add, Int.toNat_natCast]; exact J) | exact J) (by omega)) J ?_
  refine zV 10 J (by kernel_rfl) (by kernel_rfl) (by kernel_rfl) J (zK J J J J J J) J ?_
  refine zV 14 J (by kernel_rfl) (by kernel_rfl) (by kernel_rfl) J (zM J J J J J J) J ?_
  refine zV 17 J (by kernel_rfl) (by kernel_rfl) (by kernel_rfl) J (zM J J J J J J) J ?_
  apply zS (H := [none, some ⟨35, .box poZ⟩, some ⟨35, .box (poB r.start .any .any)⟩, some ⟨3, .ints .i64 (A ++ [p.hand])⟩, some ⟨3, .ints .i64 (A ++ [p.hand])⟩, none]) [(2, .ptr 1 0 0), (5, .ptr 2 0 0), (19, .ro (zAi r.pcs) 0 r.pcs.length), (20, iN r.pcs.length), (21, iN k), (31, .sl 3 0 (k + 1)), (38, .sl 4 0 (k + 1)), (40, .ptr 2 0 1), (41, .ptr 2 0 1)]
  intro fin
  apply zS (H := [none, some ⟨35, .box poZ⟩, some ⟨35, .box (poB r.start .any (.sl 4 0 k))⟩, some ⟨3, .ints .i64 (A ++ [p.hand])⟩, some ⟨3, .ints .i64 A⟩, none]) [(2, .ptr 1 0 0), (5, .ptr 2 0 0), (19, .ro (zAi r.pcs) 0 r.pcs.length), (20, iN r.pcs.length), (21, iN k), (7, .rp (.box (pcC p)) 0 0), (26, .ptr 2 0 1), (28, .rp (.box (pcC p)) 0 1), (33, .ptr 2 0 2), (35, .rp (.box (pcC p)) 0 1), (39, .ptr 2 0 1), (41, .ptr 2 0 1), (31, .sl 3 0 (k + 1)), (34, .sl 4 0 k), (37, .ro (.ints .i64 [p.hand]) 0 1), (40, .ptr 2 0 1)]
  intro s45
  apply zS (H := [none, some ⟨35, .box poZ⟩, some ⟨35, .box (poB r.start .any .any)⟩, some ⟨3, .ints .i64 (A ++ [p.hand])⟩, some ⟨3, .ints .i64 (A ++ [p.hand])⟩, none]) [(2, .ptr 1 0 0), (5, .ptr 2 0 0), (19, .ro (zAi r.pcs) 0 r.pcs.length), (20, iN r.pcs.length), (21, iN k), (7, .rp (.box (pcC p)) 0 0), (26, .ptr 2 0 1), (28, .rp (.box (pcC p)) 0 1), (33, .ptr 2 0 2), (35, .rp (.box (pcC p)) 0 1), (39, .ptr 2 0 1), (41, .ptr 2 0 1), (31, .sl 3 0 (k + 1)), (38, .sl 4 0 (k + 1))]
  intro s44
  apply zS (H := [none, some ⟨35, .box poZ⟩, some ⟨35, .box (poB r.start .any (.sl 4 0 k))⟩, some ⟨3, .ints .i64 (A ++ [p.hand])⟩, some ⟨3, .ints .i64 A⟩, none]) [(2, .ptr 1 0 0), (5, .ptr 2 0 0), (19, .ro (zAi r.pcs) 0 r.pcs.length), (20, iN r.pcs.length), (21, iN k), (7, .rp (.box (pcC p)) 0 0), (26, .ptr 2 0 1), (28, .rp (.box (pcC p)) 0 1), (33, .ptr 2 0 2), (35, .rp (.box (pcC p)) 0 1), (39, .ptr 2 0 1), (41, .ptr 2 0 1), (31, .sl 3 0 (k + 1)), (34, .sl 4 0 k), (36, .int .i64 p.hand), (40, .ptr 2 0 1)]
  intro s43
  apply zS (H := [none, some ⟨35, .box poZ⟩, some ⟨35, .box (poB r.start .any (.sl 4 0 k))⟩, some ⟨3, .ints .i64 (A ++ [p.hand])⟩, some ⟨3, .ints .i64 A⟩, none]) [(2, .ptr 1 0 0), (5, .ptr 2 0 0), (19, .ro (zAi r.pcs) 0 r.pcs.length), (20, iN r.pcs.length), (21, iN k), (7, .rp (.box (pcC p)) 0 0), (26, .ptr 2 0 1), (28, .rp (.box (pcC p)) 0 1), (33, .ptr 2 0 2), (35, .rp (.box (pcC p)) 0 1), (39, .ptr 2 0 1), (41, .ptr 2 0 1), (31, .sl 3 0 (k + 1)), (34, .sl 4 0 k), (37, .ro (.ints .i64 [p.hand]) 0 1)]
  intro s42
  apply zS (H := [none, some ⟨35, .box poZ⟩, some ⟨35, .box (poB r.start (.sl 3 0 k) (.sl 4 0 k))⟩, some ⟨3, .ints .i64 A⟩, some ⟨3, .ints .i64 A⟩, none]) [(2, .ptr 1 0 0), (5, .ptr 2 0 0), (19, .ro (zAi r.pcs) 0 r.pcs.length), (20, iN r.pcs.length), (21, iN k), (7, .rp (.box (pcC p)) 0 0), (26, .ptr 2 0 1), (28, .rp (.box (pcC p)) 0 1), (33, .ptr 2 0 2), (35, .rp (.box (pcC p)) 0 1), (39, .ptr 2 0 1), (41, .ptr 2 0 1), (27, .sl 3 0 k), (30, .ro (.ints .i64 [p.hand]) 0 1), (34, .sl 4 0 k), (37, .ro (.ints .i64 [p.hand]) 0 1)]
  intro s41
  apply zS (H := [none, some ⟨35, .box poZ⟩, some ⟨35, .box (poB r.start .any (.sl 4 0 k))⟩, some ⟨3, .ints .i64 (A ++ [p.hand])⟩, some ⟨3, .ints .i64 A⟩, none]) [(2, .ptr 1 0 0), (5, .ptr 2 0 0), (19, .ro (zAi r.pcs) 0 r.pcs.length), (20, iN r.pcs.length), (21, iN k), (7, .rp (.box (pcC p)) 0 0), (26, .ptr 2 0 1), (28, .rp (.box (pcC p)) 0 1), (33, .ptr 2 0 2), (35, .rp (.box (pcC p)) 0 1), (39, .ptr 2 0 1), (41, .ptr 2 0 1), (31, .sl 3 0 (k + 1)), (37, .ro (.ints .i64 [p.hand]) 0 1)]
  intro s40
  apply zS (H := [none, some ⟨35, .box poZ⟩, some ⟨35, .box (poB r.start .any (.sl 4 0 k))⟩, some ⟨3, .ints .i64 (A ++ [p.hand])⟩, some ⟨3, .ints .i64 A⟩, none]) [(2, .ptr 1 0 0), (5, .ptr 2 0 0), (19, .ro (zAi r.pcs) 0 r.pcs.length), (20, iN r.pcs.length), (21, iN k), (7, .rp (.box (pcC p)) 0 0), (26, .ptr 2 0 1), (28, .rp (.box (pcC p)) 0 1), (33, .ptr 2 0 2), (35, .rp (.box (pcC p)) 0 1), (39, .ptr 2 0 1), (41, .ptr 2 0 1), (31, .sl 3 0 (k + 1)), (34, .sl 4 0 k), (40, .ptr 2 0 1)]
  intro s39
  apply zS (H := [none, some ⟨35, .box poZ⟩, some ⟨35, .box (poB r.start .any (.sl 4 0 k))⟩, some ⟨3, .ints .i64 (A ++ [p.hand])⟩, some ⟨3, .ints .i64 A⟩, none]) [(2, .ptr 1 0 0), (5, .ptr 2 0 0), (19, .ro (zAi r.pcs) 0 r.pcs.length), (20, iN r.pcs.length), (21, iN k), (7, .rp (.box (pcC p)) 0 0), (26, .ptr 2 0 1), (28, .rp (.box (pcC p)) 0 1), (33, .ptr 2 0 2), (35, .rp (.box (pcC p)) 0 1), (39, .ptr 2 0 1), (41, .ptr 2 0 1), (31, .sl 3 0 (k + 1)), (34, .sl 4 0 k), (36, .int .i64 p.hand)]
  intro s38
  apply zS (H := [none, some ⟨35, .box poZ⟩, some ⟨35, .box (poB r.start (.sl 3 0 k) (.sl 4 0 k))⟩, some ⟨3, .ints .i64 A⟩, some ⟨3, .ints .i64 A⟩, none]) [(2, .ptr 1 0 0), (5, .ptr 2 0 0), (19, .ro (zAi r.pcs) 0 r.pcs.length), (20, iN r.pcs.length), (21, iN k), (7, .rp (.box (pcC p)) 0 0), (26, .ptr 2 0 1), (28, .rp (.box (pcC p)) 0 1), (33, .ptr 2 0 2), (35, .rp (.box (pcC p)) 0 1), (39, .ptr 2 0 1), (41, .ptr 2 0 1), (30, .ro (.ints .i64 [p.hand]) 0 1), (34, .sl 4 0 k), (37, .ro (.ints .i64 [p.hand]) 0 1)]
  intro s37
  apply zS (H := [none, some ⟨35, .box poZ⟩, some ⟨35, .box (poB r.start (.sl 3 0 k) (.sl 4 0 k))⟩, some ⟨3, .ints .i64 A⟩, some ⟨3, .ints .i64 A⟩, none]) [(2, .ptr 1 0 0), (5, .ptr 2 0 0), (19, .ro (zAi r.pcs) 0 r.pcs.length), (20, iN r.pcs.length), (21, iN k), (7, .rp (.box (pcC p)) 0 0), (26, .ptr 2 0 1), (28, .rp (.box (pcC p)) 0 1), (33, .ptr 2 0 2), (35, .rp (.box (pcC p)) 0 1), (39, .ptr 2 0 1), (41, .ptr 2 0 1), (27, .sl 3 0 k), (29, .int .i64 p.hand), (34, .sl 4 0 k), (37, .ro (.ints .i64 [p.hand]) 0 1)]
  intro s36
  apply zS (H := [none, some ⟨35, .box poZ⟩, some ⟨35, .box (poB r.start (.sl 3 0 k) (.sl 4 0 k))⟩, some ⟨3, .ints .i64 A⟩, some ⟨3, .ints .i64 A⟩, none]) [(2, .ptr 1 0 0), (5, .ptr 2 0 0), (19, .ro (zAi r.pcs) 0 r.pcs.length), (20, iN r.pcs.length), (21, iN k), (7, .rp (.box (pcC p)) 0 0), (26, .ptr 2 0 1), (28, .rp (.box (pcC p)) 0 1), (33, .ptr 2 0 2), (35, .rp (.box (pcC p)) 0 1), (39, .ptr 2 0 1), (41, .ptr 2 0 1), (27, .sl 3 0 k), (30, .ro (.ints .i64 [p.hand]) 0 1), (37, .ro (.ints .i64 [p.hand]) 0 1)]
  intro s35
  apply zS (H := [none, some ⟨35, .box poZ⟩, some ⟨35, .box (poB r.start (.sl 3 0 k) (.sl 4 0 k))⟩, some ⟨3, .ints .i64 A⟩, some ⟨3, .ints .i64 A⟩, none]) [(2, .ptr 1 0 0), (5, .ptr 2 0 0), (19, .ro (zAi r.pcs) 0 r.pcs.length), (20, iN r.pcs.length), (21, iN k), (7, .rp (.box (pcC p)) 0 0), (26, .ptr 2 0 1), (28, .rp (.box (pcC p)) 0 1), (33, .ptr 2 0 2), (35, .rp (.box (pcC p)) 0 1), (39, .ptr 2 0 1), (41, .ptr 2 0 1), (27, .sl 3 0 k), (30, .ro (.ints .i64 [p.hand]) 0 1), (34, .sl 4 0 k), (36, .int .i64 p.hand)]
  intro s34
  apply zS (H := [none, some ⟨35, .box poZ⟩, some ⟨35, .box (poB r.start .any (.sl 4 0 k))⟩, some ⟨3, .ints .i64 (A ++ [p.hand])⟩, some ⟨3, .ints .i64 A⟩, none]) [(2, .ptr 1 0 0), (5, .ptr 2 0 0), (19, .ro (zAi r.pcs) 0 r.pcs.length), (20, iN r.pcs.length), (21, iN k), (7, .rp (.box (pcC p)) 0 0), (26, .ptr 2 0 1), (28, .rp (.box (pcC p)) 0 1), (33, .ptr 2 0 2), (35, .rp (.box (pcC p)) 0 1), (39, .ptr 2 0 1), (41, .ptr 2 0 1), (31, .sl 3 0 (k + 1)), (36, .int .i64 p.hand)]
  intro s33
  apply zS (H := [none, some ⟨35, .box poZ⟩, some ⟨35, .box (poB r.start .any (.sl 4 0 k))⟩, some ⟨3, .ints .i64 (A ++ [p.hand])⟩, some ⟨3, .ints .i64 A⟩, none]) [(2, .ptr 1 0 0), (5, .ptr 2 0 0), (19, .ro (zAi r.pcs) 0 r.pcs.length), (20, iN r.pcs.length), (21, iN k), (7, .rp (.box (pcC p)) 0 0), (26, .ptr 2 0 1), (28, .rp (.box (pcC p)) 0 1), (33, .ptr 2 0 2), (35, .rp (.box (pcC p)) 0 1), (39, .ptr 2 0 1), (41, .ptr 2 0 1), (31, .sl 3 0 (k + 1)), (34, .sl 4 0 k)]
  intro s32
  apply zS (H := [none, some ⟨35, .box poZ⟩, some ⟨35, .box (poB r.start (.sl 3 0 k) (.sl 4 0 k))⟩, some ⟨3, .ints .i64 A⟩, some ⟨3, .ints .i64 A⟩, none]) [(2, .ptr 1 0 0), (5, .ptr 2 0 0), (19, .ro (zAi r.pcs) 0 r.pcs.length), (20, iN r.pcs.length), (21, iN k), (7, .rp (.box (pcC p)) 0 0), (26, .ptr 2 0 1), (28, .rp (.box (pcC p)) 0 1), (33, .ptr 2 0 2), (35, .rp (.box (pcC p)) 0 1), (39, .ptr 2 0 1), (41, .ptr 2 0 1), (29, .int .i64 p.hand), (34, .sl 4 0 k), (37, .ro (.ints .i64 [p.hand]) 0 1)]
  intro s31
  apply zS (H := [none, some ⟨35, .box poZ⟩, some ⟨35, .box (poB r.start (.sl 3 0 k) (.sl 4 0 k))⟩, some ⟨3, .ints .i64 A⟩, some ⟨3, .ints .i64 A⟩, none]) [(2, .ptr 1 0 0), (5, .ptr 2 0 0), (19, .ro (zAi r.pcs) 0 r.pcs.length), (20, iN r.pcs.length), (21, iN k), (7, .rp (.box (pcC p)) 0 0), (26, .ptr 2 0 1), (28, .rp (.box (pcC p)) 0 1), (33, .ptr 2 0 2), (35, .rp (.box (pcC p)) 0 1), (39, .ptr 2 0 1), (41, .ptr 2 0 1), (30, .ro (.ints .i64 [p.hand]) 0 1), (37, .ro (.ints .i64 [p.hand]) 0 1)]
  intro s30
  apply zS (H := [none, some ⟨35, .box poZ⟩, some ⟨35, .box (poB r.start (.sl 3 0 k) (.sl 4 0 k))⟩, some ⟨3, .ints .i64 A⟩, some ⟨3, .ints .i64 A⟩, none]) [(2, .ptr 1 0 0), (5, .ptr 2 0 0), (19, .ro (zAi r.pcs) 0 r.pcs.length), (20, iN r.pcs.length), (21, iN k), (7, .rp (.box (pcC p)) 0 0), (26, .ptr 2 0 1), (28, .rp (.box (pcC p)) 0 1), (33, .ptr 2 0 2), (35, .rp (.box (pcC p)) 0 1), (39, .ptr 2 0 1), (41, .ptr 2 0 1), (30, .ro (.ints .i64 [p.hand]) 0 1), (34, .sl 4 0 k), (36, .int .i64 p.hand)]
  intro s29
  apply zS (H := [none, some ⟨35, .box poZ⟩, some ⟨35, .box (poB r.start (.sl 3 0 k) (.sl 4 0 k))⟩, some ⟨3, .ints .i64 A⟩, some ⟨3, .ints .i64 A⟩, none]) [(2, .ptr 1 0 0), (5, .ptr 2 0 0), (19, .ro (zAi r.pcs) 0 r.pcs.length), (20, iN r.pcs.length), (21, iN k), (7, .rp (.box (pcC p)) 0 0), (26, .ptr 2 0 1), (28, .rp (.box (pcC p)) 0 1), (33, .ptr 2 0 2), (35, .rp (.box (pcC p)) 0 1), (39, .ptr 2 0 1), (41, .ptr 2 0 1), (27, .sl 3 0 k), (34, .sl 4 0 k), (37, .ro (.ints .i64 [p.hand]) 0 1)]
  intro s28
  apply zS (H := [none, some ⟨35, .box poZ⟩, some ⟨35, .box (poB r.start (.sl 3 0 k) (.sl 4 0 k))⟩, some ⟨3, .ints .i64 A⟩, some ⟨3, .ints .i64 A⟩, none]) [(2, .ptr 1 0 0), (5, .ptr 2 0 0), (19, .ro (zAi r.pcs) 0 r.pcs.length), (20, iN r.pcs.length), (21, iN k), (7, .rp (.box (pcC p)) 0 0), (26, .ptr 2 0 1), (28, .rp (.box (pcC p)) 0 1), (33, .ptr 2 0 2), (35, .rp (.box (pcC p)) 0 1), (39, .ptr 2 0 1), (41, .ptr 2 0 1), (27, .sl 3 0 k), (29, .int .i64 p.hand), (37, .ro (.ints .i64 [p.hand]) 0 1)]
  intro s27
  apply zS (H := [none, some ⟨35, .box poZ⟩, some ⟨35, .box (poB r.start (.sl 3 0 k) (.sl 4 0 k))⟩, some ⟨3, .ints .i64 A⟩, some ⟨3, .ints .i64 A⟩, none]) [(2, .ptr 1 0 0), (5, .ptr 2 0 0), (19, .ro (zAi r.pcs) 0 r.pcs.length), (20, iN r.pcs.length), (21, iN k), (7, .rp (.box (pcC p)) 0 0), (26, .ptr 2 0 1), (28, .rp (.box (pcC p)) 0 1), (33, .ptr 2 0 2), (35, .rp (.box (pcC p)) 0 1), (39, .ptr 2 0 1), (41, .ptr 2 0 1), (27, .sl 3 0 k), (29, .int .i64 p.hand), (34, .sl 4 0 k), (36, .int .i64 p.hand)]
  intro s26
  apply zS (H := [none, some ⟨35, .box poZ⟩, some ⟨35, .box (poB r.start (.sl 3 0 k) (.sl 4 0 k))⟩, some ⟨3, .ints .i64 A⟩, some ⟨3, .ints .i64 A⟩, none]) [(2, .ptr 1 0 0), (5, .ptr 2 0 0), (19, .ro (zAi r.pcs) 0 r.pcs.length), (20, iN r.pcs.length), (21, iN k), (7, .rp (.box (pcC p)) 0 0), (26, .ptr 2 0 1), (28, .rp (.box (pcC p)) 0 1), (33, .ptr 2 0 2), (35, .rp (.box (pcC p)) 0 1), (39, .ptr 2 0 1), (41, .ptr 2 0 1), (27, .sl 3 0 k), (30, .ro (.ints .i64 [p.hand]) 0 1), (36, .int .i64 p.hand)]
  intro s25
  apply zS (H := [none, some ⟨35, .box poZ⟩, some ⟨35, .box (poB r.start (.sl 3 0 k) (.sl 4 0 k))⟩, some ⟨3, .ints .i64 A⟩, some ⟨3, .ints .i64 A⟩, none]) [(2, .ptr 1 0 0), (5, .ptr 2 0 0), (19, .ro (zAi r.pcs) 0 r.pcs.length), (20, iN r.pcs.length), (21, iN k), (7, .rp (.box (pcC p)) 0 0), (26, .ptr 2 0 1), (28, .rp (.box (pcC p)) 0 1), (33, .ptr 2 0 2), (35, .rp (.box (pcC p)) 0 1), (39, .ptr 2 0 1), (41, .ptr 2 0 1), (27, .sl 3 0 k), (30, .ro (.ints .i64 [p.hand]) 0 1), (34, .sl 4 0 k)]
  intro s24
  apply zS (H := [none, some ⟨35, .box poZ⟩, some ⟨35, .box (poB r.start .any (.sl 4 0 k))⟩, some ⟨3, .ints .i64 (A ++ [p.hand])⟩, some ⟨3, .ints .i64 A⟩, none]) [(2, .ptr 1 0 0), (5, .ptr 2 0 0), (19, .ro (zAi r.pcs) 0 r.pcs.length), (20, iN r.pcs.length), (21, iN k), (7, .rp (.box (pcC p)) 0 0), (26, .ptr 2 0 1), (28, .rp (.box (pcC p)) 0 1), (33, .ptr 2 0 2), (35, .rp (.box (pcC p)) 0 1), (39, .ptr 2 0 1), (41, .ptr 2 0 1), (31, .sl 3 0 (k + 1))]
  intro s23
  apply zS (H := [none, some ⟨35, .box poZ⟩, some ⟨35, .box (poB r.start (.sl 3 0 k) (.sl 4 0 k))⟩, some ⟨3, .ints .i64 A⟩, some ⟨3, .ints .i64 A⟩, none]) [(2, .ptr 1 0 0), (5, .ptr 2 0 0), (19, .ro (zAi r.pcs) 0 r.pcs.length), (20, iN r.pcs.length), (21, iN k), (7, .rp (.box (pcC p)) 0 0), (26, .ptr 2 0 1), (28, .rp (.box (pcC p)) 0 1), (33, .ptr 2 0 2), (35, .rp (.box (pcC p)) 0 1), (39, .ptr 2 0 1), (41, .ptr 2 0 1), (34, .sl 4 0 k), (37, .ro (.ints .i64 [p.hand]) 0 1)]
  intro s22
  apply zS (H := [none, some ⟨35, .box poZ⟩, some ⟨35, .box (poB r.start (.sl 3 0 k) (.sl 4 0 k))⟩, some ⟨3, .ints .i64 A⟩, some ⟨3, .ints .i64 A⟩, none]) [(2, .ptr 1 0 0), (5, .ptr 2 0 0), (19, .ro (zAi r.pcs) 0 r.pcs.length), (20, iN r.pcs.length), (21, iN k), (7, .rp (.box (pcC p)) 0 0), (26, .ptr 2 0 1), (28, .rp (.box (pcC p)) 0 1), (33, .ptr 2 0 2), (35, .rp (.box (pcC p)) 0 1), (39, .ptr 2 0 1), (41, .ptr 2 0 1), (29, .int .i64 p.hand), (37, .ro (.ints .i64 [p.hand]) 0 1)]
  intro s21
  apply zS (H := [none, some ⟨35, .box poZ⟩, some ⟨35, .box (poB r.start (.sl 3 0 k) (.sl 4 0 k))⟩, some ⟨3, .ints .i64 A⟩, some ⟨3, .ints .i64 A⟩, none]) [(2, .ptr 1 0 0), (5, .ptr 2 0 0), (19, .ro (zAi r.pcs) 0 r.pcs.length), (20, iN r.pcs.length), (21, iN k), (7, .rp (.box (pcC p)) 0 0), (26, .ptr 2 0 1), (28, .rp (.box (pcC p)) 0 1), (33, .ptr 2 0 2), (35, .rp (.box (pcC p)) 0 1), (39, .ptr 2 0 1), (41, .ptr 2 0 1), (29, .int .i64 p.hand), (34, .sl 4 0 k), (36, .int .i64 p.hand)]
  intro s20
  apply zS (H := [none, some ⟨35, .box poZ⟩, some ⟨35, .box (poB r.start (.sl 3 0 k) (.sl 4 0 k))⟩, some ⟨3, .ints .i64 A⟩, some ⟨3, .ints .i64 A⟩, none]) [(2, .ptr 1 0 0), (5, .ptr 2 0 0), (19, .ro (zAi r.pcs) 0 r.pcs.length), (20, iN r.pcs.length), (21, iN k), (7, .rp (.box (pcC p)) 0 0), (26, .ptr 2 0 1), (28, .rp (.box (pcC p)) 0 1), (33, .ptr 2 0 2), (35, .rp (.box (pcC p)) 0 1), (39, .ptr 2 0 1), (41, .ptr 2 0 1), (30, .ro (.ints .i64 [p.hand]) 0 1), (36, .int .i64 p.hand)]
  intro s19
  apply zS (H := [none, some ⟨35, .box poZ⟩, some ⟨35, .box (poB r.start (.sl 3 0 k) (.sl 4 0 k))⟩, some ⟨3, .ints .i64 A⟩, some ⟨3, .ints .i64 A⟩, none]) [(2, .ptr 1 0 0), (5, .ptr 2 0 0), (19, .ro (zAi r.pcs) 0 r.pcs.length), (20, iN r.pcs.length), (21, iN k), (7, .rp (.box (pcC p)) 0 0), (26, .ptr 2 0 1), (28, .rp (.box (pcC p)) 0 1), (33, .ptr 2 0 2), (35, .rp (.box (pcC p)) 0 1), (39, .ptr 2 0 1), (41, .ptr 2 0 1), (30, .ro (.ints .i64 [p.hand]) 0 1), (34, .sl 4 0 k)]
  intro s18
  apply zS (H := [none, some ⟨35, .box poZ⟩, some ⟨35, .box (poB r.start (.sl 3 0 k) (.sl 4 0 k))⟩, some ⟨3, .ints .i64 A⟩, some ⟨3, .ints .i64 A⟩, none]) [(2, .ptr 1 0 0), (5, .ptr 2 0 0), (19, .ro (zAi r.pcs) 0 r.pcs.length), (20, iN r.pcs.length), (21, iN k), (7, .rp (.box (pcC p)) 0 0), (26, .ptr 2 0 1), (28, .rp (.box (pcC p)) 0 1), (33, .ptr 2 0 2), (35, .rp (.box (pcC p)) 0 1), (39, .ptr 2 0 1), (41, .ptr 2 0 1), (27, .sl 3 0 k), (37, .ro (.ints .i64 [p.hand]) 0 1)]
  intro s17
  apply zS (H := [none, some ⟨35, .box poZ⟩, some ⟨35, .box (poB r.start (.sl 3 0 k) (.sl 4 0 k))⟩, some ⟨3, .ints .i64 A⟩, some ⟨3, .ints .i64 A⟩, none]) [(2, .ptr 1 0 0), (5, .ptr 2 0 0), (19, .ro (zAi r.pcs) 0 r.pcs.length), (20, iN r.pcs.length), (21, iN k), (7, .rp (.box (pcC p)) 0 0), (26, .ptr 2 0 1), (28, .rp (.box (pcC p)) 0 1), (33, .ptr 2 0 2), (35, .rp (.box (pcC p)) 0 1), (39, .ptr 2 0 1), (41, .ptr 2 0 1), (27, .sl 3 0 k), (34, .sl 4 0 k), (36, .int .i64 p.hand)]
  intro s16
  apply zS (H := [none, some ⟨35, .box poZ⟩, some ⟨35, .box (poB r.start (.sl 3 0 k) (.sl 4 0 k))⟩, some ⟨3, .ints .i64 A⟩, some ⟨3, .ints .i64 A⟩, none]) [(2, .ptr 1 0 0), (5, .ptr 2 0 0), (19, .ro (zAi r.pcs) 0 r.pcs.length), (20, iN r.pcs.length), (21, iN k), (7, .rp (.box (pcC p)) 0 0), (26, .ptr 2 0 1), (28, .rp (.box (pcC p)) 0 1), (33, .ptr 2 0 2), (35, .rp (.box (pcC p)) 0 1), (39, .ptr 2 0 1), (41, .ptr 2 0 1), (27, .sl 3 0 k), (29, .int .i64 p.hand), (36, .int .i64 p.hand)]
  intro s15
  apply zS (H := [none, some ⟨35, .box poZ⟩, some ⟨35, .box (poB r.start (.sl 3 0 k) (.sl 4 0 k))⟩, some ⟨3, .ints .i64 A⟩, some ⟨3, .ints .i64 A⟩, none]) [(2, .ptr 1 0 0), (5, .ptr 2 0 0), (19, .ro (zAi r.pcs) 0 r.pcs.length), (20, iN r.pcs.length), (21, iN k), (7, .rp (.box (pcC p)) 0 0), (26, .ptr 2 0 1), (28, .rp (.box (pcC p)) 0 1), (33, .ptr 2 0 2), (35, .rp (.box (pcC p)) 0 1), (39, .ptr 2 0 1), (41, .ptr 2 0 1), (27, .sl 3 0 k), (29, .int .i64 p.hand), (34, .sl 4 0 k)]
  intro s14
  apply zS (H := [none, some ⟨35, .box poZ⟩, some ⟨35, .box (poB r.start (.sl 3 0 k) (.sl 4 0 k))⟩, some ⟨3, .ints .i64 A⟩, some ⟨3, .ints .i64 A⟩, none]) [(2, .ptr 1 0 0), (5, .ptr 2 0 0), (19, .ro (zAi r.pcs) 0 r.pcs.length), (20, iN r.pcs.length), (21, iN k), (7, .rp (.box (pcC p)) 0 0), (26, .ptr 2 0 1), (28, .rp (.box (pcC p)) 0 1), (33, .ptr 2 0 2), (35, .rp (.box (pcC p)) 0 1), (39, .ptr 2 0 1), (41, .ptr 2 0 1), (27, .sl 3 0 k), (30, .ro (.ints .i64 [p.hand]) 0 1)]
  intro s13
  apply zS (H := [none, some ⟨35, .box poZ⟩, some ⟨35, .box (poB r.start (.sl 3 0 k) (.sl 4 0 k))⟩, some ⟨3, .ints .i64 A⟩, some ⟨3, .ints .i64 A⟩, none]) [(2, .ptr 1 0 0), (5, .ptr 2 0 0), (19, .ro (zAi r.pcs) 0 r.pcs.length), (20, iN r.pcs.length), (21, iN k), (7, .rp (.box (pcC p)) 0 0), (26, .ptr 2 0 1), (28, .rp (.box (pcC p)) 0 1), (33, .ptr 2 0 2), (35, .rp (.box (pcC p)) 0 1), (39, .ptr 2 0 1), (41, .ptr 2 0 1), (37, .ro (.ints .i64 [p.hand]) 0 1)]
  intro s12
  apply zS (H := [none, some ⟨35, .box poZ⟩, some ⟨35, .box (poB r.start (.sl 3 0 k) (.sl 4 0 k))⟩, some ⟨3, .ints .i64 A⟩, some ⟨3, .ints .i64 A⟩, none]) [(2, .ptr 1 0 0), (5, .ptr 2 0 0), (19, .ro (zAi r.pcs) 0 r.pcs.length), (20, iN r.pcs.length), (21, iN k), (7, .rp (.box (pcC p)) 0 0), (26, .ptr 2 0 1), (28, .rp (.box (pcC p)) 0 1), (33, .ptr 2 0 2), (35, .rp (.box (pcC p)) 0 1), (39, .ptr 2 0 1), (41, .ptr 2 0 1), (34, .sl 4 0 k), (36, .int .i64 p.hand)]
  intro s11
  apply zS (H := [none, some ⟨35, .box poZ⟩, some ⟨35, .box (poB r.start (.sl 3 0 k) (.sl 4 0 k))⟩, some ⟨3, .ints .i64 A⟩, some ⟨3, .ints .i64 A⟩, none]) [(2, .ptr 1 0 0), (5, .ptr 2 0 0), (19, .ro (zAi r.pcs) 0 r.pcs.length), (20, iN r.pcs.length), (21, iN k), (7, .rp (.box (pcC p)) 0 0), (26, .ptr 2 0 1), (28, .rp (.box (pcC p)) 0 1), (33, .ptr 2 0 2), (35, .rp (.box (pcC p)) 0 1), (39, .ptr 2 0 1), (41, .ptr 2 0 1), (29, .int .i64 p.hand), (36, .int .i64 p.hand)]
  intro s10
  apply zS (H := [none, some ⟨35, .box poZ⟩, some ⟨35, .box (poB r.start (.sl 3 0 k) (.sl 4 0 k))⟩, some ⟨3, .ints .i64 A⟩, some ⟨3, .ints .i64 A⟩, none]) [(2, .ptr 1 0 0), (5, .ptr 2 0 0), (19, .ro (zAi r.pcs) 0 r.pcs.length), (20, iN r.pcs.length), (21, iN k), (7, .rp (.box (pcC p)) 0 0), (26, .ptr 2 0 1), (28, .rp (.box (pcC p)) 0 1), (33, .ptr 2 0 2), (35, .rp (.box (pcC p)) 0 1), (39, .ptr 2 0 1), (41, .ptr 2 0 1), (29, .int .i64 p.hand), (34, .sl 4 0 k)]
  intro s9
  apply zS (H := [none, some ⟨35, .box poZ⟩, some ⟨35, .box (poB r.start (.sl 3 0 k) (.sl 4 0 k))⟩, some ⟨3, .ints .i64 A⟩, some ⟨3, .ints .i64 A⟩, none]) [(2, .ptr 1 0 0), (5, .ptr 2 0 0), (19, .ro (zAi r.pcs) 0 r.pcs.length), (20, iN r.pcs.length), (21, iN k), (7, .rp (.box (pcC p)) 0 0), (26, .ptr 2 0 1), (28, .rp (.box (pcC p)) 0 1), (33, .ptr 2 0 2), (35, .rp (.box (pcC p)) 0 1), (39, .ptr 2 0 1), (41, .ptr 2 0 1), (30, .ro (.ints .i64 [p.hand]) 0 1)]
  intro s8
  apply zS (H := [none, some ⟨35, .box poZ⟩, some ⟨35, .box (poB r.start (.sl 3 0 k) (.sl 4 0 k))⟩, some ⟨3, .ints .i64 A⟩, some ⟨3, .ints .i64 A⟩, none]) [(2, .ptr 1 0 0), (5, .ptr 2 0 0), (19, .ro (zAi r.pcs) 0 r.pcs.length), (20, iN r.pcs.length), (21, iN k), (7, .rp (.box (pcC p)) 0 0), (26, .ptr 2 0 1), (28, .rp (.box (pcC p)) 0 1), (33, .ptr 2 0 2), (35, .rp (.box (pcC p)) 0 1), (39, .ptr 2 0 1), (41, .ptr 2 0 1), (27, .sl 3 0 k), (36, .int .i64 p.hand)]
  intro s7
  apply zS (H := [none, some ⟨35, .box poZ⟩, some ⟨35, .box (poB r.start (.sl 3 0 k) (.sl 4 0 k))⟩, some ⟨3, .ints .i64 A⟩, some ⟨3, .ints .i64 A⟩, none]) [(2, .ptr 1 0 0), (5, .ptr 2 0 0), (19, .ro (zAi r.pcs) 0 r.pcs.length), (20, iN r.pcs.length), (21, iN k), (7, .rp (.box (pcC p)) 0 0), (26, .ptr 2 0 1), (28, .rp (.box (pcC p)) 0 1), (33, .ptr 2 0 2), (35, .rp (.box (pcC p)) 0 1), (39, .ptr 2 0 1), (41, .ptr 2 0 1), (27, .sl 3 0 k), (34, .sl 4 0 k)]
  intro s6
  apply zS (H := [none, some ⟨35, .box poZ⟩, some ⟨35, .box (poB r.start (.sl 3 0 k) (.sl 4 0 k))⟩, some ⟨3, .ints .i64 A⟩, some ⟨3, .ints .i64 A⟩, none]) [(2, .ptr 1 0 0), (5, .ptr 2 0 0), (19, .ro (zAi r.pcs) 0 r.pcs.length), (20, iN r.pcs.length), (21, iN k), (7, .rp (.box (pcC p)) 0 0), (26, .ptr 2 0 1), (28, .rp (.box (pcC p)) 0 1), (33, .ptr 2 0 2), (35, .rp (.box (pcC p)) 0 1), (39, .ptr 2 0 1), (41, .ptr 2 0 1), (27, .sl 3 0 k), (29, .int .i64 p.hand)]
  intro s5
  apply zS (H := [none, some ⟨35, .box poZ⟩, some ⟨35, .box (poB r.start (.sl 3 0 k) (.sl 4 0 k))⟩, some ⟨3, .ints .i64 A⟩, some ⟨3, .ints .i64 A⟩, none]) [(2, .ptr 1 0 0), (5, .ptr 2 0 0), (19, .ro (zAi r.pcs) 0 r.pcs.length), (20, iN r.pcs.length), (21, iN k), (7, .rp (.box (pcC p)) 0 0), (26, .ptr 2 0 1), (28, .rp (.box (pcC p)) 0 1), (33, .ptr 2 0 2), (35, .rp (.box (pcC p)) 0 1), (39, .ptr 2 0 1), (41, .ptr 2 0 1), (36, .int .i64 p.hand)]
  intro s4
  apply zS (H := [none, some ⟨35, .box poZ⟩, some ⟨35, .box (poB r.start (.sl 3 0 k) (.sl 4 0 k))⟩, some ⟨3, .ints .i64 A⟩, some ⟨3, .ints .i64 A⟩, none]) [(2, .ptr 1 0 0), (5, .ptr 2 0 0), (19, .ro (zAi r.pcs) 0 r.pcs.length), (20, iN r.pcs.length), (21, iN k), (7, .rp (.box (pcC p)) 0 0), (26, .ptr 2 0 1), (28, .rp (.box (pcC p)) 0 1), (33, .ptr 2 0 2), (35, .rp (.box (pcC p)) 0 1), (39, .ptr 2 0 1), (41, .ptr 2 0 1), (34, .sl 4 0 k)]
  intro s3
  apply zS (H := [none, some ⟨35, .box poZ⟩, some ⟨35, .box (poB r.start (.sl 3 0 k) (.sl 4 0 k))⟩, some ⟨3, .ints .i64 A⟩, some ⟨3, .ints .i64 A⟩, none]) [(2, .ptr 1 0 0), (5, .ptr 2 0 0), (19, .ro (zAi r.pcs) 0 r.pcs.length), (20, iN r.pcs.length), (21, iN k), (7, .rp (.box (pcC p)) 0 0), (26, .ptr 2 0 1), (28, .rp (.box (pcC p)) 0 1), (33, .ptr 2 0 2), (35, .rp (.box (pcC p)) 0 1), (39, .ptr 2 0 1), (41, .ptr 2 0 1), (29, .int .i64 p.hand)]
  intro s2
  apply zS (H := [none, some ⟨35, .box poZ⟩, some ⟨35, .box (poB r.start (.sl 3 0 k) (.sl 4 0 k))⟩, some ⟨3, .ints .i64 A⟩, some ⟨3, .ints .i64 A⟩, none]) [(2, .ptr 1 0 0), (5, .ptr 2 0 0), (19, .ro (zAi r.pcs) 0 r.pcs.length), (20, iN r.pcs.length), (21, iN k), (7, .rp (.box (pcC p)) 0 0), (26, .ptr 2 0 1), (28, .rp (.box (pcC p)) 0 1), (33, .ptr 2 0 2), (35, .rp (.box (pcC p)) 0 1), (39, .ptr 2 0 1), (41, .ptr 2 0 1), (27, .sl 3 0 k)]
  intro s1
  ·refine zH (is := [2, 4, 9, 11]) (by kernel_rfl) (by simp) J ⟨fun o ho => ?_, fun o ho => ?_, fun o ho => ?_, fun o ho => ?_, trivial⟩
   all_goals (cases ho)
   ·refine rn4 ?_
    exact s1 _ ⟨J, J, J, J, J, J, J, J, J, J, J, J, J, trivial⟩
   ·repeat (first | refine zC ?_ | refine zX ?_ | refine zA (zD rfl rfl rfl rfl) ?_)
    exact s2 _ ⟨J, J, J, J, J, J, J, J, J, J, J, J, J, trivial⟩
   ·refine rn4 ?_
    exact s3 _ ⟨J, J, J, J, J, J, J, J, J, J, J, J, J, trivial⟩
   ·repeat (first | refine zC ?_ | refine zX ?_ | refine zA (zD rfl rfl rfl rfl) ?_)
    exact s4 _ ⟨J, J, J, J, J, J, J, J, J, J, J, J, J, trivial⟩
  ·refine zH (is := [4, 9, 11]) (by kernel_rfl) (by simp) J ⟨fun o ho => ?_, fun o ho => ?_, fun o ho => ?_, trivial⟩
   all_goals (cases ho)
   ·repeat (first | refine zC ?_ | refine zX ?_ | refine zA (zD rfl rfl rfl rfl) ?_)
    exact s5 _ ⟨J, J, J, J, J, J, J, J, J, J, J, J, J, J, trivial⟩
   ·refine rn4 ?_
    exact s6 _ ⟨J, J, J, J, J, J, J, J, J, J, J, J, J, J, trivial⟩
   ·repeat (first | refine zC ?_ | refine zX ?_ | refine zA (zD rfl rfl rfl rfl) ?_)
    exact s7 _ ⟨J, J, J, J, J, J, J, J, J, J, J, J, J, J, trivial⟩
  ·refine zH (is := [2, 5, 9, 11]) (by kernel_rfl) (by simp) J ⟨fun o ho => ?_, fun o ho => ?_, fun o ho => ?_, fun o ho => ?_, trivial⟩
   all_goals (cases ho)
   ·refine rn4 ?_
    exact s5 _ ⟨J, J, J, J, J, J, J, J, J, J, J, J, J, J, trivial⟩
   ·refine rn3 ?_
    exact s8 _ ⟨J, J, J, J, J, J, J, J, J, J, J, J, J, trivial⟩
   ·refine rn4 ?_
    exact s9 _ ⟨J, J, J, J, J, J, J, J, J, J, J, J, J, J, trivial⟩
   ·repeat (first | refine zC ?_ | refine zX ?_ | refine zA (zD rfl rfl rfl rfl) ?_)
    exact s10 _ ⟨J, J, J, J, J, J, J, J, J, J, J, J, J, J, trivial⟩
  ·refine zH (is := [2, 4, 11]) (by kernel_rfl) (by simp) J ⟨fun o ho => ?_, fun o ho => ?_, fun o ho => ?_, trivial⟩
   all_goals (cases ho)
   ·refine rn4 ?_
    exact s6 _ ⟨J, J, J, J, J, J, J, J, J, J, J, J, J, J, trivial⟩
   ·repeat (first | refine zC ?_ | refine zX ?_ | refine zA (zD rfl rfl rfl rfl) ?_)
    exact s9 _ ⟨J, J, J, J, J, J, J, J, J, J, J, J, J, J, trivial⟩
   ·repeat (first | refine zC ?_ | refine zX ?_ | refine zA (zD rfl rfl rfl rfl) ?_)
    exact s11 _ ⟨J, J, J, J, J, J, J, J, J, J, J, J, J, J, trivial⟩
  ·refine zH (is := [2, 4, 9, 12]) (by kernel_rfl) (by simp) J ⟨fun o ho => ?_, fun o ho => ?_, fun o ho => ?_, fun o ho => ?_, trivial⟩
   all_goals (cases ho)
   ·refine rn4 ?_
    exact s7 _ ⟨J, J, J, J, J, J, J, J, J, J, J, J, J, J, trivial⟩
   ·repeat (first | refine zC ?_ | refine zX ?_ | refine zA (zD rfl rfl rfl rfl) ?_)
    exact s10 _ ⟨J, J, J, J, J, J, J, J, J, J, J, J, J, J, trivial⟩
   ·refine rn4 ?_
    exact s11 _ ⟨J, J, J, J, J, J, J, J, J, J, J, J, J, J, trivial⟩
   ·refine rn3 ?_
    exact s12 _ ⟨J, J, J, J, J, J, J, J, J, J, J, J, J, trivial⟩
  ·refine zH (is := [5, 9, 11]) (by kernel_rfl) (by simp) J ⟨fun o ho => ?_, fun o ho => ?_, fun o ho => ?_, trivial⟩
   all_goals (cases ho)
   ·refine rn3 ?_
    exact s13 _ ⟨J, J, J, J, J, J, J, J, J, J, J, J, J, J, trivial⟩
   ·refine rn4 ?_
    exact s14 _ ⟨J, J, J, J, J, J, J, J, J, J, J, J, J, J, J, trivial⟩
   ·repeat (first | refine zC ?_ | refine zX ?_ | refine zA (zD rfl rfl rfl rfl) ?_)
    exact s15 _ ⟨J, J, J, J, J, J, J, J, J, J, J, J, J, J, J, trivial⟩
  ·refine zH (is := [4, 11]) (by kernel_rfl) (by simp) J ⟨fun o ho => ?_, fun o ho => ?_, trivial⟩
   all_goals (cases ho)
   ·repeat (first | refine zC ?_ | refine zX ?_ | refine zA (zD rfl rfl rfl rfl) ?_)
    exact s14 _ ⟨J, J, J, J, J, J, J, J, J, J, J, J, J, J, J, trivial⟩
   ·repeat (first | refine zC ?_ | refine zX ?_ | refine zA (zD rfl rfl rfl rfl) ?_)
    exact s16 _ ⟨J, J, J, J, J, J, J, J, J, J, J, J, J, J, J, trivial⟩
  ·refine zH (is := [4, 9, 12]) (by kernel_rfl) (by simp) J ⟨fun o ho => ?_, fun o ho => ?_, fun o ho => ?_, trivial⟩
   all_goals (cases ho)
   ·repeat (first | refine zC ?_ | refine zX ?_ | refine zA (zD rfl rfl rfl rfl) ?_)
    exact s15 _ ⟨J, J, J, J, J, J, J, J, J, J, J, J, J, J, J, trivial⟩
   ·refine rn4 ?_
    exact s16 _ ⟨J, J, J, J, J, J, J, J, J, J, J, J, J, J, J, trivial⟩
   ·refine rn3 ?_
    exact s17 _ ⟨J, J, J, J, J, J, J, J, J, J, J, J, J, J, trivial⟩
  ·refine zH (is := [2, 9, 11]) (by kernel_rfl) (by simp) J ⟨fun o ho => ?_, fun o ho => ?_, fun o ho => ?_, trivial⟩
   all_goals (cases ho)
   ·refine rn4 ?_
    exact s13 _ ⟨J, J, J, J, J, J, J, J, J, J, J, J, J, J, trivial⟩
   ·refine rn4 ?_
    exact s18 _ ⟨J, J, J, J, J, J, J, J, J, J, J, J, J, J, trivial⟩
   ·repeat (first | refine zC ?_ | refine zX ?_ | refine zA (zD rfl rfl rfl rfl) ?_)
    exact s19 _ ⟨J, J, J, J, J, J, J, J, J, J, J, J, J, J, trivial⟩
  ·refine zH (is := [2, 5, 11]) (by kernel_rfl) (by simp) J ⟨fun o ho => ?_, fun o ho => ?_, fun o ho => ?_, trivial⟩
   all_goals (cases ho)
   ·refine rn4 ?_
    exact s14 _ ⟨J, J, J, J, J, J, J, J, J, J, J, J, J, J, J, trivial⟩
   ·refine rn3 ?_
    exact s18 _ ⟨J, J, J, J, J, J, J, J, J, J, J, J, J, J, trivial⟩
   ·repeat (first | refine zC ?_ | refine zX ?_ | refine zA (zD rfl rfl rfl rfl) ?_)
    exact s20 _ ⟨J, J, J, J, J, J, J, J, J, J, J, J, J, J, J, trivial⟩
  ·refine zH (is := [2, 5, 9, 12]) (by kernel_rfl) (by simp) J ⟨fun o ho => ?_, fun o ho => ?_, fun o ho => ?_, fun o ho => ?_, trivial⟩
   all_goals (cases ho)
   ·refine rn4 ?_
    exact s15 _ ⟨J, J, J, J, J, J, J, J, J, J, J, J, J, J, J, trivial⟩
   ·refine rn3 ?_
    exact s19 _ ⟨J, J, J, J, J, J, J, J, J, J, J, J, J, J, trivial⟩
   ·refine rn4 ?_
    exact s20 _ ⟨J, J, J, J, J, J, J, J, J, J, J, J, J, J, J, trivial⟩
   ·refine rn3 ?_
    exact s21 _ ⟨J, J, J, J, J, J, J, J, J, J, J, J, J, J, trivial⟩
  ·refine zH (is := [2, 4, 12]) (by kernel_rfl) (by simp) J ⟨fun o ho => ?_, fun o ho => ?_, fun o ho => ?_, trivial⟩
   all_goals (cases ho)
   ·refine rn4 ?_
    exact s16 _ ⟨J, J, J, J, J, J, J, J, J, J, J, J, J, J, J, trivial⟩
   ·repeat (first | refine zC ?_ | refine zX ?_ | refine zA (zD rfl rfl rfl rfl) ?_)
    exact s20 _ ⟨J, J, J, J, J, J, J, J, J, J, J, J, J, J, J, trivial⟩
   ·refine rn3 ?_
    exact s22 _ ⟨J, J, J, J, J, J, J, J, J, J, J, J, J, J, trivial⟩
  ·refine zH (is := [2, 4, 9]) (by kernel_rfl) (by simp) J ⟨fun o ho => ?_, fun o ho => ?_, fun o ho => ?_, trivial⟩
   all_goals (cases ho)
   ·refine rn4 ?_
    exact s17 _ ⟨J, J, J, J, J, J, J, J, J, J, J, J, J, J, trivial⟩
   ·repeat (first | refine zC ?_ | refine zX ?_ | refine zA (zD rfl rfl rfl rfl) ?_)
    exact s21 _ ⟨J, J, J, J, J, J, J, J, J, J, J, J, J, J, trivial⟩
   ·refine rn4 ?_
    exact s22 _ ⟨J, J, J, J, J, J, J, J, J, J, J, J, J, J, trivial⟩
  ·refine zH (is := [6, 9, 11]) (by kernel_rfl) (by simp) J ⟨fun o ho => ?_, fun o ho => ?_, fun o ho => ?_, trivial⟩
   all_goals (cases ho)
   ·refine zAj J J J J J J J J J htl J J (by show 0 + 1 ≤ 1; omega) J hb (fun i j _ _ => rfl) (by rw [hfix]; exact fun h => h) ?_
    refine rn1 ?_
    exact s23 _ ⟨J, J, J, J, J, J, J, J, J, J, J, J, J, trivial⟩
   ·refine rn4 ?_
    exact s24 _ ⟨J, J, J, J, J, J, J, J, J, J, J, J, J, J, J, trivial⟩
   ·repeat (first | refine zC ?_ | refine zX ?_ | refine zA (zD rfl rfl rfl rfl) ?_)
    exact s25 _ ⟨J, J, J, J, J, J, J, J, J, J, J, J, J, J, J, trivial⟩
  ·refine zH (is := [5, 11]) (by kernel_rfl) (by simp) J ⟨fun o ho => ?_, fun o ho => ?_, trivial⟩
   all_goals (cases ho)
   ·refine rn3 ?_
    exact s24 _ ⟨J, J, J, J, J, J, J, J, J, J, J, J, J, J, J, trivial⟩
   ·repeat (first | refine zC ?_ | refine zX ?_ | refine zA (zD rfl rfl rfl rfl) ?_)
    exact s26 _ ⟨J, J, J, J, J, J, J, J, J, J, J, J, J, J, J, J, trivial⟩
  ·refine zH (is := [5, 9, 12]) (by kernel_rfl) (by simp) J ⟨fun o ho => ?_, fun o ho => ?_, fun o ho => ?_, trivial⟩
   all_goals (cases ho)
   ·refine rn3 ?_
    exact s25 _ ⟨J, J, J, J, J, J, J, J, J, J, J, J, J, J, J, trivial⟩
   ·refine rn4 ?_
    exact s26 _ ⟨J, J, J, J, J, J, J, J, J, J, J, J, J, J, J, J, trivial⟩
   ·refine rn3 ?_
    exact s27 _ ⟨J, J, J, J, J, J, J, J, J, J, J, J, J, J, J, trivial⟩
  ·refine zH (is := [4, 12]) (by kernel_rfl) (by simp) J ⟨fun o ho => ?_, fun o ho => ?_, trivial⟩
   all_goals (cases ho)
   ·repeat (first | refine zC ?_ | refine zX ?_ | refine zA (zD rfl rfl rfl rfl) ?_)
    exact s26 _ ⟨J, J, J, J, J, J, J, J, J, J, J, J, J, J, J, J, trivial⟩
   ·refine rn3 ?_
    exact s28 _ ⟨J, J, J, J, J, J, J, J, J, J, J, J, J, J, J, trivial⟩
  ·refine zH (is := [4, 9]) (by kernel_rfl) (by simp) J ⟨fun o ho => ?_, fun o ho => ?_, trivial⟩
   all_goals (cases ho)
   ·repeat (first | refine zC ?_ | refine zX ?_ | refine zA (zD rfl rfl rfl rfl) ?_)
    exact s27 _ ⟨J, J, J, J, J, J, J, J, J, J, J, J, J, J, J, trivial⟩
   ·refine rn4 ?_
    exact s28 _ ⟨J, J, J, J, J, J, J, J, J, J, J, J, J, J, J, trivial⟩
  ·refine zH (is := [2, 11]) (by kernel_rfl) (by simp) J ⟨fun o ho => ?_, fun o ho => ?_, trivial⟩
   all_goals (cases ho)
   ·refine rn4 ?_
    exact s24 _ ⟨J, J, J, J, J, J, J, J, J, J, J, J, J, J, J, trivial⟩
   ·repeat (first | refine zC ?_ | refine zX ?_ | refine zA (zD rfl rfl rfl rfl) ?_)
    exact s29 _ ⟨J, J, J, J, J, J, J, J, J, J, J, J, J, J, J, trivial⟩
  ·refine zH (is := [2, 9, 12]) (by kernel_rfl) (by simp) J ⟨fun o ho => ?_, fun o ho => ?_, fun o ho => ?_, trivial⟩
   all_goals (cases ho)
   ·refine rn4 ?_
    exact s25 _ ⟨J, J, J, J, J, J, J, J, J, J, J, J, J, J, J, trivial⟩
   ·refine rn4 ?_
    exact s29 _ ⟨J, J, J, J, J, J, J, J, J, J, J, J, J, J, J, trivial⟩
   ·refine rn3 ?_
    exact s30 _ ⟨J, J, J, J, J, J, J, J, J, J, J, J, J, J, trivial⟩
  ·refine zH (is := [2, 5, 12]) (by kernel_rfl) (by simp) J ⟨fun o ho => ?_, fun o ho => ?_, fun o ho => ?_, trivial⟩
   all_goals (cases ho)
   ·refine rn4 ?_
    exact s26 _ ⟨J, J, J, J, J, J, J, J, J, J, J, J, J, J, J, J, trivial⟩
   ·refine rn3 ?_
    exact s29 _ ⟨J, J, J, J, J, J, J, J, J, J, J, J, J, J, J, trivial⟩
   ·refine rn3 ?_
    exact s31 _ ⟨J, J, J, J, J, J, J, J, J, J, J, J, J, J, J, trivial⟩
  ·refine zH (is := [2, 5, 9]) (by kernel_rfl) (by simp) J ⟨fun o ho => ?_, fun o ho => ?_, fun o ho => ?_, trivial⟩
   all_goals (cases ho)
   ·refine rn4 ?_
    exact s27 _ ⟨J, J, J, J, J, J, J, J, J, J, J, J, J, J, J, trivial⟩
   ·refine rn3 ?_
    exact s30 _ ⟨J, J, J, J, J, J, J, J, J, J, J, J, J, J, trivial⟩
   ·refine rn4 ?_
    exact s31 _ ⟨J, J, J, J, J, J, J, J, J, J, J, J, J, J, J, trivial⟩
  ·refine zH (is := [2, 4]) (by kernel_rfl) (by simp) J ⟨fun o ho => ?_, fun o ho => ?_, trivial⟩
   all_goals (cases ho)
   ·refine rn4 ?_
    exact s28 _ ⟨J, J, J, J, J, J, J, J, J, J, J, J, J, J, J, trivial⟩
   ·repeat (first | refine zC ?_ | refine zX ?_ | refine zA (zD rfl rfl rfl rfl) ?_)
    exact s31 _ ⟨J, J, J, J, J, J, J, J, J, J, J, J, J, J, J, trivial⟩
  ·refine zH (is := [9, 11]) (by kernel_rfl) (by simp) J ⟨fun o ho => ?_, fun o ho => ?_, trivial⟩
   all_goals (cases ho)
   ·refine rn4 ?_
    exact s32 _ ⟨J, J, J, J, J, J, J, J, J, J, J, J, J, J, trivial⟩
   ·repeat (first | refine zC ?_ | refine zX ?_ | refine zA (zD rfl rfl rfl rfl) ?_)
    exact s33 _ ⟨J, J, J, J, J, J, J, J, J, J, J, J, J, J, trivial⟩
  ·refine zH (is := [6, 11]) (by kernel_rfl) (by simp) J ⟨fun o ho => ?_, fun o ho => ?_, trivial⟩
   all_goals (cases ho)
   ·refine zAj J J J J J J J J J htl J J (by show 0 + 1 ≤ 1; omega) J hb (fun i j _ _ => rfl) (by rw [hfix]; exact fun h => h) ?_
    refine rn1 ?_
    exact s32 _ ⟨J, J, J, J, J, J, J, J, J, J, J, J, J, J, trivial⟩
   ·repeat (first | refine zC ?_ | refine zX ?_ | refine zA (zD rfl rfl rfl rfl) ?_)
    exact s34 _ ⟨J, J, J, J, J, J, J, J, J, J, J, J, J, J, J, J, trivial⟩
  ·refine zH (is := [6, 9, 12]) (by kernel_rfl) (by simp) J ⟨fun o ho => ?_, fun o ho => ?_, fun o ho => ?_, trivial⟩
   all_goals (cases ho)
   ·refine zAj J J J J J J J J J htl J J (by show 0 + 1 ≤ 1; omega) J hb (fun i j _ _ => rfl) (by rw [hfix]; exact fun h => h) ?_
    refine rn1 ?_
    exact s33 _ ⟨J, J, J, J, J, J, J, J, J, J, J, J, J, J, trivial⟩
   ·refine rn4 ?_
    exact s34 _ ⟨J, J, J, J, J, J, J, J, J, J, J, J, J, J, J, J, trivial⟩
   ·refine rn3 ?_
    exact s35 _ ⟨J, J, J, J, J, J, J, J, J, J, J, J, J, J, J, trivial⟩
  ·refine zH (is := [5, 12]) (by kernel_rfl) (by simp) J ⟨fun o ho => ?_, fun o ho => ?_, trivial⟩
   all_goals (cases ho)
   ·refine rn3 ?_
    exact s34 _ ⟨J, J, J, J, J, J, J, J, J, J, J, J, J, J, J, J, trivial⟩
   ·refine rn3 ?_
    exact s36 _ ⟨J, J, J, J, J, J, J, J, J, J, J, J, J, J, J, J, trivial⟩
  ·refine zH (is := [5, 9]) (by kernel_rfl) (by simp) J ⟨fun o ho => ?_, fun o ho => ?_, trivial⟩
   all_goals (cases ho)
   ·refine rn3 ?_
    exact s35 _ ⟨J, J, J, J, J, J, J, J, J, J, J, J, J, J, J, trivial⟩
   ·refine rn4 ?_
    exact s36 _ ⟨J, J, J, J, J, J, J, J, J, J, J, J, J, J, J, J, trivial⟩
  ·refine zH (is := [4]) (by kernel_rfl) (by simp) J ⟨fun o ho => ?_, trivial⟩
   all_goals (cases ho)
   repeat (first | refine zC ?_ | refine zX ?_ | refine zA (zD rfl rfl rfl rfl) ?_)
   exact s36 _ ⟨J, J, J, J, J, J, J, J, J, J, J, J, J, J, J, J, trivial⟩
  ·refine zH (is := [2, 12]) (by kernel_rfl) (by simp) J ⟨fun o ho => ?_, fun o ho => ?_, trivial⟩
   all_goals (cases ho)
   ·refine rn4 ?_
    exact s34 _ ⟨J, J, J, J, J, J, J, J, J, J, J, J, J, J, J, J, trivial⟩
   ·refine rn3 ?_
    exact s37 _ ⟨J, J, J, J, J, J, J, J, J, J, J, J, J, J, J, trivial⟩
  ·refine zH (is := [2, 9]) (by kernel_rfl) (by simp) J ⟨fun o ho => ?_, fun o ho => ?_, trivial⟩
   all_goals (cases ho)
   ·refine rn4 ?_
    exact s35 _ ⟨J, J, J, J, J, J, J, J, J, J, J, J, J, J, J, trivial⟩
   ·refine rn4 ?_
    exact s37 _ ⟨J, J, J, J, J, J, J, J, J, J, J, J, J, J, J, trivial⟩
  ·refine zH (is := [2, 5]) (by kernel_rfl) (by simp) J ⟨fun o ho => ?_, fun o ho => ?_, trivial⟩
   all_goals (cases ho)
   ·refine rn4 ?_
    exact s36 _ ⟨J, J, J, J, J, J, J, J, J, J, J, J, J, J, J, J, trivial⟩
   ·refine rn3 ?_
    exact s37 _ ⟨J, J, J, J, J, J, J, J, J, J, J, J, J, J, J, trivial⟩
  ·refine zH (is := [11, 15]) (by kernel_rfl) (by simp) J ⟨fun o ho => ?_, fun o ho => ?_, trivial⟩
   all_goals (cases ho)
   ·repeat (first | refine zC ?_ | refine zX ?_ | refine zA (zD rfl rfl rfl rfl) ?_)
    exact s38 _ ⟨J, J, J, J, J, J, J, J, J, J, J, J, J, J, J, trivial⟩
   ·refine rn10 ?_
    exact s39 _ ⟨J, J, J, J, J, J, J, J, J, J, J, J, J, J, J, trivial⟩
  ·refine zH (is := [9, 12]) (by kernel_rfl) (by simp) J ⟨fun o ho => ?_, fun o ho => ?_, trivial⟩
   all_goals (cases ho)
   ·refine rn4 ?_
    exact s38 _ ⟨J, J, J, J, J, J, J, J, J, J, J, J, J, J, J, trivial⟩
   ·refine rn3 ?_
    exact s40 _ ⟨J, J, J, J, J, J, J, J, J, J, J, J, J, J, trivial⟩
  ·refine zH (is := [6, 12]) (by kernel_rfl) (by simp) J ⟨fun o ho => ?_, fun o ho => ?_, trivial⟩
   all_goals (cases ho)
   ·refine zAj J J J J J J J J J htl J J (by show 0 + 1 ≤ 1; omega) J hb (fun i j _ _ => rfl) (by rw [hfix]; exact fun h => h) ?_
    refine rn1 ?_
    exact s38 _ ⟨J, J, J, J, J, J, J, J, J, J, J, J, J, J, J, trivial⟩
   ·refine rn3 ?_
    exact s41 _ ⟨J, J, J, J, J, J, J, J, J, J, J, J, J, J, J, J, trivial⟩
  ·refine zH (is := [6, 9]) (by kernel_rfl) (by simp) J ⟨fun o ho => ?_, fun o ho => ?_, trivial⟩
   all_goals (cases ho)
   ·refine zAj J J J J J J J J J htl J J (by show 0 + 1 ≤ 1; omega) J hb (fun i j _ _ => rfl) (by rw [hfix]; exact fun h => h) ?_
    refine rn1 ?_
    exact s40 _ ⟨J, J, J, J, J, J, J, J, J, J, J, J, J, J, trivial⟩
   ·refine rn4 ?_
    exact s41 _ ⟨J, J, J, J, J, J, J, J, J, J, J, J, J, J, J, J, trivial⟩
  ·refine zH (is := [5]) (by kernel_rfl) (by simp) J ⟨fun o ho => ?_, trivial⟩
   all_goals (cases ho)
   refine rn3 ?_
   exact s41 _ ⟨J, J, J, J, J, J, J, J, J, J, J, J, J, J, J, J, trivial⟩
  ·refine zH (is := [2]) (by kernel_rfl) (by simp) J ⟨fun o ho => ?_, trivial⟩
   all_goals (cases ho)
   refine rn4 ?_
   exact s41 _ ⟨J, J, J, J, J, J, J, J, J, J, J, J, J, J, J, J, trivial⟩
  ·refine zH (is := [12, 15]) (by kernel_rfl) (by simp) J ⟨fun o ho => ?_, fun o ho => ?_, trivial⟩
   all_goals (cases ho)
   ·refine rn3 ?_
    exact s42 _ ⟨J, J, J, J, J, J, J, J, J, J, J, J, J, J, J, trivial⟩
   ·refine rn10 ?_
    exact s43 _ ⟨J, J, J, J, J, J, J, J, J, J, J, J, J, J, J, J, trivial⟩
  ·refine zH (is := [11]) (by kernel_rfl) (by simp) J ⟨fun o ho => ?_, trivial⟩
   all_goals (cases ho)
   repeat (first | refine zC ?_ | refine zX ?_ | refine zA (zD rfl rfl rfl rfl) ?_)
   exact s43 _ ⟨J, J, J, J, J, J, J, J, J, J, J, J, J, J, J, J, trivial⟩
  ·refine zH (is := [9]) (by kernel_rfl) (by simp) J ⟨fun o ho => ?_, trivial⟩
   all_goals (cases ho)
   refine rn4 ?_
   exact s42 _ ⟨J, J, J, J, J, J, J, J, J, J, J, J, J, J, J, trivial⟩
  ·refine zH (is := [6]) (by kernel_rfl) (by simp) J ⟨fun o ho => ?_, trivial⟩
   all_goals (cases ho)
   refine zAj J J J J J J J J J htl J J (by show 0 + 1 ≤ 1; omega) J hb (fun i j _ _ => rfl) (by rw [hfix]; exact fun h => h) ?_
   refine rn1 ?_
   exact s42 _ ⟨J, J, J, J, J, J, J, J, J, J, J, J, J, J, J, trivial⟩
  ·refine zH (is := [13, 15]) (by kernel_rfl) (by simp) J ⟨fun o ho => ?_, fun o ho => ?_, trivial⟩
   all_goals (cases ho)
   ·refine zAj J J J J J J J J J htl J J (by show 0 + 1 ≤ 1; omega) J hb (fun i j _ _ => rfl) (by rw [hfix]; exact fun h => h) ?_
    refine rn1 ?_
    exact s44 _ ⟨J, J, J, J, J, J, J, J, J, J, J, J, J, J, trivial⟩
   ·refine rn10 ?_
    exact s45 _ ⟨J, J, J, J, J, J, J, J, J, J, J, J, J, J, J, J, trivial⟩
  ·refine zH (is := [12]) (by kernel_rfl) (by simp) J ⟨fun o ho => ?_, trivial⟩
   all_goals (cases ho)
   refine rn3 ?_
   exact s45 _ ⟨J, J, J, J, J, J, J, J, J, J, J, J, J, J, J, J, trivial⟩
  ·refine zH (is := [15]) (by kernel_rfl) (by simp) J ⟨fun o ho => ?_, trivial⟩
   all_goals (cases ho)
   refine rn10 ?_
   exact fin _ ⟨J, J, J, J, J, J, J, J, J, trivial⟩
  ·refine zH (is := [13]) (by kernel_rfl) (by simp) J ⟨fun o ho => ?_, trivial⟩
   all_goals (cases ho)
   refine zAj J J J J J J J J J htl J J (by show 0 + 1 ≤ 1; omega) J hb (fun i j _ _ => rfl) (by rw [hfix]; exact fun h => h) ?_
   refine rn1 ?_
   exact fin _ ⟨J, J, J, J, J, J, J, J, J, trivial⟩
  refine zH (is := [16]) (by kernel_rfl) (by simp) J ⟨fun o ho => ?_, trivial⟩
  all_goals (cases ho)
  refine rn9 ?_
  refine zV 18 J (by kernel_rfl) (by kernel_rfl) (by kernel_rfl) J (zAh J J J J (by first | (simp only [Nat.zero_add, Int.toNat_natCast]; exact J) | exact J) (by omega)) J ?_
  refine zH (is := [19]) (by kernel_rfl) (by simp) J ⟨fun o ho => ?_, trivial⟩
  all_goals (cases ho)
  refine rn9 ?_
  refine zW (by kernel_rfl) ?_
  repeat (refine zAW ?_)
  refine zB ?_
  refine zBh (hpB r.start (.sl 3 0 (k + 1)) (.sl 4 0 (k + 1)) (A ++ [p.hand]) (A ++ [p.hand])) [none] [(2, .ptr 1 0 0), (5, .ptr 2 0 0), (19, .ro (zAi r.pcs) 0 r.pcs.length), (20, iN r.pcs.length), (21, iN k)] J ⟨J, J, J, J, J, trivial⟩ (fun h hh => by rw [hfix] at hh; exact hh.elim) (bl_n (zBo (zGP J) (zBo (zGP J) (zBo (fun _ _ _ _ => rfl) (zBo (fun _ _ _ _ => rfl) zBK))))) J ?_
  refine rn3 ?_
  exact zR ⟨k + 1, by omega, by omega, ⟨J, J, J, J, J, trivial⟩, by rw [htk]⟩
 ·have hk' : k = r.pcs.length := by omega
  subst hk'
  have htl : (zBc r).take r.pcs.length = zBc r := by rw [← hhl, List.take_length]
  rw [htl]
  refine rn6 ?_
  refine zb (poB r.start (.sl 3 0 r.pcs.length) (.sl 4 0 r.pcs.length)) J J J J J J J ?_
  refine rn7 ?_
  refine zBE [none, none, none, some ⟨3, .ints .i64 (zBc r)⟩, some ⟨3, .ints .i64 (zBc r)⟩] [none, some ⟨35, .box (poB r.start (.ro (.ints .i64 (zBc r)) 0 r.pcs.length) (.ro (.ints .i64 (zBc r)) 0 r.pcs.length))⟩, none, none, none] [(2, .ptr 1 0 0), (3, .int .i64 0)] ?_ (zCc (zCc (zCc (zB8 zAR (zB8 zAR zCd))))) J ?_ (zCP ⟨J, J, trivial⟩) ?_
  ·intro h o ho
   match h, ho with
   | 0, ho => simp at ho
   | 1, ho => simp at ho
   | 2, ho => simp at ho
   | 3, ho => exact ho
   | 4, ho => exact ho
   | _ + 5, ho => simp at ho
  ·intro h o ho
   match h, ho with
   | 0, ho => simp at ho
   | 1, ho =>
    cases ho
    refine ⟨fun o h => by simp at h, ⟨35, .box (poB r.start (.sl 3 0 r.pcs.length) (.sl 4 0 r.pcs.length))⟩, J, J, J, J, fun i j hi hj => ?_⟩
    obtain rfl : i = 0 := Nat.lt_one_iff.1 hi
    have hj : j < 5 := hj
    match j, hj with
    | 0, _ => exact .inl rfl
    | 1, _ => exact .inr (.inr ⟨rfl, fun o ho => by cases ho; show 0 + r.pcs.length ≤ (zBc r).length; omega⟩)
    | 2, _ => exact .inr (.inr ⟨rfl, fun o ho => by cases ho; show 0 + r.pcs.length ≤ (zBc r).length; omega⟩)
    | 3, _ => exact .inl rfl
    | 4, _ => exact .inl rfl
   | 2, ho => simp at ho
   | 3, ho => simp at ho
   | 4, ho => simp at ho
   | _ + 5, ho => simp at ho
  repeat (refine zAA ?_)
  refine zL hR J ?_
  show AV.tup [.agg (poB r.start (.ro (.ints .i64 (zBc r)) 0 r.pcs.length) (.ro (.ints .i64 (zBc r)) 0 r.pcs.length)), .int .i64 0] = _
  rw [← hhl]; rfl
def poS (p : Pos) (n : Nat) : List AV := [.sl n 0 p.cells.length, .sl (n + 1) 0 p.h0.length, .sl (n + 2) 0 p.h1.length, .int .i64 p.turn, .int .i64 p.quiet]
/-- place.Copy, whose slices are the caller's -/
theorem zLS (p : Pos) (hp : SmallP p) : MCall Tryz.prog 53 [poA p] (.agg (poS p 2)) [some ⟨35, .box (poS p 2)⟩, some ⟨35, .box (poS p 2)⟩, some ⟨3, .ints .i64 p.cells⟩, some ⟨3, .ints .i64 p.h0⟩, some ⟨3, .ints .i64 p.h1⟩] := by
 refine zd.many (zN (P := Tryz.prog) (fn := Tryz.f53) J J (by kernel_rfl) J (fun c hR hfix => ?_)) (fix := fun _ => False) (fun _ h => h) J
 obtain ⟨h1, h2, h3⟩ := hp
 refine rn6 ?_
 refine zD3 J J J (zLM p.cells (by omega)) ?_
 refine rn8 ?_
 refine ze (by kernel_rfl) ?_
 refine zV 0 J (by kernel_rfl) (by kernel_rfl) (by kernel_rfl) J (zM J J J J J J) J ?_
 refine zV 1 J (by kernel_rfl) (by kernel_rfl) (by kernel_rfl) J (zAh J J J J (by first | (simp only [Nat.zero_add, Int.toNat_natCast]; exact J) | exact J) (by omega)) J ?_
 refine zV 4 J (by kernel_rfl) (by kernel_rfl) (by kernel_rfl) J (zM J J J J J J) J ?_
 refine zV 5 J (by kernel_rfl) (by kernel_rfl) (by kernel_rfl) J (zAh J J J J (by first | (simp only [Nat.zero_add, Int.toNat_natCast]; exact J) | exact J) (by omega)) J ?_
 apply zS (H := [some ⟨35, .box [.sl 2 0 p.cells.length, z6 p.h0, z6 p.h1, .int .i64 p.turn, .int .i64 p.quiet]⟩, some ⟨35, .box poZ⟩, some ⟨3, .ints .i64 p.cells⟩, some ⟨3, .ints .i64 p.h0⟩, some ⟨3, .ints .i64 p.h1⟩]) [(1, .ptr 0 0 0), (2, .ptr 1 0 0), (10, .sl 3 0 p.h0.length), (14, .sl 4 0 p.h1.length)]
 intro fin
 apply zS (H := [some ⟨35, .box [.sl 2 0 p.cells.length, z6 p.h0, z6 p.h1, .int .i64 p.turn, .int .i64 p.quiet]⟩, some ⟨35, .box poZ⟩, some ⟨3, .ints .i64 p.cells⟩, some ⟨3, .ints .i64 p.h0⟩]) [(1, .ptr 0 0 0), (2, .ptr 1 0 0), (8, .ptr 0 0 1), (12, .ptr 0 0 2), (10, .sl 3 0 p.h0.length), (13, z6 p.h1)]
 intro s5
 apply zS (H := [some ⟨35, .box [.sl 2 0 p.cells.length, z6 p.h0, z6 p.h1, .int .i64 p.turn, .int .i64 p.quiet]⟩, some ⟨35, .box poZ⟩, some ⟨3, .ints .i64 p.cells⟩]) [(1, .ptr 0 0 0), (2, .ptr 1 0 0), (8, .ptr 0 0 1), (12, .ptr 0 0 2), (9, z6 p.h0), (13, z6 p.h1)]
 intro s4
 apply zS (H := [some ⟨35, .box [.sl 2 0 p.cells.length, z6 p.h0, z6 p.h1, .int .i64 p.turn, .int .i64 p.quiet]⟩, some ⟨35, .box poZ⟩, some ⟨3, .ints .i64 p.cells⟩, some ⟨3, .ints .i64 p.h0⟩]) [(1, .ptr 0 0 0), (2, .ptr 1 0 0), (8, .ptr 0 0 1), (12, .ptr 0 0 2), (10, .sl 3 0 p.h0.length)]
 intro s3
 apply zS (H := [some ⟨35, .box [.sl 2 0 p.cells.length, z6 p.h0, z6 p.h1, .int .i64 p.turn, .int .i64 p.quiet]⟩, some ⟨35, .box poZ⟩, some ⟨3, .ints .i64 p.cells⟩]) [(1, .ptr 0 0 0), (2, .ptr 1 0 0), (8, .ptr 0 0 1), (12, .ptr 0 0 2), (13, z6 p.h1)]
 intro s2
 apply zS (H := [some ⟨35, .box [.sl 2 0 p.cells.length, z6 p.h0, z6 p.h1, .int .i64 p.turn, .int .i64 p.quiet]⟩, some ⟨35, .box poZ⟩, some ⟨3, .ints .i64 p.cells⟩]) [(1, .ptr 0 0 0), (2, .ptr 1 0 0), (8, .ptr 0 0 1), (12, .ptr 0 0 2), (9, z6 p.h0)]
 intro s1
 ·refine zH (is := [2, 6]) (by kernel_rfl) (by simp) J ⟨fun o ho => ?_, fun o ho => ?_, trivial⟩
  all_goals (cases ho)
  ·refine rn4 ?_
   exact s1 _ ⟨J, J, J, J, J, trivial⟩
  ·refine rn4 ?_
   exact s2 _ ⟨J, J, J, J, J, trivial⟩
 ·refine zH (is := [3, 6]) (by kernel_rfl) (by simp) J ⟨fun o ho => ?_, fun o ho => ?_, trivial⟩
  all_goals (cases ho)
  ·refine zD3 J J J (zLM p.h0 (by omega)) ?_
   refine rn1 ?_
   exact s3 _ ⟨J, J, J, J, J, trivial⟩
  ·refine rn4 ?_
   exact s4 _ ⟨J, J, J, J, J, J, trivial⟩
 ·refine zH (is := [2]) (by kernel_rfl) (by simp) J ⟨fun o ho => ?_, trivial⟩
  all_goals (cases ho)
  refine rn4 ?_
  exact s4 _ ⟨J, J, J, J, J, J, trivial⟩
 ·refine zH (is := [6]) (by kernel_rfl) (by simp) J ⟨fun o ho => ?_, trivial⟩
  all_goals (cases ho)
  refine rn4 ?_
  exact s5 _ ⟨J, J, J, J, J, J, trivial⟩
 ·refine zH (is := [3]) (by kernel_rfl) (by simp) J ⟨fun o ho => ?_, trivial⟩
  all_goals (cases ho)
  refine zD3 J J J (zLM p.h0 (by omega)) ?_
  refine rn1 ?_
  exact s5 _ ⟨J, J, J, J, J, J, trivial⟩
 ·refine zH (is := [7]) (by kernel_rfl) (by simp) J ⟨fun o ho => ?_, trivial⟩
  all_goals (cases ho)
  refine zD3 J J J (zLM p.h1 (by omega)) ?_
  refine rn1 ?_
  exact fin _ ⟨J, J, J, J, trivial⟩
 refine zV 8 J (by kernel_rfl) (by kernel_rfl) (by kernel_rfl) J (zCW J J J J J J) J ?_
 refine zV 9 J (by kernel_rfl) (by kernel_rfl) (by kernel_rfl) J (zM J J J J J J) J ?_
 refine zH (is := [10]) (by kernel_rfl) (by simp) J ⟨fun o ho => ?_, trivial⟩
 all_goals (cases ho)
 refine zGz (c' := .box (poS p 2)) (i := 0) (j := 1) J J J J J (by show 1 + 2 ≤ 5; omega) Nat.zero_lt_one J J (fun i' j' hi' hj' => ?_) ?_
 ·obtain rfl : i' = 0 := Nat.lt_one_iff.1 hi'
  have hj' : j' < 5 := hj'
  match j', hj' with
  | 0, _ => rfl
  | 1, _ => rfl
  | 2, _ => rfl
  | 3, _ => rfl
  | 4, _ => rfl
 refine rn1 ?_
 refine zW (by kernel_rfl) ?_
 refine rn6 ?_
 refine zb (poS p 2) J J J J J J J ?_
 refine rn0 ?_
 exact zL hR J ⟨J, J⟩
/-- moves.Make, player 0 -/
theorem make0_ok (r : Go.Ax.Gm.Rules) (hv : ValidR r) (cs a b : List Int) (qt : Int) (S : Sound r ⟨cs, a, b, 0, qt⟩) (m : Mv) (hm : MvOK r ⟨cs, a, b, 0, qt⟩ m) : zl Tryz.prog 67 [ruA r, poA ⟨cs, a, b, 0, qt⟩, mvA m] (poA (zZ r ⟨cs, a, b, 0, qt⟩ m)) := by
 refine zd.value0 (zN (P := Tryz.prog) (fn := Tryz.f67) J J (by kernel_rfl) J (fun c hR hfix => ?_)) (fix := fun _ => False) (fun _ h => h) J J
 have SP := zBT hv S
 have hcc : cs.length ≤ 64 := SP.c
 have hcl : (cs.length : Int) = r.w * r.h := S.cl
 have hal : a.length = r.pcs.length := S.l0
 have hn6 := hv.n6
 have hqt : 0 ≤ qt ∧ qt ≤ 200 := S.qt
 have hain : ∀ n ∈ a, 0 ≤ n ∧ n ≤ 1000 := S.c0
 have hC12 := fun s => zIe hv S s
 have hKlt := fun s => zE6 S s
 obtain ⟨m1, m2, m3, m4, m5⟩ := hm
 have m2 : m.to.toNat < cs.length := m2
 have m4 : m.pc.toNat < a.length := by omega
 have m5 : (m.fr = -1 ∧ 0 < a.getD m.pc.toNat 0) ∨ (0 ≤ m.fr ∧ m.fr.toNat < cs.length) := m5
 have hapc := hain _ (zAN 0 m4)
 refine zY ?_
 repeat (first | refine zC ?_ | refine zB ?_ | refine zJ rfl ?_ | refine zAO rfl rfl ?_ | refine zAK rfl rfl rfl ?_)
 refine zBE [some ⟨26, .box (ruC r)⟩, some ⟨35, .box (poC ⟨cs, a, b, 0, qt⟩)⟩, some ⟨58, .box (mvC m)⟩, none] [none, none, none, some ⟨35, .box poZ⟩] [(3, .rp (.box (ruC r)) 0 0), (4, .rp (.box [z6 cs, z6 a, z6 b, .int .i64 0, .int .i64 qt]) 0 0), (5, .rp (.box (mvC m)) 0 0), (6, .ptr 3 0 0)] ?_ (zB8 (zq rfl) (zB8 (zq rfl) (zB8 (zq rfl) (zCc zCd)))) rfl ?_ ⟨⟨.ptr 0 0 0, rfl, .inr (.inr ⟨rfl, fun o ho => by cases ho; exact Nat.zero_lt_one⟩)⟩, ⟨.ptr 1 0 0, rfl, .inr (.inr ⟨rfl, fun o ho => by cases ho; exact Nat.zero_lt_one⟩)⟩, ⟨.ptr 2 0 0, rfl, .inr (.inr ⟨rfl, fun o ho => by cases ho; exact Nat.zero_lt_one⟩)⟩, ⟨_, rfl, .inl rfl⟩, trivial⟩ ?_
 ·intro h o ho
  match h, ho with
  | 0, ho => exact ho
  | 1, ho => exact ho
  | 2, ho => exact ho
  | 3, ho => simp at ho
  | _ + 4, ho => simp at ho
 ·intro h o ho
  match h, ho with
  | 0, ho => simp at ho
  | 1, ho => simp at ho
  | 2, ho => simp at ho
  | 3, ho => cases ho; exact ⟨fun o h => by simp at h, _, rfl, rfl, rfl, rfl, fun _ _ _ _ => .inl rfl⟩
  | _ + 4, ho => simp at ho
 refine rn6 ?_
 refine zLE (.agg (poS ⟨cs, a, b, 0, qt⟩ 6)) [none, none, none, some ⟨35, .box poZ⟩, some ⟨35, .box (poS ⟨cs, a, b, 0, qt⟩ 6)⟩, some ⟨35, .box (poS ⟨cs, a, b, 0, qt⟩ 6)⟩, some ⟨3, .ints .i64 cs⟩, some ⟨3, .ints .i64 a⟩, some ⟨3, .ints .i64 b⟩] J J J (zLS _ SP) J J ?_
 repeat (refine zAK rfl rfl rfl ?_)
 refine zb (poS ⟨cs, a, b, 0, qt⟩ 6) J J J J J J J ?_
 refine zBJ [none, none, none, some ⟨35, .box poZ⟩, none, none, some ⟨3, .ints .i64 cs⟩, some ⟨3, .ints .i64 a⟩, some ⟨3, .ints .i64 b⟩, some ⟨35, .box [.sl 6 0 cs.length, .sl 7 0 a.length, .sl 8 0 b.length, .int .i64 0, .int .i64 qt]⟩] (zAs.drop (zAs.drop (zAs.drop (zAs.eqv (CEq.refl _) (zAs.drop (zAs.drop (zAs.refl _))))))) ?_
 repeat (first | refine zA (zO rfl) ?_ | refine zC ?_ | refine zB ?_ | refine zY ?_ | refine zJ rfl ?_ | refine zA (zU rfl rfl rfl rfl rfl) ?_ | refine zA (zDs rfl rfl) ?_ | refine zA (zn rfl rfl rfl rfl rfl (by first | (simp only [Nat.zero_add, Int.toNat_natCast, Int.toNat_zero]; exact rfl) | exact rfl) (by omega)) ?_ | refine zA (zA8 rfl rfl rfl rfl (by first | assumption | omega)) ?_ | refine zA (zD rfl rfl rfl rfl) ?_ | refine zA (zM rfl rfl rfl rfl rfl rfl) ?_ | refine zA (zK rfl rfl rfl rfl rfl rfl) ?_)
 obtain ⟨took, htk⟩ : ∃ took, cs.getD m.to.toNat 0 = took := ⟨_, rfl⟩
 have htk2 : zAL ⟨cs, a, b, 0, qt⟩ m.to.toNat = took := htk
 have ht12 := hC12 m.to.toNat
 have htK : took ≠ 0 → zAd took < r.pcs.length := fun q => by
  have h := hKlt m.to.toNat
  rw [htk2] at h
  exact zGF q h.1 h.2
 rw [htk2] at ht12
 obtain ⟨C1, hC1⟩ : ∃ C1, (if 0 ≤ m.fr then cs.set m.fr.toNat 0 else cs) = C1 := ⟨_, rfl⟩
 obtain ⟨A1, hA1⟩ : ∃ A1, (if 0 ≤ m.fr then a else a.set m.pc.toNat (a.getD m.pc.toNat 0 - 1)) = A1 := ⟨_, rfl⟩
 have hC1l : C1.length = cs.length := by rw [← hC1]; split <;> simp
 have hA1l : A1.length = a.length := by rw [← hA1]; split <;> simp
 have hA1in : ∀ i, -1 ≤ A1.getD i 0 ∧ A1.getD i 0 ≤ 1000 := fun i => by
  rw [← hA1]
  split
  ·by_cases q : i < a.length
   ·have := hain _ (zAN 0 q); omega
   ·rw [List.getD, List.getElem?_eq_none (by omega)]; exact ⟨by decide, by decide⟩
  ·by_cases q : i < a.length
   ·by_cases q2 : m.pc.toNat = i
    ·rw [← q2, List.getD, List.getElem?_set_self m4]; show -1 ≤ a.getD m.pc.toNat 0 - 1 ∧ a.getD m.pc.toNat 0 - 1 ≤ 1000; omega
    ·rw [List.getD, List.getElem?_set_ne q2]; have := hain _ (zAN 0 q); rw [List.getD] at this; omega
   ·rw [List.getD, List.getElem?_eq_none (by rw [List.length_set]; omega)]; exact ⟨by decide, by decide⟩
 refine zBB 8 (.int .i64 took) J (AEq.of_eq (by rw [← htk])) ?_
 apply zAJ (H := [none, none, none, some ⟨35, .box poZ⟩, none, none, some ⟨3, .ints .i64 C1⟩, some ⟨3, .ints .i64 A1⟩, some ⟨3, .ints .i64 b⟩, some ⟨35, .box [.sl 6 0 cs.length, .sl 7 0 a.length, .sl 8 0 b.length, .int .i64 0, .int .i64 qt]⟩]) [(3, .rp (.box (ruC r)) 0 0), (4, .rp (.box [z6 cs, z6 a, z6 b, .int .i64 0, .int .i64 qt]) 0 0), (5, .rp (.box (mvC m)) 0 0), (6, .ptr 3 0 0), (7, .ptr 9 0 0), (8, .int .i64 took)]
 ·intro fin
  refine zF J (fun f1 => ?_) (fun f1 => ?_)
  ·have f1 : 0 ≤ m.fr := f1
   rw [if_pos f1] at hC1 hA1
   have f2 : m.fr.toNat < cs.length := by rcases m5 with q | q; omega; exact q.2
   subst hC1 hA1
   repeat (first | refine zC ?_ | refine zB ?_ | refine zJ rfl ?_ | refine zA (zU rfl rfl rfl rfl rfl) ?_ | refine zA (zn rfl rfl rfl rfl rfl (by first | (simp only [Nat.zero_add, Int.toNat_natCast, Int.toNat_zero]; exact rfl) | exact rfl) (by omega)) ?_ | refine zA (zD rfl rfl rfl rfl) ?_ | refine zA (zM rfl rfl rfl rfl rfl rfl) ?_ | refine zA (zK rfl rfl rfl rfl rfl rfl) ?_ | refine zAF rfl rfl rfl rfl rfl rfl rfl (by first | assumption | (show _ < List.length _; first | assumption | omega)) ?_)
   exact fin _ ⟨J, J, J, J, J, J, trivial⟩
  ·have f1 : ¬ 0 ≤ m.fr := f1
   rw [if_neg f1] at hC1 hA1
   subst hC1 hA1
   skip
   refine ze (by kernel_rfl) ?_
   refine zm (fuel := 1) [0, 1, 2, 3, 4, 5, 6, 7, 8, 9, 10] [(3, .rp (.box (ruC r)) 0 0), (4, .rp (.box [z6 cs, z6 a, z6 b, .int .i64 0, .int .i64 qt]) 0 0), (5, .rp (.box (mvC m)) 0 0), (6, .ptr 3 0 0), (7, .ptr 9 0 0), (8, .int .i64 took)] ⟨J, J, J, J, J, J, trivial⟩ (by kernel_rfl) (by decide) J J ?_
   refine zI J J (zK J J J J J J) ?_
   refine zI J J (zD J J J J) ?_
   refine zI J J (zM J J J J J J) ?_
   refine zI J J (zAh J J J J J (by show (0 : Int) ≤ 0 ∧ (0 : Int) < 2; decide)) ?_
   refine zI J J (zU J J J J J) ?_
   refine zI J J (zK J J J J J J) ?_
   refine zI J J (zD J J J J) ?_
   refine zI J J (zn J J J J J (by first | (simp only [Nat.zero_add, Int.toNat_natCast, Int.toNat_zero]; exact J) | exact J) (by omega)) ?_
   refine zI J J (zA8 J J J J (by first | assumption | omega)) ?_
   refine zI J J (zBL J J (by omega)) ?_
   refine zI J J (zn J J J J J (by first | (simp only [Nat.zero_add, Int.toNat_natCast, Int.toNat_zero]; exact J) | exact J) (by omega)) ?_
   refine zu ?_
   refine zH (is := [11]) (by kernel_rfl) (by simp) J ⟨fun o ho => ?_, trivial⟩
   all_goals (cases ho)
   refine rn7 ?_
   refine zW (by kernel_rfl) ?_
   repeat (refine zB ?_)
   exact fin _ ⟨J, J, J, J, J, J, trivial⟩
 obtain ⟨C2, hC2⟩ : ∃ C2, C1.set m.to.toNat (2 * m.pc + 0 + 1) = C2 := ⟨_, rfl⟩
 have hC2l : C2.length = cs.length := by rw [← hC2, List.length_set, hC1l]
 obtain ⟨A2, hA2⟩ : ∃ A2, (if 0 < took ∧ r.keeps = true then A1.set (zAd took) (min (A1.getD (zAd took) 0 + 1) 1000) else A1) = A2 := ⟨_, rfl⟩
 have hmt : m.to.toNat < C1.length := by omega
 have hmt2 : m.to.toNat < (Cells.ints .i64 C1).len := hmt
 obtain ⟨q3, hq3⟩ : ∃ q3, (if 0 < took ∨ m.fr < 0 then 0 else min (qt + 1) 200) = q3 := ⟨_, rfl⟩
 repeat (first | refine zY ?_ | refine zJ rfl ?_ | refine zA (zU rfl rfl rfl rfl rfl) ?_ | refine zA (zD rfl rfl rfl rfl) ?_ | refine zA (zM rfl rfl rfl rfl rfl rfl) ?_ | refine zA (zK rfl rfl rfl rfl rfl rfl) ?_)
 refine zA (zDA J J (by omega)) ?_
 repeat (first | refine zA (zG rfl) ?_ | refine zC ?_ | refine zB ?_ | refine zY ?_ | refine zJ rfl ?_ | refine zA (zCY rfl rfl) ?_ | refine zA (zAw rfl rfl (by omega)) ?_ | refine zA (zn rfl rfl rfl rfl rfl (by first | (simp only [Nat.zero_add, Int.toNat_natCast, Int.toNat_zero]; exact rfl) | exact rfl) (by omega)) ?_ | refine zA (zD rfl rfl rfl rfl) ?_ | refine zA (zK rfl rfl rfl rfl rfl rfl) ?_ | refine zAF rfl rfl rfl rfl rfl rfl rfl (by first | assumption | (show _ < List.length _; first | assumption | omega)) ?_)
 refine zAU [none, none, none, some ⟨35, .box poZ⟩, none, none, some ⟨3, .ints .i64 C2⟩, some ⟨3, .ints .i64 A1⟩, some ⟨3, .ints .i64 b⟩, some ⟨35, .box [.sl 6 0 cs.length, .sl 7 0 a.length, .sl 8 0 b.length, .int .i64 0, .int .i64 qt]⟩] (by rw [← hC2]; rfl) ?_
 apply zAJ (H := [none, none, none, some ⟨35, .box poZ⟩, none, none, some ⟨3, .ints .i64 C2⟩, some ⟨3, .ints .i64 A2⟩, some ⟨3, .ints .i64 b⟩, some ⟨35, .box [.sl 6 0 cs.length, .sl 7 0 a.length, .sl 8 0 b.length, .int .i64 0, .int .i64 qt]⟩]) [(3, .rp (.box (ruC r)) 0 0), (4, .rp (.box [z6 cs, z6 a, z6 b, .int .i64 0, .int .i64 qt]) 0 0), (5, .rp (.box (mvC m)) 0 0), (6, .ptr 3 0 0), (7, .ptr 9 0 0), (8, .int .i64 took)]
 ·intro fin
  refine zo J J (fun f1 => ?_) (fun f1 => ?_)
  ·have f1 : 0 < took := f1
   refine zBA ?_
   refine zAP J (fun f2 => ?_) (fun f2 => ?_)
   ·rw [if_pos ⟨f1, f2⟩] at hA2
    have hKl : zAd took < A1.length := by have := htK (by omega); omega
    have hKl2 : zAd took < (Cells.ints .i64 A1).len := hKl
    have hKC : (took - 1) / 2 = ((zAd took : Nat) : Int) := by unfold zAd; rw [Int.tdiv_eq_ediv_of_nonneg (by omega)]; omega
    have hKin := hA1in (zAd took)
    generalize zAd took = K at hA2 hKl hKl2 hKC hKin
    refine zY ?_
    repeat (first | refine zA (zG rfl) ?_ | refine zA (zO rfl) ?_ | refine zC ?_ | refine zB ?_ | refine zJ rfl ?_ | refine zA (zBL rfl rfl (by omega)) ?_ | refine zA (zIA rfl rfl (by omega)) ?_)
    refine zBB 9 (iN K) J (AEq.of_eq (by rw [hKC])) ?_
    refine ze (by kernel_rfl) ?_
    refine zm (fuel := 1) [0, 1, 2, 3, 4, 5, 6, 7, 8, 9, 10, 11, 12, 13, 14, 15, 16] [(3, .rp (.box (ruC r)) 0 0), (4, .rp (.box [z6 cs, z6 a, z6 b, .int .i64 0, .int .i64 qt]) 0 0), (5, .rp (.box (mvC m)) 0 0), (6, .ptr 3 0 0), (7, .ptr 9 0 0), (8, .int .i64 took), (9, iN K)] ⟨J, J, J, J, J, J, J, trivial⟩ (by kernel_rfl) (by decide) J J ?_
    refine zI J J (zK J J J J J J) ?_
    refine zI J J (zD J J J J) ?_
    refine zI J J (zM J J J J J J) ?_
    refine zI J J (zAh J J J J J (by show (0 : Int) ≤ 0 ∧ (0 : Int) < 2; decide)) ?_
    refine zI J J (zU J J J J J) ?_
    refine zI J J (zG J) ?_
    refine zI J J (zK J J J J J J) ?_
    refine zI J J (zD J J J J) ?_
    refine zI J J (zM J J J J J J) ?_
    refine zI J J (zAh J J J J J (by show (0 : Int) ≤ 0 ∧ (0 : Int) < 2; decide)) ?_
    refine zI J J (zU J J J J J) ?_
    refine zI J J (zG J) ?_
    refine zI J J (zn J J J J J (by first | (simp only [Nat.zero_add, Int.toNat_natCast, Int.toNat_zero]; exact J) | exact J) (by omega)) ?_
    refine zI J J (zA8 J J J J (by first | assumption | omega)) ?_
    refine zI J J (zAw J J (by omega)) ?_
    refine zI J J (zLw J J) ?_
    refine zI J J (zn J J J J J (by first | (simp only [Nat.zero_add, Int.toNat_natCast, Int.toNat_zero]; exact J) | exact J) (by omega)) ?_
    refine zu ?_
    refine zH (is := [17]) (by kernel_rfl) (by simp) J ⟨fun o ho => ?_, trivial⟩
    all_goals (cases ho)
    refine rn7 ?_
    refine zW (by kernel_rfl) ?_
    repeat (refine zB ?_)
    have e : (if A1.getD K 0 + 1 ≤ 1000 then A1.getD K 0 + 1 else (1000 : Int)) = (if 1000 < A1.getD K 0 + 1 then 1000 else A1.getD K 0 + 1) := by split <;> split <;> omega
    refine zAS [none, none, none, some ⟨35, .box poZ⟩, none, none, some ⟨3, .ints .i64 C2⟩, some ⟨3, .ints .i64 A2⟩, some ⟨3, .ints .i64 b⟩, some ⟨35, .box [.sl 6 0 cs.length, .sl 7 0 a.length, .sl 8 0 b.length, .int .i64 0, .int .i64 qt]⟩] (by rw [← hA2, Int.min_def, e]; rfl) ?_
    exact fin _ ⟨J, J, J, J, J, J, trivial⟩
   ·rw [if_neg (fun q => by rw [f2] at q; exact Bool.false_ne_true q.2)] at hA2
    subst hA2
    refine zFt ?_
    exact fin _ ⟨J, J, J, J, J, J, trivial⟩
  ·have f1 : ¬ 0 < took := f1
   rw [if_neg (fun q => f1 q.1)] at hA2
   subst hA2
   refine zFt ?_
   exact fin _ ⟨J, J, J, J, J, J, trivial⟩
 repeat (first | refine zA (zG rfl) ?_ | refine zC ?_ | refine zB ?_ | refine zY ?_ | refine zJ rfl ?_ | refine zA (zCY rfl rfl) ?_ | refine zA (zAw rfl rfl (by omega)) ?_ | refine zA (zD rfl rfl rfl rfl) ?_ | refine zA (zLw rfl rfl) ?_ | refine zA (zM rfl rfl rfl rfl rfl rfl) ?_ | refine zA (zK rfl rfl rfl rfl rfl rfl) ?_ | refine zAF rfl rfl rfl rfl rfl rfl rfl Nat.zero_lt_one ?_)
 refine zAU [none, none, none, some ⟨35, .box poZ⟩, none, none, some ⟨3, .ints .i64 C2⟩, some ⟨3, .ints .i64 A2⟩, some ⟨3, .ints .i64 b⟩, some ⟨35, .box [.sl 6 0 cs.length, .sl 7 0 a.length, .sl 8 0 b.length, .int .i64 0, .int .i64 (if 200 < qt + 1 then 200 else qt + 1)]⟩] J ?_
 apply zAJ (H := [none, none, none, some ⟨35, .box poZ⟩, none, none, some ⟨3, .ints .i64 C2⟩, some ⟨3, .ints .i64 A2⟩, some ⟨3, .ints .i64 b⟩, some ⟨35, .box [.sl 6 0 cs.length, .sl 7 0 a.length, .sl 8 0 b.length, .int .i64 0, .int .i64 q3]⟩]) [(3, .rp (.box (ruC r)) 0 0), (4, .rp (.box [z6 cs, z6 a, z6 b, .int .i64 0, .int .i64 qt]) 0 0), (5, .rp (.box (mvC m)) 0 0), (6, .ptr 3 0 0), (7, .ptr 9 0 0), (8, .int .i64 took)]
 ·intro fin
  refine zo J J (fun f1 => ?_) (fun f1 => ?_)
  ·have f1 : 0 < took := f1
   rw [if_pos (.inl f1)] at hq3
   subst hq3
   repeat (first | refine zC ?_ | refine zB ?_ | refine zJ rfl ?_ | refine zAX rfl rfl rfl ?_ | refine zAg rfl ?_ | refine zA (zg rfl rfl) ?_ | refine zA (zM rfl rfl rfl rfl rfl rfl) ?_ | refine zAF rfl rfl rfl rfl rfl rfl rfl Nat.zero_lt_one ?_)
   exact fin _ ⟨J, J, J, J, J, J, trivial⟩
  ·have f1 : ¬ 0 < took := f1
   repeat (first | refine zC ?_ | refine zB ?_ | refine zr rfl rfl ?_ | refine zA (zCE rfl rfl) ?_ | refine zA (zg rfl rfl) ?_ | refine zA (zD rfl rfl rfl rfl) ?_ | refine zA (zK rfl rfl rfl rfl rfl rfl) ?_)
   refine zF J (fun f2 => ?_) (fun f2 => ?_)
   ·have f2 : m.fr < 0 := f2
    rw [if_pos (.inr f2)] at hq3
    subst hq3
    repeat (first | refine zC ?_ | refine zB ?_ | refine zJ rfl ?_ | refine zA (zM rfl rfl rfl rfl rfl rfl) ?_ | refine zAF rfl rfl rfl rfl rfl rfl rfl Nat.zero_lt_one ?_)
    exact fin _ ⟨J, J, J, J, J, J, trivial⟩
   ·have f2 : ¬ m.fr < 0 := f2
    rw [if_neg (fun q => q.elim f1 f2)] at hq3
    refine zFt ?_
    have e : (if 200 < qt + 1 then (200 : Int) else qt + 1) = q3 := by
     rw [← hq3, Int.min_def]
     split <;> split <;> omega
    refine zAS [none, none, none, some ⟨35, .box poZ⟩, none, none, some ⟨3, .ints .i64 C2⟩, some ⟨3, .ints .i64 A2⟩, some ⟨3, .ints .i64 b⟩, some ⟨35, .box [.sl 6 0 cs.length, .sl 7 0 a.length, .sl 8 0 b.length, .int .i64 0, .int .i64 q3]⟩] (by rw [e]) ?_
    exact fin _ ⟨J, J, J, J, J, J, trivial⟩
 repeat (first | refine zC ?_ | refine zB ?_ | refine zY ?_ | refine zJ rfl ?_ | refine zA (zBL rfl rfl (by omega)) ?_ | refine zA (zD rfl rfl rfl rfl) ?_ | refine zA (zM rfl rfl rfl rfl rfl rfl) ?_ | refine zA (zK rfl rfl rfl rfl rfl rfl) ?_ | refine zA (qpp rfl rfl rfl rfl rfl rfl rfl) ?_ | refine zAF rfl rfl rfl rfl rfl rfl rfl Nat.zero_lt_one ?_)
 have hA2l : A2.length = a.length := by rw [← hA2]; split <;> simp [hA1l]
 have hmk : zZ r ⟨cs, a, b, 0, qt⟩ m = ⟨C2, A2, b, 1 - 0, q3⟩ := by
  have e : zZ r ⟨cs, a, b, 0, qt⟩ m = ⟨(if 0 ≤ m.fr then cs.set m.fr.toNat 0 else cs).set m.to.toNat (2 * m.pc + 0 + 1), (if 0 < zAL ⟨cs, a, b, 0, qt⟩ m.to.toNat ∧ r.keeps = true then (if 0 ≤ m.fr then a else a.set m.pc.toNat (a.getD m.pc.toNat 0 - 1)).set (zAd (zAL ⟨cs, a, b, 0, qt⟩ m.to.toNat)) (min ((if 0 ≤ m.fr then a else a.set m.pc.toNat (a.getD m.pc.toNat 0 - 1)).getD (zAd (zAL ⟨cs, a, b, 0, qt⟩ m.to.toNat)) 0 + 1) 1000) else (if 0 ≤ m.fr then a else a.set m.pc.toNat (a.getD m.pc.toNat 0 - 1))), b, 1 - 0, if 0 < zAL ⟨cs, a, b, 0, qt⟩ m.to.toNat ∨ m.fr < 0 then 0 else min (qt + 1) 200⟩ := rfl
  rw [e, htk2, hC1, hA1, hC2, hA2, hq3]
 refine zb [.sl 6 0 cs.length, .sl 7 0 a.length, .sl 8 0 b.length, .int .i64 (1 - 0), .int .i64 q3] J J J J J J J ?_
 refine rn7 ?_
 refine zBE [none, none, none, none, none, none, some ⟨3, .ints .i64 C2⟩, some ⟨3, .ints .i64 A2⟩, some ⟨3, .ints .i64 b⟩, none] [none, none, none, some ⟨35, .box [.ro (.ints .i64 C2) 0 cs.length, .ro (.ints .i64 A2) 0 a.length, .ro (.ints .i64 b) 0 b.length, .int .i64 (1 - 0), .int .i64 q3]⟩, none, none, none, none, none, none] [(6, .ptr 3 0 0)] ?_ (zCc (zCc (zCc (zCc (zCc (zCc (zB8 zAR (zB8 zAR (zB8 zAR (zCc zCd)))))))))) J ?_ (zCP ⟨J, trivial⟩) ?_
 ·intro h o ho
  match h, ho with
  | 0, ho => simp at ho
  | 1, ho => simp at ho
  | 2, ho => simp at ho
  | 3, ho => simp at ho
  | 4, ho => simp at ho
  | 5, ho => simp at ho
  | 6, ho => exact ho
  | 7, ho => exact ho
  | 8, ho => exact ho
  | 9, ho => simp at ho
  | _ + 10, ho => simp at ho
 ·intro h o ho
  match h, ho with
  | 0, ho => simp at ho
  | 1, ho => simp at ho
  | 2, ho => simp at ho
  | 3, ho =>
   cases ho
   refine ⟨fun o h => by simp at h, ⟨35, .box [.sl 6 0 cs.length, .sl 7 0 a.length, .sl 8 0 b.length, .int .i64 (1 - 0), .int .i64 q3]⟩, J, J, J, J, fun i j hi hj => ?_⟩
   obtain rfl : i = 0 := Nat.lt_one_iff.1 hi
   have hj : j < 5 := hj
   match j, hj with
   | 0, _ => exact .inr (.inr ⟨rfl, fun o ho => by cases ho; show 0 + cs.length ≤ C2.length; omega⟩)
   | 1, _ => exact .inr (.inr ⟨rfl, fun o ho => by cases ho; show 0 + a.length ≤ A2.length; omega⟩)
   | 2, _ => exact .inr (.inr ⟨rfl, fun o ho => by cases ho; show 0 + b.length ≤ b.length; omega⟩)
   | 3, _ => exact .inl rfl
   | 4, _ => exact .inl rfl
  | 4, ho => simp at ho
  | 5, ho => simp at ho
  | 6, ho => simp at ho
  | 7, ho => simp at ho
  | 8, ho => simp at ho
  | 9, ho => simp at ho
  | _ + 10, ho => simp at ho
 repeat (refine zAA ?_)
 refine zL hR J ?_
 rw [hmk]
 show AV.agg [.ro (.ints .i64 C2) 0 cs.length, .ro (.ints .i64 A2) 0 a.length, .ro (.ints .i64 b) 0 b.length, .int .i64 (1 - 0), .int .i64 q3] = AV.agg [z6 C2, z6 A2, z6 b, .int .i64 (1 - 0), .int .i64 q3]
 unfold z6
 rw [hC2l, hA2l]
/-- moves.Make, player 1 -/
theorem make1_ok (r : Go.Ax.Gm.Rules) (hv : ValidR r) (cs a b : List Int) (qt : Int) (S : Sound r ⟨cs, b, a, 1, qt⟩) (m : Mv) (hm : MvOK r ⟨cs, b, a, 1, qt⟩ m) : zl Tryz.prog 67 [ruA r, poA ⟨cs, b, a, 1, qt⟩, mvA m] (poA (zZ r ⟨cs, b, a, 1, qt⟩ m)) := by
 refine zd.value0 (zN (P := Tryz.prog) (fn := Tryz.f67) J J (by kernel_rfl) J (fun c hR hfix => ?_)) (fix := fun _ => False) (fun _ h => h) J J
 have SP := zBT hv S
 have hcc : cs.length ≤ 64 := SP.c
 have hcl : (cs.length : Int) = r.w * r.h := S.cl
 have hal : a.length = r.pcs.length := S.l1
 have hn6 := hv.n6
 have hqt : 0 ≤ qt ∧ qt ≤ 200 := S.qt
 have hain : ∀ n ∈ a, 0 ≤ n ∧ n ≤ 1000 := S.c1
 have hC12 := fun s => zIe hv S s
 have hKlt := fun s => zE6 S s
 obtain ⟨m1, m2, m3, m4, m5⟩ := hm
 have m2 : m.to.toNat < cs.length := m2
 have m4 : m.pc.toNat < a.length := by omega
 have m5 : (m.fr = -1 ∧ 0 < a.getD m.pc.toNat 0) ∨ (0 ≤ m.fr ∧ m.fr.toNat < cs.length) := m5
 have hapc := hain _ (zAN 0 m4)
 refine zY ?_
 repeat (first | refine zC ?_ | refine zB ?_ | refine zJ rfl ?_ | refine zAO rfl rfl ?_ | refine zAK rfl rfl rfl ?_)
 refine zBE [some ⟨26, .box (ruC r)⟩, some ⟨35, .box (poC ⟨cs, b, a, 1, qt⟩)⟩, some ⟨58, .box (mvC m)⟩, none] [none, none, none, some ⟨35, .box poZ⟩] [(3, .rp (.box (ruC r)) 0 0), (4, .rp (.box [z6 cs, z6 b, z6 a, .int .i64 1, .int .i64 qt]) 0 0), (5, .rp (.box (mvC m)) 0 0), (6, .ptr 3 0 0)] ?_ (zB8 (zq rfl) (zB8 (zq rfl) (zB8 (zq rfl) (zCc zCd)))) rfl ?_ ⟨⟨.ptr 0 0 0, rfl, .inr (.inr ⟨rfl, fun o ho => by cases ho; exact Nat.zero_lt_one⟩)⟩, ⟨.ptr 1 0 0, rfl, .inr (.inr ⟨rfl, fun o ho => by cases ho; exact Nat.zero_lt_one⟩)⟩, ⟨.ptr 2 0 0, rfl, .inr (.inr ⟨rfl, fun o ho => by cases ho; exact Nat.zero_lt_one⟩)⟩, ⟨_, rfl, .inl rfl⟩, trivial⟩ ?_
 ·intro h o ho
  match h, ho with
  | 0, ho => exact ho
  | 1, ho => exact ho
  | 2, ho => exact ho
  | 3, ho => simp at ho
  | _ + 4, ho => simp at ho
 ·intro h o ho
  match h, ho with
  | 0, ho => simp at ho
  | 1, ho => simp at ho
  | 2, ho => simp at ho
  | 3, ho => cases ho; exact ⟨fun o h => by simp at h, _, rfl, rfl, rfl, rfl, fun _ _ _ _ => .inl rfl⟩
  | _ + 4, ho => simp at ho
 refine rn6 ?_
 refine zLE (.agg (poS ⟨cs, b, a, 1, qt⟩ 6)) [none, none, none, some ⟨35, .box poZ⟩, some ⟨35, .box (poS ⟨cs, b, a, 1, qt⟩ 6)⟩, some ⟨35, .box (poS ⟨cs, b, a, 1, qt⟩ 6)⟩, some ⟨3, .ints .i64 cs⟩, some ⟨3, .ints .i64 b⟩, some ⟨3, .ints .i64 a⟩] J J J (zLS _ SP) J J ?_
 repeat (refine zAK rfl rfl rfl ?_)
 refine zb (poS ⟨cs, b, a, 1, qt⟩ 6) J J J J J J J ?_
 refine zBJ [none, none, none, some ⟨35, .box poZ⟩, none, none, some ⟨3, .ints .i64 cs⟩, some ⟨3, .ints .i64 b⟩, some ⟨3, .ints .i64 a⟩, some ⟨35, .box [.sl 6 0 cs.length, .sl 7 0 b.length, .sl 8 0 a.length, .int .i64 1, .int .i64 qt]⟩] (zAs.drop (zAs.drop (zAs.drop (zAs.eqv (CEq.refl _) (zAs.drop (zAs.drop (zAs.refl _))))))) ?_
 repeat (first | refine zA (zO rfl) ?_ | refine zC ?_ | refine zB ?_ | refine zY ?_ | refine zJ rfl ?_ | refine zA (zU rfl rfl rfl rfl rfl) ?_ | refine zA (zDs rfl rfl) ?_ | refine zA (zn rfl rfl rfl rfl rfl (by first | (simp only [Nat.zero_add, Int.toNat_natCast, Int.toNat_zero]; exact rfl) | exact rfl) (by omega)) ?_ | refine zA (zA8 rfl rfl rfl rfl (by first | assumption | omega)) ?_ | refine zA (zD rfl rfl rfl rfl) ?_ | refine zA (zM rfl rfl rfl rfl rfl rfl) ?_ | refine zA (zK rfl rfl rfl rfl rfl rfl) ?_)
 obtain ⟨took, htk⟩ : ∃ took, cs.getD m.to.toNat 0 = took := ⟨_, rfl⟩
 have htk2 : zAL ⟨cs, b, a, 1, qt⟩ m.to.toNat = took := htk
 have ht12 := hC12 m.to.toNat
 have htK : took ≠ 0 → zAd took < r.pcs.length := fun q => by
  have h := hKlt m.to.toNat
  rw [htk2] at h
  exact zGF q h.1 h.2
 rw [htk2] at ht12
 obtain ⟨C1, hC1⟩ : ∃ C1, (if 0 ≤ m.fr then cs.set m.fr.toNat 0 else cs) = C1 := ⟨_, rfl⟩
 obtain ⟨A1, hA1⟩ : ∃ A1, (if 0 ≤ m.fr then a else a.set m.pc.toNat (a.getD m.pc.toNat 0 - 1)) = A1 := ⟨_, rfl⟩
 have hC1l : C1.length = cs.length := by rw [← hC1]; split <;> simp
 have hA1l : A1.length = a.length := by rw [← hA1]; split <;> simp
 have hA1in : ∀ i, -1 ≤ A1.getD i 0 ∧ A1.getD i 0 ≤ 1000 := fun i => by
  rw [← hA1]
  split
  ·by_cases q : i < a.length
   ·have := hain _ (zAN 0 q); omega
   ·rw [List.getD, List.getElem?_eq_none (by omega)]; exact ⟨by decide, by decide⟩
  ·by_cases q : i < a.length
   ·by_cases q2 : m.pc.toNat = i
    ·rw [← q2, List.getD, List.getElem?_set_self m4]; show -1 ≤ a.getD m.pc.toNat 0 - 1 ∧ a.getD m.pc.toNat 0 - 1 ≤ 1000; omega
    ·rw [List.getD, List.getElem?_set_ne q2]; have := hain _ (zAN 0 q); rw [List.getD] at this; omega
   ·rw [List.getD, List.getElem?_eq_none (by rw [List.length_set]; omega)]; exact ⟨by decide, by decide⟩
 refine zBB 8 (.int .i64 took) J (AEq.of_eq (by rw [← htk])) ?_
 apply zAJ (H := [none, none, none, some ⟨35, .box poZ⟩, none, none, some ⟨3, .ints .i64 C1⟩, some ⟨3, .ints .i64 b⟩, some ⟨3, .ints .i64 A1⟩, some ⟨35, .box [.sl 6 0 cs.length, .sl 7 0 b.length, .sl 8 0 a.length, .int .i64 1, .int .i64 qt]⟩]) [(3, .rp (.box (ruC r)) 0 0), (4, .rp (.box [z6 cs, z6 b, z6 a, .int .i64 1, .int .i64 qt]) 0 0), (5, .rp (.box (mvC m)) 0 0), (6, .ptr 3 0 0), (7, .ptr 9 0 0), (8, .int .i64 took)]
 ·intro fin
  refine zF J (fun f1 => ?_) (fun f1 => ?_)
  ·have f1 : 0 ≤ m.fr := f1
   rw [if_pos f1] at hC1 hA1
   have f2 : m.fr.toNat < cs.length := by rcases m5 with q | q; omega; exact q.2
   subst hC1 hA1
   repeat (first | refine zC ?_ | refine zB ?_ | refine zJ rfl ?_ | refine zA (zU rfl rfl rfl rfl rfl) ?_ | refine zA (zn rfl rfl rfl rfl rfl (by first | (simp only [Nat.zero_add, Int.toNat_natCast, Int.toNat_zero]; exact rfl) | exact rfl) (by omega)) ?_ | refine zA (zD rfl rfl rfl rfl) ?_ | refine zA (zM rfl rfl rfl rfl rfl rfl) ?_ | refine zA (zK rfl rfl rfl rfl rfl rfl) ?_ | refine zAF rfl rfl rfl rfl rfl rfl rfl (by first | assumption | (show _ < List.length _; first | assumption | omega)) ?_)
   exact fin _ ⟨J, J, J, J, J, J, trivial⟩
  ·have f1 : ¬ 0 ≤ m.fr := f1
   rw [if_neg f1] at hC1 hA1
   subst hC1 hA1
   skip
   refine ze (by kernel_rfl) ?_
   refine zm (fuel := 1) [0, 1, 2, 3, 4, 5, 6, 7, 8, 9, 10] [(3, .rp (.box (ruC r)) 0 0), (4, .rp (.box [z6 cs, z6 b, z6 a, .int .i64 1, .int .i64 qt]) 0 0), (5, .rp (.box (mvC m)) 0 0), (6, .ptr 3 0 0), (7, .ptr 9 0 0), (8, .int .i64 took)] ⟨J, J, J, J, J, J, trivial⟩ (by kernel_rfl) (by decide) J J ?_
   refine zI J J (zK J J J J J J) ?_
   refine zI J J (zD J J J J) ?_
   refine zI J J (zM J J J J J J) ?_
   refine zI J J (zAh J J J J J (by show (0 : Int) ≤ 1 ∧ (1 : Int) < 2; decide)) ?_
   refine zI J J (zU J J J J J) ?_
   refine zI J J (zK J J J J J J) ?_
   refine zI J J (zD J J J J) ?_
   refine zI J J (zn J J J J J (by first | (simp only [Nat.zero_add, Int.toNat_natCast, Int.toNat_zero]; exact J) | exact J) (by omega)) ?_
   refine zI J J (zA8 J J J J (by first | assumption | omega)) ?_
   refine zI J J (zBL J J (by omega)) ?_
   refine zI J J (zn J J J J J (by first | (simp only [Nat.zero_add, Int.toNat_natCast, Int.toNat_zero]; exact J) | exact J) (by omega)) ?_
   refine zu ?_
   refine zH (is := [11]) (by kernel_rfl) (by simp) J ⟨fun o ho => ?_, trivial⟩
   all_goals (cases ho)
   refine rn7 ?_
   refine zW (by kernel_rfl) ?_
   repeat (refine zB ?_)
   exact fin _ ⟨J, J, J, J, J, J, trivial⟩
 obtain ⟨C2, hC2⟩ : ∃ C2, C1.set m.to.toNat (2 * m.pc + 1 + 1) = C2 := ⟨_, rfl⟩
 have hC2l : C2.length = cs.length := by rw [← hC2, List.length_set, hC1l]
 obtain ⟨A2, hA2⟩ : ∃ A2, (if 0 < took ∧ r.keeps = true then A1.set (zAd took) (min (A1.getD (zAd took) 0 + 1) 1000) else A1) = A2 := ⟨_, rfl⟩
 have hmt : m.to.toNat < C1.length := by omega
 have hmt2 : m.to.toNat < (Cells.ints .i64 C1).len := hmt
 obtain ⟨q3, hq3⟩ : ∃ q3, (if 0 < took ∨ m.fr < 0 then 0 else min (qt + 1) 200) = q3 := ⟨_, rfl⟩
 repeat (first | refine zY ?_ | refine zJ rfl ?_ | refine zA (zU rfl rfl rfl rfl rfl) ?_ | refine zA (zD rfl rfl rfl rfl) ?_ | refine zA (zM rfl rfl rfl rfl rfl rfl) ?_ | refine zA (zK rfl rfl rfl rfl rfl rfl) ?_)
 refine zA (zDA J J (by omega)) ?_
 repeat (first | refine zA (zG rfl) ?_ | refine zC ?_ | refine zB ?_ | refine zY ?_ | refine zJ rfl ?_ | refine zA (zCY rfl rfl) ?_ | refine zA (zAw rfl rfl (by omega)) ?_ | refine zA (zn rfl rfl rfl rfl rfl (by first | (simp only [Nat.zero_add, Int.toNat_natCast, Int.toNat_zero]; exact rfl) | exact rfl) (by omega)) ?_ | refine zA (zD rfl rfl rfl rfl) ?_ | refine zA (zK rfl rfl rfl rfl rfl rfl) ?_ | refine zAF rfl rfl rfl rfl rfl rfl rfl (by first | assumption | (show _ < List.length _; first | assumption | omega)) ?_)
 refine zAU [none, none, none, some ⟨35, .box poZ⟩, none, none, some ⟨3, .ints .i64 C2⟩, some ⟨3, .ints .i64 b⟩, some ⟨3, .ints .i64 A1⟩, some ⟨35, .box [.sl 6 0 cs.length, .sl 7 0 b.length, .sl 8 0 a.length, .int .i64 1, .int .i64 qt]⟩] (by rw [← hC2]; rfl) ?_
 apply zAJ (H := [none, none, none, some ⟨35, .box poZ⟩, none, none, some ⟨3, .ints .i64 C2⟩, some ⟨3, .ints .i64 b⟩, some ⟨3, .ints .i64 A2⟩, some ⟨35, .box [.sl 6 0 cs.length, .sl 7 0 b.length, .sl 8 0 a.length, .int .i64 1, .int .i64 qt]⟩]) [(3, .rp (.box (ruC r)) 0 0), (4, .rp (.box [z6 cs, z6 b, z6 a, .int .i64 1, .int .i64 qt]) 0 0), (5, .rp (.box (mvC m)) 0 0), (6, .ptr 3 0 0), (7, .ptr 9 0 0), (8, .int .i64 took)]
 ·intro fin
  refine zo J J (fun f1 => ?_) (fun f1 => ?_)
  ·have f1 : 0 < took := f1
   refine zBA ?_
   refine zAP J (fun f2 => ?_) (fun f2 => ?_)
   ·rw [if_pos ⟨f1, f2⟩] at hA2
    have hKl : zAd took < A1.length := by have := htK (by omega); omega
    have hKl2 : zAd took < (Cells.ints .i64 A1).len := hKl
    have hKC : (took - 1) / 2 = ((zAd took : Nat) : Int) := by unfold zAd; rw [Int.tdiv_eq_ediv_of_nonneg (by omega)]; omega
    have hKin := hA1in (zAd took)
    generalize zAd took = K at hA2 hKl hKl2 hKC hKin
    refine zY ?_
    repeat (first | refine zA (zG rfl) ?_ | refine zA (zO rfl) ?_ | refine zC ?_ | refine zB ?_ | refine zJ rfl ?_ | refine zA (zBL rfl rfl (by omega)) ?_ | refine zA (zIA rfl rfl (by omega)) ?_)
    refine zBB 9 (iN K) J (AEq.of_eq (by rw [hKC])) ?_
    refine ze (by kernel_rfl) ?_
    refine zm (fuel := 1) [0, 1, 2, 3, 4, 5, 6, 7, 8, 9, 10, 11, 12, 13, 14, 15, 16] [(3, .rp (.box (ruC r)) 0 0), (4, .rp (.box [z6 cs, z6 b, z6 a, .int .i64 1, .int .i64 qt]) 0 0), (5, .rp (.box (mvC m)) 0 0), (6, .ptr 3 0 0), (7, .ptr 9 0 0), (8, .int .i64 took), (9, iN K)] ⟨J, J, J, J, J, J, J, trivial⟩ (by kernel_rfl) (by decide) J J ?_
    refine zI J J (zK J J J J J J) ?_
    refine zI J J (zD J J J J) ?_
    refine zI J J (zM J J J J J J) ?_
    refine zI J J (zAh J J J J J (by show (0 : Int) ≤ 1 ∧ (1 : Int) < 2; decide)) ?_
    refine zI J J (zU J J J J J) ?_
    refine zI J J (zG J) ?_
    refine zI J J (zK J J J J J J) ?_
    refine zI J J (zD J J J J) ?_
    refine zI J J (zM J J J J J J) ?_
    refine zI J J (zAh J J J J J (by show (0 : Int) ≤ 1 ∧ (1 : Int) < 2; decide)) ?_
    refine zI J J (zU J J J J J) ?_
    refine zI J J (zG J) ?_
    refine zI J J (zn J J J J J (by first | (simp only [Nat.zero_add, Int.toNat_natCast, Int.toNat_zero]; exact J) | exact J) (by omega)) ?_
    refine zI J J (zA8 J J J J (by first | assumption | omega)) ?_
    refine zI J J (zAw J J (by omega)) ?_
    refine zI J J (zLw J J) ?_
    refine zI J J (zn J J J J J (by first | (simp only [Nat.zero_add, Int.toNat_natCast, Int.toNat_zero]; exact J) | exact J) (by omega)) ?_
    refine zu ?_
    refine zH (is := [17]) (by kernel_rfl) (by simp) J ⟨fun o ho => ?_, trivial⟩
    all_goals (cases ho)
    refine rn7 ?_
    refine zW (by kernel_rfl) ?_
    repeat (refine zB ?_)
    have e : (if A1.getD K 0 + 1 ≤ 1000 then A1.getD K 0 + 1 else (1000 : Int)) = (if 1000 < A1.getD K 0 + 1 then 1000 else A1.getD K 0 + 1) := by split <;> split <;> omega
    refine zAS [none, none, none, some ⟨35, .box poZ⟩, none, none, some ⟨3, .ints .i64 C2⟩, some ⟨3, .ints .i64 b⟩, some ⟨3, .ints .i64 A2⟩, some ⟨35, .box [.sl 6 0 cs.length, .sl 7 0 b.length, .sl 8 0 a.length, .int .i64 1, .int .i64 qt]⟩] (by rw [← hA2, Int.min_def, e]; rfl) ?_
    exact fin _ ⟨J, J, J, J, J, J, trivial⟩
   ·rw [if_neg (fun q => by rw [f2] at q; exact Bool.false_ne_true q.2)] at hA2
    subst hA2
    refine zFt ?_
    exact fin _ ⟨J, J, J, J, J, J, trivial⟩
  ·have f1 : ¬ 0 < took := f1
   rw [if_neg (fun q => f1 q.1)] at hA2
   subst hA2
   refine zFt ?_
   exact fin _ ⟨J, J, J, J, J, J, trivial⟩
 repeat (first | refine zA (zG rfl) ?_ | refine zC ?_ | refine zB ?_ | refine zY ?_ | refine zJ rfl ?_ | refine zA (zCY rfl rfl) ?_ | refine zA (zAw rfl rfl (by omega)) ?_ | refine zA (zD rfl rfl rfl rfl) ?_ | refine zA (zLw rfl rfl) ?_ | refine zA (zM rfl rfl rfl rfl rfl rfl) ?_ | refine zA (zK rfl rfl rfl rfl rfl rfl) ?_ | refine zAF rfl rfl rfl rfl rfl rfl rfl Nat.zero_lt_one ?_)
 refine zAU [none, none, none, some ⟨35, .box poZ⟩, none, none, some ⟨3, .ints .i64 C2⟩, some ⟨3, .ints .i64 b⟩, some ⟨3, .ints .i64 A2⟩, some ⟨35, .box [.sl 6 0 cs.length, .sl 7 0 b.length, .sl 8 0 a.length, .int .i64 1, .int .i64 (if 200 < qt + 1 then 200 else qt + 1)]⟩] J ?_
 apply zAJ (H := [none, none, none, some ⟨35, .box poZ⟩, none, none, some ⟨3, .ints .i64 C2⟩, some ⟨3, .ints .i64 b⟩, some ⟨3, .ints .i64 A2⟩, some ⟨35, .box [.sl 6 0 cs.length, .sl 7 0 b.length, .sl 8 0 a.length, .int .i64 1, .int .i64 q3]⟩]) [(3, .rp (.box (ruC r)) 0 0), (4, .rp (.box [z6 cs, z6 b, z6 a, .int .i64 1, .int .i64 qt]) 0 0), (5, .rp (.box (mvC m)) 0 0), (6, .ptr 3 0 0), (7, .ptr 9 0 0), (8, .int .i64 took)]
 ·intro fin
  refine zo J J (fun f1 => ?_) (fun f1 => ?_)
  ·have f1 : 0 < took := f1
   rw [if_pos (.inl f1)] at hq3
   subst hq3
   repeat (first | refine zC ?_ | refine zB ?_ | refine zJ rfl ?_ | refine zAX rfl rfl rfl ?_ | refine zAg rfl ?_ | refine zA (zg rfl rfl) ?_ | refine zA (zM rfl rfl rfl rfl rfl rfl) ?_ | refine zAF rfl rfl rfl rfl rfl rfl rfl Nat.zero_lt_one ?_)
   exact fin _ ⟨J, J, J, J, J, J, trivial⟩
  ·have f1 : ¬ 0 < took := f1
   repeat (first | refine zC ?_ | refine zB ?_ | refine zr rfl rfl ?_ | refine zA (zCE rfl rfl) ?_ | refine zA (zg rfl rfl) ?_ | refine zA (zD rfl rfl rfl rfl) ?_ | refine zA (zK rfl rfl rfl rfl rfl rfl) ?_)
   refine zF J (fun f2 => ?_) (fun f2 => ?_)
   ·have f2 : m.fr < 0 := f2
    rw [if_pos (.inr f2)] at hq3
    subst hq3
    repeat (first | refine zC ?_ | refine zB ?_ | refine zJ rfl ?_ | refine zA (zM rfl rfl rfl rfl rfl rfl) ?_ | refine zAF rfl rfl rfl rfl rfl rfl rfl Nat.zero_lt_one ?_)
    exact fin _ ⟨J, J, J, J, J, J, trivial⟩
   ·have f2 : ¬ m.fr < 0 := f2
    rw [if_neg (fun q => q.elim f1 f2)] at hq3
    refine zFt ?_
    have e : (if 200 < qt + 1 then (200 : Int) else qt + 1) = q3 := by
     rw [← hq3, Int.min_def]
     split <;> split <;> omega
    refine zAS [none, none, none, some ⟨35, .box poZ⟩, none, none, some ⟨3, .ints .i64 C2⟩, some ⟨3, .ints .i64 b⟩, some ⟨3, .ints .i64 A2⟩, some ⟨35, .box [.sl 6 0 cs.length, .sl 7 0 b.length, .sl 8 0 a.length, .int .i64 1, .int .i64 q3]⟩] (by rw [e]) ?_
    exact fin _ ⟨J, J, J, J, J, J, trivial⟩
 repeat (first | refine zC ?_ | refine zB ?_ | refine zY ?_ | refine zJ rfl ?_ | refine zA (zBL rfl rfl (by omega)) ?_ | refine zA (zD rfl rfl rfl rfl) ?_ | refine zA (zM rfl rfl rfl rfl rfl rfl) ?_ | refine zA (zK rfl rfl rfl rfl rfl rfl) ?_ | refine zA (qpp rfl rfl rfl rfl rfl rfl rfl) ?_ | refine zAF rfl rfl rfl rfl rfl rfl rfl Nat.zero_lt_one ?_)
 have hA2l : A2.length = a.length := by rw [← hA2]; split <;> simp [hA1l]
 have hmk : zZ r ⟨cs, b, a, 1, qt⟩ m = ⟨C2, b, A2, 1 - 1, q3⟩ := by
  have e : zZ r ⟨cs, b, a, 1, qt⟩ m = ⟨(if 0 ≤ m.fr then cs.set m.fr.toNat 0 else cs).set m.to.toNat (2 * m.pc + 1 + 1), b, (if 0 < zAL ⟨cs, b, a, 1, qt⟩ m.to.toNat ∧ r.keeps = true then (if 0 ≤ m.fr then a else a.set m.pc.toNat (a.getD m.pc.toNat 0 - 1)).set (zAd (zAL ⟨cs, b, a, 1, qt⟩ m.to.toNat)) (min ((if 0 ≤ m.fr then a else a.set m.pc.toNat (a.getD m.pc.toNat 0 - 1)).getD (zAd (zAL ⟨cs, b, a, 1, qt⟩ m.to.toNat)) 0 + 1) 1000) else (if 0 ≤ m.fr then a else a.set m.pc.toNat (a.getD m.pc.toNat 0 - 1))), 1 - 1, if 0 < zAL ⟨cs, b, a, 1, qt⟩ m.to.toNat ∨ m.fr < 0 then 0 else min (qt + 1) 200⟩ := rfl
  rw [e, htk2, hC1, hA1, hC2, hA2, hq3]
 refine zb [.sl 6 0 cs.length, .sl 7 0 b.length, .sl 8 0 a.length, .int .i64 (1 - 1), .int .i64 q3] J J J J J J J ?_
 refine rn7 ?_
 refine zBE [none, none, none, none, none, none, some ⟨3, .ints .i64 C2⟩, some ⟨3, .ints .i64 b⟩, some ⟨3, .ints .i64 A2⟩, none] [none, none, none, some ⟨35, .box [.ro (.ints .i64 C2) 0 cs.length, .ro (.ints .i64 b) 0 b.length, .ro (.ints .i64 A2) 0 a.length, .int .i64 (1 - 1), .int .i64 q3]⟩, none, none, none, none, none, none] [(6, .ptr 3 0 0)] ?_ (zCc (zCc (zCc (zCc (zCc (zCc (zB8 zAR (zB8 zAR (zB8 zAR (zCc zCd)))))))))) J ?_ (zCP ⟨J, trivial⟩) ?_
 ·intro h o ho
  match h, ho with
  | 0, ho => simp at ho
  | 1, ho => simp at ho
  | 2, ho => simp at ho
  | 3, ho => simp at ho
  | 4, ho => simp at ho
  | 5, ho => simp at ho
  | 6, ho => exact ho
  | 7, ho => exact ho
  | 8, ho => exact ho
  | 9, ho => simp at ho
  | _ + 10, ho => simp at ho
 ·intro h o ho
  match h, ho with
  | 0, ho => simp at ho
  | 1, ho => simp at ho
  | 2, ho => simp at ho
  | 3, ho =>
   cases ho
   refine ⟨fun o h => by simp at h, ⟨35, .box [.sl 6 0 cs.length, .sl 7 0 b.length, .sl 8 0 a.length, .int .i64 (1 - 1), .int .i64 q3]⟩, J, J, J, J, fun i j hi hj => ?_⟩
   obtain rfl : i = 0 := Nat.lt_one_iff.1 hi
   have hj : j < 5 := hj
   match j, hj with
   | 0, _ => exact .inr (.inr ⟨rfl, fun o ho => by cases ho; show 0 + cs.length ≤ C2.length; omega⟩)
   | 1, _ => exact .inr (.inr ⟨rfl, fun o ho => by cases ho; show 0 + b.length ≤ b.length; omega⟩)
   | 2, _ => exact .inr (.inr ⟨rfl, fun o ho => by cases ho; show 0 + a.length ≤ A2.length; omega⟩)
   | 3, _ => exact .inl rfl
   | 4, _ => exact .inl rfl
  | 4, ho => simp at ho
  | 5, ho => simp at ho
  | 6, ho => simp at ho
  | 7, ho => simp at ho
  | 8, ho => simp at ho
  | 9, ho => simp at ho
  | _ + 10, ho => simp at ho
 repeat (refine zAA ?_)
 refine zL hR J ?_
 rw [hmk]
 show AV.agg [.ro (.ints .i64 C2) 0 cs.length, .ro (.ints .i64 b) 0 b.length, .ro (.ints .i64 A2) 0 a.length, .int .i64 (1 - 1), .int .i64 q3] = AV.agg [z6 C2, z6 b, z6 A2, .int .i64 (1 - 1), .int .i64 q3]
 unfold z6
 rw [hC2l, hA2l]
/-- moves.Make -/
theorem zDw (r : Go.Ax.Gm.Rules) (hv : ValidR r) (p : Pos) (S : Sound r p) (m : Mv) (hm : MvOK r p m) : zl Tryz.prog 67 [ruA r, poA p, mvA m] (poA (zZ r p m)) := by
 obtain ⟨cs, h0, h1, turn, qt⟩ := p
 rcases S.tn with q | q
 ·have q : turn = 0 := q
  subst q
  exact make0_ok r hv cs h0 h1 qt S m hm
 ·have q : turn = 1 := q
  subst q
  exact make1_ok r hv cs h1 h0 qt S m hm
theorem zGD {r : Go.Ax.Gm.Rules} (hv : ValidR r) {p : Pos} (S : Sound r p) : zl Tryz.prog 86 [poA p] (.str (keyT p)) :=
 key_ok p (zBT hv S) S.tn (fun c hc => by have := S.cs c hc; have := hv.n6; omega) S.c0 S.c1
def zCQ (l : List Pos) : List AV := l.map (fun p => .str (keyT p))
def zC0 (n : Nat) : List AV := (List.range n).map (fun i : Nat => iN i)
abbrev zDt (nx : List (List Nat)) : Cells := zCk [] 1 (fun row : List Nat => [z6 (row.map Int.ofNat)]) nx
abbrev tbC (r : Go.Ax.Gm.Rules) (l n : Nat) (e : AV) : List AV := [.str r.name, .int .i64 r.w, .int .i64 r.h, .ro (zAi r.pcs) 0 r.pcs.length, z6 r.start, .bool r.falls, .bool r.keeps, .ro (zE8 r.ends) 0 r.ends.length, .int .i64 r.blocked, .int .i64 r.quiet, .int .i64 r.rep, .sl 2 0 l, .sl 3 0 n, e, .mp 0]
abbrev zJQ (r : Go.Ax.Gm.Rules) (l : List Pos) (nx : List (List Nat)) (L : List Int) : zQ :=
 [some ⟨95, .mp (zCQ l) (zC0 l.length)⟩, some ⟨97, .box (tbC r l.length nx.length .nil)⟩, some ⟨35, zCD l⟩, some ⟨23, zDt nx⟩, some ⟨3, .ints .i64 L⟩]
theorem zDa (l : List Pos) : ∀ x ∈ zCQ l, zEY .str x = true := fun x hx => by
 obtain ⟨p, _, rfl⟩ := List.mem_map.1 hx
 rfl
theorem zNv {l : List Pos} {i : Nat} (h : i < l.length) : (zCQ l)[i]? = some (.str (keyT (l.getD i z7))) := by
 unfold zCQ
 rw [List.getElem?_map, List.getElem?_eq_getElem h]; simp [List.getD, h]
theorem zHt {n i : Nat} (h : i < n) : (zC0 n)[i]? = some (iN i) := by
 unfold zC0
 rw [List.getElem?_map, List.getElem?_range h]; rfl
theorem zHi {l : List Pos} {p : Pos} (h : zBH l p < l.length) : (zCQ l)[zBH l p]? = some (.str (keyT p)) := by
 rw [zNv h, zIR h]; rfl
theorem zFg {r : Go.Ax.Gm.Rules} (hv : ValidR r) {l : List Pos} {p : Pos} (S : Sound r p) (G : ∀ q ∈ l, Sound r q ∧ q.quiet = 0) (h : ¬ zBH l p < l.length) : AV.str (keyT p) ∉ zCQ l := fun hm => by
 obtain ⟨q, hq, e⟩ := List.mem_map.1 hm
 have e := key_inj hv (G q hq).1 S (AV.str.inj e)
 rw [zKE (G q hq).2] at e
 exact idx_no h (e ▸ hq)
theorem zHb {n : Nat} : ∀ {l : List AV}, (∀ x ∈ l, zCb n x = true) → zB2 n l = true
 | [], _ => rfl
 | x :: l, h => by
  show (zCb n x && zB2 n l) = true
  rw [h x (List.mem_cons_self ..), zHb (fun y hy => h y (List.mem_cons_of_mem _ hy))]; rfl
theorem zIv {n : Nat} (l : List Pos) (m : Nat) : zAo n (.mp (zCQ l) (zC0 m)) :=
 ⟨zHb (fun x hx => by obtain ⟨p, _, rfl⟩ := List.mem_map.1 hx; rfl), zHb (fun x hx => by obtain ⟨p, _, rfl⟩ := List.mem_map.1 hx; rfl)⟩
theorem zEw {n : Nat} (l : List Pos) : zAo n (zCD l) := fun i j _ hj => by
 have hj : j < 5 := hj
 match j, hj with
 | 0, _ => rfl
 | 1, _ => rfl
 | 2, _ => rfl
 | 3, _ => rfl
 | 4, _ => rfl
theorem zJG {n : Nat} (nx : List (List Nat)) : zAo n (zDt nx) := fun i j _ hj => by
 obtain rfl : j = 0 := Nat.lt_one_iff.1 hj
 rfl
theorem zJR (r : Go.Ax.Gm.Rules) (l : List Pos) (nx : List (List Nat)) (L : List Int) : ∀ (h : Nat) (o : AObj), (zJQ r l nx L)[h]? = some (some o) → zAo (zJQ r l nx L).length o.c :=
 zBo (zIv l _) (zBo (zGP rfl) (zBo (zEw l) (zBo (zJG nx) (zBo (fun _ _ _ _ => rfl) zBK))))
theorem zFe {h : Nat} : ∀ {l : List AV}, (∀ x ∈ l, x.forget h = x) → AV.forgets h l = l
 | [], _ => rfl
 | x :: l, q => by
  show x.forget h :: AV.forgets h l = x :: l
  rw [q x (List.mem_cons_self ..), zFe (fun y hy => q y (List.mem_cons_of_mem _ hy))]
theorem zEZ {h : Nat} (l : List Pos) (m : Nat) : (Cells.mp (zCQ l) (zC0 m)).forget h = .mp (zCQ l) (zC0 m) := by
 show Cells.mp (AV.forgets h (zCQ l)) (AV.forgets h (zC0 m)) = _
 rw [zFe (fun x hx => by obtain ⟨p, _, rfl⟩ := List.mem_map.1 hx; rfl), zFe (fun x hx => by obtain ⟨p, _, rfl⟩ := List.mem_map.1 hx; rfl)]
theorem zBm {α : Type} {d : α} {n h : Nat} {e : α → List AV} {l : List α} (q : ∀ a j, ((e a).getD j .any).forget h = (e a).getD j .any) : (zCk d n e l).forget h = zCk d n e l := by
 show Cells.fn l.length n (fun i j => ((e (l.getD i d)).getD j .any).forget h) = _
 simp only [q]; rfl
theorem zDd (a : Pos) (j k : Nat) : ((poC a).getD j .any).forget k = (poC a).getD j .any := by
 match j with
 | 0 => rfl
 | 1 => rfl
 | 2 => rfl
 | 3 => rfl
 | 4 => rfl
 | j + 5 => rfl
theorem zEc (a : List Nat) (j k : Nat) : (([z6 (a.map Int.ofNat)] : List AV).getD j .any).forget k = ([z6 (a.map Int.ofNat)] : List AV).getD j .any := by
 match j with
 | 0 => rfl
 | j + 1 => rfl
theorem zKA (l : List Pos) (p : Pos) : zCQ l ++ [.str (keyT p)] = zCQ (l ++ [zBw p]) := by unfold zCQ; rw [List.map_append]; rfl
theorem zKR (n : Nat) : zC0 n ++ [iN n] = zC0 (n + 1) := by unfold zC0; rw [List.range_succ, List.map_append]; rfl
/-- (*retro.Table).add -/
theorem add_ok (r : Go.Ax.Gm.Rules) (hv : ValidR r) (l : List Pos) (nx : List (List Nat)) (L : List Int) (p : Pos) (S : Sound r p) (G : ∀ q ∈ l, Sound r q ∧ q.quiet = 0) (hl : l.length ≤ 3001) :
 zd Tryz.prog 78 [.ptr 1 0 0, poA p] (zJQ r l nx L) (fun h => h < 5 ∧ h ≠ 2) (fun v H => v = iN (zBH l p) ∧ H = zJQ r (zC5 l p) nx L) := by
 have hc : zd Tryz.prog 78 [.ptr 1 0 0, poA p] (zJQ r l nx L) (fun h => h < 5 ∧ h ≠ 2) (fun v H => v = iN (zBH l p) ∧ ∃ x, H = zJQ r (zC5 l p) nx L ++ [x]) := by
  refine zN (P := Tryz.prog) (fn := Tryz.f78) J J (by kernel_rfl) J (fun c hR hfix => ?_)
  refine rn6 ?_
  refine zP J J J (zGD hv S) ?_
  refine rn8 ?_
  by_cases hi : zBH l p < l.length
  ·have hadd : zC5 l p = l := by unfold zC5; rw [if_pos hi]
   rw [hadd] at hR
   refine zA (zFJ J (.str J) J J J J (zDa l) (zBH l p) (zHi hi) (zHt hi)) ?_
   refine rn5 ?_
   exact zL hR J ⟨J, _, J⟩
  ·have hadd : zC5 l p = l ++ [zBw p] := by unfold zC5; rw [if_neg hi]
   have hidx : zBH l p = l.length := by have := zKj l p; omega
   rw [hadd, hidx] at hR
   refine zA (zEj J (.str J) J J J J J J J J (zDa l) (zFg hv S G hi)) ?_
   repeat (first | refine zA (zG rfl) ?_ | refine zA (zO rfl) ?_ | refine zC ?_ | refine zB ?_ | refine zY ?_ | refine zJ rfl ?_ | refine zAg rfl ?_ | refine zA (zU rfl rfl rfl rfl rfl) ?_ | refine zA (zEK rfl) ?_ | refine zA (zBG rfl rfl) ?_ | refine zA (zAx rfl rfl rfl) ?_ | refine zA (zT rfl) ?_ | refine zA (zM rfl rfl rfl rfl rfl rfl) ?_ | refine zAF rfl rfl rfl rfl rfl rfl rfl Nat.zero_lt_one ?_)
   refine zFX J (.str J) J J J J J (zDa l) (zFg hv S G hi) ?_
   refine rn0 ?_
   have hll : (l ++ [zBw p]).length = l.length + 1 := by rw [List.length_append]; rfl
   refine zAS [some ⟨95, .mp (zCQ (l ++ [zBw p])) (zC0 (l.length + 1))⟩, some ⟨97, .box (tbC r l.length nx.length .nil)⟩, some ⟨35, zCD l⟩, some ⟨23, zDt nx⟩, some ⟨3, .ints .i64 L⟩, some ⟨35, .box (poC (zBw p))⟩] (by rw [← zKA, ← zKR]; rfl) ?_
   refine ze (by kernel_rfl) ?_
   refine zV 0 J (by kernel_rfl) (by kernel_rfl) (by kernel_rfl) J (zG J) J ?_
   refine zm (fuel := 4) [1, 2, 3, 4, 5, 6] [(33, .ptr 1 0 0), (0, .ptr 1 0 0), (3, .ptr 5 0 0), (6, iN l.length)] ⟨J, J, J, J, trivial⟩ (by kernel_rfl) (by decide) J J ?_
   refine zI J J (zG J) ?_
   refine zI J J (zT J) ?_
   refine zI J J (zM J J J J J J) ?_
   refine zI J J (zU J J J J J) ?_
   refine zI J J (qpp J J J J J J J) ?_
   refine px_b J J J J J J J J J J J J J ?_
   refine zu ?_
   refine zH (is := [7]) (by kernel_rfl) (by simp) J ⟨fun o ho => ?_, trivial⟩
   all_goals (cases ho)
   refine zBV [zBw p] J J J J J J J J J J J J J (Nat.le_refl _) (fun k' j hk' hj => ?_) (by show (l.length + 1) * 88 ≤ _ ∧ _; omega) (fun a j k _ => zDd a j k) (by rw [hfix]; exact fun h => h.2 J) ?_
   ·obtain rfl : k' = 0 := Nat.lt_one_iff.1 hk'
    match j, hj with
    | 0, _ => rfl
    | 1, _ => rfl
    | 2, _ => rfl
    | 3, _ => rfl
    | 4, _ => rfl
   refine zAU [some ⟨95, .mp (zCQ (l ++ [zBw p])) (zC0 (l.length + 1))⟩, some ⟨97, .box ((tbC r l.length nx.length .nil).set 11 .any)⟩, some ⟨35, zCD (l ++ [zBw p])⟩, some ⟨23, zDt nx⟩, some ⟨3, .ints .i64 L⟩, some ⟨35, .box (poC (zBw p))⟩] ?_ ?_
   ·show [some (AObj.mk _ ((Cells.mp _ _).forget 2)), some (AObj.mk _ ((Cells.box _).forget 2)), some (AObj.mk _ (zCD (l ++ [zBw p]))), some (AObj.mk _ ((zDt nx).forget 2)), some (AObj.mk _ ((Cells.ints .i64 L).forget 2)), some (AObj.mk _ ((Cells.box (poC (zBw p))).forget 2))] = _
    rw [zEZ, zBm (fun a j => zEc a j 2)]; rfl
   refine rn1 ?_
   refine zV 8 J (by kernel_rfl) (by kernel_rfl) (by kernel_rfl) J (zT J) J ?_
   refine zV 9 J (by kernel_rfl) (by kernel_rfl) (by kernel_rfl) J (zM J J J J J J) J ?_
   refine zH (is := [10]) (by kernel_rfl) (by simp) J ⟨fun o ho => ?_, trivial⟩
   all_goals (cases ho)
   refine rn9 ?_
   refine zW (by kernel_rfl) ?_
   refine rn0 ?_
   exact zL hR J ⟨J, _, by show _ = [_, _, _, _, _, _]; rw [hll]; rfl⟩
 exact zd.cutR hc (fun v H ⟨e1, x, e2⟩ => ⟨_, [x], e2, fun h q => q.1, zJR _ _ _ _, e1 ▸ J, e1, J⟩)
/-- slices.IndexFunc of numbers, the function looks at the caller's memory -/
theorem zMY {H : zQ} (l : List Int) (q : Int → Bool) (g : Nat) (caps : List AV) (hl : l.length ≤ 1000000) (hc : ∀ x ∈ l, zd Tryz.prog g (.int .i64 x :: caps) H (fun h => h < H.length) (fun r H' => r = .bool (q x) ∧ H' = H)) :
 zd Tryz.prog 119 [z6 l, .fn g caps] H (fun h => h < H.length) (fun r H' => (∃ n : Int, r = .int .i64 n ∧ (decide (0 ≤ n) = l.any q)) ∧ H' = H) := by
 refine zN (P := Tryz.prog) (fn := Tryz.f119) J J (by kernel_rfl) J (fun c hR hfix => ?_)
 refine rn3 ?_
 refine z8 (ι := Nat) (fun k => [(0, z6 l), (1, .fn g caps), (7, iN l.length), (8, iN k)]) (fun _ => H)
  (fun k => k ≤ l.length ∧ (l.take k).any q = false) (fun k => l.length - k) 0 ⟨⟨rfl, rfl, rfl, rfl, trivial⟩, rfl, Nat.zero_le _, by rw [List.take_zero]; rfl⟩ ?_
 intro k ⟨hk, hno⟩
 refine rn4 ?_
 refine zF J (fun h => ?_) (fun h => ?_)
 ·have hk' : k < l.length := by omega
  have hmem : l.getD k 0 ∈ l := zAN 0 hk'
  have htk : (l.take (k + 1)).any q = ((l.take k).any q || q (l.getD k 0)) := by rw [zz _ 0 k hk', List.any_append]; simp
  refine rn6 ?_
  refine zCA J J J (hc _ hmem) (fun _ h => h) (fun _ h => h) ?_
  rintro r H' ⟨rfl, rfl⟩
  refine rn0 ?_
  cases hq : q (l.getD k 0) with
  | true =>
   refine rn6 ?_
   refine zL hR J ⟨⟨(k : Nat), J, ?_⟩, J⟩
   rw [decide_eq_true (by omega : (0 : Int) ≤ (k : Nat)), List.any_eq_true.2 ⟨_, hmem, hq⟩]
  | false =>
   refine rn5 ?_
   exact zR ⟨k + 1, ⟨by omega, by rw [htk, hno, hq]; rfl⟩, by omega, ⟨J, J, J, J, trivial⟩, J⟩
 ·have hk' : k = l.length := by omega
  subst hk'
  rw [List.take_length] at hno
  refine rn5 ?_
  refine zL hR J ⟨⟨-1, J, ?_⟩, J⟩
  rw [hno]; rfl
/-- slices.ContainsFunc of numbers, the function looks at the caller's memory -/
theorem zHd {H : zQ} (l : List Int) (q : Int → Bool) (g : Nat) (caps : List AV) (hl : l.length ≤ 1000000) (hc : ∀ x ∈ l, zd Tryz.prog g (.int .i64 x :: caps) H (fun h => h < H.length) (fun r H' => r = .bool (q x) ∧ H' = H)) :
 zd Tryz.prog 91 [z6 l, .fn g caps] H (fun h => h < H.length) (fun r H' => r = .bool (l.any q) ∧ H' = H) := by
 refine zN (P := Tryz.prog) (fn := Tryz.f91) J J (by kernel_rfl) J (fun c hR hfix => ?_)
 refine rn0 ?_
 refine zCA J J J (zMY l q g caps hl hc) (fun _ h => h) (fun _ h => h) ?_
 rintro r H' ⟨⟨n, rfl, hn⟩, rfl⟩
 refine rn8 ?_
 exact zL hR J ⟨congrArg AV.bool hn, J⟩
abbrev tbF (r : Go.Ax.Gm.Rules) (l : List Pos) (nx : List (List Nat)) (e : AV) : List AV := [.str r.name, .int .i64 r.w, .int .i64 r.h, .ro (zAi r.pcs) 0 r.pcs.length, z6 r.start, .bool r.falls, .bool r.keeps, .ro (zE8 r.ends) 0 r.ends.length, .int .i64 r.blocked, .int .i64 r.quiet, .int .i64 r.rep, .ro (zCD l) 0 l.length, .ro (zDt nx) 0 nx.length, e, .rom (zCQ l) (zC0 l.length)]
abbrev zCI (E : List Ent) : Cells := zCk (0, 0) 2 zCu E
/-- the closures of solve, over its memory -/
structure SolveH (r : Go.Ax.Gm.Rules) (l : List Pos) (nx : List (List Nat)) (E : List Ent) (H : zQ) : Prop where
 h1 : H[1]? = some (some ⟨97, .box (tbF r l nx (.sl 3 0 E.length))⟩)
 h2 : H[2]? = some (some ⟨28, .box [.ptr 1 0 0]⟩)
 h3 : H[3]? = some (some ⟨37, zCI E⟩)
theorem cl1_ok {r : Go.Ax.Gm.Rules} {l : List Pos} {nx : List (List Nat)} {E : List Ent} {H : zQ} (S : SolveH r l nx E H) (own : Int) (k : Int) (hk : 0 ≤ k ∧ k < (E.length : Int)) :
 zd Tryz.prog 109 [.int .i64 k, .ptr 2 0 0, .rp (.box [.int .i64 own]) 0 0] H (fun h => h < H.length) (fun r H' => r = .bool (decide ((E.getD k.toNat (0, 0)).1 = own)) ∧ H' = H) := by
 obtain ⟨h1, h2, h3⟩ := S
 have hk' : k.toNat < E.length := by omega
 refine zN (P := Tryz.prog) (fn := Tryz.f109) J J (by kernel_rfl) J (fun c hR hfix => ?_)
 refine rn0 ?_
 refine ze (by kernel_rfl) ?_
 refine zm (fuel := 0) [0, 1, 2, 3, 4, 5, 6, 7, 8, 9, 10] [(0, .int .i64 k), (1, .ptr 2 0 0), (2, .rp (.box [.int .i64 own]) 0 0)] ⟨J, J, J, trivial⟩ (by kernel_rfl) (by decide) J J ?_
 refine zI J J (zBS J J J (by assumption) (by rfl)) ?_
 refine zI J J (zT J) ?_
 refine zI J J (zM J J J J J J) ?_
 refine zI J J (zBS J J J (by assumption) (by rfl)) ?_
 refine zI J J (zG J) ?_
 refine zI J J (qis J J J) ?_
 refine zI J J (zM J J J J J J) ?_
 refine zI J J (zDf J J J (by assumption) J (by first | assumption | omega)) ?_
 refine zI J J (zD J J J J) ?_
 refine zI J J (zBR J J) ?_
 refine zI J J (zO J) ?_
 refine zu ?_
 refine zW (by kernel_rfl) ?_
 refine rn0 ?_
 exact zL hR J ⟨J, J⟩
theorem cl2_ok {r : Go.Ax.Gm.Rules} {l : List Pos} {nx : List (List Nat)} {E : List Ent} {H : zQ} (S : SolveH r l nx E H) (own : Int) (k : Int) (hk : 0 ≤ k ∧ k < (E.length : Int)) :
 zd Tryz.prog 110 [.int .i64 k, .ptr 2 0 0, .rp (.box [.int .i64 own]) 0 0] H (fun h => h < H.length) (fun r H' => r = .bool (decide ((E.getD k.toNat (0, 0)).1 ≠ own)) ∧ H' = H) := by
 obtain ⟨h1, h2, h3⟩ := S
 have hk' : k.toNat < E.length := by omega
 refine zN (P := Tryz.prog) (fn := Tryz.f110) J J (by kernel_rfl) J (fun c hR hfix => ?_)
 refine rn0 ?_
 refine ze (by kernel_rfl) ?_
 refine zm (fuel := 0) [0, 1, 2, 3, 4, 5, 6, 7, 8, 9, 10] [(0, .int .i64 k), (1, .ptr 2 0 0), (2, .rp (.box [.int .i64 own]) 0 0)] ⟨J, J, J, trivial⟩ (by kernel_rfl) (by decide) J J ?_
 refine zI J J (zBS J J J (by assumption) (by rfl)) ?_
 refine zI J J (zT J) ?_
 refine zI J J (zM J J J J J J) ?_
 refine zI J J (zBS J J J (by assumption) (by rfl)) ?_
 refine zI J J (zG J) ?_
 refine zI J J (qis J J J) ?_
 refine zI J J (zM J J J J J J) ?_
 refine zI J J (zDf J J J (by assumption) J (by first | assumption | omega)) ?_
 refine zI J J (zD J J J J) ?_
 refine zI J J (zBl J J) ?_
 refine zI J J (zO J) ?_
 refine zu ?_
 refine zW (by kernel_rfl) ?_
 refine rn0 ?_
 exact zL hR J ⟨J, J⟩
theorem cl3_ok {r : Go.Ax.Gm.Rules} {l : List Pos} {nx : List (List Nat)} {E : List Ent} {H : zQ} (S : SolveH r l nx E H) (i : Nat) (hi : i < l.length) (ht : zAk l i = 0 ∨ zAk l i = 1) (k : Int) (hk : 0 ≤ k ∧ k < (E.length : Int)) :
 zd Tryz.prog 111 [.int .i64 k, .ptr 2 0 0, .rp (.box [iN i]) 0 0] H (fun h => h < H.length) (fun r H' => r = .bool (decide ((E.getD k.toNat (0, 0)).1 = 1 + zAk l i)) ∧ H' = H) := by
 obtain ⟨h1, h2, h3⟩ := S
 have hk' : k.toNat < E.length := by omega
 have ht : 0 ≤ (l.getD i z7).turn ∧ (l.getD i z7).turn ≤ 1 := by unfold zAk at ht; omega
 refine zN (P := Tryz.prog) (fn := Tryz.f111) J J (by kernel_rfl) J (fun c hR hfix => ?_)
 refine rn0 ?_
 refine ze (by kernel_rfl) ?_
 refine zm (fuel := 0) [0, 1, 2, 3, 4, 5, 6, 7, 8, 9, 10, 11, 12, 13, 14, 15, 16, 17, 18] [(0, .int .i64 k), (1, .ptr 2 0 0), (2, .rp (.box [iN i]) 0 0)] ⟨J, J, J, trivial⟩ (by kernel_rfl) (by decide) J J ?_
 refine zI J J (zBS J J J (by assumption) (by rfl)) ?_
 refine zI J J (zT J) ?_
 refine zI J J (zM J J J J J J) ?_
 refine zI J J (zBS J J J (by assumption) (by rfl)) ?_
 refine zI J J (zG J) ?_
 refine zI J J (qis J J J) ?_
 refine zI J J (zM J J J J J J) ?_
 refine zI J J (zDf J J J (by assumption) J (by first | assumption | omega)) ?_
 refine zI J J (zBS J J J (by assumption) (by rfl)) ?_
 refine zI J J (zT J) ?_
 refine zI J J (zM J J J J J J) ?_
 refine zI J J (zBS J J J (by assumption) (by rfl)) ?_
 refine zI J J (zD J J J J) ?_
 refine zI J J (zh J J J J (by first | (simp only [Nat.zero_add, Int.toNat_natCast, Int.toNat_zero]; exact J) | exact J) (by omega)) ?_
 refine zI J J (zK J J J J J J) ?_
 refine zI J J (zAm J J J J) ?_
 refine zI J J (zAw J J (by omega)) ?_
 refine zI J J (zBR J J) ?_
 refine zI J J (zO J) ?_
 refine zu ?_
 refine zW (by kernel_rfl) ?_
 refine rn0 ?_
 exact zL hR J ⟨J, J⟩
/-- is(own): the box is only read from now on -/
theorem cl0_ok {H : zQ} (own : Int) (hb : ∀ (h : Nat) (o : AObj), H[h]? = some (some o) → zAo H.length o.c) (hlt : 2 < H.length) :
 zd Tryz.prog 108 [.int .i64 own, .ptr 2 0 0] H (fun h => h < H.length) (fun r H' => r = .fn 109 [.ptr 2 0 0, .rp (.box [.int .i64 own]) 0 0] ∧ H' = H) := by
 have hc : zd Tryz.prog 108 [.int .i64 own, .ptr 2 0 0] H (fun h => h < H.length) (fun r H' => r = .fn 109 [.ptr 2 0 0, .rp (.box [.int .i64 own]) 0 0] ∧ H' = H ++ [none]) := by
  refine zN (P := Tryz.prog) (fn := Tryz.f108) J J (by kernel_rfl) J (fun c hR hfix => ?_)
  refine zY ?_
  repeat (first | refine zA (zO rfl) ?_ | refine zC ?_ | refine zB ?_ | refine zJ rfl ?_ | refine zAO rfl rfl ?_)
  refine ax_fzN H 2 [(1, .ptr 2 0 0)] J J ⟨J, trivial⟩ ?_
  repeat (first | refine zA (zO rfl) ?_ | refine zC ?_ | refine zB ?_ | refine zY ?_ | refine zJ rfl ?_ | refine zAA ?_ | refine zA (zCj rfl) ?_)
  exact zL hR J ⟨J, J⟩
 exact zd.cutR hc (fun v H' ⟨e1, e2⟩ => ⟨H, [none], e2, fun h q => q, hb, by rw [e1]; show (Nat.blt 2 H.length && _) = true; rw [show Nat.blt 2 H.length = true from Nat.ble_eq_true_of_le hlt]; rfl, e1, J⟩)
abbrev slH (r : Go.Ax.Gm.Rules) (l : List Pos) (nx : List (List Nat)) (E : List Ent) (T : zQ) : zQ :=
 none :: some ⟨97, .box (tbF r l nx (.sl 3 0 E.length))⟩ :: some ⟨28, .box [.ptr 1 0 0]⟩ :: some ⟨37, zCI E⟩ :: T
abbrev zGb (f : List Nat) : Option AObj := some ⟨3, .ints .i64 (f.map Int.ofNat)⟩
abbrev resO (f : List Int) : Option AObj := some ⟨3, .ints .i64 f⟩
theorem slH_S (r : Go.Ax.Gm.Rules) (l : List Pos) (nx : List (List Nat)) (E : List Ent) (T : zQ) : SolveH r l nx E (slH r l nx E T) := ⟨rfl, rfl, rfl⟩
theorem zMW {n : Nat} (E : List Ent) : zAo n (zCI E) := fun i j _ hj => by
 have hj : j < 2 := hj
 match j, hj with
 | 0, _ => rfl
 | 1, _ => rfl
theorem zG7 (a : Ent) (j k : Nat) : ((zCu a).getD j .any).forget k = (zCu a).getD j .any := by
 match j with
 | 0 => rfl
 | 1 => rfl
 | j + 2 => rfl
/-- what solve may rely on -/
structure SolveP (r : Go.Ax.Gm.Rules) (l : List Pos) (nx : List (List Nat)) : Prop where
 hv : ValidR r
 ll : l.length ≤ 3000
 S : ∀ i, i < l.length → Sound r (l.getD i z7)
 nl : nx.length = l.length
 rl : ∀ i, i < l.length → (nx.getD i []).length ≤ 1000000
 nk : ∀ i, i < l.length → ∀ k ∈ nx.getD i [], k < l.length
theorem zF7 (n : Nat) : CEq (zBM n [.int .i64 0, .int .i64 0]) (zCI (List.replicate n (0, 0))) := by
 refine ⟨by show (List.replicate n ((0, 0) : Ent)).length = n; rw [List.length_replicate], J, fun i j hi hj => ?_⟩
 have hj : j < 2 := hj
 have e : (List.replicate n ((0, 0) : Ent)).getD i (0, 0) = (0, 0) := by
  simp only [List.getD, List.getElem?_replicate]; split <;> rfl
 show (zCu ((List.replicate n ((0, 0) : Ent)).getD i (0, 0))).getD j .any = _
 rw [e]
 match j, hj with
 | 0, _ => rfl
 | 1, _ => rfl
theorem zGC {H : zQ} {t : TypeId} {a b : Cells} (h : CEq a b) : zAs (H ++ [some ⟨t, a⟩]) (H ++ [some ⟨t, b⟩]) :=
 zAs.append (zAs.refl H) (zAs.cons (fun o ho => by cases ho; exact ⟨_, rfl, rfl, h⟩) (zAs.refl []))
theorem zEz (r : Go.Ax.Gm.Rules) (l : List Pos) (nx : List (List Nat)) (E : List Ent) {T : zQ} (h : ∀ (h : Nat) (o : AObj), T[h]? = some (some o) → zAo (slH r l nx E T).length o.c) : ∀ (h : Nat) (o : AObj), (slH r l nx E T)[h]? = some (some o) → zAo (slH r l nx E T).length o.c :=
 have e : (slH r l nx E T).length = T.length + 4 := rfl
 have q : ∀ n, 4 ≤ n → (Nat.blt 3 n) = true ∧ (Nat.blt 1 n) = true := fun n hn => ⟨Nat.ble_eq_true_of_le hn, Nat.ble_eq_true_of_le (by omega)⟩
 bl_n (zBo (zGP (by show (true && (true && (true && (true && (true && (true && (true && (true && (true && (true && (true && (true && (true && (Nat.blt 3 _ && (true && true))))))))))))))) = true; rw [(q _ (by omega)).1]; rfl)) (zBo (zGP (by show (Nat.blt 1 _ && true) = true; rw [(q _ (by omega)).2]; rfl)) (zBo (zMW E) h)))
theorem zGq (r : Go.Ax.Gm.Rules) (l : List Pos) (nx : List (List Nat)) (E : List Ent) : ∀ (h : Nat) (o : AObj), (slH r l nx E [])[h]? = some (some o) → zAo (slH r l nx E []).length o.c := zEz r l nx E zBK
/-- (*retro.Table).solve -/
theorem solve_ok (r : Go.Ax.Gm.Rules) (l : List Pos) (nx : List (List Nat)) (Q : SolveP r l nx) :
 zd Tryz.prog 79 [.ptr 1 0 0] [none, some ⟨97, .box (tbF r l nx .nil)⟩] (fun h => h < 2) (fun v H => v = .tup [] ∧ ∃ N, zA1 l nx (zw l nx (zAM r l) N) = [] ∧ H = slH r l nx (zB3 (zw l nx (zAM r l) N)) []) := by
 obtain ⟨hv, hll, hS, hnl, hrl, hnk⟩ := Q
 refine zN (P := Tryz.prog) (fn := Tryz.f79) J J (by kernel_rfl) J (fun c hR hfix => ?_)
 have turnB : ∀ i, zAk l i = 0 ∨ zAk l i = 1 := fun i => by
  rcases Nat.lt_or_ge i l.length with q | q
  ·exact (hS i q).tn
  ·left; unfold zAk; rw [List.getD, List.getElem?_eq_none q]; rfl
 have hfx : ∀ h, c.fix h → h < 2 := fun h q => by rw [hfix] at q; exact q
 refine zY ?_
 repeat (first | refine zC ?_ | refine zB ?_ | refine zJ rfl ?_ | refine zAO rfl rfl ?_)
 refine zY ?_
 refine ze (by kernel_rfl) ?_
 apply zS (H := [none, some ⟨97, .box (tbF r l nx .nil)⟩, some ⟨28, .box [.ptr 1 0 0]⟩, some ⟨37, zCI (List.replicate l.length (0, 0))⟩]) [(1, .ptr 2 0 0), (19, .ptr 1 0 0), (25, .sl 3 0 l.length)]
 ·intro fin
  refine zH (is := [0, 1]) (by kernel_rfl) (by simp) J ⟨fun o ho => ?_, fun o ho => ?_, trivial⟩
  all_goals (cases ho)
  ·refine rn4 ?_
   refine zm (fuel := 4) [1, 2, 3, 4, 5] [(1, .ptr 2 0 0), (19, .ptr 1 0 0)] ⟨J, J, trivial⟩ (by kernel_rfl) (by decide) J J ?_
   refine zI J J (zU J J J J J) ?_
   refine zI J J (zT J) ?_
   refine zI J J (zM J J J J J J) ?_
   refine zI J J (zU J J J J J) ?_
   refine zI J J (zAx J J J) ?_
   refine zu ?_
   refine zH (is := [6]) (by kernel_rfl) (by simp) J ⟨fun o ho => ?_, trivial⟩
   all_goals (cases ho)
   refine zGy J J J J J J J J (by show (0 : Int) ≤ _ ∧ _ ≤ _ ∧ (16 : Int) * _ ≤ _ ∧ _; omega) ?_
   refine zBJ _ (zGC (zF7 l.length)) ?_
   refine rn1 ?_
   exact fin _ ⟨J, J, J, trivial⟩
  ·refine rn4 ?_
   refine zV 2 J (by kernel_rfl) (by kernel_rfl) (by kernel_rfl) J (zT J) J ?_
   refine zV 3 J (by kernel_rfl) (by kernel_rfl) (by kernel_rfl) J (zM J J J J J J) J ?_
   refine zH (is := [0, 4]) (by kernel_rfl) (by simp) J ⟨fun o ho => ?_, fun o ho => ?_, trivial⟩
   all_goals (cases ho)
   ·refine rn4 ?_
    refine zm (fuel := 4) [4, 5] [(1, .ptr 2 0 0), (19, .ptr 1 0 0), (22, .ptr 1 0 11)] ⟨J, J, J, trivial⟩ (by kernel_rfl) (by decide) J J ?_
    refine zI J J (zU J J J J J) ?_
    refine zI J J (zAx J J J) ?_
    refine zu ?_
    refine zH (is := [6]) (by kernel_rfl) (by simp) J ⟨fun o ho => ?_, trivial⟩
    all_goals (cases ho)
    refine zGy J J J J J J J J (by show (0 : Int) ≤ _ ∧ _ ≤ _ ∧ (16 : Int) * _ ≤ _ ∧ _; omega) ?_
    refine zBJ _ (zGC (zF7 l.length)) ?_
    refine rn1 ?_
    exact fin _ ⟨J, J, J, trivial⟩
   ·refine rn4 ?_
    refine zV 5 J (by kernel_rfl) (by kernel_rfl) (by kernel_rfl) J (zAx J J J) J ?_
    refine zH (is := [0, 6]) (by kernel_rfl) (by simp) J ⟨fun o ho => ?_, fun o ho => ?_, trivial⟩
    all_goals (cases ho)
    ·refine rn4 ?_
     refine zH (is := [6]) (by kernel_rfl) (by simp) J ⟨fun o ho => ?_, trivial⟩
     all_goals (cases ho)
     refine zGy J J J J J J J J (by show (0 : Int) ≤ _ ∧ _ ≤ _ ∧ (16 : Int) * _ ≤ _ ∧ _; omega) ?_
     refine zBJ _ (zGC (zF7 l.length)) ?_
     refine rn1 ?_
     exact fin _ ⟨J, J, J, trivial⟩
    ·refine zGy J J J J J J J J (by show (0 : Int) ≤ _ ∧ _ ≤ _ ∧ (16 : Int) * _ ≤ _ ∧ _; omega) ?_
     refine zBJ _ (zGC (zF7 l.length)) ?_
     refine rn1 ?_
     refine zH (is := [0]) (by kernel_rfl) (by simp) J ⟨fun o ho => ?_, trivial⟩
     all_goals (cases ho)
     refine rn4 ?_
     exact fin _ ⟨J, J, J, trivial⟩
 refine zV 7 J (by kernel_rfl) (by kernel_rfl) (by kernel_rfl) J (zT J) J ?_
 refine zV 8 J (by kernel_rfl) (by kernel_rfl) (by kernel_rfl) J (zM J J J J J J) J ?_
 refine zH (is := [9]) (by kernel_rfl) (by simp) J ⟨fun o ho => ?_, trivial⟩
 all_goals (cases ho)
 refine rn9 ?_
 refine zW (by kernel_rfl) ?_
 repeat (refine zB ?_)
 refine zAS (slH r l nx (zDC r l 0) []) (by rw [zL5]; show _ = [none, some (AObj.mk _ (.box (tbF r l nx (.sl 3 0 (List.replicate l.length ((0, 0) : Ent)).length)))), _, _]; rw [List.length_replicate]; rfl) ?_
 refine zY ?_
 refine rn15 ?_
 refine z8 (ι := Nat) (fun k => [(1, .ptr 2 0 0), (31, .ro (zCD l) 0 l.length), (32, iN l.length), (33, iN k)]) (fun k => slH r l nx (zDC r l k) []) (fun k => k ≤ l.length) (fun k => l.length - k) 0 ⟨⟨J, J, J, J, trivial⟩, J, Nat.zero_le _⟩ ?_
 ·intro k hk
  refine rn4 ?_
  refine zF J (fun h => ?_) (fun h => ?_)
  ·have hk' : k < l.length := by omega
   have hEl := zJN r hk
   generalize hp : l.getD k z7 = p
   refine zFu ?_
   refine rn4 ?_
   refine zb (poC p) J J J J J (by rw [← hp]; rfl) J ?_
   refine rn0 ?_
   refine zCa (slH r l nx (zDC r l k) []) 3 [(1, .ptr 2 0 0), (31, .ro (zCD l) 0 l.length), (32, iN l.length), (33, iN k), (2, iN k)] J J ⟨J, J, J, J, J, trivial⟩ ⟨J, J, J, J, J, J, trivial⟩ (zGq _ _ _ _) J (fun h q => Nat.lt_of_lt_of_le (hfx h q) (by show 2 ≤ 4; decide)) ?_
   refine ze (by kernel_rfl) ?_
   refine zm (fuel := 3) [0, 1, 2, 3, 4, 5, 6, 7, 8, 9, 10] [(3, .rp (.box (poC p)) 0 0), (1, .ptr 2 0 0), (31, .ro (zCD l) 0 l.length), (32, iN l.length), (33, iN k), (2, iN k)] ⟨J, J, J, J, J, J, trivial⟩ (by kernel_rfl) (by decide) J J ?_
   refine zI J J (zU J J J J J) ?_
   refine zI J J (zT J) ?_
   refine zI J J (zM J J J J J J) ?_
   refine zI J J (zU J J J J J) ?_
   refine zI J J (zG J) ?_
   refine zI J J (zU J J J J J) ?_
   refine zI J J (zT J) ?_
   refine zI J J (zM J J J J J J) ?_
   refine zI J J (qpp J J J J J J J) ?_
   refine zI J J (zf J J J J J J) ?_
   refine zCL J J J J J (zCH r hv p (by rw [← hp]; exact hS k hk')) ?_
   refine zu ?_
   refine zV 11 J (by kernel_rfl) (by kernel_rfl) (by kernel_rfl) J (zn J J J J J (by first | (simp only [Nat.zero_add, Int.toNat_natCast, Int.toNat_zero]; exact J) | exact J) (by omega)) J ?_
   refine zV 12 J (by kernel_rfl) (by kernel_rfl) (by kernel_rfl) J (zM J J J J J J) J ?_
   refine zH (is := [13]) (by kernel_rfl) (by simp) J ⟨fun o ho => ?_, trivial⟩
   all_goals (cases ho)
   refine zJq (zp r p, 0) J J J J J J (by omega) (fun j' hj' => ?_) ?_
   ·rw [zOP r hk']
    match j', hj' with
    | 0, _ => rfl
    | 1, _ => rfl
   refine rn1 ?_
   refine zW (by kernel_rfl) ?_
   refine rn5 ?_
   refine zR ⟨k + 1, by omega, by omega, ⟨J, J, J, J, trivial⟩, ?_⟩
   rw [zL4 r hk', hp]
   show _ = [none, some (AObj.mk _ (.box (tbF r l nx (.sl 3 0 (List.set _ _ _).length)))), _, _]
   rw [List.length_set]; rfl
  ·have hk' : k = l.length := by omega
   subst hk'
   rw [zIF]
   refine rn5 ?_
   have hE0 : (zAM r l).length = l.length := by rw [← zIF]; exact zJN r (Nat.le_refl _)
   have hopl : ∀ E : List Ent, zBv E ≤ E.length := fun E => List.length_filter_le ..
   refine z8 (ι := Nat) (fun n => [(1, .ptr 2 0 0), (4, .int .i64 ((n : Int) + 1))]) (fun n => slH r l nx (zw l nx (zAM r l) n) []) (fun n => n + zBv (zw l nx (zAM r l) n) ≤ l.length) (fun n => zBv (zw l nx (zAM r l) n)) 0 ⟨⟨J, J, trivial⟩, J, by show 0 + zBv (zAM r l) ≤ _; have := hopl (zAM r l); omega⟩ ?_
   intro n hn
   have hEl : (zw l nx (zAM r l) n).length = l.length := zCx hE0 n
   have hst : zw l nx (zAM r l) (n + 1) = zDu l nx (n + 1) (zw l nx (zAM r l) n) := rfl
   have hop : zA1 l nx (zw l nx (zAM r l) n) ≠ [] → zBv (zDu l nx (n + 1) (zw l nx (zAM r l) n)) < zBv (zw l nx (zAM r l) n) := fun q => zFO hEl (fun i => turnB i) q
   generalize hEn : zw l nx (zAM r l) n = E at hn hEl hop hst
   refine rn15 ?_
   refine zBq 5 ⟨3, .ints .i64 []⟩ J J ?_
   skip
   refine z8 (ι := Nat) (fun k => [(1, .ptr 2 0 0), (4, .int .i64 ((n : Int) + 1)), (57, .ro (zCD l) 0 l.length), (58, iN l.length), (59, iN k), (5, .sl 4 0 (zBF l nx E k).length)]) (fun k => slH r l nx E [zGb (zBF l nx E k)]) (fun k => k ≤ l.length) (fun k => l.length - k) 0 ⟨⟨J, J, J, J, J, J, trivial⟩, J, Nat.zero_le _⟩ ?_
   intro k hk
   refine rn4 ?_
   refine zF J (fun h => ?_) (fun h => ?_)
   ·have hk' : k < l.length := by omega
    have hkE : k < E.length := by omega
    have hfl := zIo l nx E k
    have htn := turnB k
    have hfs := zLZ l nx E k
    have hT : zAk l k = (l.getD k z7).turn := rfl
    generalize hp : l.getD k z7 = p at hT
    refine zFu ?_
    refine rn4 ?_
    refine zb (poC p) J J J J J (by rw [← hp]; rfl) J ?_
    refine zBA ?_
    refine zCa (slH r l nx E [zGb (zBF l nx E k)]) 7 [(1, .ptr 2 0 0), (4, .int .i64 ((n : Int) + 1)), (57, .ro (zCD l) 0 l.length), (58, iN l.length), (59, iN k), (5, .sl 4 0 (zBF l nx E k).length), (6, iN k)] J J ⟨J, J, J, J, J, J, J, trivial⟩ ⟨J, J, J, J, J, J, J, J, trivial⟩ (zEz _ _ _ _ (zBo (fun _ _ _ _ => rfl) zBK)) J (fun h q => Nat.lt_of_lt_of_le (hfx h q) (by show 2 ≤ 5; decide)) ?_
    repeat (first | refine zA (zG rfl) ?_ | refine zC ?_ | refine zB ?_ | refine zJ rfl ?_ | refine zA (zU rfl rfl rfl rfl rfl) ?_ | refine zA (zBl rfl rfl) ?_ | refine zA (zn rfl rfl rfl rfl rfl (by first | (simp only [Nat.zero_add, Int.toNat_natCast, Int.toNat_zero]; exact rfl) | exact rfl) (by omega)) ?_ | refine zA (zDe rfl rfl rfl rfl rfl (by first | assumption | omega)) ?_ | refine zA (zT rfl) ?_ | refine zA (zM rfl rfl rfl rfl rfl rfl) ?_)
    refine zF J (fun o1 => ?_) (fun o1 => ?_)
    ·have hno : ¬ zB5 l nx E k = true := fun q => o1 (zE9 q)
     refine rn5 ?_
     refine zR ⟨k + 1, by omega, by omega, ⟨J, J, J, J, J, ?_, trivial⟩, ?_⟩
     ·rw [hfs, if_neg hno]; rfl
     ·rw [hfs, if_neg hno]
    ·have ho : zDI E k = 0 := Classical.not_not.1 o1
     have hfb : zB5 l nx E k = (zKS l nx E k || zI2 l nx E k) := by unfold zB5; rw [ho]; rfl
     refine rn1 ?_
     refine ze (by kernel_rfl) ?_
     refine zV 0 J (by kernel_rfl) (by kernel_rfl) (by kernel_rfl) J (zK J J J J J J) J ?_
     refine zV 3 J (by kernel_rfl) (by kernel_rfl) (by kernel_rfl) J (zK J J J J J J) J ?_
     apply zS (H := slH r l nx E [zGb (zBF l nx E k), some ⟨3, .box [.int .i64 0]⟩]) [(1, .ptr 2 0 0), (4, .int .i64 ((n : Int) + 1)), (57, .ro (zCD l) 0 l.length), (58, iN l.length), (59, iN k), (5, .sl 4 0 (zBF l nx E k).length), (6, iN k), (8, .int .i64 (1 + p.turn)), (78, .int .i64 (2 - p.turn)), (9, .ptr 5 0 0)]
     ·intro fin
      refine zH (is := [1, 4, 6]) (by kernel_rfl) (by simp) J ⟨fun o ho => ?_, fun o ho => ?_, fun o ho => ?_, trivial⟩
      all_goals (cases ho)
      ·repeat (first | refine zC ?_ | refine zX ?_ | refine zA (zD rfl rfl rfl rfl) ?_)
       refine zV 2 J (by kernel_rfl) (by kernel_rfl) (by kernel_rfl) J (zAw J J (by omega)) J ?_
       refine zH (is := [4, 6]) (by kernel_rfl) (by simp) J ⟨fun o ho => ?_, fun o ho => ?_, trivial⟩
       all_goals (cases ho)
       ·repeat (first | refine zC ?_ | refine zX ?_ | refine zA (zD rfl rfl rfl rfl) ?_)
        refine zV 5 J (by kernel_rfl) (by kernel_rfl) (by kernel_rfl) J (zBL J J (by omega)) J ?_
        refine zH (is := [6]) (by kernel_rfl) (by simp) J ⟨fun o ho => ?_, trivial⟩
        all_goals (cases ho)
        refine rn4 ?_
        refine zV 7 J (by kernel_rfl) (by kernel_rfl) (by kernel_rfl) J (zO J) J ?_
        exact fin _ ⟨J, J, J, J, J, J, J, J, J, J, trivial⟩
       ·refine rn4 ?_
        refine zV 7 J (by kernel_rfl) (by kernel_rfl) (by kernel_rfl) J (zO J) J ?_
        refine zH (is := [4]) (by kernel_rfl) (by simp) J ⟨fun o ho => ?_, trivial⟩
        all_goals (cases ho)
        repeat (first | refine zC ?_ | refine zX ?_ | refine zA (zD rfl rfl rfl rfl) ?_)
        refine zV 5 J (by kernel_rfl) (by kernel_rfl) (by kernel_rfl) J (zBL J J (by omega)) J ?_
        exact fin _ ⟨J, J, J, J, J, J, J, J, J, J, trivial⟩
      ·repeat (first | refine zC ?_ | refine zX ?_ | refine zA (zD rfl rfl rfl rfl) ?_)
       refine zV 5 J (by kernel_rfl) (by kernel_rfl) (by kernel_rfl) J (zBL J J (by omega)) J ?_
       refine zH (is := [1, 6]) (by kernel_rfl) (by simp) J ⟨fun o ho => ?_, fun o ho => ?_, trivial⟩
       all_goals (cases ho)
       ·repeat (first | refine zC ?_ | refine zX ?_ | refine zA (zD rfl rfl rfl rfl) ?_)
        refine zV 2 J (by kernel_rfl) (by kernel_rfl) (by kernel_rfl) J (zAw J J (by omega)) J ?_
        refine zH (is := [6]) (by kernel_rfl) (by simp) J ⟨fun o ho => ?_, trivial⟩
        all_goals (cases ho)
        refine rn4 ?_
        refine zV 7 J (by kernel_rfl) (by kernel_rfl) (by kernel_rfl) J (zO J) J ?_
        exact fin _ ⟨J, J, J, J, J, J, J, J, J, J, trivial⟩
       ·refine rn4 ?_
        refine zH (is := [1]) (by kernel_rfl) (by simp) J ⟨fun o ho => ?_, trivial⟩
        all_goals (cases ho)
        repeat (first | refine zC ?_ | refine zX ?_ | refine zA (zD rfl rfl rfl rfl) ?_)
        refine zV 2 J (by kernel_rfl) (by kernel_rfl) (by kernel_rfl) J (zAw J J (by omega)) J ?_
        refine zV 7 J (by kernel_rfl) (by kernel_rfl) (by kernel_rfl) J (zO J) J ?_
        exact fin _ ⟨J, J, J, J, J, J, J, J, J, J, trivial⟩
      ·refine rn4 ?_
       refine zH (is := [1, 4]) (by kernel_rfl) (by simp) J ⟨fun o ho => ?_, fun o ho => ?_, trivial⟩
       all_goals (cases ho)
       ·repeat (first | refine zC ?_ | refine zX ?_ | refine zA (zD rfl rfl rfl rfl) ?_)
        refine zV 2 J (by kernel_rfl) (by kernel_rfl) (by kernel_rfl) J (zAw J J (by omega)) J ?_
        refine zV 7 J (by kernel_rfl) (by kernel_rfl) (by kernel_rfl) J (zO J) J ?_
        refine zH (is := [4]) (by kernel_rfl) (by simp) J ⟨fun o ho => ?_, trivial⟩
        all_goals (cases ho)
        repeat (first | refine zC ?_ | refine zX ?_ | refine zA (zD rfl rfl rfl rfl) ?_)
        refine zV 5 J (by kernel_rfl) (by kernel_rfl) (by kernel_rfl) J (zBL J J (by omega)) J ?_
        exact fin _ ⟨J, J, J, J, J, J, J, J, J, J, trivial⟩
       ·repeat (first | refine zC ?_ | refine zX ?_ | refine zA (zD rfl rfl rfl rfl) ?_)
        refine zV 5 J (by kernel_rfl) (by kernel_rfl) (by kernel_rfl) J (zBL J J (by omega)) J ?_
        refine zH (is := [1]) (by kernel_rfl) (by simp) J ⟨fun o ho => ?_, trivial⟩
        all_goals (cases ho)
        repeat (first | refine zC ?_ | refine zX ?_ | refine zA (zD rfl rfl rfl rfl) ?_)
        refine zV 2 J (by kernel_rfl) (by kernel_rfl) (by kernel_rfl) J (zAw J J (by omega)) J ?_
        refine zV 7 J (by kernel_rfl) (by kernel_rfl) (by kernel_rfl) J (zO J) J ?_
        exact fin _ ⟨J, J, J, J, J, J, J, J, J, J, trivial⟩
     refine zH (is := [8]) (by kernel_rfl) (by simp) J ⟨fun o ho => ?_, trivial⟩
     all_goals (cases ho)
     refine rn9 ?_
     refine zW (by kernel_rfl) ?_
     refine zBA ?_
     refine zCa (slH r l nx E [zGb (zBF l nx E k)]) 9 [(1, .ptr 2 0 0), (4, .int .i64 ((n : Int) + 1)), (57, .ro (zCD l) 0 l.length), (58, iN l.length), (59, iN k), (5, .sl 4 0 (zBF l nx E k).length), (6, iN k), (8, .int .i64 (1 + p.turn))] J J ⟨J, J, J, J, J, J, J, J, trivial⟩ ⟨J, J, J, J, J, J, J, J, J, trivial⟩ (zEz _ _ _ _ (zBo (fun _ _ _ _ => rfl) zBK)) J (fun h q => Nat.lt_of_lt_of_le (hfx h q) (by show 2 ≤ 5; decide)) ?_
     refine zBx ?_
     have hkn : k < nx.length := by omega
     have hrow := hrl k hk'
     have hcl : ∀ x ∈ (nx.getD k []).map Int.ofNat, 0 ≤ x ∧ x < (E.length : Int) := fun x hx => by
      obtain ⟨q, hq, rfl⟩ := List.mem_map.1 hx
      have := hnk k hk' q hq
      exact ⟨Int.natCast_nonneg q, by show (q : Int) < _; omega⟩
     have hrl2 : ((nx.getD k []).map Int.ofNat).length ≤ 1000000 := by rw [List.length_map]; exact hrow
     have c1 := zHd (H := slH r l nx E [zGb (zBF l nx E k)]) ((nx.getD k []).map Int.ofNat) (fun x => decide ((E.getD x.toNat (0, 0)).1 = 1 + p.turn)) 109 [.ptr 2 0 0, .rp (.box [.int .i64 (1 + p.turn)]) 0 0] hrl2 (fun x hx => cl1_ok (slH_S r l nx E _) (1 + p.turn) x (hcl x hx))
     have c2 := zHd (H := slH r l nx E [zGb (zBF l nx E k)]) ((nx.getD k []).map Int.ofNat) (fun x => decide ((E.getD x.toNat (0, 0)).1 ≠ 2 - p.turn)) 110 [.ptr 2 0 0, .rp (.box [.int .i64 (2 - p.turn)]) 0 0] hrl2 (fun x hx => cl2_ok (slH_S r l nx E _) (2 - p.turn) x (hcl x hx))
     rw [← hT, zLA] at c1
     rw [← hT] at c2
     rw [← hT]
     refine ze (by kernel_rfl) ?_
     refine zm (fuel := 0) [0, 1, 2, 3, 4, 5, 6, 7, 8, 9, 10, 11] [(9, .rp (.box [.int .i64 (2 - zAk l k)]) 0 0), (1, .ptr 2 0 0), (4, .int .i64 ((n : Int) + 1)), (57, .ro (zCD l) 0 l.length), (58, iN l.length), (59, iN k), (5, .sl 4 0 (zBF l nx E k).length), (6, iN k), (8, .int .i64 (1 + zAk l k)), (10, .fn 108 [.ptr 2 0 0])] ⟨J, J, J, J, J, J, J, J, J, J, trivial⟩ (by kernel_rfl) (by decide) J J ?_
     refine zI J J (zU J J J J J) ?_
     refine zI J J (zT J) ?_
     refine zI J J (zM J J J J J J) ?_
     refine zI J J (zU J J J J J) ?_
     refine zI J J (zG J) ?_
     refine zI J J (zh J J J J (by first | (simp only [Nat.zero_add, Int.toNat_natCast, Int.toNat_zero]; exact J) | exact J) (by omega)) ?_
     refine zI J J (zAm J J J J) ?_
     refine zI J J (zG J) ?_
     refine zI J J (zG J) ?_
     refine px_c J J J J J (cl0_ok _ (zEz _ _ _ _ (zBo (fun _ _ _ _ => rfl) zBK)) (by show 2 < 5; decide)) ?_
     refine px_c J J J J J c1 ?_
     refine zI J J (zO J) ?_
     refine zu ?_
     refine zW (by kernel_rfl) ?_
     repeat (first | refine zA (zG rfl) ?_ | refine zB ?_ | refine zY ?_ | refine zJ rfl ?_ | refine zA (zAm rfl rfl rfl rfl) ?_ | refine zA (zU rfl rfl rfl rfl rfl) ?_ | refine zA (zh rfl rfl rfl rfl (by first | (simp only [Nat.zero_add, Int.toNat_natCast, Int.toNat_zero]; exact rfl) | exact rfl) (by omega)) ?_ | refine zA (zCj rfl) ?_ | refine zA (zT rfl) ?_ | refine zA (zM rfl rfl rfl rfl rfl rfl) ?_)
     refine zCA J J J c2 (fun _ h => h) (fun _ h => h) ?_
     rintro r' H' ⟨rfl, rfl⟩
     refine rn5 ?_
     rw [zNb]
     have hml : ((zBF l nx E k).map Int.ofNat).length = (zBF l nx E k).length := List.length_map ..
     cases hw : zKS l nx E k with
     | true =>
      have hyes : zB5 l nx E k = true := by rw [hfb, hw]; rfl
      refine rn6 ?_
      refine zAj J J J J J J J J J hml J J (by show 0 + 1 ≤ 1; omega) J (by show ((zBF l nx E k).length + 1) * 8 ≤ _ ∧ _; omega) (fun i j _ _ => rfl) (by rw [hfix]; show ¬ 4 < 2; decide) ?_
      refine zAU (slH r l nx E [zGb (zBF l nx E k ++ [k])]) ?_ ?_
      ·show [none, some (AObj.mk _ ((Cells.box _).forget 4)), some (AObj.mk _ ((Cells.box _).forget 4)), some (AObj.mk _ ((zCI E).forget 4)), _] = _
       rw [zBm (fun a j => zG7 a j 4)]
       show _ = [none, _, _, _, some (AObj.mk _ (Cells.ints .i64 (List.map Int.ofNat (zBF l nx E k ++ [k]))))]
       rw [List.map_append]; rfl
      refine rn5 ?_
      refine zR ⟨k + 1, by omega, by omega, ⟨J, J, J, J, J, ?_, trivial⟩, ?_⟩
      ·rw [hfs, hyes, if_pos rfl, List.length_append]; rfl
      ·rw [hfs, hyes]; rfl
     | false =>
      cases hl : zI2 l nx E k with
      | true =>
       have hyes : zB5 l nx E k = true := by rw [hfb, hw, hl]; rfl
       refine rn5 ?_
       refine zAj J J J J J J J J J hml J J (by show 0 + 1 ≤ 1; omega) J (by show ((zBF l nx E k).length + 1) * 8 ≤ _ ∧ _; omega) (fun i j _ _ => rfl) (by rw [hfix]; show ¬ 4 < 2; decide) ?_
       refine zAU (slH r l nx E [zGb (zBF l nx E k ++ [k])]) ?_ ?_
       ·show [none, some (AObj.mk _ ((Cells.box _).forget 4)), some (AObj.mk _ ((Cells.box _).forget 4)), some (AObj.mk _ ((zCI E).forget 4)), _] = _
        rw [zBm (fun a j => zG7 a j 4)]
        show _ = [none, _, _, _, some (AObj.mk _ (Cells.ints .i64 (List.map Int.ofNat (zBF l nx E k ++ [k]))))]
        rw [List.map_append]; rfl
       refine rn5 ?_
       refine zR ⟨k + 1, by omega, by omega, ⟨J, J, J, J, J, ?_, trivial⟩, ?_⟩
       ·rw [hfs, hyes, if_pos rfl, List.length_append]; rfl
       ·rw [hfs, hyes]; rfl
      | false =>
       have hno : zB5 l nx E k = false := by rw [hfb, hw, hl]; rfl
       refine rn5 ?_
       refine zR ⟨k + 1, by omega, by omega, ⟨J, J, J, J, J, ?_, trivial⟩, ?_⟩
       ·rw [hfs, hno]; rfl
       ·rw [hfs, hno]; rfl
   ·have hk' : k = l.length := by omega
    subst hk'
    have hF : zBF l nx E l.length = zA1 l nx E := rfl
    have hfl : (zA1 l nx E).length ≤ l.length := zIo l nx E l.length
    have hlt : ∀ j, j < (zA1 l nx E).length → (zA1 l nx E).getD j 0 < l.length := fun j hj => zNq (l := l) (nx := nx) (E := E) (k := l.length) (zAN 0 hj)
    have hstep := zK0 (l := l) (nx := nx) (E := E) (n := n + 1) hEl
    rw [hF]
    generalize hf : zA1 l nx E = f at hfl hlt hop hstep
    refine rn5 ?_
    refine zF J (fun z => ?_) (fun z => ?_)
    ·have z2 : f = [] := List.length_eq_zero_iff.1 (by omega)
     subst z2
     repeat (first | refine zB ?_ | refine zY ?_ | refine zCm ?_ | refine zAr ?_ | refine zAq ?_ | refine zA5 ?_ | refine zGW rfl ?_)
     refine zBh (slH r l nx E []) [zGb []] [(1, .ptr 2 0 0)] J ⟨J, trivial⟩ (fun h q => Nat.lt_of_lt_of_le (hfx h q) (by show 2 ≤ 4; decide)) (zGq r l nx E) J ?_
     refine rn15 ?_
     refine z8 (ι := Nat) (fun j => [(1, .ptr 2 0 0), (181, iN E.length), (182, iN j)]) (fun j => slH r l nx (zCO E j) []) (fun j => j ≤ E.length) (fun j => E.length - j) 0 ⟨⟨J, J, J, trivial⟩, by rw [zLP], Nat.zero_le _⟩ ?_
     intro j hj
     have hcl := zIg E j
     refine rn4 ?_
     refine zF J (fun q => ?_) (fun q => ?_)
     ·have hj' : j < E.length := by omega
      have hat := zNe hj'
      have hsu := zLO hj'
      have hsl : (zCO E (j + 1)).length = E.length := zIg E (j + 1)
      repeat (first | refine zA (zG rfl) ?_ | refine zA (zO rfl) ?_ | refine zC ?_ | refine zB ?_ | refine zY ?_ | refine zJ rfl ?_ | refine zAc ?_ | refine zAQ ?_ | refine zA (zU rfl rfl rfl rfl rfl) ?_ | refine zA (zBR rfl rfl) ?_ | refine zA (zn rfl rfl rfl rfl rfl (by first | (simp only [Nat.zero_add, Int.toNat_natCast, Int.toNat_zero]; exact rfl) | exact rfl) (by omega)) ?_ | refine zA (zDe rfl rfl rfl rfl rfl (by first | assumption | omega)) ?_ | refine zA (zT rfl) ?_ | refine zA (zM rfl rfl rfl rfl rfl rfl) ?_)
      refine zF J (fun o => ?_) (fun o => ?_)
      ·have o : ((zCO E j).getD j (0, 0)).1 = 0 := o
       rw [hat] at o
       rw [if_pos o] at hsu
       repeat (first | refine zA (zG rfl) ?_ | refine zJ rfl ?_ | refine zA (zU rfl rfl rfl rfl rfl) ?_ | refine zA (zn rfl rfl rfl rfl rfl (by first | (simp only [Nat.zero_add, Int.toNat_natCast, Int.toNat_zero]; exact rfl) | exact rfl) (by omega)) ?_ | refine zA (zT rfl) ?_ | refine zA (zM rfl rfl rfl rfl rfl rfl) ?_)
       refine zJq (3, (E.getD j (0, 0)).2) J J J J J J (by show j < (zCO E j).length; omega) (fun j' hj' => ?_) ?_
       ·rw [hat]
        match j', hj' with
        | 0, _ => rfl
        | 1, _ => rfl
       refine rn5 ?_
       refine zR ⟨j + 1, by omega, by omega, ⟨J, J, J, trivial⟩, ?_⟩
       rw [hsu]
       show _ = [none, some (AObj.mk _ (.box (tbF r l nx (.sl 3 0 (List.set _ _ _).length)))), _, _]
       rw [List.length_set]; rfl
      ·have o : ¬ ((zCO E j).getD j (0, 0)).1 = 0 := o
       rw [hat] at o
       rw [if_neg o] at hsu
       refine rn5 ?_
       refine zR ⟨j + 1, by omega, by omega, ⟨J, J, J, trivial⟩, ?_⟩
       rw [hsu]
     ·have hj' : j = E.length := by omega
      subst hj'
      rw [zLN]
      refine rn5 ?_
      refine ax_end (vs := []) hR J ?_
      exact ⟨J, n, by rw [hEn]; exact hf, by rw [hEn]⟩
    ·have hne : f ≠ [] := fun c => z (by rw [c]; rfl)
     have hop := hop hne
     have hml : (f.map Int.ofNat).length = f.length := List.length_map ..
     refine rn3 ?_
     refine zGy J J J J J J J J (by show (0 : Int) ≤ _ ∧ _ ≤ _ ∧ (8 : Int) * _ ≤ _ ∧ _; omega) ?_
     refine rn3 ?_
     refine z8 (ι := Nat) (fun j => [(1, .ptr 2 0 0), (4, .int .i64 ((n : Int) + 1)), (5, .sl 4 0 f.length), (13, .sl 5 0 f.length), (116, .sl 4 0 f.length), (117, iN f.length), (118, iN j)]) (fun j => slH r l nx E [zGb f, resO (zFU l nx E f j)]) (fun j => j ≤ f.length) (fun j => f.length - j) 0 ⟨⟨J, J, J, J, J, J, J, trivial⟩, J, Nat.zero_le _⟩ ?_
     intro j hj
     have hrl0 := hrl
     have hrl := resK_len (l := l) (nx := nx) (E := E) hj
     refine rn4 ?_
     refine zF J (fun q => ?_) (fun q => ?_)
     ·have hj' : j < f.length := by omega
      have hjr : j < (zFU l nx E f j).length := by omega
      have hil := hlt j hj'
      have hsu := zOG (l := l) (nx := nx) (E := E) hj'
      have hgi : (f.map Int.ofNat).getD j 0 = ((f.getD j 0 : Nat) : Int) := by simp [List.getD, List.getElem?_eq_getElem hj']
      generalize hi : f.getD j 0 = i at hil hsu hgi
      have htn := turnB i
      have hT : zAk l i = (l.getD i z7).turn := rfl
      refine rn20 ?_
      refine zJ J ?_
      repeat (first | refine zA (zG rfl) ?_ | refine zA (zO rfl) ?_ | refine zC ?_ | refine zB ?_ | refine zY ?_ | refine zA (zn rfl rfl rfl rfl rfl (by first | (simp only [Nat.zero_add, Int.toNat_natCast, Int.toNat_zero]; exact rfl) | exact rfl) (by omega)) ?_ | refine zA (zA8 rfl rfl rfl rfl (by first | assumption | omega)) ?_ | refine zAF rfl rfl rfl rfl rfl rfl rfl Nat.zero_lt_one ?_ | refine zAK rfl rfl rfl ?_)
      rw [hgi]
      refine zCa (slH r l nx E [zGb f, resO (zFU l nx E f j)]) 15 [(1, .ptr 2 0 0), (4, .int .i64 ((n : Int) + 1)), (5, .sl 4 0 f.length), (13, .sl 5 0 f.length), (116, .sl 4 0 f.length), (117, iN f.length), (118, iN j), (14, iN j)] J J ⟨J, J, J, J, J, J, J, J, trivial⟩ ⟨J, J, J, J, J, J, J, J, J, trivial⟩ (zEz _ _ _ _ (zBo (fun _ _ _ _ => rfl) (zBo (fun _ _ _ _ => rfl) zBK))) J (fun h q => Nat.lt_of_lt_of_le (hfx h q) (by show 2 ≤ 6; decide)) ?_
      skip
      refine ze (by kernel_rfl) ?_
      refine zm (fuel := 1) [0, 1, 2, 3, 4, 5, 6, 7, 8, 9, 10, 11] [(15, .rp (.box [iN i]) 0 0), (1, .ptr 2 0 0), (4, .int .i64 ((n : Int) + 1)), (5, .sl 4 0 f.length), (13, .sl 5 0 f.length), (116, .sl 4 0 f.length), (117, iN f.length), (118, iN j), (14, iN j)] ⟨J, J, J, J, J, J, J, J, J, trivial⟩ (by kernel_rfl) (by decide) J J ?_
      refine zI J J (zG J) ?_
      refine zI J J (zG J) ?_
      refine zI J J (zU J J J J J) ?_
      refine zI J J (zT J) ?_
      refine zI J J (zM J J J J J J) ?_
      refine zI J J (zU J J J J J) ?_
      refine zI J J (zD J J J J) ?_
      refine zI J J (zh J J J J (by first | (simp only [Nat.zero_add, Int.toNat_natCast, Int.toNat_zero]; exact J) | exact J) (by omega)) ?_
      refine zI J J (zK J J J J J J) ?_
      refine zI J J (zAm J J J J) ?_
      refine zI J J (zBL J J (by omega)) ?_
      refine zI J J (zn J J J J J (by first | (simp only [Nat.zero_add, Int.toNat_natCast, Int.toNat_zero]; exact J) | exact J) (by omega)) ?_
      refine zu ?_
      refine zH (is := [12]) (by kernel_rfl) (by simp) J ⟨fun o ho => ?_, trivial⟩
      all_goals (cases ho)
      refine rn7 ?_
      refine zW (by kernel_rfl) ?_
      refine rn0 ?_
      have hrow := hrl0 i hil
      have hcl : ∀ x ∈ (nx.getD i []).map Int.ofNat, 0 ≤ x ∧ x < (E.length : Int) := fun x hx => by
       obtain ⟨q, hq, rfl⟩ := List.mem_map.1 hx
       have := hnk i hil q hq
       exact ⟨Int.natCast_nonneg q, by show (q : Int) < _; omega⟩
      have hrl2 : ((nx.getD i []).map Int.ofNat).length ≤ 1000000 := by rw [List.length_map]; exact hrow
      have c3 := zHd (H := slH r l nx E [zGb f, resO ((zFU l nx E f j).set j (2 - (l.getD i z7).turn))]) ((nx.getD i []).map Int.ofNat) (fun x => decide ((E.getD x.toNat (0, 0)).1 = 1 + zAk l i)) 111 [.ptr 2 0 0, .rp (.box [iN i]) 0 0] hrl2 (fun x hx => cl3_ok (slH_S r l nx E _) i hil htn x (hcl x hx))
      rw [zLA] at c3
      refine ze (by kernel_rfl) ?_
      refine zm (fuel := 0) [0, 1, 2, 3, 4, 5, 6, 7, 8] [(15, .rp (.box [iN i]) 0 0), (1, .ptr 2 0 0), (4, .int .i64 ((n : Int) + 1)), (5, .sl 4 0 f.length), (13, .sl 5 0 f.length), (116, .sl 4 0 f.length), (117, iN f.length), (118, iN j), (14, iN j)] ⟨J, J, J, J, J, J, J, J, J, trivial⟩ (by kernel_rfl) (by decide) J J ?_
      refine zI J J (zU J J J J J) ?_
      refine zI J J (zT J) ?_
      refine zI J J (zM J J J J J J) ?_
      refine zI J J (zU J J J J J) ?_
      refine zI J J (zD J J J J) ?_
      refine zI J J (zh J J J J (by first | (simp only [Nat.zero_add, Int.toNat_natCast, Int.toNat_zero]; exact J) | exact J) (by omega)) ?_
      refine zI J J (zAm J J J J) ?_
      refine zI J J (zCj J) ?_
      refine px_c J J J J J c3 ?_
      refine zu ?_
      refine zW (by kernel_rfl) ?_
      cases hw : zKS l nx E i with
      | true =>
       have hres : zDQ l nx E i = 1 + (l.getD i z7).turn := by unfold zDQ; rw [hw, if_pos rfl]; rfl
       refine rn5 ?_
       refine ze (by kernel_rfl) ?_
       refine zm (fuel := 1) [0, 1, 2, 3, 4, 5, 6, 7, 8, 9, 10, 11] [(15, .rp (.box [iN i]) 0 0), (1, .ptr 2 0 0), (4, .int .i64 ((n : Int) + 1)), (5, .sl 4 0 f.length), (13, .sl 5 0 f.length), (116, .sl 4 0 f.length), (117, iN f.length), (118, iN j), (14, iN j)] ⟨J, J, J, J, J, J, J, J, J, trivial⟩ (by kernel_rfl) (by decide) J J ?_
       refine zI J J (zG J) ?_
       refine zI J J (zG J) ?_
       refine zI J J (zU J J J J J) ?_
       refine zI J J (zT J) ?_
       refine zI J J (zM J J J J J J) ?_
       refine zI J J (zU J J J J J) ?_
       refine zI J J (zD J J J J) ?_
       refine zI J J (zh J J J J (by first | (simp only [Nat.zero_add, Int.toNat_natCast, Int.toNat_zero]; exact J) | exact J) (by omega)) ?_
       refine zI J J (zK J J J J J J) ?_
       refine zI J J (zAm J J J J) ?_
       refine zI J J (zAw J J (by omega)) ?_
       refine zI J J (zn J J J J J (by first | (simp only [Nat.zero_add, Int.toNat_natCast, Int.toNat_zero]; exact J) | exact J) (by omega)) ?_
       refine zu ?_
       refine zH (is := [12]) (by kernel_rfl) (by simp) J ⟨fun o ho => ?_, trivial⟩
       all_goals (cases ho)
       have hjr2 : j < ((zFU l nx E f j).set j (2 - (l.getD i z7).turn)).length := by rw [List.length_set]; exact hjr
       refine rn7 ?_
       refine zW (by kernel_rfl) ?_
       refine rn5 ?_
       refine zR ⟨j + 1, by omega, by omega, ⟨J, J, J, J, J, J, J, trivial⟩, ?_⟩
       rw [hsu, hres]
       show [_, _, _, _, _, some (AObj.mk _ (Cells.ints .i64 (((zFU l nx E f j).set j (2 - (l.getD i z7).turn)).set j (1 + (l.getD i z7).turn))))] = _
       rw [List.set_set]
      | false =>
       have hres : zDQ l nx E i = 2 - (l.getD i z7).turn := by unfold zDQ; rw [hw, if_neg (by decide)]; rfl
       refine rn5 ?_
       refine zR ⟨j + 1, by omega, by omega, ⟨J, J, J, J, J, J, J, trivial⟩, ?_⟩
       rw [hsu, hres]; rfl
     ·have hj' : j = f.length := by omega
      subst hj'
      refine rn5 ?_
      refine z8 (ι := Nat) (fun j => [(1, .ptr 2 0 0), (4, .int .i64 ((n : Int) + 1)), (13, .sl 5 0 f.length), (157, .sl 4 0 f.length), (158, iN f.length), (159, iN j)]) (fun j => slH r l nx (zCq (fun i => (zDQ l nx E i, ((n + 1 : Nat) : Int))) (f.take j) E) [zGb f, resO (zFU l nx E f f.length)]) (fun j => j ≤ f.length) (fun j => f.length - j) 0 ⟨⟨J, J, J, J, J, J, trivial⟩, J, Nat.zero_le _⟩ ?_
      intro j hj
      refine rn4 ?_
      refine zF J (fun q => ?_) (fun q => ?_)
      ·have hj' : j < f.length := by omega
       have hjr : j < (zFU l nx E f f.length).length := by omega
       have hil := hlt j hj'
       have hgi : (f.map Int.ofNat).getD j 0 = ((f.getD j 0 : Nat) : Int) := by simp [List.getD, List.getElem?_eq_getElem hj']
       have hrf := zOF (l := l) (nx := nx) (E := E) hj'
       have hsn := zKz (fun i => (zDQ l nx E i, ((n + 1 : Nat) : Int))) (f.take j) (f.getD j 0) E
       rw [← zz _ 0 j hj'] at hsn
       have hsl := zDg (fun i => (zDQ l nx E i, ((n + 1 : Nat) : Int))) (f.take j) E
       have hsl2 := zDg (fun i => (zDQ l nx E i, ((n + 1 : Nat) : Int))) (f.take (j + 1)) E
       generalize hi : f.getD j 0 = i at hil hgi hrf hsn
       generalize hA : zCq (fun i => (zDQ l nx E i, ((n + 1 : Nat) : Int))) (f.take j) E = A at hsl hsn
       generalize hA2 : zCq (fun i => (zDQ l nx E i, ((n + 1 : Nat) : Int))) (f.take (j + 1)) E = A2 at hsn hsl2
       refine rn20 ?_
       refine zJ J ?_
       repeat (first | refine zA (zG rfl) ?_ | refine zA (zO rfl) ?_ | refine zC ?_ | refine zB ?_ | refine zA (zn rfl rfl rfl rfl rfl (by first | (simp only [Nat.zero_add, Int.toNat_natCast, Int.toNat_zero]; exact rfl) | exact rfl) (by omega)) ?_ | refine zA (zA8 rfl rfl rfl rfl (by first | assumption | omega)) ?_)
       rw [hgi]
       skip
       refine ze (by kernel_rfl) ?_
       refine zm (fuel := 1) [0, 1, 2, 3, 4, 5, 6, 7, 8, 9, 10, 11] [(1, .ptr 2 0 0), (4, .int .i64 ((n : Int) + 1)), (13, .sl 5 0 f.length), (157, .sl 4 0 f.length), (158, iN f.length), (159, iN j), (16, iN j), (17, iN i)] ⟨J, J, J, J, J, J, J, J, trivial⟩ (by kernel_rfl) (by decide) J J ?_
       refine zI J J (zU J J J J J) ?_
       refine zI J J (zT J) ?_
       refine zI J J (zM J J J J J J) ?_
       refine zI J J (zU J J J J J) ?_
       refine zI J J (zG J) ?_
       refine zI J J (zG J) ?_
       refine zI J J (zG J) ?_
       refine zI J J (zn J J J J J (by first | (simp only [Nat.zero_add, Int.toNat_natCast, Int.toNat_zero]; exact J) | exact J) (by omega)) ?_
       refine zI J J (zA8 J J J J (by first | assumption | omega)) ?_
       refine zI J J (zG J) ?_
       refine zI J J (zCW J J J J J J) ?_
       refine zI J J (zn J J J J J (by first | (simp only [Nat.zero_add, Int.toNat_natCast, Int.toNat_zero]; exact J) | exact J) (by omega)) ?_
       refine zu ?_
       refine zH (is := [12]) (by kernel_rfl) (by simp) J ⟨fun o ho => ?_, trivial⟩
       all_goals (cases ho)
       refine zMN (zDQ l nx E i, ((n + 1 : Nat) : Int)) J J J J J (by show i < A.length; omega) (by decide) (fun j' hj' => ?_) ?_
       ·match j', hj' with
        | 0, _ => show AV.int .i64 (zDQ l nx E i) = AV.int .i64 ((zFU l nx E f f.length).getD j 0); rw [hrf]
        | 1, _ => rfl
       refine rn1 ?_
       refine zW (by kernel_rfl) ?_
       refine rn5 ?_
       refine zR ⟨j + 1, by omega, by omega, ⟨J, J, J, J, J, J, trivial⟩, ?_⟩
       show _ = slH r l nx (zCq (fun i => (zDQ l nx E i, ((n + 1 : Nat) : Int))) (f.take (j + 1)) E) [zGb f, resO (zFU l nx E f f.length)]
       rw [hA2, hsn]
       show _ = [none, some (AObj.mk _ (.box (tbF r l nx (.sl 3 0 (List.set _ _ _).length)))), _, _, _, _]
       rw [List.length_set]; rfl
      ·have hj' : j = f.length := by omega
       subst hj'
       rw [List.take_length, hstep, ← hst]
       refine zFt ?_
       refine zBh (slH r l nx (zw l nx (zAM r l) (n + 1)) []) [zGb f, resO (zFU l nx E f f.length)] [(1, .ptr 2 0 0), (4, .int .i64 ((n : Int) + 1))] J ⟨J, J, trivial⟩ (fun h q => Nat.lt_of_lt_of_le (hfx h q) (by show 2 ≤ 4; decide)) (zGq r l nx _) J ?_
       refine rn3 ?_
       refine zR ⟨n + 1, by rw [hst]; omega, by rw [hst]; omega, ⟨J, J, trivial⟩, J⟩
abbrev zFT (r : Go.Ax.Gm.Rules) (l : List Pos) (nx : List (List Nat)) : zQ :=
 [some ⟨95, .mp (zCQ l) (zC0 l.length)⟩, some ⟨97, .box (tbC r l.length nx.length .nil)⟩, some ⟨35, zCD l⟩, some ⟨23, zDt nx⟩]
theorem zFy (r : Go.Ax.Gm.Rules) (l : List Pos) (nx : List (List Nat)) : ∀ (h : Nat) (o : AObj), (zFT r l nx)[h]? = some (some o) → zAo (zFT r l nx).length o.c :=
 zBo (zIv l _) (zBo (zGP rfl) (zBo (zEw l) (zBo (zJG nx) zBK)))
/-- (*retro.Table).add -/
theorem add0_ok (r : Go.Ax.Gm.Rules) (hv : ValidR r) (l : List Pos) (nx : List (List Nat)) (p : Pos) (S : Sound r p) (G : ∀ q ∈ l, Sound r q ∧ q.quiet = 0) (hl : l.length ≤ 3001) :
 zd Tryz.prog 78 [.ptr 1 0 0, poA p] (zFT r l nx) (fun h => h < 4 ∧ h ≠ 2) (fun v H => v = iN (zBH l p) ∧ H = zFT r (zC5 l p) nx) := by
 have hc : zd Tryz.prog 78 [.ptr 1 0 0, poA p] (zFT r l nx) (fun h => h < 4 ∧ h ≠ 2) (fun v H => v = iN (zBH l p) ∧ ∃ x, H = zFT r (zC5 l p) nx ++ [x]) := by
  refine zN (P := Tryz.prog) (fn := Tryz.f78) J J (by kernel_rfl) J (fun c hR hfix => ?_)
  refine rn6 ?_
  refine zP J J J (zGD hv S) ?_
  refine rn8 ?_
  by_cases hi : zBH l p < l.length
  ·have hadd : zC5 l p = l := by unfold zC5; rw [if_pos hi]
   rw [hadd] at hR
   refine zA (zFJ J (.str J) J J J J (zDa l) (zBH l p) (zHi hi) (zHt hi)) ?_
   refine rn5 ?_
   exact zL hR J ⟨J, _, J⟩
  ·have hadd : zC5 l p = l ++ [zBw p] := by unfold zC5; rw [if_neg hi]
   have hidx : zBH l p = l.length := by have := zKj l p; omega
   rw [hadd, hidx] at hR
   refine zA (zEj J (.str J) J J J J J J J J (zDa l) (zFg hv S G hi)) ?_
   repeat (first | refine zA (zG rfl) ?_ | refine zA (zO rfl) ?_ | refine zC ?_ | refine zB ?_ | refine zY ?_ | refine zJ rfl ?_ | refine zAg rfl ?_ | refine zA (zU rfl rfl rfl rfl rfl) ?_ | refine zA (zEK rfl) ?_ | refine zA (zBG rfl rfl) ?_ | refine zA (zAx rfl rfl rfl) ?_ | refine zA (zT rfl) ?_ | refine zA (zM rfl rfl rfl rfl rfl rfl) ?_ | refine zAF rfl rfl rfl rfl rfl rfl rfl Nat.zero_lt_one ?_)
   refine zFX J (.str J) J J J J J (zDa l) (zFg hv S G hi) ?_
   refine rn0 ?_
   have hll : (l ++ [zBw p]).length = l.length + 1 := by rw [List.length_append]; rfl
   refine zAS [some ⟨95, .mp (zCQ (l ++ [zBw p])) (zC0 (l.length + 1))⟩, some ⟨97, .box (tbC r l.length nx.length .nil)⟩, some ⟨35, zCD l⟩, some ⟨23, zDt nx⟩, some ⟨35, .box (poC (zBw p))⟩] (by rw [← zKA, ← zKR]; rfl) ?_
   refine ze (by kernel_rfl) ?_
   refine zV 0 J (by kernel_rfl) (by kernel_rfl) (by kernel_rfl) J (zG J) J ?_
   refine zm (fuel := 4) [1, 2, 3, 4, 5, 6] [(33, .ptr 1 0 0), (0, .ptr 1 0 0), (3, .ptr 4 0 0), (6, iN l.length)] ⟨J, J, J, J, trivial⟩ (by kernel_rfl) (by decide) J J ?_
   refine zI J J (zG J) ?_
   refine zI J J (zT J) ?_
   refine zI J J (zM J J J J J J) ?_
   refine zI J J (zU J J J J J) ?_
   refine zI J J (qpp J J J J J J J) ?_
   refine px_b J J J J J J J J J J J J J ?_
   refine zu ?_
   refine zH (is := [7]) (by kernel_rfl) (by simp) J ⟨fun o ho => ?_, trivial⟩
   all_goals (cases ho)
   refine zBV [zBw p] J J J J J J J J J J J J J (Nat.le_refl _) (fun k' j hk' hj => ?_) (by show (l.length + 1) * 88 ≤ _ ∧ _; omega) (fun a j k _ => zDd a j k) (by rw [hfix]; exact fun h => h.2 J) ?_
   ·obtain rfl : k' = 0 := Nat.lt_one_iff.1 hk'
    match j, hj with
    | 0, _ => rfl
    | 1, _ => rfl
    | 2, _ => rfl
    | 3, _ => rfl
    | 4, _ => rfl
   refine zAU [some ⟨95, .mp (zCQ (l ++ [zBw p])) (zC0 (l.length + 1))⟩, some ⟨97, .box ((tbC r l.length nx.length .nil).set 11 .any)⟩, some ⟨35, zCD (l ++ [zBw p])⟩, some ⟨23, zDt nx⟩, some ⟨35, .box (poC (zBw p))⟩] ?_ ?_
   ·show [some (AObj.mk _ ((Cells.mp _ _).forget 2)), some (AObj.mk _ ((Cells.box _).forget 2)), some (AObj.mk _ (zCD (l ++ [zBw p]))), some (AObj.mk _ ((zDt nx).forget 2)), some (AObj.mk _ ((Cells.box (poC (zBw p))).forget 2))] = _
    rw [zEZ, zBm (fun a j => zEc a j 2)]; rfl
   refine rn1 ?_
   refine zV 8 J (by kernel_rfl) (by kernel_rfl) (by kernel_rfl) J (zT J) J ?_
   refine zV 9 J (by kernel_rfl) (by kernel_rfl) (by kernel_rfl) J (zM J J J J J J) J ?_
   refine zH (is := [10]) (by kernel_rfl) (by simp) J ⟨fun o ho => ?_, trivial⟩
   all_goals (cases ho)
   refine rn9 ?_
   refine zW (by kernel_rfl) ?_
   refine rn0 ?_
   exact zL hR J ⟨J, _, by show _ = [_, _, _, _, _]; rw [hll]; rfl⟩
 exact zd.cutR hc (fun v H ⟨e1, x, e2⟩ => ⟨_, [x], e2, fun h q => q.1, zFy _ _ _, e1 ▸ J, e1, J⟩)
theorem zDb {r : Go.Ax.Gm.Rules} (hv : ValidR r) {p : Pos} (S : Sound r p) : (zx r p).length ≤ 10000 := by
 have h1 := zHo hv S p.cells.length
 have h2 := (zBT hv S).c
 have h3 : (rawM r p).length ≤ 384 + 112 * p.cells.length := h1
 unfold zx
 have h4 := zH2 ((rawM r p).mergeSort leM)
 rw [List.length_mergeSort] at h4
 omega
theorem zD1 {r : Go.Ax.Gm.Rules} (hv : ValidR r) {p : Pos} (S : Sound r p) : (zAD r p).length ≤ 10000 := by
 unfold zAD
 split
 ·exact Nat.zero_le _
 ·exact zDb hv S
abbrev zEQ (T : Tab) : AV := .rp (.box (tbF T.r T.l T.nx (.ro (zCI T.E) 0 T.E.length))) 0 0
def zFl (r : Go.Ax.Gm.Rules) : AV := if zDx r ≠ 0 then .nilp else match zFG r with
 | some x => zEQ (zFP r x)
 | none => .nilp
theorem zHl : ∀ {l : List AV}, (∀ x ∈ l, noRef x = true) → noRef.noRefs l = true
 | [], _ => rfl
 | x :: l, h => by
  show (noRef x && noRef.noRefs l) = true
  rw [h x (List.mem_cons_self ..), zHl (fun y hy => h y (List.mem_cons_of_mem _ hy))]; rfl
theorem zKk (l : List Pos) (n : Nat) : zAG (.mp (zCQ l) (zC0 n)) :=
 ⟨zHl (fun x hx => by obtain ⟨p, _, rfl⟩ := List.mem_map.1 hx; rfl), zHl (fun x hx => by obtain ⟨p, _, rfl⟩ := List.mem_map.1 hx; rfl)⟩
theorem zLs (l : List Pos) : zAG (zCD l) := zAZ (fun a j hj => by
 match j, hj with
 | 0, _ => rfl
 | 1, _ => rfl
 | 2, _ => rfl
 | 3, _ => rfl
 | 4, _ => rfl)
theorem zKy (nx : List (List Nat)) : zAG (zDt nx) := zAZ (fun a j hj => by
 obtain rfl : j = 0 := Nat.lt_one_iff.1 hj
 rfl)
theorem zKh (E : List Ent) : zAG (zCI E) := zAZ (fun a j hj => by
 match j, hj with
 | 0, _ => rfl
 | 1, _ => rfl)
/-- retro.New, refused -/
theorem new_no (r : Go.Ax.Gm.Rules) (hr : Lens r) (h : zAa r ≠ 0) : zl Tryz.prog 48 [ruA r] (.tup [.nilp, .int .i64 (zAa r)]) := by
 refine zd.value0 (zN (P := Tryz.prog) (fn := Tryz.f48) J J (by kernel_rfl) J (fun c hR hfix => ?_)) (fix := fun _ => False) (fun _ h => h) J J
 refine rn6 ?_
 refine zP J J J (begin_no r hr h) ?_
 refine rn4 ?_
 refine zb (poC z7) J J J J J J J ?_
 refine rn3 ?_
 refine zF J (fun q => ?_) (fun q => absurd h q)
 refine rn2 ?_
 exact zL hR J J
/-- retro.New, a limit of quiet moves -/
theorem zN3 (r : Go.Ax.Gm.Rules) (hr : Lens r) (h : zAa r = 0) (hq : r.quiet ≠ 0) : zl Tryz.prog 48 [ruA r] (.tup [.nilp, .int .i64 1]) := by
 refine zd.value0 (zN (P := Tryz.prog) (fn := Tryz.f48) J J (by kernel_rfl) J (fun c hR hfix => ?_)) (fix := fun _ => False) (fun _ h => h) J J
 refine rn6 ?_
 refine zP J J J (zLI r hr h) ?_
 refine rn4 ?_
 refine zb (poC (zAI r)) J J J J J J J ?_
 refine rn5 ?_
 refine zF J (fun q => ?_) (fun q => absurd hq q)
 refine rn2 ?_
 exact zL hR J J
/-- retro.New -/
theorem new_run (r : Go.Ax.Gm.Rules) (hr : Lens r) (h : zAa r = 0) (hq : r.quiet = 0) : zl Tryz.prog 48 [ruA r] (.tup [zFl r, .int .i64 (zDx r)]) := by
 have hE : zDx r = match zFG r with | none => 2 | some _ => 0 := by
  unfold zDx
  rw [if_neg (fun c => c h), if_neg (fun c => c hq)]
  cases zFG r <;> rfl
 have hnone : zFG r = none → zDx r = 2 ∧ zFl r = .nilp := fun q => by
  have e : zDx r = 2 := by rw [hE, q]
  exact ⟨e, by unfold zFl; rw [e, if_pos (by decide)]⟩
 have hsome : ∀ x, zFG r = some x → zDx r = 0 ∧ zFl r = zEQ (zFP r x) := fun x q => by
  have e : zDx r = 0 := by rw [hE, q]
  exact ⟨e, by unfold zFl; rw [e, if_neg (by decide), q]⟩
 have hv := zAu h
 refine zd.value0 (zN (P := Tryz.prog) (fn := Tryz.f48) J J (by kernel_rfl) J (fun c hR hfix => ?_)) (fix := fun _ => False) (fun _ h => h) ?_ ?_
 rotate_left
 ·rfl
 ·show (noRef (zFl r) && true) = true
  rcases hx : zFG r with _ | x
  ·rw [(hnone hx).2]; rfl
  ·rw [(hsome x hx).2]; rfl
 refine zY ?_
 repeat (first | refine zA (zO rfl) ?_ | refine zC ?_ | refine zB ?_ | refine zJ rfl ?_ | refine zAO rfl rfl ?_)
 refine zB0 1 [] J ⟨J, trivial⟩ trivial J hfix ?_
 refine rn6 ?_
 refine zP J J J (zLI r hr h) ?_
 refine rn4 ?_
 refine zb (poC (zAI r)) J J J J J J J ?_
 refine zBA ?_
 refine zB0 4 [(1, .rp (.box (ruC r)) 0 0), (5, .int .i64 0)] J ⟨J, J, J, trivial⟩ ⟨J, J, trivial⟩ J hfix ?_
 refine zBx ?_
 refine zF J (fun q => absurd hq q) (fun q => ?_)
 refine rn6 ?_
 refine zP J J J (copyR_ok r (zL2 hv)) ?_
 skip
 refine zMK ?_
 skip
 refine zA (q_buildM J J J J J J) ?_
 repeat (first | refine zA (zO rfl) ?_ | refine zC ?_ | refine zB ?_ | refine zY ?_ | refine zAO rfl rfl ?_)
 refine zAS [some ⟨95, .mp (zCQ []) (zC0 0)⟩, some ⟨97, .box [.str r.name, .int .i64 r.w, .int .i64 r.h, .ro (zAi r.pcs) 0 r.pcs.length, z6 r.start, .bool r.falls, .bool r.keeps, .ro (zE8 r.ends) 0 r.ends.length, .int .i64 r.blocked, .int .i64 r.quiet, .int .i64 r.rep, .nil, .nil, .nil, .mp 0]⟩] J ?_
 refine zDK 1 ⟨35, zCD []⟩ (.box [.str r.name, .int .i64 r.w, .int .i64 r.h, .ro (zAi r.pcs) 0 r.pcs.length, z6 r.start, .bool r.falls, .bool r.keeps, .ro (zE8 r.ends) 0 r.ends.length, .int .i64 r.blocked, .int .i64 r.quiet, .int .i64 r.rep, .sl 2 0 0, .nil, .nil, .mp 0]) J J J J (fun i j hi hj => by
  obtain rfl : i = 0 := Nat.lt_one_iff.1 hi
  have hj : j < 15 := hj
  match j, hj with
  | 0, _ => exact .inl rfl
  | 1, _ => exact .inl rfl
  | 2, _ => exact .inl rfl
  | 3, _ => exact .inl rfl
  | 4, _ => exact .inl rfl
  | 5, _ => exact .inl rfl
  | 6, _ => exact .inl rfl
  | 7, _ => exact .inl rfl
  | 8, _ => exact .inl rfl
  | 9, _ => exact .inl rfl
  | 10, _ => exact .inl rfl
  | 11, _ => exact .inr ⟨rfl, rfl⟩
  | 12, _ => exact .inl rfl
  | 13, _ => exact .inl rfl
  | 14, _ => exact .inl rfl) ?_
 refine zDK 1 ⟨23, zDt []⟩ (.box [.str r.name, .int .i64 r.w, .int .i64 r.h, .ro (zAi r.pcs) 0 r.pcs.length, z6 r.start, .bool r.falls, .bool r.keeps, .ro (zE8 r.ends) 0 r.ends.length, .int .i64 r.blocked, .int .i64 r.quiet, .int .i64 r.rep, .sl 2 0 0, .sl 3 0 0, .nil, .mp 0]) J J J J (fun i j hi hj => by
  obtain rfl : i = 0 := Nat.lt_one_iff.1 hi
  have hj : j < 15 := hj
  match j, hj with
  | 0, _ => exact .inl rfl
  | 1, _ => exact .inl rfl
  | 2, _ => exact .inl rfl
  | 3, _ => exact .inl rfl
  | 4, _ => exact .inl rfl
  | 5, _ => exact .inl rfl
  | 6, _ => exact .inl rfl
  | 7, _ => exact .inl rfl
  | 8, _ => exact .inl rfl
  | 9, _ => exact .inl rfl
  | 10, _ => exact .inl rfl
  | 11, _ => exact .inl rfl
  | 12, _ => exact .inr ⟨rfl, rfl⟩
  | 13, _ => exact .inl rfl
  | 14, _ => exact .inl rfl) ?_
 refine zAS (zFT r [] []) J ?_
 have nofix : ∀ (h n : Nat), c.fix h → h < n := fun h n q => by rw [hfix] at q; exact q.elim
 refine zBh (zFT r [] []) [] [(4, .rp (.box (poC (zAI r))) 0 0), (6, .ptr 1 0 0)] J ⟨J, J, trivial⟩ (fun h q => nofix h _ q) (zFy _ _ _) J ?_
 refine rn6 ?_
 refine zD4 2 J J J (add0_ok r hv [] [] (zAI r) (zEU hv) (fun q hq => absurd hq (by simp)) (Nat.zero_le _)) (fun h q1 q2 => ⟨q1, q2⟩) (fun h q => q.1) (by rw [hfix]; exact fun h => h) ?_
 rintro v H ⟨rfl, rfl⟩
 refine ⟨Nat.le_refl _, ?_⟩
 refine rn1 ?_
 refine z8 (ι := Nat × List Pos × List (List Nat)) (fun x => [(6, .ptr 1 0 0), (7, iN x.1)]) (fun x => zFT r x.2.1 x.2.2) (fun x => Grown r x.1 x.2.1 x.2.2 ∧ Go.Ax.Gm.grow r (3001 - x.1) x.1 x.2.1 x.2.2 = zFG r) (fun x => 3001 - x.1) (0, [zAI r], []) ⟨⟨J, J, trivial⟩, J, zH6 hv, J⟩ ?_
 rintro ⟨i, l, nx⟩ ⟨G, hg⟩
 have G : Grown r i l nx := G
 have hg : Go.Ax.Gm.grow r (3001 - i) i l nx = zFG r := hg
 change Ax _ _ _ _ [(6, .ptr 1 0 0), (7, iN i)] (zFT r l nx)
 have hmost := G.most
 have hle := G.le
 repeat (first | refine zA (zG rfl) ?_ | refine zC ?_ | refine zB ?_ | refine zY ?_ | refine zJ rfl ?_ | refine zA (zU rfl rfl rfl rfl rfl) ?_ | refine zA (zCE rfl rfl) ?_ | refine zA (zAx rfl rfl rfl) ?_ | refine zA (zT rfl) ?_ | refine zA (zM rfl rfl rfl rfl rfl rfl) ?_)
 refine zF J (fun q => ?_) (fun q => ?_)
 ·have hi : i < l.length := by omega
  have S := (G.snd (l.getD i z7) (by
   rw [show l.getD i z7 = l[i] by simp [List.getD, hi]]
   exact List.getElem_mem hi)).1
  have hml := zD1 hv S
  refine rn20 ?_
  refine zJ J ?_
  refine zBA ?_
  refine zBq 8 ⟨3, .ints .i64 []⟩ J J ?_
  refine zAS (zJQ r l nx []) J ?_
  skip
  refine ze (by kernel_rfl) ?_
  refine zm (fuel := 0) [0, 1, 2, 3, 4, 5, 6, 7, 8, 9, 10, 11, 12, 13] [(6, .ptr 1 0 0), (7, iN i), (8, .sl 4 0 0)] ⟨J, J, J, trivial⟩ (by kernel_rfl) (by decide) J J ?_
  refine zI J J (zG J) ?_
  refine zI J J (zT J) ?_
  refine zI J J (zM J J J J J J) ?_
  refine zI J J (qpp J J J J J J J) ?_
  refine zI J J (zG J) ?_
  refine zI J J (zT J) ?_
  refine zI J J (zM J J J J J J) ?_
  refine zI J J (zU J J J J J) ?_
  refine zI J J (zG J) ?_
  refine zI J J (zn J J J J J (by first | (simp only [Nat.zero_add, Int.toNat_natCast, Int.toNat_zero]; exact J) | exact J) (by omega)) ?_
  refine zI J J (qpp J J J J J J J) ?_
  refine zCL J J J J J (zEW r hv (l.getD i z7) S) ?_
  refine zI J J (zAx J J J) ?_
  refine zI J J (zG J) ?_
  refine zu ?_
  refine zW (by kernel_rfl) ?_
  refine rn1 ?_
  have hok : ∀ m ∈ zAD r (l.getD i z7), MvOK r (l.getD i z7) m ∧ Sound r (zZ r (l.getD i z7) m) := fun m hm => ⟨zFk hv S hm, zFF hv S (zFk hv S hm)⟩
  have hstep := fun l' ix (h : zCZ r (l.getD i z7) (zAD r (l.getD i z7)) l [] = some (l', ix)) => zIq G hi (fun m hm => (hok m hm).2) h
  have hgN : zCZ r (l.getD i z7) (zAD r (l.getD i z7)) l [] = none → ∀ f, Go.Ax.Gm.grow r (f + 1) i l nx = none := fun a f => by rw [Go.Ax.Gm.grow, if_pos hi, a]
  have hgS : ∀ x, zCZ r (l.getD i z7) (zAD r (l.getD i z7)) l [] = some x → ∀ f, Go.Ax.Gm.grow r (f + 1) i l nx = Go.Ax.Gm.grow r f (i + 1) x.1 (nx ++ [x.2]) := fun x a f => by rw [Go.Ax.Gm.grow, if_pos hi, a]
  generalize hms : zAD r (l.getD i z7) = ms at hok hstep hgN hgS hml
  refine z8 (ι := Nat × List Pos × List Nat) (fun x => [(6, .ptr 1 0 0), (7, iN i), (8, .sl 4 0 x.2.2.length), (50, zBC ms), (51, iN ms.length), (52, iN x.1)]) (fun x => zJQ r x.2.1 nx (x.2.2.map Int.ofNat)) (fun x => x.1 ≤ ms.length ∧ zCZ r (l.getD i z7) (ms.drop x.1) x.2.1 x.2.2 = zCZ r (l.getD i z7) ms l [] ∧ l <+: x.2.1 ∧ (∀ q ∈ x.2.1, Sound r q ∧ q.quiet = 0) ∧ x.2.1.length ≤ 3000 ∧ x.2.2.length = x.1) (fun x => ms.length - x.1) (0, l, []) ⟨⟨J, J, J, J, J, J, trivial⟩, J, Nat.zero_le _, J, List.prefix_refl _, G.snd, hmost, J⟩ ?_
  rintro ⟨k, l', ix⟩ ⟨hk, ha, hpre, hsnd, hl3, hix⟩
  have hk : k ≤ ms.length := hk
  have ha : zCZ r (l.getD i z7) (ms.drop k) l' ix = zCZ r (l.getD i z7) ms l [] := ha
  have hpre : l <+: l' := hpre
  have hsnd : ∀ q ∈ l', Sound r q ∧ q.quiet = 0 := hsnd
  have hl3 : l'.length ≤ 3000 := hl3
  have hix : ix.length = k := hix
  change Ax _ _ _ _ [(6, .ptr 1 0 0), (7, iN i), (8, .sl 4 0 ix.length), (50, zBC ms), (51, iN ms.length), (52, iN k)] (zJQ r l' nx (ix.map Int.ofNat))
  have hli : (ix.map Int.ofNat).length = ix.length := List.length_map ..
  refine rn4 ?_
  refine zF J (fun q2 => ?_) (fun q2 => ?_)
  ·have hk' : k < ms.length := by omega
   have hd : ms.drop k = ms.getD k mv0 :: ms.drop (k + 1) := by rw [List.drop_eq_getElem_cons hk', zFB mv0 hk']
   have hm := hok (ms.getD k mv0) (zAN mv0 hk')
   rw [hd, zCZ] at ha
   have hpi : l'.getD i z7 = l.getD i z7 := zFp hpre hi
   have hi' : i < l'.length := Nat.lt_of_lt_of_le hi hpre.length_le
   rw [← hpi] at hm S
   generalize hmk : ms.getD k mv0 = m at ha hm
   refine zFu ?_
   repeat (refine zAK rfl rfl rfl ?_)
   refine zb (mvC m) J J J J J (by rw [← hmk]; rfl) J ?_
   refine rn0 ?_
   refine zCa (zJQ r l' nx (ix.map Int.ofNat)) 10 [(6, .ptr 1 0 0), (7, iN i), (8, .sl 4 0 ix.length), (50, zBC ms), (51, iN ms.length), (52, iN k)] J J ⟨J, J, J, J, J, J, trivial⟩ ⟨J, J, J, J, J, J, J, trivial⟩ (zJR _ _ _ _) J (fun h q => nofix h _ q) ?_
   refine ze (by kernel_rfl) ?_
   refine zV 0 J (by kernel_rfl) (by kernel_rfl) (by kernel_rfl) J (zG J) J ?_
   refine zm (fuel := 4) [1, 2, 3, 4, 5, 6, 7, 8, 9, 10, 11, 12, 13, 14] [(56, .sl 4 0 ix.length), (10, .rp (.box (mvC m)) 0 0), (6, .ptr 1 0 0), (7, iN i), (8, .sl 4 0 ix.length), (50, zBC ms), (51, iN ms.length), (52, iN k)] ⟨J, J, J, J, J, J, J, J, trivial⟩ (by kernel_rfl) (by decide) J J ?_
   refine zI J J (zG J) ?_
   refine zI J J (zG J) ?_
   refine zI J J (zT J) ?_
   refine zI J J (zM J J J J J J) ?_
   refine zI J J (qpp J J J J J J J) ?_
   refine zI J J (zG J) ?_
   refine zI J J (zT J) ?_
   refine zI J J (zM J J J J J J) ?_
   refine zI J J (zU J J J J J) ?_
   refine zI J J (zG J) ?_
   refine zI J J (zn J J J J J (by first | (simp only [Nat.zero_add, Int.toNat_natCast, Int.toNat_zero]; exact J) | exact J) (by omega)) ?_
   refine zI J J (qpp J J J J J J J) ?_
   refine zI J J (zf J J J J J J) ?_
   refine zCL J J J J J (zDw r hv (l'.getD i z7) S m hm.1) ?_
   refine zu ?_
   refine zH (is := [15]) (by kernel_rfl) (by simp) J ⟨fun o ho => ?_, trivial⟩
   all_goals (cases ho)
   refine zD4 2 J J J (add_ok r hv l' nx (ix.map Int.ofNat) (zZ r (l'.getD i z7) m) hm.2 hsnd (by omega)) (fun h q1 q2 => ⟨q1, q2⟩) (fun h q => q.1) (by rw [hfix]; exact fun h => h) ?_
   rintro v H ⟨rfl, rfl⟩
   refine ⟨Nat.le_refl _, ?_⟩
   rw [hpi]
   generalize hP : zZ r (l.getD i z7) m = P at ha hm
   have hadd := zM7 l' P
   refine rn1 ?_
   refine zH (is := [16]) (by kernel_rfl) (by simp) J ⟨fun o ho => ?_, trivial⟩
   all_goals (cases ho)
   refine rn3 ?_
   refine zH (is := [17]) (by kernel_rfl) (by simp) J ⟨fun o ho => ?_, trivial⟩
   all_goals (cases ho)
   refine zAj J J J J J J J J J hli J J (by show 0 + 1 ≤ 1; omega) J (by show (ix.length + 1) * 8 ≤ _ ∧ _; omega) (fun i j _ _ => rfl) (by rw [hfix]; exact fun h => h) ?_
   refine zAU (zJQ r (zC5 l' P) nx ((ix ++ [zBH l' P]).map Int.ofNat)) ?_ ?_
   ·show [some (AObj.mk _ ((Cells.mp _ _).forget 4)), some (AObj.mk _ ((Cells.box _).forget 4)), some (AObj.mk _ ((zCD _).forget 4)), some (AObj.mk _ ((zDt nx).forget 4)), _] = _
    rw [zEZ, zBm (fun a j => zDd a j 4), zBm (fun a j => zEc a j 4)]
    show _ = [_, _, _, _, some (AObj.mk _ (Cells.ints .i64 ((ix ++ [zBH l' P]).map Int.ofNat)))]
    rw [List.map_append]; rfl
   refine rn1 ?_
   refine zH (is := [18]) (by kernel_rfl) (by simp) J ⟨fun o ho => ?_, trivial⟩
   all_goals (cases ho)
   refine rn1 ?_
   refine zW (by kernel_rfl) ?_
   refine rn15 ?_
   refine zF J (fun g => ?_) (fun g => ?_)
   ·rw [if_pos (by omega)] at ha
    have hN : zFG r = none := by
     rw [← hg, show 3001 - i = (3000 - i) + 1 by omega]
     exact hgN ha.symm _
    refine rn6 ?_
    refine zL hR J ?_
    show _ = AV.tup [zFl r, .int .i64 (zDx r)]
    rw [(hnone hN).1, (hnone hN).2]; rfl
   ·rw [if_neg (by omega)] at ha
    have hmP : Sound r P := by rw [← hP, ← hpi]; exact hm.2
    refine rn5 ?_
    refine zR ⟨(k + 1, zC5 l' P, ix ++ [zBH l' P]), ⟨by show k + 1 ≤ ms.length; omega, ha, hpre.trans (zM8 l' P), zJm hmP hsnd, by show (zC5 l' P).length ≤ 3000; omega, by show (ix ++ [zBH l' P]).length = k + 1; rw [List.length_append, hix]; rfl⟩, by show ms.length - (k + 1) < ms.length - k; omega, ⟨J, J, ?_, J, J, J, trivial⟩, J⟩
    show some (AV.sl 4 0 (ix.length + 1)) = some (AV.sl 4 0 (ix ++ [zBH l' P]).length)
    rw [List.length_append]; rfl
  ·have hk' : k = ms.length := by omega
   subst hk'
   rw [List.drop_length, zCZ] at ha
   have ha := ha.symm
   refine zBA ?_
   refine zC6 4 8 ix.length [(6, .ptr 1 0 0), (7, iN i)] J zAR J (by show ix.length ≤ (ix.map Int.ofNat).length; rw [hli]; exact Nat.le_refl _) ⟨J, J, trivial⟩ ?_
   have hnl : (nx ++ [ix]).length = nx.length + 1 := by rw [List.length_append]; rfl
   have hnx : nx.length ≤ 3000 := by have := G.len; omega
   refine zJ J ?_
   repeat (first | refine zA (zG rfl) ?_ | refine zA (zU rfl rfl rfl rfl rfl) ?_ | refine zA (zT rfl) ?_ | refine zA (zM rfl rfl rfl rfl rfl rfl) ?_ | refine zAH rfl rfl rfl rfl rfl rfl rfl rfl rfl rfl rfl ?_)
   refine zBV [ix] J J J J J J J J J J J J J (by show 0 + 1 ≤ 1; omega) (fun k' j hk' hj => ?_) (by show (nx.length + 1) * 24 ≤ _ ∧ _; omega) (fun a j k _ => zEc a j k) (by rw [hfix]; exact fun h => h) ?_
   ·obtain rfl : k' = 0 := Nat.lt_one_iff.1 hk'
    obtain rfl : j = 0 := Nat.lt_one_iff.1 hj
    show AV.ro (Cells.ints .i64 (List.map Int.ofNat ix)) 0 ix.length = AV.ro (Cells.ints .i64 (List.map Int.ofNat ix)) 0 (List.map Int.ofNat ix).length
    rw [hli]
   refine zAU [some ⟨95, .mp (zCQ l') (zC0 l'.length)⟩, some ⟨97, .box ((tbC r l'.length nx.length .nil).set 12 .any)⟩, some ⟨35, zCD l'⟩, some ⟨23, zDt (nx ++ [ix])⟩, none] ?_ ?_
   ·show [some (AObj.mk _ ((Cells.mp _ _).forget 3)), some (AObj.mk _ ((Cells.box _).forget 3)), some (AObj.mk _ ((zCD _).forget 3)), some (AObj.mk _ (zDt (nx ++ [ix]))), none] = _
    rw [zEZ, zBm (fun a j => zDd a j 3)]; rfl
   repeat (first | refine zC ?_ | refine zAW ?_ | refine zA (zT rfl) ?_ | refine zA (zM rfl rfl rfl rfl rfl rfl) ?_ | refine zAF rfl rfl rfl rfl rfl rfl rfl Nat.zero_lt_one ?_)
   refine zB ?_
   refine zAS (zFT r l' (nx ++ [ix]) ++ [none]) (by show _ = [_, some (AObj.mk _ (.box (tbC r l'.length (nx ++ [ix]).length .nil))), _, _, _]; rw [hnl]; rfl) ?_
   refine zBh (zFT r l' (nx ++ [ix])) [none] [(6, .ptr 1 0 0), (7, iN i)] J ⟨J, J, trivial⟩ (fun h q => nofix h _ q) (zFy _ _ _) J ?_
   refine rn3 ?_
   refine zR ⟨(i + 1, l', nx ++ [ix]), ⟨hstep l' ix ha, ?_⟩, by show 3001 - (i + 1) < 3001 - i; omega, ⟨J, J, trivial⟩, J⟩
   show Go.Ax.Gm.grow r (3001 - (i + 1)) (i + 1) l' (nx ++ [ix]) = zFG r
   rw [← hg, show 3001 - i = (3001 - (i + 1)) + 1 by omega]
   exact (hgS (l', ix) ha _).symm
 ·have hi : i = l.length := by omega
  subst hi
  have hN : zFG r = some (l, nx) := by
   rw [← hg]
   cases 3001 - l.length with
   | zero => rfl
   | succ f => rw [Go.Ax.Gm.grow, if_neg (Nat.lt_irrefl _)]
  refine zBA ?_
  refine zBE [some ⟨95, .mp (zCQ l) (zC0 l.length)⟩, none, some ⟨35, zCD l⟩, some ⟨23, zDt nx⟩] [none, some ⟨97, .box (tbF r l nx .nil)⟩, none, none] [(6, .ptr 1 0 0)] ?_ (zB8 (zKk l _) (zCc (zB8 (zLs l) (zB8 (zKy nx) zCd)))) J ?_ ⟨⟨.ptr 1 0 0, J, .inl J⟩, trivial⟩ ?_
  ·intro h o ho
   match h, ho with
   | 0, ho => exact ho
   | 1, ho => simp at ho
   | 2, ho => exact ho
   | 3, ho => exact ho
   | _ + 4, ho => simp at ho
  ·intro h o ho
   match h, ho with
   | 0, ho => simp at ho
   | 1, ho =>
    cases ho
    refine ⟨fun o h => by simp at h, _, J, J, J, J, fun i j hi hj => ?_⟩
    obtain rfl : i = 0 := Nat.lt_one_iff.1 hi
    have hj : j < 15 := hj
    match j, hj with
    | 0, _ => exact .inl rfl
    | 1, _ => exact .inl rfl
    | 2, _ => exact .inl rfl
    | 3, _ => exact .inl rfl
    | 4, _ => exact .inl rfl
    | 5, _ => exact .inl rfl
    | 6, _ => exact .inl rfl
    | 7, _ => exact .inl rfl
    | 8, _ => exact .inl rfl
    | 9, _ => exact .inl rfl
    | 10, _ => exact .inl rfl
    | 11, _ => exact .inr (.inr ⟨rfl, fun o ho => by cases ho; show 0 + l.length ≤ l.length; omega⟩)
    | 12, _ => exact .inr (.inr ⟨rfl, fun o ho => by cases ho; show 0 + nx.length ≤ nx.length; omega⟩)
    | 13, _ => exact .inl rfl
    | 14, _ => exact .inr (.inr ⟨rfl, trivial⟩)
   | 2, ho => simp at ho
   | 3, ho => simp at ho
   | _ + 4, ho => simp at ho
  refine zBh [none, some ⟨97, .box (tbF r l nx .nil)⟩] [none, none] [(6, .ptr 1 0 0)] J ⟨J, trivial⟩ (fun h q => nofix h _ q) (bl_n (zBo (zGP J) zBK)) J ?_
  have hmem : ∀ i, i < l.length → Sound r (l.getD i z7) := fun i hi => by
   rw [show l.getD i z7 = l[i] by simp [List.getD, hi]]
   exact (G.snd _ (List.getElem_mem hi)).1
  have hP : SolveP r l nx := ⟨hv, hmost, hmem, G.len, fun i hi => by
   have h1 := G.nxl i hi
   have h2 := zD1 hv (hmem i hi)
   omega, fun i hi k hk => by
   obtain ⟨j, hj, rfl⟩ := List.mem_iff_getElem.1 hk
   have h1 := G.nxl i hi
   have := (G.nxt i hi j (by omega)).1
   rwa [Go.Ax.Gm.get_at (nx.getD i []) hj] at this⟩
  refine rn0 ?_
  refine zCA J J J (solve_ok r l nx hP) (fun h q => q) (fun h q => q) ?_
  rintro v H ⟨rfl, N, hN2, rfl⟩
  have hE2 : zB3 (zw l nx (zAM r l) N) = (zFP r (l, nx)).E := new_ent (x := (l, nx)) G hN2
  rw [hE2]
  generalize hEE : (zFP r (l, nx)).E = E
  refine zBA ?_
  refine zBE [none, none, none, some ⟨37, zCI E⟩] [none, some ⟨97, .box (tbF r l nx (.ro (zCI E) 0 E.length))⟩, none, none] [(6, .ptr 1 0 0)] ?_ (zCc (zCc (zCc (zB8 (zKh E) zCd)))) J ?_ ⟨⟨.ptr 1 0 0, J, .inl J⟩, trivial⟩ ?_
  ·intro h o ho
   match h, ho with
   | 0, ho => simp at ho
   | 1, ho => simp at ho
   | 2, ho => simp at ho
   | 3, ho => exact ho
   | _ + 4, ho => simp at ho
  ·intro h o ho
   match h, ho with
   | 0, ho => simp at ho
   | 1, ho =>
    cases ho
    refine ⟨fun o h => by simp at h, _, J, J, J, J, fun i j hi hj => ?_⟩
    obtain rfl : i = 0 := Nat.lt_one_iff.1 hi
    have hj : j < 15 := hj
    match j, hj with
    | 0, _ => exact .inl rfl
    | 1, _ => exact .inl rfl
    | 2, _ => exact .inl rfl
    | 3, _ => exact .inl rfl
    | 4, _ => exact .inl rfl
    | 5, _ => exact .inl rfl
    | 6, _ => exact .inl rfl
    | 7, _ => exact .inl rfl
    | 8, _ => exact .inl rfl
    | 9, _ => exact .inl rfl
    | 10, _ => exact .inl rfl
    | 11, _ => exact .inl rfl
    | 12, _ => exact .inl rfl
    | 13, _ => exact .inr (.inr ⟨rfl, fun o ho => by cases ho; show 0 + E.length ≤ E.length; omega⟩)
    | 14, _ => exact .inl rfl
   | 2, ho => simp at ho
   | 3, ho => simp at ho
   | _ + 4, ho => simp at ho
  refine zBh [none, some ⟨97, .box (tbF r l nx (.ro (zCI E) 0 E.length))⟩] [none, none] [(6, .ptr 1 0 0)] J ⟨J, trivial⟩ (fun h q => nofix h _ q) (bl_n (zBo (zGP J) zBK)) J ?_
  refine zCa [none] 6 [] J J trivial ⟨J, trivial⟩ (bl_n zBK) J (fun h q => nofix h _ q) ?_
  refine rn0 ?_
  refine zL hR J ?_
  show _ = AV.tup [zFl r, .int .i64 (zDx r)]
  rw [(hsome _ hN).1, (hsome _ hN).2]
  show _ = AV.tup [.rp (.box (tbF r l nx (.ro (zCI (zFP r (l, nx)).E) 0 (zFP r (l, nx)).E.length))) 0 0, .int .i64 0]
  rw [hEE]; rfl
/-- retro.New -/
theorem new_ok (r : Go.Ax.Gm.Rules) (hr : Lens r) : zl Tryz.prog 48 [ruA r] (.tup [zFl r, .int .i64 (zDx r)]) := by
 by_cases h : zAa r = 0
 ·by_cases hq : r.quiet = 0
  ·exact new_run r hr h hq
  ·have e : zDx r = 1 := by unfold zDx; rw [if_neg (fun c => c h), if_pos hq]
   have e2 : zFl r = .nilp := by unfold zFl; rw [e, if_pos (by decide)]
   rw [e, e2]; exact zN3 r hr h hq
 ·have e : zDx r = zAa r := by unfold zDx; rw [if_pos h]
  have e2 : zFl r = .nilp := by unfold zFl; rw [e, if_pos h]
  rw [e, e2]; exact new_no r hr h
/-- the zero position has empty rows -/
theorem zJp {P : Program} {fn : Func} {c : Ctx} {fr : Fr} {H : zQ} {k : List It} {x : Code} {ty : TypeId} (h : Nat) (hh : H[h]? = some (some ⟨ty, .box poZ⟩)) (hk : Ax P fn c (.code x k) fr (H.set h (some ⟨ty, .box (poC z7)⟩))) : Ax P fn c (.code x k) fr H := by
 have hlt : h < H.length := (List.getElem?_eq_some_iff.1 hh).1
 refine zLF (H.set h (some ⟨ty, .box (poC z7)⟩)) (List.length_set ..) (fun h' o ho => ?_) hk
 by_cases e : h' = h
 ·subst e
  rw [List.getElem?_set_self hlt] at ho
  cases ho
  refine ⟨_, hh, J, J, J, fun i j hi hj => ?_⟩
  obtain rfl : i = 0 := Nat.lt_one_iff.1 hi
  have hj : j < 5 := hj
  match j, hj with
  | 0, _ => exact AEq.nil
  | 1, _ => exact AEq.nil
  | 2, _ => exact AEq.nil
  | 3, _ => exact AEq.rfl'
  | 4, _ => exact AEq.rfl'
 ·rw [List.getElem?_set_ne (Ne.symm e)] at ho
  exact ⟨o, ho, J, J, J, fun _ _ _ _ => AEq.rfl'⟩
/-- (*retro.Table).Size -/
theorem size_ok (T : Tab) : zl Tryz.prog 18 [zEQ T] (iN T.l.length) := by
 refine zd.value0 (zN (P := Tryz.prog) (fn := Tryz.f18) J J (by kernel_rfl) J (fun c hR hfix => ?_)) (fix := fun _ => False) (fun _ h => h) J J
 repeat (first | refine zA (zG rfl) ?_ | refine zA (zO rfl) ?_ | refine zC ?_ | refine zB ?_ | refine zY ?_ | refine zJ rfl ?_ | refine zAA ?_ | refine zA (zAx rfl rfl rfl) ?_ | refine zA (zD rfl rfl rfl rfl) ?_ | refine zA (zAV rfl) ?_ | refine zA (zK rfl rfl rfl rfl rfl rfl) ?_)
 exact zL hR J J
def atE (T : Tab) (i : Int) : Int := if i < 0 ∨ (T.l.length : Int) ≤ i then 4 else 0
def atP (T : Tab) (i : Int) : Pos := if atE T i ≠ 0 then z7 else T.l.getD i.toNat z7
def atX (T : Tab) (i : Int) : Ent := if atE T i ≠ 0 then (0, 0) else zBi T i.toNat
theorem zGJ {T : Tab} (h : TabOK T) {i : Nat} (hi : i < T.l.length) : SmallP (T.l.getD i z7) := zBT h.v (h.sound hi).1
/-- (*retro.Table).At -/
theorem at_ok (T : Tab) (h : TabOK T) (i : Int) : zl Tryz.prog 17 [zEQ T, .int .i64 i] (.tup [poA (atP T i), entA (atX T i), .int .i64 (atE T i)]) := by
 refine zd.value0 (zN (P := Tryz.prog) (fn := Tryz.f17) J J (by kernel_rfl) J (fun c hR hfix => ?_)) (fix := fun _ => False) (fun _ h => h) J J
 have hEl := h.len
 have hmost := h.G.most
 by_cases hi : i < 0 ∨ (T.l.length : Int) ≤ i
 ·have e : atE T i = 4 := by unfold atE; rw [if_pos hi]
  have e1 : atP T i = z7 := by unfold atP; rw [e, if_pos (by decide)]
  have e2 : atX T i = (0, 0) := by unfold atX; rw [e, if_pos (by decide)]
  rw [e, e1, e2] at hR
  refine rn4 ?_
  refine zo J J (fun g => ?_) (fun g => ?_)
  ·refine rn18 ?_
   refine zb poZ J J J J J J J ?_
   skip
   refine zb (zCu (0, 0)) J J J J J J J ?_
   refine rn7 ?_
   refine zJp 0 J ?_
   refine rn2 ?_
   exact zL hR J J
  ·repeat (first | refine zA (zG rfl) ?_ | refine zC ?_ | refine zB ?_ | refine zr rfl rfl ?_ | refine zA (zDs rfl rfl) ?_ | refine zA (zg rfl rfl) ?_ | refine zA (zAx rfl rfl rfl) ?_ | refine zA (zD rfl rfl rfl rfl) ?_ | refine zA (zAV rfl) ?_ | refine zA (zK rfl rfl rfl rfl rfl rfl) ?_)
   refine zF J (fun q => ?_) (fun q => absurd q (by omega))
   refine rn8 ?_
   refine zb poZ J J J J J J J ?_
   skip
   refine zb (zCu (0, 0)) J J J J J J J ?_
   refine rn7 ?_
   refine zJp 0 J ?_
   refine rn2 ?_
   exact zL hR J J
 ·have e : atE T i = 0 := by unfold atE; rw [if_neg hi]
  have e1 : atP T i = T.l.getD i.toNat z7 := by unfold atP; rw [e, if_neg (by decide)]
  have e2 : atX T i = zBi T i.toNat := by unfold atX; rw [e, if_neg (by decide)]
  rw [e, e1, e2] at hR
  obtain ⟨n, rfl⟩ : ∃ n : Nat, i = (n : Int) := ⟨i.toNat, by omega⟩
  rw [Int.toNat_natCast] at hR
  have hn : n < T.l.length := by omega
  repeat (first | refine zA (zG rfl) ?_ | refine zA (zO rfl) ?_ | refine zC ?_ | refine zB ?_ | refine zY ?_ | refine zJ rfl ?_ | refine zr rfl rfl ?_ | refine zA (zCE rfl rfl) ?_ | refine zA (zDs rfl rfl) ?_ | refine zA (zg rfl rfl) ?_ | refine zA (zAx rfl rfl rfl) ?_ | refine zA (zD rfl rfl rfl rfl) ?_ | refine zA (zAV rfl) ?_ | refine zA (zK rfl rfl rfl rfl rfl rfl) ?_ | refine zAK rfl rfl rfl ?_)
  refine zF J (fun q => ?_) (fun q => ?_)
  ·exact absurd q (by omega)
  refine rn1 ?_
  refine ze (by kernel_rfl) ?_
  refine zV 0 J (by kernel_rfl) (by kernel_rfl) (by kernel_rfl) J (zG J) J ?_
  refine zV 1 J (by kernel_rfl) (by kernel_rfl) (by kernel_rfl) J (zAV J) J ?_
  refine zV 2 J (by kernel_rfl) (by kernel_rfl) (by kernel_rfl) J (zK J J J J J J) J ?_
  refine zV 4 J (by kernel_rfl) (by kernel_rfl) (by kernel_rfl) J (zG J) J ?_
  refine zV 8 J (by kernel_rfl) (by kernel_rfl) (by kernel_rfl) J (zG J) J ?_
  refine zV 9 J (by kernel_rfl) (by kernel_rfl) (by kernel_rfl) J (zAV J) J ?_
  refine zV 10 J (by kernel_rfl) (by kernel_rfl) (by kernel_rfl) J (zK J J J J J J) J ?_
  refine zV 12 J (by kernel_rfl) (by kernel_rfl) (by kernel_rfl) J (zG J) J ?_
  apply zS (H := [some ⟨35, .box (poC (T.l.getD n z7))⟩, some ⟨37, .box (zCu (0, 0))⟩]) [(4, .ptr 0 0 0), (5, .ptr 1 0 0), (34, entA (zBi T n))]
  ·intro f42
   apply zS (H := [some ⟨35, .box poZ⟩, some ⟨37, .box (zCu (0, 0))⟩]) [(4, .ptr 0 0 0), (5, .ptr 1 0 0), (27, poA (T.l.getD n z7)), (34, entA (zBi T n))]
   ·intro f32
    apply zS (H := [some ⟨35, .box (poC (T.l.getD n z7))⟩, some ⟨37, .box (zCu (0, 0))⟩]) [(4, .ptr 0 0 0), (5, .ptr 1 0 0), (33, .rp (zCI T.E) n 0)]
    ·intro f41
     apply zS (H := [some ⟨35, .box poZ⟩, some ⟨37, .box (zCu (0, 0))⟩]) [(4, .ptr 0 0 0), (5, .ptr 1 0 0), (26, poA (T.l.getD n z7)), (34, entA (zBi T n))]
     ·intro f22
      apply zS (H := [some ⟨35, .box poZ⟩, some ⟨37, .box (zCu (0, 0))⟩]) [(4, .ptr 0 0 0), (5, .ptr 1 0 0), (27, poA (T.l.getD n z7)), (33, .rp (zCI T.E) n 0)]
      ·intro f31
       apply zS (H := [some ⟨35, .box (poC (T.l.getD n z7))⟩, some ⟨37, .box (zCu (0, 0))⟩]) [(4, .ptr 0 0 0), (5, .ptr 1 0 0), (30, .rp (.box (tbF T.r T.l T.nx (.ro (zCI T.E) 0 T.E.length))) 0 13), (32, iN n)]
       ·intro f40
        apply zS (H := [some ⟨35, .box poZ⟩, some ⟨37, .box (zCu (0, 0))⟩]) [(4, .ptr 0 0 0), (5, .ptr 1 0 0), (25, .rp (zCD T.l) n 0), (34, entA (zBi T n))]
        ·intro f12
         apply zS (H := [some ⟨35, .box poZ⟩, some ⟨37, .box (zCu (0, 0))⟩]) [(4, .ptr 0 0 0), (5, .ptr 1 0 0), (26, poA (T.l.getD n z7)), (33, .rp (zCI T.E) n 0)]
         ·intro f21
          apply zS (H := [some ⟨35, .box poZ⟩, some ⟨37, .box (zCu (0, 0))⟩]) [(4, .ptr 0 0 0), (5, .ptr 1 0 0), (27, poA (T.l.getD n z7)), (30, .rp (.box (tbF T.r T.l T.nx (.ro (zCI T.E) 0 T.E.length))) 0 13), (32, iN n)]
          ·intro f30
           apply zS (H := [some ⟨35, .box poZ⟩, some ⟨37, .box (zCu (0, 0))⟩]) [(4, .ptr 0 0 0), (5, .ptr 1 0 0), (22, .rp (.box (tbF T.r T.l T.nx (.ro (zCI T.E) 0 T.E.length))) 0 11), (24, iN n), (34, entA (zBi T n))]
           ·intro f02
            apply zS (H := [some ⟨35, .box poZ⟩, some ⟨37, .box (zCu (0, 0))⟩]) [(4, .ptr 0 0 0), (5, .ptr 1 0 0), (25, .rp (zCD T.l) n 0), (33, .rp (zCI T.E) n 0)]
            ·intro f11
             apply zS (H := [some ⟨35, .box poZ⟩, some ⟨37, .box (zCu (0, 0))⟩]) [(4, .ptr 0 0 0), (5, .ptr 1 0 0), (26, poA (T.l.getD n z7)), (30, .rp (.box (tbF T.r T.l T.nx (.ro (zCI T.E) 0 T.E.length))) 0 13), (32, iN n)]
             ·intro f20
              apply zS (H := [some ⟨35, .box poZ⟩, some ⟨37, .box (zCu (0, 0))⟩]) [(4, .ptr 0 0 0), (5, .ptr 1 0 0), (22, .rp (.box (tbF T.r T.l T.nx (.ro (zCI T.E) 0 T.E.length))) 0 11), (24, iN n), (33, .rp (zCI T.E) n 0)]
              ·intro f01
               apply zS (H := [some ⟨35, .box poZ⟩, some ⟨37, .box (zCu (0, 0))⟩]) [(4, .ptr 0 0 0), (5, .ptr 1 0 0), (25, .rp (zCD T.l) n 0), (30, .rp (.box (tbF T.r T.l T.nx (.ro (zCI T.E) 0 T.E.length))) 0 13), (32, iN n)]
               ·intro f10
                refine zH (is := [3, 11]) (by kernel_rfl) (by simp) J ⟨fun o ho => ?_, fun o ho => ?_, trivial⟩
                all_goals (cases ho)
                ·repeat (first | refine zC ?_ | refine zX ?_ | refine zA (zD rfl rfl rfl rfl) ?_)
                 refine zV 5 J (by kernel_rfl) (by kernel_rfl) (by kernel_rfl) J (zh J J J J (by first | (simp only [Nat.zero_add, Int.toNat_natCast, Int.toNat_zero]; exact J) | exact J) (by omega)) J ?_
                 exact f10 _ ⟨J, J, J, J, J, trivial⟩
                ·repeat (first | refine zC ?_ | refine zX ?_ | refine zA (zD rfl rfl rfl rfl) ?_)
                 refine zV 13 J (by kernel_rfl) (by kernel_rfl) (by kernel_rfl) J (zh J J J J (by first | (simp only [Nat.zero_add, Int.toNat_natCast, Int.toNat_zero]; exact J) | exact J) (by omega)) J ?_
                 exact f01 _ ⟨J, J, J, J, J, trivial⟩
               ·refine zH (is := [6, 11]) (by kernel_rfl) (by simp) J ⟨fun o ho => ?_, fun o ho => ?_, trivial⟩
                all_goals (cases ho)
                ·refine rn6 ?_
                 exact f20 _ ⟨J, J, J, J, J, trivial⟩
                ·repeat (first | refine zC ?_ | refine zX ?_ | refine zA (zD rfl rfl rfl rfl) ?_)
                 refine zV 13 J (by kernel_rfl) (by kernel_rfl) (by kernel_rfl) J (zh J J J J (by first | (simp only [Nat.zero_add, Int.toNat_natCast, Int.toNat_zero]; exact J) | exact J) (by omega)) J ?_
                 exact f11 _ ⟨J, J, J, J, trivial⟩
              ·refine zH (is := [3, 14]) (by kernel_rfl) (by simp) J ⟨fun o ho => ?_, fun o ho => ?_, trivial⟩
               all_goals (cases ho)
               ·repeat (first | refine zC ?_ | refine zX ?_ | refine zA (zD rfl rfl rfl rfl) ?_)
                refine zV 5 J (by kernel_rfl) (by kernel_rfl) (by kernel_rfl) J (zh J J J J (by first | (simp only [Nat.zero_add, Int.toNat_natCast, Int.toNat_zero]; exact J) | exact J) (by omega)) J ?_
                exact f11 _ ⟨J, J, J, J, trivial⟩
               ·refine rn6 ?_
                exact f02 _ ⟨J, J, J, J, J, trivial⟩
             ·refine zH (is := [7, 11]) (by kernel_rfl) (by simp) J ⟨fun o ho => ?_, fun o ho => ?_, trivial⟩
              all_goals (cases ho)
              ·refine zP J J J (zIj (T.l.getD n z7) (zGJ h hn)) ?_
               refine rn1 ?_
               exact f30 _ ⟨J, J, J, J, J, trivial⟩
              ·repeat (first | refine zC ?_ | refine zX ?_ | refine zA (zD rfl rfl rfl rfl) ?_)
               refine zV 13 J (by kernel_rfl) (by kernel_rfl) (by kernel_rfl) J (zh J J J J (by first | (simp only [Nat.zero_add, Int.toNat_natCast, Int.toNat_zero]; exact J) | exact J) (by omega)) J ?_
               exact f21 _ ⟨J, J, J, J, trivial⟩
            ·refine zH (is := [6, 14]) (by kernel_rfl) (by simp) J ⟨fun o ho => ?_, fun o ho => ?_, trivial⟩
             all_goals (cases ho)
             ·refine rn6 ?_
              exact f21 _ ⟨J, J, J, J, trivial⟩
             ·refine rn6 ?_
              exact f12 _ ⟨J, J, J, J, trivial⟩
           ·refine zH (is := [3]) (by kernel_rfl) (by simp) J ⟨fun o ho => ?_, trivial⟩
            all_goals (cases ho)
            repeat (first | refine zC ?_ | refine zX ?_ | refine zA (zD rfl rfl rfl rfl) ?_)
            refine zV 5 J (by kernel_rfl) (by kernel_rfl) (by kernel_rfl) J (zh J J J J (by first | (simp only [Nat.zero_add, Int.toNat_natCast, Int.toNat_zero]; exact J) | exact J) (by omega)) J ?_
            exact f12 _ ⟨J, J, J, J, trivial⟩
          ·refine zH (is := [11, 15]) (by kernel_rfl) (by simp) J ⟨fun o ho => ?_, fun o ho => ?_, trivial⟩
           all_goals (cases ho)
           ·repeat (first | refine zC ?_ | refine zX ?_ | refine zA (zD rfl rfl rfl rfl) ?_)
            refine zV 13 J (by kernel_rfl) (by kernel_rfl) (by kernel_rfl) J (zh J J J J (by first | (simp only [Nat.zero_add, Int.toNat_natCast, Int.toNat_zero]; exact J) | exact J) (by omega)) J ?_
            exact f31 _ ⟨J, J, J, J, trivial⟩
           ·refine zb (poC (T.l.getD n z7)) J J J J J J J ?_
            refine rn1 ?_
            exact f40 _ ⟨J, J, J, J, trivial⟩
         ·refine zH (is := [7, 14]) (by kernel_rfl) (by simp) J ⟨fun o ho => ?_, fun o ho => ?_, trivial⟩
          all_goals (cases ho)
          ·refine zP J J J (zIj (T.l.getD n z7) (zGJ h hn)) ?_
           refine rn1 ?_
           exact f31 _ ⟨J, J, J, J, trivial⟩
          ·refine rn6 ?_
           exact f22 _ ⟨J, J, J, J, trivial⟩
        ·refine zH (is := [6]) (by kernel_rfl) (by simp) J ⟨fun o ho => ?_, trivial⟩
         all_goals (cases ho)
         refine rn6 ?_
         exact f22 _ ⟨J, J, J, J, trivial⟩
       ·refine zH (is := [11]) (by kernel_rfl) (by simp) J ⟨fun o ho => ?_, trivial⟩
        all_goals (cases ho)
        repeat (first | refine zC ?_ | refine zX ?_ | refine zA (zD rfl rfl rfl rfl) ?_)
        refine zV 13 J (by kernel_rfl) (by kernel_rfl) (by kernel_rfl) J (zh J J J J (by first | (simp only [Nat.zero_add, Int.toNat_natCast, Int.toNat_zero]; exact J) | exact J) (by omega)) J ?_
        exact f41 _ ⟨J, J, J, trivial⟩
      ·refine zH (is := [14, 15]) (by kernel_rfl) (by simp) J ⟨fun o ho => ?_, fun o ho => ?_, trivial⟩
       all_goals (cases ho)
       ·refine rn6 ?_
        exact f32 _ ⟨J, J, J, J, trivial⟩
       ·refine zb (poC (T.l.getD n z7)) J J J J J J J ?_
        refine rn1 ?_
        exact f41 _ ⟨J, J, J, trivial⟩
     ·refine zH (is := [7]) (by kernel_rfl) (by simp) J ⟨fun o ho => ?_, trivial⟩
      all_goals (cases ho)
      refine zP J J J (zIj (T.l.getD n z7) (zGJ h hn)) ?_
      refine rn1 ?_
      exact f32 _ ⟨J, J, J, J, trivial⟩
    ·refine zH (is := [14]) (by kernel_rfl) (by simp) J ⟨fun o ho => ?_, trivial⟩
     all_goals (cases ho)
     refine rn6 ?_
     exact f42 _ ⟨J, J, J, trivial⟩
   ·refine zH (is := [15]) (by kernel_rfl) (by simp) J ⟨fun o ho => ?_, trivial⟩
    all_goals (cases ho)
    refine zb (poC (T.l.getD n z7)) J J J J J J J ?_
    refine rn1 ?_
    exact f42 _ ⟨J, J, J, trivial⟩
  refine zH (is := [16]) (by kernel_rfl) (by simp) J ⟨fun o ho => ?_, trivial⟩
  all_goals (cases ho)
  refine zb (zCu (zBi T n)) J J J J J J J ?_
  refine rn1 ?_
  refine zH (is := [17]) (by kernel_rfl) (by simp) J ⟨fun o ho => ?_, trivial⟩
  all_goals (cases ho)
  refine rn1 ?_
  refine zW (by kernel_rfl) ?_
  refine rn0 ?_
  exact zL hR J J
/-- (*retro.Table).find -/
theorem find_ok (T : Tab) (h : TabOK T) (hr : Lens T.r) (p : Pos) (hp : LenP p) : zl Tryz.prog 57 [zEQ T, poA p] (.tup [.int .i64 (if zDZ T p ≠ 0 then 0 else ((zBH T.l p : Nat) : Int)), .int .i64 (zDZ T p)]) := by
 refine zd.value0 (zN (P := Tryz.prog) (fn := Tryz.f57) J J (by kernel_rfl) J (fun c hR hfix => ?_)) (fix := fun _ => False) (fun _ h => h) J J
 refine zY ?_
 repeat (first | refine zA (zO rfl) ?_ | refine zC ?_ | refine zB ?_ | refine zJ rfl ?_ | refine zAO rfl rfl ?_)
 refine zB0 3 [(0, zEQ T)] J ⟨J, J, trivial⟩ ⟨J, trivial⟩ J hfix ?_
 repeat (refine zY ?_)
 refine ze (by kernel_rfl) ?_
 refine zm (fuel := 0) [0, 1, 2, 3, 4, 5, 6] [(3, .rp (.box (poC p)) 0 0), (0, zEQ T)] ⟨J, J, trivial⟩ (by kernel_rfl) (by decide) J J ?_
 refine zI J J (zG J) ?_
 refine zI J J (zAV J) ?_
 refine zI J J (zK J J J J J J) ?_
 refine zI J J (zCi J J J J J J) ?_
 refine zI J J (zf J J J J J J) ?_
 refine zCL J J J J J (zCG T.r hr p hp) ?_
 refine zI J J (zO J) ?_
 refine zu ?_
 refine zW (by kernel_rfl) ?_
 refine rn3 ?_
 refine zF J (fun q => ?_) (fun q => ?_)
 ·have e : zDZ T p = zAp T.r p := by unfold zDZ; rw [if_pos q]
  rw [e, if_pos q] at hR
  refine rn2 ?_
  exact zL hR J J
 have q2 := Classical.not_not.1 q
 obtain ⟨hz, S⟩ := zCw q2
 refine rn1 ?_
 by_cases hi : zBH T.l p < T.l.length
 ·have e : zDZ T p = 0 := by unfold zDZ; rw [if_neg q, if_pos hi]
  rw [e, if_neg (by decide)] at hR
  refine ze (by kernel_rfl) ?_
  refine zm (fuel := 0) [0, 1, 2, 3, 4, 5, 6, 7, 8, 9, 10, 11] [(3, .rp (.box (poC p)) 0 0), (0, zEQ T)] ⟨J, J, trivial⟩ (by kernel_rfl) (by decide) J J ?_
  refine zI J J (zG J) ?_
  refine zI J J (zAV J) ?_
  refine zI J J (zK J J J J J J) ?_
  refine zI J J (zD J J J J) ?_
  refine zI J J (zf J J J J J J) ?_
  refine zCL J J J J J (zGD h.v S) ?_
  refine zI J J (zFJ J (.str J) J J J J (zDa T.l) (zBH T.l p) (zHi hi) (zHt hi)) ?_
  refine zI J J (zG J) ?_
  refine zI J J (zBG J J) ?_
  refine zI J J (zBG J J) ?_
  refine zI J J (zO J) ?_
  refine zI J J (zO J) ?_
  refine zu ?_
  refine zW (by kernel_rfl) ?_
  refine rn5 ?_
  exact zL hR J J
 ·have e : zDZ T p = 8 := by unfold zDZ; rw [if_neg q, if_neg hi]
  rw [e, if_pos (by decide)] at hR
  refine ze (by kernel_rfl) ?_
  refine zm (fuel := 0) [0, 1, 2, 3, 4, 5, 6, 7, 8, 9, 10, 11] [(3, .rp (.box (poC p)) 0 0), (0, zEQ T)] ⟨J, J, trivial⟩ (by kernel_rfl) (by decide) J J ?_
  refine zI J J (zG J) ?_
  refine zI J J (zAV J) ?_
  refine zI J J (zK J J J J J J) ?_
  refine zI J J (zD J J J J) ?_
  refine zI J J (zf J J J J J J) ?_
  refine zCL J J J J J (zGD h.v S) ?_
  refine zI J J (zEj J (.str J) J J J J J J J J (zDa T.l) (zFg h.v S h.G.snd hi)) ?_
  refine zI J J (zG J) ?_
  refine zI J J (zBG J J) ?_
  refine zI J J (zBG J J) ?_
  refine zI J J (zO J) ?_
  refine zI J J (zO J) ?_
  refine zu ?_
  refine zW (by kernel_rfl) ?_
  refine rn5 ?_
  exact zL hR J J
def zCN (T : Tab) (i : Nat) (ms : List Mv) (k : Nat) : List Mv := ((List.range k).filter (fun k => decide (zBi T ((T.nx.getD i []).getD k 0) = zER (zBi T i)))).map (fun k => ms.getD k mv0)
theorem zLJ (T : Tab) (i : Nat) (ms : List Mv) (k : Nat) : zCN T i ms (k + 1) = if zBi T ((T.nx.getD i []).getD k 0) = zER (zBi T i) then zCN T i ms k ++ [ms.getD k mv0] else zCN T i ms k := by
 unfold zCN
 rw [List.range_succ, List.filter_append, List.map_append]
 by_cases h : zBi T ((T.nx.getD i []).getD k 0) = zER (zBi T i)
 ·rw [if_pos h, List.filter_cons_of_pos (p := fun k => decide (zBi T ((T.nx.getD i []).getD k 0) = zER (zBi T i))) (decide_eq_true h)]; rfl
 ·rw [if_neg h, List.filter_cons_of_neg (p := fun k => decide (zBi T ((T.nx.getD i []).getD k 0) = zER (zBi T i))) (by rw [decide_eq_true_eq]; exact h)]; simp
theorem zIc (T : Tab) (i : Nat) (ms : List Mv) (k : Nat) : (zCN T i ms k).length ≤ k := by
 unfold zCN
 rw [List.length_map]
 exact Nat.le_trans (List.length_filter_le ..) (by rw [List.length_range]; exact Nat.le_refl _)
theorem mapI_get (l : List Nat) (k : Nat) : (l.map Int.ofNat).getD k 0 = ((l.getD k 0 : Nat) : Int) := by
 rw [List.getD, List.getElem?_map, List.getD]
 cases l[k]? <;> rfl
theorem zNL {T : Tab} {p : Pos} (h : zDZ T p = 0) : zAp T.r p = 0 ∧ zBH T.l p < T.l.length := by
 unfold zDZ at h
 split at h
 ·rename_i h1; exact absurd h h1
 ·rename_i h1
  split at h
  ·exact ⟨Classical.not_not.1 h1, by assumption⟩
  ·cases h
theorem next_lt {T : Tab} (h : TabOK T) {i k : Nat} (hi : i < T.l.length) (hk : k < (zAD T.r (T.l.getD i z7)).length) : k < (T.nx.getD i []).length ∧ (T.nx.getD i []).getD k 0 < T.l.length := by
 have := h.G.nxl i hi
 exact ⟨by omega, (h.G.nxt i hi k hk).1⟩
theorem zNK (x y : Ent) : (decide (x.1 = y.1) && (decide (x.2 = y.2) && true)) = decide (x = y) := by
 by_cases h : x = y
 ·subst h; simp
 ·rw [decide_eq_false h]
  by_cases h1 : x.1 = y.1
  ·rw [decide_eq_true h1, decide_eq_false (fun q => h (Prod.ext h1 q))]; rfl
  ·rw [decide_eq_false h1]; rfl
/-- (*retro.Table).Best -/
theorem best_ok (T : Tab) (h : TabOK T) (hr : Lens T.r) (p : Pos) (hp : LenP p) : zl Tryz.prog 26 [zEQ T, poA p] (.tup [zBC (zDH T p), .int .i64 (zFY T p)]) := by
 refine zd.value0 (zN (P := Tryz.prog) (fn := Tryz.f26) J J (by kernel_rfl) J (fun c hR hfix => ?_)) (fix := fun _ => False) (fun _ h => h) J J
 have hEl := h.len
 have hmost := h.G.most
 refine zY ?_
 repeat (first | refine zA (zO rfl) ?_ | refine zC ?_ | refine zB ?_ | refine zJ rfl ?_ | refine zAO rfl rfl ?_)
 refine zB0 3 [(0, zEQ T)] J ⟨J, J, trivial⟩ ⟨J, trivial⟩ J hfix ?_
 refine rn6 ?_
 refine zP J J J (find_ok T h hr p hp) ?_
 refine rn3 ?_
 refine zF J (fun q => ?_) (fun q => ?_)
 ·have q : zDZ T p ≠ 0 := q
  have e : zFY T p = zDZ T p := by unfold zFY; rw [if_pos q]
  have e2 : zDH T p = [] := by unfold zDH; rw [e, if_pos q]
  rw [e, e2] at hR
  refine rn7 ?_
  refine zBB 4 (zBC []) J AEq.nil ?_
  refine rn2 ?_
  exact zL hR J J
 have q2 : zDZ T p = 0 := Classical.not_not.1 q
 obtain ⟨hz, hi⟩ := zNL q2
 have eb : zFY T p = if (zEG T p).length = 0 then 14 else 0 := by unfold zFY; rw [if_neg q]
 have ebl : zFY T p = 0 → zDH T p = zCN T (zBH T.l p) (zEG T p) (zEG T p).length := fun e => by unfold zDH; rw [if_neg (fun c => c e)]; rfl
 rw [if_neg q]
 have hmt : zEG T p = zAD T.r (T.l.getD (zBH T.l p) z7) := rfl
 have S := (h.sound hi).1
 have hml := zD1 h.v S
 have hnx := fun k => next_lt h (k := k) hi
 have hpl := h.plies hi
 have hpu := h.plies_le hi
 have hnlen : T.nx.length = T.l.length := h.G.len
 rw [← hmt] at hml
 simp only [← hmt] at hnx
 have cm := zEW T.r h.v (T.l.getD (zBH T.l p) z7) S
 rw [← hmt] at cm
 generalize hix : zBH T.l p = ix at hi hml hnx hpl hpu ebl cm
 generalize hms : zEG T p = ms at hml hnx eb ebl cm
 refine rn1 ?_
 refine ze (by kernel_rfl) ?_
 refine zm (fuel := 0) [0, 1, 2, 3, 4, 5, 6, 7, 8, 9, 10, 11, 12] [(0, zEQ T), (6, iN ix)] ⟨J, J, trivial⟩ (by kernel_rfl) (by decide) J J ?_
 refine zI J J (zG J) ?_
 refine zI J J (zAV J) ?_
 refine zI J J (zK J J J J J J) ?_
 refine zI J J (zCi J J J J J J) ?_
 refine zI J J (zG J) ?_
 refine zI J J (zAV J) ?_
 refine zI J J (zK J J J J J J) ?_
 refine zI J J (zD J J J J) ?_
 refine zI J J (zG J) ?_
 refine zI J J (zh J J J J (by first | (simp only [Nat.zero_add, Int.toNat_natCast, Int.toNat_zero]; exact J) | exact J) (by omega)) ?_
 refine zI J J (zf J J J J J J) ?_
 refine zCL J J J J J cm ?_
 refine zI J J (zO J) ?_
 refine zu ?_
 refine zW (by kernel_rfl) ?_
 refine rn4 ?_
 refine zF J (fun z => ?_) (fun z => ?_)
 ·rw [if_pos (by omega)] at eb
  have e2 : zDH T p = [] := by unfold zDH; rw [eb, if_pos (by decide)]
  rw [eb, e2] at hR
  refine rn7 ?_
  refine zBB 4 (zBC []) J AEq.nil ?_
  refine rn2 ?_
  exact zL hR J J
 rw [if_neg (by omega)] at eb
 have ebl := ebl eb
 rw [eb, ebl] at hR
 repeat (first | refine zA (zG rfl) ?_ | refine zB ?_ | refine zY ?_ | refine zJ rfl ?_ | refine zAQ ?_ | refine zA (zh rfl rfl rfl rfl (by first | (simp only [Nat.zero_add, Int.toNat_natCast, Int.toNat_zero]; exact rfl) | exact rfl) (by omega)) ?_ | refine zA (zD rfl rfl rfl rfl) ?_ | refine zA (zAV rfl) ?_ | refine zA (zK rfl rfl rfl rfl rfl rfl) ?_ | refine zA (zf rfl rfl rfl rfl rfl rfl) ?_ | refine zAK rfl rfl rfl ?_)
 refine zb (zCu (zBi T ix)) J J J J J J J ?_
 repeat (first | refine zC ?_ | refine zB ?_ | refine zY ?_ | refine zJ rfl ?_ | refine zA (zU rfl rfl rfl rfl rfl) ?_ | refine zA (zBl rfl rfl) ?_ | refine zA (zM rfl rfl rfl rfl rfl rfl) ?_)
 apply zAJ (H := [some ⟨37, .box (zCu (zER (zBi T ix)))⟩]) [(0, zEQ T), (6, iN ix), (8, zBC ms), (9, .ptr 0 0 0)]
 ·intro fin
  refine zF J (fun d => ?_) (fun d => ?_)
  ·have d : (zBi T ix).1 ≠ 3 := d
   have ew : zER (zBi T ix) = ((zBi T ix).1, (zBi T ix).2 - 1) := by unfold zER; rw [if_pos d]
   rw [ew] at fin
   repeat (first | refine zC ?_ | refine zB ?_ | refine zJ rfl ?_ | refine zA (zU rfl rfl rfl rfl rfl) ?_ | refine zA (zBL rfl rfl (by omega)) ?_ | refine zA (zM rfl rfl rfl rfl rfl rfl) ?_ | refine zAF rfl rfl rfl rfl rfl rfl rfl Nat.zero_lt_one ?_)
   exact fin _ ⟨J, J, J, J, trivial⟩
  ·have d : ¬ (zBi T ix).1 ≠ 3 := d
   have ew : zER (zBi T ix) = zBi T ix := by unfold zER; rw [if_neg d]
   rw [ew] at fin
   refine zFt ?_
   exact fin _ ⟨J, J, J, J, trivial⟩
 refine zB0 9 [(0, zEQ T), (6, iN ix), (8, zBC ms)] J ⟨J, J, J, J, trivial⟩ ⟨J, J, J, trivial⟩ J hfix ?_
 repeat (refine zY ?_)
 refine zJ J ?_
 refine zBA ?_
 refine zBq 10 ⟨58, zAy []⟩ J J ?_
 refine rn3 ?_
 refine z8 (ι := Nat) (fun k => [(0, zEQ T), (6, iN ix), (8, zBC ms), (9, .rp (.box (zCu (zER (zBi T ix)))) 0 0), (10, .sl 0 0 (zCN T ix ms k).length), (51, zBC ms), (52, iN ms.length), (53, iN k)]) (fun k => [some ⟨58, zAy (zCN T ix ms k)⟩]) (fun k => k ≤ ms.length) (fun k => ms.length - k) 0 ⟨⟨J, J, J, J, J, J, J, J, trivial⟩, J, Nat.zero_le _⟩ ?_
 intro k hk
 have hbl := zIc T ix ms k
 refine rn4 ?_
 refine zF J (fun g => ?_) (fun g => ?_)
 ·have hk' : k < ms.length := by omega
  obtain ⟨n1, n2⟩ := hnx k hk'
  have hbs := zLJ T ix ms k
  have hgi : ((T.nx.getD ix []).map Int.ofNat).getD k 0 = (((T.nx.getD ix []).getD k 0 : Nat) : Int) := mapI_get _ _
  have hgl : ((T.nx.getD ix []).map Int.ofNat).length = (T.nx.getD ix []).length := List.length_map ..
  generalize hj : (T.nx.getD ix []).getD k 0 = j at n2 hgi hbs
  generalize hmk : ms.getD k mv0 = m at hbs
  refine zFu ?_
  refine rn4 ?_
  refine zb (mvC m) J J J J J (by rw [← hmk]; rfl) J ?_
  refine rn0 ?_
  refine zCa [some ⟨58, zAy (zCN T ix ms k)⟩] 12 [(0, zEQ T), (6, iN ix), (8, zBC ms), (9, .rp (.box (zCu (zER (zBi T ix)))) 0 0), (10, .sl 0 0 (zCN T ix ms k).length), (51, zBC ms), (52, iN ms.length), (53, iN k), (11, iN k)] J J ⟨J, J, J, J, J, J, J, J, J, trivial⟩ ⟨J, J, J, J, J, J, J, J, J, J, trivial⟩ (zBo (zGH _) zBK) J (fun h q => by rw [hfix] at q; exact q.elim) ?_
  refine ze (by kernel_rfl) ?_
  refine zm (fuel := 0) [0, 1, 2, 3, 4, 5, 6, 7, 8, 9, 10, 11, 12, 13, 14, 15, 16, 17] [(12, .rp (.box (mvC m)) 0 0), (0, zEQ T), (6, iN ix), (8, zBC ms), (9, .rp (.box (zCu (zER (zBi T ix)))) 0 0), (10, .sl 0 0 (zCN T ix ms k).length), (51, zBC ms), (52, iN ms.length), (53, iN k), (11, iN k)] ⟨J, J, J, J, J, J, J, J, J, J, trivial⟩ (by kernel_rfl) (by decide) J J ?_
  refine zI J J (zG J) ?_
  refine zI J J (zAV J) ?_
  refine zI J J (zK J J J J J J) ?_
  refine zI J J (zD J J J J) ?_
  refine zI J J (zG J) ?_
  refine zI J J (zAV J) ?_
  refine zI J J (zK J J J J J J) ?_
  refine zI J J (zD J J J J) ?_
  refine zI J J (zG J) ?_
  refine zI J J (zh J J J J (by first | (simp only [Nat.zero_add, Int.toNat_natCast, Int.toNat_zero]; exact J) | exact J) (by omega)) ?_
  refine zI J J (zAm J J J J) ?_
  refine zI J J (zG J) ?_
  refine zI J J (zh J J J J (by first | (simp only [Nat.zero_add, Int.toNat_natCast, Int.toNat_zero]; exact J) | exact J) (by omega)) ?_
  refine zI J J (zBZ J J J) ?_
  rw [hgi]
  refine zI J J (zh J J J J (by first | (simp only [Nat.zero_add, Int.toNat_natCast, Int.toNat_zero]; exact J) | exact J) (by omega)) ?_
  refine zI J J (zf J J J J J J) ?_
  refine zI J J (zf J J J J J J) ?_
  refine zI J J (zEM J J J (by kernel_rfl) (by kernel_rfl) (by kernel_rfl) J) ?_
  refine zu ?_
  refine zW (by kernel_rfl) ?_
  repeat (refine zB ?_)
  refine zAP (b := decide (zBi T j = zER (zBi T ix))) (by rw [← zNK]; rfl) (fun g2 => ?_) (fun g2 => ?_)
  ·have g2 := of_decide_eq_true g2
   rw [if_pos g2] at hbs
   have hnl : (zCN T ix ms (k + 1)).length = (zCN T ix ms k).length + 1 := by rw [hbs, List.length_append]; rfl
   refine rn6 ?_
   refine zBV [m] J J J J J J J J J J J J J (by show 0 + 1 ≤ 1; omega) (fun k' j' hk' hj' => ?_) (by show ((zCN T ix ms k).length + 1) * 24 ≤ _ ∧ _; omega) zGg (by rw [hfix]; exact fun h => h) ?_
   ·obtain rfl : k' = 0 := Nat.lt_one_iff.1 hk'
    match j', hj' with
    | 0, _ => rfl
    | 1, _ => rfl
    | 2, _ => rfl
   refine rn5 ?_
   refine zR ⟨k + 1, by omega, by omega, ⟨J, J, J, J, ?_, J, J, J, trivial⟩, ?_⟩
   ·rw [hnl]; rfl
   ·rw [hbs]; rfl
  ·have g2 := of_decide_eq_false g2
   rw [if_neg g2] at hbs
   refine rn5 ?_
   refine zR ⟨k + 1, by omega, by omega, ⟨J, J, J, J, ?_, J, J, J, trivial⟩, ?_⟩
   ·rw [hbs]; rfl
   ·rw [hbs]
 ·have hk' : k = ms.length := by omega
  subst hk'
  refine zBA ?_
  refine zC6 0 10 (zCN T ix ms ms.length).length [] J (zAZ zDO) J (Nat.le_refl _) trivial ?_
  refine rn0 ?_
  exact zL hR J J
def isM (m x : Mv) : Bool := decide (x = m)
theorem indexMv (l : List Mv) (m : Mv) (hlen : l.length ≤ 1000000) : zl Tryz.prog 72 [zBC l, mvA m] (.int .i64 (zDN (isM m) l)) := by
 refine zd.value0 (zN (P := Tryz.prog) (fn := Tryz.f72) J J (by kernel_rfl) J (fun c hR hfix => ?_)) (fix := fun _ => False) (fun _ h => h) J J
 refine zY ?_
 repeat (first | refine zA (zO rfl) ?_ | refine zC ?_ | refine zB ?_ | refine zJ rfl ?_ | refine zAO rfl rfl ?_)
 refine zB0 3 [(0, zBC l)] J ⟨J, J, trivial⟩ ⟨J, trivial⟩ J hfix ?_
 refine rn3 ?_
 refine z8 (ι := Nat) (fun k => [(0, zBC l), (3, .rp (.box (mvC m)) 0 0), (7, iN l.length), (8, iN k)]) (fun _ => [])
  (fun k => k ≤ l.length ∧ (l.take k).any (isM m) = false) (fun k => l.length - k) 0 ⟨⟨rfl, rfl, rfl, rfl, trivial⟩, rfl, Nat.zero_le _, rfl⟩ ?_
 intro k ⟨hk, hany⟩
 refine rn4 ?_
 refine zF J (fun h => ?_) (fun h => ?_)
 ·have hk' : k < l.length := by omega
  have hanys := zBn (isM m) l mv0 k hk'
  refine rn1 ?_
  refine ze (by kernel_rfl) ?_
  refine zm (fuel := 0) [0, 1, 2, 3, 4, 5] [(0, zBC l), (3, .rp (.box (mvC m)) 0 0), (7, iN l.length), (8, iN k), (5, iN k)] ⟨J, J, J, J, J, trivial⟩ (by kernel_rfl) (by decide) J J ?_
  refine zI J J (zf J J J J J J) ?_
  refine zI J J (zG J) ?_
  refine zI J J (zG J) ?_
  refine zI J J (zh J J J J (by first | (simp only [Nat.zero_add, Int.toNat_natCast, Int.toNat_zero]; exact J) | exact J) (by omega)) ?_
  refine zI J J (zf J J J J J J) ?_
  refine zI J J (zEM J J J (by kernel_rfl) (by kernel_rfl) (by kernel_rfl) J) ?_
  refine zu ?_
  refine zW (by kernel_rfl) ?_
  repeat (refine zB ?_)
  refine zAP (b := isM m (l.getD k mv0)) (by unfold isM; rw [← eqMv]; rfl) (fun h2 => ?_) (fun h2 => ?_)
  ·refine rn6 ?_
   refine zL hR J ?_
   have := zBf (isM m) l k hany hk
   rw [zD0 l mv0 k hk'] at this
   simp only [zDN, h2, if_true] at this
   rw [this]; simp [zDE]
  ·refine rn5 ?_
   refine zR ⟨k + 1, ⟨by omega, by rw [hanys, hany, h2]; rfl⟩, by omega, ⟨J, J, J, J, trivial⟩, J⟩
 ·have hk' : k = l.length := by omega
  subst hk'
  refine rn5 ?_
  refine zL hR J ?_
  have := zBf (isM m) l l.length hany hk
  rw [List.drop_length] at this
  rw [this]; rfl
theorem zNf (l : List Mv) (m : Mv) (hlen : l.length ≤ 1000000) : zl Tryz.prog 40 [zBC l, mvA m] (.bool (l.any (isM m))) := by
 refine zd.value0 (zN (P := Tryz.prog) (fn := Tryz.f40) J J (by kernel_rfl) J (fun c hR hfix => ?_)) (fix := fun _ => False) (fun _ h => h) J J
 refine rn6 ?_
 refine zP J J J (indexMv l m hlen) ?_
 refine rn8 ?_
 refine zL hR J ?_
 simp only [zDE, zHD]
theorem any_isM {l : List Mv} {m : Mv} : l.any (isM m) = decide (m ∈ l) := by
 by_cases h : m ∈ l
 ·rw [decide_eq_true h, List.any_eq_true]; exact ⟨m, h, decide_eq_true rfl⟩
 ·rw [decide_eq_false h, ← Bool.not_eq_true, List.any_eq_true]
  rintro ⟨x, hx, e⟩
  exact h (by rw [← of_decide_eq_true e]; exact hx)
theorem equalMv (a b : List Mv) (hlen : a.length ≤ 1000000) (hlb : b.length ≤ 1000000) : zl Tryz.prog 27 [zBC a, zBC b] (.bool (decide (a = b))) := by
 refine zd.value0 (zN (P := Tryz.prog) (fn := Tryz.f27) J J (by kernel_rfl) J (fun c hR hfix => ?_)) (fix := fun _ => False) (fun _ h => h) J J
 refine rn3 ?_
 refine zF J (fun h => ?_) (fun h => ?_)
 ·refine rn2 ?_
  refine zL hR J ?_
  have : ¬ a = b := by rintro rfl; exact h rfl
  simp [zDE, this]
 have hab : a.length = b.length := by omega
 refine rn3 ?_
 refine z8 (ι := Nat) (fun k => [(0, zBC a), (1, zBC b), (12, iN a.length), (13, iN k)]) (fun _ => [])
  (fun k => k ≤ a.length ∧ a.take k = b.take k) (fun k => a.length - k) 0 ⟨⟨rfl, rfl, rfl, rfl, trivial⟩, rfl, Nat.zero_le _, rfl⟩ ?_
 intro k ⟨hk, heq⟩
 refine rn4 ?_
 refine zF J (fun h2 => ?_) (fun h2 => ?_)
 ·have hk' : k < a.length := by omega
  have ha := zz a mv0 k hk'
  have hb := zz b mv0 k (by omega)
  refine rn1 ?_
  refine ze (by kernel_rfl) ?_
  refine zm (fuel := 0) [0, 1, 2, 3, 4, 5, 6, 7, 8] [(0, zBC a), (1, zBC b), (12, iN a.length), (13, iN k), (5, iN k)] ⟨J, J, J, J, J, trivial⟩ (by kernel_rfl) (by decide) J J ?_
  refine zI J J (zG J) ?_
  refine zI J J (zG J) ?_
  refine zI J J (zh J J J J (by first | (simp only [Nat.zero_add, Int.toNat_natCast, Int.toNat_zero]; exact J) | exact J) (by omega)) ?_
  refine zI J J (zf J J J J J J) ?_
  refine zI J J (zG J) ?_
  refine zI J J (zG J) ?_
  refine zI J J (zh J J J J (by first | (simp only [Nat.zero_add, Int.toNat_natCast, Int.toNat_zero]; exact J) | exact J) (by omega)) ?_
  refine zI J J (zf J J J J J J) ?_
  refine zI J J (zFs J J J (by kernel_rfl) (by kernel_rfl) (by kernel_rfl) J) ?_
  refine zu ?_
  refine zW (by kernel_rfl) ?_
  repeat (refine zB ?_)
  refine zAP (b := !(decide (b.getD k mv0 = a.getD k mv0))) (by rw [← eqMv]; rfl) (fun h3 => ?_) (fun h3 => ?_)
  ·refine rn6 ?_
   refine zL hR J ?_
   rw [Bool.not_eq_true', decide_eq_false_iff_not] at h3
   have : ¬ a = b := by rintro rfl; exact h3 rfl
   simp [zDE, this]
  ·rw [Bool.not_eq_false', decide_eq_true_eq] at h3
   refine rn5 ?_
   exact zR ⟨k + 1, ⟨by omega, by rw [ha, hb, heq, h3]⟩, by omega, ⟨J, J, J, J, trivial⟩, J⟩
 ·have hk' : k = a.length := by omega
  subst hk'
  rw [List.take_length, hab, List.take_length] at heq
  refine rn5 ?_
  refine zL hR J ?_
  simp [zDE, heq]
def whW (r : Go.Ax.Gm.Rules) : Int := IntKind.i64.wrap (r.w * r.h)
theorem newA_no {r : Go.Ax.Gm.Rules} (h : zDx r ≠ 0) : zFl r = .nilp := by unfold zFl; rw [if_pos h]
theorem newA_yes {r : Go.Ax.Gm.Rules} {x : List Pos × List (List Nat)} (h : zDx r = 0) (g : zFG r = some x) : zFl r = zEQ (zFP r x) := by unfold zFl; rw [if_neg (fun c => c h), g]
def zFi (r : Go.Ax.Gm.Rules) : Nat → Pos → Nat
 | 0, _ => 1
 | d + 1, p => ((zAD r p).map (fun m => zFi r d (zZ r p m))).sum
theorem zL8 {α : Type} (f : α → Nat) (z : α) (l : List α) {k : Nat} (h : k < l.length) : ((l.take (k + 1)).map f).sum = ((l.take k).map f).sum + f (l.getD k z) := by
 rw [zz l z k h, List.map_append, List.sum_append]; simp
theorem zII {α : Type} (f : α → Nat) (l : List α) (k : Nat) : ((l.take k).map f).sum ≤ (l.map f).sum := by
 conv => rhs; rw [← List.take_append_drop k l]
 rw [List.map_append, List.sum_append]; omega
abbrev ctrO (r : Go.Ax.Gm.Rules) (a b : Int) : Option AObj := some ⟨169, .box [.str r.name, .int .i64 r.w, .int .i64 r.h, .ro (zAi r.pcs) 0 r.pcs.length, z6 r.start, .bool r.falls, .bool r.keeps, .ro (zE8 r.ends) 0 r.ends.length, .int .i64 r.blocked, .int .i64 r.quiet, .int .i64 r.rep, .int .i64 a, .int .i64 b]⟩
def WalkK (r : Go.Ax.Gm.Rules) (a b : Int) (c l : Nat) (v : AV) (H : zQ) : Prop :=
 v = .bool (decide (a + (c : Nat) ≤ 50000)) ∧ ∃ a' b', H = [ctrO r a' b'] ∧ 0 ≤ b' ∧ b' ≤ a' ∧ (a + (c : Nat) ≤ 50000 → a' = a + (c : Nat) ∧ b' = b + (l : Nat))
/-- perft's walk -/
theorem walk_ok (r : Go.Ax.Gm.Rules) (hv : ValidR r) : ∀ (d : Nat) (p : Pos) (S : Sound r p) (a b : Int) (hb : 0 ≤ b ∧ b ≤ a ∧ a ≤ 50000) (hd : d ≤ 12),
 zd Tryz.prog 123 [.ptr 0 0 0, poA p, iN d] [ctrO r a b] (fun h => h < 1) (WalkK r a b (zD7 r d p) (zFi r d p)) := by
 intro d
 induction d with
 | zero =>
  intro p S a b hb hd
  refine zN (P := Tryz.prog) (fn := Tryz.f123) J J (by kernel_rfl) J (fun c hR hfix => ?_)
  have hc : zD7 r 0 p = 1 := rfl
  have hl : zFi r 0 p = 1 := rfl
  rw [hc, hl] at hR
  refine zY ?_
  repeat (first | refine zA (zO rfl) ?_ | refine zC ?_ | refine zB ?_ | refine zJ rfl ?_ | refine zAO rfl rfl ?_)
  refine zCa [ctrO r a b] 4 [(0, .ptr 0 0 0), (2, .int .i64 ((0 : Nat) : Int))] J J ⟨J, J, trivial⟩ ⟨J, J, J, trivial⟩ (zBo (zGP J) zBK) J (fun h q => by rw [hfix] at q; exact q) ?_
  repeat (first | refine zA (zG rfl) ?_ | refine zC ?_ | refine zB ?_ | refine zY ?_ | refine zJ rfl ?_ | refine zA (zU rfl rfl rfl rfl rfl) ?_ | refine zA (zCY rfl rfl) ?_ | refine zA (zAw rfl rfl (by omega)) ?_ | refine zA (zT rfl) ?_ | refine zA (zM rfl rfl rfl rfl rfl rfl) ?_ | refine zAF rfl rfl rfl rfl rfl rfl rfl Nat.zero_lt_one ?_)
  refine zF J (fun q => ?_) (fun q => ?_)
  ·refine rn2 ?_
   refine zL hR J ⟨?_, a + 1, b, J, hb.1, by omega, fun c => absurd c (by omega)⟩
   rw [decide_eq_false (by omega)]; rfl
  ·repeat (first | refine zA (zG rfl) ?_ | refine zA (zO rfl) ?_ | refine zC ?_ | refine zB ?_ | refine zY ?_ | refine zJ rfl ?_ | refine zAg rfl ?_ | refine zAQ ?_ | refine zAA ?_ | refine zA6 ?_ | refine zA (zU rfl rfl rfl rfl rfl) ?_ | refine zA (zBR rfl rfl) ?_ | refine zA (zAw rfl rfl (by omega)) ?_ | refine zA (zT rfl) ?_ | refine zA (zM rfl rfl rfl rfl rfl rfl) ?_ | refine zAF rfl rfl rfl rfl rfl rfl rfl Nat.zero_lt_one ?_)
   refine zL hR J ⟨?_, a + 1, b + 1, J, by omega, by omega, fun c => ⟨J, J⟩⟩
   rw [decide_eq_true (by omega)]; rfl
 | succ d ih =>
  intro p S a b hb hd
  refine zN (P := Tryz.prog) (fn := Tryz.f123) J J (by kernel_rfl) J (fun c hR hfix => ?_)
  have hml := zD1 hv S
  have hok : ∀ m ∈ zAD r p, MvOK r p m ∧ Sound r (zZ r p m) := fun m hm => ⟨zFk hv S hm, zFF hv S (zFk hv S hm)⟩
  have hc : zD7 r (d + 1) p = 1 + ((zAD r p).map (fun m => zD7 r d (zZ r p m))).sum := rfl
  have hl : zFi r (d + 1) p = ((zAD r p).map (fun m => zFi r d (zZ r p m))).sum := rfl
  have cm := zEW r hv p S
  generalize hM : zAD r p = ms at *
  rw [hc, hl] at hR
  have e1 : ((d + 1 : Nat) : Int) - 1 = (d : Nat) := by omega
  refine zY ?_
  repeat (first | refine zA (zO rfl) ?_ | refine zC ?_ | refine zB ?_ | refine zJ rfl ?_ | refine zAO rfl rfl ?_)
  refine zCa [ctrO r a b] 4 [(0, .ptr 0 0 0), (2, .int .i64 ((d + 1 : Nat) : Int))] J J ⟨J, J, trivial⟩ ⟨J, J, J, trivial⟩ (zBo (zGP J) zBK) J (fun h q => by rw [hfix] at q; exact q) ?_
  repeat (first | refine zA (zG rfl) ?_ | refine zC ?_ | refine zB ?_ | refine zY ?_ | refine zJ rfl ?_ | refine zA (zU rfl rfl rfl rfl rfl) ?_ | refine zA (zCY rfl rfl) ?_ | refine zA (zAw rfl rfl (by omega)) ?_ | refine zA (zT rfl) ?_ | refine zA (zM rfl rfl rfl rfl rfl rfl) ?_ | refine zAF rfl rfl rfl rfl rfl rfl rfl Nat.zero_lt_one ?_)
  refine zF J (fun q => ?_) (fun q => ?_)
  ·refine rn2 ?_
   refine zL hR J ⟨?_, a + 1, b, J, hb.1, by omega, fun c => absurd c (by omega)⟩
   rw [decide_eq_false (by omega)]; rfl
  refine rn4 ?_
  refine ze (by kernel_rfl) ?_
  refine zm (fuel := 0) [0, 1, 2, 3, 4, 5, 6, 7] [(4, .rp (.box (poC p)) 0 0), (0, .ptr 0 0 0), (2, .int .i64 ((d + 1 : Nat) : Int))] ⟨J, J, J, trivial⟩ (by kernel_rfl) (by decide) J J ?_
  refine zI J J (zG J) ?_
  refine zI J J (zT J) ?_
  refine zI J J (zM J J J J J J) ?_
  refine zI J J (qpp J J J J J J J) ?_
  refine zI J J (zf J J J J J J) ?_
  refine zCL J J J J J cm ?_
  refine zI J J (zAx J J J) ?_
  refine zI J J (zG J) ?_
  refine zu ?_
  refine zW (by kernel_rfl) ?_
  refine rn1 ?_
  refine z8 (ι := Nat × Int × Int) (fun x => [(4, .rp (.box (poC p)) 0 0), (0, .ptr 0 0 0), (2, .int .i64 ((d + 1 : Nat) : Int)), (35, zBC ms), (36, iN ms.length), (37, iN x.1)]) (fun x => [ctrO r x.2.1 x.2.2]) (fun x => x.1 ≤ ms.length ∧ x.2.1 = a + 1 + ((((ms.take x.1).map (fun m => zD7 r d (zZ r p m))).sum : Nat) : Int) ∧ x.2.2 = b + ((((ms.take x.1).map (fun m => zFi r d (zZ r p m))).sum : Nat) : Int) ∧ x.2.1 ≤ 50000 ∧ 0 ≤ x.2.2 ∧ x.2.2 ≤ x.2.1) (fun x => ms.length - x.1) (0, a + 1, b) ⟨⟨J, J, J, J, J, J, trivial⟩, J, Nat.zero_le _, ?_, ?_, by show a + 1 ≤ 50000; omega, hb.1, by show b ≤ a + 1; omega⟩ ?_
  ·show a + 1 = a + 1 + ((0 : Nat) : Int); omega
  ·show b = b + ((0 : Nat) : Int); omega
  rintro ⟨k, n, l⟩ ⟨i1, i2, i3, i4, i5, i6⟩
  have i1 : k ≤ ms.length := i1
  have i2 : n = a + 1 + ((((ms.take k).map (fun m => zD7 r d (zZ r p m))).sum : Nat) : Int) := i2
  have i3 : l = b + ((((ms.take k).map (fun m => zFi r d (zZ r p m))).sum : Nat) : Int) := i3
  have i4 : n ≤ 50000 := i4
  have i5 : 0 ≤ l := i5
  have i6 : l ≤ n := i6
  change Ax _ _ _ _ [(4, .rp (.box (poC p)) 0 0), (0, .ptr 0 0 0), (2, .int .i64 ((d + 1 : Nat) : Int)), (35, zBC ms), (36, iN ms.length), (37, iN k)] [ctrO r n l]
  refine rn4 ?_
  refine zF J (fun g => ?_) (fun g => ?_)
  ·have hk' : k < ms.length := by omega
   have hs1 := zL8 (fun m => zD7 r d (zZ r p m)) mv0 ms hk'
   have hs2 := zL8 (fun m => zFi r d (zZ r p m)) mv0 ms hk'
   have hs3 := zII (fun m => zD7 r d (zZ r p m)) ms (k + 1)
   have hmm := hok _ (zAN mv0 hk')
   obtain ⟨m, hm⟩ : ∃ m, ms.getD k mv0 = m := ⟨_, rfl⟩
   rw [hm] at hs1 hs2 hmm
   have cw := ih (zZ r p m) hmm.2 n l ⟨i5, i6, i4⟩ (by omega)
   generalize hcm : zD7 r d (zZ r p m) = cm at hs1 cw
   generalize hlm : zFi r d (zZ r p m) = lm at hs2 cw
   refine zFu ?_
   repeat (refine zAK rfl rfl rfl ?_)
   refine zb (mvC m) J J J J J (by rw [← hm]; rfl) J ?_
   refine rn0 ?_
   refine zCa [ctrO r n l] 8 [(4, .rp (.box (poC p)) 0 0), (0, .ptr 0 0 0), (2, .int .i64 ((d + 1 : Nat) : Int)), (35, zBC ms), (36, iN ms.length), (37, iN k)] J J ⟨J, J, J, J, J, J, trivial⟩ ⟨J, J, J, J, J, J, J, trivial⟩ (zBo (zGP J) zBK) J (fun h q => by rw [hfix] at q; exact q) ?_
   refine ze (by kernel_rfl) ?_
   refine zm (fuel := 2) [0, 1, 2, 3, 4, 5, 6, 7, 8, 9] [(8, .rp (.box (mvC m)) 0 0), (4, .rp (.box (poC p)) 0 0), (0, .ptr 0 0 0), (2, .int .i64 ((d + 1 : Nat) : Int)), (35, zBC ms), (36, iN ms.length), (37, iN k)] ⟨J, J, J, J, J, J, J, trivial⟩ (by kernel_rfl) (by decide) J J ?_
   refine zI J J (zG J) ?_
   refine zI J J (zG J) ?_
   refine zI J J (zT J) ?_
   refine zI J J (zM J J J J J J) ?_
   refine zI J J (qpp J J J J J J J) ?_
   refine zI J J (zf J J J J J J) ?_
   refine zI J J (zf J J J J J J) ?_
   refine zCL J J J J J (zDw r hv p S m hmm.1) ?_
   refine zI J J (zG J) ?_
   refine zI J J (zBL J J (by omega)) ?_
   rw [e1]
   refine zu ?_
   refine zH (is := [10]) (by kernel_rfl) (by simp) J ⟨fun o ho => ?_, trivial⟩
   all_goals (cases ho)
   refine zCA J J J cw (fun h q => q) (fun h q => q) ?_
   rintro v H ⟨rfl, a', b', rfl, j1, j2, j3⟩
   refine rn1 ?_
   refine zH (is := [11]) (by kernel_rfl) (by simp) J ⟨fun o ho => ?_, trivial⟩
   all_goals (cases ho)
   refine rn5 ?_
   refine zW (by kernel_rfl) ?_
   by_cases hf : n + (cm : Nat) ≤ 50000
   ·rw [decide_eq_true hf]
    obtain ⟨j4, j5⟩ := j3 hf
    refine rn5 ?_
    refine zR ⟨(k + 1, a', b'), ⟨by show k + 1 ≤ ms.length; omega, ?_, ?_, by show a' ≤ 50000; omega, j1, j2⟩, by show ms.length - (k + 1) < ms.length - k; omega, ⟨J, J, J, J, J, J, trivial⟩, J⟩
    ·show a' = a + 1 + ((((ms.take (k + 1)).map (fun m => zD7 r d (zZ r p m))).sum : Nat) : Int)
     rw [hs1]; omega
    ·show b' = b + ((((ms.take (k + 1)).map (fun m => zFi r d (zZ r p m))).sum : Nat) : Int)
     rw [hs2]; omega
   ·rw [decide_eq_false hf]
    refine rn6 ?_
    refine zL hR J ⟨?_, a', b', J, j1, j2, fun c => absurd c (by omega)⟩
    rw [decide_eq_false (by omega)]; rfl
  ·have hk' : k = ms.length := by omega
   subst hk'
   rw [List.take_length] at i2 i3
   refine rn5 ?_
   refine zL hR J ⟨?_, n, l, J, i5, i6, fun c => ⟨by omega, i3⟩⟩
   rw [decide_eq_true (by omega)]; rfl
/-- perft.Check -/
theorem zN7 (r : Go.Ax.Gm.Rules) (hr : Lens r) (p : Pos) (hp : LenP p) (d : Int) : ∃ x y, zl Tryz.prog 105 [ruA r, poA p, .int .i64 d] (.tup [.int .i64 x, .int .i64 y, .int .i64 (zDm r p d)]) := by
 by_cases h1 : zAp r p = 0
 ·obtain ⟨hz, S⟩ := zCw h1
  have hv := zAu hz
  have cc := zCG r hr p hp
  rw [h1] at cc
  by_cases h2 : d < 0 ∨ 12 < d
  ·have e : zDm r p d = 1 := by unfold zDm; rw [if_neg (fun c => c h1), if_pos h2]
   refine ⟨0, 0, ?_⟩
   rw [e]
   refine zd.value0 (zN (P := Tryz.prog) (fn := Tryz.f105) J J (by kernel_rfl) J (fun c hR hfix => ?_)) (fix := fun _ => False) (fun _ h => h) J J
   refine rn6 ?_
   refine zP J J J cc ?_
   refine rn4 ?_
   refine zo J J (fun q => ?_) (fun q => ?_)
   ·refine rn6 ?_
    exact zL hR J J
   ·refine rn6 ?_
    refine zF J (fun q2 => ?_) (fun q2 => ?_)
    ·refine rn2 ?_
     exact zL hR J J
    ·exact absurd h2 (by omega)
  obtain ⟨n, rfl⟩ : ∃ n : Nat, d = (n : Int) := ⟨d.toNat, by omega⟩
  have hn : n ≤ 12 := by omega
  have cw := walk_ok r hv n p S 0 0 ⟨Int.le_refl _, Int.le_refl _, by decide⟩ hn
  have e : zDm r p (n : Int) = if 50000 < zD7 r n p then 17 else 0 := by unfold zDm; rw [if_neg (fun c => c h1), if_neg h2, Int.toNat_natCast]
  by_cases h3 : 50000 < zD7 r n p
  ·rw [if_pos h3] at e
   refine ⟨0, 0, ?_⟩
   rw [e]
   refine zd.value0 (zN (P := Tryz.prog) (fn := Tryz.f105) J J (by kernel_rfl) J (fun c hR hfix => ?_)) (fix := fun _ => False) (fun _ h => h) J J
   refine zY ?_
   repeat (first | refine zA (zO rfl) ?_ | refine zC ?_ | refine zB ?_ | refine zJ rfl ?_ | refine zAO rfl rfl ?_)
   refine zCn 3 4 [(2, iN n)] J J J J ⟨J, trivial⟩ ⟨J, J, J, trivial⟩ J hfix ?_
   refine rn6 ?_
   refine zP J J J cc ?_
   refine rn6 ?_
   refine zF J (fun q => ?_) (fun q => ?_)
   ·exact absurd q (by omega)
   refine rn20 ?_
   refine zJ J ?_
   repeat (first | refine zA (zO rfl) ?_ | refine zC ?_ | refine zB ?_ | refine zY ?_ | refine zA (zCW rfl rfl rfl rfl rfl rfl) ?_ | refine zA (zf rfl rfl rfl rfl rfl rfl) ?_ | refine zAO rfl rfl ?_)
   refine zAS [ctrO r 0 0] J ?_
   refine rn6 ?_
   refine zCA J J J cw (fun h q => q) (fun h q => q) ?_
   rintro v H ⟨rfl, a', b', rfl, j1, j2, j3⟩
   rw [decide_eq_false (by omega)]
   refine rn5 ?_
   exact zL hR J J
  ·rw [if_neg h3] at e
   refine ⟨(zD7 r n p : Nat), (zFi r n p : Nat), ?_⟩
   rw [e]
   refine zd.value0 (zN (P := Tryz.prog) (fn := Tryz.f105) J J (by kernel_rfl) J (fun c hR hfix => ?_)) (fix := fun _ => False) (fun _ h => h) J J
   refine zY ?_
   repeat (first | refine zA (zO rfl) ?_ | refine zC ?_ | refine zB ?_ | refine zJ rfl ?_ | refine zAO rfl rfl ?_)
   refine zCn 3 4 [(2, iN n)] J J J J ⟨J, trivial⟩ ⟨J, J, J, trivial⟩ J hfix ?_
   refine rn6 ?_
   refine zP J J J cc ?_
   refine rn6 ?_
   refine zF J (fun q => ?_) (fun q => ?_)
   ·exact absurd q (by omega)
   refine rn20 ?_
   refine zJ J ?_
   repeat (first | refine zA (zO rfl) ?_ | refine zC ?_ | refine zB ?_ | refine zY ?_ | refine zA (zCW rfl rfl rfl rfl rfl rfl) ?_ | refine zA (zf rfl rfl rfl rfl rfl rfl) ?_ | refine zAO rfl rfl ?_)
   refine zAS [ctrO r 0 0] J ?_
   refine rn6 ?_
   refine zCA J J J cw (fun h q => q) (fun h q => q) ?_
   rintro v H ⟨rfl, a', b', rfl, j1, j2, j3⟩
   obtain ⟨j4, j5⟩ := j3 (by omega)
   rw [decide_eq_true (by omega)]
   rw [Int.zero_add] at j4 j5
   subst j4 j5
   refine rn5 ?_
   refine ze (by kernel_rfl) ?_
   refine zV 0 J (by kernel_rfl) (by kernel_rfl) (by kernel_rfl) J (zG J) J ?_
   refine zV 1 J (by kernel_rfl) (by kernel_rfl) (by kernel_rfl) J (zT J) J ?_
   refine zV 2 J (by kernel_rfl) (by kernel_rfl) (by kernel_rfl) J (zM J J J J J J) J ?_
   refine zV 4 J (by kernel_rfl) (by kernel_rfl) (by kernel_rfl) J (zG J) J ?_
   refine zV 5 J (by kernel_rfl) (by kernel_rfl) (by kernel_rfl) J (zT J) J ?_
   refine zV 6 J (by kernel_rfl) (by kernel_rfl) (by kernel_rfl) J (zM J J J J J J) J ?_
   refine zH (is := [3, 7]) (by kernel_rfl) (by simp) J ⟨fun o ho => ?_, fun o ho => ?_, trivial⟩
   all_goals (cases ho)
   ·refine rn4 ?_
    refine zV 8 J (by kernel_rfl) (by kernel_rfl) (by kernel_rfl) J (zO J) J ?_
    refine zH (is := [7]) (by kernel_rfl) (by simp) J ⟨fun o ho => ?_, trivial⟩
    all_goals (cases ho)
    refine rn4 ?_
    refine zV 9 J (by kernel_rfl) (by kernel_rfl) (by kernel_rfl) J (zO J) J ?_
    refine zV 10 J (by kernel_rfl) (by kernel_rfl) (by kernel_rfl) J (zO J) J ?_
    refine zW (by kernel_rfl) ?_
    refine rn0 ?_
    exact zL hR J J
   ·refine rn4 ?_
    refine zH (is := [3]) (by kernel_rfl) (by simp) J ⟨fun o ho => ?_, trivial⟩
    all_goals (cases ho)
    refine rn4 ?_
    refine zV 8 J (by kernel_rfl) (by kernel_rfl) (by kernel_rfl) J (zO J) J ?_
    refine zV 9 J (by kernel_rfl) (by kernel_rfl) (by kernel_rfl) J (zO J) J ?_
    refine zV 10 J (by kernel_rfl) (by kernel_rfl) (by kernel_rfl) J (zO J) J ?_
    refine zW (by kernel_rfl) ?_
    refine rn0 ?_
    exact zL hR J J
 ·have e : zDm r p d = zAp r p := by unfold zDm; rw [if_pos h1]
  refine ⟨0, 0, ?_⟩
  rw [e]
  refine zd.value0 (zN (P := Tryz.prog) (fn := Tryz.f105) J J (by kernel_rfl) J (fun c hR hfix => ?_)) (fix := fun _ => False) (fun _ h => h) J J
  refine rn6 ?_
  refine zP J J J (zCG r hr p hp) ?_
  refine rn3 ?_
  refine zF J (fun q => ?_) (fun q => absurd h1 q)
  refine rn2 ?_
  exact zL hR J J
/-- perft.Tree -/
theorem tree_ok (r : Go.Ax.Gm.Rules) (hr : Lens r) (p : Pos) (hp : LenP p) (d : Int) : ∃ x, zl Tryz.prog 76 [ruA r, poA p, .int .i64 d] (.tup [.int .i64 x, .int .i64 (zDm r p d)]) := by
 obtain ⟨x, y, hc⟩ := zN7 r hr p hp d
 refine ⟨x, ?_⟩
 refine zd.value0 (zN (P := Tryz.prog) (fn := Tryz.f76) J J (by kernel_rfl) J (fun c hR hfix => ?_)) (fix := fun _ => False) (fun _ h => h) J J
 refine rn6 ?_
 refine zP J J J hc ?_
 refine rn2 ?_
 exact zL hR J J
theorem odd_ok (n : Int) : zl Tryz.prog 75 [.int .i64 n] (.bool (zI7 n)) := by
 refine zd.value0 (zN (P := Tryz.prog) (fn := Tryz.f75) J J (by kernel_rfl) J (fun c hR hfix => ?_)) (fix := fun _ => False) (fun _ h => h) J J
 have hb : zI7 n = (decide (1 ≤ n) && (decide (n ≤ 5) && decide (n.tmod 2 = 1))) := rfl
 refine rn7 ?_
 refine zo J J (fun q => ?_) (fun q => ?_)
 ·have q : 1 ≤ n := q
  rw [decide_eq_true q, Bool.true_and] at hb
  refine rn8 ?_
  refine zo J J (fun q2 => ?_) (fun q2 => ?_)
  ·have q2 : n ≤ 5 := q2
   rw [decide_eq_true q2, Bool.true_and, Int.tmod_eq_emod_of_nonneg (by omega)] at hb
   repeat (first | refine zA (zG rfl) ?_ | refine zA (zO rfl) ?_ | refine zC ?_ | refine zB ?_ | refine zr rfl rfl ?_ | refine zAA ?_ | refine zA (zBR rfl rfl) ?_ | refine zA (zg rfl rfl) ?_ | refine zA (zKK rfl rfl (by omega)) ?_)
   refine zL hR J ?_
   rw [hb]; rfl
  ·have q2 : ¬ n ≤ 5 := q2
   rw [decide_eq_false q2, Bool.false_and] at hb
   refine rn6 ?_
   refine zL hR J ?_
   rw [hb]; rfl
 ·have q : ¬ 1 ≤ n := q
  rw [decide_eq_false q, Bool.false_and] at hb
  refine rn6 ?_
  refine zL hR J ?_
  rw [hb]; rfl
/-- puzzle.Check -/
theorem zF6 (r : Go.Ax.Gm.Rules) (hr : Lens r) (p : Pos) (hp : LenP p) (n : Int) : zl Tryz.prog 46 [ruA r, poA p, .int .i64 n] (.int .i64 (zAC r p n)) := by
 refine zd.value0 (zN (P := Tryz.prog) (fn := Tryz.f46) J J (by kernel_rfl) J (fun c hR hfix => ?_)) (fix := fun _ => False) (fun _ h => h) J J
 obtain ⟨x, ct⟩ := tree_ok r hr p hp n
 refine rn6 ?_
 refine zP J J J (zCG r hr p hp) ?_
 refine rn3 ?_
 refine zF J (fun q => ?_) (fun q => ?_)
 ·have e : zAC r p n = zAp r p := by unfold zAC; rw [if_pos q]
  rw [e] at hR
  refine rn2 ?_
  exact zL hR J J
 have q2 : zAp r p = 0 := Classical.not_not.1 q
 obtain ⟨hz, S⟩ := zCw q2
 refine rn1 ?_
 refine zP J J J (odd_ok n) ?_
 cases ho : zI7 n with
 | false =>
  have e : zAC r p n = 4 := by unfold zAC; rw [if_neg q, if_pos ho]
  rw [e] at hR
  refine rn5 ?_
  exact zL hR J J
 | true =>
  refine rn6 ?_
  refine zP J J J (zCH r (zAu hz) p S) ?_
  refine rn3 ?_
  refine zF J (fun q3 => ?_) (fun q3 => ?_)
  ·have e : zAC r p n = 14 := by unfold zAC; rw [if_neg q, if_neg (by rw [ho]; decide), if_pos q3]
   rw [e] at hR
   refine rn2 ?_
   exact zL hR J J
  ·have e : zAC r p n = zDm r p n := by unfold zAC; rw [if_neg q, if_neg (by rw [ho]; decide), if_neg q3]
   rw [e] at hR
   refine rn6 ?_
   refine zP J J J ct ?_
   refine rn2 ?_
   exact zL hR J J
end Go.Proofs.YtiifcejepaeepaaGreatDoor
