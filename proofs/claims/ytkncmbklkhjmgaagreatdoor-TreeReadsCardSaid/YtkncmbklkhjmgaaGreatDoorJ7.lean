import Derived.Test.YtkncmbklkhjmgaaGreatDoorJ6
set_option linter.unusedVariables false
set_option linter.unusedSimpArgs false
set_option maxRecDepth 100000
set_option maxHeartbeats 4000000
namespace Go.Proofs.YtkncmbklkhjmgaaGreatDoor
open Go.Ax Go.RowKit Go.Ax.Rt Go.Ax.Idx Go.Ax.Cd Go.Ax.Tb Go.Ax.Bg Go.Ax.Tt
attribute [local irreducible] Ax zAO QOp zK zAN
theorem zJO {s : zc} (h : (zBD s).2.2 = 0) : ShortT (zBD s).1 := by
 unfold zBD at h ⊢
 split at h
 ·cases h
 rename_i h1
 rw [if_neg h1]
 split at h
 ·cases h
 rename_i h2
 rw [if_neg h2]
 have hsl := zBB 10 s.dropLast
 have hcn2 := List.count_le_length (a := 10) (l := s.dropLast)
 have hwl := zC4 10 s.dropLast
 have hd : s.dropLast.length ≤ 8192 := by rw [List.length_dropLast]; omega
 generalize zh 10 s.dropLast = L at *
 cases hr : zAZ zBj L with
 | none => rw [hr] at h; cases h
 | some ts =>
  rw [hr] at h
  have h : (if zA1 ts ≠ 0 then (([] : zm), (0 : Int), zA1 ts) else (ts, 0, 0)).2.2 = 0 := h
  show ShortT (if zA1 ts ≠ 0 then (([] : zm), (0 : Int), zA1 ts) else (ts, 0, 0)).1
  split at h
  ·rename_i h3; exact absurd h h3
  ·rename_i h3
   rw [if_neg h3]
   have hl := zCh hr
   refine ⟨by show ts.length ≤ _; omega, fun n hn => ?_⟩
   obtain ⟨w, hw, hp⟩ := zEb (P := fun w x => zBj w = some x) (fun w x h => h) hr n hn
   exact zHB (by have := hwl w hw; omega) hp
theorem zHQ (s : zc) (hs : s.length ≤ 9223372036854775807) : zN Tryz.prog 9 [.str s] (.bool true) := by
 have cp := zH6 s hs
 obtain ⟨t1, t2⟩ := zKo s
 have hsh := zJO (s := s)
 generalize zBD s = p at *
 obtain ⟨t, at', e⟩ := p
 simp only at t1 t2 hsh
 refine zK.value0 (zC (P := Tryz.prog) (fn := Tryz.f9) Y Y (by kernel_rfl) Y (fun c hR hfix => ?_)) (fix := fun _ => False) (fun _ h => h) Y Y
 by_cases he : e = 0
 ·subst he
  obtain ⟨u1, u2, u3⟩ := t2 rfl
  subst u1
  have hT := hsh rfl
  have cp : zN Tryz.prog 34 [.str s] (.tup [.ro (zf t) 0 t.length, .int .i64 0, .int .i64 0]) := cp
  have cr := zJR t hT
  rw [u2] at cr
  have cr : zN Tryz.prog 35 [.ro (zf t) 0 t.length] (.tup [.str s, .int .i64 0]) := cr
  have ck := zCg t hT
  rw [u3] at ck
  refine rn0 ?_
  refine zA Y Y Y zHN ?_
  refine rn5 ?_
  refine zA Y Y Y cp ?_
  refine rn4 ?_
  refine zA Y Y Y cr ?_
  refine rn6 ?_
  refine zW Y Y (fun _ => ?_) (fun q => absurd Y q)
  refine rn2 ?_
  refine zA Y Y Y ck ?_
  refine rn4 ?_
  exact zE hR Y Y
 ·obtain ⟨u1, u2⟩ := t1 he
  have u1 : t = [] := u1
  have cp : zN Tryz.prog 34 [.str s] (.tup [.nil, .int .i64 at', .int .i64 e]) := by
   have cp := cp
   unfold zF1 at cp
   rw [if_neg he] at cp
   exact cp
  refine rn0 ?_
  refine zA Y Y Y zHN ?_
  refine rn5 ?_
  refine zA Y Y Y cp ?_
  refine rn3 ?_
  refine zB Y (fun _ => ?_) (fun q => absurd he (fun r => q r))
  repeat (first | refine zF (zU rfl) ?_ | refine zF (zT rfl) ?_ | refine zV ?_ | refine zO ?_ | refine zAA ?_ | refine zZ rfl ?_ | refine zAF rfl rfl ?_ | refine zAK ?_ | refine zBH ?_ | refine zF (zEO rfl rfl) ?_ | refine zF (zJT rfl rfl) ?_ | refine zF (zBt rfl rfl) ?_ | refine zF (zBi rfl rfl rfl) ?_)
  refine zE hR Y ?_
  show AV.bool (decide (0 ≤ at')) = _
  rw [decide_eq_true u2]
end Go.Proofs.YtkncmbklkhjmgaaGreatDoor
