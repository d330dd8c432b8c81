import Derived.Test.YtkncmbklkhjmgaaGreatDoorJ6
set_option linter.unusedVariables false
set_option linter.unusedSimpArgs false
set_option maxRecDepth 100000
set_option maxHeartbeats 4000000
namespace Go.Proofs.YtkncmbklkhjmgaaGreatDoor
open Go.Ax Go.RowKit Go.Ax.Rt Go.Ax.Idx Go.Ax.Cd Go.Ax.Tb Go.Ax.Bg Go.Ax.Tt
attribute [local irreducible] Ax zAO QOp zK zAN
theorem TreeBack_law (t : zm) (hT : ShortT t) : zN Tryz.prog 10 [.ro (zf t) 0 t.length] (.bool true) := by
 have cr := zJR t hT
 obtain ⟨t1, t2⟩ := tree_back t
 have hpl : (zCS t).1.length ≤ 8192 := by
  unfold zCS
  split
  ·exact Nat.zero_le _
  ·split
   ·exact Nat.zero_le _
   ·rename_i h; show (zBW t).length ≤ 8192; omega
 generalize zCS t = p at *
 obtain ⟨s, e⟩ := p
 simp only at t1 t2 hpl
 refine zK.value0 (zC (P := Tryz.prog) (fn := Tryz.f10) Y Y (by kernel_rfl) Y (fun c hR hfix => ?_)) (fix := fun _ => False) (fun _ h => h) Y Y
 by_cases he : e = 0
 ·subst he
  have u1 := t2 rfl
  have cp := zH6 s (by omega)
  rw [u1] at cp
  have cp : zN Tryz.prog 34 [.str s] (.tup [.ro (zf t) 0 t.length, .int .i64 0, .int .i64 0]) := cp
  have ce := equal_self t hT
  refine rn0 ?_
  refine zA Y Y Y zHN ?_
  refine rn5 ?_
  refine zA Y Y Y cr ?_
  refine rn4 ?_
  refine zA Y Y Y cp ?_
  refine rn4 ?_
  refine zA Y Y Y ce ?_
  refine rn2 ?_
  exact zE hR Y Y
 ·have u1 : s = [] := t1 he
  subst u1
  refine rn0 ?_
  refine zA Y Y Y zHN ?_
  refine rn5 ?_
  refine zA Y Y Y cr ?_
  refine rn3 ?_
  refine zB Y (fun _ => ?_) (fun q => absurd he (fun r => q r))
  refine rn6 ?_
  exact zE hR Y Y
end Go.Proofs.YtkncmbklkhjmgaaGreatDoor
