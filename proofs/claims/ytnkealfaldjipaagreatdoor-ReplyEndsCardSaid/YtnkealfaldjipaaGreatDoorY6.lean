import Derived.Test.YtnkealfaldjipaaGreatDoorRows
import Derived.Test.YtnkealfaldjipaaGreatDoorTie
import Derived.Test.YtnkealfaldjipaaGreatDoorCards
import Derived.LaidMore
import Derived.Lay
import Derived.SevenTiedAt
import Derived.Stop.Joined
import Derived.Stop.ErrReads
import Derived.MakeChecks
import Derived.Test.YtnkealfaldjipaaGreatDoorY5
set_option linter.unusedVariables false
set_option linter.unusedSimpArgs false
namespace Go.Ax
variable [Pins]
open Go.RowKit
section
variable {P : Program} {fn : Func} {c : Ctx} {fr : Fr} {H : zR} {k : List It}
theorem zNZ {all : Array Oper} {d : Nat} {t tn e : TypeId} {x y : Operand} {ty : TypeId} {pos : String} {after : Array Edge} {rest : List Oper} {inf : TypeInfo} {z : Value} {zs : List AV} {n : Int} {k1 kn : IntKind}
   (ht : P.underlying t = some (.slice e)) (htn : P.underlying tn = some (.int kn)) (hi : P.info? e = some inf) (hz : inf.zero = some z) (hsz : inf.size = zs.length) (hzs : zav z = some zs) (hpos : Nat.blt 0 zs.length = true)
   (hx : ev fr x = some .nil) (hy : ev fr y = some (.int k1 n)) (hb : 0 < n ∧ (n : Int) * inf.bytes ≤ 281474976710656 ∧ n ≤ 9223372036854775807)
   (hk : Ax P fn c (.ops false all rest k) ((d, .sl H.length 0 n.toNat) :: fr) (H ++ [some ⟨e, zAS n.toNat zs⟩])) : Ax P fn c (.ops false all (⟨some d, .call { callee := .builtin .append, args := #[x, y], argTypes := #[t, tn] }, ty, pos, after, none⟩ :: rest) k) fr H := by
 refine zIj (fun w a σ S hr => ?_) hk
 obtain ⟨z1, z2, z3⟩ := zDK n.toNat zs
 obtain ⟨y1, y2⟩ := zEZ (w := w) (S := S) (σ := σ) hzs
 have hpos' : 0 < zs.length := Nat.le_of_ble_eq_true hpos
 have h1 := hr.evAt hx
 have h2 := hr.evInt hy
 generalize hzx : a.eval x = vx at h1
 cases h1
 obtain ⟨m, rfl⟩ : ∃ m : Nat, n = m := ⟨n.toNat, by omega⟩
 simp only [Int.toNat_natCast] at *
 have hbb : m * inf.bytes ≤ 281474976710656 := by
   have := hb.2.1
   rw [← Int.natCast_mul] at this
   omega
 have hrun := Lib.run_append_nil_zeros (P := P) w t tn ty e inf z k1 kn ht htn hi hz m (by omega) (by omega) (by omega) (by omega)
 have hexec : (execOp a.eval ⟨some d, .call { callee := .builtin .append, args := #[x, y], argTypes := #[t, tn] }, ty, pos, after, none⟩).run P w = .ok (.value (.slice (some ⟨w.heap.size, 0, none⟩) m (grownCap w m 0 e))) (w.drew.alloc (.cells (Builtin.zeroCells z.cells m ++ Builtin.zeroCells z.cells (grownCap w m 0 e - m)) e)) := by
   simp [execOp, resolve, hzx, h2, invoke, builtin, hrun]
 have hge := grownCap_ge w m 0 e
 have hle := grownCap_le_maxLen w m 0 e (by unfold maxLen; omega)
 generalize grownCap w m 0 e = G at hexec hge hle
 have hd : Rep c w.drew a σ S fn.ntmps fr H := hr.drewN (m := 1)
 refine ⟨_, _, _, S, hexec, hd.alloc (o := ⟨e, zAS m zs⟩) (C := G) (cur := Builtin.zeroCells z.cells m ++ Builtin.zeroCells z.cells (G - m)) (by rw [z1]; exact hge) hle (by
   simp only [Array.size_append, size_zeroCells, z2, y1, ← Nat.add_mul]; congr 1; omega) (fun i j hi hj => ?_), ?_⟩
 · simp only [z1] at hi
   simp only [z2] at hj ⊢
   rw [z3 i j hi hj]
   have hlt : i * zs.length + j < m * zs.length := by
     have : (i + 1) * zs.length ≤ m * zs.length := Nat.mul_le_mul_right _ (by omega)
     rw [Nat.add_mul] at this; omega
   have hm : (i * zs.length + j) % zs.length = j := by rw [Nat.mul_comm, Nat.mul_add_mod]; exact Nat.mod_eq_of_lt hj
   refine ⟨z.cells.getD j undef, ?_, ?_, (y2 j hj).2⟩
   · rw [Array.getElem?_append_left (by simp [size_zeroCells, y1]; exact hlt)]
     have hlt2 : i * zs.length + j < m * z.cells.size := by rw [y1]; exact hlt
     have hjz : j < z.cells.size := by rw [y1]; exact hj
     simp [Builtin.zeroCells, y1, hm, Array.getD, hlt, hj]
   · exact VR.mono (w := w) (w' := w.drew) (S := S) (S' := S) (σ := σ) (fun _ h => h) (fun _ _ => rfl) (y2 j hj).1 _ (fun _ _ h => h)
 · have := VR.sl (w := w.drew.alloc (.cells (Builtin.zeroCells z.cells m ++ Builtin.zeroCells z.cells (G - m)) e)) (S := S) (upσ σ H.length (.at w.heap.size (zAS m zs).sz G)) H.length 0 m w.heap.size (zAS m zs).sz G G (by simp [upσ]) (by omega) (by omega)
   simpa using this
/-- x = append(x, y...) where x has room. -/
theorem zJg {all : Array Oper} {d : Nat} {t e : TypeId} {x y : Operand} {ty : TypeId} {pos : String} {after : Array Edge} {rest : List Oper} {inf : TypeInfo} {h n : Nat} {o : AObj} {v : AV} {cx c' : Cells} {i2 m : Nat}
   (ht : P.underlying t = some (.slice e)) (hi : P.info? e = some inf) (hszz : inf.size = o.c.sz) (hx : ev fr x = some (.sl h 0 n)) (hh : H[h]? = some (some o)) (hoty : o.ty = e) (hy : ev fr y = some v) (hs : zLs H v = some (cx, i2, m))
   (hin0 : n + m ≤ o.c.len) (hpos : 0 < o.c.len) (hin : i2 + m ≤ cx.len) (p1 : c'.sz = o.c.sz) (p2 : cx.sz = o.c.sz) (p3 : c'.len = o.c.len)
   (p4 : ∀ i' j, i' < o.c.len → j < o.c.sz → c'.at i' j = if n ≤ i' ∧ i' < n + m then cx.at (i2 + (i' - n)) j else o.c.at i' j)
   (hk : Ax P fn c (.ops false all rest k) ((d, .sl h 0 (n + m)) :: fr) (H.set h (some ⟨o.ty, c'⟩))) (hz : o.c.sz ≠ 0 := by (intro hh; cases hh)) : Ax P fn c (.ops false all (⟨some d, .call { callee := .builtin .append, args := #[x, y], argTypes := #[t, t] }, ty, pos, after, none⟩ :: rest) k) fr H := by
 refine zIj (fun w a σ S hr => ?_) hk
 subst hoty
 have h1 := hr.evAt hx
 have h2 := hr.evAt hy
 have hsrc := hr.src h2 hs (fun _ _ => hin)
 have hexec : ∀ r w', (Builtin.append_ #[t, t] ty #[a.eval x, a.eval y]).run P w = .ok r w' → (execOp a.eval ⟨some d, .call { callee := .builtin .append, args := #[x, y], argTypes := #[t, t] }, ty, pos, after, none⟩).run P w = .ok (.value r) w' := by
   intro r w' h
   simp [execOp, resolve, invoke, builtin, h]
 generalize hzx : a.eval x = vx at h1 hexec
 generalize hzy : a.eval y = vy at h2 hsrc hexec
 unfold Src at hsrc
 rw [p2] at hsrc
 cases h1 with
 | sl0 _ _ hσ =>
   rcases hr.hr.live h o hh with ⟨_, hl⟩ | ⟨b, C, cur, hσ', _⟩
   · omega
   · rw [hσ] at hσ'; cases hσ'
 | sl _ _ _ _ b s C cap hσ hlen hcap =>
   obtain ⟨hs', cur, g1, g2, g3, g4, g5, g6⟩ := hr.obj hh hσ
   subst hs'
   have hcapC : cap = C := by omega
   subst hcapC
   obtain ⟨mk, g1, hmk, hrow⟩ := g1.cells hz
   rcases hsrc with ⟨rfl, ax, capx, rfl⟩ | ⟨ad, capx, news, rfl, q1, q2, q3, q4⟩
   · have hrun : (Builtin.append_ #[t, t] ty #[.slice (some ⟨b, 0 * o.c.sz, none⟩) n cap, .slice ax 0 capx]).run P w = .ok (.slice (some ⟨b, 0 * o.c.sz, none⟩) n cap) w := by
       have hle : n ≤ cap := by omega
       cases ax <;> simp [Builtin.append_, run_underlying ht, sizeOf, typeInfo, hi, Builtin.lenOf, hle, Builtin.firstCells, loadCells, loadCellsFrom, storeCells]
     have hself := setRow_self w b cur o.ty mk g1
     have hrep := hr.setRow (cur' := cur) hh hσ hrow p1 (by omega) g2 (fun i' j hi' hj => by
       rw [p3] at hi'
       rw [p1] at hj ⊢
       rw [p4 i' j hi' hj, if_neg (by omega)]
       exact g6 i' j hi' hj)
     rw [hself] at hrep
     exact ⟨_, w, σ, S, hexec _ _ hrun, hrep, .sl _ _ _ _ _ _ _ _ hσ (by omega) (by omega)⟩
   · have hroom : n + m ≤ cap := by omega
     have hfit : n * o.c.sz + news.length ≤ cur.size := by rw [q1, g2, ← Nat.add_mul]; exact Nat.mul_le_mul_right _ hroom
     have hrun := zEC (P := P) w t ty o.ty inf ht hi b n cap cur g1 hmk ad m capx news (by rw [hszz]; exact q1) q2 q3 hroom (by rw [hszz]; exact hfit)
     rw [hszz] at hrun
     have hb0 : (cur.toList.take (n * o.c.sz)).length = n * o.c.sz := by rw [List.length_take]; simp; omega
     refine ⟨_, _, σ, S, hexec _ _ (by simpa using hrun), hr.setRow hh hσ hrow p1 (by omega) ?_ (fun i' j hi' hj => ?_), .sl _ _ _ _ _ _ _ _ hσ (by omega) (by omega)⟩
     · rw [← g2]; simp; omega
     · rw [p3] at hi'
       rw [p1] at hj ⊢
       rw [p4 i' j hi' hj]
       split
       · rename_i hr1
         obtain ⟨u, e1, e2⟩ := q4 (i' - n) j (by omega) hj
         refine ⟨u, ?_, e2, q3 u (List.mem_of_getElem? e1)⟩
         have hidx : i' * o.c.sz + j = n * o.c.sz + ((i' - n) * o.c.sz + j) := by
           rw [← Nat.add_assoc, ← Nat.add_mul]; congr 2; omega
         have hlt : (i' - n) * o.c.sz + j < news.length := by
           rw [q1]
           have : (i' - n + 1) * o.c.sz ≤ m * o.c.sz := Nat.mul_le_mul_right _ (by omega)
           rw [Nat.add_mul] at this; omega
         simp only [List.getElem?_toArray, List.append_assoc]
         rw [hidx, List.getElem?_append_right (by omega), hb0, Nat.add_sub_cancel_left, List.getElem?_append_left hlt]
         exact e1
       · rename_i hr1
         obtain ⟨u, e1, e2, e3⟩ := g6 i' j hi' hj
         refine ⟨u, ?_, e2, e3⟩
         simp only [List.getElem?_toArray, List.append_assoc]
         by_cases hlo : i' < n
         · have hlt : i' * o.c.sz + j < n * o.c.sz := by
             have : (i' + 1) * o.c.sz ≤ n * o.c.sz := Nat.mul_le_mul_right _ (by omega)
             rw [Nat.add_mul] at this; omega
           rw [List.getElem?_append_left (by omega), List.getElem?_take, if_pos hlt]
           simpa using e1
         · have hhi : n + m ≤ i' := by omega
           have hge : (n + m) * o.c.sz ≤ i' * o.c.sz := Nat.mul_le_mul_right _ hhi
           rw [Nat.add_mul, ← q1] at hge
           rw [List.getElem?_append_right (by omega), hb0, List.getElem?_append_right (by omega), List.getElem?_drop]
           have : n * o.c.sz + news.length + (i' * o.c.sz + j - n * o.c.sz - news.length) = i' * o.c.sz + j := by omega
           rw [this]
           simpa using e1
end
end Go.Ax
namespace Go.Proofs.YtnkealfaldjipaaGreatDoor
open Go.Ax Go.Ax.Bg Go.Ax.Rt Go.RowKit Go.Ax.Idx Go.Ax.Cd
attribute [local irreducible] Ax zAM QOp zM zp
set_option maxRecDepth 100000
set_option maxHeartbeats 4000000
def zHt (o : Option TChoice) : List AV := match o with
 | none => [.int .i64 0, .nil]
 | some c => cellsC c
abbrev mixC (l : List (Option TChoice)) : Cells := zB4 none 2 zHt l
theorem mix_zero (n : Nat) : CEq (zAS n [.int .i64 0, .nil]) (mixC (List.replicate n none)) := by
 refine ⟨by simp [zB4, Cells.len, zAS], rfl, fun i j hi hj => ?_⟩
 have hi : i < n := by simpa [Cells.len, zAS] using hi
 show (zHt ((List.replicate n (none : Option TChoice)).getD i none)).getD j .any = _
 rw [zAe none (by simpa using hi), List.getElem_replicate]
 rfl
theorem mix_map (l : List TChoice) : CEq (mixC (l.map some)) (zAO l) := by
 refine ⟨by simp [zB4, Cells.len], rfl, fun i j hi hj => ?_⟩
 have hi : i < l.length := by simpa [zB4, Cells.len] using hi
 show (cellsC (l.getD i ch0)).getD j .any = (zHt ((l.map some).getD i none)).getD j .any
 rw [zCt some l ch0 none i hi]
 rfl
theorem zMy (l : List (Option TChoice)) : z6 (mixC l) := by
 intro i j _ hj
 have hj : j < 2 := hj
 show noRef ((zHt (l.getD i none)).getD j .any) = true
 cases l.getD i none with
 | none => match j, hj with
   | 0, _ => rfl
   | 1, _ => rfl
 | some c => match j, hj with
   | 0, _ => rfl
   | 1, _ => rfl
theorem growM (n : Nat) (h0 : 0 < n) (h1 : n ≤ 8796093022208) : zHf Tryz.prog 129 [.nil, .int .i64 (n : Nat)] (fun N => .sl N 0 0) ⟨67, mixC (List.replicate n none)⟩ := by
 refine zM.fresh (K := fun r H => r = .sl 0 0 0 ∧ H = [some ⟨67, mixC (List.replicate n none)⟩]) (zG (P := Tryz.prog) (fn := Tryz.f129) rfl rfl (by kernel_rfl) rfl (fun c hR hfix => ?_)) (fix := fun _ => False) (fun _ h => h) rfl (fun H => ⟨rfl, by simp [zGq, inB]⟩) ?_
 · repeat (first | refine zB (zH rfl) ?_ | refine zB (zK rfl) ?_ | refine zC ?_ | refine zA ?_ | refine zY ?_ | refine zJ rfl ?_ | refine zAN rfl ?_ | refine zl ?_ | refine zB (zJs rfl rfl) ?_ | refine zB (zI5 rfl rfl) ?_ | refine zB (zA8 rfl rfl rfl) ?_ | refine zB (zBZ rfl rfl (by omega)) ?_ | refine zB (zHS rfl rfl) ?_)
   refine zE rfl (fun h => ?_) (fun h => absurd h (by omega))
   repeat (first | refine zB (zH rfl) ?_ | refine zJ rfl ?_ | refine zB (zHS rfl rfl) ?_ | refine zB (zJS rfl rfl rfl rfl rfl rfl rfl) ?_)
   refine zNZ rfl rfl rfl rfl rfl rfl rfl rfl rfl (by show 0 < _ ∧ _ * 32 ≤ _ ∧ _; omega) ?_
   refine rn3 ?_
   refine zB (zF7 rfl rfl rfl rfl rfl rfl rfl rfl (by omega)) ?_
   refine zAy [some ⟨67, mixC (List.replicate n none)⟩] (zAL.eqv (by rw [show (((n : Nat) : Int) - (0 - ((0 : Nat) : Int))).toNat = n by omega]; exact mix_zero n) zAL.nil) ?_
   refine rn0 ?_
   exact zI hR rfl ⟨rfl, rfl⟩
 · rintro r H ⟨rfl, rfl⟩
   refine ⟨?_, fun h o ho => zFm (zMy _) h o ho, 0, rfl, fun n => rfl⟩
   intro o ho; simp at ho; subst ho; exact Nat.zero_le _
/-- the row while it is filled -/
def zFM (ls : List zAX) (n k : Nat) : List (Option TChoice) := (ls.take k).flatten.map some ++ List.replicate (n - (ls.take k).flatten.length) none
theorem zJT {ls : List zAX} {n k : Nat} (h : (ls.take k).flatten.length ≤ n) : (zFM ls n k).length = n := by
 unfold zFM
 rw [List.length_append, List.length_map, List.length_replicate]; omega
theorem zJn {ls : List zAX} {n k i : Nat} : (zFM ls n k).getD i none = if i < (ls.take k).flatten.length then some ((ls.take k).flatten.getD i ch0) else none := by
 unfold zFM
 by_cases h : i < (ls.take k).flatten.length
 · rw [if_pos h, zFf none (by rw [List.length_map]; exact h), zCt some _ ch0 none i h]
 · rw [if_neg h]
   simp only [List.getD, List.getElem?_append_right (show (List.map some (ls.take k).flatten).length ≤ i by rw [List.length_map]; omega), List.getElem?_replicate]
   split <;> rfl
theorem concatM (ls : List zAX) (hlen : ls.length ≤ 1000000) (hs : zCC ls ≤ 8796093022208) :
   zHf Tryz.prog 68 [.ro (zEu ls) 0 ls.length] (fun N => .sl N 0 ls.flatten.length) ⟨67, zAO ls.flatten⟩ := by
 have hfl := zA7 ls
 by_cases h0 : ls.flatten.length = 0
 · exact concatC ls hlen (by omega)
 refine zM.fresh (K := fun r H => r = .sl 0 0 ls.flatten.length ∧ H = [some ⟨67, zAO ls.flatten⟩]) (zG (P := Tryz.prog) (fn := Tryz.f68) rfl rfl (by kernel_rfl) rfl (fun c hR hfix => ?_)) (fix := fun _ => False) (fun _ h => h) rfl (fun H => ⟨rfl, by simp [zGq, inB]⟩) ?_
 · refine rn3 ?_
   refine zj (ι := Nat) (fun k => [(0, .ro (zEu ls) 0 ls.length), (3, .int .i64 (zCC (ls.take k))), (9, .ro (zEu ls) 0 ls.length), (10, .int .i64 (ls.length : Nat)), (11, .int .i64 (k : Nat))]) (fun _ => [])
     (fun k => k ≤ ls.length) (fun k => ls.length - k) 0 ⟨⟨rfl, rfl, rfl, rfl, rfl, trivial⟩, rfl, Nat.zero_le _⟩ ?_
   intro k hk
   refine rn4 ?_
   refine zE rfl (fun h1 => ?_) (fun h1 => ?_)
   · have hk' : k < ls.length := by omega
     have hsum := zFb ls k hk'
     have hb := zCU ls (k + 1)
     have hb0 := zCU ls k
     refine rn6 ?_
     refine zE rfl (fun h2 => absurd h2 (by omega)) (fun h2 => ?_)
     refine rn5 ?_
     exact zN ⟨k + 1, by omega, by omega, ⟨rfl, by rw [hsum]; rfl, rfl, rfl, rfl, trivial⟩, rfl⟩
   · have hk' : k = ls.length := by omega
     subst hk'
     simp only [List.take_length] at *
     rw [hfl]
     refine rn5 ?_
     refine zB1 rfl rfl rfl (growM ls.flatten.length (by omega) (by omega)) ?_
     refine rn3 ?_
     refine zj (ι := Nat) (fun k => [(6, .sl 0 0 (ls.take k).flatten.length), (25, .ro (zEu ls) 0 ls.length), (26, .int .i64 (ls.length : Nat)), (27, .int .i64 (k : Nat))]) (fun k => [some ⟨67, mixC (zFM ls ls.flatten.length k)⟩])
       (fun k => k ≤ ls.length) (fun k => ls.length - k) 0 ⟨⟨rfl, rfl, rfl, rfl, trivial⟩, rfl, Nat.zero_le _⟩ ?_
     intro k hk
     refine rn4 ?_
     refine zE rfl (fun h1 => ?_) (fun h1 => ?_)
     · have hk' : k < ls.length := by omega
       have hfs := zGx ls k hk'
       have hb := zCU ls (k + 1)
       have hb0 := zCU ls k
       have hfl0 := zA7 (ls.take k)
       have hfl1 := zA7 (ls.take (k + 1))
       have hl1 : (ls.take (k + 1)).flatten.length = (ls.take k).flatten.length + (ls.getD k []).length := by rw [hfs, List.length_append]
       have m1 := zJT (ls := ls) (n := ls.flatten.length) (k := k) (by omega)
       have m2 := zJT (ls := ls) (n := ls.flatten.length) (k := k + 1) (by omega)
       refine rn6 ?_
       refine zJg (c' := mixC (zFM ls ls.flatten.length (k + 1))) rfl rfl rfl rfl rfl rfl rfl rfl (by show _ + (ls.getD k []).length ≤ (zFM _ _ _).length; omega) (by show 0 < (zFM _ _ _).length; omega) (by show 0 + (ls.getD k []).length ≤ (ls.getD k []).length; omega) rfl rfl (by show (zFM _ _ _).length = (zFM _ _ _).length; omega) (fun i' j' hi' hj' => ?_) ?_
       · show (zHt ((zFM ls ls.flatten.length (k + 1)).getD i' none)).getD j' .any = if (ls.take k).flatten.length ≤ i' ∧ i' < (ls.take k).flatten.length + (ls.getD k []).length then (cellsC ((ls.getD k []).getD (0 + (i' - (ls.take k).flatten.length)) ch0)).getD j' .any else (zHt ((zFM ls ls.flatten.length k).getD i' none)).getD j' .any
         rw [zJn, zJn, hl1, hfs]
         by_cases q1 : i' < (ls.take k).flatten.length
         · rw [if_pos (by omega), if_neg (by omega), if_pos q1, zFf ch0 q1]
         · by_cases q2 : i' < (ls.take k).flatten.length + (ls.getD k []).length
           · rw [if_pos q2, if_pos ⟨by omega, q2⟩, Nat.zero_add]
             have : ((ls.take k).flatten ++ ls.getD k []).getD i' ch0 = (ls.getD k []).getD (i' - (ls.take k).flatten.length) ch0 := by
               simp only [List.getD, List.getElem?_append_right (show (ls.take k).flatten.length ≤ i' by omega)]
             rw [this]; rfl
           · rw [if_neg q2, if_neg (fun q => q2 q.2), if_neg q1]
       refine rn5 ?_
       refine zN ⟨k + 1, by omega, by omega, ⟨?_, rfl, rfl, rfl, trivial⟩, rfl⟩
       show some (AV.sl 0 0 ((ls.take k).flatten.length + (ls.getD k []).length)) = _
       rw [hl1]
     · have hk' : k = ls.length := by omega
       subst hk'
       have hmx : zFM ls ls.flatten.length ls.length = ls.flatten.map some := by
         unfold zFM
         rw [List.take_length, Nat.sub_self, List.replicate_zero, List.append_nil]
       rw [hmx, List.take_length]
       repeat (first | refine zA ?_ | refine zY ?_ | refine zAs ?_ | refine zq ?_ | refine zr ?_ | refine zAF ?_)
       refine zDt [some ⟨67, zAO ls.flatten⟩] (zAL.eqv (mix_map _) zAL.nil) ?_
       refine rn0 ?_
       exact zI hR rfl ⟨rfl, rfl⟩
 · rintro r H ⟨rfl, rfl⟩
   refine ⟨?_, fun h o ho => zFm (zC5 _) h o ho, 0, rfl, fun n => rfl⟩
   intro o ho; simp at ho; subst ho; show 0 + ls.flatten.length ≤ ls.flatten.length; omega
theorem zPV (ls : List zAX) (hlen : ls.length ≤ 1000000) (hs : zCC ls ≤ 8796093022208) (hc : ∀ s ∈ ls, ∀ c ∈ s, ShortC c) : zW Tryz.prog 17 [.ro (zEu ls) 0 ls.length] (.bool (zJ4 ls)) := by
 have hfl := zA7 ls
 have cc := zPa ls.flatten 69 [] zMs rfl (by omega) (fun c hm => by
   obtain ⟨s, h1, h2⟩ := List.mem_flatten.1 hm
   exact plain1 c (hc s h1 c h2))
 refine zM.value0 (zG (P := Tryz.prog) (fn := Tryz.f17) rfl rfl (by kernel_rfl) rfl (fun c hR hfix => ?_)) (fix := fun _ => False) (fun _ h => h) rfl rfl
 unfold zJ4 at hR
 refine rn0 ?_
 refine zB1 rfl rfl rfl (concatM ls hlen hs) ?_
 skip
 refine zFv rfl rfl rfl rfl cc (zFm (o1 := ⟨67, zAO ls.flatten⟩) (zC5 _)) ⟨fun o ho => by simp at ho; subst ho; show 0 + ls.flatten.length ≤ ls.flatten.length; omega, trivial, trivial⟩ rfl rfl rfl ?_
 refine rn5 ?_
 exact zI hR rfl rfl
end Go.Proofs.YtnkealfaldjipaaGreatDoor
namespace Go.Ax.Rt
open Go.Ax.Bg Go.Ax.Dt
set_option maxRecDepth 100000
def allV : List zAG → List Rat → Bool
 | [], [] => true
 | s :: r, q :: t => decide (IsQ s q) && allV r t
 | _, _ => false
theorem zI8 : ∀ {s : List zAG} {l : List Rat}, allV s l = true → l.map zAK = s ∧ l.all zBp = true
 | [], [], _ => ⟨rfl, rfl⟩
 | [], _ :: _, h => by cases h
 | _ :: _, [], h => by cases h
 | a :: r, q :: t, h => by
   simp only [allV, Bool.and_eq_true, decide_eq_true_eq] at h
   obtain ⟨h1, h2⟩ := zI8 h.2
   refine ⟨by rw [List.map_cons, h.1.text, h1], ?_⟩
   rw [List.all_cons, h.1.fit, h2]; rfl
theorem allV_f {s : List zAG} {l : List Rat} (h : allV s l = true) : zA2 l = (s, 0) := by
 unfold zA2
 rw [if_pos (zI8 h).2, (zI8 h).1]
def allM : List (List zAG) → List (List Rat) → Bool
 | [], [] => true
 | s :: r, q :: t => allV s q && allM r t
 | _, _ => false
def fourT : List (List zAG) := [[[49], [50]], [[51], [52]]]
def signT : List (List zAG) := [[[49], [49]], [[49], [45, 49]]]
theorem zI4 {q : List (List Rat)} : ∀ r ∈ (outM q).1, ∀ s ∈ r, s.length ≤ 9223372036854775807 := by
 intro r hr s hs
 unfold outM at hr
 split at hr
 · rename_i h
   obtain ⟨x, hx, rfl⟩ := List.mem_map.1 hr
   obtain ⟨y, hy, rfl⟩ := List.mem_map.1 hs
   have h2 := List.all_eq_true.1 (List.all_eq_true.1 h x hx) y hy
   unfold zBp at h2
   rw [Bool.and_eq_true, decide_eq_true_eq, decide_eq_true_eq] at h2
   unfold zAK
   rw [List.length_append, List.length_append]
   have h1 : (if y.num < 0 then [45] else [] : List UInt8).length ≤ 1 := by split <;> simp
   have h3 : (if y.den = 1 then [] else 47 :: Lib.decDigits y.den : List UInt8).length ≤ 2001 := by
     split
     · simp
     · rw [List.length_cons]; omega
   omega
 · simp at hr
abbrev MaxL : Nat := 9223372036854775807
structure ShortM (m : List (List zAG)) : Prop where
 len : m.length ≤ MaxL
 row : ∀ r ∈ m, r.length ≤ MaxL ∧ ∀ s ∈ r, s.length ≤ MaxL
structure ShortV (v : List zAG) : Prop where
 len : v.length ≤ MaxL
 each : ∀ s ∈ v, s.length ≤ MaxL
theorem ShortM.wid {m : List (List zAG)} (h : ShortM m) : zDq m ≤ MaxL := by
 unfold zDq
 cases m with
 | nil => exact Nat.zero_le _
 | cons x _ => exact (h.row x (by simp)).1
theorem ShortM.nil : ShortM [] := ⟨Nat.zero_le _, fun r hr => by simp at hr⟩
theorem ShortV.nil : ShortV [] := ⟨Nat.zero_le _, fun r hr => by simp at hr⟩
theorem ShortM.out {q : List (List Rat)} (h1 : q.length ≤ MaxL) (h2 : ∀ r ∈ q, r.length ≤ MaxL) : ShortM (outM q).1 := by
 have h3 := @zI4 q
 refine ⟨?_, fun r hr => ⟨?_, h3 r hr⟩⟩
 · unfold outM
   split
   · simpa using h1
   · exact Nat.zero_le _
 · unfold outM at hr
   split at hr
   · obtain ⟨x, hx, rfl⟩ := List.mem_map.1 hr
     rw [List.length_map]; exact h2 x hx
   · simp at hr
theorem ShortM.mul {a b : List (List zAG)} (ha : ShortM a) (hb : ShortM b) : ShortM (mulR a b).1 := by
 unfold mulR
 split
 · exact ShortM.nil
 split
 · exact ShortM.nil
 split
 · refine ShortM.out (by simpa [mulQ, inM] using ha.len) (fun r hr => ?_)
   obtain ⟨x, hx, rfl⟩ := List.mem_map.1 hr
   rw [List.length_map, zPW]; exact hb.wid
 · exact ShortM.nil
theorem ShortM.trans {a : List (List zAG)} (ha : ShortM a) : ShortM (transR a).1 := by
 unfold transR
 split
 · exact ShortM.nil
 · refine ⟨by simpa [transT] using ha.wid, fun r hr => ?_⟩
   obtain ⟨k, hk, rfl⟩ := List.mem_map.1 hr
   refine ⟨by simpa using ha.len, fun s hs => ?_⟩
   obtain ⟨x, hx, rfl⟩ := List.mem_map.1 hs
   rcases Nat.lt_or_ge k x.length with q | q
   · exact (ha.row x hx).2 _ (by rw [zAe [] q]; exact List.getElem_mem q)
   · have : x.getD k [] = [] := by simp [List.getD, q]
     rw [this]; exact Nat.zero_le _
theorem ShortV.out {l : List Rat} (h : l.length ≤ MaxL) : ShortV (zA2 l).1 := by
 have h3 := zI4 (q := [l])
 refine ⟨?_, fun s hs => ?_⟩
 · unfold zA2
   split
   · simpa using h
   · exact Nat.zero_le _
 · unfold zA2 at hs
   split at hs
   · rename_i h1
     have e : (outM [l]).1 = [l.map zAK] := by
       unfold outM
       rw [if_pos (by simpa using h1)]
       rfl
     rw [e] at h3
     exact h3 _ (by simp) s hs
   · simp at hs
theorem ShortM.apply {a : List (List zAG)} (ha : ShortM a) (v : List zAG) : ShortV (applyR a v).1 := by
 unfold applyR
 split
 · exact ShortV.nil
 split
 · exact ShortV.nil
 split
 · exact ShortV.nil
 · exact ShortV.out (by simpa [applyQ, inM] using ha.len)
end Go.Ax.Rt
namespace Go.Ax.Rt
open Go.Ax.Bg Go.Ax.Idx
set_option maxRecDepth 100000
def zA4 : zT := [⟨2, 0, 0, [1, 2], [], []⟩, ⟨2, 1, 3, [3, 4], [], []⟩, ⟨2, 1, 3, [5, 6], [], []⟩, ⟨0, 0, 0, [], [], [45, 49]⟩, ⟨0, 0, 0, [], [], [49]⟩, ⟨0, 0, 0, [], [], [49]⟩, ⟨0, 0, 0, [], [], [45, 49]⟩]
def zCa (n : Int) : zAX := [⟨n, [[49, 47, 50], [49, 47, 50]]⟩]
end Go.Ax.Rt
namespace Go.Proofs.YtnkealfaldjipaaGreatDoor
open Go.Ax Go.Ax.Bg Go.Ax.Rt Go.RowKit Go.Ax.Idx Go.Ax.Cd
attribute [local irreducible] Ax zAM QOp zM zp
set_option maxRecDepth 100000
set_option maxHeartbeats 4000000
theorem seven {d : Nat} (h : d < 7) : d = 0 ∨ d = 1 ∨ d = 2 ∨ d = 3 ∨ d = 4 ∨ d = 5 ∨ d = 6 := by omega
theorem zHQ : zW Tryz.prog 61 [] (.ro (zZ zA4) 0 7) := by
 refine zM.value0 (zG (P := Tryz.prog) (fn := Tryz.f61) rfl rfl (by kernel_rfl) rfl (fun c hR hfix => ?_)) (fix := fun _ => False) (fun _ h => h) rfl rfl
 repeat (first | refine zB (zK rfl) ?_ | refine zC ?_ | refine zA ?_ | refine zY ?_ | refine zJ rfl ?_ | refine zB (zAR rfl rfl rfl rfl rfl rfl) ?_ | refine zk rfl rfl rfl rfl rfl rfl rfl rfl rfl rfl rfl ?_)
 refine zAc 0 (.ro (zZ zA4) 0 7) rfl (AEq.ro_in rfl (fun d j hd hj => ?_)) ?_
 · have hj : j < 6 := hj
   have hj3 : j = 0 ∨ j = 1 ∨ j = 2 ∨ j = 3 ∨ j = 4 ∨ j = 5 := by omega
   rcases seven hd with rfl | rfl | rfl | rfl | rfl | rfl | rfl <;> rcases hj3 with rfl | rfl | rfl | rfl | rfl | rfl <;> first | exact AEq.rfl' | exact AEq.nil
 repeat (refine zAI ?_)
 exact zI hR rfl rfl
theorem zHR (n : Int) : zW Tryz.prog 62 [.int .i64 n] (.ro (zAO (zCa n)) 0 1) := by
 refine zM.value0 (zG (P := Tryz.prog) (fn := Tryz.f62) rfl rfl (by kernel_rfl) rfl (fun c hR hfix => ?_)) (fix := fun _ => False) (fun _ h => h) rfl rfl
 repeat (first | refine zB (zH rfl) ?_ | refine zB (zK rfl) ?_ | refine zC ?_ | refine zA ?_ | refine zY ?_ | refine zJ rfl ?_ | refine zB (zAR rfl rfl rfl rfl rfl rfl) ?_ | refine zk rfl rfl rfl rfl rfl rfl rfl rfl rfl rfl rfl ?_)
 refine zAc 2 (.ro (zAO (zCa n)) 0 1) rfl (AEq.ro_in rfl (fun d j hd hj => ?_)) ?_
 · have hj : j < 2 := hj
   have hj3 : j = 0 ∨ j = 1 := by omega
   obtain rfl : d = 0 := by omega
   rcases hj3 with rfl | rfl <;> exact AEq.rfl'
 repeat (refine zAI ?_)
 exact zI hR rfl rfl
end Go.Proofs.YtnkealfaldjipaaGreatDoor
namespace Go.Proofs.YtnkealfaldjipaaGreatDoor
open Go.Ax Go.Ax.Bg Go.Ax.Rt Go.RowKit
attribute [local irreducible] Ax zAM QOp zM zp
set_option maxRecDepth 100000
set_option maxHeartbeats 4000000
open Go.Ax.Idx Go.Ax.Cd
theorem equalR (a b : List (List UInt8)) (hlen : a.length ≤ 9223372036854775807) (hlb : b.length ≤ 9223372036854775807) : zW Tryz.prog 44 [.ro (.strs a) 0 a.length, .ro (.strs b) 0 b.length] (.bool (decide (a = b))) := by
 refine zM.value0 (zG (P := Tryz.prog) (fn := Tryz.f44) rfl rfl (by kernel_rfl) rfl (fun c hR hfix => ?_)) (fix := fun _ => False) (fun _ h => h) rfl rfl
 refine rn3 ?_
 refine zE rfl (fun h => ?_) (fun h => ?_)
 · refine rn2 ?_
   refine zI hR rfl ?_
   have : ¬ a = b := by rintro rfl; exact h rfl
   simp [zBR, this]
 have hab : a.length = b.length := by omega
 refine rn3 ?_
 refine zj (ι := Nat) (fun k => [(0, .ro (.strs a) 0 a.length), (1, .ro (.strs b) 0 b.length), (12, .int .i64 (a.length : Nat)), (13, .int .i64 (k : Nat))]) (fun _ => [])
   (fun k => k ≤ a.length ∧ a.take k = b.take k) (fun k => a.length - k) 0 ⟨⟨rfl, rfl, rfl, rfl, trivial⟩, rfl, Nat.zero_le _, rfl⟩ ?_
 intro k ⟨hk, heq⟩
 refine rn4 ?_
 refine zE rfl (fun h2 => ?_) (fun h2 => ?_)
 · have hk' : k < a.length := by omega
   have ha := zAn a [] k hk'
   have hb := zAn b [] k (by omega)
   refine rn1 ?_
   refine zER (by kernel_rfl) (by kernel_rfl) rfl ?_
   repeat (first | refine zB (zH rfl) ?_ | refine zC ?_ | refine zA ?_ | refine zB (zBw rfl rfl rfl) ?_ | refine zB (ze rfl rfl rfl rfl (by first | (simp only [Nat.zero_add, Int.toNat_natCast, Int.toNat_zero]; exact rfl) | exact rfl) (by omega)) ?_ | refine zB (zEE rfl rfl) ?_)
   refine zE rfl (fun h3 => ?_) (fun h3 => ?_)
   · refine rn6 ?_
     refine zI hR rfl ?_
     have : ¬ a = b := by rintro rfl; exact h3 rfl
     simp [zBR, this]
   · refine rn5 ?_
     have h4 : a.getD k [] = b.getD k [] := Classical.not_not.1 h3
     exact zN ⟨k + 1, ⟨by omega, by rw [ha, hb, heq, h4]⟩, by omega, ⟨rfl, rfl, rfl, rfl, trivial⟩, rfl⟩
 · have hk' : k = a.length := by omega
   subst hk'
   rw [List.take_length, hab, List.take_length] at heq
   refine rn5 ?_
   refine zI hR rfl ?_
   simp [zBR, heq]
theorem hlen2 {l : List (List UInt8)} (h : (l.all fun s => decide (s.length ≤ 100)) = true) : ∀ s ∈ l, s.length ≤ 9223372036854775807 := fun s hs => by
 have := List.all_eq_true.1 h s hs
 have := of_decide_eq_true this
 omega
end Go.Proofs.YtnkealfaldjipaaGreatDoor
namespace Go.Proofs.YtnkealfaldjipaaGreatDoor
open Go.Ax Go.Ax.Bg Go.Ax.Rt Go.RowKit Go.Ax.Idx Go.Ax.Cd
attribute [local irreducible] Ax zAM QOp zM zp
set_option maxRecDepth 100000
set_option maxHeartbeats 4000000
def zFj : zAX := [⟨3, [[49], [48]]⟩]
theorem zLA : ShortT zA4 := ⟨by decide, fun n hn => by
 simp only [zA4, List.mem_cons, List.not_mem_nil, or_false] at hn
 rcases hn with rfl | rfl | rfl | rfl | rfl | rfl | rfl <;> exact ⟨by decide, by decide, by decide, by decide⟩⟩
theorem zO4 : Go.Ax.Rt.Modest zA4 := zIe (by decide)
theorem zKm (n : Int) : ShortS (zCa n) := ⟨(by decide : 1 ≤ 9223372036854775807), fun c hc => by
 rw [List.mem_singleton.1 hc]; exact ⟨(by decide : 2 ≤ 9223372036854775807), fun s hs => by simp at hs; subst hs; decide⟩⟩
theorem zP5 : ShortS zFj := ⟨by decide, fun c hc => by
 rw [List.mem_singleton.1 hc]; exact ⟨by decide, fun s hs => by simp at hs; rcases hs with rfl | rfl <;> decide⟩⟩
theorem halfDig (n : Int) : ∀ c ∈ zCa n, ∀ r ∈ c.odds, r.length ≤ 12 := fun c hc => by
 rw [List.mem_singleton.1 hc]; intro r hr; simp at hr; subst hr; decide
theorem sureDig : ∀ c ∈ zFj, ∀ r ∈ c.odds, r.length ≤ 12 := fun c hc => by
 rw [List.mem_singleton.1 hc]; intro r hr; simp at hr; rcases hr with rfl | rfl <;> decide
theorem zOT : Small zA4 [zCa 0, zCa 3] := ⟨zLA, zO4, fun x hx => by
 simp at hx; rcases hx with rfl | rfl <;> exact zKm _, fun x hx => by
 simp at hx; rcases hx with rfl | rfl <;> exact halfDig _⟩
theorem gSmall1 : Small zA4 [zFj] := ⟨zLA, zO4, fun x hx => by
 rw [List.mem_singleton.1 hx]; exact zP5, fun x hx => by
 rw [List.mem_singleton.1 hx]; exact sureDig⟩
theorem zN8 : zDC zA4 (zCa 0) (zCa 3) = 0 := by decide +kernel
theorem gValue : zLS zA4 (zCa 0) (zCa 3) = ([48], 0) := by
 unfold zLS
 rw [if_neg (fun h => h zN8)]
 exact IsQ.out (show IsQ [48] _ by decide +kernel)
theorem gOdds : zDY zA4 (zCa 0) (zCa 3) = ([[49], [49, 47, 50], [49, 47, 50], [49, 47, 52], [49, 47, 52], [49, 47, 52], [49, 47, 52]], 0) := by
 unfold zDY
 rw [if_neg (fun h => h zN8)]
 exact allV_f (by decide +kernel)
theorem gBest : zGv zA4 0 zFj = ([49], [⟨0, [[48], [49]]⟩], 0) := by
 have e1 : zHY zA4 0 zFj = 0 := by decide +kernel
 have e2 : zEK (zIW zA4 0 zFj) = ([49], 0) := IsQ.out (show IsQ [49] _ by decide +kernel)
 have e3 : zFO zA4 0 (zAw zA4 0 zFj) = [⟨0, [[48], [49]]⟩] := by
   have h1 : zd zA4 0 = [0] := by decide +kernel
   have h2 : bestC zA4 0 (zAw zA4 0 zFj) 0 = 1 := by decide +kernel
   have h3 : zc zA4 0 0 = 2 := by decide +kernel
   unfold zFO
   rw [h1]
   show [zBg zA4 0 (zAw zA4 0 zFj) 0] = _
   unfold zBg
   rw [h2, h3]; rfl
 unfold zGv
 rw [if_neg (fun h => h e1), e2, if_neg (fun h => h rfl), e3]
theorem gCheck0 : zDC zA4 [] (zCa 3) = 3 := by decide +kernel
theorem zPj : zW Tryz.prog 15 [] (.bool true) := by
 have c1 := zPB zA4 (zCa 0) (zCa 3) zOT
 rw [gValue] at c1
 have c2 := zMk zA4 (zCa 0) (zCa 3) zOT
 rw [gOdds] at c2
 have c2 : zW Tryz.prog 21 [.ro (zZ zA4) 0 7, .ro (zAO (zCa 0)) 0 1, .ro (zAO (zCa 3)) 0 1] (.tup [.ro (.strs [[49], [49, 47, 50], [49, 47, 50], [49, 47, 52], [49, 47, 52], [49, 47, 52], [49, 47, 52]]) 0 7, .int .i64 0]) := c2
 have c3 := best_ok zA4 0 zFj gSmall1
 rw [gBest] at c3
 have c3 : zW Tryz.prog 18 [.ro (zZ zA4) 0 7, .int .i64 0, .ro (zAO zFj) 0 1] (.tup [.str [49], .ro (zAO [⟨0, [[48], [49]]⟩]) 0 1, .int .i64 0]) := c3
 have c4 := zHK zA4 [] (zCa 3) zLA ⟨by decide, fun c hc => by simp at hc⟩ (zKm 3)
 rw [gCheck0] at c4
 have c4' : zW Tryz.prog 63 [.ro (zZ zA4) 0 7, .nil, .ro (zAO (zCa 3)) 0 1] (.int .i64 3) := fun H => zM.args (c4 H) ⟨AEq.rfl', AEq.nil, AEq.rfl', trivial⟩
 have f3 : zW Tryz.prog 24 [.ro (.ints .i64 [0, 0, 0]) 0 3] (.bool true) := fineI [0, 0, 0] (by decide)
 have v1 := equalR [[48], [49]] [[48], [49]] (by decide) (by decide)
 rw [decide_eq_true rfl] at v1
 refine zM.value0 (zG (P := Tryz.prog) (fn := Tryz.f15) rfl rfl (by kernel_rfl) rfl (fun c hR hfix => ?_)) (fix := fun _ => False) (fun _ h => h) rfl rfl
 refine rn0 ?_
 refine zF rfl rfl rfl zHQ ?_
 skip
 refine zF rfl rfl rfl (zHR 0) ?_
 skip
 refine zF rfl rfl rfl (zHR 3) ?_
 skip
 refine zF rfl rfl rfl c1 ?_
 unfold zJH
 refine rn2 ?_
 refine zF rfl rfl rfl zHQ ?_
 skip
 refine zF rfl rfl rfl (zHR 0) ?_
 skip
 refine zF rfl rfl rfl (zHR 3) ?_
 skip
 refine zF rfl rfl rfl c2 ?_
 refine rn2 ?_
 refine zF rfl rfl rfl zHQ ?_
 repeat (first | refine zB (zAR rfl rfl rfl rfl rfl rfl) ?_ | refine zk rfl rfl rfl rfl rfl rfl rfl rfl rfl rfl rfl ?_)
 refine zL 26 (.ro (zAO zFj) 0 1) rfl (AEq.ro_in rfl (fun d j hd hj => ?_)) ?_
 · have hj : j < 2 := hj
   have hj3 : j = 0 ∨ j = 1 := by omega
   obtain rfl : d = 0 := by omega
   rcases hj3 with rfl | rfl <;> exact AEq.rfl'
 refine zF rfl rfl rfl c3 ?_
 refine rn3 ?_
 refine zF rfl rfl rfl f3 ?_
 repeat (first | refine zB (zH rfl) ?_ | refine zAA rfl rfl ?_ | refine zB (zBw rfl rfl rfl) ?_ | refine zB (zCT rfl rfl rfl rfl) ?_ | refine zB (zEe rfl rfl) ?_ | refine zB (zAW rfl rfl) ?_ | refine zB (zA8 rfl rfl rfl) ?_ | refine zB (ze rfl rfl rfl rfl (by first | (simp only [Nat.zero_add, Int.toNat_natCast, Int.toNat_zero]; exact rfl) | exact rfl) (by omega)) ?_ | refine zB (zGO rfl rfl) ?_ | refine zB (zA9 rfl rfl rfl rfl rfl rfl) ?_ | refine zk rfl rfl rfl rfl rfl rfl rfl rfl rfl rfl rfl ?_)
 refine zF rfl rfl rfl v1 ?_
 refine rn2 ?_
 refine zF rfl rfl rfl zHQ ?_
 repeat (refine zAA rfl rfl ?_)
 refine zF rfl rfl rfl (zHR 3) ?_
 repeat (refine zAA rfl rfl ?_)
 refine zF rfl rfl rfl c4' ?_
 refine rn4 ?_
 exact zI hR rfl rfl
end Go.Proofs.YtnkealfaldjipaaGreatDoor
namespace Go.Proofs.YtnkealfaldjipaaGreatDoor
open Go.Ax Go.Ax.Bg Go.Ax.Rt Go.RowKit Go.Ax.Idx Go.Ax.Cd
attribute [local irreducible] Ax zAM QOp zM zp
set_option maxRecDepth 100000
set_option maxHeartbeats 4000000
end Go.Proofs.YtnkealfaldjipaaGreatDoor
namespace Go.Ax.Rt
open Go.Ax.Bg
theorem zKV {B K : Nat} (hB : B ≠ 0) (hK : B < 10 ^ K) (hK2 : K ≤ 2000) {qs : List Rat} (hn : qs.length ≤ 256) (h : ∀ q ∈ qs, Dv B q ∧ 0 ≤ q ∧ zBp q = true) (h1 : zAk 0 qs ≤ 1) : zDi (qs.map zAK) = (zAk 0 qs, 0) := by
 have v1 : (qs.map zAK).map zAU = qs := by
   rw [List.map_map]
   conv => rhs; rw [← List.map_id qs]
   exact List.map_congr_left (fun q hq => (zHy (h q hq).2.2).2)
 have v2 : zDv (qs.map zAK) = 0 := zLg (fun s hs => by
   obtain ⟨q, hq, rfl⟩ := List.mem_map.1 hs
   exact (zHy (h q hq).2.2).1)
 have v3 := zLq hB hK hK2 qs 0 (Dv.zero B) Rat.le_refl (fun q hq => ⟨(h q hq).1, (h q hq).2.1⟩) h1
 have v4 := zJY qs 0 v3
 unfold zDi
 rw [if_neg (by rw [List.length_map]; omega), if_pos v2, v1]
 exact Prod.ext v4 v3
theorem zP2 {B K : Nat} (hB : B ≠ 0) (hK : B < 10 ^ K) (hK2 : K ≤ 2000) {qs : List Rat} (hn : qs.length ≤ 256) (h : ∀ q ∈ qs, Dv B q ∧ 0 ≤ q ∧ zBp q = true) (h1 : zAk 0 qs ≤ 1) (hf : zBp (zAk 0 qs) = true) : sumT (qs.map zAK) = (zAK (zAk 0 qs), 0) := by
 unfold sumT
 rw [zKV hB hK hK2 hn h h1, if_pos rfl]
 exact (zHy hf).out
theorem zNG {B K : Nat} (hB : B ≠ 0) (hK : B < 10 ^ K) (hK2 : K ≤ 2000) {qs : List Rat} (hn : qs.length ≤ 256) (h : ∀ q ∈ qs, Dv B q ∧ 0 ≤ q ∧ zBp q = true) (h1 : zAk 0 qs = 1) : zCm (qs.map zAK) = 0 := by
 have hs := zKV hB hK hK2 hn h (by rw [h1]; exact Rat.le_refl)
 have hneg : (qs.map zAK).any zCf = false := by
   rw [List.any_eq_false]
   intro s hs
   obtain ⟨q, hq, rfl⟩ := List.mem_map.1 hs
   have hi := zHy (h q hq).2.2
   have := (zKL hi.1).2 (by rw [hi.2]; exact (h q hq).2.1)
   rw [this]; simp
 have hp : zJK (qs.map zAK) = 0 := by
   unfold zJK
   rw [hs]
   show (if ((0 : Int) = 0 ∧ (qs.map zAK).any zCf = true) then _ else _) = _
   rw [if_neg (fun q => by rw [hneg] at q; exact absurd q.2 (by decide))]
 unfold zCm
 rw [if_pos hp, hs, h1]
 rfl
end Go.Ax.Rt
namespace Go.Ax.Rt
open Go.Ax.Bg
/-- the texts at some nodes -/
def zCP (T : List (List UInt8)) (l : List Int) : List (List UInt8) := l.map (fun j => T.getD j.toNat [])
theorem zFD (T : List (List UInt8)) (l : List Int) : (zCP T l).length = l.length := by unfold zCP; rw [List.length_map]
theorem zNe (T : List (List UInt8)) (l : List Int) (j : Int) : zCP T (l ++ [j]) = zCP T l ++ [T.getD j.toNat []] := by unfold zCP; rw [List.map_append]; rfl
theorem zNk {t : zT} {o : z7} (hv : Valid t) (ho : OddsAll t o 12) (hn : t.length ≤ 40) {T : List (List UInt8)} (hT : T = (zU t o).map zAK) :
   zA2 (zU t o) = (T, 0) ∧ T.length = t.length ∧ T.getD 0 [] = [49] ∧ (∀ s ∈ T, s.length ≤ 9223372036854775807) ∧
   (∀ i, i < t.length → (t.getD i node0).kind ≠ 0 → sumT (zCP T (t.getD i node0).next) = (T.getD i [], 0)) ∧ zCm (zCP T (zAY t t.length)) = 0 := by
 have hlen : (zU t o).length = t.length := zCI t _ _
 have hB := zJq o t.length
 have hK : Bd o t.length < 10 ^ (12 * 40 + 1) := (zIu hv ho hn (j := 0) (by have := hv.ne; omega)).2
 have hK2 : 12 * 40 + 1 ≤ 2000 := by decide
 have hq : ∀ j, j < t.length → Dv (Bd o t.length) ((zU t o).getD j 0) ∧ 0 ≤ (zU t o).getD j 0 ∧ zBp ((zU t o).getD j 0) = true := fun j hj =>
   ⟨(zIu hv ho hn hj).1, (zD6 hv ho j hj).2, ((zD0 hv ho.w hn hj).out (by decide)).2.fit⟩
 have hTj : ∀ j, j < t.length → T.getD j [] = zAK ((zU t o).getD j 0) := fun j hj => by
   rw [hT, zCt zAK _ 0 [] j (by omega)]
 have hks : ∀ i, i < t.length → ∀ j ∈ zFZ t i, j < t.length := fun i hi j hj => by
   unfold zFZ at hj
   obtain ⟨x, hx, rfl⟩ := List.mem_map.1 hj
   have := hv.behind hi x hx
   omega
 have hall : ∀ q ∈ zU t o, zBp q = true := fun q h => by
   obtain ⟨j, hj, rfl⟩ := List.getElem_of_mem h
   have e : (zU t o).getD j 0 = (zU t o)[j] := zAe 0 hj
   rw [← e]
   exact (hq j (by omega)).2.2
 have hmap : ∀ ks : List Nat, (∀ j ∈ ks, j < t.length) → ks.map (fun j => T.getD j []) = (ks.map (fun j => (zU t o).getD j 0)).map zAK := fun ks h => by
   rw [List.map_map]
   exact List.map_congr_left (fun j hj => hTj j (h j hj))
 have hall2 : ∀ ks : List Nat, (∀ j ∈ ks, j < t.length) → ∀ q ∈ ks.map (fun j => (zU t o).getD j 0), Dv (Bd o t.length) q ∧ 0 ≤ q ∧ zBp q = true := fun ks h q hm => by
   obtain ⟨j, hj, rfl⟩ := List.mem_map.1 hm
   exact hq j (h j hj)
 refine ⟨?_, by rw [hT, List.length_map, hlen], ?_, ?_, ?_, ?_⟩
 · unfold zA2
   rw [if_pos (List.all_eq_true.2 hall), ← hT]
 · rw [hTj 0 (by have := hv.ne; omega), zCR hv]
   decide +kernel
 · intro s hs
   rw [hT] at hs
   obtain ⟨q, h1, rfl⟩ := List.mem_map.1 hs
   have hf := hall q h1
   unfold zBp at hf
   rw [Bool.and_eq_true, decide_eq_true_eq, decide_eq_true_eq] at hf
   unfold zAK
   rw [List.length_append, List.length_append]
   split <;> split <;> simp <;> omega
 · intro i hi hk
   have e : zCP T (t.getD i node0).next = (zFZ t i).map (fun j => T.getD j []) := by unfold zCP zFZ; rw [List.map_map]; rfl
   have hs := zJA hv ho.toOddsOK hi hk
   have hkl : (zFZ t i).length ≤ 256 := by
     unfold zFZ
     rw [List.length_map]
     rcases hv.child hi with h | h
     · exact absurd h.1 hk
     · have := (zBb h.2).2.1; omega
   rw [e, hmap _ (hks i hi), zP2 (by omega) hK hK2 (by rw [List.length_map]; exact hkl) (hall2 _ (hks i hi)) (by rw [hs]; exact reach_le hv ho i hi) (by rw [hs]; exact (hq i hi).2.2), hs, hTj i hi]
 · have e : zCP T (zAY t t.length) = (zt t).map (fun j => T.getD j []) := by
     unfold zCP
     rw [zGd, List.map_map]
     exact List.map_congr_left (fun j _ => rfl)
   have he : ∀ j ∈ zt t, j < t.length := fun j hj => by
     unfold zt at hj
     exact List.mem_range.1 (List.mem_filter.1 hj).1
   have hel : (zt t).length ≤ t.length := by
     unfold zt
     have := List.length_filter_le (fun i => decide ((t.getD i node0).kind = 0)) (List.range t.length)
     rwa [List.length_range] at this
   rw [e, hmap _ he]
   exact zNG (by omega) hK hK2 (by rw [List.length_map]; omega) (hall2 _ he) (zMo hv ho.toOddsOK)
end Go.Ax.Rt
namespace Go.Proofs.YtnkealfaldjipaaGreatDoor
open Go.Ax Go.Ax.Bg Go.Ax.Rt Go.RowKit Go.Ax.Idx Go.Ax.Cd
attribute [local irreducible] Ax zAM QOp zM zp
set_option maxRecDepth 100000
set_option maxHeartbeats 4000000
/-- the texts of the ends so far -/
abbrev zF9 (T : List zAG) (t : zT) (i : Nat) : List zAG := zCP T (zAY t i)
theorem zO8 {t : zT} (h : Valid t) : 0 < t.length := Nat.pos_of_ne_zero h.ne
theorem zJG (l : List zAG) (n : Nat) : zA0 n (.strs l) := fun _ _ _ _ => rfl
theorem zIN {T : List zAG} (h : ∀ s ∈ T, s.length ≤ 9223372036854775807) (l : List Int) : ∀ s ∈ zCP T l, s.length ≤ 9223372036854775807 := fun s hs => by
 unfold zCP at hs
 obtain ⟨j, _, rfl⟩ := List.mem_map.1 hs
 by_cases hj : j.toNat < T.length
 · exact h _ (zAz [] hj)
 · simp [List.getD, List.getElem?_eq_none (by omega : T.length ≤ j.toNat)]
theorem zNd (T : List zAG) (t : zT) (i : Nat) : zF9 T t (i + 1) = if (t.getD i node0).kind = 0 then zF9 T t i ++ [T.getD i []] else zF9 T t i := by
 show zCP T (zAY t (i + 1)) = _
 rw [zG9]
 split
 · rw [zNe]; rfl
 · rfl
theorem zKR (T : List zAG) (t : zT) (i : Nat) : (zF9 T t i).length ≤ i := by
 show (zCP T _).length ≤ i
 rw [zFD]; exact zFA t i
theorem zKD (t : zT) (a b : zAX) (hT : t.length ≤ 9223372036854775807 ∧ ∀ n ∈ t, ShortN n) (ha : a.length ≤ 9223372036854775807 ∧ ∀ c ∈ a, ShortC c) (hb : b.length ≤ 9223372036854775807 ∧ ∀ c ∈ b, ShortC c) (ha47 : a.length ≤ 4398046511104) (hb47 : b.length ≤ 4398046511104) : zW Tryz.prog 4 [.ro (zZ t) 0 t.length, .ro (zAO a) 0 a.length, .ro (zAO b) 0 b.length] (.bool true) := by
 have hS : ShortT t := ⟨hT.1, hT.2⟩
 have hSa : ShortS a := ⟨ha.1, ha.2⟩
 have hSb : ShortS b := ⟨hb.1, hb.2⟩
 have c1 := zPp t hS
 have c2 := zPV [a, b] (show 2 ≤ 1000000 by decide) (by show ((a.length : Int) + ((b.length : Int) + 0)) ≤ _; omega) (fun x hx c hc => by simp at hx; rcases hx with rfl | rfl; exact ha.2 c hc; exact hb.2 c hc)
 refine zM.value0 (zG (P := Tryz.prog) (fn := Tryz.f4) rfl rfl (by kernel_rfl) rfl (fun c hR hfix => ?_)) (fix := fun _ => False) (fun _ h => h) rfl rfl
 refine rn0 ?_
 refine zF rfl rfl rfl zPj ?_
 refine rn5 ?_
 refine zF rfl rfl rfl c1 ?_
 cases hmo : zHm t
 · refine rn6 ?_
   exact zI hR rfl rfl
 have hm := zIe hmo
 refine rn5 ?_
 refine zL 25 (.ro (zEu [a, b]) 0 2) rfl (AEq.ro_in rfl (fun d j hd hj => ?_)) ?_
 · have hj : j < 1 := hj
   obtain rfl : j = 0 := by omega
   have hd : d = 0 ∨ d = 1 := by omega
   rcases hd with rfl | rfl <;> exact AEq.rfl'
 refine zF rfl rfl rfl c2 ?_
 cases hpl : zJ4 [a, b]
 · refine rn5 ?_
   exact zI hR rfl rfl
 have hda := zJe hpl a (by simp)
 have hdb := zJe hpl b (by simp)
 have hsm : Small t [a, b] := ⟨hS, hm, fun x hx => by simp at hx; rcases hx with rfl | rfl; exact hSa; exact hSb, fun x hx => by simp at hx; rcases hx with rfl | rfl; exact hda; exact hdb⟩
 have c3 := zMk t a b hsm
 unfold vecP at c3
 by_cases hE : zDC t a b = 0
 case neg =>
   have h3 : zDY t a b = ([], zDC t a b) := by unfold zDY; rw [if_pos hE]
   rw [h3] at c3
   generalize zDC t a b = E at *
   simp only [List.length_nil] at c3
   refine rn5 ?_
   refine zF rfl rfl rfl c3 ?_
   refine rn3 ?_
   rw [decide_eq_true (show ¬ E = 0 from hE)]
   refine rn5 ?_
   exact zI hR rfl rfl
 obtain ⟨hv, ea, eb⟩ := zGM hE
 have sa := hsm.str (s := a) (by simp) ea
 have sb := hsm.str (s := b) (by simp) eb
 obtain ⟨hO, hTl, hT0, hTs, hsum, hodds⟩ := zNk hv (zFw hv hm sa.str sb.str) hm.len (T := (zU t (zA1 t a b)).map zAK) rfl
 have h3 : zDY t a b = ((zU t (zA1 t a b)).map zAK, 0) := by unfold zDY; rw [if_neg (fun h => h hE)]; exact hO
 rw [h3] at c3
 simp only [hTl] at c3
 clear hO h3
 generalize (zU t (zA1 t a b)).map zAK = T at *
 have hm40 := hm.len
 have htp := zO8 hv
 refine rn5 ?_
 refine zF rfl rfl rfl c3 ?_
 refine rn4 ?_
 refine zu rfl rfl (fun g => absurd rfl g) (fun g => ?_)
 repeat (first | refine zB (zH rfl) ?_ | refine zC ?_ | refine zA ?_ | refine zAA rfl rfl ?_ | refine zB (zBw rfl rfl rfl) ?_ | refine zB (zAW rfl rfl) ?_ | refine zB (ze rfl rfl rfl rfl (by first | (simp only [Nat.zero_add, Int.toNat_natCast, Int.toNat_zero]; exact rfl) | exact rfl) (by omega)) ?_ | refine zB (zEE rfl rfl) ?_)
 refine zE rfl (fun h => absurd hT0 h) (fun _ => ?_)
 repeat (first | refine zB (zH rfl) ?_ | refine zB (zK rfl) ?_ | refine zC ?_ | refine zA ?_ | refine zY ?_ | refine zJ rfl ?_ | refine zl ?_ | refine zB (zA8 rfl rfl rfl) ?_)
 refine zBT 9 ⟨27, .strs []⟩ rfl rfl ?_
 repeat (refine zz ?_)
 refine zj (ι := Nat) (fun i => [(0, .ro (zZ t) 0 t.length), (7, .ro (.strs T) 0 t.length), (9, .sl 0 0 (zF9 T t i).length), (52, .ro (zZ t) 0 t.length), (53, .int .i64 (t.length : Nat)), (54, .int .i64 (i : Nat))]) (fun i => [some ⟨27, .strs (zF9 T t i)⟩])
   (fun i => i ≤ t.length) (fun i => t.length - i) 0 ⟨⟨rfl, rfl, rfl, rfl, rfl, rfl, trivial⟩, rfl, Nat.zero_le _⟩ ?_
 intro i hi
 refine rn4 ?_
 refine zE rfl (fun h => ?_) (fun h => ?_)
 · have hi' : i < t.length := by omega
   have hsn := zNd T t i
   have hel := zKR T t i
   have hsi := hsum i hi'
   have hbe := hv.behind hi'
   have hnl : (t.getD i node0).next.length ≤ 6 := by
     rcases hv.child hi' with q | q
     · rw [q.2]; exact Nat.zero_le _
     · exact (zBb q.2).2.1
   generalize hE2 : zF9 T t (i + 1) = E2 at *
   generalize zF9 T t i = E at *
   refine rn6 ?_
   refine zL 58 (.agg (zBO (t.getD i node0))) rfl (AEq.of_eq rfl) ?_
   generalize t.getD i node0 = n at *
   obtain ⟨kd, pl, nf, nx, od, py⟩ := n
   simp only at *
   refine zQ (c' := .box [.int .i64 kd, .int .i64 pl, .int .i64 nf, .ro (.ints .i64 nx) 0 nx.length, .ro (.strs od) 0 od.length, .str py]) rfl rfl rfl rfl rfl Nat.zero_lt_one rfl rfl (fun i' j' hi' hj' => ?_) ?_
   · rw [if_pos (Nat.lt_one_iff.1 hi')]; rfl
   refine zAZ [some ⟨27, .strs E⟩, some ⟨40, .box [.int .i64 kd, .int .i64 pl, .int .i64 nf, .ro (.ints .i64 nx) 0 nx.length, .ro (.strs od) 0 od.length, .str py]⟩] rfl ?_
   refine zL 11 (.ptr 1 0 0) rfl (AEq.of_eq rfl) ?_
   refine rn5 ?_
   refine zE rfl (fun h1 => ?_) (fun h1 => ?_)
   · rw [if_pos h1] at hsn
     repeat (first | refine zB (zH rfl) ?_ | refine zY ?_ | refine zJ rfl ?_ | refine zB (zBw rfl rfl rfl) ?_ | refine zB (ze rfl rfl rfl rfl (by first | (simp only [Nat.zero_add, Int.toNat_natCast, Int.toNat_zero]; exact rfl) | exact rfl) (by omega)) ?_ | refine zk rfl rfl rfl rfl rfl rfl rfl rfl rfl rfl rfl ?_)
     refine zn rfl rfl rfl rfl rfl rfl rfl rfl rfl rfl rfl rfl (by show 0 + 1 ≤ 1; omega) rfl (by show (E.length + 1) * 16 ≤ _ ∧ _; omega) (fun i j _ _ => rfl) (by rw [hfix]; exact fun h => h) ?_
     repeat (first | refine zB (zK rfl) ?_ | refine zC ?_)
     refine zA ?_
     refine zAt [some ⟨27, .strs (E ++ [T.getD i []])⟩] [some ⟨40, .box [.int .i64 kd, .int .i64 pl, .int .i64 nf, .ro (.ints .i64 nx) 0 nx.length, .ro (.strs od) 0 od.length, .str py]⟩] [(0, .ro (zZ t) 0 t.length), (7, .ro (.strs T) 0 t.length), (9, .sl 0 0 (E.length + 1)), (52, .ro (zZ t) 0 t.length), (53, .int .i64 (t.length : Nat)), (54, .int .i64 (i : Nat))] rfl ⟨rfl, rfl, rfl, rfl, rfl, rfl, trivial⟩ (fun h hh => by rw [hfix] at hh; exact absurd hh id) (zCi (zJG _ _)) rfl ?_
     refine rn5 ?_
     exact zN ⟨i + 1, by omega, by omega, ⟨rfl, rfl, by rw [hE2, hsn, List.length_append]; rfl, rfl, rfl, rfl, trivial⟩, by rw [hE2, hsn]⟩
   · rw [if_neg h1] at hsn
     have hs := hsi h1
     repeat (first | refine zB (zH rfl) ?_ | refine zB (zK rfl) ?_ | refine zC ?_ | refine zA ?_ | refine zY ?_ | refine zJ rfl ?_ | refine zl ?_ | refine zB (zS rfl rfl rfl rfl rfl) ?_ | refine zB (zA8 rfl rfl rfl) ?_ | refine zB (zP rfl rfl rfl rfl rfl rfl) ?_)
     refine zBT 12 ⟨27, .strs []⟩ rfl rfl ?_
     repeat (refine zz ?_)
     refine zj (ι := Nat) (fun k => [(0, .ro (zZ t) 0 t.length), (7, .ro (.strs T) 0 t.length), (9, .sl 0 0 E.length), (52, .ro (zZ t) 0 t.length), (53, .int .i64 (t.length : Nat)), (54, .int .i64 (i : Nat)), (10, .int .i64 (i : Nat)), (12, .sl 2 0 k), (70, .ro (.ints .i64 nx) 0 nx.length), (71, .int .i64 (nx.length : Nat)), (72, .int .i64 (k : Nat))]) (fun k => [some ⟨27, .strs E⟩, some ⟨40, .box [.int .i64 kd, .int .i64 pl, .int .i64 nf, .ro (.ints .i64 nx) 0 nx.length, .ro (.strs od) 0 od.length, .str py]⟩, some ⟨27, .strs (zCP T (nx.take k))⟩])
       (fun k => k ≤ nx.length) (fun k => nx.length - k) 0 ⟨⟨rfl, rfl, rfl, rfl, rfl, rfl, rfl, rfl, rfl, rfl, rfl, trivial⟩, rfl, Nat.zero_le _⟩ ?_
     intro k hk
     refine rn4 ?_
     refine zE rfl (fun h2 => ?_) (fun h2 => ?_)
     · have hk' : k < nx.length := by omega
       have hj := hbe _ (zAz 0 hk')
       have htk : zCP T (nx.take (k + 1)) = zCP T (nx.take k) ++ [T.getD (nx.getD k 0).toNat []] := zDV (fun j : Int => T.getD j.toNat []) nx 0 k hk'
       have hpl : (zCP T (nx.take k)).length = k := by rw [zFD, List.length_take]; omega
       generalize zCP T (nx.take k) = P at *
       repeat (first | refine zB (zH rfl) ?_ | refine zB (zK rfl) ?_ | refine zB (zA3 rfl rfl rfl) ?_ | refine zC ?_ | refine zA ?_ | refine zY ?_ | refine zJ rfl ?_ | refine zz ?_ | refine zl ?_ | refine zB (zBw rfl rfl rfl) ?_ | refine zB (ze rfl rfl rfl rfl (by first | (simp only [Nat.zero_add, Int.toNat_natCast, Int.toNat_zero]; exact rfl) | exact rfl) (by omega)) ?_ | refine zk rfl rfl rfl rfl rfl rfl rfl rfl rfl rfl rfl ?_)
       refine zn rfl rfl rfl rfl rfl rfl rfl rfl rfl hpl rfl rfl (by show 0 + 1 ≤ 1; omega) rfl (by show (k + 1) * 16 ≤ _ ∧ _; omega) (fun i j _ _ => rfl) (by rw [hfix]; exact fun h => h) ?_
       refine rn5 ?_
       exact zN ⟨k + 1, by omega, by omega, ⟨rfl, rfl, rfl, rfl, rfl, rfl, rfl, rfl, rfl, rfl, rfl, trivial⟩, by rw [htk]; rfl⟩
     · have hk' : k = nx.length := by omega
       subst hk'
       rw [List.take_length]
       have cs := rsum_ok (zCP T nx) (by rw [zFD]; omega) (zIN hTs nx)
       rw [hs, zFD] at cs
       have hpl := zFD T nx
       unfold zJH at cs
       generalize zCP T nx = P at *
       repeat (first | refine zA ?_ | refine zY ?_ | refine zAs ?_ | refine zq ?_ | refine zr ?_ | refine zAF ?_)
       refine zAx 2 12 nx.length [(0, .ro (zZ t) 0 t.length), (7, .ro (.strs T) 0 t.length), (9, .sl 0 0 E.length), (52, .ro (zZ t) 0 t.length), (53, .int .i64 (t.length : Nat)), (54, .int .i64 (i : Nat)), (10, .int .i64 (i : Nat))] rfl zC6 rfl (by show _ ≤ P.length; omega) ⟨rfl, rfl, rfl, rfl, rfl, rfl, rfl, trivial⟩ ?_
       refine rn0 ?_
       refine zF rfl rfl rfl cs ?_
       repeat (first | refine zB (zH rfl) ?_ | refine zB (zK rfl) ?_ | refine zC ?_ | refine zA ?_ | refine zY ?_ | refine zJ rfl ?_ | refine zAA rfl rfl ?_ | refine zB (zBw rfl rfl rfl) ?_ | refine zB (zGE rfl rfl) ?_ | refine zB (zAW rfl rfl) ?_ | refine zB (zB8 rfl rfl) ?_ | refine zB (ze rfl rfl rfl rfl (by first | (simp only [Nat.zero_add, Int.toNat_natCast, Int.toNat_zero]; exact rfl) | exact rfl) (by omega)) ?_ | refine zB (zEE rfl rfl) ?_)
       refine zE rfl (fun q => absurd rfl q) (fun _ => ?_)
       repeat (first | refine zg ?_ | refine zl ?_)
       refine zA ?_
       refine zAt [some ⟨27, .strs E⟩] [some ⟨40, .box [.int .i64 kd, .int .i64 pl, .int .i64 nf, .ro (.ints .i64 nx) 0 nx.length, .ro (.strs od) 0 od.length, .str py]⟩, none] [(0, .ro (zZ t) 0 t.length), (7, .ro (.strs T) 0 t.length), (9, .sl 0 0 E.length), (52, .ro (zZ t) 0 t.length), (53, .int .i64 (t.length : Nat)), (54, .int .i64 (i : Nat))] rfl ⟨rfl, rfl, rfl, rfl, rfl, rfl, trivial⟩ (fun h hh => by rw [hfix] at hh; exact absurd hh id) (zCi (zJG _ _)) rfl ?_
       refine rn3 ?_
       exact zN ⟨i + 1, by omega, by omega, ⟨rfl, rfl, by rw [hE2, hsn]; rfl, rfl, rfl, rfl, trivial⟩, by rw [hE2, hsn]⟩
 · have hie : i = t.length := by omega
   subst hie
   have co := zLI (zF9 T t t.length) (by have := zKR T t t.length; omega) (zIN hTs _)
   rw [show zCm (zF9 T t t.length) = 0 from hodds] at co
   generalize zF9 T t t.length = E at *
   repeat (first | refine zA ?_ | refine zY ?_ | refine zAs ?_ | refine zq ?_ | refine zr ?_ | refine zAF ?_)
   refine zAx 0 9 E.length [] rfl zC6 rfl (by show E.length ≤ E.length; exact Nat.le_refl _) trivial ?_
   refine rn0 ?_
   refine zF rfl rfl rfl co ?_
   refine rn4 ?_
   exact zI hR rfl rfl
end Go.Proofs.YtnkealfaldjipaaGreatDoor
namespace Go.Proofs.YtnkealfaldjipaaGreatDoor
open Go.ChangeShapes Go.WideShapes
theorem ownIt : ownKnob Tryz.prog.godebug = none := by kernel_rfl
theorem laidIt : laidOutB Tryz.prog = true := by kernel_rfl
theorem zOY : mapsRowed Tryz.prog = true := by kernel_rfl
theorem fullIt : ((List.range Tryz.prog.types.size).all fun t => match Tryz.prog.underlying t with | some (.slice e) => decide (0 < Tryz.prog.cellsOf e) | _ => true) = true := by kernel_rfl
theorem stopsIt : (Tryz.prog.stops == []) = true := by kernel_rfl
theorem knobsIt : (Tryz.prog.stopKnobs == []) = true := by kernel_rfl
theorem heardIt : Tryz.prog.stopsHeard = true := by kernel_rfl
theorem enterIt : Tryz.prog.mayEnter = true := by kernel_rfl
theorem liftIt : (Rows.replyGetsRow.lifted == Tryz.prog.liftsFinal) = true := by kernel_rfl
theorem makeIt : (Tryz.prog.make == some Rows.replyGetsRow.make) = true := by kernel_rfl
theorem plainIt : (Rows.replyGetsRow.plainKeys == Tryz.prog.plainKeys) = true := by kernel_rfl
theorem zP1 : Tryz.prog.mainIs = some (true, ("9a7b365347614a0287077179d20768685206a4b5ee48bcf94245b18e3653b2c2" : String).toList) := by kernel_rfl
theorem looksIt : true = Tryz.prog.looks [] := by kernel_rfl
end Go.Proofs.YtnkealfaldjipaaGreatDoor
