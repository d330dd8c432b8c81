import Derived.Test.YtnkealfaldjipaaGreatDoorY4
set_option linter.unusedVariables false
set_option linter.unusedSimpArgs false
namespace Go.Proofs.YtnkealfaldjipaaGreatDoor
open Go.Ax Go.Ax.Bg Go.Ax.Rt Go.RowKit Go.Ax.Idx Go.Ax.Cd
attribute [local irreducible] Ax zAL QOp zM zo
set_option maxRecDepth 100000
set_option maxHeartbeats 4000000
theorem zHR {α : Type} (d : α) (n : Nat) (e : α → List AV) (a b : List α) : CEq (.fn (a.length + b.length) n (fun i j => bif Nat.blt i a.length then (zB3 d n e a).at i j else (zB3 d n e b).at (0 + (i - a.length)) j)) (zB3 d n e (a ++ b)) := by
 refine ⟨by simp [zB3, Cells.len], rfl, fun i j hi hj => ?_⟩
 show (e ((a ++ b).getD i d)).getD j .any = bif Nat.blt i a.length then (e (a.getD i d)).getD j .any else (e (b.getD (0 + (i - a.length)) d)).getD j .any
 by_cases h : i < a.length
 · rw [show Nat.blt i a.length = true from Nat.ble_eq_true_of_le h, zFT d h]; rfl
 · have h2 : Nat.blt i a.length = false := by
     cases e : Nat.blt i a.length with
     | false => rfl
     | true => have : i + 1 ≤ a.length := Nat.le_of_ble_eq_true e
               omega
   rw [h2, Nat.zero_add]
   have : (a ++ b).getD i d = b.getD (i - a.length) d := by
     simp only [List.getD]
     rw [List.getElem?_append_right (by omega)]
   rw [this]; rfl
theorem zIQ (l : zCG) (hl : l.length ≤ 1000000) : zHV Tryz.prog 183 [.ro (zBO l) 0 l.length] (fun N => .sl N 0 l.length) ⟨208, zBO l⟩ := by
 refine zM.fresh (K := fun r H => r = .sl 0 0 l.length ∧ H = [some ⟨208, zBO l⟩]) (zG (P := Tryz.prog) (fn := Tryz.f183) rfl rfl (by kernel_rfl) rfl (fun c hR hfix => ?_)) (fix := fun _ => False) (fun _ h => h) rfl (fun H => ⟨rfl, by simp [zGs, inB]⟩) ?_
 · refine rn0 ?_
   refine zL9 rfl rfl rfl (fun b hb => ?_)
   refine rn0 ?_
   refine zDS rfl (fun h => ?_) (fun h => ?_)
   · have := hb h
     have hn : l = [] := List.length_eq_zero_iff.mp this
     subst hn
     repeat (first | refine zB (zK rfl) ?_ | refine zC ?_ | refine zA ?_ | refine zX ?_ | refine zJ rfl ?_)
     refine zBo 2 ⟨208, zBO []⟩ rfl rfl ?_
     refine rn2 ?_
     exact zI hR rfl ⟨rfl, rfl⟩
   · refine rn1 ?_
     refine zEy rfl rfl rfl rfl rfl rfl rfl rfl rfl rfl ?_
     refine zAx [some ⟨208, zBO []⟩] (zAJ.eqv ⟨rfl, rfl, fun i j hi => absurd hi (Nat.not_lt_zero _)⟩ zAJ.nil) ?_
     repeat (refine zB (zH rfl) ?_)
     refine zp rfl rfl rfl rfl rfl rfl rfl rfl rfl rfl rfl rfl (by show 0 + l.length ≤ l.length; omega) rfl (by show (0 + l.length) * 16 ≤ _ ∧ _; omega) ?_ (by rw [hfix]; exact fun h => h) ?_
     · intro i' j' hi' hj'
       have q := (zHR (0, 0) 2 zHG [] l).2.2 i' j' hi' hj'
       refine (congrArg (AV.forget 0) q.symm).trans (Eq.trans ?_ q)
       match j', hj' with
       | 0, _ => rfl
       | 1, _ => rfl
     refine zAx [some ⟨208, zBO l⟩] (zAJ.eqv (zHR (0, 0) 2 zHG [] l) zAJ.nil) ?_
     refine rn0 ?_
     refine zI hR rfl ⟨?_, rfl⟩
     show AV.sl 0 0 (0 + l.length) = _; rw [Nat.zero_add]
 · rintro r H ⟨rfl, rfl⟩
   refine ⟨?_, fun h o ho => zFp (zGt _) h o ho, 0, rfl, fun n => rfl⟩
   intro o ho; simp at ho; subst ho; show 0 + l.length ≤ l.length; omega
def zJf (w : zCG) : List AV := [.ro (zBO w) 0 w.length]
abbrev zBs (W : List zCG) : Cells := zB3 [] 1 zJf W
theorem zK1 {α : Type} (d : α) (e : α → List AV) (l : List α) (x : Nat) (a : α) (v : AV) (hx : x < l.length) (hv : v = (e a).getD 0 .any) : CEq (.fn l.length 1 (fun i' j' => bif Nat.beq i' x && Nat.beq j' 0 then v else (e (l.getD i' d)).getD j' .any)) (zB3 d 1 e (l.set x a)) := by
 refine ⟨by simp [zB3, Cells.len], rfl, fun i j hi hj => ?_⟩
 obtain rfl := Nat.lt_one_iff.1 (show j < 1 from hj)
 show (e ((l.set x a).getD i d)).getD 0 .any = bif Nat.beq i x && Nat.beq 0 0 then v else (e (l.getD i d)).getD 0 .any
 rw [Go.Ax.Dt.getD_set]
 by_cases h : i = x
 · subst h
   rw [if_pos ⟨rfl, hx⟩, hv, show Nat.beq i i = true from Nat.beq_refl i]; rfl
 · rw [if_neg (fun q => h q.1), zBg h]; rfl
theorem zL4 {α : Type} {v : Nat → α} {P : α → Prop} : ∀ (l : List Int) (k : Nat) (a : List α), (∀ x ∈ a, P x) → (∀ j, k ≤ j → j < k + l.length → P (v j)) → ∀ x ∈ zAl v l k a, P x
 | [], _, a, h, _ => h
 | c :: r, k, a, h, hv => by
   rw [zAl]
   refine zL4 r (k + 1) _ (fun x hx => ?_) (fun j h1 h2 => hv j (by omega) (by simp; omega))
   rcases List.mem_or_eq_of_mem_set hx with q | q
   · exact h x q
   · rw [q]; exact hv k (Nat.le_refl _) (by simp)
theorem zI8 {α : Type} {P : α → Prop} {l : List α} {d : α} (h : ∀ x ∈ l, P x) (hd : P d) (i : Nat) : P (l.getD i d) := by
 rcases Nat.lt_or_ge i l.length with q | q
 · exact h _ (zAj d q)
 · have : l.getD i d = d := by simp [List.getD, q]
   rw [this]; exact hd
theorem wayV_len (p : Int) (n : TNode) (w : zCG) (k : Nat) : (zH6 p n w k).length ≤ w.length + 1 := by
 unfold zH6
 split
 · rw [List.length_append]; exact Nat.le_refl _
 · omega
theorem zJo (t : zT) (p : Int) : ∀ i, ∀ w ∈ zBJ t p i, w.length ≤ i
 | 0, w, hw => by
   rw [(List.mem_replicate.1 hw).2]; exact Nat.le_refl _
 | i + 1, w, hw => by
   have ih := zJo t p i
   rw [zBJ, zFE] at hw
   refine zL4 (P := fun w : zCG => w.length ≤ i + 1) _ _ _ (fun x hx => Nat.le_succ_of_le (ih x hx)) (fun j _ _ => ?_) w hw
   have h1 := wayV_len p (t.getD i node0) ((zBJ t p i).getD i []) j
   have h2 : ((zBJ t p i).getD i []).length ≤ i := zI8 (P := fun w : zCG => w.length ≤ i) ih (Nat.zero_le _) i
   omega
theorem zNk {t : zT} (hv : Valid t) (p : Int) : ∀ w ∈ zDl t p, w.length ≤ 120 := fun w hw => Nat.le_trans (zJo t p t.length w hw) hv.le
theorem zLX (W : List zCG) : zz (zBs W) := by
 intro i j _ hj
 obtain rfl : j = 0 := by have hj : j < 1 := hj; omega
 rfl
theorem zJ7 (W : List zCG) (n : Nat) : zA2 n (zBs W) := by
 intro i j _ hj
 obtain rfl : j = 0 := by have hj : j < 1 := hj; omega
 rfl
theorem below2 {n : Nat} {o1 o2 : AObj} (h1 : zA2 n o1.c) (h2 : zA2 n o2.c) : ∀ (h : Nat) (o : AObj), ([some o1, some o2] : zQ)[h]? = some (some o) → zA2 n o.c := by
 intro h o ho
 match h, ho with
 | 0, ho => cases ho; exact h1
 | 1, ho => cases ho; exact h2
 | _ + 2, ho => simp at ho
theorem zNs (n : Nat) (kd pl nf : Int) (nx : List Int) (od : List zAK) (py : zAK) : zA2 n (.box [.int .i64 kd, .int .i64 pl, .int .i64 nf, .ro (.ints .i64 nx) 0 nx.length, .ro (.strs od) 0 od.length, .str py]) := by
 intro i j _ hj
 have hj : j < 6 := hj
 match j, hj with
 | 0, _ => rfl
 | 1, _ => rfl
 | 2, _ => rfl
 | 3, _ => rfl
 | 4, _ => rfl
 | 5, _ => rfl
theorem zL5 (W : List zCG) (h : Nat) : CEq ((zBs W).forget h) (zBs W) := by
 refine ⟨rfl, rfl, fun i j _ hj => ?_⟩
 have hj : j < 1 := hj
 match j, hj with
 | 0, _ => rfl
theorem ways_ok (t : zT) (p : Int) (hT : ShortT t) (hv : Valid t) : zV Tryz.prog 130 [.ro (zc t) 0 t.length, .int .i64 p] (.ro (zBs (zDl t p)) 0 t.length) := by
 have hlen := hT.len
 have h120 := hv.le
 refine zM.value0 (zG (P := Tryz.prog) (fn := Tryz.f130) rfl rfl (by kernel_rfl) rfl (fun c hR hfix => ?_)) (fix := fun _ => False) (fun _ h => h) rfl rfl
 refine rn3 ?_
 refine zCE rfl rfl rfl rfl rfl rfl rfl rfl (by show 0 ≤ _ ∧ _ ≤ _ ∧ (24 : Int) * _ ≤ _ ∧ _; omega) ?_
 refine zLl [some ⟨207, zBs (zBJ t p 0)⟩] rfl (fun h o' ho' => ?_) ?_
 · match h, ho' with
   | 0, ho' =>
     cases ho'
     refine ⟨_, rfl, rfl, ?_, rfl, fun i j hi hj => ?_⟩
     · show (List.replicate t.length ([] : zCG)).length = ((t.length : Nat) : Int).toNat
       rw [List.length_replicate]; omega
     · obtain rfl := Nat.lt_one_iff.1 (show j < 1 from hj)
       have e : (List.replicate t.length ([] : zCG)).getD i [] = [] := by
         simp only [List.getD, List.getElem?_replicate]
         split <;> rfl
       show AEq .nil ((zJf ((List.replicate t.length ([] : zCG)).getD i [])).getD 0 .any)
       rw [e]; exact AEq.nil
   | _ + 1, ho' => simp at ho'
 refine rn3 ?_
 refine zk (ι := Nat) (fun i => [(0, .ro (zc t) 0 t.length), (1, .int .i64 p), (5, .sl 0 0 t.length), (13, .ro (zc t) 0 t.length), (14, .int .i64 (t.length : Nat)), (15, .int .i64 (i : Nat))]) (fun i => [some ⟨207, zBs (zBJ t p i)⟩])
   (fun i => i ≤ t.length) (fun i => t.length - i) 0 ⟨⟨rfl, rfl, rfl, rfl, rfl, rfl, trivial⟩, rfl, Nat.zero_le _⟩ ?_
 intro i hi
 refine rn4 ?_
 refine zF rfl (fun h => ?_) (fun h => ?_)
 · have hi' : i < t.length := by omega
   have hsn := hT.node _ (zA7 node0 hi')
   have hbh := hv.behind hi'
   have hWl := zE8 t p i
   have hWs := zJo t p i
   have hnx : zBJ t p (i + 1) = zAl (zH6 p (t.getD i node0) ((zBJ t p i).getD i [])) (t.getD i node0).next 0 (zBJ t p i) := by rw [zBJ, zFE]
   generalize hW2 : zBJ t p (i + 1) = W2 at *
   generalize zBJ t p i = W at *
   obtain ⟨s1, s2, s3, s4⟩ := hsn
   refine rn6 ?_
   refine zL 19 (.agg (zBV (t.getD i node0))) rfl (AEq.of_eq rfl) ?_
   generalize hn : t.getD i node0 = n at *
   have hown : own p n = (decide (n.kind = 2) && decide (n.player = p)) := rfl
   obtain ⟨kd, pl, nf, nx, od, py⟩ := n
   simp only at *
   refine zR (c' := .box [.int .i64 kd, .int .i64 pl, .int .i64 nf, .ro (.ints .i64 nx) 0 nx.length, .ro (.strs od) 0 od.length, .str py]) rfl rfl rfl rfl rfl Nat.zero_lt_one rfl rfl (fun i' j' hi' hj' => ?_) ?_
   · rw [if_pos (Nat.lt_one_iff.1 hi')]; rfl
   refine zAn [some ⟨207, zBs W⟩, some ⟨40, .box [.int .i64 kd, .int .i64 pl, .int .i64 nf, .ro (.ints .i64 nx) 0 nx.length, .ro (.strs od) 0 od.length, .str py]⟩] rfl ?_
   generalize hv : zH6 p ⟨kd, pl, nf, nx, od, py⟩ (W.getD i []) = v at *
   refine rn5 ?_
   refine zk (ι := Nat) (fun j => [(0, .ro (zc t) 0 t.length), (1, .int .i64 p), (5, .sl 0 0 t.length), (6, .int .i64 (i : Nat)), (7, .ptr 1 0 0), (13, .ro (zc t) 0 t.length), (14, .int .i64 (t.length : Nat)), (15, .int .i64 (i : Nat)), (21, .ro (.ints .i64 nx) 0 nx.length), (22, .int .i64 (nx.length : Nat)), (23, .int .i64 (j : Nat))]) (fun j => [some ⟨207, zBs (zAl v (nx.take j) 0 W)⟩, some ⟨40, .box [.int .i64 kd, .int .i64 pl, .int .i64 nf, .ro (.ints .i64 nx) 0 nx.length, .ro (.strs od) 0 od.length, .str py]⟩])
     (fun j => j ≤ nx.length) (fun j => nx.length - j) 0 ⟨⟨rfl, rfl, rfl, rfl, rfl, rfl, rfl, rfl, rfl, rfl, rfl, trivial⟩, rfl, Nat.zero_le _⟩ ?_
   intro j hj
   refine rn4 ?_
   refine zF rfl (fun h5 => ?_) (fun h5 => ?_)
   · have hj' : j < nx.length := by omega
     obtain ⟨b1, b2⟩ := hbh _ (zAj 0 hj')
     have hAl : (zAl v (nx.take j) 0 W).length = t.length := by rw [zC2]; exact hWl
     have hAi : (zAl v (nx.take j) 0 W).getD i [] = W.getD i [] := zBW v [] _ _ _ (fun c hc => by have := hbh c (List.mem_of_mem_take hc); omega)
     have hst : zAl v (nx.take (j + 1)) 0 W = (zAl v (nx.take j) 0 W).set (nx.getD j 0).toNat (v j) := by
       rw [zCi hj', zDC, List.length_take, Nat.min_eq_left hj, Nat.zero_add]
     have hw0 : (W.getD i []).length ≤ i := zI8 (P := fun w : zCG => w.length ≤ i) hWs (Nat.zero_le _) i
     have hvj : v j = zH6 p ⟨kd, pl, nf, nx, od, py⟩ (W.getD i []) j := by rw [hv]
     unfold zH6 at hvj
     rw [hown] at hvj
     simp only at hvj
     generalize hA2 : zAl v (nx.take (j + 1)) 0 W = A2 at *
     generalize zAl v (nx.take j) 0 W = A at *
     generalize W.getD i [] = w0 at *
     obtain ⟨x, hx⟩ := Int.eq_ofNat_of_zero_le (show 0 ≤ nx.getD j 0 by omega)
     rw [hx] at b1 b2 hst
     rw [Int.toNat_natCast] at hst
     have hxl : x < A.length := by omega
     have gi : i < (zBs A).len := by show i < A.length; omega
     have gx : x < (zBs A).len := hxl
     have hA1i : (A.set x w0).getD i [] = w0 := by rw [Go.Ax.Dt.getD_set, if_neg (by omega)]; exact hAi
     have hA1l : (A.set x w0).length = t.length := by rw [List.length_set]; exact hAl
     have gi1 : i < (zBs (A.set x w0)).len := by show i < (A.set x w0).length; omega
     have gx1 : x < (zBs (A.set x w0)).len := by show x < (A.set x w0).length; omega
     have hw0l : w0.length ≤ 1000000 := by omega
     repeat (first | refine zB (zH rfl) ?_ | refine zB (zK rfl) ?_ | refine zB (zA8 rfl rfl rfl) ?_ | refine zC ?_ | refine zA ?_ | refine zX ?_ | refine zJ rfl ?_ | refine zAB ?_ | refine zl ?_ | refine zB (zS rfl rfl rfl rfl rfl) ?_ | refine zB (zEj rfl rfl) ?_ | refine zB (zi rfl rfl rfl rfl (by first | (simp only [Nat.zero_add, Int.toNat_natCast, Int.toNat_zero]; exact rfl) | exact rfl) (by omega)) ?_ | refine zB (zZ rfl rfl rfl rfl rfl (by first | (simp only [Nat.zero_add, Int.toNat_natCast, Int.toNat_zero]; exact rfl) | exact rfl) (by omega)) ?_ | refine zB (zEZ rfl rfl rfl rfl rfl (by first | assumption | omega)) ?_ | refine zB (zP rfl rfl rfl rfl rfl rfl) ?_ | refine zAh rfl rfl rfl rfl rfl rfl rfl (by first | assumption | (show _ < List.length _; first | assumption | omega)) ?_)
     refine zL 33 (.ro (zBO w0) 0 w0.length) rfl (AEq.of_eq (by rw [← hAi]; rfl)) ?_
     refine zL 29 (.int .i64 (x : Nat)) rfl (AEq.of_eq (by rw [hx])) ?_
     refine zL 9 (.int .i64 (x : Nat)) rfl (AEq.of_eq (by rw [hx])) ?_
     have hxn : (nx.getD j 0).toNat = x := by rw [hx, Int.toNat_natCast]
     refine zAx [some ⟨207, zBs (A.set x w0)⟩, some ⟨40, .box [.int .i64 kd, .int .i64 pl, .int .i64 nf, .ro (.ints .i64 nx) 0 nx.length, .ro (.strs od) 0 od.length, .str py]⟩] (by rw [← hxn]; exact zAJ.eqv (zK1 [] zJf A (nx.getD j 0).toNat w0 _ (by omega) (by rw [← hAi])) (zAJ.refl _)) ?_
     refine zt rfl rfl (fun g1 => ?_) (fun g1 => ?_)
     · refine rn5 ?_
       refine zF rfl (fun g2 => ?_) (fun g2 => ?_)
       · rw [decide_eq_true g1, decide_eq_true g2, Bool.true_and, if_pos rfl] at hvj
         skip
         refine zm (by kernel_rfl) ?_
         apply zCL (H := [some ⟨207, zBs (A.set x w0)⟩, some ⟨40, .box [.int .i64 kd, .int .i64 pl, .int .i64 nf, .ro (.ints .i64 nx) 0 nx.length, .ro (.strs od) 0 od.length, .str py]⟩, some ⟨208, zBO w0⟩]) [(0, .ro (zc t) 0 t.length), (1, .int .i64 p), (5, .sl 0 0 t.length), (6, .int .i64 (i : Nat)), (7, .ptr 1 0 0), (13, .ro (zc t) 0 t.length), (14, .int .i64 (t.length : Nat)), (15, .int .i64 (i : Nat)), (21, .ro (.ints .i64 nx) 0 nx.length), (22, .int .i64 (nx.length : Nat)), (23, .int .i64 (j : Nat)), (44, .sl 0 0 t.length), (45, .int .i64 (x : Nat)), (50, .sl 2 0 w0.length), (55, .ro (zEi 1 2 [.int .i64 nf, .int .i64 (j : Nat)]) 0 1)]
         · intro fin2
           refine zN 0 rfl (by kernel_rfl) (by kernel_rfl) (by kernel_rfl) rfl (zH rfl) rfl ?_
           refine zN 1 rfl (by kernel_rfl) (by kernel_rfl) (by kernel_rfl) rfl (zH rfl) rfl ?_
           refine zN 2 rfl (by kernel_rfl) (by kernel_rfl) (by kernel_rfl) rfl (zH rfl) rfl ?_
           refine zN 3 rfl (by kernel_rfl) (by kernel_rfl) (by kernel_rfl) rfl (zH rfl) rfl ?_
           refine zN 7 rfl (by kernel_rfl) (by kernel_rfl) (by kernel_rfl) rfl (zP rfl rfl rfl rfl rfl rfl) rfl ?_
           refine zN 9 rfl (by kernel_rfl) (by kernel_rfl) (by kernel_rfl) rfl (zH rfl) rfl ?_
           refine zN 4 rfl (by kernel_rfl) (by kernel_rfl) (by kernel_rfl) rfl (zZ rfl rfl rfl rfl rfl (by first | (simp only [Nat.zero_add, Int.toNat_natCast, Int.toNat_zero]; exact rfl) | exact rfl) (by omega)) rfl ?_
           refine zE (is := [5, 8]) (by kernel_rfl) (by simp) rfl ⟨fun o ho => ?_, fun o ho => ?_, trivial⟩
           all_goals (cases ho)
           · repeat (first | refine zC ?_ | refine zj ?_ | refine zB (zEZ rfl rfl rfl rfl rfl (by first | assumption | omega)) ?_)
             refine zBG 49 (.ro (zBO w0) 0 w0.length) rfl (AEq.of_eq (show (zJf ((A.set x w0).getD i [])).getD 0 .any = .ro (zBO w0) 0 w0.length by rw [hA1i]; rfl)) ?_
             refine zE (is := [6, 8]) (by kernel_rfl) (by simp) rfl ⟨fun o ho => ?_, fun o ho => ?_, trivial⟩
             all_goals (cases ho)
             · refine zB0 rfl rfl rfl (zIQ w0 hw0l) ?_
               refine rn1 ?_
               refine zE (is := [8]) (by kernel_rfl) (by simp) rfl ⟨fun o ho => ?_, trivial⟩
               all_goals (cases ho)
               refine rn4 ?_
               refine zN 10 rfl (by kernel_rfl) (by kernel_rfl) (by kernel_rfl) rfl (zAS rfl rfl rfl rfl rfl rfl) rfl ?_
               refine zE (is := [11]) (by kernel_rfl) (by simp) rfl ⟨fun o ho => ?_, trivial⟩
               all_goals (cases ho)
               refine rn3 ?_
               exact fin2 _ ⟨rfl, rfl, rfl, rfl, rfl, rfl, rfl, rfl, rfl, rfl, rfl, rfl, rfl, rfl, rfl, trivial⟩
             · refine rn4 ?_
               refine zN 10 rfl (by kernel_rfl) (by kernel_rfl) (by kernel_rfl) rfl (zAS rfl rfl rfl rfl rfl rfl) rfl ?_
               refine zE (is := [6, 11]) (by kernel_rfl) (by simp) rfl ⟨fun o ho => ?_, fun o ho => ?_, trivial⟩
               all_goals (cases ho)
               · refine zB0 rfl rfl rfl (zIQ w0 hw0l) ?_
                 refine rn1 ?_
                 refine zE (is := [11]) (by kernel_rfl) (by simp) rfl ⟨fun o ho => ?_, trivial⟩
                 all_goals (cases ho)
                 refine rn3 ?_
                 exact fin2 _ ⟨rfl, rfl, rfl, rfl, rfl, rfl, rfl, rfl, rfl, rfl, rfl, rfl, rfl, rfl, rfl, trivial⟩
               · refine rn3 ?_
                 refine zE (is := [6]) (by kernel_rfl) (by simp) rfl ⟨fun o ho => ?_, trivial⟩
                 all_goals (cases ho)
                 refine zB0 rfl rfl rfl (zIQ w0 hw0l) ?_
                 refine rn1 ?_
                 exact fin2 _ ⟨rfl, rfl, rfl, rfl, rfl, rfl, rfl, rfl, rfl, rfl, rfl, rfl, rfl, rfl, rfl, trivial⟩
           · refine rn4 ?_
             refine zN 10 rfl (by kernel_rfl) (by kernel_rfl) (by kernel_rfl) rfl (zAS rfl rfl rfl rfl rfl rfl) rfl ?_
             refine zE (is := [5, 11]) (by kernel_rfl) (by simp) rfl ⟨fun o ho => ?_, fun o ho => ?_, trivial⟩
             all_goals (cases ho)
             · repeat (first | refine zC ?_ | refine zj ?_ | refine zB (zEZ rfl rfl rfl rfl rfl (by first | assumption | omega)) ?_)
               refine zBG 49 (.ro (zBO w0) 0 w0.length) rfl (AEq.of_eq (show (zJf ((A.set x w0).getD i [])).getD 0 .any = .ro (zBO w0) 0 w0.length by rw [hA1i]; rfl)) ?_
               refine zE (is := [6, 11]) (by kernel_rfl) (by simp) rfl ⟨fun o ho => ?_, fun o ho => ?_, trivial⟩
               all_goals (cases ho)
               · refine zB0 rfl rfl rfl (zIQ w0 hw0l) ?_
                 refine rn1 ?_
                 refine zE (is := [11]) (by kernel_rfl) (by simp) rfl ⟨fun o ho => ?_, trivial⟩
                 all_goals (cases ho)
                 refine rn3 ?_
                 exact fin2 _ ⟨rfl, rfl, rfl, rfl, rfl, rfl, rfl, rfl, rfl, rfl, rfl, rfl, rfl, rfl, rfl, trivial⟩
               · refine rn3 ?_
                 refine zE (is := [6]) (by kernel_rfl) (by simp) rfl ⟨fun o ho => ?_, trivial⟩
                 all_goals (cases ho)
                 refine zB0 rfl rfl rfl (zIQ w0 hw0l) ?_
                 refine rn1 ?_
                 exact fin2 _ ⟨rfl, rfl, rfl, rfl, rfl, rfl, rfl, rfl, rfl, rfl, rfl, rfl, rfl, rfl, rfl, trivial⟩
             · refine rn3 ?_
               refine zE (is := [5]) (by kernel_rfl) (by simp) rfl ⟨fun o ho => ?_, trivial⟩
               all_goals (cases ho)
               repeat (first | refine zC ?_ | refine zj ?_ | refine zB (zEZ rfl rfl rfl rfl rfl (by first | assumption | omega)) ?_)
               refine zBG 49 (.ro (zBO w0) 0 w0.length) rfl (AEq.of_eq (show (zJf ((A.set x w0).getD i [])).getD 0 .any = .ro (zBO w0) 0 w0.length by rw [hA1i]; rfl)) ?_
               refine zE (is := [6]) (by kernel_rfl) (by simp) rfl ⟨fun o ho => ?_, trivial⟩
               all_goals (cases ho)
               refine zB0 rfl rfl rfl (zIQ w0 hw0l) ?_
               refine rn1 ?_
               exact fin2 _ ⟨rfl, rfl, rfl, rfl, rfl, rfl, rfl, rfl, rfl, rfl, rfl, rfl, rfl, rfl, rfl, trivial⟩
         · refine zE (is := [12]) (by kernel_rfl) (by simp) rfl ⟨fun o ho => ?_, trivial⟩
           all_goals (cases ho)
           refine zp rfl rfl rfl rfl rfl rfl rfl rfl rfl rfl rfl rfl (by show 0 + 1 ≤ 1; omega) rfl (by show (w0.length + 1) * 16 ≤ _ ∧ _; omega) ?_ (by rw [hfix]; exact fun h => h) ?_
           · intro i' j' hi' hj'
             have q := (zE6 (0, 0) 2 zHG w0 (nf, (j : Int)) (zEi 1 2 [.int .i64 nf, .int .i64 (j : Nat)]) (fun j hj => by
               match j, hj with
               | 0, _ => rfl
               | 1, _ => rfl)).2.2 i' j' hi' hj'
             refine (congrArg (AV.forget 2) q.symm).trans (Eq.trans ?_ q)
             match j', hj' with
             | 0, _ => rfl
             | 1, _ => rfl
           refine zAx [some ⟨207, zBs (A.set x w0)⟩, some ⟨40, .box [.int .i64 kd, .int .i64 pl, .int .i64 nf, .ro (.ints .i64 nx) 0 nx.length, .ro (.strs od) 0 od.length, .str py]⟩, some ⟨208, zBO (w0 ++ [(nf, (j : Int))])⟩] ?_ ?_
           · exact zAJ.eqv (zL5 (A.set x w0) 2) (zAJ.eqv (CEq.refl _) (zAJ.eqv (zE6 (0, 0) 2 zHG w0 (nf, (j : Int)) (zEi 1 2 [.int .i64 nf, .int .i64 (j : Nat)]) (fun j hj => by
               match j, hj with
               | 0, _ => rfl
               | 1, _ => rfl)) zAJ.nil))
           refine zCu 2 56 (w0.length + 1) [(0, .ro (zc t) 0 t.length), (1, .int .i64 p), (5, .sl 0 0 t.length), (6, .int .i64 (i : Nat)), (7, .ptr 1 0 0), (13, .ro (zc t) 0 t.length), (14, .int .i64 (t.length : Nat)), (15, .int .i64 (i : Nat)), (21, .ro (.ints .i64 nx) 0 nx.length), (22, .int .i64 (nx.length : Nat)), (23, .int .i64 (j : Nat)), (44, .sl 0 0 t.length), (45, .int .i64 (x : Nat))] rfl (zGt _) rfl (by show w0.length + 1 ≤ (w0 ++ [(nf, (j : Int))]).length; rw [List.length_append]; exact Nat.le_refl _) ⟨rfl, rfl, rfl, rfl, rfl, rfl, rfl, rfl, rfl, rfl, rfl, rfl, rfl, trivial⟩ ?_
           refine zAn [some ⟨207, zBs (A.set x w0)⟩, some ⟨40, .box [.int .i64 kd, .int .i64 pl, .int .i64 nf, .ro (.ints .i64 nx) 0 nx.length, .ro (.strs od) 0 od.length, .str py]⟩, none] rfl ?_
           have hl9 : (w0 ++ [(nf, (j : Int))]).length = w0.length + 1 := by rw [List.length_append]; rfl
           refine zL 56 (.ro (zBO (w0 ++ [(nf, (j : Int))])) 0 (w0 ++ [(nf, (j : Int))]).length) rfl (AEq.of_eq (by rw [hl9])) ?_
           generalize w0 ++ [(nf, (j : Int))] = w1 at *
           refine rn1 ?_
           refine zN 13 rfl (by kernel_rfl) (by kernel_rfl) (by kernel_rfl) rfl (zZ rfl rfl rfl rfl rfl (by first | (simp only [Nat.zero_add, Int.toNat_natCast, Int.toNat_zero]; exact rfl) | exact rfl) (by omega)) rfl ?_
           refine zE (is := [14]) (by kernel_rfl) (by simp) rfl ⟨fun o ho => ?_, trivial⟩
           all_goals (cases ho)
           refine zAh rfl rfl rfl rfl rfl rfl rfl gx1 ?_
           refine zAx [some ⟨207, zBs ((A.set x w0).set x w1)⟩, some ⟨40, .box [.int .i64 kd, .int .i64 pl, .int .i64 nf, .ro (.ints .i64 nx) 0 nx.length, .ro (.strs od) 0 od.length, .str py]⟩, none] (zAJ.eqv (zK1 [] zJf (A.set x w0) x w1 _ gx1 rfl) (zAJ.refl _)) ?_
           refine rn1 ?_
           refine zh (by kernel_rfl) ?_
           repeat (refine zg ?_)
           refine zA ?_
           refine zAz [some ⟨207, zBs ((A.set x w0).set x w1)⟩, some ⟨40, .box [.int .i64 kd, .int .i64 pl, .int .i64 nf, .ro (.ints .i64 nx) 0 nx.length, .ro (.strs od) 0 od.length, .str py]⟩] [none] [(0, .ro (zc t) 0 t.length), (1, .int .i64 p), (5, .sl 0 0 t.length), (6, .int .i64 (i : Nat)), (7, .ptr 1 0 0), (13, .ro (zc t) 0 t.length), (14, .int .i64 (t.length : Nat)), (15, .int .i64 (i : Nat)), (21, .ro (.ints .i64 nx) 0 nx.length), (22, .int .i64 (nx.length : Nat)), (23, .int .i64 (j : Nat))] rfl ⟨rfl, rfl, rfl, rfl, rfl, rfl, rfl, rfl, rfl, rfl, rfl, trivial⟩ (fun h hh => by rw [hfix] at hh; exact absurd hh id) (below2 (zJ7 _ _) (zNs _ _ _ _ _ _ _)) rfl ?_
           refine rn3 ?_
           exact zO ⟨j + 1, by omega, by omega, ⟨rfl, rfl, rfl, rfl, rfl, rfl, rfl, rfl, rfl, rfl, rfl, trivial⟩, by rw [hA2, hst, hvj, List.set_set]⟩
       · rw [decide_eq_true g1, decide_eq_false g2, if_neg (by decide)] at hvj
         refine rn5 ?_
         exact zO ⟨j + 1, by omega, by omega, ⟨rfl, rfl, rfl, rfl, rfl, rfl, rfl, rfl, rfl, rfl, rfl, trivial⟩, by rw [hA2, hst, hvj]⟩
     · rw [decide_eq_false g1, Bool.false_and, if_neg (by decide)] at hvj
       refine rn6 ?_
       exact zO ⟨j + 1, by omega, by omega, ⟨rfl, rfl, rfl, rfl, rfl, rfl, rfl, rfl, rfl, rfl, rfl, trivial⟩, by rw [hA2, hst, hvj]⟩
   · have hje : j = nx.length := by omega
     subst hje
     rw [List.take_length, ← hnx]
     repeat (first | refine zg ?_ | refine zA0 ?_ | refine zx ?_ | refine zw ?_ | refine zAN ?_)
     refine zA ?_
     refine zAz [some ⟨207, zBs W2⟩] [some ⟨40, .box [.int .i64 kd, .int .i64 pl, .int .i64 nf, .ro (.ints .i64 nx) 0 nx.length, .ro (.strs od) 0 od.length, .str py]⟩] [(0, .ro (zc t) 0 t.length), (1, .int .i64 p), (5, .sl 0 0 t.length), (13, .ro (zc t) 0 t.length), (14, .int .i64 (t.length : Nat)), (15, .int .i64 (i : Nat))] rfl ⟨rfl, rfl, rfl, rfl, rfl, rfl, trivial⟩ (fun h hh => by rw [hfix] at hh; exact absurd hh id) (zDE (zJ7 _ _)) rfl ?_
     refine rn3 ?_
     exact zO ⟨i + 1, by omega, by omega, ⟨rfl, rfl, rfl, rfl, rfl, rfl, trivial⟩, by rw [hW2]⟩
 · have hie : i = t.length := by omega
   subst hie
   repeat (first | refine zA ?_ | refine zX ?_ | refine zA0 ?_ | refine zx ?_ | refine zw ?_ | refine zAN ?_)
   refine zBE 0 5 t.length [] rfl (zLX _) rfl (by show t.length ≤ (zBJ t p t.length).length; rw [zE8]; exact Nat.le_refl _) trivial ?_
   refine rn0 ?_
   exact zI hR rfl rfl
end Go.Proofs.YtnkealfaldjipaaGreatDoor
namespace Go.Proofs.YtnkealfaldjipaaGreatDoor
open Go.Ax Go.Ax.Bg Go.Ax.Rt Go.RowKit Go.Ax.Idx Go.Ax.Cd
attribute [local irreducible] Ax zAL QOp zM zo
set_option maxRecDepth 100000
set_option maxHeartbeats 4000000
abbrev zGo (F : List (Int × Nat)) : Cells := .mp (F.map (fun x => .int .i64 x.1)) (F.map (fun x => .int .i64 (x.2 : Nat)))
theorem zIe (F : List (Int × Nat)) : ∀ x ∈ F.map (fun x : Int × Nat => AV.int .i64 x.1), zC1 (.int .i64) x = true := by
 intro x hx
 obtain ⟨e, _, rfl⟩ := List.mem_map.1 hx
 rfl
theorem zDM {m : List (Int × Nat)} {k : Int} {s : Nat} (h : zBL m k = some s) : ∃ j : Nat, (m.map (fun x : Int × Nat => AV.int .i64 x.1))[j]? = some (.int .i64 k) ∧ (m.map (fun x : Int × Nat => AV.int .i64 (x.2 : Nat)))[j]? = some (.int .i64 (s : Nat)) := by
 obtain ⟨j, hj⟩ := List.getElem?_of_mem (zCK h)
 exact ⟨j, by rw [List.getElem?_map, hj]; rfl, by rw [List.getElem?_map, hj]; rfl⟩
theorem zGf {m : List (Int × Nat)} {k : Int} (h : zBL m k = none) : AV.int .i64 k ∉ m.map (fun x : Int × Nat => AV.int .i64 x.1) := by
 intro hm
 obtain ⟨x, hx, e⟩ := List.mem_map.1 hm
 have := zG4 h
 injection e with e1 e2
 exact this (List.mem_map.2 ⟨x, hx, e2⟩)
theorem zE1 (F : List (Int × Nat)) (n : Nat) : zA2 n (zGo F) := ⟨zBu (fun _ => rfl) F, zBu (fun _ => rfl) F⟩
theorem zNC {p : Int} {kd pl nf : Int} {nx : List Int} {od : List zAK} {py : zAK} : own p ⟨kd, pl, nf, nx, od, py⟩ = (decide (kd = 2) && decide (pl = p)) := rfl
theorem zP9 (t : zT) (p : Int) (hT : ShortT t) (hv : Valid t) : zV Tryz.prog 72 [.ro (zc t) 0 t.length, .int .i64 p] (.bool (zBb t p)) := by
 have hlen := hT.len
 have h120 := hv.le
 have cw := ways_ok t p hT hv
 have hWl : (zDl t p).length = t.length := zE8 t p t.length
 have hWs := zNk hv p
 have hmono : ∀ n i, i ≤ n → zEc t p (zDl t p) i = false → zEc t p (zDl t p) n = false := by
   intro n
   induction n with
   | zero => intro i hi h; obtain rfl : i = 0 := by omega
             exact h
   | succ n ih =>
     intro i hi h
     by_cases e : i = n + 1
     · subst e; exact h
     · rw [zEc, ih i (by omega) h]; rfl
 refine zM.value0 (zG (P := Tryz.prog) (fn := Tryz.f72) rfl rfl (by kernel_rfl) rfl (fun c hR hfix => ?_)) (fix := fun _ => False) (fun _ h => h) rfl rfl
 have hR : c.R = fun r' _ => r' = .bool (zEc t p (zDl t p) t.length) := hR
 generalize zDl t p = W at *
 refine rn0 ?_
 refine zD rfl rfl rfl cw ?_
 refine rn0 ?_
 refine zEO ?_
 refine rn3 ?_
 refine zk (ι := Nat) (fun i => [(0, .ro (zc t) 0 t.length), (1, .int .i64 p), (5, .ro (zBs W) 0 t.length), (6, .mp 0), (15, .ro (zc t) 0 t.length), (16, .int .i64 (t.length : Nat)), (17, .int .i64 (i : Nat))]) (fun i => [some ⟨123, zGo (zAv t p i)⟩])
   (fun i => i ≤ t.length ∧ zEc t p W i = true) (fun i => t.length - i) 0 ⟨⟨rfl, rfl, rfl, rfl, rfl, rfl, rfl, trivial⟩, rfl, Nat.zero_le _, rfl⟩ ?_
 rintro i ⟨hi, hP⟩
 refine rn4 ?_
 refine zF rfl (fun h => ?_) (fun h => ?_)
 · have hi' : i < t.length := by omega
   have hfs : zAv t p (i + 1) = if own p (t.getD i node0) = true ∧ zBL (zAv t p i) (t.getD i node0).info = none then zAv t p i ++ [((t.getD i node0).info, i)] else zAv t p i := rfl
   have hps : zEc t p W (i + 1) = (zEc t p W i && (if own p (t.getD i node0) = true then (match zBL (zAv t p i) (t.getD i node0).info with | none => true | some k => decide (W.getD i [] = W.getD k [])) else true)) := rfl
   have hff : ∀ x ∈ zAv t p i, x.2 < i := fun x hx => (zEk hx).1
   have hno := hmono t.length (i + 1) (by omega)
   rw [hP, Bool.true_and] at hps
   generalize hF2 : zAv t p (i + 1) = F2 at *
   generalize zAv t p i = F at *
   generalize hP2 : zEc t p W (i + 1) = P2 at *
   refine rn6 ?_
   refine zL 21 (.agg (zBV (t.getD i node0))) rfl (AEq.of_eq rfl) ?_
   generalize t.getD i node0 = n at *
   obtain ⟨kd, pl, nf, nx, od, py⟩ := n
   simp only at *
   refine zR (c' := .box [.int .i64 kd, .int .i64 pl, .int .i64 nf, .ro (.ints .i64 nx) 0 nx.length, .ro (.strs od) 0 od.length, .str py]) rfl rfl rfl rfl rfl Nat.zero_lt_one rfl rfl (fun i' j' hi' hj' => ?_) ?_
   · rw [if_pos (Nat.lt_one_iff.1 hi')]; rfl
   refine zAn [some ⟨123, zGo F⟩, some ⟨40, .box [.int .i64 kd, .int .i64 pl, .int .i64 nf, .ro (.ints .i64 nx) 0 nx.length, .ro (.strs od) 0 od.length, .str py]⟩] rfl ?_
   refine rn5 ?_
   refine zt rfl rfl (fun g1 => ?_) (fun g1 => ?_)
   · rw [zNC, decide_eq_false g1, Bool.false_and] at hfs hps
     rw [if_neg (by rintro ⟨q, _⟩; cases q)] at hfs
     rw [if_neg (by decide)] at hps
     repeat (first | refine zC ?_ | refine zAo rfl rfl rfl ?_ | refine zB (zAZ rfl rfl) ?_)
     refine zA ?_
     repeat (first | refine zBD rfl ?_ | refine zA0 ?_ | refine zx ?_ | refine zw ?_)
     refine zA ?_
     refine zAz [some ⟨123, zGo (F)⟩] [some ⟨40, .box [.int .i64 kd, .int .i64 pl, .int .i64 nf, .ro (.ints .i64 nx) 0 nx.length, .ro (.strs od) 0 od.length, .str py]⟩] [(0, .ro (zc t) 0 t.length), (1, .int .i64 p), (5, .ro (zBs W) 0 t.length), (6, .mp 0), (15, .ro (zc t) 0 t.length), (16, .int .i64 (t.length : Nat)), (17, .int .i64 (i : Nat))] rfl ⟨rfl, rfl, rfl, rfl, rfl, rfl, rfl, trivial⟩ (fun h hh => by rw [hfix] at hh; exact absurd hh id) (zDE (zE1 _ _)) rfl ?_
     refine rn3 ?_
     exact zO ⟨i + 1, ⟨by omega, by rw [hP2, hps]⟩, by omega, ⟨rfl, rfl, rfl, rfl, rfl, rfl, rfl, trivial⟩, by rw [hF2, hfs]⟩
   have g1 := Classical.not_not.1 g1
   refine rn5 ?_
   refine zF rfl (fun g2 => ?_) (fun g2 => ?_)
   · rw [zNC, decide_eq_true g1, decide_eq_false g2, Bool.true_and] at hfs hps
     rw [if_neg (by rintro ⟨q, _⟩; cases q)] at hfs
     rw [if_neg (by decide)] at hps
     repeat (first | refine zA0 ?_ | refine zx ?_ | refine zw ?_)
     refine zA ?_
     refine zAz [some ⟨123, zGo (F)⟩] [some ⟨40, .box [.int .i64 kd, .int .i64 pl, .int .i64 nf, .ro (.ints .i64 nx) 0 nx.length, .ro (.strs od) 0 od.length, .str py]⟩] [(0, .ro (zc t) 0 t.length), (1, .int .i64 p), (5, .ro (zBs W) 0 t.length), (6, .mp 0), (15, .ro (zc t) 0 t.length), (16, .int .i64 (t.length : Nat)), (17, .int .i64 (i : Nat))] rfl ⟨rfl, rfl, rfl, rfl, rfl, rfl, rfl, trivial⟩ (fun h hh => by rw [hfix] at hh; exact absurd hh id) (zDE (zE1 _ _)) rfl ?_
     refine rn3 ?_
     exact zO ⟨i + 1, ⟨by omega, by rw [hP2, hps]⟩, by omega, ⟨rfl, rfl, rfl, rfl, rfl, rfl, rfl, trivial⟩, by rw [hF2, hfs]⟩
   have g2 := Classical.not_not.1 g2
   rw [zNC, decide_eq_true g1, decide_eq_true g2, Bool.true_and] at hfs hps
   rw [if_pos rfl] at hps
   refine rn5 ?_
   cases hL : zBL F nf with
   | none =>
     rw [hL, if_pos ⟨rfl, rfl⟩] at hfs
     rw [hL] at hps
     simp only at hps
     refine zB (zEq rfl (.int rfl) rfl rfl rfl rfl rfl rfl rfl rfl (zIe F) (zGf hL)) ?_
     refine rn5 ?_
     refine zCR rfl (.int rfl) rfl rfl rfl rfl rfl (zIe F) (zGf hL) ?_
     refine zAn [some ⟨123, zGo (F ++ [(nf, i)])⟩, some ⟨40, .box [.int .i64 kd, .int .i64 pl, .int .i64 nf, .ro (.ints .i64 nx) 0 nx.length, .ro (.strs od) 0 od.length, .str py]⟩] (by unfold zGo; rw [List.map_append, List.map_append]; rfl) ?_
     repeat (refine zC ?_)
     refine zA ?_
     refine zAz [some ⟨123, zGo (F ++ [(nf, i)])⟩] [some ⟨40, .box [.int .i64 kd, .int .i64 pl, .int .i64 nf, .ro (.ints .i64 nx) 0 nx.length, .ro (.strs od) 0 od.length, .str py]⟩] [(0, .ro (zc t) 0 t.length), (1, .int .i64 p), (5, .ro (zBs W) 0 t.length), (6, .mp 0), (15, .ro (zc t) 0 t.length), (16, .int .i64 (t.length : Nat)), (17, .int .i64 (i : Nat))] rfl ⟨rfl, rfl, rfl, rfl, rfl, rfl, rfl, trivial⟩ (fun h hh => by rw [hfix] at hh; exact absurd hh id) (zDE (zE1 _ _)) rfl ?_
     refine rn5 ?_
     exact zO ⟨i + 1, ⟨by omega, by rw [hP2, hps]⟩, by omega, ⟨rfl, rfl, rfl, rfl, rfl, rfl, rfl, trivial⟩, by rw [hF2, hfs]⟩
   | some k0 =>
     rw [hL, if_neg (by rintro ⟨_, q⟩; cases q)] at hfs
     rw [hL] at hps
     simp only at hps
     obtain ⟨jj, i1, i2⟩ := zDM hL
     have hk0 := hff _ (zCK hL)
     simp only at hk0
     have hk0' : k0 < t.length := by omega
     have hw0 : ∀ z, (W.getD z []).length ≤ 9223372036854775807 := fun z => zI8 (P := fun w : zCG => w.length ≤ 9223372036854775807) (fun w hw => Nat.le_trans (hWs w hw) (by decide)) (Nat.zero_le _) z
     have ceq := equalP (W.getD i []) (W.getD k0 []) (hw0 i) (hw0 k0)
     refine zB (zBR rfl (.int rfl) rfl rfl rfl rfl (zIe F) jj i1 i2) ?_
     refine rn5 ?_
     refine zm (by kernel_rfl) ?_
     refine z7 (fuel := 0) [0, 1, 2, 3, 4, 5, 6, 7, 8, 9] [(0, .ro (zc t) 0 t.length), (1, .int .i64 p), (5, .ro (zBs W) 0 t.length), (6, .mp 0), (15, .ro (zc t) 0 t.length), (16, .int .i64 (t.length : Nat)), (17, .int .i64 (i : Nat)), (7, .int .i64 (i : Nat)), (8, .ptr 1 0 0), (9, .int .i64 (k0 : Nat))] ⟨rfl, rfl, rfl, rfl, rfl, rfl, rfl, rfl, rfl, rfl, trivial⟩ (by kernel_rfl) (by decide) rfl rfl ?_
     refine zW rfl rfl (zH rfl) ?_
     refine zW rfl rfl (zH rfl) ?_
     refine zW rfl rfl (zi rfl rfl rfl rfl (by first | (simp only [Nat.zero_add, Int.toNat_natCast, Int.toNat_zero]; exact rfl) | exact rfl) (by omega)) ?_
     refine zW rfl rfl (zCJ rfl rfl rfl rfl) ?_
     refine zW rfl rfl (zH rfl) ?_
     refine zW rfl rfl (zH rfl) ?_
     refine zW rfl rfl (zi rfl rfl rfl rfl (by first | (simp only [Nat.zero_add, Int.toNat_natCast, Int.toNat_zero]; exact rfl) | exact rfl) (by omega)) ?_
     refine zW rfl rfl (zCJ rfl rfl rfl rfl) ?_
     refine zCS rfl rfl rfl rfl rfl ceq ?_
     refine zW rfl rfl (zE4 rfl) ?_
     refine zAg ?_
     refine zh (by kernel_rfl) ?_
     repeat (refine zA ?_)
     by_cases he : W.getD i [] = W.getD k0 []
     · rw [decide_eq_true he] at hps ⊢
       repeat (first | refine zAM rfl ?_ | refine zg ?_ | refine zl ?_)
       refine zA ?_
       refine zAz [some ⟨123, zGo (F)⟩] [some ⟨40, .box [.int .i64 kd, .int .i64 pl, .int .i64 nf, .ro (.ints .i64 nx) 0 nx.length, .ro (.strs od) 0 od.length, .str py]⟩] [(0, .ro (zc t) 0 t.length), (1, .int .i64 p), (5, .ro (zBs W) 0 t.length), (6, .mp 0), (15, .ro (zc t) 0 t.length), (16, .int .i64 (t.length : Nat)), (17, .int .i64 (i : Nat))] rfl ⟨rfl, rfl, rfl, rfl, rfl, rfl, rfl, trivial⟩ (fun h hh => by rw [hfix] at hh; exact absurd hh id) (zDE (zE1 _ _)) rfl ?_
       refine rn3 ?_
       exact zO ⟨i + 1, ⟨by omega, by rw [hP2, hps]⟩, by omega, ⟨rfl, rfl, rfl, rfl, rfl, rfl, rfl, trivial⟩, by rw [hF2, hfs]⟩
     · rw [decide_eq_false he] at hps ⊢
       rw [hno hps] at hR
       refine rn6 ?_
       exact zI hR rfl rfl
 · have hie : i = t.length := by omega
   subst hie
   rw [hP] at hR
   refine rn5 ?_
   exact zI hR rfl rfl
end Go.Proofs.YtnkealfaldjipaaGreatDoor
namespace Go.Proofs.YtnkealfaldjipaaGreatDoor
open Go.Ax Go.Ax.Bg Go.Ax.Rt Go.RowKit Go.Ax.Idx Go.Ax.Cd
attribute [local irreducible] Ax zAL QOp zM zo
set_option maxRecDepth 100000
set_option maxHeartbeats 4000000
def zFZ (s : RSeq) : List AV := [.int .i64 s.info, .int .i64 s.choice, .int .i64 s.before]
abbrev zIn (l : List RSeq) : Cells := zB3 zBZ 3 zFZ l
theorem zK5 (s : RSeq) (j h : Nat) (hj : j < 3) : ((zFZ s).getD j .any).forget h = (zFZ s).getD j .any := by
 match j, hj with
 | 0, _ => rfl
 | 1, _ => rfl
 | 2, _ => rfl
theorem zLC (s : RSeq) (j : Nat) : noRef ((zFZ s).getD j .any) = true := by
 match j with
 | 0 => rfl
 | 1 => rfl
 | 2 => rfl
 | _ + 3 => rfl
theorem zLk (l : List RSeq) : zz (zIn l) := by
 intro i j _ hj
 exact zLC _ j
theorem rowS3 (s : RSeq) (j : Nat) (hj : j < 3) : (zEi 1 3 [.int .i64 s.info, .int .i64 s.choice, .int .i64 s.before]).at 0 j = (zFZ s).getD j .any := by
 match j, hj with
 | 0, _ => rfl
 | 1, _ => rfl
 | 2, _ => rfl
abbrev formB (n N : Nat) : Cells := .box [.sl 0 0 n, .sl 1 0 N]
abbrev zCY (N : Nat) (f : RForm) (L : zQ) : zQ := some ⟨174, zIn f.seqs⟩ :: some ⟨3, .ints .i64 f.pos⟩ :: some ⟨169, formB f.seqs.length N⟩ :: some ⟨123, zGo f.first⟩ :: L
theorem add_len (p : Int) (n : TNode) (i : Nat) (f : RForm) : f.seqs.length ≤ (zAI p n i f).seqs.length := by
 unfold zAI
 split
 · show _ ≤ (_ ++ _ : List RSeq).length
   rw [List.length_append]; omega
 · exact Nat.le_refl _
theorem zKO (t : zT) (p : Int) (i : Nat) : ∀ e, (zAE t p i).seqs.length ≤ (zAE t p (i + e)).seqs.length
 | 0 => Nat.le_refl _
 | e + 1 => by
   rw [← Nat.add_assoc, zAE, zIk]
   exact Nat.le_trans (zKO t p i e) (add_len _ _ _ _)
theorem zMC {t : zT} (hv : Valid t) (p : Int) {i : Nat} (hi : i ≤ t.length) : (zAE t p i).seqs.length ≤ 61 := by
 have h1 := zKO t p i (t.length - i)
 rw [show i + (t.length - i) = t.length by omega] at h1
 exact Nat.le_trans h1 (zMM hv p)
theorem zNb (l : List RSeq) (n : Nat) : zA2 n (zIn l) := by
 intro i j _ hj
 have hj : j < 3 := hj
 match j, hj with
 | 0, _ => rfl
 | 1, _ => rfl
 | 2, _ => rfl
theorem zG6 (N : Nat) (f : RForm) : ∀ (h : Nat) (o : AObj), (zCY N f [])[h]? = some (some o) → zA2 4 o.c := by
 intro h o ho
 match h, ho with
 | 0, ho => cases ho; exact zNb _ _
 | 1, ho => cases ho; exact zCe _ _ _
 | 2, ho =>
   cases ho
   intro i j _ hj
   have hj : j < 2 := hj
   match j, hj with
   | 0, _ => rfl
   | 1, _ => rfl
 | 3, ho => cases ho; exact zE1 _ _
 | _ + 4, ho => simp at ho
theorem add_yes {p : Int} {n : TNode} {i : Nat} {f : RForm} (h1 : own p n = true) (h2 : zBL f.first n.info = none) : zAI p n i f = ⟨f.seqs ++ zBk n (f.pos.getD i 0), f.pos, f.first ++ [(n.info, f.seqs.length)]⟩ := by unfold zAI; rw [if_pos ⟨h1, h2⟩]
theorem add_old {p : Int} {n : TNode} {i : Nat} {f : RForm} {s : Nat} (h2 : zBL f.first n.info = some s) : zAI p n i f = f := by unfold zAI; rw [if_neg (by rintro ⟨_, q⟩; rw [h2] at q; cases q)]
theorem add_not {p : Int} {n : TNode} {i : Nat} {f : RForm} (h1 : own p n = false) : zAI p n i f = f := by unfold zAI; rw [if_neg (by rintro ⟨q, _⟩; rw [h1] at q; cases q)]
theorem zGJ {α : Type} {h : Nat} {f : α → AV} (hf : ∀ x, (f x).forget h = f x) : ∀ l : List α, AV.forgets h (l.map f) = l.map f
 | [] => rfl
 | a :: r => by
   show (f a).forget h :: AV.forgets h (r.map f) = f a :: r.map f
   rw [hf a, zGJ hf r]
theorem zNO (F : List (Int × Nat)) (h : Nat) : CEq ((zGo F).forget h) (zGo F) := by
 have e : (zGo F).forget h = zGo F := by
   show Cells.mp (AV.forgets h _) (AV.forgets h _) = _
   rw [zGJ (fun _ => rfl), zGJ (fun _ => rfl)]
 rw [e]; exact CEq.refl _
def zII (n : TNode) (b : Int) (k : Nat) : List RSeq := (List.range k).map (fun k : Nat => ⟨n.info, (k : Int), b⟩)
theorem zPg (n : TNode) (b : Int) (k : Nat) : zII n b (k + 1) = zII n b k ++ [⟨n.info, (k : Int), b⟩] := by
 unfold zII; rw [List.range_succ, List.map_append]; rfl
theorem form_new (N : Nat) (f : RForm) (nf : Int) (n : TNode) (b : Int) (L : zQ) : zCY N ⟨f.seqs ++ zII n b 0, f.pos, f.first ++ [(nf, f.seqs.length)]⟩ L = some ⟨174, zIn f.seqs⟩ :: some ⟨3, .ints .i64 f.pos⟩ :: some ⟨169, formB f.seqs.length N⟩ :: some ⟨123, .mp (f.first.map (fun x => .int .i64 x.1) ++ [.int .i64 nf]) (f.first.map (fun x => .int .i64 (x.2 : Nat)) ++ [.int .i64 (f.seqs.length : Nat)])⟩ :: L := by
 have e : f.seqs ++ zII n b 0 = f.seqs := List.append_nil _
 simp only [zCY, e, zGo, List.map_append, List.map_cons, List.map_nil]
theorem newK_len (n : TNode) (b : Int) (k : Nat) : (zII n b k).length = k := by simp [zII]
theorem of_ok (t : zT) (p : Int) (hT : ShortT t) (hv : Valid t) : zM Tryz.prog 106 [.ro (zc t) 0 t.length, .int .i64 p] [] (fun _ => False) (fun r H' => r = .ptr 2 0 0 ∧ H' = zCY t.length (zAE t p t.length) []) := by
 have hlen := hT.len
 have h120 := hv.le
 have hN0 := hv.ne
 refine zG (P := Tryz.prog) (fn := Tryz.f106) rfl rfl (by kernel_rfl) rfl (fun c hR hfix => ?_)
 repeat (first | refine zB (zK rfl) ?_ | refine zC ?_ | refine zA ?_ | refine zX ?_ | refine zJ rfl ?_ | refine zB (zAS rfl rfl rfl rfl rfl rfl) ?_)
 refine zEy rfl rfl rfl rfl rfl rfl rfl rfl rfl rfl ?_
 refine rn3 ?_
 refine zCE rfl rfl rfl rfl rfl rfl rfl rfl (by show 0 ≤ _ ∧ _ ≤ _ ∧ (8 : Int) * _ ≤ _ ∧ _; omega) ?_
 repeat (first | refine zB (zK rfl) ?_ | refine zC ?_ | refine zA ?_ | refine zX ?_ | refine zJ rfl ?_ | refine zB (zAS rfl rfl rfl rfl rfl rfl) ?_ | refine zEu rfl rfl ?_)
 refine zEO ?_
 refine zAx (zCY t.length (zAE t p 0) []) ?_ ?_
 · refine zAJ.eqv ⟨rfl, rfl, fun i j hi hj => ?_⟩ (zAJ.eqv (CEq.refl _) (zAJ.eqv (CEq.refl _) (zAJ.eqv (CEq.refl _) zAJ.nil)))
   have hj : j < 3 := hj
   obtain rfl := Nat.lt_one_iff.1 (show i < 1 from hi)
   match j, hj with
   | 0, _ => rfl
   | 1, _ => rfl
   | 2, _ => rfl
 refine rn3 ?_
 refine zk (ι := Nat) (fun i => [(0, .ro (zc t) 0 t.length), (1, .int .i64 p), (5, .ptr 2 0 0), (6, .mp 3), (23, .ro (zc t) 0 t.length), (24, .int .i64 (t.length : Nat)), (25, .int .i64 (i : Nat))]) (fun i => zCY t.length (zAE t p i) [])
   (fun i => i ≤ t.length) (fun i => t.length - i) 0 ⟨⟨rfl, rfl, rfl, rfl, rfl, rfl, rfl, trivial⟩, rfl, Nat.zero_le _⟩ ?_
 intro i hi
 refine rn4 ?_
 refine zF rfl (fun h => ?_) (fun h => ?_)
 · have hi' : i < t.length := by omega
   have hsn := hT.node _ (zA7 node0 hi')
   have hbh := hv.behind hi'
   have hwf := hv.few hi'
   have hRI := RI.all_n hv p i hi
   obtain ⟨_, _, _, _, _, _, _, a8, _, a10⟩ := RI.add hv hRI hi' hRI hRI.s0.1
   have hfl := zMC hv p hi
   have hgf := zMC hv p (show i + 1 ≤ t.length by omega)
   have hfl2 := zD6 t p i
   have hnx : zAE t p (i + 1) = ⟨(zAI p (t.getD i node0) i (zAE t p i)).seqs, zAl (zGu p (t.getD i node0) i (zAI p (t.getD i node0) i (zAE t p i))) (t.getD i node0).next 0 (zAI p (t.getD i node0) i (zAE t p i)).pos, (zAI p (t.getD i node0) i (zAE t p i)).first⟩ := by rw [zAE, zIk, zIP]
   have hgl : (zAI p (t.getD i node0) i (zAE t p i)).pos.length = t.length := by rw [zF3]; exact hfl2
   rw [hnx] at hgf
   simp only at hgf
   obtain ⟨s1, s2, s3, s4⟩ := hsn
   refine rn6 ?_
   refine zL 29 (.agg (zBV (t.getD i node0))) rfl (AEq.of_eq rfl) ?_
   generalize t.getD i node0 = n at *
   generalize zAE t p i = f at *
   obtain ⟨kd, pl, nf, nx, od, py⟩ := n
   simp only at *
   refine zR (c' := .box [.int .i64 kd, .int .i64 pl, .int .i64 nf, .ro (.ints .i64 nx) 0 nx.length, .ro (.strs od) 0 od.length, .str py]) rfl rfl rfl rfl rfl Nat.zero_lt_one rfl rfl (fun i' j' hi' hj' => ?_) ?_
   · rw [if_pos (Nat.lt_one_iff.1 hi')]; rfl
   refine zAn (zCY t.length f [some ⟨40, .box [.int .i64 kd, .int .i64 pl, .int .i64 nf, .ro (.ints .i64 nx) 0 nx.length, .ro (.strs od) 0 od.length, .str py]⟩]) rfl ?_
   refine zL 8 (.ptr 4 0 0) rfl (AEq.of_eq rfl) ?_
   have hown : own p ⟨kd, pl, nf, nx, od, py⟩ = (decide (kd = 2) && decide (pl = p)) := rfl
   generalize hv' : zGu p ⟨kd, pl, nf, nx, od, py⟩ i (zAI p ⟨kd, pl, nf, nx, od, py⟩ i f) = v at *
   have hvv : ∀ k, v k = if own p ⟨kd, pl, nf, nx, od, py⟩ = true then (((zBL (zAI p ⟨kd, pl, nf, nx, od, py⟩ i f).first nf).getD 0 : Nat) : Int) + (k : Int) else (zAI p ⟨kd, pl, nf, nx, od, py⟩ i f).pos.getD i 0 := fun k => by rw [← hv']; rfl
   have hay := @add_yes p ⟨kd, pl, nf, nx, od, py⟩ i f
   have hao := @add_old p ⟨kd, pl, nf, nx, od, py⟩ i f
   have han := @add_not p ⟨kd, pl, nf, nx, od, py⟩ i f
   generalize hb : own p ⟨kd, pl, nf, nx, od, py⟩ = b at *
   apply zAi (H := zCY t.length f [some ⟨40, .box [.int .i64 kd, .int .i64 pl, .int .i64 nf, .ro (.ints .i64 nx) 0 nx.length, .ro (.strs od) 0 od.length, .str py]⟩]) [(0, .ro (zc t) 0 t.length), (1, .int .i64 p), (5, .ptr 2 0 0), (6, .mp 3), (7, .int .i64 (i : Nat)), (8, .ptr 4 0 0), (9, .bool b), (23, .ro (zc t) 0 t.length), (24, .int .i64 (t.length : Nat)), (25, .int .i64 (i : Nat))]
   · intro fin
     refine rn5 ?_
     refine zt rfl rfl (fun g1 => ?_) (fun g1 => ?_)
     · repeat (first | refine zB (zH rfl) ?_ | refine zB (zK rfl) ?_ | refine zC ?_ | refine zAA rfl rfl ?_ | refine zB (zS rfl rfl rfl rfl rfl) ?_ | refine zB (zEj rfl rfl) ?_ | refine zB (zAZ rfl rfl) ?_ | refine zB (zP rfl rfl rfl rfl rfl rfl) ?_)
       refine zA ?_
       refine zAd 9 (.bool b) rfl (AEq.of_eq (by rw [hown, decide_eq_true g1, Bool.true_and])) ?_
       exact fin _ ⟨rfl, rfl, rfl, rfl, rfl, rfl, rfl, rfl, rfl, rfl, trivial⟩
     · repeat (first | refine zB (zK rfl) ?_ | refine zC ?_ | refine zAo rfl rfl rfl ?_ | refine zB (zAZ rfl rfl) ?_)
       refine zA ?_
       refine zAd 9 (.bool b) rfl (AEq.of_eq (by rw [hown, decide_eq_false g1, Bool.false_and])) ?_
       exact fin _ ⟨rfl, rfl, rfl, rfl, rfl, rfl, rfl, rfl, rfl, rfl, trivial⟩
   cases b
   · have hg := han rfl
     generalize zAI p ⟨kd, pl, nf, nx, od, py⟩ i f = g at *
     subst hg
     simp only [Bool.false_eq_true, if_false] at hvv
     refine rn5 ?_
     refine zk (ι := Nat) (fun k => [(0, .ro (zc t) 0 t.length), (1, .int .i64 p), (5, .ptr 2 0 0), (6, .mp 3), (7, .int .i64 (i : Nat)), (8, .ptr 4 0 0), (9, .bool false), (23, .ro (zc t) 0 t.length), (24, .int .i64 (t.length : Nat)), (25, .int .i64 (i : Nat)), (85, .ro (.ints .i64 nx) 0 nx.length), (86, .int .i64 (nx.length : Nat)), (87, .int .i64 (k : Nat))]) (fun k => zCY t.length ⟨g.seqs, zAl v (nx.take k) 0 g.pos, g.first⟩ [some ⟨40, .box [.int .i64 kd, .int .i64 pl, .int .i64 nf, .ro (.ints .i64 nx) 0 nx.length, .ro (.strs od) 0 od.length, .str py]⟩])
       (fun k => k ≤ nx.length) (fun k => nx.length - k) 0 ⟨⟨rfl, rfl, rfl, rfl, rfl, rfl, rfl, rfl, rfl, rfl, rfl, rfl, rfl, trivial⟩, rfl, Nat.zero_le _⟩ ?_
     intro k hk
     refine rn4 ?_
     refine zF rfl (fun h5 => ?_) (fun h5 => ?_)
     · have hk' : k < nx.length := by omega
       obtain ⟨b1, b2⟩ := hbh _ (zAj 0 hk')
       have hAl : (zAl v (nx.take k) 0 g.pos).length = t.length := by rw [zC2]; exact hgl
       have hAi : (zAl v (nx.take k) 0 g.pos).getD i 0 = g.pos.getD i 0 := zBW v 0 _ _ _ (fun c hc => by have := hbh c (List.mem_of_mem_take hc); omega)
       have hst : zAl v (nx.take (k + 1)) 0 g.pos = (zAl v (nx.take k) 0 g.pos).set (nx.getD k 0).toNat (v k) := by
         rw [zCi hk', zDC, List.length_take, Nat.min_eq_left hk, Nat.zero_add]
       have hvk := hvv k
       generalize hA2 : zAl v (nx.take (k + 1)) 0 g.pos = A2 at *
       generalize zAl v (nx.take k) 0 g.pos = A at *
       obtain ⟨x, hx⟩ := Int.eq_ofNat_of_zero_le (show 0 ≤ nx.getD k 0 by omega)
       have hxn : (nx.getD k 0).toNat = x := by rw [hx, Int.toNat_natCast]
       rw [hx] at b1 b2
       rw [hxn] at hst
       have hxl : x < A.length := by omega
       have hil : i < A.length := by omega
       have hxl2 : x < (A.set x (A.getD i 0)).length := by rw [List.length_set]; exact hxl
       refine rn6 ?_
       refine zAd 14 (.int .i64 (x : Nat)) rfl (AEq.of_eq (by rw [hx])) ?_
       refine zm (by kernel_rfl) ?_
       refine z7 (fuel := 1) [0, 1, 2, 3, 4, 5, 6, 7, 8, 9, 10, 11, 12] [(0, .ro (zc t) 0 t.length), (1, .int .i64 p), (5, .ptr 2 0 0), (6, .mp 3), (7, .int .i64 (i : Nat)), (8, .ptr 4 0 0), (9, .bool false), (23, .ro (zc t) 0 t.length), (24, .int .i64 (t.length : Nat)), (25, .int .i64 (i : Nat)), (85, .ro (.ints .i64 nx) 0 nx.length), (86, .int .i64 (nx.length : Nat)), (87, .int .i64 (k : Nat)), (13, .int .i64 (k : Nat)), (14, .int .i64 (x : Nat))] ⟨rfl, rfl, rfl, rfl, rfl, rfl, rfl, rfl, rfl, rfl, rfl, rfl, rfl, rfl, rfl, trivial⟩ (by kernel_rfl) (by decide) rfl rfl ?_
       refine zW rfl rfl (zH rfl) ?_
       refine zW rfl rfl (zAc rfl) ?_
       refine zW rfl rfl (zP rfl rfl rfl rfl rfl rfl) ?_
       refine zW rfl rfl (zS rfl rfl rfl rfl rfl) ?_
       refine zW rfl rfl (zH rfl) ?_
       refine zW rfl rfl (zH rfl) ?_
       refine zW rfl rfl (zAc rfl) ?_
       refine zW rfl rfl (zP rfl rfl rfl rfl rfl rfl) ?_
       refine zW rfl rfl (zS rfl rfl rfl rfl rfl) ?_
       refine zW rfl rfl (zH rfl) ?_
       refine zW rfl rfl (zZ rfl rfl rfl rfl rfl (by first | (simp only [Nat.zero_add, Int.toNat_natCast, Int.toNat_zero]; exact rfl) | exact rfl) (by omega)) ?_
       refine zW rfl rfl (zAH rfl rfl rfl rfl (by first | assumption | omega)) ?_
       refine zW rfl rfl (zZ rfl rfl rfl rfl rfl (by first | (simp only [Nat.zero_add, Int.toNat_natCast, Int.toNat_zero]; exact rfl) | exact rfl) (by omega)) ?_
       refine zAg ?_
       refine zE (is := [13]) (by kernel_rfl) (by simp) rfl ⟨fun o ho => ?_, trivial⟩
       all_goals (cases ho)
       repeat (first | refine zC ?_ | refine zj ?_ | refine zAh rfl rfl rfl rfl rfl rfl rfl (by first | assumption | (show _ < List.length _; first | assumption | omega)) ?_)
       refine zh (by kernel_rfl) ?_
       refine rn5 ?_
       exact zO ⟨k + 1, by omega, by omega, ⟨rfl, rfl, rfl, rfl, rfl, rfl, rfl, rfl, rfl, rfl, rfl, rfl, rfl, trivial⟩, by rw [hA2, hst, hvk, ← hAi]; rfl⟩
     · have hke : k = nx.length := by omega
       subst hke
       rw [List.take_length]
       repeat (first | refine zg ?_ | refine zA0 ?_ | refine zx ?_ | refine zw ?_ | refine zAN ?_)
       refine zA ?_
       refine zAz (zCY t.length ⟨g.seqs, zAl v nx 0 g.pos, g.first⟩ []) [some ⟨40, .box [.int .i64 kd, .int .i64 pl, .int .i64 nf, .ro (.ints .i64 nx) 0 nx.length, .ro (.strs od) 0 od.length, .str py]⟩] [(0, .ro (zc t) 0 t.length), (1, .int .i64 p), (5, .ptr 2 0 0), (6, .mp 3), (23, .ro (zc t) 0 t.length), (24, .int .i64 (t.length : Nat)), (25, .int .i64 (i : Nat))] rfl ⟨rfl, rfl, rfl, rfl, rfl, rfl, rfl, trivial⟩ (fun h hh => by rw [hfix] at hh; exact absurd hh id) (zG6 _ _) rfl ?_
       refine rn3 ?_
       exact zO ⟨i + 1, by omega, by omega, ⟨rfl, rfl, rfl, rfl, rfl, rfl, rfl, trivial⟩, by rw [hnx]⟩
   · obtain ⟨s, hs⟩ := a10 rfl
     obtain ⟨jj, i1, i2⟩ := zDM hs
     have hsl := (a8 _ (zCK hs)).2.1
     simp only at hsl
     simp only [if_true] at hvv
     rw [hs] at hvv
     simp only [Option.getD_some] at hvv
     refine rn5 ?_
     cases hL : zBL f.first nf with
     | some s0 =>
       have hg := hao hL
       refine zB (zBR rfl (.int rfl) rfl rfl rfl rfl (zIe f.first) (zDM hL).choose (zDM hL).choose_spec.1 (zDM hL).choose_spec.2) ?_
       generalize zAI p ⟨kd, pl, nf, nx, od, py⟩ i f = g at *
       subst hg
       obtain ⟨jj, i1, i2⟩ := zDM hs
       refine rn5 ?_
       refine zk (ι := Nat) (fun k => [(0, .ro (zc t) 0 t.length), (1, .int .i64 p), (5, .ptr 2 0 0), (6, .mp 3), (7, .int .i64 (i : Nat)), (8, .ptr 4 0 0), (9, .bool true), (23, .ro (zc t) 0 t.length), (24, .int .i64 (t.length : Nat)), (25, .int .i64 (i : Nat)), (85, .ro (.ints .i64 nx) 0 nx.length), (86, .int .i64 (nx.length : Nat)), (87, .int .i64 (k : Nat))]) (fun k => zCY t.length ⟨g.seqs, zAl v (nx.take k) 0 g.pos, g.first⟩ [some ⟨40, .box [.int .i64 kd, .int .i64 pl, .int .i64 nf, .ro (.ints .i64 nx) 0 nx.length, .ro (.strs od) 0 od.length, .str py]⟩])
         (fun k => k ≤ nx.length) (fun k => nx.length - k) 0 ⟨⟨rfl, rfl, rfl, rfl, rfl, rfl, rfl, rfl, rfl, rfl, rfl, rfl, rfl, trivial⟩, rfl, Nat.zero_le _⟩ ?_
       intro k hk
       refine rn4 ?_
       refine zF rfl (fun h5 => ?_) (fun h5 => ?_)
       · have hk' : k < nx.length := by omega
         obtain ⟨b1, b2⟩ := hbh _ (zAj 0 hk')
         have hAl : (zAl v (nx.take k) 0 g.pos).length = t.length := by rw [zC2]; exact hgl
         have hAi : (zAl v (nx.take k) 0 g.pos).getD i 0 = g.pos.getD i 0 := zBW v 0 _ _ _ (fun c hc => by have := hbh c (List.mem_of_mem_take hc); omega)
         have hst : zAl v (nx.take (k + 1)) 0 g.pos = (zAl v (nx.take k) 0 g.pos).set (nx.getD k 0).toNat (v k) := by
           rw [zCi hk', zDC, List.length_take, Nat.min_eq_left hk, Nat.zero_add]
         have hvk := hvv k
         generalize hA2 : zAl v (nx.take (k + 1)) 0 g.pos = A2 at *
         generalize zAl v (nx.take k) 0 g.pos = A at *
         obtain ⟨x, hx⟩ := Int.eq_ofNat_of_zero_le (show 0 ≤ nx.getD k 0 by omega)
         have hxn : (nx.getD k 0).toNat = x := by rw [hx, Int.toNat_natCast]
         rw [hx] at b1 b2
         rw [hxn] at hst
         have hxl : x < A.length := by omega
         have hil : i < A.length := by omega
         have hxl2 : x < (A.set x (A.getD i 0)).length := by rw [List.length_set]; exact hxl
         refine rn6 ?_
         refine zAd 14 (.int .i64 (x : Nat)) rfl (AEq.of_eq (by rw [hx])) ?_
         refine zm (by kernel_rfl) ?_
         refine z7 (fuel := 1) [0, 1, 2, 3, 4, 5, 6, 7, 8, 9, 10, 11, 12] [(0, .ro (zc t) 0 t.length), (1, .int .i64 p), (5, .ptr 2 0 0), (6, .mp 3), (7, .int .i64 (i : Nat)), (8, .ptr 4 0 0), (9, .bool true), (23, .ro (zc t) 0 t.length), (24, .int .i64 (t.length : Nat)), (25, .int .i64 (i : Nat)), (85, .ro (.ints .i64 nx) 0 nx.length), (86, .int .i64 (nx.length : Nat)), (87, .int .i64 (k : Nat)), (13, .int .i64 (k : Nat)), (14, .int .i64 (x : Nat))] ⟨rfl, rfl, rfl, rfl, rfl, rfl, rfl, rfl, rfl, rfl, rfl, rfl, rfl, rfl, rfl, trivial⟩ (by kernel_rfl) (by decide) rfl rfl ?_
         refine zW rfl rfl (zH rfl) ?_
         refine zW rfl rfl (zAc rfl) ?_
         refine zW rfl rfl (zP rfl rfl rfl rfl rfl rfl) ?_
         refine zW rfl rfl (zS rfl rfl rfl rfl rfl) ?_
         refine zW rfl rfl (zH rfl) ?_
         refine zW rfl rfl (zH rfl) ?_
         refine zW rfl rfl (zAc rfl) ?_
         refine zW rfl rfl (zP rfl rfl rfl rfl rfl rfl) ?_
         refine zW rfl rfl (zS rfl rfl rfl rfl rfl) ?_
         refine zW rfl rfl (zH rfl) ?_
         refine zW rfl rfl (zZ rfl rfl rfl rfl rfl (by first | (simp only [Nat.zero_add, Int.toNat_natCast, Int.toNat_zero]; exact rfl) | exact rfl) (by omega)) ?_
         refine zW rfl rfl (zAH rfl rfl rfl rfl (by first | assumption | omega)) ?_
         refine zW rfl rfl (zZ rfl rfl rfl rfl rfl (by first | (simp only [Nat.zero_add, Int.toNat_natCast, Int.toNat_zero]; exact rfl) | exact rfl) (by omega)) ?_
         refine zAg ?_
         refine zE (is := [13]) (by kernel_rfl) (by simp) rfl ⟨fun o ho => ?_, trivial⟩
         all_goals (cases ho)
         repeat (first | refine zC ?_ | refine zj ?_ | refine zAh rfl rfl rfl rfl rfl rfl rfl (by first | assumption | (show _ < List.length _; first | assumption | omega)) ?_)
         refine zGA (zCY t.length ⟨g.seqs, A.set x (A.getD i 0), g.first⟩ [some ⟨40, .box [.int .i64 kd, .int .i64 pl, .int .i64 nf, .ro (.ints .i64 nx) 0 nx.length, .ro (.strs od) 0 od.length, .str py]⟩]) (zAJ.refl _) ?_
         refine zh (by kernel_rfl) ?_
         refine rn5 ?_
         refine zm (by kernel_rfl) ?_
         refine z7 (fuel := 1) [0, 1, 2, 3, 4, 5, 6, 7, 8, 9, 10, 11] [(0, .ro (zc t) 0 t.length), (1, .int .i64 p), (5, .ptr 2 0 0), (6, .mp 3), (7, .int .i64 (i : Nat)), (8, .ptr 4 0 0), (9, .bool true), (23, .ro (zc t) 0 t.length), (24, .int .i64 (t.length : Nat)), (25, .int .i64 (i : Nat)), (85, .ro (.ints .i64 nx) 0 nx.length), (86, .int .i64 (nx.length : Nat)), (87, .int .i64 (k : Nat)), (13, .int .i64 (k : Nat)), (14, .int .i64 (x : Nat))] ⟨rfl, rfl, rfl, rfl, rfl, rfl, rfl, rfl, rfl, rfl, rfl, rfl, rfl, rfl, rfl, trivial⟩ (by kernel_rfl) (by decide) rfl rfl ?_
         refine zW rfl rfl (zH rfl) ?_
         refine zW rfl rfl (zAc rfl) ?_
         refine zW rfl rfl (zP rfl rfl rfl rfl rfl rfl) ?_
         refine zW rfl rfl (zS rfl rfl rfl rfl rfl) ?_
         refine zW rfl rfl (zH rfl) ?_
         refine zW rfl rfl (zH rfl) ?_
         refine zW rfl rfl (zP rfl rfl rfl rfl rfl rfl) ?_
         refine zW rfl rfl (zS rfl rfl rfl rfl rfl) ?_
         refine zW rfl rfl (zBR rfl (.int rfl) rfl rfl rfl rfl (zIe g.first) jj i1 i2) ?_
         refine zW rfl rfl (zH rfl) ?_
         refine zW rfl rfl (zC3 rfl rfl (by omega)) ?_
         refine zW rfl rfl (zZ rfl rfl rfl rfl rfl (by first | (simp only [Nat.zero_add, Int.toNat_natCast, Int.toNat_zero]; exact rfl) | exact rfl) (by omega)) ?_
         refine zAg ?_
         refine zE (is := [12]) (by kernel_rfl) (by simp) rfl ⟨fun o ho => ?_, trivial⟩
         all_goals (cases ho)
         repeat (first | refine zC ?_ | refine zj ?_ | refine zAh rfl rfl rfl rfl rfl rfl rfl (by first | assumption | (show _ < List.length _; first | assumption | omega)) ?_)
         refine zh (by kernel_rfl) ?_
         refine rn5 ?_
         exact zO ⟨k + 1, by omega, by omega, ⟨rfl, rfl, rfl, rfl, rfl, rfl, rfl, rfl, rfl, rfl, rfl, rfl, rfl, trivial⟩, by rw [hA2, hst, hvk]; exact congrArg (fun l => zCY t.length ⟨g.seqs, l, g.first⟩ [some ⟨40, .box [.int .i64 kd, .int .i64 pl, .int .i64 nf, .ro (.ints .i64 nx) 0 nx.length, .ro (.strs od) 0 od.length, .str py]⟩]) (List.set_set ..)⟩
       · have hke : k = nx.length := by omega
         subst hke
         rw [List.take_length]
         repeat (first | refine zg ?_ | refine zA0 ?_ | refine zx ?_ | refine zw ?_ | refine zAN ?_)
         refine zA ?_
         refine zAz (zCY t.length ⟨g.seqs, zAl v nx 0 g.pos, g.first⟩ []) [some ⟨40, .box [.int .i64 kd, .int .i64 pl, .int .i64 nf, .ro (.ints .i64 nx) 0 nx.length, .ro (.strs od) 0 od.length, .str py]⟩] [(0, .ro (zc t) 0 t.length), (1, .int .i64 p), (5, .ptr 2 0 0), (6, .mp 3), (23, .ro (zc t) 0 t.length), (24, .int .i64 (t.length : Nat)), (25, .int .i64 (i : Nat))] rfl ⟨rfl, rfl, rfl, rfl, rfl, rfl, rfl, trivial⟩ (fun h hh => by rw [hfix] at hh; exact absurd hh id) (zG6 _ _) rfl ?_
         refine rn3 ?_
         exact zO ⟨i + 1, by omega, by omega, ⟨rfl, rfl, rfl, rfl, rfl, rfl, rfl, trivial⟩, by rw [hnx]⟩
     | none =>
       have hg := hay rfl hL
       refine zB (zEq rfl (.int rfl) rfl rfl rfl rfl rfl rfl rfl rfl (zIe f.first) (zGf hL)) ?_
       generalize zAI p ⟨kd, pl, nf, nx, od, py⟩ i f = g at *
       obtain ⟨jj, i1, i2⟩ := zDM hs
       simp only at hg
       have hgs : g.seqs.length = f.seqs.length + nx.length := by rw [hg]; simp [zBk]
       have hil : i < f.pos.length := by omega
       refine rn5 ?_
       refine zm (by kernel_rfl) ?_
       refine z7 (fuel := 1) [0, 1, 2, 3, 4, 5, 6, 7] [(0, .ro (zc t) 0 t.length), (1, .int .i64 p), (5, .ptr 2 0 0), (6, .mp 3), (7, .int .i64 (i : Nat)), (8, .ptr 4 0 0), (9, .bool true), (23, .ro (zc t) 0 t.length), (24, .int .i64 (t.length : Nat)), (25, .int .i64 (i : Nat))] ⟨rfl, rfl, rfl, rfl, rfl, rfl, rfl, rfl, rfl, rfl, trivial⟩ (by kernel_rfl) (by decide) rfl rfl ?_
       refine zW rfl rfl (zH rfl) ?_
       refine zW rfl rfl (zP rfl rfl rfl rfl rfl rfl) ?_
       refine zW rfl rfl (zS rfl rfl rfl rfl rfl) ?_
       refine zW rfl rfl (zH rfl) ?_
       refine zW rfl rfl (zAc rfl) ?_
       refine zW rfl rfl (zP rfl rfl rfl rfl rfl rfl) ?_
       refine zW rfl rfl (zS rfl rfl rfl rfl rfl) ?_
       refine zW rfl rfl (zBK rfl rfl rfl) ?_
       refine zAg ?_
       refine zE (is := [8]) (by kernel_rfl) (by simp) rfl ⟨fun o ho => ?_, trivial⟩
       all_goals (cases ho)
       refine zCR rfl (.int rfl) rfl rfl rfl rfl rfl (zIe f.first) (zGf hL) ?_
       refine rn1 ?_
       refine zh (by kernel_rfl) ?_
       refine rn5 ?_
       refine zk (ι := Nat) (fun k => [(0, .ro (zc t) 0 t.length), (1, .int .i64 p), (5, .ptr 2 0 0), (6, .mp 3), (7, .int .i64 (i : Nat)), (8, .ptr 4 0 0), (9, .bool true), (23, .ro (zc t) 0 t.length), (24, .int .i64 (t.length : Nat)), (25, .int .i64 (i : Nat)), (58, .ro (.ints .i64 nx) 0 nx.length), (59, .int .i64 (nx.length : Nat)), (60, .int .i64 (k : Nat))]) (fun k => zCY t.length ⟨f.seqs ++ zII ⟨kd, pl, nf, nx, od, py⟩ (f.pos.getD i 0) k, f.pos, f.first ++ [(nf, f.seqs.length)]⟩ [some ⟨40, .box [.int .i64 kd, .int .i64 pl, .int .i64 nf, .ro (.ints .i64 nx) 0 nx.length, .ro (.strs od) 0 od.length, .str py]⟩])
         (fun k => k ≤ nx.length) (fun k => nx.length - k) 0 ⟨⟨rfl, rfl, rfl, rfl, rfl, rfl, rfl, rfl, rfl, rfl, rfl, rfl, rfl, trivial⟩, (form_new t.length f nf ⟨kd, pl, nf, nx, od, py⟩ (f.pos.getD i 0) [some ⟨40, .box [.int .i64 kd, .int .i64 pl, .int .i64 nf, .ro (.ints .i64 nx) 0 nx.length, .ro (.strs od) 0 od.length, .str py]⟩]).symm, Nat.zero_le _⟩ ?_
       intro k hk
       refine rn4 ?_
       refine zF rfl (fun h5 => ?_) (fun h5 => ?_)
       · have hk' : k < nx.length := by omega
         have hks := zPg ⟨kd, pl, nf, nx, od, py⟩ (f.pos.getD i 0) k
         have hSl : (f.seqs ++ zII ⟨kd, pl, nf, nx, od, py⟩ (f.pos.getD i 0) k).length ≤ 61 := by rw [List.length_append, newK_len]; omega
         have hS2 : f.seqs ++ zII ⟨kd, pl, nf, nx, od, py⟩ (f.pos.getD i 0) (k + 1) = (f.seqs ++ zII ⟨kd, pl, nf, nx, od, py⟩ (f.pos.getD i 0) k) ++ [(⟨nf, (k : Int), f.pos.getD i 0⟩ : RSeq)] := by rw [hks, List.append_assoc]
         generalize hS2' : f.seqs ++ zII ⟨kd, pl, nf, nx, od, py⟩ (f.pos.getD i 0) (k + 1) = S2 at *
         generalize f.seqs ++ zII ⟨kd, pl, nf, nx, od, py⟩ (f.pos.getD i 0) k = S at *
         refine rn1 ?_
         refine zm (by kernel_rfl) ?_
         apply zCL (H := zCY t.length ⟨S, f.pos, f.first ++ [(nf, f.seqs.length)]⟩ [some ⟨40, .box [.int .i64 kd, .int .i64 pl, .int .i64 nf, .ro (.ints .i64 nx) 0 nx.length, .ro (.strs od) 0 od.length, .str py]⟩]) [(0, .ro (zc t) 0 t.length), (1, .int .i64 p), (5, .ptr 2 0 0), (6, .mp 3), (7, .int .i64 (i : Nat)), (8, .ptr 4 0 0), (9, .bool true), (23, .ro (zc t) 0 t.length), (24, .int .i64 (t.length : Nat)), (25, .int .i64 (i : Nat)), (58, .ro (.ints .i64 nx) 0 nx.length), (59, .int .i64 (nx.length : Nat)), (60, .int .i64 (k : Nat)), (12, .int .i64 (k : Nat)), (63, .ptr 2 0 0), (67, .sl 0 0 S.length), (79, .ro (zEi 1 3 [.int .i64 nf, .int .i64 (k : Nat), .int .i64 (f.pos.getD i 0)]) 0 1)]
         · intro fin2
           refine zN 0 rfl (by kernel_rfl) (by kernel_rfl) (by kernel_rfl) rfl (zH rfl) rfl ?_
           refine zN 1 rfl (by kernel_rfl) (by kernel_rfl) (by kernel_rfl) rfl (zH rfl) rfl ?_
           refine zN 5 rfl (by kernel_rfl) (by kernel_rfl) (by kernel_rfl) rfl (zP rfl rfl rfl rfl rfl rfl) rfl ?_
           refine zN 7 rfl (by kernel_rfl) (by kernel_rfl) (by kernel_rfl) rfl (zH rfl) rfl ?_
           refine zN 8 rfl (by kernel_rfl) (by kernel_rfl) (by kernel_rfl) rfl (zH rfl) rfl ?_
           refine zN 12 rfl (by kernel_rfl) (by kernel_rfl) (by kernel_rfl) rfl (zH rfl) rfl ?_
           refine zN 2 rfl (by kernel_rfl) (by kernel_rfl) (by kernel_rfl) rfl (zAc rfl) rfl ?_
           refine zN 9 rfl (by kernel_rfl) (by kernel_rfl) (by kernel_rfl) rfl (zAc rfl) rfl ?_
           refine zN 3 rfl (by kernel_rfl) (by kernel_rfl) (by kernel_rfl) rfl (zP rfl rfl rfl rfl rfl rfl) rfl ?_
           refine zN 10 rfl (by kernel_rfl) (by kernel_rfl) (by kernel_rfl) rfl (zP rfl rfl rfl rfl rfl rfl) rfl ?_
           refine zE (is := [4, 6, 11]) (by kernel_rfl) (by simp) rfl ⟨fun o ho => ?_, fun o ho => ?_, fun o ho => ?_, trivial⟩
           all_goals (cases ho)
           · refine rn4 ?_
             refine zE (is := [6, 11]) (by kernel_rfl) (by simp) rfl ⟨fun o ho => ?_, fun o ho => ?_, trivial⟩
             all_goals (cases ho)
             · refine rn4 ?_
               refine zE (is := [11]) (by kernel_rfl) (by simp) rfl ⟨fun o ho => ?_, trivial⟩
               all_goals (cases ho)
               refine rn4 ?_
               refine zN 13 rfl (by kernel_rfl) (by kernel_rfl) (by kernel_rfl) rfl (zZ rfl rfl rfl rfl rfl (by first | (simp only [Nat.zero_add, Int.toNat_natCast, Int.toNat_zero]; exact rfl) | exact rfl) (by omega)) rfl ?_
               refine zE (is := [14]) (by kernel_rfl) (by simp) rfl ⟨fun o ho => ?_, trivial⟩
               all_goals (cases ho)
               repeat (first | refine zC ?_ | refine zj ?_ | refine zB (zAH rfl rfl rfl rfl (by first | assumption | omega)) ?_)
               refine zN 15 rfl (by kernel_rfl) (by kernel_rfl) (by kernel_rfl) rfl (zAS rfl rfl rfl rfl rfl rfl) rfl ?_
               refine zE (is := [16]) (by kernel_rfl) (by simp) rfl ⟨fun o ho => ?_, trivial⟩
               all_goals (cases ho)
               refine rn3 ?_
               exact fin2 _ ⟨rfl, rfl, rfl, rfl, rfl, rfl, rfl, rfl, rfl, rfl, rfl, rfl, rfl, rfl, rfl, rfl, rfl, trivial⟩
             · refine rn4 ?_
               refine zN 13 rfl (by kernel_rfl) (by kernel_rfl) (by kernel_rfl) rfl (zZ rfl rfl rfl rfl rfl (by first | (simp only [Nat.zero_add, Int.toNat_natCast, Int.toNat_zero]; exact rfl) | exact rfl) (by omega)) rfl ?_
               refine zE (is := [6, 14]) (by kernel_rfl) (by simp) rfl ⟨fun o ho => ?_, fun o ho => ?_, trivial⟩
               all_goals (cases ho)
               · refine rn4 ?_
                 refine zE (is := [14]) (by kernel_rfl) (by simp) rfl ⟨fun o ho => ?_, trivial⟩
                 all_goals (cases ho)
                 repeat (first | refine zC ?_ | refine zj ?_ | refine zB (zAH rfl rfl rfl rfl (by first | assumption | omega)) ?_)
                 refine zN 15 rfl (by kernel_rfl) (by kernel_rfl) (by kernel_rfl) rfl (zAS rfl rfl rfl rfl rfl rfl) rfl ?_
                 refine zE (is := [16]) (by kernel_rfl) (by simp) rfl ⟨fun o ho => ?_, trivial⟩
                 all_goals (cases ho)
                 refine rn3 ?_
                 exact fin2 _ ⟨rfl, rfl, rfl, rfl, rfl, rfl, rfl, rfl, rfl, rfl, rfl, rfl, rfl, rfl, rfl, rfl, rfl, trivial⟩
               · repeat (first | refine zC ?_ | refine zj ?_ | refine zB (zAH rfl rfl rfl rfl (by first | assumption | omega)) ?_)
                 refine zE (is := [6]) (by kernel_rfl) (by simp) rfl ⟨fun o ho => ?_, trivial⟩
                 all_goals (cases ho)
                 refine rn4 ?_
                 refine zN 15 rfl (by kernel_rfl) (by kernel_rfl) (by kernel_rfl) rfl (zAS rfl rfl rfl rfl rfl rfl) rfl ?_
                 refine zE (is := [16]) (by kernel_rfl) (by simp) rfl ⟨fun o ho => ?_, trivial⟩
                 all_goals (cases ho)
                 refine rn3 ?_
                 exact fin2 _ ⟨rfl, rfl, rfl, rfl, rfl, rfl, rfl, rfl, rfl, rfl, rfl, rfl, rfl, rfl, rfl, rfl, rfl, trivial⟩
           · refine rn4 ?_
             refine zE (is := [4, 11]) (by kernel_rfl) (by simp) rfl ⟨fun o ho => ?_, fun o ho => ?_, trivial⟩
             all_goals (cases ho)
             · refine rn4 ?_
               refine zE (is := [11]) (by kernel_rfl) (by simp) rfl ⟨fun o ho => ?_, trivial⟩
               all_goals (cases ho)
               refine rn4 ?_
               refine zN 13 rfl (by kernel_rfl) (by kernel_rfl) (by kernel_rfl) rfl (zZ rfl rfl rfl rfl rfl (by first | (simp only [Nat.zero_add, Int.toNat_natCast, Int.toNat_zero]; exact rfl) | exact rfl) (by omega)) rfl ?_
               refine zE (is := [14]) (by kernel_rfl) (by simp) rfl ⟨fun o ho => ?_, trivial⟩
               all_goals (cases ho)
               repeat (first | refine zC ?_ | refine zj ?_ | refine zB (zAH rfl rfl rfl rfl (by first | assumption | omega)) ?_)
               refine zN 15 rfl (by kernel_rfl) (by kernel_rfl) (by kernel_rfl) rfl (zAS rfl rfl rfl rfl rfl rfl) rfl ?_
               refine zE (is := [16]) (by kernel_rfl) (by simp) rfl ⟨fun o ho => ?_, trivial⟩
               all_goals (cases ho)
               refine rn3 ?_
               exact fin2 _ ⟨rfl, rfl, rfl, rfl, rfl, rfl, rfl, rfl, rfl, rfl, rfl, rfl, rfl, rfl, rfl, rfl, rfl, trivial⟩
             · refine rn4 ?_
               refine zN 13 rfl (by kernel_rfl) (by kernel_rfl) (by kernel_rfl) rfl (zZ rfl rfl rfl rfl rfl (by first | (simp only [Nat.zero_add, Int.toNat_natCast, Int.toNat_zero]; exact rfl) | exact rfl) (by omega)) rfl ?_
               refine zE (is := [4, 14]) (by kernel_rfl) (by simp) rfl ⟨fun o ho => ?_, fun o ho => ?_, trivial⟩
               all_goals (cases ho)
               · refine rn4 ?_
                 refine zE (is := [14]) (by kernel_rfl) (by simp) rfl ⟨fun o ho => ?_, trivial⟩
                 all_goals (cases ho)
                 repeat (first | refine zC ?_ | refine zj ?_ | refine zB (zAH rfl rfl rfl rfl (by first | assumption | omega)) ?_)
                 refine zN 15 rfl (by kernel_rfl) (by kernel_rfl) (by kernel_rfl) rfl (zAS rfl rfl rfl rfl rfl rfl) rfl ?_
                 refine zE (is := [16]) (by kernel_rfl) (by simp) rfl ⟨fun o ho => ?_, trivial⟩
                 all_goals (cases ho)
                 refine rn3 ?_
                 exact fin2 _ ⟨rfl, rfl, rfl, rfl, rfl, rfl, rfl, rfl, rfl, rfl, rfl, rfl, rfl, rfl, rfl, rfl, rfl, trivial⟩
               · repeat (first | refine zC ?_ | refine zj ?_ | refine zB (zAH rfl rfl rfl rfl (by first | assumption | omega)) ?_)
                 refine zN 15 rfl (by kernel_rfl) (by kernel_rfl) (by kernel_rfl) rfl (zAS rfl rfl rfl rfl rfl rfl) rfl ?_
                 refine zE (is := [4, 16]) (by kernel_rfl) (by simp) rfl ⟨fun o ho => ?_, fun o ho => ?_, trivial⟩
                 all_goals (cases ho)
                 · refine rn4 ?_
                   refine zE (is := [16]) (by kernel_rfl) (by simp) rfl ⟨fun o ho => ?_, trivial⟩
                   all_goals (cases ho)
                   refine rn3 ?_
                   exact fin2 _ ⟨rfl, rfl, rfl, rfl, rfl, rfl, rfl, rfl, rfl, rfl, rfl, rfl, rfl, rfl, rfl, rfl, rfl, trivial⟩
                 · refine rn3 ?_
                   refine zE (is := [4]) (by kernel_rfl) (by simp) rfl ⟨fun o ho => ?_, trivial⟩
                   all_goals (cases ho)
                   refine rn4 ?_
                   exact fin2 _ ⟨rfl, rfl, rfl, rfl, rfl, rfl, rfl, rfl, rfl, rfl, rfl, rfl, rfl, rfl, rfl, rfl, rfl, trivial⟩
           · refine rn4 ?_
             refine zN 13 rfl (by kernel_rfl) (by kernel_rfl) (by kernel_rfl) rfl (zZ rfl rfl rfl rfl rfl (by first | (simp only [Nat.zero_add, Int.toNat_natCast, Int.toNat_zero]; exact rfl) | exact rfl) (by omega)) rfl ?_
             refine zE (is := [4, 6, 14]) (by kernel_rfl) (by simp) rfl ⟨fun o ho => ?_, fun o ho => ?_, fun o ho => ?_, trivial⟩
             all_goals (cases ho)
             · refine rn4 ?_
               refine zE (is := [6, 14]) (by kernel_rfl) (by simp) rfl ⟨fun o ho => ?_, fun o ho => ?_, trivial⟩
               all_goals (cases ho)
               · refine rn4 ?_
                 refine zE (is := [14]) (by kernel_rfl) (by simp) rfl ⟨fun o ho => ?_, trivial⟩
                 all_goals (cases ho)
                 repeat (first | refine zC ?_ | refine zj ?_ | refine zB (zAH rfl rfl rfl rfl (by first | assumption | omega)) ?_)
                 refine zN 15 rfl (by kernel_rfl) (by kernel_rfl) (by kernel_rfl) rfl (zAS rfl rfl rfl rfl rfl rfl) rfl ?_
                 refine zE (is := [16]) (by kernel_rfl) (by simp) rfl ⟨fun o ho => ?_, trivial⟩
                 all_goals (cases ho)
                 refine rn3 ?_
                 exact fin2 _ ⟨rfl, rfl, rfl, rfl, rfl, rfl, rfl, rfl, rfl, rfl, rfl, rfl, rfl, rfl, rfl, rfl, rfl, trivial⟩
               · repeat (first | refine zC ?_ | refine zj ?_ | refine zB (zAH rfl rfl rfl rfl (by first | assumption | omega)) ?_)
                 refine zE (is := [6]) (by kernel_rfl) (by simp) rfl ⟨fun o ho => ?_, trivial⟩
                 all_goals (cases ho)
                 refine rn4 ?_
                 refine zN 15 rfl (by kernel_rfl) (by kernel_rfl) (by kernel_rfl) rfl (zAS rfl rfl rfl rfl rfl rfl) rfl ?_
                 refine zE (is := [16]) (by kernel_rfl) (by simp) rfl ⟨fun o ho => ?_, trivial⟩
                 all_goals (cases ho)
                 refine rn3 ?_
                 exact fin2 _ ⟨rfl, rfl, rfl, rfl, rfl, rfl, rfl, rfl, rfl, rfl, rfl, rfl, rfl, rfl, rfl, rfl, rfl, trivial⟩
             · refine rn4 ?_
               refine zE (is := [4, 14]) (by kernel_rfl) (by simp) rfl ⟨fun o ho => ?_, fun o ho => ?_, trivial⟩
               all_goals (cases ho)
               · refine rn4 ?_
                 refine zE (is := [14]) (by kernel_rfl) (by simp) rfl ⟨fun o ho => ?_, trivial⟩
                 all_goals (cases ho)
                 repeat (first | refine zC ?_ | refine zj ?_ | refine zB (zAH rfl rfl rfl rfl (by first | assumption | omega)) ?_)
                 refine zN 15 rfl (by kernel_rfl) (by kernel_rfl) (by kernel_rfl) rfl (zAS rfl rfl rfl rfl rfl rfl) rfl ?_
                 refine zE (is := [16]) (by kernel_rfl) (by simp) rfl ⟨fun o ho => ?_, trivial⟩
                 all_goals (cases ho)
                 refine rn3 ?_
                 exact fin2 _ ⟨rfl, rfl, rfl, rfl, rfl, rfl, rfl, rfl, rfl, rfl, rfl, rfl, rfl, rfl, rfl, rfl, rfl, trivial⟩
               · repeat (first | refine zC ?_ | refine zj ?_ | refine zB (zAH rfl rfl rfl rfl (by first | assumption | omega)) ?_)
                 refine zN 15 rfl (by kernel_rfl) (by kernel_rfl) (by kernel_rfl) rfl (zAS rfl rfl rfl rfl rfl rfl) rfl ?_
                 refine zE (is := [4, 16]) (by kernel_rfl) (by simp) rfl ⟨fun o ho => ?_, fun o ho => ?_, trivial⟩
                 all_goals (cases ho)
                 · refine rn4 ?_
                   refine zE (is := [16]) (by kernel_rfl) (by simp) rfl ⟨fun o ho => ?_, trivial⟩
                   all_goals (cases ho)
                   refine rn3 ?_
                   exact fin2 _ ⟨rfl, rfl, rfl, rfl, rfl, rfl, rfl, rfl, rfl, rfl, rfl, rfl, rfl, rfl, rfl, rfl, rfl, trivial⟩
                 · refine rn3 ?_
                   refine zE (is := [4]) (by kernel_rfl) (by simp) rfl ⟨fun o ho => ?_, trivial⟩
                   all_goals (cases ho)
                   refine rn4 ?_
                   exact fin2 _ ⟨rfl, rfl, rfl, rfl, rfl, rfl, rfl, rfl, rfl, rfl, rfl, rfl, rfl, rfl, rfl, rfl, rfl, trivial⟩
             · repeat (first | refine zC ?_ | refine zj ?_ | refine zB (zAH rfl rfl rfl rfl (by first | assumption | omega)) ?_)
               refine zE (is := [4, 6]) (by kernel_rfl) (by simp) rfl ⟨fun o ho => ?_, fun o ho => ?_, trivial⟩
               all_goals (cases ho)
               · refine rn4 ?_
                 refine zE (is := [6]) (by kernel_rfl) (by simp) rfl ⟨fun o ho => ?_, trivial⟩
                 all_goals (cases ho)
                 refine rn4 ?_
                 refine zN 15 rfl (by kernel_rfl) (by kernel_rfl) (by kernel_rfl) rfl (zAS rfl rfl rfl rfl rfl rfl) rfl ?_
                 refine zE (is := [16]) (by kernel_rfl) (by simp) rfl ⟨fun o ho => ?_, trivial⟩
                 all_goals (cases ho)
                 refine rn3 ?_
                 exact fin2 _ ⟨rfl, rfl, rfl, rfl, rfl, rfl, rfl, rfl, rfl, rfl, rfl, rfl, rfl, rfl, rfl, rfl, rfl, trivial⟩
               · refine rn4 ?_
                 refine zN 15 rfl (by kernel_rfl) (by kernel_rfl) (by kernel_rfl) rfl (zAS rfl rfl rfl rfl rfl rfl) rfl ?_
                 refine zE (is := [4, 16]) (by kernel_rfl) (by simp) rfl ⟨fun o ho => ?_, fun o ho => ?_, trivial⟩
                 all_goals (cases ho)
                 · refine rn4 ?_
                   refine zE (is := [16]) (by kernel_rfl) (by simp) rfl ⟨fun o ho => ?_, trivial⟩
                   all_goals (cases ho)
                   refine rn3 ?_
                   exact fin2 _ ⟨rfl, rfl, rfl, rfl, rfl, rfl, rfl, rfl, rfl, rfl, rfl, rfl, rfl, rfl, rfl, rfl, rfl, trivial⟩
                 · refine rn3 ?_
                   refine zE (is := [4]) (by kernel_rfl) (by simp) rfl ⟨fun o ho => ?_, trivial⟩
                   all_goals (cases ho)
                   refine rn4 ?_
                   exact fin2 _ ⟨rfl, rfl, rfl, rfl, rfl, rfl, rfl, rfl, rfl, rfl, rfl, rfl, rfl, rfl, rfl, rfl, rfl, trivial⟩
         · refine zE (is := [17]) (by kernel_rfl) (by simp) rfl ⟨fun o ho => ?_, trivial⟩
           all_goals (cases ho)
           refine zp rfl rfl rfl rfl rfl rfl rfl rfl rfl rfl rfl rfl (by show 0 + 1 ≤ 1; omega) rfl (by show (S.length + 1) * 24 ≤ _ ∧ _; omega) ?_ (by rw [hfix]; exact fun h => h) ?_
           · intro i' j' hi' hj'
             exact zHE zBZ 3 zFZ zK5 S ⟨nf, (k : Int), f.pos.getD i 0⟩ _ (rowS3 ⟨nf, (k : Int), f.pos.getD i 0⟩) 0 i' j' hi' hj'
           refine zAx [some ⟨174, zIn (S ++ [(⟨nf, (k : Int), f.pos.getD i 0⟩ : RSeq)])⟩, some ⟨3, .ints .i64 f.pos⟩, some ⟨169, .box [.any, .sl 1 0 t.length]⟩, some ⟨123, zGo (f.first ++ [(nf, f.seqs.length)])⟩, some ⟨40, .box [.int .i64 kd, .int .i64 pl, .int .i64 nf, .ro (.ints .i64 nx) 0 nx.length, .ro (.strs od) 0 od.length, .str py]⟩] (zAJ.eqv (zE6 zBZ 3 zFZ S ⟨nf, (k : Int), f.pos.getD i 0⟩ _ (rowS3 ⟨nf, (k : Int), f.pos.getD i 0⟩)) (zAJ.eqv (CEq.refl _) (zAJ.eqv (CEq.refl _) (zAJ.eqv (zNO _ _) (zAJ.eqv (CEq.refl _) zAJ.nil))))) ?_
           refine rn1 ?_
           refine zN 18 rfl (by kernel_rfl) (by kernel_rfl) (by kernel_rfl) rfl (zAc rfl) rfl ?_
           refine zN 19 rfl (by kernel_rfl) (by kernel_rfl) (by kernel_rfl) rfl (zP rfl rfl rfl rfl rfl rfl) rfl ?_
           refine zE (is := [20]) (by kernel_rfl) (by simp) rfl ⟨fun o ho => ?_, trivial⟩
           all_goals (cases ho)
           repeat (first | refine zC ?_ | refine zj ?_ | refine zAh rfl rfl rfl rfl rfl rfl rfl Nat.zero_lt_one ?_)
           refine zGA (zCY t.length ⟨S ++ [(⟨nf, (k : Int), f.pos.getD i 0⟩ : RSeq)], f.pos, f.first ++ [(nf, f.seqs.length)]⟩ [some ⟨40, .box [.int .i64 kd, .int .i64 pl, .int .i64 nf, .ro (.ints .i64 nx) 0 nx.length, .ro (.strs od) 0 od.length, .str py]⟩]) (zAJ.eqv (CEq.refl _) (zAJ.eqv (CEq.refl _) (zAJ.eqv (by show CEq (formB (S.length + 1) t.length) (formB (S ++ [(⟨nf, (k : Int), f.pos.getD i 0⟩ : RSeq)]).length t.length); rw [List.length_append]; exact CEq.refl _) (zAJ.refl _)))) ?_
           refine zh (by kernel_rfl) ?_
           refine rn5 ?_
           exact zO ⟨k + 1, by omega, by omega, ⟨rfl, rfl, rfl, rfl, rfl, rfl, rfl, rfl, rfl, rfl, rfl, rfl, rfl, trivial⟩, by rw [hS2', hS2]⟩
       · have hke : k = nx.length := by omega
         subst hke
         refine rn5 ?_
         refine zCg (zCY t.length g [some ⟨40, .box [.int .i64 kd, .int .i64 pl, .int .i64 nf, .ro (.ints .i64 nx) 0 nx.length, .ro (.strs od) 0 od.length, .str py]⟩]) (by rw [hg]; rfl) ?_
         refine zk (ι := Nat) (fun k => [(0, .ro (zc t) 0 t.length), (1, .int .i64 p), (5, .ptr 2 0 0), (6, .mp 3), (7, .int .i64 (i : Nat)), (8, .ptr 4 0 0), (9, .bool true), (23, .ro (zc t) 0 t.length), (24, .int .i64 (t.length : Nat)), (25, .int .i64 (i : Nat)), (85, .ro (.ints .i64 nx) 0 nx.length), (86, .int .i64 (nx.length : Nat)), (87, .int .i64 (k : Nat))]) (fun k => zCY t.length ⟨g.seqs, zAl v (nx.take k) 0 g.pos, g.first⟩ [some ⟨40, .box [.int .i64 kd, .int .i64 pl, .int .i64 nf, .ro (.ints .i64 nx) 0 nx.length, .ro (.strs od) 0 od.length, .str py]⟩])
           (fun k => k ≤ nx.length) (fun k => nx.length - k) 0 ⟨⟨rfl, rfl, rfl, rfl, rfl, rfl, rfl, rfl, rfl, rfl, rfl, rfl, rfl, trivial⟩, rfl, Nat.zero_le _⟩ ?_
         intro k hk
         refine rn4 ?_
         refine zF rfl (fun h5 => ?_) (fun h5 => ?_)
         · have hk' : k < nx.length := by omega
           obtain ⟨b1, b2⟩ := hbh _ (zAj 0 hk')
           have hAl : (zAl v (nx.take k) 0 g.pos).length = t.length := by rw [zC2]; exact hgl
           have hAi : (zAl v (nx.take k) 0 g.pos).getD i 0 = g.pos.getD i 0 := zBW v 0 _ _ _ (fun c hc => by have := hbh c (List.mem_of_mem_take hc); omega)
           have hst : zAl v (nx.take (k + 1)) 0 g.pos = (zAl v (nx.take k) 0 g.pos).set (nx.getD k 0).toNat (v k) := by
             rw [zCi hk', zDC, List.length_take, Nat.min_eq_left hk, Nat.zero_add]
           have hvk := hvv k
           generalize hA2 : zAl v (nx.take (k + 1)) 0 g.pos = A2 at *
           generalize zAl v (nx.take k) 0 g.pos = A at *
           obtain ⟨x, hx⟩ := Int.eq_ofNat_of_zero_le (show 0 ≤ nx.getD k 0 by omega)
           have hxn : (nx.getD k 0).toNat = x := by rw [hx, Int.toNat_natCast]
           rw [hx] at b1 b2
           rw [hxn] at hst
           have hxl : x < A.length := by omega
           have hil : i < A.length := by omega
           have hxl2 : x < (A.set x (A.getD i 0)).length := by rw [List.length_set]; exact hxl
           refine rn6 ?_
           refine zAd 14 (.int .i64 (x : Nat)) rfl (AEq.of_eq (by rw [hx])) ?_
           refine zm (by kernel_rfl) ?_
           refine z7 (fuel := 1) [0, 1, 2, 3, 4, 5, 6, 7, 8, 9, 10, 11, 12] [(0, .ro (zc t) 0 t.length), (1, .int .i64 p), (5, .ptr 2 0 0), (6, .mp 3), (7, .int .i64 (i : Nat)), (8, .ptr 4 0 0), (9, .bool true), (23, .ro (zc t) 0 t.length), (24, .int .i64 (t.length : Nat)), (25, .int .i64 (i : Nat)), (85, .ro (.ints .i64 nx) 0 nx.length), (86, .int .i64 (nx.length : Nat)), (87, .int .i64 (k : Nat)), (13, .int .i64 (k : Nat)), (14, .int .i64 (x : Nat))] ⟨rfl, rfl, rfl, rfl, rfl, rfl, rfl, rfl, rfl, rfl, rfl, rfl, rfl, rfl, rfl, trivial⟩ (by kernel_rfl) (by decide) rfl rfl ?_
           refine zW rfl rfl (zH rfl) ?_
           refine zW rfl rfl (zAc rfl) ?_
           refine zW rfl rfl (zP rfl rfl rfl rfl rfl rfl) ?_
           refine zW rfl rfl (zS rfl rfl rfl rfl rfl) ?_
           refine zW rfl rfl (zH rfl) ?_
           refine zW rfl rfl (zH rfl) ?_
           refine zW rfl rfl (zAc rfl) ?_
           refine zW rfl rfl (zP rfl rfl rfl rfl rfl rfl) ?_
           refine zW rfl rfl (zS rfl rfl rfl rfl rfl) ?_
           refine zW rfl rfl (zH rfl) ?_
           refine zW rfl rfl (zZ rfl rfl rfl rfl rfl (by first | (simp only [Nat.zero_add, Int.toNat_natCast, Int.toNat_zero]; exact rfl) | exact rfl) (by omega)) ?_
           refine zW rfl rfl (zAH rfl rfl rfl rfl (by first | assumption | omega)) ?_
           refine zW rfl rfl (zZ rfl rfl rfl rfl rfl (by first | (simp only [Nat.zero_add, Int.toNat_natCast, Int.toNat_zero]; exact rfl) | exact rfl) (by omega)) ?_
           refine zAg ?_
           refine zE (is := [13]) (by kernel_rfl) (by simp) rfl ⟨fun o ho => ?_, trivial⟩
           all_goals (cases ho)
           repeat (first | refine zC ?_ | refine zj ?_ | refine zAh rfl rfl rfl rfl rfl rfl rfl (by first | assumption | (show _ < List.length _; first | assumption | omega)) ?_)
           refine zGA (zCY t.length ⟨g.seqs, A.set x (A.getD i 0), g.first⟩ [some ⟨40, .box [.int .i64 kd, .int .i64 pl, .int .i64 nf, .ro (.ints .i64 nx) 0 nx.length, .ro (.strs od) 0 od.length, .str py]⟩]) (zAJ.refl _) ?_
           refine zh (by kernel_rfl) ?_
           refine rn5 ?_
           refine zm (by kernel_rfl) ?_
           refine z7 (fuel := 1) [0, 1, 2, 3, 4, 5, 6, 7, 8, 9, 10, 11] [(0, .ro (zc t) 0 t.length), (1, .int .i64 p), (5, .ptr 2 0 0), (6, .mp 3), (7, .int .i64 (i : Nat)), (8, .ptr 4 0 0), (9, .bool true), (23, .ro (zc t) 0 t.length), (24, .int .i64 (t.length : Nat)), (25, .int .i64 (i : Nat)), (85, .ro (.ints .i64 nx) 0 nx.length), (86, .int .i64 (nx.length : Nat)), (87, .int .i64 (k : Nat)), (13, .int .i64 (k : Nat)), (14, .int .i64 (x : Nat))] ⟨rfl, rfl, rfl, rfl, rfl, rfl, rfl, rfl, rfl, rfl, rfl, rfl, rfl, rfl, rfl, trivial⟩ (by kernel_rfl) (by decide) rfl rfl ?_
           refine zW rfl rfl (zH rfl) ?_
           refine zW rfl rfl (zAc rfl) ?_
           refine zW rfl rfl (zP rfl rfl rfl rfl rfl rfl) ?_
           refine zW rfl rfl (zS rfl rfl rfl rfl rfl) ?_
           refine zW rfl rfl (zH rfl) ?_
           refine zW rfl rfl (zH rfl) ?_
           refine zW rfl rfl (zP rfl rfl rfl rfl rfl rfl) ?_
           refine zW rfl rfl (zS rfl rfl rfl rfl rfl) ?_
           refine zW rfl rfl (zBR rfl (.int rfl) rfl rfl rfl rfl (zIe g.first) jj i1 i2) ?_
           refine zW rfl rfl (zH rfl) ?_
           refine zW rfl rfl (zC3 rfl rfl (by omega)) ?_
           refine zW rfl rfl (zZ rfl rfl rfl rfl rfl (by first | (simp only [Nat.zero_add, Int.toNat_natCast, Int.toNat_zero]; exact rfl) | exact rfl) (by omega)) ?_
           refine zAg ?_
           refine zE (is := [12]) (by kernel_rfl) (by simp) rfl ⟨fun o ho => ?_, trivial⟩
           all_goals (cases ho)
           repeat (first | refine zC ?_ | refine zj ?_ | refine zAh rfl rfl rfl rfl rfl rfl rfl (by first | assumption | (show _ < List.length _; first | assumption | omega)) ?_)
           refine zh (by kernel_rfl) ?_
           refine rn5 ?_
           exact zO ⟨k + 1, by omega, by omega, ⟨rfl, rfl, rfl, rfl, rfl, rfl, rfl, rfl, rfl, rfl, rfl, rfl, rfl, trivial⟩, by rw [hA2, hst, hvk]; exact congrArg (fun l => zCY t.length ⟨g.seqs, l, g.first⟩ [some ⟨40, .box [.int .i64 kd, .int .i64 pl, .int .i64 nf, .ro (.ints .i64 nx) 0 nx.length, .ro (.strs od) 0 od.length, .str py]⟩]) (List.set_set ..)⟩
         · have hke : k = nx.length := by omega
           subst hke
           rw [List.take_length]
           repeat (first | refine zg ?_ | refine zA0 ?_ | refine zx ?_ | refine zw ?_ | refine zAN ?_)
           refine zA ?_
           refine zAz (zCY t.length ⟨g.seqs, zAl v nx 0 g.pos, g.first⟩ []) [some ⟨40, .box [.int .i64 kd, .int .i64 pl, .int .i64 nf, .ro (.ints .i64 nx) 0 nx.length, .ro (.strs od) 0 od.length, .str py]⟩] [(0, .ro (zc t) 0 t.length), (1, .int .i64 p), (5, .ptr 2 0 0), (6, .mp 3), (23, .ro (zc t) 0 t.length), (24, .int .i64 (t.length : Nat)), (25, .int .i64 (i : Nat))] rfl ⟨rfl, rfl, rfl, rfl, rfl, rfl, rfl, trivial⟩ (fun h hh => by rw [hfix] at hh; exact absurd hh id) (zG6 _ _) rfl ?_
           refine rn3 ?_
           exact zO ⟨i + 1, by omega, by omega, ⟨rfl, rfl, rfl, rfl, rfl, rfl, rfl, trivial⟩, by rw [hnx]⟩
 · have hie : i = t.length := by omega
   subst hie
   refine rn5 ?_
   exact zI hR rfl ⟨rfl, rfl⟩
end Go.Proofs.YtnkealfaldjipaaGreatDoor
namespace Go.Ax.Rt
open Go.Ax.Bg Go.Ax.Idx
structure TChoice where
 info : Int
 odds : List zAK
 deriving DecidableEq
def ch0 : TChoice := ⟨0, []⟩
abbrev zAY := List TChoice
def zFd (I Z : List Int) : Nat → zAY → Int
 | _, [] => 0
 | k, c :: r => if c.info ≠ I.getD k 0 ∨ ((c.odds.length : Nat) : Int) ≠ Z.getD k 0 then 3 else if zDn c.odds ≠ 0 then zDn c.odds else zFd I Z (k + 1) r
/-- recall.Strategy -/
def zB7 (t : zT) (p : Int) (s : zAY) : Int := if s.length ≠ (zf t p).length then 3 else zFd (zf t p) (zBY t p) 0 s
theorem zL8 {I Z : List Int} {s : zAY} {k : Nat} (hk : k < s.length) : zFd I Z k (s.drop k) = if (s.getD k ch0).info ≠ I.getD k 0 ∨ (((s.getD k ch0).odds.length : Nat) : Int) ≠ Z.getD k 0 then 3 else if zDn (s.getD k ch0).odds ≠ 0 then zDn (s.getD k ch0).odds else zFd I Z (k + 1) (s.drop (k + 1)) := by
 rw [List.drop_eq_getElem_cons hk, ← zAk ch0 hk, zFd]
theorem zIf {I Z : List Int} : ∀ {s : zAY} {k : Nat}, zFd I Z k s = 0 → ∀ j, j < s.length → (s.getD j ch0).info = I.getD (k + j) 0 ∧ (((s.getD j ch0).odds.length : Nat) : Int) = Z.getD (k + j) 0 ∧ zDn (s.getD j ch0).odds = 0
 | [], k, h, j, hj => absurd hj (Nat.not_lt_zero _)
 | c :: r, k, h, j, hj => by
   rw [zFd] at h
   split at h
   · cases h
   rename_i h1
   simp only [not_or, Classical.not_not] at h1
   split at h
   · rename_i h2; exact absurd h h2
   rename_i h2
   cases j with
   | zero => exact ⟨h1.1, h1.2, Classical.not_not.1 h2⟩
   | succ j =>
     have := zIf h j (by simpa using hj)
     rw [show k + (j + 1) = k + 1 + j by omega]
     exact this
structure OkS (t : zT) (p : Int) (s : zAY) : Prop where
 infos : s.map TChoice.info = zf t p
 wid : ∀ j, j < s.length → (s.getD j ch0).odds.length = zd t p (s.getD j ch0).info
 odds : ∀ c ∈ s, zDn c.odds = 0
theorem zM0 {t : zT} {p : Int} {s : zAY} (h : zB7 t p s = 0) : OkS t p s := by
 unfold zB7 at h
 split at h
 · cases h
 rename_i h1
 have h1 := Classical.not_not.1 h1
 have h2 := zIf h
 have e1 : ∀ j, j < s.length → (s.getD j ch0).info = (zf t p).getD j 0 := fun j hj => by
   have := (h2 j hj).1; rwa [Nat.zero_add] at this
 refine ⟨?_, fun j hj => ?_, fun c hc => ?_⟩
 · apply List.ext_getElem (by rw [List.length_map]; exact h1)
   intro j hj1 hj2
   have hj : j < s.length := by simpa using hj1
   have := e1 j hj
   rw [zAk ch0 hj, zAk 0 hj2] at this
   rw [List.getElem_map]; exact this
 · have := (h2 j hj).2.1
   rw [Nat.zero_add] at this
   have hj2 : j < (zf t p).length := by omega
   unfold zBY at this
   rw [zDY _ _ 0 _ _ hj2, ← e1 j hj] at this
   omega
 · obtain ⟨j, hj, rfl⟩ := List.getElem_of_mem hc
   have := (h2 j hj).2.2
   rwa [zAk ch0 hj] at this
theorem zMc : ∀ (qs : List Rat) (acc : Rat), (zKC acc qs).2 = 0 → (zKC acc qs).1 = zAy acc qs
 | [], acc, _ => rfl
 | q :: r, acc, h => by
   rw [zKC] at h ⊢
   rw [zAy]
   split at h
   · rename_i hf
     rw [if_pos hf]
     exact zMc r _ h
   · cases h
theorem zD4 {l : List zAK} (h : zDn l = 0) : l.length ≤ 256 ∧ (∀ s ∈ l, zCX s = 0) ∧ zAy 0 (l.map zAU) = 1 ∧ ∀ q ∈ l.map zAU, 0 ≤ q ∧ D 2000 q := by
 unfold zDn at h
 split at h
 case isFalse h1 => exact absurd h h1
 rename_i h1
 split at h
 case isFalse => cases h
 rename_i h2
 unfold posE at h1
 split at h1
 · cases h1
 rename_i h3
 have h4 : l.any zCn = false := by
   cases hb : l.any zCn
   · rfl
   · exact absurd ⟨h1, hb⟩ h3
 unfold zEo at h1 h2
 split at h1
 · cases h1
 rename_i h5
 split at h1
 case isFalse h6 => exact absurd h1 h6
 rename_i h6
 rw [if_neg h5, if_pos h6] at h2
 have h7 := zEP h6
 refine ⟨by omega, h7, ?_, fun q hq => ?_⟩
 · have := zMc _ _ h1
   rw [this] at h2
   unfold zGr at h2
   split at h2
   · cases h2
   · split at h2
     · rename_i e; exact e
     · cases h2
 · obtain ⟨s, hs, rfl⟩ := List.mem_map.1 hq
   have hn := (zO6 (h7 s hs)).1 (by rw [List.any_eq_false] at h4; simpa using h4 s hs)
   refine ⟨hn, ?_⟩
   have hf := (IsQ.self (h7 s hs)).fit
   unfold zCT at hf
   rw [Bool.and_eq_true, decide_eq_true_eq, decide_eq_true_eq] at hf
   exact dig_D hf.1 hf.2
/-- the probabilities by information sets -/
def zE9 (s : zAY) (x : Int) : List Rat := ((s.find? (fun c => decide (c.info = x))).map (fun c => c.odds.map zAU)).getD []
theorem oddsQ_at {s : zAY} (hn : (s.map TChoice.info).Nodup) {c : TChoice} (hc : c ∈ s) : zE9 s c.info = c.odds.map zAU := by
 unfold zE9
 induction s with
 | nil => simp at hc
 | cons a r ih =>
   rw [List.map_cons, List.nodup_cons] at hn
   rw [List.find?_cons]
   rcases List.mem_cons.1 hc with e | q
   · subst e; simp
   · have : ¬ a.info = c.info := fun e => hn.1 (List.mem_map.2 ⟨c, q, e.symm⟩)
     rw [decide_eq_false this]
     exact ih hn.2 q
theorem OkS.at' {t : zT} {p : Int} {s : zAY} (h : OkS t p s) {x : Int} (hx : x ∈ zf t p) : ∃ c ∈ s, c.info = x ∧ zE9 s x = c.odds.map zAU ∧ c.odds.length = zd t p x ∧ zDn c.odds = 0 := by
 have hn : (s.map TChoice.info).Nodup := by rw [h.infos]; exact zGC t p
 rw [← h.infos] at hx
 obtain ⟨c, hc, rfl⟩ := List.mem_map.1 hx
 obtain ⟨j, hj, e⟩ := List.getElem_of_mem hc
 have hw := h.wid j hj
 rw [zAk ch0 hj, e] at hw
 exact ⟨c, hc, rfl, oddsQ_at hn hc, hw, h.odds c hc⟩
theorem OkS.strat {t : zT} {p : Int} {s : zAY} (h : OkS t p s) : Strat t p (zE9 s) 2000 := by
 refine ⟨fun x hx => ?_, fun x hx => ?_, fun x hx => ?_, fun x hx => ?_⟩ <;> obtain ⟨c, c1, c2, c3, c4, c5⟩ := h.at' hx <;> obtain ⟨o1, o2, o3, o4⟩ := zD4 c5 <;> rw [c3]
 · rw [List.length_map]; exact c4
 · exact o3
 · exact fun q hq => (o4 q hq).1
 · exact fun q hq => (o4 q hq).2
/-- with short texts -/
theorem OkS.strat12 {t : zT} {p : Int} {s : zAY} (h : OkS t p s) (hs : ∀ c ∈ s, ∀ r ∈ c.odds, r.length ≤ 12) : Strat t p (zE9 s) 12 := by
 have g := h.strat
 refine ⟨g.len, g.sum, g.nn, fun x hx q hq => ?_⟩
 obtain ⟨c, c1, c2, c3, c4, c5⟩ := h.at' hx
 obtain ⟨o1, o2, o3, o4⟩ := zD4 c5
 rw [c3] at hq
 obtain ⟨s', hs', rfl⟩ := List.mem_map.1 hq
 exact (IsQ.self (o2 s' hs')).dig (hs c c1 s' hs') (by decide)
/-- recall.Plan -/
def planE (t : zT) (p : Int) : Int := if zCC t p ≠ 0 then zCC t p else if zBb t p = true then 0 else 10
def planR (t : zT) (p : Int) (s : zAY) : List zAK × Int := if planE t p ≠ 0 then ([], planE t p) else if zB7 t p s ≠ 0 then ([], zB7 t p s) else zBC (zBh t p (zE9 s))
def seqsR (t : zT) (p : Int) : List RSeq × Int := if planE t p ≠ 0 then ([], planE t p) else (ze t p, 0)
end Go.Ax.Rt
namespace Go.Proofs.YtnkealfaldjipaaGreatDoor
open Go.Ax Go.Ax.Bg Go.Ax.Rt Go.RowKit Go.Ax.Idx Go.Ax.Cd
attribute [local irreducible] Ax zAL QOp zM zo
set_option maxRecDepth 100000
set_option maxHeartbeats 4000000
def perfR (t : zT) (p : Int) : Bool × Int := if zCC t p ≠ 0 then (false, zCC t p) else (zBb t p, 0)
def infosR (t : zT) (p : Int) : (List Int × List Int) × Int := if zCC t p ≠ 0 then (([], []), zCC t p) else ((zf t p, zBY t p), 0)
end Go.Proofs.YtnkealfaldjipaaGreatDoor
namespace Go.Proofs.YtnkealfaldjipaaGreatDoor
open Go.Ax Go.Ax.Bg Go.Ax.Rt Go.RowKit Go.Ax.Idx Go.Ax.Cd
set_option maxRecDepth 100000
set_option maxHeartbeats 4000000
def cellsC (c : TChoice) : List AV := [.int .i64 c.info, .ro (.strs c.odds) 0 c.odds.length]
abbrev zAP (s : zAY) : Cells := zB3 ch0 2 cellsC s
structure ShortC (c : TChoice) : Prop where
 odds : c.odds.length ≤ 9223372036854775807
 each : ∀ s ∈ c.odds, s.length ≤ 9223372036854775807
theorem rdNode {H : Type} {enc : TypeId × Value → H} {W : World} : Rd enc Tryz.prog W 40 6 zBV ShortN :=
 (Rd.struct Tryz.underlying40 (by kernel_rfl) (RdF.cons rfl rfl (Rd.int Tryz.underlying3) (RdF.cons rfl rfl (Rd.int Tryz.underlying3) (RdF.cons rfl rfl (Rd.int Tryz.underlying3) (RdF.cons rfl rfl (Rd.ints Tryz.underlying38 (by kernel_rfl) Tryz.underlying3) (RdF.cons rfl rfl (Rd.strs Tryz.underlying35 (by kernel_rfl) Tryz.underlying27) (RdF.cons rfl rfl (Rd.str Tryz.underlying27) RdF.nil))))))).map
   (fun a => (⟨a.1, a.2.1, a.2.2.1, a.2.2.2.1, a.2.2.2.2.1, a.2.2.2.2.2.1⟩ : TNode)) (fun a h => ⟨h.2.2.2.1.1, h.2.2.2.2.1.1, h.2.2.2.2.1.2, h.2.2.2.2.2.1⟩) (fun a => rfl) (fun a i hi => AEq.rfl')
theorem zMW {H : Type} {enc : TypeId × Value → H} {W : World} : Rd enc Tryz.prog W 67 2 cellsC ShortC :=
 (Rd.struct Tryz.underlying67 (by kernel_rfl) (RdF.cons rfl rfl (Rd.int Tryz.underlying3) (RdF.cons rfl rfl (Rd.strs Tryz.underlying35 (by kernel_rfl) Tryz.underlying27) RdF.nil))).map
   (fun a => (⟨a.1, a.2.1⟩ : TChoice)) (fun a h => ⟨h.2.1.1, h.2.1.2⟩) (fun a => rfl) (fun a i hi => AEq.rfl')
end Go.Proofs.YtnkealfaldjipaaGreatDoor
namespace Go.Proofs.YtnkealfaldjipaaGreatDoor
open Go.Ax Go.Ax.Bg Go.Ax.Rt Go.RowKit Go.Ax.Idx Go.Ax.Cd
attribute [local irreducible] Ax zAL QOp zM zo
set_option maxRecDepth 100000
set_option maxHeartbeats 4000000
structure ShortS (s : zAY) : Prop where
 len : s.length ≤ 9223372036854775807
 each : ∀ c ∈ s, ShortC c
theorem zGP (t : zT) (p : Int) (s : zAY) (hlen : t.length ≤ 9223372036854775807) (hs : ShortS s) : zV Tryz.prog 38 [.ro (zc t) 0 t.length, .int .i64 p, .ro (zAP s) 0 s.length] (.int .i64 (zB7 t p s)) := by
 have cs := zOh t p hlen
 have hsl := hs.len
 have hzl : (zBY t p).length = (zf t p).length := by unfold zBY; simp
 refine zM.value0 (zG (P := Tryz.prog) (fn := Tryz.f38) rfl rfl (by kernel_rfl) rfl (fun c hR hfix => ?_)) (fix := fun _ => False) (fun _ h => h) rfl rfl
 unfold zB7 at hR
 generalize zf t p = I at *
 generalize zBY t p = Z at *
 refine rn0 ?_
 refine zD rfl rfl rfl cs ?_
 refine rn3 ?_
 refine zF rfl (fun h1 => ?_) (fun h1 => ?_)
 · rw [if_pos (by omega)] at hR
   refine rn2 ?_
   exact zI hR rfl rfl
 rw [if_neg (by omega)] at hR
 have hl : s.length = I.length := by omega
 refine rn3 ?_
 refine zk (ι := Nat) (fun i => [(0, .ro (zc t) 0 t.length), (7, .ro (.ints .i64 I) 0 I.length), (8, .ro (.ints .i64 Z) 0 Z.length), (23, .ro (zAP s) 0 s.length), (24, .int .i64 (s.length : Nat)), (25, .int .i64 (i : Nat))]) (fun _ => [])
   (fun i => i ≤ s.length ∧ zFd I Z 0 s = zFd I Z i (s.drop i)) (fun i => s.length - i) 0 ⟨⟨rfl, rfl, rfl, rfl, rfl, rfl, trivial⟩, rfl, Nat.zero_le _, by rw [List.drop_zero]⟩ ?_
 rintro i ⟨hi, hE⟩
 refine rn4 ?_
 refine zF rfl (fun h => ?_) (fun h => ?_)
 · have hi' : i < s.length := by omega
   have hc := hs.each _ (zA7 ch0 hi')
   rw [zL8 hi'] at hE
   have co := zOy (s.getD i ch0).odds hc.odds hc.each
   have hol := hc.odds
   refine rn6 ?_
   refine zL 29 (.agg (cellsC (s.getD i ch0))) rfl (AEq.of_eq rfl) ?_
   generalize s.getD i ch0 = x at *
   obtain ⟨nf, od⟩ := x
   simp only at *
   refine zR (c' := .box [.int .i64 nf, .ro (.strs od) 0 od.length]) rfl rfl rfl rfl rfl Nat.zero_lt_one rfl rfl (fun i' j' hi' hj' => ?_) ?_
   · rw [if_pos (Nat.lt_one_iff.1 hi')]; rfl
   have hiI : i < I.length := by omega
   have hiZ : i < Z.length := by omega
   refine rn0 ?_
   refine zm (by kernel_rfl) ?_
   by_cases g1 : nf = I.getD i 0
   case neg =>
     rw [if_pos (.inl g1)] at hE
     rw [hE] at hR
     refine z7 (fuel := 0) [0, 1, 2, 3, 4, 5, 6, 7, 8, 9, 10, 11, 12, 13, 14, 15, 16] [(0, .ro (zc t) 0 t.length), (7, .ro (.ints .i64 I) 0 I.length), (8, .ro (.ints .i64 Z) 0 Z.length), (23, .ro (zAP s) 0 s.length), (24, .int .i64 (s.length : Nat)), (25, .int .i64 (i : Nat)), (9, .int .i64 (i : Nat)), (10, .ptr 0 0 0)] ⟨rfl, rfl, rfl, rfl, rfl, rfl, rfl, rfl, trivial⟩ (by kernel_rfl) (by decide) rfl rfl ?_
     refine zW rfl rfl (zP rfl rfl rfl rfl rfl rfl) ?_
     refine zW rfl rfl (zS rfl rfl rfl rfl rfl) ?_
     refine zW rfl rfl (zH rfl) ?_
     refine zW rfl rfl (zH rfl) ?_
     refine zW rfl rfl (zi rfl rfl rfl rfl (by first | (simp only [Nat.zero_add, Int.toNat_natCast, Int.toNat_zero]; exact rfl) | exact rfl) (by omega)) ?_
     refine zW rfl rfl (zA8 rfl rfl rfl) ?_
     refine zW rfl rfl (zGy rfl rfl) ?_
     rw [decide_eq_true g1]
     refine zW rfl rfl (zH rfl) ?_
     refine zGK rfl rfl rfl rfl rfl ?_
     refine zGK rfl rfl rfl rfl rfl ?_
     refine zGK rfl rfl rfl rfl rfl ?_
     refine zGK rfl rfl rfl rfl rfl ?_
     refine zGK rfl rfl rfl rfl rfl ?_
     refine zGK rfl rfl rfl rfl rfl ?_
     refine zGK rfl rfl rfl rfl rfl ?_
     refine zGK rfl rfl rfl rfl rfl ?_
     refine zW rfl rfl (zAZ rfl rfl) ?_
     refine zAg ?_
     refine zh (by kernel_rfl) ?_
     refine rn6 ?_
     exact zI hR rfl rfl
   refine z7 (fuel := 0) [0, 1, 2, 3, 4, 5, 6, 7, 8, 9, 10, 11, 12, 13, 14, 15, 16] [(0, .ro (zc t) 0 t.length), (7, .ro (.ints .i64 I) 0 I.length), (8, .ro (.ints .i64 Z) 0 Z.length), (23, .ro (zAP s) 0 s.length), (24, .int .i64 (s.length : Nat)), (25, .int .i64 (i : Nat)), (9, .int .i64 (i : Nat)), (10, .ptr 0 0 0)] ⟨rfl, rfl, rfl, rfl, rfl, rfl, rfl, rfl, trivial⟩ (by kernel_rfl) (by decide) rfl rfl ?_
   refine zW rfl rfl (zP rfl rfl rfl rfl rfl rfl) ?_
   refine zW rfl rfl (zS rfl rfl rfl rfl rfl) ?_
   refine zW rfl rfl (zH rfl) ?_
   refine zW rfl rfl (zH rfl) ?_
   refine zW rfl rfl (zi rfl rfl rfl rfl (by first | (simp only [Nat.zero_add, Int.toNat_natCast, Int.toNat_zero]; exact rfl) | exact rfl) (by omega)) ?_
   refine zW rfl rfl (zA8 rfl rfl rfl) ?_
   refine zW rfl rfl (zGy rfl rfl) ?_
   rw [decide_eq_false (fun q => q g1)]
   refine zW rfl rfl (zH rfl) ?_
   refine zIj rfl rfl rfl rfl (zP rfl rfl rfl rfl rfl rfl) ?_
   refine zIj rfl rfl rfl rfl (zS rfl rfl rfl rfl rfl) ?_
   refine zIj rfl rfl rfl rfl (zBK rfl rfl rfl) ?_
   refine zIj rfl rfl rfl rfl (zH rfl) ?_
   refine zIj rfl rfl rfl rfl (zH rfl) ?_
   refine zIj rfl rfl rfl rfl (zi rfl rfl rfl rfl (by first | (simp only [Nat.zero_add, Int.toNat_natCast, Int.toNat_zero]; exact rfl) | exact rfl) (by omega)) ?_
   refine zIj rfl rfl rfl rfl (zA8 rfl rfl rfl) ?_
   refine zIj rfl rfl rfl rfl (zGy rfl rfl) ?_
   refine zW rfl rfl (zAZ rfl rfl) ?_
   refine zAg ?_
   refine zh (by kernel_rfl) ?_
   repeat (refine zA ?_)
   refine zF rfl (fun g2 => ?_) (fun g2 => ?_)
   · rw [if_pos (.inr g2)] at hE
     rw [hE] at hR
     refine rn6 ?_
     exact zI hR rfl rfl
   rw [if_neg (by
     rintro (q | q)
     · exact q g1
     · exact g2 q)] at hE
   refine rn5 ?_
   refine zD rfl rfl rfl co ?_
   refine rn3 ?_
   refine zF rfl (fun g3 => ?_) (fun g3 => ?_)
   · rw [if_pos g3] at hE
     rw [hE] at hR
     refine rn6 ?_
     exact zI hR rfl rfl
   rw [if_neg g3] at hE
   repeat (first | refine zg ?_ | refine zl ?_)
   refine zA ?_
   refine zAz [] [some ⟨67, .box [.int .i64 nf, .ro (.strs od) 0 od.length]⟩] [(0, .ro (zc t) 0 t.length), (7, .ro (.ints .i64 I) 0 I.length), (8, .ro (.ints .i64 Z) 0 Z.length), (23, .ro (zAP s) 0 s.length), (24, .int .i64 (s.length : Nat)), (25, .int .i64 (i : Nat))] rfl ⟨rfl, rfl, rfl, rfl, rfl, rfl, trivial⟩ (fun h hh => by rw [hfix] at hh; exact absurd hh id) (fun h o ho => by simp at ho) rfl ?_
   refine rn3 ?_
   exact zO ⟨i + 1, ⟨by omega, hE⟩, by omega, ⟨rfl, rfl, rfl, rfl, rfl, rfl, trivial⟩, rfl⟩
 · have hie : i = s.length := by omega
   subst hie
   rw [List.drop_length] at hE
   rw [hE] at hR
   refine rn5 ?_
   exact zI hR rfl rfl
end Go.Proofs.YtnkealfaldjipaaGreatDoor
namespace Go.Ax
variable [Pins]
open Go.RowKit
/-- Does operation j wait, at last, for operation i? -/
def needs (all : Array Oper) (idx : List Nat) : Nat → Nat → Nat → Bool
 | 0, _, _ => false
 | n + 1, j, i => match all[j]? with
   | some o => o.after.toList.any (fun e => Region.binds .any e && Nat.beq e.on i) || o.after.toList.any (fun e => Region.binds .any e && (idx.contains e.on && needs all idx n e.on i))
   | none => false
/-- May these operations run in any order, ahead of all others? -/
def okRunT (all : Array Oper) (listed : Array Bool) (idx : List Nat) (k0 : List Nat) : Bool :=
 (idx.all fun i => !listed.getD i true && (match all[i]? with
   | some o => (match o.dst with | some d => !k0.contains d | none => false) && o.after.toList.all (fun e => !Region.binds .any e || (Nat.blt e.on i && (idx.contains e.on || listed.getD e.on false)))
   | none => false)) &&
 ((List.range all.size).all fun j => idx.contains j || listed.getD j true || idx.all (fun i => needs all idx (idx.length + 1) j i)) &&
 (idx.all fun i => idx.all fun j => Nat.beq i j || !(match all[i]?, all[j]? with | some o, some o' => o.dst == o'.dst | _, _ => false))
section
variable {P : Program} {fn : Func} {c : Ctx} {fr : Fr} {H : zQ} {k : List It}
/-- A constant of which nothing is said (a map that is nil). -/
theorem zHm {ind : Bool} {d : Option Nat} {ty : TypeId} {pos : String} {after : Array Edge} {g : Option (Nat × Bool)} {x : Operand} : QOp ind P fn c fr H ⟨d, .assign x, ty, pos, after, g⟩ .any :=
 fun _ a _ _ _ => ⟨a.eval x, .any _ _, fun _ _ => rfl⟩
end
end Go.Ax
namespace Go.Proofs.YtnkealfaldjipaaGreatDoor
open Go.Ax Go.Ax.Bg Go.Ax.Rt Go.RowKit Go.Ax.Idx Go.Ax.Cd
attribute [local irreducible] Ax zAL QOp zM zo
set_option maxRecDepth 100000
set_option maxHeartbeats 4000000
def keyC (c : TChoice) : AV := .int .i64 c.info
def valC (c : TChoice) : AV := .ro (qsC (c.odds.map zAU)) 0 (c.odds.map zAU).length
abbrev oddC (s : zAY) : Cells := .mp (s.map keyC) (s.map valC)
theorem keysC (s : zAY) : ∀ x ∈ s.map keyC, zC1 (.int .i64) x = true := by
 intro x hx
 obtain ⟨e, _, rfl⟩ := List.mem_map.1 hx
 rfl
theorem zPO (s : zAY) (n : Nat) : zA2 n (oddC s) := by
 exact ⟨zBu (fun _ => rfl) s, zBu (fun _ => rfl) s⟩
theorem zL7 (s : zAY) : zz (oddC s) := ⟨zEL (fun _ => rfl) s, zEL (fun _ => rfl) s⟩
theorem odds_ok' (s : zAY) (hs : ShortS s) (hn : (s.map TChoice.info).Nodup) (hv : ∀ c ∈ s, c.odds.length ≤ 256 ∧ ∀ r ∈ c.odds, zCX r = 0) : zV Tryz.prog 132 [.ro (zAP s) 0 s.length] (.rom (s.map keyC) (s.map valC)) := by
 have hsl := hs.len
 refine zM.value (K := fun r H => r = .mp 0 ∧ H = [some ⟨209, oddC s⟩]) (zG (P := Tryz.prog) (fn := Tryz.f132) rfl rfl (by kernel_rfl) rfl (fun c hR hfix => ?_)) (fix := fun _ => False) (fun _ h => h) rfl ?_
 · refine rn0 ?_
   refine zB zHm ?_
   refine rn0 ?_
   refine zEO ?_
   refine rn3 ?_
   refine zk (ι := Nat) (fun i => [(3, .mp 0), (7, .ro (zAP s) 0 s.length), (8, .int .i64 (s.length : Nat)), (9, .int .i64 (i : Nat))]) (fun i => [some ⟨209, oddC (s.take i)⟩])
     (fun i => i ≤ s.length) (fun i => s.length - i) 0 ⟨⟨rfl, rfl, rfl, rfl, trivial⟩, rfl, Nat.zero_le _⟩ ?_
   intro i hi
   refine rn4 ?_
   refine zF rfl (fun h => ?_) (fun h => ?_)
   · have hi' : i < s.length := by omega
     have hm := zA7 ch0 hi'
     have hc := hs.each _ hm
     obtain ⟨v1, v2⟩ := hv _ hm
     have cin := in_ok' (s.getD i ch0).odds (by omega) (fun r hr => ⟨hc.each r hr, v2 r hr⟩)
     have hol := hc.odds
     have htk : s.take (i + 1) = s.take i ++ [s.getD i ch0] := by rw [List.take_succ_eq_append_getElem hi', zAk ch0 hi']
     have hnew : AV.int .i64 (s.getD i ch0).info ∉ (s.take i).map keyC := by
       intro hmem
       obtain ⟨c, hc1, hc2⟩ := List.mem_map.1 hmem
       injection hc2 with e1 e2
       obtain ⟨j, hj, rfl⟩ := List.getElem_of_mem hc1
       rw [List.length_take] at hj
       rw [List.getElem_take] at e2
       have hp := List.pairwise_iff_getElem.1 hn j i (by simpa using (show j < s.length by omega)) (by simpa using hi') (by omega)
       rw [List.getElem_map, List.getElem_map] at hp
       rw [zAk ch0 hi'] at e2
       exact hp e2
     refine rn6 ?_
     refine zL 12 (.agg (cellsC (s.getD i ch0))) rfl (AEq.of_eq rfl) ?_
     generalize s.getD i ch0 = x at *
     obtain ⟨nf, od⟩ := x
     simp only at *
     refine zR (c' := .box [.int .i64 nf, .ro (.strs od) 0 od.length]) rfl rfl rfl rfl rfl Nat.zero_lt_one rfl rfl (fun i' j' hi' hj' => ?_) ?_
     · rw [if_pos (Nat.lt_one_iff.1 hi')]; rfl
     refine rn0 ?_
     refine zm (by kernel_rfl) ?_
     refine z7 (fuel := 1) [0, 1, 2, 3, 4, 5] [(3, .mp 0), (5, .ptr 1 0 0), (7, .ro (zAP s) 0 s.length), (8, .int .i64 (s.length : Nat)), (9, .int .i64 (i : Nat))] ⟨rfl, rfl, rfl, rfl, rfl, trivial⟩ (by kernel_rfl) (by decide) rfl rfl ?_
     refine zW rfl rfl (zH rfl) ?_
     refine zW rfl rfl (zP rfl rfl rfl rfl rfl rfl) ?_
     refine zW rfl rfl (zS rfl rfl rfl rfl rfl) ?_
     refine zW rfl rfl (zP rfl rfl rfl rfl rfl rfl) ?_
     refine zW rfl rfl (zS rfl rfl rfl rfl rfl) ?_
     refine zCS rfl rfl rfl rfl rfl cin ?_
     refine zAg ?_
     refine zE (is := [6]) (by kernel_rfl) (by simp) rfl ⟨fun o ho => ?_, trivial⟩
     all_goals (cases ho)
     refine zCR rfl (.int rfl) rfl rfl rfl rfl rfl (keysC _) hnew ?_
     refine rn1 ?_
     refine zh (by kernel_rfl) ?_
     repeat (refine zg ?_)
     refine zA ?_
     refine zCg [some ⟨209, oddC (s.take (i + 1))⟩, some ⟨67, .box [.int .i64 nf, .ro (.strs od) 0 od.length]⟩] (by rw [htk]; unfold oddC; rw [List.map_append, List.map_append]; rfl) ?_
     refine zAz [some ⟨209, oddC (s.take (i + 1))⟩] [some ⟨67, .box [.int .i64 nf, .ro (.strs od) 0 od.length]⟩] [(3, .mp 0), (7, .ro (zAP s) 0 s.length), (8, .int .i64 (s.length : Nat)), (9, .int .i64 (i : Nat))] rfl ⟨rfl, rfl, rfl, rfl, trivial⟩ (fun h hh => by rw [hfix] at hh; exact absurd hh id) (zDE (zPO _ _)) rfl ?_
     refine rn3 ?_
     exact zO ⟨i + 1, by omega, by omega, ⟨rfl, rfl, rfl, rfl, trivial⟩, rfl⟩
   · have hie : i = s.length := by omega
     subst hie
     rw [List.take_length]
     refine rn5 ?_
     exact zI hR rfl ⟨rfl, rfl⟩
 · rintro r H ⟨rfl, rfl⟩
   exact ⟨rfl, trivial, fun h o ho => zFp (zL7 s) h o ho⟩
end Go.Proofs.YtnkealfaldjipaaGreatDoor
namespace Go.Proofs.YtnkealfaldjipaaGreatDoor
open Go.Ax Go.Ax.Bg Go.Ax.Rt Go.RowKit Go.Ax.Idx Go.Ax.Cd
attribute [local irreducible] Ax zAL QOp zM zo
set_option maxRecDepth 100000
set_option maxHeartbeats 4000000
theorem zKy {s : zAY} {c : TChoice} (hc : c ∈ s) : ∃ j : Nat, (s.map keyC)[j]? = some (.int .i64 c.info) ∧ (s.map valC)[j]? = some (.ro (qsC (c.odds.map zAU)) 0 (c.odds.map zAU).length) := by
 obtain ⟨j, hj⟩ := List.getElem?_of_mem hc
 exact ⟨j, by rw [List.getElem?_map, hj]; rfl, by rw [List.getElem?_map, hj]; rfl⟩
theorem zMJ (l : List Rat) (n : Nat) : zA2 n (qsC l) := by
 intro i j _ hj
 have hj : j < 3 := hj
 match j, hj with
 | 0, _ => rfl
 | 1, _ => rfl
 | 2, _ => rfl
end Go.Proofs.YtnkealfaldjipaaGreatDoor
namespace Go.Ax.Rt
open Go.Ax.Bg
def zBy (o : Option (List Rat)) (q : Option Rat) (k : Nat) : Option Rat := some (zLS o (q.getD 0) k)
def zCf (t : zT) (o : z8) : Nat → List (Option Rat)
 | 0 => (List.replicate t.length none).set 0 (some 1)
 | i + 1 => zAl (zBy (o i) ((zCf t o i).getD i none)) (t.getD i node0).next 0 (zCf t o i)
theorem zDO (t : zT) (o : z8) : ∀ i, (zCf t o i).length = t.length
 | 0 => by simp [zCf]
 | i + 1 => by rw [zCf, zC2, zDO t o i]
theorem Valid.known {t : zT} (h : Valid t) {i : Nat} (hi : i < t.length) : i = 0 ∨ ∃ a, a < i ∧ kid t a i := by
 by_cases h0 : i = 0
 · exact .inl h0
 · obtain ⟨a, ha, hk⟩ := h.has hi h0
   exact .inr ⟨a, (h.kid_lt ha hk).1, hk⟩
theorem zIB {t : zT} (h : Valid t) (o : z8) : ∀ i, i ≤ t.length → ∀ j, j < t.length → (j = 0 ∨ ∃ a, a < i ∧ kid t a j) → (zCf t o i).getD j none = some ((zY t o).getD j 0)
 | 0, _, j, hj, hk => by
   rcases hk with rfl | ⟨a, ha, _⟩
   · rw [zDF h, zCf, Go.Ax.Dt.getD_set, if_pos ⟨rfl, by simpa using hj⟩]
   · omega
 | i + 1, hi, j, hj, hk => by
   have hi' : i < t.length := by omega
   have ih := zIB h o i (by omega)
   rw [zCf]
   by_cases hki : kid t i j
   · obtain ⟨m, hm, rfl⟩ := zJs h hi' hki
     rw [zLH _ _ _ _ _ _ hm (h.kids_nodup hi') (fun c hc => by rw [zDO]; have := h.behind hi' c hc; omega), Nat.zero_add, zD3 h o hi' hm]
     unfold zBy
     rw [ih i hi' (h.known hi')]
     rfl
   · have hne : ∀ c ∈ (t.getD i node0).next, c.toNat ≠ j := fun c hc e => by
       have := h.behind hi' c hc
       apply hki
       show (j : Int) ∈ _
       rw [← e, Int.toNat_of_nonneg (by omega)]
       exact hc
     rw [zBW _ _ _ _ _ hne]
     refine ih j hj ?_
     rcases hk with rfl | ⟨a, ha, hka⟩
     · exact .inl rfl
     · refine .inr ⟨a, ?_, hka⟩
       have : a ≠ i := fun e => hki (e ▸ hka)
       omega
theorem zNq {t : zT} (h : Valid t) (o : z8) : zCf t o t.length = (zY t o).map some := by
 have hl : (zY t o).length = t.length := zCd t o _
 apply List.ext_getElem
 · rw [zDO, List.length_map, hl]
 · intro j h1 h2
   rw [zDO] at h1
   have := zIB h o t.length (Nat.le_refl _) j h1 (by
     rcases h.known h1 with e | ⟨a, ha, hk⟩
     · exact .inl e
     · exact .inr ⟨a, by omega, hk⟩)
   rw [List.getElem_map]
   rw [List.getD_eq_getElem?_getD, List.getElem?_eq_getElem (by rw [zDO]; exact h1), List.getD_eq_getElem?_getD, List.getElem?_eq_getElem (by omega)] at this
   exact this
end Go.Ax.Rt
namespace Go.Ax
open Go
variable [Pins]
theorem zD7 {P : Program} (w : World) {t e : TypeId} (a : Option Addr) (n c : Nat) (h : P.underlying t = some (.slice e)) : (binOp .neq t (.slice a n c) (.slice none 0 0)).run P w = .ok (.bool (!a.isNone)) w := by
 have _pin := (inferInstance : Pins)
 have h1 : ∀ d : Nat, (Op.equalIn (d + 1) t (.slice a n c) (.slice none 0 0)).run P w = .ok a.isNone w := fun d => by
   cases a with
   | none => simp [Op.equalIn, run_underlying h]
   | some a => simp [Op.equalIn, run_underlying h]
 simp only [binOp]
 simp [Op.equal, Op.maxDepth, h1 9999]
section
variable {P : Program} {fn : Func} {c : Ctx} {fr : Fr} {H : zQ} {k : List It} {ind : Bool} {d : Option Nat} {ty : TypeId} {pos : String} {after : Array Edge} {g : Option (Nat × Bool)}
theorem zLm {x y : Operand} {t t' e : TypeId} (ht : P.underlying t = some (.slice e)) (hx : ev fr x = some .nil) (hy : ev fr y = some .nil) : QOp ind P fn c fr H ⟨d, .binOp .neq t x y t', ty, pos, after, g⟩ (.bool false) := by
 intro w a σ S hr
 have h1 := hr.evAt hx
 have h2 := hr.evAt hy
 generalize hz : a.eval x = z at h1
 generalize hzy : a.eval y = zy at h2
 cases h1
 cases h2
 refine ⟨_, .bool _ _, fun w' _ => ?_⟩
 have hb := zD7 (P := P) w' none 0 0 ht
 simp only [execOp, hz, hzy, Sem.run_bind, zCF, Result.andThen_ok, hb]
 rfl
theorem q_neqnil {x y : Operand} {t t' e : TypeId} {cl : Cells} {i n : Nat} (ht : P.underlying t = some (.slice e)) (hx : ev fr x = some (.ro cl i n)) (hy : ev fr y = some .nil) (hn : 0 < n) : QOp ind P fn c fr H ⟨d, .binOp .neq t x y t', ty, pos, after, g⟩ (.bool true) := by
 intro w a σ S hr
 have h1 := hr.evAt hx
 have h2 := hr.evAt hy
 generalize hz : a.eval x = z at h1
 generalize hzy : a.eval y = zy at h2
 cases h2
 cases h1 with
 | ro0 _ _ _ ad cap => exact absurd hn (Nat.lt_irrefl _)
 | ro _ _ _ _ b o cap val hS hlen hc hv h1' =>
   refine ⟨_, .bool _ _, fun w' _ => ?_⟩
   have hb := zD7 (P := P) w' (some ⟨b, o, none⟩) n cap ht
   simp only [execOp, hz, hzy, Sem.run_bind, zCF, Result.andThen_ok, hb]
   rfl
end
end Go.Ax
namespace Go.Proofs.YtnkealfaldjipaaGreatDoor
open Go.Ax Go.Ax.Bg Go.Ax.Rt Go.RowKit Go.Ax.Idx Go.Ax.Cd
attribute [local irreducible] Ax zAL QOp zM zo
set_option maxRecDepth 100000
set_option maxHeartbeats 4000000
def lA (o : Option (List Rat)) : AV := match o with
 | none => .nil
 | some l => .ro (qsC l) 0 l.length
structure OddsG (t : zT) (o : z8) : Prop where
 chance : ∀ i, i < t.length → (t.getD i node0).kind = 1 → o i = some ((t.getD i node0).odds.map zAU)
 ends : ∀ i, i < t.length → (t.getD i node0).kind = 0 → o i = none
 some : ∀ i, i < t.length → ∀ l, o i = some l → (t.getD i node0).next.length ≤ l.length ∧ 0 < l.length ∧ l.length ≤ 1000000 ∧ ∀ q ∈ l, Sz 100000 q
 reach : ∀ j, j < t.length → Sz 100000 ((zY t o).getD j 0)
theorem zMV {t : zT} (hv : Valid t) {i : Nat} (hi : i < t.length) (hk : (t.getD i node0).kind = 1) : zDn (t.getD i node0).odds = 0 := by
 have h := hv.nodes i hi
 unfold zDp at h
 rw [if_neg (by omega), if_pos hk] at h
 split at h
 · cases h
 split at h
 · rename_i h1; exact absurd h h1
 split at h
 · cases h
 exact h
theorem zNY {t : zT} (hv : Valid t) {i : Nat} (hi : i < t.length) : (t.getD i node0).kind = 0 ∨ (t.getD i node0).kind = 1 ∨ (t.getD i node0).kind = 2 := by
 rcases hv.child hi with h | h
 · exact .inl h.1
 · exact .inr h.1
theorem zs_map (l : List Rat) : CEq (zsC (l.map some)) (qsC l) := by
 refine ⟨by simp [zB3, Cells.len], rfl, fun i j hi hj => ?_⟩
 have hi : i < l.length := by simpa [zB3, Cells.len] using hi
 show (zAD (l.getD i 0)).getD j .any = (zB8 ((l.map some).getD i none)).getD j .any
 rw [zDY some l 0 none i hi]
 rfl
theorem zMt (l : List (Option Rat)) (n : Nat) : zA2 n (zsC l) := by
 intro i j _ hj
 show zCq n ((zB8 (l.getD i none)).getD j .any) = true
 have hj : j < 3 := hj
 cases l.getD i none with
 | none => match j, hj with
   | 0, _ => rfl
   | 1, _ => rfl
   | 2, _ => rfl
 | some q => match j, hj with
   | 0, _ => rfl
   | 1, _ => rfl
   | 2, _ => rfl
theorem zLp (t : zT) (o : z8) (g : FuncId) (caps : List AV) (hcp : noRef.noRefs caps = true) (hcb : zBq 1 caps = true) (hT : ShortT t) (hv : Valid t) (hG : OddsG t o)
   (hg : ∀ i, i < t.length → (t.getD i node0).kind = 2 → zV Tryz.prog g ([.agg (zBV (t.getD i node0))] ++ caps) (lA (o i))) :
   zV Tryz.prog 133 [.ro (zc t) 0 t.length, .fn g caps] (.ro (qsC (zY t o)) 0 t.length) := by
 have hlen := hT.len
 have h120 := hv.le
 have hne := hv.ne
 have hrep : (List.replicate t.length (none : Option Rat)).length = t.length := List.length_replicate
 refine zM.value0 (zG (P := Tryz.prog) (fn := Tryz.f133) rfl rfl (by kernel_rfl) rfl (fun c hR hfix => ?_)) (fix := fun _ => False) (fun _ h => h) (by simp [noRef.noRefs, noRef, hcp]) rfl
 refine rn3 ?_
 refine zCE rfl rfl rfl rfl rfl rfl rfl rfl (by show (0 : Int) ≤ _ ∧ _ ≤ _ ∧ (56 : Int) * _ ≤ _ ∧ _; omega) ?_
 refine rn0 ?_
 refine zD rfl rfl rfl zM7 ?_
 unfold qA
 refine zAx [some ⟨122, zsC (List.replicate t.length none)⟩] (zAJ.eqv (zNw _) zAJ.nil) ?_
 have hz0 : 0 < (zsC (List.replicate t.length none)).len := by show 0 < (List.replicate t.length (none : Option Rat)).length; omega
 repeat (refine zB (zZ rfl rfl rfl rfl rfl (by first | (simp only [Nat.zero_add, Int.toNat_natCast, Int.toNat_zero]; exact rfl) | exact rfl) (by omega)) ?_)
 refine zR (c' := zsC ((List.replicate t.length none).set 0 (some 1))) rfl rfl rfl rfl rfl hz0 (by show (List.set _ 0 _).length = (List.replicate _ _).length; simp) rfl (fun i' j' hi' hj' => zD9 none 3 zB8 _ 0 (some 1) hz0 i' j' hi' hj') ?_
 refine rn3 ?_
 refine zk (ι := Nat) (fun i => [(0, .ro (zc t) 0 t.length), (1, .fn g caps), (5, .sl 0 0 t.length), (17, .ro (zc t) 0 t.length), (18, .int .i64 (t.length : Nat)), (19, .int .i64 (i : Nat))]) (fun i => [some ⟨122, zsC (zCf t o i)⟩])
   (fun i => i ≤ t.length) (fun i => t.length - i) 0 ⟨⟨rfl, rfl, rfl, rfl, rfl, rfl, trivial⟩, rfl, Nat.zero_le _⟩ ?_
 intro i hi
 refine rn4 ?_
 refine zF rfl (fun h => ?_) (fun h => ?_)
 · have hi' : i < t.length := by omega
   have hsn := hT.node _ (zA7 node0 hi')
   have hbh := hv.behind hi'
   have hWl := zDO t o i
   have hat := zIB hv o i hi i hi' (hv.known hi')
   have hri := hG.reach i hi'
   have hk3 := zNY hv hi'
   have hch := fun hk => zMV hv hi' hk
   have hgc := hG.chance i hi'
   have hge := hG.ends i hi'
   have hgs := hG.some i hi'
   have hgg := hg i hi'
   have hnx : zCf t o (i + 1) = zAl (zBy (o i) ((zCf t o i).getD i none)) (t.getD i node0).next 0 (zCf t o i) := rfl
   generalize hW2 : zCf t o (i + 1) = W2 at *
   generalize zCf t o i = W at *
   generalize hoi : o i = oi at *
   generalize (zY t o).getD i 0 = ri at *
   rw [hat] at hnx
   obtain ⟨s1, s2, s3, s4⟩ := hsn
   refine rn6 ?_
   refine zL 23 (.agg (zBV (t.getD i node0))) rfl (AEq.of_eq rfl) ?_
   generalize hn : t.getD i node0 = n at *
   obtain ⟨kd, pl, nf, nx, od, py⟩ := n
   simp only at *
   refine zR (c' := .box [.int .i64 kd, .int .i64 pl, .int .i64 nf, .ro (.ints .i64 nx) 0 nx.length, .ro (.strs od) 0 od.length, .str py]) rfl rfl rfl rfl rfl Nat.zero_lt_one rfl rfl (fun i' j' hi' hj' => ?_) ?_
   · rw [if_pos (Nat.lt_one_iff.1 hi')]; rfl
   refine zAn [some ⟨122, zsC (W)⟩, some ⟨40, .box [.int .i64 kd, .int .i64 pl, .int .i64 nf, .ro (.ints .i64 nx) 0 nx.length, .ro (.strs od) 0 od.length, .str py]⟩] rfl ?_
   refine zL 7 (.ptr 1 0 0) rfl (AEq.of_eq rfl) ?_
   apply zAi (H := [some ⟨122, zsC (W)⟩, some ⟨40, .box [.int .i64 kd, .int .i64 pl, .int .i64 nf, .ro (.ints .i64 nx) 0 nx.length, .ro (.strs od) 0 od.length, .str py]⟩]) [(0, .ro (zc t) 0 t.length), (1, .fn g caps), (5, .sl 0 0 t.length), (6, .int .i64 (i : Nat)), (7, .ptr 1 0 0), (8, lA oi), (17, .ro (zc t) 0 t.length), (18, .int .i64 (t.length : Nat)), (19, .int .i64 (i : Nat)), (37, .ro (.ints .i64 nx) 0 nx.length), (38, .int .i64 (nx.length : Nat)), (39, .int .i64 0)]
   · intro fin
     refine rn5 ?_
     rcases hk3 with hk | hk | hk
     · have := hge hk
       subst this
       subst hk
       refine rn5 ?_
       exact fin _ ⟨rfl, rfl, rfl, rfl, rfl, rfl, rfl, rfl, rfl, rfl, rfl, rfl, trivial⟩
     · have h1 := hgc hk
       have h2 := hch hk
       subst hk
       subst h1
       obtain ⟨v1, v2, _, _⟩ := zD4 h2
       have cin := in_ok' od (by omega) (fun r hr => ⟨s3 r hr, v2 r hr⟩)
       refine rn5 ?_
       refine zD rfl rfl rfl cin ?_
       refine rn5 ?_
       exact fin _ ⟨rfl, rfl, rfl, rfl, rfl, rfl, rfl, rfl, rfl, rfl, rfl, rfl, trivial⟩
     · have h1 := hgg hk
       subst hk
       refine rn6 ?_
       refine zL 34 (.agg (zBV ⟨2, pl, nf, nx, od, py⟩)) rfl (AEq.of_eq rfl) ?_
       refine zD rfl rfl rfl h1 ?_
       refine rn5 ?_
       exact fin _ ⟨rfl, rfl, rfl, rfl, rfl, rfl, rfl, rfl, rfl, rfl, rfl, rfl, trivial⟩
   cases oi with
   | none =>
     refine zk (ι := Nat) (fun j => [(0, .ro (zc t) 0 t.length), (1, .fn g caps), (5, .sl 0 0 t.length), (6, .int .i64 (i : Nat)), (7, .ptr 1 0 0), (8, .nil), (17, .ro (zc t) 0 t.length), (18, .int .i64 (t.length : Nat)), (19, .int .i64 (i : Nat)), (37, .ro (.ints .i64 nx) 0 nx.length), (38, .int .i64 (nx.length : Nat)), (39, .int .i64 (j : Nat))]) (fun j => [some ⟨122, zsC (zAl (zBy none (some ri)) (nx.take j) 0 W)⟩, some ⟨40, .box [.int .i64 kd, .int .i64 pl, .int .i64 nf, .ro (.ints .i64 nx) 0 nx.length, .ro (.strs od) 0 od.length, .str py]⟩])
       (fun j => j ≤ nx.length) (fun j => nx.length - j) 0 ⟨⟨rfl, rfl, rfl, rfl, rfl, rfl, rfl, rfl, rfl, rfl, rfl, rfl, trivial⟩, rfl, Nat.zero_le _⟩ ?_
     intro j hj
     refine rn4 ?_
     refine zF rfl (fun h5 => ?_) (fun h5 => ?_)
     · have hj' : j < nx.length := by omega
       obtain ⟨b1, b2⟩ := hbh _ (zAj 0 hj')
       have hAl : (zAl (zBy none (some ri)) (nx.take j) 0 W).length = t.length := by rw [zC2]; exact hWl
       have hAi : (zAl (zBy none (some ri)) (nx.take j) 0 W).getD i none = some ri := (zBW _ none _ _ _ (fun c hc => by have := hbh c (List.mem_of_mem_take hc); omega)).trans hat
       have hst : zAl (zBy none (some ri)) (nx.take (j + 1)) 0 W = (zAl (zBy none (some ri)) (nx.take j) 0 W).set (nx.getD j 0).toNat (zBy none (some ri) j) := by
         rw [zCi hj', zDC, List.length_take, Nat.min_eq_left hj, Nat.zero_add]
       generalize hA2 : zAl (zBy none (some ri)) (nx.take (j + 1)) 0 W = A2 at *
       generalize zAl (zBy none (some ri)) (nx.take j) 0 W = A at *
       obtain ⟨x, hx⟩ := Int.eq_ofNat_of_zero_le (show 0 ≤ nx.getD j 0 by omega)
       have hxn : (nx.getD j 0).toNat = x := by rw [hx, Int.toNat_natCast]
       rw [hx] at b1 b2
       rw [hxn] at hst
       have hxl : x < A.length := by omega
       have gi : i < (zsC A).len := by show i < A.length; omega
       have gx : x < (zsC A).len := hxl
       have hA1i : (A.set x (some ri)).getD i none = some ri := by rw [Go.Ax.Dt.getD_set, if_neg (by omega)]; exact hAi
       have gi1 : i < (zsC (A.set x (some ri))).len := by show i < (A.set x (some ri)).length; rw [List.length_set]; omega
       have gx1 : x < (zsC (A.set x (some ri))).len := by show x < (A.set x (some ri)).length; rw [List.length_set]; omega
       repeat (first | refine zA ?_ | refine zX ?_ | refine zAB ?_ | refine zl ?_)
       refine zJ rfl ?_
       repeat (first | refine zB (zH rfl) ?_ | refine zB (zK rfl) ?_ | refine zB (zA8 rfl rfl rfl) ?_ | refine zC ?_ | refine zA ?_ | refine zX ?_ | refine zB (zi rfl rfl rfl rfl (by first | (simp only [Nat.zero_add, Int.toNat_natCast, Int.toNat_zero]; exact rfl) | exact rfl) (by omega)) ?_)
       refine zAd 10 (.int .i64 (x : Nat)) rfl (AEq.of_eq (by rw [hx])) ?_
       refine rn6 ?_
       refine zL 49 (.agg (zAD ri)) rfl (AEq.of_eq (show AV.agg [(zB8 (A.getD i none)).getD 0 .any, (zB8 (A.getD i none)).getD 1 .any, (zB8 (A.getD i none)).getD 2 .any] = _ by rw [hAi]; rfl)) ?_
       refine zR (c' := zsC (A.set x (some ri))) rfl rfl rfl rfl rfl hxl (by show (A.set x (some ri)).length = A.length; simp) rfl (fun i' j' hi' hj' => zD9 none 3 zB8 A x (some ri) hxl i' j' hi' hj') ?_
       refine rn0 ?_
       refine zB (zLm rfl rfl rfl) ?_
       refine rn5 ?_
       exact zO ⟨j + 1, by omega, by omega, ⟨rfl, rfl, rfl, rfl, rfl, rfl, rfl, rfl, rfl, rfl, rfl, rfl, trivial⟩, by rw [hA2, hst]; rfl⟩
     · have hje : j = nx.length := by omega
       subst hje
       rw [List.take_length, ← hnx]
       repeat (first | refine zg ?_ | refine zA0 ?_ | refine zx ?_ | refine zw ?_ | refine zAN ?_)
       refine zA ?_
       refine zAz [some ⟨122, zsC (W2)⟩] [some ⟨40, .box [.int .i64 kd, .int .i64 pl, .int .i64 nf, .ro (.ints .i64 nx) 0 nx.length, .ro (.strs od) 0 od.length, .str py]⟩] [(0, .ro (zc t) 0 t.length), (1, .fn g caps), (5, .sl 0 0 t.length), (17, .ro (zc t) 0 t.length), (18, .int .i64 (t.length : Nat)), (19, .int .i64 (i : Nat))] rfl ⟨rfl, rfl, rfl, rfl, rfl, rfl, trivial⟩ (fun h hh => by rw [hfix] at hh; exact absurd hh id) (zDE (zMt _ _)) (by show (true && (zBq 1 caps && _)) = true; rw [hcb]; rfl) ?_
       refine rn3 ?_
       exact zO ⟨i + 1, by omega, by omega, ⟨rfl, rfl, rfl, rfl, rfl, rfl, trivial⟩, by rw [hW2]⟩
   | some l =>
     obtain ⟨l1, l2, l3, l4⟩ := hgs l rfl
     refine zk (ι := Nat) (fun j => [(0, .ro (zc t) 0 t.length), (1, .fn g caps), (5, .sl 0 0 t.length), (6, .int .i64 (i : Nat)), (7, .ptr 1 0 0), (8, .ro (qsC l) 0 l.length), (17, .ro (zc t) 0 t.length), (18, .int .i64 (t.length : Nat)), (19, .int .i64 (i : Nat)), (37, .ro (.ints .i64 nx) 0 nx.length), (38, .int .i64 (nx.length : Nat)), (39, .int .i64 (j : Nat))]) (fun j => [some ⟨122, zsC (zAl (zBy (some l) (some ri)) (nx.take j) 0 W)⟩, some ⟨40, .box [.int .i64 kd, .int .i64 pl, .int .i64 nf, .ro (.ints .i64 nx) 0 nx.length, .ro (.strs od) 0 od.length, .str py]⟩])
       (fun j => j ≤ nx.length) (fun j => nx.length - j) 0 ⟨⟨rfl, rfl, rfl, rfl, rfl, rfl, rfl, rfl, rfl, rfl, rfl, rfl, trivial⟩, rfl, Nat.zero_le _⟩ ?_
     intro j hj
     refine rn4 ?_
     refine zF rfl (fun h5 => ?_) (fun h5 => ?_)
     · have hj' : j < nx.length := by omega
       obtain ⟨b1, b2⟩ := hbh _ (zAj 0 hj')
       have hAl : (zAl (zBy (some l) (some ri)) (nx.take j) 0 W).length = t.length := by rw [zC2]; exact hWl
       have hAi : (zAl (zBy (some l) (some ri)) (nx.take j) 0 W).getD i none = some ri := (zBW _ none _ _ _ (fun c hc => by have := hbh c (List.mem_of_mem_take hc); omega)).trans hat
       have hst : zAl (zBy (some l) (some ri)) (nx.take (j + 1)) 0 W = (zAl (zBy (some l) (some ri)) (nx.take j) 0 W).set (nx.getD j 0).toNat (zBy (some l) (some ri) j) := by
         rw [zCi hj', zDC, List.length_take, Nat.min_eq_left hj, Nat.zero_add]
       generalize hA2 : zAl (zBy (some l) (some ri)) (nx.take (j + 1)) 0 W = A2 at *
       generalize zAl (zBy (some l) (some ri)) (nx.take j) 0 W = A at *
       obtain ⟨x, hx⟩ := Int.eq_ofNat_of_zero_le (show 0 ≤ nx.getD j 0 by omega)
       have hxn : (nx.getD j 0).toNat = x := by rw [hx, Int.toNat_natCast]
       rw [hx] at b1 b2
       rw [hxn] at hst
       have hxl : x < A.length := by omega
       have gi : i < (zsC A).len := by show i < A.length; omega
       have gx : x < (zsC A).len := hxl
       have hA1i : (A.set x (some ri)).getD i none = some ri := by rw [Go.Ax.Dt.getD_set, if_neg (by omega)]; exact hAi
       have gi1 : i < (zsC (A.set x (some ri))).len := by show i < (A.set x (some ri)).length; rw [List.length_set]; omega
       have gx1 : x < (zsC (A.set x (some ri))).len := by show x < (A.set x (some ri)).length; rw [List.length_set]; omega
       repeat (first | refine zA ?_ | refine zX ?_ | refine zAB ?_ | refine zl ?_)
       refine zJ rfl ?_
       repeat (first | refine zB (zH rfl) ?_ | refine zB (zK rfl) ?_ | refine zB (zA8 rfl rfl rfl) ?_ | refine zC ?_ | refine zA ?_ | refine zX ?_ | refine zB (zi rfl rfl rfl rfl (by first | (simp only [Nat.zero_add, Int.toNat_natCast, Int.toNat_zero]; exact rfl) | exact rfl) (by omega)) ?_)
       refine zAd 10 (.int .i64 (x : Nat)) rfl (AEq.of_eq (by rw [hx])) ?_
       refine rn6 ?_
       refine zL 49 (.agg (zAD ri)) rfl (AEq.of_eq (show AV.agg [(zB8 (A.getD i none)).getD 0 .any, (zB8 (A.getD i none)).getD 1 .any, (zB8 (A.getD i none)).getD 2 .any] = _ by rw [hAi]; rfl)) ?_
       refine zR (c' := zsC (A.set x (some ri))) rfl rfl rfl rfl rfl hxl (by show (A.set x (some ri)).length = A.length; simp) rfl (fun i' j' hi' hj' => zD9 none 3 zB8 A x (some ri) hxl i' j' hi' hj') ?_
       refine rn0 ?_
       refine zB (q_neqnil rfl rfl rfl l2) ?_
       refine rn5 ?_
       have hjl : j < l.length := by omega
       have cmul : zV Tryz.prog 105 [.agg [(zB8 ((A.set x (some ri)).getD i none)).getD 0 .any, (zB8 ((A.set x (some ri)).getD i none)).getD 1 .any, (zB8 ((A.set x (some ri)).getD i none)).getD 2 .any], qA (l.getD j 0)] (qA (ri * l.getD j 0)) := by
         rw [hA1i]
         exact zLR ri (l.getD j 0) hri (l4 _ (zAj 0 hjl))
       refine zm (by kernel_rfl) ?_
       refine z7 (fuel := 1) [0, 1, 2, 3, 4, 5, 6, 7, 8, 9, 10, 11] [(0, .ro (zc t) 0 t.length), (1, .fn g caps), (5, .sl 0 0 t.length), (6, .int .i64 (i : Nat)), (7, .ptr 1 0 0), (8, .ro (qsC l) 0 l.length), (17, .ro (zc t) 0 t.length), (18, .int .i64 (t.length : Nat)), (19, .int .i64 (i : Nat)), (37, .ro (.ints .i64 nx) 0 nx.length), (38, .int .i64 (nx.length : Nat)), (39, .int .i64 (j : Nat)), (9, .int .i64 (j : Nat)), (10, .int .i64 (x : Nat))] ⟨rfl, rfl, rfl, rfl, rfl, rfl, rfl, rfl, rfl, rfl, rfl, rfl, rfl, rfl, trivial⟩ (by kernel_rfl) (by decide) rfl rfl ?_
       refine zW rfl rfl (zH rfl) ?_
       refine zW rfl rfl (zH rfl) ?_
       refine zW rfl rfl (zH rfl) ?_
       refine zW rfl rfl (zH rfl) ?_
       refine zW rfl rfl (zZ rfl rfl rfl rfl rfl (by first | (simp only [Nat.zero_add, Int.toNat_natCast, Int.toNat_zero]; exact rfl) | exact rfl) (by omega)) ?_
       refine zW rfl rfl (zr rfl rfl rfl rfl rfl rfl rfl (by first | exact Nat.zero_lt_one | assumption | omega)) ?_
       refine zW rfl rfl (zH rfl) ?_
       refine zW rfl rfl (zH rfl) ?_
       refine zW rfl rfl (zi rfl rfl rfl rfl (by first | (simp only [Nat.zero_add, Int.toNat_natCast, Int.toNat_zero]; exact rfl) | exact rfl) (by omega)) ?_
       refine zW rfl rfl (zCU rfl rfl rfl rfl rfl rfl) ?_
       refine zCS rfl rfl rfl rfl rfl cmul ?_
       refine zW rfl rfl (zZ rfl rfl rfl rfl rfl (by first | (simp only [Nat.zero_add, Int.toNat_natCast, Int.toNat_zero]; exact rfl) | exact rfl) (by omega)) ?_
       refine zAg ?_
       refine zE (is := [12]) (by kernel_rfl) (by simp) rfl ⟨fun o ho => ?_, trivial⟩
       all_goals (cases ho)
       skip
       unfold qA
       refine zR (c' := zsC ((A.set x (some ri)).set x (some (ri * l.getD j 0)))) rfl rfl rfl rfl rfl gx1 (by show (List.set _ x _).length = (A.set x (some ri)).length; simp) rfl (fun i' j' hi' hj' => zD9 none 3 zB8 (A.set x (some ri)) x (some (ri * l.getD j 0)) gx1 i' j' hi' hj') ?_
       refine rn1 ?_
       refine zh (by kernel_rfl) ?_
       refine rn5 ?_
       exact zO ⟨j + 1, by omega, by omega, ⟨rfl, rfl, rfl, rfl, rfl, rfl, rfl, rfl, rfl, rfl, rfl, rfl, trivial⟩, by rw [hA2, hst]; exact congrArg (fun z => [some (AObj.mk 122 (zsC z)), some (AObj.mk 40 (.box [.int .i64 kd, .int .i64 pl, .int .i64 nf, .ro (.ints .i64 nx) 0 nx.length, .ro (.strs od) 0 od.length, .str py]))]) (List.set_set ..)⟩
     · have hje : j = nx.length := by omega
       subst hje
       rw [List.take_length, ← hnx]
       repeat (first | refine zg ?_ | refine zA0 ?_ | refine zx ?_ | refine zw ?_ | refine zAN ?_)
       refine zA ?_
       refine zAz [some ⟨122, zsC (W2)⟩] [some ⟨40, .box [.int .i64 kd, .int .i64 pl, .int .i64 nf, .ro (.ints .i64 nx) 0 nx.length, .ro (.strs od) 0 od.length, .str py]⟩] [(0, .ro (zc t) 0 t.length), (1, .fn g caps), (5, .sl 0 0 t.length), (17, .ro (zc t) 0 t.length), (18, .int .i64 (t.length : Nat)), (19, .int .i64 (i : Nat))] rfl ⟨rfl, rfl, rfl, rfl, rfl, rfl, trivial⟩ (fun h hh => by rw [hfix] at hh; exact absurd hh id) (zDE (zMt _ _)) (by show (true && (zBq 1 caps && _)) = true; rw [hcb]; rfl) ?_
       refine rn3 ?_
       exact zO ⟨i + 1, by omega, by omega, ⟨rfl, rfl, rfl, rfl, rfl, rfl, trivial⟩, by rw [hW2]⟩
 · have hie : i = t.length := by omega
   subst hie
   rw [zNq hv]
   repeat (first | refine zA ?_ | refine zX ?_ | refine zA0 ?_ | refine zx ?_ | refine zw ?_ | refine zAN ?_)
   refine zDy [some ⟨122, qsC (zY t o)⟩] (zAJ.eqv (zs_map _) zAJ.nil) ?_
   refine zBE 0 5 t.length [] rfl (zG2 _) rfl (by show t.length ≤ (zY t o).length; rw [show (zY t o).length = t.length from zCd t o _]; exact Nat.le_refl _) trivial ?_
   refine rn0 ?_
   exact zI hR rfl rfl
end Go.Proofs.YtnkealfaldjipaaGreatDoor
namespace Go.Ax.Rt
open Go.Ax.Bg
theorem le_num {q : Rat} {M : Nat} (h : q ≤ (M : Rat)) : q.num ≤ M * q.den := by
 have h2 := Rat.not_lt.2 h
 rw [Rat.lt_iff] at h2
 rw [Rat.num_natCast, Rat.den_natCast] at h2
 have : ¬ ((M : Int) * (q.den : Int) < q.num * 1) := h2
 omega
theorem num_le {q : Rat} {M : Nat} (h : q.num ≤ M * q.den) : q ≤ (M : Rat) := by
 refine Rat.not_lt.1 (fun h2 => ?_)
 rw [Rat.lt_iff, Rat.num_natCast, Rat.den_natCast] at h2
 have : (M : Int) * (q.den : Int) < q.num * 1 := h2
 omega
theorem D_le {k : Nat} {q : Rat} (h : D k q) : q ≤ ((10 ^ k : Nat) : Rat) ∧ -q ≤ ((10 ^ k : Nat) : Rat) := by
 have h1 := h.1
 have h2 := q.den_pos
 generalize 10 ^ k = T at *
 have h3 : (T : Int) * 1 ≤ T * q.den := Int.mul_le_mul_of_nonneg_left (by omega) (by omega)
 refine ⟨num_le (by omega), num_le ?_⟩
 show -q.num ≤ (T : Int) * (q.den : Int)
 omega
theorem bnd_D {B K M : Nat} {q : Rat} (h : Dv B q) (hB : B ≠ 0) (h1 : q ≤ (M : Rat)) (h2 : -q ≤ (M : Rat)) (hM : M * B < 10 ^ K) (hK : B < 10 ^ K) : D K q := by
 have hd := Nat.le_of_dvd (by omega) (h.den hB)
 refine ⟨?_, by omega⟩
 have a1 := le_num h1
 have a2 := le_num h2
 have a2 : -q.num ≤ (M : Int) * (q.den : Int) := a2
 have a3 : M * q.den ≤ M * B := Nat.mul_le_mul_left _ hd
 have a4 : ((M * q.den : Nat) : Int) = (M : Int) * (q.den : Int) := Int.natCast_mul _ _
 omega
theorem Dv.sum {B : Nat} {l : List Rat} : (∀ q ∈ l, Dv B q) → ∀ {acc : Rat}, Dv B acc → Dv B (zAy acc l) := by
 induction l with
 | nil => intro _ acc h; exact h
 | cons a r ih => intro h acc ha; exact ih (fun q hq => h q (by simp [hq])) (ha.add (h a (by simp)))
theorem zK2 (f : Nat → Rat) (c : Rat) : ∀ ks : List Nat, zAy 0 (ks.map (fun i => f i * c)) = zAy 0 (ks.map f) * c
 | [] => by rw [List.map_nil, List.map_nil, zAy, Rat.zero_mul]
 | a :: r => by
   rw [List.map_cons, List.map_cons, zAy, zAy, zCI, zCI (r.map f), zK2 f c r, Rat.zero_add, Rat.zero_add, Rat.add_mul]
theorem zLN {f g : Nat → Rat} : ∀ {ks : List Nat}, (∀ i ∈ ks, f i ≤ g i) → zAy 0 (ks.map f) ≤ zAy 0 (ks.map g)
 | [], _ => Rat.le_refl
 | a :: r, h => by
   rw [List.map_cons, List.map_cons, zAy, zAy, zCI, zCI (r.map g), Rat.zero_add, Rat.zero_add]
   have h1 := (Rat.add_le_add_right (c := zAy 0 (r.map f))).2 (h a (by simp))
   have h2 := (Rat.add_le_add_left (c := g a)).2 (zLN (ks := r) (fun i hi => h i (by simp [hi])))
   exact Rat.le_trans h1 h2
/-- the product of the denominators of the payments -/
def payB (t : zT) : Nat := zGx (t.map (fun n => if n.kind = 0 then (zAU n.pay).den else 1))
theorem zJ9 (t : zT) : 0 < payB t := by
 refine zKe (fun x hx => ?_)
 obtain ⟨n, _, rfl⟩ := List.mem_map.1 hx
 split
 · exact Rat.den_pos _
 · exact Nat.one_pos
structure Pays (t : zT) (d : Nat) : Prop where
 dig : ∀ i, i < t.length → (t.getD i node0).kind = 0 → D d (zAU (t.getD i node0).pay)
theorem zOi {t : zT} {d : Nat} (h : Pays t d) : payB t ≤ 10 ^ (d * t.length) := by
 have h1 := zJD (l := t.map (fun n => if n.kind = 0 then (zAU n.pay).den else 1)) (d := d) (fun x hx => by
   obtain ⟨n, hn, rfl⟩ := List.mem_map.1 hx
   obtain ⟨i, hi, rfl⟩ := List.getElem_of_mem hn
   split
   · rename_i h2
     have := h.dig i hi (by rw [zAk node0 hi]; exact h2)
     rw [zAk node0 hi] at this
     exact Nat.le_of_lt this.2
   · exact Nat.pow_pos (by decide))
 rwa [List.length_map] at h1
theorem zLu {t : zT} {i : Nat} (hi : i < t.length) (hk : (t.getD i node0).kind = 0) : (zAU (t.getD i node0).pay).den ∣ payB t := by
 refine zH0 (List.mem_map.2 ⟨t.getD i node0, zAj node0 hi, ?_⟩)
 rw [if_pos hk]
theorem value_Dv {t : zT} (h : Valid t) {o : z8} {d : Nat} (ho : OddsAll t o d) (hn : t.length ≤ 40) : Dv (Bd o t.length * payB t) (zAb t o) := by
 refine Dv.sum (fun q hq => ?_) (Dv.zero _)
 obtain ⟨i, hi, rfl⟩ := List.mem_map.1 hq
 obtain ⟨i1, i2⟩ := zCw hi
 exact (zOu h ho hn i1).1.mul (Dv.of_den.mono (zLu i1 i2))
theorem value_le {t : zT} (h : Valid t) {o : z8} {d : Nat} (ho : OddsAll t o d) {e : Nat} (hp : Pays t e) : zAb t o ≤ ((10 ^ e : Nat) : Rat) ∧ -(zAb t o) ≤ ((10 ^ e : Nat) : Rat) := by
 have hs := ends_sum h ho.toOddsOK
 have one : zAy 0 ((z6 t).map (fun j => (zY t o).getD j 0 * ((10 ^ e : Nat) : Rat))) = ((10 ^ e : Nat) : Rat) := by
   rw [zK2, hs, Rat.one_mul]
 constructor
 · rw [← one]
   refine zLN (fun i hi => ?_)
   obtain ⟨i1, i2⟩ := zCw hi
   exact Rat.mul_le_mul_of_nonneg_left (D_le (hp.dig i i1 i2)).1 (zHA h ho i i1).2
 · unfold zAb
   rw [← zJL, ← one]
   refine zLN (fun i hi => ?_)
   obtain ⟨i1, i2⟩ := zCw hi
   unfold zEn
   rw [← Rat.mul_neg]
   exact Rat.mul_le_mul_of_nonneg_left (D_le (hp.dig i i1 i2)).2 (zHA h ho i i1).2
theorem value_D' {t : zT} (h : Valid t) {o : z8} (ho : OddsAll t o 12) (hn : t.length ≤ 40) (hp : Pays t 12) {E1 E2 W : Nat} (hB : Bd o t.length < 10 ^ E1) (hP : payB t ≤ 10 ^ E2) (hW : 12 + (E1 + E2) ≤ W) : D W (zAb t o) := by
 have e1 : Bd o t.length * payB t < 10 ^ E1 * 10 ^ E2 := by
   refine Nat.lt_of_lt_of_le ((Nat.mul_lt_mul_right (zJ9 t)).2 hB) ?_
   exact Nat.mul_le_mul_left _ hP
 rw [← Nat.pow_add] at e1
 obtain ⟨v1, v2⟩ := value_le h ho hp
 have hpos : 0 < Bd o t.length * payB t := Nat.mul_pos (zLF o _) (zJ9 t)
 refine bnd_D (value_Dv h ho hn) (by omega) v1 v2 ?_ ?_
 · have := (Nat.mul_lt_mul_left (a := 10 ^ 12) (Nat.pow_pos (by decide))).2 e1
   rw [← Nat.pow_add] at this
   exact Nat.lt_of_lt_of_le this (Nat.pow_le_pow_right (by decide) hW)
 · exact Nat.lt_of_lt_of_le e1 (Nat.pow_le_pow_right (by decide) (by omega))
/-- The value of a game with short zAm is short. -/
theorem zI4 {t : zT} (h : Valid t) {o : z8} (ho : OddsAll t o 12) (hn : t.length ≤ 40) (hp : Pays t 12) : D 974 (zAb t o) := by
 obtain ⟨_, hB⟩ := zOu h ho hn (show 0 < t.length by have := h.ne; omega)
 have hP := zOi hp
 refine value_D' h ho hn hp (E1 := 12 * 40 + 1) (E2 := 12 * t.length) hB hP ?_
 omega
/-- the probabilities of chance alone -/
def chanceO (t : zT) : z8 := fun i => if (t.getD i node0).kind = 1 then some ((t.getD i node0).odds.map zAU) else none
/-- the probabilities of chance and of both players -/
def zC0 (t : zT) (a b : Int → List Rat) : z8 := fun i =>
 if (t.getD i node0).kind = 1 then some ((t.getD i node0).odds.map zAU)
 else if (t.getD i node0).kind = 2 then some (if (t.getD i node0).player = 0 then a (t.getD i node0).info else b (t.getD i node0).info) else none
/-- the probabilities of chance and of the other player -/
def zGq (t : zT) (p : Int) (u : Int → List Rat) : z8 := fun i =>
 if (t.getD i node0).kind = 1 then some ((t.getD i node0).odds.map zAU)
 else if (t.getD i node0).kind = 2 then (if (t.getD i node0).player = p then none else some (u (t.getD i node0).info)) else none
theorem zHd (t : zT) (p : Int) (u : Int → List Rat) : ∀ i, i < t.length → own p (t.getD i node0) = true → zGq t p u i = none := by
 intro i hi h
 unfold own at h
 rw [Bool.and_eq_true, decide_eq_true_eq, decide_eq_true_eq] at h
 unfold zGq
 rw [if_neg (by omega), if_pos h.1, if_pos h.2]
theorem zIT {t : zT} {o o' : z8} (h : ∀ i, i < t.length → o i = o' i) : ∀ i, i ≤ t.length → zBl t o i = zBl t o' i
 | 0, _ => rfl
 | i + 1, hi => by rw [zBl, zBl, zIT h i (by omega), h i (by omega)]
theorem zEe {t : zT} {o o' : z8} (h : ∀ i, i < t.length → o i = o' i) : zAb t o = zAb t o' := by
 unfold zAb zY
 rw [zIT h t.length (Nat.le_refl _)]
theorem zCz {t : zT} (hv : Valid t) {i : Nat} (hi : i < t.length) (hk : (t.getD i node0).kind = 2) : (t.getD i node0).player = 0 ∨ (t.getD i node0).player = 1 := by
 have h := hv.nodes i hi
 unfold zDp at h
 rw [if_neg (by omega), if_neg (by omega), if_pos hk] at h
 split at h
 · cases h
 split at h
 · cases h
 rename_i h1
 omega
theorem zGm {p : Int} {n : TNode} : own p n = true ↔ n.kind = 2 ∧ n.player = p := by
 unfold own
 rw [Bool.and_eq_true, decide_eq_true_eq, decide_eq_true_eq]
theorem both0 {t : zT} (hv : Valid t) (a b : Int → List Rat) : ∀ i, i < t.length → zC6 t 0 a (zGq t 0 b) i = zC0 t a b i := by
 intro i hi
 unfold zC6 zGq zC0
 by_cases h : own 0 (t.getD i node0) = true
 · obtain ⟨h1, h2⟩ := zGm.1 h
   rw [if_pos h, if_neg (by omega), if_pos h1, if_pos h2]
 · rw [if_neg h]
   split
   · rfl
   split
   · rename_i h1 h2
     have h3 : ¬ (t.getD i node0).player = 0 := fun e => h (zGm.2 ⟨h2, e⟩)
     rw [if_neg h3, if_neg h3]
   · rfl
theorem both1 {t : zT} (hv : Valid t) (a b : Int → List Rat) : ∀ i, i < t.length → zC6 t 1 b (zGq t 1 a) i = zC0 t a b i := by
 intro i hi
 unfold zC6 zGq zC0
 by_cases h : own 1 (t.getD i node0) = true
 · obtain ⟨h1, h2⟩ := zGm.1 h
   rw [if_pos h, if_neg (by omega), if_pos h1, if_neg (by omega)]
 · rw [if_neg h]
   split
   · rfl
   split
   · rename_i h1 h2
     have h3 : ¬ (t.getD i node0).player = 1 := fun e => h (zGm.2 ⟨h2, e⟩)
     rw [if_neg h3, if_pos (by have := zCz hv hi h2; omega)]
   · rfl
/-- A game with few nodes and short zAm. -/
structure Modest (t : zT) : Prop where
 len : t.length ≤ 40
 pay : ∀ n ∈ t, n.pay.length ≤ 12
 odds : ∀ n ∈ t, ∀ r ∈ n.odds, r.length ≤ 12
theorem zIC {t : zT} (hv : Valid t) {i : Nat} (hi : i < t.length) (hk : (t.getD i node0).kind = 0) : zCX (t.getD i node0).pay = 0 := by
 have h := hv.nodes i hi
 unfold zDp at h
 rw [if_pos hk] at h
 split at h
 · cases h
 · exact h
theorem zLM {t : zT} (hv : Valid t) {i : Nat} (hi : i < t.length) (hk : (t.getD i node0).kind = 1) : (t.getD i node0).odds.length = (t.getD i node0).next.length ∧ zDn (t.getD i node0).odds = 0 := by
 have h := hv.nodes i hi
 unfold zDp at h
 rw [if_neg (by omega), if_pos hk] at h
 split at h
 · cases h
 split at h
 · rename_i h1; exact absurd h h1
 split at h
 · cases h
 · rename_i h1
   exact ⟨Classical.not_not.1 h1, h⟩
theorem Modest.pays {t : zT} (hm : Modest t) (hv : Valid t) : Pays t 12 :=
 ⟨fun i hi hk => (IsQ.self (zIC hv hi hk)).dig (hm.pay _ (zAj node0 hi)) (by decide)⟩
theorem Modest.chance {t : zT} (hm : Modest t) (hv : Valid t) {i : Nat} (hi : i < t.length) (hk : (t.getD i node0).kind = 1) : ((t.getD i node0).odds.map zAU).length = (t.getD i node0).next.length ∧ zAy 0 ((t.getD i node0).odds.map zAU) = 1 ∧ ∀ q ∈ (t.getD i node0).odds.map zAU, 0 ≤ q ∧ D 12 q := by
 obtain ⟨h1, h2⟩ := zLM hv hi hk
 obtain ⟨o1, o2, o3, o4⟩ := zD4 h2
 refine ⟨by rw [List.length_map]; exact h1, o3, fun q hq => ⟨(o4 q hq).1, ?_⟩⟩
 obtain ⟨s, hs, rfl⟩ := List.mem_map.1 hq
 exact (IsQ.self (o2 s hs)).dig (hm.odds _ (zAj node0 hi) s hs) (by decide)
theorem Strat.node {t : zT} (hv : Valid t) {p : Int} {u : Int → List Rat} {d : Nat} (h : Strat t p u d) {i : Nat} (hi : i < t.length) (hk : (t.getD i node0).kind = 2) (hp : (t.getD i node0).player = p) :
   (u (t.getD i node0).info).length = (t.getD i node0).next.length ∧ zAy 0 (u (t.getD i node0).info) = 1 ∧ ∀ q ∈ u (t.getD i node0).info, 0 ≤ q ∧ D d q := by
 have hs : zA4 p (t.getD i node0).info (t.getD i node0) = true := by
   unfold zA4
   rw [zGm.2 ⟨hk, hp⟩, decide_eq_true rfl]; rfl
 have hx : (t.getD i node0).info ∈ zf t p := (zBp hv).2 ⟨i, hi, hs⟩
 exact ⟨by rw [h.len _ hx, zDc hv hi hs], h.sum _ hx, fun q hq => ⟨h.nn _ hx q hq, h.dig _ hx q hq⟩⟩
theorem zF6 {t : zT} (hv : Valid t) (hm : Modest t) {a b : Int → List Rat} (ha : Strat t 0 a 12) (hb : Strat t 1 b 12) : OddsAll t (zC0 t a b) 12 := by
 refine ⟨⟨fun i hi hk => ?_⟩, fun i hi hk => ?_⟩
 · by_cases h1 : (t.getD i node0).kind = 1
   · obtain ⟨c1, c2, c3⟩ := hm.chance hv hi h1
     refine ⟨_, ?_, c1, c2, c3⟩
     unfold zC0; rw [if_pos h1]
   · have h2 : (t.getD i node0).kind = 2 := by
       rcases hv.child hi with h | h
       · exact absurd h.1 hk
       · omega
     by_cases h3 : (t.getD i node0).player = 0
     · obtain ⟨c1, c2, c3⟩ := ha.node hv hi h2 h3
       refine ⟨_, ?_, c1, c2, c3⟩
       unfold zC0; rw [if_neg h1, if_pos h2, if_pos h3]
     · have h4 : (t.getD i node0).player = 1 := by have := zCz hv hi h2; omega
       obtain ⟨c1, c2, c3⟩ := hb.node hv hi h2 h4
       refine ⟨_, ?_, c1, c2, c3⟩
       unfold zC0; rw [if_neg h1, if_pos h2, if_neg h3]
 · unfold zC0; rw [if_neg (by omega), if_neg (by omega)]
theorem Strat.mix {t : zT} {p : Int} {u : Int → List Rat} {d : Nat} (h : Strat t p u d) : Mix t p u := ⟨h.len, h.sum, h.nn⟩
theorem zJP {t : zT} (hv : Valid t) (p : Int) (o : z8) : Strat t p (zFn t p o) 12 := by
 have hm := best_mix hv p o
 refine ⟨hm.len, hm.sum, hm.nn, fun x hx q hq => ?_⟩
 obtain ⟨c, h1, h2, _⟩ := zHz hv o hx
 have e : zFn t p o x = zEg (zd t p x) c := by unfold zFn; rw [h1]; rfl
 rw [e] at hq
 exact ((zIY h2).2.2 q hq).2.mono (by decide)
/-- the best value of a player -/
def zKZ (t : zT) (p : Int) (u : Int → List Rat) : Rat := (zA9 t p (zGq t p u)).2.1.getD 0 0
theorem best0 {t : zT} (hv : Valid t) (hp : zBb t 0 = true) (b : Int → List Rat) : zKZ t 0 b = zAb t (zC0 t (zFn t 0 (zGq t 0 b)) b) := by
 have h := zJ0 hv hp (zHd t 0 b)
 rw [if_neg (by decide), zEe (both0 hv _ b)] at h
 exact h.symm
theorem best1 {t : zT} (hv : Valid t) (hp : zBb t 1 = true) (a : Int → List Rat) : zKZ t 1 a = -(zAb t (zC0 t a (zFn t 1 (zGq t 1 a)))) := by
 have h := zJ0 hv hp (zHd t 1 a)
 rw [if_pos rfl, zEe (both1 hv a _)] at h
 exact h.symm
theorem most0 {t : zT} (hv : Valid t) (hp : zBb t 0 = true) {a : Int → List Rat} (ha : Mix t 0 a) (b : Int → List Rat) : zAb t (zC0 t a b) ≤ zKZ t 0 b := by
 have h := zJ8 hv hp ha (zHd t 0 b)
 rw [if_neg (by decide), zEe (both0 hv a b)] at h
 exact h
theorem most1 {t : zT} (hv : Valid t) (hp : zBb t 1 = true) (a : Int → List Rat) {b : Int → List Rat} (hb : Mix t 1 b) : -(zAb t (zC0 t a b)) ≤ zKZ t 1 a := by
 have h := zJ8 hv hp hb (zHd t 1 a)
 rw [if_pos rfl, zEe (both1 hv a b)] at h
 exact h
theorem bestV_D0 {t : zT} (hv : Valid t) (hm : Modest t) (hp : zBb t 0 = true) {b : Int → List Rat} (hb : Strat t 1 b 12) : D 974 (zKZ t 0 b) := by
 rw [best0 hv hp]
 exact zI4 hv (zF6 hv hm (zJP hv 0 _) hb) hm.len (hm.pays hv)
theorem bestV_D1 {t : zT} (hv : Valid t) (hm : Modest t) (hp : zBb t 1 = true) {a : Int → List Rat} (ha : Strat t 0 a 12) : D 974 (zKZ t 1 a) := by
 rw [best1 hv hp]
 exact (zI4 hv (zF6 hv hm ha (zJP hv 1 _)) hm.len (hm.pays hv)).neg
end Go.Ax.Rt
namespace Go.Ax.Rt
open Go.Ax.Bg
structure OddsW (t : zT) (o : z8) (d : Nat) : Prop where
 some : ∀ i, i < t.length → ∀ l, o i = some l → l.length = (t.getD i node0).next.length ∧ ∀ q ∈ l, 0 ≤ q ∧ q ≤ 1 ∧ D d q
theorem zOq {t : zT} (h : Valid t) {o : z8} {d : Nat} (ho : OddsW t o d) : ∀ j, j < t.length → Dv (Bd o j) ((zY t o).getD j 0) ∧ 0 ≤ (zY t o).getD j 0 ∧ (zY t o).getD j 0 ≤ 1 := by
 intro j
 induction j using Nat.strongRecOn with
 | ind j ih =>
   intro hj
   by_cases h0 : j = 0
   · subst h0
     rw [zDF h]
     exact ⟨Dv.one _, by decide +kernel, Rat.le_refl⟩
   · obtain ⟨i, hi, hk⟩ := h.has hj h0
     have hlt := h.kid_lt hi hk
     obtain ⟨m, hm, he⟩ := zJs h hi hk
     have hr := zD3 h o hi hm
     rw [he] at hr
     obtain ⟨g1, g2, g3⟩ := ih i (by omega) hi
     cases hoi : o i with
     | none =>
       rw [hoi] at hr
       have hr : (zY t o).getD j 0 = (zY t o).getD i 0 := hr
       rw [hr]
       have h6 := zG7 o (i := i) (j - i)
       rw [show i + (j - i) = j by omega] at h6
       exact ⟨g1.mono h6, g2, g3⟩
     | some l =>
       obtain ⟨l2, l4⟩ := ho.some i hi l hoi
       rw [hoi] at hr
       have hr : (zY t o).getD j 0 = (zY t o).getD i 0 * l.getD m 0 := hr
       obtain ⟨q1, q2, q3⟩ := l4 (l.getD m 0) (zAj 0 (by omega))
       rw [hr]
       refine ⟨?_, Rat.mul_nonneg g2 q1, ?_⟩
       · have h5 : Dv (Bd o (i + 1)) ((zY t o).getD i 0 * l.getD m 0) := by
           refine (g1.mul (Dv.of_den (q := l.getD m 0))).mono ?_
           show _ ∣ Bd o i * pden (o i)
           rw [hoi]
           exact Nat.mul_dvd_mul (Nat.dvd_refl _) (zH0 (List.mem_map.2 ⟨_, zAj 0 (by omega), rfl⟩))
         have h6 := zG7 o (i := i + 1) (j - (i + 1))
         rw [show i + 1 + (j - (i + 1)) = j by omega] at h6
         exact h5.mono h6
       · have h7 := Rat.mul_le_mul_of_nonneg_left q2 g2
         rw [Rat.mul_one] at h7
         exact Rat.le_trans h7 g3
theorem Bd_w {t : zT} {o : z8} {d : Nat} (ho : OddsW t o d) : ∀ i, i ≤ t.length → Bd o i ≤ 10 ^ (d * ((t.take i).flatMap TNode.next).length)
 | 0, _ => by simp [Bd]
 | i + 1, hi => by
   have ih := Bd_w ho i (by omega)
   have hi' : i < t.length := by omega
   have hp : pden (o i) ≤ 10 ^ (d * (t.getD i node0).next.length) := by
     cases hoi : o i with
     | none => exact Nat.pow_pos (by decide)
     | some l =>
       obtain ⟨l2, l4⟩ := ho.some i hi' l hoi
       rw [← l2]
       have := zJD (l := l.map Rat.den) (d := d) (fun x hx => by
         obtain ⟨q, hq, rfl⟩ := List.mem_map.1 hx
         exact Nat.le_of_lt (l4 q hq).2.2.2)
       rwa [List.length_map] at this
   rw [Bd, List.take_succ_eq_append_getElem hi', List.flatMap_append, List.length_append, Nat.mul_add, Nat.pow_add]
   refine Nat.mul_le_mul ih ?_
   rw [zAk node0 hi'] at hp
   simpa using hp
theorem zE5 {t : zT} (h : Valid t) {o : z8} {d : Nat} (ho : OddsW t o d) (hn : t.length ≤ 40) {j : Nat} (hj : j < t.length) : D (d * 40 + 1) ((zY t o).getD j 0) := by
 obtain ⟨g1, g2, g3⟩ := zOq h ho j hj
 have h6 := zG7 o (i := j) (t.length - j)
 rw [show j + (t.length - j) = t.length by omega] at h6
 have h7 := Bd_w ho t.length (Nat.le_refl _)
 rw [List.take_length] at h7
 have h8 := zJA h
 have h9 : d * (t.flatMap TNode.next).length ≤ d * 40 := Nat.mul_le_mul_left _ (by omega)
 have h10 : 10 ^ (d * (t.flatMap TNode.next).length) ≤ 10 ^ (d * 40) := Nat.pow_le_pow_right (by decide) h9
 have h11 : 0 < 10 ^ (d * 40) := Nat.pow_pos (by decide)
 have hpos := zLF o t.length
 refine unit_D (g1.mono h6) (by omega) g2 g3 ?_
 rw [Nat.pow_succ]
 omega
theorem zLd {l : List Rat} (hs : zAy 0 l = 1) (h0 : ∀ q ∈ l, 0 ≤ q) : ∀ q ∈ l, q ≤ 1 := by
 have key : ∀ (l : List Rat) (x : Rat), (∀ q ∈ l, 0 ≤ q) → x ∈ l → x ≤ zAy 0 l := by
   intro l
   induction l with
   | nil => intro x _ hx; simp at hx
   | cons a r ihl =>
     intro x hq hx
     rw [zAy, zCI, Rat.zero_add]
     have ha := hq a (by simp)
     have hr := zOr r 0 (fun y hy => hq y (by simp [hy]))
     rcases List.mem_cons.1 hx with rfl | hx
     · have := (Rat.add_le_add_left (c := x)).2 hr
       rwa [Rat.add_zero] at this
     · have h1 := ihl x (fun q hq' => hq q (by simp [hq'])) hx
       have := (Rat.add_le_add_right (c := zAy 0 r)).2 ha
       rw [Rat.zero_add] at this
       exact Rat.le_trans h1 this
 intro q hq
 rw [← hs]
 exact key l q h0 hq
theorem OddsAll.w {t : zT} {o : z8} {d : Nat} (h : OddsAll t o d) : OddsW t o d := by
 refine ⟨fun i hi l hl => ?_⟩
 by_cases hk : (t.getD i node0).kind = 0
 · rw [h.none i hi hk] at hl; cases hl
 · obtain ⟨l', h1, h2, h3, h4⟩ := h.at' i hi hk
   rw [hl] at h1
   obtain rfl := Option.some.inj h1
   have := zLd h3 (fun q hq => (h4 q hq).1)
   exact ⟨h2, fun q hq => ⟨(h4 q hq).1, this q hq, (h4 q hq).2⟩⟩
theorem one_w {t : zT} (hv : Valid t) (hm : Modest t) {p : Int} {u : Int → List Rat} (hp : p = 0 ∨ p = 1) (hu : Strat t (1 - p) u 12) : OddsW t (zGq t p u) 12 := by
 refine ⟨fun i hi l hl => ?_⟩
 unfold zGq at hl
 by_cases h1 : (t.getD i node0).kind = 1
 · rw [if_pos h1] at hl
   obtain rfl := Option.some.inj hl
   obtain ⟨c1, c2, c3⟩ := hm.chance hv hi h1
   have := zLd c2 (fun q hq => (c3 q hq).1)
   exact ⟨c1, fun q hq => ⟨(c3 q hq).1, this q hq, (c3 q hq).2⟩⟩
 · rw [if_neg h1] at hl
   by_cases h2 : (t.getD i node0).kind = 2
   · rw [if_pos h2] at hl
     by_cases h3 : (t.getD i node0).player = p
     · rw [if_pos h3] at hl; cases hl
     · rw [if_neg h3] at hl
       obtain rfl := Option.some.inj hl
       obtain ⟨c1, c2, c3⟩ := hu.node hv hi h2 (by have := zCz hv hi h2; omega)
       have := zLd c2 (fun q hq => (c3 q hq).1)
       exact ⟨c1, fun q hq => ⟨(c3 q hq).1, this q hq, (c3 q hq).2⟩⟩
   · rw [if_neg h2] at hl; cases hl
theorem zNh {t : zT} (hv : Valid t) (hm : Modest t) {a b : Int → List Rat} (ha : Strat t 0 a 12) (hb : Strat t 1 b 12) : OddsW t (zC0 t a b) 12 := (zF6 hv hm ha hb).w
/-- the ends before a node -/
def zAq (t : zT) (i : Nat) : List Int := ((List.range i).filter (fun j => decide ((t.getD j node0).kind = 0))).map (fun j : Nat => (j : Int))
theorem zJW (t : zT) (i : Nat) : zAq t (i + 1) = if (t.getD i node0).kind = 0 then zAq t i ++ [(i : Int)] else zAq t i := by
 unfold zAq
 rw [List.range_succ, List.filter_append, List.map_append]
 by_cases h : (t.getD i node0).kind = 0
 · rw [if_pos h, List.filter_cons_of_pos (by simpa using h)]; rfl
 · rw [if_neg h, List.filter_cons_of_neg (by simpa using h)]; simp
theorem zGY (t : zT) : ∀ i, (zAq t i).length ≤ i
 | 0 => Nat.le_refl _
 | i + 1 => by
   have := zGY t i
   rw [zJW]
   split
   · rw [List.length_append]; show _ + 1 ≤ _; omega
   · omega
theorem zIJ (t : zT) : zAq t t.length = (z6 t).map (fun j : Nat => (j : Int)) := rfl
theorem zKT (t : zT) {k : Nat} (hk : k < (z6 t).length) : (zAq t t.length).getD k 0 = (((z6 t).getD k 0 : Nat) : Int) := by
 rw [zIJ, zDY _ _ 0 _ _ hk]
/-- the sum so far -/
def zJa (t : zT) (o : z8) (k : Nat) : Rat := zAy 0 (((z6 t).take k).map (zEn t (zY t o)))
theorem zPs (t : zT) (o : z8) {k : Nat} (hk : k < (z6 t).length) : zJa t o (k + 1) = zJa t o k + zEn t (zY t o) ((z6 t).getD k 0) := by
 unfold zJa
 rw [List.take_succ_eq_append_getElem hk, List.map_append, List.map_singleton, zHx, zAk 0 hk]
theorem valK_all (t : zT) (o : z8) : zJa t o (z6 t).length = zAb t o := by
 unfold zJa zAb; rw [List.take_length]
end Go.Ax.Rt
namespace Go.Proofs.YtnkealfaldjipaaGreatDoor
open Go.Ax Go.Ax.Bg Go.Ax.Rt Go.RowKit Go.Ax.Idx Go.Ax.Cd
attribute [local irreducible] Ax zAL QOp zM zo
set_option maxRecDepth 100000
set_option maxHeartbeats 4000000
theorem zOs {t : zT} (hv : Valid t) (hlen : t.length ≤ 40) {o : z8} (ho : OddsW t o 12) (hc : ∀ i, i < t.length → (t.getD i node0).kind = 1 → o i = some ((t.getD i node0).odds.map zAU)) (he : ∀ i, i < t.length → (t.getD i node0).kind = 0 → o i = none) : OddsG t o := by
 refine ⟨hc, he, fun i hi l hl => ?_, fun j hj => zF5 ((zE5 hv ho hlen hj).mono (by decide))⟩
 obtain ⟨h1, h2⟩ := ho.some i hi l hl
 have hk : (t.getD i node0).kind ≠ 0 := fun e => by rw [he i hi e] at hl; cases hl
 have hn : 1 ≤ (t.getD i node0).next.length ∧ (t.getD i node0).next.length ≤ 6 := by
   rcases hv.child hi with h | h
   · exact absurd h.1 hk
   · exact ⟨(zCM h.2).1, (zCM h.2).2.1⟩
 exact ⟨by omega, by omega, by omega, fun q hq => zF5 ((h2 q hq).2.2.mono (by decide))⟩
theorem zNy (t : zT) (hlen : t.length ≤ 1000000) : zV Tryz.prog 135 [.ro (zc t) 0 t.length] (.ro (.ints .i64 (zAq t t.length)) 0 (zAq t t.length).length) := by
 refine zM.value0 (zG (P := Tryz.prog) (fn := Tryz.f135) rfl rfl (by kernel_rfl) rfl (fun c hR hfix => ?_)) (fix := fun _ => False) (fun _ h => h) rfl rfl
 repeat (first | refine zB (zH rfl) ?_ | refine zB (zK rfl) ?_ | refine zC ?_ | refine zA ?_ | refine zX ?_ | refine zJ rfl ?_ | refine zB (zBK rfl rfl rfl) ?_)
 refine zBo 3 ⟨3, .ints .i64 []⟩ rfl rfl ?_
 repeat (refine zAB ?_)
 refine zk (ι := Nat) (fun i => [(3, .sl 0 0 (zAq t i).length), (6, .ro (zc t) 0 t.length), (7, .int .i64 (t.length : Nat)), (8, .int .i64 (i : Nat))]) (fun i => [some ⟨3, .ints .i64 (zAq t i)⟩])
   (fun i => i ≤ t.length) (fun i => t.length - i) 0 ⟨⟨rfl, rfl, rfl, rfl, trivial⟩, rfl, Nat.zero_le _⟩ ?_
 intro i hi
 refine rn4 ?_
 refine zF rfl (fun h => ?_) (fun h => ?_)
 · have hi' : i < t.length := by omega
   have hsn := zJW t i
   have hel := zGY t i
   generalize hI2 : zAq t (i + 1) = I2 at *
   generalize zAq t i = I at *
   refine rn6 ?_
   refine zL 12 (.agg (zBV (t.getD i node0))) rfl (AEq.of_eq rfl) ?_
   generalize t.getD i node0 = n at *
   obtain ⟨kd, pl, nf, nx, od, py⟩ := n
   simp only at *
   refine zR (c' := .box [.int .i64 kd, .int .i64 pl, .int .i64 nf, .ro (.ints .i64 nx) 0 nx.length, .ro (.strs od) 0 od.length, .str py]) rfl rfl rfl rfl rfl Nat.zero_lt_one rfl rfl (fun i' j' hi' hj' => ?_) ?_
   · rw [if_pos (Nat.lt_one_iff.1 hi')]; rfl
   refine zAn [some ⟨3, .ints .i64 I⟩, some ⟨40, .box [.int .i64 kd, .int .i64 pl, .int .i64 nf, .ro (.ints .i64 nx) 0 nx.length, .ro (.strs od) 0 od.length, .str py]⟩] rfl ?_
   refine zL 5 (.ptr 1 0 0) rfl (AEq.of_eq rfl) ?_
   refine rn5 ?_
   refine zF rfl (fun h1 => ?_) (fun h1 => ?_)
   · rw [if_pos h1] at hsn
     refine rn3 ?_
     refine zp rfl rfl rfl rfl rfl rfl rfl rfl rfl rfl rfl rfl (by show 0 + 1 ≤ 1; omega) rfl (by show (I.length + 1) * 8 ≤ _ ∧ _; omega) (fun i j _ _ => rfl) (by rw [hfix]; exact fun h => h) ?_
     repeat (first | refine zB (zK rfl) ?_ | refine zC ?_ | refine zg ?_)
     refine zA ?_
     refine zAz [some ⟨3, .ints .i64 (I ++ [(i : Int)])⟩] [some ⟨40, .box [.int .i64 kd, .int .i64 pl, .int .i64 nf, .ro (.ints .i64 nx) 0 nx.length, .ro (.strs od) 0 od.length, .str py]⟩] [(3, .sl 0 0 (I.length + 1)), (6, .ro (zc t) 0 t.length), (7, .int .i64 (t.length : Nat)), (8, .int .i64 (i : Nat))] rfl ⟨rfl, rfl, rfl, rfl, trivial⟩ (fun h hh => by rw [hfix] at hh; exact absurd hh id) (zDE (zCe _ _ _)) rfl ?_
     refine rn3 ?_
     exact zO ⟨i + 1, by omega, by omega, ⟨by rw [hI2, hsn, List.length_append]; rfl, rfl, rfl, rfl, trivial⟩, by rw [hI2, hsn]⟩
   · rw [if_neg h1] at hsn
     repeat (first | refine zg ?_ | refine zl ?_)
     refine zA ?_
     refine zAz [some ⟨3, .ints .i64 I⟩] [some ⟨40, .box [.int .i64 kd, .int .i64 pl, .int .i64 nf, .ro (.ints .i64 nx) 0 nx.length, .ro (.strs od) 0 od.length, .str py]⟩] [(3, .sl 0 0 I.length), (6, .ro (zc t) 0 t.length), (7, .int .i64 (t.length : Nat)), (8, .int .i64 (i : Nat))] rfl ⟨rfl, rfl, rfl, rfl, trivial⟩ (fun h hh => by rw [hfix] at hh; exact absurd hh id) (zDE (zCe _ _ _)) rfl ?_
     refine rn3 ?_
     exact zO ⟨i + 1, by omega, by omega, ⟨by rw [hI2, hsn]; rfl, rfl, rfl, rfl, trivial⟩, by rw [hI2, hsn]⟩
 · have hie : i = t.length := by omega
   subst hie
   repeat (first | refine zA ?_ | refine zX ?_ | refine zA0 ?_ | refine zx ?_ | refine zw ?_ | refine zAN ?_)
   refine zBE 0 3 (zAq t t.length).length [] rfl zAR rfl (by show (zAq t t.length).length ≤ (zAq t t.length).length; exact Nat.le_refl _) trivial ?_
   refine rn0 ?_
   exact zI hR rfl rfl
abbrev zDI (s : zAY) : AV := .rom (s.map keyC) (s.map valC)
theorem zKw (n : TNode) (a b : zAY) (hp : n.player = 0 ∨ n.player = 1) (c : TChoice) (hc : c ∈ (if n.player = 0 then a else b)) (hi : c.info = n.info) : zV Tryz.prog 141 [.agg (zBV n), .rp (.box [zDI a, zDI b]) 0 0] (.ro (qsC (c.odds.map zAU)) 0 (c.odds.map zAU).length) := by
 obtain ⟨jj, i1, i2⟩ := zKy hc
 rw [hi] at i1
 obtain ⟨kd, pl, nf, nx, od, py⟩ := n
 simp only at *
 refine zM.value0 (zG (P := Tryz.prog) (fn := Tryz.f141) rfl rfl (by kernel_rfl) rfl (fun c hR hfix => ?_)) (fix := fun _ => False) (fun _ h => h) rfl rfl
 unfold zBV
 simp only
 refine rn6 ?_
 refine zm (by kernel_rfl) ?_
 rcases hp with hp | hp
 · subst hp
   rw [if_pos rfl] at i1 i2
   refine z7 (fuel := 0) [0, 1, 2, 3, 4, 5, 6, 7] [(1, .rp (.box [zDI a, zDI b]) 0 0), (2, .ptr 0 0 0)] ⟨rfl, rfl, trivial⟩ (by kernel_rfl) (by decide) rfl rfl ?_
   refine zW rfl rfl (zP rfl rfl rfl rfl rfl rfl) ?_
   refine zW rfl rfl (zS rfl rfl rfl rfl rfl) ?_
   refine zW rfl rfl (zGH rfl rfl rfl rfl (by first | (simp only [Nat.zero_add, Int.toNat_natCast]; exact rfl) | exact rfl) (by omega)) ?_
   refine zW rfl rfl (zAf rfl rfl rfl rfl) ?_
   refine zW rfl rfl (zP rfl rfl rfl rfl rfl rfl) ?_
   refine zW rfl rfl (zS rfl rfl rfl rfl rfl) ?_
   refine zW rfl rfl (zBR rfl (.int rfl) rfl rfl rfl rfl (keysC a) jj i1 i2) ?_
   refine zW rfl rfl (zK rfl) ?_
   refine zAg ?_
   refine zh (by kernel_rfl) ?_
   refine rn0 ?_
   exact zI hR rfl rfl
 · subst hp
   rw [if_neg (by decide)] at i1 i2
   refine z7 (fuel := 0) [0, 1, 2, 3, 4, 5, 6, 7] [(1, .rp (.box [zDI a, zDI b]) 0 0), (2, .ptr 0 0 0)] ⟨rfl, rfl, trivial⟩ (by kernel_rfl) (by decide) rfl rfl ?_
   refine zW rfl rfl (zP rfl rfl rfl rfl rfl rfl) ?_
   refine zW rfl rfl (zS rfl rfl rfl rfl rfl) ?_
   refine zW rfl rfl (zGH rfl rfl rfl rfl (by first | (simp only [Nat.zero_add, Int.toNat_natCast]; exact rfl) | exact rfl) (by omega)) ?_
   refine zW rfl rfl (zAf rfl rfl rfl rfl) ?_
   refine zW rfl rfl (zP rfl rfl rfl rfl rfl rfl) ?_
   refine zW rfl rfl (zS rfl rfl rfl rfl rfl) ?_
   refine zW rfl rfl (zBR rfl (.int rfl) rfl rfl rfl rfl (keysC b) jj i1 i2) ?_
   refine zW rfl rfl (zK rfl) ?_
   refine zAg ?_
   refine zh (by kernel_rfl) ?_
   refine rn0 ?_
   exact zI hR rfl rfl
end Go.Proofs.YtnkealfaldjipaaGreatDoor
namespace Go.Ax
variable [Pins]
open Go.RowKit
def sclM (x : Value) : Option AV := match x with
 | .map none => some .any
 | v => scl v
theorem vr_sclM {w : World} {S : Nat → Prop} {σ : Nat → Option Blk} {x : Value} {v : AV} (h : sclM x = some v) : VR w S σ v x ∧ x.oneCell' = true := by
 unfold sclM at h
 split at h
 · cases h; exact ⟨.any _ _, rfl⟩
 · exact zK8 h
def zavM (v : Value) : Option (List AV) := v.cells.toList.mapM fun x => sclM x
theorem zK3 {w : World} {S : Nat → Prop} {σ : Nat → Option Blk} {z : Value} {zs : List AV} (h : zavM z = some zs) : z.cells.size = zs.length ∧ ∀ j, j < zs.length → VR w S σ (zs.getD j .any) (z.cells.getD j undef) ∧ (z.cells.getD j undef).oneCell' = true := by
 unfold zavM at h
 have key : ∀ (l : List Value) (zs : List AV), l.mapM (fun x => sclM x) = some zs → l.length = zs.length ∧ ∀ j, j < zs.length → VR w S σ (zs.getD j .any) (l.getD j undef) ∧ (l.getD j undef).oneCell' = true := by
   intro l
   induction l with
   | nil => intro zs h; simp at h; subst h; exact ⟨rfl, fun j hj => by simp at hj⟩
   | cons x r ih =>
     intro zs h
     simp only [List.mapM_cons] at h
     cases h1 : sclM x with
     | none => simp [h1] at h
     | some y =>
       cases h2 : r.mapM (fun x => sclM x) with
       | none => simp [h1, h2] at h
       | some ys =>
         simp [h1, h2] at h
         subst h
         obtain ⟨i1, i2⟩ := ih ys h2
         refine ⟨by simp [i1], fun j hj => ?_⟩
         cases j with
         | zero => exact vr_sclM h1
         | succ j => simpa using i2 j (by simpa using hj)
 obtain ⟨k1, k2⟩ := key _ _ h
 refine ⟨by simpa using k1, fun j hj => ?_⟩
 have := k2 j hj
 have e : z.cells.toList.getD j undef = z.cells.getD j undef := by
   have hlt : j < z.cells.size := by simp at k1; omega
   simp [List.getD, Array.getD, hlt]
 rwa [e] at this
section
variable {P : Program} {fn : Func} {c : Ctx} {fr : Fr} {H : zQ} {k : List It}
/-- A struct's or an array's value. -/
theorem q_buildM {ind : Bool} {d : Option Nat} {ty : TypeId} {pos : String} {after : Array Edge} {g : Option (Nat × Bool)} {t : TypeId} {parts : List (Nat × Operand)} {it : TypeInfo} {z : Value} {zs L : List AV} {l : List (Nat × AV)} {pl : Nat → Option (Nat × Nat)}
   (hi : P.info? t = some it) (hz : it.zero = some z) (hzs : zavM z = some zs) (hpl : zHq P t = some pl) (hl : zDV fr parts = some l) (hf : zFl pl zs l = some L) :
   QOp ind P fn c fr H ⟨d, .build t parts.toArray, ty, pos, after, g⟩ (.agg L) := by
 intro w a σ S hr
 obtain ⟨y1, y2⟩ := zK3 (w := w) (S := S) (σ := σ) hzs
 obtain ⟨cs', g1, g2⟩ := zGd l _ z.cells zs L ⟨y1, y2⟩ (zDz hr parts l hl) hf
 refine ⟨.agg cs', .agg _ _ _ g2.1 (fun i hi => (g2.2 i hi).1) (fun i hi => (g2.2 i hi).2), fun w' _ => ?_⟩
 have hb : P.built t ((parts.toArray.map fun (i, x) => (i, a.eval x)).toList) = some cs' := by
   have e : (parts.toArray.map fun (i, x) => (i, a.eval x)).toList = parts.map fun (i, x) => (i, a.eval x) := by simp
   rw [e]
   unfold zHq at hpl
   unfold Program.built
   cases hu : P.underlying t with
   | none => simp [hu] at hpl
   | some u =>
     cases u with
     | array nn e' =>
       simp only [hu] at hpl
       cases he : P.info? e' with
       | none => simp [he] at hpl
       | some ie =>
         simp only [he, Option.some.injEq] at hpl
         subst hpl
         simp only [hi, hz, he]
         exact g1
     | struct fields =>
       simp only [hu] at hpl
       cases he : fields.toList.mapM (fun f => (P.info? f.type).map fun i => (f.offset, i.size)) with
       | none => simp [he] at hpl
       | some places =>
         simp only [he, Option.some.injEq] at hpl
         subst hpl
         simp only [hi, hz, he]
         exact g1
     | _ => simp [hu] at hpl
 have hrun := run_build (P := P) w' t (parts.toArray.map fun (i, x) => (i, a.eval x)) cs' hb
 simp only [execOp, Sem.run_bind, hrun, Result.andThen_ok]
 rfl
theorem zKg {all : Array Oper} {d : Nat} {t : TypeId} {ty : TypeId} {pos : String} {after : Array Edge} {rest : List Oper} {inf : TypeInfo} {z : Value} {zs : List AV}
   (hi : P.info? t = some inf) (hz : inf.zero = some z) (hzs : zavM z = some zs)
   (hk : Ax P fn c (.ops false all rest k) ((d, .ptr H.length 0 0) :: fr) (H ++ [some ⟨t, .box zs⟩])) : Ax P fn c (.ops false all (⟨some d, .alloc t, ty, pos, after, none⟩ :: rest) k) fr H := by
 refine zIq (fun w a σ S hr => ?_) hk
 have ha : Arr w S σ z.cells zs := zK3 hzs
 have hrun : (execOp a.eval ⟨some d, .alloc t, ty, pos, after, none⟩).run P w = .ok (.value (.pointer (some ⟨w.heap.size, 0, none⟩))) (w.alloc (.cells z.cells t (0, 0))) := by
   simp [execOp, Instr.alloc, newVar, newRow, zeroValue, typeInfo, hi, hz]
 refine ⟨_, _, _, S, hrun, hr.alloc (o := ⟨t, .box zs⟩) (C := 1) (cur := z.cells) (Nat.le_refl _) (by unfold maxLen; omega) (by simp [Cells.sz, ha.1]) (zHy ha), ?_⟩
 have := VR.ptr (w := w.alloc (.cells z.cells t (0, 0))) (S := S) (upσ σ H.length (.at w.heap.size (Cells.box zs).sz 1)) H.length 0 0 w.heap.size (Cells.box zs).sz 1 (by simp [upσ])
 simpa using this
end
end Go.Ax
namespace Go.Proofs.YtnkealfaldjipaaGreatDoor
open Go.Ax Go.Ax.Bg Go.Ax.Rt Go.RowKit Go.Ax.Idx Go.Ax.Cd
attribute [local irreducible] Ax zAL QOp zM zo
set_option maxRecDepth 100000
set_option maxHeartbeats 4000000
structure StrS (t : zT) (p : Int) (s : zAY) : Prop where
 short : ShortS s
 ok : OkS t p s
 dig : ∀ c ∈ s, ∀ r ∈ c.odds, r.length ≤ 12
theorem StrS.nd {t : zT} {p : Int} {s : zAY} (h : StrS t p s) : (s.map TChoice.info).Nodup := by rw [h.ok.infos]; exact zGC t p
theorem StrS.str {t : zT} {p : Int} {s : zAY} (h : StrS t p s) : Strat t p (zE9 s) 12 := h.ok.strat12 h.dig
theorem StrS.call {t : zT} {p : Int} {s : zAY} (h : StrS t p s) : zV Tryz.prog 132 [.ro (zAP s) 0 s.length] (zDI s) :=
 odds_ok' s h.short h.nd (fun c hc => ⟨(zD4 (h.ok.odds c hc)).1, (zD4 (h.ok.odds c hc)).2.1⟩)
theorem StrS.node {t : zT} {p : Int} {s : zAY} (h : StrS t p s) (hv : Valid t) {i : Nat} (hi : i < t.length) (hk : (t.getD i node0).kind = 2) (hp : (t.getD i node0).player = p) : ∃ c ∈ s, c.info = (t.getD i node0).info ∧ zE9 s (t.getD i node0).info = c.odds.map zAU := by
 have hs : zA4 p (t.getD i node0).info (t.getD i node0) = true := by
   unfold zA4
   rw [zGm.2 ⟨hk, hp⟩, decide_eq_true rfl]; rfl
 obtain ⟨c, c1, c2, c3, _⟩ := h.ok.at' ((zBp hv).2 ⟨i, hi, hs⟩)
 exact ⟨c, c1, c2, c3⟩
def zAp (t : zT) (a b : zAY) : z8 := zC0 t (zE9 a) (zE9 b)
theorem playS_G {t : zT} (hv : Valid t) (hm : Go.Ax.Rt.Modest t) {a b : zAY} (ha : StrS t 0 a) (hb : StrS t 1 b) : OddsG t (zAp t a b) :=
 zOs hv hm.len (zNh hv hm ha.str hb.str) (fun i hi hk => by unfold zAp zC0; rw [if_pos hk]) (fun i hi hk => by unfold zAp zC0; rw [if_neg (by omega), if_neg (by omega)])
theorem zLV (a b : zAY) : zz (.box [zDI a, zDI b]) := by
 intro i j _ hj
 have hj : j < 2 := hj
 match j, hj with
 | 0, _ => rfl
 | 1, _ => rfl
theorem zKY (t : zT) (a b : zAY) (hT : ShortT t) (hv : Valid t) (hm : Go.Ax.Rt.Modest t) (ha : StrS t 0 a) (hb : StrS t 1 b) :
   zV Tryz.prog 81 [.ro (zc t) 0 t.length, .ro (zAP a) 0 a.length, .ro (zAP b) 0 b.length] (.ro (qsC (zY t (zAp t a b))) 0 t.length) := by
 have h1 := zLp t (zAp t a b) 141 [.rp (.box [zDI a, zDI b]) 0 0] rfl rfl hT hv (playS_G hv hm ha hb) (fun i hi hk => by
   have hp := zCz hv hi hk
   rcases hp with hp | hp
   · obtain ⟨c, c1, c2, c3⟩ := ha.node hv hi hk hp
     have := zKw (t.getD i node0) a b (.inl hp) c (by rw [if_pos hp]; exact c1) c2
     have e : zAp t a b i = some (c.odds.map zAU) := by unfold zAp zC0; rw [if_neg (by omega), if_pos hk, if_pos hp, c3]
     rw [e]; exact this
   · obtain ⟨c, c1, c2, c3⟩ := hb.node hv hi hk hp
     have := zKw (t.getD i node0) a b (.inr hp) c (by rw [if_neg (by omega)]; exact c1) c2
     have e : zAp t a b i = some (c.odds.map zAU) := by unfold zAp zC0; rw [if_neg (by omega), if_pos hk, if_neg (by omega), c3]
     rw [e]; exact this)
 have ca := ha.call
 have cb := hb.call
 refine zM.value0 (zG (P := Tryz.prog) (fn := Tryz.f81) rfl rfl (by kernel_rfl) rfl (fun c hR hfix => ?_)) (fix := fun _ => False) (fun _ h => h) rfl rfl
 refine rn0 ?_
 refine zD rfl rfl rfl ca ?_
 repeat (refine zB (zH rfl) ?_)
 refine zD rfl rfl rfl cb ?_
 skip
 refine zB (q_buildM rfl rfl rfl rfl rfl rfl) ?_
 skip
 refine zKg rfl rfl rfl ?_
 skip
 refine zR (c' := .box [zDI a, zDI b]) rfl rfl rfl rfl rfl Nat.zero_lt_one rfl rfl (fun i' j' hi' hj' => ?_) ?_
 · rw [if_pos (Nat.lt_one_iff.1 hi')]; rfl
 repeat (first | refine zC ?_ | refine zA ?_ | refine zX ?_)
 refine zCg [some ⟨219, .box [zDI a, zDI b]⟩] rfl ?_
 refine ax_fzOne (o := ⟨219, .box [zDI a, zDI b]⟩) (v := .ptr 0 0 0) 7 [(0, .ro (zc t) 0 t.length)] (.rp (.box [zDI a, zDI b]) 0 0) (zLV a b) rfl rfl (fun o ho => by simp at ho; subst ho; exact Nat.zero_lt_one) rfl ⟨rfl, rfl, trivial⟩ ⟨rfl, trivial⟩ rfl (by rw [hfix]; exact fun h hh => hh) ?_
 repeat (first | refine zB (zH rfl) ?_ | refine zJ rfl ?_ | refine zB (zHu rfl) ?_)
 refine zD rfl rfl rfl h1 ?_
 refine rn0 ?_
 exact zI hR rfl rfl
theorem rof_ok (t : zT) (a b : zAY) (hT : ShortT t) (hv : Valid t) (hm : Go.Ax.Rt.Modest t) (ha : StrS t 0 a) (hb : StrS t 1 b) :
   zV Tryz.prog 77 [.ro (zc t) 0 t.length, .ro (zAP a) 0 a.length, .ro (zAP b) 0 b.length] (qA (zAb t (zAp t a b))) := by
 have h1 := zKY t a b hT hv hm ha hb
 have hml := hm.len
 have h2 := zNy t (by omega)
 have hel := zGY t t.length
 have hw := zNh hv hm ha.str hb.str
 have hrl : (zY t (zAp t a b)).length = t.length := zCd t _ _
 refine zM.value0 (zG (P := Tryz.prog) (fn := Tryz.f77) rfl rfl (by kernel_rfl) rfl (fun c hR hfix => ?_)) (fix := fun _ => False) (fun _ h => h) rfl rfl
 refine rn4 ?_
 refine zD rfl rfl rfl h1 ?_
 refine rn0 ?_
 refine zD rfl rfl rfl zHY ?_
 repeat (refine zBH rfl rfl rfl ?_)
 refine zR (c' := .box (zAD 0)) rfl rfl rfl rfl rfl Nat.zero_lt_one rfl rfl (fun i' j' hi' hj' => ?_) ?_
 · rw [if_pos (Nat.lt_one_iff.1 hi')]; rfl
 refine rn0 ?_
 refine zD rfl rfl rfl h2 ?_
 refine rn3 ?_
 have hEl : (zAq t t.length).length = (z6 t).length := by rw [zIJ, List.length_map]
 refine zk (ι := Nat) (fun k => [(0, .ro (zc t) 0 t.length), (6, .ptr 0 0 0), (7, .ro (qsC (zY t (zAp t a b))) 0 t.length), (8, .ptr 1 0 0), (17, .ro (.ints .i64 (zAq t t.length)) 0 (zAq t t.length).length), (18, .int .i64 ((zAq t t.length).length : Nat)), (19, .int .i64 (k : Nat))]) (fun k => [some ⟨122, .box [.bool false, .nil, .nil]⟩, some ⟨122, .box (zAD (zJa t (zAp t a b) k))⟩])
   (fun k => k ≤ (zAq t t.length).length) (fun k => (zAq t t.length).length - k) 0 ⟨⟨rfl, rfl, rfl, rfl, rfl, rfl, rfl, trivial⟩, rfl, Nat.zero_le _⟩ ?_
 intro k hk
 refine rn4 ?_
 refine zF rfl (fun h => ?_) (fun h => ?_)
 · have hk' : k < (z6 t).length := by omega
   have hi0 := zKT t hk'
   obtain ⟨i1, i2⟩ := zCw (zAj (l := z6 t) 0 hk')
   have hsuc := zPs t (zAp t a b) hk'
   have hpay := zIC hv i1 i2
   have hpl := (hT.node _ (zAj node0 i1)).pay
   have cp := zDX (t.getD ((z6 t).getD k 0) node0).pay hpl hpay
   have dr := zE5 hv hw hml i1
   have dp := (hm.pays hv).dig _ i1 i2
   have hsum : D (1 + k * 494) (zJa t (zAp t a b) k) := by
     unfold zJa
     refine (sumQ_Dk (k := 493) (l := ((z6 t).take k).map (zEn t (zY t (zAp t a b)))) (fun q hq => ?_) (j := 1) (acc := 0) ⟨by decide, by decide⟩).mono ?_
     · obtain ⟨x, hx, rfl⟩ := List.mem_map.1 hq
       obtain ⟨x1, x2⟩ := zCw (List.mem_of_mem_take hx)
       exact ((zE5 hv hw hml x1).mul ((hm.pays hv).dig _ x1 x2)).mono (by decide)
     · rw [List.length_map, List.length_take]
       have : min k (z6 t).length * 494 ≤ k * 494 := Nat.mul_le_mul_right _ (Nat.min_le_left _ _)
       omega
   have cm := zLR _ _ (zF5 (dr.mono (show 12 * 40 + 1 ≤ 9 * 100000 by decide))) (zF5 (dp.mono (by decide)))
   have hend : zEn t (zY t (zAp t a b)) ((z6 t).getD k 0) = (zY t (zAp t a b)).getD ((z6 t).getD k 0) 0 * zAU (t.getD ((z6 t).getD k 0) node0).pay := rfl
   have cm : zV Tryz.prog 105 [qA ((zY t (zAp t a b)).getD ((z6 t).getD k 0) 0), qA (zAU (t.getD ((z6 t).getD k 0) node0).pay)] (qA (zEn t (zY t (zAp t a b)) ((z6 t).getD k 0))) := cm
   have ca := zIw (zJa t (zAp t a b) k) (zEn t (zY t (zAp t a b)) ((z6 t).getD k 0)) (zF5 (hsum.mono (by omega))) (by
     rw [hend]; exact zF5 ((dr.mul dp).mono (by decide)))
   rw [← hsuc] at ca
   have hdk : k < (zAq t t.length).length := by omega
   generalize hV2 : zJa t (zAp t a b) (k + 1) = V2 at *
   generalize zJa t (zAp t a b) k = V at *
   generalize hE : zEn t (zY t (zAp t a b)) ((z6 t).getD k 0) = E at *
   generalize (z6 t).getD k 0 = i at *
   repeat (first | refine zA ?_ | refine zX ?_ | refine zAB ?_ | refine zl ?_)
   refine zJ rfl ?_
   repeat (first | refine zB (zK rfl) ?_ | refine zB (zA8 rfl rfl rfl) ?_ | refine zC ?_ | refine zA ?_ | refine zB (zi rfl rfl rfl rfl (by first | (simp only [Nat.zero_add, Int.toNat_natCast, Int.toNat_zero]; exact rfl) | exact rfl) (by omega)) ?_)
   refine zAd 10 (.int .i64 (i : Nat)) rfl (AEq.of_eq (by rw [← hi0])) ?_
   skip
   refine zm (by kernel_rfl) ?_
   refine z7 (fuel := 1) [0, 1, 2, 3, 4, 5, 6, 7, 8, 9, 10, 11, 12] [(10, .int .i64 (i : Nat)), (0, .ro (zc t) 0 t.length), (6, .ptr 0 0 0), (7, .ro (qsC (zY t (zAp t a b))) 0 t.length), (8, .ptr 1 0 0), (17, .ro (.ints .i64 (zAq t t.length)) 0 (zAq t t.length).length), (18, .int .i64 ((zAq t t.length).length : Nat)), (19, .int .i64 (k : Nat))] ⟨rfl, rfl, rfl, rfl, rfl, rfl, rfl, rfl, trivial⟩ (by kernel_rfl) (by decide) rfl rfl ?_
   refine zW rfl rfl (zr rfl rfl rfl rfl rfl rfl rfl (by first | exact Nat.zero_lt_one | assumption | omega)) ?_
   refine zW rfl rfl (zH rfl) ?_
   refine zW rfl rfl (zH rfl) ?_
   refine zW rfl rfl (zi rfl rfl rfl rfl (by first | (simp only [Nat.zero_add, Int.toNat_natCast, Int.toNat_zero]; exact rfl) | exact rfl) (by omega)) ?_
   refine zW rfl rfl (zCU rfl rfl rfl rfl rfl rfl) ?_
   refine zW rfl rfl (zH rfl) ?_
   refine zW rfl rfl (zH rfl) ?_
   refine zW rfl rfl (zi rfl rfl rfl rfl (by first | (simp only [Nat.zero_add, Int.toNat_natCast, Int.toNat_zero]; exact rfl) | exact rfl) (by omega)) ?_
   refine zW rfl rfl (zBA rfl rfl rfl rfl rfl rfl) ?_
   refine zW rfl rfl (zCJ rfl rfl rfl rfl) ?_
   refine zCS rfl rfl rfl rfl rfl cp ?_
   refine zCS rfl rfl rfl rfl rfl cm ?_
   refine zCS rfl rfl rfl rfl rfl ca ?_
   refine zAg ?_
   refine zE (is := [13]) (by kernel_rfl) (by simp) rfl ⟨fun o ho => ?_, trivial⟩
   all_goals (cases ho)
   unfold qA
   refine zR (c' := .box (zAD V2)) rfl rfl rfl rfl rfl Nat.zero_lt_one rfl rfl (fun i' j' hi' hj' => ?_) ?_
   · rw [if_pos (Nat.lt_one_iff.1 hi')]; rfl
   refine rn1 ?_
   refine zh (by kernel_rfl) ?_
   refine rn5 ?_
   exact zO ⟨k + 1, by omega, by omega, ⟨rfl, rfl, rfl, rfl, rfl, rfl, rfl, trivial⟩, by rw [hV2]; rfl⟩
 · have hie : k = (zAq t t.length).length := by omega
   subst hie
   rw [hEl, valK_all]
   refine rn6 ?_
   refine zR (c' := .box (zAD (zAb t (zAp t a b)))) rfl rfl rfl rfl rfl Nat.zero_lt_one rfl rfl (fun i' j' hi' hj' => ?_) ?_
   · rw [if_pos (Nat.lt_one_iff.1 hi')]; rfl
   refine rn0 ?_
   exact zI hR rfl rfl
end Go.Proofs.YtnkealfaldjipaaGreatDoor
namespace Go.Proofs.YtnkealfaldjipaaGreatDoor
open Go.Ax Go.Ax.Bg Go.Ax.Rt Go.RowKit Go.Ax.Idx Go.Ax.Cd
attribute [local irreducible] Ax zAL QOp zM zo
set_option maxRecDepth 100000
set_option maxHeartbeats 4000000
def zDj (t : zT) (a b : zAY) : Int := if zFk t ≠ 0 then zFk t else if zB7 t 0 a ≠ 0 then zB7 t 0 a else zB7 t 1 b
theorem zGS {t : zT} {a b : zAY} (h : zDj t a b = 0) : Valid t ∧ zB7 t 0 a = 0 ∧ zB7 t 1 b = 0 := by
 unfold zDj at h
 by_cases h1 : zFk t ≠ 0
 · rw [if_pos h1] at h; exact absurd h h1
 · rw [if_neg h1] at h
   by_cases h2 : zB7 t 0 a ≠ 0
   · rw [if_pos h2] at h; exact absurd h h2
   · rw [if_neg h2] at h
     exact ⟨zJU (Classical.not_not.1 h1), Classical.not_not.1 h2, h⟩
theorem zG9 (t : zT) (a b : zAY) (hT : ShortT t) (ha : ShortS a) (hb : ShortS b) : zV Tryz.prog 63 [.ro (zc t) 0 t.length, .ro (zAP a) 0 a.length, .ro (zAP b) 0 b.length] (.int .i64 (zDj t a b)) := by
 have c1 := zKz t hT
 have c2 := zGP t 0 a hT.len ha
 have c3 := zGP t 1 b hT.len hb
 refine zM.value0 (zG (P := Tryz.prog) (fn := Tryz.f63) rfl rfl (by kernel_rfl) rfl (fun c hR hfix => ?_)) (fix := fun _ => False) (fun _ h => h) rfl rfl
 unfold zDj at hR
 generalize zFk t = e1 at *
 generalize zB7 t 0 a = e2 at *
 generalize zB7 t 1 b = e3 at *
 refine rn0 ?_
 refine zD rfl rfl rfl c1 ?_
 refine rn3 ?_
 refine zF rfl (fun h1 => ?_) (fun h1 => ?_)
 · rw [if_pos h1] at hR
   refine rn2 ?_
   exact zI hR rfl rfl
 rw [if_neg h1] at hR
 refine rn1 ?_
 refine zD rfl rfl rfl c2 ?_
 refine rn3 ?_
 refine zF rfl (fun h2 => ?_) (fun h2 => ?_)
 · rw [if_pos h2] at hR
   refine rn2 ?_
   exact zI hR rfl rfl
 rw [if_neg h2] at hR
 refine rn1 ?_
 refine zD rfl rfl rfl c3 ?_
 refine rn0 ?_
 exact zI hR rfl rfl
/-- few nodes, short texts -/
structure Small (t : zT) (a : List zAY) : Prop where
 sh : ShortT t
 m : Go.Ax.Rt.Modest t
 s : ∀ x ∈ a, ShortS x
 d : ∀ x ∈ a, ∀ c ∈ x, ∀ r ∈ c.odds, r.length ≤ 12
theorem Small.str {t : zT} {l : List zAY} (h : Small t l) {s : zAY} (hs : s ∈ l) {p : Int} (he : zB7 t p s = 0) : StrS t p s := ⟨h.s s hs, zM0 he, h.d s hs⟩
def zEr (t : zT) (a b : zAY) : zAK × Int := if zDj t a b ≠ 0 then ([], zDj t a b) else zDk (zAb t (zAp t a b))
def zHO (t : zT) (a b : zAY) : List zAK × Int := if zDj t a b ≠ 0 then ([], zDj t a b) else zBC (zY t (zAp t a b))
theorem zKX (t : zT) (a b : zAY) (h : Small t [a, b]) : zV Tryz.prog 19 [.ro (zc t) 0 t.length, .ro (zAP a) 0 a.length, .ro (zAP b) 0 b.length] (zHM (zEr t a b)) := by
 have c1 := zG9 t a b h.sh (h.s a (by simp)) (h.s b (by simp))
 refine zM.value0 (zG (P := Tryz.prog) (fn := Tryz.f19) rfl rfl (by kernel_rfl) rfl (fun c hR hfix => ?_)) (fix := fun _ => False) (fun _ h => h) rfl rfl
 unfold zEr at hR
 refine rn0 ?_
 refine zD rfl rfl rfl c1 ?_
 refine rn3 ?_
 refine zF rfl (fun h1 => ?_) (fun h1 => ?_)
 · rw [if_pos h1] at hR
   refine rn2 ?_
   exact zI hR rfl rfl
 rw [if_neg h1] at hR
 obtain ⟨hv, ea, eb⟩ := zGS (Classical.not_not.1 h1)
 have sa := h.str (s := a) (by simp) ea
 have sb := h.str (s := b) (by simp) eb
 have c2 := rof_ok t a b h.sh hv h.m sa sb
 have c3 := zNc (zAb t (zAp t a b)) (zF5 ((zI4 hv (zF6 hv h.m sa.str sb.str) h.m.len (h.m.pays hv)).mono (show 974 ≤ 9 * 100000 by decide)))
 generalize zAb t (zAp t a b) = q at *
 refine rn1 ?_
 refine zD rfl rfl rfl c2 ?_
 skip
 refine zD rfl rfl rfl c3 ?_
 refine rn2 ?_
 exact zI hR rfl rfl
theorem rodds_ok (t : zT) (a b : zAY) (h : Small t [a, b]) : zV Tryz.prog 21 [.ro (zc t) 0 t.length, .ro (zAP a) 0 a.length, .ro (zAP b) 0 b.length] (vecP (zHO t a b)) := by
 have c1 := zG9 t a b h.sh (h.s a (by simp)) (h.s b (by simp))
 refine zM.value0 (zG (P := Tryz.prog) (fn := Tryz.f21) rfl rfl (by kernel_rfl) rfl (fun c hR hfix => ?_)) (fix := fun _ => False) (fun _ h => h) rfl rfl
 unfold zHO at hR
 refine rn0 ?_
 refine zD rfl rfl rfl c1 ?_
 refine rn3 ?_
 refine zF rfl (fun h1 => ?_) (fun h1 => ?_)
 · rw [if_pos h1] at hR
   repeat (first | refine zB (zH rfl) ?_ | refine zB (zK rfl) ?_ | refine zC ?_ | refine zA ?_ | refine zX ?_ | refine zJ rfl ?_)
   refine zAd 6 (.ro (.strs []) 0 0) rfl AEq.nil ?_
   refine rn2 ?_
   exact zI hR rfl rfl
 rw [if_neg h1] at hR
 obtain ⟨hv, ea, eb⟩ := zGS (Classical.not_not.1 h1)
 have sa := h.str (s := a) (by simp) ea
 have sb := h.str (s := b) (by simp) eb
 have hml := h.m.len
 have c2 := zKY t a b h.sh hv h.m sa sb
 have hrl : (zY t (zAp t a b)).length = t.length := zCd t _ _
 obtain ⟨r, c3, hrq⟩ := zPi (zY t (zAp t a b)) (by omega) (fun q hq => by
   obtain ⟨i, hi, rfl⟩ := List.getElem_of_mem hq
   have := zE5 hv (zNh hv h.m sa.str sb.str) hml (j := i) (by omega)
   have e : (zY t (zAp t a b)).getD i 0 = (zY t (zAp t a b))[i] := zAk 0 hi
   rw [← e]
   exact zF5 (this.mono (by decide)))
 rw [hrl] at c3
 generalize zY t (zAp t a b) = R at *
 refine rn1 ?_
 refine zD rfl rfl rfl c2 ?_
 skip
 refine zD rfl rfl rfl c3 ?_
 repeat (first | refine zB (zK rfl) ?_ | refine zC ?_ | refine zA ?_ | refine zB (zCV rfl rfl) ?_)
 refine zAd 6 (.ro (.strs (zBC R).1) 0 (zBC R).1.length) rfl hrq ?_
 repeat (refine zAG ?_)
 exact zI hR rfl rfl
end Go.Proofs.YtnkealfaldjipaaGreatDoor
namespace Go.Ax
variable [Pins]
open Go.RowKit
/-- What a memory and a value become, once the objects of HF are only read. -/
structure Fzd (HF H0 H' : zQ) (r0 r' : AV) : Prop where
 sub : subH HF H0
 rl : ∀ (h : Nat) (o : AObj), HF[h]? = some (some o) → zz o.c
 len : H'.length = H0.length
 new : ∀ (h : Nat) (o' : AObj), H'[h]? = some (some o') → (∀ o : AObj, HF[h]? ≠ some (some o)) ∧ ∃ o : AObj, H0[h]? = some (some o) ∧ o'.ty = o.ty ∧ o'.c.len = o.c.len ∧ o'.c.kd = o.c.kd ∧ ∀ i j, i < o.c.len → j < o.c.sz → FzTo HF (o.c.at i j) (o'.c.at i j)
 res : FzTo HF r0 r'
theorem zM.freeze0 {P : Program} {f : FuncId} {args : List AV} {K K' : AV → zQ → Prop} (hc : zM P f args [] (fun _ => False) K)
   (hK : ∀ r0 H0, K r0 H0 → ∃ HF H' r', Fzd HF H0 H' r0 r' ∧ K' r' H') : zM P f args [] (fun _ => False) K' := by
 refine ⟨hc.1, fun w σ0 S vals hp hrep hf hv => ?_⟩
 refine (hc.2 w σ0 S vals hp hrep hf hv).mono ?_
 rintro e w' ⟨v, r0, σ, S0, H0, rfl, g1, g2, g3, g4⟩
 obtain ⟨HF, H', r', ⟨hsub, hrl, hlen, hH, hres⟩, hk'⟩ := hK r0 H0 g4
 have hlive : zJK w' S0 σ HF := fun h o ho => g1.live h o (hsub h o ho)
 let S' : Nat → Prop := fun b => S0 b ∨ ∃ h o s C, HF[h]? = some (some o) ∧ σ h = some (.at b s C)
 have hup : ∀ {σ1 : Nat → Option Blk} {x v}, VR w' S0 σ1 x v → VR w' S' σ1 x v := fun h => h.mono (fun _ h => .inl h) (fun _ _ => rfl) _ (fun _ _ h => h)
 have hfz : ∀ {x y v}, FzTo HF x y → VR w' S0 σ x v → VR w' S' σ y v := by
   intro x y v h hv
   rcases h with rfl | rfl | ⟨rfl, hin⟩
   · exact hup hv
   · exact .any _ _
   · exact VR.freeze hlive hrl (fun _ h => .inl h) (fun h o b s C h1 h2 => .inr ⟨h, o, s, C, h1, h2⟩) hv σ hin
 refine ⟨v, r', σ, S', H', rfl, ⟨fun h o' ho' => ?_, fun h1 h2 o1 o2 b s C s' C' q1 q2 e1 e2 => ?_, fun b hb => ?_, fun h hl => g1.dom h (by omega)⟩, hfz hres g2, ⟨g3.os, g3.output, g3.tape, g3.size, g3.block, fun b hb => .inl (g3.S1 b hb), fun b hb => ?_, fun _ h => h.elim, fun _ h => h.elim, fun h o b s C q e => ?_⟩, hk'⟩
 · obtain ⟨hno, o, h1, h2, h3, h4, h5⟩ := hH h o' ho'
   rw [h3, zMu h4]
   rcases g1.live h o h1 with g | ⟨b, C, cur, q1, q2, q3, q4, q5, q6, q7⟩
   · exact .inl g
   · refine .inr ⟨b, C, cur, q1, (q2.mono rfl hup).kd h2 h4, q3, q4, q5, ?_, fun i j hi hj => ?_⟩
     · rintro (hs | ⟨h', o2, s2, C2, u1, u2⟩)
       · exact q6 hs
       · have := g1.dist h h' o o2 b _ C s2 C2 h1 (hsub h' o2 u1) q1 u2
         subst this
         exact hno o2 u1
     · obtain ⟨v, e1, e2, e3⟩ := q7 i j hi hj
       exact ⟨v, e1, hfz (h5 i j hi hj) e2, e3⟩
 · obtain ⟨_, p, p1, _⟩ := hH h1 o1 q1
   obtain ⟨_, p', p1', _⟩ := hH h2 o2 q2
   exact g1.dist h1 h2 p p' b s C s' C' p1 p1' e1 e2
 · rcases hb with hs | ⟨h, o, s, C, q1, q2⟩
   · exact g1.small b hs
   · rcases g1.live h o (hsub h o q1) with ⟨gn, _⟩ | ⟨b', C', cur, hσ, g, _⟩
     · rw [q2] at gn; cases gn
     · rw [q2] at hσ
       simp only [Option.some.injEq, Blk.at.injEq] at hσ
       rw [hσ.1]
       exact g.lt
 · rcases hb with hs | ⟨h, o, s, C, q1, q2⟩
   · exact g3.S2 b hs
   · rcases g3.own h o b s C (hsub h o q1) q2 with g | g
     · exact .inr (.inl g)
     · exact .inr (.inr g)
 · obtain ⟨_, p, p1, _⟩ := hH h o q
   exact g3.own h p b s C p1 e
end Go.Ax
namespace Go.Ax.Rt
open Go.Ax.Bg
structure Fin2 (B M : Nat) (q : Rat) : Prop where
 dv : Dv B q
 le : q ≤ (M : Rat)
 ge : -q ≤ (M : Rat)
theorem zFO {M N : Nat} (h : M ≤ N) : (M : Rat) ≤ (N : Rat) := by
 have h1 : ((M : Int) : Rat) ≤ ((N : Int) : Rat) := Rat.intCast_le_intCast.2 (by omega)
 rwa [Rat.intCast_natCast, Rat.intCast_natCast] at h1
theorem Fin2.mono {B M N : Nat} {q : Rat} (h : Fin2 B M q) (hm : M ≤ N) : Fin2 B N q :=
 ⟨h.dv, Rat.le_trans h.le (zFO hm), Rat.le_trans h.ge (zFO hm)⟩
theorem Fin2.zero (B M : Nat) : Fin2 B M 0 := by
 have h : (0 : Rat) ≤ (M : Rat) := zFO (Nat.zero_le M)
 exact ⟨Dv.zero B, h, by rw [Rat.neg_zero]; exact h⟩
theorem Fin2.add {B M N : Nat} {a b : Rat} (ha : Fin2 B M a) (hb : Fin2 B N b) : Fin2 B (M + N) (a + b) := by
 refine ⟨ha.dv.add hb.dv, ?_, ?_⟩
 · rw [Rat.natCast_add]
   exact Rat.le_trans ((Rat.add_le_add_right (c := b)).2 ha.le) ((Rat.add_le_add_left (c := (M : Rat))).2 hb.le)
 · rw [Rat.natCast_add, Rat.neg_add]
   exact Rat.le_trans ((Rat.add_le_add_right (c := -b)).2 ha.ge) ((Rat.add_le_add_left (c := (M : Rat))).2 hb.ge)
theorem Dv.neg {B : Nat} {q : Rat} (h : Dv B q) : Dv B (-q) := by
 obtain ⟨z, hz⟩ := h
 exact ⟨-z, by rw [Rat.neg_mul, hz, Rat.intCast_neg]⟩
theorem Fin2.neg {B M : Nat} {q : Rat} (h : Fin2 B M q) : Fin2 B M (-q) := ⟨h.dv.neg, h.ge, by rw [Rat.neg_neg]; exact h.le⟩
theorem Fin2.D {B M K : Nat} {q : Rat} (h : Fin2 B M q) (hB : B ≠ 0) (hM : M * B < 10 ^ K) (hK : B < 10 ^ K) : D K q := bnd_D h.dv hB h.le h.ge hM hK
def sumB (t : zT) (o : z8) : Nat := Bd o t.length * payB t
theorem sumB_pos (t : zT) (o : z8) : 0 < sumB t o := Nat.mul_pos (zLF o _) (zJ9 t)
theorem endG_fin {t : zT} (h : Valid t) {o : z8} {d e : Nat} (ho : OddsW t o d) (hp : Pays t e) {p : Int} {i : Nat} (hi : i < t.length) (hk : (t.getD i node0).kind = 0) : Fin2 (sumB t o) (10 ^ e) (endG t p (zY t o) i) := by
 obtain ⟨g1, g2, g3⟩ := zOq h ho i hi
 have h6 := zG7 o (i := i) (t.length - i)
 rw [show i + (t.length - i) = t.length by omega] at h6
 obtain ⟨p1, p2⟩ := D_le (hp.dig i hi hk)
 have key : ∀ x : Rat, x ≤ ((10 ^ e : Nat) : Rat) → (zY t o).getD i 0 * x ≤ ((10 ^ e : Nat) : Rat) := by
   intro x hx
   have h0 : (0 : Rat) ≤ ((10 ^ e : Nat) : Rat) := zFO (Nat.zero_le _)
   have h1 := Rat.mul_le_mul_of_nonneg_left hx g2
   have h2 := Rat.mul_le_mul_of_nonneg_right g3 h0
   rw [Rat.one_mul] at h2
   exact Rat.le_trans h1 h2
 have hf : Fin2 (sumB t o) (10 ^ e) (zEn t (zY t o) i) := by
   refine ⟨(g1.mono h6).mul (Dv.of_den.mono (zLu hi hk)), key _ p1, ?_⟩
   unfold zEn
   rw [← Rat.mul_neg]
   exact key _ p2
 unfold endG
 split
 · exact hf.neg
 · exact hf
/-- the sums after k ends -/
def zDZ (t : zT) (p : Int) (o : z8) (k : Nat) : List Rat := zFK (endG t p (zY t o)) (zBm t p) ((z6 t).take k) (List.replicate (ze t p).length 0)
theorem zI7 (t : zT) (p : Int) (o : z8) : zDZ t p o 0 = List.replicate (ze t p).length 0 := by
 unfold zDZ; rw [List.take_zero]; rfl
theorem zKd (t : zT) (p : Int) (o : z8) : zDZ t p o (z6 t).length = zFr t p o := by
 unfold zDZ zFr; rw [List.take_length]
theorem zPk (t : zT) (p : Int) (o : z8) (k : Nat) : (zDZ t p o k).length = (ze t p).length := by
 unfold zDZ; rw [zIK, List.length_replicate]
theorem zJz (t : zT) (p : Int) (o : z8) {k : Nat} (hk : k < (z6 t).length) : zDZ t p o (k + 1) = (zDZ t p o k).set ((zBm t p).getD ((z6 t).getD k 0) 0).toNat ((zDZ t p o k).getD ((zBm t p).getD ((z6 t).getD k 0) 0).toNat 0 + endG t p (zY t o) ((z6 t).getD k 0)) := by
 unfold zDZ
 rw [List.take_succ_eq_append_getElem hk, zKA, zAk 0 hk]
theorem zOE {B M : Nat} {S : List Rat} (hS : ∀ j, Fin2 B M (S.getD j 0)) (x : Nat) {y : Rat} (hy : Fin2 B M y) : ∀ j, Fin2 B M ((S.set x y).getD j 0) := by
 intro j
 rw [Go.Ax.Dt.getD_set]
 split
 · exact hy
 · exact hS j
theorem zHw {t : zT} (h : Valid t) {o : z8} {d e : Nat} (ho : OddsW t o d) (hp : Pays t e) (p : Int) : ∀ k, k ≤ (z6 t).length → ∀ j, Fin2 (sumB t o) (k * 10 ^ e) ((zDZ t p o k).getD j 0)
 | 0, _, j => by
   rw [zI7]
   have : (List.replicate (ze t p).length (0 : Rat)).getD j 0 = 0 := by
     simp only [List.getD, List.getElem?_replicate]
     split <;> rfl
   rw [this]
   exact Fin2.zero _ _
 | k + 1, hk, j => by
   have ih := zHw h ho hp p k (by omega)
   have hk' : k < (z6 t).length := by omega
   obtain ⟨i1, i2⟩ := zCw (zAj (l := z6 t) 0 hk')
   rw [zJz t p o hk']
   have e1 : (k + 1) * 10 ^ e = k * 10 ^ e + 10 ^ e := by rw [Nat.add_mul, Nat.one_mul]
   rw [e1]
   refine zOE (fun j => (ih j).mono (Nat.le_add_right _ _)) _ ?_ j
   exact (ih _).add (endG_fin h ho hp i1 i2)
/-- all sums of a best reply, after a number of steps -/
structure Sums (t : zT) (o : z8) (p : Int) (S : List Rat) (j : Nat) : Prop where
 len : S.length = (ze t p).length
 fin : ∀ k, Fin2 (sumB t o) (41 * 10 ^ 12 * 2 ^ j) (S.getD k 0)
theorem Sums.step {t : zT} {o : z8} {p : Int} {S : List Rat} {j : Nat} (h : Sums t o p S j) (a b : Nat) : Sums t o p (S.set a (S.getD a 0 + S.getD b 0)) (j + 1) := by
 refine ⟨by rw [List.length_set]; exact h.len, ?_⟩
 have e1 : 41 * 10 ^ 12 * 2 ^ (j + 1) = 41 * 10 ^ 12 * 2 ^ j + 41 * 10 ^ 12 * 2 ^ j := by rw [Nat.pow_succ, ← Nat.mul_assoc]; omega
 rw [e1]
 exact zOE (fun k => (h.fin k).mono (Nat.le_add_right _ _)) a ((h.fin a).add (h.fin b))
theorem lt_ten {a b x y n : Nat} (h1 : a ≤ 10 ^ x) (h2 : b ≤ 10 ^ y) (h : x + y < n) : a * b < 10 ^ n := by
 have h12 := Nat.mul_le_mul h1 h2
 rw [← Nat.pow_add] at h12
 exact Nat.lt_of_le_of_lt h12 (Nat.pow_lt_pow_right (by decide) h)
def bigE : Nat := 961
theorem zO3 {t : zT} {o : z8} (ho : OddsW t o 12) (hn : t.length ≤ 40) (hp : Pays t 12) (hv : Valid t) : sumB t o < 10 ^ bigE := by
 have h7 := Bd_w ho t.length (Nat.le_refl _)
 rw [List.take_length] at h7
 have h8 := zJA hv
 exact lt_ten h7 (zOi hp) (by unfold bigE; omega)
def zEx : Nat := 1000
theorem Fin2.short {t : zT} {o : z8} {M : Nat} {q : Rat} (h : Fin2 (sumB t o) M q) (hB : sumB t o < 10 ^ bigE) (hM : M ≤ 10 ^ 39) : Rt.D zEx q := by
 have h0 := sumB_pos t o
 refine h.D (by omega) ?_ (Nat.lt_of_lt_of_le hB (Nat.pow_le_pow_right (by decide) (by decide)))
 refine Nat.lt_of_le_of_lt (Nat.mul_le_mul_right _ hM) ?_
 have := (Nat.mul_lt_mul_left (a := 10 ^ 39) (Nat.pow_pos (by decide))).2 hB
 rw [← Nat.pow_add] at this
 exact Nat.lt_of_lt_of_le this (Nat.pow_le_pow_right (by decide) (by decide))
theorem Sums.short {t : zT} {o : z8} {p : Int} {S : List Rat} {j : Nat} (h : Sums t o p S j) (hB : sumB t o < 10 ^ bigE) (hj : j ≤ 61) (k : Nat) : D zEx (S.getD k 0) := by
 refine (h.fin k).short hB ?_
 have h1 : 2 ^ j ≤ 2 ^ 61 := Nat.pow_le_pow_right (by decide) hj
 exact Nat.le_trans (Nat.mul_le_mul_left _ h1) (by decide)
theorem zMH {t : zT} (h : Valid t) {o : z8} (ho : OddsW t o 12) (hn : t.length ≤ 40) (hp : Pays t 12) (p : Int) {k : Nat} (hk : k ≤ (z6 t).length) (j : Nat) : D zEx ((zDZ t p o k).getD j 0) := by
 have hB := zO3 ho hn hp h
 have he : (z6 t).length ≤ t.length := by
   unfold z6
   refine Nat.le_trans (List.length_filter_le _ _) ?_
   rw [List.length_range]; exact Nat.le_refl _
 refine (zHw h ho hp p k hk j).short hB ?_
 have : k * 10 ^ 12 ≤ 40 * 10 ^ 12 := Nat.mul_le_mul_right _ (by omega)
 exact Nat.le_trans this (by decide)
theorem zNX {t : zT} (h : Valid t) {o : z8} (ho : OddsW t o 12) (hn : t.length ≤ 40) (hp : Pays t 12) (p : Int) : Sums t o p (zFr t p o) 0 := by
 have he : (z6 t).length ≤ t.length := by
   unfold z6
   refine Nat.le_trans (List.length_filter_le _ _) ?_
   rw [List.length_range]; exact Nat.le_refl _
 refine ⟨zH8 t p o, fun k => ?_⟩
 rw [← zKd]
 refine (zHw h ho hp p _ (Nat.le_refl _) k).mono ?_
 rw [Nat.pow_zero, Nat.mul_one]
 exact Nat.mul_le_mul_right _ (by omega)
/-- Where the way back from the last sequence stands. -/
structure Back (t : zT) (p : Int) (o : z8) (e : Nat) (S : List Rat) (C : List (Int × Int)) (j : Nat) : Prop where
 bnd : Bnd t p e
 sums : Sums t o p S j
 few : j + e ≤ (ze t p).length
 cho : Chosen t p e C
 rest : ∃ f, e ≤ f + 1 ∧ zDo (ze t p) f (e, S, C) = zA9 t p o
theorem Back.top {t : zT} (h : Valid t) {o : z8} (ho : OddsW t o 12) (hn : t.length ≤ 40) (hp : Pays t 12) (p : Int) : Back t p o (ze t p).length (zFr t p o) [] 0 :=
 ⟨Bnd.top h p, zNX h ho hn hp p, by omega, Chosen.top h p, _, by omega, rfl⟩
theorem Back.step {t : zT} (hv : Valid t) {p : Int} {o : z8} {e : Nat} {S : List Rat} {C : List (Int × Int)} {j : Nat} (h : Back t p o e S C j) (he : 1 < e) {x : Int × Nat} {b : Nat} (hb : Blk t p e x b) :
   Back t p o x.2 (S.set b (S.getD b 0 + S.getD (zAX S x.2 (zd t p x.1)) 0)) (C ++ [(x.1, ((zAX S x.2 (zd t p x.1) - x.2 : Nat) : Int))]) (j + 1) := by
 obtain ⟨f, f1, f2⟩ := h.rest
 have h1 := hb.fin
 have h2 := hb.w1
 have h3 := h.few
 obtain ⟨q1, _, q3⟩ := zD2 S x.2 (zd t p x.1)
 have q3 := q3 h2
 obtain ⟨f', rfl⟩ : ∃ f', f = f' + 1 := ⟨f - 1, by omega⟩
 rw [zDo, if_pos (show 1 < (e, S, C).1 from he), hb.step] at f2
 exact ⟨hb.bnd, h.sums.step _ _, by omega, hb.chosen hv h.cho (by omega), f', by omega, f2⟩
theorem Back.stop {t : zT} {p : Int} {o : z8} {e : Nat} {S : List Rat} {C : List (Int × Int)} {j : Nat} (h : Back t p o e S C j) (he : ¬ 1 < e) : zA9 t p o = (1, S, C) := by
 obtain ⟨f, f1, f2⟩ := h.rest
 have h1 := h.bnd.one
 obtain rfl : e = 1 := by omega
 rw [← f2]
 cases f with
 | zero => rfl
 | succ f => rw [zDo, if_neg (Nat.lt_irrefl 1)]
end Go.Ax.Rt
namespace Go.Proofs.YtnkealfaldjipaaGreatDoor
open Go.Ax Go.Ax.Bg Go.Ax.Rt Go.RowKit Go.Ax.Idx Go.Ax.Cd
attribute [local irreducible] Ax zAL QOp zM zo
set_option maxRecDepth 100000
set_option maxHeartbeats 4000000
abbrev zCv (t : zT) (p : Int) : AV := .rp (.box [.ro (zIn (ze t p)) 0 (ze t p).length, .ro (.ints .i64 (zBm t p)) 0 t.length]) 0 0
/-- recall.Of, whose result is only read -/
theorem of_ro (t : zT) (p : Int) (hT : ShortT t) (hv : Valid t) : zV Tryz.prog 106 [.ro (zc t) 0 t.length, .int .i64 p] (zCv t p) := by
 have hpl : (zAE t p t.length).pos.length = t.length := zD6 t p _
 refine zM.value (K := fun r H => r = .ptr 2 0 0 ∧ H = [none, none, some ⟨169, .box [.ro (zIn (ze t p)) 0 (ze t p).length, .ro (.ints .i64 (zBm t p)) 0 t.length]⟩, none]) (zM.freeze0 (of_ok t p hT hv) ?_) (fix := fun _ => False) (fun _ h => h) rfl ?_
 · rintro r0 H0 ⟨rfl, rfl⟩
   refine ⟨[some ⟨174, zIn (zAE t p t.length).seqs⟩, some ⟨3, .ints .i64 (zAE t p t.length).pos⟩, none, none], _, _, ⟨?_, ?_, ?_, ?_, .inl rfl⟩, rfl, rfl⟩
   · intro h o ho
     match h, ho with
     | 0, ho => exact ho
     | 1, ho => exact ho
     | 2, ho => simp at ho
     | 3, ho => simp at ho
     | _ + 4, ho => simp at ho
   · intro h o ho
     match h, ho with
     | 0, ho => cases ho; exact zLk _
     | 1, ho => cases ho; exact zAR
     | 2, ho => simp at ho
     | 3, ho => simp at ho
     | _ + 4, ho => simp at ho
   · rfl
   · intro h o ho
     match h, ho with
     | 0, ho => simp at ho
     | 1, ho => simp at ho
     | 2, ho =>
       cases ho
       refine ⟨fun o h => by simp at h, _, rfl, rfl, rfl, rfl, fun i j hi hj => ?_⟩
       have hj : j < 2 := hj
       obtain rfl := Nat.lt_one_iff.1 (show i < 1 from hi)
       match j, hj with
       | 0, _ => exact .inr (.inr ⟨rfl, fun o ho => by cases ho; show 0 + (zAE t p t.length).seqs.length ≤ (zAE t p t.length).seqs.length; omega⟩)
       | 1, _ => exact .inr (.inr ⟨rfl, fun o ho => by cases ho; show 0 + t.length ≤ (zAE t p t.length).pos.length; omega⟩)
     | 3, ho => simp at ho
     | _ + 4, ho => simp at ho
 · rintro r H ⟨rfl, rfl⟩
   refine ⟨rfl, fun o ho => by cases ho; exact Nat.zero_lt_one, fun h o ho => ?_⟩
   match h, ho with
   | 0, ho => simp at ho
   | 1, ho => simp at ho
   | 2, ho =>
     cases ho
     intro i j _ hj
     have hj : j < 2 := hj
     match j, hj with
     | 0, _ => rfl
     | 1, _ => rfl
   | 3, ho => simp at ho
   | _ + 4, ho => simp at ho
theorem zMP (n : TNode) (p : Int) (s : zAY) (c : TChoice) (hc : n.player ≠ p → c ∈ s ∧ c.info = n.info) : zV Tryz.prog 134 [.agg (zBV n), .rp (.box [.int .i64 p]) 0 0, .rp (.box [zDI s]) 0 0] (if n.player = p then .nil else .ro (qsC (c.odds.map zAU)) 0 (c.odds.map zAU).length) := by
 obtain ⟨kd, pl, nf, nx, od, py⟩ := n
 simp only at *
 by_cases hp : pl = p
 · rw [if_pos hp]
   refine zM.value0 (zG (P := Tryz.prog) (fn := Tryz.f134) rfl rfl (by kernel_rfl) rfl (fun c hR hfix => ?_)) (fix := fun _ => False) (fun _ h => h) rfl rfl
   unfold zBV
   simp only
   repeat (first | refine zB (zK rfl) ?_ | refine zC ?_ | refine zA ?_ | refine zX ?_ | refine zJ rfl ?_ | refine zB (zS rfl rfl rfl rfl rfl) ?_ | refine zB (zEj rfl rfl) ?_ | refine zB (zAf rfl rfl rfl rfl) ?_ | refine zB (zP rfl rfl rfl rfl rfl rfl) ?_ | refine zEu rfl rfl ?_)
   rw [decide_eq_true hp]
   refine rn5 ?_
   exact zI hR rfl rfl
 · rw [if_neg hp]
   obtain ⟨h1, h2⟩ := hc hp
   obtain ⟨jj, i1, i2⟩ := zKy h1
   rw [h2] at i1
   refine zM.value0 (zG (P := Tryz.prog) (fn := Tryz.f134) rfl rfl (by kernel_rfl) rfl (fun c hR hfix => ?_)) (fix := fun _ => False) (fun _ h => h) rfl rfl
   unfold zBV
   simp only
   repeat (first | refine zB (zK rfl) ?_ | refine zC ?_ | refine zA ?_ | refine zX ?_ | refine zJ rfl ?_ | refine zB (zS rfl rfl rfl rfl rfl) ?_ | refine zB (zEj rfl rfl) ?_ | refine zB (zAf rfl rfl rfl rfl) ?_ | refine zB (zP rfl rfl rfl rfl rfl rfl) ?_ | refine zEu rfl rfl ?_)
   rw [decide_eq_false hp]
   repeat (first | refine zA ?_ | refine zX ?_ | refine zJ rfl ?_ | refine zAM rfl ?_ | refine zl ?_ | refine zB (zS rfl rfl rfl rfl rfl) ?_ | refine zB (zAf rfl rfl rfl rfl) ?_ | refine zB (zP rfl rfl rfl rfl rfl rfl) ?_)
   refine zB (zBR rfl (.int rfl) rfl rfl rfl rfl (keysC s) jj i1 i2) ?_
   refine rn0 ?_
   exact zI hR rfl rfl
end Go.Proofs.YtnkealfaldjipaaGreatDoor
namespace Go.Proofs.YtnkealfaldjipaaGreatDoor
open Go.Ax Go.Ax.Bg Go.Ax.Rt Go.RowKit Go.Ax.Idx Go.Ax.Cd
attribute [local irreducible] Ax zAL QOp zM zo
set_option maxRecDepth 100000
set_option maxHeartbeats 4000000
def keyB (y : Int × Int) : AV := .int .i64 y.1
def valB (y : Int × Int) : AV := .int .i64 y.2
abbrev choC (C : List (Int × Int)) : Cells := .mp (C.map keyB) (C.map valB)
theorem keysB (C : List (Int × Int)) : ∀ x ∈ C.map keyB, zC1 (.int .i64) x = true := by
 intro x hx
 obtain ⟨e, _, rfl⟩ := List.mem_map.1 hx
 rfl
theorem newB {C : List (Int × Int)} {x : Int} (h : x ∉ C.map Prod.fst) : AV.int .i64 x ∉ C.map keyB := by
 intro hm
 obtain ⟨y, hy, e⟩ := List.mem_map.1 hm
 injection e with e1 e2
 exact h (List.mem_map.2 ⟨y, hy, e2⟩)
def zAu (t : zT) (p : Int) (s : zAY) : z8 := zGq t p (zE9 s)
theorem oneS_G {t : zT} (hv : Valid t) (hm : Go.Ax.Rt.Modest t) {p : Int} (hp : p = 0 ∨ p = 1) {s : zAY} (hs : StrS t (1 - p) s) : OddsG t (zAu t p s) :=
 zOs hv hm.len (one_w hv hm hp hs.str) (fun i hi hk => by unfold zAu zGq; rw [if_pos hk]) (fun i hi hk => by unfold zAu zGq; rw [if_neg (by omega), if_neg (by omega)])
theorem zPW (t : zT) (p : Int) (s : zAY) (hT : ShortT t) (hv : Valid t) (hm : Go.Ax.Rt.Modest t) (hp : p = 0 ∨ p = 1) (hs : StrS t (1 - p) s) :
   zV Tryz.prog 133 [.ro (zc t) 0 t.length, .fn 134 [.rp (.box [.int .i64 p]) 0 0, .rp (.box [zDI s]) 0 0]] (.ro (qsC (zY t (zAu t p s))) 0 t.length) := by
 refine zLp t (zAu t p s) 134 [.rp (.box [.int .i64 p]) 0 0, .rp (.box [zDI s]) 0 0] rfl rfl hT hv (oneS_G hv hm hp hs) (fun i hi hk => ?_)
 have hpl := zCz hv hi hk
 by_cases h : (t.getD i node0).player = p
 · have := zMP (t.getD i node0) p s ch0 (fun q => absurd h q)
   rw [if_pos h] at this
   have e : zAu t p s i = none := by unfold zAu zGq; rw [if_neg (by omega), if_pos hk, if_pos h]
   rw [e]; exact this
 · obtain ⟨c, c1, c2, c3⟩ := hs.node hv hi hk (by omega)
   have := zMP (t.getD i node0) p s c (fun _ => ⟨c1, c2⟩)
   rw [if_neg h] at this
   have e : zAu t p s i = some (c.odds.map zAU) := by unfold zAu zGq; rw [if_neg (by omega), if_pos hk, if_neg h, c3]
   rw [e]; exact this
def zBv (n k : Nat) : List (Option Rat) := (List.range n).map (fun i => if i < k then some 0 else none)
theorem zNM (n k : Nat) : (zBv n k).length = n := by simp [zBv]
theorem zME (n : Nat) : zBv n 0 = List.replicate n none := by
 apply List.ext_getElem (by simp [zBv])
 intro i h1 h2
 simp [zBv]
theorem zNe (n : Nat) : zBv n n = (List.replicate n (0 : Rat)).map some := by
 apply List.ext_getElem (by simp [zBv])
 intro i h1 h2
 have : i < n := by simpa [zBv] using h1
 simp [zBv, this]
theorem zNm {n k : Nat} (hk : k < n) : (zBv n k).set k (some 0) = zBv n (k + 1) := by
 apply List.ext_getElem (by simp [zBv])
 intro i h1 h2
 rw [List.getElem_set]
 by_cases e : k = i
 · subst e; simp [zBv]
 · rw [if_neg e]
   have : (i < k) = (i < k + 1) := propext ⟨fun h => by omega, fun h => by omega⟩
   simp only [zBv, List.getElem_map, List.getElem_range, this]
theorem zLL (s : zAY) : zz (.box [zDI s]) := by
 intro i j _ hj
 obtain rfl : j = 0 := by have hj : j < 1 := hj; omega
 rfl
theorem belowQ0 : ∀ (h : Nat) (o : AObj), ([none, some ⟨122, .box [.bool false, .nil, .nil]⟩] : zQ)[h]? = some (some o) → zA2 2 o.c := by
 intro h o ho
 match h, ho with
 | 0, ho => simp at ho
 | 1, ho =>
   cases ho
   intro i j _ hj
   have hj : j < 3 := hj
   match j, hj with
   | 0, _ => rfl
   | 1, _ => rfl
   | 2, _ => rfl
 | _ + 2, ho => simp at ho
theorem belowQ1 (S : List Rat) : ∀ (h : Nat) (o : AObj), ([none, some ⟨122, .box [.bool false, .nil, .nil]⟩, some ⟨122, qsC S⟩] : zQ)[h]? = some (some o) → zA2 3 o.c := by
 intro h o ho
 match h, ho with
 | 0, ho => simp at ho
 | 1, ho =>
   cases ho
   intro i j _ hj
   have hj : j < 3 := hj
   match j, hj with
   | 0, _ => rfl
   | 1, _ => rfl
   | 2, _ => rfl
 | 2, ho => cases ho; exact zMJ _ _
 | _ + 3, ho => simp at ho
theorem belowQ2 (S : List Rat) (C : List (Int × Int)) : ∀ (h : Nat) (o : AObj), ([none, some ⟨122, .box [.bool false, .nil, .nil]⟩, some ⟨122, qsC S⟩, some ⟨123, choC C⟩] : zQ)[h]? = some (some o) → zA2 4 o.c := by
 intro h o ho
 match h, ho with
 | 0, ho => simp at ho
 | 1, ho =>
   cases ho
   intro i j _ hj
   have hj : j < 3 := hj
   match j, hj with
   | 0, _ => rfl
   | 1, _ => rfl
   | 2, _ => rfl
 | 2, ho => cases ho; exact zMJ _ _
 | 3, ho => cases ho; exact ⟨zBu (fun _ => rfl) C, zBu (fun _ => rfl) C⟩
 | _ + 4, ho => simp at ho
theorem cmp_gt (a b : Rat) : (0 < zGr a b) = (b < a) := by
 apply propext
 unfold zGr
 constructor
 · intro h
   split at h
   · omega
   · split at h
     · omega
     · rename_i h1 h2
       rcases Rat.le_iff_lt_or_eq.1 (Rat.not_lt.1 h1) with q | q
       · exact q
       · exact absurd q.symm h2
 · intro h
   rw [if_neg (Rat.not_lt.2 (Rat.le_of_lt h)), if_neg (fun e => absurd h (by rw [e]; exact Rat.lt_irrefl))]
   omega
theorem zPq (t : zT) (p : Int) (s : zAY) (hT : ShortT t) (hv : Valid t) (hm : Go.Ax.Rt.Modest t) (hp : p = 0 ∨ p = 1) (hs : StrS t (1 - p) s) :
   zV Tryz.prog 73 [.ro (zc t) 0 t.length, .int .i64 p, .ro (zAP s) 0 s.length] (.tup [qA ((zA9 t p (zAu t p s)).2.1.getD 0 0), .rom ((zA9 t p (zAu t p s)).2.2.map keyB) ((zA9 t p (zAu t p s)).2.2.map valB)]) := by
 have c1 := of_ro t p hT hv
 have c2 := hs.call
 have c3 := zPW t p s hT hv hm hp hs
 have hml := hm.len
 have c4 := zNy t (by omega)
 have hfew := zMM hv p
 have hone := (zAm hv p).2.2.1
 have hel := zGY t t.length
 have hEl : (zAq t t.length).length = (z6 t).length := by rw [zIJ, List.length_map]
 have hw := one_w hv hm hp hs.str
 have hpays := hm.pays hv
 have hfew : (ze t p).length ≤ 61 := hfew
 refine zM.value (K := fun r H => r = .tup [qA ((zA9 t p (zAu t p s)).2.1.getD 0 0), .mp 3] ∧ H = [none, some ⟨122, .box (zAD ((zA9 t p (zAu t p s)).2.1.getD 0 0))⟩, some ⟨122, qsC (zA9 t p (zAu t p s)).2.1⟩, some ⟨123, choC (zA9 t p (zAu t p s)).2.2⟩]) (zG (P := Tryz.prog) (fn := Tryz.f73) rfl rfl (by kernel_rfl) rfl (fun c hR hfix => ?_)) (fix := fun _ => False) (fun _ h => h) rfl ?_
 · refine rn6 ?_
   refine zB zHm ?_
   repeat (first | refine zC ?_ | refine zA ?_ | refine zX ?_)
   refine zIN [some ⟨3, .box [.int .i64 p]⟩, none] [none, some ⟨122, .box [.bool false, .nil, .nil]⟩] [(0, .ro (zc t) 0 t.length), (1, .int .i64 p), (2, .ro (zAP s) 0 s.length), (4, .rp (.box [.int .i64 p]) 0 0), (6, .ptr 1 0 0)] ?_ ?_ rfl ?_ ⟨⟨_, rfl, .inl rfl⟩, ⟨_, rfl, .inl rfl⟩, ⟨_, rfl, .inl rfl⟩, ⟨_, rfl, .inr (.inr ⟨rfl, fun o ho => by cases ho; exact Nat.zero_lt_one⟩)⟩, ⟨_, rfl, .inl rfl⟩, trivial⟩ ?_
   · intro h o ho
     match h, ho with
     | 0, ho => exact ho
     | 1, ho => simp at ho
     | _ + 2, ho => simp at ho
   · intro h o ho
     match h, ho with
     | 0, ho => cases ho; exact boxIU _
     | 1, ho => simp at ho
     | _ + 2, ho => simp at ho
   · intro h o ho
     match h, ho with
     | 0, ho => simp at ho
     | 1, ho => cases ho; exact ⟨fun o h => by simp at h, _, rfl, rfl, rfl, rfl, fun i j _ _ => .inl rfl⟩
     | _ + 2, ho => simp at ho
   repeat (first | refine zB (zH rfl) ?_ | refine zJ rfl ?_ | refine zB (zAf rfl rfl rfl rfl) ?_)
   refine zD rfl rfl rfl c1 ?_
   refine rn0 ?_
   refine zD rfl rfl rfl c2 ?_
   skip
   refine zKg rfl rfl rfl ?_
   repeat (first | refine zC ?_ | refine zA ?_ | refine zX ?_ | refine zAh rfl rfl rfl rfl rfl rfl rfl Nat.zero_lt_one ?_)
   refine zCg [none, some ⟨122, .box [.bool false, .nil, .nil]⟩, some ⟨209, .box [zDI s]⟩] rfl ?_
   refine zAd 9 (.ptr 2 0 0) rfl (AEq.of_eq rfl) ?_
   refine zIN [none, none, some ⟨209, .box [zDI s]⟩] [none, some ⟨122, .box [.bool false, .nil, .nil]⟩, none] [(0, .ro (zc t) 0 t.length), (4, .rp (.box [.int .i64 p]) 0 0), (6, .ptr 1 0 0), (8, zCv t p), (9, .rp (.box [zDI s]) 0 0)] ?_ ?_ rfl ?_ ⟨⟨_, rfl, .inl rfl⟩, ⟨_, rfl, .inl rfl⟩, ⟨_, rfl, .inl rfl⟩, ⟨_, rfl, .inl rfl⟩, ⟨_, rfl, .inr (.inr ⟨rfl, fun o ho => by cases ho; exact Nat.zero_lt_one⟩)⟩, trivial⟩ ?_
   · intro h o ho
     match h, ho with
     | 0, ho => simp at ho
     | 1, ho => simp at ho
     | 2, ho => exact ho
     | _ + 3, ho => simp at ho
   · intro h o ho
     match h, ho with
     | 0, ho => simp at ho
     | 1, ho => simp at ho
     | 2, ho => cases ho; exact zLL s
     | _ + 3, ho => simp at ho
   · intro h o ho
     match h, ho with
     | 0, ho => simp at ho
     | 1, ho => cases ho; exact ⟨fun o h => by simp at h, _, rfl, rfl, rfl, rfl, fun i j _ _ => .inl rfl⟩
     | 2, ho => simp at ho
     | _ + 3, ho => simp at ho
   refine zAz [none, some ⟨122, .box [.bool false, .nil, .nil]⟩] [none] [(0, .ro (zc t) 0 t.length), (4, .rp (.box [.int .i64 p]) 0 0), (6, .ptr 1 0 0), (8, zCv t p), (9, .rp (.box [zDI s]) 0 0)] rfl ⟨rfl, rfl, rfl, rfl, rfl, trivial⟩ (fun h hh => by rw [hfix] at hh; exact absurd hh id) belowQ0 rfl ?_
   repeat (first | refine zB (zH rfl) ?_ | refine zJ rfl ?_ | refine zB (zHu rfl) ?_)
   refine zD rfl rfl rfl c3 ?_
   repeat (first | refine zB (zH rfl) ?_ | refine zB (zK rfl) ?_ | refine zC ?_ | refine zA ?_ | refine zX ?_ | refine zJ rfl ?_ | refine zB (zBK rfl rfl rfl) ?_ | refine zB (zAf rfl rfl rfl rfl) ?_ | refine zB (zBi rfl) ?_ | refine zB (zBA rfl rfl rfl rfl rfl rfl) ?_)
   refine zCE rfl rfl rfl rfl rfl rfl rfl rfl (by show (0 : Int) ≤ _ ∧ _ ≤ _ ∧ (56 : Int) * _ ≤ _ ∧ _; omega) ?_
   refine zAx [none, some ⟨122, .box [.bool false, .nil, .nil]⟩, some ⟨122, zsC (zBv (ze t p).length 0)⟩] (by rw [zME]; exact zAJ.same (zAJ.same (zAJ.eqv (zNw _) zAJ.nil))) ?_
   refine rn3 ?_
   refine zk (ι := Nat) (fun k => [(0, .ro (zc t) 0 t.length), (4, .rp (.box [.int .i64 p]) 0 0), (6, .ptr 1 0 0), (8, zCv t p), (10, .ro (qsC (zY t (zAu t p s))) 0 t.length), (11, .sl 2 0 (ze t p).length), (36, .sl 2 0 (ze t p).length), (37, .int .i64 ((ze t p).length : Nat)), (38, .int .i64 (k : Nat))]) (fun k => [none, some ⟨122, .box [.bool false, .nil, .nil]⟩, some ⟨122, zsC (zBv (ze t p).length k)⟩])
     (fun k => k ≤ (ze t p).length) (fun k => (ze t p).length - k) 0 ⟨⟨rfl, rfl, rfl, rfl, rfl, rfl, rfl, rfl, rfl, trivial⟩, rfl, Nat.zero_le _⟩ ?_
   intro k hk
   refine rn4 ?_
   refine zF rfl (fun h => ?_) (fun h => ?_)
   · have hk' : k < (ze t p).length := by omega
     have hzl := zNM (ze t p).length k
     have hzs := zNm hk'
     have hzk : k < (zsC (zBv (ze t p).length k)).len := by show k < (zBv _ _).length; omega
     refine rn1 ?_
     refine zD rfl rfl rfl zHY ?_
     unfold qA
     repeat (refine zB (zZ rfl rfl rfl rfl rfl (by first | (simp only [Nat.zero_add, Int.toNat_natCast, Int.toNat_zero]; exact rfl) | exact rfl) (by omega)) ?_)
     refine zR (c' := zsC ((zBv (ze t p).length k).set k (some 0))) rfl rfl rfl rfl rfl hzk (by show (List.set _ k _).length = _; rw [List.length_set]; rfl) rfl (fun i' j' hi' hj' => zD9 none 3 zB8 _ k (some 0) hzk i' j' hi' hj') ?_
     refine rn5 ?_
     exact zO ⟨k + 1, by omega, by omega, ⟨rfl, rfl, rfl, rfl, rfl, rfl, rfl, rfl, rfl, trivial⟩, by rw [← hzs]; rfl⟩
   have hke : k = (ze t p).length := by omega
   subst hke
   repeat (first | refine zA ?_ | refine zX ?_ | refine zA0 ?_ | refine zx ?_ | refine zw ?_ | refine zAN ?_)
   refine zDy [none, some ⟨122, .box [.bool false, .nil, .nil]⟩, some ⟨122, qsC (zDZ t p (zAu t p s) 0)⟩] (by rw [zNe, zI7]; exact zAJ.same (zAJ.same (zAJ.eqv (zs_map _) zAJ.nil))) ?_
   refine rn0 ?_
   refine zD rfl rfl rfl c4 ?_
   refine rn3 ?_
   refine zk (ι := Nat) (fun k => [(0, .ro (zc t) 0 t.length), (4, .rp (.box [.int .i64 p]) 0 0), (6, .ptr 1 0 0), (8, zCv t p), (10, .ro (qsC (zY t (zAu t p s))) 0 t.length), (11, .sl 2 0 (ze t p).length), (47, .ro (.ints .i64 (zAq t t.length)) 0 (zAq t t.length).length), (48, .int .i64 ((zAq t t.length).length : Nat)), (49, .int .i64 (k : Nat))]) (fun k => [none, some ⟨122, .box [.bool false, .nil, .nil]⟩, some ⟨122, qsC (zDZ t p (zAu t p s) k)⟩])
     (fun k => k ≤ (zAq t t.length).length) (fun k => (zAq t t.length).length - k) 0 ⟨⟨rfl, rfl, rfl, rfl, rfl, rfl, rfl, rfl, rfl, trivial⟩, rfl, Nat.zero_le _⟩ ?_
   intro k hk
   refine rn4 ?_
   refine zF rfl (fun h => ?_) (fun h => ?_)
   · have hk' : k < (z6 t).length := by omega
     have hi0 := zKT t hk'
     obtain ⟨i1, i2⟩ := zCw (zAj (l := z6 t) 0 hk')
     have hsuc := zJz t p (zAu t p s) hk'
     have hSl := zPk t p (zAu t p s) k
     have hsh : ∀ j, D zEx ((zDZ t p (zAu t p s) k).getD j 0) := zMH hv hw hml hpays p (k := k) (by omega)
     have hpay := zIC hv i1 i2
     have hpyl := (hT.node _ (zAj node0 i1)).pay
     have cp := zDX (t.getD ((z6 t).getD k 0) node0).pay hpyl hpay
     have dr := zE5 hv hw hml i1
     have dp := hpays.dig _ i1 i2
     have cm := zLR _ _ (zF5 (dr.mono (show 12 * 40 + 1 ≤ 9 * 100000 by decide))) (zF5 (dp.mono (by decide)))
     have cm : zV Tryz.prog 105 [qA ((zY t (zAu t p s)).getD ((z6 t).getD k 0) 0), qA (zAU (t.getD ((z6 t).getD k 0) node0).pay)] (qA (zEn t (zY t (zAu t p s)) ((z6 t).getD k 0))) := cm
     have dE : D 1000 (zEn t (zY t (zAu t p s)) ((z6 t).getD k 0)) := (dr.mul dp).mono (by decide)
     have hpos := pos_lt hv p i1
     obtain ⟨x, hx⟩ := Int.eq_ofNat_of_zero_le hpos.1
     have hx2 : ((zBm t p).getD ((z6 t).getD k 0) 0).toNat = x := by rw [hx, Int.toNat_natCast]
     rw [hx2] at hpos hsuc
     have hposl : (zBm t p).length = t.length := zD6 t p _
     have hG : endG t p (zY t (zAu t p s)) ((z6 t).getD k 0) = if p = 1 then -(zEn t (zY t (zAu t p s)) ((z6 t).getD k 0)) else zEn t (zY t (zAu t p s)) ((z6 t).getD k 0) := rfl
     rw [hG] at hsuc
     have hdk : k < (zAq t t.length).length := by omega
     have hrl : (zY t (zAu t p s)).length = t.length := zCd t _ _
     have hshx := hsh x
     clear hG hsh dr dp
     generalize hS2 : zDZ t p (zAu t p s) (k + 1) = S2 at *
     generalize zDZ t p (zAu t p s) k = S at *
     generalize zEn t (zY t (zAu t p s)) ((z6 t).getD k 0) = E at *
     generalize (z6 t).getD k 0 = i at *
     repeat (first | refine zA ?_ | refine zX ?_ | refine zAB ?_ | refine zl ?_)
     refine zJ rfl ?_
     repeat (first | refine zB (zK rfl) ?_ | refine zB (zA8 rfl rfl rfl) ?_ | refine zC ?_ | refine zA ?_ | refine zX ?_ | refine zB (zi rfl rfl rfl rfl (by first | (simp only [Nat.zero_add, Int.toNat_natCast, Int.toNat_zero]; exact rfl) | exact rfl) (by omega)) ?_)
     refine zAd 14 (.int .i64 (i : Nat)) rfl (AEq.of_eq (by rw [← hi0])) ?_
     skip
     refine zm (by kernel_rfl) ?_
     apply zCL (H := [none, some ⟨122, .box [.bool false, .nil, .nil]⟩, some ⟨122, qsC S⟩, some ⟨122, .box [.bool false, .nil, .nil]⟩]) [(15, .ptr 3 0 0), (63, qA E), (14, .int .i64 (i : Nat)), (0, .ro (zc t) 0 t.length), (4, .rp (.box [.int .i64 p]) 0 0), (6, .ptr 1 0 0), (8, zCv t p), (10, .ro (qsC (zY t (zAu t p s))) 0 t.length), (11, .sl 2 0 (ze t p).length), (47, .ro (.ints .i64 (zAq t t.length)) 0 (zAq t t.length).length), (48, .int .i64 ((zAq t t.length).length : Nat)), (49, .int .i64 (k : Nat))]
     · intro fin
       refine zN 0 rfl (by kernel_rfl) (by kernel_rfl) (by kernel_rfl) rfl (zH rfl) rfl ?_
       refine zN 1 rfl (by kernel_rfl) (by kernel_rfl) (by kernel_rfl) rfl (zH rfl) rfl ?_
       refine zN 4 rfl (by kernel_rfl) (by kernel_rfl) (by kernel_rfl) rfl (zH rfl) rfl ?_
       refine zN 5 rfl (by kernel_rfl) (by kernel_rfl) (by kernel_rfl) rfl (zH rfl) rfl ?_
       refine zN 2 rfl (by kernel_rfl) (by kernel_rfl) (by kernel_rfl) rfl (zi rfl rfl rfl rfl (by first | (simp only [Nat.zero_add, Int.toNat_natCast, Int.toNat_zero]; exact rfl) | exact rfl) (by omega)) rfl ?_
       refine zN 6 rfl (by kernel_rfl) (by kernel_rfl) (by kernel_rfl) rfl (zi rfl rfl rfl rfl (by first | (simp only [Nat.zero_add, Int.toNat_natCast, Int.toNat_zero]; exact rfl) | exact rfl) (by omega)) rfl ?_
       refine zN 7 rfl (by kernel_rfl) (by kernel_rfl) (by kernel_rfl) rfl (zBA rfl rfl rfl rfl rfl rfl) rfl ?_
       refine zE (is := [3, 8, 11]) (by kernel_rfl) (by simp) rfl ⟨fun o ho => ?_, fun o ho => ?_, fun o ho => ?_, trivial⟩
       all_goals (cases ho)
       · refine rn6 ?_
         refine zE (is := [8, 11]) (by kernel_rfl) (by simp) rfl ⟨fun o ho => ?_, fun o ho => ?_, trivial⟩
         all_goals (cases ho)
         · refine rn6 ?_
           refine zE (is := [9, 11]) (by kernel_rfl) (by simp) rfl ⟨fun o ho => ?_, fun o ho => ?_, trivial⟩
           all_goals (cases ho)
           · refine zD rfl rfl rfl cp ?_
             refine rn1 ?_
             refine zE (is := [10, 11]) (by kernel_rfl) (by simp) rfl ⟨fun o ho => ?_, fun o ho => ?_, trivial⟩
             all_goals (cases ho)
             · refine zD rfl rfl rfl cm ?_
               refine rn1 ?_
               refine zE (is := [11]) (by kernel_rfl) (by simp) rfl ⟨fun o ho => ?_, trivial⟩
               all_goals (cases ho)
               refine rn4 ?_
               exact fin _ ⟨rfl, rfl, rfl, rfl, rfl, rfl, rfl, rfl, rfl, rfl, rfl, rfl, trivial⟩
             · refine rn4 ?_
               refine zE (is := [10]) (by kernel_rfl) (by simp) rfl ⟨fun o ho => ?_, trivial⟩
               all_goals (cases ho)
               refine zD rfl rfl rfl cm ?_
               refine rn1 ?_
               exact fin _ ⟨rfl, rfl, rfl, rfl, rfl, rfl, rfl, rfl, rfl, rfl, rfl, rfl, trivial⟩
           · refine rn4 ?_
             refine zE (is := [9]) (by kernel_rfl) (by simp) rfl ⟨fun o ho => ?_, trivial⟩
             all_goals (cases ho)
             refine zD rfl rfl rfl cp ?_
             refine rn1 ?_
             refine zE (is := [10]) (by kernel_rfl) (by simp) rfl ⟨fun o ho => ?_, trivial⟩
             all_goals (cases ho)
             refine zD rfl rfl rfl cm ?_
             refine rn1 ?_
             exact fin _ ⟨rfl, rfl, rfl, rfl, rfl, rfl, rfl, rfl, rfl, rfl, rfl, rfl, trivial⟩
         · refine rn4 ?_
           refine zE (is := [8]) (by kernel_rfl) (by simp) rfl ⟨fun o ho => ?_, trivial⟩
           all_goals (cases ho)
           refine rn6 ?_
           refine zE (is := [9]) (by kernel_rfl) (by simp) rfl ⟨fun o ho => ?_, trivial⟩
           all_goals (cases ho)
           refine zD rfl rfl rfl cp ?_
           refine rn1 ?_
           refine zE (is := [10]) (by kernel_rfl) (by simp) rfl ⟨fun o ho => ?_, trivial⟩
           all_goals (cases ho)
           refine zD rfl rfl rfl cm ?_
           refine rn1 ?_
           exact fin _ ⟨rfl, rfl, rfl, rfl, rfl, rfl, rfl, rfl, rfl, rfl, rfl, rfl, trivial⟩
       · refine rn6 ?_
         refine zE (is := [3, 9, 11]) (by kernel_rfl) (by simp) rfl ⟨fun o ho => ?_, fun o ho => ?_, fun o ho => ?_, trivial⟩
         all_goals (cases ho)
         · refine rn6 ?_
           refine zE (is := [9, 11]) (by kernel_rfl) (by simp) rfl ⟨fun o ho => ?_, fun o ho => ?_, trivial⟩
           all_goals (cases ho)
           · refine zD rfl rfl rfl cp ?_
             refine rn1 ?_
             refine zE (is := [10, 11]) (by kernel_rfl) (by simp) rfl ⟨fun o ho => ?_, fun o ho => ?_, trivial⟩
             all_goals (cases ho)
             · refine zD rfl rfl rfl cm ?_
               refine rn1 ?_
               refine zE (is := [11]) (by kernel_rfl) (by simp) rfl ⟨fun o ho => ?_, trivial⟩
               all_goals (cases ho)
               refine rn4 ?_
               exact fin _ ⟨rfl, rfl, rfl, rfl, rfl, rfl, rfl, rfl, rfl, rfl, rfl, rfl, trivial⟩
             · refine rn4 ?_
               refine zE (is := [10]) (by kernel_rfl) (by simp) rfl ⟨fun o ho => ?_, trivial⟩
               all_goals (cases ho)
               refine zD rfl rfl rfl cm ?_
               refine rn1 ?_
               exact fin _ ⟨rfl, rfl, rfl, rfl, rfl, rfl, rfl, rfl, rfl, rfl, rfl, rfl, trivial⟩
           · refine rn4 ?_
             refine zE (is := [9]) (by kernel_rfl) (by simp) rfl ⟨fun o ho => ?_, trivial⟩
             all_goals (cases ho)
             refine zD rfl rfl rfl cp ?_
             refine rn1 ?_
             refine zE (is := [10]) (by kernel_rfl) (by simp) rfl ⟨fun o ho => ?_, trivial⟩
             all_goals (cases ho)
             refine zD rfl rfl rfl cm ?_
             refine rn1 ?_
             exact fin _ ⟨rfl, rfl, rfl, rfl, rfl, rfl, rfl, rfl, rfl, rfl, rfl, rfl, trivial⟩
         · refine zD rfl rfl rfl cp ?_
           refine rn1 ?_
           refine zE (is := [3, 11]) (by kernel_rfl) (by simp) rfl ⟨fun o ho => ?_, fun o ho => ?_, trivial⟩
           all_goals (cases ho)
           · refine rn6 ?_
             refine zE (is := [10, 11]) (by kernel_rfl) (by simp) rfl ⟨fun o ho => ?_, fun o ho => ?_, trivial⟩
             all_goals (cases ho)
             · refine zD rfl rfl rfl cm ?_
               refine rn1 ?_
               refine zE (is := [11]) (by kernel_rfl) (by simp) rfl ⟨fun o ho => ?_, trivial⟩
               all_goals (cases ho)
               refine rn4 ?_
               exact fin _ ⟨rfl, rfl, rfl, rfl, rfl, rfl, rfl, rfl, rfl, rfl, rfl, rfl, trivial⟩
             · refine rn4 ?_
               refine zE (is := [10]) (by kernel_rfl) (by simp) rfl ⟨fun o ho => ?_, trivial⟩
               all_goals (cases ho)
               refine zD rfl rfl rfl cm ?_
               refine rn1 ?_
               exact fin _ ⟨rfl, rfl, rfl, rfl, rfl, rfl, rfl, rfl, rfl, rfl, rfl, rfl, trivial⟩
           · refine rn4 ?_
             refine zE (is := [3]) (by kernel_rfl) (by simp) rfl ⟨fun o ho => ?_, trivial⟩
             all_goals (cases ho)
             refine rn6 ?_
             refine zE (is := [10]) (by kernel_rfl) (by simp) rfl ⟨fun o ho => ?_, trivial⟩
             all_goals (cases ho)
             refine zD rfl rfl rfl cm ?_
             refine rn1 ?_
             exact fin _ ⟨rfl, rfl, rfl, rfl, rfl, rfl, rfl, rfl, rfl, rfl, rfl, rfl, trivial⟩
         · refine rn4 ?_
           refine zE (is := [3, 9]) (by kernel_rfl) (by simp) rfl ⟨fun o ho => ?_, fun o ho => ?_, trivial⟩
           all_goals (cases ho)
           · refine rn6 ?_
             refine zE (is := [9]) (by kernel_rfl) (by simp) rfl ⟨fun o ho => ?_, trivial⟩
             all_goals (cases ho)
             refine zD rfl rfl rfl cp ?_
             refine rn1 ?_
             refine zE (is := [10]) (by kernel_rfl) (by simp) rfl ⟨fun o ho => ?_, trivial⟩
             all_goals (cases ho)
             refine zD rfl rfl rfl cm ?_
             refine rn1 ?_
             exact fin _ ⟨rfl, rfl, rfl, rfl, rfl, rfl, rfl, rfl, rfl, rfl, rfl, rfl, trivial⟩
           · refine zD rfl rfl rfl cp ?_
             refine rn1 ?_
             refine zE (is := [3]) (by kernel_rfl) (by simp) rfl ⟨fun o ho => ?_, trivial⟩
             all_goals (cases ho)
             refine rn6 ?_
             refine zE (is := [10]) (by kernel_rfl) (by simp) rfl ⟨fun o ho => ?_, trivial⟩
             all_goals (cases ho)
             refine zD rfl rfl rfl cm ?_
             refine rn1 ?_
             exact fin _ ⟨rfl, rfl, rfl, rfl, rfl, rfl, rfl, rfl, rfl, rfl, rfl, rfl, trivial⟩
       · refine rn4 ?_
         refine zE (is := [3, 8]) (by kernel_rfl) (by simp) rfl ⟨fun o ho => ?_, fun o ho => ?_, trivial⟩
         all_goals (cases ho)
         · refine rn6 ?_
           refine zE (is := [8]) (by kernel_rfl) (by simp) rfl ⟨fun o ho => ?_, trivial⟩
           all_goals (cases ho)
           refine rn6 ?_
           refine zE (is := [9]) (by kernel_rfl) (by simp) rfl ⟨fun o ho => ?_, trivial⟩
           all_goals (cases ho)
           refine zD rfl rfl rfl cp ?_
           refine rn1 ?_
           refine zE (is := [10]) (by kernel_rfl) (by simp) rfl ⟨fun o ho => ?_, trivial⟩
           all_goals (cases ho)
           refine zD rfl rfl rfl cm ?_
           refine rn1 ?_
           exact fin _ ⟨rfl, rfl, rfl, rfl, rfl, rfl, rfl, rfl, rfl, rfl, rfl, rfl, trivial⟩
         · refine rn6 ?_
           refine zE (is := [3, 9]) (by kernel_rfl) (by simp) rfl ⟨fun o ho => ?_, fun o ho => ?_, trivial⟩
           all_goals (cases ho)
           · refine rn6 ?_
             refine zE (is := [9]) (by kernel_rfl) (by simp) rfl ⟨fun o ho => ?_, trivial⟩
             all_goals (cases ho)
             refine zD rfl rfl rfl cp ?_
             refine rn1 ?_
             refine zE (is := [10]) (by kernel_rfl) (by simp) rfl ⟨fun o ho => ?_, trivial⟩
             all_goals (cases ho)
             refine zD rfl rfl rfl cm ?_
             refine rn1 ?_
             exact fin _ ⟨rfl, rfl, rfl, rfl, rfl, rfl, rfl, rfl, rfl, rfl, rfl, rfl, trivial⟩
           · refine zD rfl rfl rfl cp ?_
             refine rn1 ?_
             refine zE (is := [3]) (by kernel_rfl) (by simp) rfl ⟨fun o ho => ?_, trivial⟩
             all_goals (cases ho)
             refine rn6 ?_
             refine zE (is := [10]) (by kernel_rfl) (by simp) rfl ⟨fun o ho => ?_, trivial⟩
             all_goals (cases ho)
             refine zD rfl rfl rfl cm ?_
             refine rn1 ?_
             exact fin _ ⟨rfl, rfl, rfl, rfl, rfl, rfl, rfl, rfl, rfl, rfl, rfl, rfl, trivial⟩
     refine zE (is := [12]) (by kernel_rfl) (by simp) rfl ⟨fun o ho => ?_, trivial⟩
     all_goals (cases ho)
     unfold qA
     refine zR (c' := .box (zAD E)) rfl rfl rfl rfl rfl Nat.zero_lt_one rfl rfl (fun i' j' hi' hj' => ?_) ?_
     · rw [if_pos (Nat.lt_one_iff.1 hi')]; rfl
     refine rn1 ?_
     refine zh (by kernel_rfl) ?_
     repeat (first | refine zC ?_ | refine zA ?_ | refine zX ?_ | refine zJ rfl ?_ | refine zB (zEj rfl rfl) ?_ | refine zB (zAf rfl rfl rfl rfl) ?_)
     apply zAi (H := [none, some ⟨122, .box [.bool false, .nil, .nil]⟩, some ⟨122, qsC S⟩, some ⟨122, .box (zAD (if p = 1 then -E else E))⟩]) [(15, .ptr 3 0 0), (14, .int .i64 (i : Nat)), (0, .ro (zc t) 0 t.length), (4, .rp (.box [.int .i64 p]) 0 0), (6, .ptr 1 0 0), (8, zCv t p), (10, .ro (qsC (zY t (zAu t p s))) 0 t.length), (11, .sl 2 0 (ze t p).length), (47, .ro (.ints .i64 (zAq t t.length)) 0 (zAq t t.length).length), (48, .int .i64 ((zAq t t.length).length : Nat)), (49, .int .i64 (k : Nat))]
     · intro fin
       refine zF rfl (fun hp1 => ?_) (fun hp1 => ?_)
       · rw [if_pos hp1] at fin
         have co := zOB E
         refine rn6 ?_
         refine zD rfl rfl rfl co ?_
         unfold qA
         skip
         refine zR (c' := .box (zAD (-E))) rfl rfl rfl rfl rfl Nat.zero_lt_one rfl rfl (fun i' j' hi' hj' => ?_) ?_
         · rw [if_pos (Nat.lt_one_iff.1 hi')]; rfl
         repeat (first | refine zC ?_ | refine zA ?_)
         exact fin _ ⟨rfl, rfl, rfl, rfl, rfl, rfl, rfl, rfl, rfl, rfl, rfl, trivial⟩
       · rw [if_neg hp1] at fin
         repeat (first | refine zA ?_ | refine zl ?_)
         exact fin _ ⟨rfl, rfl, rfl, rfl, rfl, rfl, rfl, rfl, rfl, rfl, rfl, trivial⟩
     have dG : D 1000 (if p = 1 then -E else E) := by
       split
       · exact dE.neg
       · exact dE
     have ca := zIw (S.getD x 0) (if p = 1 then -E else E) (zF5 (hshx.mono (show zEx ≤ 9 * 100000 by decide))) (zF5 (dG.mono (show 1000 ≤ 9 * 100000 by decide)))
     generalize (if p = 1 then -E else E) = G at *
     have hxS : x < (qsC S).len := by show x < S.length; omega
     generalize hA : S.getD x 0 + G = A at *
     skip
     refine zm (by kernel_rfl) ?_
     refine z7 (fuel := 1) [0, 1, 2, 3, 4, 5, 6, 7, 8, 9, 10, 11, 12, 13, 14, 15, 16, 17, 18, 19, 20] [(15, .ptr 3 0 0), (14, .int .i64 (i : Nat)), (0, .ro (zc t) 0 t.length), (4, .rp (.box [.int .i64 p]) 0 0), (6, .ptr 1 0 0), (8, zCv t p), (10, .ro (qsC (zY t (zAu t p s))) 0 t.length), (11, .sl 2 0 (ze t p).length), (47, .ro (.ints .i64 (zAq t t.length)) 0 (zAq t t.length).length), (48, .int .i64 ((zAq t t.length).length : Nat)), (49, .int .i64 (k : Nat))] ⟨rfl, rfl, rfl, rfl, rfl, rfl, rfl, rfl, rfl, rfl, rfl, trivial⟩ (by kernel_rfl) (by decide) rfl rfl ?_
     refine zW rfl rfl (zH rfl) ?_
     refine zW rfl rfl (zH rfl) ?_
     refine zW rfl rfl (zBi rfl) ?_
     refine zW rfl rfl (zBA rfl rfl rfl rfl rfl rfl) ?_
     refine zW rfl rfl (zAf rfl rfl rfl rfl) ?_
     refine zW rfl rfl (zH rfl) ?_
     refine zW rfl rfl (zi rfl rfl rfl rfl (by first | (simp only [Nat.zero_add, Int.toNat_natCast, Int.toNat_zero]; exact rfl) | exact rfl) (by omega)) ?_
     refine zW rfl rfl (zA8 rfl rfl rfl) ?_
     rw [hx]
     refine zW rfl rfl (zH rfl) ?_
     refine zW rfl rfl (zH rfl) ?_
     refine zW rfl rfl (zBi rfl) ?_
     refine zW rfl rfl (zBA rfl rfl rfl rfl rfl rfl) ?_
     refine zW rfl rfl (zAf rfl rfl rfl rfl) ?_
     refine zW rfl rfl (zH rfl) ?_
     refine zW rfl rfl (zi rfl rfl rfl rfl (by first | (simp only [Nat.zero_add, Int.toNat_natCast, Int.toNat_zero]; exact rfl) | exact rfl) (by omega)) ?_
     refine zW rfl rfl (zA8 rfl rfl rfl) ?_
     rw [hx]
     refine zW rfl rfl (zZ rfl rfl rfl rfl rfl (by first | (simp only [Nat.zero_add, Int.toNat_natCast, Int.toNat_zero]; exact rfl) | exact rfl) (by omega)) ?_
     refine zW rfl rfl (zr rfl rfl rfl rfl rfl rfl rfl (by first | exact Nat.zero_lt_one | assumption | omega)) ?_
     refine zW rfl rfl (zr rfl rfl rfl rfl rfl rfl rfl (by first | exact Nat.zero_lt_one | assumption | omega)) ?_
     refine zCS rfl rfl rfl rfl rfl ca ?_
     refine zW rfl rfl (zZ rfl rfl rfl rfl rfl (by first | (simp only [Nat.zero_add, Int.toNat_natCast, Int.toNat_zero]; exact rfl) | exact rfl) (by omega)) ?_
     refine zAg ?_
     refine zE (is := [21]) (by kernel_rfl) (by simp) rfl ⟨fun o ho => ?_, trivial⟩
     all_goals (cases ho)
     unfold qA
     refine zR (c' := qsC (S.set x A)) rfl rfl rfl rfl rfl hxS (by show (List.set _ x _).length = _; rw [List.length_set]; rfl) rfl (fun i' j' hi' hj' => zD9 0 3 zAD S x A hxS i' j' hi' hj') ?_
     refine rn1 ?_
     refine zh (by kernel_rfl) ?_
     repeat (refine zg ?_)
     refine zA ?_
     rw [← hsuc]
     refine zAz [none, some ⟨122, .box [.bool false, .nil, .nil]⟩, some ⟨122, qsC S2⟩] [some ⟨122, .box (zAD G)⟩] [(0, .ro (zc t) 0 t.length), (4, .rp (.box [.int .i64 p]) 0 0), (6, .ptr 1 0 0), (8, zCv t p), (10, .ro (qsC (zY t (zAu t p s))) 0 t.length), (11, .sl 2 0 (ze t p).length), (47, .ro (.ints .i64 (zAq t t.length)) 0 (zAq t t.length).length), (48, .int .i64 ((zAq t t.length).length : Nat)), (49, .int .i64 (k : Nat))] rfl ⟨rfl, rfl, rfl, rfl, rfl, rfl, rfl, rfl, rfl, trivial⟩ (fun h hh => by rw [hfix] at hh; exact absurd hh id) (belowQ1 S2) rfl ?_
     refine rn3 ?_
     exact zO ⟨k + 1, by omega, by omega, ⟨rfl, rfl, rfl, rfl, rfl, rfl, rfl, rfl, rfl, trivial⟩, by rw [hS2]⟩
   have hke : k = (zAq t t.length).length := by omega
   subst hke
   rw [hEl, zKd]
   refine rn5 ?_
   refine zEO ?_
   repeat (first | refine zB (zH rfl) ?_ | refine zB (zK rfl) ?_ | refine zC ?_ | refine zA ?_ | refine zX ?_ | refine zJ rfl ?_ | refine zAB ?_ | refine zB (zBK rfl rfl rfl) ?_ | refine zB (zAf rfl rfl rfl rfl) ?_ | refine zB (zBi rfl) ?_ | refine zB (zBA rfl rfl rfl rfl rfl rfl) ?_)
   refine zk (ι := Nat × List Rat × List (Int × Int) × Nat) (fun q => [(6, .ptr 1 0 0), (8, zCv t p), (11, .sl 2 0 (ze t p).length), (16, .mp 3), (17, .int .i64 (q.1 : Nat))]) (fun q => [none, some ⟨122, .box [.bool false, .nil, .nil]⟩, some ⟨122, qsC q.2.1⟩, some ⟨123, choC q.2.2.1⟩])
     (fun q => Back t p (zAu t p s) q.1 q.2.1 q.2.2.1 q.2.2.2) (fun q => q.1) ((ze t p).length, zFr t p (zAu t p s), [], 0) ⟨⟨rfl, rfl, rfl, rfl, rfl, trivial⟩, rfl, Back.top hv hw hml hpays p⟩ ?_
   rintro ⟨e, S, C, jj⟩ hB
   simp only at hB ⊢
   have hle := hB.bnd.le
   refine rn6 ?_
   refine zF rfl (fun h => ?_) (fun h => ?_)
   · have he : 1 < e := by omega
     obtain ⟨x, b, hk⟩ := hB.bnd.blk hv he
     have hst := hB.step hv he hk
     have hSl := hB.sums.len
     have hsh : ∀ j, D zEx (S.getD j 0) := hB.sums.short (zO3 hw hml hpays hv) (by have := hB.few; omega)
     have hfin := hk.fin
     have hw1 := hk.w1
     have hblt := hk.lt
     have hnew := newB (hk.new hv hB.cho)
     have hseq := hk.seqs
     have hs1 := hseq (zd t p x.1 - 1) (by omega)
     rw [show x.2 + (zd t p x.1 - 1) = e - 1 by omega] at hs1
     generalize hW : zd t p x.1 = W at *
     repeat (first | refine zB (zH rfl) ?_ | refine zA ?_ | refine zX ?_ | refine zJ rfl ?_ | refine zAB ?_ | refine zl ?_ | refine zB (zBa rfl rfl (by omega)) ?_ | refine zB (zAf rfl rfl rfl rfl) ?_ | refine zB (zBi rfl) ?_ | refine zB (zBA rfl rfl rfl rfl rfl rfl) ?_)
     refine zL 105 (.int .i64 ((e - 1 : Nat) : Int)) rfl (AEq.of_eq (by congr 1; omega)) ?_
     repeat (first | refine zB (zCJ rfl rfl rfl rfl) ?_ | refine zB (zi rfl rfl rfl rfl (by first | (simp only [Nat.zero_add, Int.toNat_natCast, Int.toNat_zero]; exact rfl) | exact rfl) (by omega)) ?_ | refine zB (zBA rfl rfl rfl rfl rfl rfl) ?_)
     refine zL 108 (.int .i64 ((W - 1 : Nat) : Int)) rfl (AEq.of_eq (show AV.int .i64 ((ze t p).getD (e - 1) zBZ).choice = _ by rw [hs1])) ?_
     repeat (first | refine zB (zK rfl) ?_ | refine zC ?_ | refine zA ?_ | refine zX ?_ | refine zB (zBa rfl rfl (by omega)) ?_)
     refine zAd 18 (.int .i64 (x.2 : Nat)) rfl (AEq.of_eq (by congr 1; omega)) ?_
     refine rn1 ?_
     refine zk (ι := Nat) (fun m => [(6, .ptr 1 0 0), (8, zCv t p), (11, .sl 2 0 (ze t p).length), (16, .mp 3), (17, .int .i64 (e : Nat)), (18, .int .i64 (x.2 : Nat)), (19, .int .i64 (zAX S x.2 m : Nat)), (20, .int .i64 ((x.2 + m : Nat) : Int))]) (fun _ => [none, some ⟨122, .box [.bool false, .nil, .nil]⟩, some ⟨122, qsC S⟩, some ⟨123, choC C⟩])
       (fun m => m ≤ W) (fun m => W - m) 0 ⟨⟨rfl, rfl, rfl, rfl, rfl, rfl, rfl, rfl, trivial⟩, rfl, Nat.zero_le _⟩ ?_
     intro m hm'
     obtain ⟨q1, q2, q3⟩ := zD2 S x.2 m
     refine rn4 ?_
     refine zF rfl (fun h2 => ?_) (fun h2 => ?_)
     · have hmW : m < W := by omega
       have hbs : zAX S x.2 (m + 1) = if S.getD (zAX S x.2 m) 0 < S.getD (x.2 + m) 0 then x.2 + m else zAX S x.2 m := rfl
       have cc := zLi (S.getD (x.2 + m) 0) (S.getD (zAX S x.2 m) 0) (zF5 ((hsh _).mono (show zEx ≤ 9 * 100000 by decide))) (zF5 ((hsh _).mono (show zEx ≤ 9 * 100000 by decide)))
       have gi : x.2 + m < (qsC S).len := by show x.2 + m < S.length; omega
       have gb : zAX S x.2 m < (qsC S).len := by show zAX S x.2 m < S.length; omega
       have hlt : zAX S x.2 m < x.2 + m + 1 := q2
       generalize hN : zAX S x.2 (m + 1) = N at *
       generalize zAX S x.2 m = M at *
       refine rn1 ?_
       refine zm (by kernel_rfl) ?_
       refine z7 (fuel := 0) [0, 1, 2, 3, 4, 5, 6, 7, 8, 9] [(6, .ptr 1 0 0), (8, zCv t p), (11, .sl 2 0 (ze t p).length), (16, .mp 3), (17, .int .i64 (e : Nat)), (18, .int .i64 (x.2 : Nat)), (19, .int .i64 (M : Nat)), (20, .int .i64 ((x.2 + m : Nat) : Int))] ⟨rfl, rfl, rfl, rfl, rfl, rfl, rfl, rfl, trivial⟩ (by kernel_rfl) (by decide) rfl rfl ?_
       refine zW rfl rfl (zH rfl) ?_
       refine zW rfl rfl (zH rfl) ?_
       refine zW rfl rfl (zZ rfl rfl rfl rfl rfl (by first | (simp only [Nat.zero_add, Int.toNat_natCast, Int.toNat_zero]; exact rfl) | exact rfl) (by omega)) ?_
       refine zW rfl rfl (zr rfl rfl rfl rfl rfl rfl rfl (by first | exact Nat.zero_lt_one | assumption | omega)) ?_
       refine zW rfl rfl (zH rfl) ?_
       refine zW rfl rfl (zH rfl) ?_
       refine zW rfl rfl (zZ rfl rfl rfl rfl rfl (by first | (simp only [Nat.zero_add, Int.toNat_natCast, Int.toNat_zero]; exact rfl) | exact rfl) (by omega)) ?_
       refine zW rfl rfl (zr rfl rfl rfl rfl rfl rfl rfl (by first | exact Nat.zero_lt_one | assumption | omega)) ?_
       refine zCS rfl rfl rfl rfl rfl cc ?_
       refine zW rfl rfl (zJw rfl rfl) ?_
       refine zAg ?_
       refine zh (by kernel_rfl) ?_
       repeat (refine zA ?_)
       refine zF rfl (fun h3 => ?_) (fun h3 => ?_)
       · rw [if_pos ((cmp_gt _ _).mp h3)] at hbs
         refine rn5 ?_
         exact zO ⟨m + 1, by omega, by omega, ⟨rfl, rfl, rfl, rfl, rfl, rfl, by rw [hN, hbs]; rfl, rfl, trivial⟩, rfl⟩
       · rw [if_neg (fun q => h3 ((cmp_gt _ _).mpr q))] at hbs
         refine rn5 ?_
         exact zO ⟨m + 1, by omega, by omega, ⟨rfl, rfl, rfl, rfl, rfl, rfl, by rw [hN, hbs]; rfl, rfl, trivial⟩, rfl⟩
     have hmW : m = W := by omega
     subst hmW
     have q3 := q3 hw1
     have hs2 := hseq (zAX S x.2 m - x.2) (by omega)
     rw [show x.2 + (zAX S x.2 m - x.2) = zAX S x.2 m by omega] at hs2
     have ca := zIw (S.getD b 0) (S.getD (zAX S x.2 m) 0) (zF5 ((hsh _).mono (show zEx ≤ 9 * 100000 by decide))) (zF5 ((hsh _).mono (show zEx ≤ 9 * 100000 by decide)))
     have gb : b < (qsC S).len := by show b < S.length; omega
     have gM : zAX S x.2 m < (qsC S).len := by show zAX S x.2 m < S.length; omega
     have hMn : zAX S x.2 m < (ze t p).length := by omega
     generalize zAX S x.2 m = M at *
     generalize hA : S.getD b 0 + S.getD M 0 = A at *
     repeat (first | refine zB (zH rfl) ?_ | refine zA ?_ | refine zX ?_ | refine zJ rfl ?_ | refine zA0 ?_ | refine zx ?_ | refine zw ?_ | refine zAN ?_ | refine zB (zi rfl rfl rfl rfl (by first | (simp only [Nat.zero_add, Int.toNat_natCast, Int.toNat_zero]; exact rfl) | exact rfl) (by omega)) ?_ | refine zB (zAf rfl rfl rfl rfl) ?_ | refine zB (zBi rfl) ?_ | refine zB (zBA rfl rfl rfl rfl rfl rfl) ?_ | refine zB (zCU rfl rfl rfl rfl rfl rfl) ?_ | refine zBH rfl rfl rfl ?_)
     refine zL 134 (.agg (zFZ ⟨x.1, ((M - x.2 : Nat) : Int), (b : Int)⟩)) rfl (AEq.of_eq (by rw [← hs2]; rfl)) ?_
     refine zR (c' := .box (zFZ ⟨x.1, ((M - x.2 : Nat) : Int), (b : Int)⟩)) rfl rfl rfl rfl rfl Nat.zero_lt_one rfl rfl (fun i' j' hi' hj' => ?_) ?_
     · rw [if_pos (Nat.lt_one_iff.1 hi')]; rfl
     refine rn5 ?_
     refine zCR rfl (.int rfl) rfl rfl rfl rfl rfl (keysB C) hnew ?_
     refine zAx [none, some ⟨122, .box [.bool false, .nil, .nil]⟩, some ⟨122, qsC S⟩, some ⟨123, choC (C ++ [(x.1, ((M - x.2 : Nat) : Int))])⟩, some ⟨174, .box [.int .i64 x.1, .int .i64 ((M - x.2 : Nat) : Int), .int .i64 (b : Nat)]⟩] (zAJ.same (zAJ.same (zAJ.same (zAJ.eqv (by unfold choC; rw [List.map_append, List.map_append]; exact CEq.refl _) (zAJ.eqv (CEq.refl _) zAJ.nil))))) ?_
     refine rn0 ?_
     refine zm (by kernel_rfl) ?_
     refine z7 (fuel := 1) [0, 1, 2, 3, 4, 5, 6, 7, 8, 9, 10, 11, 12, 13] [(21, .ptr 4 0 0), (6, .ptr 1 0 0), (8, zCv t p), (11, .sl 2 0 (ze t p).length), (16, .mp 3), (17, .int .i64 (e : Nat)), (18, .int .i64 (x.2 : Nat)), (19, .int .i64 (M : Nat))] ⟨rfl, rfl, rfl, rfl, rfl, rfl, rfl, rfl, trivial⟩ (by kernel_rfl) (by decide) rfl rfl ?_
     refine zW rfl rfl (zH rfl) ?_
     refine zW rfl rfl (zP rfl rfl rfl rfl rfl rfl) ?_
     refine zW rfl rfl (zS rfl rfl rfl rfl rfl) ?_
     refine zW rfl rfl (zH rfl) ?_
     refine zW rfl rfl (zP rfl rfl rfl rfl rfl rfl) ?_
     refine zW rfl rfl (zS rfl rfl rfl rfl rfl) ?_
     refine zW rfl rfl (zZ rfl rfl rfl rfl rfl (by first | (simp only [Nat.zero_add, Int.toNat_natCast, Int.toNat_zero]; exact rfl) | exact rfl) (by omega)) ?_
     refine zW rfl rfl (zr rfl rfl rfl rfl rfl rfl rfl (by first | exact Nat.zero_lt_one | assumption | omega)) ?_
     refine zW rfl rfl (zH rfl) ?_
     refine zW rfl rfl (zH rfl) ?_
     refine zW rfl rfl (zZ rfl rfl rfl rfl rfl (by first | (simp only [Nat.zero_add, Int.toNat_natCast, Int.toNat_zero]; exact rfl) | exact rfl) (by omega)) ?_
     refine zW rfl rfl (zr rfl rfl rfl rfl rfl rfl rfl (by first | exact Nat.zero_lt_one | assumption | omega)) ?_
     refine zCS rfl rfl rfl rfl rfl ca ?_
     refine zW rfl rfl (zZ rfl rfl rfl rfl rfl (by first | (simp only [Nat.zero_add, Int.toNat_natCast, Int.toNat_zero]; exact rfl) | exact rfl) (by omega)) ?_
     refine zAg ?_
     refine zE (is := [14]) (by kernel_rfl) (by simp) rfl ⟨fun o ho => ?_, trivial⟩
     all_goals (cases ho)
     unfold qA
     refine zR (c' := qsC (S.set b A)) rfl rfl rfl rfl rfl gb (by show (List.set _ b _).length = _; rw [List.length_set]; rfl) rfl (fun i' j' hi' hj' => zD9 0 3 zAD S b A gb i' j' hi' hj') ?_
     refine rn1 ?_
     refine zh (by kernel_rfl) ?_
     skip
     refine zA ?_
     refine zAz [none, some ⟨122, .box [.bool false, .nil, .nil]⟩, some ⟨122, qsC (S.set b A)⟩, some ⟨123, choC (C ++ [(x.1, ((M - x.2 : Nat) : Int))])⟩] [some ⟨174, .box [.int .i64 x.1, .int .i64 ((M - x.2 : Nat) : Int), .int .i64 (b : Nat)]⟩] [(6, .ptr 1 0 0), (8, zCv t p), (11, .sl 2 0 (ze t p).length), (16, .mp 3), (18, .int .i64 (x.2 : Nat))] rfl ⟨rfl, rfl, rfl, rfl, rfl, trivial⟩ (fun h hh => by rw [hfix] at hh; exact absurd hh id) (belowQ2 _ _) rfl ?_
     refine rn5 ?_
     exact zO ⟨(x.2, S.set b A, C ++ [(x.1, ((M - x.2 : Nat) : Int))], jj + 1), hst, by simp only; omega, ⟨rfl, rfl, rfl, rfl, rfl, trivial⟩, rfl⟩
   · have hsp := hB.stop (by omega)
     have hSl := hB.sums.len
     have g0 : 0 < (qsC S).len := by show 0 < S.length; omega
     rw [hsp] at hR
     refine rn6 ?_
     refine zR (c' := .box (zAD (S.getD 0 0))) rfl rfl rfl rfl rfl Nat.zero_lt_one rfl rfl (fun i' j' hi' hj' => ?_) ?_
     · rw [if_pos (Nat.lt_one_iff.1 hi')]; rfl
     refine rn0 ?_
     exact zI hR rfl ⟨rfl, rfl⟩
 · rintro r H ⟨rfl, rfl⟩
   refine ⟨rfl, ⟨⟨trivial, trivial, trivial, trivial⟩, trivial, trivial⟩, fun h o ho => ?_⟩
   match h, ho with
   | 0, ho => simp at ho
   | 1, ho =>
     cases ho
     intro i j _ hj
     exact zLK _ j
   | 2, ho => cases ho; exact zG2 _
   | 3, ho => cases ho; exact ⟨zEL (fun _ => rfl) _, zEL (fun _ => rfl) _⟩
   | _ + 4, ho => simp at ho
end Go.Proofs.YtnkealfaldjipaaGreatDoor
namespace Go.Proofs.YtnkealfaldjipaaGreatDoor
open Go.Ax Go.Ax.Bg Go.Ax.Rt Go.RowKit Go.Ax.Idx Go.Ax.Cd
attribute [local irreducible] Ax zAL QOp zM zo
set_option maxRecDepth 100000
set_option maxHeartbeats 4000000
/-- The row behind the first i values. -/
def zFC (n : zAK) (k i : Nat) : List zAK := List.replicate i n ++ List.replicate (k - i) []
theorem zIu (n : zAK) (k i j : Nat) (hi : i ≤ k) (hj : j < k) : (zFC n k i).getD j [] = if j < i then n else [] := by
 unfold zFC
 simp only [List.getD, List.getElem?_append, List.length_replicate, List.getElem?_replicate]
 split
 · simp
 · rw [if_pos (by omega)]; simp
theorem zFG (n : zAK) (k i : Nat) (hi : i ≤ k) : (zFC n k i).length = k := by unfold zFC; simp; omega
theorem zPJ (n : zAK) (k : Nat) : zFC n k k = List.replicate k n := by unfold zFC; simp
theorem repeatS (n : zAK) (k : Nat) (hk : 1 ≤ k ∧ k ≤ 100000) : zHV Tryz.prog 76 [.ro (.strs [n]) 0 1, .int .i64 (k : Nat)] (fun N => .sl N 0 k) ⟨27, .strs (List.replicate k n)⟩ := by
 refine zM.fresh (K := fun r H => r = .sl 0 0 k ∧ H = [some ⟨27, .strs (List.replicate k n)⟩]) (zG (P := Tryz.prog) (fn := Tryz.f76) rfl rfl (by kernel_rfl) rfl (fun c hR hfix => ?_)) (fix := fun _ => False) (fun _ h => h) rfl (fun H => ⟨rfl, by simp [zGs, inB]⟩) ?_
 · have hm := mulB 1 k (by omega) (by omega)
   rw [Nat.one_mul, Nat.div_eq_of_lt (by omega), Nat.mod_eq_of_lt (by omega)] at hm
   refine rn4 ?_
   refine zB (zAQ (m := 1) rfl rfl rfl zA3 (by decide)) ?_
   repeat (refine zB (zH rfl) ?_)
   refine zB (zAQ (m := k) rfl rfl rfl zA3 (by omega)) ?_
   refine zD rfl rfl rfl hm ?_
   refine rn6 ?_
   refine zF rfl (fun h => absurd h (by omega)) (fun h => ?_)
   refine rn1 ?_
   refine zB (zEJ rfl rfl rfl (by omega)) ?_
   refine zCE rfl rfl rfl rfl rfl rfl rfl rfl (by show 0 ≤ _ ∧ _ ≤ _ ∧ (16 : Int) * _ ≤ _ ∧ _; omega) ?_
   refine rn0 ?_
   refine zN2 (o := ⟨27, .strs (List.replicate k [])⟩) (c' := .strs (zFC n k 1)) (i := 0) (n := k) (i2 := 0) (m := 1) (q := 1) rfl rfl rfl rfl rfl rfl rfl (by simp [Cells.len]) (by omega) (by show 0 + 1 ≤ 1; omega) (by omega) (Nat.min_eq_left (by omega)) rfl rfl ?_ (fun i' j hi' hj => ?_) ?_
   · show (zFC n k 1).length = (List.replicate k ([] : zAK)).length
     rw [zFG n k 1 (by omega)]; simp
   · have hi2 : i' < k := by simpa [Cells.len] using hi'
     show AV.str ((zFC n k 1).getD i' []) = _
     rw [zIu n k 1 i' (by omega) hi2]
     by_cases h0 : i' < 1
     · rw [if_pos h0, if_pos (by omega)]
       have : i' = 0 := by omega
       subst this; rfl
     · rw [if_neg h0, if_neg (by omega)]
       show _ = AV.str ((List.replicate k ([] : zAK)).getD i' [])
       simp [List.getD, hi2]
   refine rn1 ?_
   refine zk (ι := Nat) (fun i => [(7, .sl 0 0 k), (8, .int .i64 (i : Nat))]) (fun i => [some ⟨27, .strs (zFC n k i)⟩]) (fun i => 1 ≤ i ∧ i ≤ k) (fun i => k - i) 1 ⟨⟨rfl, rfl, trivial⟩, rfl, by omega, by omega⟩ ?_
   rintro i ⟨hi1, hi⟩
   refine rn4 ?_
   refine zF rfl (fun h1 => ?_) (fun h1 => ?_)
   · obtain ⟨q, hq⟩ : ∃ q, Nat.min i (k - i) = q := ⟨_, rfl⟩
     have hq1 : q ≤ i ∧ q ≤ k - i ∧ 1 ≤ q := by
       subst hq
       refine ⟨Nat.min_le_left _ _, Nat.min_le_right _ _, ?_⟩
       show 1 ≤ min i (k - i)
       omega
     refine rn1 ?_
     refine zm (by kernel_rfl) ?_
     refine zN 0 rfl (by kernel_rfl) (by kernel_rfl) (by kernel_rfl) rfl (zH rfl) rfl ?_
     refine zN 1 rfl (by kernel_rfl) (by kernel_rfl) (by kernel_rfl) rfl (zH rfl) rfl ?_
     refine zN 2 rfl (by kernel_rfl) (by kernel_rfl) (by kernel_rfl) rfl (zH rfl) rfl ?_
     refine zN 4 rfl (by kernel_rfl) (by kernel_rfl) (by kernel_rfl) rfl (zH rfl) rfl ?_
     refine zN 5 rfl (by kernel_rfl) (by kernel_rfl) (by kernel_rfl) rfl (zH rfl) rfl ?_
     refine zN 3 rfl (by kernel_rfl) (by kernel_rfl) (by kernel_rfl) rfl (zHB rfl rfl rfl rfl rfl rfl rfl rfl (by omega)) rfl ?_
     refine zN 6 rfl (by kernel_rfl) (by kernel_rfl) (by kernel_rfl) rfl (zHB rfl rfl rfl rfl rfl rfl rfl rfl (by omega)) rfl ?_
     refine zBG 41 (.sl 0 i (k - i)) rfl (AEq.of_eq (by congr 1 <;> omega)) ?_
     refine zBG 44 (.sl 0 0 i) rfl (AEq.of_eq (by congr 1 <;> omega)) ?_
     refine zE (is := [7]) (by kernel_rfl) (by simp) rfl ⟨fun o ho => ?_, trivial⟩
     all_goals (cases ho)
     skip
     refine zN2 (h := 0) (o := ⟨27, .strs (zFC n k i)⟩) (c' := .strs (zFC n k (i + q))) (i := i) (n := k - i) (i2 := 0) (m := i) (q := q) rfl rfl rfl rfl rfl rfl rfl (by show i + (k - i) ≤ (zFC n k i).length; rw [zFG n k i hi]; omega) (by omega) (by show 0 + i ≤ (zFC n k i).length; rw [zFG n k i hi]; omega) (by omega) hq rfl rfl ?_ (fun i' j hi' hj => ?_) ?_
     · show (zFC n k (i + q)).length = (zFC n k i).length
       rw [zFG n k i hi, zFG n k (i + q) (by omega)]
     · have hi2 : i' < k := by
         have : i' < (zFC n k i).length := hi'
         rwa [zFG n k i hi] at this
       show AV.str ((zFC n k (i + q)).getD i' []) = _
       rw [zIu n k (i + q) i' (by omega) hi2]
       by_cases h0 : i ≤ i' ∧ i' < i + q
       · rw [if_pos h0, if_pos h0.2]
         show _ = AV.str ((zFC n k i).getD (0 + (i' - i)) [])
         rw [zIu n k i _ hi (by omega), if_pos (by omega)]
       · rw [if_neg h0]
         show _ = AV.str ((zFC n k i).getD i' [])
         rw [zIu n k i i' hi hi2]
         by_cases h2 : i' < i
         · rw [if_pos h2, if_pos (by omega)]
         · rw [if_neg h2, if_neg (by omega)]
     repeat (first | refine zC ?_ | refine zj ?_)
     refine zN 8 rfl (by kernel_rfl) (by kernel_rfl) (by kernel_rfl) rfl (zC3 rfl rfl (by omega)) rfl ?_
     refine zN 9 rfl (by kernel_rfl) (by kernel_rfl) (by kernel_rfl) rfl (zK rfl) rfl ?_
     refine zh (by kernel_rfl) ?_
     repeat (refine zg ?_)
     exact zO ⟨i + q, ⟨by omega, by omega⟩, by omega, ⟨rfl, rfl, trivial⟩, rfl⟩
   · have : i = k := by omega
     subst this
     rw [zPJ]
     refine rn5 ?_
     exact zI hR rfl ⟨rfl, rfl⟩
 · rintro r H ⟨rfl, rfl⟩
   refine ⟨?_, fun h o ho => zFp zFc h o ho, 0, rfl, fun n => rfl⟩
   intro o ho; simp at ho; subst ho; exact Nat.le_of_eq (by simp [Cells.len])
end Go.Proofs.YtnkealfaldjipaaGreatDoor
