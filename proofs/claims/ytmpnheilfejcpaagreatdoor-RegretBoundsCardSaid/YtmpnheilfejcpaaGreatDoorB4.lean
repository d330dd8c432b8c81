import Derived.Test.YtmpnheilfejcpaaGreatDoorB3
set_option linter.unusedVariables false
set_option linter.unusedSimpArgs false
set_option maxRecDepth 100000
namespace Go.Ax.Rt
open Go.Ax.Bg
abbrev zAA:=List UInt8
def vecE (v:List zAA):Int:=if 40<v.length then 2 else zEL v
def zLc (w:Nat):List (List zAA)→Int
 |[]=>0
 |r::rs=>if r.length=w then (if vecE r=0 then zLc w rs else vecE r) else 3
def zS (m:List (List zAA)):Nat:=(m.getD 0 []).length
def zJ2 (m:List (List zAA)):Int:=if 40<m.length then 2 else zLc (zS m) m
def inM (m:List (List zAA)):List (List Rat):=m.map (fun r=>r.map zAG)
def outM (q:List (List Rat)):List (List zAA)×Int:=if q.all (fun r=>r.all zBd) then (q.map (fun r=>r.map zr),0) else ([],2)
def mulR (a b:List (List zAA)):List (List zAA)×Int:=if zJ2 a≠0 then ([],zJ2 a) else if zJ2 b≠0 then ([],zJ2 b) else if zS a=b.length then outM (mulQ (inM a) (inM b) (zS b)) else ([],3)
theorem zKF {v:List zAA}(h:vecE v=0):v.length≤40∧zEL v=0:=by
 unfold vecE at h
 split at h
 ·cases h
 ·exact ⟨kK,h⟩
theorem zLd {w:Nat}: ∀{m:List (List zAA)},zLc w m=0→ ∀r∈m,r.length=w∧vecE r=0
 |[],_,r,hr=>by simp at hr
 |a::m,h,r,hr=>by
  rw [zLc] at h
  split at h
  ·rename_i h1
   split at h
   ·rename_i h2
    rcases List.mem_cons.1 hr with rfl|hr
    ·exact ⟨h1,h2⟩
    ·exact zLd h r hr
   ·contradiction
  ·cases h
structure IsM (m:List (List zAA))(p q:Nat):Prop where
 rows:m.length=p
 cols: ∀r∈m,r.length=q
 sp:p≤40
 sq:m≠[]→q≤40
 ok: ∀r∈m,∀s∈r,zDH s=0
theorem zDy {m:List (List zAA)}(h:zJ2 m=0):IsM m m.length (zS m):=by
 unfold zJ2 at h
 split at h
 ·cases h
 ·have h1:=zLd h
  refine ⟨Z,fun r hr=>(h1 r hr).1,kK,fun hne=> ?_,fun r hr s hs=>zD5 (zKF (h1 r hr).2).2 s hs⟩
  obtain ⟨a,m',rfl⟩:=List.exists_cons_of_ne_nil hne
  have h2:=h1 a kJ
  have:=(zKF h2.2).1
  omega
theorem zB7 (m:List (List zAA)):(inM m).length=m.length:=by simp [inM]
theorem zOY {m:List (List zAA)}{p q:Nat}(h:IsM m p q): ∀r∈inM m,r.length=q:=by
 intro r hr
 obtain ⟨x,hx,rfl⟩:=List.mem_map.1 hr
 rw [List.length_map];exact h.cols x hx
def zLw (n k:Nat)(m:List (List zAA)):Bool:=decide (m.length≤n) && m.all (fun v=>decide (v.length≤n) && v.all (fun s=>decide (s.length≤k)))
theorem zM9 {n k:Nat}{m:List (List zAA)}(h:zLw n k m=true):m.length≤n∧ ∀v∈m,v.length≤n∧ ∀s∈v,s.length≤k:=by
 unfold zLw at h
 simp only [Bool.and_eq_true,decide_eq_true_eq,List.all_eq_true] at h
 exact ⟨h.1,fun v hv=>⟨(h.2 v hv).1,fun s hs=>(h.2 v hv).2 s hs⟩⟩
theorem inM_D {m:List (List zAA)}{p q k:Nat}(h:IsM m p q)(hk: ∀v∈m,∀s∈v,s.length≤k)(h1:1≤k): ∀r∈inM m,∀x∈r,D k x:=by
 intro r hr x hx
 obtain ⟨y,hy,rfl⟩:=List.mem_map.1 hr
 obtain ⟨s,hs,rfl⟩:=List.mem_map.1 hx
 exact (IsQ.self (h.ok y hy s hs)).dig (hk y hy s hs) h1
structure Prod (a b:List (List zAA))(t:List (List zAA))(p q r K:Nat):Prop where
 res:mulR a b=(t,0)
 ok:IsM t p r
 val:inM t=mulQ (inM a) (inM b) r
 dig: ∀x∈inM t,∀y∈x,D K y
def zCr (q:Rat):Rat:=if q.num<0 then 0 else q
def zDA:Rat→List Rat→Rat
 |acc,[]=>acc
 |acc,q::r=>zDA (acc+q) r
def zNc (x:List Rat):List Rat:=
 if zDA 0 (x.map zCr)=0 then (x.map zCr).map (fun _=>Rat.divInt 1 x.length) else (x.map zCr).map (fun q=>q/zDA 0 (x.map zCr))
def zGG (v:List zAA):List zAA×Int:=
 if v=[] then ([],8) else if 12<v.length then ([],2) else if vecE v≠0 then ([],vecE v) else zBC (zNc (v.map zAG))
theorem posQ_D {k:Nat}{q:Rat}(h:D k q)(hk:1≤k):D k (zCr q):=by
 unfold zCr
 split
 ·exact D.mono (j:=1) ⟨kV,kV⟩ hk
 ·exact h
theorem zM5: ∀(qs:List Rat) (acc:Rat),(zHw acc qs).2=0→(zHw acc qs).1=zDA acc qs
 |[],acc,_=>rfl
 |q::r,acc,h=>by
  rw [zHw] at h⊢
  rw [zDA]
  split at h
  ·rename_i hf;rw [if_pos hf];exact zM5 r _ h
  ·cases h
abbrev zB1:=List (Int×Int)
def zBW (m:List (List zAA)):Int:=if 12<m.length then 2 else if zJ2 m≠0 then zJ2 m else if zS m=0 then 8 else if 12<zS m then 2 else 0
def zDi (m:List (List zAA))(x:Int×Int):Bool:=decide (x.1<0)||(decide ((m.length:Int)≤x.1)||(decide (x.2<0)||decide ((zS m:Int)≤x.2)))
def zDE (m:List (List zAA))(l:zB1):Int:=if zBW m≠0 then zBW m else if 200<l.length then 2 else if l.any (zDi m)=true then 4 else 0
theorem zB3 {m:List (List zAA)}(h:zBW m=0):zJ2 m=0∧m.length≤12∧zS m≠0∧zS m≤12∧m≠[]:=by
 unfold zBW at h
 split at h
 ·cases h
 split at h
 ·rename_i h1;exact absurd h h1
 split at h
 ·cases h
 split at h
 ·cases h
 rename_i h1 h2 h3 h4
 refine ⟨Classical.not_not.1 h2,kK,h3,kK,?_⟩
 rintro rfl
 exact h3 Z
theorem zDo {m:List (List zAA)}{l:zB1}(h:zDE m l=0):zBW m=0∧l.length≤200∧ ∀x∈l,0≤x.1∧x.1<m.length∧0≤x.2∧x.2<zS m:=by
 unfold zDE at h
 split at h
 ·rename_i h1;exact absurd h h1
 split at h
 ·cases h
 split at h
 ·cases h
 rename_i h1 h2 h3
 refine ⟨Classical.not_not.1 h1,kK,fun x hx=> ?_⟩
 rw [Bool.not_eq_true,List.any_eq_false] at h3
 have:=h3 x hx
 unfold zDi at this
 simp only [Bool.or_eq_true,decide_eq_true_eq,not_or] at this
 omega
def cnt (f:Int×Int→Int)(l:zB1)(i:Nat):Nat:=(l.filter (fun x=>decide (f x=(i:Int)))).length
def zFG (f:Int×Int→Int)(l:zB1)(n:Nat):List Rat:=(List.range n).map (fun i=>((cnt f l i:Nat):Rat))
def zFB (m:List (List Rat))(l:zB1)(w:Nat):List Rat:=m.map (fun r=>zAQ r (zFG Prod.snd l w))
def zEm (m:List (List Rat))(l:zB1)(w:Nat):List Rat:=(zEO m w).map (fun c=>zAQ c (zFG Prod.fst l m.length))
def elQ (m:List (List Rat))(x:Int×Int):Rat:=(m.getD x.1.toNat []).getD x.2.toNat 0
def gotQ (m:List (List Rat))(l:zB1):Rat:=zDA 0 (l.map (elQ m))
def regA (m:List (List Rat))(l:zB1)(w:Nat):List Rat:=(zFB m l w).map (fun q=>q-gotQ m l)
def regB (m:List (List Rat))(l:zB1)(w:Nat):List Rat:=(zEm m l w).map (fun q=>gotQ m l-q)
def zGR (a b:List Rat):(List zAA×List zAA)×Int:=if (zBC a).2≠0 then (([],[]),2) else if (zBC b).2≠0 then (([],[]),2) else ((a.map zr,b.map zr),0)
def zEI (m:List (List zAA))(l:zB1):(List zAA×List zAA)×Int:=if zDE m l≠0 then (([],[]),zDE m l) else zGR (regA (inM m) l (zS m)) (regB (inM m) l (zS m))
def zAz (sg:Int)(x:List Rat):Nat→Nat
 |0=>0
 |k+1=>if 0<zBl (x.getD k 0) (x.getD (zAz sg x k) 0)*sg then k else zAz sg x k
theorem zI9 (sg:Int)(x:List Rat): ∀k,zAz sg x k≤k
 |0=>Nat.le_refl _
 |k+1=>by
  rw [zAz]
  have:=zI9 sg x k
  split<;>omega
theorem zJA (sg:Int)(x:List Rat): ∀k,k≠0→zAz sg x k<k
 |0,h=>absurd rfl h
 |k+1,_=>by
  rw [zAz]
  have:=zI9 sg x k
  split<;>omega
def lowQ (m:List (List Rat))(l:zB1)(w:Nat):Rat:=(zEm m l w).getD (zAz (-1) (zEm m l w) w) 0
def zIV (m:List (List Rat))(l:zB1)(w:Nat):Rat:=(zFB m l w).getD (zAz 1 (zFB m l w) m.length) 0
def zBB (m:List (List zAA))(l:zB1):(zAA×zAA)×Int:=
 if zDE m l≠0 then (([],[]),zDE m l) else if l=[] then (([],[]),8)
 else if zBd (lowQ (inM m) l (zS m)/(l.length:Nat)) && zBd (zIV (inM m) l (zS m)/(l.length:Nat)) then ((zr (lowQ (inM m) l (zS m)/(l.length:Nat)),zr (zIV (inM m) l (zS m)/(l.length:Nat))),0) else (([],[]),2)
theorem zQq {a b:Rat}:0<zBl a b↔b<a:=by
 unfold zBl
 split
 ·rename_i h
  exact ⟨fun q=>absurd q kV,fun q=>absurd (Rat.le_of_lt q) (Rat.not_le.2 h)⟩
 ·split
  ·rename_i h1 h2
   exact ⟨fun q=>absurd q kV,fun q=>by rw [h2] at q;exact absurd q Rat.lt_irrefl⟩
  ·rename_i h1 h2
   exact ⟨fun _=>Rat.lt_of_le_of_ne (Rat.not_lt.1 h1) (Ne.symm h2),fun _=>by decide⟩
theorem zQo {a b:Rat}:0<zBl a b*(-1)↔a<b:=by
 unfold zBl
 split
 ·rename_i h;exact ⟨fun _=>h,fun _=>by decide⟩
 ·rename_i h
  split
  ·exact ⟨fun q=>absurd q kV,fun q=>absurd q h⟩
  ·exact ⟨fun q=>absurd q kV,fun q=>absurd q h⟩
theorem zMH (x:List Rat): ∀k j,j<k→x.getD j 0≤x.getD (zAz 1 x k) 0
 |0,j,h=>absurd h (Nat.not_lt_zero _)
 |k+1,j,h=>by
  rw [zAz,Int.mul_one]
  by_cases hj:j=k
  ·subst hj
   split
   ·exact Rat.le_refl
   ·rename_i h1;exact Rat.not_lt.1 (fun q=>h1 (zQq.2 q))
  ·have ih:=zMH x k j kK
   split
   ·rename_i h1;exact Rat.le_trans ih (Rat.le_of_lt (zQq.1 h1))
   ·exact ih
theorem zMI (x:List Rat): ∀k j,j<k→x.getD (zAz (-1) x k) 0≤x.getD j 0
 |0,j,h=>absurd h (Nat.not_lt_zero _)
 |k+1,j,h=>by
  rw [zAz]
  by_cases hj:j=k
  ·subst hj
   split
   ·exact Rat.le_refl
   ·rename_i h1;exact Rat.not_lt.1 (fun q=>h1 (zQo.2 q))
  ·have ih:=zMI x k j kK
   split
   ·rename_i h1;exact Rat.le_trans (Rat.le_of_lt (zQo.1 h1)) ih
   ·exact ih
theorem zMx (m:List (List Rat))(l:zB1)(w:Nat):(zFB m l w).length=m.length:=by simp [zFB]
theorem zMO (m:List (List Rat))(l:zB1)(w:Nat):(zEm m l w).length=w:=by simp [zEm,zEO]
theorem d_zero (k:Nat)(hk:1≤k):D k 0:=D.mono (j:=1) ⟨kV,kV⟩ hk
theorem elQ_D {m:List (List Rat)}{k:Nat}(hm: ∀r∈m,∀q∈r,D k q)(hk:1≤k)(x:Int×Int):D k (elQ m x):=by
 unfold elQ
 by_cases h1:x.1.toNat<m.length
 ·have e1:m.getD x.1.toNat []=m[x.1.toNat]:=by simp [List.getD,h1]
  rw [e1]
  by_cases h2:x.2.toNat<(m[x.1.toNat]).length
  ·have e2:(m[x.1.toNat]).getD x.2.toNat 0=(m[x.1.toNat])[x.2.toNat]:=by simp [List.getD,h2]
   rw [e2];exact hm _ (List.getElem_mem h1) _ (List.getElem_mem h2)
  ·have e2:(m[x.1.toNat]).getD x.2.toNat 0=0:=by simp [List.getD,h2]
   rw [e2];exact d_zero k hk
 ·have e1:(m.getD x.1.toNat []).getD x.2.toNat 0=0:=by simp [List.getD,h1]
  rw [e1];exact d_zero k hk
structure Zero (m:List (List zAA))(l:zB1)(a b:List zAA)(lo hi:zAA):Prop where
 reg:zEI m l=((a,b),0)
 bnd:zBB m l=((lo,hi),0)
 ga: ∀s∈a,zDH s=0
 gb: ∀s∈b,zDH s=0
 la:a.length=m.length
 lb:b.length=zS m
 best: ∃i k s q,bestR a=(((i:Nat):Int),0)∧bestR b=(((k:Nat):Int),0)∧i<a.length∧k<b.length∧twoR (fun x y=>x+y) (a.getD i []) (b.getD k [])=(s,0)∧divR s (zr ((l.length:Nat):Rat))=(q,0)∧twoR (fun x y=>x-y) hi lo=(q,0)
structure PlaySt where
 rows:List Rat
 cols:List Rat
 out:List (Nat×Nat)
def zLR (m:List (List Rat))(s:PlaySt):PlaySt:=
 let i:=zAz 1 s.rows s.rows.length
 let k:=zAz (-1) s.cols s.cols.length
 ⟨(List.range s.rows.length).map (fun j=>s.rows.getD j 0+(m.getD j []).getD k 0),(List.range s.cols.length).map (fun j=>s.cols.getD j 0+(m.getD i []).getD j 0),s.out++[(i,k)]⟩
def zEF (m:List (List Rat))(w:Nat):Nat→PlaySt
 |0=>⟨List.replicate m.length 0,List.replicate w 0,[]⟩
 |n+1=>zLR m (zEF m w n)
theorem zMp (m:List (List Rat))(w:Nat): ∀n,(zEF m w n).rows.length=m.length∧(zEF m w n).cols.length=w∧(zEF m w n).out.length=n
 |0=>by simp [zEF]
 |n+1=>by
  obtain ⟨h1,h2,h3⟩:=zMp m w n
  simp [zEF,zLR,h1,h2,h3]
def zE0 (l:List (Nat×Nat)):zB1:=l.map (fun x=>((x.1:Int),(x.2:Int)))
def zIX (m:List (List zAA))(n:Int):zB1×Int:=if zBW m≠0 then ([],zBW m) else if n<0∨200<n then ([],4) else (zE0 (zEF (inM m) (zS m) n.toNat).out,0)
end Go.Ax.Rt
namespace Go.Ax.Dt
def zAE (f:Nat→Int):Nat→Int
 |0=>0
 |n+1=>zAE f n+f n
theorem zw {f g:Nat→Int}: ∀{n:Nat},(∀i,i<n→f i=g i)→zAE f n=zAE g n
 |0,_=>rfl
 |n+1,h=>by rw [zAE,zAE,zw (fun i hi=>h i kK),h n kK]
theorem zCM {f:Nat→Int}: ∀{n:Nat},(∀i,i<n→f i=0)→zAE f n=0
 |0,_=>rfl
 |n+1,h=>by rw [zAE,zCM (fun i hi=>h i kK),h n kK];rfl
theorem zDd (f g:Nat→Int): ∀n,zAE (fun i=>f i+g i) n=zAE f n+zAE g n
 |0=>rfl
 |n+1=>by rw [zAE,zAE,zAE,zDd f g n];omega
theorem zBY (c:Int)(f:Nat→Int): ∀n,zAE (fun i=>c*f i) n=c*zAE f n
 |0=>by rw [zAE,zAE,Int.mul_zero]
 |n+1=>by rw [zAE,zAE,zBY c f n,Int.mul_add]
theorem zEv {f:Nat→Int}{n:Nat}(k:Nat)(hk:k<n)(h: ∀i,i<n→i≠k→f i=0):zAE f n=f k:=by
 induction n with
 |zero=>omega
 |succ n ih=>
  rw [zAE]
  by_cases hkn:k=n
  ·subst hkn
   rw [zCM (fun i hi=>h i kK kK)];omega
  ·rw [ih kK (fun i hi hne=>h i kK hne),h n kK (fun e=>hkn e.symm)];omega
theorem zPN {f:Nat→Int}{n:Nat}(k l:Nat)(hk:k<n)(hl:l<n)(hkl:k≠l)(h: ∀i,i<n→i≠k→i≠l→f i=0):zAE f n=f k+f l:=by
 have e:zAE f n=zAE (fun i=>(if i=k then f k else 0)+(if i=k then 0 else f i)) n:=by
  refine zw (fun i hi=> ?_)
  by_cases hik:i=k
  ·subst hik;simp
  ·simp [hik]
 rw [e,zDd]
 rw [zEv k hk (fun i hi hne=>by simp [hne]),zEv l hl (fun i hi hne=>by
  by_cases hik:i=k
  ·simp [hik]
  ·simp [hik];exact h i hi hik hne)]
 have: ¬l=k:=fun e=>hkl e.symm
 simp [this]
abbrev V:=Nat→Int
abbrev Mx:=Nat→V
def sg:Nat→Int
 |0=>1
 |n+1=> -sg n
def skip (i:Nat)(D:Mx):Mx:=fun a c=>D (if a<i then a else a+1) (c+1)
def det:Nat→Mx→Int
 |0,_=>1
 |n+1,D=>zAE (fun i=>sg i*(D i 0*det n (skip i D))) (n+1)
def put (D:Mx)(r:Nat)(v:V):Mx:=fun a=>if a=r then v else D a
theorem zDt: ∀{n:Nat} {D E:Mx},(∀a c,a<n→c<n→D a c=E a c)→det n D=det n E
 |0,_,_,_=>rfl
 |n+1,D,E,h=>by
  rw [det,det]
  refine zw (fun i hi=> ?_)
  rw [h i 0 hi kK,zDt (D:=skip i D) (E:=skip i E) (fun a c ha hc=> ?_)]
  unfold skip
  exact h _ _ (by split<;>omega) kK
theorem zDa (D:Mx)(r:Nat)(v:V):skip r (put D r v)=skip r D:=by
 funext a c
 unfold skip put
 have: ¬(if a<r then a else a+1)=r:=by split<;>omega
 rw [if_neg this]
theorem zHt {D:Mx}{i r:Nat}{v:V}(h:i≠r):skip i (put D r v)=put (skip i D) (if r<i then r else r-1) (fun c=>v (c+1)):=by
 funext a c
 unfold skip put
 by_cases hri:r<i
 ·rw [if_pos hri]
  by_cases ha:a=r
  ·subst ha;rw [if_pos hri];simp
  ·by_cases hai:a<i
   ·simp [hai,ha]
   ·have: ¬a+1=r:=kK
    simp [hai,ha,this]
 ·rw [if_neg hri]
  by_cases ha:a=r-1
  ·subst ha
   have h1: ¬r-1<i:=kK
   have h2:r-1+1=r:=kK
   simp [h1,h2]
  ·by_cases hai:a<i
   ·have: ¬a=r:=kK
    simp [hai,ha,this]
   ·have: ¬a+1=r:=kK
    simp [hai,ha,this]
theorem zKd: ∀(n:Nat) (D:Mx) (r:Nat) (u v:V),r<n→det n (put D r (fun c=>u c+v c))=det n (put D r u)+det n (put D r v)
 |0,_,_,_,_,h=>absurd h (Nat.not_lt_zero _)
 |n+1,D,r,u,v,h=>by
  rw [det,det,det,←zDd]
  refine zw (fun i hi=> ?_)
  by_cases hir:i=r
  ·subst hir
   rw [zDa,zDa,zDa]
   have e: ∀w:V,put D i w i 0=w 0:=fun w=>by simp [put]
   rw [e,e,e,Int.add_mul,Int.mul_add]
  ·have e: ∀w:V,put D r w i 0=D i 0:=fun w=>by simp [put,hir]
   rw [zHt hir,zHt hir,zHt hir,e,e,e,zKd n _ _ _ _ (by split<;>omega),Int.mul_add,Int.mul_add]
theorem zHa: ∀(n:Nat) (D:Mx) (r:Nat) (k:Int) (v:V),r<n→det n (put D r (fun c=>k*v c))=k*det n (put D r v)
 |0,_,_,_,_,h=>absurd h (Nat.not_lt_zero _)
 |n+1,D,r,k,v,h=>by
  rw [det,det,←zBY]
  refine zw (fun i hi=> ?_)
  by_cases hir:i=r
  ·subst hir
   rw [zDa,zDa]
   have e: ∀w:V,put D i w i 0=w 0:=fun w=>by simp [put]
   rw [e,e,Int.mul_left_comm k,Int.mul_assoc]
  ·have e: ∀w:V,put D r w i 0=D i 0:=fun w=>by simp [put,hir]
   rw [zHt hir,zHt hir,e,e,zHa n _ _ _ _ (by split<;>omega),Int.mul_left_comm k,Int.mul_left_comm k]
theorem zJH (n:Nat)(D:Mx)(r:Nat)(h:r<n):det n (put D r (fun _=>0))=0:=by
 have:=zHa n D r 0 (fun _=>0) h
 simpa using this
theorem zNO: ∀(n:Nat) (D:Mx) (r:Nat),r+1<n→(∀c,c<n→D r c=D (r+1) c)→det n D=0
 |0,_,_,h,_=>absurd h (Nat.not_lt_zero _)
 |n+1,D,r,h,he=>by
  rw [det,zPN r (r+1) kK h kK (fun i hi h1 h2=> ?_)]
  ·have e:det n (skip r D)=det n (skip (r+1) D):=zDt (fun a c ha hc=>by
    unfold skip
    by_cases h1:a<r
    ·rw [if_pos h1,if_pos kK]
    ·rw [if_neg h1]
     by_cases h2:a<r+1
     ·have:a=r:=kK
      subst this
      rw [if_pos h2];exact (he _ kK).symm
     ·rw [if_neg h2])
   rw [e,he 0 kK,sg,Int.neg_mul]
   omega
  ·have:=zNO n (skip i D) (if r<i then r else r-1) (by split<;>omega) (fun c hc=>by
    unfold skip
    by_cases hri:r<i
    ·rw [if_pos hri,if_pos (show r<i from hri),if_pos (show r+1<i by omega)]
     exact he _ kK
    ·have e1: ¬r-1<i:=kK
     have e2: ¬r-1+1<i:=kK
     rw [if_neg hri,if_neg e1,if_neg e2,show r-1+1=r by omega]
     exact he _ kK)
   rw [this,Int.mul_zero,Int.mul_zero]
theorem zLS (D:Mx){r s:Nat}(u v:V)(h:r≠s):put (put D r u) s v=put (put D s v) r u:=by
 funext a
 unfold put
 by_cases h1:a=s
 ·have: ¬a=r:=fun e=>h (e.symm.trans h1)
  simp [h1]
  intro e;exact absurd e.symm h
 ·simp [h1]
theorem zLT (D:Mx)(r:Nat):put D r (D r)=D:=by
 funext a;unfold put;split
 ·rename_i h;rw [h]
 ·rfl
theorem det_swap (n:Nat)(D:Mx)(r:Nat)(u v:V)(h:r+1<n):det n (put (put D r u) (r+1) v)= -det n (put (put D r v) (r+1) u):=by
 have key: ∀w:V,det n (put (put D r w) (r+1) w)=0:=fun w=>zNO n _ r h (fun c _=>by unfold put;simp)
 have h0:=key (fun c=>u c+v c)
 have add0: ∀w:V,det n (put (put D r (fun c=>u c+v c)) (r+1) w)=det n (put (put D r u) (r+1) w)+det n (put (put D r v) (r+1) w):=fun w=>by
  rw [zLS D _ w kK,zKd n _ _ _ _ kK,zLS D u w kK,zLS D v w kK]
 rw [zKd n _ _ _ _ h,add0,add0] at h0
 have h1:=key u
 have h2:=key v
 omega
theorem zPn: ∀(k:Nat) (n:Nat) (D:Mx) (r:Nat),r+(k+1)<n→(∀c,c<n→D r c=D (r+(k+1)) c)→det n D=0
 |0,n,D,r,h,he=>zNO n D r h he
 |k+1,n,D,r,h,he=>by
  have e:D=put (put D (r+(k+1)) (D (r+(k+1)))) (r+(k+1)+1) (D (r+(k+1)+1)):=by
   rw [zLT,zLT]
  rw [e,det_swap n D (r+(k+1)) _ _ kK,zPn k n _ r kK (fun c hc=> ?_)]
  ·rfl
  ·have h1: ¬r=r+(k+1)+1:=kK
   have h2: ¬r=r+(k+1):=kK
   have h3: ¬r+(k+1)=r+(k+1)+1:=kK
   unfold put
   rw [if_neg h1,if_neg h2,if_neg h3,if_pos rfl]
   exact he c hc
theorem det_rep (n:Nat)(D:Mx){r s:Nat}(hr:r<n)(hs:s<n)(hne:r≠s):det n (put D r (D s))=0:=by
 rcases Nat.lt_or_gt_of_ne hne with h|h
 ·refine zPn (s-r-1) n _ r kK (fun c _=> ?_)
  rw [show r+(s-r-1+1)=s by omega]
  have: ¬s=r:=fun e=>hne e.symm
  simp [put,this]
 ·refine zPn (r-s-1) n _ s kK (fun c _=> ?_)
  rw [show s+(r-s-1+1)=r by omega]
  have: ¬s=r:=fun e=>hne e.symm
  simp [put,this]
theorem zOM (n:Nat)(D:Mx)(r:Nat)(hr:r<n)(t:V): ∀k,k≤n→det n (put D r (fun c=>zAE (fun i=>t i*D i c) k))=if r<k then t r*det n D else 0
 |0,_=>by
  rw [if_neg (Nat.not_lt_zero _)]
  exact zJH n D r hr
 |k+1,hk=>by
  have ih:=zOM n D r hr t k kK
  have e:(fun c=>zAE (fun i=>t i*D i c) (k+1))=(fun c=>(fun c=>zAE (fun i=>t i*D i c) k) c+(fun c=>t k*D k c) c):=rfl
  rw [e,zKd n D r _ _ hr,ih,zHa n D r _ _ hr]
  by_cases hkr:k=r
  ·subst hkr
   rw [if_neg kK,if_pos kK,zLT];omega
  ·rw [det_rep n D hr kK (fun e=>hkr e.symm),Int.mul_zero,Int.add_zero]
   by_cases h1:r<k
   ·rw [if_pos h1,if_pos kK]
   ·rw [if_neg h1,if_neg kK]
theorem zFH {n:Nat}{D:Mx}{r:Nat}(hr:r<n){t w:V}(h: ∀c,c<n→w c=zAE (fun i=>t i*D i c) n):det n (put D r w)=t r*det n D:=by
 have:=zOM n D r hr t n (Nat.le_refl _)
 rw [if_pos hr] at this
 rw [←this]
 refine zDt (fun a c _ hc=> ?_)
 unfold put
 split
 ·exact h c hc
 ·rfl
def zLx:Mx:=fun a c=>if a=c then 1 else 0
theorem zOO: ∀n:Nat,det n zLx=1
 |0=>rfl
 |n+1=>by
  rw [det,zEv 0 kK (fun i hi hne=>by simp [zLx,hne])]
  have:det n (skip 0 zLx)=det n zLx:=zDt (fun a c _ _=>by simp [skip,zLx])
  rw [this,zOO n];simp [sg,zLx]
theorem zKP {f:Nat→Int}{B:Nat}: ∀{n:Nat},(∀i,i<n→(f i).natAbs≤B)→(zAE f n).natAbs≤n*B
 |0,_=>by simp [zAE]
 |n+1,h=>by
  rw [zAE]
  have h1:=zKP (n:=n) (fun i hi=>h i kK)
  have h2:=h n kK
  have h3:=Int.natAbs_add_le (zAE f n) (f n)
  rw [Nat.add_mul];omega
theorem sg_abs: ∀n,(sg n).natAbs=1
 |0=>rfl
 |n+1=>by rw [sg,Int.natAbs_neg,sg_abs n]
def fct:Nat→Nat
 |0=>1
 |n+1=>(n+1)*fct n
theorem zJt {B:Nat}: ∀{n:Nat} {D:Mx},(∀a c,a<n→c<n→(D a c).natAbs≤B)→(det n D).natAbs≤fct n*B^n
 |0,_,_=>by simp [det,fct]
 |n+1,D,h=>by
  rw [det]
  have:=zKP (f:=fun i=>sg i*(D i 0*det n (skip i D))) (B:=B*(fct n*B^n)) (n:=n+1) (fun i hi=>by
   rw [Int.natAbs_mul,Int.natAbs_mul,sg_abs,Nat.one_mul]
   refine Nat.mul_le_mul (h i 0 hi kK) (zJt (fun a c ha hc=> ?_))
   unfold skip
   exact h _ _ (by split<;>omega) kK)
  refine Nat.le_trans this ?_
  rw [fct,Nat.pow_succ]
  have e:(n+1)*(B*(fct n*B^n))=(n+1)*fct n*(B^n*B):=by
   rw [Nat.mul_left_comm B,Nat.mul_comm B,Nat.mul_assoc]
  omega
def Sol (n:Nat)(D:Mx)(d:Int)(t0 t:V):Prop:= ∀c,c<n→zAE (fun i=>t i*D i c) n=d*t0 c
theorem zRZ {n:Nat}{D:Mx}{d s:Int}{t0 t:V}(hd:d≠0)(hs:s*s=1)(hD:det n D=s*d)(h:Sol n D d t0 t){i:Nat}(hi:i<n):t i=s*det n (put D i t0):=by
 have h1:=zFH (w:=fun c=>d*t0 c) hi (fun c hc=>(h c hc).symm)
 rw [zHa n D i d t0 hi,hD] at h1
 have h2:d*det n (put D i t0)=d*(s*t i):=by rw [h1,Int.mul_left_comm,Int.mul_comm (t i) d,Int.mul_left_comm]
 have h3:=Int.eq_of_mul_eq_mul_left hd h2
 rw [h3,←Int.mul_assoc,hs,Int.one_mul]
theorem zMn {n:Nat}{D:Mx}{d s:Int}{t0 t:V}(hd:d≠0)(hs:s*s=1)(hD:det n D=s*d)(h:Sol n D d t0 t){r:Nat}(hr:r<n):det n (put D r t0)=s*t r:=by
 rw [zRZ hd hs hD h hr,←Int.mul_assoc,hs,Int.one_mul]
theorem sumZ_put {n:Nat}{D:Mx}{r:Nat}(hr:r<n)(v:V)(t:V)(c:Nat):zAE (fun i=>t i*put D r v i c) n=zAE (fun i=>t i*D i c) n-t r*D r c+t r*v c:=by
 have e: ∀i,i<n→t i*put D r v i c=t i*D i c+(if i=r then t r*v c-t r*D r c else 0):=by
  intro i hi
  by_cases hir:i=r
  ·subst hir;simp [put];omega
  ·simp [put,hir]
 rw [zw e,zDd,zEv (f:=fun i=>if i=r then t r*v c-t r*D r c else 0) r hr (fun i hi hne=>by simp [hne])]
 simp;omega
theorem zMo {n:Nat}{D:Mx}{d s:Int}{tc0 tc tj0 tj:V}(hd:d≠0)(hs:s*s=1)(hD:det n D=s*d)(hc:Sol n D d tc0 tc)(hj:Sol n D d tj0 tj){r:Nat}(hr:r<n)(hp:tc r≠0):
 (∀i,i<n→i≠r→d∣tj i*tc r-tc i*tj r)∧Sol n (put D r tc0) (tc r) tj0 (fun i=>if i=r then tj r else (tj i*tc r-tc i*tj r)/d):=by
 have hD':=zMn hd hs hD hc hr
 --the numerators are a solution of d times the new equation
 let N:V:=fun i=>if i=r then d*tj r else tj i*tc r-tc i*tj r
 have hN: ∀c,c<n→zAE (fun i=>N i*put D r tc0 i c) n=d*tc r*tj0 c:=by
  intro c hcn
  rw [sumZ_put hr]
  have e: ∀i,i<n→N i*D i c=(tc r*(tj i*D i c)+(-(tj r))*(tc i*D i c))+(if i=r then d*tj r*D r c else 0):=by
   intro i hi
   by_cases hir:i=r
   ·subst hir
    simp only [N,if_true]
    have:tc i*(tj i*D i c)+ -tj i*(tc i*D i c)=0:=by
     rw [Int.neg_mul,Int.mul_left_comm];omega
    omega
   ·simp only [N,hir,if_false,Int.add_zero]
    rw [Int.sub_mul,Int.neg_mul,Int.mul_comm (tj i) (tc r),Int.mul_assoc,Int.mul_comm (tc i) (tj r),Int.mul_assoc];omega
  rw [zw e,zDd,zDd,zBY,zBY,hj c hcn,hc c hcn,zEv (f:=fun i=>if i=r then d*tj r*D r c else 0) r hr (fun i hi hne=>by simp [hne])]
  simp only [N,if_true]
  have e1:tc r*(d*tj0 c)=d*tc r*tj0 c:=by rw [←Int.mul_assoc,Int.mul_comm (tc r) d]
  have e2: -tj r*(d*tc0 c)= -(d*tj r*tc0 c):=by rw [Int.neg_mul,←Int.mul_assoc,Int.mul_comm (tj r) d]
  rw [e1,e2];omega
 have hex: ∀i,i<n→N i=d*(s*det n (put (put D r tc0) i tj0)):=by
  intro i hi
  have h1:=zFH (D:=put D r tc0) (w:=fun c=>d*tc r*tj0 c) hi (fun c hcn=>(hN c hcn).symm)
  rw [zHa n _ i (d*tc r) tj0 hi,hD'] at h1
  have h2:tc r*(d*(s*det n (put (put D r tc0) i tj0)))=tc r*N i:=by
   have h3:s*(d*tc r*det n (put (put D r tc0) i tj0))=s*(N i*(s*tc r)):=by rw [h1]
   have h4:s*(N i*(s*tc r))=tc r*N i:=by
    rw [Int.mul_left_comm,←Int.mul_assoc s s,hs,Int.one_mul,Int.mul_comm]
   rw [h4] at h3
   rw [←h3]
   rw [Int.mul_assoc d,Int.mul_left_comm s d,Int.mul_left_comm s (tc r),Int.mul_left_comm d (tc r)]
  exact (Int.eq_of_mul_eq_mul_left hp h2).symm
 refine ⟨fun i hi hne=> ?_,?_⟩
 ·have:=hex i hi
  simp only [N,hne,if_false] at this
  exact ⟨_,this⟩
 ·intro c hcn
  have h1:=hN c hcn
  have h2: ∀i,i<n→N i*put D r tc0 i c=d*((fun i=>if i=r then tj r else (tj i*tc r-tc i*tj r)/d) i*put D r tc0 i c):=by
   intro i hi
   by_cases hir:i=r
   ·subst hir;simp only [N,if_true];rw [Int.mul_assoc]
   ·have h3:=hex i hi
    simp only [N,hir,if_false] at h3⊢
    have h4:(tj i*tc r-tc i*tj r)/d=s*det n (put (put D r tc0) i tj0):=by rw [h3,Int.mul_ediv_cancel_left _ hd]
    rw [h4,←Int.mul_assoc,←h3]
  rw [zw h2,zBY,Int.mul_assoc d] at h1
  exact Int.eq_of_mul_eq_mul_left hd h1
def zEA (x d:Int):Int:=if (decide (x<0) !=decide (d<0))=true then-((x.natAbs/d.natAbs:Nat):Int) else ((x.natAbs/d.natAbs:Nat):Int)
theorem zIB {q d:Int}(hd:d≠0):zEA (d*q) d=q:=by
 have hn:(d*q).natAbs/d.natAbs=q.natAbs:=by rw [Int.natAbs_mul,Nat.mul_div_cancel_left _ kK]
 unfold zEA
 rw [hn]
 rcases Int.lt_trichotomy q 0 with hq|hq|hq
 ·rcases Int.lt_or_gt_of_ne hd with h|h
  ·have h1: ¬d*q<0:=Int.not_lt.2 (Int.le_of_lt (Int.mul_pos_of_neg_of_neg h hq))
   simp [h,h1];omega
  ·have h1:d*q<0:=Int.mul_neg_of_pos_of_neg h hq
   have h2: ¬d<0:=kK
   simp [h1,h2];omega
 ·subst hq;simp
 ·rcases Int.lt_or_gt_of_ne hd with h|h
  ·have h1:d*q<0:=Int.mul_neg_of_neg_of_pos h hq
   simp [h,h1];omega
  ·have h1: ¬d*q<0:=Int.not_lt.2 (Int.le_of_lt (Int.mul_pos h hq))
   have h2: ¬d<0:=kK
   simp [h1,h2];omega
theorem zMU {x d:Int}(hd:d≠0)(h:d∣x):zEA x d=x/d:=by
 obtain ⟨q,rfl⟩:=h
 rw [zIB hd,Int.mul_ediv_cancel_left _ hd]
abbrev Tab:=List (List Int)
def at2 (T:Tab)(i j:Nat):Int:=(T.getD i []).getD j 0
def zFv (R K:List Int)(p f d:Int):List Int:=(List.range R.length).map (fun j=>zEA (R.getD j 0*p-f*K.getD j 0) d)
def zE8 (T:Tab)(k c:Nat)(d:Int):Tab:=(List.range T.length).map (fun i=>if i=k then T.getD k [] else zFv (T.getD i []) (T.getD k []) (at2 T k c) (at2 T i c) d)
theorem getD_set {α:Type}(l:List α)(d x:α)(i j:Nat):(l.set i x).getD j d=if j=i∧i<l.length then x else l.getD j d:=by
 by_cases h:j=i
 ·subst h
  by_cases h2:j<l.length
  ·simp [List.getD,h2]
  ·have:l.length≤j:=kK
   simp [List.getD,h2,this]
 ·have: ¬i=j:=fun e=>h e.symm
  simp [List.getD,h,List.getElem?_set,this]
theorem zJv (T:Tab)(k c:Nat)(d:Int):(zE8 T k c d).length=T.length:=by simp [zE8]
theorem zR7 (T:Tab)(k c:Nat)(d:Int){i:Nat}(hi:i<T.length):(zE8 T k c d).getD i []=if i=k then T.getD k [] else zFv (T.getD i []) (T.getD k []) (at2 T k c) (at2 T i c) d:=by
 unfold zE8
 simp [List.getD,hi]
theorem zN5 (T:Tab)(k c:Nat)(d:Int){L:Nat}(hT: ∀x∈T,x.length=L){i j:Nat}(hi:i<T.length)(hj:j<L):at2 (zE8 T k c d) i j=if i=k then at2 T k j else zEA (at2 T i j*at2 T k c-at2 T i c*at2 T k j) d:=by
 unfold at2
 rw [zR7 T k c d hi]
 have hl:(T.getD i []).length=L:=hT _ (by simp [List.getD,hi])
 by_cases h:i=k
 ·rw [if_pos h,if_pos h]
 ·rw [if_neg h,if_neg h]
  unfold zFv
  rw [hl]
  have: ∀f:Nat→Int,((List.range L).map f).getD j 0=f j:=fun f=>by simp [List.getD,hj]
  rw [this];rfl
theorem zOQ (R K:List Int)(p f d:Int):(zFv R K p f d).length=R.length:=by simp [zFv]
theorem zJw (T:Tab)(k c:Nat)(d:Int){L:Nat}(hk:k<T.length)(hT: ∀x∈T,x.length=L): ∀x∈zE8 T k c d,x.length=L:=by
 intro x hx
 obtain ⟨i,hi,rfl⟩:=List.mem_map.1 hx
 have hi:i<T.length:=by simpa using hi
 split
 ·exact hT _ (by simp [List.getD,hk])
 ·rw [zOQ];exact hT _ (by simp [List.getD,hi])
end Go.Ax.Dt
namespace Go.Ax.Sx
open Go.Ax.Dt
structure St where
 rows:Tab
 den:Int
 basis:List Nat
def zIe (T:Tab)(j:Nat):V:=fun i=>at2 T i j
def zDT (M:Tab)(m:Nat)(β:List Nat):Mx:=fun a=>if a<m then zIe M (β.getD a 0) else fun c=>if c=a then 1 else 0
structure Inv (m N:Nat)(M:Tab)(s:St):Prop where
 n:s.rows.length=m+1
 row: ∀x∈s.rows,x.length=N+1
 b:s.basis.length=m
 bc: ∀i,i<m→s.basis.getD i 0<N
 dp:0<s.den
 unit: ∀i k,i<m+1→k<m→at2 s.rows i (s.basis.getD k 0)=if i=k then s.den else 0
 sg: ∃σ:Int,σ*σ=1∧det (m+1) (zDT M m s.basis)=σ*s.den
 sol: ∀j,j<N+1→Sol (m+1) (zDT M m s.basis) s.den (zIe M j) (zIe s.rows j)
def sgZ (p:Int):Int:=if p<0 then-1 else 1
theorem sgZ_sq (p:Int):sgZ p*sgZ p=1:=by unfold sgZ;split<;>rfl
theorem zRY {p:Int}(h:p≠0):0<sgZ p*p:=by
 unfold sgZ
 split
 ·omega
 ·omega
def zFL (T:Tab)(r c:Nat)(d:Int):Tab:=if at2 T r c<0 then (zE8 T r c d).map (fun l=>l.map (fun x=> -x)) else zE8 T r c d
def piv (s:St)(r c:Nat):St:=⟨zFL s.rows r c s.den,if at2 s.rows r c<0 then-(at2 s.rows r c) else at2 s.rows r c,s.basis.set r c⟩
theorem zJT (s:St)(r c:Nat):(piv s r c).den=sgZ (at2 s.rows r c)*at2 s.rows r c:=by
 show (if at2 s.rows r c<0 then-(at2 s.rows r c) else at2 s.rows r c)=_
 unfold sgZ
 split<;>omega
theorem at2_neg (T:Tab)(i j:Nat):at2 (T.map (fun l=>l.map (fun x=> -x))) i j= -(at2 T i j):=by
 unfold at2
 simp only [List.getD,List.getElem?_map]
 cases h:T[i]? with
 |none=>rfl
 |some l=>
  show ((l.map (fun x=> -x))[j]?).getD 0= -((l[j]?).getD 0)
  rw [List.getElem?_map]
  cases l[j]? <;>rfl
theorem zQf (T:Tab)(r c:Nat)(d:Int){L:Nat}(hT: ∀x∈T,x.length=L){i j:Nat}(hi:i<T.length)(hj:j<L):
 at2 (zFL T r c d) i j=sgZ (at2 T r c)*(if i=r then at2 T r j else zEA (at2 T i j*at2 T r c-at2 T i c*at2 T r j) d):=by
 unfold zFL sgZ
 split
 ·rw [at2_neg,zN5 T r c d hT hi hj];omega
 ·rw [zN5 T r c d hT hi hj,Int.one_mul]
theorem zLQ (T:Tab)(r c:Nat)(d:Int):(zFL T r c d).length=T.length:=by
 unfold zFL
 split
 ·rw [List.length_map,zJv]
 ·rw [zJv]
theorem pivT_row (T:Tab)(r c:Nat)(d:Int){L:Nat}(hr:r<T.length)(hT: ∀x∈T,x.length=L): ∀x∈zFL T r c d,x.length=L:=by
 unfold zFL
 split
 ·intro x hx
  obtain ⟨y,hy,rfl⟩:=List.mem_map.1 hx
  rw [List.length_map]
  exact zJw T r c d hr hT y hy
 ·exact zJw T r c d hr hT
theorem basM_set {M:Tab}{m:Nat}{β:List Nat}(hb:β.length=m){r:Nat}(hr:r<m)(c:Nat):zDT M m (β.set r c)=put (zDT M m β) r (zIe M c):=by
 funext a
 show (if a<m then zIe M ((β.set r c).getD a 0) else _)=if a=r then zIe M c else (if a<m then zIe M (β.getD a 0) else _)
 by_cases ha:a<m
 ·rw [if_pos ha,if_pos ha,getD_set]
  by_cases h:a=r
  ·rw [if_pos ⟨h.symm▸rfl,kK⟩,if_pos h]
  ·rw [if_neg (fun q=>h q.1),if_neg h]
 ·rw [if_neg ha,if_neg ha,if_neg kK]
theorem zSu {n:Nat}{D:Mx}{d:Int}{t0 t t':V}(h:Sol n D d t0 t)(he: ∀i,i<n→t' i=t i):Sol n D d t0 t':=by
 intro c hc
 rw [←h c hc]
 exact zw (fun i hi=>by rw [he i hi])
theorem sol_smul {n:Nat}{D:Mx}{d:Int}{t0 t:V}(k:Int)(h:Sol n D d t0 t):Sol n D (k*d) t0 (fun i=>k*t i):=by
 intro c hc
 rw [Int.mul_assoc,←h c hc,←zBY]
 exact zw (fun i hi=>Int.mul_assoc _ _ _)
theorem Inv.piv {m N:Nat}{M:Tab}{s:St}(h:Inv m N M s){r c:Nat}(hr:r<m)(hc:c<N)(hp:at2 s.rows r c≠0):Inv m N M (piv s r c):=by
 obtain ⟨σ,hs,hD⟩:=h.sg
 have hd:s.den≠0:=by have:=h.dp;omega
 have hr1:r<m+1:=kK
 have hrl:r<s.rows.length:=by rw [h.n];omega
 have hb:=basM_set (M:=M) h.b hr c
 have hpz:=zRY hp
 have hat: ∀i j,i<m+1→j<N+1→at2 (Sx.piv s r c).rows i j=sgZ (at2 s.rows r c)*(if i=r then at2 s.rows r j else zEA (at2 s.rows i j*at2 s.rows r c-at2 s.rows i c*at2 s.rows r j) s.den):=fun i j hi hj=>zQf s.rows r c s.den h.row (by rw [h.n];exact hi) hj
 refine ⟨?_,?_,?_,?_,?_,?_,?_,?_⟩
 ·show (zFL _ _ _ _).length=_
  rw [zLQ,h.n]
 ·exact pivT_row s.rows r c s.den hrl h.row
 ·show (s.basis.set r c).length=m
  rw [List.length_set,h.b]
 ·intro i hi
  show (s.basis.set r c).getD i 0<N
  rw [getD_set]
  split
  ·exact hc
  ·exact h.bc i hi
 ·rw [zJT];exact hpz
 ·intro i k hi hk
  have hbk:(Sx.piv s r c).basis.getD k 0=if k=r then c else s.basis.getD k 0:=by
   show (s.basis.set r c).getD k 0=_
   rw [getD_set]
   by_cases e:k=r
   ·rw [if_pos ⟨e,by rw [h.b];exact hr⟩,if_pos e]
   ·rw [if_neg (fun q=>e q.1),if_neg e]
  rw [hbk,zJT]
  by_cases e:k=r
  ·subst e
   rw [if_pos rfl,hat i c hi kK]
   by_cases e2:i=k
   ·rw [if_pos e2,if_pos e2]
   ·rw [if_neg e2,if_neg e2]
    have:at2 s.rows i c*at2 s.rows k c-at2 s.rows i c*at2 s.rows k c=s.den*0:=kK
    rw [this,zIB hd,Int.mul_zero]
  ·have hrk:at2 s.rows r (s.basis.getD k 0)=0:=by rw [h.unit r k hr1 hk,if_neg (fun q=>e q.symm)]
   have hik:=h.unit i k hi hk
   rw [if_neg e,hat i _ hi (by have:=h.bc k hk;omega),hrk,hik]
   by_cases e2:i=k
   ·have e5: ¬i=r:=fun q=>e (e2▸q)
    rw [if_neg e5,if_pos e2,if_pos e2,Int.mul_zero,Int.sub_zero,zIB hd]
   ·rw [if_neg e2,if_neg e2]
    by_cases e3:i=r
    ·rw [if_pos e3,Int.mul_zero]
    ·rw [if_neg e3,Int.mul_zero,Int.sub_zero]
     have:(0:Int)*at2 s.rows r c=s.den*0:=kK
     rw [this,zIB hd,Int.mul_zero]
 ·refine ⟨sgZ (at2 s.rows r c)*σ,?_,?_⟩
  ·have:=sgZ_sq (at2 s.rows r c)
   rw [Int.mul_assoc,Int.mul_left_comm σ,hs,Int.mul_one,this]
  ·show det (m+1) (zDT M m (s.basis.set r c))=_
   rw [hb,zMn hd hs hD (h.sol c kK) hr1,zJT]
   have:=sgZ_sq (at2 s.rows r c)
   show σ*at2 s.rows r c=_
   rw [Int.mul_assoc,Int.mul_left_comm σ,←Int.mul_assoc,this,Int.one_mul]
 ·intro j hj
  show Sol (m+1) (zDT M m (s.basis.set r c)) _ _ _
  rw [hb,zJT]
  obtain ⟨p1,p2⟩:=zMo hd hs hD (h.sol c kK) (h.sol j hj) hr1 hp
  refine zSu (sol_smul (sgZ (at2 s.rows r c)) p2) (fun i hi=> ?_)
  show at2 (Sx.piv s r c).rows i j=_
  rw [hat i j hi hj]
  by_cases e:i=r
  ·rw [if_pos e,if_pos e];rfl
  ·rw [if_neg e,if_neg e]
   have:=zMU hd (p1 i hi e)
   show _*zEA (zIe s.rows j i*zIe s.rows c r-zIe s.rows c i*zIe s.rows j r) s.den=_
   rw [this]
theorem Inv.bound {m N B:Nat}{M:Tab}{s:St}(h:Inv m N M s)(h1:1≤B)(hB: ∀i j,i<m+1→j<N+1→(at2 M i j).natAbs≤B):
 (∀i j,i<m+1→j<N+1→(at2 s.rows i j).natAbs≤fct (m+1)*B^(m+1))∧s.den.natAbs≤fct (m+1)*B^(m+1):=by
 obtain ⟨σ,hs,hD⟩:=h.sg
 have hσ:σ.natAbs=1:=by
  have:=congrArg Int.natAbs hs
  rw [Int.natAbs_mul] at this
  exact Nat.eq_one_of_mul_eq_one_right (by simpa using this)
 have hd:s.den≠0:=by have:=h.dp;omega
 have hbas: ∀a c,a<m+1→c<m+1→(zDT M m s.basis a c).natAbs≤B:=by
  intro a c ha hc
  unfold zDT
  split
  ·rename_i h2
   exact hB c _ hc (by have:=h.bc a h2;omega)
  ·show (if c=a then (1:Int) else 0).natAbs≤B
   split
   ·exact h1
   ·exact Nat.zero_le _
 refine ⟨fun i j hi hj=> ?_,?_⟩
 ·have h2:=zRZ hd hs hD (h.sol j hj) hi
  have h3:at2 s.rows i j=σ*det (m+1) (put (zDT M m s.basis) i (zIe M j)):=h2
  rw [h3,Int.natAbs_mul,hσ,Nat.one_mul]
  refine zJt (fun a c ha hc=> ?_)
  unfold put
  split
  ·exact hB c j hc hj
  ·exact hbas a c ha hc
 ·have h2:(det (m+1) (zDT M m s.basis)).natAbs=s.den.natAbs:=by rw [hD,Int.natAbs_mul,hσ,Nat.one_mul]
  rw [←h2]
  exact zJt hbas
theorem zHG (f:Nat→Nat→Int)(m:Nat): ∀n:Nat,zAE (fun i=>zAE (fun j=>f i j) m) n=zAE (fun j=>zAE (fun i=>f i j) n) m
 |0=>by
  show (0:Int)=_
  rw [zCM (f:=fun j=>zAE (fun i=>f i j) 0) (fun i _=>rfl)]
 |n+1=>by
  show zAE (fun i=>zAE (fun j=>f i j) m) n+zAE (fun j=>f n j) m=_
  rw [zHG f m n,←zDd]
  exact zw (fun i _=>rfl)
theorem zS1 (c:Int)(f:Nat→Int)(n:Nat):zAE (fun i=>f i*c) n=zAE f n*c:=by
 rw [Int.mul_comm,←zBY]
 exact zw (fun i _=>Int.mul_comm _ _)
theorem zCh {f:Nat→Int}{n k:Nat}(hk:k<n):zAE (fun j=>if j=k then f j else 0) n=f k:=by
 rw [zEv k hk (fun i hi hne=>by rw [if_neg hne]),if_pos rfl]
theorem zPM: ∀{n:Nat} {f:Nat→Int},0<zAE f n→ ∃i,i<n∧0<f i
 |0,f,h=>absurd h (by show¬(0:Int)<0;omega)
 |n+1,f,h=>by
  have h:0<zAE f n+f n:=h
  by_cases h1:0<f n
  ·exact ⟨n,Nat.lt_succ_self n,h1⟩
  ·obtain ⟨i,hi,h2⟩:=zPM (n:=n) (f:=f) kK
   exact ⟨i,kK,h2⟩
def zCF (T:Tab)(N:Nat)(x:Nat→Int)(i:Nat):Int:=zAE (fun j=>at2 T i j*x j) (N+1)
theorem Inv.ker {m N:Nat}{M:Tab}{s:St}(h:Inv m N M s)(x:Nat→Int)(z:Int):
 (∀i,i<m+1→zCF M N x i+(if i=m then z else 0)=0)↔(∀i,i<m+1→zCF s.rows N x i+(if i=m then s.den*z else 0)=0):=by
 obtain ⟨σ,hs,hD⟩:=h.sg
 have hd:s.den≠0:=by have:=h.dp;omega
 let t:V:=fun i=>zCF s.rows N x i+(if i=m then s.den*z else 0)
 have key: ∀c,c<m+1→zAE (fun i=>t i*zDT M m s.basis i c) (m+1)=s.den*(zCF M N x c+(if c=m then z else 0)):=by
  intro c hc
  have e1: ∀i,i<m+1→t i*zDT M m s.basis i c=zAE (fun j=>x j*(at2 s.rows i j*zDT M m s.basis i c)) (N+1)+(if i=m then s.den*z*(if c=m then 1 else 0) else 0):=by
   intro i hi
   show (zCF s.rows N x i+_)*_=_
   rw [Int.add_mul]
   congr 1
   ·unfold zCF
    rw [←zS1]
    exact zw (fun j _=>by rw [Int.mul_comm (at2 s.rows i j),Int.mul_assoc])
   ·by_cases e:i=m
    ·subst e
     rw [if_pos rfl,if_pos rfl]
     congr 1
     unfold zDT
     rw [if_neg kK]
    ·rw [if_neg e,if_neg e,Int.zero_mul]
  rw [zw e1,zDd,zHG,zCh (f:=fun i=>s.den*z*(if c=m then 1 else 0)) (Nat.lt_succ_self m)]
  have e2: ∀j,j<N+1→zAE (fun i=>x j*(at2 s.rows i j*zDT M m s.basis i c)) (m+1)=s.den*(at2 M c j*x j):=by
   intro j hj
   rw [zBY]
   have:=h.sol j hj c hc
   have:zAE (fun i=>at2 s.rows i j*zDT M m s.basis i c) (m+1)=s.den*at2 M c j:=this
   rw [this,Int.mul_left_comm,Int.mul_comm (x j)]
  rw [zw e2,zBY,Int.mul_add]
  congr 1
  split
  ·rw [Int.mul_one]
  ·rw [Int.mul_zero,Int.mul_zero]
 constructor
 ·intro h0 i hi
  have h1:=zFH (D:=zDT M m s.basis) (t:=t) (w:=fun _=>0) hi (fun c hc=>by rw [key c hc,h0 c hc,Int.mul_zero])
  rw [zJH (m+1) _ i hi,hD] at h1
  have hσ:σ≠0:=fun e=>by rw [e] at hs;exact absurd hs kV
  rcases Int.mul_eq_zero.1 h1.symm with h2|h2
  ·exact h2
  ·rcases Int.mul_eq_zero.1 h2 with h3|h3
   ·exact absurd h3 hσ
   ·exact absurd h3 hd
 ·intro h0 c hc
  have h1:=key c hc
  rw [zCM (fun i hi=>by show t i*_=0;rw [show t i=0 from h0 i hi,Int.zero_mul])] at h1
  rcases Int.mul_eq_zero.1 h1.symm with h2|h2
  ·exact absurd h2 hd
  ·exact h2
theorem Inv.cross {m N:Nat}{M:Tab}{s s':St}(h:Inv m N M s)(h':Inv m N M s'){i c:Nat}(hi:i<m+1)(hc:c<N+1):
 s.den*at2 s'.rows i c=zAE (fun k=>at2 s'.rows i (s.basis.getD k 0)*at2 s.rows k c) m+(if i=m then s'.den*at2 s.rows m c else 0):=by
 let x:Nat→Int:=fun j=>(if j=c then s.den else 0)-zAE (fun k=>if j=s.basis.getD k 0 then at2 s.rows k c else 0) m
 have hx: ∀(T:Tab) (i:Nat),zCF T N x i=at2 T i c*s.den-zAE (fun k=>at2 T i (s.basis.getD k 0)*at2 s.rows k c) m:=by
  intro T i
  unfold zCF
  have e1: ∀j,j<N+1→at2 T i j*x j=(if j=c then at2 T i j*s.den else 0)+zAE (fun k=>if j=s.basis.getD k 0 then-(at2 T i j*at2 s.rows k c) else 0) m:=by
   intro j hj
   show _*((if j=c then s.den else 0)-_)=_
   rw [Int.mul_sub,Int.sub_eq_add_neg]
   congr 1
   ·split
    ·rfl
    ·rw [Int.mul_zero]
   ·rw [←Int.mul_neg,show-(zAE (fun k=>if j=s.basis.getD k 0 then at2 s.rows k c else 0) m)=zAE (fun k=> -1*(if j=s.basis.getD k 0 then at2 s.rows k c else 0)) m from by rw [zBY];omega,←zBY]
    exact zw (fun k _=>by
     split
     ·rw [Int.neg_mul,Int.one_mul,Int.mul_neg]
     ·rw [Int.mul_zero,Int.mul_zero])
  rw [zw e1,zDd,zCh (f:=fun j=>at2 T i j*s.den) hc,zHG,Int.sub_eq_add_neg]
  congr 1
  have e2: ∀k,k<m→zAE (fun j=>if j=s.basis.getD k 0 then-(at2 T i j*at2 s.rows k c) else 0) (N+1)= -1*(at2 T i (s.basis.getD k 0)*at2 s.rows k c):=by
   intro k hk
   rw [zCh (f:=fun j=> -(at2 T i j*at2 s.rows k c)) (by have:=h.bc k hk;omega)]
   omega
  rw [zw e2,zBY]
  omega
 have h1: ∀i,i<m+1→zCF s.rows N x i+(if i=m then s.den*(-(at2 s.rows m c)) else 0)=0:=by
  intro i hi
  rw [hx]
  by_cases e:i=m
  ·subst e
   rw [if_pos rfl,zCM (fun k hk=>by rw [h.unit i k kK hk,if_neg kK,Int.zero_mul]),Int.mul_neg,Int.mul_comm]
   omega
  ·rw [if_neg e]
   have e3: ∀k,k<m→at2 s.rows i (s.basis.getD k 0)*at2 s.rows k c=if k=i then s.den*at2 s.rows k c else 0:=by
    intro k hk
    rw [h.unit i k hi hk]
    by_cases e4:i=k
    ·rw [if_pos e4,if_pos e4.symm]
    ·rw [if_neg e4,if_neg (fun q=>e4 q.symm),Int.zero_mul]
   rw [zw e3,zCh (f:=fun k=>s.den*at2 s.rows k c) kK,Int.mul_comm]
   omega
 have h2:=(h'.ker x (-(at2 s.rows m c))).1 ((h.ker x (-(at2 s.rows m c))).2 h1) i hi
 rw [hx,Int.mul_comm] at h2
 by_cases e:i=m
 ·rw [if_pos e] at h2⊢
  rw [Int.mul_neg] at h2
  omega
 ·rw [if_neg e] at h2⊢
  omega
def zCm (T:Tab)(m:Nat):Nat→Nat→Nat
 |0,c=>c
 |f+1,c=>if at2 T m c<0 then c else zCm T m f (c+1)
theorem zFf (T:Tab)(m:Nat): ∀f c,c≤zCm T m f c∧zCm T m f c≤c+f∧(∀a,c≤a→a<zCm T m f c→0≤at2 T m a)∧(zCm T m f c<c+f→at2 T m (zCm T m f c)<0)
 |0,c=>⟨Nat.le_refl _,Nat.le_refl _,fun a h1 h2=>absurd h2 (by rw [zCm];omega),fun h=>absurd h (by rw [zCm];omega)⟩
 |f+1,c=>by
  rw [zCm]
  by_cases h:at2 T m c<0
  ·rw [if_pos h]
   exact ⟨Nat.le_refl _,kK,fun a h1 h2=>absurd h2 kK,fun _=>h⟩
  ·rw [if_neg h]
   obtain ⟨h1,h2,h3,h4⟩:=zFf T m f (c+1)
   refine ⟨kK,kK,fun a ha hb=> ?_,fun hb=>h4 kK⟩
   by_cases e:a=c
   ·subst e;omega
   ·exact h3 a kK hb
def zId (T:Tab)(β:List Nat)(c e k b:Nat):Prop:=at2 T k e*at2 T b c<at2 T b e*at2 T k c∨at2 T k e*at2 T b c=at2 T b e*at2 T k c∧β.getD k 0<β.getD b 0
instance (T:Tab)(β:List Nat)(c e k b:Nat):Decidable (zId T β c e k b):=by unfold zId;infer_instance
def zBo (T:Tab)(β:List Nat)(c e:Nat):Nat→Option Nat
 |0=>none
 |k+1=>match zBo T β c e k with
  |none=>if at2 T k c≤0 then none else some k
  |some b=>if at2 T k c≤0 then some b else if zId T β c e k b then some k else some b
theorem zIl (T:Tab)(β:List Nat)(c e:Nat): ∀n,zBo T β c e n=none→ ∀i,i<n→at2 T i c≤0
 |0,_,i,hi=>absurd hi (Nat.not_lt_zero _)
 |n+1,h,i,hi=>by
  rw [zBo] at h
  cases hl:zBo T β c e n with
  |none=>
   rw [hl] at h
   simp only at h
   split at h
   ·rename_i h1
    by_cases e2:i=n
    ·rw [e2];exact h1
    ·exact zIl T β c e n hl i kK
   ·cases h
  |some b=>
   rw [hl] at h
   simp only at h
   split at h
   ·cases h
   ·split at h<;>cases h
theorem zLK {a x y:Int}(ha:0<a)(h:a*x≤a*y):x≤y:=Int.le_of_mul_le_mul_left h ha
structure Least (T:Tab)(β:List Nat)(c e n b:Nat):Prop where
 lt:b<n
 pos:0<at2 T b c
 le: ∀i,i<n→0<at2 T i c→at2 T b e*at2 T i c≤at2 T i e*at2 T b c∧(at2 T b e*at2 T i c=at2 T i e*at2 T b c→β.getD b 0≤β.getD i 0)
theorem zG5 (T:Tab)(β:List Nat)(c e:Nat): ∀n b,zBo T β c e n=some b→Least T β c e n b
 |0,b,h=>by rw [zBo] at h;cases h
 |n+1,b,h=>by
  rw [zBo] at h
  cases hl:zBo T β c e n with
  |none=>
   have hn:=zIl T β c e n hl
   rw [hl] at h
   simp only at h
   split at h
   ·cases h
   ·rename_i h1
    obtain rfl:n=b:=by simpa using h
    refine ⟨Nat.lt_succ_self _,kK,fun i hi hp=> ?_⟩
    by_cases e2:i=n
    ·subst e2
     exact ⟨Int.le_refl _,fun _=>Nat.le_refl _⟩
    ·exact absurd (hn i kK) kK
  |some d=>
   have hd:=zG5 T β c e n d hl
   rw [hl] at h
   simp only at h
   split at h
   ·rename_i h1
    obtain rfl:d=b:=by simpa using h
    refine ⟨by have:=hd.lt;omega,hd.pos,fun i hi hp=> ?_⟩
    by_cases e2:i=n
    ·subst e2;omega
    ·exact hd.le i kK hp
   ·rename_i h1
    have h1:0<at2 T n c:=kK
    split at h
    ·rename_i h2
     obtain rfl:n=b:=by simpa using h
     refine ⟨Nat.lt_succ_self _,h1,fun i hi hp=> ?_⟩
     by_cases e2:i=n
     ·subst e2;exact ⟨Int.le_refl _,fun _=>Nat.le_refl _⟩
     ·obtain ⟨g1,g2⟩:=hd.le i kK hp
      have hdp:=hd.pos
      --n against d,d against i
      have a1:at2 T n e*at2 T d c≤at2 T d e*at2 T n c:=by
       rcases h2 with h2|h2
       ·omega
       ·omega
      have b1:=Int.mul_le_mul_of_nonneg_right a1 (Int.le_of_lt hp)
      have b2:=Int.mul_le_mul_of_nonneg_right g1 (Int.le_of_lt h1)
      have c1:at2 T d c*(at2 T n e*at2 T i c)=at2 T n e*at2 T d c*at2 T i c:=by grind
      have c2:at2 T d c*(at2 T i e*at2 T n c)=at2 T i e*at2 T d c*at2 T n c:=by grind
      have c3:at2 T d e*at2 T n c*at2 T i c=at2 T d e*at2 T i c*at2 T n c:=by grind
      refine ⟨zLK hdp kK,fun he=> ?_⟩
      have d1:at2 T d c*(at2 T n e*at2 T i c)=at2 T d c*(at2 T i e*at2 T n c):=by rw [he]
      --all equal
      have d2:at2 T n e*at2 T d c*at2 T i c=at2 T d e*at2 T n c*at2 T i c:=kK
      have d3:at2 T n e*at2 T d c=at2 T d e*at2 T n c:=Int.eq_of_mul_eq_mul_right kK d2
      have d4:at2 T d e*at2 T i c*at2 T n c=at2 T i e*at2 T d c*at2 T n c:=kK
      have d5:at2 T d e*at2 T i c=at2 T i e*at2 T d c:=Int.eq_of_mul_eq_mul_right kK d4
      rcases h2 with h2|h2
      ·omega
      ·have:=g2 d5
       omega
    ·rename_i h2
     obtain rfl:d=b:=by simpa using h
     refine ⟨by have:=hd.lt;omega,hd.pos,fun i hi hp=> ?_⟩
     by_cases e2:i=n
     ·subst e2
      unfold zId at h2
      refine ⟨kK,fun he=> ?_⟩
      omega
     ·exact hd.le i kK hp
def zCI (m N w:Nat)(s:St):Option St:=
 if zCm s.rows m w 0=w then none
 else match zBo s.rows s.basis (zCm s.rows m w 0) N m with
  |none=>none
  |some r=>some (piv s r (zCm s.rows m w 0))
def zAn (m N w:Nat)(s:St):Nat→St
 |0=>s
 |k+1=>(zCI m N w (zAn m N w s k)).getD (zAn m N w s k)
def zD3 (m N:Nat)(s:St):Prop:= ∀i,i<m→0≤at2 s.rows i N
theorem zKB {m N w:Nat}{s s':St}(h:zCI m N w s=some s'): ∃c r,c<w∧at2 s.rows m c<0∧(∀a,a<c→0≤at2 s.rows m a)∧Least s.rows s.basis c N m r∧s'=piv s r c:=by
 unfold zCI at h
 obtain ⟨e1,e2,e3,e4⟩:=zFf s.rows m w 0
 split at h
 ·cases h
 ·rename_i h1
  split at h
  ·cases h
  ·rename_i r hr
   refine ⟨_,r,kK,e4 kK,fun a ha=>e3 a (Nat.zero_le _) ha,zG5 _ _ _ _ _ _ hr,?_⟩
   exact (Option.some.inj h).symm
theorem Inv.entry {m N:Nat}{M:Tab}{s:St}(h:Inv m N M s){r c:Nat}(hr:r<m)(hc:c<N)(hp:at2 s.rows r c≠0){i j:Nat}(hi:i<m+1)(hj:j<N+1):
 s.den*at2 (Sx.piv s r c).rows i j=sgZ (at2 s.rows r c)*(if i=r then s.den*at2 s.rows r j else at2 s.rows i j*at2 s.rows r c-at2 s.rows i c*at2 s.rows r j):=by
 obtain ⟨σ,hs,hD⟩:=h.sg
 have hd:s.den≠0:=by have:=h.dp;omega
 obtain ⟨p1,_⟩:=zMo hd hs hD (h.sol c kK) (h.sol j hj) (show r<m+1 by omega) hp
 have:=zQf s.rows r c s.den h.row (i:=i) (j:=j) (by rw [h.n];exact hi) hj
 have e:at2 (Sx.piv s r c).rows i j=at2 (zFL s.rows r c s.den) i j:=rfl
 rw [e,this,Int.mul_left_comm]
 congr 1
 by_cases e:i=r
 ·rw [if_pos e,if_pos e]
 ·have e3:=zMU hd (p1 i hi e)
  have e4:=Int.mul_ediv_cancel' (p1 i hi e)
  rw [←e3] at e4
  rw [if_neg e,if_neg e]
  exact e4
theorem Inv.feas_step {m N:Nat}{M:Tab}{s:St}(h:Inv m N M s)(hf:zD3 m N s){r c:Nat}(hc:c<N)(hl:Least s.rows s.basis c N m r):zD3 m N (Sx.piv s r c):=by
 intro i hi
 have hp:=hl.pos
 have h1:=h.entry hl.lt hc kK (i:=i) (j:=N) kK kK
 have hd:=h.dp
 have hsg:sgZ (at2 s.rows r c)=1:=by unfold sgZ;rw [if_neg kK]
 rw [hsg,Int.one_mul] at h1
 have:0≤s.den*at2 (Sx.piv s r c).rows i N:=by
  rw [h1]
  split
  ·exact Int.mul_nonneg (Int.le_of_lt hd) (hf r hl.lt)
  ·by_cases hpi:0<at2 s.rows i c
   ·have:=(hl.le i hi hpi).1
    rw [Int.mul_comm (at2 s.rows i c)]
    omega
   ·have h2:=Int.mul_nonneg (hf i hi) (Int.le_of_lt hp)
    have h3:=Int.mul_nonneg (show 0≤ -(at2 s.rows i c) by omega) (hf r hl.lt)
    rw [Int.neg_mul] at h3
    omega
 exact Int.le_of_mul_le_mul_left (by rw [Int.mul_zero];exact this) hd
theorem pig: ∀(K:Nat) (f:Nat→Nat),(∀i,i≤K→f i<K)→ ∃a b,a<b∧b≤K∧f a=f b
 |0,f,h=>absurd (h 0 (Nat.le_refl _)) (Nat.not_lt_zero _)
 |K+1,f,h=>by
  by_cases hx: ∃a,a≤K∧f a=f (K+1)
  ·obtain ⟨a,h1,h2⟩:=hx
   exact ⟨a,K+1,kK,Nat.le_refl _,h2⟩
  ·have hne: ∀a,a≤K→f a≠f (K+1):=fun a ha e=>hx ⟨a,ha,e⟩
   obtain ⟨a,b,h1,h2,h3⟩:=pig K (fun i=>if f i<f (K+1) then f i else f i-1) (fun i hi=>by
    have e1:=h i kK
    have e2:=h (K+1) (Nat.le_refl _)
    have e3:=hne i hi
    show (if f i<f (K+1) then f i else f i-1)<K
    split<;>omega)
   refine ⟨a,b,h1,kK,?_⟩
   have e1:=hne a kK
   have e2:=hne b h2
   have h3:(if f a<f (K+1) then f a else f a-1)=(if f b<f (K+1) then f b else f b-1):=h3
   split at h3<;>split at h3<;>omega
def zFu (N:Nat):List Nat→Nat
 |[]=>0
 |x::r=>x+N*zFu N r
theorem zQs {N:Nat}: ∀(l:List Nat),(∀x∈l,x<N)→zFu N l<N^l.length
 |[],_=>by rw [zFu,List.length_nil,Nat.pow_zero];exact Nat.one_pos
 |x::r,h=>by
  have h1:=zQs r (fun y hy=>h y (by simp [hy]))
  have h2:=h x kJ
  rw [zFu,List.length_cons,Nat.pow_succ]
  have h3:N*(zFu N r+1)≤N*N^r.length:=Nat.mul_le_mul_left _ h1
  rw [Nat.mul_add,Nat.mul_one] at h3
  rw [Nat.mul_comm (N^r.length)]
  omega
theorem zOH {N:Nat}: ∀(l l':List Nat),l.length=l'.length→(∀x∈l,x<N)→(∀x∈l',x<N)→zFu N l=zFu N l'→l=l'
 |[],[],_,_,_,_=>rfl
 |[],_::_,h,_,_,_=>by simp at h
 |_::_,[],h,_,_,_=>by simp at h
 |x::r,y::q,hl,h,h',e=>by
  have h1:=h x kJ
  have h2:=h' y kJ
  rw [zFu,zFu] at e
  have e1:=congrArg (fun n=>n%N) e
  simp only [Nat.add_mul_mod_self_left,Nat.mod_eq_of_lt h1,Nat.mod_eq_of_lt h2] at e1
  subst e1
  have e2:zFu N r=zFu N q:=Nat.eq_of_mul_eq_mul_left kK (show N*zFu N r=N*zFu N q by omega)
  rw [zOH r q (by simpa using hl) (fun z hz=>h z (by simp [hz])) (fun z hz=>h' z (by simp [hz])) e2]
structure Endless (m N:Nat)(M:Tab)(s:Nat→St)(c r:Nat→Nat):Prop where
 inv: ∀k,Inv m N M (s k)
 feas: ∀k,zD3 m N (s k)
 cN: ∀k,c k<N
 neg: ∀k,at2 (s k).rows m (c k)<0
 low: ∀k a,a<c k→0≤at2 (s k).rows m a
 lea: ∀k,Least (s k).rows (s k).basis (c k) N m (r k)
 nx: ∀k,s (k+1)=piv (s k) (r k) (c k)
def zCv (m:Nat)(s:St)(v:Nat):Prop:= ∃i,i<m∧s.basis.getD i 0=v
theorem Inv.nodup {m N:Nat}{M:Tab}{s:St}(h:Inv m N M s){i k:Nat}(hi:i<m)(hk:k<m)(he:s.basis.getD i 0=s.basis.getD k 0):i=k:=by
 by_cases e:i=k
 ·exact e
 ·have h1:=h.unit i k kK hk
  have h2:=h.unit i i kK hi
  rw [if_neg e] at h1
  rw [if_pos rfl,he] at h2
  have:=h.dp
  omega
theorem Inv.cost_basic {m N:Nat}{M:Tab}{s:St}(h:Inv m N M s){v:Nat}(hb:zCv m s v):at2 s.rows m v=0:=by
 obtain ⟨i,hi,rfl⟩:=hb
 rw [h.unit m i kK hi,if_neg kK]
theorem zFV {m N:Nat}{M:Tab}{s:St}(h:Inv m N M s){r c:Nat}(hr:r<m)(i:Nat):(Sx.piv s r c).basis.getD i 0=if i=r then c else s.basis.getD i 0:=by
 show (s.basis.set r c).getD i 0=_
 rw [getD_set]
 by_cases e:i=r
 ·rw [if_pos ⟨e,by rw [h.b];exact hr⟩,if_pos e]
 ·rw [if_neg (fun q=>e q.1),if_neg e]
section
variable {m N:Nat}{M:Tab}{s:Nat→St}{c r:Nat→Nat}
theorem Endless.den (h:Endless m N M s c r)(k:Nat):(s (k+1)).den=at2 (s k).rows (r k) (c k):=by
 rw [h.nx,zJT]
 have:=(h.lea k).pos
 unfold sgZ
 rw [if_neg kK];omega
theorem Endless.entry (h:Endless m N M s c r)(k:Nat){i j:Nat}(hi:i<m+1)(hj:j<N+1):
 (s k).den*at2 (s (k+1)).rows i j=if i=r k then (s k).den*at2 (s k).rows (r k) j else at2 (s k).rows i j*at2 (s k).rows (r k) (c k)-at2 (s k).rows i (c k)*at2 (s k).rows (r k) j:=by
 have hp:=(h.lea k).pos
 rw [h.nx,(h.inv k).entry (h.lea k).lt (h.cN k) kK hi hj]
 have hsg:sgZ (at2 (s k).rows (r k) (c k))=1:=by unfold sgZ;rw [if_neg kK]
 rw [hsg,Int.one_mul]
def zJj (N m:Nat)(s:St):Rat:=(at2 s.rows m N:Rat)*(s.den:Rat)⁻¹
theorem zEg {x:Int}(h:0<x):(0:Rat)<(x:Rat):=by
 have:=(Rat.intCast_lt_intCast (a:=0) (b:=x)).2 h
 exact this
theorem zJk {m N:Nat}{s:St}(hd:0<s.den):zJj N m s*(s.den:Rat)=(at2 s.rows m N:Rat):=by
 unfold zJj
 have:(s.den:Rat)≠0:=fun e=>by
  have:=zEg hd
  rw [e] at this
  exact absurd this (by decide+kernel)
 rw [Rat.mul_assoc,Rat.inv_mul_cancel _ this,Rat.mul_one]
theorem Endless.value (h:Endless m N M s c r)(k:Nat):zJj N m (s k)≤zJj N m (s (k+1))∧(zJj N m (s k)=zJj N m (s (k+1))→at2 (s k).rows (r k) N=0):=by
 have hd:=(h.inv k).dp
 have hd':=(h.inv (k+1)).dp
 have hp:=(h.lea k).pos
 have h1:=h.entry k (i:=m) (j:=N) kK kK
 have hrm:=(h.lea k).lt
 rw [if_neg kK,←h.den] at h1
 have h2:=zJk (m:=m) (N:=N) hd
 have h3:=zJk (m:=m) (N:=N) hd'
 have h4:=congrArg (fun x:Int=>(x:Rat)) h1
 simp only [Rat.intCast_mul,Rat.intCast_sub] at h4
 rw [←h2,←h3] at h4
 have hX:at2 (s k).rows m (c k)*at2 (s k).rows (r k) N≤0:=by
  have:=Int.mul_nonneg (show 0≤ -(at2 (s k).rows m (c k)) by have:=h.neg k;omega) (h.feas k (r k) hrm)
  rw [Int.neg_mul] at this;omega
 have hXr:((at2 (s k).rows m (c k):Int):Rat)*((at2 (s k).rows (r k) N:Int):Rat)≤0:=by
  rw [←Rat.intCast_mul]
  exact (Rat.intCast_le_intCast (a:=_) (b:=0)).2 hX
 have hpd:(0:Rat)<((s k).den:Rat)*((s (k+1)).den:Rat):=Rat.mul_pos (zEg hd) (zEg hd')
 constructor
 ·refine Rat.le_of_mul_le_mul_right ?_ hpd
  grind
 ·intro e
  rw [←e] at h4
  have h5:((at2 (s k).rows m (c k):Int):Rat)*((at2 (s k).rows (r k) N:Int):Rat)=0:=by grind
  rw [←Rat.intCast_mul] at h5
  have h6:at2 (s k).rows m (c k)*at2 (s k).rows (r k) N=0:=Rat.intCast_inj.1 h5
  rcases Int.mul_eq_zero.1 h6 with h7|h7
  ·have:=h.neg k;omega
  ·exact h7
theorem Endless.mono (h:Endless m N M s c r)(a:Nat): ∀d,zJj N m (s a)≤zJj N m (s (a+d))
 |0=>Rat.le_refl
 |d+1=>Rat.le_trans (h.mono a d) (h.value (a+d)).1
theorem Endless.same (h:Endless m N M s c r){a b:Nat}(he:(s a).basis=(s b).basis):zJj N m (s a)=zJj N m (s b):=by
 have h1:=(h.inv a).cross (h.inv b) (i:=m) (c:=N) kK kK
 rw [if_pos rfl,zCM (fun k hk=>by rw [he,(h.inv b).unit m k kK hk,if_neg kK,Int.zero_mul])] at h1
 have da:=(h.inv a).dp
 have db:=(h.inv b).dp
 have h2:=zJk (m:=m) (N:=N) da
 have h3:=zJk (m:=m) (N:=N) db
 have h4:=congrArg (fun x:Int=>(x:Rat)) h1
 simp only [Rat.intCast_mul,Rat.intCast_add,Rat.intCast_zero] at h4
 rw [←h2,←h3] at h4
 have hpd:(0:Rat)<((s a).den:Rat)*((s b).den:Rat):=Rat.mul_pos (zEg da) (zEg db)
 have le1:zJj N m (s a)≤zJj N m (s b):=Rat.le_of_mul_le_mul_right (by grind) hpd
 have le2:zJj N m (s b)≤zJj N m (s a):=Rat.le_of_mul_le_mul_right (by grind) hpd
 exact Rat.le_antisymm le1 le2
theorem Endless.still (h:Endless m N M s c r){a b:Nat}(he:(s a).basis=(s b).basis){k:Nat}(h1:a≤k)(h2:k<b):at2 (s k).rows (r k) N=0:=by
 refine (h.value k).2 (Rat.le_antisymm (h.value k).1 ?_)
 have g1:=h.mono (k+1) (b-(k+1))
 rw [show k+1+(b-(k+1))=b by omega] at g1
 have g2:=h.mono a (k-a)
 rw [show a+(k-a)=k by omega] at g2
 rw [←h.same he] at g1
 exact Rat.le_trans g1 g2
def Zero (m N:Nat)(s:St)(v:Nat):Prop:= ∀i,i<m→s.basis.getD i 0=v→at2 s.rows i N=0
theorem Endless.zero (h:Endless m N M s c r){k:Nat}(h0:at2 (s k).rows (r k) N=0)(v:Nat):Zero m N (s k) v↔Zero m N (s (k+1)) v:=by
 have hp:=(h.lea k).pos
 have hr:=(h.lea k).lt
 have hd:=(h.inv k).dp
 have hbas: ∀i,(s (k+1)).basis.getD i 0=if i=r k then c k else (s k).basis.getD i 0:=fun i=>by rw [h.nx];exact zFV (h.inv k) hr i
 have hent: ∀i,i<m→i≠r k→(at2 (s (k+1)).rows i N=0↔at2 (s k).rows i N=0):=by
  intro i hi hne
  have h1:=h.entry k (i:=i) (j:=N) kK kK
  rw [if_neg hne,h0,Int.mul_zero,Int.sub_zero] at h1
  constructor
  ·intro e
   rw [e,Int.mul_zero] at h1
   rcases Int.mul_eq_zero.1 h1.symm with h2|h2
   ·exact h2
   ·omega
  ·intro e
   rw [e,Int.zero_mul] at h1
   rcases Int.mul_eq_zero.1 h1 with h2|h2
   ·omega
   ·exact h2
 constructor
 ·intro hz i hi he
  rw [hbas] at he
  by_cases e:i=r k
  ·have h1:=h.entry k (i:=i) (j:=N) kK kK
   rw [if_pos e,h0,Int.mul_zero] at h1
   rcases Int.mul_eq_zero.1 h1 with h2|h2
   ·omega
   ·exact h2
  ·rw [if_neg e] at he
   exact (hent i hi e).2 (hz i hi he)
 ·intro hz i hi he
  by_cases e:i=r k
  ·rw [e];exact h0
  ·exact (hent i hi e).1 (hz i hi (by rw [hbas,if_neg e];exact he))
theorem Endless.zeros (h:Endless m N M s c r){a b:Nat}(he:(s a).basis=(s b).basis)(v:Nat): ∀d,a+d≤b→(Zero m N (s a) v↔Zero m N (s (a+d)) v)
 |0,_=>Iff.rfl
 |d+1,hd=>(h.zeros he v d kK).trans (h.zero (h.still he kK kK) v)
theorem Endless.stays (h:Endless m N M s c r){k v:Nat}(hb:zCv m (s k) v)(hv:v≠(s k).basis.getD (r k) 0):zCv m (s (k+1)) v:=by
 obtain ⟨i,hi,rfl⟩:=hb
 refine ⟨i,hi,?_⟩
 rw [h.nx,zFV (h.inv k) (h.lea k).lt,if_neg]
 intro e;rw [e] at hv;exact hv rfl
theorem Endless.was (h:Endless m N M s c r){k v:Nat}(hb:zCv m (s (k+1)) v)(hv:v≠c k):zCv m (s k) v:=by
 obtain ⟨i,hi,rfl⟩:=hb
 have h1:=zFV (c:=c k) (h.inv k) (h.lea k).lt i
 rw [←h.nx] at h1
 rw [h1] at hv⊢
 by_cases e:i=r k
 ·rw [if_pos e] at hv;exact absurd rfl hv
 ·rw [if_neg e];exact ⟨i,hi,rfl⟩
theorem Endless.enters (h:Endless m N M s c r)(k:Nat): ¬zCv m (s k) (c k)∧zCv m (s (k+1)) (c k):=by
 constructor
 ·intro hb
  have:=(h.inv k).cost_basic hb
  have:=h.neg k
  omega
 ·refine ⟨r k,(h.lea k).lt,?_⟩
  rw [h.nx,zFV (h.inv k) (h.lea k).lt,if_pos rfl]
theorem Endless.false (h:Endless m N M s c r):False:=by
 --a basis comes twice
 obtain ⟨a,b,hab,he⟩: ∃a b,a<b∧(s a).basis=(s b).basis:=by
  have hlt: ∀k,∀x∈(s k).basis,x<N:=by
   intro k x hx
   obtain ⟨i,hi,rfl⟩:=List.getElem_of_mem hx
   have:=(h.inv k).bc i (by rw [←(h.inv k).b];exact hi)
   simpa [List.getD,hi] using this
  obtain ⟨a,b,h1,h2,h3⟩:=pig (N^m) (fun k=>zFu N (s k).basis) (fun k _=>by
   have:=zQs (s k).basis (hlt k)
   rwa [(h.inv k).b] at this)
  exact ⟨a,b,h1,zOH _ _ (by rw [(h.inv a).b,(h.inv b).b]) (hlt a) (hlt b) h3⟩
 --who is in some basis between,and not in another one,enters
 have fick: ∀v,(∃k,a≤k∧k≤b∧zCv m (s k) v)→(∃k,a≤k∧k≤b∧ ¬zCv m (s k) v)→ ∃k,a≤k∧k<b∧c k=v:=by
  rintro v ⟨k1,l1,l2,hb⟩ ⟨k2,l3,l4,hn⟩
  apply Classical.byContradiction
  intro hno
  have hno: ∀k,a≤k→k<b→v≠c k:=fun k q1 q2 e=>hno ⟨k,q1,q2,e.symm⟩
  have back: ∀d k,a≤k→k+d≤b→zCv m (s (k+d)) v→zCv m (s k) v:=by
   intro d
   induction d with
   |zero=>intro k _ _ hb;exact hb
   |succ d ih=>intro k q1 q2 hb;exact ih k q1 kK (h.was hb (hno (k+d) kK kK))
  have ha:zCv m (s a) v:=back (k1-a) a (Nat.le_refl _) kK (by rw [show a+(k1-a)=k1 by omega];exact hb)
  have hbb:zCv m (s b) v:=by unfold zCv at ha⊢;rw [←he];exact ha
  exact hn (back (b-k2) k2 l3 kK (by rw [show k2+(b-k2)=b by omega];exact hbb))
 --the greatest one that enters
 obtain ⟨k',q1,q2,hmax⟩: ∃k',a≤k'∧k'<b∧ ∀k,a≤k→k<b→c k≤c k':=by
  have: ∀d,a+d<b+0→ ∃k',a≤k'∧k'≤a+d∧ ∀k,a≤k→k≤a+d→c k≤c k':=by
   intro d
   induction d with
   |zero=>intro _;exact ⟨a,Nat.le_refl _,Nat.le_refl _,fun k h1 h2=>by rw [show k=a by omega];exact Nat.le_refl _⟩
   |succ d ih=>
    intro hd
    obtain ⟨k',g1,g2,g3⟩:=ih kK
    by_cases hc:c k'≤c (a+(d+1))
    ·refine ⟨a+(d+1),kK,Nat.le_refl _,fun k h1 h2=> ?_⟩
     by_cases e:k=a+(d+1)
     ·rw [e];exact Nat.le_refl _
     ·exact Nat.le_trans (g3 k h1 kK) hc
    ·refine ⟨k',g1,kK,fun k h1 h2=> ?_⟩
     by_cases e:k=a+(d+1)
     ·rw [e];omega
     ·exact g3 k h1 kK
  obtain ⟨k',g1,g2,g3⟩:=this (b-1-a) kK
  exact ⟨k',g1,kK,fun k h1 h2=>g3 k h1 kK⟩
 obtain ⟨t1,t2⟩:=h.enters k'
 --it leaves,too
 obtain ⟨k,l1,l2,l3⟩: ∃k,a≤k∧k<b∧(s k).basis.getD (r k) 0=c k':=by
  apply Classical.byContradiction
  intro hno
  have hno: ∀k,a≤k→k<b→c k'≠(s k).basis.getD (r k) 0:=fun k q1 q2 e=>hno ⟨k,q1,q2,e.symm⟩
  have fwd: ∀d k,a≤k→k+d≤b→zCv m (s k) (c k')→zCv m (s (k+d)) (c k'):=by
   intro d
   induction d with
   |zero=>intro k _ _ hb;exact hb
   |succ d ih=>intro k q1 q2 hb;exact h.stays (ih k q1 kK hb) (hno (k+d) kK kK)
  have hb:=fwd (b-(k'+1)) (k'+1) kK kK t2
  rw [show k'+1+(b-(k'+1))=b by omega] at hb
  have ha:zCv m (s a) (c k'):=by unfold zCv at hb⊢;rw [he];exact hb
  have:=fwd (k'-a) a (Nat.le_refl _) kK ha
  rw [show a+(k'-a)=k' by omega] at this
  exact t1 this
 have hc1:=hmax k l1 l2
 have hlea:=h.lea k
 have hc2:c k≠c k':=by
  intro e
  exact (h.enters k).1 ⟨r k,hlea.lt,by rw [l3,e]⟩
 have hlow:=h.low k' (c k) kK
 have hX:=(h.inv k).cross (h.inv k') (i:=m) (c:=c k) kK (by have:=h.cN k;omega)
 rw [if_pos rfl] at hX
 have d1:=(h.inv k).dp
 have d2:=(h.inv k').dp
 have n1:=h.neg k
 have p1:=Int.mul_nonneg (Int.le_of_lt d1) hlow
 have p2:=Int.mul_pos d2 (show 0< -(at2 (s k).rows m (c k)) by omega)
 rw [Int.mul_neg] at p2
 obtain ⟨i,hi,hpos⟩:=zPM (n:=m) (f:=fun i=>at2 (s k').rows m ((s k).basis.getD i 0)*at2 (s k).rows i (c k)) kK
 have hpos:0<at2 (s k').rows m ((s k).basis.getD i 0)*at2 (s k).rows i (c k):=hpos
 have hnb: ¬zCv m (s k') ((s k).basis.getD i 0):=by
  intro hb
  rw [(h.inv k').cost_basic hb,Int.zero_mul] at hpos
  omega
 obtain ⟨k2,g1,g2,g3⟩:=fick ((s k).basis.getD i 0) ⟨k,l1,kK,i,hi,rfl⟩ ⟨k',q1,kK,hnb⟩
 have hle:=hmax k2 g1 g2
 rw [g3] at hle
 have hmp: ∀x y:Int,0<x*y→0≤x→0<x∧0<y:=by
  intro x y hxy hx
  by_cases hx0:x=0
  ·rw [hx0,Int.zero_mul] at hxy;omega
  ·refine ⟨kK,?_⟩
   apply Classical.byContradiction
   intro hy
   have:=Int.mul_nonneg hx (show 0≤ -y by omega)
   rw [Int.mul_neg] at this
   omega
 by_cases ht:(s k).basis.getD i 0=c k'
 ·have hir:i=r k:=(h.inv k).nodup hi hlea.lt (by rw [ht,l3])
  rw [ht,hir] at hpos
  have h1:=h.neg k'
  have h2:=Int.mul_pos (show 0< -(at2 (s k').rows m (c k')) by omega) hlea.pos
  rw [Int.neg_mul] at h2
  omega
 ·have hlow2:=h.low k' ((s k).basis.getD i 0) kK
  obtain ⟨w1,w2⟩:=hmp _ _ hpos hlow2
  have z':Zero m N (s k') ((s k).basis.getD i 0):=fun j hj e=>absurd ⟨j,hj,e⟩ hnb
  have za:=(h.zeros he ((s k).basis.getD i 0) (k'-a) kK).2 (by rw [show a+(k'-a)=k' by omega];exact z')
  have zk:=(h.zeros he ((s k).basis.getD i 0) (k-a) kK).1 za
  rw [show a+(k-a)=k by omega] at zk
  have h0:=zk i hi rfl
  have hst:=h.still he l1 l2
  have:=(hlea.le i hi w2).2 (by rw [h0,hst,Int.zero_mul,Int.zero_mul])
  rw [l3] at this
  omega
end
theorem ends {m N w:Nat}{M:Tab}{s:St}(hi:Inv m N M s)(hf:zD3 m N s)(hw:w≤N): ∃K,zCI m N w (zAn m N w s K)=none:=by
 apply Classical.byContradiction
 intro hno
 have hno: ∀k,zCI m N w (zAn m N w s k)≠none:=fun k e=>hno ⟨k,e⟩
 have hex: ∀k,∃c r,c<w∧at2 (zAn m N w s k).rows m c<0∧(∀a,a<c→0≤at2 (zAn m N w s k).rows m a)∧Least (zAn m N w s k).rows (zAn m N w s k).basis c N m r∧zAn m N w s (k+1)=piv (zAn m N w s k) r c:=by
  intro k
  cases hs:zCI m N w (zAn m N w s k) with
  |none=>exact absurd hs (hno k)
  |some s'=>
   obtain ⟨c,r,h1,h2,h3,h4,h5⟩:=zKB hs
   refine ⟨c,r,h1,h2,h3,h4,?_⟩
   show (zCI m N w (zAn m N w s k)).getD _=_
   rw [hs,←h5];rfl
 have both: ∀k,Inv m N M (zAn m N w s k)∧zD3 m N (zAn m N w s k):=by
  intro k
  induction k with
  |zero=>exact ⟨hi,hf⟩
  |succ k ih=>
   obtain ⟨c,r,h1,h2,h3,h4,h5⟩:=hex k
   rw [h5]
   have:=h4.pos
   exact ⟨ih.1.piv h4.lt kK kK,ih.1.feas_step ih.2 kK h4⟩
 exact Endless.false (m:=m) (N:=N) (M:=M) (s:=zAn m N w s) (c:=fun k=>Classical.choose (hex k)) (r:=fun k=>Classical.choose (Classical.choose_spec (hex k)))
  { inv:=fun k=>(both k).1
    feas:=fun k=>(both k).2
    cN:=fun k=>by have:=(Classical.choose_spec (Classical.choose_spec (hex k))).1;omega
    neg:=fun k=>(Classical.choose_spec (Classical.choose_spec (hex k))).2.1
    low:=fun k=>(Classical.choose_spec (Classical.choose_spec (hex k))).2.2.1
    lea:=fun k=>(Classical.choose_spec (Classical.choose_spec (hex k))).2.2.2.1
    nx:=fun k=>(Classical.choose_spec (Classical.choose_spec (hex k))).2.2.2.2}
end Go.Ax.Sx
namespace Go.Ax.Sx
open Go.Ax.Dt
def zBU (T:Tab)(m:Nat)(L:List Int):Tab:=T.take m++[L]
theorem zKT {T:Tab}{m:Nat}(h:m≤T.length)(L:List Int):(zBU T m L).length=m+1:=by
 unfold zBU
 rw [List.length_append,List.length_take]
 show min m T.length+1=m+1
 omega
theorem zKS {T:Tab}{m:Nat}(h:m≤T.length)(L:List Int)(i:Nat):(zBU T m L).getD i []=if i<m then T.getD i [] else if i=m then L else []:=by
 unfold zBU
 simp only [List.getD,List.getElem?_append,List.length_take,Nat.min_eq_left h]
 by_cases h1:i<m
 ·rw [if_pos h1,if_pos h1,List.getElem?_take,if_pos h1]
 ·rw [if_neg h1,if_neg h1]
  by_cases h2:i=m
  ·subst h2;simp
  ·rw [if_neg h2]
   have:[L][i-m]? =none:=List.getElem?_eq_none (by simp;omega)
   rw [this];rfl
theorem zGu {T:Tab}{m:Nat}(h:m≤T.length)(L:List Int){i:Nat}(hi:i<m)(j:Nat):at2 (zBU T m L) i j=at2 T i j:=by
 unfold at2;rw [zKS h,if_pos hi]
theorem zI6 {T:Tab}{m:Nat}(h:m≤T.length)(L:List Int)(j:Nat):at2 (zBU T m L) m j=L.getD j 0:=by
 unfold at2;rw [zKS h,if_neg (Nat.lt_irrefl _),if_pos rfl]
theorem zBN {f:Nat→Int}{n j:Nat}(hj:j<n):((List.range n).map f).getD j 0=f j:=by simp [List.getD,hj]
theorem zON {m:Nat}{D E:Mx}(hD: ∀c,c<m+1→D m c=if c=m then 1 else 0)(hE: ∀c,c<m+1→E m c=if c=m then 1 else 0)(h: ∀a c,a<m→c<m→D a c=E a c):det (m+1) E=det (m+1) D:=by
 let F:Nat→Mx:=fun k a=>if a<k then E a else D a
 have step: ∀k,k≤m→det (m+1) (F k)=det (m+1) D:=by
  intro k
  induction k with
  |zero=>
   intro _
   exact zDt (fun a c _ _=>by show (if a<0 then E a else D a) c=D a c;rw [if_neg (Nat.not_lt_zero _)])
  |succ k ih=>
   intro hk
   have e:det (m+1) (F (k+1))=det (m+1) (put (F k) k (E k)):=by
    refine zDt (fun a c _ _=> ?_)
    show (if a<k+1 then E a else D a) c=(if a=k then E k else (if a<k then E a else D a)) c
    by_cases e1:a=k
    ·subst e1;rw [if_pos (Nat.lt_succ_self _),if_pos rfl]
    ·rw [if_neg e1]
     by_cases e2:a<k
     ·rw [if_pos kK,if_pos e2]
     ·rw [if_neg kK,if_neg e2]
   rw [e,zFH (t:=fun i=>if i=k then 1 else if i=m then E k m-D k m else 0) (show k<m+1 by omega),if_pos rfl,Int.one_mul]
   ·exact ih kK
   ·intro c hc
    rw [zPN k m kK kK kK (fun i hi h1 h2=>by rw [if_neg h1,if_neg h2,Int.zero_mul])]
    rw [if_pos rfl,if_neg kK,if_pos rfl,Int.one_mul]
    show E k c=(if k<k then E k else D k) c+_*(if m<k then E m else D m) c
    rw [if_neg (Nat.lt_irrefl _),if_neg kK,hD c hc]
    by_cases e3:c=m
    ·subst e3;rw [if_pos rfl];omega
    ·rw [if_neg e3,Int.mul_zero,Int.add_zero]
     exact (h k c kK kK).symm
 have h2:=step m (Nat.le_refl _)
 rw [←h2]
 refine zDt (fun a c ha hc=> ?_)
 show E a c=(if a<m then E a else D a) c
 by_cases e:a<m
 ·rw [if_pos e]
 ·rw [if_neg e]
  obtain rfl:a=m:=kK
  rw [hD c hc,hE c hc]
def zH7 (k:Nat→Int)(m N:Nat)(s:St):List Int:=(List.range (N+1)).map (fun j=>s.den*k j-zAE (fun i=>k (s.basis.getD i 0)*at2 s.rows i j) m)
def recost (k:Nat→Int)(m N:Nat)(s:St):St:=⟨zBU s.rows m (zH7 k m N s),s.den,s.basis⟩
def zCk (k:Nat→Int)(m N:Nat)(M:Tab):Tab:=zBU M m ((List.range (N+1)).map k)
theorem Inv.recost {m N:Nat}{M:Tab}{s:St}(h:Inv m N M s)(k:Nat→Int)(hM:m≤M.length):Inv m N (zCk k m N M) (recost k m N s):=by
 have hT:m≤s.rows.length:=by rw [h.n];omega
 have r1: ∀i j,i<m→at2 (Sx.recost k m N s).rows i j=at2 s.rows i j:=fun i j hi=>zGu hT _ hi j
 have r2: ∀j,j<N+1→at2 (Sx.recost k m N s).rows m j=s.den*k j-zAE (fun i=>k (s.basis.getD i 0)*at2 s.rows i j) m:=fun j hj=>by
  show at2 (zBU _ _ _) _ _=_
  rw [zI6 hT]
  exact zBN hj
 have m1: ∀i j,i<m→at2 (zCk k m N M) i j=at2 M i j:=fun i j hi=>zGu hM _ hi j
 have m2: ∀j,j<N+1→at2 (zCk k m N M) m j=k j:=fun j hj=>by
  show at2 (zBU _ _ _) _ _=_
  rw [zI6 hM]
  exact zBN hj
 have bD: ∀(M:Tab) c,c<m+1→zDT M m s.basis m c=if c=m then 1 else 0:=fun M c hc=>by
  show (if m<m then zIe M _ else fun c=>if c=m then (1:Int) else 0) c=_
  rw [if_neg (Nat.lt_irrefl _)]
 have bA: ∀(M:Tab) a c,a<m→zDT M m s.basis a c=at2 M c (s.basis.getD a 0):=fun M a c ha=>by
  show (if a<m then zIe M _ else fun c=>if c=a then (1:Int) else 0) c=_
  rw [if_pos ha];rfl
 have hdet:=zON (D:=zDT M m s.basis) (E:=zDT (zCk k m N M) m s.basis) (bD M) (bD _) (fun a c ha hc=>by rw [bA _ _ _ ha,bA _ _ _ ha,m1 c _ hc])
 refine ⟨zKT hT _,fun x hx=> ?_,h.b,h.bc,h.dp,fun i a hi ha=> ?_,?_,fun j hj c hc=> ?_⟩
 ·rcases List.mem_append.1 hx with h1|h1
  ·exact h.row x (List.mem_of_mem_take h1)
  ·rw [List.mem_singleton.1 h1]
   unfold zH7
   rw [List.length_map,List.length_range]
 ·show at2 (Sx.recost k m N s).rows i (s.basis.getD a 0)=if i=a then s.den else 0
  by_cases e:i<m
  ·rw [r1 i _ e,h.unit i a hi ha]
  ·obtain rfl:i=m:=kK
   rw [r2 _ (by have:=h.bc a ha;omega),if_neg kK]
   have e2: ∀q,q<i→k (s.basis.getD q 0)*at2 s.rows q (s.basis.getD a 0)=if q=a then k (s.basis.getD q 0)*s.den else 0:=by
    intro q hq
    rw [h.unit q a kK ha]
    split
    ·rfl
    ·rw [Int.mul_zero]
   rw [zw e2,zCh (f:=fun q=>k (s.basis.getD q 0)*s.den) ha,Int.mul_comm]
   omega
 ·obtain ⟨σ,h1,h2⟩:=h.sg
  exact ⟨σ,h1,by show det (m+1) (zDT (zCk k m N M) m s.basis)=σ*s.den;rw [hdet,h2]⟩
 ·show zAE (fun i=>at2 (Sx.recost k m N s).rows i j*zDT (zCk k m N M) m s.basis i c) (m+1)=s.den*at2 (zCk k m N M) c j
  show zAE (fun i=>at2 (Sx.recost k m N s).rows i j*zDT (zCk k m N M) m s.basis i c) m+at2 (Sx.recost k m N s).rows m j*zDT (zCk k m N M) m s.basis m c=_
  rw [bD _ c hc]
  have old:=h.sol j hj c hc
  have old:zAE (fun i=>at2 s.rows i j*zDT M m s.basis i c) m+at2 s.rows m j*zDT M m s.basis m c=s.den*at2 M c j:=old
  rw [bD _ c hc] at old
  by_cases e:c=m
  ·subst e
   rw [if_pos rfl,m2 j hj,r2 j hj]
   have e2: ∀i,i<c→at2 (Sx.recost k c N s).rows i j*zDT (zCk k c N M) c s.basis i c=k (s.basis.getD i 0)*at2 s.rows i j:=by
    intro i hi
    rw [r1 i j hi,bA _ _ _ hi,m2 _ (by have:=h.bc i hi;omega),Int.mul_comm]
   rw [zw e2]
   omega
  ·rw [if_neg e,Int.mul_zero,Int.add_zero] at*
   rw [m1 c j kK,←old]
   exact zw (fun i hi=>by rw [r1 i j hi,bA _ _ _ hi,bA _ _ _ hi,m1 c _ kK])
theorem zLb {T:Tab}{N m i c:Nat}{d:Int}{p:Nat→Nat}{y:Nat→Int}(hc:c<N+1)(hp: ∀k,k<m→p k<N+1):
 zCF T N (fun j=>(if j=c then d else 0)-zAE (fun k=>if j=p k then y k else 0) m) i=at2 T i c*d-zAE (fun k=>at2 T i (p k)*y k) m:=by
 unfold zCF
 have e1: ∀j,j<N+1→at2 T i j*((if j=c then d else 0)-zAE (fun k=>if j=p k then y k else 0) m)=(if j=c then at2 T i j*d else 0)+zAE (fun k=>if j=p k then-(at2 T i j*y k) else 0) m:=by
  intro j hj
  rw [Int.mul_sub,Int.sub_eq_add_neg]
  congr 1
  ·split
   ·rfl
   ·rw [Int.mul_zero]
  ·rw [←Int.mul_neg,show-(zAE (fun k=>if j=p k then y k else 0) m)=zAE (fun k=> -1*(if j=p k then y k else 0)) m from by rw [zBY];omega,←zBY]
   exact zw (fun k _=>by
    split
    ·rw [Int.neg_mul,Int.one_mul,Int.mul_neg]
    ·rw [Int.mul_zero,Int.mul_zero])
 rw [zw e1,zDd,zCh (f:=fun j=>at2 T i j*d) hc,zHG,Int.sub_eq_add_neg]
 congr 1
 have e2: ∀k,k<m→zAE (fun j=>if j=p k then-(at2 T i j*y k) else 0) (N+1)= -1*(at2 T i (p k)*y k):=by
  intro k hk
  rw [zCh (f:=fun j=> -(at2 T i j*y k)) (hp k hk)]
  omega
 rw [zw e2,zBY]
 omega
structure Slack (m N n:Nat)(M:Tab)(e:Nat→Int):Prop where
 lt:n+m<N+1
 sq: ∀i,i<m→e i*e i=1
 at': ∀i k,i<m→k<m→at2 M i (n+k)=if i=k then e i else 0
 cost: ∀k,k<m→at2 M m (n+k)=0
theorem Inv.combo {m N n:Nat}{M:Tab}{s:St}{e:Nat→Int}(h:Inv m N M s)(hs:Slack m N n M e){q j:Nat}(hq:q<m+1)(hj:j<N+1):
 at2 s.rows q j=zAE (fun k=>at2 s.rows q (n+k)*(e k*at2 M k j)) m+(if q=m then s.den*at2 M m j else 0):=by
 have hlt:=hs.lt
 have hp: ∀k,k<m→n+k<N+1:=fun k hk=>by omega
 have hker:=(h.ker (fun v=>(if v=j then 1 else 0)-zAE (fun k=>if v=n+k then e k*at2 M k j else 0) m) (-(at2 M m j))).1 (fun i hi=>by
  rw [zLb hj hp,Int.mul_one]
  by_cases e1:i=m
  ·subst e1
   rw [if_pos rfl,zCM (fun k hk=>by rw [hs.cost k hk,Int.zero_mul])]
   omega
  ·rw [if_neg e1]
   have e2: ∀k,k<m→at2 M i (n+k)*(e k*at2 M k j)=if k=i then e k*(e k*at2 M k j) else 0:=by
    intro k hk
    rw [hs.at' i k kK hk]
    by_cases e3:i=k
    ·rw [if_pos e3,if_pos e3.symm,e3]
    ·rw [if_neg e3,if_neg (fun q=>e3 q.symm),Int.zero_mul]
   rw [zw e2,zCh (f:=fun k=>e k*(e k*at2 M k j)) kK,←Int.mul_assoc,hs.sq i kK,Int.one_mul]
   omega) q hq
 rw [zLb hj hp,Int.mul_one] at hker
 by_cases e1:q=m
 ·rw [if_pos e1] at hker⊢
  rw [Int.mul_neg] at hker
  omega
 ·rw [if_neg e1] at hker⊢
  omega
theorem Inv.init {T:Tab}{β:List Nat}{m N:Nat}(h1:T.length=m+1)(h2: ∀x∈T,x.length=N+1)(h3:β.length=m)(h4: ∀i,i<m→β.getD i 0<N)(h5: ∀i k,i<m+1→k<m→at2 T i (β.getD k 0)=if i=k then 1 else 0):Inv m N T ⟨T,1,β⟩:=by
 have hu: ∀a c,a<m+1→c<m+1→zDT T m β a c=zLx a c:=by
  intro a c ha hc
  show (if a<m then zIe T _ else fun c=>if c=a then (1:Int) else 0) c=if a=c then 1 else 0
  by_cases e:a<m
  ·rw [if_pos e]
   show at2 T c _=_
   rw [h5 c a hc e]
   by_cases e2:c=a
   ·rw [if_pos e2,if_pos e2.symm]
   ·rw [if_neg e2,if_neg (fun q=>e2 q.symm)]
  ·rw [if_neg e]
   by_cases e2:c=a
   ·rw [if_pos e2];exact (if_pos e2.symm).symm
   ·rw [if_neg e2];exact (if_neg (fun q=>e2 q.symm)).symm
 refine ⟨h1,h2,h3,h4,by show (0:Int)<1;omega,h5,⟨1,Z,?_⟩,fun j hj c hc=> ?_⟩
 ·show det (m+1) (zDT T m β)=1*1
  rw [zDt hu,zOO];rfl
 ·show zAE (fun i=>at2 T i j*zDT T m β i c) (m+1)=1*at2 T c j
  have e: ∀i,i<m+1→at2 T i j*zDT T m β i c=if i=c then at2 T i j else 0:=by
   intro i hi
   rw [hu i c hi hc]
   show _*(if i=c then (1:Int) else 0)=_
   split
   ·rw [Int.mul_one]
   ·rw [Int.mul_zero]
  rw [zw e,zCh (f:=fun i=>at2 T i j) hc,Int.one_mul]
end Go.Ax.Sx
namespace Go.Ax.Rt
open Go.Ax.Bg Go.Ax.Dt
theorem zCC {α:Type}{l:List α}{j:Nat}(d:α)(h:j<l.length):l.getD j d=l[j]:=by simp [List.getD,h]
theorem z8 {α:Type}{l:List α}{j:Nat}(d:α)(h:j<l.length):l.getD j d∈l:=by rw [zCC d h];exact List.getElem_mem h
theorem zKg {α:Type}{l r:List α}{j:Nat}(d:α)(h:j<l.length):(l++r).getD j d=l.getD j d:=by simp [List.getD,List.getElem?_append_left h]
theorem zQ7 {α:Type}{l:List α}{x d:α}:(l++[x]).getD l.length d=x:=by simp [List.getD]
theorem zKk (q:Rat):q*(q.den:Rat)=(q.num:Rat):=by
 have h:((q.den:Int):Rat)≠0:=fun e=>q.den_nz (by
  have:=congrArg Rat.num e
  simpa using this)
 have h2:=Rat.num_divInt_den q
 rw [Rat.divInt_eq_div] at h2
 conv=>lhs;lhs;rw [←h2]
 rw [←Rat.intCast_natCast,Rat.div_mul_cancel h]
def zDD:Nat→List Rat→Nat
 |f,[]=>f
 |f,q::r=>zDD (f*(q.den/Nat.gcd f q.den)) r
theorem fac_step (f d:Nat):f∣f*(d/Nat.gcd f d)∧d∣f*(d/Nat.gcd f d):=by
 refine ⟨Nat.dvd_mul_right _ _,?_⟩
 obtain ⟨a,ha⟩:=Nat.gcd_dvd_left f d
 have h2:Nat.gcd f d*(d/Nat.gcd f d)=d:=Nat.mul_div_cancel' (Nat.gcd_dvd_right f d)
 refine ⟨a,?_⟩
 generalize d/Nat.gcd f d=b at*
 generalize Nat.gcd f d=g at*
 rw [ha,←h2]
 rw [Nat.mul_assoc,Nat.mul_assoc,Nat.mul_comm a b]
theorem zOR: ∀(l:List Rat) (f:Nat),f∣zDD f l∧ ∀q∈l,q.den∣zDD f l
 |[],f=>⟨Nat.dvd_refl _,fun q hq=>by simp at hq⟩
 |a::r,f=>by
  rw [zDD]
  obtain ⟨h1,h2⟩:=zOR r (f*(a.den/Nat.gcd f a.den))
  obtain ⟨s1,s2⟩:=fac_step f a.den
  refine ⟨Nat.dvd_trans s1 h1,fun q hq=> ?_⟩
  rcases List.mem_cons.1 hq with rfl|hq
  ·exact Nat.dvd_trans s2 h1
  ·exact h2 q hq
theorem zJM: ∀(l:List Rat) (f:Nat),0<f→0<zDD f l
 |[],f,h=>h
 |a::r,f,h=>by
  rw [zDD]
  refine zJM r _ (Nat.mul_pos h ?_)
  have h2:Nat.gcd f a.den*(a.den/Nat.gcd f a.den)=a.den:=Nat.mul_div_cancel' (Nat.gcd_dvd_right f a.den)
  have:=a.den_pos
  rcases Nat.eq_zero_or_pos (a.den/Nat.gcd f a.den) with e|e
  ·rw [e,Nat.mul_zero] at h2;omega
  ·exact e
theorem zJL {k:Nat}: ∀(l:List Rat) (f:Nat),(∀q∈l,q.den<10^k)→zDD f l≤f*10^(k*l.length)
 |[],f,_=>by rw [zDD,List.length_nil,Nat.mul_zero,Nat.pow_zero,Nat.mul_one];exact Nat.le_refl _
 |a::r,f,h=>by
  rw [zDD]
  refine Nat.le_trans (zJL r _ (fun q hq=>h q (by simp [hq]))) ?_
  have h1:a.den/Nat.gcd f a.den≤10^k:=Nat.le_trans (Nat.div_le_self _ _) (Nat.le_of_lt (h a kJ))
  rw [List.length_cons,Nat.mul_add,Nat.mul_one,Nat.add_comm,Nat.pow_add,←Nat.mul_assoc]
  exact Nat.mul_le_mul_right _ (Nat.mul_le_mul_left _ h1)
def zAt (l:List Rat):List Int:=l.map (fun q=>q.num*((zDD 1 l/q.den:Nat):Int))
theorem zHJ (l:List Rat):(zAt l).length=l.length:=by simp [zAt]
theorem zNC {l:List Rat}{q:Rat}(h:q∈l):((q.num*((zDD 1 l/q.den:Nat):Int):Int):Rat)=((zDD 1 l:Nat):Rat)*q:=by
 obtain ⟨k,hk⟩:=(zOR l 1).2 q h
 rw [hk,Nat.mul_div_cancel_left _ q.den_pos,Rat.intCast_mul,Rat.natCast_mul]
 have h1:q*(q.den:Rat)=(q.num:Rat):=zKk q
 have h2:((k:Int):Rat)=(k:Rat):=Rat.intCast_natCast k
 rw [h2,←h1]
 grind
theorem zNB {l:List Rat}{k:Nat}(h: ∀q∈l,D k q): ∀x∈zAt l,x.natAbs≤10^(k+k*l.length):=by
 intro x hx
 obtain ⟨q,hq,rfl⟩:=List.mem_map.1 hx
 rw [Int.natAbs_mul,Int.natAbs_natCast,Nat.pow_add]
 refine Nat.mul_le_mul (Nat.le_of_lt (h q hq).1) ?_
 have:=zJL l 1 (fun q hq=>(h q hq).2)
 rw [Nat.one_mul] at this
 exact Nat.le_trans (Nat.div_le_self _ _) this
theorem fct_le: ∀{n:Nat},n≤40→fct n≤100^n
 |0,_=>Nat.le_refl _
 |n+1,h=>by
  rw [fct,Nat.pow_succ,Nat.mul_comm]
  exact Nat.mul_le_mul (fct_le kK) kK
theorem zQ0 {n k:Nat}(h:n≤40):fct n*(10^k)^n≤10^((k+2)*n):=by
 refine Nat.le_trans (Nat.mul_le_mul_right _ (fct_le h)) ?_
 rw [←Nat.mul_pow,Nat.pow_mul,Nat.pow_add]
 refine Nat.pow_le_pow_left ?_ n
 rw [Nat.mul_comm]
 exact Nat.le_refl _
theorem zGr (f:Nat→Int): ∀n,((zAE f n:Int):Rat)=zAa (fun i=>((f i:Int):Rat)) n
 |0=>rfl
 |n+1=>by rw [zAE,zAa,Rat.intCast_add,zGr f n]
theorem zG2 {x:Int}(h:x≠0):(x:Rat)≠0:=fun e=>h (by
 have:=congrArg Rat.num e
 simpa using this)
end Go.Ax.Rt
namespace Go.Ax.Sx
open Go.Ax.Dt Go.Ax.Rt Go.Ax.Bg
def zAf (B:List Rat):Nat→List Nat
 |0=>[]
 |k+1=>if (B.getD k 0).num<0 then zAf B k++[k] else zAf B k
abbrev zBt (B:List Rat)(i:Nat):Nat:=(zAf B i).length
abbrev zHM (B:List Rat):Nat:=zBt B B.length
theorem zJS {B:List Rat}: ∀{n k:Nat},k∈zAf B n↔k<n∧(B.getD k 0).num<0
 |0,k=>by simp [zAf]
 |n+1,k=>by
  rw [zAf]
  split
  ·rename_i h
   rw [List.mem_append,zJS,List.mem_singleton]
   constructor
   ·rintro (h1|h1)
    ·exact ⟨kK,h1.2⟩
    ·rw [h1];exact ⟨kK,h⟩
   ·rintro ⟨h1,h2⟩
    by_cases e:k=n
    ·exact .inr e
    ·exact .inl ⟨kK,h2⟩
  ·rename_i h
   rw [zJS]
   constructor
   ·rintro ⟨h1,h2⟩;exact ⟨kK,h2⟩
   ·rintro ⟨h1,h2⟩
    refine ⟨?_,h2⟩
    by_cases e:k=n
    ·rw [e] at h2;exact absurd h2 h
    ·omega
theorem zN3 (B:List Rat)(i:Nat): ∀d,zBt B i≤zBt B (i+d)
 |0=>Nat.le_refl _
 |d+1=>by
  refine Nat.le_trans (zN3 B i d) ?_
  show _≤(zAf B (i+d+1)).length
  rw [zAf]
  split
  ·rw [List.length_append];exact Nat.le_add_right _ _
  ·exact Nat.le_refl _
theorem zN4 {B:List Rat}{i:Nat}(h:(B.getD i 0).num<0):zBt B (i+1)=zBt B i+1:=by
 show (zAf B (i+1)).length=_
 rw [zAf,if_pos h,List.length_append];rfl
theorem zJr {B:List Rat}{i k:Nat}(h:(B.getD i 0).num<0)(hk:i<k):zBt B i<zBt B k:=by
 have h1:=zN3 B (i+1) (k-(i+1))
 rw [show i+1+(k-(i+1))=k by omega,zN4 h] at h1
 omega
theorem art_inj {B:List Rat}{i k:Nat}(h:(B.getD i 0).num<0)(h':(B.getD k 0).num<0)(e:zBt B i=zBt B k):i=k:=by
 by_cases h1:i<k
 ·have:=zJr h h1;omega
 ·by_cases h2:k<i
  ·have:=zJr h' h2;omega
  ·omega
theorem zKy (B:List Rat): ∀i,zBt B i≤i
 |0=>Nat.le_refl _
 |i+1=>by
  show (zAf B (i+1)).length≤_
  rw [zAf]
  have:=zKy B i
  split
  ·rw [List.length_append]
   show zBt B i+1≤_
   omega
  ·show zBt B i≤_
   omega
def zI8 (n m a:Nat)(l:List Int)(i j:Nat):Int:=if j<n then l.getD j 0 else if j=n+i then 1 else if j=n+m+a then l.getD n 0 else 0
def zHv (n m a:Nat)(l:List Int)(i:Nat)(neg:Bool)(k j:Nat):Int:=if neg then (if j=n+m+k then 1 else-(zI8 n m a l i j)) else zI8 n m a l i j
def zDb (n m a:Nat)(l:List Int)(i:Nat)(neg:Bool)(k:Nat):List Int:=(List.range (n+m+a+1)).map (zHv n m a l i neg k)
structure Prog where
 A:List (List Rat)
 B:List Rat
 C:List Rat
abbrev Prog.n (p:Prog):Nat:=p.C.length
abbrev Prog.m (p:Prog):Nat:=p.B.length
abbrev Prog.a (p:Prog):Nat:=zHM p.B
abbrev Prog.N (p:Prog):Nat:=p.C.length+p.B.length+zHM p.B
abbrev Prog.neg (p:Prog)(i:Nat):Bool:=decide ((p.B.getD i 0).num<0)
def Prog.full (p:Prog)(i:Nat):List Rat:=p.A.getD i []++[p.B.getD i 0]
def Prog.whole (p:Prog)(i:Nat):List Int:=zAt (p.full i)
def Prog.fac (p:Prog)(i:Nat):Nat:=zDD 1 (p.full i)
structure Prog.Ok (p:Prog):Prop where
 rows:p.A.length=p.B.length
 cols: ∀r∈p.A,r.length=p.C.length
def zBO (p:Prog):Tab:=(List.range p.m).map (fun i=>zDb p.n p.m p.a (p.whole i) i (p.neg i) (zBt p.B i))
def zBr (p:Prog):List Nat:=(List.range p.m).map (fun i=>if p.neg i then p.n+p.m+zBt p.B i else p.n+i)
def zAb (p:Prog):St:=⟨zBO p++[List.replicate (p.N+1) 0],1,zBr p⟩
def Prog.eps (p:Prog)(i:Nat):Int:=if p.neg i then-1 else 1
theorem zNT (p:Prog)(i:Nat):p.eps i*p.eps i=1:=by unfold Prog.eps;split<;>rfl
theorem zCt (p:Prog):(zBO p).length=p.m:=by simp [zBO]
theorem zHF (p:Prog):(zBr p).length=p.m:=by simp [zBr]
theorem zDp {α:Type}{f:Nat→α}{n j:Nat}{d:α}(hj:j<n):((List.range n).map f).getD j d=f j:=by simp [List.getD,hj]
theorem zH1 (p:Prog){i j:Nat}(hi:i<p.m)(hj:j<p.N+1):at2 (zAb p).rows i j=zHv p.n p.m p.a (p.whole i) i (p.neg i) (zBt p.B i) j:=by
 unfold at2
 have e:(zAb p).rows.getD i []=zDb p.n p.m p.a (p.whole i) i (p.neg i) (zBt p.B i):=by
  show (zBO p++_).getD i []=_
  rw [zKg [] (by rw [zCt];exact hi)]
  exact zDp hi
 rw [e]
 exact zDp hj
theorem zHU (p:Prog)(j:Nat):at2 (zAb p).rows p.m j=0:=by
 unfold at2
 have e:(zAb p).rows.getD p.m []=List.replicate (p.N+1) 0:=by
  show (zBO p++[_]).getD p.m []=_
  rw [←zCt p]
  exact zQ7
 rw [e]
 simp only [List.getD,List.getElem?_replicate]
 split<;>rfl
theorem zHE (p:Prog){i:Nat}(hi:i<p.m):(zBr p).getD i 0=if p.neg i then p.n+p.m+zBt p.B i else p.n+i:=zDp hi
theorem zKr (p:Prog){i j:Nat}(hi:i<p.m)(hj:j<p.n):at2 (zAb p).rows i j=p.eps i*(p.whole i).getD j 0:=by
 have hjn:j<p.C.length:=hj
 have hii:i<p.B.length:=hi
 rw [zH1 p hi (by show j<p.C.length+p.B.length+zHM p.B+1;omega)]
 unfold zHv Prog.eps zI8
 by_cases e:p.neg i=true
 ·rw [if_pos e,if_pos e,if_pos hj,if_neg (by show¬j=p.C.length+p.B.length+zBt p.B i;omega)];omega
 ·rw [if_neg e,if_neg e,if_pos hj];omega
theorem zJf (p:Prog){i k:Nat}(hi:i<p.m)(hk:k<p.m):at2 (zAb p).rows i (p.n+k)=if i=k then p.eps i else 0:=by
 have hii:i<p.B.length:=hi
 have hkk:k<p.B.length:=hk
 rw [zH1 p hi (by show p.C.length+k<p.C.length+p.B.length+zHM p.B+1;omega)]
 unfold zHv Prog.eps zI8
 have h1: ¬p.n+k<p.n:=kK
 have h2: ¬p.n+k=p.n+p.m+zBt p.B i:=by show¬p.C.length+k=p.C.length+p.B.length+zBt p.B i;omega
 have h3: ¬p.n+k=p.n+p.m+p.a:=by show¬p.C.length+k=p.C.length+p.B.length+zHM p.B;omega
 rw [if_neg h2,if_neg h1,if_neg h3]
 by_cases e:i=k
 ·subst e
  rw [if_pos rfl,if_pos rfl]
 ·rw [if_neg (show¬p.n+k=p.n+i by omega),if_neg e]
  split<;>rfl
theorem zNt (p:Prog){i k:Nat}(hi:i<p.m)(hk:k<p.a):at2 (zAb p).rows i (p.n+p.m+k)=if p.neg i=true∧k=zBt p.B i then 1 else 0:=by
 have hii:i<p.B.length:=hi
 have hkk:k<zHM p.B:=hk
 rw [zH1 p hi (by show p.C.length+p.B.length+k<p.C.length+p.B.length+zHM p.B+1;omega)]
 unfold zHv zI8
 have h1: ¬p.n+p.m+k<p.n:=kK
 have h2: ¬p.n+p.m+k=p.n+i:=by show¬p.C.length+p.B.length+k=p.C.length+i;omega
 have h3: ¬p.n+p.m+k=p.n+p.m+p.a:=by show¬p.C.length+p.B.length+k=p.C.length+p.B.length+zHM p.B;omega
 rw [if_neg h1,if_neg h2,if_neg h3]
 by_cases e:p.neg i=true
 ·rw [if_pos e]
  by_cases e2:k=zBt p.B i
  ·rw [if_pos kK,if_pos ⟨e,e2⟩]
  ·rw [if_neg kK,if_neg (fun q=>e2 q.2)];rfl
 ·rw [if_neg e,if_neg (fun q=>e q.1)]
theorem zJe (p:Prog){i:Nat}(hi:i<p.m):at2 (zAb p).rows i p.N=p.eps i*(p.whole i).getD p.n 0:=by
 have hii:i<p.B.length:=hi
 rw [zH1 p hi (by show p.C.length+p.B.length+zHM p.B<p.C.length+p.B.length+zHM p.B+1;omega)]
 unfold zHv Prog.eps zI8
 have h1: ¬p.N<p.n:=by show¬p.C.length+p.B.length+zHM p.B<p.C.length;omega
 have h2: ¬p.N=p.n+i:=by show¬p.C.length+p.B.length+zHM p.B=p.C.length+i;omega
 have h3:p.N=p.n+p.m+p.a:=rfl
 rw [if_neg h1,if_neg h2,if_pos h3]
 by_cases e:p.neg i=true
 ·have e2:(p.B.getD i 0).num<0:=by simpa using e
  have h4:zBt p.B i<zHM p.B:=zJr e2 hii
  rw [if_pos e,if_pos e,if_neg (by show¬p.C.length+p.B.length+zHM p.B=p.C.length+p.B.length+zBt p.B i;omega)];omega
 ·rw [if_neg e,if_neg e];omega
theorem zPI (p:Prog):Slack p.m p.N p.n (zAb p).rows p.eps:=by
 refine ⟨by show p.C.length+p.B.length<p.C.length+p.B.length+zHM p.B+1;omega,fun i _=>zNT p i,fun i k hi hk=>zJf p hi hk,fun k _=>zHU p _⟩
theorem zFX (p:Prog):Inv p.m p.N (zAb p).rows (zAb p):=by
 refine Inv.init ?_ ?_ (zHF p) ?_ ?_
 ·show (zBO p++[_]).length=_
  rw [List.length_append,zCt];rfl
 ·intro x hx
  rcases List.mem_append.1 hx with h|h
  ·obtain ⟨i,_,rfl⟩:=List.mem_map.1 h
   unfold zDb
   rw [List.length_map,List.length_range]
  ·rw [List.mem_singleton.1 h,List.length_replicate]
 ·intro i hi
  have hii:i<p.B.length:=hi
  rw [zHE p hi]
  show (if p.neg i=true then p.C.length+p.B.length+zBt p.B i else p.C.length+i)<p.C.length+p.B.length+zHM p.B
  by_cases e:p.neg i=true
  ·have h3:zBt p.B i<zHM p.B:=zJr (by simpa using e) hii
   rw [if_pos e]
   exact Nat.add_lt_add_left h3 _
  ·rw [if_neg e]
   omega
 ·intro i k hi hk
  have hkk:k<p.B.length:=hk
  rw [zHE p hk]
  by_cases him:i=p.m
  ·rw [him,zHU,if_neg (by show¬p.B.length=k;omega)]
  ·have hi':i<p.m:=Nat.lt_of_le_of_ne (Nat.le_of_lt_succ hi) him
   by_cases e:p.neg k=true
   ·have e2:(p.B.getD k 0).num<0:=by simpa using e
    rw [if_pos e,zNt p hi' (zJr e2 hkk)]
    by_cases e3:i=k
    ·subst e3;rw [if_pos ⟨e,rfl⟩,if_pos rfl]
    ·rw [if_neg e3,if_neg]
     rintro ⟨q1,q2⟩
     exact e3 (art_inj (by simpa using q1) e2 q2.symm)
   ·rw [if_neg e,zJf p hi' hk]
    by_cases e3:i=k
    ·subst e3;rw [if_pos rfl,if_pos rfl];unfold Prog.eps;rw [if_neg e]
    ·rw [if_neg e3,if_neg e3]
theorem zEb (p:Prog)(hp:p.Ok){i:Nat}(hi:i<p.m):(p.full i).length=p.n+1:=by
 unfold Prog.full
 rw [List.length_append,hp.cols _ (z8 [] (by rw [hp.rows];exact hi))];rfl
theorem zKH (p:Prog)(hp:p.Ok){i j:Nat}(hi:i<p.m)(hj:j<p.n+1):(p.whole i).getD j 0=((p.full i).getD j 0).num*((p.fac i/((p.full i).getD j 0).den:Nat):Int):=by
 unfold Prog.whole zAt
 rw [zBg _ _ 0 _ _ (by rw [zEb p hp hi];exact hj)]
 rfl
theorem zIQ (p:Prog)(hp:p.Ok){i j:Nat}(hi:i<p.m)(hj:j<p.n+1):(((p.whole i).getD j 0:Int):Rat)=((p.fac i:Nat):Rat)*(p.full i).getD j 0:=by
 rw [zKH p hp hi hj]
 exact zNC (z8 0 (by rw [zEb p hp hi];exact hj))
theorem full_x (p:Prog)(hp:p.Ok){i j:Nat}(hi:i<p.m)(hj:j<p.n):(p.full i).getD j 0=(p.A.getD i []).getD j 0:=by
 unfold Prog.full
 rw [zKg 0 (by rw [hp.cols _ (z8 [] (by rw [hp.rows];exact hi))];exact hj)]
theorem zPy (p:Prog)(hp:p.Ok){i:Nat}(hi:i<p.m):(p.full i).getD p.n 0=p.B.getD i 0:=by
 unfold Prog.full
 have:=hp.cols _ (z8 [] (show i<p.A.length by rw [hp.rows];exact hi))
 show (p.A.getD i []++[_]).getD p.C.length 0=_
 rw [←this]
 exact zQ7
theorem zLk (p:Prog)(hp:p.Ok):zD3 p.m p.N (zAb p):=by
 intro i hi
 rw [zJe p hi,zKH p hp hi (Nat.lt_succ_self _),zPy p hp hi]
 have h2:(0:Int)≤((p.fac i/(p.B.getD i 0).den:Nat):Int):=Int.natCast_nonneg _
 unfold Prog.eps
 split
 ·rename_i e
  have e2:(p.B.getD i 0).num<0:=by simpa using e
  have:=Int.mul_nonneg (show 0≤ -(p.B.getD i 0).num by omega) h2
  rw [Int.neg_mul] at this
  omega
 ·rename_i e
  have e2: ¬(p.B.getD i 0).num<0:=by simpa using e
  have:=Int.mul_nonneg (show 0≤(p.B.getD i 0).num by omega) h2
  omega
theorem zFo (f:Nat→Int)(a:Nat): ∀b,zAE f (a+b)=zAE f a+zAE (fun k=>f (a+k)) b
 |0=>by show zAE f a=zAE f a+0;omega
 |b+1=>by
  show zAE f (a+b)+f (a+b)=zAE f a+(zAE (fun k=>f (a+k)) b+f (a+b))
  rw [zFo f a b];omega
theorem zF7: ∀{n:Nat} {f:Nat→Int},(∀i,i<n→0≤f i)→0≤zAE f n
 |0,f,_=>Int.le_refl 0
 |n+1,f,h=>by
  have h1:=zF7 (n:=n) (f:=f) (fun i hi=>h i kK)
  have h2:=h n (Nat.lt_succ_self n)
  show 0≤zAE f n+f n
  omega
theorem zM6: ∀{n:Nat} {f:Nat→Int},(∀i,i<n→0≤f i)→zAE f n=0→ ∀i,i<n→f i=0
 |0,f,_,_,i,hi=>absurd hi (Nat.not_lt_zero i)
 |n+1,f,h,h0,i,hi=>by
  have h1:=zF7 (n:=n) (f:=f) (fun i hi=>h i kK)
  have h2:=h n (Nat.lt_succ_self n)
  have h0:zAE f n+f n=0:=h0
  by_cases e:i=n
  ·rw [e];omega
  ·exact zM6 (n:=n) (fun i hi=>h i kK) kK i kK
theorem zFR {m N w:Nat}{M:Tab}{s:St}(hi:Inv m N M s)(hf:zD3 m N s)(hw:w≤N): ∀K,Inv m N M (zAn m N w s K)∧zD3 m N (zAn m N w s K)
 |0=>⟨hi,hf⟩
 |K+1=>by
  obtain ⟨h1,h2⟩:=zFR hi hf hw K
  show Inv m N M ((zCI m N w (zAn m N w s K)).getD _)∧zD3 m N ((zCI m N w (zAn m N w s K)).getD _)
  cases hs:zCI m N w (zAn m N w s K) with
  |none=>exact ⟨h1,h2⟩
  |some s'=>
   obtain ⟨c,r,g1,g2,g3,g4,rfl⟩:=zKB hs
   have:=g4.pos
   exact ⟨h1.piv g4.lt kK kK,h1.feas_step h2 kK g4⟩
def zCb (m w:Nat)(s:St):Nat:=zCm s.rows m w 0
theorem zM0 {m N w:Nat}{s:St}(h:zCI m N w s=none):
 (zCb m w s=w∧ ∀a,a<w→0≤at2 s.rows m a)∨(zCb m w s<w∧at2 s.rows m (zCb m w s)<0∧ ∀i,i<m→at2 s.rows i (zCb m w s)≤0):=by
 unfold zCI at h
 obtain ⟨e1,e2,e3,e4⟩:=zFf s.rows m w 0
 split at h
 ·rename_i h1
  exact .inl ⟨h1,fun a ha=>e3 a (Nat.zero_le _) (by rw [h1];exact ha)⟩
 ·split at h
  ·rename_i h1 _ hl
   exact .inr ⟨by unfold zCb;omega,e4 kK,zIl _ _ _ _ _ hl⟩
  ·cases h
def zBe (m:Nat)(s:St)(c j:Nat):Int:=(if j=c then s.den else 0)-zAE (fun k=>if j=s.basis.getD k 0 then at2 s.rows k c else 0) m
section
variable {m N w:Nat}{M:Tab}{s:St}
theorem Inv.vec (h:Inv m N M s){c:Nat}(hc:c<N+1){i:Nat}(hi:i<m+1):zCF M N (zBe m s c) i=if i=m then at2 s.rows m c else 0:=by
 have:=(h.ker (zBe m s c) (-(at2 s.rows m c))).2 (fun i hi=>by
  rw [show zCF s.rows N (zBe m s c) i=at2 s.rows i c*s.den-zAE (fun k=>at2 s.rows i (s.basis.getD k 0)*at2 s.rows k c) m from zLb hc (fun k hk=>by have:=h.bc k hk;omega)]
  by_cases e:i=m
  ·subst e
   rw [if_pos rfl,zCM (fun k hk=>by rw [h.unit i k kK hk,if_neg kK,Int.zero_mul]),Int.mul_neg,Int.mul_comm]
   omega
  ·rw [if_neg e]
   have e3: ∀k,k<m→at2 s.rows i (s.basis.getD k 0)*at2 s.rows k c=if k=i then s.den*at2 s.rows k c else 0:=by
    intro k hk
    rw [h.unit i k hi hk]
    by_cases e4:i=k
    ·rw [if_pos e4,if_pos e4.symm]
    ·rw [if_neg e4,if_neg (fun q=>e4 q.symm),Int.zero_mul]
   rw [zw e3,zCh (f:=fun k=>s.den*at2 s.rows k c) kK,Int.mul_comm]
   omega) i hi
 by_cases e:i=m
 ·rw [if_pos e] at this⊢;omega
 ·rw [if_neg e] at this⊢;omega
theorem Inv.vec_basic (h:Inv m N M s){c k:Nat}(hk:k<m):zBe m s c (s.basis.getD k 0)=(if s.basis.getD k 0=c then s.den else 0)-at2 s.rows k c:=by
 unfold zBe
 congr 1
 rw [zEv k hk (fun i hi hne=>by rw [if_neg (fun e=>hne (h.nodup hi hk e.symm))]),if_pos rfl]
theorem zHI {c j:Nat}(hn: ∀k,k<m→s.basis.getD k 0≠j):zBe m s c j=if j=c then s.den else 0:=by
 unfold zBe
 rw [zCM (fun k hk=>by rw [if_neg (fun e=>hn k hk e.symm)]),Int.sub_zero]
theorem Inv.vec_end (h:Inv m N M s):zBe m s N N=s.den:=by
 rw [zHI (fun k hk=>by have:=h.bc k hk;omega),if_pos rfl]
theorem Inv.vec_val (h:Inv m N M s)(hf:zD3 m N s){j:Nat}(hj:j<N):zBe m s N j≤0:=by
 by_cases hb:zCv m s j
 ·obtain ⟨k,hk,rfl⟩:=hb
  rw [h.vec_basic hk,if_neg kK]
  have:=hf k hk
  omega
 ·rw [zHI (fun k hk e=>hb ⟨k,hk,e⟩),if_neg kK]
  exact Int.le_refl 0
theorem Inv.vec_ray (h:Inv m N M s){c:Nat}(hle: ∀i,i<m→at2 s.rows i c≤0)(j:Nat):0≤zBe m s c j:=by
 have hd:=h.dp
 by_cases hb:zCv m s j
 ·obtain ⟨k,hk,rfl⟩:=hb
  rw [h.vec_basic hk]
  have:=hle k hk
  split<;>omega
 ·rw [zHI (fun k hk e=>hb ⟨k,hk,e⟩)]
  split<;>omega
end
theorem zL8 {T:Tab}{m:Nat}(h:m≤T.length)(L L':List Int):zBU (zBU T m L) m L'=zBU T m L':=by
 unfold zBU
 congr 1
 rw [List.take_append_of_le_length (by rw [List.length_take];omega),List.take_take,Nat.min_self]
theorem zOK {T:Tab}{m N:Nat}(h:m≤T.length)(k k':Nat→Int):zCk k m N (zCk k' m N T)=zCk k m N T:=zL8 h _ _
theorem zKR {k:Nat→Int}{m N:Nat}{s:St}(hT:m≤s.rows.length)(hf:zD3 m N s):zD3 m N (recost k m N s):=fun i hi=>by
 show 0≤at2 (zBU _ _ _) i N
 rw [zGu hT _ hi];exact hf i hi
theorem zJG {k:Nat→Int}{m N:Nat}{T:Tab}(hT:m≤T.length)(x:Nat→Int):zCF (zCk k m N T) N x m=zAE (fun j=>k j*x j) (N+1):=by
 unfold zCF
 refine zw (fun j hj=> ?_)
 show at2 (zBU _ _ _) m j*_=_
 rw [zI6 hT,zBN hj]
theorem cost_row {k:Nat→Int}{m N:Nat}{T:Tab}(hT:m≤T.length)(x:Nat→Int){i:Nat}(hi:i<m):zCF (zCk k m N T) N x i=zCF T N x i:=by
 unfold zCF
 refine zw (fun j hj=> ?_)
 show at2 (zBU _ _ _) i j*_=_
 rw [zGu hT _ hi]
theorem zJF {k:Nat→Int}{m N:Nat}{T:Tab}(hT:m≤T.length){j:Nat}(hj:j<N+1):at2 (zCk k m N T) m j=k j:=by
 show at2 (zBU _ _ _) m j=_
 rw [zI6 hT,zBN hj]
theorem zHX {k:Nat→Int}{m N:Nat}{T:Tab}(hT:m≤T.length){i:Nat}(hi:i<m)(j:Nat):at2 (zCk k m N T) i j=at2 T i j:=by
 show at2 (zBU _ _ _) i j=_
 rw [zGu hT _ hi]
theorem zSv (p:Prog):(zAb p).rows.length=p.m+1:=(zFX p).n
theorem zBR (p:Prog):p.m≤(zAb p).rows.length:=by rw [zSv];exact Nat.le_succ _
def zDL (p:Prog)(j:Nat):Int:=if p.n+p.m≤j∧j<p.N then 1 else 0
theorem zKz (p:Prog)(j:Nat):0≤zDL p j:=by unfold zDL;split<;>omega
def ph1 (p:Prog):St:=recost (zDL p) p.m p.N (zAb p)
def M1 (p:Prog):Tab:=zCk (zDL p) p.m p.N (zAb p).rows
theorem zNk (p:Prog):Inv p.m p.N (M1 p) (ph1 p):=(zFX p).recost (zDL p) (zBR p)
theorem zLO (p:Prog)(hp:p.Ok):zD3 p.m p.N (ph1 p):=zKR (zBR p) (zLk p hp)
theorem zOr {p:Prog}{s:St}(h:Inv p.m p.N (M1 p) s){c:Nat}(hc:c<p.N)(hneg:at2 s.rows p.m c<0)(hle: ∀i,i<p.m→at2 s.rows i c≤0):False:=by
 have h1:=h.vec (c:=c) (i:=p.m) (Nat.lt_succ_of_lt hc) (Nat.lt_succ_self _)
 have h2:=zJG (k:=zDL p) (N:=p.N) (zBR p) (zBe p.m s c)
 have h2:zCF (M1 p) p.N (zBe p.m s c) p.m=zAE (fun j=>zDL p j*zBe p.m s c j) (p.N+1):=h2
 rw [h1,if_pos rfl] at h2
 have h3:0≤zAE (fun j=>zDL p j*zBe p.m s c j) (p.N+1):=zF7 (fun j _=>Int.mul_nonneg (zKz p j) (h.vec_ray hle j))
 omega
theorem zIK {p:Prog}{s:St}(h:Inv p.m p.N (M1 p) s)(hf:zD3 p.m p.N s):
 at2 s.rows p.m p.N≤0∧(at2 s.rows p.m p.N=0→ ∀i,i<p.m→p.n+p.m≤s.basis.getD i 0→at2 s.rows i p.N=0):=by
 have h1:=h.vec (c:=p.N) (i:=p.m) (Nat.lt_succ_self _) (Nat.lt_succ_self _)
 have h2:zCF (M1 p) p.N (zBe p.m s p.N) p.m=zAE (fun j=>zDL p j*zBe p.m s p.N j) (p.N+1):=zJG (k:=zDL p) (N:=p.N) (zBR p) (zBe p.m s p.N)
 rw [h1,if_pos rfl] at h2
 have hz: ∀j,j<p.N+1→0≤zDL p j* -(zBe p.m s p.N j):=by
  intro j hj
  by_cases e:j=p.N
  ·have:zDL p j=0:=by unfold zDL;rw [if_neg kK]
   rw [this,Int.zero_mul];exact Int.le_refl 0
  ·have:=h.vec_val hf (j:=j) (Nat.lt_of_le_of_ne (Nat.le_of_lt_succ hj) e)
   exact Int.mul_nonneg (zKz p j) kK
 have h3:zAE (fun j=>zDL p j* -(zBe p.m s p.N j)) (p.N+1)= -(at2 s.rows p.m p.N):=by
  have:zAE (fun j=>zDL p j* -(zBe p.m s p.N j)) (p.N+1)=zAE (fun j=> -1*(zDL p j*zBe p.m s p.N j)) (p.N+1):=zw (fun j _=>by rw [Int.mul_neg];omega)
  rw [this,zBY,←h2];omega
 have h4:=zF7 hz
 refine ⟨kK,fun h0 i hi hb=> ?_⟩
 have hbc:=h.bc i hi
 have h5:=zM6 hz (by rw [h3,h0];rfl) (s.basis.getD i 0) (Nat.lt_succ_of_lt hbc)
 have h6:zDL p (s.basis.getD i 0)=1:=by unfold zDL;rw [if_pos ⟨hb,hbc⟩]
 rw [h6,Int.one_mul,h.vec_basic hi,if_neg (Nat.ne_of_lt hbc)] at h5
 omega
def nzN (T:Tab)(i:Nat):Nat→Nat→Nat
 |0,c=>c
 |f+1,c=>if at2 T i c≠0 then c else nzN T i f (c+1)
theorem zRF (T:Tab)(i:Nat): ∀f c,c≤nzN T i f c∧nzN T i f c≤c+f∧(∀a,c≤a→a<nzN T i f c→at2 T i a=0)∧(nzN T i f c<c+f→at2 T i (nzN T i f c)≠0)
 |0,c=>⟨Nat.le_refl _,Nat.le_refl _,fun a h1 h2=>absurd h2 (by rw [nzN];omega),fun h=>absurd h (by rw [nzN];omega)⟩
 |f+1,c=>by
  rw [nzN]
  by_cases h:at2 T i c≠0
  ·rw [if_pos h]
   exact ⟨Nat.le_refl _,kK,fun a h1 h2=>absurd h2 kK,fun _=>h⟩
  ·rw [if_neg h]
   obtain ⟨h1,h2,h3,h4⟩:=zRF T i f (c+1)
   refine ⟨kK,kK,fun a ha hb=> ?_,fun hb=>h4 kK⟩
   by_cases e:a=c
   ·subst e;omega
   ·exact h3 a kK hb
def zCK (w:Nat)(s:St)(k:Nat):St:=if s.basis.getD k 0<w then s else if nzN s.rows k w 0=w then s else piv s k (nzN s.rows k w 0)
def zBc (w:Nat)(s:St):Nat→St
 |0=>s
 |k+1=>zCK w (zBc w s k) k
structure Dry (m N w:Nat)(s:St)(k:Nat):Prop where
 z: ∀i,i<m→w≤s.basis.getD i 0→at2 s.rows i N=0
 r: ∀i,i<k→w≤s.basis.getD i 0→ ∀j,j<w→at2 s.rows i j=0
theorem zK9 {d x y:Int}(hd:0<d)(h:d*x=y)(hy:y=0):x=0:=by
 rw [hy] at h
 rcases Int.mul_eq_zero.1 h with h1|h1
 ·omega
 ·exact h1
theorem zPm {d x y:Int}(hd:0<d)(h:d*x=y)(hy:0≤y):0≤x:=Int.le_of_mul_le_mul_left (by rw [Int.mul_zero,h];exact hy) hd
section
variable {m N w:Nat}{M:Tab}{s:St}
theorem Inv.drive (h:Inv m N M s)(hf:zD3 m N s){k:Nat}(hd:Dry m N w s k)(hk:k<m)(hw:w≤N):
 Inv m N M (zCK w s k)∧zD3 m N (zCK w s k)∧Dry m N w (zCK w s k) (k+1):=by
 unfold zCK
 obtain ⟨e1,e2,e3,e4⟩:=zRF s.rows k w 0
 by_cases hb:s.basis.getD k 0<w
 ·rw [if_pos hb]
  refine ⟨h,hf,hd.z,fun i hi hb'=> ?_⟩
  by_cases e:i=k
  ·rw [e] at hb';omega
  ·exact hd.r i kK hb'
 ·rw [if_neg hb]
  by_cases hn:nzN s.rows k w 0=w
  ·rw [if_pos hn]
   refine ⟨h,hf,hd.z,fun i hi hb'=> ?_⟩
   by_cases e:i=k
   ·rw [e];exact fun j hj=>e3 j (Nat.zero_le _) kK
   ·exact hd.r i kK hb'
  ·rw [if_neg hn]
   have hp:=e4 kK
   have hcw:nzN s.rows k w 0<w:=kK
   generalize nzN s.rows k w 0=c at*
   have hz:=hd.z k hk kK
   have hpz:=zRY hp
   have hbas: ∀i,(Sx.piv s k c).basis.getD i 0=if i=k then c else s.basis.getD i 0:=fun i=>zFV h hk i
   have hN: ∀i,i<m→s.den*at2 (Sx.piv s k c).rows i N=at2 s.rows i N*(sgZ (at2 s.rows k c)*at2 s.rows k c):=by
    intro i hi
    rw [h.entry hk (show c<N by omega) hp (show i<m+1 by omega) (Nat.lt_succ_self N),hz]
    by_cases e:i=k
    ·rw [if_pos e,e,hz,Int.mul_zero,Int.mul_zero,Int.zero_mul]
    ·rw [if_neg e,Int.mul_zero,Int.sub_zero,Int.mul_left_comm]
   refine ⟨h.piv hk kK hp,fun i hi=>zPm h.dp (hN i hi) (Int.mul_nonneg (hf i hi) (Int.le_of_lt hpz)),fun i hi hb'=> ?_,fun i hi hb' j hj=> ?_⟩
   ·rw [hbas] at hb'
    by_cases e:i=k
    ·rw [if_pos e] at hb';omega
    ·rw [if_neg e] at hb'
     exact zK9 h.dp (hN i hi) (by rw [hd.z i hi hb',Int.zero_mul])
   ·rw [hbas] at hb'
    by_cases e:i=k
    ·rw [if_pos e] at hb';omega
    ·rw [if_neg e] at hb'
     have q1:=hd.r i kK hb' j hj
     have q2:=hd.r i kK hb' c hcw
     refine zK9 h.dp (h.entry hk (show c<N by omega) hp (show i<m+1 by omega) (show j<N+1 by omega)) ?_
     rw [if_neg e,q1,q2,Int.zero_mul,Int.zero_mul]
     exact Int.mul_zero _
theorem Inv.drives (h:Inv m N M s)(hf:zD3 m N s)(hd: ∀i,i<m→w≤s.basis.getD i 0→at2 s.rows i N=0)(hw:w≤N):
 ∀k,k≤m→Inv m N M (zBc w s k)∧zD3 m N (zBc w s k)∧Dry m N w (zBc w s k) k
 |0,_=>⟨h,hf,hd,fun i hi=>absurd hi (Nat.not_lt_zero i)⟩
 |k+1,hk=>by
  obtain ⟨h1,h2,h3⟩:=Inv.drives h hf hd hw k kK
  exact h1.drive h2 h3 kK hw
theorem Inv.dry_step (h:Inv m N M s)(hd:Dry m N w s m){r c:Nat}(hw:w≤N)(hc:c<w)(hl:Least s.rows s.basis c N m r):Dry m N w (Sx.piv s r c) m:=by
 have hp:=hl.pos
 have hr:=hl.lt
 have hbas: ∀i,(Sx.piv s r c).basis.getD i 0=if i=r then c else s.basis.getD i 0:=fun i=>zFV h hr i
 have key: ∀i,i<m→w≤(Sx.piv s r c).basis.getD i 0→ ∀j,(j<w∨j=N)→at2 (Sx.piv s r c).rows i j=0:=by
  intro i hi hb j hj
  rw [hbas] at hb
  by_cases e:i=r
  ·rw [if_pos e] at hb;omega
  ·rw [if_neg e] at hb
   have q1:at2 s.rows i j=0:=by
    rcases hj with hj|hj
    ·exact hd.r i hi hb j hj
    ·rw [hj];exact hd.z i hi hb
   have q2:=hd.r i hi hb c hc
   refine zK9 h.dp (h.entry hr (show c<N by omega) kK (show i<m+1 by omega) (show j<N+1 by omega)) ?_
   rw [if_neg e,q1,q2,Int.zero_mul,Int.zero_mul]
   exact Int.mul_zero _
 exact ⟨fun i hi hb=>key i hi hb N (.inr Z),fun i hi hb j hj=>key i hi hb j (.inl hj)⟩
theorem zOZ (h:Inv m N M s)(hf:zD3 m N s)(hd:Dry m N w s m)(hw:w≤N): ∀K,Dry m N w (zAn m N w s K) m
 |0=>hd
 |K+1=>by
  have h1:=zOZ h hf hd hw K
  have h2:=(zFR h hf hw K).1
  show Dry m N w ((zCI m N w (zAn m N w s K)).getD _) m
  cases hs:zCI m N w (zAn m N w s K) with
  |none=>exact h1
  |some s'=>
   obtain ⟨c,r,g1,g2,g3,g4,rfl⟩:=zKB hs
   exact h2.dry_step h1 hw g1 g4
theorem zPr {k:Nat→Int}(hT:m≤s.rows.length)(hd:Dry m N w s m):Dry m N w (recost k m N s) m:=by
 refine ⟨fun i hi hb=> ?_,fun i hi hb j hj=> ?_⟩
 ·show at2 (zBU _ _ _) i N=0
  rw [zGu hT _ hi];exact hd.z i hi hb
 ·show at2 (zBU _ _ _) i j=0
  rw [zGu hT _ hi];exact hd.r i hi hb j hj
end
def zBf (p:Prog)(j:Nat):Int:=if j<p.n then-((zAt p.C).getD j 0) else 0
def M2 (p:Prog):Tab:=zCk (zBf p) p.m p.N (zAb p).rows
def zCW (p:Prog)(K:Nat):St:=zAn p.m p.N (p.n+p.m) (ph1 p) K
def mid (p:Prog)(K:Nat):St:=if p.a=0 then zAb p else zBc (p.n+p.m) (zCW p K) p.m
def ph2 (p:Prog)(K:Nat):St:=recost (zBf p) p.m p.N (mid p K)
def zD2 (p:Prog)(K L:Nat):St:=zAn p.m p.N (p.n+p.m) (ph2 p K) L
theorem zGO (p:Prog):p.n+p.m≤p.N:=Nat.le_add_right _ _
theorem zFT (p:Prog)(hp:p.Ok)(K:Nat):Inv p.m p.N (M1 p) (zCW p K)∧zD3 p.m p.N (zCW p K):=zFR (zNk p) (zLO p hp) (zGO p) K
theorem mid_keep (p:Prog)(hp:p.Ok)(K:Nat)(h0:0<p.a→at2 (zCW p K).rows p.m p.N=0):
 (∃M,Inv p.m p.N M (mid p K)∧p.m≤M.length∧zCk (zBf p) p.m p.N M=M2 p)∧zD3 p.m p.N (mid p K)∧Dry p.m p.N (p.n+p.m) (mid p K) p.m:=by
 unfold mid
 by_cases e:p.a=0
 ·rw [if_pos e]
  have hno: ∀i,i<p.m→ ¬p.n+p.m≤(zAb p).basis.getD i 0:=by
   intro i hi
   have h1:=(zFX p).bc i hi
   have h2:p.N=p.n+p.m+p.a:=rfl
   omega
  exact ⟨⟨_,zFX p,zBR p,Z⟩,zLk p hp,fun i hi hb=>absurd hb (hno i hi),fun i hi hb=>absurd hb (hno i hi)⟩
 ·rw [if_neg e]
  obtain ⟨h1,h2⟩:=zFT p hp K
  obtain ⟨_,hz⟩:=zIK h1 h2
  obtain ⟨g1,g2,g3⟩:=h1.drives h2 (hz (h0 kK)) (zGO p) p.m (Nat.le_refl _)
  refine ⟨⟨_,g1,?_,zOK (zBR p) _ _⟩,g2,g3⟩
  have:(M1 p).length=p.m+1:=zKT (zBR p) _
  omega
theorem zLP (p:Prog)(hp:p.Ok)(K:Nat)(h0:0<p.a→at2 (zCW p K).rows p.m p.N=0):
 Inv p.m p.N (M2 p) (ph2 p K)∧zD3 p.m p.N (ph2 p K)∧Dry p.m p.N (p.n+p.m) (ph2 p K) p.m:=by
 obtain ⟨⟨M,h1,h2,h3⟩,h4,h5⟩:=mid_keep p hp K h0
 have hT:p.m≤(mid p K).rows.length:=by rw [h1.n];exact Nat.le_succ _
 have h6:=h1.recost (zBf p) h2
 rw [h3] at h6
 exact ⟨h6,zKR hT h4,zPr hT h5⟩
theorem zIO (p:Prog)(hp:p.Ok)(K L:Nat)(h0:0<p.a→at2 (zCW p K).rows p.m p.N=0):
 Inv p.m p.N (M2 p) (zD2 p K L)∧zD3 p.m p.N (zD2 p K L)∧Dry p.m p.N (p.n+p.m) (zD2 p K L) p.m:=by
 obtain ⟨h1,h2,h3⟩:=zLP p hp K h0
 obtain ⟨h4,h5⟩:=zFR h1 h2 (zGO p) L
 exact ⟨h4,h5,zOZ h1 h2 h3 (zGO p) L⟩
end Go.Ax.Sx
namespace Go.Ax.Sx
open Go.Ax.Dt Go.Ax.Rt Go.Ax.Bg
structure Res where
 kind:Nat
 X:List Rat
 Y:List Rat
 R:List Rat
 V:Rat
def zCH (n:Nat)(β:List Nat)(f:Nat→Rat)(l:List Rat):Nat→List Rat
 |0=>l
 |k+1=>if β.getD k 0<n then (zCH n β f l k).set (β.getD k 0) (f k) else zCH n β f l k
theorem zEG (n:Nat)(β:List Nat)(f:Nat→Rat)(l:List Rat): ∀k,(zCH n β f l k).length=l.length
 |0=>rfl
 |k+1=>by
  rw [zCH]
  split
  ·rw [List.length_set,zEG n β f l k]
  ·exact zEG n β f l k
theorem zLU {n:Nat}{β:List Nat}{f:Nat→Rat}{l:List Rat}{j:Nat}: ∀{K:Nat},(∀k,k<K→β.getD k 0≠j)→(zCH n β f l K).getD j 0=l.getD j 0
 |0,_=>rfl
 |K+1,h=>by
  have h1:=zLU (n:=n) (f:=f) (l:=l) (K:=K) (fun k hk=>h k kK)
  rw [zCH]
  split
  ·rw [getD_set,if_neg (fun e=>h K (Nat.lt_succ_self K) e.1.symm)];exact h1
  ·exact h1
theorem zIq {n:Nat}{β:List Nat}{f:Nat→Rat}{l:List Rat}{k:Nat}(hl:l.length=n)(hlt:β.getD k 0<n):
 ∀{K:Nat},(∀i,i<K→β.getD i 0=β.getD k 0→i=k)→k<K→(zCH n β f l K).getD (β.getD k 0) 0=f k
 |0,_,hk=>absurd hk (Nat.not_lt_zero k)
 |K+1,hi,hk=>by
  rw [zCH]
  by_cases e:k=K
  ·subst e
   rw [if_pos hlt,getD_set,if_pos ⟨rfl,by rw [zEG,hl];exact hlt⟩]
  ·have h1:=zIq (f:=f) hl hlt (K:=K) (fun i h=>hi i kK) kK
   have hne:β.getD K 0≠β.getD k 0:=fun q=>e (hi K (Nat.lt_succ_self K) q).symm
   split
   ·rw [getD_set,if_neg (fun q=>hne q.1.symm)];exact h1
   ·exact h1
def zB0 (p:Prog)(s:St):List Rat:=zCH p.n s.basis (fun k=>Rat.divInt (at2 s.rows k p.N) s.den) (List.replicate p.n 0) p.m
def zFs (n c:Nat):List Rat:=if c<n then (List.replicate n 0).set c 1 else List.replicate n 0
def zIS (p:Prog)(s:St)(c:Nat):List Rat:=zCH p.n s.basis (fun k=>Rat.divInt (-(at2 s.rows k c)) s.den) (zFs p.n c) p.m
def yL (p:Prog)(s:St)(d:Int):List Rat:=(List.range p.m).map (fun i=>Rat.divInt (at2 s.rows p.m (p.n+i)) d*((p.fac i:Nat):Rat))
def Prog.fc (p:Prog):Nat:=zDD 1 p.C
def zD1 (p:Prog)(K L:Nat):Res:=
 if 0<p.a∧at2 (zCW p K).rows p.m p.N<0 then ⟨1,[],yL p (zCW p K) (zCW p K).den,[],0⟩
 else if zCb p.m (p.n+p.m) (zD2 p K L)<p.n+p.m then ⟨2,zB0 p (zD2 p K L),[],zIS p (zD2 p K L) (zCb p.m (p.n+p.m) (zD2 p K L)),0⟩
 else ⟨0,zB0 p (zD2 p K L),yL p (zD2 p K L) ((zD2 p K L).den*(p.fc:Nat)),[],Rat.divInt (at2 (zD2 p K L).rows p.m p.N) ((zD2 p K L).den*(p.fc:Nat))⟩
structure Stops (p:Prog)(K L:Nat):Prop where
 one:0<p.a→zCI p.m p.N (p.n+p.m) (zCW p K)=none
 two: ¬(0<p.a∧at2 (zCW p K).rows p.m p.N<0)→zCI p.m p.N (p.n+p.m) (zD2 p K L)=none
theorem zHm {p:Prog}(hp:p.Ok){K:Nat}(h: ¬(0<p.a∧at2 (zCW p K).rows p.m p.N<0)):0<p.a→at2 (zCW p K).rows p.m p.N=0:=by
 intro ha
 obtain ⟨h1,h2⟩:=zFT p hp K
 have:=(zIK h1 h2).1
 have: ¬at2 (zCW p K).rows p.m p.N<0:=fun q=>h ⟨ha,q⟩
 omega
theorem runs (p:Prog)(hp:p.Ok): ∃K L,Stops p K L:=by
 obtain ⟨K,hK⟩:=ends (zNk p) (zLO p hp) (zGO p)
 by_cases h:0<p.a∧at2 (zCW p K).rows p.m p.N<0
 ·exact ⟨K,0,fun _=>hK,fun q=>absurd h q⟩
 ·obtain ⟨h1,h2,_⟩:=zLP p hp K (zHm hp h)
  obtain ⟨L,hL⟩:=ends h1 h2 (zGO p)
  exact ⟨K,L,fun _=>hK,fun _=>hL⟩
inductive Good (p:Prog):Res→Prop
 |best {X Y:List Rat} {V:Rat} (hx:X.length=p.n) (hy:Y.length=p.m) (x0: ∀j,j<p.n→0≤X.getD j 0) (y0: ∀i,i<p.m→0≤Y.getD i 0)
  (ax: ∀i,i<p.m→zAQ (p.A.getD i []) X≤p.B.getD i 0) (ya: ∀j,j<p.n→p.C.getD j 0≤zAQ (zB4 p.A j) Y) (cx:zAQ p.C X=V) (yb:zAQ p.B Y=V):Good p ⟨0,X,Y,[],V⟩
 |none {Y:List Rat} (hm:0<p.m) (hy:Y.length=p.m) (y0: ∀i,i<p.m→0≤Y.getD i 0) (ya: ∀j,j<p.n→0≤zAQ (zB4 p.A j) Y) (yb:zAQ p.B Y<0):Good p ⟨1,[],Y,[],0⟩
 |free {X R:List Rat} (hn:0<p.n) (hx:X.length=p.n) (hr:R.length=p.n) (x0: ∀j,j<p.n→0≤X.getD j 0) (r0: ∀j,j<p.n→0≤R.getD j 0)
  (ax: ∀i,i<p.m→zAQ (p.A.getD i []) X≤p.B.getD i 0) (ar: ∀i,i<p.m→zAQ (p.A.getD i []) R≤0) (cr:0<zAQ p.C R):Good p ⟨2,X,[],R,0⟩
theorem mul_le0 {a x:Rat}(ha:0<a)(h:a*x≤0):x≤0:=Rat.le_of_mul_le_mul_right (c:=a) (by rw [Rat.zero_mul,Rat.mul_comm];exact h) ha
theorem zJQ {a x:Rat}(ha:0<a)(h:0≤a*x):0≤x:=Rat.le_of_mul_le_mul_right (c:=a) (by rw [Rat.zero_mul,Rat.mul_comm x];exact h) ha
theorem zEr {k:Nat}(h:0<k):(0:Rat)<(k:Rat):=by
 have h1:((k:Int):Rat)=(k:Rat):=Rat.intCast_natCast k
 rw [←h1];exact zEg kK
theorem zKf (p:Prog)(i:Nat):0<p.fac i:=zJM _ 1 kV
theorem zIh (p:Prog):0<p.fc:=zJM _ 1 kV
theorem zRA {x:Int}(h:x≤0):(x:Rat)≤0:=(Rat.intCast_le_intCast (a:=x) (b:=0)).2 h
theorem zIG {x:Int}(h:0≤x):(0:Rat)≤(x:Rat):=(Rat.intCast_le_intCast (a:=0) (b:=x)).2 h
theorem zNY {x:Int}(h:x<0):(x:Rat)<0:=(Rat.intCast_lt_intCast (a:=x) (b:=0)).2 h
theorem zFe {x d:Int}(h:d≠0):Rat.divInt x d*(d:Rat)=(x:Rat):=by rw [Rat.divInt_eq_div,Rat.div_mul_cancel (zG2 h)]
section
variable {p:Prog}{k:Nat→Int}{s:St}
theorem zSw {x:Nat→Int}{i:Nat}(hi:i<p.m)(ha: ∀q,q<p.a→x (p.n+p.m+q)=0):
 zCF (zAb p).rows p.N x i=p.eps i*(zAE (fun j=>(p.whole i).getD j 0*x j) p.n+x (p.n+i)+(p.whole i).getD p.n 0*x p.N):=by
 have e1: ∀j,j<p.n→at2 (zAb p).rows i j*x j=p.eps i*((p.whole i).getD j 0*x j):=fun j hj=>by rw [zKr p hi hj,Int.mul_assoc]
 have e2: ∀q,q<p.m→at2 (zAb p).rows i (p.n+q)*x (p.n+q)=if q=i then p.eps i*x (p.n+q) else 0:=fun q hq=>by
  rw [zJf p hi hq]
  by_cases e:i=q
  ·rw [if_pos e,if_pos e.symm]
  ·rw [if_neg e,if_neg (fun h=>e h.symm),Int.zero_mul]
 have e3: ∀q,q<p.a→at2 (zAb p).rows i (p.n+p.m+q)*x (p.n+p.m+q)=0:=fun q hq=>by rw [ha q hq,Int.mul_zero]
 show zAE (fun j=>at2 (zAb p).rows i j*x j) (p.n+p.m+p.a)+at2 (zAb p).rows i p.N*x p.N=_
 rw [zFo _ (p.n+p.m) p.a,zFo _ p.n p.m,zCM e3,zw e1,zw e2,zBY,zCh (f:=fun q=>p.eps i*x (p.n+q)) hi,zJe p hi,Int.mul_add,Int.mul_add,Int.mul_assoc]
 omega
theorem prim (h:Inv p.m p.N (zCk k p.m p.N (zAb p).rows) s)(hd:Dry p.m p.N (p.n+p.m) s p.m){c:Nat}(hc:c<p.n+p.m∨c=p.N){i:Nat}(hi:i<p.m):
 zAE (fun j=>(p.whole i).getD j 0*zBe p.m s c j) p.n+zBe p.m s c (p.n+i)+(p.whole i).getD p.n 0*zBe p.m s c p.N=0:=by
 have hw:=zGO p
 have hcN:c<p.N+1:=kK
 have h1:=h.vec hcN (i:=i) kK
 rw [if_neg (Nat.ne_of_lt hi),cost_row (zBR p) _ hi,zSw hi] at h1
 ·have h2:=zNT p i
  generalize zAE (fun j=>(p.whole i).getD j 0*zBe p.m s c j) p.n+zBe p.m s c (p.n+i)+(p.whole i).getD p.n 0*zBe p.m s c p.N=z at*
  have h3:p.eps i*(p.eps i*z)=0:=by rw [h1,Int.mul_zero]
  rw [←Int.mul_assoc,h2,Int.one_mul] at h3
  exact h3
 ·intro q hq
  have hlt:p.n+p.m+q<p.N:=Nat.add_lt_add_left hq _
  by_cases hb:zCv p.m s (p.n+p.m+q)
  ·obtain ⟨b,hbm,hbe⟩:=hb
   have h2:=h.vec_basic (c:=c) hbm
   rw [hbe,if_neg kK] at h2
   rw [h2]
   have:at2 s.rows b c=0:=by
    rcases hc with hc|hc
    ·exact hd.r b hbm kK c hc
    ·rw [hc];exact hd.z b hbm kK
   omega
  ·rw [zHI (fun b hb' e=>hb ⟨b,hb',e⟩),if_neg kK]
theorem zPH (hk: ∀i,i<p.m→k (p.n+i)=0):Slack p.m p.N p.n (zCk k p.m p.N (zAb p).rows) p.eps:=by
 have hs:=zPI p
 refine ⟨hs.lt,hs.sq,fun i q hi hq=> ?_,fun q hq=> ?_⟩
 ·rw [zHX (zBR p) hi];exact hs.at' i q hi hq
 ·rw [zJF (zBR p) (by have:=hs.lt;omega)];exact hk q hq
theorem dual_x (h:Inv p.m p.N (zCk k p.m p.N (zAb p).rows) s)(hk: ∀i,i<p.m→k (p.n+i)=0){j:Nat}(hj:j<p.n):
 at2 s.rows p.m j=zAE (fun q=>at2 s.rows p.m (p.n+q)*(p.whole q).getD j 0) p.m+s.den*k j:=by
 have hw:=zGO p
 have hjN:j<p.N+1:=kK
 rw [h.combo (zPH hk) (Nat.lt_succ_self _) hjN,if_pos rfl,zJF (zBR p) hjN]
 congr 1
 refine zw (fun q hq=> ?_)
 rw [zHX (zBR p) hq,zKr p hq hj,←Int.mul_assoc (p.eps q),zNT,Int.one_mul]
theorem dual_r (h:Inv p.m p.N (zCk k p.m p.N (zAb p).rows) s)(hk: ∀i,i<p.m→k (p.n+i)=0):
 at2 s.rows p.m p.N=zAE (fun q=>at2 s.rows p.m (p.n+q)*(p.whole q).getD p.n 0) p.m+s.den*k p.N:=by
 rw [h.combo (zPH hk) (Nat.lt_succ_self _) (Nat.lt_succ_self _),if_pos rfl,zJF (zBR p) (Nat.lt_succ_self _)]
 congr 1
 refine zw (fun q hq=> ?_)
 rw [zHX (zBR p) hq,zJe p hq,←Int.mul_assoc (p.eps q),zNT,Int.one_mul]
theorem a_len (hp:p.Ok){i:Nat}(hi:i<p.m):(p.A.getD i []).length=p.n:=hp.cols _ (z8 [] (by rw [hp.rows];exact hi))
theorem zRT (hp:p.Ok){i:Nat}(hi:i<p.m){x:Nat→Int}{X:List Rat}{d:Rat}(hX: ∀j,j<p.n→X.getD j 0*d=((x j:Int):Rat)):
 ((zAE (fun j=>(p.whole i).getD j 0*x j) p.n:Int):Rat)=((p.fac i:Nat):Rat)*zAQ (p.A.getD i []) X*d:=by
 rw [zGr,zB5 (a_len hp hi),←zDc,←zC4]
 refine zAo (fun j hj=> ?_)
 have hj':j<p.n+1:=kK
 rw [Rat.intCast_mul,←hX j hj,zIQ p hp hi hj',full_x p hp hi hj]
 grind
theorem zL2 {C:List Rat}{j:Nat}(hj:j<C.length):(((zAt C).getD j 0:Int):Rat)=((zDD 1 C:Nat):Rat)*C.getD j 0:=by
 unfold zAt
 rw [zBg _ _ 0 _ _ hj]
 exact zNC (z8 0 hj)
theorem zQw {x:Nat→Int}{X:List Rat}{d:Rat}(hX: ∀j,j<p.n→X.getD j 0*d=((x j:Int):Rat)):
 ((zAE (fun j=>(zAt p.C).getD j 0*x j) p.n:Int):Rat)=((p.fc:Nat):Rat)*zAQ p.C X*d:=by
 rw [zGr,zB5 (a:=p.C) (n:=p.n) rfl,←zDc,←zC4]
 refine zAo (fun j hj=> ?_)
 rw [Rat.intCast_mul,←hX j hj,zL2 hj]
 show ((p.fc:Nat):Rat)*_*_=_
 grind
theorem zQt (hp:p.Ok){j:Nat}(hj:j<p.n){y:Nat→Int}{Y:List Rat}{d:Rat}(hY: ∀q,q<p.m→Y.getD q 0*d=((y q:Int):Rat)*((p.fac q:Nat):Rat)):
 ((zAE (fun q=>y q*(p.whole q).getD j 0) p.m:Int):Rat)=zAQ (zB4 p.A j) Y*d:=by
 rw [zGr,zB5 (n:=p.m) (by rw [zDC];exact hp.rows),←zC4]
 refine zAo (fun q hq=> ?_)
 have h1:=hY q hq
 have hj':j<p.n+1:=kK
 rw [Rat.intCast_mul,zIQ p hp hq hj',full_x p hp hq hj,zGX]
 grind
theorem zRS (hp:p.Ok){y:Nat→Int}{Y:List Rat}{d:Rat}(hY: ∀q,q<p.m→Y.getD q 0*d=((y q:Int):Rat)*((p.fac q:Nat):Rat)):
 ((zAE (fun q=>y q*(p.whole q).getD p.n 0) p.m:Int):Rat)=zAQ p.B Y*d:=by
 rw [zGr,zB5 (a:=p.B) (n:=p.m) rfl,←zC4]
 refine zAo (fun q hq=> ?_)
 have h1:=hY q hq
 rw [Rat.intCast_mul,zIQ p hp hq (Nat.lt_succ_self _),zPy p hp hq]
 grind
theorem zL1 (p:Prog)(s:St):(zB0 p s).length=p.n:=by unfold zB0;rw [zEG,List.length_replicate]
theorem zHq (n c:Nat):(zFs n c).length=n:=by
 unfold zFs
 split
 ·rw [List.length_set,List.length_replicate]
 ·rw [List.length_replicate]
theorem ray_len (p:Prog)(s:St)(c:Nat):(zIS p s c).length=p.n:=by unfold zIS;rw [zEG,zHq]
theorem y_len (p:Prog)(s:St)(d:Int):(yL p s d).length=p.m:=by simp [yL]
theorem zKp (n j:Nat):(List.replicate n (0:Rat)).getD j 0=0:=by
 simp only [List.getD,List.getElem?_replicate]
 split<;>rfl
theorem zI4 {M:Tab}(h:Inv p.m p.N M s){j:Nat}(hj:j<p.n):(zB0 p s).getD j 0*(s.den:Rat)=((-(zBe p.m s p.N j):Int):Rat):=by
 have hw:=zGO p
 have hd:s.den≠0:=by have:=h.dp;omega
 unfold zB0
 by_cases hb:zCv p.m s j
 ·obtain ⟨b,hbm,rfl⟩:=hb
  rw [zIq (by rw [List.length_replicate]) hj (fun i hi e=>h.nodup hi hbm e) hbm,zFe hd,h.vec_basic hbm,if_neg kK]
  congr 1;omega
 ·rw [zLU (fun b hb' e=>hb ⟨b,hb',e⟩),zKp,Rat.zero_mul,zHI (fun b hb' e=>hb ⟨b,hb',e⟩),if_neg kK]
  rfl
theorem zNn {M:Tab}(h:Inv p.m p.N M s){c:Nat}(hc:at2 s.rows p.m c<0){j:Nat}(hj:j<p.n):(zIS p s c).getD j 0*(s.den:Rat)=((zBe p.m s c j:Int):Rat):=by
 have hd:s.den≠0:=by have:=h.dp;omega
 have hnb: ¬zCv p.m s c:=fun hb=>by have:=h.cost_basic hb;omega
 unfold zIS
 by_cases hb:zCv p.m s j
 ·have hjc:j≠c:=fun e=>hnb (e▸hb)
  obtain ⟨b,hbm,rfl⟩:=hb
  rw [zIq (zHq _ _) hj (fun i hi e=>h.nodup hi hbm e) hbm,zFe hd,h.vec_basic hbm,if_neg hjc]
  congr 1;omega
 ·rw [zLU (fun b hb' e=>hb ⟨b,hb',e⟩),zHI (fun b hb' e=>hb ⟨b,hb',e⟩)]
  unfold zFs
  by_cases e:j=c
  ·subst e
   rw [if_pos hj,if_pos rfl,getD_set,if_pos ⟨rfl,by rw [List.length_replicate];exact hj⟩,Rat.one_mul]
  ·rw [if_neg e]
   have:(if c<p.n then (List.replicate p.n (0:Rat)).set c 1 else List.replicate p.n 0).getD j 0=0:=by
    split
    ·rw [getD_set,if_neg (fun q=>e q.1),zKp]
    ·exact zKp _ _
   rw [this,Rat.zero_mul]
   rfl
theorem y_get {d:Int}(hd:d≠0){i:Nat}(hi:i<p.m):(yL p s d).getD i 0*(d:Rat)=((at2 s.rows p.m (p.n+i):Int):Rat)*((p.fac i:Nat):Rat):=by
 have:(yL p s d).getD i 0=Rat.divInt (at2 s.rows p.m (p.n+i)) d*((p.fac i:Nat):Rat):=by
  have hi:i<p.B.length:=hi
  simp [yL,List.getD,hi]
 rw [this,Rat.mul_assoc,Rat.mul_comm ((p.fac i:Nat):Rat),←Rat.mul_assoc,zFe hd]
theorem zGs (hp:p.Ok)(h:Inv p.m p.N (zCk k p.m p.N (zAb p).rows) s)(hf:zD3 p.m p.N s)(hd:Dry p.m p.N (p.n+p.m) s p.m):
 (∀j,j<p.n→0≤(zB0 p s).getD j 0)∧ ∀i,i<p.m→zAQ (p.A.getD i []) (zB0 p s)≤p.B.getD i 0:=by
 have hw:=zGO p
 have hdp:=zEg h.dp
 refine ⟨fun j hj=> ?_,fun i hi=> ?_⟩
 ·have h1:=zI4 h hj
  have h2:=h.vec_val hf (j:=j) kK
  refine zJQ hdp ?_
  rw [Rat.mul_comm,h1]
  exact zIG kK
 ·have h1:=prim h hd (c:=p.N) (.inr rfl) hi
  rw [h.vec_end] at h1
  have h2:=zRT hp hi (x:=fun j=> -(zBe p.m s p.N j)) (X:=zB0 p s) (fun j hj=>zI4 h hj)
  have h3:zAE (fun j=>(p.whole i).getD j 0* -(zBe p.m s p.N j)) p.n= -(zAE (fun j=>(p.whole i).getD j 0*zBe p.m s p.N j) p.n):=by
   have:zAE (fun j=>(p.whole i).getD j 0* -(zBe p.m s p.N j)) p.n=zAE (fun j=> -1*((p.whole i).getD j 0*zBe p.m s p.N j)) p.n:=zw (fun j _=>by rw [Int.mul_neg];omega)
   rw [this,zBY];omega
  have h2:((zAE (fun j=>(p.whole i).getD j 0* -(zBe p.m s p.N j)) p.n:Int):Rat)=((p.fac i:Nat):Rat)*zAQ (p.A.getD i []) (zB0 p s)*(s.den:Rat):=h2
  rw [h3] at h2
  have h4:=h.vec_val hf (j:=p.n+i) kK
  have h5: -(zAE (fun j=>(p.whole i).getD j 0*zBe p.m s p.N j) p.n)=zBe p.m s p.N (p.n+i)+(p.whole i).getD p.n 0*s.den:=kK
  rw [h5,Rat.intCast_add,Rat.intCast_mul,zIQ p hp hi (Nat.lt_succ_self _),zPy p hp hi] at h2
  have h6:=zRA h4
  have hpos:(0:Rat)<((p.fac i:Nat):Rat)*(s.den:Rat):=Rat.mul_pos (zEr (zKf p i)) hdp
  refine Rat.le_of_mul_le_mul_right ?_ hpos
  grind
theorem zRs (hp:p.Ok)(h:Inv p.m p.N (M2 p) s)(hf:zD3 p.m p.N s)(hd:Dry p.m p.N (p.n+p.m) s p.m)(hc: ∀a,a<p.n+p.m→0≤at2 s.rows p.m a):
 Good p ⟨0,zB0 p s,yL p s (s.den*(p.fc:Nat)),[],Rat.divInt (at2 s.rows p.m p.N) (s.den*(p.fc:Nat))⟩:=by
 have hw:=zGO p
 have hdp:=zEg h.dp
 have hfp:=zEr (zIh p)
 have hD:s.den*(p.fc:Int)≠0:=by
  have h1:=h.dp
  have h2:=zIh p
  have:=Int.mul_pos h1 (show (0:Int)<(p.fc:Int) by omega)
  omega
 have hDr:((s.den*(p.fc:Nat):Int):Rat)=(s.den:Rat)*((p.fc:Nat):Rat):=by rw [Rat.intCast_mul];rfl
 have hpos:(0:Rat)<(s.den:Rat)*((p.fc:Nat):Rat):=Rat.mul_pos hdp hfp
 have hY:=fun q (hq:q<p.m)=>y_get (p:=p) (s:=s) hD hq
 have hk: ∀i,i<p.m→zBf p (p.n+i)=0:=fun i hi=>by unfold zBf;rw [if_neg kK]
 have hkN:zBf p p.N=0:=by unfold zBf;rw [if_neg kK]
 obtain ⟨v1,v2⟩:=zGs hp h hf hd
 refine .best (zL1 p s) (y_len p s _) v1 (fun i hi=> ?_) v2 (fun j hj=> ?_) ?_ ?_
 ·have h1:=hY i hi
  rw [hDr] at h1
  refine zJQ hpos ?_
  rw [Rat.mul_comm,h1]
  exact Rat.mul_nonneg (zIG (hc _ kK)) (Rat.le_of_lt (zEr (zKf p i)))
 ·have h1:=zQt hp hj hY
  have h2:=dual_x h hk hj
  have hkj:zBf p j= -((zAt p.C).getD j 0):=by unfold zBf;rw [if_pos hj]
  rw [hkj] at h2
  have h3:=hc j kK
  have h4:zAE (fun q=>at2 s.rows p.m (p.n+q)*(p.whole q).getD j 0) p.m=at2 s.rows p.m j+s.den*(zAt p.C).getD j 0:=by
   rw [Int.mul_neg] at h2;omega
  rw [h4,hDr,Rat.intCast_add,Rat.intCast_mul,zL2 hj] at h1
  have h5:=zIG h3
  refine Rat.le_of_mul_le_mul_right ?_ hpos
  have e:((zDD 1 p.C:Nat):Rat)=((p.fc:Nat):Rat):=rfl
  rw [e] at h1
  grind
 ·have h1:=zQw (p:=p) (x:=fun j=> -(zBe p.m s p.N j)) (X:=zB0 p s) (fun j hj=>zI4 h hj)
  have h2:=h.vec (c:=p.N) (i:=p.m) (Nat.lt_succ_self _) (Nat.lt_succ_self _)
  rw [if_pos rfl] at h2
  have h3:zCF (M2 p) p.N (zBe p.m s p.N) p.m=zAE (fun j=>zBf p j*zBe p.m s p.N j) (p.N+1):=zJG (zBR p) _
  have h4:zAE (fun j=>zBf p j*zBe p.m s p.N j) (p.N+1)=zAE (fun j=>(zAt p.C).getD j 0* -(zBe p.m s p.N j)) p.n:=by
   rw [show p.N+1=p.n+(p.m+p.a+1) by show p.n+p.m+p.a+1=_;omega,zFo,zCM (f:=fun q=>zBf p (p.n+q)*zBe p.m s p.N (p.n+q)) (fun q _=>by
    show zBf p (p.n+q)*_=0
    unfold zBf
    rw [if_neg kK,Int.zero_mul]),Int.add_zero]
   exact zw (fun j hj=>by
    show zBf p j*_=_
    unfold zBf
    rw [if_pos hj,Int.neg_mul,Int.mul_neg])
  rw [h4] at h3
  have h1:((zAE (fun j=>(zAt p.C).getD j 0* -(zBe p.m s p.N j)) p.n:Int):Rat)=_:=h1
  rw [←h3,h2] at h1
  have h5:Rat.divInt (at2 s.rows p.m p.N) (s.den*(p.fc:Nat))*((s.den:Rat)*((p.fc:Nat):Rat))=((at2 s.rows p.m p.N:Int):Rat):=by rw [←hDr];exact zFe hD
  refine Rat.le_antisymm (Rat.le_of_mul_le_mul_right ?_ hpos) (Rat.le_of_mul_le_mul_right ?_ hpos)<;>grind
 ·have h1:=zRS hp hY
  have h2:=dual_r h hk
  rw [hkN,Int.mul_zero,Int.add_zero] at h2
  rw [←h2,hDr] at h1
  have h5:Rat.divInt (at2 s.rows p.m p.N) (s.den*(p.fc:Nat))*((s.den:Rat)*((p.fc:Nat):Rat))=((at2 s.rows p.m p.N:Int):Rat):=by rw [←hDr];exact zFe hD
  refine Rat.le_antisymm (Rat.le_of_mul_le_mul_right ?_ hpos) (Rat.le_of_mul_le_mul_right ?_ hpos)<;>grind
theorem zSU (hp:p.Ok)(h:Inv p.m p.N (M1 p) s)(hm:0<p.m)(hc: ∀a,a<p.n+p.m→0≤at2 s.rows p.m a)(hv:at2 s.rows p.m p.N<0):Good p ⟨1,[],yL p s s.den,[],0⟩:=by
 have hw:=zGO p
 have hdp:=zEg h.dp
 have hD:s.den≠0:=by have:=h.dp;omega
 have hY:=fun q (hq:q<p.m)=>y_get (p:=p) (s:=s) hD hq
 have hk: ∀i,i<p.m→zDL p (p.n+i)=0:=fun i hi=>by unfold zDL;rw [if_neg kK]
 have hkN:zDL p p.N=0:=by unfold zDL;rw [if_neg kK]
 refine .none hm (y_len p s _) (fun i hi=> ?_) (fun j hj=> ?_) ?_
 ·refine zJQ hdp ?_
  rw [Rat.mul_comm,hY i hi]
  exact Rat.mul_nonneg (zIG (hc _ kK)) (Rat.le_of_lt (zEr (zKf p i)))
 ·have h1:=zQt hp hj hY
  have h2:=dual_x h hk hj
  have hkj:zDL p j=0:=by unfold zDL;rw [if_neg kK]
  rw [hkj,Int.mul_zero,Int.add_zero] at h2
  rw [←h2] at h1
  refine zJQ hdp ?_
  rw [Rat.mul_comm,←h1]
  exact zIG (hc j kK)
 ·have h1:=zRS hp hY
  have h2:=dual_r h hk
  rw [hkN,Int.mul_zero,Int.add_zero] at h2
  rw [←h2] at h1
  have h3:=zNY hv
  refine Rat.not_le.1 (fun h4=>Rat.not_le.2 h3 ?_)
  rw [h1]
  exact Rat.mul_nonneg h4 (Rat.le_of_lt hdp)
theorem zSB (hp:p.Ok)(h:Inv p.m p.N (M2 p) s)(hf:zD3 p.m p.N s)(hd:Dry p.m p.N (p.n+p.m) s p.m){c:Nat}(hcw:c<p.n+p.m)(hneg:at2 s.rows p.m c<0)(hle: ∀i,i<p.m→at2 s.rows i c≤0):
 Good p ⟨2,zB0 p s,[],zIS p s c,0⟩:=by
 have hw:=zGO p
 have hdp:=zEg h.dp
 obtain ⟨v1,v2⟩:=zGs hp h hf hd
 have hN:zBe p.m s c p.N=0:=by rw [zHI (fun b hb=>by have:=h.bc b hb;omega),if_neg kK]
 have hcost:((at2 s.rows p.m c:Int):Rat)= -(((p.fc:Nat):Rat)*zAQ p.C (zIS p s c)*(s.den:Rat)):=by
  have h1:=zQw (p:=p) (x:=fun j=>zBe p.m s c j) (X:=zIS p s c) (fun j hj=>zNn h hneg hj)
  have h2:=h.vec (c:=c) (i:=p.m) kK (Nat.lt_succ_self _)
  rw [if_pos rfl] at h2
  have h3:zCF (M2 p) p.N (zBe p.m s c) p.m=zAE (fun j=>zBf p j*zBe p.m s c j) (p.N+1):=zJG (zBR p) _
  have h4:zAE (fun j=>zBf p j*zBe p.m s c j) (p.N+1)= -(zAE (fun j=>(zAt p.C).getD j 0*zBe p.m s c j) p.n):=by
   rw [show p.N+1=p.n+(p.m+p.a+1) by show p.n+p.m+p.a+1=_;omega,zFo,zCM (f:=fun q=>zBf p (p.n+q)*zBe p.m s c (p.n+q)) (fun q _=>by
    show zBf p (p.n+q)*_=0
    unfold zBf
    rw [if_neg kK,Int.zero_mul]),Int.add_zero]
   have:zAE (fun j=>zBf p j*zBe p.m s c j) p.n=zAE (fun j=> -1*((zAt p.C).getD j 0*zBe p.m s c j)) p.n:=zw (fun j hj=>by
    unfold zBf
    rw [if_pos hj,Int.neg_mul];omega)
   rw [this,zBY];omega
  rw [h4,h2] at h3
  have h1:((zAE (fun j=>(zAt p.C).getD j 0*zBe p.m s c j) p.n:Int):Rat)=_:=h1
  rw [←h1,h3,Rat.intCast_neg]
 have hn:0<p.n:=by
  apply Classical.byContradiction
  intro h0
  have e:zAQ p.C (zIS p s c)=0:=by
   rw [zB5 (a:=p.C) (n:=p.n) rfl,show p.n=0 by omega];rfl
  rw [e,Rat.mul_zero,Rat.zero_mul] at hcost
  have:=zNY hneg
  rw [hcost] at this
  exact absurd this (by decide+kernel)
 refine .free hn (zL1 p s) (ray_len p s c) v1 (fun j hj=> ?_) v2 (fun i hi=> ?_) ?_
 ·refine zJQ hdp ?_
  rw [Rat.mul_comm,zNn h hneg hj]
  exact zIG (h.vec_ray hle j)
 ·have h1:=prim h hd (c:=c) (.inl hcw) hi
  rw [hN,Int.mul_zero,Int.add_zero] at h1
  have h2:=zRT hp hi (x:=fun j=>zBe p.m s c j) (X:=zIS p s c) (fun j hj=>zNn h hneg hj)
  have h4:=h.vec_ray hle (p.n+i)
  have h5:zAE (fun j=>(p.whole i).getD j 0*zBe p.m s c j) p.n≤0:=kK
  have h2:((zAE (fun j=>(p.whole i).getD j 0*zBe p.m s c j) p.n:Int):Rat)=_:=h2
  have h6:=zRA h5
  rw [h2] at h6
  have hpos:(0:Rat)<((p.fac i:Nat):Rat)*(s.den:Rat):=Rat.mul_pos (zEr (zKf p i)) hdp
  refine mul_le0 hpos ?_
  grind
 ·have h1:=zNY hneg
  rw [hcost] at h1
  have hpos:(0:Rat)<((p.fc:Nat):Rat)*(s.den:Rat):=Rat.mul_pos (zEr (zIh p)) hdp
  refine Rat.not_le.1 (fun h4=>Rat.not_le.2 h1 ?_)
  have h5:=Rat.mul_nonneg (show (0:Rat)≤ -(zAQ p.C (zIS p s c)) by grind) (Rat.le_of_lt hpos)
  grind
end
theorem zO7 {p:Prog}(hp:p.Ok){K L:Nat}(hs:Stops p K L):Good p (zD1 p K L):=by
 unfold zD1
 by_cases h0:0<p.a∧at2 (zCW p K).rows p.m p.N<0
 ·rw [if_pos h0]
  obtain ⟨h1,h2⟩:=zFT p hp K
  have hm:0<p.m:=by
   have:=zKy p.B p.B.length
   have h3:0<zHM p.B:=h0.1
   show 0<p.B.length
   exact Nat.lt_of_lt_of_le h3 this
  rcases zM0 (hs.one h0.1) with ⟨_,h3⟩|⟨h3,h4,h5⟩
  ·exact zSU hp h1 hm h3 h0.2
  ·exact (zOr h1 (Nat.lt_of_lt_of_le h3 (zGO p)) h4 h5).elim
 ·rw [if_neg h0]
  obtain ⟨h1,h2,h3⟩:=zIO p hp K L (zHm hp h0)
  rcases zM0 (hs.two h0) with ⟨g1,g2⟩|⟨g1,g2,g3⟩
  ·rw [if_neg kK]
   exact zRs hp h1 h2 h3 g2
  ·rw [if_pos g1]
   exact zSB hp h1 h2 h3 g1 g2 g3
end Go.Ax.Sx
namespace Go.Ax.Sx
open Go.Ax.Dt Go.Ax.Rt Go.Ax.Bg
structure Prog.Dig (p:Prog)(k:Nat):Prop where
 a: ∀r∈p.A,∀q∈r,D k q
 b: ∀q∈p.B,D k q
 c: ∀q∈p.C,D k q
def Prog.E (p:Prog)(k:Nat):Nat:=k+k*(p.n+1)
def Prog.T (p:Prog)(k:Nat):Nat:=(p.E k+2)*(p.m+1)
def Prog.W (p:Prog)(k:Nat):Nat:=p.T k+2+2*(k*(p.n+1))
section
variable {p:Prog}{k:Nat}
theorem zPx (hp:p.Ok)(hk:p.Dig k){i:Nat}(hi:i<p.m): ∀q∈p.full i,D k q:=by
 intro q hq
 rcases List.mem_append.1 hq with h|h
 ·exact hk.a _ (z8 [] (by rw [hp.rows];exact hi)) q h
 ·rw [List.mem_singleton.1 h];exact hk.b _ (z8 0 hi)
theorem zPT (hp:p.Ok)(hk:p.Dig k){i j:Nat}(hi:i<p.m)(hj:j<p.n+1):((p.whole i).getD j 0).natAbs≤10^p.E k:=by
 have h1:=zNB (zPx hp hk hi)
 rw [zEb p hp hi] at h1
 exact h1 _ (z8 0 (by rw [zHJ,zEb p hp hi];exact hj))
theorem zKG (hk:p.Dig k){j:Nat}(hj:j<p.n):((zAt p.C).getD j 0).natAbs≤10^p.E k:=by
 refine Nat.le_trans (zNB hk.c _ (z8 0 (by rw [zHJ];exact hj))) (Nat.pow_le_pow_right kV ?_)
 exact Nat.add_le_add_left (Nat.mul_le_mul_left k (Nat.le_succ p.n)) k
theorem zIA (p:Prog)(i:Nat):(p.eps i).natAbs=1:=by unfold Prog.eps;split<;>rfl
theorem zCD (n:Nat):1≤10^n:=Nat.pow_pos kV
theorem zMz (hp:p.Ok)(hk:p.Dig k){i j:Nat}(hi:i<p.m)(hj:j<p.N+1):(at2 (zAb p).rows i j).natAbs≤10^p.E k:=by
 have h1:=zCD (p.E k)
 by_cases c1:j<p.n
 ·rw [zKr p hi c1,Int.natAbs_mul,zIA,Nat.one_mul]
  exact zPT hp hk hi kK
 ·by_cases c2:j<p.n+p.m
  ·obtain ⟨q,rfl⟩: ∃q,j=p.n+q:=⟨j-p.n,kK⟩
   rw [zJf p hi kK]
   split
   ·rw [zIA];exact h1
   ·exact Nat.zero_le _
  ·by_cases c3:j<p.N
   ·obtain ⟨q,rfl⟩: ∃q,j=p.n+p.m+q:=⟨j-(p.n+p.m),kK⟩
    rw [zNt p hi (Nat.lt_of_add_lt_add_left (show p.n+p.m+q<p.n+p.m+p.a from c3))]
    split
    ·exact h1
    ·exact Nat.zero_le _
   ·obtain rfl:j=p.N:=kK
    rw [zJe p hi,Int.natAbs_mul,zIA,Nat.one_mul]
    exact zPT hp hk hi (Nat.lt_succ_self _)
theorem M_abs (hp:p.Ok)(hk:p.Dig k){f:Nat→Int}(hf: ∀j,j<p.N+1→(f j).natAbs≤10^p.E k): ∀i j,i<p.m+1→j<p.N+1→(at2 (zCk f p.m p.N (zAb p).rows) i j).natAbs≤10^p.E k:=by
 intro i j hi hj
 by_cases e:i=p.m
 ·rw [e,zJF (zBR p) hj];exact hf j hj
 ·have hi':i<p.m:=Nat.lt_of_le_of_ne (Nat.le_of_lt_succ hi) e
  rw [zHX (zBR p) hi'];exact zMz hp hk hi' hj
theorem zPW (hp:p.Ok)(hk:p.Dig k): ∀i j,i<p.m+1→j<p.N+1→(at2 (M1 p) i j).natAbs≤10^p.E k:=
 M_abs hp hk (fun j _=>by
  have h1:=zCD (p.E k)
  unfold zDL
  split
  ·exact h1
  ·exact Nat.zero_le _)
theorem zHP (hp:p.Ok)(hk:p.Dig k): ∀i j,i<p.m+1→j<p.N+1→(at2 (M2 p) i j).natAbs≤10^p.E k:=
 M_abs hp hk (fun j _=>by
  unfold zBf
  split
  ·rename_i h
   rw [Int.natAbs_neg];exact zKG hk h
  ·exact Nat.zero_le _)
theorem zFP {M:Tab}{s:St}(h:Inv p.m p.N M s)(hm:p.m+1≤40)(hM: ∀i j,i<p.m+1→j<p.N+1→(at2 M i j).natAbs≤10^p.E k):
 (∀i j,i<p.m+1→j<p.N+1→(at2 s.rows i j).natAbs≤10^p.T k)∧s.den.natAbs≤10^p.T k:=by
 obtain ⟨h1,h2⟩:=h.bound (zCD (p.E k)) hM
 have h3:=zQ0 (k:=p.E k) hm
 exact ⟨fun i j hi hj=>Nat.le_trans (h1 i j hi hj) h3,Nat.le_trans h2 h3⟩
theorem zDJ {x n:Nat}(h:x≤10^n):x<10^(n+1):=Nat.lt_of_le_of_lt h (Nat.pow_lt_pow_right kV (Nat.lt_succ_self n))
theorem nat_D {x n:Nat}(h:x≤10^n):D (n+1) ((x:Nat):Rat):=by
 refine ⟨?_,?_⟩
 ·have:(((x:Nat):Rat)).num=(x:Int):=rfl
  rw [this,Int.natAbs_natCast];exact zDJ h
 ·have:(((x:Nat):Rat)).den=1:=rfl
  rw [this]
  exact Nat.lt_of_lt_of_le (show 1<10^1 by decide) (Nat.pow_le_pow_right kV (Nat.le_add_left 1 n))
theorem zPv (hp:p.Ok)(hk:p.Dig k){i:Nat}(hi:i<p.m):p.fac i≤10^(k*(p.n+1)):=by
 have:=zJL (p.full i) 1 (fun q hq=>(zPx hp hk hi q hq).2)
 rw [Nat.one_mul,zEb p hp hi] at this
 exact this
theorem fc_le (hk:p.Dig k):p.fc≤10^(k*p.n):=by
 have:=zJL p.C 1 (fun q hq=>(hk.c q hq).2)
 rw [Nat.one_mul] at this
 exact this
theorem zJV {P:Rat→Prop}{n:Nat}{β:List Nat}{f:Nat→Rat}{l:List Rat}(hl: ∀q∈l,P q): ∀{K:Nat},(∀i,i<K→P (f i))→ ∀q∈zCH n β f l K,P q
 |0,_,q,hq=>hl q hq
 |K+1,hf,q,hq=>by
  have h1:=zJV (n:=n) (β:=β) hl (K:=K) (fun i hi=>hf i kK)
  rw [zCH] at hq
  split at hq
  ·rcases List.mem_or_eq_of_mem_set hq with h|h
   ·exact h1 q h
   ·rw [h];exact hf K (Nat.lt_succ_self K)
  ·exact h1 q hq
theorem zNv (n:Nat):D (n+1) 0:=nat_D (x:=0) (Nat.zero_le _)
theorem zIW (n:Nat):D (n+1) 1:=nat_D (x:=1) (zCD n)
theorem zPS {M:Tab}{s:St}(h:Inv p.m p.N M s)(hm:p.m+1≤40)(hM: ∀i j,i<p.m+1→j<p.N+1→(at2 M i j).natAbs≤10^p.E k): ∀q∈zB0 p s,D (p.T k+1) q:=by
 obtain ⟨h1,h2⟩:=zFP h hm hM
 have hd:=h.dp
 refine zJV (fun q hq=> ?_) (fun i hi=>zET kK (zDJ (h1 i p.N kK (Nat.lt_succ_self _))) (zDJ h2))
 rw [List.eq_of_mem_replicate hq];exact zNv _
theorem ray_D {M:Tab}{s:St}(h:Inv p.m p.N M s)(hm:p.m+1≤40)(hM: ∀i j,i<p.m+1→j<p.N+1→(at2 M i j).natAbs≤10^p.E k){c:Nat}(hc:c<p.N): ∀q∈zIS p s c,D (p.T k+1) q:=by
 obtain ⟨h1,h2⟩:=zFP h hm hM
 have hd:=h.dp
 have h0: ∀q∈List.replicate p.n (0:Rat),D (p.T k+1) q:=fun q hq=>by rw [List.eq_of_mem_replicate hq];exact zNv _
 refine zJV (fun q hq=> ?_) (fun i hi=>zET kK (by rw [Int.natAbs_neg];exact zDJ (h1 i c kK kK)) (zDJ h2))
 unfold zFs at hq
 split at hq
 ·rcases List.mem_or_eq_of_mem_set hq with h'|h'
  ·exact h0 q h'
  ·rw [h'];exact zIW _
 ·exact h0 q hq
theorem y_D {M:Tab}{s:St}(hp:p.Ok)(hk:p.Dig k)(h:Inv p.m p.N M s)(hm:p.m+1≤40)(hM: ∀i j,i<p.m+1→j<p.N+1→(at2 M i j).natAbs≤10^p.E k){f:Nat}(hf0:0<f)(hf:f≤10^(k*p.n)): ∀q∈yL p s (s.den*(f:Nat)),D (p.W k) q:=by
 obtain ⟨h1,h2⟩:=zFP h hm hM
 have hd:=h.dp
 intro q hq
 obtain ⟨i,hi,rfl⟩:=List.mem_map.1 hq
 have hi:i<p.m:=by simpa using hi
 have hD:s.den*(f:Nat)≠0:=by
  have:=Int.mul_pos hd (show (0:Int)<((f:Nat):Int) by omega)
  omega
 have hw:=zGO p
 have hden:(s.den*(f:Nat)).natAbs≤10^(p.T k+k*p.n):=by
  rw [Int.natAbs_mul,Int.natAbs_natCast,Nat.pow_add]
  exact Nat.mul_le_mul h2 hf
 have a1:D (p.T k+k*p.n+1) (Rat.divInt (at2 s.rows p.m (p.n+i)) (s.den*(f:Nat))):=
  zET hD (zDJ (Nat.le_trans (h1 p.m (p.n+i) (Nat.lt_succ_self _) kK) (Nat.pow_le_pow_right kV (Nat.le_add_right _ _)))) (zDJ hden)
 refine (a1.mul (nat_D (zPv hp hk hi))).mono ?_
 unfold Prog.W
 have:k*p.n≤k*(p.n+1):=Nat.mul_le_mul_left k (Nat.le_succ p.n)
 omega
theorem v_D {M:Tab}{s:St}(h:Inv p.m p.N M s)(hm:p.m+1≤40)(hM: ∀i j,i<p.m+1→j<p.N+1→(at2 M i j).natAbs≤10^p.E k){f:Nat}(hf0:0<f)(hf:f≤10^(k*p.n)):D (p.W k) (Rat.divInt (at2 s.rows p.m p.N) (s.den*(f:Nat))):=by
 obtain ⟨h1,h2⟩:=zFP h hm hM
 have hd:=h.dp
 have hD:s.den*(f:Nat)≠0:=by
  have:=Int.mul_pos hd (show (0:Int)<((f:Nat):Int) by omega)
  omega
 have hden:(s.den*(f:Nat)).natAbs≤10^(p.T k+k*p.n):=by
  rw [Int.natAbs_mul,Int.natAbs_natCast,Nat.pow_add]
  exact Nat.mul_le_mul h2 hf
 have a1:D (p.T k+k*p.n+1) (Rat.divInt (at2 s.rows p.m p.N) (s.den*(f:Nat))):=
  zET hD (zDJ (Nat.le_trans (h1 p.m p.N (Nat.lt_succ_self _) (Nat.lt_succ_self _)) (Nat.pow_le_pow_right kV (Nat.le_add_right _ _)))) (zDJ hden)
 refine a1.mono ?_
 unfold Prog.W
 have:k*p.n≤k*(p.n+1):=Nat.mul_le_mul_left k (Nat.le_succ p.n)
 omega
theorem run_D (hp:p.Ok)(hk:p.Dig k)(hm:p.m+1≤40){K L:Nat}(hs:Stops p K L):
 (∀q∈(zD1 p K L).X,D (p.W k) q)∧(∀q∈(zD1 p K L).Y,D (p.W k) q)∧(∀q∈(zD1 p K L).R,D (p.W k) q)∧D (p.W k) (zD1 p K L).V:=by
 have hTW:p.T k+1≤p.W k:=by unfold Prog.W;omega
 have h0:D (p.W k) 0:=(zNv (p.T k)).mono hTW
 have hnil: ∀q∈([]:List Rat),D (p.W k) q:=fun q hq=>by simp at hq
 unfold zD1
 by_cases h:0<p.a∧at2 (zCW p K).rows p.m p.N<0
 ·rw [if_pos h]
  obtain ⟨h1,h2⟩:=zFT p hp K
  have h3:=y_D hp hk h1 hm (zPW hp hk) (f:=1) kV (zCD _)
  have e:(zCW p K).den*((1:Nat):Int)=(zCW p K).den:=kK
  rw [e] at h3
  exact ⟨hnil,h3,hnil,h0⟩
 ·rw [if_neg h]
  obtain ⟨h1,h2,h3⟩:=zIO p hp K L (zHm hp h)
  by_cases h4:zCb p.m (p.n+p.m) (zD2 p K L)<p.n+p.m
  ·rw [if_pos h4]
   exact ⟨fun q hq=>(zPS h1 hm (zHP hp hk) q hq).mono hTW,hnil,fun q hq=>(ray_D h1 hm (zHP hp hk) (Nat.lt_of_lt_of_le h4 (zGO p)) q hq).mono hTW,h0⟩
  ·rw [if_neg h4]
   exact ⟨fun q hq=>(zPS h1 hm (zHP hp hk) q hq).mono hTW,y_D hp hk h1 hm (zHP hp hk) (zIh p) (fc_le hk),hnil,v_D h1 hm (zHP hp hk) (zIh p) (fc_le hk)⟩
end
end Go.Ax.Sx
namespace Go.Ax.Sx
open Go.Ax.Dt Go.Ax.Rt Go.Ax.Bg
theorem zEh {f g:Nat→Rat}: ∀{n:Nat},(∀i,i<n→f i≤g i)→zAa f n≤zAa g n
 |0,_=>Rat.le_refl
 |n+1,h=>by
  have h1:=zEh (n:=n) (fun i hi=>h i kK)
  have h2:=h n (Nat.lt_succ_self n)
  show zAa f n+f n≤zAa g n+g n
  grind
section
variable {p:Prog}
theorem zJg (hp:p.Ok)(x y:List Rat):zAa (fun j=>zAQ (zB4 p.A j) y*x.getD j 0) p.n=zAa (fun i=>y.getD i 0*zAQ (p.A.getD i []) x) p.m:=by
 have e1: ∀j,j<p.n→zAQ (zB4 p.A j) y*x.getD j 0=zAa (fun i=>(p.A.getD i []).getD j 0*y.getD i 0*x.getD j 0) p.m:=fun j hj=>by
  rw [zB5 (n:=p.m) (by rw [zDC];exact hp.rows),←zC4]
  exact zAo (fun i hi=>by rw [zGX])
 have e2: ∀i,i<p.m→y.getD i 0*zAQ (p.A.getD i []) x=zAa (fun j=>(p.A.getD i []).getD j 0*y.getD i 0*x.getD j 0) p.n:=fun i hi=>by
  rw [zB5 (a_len hp hi),←zDc]
  exact zAo (fun j hj=>by grind)
 rw [zAo e1,zAo e2]
 exact zM4 _ _ _
def Prim (p:Prog)(x:List Rat):Prop:=(∀j,j<p.n→0≤x.getD j 0)∧ ∀i,i<p.m→zAQ (p.A.getD i []) x≤p.B.getD i 0
def Dual (p:Prog)(y:List Rat):Prop:=(∀i,i<p.m→0≤y.getD i 0)∧ ∀j,j<p.n→p.C.getD j 0≤zAQ (zB4 p.A j) y
def RayP (p:Prog)(x:List Rat):Prop:=(∀j,j<p.n→0≤x.getD j 0)∧(∀i,i<p.m→zAQ (p.A.getD i []) x≤0)∧0<zAQ p.C x
def RayD (p:Prog)(y:List Rat):Prop:=(∀i,i<p.m→0≤y.getD i 0)∧(∀j,j<p.n→0≤zAQ (zB4 p.A j) y)∧zAQ p.B y<0
theorem zCf {a b c:Rat}(hc:0≤c)(h:a≤b):a*c≤b*c:=Rat.mul_le_mul_of_nonneg_right h hc
theorem c_dot (p:Prog)(x:List Rat):zAQ p.C x=zAa (fun j=>p.C.getD j 0*x.getD j 0) p.n:=zB5 rfl
theorem b_dot (p:Prog)(y:List Rat):zAQ p.B y=zAa (fun i=>p.B.getD i 0*y.getD i 0) p.m:=zB5 rfl
theorem weak (hp:p.Ok){x y:List Rat}(hx:Prim p x)(hy:Dual p y):zAQ p.C x≤zAQ p.B y:=by
 have h1:zAQ p.C x≤zAa (fun j=>zAQ (zB4 p.A j) y*x.getD j 0) p.n:=by
  rw [c_dot]
  exact zEh (fun j hj=>zCf (hx.1 j hj) (hy.2 j hj))
 rw [zJg hp] at h1
 refine Rat.le_trans h1 ?_
 rw [b_dot]
 exact zEh (fun i hi=>by rw [Rat.mul_comm];exact zCf (hy.1 i hi) (hx.2 i hi))
theorem weak_ray (hp:p.Ok){x y:List Rat}(hx:RayP p x)(hy:Dual p y):False:=by
 have h1:zAQ p.C x≤zAa (fun j=>zAQ (zB4 p.A j) y*x.getD j 0) p.n:=by
  rw [c_dot]
  exact zEh (fun j hj=>zCf (hx.1 j hj) (hy.2 j hj))
 rw [zJg hp] at h1
 have h2:zAa (fun i=>y.getD i 0*zAQ (p.A.getD i []) x) p.m≤zAa (fun _=>0) p.m:=
  zEh (fun i hi=>by
   have:=zCf (hy.1 i hi) (hx.2.1 i hi)
   rw [Rat.mul_comm];rwa [Rat.zero_mul] at this)
 rw [zFY] at h2
 exact Rat.not_le.2 hx.2.2 (Rat.le_trans h1 h2)
theorem zTA (hp:p.Ok){x y:List Rat}(hx:Prim p x)(hy:RayD p y):False:=by
 have h1:0≤zAa (fun j=>zAQ (zB4 p.A j) y*x.getD j 0) p.n:=zF6 (fun j hj=>Rat.mul_nonneg (hy.2.1 j hj) (hx.1 j hj))
 rw [zJg hp] at h1
 have h2:zAa (fun i=>y.getD i 0*zAQ (p.A.getD i []) x) p.m≤zAQ p.B y:=by
  rw [b_dot]
  exact zEh (fun i hi=>by rw [Rat.mul_comm];exact zCf (hy.1 i hi) (hx.2 i hi))
 exact Rat.not_le.2 hy.2.2 (Rat.le_trans h1 h2)
end
section
variable {p:Prog}
theorem bounds (hp:p.Ok){r:Res}(hr:Good p r){x:List Rat}(hx:Prim p x):(r.kind=0→zAQ p.C x≤r.V)∧(r.kind=0∨r.kind=2):=by
 cases hr with
 |best hx' hy x0 y0 ax ya cx yb=>
  refine ⟨fun _=> ?_,.inl Z⟩
  have:=weak hp hx ⟨y0,ya⟩
  rw [yb] at this
  exact this
 |none hm hy y0 ya yb=>exact (zTA hp hx ⟨y0,ya,yb⟩).elim
 |free hn hx' hr x0 r0 ax ar cr=>exact ⟨fun h=>absurd h (by show¬(2:Nat)=0;omega),.inr rfl⟩
end
end Go.Ax.Sx
namespace Go.Ax.Rt
open Go.Ax.Bg Go.Ax.Dt
theorem dig_D {k:Nat}{q:Rat}(h1:(Lib.decDigits q.num.natAbs).length≤k)(h2:(Lib.decDigits q.den).length≤k):D k q:=
 ⟨Nat.lt_of_lt_of_le (zDu _) (Nat.pow_le_pow_right kV h1),Nat.lt_of_lt_of_le (zDu _) (Nat.pow_le_pow_right kV h2)⟩
theorem zEw {m:List (List zAA)}(h:zJ2 m=0): ∀r∈inM m,r.length=zS m∧ ∀q∈r,D 2000 q:=by
 have hM:=zDy h
 intro r hr
 refine ⟨zOY hM r hr,?_⟩
 obtain ⟨x,hx,rfl⟩:=List.mem_map.1 hr
 intro q hq
 obtain ⟨s,hs,rfl⟩:=List.mem_map.1 hq
 have hf:=(IsQ.self (hM.ok x hx s hs)).fit
 unfold zBd at hf
 rw [Bool.and_eq_true,decide_eq_true_eq,decide_eq_true_eq] at hf
 exact dig_D hf.1 hf.2
end Go.Ax.Rt
namespace Go.Ax.Sx
open Go.Ax.Dt Go.Ax.Rt Go.Ax.Bg
structure Prob where
 A:List (List zAA)
 B:List zAA
 C:List zAA
def Prob.prog (P:Prob):Prog:=⟨inM P.A,P.B.map zAG,P.C.map zAG⟩
def lensP (P:Prob)(k x y r:Nat):Prop:=x=(if k=1 then 0 else P.C.length)∧y=(if k=2 then 0 else P.B.length)∧r=(if k=2 then P.C.length else 0)
instance (P:Prob)(k x y r:Nat):Decidable (lensP P k x y r):=inferInstanceAs (Decidable (_∧_))
def zRD (l:List Rat):Bool:=l.all (fun q=>decide (0≤q))
theorem zJ4 {l:List Rat}{n:Nat}(hl:l.length=n)(h: ∀j,j<n→0≤l.getD j 0):zRD l=true:=by
 unfold zRD
 rw [List.all_eq_true]
 intro q hq
 obtain ⟨i,hi,rfl⟩:=List.getElem_of_mem hq
 have:=h i kK
 rw [zCC 0 hi] at this
 exact decide_eq_true this
section
variable {P:Prob}
end
end Go.Ax.Sx
namespace Go.Ax.Sx
open Go.Ax.Dt Go.Ax.Rt Go.Ax.Bg
theorem cmp_of {a b:Rat}(h:a≤b):zBl a b≤0:=by
 unfold zBl
 split
 ·omega
 ·split
  ·omega
  ·rename_i h1 h2
   rcases Rat.le_iff_lt_or_eq.1 h with q|q
   ·exact absurd q h1
   ·exact absurd q h2
section
variable {P:Prob}
end
end Go.Ax.Sx
namespace Go.Ax.Mg
open Go.Ax.Dt Go.Ax.Rt Go.Ax.Bg Go.Ax.Sx
structure Sad (M:List (List Rat))(w:Nat)(v:Rat)(x y:List Rat):Prop where
 xl:x.length=M.length
 yl:y.length=w
 x0: ∀i,i<M.length→0≤x.getD i 0
 y0: ∀j,j<w→0≤y.getD j 0
 xs:zAa (fun i=>x.getD i 0) M.length=1
 ys:zAa (fun j=>y.getD j 0) w=1
 up: ∀i,i<M.length→zAQ (M.getD i []) y≤v
 lo: ∀j,j<w→v≤zAQ (zB4 M j) x
theorem zCz {n i:Nat}{c:Rat}(h:i<n):(List.replicate n c).getD i 0=c:=by simp [List.getD,h]
def oneP (M:List (List Rat))(w:Nat):Prog:=⟨M,List.replicate M.length 1,List.replicate w 1⟩
theorem oneP_n (M:List (List Rat))(w:Nat):(oneP M w).n=w:=List.length_replicate ..
theorem oneP_m (M:List (List Rat))(w:Nat):(oneP M w).m=M.length:=List.length_replicate ..
theorem oneP_Ok {M:List (List Rat)}{w:Nat}(hM: ∀r∈M,r.length=w):(oneP M w).Ok:=
 ⟨(List.length_replicate ..).symm,fun r hr=>by rw [hM r hr];exact (List.length_replicate ..).symm⟩
def payN (M:List (List Rat))(x y:List Rat):Rat:=zAa (fun i=>x.getD i 0*zAQ (M.getD i []) y) M.length
section
variable {M:List (List Rat)}{w:Nat}{v v':Rat}{x y x' y':List Rat}
theorem zOq (hM: ∀r∈M,r.length=w)(x y:List Rat):zAa (fun j=>zAQ (zB4 M j) x*y.getD j 0) w=payN M x y:=by
 have h:=zJg (oneP_Ok hM) y x
 rw [oneP_n,oneP_m] at h
 exact h
theorem Sad.low (h:Sad M w v x y)(hM: ∀r∈M,r.length=w){z:List Rat}(z0: ∀j,j<w→0≤z.getD j 0)(zs:zAa (fun j=>z.getD j 0) w=1):v≤payN M x z:=by
 rw [←zOq hM]
 have h1:zAa (fun j=>v*z.getD j 0) w≤zAa (fun j=>zAQ (zB4 M j) x*z.getD j 0) w:=zEh (fun j hj=>zCf (z0 j hj) (h.lo j hj))
 rw [zDc,zs,Rat.mul_one] at h1
 exact h1
theorem Sad.high (h:Sad M w v x y){z:List Rat}(z0: ∀i,i<M.length→0≤z.getD i 0)(zs:zAa (fun i=>z.getD i 0) M.length=1):payN M z y≤v:=by
 have h1:payN M z y≤zAa (fun i=>v*z.getD i 0) M.length:=zEh (fun i hi=>by
  rw [Rat.mul_comm];exact zCf (z0 i hi) (h.up i hi))
 rw [zDc,zs,Rat.mul_one] at h1
 exact h1
end
def zBA (a:Rat)(l:List Rat):Rat:=l.foldl (fun a q=>if zBl q a<0 then q else a) a
def zG4 (M:List (List Rat)):Rat:=M.foldl zBA ((M.getD 0 []).getD 0 0)
theorem zQn {a b:Rat}:zBl a b<0↔a<b:=by
 unfold zBl
 split
 ·rename_i h;exact ⟨fun _=>h,fun _=>by omega⟩
 ·rename_i h
  split
  ·exact ⟨fun h2=>absurd h2 kK,fun h2=>absurd h2 h⟩
  ·exact ⟨fun h2=>absurd h2 kK,fun h2=>absurd h2 h⟩
theorem zMg: ∀(l:List Rat) (a:Rat),zBA a l≤a∧ ∀q∈l,zBA a l≤q
 |[],a=>⟨Rat.le_refl,fun q hq=>absurd hq (List.not_mem_nil)⟩
 |b::l,a=>by
  obtain ⟨h1,h2⟩:=zMg l (if zBl b a<0 then b else a)
  have e:zBA a (b::l)=zBA (if zBl b a<0 then b else a) l:=rfl
  rw [e]
  by_cases hc:zBl b a<0
  ·rw [if_pos hc] at h1 h2⊢
   have hba:=Rat.le_of_lt (zQn.1 hc)
   refine ⟨Rat.le_trans h1 hba,fun q hq=> ?_⟩
   rcases List.mem_cons.1 hq with rfl|hq
   ·exact h1
   ·exact h2 q hq
  ·rw [if_neg hc] at h1 h2⊢
   have hab:a≤b:=Rat.not_lt.1 (fun q=>hc (zQn.2 q))
   refine ⟨h1,fun q hq=> ?_⟩
   rcases List.mem_cons.1 hq with rfl|hq
   ·exact Rat.le_trans h1 hab
   ·exact h2 q hq
theorem zMf: ∀(M:List (List Rat)) (a:Rat),M.foldl zBA a≤a∧ ∀r∈M,∀q∈r,M.foldl zBA a≤q
 |[],a=>⟨Rat.le_refl,fun q hq=>absurd hq (List.not_mem_nil)⟩
 |r::M,a=>by
  obtain ⟨h1,h2⟩:=zMf M (zBA a r)
  obtain ⟨h3,h4⟩:=zMg r a
  refine ⟨Rat.le_trans h1 h3,fun s hs q hq=> ?_⟩
  rcases List.mem_cons.1 hs with rfl|hs
  ·exact Rat.le_trans h1 (h4 q hq)
  ·exact h2 s hs q hq
theorem least_le (M:List (List Rat)): ∀r∈M,∀q∈r,zG4 M≤q:=(zMf M _).2
theorem zJ1 {P:Rat→Prop}: ∀(l:List Rat) (a:Rat),P a→(∀q∈l,P q)→P (zBA a l)
 |[],a,ha,_=>ha
 |b::l,a,ha,h=>by
  have e:zBA a (b::l)=zBA (if zBl b a<0 then b else a) l:=rfl
  rw [e]
  refine zJ1 l _ ?_ (fun q hq=>h q (List.mem_cons_of_mem _ hq))
  split
  ·exact h b (List.mem_cons_self ..)
  ·exact ha
theorem zIH {P:Rat→Prop}: ∀(M:List (List Rat)) (a:Rat),P a→(∀r∈M,∀q∈r,P q)→P (M.foldl zBA a)
 |[],a,ha,_=>ha
 |r::M,a,ha,h=>zIH M _ (zJ1 r a ha (h r (List.mem_cons_self ..))) (fun s hs=>h s (List.mem_cons_of_mem _ hs))
def zEK (M:List (List Rat)):Rat:=1-zG4 M
def zAi (M:List (List Rat))(w:Nat):Prog:=⟨M.map (fun r=>r.map (fun q=>q+zEK M)),List.replicate M.length 1,List.replicate w 1⟩
def zAu (M:List (List Rat))(w K L:Nat):Rat×List Rat×List Rat:=
 let r:=zD1 (zAi M w) K L
 (1/r.V-zEK M,r.Y.map (fun q=>q/r.V),r.X.map (fun q=>q/r.V))
section
variable {M:List (List Rat)}{w:Nat}
theorem zIE (M:List (List Rat))(w:Nat):(zAi M w).n=w:=List.length_replicate ..
theorem zID (M:List (List Rat))(w:Nat):(zAi M w).m=M.length:=List.length_replicate ..
theorem zGg (hM: ∀r∈M,r.length=w):(zAi M w).Ok:=by
 refine ⟨?_,fun r hr=> ?_⟩
 ·show (M.map _).length=(List.replicate _ _).length
  rw [List.length_map,List.length_replicate]
 ·obtain ⟨s,hs,rfl⟩:=List.mem_map.1 hr
  show (s.map _).length=(List.replicate _ _).length
  rw [List.length_map,List.length_replicate,hM s hs]
theorem zJ0 {i:Nat}(hi:i<M.length):(zAi M w).A.getD i []=(M.getD i []).map (fun q=>q+zEK M):=zBg _ M [] [] i hi
theorem zLG (hM: ∀r∈M,r.length=w){i j:Nat}(hi:i<M.length)(hj:j<w):((zAi M w).A.getD i []).getD j 0=(M.getD i []).getD j 0+zEK M:=by
 rw [zJ0 hi]
 exact zBg _ _ 0 0 j (by rw [hM _ (z8 [] hi)];exact hj)
theorem zOU (hM: ∀r∈M,r.length=w){i j:Nat}(hi:i<M.length)(hj:j<w):1≤((zAi M w).A.getD i []).getD j 0:=by
 rw [zLG hM hi hj]
 have hr:=z8 (l:=M) [] hi
 have h:=least_le M _ hr ((M.getD i []).getD j 0) (z8 0 (by rw [hM _ hr];exact hj))
 unfold zEK
 grind
theorem zSD (hM: ∀r∈M,r.length=w){i:Nat}(hi:i<M.length)(x:List Rat):
 zAQ ((zAi M w).A.getD i []) x=zAQ (M.getD i []) x+zEK M*zAa (fun j=>x.getD j 0) w:=by
 have hl:(M.getD i []).length=w:=hM _ (z8 [] hi)
 have hl':((zAi M w).A.getD i []).length=w:=by rw [zJ0 hi,List.length_map,hl]
 rw [zB5 hl',zB5 hl,←zDc,←zHx]
 exact zAo (fun j hj=>by rw [zLG hM hi hj];grind)
theorem zSC (hM: ∀r∈M,r.length=w){j:Nat}(hj:j<w)(y:List Rat):
 zAQ (zB4 (zAi M w).A j) y=zAQ (zB4 M j) y+zEK M*zAa (fun i=>y.getD i 0) M.length:=by
 have hl:(zB4 M j).length=M.length:=zDC M j
 have hl':(zB4 (zAi M w).A j).length=M.length:=by
  rw [zDC];exact List.length_map ..
 rw [zB5 hl',zB5 hl,←zDc,←zHx]
 exact zAo (fun i hi=>by rw [zGX,zGX,zLG hM hi hj];grind)
theorem zLm: ∀{n:Nat} {f:Nat→Rat},(∀i,i<n→0≤f i)→zAa f n≤0→ ∀i,i<n→f i=0
 |0,f,_,_,i,hi=>absurd hi (Nat.not_lt_zero i)
 |n+1,f,h,hs,i,hi=>by
  have h1:0≤zAa f n:=zF6 (fun i hi=>h i kK)
  have h2:=h n (Nat.lt_succ_self n)
  have h3:zAa f n+f n≤0:=hs
  by_cases e:i=n
  ·subst e;grind
  ·exact zLm (n:=n) (fun i hi=>h i kK) (by grind) i kK
theorem sum_ge: ∀{n:Nat} {f:Nat→Rat},(∀i,i<n→0≤f i)→ ∀i,i<n→f i≤zAa f n
 |0,f,_,i,hi=>absurd hi (Nat.not_lt_zero i)
 |n+1,f,h,i,hi=>by
  have h1:0≤zAa f n:=zF6 (fun i hi=>h i kK)
  have h2:=h n (Nat.lt_succ_self n)
  show f i≤zAa f n+f n
  by_cases e:i=n
  ·subst e;grind
  ·have:=sum_ge (n:=n) (fun i hi=>h i kK) i kK
   grind
theorem zOm (n:Nat)(x:List Rat):zAQ (List.replicate n 1) x=zAa (fun j=>x.getD j 0) n:=by
 rw [zB5 List.length_replicate]
 exact zAo (fun j hj=>by rw [zCz hj,Rat.one_mul])
theorem zGx (l:List Rat)(V:Rat)(i:Nat):(l.map (fun q=>q/V)).getD i 0=l.getD i 0*V⁻¹ :=by
 by_cases h:i<l.length
 ·rw [zBg (fun q=>q/V) l 0 0 i h,Rat.div_def]
 ·have e1:(l.map (fun q=>q/V)).getD i 0=0:=by simp [List.getD,h]
  have e2:l.getD i 0=0:=by simp [List.getD,h]
  rw [e1,e2,Rat.zero_mul]
theorem zKe (a l:List Rat)(V:Rat):zAQ a (l.map (fun q=>q/V))=zAQ a l*V⁻¹ :=by
 unfold zAQ
 rw [←zC4]
 exact zAo (fun i _=>by rw [zGx];grind)
theorem zMZ (hM: ∀r∈M,r.length=w)(hw:0<w)(hm:0<M.length){r:Res}(g:Sx.Good (zAi M w) r):
 r.kind=0∧0<r.V∧r.X.length=w∧r.Y.length=M.length∧Sad M w (1/r.V-zEK M) (r.Y.map (fun q=>q/r.V)) (r.X.map (fun q=>q/r.V)):=by
 have hok:=zGg hM
 have en:=zIE M w
 have em:=zID M w
 have hk:r.kind=0∨r.kind=2:=by
  refine (bounds hok g (x:=List.replicate w 0) ⟨fun j hj=> ?_,fun i hi=> ?_⟩).2
  ·rw [en] at hj
   rw [zCz hj];exact Rat.le_refl
  ·rw [em] at hi
   have e:zAQ ((zAi M w).A.getD i []) (List.replicate w 0)=0:=by
    unfold zAQ
    refine Eq.trans (zAo (g:=fun _=>0) (fun j _=> ?_)) (zFY _)
    rw [zKp,Rat.mul_zero]
   have e2:(zAi M w).B.getD i 0=1:=zCz hi
   rw [e,e2]
   decide
 have hdual:Dual (zAi M w) (List.replicate M.length 1):=by
  refine ⟨fun i hi=> ?_,fun j hj=> ?_⟩
  ·rw [em] at hi
   rw [zCz hi];decide
  ·rw [en] at hj
   have e2:(zAi M w).C.getD j 0=1:=zCz hj
   have hl':(zB4 (zAi M w).A j).length=M.length:=by
    rw [zDC];exact List.length_map ..
   rw [e2,zB5 hl']
   have h0: ∀i,i<M.length→0≤(zB4 (zAi M w).A j).getD i 0*(List.replicate M.length (1:Rat)).getD i 0:=fun i hi=>by
    rw [zCz hi,Rat.mul_one,zGX]
    exact Rat.le_trans kV (zOU hM hi hj)
   refine Rat.le_trans ?_ (sum_ge h0 0 hm)
   rw [zCz hm,Rat.mul_one,zGX]
   exact zOU hM hm hj
 cases g with
 |none=>rcases hk with h|h<;>cases h
 |free hn hx hr x0 r0 ax ar cr=>exact (weak_ray hok (x:=_) ⟨r0,ar,cr⟩ hdual).elim
 | @best X Y V hx hy x0 y0 ax ya cx yb=>
  rw [en] at hx x0 ya
  rw [em] at hy y0 ax
  have cx':zAa (fun j=>X.getD j 0) w=V:=by rw [←zOm];exact cx
  have yb':zAa (fun i=>Y.getD i 0) M.length=V:=by rw [←zOm];exact yb
  have hV:0<V:=by
   refine Rat.not_le.1 (fun hV=> ?_)
   rw [←yb'] at hV
   have h0:=zLm y0 hV
   have h1:=ya 0 hw
   have e2:(zAi M w).C.getD 0 0=1:=zCz hw
   rw [e2,zB5 (n:=M.length) (by rw [zDC];exact List.length_map ..)] at h1
   rw [zAo (g:=fun _=>0) (fun i hi=>by rw [h0 i hi,Rat.mul_zero]),zFY] at h1
   exact absurd h1 kV
  have hne:V≠0:=fun e=>by rw [e] at hV;exact Rat.lt_irrefl hV
  have hu:V*V⁻¹ =1:=Rat.mul_inv_cancel V hne
  have hu0:0≤V⁻¹ :=Rat.le_of_lt (Rat.inv_pos.2 hV)
  refine ⟨Z,hV,hx,hy,?_⟩
  refine ⟨by rw [List.length_map,hy],by rw [List.length_map,hx],fun i hi=> ?_,fun j hj=> ?_,?_,?_,fun i hi=> ?_,fun j hj=> ?_⟩
  ·rw [zGx];exact Rat.mul_nonneg (y0 i hi) hu0
  ·rw [zGx];exact Rat.mul_nonneg (x0 j hj) hu0
  ·rw [zAo (g:=fun i=>Y.getD i 0*V⁻¹) (fun i _=>zGx _ _ _),zC4,yb'];exact hu
  ·rw [zAo (g:=fun i=>X.getD i 0*V⁻¹) (fun i _=>zGx _ _ _),zC4,cx'];exact hu
  ·rw [zKe,Rat.div_def,Rat.one_mul]
   have h1:=ax i hi
   have e2:(zAi M w).B.getD i 0=1:=zCz hi
   rw [e2,zSD hM hi,cx'] at h1
   have h2:=zCf hu0 (show zAQ (M.getD i []) X≤1-zEK M*V by grind)
   have e3:(1-zEK M*V)*V⁻¹ =V⁻¹ -zEK M*(V*V⁻¹):=by grind
   rw [e3,hu,Rat.mul_one] at h2
   exact h2
  ·rw [zKe,Rat.div_def,Rat.one_mul]
   have h1:=ya j hj
   have e2:(zAi M w).C.getD j 0=1:=zCz hj
   rw [e2,zSC hM hj,yb'] at h1
   have h2:=zCf hu0 (show 1-zEK M*V≤zAQ (zB4 M j) Y by grind)
   have e3:(1-zEK M*V)*V⁻¹ =V⁻¹ -zEK M*(V*V⁻¹):=by grind
   rw [e3,hu,Rat.mul_one] at h2
   exact h2
end
section
variable {M:List (List Rat)}{w:Nat}{v:Rat}{x y:List Rat}
def zDz (by' more:Rat)(M:List (List Rat)):List (List Rat):=M.map (fun r=>r.map (fun q=>q*by'+more))
theorem aff_get (a b:Rat)(hM: ∀r∈M,r.length=w){i j:Nat}(hi:i<M.length)(hj:j<w):((zDz a b M).getD i []).getD j 0=(M.getD i []).getD j 0*a+b:=by
 have e:(zDz a b M).getD i []=(M.getD i []).map (fun q=>q*a+b):=zBg _ M [] [] i hi
 rw [e]
 exact zBg _ _ 0 0 j (by rw [hM _ (z8 [] hi)];exact hj)
theorem zKZ (a b:Rat)(M:List (List Rat)):(zDz a b M).length=M.length:=List.length_map ..
theorem zKx (a b:Rat)(hM: ∀r∈M,r.length=w): ∀r∈zDz a b M,r.length=w:=fun r hr=>by
 obtain ⟨s,hs,rfl⟩:=List.mem_map.1 hr
 rw [List.length_map,hM s hs]
end
def skip (i j:Nat):Nat:=if j<i then j else j+1
section
variable {M:List (List Rat)}{w:Nat}{v:Rat}{x y:List Rat}
end
end Go.Ax.Mg
namespace Go.Ax.Rt
open Go.Ax.Bg
structure TNode where
 kind:Int
 player:Int
 info:Int
 next:List Int
 odds:List zAA
 pay:zAA
 deriving DecidableEq
def node0:TNode:=⟨0,0,0,[],[],[]⟩
abbrev Tree:=List TNode
def named (t:Tree)(k:Nat):Nat:=((t.flatMap TNode.next).filter (fun x=>decide (x=(k:Int)))).length
def own (p:Int)(n:TNode):Bool:=decide (n.kind=2) && decide (n.player=p)
def inSet (p i:Int)(n:TNode):Bool:=own p n && decide (n.info=i)
def firstIn (t:Tree)(p i:Int):Nat:=t.findIdx (inSet p i)
def infosOf (t:Tree)(p:Int):List Int:=((List.range 10).map (fun i:Nat=>(i:Int))).filter (fun i=>t.any (inSet p i))
def zKv (t:Tree)(p i:Int):Nat:=(t.getD (firstIn t p i) node0).next.length
structure RSeq where
 info:Int
 choice:Int
 before:Int
 deriving DecidableEq
def seq0:RSeq:=⟨-1,-1,-1⟩
structure RForm where
 seqs:List RSeq
 pos:List Int
 first:List (Int×Nat)
def lookA (m:List (Int×Nat))(k:Int):Option Nat:=(m.find? (fun x=>decide (x.1=k))).map Prod.snd
def newSeqs (n:TNode)(b:Int):List RSeq:=(List.range n.next.length).map (fun k:Nat=>⟨n.info,(k:Int),b⟩)
def zKY (p:Int)(n:TNode)(i:Nat)(f:RForm):RForm:=
 if own p n=true∧lookA f.first n.info=none then ⟨f.seqs++newSeqs n (f.pos.getD i 0),f.pos,f.first++[(n.info,f.seqs.length)]⟩ else f
def zRW (v:Nat→Int):List Int→Nat→List Int→List Int
 |[],_,a=>a
 |c::r,k,a=>zRW v r (k+1) (a.set c.toNat (v k))
def nextV (p:Int)(n:TNode)(i:Nat)(f:RForm)(k:Nat):Int:=if own p n=true then (((lookA f.first n.info).getD 0:Nat):Int)+(k:Int) else f.pos.getD i 0
def stepF (p:Int)(n:TNode)(i:Nat)(f:RForm):RForm:=⟨(zKY p n i f).seqs,zRW (nextV p n i (zKY p n i f)) n.next 0 (zKY p n i f).pos,(zKY p n i f).first⟩
def formN (t:Tree)(p:Int):Nat→RForm
 |0=>⟨[seq0],List.replicate t.length 0,[]⟩
 |i+1=>stepF p (t.getD i node0) i (formN t p i)
def seqsOf (t:Tree)(p:Int):List RSeq:=(formN t p t.length).seqs
theorem zIN (q:Rat): ∀(l:List Rat) (acc:Rat),zDA acc (l++[q])=zDA acc l+q
 |[],acc=>rfl
 |a::r,acc=>by rw [List.cons_append,zDA,zDA,zIN q r]
theorem zRb {k:Nat}{l:List Rat}(h: ∀q∈l,D k q): ∀{acc:Rat} {j:Nat},D j acc→D (j+l.length*(k+1)) (zDA acc l):=by
 induction l with
 |nil=>intro acc j ha;rw [List.length_nil,Nat.zero_mul];exact ha
 |cons a r ih=>
  intro acc j ha
  rw [zDA,List.length_cons,Nat.add_mul]
  exact (ih (fun q hq=>h q (by simp [hq])) (ha.add (h a kJ))).mono kK
def zB6 {α:Type}(f:α→α)(x:List α)(k:Nat):List α:=(x.take k).map f++x.drop k
theorem zGi {α:Type}(f:α→α)(x:List α)(k:Nat):(zB6 f x k).length=x.length:=by
 simp [zB6];omega
theorem zHi {α:Type}(f:α→α)(x:List α)(d:α){k:Nat}(hk:k<x.length):(zB6 f x k).getD k d=x.getD k d:=by
 have h:((x.take k).map f).length=k:=by simp;omega
 unfold zB6
 simp only [List.getD]
 rw [List.getElem?_append_right kK,h,Nat.sub_self,List.getElem?_drop,Nat.add_zero]
theorem zFS {α:Type}(f:α→α)(x:List α):zB6 f x 0=x:=by simp [zB6]
theorem zHh {α:Type}(f:α→α)(x:List α):zB6 f x x.length=x.map f:=by simp [zB6]
theorem zFi {α:Type}(f:α→α)(x:List α)(d:α){k:Nat}(hk:k<x.length):(zB6 f x k).set k (f (x.getD k d))=zB6 f x (k+1):=by
 have h:((x.take k).map f).length=k:=by simp;omega
 unfold zB6
 rw [List.set_append_right _ _ kK,h,Nat.sub_self,List.take_succ_eq_append_getElem hk,List.map_append,List.append_assoc]
 congr 1
 rw [zCC d hk,List.drop_eq_getElem_cons hk]
 rfl
theorem zSS {α:Type}(f:α→α)(x:List α)(d:α){k:Nat}(hk:k<x.length)(h:f (x.getD k d)=x.getD k d):zB6 f x k=zB6 f x (k+1):=by
 rw [←zFi f x d hk,h,←zHi f x d hk]
 apply List.ext_getElem kJ
 intro i h1 h2
 rw [List.getElem_set]
 split
 ·rename_i e;subst e;rw [zCC d h1]
 ·rfl
theorem zIb {α β:Type}(f:α→β)(l:List α)(d:α)(k:Nat)(hk:k<l.length):(l.take (k+1)).map f=(l.take k).map f++[f (l.getD k d)]:=by
 rw [List.take_succ_eq_append_getElem hk,List.map_append,zCC d hk];rfl
def zBy (f:Int×Int→Int)(l:zB1)(n:Nat):List Int:=(List.range n).map (fun i=>((cnt f l i:Nat):Int))
theorem zA8 (f:Int×Int→Int)(l:zB1)(n:Nat):(zBy f l n).length=n:=by simp [zBy]
theorem zJs (f:Int×Int→Int)(l:zB1)(n:Nat):(zBy f l n).map (fun z:Int=>(z:Rat))=zFG f l n:=by
 unfold zBy zFG
 rw [List.map_map]
 refine List.map_congr_left (fun i _=> ?_)
 exact Rat.intCast_natCast _
theorem zGT (f:Int×Int→Int)(n:Nat):zBy f [] n=List.replicate n 0:=by
 apply List.ext_getElem (by simp [zBy])
 intro i h1 h2
 simp [zBy,cnt]
theorem zOG (f:Int×Int→Int)(l:zB1)(x:Int×Int)(i:Nat):cnt f (l++[x]) i=cnt f l i+(if f x=(i:Int) then 1 else 0):=by
 unfold cnt
 rw [List.filter_append,List.length_append]
 congr 1
 by_cases h:f x=(i:Int)
 ·simp [h]
 ·simp [h]
theorem zK5 (f:Int×Int→Int)(l:zB1)(i:Nat):cnt f l i≤l.length:=List.length_filter_le _ _
theorem zGU (f:Int×Int→Int)(l:zB1)(n k:Nat)(hk:k<l.length)(j:Nat)(hj:f (l.getD k (0,0))=(j:Int))(hn:j<n):
 (zBy f (l.take k) n).set j ((zBy f (l.take k) n).getD j 0+1)=zBy f (l.take (k+1)) n:=by
 have e:l.take (k+1)=l.take k++[l.getD k (0,0)]:=by rw [List.take_succ_eq_append_getElem hk,zCC (0,0) hk]
 apply List.ext_getElem (by simp [zBy])
 intro i h1 h2
 have hi:i<n:=by simpa [zBy] using h2
 rw [List.getElem_set]
 have g: ∀l':zB1,∀a (h:a<(zBy f l' n).length),(zBy f l' n)[a]=((cnt f l' a:Nat):Int):=fun l' a h=>by simp [zBy]
 rw [g,g]
 rw [show cnt f (l.take (k+1)) i=_ from by rw [e,zOG,hj]]
 by_cases hij:j=i
 ·subst hij
  rw [if_pos rfl,if_pos rfl,zCC 0 (by rw [zA8];exact hi),g]
  rfl
 ·rw [if_neg hij,if_neg kK]
  rfl
theorem zDh (f:Int×Int→Int)(l:zB1)(n:Nat): ∀z∈zBy f l n,0≤z∧z≤l.length:=by
 intro z hz
 obtain ⟨i,_,rfl⟩:=List.mem_map.1 hz
 have:=zK5 f l i
 omega
theorem zGV (f:Int×Int→Int)(l:zB1)(n:Nat):(zFG f l n).length=n:=by simp [zFG]
def zE5 (g:Nat→Rat)(x:List Rat)(k:Nat):List Rat:=(List.range x.length).map (fun j=>if j<k then x.getD j 0+g j else x.getD j 0)
theorem zJi (g:Nat→Rat)(x:List Rat)(k:Nat):(zE5 g x k).length=x.length:=by simp [zE5]
theorem zNA (g:Nat→Rat)(x:List Rat):zE5 g x 0=x:=by
 apply List.ext_getElem (zJi _ _ _)
 intro i h1 h2
 simp [zE5,List.getD,h2]
theorem zJh (g:Nat→Rat)(x:List Rat){k i:Nat}(hi:i<x.length):(zE5 g x k).getD i 0=if i<k then x.getD i 0+g i else x.getD i 0:=by
 unfold zE5
 rw [zBg _ _ 0 _ _ (by simpa using hi)]
 simp [List.getD,hi]
theorem zPR (g:Nat→Rat)(x:List Rat){k:Nat}(hk:k<x.length):(zE5 g x k).set k (x.getD k 0+g k)=zE5 g x (k+1):=by
 apply List.ext_getElem (by simp [zE5])
 intro i h1 h2
 have hi:i<x.length:=by simpa [zE5] using h2
 have e1:=zJh g x (k:=k+1) hi
 rw [zCC 0 h2] at e1
 rw [e1,List.getElem_set]
 by_cases hik:k=i
 ·subst hik;simp
 ·have e2:=zJh g x (k:=k) hi
  rw [zCC 0 (by rw [zJi];exact hi)] at e2
  rw [if_neg hik,e2]
  by_cases h3:i<k
  ·rw [if_pos h3,if_pos kK]
  ·rw [if_neg h3,if_neg kK]
theorem zPQ (g:Nat→Rat)(x:List Rat):zE5 g x x.length=(List.range x.length).map (fun j=>x.getD j 0+g j):=by
 unfold zE5
 refine List.map_congr_left (fun j hj=> ?_)
 rw [if_pos (by simpa using hj)]
theorem zOW (l:List (Nat×Nat))(i k:Nat):zE0 (l++[(i,k)])=zE0 l++[((i:Int),(k:Int))]:=by simp [zE0]
theorem zP2 (l:List (Nat×Nat)):(zE0 l).length=l.length:=by simp [zE0]
theorem zM3: ∀(m:Nat) (l:List Rat),m≤l.length→zAa (fun c=>l.getD c 0) m=zDA 0 (l.take m)
 |0,l,_=>rfl
 |m+1,l,h=>by
  rw [zAa,zM3 m l kK,List.take_succ_eq_append_getElem kK,zIN,zCC 0 kK]
end Go.Ax.Rt
namespace Go.Ax.Mg
open Go.Ax.Dt Go.Ax.Rt Go.Ax.Bg Go.Ax.Sx
def zKV (B:Nat)(d:Int)(q:Rat):Prop:= ∃x:Int,x.natAbs≤B∧q=Rat.divInt x d
theorem zKV.zero (B:Nat)(d:Int):zKV B d 0:=⟨0,Nat.zero_le _,(Rat.zero_divInt d).symm⟩
structure Fine (p:Prog)(e f:Nat):Prop where
 w: ∀i j,i<p.m→j<p.n+1→((p.whole i).getD j 0).natAbs≤10^e
 c: ∀j,j<p.n→((zAt p.C).getD j 0).natAbs≤10^e
 fa: ∀i,i<p.m→p.fac i≤10^f
 fc:p.fc≤10^f
theorem zQW {p:Prog}{e f:Nat}(hk:Fine p e f){i j:Nat}(hi:i<p.m)(hj:j<p.N+1):(at2 (zAb p).rows i j).natAbs≤10^e:=by
 have h1:=zCD e
 by_cases c1:j<p.n
 ·rw [zKr p hi c1,Int.natAbs_mul,zIA,Nat.one_mul]
  exact hk.w _ _ hi kK
 ·by_cases c2:j<p.n+p.m
  ·obtain ⟨q,rfl⟩: ∃q,j=p.n+q:=⟨j-p.n,kK⟩
   rw [zJf p hi kK]
   split
   ·rw [zIA];exact h1
   ·exact Nat.zero_le _
  ·by_cases c3:j<p.N
   ·obtain ⟨q,rfl⟩: ∃q,j=p.n+p.m+q:=⟨j-(p.n+p.m),kK⟩
    rw [zNt p hi (Nat.lt_of_add_lt_add_left (show p.n+p.m+q<p.n+p.m+p.a from c3))]
    split
    ·exact h1
    ·exact Nat.zero_le _
   ·obtain rfl:j=p.N:=kK
    rw [zJe p hi,Int.natAbs_mul,zIA,Nat.one_mul]
    exact hk.w _ _ hi (Nat.lt_succ_self _)
theorem M2_fine {p:Prog}{e f:Nat}(hk:Fine p e f): ∀i j,i<p.m+1→j<p.N+1→(at2 (M2 p) i j).natAbs≤10^e:=by
 intro i j hi hj
 unfold M2
 by_cases c:i=p.m
 ·rw [c,zJF (zBR p) hj]
  unfold zBf
  split
  ·rename_i h
   rw [Int.natAbs_neg];exact hk.c _ h
  ·exact Nat.zero_le _
 ·have hi':i<p.m:=Nat.lt_of_le_of_ne (Nat.le_of_lt_succ hi) c
  rw [zHX (zBR p) hi'];exact zQW hk hi' hj
theorem run_frac {p:Prog}{e f:Nat}(hp:p.Ok)(hk:Fine p e f)(hm:p.m+1≤40){K L:Nat}(h0:(zD1 p K L).kind=0):
 ∃d t:Int,0<d∧d.natAbs≤10^((e+2)*(p.m+1)+f)∧t.natAbs≤10^((e+2)*(p.m+1))∧(zD1 p K L).V=Rat.divInt t d∧
  (∀q∈(zD1 p K L).X,zKV (10^((e+2)*(p.m+1)+f)) d q)∧ ∀q∈(zD1 p K L).Y,zKV (10^((e+2)*(p.m+1)+f)) d q:=by
 unfold zD1 at h0⊢
 by_cases h:0<p.a∧at2 (zCW p K).rows p.m p.N<0
 ·rw [if_pos h] at h0;cases h0
 rw [if_neg h] at h0⊢
 by_cases h4:zCb p.m (p.n+p.m) (zD2 p K L)<p.n+p.m
 ·rw [if_pos h4] at h0;cases h0
 rw [if_neg h4]
 obtain ⟨h1,_,_⟩:=zIO p hp K L (zHm hp h)
 obtain ⟨a1,a2⟩:=h1.bound (zCD e) (M2_fine hk)
 have a3:=zQ0 (k:=e) hm
 have b1: ∀i j,i<p.m+1→j<p.N+1→(at2 (zD2 p K L).rows i j).natAbs≤10^((e+2)*(p.m+1)):=fun i j hi hj=>Nat.le_trans (a1 i j hi hj) a3
 have b2:=Nat.le_trans a2 a3
 have hd:=h1.dp
 have hf:=zIh p
 have hw:=zGO p
 generalize zD2 p K L=s at*
 have hfz:((p.fc:Nat):Int)≠0:=kK
 refine ⟨s.den*(p.fc:Nat),at2 s.rows p.m p.N,Int.mul_pos hd kK,?_,b1 _ _ (Nat.lt_succ_self _) (Nat.lt_succ_self _),Z,?_,?_⟩
 ·rw [Int.natAbs_mul,Int.natAbs_natCast,Nat.pow_add]
  exact Nat.mul_le_mul b2 hk.fc
 ·refine zJV (fun q hq=> ?_) (fun i hi=> ?_)
  ·rw [List.eq_of_mem_replicate hq];exact zKV.zero _ _
  ·refine ⟨at2 s.rows i p.N*(p.fc:Nat),?_,(Rat.divInt_mul_right hfz).symm⟩
   rw [Int.natAbs_mul,Int.natAbs_natCast,Nat.pow_add]
   exact Nat.mul_le_mul (b1 _ _ kK (Nat.lt_succ_self _)) hk.fc
 ·intro q hq
  obtain ⟨i,hi,rfl⟩:=List.mem_map.1 hq
  have hi:i<p.m:=by simpa using hi
  refine ⟨at2 s.rows p.m (p.n+i)*(p.fac i:Nat),?_,?_⟩
  ·rw [Int.natAbs_mul,Int.natAbs_natCast,Nat.pow_add]
   exact Nat.mul_le_mul (b1 _ _ (Nat.lt_succ_self _) kK) (hk.fa i hi)
  ·generalize s.den*((p.fc:Nat):Int)=dd
   rw [Rat.divInt_eq_div,Rat.divInt_eq_div,Rat.intCast_mul,Rat.div_def,Rat.div_def,Rat.intCast_natCast,Rat.mul_assoc,Rat.mul_assoc,Rat.mul_comm ((dd:Int):Rat)⁻¹]
theorem frac_div {B:Nat}{d t:Int}(hd:d≠0)(ht:t≠0){q:Rat}(h:zKV B d q):zKV B t (q/Rat.divInt t d):=by
 obtain ⟨x,hx,rfl⟩:=h
 refine ⟨x,hx,?_⟩
 have hdr:((d:Int):Rat)≠0:=zG2 hd
 have htr:((t:Int):Rat)≠0:=zG2 ht
 have e1:(t:Rat)*(t:Rat)⁻¹ =1:=Rat.mul_inv_cancel _ htr
 have e2:(d:Rat)*(d:Rat)⁻¹ =1:=Rat.mul_inv_cancel _ hdr
 have e:Rat.divInt x d=Rat.divInt x t*Rat.divInt t d:=by
  rw [Rat.divInt_eq_div,Rat.divInt_eq_div,Rat.divInt_eq_div,Rat.div_def,Rat.div_def,Rat.div_def]
  grind
 have hne:Rat.divInt t d≠0:=fun q=>by
  rw [Rat.divInt_eq_div,Rat.div_def] at q
  have:(t:Rat)*(d:Rat)⁻¹ *(d:Rat)=0:=by rw [q,Rat.zero_mul]
  have:(t:Rat)=0:=by grind
  exact htr this
 rw [e]
 exact Rat.mul_div_cancel hne
theorem frac_D {B k:Nat}{d:Int}(hd:d≠0){q:Rat}(h:zKV B d q)(h1:B<10^k)(h2:d.natAbs<10^k):D k q:=by
 obtain ⟨x,hx,rfl⟩:=h
 exact zET hd (Nat.lt_of_le_of_lt hx h1) h2
theorem frac_add (x y d:Int):Rat.divInt x d+Rat.divInt y d=Rat.divInt (x+y) d:=by
 rw [Rat.divInt_eq_div,Rat.divInt_eq_div,Rat.divInt_eq_div,Rat.div_def,Rat.div_def,Rat.div_def,Rat.intCast_add]
 grind
theorem zPK {B k:Nat}{t:Int}(ht:t≠0)(hk:k≤2000)(h2:t.natAbs<10^k): ∀(l:List Rat) (a:Int),(∀q∈l,zKV B t q)→a.natAbs+B*l.length<10^k→(zHw (Rat.divInt a t) l).2=0
 |[],a,_,_=>rfl
 |q::r,a,h,hb=>by
  obtain ⟨x,hx,rfl⟩:=h q (List.mem_cons_self ..)
  rw [List.length_cons,Nat.mul_add,Nat.mul_one] at hb
  have h3:=Int.natAbs_add_le a x
  rw [zHw,frac_add,if_pos ((zET ht (show (a+x).natAbs<10^k by omega) h2).fit hk)]
  exact zPK ht hk h2 r (a+x) (fun q hq=>h q (List.mem_cons_of_mem _ hq)) kK
theorem odds_com {qs:List Rat}(hn:qs.length≤256)(hf: ∀q∈qs,zBd q=true)(hs:(zHw 0 qs).2=0)(h0: ∀q∈qs,0≤q)(h1:zDA 0 qs=1):zFA (qs.map zr)=0:=by
 have v1:(qs.map zr).map zAG=qs:=by
  rw [List.map_map]
  conv=>rhs;rw [←List.map_id qs]
  exact List.map_congr_left (fun q hq=>(zHg (hf q hq)).2)
 have v2:zEL (qs.map zr)=0:=zQa (fun s hs=>by
  obtain ⟨q,hq,rfl⟩:=List.mem_map.1 hs
  exact (zHg (hf q hq)).1)
 have v3:zHy (qs.map zr)=(1,0):=by
  unfold zHy
  rw [if_neg (by rw [List.length_map];omega),if_pos v2,v1]
  have:=zM5 qs 0 hs
  rw [h1] at this
  exact Prod.ext this hs
 have v4:(qs.map zr).any zD0=false:=by
  rw [List.any_eq_false]
  intro s hs'
  obtain ⟨q,hq,rfl⟩:=List.mem_map.1 hs'
  have e:=zHg (hf q hq)
  have:=(zJ4 e.1).2 (by rw [e.2];exact h0 q hq)
  simp [this]
 unfold zFA posE
 rw [v3,v4];rfl
theorem zHd {N:Nat}: ∀(l:List Rat) (f:Nat),f∣N→(∀q∈l,q.den∣N)→zDD f l∣N
 |[],f,h,_=>h
 |a::r,f,h,hq=>by
  rw [zDD]
  refine zHd r _ ?_ (fun q hq'=>hq q (List.mem_cons_of_mem _ hq'))
  have e:f*(a.den/Nat.gcd f a.den)=Nat.lcm f a.den:=by
   unfold Nat.lcm
   rw [Nat.mul_div_assoc _ (Nat.gcd_dvd_right f a.den)]
  rw [e]
  exact Nat.lcm_dvd h (hq a (List.mem_cons_self ..))
def zMq:List Rat→Nat
 |[]=>1
 |q::r=>q.den*zMq r
theorem zMs: ∀l,0<zMq l
 |[]=>Nat.zero_lt_one
 |q::r=>Nat.mul_pos q.den_pos (zMs r)
theorem zMr: ∀{l:List Rat},∀q∈l,q.den∣zMq l
 |[],q,h=>absurd h List.not_mem_nil
 |a::r,q,h=>by
  rcases List.mem_cons.1 h with rfl|h
  ·exact Nat.dvd_mul_right _ _
  ·exact Nat.dvd_trans (zMr q h) (Nat.dvd_mul_left _ _)
theorem zOv {k:Nat}: ∀{l:List Rat},(∀q∈l,D k q)→zMq l≤10^(k*l.length)
 |[],_=>by rw [List.length_nil,Nat.mul_zero];exact Nat.le_refl _
 |a::r,h=>by
  rw [List.length_cons,Nat.mul_add,Nat.mul_one,Nat.add_comm,Nat.pow_add]
  exact Nat.mul_le_mul (Nat.le_of_lt (h a (List.mem_cons_self ..)).2) (zOv (fun q hq=>h q (List.mem_cons_of_mem _ hq)))
theorem zPt {k:Nat}{q c a:Rat}(hq:D k q)(hc:D k c)(ha:D k a):
 ((q*a+1)-c*a).num.natAbs≤10^(3*k+1)∧((q*a+1)-c*a).den∣q.den*(c.den*a.den):=by
 have e:(q*a+1)-c*a=Rat.divInt ((q.num*c.den-c.num*q.den)*a.num+(q.den*(c.den*a.den):Nat)) ((q.den*(c.den*a.den):Nat):Int):=by
  have n1:q*(q.den:Rat)=(q.num:Rat):=zKk q
  have n2:c*(c.den:Rat)=(c.num:Rat):=zKk c
  have n3:a*(a.den:Rat)=(a.num:Rat):=zKk a
  have hne:(((q.den*(c.den*a.den):Nat):Int):Rat)≠0:=zG2 (by
   have:=Nat.mul_pos q.den_pos (Nat.mul_pos c.den_pos a.den_pos)
   omega)
  rw [Rat.divInt_eq_div]
  have h:((q*a+1)-c*a)*(((q.den*(c.den*a.den):Nat):Int):Rat)=(((q.num*c.den-c.num*q.den)*a.num+(q.den*(c.den*a.den):Nat):Int):Rat):=by
   rw [Rat.intCast_add,Rat.intCast_mul,Rat.intCast_sub,Rat.intCast_mul,Rat.intCast_mul,Rat.intCast_natCast,Rat.intCast_natCast,Rat.intCast_natCast,Rat.natCast_mul,Rat.natCast_mul,←n1,←n2,←n3]
   grind
  rw [←h]
  exact (Rat.mul_div_cancel hne).symm
 have hpos:((q.den*(c.den*a.den):Nat):Int)≠0:=by
  have:=Nat.mul_pos q.den_pos (Nat.mul_pos c.den_pos a.den_pos)
  omega
 obtain ⟨e1,e2,_⟩:=zG1 ((q.num*c.den-c.num*q.den)*a.num+(q.den*(c.den*a.den):Nat)) _ hpos
 rw [e]
 refine ⟨?_,?_⟩
 ·rw [e1]
  refine Nat.le_trans (Nat.div_le_self _ _) ?_
  have b1:q.num.natAbs*c.den≤10^k*10^k:=Nat.mul_le_mul (Nat.le_of_lt hq.1) (Nat.le_of_lt hc.2)
  have b2:c.num.natAbs*q.den≤10^k*10^k:=Nat.mul_le_mul (Nat.le_of_lt hc.1) (Nat.le_of_lt hq.2)
  have b3:q.den*(c.den*a.den)≤10^k*(10^k*10^k):=Nat.mul_le_mul (Nat.le_of_lt hq.2) (Nat.mul_le_mul (Nat.le_of_lt hc.2) (Nat.le_of_lt ha.2))
  have s1:=Int.natAbs_add_le ((q.num*c.den-c.num*q.den)*a.num) ((q.den*(c.den*a.den):Nat):Int)
  have s2:(q.num*c.den-c.num*q.den).natAbs≤10^k*10^k+10^k*10^k:=by
   have:=Int.natAbs_sub_le (q.num*c.den) (c.num*q.den)
   rw [Int.natAbs_mul,Int.natAbs_mul,Int.natAbs_natCast,Int.natAbs_natCast] at this
   omega
  have s3:((q.num*c.den-c.num*q.den)*a.num).natAbs≤(10^k*10^k+10^k*10^k)*10^k:=by
   rw [Int.natAbs_mul]
   exact Nat.mul_le_mul s2 (Nat.le_of_lt ha.1)
  rw [Int.natAbs_natCast] at s1
  have e3:10^(3*k+1)=10^k*(10^k*10^k)*10:=by
   rw [Nat.pow_succ,show 3*k=k+(k+k) by omega,Nat.pow_add,Nat.pow_add]
  have e4:(10^k*10^k+10^k*10^k)*10^k=10^k*(10^k*10^k)+10^k*(10^k*10^k):=by
   rw [Nat.add_mul,Nat.mul_assoc]
  rw [e3]
  omega
 ·rw [e2]
  exact Nat.div_dvd_of_dvd (by
   refine Nat.dvd_trans (Nat.gcd_dvd_right _ _) ?_
   rw [Int.natAbs_natCast];exact Nat.dvd_refl _)
section
variable {M:List (List Rat)}{w:Nat}
theorem zMw {n:Nat}:zDD 1 (List.replicate n (1:Rat))=1:=by
 have:=zHd (N:=1) (List.replicate n (1:Rat)) 1 (Nat.dvd_refl _) (fun q hq=>by rw [List.eq_of_mem_replicate hq];exact Nat.dvd_refl _)
 exact Nat.dvd_one.1 this
theorem zMh (a b:Rat){k:Nat}(hw:0<w)(hm:0<M.length)(hM: ∀r∈M,r.length=w)(hD: ∀r∈M,∀q∈r,D k q): ∃c,D k c∧zG4 (zDz a b M)=c*a+b:=by
 refine zIH (P:=fun x=> ∃c,D k c∧x=c*a+b) (zDz a b M) _ ?_ ?_
 ·have hr:=z8 (l:=M) [] hm
  exact ⟨(M.getD 0 []).getD 0 0,hD _ hr _ (z8 0 (by rw [hM _ hr];exact hw)),aff_get a b hM hm hw⟩
 ·intro r hr q hq
  obtain ⟨s,hs,rfl⟩:=List.mem_map.1 hr
  obtain ⟨c,hc,rfl⟩:=List.mem_map.1 hq
  exact ⟨c,hD s hs c hc,Z⟩
theorem zSE (a b:Rat){k:Nat}(hw:0<w)(hm:0<M.length)(hM: ∀r∈M,r.length=w)(hD: ∀r∈M,∀q∈r,D k q)(ha:D k a):
 Fine (zAi (zDz a b M) w) (k*(w+2)+(3*k+1)) (k*(w+2)):=by
 obtain ⟨c,hc,hl⟩:=zMh a b hw hm hM hD
 have en:=zIE (zDz a b M) w
 have em:(zAi (zDz a b M) w).m=M.length:=by rw [zID,zKZ]
 have hok:=zGg (zKx a b hM)
 have hM':=zKx a b hM
 --the elements of a row and its right side
 have hel: ∀i,i<M.length→ ∀q∈(zAi (zDz a b M) w).full i,q.num.natAbs≤10^(3*k+1)∧q.den∣zMq (M.getD i [])*(c.den*a.den):=by
  intro i hi q hq
  rcases List.mem_append.1 hq with h|h
  ·rw [zJ0 (by rw [zKZ];exact hi)] at h
   obtain ⟨x,hx,rfl⟩:=List.mem_map.1 h
   have e:(zDz a b M).getD i []=(M.getD i []).map (fun q=>q*a+b):=zBg _ M [] [] i hi
   rw [e] at hx
   obtain ⟨y,hy,rfl⟩:=List.mem_map.1 hx
   have hy':=hD _ (z8 [] hi) y hy
   obtain ⟨g1,g2⟩:=zPt hy' hc ha
   have e2:y*a+b+zEK (zDz a b M)=(y*a+1)-c*a:=by
    unfold zEK;rw [hl];grind
   rw [e2]
   exact ⟨g1,Nat.dvd_trans g2 (Nat.mul_dvd_mul_right (zMr y hy) _)⟩
  ·rw [List.mem_singleton.1 h]
   have e2:(zAi (zDz a b M) w).B.getD i 0=1:=zCz (by rw [zKZ];exact hi)
   rw [e2]
   exact ⟨zCD _,Nat.one_dvd _⟩
 have hN: ∀i,i<M.length→zMq (M.getD i [])*(c.den*a.den)≤10^(k*(w+2)):=fun i hi=>by
  have h1:=zOv (k:=k) (hD _ (z8 [] hi))
  rw [hM _ (z8 [] hi)] at h1
  have h2:c.den*a.den≤10^k*10^k:=Nat.mul_le_mul (Nat.le_of_lt hc.2) (Nat.le_of_lt ha.2)
  rw [Nat.mul_add,Nat.pow_add,show k*2=k+k by omega,Nat.pow_add]
  exact Nat.mul_le_mul h1 h2
 have hfac: ∀i,i<M.length→(zAi (zDz a b M) w).fac i≤10^(k*(w+2)):=fun i hi=>by
  refine Nat.le_trans (Nat.le_of_dvd (Nat.mul_pos (zMs _) (Nat.mul_pos c.den_pos a.den_pos)) ?_) (hN i hi)
  exact zHd _ 1 (Nat.one_dvd _) (fun q hq=>(hel i hi q hq).2)
 refine ⟨fun i j hi hj=> ?_,fun j hj=> ?_,fun i hi=> ?_,?_⟩
 ·rw [zKH _ hok hi hj,Int.natAbs_mul,Int.natAbs_natCast,Nat.pow_add,Nat.mul_comm]
  rw [em] at hi
  have hin:((zAi (zDz a b M) w).full i).getD j 0∈(zAi (zDz a b M) w).full i:=z8 0 (by rw [zEb _ hok (by rw [em];exact hi)];exact hj)
  exact Nat.mul_le_mul (Nat.le_trans (Nat.div_le_self _ _) (hfac i hi)) (hel i hi _ hin).1
 ·have e:(zAt (zAi (zDz a b M) w).C).getD j 0=1:=by
   have hx:(zAt (List.replicate w (1:Rat))).getD j 0=1:=by
    rw [en] at hj
    unfold zAt
    rw [zBg _ _ 0 _ _ (by rw [List.length_replicate];exact hj),zCz hj,zMw]
    rfl
   exact hx
  rw [e];exact zCD _
 ·rw [em] at hi;exact hfac i hi
 ·have e:(zAi (zDz a b M) w).fc=1:=zMw
  rw [e];exact zCD _
structure Small (M:List (List Rat))(w K L:Nat):Prop where
 sad:Sad M w (zAu M w K L).1 (zAu M w K L).2.1 (zAu M w K L).2.2
 v:D 1300 (zAu M w K L).1
 r: ∀q∈(zAu M w K L).2.1,D 1320 q
 c: ∀q∈(zAu M w K L).2.2,D 1320 q
 rs:zFA ((zAu M w K L).2.1.map zr)=0
 cs:zFA ((zAu M w K L).2.2.map zr)=0
theorem ten5 {k:Nat}:10^k*5<10^(k+1):=by
 rw [Nat.pow_succ]
 have:=zCD k
 omega
theorem zQC {l:List Rat}{n:Nat}(hl:l.length=n)(h: ∀i,i<n→0≤l.getD i 0): ∀q∈l,0≤q:=by
 intro q hq
 obtain ⟨i,hi,rfl⟩:=List.mem_iff_getElem.1 hq
 have:=h i kK
 simpa [List.getD,hi] using this
theorem sum_all {l:List Rat}{n:Nat}(hl:l.length=n):zAa (fun i=>l.getD i 0) n=zDA 0 l:=by
 rw [zM3 n l kK,List.take_of_length_le kK]
theorem zPz (a b:Rat)(hM: ∀r∈M,r.length=w)(hw:0<w)(hm:0<M.length)(hw5:w≤5)(hm5:M.length≤5)(hD: ∀r∈M,∀q∈r,D 12 q)(ha:D 12 a)(hb:D 12 b){K L:Nat}(hs:Stops (zAi (zDz a b M) w) K L):Small (zDz a b M) w K L:=by
 have hM':=zKx a b hM
 have hl':=zKZ a b M
 have hok:=zGg hM'
 obtain ⟨g0,gV,gX,gY,gS⟩:=zMZ hM' hw (by rw [hl'];exact hm) (zO7 hok hs)
 have en:=zIE (zDz a b M) w
 have em:(zAi (zDz a b M) w).m=M.length:=by rw [zID,hl']
 have hfine:=zSE a b hw hm hM hD ha
 obtain ⟨d,t,d0,d1,t1,eV,fX,fY⟩:=run_frac hok hfine (by rw [em];omega) g0
 rw [em] at d1 t1 fX fY
 have hdz:d≠0:=kK
 have hT:(12*(w+2)+(3*12+1)+2)*(M.length+1)≤738:=Nat.le_trans (Nat.mul_le_mul (show 12*(w+2)+(3*12+1)+2≤123 by omega) (show M.length+1≤6 by omega)) kV
 generalize (12*(w+2)+(3*12+1)+2)*(M.length+1)=T at*
 obtain ⟨e1,he1⟩: ∃e:Nat,e=1200:=⟨_,rfl⟩
 obtain ⟨e2,he2⟩: ∃e:Nat,e=1310:=⟨_,rfl⟩
 obtain ⟨e3,he3⟩: ∃e:Nat,e=1320:=⟨_,rfl⟩
 have hd1:d.natAbs≤10^e1:=Nat.le_trans d1 (Nat.pow_le_pow_right kV kK)
 have ht1:t.natAbs≤10^e1:=Nat.le_trans t1 (Nat.pow_le_pow_right kV kK)
 have htz:t≠0:=fun e=>by
  rw [eV,e,Rat.zero_divInt] at gV
  exact Rat.lt_irrefl gV
 have hlt:e1<e3:=kK
 have ht2:t.natAbs<10^e3:=Nat.lt_of_le_of_lt ht1 (Nat.pow_lt_pow_right (a:=10) (m:=e1) (n:=e3) kV hlt)
 have hB:10^(T+12*(w+2))≤10^e2:=Nat.pow_le_pow_right kV kK
 have mono: ∀{l:List Rat},(∀q∈l,zKV (10^(T+12*(w+2))) d q)→ ∀q∈l.map (fun q=>q/(zD1 (zAi (zDz a b M) w) K L).V),zKV (10^e2) t q:=fun hl q hq=>by
  obtain ⟨a,ha,rfl⟩:=List.mem_map.1 hq
  rw [eV]
  obtain ⟨x,hx,e⟩:=frac_div hdz htz (hl a ha)
  exact ⟨x,Nat.le_trans hx hB,e⟩
 have mX:=mono fX
 have mY:=mono fY
 have hb2:10^e2<10^e3:=Nat.pow_lt_pow_right kV kK
 have dX: ∀q∈(zAu (zDz a b M) w K L).2.2,D 1320 q:=fun q hq=>(frac_D htz (mX q hq) hb2 ht2).mono kK
 have dY: ∀q∈(zAu (zDz a b M) w K L).2.1,D 1320 q:=fun q hq=>(frac_D htz (mY q hq) hb2 ht2).mono kK
 have sum: ∀(l:List Rat) (n:Nat),l.length=n→n≤5→(∀q∈l,zKV (10^e2) t q)→(∀q∈l,D 1320 q)→(∀i,i<n→0≤l.getD i 0)→zAa (fun i=>l.getD i 0) n=1→zFA (l.map zr)=0:=fun l n hl hn hf hd h0 h1=>by
  refine odds_com kK (fun q hq=>(hd q hq).fit kV) ?_ (zQC hl h0) (by rw [←sum_all hl];exact h1)
  have:=zPK (B:=10^e2) (k:=e3) htz kK ht2 l 0 hf (by
   refine Nat.lt_of_le_of_lt ?_ (Nat.lt_of_lt_of_le (ten5 (k:=e2)) (Nat.pow_le_pow_right kV kK))
   rw [Int.natAbs_zero,Nat.zero_add]
   exact Nat.mul_le_mul_left _ kK)
  rwa [Rat.zero_divInt] at this
 refine ⟨gS,?_,dY,dX,sum _ _ gS.xl (by rw [hl'];exact hm5) mY dY gS.x0 gS.xs,sum _ _ gS.yl hw5 mX dX gS.y0 gS.ys⟩
 have h1:D 1201 (Rat.divInt t d):=(zET hdz (zDJ ht1) (zDJ hd1)).mono kK
 have h2:D 1202 (1/(zD1 (zAi (zDz a b M) w) K L).V):=by
  rw [eV]
  exact ((zIW 0).div h1 (by rw [←eV];intro e;rw [e] at gV;exact Rat.lt_irrefl gV)).mono kV
 obtain ⟨c,hc,hl⟩:=zMh a b hw hm hM hD
 have h3:D 39 (zEK (zDz a b M)):=by
  unfold zEK;rw [hl]
  exact ((zIW 0).sub ((hc.mul ha).add hb)).mono kV
 exact (h2.sub h3).mono kV
end
end Go.Ax.Mg
namespace Go.Ax.Rt
open Go.Ax.Bg
abbrev firstF (t:Tree)(p:Int):List (Int×Nat):=(formN t p t.length).first
structure Bnd (t:Tree)(p:Int)(e:Nat):Prop where
 one:1≤e
 le:e≤(seqsOf t p).length
 whole: ∀x∈firstF t p,x.2<e→x.2+zKv t p x.1≤e
structure Blk (t:Tree)(p:Int)(e:Nat)(x:Int×Nat)(b:Nat):Prop where
 mem:x∈firstF t p
 info:x.1∈infosOf t p
 one:1≤x.2
 w1:1≤zKv t p x.1
 fin:x.2+zKv t p x.1=e
 lt:b<x.2
 bnd:Bnd t p x.2
 seqs: ∀c,c<zKv t p x.1→(seqsOf t p).getD (x.2+c) seq0=⟨x.1,(c:Int),(b:Int)⟩
end Go.Ax.Rt
namespace Go.Ax.Rt
open Go.Ax.Bg Go.Ax.Idx
theorem zPL: ∀(qs:List Rat) (acc:Rat),(zHw acc qs).2=0→(zHw acc qs).1=zDA acc qs
 |[],acc,_=>rfl
 |q::r,acc,h=>by
  rw [zHw] at h⊢
  rw [zDA]
  split at h
  ·rename_i hf
   rw [if_pos hf]
   exact zPL r _ h
  ·cases h
theorem zII {l:List zAA}(h:zFA l=0):l.length≤256∧(∀s∈l,zDH s=0)∧zDA 0 (l.map zAG)=1∧ ∀q∈l.map zAG,0≤q∧D 2000 q:=by
 unfold zFA at h
 split at h
 case isFalse h1=>exact absurd h h1
 rename_i h1
 split at h
 case isFalse=>cases h
 rename_i h2
 unfold posE at h1
 split at h1
 ·cases h1
 rename_i h3
 have h4:l.any zD0=false:=by
  cases hb:l.any zD0
  ·rfl
  ·exact absurd ⟨h1,hb⟩ h3
 unfold zHy at h1 h2
 split at h1
 ·cases h1
 rename_i h5
 split at h1
 case isFalse h6=>exact absurd h1 h6
 rename_i h6
 rw [if_neg h5,if_pos h6] at h2
 have h7:=zD5 h6
 refine ⟨kK,h7,?_,fun q hq=> ?_⟩
 ·have:=zPL _ _ h1
  rw [this] at h2
  unfold zBl at h2
  split at h2
  ·cases h2
  ·split at h2
   ·rename_i e;exact e
   ·cases h2
 ·obtain ⟨s,hs,rfl⟩:=List.mem_map.1 hq
  have hn:=(zJ4 (h7 s hs)).1 (by rw [List.any_eq_false] at h4;simpa using h4 s hs)
  refine ⟨hn,?_⟩
  have hf:=(IsQ.self (h7 s hs)).fit
  unfold zBd at hf
  rw [Bool.and_eq_true,decide_eq_true_eq,decide_eq_true_eq] at hf
  exact dig_D hf.1 hf.2
end Go.Ax.Rt
namespace Go.Ax.Mg
open Go.Ax.Dt Go.Ax.Rt Go.Ax.Bg Go.Ax.Sx
abbrev ResG:=zAA×List zAA×List zAA
def zNu (g:Rat×List Rat×List Rat):ResG:=(zr g.1,g.2.1.map zr,g.2.2.map zr)
def zMX (g:Rat×List Rat×List Rat):Bool:=(g.1::(g.2.1++g.2.2)).all zBd
def zE4 (m:List (List zAA))(K L:Nat):ResG×Int:=
 if zBW m≠0 then (([],[],[]),zBW m) else if zMX (zAu (inM m) (zS m) K L)=true then (zNu (zAu (inM m) (zS m) K L),0) else (([],[],[]),2)
def zFO (m:List (List zAA))(r c:List zAA):Int:=if r.length≠m.length∨c.length≠zS m then 3 else if zFA r≠0 then zFA r else zFA c
def payG (m:List (List zAA))(r c:List zAA):zAA×Int:=
 if zBW m≠0 then ([],zBW m) else if zFO m r c≠0 then ([],zFO m r c) else outF (zAQ (r.map zAG) ((inM m).map (fun row=>zAQ row (c.map zAG))))
def verG (m:List (List zAA))(v:zAA)(r c:List zAA):Int:=
 if zBW m≠0 then zBW m else if zFO m r c≠0 then zFO m r c else if zDH v≠0 then zDH v
 else if (inM m).any (fun row=>decide (0<zBl (zAQ row (c.map zAG)) (zAG v)))=true then 16
 else if (zEO (inM m) c.length).any (fun col=>decide (zBl (zAQ col (r.map zAG)) (zAG v)<0))=true then 16 else 0
def zI0 (x:List (List Rat))(i o:Nat):Bool:=(List.range (x.getD i []).length).all (fun k=>decide (0<zBl ((x.getD o []).getD k 0) ((x.getD i []).getD k 0)))
def domL (x:List (List Rat)):List Nat:=(List.range x.length).filter (fun i=>(List.range x.length).any (fun o=>zI0 x i o))
theorem zMG {l:List Rat}(h: ∀q∈l,zBd q=true):(l.map zr).map zAG=l:=by
 rw [List.map_map]
 conv=>rhs;rw [←List.map_id l]
 exact List.map_congr_left (fun q hq=>(zHg (h q hq)).2)
theorem aff_id (M:List (List Rat)):zDz 1 0 M=M:=by
 unfold zDz
 conv=>rhs;rw [←List.map_id M]
 refine List.map_congr_left (fun r _=> ?_)
 conv=>rhs;rw [id,←List.map_id r]
 exact List.map_congr_left (fun q _=>by rw [Rat.mul_one,Rat.add_zero];rfl)
structure IsG (m:List (List zAA)):Prop where
 is:IsM m m.length (zS m)
 w:0<zS m
 w12:zS m≤12
 l:0<m.length
 l12:m.length≤12
theorem zIj {m:List (List zAA)}(h:zBW m=0):IsG m:=by
 obtain ⟨h1,h2,h3,h4,h5⟩:=zB3 h
 exact ⟨zDy h1,kK,h4,List.length_pos_iff.2 h5,h2⟩
theorem IsG.rows {m:List (List zAA)}(h:IsG m): ∀r∈inM m,r.length=zS m:=zOY h.is
structure Solv (m:List (List zAA))(K L:Nat):Prop where
 g:IsG m
 eq:zE4 m K L=(zNu (zAu (inM m) (zS m) K L),0)
 sad:Sad (inM m) (zS m) (zAu (inM m) (zS m) K L).1 (zAu (inM m) (zS m) K L).2.1 (zAu (inM m) (zS m) K L).2.2
 v:IsQ (zr (zAu (inM m) (zS m) K L).1) (zAu (inM m) (zS m) K L).1
 vD:D 1300 (zAu (inM m) (zS m) K L).1
 r:((zAu (inM m) (zS m) K L).2.1.map zr).map zAG=(zAu (inM m) (zS m) K L).2.1
 c:((zAu (inM m) (zS m) K L).2.2.map zr).map zAG=(zAu (inM m) (zS m) K L).2.2
 rs:zFA ((zAu (inM m) (zS m) K L).2.1.map zr)=0
 cs:zFA ((zAu (inM m) (zS m) K L).2.2.map zr)=0
theorem solv_of {m:List (List zAA)}{K L:Nat}(hg:zBW m=0)(S:Small (inM m) (zS m) K L):Solv m K L:=by
 have f1: ∀q∈(zAu (inM m) (zS m) K L).2.1,zBd q=true:=fun q hq=>(S.r q hq).fit kV
 have f2: ∀q∈(zAu (inM m) (zS m) K L).2.2,zBd q=true:=fun q hq=>(S.c q hq).fit kV
 have f0:zBd (zAu (inM m) (zS m) K L).1=true:=S.v.fit kV
 have hf:zMX (zAu (inM m) (zS m) K L)=true:=by
  unfold zMX
  rw [List.all_eq_true]
  intro q hq
  rcases List.mem_cons.1 hq with rfl|hq
  ·exact f0
  ·rcases List.mem_append.1 hq with hq|hq
   ·exact f1 q hq
   ·exact f2 q hq
 refine ⟨zIj hg,?_,S.sad,zHg f0,S.v,zMG f1,zMG f2,S.rs,S.cs⟩
 unfold zE4
 rw [if_neg (fun q=>q hg),if_pos hf]
theorem zSt (a b:Rat){m m':List (List zAA)}{K L:Nat}(hg:zBW m'=0)(hM:inM m'=zDz a b (inM m))(hc: ∀r∈inM m,r.length=zS m')(hl:0<m.length)(hw5:zS m'≤5)(hl5:m.length≤5)(hD: ∀r∈inM m,∀q∈r,D 12 q)(ha:D 12 a)(hb:D 12 b)(hs:Stops (zAi (inM m') (zS m')) K L):Solv m' K L:=by
 have h:=zIj hg
 refine solv_of hg ?_
 rw [hM] at hs⊢
 exact zPz a b hc h.w (by rw [zB7];exact hl) hw5 (by rw [zB7];exact hl5) hD ha hb hs
theorem zS5 {m:List (List zAA)}{K L n:Nat}(hn:n≤5)(hg:zBW m=0)(ht:zLw n 12 m=true)(hs:Stops (zAi (inM m) (zS m)) K L):Solv m K L:=by
 have h:=zIj hg
 obtain ⟨t1,t2⟩:=zM9 ht
 have hne:m≠[]:=List.length_pos_iff.1 h.l
 have hw:zS m≤5:=by
  have:=(t2 _ (z8 (l:=m) [] h.l)).1
  show (m.getD 0 []).length≤5
  omega
 exact zSt 1 0 hg (aff_id _).symm h.rows h.l hw kK (inM_D h.is (fun v hv=>(t2 v hv).2) kV) ((zIW 0).mono kV) ((zNv 0).mono kV) hs
theorem pay_ok {m:List (List zAA)}{r c:List zAA}(h:(payG m r c).2=0):zFO m r c=0∧IsQ (payG m r c).1 (zAQ (r.map zAG) ((inM m).map (fun row=>zAQ row (c.map zAG)))):=by
 unfold payG at h⊢
 split at h
 ·rename_i h1;exact absurd h h1
 split at h
 ·rename_i h1;exact absurd h h1
 rename_i h1 h2
 rw [if_neg h1,if_neg h2]
 refine ⟨Classical.not_not.1 h2,?_⟩
 unfold outF at h⊢
 split at h
 ·rename_i h3
  rw [if_pos h3];exact zHg h3
 ·cases h
theorem zM1 {m:List (List zAA)}{r c:List zAA}(h:zFO m r c=0):r.length=m.length∧c.length=zS m∧zFA r=0∧zFA c=0:=by
 unfold zFO at h
 split at h
 ·cases h
 split at h
 ·rename_i h1;exact absurd h h1
 rename_i h1 h2
 exact ⟨Classical.not_not.1 (fun q=>h1 (.inl q)),Classical.not_not.1 (fun q=>h1 (.inr q)),Classical.not_not.1 h2,h⟩
section
variable {M:List (List Rat)}{w k:Nat}
theorem zRB (hw:0<w)(hm:0<M.length)(hM: ∀r∈M,r.length=w)(hD: ∀r∈M,∀q∈r,D k q):D k (zG4 M):=
 zIH (P:=fun q=>D k q) M _ (hD _ (z8 [] hm) _ (z8 0 (by rw [hM _ (z8 [] hm)];exact hw))) hD
theorem addM_D (hw:0<w)(hm:0<M.length)(hM: ∀r∈M,r.length=w)(hD: ∀r∈M,∀q∈r,D k q):D (k+2) (zEK M):=by
 unfold zEK
 exact ((zIW 0).sub (zRB hw hm hM hD)).mono kK
theorem zMY (hw:0<w)(hm:0<M.length)(hM: ∀r∈M,r.length=w)(hD: ∀r∈M,∀q∈r,D k q):(zAi M w).Dig (2*k+3):=by
 have ha:=addM_D hw hm hM hD
 refine ⟨fun r hr q hq=> ?_,fun q hq=> ?_,fun q hq=> ?_⟩
 ·obtain ⟨s,hs,rfl⟩:=List.mem_map.1 hr
  obtain ⟨c,hc,rfl⟩:=List.mem_map.1 hq
  exact ((hD s hs c hc).add ha).mono kK
 ·obtain ⟨_,rfl⟩:=List.mem_replicate.1 hq
  exact (zIW 0).mono kK
 ·obtain ⟨_,rfl⟩:=List.mem_replicate.1 hq
  exact (zIW 0).mono kK
structure Ran (M:List (List Rat))(w K L:Nat):Prop where
 kind:(zD1 (zAi M w) K L).kind=0
 pos:(zD1 (zAi M w) K L).V≠0
 xl:(zD1 (zAi M w) K L).X.length=w
 yl:(zD1 (zAi M w) K L).Y.length=M.length
 xd: ∀q∈(zD1 (zAi M w) K L).X,D 30000 q
 yd: ∀q∈(zD1 (zAi M w) K L).Y,D 30000 q
 vd:D 30000 (zD1 (zAi M w) K L).V
theorem ran (hw:0<w)(hw12:w≤12)(hm:0<M.length)(hm12:M.length≤12)(hM: ∀r∈M,r.length=w)(hD: ∀r∈M,∀q∈r,D k q)(hk:k≤48){K L:Nat}(hs:Stops (zAi M w) K L):Ran M w K L:=by
 have hok:=zGg hM
 obtain ⟨g0,gV,gX,gY,_⟩:=zMZ hM hw hm (zO7 hok hs)
 have en:=zIE M w
 have em:=zID M w
 obtain ⟨d1,d2,_,d4⟩:=run_D hok (zMY hw hm hM hD) (by rw [em];omega) hs
 have hW:(zAi M w).W (2*k+3)≤30000:=by
  unfold Prog.W Prog.T Prog.E
  rw [en,em]
  have h1:(2*k+3)*(w+1)≤99*13:=Nat.mul_le_mul kK kK
  have h2:(2*k+3+(2*k+3)*(w+1)+2)*(M.length+1)≤1388*13:=Nat.mul_le_mul kK kK
  omega
 exact ⟨g0,fun e=>by rw [e] at gV;exact Rat.lt_irrefl gV,gX,gY,fun q hq=>(d1 q hq).mono hW,fun q hq=>(d2 q hq).mono hW,d4.mono hW⟩
end
end Go.Ax.Mg
namespace Go.Ax.Mg
open Go.Ax.Dt Go.Ax.Rt Go.Ax.Bg Go.Ax.Sx
theorem zEZ {α:Type}(l:List α)(d:α){i:Nat}(h:i<l.length):l.take (i+1)=l.take i++[l.getD i d]:=by
 rw [List.take_succ_eq_append_getElem h]
 simp [List.getD,h]
theorem zOb (a:Rat)(l:List Rat){j:Nat}(h:j<l.length):zBA a (l.take (j+1))=if zBl (l.getD j 0) (zBA a (l.take j))<0 then l.getD j 0 else zBA a (l.take j):=by
 rw [zEZ l 0 h]
 unfold zBA
 rw [List.foldl_append];rfl
theorem zOa (a:Rat)(M:List (List Rat)){i:Nat}(h:i<M.length):(M.take (i+1)).foldl zBA a=zBA ((M.take i).foldl zBA a) (M.getD i []):=by
 rw [zEZ M [] h,List.foldl_append];rfl
def zFr (c:Rat)(l:List Rat):List Rat:=l.map (fun q=>q+c)
theorem zRl (c:Rat)(l:List Rat){j:Nat}(h:j<l.length):zFr c (l.take (j+1))=zFr c (l.take j)++[l.getD j 0+c]:=by
 unfold zFr
 rw [zEZ l 0 h,List.map_append];rfl
theorem zNz (c:Rat)(l:List Rat):(zFr c l).length=l.length:=List.length_map ..
theorem zRm (c:Rat)(M:List (List Rat)){i:Nat}(h:i<M.length):(M.take (i+1)).map (zFr c)=(M.take i).map (zFr c)++[zFr c (M.getD i [])]:=by
 rw [zEZ M [] h,List.map_append];rfl
theorem zMl (i:Nat):List.replicate (i+1) (1:Rat)=List.replicate i 1++[1]:=List.replicate_succ'
def zGD (v:Rat)(l:List Rat):List Rat:=l.map (fun q=>q/v)
theorem zMT (v:Rat)(l:List Rat){j:Nat}(h:j<l.length):zGD v (l.take (j+1))=zGD v (l.take j)++[l.getD j 0/v]:=by
 unfold zGD
 rw [zEZ l 0 h,List.map_append];rfl
def zJJ (c:List Rat)(M:List (List Rat)):List Rat:=M.map (fun row=>zAQ row c)
theorem zR5 (c:List Rat)(M:List (List Rat)){i:Nat}(h:i<M.length):zJJ c (M.take (i+1))=zJJ c (M.take i)++[zAQ (M.getD i []) c]:=by
 unfold zJJ
 rw [zEZ M [] h,List.map_append];rfl
theorem zQc {α:Type}(P:α→Bool)(d:α)(l:List α)(h: ∀i,i<l.length→P (l.getD i d)=false):l.any P=false:=by
 rw [List.any_eq_false]
 intro x hx
 obtain ⟨i,hi,rfl⟩:=List.mem_iff_getElem.1 hx
 have:=h i hi
 rw [show l.getD i d=l[i] by simp [List.getD,hi]] at this
 rw [this];exact fun h=>by cases h
theorem any_at {α:Type}(P:α→Bool)(d:α)(l:List α){i:Nat}(hi:i<l.length)(h:P (l.getD i d)=true):l.any P=true:=by
 rw [List.any_eq_true]
 exact ⟨l.getD i d,by rw [show l.getD i d=l[i] by simp [List.getD,hi]];exact List.getElem_mem hi,h⟩
def zI1 (x:List (List Rat))(i o n:Nat):Bool:=(List.range n).all (fun k=>decide (0<zBl ((x.getD o []).getD k 0) ((x.getD i []).getD k 0)))
theorem zPO (x:List (List Rat))(i o n:Nat):zI1 x i o (n+1)=(zI1 x i o n && decide (0<zBl ((x.getD o []).getD n 0) ((x.getD i []).getD n 0))):=by
 unfold zI1
 rw [List.range_succ,List.all_append]
 simp
def domB (x:List (List Rat))(i:Nat):Bool:=(List.range x.length).any (fun o=>zI0 x i o)
theorem domB_yes (x:List (List Rat)){i o:Nat}(ho:o<x.length)(h:zI0 x i o=true):domB x i=true:=by
 unfold domB
 rw [List.any_eq_true]
 exact ⟨o,by simpa using ho,h⟩
theorem domB_no (x:List (List Rat)){i:Nat}(h: ∀o,o<x.length→zI0 x i o=false):domB x i=false:=by
 unfold domB
 rw [List.any_eq_false]
 intro o ho
 rw [h o (by simpa using ho)]
 exact fun h=>by cases h
def zJI (x:List (List Rat))(i:Nat):List Int:=((List.range i).filter (domB x)).map (fun j:Nat=>(j:Int))
theorem zR4 (x:List (List Rat))(i:Nat):zJI x (i+1)=if domB x i=true then zJI x i++[(i:Int)] else zJI x i:=by
 unfold zJI
 rw [List.range_succ,List.filter_append,List.map_append]
 by_cases h:domB x i=true
 ·rw [if_pos h,List.filter_cons_of_pos h];rfl
 ·rw [if_neg h,List.filter_cons_of_neg h];simp
theorem domI_len (x:List (List Rat))(i:Nat):(zJI x i).length≤i:=by
 unfold zJI
 rw [List.length_map]
 exact Nat.le_trans (List.length_filter_le _ _) (by rw [List.length_range];exact Nat.le_refl i)
theorem domI_all (x:List (List Rat)):zJI x x.length=(domL x).map (fun j:Nat=>(j:Int)):=rfl
def domR (m:List (List zAA)):List Int×Int:=if zBW m≠0 then ([],zBW m) else (zJI (inM m) m.length,0)
def zCb (x:List (List Rat))(i k n:Nat):Bool:=(List.range n).all (fun j=>decide (0≤zBl ((x.getD i []).getD k 0) ((x.getD j []).getD k 0)))
end Go.Ax.Mg
namespace Go.Ax
variable [Pins]
open Go.RowKit
def zOk (all:Array Oper)(idx:List Nat):Nat→Nat→Nat→Bool
 |0,_,_=>false
 |n+1,j,i=>match all[j]? with
  |some o=>o.after.toList.any (fun e=>Region.binds .any e && Nat.beq e.on i)||o.after.toList.any (fun e=>Region.binds .any e && (idx.contains e.on && zOk all idx n e.on i))
  |none=>false
theorem zMa {cur:Array Bool}{i:Nat}(h:cur.getD i false=true):cur.getD i true=true:=by
 have _p:= ‹Pins›
 unfold Array.getD at h⊢
 split at h
 ·rename_i q
  rw [dif_pos q];exact h
 ·cases h
theorem zIn {all:Array Oper}{idx:List Nat}{cur:Array Bool}(hcl: ∀m'∈idx,cur.getD m' true=true→ ∀o,all[m']? =some o→ ∀e∈o.after,Region.binds .any e=true→cur.getD e.on false=true):
 ∀(n j i:Nat),zOk all idx n j i=true→(∀o,all[j]? =some o→ ∀e∈o.after,Region.binds .any e=true→cur.getD e.on false=true)→cur.getD i true=true
 |0,_,_,h,_=>by cases h
 |n+1,j,i,h,hd=>by
  have _p:= ‹Pins›
  rw [zOk] at h
  split at h
  ·rename_i o ho
   rw [Bool.or_eq_true] at h
   rcases h with h|h
   ·obtain ⟨e,he1,he2⟩:=List.any_eq_true.1 h
    rw [Bool.and_eq_true] at he2
    have h3:=hd o ho e (Array.mem_toList_iff.1 he1) he2.1
    rw [Nat.eq_of_beq_eq_true he2.2] at h3
    exact zMa h3
   ·obtain ⟨e,he1,he2⟩:=List.any_eq_true.1 h
    simp only [Bool.and_eq_true] at he2
    have h3:=zMa (hd o ho e (Array.mem_toList_iff.1 he1) he2.1)
    have hm:e.on∈idx:=by simpa using he2.2.1
    exact zIn hcl n e.on i he2.2.2 (hcl e.on hm h3)
  ·cases h
theorem zPA {cur:Array Bool}{i j:Nat}(h:cur.getD j false=true):(cur.setIfInBounds i true).getD j false=true:=by
 have _p:= ‹Pins›
 simp only [Array.getD_eq_getD_getElem?,Array.getElem?_setIfInBounds] at h⊢
 split
 ·split
  ·rfl
  ·rename_i h1 h2
   subst h1
   rw [Array.getElem?_eq_none kK] at h
   cases h
 ·exact h
theorem zML {all:Array Oper}{idx:List Nat}{cur:Array Bool}{i:Nat}(_hi:i∈idx)(hcl: ∀m'∈idx,cur.getD m' true=true→ ∀o,all[m']? =some o→ ∀e∈o.after,Region.binds .any e=true→cur.getD e.on false=true)(hd: ∀o,all[i]? =some o→ ∀e∈o.after,Region.binds .any e=true→cur.getD e.on false=true):
 ∀m'∈idx,(cur.setIfInBounds i true).getD m' true=true→ ∀o,all[m']? =some o→ ∀e∈o.after,Region.binds .any e=true→(cur.setIfInBounds i true).getD e.on false=true:=by
 have _p:= ‹Pins›
 intro m' hm' hu o ho e he hb
 by_cases h:m'=i
 ·subst h
  exact zPA (hd o ho e he hb)
 ·refine zPA (hcl m' hm' ?_ o ho e he hb)
  have h': ¬i=m':=fun q=>h q.symm
  simpa [Array.getD_eq_getD_getElem?,Array.getElem?_setIfInBounds,h'] using hu
def okRunT (all:Array Oper)(listed:Array Bool)(idx:List Nat)(k0:List Nat):Bool:=
 (idx.all fun i=> !listed.getD i true && (match all[i]? with
  |some o=>(match o.dst with|some d=> !k0.contains d|none=>false) && o.after.toList.all (fun e=> !Region.binds .any e||(Nat.blt e.on i && (idx.contains e.on||listed.getD e.on false)))
  |none=>false)) &&
 ((List.range all.size).all fun j=>idx.contains j||listed.getD j true||idx.all (fun i=>zOk all idx (idx.length+1) j i)) &&
 (idx.all fun i=>idx.all fun j=>Nat.beq i j|| !(match all[i]?,all[j]? with|some o,some o'=>o.dst==o'.dst|_,_=>false))
section
variable {P:Program}{fn:Func}{c:Ctx}{fr:Fr}{H:zO}{k:List It}
theorem zDB {all:Array Oper}{fuel:Nat}{listed listed':Array Bool}(idx:List Nat)(K0:Fr)(hK:zCY fr K0)(hok:okRunT all listed idx (K0.map (·.1))=true)(hnd:idx.Nodup)(hd:zDm fn.ntmps all.toList=true)(hl:zHC listed idx=listed')(h:zEi P fn c H all K0 idx [] (fun st=>Ax P fn c (.any all fuel listed' k) (st.map (·.2)++K0) H)):Ax P fn c (.any all (fuel+idx.length) listed k) fr H:=by
 obtain ⟨st,hG,hidx,hst⟩:=zG8 h (fun s hs=>by simp at hs)
 rw [List.map_nil,List.append_nil] at hidx
 clear h
 unfold okRunT at hok
 simp only [Bool.and_eq_true] at hok
 obtain ⟨⟨ok1,ok2⟩,ok3⟩:=hok
 rw [List.all_eq_true] at ok1 ok2 ok3
 have hmem: ∀i,i∈idx↔ ∃s∈st,s.1=i:=fun i=>by
  have:i∈idx.reverse↔ ∃s∈st,s.1=i:=by rw [←hidx];simp
  rw [←this,List.mem_reverse]
 have hlen:st.length=idx.length:=by
  have:=congrArg List.length hidx
  simpa using this
 have hnd':(st.map (·.1)).Nodup:=by rw [hidx];exact (List.reverse_perm idx).nodup_iff.2 hnd
 have hlt: ∀i∈idx,i<listed.size:=fun i hi=>by
  have:=ok1 i hi
  simp only [Bool.and_eq_true,Bool.not_eq_true'] at this
  rcases Nat.lt_or_ge i listed.size with q|q
  ·exact q
  ·have h1:=this.1
   simp only [Array.getD,show¬i<listed.size by omega,dite_false] at h1
   cases h1
 --the induction
 have key: ∀(m:Nat) (cur:Array Bool) (fr:Fr),cur.size=listed.size→(∀j,j∉idx→cur[j]? =listed[j]?)→unl cur st=m→(∀s∈st,cur.getD s.1 true=true→look s.2.1 fr=some s.2.2)→zCY fr K0→(∀m'∈idx,cur.getD m' true=true→ ∀o,all[m']? =some o→ ∀e∈o.after,Region.binds .any e=true→cur.getD e.on false=true)→Ax P fn c (.any all (fuel+m) cur k) fr H:=by
  intro m
  induction m with
  |zero=>
   intro cur fr hcs hco hcm hck hk0 hcl
   have hall: ∀s∈st,cur.getD s.1 true=true:=fun s hs=>by
    cases hq:cur.getD s.1 true with
    |true=>rfl
    |false=>
     exfalso
     have h0:st.filter (fun s=> !cur.getD s.1 true)=[]:=List.length_eq_zero_iff.1 hcm
     have:s∈st.filter (fun s=> !cur.getD s.1 true):=List.mem_filter.2 ⟨hs,by rw [hq];rfl⟩
     rw [h0] at this;simp at this
   have hcur:cur=listed':=by
    rw [←hl]
    apply Array.ext_getElem?
    intro j
    rcases Nat.lt_or_ge j listed.size with q|q
    ·rw [zHD idx listed j q]
     by_cases hj:j∈idx
     ·rw [if_pos hj]
      obtain ⟨s,hs1,hs2⟩:=(hmem j).1 hj
      have:=hall s hs1
      rw [hs2] at this
      simp only [Array.getD,show j<cur.size by omega,dite_true] at this
      rw [Array.getElem?_eq_getElem kK]
      exact congrArg some this
     ·rw [if_neg hj];exact hco j hj
    ·rw [Array.getElem?_eq_none kK,Array.getElem?_eq_none (by rw [zF5];omega)]
   subst hcur
   intro w a σ S hr
   refine hG w a σ S (hr.weaken (zDY fun p hp=> ?_))
   rcases List.mem_append.1 hp with q|q
   ·obtain ⟨s,q1,q2⟩:=List.mem_map.1 q
    rw [←q2];exact hck s q1 (hall s q1)
   ·exact zDZ hk0 p q
  |succ m ih=>
   intro cur fr hcs hco hcm hck hk0 hcl
   --some step is left
   obtain ⟨s0,hs0,hs0u⟩: ∃s∈st,cur.getD s.1 true=false:=by
    rcases hq:st.filter (fun s=> !cur.getD s.1 true) with _|⟨s,r⟩
    ·unfold unl at hcm;rw [hq] at hcm;simp at hcm
    ·have:s∈st.filter (fun s=> !cur.getD s.1 true):=by rw [hq];simp
     obtain ⟨h1,h2⟩:=List.mem_filter.1 this
     exact ⟨s,h1,by simpa using h2⟩
   have hsub: ∀i∈Region.ready .any all cur,i∈idx∧cur.getD i true=false:=by
    intro i hi
    obtain ⟨h1,o,ho,hdeps⟩:=mem_ready.1 hi
    refine ⟨?_,h1⟩
    apply Classical.byContradiction
    intro hni
    have hjs:i<all.size:=(Array.getElem?_eq_some_iff.1 ho).1
    have:=ok2 i (List.mem_range.2 hjs)
    simp only [Bool.or_eq_true,ho] at this
    rcases this with (q|q)|q
    ·exact hni (by simpa using q)
    ·have hco':=hco i hni
     have h2:listed.getD i true=cur.getD i true:=by
      simp only [Array.getD_eq_getD_getElem?,hco']
     rw [h2,h1] at q;cases q
    ·rw [List.all_eq_true] at q
     have h3:=zIn hcl _ i s0.1 (q s0.1 ((hmem s0.1).2 ⟨s0,hs0,rfl⟩)) (fun o' ho' e he hb=>by
      rw [ho] at ho'
      obtain rfl:=Option.some.inj ho'
      exact hdeps e he hb)
     rw [h3] at hs0u;cases hs0u
   have hne:Region.ready .any all cur≠[]:=by
    intro h0
    --the least one that is left
    have hex: ∃i,i∈idx∧cur.getD i true=false:=⟨s0.1,(hmem s0.1).2 ⟨s0,hs0,rfl⟩,hs0u⟩
    have least: ∀n i,i≤n→i∈idx→cur.getD i true=false→False:=by
     intro n
     induction n with
     |zero=>
      intro i hi him hiu
      have h1:=ok1 i him
      simp only [Bool.and_eq_true] at h1
      cases hoo:all[i]? with
      |none=>rw [hoo] at h1;exact absurd h1.2 kJ
      |some o=>
       rw [hoo] at h1
       simp only [Bool.and_eq_true] at h1
       have h2:=List.all_eq_true.1 h1.2.2
       have:i∈Region.ready .any all cur:=mem_ready.2 ⟨hiu,o,hoo,fun e he hb=>by
        have:=h2 e (Array.mem_toList_iff.2 he)
        rw [hb] at this
        simp only [Bool.not_true,Bool.false_or,Bool.and_eq_true] at this
        have:=Nat.le_of_ble_eq_true this.1
        omega⟩
       rw [h0] at this;simp at this
     |succ n ihn=>
      intro i hi him hiu
      have h1:=ok1 i him
      simp only [Bool.and_eq_true] at h1
      cases hoo:all[i]? with
      |none=>rw [hoo] at h1;exact absurd h1.2 kJ
      |some o=>
       rw [hoo] at h1
       simp only [Bool.and_eq_true] at h1
       have h2:=List.all_eq_true.1 h1.2.2
       have:i∈Region.ready .any all cur:=mem_ready.2 ⟨hiu,o,hoo,fun e he hb=>by
        have h3:=h2 e (Array.mem_toList_iff.2 he)
        rw [hb] at h3
        simp only [Bool.not_true,Bool.false_or,Bool.and_eq_true,Bool.or_eq_true] at h3
        have hlt':e.on<i:=Nat.le_of_ble_eq_true h3.1
        by_cases hei:e.on∈idx
        ·cases hq:cur.getD e.on true with
         |false=>exact (ihn e.on kK hei hq).elim
         |true=>
          have hsz:=hlt e.on hei
          simp only [Array.getD,show e.on<cur.size by omega,dite_true] at hq⊢
          exact hq
        ·rcases h3.2 with q|q
         ·exact absurd (by simpa using q) hei
         ·have h2:cur.getD e.on false=listed.getD e.on false:=by simp only [Array.getD_eq_getD_getElem?,hco e.on hei]
          rw [h2];exact q⟩
       rw [h0] at this;simp at this
    obtain ⟨i,hi1,hi2⟩:=hex
    exact least i i (Nat.le_refl _) hi1 hi2
   refine zD Z hne hd (zKa (fun i hi o ho=> ?_))
   obtain ⟨him,hiu⟩:=hsub i hi
   obtain ⟨s,hs1,hs2⟩:=(hmem i).1 him
   obtain ⟨o',K,g1,g2,g3,g4⟩:=hst s hs1
   rw [hs2,ho] at g1
   obtain rfl:=Option.some.inj g1
   obtain ⟨_,o2,ho2,hdeps⟩:=mem_ready.1 hi
   rw [ho] at ho2
   obtain rfl:=Option.some.inj ho2
   refine g3 _ fr (zDY fun p hp=> ?_) (zV (zAU ?_))
   ·rcases g4 p hp with q|⟨s',q1,⟨e,q2,q3,q4⟩,q5⟩
    ·exact zDZ hk0 p q
    ·have h1:=hdeps e q2 q3
     rw [q4] at h1
     rw [←q5]
     refine hck s' q1 ?_
     have hsz:=hlt s'.1 ((hmem s'.1).2 ⟨s',q1,rfl⟩)
     simp only [Array.getD,show s'.1<cur.size by omega,dite_true] at h1⊢
     exact h1
   ·have hisz:=hlt i him
    refine ih (cur.setIfInBounds i true) _ (by simpa using hcs) (fun j hj=> ?_) ?_ (fun s' hs' hu=> ?_) ?_ (zML him hcl (fun o' ho' e he hb=>by rw [ho] at ho';obtain rfl:=Option.some.inj ho';exact hdeps e he hb))
    ·rw [Array.getElem?_setIfInBounds_ne (show i≠j from fun e=>hj (e▸him))];exact hco j hj
    ·--one less
     have hf:st.filter (fun s'=> !(cur.setIfInBounds i true).getD s'.1 true)=(st.filter (fun s'=> !cur.getD s'.1 true)).filter (fun s'=>decide (s'.1≠i)):=by
      rw [List.filter_filter]
      congr 1
      funext s'
      by_cases hq:s'.1=i
      ·rw [hq];simp [Array.getD,show i<cur.size by omega]
      ·have hq': ¬i=s'.1:=fun e=>hq e.symm
       simp [Array.getD_eq_getD_getElem?,Array.getElem?_setIfInBounds,hq,hq']
     unfold unl at hcm⊢
     rw [hf]
     have hmemf:s∈st.filter (fun s'=> !cur.getD s'.1 true):=List.mem_filter.2 ⟨hs1,by rw [hs2,hiu];rfl⟩
     have hndf:((st.filter (fun s'=> !cur.getD s'.1 true)).map (·.1)).Nodup:=List.Nodup.sublist (List.Sublist.map _ List.filter_sublist) hnd'
     revert hcm hmemf hndf
     generalize st.filter (fun s'=> !cur.getD s'.1 true)=L
     intro hcm hmemf hndf
     have gen: ∀(L:Steps) (n:Nat),L.length=n+1→s∈L→(L.map (·.1)).Nodup→(L.filter (fun s'=>decide (s'.1≠i))).length=n:=by
      intro L
      induction L with
      |nil=>intro n h;simp at h
      |cons x r ihL=>
       intro n hn hm hnd
       simp only [List.map_cons,List.nodup_cons] at hnd
       rcases List.mem_cons.1 hm with rfl|hm
       ·have hno: ∀y∈r,y.1≠i:=fun y hy e=>hnd.1 (List.mem_map.2 ⟨y,hy,by rw [e,hs2]⟩)
        have:(r.filter (fun s'=>decide (s'.1≠i)))=r:=List.filter_eq_self.2 (fun y hy=>by simpa using hno y hy)
        rw [List.filter_cons_of_neg (by simp [hs2]),this]
        simpa using hn
       ·have hx:x.1≠i:=fun e=>hnd.1 (List.mem_map.2 ⟨s,hm,by rw [hs2,e]⟩)
        have hr0:0<r.length:=List.length_pos_iff.2 (by rintro rfl;simp at hm)
        obtain ⟨n',rfl⟩: ∃n',n=n'+1:=⟨n-1,by simp at hn;omega⟩
        rw [List.filter_cons_of_pos (by simpa using hx),List.length_cons,ihL n' (by simpa using hn) hm hnd.2]
     exact gen L m hcm hmemf hndf
    ·by_cases hq:s'.1=i
     ·have:s'=s:=by
       have h1:s∈st:=hs1
       have hinj: ∀(L:Steps),(L.map (·.1)).Nodup→ ∀x∈L,∀y∈L,x.1=y.1→x=y:=by
        intro L
        induction L with
        |nil=>intro _ x hx;simp at hx
        |cons z r ihL=>
         intro hnd x hx y hy hxy
         simp only [List.map_cons,List.nodup_cons] at hnd
         rcases List.mem_cons.1 hx with hx|hx<;>rcases List.mem_cons.1 hy with hy|hy
         ·rw [hx,hy]
         ·exact absurd (List.mem_map.2 ⟨y,hy,by rw [←hxy,hx]⟩) hnd.1
         ·exact absurd (List.mem_map.2 ⟨x,hx,by rw [hxy,hy]⟩) hnd.1
         ·exact ihL hnd.2 x hx y hy hxy
       exact hinj st hnd' s' hs' s hs1 (by rw [hq,hs2])
      rw [this]
      exact zNa _ _ _
     ·have h1:cur.getD s'.1 true=true:=by
       have hq': ¬i=s'.1:=fun e=>hq e.symm
       simpa [Array.getD_eq_getD_getElem?,Array.getElem?_setIfInBounds,hq'] using hu
      have h2:=hck s' hs' h1
      --another slot
      have hne2:s'.2.1≠s.2.1:=by
       intro e
       obtain ⟨o3,_,f1,f2,_,_⟩:=hst s' hs'
       have h3:=List.all_eq_true.1 (ok3 s'.1 ((hmem s'.1).2 ⟨s',hs',rfl⟩)) i him
       rw [f1,ho] at h3
       simp only [Bool.or_eq_true,Bool.not_eq_true',f2,g2] at h3
       rcases h3 with h3|h3
       ·exact hq (Nat.eq_of_beq_eq_true h3)
       ·rw [e] at h3;simp at h3
      show (bif Nat.beq s'.2.1 s.2.1 then some s.2.2 else look s'.2.1 fr)=_
      rw [z7 hne2];exact h2
    ·refine zDY fun p hp=> ?_
     have h1:=ok1 i him
     simp only [Bool.and_eq_true] at h1
     rw [ho] at h1
     simp only [g2,Bool.and_eq_true,Bool.not_eq_true'] at h1
     have hne3:p.1≠s.2.1:=by
      intro e
      have:(K0.map (·.1)).contains s.2.1=true:=by
       rw [List.contains_iff_mem]
       exact List.mem_map.2 ⟨p,hp,e⟩
      rw [h1.2.1] at this;cases this
     show (bif Nat.beq p.1 s.2.1 then some s.2.2 else look p.1 fr)=_
     rw [z7 hne3];exact zDZ hk0 p hp
 have hm0:unl listed st=idx.length:=by
  unfold unl
  rw [List.filter_eq_self.2 (fun s hs=> ?_),hlen]
  have:=ok1 s.1 ((hmem s.1).2 ⟨s,hs,rfl⟩)
  simp only [Bool.and_eq_true] at this
  exact this.1
 have:=key idx.length listed fr rfl (fun _ _=>rfl) hm0 (fun s hs hu=>by
  have h1:=ok1 s.1 ((hmem s.1).2 ⟨s,hs,rfl⟩)
  simp only [Bool.and_eq_true,Bool.not_eq_true'] at h1
  rw [h1.1] at hu;cases hu) hK (fun m' hm' hu=>by
  have h1:=ok1 m' hm'
  simp only [Bool.and_eq_true,Bool.not_eq_true'] at h1
  rw [h1.1] at hu;cases hu)
 exact this
end
end Go.Ax
namespace Go.Ax
variable [Pins]
open Go.RowKit
theorem zIY {P:Program}{fn:Func}{c:Ctx}{H:zO}{all:Array Oper}{K0:Fr}{i:Nat}{r:List Nat}{st:Steps}{G:Steps→Prop}{d:Nat}{g:Operand}{args:List Operand}{ats:Array TypeId}{ty:TypeId}{pos:String}{after:Array Edge}{f:FuncId}{caps ags ags':List AV}{v:AV}{K:Fr}{j t:Nat}{p:Bool}(hi:all[i]? =some ⟨some d,.call {callee:= .value g,args:=args.toArray,argTypes:=ats},ty,pos,after,some (j,p)⟩)(hK:zGf st K0 ⟨some d,.call {callee:= .value g,args:=args.toArray,argTypes:=ats},ty,pos,after,some (j,p)⟩=K)(hy:zFC all j=some t)(hb:look t K=some (.bool p))(hg:ev K g=some (.fn f caps))(ha:evs K args=some ags)(has:ags++caps=ags')(hcall:zX P f ags' v)(h:zEi P fn c H all K0 r ((i,d,v)::st) G):zEi P fn c H all K0 (i::r) st G:=
 ⟨_,_,_,hi,rfl,hK▸zJ5 hy hb (pure_v hg ha has hcall),h⟩
end Go.Ax
namespace Go.Ax.Rt
open Go.Ax.Bg Go.Ax.Dt
def allV:List zAA→List Rat→Bool
 |[],[]=>true
 |s::r,q::t=>decide (IsQ s q) && allV r t
 |_,_=>false
theorem zN1: ∀{s:List zAA} {l:List Rat},allV s l=true→l.map zr=s∧l.all zBd=true
 |[],[],_=>⟨rfl,rfl⟩
 |[],_::_,h=>by cases h
 |_::_,[],h=>by cases h
 |a::r,q::t,h=>by
  simp only [allV,Bool.and_eq_true,decide_eq_true_eq] at h
  obtain ⟨h1,h2⟩:=zN1 h.2
  refine ⟨by rw [List.map_cons,h.1.text,h1],?_⟩
  rw [List.all_cons,h.1.fit,h2];rfl
end Go.Ax.Rt
namespace Go.Ax.Mg
open Go.Ax.Dt Go.Ax.Rt Go.Ax.Bg Go.Ax.Sx
def zEM:List (List zAA):=[[[49],[45,49]],[[45,49],[49]]]
def sadT:List (List zAA):=[[[50],[51]],[[49],[48]]]
def zAv:zAA:=[49,47,50]
theorem zLN:zBW zEM=0:=by decide+kernel
theorem zSb:Stops (zAi (inM zEM) (zS zEM)) 0 2:=by
 refine ⟨fun h=>absurd h (by decide+kernel),fun _=> ?_⟩
 exact Option.isNone_iff_eq_none.1 (by decide+kernel)
theorem pen_v:(zAu (inM zEM) (zS zEM) 0 2).1=0:=by decide+kernel
theorem pen_r:(zAu (inM zEM) (zS zEM) 0 2).2.1=[Rat.divInt 1 2,Rat.divInt 1 2]:=by decide+kernel
theorem pen_c:(zAu (inM zEM) (zS zEM) 0 2).2.2=[Rat.divInt 1 2,Rat.divInt 1 2]:=by decide+kernel
theorem pen_q:zAu (inM zEM) (zS zEM) 0 2=(0,[Rat.divInt 1 2,Rat.divInt 1 2],[Rat.divInt 1 2,Rat.divInt 1 2]):=by
 have h1:=pen_v
 have h2:=pen_r
 have h3:=pen_c
 generalize zAu (inM zEM) (zS zEM) 0 2=r at*
 obtain ⟨a,b,c⟩:=r
 simp only at*
 subst h1 h2 h3
 rfl
theorem zSa:zE4 zEM 0 2=(([48],[zAv,zAv],[zAv,zAv]),0):=by
 have h:allV [[48],zAv,zAv,zAv,zAv] [0,Rat.divInt 1 2,Rat.divInt 1 2,Rat.divInt 1 2,Rat.divInt 1 2]=true:=by decide+kernel
 obtain ⟨h1,h2⟩:=zN1 h
 unfold zE4
 rw [pen_q,if_neg (fun q=>q zLN),if_pos (show zMX (0,[Rat.divInt 1 2,Rat.divInt 1 2],[Rat.divInt 1 2,Rat.divInt 1 2])=true from h2)]
 have e1:zr 0=[48]:=(List.cons.inj h1).1
 have e2:zr (Rat.divInt 1 2)=zAv:=(List.cons.inj (List.cons.inj h1).2).1
 show ((zr 0,[zr (Rat.divInt 1 2),zr (Rat.divInt 1 2)],[zr (Rat.divInt 1 2),zr (Rat.divInt 1 2)]),(0:Int))=_
 rw [e1,e2]
theorem pen_pay:payG zEM [[49],[48]] [[49],[48]]=([49],0):=by
 have h:IsQ [49] (zAQ ([[49],[48]].map zAG) ((inM zEM).map (fun row=>zAQ row ([[49],[48]].map zAG)))):=by decide+kernel
 unfold payG
 rw [if_neg (by decide+kernel),if_neg (by decide+kernel),h.out]
theorem pen_ver:verG zEM [48] [zAv,zAv] [zAv,zAv]=0:=by decide+kernel
theorem pen_bad:verG zEM [49] [zAv,zAv] [zAv,zAv]=16:=by decide+kernel
theorem sad_dom:domL (inM sadT)=[1]:=by decide+kernel
theorem zO8:zBW sadT=0:=by decide+kernel
end Go.Ax.Mg
namespace Go.Ax
variable [Pins]
open Go.RowKit
def eqIs (P:Program)(e:TypeId)(L M:List AV):List Nat→Option Bool
 |[]=>some true
 |i::is=>match eqIs P e L M is,L[i]?,M[i]? with
  |some r,some x,some y=>(sclEq P e x y).map (· && r)
  |_,_,_=>none
theorem zO6 {P:Program}{w w':World}{S:Nat→Prop}{σ:Nat→Option Blk}{L M:List AV}{xs ys:Array Value}{d:Nat}{e:TypeId}(h1:xs.size=L.length)(h2: ∀i,i<L.length→VR w S σ (L.getD i .any) (xs.getD i undef))(h3:ys.size=M.length)(h4: ∀i,i<M.length→VR w S σ (M.getD i .any) (ys.getD i undef)):
 ∀(is:List Nat) (b:Bool),eqIs P e L M is=some b→(Op.eqItems (d+1) e 1 xs ys is).run P w'= .ok b w'
 |[],b,h=>by simp [eqIs] at h;subst h;simp [Op.eqItems]
 |i::is,b,h=>by
  simp only [eqIs] at h
  split at h
  ·rename_i r x y hr hL hM
   have ih:=zO6 (d:=d) (w':=w') h1 h2 h3 h4 is r hr
   obtain ⟨v1,e1,r1⟩:=zRg h1 h2 hL
   obtain ⟨v2,e2,r2⟩:=zRg h3 h4 hM
   obtain ⟨q,hq,hb⟩:=Option.map_eq_some_iff.1 h
   obtain ⟨hp,hrun⟩:=zSp (w':=w') hq r1 r2 d
   simp only [Op.eqItems,Nat.mul_one]
   simp only [Sem.run_bind,run_part_plain w' hp e1,Result.andThen_ok,run_part_plain w' hp e2,hrun]
   subst hb
   cases q with
   |false=>simp
   |true=>simpa using ih
  ·cases h
section
variable {P:Program}{fn:Func}{c:Ctx}{fr:Fr}{H:zO}{k:List It}{ind:Bool}{d:Option Nat}{ty:TypeId}{pos:String}{after:Array Edge}{g:Option (Nat×Bool)}
theorem q_arrneq {x y:Operand}{t t' e:TypeId}{n:Nat}{inf:TypeInfo}{L M:List AV}{b:Bool}(hx:ev fr x=some (.agg L))(hy:ev fr y=some (.agg M))(ht:P.underlying t=some (.array n e))(hi:P.info? e=some inf)(hc:P.cellsOf e=1)(hg:P.eqGuardType P.depth t=false)(he:eqIs P e L M (List.range n)=some b):QOp ind P fn c fr H ⟨d,.binOp .neq t x y t',ty,pos,after,g⟩ (.bool (!b)):=by
 intro w a σ S hr
 have h1:=hr.evAt hx
 have h2:=hr.evAt hy
 generalize hz:a.eval x=z at h1
 generalize hzy:a.eval y=zy at h2
 cases h1 with
 |agg _ _ xs a1 a2 a3=>
  cases h2 with
  |agg _ _ ys b1 b2 b3=>
   refine ⟨_,.bool _ _,fun w' _=> ?_⟩
   have hr:=zO6 (d:=9998) (w':=w') a1 a2 b1 b2 _ b he
   simp only [execOp,hz,hzy,Sem.run_bind,run_eqGuard_agg w' _ _ _ _ _ _ hg,Result.andThen_ok,run_neq_struct,show (10000:Nat)=9999+1 from rfl,run_equalIn_array w' 9999 _ _ ht hi,hc,hr]
   rfl
end
end Go.Ax
