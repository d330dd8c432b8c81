import Derived.Lib.LaidTab
import Derived.Lib.ItoaNum
import Derived.Stop.LaidErr
import Derived.Test.YtmpnheilfejcpaaGreatDoorProg
import Derived.Shelf.Strconv.Itoa3
import Derived.Shelf.Pu.ParseUintPublic10
import Derived.Shelf.Bits.Mul64
import Derived.Shelf.Strings.OnBuilder
import Derived.Test.YtmpnheilfejcpaaGreatDoorP5
set_option linter.unusedVariables false
set_option linter.unusedSimpArgs false
set_option maxRecDepth 100000
set_option maxHeartbeats 4000000
namespace Go.aj.k4
open Go.aj.dR Go.aj.cQ Go.aj.dh Go.aj.cL
def eZ (n:Nat):List Int:=(List.replicate n 0).set 0 1
def lM (bo:List ff)(i:Nat):sZ:=q4 bo.length (bo.tail.take i) 0 ⟨[eZ bo.length],[]⟩
structure xA (n:Nat)(cU:List Int)(s:sZ):Prop where
 hd:s.rows=cU::s.rows.tail
 len: ∀r∈s.rows.tail,r.length=n
 fst: ∀y∈s.fst,1≤y.2∧y.2≤s.rows.tail.length
theorem Wx {n i k:Nat}{cU:List Int}{q:ff}{s:sZ}(my:xA n cU s)(cB:fY s.fst q.info=some k):
 ∃j,k=j+1∧j<s.rows.tail.length∧(pv n i q s).rows.tail=s.rows.tail.set j ((s.rows.tail.getD j []).set (i+1) 1)∧(pv n i q s).fst=s.fst∧xA n cU (pv n i q s):=by
 obtain ⟨U,ab⟩:=my.fst _ (xa cB);have U:1≤k:=U;have ab:k≤s.rows.tail.length:=ab;obtain ⟨j,rfl⟩: ∃j,k=j+1:=⟨k-1,J⟩
 have e:pv n i q s=⟨s.rows.set (j+1) ((s.rows.getD (j+1) []).set (i+1) 1),s.fst⟩:=by unfold pv;simp only [cB]
 have hd:=my.hd;have aF:s.rows.set (j+1) ((s.rows.getD (j+1) []).set (i+1) 1)=cU::s.rows.tail.set j ((s.rows.tail.getD j []).set (i+1) 1):=by rw [hd];rfl
 rw [aF] at e;rw [e];refine ⟨j,I,J,I,I,I,fun r ad=> ?_,fun y a1=> ?_⟩
 ·rcases xL (show r∈s.rows.tail.set j _ from ad) with h|h
  ·exact my.len r h
  ·rw [h,da];exact my.len _ (dv [] (show j<s.rows.tail.length by omega))
 ·show 1≤y.2∧y.2≤(s.rows.tail.set j _).length;rw [da];exact my.fst y a1
theorem VL {n i:Nat}{cU:List Int}{q:ff}{s:sZ}(my:xA n cU s)(cB:fY s.fst q.info=none):
 (pv n i q s).rows.tail=s.rows.tail++[((List.replicate n 0).set q.before.toNat (-1)).set (i+1) 1]∧(pv n i q s).fst=s.fst++[(q.info,s.rows.tail.length+1)]∧xA n cU (pv n i q s):=by
 have hd:=my.hd;have e:pv n i q s=⟨cU::(s.rows.tail++[((List.replicate n 0).set q.before.toNat (-1)).set (i+1) 1]),s.fst++[(q.info,s.rows.tail.length+1)]⟩:=by
  unfold pv;simp only [cB];have ab:s.rows.length=s.rows.tail.length+1:=by rw [hd];rfl
  rw [ab];rw [hd];rfl
 rw [e];refine ⟨I,I,I,fun r ad=> ?_,fun y a1=> ?_⟩
 ·rcases gM.1 (show r∈s.rows.tail++[_] from ad) with h|h
  ·exact my.len r h
  ·rw [hk.1 h,da,da,fc]
 ·show 1≤y.2∧y.2≤(s.rows.tail++[_]).length;rw [di];rcases gM.1 (show y∈s.fst++[_] from a1) with h|h
  ·have:=my.fst y h;exact ⟨this.1,Nat.le_add_right_of_le this.2⟩
  ·rw [hk.1 h];exact ⟨Nat.le_add_left 1 _,bN _⟩
theorem Ve {bo:List ff}{i:Nat}(h:i+1<bo.length):lM bo (i+1)=pv bo.length i (bo.getD (i+1) c5) (lM bo i):=by
 have au:i<bo.tail.length:=by rw [List.length_tail];omega
 unfold lM;rw [n9 au,Ja,fy,hX (ri au),cR,List.getElem_tail,←eA c5 h];rfl
theorem Vf (bo:List ff):xA bo.length (eZ bo.length) (lM bo 0):=
 ⟨rfl,fun r ad=>(zD ad).elim,fun y a1=>(zD a1).elim⟩
theorem Vd {bo:List ff}: ∀i,i<bo.length→xA bo.length (eZ bo.length) (lM bo i)
 |0,_=>Vf bo
 |i+1,h=>by
  have a6:=Vd (bo:=bo) i J;rw [Ve h];cases cB:fY (lM bo i).fst (bo.getD (i+1) c5).info with
  |none=>exact (VL a6 cB).2.2
  |some k=>obtain ⟨_,_,_,_,_,e⟩:=Wx (i:=i) a6 cB;exact e
def lO (t:aJ)(p:Int):List (List Int):=(lM (bW t p) (a8 t p-1)).rows
theorem anp {t:aJ}(af:Valid t)(p:Int):xA (a8 t p) (eZ (a8 t p)) (lM (bW t p) (a8 t p-1)):=
 Vd _ (by have:=(sF af p).2.2.1;show (bW t p).length-1<(bW t p).length;omega)
theorem JZ {t:aJ}(af:Valid t)(p:Int):lO t p=eZ (a8 t p)::(mi t p).map (fun y=>(List.range (a8 t p)).map (A5 t p y)):=by unfold lO lM;rw [kd (by rw [List.length_tail];exact bN _)];exact aoI af p (a8 t p) (eZ (a8 t p))
theorem OI {t:aJ}(af:Valid t)(p:Int):(lO t p).length=cr t p:=by rw [JZ af];unfold cr;rw [gu,cW,oV]
theorem OJ {t:aJ}(af:Valid t)(p:Int){c:Nat}(av:c<cr t p):((lO t p).getD c []).length=a8 t p:=by
 rw [JZ af];cases c with
 |zero=>show (eZ _).length=_;unfold eZ;rw [da,fc]
 |succ c=>
  have av:c<(mi t p).length:=by unfold cr at av;omega
  show (((mi t p).map _).getD c []).length=_;rw [eA [] (by rw [cW];exact av),kH,cW,gN]
theorem OH {t:aJ}(af:Valid t)(p:Int){c j:Nat}(av:c<cr t p)(ae:j<a8 t p):((((lO t p).getD c []).getD j 0:Int):Rat)=hF t p c j:=by
 rw [JZ af];unfold hF;cases c with
 |zero=>
  show (((eZ _).getD j 0:Int):Rat)=_;unfold eZ;rw [Go.aj.dR.fQ,fc,aB rfl];have aM:(List.replicate (a8 t p) (0:Int)).getD j 0=0:=by simp [List.getD,ae]
  rw [aM];by_cases q:j=0
  ·rw [aB ⟨q,J⟩,aB q];rfl
  ·rw [aw (fun e=>q e.1),aw q];rfl
 |succ c=>
  have av:c<(mi t p).length:=by unfold cr at av;omega
  show ((((((mi t p).map _).getD c []).getD j 0:Int)):Rat)=_;rw [aw J,eA [] (by rw [cW];exact av),kH,eA 0 (by rw [cW,gN];exact ae),kH,zt];have e:uh t p (c+1)=(mi t p)[c]:=by unfold uh;exact eA _ av
  rw [e];unfold A5;split
  ·rfl
  ·split<;>rfl
def iJ (W:Nat)(f:Nat→Rat)(P:Nat→Bool):List Rat:=(List.range W).map (fun x=>if P x=true then f x else 0)
theorem C5 (W:Nat)(f:Nat→Rat)(P:Nat→Bool):(iJ W f P).length=W:=by unfold iJ;rw [cW,gN]
theorem PK {W:Nat}{f:Nat→Rat}{P:Nat→Bool}{y:Nat}(h:y<(iJ W f P).length):(iJ W f P)[y]=if P y=true then f y else 0:=by simp [iJ]
theorem Kc {W:Nat}{f:Nat→Rat}{P Q:Nat→Bool}{x:Nat}(h: ∀y,Q y=(P y||decide (y=x))):(iJ W f P).set x (f x)=iJ W f Q:=by
 refine kc (by rw [da,C5,C5]) (fun y U ab=> ?_);rw [xT,PK,PK,h y];by_cases e:y=x
 ·subst e;rw [aB rfl,eG rfl,Bool.or_true,aB rfl]
 ·rw [aw (fun q=>e q.symm),fP e,Bool.or_false]
theorem WY (W:Nat)(f:Nat→Rat){P:Nat→Bool}(h: ∀y,P y=false):iJ W f P=List.replicate W 0:=by refine kc (by rw [C5,fc]) (fun y U ab=> ?_);rw [PK,h y,DX,aw tl]
theorem Yj {W:Nat}{f:Nat→Rat}{P:Nat→Bool}(h: ∀y,y<W→P y=false→f y=0):iJ W f P=(List.range W).map f:=by
 refine k8 (fun y a1=> ?_);cases e:P y
 ·rw [aw tl,h y (xI.1 a1) e]
 ·rw [aB rfl]
theorem anj {W:Nat}{f:Nat→Rat}{P Q:Nat→Bool}(h: ∀y,P y=Q y):iJ W f P=iJ W f Q:=by rw [show P=Q from funext h]
theorem X3 (y i:Nat):decide (y<i+1)=(decide (y<i)||decide (y=i)):=by rw [xH,wb,e8,e8,e8];omega
def lo (M:List (List Rat))(F:List (List Int))(n k j x:Nat):Rat:=
 if x<n then-((M.getD x []).getD j 0) else if x<n+k then (((F.getD (x-n) []).getD j 0:Int):Rat) else-((((F.getD (x-n-k) []).getD j 0:Int):Rat))
def mb (s:Nat):Int:=if s=0 then 1 else-1
def qM (E:List (List Int))(n r x:Nat):Rat:=if x<n then ((mb (r%2)*(E.getD (r/2) []).getD x 0:Int):Rat) else 0
def Am (M:List (List Rat))(F:List (List Int))(n k j:Nat):List Rat:=(List.range (n+2*k)).map (lo M F n k j)
def Al (E:List (List Int))(n k r:Nat):List Rat:=(List.range (n+2*k)).map (qM E n r)
def ln (M:List (List Rat))(E F:List (List Int))(n m k r:Nat):List (List Rat):=(List.range m).map (Am M F n k)++(List.range r).map (Al E n k)
def qz (r:Nat):Int:=if r/2=0 then mb (r%2) else 0
def nN (m r:Nat):List Rat:=List.replicate m 0++(List.range r).map (fun r=>((qz r:Int):Rat))
def wW (n k:Nat):List Rat:=((List.replicate (n+2*k) (0:Rat)).set n 1).set (n+k) (-1)
theorem KQ (M:List (List Rat))(E F:List (List Int))(n m k r:Nat):(ln M E F n m k r).length=m+r:=by unfold ln;rw [di,cW,cW,gN,gN]
theorem Qx (m r:Nat):(nN m r).length=m+r:=by unfold nN;rw [di,fc,cW,gN]
theorem aiq (M:List (List Rat))(E F:List (List Int))(n k j:Nat):ln M E F n (j+1) k 0=ln M E F n j k 0++[Am M F n k j]:=by unfold ln;rw [ti,hb,List.range_zero,th,lA,lA];rfl
theorem air (M:List (List Rat))(E F:List (List Int))(n m k r:Nat):ln M E F n m k (r+1)=ln M E F n m k r++[Al E n k r]:=by unfold ln;rw [ti,hb,←mr];rfl
theorem ais (m r:Nat):nN m (r+1)=nN m r++[((qz r:Int):Rat)]:=by unfold nN;rw [ti,hb,←mr];rfl
theorem ait (m:Nat):nN m 0=List.replicate m 0:=by unfold nN;rw [List.range_zero,th,lA]
def fv (n k c y:Nat):Bool:=decide (y<n+c)||(decide (n+k≤y) && decide (y<n+k+c))
theorem aio (n k y:Nat):decide (y<n)=fv n k 0 y:=by unfold fv;rw [xH,wb,er,e8,e8,e8,e8];omega
theorem ain (M:List (List Rat))(F:List (List Int))(n k j c:Nat)(av:c<k):
 ((iJ (n+2*k) (lo M F n k j) (fv n k c)).set (n+c) (((F.getD c []).getD j 0:Int):Rat)).set (n+k+c) (((-((F.getD c []).getD j 0):Int)):Rat)=iJ (n+2*k) (lo M F n k j) (fv n k (c+1)):=by
 have aE:lo M F n k j (n+c)=(((F.getD c []).getD j 0:Int):Rat):=by unfold lo;rw [aw J,aB J,show n+c-n=c by omega]
 have aF:lo M F n k j (n+k+c)=(((-((F.getD c []).getD j 0):Int)):Rat):=by unfold lo;rw [aw J,aw J,show n+k+c-n-k=c by omega,Rat.intCast_neg]
 rw [←aE,←aF,Kc (Q:=fun y=>fv n k c y||decide (y=n+c)) (fun y=>rfl)];refine Kc (fun y=> ?_);unfold fv;rw [xH];simp only [wb,er,e8];omega
theorem aim (M:List (List Rat))(F:List (List Int))(n k j:Nat):iJ (n+2*k) (lo M F n k j) (fv n k k)=Am M F n k j:=by refine Yj (fun y a1 aD=> ?_);unfold fv at aD;simp only [Bool.or_eq_false_iff,Bool.and_eq_false_iff,GS] at aD;omega
theorem aiu (E:List (List Int))(n k r:Nat):iJ (n+2*k) (qM E n r) (fun y=>decide (y<n))=Al E n k r:=by refine Yj (fun y a1 aD=> ?_);have aD:=of_decide_eq_false aD;unfold qM;rw [aw aD]
end Go.aj.k4
namespace Go.aj.cL
open Go.aj.dR Go.aj.cQ Go.aj.dh
theorem aha (p:Prog)(s:cl):dK (fun q=> -((hP p.C).getD q 0)*s.den) 0 (List.replicate (p.N+1) 0) p.n=ml (e6 p) p.N s 0:=by
 have hw:=mQ p;refine xe (n:=p.N+1) (by rw [qV];simp) (Ju ..) (fun j ae=> ?_);rw [rR _ _ _ (by simpa using ae),Jt ae];show _=s.den*e6 p j-0;unfold e6;by_cases h:j<p.n
 ·rw [aB h,aB h,zA,mu]
 ·rw [aw h,aw h,gB,zA];simp [List.getD,ae]
theorem YZ {p:Prog}{k:Nat}(an:p.s5 k)(j:Nat):(e6 p j).natAbs≤10^p.E k:=by
 unfold e6;split
 ·rename_i h;rw [qu];exact an.Nz _ h
 ·exact cj _
theorem aoq {p:Prog}{k E:Nat}{s:cl}{i j:Nat}(an:p.s5 k)(aa:i≤98)(h: ∀q,q<i→(ax s.rows q j).natAbs≤10^E)(hd:s.den.natAbs≤10^E)(ae:j<p.N+1):((ml (e6 p) p.N s i).getD j 0).natAbs≤10^(p.E k+E+2):=by
 rw [Jt ae];have U:=PS (B:=10^(p.E k+E)) (n:=i) (f:=fun q=>e6 p (s.basis.getD q 0)*ax s.rows q j) (fun q aA=>by
  show (e6 p (s.basis.getD q 0)*ax s.rows q j).natAbs≤_;rw [ke,iN];exact jW (YZ an _) (h q aA))
 have ab:(s.den*e6 p j).natAbs≤10^(p.E k+E):=by rw [ke,iN,hj];exact jW (YZ an _) hd
 have ay:=Int.natAbs_sub_le (s.den*e6 p j) (b5 (fun q=>e6 p (s.basis.getD q 0)*ax s.rows q j) i);have bc:i*10^(p.E k+E)≤98*10^(p.E k+E):=fp _ aa;rw [iN];generalize 10^(p.E k+E)=B at*;omega
theorem aoM {p:Prog}{j:Nat}(h: ¬(j<p.n∧(hP p.C).getD j 0≠0)):e6 p j=0:=by
 unfold e6;split
 ·rename_i U;have:(hP p.C).getD j 0=0:=Decidable.byContradiction (fun q=>h ⟨U,q⟩);rw [this];rfl
 ·rfl
theorem abr {p:Prog}{j:Nat}(h:j<p.n): -(e6 p j)=(hP p.C).getD j 0:=by unfold e6;rw [aB h,Int.neg_neg]
theorem UB (p:Prog)(s:cl)(d:Int):lH p s d=(List.range p.m).map (fun i=>((List.range p.m).map (fun i=>Rat.divInt (ax s.rows p.m (p.n+i)) d)).getD i 0*(((((List.range p.m).map p.ey).getD i 0:Nat)):Rat)):=by
 unfold lH;refine k8 (fun i aa=> ?_);have aa:i<p.m:=by simpa using aa
 rw [show ((List.range p.m).map (fun i=>Rat.divInt (ax s.rows p.m (p.n+i)) d)).getD i 0=Rat.divInt (ax s.rows p.m (p.n+i)) d from sI aa,show ((List.range p.m).map p.ey).getD i 0=p.ey i from sI aa]
theorem apH {p:Prog}{K L:Nat}(h:0<p.a∧ax (gq p K).rows p.m p.N<0):ed p K L=⟨1,[],lH p (gq p K) (gq p K).den,[],0⟩:=by unfold ed;rw [aB h]
theorem apG {p:Prog}{K L:Nat}(h: ¬(0<p.a∧ax (gq p K).rows p.m p.N<0))(ab:gQ p.m (p.n+p.m) (jS p K L)<p.n+p.m):ed p K L=⟨2,mK p (jS p K L),[],pC p (jS p K L) (gQ p.m (p.n+p.m) (jS p K L)),0⟩:=by unfold ed;rw [aw h,aB ab]
theorem apF {p:Prog}{K L:Nat}(h: ¬(0<p.a∧ax (gq p K).rows p.m p.N<0))(ab: ¬gQ p.m (p.n+p.m) (jS p K L)<p.n+p.m):ed p K L=⟨0,mK p (jS p K L),lH p (jS p K L) ((jS p K L).den*(p.cE:Nat)),[],Rat.divInt (ax (jS p K L).rows p.m p.N) ((jS p K L).den*(p.cE:Nat))⟩:=by unfold ed;rw [aw h,aw ab]
theorem abp (p:Prog)(s:cl):gQ p.m (p.n+p.m) s≤p.n+p.m:=dU (Ft s.rows p.m (p.n+p.m) 0).2.1 J
end Go.aj.cL
namespace Go.aj.k4
open Go.aj.dR Go.aj.cQ Go.aj.dh Go.aj.cL
theorem Ud (r:Nat):((mb (r%2):Int):Rat)=qN r:=by unfold mb qN;split<;>rfl
theorem akn {t:aJ}(af:Valid t):ln (gY t) (lO t 0) (lO t 1) (a8 t 0) (a8 t 1) (cr t 1) (2*cr t 0)=(c0 t).A:=by
 show (List.range (a8 t 1)).map _++(List.range (2*cr t 0)).map _=(List.range (a8 t 1)).map (q3 t)++(List.range (2*cr t 0)).map (sV t);congr 1
 ·refine k8 (fun j ae=> ?_);have ae:=xI.1 ae;unfold Am q3;refine k8 (fun i aa=> ?_);have aa:=xI.1 aa;unfold lo;by_cases U:i<a8 t 0
  ·rw [aB U,aB U]
  ·rw [aw U,aw U];by_cases ab:i<a8 t 0+cr t 1
   ·rw [aB ab,aB ab,OH af 1 J ae]
   ·rw [aw ab,aw ab,OH af 1 J ae]
 ·refine k8 (fun r ad=> ?_);have ad:=xI.1 ad;unfold Al sV;refine k8 (fun i aa=> ?_);unfold qM;by_cases U:i<a8 t 0
  ·rw [aB U,aB U,pM,Ud,OH af 0 J U]
  ·rw [aw U,aw U]
theorem ako (t:aJ):nN (a8 t 1) (2*cr t 0)=(c0 t).B:=by
 show _++(List.range (2*cr t 0)).map _=_++(List.range (2*cr t 0)).map _;congr 1;refine k8 (fun r ad=> ?_);unfold qz r3;split
 ·rw [Ud,zw]
 ·rw [wc];rfl
theorem akp (t:aJ)(h:0<cr t 1):wW (a8 t 0) (cr t 1)=(c0 t).C:=by
 show _=(List.range (a8 t 0+2*cr t 1)).map _;unfold wW;refine kc (by rw [da,da,fc,cW,gN]) (fun i U ab=> ?_);rw [kH,zt,xT,xT,DX];by_cases aE:a8 t 0+cr t 1=i
 ·rw [aB aE,aw J,aB aE.symm]
 ·rw [aw aE];by_cases aF:a8 t 0=i
  ·rw [aB aF,aB aF.symm]
  ·rw [aw aF,aw (fun q=>aF q.symm),aw (fun q=>aE q.symm)]
theorem Dv {t:aJ}(af:Valid t)(p:Int):cr t p=1+(b9 t p).length:=by
 have h:=hz.lY af p t.length (bN _);have HT:((de t p t.length).first.map Prod.fst).Perm (b9 t p):=
  (List.perm_ext_iff_of_nodup h.eY (Cy t p)).2 (fun x=>by rw [h.keys x,me af])
 have:=HT.length_eq;rw [cW] at this;unfold cr;show 1+(de t p t.length).first.length=_
 rw [this]
theorem JJ {t:aJ}(h:Fit t):(c0 t).n≤27∧(c0 t).m≤27:=by rw [GC,GB];have:=Dv h.v 0;have:=Dv h.v 1;have:=h.cp;have:=h.sz;have:=h.i0;have:=h.i1;omega
theorem Ui {t:aJ}(h:Fit t):(c0 t).T 400≤324856:=by obtain ⟨U,ab⟩:=JJ h;unfold Prog.T Prog.E;exact jW (show 400+400*((c0 t).n+1)+2≤11602 by omega) (show (c0 t).m+1≤28 by omega)
theorem akr {t:aJ}(h:Fit t):(c0 t).W 400≤400000:=by obtain ⟨U,ab⟩:=JJ h;have b4:=Ui h;unfold Prog.W;omega
def eT (B:Nat)(q:Rat):Prop:=q.den∣B∧q.num.natAbs≤10^26*q.den
theorem eT.neg {B:Nat}{q:Rat}(h:eT B q):eT B (-q):=by refine ⟨h.1,?_⟩;show (-q.num).natAbs≤_;rw [qu];exact h.2
theorem eT.zero (B:Nat):eT B 0:=⟨Nat.one_dvd _,cj _⟩
theorem eT.one (B:Nat):eT B 1:=⟨Nat.one_dvd _,by show 1≤10^26*1;decide⟩
theorem eT.fin {B M:Nat}{q:Rat}(h:iM B M q)(cf:B≠0)(ho:M≤10^26):eT B q:=by refine ⟨h.od.den cf,?_⟩;have gy:=KN h.le;have a2:=KN h.ge;have a2: -q.num≤(M:Int)*(q.den:Int):=a2;have a4:((M*q.den:Nat):Int)=(M:Int)*(q.den:Int):=Int.natCast_mul _ _;have a5:M*q.den≤10^26*q.den:=fp _ ho;omega
theorem Pe (B:Nat)(t:aJ)(p:Int)(c j:Nat):eT B (hF t p c j):=by
 unfold hF;split
 ·split
  ·exact eT.one B
  ·exact eT.zero B
 ·split
  ·exact eT.one B
  ·split
   ·exact (eT.one B).neg
   ·exact eT.zero B
theorem Ue {B:Nat}(r:Nat){q:Rat}(h:eT B q):eT B (qN r*q):=by
 unfold qN;split
 ·rw [pN];exact h
 ·rw [show (-1:Rat)*q= -q by grind];exact h.neg
theorem ZC {t:aJ}(aR:Fit t)(hm:nx t):(c0 t).s5 400:=by
 have af:=aR.v;have hw:=FP af hm;have Hi:=PO t (ih t);have cf:=Uk af hm;have he:(cH t).length≤t.length:=by unfold cH;refine dU (tf _ _) ?_;rw [gN];exact bN _
 have au:=hm.len;have MG: ∀i j,eT (q5 t (ih t)) (((gY t).getD i []).getD j 0):=fun i j=>by rw [←Pm];exact eT.fin (Pn af hm _ (bN _) i j) J (dU (fp _ (show (cH t).length≤40 by omega)) aT)
 refine akg (Dm t) (by rw [GC];have:=(sF af 0).2.2.1;unfold cr;show 3≤(bW t 0).length+2*(1+_);omega) Hi (ri cf) (bN Le) (fun r ad q aA=> ?_) (fun q aA=> ?_) (fun q aA=> ?_)
 ·rcases gM.1 ad with h|h
  ·obtain ⟨j,_,rfl⟩:=cS.1 h;obtain ⟨i,_,rfl⟩:=cS.1 aA;show eT _ (if i<a8 t 0 then _ else if i<a8 t 0+cr t 1 then _ else _);split
   ·exact (MG i j).neg
   ·split
    ·exact Pe _ t 1 _ j
    ·exact (Pe _ t 1 _ j).neg
  ·obtain ⟨j,_,rfl⟩:=cS.1 h;obtain ⟨i,_,rfl⟩:=cS.1 aA;show eT _ (if i<a8 t 0 then _ else _);split
   ·exact Ue j (Pe _ t 0 _ i)
   ·exact eT.zero _
 ·rcases gM.1 aA with h|h
  ·rw [GW h];exact eT.zero _
  ·obtain ⟨r,_,rfl⟩:=cS.1 h;refine Ue r ?_;unfold r3;split
   ·exact eT.one _
   ·exact eT.zero _
 ·obtain ⟨i,_,rfl⟩:=cS.1 aA;show eT 1 (if i=a8 t 0 then _ else if i=a8 t 0+cr t 1 then _ else _);split
  ·exact eT.one _
  ·split
   ·exact (eT.one _).neg
   ·exact eT.zero _
theorem aks {t:aJ}(aR:Fit t)(hm:nx t){K L:Nat}(az:vU (c0 t) K L):
 (∀q∈(ed (c0 t) K L).X,D 400000 q)∧(∀q∈(ed (c0 t) K L).Y,D 400000 q)∧D 400000 (ed (c0 t) K L).V:=by obtain ⟨U,ab,_,ay⟩:=ajE (Dm t) (ZC aR hm) (by have:=(JJ aR).2;omega) az;have gO:=akr aR;exact ⟨fun q aA=>(U q aA).mono gO,fun q aA=>(ab q aA).mono gO,ay.mono gO⟩
theorem XL {t:aJ}(af:Valid t)(p:Int)(c j:Nat): -1≤((lO t p).getD c []).getD j 0∧((lO t p).getD c []).getD j 0≤1:=by
 by_cases av:c<cr t p
 ·by_cases ae:j<a8 t p
  ·rw [JZ af];cases c with
   |zero=>
    show-1≤(eZ _).getD j 0∧(eZ _).getD j 0≤1;unfold eZ;rw [Go.aj.dR.fQ];split
    ·decide
    ·have:(List.replicate (a8 t p) (0:Int)).getD j 0=0:=by simp [List.getD,ae]
     rw [this];decide
   |succ c=>
    have av:c<(mi t p).length:=by unfold cr at av;omega
    show-1≤((((mi t p).map _).getD c []).getD j 0)∧((((mi t p).map _).getD c []).getD j 0)≤1;rw [eA [] (by rw [cW];exact av),kH,eA 0 (by rw [cW,gN];exact ae),kH,zt];unfold A5;split
    ·decide
    ·split<;>decide
  ·have:((lO t p).getD c []).getD j 0=0:=by have ad:=OJ af p av;rw [wh,kD J];rfl
   rw [this];decide
 ·have:(lO t p).getD c []=[]:=by have au:=OI af p;rw [wh,kD J];rfl
  rw [this];show-1≤(0:Int)∧(0:Int)≤1;decide
end Go.aj.k4
namespace Go.aj.cQ
open Go.aj.dh Go.aj.dR
end Go.aj.cQ
namespace Go.aj.cQ
open Go.aj.dh Go.aj.ka
def dM:aJ:=[⟨2,0,0,[1,2],[],[]⟩,⟨2,1,3,[3,4],[],[]⟩,⟨2,1,3,[5,6],[],[]⟩,⟨0,0,0,[],[],[45,49]⟩,⟨0,0,0,[],[],[49]⟩,⟨0,0,0,[],[],[49]⟩,⟨0,0,0,[],[],[45,49]⟩]
def eJ (n:Int):df:=[⟨n,[[49,47,50],[49,47,50]]⟩]
end Go.aj.cQ
namespace Go.aj.k4
open Go.aj.dR Go.aj.cQ Go.aj.dh Go.aj.cL
theorem ajR:oH dM=0:=by decide+kernel
theorem ajT:oH []=8:=by decide+kernel
theorem W1:cQ.Modest dM:=⟨by decide+kernel,by decide+kernel,by decide+kernel⟩
theorem ajX:vU (c0 dM) 3 2:=by
 refine ⟨fun _=> ?_,fun _=> ?_⟩
 ·exact Option.isNone_iff_eq_none.1 (by decide+kernel)
 ·exact Option.isNone_iff_eq_none.1 (by decide+kernel)
def k0:dP:=[49,47,50]
theorem ajZ:cq (ed (c0 dM) 3 2).V=[48]:=by decide+kernel
theorem ajS:eB (ed (c0 dM) 3 2).V=true:=by decide+kernel
theorem ajP:qa dM 0 (fun k=>(ed (c0 dM) 3 2).X.getD k 0)=true:=by decide+kernel
theorem ajQ:qa dM 1 (fun k=>(ed (c0 dM) 3 2).Y.getD k 0)=true:=by decide+kernel
theorem ajU:(y1 dM 0 (fun k=>(ed (c0 dM) 3 2).X.getD k 0)).map (fun x=>(x.1,x.2.map cq))=[(0,[k0,k0])]:=by decide+kernel
theorem ajV:(y1 dM 1 (fun k=>(ed (c0 dM) 3 2).Y.getD k 0)).map (fun x=>(x.1,x.2.map cq))=[(3,[k0,k0])]:=by decide+kernel
theorem PN (t:aJ)(p:Int)(W:Nat→Rat):kW t p W=((y1 t p W).map (fun x=>(x.1,x.2.map cq))).map (fun y:Int×List dP=>(⟨y.1,y.2⟩:hW)):=by unfold kW;rw [tg];rfl
theorem ajW:cV dM 3 2=(([48],[⟨0,[k0,k0]⟩],[⟨3,[k0,k0]⟩]),0):=by unfold cV;rw [aw (fun q=>q ajR),aB ⟨ajS,ajP,ajQ⟩,PN,PN,ajU,ajV,ajZ];rfl
theorem ajY:Gs dM=([[[48],[48],[48]],[[48],[45,49],[49]],[[48],[49],[45,49]]],0):=by decide+kernel
end Go.aj.k4
namespace Go.aj.k4
open Go.aj.dR Go.aj.cQ Go.aj.dh Go.aj.cL
end Go.aj.k4
namespace Go.aj
variable [bx]
open Go.RowKit
section
variable {P:Program}{fn:Func}{c:Ctx}{fr:Fr}{H:aY}{k:List eO}
end
end Go.aj
namespace Go.Proofs.YtmpnheilfejcpaaGreatDoor
open Go.aj
def Ce (w:World):Prop:=True
 ∧Lib.TabIs Tryz.prog w "internal/strconv.uint64pow10" .u64 Lib.pow10Tab
 ∧True
instance:bx:=⟨fun w _=>Ce w⟩
theorem apY {n:String}{w w':World}(h: ∀b,b<w.heap.size→w'.heap[b]? =w.heap[b]?){cs:Array Value}(af:w.var? Tryz.prog n=some cs):w'.var? Tryz.prog n=some cs:=by
 unfold World.var? at af⊢;cases c9:Tryz.prog.globalNamed n with
 |none=>simp [c9] at af
 |some g=>
  simp only [c9,Option.bind_some] at af⊢;have bG:g<w.heap.size:=by
   rcases gA g w.heap.size with q|q
   ·exact q
   ·have:w.heap[g]? =none:=by simp [q]
    simp [this] at af
  rw [h g bG];exact af
theorem aiD {W:World}{S:Nat→Prop}(h:Ce W):qf W S (fun _=>none) []:=by intro w' cb _ _ ak;have ez: ∀b,b<W.heap.size→w'.heap[b]? =W.heap[b]? :=fun b au=>ak b au (by rintro ⟨h,o,s,C,U,_⟩;simp at U);show Ce w';unfold Ce at h⊢;obtain ⟨_,h⟩:=h;obtain ⟨U,h⟩:=h;refine ⟨trivial,?_⟩;refine ⟨apY ez U,?_⟩;trivial
end Go.Proofs.YtmpnheilfejcpaaGreatDoor
namespace Go.aj
open Go.RowKit
variable [bx]
theorem cg {P:Program}{f:FuncId}{args:List ao}{r:ao}{code:Code}(fn:Func)(h: ∀c:Ctx,c.R=(fun dF _=>dF=r)→c.fix=(fun _=>False)→aj P fn c (.code code []) (A0 0 args) [])(aR:P.funcs[f]? =some fn:=by exact rfl)(ak:fn.body=some code:=by exact rfl)(aG:(fn.name== "runtime.NumGoroutine")=false:=by kernel_rfl)(cy:Nat.ble args.length fn.ntmps=true:=by exact rfl)(U:c2.e9 args=true:=by exact rfl)(ab:c2 r=true:=by exact rfl):br P f args r:=cm.sD (hx (P:=P) (fn:=fn) aR ak aG cy h) (fix:=fun _=>False) (fun _ h=>h) U ab
end Go.aj
namespace Go.aj
open Go.RowKit
variable [bx]
theorem bn {P:Program}{fn:Func}{c:Ctx}{fr:Fr}{H:aY}{k:List eO}{all:Array Oper}{fuel:Nat}{listed:Array Bool}(i:Nat){u1:Oper}(h:aj P fn c (.ops false all [u1] (.any all fuel (listed.setIfInBounds i true)::k)) fr H)(ad:Region.ready .any all listed=[i]:=by kernel_rfl)(hd:qc fn.ntmps all.toList=true:=by exact rfl)(ai:all[i]? =some u1:=by exact rfl):aj P fn c (.any all (fuel+1) listed k) fr H:=tO ad b1 hd ⟨fun o' cN=>by rw [ai] at cN;cases cN;exact h,trivial⟩
end Go.aj
namespace Go.aj
open Go.RowKit
variable [bx]
theorem dV {P:Program}{fn:Func}{c:Ctx}{fr:Fr}{H:aY}{k:List eO}{all:Array Oper}{fuel:Nat}{listed:Array Bool}(i j:Nat){u1 Iv:Oper}(h:aj P fn c (.ops false all [u1] (.any all fuel (listed.setIfInBounds i true)::k)) fr H)(aS:aj P fn c (.ops false all [Iv] (.any all fuel (listed.setIfInBounds j true)::k)) fr H)(ad:Region.ready .any all listed=[i,j]:=by kernel_rfl)(hd:qc fn.ntmps all.toList=true:=by exact rfl)(ai:all[i]? =some u1:=by exact rfl)(HQ:all[j]? =some Iv:=by exact rfl):aj P fn c (.any all (fuel+1) listed k) fr H:=tO ad b1 hd ⟨fun o' cN=>by rw [ai] at cN;cases cN;exact h,fun o' cN=>by rw [HQ] at cN;cases cN;exact aS,trivial⟩
end Go.aj
namespace Go.Proofs.YtmpnheilfejcpaaGreatDoor
open Go.aj Go.aj.dh Go.RowKit
attribute [local irreducible] aj eD bZ cm
theorem ahQ (l:List Int)(au:cP l)(hlen:l.length≤1000000000):br Tryz.prog 215 [.ro (.ints .u32 l) 0 l.length] (.ro (.ints .u32 l) 0 (a7 (bq l)).length):=by
 refine cg Tryz.f215 fun c ar bJ=> ?_;refine bp ?_;refine cF (ι:=Nat) (fun k=>[(0,.ro (.ints .u32 l) 0 k)]) (fun _=>[]) (fun k=>k≤l.length∧ ∀i,k≤i→i<l.length→l.getD i 0=0) (fun k=>k) l.length ⟨⟨I,trivial⟩,I,bN _,fun i U ab=>by omega⟩ ?_;rintro k ⟨an,bB⟩;have fin:(k=0∨l.getD (k-1) 0≠0)→(a7 (bq l)).length=k:=fun h=>by rw [←apo au an bB h,fy,hX an]
 refine bf ?_;refine hg I I (fun aM=> ?_) (fun aM=> ?_)
 ·have pY:0<k:=J;have aE:((k:Int)-1).toNat=k-1:=J;refine iq ?_;refine bw I (fun U=> ?_) (fun U=> ?_)
  ·rw [aE] at U;refine Nk ?_;refine cc ⟨k-1,⟨J,fun i ab ay=> ?_⟩,J,⟨?_,trivial⟩,I⟩
   ·by_cases bc:i=k-1
    ·subst bc;exact U
    ·exact bB i J ay
   ·show some (ao.ro (.ints .u32 l) (0+0) _)=_;congr 2;omega
  ·rw [aE] at U;refine bl ?_;exact aZ ar I (by rw [fin (.inr U)];rfl)
 ·refine bf ?_;exact aZ ar I (by rw [fin (.inl J)];rfl)
theorem vz (l:List Int)(au:cP l)(hlen:l.length≤1000000000):br Tryz.prog 215 [nw l] (bA (bq l)):=by refine br.res (ahQ l au hlen) ?_;exact aU.ahs (apQ au) (oy (jK au))
theorem F4 (m:Nat)(hm:m<18446744073709551616):br Tryz.prog 195 [.int .u64 (m:Nat)] (bA m):=by
 have av:=vz [((m%4294967296:Nat):Int),((m/2^32%4294967296:Nat):Int)] (by
  rw [cP.cons];exact ⟨vy m,cP.one (vy _)⟩) b1
 have af:bq [((m%4294967296:Nat):Int),((m/2^32%4294967296:Nat):Int)]=m:=by simp only [bq,cn];unfold B;omega
 rw [af] at av;refine cg Tryz.f195 fun c ar bJ=> ?_;refine bE ?_;refine aq (xu (m:=m) I I I lv) ?_;repeat (refine aq (bD rfl) ?_)
 refine aq (xv (m:=m) (s:=32) I I I) ?_;refine aq (xu I I I lv) ?_;repeat (refine ju rfl rfl rfl rfl rfl rfl rfl rfl rfl rfl rfl ?_)
 refine aL I I I av (bE ?_);exact aZ ar I I
theorem KO {a b c:Nat}(aW:a<4294967296)(ak:b<4294967296)(av:c<4294967296):a*b<18446744073709551616∧c+a*b<18446744073709551616:=by have:a*b≤4294967295*4294967295:=jW J J;omega
theorem apk (n:List Int)(x y:Nat)(aG:cP n)(hlen:n.length≤100000000)(al:x<4294967296)(a1:y<4294967296):
 br Tryz.prog 200 [nw n,.int .u32 (x:Nat),.int .u32 (y:Nat)] (bA (bq n*x+y)):=by
 refine cg Tryz.f200 fun c ar bJ=> ?_;refine bt ?_;refine mh I I I I I I I I (by show (0:Int)≤0∧_≤_∧(4:Int)*_≤_∧_;omega) (bE ?_);refine aq (gU (m:=y) I I I eW J) ?_;refine ame 0 (.ints .u32 []) I ⟨cj _,I,fun i j aa _=>absurd aa (gh _)⟩ (bt ?_);refine cF (ι:=Nat×List Int×Nat) (fun p=>[(0,nw n),(1,.int .u32 (x:Nat)),(7,.aC 0 0 p.1),(8,.int .u64 (p.2.2:Nat)),(17,nw n),(18,ah n.length),(19,ah p.1)]) (fun p=>[some ⟨218,.ints .u32 p.2.1⟩])
  (fun p=>p.1≤n.length∧p.2.1.length=p.1∧cP p.2.1∧p.2.2<4294967296∧bq p.2.1+B^p.1*p.2.2=bq (n.take p.1)*x+y) (fun p=>n.length-p.1) (0,[],y) ⟨aH,rfl,cj _,rfl,cP.nil,a1,by simp [bq]⟩ ?_
 rintro ⟨i,out,dB⟩ ⟨U,ab,ay,bc,bI⟩;simp only at*;refine bh ?_;refine bw I (fun db=> ?_) (fun db=> ?_)
 ·have na:i<n.length:=J;obtain ⟨d,hd,zQ⟩:=aG.nat i;have ak:=KO (a:=d) (b:=x) (c:=dB) zQ al bc;have aA:(dB+d*x)/4294967296<4294967296:=J;refine bf ?_;refine bR 24 (.int .u32 (d:Nat)) I (aU.of_eq (by rw [hd])) ?_;refine aq (gU (m:=d) I I I eW J) ?_;repeat (refine aq (bD rfl) ?_)
  refine aq (gU (m:=x) I I I eW J) ?_;refine aq (Dj I I eW ak.1) ?_;refine aq (vB I I eW ak.2) (bE ?_);refine aq (xu I I I lv) ?_;repeat (refine ju rfl rfl rfl rfl rfl rfl rfl rfl rfl rfl rfl ?_)
  refine dI I I I I I I I I I ab I I (bN 1) I (by show (i+1)*4≤_∧_;omega) (fun i j _ _=>rfl) dq (bE ?_);refine aq (xv (s:=32) I I I) (bl ?_);refine cc ⟨(i+1,out++[(((dB+d*x)%4294967296:Nat):Int)],(dB+d*x)/4294967296),⟨by simp only;omega,by simp [ab],cP.append.2 ⟨ay,cP.one (vy _)⟩,aA,?_⟩,by simp only;omega,aH,I⟩;have:=Ok ab bI (c:=dB+d*x) (d:=d*x) rfl;rw [mF n i,hd,cn,eF,kF];simp only at this⊢;rw [this];omega
 ·have dn:i=n.length:=J;subst dn;rw [fO] at bI;refine bl ?_;refine aq (xu (m:=dB) I I I lv) ?_;repeat (refine ju rfl rfl rfl rfl rfl rfl rfl rfl rfl rfl rfl ?_)
  refine dI I I I I I I I I I ab I I (bN 1) I (by show (n.length+1)*4≤_∧_;omega) (fun i j _ _=>rfl) dq ?_;have au:cP (out++[((dB%4294967296:Nat):Int)]):=cP.append.2 ⟨ay,cP.one (vy _)⟩;have av:=vz _ au (by simp;omega);have af:bq (out++[((dB%4294967296:Nat):Int)])=bq n*x+y:=by rw [AD,ab,cn,ny bc];exact bI
  rw [af] at av;refine sO 0 42 (n.length+1) [] I mc I (by show _≤(out++[((dB%4294967296:Nat):Int)]).length;simp;omega) trivial ?_;refine aL I I (by show [ao.ro _ 0 (n.length+1)]++[]=[nw (out++[((dB%4294967296:Nat):Int)])];simp only [nw,di,ab];rfl) av (bE ?_);exact aZ ar I I
theorem Tg (n:Int):br Tryz.prog 246 [.int .i64 n] (.bool false):=by refine cg Tryz.f246 fun c ar bJ=> ?_;refine bt ?_;refine aZ ar I ?_;simp [gP]
theorem Th (n:Int):br Tryz.prog 261 [.int .u32 n] (.bool false):=by refine cg Tryz.f261 fun c ar bJ=> ?_;refine bt ?_;refine aZ ar I ?_;simp [gP]
theorem abi (x y:Int):br Tryz.prog 220 [.int .i64 x,.int .i64 y] (.int .i64 (j7 x y)):=by
 refine cg Tryz.f220 fun c ar bJ=> ?_;refine bE ?_;refine aL I I I (Tg x) (bE ?_);refine aL I I I (Tg y) (bh ?_);refine bw I (fun h=> ?_) (fun h=> ?_)
 ·refine dy ?_;refine aZ ar I ?_;unfold j7;rw [aB h];rfl
 ·refine bf ?_;refine bw I (fun ab=> ?_) (fun ab=> ?_)
  ·refine dy ?_;refine aZ ar I ?_;unfold j7;rw [aw h,aB ab];rfl
  ·refine bp ?_;refine aZ ar I ?_;unfold j7;rw [aw h,aw ab];rfl
theorem abj (x y:Int):br Tryz.prog 238 [.int .u32 x,.int .u32 y] (.int .i64 (j7 x y)):=by
 refine cg Tryz.f238 fun c ar bJ=> ?_;refine bE ?_;refine aL I I I (Th x) (bE ?_);refine aL I I I (Th y) (bh ?_);refine bw I (fun h=> ?_) (fun h=> ?_)
 ·refine dy ?_;refine aZ ar I ?_;unfold j7;rw [aB h];rfl
 ·refine bf ?_;refine bw I (fun ab=> ?_) (fun ab=> ?_)
  ·refine dy ?_;refine aZ ar I ?_;unfold j7;rw [aw h,aB ab];rfl
  ·refine bp ?_;refine aZ ar I ?_;unfold j7;rw [aw h,aw ab];rfl
theorem KL (a b:Nat)(aW:(a7 a).length≤1000000000)(ak:(a7 b).length≤1000000000):br Tryz.prog 211 [bA a,bA b] (.int .i64 (j7 a b)):=by
 have cJ:=abi (a7 a).length (a7 b).length;refine cg Tryz.f211 fun c ar bJ=> ?_;have Tm:=iV a;have Tq:=iV b;have aE:=abf a b;have aF: ∀i,i<(a7 a).length→(a7 a).length=(a7 b).length→(∀j,i<j→j<(a7 a).length→(a7 a).getD j 0=(a7 b).getD j 0)→(a7 a).getD i 0≠(a7 b).getD i 0→j7 a b=j7 ((a7 a).getD i 0) ((a7 b).getD i 0):=fun i aa au ae ch=>abg Tm Tq au aa ae ch;have bO:(a7 a).length=(a7 b).length→(∀j,j<(a7 a).length→(a7 a).getD j 0=(a7 b).getD j 0)→j7 a b=0:=abh;unfold bA;generalize a7 a=x at*;generalize a7 b=y at*;generalize j7 (a:Int) (b:Int)=r at*;refine bt ?_;refine bw I (fun aM=> ?_) (fun aM=> ?_)
 ·refine bt ?_;refine aL I I I cJ (dy ?_);refine aZ ar I ?_;rw [aE J];rfl
 ·have au:x.length=y.length:=J;refine cX ?_;refine cF (ι:=Nat) (fun k=>[(0,.ro (.ints .u32 x) 0 x.length),(1,.ro (.ints .u32 y) 0 y.length),(5,.int .i64 ((k:Int)-1))]) (fun _=>[]) (fun k=>k≤x.length∧ ∀j,k≤j→j<x.length→x.getD j 0=y.getD j 0) (fun k=>k) x.length ⟨aH,I,bN _,fun j U ab=>by omega⟩ ?_;rintro k ⟨an,bB⟩;refine cX ?_;refine bw I (fun U=> ?_) (fun U=> ?_)
  ·have Lp:((k:Int)-1).toNat=k-1:=J;refine bp ?_;refine yI ag ag I (bf ?_);refine bw I (fun ab=> ?_) (fun ab=> ?_)
   ·rw [Lp] at ab;have dD:=abj (x.getD (k-1) 0) (y.getD (k-1) 0);repeat (refine du ?_)
    refine ee ag ?_;refine bF 0 I ag ag ag I (bD I) I ?_;refine bF 1 I ag ag ag I (bD I) I ?_;refine bF 2 I ag ag ag I (ib I I I I (by first|(simp only [cR,cn,fJ];exact I)|exact I) J) I ?_;refine bF 4 I ag ag ag I (bD I) I ?_;refine bF 5 I ag ag ag I (bD I) I ?_;refine bF 6 I ag ag ag I (ib I I I I (by first|(simp only [cR,cn,fJ];exact I)|exact I) J) I ?_;apply tS [(35,.int .u32 (x.getD ((k:Int)-1).toNat 0)),(39,.int .u32 (y.getD ((k:Int)-1).toNat 0))]
    ·intro fin;refine dV 3 7 ?_ ?_
     ·refine bf ?_;refine bn 7 ?_;refine bf ?_;exact fin _ aH
     ·refine bf ?_;refine bn 3 ?_;refine bf ?_;exact fin _ aH
    refine bn 8 ?_;skip
    refine aL I I I (by rw [Lp];exact dD) (bp ?_);refine bF 9 I ag ag ag I (dC I) I ?_;refine dX ag (bf ?_);refine aZ ar I ?_;rw [aF (k-1) J au (fun j ay bc=>bB j J bc) ab];rfl
   ·rw [Lp] at ab;refine cX ?_;refine cc ⟨k-1,⟨J,fun j ay bc=> ?_⟩,J,⟨I,I,?_,trivial⟩,I⟩
    ·by_cases bI:j=k-1
     ·subst bI;exact hL.1 ab
     ·exact bB j J bc
    ·show some (ao.int .i64 _)=_;congr 2;omega
  ·refine bl ?_;refine aZ ar I ?_;rw [bO au (fun j ay=>bB j J ay)];rfl
theorem yN {out:List Int}{m:Nat}(h:out.length=m):[ao.ro (.ints .u32 out) 0 m]++[]=[nw out]:=by subst h;rfl
theorem Z9 (a b:Nat)(aW:(a7 a).length≤100000000)(ak:(a7 b).length≤100000000):br Tryz.prog 210 [bA a,bA b] (bA (a+b)):=by
 refine cg Tryz.f210 fun c ar bJ=> ?_;obtain ⟨p,q,HV,hlen,cB⟩: ∃p q:Nat,p+q=a+b∧(a7 q).length≤(a7 p).length∧(((a7 a).length<(a7 b).length∧p=b∧q=a)∨(¬(a7 a).length<(a7 b).length∧p=a∧q=b)):=by
  rcases gA (a7 a).length (a7 b).length with h|h
  ·exact ⟨b,a,J,J,.inl ⟨h,I,I⟩⟩
  ·exact ⟨a,b,I,h,.inr ⟨J,I,I⟩⟩
 have iw:(a7 p).length≤100000000:=by rcases cB with ⟨_,rfl,rfl⟩|⟨_,rfl,rfl⟩<;>assumption
 apply kP (H:=[]) [(0,bA p),(1,bA q)]
 ·intro fin;unfold bA at fin⊢;refine bh ?_;refine bw I (fun aM=> ?_) (fun aM=> ?_)
  ·have:p=b∧q=a:=by
    rcases cB with h|h
    ·exact h.2
    ·exact absurd J h.1
   obtain ⟨rfl,rfl⟩:=this;skip
   refine dc I ?_;refine eL ?_;exact fin _ aH
  ·have:p=a∧q=b:=by
    rcases cB with h|h
    ·exact absurd J aM
    ·exact h.2
   obtain ⟨rfl,rfl⟩:=this;refine eL ?_;exact fin _ aH
 have al:=iV p;have a1:=iV q;have af:bq (a7 p)+bq (a7 q)=a+b:=by rw [hs,hs,HV]
 unfold bA;rw [←af] at ar;generalize a7 p=x at*;generalize a7 q=y at*;refine bt ?_;refine mh I I I I I I I I (by show (0:Int)≤0∧_≤_∧(4:Int)*_≤_∧_;omega) (bt ?_);refine JW 0 (.ints .u32 []) I ⟨cj _,I,fun i j aa _=>absurd aa (gh _)⟩ ?_;refine cF (ι:=Nat×List Int×Nat) (fun p=>[(1,.ro (.ints .u32 y) 0 y.length),(5,.aC 0 0 p.1),(6,.int .u64 (p.2.2:Nat)),(20,.ro (.ints .u32 x) 0 x.length),(21,ah x.length),(22,ah p.1)]) (fun p=>[some ⟨218,.ints .u32 p.2.1⟩])
  (fun p=>p.1≤x.length∧p.2.1.length=p.1∧cP p.2.1∧p.2.2<4294967296∧bq p.2.1+B^p.1*p.2.2=bq (x.take p.1)+bq (y.take p.1)) (fun p=>x.length-p.1) (0,[],0) ⟨aH,rfl,cj _,rfl,cP.nil,aT,by simp [bq]⟩ ?_
 rintro ⟨i,out,dB⟩ ⟨U,ab,ay,bc,bI⟩;simp only at*;refine bh ?_;refine bw I (fun db=> ?_) (fun db=> ?_)
 ·have na:i<x.length:=J;obtain ⟨d,hd,zQ⟩:=al.nat i;obtain ⟨e,he,Sj⟩:=a1.nat i;refine bf ?_;refine bR 28 (.int .u32 (d:Nat)) I (aU.of_eq (by rw [hd])) ?_;refine aq (gU (m:=d) I I I eW J) ?_;refine aq (vB I I eW J) (bh ?_);apply kP (H:=[some ⟨218,.ints .u32 out⟩]) [(1,.ro (.ints .u32 y) 0 y.length),(5,.aC 0 0 i),(6,.int .u64 (dB+d+e:Nat)),(20,.ro (.ints .u32 x) 0 x.length),(21,ah x.length),(22,ah i)]
  ·intro fin;refine bw I (fun fh=> ?_) (fun fh=> ?_)
   ·refine bf ?_;refine bR 39 (.int .u32 (e:Nat)) I (aU.of_eq (by rw [he])) ?_;refine aq (gU (m:=e) I I I eW J) ?_;refine aq (vB I I eW J) ?_;refine eL ?_;exact fin _ aH
   ·have L2:e=0:=by
     have:y.getD i 0=0:=by simp [List.getD,kD (show y.length≤i by omega)]
     omega
    subst L2;refine eL ?_;exact fin _ aH
  refine bE ?_;refine aq (xu I I I lv) ?_;repeat (refine ju rfl rfl rfl rfl rfl rfl rfl rfl rfl rfl rfl ?_)
  refine dI I I I I I I I I I ab I I (bN 1) I (by show (i+1)*4≤_∧_;omega) (fun i j _ _=>rfl) dq (bE ?_);refine aq (xv (s:=32) I I I) (bl ?_);exact cc ⟨(i+1,out++[(((dB+d+e)%4294967296:Nat):Int)],(dB+d+e)/4294967296),⟨by simp only;omega,by simp [ab],cP.append.2 ⟨ay,cP.one (vy _)⟩,by simp only;omega,Xo ab bI hd he⟩,by simp only;omega,aH,I⟩
 ·have dn:i=x.length:=J;subst dn;rw [fO,kd hlen] at bI;refine bl ?_;refine aq (xu (m:=dB) I I I lv) ?_;repeat (refine ju rfl rfl rfl rfl rfl rfl rfl rfl rfl rfl rfl ?_)
  refine dI I I I I I I I I I ab I I (bN 1) I (by show (x.length+1)*4≤_∧_;omega) (fun i j _ _=>rfl) dq ?_;have au:cP (out++[((dB%4294967296:Nat):Int)]):=cP.append.2 ⟨ay,cP.one (vy _)⟩;have av:=vz _ au (by simp;omega);have af:bq (out++[((dB%4294967296:Nat):Int)])=bq x+bq y:=by rw [AD,ab,cn,ny bc];exact bI
  rw [af] at av;refine sO 0 54 (x.length+1) [] I mc I (by show _≤(out++[((dB%4294967296:Nat):Int)]).length;simp;omega) trivial ?_;refine aL I I (yN (by simp [ab])) av (bE ?_);exact aZ ar I I
theorem Uj (a b:Nat)(mX:b≤a)(aW:(a7 a).length≤100000000):br Tryz.prog 212 [bA a,bA b] (bA (a-b)):=by
 refine cg Tryz.f212 fun c ar bJ=> ?_;have al:=iV a;have a1:=iV b;have hlen:(a7 b).length≤(a7 a).length:=oy (by have:=jK al;rw [hs] at this;omega);have agm:bq (a7 a)=a:=hs a;have H7:bq (a7 b)=b:=hs b;have aqF:a<B^(a7 a).length:=by have:=jK al;rwa [hs] at this
 unfold bA;generalize a7 a=x at*;generalize a7 b=y at*;refine bt ?_;refine mh I I I I I I I I (by show (0:Int)≤0∧_≤_∧(4:Int)*_≤_∧_;omega) (bt ?_);refine JW 0 (.ints .u32 []) I ⟨cj _,I,fun i j aa _=>absurd aa (gh _)⟩ ?_;refine cF (ι:=Nat×List Int×Nat) (fun p=>[(1,.ro (.ints .u32 y) 0 y.length),(5,.aC 0 0 p.1),(6,ah p.2.2),(13,.ro (.ints .u32 x) 0 x.length),(14,ah x.length),(15,ah p.1)]) (fun p=>[some ⟨218,.ints .u32 p.2.1⟩])
  (fun p=>p.1≤x.length∧p.2.1.length=p.1∧cP p.2.1∧p.2.2≤1∧bq p.2.1+bq (y.take p.1)=bq (x.take p.1)+B^p.1*p.2.2) (fun p=>x.length-p.1) (0,[],0) ⟨aH,rfl,cj _,rfl,cP.nil,aT,by simp [bq]⟩ ?_
 rintro ⟨i,out,iO⟩ ⟨U,ab,ay,bc,bI⟩;simp only at*;refine bh ?_;refine bw I (fun db=> ?_) (fun db=> ?_)
 ·have na:i<x.length:=J;obtain ⟨d,hd,zQ⟩:=al.nat i;obtain ⟨e,he,Sj⟩:=a1.nat i;refine bf ?_;refine bR 20 (.int .u32 (d:Nat)) I (aU.of_eq (by rw [hd])) ?_;refine aq (AK (m:=d) I I I J) (cX ?_);apply kP (H:=[some ⟨218,.ints .u32 out⟩]) [(1,.ro (.ints .u32 y) 0 y.length),(5,.aC 0 0 i),(9,.int .i64 ((d:Int)-(iO:Int)-(e:Int))),(13,.ro (.ints .u32 x) 0 x.length),(14,ah x.length),(15,ah i)]
  ·intro fin;refine bw I (fun fh=> ?_) (fun fh=> ?_)
   ·refine bf ?_;refine bR 32 (.int .u32 (e:Nat)) I (aU.of_eq (by rw [he])) ?_;refine aq (AK (m:=e) I I I J) ?_;refine eL ?_;exact fin _ aH
   ·have L2:e=0:=by
     have:y.getD i 0=0:=by simp [List.getD,kD (show y.length≤i by omega)]
     omega
    subst L2;refine eL ?_;exact fin _ ⟨I,I,by show some (ao.int .i64 ((d:Int)-(iO:Int)))=_;simp,I,I,I,trivial⟩
  obtain ⟨yv,tm,agD,LQ,agB⟩: ∃yv tm:Nat,yv+iO+e=d+4294967296*tm∧tm≤1∧yv<4294967296:=by
   rcases gA d (iO+e) with q|q
   ·exact ⟨d+4294967296-iO-e,1,J,J,J⟩
   ·exact ⟨d-iO-e,0,J,J,J⟩
  refine bh ?_;apply kP (H:=[some ⟨218,.ints .u32 out⟩]) [(1,.ro (.ints .u32 y) 0 y.length),(5,.aC 0 0 i),(6,ah tm),(9,ah yv),(13,.ro (.ints .u32 x) 0 x.length),(14,ah x.length),(15,ah i)]
  ·intro fin;refine bw I (fun fh=> ?_) (fun fh=> ?_)
   ·have:tm=1:=J;skip
    refine dc I ?_;refine eL ?_;subst this;exact fin _ ⟨I,I,I,by show some (ao.int .i64 ((d:Int)-(iO:Int)-(e:Int)+4294967296))=_;congr 2;omega,I,I,I,trivial⟩
   ·have:tm=0:=J;subst this;refine eL ?_;exact fin _ ⟨I,I,I,by show some (ao.int .i64 ((d:Int)-(iO:Int)-(e:Int)))=_;congr 2;omega,I,I,I,trivial⟩
  refine bE ?_;refine aq (gU (m:=yv) I I I lv agB) ?_;repeat (refine ju rfl rfl rfl rfl rfl rfl rfl rfl rfl rfl rfl ?_)
  refine dI I I I I I I I I I ab I I (bN 1) I (by show (i+1)*4≤_∧_;omega) (fun i j _ _=>rfl) dq (bl ?_);exact cc ⟨(i+1,out++[(yv:Int)],tm),⟨by simp only;omega,by simp [ab],cP.append.2 ⟨ay,cP.one J⟩,LQ,aoQ ab bI hd he agD⟩,by simp only;omega,aH,I⟩
 ·have dn:i=x.length:=J;subst dn;rw [fO,kd hlen,agm,H7] at bI;have av:=vz _ ay J;have af:bq out=a-b:=by
   have afE:=jK ay;rw [ab] at afE;have:iO=0∨iO=1:=J;rcases this with rfl|rfl
   ·rw [ta] at bI;omega
   ·rw [rf] at bI;omega
  rw [af] at av;refine bl ?_;refine sO 0 45 x.length [] I mc I (by show _≤out.length;omega) trivial ?_;refine aL I I (yN ab) av (bE ?_);exact aZ ar I I
theorem Vh (n:List Int)(x:Nat)(aG:cP n)(hlen:n.length≤100000000)(al:0<x∧x<4294967296):
 br Tryz.prog 222 [nw n,.int .u32 (x:Nat)] (.ck [bA (bq n/x),.int .u32 (bq n%x:Nat)]):=by
 refine cg Tryz.f222 fun c ar bJ=> ?_;unfold nw;refine bt ?_;refine mh I I I I I I I I (by show (0:Int)≤_∧_≤_∧(4:Int)*_≤_∧_;omega) (cX ?_);refine cF (ι:=Nat×List Int×Nat) (fun p=>[(0,.ro (.ints .u32 n) 0 n.length),(1,.int .u32 (x:Nat)),(6,.aC 0 0 n.length),(7,.int .u64 (p.2.2:Nat)),(8,.int .i64 ((p.1:Int)-1))]) (fun p=>[some ⟨218,.ints .u32 p.2.1⟩])
  (fun p=>p.1≤n.length∧p.2.1.length=n.length∧cP p.2.1∧p.2.2<x∧bq (n.drop p.1)=x*bq (p.2.1.drop p.1)+p.2.2) (fun p=>p.1) (n.length,List.replicate n.length 0,0) ⟨aH,rfl,bN _,b1,cP.za _,al.1,by simp [bq]⟩ ?_
 rintro ⟨i,out,rs⟩ ⟨U,ab,ay,bc,bI⟩;simp only at*;refine cX ?_;refine bw I (fun db=> ?_) (fun db=> ?_)
 ·obtain ⟨j,rfl⟩: ∃j,i=j+1:=⟨i-1,J⟩
  obtain ⟨d,hd,zQ⟩:=aG.nat j;have Ha:(((j+1:Nat):Int)-1)=(j:Nat):=J;have acb:(((j+1:Nat):Int)-1).toNat=j:=J;have MJ:rs*4294967296+d<x*4294967296:=by have:(rs+1)*4294967296≤x*4294967296:=fp _ bc;omega
  have aA:(rs*4294967296+d)/x<4294967296:=xM MJ;have hm:(rs*4294967296+d)%x<x:=lz _ al.1;have aeF:=zo (rs*4294967296+d) x;generalize yb:(rs*4294967296+d)/x=q at*;generalize BS:(rs*4294967296+d)%x=r at*;refine bp ?_;refine aq (Gu (m:=rs) (s:=32) I I aT eW (Dl J)) (bf ?_);refine bR 24 (.int .u32 (d:Nat)) I (aU.of_eq (by rw [acb,hd])) ?_;refine aq (gU (m:=d) I I I eW J) ?_;refine aq (bZ.res (GA I I eW I (Dl J) J) (by rw [Qu zQ])) (bE ?_);refine aq (gU (m:=x) I I I eW J) ?_;refine aq (bZ.res (TX I I eW J al.1) (by rw [yb])) ?_;refine aq (gU (m:=q) I I I lv aA) ?_;refine bR 28 (ah j) I (aU.of_eq (by rw [Ha])) (cX ?_);refine aq (gU (m:=x) I I I eW J) ?_;refine aq (bZ.res (ajc I I al.1) (by rw [BS])) (cX ?_);refine cc ⟨(j,out.set j (q:Int),r),⟨by simp only;omega,by simp [ab],ay.set J,hm,?_⟩,by simp only;omega,⟨I,I,I,I,?_,trivial⟩,I⟩
  rotate_left
  ·show some (ao.int .i64 _)=_;congr 2;omega
  simp only;rw [aml J,alP,hd,cn,bI];simp only [bq,cn];have aE:x*(q+B*bq (out.drop (j+1)))=x*q+B*(x*bq (out.drop (j+1))):=by rw [gS,Nat.mul_left_comm]
  rw [aE,gS];generalize x*bq (out.drop (j+1))=w at*;generalize x*q=pb at*;show d+(4294967296*w+4294967296*rs)=pb+4294967296*w+r;omega
 ·have dn:i=0:=J;subst dn;rw [tb,tb] at bI;have af:bq out=bq n/x∧rs=bq n%x:=by
   rw [bI,hj];constructor
   ·rw [oV,Nat.add_mul_div_right _ _ al.1,oR bc,cR]
   ·rw [oV,Nat.add_mul_mod_self_right,ny bc]
  have av:=vz _ ay J;rw [af.1] at av;obtain ⟨_,S2⟩:=af;refine bl ?_;refine sO 0 39 n.length [(7,.int .u64 (rs:Nat))] I mc I (by show _≤out.length;omega) ⟨I,trivial⟩ ?_;refine aL I I (yN ab) av ?_;repeat (refine aq (bD rfl) ?_)
  refine aq (gU (m:=rs) I I I lv J) (bE ?_);refine aZ ar I ?_;rw [S2];rfl
theorem KP (a b:Nat)(aW:(a7 a).length≤100000000)(ak:(a7 b).length≤100000000):br Tryz.prog 183 [bA a,bA b] (bA (a*b)):=by
 refine cg Tryz.f183 fun c ar bJ=> ?_;have al:=iV a;have a1:=iV b;have af:bq (a7 a)*bq (a7 b)=a*b:=by rw [hs,hs]
 unfold bA;rw [←af] at ar;generalize a7 a=x at*;generalize a7 b=y at*;refine bt ?_;refine mh I I I I I I I I (by show (0:Int)≤_∧_≤_∧(4:Int)*_≤_∧_;omega) ?_;rw [show ((x.length:Int)+(y.length:Int)).toNat=x.length+y.length by omega];refine bt ?_;refine cF (ι:=Nat×List Int) (fun p=>[(1,.ro (.ints .u32 y) 0 y.length),(5,.aC 0 0 (x.length+y.length)),(17,.ro (.ints .u32 x) 0 x.length),(18,.int .i64 (x.length:Nat)),(19,.int .i64 (p.1:Nat))]) (fun p=>[some ⟨218,.ints .u32 p.2⟩])
  (fun p=>p.1≤x.length∧p.2.length=x.length+y.length∧cP p.2∧bq p.2=bq (x.take p.1)*bq y∧ ∀q,p.1+y.length≤q→p.2.getD q 0=0) (fun p=>x.length-p.1) (0,List.replicate (x.length+y.length) 0) ⟨aH,rfl,cj _,b1,cP.za _,by simp [bq,Oo],fun q _=>X6 _ _⟩ ?_
 rintro ⟨i,out⟩ ⟨U,ab,ay,bc,bI⟩;simp only at*;refine bh ?_;refine bw I (fun db=> ?_) (fun db=> ?_)
 ·have na:i<x.length:=J;obtain ⟨d,hd,zQ⟩:=al.nat i;refine bf ?_;refine ea 7 (.int .u32 (d:Nat)) I (aU.of_eq (by rw [hd])) ?_;refine cF (ι:=Nat×List Int×Nat) (fun p=>[(1,.ro (.ints .u32 y) 0 y.length),(5,.aC 0 0 (x.length+y.length)),(6,.int .i64 (i:Nat)),(7,.int .u32 (d:Nat)),(8,.int .u64 (p.2.2:Nat)),(17,.ro (.ints .u32 x) 0 x.length),(18,.int .i64 (x.length:Nat)),(19,.int .i64 (i:Nat)),(24,.ro (.ints .u32 y) 0 y.length),(25,.int .i64 (y.length:Nat)),(26,.int .i64 (p.1:Nat))]) (fun p=>[some ⟨218,.ints .u32 p.2.1⟩])
   (fun p=>p.1≤y.length∧p.2.1.length=x.length+y.length∧cP p.2.1∧p.2.2<4294967296∧bq p.2.1+B^(i+p.1)*p.2.2=bq (x.take i)*bq y+B^i*(d*bq (y.take p.1))∧ ∀q,i+y.length≤q→p.2.1.getD q 0=0) (fun p=>y.length-p.1) (0,out,0) ⟨aH,rfl,cj _,ab,ay,Nat.zero_lt_succ _,by simp [bq,bc],bI⟩ ?_
  rintro ⟨j,o2,dB⟩ ⟨et,eS,gG,rE,tF,E0⟩;simp only at*;refine bh ?_;refine bw I (fun MZ=> ?_) (fun MZ=> ?_)
  ·have zV:j<y.length:=J;obtain ⟨e,he,Sj⟩:=a1.nat j;obtain ⟨f,aR,aqO⟩:=gG.nat (i+j);have tx:d*e≤4294967295*4294967295:=jW J J;refine bf ?_;refine aq (gU (m:=d) I I I eW J) ?_;repeat (refine aq (bD rfl) ?_)
   refine bR 34 (.int .u32 (e:Nat)) I (aU.of_eq (by rw [he])) ?_;refine aq (gU (m:=e) I I I eW J) ?_;refine aq (Dj I I eW J) (bt ?_);refine bR 40 (.int .i64 (i+j:Nat)) I (aU.of_eq (by rw [Int.natCast_add])) (cX ?_);refine bR 42 (.int .u32 (f:Nat)) I (aU.of_eq (by rw [aR])) ?_;refine aq (gU (m:=f) I I I eW J) ?_;refine aq (vB I I eW J) ?_;refine aq (vB I I eW J) (bt ?_);refine aq (xu I I I lv) ?_;refine bR 49 (.int .i64 (i+j:Nat)) I (aU.of_eq (by rw [Int.natCast_add])) (cX ?_);refine aq (xv (s:=32) I I I) (bl ?_);refine cc ⟨(j+1,o2.set (i+j) (((dB+(d*e+f))%4294967296:Nat):Int),(dB+(d*e+f))/4294967296),⟨by simp only;omega,by simp [eS],gG.set (vy _),by simp only;omega,?_,fun q aA=> ?_⟩,by simp only;omega,aH,I⟩
   ·have:=ahG (dB:=dB) (a:=d) (b:=e) (p:=i+j) J tF aR;simp only;rw [show i+(j+1)=i+j+1 from rfl,this,mF y j,he,cn,jU];congr 1;rw [gS,gS,iN];congr 1
    ac_rfl
   ·simp only;rw [Fo J];exact E0 q aA
  ·have hc:j=y.length:=J;subst hc;rw [fO] at tF;have bB:=E0 (i+y.length) (bN _);have c7:=PU (x:=(dB:Int)) (show i+y.length<o2.length by omega);rw [bB,cn] at c7;refine bl ?_;refine aq (gU (m:=dB) I I I lv rE) ?_;refine bR 60 (.int .i64 (i+y.length:Nat)) I (aU.of_eq (by rw [Int.natCast_add])) (cX ?_);refine cc ⟨(i+1,o2.set (i+y.length) (dB:Int)),⟨by simp only;omega,by simp [eS],gG.set J,?_,fun q aA=> ?_⟩,by simp only;omega,aH,I⟩
   ·simp only;rw [mF x i,hd,cn,eF,kF,←tF];have:(0:Int).toNat=0:=rfl;rw [this] at c7;omega
   ·simp only at aA⊢;rw [Fo J];exact E0 q J
 ·have dn:i=x.length:=J;subst dn;rw [fO] at bc;have av:=vz _ ay J;rw [bc] at av;refine bl ?_;refine sO 0 65 (x.length+y.length) [] I mc I (by show _≤out.length;omega) trivial ?_;refine aL I I (yN ab) av (bE ?_);exact aZ ar I I
theorem Yt (n:List Int)(s:Nat)(aG:cP n)(hlen:n.length≤100000000)(az:s<32):
 A2 Tryz.prog 223 [nw n,.int .i64 (s:Nat)] (fun h=> .aC h 0 (n.length+1)) ⟨218,.ints .u32 (fZ (n.length+1) (bq n*2^s))⟩:=by
 refine cm.fresh (K:=fun r H=>r= .aC 0 0 (n.length+1)∧H=[some ⟨218,.ints .u32 (fZ (n.length+1) (bq n*2^s))⟩]) (hx (P:=Tryz.prog) (fn:=Tryz.f223) I I ag I (fun c ar bJ=> ?_)) (fix:=fun _=>False) (fun _ h=>h) I (fun H=>⟨I,trivial,trivial,trivial⟩) ?_
 ·have aD:2^s≤2147483648:=by have:=fN (show 0<2 by decide) (show s≤31 by omega);exact dU this aT
  have wL:0<2^s:=lX aT;unfold nw;refine bt ?_;refine mh I I I I I I I I (by show (0:Int)≤0∧_≤_∧(4:Int)*_≤_∧_;omega) (bt ?_);refine JW 0 (.ints .u32 []) I ⟨cj _,I,fun i j aa _=>absurd aa (gh _)⟩ ?_;refine cF (ι:=Nat×List Int×Nat) (fun p=>[(1,.int .i64 (s:Nat)),(5,.aC 0 0 p.1),(6,.int .u64 (p.2.2:Nat)),(13,.ro (.ints .u32 n) 0 n.length),(14,.int .i64 (n.length:Nat)),(15,.int .i64 (p.1:Nat))]) (fun p=>[some ⟨218,.ints .u32 p.2.1⟩])
   (fun p=>p.1≤n.length∧p.2.1.length=p.1∧cP p.2.1∧p.2.2<2^s∧bq p.2.1+B^p.1*p.2.2=bq (n.take p.1)*2^s) (fun p=>n.length-p.1) (0,[],0) ⟨aH,rfl,cj _,rfl,cP.nil,wL,by simp [bq]⟩ ?_
  rintro ⟨i,out,dB⟩ ⟨U,ab,ay,bc,bI⟩;simp only at*;refine bh ?_;refine bw I (fun db=> ?_) (fun db=> ?_)
  ·have na:i<n.length:=J;obtain ⟨d,hd,zQ⟩:=aG.nat i;have afF:dB|||d*2^s=dB+d*2^s:=by have:=Nat.two_pow_add_eq_or_of_lt bc d;rw [Nat.or_comm,hj d,←this,oV]
   have aeF:d*2^s≤4294967295*2147483648:=jW J aD;have aA:(dB+d*2^s)/4294967296<2^s:=by refine xM ?_;have:(d+1)*2^s≤4294967296*2^s:=fp _ J;rw [eF] at this;omega
   refine bf ?_;refine bR 20 (.int .u32 (d:Nat)) I (aU.of_eq (by rw [hd])) ?_;refine aq (gU (m:=d) I I I eW J) ?_;repeat (refine aq (bD rfl) ?_)
   refine aq (Gu (m:=d) (s:=s) I I (by show s≤64;omega) eW J) ?_;refine aq (bZ.res (GA I I eW I J J) (by rw [afF])) (bE ?_);refine aq (xu I I I lv) ?_;repeat (refine ju rfl rfl rfl rfl rfl rfl rfl rfl rfl rfl rfl ?_)
   refine dI I I I I I I I I I ab I I (bN 1) I (by show (i+1)*4≤_∧_;omega) (fun i j _ _=>rfl) dq (bE ?_);refine aq (xv (s:=32) I I I) (bl ?_);refine cc ⟨(i+1,out++[(((dB+d*2^s)%4294967296:Nat):Int)],(dB+d*2^s)/4294967296),⟨by simp only;omega,by simp [ab],cP.append.2 ⟨ay,cP.one (vy _)⟩,aA,?_⟩,by simp only;omega,aH,I⟩;have:=Ok ab bI (c:=dB+d*2^s) (d:=d*2^s) rfl;simp only at this⊢;rw [this,mF n i,hd,cn,eF,kF]
  ·have dn:i=n.length:=J;subst dn;rw [fO] at bI;refine bl ?_;refine aq (gU (m:=dB) I I I lv J) ?_;repeat (refine ju rfl rfl rfl rfl rfl rfl rfl rfl rfl rfl rfl ?_)
   refine dI I I I I I I I I I ab I I (bN 1) I (by show (n.length+1)*4≤_∧_;omega) (fun i j _ _=>rfl) dq ?_;have au:cP (out++[(dB:Int)]):=cP.append.2 ⟨ay,cP.one J⟩;have af:bq (out++[(dB:Int)])=bq n*2^s:=by rw [AD,ab,cn];exact bI
   have kj:=De au (k:=n.length+1) (by simp [ab]) af;refine bE ?_;refine aZ ar I ⟨I,?_⟩;show ([some ⟨218,.ints .u32 (out++[(dB:Int)])⟩]:aY)=_;rw [kj]
 ·rintro r H ⟨rfl,rfl⟩;refine ⟨fun o ai=>by simp at ai;subst ai;show 0+(n.length+1)≤(fZ _ _).length;rw [qX];omega,vG mc,0,rfl,fun k=>rfl⟩
theorem abI (A dJ C V:List Int)(j s:Nat)(qo:aY)(ae:A.length=j)(az:2≤s)(au:dJ.length=s+1)(HN:V.length=s)(rp:cP dJ)(og:cP V)(MJ:2147483648≤V.getD (s-1) 0)(bG:bq dJ<4294967296*bq V)(cy:(A++(dJ++C)).length≤1000000000):
 cm Tryz.prog 224 [.aC 0 j (s+1),nw V] (some ⟨218,.ints .u32 (A++(dJ++C))⟩::qo) (fun h=>h<qo.length+1)
  (fun r H=>r= .int .u32 (bq dJ/bq V:Nat)∧H=some ⟨218,.ints .u32 (A++(fZ (s+1) (bq dJ%bq V)++C))⟩::qo):=by
 refine hx (P:=Tryz.prog) (fn:=Tryz.f224) I I ag I (fun c ar bJ=> ?_);have MB:=HN;obtain ⟨ox,aM,uE⟩:=rp.nat s;obtain ⟨h6,U,dS⟩:=rp.nat (s-1);obtain ⟨u2,ab,eP⟩:=rp.nat (s-2);obtain ⟨v1,et,cJ⟩:=og.nat (s-1);obtain ⟨v2,eS,dD⟩:=og.nat (s-2);have agf:2147483648≤v1:=J;have L4:=fun g=>Lq (g:=g) az au MB rp og aM U ab et eS agf bG;have g0:=FV (C:=C) ae (show s<dJ.length by omega);have g1:=FV (C:=C) ae (show s-1<dJ.length by omega);have g2:=FV (C:=C) ae (show s-2<dJ.length by omega);rw [aM] at g0;rw [U] at g1;rw [ab] at g2;have hlen:(A++(dJ++C)).length=j+(s+1)+C.length:=by simp [ae,au];omega
 have nd:0<bq V:=by have:=mF V (s-1);rw [show s-1+1=V.length by omega,fO,et,cn] at this;have ay:B^(s-1)*1≤B^(s-1)*v1:=hK _ J;have:=G3 (s-1);omega
 unfold nw;rw [MB];refine bt ?_;refine yI ag ag I (cX ?_);refine bR 20 (.int .u32 (ox:Nat)) I (aU.of_eq (by rw [g0])) ?_;refine aq (gU (m:=ox) I I I eW J) ?_;refine aq (Gu (m:=ox) (s:=32) I I aT eW (Dl uE)) (fe ?_);refine bR 25 (.int .i64 (s-1:Nat)) I (aU.of_eq (by congr 1;omega)) (cX ?_);refine bR 27 (.int .u32 (h6:Nat)) I (aU.of_eq (by rw [g1])) ?_;refine aq (gU (m:=h6) I I I eW J) ?_;refine aq (bZ.res (GA I I eW I (Dl uE) J) (by rw [Qu dS])) ?_;have qJ:ox*4294967296+h6<18446744073709551616:=J;obtain ⟨top,wQ⟩: ∃top,ox*4294967296+h6=top:=⟨_,rfl⟩
 rw [wQ] at L4 qJ⊢;refine cX ?_;refine bR 33 (.int .i64 (s-1:Nat)) I (aU.of_eq (by congr 1;omega)) (bf ?_);refine bR 35 (.int .u32 (v1:Nat)) I (aU.of_eq (by rw [et])) ?_;refine aq (gU (m:=v1) I I I eW J) ?_;refine aq (TX I I eW qJ J) ?_;obtain ⟨gs,BL,uP,L6⟩: ∃gs:Nat,(if ((4294967295:Int)<((top/v1:Nat):Int)) then (4294967295:Int) else ((top/v1:Nat):Int))=(gs:Int)∧gs≤4294967295∧(gs=4294967295∨gs=top/v1)∧gs≤top/v1:=by
  generalize top/v1=z;by_cases bB:(4294967295:Int)<(z:Int)
  ·exact ⟨4294967295,by rw [aB bB];rfl,J,J,J⟩
  ·exact ⟨z,by rw [aw bB],J,J,J⟩
 obtain ⟨L6,aeQ⟩:=L6;have aeU:gs*v1≤top:=dU (fp _ aeQ) (Nat.div_mul_le_self top v1);have tw:=KO (a:=gs) (b:=v1) (c:=0) J cJ aT;refine aq (TU I I) ?_;refine bR 38 (.int .u64 (gs:Nat)) I (aU.of_eq (by rw [←BL])) (cX ?_);refine bR 43 (.int .i64 (s-1:Nat)) I (aU.of_eq (by congr 1;omega)) (bf ?_);refine bR 45 (.int .u32 (v1:Nat)) I (aU.of_eq (by rw [et])) ?_;refine aq (gU (m:=v1) I I I eW J) ?_;refine aq (Dj I I eW tw.1) ?_;refine aq (Qz I I eW qJ aeU) (bp ?_);refine cF (ι:=Nat×Nat) (fun p=>[(0,.aC 0 j (s+1)),(1,.ro (.ints .u32 V) 0 s),(5,.int .i64 (s:Nat)),(7,.int .u64 (p.1:Nat)),(8,.int .u64 (p.2:Nat))]) (fun _=>some ⟨218,.ints .u32 (A++(dJ++C))⟩::qo)
  (fun p=>p.1≤4294967295∧p.2+p.1*v1=top∧ ∀mV,mV≤4294967295→mV*(v1*4294967296+v2)≤top*4294967296+u2→mV≤p.1) (fun p=>p.1) (gs,top-gs*v1) ⟨aH,rfl,uP,by simp only;omega,fun mV bQ bX=> ?_⟩ ?_
 ·have:=adg J eP bX;rcases L6 with h|h
  ·show mV≤gs;omega
  ·show mV≤gs;rw [h];exact this
 rintro ⟨g,r⟩ ⟨i1,i2,i3⟩;simp only at*;have MH:=anK (B:=4294967296) (u2:=u2) (v2:=v2) i2 J dD;have aen:=KO (a:=g) (b:=v2) (c:=0) J dD aT;apply kP (H:=some ⟨218,.ints .u32 (A++(dJ++C))⟩::qo) [(0,.aC 0 j (s+1)),(1,.ro (.ints .u32 V) 0 s),(5,.int .i64 (s:Nat)),(7,.int .u64 (g:Nat)),(8,.int .u64 (r:Nat)),(70,.bool (decide (r<4294967296∧r*4294967296+u2<g*v2)))]
 ·intro fin;repeat (refine du ?_)
  refine yI ag ag I ?_;repeat (first|refine aq (bD rfl) ?_|refine aq (rY rfl rfl) ?_)
  refine hg I I (fun eU=> ?_) (fun eU=> ?_)
  ·have Ng:r<4294967296:=J;refine fe ?_;refine bR 55 (.int .i64 (s-2:Nat)) I (aU.of_eq (by congr 1;omega)) (bf ?_);refine bR 57 (.int .u32 (v2:Nat)) I (aU.of_eq (by rw [eS])) ?_;refine aq (gU (m:=v2) I I I eW J) ?_;refine mg I I ?_;refine aq (Dj I I eW aen.1) (dy ?_);refine aq (Gu (m:=r) (s:=32) I I aT eW (Dl Ng)) (fe ?_);refine bR 64 (.int .i64 (s-2:Nat)) I (aU.of_eq (by congr 1;omega)) ?_;refine fS ?_;refine bR 66 (.int .u32 (u2:Nat)) I (aU.of_eq (by rw [g2])) ?_;refine aq (gU (m:=u2) I I I eW J) ?_;refine mg I I ?_;refine aq (bZ.res (GA I I eW I (Dl Ng) J) (by rw [Qu eP])) ?_;refine iq ?_;refine fin _ ⟨I,I,I,I,I,?_,trivial⟩;show some (ao.bool (decide (((r*4294967296+u2:Nat):Int)<((g*v2:Nat):Int))))=_;congr 2;rw [tc];constructor
   ·intro h;exact ⟨Ng,J⟩
   ·intro h;exact wa.2 h.2
  ·refine iq ?_;refine fin _ ⟨I,I,I,I,I,?_,trivial⟩;show some (ao.bool false)=_;rw [fP];intro h;exact eU J
 refine bw I (fun eU=> ?_) (fun eU=> ?_)
 ·have bQ:=MH.1 eU;have Ev:0<g:=by
   rcases nz g with z|z
   ·subst z;rw [ux] at bQ;omega
   ·exact z
  obtain ⟨g,rfl⟩: ∃m,g=m+1:=⟨g-1,J⟩
  rw [eF,qt] at i2;refine bp ?_;refine aq (Qz (m:=g+1) (n:=1) I I eW J J) (cX ?_);refine bR 74 (.int .i64 (s-1:Nat)) I (aU.of_eq (by congr 1;omega)) (bf ?_);refine bR 76 (.int .u32 (v1:Nat)) I (aU.of_eq (by rw [et])) ?_;refine aq (gU (m:=v1) I I I eW J) ?_;refine aq (vB I I eW J) (bE ?_);refine cc ⟨(g,r+v1),⟨by simp only;omega,by simp only;omega,fun mV nj z2=> ?_⟩,by simp only;omega,aH,I⟩;have z3:=i3 mV nj z2;show mV≤g;rcases gA g mV with z|z
  ·exfalso;have:mV=g+1:=J;subst this;omega
  ·exact z
 ·have bQ:g*(v1*4294967296+v2)≤top*4294967296+u2:=by
   rcases gA (top*4294967296+u2) (g*(v1*4294967296+v2)) with z|z
   ·exact absurd (MH.2 z) eU
   ·exact z
  obtain ⟨aE,aF⟩:=L4 g i1 bQ i3;clear L4 MH i3 eU;have ard:bq dJ%bq V<B^(s+1):=re (Nat.mod_le _ _) (by have:=jK rp;rwa [au] at this);have aeG:=fun (w b:Nat) (hw:w<B^(s+1))=>anC (u:=bq dJ) (v:=bq V) (g:=g) (w:=w) (n:=s+1) (b:=b) hw (by have:=jK og;rw [MB] at this;exact ha this (fN aT J)) (by have:=jK rp;rwa [au] at this);generalize bq dJ/bq V=q at*;generalize BS:bq dJ%bq V=m at*;refine bl ?_;have iQ: ∀W:List Int,W.length=s+1→ ∀i,i<s+1→i+j<(A++(W++C)).length:=fun W gO i aa=>by simp [ae,gO];omega
  refine cF (ι:=Nat×List Int×Nat×Nat) (fun p=>[(0,.aC 0 j (s+1)),(1,.ro (.ints .u32 V) 0 s),(5,.int .i64 (s:Nat)),(7,.int .u64 (g:Nat)),(9,.int .u64 (p.2.2.1:Nat)),(10,.int .i64 (p.2.2.2:Nat)),(82,.int .i64 (s+1:Nat)),(83,.int .i64 (p.1:Nat))]) (fun p=>some ⟨218,.ints .u32 (A++(p.2.1++C))⟩::qo)
   (fun p=>p.1≤s+1∧p.2.1.length=s+1∧cP p.2.1∧(∀x,p.1≤x→p.2.1.getD x 0=dJ.getD x 0)∧p.2.2.1<4294967296∧p.2.2.2≤1∧(p.1=s+1→p.2.2.1=0)∧bq (p.2.1.take p.1)+g*bq (V.take p.1)=bq (dJ.take p.1)+B^p.1*(p.2.2.1+p.2.2.2)) (fun p=>s+1-p.1) (0,dJ,0,0)
   ⟨aH,rfl,cj _,au,rp,fun _ _=>rfl,Nat.zero_lt_succ _,cj _,fun _=>rfl,by simp [bq]⟩ ?_
  rintro ⟨i,mq,dB,iO⟩ ⟨lp,pb,yx,Fa,Fb,IJ,alq,Ny⟩;simp only at*;refine bh ?_;refine bw I (fun alr=> ?_) (fun alr=> ?_)
  ·have L9:i<s+1:=J;obtain ⟨ui,ES,H4⟩:=rp.nat i;obtain ⟨iE,sx,H7⟩:=og.nat i;have Mm:=KO (a:=g) (b:=iE) (c:=dB) J H7 Fb;have km:=iQ mq pb i L9;have jq:=FV (C:=C) ae (show i<mq.length by omega);rw [Fa i (bN _),ES] at jq;have BQ:(dB+g*iE)%4294967296<4294967296:=lz _ aT;have wD:(dB+g*iE)/4294967296<4294967296:=J;obtain ⟨yv,b',iU,jh,w4,yy,Cq⟩:=aoE H4 BQ IJ;have Ac:=anD (g:=g) (dB:=dB) (yv:=yv) (b':=b') (show i<mq.length by omega) Ny ES sx iU;have x5:i+1=s+1→(dB+g*iE)/4294967296=0:=fun h=>by
    have:V.getD i 0=0:=by simp [List.getD,kD (show V.length≤i by omega)]
    have:iE=0:=J;subst this;rw [ta,fg];exact oR Fb
   refine bh ?_;apply kP (H:=some ⟨218,.ints .u32 (A++(mq++C))⟩::qo) [(0,.aC 0 j (s+1)),(1,.ro (.ints .u32 V) 0 s),(5,.int .i64 (s:Nat)),(7,.int .u64 (g:Nat)),(9,.int .u64 (dB+g*iE:Nat)),(10,.int .i64 (iO:Nat)),(11,.int .i64 (i:Nat)),(82,.int .i64 (s+1:Nat)),(83,.int .i64 (i:Nat))]
   ·intro fin;refine bw I (fun eU=> ?_) (fun eU=> ?_)
    ·refine bf ?_;refine bR 94 (.int .u32 (iE:Nat)) I (aU.of_eq (by rw [sx])) ?_;refine aq (gU (m:=iE) I I I eW J) ?_;refine aq (Dj I I eW Mm.1) ?_;refine aq (vB I I eW Mm.2) ?_;refine eL ?_;exact fin _ aH
    ·have nd:iE=0:=by
      have:V.getD i 0=0:=by simp [List.getD,kD (show V.length≤i by omega)]
      omega
     subst nd;refine eL ?_;exact fin _ aH
   refine cX ?_;refine bR 101 (.int .u32 (ui:Nat)) I (aU.of_eq (by rw [jq])) ?_;refine aq (AK (m:=ui) I I I J) ?_;repeat (refine aq (bD rfl) ?_)
   refine aq (bZ.res (ajb (n:=4294967295) I I eW I Mm.2 aT) (by rw [aaj])) ?_;obtain ⟨js,zY⟩: ∃js,(dB+g*iE)%4294967296=js:=⟨_,rfl⟩
   rw [zY] at BQ iU yy Cq⊢;refine aq (AK (m:=js) I I I J) (cX ?_);refine aq (xv (s:=32) I I I) (bh ?_);apply kP (H:=some ⟨218,.ints .u32 (A++(mq++C))⟩::qo) [(0,.aC 0 j (s+1)),(1,.ro (.ints .u32 V) 0 s),(5,.int .i64 (s:Nat)),(7,.int .u64 (g:Nat)),(9,.int .u64 ((dB+g*iE)/4294967296:Nat)),(10,.int .i64 (b':Nat)),(11,.int .i64 (i:Nat)),(12,.int .i64 (yv:Nat)),(82,.int .i64 (s+1:Nat)),(83,.int .i64 (i:Nat))]
   ·intro fin;refine bw I (fun eU=> ?_) (fun eU=> ?_)
    ·obtain ⟨nj,z2⟩:=yy eU;subst nj;skip
     refine dc I ?_;refine eL ?_;exact fin _ ⟨I,I,I,I,I,I,I,by rw [z2];rfl,I,I,trivial⟩
    ·obtain ⟨nj,z2⟩:=Cq eU;subst nj;refine eL ?_;exact fin _ ⟨I,I,I,I,I,I,I,by rw [z2];rfl,I,I,trivial⟩
   refine bE ?_;refine aq (gU (m:=yv) I I I lv w4) ?_;have c7:=Zz (x:=(yv:Int)) (C:=C) ae (show i<mq.length by omega);refine cX ?_;refine cc ⟨(i+1,mq.set i (yv:Int),(dB+g*iE)/4294967296,b'),⟨by simp only;omega,by simp [pb],yx.set J,fun x al=> ?_,wD,jh,x5,Ac⟩,by simp only;omega,aH,?_⟩
   ·simp only at al⊢;rw [Fo J];exact Fa x J
   ·show some (⟨_,.ints .u32 ((A++(mq++C)).set (j+i) (yv:Int))⟩:bm)::qo=_;rw [c7]
  ·have dn:i=s+1:=J;subst dn;have aez:=alq rfl;subst aez;rw [kd J,kd J,kd J,cR] at Ny;have R0:=jK yx;rw [pb] at R0;obtain ⟨d0,d1⟩:=aeG (bq mq) iO R0 IJ Ny aE aF nd;refine bl ?_;refine bw I (fun eU=> ?_) (fun eU=> ?_)
   ·obtain ⟨nj,z2⟩:=d0 J;subst nj;have kj:=De yx pb z2;refine bE ?_;refine aq (gU (m:=g) I I I lv J) (dy ?_);refine aZ ar I ⟨I,?_⟩;rw [kj]
   ·obtain ⟨nj,z2⟩:=d1 J;refine bt ?_;refine cF (ι:=Nat×List Int×Nat) (fun p=>[(0,.aC 0 j (s+1)),(1,.ro (.ints .u32 V) 0 s),(5,.int .i64 (s:Nat)),(7,.int .u64 (g:Nat)),(13,.int .u64 (p.2.2:Nat)),(126,.int .i64 (s+1:Nat)),(127,.int .i64 (p.1:Nat))]) (fun p=>some ⟨218,.ints .u32 (A++(p.2.1++C))⟩::qo)
     (fun p=>p.1≤s+1∧p.2.1.length=s+1∧cP p.2.1∧(∀x,p.1≤x→p.2.1.getD x 0=mq.getD x 0)∧p.2.2<4294967296∧bq (p.2.1.take p.1)+B^p.1*p.2.2=bq (mq.take p.1)+bq (V.take p.1)) (fun p=>s+1-p.1) (0,mq,0)
     ⟨aH,rfl,cj _,pb,yx,fun _ _=>rfl,Nat.zero_lt_succ _,by simp [bq]⟩ ?_
    rintro ⟨i,xE,sm⟩ ⟨jJ,kq,qQ,tM,Co,Fc⟩;simp only at*;refine bh ?_;refine bw I (fun alA=> ?_) (fun alA=> ?_)
    ·have L9:i<s+1:=J;obtain ⟨ui,ES,H4⟩:=yx.nat i;obtain ⟨iE,sx,H7⟩:=og.nat i;have jq:=FV (C:=C) ae (show i<xE.length by omega);rw [tM i (bN _),ES] at jq;have km:=iQ xE kq i L9;have Ac:=aoA (sm:=sm) (show i<xE.length by omega) Fc ES sx;refine cX ?_;refine bR 134 (.int .u32 (ui:Nat)) I (aU.of_eq (by rw [jq])) ?_;refine aq (gU (m:=ui) I I I eW J) ?_;refine aq (vB I I eW J) (bh ?_);apply kP (H:=some ⟨218,.ints .u32 (A++(xE++C))⟩::qo) [(0,.aC 0 j (s+1)),(1,.ro (.ints .u32 V) 0 s),(5,.int .i64 (s:Nat)),(7,.int .u64 (g:Nat)),(13,.int .u64 (sm+ui+iE:Nat)),(14,.int .i64 (i:Nat)),(126,.int .i64 (s+1:Nat)),(127,.int .i64 (i:Nat))]
     ·intro fin;refine bw I (fun bQ=> ?_) (fun bQ=> ?_)
      ·refine bf ?_;refine bR 144 (.int .u32 (iE:Nat)) I (aU.of_eq (by rw [sx])) ?_;refine aq (gU (m:=iE) I I I eW J) ?_;refine aq (vB I I eW J) ?_;refine eL ?_;exact fin _ aH
      ·have nd:iE=0:=by
        have:V.getD i 0=0:=by simp [List.getD,kD (show V.length≤i by omega)]
        omega
       subst nd;refine eL ?_;exact fin _ aH
     refine bE ?_;refine aq (xu I I I lv) ?_;have c7:=Zz (x:=(((sm+ui+iE)%4294967296:Nat):Int)) (C:=C) ae (show i<xE.length by omega);refine cX ?_;refine aq (xv (s:=32) I I I) (bl ?_);refine cc ⟨(i+1,xE.set i (((sm+ui+iE)%4294967296:Nat):Int),(sm+ui+iE)/4294967296),⟨by simp only;omega,by simp [kq],qQ.set (vy _),fun x al=> ?_,by simp only;omega,Ac⟩,by simp only;omega,aH,?_⟩
     ·simp only at al⊢;rw [Fo J];exact tM x J
     ·show some (⟨_,.ints .u32 ((A++(xE++C)).set (j+i) (((sm+ui+iE)%4294967296:Nat):Int))⟩:bm)::qo=_;rw [c7]
    ·have dn:i=s+1:=J;subst dn;rw [kd J,kd J,kd J,z2] at Fc;have adT:=jK qQ;rw [kq] at adT;have af:bq xE=m:=by
      rcases DO sm 1 with z|z|z
      ·have:sm=0:=J;subst this;omega
      ·subst z;omega
      ·have:B^(s+1)*2≤B^(s+1)*sm:=hK _ z;omega
     have kj:=De qQ kq af;refine bl ?_;refine aq (Qz (m:=g) (n:=1) I I eW J J) ?_;refine aq (gU (m:=g-1) I I I lv J) (bE ?_);refine aZ ar I ⟨?_,?_⟩
     ·rw [show g-1=q by omega];rfl
     ·rw [kj]
theorem abe (n:Nat)(h:(a7 n).length≤1000000):br Tryz.prog 221 [bA n] (bA n):=by
 unfold bA;generalize a7 n=l at*;refine cm.value (K:=fun r H=>r= .aC 0 0 l.length∧H=[some ⟨218,.ints .u32 l⟩]) (hx (P:=Tryz.prog) (fn:=Tryz.f221) I I ag I (fun c ar bJ=> ?_)) (fix:=fun _=>False) (fun _ h=>h) I ?_
 ·refine bE ?_;refine O8 I I I (fun b ak=> ?_);refine bE ?_;refine vx I (fun h=> ?_) (fun h=> ?_)
  ·have:=ak h;have aG:l=[]:=v8.mp this;subst aG;refine cX ?_;refine lK 2 ⟨218,.ints .u32 []⟩ I I (dy ?_);exact aZ ar I ⟨I,I⟩
  ·refine bp ?_;refine ve I I I I I I I I I I ?_;refine fD [some ⟨218,.ints .u32 []⟩] (aP.eqv ⟨I,I,fun i j aa=>absurd aa (gh _)⟩ aP.nil) ?_;repeat (refine aq (bD rfl) ?_)
   refine dI I I I I I I I I I I I I (by show 0+l.length≤l.length;omega) I (by show (0+l.length)*4≤_∧_;omega) (fun i j _ _=>rfl) dq (bE ?_);refine aZ ar I ⟨?_,?_⟩
   ·show ao.aC 0 0 (0+l.length)=_;rw [cR]
   ·show ([some ⟨218,.ints .u32 ([]++List.take l.length (List.drop 0 l))⟩]:aY)=_;simp
 ·rintro r H ⟨rfl,rfl⟩;exact ⟨rfl,fun o ai=>by simp at ai;subst ai;exact Nat.le_of_eq (by simp [Cells.len]),vG mc⟩
theorem abK (n m:Nat)(h:n<m)(aG:(a7 n).length≤1000000)(hm:(a7 m).length≤1000000):br Tryz.prog 194 [bA n,bA m] (.ck [.nil,bA n]):=by have av:=KL n m J J;rw [Gc (wa.2 h)] at av;have hC:=abe n aG;refine cg Tryz.f194 fun c ar bJ=> ?_;refine bE ?_;refine aL I I I av (bl ?_);refine aL I I I hC (dy ?_);exact aZ ar I I
theorem YW {n m:Nat}(h:m≤n): ¬j7 n m<0:=by
 rcases gA m n with q|q
 ·rw [Gb (wa.2 q)];decide
 ·rw [YU J];decide
theorem div_one (n m:Nat)(h:m≤n)(aG:(a7 n).length≤1000000)(hm:(a7 m).length=1):br Tryz.prog 194 [bA n,bA m] (.ck [bA (n/m),bA (n%m)]):=by
 have av:=KL n m J J;have uN:=YW h;obtain ⟨t,low,bu,qJ,wQ,af,BR⟩:=FK (bN 1) hm;have HO:m=t:=by simp at af BR;subst BR;rw [af];simp
 subst HO;have Er:=Vh (a7 n) m (iV n) J ⟨wQ,qJ⟩;rw [hs] at Er;have ad:n%m<4294967296:=Nat.lt_trans (lz _ wQ) qJ;have lE:=F4 (n%m) J;refine cg Tryz.f194 fun c ar bJ=> ?_;refine bE ?_;refine aL I I I av (bh ?_);refine bw I (fun q=>absurd q uN) (fun q=> ?_);unfold bA;refine bh ?_;rw [hm];refine bf ?_;refine bR 31 (.int .u32 (m:Nat)) I (aU.of_eq (by congr 1)) ?_;refine aL I I I Er (dy ?_);refine aq (gU (m:=n%m) I I I eW J) ?_;refine aL I I I lE (dy ?_);exact aZ ar I I
theorem abL (n m:Nat)(h:m≤n)(aG:(a7 n).length≤1000000)(EE:2≤(a7 m).length):br Tryz.prog 194 [bA n,bA m] (.ck [bA (n/m),bA (n%m)]):=by
 have BQ:(a7 m).length≤(a7 n).length:=oy (by have:=jK (iV n);rw [hs] at this;omega);have av:=KL n m J J;have uN:=YW h;have uR:0<m:=by
  rcases nz m with q|q
  ·subst q;rw [rP] at EE;simp at EE
  ·exact q
 have SH:n<B^(a7 n).length:=by have:=jK (iV n);rwa [hs] at this
 obtain ⟨s,az⟩: ∃s,(a7 m).length=s:=⟨_,rfl⟩
 obtain ⟨h4,HL⟩: ∃h4,(a7 n).length=h4:=⟨_,rfl⟩
 rw [az] at EE BQ;rw [HL] at aG SH BQ;obtain ⟨t,low,bu,qJ,wQ,af,BR⟩:=FK (show 1≤s by omega) az;refine cg Tryz.f194 fun c ar bJ=> ?_;refine bE ?_;refine aL I I I av (bh ?_);refine bw I (fun q=>absurd q uN) (fun q=> ?_);have tq:bA n= .ro (.ints .u32 (a7 n)) 0 h4:=by unfold bA;rw [HL]
 have em:bA m= .ro (.ints .u32 (a7 m)) 0 s:=by unfold bA;rw [az]
 rw [tq,em];refine bh ?_;refine bw I (fun q=>absurd q J) (fun q=> ?_);refine bp ?_;refine cF (ι:=Nat) (fun k=>[(0,.ro (.ints .u32 (a7 n)) 0 h4),(1,.ro (.ints .u32 (a7 m)) 0 s),(8,ah k)]) (fun _=>[]) (fun k=>k≤31∧t*2^k<4294967296) (fun k=>32-k) 0 ⟨aH,I,J,by rw [xK,rf];exact qJ⟩ ?_;rintro k ⟨pY,l4⟩;refine cX ?_;refine bR 42 (ah (s-1)) I (aU.of_eq (by congr 1;omega)) (bf ?_);refine bR 44 (.int .u32 (t:Nat)) I (aU.of_eq (by rw [bu])) ?_;skip
 refine aq (Gu (m:=t) (s:=k) I I (by show k≤32;omega) lv l4) ?_;refine aq (xv (s:=31) I I I) (bh ?_);refine bw I (fun bQ=> ?_) (fun bQ=> ?_)
 ·have SG:=agS wQ l4 pY J;refine bl ?_;exact cc ⟨k+1,⟨SG.2,SG.1⟩,J,aH,I⟩
 have agb:=agT (t:=t) (k:=k) J;obtain ⟨j0,SK⟩:=ahR (show 1≤s by omega) az bu agb l4 pY;have nc:=Yt (a7 n) k (iV n) J J;have lE:=Yt (a7 m) k (iV m) J J;rw [hs,HL] at nc;rw [hs,az] at lE;have H6:m*2^k<B^s:=by have:=jK (iV (m*2^k));rwa [hs,j0] at this
 have S3:m*2^k<B^(s+1):=ha H6 (fN aT J);have BV:=vz (fZ (s+1) (m*2^k)) (C0 _ _) (by rw [qX];omega);rw [J6 _ _ S3] at BV;have MD:=apx SH pY (show 1≤s by omega) BQ (akS (show 1≤s by omega) j0 SK);have nd:0<m*2^k:=zp uR (lX aT);have bH:bA (m*2^k)= .ro (.ints .u32 (a7 (m*2^k))) 0 s:=by unfold bA;rw [j0]
 have L1:=fun (A dJ C:List Int) (j:Nat) (qo:aY) (ae:A.length=j) (au:dJ.length=s+1) (rp:cP dJ)=>abI A dJ C (a7 (m*2^k)) j s qo ae EE au j0 rp (iV _) SK;rw [hs] at L1;have x1:=fun Q W=>ajh (n:=n) (m:=m) (k:=k) (W:=W) (Q:=Q) uR;obtain ⟨v,ago⟩: ∃v,m*2^k=v:=⟨_,rfl⟩
 rw [ago] at lE H6 S3 BV MD nd bH L1 x1 j0;refine bl ?_;have cJ:[ao.ro (.ints .u32 (a7 n)) 0 h4,ah k]++[]=[nw (a7 n),ah k]:=by unfold nw;rw [HL];rfl
 have dD:[ao.ro (.ints .u32 (a7 m)) 0 s,ah k]++[]=[nw (a7 m),ah k]:=by unfold nw;rw [az];rfl
 refine nR I I cJ nc ?_;repeat (refine aq (bD rfl) ?_)
 refine nR I I dD lE ?_;refine sO 1 56 (s+1) [(0,.ro (.ints .u32 (a7 n)) 0 h4),(8,ah k),(53,.aC 0 0 (h4+1))] I mc I (by show _≤(fZ _ _).length;rw [qX];omega) aH ?_;refine aL I I (yN (qX _ _)) BV ?_;rw [bH];refine cX ?_;refine mh I I I I I I I I (by show (0:Int)≤_∧_≤_∧(4:Int)*_≤_∧_;omega) ?_;obtain ⟨pF,aqs⟩: ∃pF,pF+s=h4+1:=⟨h4+1-s,J⟩
 rw [show (((h4+1:Nat):Int)-(s:Nat)).toNat=pF by omega];rw [show h4+1-s=pF by omega] at MD;refine cX ?_;refine cF (ι:=Nat×Nat×List Int) (fun p=>[(8,ah k),(9,.aC 0 0 (h4+1)),(10,.ro (.ints .u32 (a7 v)) 0 s),(11,ah s),(12,.aC 2 0 pF),(13,.int .i64 ((p.1:Int)-1))]) (fun p=>[some ⟨218,.ints .u32 (fZ (h4+1) p.2.1)⟩,none,some ⟨218,.ints .u32 p.2.2⟩])
  (fun p=>p.1≤pF∧p.2.1<v*B^p.1∧p.2.2.length=pF∧cP p.2.2∧(∀x,x<p.1→p.2.2.getD x 0=0)∧bq p.2.2*v+p.2.1=n*2^k) (fun p=>p.1) (pF,n*2^k,List.replicate pF 0)
  ⟨⟨rfl,rfl,rfl,rfl,rfl,?_,trivial⟩,rfl,bN _,MD,b1,cP.za _,fun x _=>X6 _ _,by simp [Oo]⟩ ?_
 ·show some (ao.int .i64 _)=_;congr 2;omega
 rintro ⟨o6,W,Q⟩ ⟨lp,pb,yx,Fa,Fb,IJ⟩;simp only at*;refine cX ?_;refine bw I (fun bX=> ?_) (fun bX=> ?_)
 ·obtain ⟨j,rfl⟩: ∃j,o6=j+1:=⟨o6-1,J⟩
  obtain ⟨c4,fv,mD,W',nh,E6,aip⟩:=aji (N:=h4+1) nd H6 pb (show j+(s+1)≤h4+1 by omega);have hd:=L1 (fZ j W) (fZ (s+1) (W/B^j)) (fZ (h4+1-(j+(s+1))) (W/B^j/B^(s+1))) j [none,some ⟨218,.ints .u32 Q⟩] (qX _ _) (qX _ _) (C0 _ _) (by rw [fv];exact mD) (by rw [←c4,qX];omega);rw [fv,nh,←c4] at hd;have aA:W/B^j/v<4294967296:=xM (by rw [hj];exact mD);obtain ⟨dg,aeE⟩: ∃dg,W/B^j/v=dg:=⟨_,rfl⟩
  rw [aeE] at hd aA aip;refine Nj ?_;refine bR 82 (.aC 0 j (s+1)) I (aU.of_eq (by congr 1<;>omega)) ?_;skip
  have eg:[ao.aC 0 j (s+1),.ro (.ints .u32 (a7 v)) 0 s]++[]=[.aC 0 j (s+1),nw (a7 v)]:=by unfold nw;rw [j0];rfl
  refine sL I I eg hd (fun h aX=>aX) (fun h aX=>aX) ?_;rintro r H ⟨rfl,rfl⟩;refine bR 75 (ah j) I (aU.of_eq (by congr 1;omega)) (cX ?_);have bB:=Fb j J;have c7:=PU (x:=(dg:Int)) (show j<Q.length by omega);rw [bB,cn] at c7;have z0:(0:Int).toNat=0:=rfl;rw [z0,ta,fg] at c7;refine cc ⟨(j,W',Q.set j (dg:Int)),⟨by simp only;omega,E6,by simp [yx],Fa.set J,fun x al=> ?_,?_⟩,by simp only;omega,⟨I,I,I,I,I,?_,trivial⟩,I⟩
  ·simp only at al⊢;rw [Fo J];exact Fb x J
  ·simp only;rw [c7,eF,kF,hj dg v];omega
  ·show some (ao.int .i64 _)=_;congr 2;omega
 ·have Ey:o6=0:=J;subst Ey;rw [xK,rf] at pb;have he:=x1 (bq Q) W;obtain ⟨aA,gO⟩:=he IJ pb;clear he x1;have R3:W<B^s:=Nat.lt_trans pb H6;have l6:(fZ (h4+1) W).take s=fZ s W:=by rw [show h4+1=s+pF by omega,CZ,List.take_left' (qX _ _)]
  have BT:=vz (fZ s W) (C0 _ _) (by rw [qX];omega);rw [J6 _ _ R3] at BT;refine bl ?_;refine aq (I7 I I I I I I I I ⟨I,J,J⟩) ?_;refine bR 88 (.aC 0 0 s) I (aU.of_eq (by rw [cn])) ?_;refine sO 0 88 s [(8,ah k),(12,.aC 2 0 pF)] I mc I (by show _≤(fZ _ _).length;rw [qX];omega) aH ?_;refine bR 88 (.ro (.ints .u32 (fZ s W)) 0 s) I (aU.trans aU.take (aU.of_eq (by rw [l6]))) ?_;refine aL I I (yN (qX _ _)) BT ?_;have HH:=iV W;have R4:=hs W;have afo:(a7 W).length≤s:=oy R3;unfold bA;obtain ⟨r,ad⟩: ∃r,a7 W=r:=⟨_,rfl⟩
  rw [ad] at HH R4 afo⊢;refine bt ?_;refine mh I I I I I I I I (by show (0:Int)≤_∧_≤_∧(4:Int)*_≤_∧_;omega) (bt ?_);have wC: ∃d0:Nat,r.getD 0 0=(d0:Int)∧d0<4294967296:=HH.nat 0;obtain ⟨d0,wC,aqM⟩:=wC;refine cF (ι:=Nat×List Int) (fun p=>[(8,ah k),(12,.aC 2 0 pF),(14,.ro (.ints .u32 r) 0 r.length),(15,.aC 3 0 r.length),(93,.ro (.ints .u32 r) 0 r.length),(94,ah r.length),(95,ah p.1)]) (fun p=>[none,none,some ⟨218,.ints .u32 Q⟩,some ⟨218,.ints .u32 p.2⟩])
   (fun p=>p.1≤r.length∧p.2.length=r.length∧cP p.2∧bq (p.2.take p.1)*2^k+d0%2^k=bq (r.take p.1)+(r.getD p.1 0).toNat%2^k*B^p.1) (fun p=>r.length-p.1) (0,List.replicate r.length 0)
   ⟨aH,rfl,cj _,b1,cP.za _,by simp [bq];rw [show r[0]?.getD 0=(d0:Int) from wC];simp⟩ ?_
  rintro ⟨i,O⟩ ⟨jJ,kq,qQ,tM⟩;simp only at*;refine bh ?_;refine bw I (fun Co=> ?_) (fun Co=> ?_)
  ·have na:i<r.length:=J;obtain ⟨d,hd,wD⟩:=HH.nat i;obtain ⟨e,he,aqN⟩:=HH.nat (i+1);have zM:=aoz (e:=e) wD pY;have sq:=aaw (e:=e) wD pY;have Hu:d/2^k<4294967296:=re (vX _ _) wD;rw [hd,cn] at tM;have Ac:=aax (e:=e) (out:=O.take i) (i:=i) pY (by simp;omega) hd tM;refine bf ?_;refine bR 102 (.int .u32 (d:Nat)) I (aU.of_eq (by rw [hd])) ?_;skip
   refine aq (xv (m:=d) (s:=k) I I (by rw [Nat.ble_eq];show k≤32;omega)) (cX ?_);apply kP (H:=[none,none,some ⟨218,.ints .u32 Q⟩,some ⟨218,.ints .u32 (O.set i ((d/2^k+e%2^k*2^(32-k):Nat):Int))⟩]) [(8,ah k),(12,.aC 2 0 pF),(14,.ro (.ints .u32 r) 0 r.length),(15,.aC 3 0 r.length),(93,.ro (.ints .u32 r) 0 r.length),(94,ah r.length),(95,ah i)]
   ·intro fin;have Tz:(i+1=r.length∨k=0)→e%2^k*2^(32-k)=0:=by
     rintro (h|h)
     ·have:r.getD (i+1) 0=0:=by simp [List.getD,kD (show r.length≤i+1 by omega)]
      have:e=0:=J;subst this;simp
     ·subst h;rw [xK,Nat.mod_one];try simp
    refine hg I I (fun iU=> ?_) (fun iU=> ?_)
    ·refine bf ?_;refine bw I (fun jh=> ?_) (fun jh=> ?_)
     ·skip
      refine ee ag ?_;refine bF 0 I ag ag ag I (bD I) I ?_;refine bF 1 I ag ag ag I (bD I) I ?_;refine bF 2 I ag ag ag I (gr I I I I I (by first|(simp only [cR,cn,fJ];exact I)|exact I) J) I ?_;refine bF 4 I ag ag ag I (bD I) I ?_;refine bF 5 I ag ag ag I (bD I) I ?_;refine bF 6 I ag ag ag I (hE I I J) I ?_;refine bF 7 I ag ag ag I (ib I I I I (by first|(simp only [cR,cn,fJ];exact I)|exact I) J) I ?_;refine bF 9 I ag ag ag I (bD I) I ?_;refine bF 10 I ag ag ag I (q0 I I J) I ?_;apply tS [(8,ah k),(12,.aC 2 0 pF),(14,.ro (.ints .u32 r) 0 r.length),(15,.aC 3 0 r.length),(93,.ro (.ints .u32 r) 0 r.length),(94,ah r.length),(95,ah i),(118,.int .u32 (d/2^k:Nat)),(126,.int .u32 (e*2^(32-k)%4294967296:Nat)),(115,.aC 3 0 r.length),(116,ah i)]
      ·intro hn;have km:(O.set i ((d/2^k:Nat):Int)).getD i 0=((d/2^k:Nat):Int):=by simp [List.getD,show i<O.length by omega]
       have aeZ:i<(O.set i ((d/2^k:Nat):Int)).length:=by simp;omega
       refine dV 3 8 ?_ ?_
       ·refine cX ?_;refine bn 8 ?_;refine bf ?_;refine tR 123 (.int .u32 (e:Nat)) I (aU.of_eq (by rw [show ((i:Int)+1).toNat=i+1 by omega,he])) ?_;refine tR 125 (ah (32-k)) I (aU.of_eq (by congr 1;omega)) ?_;refine bF 11 I ag ag ag I (Zp (m:=e) (s:=32-k) I I (by show 32-k≤32;omega) lv) I ?_;refine hn _ ⟨I,I,I,I,I,I,I,?_,I,I,I,trivial⟩;show some (ao.int .u32 ((O.set i ((d/2^k:Nat):Int)).getD i 0))=_;rw [km]
       ·refine bf ?_;refine tR 123 (.int .u32 (e:Nat)) I (aU.of_eq (by rw [show ((i:Int)+1).toNat=i+1 by omega,he])) ?_;refine tR 125 (ah (32-k)) I (aU.of_eq (by congr 1;omega)) ?_;refine bF 11 I ag ag ag I (Zp (m:=e) (s:=32-k) I I (by show 32-k≤32;omega) lv) I ?_;refine bn 3 ?_;refine cX ?_;refine hn _ ⟨I,I,I,I,I,I,I,?_,I,I,I,trivial⟩;show some (ao.int .u32 ((O.set i ((d/2^k:Nat):Int)).getD i 0))=_;rw [km]
      refine bF 12 I ag ag ag I (bZ.res (GA I I lv I Hu (lz _ aT)) (by rw [zM])) I ?_;have aeZ:i<(O.set i ((d/2^k:Nat):Int)).length:=by simp;omega
      refine bF 13 I ag ag ag I (gr I I I I I (by first|(simp only [cR,cn,fJ];exact I)|exact I) J) I ?_;refine bn 14 ?_;refine cX ?_;refine dX ag ?_;refine eL ?_;refine jv _ (by show [none,none,_,some (⟨_,.ints .u32 ((O.set i _).set i _)⟩:bm)]=_;rw [xN]) ?_;exact fin _ aH
     ·have bB:=Tz (.inr J);rw [bB,fg] at fin;refine eL ?_;exact fin _ aH
    ·have bB:=Tz (.inl J);rw [bB,fg] at fin;refine eL ?_;exact fin _ aH
   refine bt ?_;refine cc ⟨(i+1,O.set i ((d/2^k+e%2^k*2^(32-k):Nat):Int)),⟨by simp only;omega,by simp [kq],qQ.set J,?_⟩,by simp only;omega,aH,I⟩;simp only;rw [ND J,he,cn];exact Ac
  ·have dn:i=r.length:=J;subst dn;have bB:r.getD r.length 0=0:=by simp [List.getD]
   have z0:(0:Int).toNat=0:=rfl;rw [bB,z0,Nat.zero_mod,ux,fg,kd J,fO,R4,gO] at tM;have EL:0<2^k:=lX aT;have adK:bq O=n%m:=by
    have U:d0%2^k<2^k:=lz _ EL;have ab:(bq O*2^k+d0%2^k)/2^k=bq O:=by rw [oV,Nat.add_mul_div_right _ _ EL,oR U,cR]
    rw [tM,Nat.mul_div_cancel _ EL] at ab;exact ab.symm
   have TA:=vz Q Fa J;have no:=vz O qQ J;rw [aA] at TA;rw [adK] at no;refine bl ?_;refine sO 2 130 pF [(15,.aC 3 0 r.length)] I mc I (by show _≤Q.length;omega) ⟨I,trivial⟩ ?_;refine aL I I (yN yx) TA ?_;repeat (refine aq (bD rfl) ?_)
   refine sO 3 132 r.length [(131,bA (n/m))] I mc I (by show _≤O.length;omega) ⟨I,trivial⟩ ?_;refine aL I I (yN kq) no (bE ?_);exact aZ ar I I
theorem Dr (n m:Nat)(hm:0<m)(aG:(a7 n).length≤1000000)(iv:(a7 m).length≤1000000):br Tryz.prog 194 [bA n,bA m] (.ck [bA (n/m),bA (n%m)]):=by
 rcases gA n m with h|h
 ·rw [oR h,ny h];exact br.res (abK n m h aG iv) (aU.akZ aU.Nb)
 ·have U:(a7 m).length≠0:=by have:=As.2 (show m≠0 by omega);omega
  rcases gA (a7 m).length 2 with q|q
  ·exact div_one n m h aG J
  ·exact abL n m h aG q
theorem Qt (n m:Nat)(aG:(a7 n).length≤1000000)(hm:(a7 m).length≤1000000):br Tryz.prog 158 [bA n,bA m] (bA (Nat.gcd n m)):=by
 refine cg Tryz.f158 fun c ar bJ=> ?_;refine bp ?_;refine cF (ι:=Nat×Nat) (fun p=>[(0,bA p.1),(1,bA p.2)]) (fun _=>[]) (fun p=>(a7 p.1).length≤1000000∧(a7 p.2).length≤1000000∧Nat.gcd p.1 p.2=Nat.gcd n m) (fun p=>p.2) (n,m) ⟨aH,I,aG,hm,I⟩ ?_;rintro ⟨a,b⟩ ⟨U,ab,ay⟩;simp only at*;have hd:=fun h=>Dr a b h U ab;have e3:0<(a7 b).length↔b≠0:=As;have tq:bA b= .ro (.ints .u32 (a7 b)) 0 (a7 b).length:=rfl;rw [tq] at hd⊢;refine bf ?_;refine bw I (fun bc=> ?_) (fun bc=> ?_)
 ·have ak:b≠0:=e3.1 J;refine bp ?_;refine aL I I I (hd J) (bl ?_);refine cc ⟨(b,a%b),⟨ab,NK (lz a J) ab,?_⟩,lz a J,aH,I⟩;show Nat.gcd b (a%b)=Nat.gcd n m;rw [←ay,Nat.gcd_comm a b,Nat.gcd_rec b a,Nat.gcd_comm]
 ·have ak:b=0:=by
   rcases nz b with q|q
   ·exact q
   ·have:=e3.2 J;omega
  rw [ak,Nat.gcd_zero_right] at ay;refine bl ?_;refine aZ ar I ?_;rw [←ay];rfl
theorem TG (n:Nat):br Tryz.prog 159 [bA n] (.bool (decide (n=1))):=by
 refine cg Tryz.f159 fun c ar bJ=> ?_;have U:n=1↔(a7 n).length=1∧(a7 n).getD 0 0=1:=apq;unfold bA;refine bh ?_;refine hg I I (fun ab=> ?_) (fun ab=> ?_)
 ·refine bf ?_;refine aZ ar I ?_;show ao.bool (decide ((a7 n).getD _ 0=1))=_;congr 1;rw [tc,U];exact ⟨fun h=>⟨J,h⟩,fun h=>h.2⟩
 ·refine bf ?_;refine aZ ar I ?_;show ao.bool false=_;rw [fP];intro h;exact ab (by have:=(U.1 h).1;omega)
theorem ani (l:List (List UInt8))(au:l.length≤1000000000):
 cm Tryz.prog 241 [.aC 0 0 l.length] [some ⟨9,.strs l⟩] (fun h=>h<1) (fun _ H=>H=[some ⟨9,.strs l.reverse⟩]):=by
 refine hx (P:=Tryz.prog) (fn:=Tryz.f241) I I ag I (fun c ar bJ=> ?_);refine cX ?_;refine cF (ι:=Nat) (fun k=>[(0,.aC 0 0 l.length),(2,ah k),(3,.int .i64 ((l.length:Int)-1-k))]) (fun k=>[some ⟨9,.strs (n0 l k)⟩]) (fun k=>2*k≤l.length+1) (fun k=>l.length+1-k) 0 ⟨⟨I,I,?_,trivial⟩,by rw [apB],J⟩ ?_
 ·show some (ao.int .i64 _)=_;congr 2;omega
 rintro k an;have fk:=xj l k;refine bh ?_;refine bw I (fun U=> ?_) (fun U=> ?_)
 ·have l4:k+1+k<l.length:=J;have aE:((l.length:Int)-1-(k:Nat)).toNat=l.length-1-k:=J;refine bp ?_;refine ee ag ?_;refine bF 0 I ag ag ag I (bD I) I ?_;refine bF 1 I ag ag ag I (bD I) I ?_;refine bF 2 I ag ag ag I (bD I) I ?_;refine bF 3 I ag ag ag I (bD I) I ?_;refine bF 4 I ag ag ag I (bD I) I ?_;refine bF 5 I ag ag ag I (bD I) I ?_;refine bF 6 I ag ag ag I (gr I I I I I (by first|(simp only [cR,cn,fJ];exact I)|exact I) J) I ?_;refine bF 8 I ag ag ag I (bD I) I ?_;refine bF 9 I ag ag ag I (bD I) I ?_;refine bF 10 I ag ag ag I (gr I I I I I (by first|(simp only [cR,cn,fJ];exact I)|exact I) J) I ?_;refine tR 20 (.ptr 0 (l.length-1-k) 0) I (aU.of_eq (by rw [aE])) ?_;have dS:l.length-1-k<(n0 l k).length:=J;have eP:k<(n0 l k).length:=J;apply tS [(0,.aC 0 0 l.length),(2,ah k),(3,.int .i64 ((l.length:Int)-1-k)),(14,.aC 0 0 l.length),(15,ah k),(16,.aC 0 0 l.length),(17,.int .i64 ((l.length:Int)-1-k)),(21,.str ((n0 l k).getD (l.length-1-k) [])),(25,.str ((n0 l k).getD k []))]
  ·intro fin;refine dV 7 11 ?_ ?_
   ·refine fS ?_;refine bn 11 ?_;refine fS ?_;exact fin _ aH
   ·refine fS ?_;refine bn 7 ?_;refine fS ?_;exact fin _ aH
  refine bF 12 I ag ag ag I (gr I I I I I (by first|(simp only [cR,cn,fJ];exact I)|exact I) J) I ?_;refine bn 13 ?_;refine cX ?_;refine bF 14 I ag ag ag I (gr I I I I I (by first|(simp only [cR,cn,fJ];exact I)|exact I) J) I ?_;refine tR 27 (.ptr 0 (l.length-1-k) 0) I (aU.of_eq (by rw [aE])) ?_;have nD:l.length-1-k<((n0 l k).set k ((n0 l k).getD (l.length-1-k) [])).length:=by simp;omega
  refine bn 15 ?_;refine cX ?_;refine dX ag (cX ?_);refine cc ⟨k+1,J,J,⟨I,I,?_,trivial⟩,?_⟩
  ·show some (ao.int .i64 _)=_;congr 2;omega
  ·show ([some ⟨_,.strs (((n0 l k).set k _).set (l.length-1-k) _)⟩]:aY)=_;rw [apA l l4]
 ·refine bl ?_;refine QR ar I ?_;rw [apz l J]
end Go.Proofs.YtmpnheilfejcpaaGreatDoor
namespace Go.Proofs
open Go.Shelf
def Tryz.Tp:Go.Shelf.Ren:=⟨fun|156=>242|165=>263|166=>264|169=>266|240=>275|241=>276|276=>283|277=>284|n=>n,fun|31=>302|9=>9|3=>3|4=>4|0=>0|20=>20|72=>321|76=>323|70=>319|37=>310|75=>268|127=>332|164=>346|5=>5|80=>252|n=>n,fun|n=>n⟩
theorem Tryz.To:Go.Proofs.Lays.n156 Tryz.prog Tryz.Tp:={
 mixed:=ag
 f156:=Tryz.func242.trans (congrArg some ag)
 f165:=Tryz.func263.trans (congrArg some ag)
 f166:=Tryz.func264.trans (congrArg some ag)
 f169:=Tryz.func266.trans (congrArg some ag)
 f240:=Tryz.func275.trans (congrArg some ag)
 f241:=Tryz.func276.trans (congrArg some ag)
 f276:=Tryz.func283.trans (congrArg some ag)
 f277:=Tryz.func284.trans (congrArg some ag)
 t0:=Tryz.underlying0
 a0:=Tryz.isAgg0
 z0:=Tryz.sizeOf0
 v0:=Tryz.zeroValue0
 t3:=Tryz.underlying3
 a3:=Tryz.isAgg3
 z3:=Tryz.sizeOf3
 v3:=Tryz.zeroValue3
 t4:=Tryz.underlying4
 a4:=Tryz.isAgg4
 z4:=Tryz.sizeOf4
 v4:=Tryz.zeroValue4
 t9:=Tryz.underlying9
 a9:=Tryz.isAgg9
 z9:=Tryz.sizeOf9
 v9:=Tryz.zeroValue9
 t20:=Tryz.underlying20
 a20:=Tryz.isAgg20
 z20:=Tryz.sizeOf20
 v20:=Tryz.zeroValue20
 t31:=Tryz.underlying302
 a31:=Tryz.isAgg302
 z31:=Tryz.sizeOf302
 v31:=Tryz.zeroValue302
 t37:=Tryz.underlying310
 a37:=Tryz.isAgg310
 z37:=Tryz.sizeOf310
 v37:=Tryz.zeroValue310
 t70:=Tryz.underlying319
 a70:=Tryz.isAgg319
 z70:=Tryz.sizeOf319
 v70:=Tryz.zeroValue319
 t72:=Tryz.underlying321
 a72:=Tryz.isAgg321
 z72:=Tryz.sizeOf321
 v72:=Tryz.zeroValue321
 t75:=Tryz.underlying268
 a75:=Tryz.isAgg268
 z75:=Tryz.sizeOf268
 v75:=Tryz.zeroValue268
 t76:=Tryz.underlying323
 a76:=Tryz.isAgg323
 z76:=Tryz.sizeOf323
 v76:=Tryz.zeroValue323
 t127:=Tryz.underlying332
 a127:=Tryz.isAgg332
 z127:=Tryz.sizeOf332
 v127:=Tryz.zeroValue332
 t164:=Tryz.underlying346
 a164:=Tryz.isAgg346
 z164:=Tryz.sizeOf346
 v164:=Tryz.zeroValue346}
theorem Tryz.QG:Builder.Extra Tryz.prog Tryz.Tp:={
 sizeBuilder:=ag
 liesBuilder:=ag
 t5:=Tryz.underlying5
 a5:=Tryz.isAgg5
 z5:=Tryz.sizeOf5
 v5:=Tryz.zeroValue5
 infoByte:=ag
 cellsByte:=ag
 sizeByte:=ag
 neB5:=by decide}
open Go.RowKit in
theorem Tryz.strings_Join_none (a:Option Addr)(c:Nat)(sep:ByteArray)(w:World):
 Calls Tryz.prog 242 #[.slice a 0 c,.string sep] w fun e w'=>e= .returned (.string ⟨#[]⟩)∧w'=w:=Any.strings_Join_none Tryz.To Tryz.QG a c sep w
open Go.RowKit in
theorem Tryz.strings_Join (Br o c:Nat)(xs:List ByteArray)(sep:ByteArray)(w:World)(En: ∀(j:Nat) x,xs[j]? =some x→w.cell? ⟨Br,o+j,none⟩=some (.string x))(LP:Br<w.heap.size)(jc:xs.length≤140737488355328)(kh:xs.length≤c)(hlen:(Lib.join (xs.map (·.data.toList)) sep.data.toList).length≤140737488355328):
 Calls Tryz.prog 242 #[.slice (some ⟨Br,o,none⟩) xs.length c,.string sep] w fun e w'=>e= .returned (.string ⟨(Lib.join (xs.map (·.data.toList)) sep.data.toList).toArray⟩)∧Below w.heap.size w w':=Any.strings_Join Tryz.To Tryz.QG Br o c xs sep w En LP jc kh hlen
def Tryz.ahe:Go.Shelf.Ren:=⟨fun|171=>239|243=>262|246=>274|283=>279|284=>280|285=>281|286=>282|129=>286|317=>285|318=>287|319=>288|320=>289|337=>290|338=>291|n=>n,fun|3=>3|9=>9|2=>2|4=>4|171=>341|0=>0|53=>265|37=>310|5=>5|173=>344|212=>350|51=>218|20=>20|213=>351|46=>200|232=>354|233=>355|n=>n,fun|17=>5|18=>6|19=>7|n=>n⟩
theorem Tryz.ahd:Go.Proofs.LaysM.n171 Tryz.prog Tryz.ahe:={
 mixed:=ag
 f129:=Tryz.func286.trans (congrArg some ag)
 f171:=Tryz.func239.trans (congrArg some ag)
 f243:=Tryz.func262.trans (congrArg some ag)
 f246:=Tryz.func274.trans (congrArg some ag)
 f283:=Tryz.func279.trans (congrArg some ag)
 f284:=Tryz.func280.trans (congrArg some ag)
 f285:=Tryz.func281.trans (congrArg some ag)
 f286:=Tryz.func282.trans (congrArg some ag)
 f317:=Tryz.func285.trans (congrArg some ag)
 f318:=Tryz.func287.trans (congrArg some ag)
 f319:=Tryz.func288.trans (congrArg some ag)
 f320:=Tryz.func289.trans (congrArg some ag)
 f337:=Tryz.func290.trans (congrArg some ag)
 f338:=Tryz.func291.trans (congrArg some ag)
 t0:=Tryz.underlying0
 a0:=Tryz.isAgg0
 z0:=Tryz.sizeOf0
 v0:=Tryz.zeroValue0
 t2:=Tryz.underlying2
 a2:=Tryz.isAgg2
 z2:=Tryz.sizeOf2
 v2:=Tryz.zeroValue2
 t3:=Tryz.underlying3
 a3:=Tryz.isAgg3
 z3:=Tryz.sizeOf3
 v3:=Tryz.zeroValue3
 t4:=Tryz.underlying4
 a4:=Tryz.isAgg4
 z4:=Tryz.sizeOf4
 v4:=Tryz.zeroValue4
 t5:=Tryz.underlying5
 a5:=Tryz.isAgg5
 z5:=Tryz.sizeOf5
 v5:=Tryz.zeroValue5
 t9:=Tryz.underlying9
 a9:=Tryz.isAgg9
 z9:=Tryz.sizeOf9
 v9:=Tryz.zeroValue9
 t20:=Tryz.underlying20
 a20:=Tryz.isAgg20
 z20:=Tryz.sizeOf20
 v20:=Tryz.zeroValue20
 t37:=Tryz.underlying310
 a37:=Tryz.isAgg310
 z37:=Tryz.sizeOf310
 v37:=Tryz.zeroValue310
 t46:=Tryz.underlying200
 a46:=Tryz.isAgg200
 z46:=Tryz.sizeOf200
 v46:=Tryz.zeroValue200
 t51:=Tryz.underlying218
 a51:=Tryz.isAgg218
 z51:=Tryz.sizeOf218
 v51:=Tryz.zeroValue218
 t53:=Tryz.underlying265
 a53:=Tryz.isAgg265
 z53:=Tryz.sizeOf265
 v53:=Tryz.zeroValue265
 t171:=Tryz.underlying341
 a171:=Tryz.isAgg341
 z171:=Tryz.sizeOf341
 v171:=Tryz.zeroValue341
 t173:=Tryz.underlying344
 a173:=Tryz.isAgg344
 z173:=Tryz.sizeOf344
 v173:=Tryz.zeroValue344
 t212:=Tryz.underlying350
 a212:=Tryz.isAgg350
 z212:=Tryz.sizeOf350
 v212:=Tryz.zeroValue350
 t213:=Tryz.underlying351
 a213:=Tryz.isAgg351
 z213:=Tryz.sizeOf351
 t232:=Tryz.underlying354
 a232:=Tryz.isAgg354
 z232:=Tryz.sizeOf354
 v232:=Tryz.zeroValue354
 t233:=Tryz.underlying355
 a233:=Tryz.isAgg355
 z233:=Tryz.sizeOf355
 v233:=Tryz.zeroValue355
 g17:=ag
 g18:=ag
 g19:=ag
 i0:=ag
 i2:=ag
 i3:=ag
 i4:=ag
 i5:=ag
 i9:=ag
 i20:=ag
 i37:=ag
 i46:=ag
 i51:=ag
 i53:=ag
 i171:=ag
 i173:=ag
 i212:=ag
 i232:=ag
 i233:=ag
 m17:=ag
 m18:=ag
 m19:=by kernel_rfl}
open Go.RowKit Go.Sort Go.Lib in
theorem Tryz.strconv_Itoa (n:Int)(aM: -9223372036854775808≤n)(U:n≤9223372036854775807)(w:World)(MG:Lib.TabIs Tryz.prog w "internal/strconv.uint64pow10" .u64 Lib.pow10Tab):
 Calls Tryz.prog 239 #[.int .i64 n] w fun e w'=>e= .returned (.string ⟨(Lib.itoa n).toArray⟩)∧ ∃k os,w'=grow (w.drewN k) os:=Any.strconv_Itoa Tryz.ahd n aM U w MG
def Tryz.ahg:Go.Shelf.Ren:=⟨fun|14=>199|16=>227|17=>228|19=>251|20=>252|21=>253|22=>254|23=>255|24=>256|25=>269|27=>239|26=>270|28=>262|29=>274|30=>279|31=>280|32=>281|33=>282|35=>286|34=>285|36=>287|37=>288|38=>289|39=>290|40=>291|n=>n,fun|9=>9|3=>3|22=>265|24=>268|25=>269|4=>4|34=>308|5=>5|36=>200|37=>310|0=>0|39=>311|21=>21|44=>328|47=>332|50=>335|48=>333|2=>2|52=>341|55=>344|59=>350|60=>218|20=>20|61=>351|65=>354|66=>355|67=>252|n=>n,fun|0=>1|1=>2|2=>5|3=>6|4=>7|n=>n⟩
theorem Tryz.ahf:Go.Proofs.LaysPu.n14 Tryz.prog Tryz.ahg:={
 mixed:=ag
 f14:=Tryz.func199.trans (congrArg some ag)
 f16:=Tryz.func227.trans (congrArg some ag)
 f17:=Tryz.func228.trans (congrArg some ag)
 f19:=Tryz.func251.trans (congrArg some ag)
 f20:=Tryz.func252.trans (congrArg some ag)
 f21:=Tryz.func253.trans (congrArg some ag)
 f22:=Tryz.func254.trans (congrArg some ag)
 f23:=Tryz.func255.trans (congrArg some ag)
 f24:=Tryz.func256.trans (congrArg some ag)
 f25:=Tryz.func269.trans (congrArg some ag)
 f26:=Tryz.func270.trans (congrArg some ag)
 f27:=Tryz.func239.trans (congrArg some ag)
 f28:=Tryz.func262.trans (congrArg some ag)
 f29:=Tryz.func274.trans (congrArg some ag)
 f30:=Tryz.func279.trans (congrArg some ag)
 f31:=Tryz.func280.trans (congrArg some ag)
 f32:=Tryz.func281.trans (congrArg some ag)
 f33:=Tryz.func282.trans (congrArg some ag)
 f34:=Tryz.func285.trans (congrArg some ag)
 f35:=Tryz.func286.trans (congrArg some ag)
 f36:=Tryz.func287.trans (congrArg some ag)
 f37:=Tryz.func288.trans (congrArg some ag)
 f38:=Tryz.func289.trans (congrArg some ag)
 f39:=Tryz.func290.trans (congrArg some ag)
 f40:=Tryz.func291.trans (congrArg some ag)
 t0:=Tryz.underlying0
 a0:=Tryz.isAgg0
 z0:=Tryz.sizeOf0
 v0:=Tryz.zeroValue0
 i0:=ag
 t2:=Tryz.underlying2
 a2:=Tryz.isAgg2
 z2:=Tryz.sizeOf2
 v2:=Tryz.zeroValue2
 i2:=ag
 t3:=Tryz.underlying3
 a3:=Tryz.isAgg3
 z3:=Tryz.sizeOf3
 v3:=Tryz.zeroValue3
 i3:=ag
 t4:=Tryz.underlying4
 a4:=Tryz.isAgg4
 z4:=Tryz.sizeOf4
 v4:=Tryz.zeroValue4
 i4:=ag
 t5:=Tryz.underlying5
 a5:=Tryz.isAgg5
 z5:=Tryz.sizeOf5
 v5:=Tryz.zeroValue5
 i5:=ag
 t9:=Tryz.underlying9
 a9:=Tryz.isAgg9
 z9:=Tryz.sizeOf9
 v9:=Tryz.zeroValue9
 i9:=ag
 t20:=Tryz.underlying20
 a20:=Tryz.isAgg20
 z20:=Tryz.sizeOf20
 v20:=Tryz.zeroValue20
 i20:=ag
 t21:=Tryz.underlying21
 a21:=Tryz.isAgg21
 z21:=Tryz.sizeOf21
 v21:=Tryz.zeroValue21
 i21:=ag
 t22:=Tryz.underlying265
 a22:=Tryz.isAgg265
 z22:=Tryz.sizeOf265
 v22:=Tryz.zeroValue265
 i22:=ag
 t24:=Tryz.underlying268
 a24:=Tryz.isAgg268
 z24:=Tryz.sizeOf268
 v24:=Tryz.zeroValue268
 i24:=ag
 t25:=Tryz.underlying269
 a25:=Tryz.isAgg269
 z25:=Tryz.sizeOf269
 v25:=Tryz.zeroValue269
 i25:=ag
 t34:=Tryz.underlying308
 a34:=Tryz.isAgg308
 z34:=Tryz.sizeOf308
 v34:=Tryz.zeroValue308
 i34:=ag
 c34:=ag
 t36:=Tryz.underlying200
 a36:=Tryz.isAgg200
 z36:=Tryz.sizeOf200
 v36:=Tryz.zeroValue200
 i36:=ag
 t37:=Tryz.underlying310
 a37:=Tryz.isAgg310
 z37:=Tryz.sizeOf310
 v37:=Tryz.zeroValue310
 i37:=ag
 t39:=Tryz.underlying311
 a39:=Tryz.isAgg311
 z39:=Tryz.sizeOf311
 v39:=Tryz.zeroValue311
 i39:=ag
 t44:=Tryz.underlying328
 a44:=Tryz.isAgg328
 z44:=Tryz.sizeOf328
 v44:=Tryz.zeroValue328
 i44:=ag
 t47:=Tryz.underlying332
 a47:=Tryz.isAgg332
 z47:=Tryz.sizeOf332
 v47:=Tryz.zeroValue332
 i47:=ag
 t48:=Tryz.underlying333
 a48:=Tryz.isAgg333
 z48:=Tryz.sizeOf333
 v48:=Tryz.zeroValue333
 i48:=ag
 t50:=Tryz.underlying335
 a50:=Tryz.isAgg335
 z50:=Tryz.sizeOf335
 v50:=Tryz.zeroValue335
 i50:=ag
 t52:=Tryz.underlying341
 a52:=Tryz.isAgg341
 z52:=Tryz.sizeOf341
 v52:=Tryz.zeroValue341
 i52:=ag
 t55:=Tryz.underlying344
 a55:=Tryz.isAgg344
 z55:=Tryz.sizeOf344
 v55:=Tryz.zeroValue344
 i55:=ag
 t59:=Tryz.underlying350
 a59:=Tryz.isAgg350
 z59:=Tryz.sizeOf350
 v59:=Tryz.zeroValue350
 i59:=ag
 t60:=Tryz.underlying218
 a60:=Tryz.isAgg218
 z60:=Tryz.sizeOf218
 v60:=Tryz.zeroValue218
 i60:=ag
 t61:=Tryz.underlying351
 a61:=Tryz.isAgg351
 z61:=Tryz.sizeOf351
 t65:=Tryz.underlying354
 a65:=Tryz.isAgg354
 z65:=Tryz.sizeOf354
 v65:=Tryz.zeroValue354
 i65:=ag
 t66:=Tryz.underlying355
 a66:=Tryz.isAgg355
 z66:=Tryz.sizeOf355
 v66:=Tryz.zeroValue355
 i66:=ag
 t67:=Tryz.underlying252
 a67:=Tryz.isAgg252
 z67:=Tryz.sizeOf252
 v67:=Tryz.zeroValue252
 i67:=ag
 g0:=ag
 m0:=ag
 g1:=ag
 m1:=ag
 g2:=ag
 m2:=ag
 g3:=ag
 m3:=ag
 g4:=ag
 m4:=by kernel_rfl}
open Go.RowKit in
theorem Tryz.strconv_ParseUint_10_at32_ok (s:ByteArray)(x8:s.size≤9223372036854775806)(u:Nat)(h:Lib.parseUintB 32 s.data.toList= .ok u)(w:World):
 Calls Tryz.prog 199 #[.string s,.int .i64 10,.int .i64 32] w fun e w'=>e= .returned (.tuple #[.int .u64 u,.nilIface])∧(w'=w∨w'=Lib.bytesWorld w 5 s):=Any.strconv_ParseUint_10_at32_ok Tryz.ahf s x8 u h w
def Tryz.ahc:Go.Shelf.Ren:=⟨fun|212=>189|263=>218|264=>219|n=>n,fun|46=>200|51=>218|146=>283|53=>265|148=>285|n=>n,fun|n=>n⟩
theorem Tryz.ahb:Go.Proofs.Lays.n212 Tryz.prog Tryz.ahc:={
 mixed:=ag
 f212:=Tryz.func189.trans (congrArg some ag)
 f263:=Tryz.func218.trans (congrArg some ag)
 f264:=Tryz.func219.trans (congrArg some ag)
 t46:=Tryz.underlying200
 a46:=Tryz.isAgg200
 z46:=Tryz.sizeOf200
 v46:=Tryz.zeroValue200
 t51:=Tryz.underlying218
 a51:=Tryz.isAgg218
 z51:=Tryz.sizeOf218
 v51:=Tryz.zeroValue218
 t53:=Tryz.underlying265
 a53:=Tryz.isAgg265
 z53:=Tryz.sizeOf265
 v53:=Tryz.zeroValue265
 t146:=Tryz.underlying283
 a146:=Tryz.isAgg283
 z146:=Tryz.sizeOf283
 v146:=Tryz.zeroValue283
 t148:=Tryz.underlying285
 a148:=Tryz.isAgg285
 z148:=Tryz.sizeOf285
 v148:=Tryz.zeroValue285}
open Go.RowKit Go.Lib in
theorem Tryz.bits_Mul (x y:Nat)(al:x<18446744073709551616)(a1:y<18446744073709551616)(w:World):
 Calls Tryz.prog 189 #[.int .u64 x,.int .u64 y] w fun e w'=>e= .returned (.tuple #[.int .u64 ((x*y/18446744073709551616:Nat):Int),.int .u64 ((x*y%18446744073709551616:Nat):Int)])∧w'=w:=Any.bits_Mul Tryz.ahb x y al a1 w
end Go.Proofs
namespace Go.Proofs.YtmpnheilfejcpaaGreatDoor
open Go.aj Go.aj.dh Go.RowKit
theorem amx (w:World)(q:Nat)(os:Array Obj):Below w.heap.size w (Go.Sort.grow (w.drewN q) os):=by
 refine ⟨I,I,I,?_,fun k an=> ?_⟩
 ·show w.heap.size≤(w.heap++os).size;simp
 ·show (w.heap++os)[k]? =w.heap[k]?;rw [GN an]
theorem alg {w:World}{S:Nat→Prop}{σ:Nat→Option bP}{a:ao}{dH:Array Value}(af:pH w S σ [a] dH): ∃x,dH= #[x]∧bz w S σ a x:=by
 obtain ⟨U,ab⟩:=af;have q:=ab 0 b1;have au:dH.toList.length=1:=by simpa using U
 match aA:dH.toList,au with
 |[x],_=>
  have e:dH= #[x]:=by rw [←DL (xs:=dH),aA]
  subst e;exact ⟨x,I,by simpa using q⟩
theorem Uv {w:World}{S:Nat→Prop}{σ:Nat→Option bP}{a b:ao}{dH:Array Value}(af:pH w S σ [a,b] dH): ∃x y,dH= #[x,y]∧bz w S σ a x∧bz w S σ b y:=by
 obtain ⟨U,ab⟩:=af;have q:=ab 0 b1;have bQ:=ab 1 b1;have au:dH.toList.length=2:=by simpa using U
 match aA:dH.toList,au with
 |[x,y],_=>
  have e:dH= #[x,y]:=by rw [←DL (xs:=dH),aA]
  subst e;exact ⟨x,y,I,by simpa using q,by simpa using bQ⟩
theorem alh {w:World}{S:Nat→Prop}{σ:Nat→Option bP}{a b c:ao}{dH:Array Value}(af:pH w S σ [a,b,c] dH): ∃x y z,dH= #[x,y,z]∧bz w S σ a x∧bz w S σ b y∧bz w S σ c z:=by
 obtain ⟨U,ab⟩:=af;have q:=ab 0 b1;have bQ:=ab 1 b1;have bX:=ab 2 b1;have au:dH.toList.length=3:=by simpa using U
 match aA:dH.toList,au with
 |[x,y,z],_=>
  have e:dH= #[x,y,z]:=by rw [←DL (xs:=dH),aA]
  subst e;exact ⟨x,y,z,I,by simpa using q,by simpa using bQ,by simpa using bX⟩
theorem itoa (n:Int)(h: -9223372036854775808≤n∧n≤9223372036854775807):br Tryz.prog 239 [.int .i64 n] (.str (Lib.itoa n)):=by
 refine br.It ⟨Tryz.f239,I,ag,I⟩ I I (fun w S dH dL dm af=> ?_);obtain ⟨x,rfl,a⟩:=alg af;have al:x= .int .i64 n:=by cases a;rfl
 subst al;have aD:Ce w:=dL;refine (Tryz.strconv_Itoa n h.1 h.2 w aD.2.1).mono ?_;rintro e w' ⟨rfl,k,os,rfl⟩;exact ⟨_,I,amx w k os,.str _ _⟩
theorem agQ (n:Nat)(h:n≤9223372036854775807):br Tryz.prog 239 [ah n] (.str (Lib.decDigits n)):=by
 have:=itoa n ⟨J,J⟩
 rwa [Go.aj.sb.agR] at this
theorem Tx (a b:Nat)(aW:a<18446744073709551616)(ak:b<18446744073709551616):br Tryz.prog 189 [.int .u64 (a:Nat),.int .u64 (b:Nat)] (.ck [.int .u64 (a*b/18446744073709551616:Nat),.int .u64 (a*b%18446744073709551616:Nat)]):=by
 refine br.It ⟨Tryz.f189,I,ag,I⟩ I I (fun w S dH dL dm af=> ?_);obtain ⟨x,y,rfl,p,q⟩:=Uv af;have al:x= .int .u64 (a:Nat):=by cases p;rfl
 have a1:y= .int .u64 (b:Nat):=by cases q;rfl
 subst al a1;refine (Tryz.bits_Mul a b aW ak w).mono ?_;rintro e w' ⟨rfl,rfl⟩;refine ⟨_,I,Below.refl _ _,.ck _ _ _ I (fun i aa=> ?_)⟩
 match i,aa with
 |0,_=>exact .int _ _ _
 |1,_=>exact .int _ _ _
theorem aiw (s:List UInt8)(u:Nat)(au:s.length≤1000)(h:Lib.parseUintB 32 s= .ok u):br Tryz.prog 199 [.str s,.int .i64 10,.int .i64 32] (.ck [.int .u64 (u:Nat),.ov]):=by
 refine br.It ⟨Tryz.f199,I,ag,I⟩ I I (fun w S dH dL dm af=> ?_);obtain ⟨x,y,z,rfl,p,q,r⟩:=alh af;have al:x=pD s:=by cases p;rfl
 have a1:y= .int .i64 10:=by cases q;rfl
 have bB:z= .int .i64 32:=by cases r;rfl
 subst al a1 bB;have hd:(⟨s.toArray⟩:ByteArray).data.toList=s:=b1;have cy:(⟨s.toArray⟩:ByteArray).size=s.length:=by simp [ByteArray.size]
 refine (Tryz.strconv_ParseUint_10_at32_ok ⟨s.toArray⟩ (by rw [cy];omega) u (by rw [hd];exact h) w).mono ?_;rintro e w' ⟨rfl,hw⟩;refine ⟨_,I,?_,.ck _ _ _ I (fun i aa=> ?_)⟩
 ·rcases hw with rfl|rfl
  ·exact Below.refl _ _
  ·exact Lib.bytesWorld_below _ _ _
 ·match i,aa with
  |0,_=>exact .int _ _ _
  |1,_=>exact .ov _
theorem join (ls:List (List UInt8))(sep:List UInt8)(jc:ls.length≤140737488355328)(ae:(Lib.join ls sep).length≤140737488355328):br Tryz.prog 242 [.ro (.strs ls) 0 ls.length,.str sep] (.str (Lib.join ls sep)):=by
 refine br.It ⟨Tryz.f242,I,ag,I⟩ I I (fun w S dH dL dm af=> ?_);obtain ⟨x,y,rfl,a,b⟩:=Uv af;have a1:y=pD sep:=by cases b;rfl
 subst a1;have SV:(⟨sep.toArray⟩:ByteArray).data.toList=sep:=b1;have aqJ: ∀l:List UInt8,(⟨l.toArray⟩:ByteArray).data.toList=l:=fun l=>by simp
 generalize aG:ls.length=n at a;cases a with
 |ko _ _ _ jD cap=>
  have:ls=[]:=v8.mp aG;subst this;refine (Tryz.strings_Join_none jD cap ⟨sep.toArray⟩ w).mono ?_;rintro e w' ⟨rfl,rfl⟩;exact ⟨_,I,Below.refl _ _,.str _ []⟩
 |ro _ _ _ _ Br o cap val fs hlen av iy gF=>
  subst aG;have tE:(ls.map (fun l=>(⟨l.toArray⟩:ByteArray))).length=ls.length:=b1;have c:=Tryz.strings_Join Br o cap (ls.map (fun l=>(⟨l.toArray⟩:ByteArray))) ⟨sep.toArray⟩ w (fun j x al=> ?_) (dm _ fs) (by simpa using jc) (by simpa using hlen) ?_
  ·rw [tE] at c;refine c.mono ?_;rintro e w' ⟨rfl,ak⟩;have aF:((ls.map (fun l=>(⟨l.toArray⟩:ByteArray))).map (fun x=>x.data.toList))=ls:=by rw [tg];exact (k8 (fun x _=>rfl)).trans (zv _)
   rw [aF,SV];exact ⟨_,I,ak,.str _ _⟩
  ·simp only [lB,GU] at al;obtain ⟨l,au,rfl⟩:=al;have bG:j<ls.length:=(gZ.1 au).1;have q:=av j 0 bG (by simp [Cells.aI]);have v:=iy j 0 bG (by simp [Cells.aI]);simp only [Cells.aI,rf,fg] at q;simp only [Cells.at,cR,List.getD,au,pR] at v;rw [q];generalize val j 0=z at v;cases v;rfl
  ·have aF:((ls.map (fun l=>(⟨l.toArray⟩:ByteArray))).map (fun x=>x.data.toList))=ls:=by rw [tg];exact (k8 (fun x _=>rfl)).trans (zv _)
   rw [aF,SV];exact ae
end Go.Proofs.YtmpnheilfejcpaaGreatDoor
namespace Go.Proofs.YtmpnheilfejcpaaGreatDoor
open Go.aj Go.aj.dh Go.RowKit
attribute [local irreducible] aj eD bZ cm
def q2 (s p:List UInt8):Bool:=decide (p.length≤s.length∧s.take p.length=p)
theorem Zo (s p:List UInt8)(az:s.length≤9223372036854775807)(aD:p.length≤9223372036854775807):br Tryz.prog 225 [.str s,.str p] (.bool (q2 s p)):=by
 refine cg Tryz.f225 fun c ar bJ=> ?_;refine fe ?_;refine hg I I (fun aM=> ?_) (fun aM=> ?_)
 ·refine iq ?_;refine aZ ar I ?_;show ao.bool (decide ((List.drop _ s).take _=p))=_;unfold q2;congr 1;rw [tc];simp only [fJ,tb,cn,xG];exact ⟨fun h=>⟨J,h⟩,fun h=>h.2⟩
 ·refine bf ?_;refine aZ ar I ?_;show ao.bool false=_;unfold q2;rw [fP];exact fun h=>aM J
theorem Kp (s p:List UInt8)(az:s.length≤9223372036854775807)(aD:p.length≤9223372036854775807):br Tryz.prog 245 [.str s,.str p] (.bool (q2 s p)):=by have av:=Zo s p az aD;refine cg Tryz.f245 fun c ar bJ=> ?_;generalize q2 s p=b at*;refine bE ?_;refine aL I I I av (bE ?_);exact aZ ar I I
theorem ajv (n:Nat)(aG:n≤60):br Tryz.prog 240 [.str [48],ah n] (.str (List.replicate n 48)):=by
 refine cg Tryz.f240 fun c ar bJ=> ?_;refine bh ?_;refine bw I (fun aM=> ?_) (fun aM=> ?_)
 ·have:n=0:=J;subst this;refine bf ?_;exact aZ ar I I
 refine bh ?_;refine bw I (fun U=> ?_) (fun U=> ?_)
 ·have:n=1:=J;subst this;refine bf ?_;exact aZ ar I I
 refine bf ?_;have hm:=Tx 1 n J J;rw [qt,oR J,ny J] at hm;have c4:br Tryz.prog 245 [.str (List.replicate 128 32),.str [48]] (.bool false):=Kp _ _ aT aT;have fv:br Tryz.prog 245 [.str (List.replicate 128 45),.str [48]] (.bool false):=Kp _ _ aT aT;have mD:br Tryz.prog 245 [.str (List.replicate 64 48),.str [48]] (.bool true):=Kp _ _ aT aT;refine aq (gU (m:=1) I I I eW aT) ?_;repeat (refine aq (bD rfl) ?_)
 refine aq (gU (m:=n) I I I eW J) ?_;refine aL I I I hm (bf ?_);refine bw I (fun h=>absurd h J) (fun h=> ?_);refine bp ?_;refine aq (AK (m:=n) I I I J) (u5 ?_);refine hg I I (fun ay=> ?_) (fun ay=>absurd (show (n:Int)≤128 by omega) ay);refine dy ?_;refine aL I I I c4 (fe ?_);refine hg I I (fun bc=> ?_) (fun bc=>absurd (show (n:Int)≤128 by omega) bc);refine dy ?_;refine aL I I I fv (fe ?_);refine hg I I (fun bI=> ?_) (fun bI=>absurd (show (n:Int)≤64 by omega) bI);refine dy ?_;refine aL I I I mD (bl ?_);refine aq (CF I I I I I I (by show (0:Int)≤0∧(0:Int)≤(n:Nat)∧((n:Nat):Int)≤((64:Nat):Int);omega)) (bf ?_);refine aZ ar I ?_;show ao.str ((List.drop 0 (List.replicate 64 48)).take (n-0))=_;rw [tb,xG,List.take_replicate,hX J]
def kz (k:Nat):List ao:=(List.range 256).map fun j=>ao.bool (decide (48≤j∧j<48+k))
theorem sM (k:Nat):(kz k).length=256:=by unfold kz;simp
theorem Ku (k j:Nat)(ae:j<256):(kz k)[j]? =some (ao.bool (decide (48≤j∧j<48+k))):=by unfold kz;rw [lB,vW ae];rfl
theorem ajL (k:Nat)(an:k<10):(kz k).set (48+k) (.bool true)=kz (k+1):=by
 apply List.ext_getElem?;intro i;rcases gA i 256 with aa|aa
 ·rw [Ku (k+1) i aa];by_cases h:i=48+k
  ·subst h;rw [oP (by rw [sM];exact aa)];congr 2;exact (eG J).symm
  ·rw [lW (ra h),Ku k i aa];congr 2;rw [tc];omega
 ·rw [kD (by rw [da,sM];exact aa),kD (by rw [sM];exact aa)]
def D2:List UInt8:=[48,49,50,51,52,53,54,55,56,57]
theorem Y4 (k:Nat)(an:k<10):(D2.getD k 0).toNat=48+k:=by have:k=0∨k=1∨k=2∨k=3∨k=4∨k=5∨k=6∨k=7∨k=8∨k=9:=J;rcases this with rfl|rfl|rfl|rfl|rfl|rfl|rfl|rfl|rfl|rfl<;>rfl
theorem aaR (l:List ao):(List.range (Cells.box l).aI).map ((Cells.box l).at 0)=l:=by
 apply List.ext_getElem?;intro i;rcases gA i l.length with h|h
 ·rw [lB,vW (by exact h)];show some (l.getD i .any)=_;rw [List.getD,n8 h];rfl
 ·rw [kD (by simpa [Cells.aI] using h),kD h]
theorem ajM:br Tryz.prog 231 [.str D2] (.ck [.agg (kz 10),.bool true]):=by
 refine cm.sD (hx (P:=Tryz.prog) (fn:=Tryz.f231) I I ag I (fun c ar bJ=> ?_)) (fix:=fun _=>False) (fun _ h=>h) I ag;refine bh ?_;refine jv [some ⟨296,.box (kz 0)⟩] ag ?_;refine cF (ι:=Nat) (fun k=>[(0,.str D2),(2,.ptr 0 0 0),(4,ah k)]) (fun k=>[some ⟨296,.box (kz k)⟩]) (fun k=>k≤10) (fun k=>10-k) 0 ⟨aH,I,J⟩ ?_;rintro k an;have o3:D2.length=10:=rfl;refine bf ?_;refine bw I (fun U=> ?_) (fun U=> ?_)
 ·have l4:k<10:=J;refine u5 ?_;refine bw I (fun ab=>absurd ab (by rw [cn,Y4 k l4];omega)) (fun ab=> ?_);refine bp ?_;refine bR 18 (.int .u8 (48+k:Nat)) I (aU.of_eq (by rw [cn,Y4 k l4])) ?_;refine aq (U2 (m:=((48+k:Nat):Int)) (rD:=48+k) I I I I (by rw [cn,cR]) J) ?_;refine lL I I I I I (by rw [show (Cells.box (kz k)).aI=256 from sM k];exact Nat.ble_eq.symm▸(by omega:48+k+1≤256)) I fx (bl ?_);refine cc ⟨k+1,J,J,aH,?_⟩;show ([some ⟨_,.box ((kz k).set (48+k) (.bool true))⟩]:aY)=_;rw [ajL k l4]
 ·have kk:k=10:=J;subst kk;refine bl ?_;refine aq (UT (bg:=⟨296,.box (kz 10)⟩) I I I (sM 10).symm I I (aaR _) fx) ?_;refine eN (c':= .box (kz 10)) I I (by rw [show (Cells.box (kz 10)).aI=256 from sM 10];rfl) I (by rw [show (Cells.box (kz 10)).aI=256 from sM 10];exact sM 10) fx I I (fun aK ba aQ bd=> ?_) ?_
  ·rw [aB (ft.1 aQ)];rfl
  refine bE ?_;exact aZ ar I I
theorem Vg (gd:UInt8):br Tryz.prog 257 [.cK (.box (kz 10)) 0 0,.int .u8 (gd.toNat:Nat)] (.bool (dg gd)):=by have bG:=gd.toNat_lt;have hN:=Ku 10 gd.toNat (by simpa using bG);refine cg Tryz.f257 fun c ar bJ=> ?_;refine u7 ?_;refine aq (Jo (m:=((gd.toNat:Nat):Int)) (rD:=gd.toNat) I I I I (by rw [cn,cR]) J) ?_;refine aq (lq I I I hN) (bE ?_);exact aZ ar I I
theorem ajx (s:List UInt8)(az:s.length≤9223372036854775807):br Tryz.prog 233 [.str s,.cK (.box (kz 10)) 0 0] (.str (vc s)):=by
 refine cg Tryz.f233 fun c ar bJ=> ?_;refine bp ?_;refine cF (ι:=Nat) (fun k=>[(0,.str (s.take k)),(1,.cK (.box (kz 10)) 0 0)]) (fun _=>[]) (fun k=>k≤s.length∧(s.drop k).all dg=true) (fun k=>k) s.length ⟨⟨by rw [fO];rfl,I,trivial⟩,I,bN _,b1⟩ ?_;rintro k ⟨an,hd⟩;have hlen:(s.take k).length=k:=by simp;omega
 have EF:=akX an hd;refine bf ?_;refine bw I (fun U=> ?_) (fun U=> ?_)
 ·have pY:0<k:=J;have c9:(s.take k).getD (k-1) 0=s.getD (k-1) 0:=by simp only [List.getD,qs,show k-1<k by omega,gg]
  have aE:((k:Int)-1).toNat=k-1:=J;have av:=Vg (s.getD (k-1) 0);refine Nk ?_;refine bR 13 (.int .u8 ((s.getD (k-1) 0).toNat:Nat)) I (aU.of_eq (by rw [hlen,aE,c9])) ?_;refine aL I I I av (bl ?_);refine vx I (fun ab=> ?_) (fun ab=> ?_)
  ·have ay:dg (s.getD (k-1) 0)=false:=by simpa using ab
   refine u6 ?_;refine aZ ar I ?_;rw [EF (.inr ay)];rfl
  ·have ay:dg (s.getD (k-1) 0)=true:=by simpa using ab
   refine fe ?_;refine aq (CF I I I I I I J) (bl ?_);refine cc ⟨k-1,⟨J,?_⟩,J,⟨?_,I,trivial⟩,I⟩
   ·rw [tV s 0 (k-1) J,show k-1+1=k by omega,zq,ay,hd];rfl
   ·show some (ao.str ((List.drop 0 (s.take k)).take ((((s.take k).length:Int)-1).toNat-0)))=_;rw [tb,hlen,aE,xG,List.take_take,hX J]
 ·have ru:k=0:=J;subst ru;refine bl ?_;refine aZ ar I ?_;rw [EF (.inl rfl)];rfl
theorem ahm (s:List UInt8)(az:s.length≤9223372036854775807):br Tryz.prog 232 [.str s,.cK (.box (kz 10)) 0 0] (.str (Ao s)):=by
 refine cg Tryz.f232 fun c ar bJ=> ?_;refine bp ?_;refine cF (ι:=Nat) (fun k=>[(0,.str (s.drop k)),(1,.cK (.box (kz 10)) 0 0)]) (fun _=>[]) (fun k=>k≤s.length∧(s.take k).all dg=true) (fun k=>s.length-k) 0 ⟨⟨by rw [tb];rfl,I,trivial⟩,I,cj _,b1⟩ ?_;rintro k ⟨an,hd⟩;have hlen:(s.drop k).length=s.length-k:=b1;have EF:=akV hd;refine bf ?_;refine bw I (fun U=> ?_) (fun U=> ?_)
 ·have pY:k<s.length:=J;have c9:(s.drop k).getD 0 0=s.getD k 0:=by simp [List.getD]
  have av:=Vg (s.getD k 0);refine u5 ?_;refine bR 10 (.int .u8 ((s.getD k 0).toNat:Nat)) I (aU.of_eq (by rw [fJ,c9])) ?_;refine aL I I I av (bl ?_);refine vx I (fun ab=> ?_) (fun ab=> ?_)
  ·have ay:dg (s.getD k 0)=false:=by simpa using ab
   refine u6 ?_;refine aZ ar I ?_;rw [EF (.inr ay)];rfl
  ·have ay:dg (s.getD k 0)=true:=by simpa using ab
   refine bp ?_;refine aq (CF I I I I I I J) (bl ?_);refine cc ⟨k+1,⟨J,?_⟩,J,⟨?_,I,trivial⟩,I⟩
   ·rw [rL s 0 k pY,List.all_append,hd];simp only [zq,List.all_nil,ay,Bool.and_true]
   ·show some (ao.str ((List.drop 1 (s.drop k)).take ((s.drop k).length-1)))=_;rw [List.drop_drop,kd (by simp;omega)]
 ·have ru:s.length≤k:=J;refine bl ?_;refine aZ ar I ?_;rw [EF (.inl ru)];rfl
theorem akY (s:List UInt8)(az:s.length≤9223372036854775807):br Tryz.prog 202 [.str s,.str D2] (.str (Ao (vc s))):=by
 have U:=ajM;have ab:=ajx s az;have hle:(vc s).length≤s.length:=by unfold vc;rw [List.length_reverse];have:=(List.dropWhile_sublist (p:=dg) (l:=s.reverse)).length_le;simpa using this
 have ay:=ahm (vc s) J;refine cg Tryz.f202 fun c ar bJ=> ?_;have au:=sM 10;refine bf ?_;by_cases aM:s=[]
 ·subst aM;refine bf ?_;exact aZ ar I I
 rw [show decide (s=_)=false from fP aM];refine bf ?_;refine aL I I I U (bh ?_);refine eN (c':= .box (kz 10)) I I I I (sM 10) fx I (sM 10) (fun aK ba aQ bd=> ?_) ?_
 ·rw [aB (ft.1 aQ)];rfl
 refine bl ?_;have fk: ∀(h:Nat) (o:bm),([some ⟨296,.box (kz 10)⟩]:aY)[h]? =some (some o)→e5 o.c:=vG (fun i j aa ae=>by
  show c2 ((kz 10).getD j .any)=true;rw [List.getD,Ku 10 j (by have:j<(kz 10).length:=ae;rwa [sM] at this)];rfl)
 refine dA [some ⟨296,.box (kz 10)⟩] I ?_;refine JU rfl rfl rfl rfl ab fk ⟨trivial,fun o ai=>by simp at ai;subst ai;exact fx,trivial⟩ rfl rfl rfl ?_;skip
 refine JU rfl rfl rfl rfl ay fk ⟨trivial,fun o ai=>by simp at ai;subst ai;exact fx,trivial⟩ rfl rfl rfl (dy ?_);exact aZ ar I I
end Go.Proofs.YtmpnheilfejcpaaGreatDoor
namespace Go.Proofs.YtmpnheilfejcpaaGreatDoor
open Go.aj Go.aj.dh Go.RowKit
open Go.aj.sb (jP yL yC vm)
attribute [local irreducible] aj eD bZ cm
theorem Zm {i:Nat}(h:i≤9):10^i≤1000000000:=by have:=fN (show 0<10 by decide) h;exact dU this aT
theorem Ks (S:List UInt8)(hd: ∀c∈S,jP c)(au:S.length≤1000000):br Tryz.prog 151 [.str S] (bA (ep 0 S)):=by
 refine cg Tryz.f151 fun c ar bJ=> ?_;refine bE ?_;refine ea 3 (bA 0) I aU.Nb ?_;refine fV ?_;refine cF (ι:=Nat×List UInt8) (fun p=>[(0,.str p.2),(3,bA p.1)]) (fun _=>[]) (fun p=>p.2.length≤S.length∧(∀c∈p.2,jP c)∧ep p.1 p.2=ep 0 S∧p.1<10^(S.length-p.2.length)) (fun p=>p.2.length) (0,S) ⟨aH,I,bN _,hd,I,b1⟩ ?_;rintro ⟨v,s⟩ ⟨U,ab,ay,bc⟩;simp only at*;refine bf ?_;refine bw I (fun bI=> ?_) (fun bI=> ?_)
 ·have B0:s≠[]:=by rintro rfl;simp at bI
  obtain ⟨k,an,pY,aff,mB⟩: ∃k:Nat,(if (9:Int)<(s.length:Nat) then (9:Int) else (s.length:Nat))=(k:Int)∧1≤k∧k≤9∧k≤s.length:=by
   have:0<s.length:=zC.2 B0;by_cases bB:(9:Int)<(s.length:Nat)
   ·exact ⟨9,by rw [aB bB];rfl,J,J,J⟩
   ·exact ⟨s.length,by rw [aw bB],J,J,bN _⟩
  have MF:s.take k≠[]:=by intro e;have:=congrArg List.length e;rw [fy,hX mB] at this;simp at this;omega
  have wP:(s.take k).length=k:=by rw [fy,hX mB]
  obtain ⟨aD,afK⟩:=AI MF (fun c av=>ab c (pI av)) J;have SO:=aiw (s.take k) _ J aD;have Hv:ep (v*10^k+ep 0 (s.take k)) (s.drop k)=ep 0 S:=by
   rw [←ay]
   conv=>rhs;rw [←s7 k s]
   rw [NW,FQ (s.take k) v,wP]
  have agz:=Ki (l:=s.take k) (fun c av=>ab c (pI av));rw [wP] at agz;have S4:v*10^k+ep 0 (s.take k)<10^(S.length-(s.drop k).length):=by rw [v7,show S.length-(s.length-k)=(S.length-s.length)+k by omega,iN];have:(v+1)*10^k≤10^(S.length-s.length)*10^k:=fp _ bc;rw [eF] at this;omega
  obtain ⟨x,al⟩: ∃x,ep 0 (s.take k)=x:=⟨_,rfl⟩
  rw [al] at afK SO Hv S4;have rz:(a7 v).length≤S.length-s.length:=oy (ha bc (xO aT _));have SE:=apk (a7 v) (10^k) x (iV v) J (by have:=Zm aff;omega) J;rw [hs] at SE;refine u5 ?_;rw [an];refine bR 17 (.str (s.take k)) I (aU.of_eq (by
   show ao.str ((List.drop 0 s).take (k-0))=_;rw [tb,xG])) ?_
  refine aL I I I SO (dy ?_);refine cF (ι:=Nat) (fun i=>[(0,.str s),(3,bA v),(4,ah k),(5,.int .u64 (x:Nat)),(7,.int .u32 (10^i:Nat)),(21,ah k),(22,ah i)]) (fun _=>[]) (fun i=>i≤k) (fun i=>k-i) 0 ⟨aH,I,cj _⟩ ?_;rintro i aa;refine bh ?_;refine bw I (fun db=> ?_) (fun db=> ?_)
  ·have afM:=Zm (show i+1≤9 by omega);rw [hY] at afM;refine bp ?_;refine aq (Dj (m:=10^i) (n:=10) I I lv J) (bl ?_);exact cc ⟨i+1,J,J,aH,I⟩
  ·have dn:i=k:=J;subst dn;refine bl ?_;refine aq (gU (m:=x) I I I lv J) ?_;refine aL I I I SE (u5 ?_);refine cc ⟨(v*10^i+x,s.drop i),⟨by simp only [v7];omega,fun c av=>ab c (List.mem_of_mem_drop av),Hv,S4⟩,by simp only [v7];omega,⟨?_,I,trivial⟩,I⟩;show some (ao.str ((List.drop i s).take (s.length-i)))=_;rw [kd b1]
 ·have B0:s=[]:=by
   rcases s with _|⟨x,r⟩
   ·rfl
   ·exact absurd b1 bI
  subst B0;refine bl ?_;refine aZ ar I ?_;rw [←ay];rfl
theorem apR:br Tryz.prog 214 [bA 0] (.str (Lib.decDigits 0)):=by
 refine cg Tryz.f214 fun c ar bJ=> ?_;have tq:bA 0= .ro (.ints .u32 []) 0 0:=by unfold bA;rw [rP];rfl
 rw [tq];refine bl ?_;refine aZ ar I ?_;rw [Lib.decDigits_one aT];rfl
theorem Fm {n L:Nat}(h:(a7 n).length≤L)(cB:1≤L):(Lib.decDigits n).length≤10*L:=by have U:=jK (iV n);rw [hs] at U;have ab:B^(a7 n).length≤B^L:=fN aT h;have ay:B^L≤(10^10)^L:=xO aT L;rw [←Nat.pow_mul] at ay;exact Fj J J
theorem KC (n:Nat)(h:(a7 n).length≤1000000):br Tryz.prog 214 [bA n] (.str (Lib.decDigits n)):=by
 rcases nz n with aM|aM
 ·subst aM;exact apR
 have o3:=Fm h aT;have uS:0<(a7 n).length:=As.2 J;refine cg Tryz.f214 fun c ar bJ=> ?_;unfold bA;refine bh ?_;refine bw I (fun q=>absurd q J) (fun q=> ?_);refine fe ?_;refine lK 3 ⟨9,.strs []⟩ I I ?_;refine fV ?_;refine cF (ι:=Nat×List (List UInt8)) (fun p=>[(0,bA p.1),(3,.aC 0 0 p.2.length)]) (fun p=>[some ⟨9,.strs p.2⟩]) (fun p=>(a7 p.1).length≤1000000∧p.2.length≤p.2.reverse.flatten.length∧(if p.1=0 then Lib.decDigits n=p.2.reverse.flatten else Lib.decDigits n=Lib.decDigits p.1++p.2.reverse.flatten)) (fun p=>p.1) (n,[])
  ⟨aH,rfl,h,b1,by rw [aw (by simp only;omega)];simp⟩ ?_
 rintro ⟨m,iT⟩ ⟨U,ab,ay⟩;simp only at*;have e3:0<(a7 m).length↔m≠0:=As;have Er:=Vh (a7 m) 1000000000 (iV m) J aT;rw [hs] at Er;have aqR:iT.reverse.flatten.length≤10000000:=by
  have e:iT.reverse.flatten.length≤(Lib.decDigits n).length:=by
   split at ay
   ·rw [ay];exact bN _
   ·rw [ay,di];omega
  omega
 have tq:bA m= .ro (.ints .u32 (a7 m)) 0 (a7 m).length:=rfl;rw [tq];refine bf ?_;refine bw I (fun bc=> ?_) (fun bc=> ?_)
 ·have uR:m≠0:=e3.1 J;rw [aw uR] at ay;have ad:m%1000000000<1000000000:=lz _ aT;have bG:m/1000000000<m:=DP J aT;have Ma:=agQ (m%1000000000) J;have SP:0<(a7 (m/1000000000)).length↔m/1000000000≠0:=As;have Mi:=NK bG U;have fk:(Lib.decDigits (m%1000000000)).length≤9:=Fj aT (by rw [show (10:Nat)^9=1000000000 by decide];exact ad);have HY:=ajv (9-(Lib.decDigits (m%1000000000)).length) J;obtain ⟨t,MF,wP,wQ,SZ⟩: ∃t:List UInt8,t≠[]∧t.length≤9∧(m/1000000000≠0→t=List.replicate (9-(Lib.decDigits (m%1000000000)).length) 48++Lib.decDigits (m%1000000000))∧(m/1000000000=0→t=Lib.decDigits (m%1000000000)):=by
   by_cases z:m/1000000000=0
   ·exact ⟨_,vm _,fk,fun h=>absurd z h,fun _=>rfl⟩
   ·refine ⟨_,?_,?_,fun _=>rfl,fun h=>absurd h z⟩
    ·simp [vm]
    ·simp;omega
  have B2:m/1000000000≠0→Lib.decDigits m=Lib.decDigits (m/1000000000)++t:=fun z=>by have G9:(10:Nat)^9=1000000000:=aT;have az:=amk (n:=m) (k:=9) aT (by rw [G9];omega);rw [G9] at az;rw [az,wQ z];rfl
  have z6:m/1000000000=0→Lib.decDigits m=t:=fun z=>by rw [SZ z];congr 1;have:=zo m 1000000000;omega
  have nH:(if m/1000000000=0 then Lib.decDigits n=(iT++[t]).reverse.flatten else Lib.decDigits n=Lib.decDigits (m/1000000000)++(iT++[t]).reverse.flatten):=by
   rw [List.reverse_append,List.reverse_singleton,List.singleton_append,List.flatten_cons];split
   ·rename_i z;rw [ay,z6 z]
   ·rename_i z;rw [ay,B2 z,mr]
  obtain ⟨r,SU⟩: ∃r,m%1000000000=r:=⟨_,rfl⟩
  obtain ⟨d,aeB⟩: ∃d,m/1000000000=d:=⟨_,rfl⟩
  simp only [SU,aeB] at*;refine bp ?_;refine aL I I I Er (dy ?_);refine aq (AK (m:=r) I I I J) ?_;refine aL I I I Ma ?_;have ace:bA d= .ro (.ints .u32 (a7 d)) 0 (a7 d).length:=rfl;rw [ace];refine bf ?_;apply kP (H:=[some ⟨9,.strs iT⟩]) [(0,bA d),(3,.aC 0 0 iT.length),(5,.str t)]
  ·intro fin;refine bw I (fun bX=> ?_) (fun bX=> ?_)
   ·have wC:d≠0:=SP.1 J;refine fe ?_;refine bR 25 (ah (9-(Lib.decDigits r).length)) I (aU.of_eq (by congr 1;omega)) ?_;refine aL I I I HY ?_;repeat (refine aq (bD rfl) ?_)
    refine aq (AJ I I (by simp;omega)) ?_;refine eL ?_;exact fin _ ⟨I,I,by rw [wQ wC];rfl,trivial⟩
   ·have wC:d=0:=by
     rcases nz d with z|z
     ·exact z
     ·exact absurd (by have:=SP.2 J;omega) bX
    refine eL ?_;exact fin _ ⟨I,I,by rw [SZ wC];rfl,trivial⟩
  refine bt ?_;refine dI I I I I I I I I I I I I (bN 1) I (by show (iT.length+1)*16≤_∧_;omega) (fun i j _ _=>rfl) dq (bl ?_);refine cc ⟨(d,iT++[t]),⟨Mi,?_,nH⟩,bG,⟨I,?_,trivial⟩,I⟩
  ·simp only [List.reverse_append,List.reverse_singleton,List.singleton_append,List.flatten_cons,di,List.length_singleton];have:=zC.2 MF;omega
  ·show some (ao.aC 0 0 (iT.length+1))=_;simp
 ·have uR:m=0:=by
   rcases nz m with q|q
   ·exact q
   ·exact absurd (by have:=e3.2 J;omega) bc
  rw [aB uR] at ay;have afV:=ani iT J;have zV:(Lib.join iT.reverse []).length≤140737488355328:=by rw [Wc];omega
  have Mb:=join iT.reverse [] (by rw [List.length_reverse];omega) zV;rw [Wc,←ay,List.length_reverse] at Mb;refine bl ?_;refine sL (fix:=fun h=>h<1) I I I afV (fun h aX=>aX) (fun h aX=>aX) ?_;rintro r H rfl;refine bE ?_;refine sO 0 35 iT.length [] I NO I (by show _≤iT.reverse.length;simp) trivial ?_;refine aL I I I Mb (bE ?_);exact aZ ar I I
end Go.Proofs.YtmpnheilfejcpaaGreatDoor
namespace Go.Proofs.YtmpnheilfejcpaaGreatDoor
open Go.aj Go.aj.ka Go.aj.eT
attribute [local irreducible] aj eD bZ cm
theorem agM (l:List Int)(v:Int)(hlen:l.length≤9223372036854775807):
 br Tryz.prog 192 [.ro (.ints .i64 l) 0 l.length,.int .i64 v] (.int .i64 (iz (jb v) l)):=by
 refine cg Tryz.f192 fun c ar bJ=> ?_;refine bt ?_;refine cF (ι:=Nat) (fun k=>[(0,.ro (.ints .i64 l) 0 l.length),(1,.int .i64 v),(7,ah l.length),(8,ah k)]) (fun _=>[])
  (fun k=>k≤l.length∧(l.take k).any (jb v)=false) (fun k=>l.length-k) 0 ⟨aH,rfl,cj _,rfl⟩ ?_
 intro k ⟨an,ig⟩;refine bh ?_;refine bw I (fun h=> ?_) (fun h=> ?_)
 ·have b0:k<l.length:=J;have tv:=Cw (jb v) l 0 k b0;refine bf ?_;refine bw I (fun ab=> ?_) (fun ab=> ?_)
  ·refine bf ?_;refine aZ ar I ?_;have:=qL (jb v) l k ig an;rw [tV l 0 k b0] at this;have ay:jb v (l.getD k 0)=true:=by simpa [jb] using ab
   simp only [iz,ay,gg] at this;rw [this];simp [gP]
  ·refine bl ?_;have ay:jb v (l.getD k 0)=false:=by simpa [jb] using ab
   refine cc ⟨k+1,⟨J,by rw [tv,ig,ay];rfl⟩,J,aH,I⟩
 ·have b0:k=l.length:=J;subst b0;refine bl ?_;refine aZ ar I ?_;have:=qL (jb v) l l.length ig an;rw [rj] at this;rw [this];rfl
theorem anN (l:List Int)(g:FuncId)(cD:List ao)(p:Int→Bool)(av:c2.e9 cD=true)(hlen:l.length≤9223372036854775807)(aD: ∀x∈l,br Tryz.prog g ([.int .i64 x]++cD) (.bool (p x))):
 br Tryz.prog 204 [.ro (.ints .i64 l) 0 l.length,.fn g cD] (.int .i64 (iz p l)):=by
 refine cm.sD (hx (P:=Tryz.prog) (fn:=Tryz.f204) I I ag I (fun c ar bJ=> ?_)) (fix:=fun _=>False) (fun _ h=>h) (by simp [c2.e9,c2,av]) I;refine bt ?_;refine cF (ι:=Nat) (fun k=>[(0,.ro (.ints .i64 l) 0 l.length),(1,.fn g cD),(7,ah l.length),(8,ah k)]) (fun _=>[])
  (fun k=>k≤l.length∧(l.take k).any p=false) (fun k=>l.length-k) 0 ⟨aH,rfl,cj _,rfl⟩ ?_
 intro k ⟨an,ig⟩;refine bh ?_;refine bw I (fun h=> ?_) (fun h=> ?_)
 ·have b0:k<l.length:=J;have tv:=Cw p l 0 k b0;refine bf ?_;refine aL I I I (aD _ (mI 0 b0)) (bE ?_);refine vx I (fun ab=> ?_) (fun ab=> ?_)
  ·refine bf ?_;refine aZ ar I ?_;have:=qL p l k ig an;rw [tV l 0 k b0] at this;simp only [iz,ab,gg] at this;rw [this];simp [gP]
  ·refine bl ?_;refine cc ⟨k+1,⟨J,by rw [tv,ig,ab];rfl⟩,J,aH,I⟩
 ·have b0:k=l.length:=J;subst b0;refine bl ?_;refine aZ ar I ?_;have:=qL p l l.length ig an;rw [rj] at this;rw [this];rfl
theorem Wv (l:List Int)(g:FuncId)(cD:List ao)(p:Int→Bool)(av:c2.e9 cD=true)(hlen:l.length≤9223372036854775807)(aD: ∀x∈l,br Tryz.prog g ([.int .i64 x]++cD) (.bool (p x))):
 br Tryz.prog 164 [.ro (.ints .i64 l) 0 l.length,.fn g cD] (.bool (l.any p)):=by refine cm.sD (hx (P:=Tryz.prog) (fn:=Tryz.f164) I I ag I (fun c ar bJ=> ?_)) (fix:=fun _=>False) (fun _ h=>h) (by simp [c2.e9,c2,av]) I;refine bE ?_;refine aL I I I (anN l g cD p av hlen aD) (fe ?_);refine aZ ar I ?_;simp only [gP,Da]
theorem anM (l:List Int)(g:FuncId)(cD:List ao)(p:Int→Bool)(av:c2.e9 cD=true)(hlen:l.length≤9223372036854775807)(aD: ∀x∈l,br Tryz.prog g ([.int .i64 x]++cD) (.bool (p x))):
 br Tryz.prog 154 [.ro (.ints .i64 l) 0 l.length,.fn g cD] (.int .i64 (iz p l)):=by
 refine cm.sD (hx (P:=Tryz.prog) (fn:=Tryz.f154) I I ag I (fun c ar bJ=> ?_)) (fix:=fun _=>False) (fun _ h=>h) (by simp [c2.e9,c2,av]) I;refine bt ?_;refine cF (ι:=Nat) (fun k=>[(0,.ro (.ints .i64 l) 0 l.length),(1,.fn g cD),(7,ah l.length),(8,ah k)]) (fun _=>[])
  (fun k=>k≤l.length∧(l.take k).any p=false) (fun k=>l.length-k) 0 ⟨aH,rfl,cj _,rfl⟩ ?_
 intro k ⟨an,ig⟩;refine bh ?_;refine bw I (fun h=> ?_) (fun h=> ?_)
 ·have b0:k<l.length:=J;have tv:=Cw p l 0 k b0;refine bf ?_;refine aL I I I (aD _ (mI 0 b0)) (bE ?_);refine vx I (fun ab=> ?_) (fun ab=> ?_)
  ·refine bf ?_;refine aZ ar I ?_;have:=qL p l k ig an;rw [tV l 0 k b0] at this;simp only [iz,ab,gg] at this;rw [this];simp [gP]
  ·refine bl ?_;refine cc ⟨k+1,⟨J,by rw [tv,ig,ab];rfl⟩,J,aH,I⟩
 ·have b0:k=l.length:=J;subst b0;refine bl ?_;refine aZ ar I ?_;have:=qL p l l.length ig an;rw [rj] at this;rw [this];rfl
theorem aoK (l:List Int)(g:FuncId)(cD:List ao)(p:Int→Bool)(av:c2.e9 cD=true)(hlen:l.length≤9223372036854775807)(aD: ∀x∈l,br Tryz.prog g ([.int .i64 x]++cD) (.bool (p x))):
 br Tryz.prog 77 [.ro (.ints .i64 l) 0 l.length,.fn g cD] (.bool (l.any p)):=by refine cm.sD (hx (P:=Tryz.prog) (fn:=Tryz.f77) I I ag I (fun c ar bJ=> ?_)) (fix:=fun _=>False) (fun _ h=>h) (by simp [c2.e9,c2,av]) I;refine bE ?_;refine aL I I I (anM l g cD p av hlen aD) (fe ?_);refine aZ ar I ?_;simp only [gP,Da]
def Is (e:Int):Bool:=decide (e≠0)
theorem acL (n:Int):br Tryz.prog 78 [.int .i64 n] (.bool (Is n)):=by refine cg Tryz.f78 fun c ar bJ=> ?_;refine bt ?_;refine aZ ar I ?_;simp [gP,Is]
theorem Ls (l:List Int)(hlen:l.length≤1000):br Tryz.prog 19 [.ro (.ints .i64 l) 0 l.length] (.bool (!(l.any Is))):=by refine cg Tryz.f19 fun c ar bJ=> ?_;refine bE ?_;refine aL I I I (aoK l 78 [] Is I J (fun x _=>acL x)) (bl ?_);exact aZ ar I I
end Go.Proofs.YtmpnheilfejcpaaGreatDoor
namespace Go.Proofs.YtmpnheilfejcpaaGreatDoor
open Go.aj Go.aj.dh Go.RowKit
open Go.aj.sb (jP yL yC vm)
attribute [local irreducible] aj eD bZ cm
theorem WA (s:List UInt8)(az:s.length≤9223372036854775807):br Tryz.prog 157 [.str s] (.bool (vE s)):=by
 have bu:=akY s az;have aG:=akW (s:=s);have av:vE s=(decide (s≠[]) && s.all dg && (decide (s.getD 0 0≠48)||decide (s.length=1))):=rfl;refine cg Tryz.f157 fun c ar bJ=> ?_;generalize Ao (vc s)=u at*;generalize vE s=b at*;by_cases aM:s=[]
 ·subst aM;refine Ci ?_;refine aZ ar I ?_;rw [av];rfl
 have hlen:0<s.length:=zC.2 aM;refine fe ?_;refine hg I I (fun U=> ?_) (fun U=>absurd aM U);refine dy ?_;refine aL I I I bu (bf ?_);refine hg I I (fun ab=> ?_) (fun ab=> ?_)
 ·have aW:s.all dg=true:=aG.1 ab;rw [eG aM,aW,mU,mU] at av;refine Nk ?_;refine hg I I (fun ay=> ?_) (fun ay=> ?_)
  ·have bc:decide (s.getD 0 0≠48)=true:=eG (fun e=>ay (by simp only [fJ];rw [e];rfl));rw [bc,Bool.true_or] at av;refine bf ?_;refine aZ ar I ?_;rw [av];rfl
  ·have bI:s.getD 0 0=48:=by simp only [fJ] at ay;apply UInt8.toNat_inj.1;have:((s.getD 0 0).toNat:Int)=48:=J;show (s.getD 0 0).toNat=48;omega
   have bc:decide (s.getD 0 0≠48)=false:=fP (fun e=>e bI);rw [bc,Bm] at av;refine bf ?_;refine aZ ar I ?_;rw [av];show ao.bool (decide ((s.length:Int)=1))=_;congr 1;rw [tc];omega
 ·have aW:s.all dg=false:=by
   cases aA:s.all dg with
   |false=>rfl
   |true=>exact absurd (aG.2 aA) ab
  rw [aW,Bool.and_false,uC] at av;refine u6 ?_;refine aZ ar I ?_;rw [av];rfl
def uk (p:List UInt8×Int):ao:= .ck [.str p.1,.int .i64 p.2]
theorem Km {a b k:Nat}(aW:(a7 a).length≤k)(ak:(a7 b).length≤k):(a7 (a*b)).length≤k+k:=by have U:=jK (iV a);have ab:=jK (iV b);rw [hs] at U ab;refine oy ?_;rw [iN];refine Nat.mul_lt_mul'' (ha U (fN aT aW)) (ha ab (fN aT ak))
theorem ahn {a b k:Nat}(aW:(a7 a).length≤k)(ak:(a7 b).length≤k):(a7 (a+b)).length≤k+1:=by have U:=jK (iV a);have ab:=jK (iV b);rw [hs] at U ab;refine oy ?_;have ay:B^(a7 a).length≤B^k:=fN aT aW;have bc:B^(a7 b).length≤B^k:=fN aT ak;rw [hY];have:B^k*2≤B^k*B:=hK _ aT;omega
end Go.Proofs.YtmpnheilfejcpaaGreatDoor
namespace Go.aj
open Go.RowKit
theorem cI {G ef:Prop}(k:ef)(h:lx ef→G:=by intro k;(repeat (first|refine bT rfl rfl (bD rfl) ?_|refine bT rfl rfl (dC rfl) ?_|refine bT rfl rfl (vk rfl rfl rfl) ?_|refine bT rfl rfl (vf rfl rfl rfl rfl) ?_|refine bT rfl rfl (ia rfl rfl rfl rfl rfl) ?_|refine bT rfl rfl (rY rfl rfl) ?_|refine bT rfl rfl (rZ rfl rfl) ?_|refine bT rfl rfl (A7 rfl rfl) ?_|refine bT rfl rfl (vM rfl) ?_|refine bT rfl rfl (mH rfl rfl) ?_|refine bT rfl rfl (gm rfl rfl rfl) ?_|refine bT rfl rfl (hE rfl rfl J) ?_|refine bT rfl rfl (q0 rfl rfl J) ?_|refine bT rfl rfl (ib rfl rfl rfl rfl hq J) ?_|refine bT rfl rfl (gr rfl rfl rfl rfl rfl hq J) ?_|refine bT rfl rfl (Fi rfl rfl rfl rfl nM) ?_|refine bT rfl rfl (Cu rfl rfl rfl rfl rfl nM) ?_|refine bT rfl rfl (ji rfl rfl rfl rfl rfl rfl) ?_|refine bT rfl rfl (lq rfl rfl rfl rfl) ?_|refine bT rfl rfl (kA rfl) ?_|refine bT rfl rfl (pe rfl) ?_|refine bT rfl rfl (ds rfl rfl rfl rfl rfl rfl) ?_|refine bT rfl rfl (lJ rfl rfl rfl rfl rfl rfl) ?_|refine bT rfl rfl (Jo rfl rfl rfl rfl (by first|(simp only [cR,cn];exact rfl)|exact rfl) J) ?_|refine bT rfl rfl (w6 rfl rfl rfl rfl rfl rfl) ?_|refine bT rfl rfl (E7 rfl rfl rfl rfl rfl rfl rfl) ?_|refine bT rfl rfl (Ow rfl rfl rfl) ?_|refine bT rfl rfl (mE rfl rfl rfl) ?_|refine bT rfl rfl (IA rfl rfl rfl rfl) ?_|refine bT rfl rfl (aje rfl rfl rfl rfl) ?_|refine bT rfl rfl (pc rfl rfl rfl h2 ll) ?_|refine bT rfl rfl (Fg rfl rfl rfl h2 rfl nM) ?_|refine bT rfl rfl (TV rfl J) ?_));exact k.out):G:=h ⟨k⟩
end Go.aj
namespace Go.Proofs.YtmpnheilfejcpaaGreatDoor
open Go.aj Go.aj.dh Go.aj.cQ Go.RowKit
attribute [local irreducible] aj eD bZ cm gK
def ej (x:Int):ao:= .agg [.bool (decide (x<0)),bA x.natAbs]
theorem yY (b:Bool)(n:Nat):br Tryz.prog 150 [.bool b,bA n] (ej (k2 b n)):=by
 have aD:0<(a7 n).length↔n≠0:=As;have ad:ej (k2 b n)= .agg [.bool (b && decide (n≠0)),bA n]:=by unfold ej;rw [AM,PM]
 rw [ad];refine cg Tryz.f150 fun c ar bJ=> ?_;unfold bA at ar⊢;cases b
 ·refine u6 ?_;refine dj (c':= .box [.bool false,.ro (.ints .u32 (a7 n)) 0 (a7 n).length]) I I I I I I I (bE ?_);exact aZ ar I I
 ·refine u6 ?_;have e:decide (0<((a7 n).length:Int))=decide (n≠0):=by rw [tc,←aD];omega
  refine eN (c':= .box [.bool (decide (n≠0)),.ro (.ints .u32 (a7 n)) 0 (a7 n).length]) I I I I I fx I I (fun aK ba aQ bd=> ?_) ?_
  ·rw [aB (ft.1 aQ),←e];rfl
  refine bE ?_;exact aZ ar I I
theorem ahF (x y:Int):k2 (!(decide (x<0)==decide (y<0))) (x.natAbs*y.natAbs)=x*y:=by
 have h:(x*y).natAbs=x.natAbs*y.natAbs:=ke x y;unfold k2;rcases zn x 0 with al|al|al<;>rcases zn y 0 with a1|a1|a1
 ·have:=Int.mul_pos_of_neg_of_neg al a1;simp only [al,a1];simp;omega
 ·subst a1;simp
 ·have:=Int.mul_neg_of_neg_of_pos al a1;simp only [al,show¬y<0 by omega];simp;omega
 ·subst al;simp
 ·subst al;simp
 ·subst al;simp
 ·have:=Int.mul_neg_of_pos_of_neg al a1;simp only [a1,show¬x<0 by omega];simp;omega
 ·subst a1;simp
 ·have:=xR al a1;simp only [show¬x<0 by omega,show¬y<0 by omega];simp;omega
theorem p7 (x y:Int)(al:(a7 x.natAbs).length≤1000000)(a1:(a7 y.natAbs).length≤1000000):br Tryz.prog 152 [ej x,ej y] (ej (x*y)):=by
 have U:=KP x.natAbs y.natAbs J J;have ab:=yY (!(decide (x<0)==decide (y<0))) (x.natAbs*y.natAbs);rw [ahF] at ab;refine cg Tryz.f152 fun c ar bJ=> ?_;refine bf ?_;refine ee ag ?_;refine eM (fuel:=1) [0,1,2,3,4,5,6,7,8,9,10] [(2,.ptr 0 0 0),(3,.ptr 1 0 0),(4,.ptr 2 0 0)] aH ag aT I I ?_;refine cI ?_;refine dW I I I I I U ?_;refine dW I I I I I ab ?_;refine eI ?_;refine bn 11 ?_;skip
 unfold ej bA;refine dj (c':= .box [.bool (decide (x*y<0)),.ro (.ints .u32 (a7 (x*y).natAbs)) 0 (a7 (x*y).natAbs).length]) I I I I I I I (bp ?_);refine dX ag (bE ?_);exact aZ ar I I
theorem aif (x:Int):k2 (!decide (x<0)) x.natAbs= -x:=by
 unfold k2;by_cases h:x<0
 ·simp [h];omega
 ·simp [h];omega
theorem AS (x:Int):br Tryz.prog 175 [ej x] (ej (-x)):=by
 have ab:=yY (!decide (x<0)) x.natAbs;rw [aif] at ab;refine cg Tryz.f175 fun c ar bJ=> ?_;refine bf ?_;refine aL I I I ab ?_;skip
 unfold ej;refine dj (c':= .box [.bool (decide (-x<0)),bA (-x).natAbs]) I I I I I I I (bE ?_);exact aZ ar I I
theorem yM (x:Int):br Tryz.prog 160 [ej x] (.int .i64 (lG x)):=by
 have aD:0<(a7 x.natAbs).length↔x.natAbs≠0:=As;unfold lG;refine cg Tryz.f160 fun c ar bJ=> ?_;unfold ej bA;rcases zn x 0 with h|h|h
 ·have e:decide (x<0)=true:=eG h;rw [e];rw [aB h] at ar;refine bf ?_;refine bw I (fun aM=>absurd aM J) (fun aM=> ?_);refine bf ?_;exact aZ ar I I
 ·subst h;rw [aw J,aB rfl] at ar;have jY:a7 (0:Int).natAbs=[]:=rP;rw [jY];refine bf ?_;exact aZ ar I I
 ·have e:decide (x<0)=false:=fP J;rw [e];rw [aw J,aw J] at ar;refine bf ?_;refine bw I (fun aM=>absurd aM J) (fun aM=> ?_);refine bl ?_;exact aZ ar I I
theorem aab (x y:Int)(h:decide (x<0)=decide (y<0)):k2 (decide (x<0)) (x.natAbs+y.natAbs)=x+y:=by
 unfold k2;rw [tc] at h;by_cases U:x<0
 ·simp [U];omega
 ·simp [U];omega
theorem aac (x y:Int)(h: ¬decide (x<0)=decide (y<0))(ab:y.natAbs≤x.natAbs):k2 (decide (x<0)) (x.natAbs-y.natAbs)=x+y:=by
 unfold k2;rw [tc] at h;by_cases U:x<0
 ·simp [U];omega
 ·simp [U];omega
theorem aad (x y:Int)(h: ¬decide (x<0)=decide (y<0))(ab: ¬y.natAbs≤x.natAbs):k2 (decide (y<0)) (y.natAbs-x.natAbs)=x+y:=by
 unfold k2;rw [tc] at h;by_cases U:y<0
 ·simp [U];omega
 ·simp [U];omega
theorem YV {x y:Int}:0≤j7 x y↔y≤x:=by
 unfold j7;split
 ·omega
 ·split<;>omega
theorem P8 (x y:Int)(al:(a7 x.natAbs).length≤1000000)(a1:(a7 y.natAbs).length≤1000000):br Tryz.prog 176 [ej x,ej y] (ej (x+y)):=by
 by_cases h:decide (x<0)=decide (y<0)
 ·have U:=Z9 x.natAbs y.natAbs J J;have ab:=yY (decide (x<0)) (x.natAbs+y.natAbs);rw [aab x y h] at ab;refine cg Tryz.f176 fun c ar bJ=> ?_;unfold ej at ar⊢;repeat (first|refine cY ?_|refine b6 ?_|refine du ?_|refine dc rfl ?_|refine aq (ia rfl rfl rfl rfl rfl) ?_|refine aq (ds rfl rfl rfl rfl rfl rfl) ?_|refine aq (PH rfl rfl rfl) ?_|refine vD rfl rfl ?_|refine mf rfl rfl rfl ?_)
  refine ea 9 (.bool true) I (aU.of_eq (by rw [h];simp)) (bl ?_);refine ee ag ?_;refine eM (fuel:=1) [0,1,2,3,4,5,6,7] [(2,.ptr 0 0 0),(3,.ptr 1 0 0),(4,.ptr 2 0 0)] aH ag aT I I ?_;refine cI ?_;refine dW I I I I I U ?_;refine dW I I I I I ab ?_;refine eI ?_;refine bn 8 ?_;skip
  unfold ej;refine dj (c':= .box [.bool (decide (x+y<0)),bA (x+y).natAbs]) I I I I I I I (bp ?_);refine dX ag (dy ?_);exact aZ ar I I
 ·have aM:=KL x.natAbs y.natAbs J J;by_cases av:y.natAbs≤x.natAbs
  ·have U:=Uj x.natAbs y.natAbs av J;have ab:=yY (decide (x<0)) (x.natAbs-y.natAbs);rw [aac x y h av] at ab;refine cg Tryz.f176 fun c ar bJ=> ?_;unfold ej at ar⊢;repeat (first|refine cY ?_|refine b6 ?_|refine du ?_|refine dc rfl ?_|refine aq (ia rfl rfl rfl rfl rfl) ?_|refine aq (ds rfl rfl rfl rfl rfl rfl) ?_|refine aq (PH rfl rfl rfl) ?_|refine vD rfl rfl ?_|refine mf rfl rfl rfl ?_)
   refine ea 9 (.bool false) I (aU.of_eq (by rw [beq_eq_false_iff_ne.2 h])) (bl ?_);refine aL I I I aM (cX ?_);refine bw I (fun bI=> ?_) (fun bI=>absurd (YV.2 (Int.ofNat_le.2 av)) bI);repeat (refine du ?_)
   refine ee ag ?_;refine eM (fuel:=1) [0,1,2,3,4,5,6,7] [(2,.ptr 0 0 0),(3,.ptr 1 0 0),(4,.ptr 2 0 0)] aH ag aT I I ?_;refine cI ?_;refine dW I I I I I U ?_;refine dW I I I I I ab ?_;refine eI ?_;refine bn 8 ?_;skip
   unfold ej;refine dj (c':= .box [.bool (decide (x+y<0)),bA (x+y).natAbs]) I I I I I I I (bp ?_);refine dX ag (dy ?_);exact aZ ar I I
  ·have U:=Uj y.natAbs x.natAbs J J;have ab:=yY (decide (y<0)) (y.natAbs-x.natAbs);rw [aad x y h av] at ab;refine cg Tryz.f176 fun c ar bJ=> ?_;unfold ej at ar⊢;repeat (first|refine cY ?_|refine b6 ?_|refine du ?_|refine dc rfl ?_|refine aq (ia rfl rfl rfl rfl rfl) ?_|refine aq (ds rfl rfl rfl rfl rfl rfl) ?_|refine aq (PH rfl rfl rfl) ?_|refine vD rfl rfl ?_|refine mf rfl rfl rfl ?_)
   refine ea 9 (.bool false) I (aU.of_eq (by rw [beq_eq_false_iff_ne.2 h])) (bl ?_);refine aL I I I aM (cX ?_);refine bw I (fun bI=>absurd (Int.ofNat_le.1 (YV.1 bI)) av) (fun bI=> ?_);refine bp ?_;refine ee ag ?_;refine eM (fuel:=1) [0,1,2,3,4,5,6,7] [(2,.ptr 0 0 0),(3,.ptr 1 0 0),(4,.ptr 2 0 0)] aH ag aT I I ?_;refine cI ?_;refine dW I I I I I U ?_;refine dW I I I I I ab ?_;refine eI ?_;refine bn 8 ?_;skip
   unfold ej;refine dj (c':= .box [.bool (decide (x+y<0)),bA (x+y).natAbs]) I I I I I I I (bp ?_);refine dX ag (bE ?_);exact aZ ar I I
theorem aho {x:Int}{k:Nat}(h:(a7 x.natAbs).length≤k):(a7 (-x).natAbs).length≤k:=by rw [qu];exact h
theorem Qa (x y:Int)(al:(a7 x.natAbs).length≤1000000)(a1:(a7 y.natAbs).length≤1000000):br Tryz.prog 201 [ej x,ej y] (ej (x-y)):=by
 have U:=AS y;have ab:=P8 x (-y) al (aho a1);rw [show x+ -y=x-y from rfl] at ab;refine cg Tryz.f201 fun c ar bJ=> ?_;refine bf ?_;refine ee ag ?_;refine eM (fuel:=1) [0,1,2,3] [(2,.ptr 0 0 0),(3,.ptr 1 0 0),(4,.ptr 2 0 0)] aH ag aT I I ?_;refine cI ?_;refine dW I I I I I U ?_;refine dW I I I I I ab ?_;refine eI ?_;refine bn 4 ?_;skip
 unfold ej;refine dj (c':= .box [.bool (decide (x-y<0)),bA (x-y).natAbs]) I I I I I I I (bp ?_);refine dX ag (bE ?_);exact aZ ar I I
theorem YF (x y:Int)(al:(a7 x.natAbs).length≤1000000)(a1:(a7 y.natAbs).length≤1000000):br Tryz.prog 153 [ej x,ej y] (.int .i64 (lG (x-y))):=by
 have U:=Qa x y al a1;have ab:=yM (x-y);refine cg Tryz.f153 fun c ar bJ=> ?_;refine bf ?_;refine aL I I I U ?_;skip
 refine aL I I I ab (bE ?_);exact aZ ar I I
theorem PW (n:Int)(h: -9223372036854775808≤n∧n<9223372036854775808):br Tryz.prog 142 [.int .i64 n] (ej n):=by
 refine cg Tryz.f142 fun c ar bJ=> ?_;rcases Int.lt_or_le n 0 with aG|aG
 ·have U:=F4 n.natAbs J;refine bh ?_;refine bw I (fun _=> ?_) (fun aM=>absurd aG aM);refine bt ?_;refine aq (TV I J) ?_;refine bR 7 (.int .i64 ((n.natAbs-1:Nat):Int)) I (aU.of_eq (congrArg _ J)) ?_;refine aq (gU (m:=n.natAbs-1) I I I eW J) ?_;refine aq (vB (m:=n.natAbs-1) (n:=1) I I eW J) ?_;refine bR 9 (.int .u64 ((n.natAbs:Nat):Int)) I (aU.of_eq (congrArg _ J)) ?_;skip
  refine aL I I I U ?_;repeat (refine aq (ji rfl rfl rfl rfl rfl rfl) ?_)
  refine dj (c':= .box [.bool true,bA n.natAbs]) I I I I I I I (dy ?_);refine aZ ar I ?_;unfold ej;rw [show decide (n<0)=true from eG aG];rfl
 ·have U:=F4 n.natAbs J;refine bh ?_;refine bw I (fun aM=>absurd aM J) (fun aM=> ?_);refine bp ?_;refine bR 12 (.int .i64 ((n.natAbs:Nat):Int)) I (aU.of_eq (congrArg _ J)) ?_;refine aq (gU (m:=n.natAbs) I I I eW J) ?_;skip
  refine aL I I I U ?_;repeat (refine aq (ji rfl rfl rfl rfl rfl rfl) ?_)
  refine dj (c':= .box [.bool false,bA n.natAbs]) I I I I I I I (bE ?_);refine aZ ar I ?_;unfold ej;rw [show decide (n<0)=false from fP J];rfl
def b8 (q:Rat):ao:= .agg [.bool (decide (q.num<0)),bA q.num.natAbs,bA q.den]
theorem F5 (n:Nat):ej (n:Int)= .agg [.bool false,bA n]:=by unfold ej;rw [show decide ((n:Int)<0)=false from fP J,k7]
theorem aaN {x y z:Int}(h:z<0↔x≠0∧((x<0∧ ¬y<0)∨(¬x<0∧y<0)))(bB:x=0→z=0):k2 (!(decide (x<0)==decide (y<0))) z.natAbs=z:=by
 unfold k2;by_cases U:x<0<;>by_cases ab:y<0
 ·simp [U,ab];have: ¬z<0:=fun q=>by have:=h.1 q;omega
  omega
 ·simp [U,ab];have:z<0:=h.2 J;omega
 ·simp [U,ab];rcases Int.lt_or_le z 0 with q|q
  ·omega
  ·have:x=0:=by
    rcases zn x 0 with w|w|w
    ·exact absurd w U
    ·exact w
    ·exact absurd (h.2 ⟨J,.inr ⟨U,ab⟩⟩) J
   have:=bB this;omega
 ·simp [U,ab];have: ¬z<0:=fun q=>by have:=h.1 q;omega
  omega
theorem ada {a b k:Nat}(aW:(a7 a).length≤k)(ak:(a7 b).length≤k):(a7 (Nat.gcd a b)).length≤k:=by
 rcases nz a with h|h
 ·subst h;rw [Nat.gcd_zero_left];exact ak
 ·exact I6 (Nat.gcd_le_left b h) aW
theorem Df (n d:Int)(hd:d≠0)(aG:(a7 n.natAbs).length≤1000000)(o3:(a7 d.natAbs).length≤1000000):br Tryz.prog 141 [ej n,ej d] (b8 (Rat.divInt n d)):=by
 obtain ⟨aE,aF,bO⟩:=N6 n d hd;have c9:=Qt n.natAbs d.natAbs aG o3;have x2:=ada aG o3;have St:0<Nat.gcd n.natAbs d.natAbs:=Nat.gcd_pos_of_pos_right _ J;have U:=Dr n.natAbs _ St aG x2;have ab:=Dr d.natAbs _ St o3 x2;have ay:=yY (!(decide (n<0)==decide (d<0))) (Rat.divInt n d).num.natAbs;rw [aaN bO (fun aM=>by rw [aM,Rat.zero_divInt];rfl)] at ay;rw [←aE] at U;rw [←aF] at ab;refine cg Tryz.f141 fun c ar bJ=> ?_;refine bf ?_;refine aL I I I c9 (bl ?_);refine aL I I I U (bl ?_);refine aL I I I ab ?_;repeat (first|refine aq (bD rfl) ?_|refine aq (dC rfl) ?_|refine cY ?_|refine b6 ?_|refine du ?_|refine dc rfl ?_|refine aq (ia rfl rfl rfl rfl rfl) ?_|refine aq (nP rfl rfl) ?_|refine aq (ds rfl rfl rfl rfl rfl rfl) ?_|refine aq (Ow rfl rfl rfl) ?_)
 refine aL I I I ay (fe ?_);refine dj (c':= .box [.bool (decide ((Rat.divInt n d).num<0)),bA (Rat.divInt n d).num.natAbs,bA (Rat.divInt n d).den]) I I I I I I I (bE ?_);exact aZ ar I I
def ga (k:Nat)(q:Rat):Prop:=(a7 q.num.natAbs).length≤k∧(a7 q.den).length≤k
theorem xg {x y:Int}{k:Nat}(al:(a7 x.natAbs).length≤k)(a1:(a7 y.natAbs).length≤k):(a7 (x*y).natAbs).length≤k+k:=by rw [ke];exact Km al a1
theorem XZ {x y:Int}{k:Nat}(al:(a7 x.natAbs).length≤k)(a1:(a7 y.natAbs).length≤k):(a7 (x+y).natAbs).length≤k+1:=
 I6 (Int.natAbs_add_le x y) (ahn al a1)
theorem abA (q:Rat):(q.den:Int)≠0:=by have:=q.den_nz;omega
theorem yZ (p q:Rat)(aD:ga 100000 p)(aA:ga 100000 q):br Tryz.prog 132 [b8 p,b8 q] (b8 (p+q)):=by
 have fH:(a7 (q.den:Int).natAbs).length≤100000:=aA.2;have fu:(a7 (p.den:Int).natAbs).length≤100000:=aD.2;have U:=p7 p.num q.den (by have:=aD.1;omega) J;have ab:=p7 q.num p.den (by have:=aA.1;omega) J;have m1:=xg aD.1 fH;have m2:=xg aA.1 fu;have ay:=P8 (p.num*q.den) (q.num*p.den) J J;have bc:=KP p.den q.den (by have:=aD.2;omega) (by have:=aA.2;omega);have m3:=XZ m1 m2;have m4:=Km aD.2 aA.2;have bI:=Df (p.num*q.den+q.num*p.den) ((p.den*q.den:Nat):Int) (by have:=DQ p.den_nz q.den_nz;omega) J (by rw [k7];omega);rw [F5,O7] at bI;rw [F5] at U ab;refine cg Tryz.f132 fun c ar bJ=> ?_;refine bf ?_;refine ee ag ?_;refine eM (fuel:=1) [0,1,2,3,4,5,6,7,8,9,10,11,12,13,14,15,16,17,18,19] [(2,.ptr 0 0 0),(3,.ptr 1 0 0),(4,.ptr 2 0 0)] aH ag aT I I ?_;refine cI ?_;refine dW I I I I I U ?_;refine cI ?_;refine dW I I I I I ab ?_;refine dW I I I I I ay ?_;refine cI ?_;refine dW I I I I I bc ?_;refine cI ?_;refine dW I I I I I bI ?_;refine eI ?_;refine bn 20 ?_;skip
 unfold b8;refine dj (c':= .box [.bool (decide ((p+q).num<0)),bA (p+q).num.natAbs,bA (p+q).den]) I I I I I I I (bp ?_);refine dX ag (bE ?_);exact aZ ar I I
theorem Gf (p q:Rat)(aD:ga 100000 p)(aA:ga 100000 q):br Tryz.prog 99 [b8 p,b8 q] (b8 (p*q)):=by
 have U:=p7 p.num q.num (by have:=aD.1;omega) (by have:=aA.1;omega);have m1:=xg aD.1 aA.1;have bc:=KP p.den q.den (by have:=aD.2;omega) (by have:=aA.2;omega);have m4:=Km aD.2 aA.2;have bI:=Df (p.num*q.num) ((p.den*q.den:Nat):Int) (by have:=DQ p.den_nz q.den_nz;omega) J (by rw [k7];omega);rw [F5,X5] at bI;refine cg Tryz.f99 fun c ar bJ=> ?_;refine bf ?_;refine ee ag ?_;refine eM (fuel:=1) [0,1,2,3,4,5,6,7,8,9,10,11] [(2,.ptr 0 0 0),(3,.ptr 1 0 0),(4,.ptr 2 0 0)] aH ag aT I I ?_;refine cI ?_;refine dW I I I I I U ?_;refine cI ?_;refine dW I I I I I bc ?_;refine cI ?_;refine dW I I I I I bI ?_;refine eI ?_;refine bn 12 ?_;skip
 unfold b8;refine dj (c':= .box [.bool (decide ((p*q).num<0)),bA (p*q).num.natAbs,bA (p*q).den]) I I I I I I I (bp ?_);refine dX ag (bE ?_);exact aZ ar I I
theorem ajd (p q:Rat)(aD:ga 100000 p)(aA:ga 100000 q)(aM:q≠0):br Tryz.prog 133 [b8 p,b8 q] (b8 (p/q)):=by
 have fH:(a7 (q.den:Int).natAbs).length≤100000:=aA.2;have fu:(a7 (p.den:Int).natAbs).length≤100000:=aD.2;have U:=p7 p.num q.den (by have:=aD.1;omega) J;have ab:=p7 q.num p.den (by have:=aA.1;omega) J;have m1:=xg aD.1 fH;have m2:=xg aA.1 fu;have aG:q.num≠0:=fun h=>aM (Rat.num_eq_zero.1 h);have bI:=Df (p.num*q.den) (q.num*p.den) (Int.mul_ne_zero aG (abA p)) J J;rw [XQ p q aM] at bI;rw [F5] at U ab;refine cg Tryz.f133 fun c ar bJ=> ?_;refine bf ?_;refine ee ag ?_;refine eM (fuel:=1) [0,1,2,3,4,5,6,7,8,9,10,11,12] [(2,.ptr 0 0 0),(3,.ptr 1 0 0),(4,.ptr 2 0 0)] aH ag aT I I ?_;refine cI ?_;refine dW I I I I I U ?_;refine cI ?_;refine dW I I I I I ab ?_;refine dW I I I I I bI ?_;refine eI ?_;refine bn 13 ?_;skip
 unfold b8;refine dj (c':= .box [.bool (decide ((p/q).num<0)),bA (p/q).num.natAbs,bA (p/q).den]) I I I I I I I (bp ?_);refine dX ag (bE ?_);exact aZ ar I I
theorem Zq (p q:Rat)(aD:ga 100000 p)(aA:ga 100000 q):br Tryz.prog 76 [b8 p,b8 q] (.int .i64 (um p q)):=by have fH:(a7 (q.den:Int).natAbs).length≤100000:=aA.2;have fu:(a7 (p.den:Int).natAbs).length≤100000:=aD.2;have U:=p7 p.num q.den (by have:=aD.1;omega) J;have ab:=p7 q.num p.den (by have:=aA.1;omega) J;have m1:=xg aD.1 fH;have m2:=xg aA.1 fu;have bI:=YF (p.num*q.den) (q.num*p.den) J J;rw [aka p q] at bI;rw [F5] at U ab;refine cg Tryz.f76 fun c ar bJ=> ?_;refine bf ?_;refine ee ag ?_;refine eM (fuel:=0) [0,1,2,3,4,5,6,7,8,9,10,11,12,13] [(2,.ptr 0 0 0),(3,.ptr 1 0 0)] aH ag aT I I ?_;refine cI ?_;refine dW I I I I I U ?_;refine cI ?_;refine dW I I I I I ab ?_;refine dW I I I I I bI ?_;refine cI ?_;refine eI ?_;refine dX ag (bE ?_);exact aZ ar I I
theorem Yg (p:Rat):br Tryz.prog 83 [b8 p] (.int .i64 (lG p.num)):=by have U:=yM p.num;refine cg Tryz.f83 fun c ar bJ=> ?_;refine bf ?_;refine aL I I I U (bE ?_);exact aZ ar I I
theorem Kr (p:Rat):br Tryz.prog 101 [b8 p] (b8 (-p)):=by
 have U:=AS p.num;refine cg Tryz.f101 fun c ar bJ=> ?_;refine bf ?_;refine ee ag ?_;refine eM (fuel:=1) [0,1,2,3,4,5] [(1,.ptr 0 0 0),(2,.ptr 1 0 0)] aH ag aT I I ?_;refine cI ?_;refine dW I I I I I U ?_;refine cI ?_;refine eI ?_;refine bn 6 ?_;skip
 refine dj (c':= .box [.bool (decide ((-p).num<0)),bA (-p).num.natAbs,bA (-p).den]) I I I I I I I (bp ?_);refine dX ag (bE ?_);exact aZ ar I I
theorem Um {k:Nat}{q:Rat}(h:ga k q):ga k (-q):=by refine ⟨?_,h.2⟩;show (a7 (-q.num).natAbs).length≤k;rw [qu];exact h.1
theorem ajf (p q:Rat)(aD:ga 100000 p)(aA:ga 100000 q):br Tryz.prog 140 [b8 p,b8 q] (b8 (p-q)):=by
 have U:=Kr q;have ab:=yZ p (-q) aD (Um aA);rw [←Rat.sub_eq_add_neg] at ab;refine cg Tryz.f140 fun c ar bJ=> ?_;refine bf ?_;refine ee ag ?_;refine eM (fuel:=1) [0,1,2,3] [(2,.ptr 0 0 0),(3,.ptr 1 0 0),(4,.ptr 2 0 0)] aH ag aT I I ?_;refine cI ?_;refine dW I I I I I U ?_;refine dW I I I I I ab ?_;refine eI ?_;refine bn 4 ?_;skip
 unfold b8;refine dj (c':= .box [.bool (decide ((p-q).num<0)),bA (p-q).num.natAbs,bA (p-q).den]) I I I I I I I (bp ?_);refine dX ag (bE ?_);exact aZ ar I I
end Go.Proofs.YtmpnheilfejcpaaGreatDoor
namespace Go.Proofs.YtmpnheilfejcpaaGreatDoor
open Go.aj Go.aj.dh Go.aj.cQ Go.RowKit
attribute [local irreducible] aj eD bZ cm gK
open Go.aj.sb (im Pg)
theorem Xw:bA 1= .ro (.ints .u32 [1]) 0 1:=by unfold bA;rw [FX];rfl
theorem aiN (z:Int):b8 (z:Rat)= .agg [.bool (decide (z<0)),bA z.natAbs,bA 1]:=rfl
theorem AY (n:Int)(h: -9223372036854775808≤n∧n<9223372036854775808):br Tryz.prog 113 [.int .i64 n] (b8 (n:Rat)):=by have U:=PW n h;refine cg Tryz.f113 fun c ar bJ=> ?_;refine bh ?_;refine aL I I I U ?_;unfold ej;refine fe ?_;refine dj (c':= .box [.bool (decide (n<0)),bA n.natAbs,.ro (.ints .u32 [1]) 0 1]) I I I I I I I (bE ?_);refine aZ ar I ?_;rw [aiN,Xw];rfl
theorem anL (s:List UInt8)(b:Int):br Tryz.prog 247 [.str s,.int .u8 b] (.int .i64 (Lib.indexByte s b.toNat.toUInt8)):=by refine cg Tryz.f247 fun c ar bJ=> ?_;refine bE ?_;refine aq (amV I I I I ag ag ag ag) (bE ?_);exact aZ ar I I
theorem agN (s:List UInt8)(b:UInt8):br Tryz.prog 226 [.str s,.str [b]] (.int .i64 (Lib.indexByte s b)):=by
 refine cg Tryz.f226 fun c ar bJ=> ?_;refine bf ?_;refine bw I (fun h=> ?_) (fun h=> ?_)
 ·refine bf ?_;refine aZ ar I ?_;subst h;simp [gP,Lib.indexByte]
 refine u5 ?_;refine aL I I I (anL s b.toNat) (bf ?_);refine aZ ar I ?_;simp [gP]
theorem amm (l:List UInt8)(b:UInt8):Lib.indexByte l b<l.length:=by
 induction l with
 |nil=>simp [Lib.indexByte]
 |cons c r a6=>
  rw [Lib.indexByte];simp only [gu];split
  ·omega
  ·split
   ·omega
   ·omega
theorem abv (s:List UInt8)(b:UInt8)(h:s.length≤9223372036854775807):br Tryz.prog 198 [.str s,.str [b]] (.ck [.str (im b s).1,.str (im b s).2.1,.bool (im b s).2.2]):=by
 have av:=Pg b s;have bG:=amm s b;have pX:=Lib.indexByte_ge s b;have ci:=agN s b;refine cg Tryz.f198 fun c ar bJ=> ?_;generalize Lib.indexByte s b=i at*;refine bE ?_;refine aL I I I ci (cX ?_);refine bw I (fun aM=> ?_) (fun aM=> ?_)
 ·rw [aB aM] at av;rw [av] at ar;have tx:([b]:List UInt8).length=1:=rfl;have wE:(i+1).toNat=i.toNat+1:=J;repeat (refine du ?_)
  refine yI ag ag I (Ci ?_);refine aZ ar I ?_;simp [gP,wE];exact kd b1
 ·rw [aw aM] at av;rw [av] at ar;refine bp ?_;exact aZ ar I I
theorem fE (s:List UInt8)(b:UInt8)(h:s.length≤9223372036854775807):br Tryz.prog 149 [.str s,.str [b]] (.ck [.str (im b s).1,.str (im b s).2.1,.bool (im b s).2.2]):=by have ci:=abv s b h;refine cg Tryz.f149 fun c ar bJ=> ?_;generalize im b s=q at*;refine bE ?_;refine aL I I I ci (dy ?_);exact aZ ar I I
theorem abw (s p:List UInt8)(az:s.length≤9223372036854775807)(aD:p.length≤9223372036854775807):br Tryz.prog 197 [.str s,.str p] (.ck [.str (if q2 s p then s.drop p.length else s),.bool (q2 s p)]):=by
 have U:=Zo s p az aD;refine cg Tryz.f197 fun c ar bJ=> ?_;by_cases h:q2 s p=true
 ·have hle:p.length≤s.length:=by unfold q2 at h;exact (DK h).1
  rw [h] at U ar;refine bE ?_;refine aL I I I U (Ci ?_);refine aZ ar I ?_;simp only [gP,cn];rw [kd b1];rfl
 ·rw [uz] at h;rw [h] at U ar;refine bE ?_;refine aL I I I U (bl ?_);exact aZ ar I I
theorem Ll (s p:List UInt8)(az:s.length≤9223372036854775807)(aD:p.length≤9223372036854775807):br Tryz.prog 148 [.str s,.str p] (.ck [.str (if q2 s p then s.drop p.length else s),.bool (q2 s p)]):=by have U:=abw s p az aD;refine cg Tryz.f148 fun c ar bJ=> ?_;generalize q2 s p=b at*;refine bE ?_;refine aL I I I U (dy ?_);exact aZ ar I I
end Go.Proofs.YtmpnheilfejcpaaGreatDoor
namespace Go.Proofs.YtmpnheilfejcpaaGreatDoor
open Go.aj Go.aj.dh Go.aj.cQ Go.RowKit
attribute [local irreducible] aj eD bZ cm gK
open Go.aj.sb (im Pg XN)
theorem Zn (s:List UInt8):q2 s [45]=iL s:=by
 unfold q2 iL;cases s with
 |nil=>rfl
 |cons c r=>simp
theorem XH (s:List UInt8):(pt s).length≤s.length:=by
 unfold pt;split
 ·simp
 ·exact bN _
theorem apt (s:List UInt8):(ky s).length≤s.length∧(kx s).length≤s.length:=by have h:=XN 47 (pt s);have ab:=XH s;unfold ky kx;omega
theorem Rn (s:List UInt8)(az:s.length≤9223372036854775807):br Tryz.prog 148 [.str s,.str [45]] (.ck [.str (pt s),.bool (iL s)]):=by have h:=Ll s [45] az aT;rw [Zn] at h;exact h
theorem Rm (s:List UInt8)(az:s.length≤9223372036854775807):br Tryz.prog 149 [.str (pt s),.str [47]] (.ck [.str (ky s),.str (kx s),.bool (nZ s)]):=
 fE (pt s) 47 (dU (XH s) az)
theorem AI (s:List UInt8)(az:s.length≤9223372036854775807)(h:hI s=0):br Tryz.prog 75 [.str s] (b8 (dk s)):=by
 have aD:=FE h;have U:=Rn s J;have ab:=Rm s az;have ay:=Ks (ky s) aD.tn.2.1 (by have:=aD.h4;omega);have bc:=yY (iL s) (ep 0 (ky s));rw [←aD.num] at bc;unfold b8;rw [aD.den];cases e:nZ s
 ·rw [e] at ab;rw [Dd e,Xw];refine cg Tryz.f75 fun c ar bJ=> ?_;refine bh ?_;refine aL I I I U (dy ?_);refine aL I I I ab (dy ?_);refine aL I I I ay ?_;skip
  refine aL I I I bc ?_;unfold ej;refine fe ?_;refine dj (c':= .box [.bool (decide ((dk s).num<0)),bA (dk s).num.natAbs,.ro (.ints .u32 [1]) 0 1]) I I I I I I I (bf ?_);refine dj (c':= .box [.bool (decide ((dk s).num<0)),bA (dk s).num.natAbs,.ro (.ints .u32 [1]) 0 1]) I I I I I I I (bE ?_);exact aZ ar I I
 ·rw [e] at ab;rw [CY e];have bI:=Ks (kx s) (aD.rm e).1.2.1 (by have:=aD.Im;omega);refine cg Tryz.f75 fun c ar bJ=> ?_;refine bh ?_;refine aL I I I U (dy ?_);refine aL I I I ab (dy ?_);refine aL I I I ay ?_;skip
  refine aL I I I bc ?_;unfold ej;refine fe ?_;refine dj (c':= .box [.bool (decide ((dk s).num<0)),bA (dk s).num.natAbs,.ro (.ints .u32 [1]) 0 1]) I I I I I I I (bl ?_);refine aL I I I bI (sB ?_);refine dj (c':= .box [.bool (decide ((dk s).num<0)),bA (dk s).num.natAbs,bA (ep 0 (kx s))]) I I I I I I I (bE ?_);exact aZ ar I I
theorem ajg (q:Rat)(aA:ga 100000 q):br Tryz.prog 182 [b8 q] (.str (cq q)):=by
 have U:=KC q.num.natAbs (by have:=aA.1;omega);have ab:=TG q.den;have ay:=KC q.den (by have:=aA.2;omega);unfold cq;have fH:=Fm aA.1 aT;have fu:=Fm aA.2 aT;refine cg Tryz.f182 fun c ar bJ=> ?_;by_cases aG:q.num<0<;>by_cases hd:q.den=1
 ·rw [aB aG,aB hd] at ar;rw [eG hd] at ab;unfold b8;rw [eG aG];refine bf ?_;refine aL I I I U (bl ?_);refine aq (AJ I I (by show ([45]:List UInt8).length+_≤_;simp only [gu,k6,di];omega)) (bl ?_);refine aL I I I ab (bl ?_);refine aZ ar I ?_;simp [gP]
 ·rw [aB aG,aw hd] at ar;rw [fP hd] at ab;unfold b8;rw [eG aG];refine bf ?_;refine aL I I I U (bl ?_);refine aq (AJ I I (by show ([45]:List UInt8).length+_≤_;simp only [gu,k6,di];omega)) (bl ?_);refine aL I I I ab (bl ?_);refine aL I I I ay ?_;skip
  refine aq (AJ I I (by show ([47]:List UInt8).length+_≤_;simp only [gu,k6,di];omega)) ?_;refine aq (AJ (b:=47::Lib.decDigits q.den) I I (by simp only [gu,k6,di];omega)) (bE ?_);refine aZ ar I ?_;simp [gP]
 ·rw [aw aG,aB hd] at ar;rw [eG hd] at ab;unfold b8;rw [fP aG];refine bf ?_;refine aL I I I U (bl ?_);refine aL I I I ab (bl ?_);refine aZ ar I ?_;simp [gP]
 ·rw [aw aG,aw hd] at ar;rw [fP hd] at ab;unfold b8;rw [fP aG];refine bf ?_;refine aL I I I U (bl ?_);refine aL I I I ab (bl ?_);refine aL I I I ay ?_;skip
  refine aq (AJ I I (by show ([47]:List UInt8).length+_≤_;simp only [gu,k6,di];omega)) ?_;refine aq (AJ (b:=47::Lib.decDigits q.den) I I (by simp only [gu,k6,di];omega)) (bE ?_);refine aZ ar I ?_;simp [gP]
end Go.Proofs.YtmpnheilfejcpaaGreatDoor
namespace Go.Proofs.YtmpnheilfejcpaaGreatDoor
open Go.aj Go.aj.dh Go.aj.cQ Go.RowKit
attribute [local irreducible] aj eD bZ cm gK
theorem YS {n k m:Nat}(h:k<(a7 n).length)(hm:m≤9*k):m<(Lib.decDigits n).length:=by
 rcases gA m (Lib.decDigits n).length with q|q
 ·exact q
 exfalso;have U:=CM n;have ab:10^(Lib.decDigits n).length≤10^(9*k):=fN aT J;have ay:10^(9*k)≤B^k:=by rw [Nat.pow_mul];exact xO aT k
 have bc: ¬n<B^k:=fun bI=>by have:=oy bI;omega
 omega
theorem P4 (q:Rat)(aA:ga 100000 q):br Tryz.prog 181 [b8 q,.int .i64 2000] (.bool (eB q)):=by
 have U:=KC q.num.natAbs (by have:=aA.1;omega);have ay:=KC q.den (by have:=aA.2;omega);have fH:=Fm aA.1 aT;have fu:=Fm aA.2 aT;have g1:=aA.1;have g2:=aA.2;have dS:= @YS q.num.natAbs 224 2000;have eP:= @YS q.den 224 2000;unfold eB;refine cg Tryz.f181 fun c ar bJ=> ?_;unfold b8;unfold bA at U ay⊢;refine u7 ?_;refine bw I (fun aM=> ?_) (fun aM=> ?_)
 ·refine dy ?_;refine aZ ar I ?_;have bI:224<(a7 q.num.natAbs).length∨224<(a7 q.den).length:=by
   split at aM<;>omega
  have db: ¬((Lib.decDigits q.num.natAbs).length≤2000∧(Lib.decDigits q.den).length≤2000):=by
   rcases bI with bI|bI
   ·have:=dS bI aT;omega
   ·have:=eP bI aT;omega
  rw [←Bool.decide_and,fP db];rfl
 ·refine bl ?_;refine aL I I I U (fe ?_);refine hg I I (fun bI=> ?_) (fun bI=> ?_)
  ·refine bl ?_;refine aL I I I ay (fe ?_);refine aZ ar I ?_;rw [show decide ((Lib.decDigits q.num.natAbs).length≤2000)=true from eG J,mU];show ao.bool _=ao.bool _;rw [show decide (((Lib.decDigits q.den).length:Int)≤2000)=decide ((Lib.decDigits q.den).length≤2000) from by rw [tc];omega]
  ·refine bf ?_;refine aZ ar I ?_;rw [show decide ((Lib.decDigits q.num.natAbs).length≤2000)=false from fP J,uC];rfl
theorem Ko (q:Rat)(aA:ga 100000 q)(h:eB q=true):br Tryz.prog 96 [b8 q] (.ck [.str (cq q),.int .i64 0]):=by have U:=P4 q aA;have ab:=ajg q aA;rw [h] at U;refine cg Tryz.f96 fun c ar bJ=> ?_;refine bf ?_;refine aL I I I U (bf ?_);refine aL I I I ab (bE ?_);exact aZ ar I I
theorem Qv (q:Rat)(aA:ga 100000 q)(h:eB q=false):br Tryz.prog 96 [b8 q] (.ck [.str [],.int .i64 2]):=by have U:=P4 q aA;rw [h] at U;refine cg Tryz.f96 fun c ar bJ=> ?_;refine bf ?_;refine aL I I I U (bl ?_);exact aZ ar I I
theorem Gt (q:Rat)(aA:ga 100000 q):br Tryz.prog 96 [b8 q] (uk (hT q)):=by
 unfold hT;cases h:eB q
 ·exact Qv q aA h
 ·exact Ko q aA h
theorem JH (s:List UInt8)(az:s.length≤9223372036854775807):br Tryz.prog 82 [.str s] (.int .i64 (hI s)):=by
 have U:=Rn s J;have ab:=Rm s az;obtain ⟨h4,Im⟩:=apt s;have ay:=WA (ky s) J;have bc:=WA (kx s) J;have tn:= @CC (ky s);have rm:= @CC (kx s);unfold hI;generalize ky s=n at*;generalize kx s=d at*;generalize nZ s=ok at*;generalize iL s=yk at*;generalize pt s=b at*;generalize vE n=p at*;generalize vE d=q at*;refine cg Tryz.f82 fun c ar bJ=> ?_;refine bE ?_;refine aL I I I U (dy ?_);refine aL I I I ab ?_;refine eL ?_;by_cases uV:p=false∨(ok=true∧q=false)∨(yk=true∧n=[48])
 ·rw [aB uV] at ar;cases p
  ·refine bE ?_;refine aL I I I ay (Ci ?_);exact aZ ar I I
  ·cases ok
   ·obtain ⟨tA,aG⟩:yk=true∧n=[48]:=by simpa using uV
    subst tA;subst aG;refine bE ?_;refine aL I I I ay (bf ?_);exact aZ ar I I
   ·cases q
    ·refine bE ?_;refine aL I I I ay (bl ?_);refine aL I I I bc (Ci ?_);exact aZ ar I I
    ·obtain ⟨tA,aG⟩:yk=true∧n=[48]:=by simpa using uV
     subst tA;subst aG;refine bE ?_;refine aL I I I ay (bl ?_);refine aL I I I bc (bf ?_);exact aZ ar I I
 rw [aw uV] at ar;apply kP (H:=[]) [(5,.str n),(6,.str d),(7,.bool ok)]
 ·intro fin;cases p
  ·exact absurd (.inl I) uV
  cases ok
  ·cases yk
   ·refine bE ?_;refine aL I I I ay ?_;refine eL ?_;exact fin _ aH
   ·refine bE ?_;refine aL I I I ay ?_;refine eL ?_;refine bw I (fun aM=>absurd (.inr (.inr ⟨I,aM⟩)) uV) (fun aM=> ?_);refine eL ?_;exact fin _ aH
  ·cases q
   ·exact absurd (.inr (.inl ⟨I,I⟩)) uV
   cases yk
   ·refine bE ?_;refine aL I I I ay (bl ?_);refine aL I I I bc ?_;refine eL ?_;exact fin _ aH
   ·refine bE ?_;refine aL I I I ay (bl ?_);refine aL I I I bc ?_;refine eL ?_;refine bw I (fun aM=>absurd (.inr (.inr ⟨I,aM⟩)) uV) (fun aM=> ?_);refine eL ?_;exact fin _ aH
 by_cases au:2000<n.length∨2000<d.length
 ·rw [aB au] at ar;refine bf ?_;refine hg I I (fun bI=> ?_) (fun bI=> ?_)
  ·refine bf ?_;exact aZ ar I I
  ·refine bf ?_;refine bw I (fun aM=> ?_) (fun aM=>absurd au J);refine dy ?_;exact aZ ar I I
 rw [aw au] at ar;refine bf ?_;refine hg I I (fun bI=>absurd au J) (fun bI=> ?_);refine bf ?_;refine bw I (fun aM=>absurd au J) (fun aM=> ?_);cases ok
 ·rw [aw (fun h=>tl h.1)] at ar;refine u6 ?_;exact aZ ar I I
 have aD:p=true:=by cases p;exact absurd (.inl rfl) uV;rfl
 have aA:q=true:=by cases q;exact absurd (.inr (.inl ⟨rfl,rfl⟩)) uV;rfl
 have cJ:=tn.1 aD;have dD:=rm.1 aA;have db:=Ks n cJ.2.1 J;have fh:=Ks d dD.2.1 J;have v1:(a7 (ep 0 n)).length≤2000:=KE cJ J;have v2:(a7 (ep 0 d)).length≤2000:=KE dD J;have oZ:=Qt (ep 0 n) (ep 0 d) J J;have ld:=TG (Nat.gcd (ep 0 n) (ep 0 d));refine bf ?_;refine hg I I (fun Ed=> ?_) (fun Ed=> ?_)
 ·rw [aB ⟨rfl,.inl Ed⟩] at ar;refine bf ?_;exact aZ ar I I
 ·refine bf ?_;refine hg I I (fun Hh=> ?_) (fun Hh=> ?_)
  ·rw [aB ⟨rfl,.inr (.inl Hh)⟩] at ar;refine bf ?_;exact aZ ar I I
  ·by_cases c9:Nat.gcd (ep 0 n) (ep 0 d)=1
   ·rw [eG c9] at ld;rw [aw (fun h=>by rcases h.2 with e|e|e;exact Ed e;exact Hh e;exact e c9)] at ar;refine dy ?_;refine aL I I I db (dy ?_);refine aL I I I fh ?_;repeat (refine mg rfl rfl ?_)
    refine aL I I I oZ ?_;repeat (refine mg rfl rfl ?_)
    refine aL I I I ld (bl ?_);exact aZ ar I I
   ·rw [fP c9] at ld;rw [aB ⟨rfl,.inr (.inr c9)⟩] at ar;refine dy ?_;refine aL I I I db (dy ?_);refine aL I I I fh ?_;repeat (refine mg rfl rfl ?_)
    refine aL I I I oZ ?_;repeat (refine mg rfl rfl ?_)
    refine aL I I I ld (bl ?_);exact aZ ar I I
theorem FB {α:Type}{l:List α}{d:α}{k:Nat}(h:k<l.length):l.drop k=l.getD k d::l.drop (k+1):=by rw [GO h];simp [List.getD,h]
theorem amB (l:List (List UInt8))(hlen:l.length≤9223372036854775807)(az: ∀s∈l,s.length≤9223372036854775807):br Tryz.prog 74 [.ro (.strs l) 0 l.length] (.int .i64 (lu l)):=by
 refine cg Tryz.f74 fun c ar bJ=> ?_;refine bt ?_;refine cF (ι:=Nat) (fun k=>[(0,.ro (.strs l) 0 l.length),(6,.ro (.strs l) 0 l.length),(7,ah l.length),(8,ah k)]) (fun _=>[])
  (fun k=>k≤l.length∧lu l=lu (l.drop k)) (fun k=>l.length-k) 0 ⟨aH,rfl,cj _,by rw [tb]⟩ ?_
 intro k ⟨an,dx⟩;refine bh ?_;refine bw I (fun h=> ?_) (fun h=> ?_)
 ·have b0:k<l.length:=J;have hd:=FB (d:=[]) b0;have av:=JH (l.getD k []) (az _ (mI [] b0));rw [hd,lu] at dx;refine sB ?_;refine aL I I I av (bt ?_);refine bw I (fun ab=> ?_) (fun ab=> ?_)
  ·rw [aw ab] at dx;refine bf ?_;refine aZ ar I ?_;rw [dx];rfl
  ·rw [aB (hL.1 ab)] at dx;refine bl ?_;refine cc ⟨k+1,⟨J,dx⟩,J,aH,I⟩
 ·have b0:k=l.length:=J;subst b0;rw [rj] at dx;refine bl ?_;refine aZ ar I ?_;rw [dx];rfl
theorem Nr {s:List UInt8}(h:hI s=0):ga 2000 (dk s):=by
 have aD:=FE h;refine ⟨?_,?_⟩
 ·rw [aD.num,AM];exact KE aD.tn aD.h4
 ·rw [aD.den];cases e:nZ s
  ·rw [Dd e,FX];decide
  ·rw [CY e];exact KE (aD.rm e).1 aD.Im
theorem ga.mono {j k:Nat}{q:Rat}(h:ga j q)(an:j≤k):ga k q:=⟨dU h.1 an,dU h.2 an⟩
theorem akJ {n d:Int}{k:Nat}(hd:d≠0)(U:(a7 n.natAbs).length≤k)(ab:(a7 d.natAbs).length≤k):ga k (Rat.divInt n d):=by
 obtain ⟨aE,aF,_⟩:=N6 n d hd;refine ⟨?_,?_⟩
 ·rw [aE];exact I6 (vX _ _) U
 ·rw [aF];exact I6 (vX _ _) ab
theorem Ul {p q:Rat}{k:Nat}(aD:ga k p)(aA:ga k q):ga (k+k+1) (p+q):=by have fH:(a7 (q.den:Int).natAbs).length≤k:=aA.2;have fu:(a7 (p.den:Int).natAbs).length≤k:=aD.2;rw [←O7];refine akJ (by have:=DQ p.den_nz q.den_nz;omega) (XZ (xg aD.1 fH) (xg aA.1 fu)) ?_;rw [k7];have:=Km aD.2 aA.2;omega
theorem ajz (a:List UInt8)(aW:a.length≤9223372036854775807)(g:FuncId)(F:Rat→Rat)(l1:hI a=0→br Tryz.prog g [b8 (dk a)] (b8 (F (dk a)))∧ga 100000 (F (dk a))):br Tryz.prog 100 [.str a,.fn g []] (uk (Cc F a)):=by
 have U:=JH a aW;unfold Cc;by_cases dx:hI a=0
 ·obtain ⟨ab,bB⟩:=l1 dx;rw [aB dx];have ay:=AI a aW dx;rw [dx] at U;have bI:=Gt _ bB;refine cg Tryz.f100 fun c ar bJ=> ?_;generalize hT (F (dk a))=r at*;unfold uk at*;refine bE ?_;refine aL I I I U (bh ?_);refine aL I I I ay ?_;skip
  refine aL I I I ab ?_;skip
  refine aL I I I bI (dy ?_);exact aZ ar I I
 ·rw [aw dx];generalize hI a=e at*;refine cg Tryz.f100 fun c ar bJ=> ?_;refine bE ?_;refine aL I I I U (bt ?_);refine bw I (fun ab=> ?_) (fun ab=>absurd dx ab);refine dy ?_;exact aZ ar I I
theorem ajy (a:List UInt8)(aW:a.length≤9223372036854775807):br Tryz.prog 27 [.str a] (uk (Cc (fun x=> -x) a)):=by
 have U:=ajz a aW 101 (fun x=> -x) (fun dx=>by
  have QA:=Nr dx;exact ⟨Kr _,(Um QA).mono aT⟩)
 refine cg Tryz.f27 fun c ar bJ=> ?_;generalize Cc (fun x=> -x) a=r at*;unfold uk at*;refine bE ?_;refine aL I I I U (dy ?_);exact aZ ar I I
section
variable {α:Type}
theorem Yh (d:α)(n:Nat)(e:α→List ao)(ls:List α)(s:α)(eH:Cells)(aM: ∀j,j<n→eH.at 0 j=(e s).getD j .any)(i j:Nat)(aa:i<ls.length+1)(ae:j<n):
 (bif Nat.blt i ls.length then (fI d n e ls).at i j else eH.at (0+(i-ls.length)) j)=(fI d n e (ls++[s])).at i j:=by
 rcases gA i ls.length with h|h
 ·have aE:Nat.blt i ls.length=true:=by rw [Nat.blt_eq];exact h
  rw [aE];simp only [fI,Cells.at,lV,List.getD,ic h]
 ·have dn:i=ls.length:=J;have aE:Nat.blt i ls.length=false:=by rw [←uz,Nat.blt_eq];omega
  subst dn;rw [aE];simp only [oN,pK,cR];rw [aM j ae];simp [fI,Cells.at,List.getD]
theorem h7 (d:α)(n:Nat)(e:α→List ao)(ls:List α)(s:α)(eH:Cells)(aM: ∀j,j<n→eH.at 0 j=(e s).getD j .any):
 cG (.fn (ls.length+1) n (fun i j=>bif Nat.blt i ls.length then (fI d n e ls).at i j else eH.at (0+(i-ls.length)) j)) (fI d n e (ls++[s])):=by refine ⟨by simp [fI,Cells.len],I,fun i j aa ae=> ?_⟩;exact (Yh d n e ls s eH aM i j aa ae).symm
theorem iF (d:α)(n:Nat)(e:α→List ao)(aG: ∀a j h,j<n→((e a).getD j .any).forget h=(e a).getD j .any)(ls:List α)(s:α)(eH:Cells)(aM: ∀j,j<n→eH.at 0 j=(e s).getD j .any)(h i j:Nat)(aa:i<ls.length+1)(ae:j<n):
 (bif Nat.blt i ls.length then (fI d n e ls).at i j else eH.at (0+(i-ls.length)) j).forget h=(bif Nat.blt i ls.length then (fI d n e ls).at i j else eH.at (0+(i-ls.length)) j):=by rw [Yh d n e ls s eH aM i j aa ae];exact aG _ _ _ ae
theorem Fk {β:Type}(f:α→β)(l:List α)(d:α)(k:Nat)(an:k<l.length):(l.take (k+1)).map f=(l.take k).map f++[f (l.getD k d)]:=by rw [n9 an,hb];simp [List.getD,an]
end
def bV (q:Rat):List ao:=[.bool (decide (q.num<0)),bA q.num.natAbs,bA q.den]
abbrev aO (l:List Rat):Cells:=fI 0 3 bV l
theorem vh (q:Rat)(j h:Nat)(ae:j<3):((bV q).getD j .any).forget h=(bV q).getD j .any:=by
 match j,ae with
 |0,_=>rfl
 |1,_=>rfl
 |2,_=>rfl
theorem oA (l:List Rat):e5 (aO l):=by
 intro i j _ ae;show c2 ((bV (l.getD i 0)).getD j .any)=true;have ae:j<3:=ae
 match j,ae with
 |0,_=>rfl
 |1,_=>rfl
 |2,_=>rfl
theorem nW (q:Rat)(j:Nat)(ae:j<3):(fM 1 3 [.bool (decide (q.num<0)),bA q.num.natAbs,bA q.den]).at 0 j=(bV q).getD j .any:=by
 match j,ae with
 |0,_=>rfl
 |1,_=>rfl
 |2,_=>rfl
theorem Te (l:List (List UInt8))(hlen:l.length≤1000000)(az: ∀s∈l,s.length≤9223372036854775807∧hI s=0):br Tryz.prog 116 [.ro (.strs l) 0 l.length] (.ro (aO (l.map dk)) 0 l.length):=by
 refine cg Tryz.f116 fun c ar bJ=> ?_;refine fe ?_;refine lK 3 ⟨118,aO []⟩ I I ?_;repeat (refine fV ?_)
 refine cF (ι:=Nat) (fun k=>[(0,.ro (.strs l) 0 l.length),(3,.aC 0 0 k),(6,.ro (.strs l) 0 l.length),(7,ah l.length),(8,ah k)]) (fun k=>[some ⟨118,aO ((l.take k).map dk)⟩])
  (fun k=>k≤l.length) (fun k=>l.length-k) 0 ⟨aH,rfl,cj _⟩ ?_
 intro k an;refine bh ?_;refine bw I (fun h=> ?_) (fun h=> ?_)
 ·have b0:k<l.length:=J;obtain ⟨dS,eP⟩:=az _ (mI [] b0);have av:=AI (l.getD k []) dS eP;have l6:=Fk dk l [] k b0;have iv:((l.take k).map dk).length=k:=by rw [cW,fy];omega
  generalize (l.take k).map dk=dp at*;refine sB ?_;refine aL I I I av ?_;unfold b8;repeat (refine ju rfl rfl rfl rfl rfl rfl rfl rfl rfl rfl rfl ?_)
  refine dI I I I I I I I I I iv I I eu I (by show (k+1)*56≤_∧_;omega) ?_ dq ?_
  ·intro aK j aa ae;exact iF 0 3 bV vh dp (dk (l.getD k [])) _ (nW _) 0 aK j aa ae
  refine fS ?_;refine b6 ?_;refine mJ [some ⟨118,aO ((l.take (k+1)).map dk)⟩] ?_ ?_
  ·rw [l6];exact aP.eqv (h7 0 3 bV dp (dk (l.getD k [])) _ (nW _)) aP.nil
  refine bt ?_;exact cc ⟨k+1,J,J,aH,I⟩
 ·have b0:k=l.length:=J;subst b0;rw [fO];refine iq ?_;refine mG 0 3 l.length [] I (oA _) I (by show _≤(l.map dk).length;rw [cW];exact bN _) trivial (bE ?_);exact aZ ar I I
end Go.Proofs.YtmpnheilfejcpaaGreatDoor
namespace Go.Proofs.YtmpnheilfejcpaaGreatDoor
open Go.aj Go.aj.dh Go.aj.cQ Go.RowKit
attribute [local irreducible] aj eD bZ cm gK
open Go.aj.ka Go.aj.eT
theorem anO (l:List (List UInt8))(g:FuncId)(cD:List ao)(p:List UInt8→Bool)(av:c2.e9 cD=true)(hlen:l.length≤9223372036854775807)(aD: ∀x∈l,br Tryz.prog g ([.str x]++cD) (.bool (p x))):
 br Tryz.prog 162 [.ro (.strs l) 0 l.length,.fn g cD] (.int .i64 (iz p l)):=by
 refine cm.sD (hx (P:=Tryz.prog) (fn:=Tryz.f162) I I ag I (fun c ar bJ=> ?_)) (fix:=fun _=>False) (fun _ h=>h) (by simp [c2.e9,c2,av]) I;refine bt ?_;refine cF (ι:=Nat) (fun k=>[(0,.ro (.strs l) 0 l.length),(1,.fn g cD),(7,ah l.length),(8,ah k)]) (fun _=>[])
  (fun k=>k≤l.length∧(l.take k).any p=false) (fun k=>l.length-k) 0 ⟨aH,rfl,cj _,rfl⟩ ?_
 intro k ⟨an,ig⟩;refine bh ?_;refine bw I (fun h=> ?_) (fun h=> ?_)
 ·have b0:k<l.length:=J;have tv:=Cw p l [] k b0;refine sB ?_;refine aL I I I (aD _ (mI [] b0)) (bE ?_);refine vx I (fun ab=> ?_) (fun ab=> ?_)
  ·refine bf ?_;refine aZ ar I ?_;have:=qL p l k ig an;rw [tV l [] k b0] at this;simp only [iz,ab,gg] at this;rw [this];simp [gP]
  ·refine bl ?_;refine cc ⟨k+1,⟨J,by rw [tv,ig,ab];rfl⟩,J,aH,I⟩
 ·have b0:k=l.length:=J;subst b0;refine bl ?_;refine aZ ar I ?_;have:=qL p l l.length ig an;rw [rj] at this;rw [this];rfl
theorem Ww (l:List (List UInt8))(g:FuncId)(cD:List ao)(p:List UInt8→Bool)(av:c2.e9 cD=true)(hlen:l.length≤9223372036854775807)(aD: ∀x∈l,br Tryz.prog g ([.str x]++cD) (.bool (p x))):
 br Tryz.prog 86 [.ro (.strs l) 0 l.length,.fn g cD] (.bool (l.any p)):=by refine cm.sD (hx (P:=Tryz.prog) (fn:=Tryz.f86) I I ag I (fun c ar bJ=> ?_)) (fix:=fun _=>False) (fun _ h=>h) (by simp [c2.e9,c2,av]) I;refine bE ?_;refine aL I I I (anO l g cD p av hlen aD) (fe ?_);refine aZ ar I ?_;simp only [gP,Da]
theorem ajk (s:List UInt8)(az:s.length≤9223372036854775807):br Tryz.prog 244 [.str s] (.bool (iL s)):=by have U:=Kp s [45] az aT;rw [Zn] at U;refine cg Tryz.f244 fun c ar bJ=> ?_;refine bE ?_;refine aL I I I U (bE ?_);exact aZ ar I I
theorem VS (l:List Rat)(hlen:l.length≤1000000)(az: ∀q∈l,ga 100000 q)(hp:l.all eB=true):br Tryz.prog 70 [.ro (aO l) 0 l.length] (.ck [.ro (.strs (l.map cq)) 0 l.length,.int .i64 0]):=by
 refine cg Tryz.f70 fun c ar bJ=> ?_;refine fe ?_;refine lK 4 ⟨27,.strs []⟩ I I ?_;repeat (refine fV ?_)
 refine cF (ι:=Nat) (fun k=>[(0,.ro (aO l) 0 l.length),(4,.aC 0 0 k),(9,.ro (aO l) 0 l.length),(10,ah l.length),(11,ah k)]) (fun k=>[some ⟨27,.strs ((l.take k).map cq)⟩])
  (fun k=>k≤l.length∧(l.drop k).all eB=true) (fun k=>l.length-k) 0 ⟨aH,rfl,cj _,hp⟩ ?_
 rintro k ⟨an,iP⟩;refine bh ?_;refine bw I (fun h=> ?_) (fun h=> ?_)
 ·have b0:k<l.length:=J;have bB:=az _ (mI 0 b0);have hd:=FB (d:=(0:Rat)) b0;rw [hd,zq] at iP;have l6:=Fk cq l 0 k b0;have iv:((l.take k).map cq).length=k:=by rw [cW,fy];omega
  generalize jd:(l.take k).map cq=IH at*;refine bf ?_;refine bR 14 (.agg (bV (l.getD k 0))) I (aU.of_eq I) ?_;generalize l.getD k 0=q at*;refine dj (c':= .box (bV q)) I I I I I I I ?_;rw [er] at iP;have av:=Ko q bB iP.1;refine bf ?_;refine aL I I I av (bh ?_);refine dI I I I I I I I I I iv I I eu I (by show (k+1)*16≤_∧_;omega) (fun i j _ _=>rfl) dq ?_;refine fS ?_;refine b6 ?_;refine mJ ([some ⟨27,.strs ((l.take (k+1)).map cq)⟩]++[none]) ?_ ?_
  ·rw [l6];exact aP.eqv (cG.refl _) (aP.drop aP.nil)
  refine AR (H1:=[some ⟨27,.strs ((l.take (k+1)).map cq)⟩]) I dq (bt ?_);exact cc ⟨k+1,⟨J,iP.2⟩,J,aH,I⟩
 ·have b0:k=l.length:=J;subst b0;rw [fO];refine iq ?_;refine mG 0 4 l.length [] I (fun _ _ _ _=>rfl) I (by show _≤(l.map cq).length;rw [cW];exact bN _) trivial (bE ?_);exact aZ ar I I
theorem WK (l:List Rat)(hlen:l.length≤1000000)(az: ∀q∈l,ga 100000 q)(hp:l.all eB=false):br Tryz.prog 70 [.ro (aO l) 0 l.length] (.ck [.nil,.int .i64 2]):=by
 refine cg Tryz.f70 fun c ar bJ=> ?_;refine fe ?_;refine lK 4 ⟨27,.strs []⟩ I I ?_;repeat (refine fV ?_)
 refine cF (ι:=Nat) (fun k=>[(0,.ro (aO l) 0 l.length),(4,.aC 0 0 k),(9,.ro (aO l) 0 l.length),(10,ah l.length),(11,ah k)]) (fun k=>[some ⟨27,.strs ((l.take k).map cq)⟩])
  (fun k=>k≤l.length∧(l.drop k).all eB=false) (fun k=>l.length-k) 0 ⟨aH,rfl,cj _,hp⟩ ?_
 rintro k ⟨an,iP⟩;refine bh ?_;refine bw I (fun h=> ?_) (fun h=> ?_)
 ·have b0:k<l.length:=J;have bB:=az _ (mI 0 b0);have hd:=FB (d:=(0:Rat)) b0;rw [hd,zq] at iP;have l6:=Fk cq l 0 k b0;have iv:((l.take k).map cq).length=k:=by rw [cW,fy];omega
  generalize jd:(l.take k).map cq=IH at*;refine bf ?_;refine bR 14 (.agg (bV (l.getD k 0))) I (aU.of_eq I) ?_;generalize l.getD k 0=q at*;refine dj (c':= .box (bV q)) I I I I I I I ?_;cases aR:eB q
  ·have av:=Qv q bB aR;refine bf ?_;refine aL I I I av (bf ?_);exact aZ ar I I
  ·have av:=Ko q bB aR;rw [aR,mU] at iP;refine bf ?_;refine aL I I I av (bh ?_);refine dI I I I I I I I I I iv I I eu I (by show (k+1)*16≤_∧_;omega) (fun i j _ _=>rfl) dq ?_;refine fS ?_;refine b6 ?_;refine mJ ([some ⟨27,.strs ((l.take (k+1)).map cq)⟩]++[none]) ?_ ?_
   ·rw [l6];exact aP.eqv (cG.refl _) (aP.drop aP.nil)
   refine AR (H1:=[some ⟨27,.strs ((l.take (k+1)).map cq)⟩]) I dq (bt ?_);exact cc ⟨k+1,⟨J,iP⟩,J,aH,I⟩
 ·have b0:k=l.length:=J;subst b0;rw [rj] at iP;exact absurd iP aT
end Go.Proofs.YtmpnheilfejcpaaGreatDoor
namespace Go.Proofs.YtmpnheilfejcpaaGreatDoor
open Go.aj Go.aj.dh Go.aj.cQ Go.RowKit
attribute [local irreducible] aj eD bZ cm gK
theorem nn:br Tryz.prog 113 [.int .i64 0] (b8 0):=AY 0 aT
theorem vA:br Tryz.prog 113 [.int .i64 1] (b8 1):=AY 1 aT
theorem IG:ga 2000 0:=by
 refine ⟨?_,?_⟩
 ·show (a7 0).length≤2000;rw [rP];decide
 ·show (a7 1).length≤2000;rw [FX];decide
theorem akG (l:List (List UInt8))(hlen:l.length≤9223372036854775807)(az: ∀s∈l,s.length≤9223372036854775807):br Tryz.prog 243 [.ro (.strs l) 0 l.length] (.ck [b8 (nv l).1,.int .i64 (nv l).2]):=by
 unfold nv;have U:=amB l hlen az;by_cases au:256<l.length
 ·rw [aB au];refine cg Tryz.f243 fun c ar bJ=> ?_;refine bh ?_;refine aL I I I nn ?_;repeat (refine mf rfl rfl rfl ?_)
  refine dj (c':= .box (bV 0)) I I I I I I I (bf ?_);refine bw I (fun aM=> ?_) (fun aM=>absurd au J);refine bf ?_;refine dj (c':= .box (bV 0)) I I I I I I I (dy ?_);exact aZ ar I I
 rw [aw au];by_cases dx:lu l=0
 ·rw [aB dx];rw [dx] at U;have ab:=Te l J (fun s hm=>⟨az s hm,FN dx s hm⟩);have bB: ∀q∈l.map dk,ga 2000 q:=fun q aA=>by obtain ⟨s,ay,rfl⟩:=cS.1 aA;exact Nr (FN dx s ay)
  have iv:(l.map dk).length=l.length:=cW _;generalize l.map dk=dp at*;refine cg Tryz.f243 fun c ar bJ=> ?_;refine bh ?_;refine aL I I I nn ?_;repeat (refine mf rfl rfl rfl ?_)
  refine dj (c':= .box (bV 0)) I I I I I I I (bf ?_);refine bw I (fun aM=>absurd au J) (fun aM=> ?_);refine bp ?_;refine aL I I I U (bh ?_);refine aL I I I ab (bt ?_);refine cF (ι:=Nat×Rat) (fun p=>[(2,.ptr 0 0 0),(4,.ptr 1 0 0),(20,.ro (aO dp) 0 l.length),(21,ah l.length),(22,ah p.1)]) (fun p=>[some ⟨118,.box [.bool false,.nil,.nil]⟩,some ⟨118,.box (bV p.2)⟩])
   (fun p=>p.1≤l.length∧mn 0 dp=mn p.2 (dp.drop p.1)∧ga 2000 p.2) (fun p=>l.length-p.1) (0,0) ⟨aH,rfl,cj _,rfl,IG⟩ ?_
  rintro ⟨k,acc⟩ ⟨an,dm,iP⟩;simp only at*;refine bh ?_;refine bw I (fun h=> ?_) (fun h=> ?_)
  ·have b0:k<dp.length:=J;have aA:=bB _ (mI 0 b0);have hd:=FB (d:=(0:Rat)) b0;rw [hd,mn] at dm;refine bf ?_;refine bR 25 (.agg (bV (dp.getD k 0))) I (aU.of_eq I) ?_;generalize dp.getD k 0=q at*;have av:=yZ acc q (iP.mono aT) (aA.mono aT);have aR:=P4 (acc+q) ((Ul iP aA).mono aT);refine dj (c':= .box (bV q)) I I I I I I I (bf ?_);refine aL I I I av ?_;skip
   refine dj (c':= .box (bV (acc+q))) I I I I I I I (bf ?_);refine aL I I I aR ?_;cases ak:eB (acc+q)
   ·rw [ak,aw tl] at dm;rw [dm] at ar;refine bf ?_;refine dj (c':= .box (bV (acc+q))) I I I I I I I (bf ?_);exact aZ ar I I
   ·rw [ak,aB rfl] at dm;refine fS ?_;refine b6 ?_;refine mJ ([some ⟨118,.box [.bool false,.nil,.nil]⟩,some ⟨118,.box (bV (acc+q))⟩]++[none]) ?_ ?_
    ·exact aP.eqv (cG.refl _) (aP.eqv (cG.refl _) (aP.drop aP.nil))
    refine AR (H1:=[some ⟨118,.box [.bool false,.nil,.nil]⟩,some ⟨118,.box (bV (acc+q))⟩]) I dq (bl ?_);exact cc ⟨(k+1,acc+q),⟨by simp only;omega,dm,Za ak⟩,by simp only;omega,aH,I⟩
  ·have b0:k=l.length:=J;subst b0;rw [←iv,rj,mn] at dm;rw [dm] at ar;refine bf ?_;refine dj (c':= .box (bV acc)) I I I I I I I (bE ?_);exact aZ ar I I
 ·rw [aw dx];generalize lu l=e at*;refine cg Tryz.f243 fun c ar bJ=> ?_;refine bh ?_;refine aL I I I nn ?_;repeat (refine mf rfl rfl rfl ?_)
  refine dj (c':= .box (bV 0)) I I I I I I I (bf ?_);refine bw I (fun aM=>absurd au J) (fun aM=> ?_);refine bp ?_;refine aL I I I U (bt ?_);refine bw I (fun ab=> ?_) (fun ab=>absurd dx ab);refine bf ?_;refine dj (c':= .box (bV 0)) I I I I I I I (dy ?_);exact aZ ar I I
theorem ZF: ∀(dp:List Rat) (acc:Rat),ga 2000 acc→(∀q∈dp,ga 2000 q)→ga 4001 (mn acc dp).1
 |[],acc,h,_=>h.mono aT
 |q::r,acc,h,az=>by
  rw [mn];split
  ·rename_i ak;exact ZF r _ (Za ak) (fun x al=>az x (by simp [al]))
  ·exact Ul h (az q b1)
theorem akE (l:List (List UInt8)):ga 4001 (nv l).1:=by
 unfold nv;split
 ·exact IG.mono aT
 ·split
  ·rename_i dx;refine ZF _ _ IG (fun q aA=> ?_);obtain ⟨s,ay,rfl⟩:=cS.1 aA;exact Nr (FN dx s ay)
  ·exact IG.mono aT
theorem amU (l:List (List UInt8))(hlen:l.length≤9223372036854775807)(az: ∀s∈l,s.length≤9223372036854775807):br Tryz.prog 217 [.ro (.strs l) 0 l.length] (.ck [b8 (nv l).1,.int .i64 (wX l)]):=by
 have U:=akG l hlen az;have ab:=Ww l 244 [] iL rfl hlen (fun s hm=>ajk s (az s hm));unfold wX;generalize (nv l).1=q at*;generalize (nv l).2=e at*;generalize l.any iL=b at*;by_cases he:e=0
 ·subst he;cases b
  ·rw [aw (fun h=>tl h.2)];refine cg Tryz.f217 fun c ar bJ=> ?_;refine bh ?_;refine aL I I I U ?_;unfold b8;refine bh ?_;refine dj (c':= .box (bV q)) I I I I I I I (bh ?_);refine aL I I I ab (bf ?_);refine dj (c':= .box (bV q)) I I I I I I I (bE ?_);exact aZ ar I I
  ·rw [aB ⟨rfl,rfl⟩];refine cg Tryz.f217 fun c ar bJ=> ?_;refine bh ?_;refine aL I I I U ?_;unfold b8;refine bh ?_;refine dj (c':= .box (bV q)) I I I I I I I (bh ?_);refine aL I I I ab (bf ?_);refine dj (c':= .box (bV q)) I I I I I I I (bE ?_);exact aZ ar I I
 ·rw [aw (fun h=>he h.1)];refine cg Tryz.f217 fun c ar bJ=> ?_;refine bh ?_;refine aL I I I U ?_;unfold b8;refine bh ?_;refine dj (c':= .box (bV q)) I I I I I I I (bh ?_);refine hg I I (fun aM=>absurd aM he) (fun aM=> ?_);refine bf ?_;refine dj (c':= .box (bV q)) I I I I I I I (bE ?_);exact aZ ar I I
theorem Zg (l:List (List UInt8))(hlen:l.length≤9223372036854775807)(az: ∀s∈l,s.length≤9223372036854775807):br Tryz.prog 187 [.ro (.strs l) 0 l.length] (.int .i64 (iI l)):=by
 have U:=amU l hlen az;have bB:=akE l;unfold iI;generalize (nv l).1=q at*;generalize wX l=e at*;have ab:=Zq q 1 (bB.mono aT) (by refine ⟨?_,?_⟩<;>(show (a7 1).length≤100000;rw [FX];decide));by_cases he:e=0
 ·rw [aB he];subst he;generalize um q 1=t at*;by_cases bu:t=0
  ·rw [aB bu];subst bu;refine cg Tryz.f187 fun c ar bJ=> ?_;refine bE ?_;refine aL I I I U ?_;unfold b8;refine bh ?_;refine dj (c':= .box (bV q)) I I I I I I I (bh ?_);refine ee ag ?_;refine eM (fuel:=0) [0,1,2,3] [(3,.ptr 0 0 0)] ⟨I,trivial⟩ ag aT I I ?_;refine cI ?_;refine dW I I I I I vA ?_;refine dW I I I I I ab ?_;refine cI ?_;refine eI ?_;refine dX ag (bh ?_);exact aZ ar I I
  ·rw [aw bu];refine cg Tryz.f187 fun c ar bJ=> ?_;refine bE ?_;refine aL I I I U ?_;unfold b8;refine bh ?_;refine dj (c':= .box (bV q)) I I I I I I I (bh ?_);refine ee ag ?_;refine eM (fuel:=0) [0,1,2,3] [(3,.ptr 0 0 0)] ⟨I,trivial⟩ ag aT I I ?_;refine cI ?_;refine dW I I I I I vA ?_;refine dW I I I I I ab ?_;refine cI ?_;refine eI ?_;refine dX ag ?_;repeat (refine b6 ?_)
   refine bw I (fun aM=> ?_) (fun aM=>absurd bu aM);refine dy ?_;exact aZ ar I I
 ·rw [aw he];refine cg Tryz.f187 fun c ar bJ=> ?_;refine bE ?_;refine aL I I I U ?_;unfold b8;refine bh ?_;refine dj (c':= .box (bV q)) I I I I I I I (bt ?_);refine bw I (fun aM=> ?_) (fun aM=>absurd he aM);refine dy ?_;exact aZ ar I I
end Go.Proofs.YtmpnheilfejcpaaGreatDoor
namespace Go.Proofs.YtmpnheilfejcpaaGreatDoor
open Go.aj Go.aj.dh Go.aj.cQ Go.RowKit Go.aj.ka Go.aj.eT
attribute [local irreducible] aj eD bZ cm gK
def kU (n:ev):List ao:=[.int .i64 n.kind,.int .i64 n.gI,.int .i64 n.info,.ro (.ints .i64 n.next) 0 n.next.length,.ro (.strs n.c3) 0 n.c3.length,.str n.jf]
abbrev bS (t:aJ):Cells:=fI aN 6 kU t
structure DI (n:ev):Prop where
 next:n.next.length≤9223372036854775807
 c3:n.c3.length≤9223372036854775807
 each: ∀s∈n.c3,s.length≤9223372036854775807
 jf:n.jf.length≤9223372036854775807
structure kb (t:aJ):Prop where
 len:t.length≤9223372036854775807
 node: ∀n∈t,DI n
theorem aoG (t:aJ)(i:Nat)(k:Int)(aa:i≤9223372036854775807)(hlen:t.length≤9223372036854775807):br Tryz.prog 236 [.int .i64 k,.cK (.box [ah i]) 0 0,.cK (.box [.ro (bS t) 0 t.length]) 0 0] (.bool (AE t.length i k)):=by
 refine cg Tryz.f236 fun c ar bJ=> ?_;refine fe ?_;refine hg I I (fun h=> ?_) (fun h=> ?_)
 ·refine bf ?_;refine aZ ar I ?_;unfold AE;rw [eG h];rfl
 ·refine fe ?_;refine aZ ar I ?_;unfold AE;rw [fP h,Bm];rfl
theorem aaQ (t:aJ):e5 (.box [.ro (bS t) 0 t.length]):=by
 intro i j _ ae;obtain rfl:j=0:=by have ae:j<1:=ae;omega
 rfl
theorem G2 (n:Int):e5 (.box [.int .i64 n]):=by
 intro i j _ ae;obtain rfl:j=0:=by have ae:j<1:=ae;omega
 rfl
theorem TY {o1 o2:bm}(U:e5 o1.c)(ab:e5 o2.c): ∀(h:Nat) (o:bm),([some o1,some o2]:aY)[h]? =some (some o)→e5 o.c:=by
 intro h o ai
 match h,ai with
 |0,ai=>cases ai;exact U
 |1,ai=>cases ai;exact ab
 |_+2,ai=>simp at ai
theorem amC (t:aJ)(i:Nat)(aa:i<t.length)(hlen:t.length≤9223372036854775807)(aG:(t.getD i aN).next.length≤9223372036854775807):br Tryz.prog 203 [.ro (bS t) 0 t.length,ah i] (.int .i64 (y4 t.length i (t.getD i aN).next)):=by
 have av:=Wv (t.getD i aN).next 236 [.cK (.box [ah i]) 0 0,.cK (.box [.ro (bS t) 0 t.length]) 0 0] (AE t.length i) rfl aG (fun k _=>aoG t i k J hlen)
 refine cg Tryz.f203 fun c ar bJ=> ?_;repeat (first|refine aq (dC rfl) ?_|refine cY ?_|refine b6 ?_|refine du ?_|refine dc rfl ?_|refine aq (vf rfl rfl rfl rfl) ?_|refine aq (ia rfl rfl rfl rfl rfl) ?_|refine aq (ib rfl rfl rfl rfl hq J) ?_|refine aq (lJ rfl rfl rfl rfl rfl rfl) ?_|refine vD rfl rfl ?_)
 refine ea 5 (.ro (.ints .i64 (t.getD i aN).next) 0 (t.getD i aN).next.length) I (aU.of_eq I) ?_;generalize (t.getD i aN).next=l at*
 unfold y4 at ar;refine bh ?_;refine bw I (fun U=> ?_) (fun U=> ?_)
 ·rw [aB J] at ar;refine bf ?_;exact aZ ar I I
 rw [aw J] at ar;refine bf ?_;refine bw I (fun ab=> ?_) (fun ab=> ?_)
 ·rw [aB J] at ar;refine bf ?_;exact aZ ar I I
 rw [aw J] at ar;refine fS ?_;refine JU rfl rfl rfl rfl av (TY (o1:=⟨41,.box [.ro (bS t) 0 t.length]⟩) (o2:=⟨3,.box [ah i]⟩) (aaQ _) (G2 _)) ⟨trivial,⟨fun o ai=>by simp at ai;subst ai;exact fx,fun o ai=>by simp at ai;subst ai;exact fx,trivial⟩,trivial⟩ rfl rfl rfl ?_;generalize l.any (AE t.length i)=b at*;cases b
 ·rw [aw aT] at ar;refine bl ?_;exact aZ ar I I
 ·rw [aB rfl] at ar;refine bf ?_;exact aZ ar I I
end Go.Proofs.YtmpnheilfejcpaaGreatDoor
