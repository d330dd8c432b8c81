import Derived.Test.YtmpnheilfejcpaaGreatDoorP9
set_option linter.unusedVariables false
set_option linter.unusedSimpArgs false
set_option maxRecDepth 100000
set_option maxHeartbeats 40000000
namespace Go.Proofs.YtmpnheilfejcpaaGreatDoor
open Go.aj Go.aj.dh Go.aj.cQ Go.RowKit Go.aj.dR Go.aj.cL
attribute [local irreducible] aj eD bZ cm gK
def va (r:DH):ao:= .agg ([ah r.kind,if r.kind=1 then .nil else .ro (aO r.X) 0 r.X.length,if r.kind=2 then .nil else .ro (aO r.Y) 0 r.Y.length,if r.kind=2 then .ro (aO r.R) 0 r.R.length else .nil]++(if r.kind=0 then bV r.V else [.bool false,.nil,.nil]))
theorem ank (r:DH):c2 (va r)=true:=by
 obtain ⟨k,X,Y,R,V⟩:=r;by_cases aM:k=0
 ·subst aM;rfl
 ·by_cases U:k=1
  ·subst U;rfl
  ·by_cases ab:k=2
   ·subst ab;rfl
   ·show c2 (.agg ([_,if k=1 then _ else _,if k=2 then _ else _,if k=2 then _ else _]++(if k=0 then _ else _)))=true;rw [aw aM,aw U,aw ab,aw ab];rfl
theorem agO (n:Nat):ej ((n:Nat):Int)= .agg [.bool false,bA n]:=by unfold ej;rw [k7,fP J]
theorem VZ (s:Nat)(t:TypeId): ∀X:cu,pn s (gn t aV X)=gn t aV X
 |[]=>rfl
 |a::r=>by show some ⟨t,(aV a).shift s⟩::pn s (gn t aV r)=some ⟨t,aV a⟩::gn t aV r;rw [JP,VZ s t r]
theorem anV (b n L s:Nat):(fj b n L).shift s=fj (s+b) n L:=by show Cells.fn _ _ _=Cells.fn _ _ _;congr 1;funext i j;show ao.aC (b+4+i+s) 0 L=ao.aC (s+b+4+i) 0 L;rw [show b+4+i+s=s+b+4+i by omega]
theorem akO (A B:Option bm)(L w k:Nat)(X:cu)(d:Int)(β:List Nat):[A,B]++pn 2 (bs [none,none] none L w k X d β [])=bs [A,B,none,none] none L w k X d β []:=by show A::B::none::none::some (⟨249,jz 4 k β.length w d⟩:bm)::none::some (⟨3,fR β⟩:bm)::some (⟨243,(fj 2 X.length L).shift 2⟩:bm)::pn 2 (gn 116 aV X++[])=_;rw [lA,VZ,anV];show _=A::B::none::none::some (⟨249,jz 4 k β.length w d⟩:bm)::none::some (⟨3,fR β⟩:bm)::some (⟨243,fj 4 X.length L⟩:bm)::(gn 116 aV X++[]);rw [lA]
theorem Qp {H:aY}{x:Option bm}{h:Nat}{o:Option bm}(aX:H[h]? =some o):(H.set h x)[h]? =some x:=oP (gZ.1 aX).1
theorem ZX (p:Prog)(k e K L:Nat)(aD:p.hJ)(an:p.GG k)(lE:p.s5 e)(hm:p.m≤30)(aG:p.n≤30)(EA:k≤2000)(BF:e≤1000)(b4:p.T e≤850000)(az:vU p K L):
 br Tryz.prog 93 [.agg [.ro (c8 p.A) 0 p.A.length,.ro (aO p.B) 0 p.B.length,.ro (aO p.C) 0 p.C.length]] (va (ed p K L)):=by
 have RU:p.N=p.n+p.m+p.a:=rfl;have adY:p.a≤p.m:=Gl p.B p.B.length;have dx:p.E e≤32000:=by unfold Prog.E;have:e*(p.n+1)≤1000*31:=jW BF J;omega
 have adx:p.E e≤p.T e:=by unfold Prog.T;have:(p.E e+2)*1≤(p.E e+2)*(p.m+1):=hK _ J;omega
 have Bs:=cm.many (aku p p.N k aD an RU (show p.m≤40 by omega) (show p.n≤40 by omega) J) (fun _ h=>h) rfl;have EK:(⟨iG p++[jL (p.n+p.m) p.a p.N ⟨iG p,1,jO p⟩ p.m p.a],1,jO p⟩:cl)=An p:=by
  have e:jL (p.n+p.m) p.a p.N ⟨iG p,1,jO p⟩ p.m p.a=Dc (hR p) p.m p.N (fL p):=by rw [←OS p,ans];exact anr p p.a rfl
  rw [e,←aiA];rfl
 have l6:(fL p).rows.take p.m=iG p:=congrArg cl.rows (OS p);have BD: ∀(G:aY),s4 G→(∀h,G.length≤h→c6 h G=G)→0<p.a→_:=fun G dL pT aW=>amJ G dL pT p.n p.m p.a p.N (iG p) (jO p) (uv p) K (p.T e) RU J J (xc p) (Je p) (fun x al=>(CU p).row x (s9 _ al))
  (fun i j aa ae=>by rw [←l6,yK aa];exact dU (V1 aD lE aa ae) (fN aT adx)) J (by rw [EK];exact Qg p) (by rw [EK];exact Pz p aD) (by rw [EK];exact az.one aW)
  (fun t bu=>xo bu J (PX aD lE)) (fun t bu aR aM i aa ak=>(JF bu aR).2 (by have:=(JF bu aR).1;omega) i aa ak)
 rw [EK] at BD;refine cm.sD (hx (P:=Tryz.prog) (fn:=Tryz.f93) I I ag I (fun c ar bJ=> ?_)) (fix:=fun _=>False) (fun _ h=>h) I (ank _);refine bf ?_;refine ee ag ?_;refine eM (fuel:=0) [0,1,2,3,4,5,6,7] [(1,.ptr 0 0 0),(2,.ptr 1 0 0)] aH ag aT I I ?_;refine cI ?_;refine eI ?_;refine dX ag (bf ?_);refine bR 29 (.agg [.ro (c8 p.A) 0 p.A.length,.ro (aO p.B) 0 p.B.length,.ro (aO p.C) 0 p.C.length]) I (aU.of_eq I) ?_;refine JV (.ck [.ptr 4 0 0,.ro (cz ((List.range p.m).map p.ey)) 0 p.m,ah p.a]) (bs [some ⟨155,.box [.ro (c8 p.A) 0 p.A.length,.ro (aO p.B) 0 p.B.length,.ro (aO p.C) 0 p.C.length]⟩,some ⟨152,.box [.int .i64 0,.nil,.nil,.nil,.bool false,.nil,.nil]⟩,none,none] none (p.N+1) (p.n+p.m) p.m (iG p) 1 (jO p) []) I I I Bs I (akO _ _ _ _ _ _ _ _) ?_;generalize o0:([some ⟨155,.box [.ro (c8 p.A) 0 p.A.length,.ro (aO p.B) 0 p.B.length,.ro (aO p.C) 0 p.C.length]⟩,some ⟨152,.box [.int .i64 0,.nil,.nil,.nil,.bool false,.nil,.nil]⟩,none,none]:aY)=G;have adC:G.length=4:=by subst o0;rfl
 have dL:s4 G:=by
  rw [←o0];intro m hm o ai;simp only [gb,oX,nB] at ai;rcases ai with e|e|e|e
  ·cases e;exact Od p _
  ·cases e;intro i j aa ae;obtain rfl:=ft.1 (show i<1 from aa)
   match j,(show j<7 from ae) with
   |0,_=>rfl
   |1,_=>rfl
   |2,_=>rfl
   |3,_=>rfl
   |4,_=>rfl
   |5,_=>rfl
   |6,_=>rfl
  ·cases e
  ·cases e
 have pT: ∀h,c6 h G=G:=fun h=>by subst o0;rfl
 have Ev: ∀eC X d β T,(bs G none (p.N+1) (p.n+p.m) eC X d β T)[0]? =some (some ⟨155,.box [.ro (c8 p.A) 0 p.A.length,.ro (aO p.B) 0 p.B.length,.ro (aO p.C) 0 p.C.length]⟩):=fun eC X d β T=>by subst o0;rfl
 have uP: ∀eC X d β T,(bs G none (p.N+1) (p.n+p.m) eC X d β T)[1]? =some (some ⟨152,.box [.int .i64 0,.nil,.nil,.nil,.bool false,.nil,.nil]⟩):=fun eC X d β T=>by subst o0;rfl
 refine bR 30 (.ck [.ptr G.length 0 0,.ro (cz ((List.range p.m).map p.ey)) 0 p.m,ah p.a]) I (aU.of_eq (by rw [adC])) ?_;have BD:=BD G dL (fun h _=>pT h);have MC:(bs G none (p.N+1) (p.n+p.m) p.m (iG p) 1 (jO p) []).length=G.length+4+p.m:=by rw [iH,xc];rfl
 have hD:((List.range p.m).map p.ey).length=p.m:=b1;clear Bs;by_cases jI:0<p.a∧ax (gq p K).rows p.m p.N<0
 ·rw [apH jI] at ar;have sk:=BD jI.1;obtain ⟨o1,o2⟩:=CQ p aD K;obtain ⟨dS,eP⟩:=xo o1 J (PX aD lE);have fK:=o1.fz;obtain ⟨zf,adE⟩: ∃zf,zf=890000:=⟨_,rfl⟩
  have ja:=Wi ((List.range p.m).map (fun i=>Rat.divInt (ax (gq p K).rows p.m (p.n+i)) (gq p K).den)) ((List.range p.m).map p.ey) zf b1 (by simp;omega) (fun q aA=>by
   obtain ⟨i,aa,rfl⟩:=cS.1 aA;have aa:i<p.m:=by simpa using aa
   exact (xt J (qb (dS p.m (p.n+i) J J)) (qb eP)).mono J) (fun q aA=>by
   obtain ⟨i,aa,rfl⟩:=cS.1 aA;have aa:i<p.m:=by simpa using aa
   refine ha (qb (lE.xY _ aa)) (fN aT ?_);have:e*(p.n+1)≤1000*31:=jW BF J;omega) J
  rw [show ((List.range p.m).map (fun i=>Rat.divInt (ax (gq p K).rows p.m (p.n+i)) (gq p K).den)).length=p.m by simp,hD] at ja;have a1:r8 ((List.range p.m).map (fun i=>Rat.divInt (ax (gq p K).rows p.m (p.n+i)) (gq p K).den)) ((List.range p.m).map p.ey) p.m=lH p (gq p K) (gq p K).den:=(UB p (gq p K) (gq p K).den).symm;rw [a1] at ja;have yg:(lH p (gq p K) (gq p K).den).length=p.m:=by simp [lH]
  refine bf ?_;refine bw I (fun _=> ?_) (fun al=>absurd jI.1 J);refine bE ?_;refine Xt (G.length+3) I I I sk (fun h bQ bX=>⟨bQ,bX⟩) (fun h q=>q.1) dq ?_;intro dF bK fU;rcases fU with ⟨U,rfl,rfl⟩|⟨U,rfl,rfl⟩
  ·refine ⟨by rw [MC,iH,show (e4 p.m p.N (p.n+p.m) (An p) K).rows.length=p.m+1 from o1.n];omega,?_⟩;refine vj ((41,.ck [.ro (aO ((List.range p.m).map (fun i=>Rat.divInt (ax (gq p K).rows p.m (p.n+i)) (gq p K).den))) 0 p.m,.bool false])::[(1,.ptr 0 0 0),(2,.ptr 1 0 0),(3,ah p.n),(4,ah p.m),(5,.ptr G.length 0 0),(6,.ro (cz ((List.range p.m).map p.ey)) 0 p.m),(7,ah p.a)]) ⟨I,qT (h:=G.length+3) (L:=[(1,.ptr 0 0 0),(2,.ptr 1 0 0),(3,ah p.n),(4,ah p.m),(5,.ptr G.length 0 0),(6,.ro (cz ((List.range p.m).map p.ey)) 0 p.m),(7,ah p.a)]) aH (by
   intro q aA;simp only [gb,oX,nB] at aA;rcases aA with rfl|rfl|rfl|rfl|rfl|rfl|rfl<;>simp [ao.forget,bA,dz (show G.length≠G.length+3 by omega),dz (show 0≠G.length+3 by omega),dz (show 1≠G.length+3 by omega)])⟩ ?_
   refine bl ?_;refine aL I I I ja ?_;repeat (refine aq (ji rfl rfl rfl rfl rfl rfl) ?_)
   refine eN (c':= .box [.int .i64 1,.nil,.ro (aO (lH p (gq p K) (gq p K).den)) 0 p.m,.nil,.bool false,.nil,.nil]) I I I (uP _ _ _ _ _) I fx I I (fun aK ba aQ bd=> ?_) ?_
   ·rw [aB (ft.1 aQ)];rfl
   refine dy ?_;refine aZ ar (Jh I (Qp (uP _ _ _ _ _)) I I I) ?_;show ao.agg _=va _;unfold va;simp only [yg];rfl
  ·exact absurd jI.2 U
 have aM:=J9 aD jI;have z8:=PA p aD K aM;obtain ⟨dS,eP⟩:=xo z8.1 J (yV aD lE);have EO:=aiB p K;have dw:(cL.fE p.m (hr p K)).rows.length=p.m:=by have e:=z8.1.n;rw [EO,di] at e;exact Nat.succ.inj e
 have LL: ∀x∈(cL.fE p.m (hr p K)).rows,x.length=p.N+1:=fun x al=>z8.1.row x (by rw [EO];exact s9 _ al);have LJ: ∀i j,i<p.m→j<p.N+1→(ax (cL.fE p.m (hr p K)).rows i j).natAbs≤10^p.T e:=fun i j aa ae=>by
  have e:ax (u3 p K).rows i j=ax (cL.fE p.m (hr p K)).rows i j:=by unfold ax;rw [EO,uc [] (by rw [dw];exact aa)]
  rw [←e];exact dS i j J ae
 have B6:(hr p K).basis.length=p.m:=z8.1.b;have wD:(hr p K).den.natAbs≤10^p.T e:=eP;have x5:(u3 p K)=⟨(cL.fE p.m (hr p K)).rows++[ml (e6 p) p.N (cL.fE p.m (hr p K)) p.m],(hr p K).den,(hr p K).basis⟩:=by rw [aor (bN _),←EO];rfl
 have jH:=aha p (cL.fE p.m (hr p K));have LR:=fun i j (aa:i≤p.m) (ae:j<p.N+1)=>aoq (p:=p) (k:=e) (E:=p.T e) (s:=cL.fE p.m (hr p K)) (i:=i) (j:=j) lE J (fun q aA=>LJ q j J ae) wD ae;apply kP (H:=nO G p.N (p.n+p.m) p.m (cL.fE p.m (hr p K))) [(1,.ptr 0 0 0),(2,.ptr 1 0 0),(3,ah p.n),(4,ah p.m),(5,.ptr G.length 0 0),(6,.ro (cz ((List.range p.m).map p.ey)) 0 p.m),(7,ah p.a)]
 ·intro fin;by_cases aW:0<p.a
  ·have sk:=BD aW;rw [X4 p aD K J] at fin;refine bf ?_;refine bw I (fun _=> ?_) (fun al=>absurd aW J);refine bE ?_;refine Xt (G.length+3) I I I sk (fun h bQ bX=>⟨bQ,bX⟩) (fun h q=>q.1) dq ?_;intro dF bK fU;rcases fU with ⟨U,rfl,rfl⟩|⟨U,rfl,rfl⟩
   ·exact absurd ⟨aW,U⟩ jI
   ·have o3:(jx (p.n+p.m) (cL.fE p.m (e4 p.m p.N (p.n+p.m) (An p) K)) p.m).rows.length=p.m:=by rw [X4 p aD K J] at dw;exact dw
    refine ⟨by rw [MC,iH,o3];omega,?_⟩;refine vj ((41,.ck [.nil,.bool true])::[(1,.ptr 0 0 0),(2,.ptr 1 0 0),(3,ah p.n),(4,ah p.m),(5,.ptr G.length 0 0),(6,.ro (cz ((List.range p.m).map p.ey)) 0 p.m),(7,ah p.a)]) ⟨I,qT (h:=G.length+3) (L:=[(1,.ptr 0 0 0),(2,.ptr 1 0 0),(3,ah p.n),(4,ah p.m),(5,.ptr G.length 0 0),(6,.ro (cz ((List.range p.m).map p.ey)) 0 p.m),(7,ah p.a)]) aH (by
   intro q aA;simp only [gb,oX,nB] at aA;rcases aA with rfl|rfl|rfl|rfl|rfl|rfl|rfl<;>simp [ao.forget,bA,dz (show G.length≠G.length+3 by omega),dz (show 0≠G.length+3 by omega),dz (show 1≠G.length+3 by omega)])⟩ ?_
    refine eL ?_;refine du ?_;refine dc I ?_;refine eL ?_;exact fin _ aH
  ·have BA:p.a=0:=J;rw [ahx p K BA] at fin;refine eL ?_;refine du ?_;refine du ?_;refine dc I ?_;refine eL ?_;refine bw I (fun al=>absurd al J) (fun _=> ?_);refine eL ?_;exact fin _ aH
 generalize jd:(cL.fE p.m (hr p K)).rows=X at*;have aeC:(cL.fE p.m (hr p K)).den=(hr p K).den:=rfl;have LO:(cL.fE p.m (hr p K)).basis=(hr p K).basis:=rfl;have BS:cL.fE p.m (hr p K)=⟨X,(hr p K).den,(hr p K).basis⟩:=by rw [←jd];rfl
 rw [BS] at x5 jH LR;generalize (hr p K).den=d at*;generalize (hr p K).basis=β at*;have SY:nO G p.N (p.n+p.m) p.m (cL.fE p.m (hr p K))=bs G none (p.N+1) (p.n+p.m) p.m X d β []:=by rw [BS]
 refine jv (bs G none (p.N+1) (p.n+p.m) p.m X d β []) SY ?_;clear BD EK MC jd aeC LO BS SY EO dS eP;have Q8:=Xn p.C k an.c (show p.n≤1000 by omega) (by show k*p.n+k≤_;have:k*p.n≤2000*30:=jW EA aG;omega);have hlen: ∀T,(bs G none (p.N+1) (p.n+p.m) p.m X d β T).length=G.length+4+p.m+T.length:=fun T=>by rw [iH,dw]
 have acS:=Ev p.m X d β [];refine cX ?_;refine JV (.ck [.aC (G.length+4+p.m) 0 p.n,bA p.cE]) (bs G none (p.N+1) (p.n+p.m) p.m X d β [some ⟨116,aV (hP p.C)⟩]) I I I Q8 (by rw [hlen];show ao.ck [ao.aC (0+(G.length+4+p.m)) 0 _,_]=_;rw [cR];rfl) (by show _++[some (⟨_,(aV _).shift _⟩:bm)]=_;rw [JP,gk];rfl) ?_;have zJ:(hP p.C).length=p.n:=Jg _;have Ei: ∀j,j<p.n→((hP p.C).getD j 0).natAbs≤10^p.E e:=fun j ae=>lE.Nz _ ae;have pW: ∀j,j<p.n→ -(e6 p j)=(hP p.C).getD j 0:=fun j ae=>abr ae;have L0: ∀j,¬(j<p.n∧(hP p.C).getD j 0≠0)→e6 p j=0:=fun j ae=>aoM ae;generalize hP p.C=dY at*;clear acS Q8;refine bt ?_;refine bR 61 (.int .i64 ((p.N+1:Nat))) I (aU.of_eq (by show ao.int _ _=ao.int _ _;congr 1)) ?_;refine mh I I I I I I I I (by show (0:Int)≤_∧_≤_∧(32:Int)*_≤_∧_;omega) ?_;refine yB (bs G none (p.N+1) (p.n+p.m) p.m X d β [some ⟨116,aV dY⟩]++[some ⟨116,aV (List.replicate (p.N+1) 0)⟩]) (by simp only [di,gu,k6]) Ot ?_;refine dA (bs G none (p.N+1) (p.n+p.m) p.m X d β [some ⟨116,aV dY⟩,some ⟨116,aV (dK (fun q=> -(dY.getD q 0)*d) 0 (List.replicate (p.N+1) 0) 0)⟩]) (by rw [gk,vo];rfl) ?_;refine bR 62 (.aC (G.length+4+p.m+1) 0 (p.N+1)) I (aU.of_eq (by rw [hlen];rfl)) ?_;have uO: ∀x:Int,∀e,e≤3599990→x.natAbs≤10^e→(a7 x.natAbs).length≤400001:=fun x e he al=>yX al J;refine bt ?_;refine cF (ι:=Nat) (fun j=>[(1,.ptr 0 0 0),(2,.ptr 1 0 0),(3,ah p.n),(4,ah p.m),(5,.ptr G.length 0 0),(6,.ro (cz ((List.range p.m).map p.ey)) 0 p.m),(7,ah p.a),(10,.aC (G.length+4+p.m) 0 p.n),(11,bA p.cE),(12,.aC (G.length+4+p.m+1) 0 (p.N+1)),(63,.aC (G.length+4+p.m) 0 p.n),(64,ah p.n),(65,ah j)]) (fun j=>bs G none (p.N+1) (p.n+p.m) p.m X d β [some ⟨116,aV dY⟩,some ⟨116,aV (dK (fun q=> -(dY.getD q 0)*d) 0 (List.replicate (p.N+1) 0) j)⟩]) (fun j=>j≤p.n) (fun j=>p.n-j) 0 ⟨aH,I,cj _⟩ ?_;intro j ae;refine bh ?_;refine bw I (fun h=> ?_) (fun h=> ?_)
 ·have bd:j<p.n:=J;have mZ:=rR (fun q=> -(dY.getD q 0)*d) 0 (List.replicate (p.N+1) 0) (k:=j) (i:=j) (by simp;omega);have nK:=ua (fun q=> -(dY.getD q 0)*d) 0 (List.replicate (p.N+1) 0) (k:=j) (by simp;omega);have BP:=qV (fun q=> -(dY.getD q 0)*d) 0 (List.replicate (p.N+1) 0) j;rw [fc] at BP;generalize aqD:dK (fun q=> -(dY.getD q 0)*d) 0 (List.replicate (p.N+1) 0) j=Y at*;have eU:=gl (G:=G) (F:=none) (L:=p.N+1) (w:=p.n+p.m) (k:=p.m) (X:=X) (d:=d) (β:=β) (T:=[some ⟨116,aV dY⟩,some ⟨116,aV Y⟩]) 0;rw [dw,fg] at eU;have g0:j<(aV dY).len:=by show j<dY.length;omega
  refine cX ?_;refine dA (bs G none (p.N+1) (p.n+p.m) p.m X d β [some ⟨116,aV dY⟩,some ⟨116,aV Y⟩,some ⟨116,.box [.bool false,.nil]⟩]) (by rw [gk];rfl) ?_;refine bR 14 (.ptr (G.length+4+p.m+2) 0 0) I (aU.of_eq (by rw [hlen];rfl)) ?_;refine bR 69 (ej (dY.getD j 0)) I (aU.of_eq I) ?_;have bX:=gl (G:=G) (F:=none) (L:=p.N+1) (w:=p.n+p.m) (k:=p.m) (X:=X) (d:=d) (β:=β) (T:=[some ⟨116,aV dY⟩,some ⟨116,aV Y⟩,some ⟨116,.box [.bool false,.nil]⟩]) 2;rw [dw] at bX;refine eN (c':= .box (cO (dY.getD j 0))) I I I bX I fx I I (fun aK ba aQ bd=> ?_) ?_
  ·rw [aB (ft.1 aQ)];rfl
  refine dA (bs G none (p.N+1) (p.n+p.m) p.m X d β [some ⟨116,aV dY⟩,some ⟨116,aV Y⟩,some ⟨116,.box (cO (dY.getD j 0))⟩]) (by have q:=j2 (G:=G) (F:=none) (L:=p.N+1) (w:=p.n+p.m) (k:=p.m) (X:=X) (d:=d) (β:=β) (T:=[some ⟨116,aV dY⟩,some ⟨116,aV Y⟩,some ⟨116,.box [.bool false,.nil]⟩]) 2 (some ⟨116,.box (cO (dY.getD j 0))⟩);rw [dw] at q;exact q) ?_;clear eU bX;have f1:=ik (G:=G) (F:=none) (L:=p.N+1) (w:=p.n+p.m) (k:=p.m) (X:=X) (d:=d) (β:=β) (T:=[some ⟨116,aV dY⟩,some ⟨116,aV Y⟩,some ⟨116,.box (cO (dY.getD j 0))⟩]);have bQ:=gl (G:=G) (F:=none) (L:=p.N+1) (w:=p.n+p.m) (k:=p.m) (X:=X) (d:=d) (β:=β) (T:=[some ⟨116,aV dY⟩,some ⟨116,aV Y⟩,some ⟨116,.box (cO (dY.getD j 0))⟩]) 1;have bX:=gl (G:=G) (F:=none) (L:=p.N+1) (w:=p.n+p.m) (k:=p.m) (X:=X) (d:=d) (β:=β) (T:=[some ⟨116,aV dY⟩,some ⟨116,aV Y⟩,some ⟨116,.box (cO (dY.getD j 0))⟩]) 2;rw [dw] at bQ bX;have g1:j<(aV Y).len:=by show j<Y.length;omega
  have co:=AS (dY.getD j 0);have hl:=p7 (-(dY.getD j 0)) d (by rw [qu];have:=uO _ _ J (Ei j bd);omega) (by have:=uO _ _ J wD;omega);refine bE ?_;refine ee ag ?_;refine eM (fuel:=1) [0,1,2,3,4,5,6,7,8,9] [(1,.ptr 0 0 0),(2,.ptr 1 0 0),(3,ah p.n),(4,ah p.m),(5,.ptr G.length 0 0),(6,.ro (cz ((List.range p.m).map p.ey)) 0 p.m),(7,ah p.a),(10,.aC (G.length+4+p.m) 0 p.n),(11,bA p.cE),(12,.aC (G.length+4+p.m+1) 0 (p.N+1)),(63,.aC (G.length+4+p.m) 0 p.n),(64,ah p.n),(65,ah j),(13,ah j),(14,.ptr (G.length+4+p.m+2) 0 0)] aH ag aT I I ?_;refine cI ?_;refine dW I I I I I co ?_;refine cI ?_;refine dW I I I I I hl ?_;refine cI ?_;refine eI ?_;refine bn 10 ?_;refine eN (c':=aV (Y.set j (-(dY.getD j 0)*d))) I I I bQ I g1 (da ..) I (vu Y j _) ?_;refine dA (bs G none (p.N+1) (p.n+p.m) p.m X d β [some ⟨116,aV dY⟩,some ⟨116,aV (Y.set j (-(dY.getD j 0)*d))⟩,some ⟨116,.box (cO (dY.getD j 0))⟩]) (by have q:=j2 (G:=G) (F:=none) (L:=p.N+1) (w:=p.n+p.m) (k:=p.m) (X:=X) (d:=d) (β:=β) (T:=[some ⟨116,aV dY⟩,some ⟨116,aV Y⟩,some ⟨116,.box (cO (dY.getD j 0))⟩]) 1 (some ⟨116,aV (Y.set j (-(dY.getD j 0)*d))⟩);rw [dw] at q;exact q) (bp ?_);refine dX ag ?_;repeat (refine kQ ?_)
  refine b6 ?_;refine fB (bs G none (p.N+1) (p.n+p.m) p.m X d β [some ⟨116,aV dY⟩,some ⟨116,aV (Y.set j (-(dY.getD j 0)*d))⟩]) [some ⟨116,.box (cO (dY.getD j 0))⟩] [(1,.ptr 0 0 0),(2,.ptr 1 0 0),(3,ah p.n),(4,ah p.m),(5,.ptr G.length 0 0),(6,.ro (cz ((List.range p.m).map p.ey)) 0 p.m),(7,ah p.a),(10,.aC (G.length+4+p.m) 0 p.n),(11,bA p.cE),(12,.aC (G.length+4+p.m+1) 0 (p.N+1)),(63,.aC (G.length+4+p.m) 0 p.n),(64,ah p.n),(65,ah j)] (by rw [gk];rfl) aH (fun h aX=>by rw [bJ] at aX;exact aX.elim)
   (rQ dL _ (by rw [hlen,dw];exact oU _ _) (fun o ai=>by cases ai) (fun o ai=>by
    simp only [gb,oX,nB] at ai;rcases ai with e|e<;>cases e<;>exact fun aK ba aQ bd=>NH _ _ _ bd)) (by rw [hlen];simp [kr,gV,bA];omega) ?_
  refine bt ?_;exact cc ⟨j+1,J,J,aH,by rw [←nK]⟩
 have hc:j=p.n:=J;rw [hc,jH];clear ae h hc;clear j;have f1:=ik (G:=G) (F:=none) (L:=p.N+1) (w:=p.n+p.m) (k:=p.m) (X:=X) (d:=d) (β:=β) (T:=[some ⟨116,aV dY⟩,some ⟨116,aV (ml (e6 p) p.N ⟨X,d,β⟩ 0)⟩]);rw [B6] at f1;refine u7 ?_;refine cF (ι:=Nat) (fun i=>[(1,.ptr 0 0 0),(2,.ptr 1 0 0),(3,ah p.n),(4,ah p.m),(5,.ptr G.length 0 0),(6,.ro (cz ((List.range p.m).map p.ey)) 0 p.m),(7,ah p.a),(10,.aC (G.length+4+p.m) 0 p.n),(11,bA p.cE),(12,.aC (G.length+4+p.m+1) 0 (p.N+1)),(84,.aC (G.length+2) 0 p.m),(85,ah p.m),(86,ah i)]) (fun i=>bs G none (p.N+1) (p.n+p.m) p.m X d β [some ⟨116,aV dY⟩,some ⟨116,aV (ml (e6 p) p.N ⟨X,d,β⟩ i)⟩]) (fun i=>i≤p.m) (fun i=>p.m-i) 0 ⟨aH,I,cj _⟩ ?_;clear f1;intro i aa;refine bh ?_;refine bw I (fun h=> ?_) (fun h=> ?_)
 ·have aQ:i<p.m:=J;have f2:=vC (G:=G) (F:=none) (L:=p.N+1) (w:=p.n+p.m) (k:=p.m) (X:=X) (d:=d) (β:=β) (T:=[some ⟨116,aV dY⟩,some ⟨116,aV (ml (e6 p) p.N ⟨X,d,β⟩ i)⟩]);have g2:i<(β.map (fun a:Nat=>(a:Int))).length:=by rw [cW,B6];exact aQ
  have hC:=Ju (e6 p) p.N ⟨X,d,β⟩ i;have LV:=Ju (e6 p) p.N ⟨X,d,β⟩ (i+1);have l5:=fun j (ae:j<p.N+1)=>anx (k:=e6 p) (N:=p.N) (s:=⟨X,d,β⟩) (i:=i) ae;have H3:=fun h=>anz (k:=e6 p) (N:=p.N) (s:=⟨X,d,β⟩) (i:=i) h;have mX:=fun j (ae:j<p.N+1)=>LR i j J ae;have E1:(X.getD i []).length=p.N+1:=LL _ (dv [] J);generalize Ee:(ml (e6 p) p.N ⟨X,d,β⟩ (i+1))=gx at*;generalize aqo:(ml (e6 p) p.N ⟨X,d,β⟩ i)=gL at*;have eU:=gl (G:=G) (F:=none) (L:=p.N+1) (w:=p.n+p.m) (k:=p.m) (X:=X) (d:=d) (β:=β) (T:=[some ⟨116,aV dY⟩,some ⟨116,aV gL⟩]) 0;rw [dw,fg] at eU;by_cases ak:β.getD i 0<p.n
  ·have g0:β.getD i 0<(aV dY).len:=by show _<dY.length;omega
   have cs:=yM (dY.getD (β.getD i 0) 0);refine cX ?_;refine bR 16 (ah (β.getD i 0)) I (aU.of_eq (by rw [rN])) ?_;refine bR 94 (.bool true) I (aU.of_eq (by rw [rN,eG (by show ((β.getD i 0:Nat):Int)<((p.n:Nat):Int);omega)])) ?_;refine fS ?_;refine bR 98 (ej (dY.getD (β.getD i 0) 0)) I (aU.of_eq I) ?_;refine aL I I I cs (bt ?_);refine bw I (fun U=> ?_) (fun U=> ?_)
   ·have aew:=pW _ ak;have QT:=Ei _ ak;clear f2 g2 eU;refine bt ?_;refine cF (ι:=Nat) (fun j=>[(1,.ptr 0 0 0),(2,.ptr 1 0 0),(3,ah p.n),(4,ah p.m),(5,.ptr G.length 0 0),(6,.ro (cz ((List.range p.m).map p.ey)) 0 p.m),(7,ah p.a),(10,.aC (G.length+4+p.m) 0 p.n),(11,bA p.cE),(12,.aC (G.length+4+p.m+1) 0 (p.N+1)),(84,.aC (G.length+2) 0 p.m),(85,ah p.m),(86,ah i),(15,ah i),(16,ah (β.getD i 0)),(103,.int .i64 ((p.N+1:Nat))),(104,ah j)]) (fun j=>bs G none (p.N+1) (p.n+p.m) p.m X d β [some ⟨116,aV dY⟩,some ⟨116,aV (dK (fun j=>gx.getD j 0) 0 gL j)⟩]) (fun j=>j≤p.N+1) (fun j=>p.N+1-j) 0 ⟨aH,by rw [vo],cj _⟩ ?_;intro j ae;refine bh ?_;refine bw I (fun ab=> ?_) (fun ab=> ?_)
    ·have bd:j<p.N+1:=J;have mZ:=rR (fun j=>gx.getD j 0) 0 gL (k:=j) (i:=j) J;rw [aw (oQ j)] at mZ;have nK:=ua (fun j=>gx.getD j 0) 0 gL (k:=j) J;have BP:=qV (fun j=>gx.getD j 0) 0 gL j;have SJ:=l5 j bd;rw [aew,←mZ] at SJ;rw [SJ] at nK;have DJ:=mX j bd;rw [←mZ] at DJ;generalize dK (fun j=>gx.getD j 0) 0 gL j=Y at*;have bQ:=ik (G:=G) (F:=none) (L:=p.N+1) (w:=p.n+p.m) (k:=p.m) (X:=X) (d:=d) (β:=β) (T:=[some ⟨116,aV dY⟩,some ⟨116,aV Y⟩]);have bX:=nU (G:=G) (F:=none) (L:=p.N+1) (w:=p.n+p.m) (k:=p.m) (X:=X) (d:=d) (β:=β) (T:=[some ⟨116,aV dY⟩,some ⟨116,aV Y⟩]);have dr:=nr (G:=G) (F:=none) (L:=p.N+1) (w:=p.n+p.m) (k:=p.m) (X:=X) (d:=d) (β:=β) (T:=[some ⟨116,aV dY⟩,some ⟨116,aV Y⟩]) (a:=i) J;have en:=gl (G:=G) (F:=none) (L:=p.N+1) (w:=p.n+p.m) (k:=p.m) (X:=X) (d:=d) (β:=β) (T:=[some ⟨116,aV dY⟩,some ⟨116,aV Y⟩]) 0;have gT:=gl (G:=G) (F:=none) (L:=p.N+1) (w:=p.n+p.m) (k:=p.m) (X:=X) (d:=d) (β:=β) (T:=[some ⟨116,aV dY⟩,some ⟨116,aV Y⟩]) 1;rw [dw] at en gT;rw [fg] at en;have g3:i<(fj G.length X.length (p.N+1)).len:=by show i<X.length;omega
     have g4:j<(aV (X.getD i [])).len:=by show j<(X.getD i []).length;omega
     have g5:j<(aV Y).len:=by show j<Y.length;omega
     have QU:=LJ i j aQ bd;have afH:(dY.getD (β.getD i 0) 0*ax X i j).natAbs≤10^(p.E e+p.T e):=by rw [ke,iN];exact jW QT QU
     have hl:=p7 (dY.getD (β.getD i 0) 0) (ax X i j) (by have:=uO _ _ J QT;omega) (by have:=uO _ _ J QU;omega);have sj:=P8 (Y.getD j 0) (dY.getD (β.getD i 0) 0*ax X i j) (by have:=uO _ _ J DJ;omega) (by have:=uO _ _ J afH;omega);refine bp ?_;refine ee ag ?_;refine eM (fuel:=1) [0,1,2,3,4,5,6,7,8,9,10,11,12,13,14,15,16,17,18,19,20,21,22] [(1,.ptr 0 0 0),(2,.ptr 1 0 0),(3,ah p.n),(4,ah p.m),(5,.ptr G.length 0 0),(6,.ro (cz ((List.range p.m).map p.ey)) 0 p.m),(7,ah p.a),(10,.aC (G.length+4+p.m) 0 p.n),(11,bA p.cE),(12,.aC (G.length+4+p.m+1) 0 (p.N+1)),(84,.aC (G.length+2) 0 p.m),(85,ah p.m),(86,ah i),(15,ah i),(16,ah (β.getD i 0)),(103,.int .i64 ((p.N+1:Nat))),(104,ah j),(17,ah j)] aH ag aT I I ?_;refine cI ?_;refine dW I I I I I hl ?_;refine dW I I I I I sj ?_;refine cI ?_;refine eI ?_;refine bn 23 ?_;refine eN (c':=aV (Y.set j (Y.getD j 0+dY.getD (β.getD i 0) 0*ax X i j))) I I I gT I g5 (da ..) I (vu Y j _) ?_;refine dA (bs G none (p.N+1) (p.n+p.m) p.m X d β [some ⟨116,aV dY⟩,some ⟨116,aV (Y.set j (Y.getD j 0+dY.getD (β.getD i 0) 0*ax X i j))⟩]) (by have q:=j2 (G:=G) (F:=none) (L:=p.N+1) (w:=p.n+p.m) (k:=p.m) (X:=X) (d:=d) (β:=β) (T:=[some ⟨116,aV dY⟩,some ⟨116,aV Y⟩]) 1 (some ⟨116,aV (Y.set j (Y.getD j 0+dY.getD (β.getD i 0) 0*ax X i j))⟩);rw [dw] at q;exact q) (bp ?_);refine dX ag (bl ?_);exact cc ⟨j+1,J,J,aH,by rw [←nK]⟩
    ·have hc:j=p.N+1:=J;subst hc;rw [Rc hC LV];refine bl ?_;exact cc ⟨i+1,J,J,aH,by rw [Ee]⟩
   ·have bB:dY.getD (β.getD i 0) 0=0:=Decidable.byContradiction (fun q=>U (fun e=>q (by rw [Oz] at e;exact e)));have e:=H3 (L0 _ (fun q=>q.2 bB));refine bl ?_;exact cc ⟨i+1,J,J,aH,by rw [Ee,e]⟩
  ·have e:=H3 (L0 _ (fun q=>ak q.1));refine cX ?_;refine bR 94 (.bool false) I (aU.of_eq (by rw [rN,fP (by show¬((β.getD i 0:Nat):Int)<((p.n:Nat):Int);omega)])) (bf ?_);exact cc ⟨i+1,J,J,aH,by rw [Ee,e]⟩
 have dn:i=p.m:=J;rw [dn];clear aa h dn;clear i;have aqt:=Ju (e6 p) p.N ⟨X,d,β⟩ p.m;generalize (ml (e6 p) p.N ⟨X,d,β⟩ p.m)=kC at*;clear LR pW L0 jH;have jg:=gl (G:=G) (F:=none) (L:=p.N+1) (w:=p.n+p.m) (k:=p.m) (X:=X) (d:=d) (β:=β) (T:=[some ⟨116,aV dY⟩,some ⟨116,aV kC⟩]) 1;rw [dw] at jg;refine eL ?_;refine P0 (G.length+4+p.m) (G.length+4+p.m+1) 12 (p.N+1) J (by rw [hlen];show G.length+4+p.m<G.length+4+p.m+2;omega) jg dq I ?_;refine PZ ((12,.aC (G.length+4+p.m) 0 (p.N+1))::[(1,.ptr 0 0 0),(2,.ptr 1 0 0),(3,ah p.n),(4,ah p.m),(5,.ptr G.length 0 0),(6,.ro (cz ((List.range p.m).map p.ey)) 0 p.m),(7,ah p.a),(11,bA p.cE)]) ⟨I,qT (h:=G.length+4+p.m) (L:=[(1,.ptr 0 0 0),(2,.ptr 1 0 0),(3,ah p.n),(4,ah p.m),(5,.ptr G.length 0 0),(6,.ro (cz ((List.range p.m).map p.ey)) 0 p.m),(7,ah p.a),(11,bA p.cE)]) aH (by
  intro q aA;simp only [gb,oX,nB] at aA;rcases aA with rfl|rfl|rfl|rfl|rfl|rfl|rfl|rfl<;>simp [ao.forget,bA,dz (show G.length≠G.length+4+p.m by omega),dz (show 0≠G.length+4+p.m by omega),dz (show 1≠G.length+4+p.m by omega)])⟩ ?_
 refine mJ (bs G none (p.N+1) (p.n+p.m) p.m X d β [some ⟨116,aV kC⟩,none]) (by
  have q:=aP.set (aP.set (O0 (G:=G) (L:=p.N+1) (w:=p.n+p.m) (k:=p.m) (X:=X) (d:=d) (β:=β) (T:=[some ⟨116,aV dY⟩,some ⟨116,aV kC⟩]) (jC:=[some ⟨116,aV dY⟩,some ⟨116,aV kC⟩]) (G.length+4+p.m) (pT _) J (by show aP [some (⟨_,(aV dY).forget _⟩:bm),some (⟨_,(aV kC).forget _⟩:bm)] _;rw [ph,ph];exact aP.refl _)) (G.length+4+p.m) (x:=some ⟨116,(aV kC).forget (G.length+4+p.m)⟩) (x':=some ⟨116,aV kC⟩) (fun o ai=>by cases ai;exact ⟨_,rfl,rfl,by rw [ph];exact cG.refl _⟩)) (G.length+4+p.m+1) (x:=none) (x':=none) (fun o ai=>by cases ai);have aE:(bs G none (p.N+1) (p.n+p.m) p.m X d β [some ⟨116,aV dY⟩,some ⟨116,aV kC⟩]).set (G.length+4+p.m) (some ⟨116,aV kC⟩)=bs G none (p.N+1) (p.n+p.m) p.m X d β [some ⟨116,aV kC⟩,some ⟨116,aV kC⟩]:=by have q:=j2 (G:=G) (F:=none) (L:=p.N+1) (w:=p.n+p.m) (k:=p.m) (X:=X) (d:=d) (β:=β) (T:=[some ⟨116,aV dY⟩,some ⟨116,aV kC⟩]) 0 (some ⟨116,aV kC⟩);rw [dw] at q;exact q
  have aF:=j2 (G:=G) (F:=none) (L:=p.N+1) (w:=p.n+p.m) (k:=p.m) (X:=X) (d:=d) (β:=β) (T:=[some ⟨116,aV kC⟩,some ⟨116,aV kC⟩]) 1 none;rw [dw] at aF;rw [aE] at q;exact (show aP _ _ from aF▸q)) ?_
 refine fB (bs G none (p.N+1) (p.n+p.m) p.m X d β [some ⟨116,aV kC⟩]) [none] ((12,.aC (G.length+4+p.m) 0 (p.N+1))::[(1,.ptr 0 0 0),(2,.ptr 1 0 0),(3,ah p.n),(4,ah p.m),(5,.ptr G.length 0 0),(6,.ro (cz ((List.range p.m).map p.ey)) 0 p.m),(7,ah p.a),(11,bA p.cE)]) (by rw [gk];rfl) aH (fun h aX=>by rw [bJ] at aX;exact aX.elim)
  (rQ dL _ (by rw [hlen,dw];exact oU _ _) (fun o ai=>by cases ai) (fun o ai=>by cases hk.1 ai;exact fun aK ba aQ bd=>NH _ _ _ bd)) (by rw [hlen];simp [kr,gV,bA];omega) ?_
 clear jg;have f1:=ik (G:=G) (F:=none) (L:=p.N+1) (w:=p.n+p.m) (k:=p.m) (X:=X) (d:=d) (β:=β) (T:=[some ⟨116,aV kC⟩]);refine cX ?_;refine ve I I I I I I I I I I ?_;refine dA (bs G none (p.N+1) (p.n+p.m) p.m X d β [some ⟨116,aV kC⟩,some ⟨243,fM 1 1 [.aC (G.length+4+p.m) 0 (p.N+1)]⟩]) (by rw [gk];rfl) ?_;refine bR 138 (.aC (G.length+4+p.m+1) 0 1) I (aU.of_eq (by rw [hlen];rfl)) ?_;have f2:=nU (G:=G) (F:=none) (L:=p.N+1) (w:=p.n+p.m) (k:=p.m) (X:=X) (d:=d) (β:=β) (T:=[some ⟨116,aV kC⟩,some ⟨243,fM 1 1 [.aC (G.length+4+p.m) 0 (p.N+1)]⟩]);have f3:=gl (G:=G) (F:=none) (L:=p.N+1) (w:=p.n+p.m) (k:=p.m) (X:=X) (d:=d) (β:=β) (T:=[some ⟨116,aV kC⟩,some ⟨243,fM 1 1 [.aC (G.length+4+p.m) 0 (p.N+1)]⟩]) 1;rw [dw] at f3;have om:(fj G.length X.length (p.N+1)).len=p.m:=dw;skip
 refine dI I I I I I I I f2 I om I (C9 f3) eu I (by show (p.m+1)*24≤_∧_;omega) ?_ dq ?_
 ·intro aK ba aQ bd;obtain rfl:=ft.1 (show ba<1 from bd);have q:=(CR G.length X.length (p.N+1) (fM 1 1 [ao.aC (G.length+4+p.m) 0 (p.N+1)]) (by rw [dw];rfl)).2.2 aK 0 aQ fx;refine tk (congrArg (ao.forget _) q.symm) (tk ?_ q);show ao.forget _ (ao.aC (G.length+4+aK) 0 (p.N+1))=_;unfold ao.forget;rw [dz (show G.length+4+aK≠G.length+3 by omega)];rfl
 refine vj ((139,.aC (G.length+3) 0 (p.m+1))::(132,.ptr G.length 0 0)::[(1,.ptr 0 0 0),(2,.ptr 1 0 0),(3,ah p.n),(4,ah p.m),(5,.ptr G.length 0 0),(6,.ro (cz ((List.range p.m).map p.ey)) 0 p.m),(7,ah p.a),(11,bA p.cE)]) ⟨I,qT (h:=G.length+3) (L:=(132,.ptr G.length 0 0)::[(1,.ptr 0 0 0),(2,.ptr 1 0 0),(3,ah p.n),(4,ah p.m),(5,.ptr G.length 0 0),(6,.ro (cz ((List.range p.m).map p.ey)) 0 p.m),(7,ah p.a),(11,bA p.cE)]) aH (by
  intro q aA;simp only [gb,oX,nB] at aA;rcases aA with rfl|rfl|rfl|rfl|rfl|rfl|rfl|rfl|rfl<;>simp [ao.forget,bA,dz (show G.length≠G.length+3 by omega),dz (show 0≠G.length+3 by omega),dz (show 1≠G.length+3 by omega)])⟩ ?_
 refine fD (Gq G (p.N+1) (p.n+p.m) (X++[kC]) d β [none]) (Xh (pT _) (CR G.length X.length (p.N+1) _ (by rw [dw];rfl))) (cX ?_);refine lL I I I I YL I I fx ?_;refine dA (bs G none (p.N+1) (p.n+p.m) (p.m+1) (X++[kC]) d β [none]) YM ?_;refine eL ?_;have wH:(X++[kC]).length=p.m+1:=by rw [di,dw];rfl
 refine fB (bs G none (p.N+1) (p.n+p.m) (p.m+1) (X++[kC]) d β []) [none] [(1,.ptr 0 0 0),(2,.ptr 1 0 0),(3,ah p.n),(4,ah p.m),(5,.ptr G.length 0 0),(6,.ro (cz ((List.range p.m).map p.ey)) 0 p.m),(7,ah p.a),(11,bA p.cE)] (by rw [gk];rfl) aH (fun h aX=>by rw [bJ] at aX;exact aX.elim)
  (rQ dL _ (by rw [iH];exact oU _ _) (fun o ai=>by cases ai) (fun o ai=>by cases ai)) (by rw [iH,wH];simp [kr,gV,bA];omega) ?_
 refine jv (nO G p.N (p.n+p.m) (p.m+1) (u3 p K)) (by rw [x5]) ?_;have dB:=Ub G dL p.m p.N (p.n+p.m) (M2 p) (u3 p K) z8.1 z8.2.1 (mQ p) L (az.two jI) (p.T e) J J (fun u hu=>xo hu J (yV aD lE)) J;obtain ⟨qK,MI,_⟩:=O2 p aD K L aM;have L5:=fun h=>apG (K:=K) (L:=L) jI h;have aek:=fun h=>apF (K:=K) (L:=L) jI h;obtain ⟨dS,eP⟩:=xo qK J (yV aD lE);have aqK:=abp p (jS p K L);refine bE ?_;refine sL I I I dB (fun _ h=>h) (fun _ h=>h) ?_;rintro dF bK ⟨rfl,rfl⟩;clear dB f1 f2 f3 om x5 dw LL LJ B6 wD hlen wH z8 az;have aF:e4 p.m p.N (p.n+p.m) (u3 p K) L=jS p K L:=rfl;rw [aF];clear aF;generalize jS p K L=t at*;have wK:=qK.n;have qJ:=qK.b;have lD:=qK.row;have hd:t.den≠0:=by have:=qK.fz;omega
 have f1:=ik (G:=G) (F:=none) (L:=p.N+1) (w:=p.n+p.m) (k:=(p.m+1)) (X:=t.rows) (d:=t.den) (β:=t.basis) (T:=[]);have f2:=nU (G:=G) (F:=none) (L:=p.N+1) (w:=p.n+p.m) (k:=(p.m+1)) (X:=t.rows) (d:=t.den) (β:=t.basis) (T:=[]);refine bE ?_;refine ee ag ?_;refine eM (fuel:=4) [0,1,2,3,4,5,6,7,8,9,10,11,12,13] [(1,.ptr 0 0 0),(2,.ptr 1 0 0),(3,ah p.n),(4,ah p.m),(5,.ptr G.length 0 0),(6,.ro (cz ((List.range p.m).map p.ey)) 0 p.m),(7,ah p.a),(11,bA p.cE),(18,.int .i64 (Ch p.m (p.n+p.m) t))] aH ag aT I I ?_;refine bT I I (bD I) ?_;refine bT I I (bD I) ?_;refine bT I I (kA I) ?_;refine bT I I (ds I I I I I I) ?_;refine bT I I (pc I I I h2 ll) ?_;refine bT I I (bD I) ?_;refine bT I I (I7 I I f2 I I I I I ⟨I,J,J⟩) ?_;refine cI ?_;refine eI ?_;refine bF 14 I ag ag ag I (kA I) I ?_;refine bF 15 I ag ag ag I (ds I I I I I I) I ?_;refine bn 16 ?_;refine bR 150 (.aC (G.length+3) 0 p.m) I (aU.of_eq I) ?_;refine lL I I I I f1 I I fx ?_;refine dA (bs G none (p.N+1) (p.n+p.m) p.m t.rows t.den t.basis []) (On p.m (p.n+p.m) t.den) (bp ?_);refine bF 17 I ag ag ag I (dC I) I ?_;refine dX ag ?_;repeat (refine b6 ?_)
 refine ea 12 (.aC (G.length+4+p.m) 0 (p.N+1)) I (aU.of_eq I) ?_;clear f1 f2;have rz:(mK p t).length=p.n:=by unfold mK;rw [xi];simp
 have EP: ∀i j,i<p.m+1→j<p.N+1→(a7 (ax t.rows i j).natAbs).length≤400001:=fun i j aa ae=>uO _ _ J (dS i j aa ae);have o3:(a7 t.den.natAbs).length≤400001:=uO _ _ J eP;by_cases av:gQ p.m (p.n+p.m) t<p.n+p.m
 ·rw [L5 av] at ar;have hw:=mQ p;have D1:=FH G dL p.N (p.n+p.m) p.m t.rows t.den t.basis [] (fun m _ o ai=>by cases ai) p.n J J J J lD J hd (fun i aa=>by have:=EP i p.N J J;omega) J;have Bv:=ajo G dL p.N (p.n+p.m) p.m t.rows t.den t.basis [] (fun m _ o ai=>by cases ai) p.n (gQ p.m (p.n+p.m) t) J J J J J lD J hd (fun i aa=>by have:=EP i (gQ p.m (p.n+p.m) t) J J;omega) J;rw [qJ] at D1 Bv;have fk:(pC p t (gQ p.m (p.n+p.m) t)).length=p.n:=by unfold pC;rw [xi];exact F1 _ _
  refine ea 18 (ah (gQ p.m (p.n+p.m) t)) I (aU.of_eq (by unfold Ch;rw [aw J])) (u5 ?_);refine sL I I I D1 (fun _ h=>h) (fun _ h=>h) ?_;rintro dF bK ⟨rfl,rfl⟩;repeat (refine aq (bD rfl) ?_)
  refine sL I I I Bv (fun _ h=>h) (fun _ h=>h) ?_;rintro dF bK ⟨rfl,rfl⟩;repeat (refine aq (ji rfl rfl rfl rfl rfl rfl) ?_)
  refine eN (c':= .box [.int .i64 2,.ro (aO (mK p t)) 0 p.n,.nil,.ro (aO (pC p t (gQ p.m (p.n+p.m) t))) 0 p.n,.bool false,.nil,.nil]) I I I (uP _ _ _ _ _) I fx I I (fun aK ba aQ bd=> ?_) ?_
  ·rw [aB (ft.1 aQ)];rfl
  refine dy ?_;refine aZ ar (Jh I (Qp (uP _ _ _ _ _)) I I I) ?_;show ao.agg _=va _;unfold va;simp only [rz,fk];rfl
 ·rw [aek av] at ar;have zO:gQ p.m (p.n+p.m) t=p.n+p.m:=J;refine ea 18 (.int .i64 (-1)) I (aU.of_eq (by unfold Ch;rw [aB zO])) ?_;have aqP:(a7 ((p.cE:Nat):Int).natAbs).length≤400001:=uO _ (e*p.n) (by have:e*p.n≤1000*30:=jW BF aG;omega) (by rw [k7];exact lE.cE);have Sq:=Ds p;have fK:t.den*(p.cE:Nat)≠0:=by have:=xR qK.fz (show (0:Int)<((p.cE:Nat):Int) by omega);omega
  have EC:e*p.n≤30000:=jW BF aG;have SQ:(t.den*(p.cE:Nat)).natAbs≤10^(p.T e+e*p.n):=by rw [ke,k7,iN];exact jW eP (lE.cE)
  have iw:=uO _ _ J SQ;have hl:=p7 t.den ((p.cE:Nat):Int) J J;rw [agO] at hl;have hw:=mQ p;have dr:=nr (G:=G) (F:=none) (L:=p.N+1) (w:=p.n+p.m) (k:=p.m) (X:=t.rows) (d:=t.den) (β:=t.basis) (T:=[]) (a:=p.m) J;clear dr;refine fe ?_;refine dA (bs G none (p.N+1) (p.n+p.m) p.m t.rows t.den t.basis [some ⟨116,.box [.bool false,.nil]⟩]) (by rw [gk];rfl) ?_;refine bR 19 (.ptr (G.length+4+(p.m+1)) 0 0) I (aU.of_eq (by rw [iH,wK];rfl)) ?_;refine bR 171 (.agg [.bool false,bA p.cE]) I (aU.of_eq I) ?_;have eU:=gl (G:=G) (F:=none) (L:=p.N+1) (w:=p.n+p.m) (k:=p.m) (X:=t.rows) (d:=t.den) (β:=t.basis) (T:=[some ⟨116,.box [.bool false,.nil]⟩]) 0;rw [wK,fg] at eU;refine eN (c':= .box [.bool false,bA p.cE]) I I I eU I fx I I (fun aK ba aQ bd=> ?_) ?_
  ·rw [aB (ft.1 aQ)];rfl
  refine dA (bs G none (p.N+1) (p.n+p.m) p.m t.rows t.den t.basis [some ⟨116,.box [.bool false,bA p.cE]⟩]) (by have q:=j2 (G:=G) (F:=none) (L:=p.N+1) (w:=p.n+p.m) (k:=p.m) (X:=t.rows) (d:=t.den) (β:=t.basis) (T:=[some ⟨116,.box [.bool false,.nil]⟩]) 0 (some ⟨116,.box [.bool false,bA p.cE]⟩);rw [wK,fg] at q;exact q) ?_;clear eU;refine bE ?_;refine lK 20 ⟨118,aO ((List.range 0).map (fun i=>Rat.divInt (ax t.rows p.m (p.n+i)) (t.den*(p.cE:Nat))))⟩ I I ?_;refine jv (bs G none (p.N+1) (p.n+p.m) p.m t.rows t.den t.basis [some ⟨116,.box [.bool false,bA p.cE]⟩,some ⟨118,aO ((List.range 0).map (fun i=>Rat.divInt (ax t.rows p.m (p.n+i)) (t.den*(p.cE:Nat))))⟩]) (by rw [gk];rfl) ?_;refine ea 20 (.aC (G.length+4+(p.m+1)+1) 0 0) I (aU.of_eq (by rw [iH,wK];rfl)) ?_;have yg: ∀i,((List.range i).map (fun i=>Rat.divInt (ax t.rows p.m (p.n+i)) (t.den*(p.cE:Nat)))).length=i:=fun i=>by simp
  repeat (refine fV ?_)
  refine cF (ι:=Nat) (fun i=>[(1,.ptr 0 0 0),(2,.ptr 1 0 0),(3,ah p.n),(4,ah p.m),(5,.ptr G.length 0 0),(6,.ro (cz ((List.range p.m).map p.ey)) 0 p.m),(7,ah p.a),(11,bA p.cE),(12,.aC (G.length+4+p.m) 0 (p.N+1)),(19,.ptr (G.length+4+(p.m+1)) 0 0),(20,.aC (G.length+4+(p.m+1)+1) 0 i),(172,ah p.m),(173,ah i)]) (fun i=>bs G none (p.N+1) (p.n+p.m) p.m t.rows t.den t.basis [some ⟨116,.box [.bool false,bA p.cE]⟩,some ⟨118,aO ((List.range i).map (fun i=>Rat.divInt (ax t.rows p.m (p.n+i)) (t.den*(p.cE:Nat))))⟩]) (fun i=>i≤p.m) (fun i=>p.m-i) 0 ⟨aH,I,cj _⟩ ?_;intro i aa;refine bh ?_;refine bw I (fun h=> ?_) (fun h=> ?_)
  ·have aQ:i<p.m:=J;have MQ:((List.range (i+1)).map (fun i=>Rat.divInt (ax t.rows p.m (p.n+i)) (t.den*(p.cE:Nat))))=((List.range i).map (fun i=>Rat.divInt (ax t.rows p.m (p.n+i)) (t.den*(p.cE:Nat))))++[Rat.divInt (ax t.rows p.m (p.n+i)) (t.den*(p.cE:Nat))]:=by rw [ti,hb];rfl
   have MP:=yg i;generalize ((List.range i).map (fun i=>Rat.divInt (ax t.rows p.m (p.n+i)) (t.den*(p.cE:Nat))))=Y at*;have bQ:=ik (G:=G) (F:=none) (L:=p.N+1) (w:=p.n+p.m) (k:=p.m) (X:=t.rows) (d:=t.den) (β:=t.basis) (T:=[some ⟨116,.box [.bool false,bA p.cE]⟩,some ⟨118,aO Y⟩]);have dr:=nr (G:=G) (F:=none) (L:=p.N+1) (w:=p.n+p.m) (k:=p.m) (X:=t.rows) (d:=t.den) (β:=t.basis) (T:=[some ⟨116,.box [.bool false,bA p.cE]⟩,some ⟨118,aO Y⟩]) (a:=p.m) J;have en:=gl (G:=G) (F:=none) (L:=p.N+1) (w:=p.n+p.m) (k:=p.m) (X:=t.rows) (d:=t.den) (β:=t.basis) (T:=[some ⟨116,.box [.bool false,bA p.cE]⟩,some ⟨118,aO Y⟩]) 0;have gT:=gl (G:=G) (F:=none) (L:=p.N+1) (w:=p.n+p.m) (k:=p.m) (X:=t.rows) (d:=t.den) (β:=t.basis) (T:=[some ⟨116,.box [.bool false,bA p.cE]⟩,some ⟨118,aO Y⟩]) 1;rw [wK] at en gT;rw [fg] at en;have lm:(t.rows.getD p.m []).length=p.N+1:=lD _ (dv [] J);have g7:p.n+i<(aV (t.rows.getD p.m [])).len:=by show p.n+i<(t.rows.getD p.m []).length;omega
   have Lh:=Df (ax t.rows p.m (p.n+i)) (t.den*(p.cE:Nat)) fK (by have:=EP p.m (p.n+i) J J;omega) J;refine bp ?_;refine ee ag ?_;refine bF 0 I ag ag ag I (bD I) I ?_;refine eM (fuel:=3) [1,2,3,4,5,6,7,8,9,10,11,12,13] [(1,.ptr 0 0 0),(2,.ptr 1 0 0),(3,ah p.n),(4,ah p.m),(5,.ptr G.length 0 0),(6,.ro (cz ((List.range p.m).map p.ey)) 0 p.m),(7,ah p.a),(11,bA p.cE),(12,.aC (G.length+4+p.m) 0 (p.N+1)),(19,.ptr (G.length+4+(p.m+1)) 0 0),(20,.aC (G.length+4+(p.m+1)+1) 0 i),(172,ah p.m),(173,ah i),(21,ah i),(176,.aC (G.length+4+(p.m+1)+1) 0 i)] aH ag aT I I ?_;refine bT I I (bD I) ?_;refine bT I I (bD I) ?_;refine bT I I (bD I) ?_;refine bT I I (hE I I J) ?_;refine bT I I (Aw (ix:=p.n+i) I I I dr I (by show 0+((p.n:Nat)+(i:Nat):Int).toNat=p.n+i;omega) J) ?_;refine cI ?_;refine dW I I I I I hl ?_;refine dW I I I I I Lh ?_;refine eI ?_;unfold b8;refine bn 14 ?_;refine bt ?_;refine bn 15 ?_;refine dI I I I I I I I gT I MP I I eu I (by show (i+1)*56≤_∧_;omega) ?_ dq ?_
   ·intro aK ba aQ bd;exact iF 0 3 bV vh Y _ _ (nW _) _ aK ba aQ bd
   refine vj ((191,.aC (G.length+4+(p.m+1)+1) 0 (i+1))::[(1,.ptr 0 0 0),(2,.ptr 1 0 0),(3,ah p.n),(4,ah p.m),(5,.ptr G.length 0 0),(6,.ro (cz ((List.range p.m).map p.ey)) 0 p.m),(7,ah p.a),(11,bA p.cE),(12,.aC (G.length+4+p.m) 0 (p.N+1)),(19,.ptr (G.length+4+(p.m+1)) 0 0),(172,ah p.m),(173,ah i)]) ⟨I,qT (h:=G.length+4+(p.m+1)+1) (L:=[(1,.ptr 0 0 0),(2,.ptr 1 0 0),(3,ah p.n),(4,ah p.m),(5,.ptr G.length 0 0),(6,.ro (cz ((List.range p.m).map p.ey)) 0 p.m),(7,ah p.a),(11,bA p.cE),(12,.aC (G.length+4+p.m) 0 (p.N+1)),(19,.ptr (G.length+4+(p.m+1)) 0 0),(172,ah p.m),(173,ah i)]) aH (by
   intro q aA;simp only [gb,oX,nB] at aA;rcases aA with rfl|rfl|rfl|rfl|rfl|rfl|rfl|rfl|rfl|rfl|rfl|rfl<;>simp [ao.forget,bA,dz (show G.length≠G.length+4+(p.m+1)+1 by omega),dz (show 0≠G.length+4+(p.m+1)+1 by omega),dz (show 1≠G.length+4+(p.m+1)+1 by omega),dz (show G.length+4+p.m≠G.length+4+(p.m+1)+1 by omega),dz (show G.length+4+(p.m+1)≠G.length+4+(p.m+1)+1 by omega)])⟩ ?_
   refine fD (bs G none (p.N+1) (p.n+p.m) p.m t.rows t.den t.basis [some ⟨116,.box [.bool false,bA p.cE]⟩,some ⟨118,aO ((List.range (i+1)).map (fun i=>Rat.divInt (ax t.rows p.m (p.n+i)) (t.den*(p.cE:Nat))))⟩]) (by
    rw [MQ];have e:bs G none (p.N+1) (p.n+p.m) p.m t.rows t.den t.basis [some ⟨116,.box [.bool false,bA p.cE]⟩,some ⟨118,aO (Y++[Rat.divInt (ax t.rows p.m (p.n+i)) (t.den*(p.cE:Nat))])⟩]=(bs G none (p.N+1) (p.n+p.m) p.m t.rows t.den t.basis [some ⟨116,.box [.bool false,bA p.cE]⟩,none]).set (G.length+4+(p.m+1)+1) (some ⟨118,aO (Y++[Rat.divInt (ax t.rows p.m (p.n+i)) (t.den*(p.cE:Nat))])⟩):=by have q:=j2 (G:=G) (F:=none) (L:=p.N+1) (w:=p.n+p.m) (k:=p.m) (X:=t.rows) (d:=t.den) (β:=t.basis) (T:=[some ⟨116,.box [.bool false,bA p.cE]⟩,none]) 1 (some ⟨118,aO (Y++[Rat.divInt (ax t.rows p.m (p.n+i)) (t.den*(p.cE:Nat))])⟩);rw [wK] at q;exact q.symm
    rw [e];exact aP.set (O0 (T:=[some ⟨116,.box [.bool false,bA p.cE]⟩,some ⟨118,aO Y⟩]) (jC:=[some ⟨116,.box [.bool false,bA p.cE]⟩,none]) _ (pT _) J (aP.same (aP.drop aP.nil))) _ (fun o ai=>by cases ai;exact ⟨_,rfl,rfl,h7 0 3 bV Y _ _ (nW (Rat.divInt (ax t.rows p.m (p.n+i)) (t.den*(p.cE:Nat))))⟩)) ?_
   refine bp ?_;refine bF 16 I ag ag ag I (dC I) I ?_;refine dX ag (bl ?_);exact cc ⟨i+1,J,J,aH,I⟩
  have dn:i=p.m:=J;rw [dn];clear aa h dn;clear i;obtain ⟨zf,adE⟩: ∃zf,zf=890000:=⟨_,rfl⟩
  have ja:=Wi ((List.range p.m).map (fun i=>Rat.divInt (ax t.rows p.m (p.n+i)) (t.den*(p.cE:Nat)))) ((List.range p.m).map p.ey) zf b1 (by simp;omega) (fun q aA=>by
   obtain ⟨i,aa,rfl⟩:=cS.1 aA;have aa:i<p.m:=by simpa using aa
   exact (xt fK (qb (dU (dS p.m (p.n+i) J J) (fN aT (oU _ (e*p.n))))) (qb SQ)).mono J) (fun q aA=>by
   obtain ⟨i,aa,rfl⟩:=cS.1 aA;have aa:i<p.m:=by simpa using aa
   refine ha (qb (lE.xY _ aa)) (fN aT ?_);have:e*(p.n+1)≤1000*31:=jW BF J;omega) J
  rw [yg p.m,hD] at ja;have a1:r8 ((List.range p.m).map (fun i=>Rat.divInt (ax t.rows p.m (p.n+i)) (t.den*(p.cE:Nat)))) ((List.range p.m).map p.ey) p.m=lH p t (t.den*(p.cE:Nat)):=(UB p t (t.den*(p.cE:Nat))).symm;rw [a1] at ja;have agC:(lH p t (t.den*(p.cE:Nat))).length=p.m:=by simp [lH]
  have art:=yg p.m;generalize ((List.range p.m).map (fun i=>Rat.divInt (ax t.rows p.m (p.n+i)) (t.den*(p.cE:Nat))))=Y at*;have gT:=gl (G:=G) (F:=none) (L:=p.N+1) (w:=p.n+p.m) (k:=p.m) (X:=t.rows) (d:=t.den) (β:=t.basis) (T:=[some ⟨116,.box [.bool false,bA p.cE]⟩,some ⟨118,aO Y⟩]) 1;rw [wK] at gT;refine eL ?_;refine mG (G.length+4+(p.m+1)+1) 20 p.m [(1,.ptr 0 0 0),(2,.ptr 1 0 0),(3,ah p.n),(4,ah p.m),(5,.ptr G.length 0 0),(6,.ro (cz ((List.range p.m).map p.ey)) 0 p.m),(7,ah p.a),(11,bA p.cE),(12,.aC (G.length+4+p.m) 0 (p.N+1)),(19,.ptr (G.length+4+(p.m+1)) 0 0)] gT (oA _) I (by show p.m≤Y.length;omega) aH ?_;refine jv (bs G none (p.N+1) (p.n+p.m) p.m t.rows t.den t.basis [some ⟨116,.box [.bool false,bA p.cE]⟩,none]) (by have q:=j2 (G:=G) (F:=none) (L:=p.N+1) (w:=p.n+p.m) (k:=p.m) (X:=t.rows) (d:=t.den) (β:=t.basis) (T:=[some ⟨116,.box [.bool false,bA p.cE]⟩,some ⟨118,aO Y⟩]) 1 none;rw [wK] at q;exact q) ?_;clear gT;have bQ:=ik (G:=G) (F:=none) (L:=p.N+1) (w:=p.n+p.m) (k:=p.m) (X:=t.rows) (d:=t.den) (β:=t.basis) (T:=[some ⟨116,.box [.bool false,bA p.cE]⟩,none]);have dr:=nr (G:=G) (F:=none) (L:=p.N+1) (w:=p.n+p.m) (k:=p.m) (X:=t.rows) (d:=t.den) (β:=t.basis) (T:=[some ⟨116,.box [.bool false,bA p.cE]⟩,none]) (a:=p.m) J;have en:=gl (G:=G) (F:=none) (L:=p.N+1) (w:=p.n+p.m) (k:=p.m) (X:=t.rows) (d:=t.den) (β:=t.basis) (T:=[some ⟨116,.box [.bool false,bA p.cE]⟩,none]) 0;rw [wK,fg] at en;have lm:(t.rows.getD p.m []).length=p.N+1:=lD _ (dv [] J);have g7:p.N<(aV (t.rows.getD p.m [])).len:=by show p.N<(t.rows.getD p.m []).length;omega
  have Lh:=Df (ax t.rows p.m p.N) (t.den*(p.cE:Nat)) fK (by have:=EP p.m p.N J J;omega) J;have D1:=FH G dL p.N (p.n+p.m) p.m t.rows t.den t.basis [some ⟨116,.box [.bool false,bA p.cE]⟩,none] (fun m _ o ai=>by
   simp only [gb,oX,nB] at ai;rcases ai with e|e
   ·cases e;intro aK ba aQ bd
    match ba,(show ba<2 from bd) with
    |0,_=>rfl
    |1,_=>rfl
   ·cases e) p.n J J J J lD J hd (fun i aa=>by have:=EP i p.N J J;omega) J
  rw [qJ] at D1;repeat (refine du ?_)
  refine ee ag ?_;refine eM (fuel:=1) [0,1,2,3,4,5,6,7,8,9,10,11,12,13,14,15,16,17,18,19] ((20,.ro (aO Y) 0 p.m)::[(1,.ptr 0 0 0),(2,.ptr 1 0 0),(3,ah p.n),(4,ah p.m),(5,.ptr G.length 0 0),(6,.ro (cz ((List.range p.m).map p.ey)) 0 p.m),(7,ah p.a),(11,bA p.cE),(12,.aC (G.length+4+p.m) 0 (p.N+1)),(19,.ptr (G.length+4+(p.m+1)) 0 0)]) aH ag aT I I ?_;refine cI ?_;refine TR I I I I I D1 ?_;refine cI ?_;refine dW I I I I I ja ?_;refine bT I I (bD I) ?_;refine bT I I (bD I) ?_;refine bT I I (gm I I I) ?_;refine bT I I (q0 I I J) ?_;refine bT I I (Aw (ix:=p.N) I I I dr I (by show 0+(((p.N+1:Nat):Int)-1).toNat=p.N;omega) (by first|omega)) ?_;refine cI ?_;refine dW I I I I I hl ?_;refine dW I I I I I Lh ?_;unfold b8;refine cI ?_;refine eI ?_;refine bn 20 ?_;refine eN (c':= .box ([.int .i64 0,.ro (aO (mK p t)) 0 p.n,.ro (aO (lH p t (t.den*(p.cE:Nat)))) 0 p.m,.nil]++bV (Rat.divInt (ax t.rows p.m p.N) (t.den*(p.cE:Nat))))) I I I (uP _ _ _ _ _) I fx I I (fun aK ba aQ bd=> ?_) ?_
  ·rw [aB (ft.1 aQ)];rfl
  refine bp ?_;refine dX ag (bE ?_);refine aZ ar (Jh I (Qp (uP _ _ _ _ _)) I I I) ?_;show ao.agg _=va _;unfold va;simp only [rz,agC];rfl
end Go.Proofs.YtmpnheilfejcpaaGreatDoor
namespace Go.Proofs.YtmpnheilfejcpaaGreatDoor
open Go.aj Go.aj.dh Go.aj.cQ Go.RowKit Go.aj.dR Go.aj.cL Go.aj.k4 Go.aj.eT
attribute [local irreducible] aj eD bZ cm gK
theorem apN (t:aJ)(aR:Fit t):br Tryz.prog 94 [.ro (c8 (gY t)) 0 (gY t).length,.ro (gf (lO t 0)) 0 (lO t 0).length,.ro (gf (lO t 1)) 0 (lO t 1).length] (.agg [.ro (c8 (c0 t).A) 0 (c0 t).A.length,.ro (aO (c0 t).B) 0 (c0 t).B.length,.ro (aO (c0 t).C) 0 (c0 t).C.length]):=by
 have af:=aR.v;have hd:=Pp af;have sy:=OI af 0;have et:=OI af 1;have M3:=Dv af 0;have fH:=Dv af 1;have i0:=aR.i0;have i1:=aR.i1;have cp:a8 t 0≤13:=aR.cp;have sz:a8 t 1≤13:=aR.sz;have kn:0<a8 t 0:=(sF af 0).2.2.1;have h:=akm (gY t) (lO t 0) (lO t 1) (a8 t 0) (a8 t 1) (cr t 1) (cr t 0) hd.rows et sy kn J J J J J hd.qA (fun c av=>OJ af 1 av) (fun c av=>OJ af 0 av) (XL af 1) (XL af 0);have wq:=akn af;have abU:=ako t;have abV:=akp t (show 0<cr t 1 by omega);have wV:(ln (gY t) (lO t 0) (lO t 1) (a8 t 0) (a8 t 1) (cr t 1) (2*cr t 0)).length=a8 t 1+2*cr t 0:=KQ ..;have M4:(nN (a8 t 1) (2*cr t 0)).length=a8 t 1+2*cr t 0:=Qx ..;have Tl:(wW (a8 t 0) (cr t 1)).length=a8 t 0+2*cr t 1:=by unfold wW;rw [da,da,fc]
 rw [wq] at h wV;rw [abU] at h M4;rw [abV] at h Tl;rw [hd.rows,sy,et,wV,M4,Tl];exact h
abbrev aki (r:QM):ao:= .agg [.str r.1,.ro (cw r.2.1) 0 r.2.1.length,.ro (cw r.2.2) 0 r.2.2.length]
theorem Kx (T:aY): ∀(h:Nat) (o':bm),(some ⟨49,.box [.str [],.ro (cw []) 0 0,.ro (cw []) 0 0]⟩::T)[h]? =some (some o')→ ∃o:bm,(some ⟨49,.box [.str [],.nil,.nil]⟩::T)[h]? =some (some o)∧o'.ty=o.ty∧o'.c.len=o.c.len∧o'.c.b7=o.c.b7∧ ∀i j,i<o.c.len→j<o.c.aI→aU (o.c.at i j) (o'.c.at i j):=by
 intro h o' cN
 match h,cN with
 |0,cN=>
  cases cN;refine ⟨_,I,I,I,I,fun i j aa ae=> ?_⟩;have ae:j<3:=ae
  match j,ae with
  |0,_=>exact aU.of_eq rfl
  |1,_=>exact aU.nil
  |2,_=>exact aU.nil
 |h+1,cN=>exact ⟨o',cN,rfl,rfl,rfl,fun _ _ _ _=>aU.of_eq rfl⟩
theorem U8 (t:aJ)(K L:Nat)(b4:kb t)(hm:oH t=0→nx t)(az:oH t=0→vU (c0 t) K L):
 br Tryz.prog 25 [.ro (bS t) 0 t.length] (.ck [aki (cV t K L).1,.int .i64 (cV t K L).2]):=by
 have sk:=OA t b4;refine cg Tryz.f25 fun c ar bJ=> ?_;refine bh ?_;refine aL I I I sk (bt ?_);refine bw I (fun h=> ?_) (fun h=> ?_)
 ·unfold cV at ar;rw [aB h] at ar;refine fe ?_;refine dj (c':= .box [.str [],.nil,.nil]) I I I I I I I ?_;refine yB [some ⟨49,.box [.str [],.ro (cw []) 0 0,.ro (cw []) 0 0]⟩] I (Kx []) (dy ?_);exact aZ ar I I
 have h:=hL.1 h;have hm:=hm h;have az:=az h;have aR:=Dt h;have af:=aR.v;have oc:=DA t 0 b4 af;have cJ:=DA t 1 b4 af;have Bt:=W4 t b4 af hm;have Ra:=XM t 0 af;have Rb:=XM t 1 af;have kJ:=apN t aR;obtain ⟨nj,z2⟩:=JJ aR;have dB:=ZX (c0 t) qj 400 K L (Dm t) (akq af hm) (ZC aR hm) J J aT J (dU (Ui aR) aT) az;obtain ⟨aE,aF,bO,_⟩:=W2 aR az;obtain ⟨d1,d2,d3⟩:=aks aR hm az;unfold cV at ar;rw [aw (fun q=>q h)] at ar;generalize ad:ed (c0 t) K L=r at*;have wq:va r= .agg ([.int .i64 0,.ro (aO r.X) 0 r.X.length,.ro (aO r.Y) 0 r.Y.length,.nil]++bV r.V):=by unfold va;rw [aE,aw aT,aw aT,aw aT,aB rfl];rfl
 rw [wq] at dB;have M3:=Dv af 0;have fH:=Dv af 1;have i0:=aR.i0;have i1:=aR.i1;have cp:a8 t 0≤13:=aR.cp;have sz:a8 t 1≤13:=aR.sz;have j1:=W3 t 0 r.X 400000 b4 af ⟨aT,bN _⟩ d1 (by show a8 t 0≤_;omega) J;have s1:=W3 t 1 r.Y 400000 b4 af ⟨aT,bN _⟩ d2 (by show a8 t 1≤_;omega) J;have R2:ga 100000 r.V:=hi (d3.mono aT);clear wq d1 d2 d3 az ad hm;refine bp ?_;refine aL I I I oc ?_;repeat (refine aq (bD rfl) ?_)
 refine aL I I I cJ (bE ?_);refine aL I I I Bt (bE ?_);refine aL I I I Ra ?_;repeat (refine aq (bD rfl) ?_)
 refine aL I I I Rb ?_;skip
 refine aL I I I kJ ?_;skip
 refine aL I I I dB ?_;repeat (refine mf rfl rfl rfl ?_)
 refine dj (c':= .box ([.int .i64 0,.ro (aO r.X) 0 r.X.length,.ro (aO r.Y) 0 r.Y.length,.nil]++bV r.V)) I I I I I I I ?_;refine dA [some ⟨49,.box [.str [],.nil,.nil]⟩,some ⟨152,.box ([.int .i64 0,.ro (aO r.X) 0 r.X.length,.ro (aO r.Y) 0 r.Y.length,.nil]++bV r.V)⟩] I ?_;clear oc cJ Bt Ra Rb kJ dB;cases Hz:eB r.V with
 |false=>
  have co:=Qv r.V R2 Hz;rw [aw (fun q=>tl (Hz.symm.trans q.1))] at ar;refine bf ?_;refine aL I I I co (u9 ?_);refine dj (c':= .box [.str [],.nil,.nil]) I I I I I I I ?_;refine yB [some ⟨49,.box [.str [],.ro (cw []) 0 0,.ro (cw []) 0 0]⟩,some ⟨152,.box ([.int .i64 0,.ro (aO r.X) 0 r.X.length,.ro (aO r.Y) 0 r.Y.length,.nil]++bV r.V)⟩] I (Kx [some ⟨152,.box ([.int .i64 0,.ro (aO r.X) 0 r.X.length,.ro (aO r.Y) 0 r.Y.length,.nil]++bV r.V)⟩]) (dy ?_);exact aZ ar I I
 |true=>
  have co:=Ko r.V R2 Hz;refine bf ?_;refine aL I I I co (bl ?_);cases zT:qa t 0 (fun k=>r.X.getD k 0) with
  |false=>
   have j1:br Tryz.prog 97 [.ro (bS t) 0 t.length,.int .i64 0,ij t 0,.ro (aO r.X) 0 r.X.length] (.ck [.ro (cw []) 0 0,.int .i64 2]):=by have q:=j1;unfold wZ at q;rw [zT] at q;exact q
   rw [aw (fun q=>tl (zT.symm.trans q.2.1))] at ar;refine aL I I I j1 (u9 ?_);refine dj (c':= .box [.str [],.nil,.nil]) I I I I I I I ?_;refine yB [some ⟨49,.box [.str [],.ro (cw []) 0 0,.ro (cw []) 0 0]⟩,some ⟨152,.box ([.int .i64 0,.ro (aO r.X) 0 r.X.length,.ro (aO r.Y) 0 r.Y.length,.nil]++bV r.V)⟩] I (Kx [some ⟨152,.box ([.int .i64 0,.ro (aO r.X) 0 r.X.length,.ro (aO r.Y) 0 r.Y.length,.nil]++bV r.V)⟩]) (dy ?_);exact aZ ar I I
  |true=>
   have j1:br Tryz.prog 97 [.ro (bS t) 0 t.length,.int .i64 0,ij t 0,.ro (aO r.X) 0 r.X.length] (.ck [.ro (cw (kW t 0 (fun k=>r.X.getD k 0))) 0 (kW t 0 (fun k=>r.X.getD k 0)).length,.int .i64 0]):=by have q:=j1;unfold wZ at q;rw [zT] at q;exact q
   refine aL I I I j1 (bl ?_);cases sr:qa t 1 (fun k=>r.Y.getD k 0) with
   |false=>
    have s1:br Tryz.prog 97 [.ro (bS t) 0 t.length,.int .i64 1,ij t 1,.ro (aO r.Y) 0 r.Y.length] (.ck [.ro (cw []) 0 0,.int .i64 2]):=by have q:=s1;unfold wZ at q;rw [sr] at q;exact q
    rw [aw (fun q=>tl (sr.symm.trans q.2.2))] at ar;refine aL I I I s1 (u9 ?_);refine dj (c':= .box [.str [],.nil,.nil]) I I I I I I I ?_;refine yB [some ⟨49,.box [.str [],.ro (cw []) 0 0,.ro (cw []) 0 0]⟩,some ⟨152,.box ([.int .i64 0,.ro (aO r.X) 0 r.X.length,.ro (aO r.Y) 0 r.Y.length,.nil]++bV r.V)⟩] I (Kx [some ⟨152,.box ([.int .i64 0,.ro (aO r.X) 0 r.X.length,.ro (aO r.Y) 0 r.Y.length,.nil]++bV r.V)⟩]) (dy ?_);exact aZ ar I I
   |true=>
    have s1:br Tryz.prog 97 [.ro (bS t) 0 t.length,.int .i64 1,ij t 1,.ro (aO r.Y) 0 r.Y.length] (.ck [.ro (cw (kW t 1 (fun k=>r.Y.getD k 0))) 0 (kW t 1 (fun k=>r.Y.getD k 0)).length,.int .i64 0]):=by have q:=s1;unfold wZ at q;rw [sr] at q;exact q
    rw [aB ⟨Hz,zT,sr⟩] at ar;refine aL I I I s1 ?_;generalize kW t 0 (fun k=>r.X.getD k 0)=x at*;generalize kW t 1 (fun k=>r.Y.getD k 0)=y at*;repeat (first|refine aq (bD rfl) ?_|refine aq (dC rfl) ?_|refine cY ?_|refine b6 ?_|refine du ?_|refine dc rfl ?_|refine pd rfl ?_|refine jk ?_|refine aq (rZ rfl rfl) ?_|refine aq (nP rfl rfl) ?_|refine aq (ji rfl rfl rfl rfl rfl rfl) ?_)
    refine dj (c':= .box [.str (cq r.V),.ro (cw x) 0 x.length,.ro (cw y) 0 y.length]) I I I I I I I (bE ?_);exact aZ ar I I
theorem apI (t:aJ)(b4:kb t)(hm:oH t=0→nx t):
 br Tryz.prog 30 [.ro (bS t) 0 t.length] (.ck [.ro (oF (Gs t).1) 0 (Gs t).1.length,.int .i64 (Gs t).2]):=by
 have sk:=OA t b4;refine cg Tryz.f30 fun c ar bJ=> ?_;unfold Gs at ar;refine bE ?_;refine aL I I I sk (bt ?_);refine bw I (fun h=> ?_) (fun h=> ?_)
 ·rw [aB h] at ar;refine cX ?_;refine ea 2 (.ro (oF []) 0 0) I aU.nil (dy ?_);exact aZ ar I I
 have h:=hL.1 h;have hm:=hm h;have aR:=Dt h;have af:=aR.v;have Bt:=W4 t b4 af hm;have zS:=Pp af;have cp:a8 t 0≤13:=aR.cp;have sz:a8 t 1≤13:=aR.sz;have ad: ∀r∈gY t,r.length≤1000000∧ ∀q∈r,ga 100000 q:=fun r ad=>by
  obtain ⟨i,aa,rfl⟩:=kE ad;have aQ:i<a8 t 0:=by rw [←zS.rows];exact aa
  have av:=zS.qA i aQ;rw [eA [] aa] at av;refine ⟨J,fun q aA=> ?_⟩;obtain ⟨j,ae,rfl⟩:=kE aA;have:=Uo af hm i j;rw [eA [] aa,eA 0 ae] at this;exact hi (this.mono aT)
 rw [aw (fun q=>q h)] at ar;have hlen:(gY t).length≤1000:=by rw [zS.rows];omega
 generalize gY t=m at*;refine bp ?_;refine aL I I I Bt (fe ?_);refine lK 5 ⟨32,oF []⟩ I I ?_;repeat (refine fV ?_)
 refine cF (ι:=Nat) (fun k=>[(5,.aC 0 0 k),(16,.ro (c8 m) 0 m.length),(17,ah m.length),(18,ah k)]) (fun k=>[some ⟨32,oF ((m.take k).map (fun r=>r.map cq))⟩])
  (fun k=>k≤m.length∧m.all (fun r=>r.all eB)=(m.drop k).all (fun r=>r.all eB)) (fun k=>m.length-k) 0 ⟨aH,rfl,⟨cj _,rfl⟩⟩ ?_
 rintro k ⟨an,iP⟩;refine bh ?_;refine bw I (fun h=> ?_) (fun h=> ?_)
 ·have b0:k<m.length:=J;obtain ⟨dS,eP⟩:=ad _ (mI [] b0);have hd:=FB (d:=[]) b0;rw [hd,zq] at iP;have l6:=Fk (fun r:List Rat=>r.map cq) m [] k b0;have iv:((m.take k).map (fun r:List Rat=>r.map cq)).length=k:=by rw [cW,fy];omega
  cases aR:(m.getD k []).all eB
  ·have av:=WK (m.getD k []) dS eP aR;rw [aR,uC] at iP;rw [iP] at ar;refine bf ?_;refine aL I I I av (u9 ?_);refine ea 2 (.ro (oF []) 0 0) I aU.nil (bf ?_);exact aZ ar I I
  ·have av:=Vm (m.getD k []) dS eP aR;rw [aR,mU] at iP;generalize (m.take k).map (fun r:List Rat=>r.map cq)=dp at*;generalize (m.getD k []).map cq=q at*;refine bf ?_;refine aL I I I av (bh ?_);refine dI I I I I I I I I I iv I I eu I (by show (k+1)*24≤_∧_;omega) ?_ dq ?_
   ·intro aK j aa ae;exact iF [] 1 Dx amz dp q _ (T8 _) 0 aK j aa ae
   refine fS ?_;refine b6 ?_;refine mJ [some ⟨32,oF ((m.take (k+1)).map (fun r=>r.map cq))⟩] ?_ ?_
   ·rw [l6];exact aP.eqv (h7 [] 1 Dx dp q _ (T8 _)) aP.nil
   refine bt ?_;exact cc ⟨k+1,⟨J,iP⟩,J,aH,I⟩
 ·have b0:k=m.length:=J;subst b0;rw [rj] at iP;rw [iP] at ar;rw [fO];have iv:(m.map (fun r:List Rat=>r.map cq)).length=m.length:=cW _;generalize m.map (fun r:List Rat=>r.map cq)=dp at*;refine iq ?_;refine mG 0 5 m.length [] I (alT _) I (by show _≤dp.length;omega) trivial ?_;refine ea 5 (.ro (oF dp) 0 dp.length) I (aU.of_eq (by rw [iv])) (bE ?_);exact aZ ar I I
end Go.Proofs.YtmpnheilfejcpaaGreatDoor
namespace Go.Proofs.YtmpnheilfejcpaaGreatDoor
open Go.aj Go.aj.dh Go.aj.cQ Go.RowKit Go.aj.ka Go.aj.eT
attribute [local irreducible] aj eD bZ cm gK
def yi (y:Int×Int):ao:= .int .i64 y.1
def Ck (y:Int×Int):ao:= .int .i64 y.2
abbrev zE (C:List (Int×Int)):Cells:= .mp (C.map yi) (C.map Ck)
theorem Tk (C:List (Int×Int)): ∀x∈C.map yi,nt (.int .i64) x=true:=by intro x al;obtain ⟨e,_,rfl⟩:=cS.1 al;rfl
theorem ahM {C:List (Int×Int)}{x:Int}(h:x∉C.map Prod.fst):ao.int .i64 x∉C.map yi:=by intro hm;obtain ⟨y,a1,e⟩:=cS.1 hm;injection e with aE aF;exact h (cS.2 ⟨y,a1,aF⟩)
def dQ (t:aJ)(p:Int)(s:df):dd:=lS t p (h8 s)
theorem aic {t:aJ}(af:Valid t)(hm:Go.aj.cQ.Modest t){p:Int}(aD:p=0∨p=1){s:df}(az:k5 t (1-p) s):DF t (dQ t p s):=
 Qc af hm.len (TH af hm aD az.str) (fun i aa an=>by unfold dQ lS;rw [aB an]) (fun i aa an=>by unfold dQ lS;rw [aw J,aw J])
theorem aoF (t:aJ)(p:Int)(s:df)(b4:kb t)(af:Valid t)(hm:Go.aj.cQ.Modest t)(aD:p=0∨p=1)(az:k5 t (1-p) s):
 br Tryz.prog 168 [.ro (bS t) 0 t.length,.fn 188 [.cK (.box [.int .i64 p]) 0 0,.cK (.box [jR s]) 0 0]] (.ro (aO (cA t (dQ t p s))) 0 t.length):=by
 refine PJ t (dQ t p s) 188 [.cK (.box [.int .i64 p]) 0 0,.cK (.box [jR s]) 0 0] I I b4 af (aic af hm aD az) (fun i aa an=> ?_);have iw:=At af aa an;by_cases h:(t.getD i aN).gI=p
 ·have:=XE (t.getD i aN) p s gD (fun q=>absurd h q);rw [aB h] at this;have e:dQ t p s i=none:=by unfold dQ lS;rw [aw J,aB an,aB h]
  rw [e];exact this
 ·obtain ⟨c,cJ,dD,eg⟩:=az.node af aa an J;have:=XE (t.getD i aN) p s c (fun _=>⟨cJ,dD⟩);rw [aw h] at this;have e:dQ t p s i=some (c.c3.map dk):=by unfold dQ lS;rw [aw J,aB an,aw h,eg]
  rw [e];exact this
def ns (n k:Nat):List (Option Rat):=(List.range n).map (fun i=>if i<k then some 0 else none)
theorem aom (n k:Nat):(ns n k).length=n:=by simp [ns]
theorem amO (n:Nat):ns n 0=List.replicate n none:=by apply kc (by simp [ns]);intro i U ab;simp [ns]
theorem aol (n:Nat):ns n n=(List.replicate n (0:Rat)).map some:=by
 apply kc (by simp [ns]);intro i U ab;have:i<n:=by simpa [ns] using U
 simp [ns,this]
theorem aon {n k:Nat}(an:k<n):(ns n k).set k (some 0)=ns n (k+1):=by
 apply kc (by simp [ns]);intro i U ab;rw [xT];by_cases e:k=i
 ·subst e;simp [ns]
 ·rw [aw e];have:(i<k)=(i<k+1):=propext ⟨fun h=>by omega,fun h=>by omega⟩;simp only [ns,kH,zt,this]
theorem amn (s:df):e5 (.box [jR s]):=by
 intro i j _ ae;obtain rfl:j=0:=by have ae:j<1:=ae;omega
 rfl
theorem aaF: ∀(h:Nat) (o:bm),([none,some ⟨118,.box [.bool false,.nil,.nil]⟩]:aY)[h]? =some (some o)→fw 2 o.c:=by
 intro h o ai
 match h,ai with
 |0,ai=>simp at ai
 |1,ai=>
  cases ai;intro i j _ ae;have ae:j<3:=ae
  match j,ae with
  |0,_=>rfl
  |1,_=>rfl
  |2,_=>rfl
 |_+2,ai=>simp at ai
theorem aaG (S:List Rat): ∀(h:Nat) (o:bm),([none,some ⟨118,.box [.bool false,.nil,.nil]⟩,some ⟨118,aO S⟩]:aY)[h]? =some (some o)→fw 3 o.c:=by
 intro h o ai
 match h,ai with
 |0,ai=>simp at ai
 |1,ai=>
  cases ai;intro i j _ ae;have ae:j<3:=ae
  match j,ae with
  |0,_=>rfl
  |1,_=>rfl
  |2,_=>rfl
 |2,ai=>cases ai;exact XC _ _
 |_+3,ai=>simp at ai
theorem aaH (S:List Rat)(C:List (Int×Int)): ∀(h:Nat) (o:bm),([none,some ⟨118,.box [.bool false,.nil,.nil]⟩,some ⟨118,aO S⟩,some ⟨185,zE C⟩]:aY)[h]? =some (some o)→fw 4 o.c:=by
 intro h o ai
 match h,ai with
 |0,ai=>simp at ai
 |1,ai=>
  cases ai;intro i j _ ae;have ae:j<3:=ae
  match j,ae with
  |0,_=>rfl
  |1,_=>rfl
  |2,_=>rfl
 |2,ai=>cases ai;exact XC _ _
 |3,ai=>cases ai;exact ⟨w8 (fun _=>rfl) C,w8 (fun _=>rfl) C⟩
 |_+4,ai=>simp at ai
theorem Rg (a b:Rat):(0<um a b)=(b<a):=by
 apply propext;unfold um;constructor
 ·intro h;split at h
  ·omega
  ·split at h
   ·omega
   ·rename_i U ab;rcases Rat.le_iff_lt_or_eq.1 (zx.1 U) with q|q
    ·exact q
    ·exact absurd q.symm ab
 ·intro h;rw [aw (zx.2 (zy h)),aw (fun e=>absurd h (by rw [e];exact Rat.lt_irrefl))];omega
theorem OD (t:aJ)(p:Int)(s:df)(b4:kb t)(af:Valid t)(hm:Go.aj.cQ.Modest t)(aD:p=0∨p=1)(az:k5 t (1-p) s):
 br Tryz.prog 121 [.ro (bS t) 0 t.length,.int .i64 p,.ro (cw s) 0 s.length] (.ck [b8 ((jj t p (dQ t p s)).2.1.getD 0 0),.iC ((jj t p (dQ t p s)).2.2.map yi) ((jj t p (dQ t p s)).2.2.map Ck)]):=by
 have cJ:=DA t p b4 af;have dD:=az.call;have eg:=aoF t p s b4 af hm aD az;have iv:=hm.len;have lZ:=Qb t J;have Hx:=C7 af p;have z6:=(sF af p).2.2.1;have BG:=Jx t t.length;have wB:(eV t t.length).length=(cH t).length:=by rw [Jw,cW]
 have hw:=TH af hm aD az.str;have HR:=hm.rH af;have Hx:(bW t p).length≤61:=Hx;refine cm.value (K:=fun r H=>r= .ck [b8 ((jj t p (dQ t p s)).2.1.getD 0 0),.mp 3]∧H=[none,some ⟨118,.box (bV ((jj t p (dQ t p s)).2.1.getD 0 0))⟩,some ⟨118,aO (jj t p (dQ t p s)).2.1⟩,some ⟨185,zE (jj t p (dQ t p s)).2.2⟩]) (hx (P:=Tryz.prog) (fn:=Tryz.f121) I I ag I (fun c ar bJ=> ?_)) (fix:=fun _=>False) (fun _ h=>h) I ?_
 ·refine bf ?_;refine aq U1 ?_;refine iq ?_;refine Jq [some ⟨3,.box [.int .i64 p]⟩,none] [none,some ⟨118,.box [.bool false,.nil,.nil]⟩] [(0,.ro (bS t) 0 t.length),(1,.int .i64 p),(2,.ro (cw s) 0 s.length),(4,.cK (.box [.int .i64 p]) 0 0),(6,.ptr 1 0 0)] ?_ ?_ rfl ?_ ⟨⟨_,rfl,.inl rfl⟩,⟨_,rfl,.inl rfl⟩,⟨_,rfl,.inl rfl⟩,⟨_,rfl,.inr (.inr ⟨rfl,fun o ai=>by cases ai;exact fx⟩)⟩,⟨_,rfl,.inl rfl⟩,trivial⟩ ?_
  ·intro h o ai
   match h,ai with
   |0,ai=>exact ai
   |1,ai=>simp at ai
   |_+2,ai=>simp at ai
  ·intro h o ai
   match h,ai with
   |0,ai=>cases ai;exact G2 _
   |1,ai=>simp at ai
   |_+2,ai=>simp at ai
  ·intro h o ai
   match h,ai with
   |0,ai=>simp at ai
   |1,ai=>cases ai;exact ⟨fun o h=>by simp at h,_,rfl,rfl,rfl,rfl,fun i j _ _=> .inl rfl⟩
   |_+2,ai=>simp at ai
  refine fe ?_;refine aL I I I cJ (bE ?_);refine aL I I I dD ?_;skip
  refine Wn I I I (yp ?_);refine jv [none,some ⟨118,.box [.bool false,.nil,.nil]⟩,some ⟨175,.box [jR s]⟩] I ?_;refine ea 9 (.ptr 2 0 0) I (aU.of_eq I) ?_;refine Jq [none,none,some ⟨175,.box [jR s]⟩] [none,some ⟨118,.box [.bool false,.nil,.nil]⟩,none] [(0,.ro (bS t) 0 t.length),(4,.cK (.box [.int .i64 p]) 0 0),(6,.ptr 1 0 0),(8,ij t p),(9,.cK (.box [jR s]) 0 0)] ?_ ?_ rfl ?_ ⟨⟨_,rfl,.inl rfl⟩,⟨_,rfl,.inl rfl⟩,⟨_,rfl,.inl rfl⟩,⟨_,rfl,.inl rfl⟩,⟨_,rfl,.inr (.inr ⟨rfl,fun o ai=>by cases ai;exact fx⟩)⟩,trivial⟩ ?_
  ·intro h o ai
   match h,ai with
   |0,ai=>simp at ai
   |1,ai=>simp at ai
   |2,ai=>exact ai
   |_+3,ai=>simp at ai
  ·intro h o ai
   match h,ai with
   |0,ai=>simp at ai
   |1,ai=>simp at ai
   |2,ai=>cases ai;exact amn s
   |_+3,ai=>simp at ai
  ·intro h o ai
   match h,ai with
   |0,ai=>simp at ai
   |1,ai=>cases ai;exact ⟨fun o h=>by simp at h,_,rfl,rfl,rfl,rfl,fun i j _ _=> .inl rfl⟩
   |2,ai=>simp at ai
   |_+3,ai=>simp at ai
  refine fB [none,some ⟨118,.box [.bool false,.nil,.nil]⟩] [none] [(0,.ro (bS t) 0 t.length),(4,.cK (.box [.int .i64 p]) 0 0),(6,.ptr 1 0 0),(8,ij t p),(9,.cK (.box [jR s]) 0 0)] I aH hO aaF I ?_;refine fS ?_;refine aL I I I eg ?_;repeat (first|refine aq (bD rfl) ?_|refine aq (dC rfl) ?_|refine cY ?_|refine b6 ?_|refine du ?_|refine dc rfl ?_|refine aq (gm rfl rfl rfl) ?_|refine aq (lq rfl rfl rfl rfl) ?_|refine aq (pe rfl) ?_|refine aq (lJ rfl rfl rfl rfl rfl rfl) ?_)
  refine mh I I I I I I I I (by show (0:Int)≤_∧_≤_∧(56:Int)*_≤_∧_;omega) ?_;refine fD [none,some ⟨118,.box [.bool false,.nil,.nil]⟩,some ⟨118,jo (ns (bW t p).length 0)⟩] (by rw [amO];exact aP.same (aP.same (aP.eqv (ZN _) aP.nil))) (bt ?_);refine cF (ι:=Nat) (fun k=>[(0,.ro (bS t) 0 t.length),(4,.cK (.box [.int .i64 p]) 0 0),(6,.ptr 1 0 0),(8,ij t p),(10,.ro (aO (cA t (dQ t p s))) 0 t.length),(11,.aC 2 0 (bW t p).length),(36,.aC 2 0 (bW t p).length),(37,ah ((bW t p).length)),(38,ah k)]) (fun k=>[none,some ⟨118,.box [.bool false,.nil,.nil]⟩,some ⟨118,jo (ns (bW t p).length k)⟩])
   (fun k=>k≤(bW t p).length) (fun k=>(bW t p).length-k) 0 ⟨aH,rfl,cj _⟩ ?_
  intro k an;refine bh ?_;refine bw I (fun h=> ?_) (fun h=> ?_)
  ·have b0:k<(bW t p).length:=J;have Ia:=aom (bW t p).length k;have lF:=aon b0;have Tb:k<(jo (ns (bW t p).length k)).len:=by show k<(ns _ _).length;omega
   refine bp ?_;refine aL I I I nn ?_;unfold b8;repeat (refine aq (gr rfl rfl rfl rfl rfl hq J) ?_)
   refine eN (c':=jo ((ns (bW t p).length k).set k (some 0))) I I I I I Tb (by show (List.set _ k _).length=_;rw [da];rfl) I (fun aK ba aQ bd=>AL none 3 nT _ k (some 0) Tb aK ba aQ bd) (bl ?_);exact cc ⟨k+1,J,J,aH,by rw [←lF];rfl⟩
  have kk:k=(bW t p).length:=J;subst kk;refine iq ?_;refine mJ [none,some ⟨118,.box [.bool false,.nil,.nil]⟩,some ⟨118,aO (oG t p (dQ t p s) 0)⟩] (by rw [aol,VP];exact aP.same (aP.same (aP.eqv (ZP _) aP.nil))) (bE ?_);refine aL I I I lZ (bt ?_);refine cF (ι:=Nat) (fun k=>[(0,.ro (bS t) 0 t.length),(4,.cK (.box [.int .i64 p]) 0 0),(6,.ptr 1 0 0),(8,ij t p),(10,.ro (aO (cA t (dQ t p s))) 0 t.length),(11,.aC 2 0 (bW t p).length),(47,.ro (.ints .i64 (eV t t.length)) 0 (eV t t.length).length),(48,ah ((eV t t.length).length)),(49,ah k)]) (fun k=>[none,some ⟨118,.box [.bool false,.nil,.nil]⟩,some ⟨118,aO (oG t p (dQ t p s) k)⟩])
   (fun k=>k≤(eV t t.length).length) (fun k=>(eV t t.length).length-k) 0 ⟨aH,rfl,cj _⟩ ?_
  intro k an;refine bh ?_;refine bw I (fun h=> ?_) (fun h=> ?_)
  ·have b0:k<(cH t).length:=J;have Ew:=OO t b0;obtain ⟨i1,i2⟩:=pj (dv (l:=cH t) 0 b0);have wN:=VO t p (dQ t p s) b0;have LC:=aoT t p (dQ t p s) k;have yd: ∀j,D xp ((oG t p (dQ t p s) k).getD j 0):=fun j=>(ane af hw iv HR p (k:=k) J j).mono (show 39+(2000*40+481)≤xp by decide);have EJ:=JL af i1 i2;have afN:=(b4.node _ (dv aN i1)).jf;have kJ:=AI (t.getD ((cH t).getD k 0) aN).jf afN EJ;have uI:=JI af hw iv i1;have fz:=HR.nF _ i1 i2;have hl:=Gf _ _ (hi (uI.mono (show 2000*40+1≤9*100000 by decide))) (hi (fz.mono aT));have hl:br Tryz.prog 99 [b8 ((cA t (dQ t p s)).getD ((cH t).getD k 0) 0),b8 (dk (t.getD ((cH t).getD k 0) aN).jf)] (b8 (iK t (cA t (dQ t p s)) ((cH t).getD k 0))):=hl;have Rp:D 80100 (iK t (cA t (dQ t p s)) ((cH t).getD k 0)):=(uI.mul fz).mono aT;have e3:=y5 af p i1;obtain ⟨x,al⟩:=oW e3.1;have Af:((hQ t p).getD ((cH t).getD k 0) 0).toNat=x:=by rw [al,cn]
   rw [Af] at e3 wN;have arj:(hQ t p).length=t.length:=xf t p _;have dL:wu t p (cA t (dQ t p s)) ((cH t).getD k 0)=if p=1 then-(iK t (cA t (dQ t p s)) ((cH t).getD k 0)) else iK t (cA t (dQ t p s)) ((cH t).getD k 0):=rfl
   rw [dL] at wN;have Hu:k<(eV t t.length).length:=J;have fk:(cA t (dQ t p s)).length=t.length:=Az t _ _;have afY:=yd x;clear dL yd uI fz;generalize mz:oG t p (dQ t p s) (k+1)=fb at*;generalize oG t p (dQ t p s) k=S at*;generalize iK t (cA t (dQ t p s)) ((cH t).getD k 0)=E at*;generalize (cH t).getD k 0=i at*;refine yp ?_;refine dc I ?_;refine iq ?_;refine ea 14 (ah i) I (aU.of_eq (by rw [Ew])) ?_;skip
   refine ee ag ?_;apply tS (H:=[none,some ⟨118,.box [.bool false,.nil,.nil]⟩,some ⟨118,aO S⟩,some ⟨118,.box [.bool false,.nil,.nil]⟩]) [(15,.ptr 3 0 0),(63,b8 E),(14,ah i),(0,.ro (bS t) 0 t.length),(4,.cK (.box [.int .i64 p]) 0 0),(6,.ptr 1 0 0),(8,ij t p),(10,.ro (aO (cA t (dQ t p s))) 0 t.length),(11,.aC 2 0 (bW t p).length),(47,.ro (.ints .i64 (eV t t.length)) 0 (eV t t.length).length),(48,ah ((eV t t.length).length)),(49,ah k)]
   ·intro fin;refine bF 0 I ag ag ag I (bD I) I ?_;refine bF 1 I ag ag ag I (bD I) I ?_;refine bF 4 I ag ag ag I (bD I) I ?_;refine bF 5 I ag ag ag I (bD I) I ?_;refine bF 2 I ag ag ag I (ib I I I I (by first|(simp only [cR,cn,fJ];exact I)|exact I) J) I ?_;refine bF 6 I ag ag ag I (ib I I I I (by first|(simp only [cR,cn,fJ];exact I)|exact I) J) I ?_;refine bF 7 I ag ag ag I (lJ I I I I I I) I ?_;refine tO (is:=[3,8,11]) ag b1 I ⟨fun o ai=> ?_,fun o ai=> ?_,fun o ai=> ?_,trivial⟩;all_goals (cases ai)
    ·refine bf ?_;refine dV 8 11 ?_ ?_
     ·refine bf ?_;refine dV 9 11 ?_ ?_
      ·refine aL I I I kJ (bp ?_);refine dV 10 11 ?_ ?_
       ·refine aL I I I hl (bp ?_);refine bn 11 ?_;refine bh ?_;exact fin _ aH
       ·refine bh ?_;refine bn 10 ?_;refine aL I I I hl (bp ?_);exact fin _ aH
      ·refine bh ?_;refine bn 9 ?_;refine aL I I I kJ (bp ?_);refine bn 10 ?_;refine aL I I I hl (bp ?_);exact fin _ aH
     ·refine bh ?_;refine bn 8 ?_;refine bf ?_;refine bn 9 ?_;refine aL I I I kJ (bp ?_);refine bn 10 ?_;refine aL I I I hl (bp ?_);exact fin _ aH
    ·refine bf ?_;refine tO (is:=[3,9,11]) ag b1 I ⟨fun o ai=> ?_,fun o ai=> ?_,fun o ai=> ?_,trivial⟩;all_goals (cases ai)
     ·refine bf ?_;refine dV 9 11 ?_ ?_
      ·refine aL I I I kJ (bp ?_);refine dV 10 11 ?_ ?_
       ·refine aL I I I hl (bp ?_);refine bn 11 ?_;refine bh ?_;exact fin _ aH
       ·refine bh ?_;refine bn 10 ?_;refine aL I I I hl (bp ?_);exact fin _ aH
      ·refine bh ?_;refine bn 9 ?_;refine aL I I I kJ (bp ?_);refine bn 10 ?_;refine aL I I I hl (bp ?_);exact fin _ aH
     ·refine aL I I I kJ (bp ?_);refine dV 3 11 ?_ ?_
      ·refine bf ?_;refine dV 10 11 ?_ ?_
       ·refine aL I I I hl (bp ?_);refine bn 11 ?_;refine bh ?_;exact fin _ aH
       ·refine bh ?_;refine bn 10 ?_;refine aL I I I hl (bp ?_);exact fin _ aH
      ·refine bh ?_;refine bn 3 ?_;refine bf ?_;refine bn 10 ?_;refine aL I I I hl (bp ?_);exact fin _ aH
     ·refine bh ?_;refine dV 3 9 ?_ ?_
      ·refine bf ?_;refine bn 9 ?_;refine aL I I I kJ (bp ?_);refine bn 10 ?_;refine aL I I I hl (bp ?_);exact fin _ aH
      ·refine aL I I I kJ (bp ?_);refine bn 3 ?_;refine bf ?_;refine bn 10 ?_;refine aL I I I hl (bp ?_);exact fin _ aH
    ·refine bh ?_;refine dV 3 8 ?_ ?_
     ·refine bf ?_;refine bn 8 ?_;refine bf ?_;refine bn 9 ?_;refine aL I I I kJ (bp ?_);refine bn 10 ?_;refine aL I I I hl (bp ?_);exact fin _ aH
     ·refine bf ?_;refine dV 3 9 ?_ ?_
      ·refine bf ?_;refine bn 9 ?_;refine aL I I I kJ (bp ?_);refine bn 10 ?_;refine aL I I I hl (bp ?_);exact fin _ aH
      ·refine aL I I I kJ (bp ?_);refine bn 3 ?_;refine bf ?_;refine bn 10 ?_;refine aL I I I hl (bp ?_);exact fin _ aH
   refine bn 12 ?_;unfold b8;refine dj (c':= .box (bV E)) I I I I I I I (bp ?_);refine dX ag (fe ?_);apply kP (H:=[none,some ⟨118,.box [.bool false,.nil,.nil]⟩,some ⟨118,aO S⟩,some ⟨118,.box (bV (if p=1 then-E else E))⟩]) [(15,.ptr 3 0 0),(14,ah i),(0,.ro (bS t) 0 t.length),(4,.cK (.box [.int .i64 p]) 0 0),(6,.ptr 1 0 0),(8,ij t p),(10,.ro (aO (cA t (dQ t p s))) 0 t.length),(11,.aC 2 0 (bW t p).length),(47,.ro (.ints .i64 (eV t t.length)) 0 (eV t t.length).length),(48,ah ((eV t t.length).length)),(49,ah k)]
   ·intro fin;refine bw I (fun wL=> ?_) (fun wL=> ?_)
    ·rw [aB wL] at fin;have co:=Kr E;refine bf ?_;refine aL I I I co ?_;unfold b8;skip
     refine dj (c':= .box (bV (-E))) I I I I I I I ?_;refine iq ?_;exact fin _ aH
    ·rw [aw wL] at fin;refine eL ?_;exact fin _ aH
   have abz:D 80100 (if p=1 then-E else E):=by
    split
    ·exact Rp.neg
    ·exact Rp
   have sj:=yZ (S.getD x 0) (if p=1 then-E else E) (hi (afY.mono (show xp≤9*100000 by decide))) (hi (abz.mono (show 80100≤9*100000 by decide)));generalize (if p=1 then-E else E)=G at*;have S6:x<(aO S).len:=by show x<S.length;omega
   generalize iP:S.getD x 0+G=A at*;skip
   refine ee ag ?_;refine eM (fuel:=1) [0,1,2,3,4,5,6,7,8,9,10,11,12,13,14,15,16,17,18,19,20] [(15,.ptr 3 0 0),(14,ah i),(0,.ro (bS t) 0 t.length),(4,.cK (.box [.int .i64 p]) 0 0),(6,.ptr 1 0 0),(8,ij t p),(10,.ro (aO (cA t (dQ t p s))) 0 t.length),(11,.aC 2 0 (bW t p).length),(47,.ro (.ints .i64 (eV t t.length)) 0 (eV t t.length).length),(48,ah ((eV t t.length).length)),(49,ah k)] aH ag aT I I ?_;refine bT I I (bD I) ?_;refine bT I I (bD I) ?_;refine bT I I (pe I) ?_;refine bT I I (lJ I I I I I I) ?_;refine bT I I (lq I I I I) ?_;refine bT I I (bD I) ?_;refine bT I I (ib I I I I (by first|(simp only [cR,cn,fJ];exact I)|exact I) J) ?_;refine bT I I (vk I I I) ?_;rw [al];refine bT I I (bD I) ?_;refine bT I I (bD I) ?_;refine bT I I (pe I) ?_;refine bT I I (lJ I I I I I I) ?_;refine bT I I (lq I I I I) ?_;refine bT I I (bD I) ?_;refine bT I I (ib I I I I (by first|(simp only [cR,cn,fJ];exact I)|exact I) J) ?_;refine bT I I (vk I I I) ?_;rw [al];refine cI ?_;refine dW I I I I I sj ?_;refine cI ?_;refine eI ?_;refine bn 21 ?_;unfold b8;refine eN (c':=aO (S.set x A)) I I I I I S6 (by show (List.set _ x _).length=_;rw [da];rfl) I (fun aK ba aQ bd=>AL 0 3 bV S x A S6 aK ba aQ bd) (bp ?_);refine dX ag ?_;repeat (refine kQ ?_)
   refine b6 ?_;rw [←wN];refine fB [none,some ⟨118,.box [.bool false,.nil,.nil]⟩,some ⟨118,aO fb⟩] [some ⟨118,.box (bV G)⟩] [(0,.ro (bS t) 0 t.length),(4,.cK (.box [.int .i64 p]) 0 0),(6,.ptr 1 0 0),(8,ij t p),(10,.ro (aO (cA t (dQ t p s))) 0 t.length),(11,.aC 2 0 (bW t p).length),(47,.ro (.ints .i64 (eV t t.length)) 0 (eV t t.length).length),(48,ah ((eV t t.length).length)),(49,ah k)] I aH hO (aaG fb) I (bt ?_);exact cc ⟨k+1,J,J,aH,by rw [mz]⟩
  have kk:k=(eV t t.length).length:=J;subst kk;rw [wB,Xb];refine bl ?_;refine CA ?_;repeat (first|refine aq (bD rfl) ?_|refine aq (dC rfl) ?_|refine cY ?_|refine b6 ?_|refine du ?_|refine dc rfl ?_|refine fV ?_|refine aq (gm rfl rfl rfl) ?_|refine aq (lq rfl rfl rfl rfl) ?_|refine aq (pe rfl) ?_|refine aq (lJ rfl rfl rfl rfl rfl rfl) ?_)
  refine cF (ι:=Nat×List Rat×List (Int×Int)×Nat) (fun q=>[(6,.ptr 1 0 0),(8,ij t p),(11,.aC 2 0 (bW t p).length),(16,.mp 3),(17,ah q.1)]) (fun q=>[none,some ⟨118,.box [.bool false,.nil,.nil]⟩,some ⟨118,aO q.2.1⟩,some ⟨185,zE q.2.2.1⟩])
   (fun q=>vO t p (dQ t p s) q.1 q.2.1 q.2.2.1 q.2.2.2) (fun q=>q.1) ((bW t p).length,sW t p (dQ t p s),[],0) ⟨aH,rfl,vO.top af hw iv HR p⟩ ?_
  rintro ⟨e,S,C,ng⟩ cf;simp only at cf⊢;have hle:=cf.wj.le;refine bf ?_;refine bw I (fun h=> ?_) (fun h=> ?_)
  ·have he:1<e:=J;obtain ⟨x,b,an⟩:=cf.wj.rk af he;have dT:=cf.step af he an;have LC:=cf.IF.len;have yd: ∀j,D xp (S.getD j 0):=fun j=>(cf.IF.short (Qm hw iv HR af) (by have:=cf.xZ;omega) j).mono (show 39+(2000*40+481)≤xp by decide);have So:=an.fin;have MM:=an.lp;have aqI:=an.lt;have nH:=ahM (an.new af cf.Rd);have SW:=an.cx;have tC:=SW (ca t p x.1-1) J;rw [show x.2+(ca t p x.1-1)=e-1 by omega] at tC;generalize gO:ca t p x.1=W at*;repeat (first|refine aq (bD rfl) ?_|refine b6 ?_|refine du ?_|refine dc rfl ?_|refine fV ?_|refine jk ?_|refine aq (q0 rfl rfl J) ?_|refine aq (lq rfl rfl rfl rfl) ?_|refine aq (pe rfl) ?_|refine aq (lJ rfl rfl rfl rfl rfl rfl) ?_)
   refine bR 105 (.int .i64 ((e-1:Nat):Int)) I (aU.of_eq (by congr 1;omega)) (u5 ?_);refine bR 108 (.int .i64 ((W-1:Nat):Int)) I (aU.of_eq (show ao.int .i64 ((bW t p).getD (e-1) c5).choice=_ by rw [tC])) ?_;refine iq ?_;refine ea 18 (ah x.2) I (aU.of_eq (by congr 1;omega)) (bp ?_);refine cF (ι:=Nat) (fun m=>[(6,.ptr 1 0 0),(8,ij t p),(11,.aC 2 0 (bW t p).length),(16,.mp 3),(17,ah e),(18,ah x.2),(19,ah (gj S x.2 m)),(20,.int .i64 ((x.2+m:Nat):Int))]) (fun _=>[none,some ⟨118,.box [.bool false,.nil,.nil]⟩,some ⟨118,aO S⟩,some ⟨185,zE C⟩])
    (fun m=>m≤W) (fun m=>W-m) 0 ⟨aH,rfl,cj _⟩ ?_
   intro m x7;obtain ⟨bQ,bX,dr⟩:=CJ S x.2 m;refine bh ?_;refine bw I (fun ab=> ?_) (fun ab=> ?_)
   ·have SD:m<W:=J;have oh:gj S x.2 (m+1)=if S.getD (gj S x.2 m) 0<S.getD (x.2+m) 0 then x.2+m else gj S x.2 m:=rfl
    have bb:=Zq (S.getD (x.2+m) 0) (S.getD (gj S x.2 m) 0) (hi ((yd _).mono (show xp≤9*100000 by decide))) (hi ((yd _).mono (show xp≤9*100000 by decide)));have sn:x.2+m<(aO S).len:=by show x.2+m<S.length;omega
    have zH:gj S x.2 m<(aO S).len:=by show gj S x.2 m<S.length;omega
    have bG:gj S x.2 m<x.2+m+1:=bX;generalize jc:gj S x.2 (m+1)=N at*;generalize gj S x.2 m=M at*;refine bp ?_;refine ee ag ?_;refine eM (fuel:=0) [0,1,2,3,4,5,6,7,8,9] [(6,.ptr 1 0 0),(8,ij t p),(11,.aC 2 0 (bW t p).length),(16,.mp 3),(17,ah e),(18,ah x.2),(19,ah M),(20,.int .i64 ((x.2+m:Nat):Int))] aH ag aT I I ?_;refine cI ?_;refine dW I I I I I bb ?_;refine cI ?_;refine eI ?_;refine dX ag ?_;repeat (refine b6 ?_)
    refine bw I (fun ay=> ?_) (fun ay=> ?_)
    ·rw [aB ((Rg _ _).mp ay)] at oh;refine bl ?_;exact cc ⟨m+1,J,J,⟨I,I,I,I,I,I,by rw [jc,oh];rfl,I,trivial⟩,I⟩
    ·rw [aw (fun q=>ay ((Rg _ _).mpr q))] at oh;refine bl ?_;exact cc ⟨m+1,J,J,⟨I,I,I,I,I,I,by rw [jc,oh];rfl,I,trivial⟩,I⟩
   have SD:m=W:=J;subst SD;have dr:=dr MM;have qI:=SW (gj S x.2 m-x.2) J;rw [show x.2+(gj S x.2 m-x.2)=gj S x.2 m by omega] at qI;have sj:=yZ (S.getD b 0) (S.getD (gj S x.2 m) 0) (hi ((yd _).mono (show xp≤9*100000 by decide))) (hi ((yd _).mono (show xp≤9*100000 by decide)));have zH:b<(aO S).len:=by show b<S.length;omega
   have aqh:gj S x.2 m<(aO S).len:=by show gj S x.2 m<S.length;omega
   have aqv:gj S x.2 m<(bW t p).length:=J;generalize gj S x.2 m=M at*;generalize iP:S.getD b 0+S.getD M 0=A at*;repeat (first|refine aq (bD rfl) ?_|refine b6 ?_|refine du ?_|refine dc rfl ?_|refine qU ?_|refine qS ?_|refine qR ?_|refine rO ?_|refine aq (ib rfl rfl rfl rfl hq J) ?_|refine aq (lq rfl rfl rfl rfl) ?_|refine aq (pe rfl) ?_|refine aq (lJ rfl rfl rfl rfl rfl rfl) ?_|refine aq (w6 rfl rfl rfl rfl rfl rfl) ?_|refine mf rfl rfl rfl ?_)
   refine bR 134 (.agg (ud ⟨x.1,((M-x.2:Nat):Int),(b:Int)⟩)) I (aU.of_eq (by rw [←qI];rfl)) ?_;refine dj (c':= .box (ud ⟨x.1,((M-x.2:Nat):Int),(b:Int)⟩)) I I I I I I I (bl ?_);refine Cs I (.int I) I I I I I (Tk C) nH ?_;refine fD [none,some ⟨118,.box [.bool false,.nil,.nil]⟩,some ⟨118,aO S⟩,some ⟨185,zE (C++[(x.1,((M-x.2:Nat):Int))])⟩,some ⟨178,.box [.int .i64 x.1,.int .i64 ((M-x.2:Nat):Int),ah b]⟩] (aP.same (aP.same (aP.same (aP.eqv (by unfold zE;rw [hb,hb];exact cG.refl _) (aP.eqv (cG.refl _) aP.nil))))) (bE ?_);refine ee ag ?_;refine eM (fuel:=1) [0,1,2,3,4,5,6,7,8,9,10,11,12,13] [(21,.ptr 4 0 0),(6,.ptr 1 0 0),(8,ij t p),(11,.aC 2 0 (bW t p).length),(16,.mp 3),(17,ah e),(18,ah x.2),(19,ah M)] aH ag aT I I ?_;refine cI ?_;refine dW I I I I I sj ?_;refine cI ?_;refine eI ?_;refine bn 14 ?_;unfold b8;refine eN (c':=aO (S.set b A)) I I I I I zH (by show (List.set _ b _).length=_;rw [da];rfl) I (fun aK ba aQ bd=>AL 0 3 bV S b A zH aK ba aQ bd) (bp ?_);refine dX ag ?_;skip
   refine b6 ?_;refine fB [none,some ⟨118,.box [.bool false,.nil,.nil]⟩,some ⟨118,aO (S.set b A)⟩,some ⟨185,zE (C++[(x.1,((M-x.2:Nat):Int))])⟩] [some ⟨178,.box [.int .i64 x.1,.int .i64 ((M-x.2:Nat):Int),ah b]⟩] [(6,.ptr 1 0 0),(8,ij t p),(11,.aC 2 0 (bW t p).length),(16,.mp 3),(18,ah x.2)] I aH hO (aaH _ _) I (bl ?_);exact cc ⟨(x.2,S.set b A,C++[(x.1,((M-x.2:Nat):Int))],ng+1),dT,by simp only;omega,aH,I⟩
  ·have B1:=cf.stop J;have LC:=cf.IF.len;have g0:0<(aO S).len:=by show 0<S.length;omega
   rw [B1] at ar;refine bf ?_;refine dj (c':= .box (bV (S.getD 0 0))) I I I I I I I (bE ?_);exact aZ ar I ⟨I,I⟩
 ·rintro r H ⟨rfl,rfl⟩;refine ⟨I,⟨⟨trivial,trivial,trivial,trivial⟩,trivial,trivial⟩,fun h o ai=> ?_⟩
  match h,ai with
  |0,ai=>simp at ai
  |1,ai=>
   cases ai;intro i j _ ae;exact amg _ j
  |2,ai=>cases ai;exact oA _
  |3,ai=>cases ai;exact ⟨Fx (fun _=>rfl) _,Fx (fun _=>rfl) _⟩
  |_+4,ai=>simp at ai
def mP (n:dP)(k i:Nat):List dP:=List.replicate i n++List.replicate (k-i) []
theorem Kt (n:dP)(k i j:Nat)(aa:i≤k)(ae:j<k):(mP n k i).getD j []=if j<i then n else []:=by
 unfold mP;simp only [List.getD,oS,fc,pJ];split
 ·simp
 ·rw [aB J];simp
theorem C4 (n:dP)(k i:Nat)(aa:i≤k):(mP n k i).length=k:=by unfold mP;simp;omega
theorem apy (n:dP)(k:Nat):mP n k k=List.replicate k n:=by unfold mP;simp
theorem ajw (n:dP)(k:Nat)(an:1≤k∧k≤100000):A2 Tryz.prog 122 [.ro (.strs [n]) 0 1,ah k] (fun N=> .aC N 0 k) ⟨27,.strs (List.replicate k n)⟩:=by
 refine cm.fresh (K:=fun r H=>r= .aC 0 0 k∧H=[some ⟨27,.strs (List.replicate k n)⟩]) (hx (P:=Tryz.prog) (fn:=Tryz.f122) I I ag I (fun c ar bJ=> ?_)) (fix:=fun _=>False) (fun _ h=>h) I (fun H=>⟨I,by simp [pA,nL]⟩) ?_
 ·have hm:=Tx 1 k J J;rw [qt,oR J,ny J] at hm;refine bh ?_;refine aq (gU (m:=1) I I I eW aT) ?_;repeat (refine aq (bD rfl) ?_)
  refine aq (gU (m:=k) I I I eW J) ?_;refine aL I I I hm (bf ?_);refine bw I (fun h=>absurd h J) (fun h=> ?_);refine bp ?_;refine aq (AK I I I J) ?_;refine mh I I I I I I I I (by show 0≤_∧_≤_∧(16:Int)*_≤_∧_;omega) (bE ?_);refine PY (o:=⟨27,.strs (List.replicate k [])⟩) (c':= .strs (mP n k 1)) (i:=0) (n:=k) (i2:=0) (m:=1) (q:=1) I I I I I I I (by simp [Cells.len]) J eu J (hX J) I I ?_ (fun aK j aQ ae=> ?_) ?_
  ·show (mP n k 1).length=(List.replicate k ([]:dP)).length;rw [C4 n k 1 J];simp
  ·have mA:aK<k:=by simpa [Cells.len] using aQ
   show ao.str ((mP n k 1).getD aK [])=_;rw [Kt n k 1 aK J mA];by_cases aM:aK<1
   ·rw [aB aM,aB J];have:aK=0:=J;subst this;rfl
   ·rw [aw aM,aw J];show _=ao.str ((List.replicate k ([]:dP)).getD aK []);simp [List.getD,mA]
  refine bp ?_;refine cF (ι:=Nat) (fun i=>[(7,.aC 0 0 k),(8,ah i)]) (fun i=>[some ⟨27,.strs (mP n k i)⟩]) (fun i=>1≤i∧i≤k) (fun i=>k-i) 1 ⟨aH,I,J,J⟩ ?_;rintro i ⟨wE,aa⟩;refine bh ?_;refine bw I (fun U=> ?_) (fun U=> ?_)
  ·obtain ⟨q,aA⟩: ∃q,Nat.min i (k-i)=q:=⟨_,rfl⟩
   have SR:q≤i∧q≤k-i∧1≤q:=by subst aA;refine ⟨Nat.min_le_left _ _,Nat.min_le_right _ _,?_⟩;show 1≤min i (k-i);omega
   refine bp ?_;refine ee ag ?_;refine bF 0 I ag ag ag I (bD I) I ?_;refine bF 1 I ag ag ag I (bD I) I ?_;refine bF 2 I ag ag ag I (bD I) I ?_;refine bF 4 I ag ag ag I (bD I) I ?_;refine bF 5 I ag ag ag I (bD I) I ?_;refine bF 3 I ag ag ag I (Oh I I I I I I I I J) I ?_;refine bF 6 I ag ag ag I (Oh I I I I I I I I J) I ?_;refine tR 41 (.aC 0 i (k-i)) I (aU.of_eq (by congr 1<;>omega)) ?_;refine tR 44 (.aC 0 0 i) I (aU.of_eq (by congr 1<;>omega)) ?_;refine bn 7 ?_;skip
   refine PY (h:=0) (o:=⟨27,.strs (mP n k i)⟩) (c':= .strs (mP n k (i+q))) (i:=i) (n:=k-i) (i2:=0) (m:=i) (q:=q) I I I I I I I (by show i+(k-i)≤(mP n k i).length;rw [C4 n k i aa];omega) J (by show 0+i≤(mP n k i).length;rw [C4 n k i aa];omega) J aA I I ?_ (fun aK j aQ ae=> ?_) ?_
   ·show (mP n k (i+q)).length=(mP n k i).length;rw [C4 n k i aa,C4 n k (i+q) J]
   ·have mA:aK<k:=by
     have:aK<(mP n k i).length:=aQ
     rwa [C4 n k i aa] at this
    show ao.str ((mP n k (i+q)).getD aK [])=_;rw [Kt n k (i+q) aK J mA];by_cases aM:i≤aK∧aK<i+q
    ·rw [aB aM,aB aM.2];show _=ao.str ((mP n k i).getD (0+(aK-i)) []);rw [Kt n k i _ aa J,aB J]
    ·rw [aw aM];show _=ao.str ((mP n k i).getD aK []);rw [Kt n k i aK aa mA];by_cases ab:aK<i
     ·rw [aB ab,aB J]
     ·rw [aw ab,aw J]
   refine fS ?_;refine bF 8 I ag ag ag I (hE I I J) I ?_;refine bF 9 I ag ag ag I (dC I) I ?_;refine dX ag ?_;repeat (refine kQ ?_)
   exact cc ⟨i+q,⟨J,J⟩,J,aH,I⟩
  ·have:i=k:=J;subst this;rw [apy];refine bl ?_;exact aZ ar I ⟨I,I⟩
 ·rintro r H ⟨rfl,rfl⟩;refine ⟨?_,fun h o ai=>vG NO h o ai,0,I,fun n=>rfl⟩;intro o ai;simp at ai;subst ai;exact Nat.le_of_eq (by simp [Cells.len])
theorem UY (c:hW)(j h:Nat)(ae:j<2):((oY c).getD j .any).forget h=(oY c).getD j .any:=by
 match j,ae with
 |0,_=>rfl
 |1,_=>rfl
theorem amq (s:df):e5 (cw s):=by
 intro i j _ ae;have ae:j<2:=ae
 match j,ae with
 |0,_=>rfl
 |1,_=>rfl
def q7 (t:aJ)(p:Int)(s:df):Int:=if y6 t p≠0 then y6 t p else if fC t p=true then ht t (1-p) s else 10
def Gy (t:aJ)(p:Int)(o:dd)(x:Int):Nat:=((Dz (jj t p o).2.2 x).getD 0).toNat
def kv (w c:Nat):List dP:=(List.replicate w [48]).set c [49]
def tU (t:aJ)(p:Int)(o:dd)(x:Int):hW:=⟨x,kv (ca t p x) (Gy t p o x)⟩
def kT (t:aJ)(p:Int)(o:dd):df:=(b9 t p).map (tU t p o)
def mO (t:aJ)(p:Int)(s:df):Rat:=(jj t p (dQ t p s)).2.1.getD 0 0
def jT (t:aJ)(p:Int)(s:df):dP×df×Int:=
 if q7 t p s≠0 then ([],[],q7 t p s) else if (hT (mO t p s)).2≠0 then ([],[],(hT (mO t p s)).2) else ((hT (mO t p s)).1,kT t p (dQ t p s),0)
def Q0 (r:dP×df×Int):ao:= .ck [.str r.1,.ro (cw r.2.1) 0 r.2.1.length,.int .i64 r.2.2]
theorem aaI {t:aJ}(af:Valid t)(hm:Go.aj.cQ.Modest t){p:Int}{s:df}(aD:p=0∨p=1)(BX:fC t p=true)(az:k5 t (1-p) s):D 80500 (mO t p s):=by
 rcases aD with rfl|rfl
 ·exact OB af hm BX az.str
 ·exact OC af hm BX az.str
theorem T3 (c:hW)(j:Nat)(ae:j<2):(fM 1 2 [.int .i64 c.info,.ro (.strs c.c3) 0 c.c3.length]).at 0 j=(oY c).getD j .any:=by
 match j,ae with
 |0,_=>rfl
 |1,_=>rfl
theorem OQ (t:aJ)(p:Int):(b9 t p).length≤10:=by unfold b9;refine dU (tf _ _) ?_;simp
theorem Q2 (t:aJ)(p:Int)(s:df)(h:Small t [s]):br Tryz.prog 37 [.ro (bS t) 0 t.length,.int .i64 p,.ro (cw s) 0 s.length] (Q0 (jT t p s)):=by
 have cJ:=apu t p h.qO;have yd:=h.qO;have aga:=h.s s b1;refine cg Tryz.f37 fun c ar bJ=> ?_;unfold jT at ar;refine bE ?_;refine aL I I I cJ (bt ?_);refine bw I (fun U=> ?_) (fun U=> ?_)
 ·have e:q7 t p s=y6 t p:=by unfold q7;rw [aB U]
  rw [e,aB U] at ar;refine cX ?_;refine ea 7 (.ro (cw []) 0 0) I aU.nil (dy ?_);exact aZ ar I I
 have g1:=hL.1 U;have afI:Valid t∧(p=0∨p=1):=by
  unfold y6 at g1;by_cases ab:nu t≠0
  ·rw [aB ab] at g1;exact absurd g1 ab
  rw [aw ab] at g1;refine ⟨Ke (hL.1 ab),?_⟩;by_cases q:p≠0∧p≠1
  ·rw [aB q] at g1;cases g1
  ·omega
 obtain ⟨af,aD⟩:=afI;have dD:=FD t p h.qO af;refine bp ?_;refine aL I I I dD ?_;cases BX:fC t p
 ·have e:q7 t p s=10:=by unfold q7;rw [aw U,aw (by rw [BX];exact fun q=>by cases q)]
  rw [e,aB aT] at ar;refine sB ?_;refine ea 7 (.ro (cw []) 0 0) I aU.nil (dy ?_);exact aZ ar I I
 have abW:q7 t p s=ht t (1-p) s:=by unfold q7;rw [aw U,aB BX]
 rw [abW] at ar;have eg:=NQ t (1-p) s h.qO.len aga;refine Ci ?_;refine aL I I I eg (bt ?_);refine bw I (fun ay=> ?_) (fun ay=> ?_)
 ·rw [aB ay] at ar;refine cX ?_;refine ea 7 (.ro (cw []) 0 0) I aU.nil (dy ?_);exact aZ ar I I
 rw [aw ay] at ar;have az:=h.str (s:=s) b1 (hL.1 ay);have lZ:=OD t p s h.qO af h.m aD az;have afO:=aaI af h.m aD BX az;have nE:=Gt (mO t p s) (hi (afO.mono (show 80500≤9*100000 by decide)));have aaU:=Kv t p h.qO.len;have afq:=fun x al=>Jr af (p:=p) (dQ t p s) (x:=x) al;have ei:=OQ t p;have Ia:(j3 t p).length=(b9 t p).length:=by unfold j3;simp
 have lZ:br Tryz.prog 121 [.ro (bS t) 0 t.length,.int .i64 p,.ro (cw s) 0 s.length] (.ck [b8 (mO t p s),.iC ((jj t p (dQ t p s)).2.2.map yi) ((jj t p (dQ t p s)).2.2.map Ck)]):=lZ;generalize mO t p s=q at*;refine bp ?_;refine aL I I I lZ ?_;unfold b8;refine bh ?_;refine dj (c':= .box (bV q)) I I I I I I I (bf ?_);refine aL I I I nE (bt ?_);refine bw I (fun bc=> ?_) (fun bc=> ?_)
 ·rw [aB bc] at ar;refine cX ?_;refine ea 7 (.ro (cw []) 0 0) I aU.nil (dy ?_);exact aZ ar I I
 rw [aw bc] at ar;refine bp ?_;refine aL I I I aaU ?_;repeat (first|refine aq (bD rfl) ?_|refine aq (dC rfl) ?_|refine cY ?_|refine b6 ?_|refine du ?_|refine dc rfl ?_|refine aq (nP rfl rfl) ?_|refine aq (gm rfl rfl rfl) ?_)
 refine lK 17 ⟨136,cw []⟩ I I ?_;repeat (refine fV ?_)
 refine cF (ι:=Nat) (fun k=>[(12,.iC ((jj t p (dQ t p s)).2.2.map yi) ((jj t p (dQ t p s)).2.2.map Ck)),(13,.str (hT q).1),(16,.ro (.ints .i64 (j3 t p)) 0 (j3 t p).length),(17,.aC 1 0 k),(60,.ro (.ints .i64 (b9 t p)) 0 (b9 t p).length),(61,ah ((b9 t p).length)),(62,ah k)]) (fun k=>[some ⟨118,.box (bV q)⟩,some ⟨136,cw (((b9 t p).take k).map (tU t p (dQ t p s)))⟩])
  (fun k=>k≤(b9 t p).length) (fun k=>(b9 t p).length-k) 0 ⟨aH,rfl,cj _⟩ ?_
 intro k an;refine bh ?_;refine bw I (fun h=> ?_) (fun h=> ?_)
 ·have b0:k<(b9 t p).length:=J;have afm:k<(j3 t p).length:=J;have S8:(b9 t p).getD k 0∈b9 t p:=dv 0 b0;have cy:(j3 t p).getD k 0=((ca t p ((b9 t p).getD k 0):Nat):Int):=by unfold j3;rw [nk _ _ 0 _ _ b0]
  obtain ⟨bb,fH,fu,uZ⟩:=afq _ S8;have MN:ca t p ((b9 t p).getD k 0)≤6:=by obtain ⟨j,ae,nK⟩:=(me af).1 S8;rw [qY af ae nK];exact af.xZ ae
  have zL:Gy t p (dQ t p s) ((b9 t p).getD k 0)=bb:=by unfold Gy;rw [fH];rfl
  obtain ⟨ng,Sx⟩:=List.getElem?_of_mem uZ;have i1:((jj t p (dQ t p s)).2.2.map yi)[ng]? =some (.int .i64 ((b9 t p).getD k 0)):=by rw [lB,Sx];rfl
  have i2:((jj t p (dQ t p s)).2.2.map Ck)[ng]? =some (ah bb):=by rw [lB,Sx];rfl
  have l6:((b9 t p).take (k+1)).map (tU t p (dQ t p s))=((b9 t p).take k).map (tU t p (dQ t p s))++[⟨(b9 t p).getD k 0,kv (ca t p ((b9 t p).getD k 0)) bb⟩]:=by rw [n9 b0,hb,←eA 0 b0,←zL];rfl
  have iv:(((b9 t p).take k).map (tU t p (dQ t p s))).length=k:=by rw [cW,fy];omega
  generalize Hl:((b9 t p).take (k+1)).map (tU t p (dQ t p s))=oM at*;generalize ((b9 t p).take k).map (tU t p (dQ t p s))=O at*;generalize ca t p ((b9 t p).getD k 0)=w at*;have abu:=ajw [48] w J;refine bf ?_;refine bR 71 (ah w) I (aU.of_eq (by rw [cy])) ?_;refine nR I I I abu (bE ?_);refine aq (vi I (.int I) I I I I (Tk _) ng i1 i2) ?_;repeat (refine aq (gr rfl rfl rfl rfl rfl hq J) ?_)
  refine lL (c':= .strs (kv w bb)) I I I I I I I (by show bb<(List.replicate w _).length;rw [fc];exact fu) ?_;refine iq ?_;refine jv [some ⟨118,.box (bV q)⟩,some ⟨136,cw O⟩,some ⟨27,.strs (kv w bb)⟩] I ?_;have ET:(kv w bb).length=w:=by unfold kv;rw [da,fc]
  refine ea 20 (.aC 2 0 w) I (aU.of_eq I) ?_;refine mG 2 20 w [(12,.iC ((jj t p (dQ t p s)).2.2.map yi) ((jj t p (dQ t p s)).2.2.map Ck)),(13,.str (hT q).1),(16,.ro (.ints .i64 (j3 t p)) 0 (j3 t p).length),(17,.aC 1 0 k),(19,.int .i64 ((b9 t p).getD k 0)),(60,.ro (.ints .i64 (b9 t p)) 0 (b9 t p).length),(61,ah ((b9 t p).length)),(62,ah k)] I NO I (by show w≤(kv w bb).length;omega) aH ?_;refine ea 20 (.ro (.strs (kv w bb)) 0 (kv w bb).length) I (aU.of_eq (by rw [ET])) (fe ?_);refine dI I I I I I I I I I iv I I eu I (by show (k+1)*32≤_∧_;omega) ?_ dq ?_
  ·intro aK j aa ae;exact iF gD 2 oY UY O ⟨(b9 t p).getD k 0,kv w bb⟩ _ (T3 ⟨(b9 t p).getD k 0,kv w bb⟩) 1 aK j aa ae
  refine fS ?_;refine b6 ?_;refine mJ ([some ⟨118,.box (bV q)⟩,some ⟨136,cw oM⟩]++[none]) ?_ ?_
  ·rw [l6];exact aP.eqv (cG.refl _) (aP.eqv (h7 gD 2 oY O ⟨(b9 t p).getD k 0,kv w bb⟩ _ (T3 ⟨(b9 t p).getD k 0,kv w bb⟩)) (aP.drop aP.nil))
  refine AR (H1:=[some ⟨118,.box (bV q)⟩,some ⟨136,cw oM⟩]) I dq ?_;refine mJ [some ⟨118,.box (bV q)⟩,some ⟨136,cw oM⟩] ?_ ?_
  ·exact aP.eqv (cG.refl _) (aP.eqv ⟨I,I,fun i j _ ae=>(UY _ j _ ae).symm⟩ aP.nil)
  refine bt ?_;exact cc ⟨k+1,J,J,aH,by rw [Hl]⟩
 ·have kk:k=(b9 t p).length:=J;subst kk;rw [fO];have zM:(kT t p (dQ t p s)).length=(b9 t p).length:=by unfold kT;rw [cW]
  have oh:(b9 t p).map (tU t p (dQ t p s))=kT t p (dQ t p s):=rfl;rw [oh];generalize kT t p (dQ t p s)=B at*;refine iq ?_;refine mG 1 17 (b9 t p).length [(13,.str (hT q).1)] I (amq _) I (by show _≤B.length;omega) ⟨I,trivial⟩ ?_;refine ea 17 (.ro (cw B) 0 B.length) I (aU.of_eq (by rw [zM])) (bE ?_);exact aZ ar I I
theorem aoL (t:aJ)(g:FuncId)(cD:List ao)(q:ev→Bool)(av:c2.e9 cD=true)(hlen:t.length≤9223372036854775807)(aD: ∀n∈t,br Tryz.prog g ([.agg (kU n)]++cD) (.bool (q n))):
 br Tryz.prog 84 [.ro (bS t) 0 t.length,.fn g cD] (.bool (t.any q)):=by have ci:=VB t g cD q av hlen aD;refine cm.sD (hx (P:=Tryz.prog) (fn:=Tryz.f84) I I ag I (fun c ar bJ=> ?_)) (fix:=fun _=>False) (fun _ h=>h) (by simp [c2.e9,c2,av]) I;refine bE ?_;refine aL I I I ci (fe ?_);refine aZ ar I ?_;simp only [gP,Da]
def Dy (n:ev):Bool:=decide (12<(n.jf.length:Int))||n.c3.any (fun s=>decide (12<(s.length:Int)))
theorem ahB (s:dP)(az:s.length≤9223372036854775807):br Tryz.prog 87 [.str s] (.bool (decide (12<(s.length:Int)))):=by refine cg Tryz.f87 fun c ar bJ=> ?_;refine bf ?_;exact aZ ar I I
theorem ahA (n:ev)(aG:DI n):br Tryz.prog 85 [.agg (kU n)] (.bool (Dy n)):=by
 obtain ⟨U,ab,ay,bc⟩:=aG;have bb:=Ww n.c3 87 [] (fun s=>decide (12<(s.length:Int))) rfl ab (fun s az=>ahB s (ay s az));refine cg Tryz.f85 fun c ar bJ=> ?_;obtain ⟨b7,pl,bM,bj,cv,cT⟩:=n;unfold Dy at ar;unfold kU;simp only at*;refine bf ?_;refine hg I I (fun g1=> ?_) (fun g1=> ?_)
 ·rw [eG g1,Bool.true_or] at ar;refine bf ?_;exact aZ ar I I
 ·rw [fP g1,Bm] at ar;refine bl ?_;refine aL I I I bb (dy ?_);exact aZ ar I I
def F6 (t:aJ):Bool:=decide ((t.length:Int)≤40) && !(t.any Dy)
theorem Vk {t:aJ}(h:F6 t=true):Go.aj.cQ.Modest t:=by
 unfold F6 at h;rw [er,e8,zB,uB] at h;obtain ⟨U,ab⟩:=h;refine ⟨J,fun n aG=> ?_,fun n aG r ad=> ?_⟩
 ·have:=ab n aG;unfold Dy at this;rw [uz,Bool.or_eq_false_iff,GS] at this;omega
 ·have:=ab n aG;unfold Dy at this;rw [uz,Bool.or_eq_false_iff,uB] at this;have:=this.2 r ad;rw [e8] at this;omega
theorem apj (t:aJ)(b4:kb t):br Tryz.prog 22 [.ro (bS t) 0 t.length] (.bool (F6 t)):=by
 have bb:=aoL t 85 [] Dy rfl b4.len (fun n aG=>ahA n (b4.node n aG));have hlen:=b4.len;refine cg Tryz.f22 fun c ar bJ=> ?_;unfold F6 at ar;refine fe ?_;refine hg I I (fun g1=> ?_) (fun g1=> ?_)
 ·rw [eG g1,mU] at ar;refine dy ?_;refine aL I I I bb (bl ?_);exact aZ ar I I
 ·rw [fP g1,uC] at ar;refine bf ?_;exact aZ ar I I
theorem seven {d:Nat}(h:d<7):d=0∨d=1∨d=2∨d=3∨d=4∨d=5∨d=6:=J
theorem AG:br Tryz.prog 79 [] (.ro (bS dM) 0 7):=by
 refine cg Tryz.f79 fun c ar bJ=> ?_;refine u7 ?_;refine ea 0 (.ro (bS dM) 0 7) I (aU.IB I (fun d j hd ae=> ?_)) ?_
 ·have ae:j<6:=ae;have su:j=0∨j=1∨j=2∨j=3∨j=4∨j=5:=J;rcases seven hd with rfl|rfl|rfl|rfl|rfl|rfl|rfl<;>rcases su with rfl|rfl|rfl|rfl|rfl|rfl<;>first|exact aU.yo|exact aU.nil
 repeat (refine oB ?_)
 exact aZ ar I I
theorem Gd (n:Int):br Tryz.prog 102 [.int .i64 n] (.ro (cw (eJ n)) 0 1):=by
 refine cg Tryz.f102 fun c ar bJ=> ?_;refine u7 ?_;refine ea 2 (.ro (cw (eJ n)) 0 1) I (aU.IB I (fun d j hd ae=> ?_)) ?_
 ·have ae:j<2:=ae;have su:j=0∨j=1:=J;obtain rfl:d=0:=J;rcases su with rfl|rfl<;>exact aU.yo
 repeat (refine oB ?_)
 exact aZ ar I I
end Go.Proofs.YtmpnheilfejcpaaGreatDoor
namespace Go.Proofs.YtmpnheilfejcpaaGreatDoor
open Go.aj Go.aj.dh Go.aj.cQ Go.RowKit
attribute [local irreducible] aj eD bZ cm gK
open Go.aj.ka Go.aj.eT
theorem equalR (a b:List (List UInt8))(hlen:a.length≤9223372036854775807)(zX:b.length≤9223372036854775807):br Tryz.prog 81 [.ro (.strs a) 0 a.length,.ro (.strs b) 0 b.length] (.bool (decide (a=b))):=by
 refine cg Tryz.f81 fun c ar bJ=> ?_;refine bt ?_;refine bw I (fun h=> ?_) (fun h=> ?_)
 ·refine dy ?_;refine aZ ar I ?_;have: ¬a=b:=by rintro rfl;exact h rfl
  simp [gP,this]
 have mX:a.length=b.length:=J;refine bt ?_;refine cF (ι:=Nat) (fun k=>[(0,.ro (.strs a) 0 a.length),(1,.ro (.strs b) 0 b.length),(12,ah a.length),(13,ah k)]) (fun _=>[])
  (fun k=>k≤a.length∧a.take k=b.take k) (fun k=>a.length-k) 0 ⟨aH,rfl,cj _,rfl⟩ ?_
 intro k ⟨an,heq⟩;refine bh ?_;refine bw I (fun ab=> ?_) (fun ab=> ?_)
 ·have b0:k<a.length:=J;have aW:=rL a [] k b0;have ak:=rL b [] k J;refine bp ?_;refine yI ag ag I (u9 ?_);refine bw I (fun ay=> ?_) (fun ay=> ?_)
  ·refine bf ?_;refine aZ ar I ?_;have: ¬a=b:=by rintro rfl;exact ay rfl
   simp [gP,this]
  ·refine bl ?_;have bc:a.getD k []=b.getD k []:=hL.1 ay;exact cc ⟨k+1,⟨J,by rw [aW,ak,heq,bc]⟩,J,aH,I⟩
 ·have b0:k=a.length:=J;subst b0;rw [fO,mX,fO] at heq;refine bl ?_;refine aZ ar I ?_;simp [gP,heq]
end Go.Proofs.YtmpnheilfejcpaaGreatDoor
namespace Go.Proofs.YtmpnheilfejcpaaGreatDoor
open Go.aj Go.aj.dh Go.aj.cQ Go.RowKit Go.aj.dR Go.aj.cL Go.aj.k4 Go.aj.eT
attribute [local irreducible] aj eD bZ cm gK
theorem Zb:kb dM:=⟨aT,fun n aG=>by
 simp only [dM,gb,zD,nB] at aG;rcases aG with rfl|rfl|rfl|rfl|rfl|rfl|rfl<;>exact ⟨aT,aT,aT,aT⟩⟩
abbrev Hf:List (List dP):=[[[48],[48],[48]],[[48],[45,49],[49]],[[48],[49],[45,49]]]
theorem alG:br Tryz.prog 20 [] (.bool true):=by
 have cJ:=apI dM Zb (fun h=>nx.of W1 (Dt h).v);rw [ajY] at cJ;have cJ:br Tryz.prog 30 [.ro (bS dM) 0 7] (.ck [.ro (oF Hf) 0 3,.int .i64 0]):=cJ;have dD:=U8 dM 3 2 Zb (fun h=>nx.of W1 (Dt h).v) (fun _=>ajX);rw [ajW] at dD;have dD:br Tryz.prog 25 [.ro (bS dM) 0 7] (.ck [.agg [.str [48],.ro (cw [⟨0,[k0,k0]⟩]) 0 1,.ro (cw [⟨3,[k0,k0]⟩]) 0 1],.int .i64 0]):=dD;have f2:br Tryz.prog 19 [.ro (.ints .i64 [0,0]) 0 2] (.bool true):=Ls [0,0] aT;have eg:=OA [] (show kb [] from ⟨aT,fun n aG=>(zD aG).elim⟩);rw [ajT] at eg;have aaS:br Tryz.prog 23 [.nil] (.int .i64 8):=fun H=>cm.args (eg H) ⟨aU.nil,trivial⟩;have lZ:=ajH Hf Hf aT aT aT aT;have nE:br Tryz.prog 81 [.ro (.strs [k0,k0]) 0 2,.ro (.strs [k0,k0]) 0 2] (.bool true):=equalR [k0,k0] [k0,k0] aT aT;refine cg Tryz.f20 fun c ar bJ=> ?_;refine bE ?_;refine aL I I I AG ?_;skip
 refine aL I I I cJ (dy ?_);refine aL I I I AG ?_;skip
 refine aL I I I dD (bh ?_);refine dj (c':= .box [.str [48],.ro (cw [⟨0,[k0,k0]⟩]) 0 1,.ro (cw [⟨3,[k0,k0]⟩]) 0 1]) I I I I I I I (bt ?_);refine aL I I I f2 (dy ?_);refine aL I I I aaS (bh ?_);refine bR 28 (.ro (oF Hf) 0 3) I (aU.ro I (fun d j hd ae=> ?_)) ?_
 ·have jG:d=0∨d=1∨d=2:=J;have su:j=0:=by have ae:j<1:=ae;omega
  subst su;rcases jG with rfl|rfl|rfl<;>rfl
 refine aL I I I lZ ?_;rw [eG rfl];repeat (first|refine aq (bD rfl) ?_|refine mg rfl rfl ?_|refine aq (vf rfl rfl rfl rfl) ?_|refine aq (ia rfl rfl rfl rfl rfl) ?_|refine aq (nV rfl rfl) ?_|refine aq (mH rfl rfl) ?_|refine aq (gm rfl rfl rfl) ?_|refine aq (ib rfl rfl rfl rfl hq J) ?_|refine aq (yT rfl rfl) ?_|refine aq (ds rfl rfl rfl rfl rfl rfl) ?_|refine aq (lJ rfl rfl rfl rfl rfl rfl) ?_|refine ju rfl rfl rfl rfl rfl rfl rfl rfl rfl rfl rfl ?_)
 refine aL I I I nE (dy ?_);exact aZ ar I I
theorem Xi {q:Rat}(h:eB q=true):(cq q).length≤9223372036854775807:=by have aR:=h;unfold eB at aR;rw [er,e8,e8] at aR;unfold cq;rw [di,di];split<;>split<;>simp<;>omega
end Go.Proofs.YtmpnheilfejcpaaGreatDoor
namespace Go.Proofs.YtmpnheilfejcpaaGreatDoor
open Go.aj Go.aj.dh Go.aj.cQ Go.RowKit Go.aj.ka Go.aj.eT
attribute [local irreducible] aj eD bZ cm gK
def ku:df:=[⟨3,[[49],[48]]⟩]
theorem P6:kb dM:=⟨aT,fun n aG=>by
 simp only [dM,gb,zD,nB] at aG;rcases aG with rfl|rfl|rfl|rfl|rfl|rfl|rfl<;>exact ⟨aT,aT,aT,aT⟩⟩
theorem P5:Go.aj.cQ.Modest dM:=Vk aT
theorem V9 (n:Int):qq (eJ n):=⟨(by decide:1≤9223372036854775807),fun c av=>by
 rw [hk.1 av];exact ⟨(by decide:2≤9223372036854775807),fun s az=>by simp at az;subst az;decide⟩⟩
theorem aoU:qq ku:=⟨aT,fun c av=>by
 rw [hk.1 av];exact ⟨aT,fun s az=>by simp at az;rcases az with rfl|rfl<;>decide⟩⟩
theorem Zc:Small dM [eJ 0,eJ 3]:=⟨P6,P5,fun x al=>by
 simp at al;rcases al with rfl|rfl<;>exact V9 _⟩
theorem Uq:hy [48] 0:=by decide+kernel
theorem Ur:hy [49] 1:=by decide+kernel
theorem aoh (w c:Nat):kv w c=(hG w c).map cq:=by unfold kv hG;rw [List.map_set,List.map_replicate,Uq.text,Ur.text]
theorem apU (w c:Nat):(kv w c).map dk=hG w c:=by unfold kv hG;rw [List.map_set,List.map_replicate,Uq.2,Ur.2]
theorem aog {w c:Nat}(av:c<w)(hw:w≤6):iI (kv w c)=0:=by obtain ⟨U,ab,ay⟩:=yE av;rw [aoh];exact ahY (k:=1) J (fun q aA=>(ay q aA).2) J J (fun q aA=>(ay q aA).1) ab
theorem W6 {bU Z:List Int}: ∀{s:df} {k:Nat},(∀j,j<s.length→(s.getD j gD).info=bU.getD (k+j) 0∧(((s.getD j gD).c3.length:Nat):Int)=Z.getD (k+j) 0∧iI (s.getD j gD).c3=0)→po bU Z k s=0
 |[],k,_=>rfl
 |c::r,k,h=>by obtain ⟨U,ab,ay⟩:=h 0 b1;have U:c.info=bU.getD k 0:=U;have ab:((c.c3.length:Nat):Int)=Z.getD k 0:=ab;have ay:iI c.c3=0:=ay;rw [po,aw (by rw [U,ab];simp),aw (by rw [ay];simp)];refine W6 (fun j ae=> ?_);have:=h (j+1) (by simpa using ae);rw [show k+1+j=k+(j+1) by omega];exact this
theorem Q3 {t:aJ}(af:Valid t)(p:Int)(o:dd):ht t p (kT t p o)=0:=by
 have au:(kT t p o).length=(b9 t p).length:=by unfold kT;rw [cW]
 unfold ht;rw [aw (fun h=>h au)];refine W6 (fun j ae=> ?_);rw [cR];have bd:j<(b9 t p).length:=J;have e:(kT t p o).getD j gD=tU t p o ((b9 t p).getD j 0):=by unfold kT;rw [nk _ _ 0 _ _ bd]
 have hm:(b9 t p).getD j 0∈b9 t p:=dv 0 bd;rw [e];obtain ⟨c,cJ,dD,eg⟩:=Jr af o hm;have zL:Gy t p o ((b9 t p).getD j 0)=c:=by unfold Gy;rw [cJ];rfl
 have MN:ca t p ((b9 t p).getD j 0)≤6:=by obtain ⟨i,aa,az⟩:=(me af).1 hm;rw [qY af aa az];exact af.xZ aa
 refine ⟨I,?_,?_⟩
 ·show (((kv _ _).length:Nat):Int)=(j3 t p).getD j 0;unfold kv j3;rw [da,fc,nk _ _ 0 _ _ bd]
 ·show iI (kv _ _)=0;rw [zL];exact aog dD MN
theorem Wp {t:aJ}(af:Valid t)(p:Int)(o:dd){x:Int}(al:x∈b9 t p):h8 (kT t p o) x=qg t p o x:=by
 have aG:((kT t p o).map hW.info).Nodup:=by
  have:(kT t p o).map hW.info=b9 t p:=by
   unfold kT;rw [tg]
   conv=>rhs;rw [←zv (b9 t p)]
   rfl
  rw [this];exact Cy t p
 have:=Pw aG (c:=tU t p o x) (cS.2 ⟨x,al,rfl⟩);have e:(tU t p o x).info=x:=rfl;rw [e] at this;rw [this];exact apU _ _
theorem aaK {t:aJ}(af:Valid t)(p:Int)(o:dd):qq (kT t p o)∧ ∀c∈kT t p o,∀r∈c.c3,r.length≤12:=by
 have key: ∀c∈kT t p o,c.c3.length≤6∧ ∀r∈c.c3,r.length≤1:=by
  intro c av;obtain ⟨x,al,rfl⟩:=cS.1 av;obtain ⟨i,aa,az⟩:=(me af).1 al;refine ⟨?_,fun r ad=> ?_⟩
  ·show (kv _ _).length≤6;unfold kv;rw [da,fc,qY af aa az];exact af.xZ aa
  ·have ad:r∈kv _ _:=ad;unfold kv at ad;rcases xL ad with h|h
   ·rw [(zm.1 h).2];decide
   ·rw [h];decide
 refine ⟨⟨?_,fun c av=>⟨by have:=(key c av).1;omega,fun r ad=>by have:=(key c av).2 r ad;omega⟩⟩,fun c av r ad=>by have:=(key c av).2 r ad;omega⟩;unfold kT;rw [cW];have:=OQ t p;omega
theorem ale {t:aJ}(af:Valid t)(aD:fC t 0=true)(s:df):eo t (fi t (kT t 0 (dQ t 0 s)) s)=mO t 0 s:=by
 have h:=GZ af aD (h8 s);show _=mN t 0 (h8 s);rw [h];refine Cz (fun i aa=> ?_);unfold fi hh;split
 ·rfl
 ·split
  ·rename_i U ab;split
   ·rename_i ay;have az:fX 0 (t.getD i aN).info (t.getD i aN)=true:=by unfold fX;rw [sP.2 ⟨ab,ay⟩,eG rfl];rfl
    rw [Wp af 0 _ ((me af).2 ⟨i,aa,az⟩)];rfl
   ·rfl
  ·rfl
theorem alf {t:aJ}(af:Valid t)(aD:fC t 1=true)(s:df): -(eo t (fi t s (kT t 1 (dQ t 1 s))))=mO t 1 s:=by
 have h:=G0 af aD (h8 s);show _=mN t 1 (h8 s);rw [h];congr 1;refine Cz (fun i aa=> ?_);unfold fi hh;split
 ·rfl
 ·split
  ·rename_i U ab;split
   ·rfl
   ·rename_i ay;have bc:=At af aa ab;have az:fX 1 (t.getD i aN).info (t.getD i aN)=true:=by unfold fX;rw [sP.2 ⟨ab,J⟩,eG rfl];rfl
    rw [Wp af 1 _ ((me af).2 ⟨i,aa,az⟩)];rfl
  ·rfl
def mm (t:aJ)(a b:df):Int:=if pq t a b≠0 then pq t a b else if fC t 0=true∧fC t 1=true then 0 else 10
theorem aov {t:aJ}{a b:df}(h:mm t a b=0):pq t a b=0∧fC t 0=true∧fC t 1=true:=by
 unfold mm at h;by_cases U:pq t a b=0
 ·rw [aw (fun q=>q U)] at h;by_cases ab:fC t 0=true∧fC t 1=true
  ·exact ⟨U,ab⟩
  ·rw [aw ab] at h;exact absurd h aT
 ·rw [aB U] at h;exact absurd h U
theorem I2 (t:aJ)(a b:df)(h:Small t [a,b]):br Tryz.prog 119 [.ro (bS t) 0 t.length,.ro (cw a) 0 a.length,.ro (cw b) 0 b.length] (.int .i64 (mm t a b)):=by
 have cJ:=VX t a b h.qO (h.s a b1) (h.s b b1);refine cg Tryz.f119 fun c ar bJ=> ?_;unfold mm at ar;by_cases U:pq t a b=0
 case neg=>
  rw [aB U] at ar;generalize pq t a b=E at*;refine bE ?_;refine aL I I I cJ (bt ?_);rw [eG (show¬E=0 from U)];refine bl ?_;exact aZ ar I I
 obtain ⟨af,l0,kK⟩:=N2 U;have kn:=FD t 0 h.qO af;have c4:=FD t 1 h.qO af;rw [aw (fun q=>q U)] at ar;rw [U] at cJ;cases ab:fC t 0
 ·rw [ab] at kn;rw [aw (fun q=>by rw [ab] at q;exact absurd q.1 aT)] at ar;refine bE ?_;refine aL I I I cJ (bh ?_);refine aL I I I kn (bf ?_);exact aZ ar I I
 ·rw [ab] at kn;cases ay:fC t 1
  ·rw [ay] at c4;rw [aw (fun q=>by rw [ay] at q;exact absurd q.2 aT)] at ar;refine bE ?_;refine aL I I I cJ (bh ?_);refine aL I I I kn (bl ?_);refine aL I I I c4 (bl ?_);exact aZ ar I I
  ·rw [ay] at c4;rw [aB ⟨ab,ay⟩] at ar;refine bE ?_;refine aL I I I cJ (bh ?_);refine aL I I I kn (bl ?_);refine aL I I I c4 (bl ?_);exact aZ ar I I
theorem WB (t:aJ)(a b:df)(b4:kb t)(af:Valid t)(hm:Go.aj.cQ.Modest t)(aW:k5 t 0 a)(ak:k5 t 1 b)(aM:fC t 0=true)(U:fC t 1=true):
 br Tryz.prog 134 [.ro (bS t) 0 t.length,.ro (cw a) 0 a.length,.ro (cw b) 0 b.length] (.ck [b8 (mO t 0 b-eo t (fi t a b)),b8 (mO t 1 a+eo t (fi t a b))]):=by
 have d0:D 80500 (mO t 0 b):=OB af hm aM ak.str;have d1:D 80500 (mO t 1 a):=OC af hm U aW.str;have od:D 80500 (eo t (fi t a b)):=FL af (C2 af hm aW.str ak.str) hm.len (hm.rH af);have s1:=ajf (mO t 0 b) (eo t (fi t a b)) (hi (d0.mono (show 80500≤9*100000 by decide))) (hi (od.mono (show 80500≤9*100000 by decide)));have s2:=yZ (mO t 1 a) (eo t (fi t a b)) (hi (d1.mono (show 80500≤9*100000 by decide))) (hi (od.mono (show 80500≤9*100000 by decide)));have cJ:=Qo t a b b4 af hm aW ak;have dD:=OD t 0 b b4 af hm (.inl rfl) ak;have eg:=OD t 1 a b4 af hm (.inr rfl) aW;clear d0 d1 od;unfold mO at*;generalize eo t (fi t a b)=V at*;generalize jj t 0 (dQ t 0 b)=KY at*;generalize jj t 1 (dQ t 1 a)=KZ at*;generalize KY.2.1.getD 0 0=X at*;generalize KZ.2.1.getD 0 0=Y at*;refine cg Tryz.f134 fun c ar bJ=> ?_;refine bh ?_;refine aL I I I cJ ?_;repeat (refine mf rfl rfl rfl ?_)
 unfold b8;refine dj (c':= .box (bV V)) I I I I I I I (bE ?_);refine aL I I I dD (bh ?_);refine dj (c':= .box (bV X)) I I I I I I I (bE ?_);refine aL I I I eg (bh ?_);refine dj (c':= .box (bV Y)) I I I I I I I (bE ?_);refine ee ag ?_;refine eM (fuel:=2) [0,1,2,3,4,5] [(6,.ptr 0 0 0),(7,.ptr 1 0 0),(8,.ptr 2 0 0),(9,.ptr 3 0 0),(11,.ptr 4 0 0)] aH ag aT I I ?_;refine cI ?_;refine dW I I I I I s1 ?_;refine cI ?_;refine dW I I I I I s2 ?_;refine eI ?_;unfold b8;refine bn 6 ?_;skip
 refine dj (c':= .box (bV (X-V))) I I I I I I I (bp ?_);refine bn 7 ?_;skip
 refine dj (c':= .box (bV (Y+V))) I I I I I I I (bp ?_);refine dX ag (bE ?_);exact aZ ar I I
def kX (t:aJ)(a b:df):Rat:=mO t 0 b-eo t (fi t a b)
def kY (t:aJ)(a b:df):Rat:=mO t 1 a+eo t (fi t a b)
structure DE (t:aJ)(a b:df):Prop where
 v:Valid t
 rI:k5 t 0 a
 rJ:k5 t 1 b
 kn:fC t 0=true
 c4:fC t 1=true
 od:D 80500 (eo t (fi t a b))
 G8:D 161001 (kX t a b)
 zF:D 161001 (kY t a b)
 dg:D 161001 (kX t a b+kY t a b)
theorem DE.of {t:aJ}{a b:df}(h:Small t [a,b])(he:mm t a b=0):DE t a b:=by obtain ⟨U,ab,ay⟩:=aov he;obtain ⟨af,l0,kK⟩:=N2 U;have rI:=h.str (s:=a) b1 l0;have rJ:=h.str (s:=b) b1 kK;obtain ⟨g1,g2,g3,g4⟩:=anJ af h.m ab ay rI.str rJ.str;exact ⟨af,rI,rJ,ab,ay,g1,g2,g3,g4⟩
theorem Zh {q:Rat}(h:D 1949 q):hT q=(cq q,0)∧hy (cq q) q:=h.out aT
def Ea (t:aJ)(a b:df):dP×Int:=if mm t a b≠0 then ([],mm t a b) else hT (kX t a b+kY t a b)
theorem RG (t:aJ)(a b:df)(h:Small t [a,b]):br Tryz.prog 46 [.ro (bS t) 0 t.length,.ro (cw a) 0 a.length,.ro (cw b) 0 b.length] (uk (Ea t a b)):=by
 have cJ:=I2 t a b h;refine cg Tryz.f46 fun c ar bJ=> ?_;unfold uk Ea at ar;by_cases U:mm t a b=0
 case neg=>
  rw [aB U] at ar;generalize mm t a b=E at*;refine bE ?_;refine aL I I I cJ (bt ?_);rw [eG (show¬E=0 from U)];refine bl ?_;exact aZ ar I I
 have x:=DE.of h U;have dD:=WB t a b h.qO x.v h.m x.rI x.rJ x.kn x.c4;have eg:=yZ (kX t a b) (kY t a b) (hi (x.G8.mono (show 161001≤9*100000 by decide))) (hi (x.zF.mono (show 161001≤9*100000 by decide)));have lZ:=Gt (kX t a b+kY t a b) (hi (x.dg.mono (show 161001≤9*100000 by decide)));unfold uk at lZ;have dD:br Tryz.prog 134 [.ro (bS t) 0 t.length,.ro (cw a) 0 a.length,.ro (cw b) 0 b.length] (.ck [.agg (bV (kX t a b)),.agg (bV (kY t a b))]):=dD;rw [aw (fun q=>q U)] at ar;rw [U] at cJ;generalize kX t a b+kY t a b=G at*;generalize hT G=aqc at*;clear x;generalize kX t a b=X at*;generalize kY t a b=Y at*;refine bE ?_;refine aL I I I cJ (bh ?_);refine aL I I I dD (bh ?_);refine dj (c':= .box (bV X)) I I I I I I I ?_;skip
 refine dj (c':= .box (bV Y)) I I I I I I I (bf ?_);refine aL I I I eg ?_;skip
 refine aL I I I lZ (dy ?_);exact aZ ar I I
def Du (t:aJ)(a b:df):dP×dP×Int:=if mm t a b≠0 then ([],[],mm t a b) else (cq (kX t a b),cq (kY t a b),0)
theorem aih (x y:Rat)(al:D 1949 x)(a1:D 1949 y):br Tryz.prog 70 [.ro (aO [x,y]) 0 2] (.ck [.ro (.strs [cq x,cq y]) 0 2,.int .i64 0]):=by
 have:=VS [x,y] (show 2≤1000000 by decide) (fun q aA=>by
  simp at aA;rcases aA with rfl|rfl
  ·exact hi (al.mono (show 1949≤9*100000 by decide))
  ·exact hi (a1.mono (show 1949≤9*100000 by decide))) (by
  simp only [zq,List.all_nil,Bool.and_true,(Zh al).2.fit,(Zh a1).2.fit])
 exact this
theorem acY (t:aJ)(a b:df)(h:Small t [a,b])(c9:mm t a b=0→D 1949 (kX t a b)∧D 1949 (kY t a b)):br Tryz.prog 118 [.ro (bS t) 0 t.length,.ro (cw a) 0 a.length,.ro (cw b) 0 b.length] (.ck [.str (Du t a b).1,.str (Du t a b).2.1,.int .i64 (Du t a b).2.2]):=by
 have cJ:=I2 t a b h;refine cg Tryz.f118 fun c ar bJ=> ?_;unfold Du at ar;by_cases U:mm t a b=0
 case neg=>
  rw [aB U] at ar;generalize mm t a b=E at*;refine bE ?_;refine aL I I I cJ (bt ?_);rw [eG (show¬E=0 from U)];refine bl ?_;exact aZ ar I I
 have x:=DE.of h U;have dD:=WB t a b h.qO x.v h.m x.rI x.rJ x.kn x.c4;have eg:=aih (kX t a b) (kY t a b) (c9 U).1 (c9 U).2;have dD:br Tryz.prog 134 [.ro (bS t) 0 t.length,.ro (cw a) 0 a.length,.ro (cw b) 0 b.length] (.ck [.agg (bV (kX t a b)),.agg (bV (kY t a b))]):=dD;rw [aw (fun q=>q U)] at ar;rw [U] at cJ;clear x;generalize kX t a b=X at*;generalize kY t a b=Y at*;refine bE ?_;refine aL I I I cJ (bh ?_);refine aL I I I dD (bh ?_);refine dj (c':= .box (bV X)) I I I I I I I ?_;skip
 refine dj (c':= .box (bV Y)) I I I I I I I (bf ?_);refine bR 31 (.ro (aO [X,Y]) 0 2) I (aU.IB I (fun d j hd ae=> ?_)) ?_
 ·have ae:j<3:=ae;have jG:d=0∨d=1:=J;have su:j=0∨j=1∨j=2:=J;rcases jG with rfl|rfl<;>rcases su with rfl|rfl|rfl<;>exact aU.yo
 refine aL I I I eg (bh ?_);refine yI ag ag I ?_;repeat (first|refine aq (bD rfl) ?_|refine aq (dC rfl) ?_|refine cY ?_|refine b6 ?_|refine oB ?_|refine aq (Of rfl rfl rfl) ?_|refine aq (ib rfl rfl rfl rfl hq J) ?_)
 exact aZ ar I I
abbrev ajI (v:dP)(a b:df):ao:= .agg [.str v,.ro (cw a) 0 a.length,.ro (cw b) 0 b.length]
def Cm (t:aJ)(a b:df)(v:dP):Int:=if mm t a b≠0 then mm t a b else if hI v≠0 then hI v else if (hT (eo t (fi t a b))).2≠0 then (hT (eo t (fi t a b))).2 else if (hT (kX t a b+kY t a b)).2≠0 then (hT (kX t a b+kY t a b)).2 else if (hT (eo t (fi t a b))).1=v∧(hT (kX t a b+kY t a b)).1=[48] then 0 else 16
theorem Xv (t:aJ)(a b:df)(v:dP)(rz:v.length≤9223372036854775807)(h:Small t [a,b]):br Tryz.prog 36 [.ro (bS t) 0 t.length,ajI v a b] (.int .i64 (Cm t a b v)):=by
 have cJ:=I2 t a b h;refine cg Tryz.f36 fun c ar bJ=> ?_;unfold Cm at ar;by_cases U:mm t a b=0
 case neg=>
  rw [aB U] at ar;generalize mm t a b=E at*;refine bf ?_;refine aL I I I cJ (bt ?_);rw [eG (show¬E=0 from U)];refine bl ?_;exact aZ ar I I
 have x:=DE.of h U;have dD:=JH v rz;have eg:=Qo t a b h.qO x.v h.m x.rI x.rJ;have lZ:=Gt (eo t (fi t a b)) (hi (x.od.mono (show 80500≤9*100000 by decide)));have nE:=RG t a b h;unfold Ea at nE;rw [aw (fun q=>q U)] at nE ar;rw [U] at cJ;unfold uk at lZ nE;clear x;generalize hT (kX t a b+kY t a b)=ZV at*;obtain ⟨G,g2⟩:=ZV;generalize eo t (fi t a b)=Q at*;generalize hT Q=Z0 at*;obtain ⟨V,v2⟩:=Z0;simp only at lZ nE ar;generalize hI v=E at*;by_cases ab:E=0
 case neg=>
  rw [aB ab] at ar;refine bf ?_;refine aL I I I cJ (bl ?_);refine aL I I I dD (bt ?_);rw [eG (show¬E=0 from ab)];refine bl ?_;exact aZ ar I I
 subst ab;rw [aw (fun q=>q rfl)] at ar;refine bf ?_;refine aL I I I cJ (bl ?_);refine aL I I I dD (bl ?_);refine aL I I I eg ?_;skip
 refine aL I I I lZ (bt ?_);by_cases bI:v2=0
 case neg=>
  rw [eG (show¬v2=0 from bI)];rw [aB bI] at ar;refine bl ?_;exact aZ ar I I
 rw [aw (fun q=>q bI)] at ar;subst bI;refine bl ?_;refine aL I I I nE (bt ?_);by_cases db:g2=0
 case neg=>
  rw [eG (show¬g2=0 from db)];rw [aB db] at ar;refine bl ?_;exact aZ ar I I
 rw [aw (fun q=>q db)] at ar;subst db;refine fe ?_;by_cases ay:V=v
 ·rw [fP (show¬ ¬V=v from fun q=>q ay)];refine fe ?_;by_cases bc:G=[48]
  ·rw [fP (show¬ ¬G=[48] from fun q=>q bc)];rw [aB ⟨ay,bc⟩] at ar;refine bh ?_;exact aZ ar I I
  ·rw [eG (show¬G=[48] from bc)];rw [aw (fun q=>bc q.2)] at ar;refine bl ?_;exact aZ ar I I
 ·rw [eG (show¬V=v from ay)];rw [aw (fun q=>ay q.1)] at ar;refine bf ?_;exact aZ ar I I
theorem Zd:Small dM [eJ 0,ku]:=⟨P6,P5,fun x al=>by
 simp at al;rcases al with rfl|rfl
 ·exact V9 _
 ·exact aoU⟩
theorem acV:Small dM [[],[]]:=⟨P6,P5,fun x al=>by
 simp at al;subst al;exact ⟨aT,fun c av=>by simp at av⟩⟩
theorem wy:mm dM (eJ 0) ku=0:=by decide+kernel
theorem RL:mm dM (eJ 0) (eJ 3)=0:=by decide+kernel
theorem adi:mm dM [] []=3:=by decide+kernel
theorem adj:cq (kX dM (eJ 0) ku)=[49]:=hy.text (show hy [49] (kX dM (eJ 0) ku) by decide+kernel)
theorem adk:cq (kY dM (eJ 0) ku)=[48]:=hy.text (show hy [48] (kY dM (eJ 0) ku) by decide+kernel)
theorem RM:hT (kX dM (eJ 0) (eJ 3)+kY dM (eJ 0) (eJ 3))=([48],0):=hy.out (show hy [48] (kX dM (eJ 0) (eJ 3)+kY dM (eJ 0) (eJ 3)) by decide+kernel)
theorem adl:hT (kX dM (eJ 0) ku+kY dM (eJ 0) ku)=([49],0):=hy.out (show hy [49] (kX dM (eJ 0) ku+kY dM (eJ 0) ku) by decide+kernel)
theorem adh:hT (eo dM (fi dM (eJ 0) ku))=(cq (eo dM (fi dM (eJ 0) ku)),0):=(hy.out (show hy (cq (eo dM (fi dM (eJ 0) ku))) (eo dM (fi dM (eJ 0) ku)) by decide+kernel))
theorem adm:hT (eo dM (fi dM (eJ 0) (eJ 3)))=([48],0):=hy.out (show hy [48] (eo dM (fi dM (eJ 0) (eJ 3))) by decide+kernel)
theorem RN:hI [48]=0:=by decide+kernel
theorem acT:Du dM (eJ 0) ku=([49],[48],0):=by unfold Du;rw [aw (fun q=>q wy),adj,adk]
theorem acU:Ea dM (eJ 0) (eJ 3)=([48],0):=by unfold Ea;rw [aw (fun q=>q RL),RM]
theorem acW:Cm dM (eJ 0) (eJ 3) [48]=0:=by unfold Cm;rw [aw (fun q=>q RL),aw (fun q=>q RN),adm,RM,aw (fun q=>q rfl),aw (fun q=>q rfl),aB ⟨rfl,rfl⟩]
theorem acX:Cm dM (eJ 0) ku [48]=16:=by unfold Cm;rw [aw (fun q=>q wy),aw (fun q=>q RN),adh,adl,aw (fun q=>q rfl),aw (fun q=>q rfl),aw (fun q=>absurd q.2 aT)]
theorem amI:br Tryz.prog 35 [] (.bool true):=by
 have cJ:=acY dM (eJ 0) ku Zd (fun _=>⟨(show hy [49] (kX dM (eJ 0) ku) by decide+kernel).nF aT aT,(show hy [48] (kY dM (eJ 0) ku) by decide+kernel).nF aT aT⟩);rw [acT] at cJ;have cJ:br Tryz.prog 118 [.ro (bS dM) 0 7,.ro (cw (eJ 0)) 0 1,.ro (cw ku) 0 1] (.ck [.str [49],.str [48],.int .i64 0]):=cJ;have dD:=RG dM (eJ 0) (eJ 3) Zc;rw [acU] at dD;have dD:br Tryz.prog 46 [.ro (bS dM) 0 7,.ro (cw (eJ 0)) 0 1,.ro (cw (eJ 3)) 0 1] (.ck [.str [48],.int .i64 0]):=dD;have eg:=Xv dM (eJ 0) (eJ 3) [48] aT Zc;rw [acW] at eg;have eg:br Tryz.prog 36 [.ro (bS dM) 0 7,.agg [.str [48],.ro (cw (eJ 0)) 0 1,.ro (cw (eJ 3)) 0 1]] (.int .i64 0):=eg;have lZ:=Xv dM (eJ 0) ku [48] aT Zd;rw [acX] at lZ;have lZ:br Tryz.prog 36 [.ro (bS dM) 0 7,.agg [.str [48],.ro (cw (eJ 0)) 0 1,.ro (cw ku) 0 1]] (.int .i64 16):=lZ;have nE:=I2 dM [] [] acV;rw [adi] at nE;have aaT:br Tryz.prog 119 [.ro (bS dM) 0 7,.nil,.nil] (.int .i64 3):=fun H=>cm.args (nE H) ⟨aU.yo,aU.nil,aU.nil,trivial⟩;have f2:br Tryz.prog 19 [.ro (.ints .i64 [0,0]) 0 2] (.bool true):=Ls [0,0] aT;refine cg Tryz.f35 fun c ar bJ=> ?_;refine fe ?_;refine bR 1 (.ro (cw ku) 0 1) I (aU.IB I (fun d j hd ae=> ?_)) ?_
 ·have ae:j<2:=ae;have su:j=0∨j=1:=J;obtain rfl:d=0:=J;rcases su with rfl|rfl<;>exact aU.yo
 refine aL I I I AG ?_;skip
 refine aL I I I (Gd 0) ?_;repeat (refine aq (bD rfl) ?_)
 refine aL I I I cJ (dy ?_);refine aL I I I AG ?_;skip
 refine aL I I I (Gd 0) ?_;skip
 refine aL I I I (Gd 3) ?_;skip
 refine aL I I I dD (dy ?_);refine aL I I I (Gd 0) ?_;skip
 refine aL I I I (Gd 3) (fe ?_);refine dj (c':= .box [.str [48],.ro (cw (eJ 0)) 0 1,.ro (cw (eJ 3)) 0 1]) I I I I I I I (bf ?_);refine dj (c':= .box [.str [48],.ro (cw (eJ 0)) 0 1,.ro (cw (eJ 3)) 0 1]) I I I I I I I (fe ?_);refine jv [some ⟨49,.box [.str [48],.ro (cw (eJ 0)) 0 1,.ro (cw (eJ 3)) 0 1]⟩,some ⟨49,.box [.str [48],.ro (cw (eJ 0)) 0 1,.ro (cw ku) 0 1]⟩] I ?_;refine ee ag ?_;refine bF 0 I ag ag ag I (bD I) I ?_;refine bF 1 I ag ag ag I (bD I) I ?_;refine bn 2 ?_;refine bt ?_;refine eM (fuel:=0) [3,4,5,6,7,8,9,10,11,12,13,14,15,16,17,18,19,20,21,22,23,24,25,26,27,28,29,30,31,32,33] [(2,.str [49]),(3,.str [48]),(5,.str [48]),(7,.ptr 0 0 0),(8,.ptr 1 0 0),(35,.ro (.ints .i64 [0,0]) 0 2)] aH ag aT I I ?_;refine dW I I I I I f2 ?_;refine cI ?_;refine gp I I I I (bD I) ?_;refine gp I I I I (yT I I) ?_;refine cI ?_;refine gp I I I I (bD I) ?_;refine gp I I I I (yT I I) ?_;refine cI ?_;refine gp I I I I (bD I) ?_;refine gp I I I I (yT I I) ?_;refine cI ?_;refine DB I I I I I I I AG ?_;refine gp I I I I (E7 I I I I I I I) ?_;refine DB I I I I I I I eg ?_;refine gp I I I I (nV I I) ?_;refine cI ?_;refine DB I I I I I I I AG ?_;refine gp I I I I (E7 I I I I I I I) ?_;refine DB I I I I I I I lZ ?_;refine gp I I I I (nV I I) ?_;refine cI ?_;refine DB I I I I I I I AG ?_;refine DB I I I I I I I aaT ?_;refine gp I I I I (nV I I) ?_;refine cI ?_;refine eI ?_;refine dX ag (bE ?_);exact aZ ar I I
end Go.Proofs.YtmpnheilfejcpaaGreatDoor
namespace Go.Proofs.YtmpnheilfejcpaaGreatDoor
open Go.aj Go.aj.dh Go.aj.cQ Go.RowKit Go.aj.dR Go.aj.cL Go.aj.k4 Go.aj.eT
attribute [local irreducible] aj eD bZ cm gK
theorem arK (t:aJ)(a b:df):mm t a b=D6 t a b:=by
 unfold mm D6 pq;by_cases U:nu t=0
 ·by_cases ab:ht t 0 a=0
  ·by_cases ay:ht t 1 b=0
   ·simp [U,ab,ay]
   ·simp [U,ab,ay]
  ·simp [U,ab]
 ·simp [U]
theorem asc (t:aJ)(a b:df)(v:dP):Cm t a b v=Nw t a b v:=by
 have aE:=arK t a b;have aF:kX t a b+kY t a b=D9 t a b:=rfl;have bO:eo t (fi t a b)=bq t a b:=rfl;unfold Cm Nw;rw [aE,aF,bO];unfold hT;by_cases U:D6 t a b≠0
 ·rw [aB U,aB U]
 rw [aw U,aw U];by_cases ab:hI v≠0
 ·rw [aB ab,aB ab]
 rw [aw ab,aw ab];cases aR:eB (bq t a b)
 ·simp
 ·cases c9:eB (D9 t a b)
  ·simp
  ·simp
theorem Vv {t:aJ}(af:Valid t){p:Int}{W:Nat→Rat}(gO:n3 t p W)(aR:qa t p W=true):qq (kW t p W):=by refine ⟨by rw [Fz,cW];have:=OQ t p;omega,fun c av=> ?_⟩;rw [Fz] at av;obtain ⟨x,al,rfl⟩:=cS.1 av;have hm:=(JY af gO).len x al;have db:=Gi af al;refine ⟨by show ((gX t p W x).map cq).length≤_;rw [cW,hm];omega,fun s az=> ?_⟩;obtain ⟨q,aA,rfl⟩:=cS.1 az;exact Xi (Ol aR x al q aA)
theorem asd (t:aJ)(b4:t.length≤9223372036854775807∧ ∀n∈t,DI n):br Tryz.prog 7 [.ro (bS t) 0 t.length] (.bool true):=by
 have dm:kb t:=⟨b4.1,b4.2⟩
 have cJ:=apj t dm;have sk:=OA t dm;refine cg Tryz.f7 fun c ar bJ=> ?_;refine bE ?_;refine aL I I I alG (bl ?_);refine aL I I I amI (bl ?_);refine aL I I I cJ ?_;cases aft:F6 t
 ·refine bl ?_;exact aZ ar I I
 have hm:=Vk aft;refine bl ?_;by_cases dx:oH t=0
 case neg=>
  have nE:=U8 t 0 0 dm (fun h=>absurd h dx) (fun h=>absurd h dx);unfold cV at nE;rw [aB (show oH t≠0 from dx)] at nE;generalize oH t=E at*;refine aL I I I nE (bh ?_);refine dj (c':= .box [.str [],.ro (cw []) 0 0,.ro (cw []) 0 0]) I I I I I I I (bt ?_);rw [eG (show¬E=0 from dx)];refine bl ?_;refine aL I I I sk (bh ?_);rw [eG (show E=E from rfl)];refine bf ?_;exact aZ ar I I
 have aR:=Dt dx;have af:=aR.v;obtain ⟨K,L,az⟩:=runs (c0 t) (Dm t);have nE:=U8 t K L dm (fun h=>nx.of hm af) (fun _=>az);rw [dx] at sk;by_cases aM:(cV t K L).2=0
 case neg=>
  have ab:(cV t K L).2=2∧(cV t K L).1=([],[],[]):=by
   unfold cV at aM⊢;rw [aw (fun q=>q dx)] at aM⊢;split
   ·rename_i U;rw [aB U] at aM;exact absurd rfl aM
   ·exact ⟨I,I⟩
  rw [ab.1,ab.2] at nE;refine aL I I I nE (bh ?_);refine dj (c':= .box [.str [],.ro (cw []) 0 0,.ro (cw []) 0 0]) I I I I I I I (bl ?_);refine aL I I I sk (bf ?_);exact aZ ar I I
 have S:=akk (fun _=>az) aM;have arL:=arH S;have rI:qq (cV t K L).1.2.1:=by rw [S.a];exact Vv af S.eql.mx S.xY
 have rJ:qq (cV t K L).1.2.2:=by rw [S.b];exact Vv af S.eql.x0 S.Hb
 have rz:(cV t K L).1.1.length≤9223372036854775807:=by
  rcases arI dx K L with h|⟨_,U,ab⟩
  ·rw [h] at aM;cases aM
  ·rw [U];exact Xi ab
 have aaU:=Xv t (cV t K L).1.2.1 (cV t K L).1.2.2 (cV t K L).1.1 rz ⟨dm,hm,fun x al=>by simp at al;rcases al with rfl|rfl;exact rI;exact rJ⟩;rw [asc] at aaU;clear S rI rJ rz;rw [aM] at nE;generalize Nw t (cV t K L).1.2.1 (cV t K L).1.2.2 (cV t K L).1.1=V at*;generalize (cV t K L).1=r at*;obtain ⟨v,x,y⟩:=r;unfold ajI at aaU;simp only at aaU;refine aL I I I nE (bh ?_);refine dj (c':= .box [.str v,.ro (cw x) 0 x.length,.ro (cw y) 0 y.length]) I I I I I I I (bf ?_);refine aL I I I aaU ?_;rcases arL with h|h
 ·subst h;refine bf ?_;exact aZ ar I I
 ·subst h;refine bh ?_;exact aZ ar I I
end Go.Proofs.YtmpnheilfejcpaaGreatDoor
