import Derived.Test.YtmpnheilfejcpaaGreatDoorC9
set_option linter.unusedVariables false
set_option linter.unusedSimpArgs false
set_option maxRecDepth 100000
set_option maxHeartbeats 40000000
namespace Go.Proofs.YtmpnheilfejcpaaGreatDoor
open Go.ai Go.ai.c8 Go.ai.cz Go.RowKit Go.ai.dL Go.ai.cI
attribute [local irreducible] ai ek bV cg hb
def tw (r:BU):al:= .agg ([ag r.kind,if r.kind=1 then .nil else .ro (aQ r.X) 0 r.X.length,if r.kind=2 then .nil else .ro (aQ r.Y) 0 r.Y.length,if r.kind=2 then .ro (aQ r.R) 0 r.R.length else .nil]++(if r.kind=0 then cb r.V else [.bool false,.nil,.nil]))
theorem aiE (r:BU):cV (tw r)=true:=by
 obtain ⟨k,X,Y,R,V⟩:=r;by_cases aO:k=0
 ·subst aO;rfl
 ·by_cases U:k=1
  ·subst U;rfl
  ·by_cases ab:k=2
   ·subst ab;rfl
   ·show cV (.agg ([_,if k=1 then _ else _,if k=2 then _ else _,if k=2 then _ else _]++(if k=0 then _ else _)))=true;rw [az aO,az U,az ab,az ab];rfl
theorem abg (n:Nat):dK ((n:Nat):Int)= .agg [.bool false,br n]:=by unfold dK;rw [k1,fq J]
theorem Sw (s:Nat)(t:TypeId): ∀X:ck,n4 s (fO t aR X)=fO t aR X
 |[]=>rfl
 |a::r=>by show some ⟨t,(aR a).shift s⟩::n4 s (fO t aR r)=some ⟨t,aR a⟩::fO t aR r;rw [Hw,Sw s t r]
theorem aiu (b n L s:Nat):(eS b n L).shift s=eS (s+b) n L:=by show Cells.fn _ _ _=Cells.fn _ _ _;congr 1;funext i j;show al.aA (b+4+i+s) 0 L=al.aA (s+b+4+i) 0 L;rw [show b+4+i+s=s+b+4+i by omega]
theorem afy (A B:Option bk)(L w k:Nat)(X:ck)(d:Int)(β:List Nat):[A,B]++n4 2 (bn [none,none] none L w k X d β [])=bn [A,B,none,none] none L w k X d β []:=by show A::B::none::none::some (⟨249,iR 4 k β.length w d⟩:bk)::none::some (⟨3,fz β⟩:bk)::some (⟨243,(eS 2 X.length L).shift 2⟩:bk)::n4 2 (fO 116 aR X++[])=_;rw [kB,Sw,aiu];show _=A::B::none::none::some (⟨249,iR 4 k β.length w d⟩:bk)::none::some (⟨3,fz β⟩:bk)::some (⟨243,eS 4 X.length L⟩:bk)::(fO 116 aR X++[]);rw [kB]
theorem NB {H:aX}{x:Option bk}{h:Nat}{o:Option bk}(aU:H[h]? =some o):(H.set h x)[h]? =some x:=nB (gL.1 aU).1
theorem V3 (p:Prog)(k e K L:Nat)(aJ:p.hg)(ao:p.EC k)(kG:p.rT e)(hm:p.m≤30)(aF:p.n≤30)(CH:k≤2000)(zT:e≤1000)(cc:p.T e≤850000)(ax:qW p K L):
 bD Tryz.prog 93 [.agg [.ro (cT p.A) 0 p.A.length,.ro (aQ p.B) 0 p.B.length,.ro (aQ p.C) 0 p.C.length]] (tw (gF p K L)):=by
 have ON:p.N=p.n+p.m+p.a:=rfl;have YP:p.a≤p.m:=El p.B p.B.length;have cR:p.E e≤32000:=by unfold Prog.E;have:e*(p.n+1)≤1000*31:=jB zT J;omega
 have Yo:p.E e≤p.T e:=by unfold Prog.T;have:(p.E e+2)*1≤(p.E e+2)*(p.m+1):=h5 _ J;omega
 have zE:=cg.many (afe p p.N k aJ ao ON (show p.m≤40 by omega) (show p.n≤40 by omega) J) (fun _ h=>h) rfl;have CP:(⟨h0 p++[jc (p.n+p.m) p.a p.N ⟨h0 p,1,je p⟩ p.m p.a],1,je p⟩:b9)=yt p:=by
  have e:jc (p.n+p.m) p.a p.N ⟨h0 p,1,je p⟩ p.m p.a=Br (ho p) p.m p.N (fs p):=by rw [←Mj p,ahY];exact ahX p p.a rfl
  rw [e,←acT];rfl
 have mX:(fs p).rows.take p.m=h0 p:=congrArg b9.rows (Mj p);have zR: ∀(G:aX),rR G→(∀h,G.length≤h→cQ h G=G)→0<p.a→_:=fun G dB oI a1=>aho G dB oI p.n p.m p.a p.N (h0 p) (je p) (sZ p) K (p.T e) ON J J (vr p) (Hc p) (fun x ar=>(A9 p).row x (ux _ ar))
  (fun i j aa ae=>by rw [←mX,w0 aa];exact dT (Sy aJ kG aa ae) (gp a6 Yo)) J (by rw [CP];exact Nl p) (by rw [CP];exact MP p aJ) (by rw [CP];exact ax.one a1)
  (fun t bs=>vA bs J (M6 aJ kG)) (fun t bs aN aO i aa ak=>(Ho bs aN).2 (by have:=(Ho bs aN).1;omega) i aa ak)
 rw [CP] at zR;refine cg.rn (hq (P:=Tryz.prog) (fn:=Tryz.f93) I I af I (fun c ay bK=> ?_)) (fix:=fun _=>False) (fun _ h=>h) I (aiE _);refine bm ?_;refine eN af ?_;refine fe (fuel:=0) [0,1,2,3,4,5,6,7] [(1,.ptr 0 0 0),(2,.ptr 1 0 0)] aH af a6 I I ?_;refine dd ?_;refine fc ?_;refine eM af (bm ?_);refine bP 29 (.agg [.ro (cT p.A) 0 p.A.length,.ro (aQ p.B) 0 p.B.length,.ro (aQ p.C) 0 p.C.length]) I (aV.of_eq I) ?_;refine HD (.cd [.ptr 4 0 0,.ro (cn ((List.range p.m).map p.dV)) 0 p.m,ag p.a]) (bn [some ⟨155,.box [.ro (cT p.A) 0 p.A.length,.ro (aQ p.B) 0 p.B.length,.ro (aQ p.C) 0 p.C.length]⟩,some ⟨152,.box [.int .i64 0,.nil,.nil,.nil,.bool false,.nil,.nil]⟩,none,none] none (p.N+1) (p.n+p.m) p.m (h0 p) 1 (je p) []) I I I zE I (afy _ _ _ _ _ _ _ _) ?_;generalize nJ:([some ⟨155,.box [.ro (cT p.A) 0 p.A.length,.ro (aQ p.B) 0 p.B.length,.ro (aQ p.C) 0 p.C.length]⟩,some ⟨152,.box [.int .i64 0,.nil,.nil,.nil,.bool false,.nil,.nil]⟩,none,none]:aX)=G;have Yt:G.length=4:=by subst nJ;rfl
 have dB:rR G:=by
  rw [←nJ];intro m hm o aj;simp only [fT,nF,mP] at aj;rcases aj with e|e|e|e
  ·cases e;exact LJ p _
  ·cases e;intro i j aa ae;obtain rfl:=e5.1 (show i<1 from aa)
   match j,(show j<7 from ae) with
   |0,_=>rfl
   |1,_=>rfl
   |2,_=>rfl
   |3,_=>rfl
   |4,_=>rfl
   |5,_=>rfl
   |6,_=>rfl
  ·cases e
  ·cases e
 have oI: ∀h,cQ h G=G:=fun h=>by subst nJ;rfl
 have CD: ∀dY X d β T,(bn G none (p.N+1) (p.n+p.m) dY X d β T)[0]? =some (some ⟨155,.box [.ro (cT p.A) 0 p.A.length,.ro (aQ p.B) 0 p.B.length,.ro (aQ p.C) 0 p.C.length]⟩):=fun dY X d β T=>by subst nJ;rfl
 have ti: ∀dY X d β T,(bn G none (p.N+1) (p.n+p.m) dY X d β T)[1]? =some (some ⟨152,.box [.int .i64 0,.nil,.nil,.nil,.bool false,.nil,.nil]⟩):=fun dY X d β T=>by subst nJ;rfl
 refine bP 30 (.cd [.ptr G.length 0 0,.ro (cn ((List.range p.m).map p.dV)) 0 p.m,ag p.a]) I (aV.of_eq (by rw [Yt])) ?_;have zR:=zR G dB (fun h _=>oI h);have Km:(bn G none (p.N+1) (p.n+p.m) p.m (h0 p) 1 (je p) []).length=G.length+4+p.m:=by rw [h1,vr];rfl
 have ha:((List.range p.m).map p.dV).length=p.m:=bZ;clear zE;by_cases jZ:0<p.a∧aq (fP p K).rows p.m p.N<0
 ·rw [akg jZ] at ay;have mR:=zR jZ.1;obtain ⟨o1,o2⟩:=A5 p aJ K;obtain ⟨dX,eu⟩:=vA o1 J (M6 aJ kG);have e0:=o1.fU;obtain ⟨xv,Yv⟩: ∃xv,xv=890000:=⟨_,rfl⟩
  have iu:=SO ((List.range p.m).map (fun i=>Rat.divInt (aq (fP p K).rows p.m (p.n+i)) (fP p K).den)) ((List.range p.m).map p.dV) xv bZ (by simp;omega) (fun q aB=>by
   obtain ⟨i,aa,rfl⟩:=da.1 aB;have aa:i<p.m:=by simpa using aa
   exact (xj J (o6 (dX p.m (p.n+i) J J)) (o6 eu)).mono J) (fun q aB=>by
   obtain ⟨i,aa,rfl⟩:=da.1 aB;have aa:i<p.m:=by simpa using aa
   refine hE (o6 (kG.I7 _ aa)) (gp a6 ?_);have:e*(p.n+1)≤1000*31:=jB zT J;omega) J
  rw [show ((List.range p.m).map (fun i=>Rat.divInt (aq (fP p K).rows p.m (p.n+i)) (fP p K).den)).length=p.m by simp,ha] at iu;have aY:qT ((List.range p.m).map (fun i=>Rat.divInt (aq (fP p K).rows p.m (p.n+i)) (fP p K).den)) ((List.range p.m).map p.dV) p.m=kK p (fP p K) (fP p K).den:=(Rj p (fP p K) (fP p K).den).symm;rw [aY] at iu;have wB:(kK p (fP p K) (fP p K).den).length=p.m:=by simp [kK]
  refine bm ?_;refine bB I (fun _=> ?_) (fun ar=>absurd jZ.1 J);refine bN ?_;refine T0 (G.length+3) I I I mR (fun h bO bW=>⟨bO,bW⟩) (fun h q=>q.1) c4 ?_;intro dk bE fA;rcases fA with ⟨U,rfl,rfl⟩|⟨U,rfl,rfl⟩
  ·refine ⟨by rw [Km,h1,show (eB p.m p.N (p.n+p.m) (yt p) K).rows.length=p.m+1 from o1.n];omega,?_⟩;refine tG ((41,.cd [.ro (aQ ((List.range p.m).map (fun i=>Rat.divInt (aq (fP p K).rows p.m (p.n+i)) (fP p K).den))) 0 p.m,.bool false])::[(1,.ptr 0 0 0),(2,.ptr 1 0 0),(3,ag p.n),(4,ag p.m),(5,.ptr G.length 0 0),(6,.ro (cn ((List.range p.m).map p.dV)) 0 p.m),(7,ag p.a)]) ⟨I,pM (h:=G.length+3) (L:=[(1,.ptr 0 0 0),(2,.ptr 1 0 0),(3,ag p.n),(4,ag p.m),(5,.ptr G.length 0 0),(6,.ro (cn ((List.range p.m).map p.dV)) 0 p.m),(7,ag p.a)]) aH (by
   intro q aB;simp only [fT,nF,mP] at aB;rcases aB with rfl|rfl|rfl|rfl|rfl|rfl|rfl<;>simp [al.forget,br,db (show G.length≠G.length+3 by omega),db (show 0≠G.length+3 by omega),db (show 1≠G.length+3 by omega)])⟩ ?_
   refine bt ?_;refine aZ I I I iu ?_;repeat (refine an (iD rfl rfl rfl rfl rfl rfl) ?_)
   refine er (c':= .box [.int .i64 1,.nil,.ro (aQ (kK p (fP p K) (fP p K).den)) 0 p.m,.nil,.bool false,.nil,.nil]) I I I (ti _ _ _ _ _) I fp I I (fun aI a7 aP bf=> ?_) ?_
   ·rw [aG (e5.1 aP)];rfl
   refine dw ?_;refine bd ay (G5 I (NB (ti _ _ _ _ _)) I I I) ?_;show al.agg _=tw _;unfold tw;simp only [wB];rfl
  ·exact absurd jZ.2 U
 have aO:=HR aJ jZ;have yf:=MQ p aJ K aO;obtain ⟨dX,eu⟩:=vA yf.1 J (w9 aJ kG);have CS:=acU p K;have c9:(cI.fg p.m (gQ p K)).rows.length=p.m:=by have e:=yf.1.n;rw [CS,c2] at e;exact Nat.succ.inj e
 have Jq: ∀x∈(cI.fg p.m (gQ p K)).rows,x.length=p.N+1:=fun x ar=>yf.1.row x (by rw [CS];exact ux _ ar);have Jo: ∀i j,i<p.m→j<p.N+1→(aq (cI.fg p.m (gQ p K)).rows i j).natAbs≤10^p.T e:=fun i j aa ae=>by
  have e:aq (ts p K).rows i j=aq (cI.fg p.m (gQ p K)).rows i j:=by unfold aq;rw [CS,tU [] (by rw [c9];exact aa)]
  rw [←e];exact dX i j J ae
 have Ap:(gQ p K).basis.length=p.m:=yf.1.b;have uV:(gQ p K).den.natAbs≤10^p.T e:=eu;have wk:(ts p K)=⟨(cI.fg p.m (gQ p K)).rows++[lg (eC p) p.N (cI.fg p.m (gQ p K)) p.m],(gQ p K).den,(gQ p K).basis⟩:=by rw [ajr (bR _),←CS];rfl
 have iZ:=abq p (cI.fg p.m (gQ p K));have Jz:=fun i j (aa:i≤p.m) (ae:j<p.N+1)=>ajq (p:=p) (k:=e) (E:=p.T e) (s:=cI.fg p.m (gQ p K)) (i:=i) (j:=j) kG J (fun q aB=>Jo q j J ae) uV ae;apply j4 (H:=mv G p.N (p.n+p.m) p.m (cI.fg p.m (gQ p K))) [(1,.ptr 0 0 0),(2,.ptr 1 0 0),(3,ag p.n),(4,ag p.m),(5,.ptr G.length 0 0),(6,.ro (cn ((List.range p.m).map p.dV)) 0 p.m),(7,ag p.a)]
 ·intro fin;by_cases a1:0<p.a
  ·have mR:=zR a1;rw [Ur p aJ K J] at fin;refine bm ?_;refine bB I (fun _=> ?_) (fun ar=>absurd a1 J);refine bN ?_;refine T0 (G.length+3) I I I mR (fun h bO bW=>⟨bO,bW⟩) (fun h q=>q.1) c4 ?_;intro dk bE fA;rcases fA with ⟨U,rfl,rfl⟩|⟨U,rfl,rfl⟩
   ·exact absurd ⟨a1,U⟩ jZ
   ·have nK:(iO (p.n+p.m) (cI.fg p.m (eB p.m p.N (p.n+p.m) (yt p) K)) p.m).rows.length=p.m:=by rw [Ur p aJ K J] at c9;exact c9
    refine ⟨by rw [Km,h1,nK];omega,?_⟩;refine tG ((41,.cd [.nil,.bool true])::[(1,.ptr 0 0 0),(2,.ptr 1 0 0),(3,ag p.n),(4,ag p.m),(5,.ptr G.length 0 0),(6,.ro (cn ((List.range p.m).map p.dV)) 0 p.m),(7,ag p.a)]) ⟨I,pM (h:=G.length+3) (L:=[(1,.ptr 0 0 0),(2,.ptr 1 0 0),(3,ag p.n),(4,ag p.m),(5,.ptr G.length 0 0),(6,.ro (cn ((List.range p.m).map p.dV)) 0 p.m),(7,ag p.a)]) aH (by
   intro q aB;simp only [fT,nF,mP] at aB;rcases aB with rfl|rfl|rfl|rfl|rfl|rfl|rfl<;>simp [al.forget,br,db (show G.length≠G.length+3 by omega),db (show 0≠G.length+3 by omega),db (show 1≠G.length+3 by omega)])⟩ ?_
    refine dS ?_;refine c6 ?_;refine c0 I ?_;refine dS ?_;exact fin _ aH
  ·have zP:p.a=0:=J;rw [abQ p K zP] at fin;refine dS ?_;refine c6 ?_;refine c6 ?_;refine c0 I ?_;refine dS ?_;refine bB I (fun ar=>absurd ar J) (fun _=> ?_);refine dS ?_;exact fin _ aH
 generalize iv:(cI.fg p.m (gQ p K)).rows=X at*;have Zh:(cI.fg p.m (gQ p K)).den=(gQ p K).den:=rfl;have we:(cI.fg p.m (gQ p K)).basis=(gQ p K).basis:=rfl;have Ad:cI.fg p.m (gQ p K)=⟨X,(gQ p K).den,(gQ p K).basis⟩:=by rw [←iv];rfl
 rw [Ad] at wk iZ Jz;generalize (gQ p K).den=d at*;generalize (gQ p K).basis=β at*;have PQ:mv G p.N (p.n+p.m) p.m (cI.fg p.m (gQ p K))=bn G none (p.N+1) (p.n+p.m) p.m X d β []:=by rw [Ad]
 refine ko (bn G none (p.N+1) (p.n+p.m) p.m X d β []) PQ ?_;clear zR CP Km iv Zh we Ad PQ CS dX eu;have N4:=TT p.C k ao.c (show p.n≤1000 by omega) (by show k*p.n+k≤_;have:k*p.n≤2000*30:=jB CH aF;omega);have hlen: ∀T,(bn G none (p.N+1) (p.n+p.m) p.m X d β T).length=G.length+4+p.m+T.length:=fun T=>by rw [h1,c9]
 have X8:=CD p.m X d β [];refine cM ?_;refine HD (.cd [.aA (G.length+4+p.m) 0 p.n,br p.cu]) (bn G none (p.N+1) (p.n+p.m) p.m X d β [some ⟨116,aR (hn p.C)⟩]) I I I N4 (by rw [hlen];show al.cd [al.aA (0+(G.length+4+p.m)) 0 _,_]=_;rw [c1];rfl) (by show _++[some (⟨_,(aR _).shift _⟩:bk)]=_;rw [Hw,fM];rfl) ?_;have xW:(hn p.C).length=p.n:=He _;have OX: ∀j,j<p.n→((hn p.C).getD j 0).natAbs≤10^p.E e:=fun j ae=>kG.Lf _ ae;have uT: ∀j,j<p.n→ -(eC p j)=(hn p.C).getD j 0:=fun j ae=>Xf ae;have JH: ∀j,¬(j<p.n∧(hn p.C).getD j 0≠0)→eC p j=0:=fun j ae=>ajn ae;generalize hn p.C=dD at*;clear X8 N4;refine bz ?_;refine bP 61 (.int .i64 ((p.N+1:Nat))) I (aV.of_eq (by show al.int _ _=al.int _ _;congr 1)) ?_;refine l6 I I I I I I I I (by show (0:Int)≤_∧_≤_∧(32:Int)*_≤_∧_;omega) ?_;refine wR (bn G none (p.N+1) (p.n+p.m) p.m X d β [some ⟨116,aR dD⟩]++[some ⟨116,aR (List.replicate (p.N+1) 0)⟩]) (by simp only [c2,fZ,kd]) LZ ?_;refine c7 (bn G none (p.N+1) (p.n+p.m) p.m X d β [some ⟨116,aR dD⟩,some ⟨116,aR (dv (fun q=> -(dD.getD q 0)*d) 0 (List.replicate (p.N+1) 0) 0)⟩]) (by rw [fM,tI];rfl) ?_;refine bP 62 (.aA (G.length+4+p.m+1) 0 (p.N+1)) I (aV.of_eq (by rw [hlen];rfl)) ?_;have tg: ∀x:Int,∀e,e≤3599990→x.natAbs≤10^e→(aW x.natAbs).length≤400001:=fun x e he ar=>xb ar J;refine bz ?_;refine cJ (ι:=Nat) (fun j=>[(1,.ptr 0 0 0),(2,.ptr 1 0 0),(3,ag p.n),(4,ag p.m),(5,.ptr G.length 0 0),(6,.ro (cn ((List.range p.m).map p.dV)) 0 p.m),(7,ag p.a),(10,.aA (G.length+4+p.m) 0 p.n),(11,br p.cu),(12,.aA (G.length+4+p.m+1) 0 (p.N+1)),(63,.aA (G.length+4+p.m) 0 p.n),(64,ag p.n),(65,ag j)]) (fun j=>bn G none (p.N+1) (p.n+p.m) p.m X d β [some ⟨116,aR dD⟩,some ⟨116,aR (dv (fun q=> -(dD.getD q 0)*d) 0 (List.replicate (p.N+1) 0) j)⟩]) (fun j=>j≤p.n) (fun j=>p.n-j) 0 ⟨aH,I,cf _⟩ ?_;intro j ae;refine bl ?_;refine bB I (fun h=> ?_) (fun h=> ?_)
 ·have bf:j<p.n:=J;have lU:=qC (fun q=> -(dD.getD q 0)*d) 0 (List.replicate (p.N+1) 0) (k:=j) (i:=j) (by simp;omega);have nQ:=sL (fun q=> -(dD.getD q 0)*d) 0 (List.replicate (p.N+1) 0) (k:=j) (by simp;omega);have Aa:=pP (fun q=> -(dD.getD q 0)*d) 0 (List.replicate (p.N+1) 0) j;rw [fw] at Aa;generalize alc:dv (fun q=> -(dD.getD q 0)*d) 0 (List.replicate (p.N+1) 0) j=Y at*;have ew:=fN (G:=G) (F:=none) (L:=p.N+1) (w:=p.n+p.m) (k:=p.m) (X:=X) (d:=d) (β:=β) (T:=[some ⟨116,aR dD⟩,some ⟨116,aR Y⟩]) 0;rw [c9,eQ] at ew;have g0:j<(aR dD).len:=by show j<dD.length;omega
  refine cM ?_;refine c7 (bn G none (p.N+1) (p.n+p.m) p.m X d β [some ⟨116,aR dD⟩,some ⟨116,aR Y⟩,some ⟨116,.box [.bool false,.nil]⟩]) (by rw [fM];rfl) ?_;refine bP 14 (.ptr (G.length+4+p.m+2) 0 0) I (aV.of_eq (by rw [hlen];rfl)) ?_;refine bP 69 (dK (dD.getD j 0)) I (aV.of_eq I) ?_;have bW:=fN (G:=G) (F:=none) (L:=p.N+1) (w:=p.n+p.m) (k:=p.m) (X:=X) (d:=d) (β:=β) (T:=[some ⟨116,aR dD⟩,some ⟨116,aR Y⟩,some ⟨116,.box [.bool false,.nil]⟩]) 2;rw [c9] at bW;refine er (c':= .box (cE (dD.getD j 0))) I I I bW I fp I I (fun aI a7 aP bf=> ?_) ?_
  ·rw [aG (e5.1 aP)];rfl
  refine c7 (bn G none (p.N+1) (p.n+p.m) p.m X d β [some ⟨116,aR dD⟩,some ⟨116,aR Y⟩,some ⟨116,.box (cE (dD.getD j 0))⟩]) (by have q:=jq (G:=G) (F:=none) (L:=p.N+1) (w:=p.n+p.m) (k:=p.m) (X:=X) (d:=d) (β:=β) (T:=[some ⟨116,aR dD⟩,some ⟨116,aR Y⟩,some ⟨116,.box [.bool false,.nil]⟩]) 2 (some ⟨116,.box (cE (dD.getD j 0))⟩);rw [c9] at q;exact q) ?_;clear ew bW;have f1:=hJ (G:=G) (F:=none) (L:=p.N+1) (w:=p.n+p.m) (k:=p.m) (X:=X) (d:=d) (β:=β) (T:=[some ⟨116,aR dD⟩,some ⟨116,aR Y⟩,some ⟨116,.box (cE (dD.getD j 0))⟩]);have bO:=fN (G:=G) (F:=none) (L:=p.N+1) (w:=p.n+p.m) (k:=p.m) (X:=X) (d:=d) (β:=β) (T:=[some ⟨116,aR dD⟩,some ⟨116,aR Y⟩,some ⟨116,.box (cE (dD.getD j 0))⟩]) 1;have bW:=fN (G:=G) (F:=none) (L:=p.N+1) (w:=p.n+p.m) (k:=p.m) (X:=X) (d:=d) (β:=β) (T:=[some ⟨116,aR dD⟩,some ⟨116,aR Y⟩,some ⟨116,.box (cE (dD.getD j 0))⟩]) 2;rw [c9] at bO bW;have g1:j<(aR Y).len:=by show j<Y.length;omega
  have co:=yW (dD.getD j 0);have lu:=oZ (-(dD.getD j 0)) d (by rw [p7];have:=tg _ _ J (OX j bf);omega) (by have:=tg _ _ J uV;omega);refine bN ?_;refine eN af ?_;refine fe (fuel:=1) [0,1,2,3,4,5,6,7,8,9] [(1,.ptr 0 0 0),(2,.ptr 1 0 0),(3,ag p.n),(4,ag p.m),(5,.ptr G.length 0 0),(6,.ro (cn ((List.range p.m).map p.dV)) 0 p.m),(7,ag p.a),(10,.aA (G.length+4+p.m) 0 p.n),(11,br p.cu),(12,.aA (G.length+4+p.m+1) 0 (p.N+1)),(63,.aA (G.length+4+p.m) 0 p.n),(64,ag p.n),(65,ag j),(13,ag j),(14,.ptr (G.length+4+p.m+2) 0 0)] aH af a6 I I ?_;refine dd ?_;refine en I I I I I co ?_;refine dd ?_;refine en I I I I I lu ?_;refine dd ?_;refine fc ?_;refine bx 10 ?_;refine er (c':=aR (Y.set j (-(dD.getD j 0)*d))) I I I bO I g1 (dj ..) I (tS Y j _) ?_;refine c7 (bn G none (p.N+1) (p.n+p.m) p.m X d β [some ⟨116,aR dD⟩,some ⟨116,aR (Y.set j (-(dD.getD j 0)*d))⟩,some ⟨116,.box (cE (dD.getD j 0))⟩]) (by have q:=jq (G:=G) (F:=none) (L:=p.N+1) (w:=p.n+p.m) (k:=p.m) (X:=X) (d:=d) (β:=β) (T:=[some ⟨116,aR dD⟩,some ⟨116,aR Y⟩,some ⟨116,.box (cE (dD.getD j 0))⟩]) 1 (some ⟨116,aR (Y.set j (-(dD.getD j 0)*d))⟩);rw [c9] at q;exact q) (bI ?_);refine eM af ?_;repeat (refine ld ?_)
  refine b0 ?_;refine fC (bn G none (p.N+1) (p.n+p.m) p.m X d β [some ⟨116,aR dD⟩,some ⟨116,aR (Y.set j (-(dD.getD j 0)*d))⟩]) [some ⟨116,.box (cE (dD.getD j 0))⟩] [(1,.ptr 0 0 0),(2,.ptr 1 0 0),(3,ag p.n),(4,ag p.m),(5,.ptr G.length 0 0),(6,.ro (cn ((List.range p.m).map p.dV)) 0 p.m),(7,ag p.a),(10,.aA (G.length+4+p.m) 0 p.n),(11,br p.cu),(12,.aA (G.length+4+p.m+1) 0 (p.N+1)),(63,.aA (G.length+4+p.m) 0 p.n),(64,ag p.n),(65,ag j)] (by rw [fM];rfl) aH (fun h aU=>by rw [bK] at aU;exact aU.elim)
   (qw dB _ (by rw [hlen,c9];exact pk _ _) (fun o aj=>by cases aj) (fun o aj=>by
    simp only [fT,nF,mP] at aj;rcases aj with e|e<;>cases e<;>exact fun aI a7 aP bf=>Lk _ _ _ bf)) (by rw [hlen];simp [l4,hc,br];omega) ?_
  refine bz ?_;exact ca ⟨j+1,J,J,aH,by rw [←nQ]⟩
 have gI:j=p.n:=J;rw [gI,iZ];clear ae h gI;clear j;have f1:=hJ (G:=G) (F:=none) (L:=p.N+1) (w:=p.n+p.m) (k:=p.m) (X:=X) (d:=d) (β:=β) (T:=[some ⟨116,aR dD⟩,some ⟨116,aR (lg (eC p) p.N ⟨X,d,β⟩ 0)⟩]);rw [Ap] at f1;refine yu ?_;refine cJ (ι:=Nat) (fun i=>[(1,.ptr 0 0 0),(2,.ptr 1 0 0),(3,ag p.n),(4,ag p.m),(5,.ptr G.length 0 0),(6,.ro (cn ((List.range p.m).map p.dV)) 0 p.m),(7,ag p.a),(10,.aA (G.length+4+p.m) 0 p.n),(11,br p.cu),(12,.aA (G.length+4+p.m+1) 0 (p.N+1)),(84,.aA (G.length+2) 0 p.m),(85,ag p.m),(86,ag i)]) (fun i=>bn G none (p.N+1) (p.n+p.m) p.m X d β [some ⟨116,aR dD⟩,some ⟨116,aR (lg (eC p) p.N ⟨X,d,β⟩ i)⟩]) (fun i=>i≤p.m) (fun i=>p.m-i) 0 ⟨aH,I,cf _⟩ ?_;clear f1;intro i aa;refine bl ?_;refine bB I (fun h=> ?_) (fun h=> ?_)
 ·have aP:i<p.m:=J;have f2:=uf (G:=G) (F:=none) (L:=p.N+1) (w:=p.n+p.m) (k:=p.m) (X:=X) (d:=d) (β:=β) (T:=[some ⟨116,aR dD⟩,some ⟨116,aR (lg (eC p) p.N ⟨X,d,β⟩ i)⟩]);have g2:i<(β.map (fun a:Nat=>(a:Int))).length:=by rw [cL,Ap];exact aP
  have gZ:=Hh (eC p) p.N ⟨X,d,β⟩ i;have JC:=Hh (eC p) p.N ⟨X,d,β⟩ (i+1);have jH:=fun j (ae:j<p.N+1)=>aid (k:=eC p) (N:=p.N) (s:=⟨X,d,β⟩) (i:=i) ae;have FY:=fun h=>aie (k:=eC p) (N:=p.N) (s:=⟨X,d,β⟩) (i:=i) h;have mT:=fun j (ae:j<p.N+1)=>Jz i j J ae;have C2:(X.getD i []).length=p.N+1:=Jq _ (dx [] J);generalize Co:(lg (eC p) p.N ⟨X,d,β⟩ (i+1))=fY at*;generalize akM:(lg (eC p) p.N ⟨X,d,β⟩ i)=gl at*;have ew:=fN (G:=G) (F:=none) (L:=p.N+1) (w:=p.n+p.m) (k:=p.m) (X:=X) (d:=d) (β:=β) (T:=[some ⟨116,aR dD⟩,some ⟨116,aR gl⟩]) 0;rw [c9,eQ] at ew;by_cases ak:β.getD i 0<p.n
  ·have g0:β.getD i 0<(aR dD).len:=by show _<dD.length;omega
   have cs:=w2 (dD.getD (β.getD i 0) 0);refine cM ?_;refine bP 16 (ag (β.getD i 0)) I (aV.of_eq (by rw [qv])) ?_;refine bP 94 (.bool true) I (aV.of_eq (by rw [qv,fv (by show ((β.getD i 0:Nat):Int)<((p.n:Nat):Int);omega)])) ?_;refine fX ?_;refine bP 98 (dK (dD.getD (β.getD i 0) 0)) I (aV.of_eq I) ?_;refine aZ I I I cs (bz ?_);refine bB I (fun U=> ?_) (fun U=> ?_)
   ·have Zb:=uT _ ak;have NU:=OX _ ak;clear f2 g2 ew;refine bz ?_;refine cJ (ι:=Nat) (fun j=>[(1,.ptr 0 0 0),(2,.ptr 1 0 0),(3,ag p.n),(4,ag p.m),(5,.ptr G.length 0 0),(6,.ro (cn ((List.range p.m).map p.dV)) 0 p.m),(7,ag p.a),(10,.aA (G.length+4+p.m) 0 p.n),(11,br p.cu),(12,.aA (G.length+4+p.m+1) 0 (p.N+1)),(84,.aA (G.length+2) 0 p.m),(85,ag p.m),(86,ag i),(15,ag i),(16,ag (β.getD i 0)),(103,.int .i64 ((p.N+1:Nat))),(104,ag j)]) (fun j=>bn G none (p.N+1) (p.n+p.m) p.m X d β [some ⟨116,aR dD⟩,some ⟨116,aR (dv (fun j=>fY.getD j 0) 0 gl j)⟩]) (fun j=>j≤p.N+1) (fun j=>p.N+1-j) 0 ⟨aH,by rw [tI],cf _⟩ ?_;intro j ae;refine bl ?_;refine bB I (fun ab=> ?_) (fun ab=> ?_)
    ·have bf:j<p.N+1:=J;have lU:=qC (fun j=>fY.getD j 0) 0 gl (k:=j) (i:=j) J;rw [az (ov j)] at lU;have nQ:=sL (fun j=>fY.getD j 0) 0 gl (k:=j) J;have Aa:=pP (fun j=>fY.getD j 0) 0 gl j;have PD:=jH j bf;rw [Zb,←lU] at PD;rw [PD] at nQ;have BX:=mT j bf;rw [←lU] at BX;generalize dv (fun j=>fY.getD j 0) 0 gl j=Y at*;have bO:=hJ (G:=G) (F:=none) (L:=p.N+1) (w:=p.n+p.m) (k:=p.m) (X:=X) (d:=d) (β:=β) (T:=[some ⟨116,aR dD⟩,some ⟨116,aR Y⟩]);have bW:=mB (G:=G) (F:=none) (L:=p.N+1) (w:=p.n+p.m) (k:=p.m) (X:=X) (d:=d) (β:=β) (T:=[some ⟨116,aR dD⟩,some ⟨116,aR Y⟩]);have dq:=ma (G:=G) (F:=none) (L:=p.N+1) (w:=p.n+p.m) (k:=p.m) (X:=X) (d:=d) (β:=β) (T:=[some ⟨116,aR dD⟩,some ⟨116,aR Y⟩]) (a:=i) J;have dZ:=fN (G:=G) (F:=none) (L:=p.N+1) (w:=p.n+p.m) (k:=p.m) (X:=X) (d:=d) (β:=β) (T:=[some ⟨116,aR dD⟩,some ⟨116,aR Y⟩]) 0;have gR:=fN (G:=G) (F:=none) (L:=p.N+1) (w:=p.n+p.m) (k:=p.m) (X:=X) (d:=d) (β:=β) (T:=[some ⟨116,aR dD⟩,some ⟨116,aR Y⟩]) 1;rw [c9] at dZ gR;rw [eQ] at dZ;have g3:i<(eS G.length X.length (p.N+1)).len:=by show i<X.length;omega
     have g4:j<(aR (X.getD i [])).len:=by show j<(X.getD i []).length;omega
     have g5:j<(aR Y).len:=by show j<Y.length;omega
     have NV:=Jo i j aP bf;have aac:(dD.getD (β.getD i 0) 0*aq X i j).natAbs≤10^(p.E e+p.T e):=by rw [kf,jm];exact jB NU NV
     have lu:=oZ (dD.getD (β.getD i 0) 0) (aq X i j) (by have:=tg _ _ J NU;omega) (by have:=tg _ _ J NV;omega);have IV:=Nf (Y.getD j 0) (dD.getD (β.getD i 0) 0*aq X i j) (by have:=tg _ _ J BX;omega) (by have:=tg _ _ J aac;omega);refine bI ?_;refine eN af ?_;refine fe (fuel:=1) [0,1,2,3,4,5,6,7,8,9,10,11,12,13,14,15,16,17,18,19,20,21,22] [(1,.ptr 0 0 0),(2,.ptr 1 0 0),(3,ag p.n),(4,ag p.m),(5,.ptr G.length 0 0),(6,.ro (cn ((List.range p.m).map p.dV)) 0 p.m),(7,ag p.a),(10,.aA (G.length+4+p.m) 0 p.n),(11,br p.cu),(12,.aA (G.length+4+p.m+1) 0 (p.N+1)),(84,.aA (G.length+2) 0 p.m),(85,ag p.m),(86,ag i),(15,ag i),(16,ag (β.getD i 0)),(103,.int .i64 ((p.N+1:Nat))),(104,ag j),(17,ag j)] aH af a6 I I ?_;refine dd ?_;refine en I I I I I lu ?_;refine en I I I I I IV ?_;refine dd ?_;refine fc ?_;refine bx 23 ?_;refine er (c':=aR (Y.set j (Y.getD j 0+dD.getD (β.getD i 0) 0*aq X i j))) I I I gR I g5 (dj ..) I (tS Y j _) ?_;refine c7 (bn G none (p.N+1) (p.n+p.m) p.m X d β [some ⟨116,aR dD⟩,some ⟨116,aR (Y.set j (Y.getD j 0+dD.getD (β.getD i 0) 0*aq X i j))⟩]) (by have q:=jq (G:=G) (F:=none) (L:=p.N+1) (w:=p.n+p.m) (k:=p.m) (X:=X) (d:=d) (β:=β) (T:=[some ⟨116,aR dD⟩,some ⟨116,aR Y⟩]) 1 (some ⟨116,aR (Y.set j (Y.getD j 0+dD.getD (β.getD i 0) 0*aq X i j))⟩);rw [c9] at q;exact q) (bI ?_);refine eM af (bt ?_);exact ca ⟨j+1,J,J,aH,by rw [←nQ]⟩
    ·have gI:j=p.N+1:=J;subst gI;rw [N8 gZ JC];refine bt ?_;exact ca ⟨i+1,J,J,aH,by rw [Co]⟩
   ·have bw:dD.getD (β.getD i 0) 0=0:=Decidable.byContradiction (fun q=>U (fun e=>q (by rw [Mh] at e;exact e)));have e:=FY (JH _ (fun q=>q.2 bw));refine bt ?_;exact ca ⟨i+1,J,J,aH,by rw [Co,e]⟩
  ·have e:=FY (JH _ (fun q=>ak q.1));refine cM ?_;refine bP 94 (.bool false) I (aV.of_eq (by rw [qv,fq (by show¬((β.getD i 0:Nat):Int)<((p.n:Nat):Int);omega)])) (bm ?_);exact ca ⟨i+1,J,J,aH,by rw [Co,e]⟩
 have df:i=p.m:=J;rw [df];clear aa h df;clear i;have akR:=Hh (eC p) p.N ⟨X,d,β⟩ p.m;generalize (lg (eC p) p.N ⟨X,d,β⟩ p.m)=jS at*;clear Jz uT JH iZ;have iz:=fN (G:=G) (F:=none) (L:=p.N+1) (w:=p.n+p.m) (k:=p.m) (X:=X) (d:=d) (β:=β) (T:=[some ⟨116,aR dD⟩,some ⟨116,aR jS⟩]) 1;rw [c9] at iz;refine dS ?_;refine M8 (G.length+4+p.m) (G.length+4+p.m+1) 12 (p.N+1) J (by rw [hlen];show G.length+4+p.m<G.length+4+p.m+2;omega) iz c4 I ?_;refine M7 ((12,.aA (G.length+4+p.m) 0 (p.N+1))::[(1,.ptr 0 0 0),(2,.ptr 1 0 0),(3,ag p.n),(4,ag p.m),(5,.ptr G.length 0 0),(6,.ro (cn ((List.range p.m).map p.dV)) 0 p.m),(7,ag p.a),(11,br p.cu)]) ⟨I,pM (h:=G.length+4+p.m) (L:=[(1,.ptr 0 0 0),(2,.ptr 1 0 0),(3,ag p.n),(4,ag p.m),(5,.ptr G.length 0 0),(6,.ro (cn ((List.range p.m).map p.dV)) 0 p.m),(7,ag p.a),(11,br p.cu)]) aH (by
  intro q aB;simp only [fT,nF,mP] at aB;rcases aB with rfl|rfl|rfl|rfl|rfl|rfl|rfl|rfl<;>simp [al.forget,br,db (show G.length≠G.length+4+p.m by omega),db (show 0≠G.length+4+p.m by omega),db (show 1≠G.length+4+p.m by omega)])⟩ ?_
 refine nn (bn G none (p.N+1) (p.n+p.m) p.m X d β [some ⟨116,aR jS⟩,none]) (by
  have q:=aM.set (aM.set (Mn (G:=G) (L:=p.N+1) (w:=p.n+p.m) (k:=p.m) (X:=X) (d:=d) (β:=β) (T:=[some ⟨116,aR dD⟩,some ⟨116,aR jS⟩]) (iU:=[some ⟨116,aR dD⟩,some ⟨116,aR jS⟩]) (G.length+4+p.m) (oI _) J (by show aM [some (⟨_,(aR dD).forget _⟩:bk),some (⟨_,(aR jS).forget _⟩:bk)] _;rw [n2,n2];exact aM.refl _)) (G.length+4+p.m) (x:=some ⟨116,(aR jS).forget (G.length+4+p.m)⟩) (x':=some ⟨116,aR jS⟩) (fun o aj=>by cases aj;exact ⟨_,rfl,rfl,by rw [n2];exact cC.refl _⟩)) (G.length+4+p.m+1) (x:=none) (x':=none) (fun o aj=>by cases aj);have aD:(bn G none (p.N+1) (p.n+p.m) p.m X d β [some ⟨116,aR dD⟩,some ⟨116,aR jS⟩]).set (G.length+4+p.m) (some ⟨116,aR jS⟩)=bn G none (p.N+1) (p.n+p.m) p.m X d β [some ⟨116,aR jS⟩,some ⟨116,aR jS⟩]:=by have q:=jq (G:=G) (F:=none) (L:=p.N+1) (w:=p.n+p.m) (k:=p.m) (X:=X) (d:=d) (β:=β) (T:=[some ⟨116,aR dD⟩,some ⟨116,aR jS⟩]) 0 (some ⟨116,aR jS⟩);rw [c9] at q;exact q
  have aE:=jq (G:=G) (F:=none) (L:=p.N+1) (w:=p.n+p.m) (k:=p.m) (X:=X) (d:=d) (β:=β) (T:=[some ⟨116,aR jS⟩,some ⟨116,aR jS⟩]) 1 none;rw [c9] at aE;rw [aD] at q;exact (show aM _ _ from aE▸q)) ?_
 refine fC (bn G none (p.N+1) (p.n+p.m) p.m X d β [some ⟨116,aR jS⟩]) [none] ((12,.aA (G.length+4+p.m) 0 (p.N+1))::[(1,.ptr 0 0 0),(2,.ptr 1 0 0),(3,ag p.n),(4,ag p.m),(5,.ptr G.length 0 0),(6,.ro (cn ((List.range p.m).map p.dV)) 0 p.m),(7,ag p.a),(11,br p.cu)]) (by rw [fM];rfl) aH (fun h aU=>by rw [bK] at aU;exact aU.elim)
  (qw dB _ (by rw [hlen,c9];exact pk _ _) (fun o aj=>by cases aj) (fun o aj=>by cases hR.1 aj;exact fun aI a7 aP bf=>Lk _ _ _ bf)) (by rw [hlen];simp [l4,hc,br];omega) ?_
 clear iz;have f1:=hJ (G:=G) (F:=none) (L:=p.N+1) (w:=p.n+p.m) (k:=p.m) (X:=X) (d:=d) (β:=β) (T:=[some ⟨116,aR jS⟩]);refine cM ?_;refine tF I I I I I I I I I I ?_;refine c7 (bn G none (p.N+1) (p.n+p.m) p.m X d β [some ⟨116,aR jS⟩,some ⟨243,ft 1 1 [.aA (G.length+4+p.m) 0 (p.N+1)]⟩]) (by rw [fM];rfl) ?_;refine bP 138 (.aA (G.length+4+p.m+1) 0 1) I (aV.of_eq (by rw [hlen];rfl)) ?_;have f2:=mB (G:=G) (F:=none) (L:=p.N+1) (w:=p.n+p.m) (k:=p.m) (X:=X) (d:=d) (β:=β) (T:=[some ⟨116,aR jS⟩,some ⟨243,ft 1 1 [.aA (G.length+4+p.m) 0 (p.N+1)]⟩]);have f3:=fN (G:=G) (F:=none) (L:=p.N+1) (w:=p.n+p.m) (k:=p.m) (X:=X) (d:=d) (β:=β) (T:=[some ⟨116,aR jS⟩,some ⟨243,ft 1 1 [.aA (G.length+4+p.m) 0 (p.N+1)]⟩]) 1;rw [c9] at f3;have oM:(eS G.length X.length (p.N+1)).len=p.m:=c9;skip
 refine dt I I I I I I I f2 I oM I (Bn f3) dW I (by show (p.m+1)*24≤_∧_;omega) ?_ c4 ?_
 ·intro aI a7 aP bf;obtain rfl:=e5.1 (show a7<1 from bf);have q:=(A6 G.length X.length (p.N+1) (ft 1 1 [al.aA (G.length+4+p.m) 0 (p.N+1)]) (by rw [c9];rfl)).2.2 aI 0 aP fp;refine r5 (congrArg (al.forget _) q.symm) (r5 ?_ q);show al.forget _ (al.aA (G.length+4+aI) 0 (p.N+1))=_;unfold al.forget;rw [db (show G.length+4+aI≠G.length+3 by omega)];rfl
 refine tG ((139,.aA (G.length+3) 0 (p.m+1))::(132,.ptr G.length 0 0)::[(1,.ptr 0 0 0),(2,.ptr 1 0 0),(3,ag p.n),(4,ag p.m),(5,.ptr G.length 0 0),(6,.ro (cn ((List.range p.m).map p.dV)) 0 p.m),(7,ag p.a),(11,br p.cu)]) ⟨I,pM (h:=G.length+3) (L:=(132,.ptr G.length 0 0)::[(1,.ptr 0 0 0),(2,.ptr 1 0 0),(3,ag p.n),(4,ag p.m),(5,.ptr G.length 0 0),(6,.ro (cn ((List.range p.m).map p.dV)) 0 p.m),(7,ag p.a),(11,br p.cu)]) aH (by
  intro q aB;simp only [fT,nF,mP] at aB;rcases aB with rfl|rfl|rfl|rfl|rfl|rfl|rfl|rfl|rfl<;>simp [al.forget,br,db (show G.length≠G.length+3 by omega),db (show 0≠G.length+3 by omega),db (show 1≠G.length+3 by omega)])⟩ ?_
 refine fm (En G (p.N+1) (p.n+p.m) (X++[jS]) d β [none]) (TK (oI _) (A6 G.length X.length (p.N+1) _ (by rw [c9];rfl))) (cM ?_);refine kN I I I I U8 I I fp ?_;refine c7 (bn G none (p.N+1) (p.n+p.m) (p.m+1) (X++[jS]) d β [none]) U9 ?_;refine dS ?_;have sq:(X++[jS]).length=p.m+1:=by rw [c2,c9];rfl
 refine fC (bn G none (p.N+1) (p.n+p.m) (p.m+1) (X++[jS]) d β []) [none] [(1,.ptr 0 0 0),(2,.ptr 1 0 0),(3,ag p.n),(4,ag p.m),(5,.ptr G.length 0 0),(6,.ro (cn ((List.range p.m).map p.dV)) 0 p.m),(7,ag p.a),(11,br p.cu)] (by rw [fM];rfl) aH (fun h aU=>by rw [bK] at aU;exact aU.elim)
  (qw dB _ (by rw [h1];exact pk _ _) (fun o aj=>by cases aj) (fun o aj=>by cases aj)) (by rw [h1,sq];simp [l4,hc,br];omega) ?_
 refine ko (mv G p.N (p.n+p.m) (p.m+1) (ts p K)) (by rw [wk]) ?_;have dc:=QV G dB p.m p.N (p.n+p.m) (M2 p) (ts p K) yf.1 yf.2.1 (lI p) L (ax.two jZ) (p.T e) J J (fun u hu=>vA hu J (w9 aJ kG)) J;obtain ⟨pI,Kt,_⟩:=Mo p aJ K L aO;have JN:=fun h=>akf (K:=K) (L:=L) jZ h;have Y1:=fun h=>ake (K:=K) (L:=L) jZ h;obtain ⟨dX,eu⟩:=vA pI J (w9 aJ kG);have alj:=Xe p (jk p K L);refine bN ?_;refine rz I I I dc (fun _ h=>h) (fun _ h=>h) ?_;rintro dk bE ⟨rfl,rfl⟩;clear dc f1 f2 f3 oM wk c9 Jq Jo Ap uV hlen sq yf ax;have aE:eB p.m p.N (p.n+p.m) (ts p K) L=jk p K L:=rfl;rw [aE];clear aE;generalize jk p K L=t at*;have kE:=pI.n;have pH:=pI.b;have kF:=pI.row;have hd:t.den≠0:=by have:=pI.fU;omega
 have f1:=hJ (G:=G) (F:=none) (L:=p.N+1) (w:=p.n+p.m) (k:=(p.m+1)) (X:=t.rows) (d:=t.den) (β:=t.basis) (T:=[]);have f2:=mB (G:=G) (F:=none) (L:=p.N+1) (w:=p.n+p.m) (k:=(p.m+1)) (X:=t.rows) (d:=t.den) (β:=t.basis) (T:=[]);refine bN ?_;refine eN af ?_;refine fe (fuel:=4) [0,1,2,3,4,5,6,7,8,9,10,11,12,13] [(1,.ptr 0 0 0),(2,.ptr 1 0 0),(3,ag p.n),(4,ag p.m),(5,.ptr G.length 0 0),(6,.ro (cn ((List.range p.m).map p.dV)) 0 p.m),(7,ag p.a),(11,br p.cu),(18,.int .i64 (AF p.m (p.n+p.m) t))] aH af a6 I I ?_;refine cy I I (bL I) ?_;refine cy I I (bL I) ?_;refine cy I I (jQ I) ?_;refine cy I I (dh I I I I I I) ?_;refine cy I I (n0 I I I hv kl) ?_;refine cy I I (bL I) ?_;refine cy I I (GY I I f2 I I I I I ⟨I,J,J⟩) ?_;refine dd ?_;refine fc ?_;refine bJ 14 I af af af I (jQ I) I ?_;refine bJ 15 I af af af I (dh I I I I I I) I ?_;refine bx 16 ?_;refine bP 150 (.aA (G.length+3) 0 p.m) I (aV.of_eq I) ?_;refine kN I I I I f1 I I fp ?_;refine c7 (bn G none (p.N+1) (p.n+p.m) p.m t.rows t.den t.basis []) (LV p.m (p.n+p.m) t.den) (bI ?_);refine bJ 17 I af af af I (dr I) I ?_;refine eM af ?_;repeat (refine b0 ?_)
 refine eA 12 (.aA (G.length+4+p.m) 0 (p.N+1)) I (aV.of_eq I) ?_;clear f1 f2;have u6:(lE p t).length=p.n:=by unfold lE;rw [vx];simp
 have CT: ∀i j,i<p.m+1→j<p.N+1→(aW (aq t.rows i j).natAbs).length≤400001:=fun i j aa ae=>tg _ _ J (dX i j aa ae);have nK:(aW t.den.natAbs).length≤400001:=tg _ _ J eu;by_cases av:gr p.m (p.n+p.m) t<p.n+p.m
 ·rw [JN av] at ay;have hw:=lI p;have Ce:=DN G dB p.N (p.n+p.m) p.m t.rows t.den t.basis [] (fun m _ o aj=>by cases aj) p.n J J J J kF J hd (fun i aa=>by have:=CT i p.N J J;omega) J;have zG:=adK G dB p.N (p.n+p.m) p.m t.rows t.den t.basis [] (fun m _ o aj=>by cases aj) p.n (gr p.m (p.n+p.m) t) J J J J J kF J hd (fun i aa=>by have:=CT i (gr p.m (p.n+p.m) t) J J;omega) J;rw [pH] at Ce zG;have e6:(og p t (gr p.m (p.n+p.m) t)).length=p.n:=by unfold og;rw [vx];exact D5 _ _
  refine eA 18 (ag (gr p.m (p.n+p.m) t)) I (aV.of_eq (by unfold AF;rw [az J])) (vf ?_);refine rz I I I Ce (fun _ h=>h) (fun _ h=>h) ?_;rintro dk bE ⟨rfl,rfl⟩;repeat (refine an (bL rfl) ?_)
  refine rz I I I zG (fun _ h=>h) (fun _ h=>h) ?_;rintro dk bE ⟨rfl,rfl⟩;repeat (refine an (iD rfl rfl rfl rfl rfl rfl) ?_)
  refine er (c':= .box [.int .i64 2,.ro (aQ (lE p t)) 0 p.n,.nil,.ro (aQ (og p t (gr p.m (p.n+p.m) t))) 0 p.n,.bool false,.nil,.nil]) I I I (ti _ _ _ _ _) I fp I I (fun aI a7 aP bf=> ?_) ?_
  ·rw [aG (e5.1 aP)];rfl
  refine dw ?_;refine bd ay (G5 I (NB (ti _ _ _ _ _)) I I I) ?_;show al.agg _=tw _;unfold tw;simp only [u6,e6];rfl
 ·rw [Y1 av] at ay;have x0:gr p.m (p.n+p.m) t=p.n+p.m:=J;refine eA 18 (.int .i64 (-1)) I (aV.of_eq (by unfold AF;rw [aG x0])) ?_;have alp:(aW ((p.cu:Nat):Int).natAbs).length≤400001:=tg _ (e*p.n) (by have:e*p.n≤1000*30:=jB zT aF;omega) (by rw [k1];exact kG.cu);have Pl:=BD p;have e0:t.den*(p.cu:Nat)≠0:=by have:=vZ pI.fU (show (0:Int)<((p.cu:Nat):Int) by omega);omega
  have JY:e*p.n≤30000:=jB zT aF;have PK:(t.den*(p.cu:Nat)).natAbs≤10^(p.T e+e*p.n):=by rw [kf,k1,jm];exact jB eu (kG.cu)
  have nP:=tg _ _ J PK;have lu:=oZ t.den ((p.cu:Nat):Int) J J;rw [abg] at lu;have hw:=lI p;have dq:=ma (G:=G) (F:=none) (L:=p.N+1) (w:=p.n+p.m) (k:=p.m) (X:=t.rows) (d:=t.den) (β:=t.basis) (T:=[]) (a:=p.m) J;clear dq;refine fx ?_;refine c7 (bn G none (p.N+1) (p.n+p.m) p.m t.rows t.den t.basis [some ⟨116,.box [.bool false,.nil]⟩]) (by rw [fM];rfl) ?_;refine bP 19 (.ptr (G.length+4+(p.m+1)) 0 0) I (aV.of_eq (by rw [h1,kE];rfl)) ?_;refine bP 171 (.agg [.bool false,br p.cu]) I (aV.of_eq I) ?_;have ew:=fN (G:=G) (F:=none) (L:=p.N+1) (w:=p.n+p.m) (k:=p.m) (X:=t.rows) (d:=t.den) (β:=t.basis) (T:=[some ⟨116,.box [.bool false,.nil]⟩]) 0;rw [kE,eQ] at ew;refine er (c':= .box [.bool false,br p.cu]) I I I ew I fp I I (fun aI a7 aP bf=> ?_) ?_
  ·rw [aG (e5.1 aP)];rfl
  refine c7 (bn G none (p.N+1) (p.n+p.m) p.m t.rows t.den t.basis [some ⟨116,.box [.bool false,br p.cu]⟩]) (by have q:=jq (G:=G) (F:=none) (L:=p.N+1) (w:=p.n+p.m) (k:=p.m) (X:=t.rows) (d:=t.den) (β:=t.basis) (T:=[some ⟨116,.box [.bool false,.nil]⟩]) 0 (some ⟨116,.box [.bool false,br p.cu]⟩);rw [kE,eQ] at q;exact q) ?_;clear ew;refine bN ?_;refine kM 20 ⟨118,aQ ((List.range 0).map (fun i=>Rat.divInt (aq t.rows p.m (p.n+i)) (t.den*(p.cu:Nat))))⟩ I I ?_;refine ko (bn G none (p.N+1) (p.n+p.m) p.m t.rows t.den t.basis [some ⟨116,.box [.bool false,br p.cu]⟩,some ⟨118,aQ ((List.range 0).map (fun i=>Rat.divInt (aq t.rows p.m (p.n+i)) (t.den*(p.cu:Nat))))⟩]) (by rw [fM];rfl) ?_;refine eA 20 (.aA (G.length+4+(p.m+1)+1) 0 0) I (aV.of_eq (by rw [h1,kE];rfl)) ?_;have wB: ∀i,((List.range i).map (fun i=>Rat.divInt (aq t.rows p.m (p.n+i)) (t.den*(p.cu:Nat)))).length=i:=fun i=>by simp
  repeat (refine fK ?_)
  refine cJ (ι:=Nat) (fun i=>[(1,.ptr 0 0 0),(2,.ptr 1 0 0),(3,ag p.n),(4,ag p.m),(5,.ptr G.length 0 0),(6,.ro (cn ((List.range p.m).map p.dV)) 0 p.m),(7,ag p.a),(11,br p.cu),(12,.aA (G.length+4+p.m) 0 (p.N+1)),(19,.ptr (G.length+4+(p.m+1)) 0 0),(20,.aA (G.length+4+(p.m+1)+1) 0 i),(172,ag p.m),(173,ag i)]) (fun i=>bn G none (p.N+1) (p.n+p.m) p.m t.rows t.den t.basis [some ⟨116,.box [.bool false,br p.cu]⟩,some ⟨118,aQ ((List.range i).map (fun i=>Rat.divInt (aq t.rows p.m (p.n+i)) (t.den*(p.cu:Nat))))⟩]) (fun i=>i≤p.m) (fun i=>p.m-i) 0 ⟨aH,I,cf _⟩ ?_;intro i aa;refine bl ?_;refine bB I (fun h=> ?_) (fun h=> ?_)
  ·have aP:i<p.m:=J;have Kz:((List.range (i+1)).map (fun i=>Rat.divInt (aq t.rows p.m (p.n+i)) (t.den*(p.cu:Nat))))=((List.range i).map (fun i=>Rat.divInt (aq t.rows p.m (p.n+i)) (t.den*(p.cu:Nat))))++[Rat.divInt (aq t.rows p.m (p.n+i)) (t.den*(p.cu:Nat))]:=by rw [r2,hS];rfl
   have Ky:=wB i;generalize ((List.range i).map (fun i=>Rat.divInt (aq t.rows p.m (p.n+i)) (t.den*(p.cu:Nat))))=Y at*;have bO:=hJ (G:=G) (F:=none) (L:=p.N+1) (w:=p.n+p.m) (k:=p.m) (X:=t.rows) (d:=t.den) (β:=t.basis) (T:=[some ⟨116,.box [.bool false,br p.cu]⟩,some ⟨118,aQ Y⟩]);have dq:=ma (G:=G) (F:=none) (L:=p.N+1) (w:=p.n+p.m) (k:=p.m) (X:=t.rows) (d:=t.den) (β:=t.basis) (T:=[some ⟨116,.box [.bool false,br p.cu]⟩,some ⟨118,aQ Y⟩]) (a:=p.m) J;have dZ:=fN (G:=G) (F:=none) (L:=p.N+1) (w:=p.n+p.m) (k:=p.m) (X:=t.rows) (d:=t.den) (β:=t.basis) (T:=[some ⟨116,.box [.bool false,br p.cu]⟩,some ⟨118,aQ Y⟩]) 0;have gR:=fN (G:=G) (F:=none) (L:=p.N+1) (w:=p.n+p.m) (k:=p.m) (X:=t.rows) (d:=t.den) (β:=t.basis) (T:=[some ⟨116,.box [.bool false,br p.cu]⟩,some ⟨118,aQ Y⟩]) 1;rw [kE] at dZ gR;rw [eQ] at dZ;have lm:(t.rows.getD p.m []).length=p.N+1:=kF _ (dx [] J);have g7:p.n+i<(aR (t.rows.getD p.m [])).len:=by show p.n+i<(t.rows.getD p.m []).length;omega
   have IW:=Bv (aq t.rows p.m (p.n+i)) (t.den*(p.cu:Nat)) e0 (by have:=CT p.m (p.n+i) J J;omega) J;refine bI ?_;refine eN af ?_;refine bJ 0 I af af af I (bL I) I ?_;refine fe (fuel:=3) [1,2,3,4,5,6,7,8,9,10,11,12,13] [(1,.ptr 0 0 0),(2,.ptr 1 0 0),(3,ag p.n),(4,ag p.m),(5,.ptr G.length 0 0),(6,.ro (cn ((List.range p.m).map p.dV)) 0 p.m),(7,ag p.a),(11,br p.cu),(12,.aA (G.length+4+p.m) 0 (p.N+1)),(19,.ptr (G.length+4+(p.m+1)) 0 0),(20,.aA (G.length+4+(p.m+1)+1) 0 i),(172,ag p.m),(173,ag i),(21,ag i),(176,.aA (G.length+4+(p.m+1)+1) 0 i)] aH af a6 I I ?_;refine cy I I (bL I) ?_;refine cy I I (bL I) ?_;refine cy I I (bL I) ?_;refine cy I I (hl I I J) ?_;refine cy I I (yC (ix:=p.n+i) I I I dq I (by show 0+((p.n:Nat)+(i:Nat):Int).toNat=p.n+i;omega) J) ?_;refine dd ?_;refine en I I I I I lu ?_;refine en I I I I I IW ?_;refine fc ?_;unfold cj;refine bx 14 ?_;refine bz ?_;refine bx 15 ?_;refine dt I I I I I I I gR I Ky I I dW I (by show (i+1)*56≤_∧_;omega) ?_ c4 ?_
   ·intro aI a7 aP bf;exact hZ 0 3 cb tC Y _ _ (mC _) _ aI a7 aP bf
   refine tG ((191,.aA (G.length+4+(p.m+1)+1) 0 (i+1))::[(1,.ptr 0 0 0),(2,.ptr 1 0 0),(3,ag p.n),(4,ag p.m),(5,.ptr G.length 0 0),(6,.ro (cn ((List.range p.m).map p.dV)) 0 p.m),(7,ag p.a),(11,br p.cu),(12,.aA (G.length+4+p.m) 0 (p.N+1)),(19,.ptr (G.length+4+(p.m+1)) 0 0),(172,ag p.m),(173,ag i)]) ⟨I,pM (h:=G.length+4+(p.m+1)+1) (L:=[(1,.ptr 0 0 0),(2,.ptr 1 0 0),(3,ag p.n),(4,ag p.m),(5,.ptr G.length 0 0),(6,.ro (cn ((List.range p.m).map p.dV)) 0 p.m),(7,ag p.a),(11,br p.cu),(12,.aA (G.length+4+p.m) 0 (p.N+1)),(19,.ptr (G.length+4+(p.m+1)) 0 0),(172,ag p.m),(173,ag i)]) aH (by
   intro q aB;simp only [fT,nF,mP] at aB;rcases aB with rfl|rfl|rfl|rfl|rfl|rfl|rfl|rfl|rfl|rfl|rfl|rfl<;>simp [al.forget,br,db (show G.length≠G.length+4+(p.m+1)+1 by omega),db (show 0≠G.length+4+(p.m+1)+1 by omega),db (show 1≠G.length+4+(p.m+1)+1 by omega),db (show G.length+4+p.m≠G.length+4+(p.m+1)+1 by omega),db (show G.length+4+(p.m+1)≠G.length+4+(p.m+1)+1 by omega)])⟩ ?_
   refine fm (bn G none (p.N+1) (p.n+p.m) p.m t.rows t.den t.basis [some ⟨116,.box [.bool false,br p.cu]⟩,some ⟨118,aQ ((List.range (i+1)).map (fun i=>Rat.divInt (aq t.rows p.m (p.n+i)) (t.den*(p.cu:Nat))))⟩]) (by
    rw [Kz];have e:bn G none (p.N+1) (p.n+p.m) p.m t.rows t.den t.basis [some ⟨116,.box [.bool false,br p.cu]⟩,some ⟨118,aQ (Y++[Rat.divInt (aq t.rows p.m (p.n+i)) (t.den*(p.cu:Nat))])⟩]=(bn G none (p.N+1) (p.n+p.m) p.m t.rows t.den t.basis [some ⟨116,.box [.bool false,br p.cu]⟩,none]).set (G.length+4+(p.m+1)+1) (some ⟨118,aQ (Y++[Rat.divInt (aq t.rows p.m (p.n+i)) (t.den*(p.cu:Nat))])⟩):=by have q:=jq (G:=G) (F:=none) (L:=p.N+1) (w:=p.n+p.m) (k:=p.m) (X:=t.rows) (d:=t.den) (β:=t.basis) (T:=[some ⟨116,.box [.bool false,br p.cu]⟩,none]) 1 (some ⟨118,aQ (Y++[Rat.divInt (aq t.rows p.m (p.n+i)) (t.den*(p.cu:Nat))])⟩);rw [kE] at q;exact q.symm
    rw [e];exact aM.set (Mn (T:=[some ⟨116,.box [.bool false,br p.cu]⟩,some ⟨118,aQ Y⟩]) (iU:=[some ⟨116,.box [.bool false,br p.cu]⟩,none]) _ (oI _) J (aM.same (aM.drop aM.nil))) _ (fun o aj=>by cases aj;exact ⟨_,rfl,rfl,hB 0 3 cb Y _ _ (mC (Rat.divInt (aq t.rows p.m (p.n+i)) (t.den*(p.cu:Nat))))⟩)) ?_
   refine bI ?_;refine bJ 16 I af af af I (dr I) I ?_;refine eM af (bt ?_);exact ca ⟨i+1,J,J,aH,I⟩
  have df:i=p.m:=J;rw [df];clear aa h df;clear i;obtain ⟨xv,Yv⟩: ∃xv,xv=890000:=⟨_,rfl⟩
  have iu:=SO ((List.range p.m).map (fun i=>Rat.divInt (aq t.rows p.m (p.n+i)) (t.den*(p.cu:Nat)))) ((List.range p.m).map p.dV) xv bZ (by simp;omega) (fun q aB=>by
   obtain ⟨i,aa,rfl⟩:=da.1 aB;have aa:i<p.m:=by simpa using aa
   exact (xj e0 (o6 (dT (dX p.m (p.n+i) J J) (gp a6 (pk _ (e*p.n))))) (o6 PK)).mono J) (fun q aB=>by
   obtain ⟨i,aa,rfl⟩:=da.1 aB;have aa:i<p.m:=by simpa using aa
   refine hE (o6 (kG.I7 _ aa)) (gp a6 ?_);have:e*(p.n+1)≤1000*31:=jB zT J;omega) J
  rw [wB p.m,ha] at iu;have aY:qT ((List.range p.m).map (fun i=>Rat.divInt (aq t.rows p.m (p.n+i)) (t.den*(p.cu:Nat)))) ((List.range p.m).map p.dV) p.m=kK p t (t.den*(p.cu:Nat)):=(Rj p t (t.den*(p.cu:Nat))).symm;rw [aY] at iu;have aaT:(kK p t (t.den*(p.cu:Nat))).length=p.m:=by simp [kK]
  have alQ:=wB p.m;generalize ((List.range p.m).map (fun i=>Rat.divInt (aq t.rows p.m (p.n+i)) (t.den*(p.cu:Nat))))=Y at*;have gR:=fN (G:=G) (F:=none) (L:=p.N+1) (w:=p.n+p.m) (k:=p.m) (X:=t.rows) (d:=t.den) (β:=t.basis) (T:=[some ⟨116,.box [.bool false,br p.cu]⟩,some ⟨118,aQ Y⟩]) 1;rw [kE] at gR;refine dS ?_;refine mx (G.length+4+(p.m+1)+1) 20 p.m [(1,.ptr 0 0 0),(2,.ptr 1 0 0),(3,ag p.n),(4,ag p.m),(5,.ptr G.length 0 0),(6,.ro (cn ((List.range p.m).map p.dV)) 0 p.m),(7,ag p.a),(11,br p.cu),(12,.aA (G.length+4+p.m) 0 (p.N+1)),(19,.ptr (G.length+4+(p.m+1)) 0 0)] gR (n1 _) I (by show p.m≤Y.length;omega) aH ?_;refine ko (bn G none (p.N+1) (p.n+p.m) p.m t.rows t.den t.basis [some ⟨116,.box [.bool false,br p.cu]⟩,none]) (by have q:=jq (G:=G) (F:=none) (L:=p.N+1) (w:=p.n+p.m) (k:=p.m) (X:=t.rows) (d:=t.den) (β:=t.basis) (T:=[some ⟨116,.box [.bool false,br p.cu]⟩,some ⟨118,aQ Y⟩]) 1 none;rw [kE] at q;exact q) ?_;clear gR;have bO:=hJ (G:=G) (F:=none) (L:=p.N+1) (w:=p.n+p.m) (k:=p.m) (X:=t.rows) (d:=t.den) (β:=t.basis) (T:=[some ⟨116,.box [.bool false,br p.cu]⟩,none]);have dq:=ma (G:=G) (F:=none) (L:=p.N+1) (w:=p.n+p.m) (k:=p.m) (X:=t.rows) (d:=t.den) (β:=t.basis) (T:=[some ⟨116,.box [.bool false,br p.cu]⟩,none]) (a:=p.m) J;have dZ:=fN (G:=G) (F:=none) (L:=p.N+1) (w:=p.n+p.m) (k:=p.m) (X:=t.rows) (d:=t.den) (β:=t.basis) (T:=[some ⟨116,.box [.bool false,br p.cu]⟩,none]) 0;rw [kE,eQ] at dZ;have lm:(t.rows.getD p.m []).length=p.N+1:=kF _ (dx [] J);have g7:p.N<(aR (t.rows.getD p.m [])).len:=by show p.N<(t.rows.getD p.m []).length;omega
  have IW:=Bv (aq t.rows p.m p.N) (t.den*(p.cu:Nat)) e0 (by have:=CT p.m p.N J J;omega) J;have Ce:=DN G dB p.N (p.n+p.m) p.m t.rows t.den t.basis [some ⟨116,.box [.bool false,br p.cu]⟩,none] (fun m _ o aj=>by
   simp only [fT,nF,mP] at aj;rcases aj with e|e
   ·cases e;intro aI a7 aP bf
    match a7,(show a7<2 from bf) with
    |0,_=>rfl
    |1,_=>rfl
   ·cases e) p.n J J J J kF J hd (fun i aa=>by have:=CT i p.N J J;omega) J
  rw [pH] at Ce;repeat (refine c6 ?_)
  refine eN af ?_;refine fe (fuel:=1) [0,1,2,3,4,5,6,7,8,9,10,11,12,13,14,15,16,17,18,19] ((20,.ro (aQ Y) 0 p.m)::[(1,.ptr 0 0 0),(2,.ptr 1 0 0),(3,ag p.n),(4,ag p.m),(5,.ptr G.length 0 0),(6,.ro (cn ((List.range p.m).map p.dV)) 0 p.m),(7,ag p.a),(11,br p.cu),(12,.aA (G.length+4+p.m) 0 (p.N+1)),(19,.ptr (G.length+4+(p.m+1)) 0 0)]) aH af a6 I I ?_;refine dd ?_;refine QC I I I I I Ce ?_;refine dd ?_;refine en I I I I I iu ?_;refine cy I I (bL I) ?_;refine cy I I (bL I) ?_;refine cy I I (gC I I I) ?_;refine cy I I (qJ I I J) ?_;refine cy I I (yC (ix:=p.N) I I I dq I (by show 0+(((p.N+1:Nat):Int)-1).toNat=p.N;omega) (by first|omega)) ?_;refine dd ?_;refine en I I I I I lu ?_;refine en I I I I I IW ?_;unfold cj;refine dd ?_;refine fc ?_;refine bx 20 ?_;refine er (c':= .box ([.int .i64 0,.ro (aQ (lE p t)) 0 p.n,.ro (aQ (kK p t (t.den*(p.cu:Nat)))) 0 p.m,.nil]++cb (Rat.divInt (aq t.rows p.m p.N) (t.den*(p.cu:Nat))))) I I I (ti _ _ _ _ _) I fp I I (fun aI a7 aP bf=> ?_) ?_
  ·rw [aG (e5.1 aP)];rfl
  refine bI ?_;refine eM af (bN ?_);refine bd ay (G5 I (NB (ti _ _ _ _ _)) I I I) ?_;show al.agg _=tw _;unfold tw;simp only [u6,aaT];rfl
end Go.Proofs.YtmpnheilfejcpaaGreatDoor
namespace Go.Proofs.YtmpnheilfejcpaaGreatDoor
open Go.ai Go.ai.c8 Go.ai.cz Go.RowKit Go.ai.dL Go.ai.cI Go.ai.lN Go.ai.eD
attribute [local irreducible] ai ek bV cg hb
theorem ajg (t:aT)(aN:Fit t):bD Tryz.prog 94 [.ro (cT (fI t)) 0 (fI t).length,.ro (fH (kQ t 0)) 0 (kQ t 0).length,.ro (fH (kQ t 1)) 0 (kQ t 1).length] (.agg [.ro (cT (dz t).A) 0 (dz t).A.length,.ro (aQ (dz t).B) 0 (dz t).B.length,.ro (aQ (dz t).C) 0 (dz t).C.length]):=by
 have ah:=aN.v;have hd:=ME ah;have nT:=L4 ah 0;have eF:=L4 ah 1;have KN:=BE ah 0;have gh:=BE ah 1;have i0:=aN.i0;have i1:=aN.i1;have b3:aS t 0≤13:=aN.b3;have mr:aS t 1≤13:=aN.mr;have oR:0<aS t 0:=(sF ah 0).2.2.1;have h:=aeW (fI t) (kQ t 0) (kQ t 1) (aS t 0) (aS t 1) (ch t 1) (ch t 0) hd.rows eF nT oR J J J J J hd.pt (fun c av=>L5 ah 1 av) (fun c av=>L5 ah 0 av) (T9 ah 1) (T9 ah 0);have uN:=aeX ah;have XE:=aeY t;have XF:=aeZ t (show 0<ch t 1 by omega);have vc:(km (fI t) (kQ t 0) (kQ t 1) (aS t 0) (aS t 1) (ch t 1) (2*ch t 0)).length=aS t 1+2*ch t 0:=Iq ..;have KO:(mu (aS t 1) (2*ch t 0)).length=aS t 1+2*ch t 0:=Ny ..;have P8:(ve (aS t 0) (ch t 1)).length=aS t 0+2*ch t 1:=by unfold ve;rw [dj,dj,fw]
 rw [uN] at h vc;rw [XE] at h KO;rw [XF] at h P8;rw [hd.rows,nT,eF,vc,KO,P8];exact h
abbrev aeU (r:NO):al:= .agg [.str r.1,.ro (fk r.2.1) 0 r.2.1.length,.ro (fk r.2.2) 0 r.2.2.length]
theorem H8 (T:aX): ∀(h:Nat) (o':bk),(some ⟨49,.box [.str [],.ro (fk []) 0 0,.ro (fk []) 0 0]⟩::T)[h]? =some (some o')→ ∃o:bk,(some ⟨49,.box [.str [],.nil,.nil]⟩::T)[h]? =some (some o)∧o'.ty=o.ty∧o'.c.len=o.c.len∧o'.c.bU=o.c.bU∧ ∀i j,i<o.c.len→j<o.c.aC→aV (o.c.at i j) (o'.c.at i j):=by
 intro h o' cU
 match h,cU with
 |0,cU=>
  cases cU;refine ⟨_,I,I,I,I,fun i j aa ae=> ?_⟩;have ae:j<3:=ae
  match j,ae with
  |0,_=>exact aV.of_eq rfl
  |1,_=>exact aV.nil
  |2,_=>exact aV.nil
 |h+1,cU=>exact ⟨o',cU,rfl,rfl,rfl,fun _ _ _ _=>aV.of_eq rfl⟩
theorem Mi (t:aT)(K L:Nat)(cc:kY t)(hm:kV t=0→lj t)(ax:kV t=0→qW (dz t) K L):
 bD Tryz.prog 25 [.ro (bS t) 0 t.length] (.cd [aeU (jw t K L).1,.int .i64 (jw t K L).2]):=by
 have mR:=HA t cc;refine cm Tryz.f25 fun c ay bK=> ?_;refine bl ?_;refine aZ I I I mR (bz ?_);refine bB I (fun h=> ?_) (fun h=> ?_)
 ·unfold jw at ay;rw [aG h] at ay;refine fx ?_;refine dP (c':= .box [.str [],.nil,.nil]) I I I I I I I ?_;refine wR [some ⟨49,.box [.str [],.ro (fk []) 0 0,.ro (fk []) 0 0]⟩] I (H8 []) (dw ?_);exact bd ay I I
 have h:=jV.1 h;have hm:=hm h;have ax:=ax h;have aN:=y3 h;have ah:=aN.v;have lP:=Ey t 0 cc ah;have eY:=Ey t 1 cc ah;have zF:=Tz t cc ah hm;have N6:=Ua t 0 ah;have N7:=Ua t 1 ah;have q9:=ajg t aN;obtain ⟨l2,z2⟩:=Hr aN;have dc:=V3 (dz t) pb 400 K L (y5 t) (afa ah hm) (VL aN hm) J J a6 J (dT (Q2 aN) a6) ax;obtain ⟨aD,aE,bM,_⟩:=DI aN ax;obtain ⟨d1,d2,d3⟩:=afc aN hm ax;unfold jw at ay;rw [az (fun q=>q h)] at ay;generalize ad:gF (dz t) K L=r at*;have uN:tw r= .agg ([.int .i64 0,.ro (aQ r.X) 0 r.X.length,.ro (aQ r.Y) 0 r.Y.length,.nil]++cb r.V):=by unfold tw;rw [aD,az a6,az a6,az a6,aG rfl];rfl
 rw [uN] at dc;have KN:=BE ah 0;have gh:=BE ah 1;have i0:=aN.i0;have i1:=aN.i1;have b3:aS t 0≤13:=aN.b3;have mr:aS t 1≤13:=aN.mr;have j1:=Ty t 0 r.X 400000 cc ah ⟨a6,bR _⟩ d1 (by show aS t 0≤_;omega) J;have s1:=Ty t 1 r.Y 400000 cc ah ⟨a6,bR _⟩ d2 (by show aS t 1≤_;omega) J;have OV:fu 100000 r.V:=qS (d3.mono a6);clear uN d1 d2 d3 ax ad hm;refine bI ?_;refine aZ I I I lP ?_;repeat (refine an (bL rfl) ?_)
 refine aZ I I I eY (bN ?_);refine aZ I I I zF (bN ?_);refine aZ I I I N6 ?_;repeat (refine an (bL rfl) ?_)
 refine aZ I I I N7 ?_;skip
 refine aZ I I I q9 ?_;skip
 refine aZ I I I dc ?_;repeat (refine my rfl rfl rfl ?_)
 refine dP (c':= .box ([.int .i64 0,.ro (aQ r.X) 0 r.X.length,.ro (aQ r.Y) 0 r.Y.length,.nil]++cb r.V)) I I I I I I I ?_;refine c7 [some ⟨49,.box [.str [],.nil,.nil]⟩,some ⟨152,.box ([.int .i64 0,.ro (aQ r.X) 0 r.X.length,.ro (aQ r.Y) 0 r.Y.length,.nil]++cb r.V)⟩] I ?_;clear lP eY zF N6 N7 q9 dc;cases Fu:e3 r.V with
 |false=>
  have co:=Nw r.V OV Fu;rw [az (fun q=>r6 (Fu.symm.trans q.1))] at ay;refine bm ?_;refine aZ I I I co (tv ?_);refine dP (c':= .box [.str [],.nil,.nil]) I I I I I I I ?_;refine wR [some ⟨49,.box [.str [],.ro (fk []) 0 0,.ro (fk []) 0 0]⟩,some ⟨152,.box ([.int .i64 0,.ro (aQ r.X) 0 r.X.length,.ro (aQ r.Y) 0 r.Y.length,.nil]++cb r.V)⟩] I (H8 [some ⟨152,.box ([.int .i64 0,.ro (aQ r.X) 0 r.X.length,.ro (aQ r.Y) 0 r.Y.length,.nil]++cb r.V)⟩]) (dw ?_);exact bd ay I I
 |true=>
  have co:=H0 r.V OV Fu;refine bm ?_;refine aZ I I I co (bt ?_);cases x5:xf t 0 (fun k=>r.X.getD k 0) with
  |false=>
   have j1:bD Tryz.prog 97 [.ro (bS t) 0 t.length,.int .i64 0,l8 t 0,.ro (aQ r.X) 0 r.X.length] (.cd [.ro (fk []) 0 0,.int .i64 2]):=by have q:=j1;unfold vh at q;rw [x5] at q;exact q
   rw [az (fun q=>r6 (x5.symm.trans q.2.1))] at ay;refine aZ I I I j1 (tv ?_);refine dP (c':= .box [.str [],.nil,.nil]) I I I I I I I ?_;refine wR [some ⟨49,.box [.str [],.ro (fk []) 0 0,.ro (fk []) 0 0]⟩,some ⟨152,.box ([.int .i64 0,.ro (aQ r.X) 0 r.X.length,.ro (aQ r.Y) 0 r.Y.length,.nil]++cb r.V)⟩] I (H8 [some ⟨152,.box ([.int .i64 0,.ro (aQ r.X) 0 r.X.length,.ro (aQ r.Y) 0 r.Y.length,.nil]++cb r.V)⟩]) (dw ?_);exact bd ay I I
  |true=>
   have j1:bD Tryz.prog 97 [.ro (bS t) 0 t.length,.int .i64 0,l8 t 0,.ro (aQ r.X) 0 r.X.length] (.cd [.ro (fk (rG t 0 (fun k=>r.X.getD k 0))) 0 (rG t 0 (fun k=>r.X.getD k 0)).length,.int .i64 0]):=by have q:=j1;unfold vh at q;rw [x5] at q;exact q
   refine aZ I I I j1 (bt ?_);cases rb:xf t 1 (fun k=>r.Y.getD k 0) with
   |false=>
    have s1:bD Tryz.prog 97 [.ro (bS t) 0 t.length,.int .i64 1,l8 t 1,.ro (aQ r.Y) 0 r.Y.length] (.cd [.ro (fk []) 0 0,.int .i64 2]):=by have q:=s1;unfold vh at q;rw [rb] at q;exact q
    rw [az (fun q=>r6 (rb.symm.trans q.2.2))] at ay;refine aZ I I I s1 (tv ?_);refine dP (c':= .box [.str [],.nil,.nil]) I I I I I I I ?_;refine wR [some ⟨49,.box [.str [],.ro (fk []) 0 0,.ro (fk []) 0 0]⟩,some ⟨152,.box ([.int .i64 0,.ro (aQ r.X) 0 r.X.length,.ro (aQ r.Y) 0 r.Y.length,.nil]++cb r.V)⟩] I (H8 [some ⟨152,.box ([.int .i64 0,.ro (aQ r.X) 0 r.X.length,.ro (aQ r.Y) 0 r.Y.length,.nil]++cb r.V)⟩]) (dw ?_);exact bd ay I I
   |true=>
    have s1:bD Tryz.prog 97 [.ro (bS t) 0 t.length,.int .i64 1,l8 t 1,.ro (aQ r.Y) 0 r.Y.length] (.cd [.ro (fk (rG t 1 (fun k=>r.Y.getD k 0))) 0 (rG t 1 (fun k=>r.Y.getD k 0)).length,.int .i64 0]):=by have q:=s1;unfold vh at q;rw [rb] at q;exact q
    rw [aG ⟨Fu,x5,rb⟩] at ay;refine aZ I I I s1 ?_;generalize rG t 0 (fun k=>r.X.getD k 0)=x at*;generalize rG t 1 (fun k=>r.Y.getD k 0)=y at*;repeat (first|refine an (bL rfl) ?_|refine an (dr rfl) ?_|refine cK ?_|refine b0 ?_|refine c6 ?_|refine c0 rfl ?_|refine ni rfl ?_|refine iB ?_|refine an (sN rfl rfl) ?_|refine an (nm rfl rfl) ?_|refine an (iD rfl rfl rfl rfl rfl rfl) ?_)
    refine dP (c':= .box [.str (cO r.V),.ro (fk x) 0 x.length,.ro (fk y) 0 y.length]) I I I I I I I (bN ?_);exact bd ay I I
theorem akh (t:aT)(cc:kY t)(hm:kV t=0→lj t):
 bD Tryz.prog 30 [.ro (bS t) 0 t.length] (.cd [.ro (nx (Et t).1) 0 (Et t).1.length,.int .i64 (Et t).2]):=by
 have mR:=HA t cc;refine cm Tryz.f30 fun c ay bK=> ?_;unfold Et at ay;refine bN ?_;refine aZ I I I mR (bz ?_);refine bB I (fun h=> ?_) (fun h=> ?_)
 ·rw [aG h] at ay;refine cM ?_;refine eA 2 (.ro (nx []) 0 0) I aV.nil (dw ?_);exact bd ay I I
 have h:=jV.1 h;have hm:=hm h;have aN:=y3 h;have ah:=aN.v;have zF:=Tz t cc ah hm;have x4:=ME ah;have b3:aS t 0≤13:=aN.b3;have mr:aS t 1≤13:=aN.mr;have ad: ∀r∈fI t,r.length≤1000000∧ ∀q∈r,fu 100000 q:=fun r ad=>by
  obtain ⟨i,aa,rfl⟩:=ln ad;have aP:i<aS t 0:=by rw [←x4.rows];exact aa
  have av:=x4.pt i aP;rw [e9 [] aa] at av;refine ⟨J,fun q aB=> ?_⟩;obtain ⟨j,ae,rfl⟩:=ln aB;have:=Q9 ah hm i j;rw [e9 [] aa,e9 0 ae] at this;exact qS (this.mono a6)
 rw [az (fun q=>q h)] at ay;have hlen:(fI t).length≤1000:=by rw [x4.rows];omega
 generalize fI t=m at*;refine bI ?_;refine aZ I I I zF (fx ?_);refine kM 5 ⟨32,nx []⟩ I I ?_;repeat (refine fK ?_)
 refine cJ (ι:=Nat) (fun k=>[(5,.aA 0 0 k),(16,.ro (cT m) 0 m.length),(17,ag m.length),(18,ag k)]) (fun k=>[some ⟨32,nx ((m.take k).map (fun r=>r.map cO))⟩])
  (fun k=>k≤m.length∧m.all (fun r=>r.all e3)=(m.drop k).all (fun r=>r.all e3)) (fun k=>m.length-k) 0 ⟨aH,rfl,⟨cf _,rfl⟩⟩ ?_
 rintro k ⟨ao,iH⟩;refine bl ?_;refine bB I (fun h=> ?_) (fun h=> ?_)
 ·have b5:k<m.length:=J;obtain ⟨dX,eu⟩:=ad _ (mz [] b5);have hd:=DF (d:=[]) b5;rw [hd,zu] at iH;have mX:=Dr (fun r:List Rat=>r.map cO) m [] k b5;have ly:((m.take k).map (fun r:List Rat=>r.map cO)).length=k:=by rw [cL,ff];omega
  cases aN:(m.getD k []).all e3
  ·have av:=Tf (m.getD k []) dX eu aN;rw [aN,pq] at iH;rw [iH] at ay;refine bm ?_;refine aZ I I I av (tv ?_);refine eA 2 (.ro (nx []) 0 0) I aV.nil (bm ?_);exact bd ay I I
  ·have av:=R4 (m.getD k []) dX eu aN;rw [aN,lO] at iH;generalize (m.take k).map (fun r:List Rat=>r.map cO)=hV at*;generalize (m.getD k []).map cO=q at*;refine bm ?_;refine aZ I I I av (bl ?_);refine dt I I I I I I I I I ly I I dW I (by show (k+1)*24≤_∧_;omega) ?_ c4 ?_
   ·intro aI j aa ae;exact hZ [] 1 BK agQ hV q _ (QS _) 0 aI j aa ae
   refine fX ?_;refine b0 ?_;refine nn [some ⟨32,nx ((m.take (k+1)).map (fun r=>r.map cO))⟩] ?_ ?_
   ·rw [mX];exact aM.eqv (hB [] 1 BK hV q _ (QS _)) aM.nil
   refine bz ?_;exact ca ⟨k+1,⟨J,iH⟩,J,aH,I⟩
 ·have b5:k=m.length:=J;subst b5;rw [r7] at iH;rw [iH] at ay;rw [gb];have ly:(m.map (fun r:List Rat=>r.map cO)).length=m.length:=cL _;generalize m.map (fun r:List Rat=>r.map cO)=hV at*;refine kv ?_;refine mx 0 5 m.length [] I (agz _) I (by show _≤hV.length;omega) trivial ?_;refine eA 5 (.ro (nx hV) 0 hV.length) I (aV.of_eq (by rw [ly])) (bN ?_);exact bd ay I I
theorem ahw (n:cW)(j h:Nat)(ae:j<6):((hI n).getD j .any).forget h=(hI n).getD j .any:=by
 match j,ae with
 |0,_=>rfl
 |1,_=>rfl
 |2,_=>rfl
 |3,_=>rfl
 |4,_=>rfl
 |5,_=>rfl
theorem Qj (n:cW)(j:Nat)(ae:j<6):(ft 1 6 (hI n)).at 0 j=(hI n).getD j .any:=by
 match j,ae with
 |0,_=>rfl
 |1,_=>rfl
 |2,_=>rfl
 |3,_=>rfl
 |4,_=>rfl
 |5,_=>rfl
theorem RC (t:aT):eV (bS t):=by
 intro i j _ ae;have ae:j<6:=ae;show cV ((hI (t.getD i aK)).getD j .any)=true
 match j,ae with
 |0,_=>rfl
 |1,_=>rfl
 |2,_=>rfl
 |3,_=>rfl
 |4,_=>rfl
 |5,_=>rfl
theorem ahg (t:aT)(n:Nat):fy n (bS t):=by
 intro i j _ ae;have ae:j<6:=ae;show hc n ((hI (t.getD i aK)).getD j .any)=true
 match j,ae with
 |0,_=>rfl
 |1,_=>rfl
 |2,_=>rfl
 |3,_=>rfl
 |4,_=>rfl
 |5,_=>rfl
theorem acR (b:dI)(t:aT){k:Nat}(ao:k<t.length):(t.take (k+1)).map (iq b)=(t.take k).map (iq b)++[iq b (t.getD k aK)]:=by rw [p6 ao,hS,←e9 aK ao];rfl
theorem Uw (t:aT)(b:dI)(cc:kY t)(ak:b.length≤9223372036854775807)(hlen:t.length≤1000)(aJ: ∀i,i<t.length→(t.getD i aK).kind=0→pZ (fun x y=>x*y) (t.getD i aK).dC b=(cO (b4 (t.getD i aK).dC*b4 b),0)):
 cg Tryz.prog 24 [.ro (bS t) 0 t.length,.str b] [] (fun _=>False) (fun r H=>r= .cd [.aA 0 0 t.length,.bool true]∧H=[some ⟨57,bS (e2 b t)⟩]):=by
 refine hq (P:=Tryz.prog) (fn:=Tryz.f24) I I af I (fun c ay bK=> ?_);refine fx ?_;refine kM 6 ⟨57,bS []⟩ I I ?_;repeat (refine fK ?_)
 refine cJ (ι:=Nat) (fun k=>[(1,.str b),(6,.aA 0 0 k),(11,.ro (bS t) 0 t.length),(12,ag t.length),(13,ag k)]) (fun k=>[some ⟨57,bS ((t.take k).map (iq b))⟩])
  (fun k=>k≤t.length) (fun k=>t.length-k) 0 ⟨aH,rfl,cf _⟩ ?_
 intro k ao;refine bl ?_;refine bB I (fun h=> ?_) (fun h=> ?_)
 ·have b5:k<t.length:=J;have kH:=acR b t b5;have su:((t.take k).map (iq b)).length=k:=by rw [cL,ff];omega
  have u0:=aJ k b5;have Kf:=(cc.node _ (dx aK b5)).dC;generalize aay:(t.take (k+1)).map (iq b)=ame at*;generalize (t.take k).map (iq b)=sA at*;refine bm ?_;refine bP 16 (.agg (hI (t.getD k aK))) I (aV.of_eq I) ?_;generalize t.getD k aK=x at*;obtain ⟨bU,pl,bH,ba,ct,cw⟩:=x;simp only at u0 Kf kH;refine dP (c':= .box (ec bU pl bH ba ct cw)) I I I I I I I ?_;refine c7 [some ⟨57,bS sA⟩,some ⟨57,.box (ec bU pl bH ba ct cw)⟩] I ?_;refine dS ?_;refine c6 ?_;apply j4 (H:=[some ⟨57,bS sA⟩,some ⟨57,.box (hI (iq b ⟨bU,pl,bH,ba,ct,cw⟩))⟩]) [(1,.str b),(6,.aA 0 0 k),(8,.ptr 1 0 0),(11,.ro (bS t) 0 t.length),(12,ag t.length),(13,ag k)]
  ·intro fin;refine c6 ?_;refine c0 I ?_;repeat (first|refine cK ?_|refine b0 ?_|refine an (jl rfl rfl rfl rfl rfl) ?_|refine an (ob rfl rfl) ?_|refine an (dh rfl rfl rfl rfl rfl rfl) ?_)
   refine bB I (fun ab=> ?_) (fun ab=> ?_)
   ·have lu:=VB cw b Kf ak;rw [u0 ab] at lu;have e:iq b ⟨bU,pl,bH,ba,ct,cw⟩=⟨bU,pl,bH,ba,ct,cO (b4 cw*b4 b)⟩:=aG ab;rw [e] at fin;refine c6 ?_;refine c0 I ?_;refine dS ?_;refine aZ I I I lu ?_;refine dS ?_;refine c6 ?_;refine c6 ?_;refine c0 I ?_;repeat (first|refine an (bL rfl) ?_|refine cK ?_|refine b0 ?_|refine ni rfl ?_|refine iB ?_|refine an (sN rfl rfl) ?_)
    refine c0 I ?_;repeat (first|refine an (bL rfl) ?_|refine cK ?_|refine b0 ?_|refine an (dh rfl rfl rfl rfl rfl rfl) ?_|refine kN rfl rfl rfl rfl rfl rfl rfl fp ?_)
    exact fin _ aH
   ·have e:iq b ⟨bU,pl,bH,ba,ct,cw⟩=⟨bU,pl,bH,ba,ct,cw⟩:=az ab;rw [e] at fin;refine dS ?_;exact fin _ aH
  clear u0 Kf;generalize iq b ⟨bU,pl,bH,ba,ct,cw⟩=n at*;refine rl ?_;refine bP 32 (.agg (hI n)) I (aV.of_eq I) ?_;repeat (refine iG rfl rfl rfl rfl rfl rfl rfl rfl rfl rfl rfl ?_)
  refine dt I I I I I I I I I su I I dW I (by show (k+1)*88≤_∧_;omega) ?_ c4 ?_
  ·intro aI a7 aP bf;exact hZ aK 6 hI ahw sA n _ (Qj n) 0 aI a7 aP bf
  refine fm [some ⟨57,bS (sA++[n])⟩,some ⟨57,.box (hI n)⟩] (aM.eqv (hB aK 6 hI sA n _ (Qj n)) (aM.eqv (cC.refl _) aM.nil)) ?_;refine fX ?_;refine b0 ?_;refine fC [some ⟨57,bS (sA++[n])⟩] [some ⟨57,.box (hI n)⟩] [(1,.str b),(6,.aA 0 0 (k+1)),(11,.ro (bS t) 0 t.length),(12,ag t.length),(13,ag k)] I aH ic (by
   intro h o aj
   match h,aj with
   |0,aj=>cases aj;exact ahg _ _
   |_+1,aj=>simp at aj) rfl ?_
  refine bz ?_;exact ca ⟨k+1,J,J,aH,by rw [aay,kH]⟩
 ·have k4:k=t.length:=J;subst k4;rw [gb];have ly:(t.map (iq b)).length=t.length:=cL _;unfold e2 at ay;refine bt ?_;exact bd ay I ⟨I,I⟩
theorem acL (t:aT)(b:dI)(cc:kY t)(ak:b.length≤9223372036854775807)(hlen:t.length≤1000)(aJ: ∀i,i<t.length→(t.getD i aK).kind=0→pZ (fun x y=>x*y) (t.getD i aK).dC b=(cO (b4 (t.getD i aK).dC*b4 b),0)):
 bD Tryz.prog 24 [.ro (bS t) 0 t.length,.str b] (.cd [.ro (bS (e2 b t)) 0 (e2 b t).length,.bool true]):=by have au:(e2 b t).length=t.length:=cL ..;refine cg.value (K:=fun r H=>r= .cd [.aA 0 0 t.length,.bool true]∧H=[some ⟨57,bS (e2 b t)⟩]) (Uw t b cc ak hlen aJ) (fix:=fun _=>False) (fun _ h=>h) I ?_;rintro r H ⟨rfl,rfl⟩;exact ⟨by rw [au];rfl,⟨fun o aj=>by cases aj;show 0+t.length≤(e2 b t).length;omega,trivial,trivial⟩,fun h o aj=>vH (RC _) h o aj⟩
theorem alW (t:aT)(b:dI)(cc:kY t)(ak:b.length≤9223372036854775807)(hlen:t.length≤1000)(aJ: ∀i,i<t.length→(t.getD i aK).kind=0→pZ (fun x y=>x*y) (t.getD i aK).dC b=(cO (b4 (t.getD i aK).dC*b4 b),0)):
 za Tryz.prog 24 [.ro (bS t) 0 t.length,.str b] (fun N=> .cd [.aA N 0 t.length,.bool true]) ⟨57,bS (e2 b t)⟩:=by have au:(e2 b t).length=t.length:=cL ..;refine cg.fresh (K:=fun r H=>r= .cd [.aA 0 0 t.length,.bool true]∧H=[some ⟨57,bS (e2 b t)⟩]) (Uw t b cc ak hlen aJ) (fix:=fun _=>False) (fun _ h=>h) I (fun H=>⟨I,by simp [oe,na]⟩) ?_;rintro r H ⟨rfl,rfl⟩;exact ⟨⟨fun o aj=>by cases aj;show 0+t.length≤(e2 b t).length;omega,trivial,trivial⟩,fun h o aj=>vH (RC _) h o aj,0,rfl,fun n=>rfl⟩
end Go.Proofs.YtmpnheilfejcpaaGreatDoor
namespace Go.Proofs.YtmpnheilfejcpaaGreatDoor
open Go.ai Go.ai.c8 Go.ai.cz Go.RowKit Go.ai.kz Go.ai.eD
attribute [local irreducible] ai ek bV cg hb
theorem ajm (t:aT)(g:FuncId)(cB:List al)(q:cW→Bool)(av:cV.eR cB=true)(hlen:t.length≤9223372036854775807)(aJ: ∀n∈t,bD Tryz.prog g ([.agg (hI n)]++cB) (.bool (q n))):
 bD Tryz.prog 84 [.ro (bS t) 0 t.length,.fn g cB] (.bool (t.any q)):=by have ci:=Sm t g cB q av hlen aJ;refine cg.rn (hq (P:=Tryz.prog) (fn:=Tryz.f84) I I af I (fun c ay bK=> ?_)) (fix:=fun _=>False) (fun _ h=>h) (by simp [cV.eR,cV,av]) I;refine bN ?_;refine aZ I I I ci (fx ?_);refine bd ay I ?_;simp only [gK,DY]
def BL (n:cW):Bool:=decide (12<(n.dC.length:Int))||n.eH.any (fun s=>decide (12<(s.length:Int)))
theorem abV (s:dI)(ax:s.length≤9223372036854775807):bD Tryz.prog 87 [.str s] (.bool (decide (12<(s.length:Int)))):=by refine cm Tryz.f87 fun c ay bK=> ?_;refine bm ?_;exact bd ay I I
theorem abU (n:cW)(aF:BV n):bD Tryz.prog 85 [.agg (hI n)] (.bool (BL n)):=by
 obtain ⟨U,ab,aw,bg⟩:=aF;have bb:=S1 n.eH 87 [] (fun s=>decide (12<(s.length:Int))) rfl ab (fun s ax=>abV s (aw s ax));refine cm Tryz.f85 fun c ay bK=> ?_;obtain ⟨bU,pl,bH,ba,ct,cw⟩:=n;unfold BL at ay;unfold hI;simp only at*;refine bm ?_;refine gS I I (fun g1=> ?_) (fun g1=> ?_)
 ·rw [fv g1,Bool.true_or] at ay;refine bm ?_;exact bd ay I I
 ·rw [fq g1,zv] at ay;refine bt ?_;refine aZ I I I bb (dw ?_);exact bd ay I I
def Ef (t:aT):Bool:=decide ((t.length:Int)≤40) && !(t.any BL)
theorem ahs {t:aT}(h:Ef t=true):Go.ai.cz.Modest t:=by
 unfold Ef at h;rw [ei,eX,xP,r1] at h;obtain ⟨U,ab⟩:=h;refine ⟨J,fun n aF=> ?_,fun n aF r ad=> ?_⟩
 ·have:=ab n aF;unfold BL at this;rw [pn,Bool.or_eq_false_iff,zx] at this;omega
 ·have:=ab n aF;unfold BL at this;rw [pn,Bool.or_eq_false_iff,r1] at this;have:=this.2 r ad;rw [eX] at this;omega
theorem ajJ (t:aT)(cc:kY t):bD Tryz.prog 22 [.ro (bS t) 0 t.length] (.bool (Ef t)):=by
 have bb:=ajm t 85 [] BL rfl cc.len (fun n aF=>abU n (cc.node n aF));have hlen:=cc.len;refine cm Tryz.f22 fun c ay bK=> ?_;unfold Ef at ay;refine fx ?_;refine gS I I (fun g1=> ?_) (fun g1=> ?_)
 ·rw [fv g1,lO] at ay;refine dw ?_;refine aZ I I I bb (bt ?_);exact bd ay I I
 ·rw [fq g1,pq] at ay;refine bm ?_;exact bd ay I I
theorem seven {d:Nat}(h:d<7):d=0∨d=1∨d=2∨d=3∨d=4∨d=5∨d=6:=J
theorem Um:bD Tryz.prog 79 [] (.ro (bS kp) 0 7):=by
 refine cm Tryz.f79 fun c ay bK=> ?_;refine yu ?_;refine eA 0 (.ro (bS kp) 0 7) I (aV.adU I (fun d j hd ae=> ?_)) ?_
 ·have ae:j<6:=ae;have z6:j=0∨j=1∨j=2∨j=3∨j=4∨j=5:=J;rcases seven hd with rfl|rfl|rfl|rfl|rfl|rfl|rfl<;>rcases z6 with rfl|rfl|rfl|rfl|rfl|rfl<;>first|exact aV.Gs|exact aV.nil
 repeat (refine oX ?_)
 exact bd ay I I
end Go.Proofs.YtmpnheilfejcpaaGreatDoor
namespace Go.Proofs.YtmpnheilfejcpaaGreatDoor
open Go.ai Go.ai.c8 Go.ai.cz Go.RowKit
attribute [local irreducible] ai ek bV cg hb
open Go.ai.kz Go.ai.eD
theorem equalR (a b:List (List UInt8))(hlen:a.length≤9223372036854775807)(x9:b.length≤9223372036854775807):bD Tryz.prog 81 [.ro (.strs a) 0 a.length,.ro (.strs b) 0 b.length] (.bool (decide (a=b))):=by
 refine cm Tryz.f81 fun c ay bK=> ?_;refine bz ?_;refine bB I (fun h=> ?_) (fun h=> ?_)
 ·refine dw ?_;refine bd ay I ?_;have: ¬a=b:=by rintro rfl;exact h rfl
  simp [gK,this]
 have mT:a.length=b.length:=J;refine bz ?_;refine cJ (ι:=Nat) (fun k=>[(0,.ro (.strs a) 0 a.length),(1,.ro (.strs b) 0 b.length),(12,ag a.length),(13,ag k)]) (fun _=>[])
  (fun k=>k≤a.length∧a.take k=b.take k) (fun k=>a.length-k) 0 ⟨aH,rfl,cf _,rfl⟩ ?_
 intro k ⟨ao,heq⟩;refine bl ?_;refine bB I (fun ab=> ?_) (fun ab=> ?_)
 ·have b5:k<a.length:=J;have a1:=qq a [] k b5;have ak:=qq b [] k J;refine bI ?_;refine yG af af I (tv ?_);refine bB I (fun aw=> ?_) (fun aw=> ?_)
  ·refine bm ?_;refine bd ay I ?_;have: ¬a=b:=by rintro rfl;exact aw rfl
   simp [gK,this]
  ·refine bt ?_;have bg:a.getD k []=b.getD k []:=jV.1 aw;exact ca ⟨k+1,⟨J,by rw [a1,ak,heq,bg]⟩,J,aH,I⟩
 ·have b5:k=a.length:=J;subst b5;rw [gb,mT,gb] at heq;refine bt ?_;refine bd ay I ?_;simp [gK,heq]
end Go.Proofs.YtmpnheilfejcpaaGreatDoor
namespace Go.Proofs.YtmpnheilfejcpaaGreatDoor
open Go.ai Go.ai.c8 Go.ai.cz Go.RowKit Go.ai.dL Go.ai.cI Go.ai.lN Go.ai.eD
attribute [local irreducible] ai ek bV cg hb
theorem Vk:kY kp:=⟨a6,fun n aF=>by
 simp only [kp,fT,zB,mP] at aF;rcases aF with rfl|rfl|rfl|rfl|rfl|rfl|rfl<;>exact ⟨a6,a6,a6,a6⟩⟩
abbrev E6:List (List dI):=[[[48],[48],[48]],[[48],[45,49],[49]],[[48],[49],[45,49]]]
theorem agl:bD Tryz.prog 20 [] (.bool true):=by
 have eY:=akh kp Vk (fun h=>lj.of Tx (y3 h).v);rw [aeL] at eY;have eY:bD Tryz.prog 30 [.ro (bS kp) 0 7] (.cd [.ro (nx E6) 0 3,.int .i64 0]):=eY;have h8:=Mi kp 3 2 Vk (fun h=>lj.of Tx (y3 h).v) (fun _=>aeK);rw [aeJ] at h8;have h8:bD Tryz.prog 25 [.ro (bS kp) 0 7] (.cd [.agg [.str [48],.ro (fk [⟨0,[j9,j9]⟩]) 0 1,.ro (fk [⟨3,[j9,j9]⟩]) 0 1],.int .i64 0]):=h8;have f2:bD Tryz.prog 19 [.ro (.ints .i64 [0,0]) 0 2] (.bool true):=Ov [0,0] a6;have q8:=HA [] (show kY [] from ⟨a6,fun n aF=>(zB aF).elim⟩);rw [aeG] at q8;have WQ:bD Tryz.prog 23 [.nil] (.int .i64 8):=fun H=>cg.args (q8 H) ⟨aV.nil,trivial⟩;have WR:=aef E6 E6 a6 a6 a6 a6;have IT:bD Tryz.prog 81 [.ro (.strs [j9,j9]) 0 2,.ro (.strs [j9,j9]) 0 2] (.bool true):=equalR [j9,j9] [j9,j9] a6 a6;refine cm Tryz.f20 fun c ay bK=> ?_;refine bN ?_;refine aZ I I I Um ?_;skip
 refine aZ I I I eY (dw ?_);refine aZ I I I Um ?_;skip
 refine aZ I I I h8 (bl ?_);refine dP (c':= .box [.str [48],.ro (fk [⟨0,[j9,j9]⟩]) 0 1,.ro (fk [⟨3,[j9,j9]⟩]) 0 1]) I I I I I I I (bz ?_);refine aZ I I I f2 (dw ?_);refine aZ I I I WQ (bl ?_);refine bP 28 (.ro (nx E6) 0 3) I (aV.ro I (fun d j hd ae=> ?_)) ?_
 ·have jF:d=0∨d=1∨d=2:=J;have z6:j=0:=by have ae:j<1:=ae;omega
  subst z6;rcases jF with rfl|rfl|rfl<;>rfl
 refine aZ I I I WR ?_;rw [fv rfl];repeat (first|refine an (bL rfl) ?_|refine lf rfl rfl ?_|refine an (tE rfl rfl rfl rfl) ?_|refine an (jl rfl rfl rfl rfl rfl) ?_|refine an (ob rfl rfl) ?_|refine an (lF rfl rfl) ?_|refine an (gC rfl rfl rfl) ?_|refine an (j3 rfl rfl rfl rfl hH J) ?_|refine an (D4 rfl rfl) ?_|refine an (dh rfl rfl rfl rfl rfl rfl) ?_|refine an (oW rfl rfl rfl rfl rfl rfl) ?_|refine iG rfl rfl rfl rfl rfl rfl rfl rfl rfl rfl rfl ?_)
 refine aZ I I I IT (dw ?_);exact bd ay I I
theorem TL {q:Rat}(h:e3 q=true):(cO q).length≤9223372036854775807:=by have aN:=h;unfold e3 at aN;rw [ei,eX,eX] at aN;unfold cO;rw [c2,c2];split<;>split<;>simp<;>omega
theorem agx {t:aT}(cc:kY t)(ah:Valid t)(hm:cz.Modest t){b:dI}(ak:gv b=0)(xX:b.length≤12):kY (e2 b t):=by
 refine ⟨by unfold e2;rw [cL];exact cc.len,fun n aF=> ?_⟩;obtain ⟨i,aa,rfl⟩:=ln aF;have aP:i<t.length:=by unfold e2 at aa;rw [cL] at aa;exact aa
 have ax:=cc.node _ (dx aK aP);have e:(e2 b t)[i]=iq b (t.getD i aK):=by rw [←e9 aK aa];exact vw (.inr trivial) t aP
 rw [e];have hw:=yE b (t.getD i aK);refine ⟨by rw [hw.next];exact ax.next,by rw [hw.eH];exact ax.eH,by rw [hw.eH];exact ax.each,?_⟩;unfold iq;split
 ·rename_i aO;exact TL ((Qx ah hm ak xX aP aO).1.fit a6)
 ·exact ax.dC
def ami (P:aT)(i:Nat):aT:=(P.take i).map jt++P.drop i
theorem amj (P:aT)(i:Nat):(ami P i).length=P.length:=by unfold ami;rw [c2,cL,ff,uB];omega
theorem aml {P:aT}{i:Nat}(h:i<P.length):(ami P i).getD i aK=P.getD i aK:=by
 have au:((P.take i).map jt).length=i:=by rw [cL,ff];omega
 unfold ami;rw [uF,jA J,au,oD,List.getElem?_drop,eQ,←uF]
theorem amo {P:aT}{i:Nat}(h:i<P.length):(ami P i).set i (jt (P.getD i aK))=ami P (i+1):=by
 have au:((P.take i).map jt).length=i:=by rw [cL,ff];omega
 unfold ami;rw [zt _ _ J,au,oD,List.drop_eq_getElem_cons h,p6 h,hS,ll,e9 aK h];rfl
theorem amt {P:aT}{i:Nat}(h:i<P.length)(ao:(P.getD i aK).kind≠2):ami P (i+1)=ami P i:=by
 rw [←amo h];have e:jt (P.getD i aK)=(ami P i).getD i aK:=by rw [aml h];unfold jt;rw [az ao]
 rw [e,uF,mL (by rw [amj];exact h),oy,List.set_getElem_self]
theorem ams {P:aT}{i:Nat}(h:i<P.length)(ao:(P.getD i aK).kind=2):
 cC (.fn (ami P i).length 6 (fun aI a7=>bif Nat.beq aI i && Nat.beq a7 1 then .int .i64 (1-(P.getD i aK).eI) else (bS (ami P i)).at aI a7)) (bS (ami P (i+1))):=by
 refine ⟨?_,I,fun aI a7 aa ae=> ?_⟩
 ·show (ami P (i+1)).length=(ami P i).length;rw [amj,amj]
 ·have ae:a7<6:=ae;have au:=amj P i;show (hI ((ami P (i+1)).getD aI aK)).getD a7 .any=bif Nat.beq aI i && Nat.beq a7 1 then .int .i64 (1-(P.getD i aK).eI) else (hI ((ami P i).getD aI aK)).getD a7 .any;rw [←amo h,Go.ai.dL.fG];by_cases e:aI=i
  ·subst e;rw [aG ⟨rfl,J⟩,aml h,ou,lO];unfold jt;rw [aG ao];generalize P.getD aI aK=n
   match a7,ae with
   |0,_=>rfl
   |1,_=>rfl
   |2,_=>rfl
   |3,_=>rfl
   |4,_=>rfl
   |5,_=>rfl
  ·rw [az (fun q=>e q.1),db e];rfl
theorem amK {t:aT}(cc:kY t)(ah:Valid t)(hm:cz.Modest t):kY (lD t):=by
 have h:=agx cc ah hm C5.1 (show [45,49].length≤12 by decide);refine ⟨by unfold lD;rw [cL];exact h.len,fun n aF=> ?_⟩;obtain ⟨b3,aO,rfl⟩:=da.1 aF;have ax:=h.node _ aO;unfold jt;split
 ·exact ⟨ax.next,ax.eH,ax.each,ax.dC⟩
 ·exact ax
theorem amq (t:aT)(cc:t.length≤9223372036854775807∧ ∀n∈t,BV n):bD Tryz.prog 5 [.ro (bS t) 0 t.length] (.bool true):=by
 have dp:kY t:=⟨cc.1,cc.2⟩
 have eY:=ajJ t dp;have mR:=HA t dp;refine cm Tryz.f5 fun c ay bK=> ?_;refine bN ?_;refine aZ I I I agl (bt ?_);refine aZ I I I eY ?_;cases ZX:Ef t
 ·refine bm ?_;exact bd ay I I
 have hm:=ahs ZX;refine bt ?_;by_cases cR:kV t=0
 case neg=>
  refine aZ I I I mR (bz ?_);rw [fv (show¬kV t=0 from cR)];refine bt ?_;exact bd ay I I
 rw [cR] at mR;refine aZ I I I mR ?_;have aN:=y3 cR;have ah:=aN.v;have hlen:=hm.len;obtain ⟨K,L,ax⟩:=runs (dz t) (y5 t);obtain ⟨gm,hN,gA⟩:=runs (dz (lD t)) (y5 (lD t));obtain ⟨lB,mw,sC⟩:=amd cR (fun i aa _=>hm.dC _ (dx aK aa)) ax gA;have q9:=alW t [45,49] dp a6 J lB;have IT:=Mi t K L dp (fun h=>lj.of hm ah) (fun _=>ax);have WS:=Mi (lD t) gm hN (amK dp ah hm) (fun h=>amc ah hm) (fun _=>gA);have akV:(e2 [45,49] t).length=t.length:=cL ..;have nP: ∀i,i<t.length→((e2 [45,49] t).getD i aK).kind=2→((e2 [45,49] t).getD i aK).eI=0∨((e2 [45,49] t).getD i aK).eI=1:=fun i aa ao=>by rw [show (e2 [45,49] t).getD i aK=iq [45,49] (t.getD i aK) from vw (.inr trivial) t aa] at ao⊢;have hw:=yE [45,49] (t.getD i aK);rw [hw.kind] at ao;rw [hw.eI];exact amf ah aa ao
 have amn:ami (e2 [45,49] t) t.length=lD t:=by unfold ami;rw [←akV,gb,r7,kB];rfl
 have tk:ami (e2 [45,49] t) 0=e2 [45,49] t:=rfl;generalize e2 [45,49] t=P at*;refine bl ?_;refine nk I I I q9 ?_;rw [←tk];refine bz ?_;refine cJ (ι:=Nat) (fun i=>[(0,.ro (bS t) 0 t.length),(3,.aA 0 0 t.length),(4,.bool true),(28,ag t.length),(29,ag i)]) (fun i=>[some ⟨57,bS (ami P i)⟩]) (fun i=>i≤t.length) (fun i=>t.length-i) 0 ⟨aH,I,cf _⟩ ?_;intro i aa;refine bl ?_;refine bB I (fun h=> ?_) (fun h=> ?_)
 ·have aP:i<t.length:=J;have amk:i<P.length:=J;have ly:=amj P i;have cX:=aml amk;have aae:=nP i aP;have av:=fun ab=>ams amk ab;have amr:=fun ab=>amt amk ab;generalize amm:ami P (i+1)=M2 at*;generalize ami P i=M at*;refine K2 ?_;rw [show al.bool (decide ((M.getD i aK).kind=2))=al.bool (decide ((P.getD i aK).kind=2)) by rw [cX]];refine bB I (fun ab=> ?_) (fun ab=> ?_)
  ·have amL:=aae ab;have Zb:=av ab;refine K2 ?_;refine bP 44 (.int .i64 (P.getD i aK).eI) I (aV.of_eq (by rw [←cX];rfl)) ?_;generalize (P.getD i aK).eI=pl at*;repeat (first|refine cK ?_|refine ld ?_|refine an (qJ rfl rfl J) ?_|refine an (gk rfl rfl rfl rfl rfl hH J) ?_|refine an (dh rfl rfl rfl rfl rfl rfl) ?_|refine kN rfl rfl rfl rfl rfl rfl rfl (by first|assumption|(show _<List.length _;first|assumption|omega)) ?_)
   refine b0 ?_;refine nn [some ⟨57,bS M2⟩] (aM.eqv Zb aM.nil) (bz ?_);exact ca ⟨i+1,J,J,aH,by rw [amm]⟩
  ·have aB:=amr ab;refine bt ?_;exact ca ⟨i+1,J,J,aH,by rw [amm,aB]⟩
 have df:i=t.length:=J;subst df;rw [amn];have Al:(jw t K L).2=0→(jw t K L).1.1.length≤9223372036854775807:=fun aO=>by
  rcases DJ cR K L with h|⟨_,U,ab⟩
  ·rw [h] at aO;cases aO
  ·rw [U];exact TL ab
 have kk:(lD t).length=t.length:=ahc t;clear mR eY lB mw ax gA nP amn tk q9 akV;generalize lD t=u at*;generalize jw u gm hN=gJ at*;generalize jw t K L=gq at*;obtain ⟨⟨v1,hA,iA⟩,aD⟩:=gq;obtain ⟨⟨v2,ih,jb⟩,aE⟩:=gJ;simp only at sC Al;refine kv ?_;refine mx 0 3 t.length [(0,.ro (bS t) 0 t.length),(4,.bool true)] I (RC _) I (by show _≤u.length;omega) aH ?_;refine eA 3 (.ro (bS u) 0 u.length) I (aV.of_eq (by rw [kk])) (bN ?_);refine aZ I I I IT (bl ?_);refine dP (c':= .box [.str v1,.ro (fk hA) 0 hA.length,.ro (fk iA) 0 iA.length]) I I I I I I I (bN ?_);refine aZ I I I WS (bl ?_);refine dP (c':= .box [.str v2,.ro (fk ih) 0 ih.length,.ro (fk jb) 0 jb.length]) I I I I I I I ?_;refine c7 [none,some ⟨49,.box [.str v1,.ro (fk hA) 0 hA.length,.ro (fk iA) 0 iA.length]⟩,some ⟨49,.box [.str v2,.ro (fk ih) 0 ih.length,.ro (fk jb) 0 jb.length]⟩] I ?_;have f3:bD Tryz.prog 19 [.ro (.ints .i64 [0,0,0]) 0 3] (.bool true):=Ov [0,0,0] a6;by_cases ab:aD=2
 ·subst ab;refine bm ?_;exact bd ay I I
 by_cases aw:aE=2
 ·subst aw;refine bl ?_;rw [show decide (((v1,hA,iA),aD).2=2)=false from fq ab];refine bt ?_;exact bd ay I I
 rcases sC with q|q|⟨bO,bW,dq⟩
 ·exact absurd q ab
 ·exact absurd q aw
 subst bO;subst bW;have lu:=alZ v1 (Al rfl);rw [dq] at lu;refine bt ?_;refine aZ I I I lu (bz ?_);refine aZ I I I f3 (bm ?_);exact bd ay I (by show al.bool (decide (v2=v2))=_;rw [fv rfl])
end Go.Proofs.YtmpnheilfejcpaaGreatDoor
