import Derived.Test.YtmpnheilfejcpaaGreatDoorC7
set_option linter.unusedVariables false
set_option linter.unusedSimpArgs false
set_option maxRecDepth 100000
set_option maxHeartbeats 4000000
namespace Go.Proofs.YtmpnheilfejcpaaGreatDoor
open Go.ai Go.ai.c8 Go.ai.cz Go.RowKit Go.ai.dL Go.ai.cI Go.ai.lN Go.ai.eD
attribute [local irreducible] ai ek bV cg hb
theorem aex {t:aT}(ah:Valid t)(p:Int): ∀i,i<(cp t p).length→0≤((cp t p).getD i c3).before→((cp t p).getD i c3).info∈di t p∧((cp t p).getD i c3).before<(i:Int):=by
 intro i aa aO;rcases nD i with e|e
 ·subst e;rw [(sF ah p).2.1] at aO;exact absurd aO a6
 ·obtain ⟨x,b,wN,iA,jb,Gz,GA,GB,agd,Lh⟩:=Ir ah e aa;have ab:=Lh (i-x.2) J;rw [show x.2+(i-x.2)=i by omega] at ab;rw [ab];exact ⟨iA,by show ((b:Nat):Int)<(i:Int);omega⟩
theorem QO (c:qX)(j:Nat)(ae:j<2):(ft 1 2 [.int .i64 c.info,.ro (.strs c.eH) 0 c.eH.length]).at 0 j=(uJ c).getD j .any:=by
 match j,ae with
 |0,_=>rfl
 |1,_=>rfl
theorem Ry (c:qX)(j h:Nat)(ae:j<2):((uJ c).getD j .any).forget h=(uJ c).getD j .any:=by
 match j,ae with
 |0,_=>rfl
 |1,_=>rfl
theorem agA (s:rL):eV (fk s):=by
 intro i j _ ae;have ae:j<2:=ae
 match j,ae with
 |0,_=>rfl
 |1,_=>rfl
theorem GU (l:rL)(n:Nat):fy n (fk l):=by
 intro i j _ ae;have ae:j<2:=ae;show hc n ((uJ (l.getD i xR)).getD j .any)=true
 match j,ae with
 |0,_=>rfl
 |1,_=>rfl
theorem VJ (q:Rat):decide (0<j2 q.num)=decide (0<q):=by
 rw [s3,eX,eX];have U:0<j2 q.num↔0<q.num:=by
  unfold j2;split
  ·rename_i h;simp;omega
  ·split
   ·rename_i h;simp;omega
   ·rename_i U ab;simp;omega
 rw [U,Rat.lt_iff];show _↔(0:Int)*(q.den:Int)<q.num*1;omega
def vh (t:aT)(p:Int)(W:Nat→Rat):rL×Int:=if xf t p W=true then (rG t p W,0) else ([],2)
theorem afd (t:aT)(p:Int)(W:Nat→Rat):vh t p W=if (di t p).all (fun x=>(od t p W x).all e3)=true then ((di t p).map (fun x=>⟨x,(od t p W x).map cO⟩),0) else ([],2):=by unfold vh xf rG BH;rw [List.all_map,List.map_map];rfl
theorem Ty (t:aT)(p:Int)(P:List Rat)(K:Nat)(cc:kY t)(ah:Valid t)(dn:1≤K∧K≤400000)(pz: ∀q∈P,D K q)(akV:(cp t p).length≤P.length)(akW:P.length≤1000000):
 bD Tryz.prog 97 [.ro (bS t) 0 t.length,.int .i64 p,l8 t p,.ro (aQ P) 0 P.length] (.cd [.ro (fk (vh t p (fun k=>P.getD k 0)).1) 0 (vh t p (fun k=>P.getD k 0)).1.length,.int .i64 (vh t p (fun k=>P.getD k 0)).2]):=by
 refine cm Tryz.f97 fun c ay bK=> ?_;rw [afd] at ay;have q8:=VH t p cc.len;have Zp:=D7 ah p;have akP:(di t p).length≤10:=by unfold di;exact dT (xK _ _) bZ
 have cq: ∀k,k<(di t p).length→(tZ t p).getD k 0=((cD t p ((di t p).getD k 0):Nat):Int):=fun k ao=>by unfold tZ;rw [qA _ _ 0 _ _ ao]
 have aaX:(tZ t p).length=(di t p).length:=by unfold tZ;exact cL _
 have aaI: ∀x∈di t p,1≤cD t p x∧cD t p x≤6:=fun x ar=>by obtain ⟨s,b,g⟩:=y1 ah ar;exact ⟨g.lB,aga ah ar⟩
 have Y0: ∀x∈di t p,oc (cp t p) (fun k=>P.getD k 0) x (iQ (cD t p x) 0) (cp t p).length=od t p (fun k=>P.getD k 0) x:=fun x ar=>WB ah ar _;have ib:=aex ah p;have JB: ∀k,k<(cp t p).length→0≤((cp t p).getD k c3).before→0≤((cp t p).getD k c3).choice∧((cp t p).getD k c3).choice.toNat<cD t p ((cp t p).getD k c3).info:=fun k ao aO=>by
  obtain ⟨s,b,g⟩:=y1 ah (ib k ao aO).1;obtain ⟨g1,g2⟩:=TO ah g ao aO rfl;have g3:=g.cx (k-s) J;rw [show s+(k-s)=k by omega] at g3;have g4:((cp t p).getD k c3).choice=((k-s:Nat):Int):=by rw [g3]
  rw [g4];omega
 have Jl: ∀k,D K (P.getD k 0):=fun k=>by
  rcases ga k P.length with h|h
  ·exact pz _ (dx 0 h)
  ·rw [uF,jT h];exact (BI 0).mono dn.1
 have YX: ∀x∈di t p,(od t p (fun k=>P.getD k 0) x).length=cD t p x∧ ∀q∈od t p (fun k=>P.getD k 0) x,D (K+K) q:=fun x ar=>WC ah dn.1 Jl ar;have Y2:=fun k ao aO=>(ib k ao aO).2;unfold l8;clear cc ah ib;refine bN ?_;refine aZ I I I q8 ?_;repeat (first|refine an (bL rfl) ?_|refine an (dr rfl) ?_|refine cK ?_|refine b0 ?_|refine c6 ?_|refine c0 rfl ?_|refine an (nm rfl rfl) ?_|refine an (gC rfl rfl rfl) ?_)
 clear q8;have su:t.length=t.length:=rfl;generalize od t p (fun k=>P.getD k 0)=mQ at*;generalize YL:(fun k=>P.getD k 0)=W at*;have OP: ∀k,P.getD k 0=W k:=fun k=>by rw [←YL]
 generalize cD t p=wd at*;generalize di t p=b8 at*;generalize tZ t p=Z at*;generalize cp t p=bj at*;generalize kt t p=nV at*;generalize t.length=nX at*;refine kM 12 ⟨136,fk []⟩ I I ?_;repeat (refine fK ?_)
 refine cJ (ι:=Nat) (fun k=>[(2,.de (.box [.ro (gV bj) 0 bj.length,.ro (.ints .i64 nV) 0 nX]) 0 0),(3,.ro (aQ P) 0 P.length),(10,.ro (.ints .i64 b8) 0 b8.length),(11,.ro (.ints .i64 Z) 0 Z.length),(12,.aA 0 0 k),(26,.ro (.ints .i64 b8) 0 b8.length),(27,ag b8.length),(28,ag k)]) (fun k=>[some ⟨136,fk ((b8.take k).map (fun x=>⟨x,(mQ x).map cO⟩))⟩])
  (fun k=>k≤b8.length∧(b8.take k).all (fun x=>(mQ x).all e3)=true) (fun k=>b8.length-k) 0 ⟨aH,rfl,cf _,rfl⟩ ?_
 rintro k ⟨ao,th⟩;refine bl ?_;refine bB I (fun h=> ?_) (fun h=> ?_)
 ·have b5:k<b8.length:=J;have alA:k<Z.length:=J;have F4:b8.getD k 0∈b8:=dx 0 b5;have aav:=cq k b5;obtain ⟨F3,alL⟩:=aaI _ F4;have Y6:=Y0 _ F4;obtain ⟨Cv,YZ⟩:=YX _ F4;have mX:(b8.take (k+1)).map (fun x=>(⟨x,(mQ x).map cO⟩:qX))=(b8.take k).map (fun x=>⟨x,(mQ x).map cO⟩)++[⟨b8.getD k 0,(mQ (b8.getD k 0)).map cO⟩]:=by rw [p6 b5,hS,←e9 0 b5];rfl
  have Pk:(b8.take (k+1)).all (fun x=>(mQ x).all e3)=(mQ (b8.getD k 0)).all e3:=by rw [p6 b5,List.all_append,th,←e9 0 b5,lO];show ((mQ (b8.getD k 0)).all e3 && true)=_;rw [Bool.and_true]
  have ly:((b8.take k).map (fun x=>(⟨x,(mQ x).map cO⟩:qX))).length=k:=by rw [cL,ff];omega
  have Ju:(mQ (b8.getD k 0)).all e3=false→b8.all (fun x=>(mQ x).all e3)=false:=fun aN=>by
   cases aB:b8.all (fun x=>(mQ x).all e3)
   ·rfl
   ·rw [uy] at aB;have:=aB _ F4;rw [aN] at this;cases this
  generalize OO:(b8.take (k+1)).map (fun x=>(⟨x,(mQ x).map cO⟩:qX))=qV at*;generalize (b8.take k).map (fun x=>(⟨x,(mQ x).map cO⟩:qX))=O at*;refine bm ?_;generalize b8.getD k 0=x at*;generalize aaL:wd x=w at*;generalize mQ x=s8 at*;refine bP 36 (ag w) I (aV.of_eq (by rw [aav])) ?_;have Xk:=UW w J;have e6:(List.replicate w (0:Rat)).length=w:=fw ..;have aaC:(List.replicate w (0:Rat)).set 0 1=iQ w 0:=rfl;have O8:0<(aQ (List.replicate w 0)).len:=by show 0<(List.replicate w (0:Rat)).length;omega
  generalize List.replicate w (0:Rat)=A at*;refine nk I I I Xk (bN ?_);refine aZ I I I uc ?_;unfold cj;repeat (refine an (gk rfl rfl rfl rfl rfl hH J) ?_)
  refine er (c':=aQ (A.set 0 1)) I I I I I O8 (by show (List.set _ _ _).length=A.length;simp) I (fun aI a7 aP bf=>iN 0 3 cb A 0 1 O8 aI a7 aP bf) ?_;rw [aaC];repeat (first|refine an (bL rfl) ?_|refine cK ?_|refine b0 ?_|refine c6 ?_|refine c0 rfl ?_|refine fK ?_|refine an (gC rfl rfl rfl) ?_|refine an (pN rfl rfl rfl rfl) ?_|refine an (vl rfl) ?_|refine an (oW rfl rfl rfl rfl rfl rfl) ?_)
  refine ko [some ⟨136,fk O⟩,some ⟨118,aQ (oc bj W x (iQ w 0) 0)⟩] I ?_;refine cJ (ι:=Nat) (fun j=>[(2,.de (.box [.ro (gV bj) 0 bj.length,.ro (.ints .i64 nV) 0 nX]) 0 0),(3,.ro (aQ P) 0 P.length),(10,.ro (.ints .i64 b8) 0 b8.length),(11,.ro (.ints .i64 Z) 0 Z.length),(12,.aA 0 0 k),(26,.ro (.ints .i64 b8) 0 b8.length),(27,ag b8.length),(28,ag k),(14,.int .i64 x),(15,.aA 1 0 w),(44,.ro (gV bj) 0 bj.length),(45,ag bj.length),(46,ag j)]) (fun j=>[some ⟨136,fk O⟩,some ⟨118,aQ (oc bj W x (iQ w 0) j)⟩])
   (fun j=>j≤bj.length) (fun j=>bj.length-j) 0 ⟨aH,rfl,cf _⟩ ?_
  intro j ae;refine bl ?_;refine bB I (fun dm=> ?_) (fun dm=> ?_)
  ·have bf:j<bj.length:=J;have eO:=aff (bj:=bj) (W:=W) (x:=x) (k:=j) (o:=oc bj W x (iQ w 0) j);have F5:=fun b fF=>ajj (bj:=bj) (W:=W) (x:=x) (k:=j) (b:=b) (c:=fF) (o:=oc bj W x (iQ w 0) j);have dH:oc bj W x (iQ w 0) (j+1)=ze bj W x j (oc bj W x (iQ w 0) j):=rfl;have Y5:=DS bj W x (iQ w 0) j;rw [(AY (c:=0) J).1] at Y5;have Zc:=JB j bf;have Y3:=Y2 j bf;rw [←dH] at eO F5;clear dH;generalize tb:oc bj W x (iQ w 0) (j+1)=NH at*;generalize oc bj W x (iQ w 0) j=B at*;refine bm ?_;refine bP 50 (.agg (vF (bj.getD j c3))) I (aV.of_eq I) ?_;generalize bj.getD j c3=y at*;obtain ⟨bH,fF,uH⟩:=y;simp only at*;refine dP (c':= .box [.int .i64 bH,.int .i64 fF,.int .i64 uH]) I I I I I I I ?_;refine c7 [some ⟨136,fk O⟩,some ⟨118,aQ B⟩,some ⟨178,.box [.int .i64 bH,.int .i64 fF,.int .i64 uH]⟩] I (fx ?_);by_cases g1:0≤uH
   case neg=>
    rw [fq g1];have eO:=eO (fun q=>g1 q.1);repeat (first|refine an (bL rfl) ?_|refine cK ?_|refine sG rfl rfl rfl ?_|refine an (lF rfl rfl) ?_)
    refine b0 ?_;refine fX ?_;refine b0 ?_;refine fC [some ⟨136,fk O⟩,some ⟨118,aQ B⟩] [some ⟨178,.box [.int .i64 bH,.int .i64 fF,.int .i64 uH]⟩] [(2,.de (.box [.ro (gV bj) 0 bj.length,.ro (.ints .i64 nV) 0 nX]) 0 0),(3,.ro (aQ P) 0 P.length),(10,.ro (.ints .i64 b8) 0 b8.length),(11,.ro (.ints .i64 Z) 0 Z.length),(12,.aA 0 0 k),(26,.ro (.ints .i64 b8) 0 b8.length),(27,ag b8.length),(28,ag k),(14,.int .i64 x),(15,.aA 1 0 w),(44,.ro (gV bj) 0 bj.length),(45,ag bj.length),(46,ag j)] I aH ic (Em (GU _ _) (vt _ _)) I (bz ?_);exact ca ⟨j+1,J,J,aH,by rw [tb,eO]⟩
   rw [fv g1];refine bt ?_;by_cases g2:bH=x
   case neg=>
    rw [fq g2];have eO:=eO (fun q=>g2 q.2.1);repeat (first|refine cK ?_|refine sG rfl rfl rfl ?_|refine an (lF rfl rfl) ?_)
    refine b0 ?_;refine fX ?_;refine b0 ?_;refine fC [some ⟨136,fk O⟩,some ⟨118,aQ B⟩] [some ⟨178,.box [.int .i64 bH,.int .i64 fF,.int .i64 uH]⟩] [(2,.de (.box [.ro (gV bj) 0 bj.length,.ro (.ints .i64 nV) 0 nX]) 0 0),(3,.ro (aQ P) 0 P.length),(10,.ro (.ints .i64 b8) 0 b8.length),(11,.ro (.ints .i64 Z) 0 Z.length),(12,.aA 0 0 k),(26,.ro (.ints .i64 b8) 0 b8.length),(27,ag b8.length),(28,ag k),(14,.int .i64 x),(15,.aA 1 0 w),(44,.ro (gV bj) 0 bj.length),(45,ag bj.length),(46,ag j)] I aH ic (Em (GU _ _) (vt _ _)) I (bz ?_);exact ca ⟨j+1,J,J,aH,by rw [tb,eO]⟩
   subst g2;rw [fv rfl];obtain ⟨b,rfl⟩:=oo g1;have alg:b<bj.length:=by have:=Y3 g1;omega
   obtain ⟨Fl,Fm⟩:=Zc g1;obtain ⟨bb,rfl⟩:=oo Fl;rw [cA,aaL] at Fm;have YC:=OP j;have OQ:=OP b;have WT:=MY (P.getD b 0);have akI:j<P.length:=J;have akH:b<P.length:=J;refine bm ?_;refine aZ I I I WT (bm ?_);rw [VJ,OQ];by_cases g3:0<W b
   case neg=>
    rw [fq g3];have eO:=eO (fun q=>g3 q.2.2);refine fX ?_;refine b0 ?_;refine fC [some ⟨136,fk O⟩,some ⟨118,aQ B⟩] [some ⟨178,.box [.int .i64 bH,ag bb,ag b]⟩] [(2,.de (.box [.ro (gV bj) 0 bj.length,.ro (.ints .i64 nV) 0 nX]) 0 0),(3,.ro (aQ P) 0 P.length),(10,.ro (.ints .i64 b8) 0 b8.length),(11,.ro (.ints .i64 Z) 0 Z.length),(12,.aA 0 0 k),(26,.ro (.ints .i64 b8) 0 b8.length),(27,ag b8.length),(28,ag k),(14,.int .i64 bH),(15,.aA 1 0 w),(44,.ro (gV bj) 0 bj.length),(45,ag bj.length),(46,ag j)] I aH ic (Em (GU _ _) (vt _ _)) I (bz ?_);exact ca ⟨j+1,J,J,aH,by rw [tb,eO]⟩
   rw [fv g3];have F5:=F5 b bb rfl g3;have cdiv:bD Tryz.prog 133 [cj (P.getD j 0),cj (P.getD b 0)] (cj (W j/W b)):=by have Ok:=Jl j;have xS:=Jl b;rw [YC] at Ok⊢;rw [OQ] at xS⊢;exact adA (W j) (W b) (qS (Ok.mono J)) (qS (xS.mono J)) (fun e=>by rw [e] at g3;exact absurd g3 (by decide+kernel))
   have O9:bb<(aQ B).len:=by show bb<B.length;omega
   generalize W j/W b=v at*;repeat (refine qs rfl ?_)
   refine eN af ?_;refine fe (fuel:=1) [0,1,2,3,4,5,6,7,8,9,10,11,12,13] [(2,.de (.box [.ro (gV bj) 0 bj.length,.ro (.ints .i64 nV) 0 nX]) 0 0),(3,.ro (aQ P) 0 P.length),(10,.ro (.ints .i64 b8) 0 b8.length),(11,.ro (.ints .i64 Z) 0 Z.length),(12,.aA 0 0 k),(26,.ro (.ints .i64 b8) 0 b8.length),(27,ag b8.length),(28,ag k),(14,.int .i64 bH),(15,.aA 1 0 w),(44,.ro (gV bj) 0 bj.length),(45,ag bj.length),(46,ag j),(16,ag j),(17,.ptr 2 0 0)] aH af a6 I I ?_;refine dd ?_;refine en I I I I I cdiv ?_;refine dd ?_;refine fc ?_;refine bx 14 ?_;skip
   unfold cj;refine er (c':=aQ (B.set bb v)) I I I I I O9 (by show (List.set _ _ _).length=B.length;simp) I (fun aI a7 aP bf=>iN 0 3 cb B bb v O9 aI a7 aP bf) (bI ?_);refine eM af ?_;repeat (refine ld ?_)
   refine b0 ?_;refine fC [some ⟨136,fk O⟩,some ⟨118,aQ (B.set bb v)⟩] [some ⟨178,.box [.int .i64 bH,ag bb,ag b]⟩] [(2,.de (.box [.ro (gV bj) 0 bj.length,.ro (.ints .i64 nV) 0 nX]) 0 0),(3,.ro (aQ P) 0 P.length),(10,.ro (.ints .i64 b8) 0 b8.length),(11,.ro (.ints .i64 Z) 0 Z.length),(12,.aA 0 0 k),(26,.ro (.ints .i64 b8) 0 b8.length),(27,ag b8.length),(28,ag k),(14,.int .i64 bH),(15,.aA 1 0 w),(44,.ro (gV bj) 0 bj.length),(45,ag bj.length),(46,ag j)] I aH ic (Em (GU _ _) (vt _ _)) I (bz ?_);exact ca ⟨j+1,J,J,aH,by rw [tb,F5]⟩
  ·have gI:j=bj.length:=J;subst gI;rw [Y6];have YY: ∀q∈s8,fu 100000 q:=fun q aB=>qS ((YZ q aB).mono J);have Y7:s8.length=w:=J;obtain ⟨r,co,ad⟩:=ajR s8 J YY;unfold vC at co ad;refine kv ?_;refine mx 1 15 w [(2,.de (.box [.ro (gV bj) 0 bj.length,.ro (.ints .i64 nV) 0 nX]) 0 0),(3,.ro (aQ P) 0 P.length),(10,.ro (.ints .i64 b8) 0 b8.length),(11,.ro (.ints .i64 Z) 0 Z.length),(12,.aA 0 0 k),(26,.ro (.ints .i64 b8) 0 b8.length),(27,ag b8.length),(28,ag k),(14,.int .i64 x)] I (n1 _) I (by show w≤s8.length;omega) aH ?_;refine eA 15 (.ro (aQ s8) 0 s8.length) I (aV.of_eq (by rw [Y7])) ?_;cases aN:s8.all e3 with
   |false=>
    rw [aN,az a6] at co;rw [az (by rw [Ju aN];decide)] at ay;refine bN ?_;refine aZ I I I co (tv ?_);refine eA 8 (.ro (fk []) 0 0) I aV.nil (bm ?_);exact bd ay I I
   |true=>
    rw [aN,aG rfl] at co ad;have ad:aV r (.ro (.strs (s8.map cO)) 0 (s8.map cO).length):=ad;rw [aN] at Pk;generalize s8.map cO=T at*;refine bN ?_;refine aZ I I I co ?_;refine kv ?_;refine eA 18 (.ro (.strs T) 0 T.length) I ad ?_;repeat (first|refine an (bL rfl) ?_|refine cK ?_|refine b0 ?_|refine c0 rfl ?_|refine ni rfl ?_|refine iB ?_|refine an (sN rfl rfl) ?_|refine an (iD rfl rfl rfl rfl rfl rfl) ?_|refine iG rfl rfl rfl rfl rfl rfl rfl rfl rfl rfl rfl ?_)
    refine dt I I I I I I I I I ly I I dW I (by show (k+1)*32≤_∧_;omega) ?_ c4 ?_
    ·intro aI j aa ae;exact hZ xR 2 uJ Ry O ⟨x,T⟩ _ (QO ⟨x,T⟩) 0 aI j aa ae
    refine fX ?_;refine b0 ?_;refine nn ([some ⟨136,fk qV⟩]++[none]) ?_ ?_
    ·rw [mX];exact aM.eqv (hB xR 2 uJ O ⟨x,T⟩ _ (QO ⟨x,T⟩)) (aM.drop aM.nil)
    refine Bq (H1:=[some ⟨136,fk qV⟩]) I c4 ?_;refine nn [some ⟨136,fk qV⟩] ?_ ?_
    ·exact aM.eqv ⟨I,I,fun i j _ ae=>(Ry _ j _ ae).symm⟩ aM.nil
    refine bz ?_;exact ca ⟨k+1,⟨J,Pk⟩,J,aH,by rw [OO]⟩
 ·have k4:k=b8.length:=J;subst k4;rw [gb] at th;rw [gb];rw [aG th] at ay;have OR:(b8.map (fun x=>(⟨x,(mQ x).map cO⟩:qX))).length=b8.length:=cL _;generalize b8.map (fun x=>(⟨x,(mQ x).map cO⟩:qX))=R at*;refine kv ?_;refine mx 0 12 b8.length [] I (agA _) I (by show _≤R.length;omega) trivial ?_;refine eA 12 (.ro (fk R) 0 R.length) I (aV.of_eq (by rw [OR])) (bN ?_);exact bd ay I I
theorem Su {P:Program}{f:FuncId}{args:List al}{b7:aX}{o k w:Nat}{t1:TypeId}{hd:Nat→Nat}{G F:Nat→Nat→al}{g:Nat→Cells}(av:cg P f args [] (fun _=>False) (fun r H=>r= .aA o 0 k∧H=b7))(aF:cV.eR args=true)(aO:b7[o]? =some (some ⟨t1,.fn k 1 G⟩))(dB: ∀i,i<k→G i 0= .aA (hd i) 0 w)(ad: ∀i,i<k→hd i≠o∧w≤(g i).len∧ ∃t2,b7[hd i]? =some (some ⟨t2,g i⟩))(au: ∀h bc,h≠o→b7[h]? =some (some bc)→eV bc.c)(ki: ∀i,i<k→F i 0= .ro (g i) 0 w):
 bD P f args (.ro (.fn k 1 F) 0 k):=by
 have aj:o<b7.length:=(gL.1 aO).1;have aD:((List.replicate b7.length (none:Option bk)).set o (some ⟨t1,.fn k 1 F⟩))[o]? =some (some ⟨t1,.fn k 1 F⟩):=nB (by rw [fw];exact aj);have aE: ∀h bc,((List.replicate b7.length (none:Option bk)).set o (some ⟨t1,.fn k 1 F⟩))[h]? =some (some bc)→h=o∧bc=⟨t1,.fn k 1 F⟩:=by
  intro h bc aU;by_cases q:h=o
  ·subst q;rw [aD] at aU;cases aU;exact ⟨rfl,rfl⟩
  ·rw [k0 (fun e=>q e.symm),s4] at aU;split at aU<;>cases aU
 have bM: ∀h bc,(b7.set o none)[h]? =some (some bc)→h≠o∧b7[h]? =some (some bc):=by
  intro h bc aU;by_cases q:h=o
  ·subst q;rw [nB aj] at aU;cases aU
  ·rw [k0 (fun e=>q e.symm)] at aU;exact ⟨q,aU⟩
 refine cg.value (K:=fun r H=>r= .aA o 0 k∧H=(List.replicate b7.length none).set o (some ⟨t1,.fn k 1 F⟩)) (cg.Oy av ?_) (fix:=fun _=>False) (fun _ h=>h) aF ?_
 ·rintro cH H ⟨rfl,rfl⟩;refine ⟨H.set o none,_,_,⟨fun h bc aU=>(bM h bc aU).2,fun h bc aU=>au h bc (bM h bc aU).1 (bM h bc aU).2,by rw [dj,fw],fun h bc aU=> ?_,.inl I⟩,I,I⟩;obtain ⟨rfl,rfl⟩:=aE h bc aU;refine ⟨fun bc ak=>(bM _ bc ak).1 I,_,aO,I,I,I,fun i j aa ae=> ?_⟩;have aa:i<k:=aa;obtain rfl:=e5.1 (show j<1 from ae);obtain ⟨g1,g2,t2,g3⟩:=ad i aa;have g4:(H.set h none)[hd i]? =some (some ⟨t2,g i⟩):=by rw [k0 (fun e=>g1 e.symm)];exact g3
  show uq _ (G i 0) (F i 0);rw [dB i aa,ki i aa];refine .inr (.inr ⟨?_,fun bc ak=> ?_⟩)
  ·simp only [al.kh,g4]
  ·rw [g4] at ak;cases ak;show 0+w≤(g i).len;omega
 ·rintro r H ⟨rfl,rfl⟩;refine ⟨?_,fun bc ak=> ?_,fun h bc aU=> ?_⟩
  ·simp only [al.kh,aD]
  ·rw [aD] at ak;cases ak;show 0+k≤k;omega
  ·obtain ⟨rfl,rfl⟩:=aE h bc aU;intro i j aa ae;have aa:i<k:=aa;obtain rfl:=e5.1 (show j<1 from ae);show cV (F i 0)=true;rw [ki i aa];rfl
abbrev WV (r:List Int):List al:=[.ro (.ints .i64 r) 0 r.length]
abbrev fH (R:List (List Int)):Cells:=fl [] 1 WV R
def si:Nat→Nat
 |0=>0
 |k+1=>k+3
abbrev sW (n k:Nat):Cells:= .fn k 1 (fun i _=> .aA (si i) 0 n)
abbrev eW (n:Nat)(cH:List Int)(F:List (Int×Nat))(R:List (List Int))(T:aX):aX:=
 some ⟨3,.ints .i64 cH⟩::some ⟨55,sW n (R.length+1)⟩::some ⟨185,lh F⟩::(fO 3 (fun r:List Int=>Cells.ints .i64 r) R++T)
section
variable {n k:Nat}{cH:List Int}{F:List (Int×Nat)}{R:List (List Int)}{T:aX}
theorem tJ:(eW n cH F R T).length=R.length+3+T.length:=by show (fO _ _ R++T).length+1+1+1=_;rw [c2,tM];omega
theorem L2 (h:k<R.length):(eW n cH F R T)[k+3]? =some (some ⟨3,.ints .i64 (R.getD k [])⟩):=by show (fO _ _ R++T)[k]? =_;rw [TZ (by rw [tM];exact h),S6 _ _ R [] h]
theorem A1 {j:Nat}:(eW n cH F R T)[R.length+3+j]? =T[j]? :=by rw [show R.length+3+j=(R.length+j)+3 by omega];show (fO _ _ R++T)[R.length+j]? =_;exact sK (by rw [tM])
theorem SX (x:List Int)(h:k<R.length):(eW n cH F R T).set (k+3) (some ⟨3,.ints .i64 x⟩)=eW n cH F (R.set k x) T:=by show _::_::_::((fO _ _ R++T).set k _)=_;rw [Tw _ (by rw [tM];exact h),S7];show _::some (⟨_,sW n (R.length+1)⟩:bk)::_=_::some ⟨_,sW n ((R.set k x).length+1)⟩::_;rw [dj]
theorem GN {j:Nat}(x:Option bk):(eW n cH F R T).set (R.length+3+j) x=eW n cH F R (T.set j x):=by rw [show R.length+3+j=(R.length+j)+3 by omega];show _::_::_::((fO _ _ R++T).set (R.length+j) x)=_;rw [oY x (by rw [tM])]
theorem A0 (M:aX):eW n cH F R T++M=eW n cH F R (T++M):=by show _::_::_::((fO _ _ R++T)++M)=_;rw [ll]
theorem agT (h:Nat)(aU:R.length+3≤h):aM (cQ h (eW n cH F R T)) (eW n cH F R (cQ h T)):=by
 have e:cQ h (eW n cH F R T)=some ⟨3,.ints .i64 cH⟩::some ⟨55,(sW n (R.length+1)).forget h⟩::some ⟨185,(lh F).forget h⟩::(fO 3 (fun r:List Int=>Cells.ints .i64 r) R++cQ h T):=by show some (⟨_,_⟩:bk)::some (⟨_,_⟩:bk)::some (⟨_,_⟩:bk)::cQ h (fO _ _ R++T)=_;rw [vo,GW h (fun _=>rfl)];rfl
 rw [e];refine aM.same (aM.eqv ⟨I,I,fun i j aa ae=> ?_⟩ (aM.eqv (LH F h) (aM.refl _)));obtain rfl:=e5.1 (show j<1 from ae);have aa:i<R.length+1:=aa;show al.aA (si i) 0 n=al.forget h (al.aA (si i) 0 n);have:si i≠h:=by
  cases i with
  |zero=>show 0≠h;omega
  |succ k=>show k+3≠h;omega
 unfold al.forget;rw [db this];rfl
theorem ahj {x:List Int}{y:Option bk}{c':Cells}(av:cC c' (sW n (R.length+1+1))):aM ((cQ 1 (eW n cH F R [some ⟨3,.ints .i64 x⟩,y])).set 1 (some ⟨55,c'⟩)) (eW n cH F (R++[x]) [none]):=by
 have e:cQ 1 (eW n cH F R [some ⟨3,.ints .i64 x⟩,y])=some ⟨3,.ints .i64 cH⟩::some ⟨55,(sW n (R.length+1)).forget 1⟩::some ⟨185,(lh F).forget 1⟩::(fO 3 (fun r:List Int=>Cells.ints .i64 r) R++[some ⟨3,.ints .i64 x⟩,iC 1 y]):=by show some (⟨_,_⟩:bk)::some (⟨_,_⟩:bk)::some (⟨_,_⟩:bk)::cQ 1 (fO _ _ R++_)=_;rw [vo,GW 1 (fun _=>rfl)];rfl
 rw [e];have aE:eW n cH F (R++[x]) [none]=some ⟨3,.ints .i64 cH⟩::some ⟨55,sW n (R.length+1+1)⟩::some ⟨185,lh F⟩::(fO 3 (fun r:List Int=>Cells.ints .i64 r) R++[some ⟨3,.ints .i64 x⟩,none]):=by show _::some (⟨_,sW n ((R++[x]).length+1)⟩:bk)::_::(fO _ _ (R++[x])++[none])=_;rw [c2,←Sn,ll];rfl
 rw [aE];exact aM.same (aM.eqv av (aM.eqv (LH F 1) (aM.append (aM.refl _) (aM.same (aM.drop aM.nil)))))
theorem ahU {q:bk}{x:List Int}:aM (wE (eW n cH F R [some q,some ⟨3,.ints .i64 x⟩]) (R.length+3) (R.length+4) ⟨3,.ints .i64 x⟩) (eW n cH F R [some ⟨3,.ints .i64 x⟩,none]):=by unfold wE;have U:=agT (n:=n) (cH:=cH) (F:=F) (R:=R) (T:=[some q,some ⟨3,.ints .i64 x⟩]) (R.length+3) (bR _);have ab:=aM.set (aM.set U (R.length+3) (x:=some ⟨3,.ints .i64 x⟩) (x':=some ⟨3,.ints .i64 x⟩) (fun o aj=>by cases aj;exact ⟨_,rfl,rfl,cC.refl _⟩)) (R.length+4) (x:=none) (x':=none) (fun o aj=>by cases aj);have aD:=GN (n:=n) (cH:=cH) (F:=F) (R:=R) (T:=cQ (R.length+3) [some q,some ⟨3,.ints .i64 x⟩]) (j:=0) (some ⟨3,.ints .i64 x⟩);have aD:(eW n cH F R (cQ (R.length+3) [some q,some ⟨3,.ints .i64 x⟩])).set (R.length+3) (some ⟨3,.ints .i64 x⟩)=eW n cH F R [some ⟨3,.ints .i64 x⟩,some ⟨3,.ints .i64 x⟩]:=aD;rw [aD] at ab;have aE:=GN (n:=n) (cH:=cH) (F:=F) (R:=R) (T:=[some ⟨3,.ints .i64 x⟩,some ⟨3,.ints .i64 x⟩]) (j:=1) none;have aE:(eW n cH F R [some ⟨3,.ints .i64 x⟩,some ⟨3,.ints .i64 x⟩]).set (R.length+4) none=eW n cH F R [some ⟨3,.ints .i64 x⟩,none]:=aE;rw [aE] at ab;exact ab
theorem Ly (m:Nat)(hm:R.length+3≤m)(cc: ∀o:bk,some o∈T→fy m o.c): ∀(h:Nat) (o:bk),(eW n cH F R T)[h]? =some (some o)→fy m o.c:=by
 intro h o aj;have ej:=oA aj;unfold eW at ej;rw [fT,fT,fT,gz] at ej;rcases ej with e|e|e|ej|ej
 ·cases e;intro i j _ ae;rfl
 ·cases e;intro i j aa ae;obtain rfl:=e5.1 (show j<1 from ae);have aa:i<R.length+1:=aa;show hc m (al.aA (si i) 0 n)=true;refine p5 ?_;cases i with
  |zero=>show 0+1≤m;omega
  |succ k=>show k+3+1≤m;omega
 ·cases e;exact AZ F m
 ·obtain ⟨a,_,e⟩:=da.1 ej;cases e;intro i j _ ae;rfl
 ·exact cc o ej
end
theorem Th (n k:Nat)(ea:Cells)(aO:ea.at 0 0= .aA (k+3) 0 n):cC (.fn (k+1+1) 1 (fun i j=>bif Nat.blt i (k+1) then (sW n (k+1)).at i j else ea.at (0+(i-(k+1))) j)) (sW n (k+1+1)):=by
 refine ⟨I,I,fun i j aa ae=> ?_⟩;obtain rfl:=e5.1 (show j<1 from ae);have aa:i<k+1+1:=aa;show al.aA (si i) 0 n=bif Nat.blt i (k+1) then al.aA (si i) 0 n else ea.at (0+(i-(k+1))) 0;by_cases e:i<k+1
 ·rw [show Nat.blt i (k+1)=true from p5 e];rfl
 ·have aE:i=k+1:=J;subst aE;rw [show Nat.blt (k+1) (k+1)=false by
   cases h:Nat.blt (k+1) (k+1) with
   |false=>rfl
   |true=>exact absurd (ir h) (Nat.not_succ_le_self _)]
  rw [oD,eQ];exact aO.symm
theorem ahW (bj:List fa)(nV:List Int)(nX:Nat)(U:1≤bj.length)(ab:bj.length≤1000)(ak: ∀k,1≤k→k<bj.length→0≤(bj.getD k c3).before∧(bj.getD k c3).before.toNat<bj.length):
 cg Tryz.prog 95 [.de (.box [.ro (gV bj) 0 bj.length,.ro (.ints .i64 nV) 0 nX]) 0 0] [] (fun _=>False) (fun r H=>r= .aA 1 0 ((kO bj (bj.length-1)).rows.tail.length+1)∧H=eW bj.length (eo bj.length) (kO bj (bj.length-1)).fst (kO bj (bj.length-1)).rows.tail []):=by
 refine hq (P:=Tryz.prog) (fn:=Tryz.f95) I I af I (fun c ay bK=> ?_);repeat (first|refine an (bL rfl) ?_|refine an (dr rfl) ?_|refine cK ?_|refine b0 ?_|refine c6 ?_|refine c0 rfl ?_|refine an (gC rfl rfl rfl) ?_|refine an (pN rfl rfl rfl rfl) ?_|refine an (vl rfl) ?_|refine an (oW rfl rfl rfl rfl rfl rfl) ?_)
 refine l6 I I I I I I I I (by show 0≤_∧_≤_∧(8:Int)*_≤_∧_;omega) ?_;refine c7 [some ⟨3,.ints .i64 (List.replicate bj.length 0)⟩] I ?_;have FR:(List.replicate bj.length (0:Int)).length=bj.length:=fw ..;refine cM ?_;refine c7 [some ⟨3,.ints .i64 (eo bj.length)⟩] I ?_;refine tF I I I I I I I I I I (bN ?_);refine G6 ?_;refine fm (eW bj.length (eo bj.length) [] [] []) (aM.same (aM.eqv ⟨I,I,fun i j aa ae=> ?_⟩ (aM.eqv (cC.refl _) aM.nil))) ?_
 ·obtain rfl:=e5.1 (show i<1 from aa);obtain rfl:=e5.1 (show j<1 from ae);rfl
 obtain ⟨m,hm⟩: ∃m,bj.length=m+1:=⟨bj.length-1,J⟩
 have J4:bj.length-1=m:=J;have FK:((bj.length:Int)-1).toNat=m:=J;rw [J4] at ay;repeat (first|refine an (bL rfl) ?_|refine an (dr rfl) ?_|refine cK ?_|refine b0 ?_|refine c6 ?_|refine c0 rfl ?_|refine fK ?_|refine an (gC rfl rfl rfl) ?_|refine an (LL rfl rfl rfl rfl rfl rfl rfl J) ?_|refine an (pN rfl rfl rfl rfl) ?_|refine an (vl rfl) ?_|refine an (oW rfl rfl rfl rfl rfl rfl) ?_)
 refine eA 26 (.ro (gV bj) 1 m) I (aV.of_eq (by rw [FK];rfl)) ?_;refine eA 27 (ag m) I (aV.of_eq (by rw [FK])) ?_;refine cJ (ι:=Nat) (fun i=>[(0,.de (.box [.ro (gV bj) 0 bj.length,.ro (.ints .i64 nV) 0 nX]) 0 0),(4,.aA 1 0 ((kO bj i).rows.tail.length+1)),(5,.mp 2),(26,.ro (gV bj) 1 m),(27,ag m),(28,ag i)]) (fun i=>eW bj.length (eo bj.length) (kO bj i).fst (kO bj i).rows.tail [])
  (fun i=>i≤m∧vO bj.length (eo bj.length) (kO bj i)∧(kO bj i).rows.tail.length≤i) (fun i=>m-i) 0 ⟨aH,rfl,cf _,RS bj,bR _⟩ ?_
 rintro i ⟨aa,lx,YD⟩;refine bl ?_;refine bB I (fun h=> ?_) (fun h=> ?_)
 ·have aP:i+1<bj.length:=J;have ax:=RR aP;have O5:=ak (i+1) J aP;have wh:=fun k=>S2 (i:=i) (k:=k) (q:=bj.getD (i+1) c3) lx;have uZ:=R1 (i:=i) (q:=bj.getD (i+1) c3) lx;have Pn:=lx.fst;have hlen:=lx.len;rw [←ax] at wh uZ;clear ax lx;generalize ml:kO bj (i+1)=e4 at*;generalize kO bj i=S at*;obtain ⟨rows,F⟩:=S;simp only at wh uZ Pn hlen YD⊢;generalize rows.tail=R at*;clear rows;have I2:(eW bj.length (eo bj.length) F R []).length=R.length+3:=tJ;refine bm ?_;refine bP 7 (.ptr (R.length+3) 0 0) I (aV.of_eq (by rw [I2])) ?_;refine bP 32 (.agg (vF (bj.getD (i+1) c3))) I (aV.of_eq (by rw [oE 1 i];rfl)) ?_;generalize bj.getD (i+1) c3=y at*;obtain ⟨bH,fF,uH⟩:=y;simp only at wh uZ O5⊢;obtain ⟨sj,sk⟩:=O5;obtain ⟨b,rfl⟩:=oo sj;rw [cA] at sk uZ;refine c7 (eW bj.length (eo bj.length) F R [some ⟨178,.box [.int .i64 0,.int .i64 0,.int .i64 0]⟩]) (by rw [A0];rfl) ?_;have f0:(eW bj.length (eo bj.length) F R [some ⟨178,.box [.int .i64 0,.int .i64 0,.int .i64 0]⟩])[R.length+3]? =some (some ⟨178,.box [.int .i64 0,.int .i64 0,.int .i64 0]⟩):=A1 (j:=0);refine er (c':= .box [.int .i64 bH,.int .i64 fF,ag b]) I I I f0 I fp I I (fun aI a7 aP bf=> ?_) ?_
  ·rw [aG (e5.1 aP)];rfl
  refine c7 (eW bj.length (eo bj.length) F R [some ⟨178,.box [.int .i64 bH,.int .i64 fF,ag b]⟩]) (GN (j:=0) _) ?_;have f1:(eW bj.length (eo bj.length) F R [some ⟨178,.box [.int .i64 bH,.int .i64 fF,ag b]⟩])[R.length+3]? =some (some ⟨178,.box [.int .i64 bH,.int .i64 fF,ag b]⟩):=A1 (j:=0);clear f0;refine cM ?_;cases cv:gE F bH with
  |some k=>
   obtain ⟨j,rfl,ae,aD,aE,bM⟩:=wh k cv;obtain ⟨wD,i1,i2⟩:=wY cv;have g1:=L2 (n:=bj.length) (cH:=eo bj.length) (F:=F) (T:=[some ⟨178,.box [.int .i64 bH,.int .i64 fF,ag b]⟩]) ae;have g2:=hlen _ (dx [] ae);refine an (AQ I (.int I) I I I I (sR F) wD i1 i2) ?_;repeat (first|refine an (bL rfl) ?_|refine an (dr rfl) ?_|refine cK ?_|refine b0 ?_|refine c6 ?_|refine c0 rfl ?_|refine ni rfl ?_|refine iB ?_|refine an (uj rfl) ?_|refine an (nm rfl rfl) ?_|refine an (hl rfl rfl J) ?_|refine an (gk rfl rfl rfl rfl rfl hH J) ?_|refine an (AO rfl rfl rfl rfl rfl mq) ?_|refine an (lA rfl rfl rfl) ?_)
   refine bP 68 (.ptr (j+3) (i+1) 0) I (aV.of_eq I) ?_;refine kN I I I I g1 I I (by show i+1<(R.getD j []).length;omega) ?_;refine c7 (eW bj.length (eo bj.length) F (R.set j ((R.getD j []).set (i+1) 1)) [some ⟨178,.box [.int .i64 bH,.int .i64 fF,ag b]⟩]) (SX _ ae) ?_;refine fX ?_;refine b0 ?_;refine fC (eW bj.length (eo bj.length) F (R.set j ((R.getD j []).set (i+1) 1)) []) [some ⟨178,.box [.int .i64 bH,.int .i64 fF,ag b]⟩] [(0,.de (.box [.ro (gV bj) 0 bj.length,.ro (.ints .i64 nV) 0 nX]) 0 0),(4,.aA 1 0 (R.length+1)),(5,.mp 2),(26,.ro (gV bj) 1 m),(27,ag m),(28,ag i)] (by rw [A0];rfl) aH ic (Ly _ (by rw [tJ];exact bR _) (fun o aj=>(zB aj).elim)) (by rw [tJ];simp [l4,hc]) (bz ?_);exact ca ⟨i+1,⟨J,by rw [ml];exact bM,by rw [ml,aD,dj];omega⟩,J,⟨I,by rw [ml,aD,dj];rfl,I,I,I,I,trivial⟩,by rw [ml,aD,aE]⟩
  |none=>
   obtain ⟨aD,aE,bM⟩:=uZ cv;refine an (GK I (.int I) I I I I I I I I (sR F) (A4 cv)) ?_;repeat (first|refine an (bL rfl) ?_|refine an (dr rfl) ?_|refine cK ?_|refine b0 ?_|refine c6 ?_|refine c0 rfl ?_|refine qs rfl ?_|refine an (uj rfl) ?_|refine an (nm rfl rfl) ?_|refine an (gC rfl rfl rfl) ?_|refine an (dh rfl rfl rfl rfl rfl rfl) ?_|refine an (n0 rfl rfl rfl hv kl) ?_)
   refine GG I (.int I) I I I I I (sR F) (A4 cv) ?_;refine c7 (eW bj.length (eo bj.length) (F++[(bH,R.length+1)]) R [some ⟨178,.box [.int .i64 bH,.int .i64 fF,ag b]⟩]) (by unfold eW lh;rw [hS,hS];rfl) ?_;generalize Cr:F++[(bH,R.length+1)]=nz at*;clear f1 Pn wh uZ;have XH:(eW bj.length (eo bj.length) nz R [some ⟨178,.box [.int .i64 bH,.int .i64 fF,ag b]⟩]).length=R.length+4:=tJ;repeat (first|refine an (bL rfl) ?_|refine cK ?_|refine b0 ?_|refine c6 ?_|refine c0 rfl ?_|refine an (gC rfl rfl rfl) ?_|refine an (pN rfl rfl rfl rfl) ?_|refine an (vl rfl) ?_|refine an (oW rfl rfl rfl rfl rfl rfl) ?_)
   refine l6 I I I I I I I I (by show 0≤_∧_≤_∧(8:Int)*_≤_∧_;omega) ?_;refine c7 (eW bj.length (eo bj.length) nz R [some ⟨178,.box [.int .i64 bH,.int .i64 fF,ag b]⟩,some ⟨3,.ints .i64 (List.replicate bj.length 0)⟩]) (by rw [A0];rfl) ?_;refine bP 53 (.aA (R.length+4) 0 bj.length) I (aV.of_eq (by rw [XH];rfl)) ?_;have f1:(eW bj.length (eo bj.length) nz R [some ⟨178,.box [.int .i64 bH,.int .i64 fF,ag b]⟩,some ⟨3,.ints .i64 (List.replicate bj.length 0)⟩])[R.length+3]? =some (some ⟨178,.box [.int .i64 bH,.int .i64 fF,ag b]⟩):=A1 (j:=0);have f2:(eW bj.length (eo bj.length) nz R [some ⟨178,.box [.int .i64 bH,.int .i64 fF,ag b]⟩,some ⟨3,.ints .i64 (List.replicate bj.length 0)⟩])[R.length+4]? =some (some ⟨3,.ints .i64 (List.replicate bj.length 0)⟩):=A1 (j:=1);refine cM ?_;refine kN I I I I f2 I I (by show b<(List.replicate bj.length (0:Int)).length;omega) ?_;have mY:((List.replicate bj.length (0:Int)).set b (-1)).length=bj.length:=by rw [dj];exact FR
   refine c7 (eW bj.length (eo bj.length) nz R [some ⟨178,.box [.int .i64 bH,.int .i64 fF,ag b]⟩,some ⟨3,.ints .i64 ((List.replicate bj.length 0).set b (-1))⟩]) (GN (j:=1) _) ?_;generalize (List.replicate bj.length (0:Int)).set b (-1)=x at*;clear f1 f2;have f2:(eW bj.length (eo bj.length) nz R [some ⟨178,.box [.int .i64 bH,.int .i64 fF,ag b]⟩,some ⟨3,.ints .i64 x⟩])[R.length+4]? =some (some ⟨3,.ints .i64 x⟩):=A1 (j:=1);refine kv ?_;refine M8 (R.length+3) (R.length+4) 10 bj.length J (by rw [tJ];show R.length+3<R.length+3+2;omega) f2 c4 I ?_;refine M7 ((10,.aA (R.length+3) 0 bj.length)::[(0,.de (.box [.ro (gV bj) 0 bj.length,.ro (.ints .i64 nV) 0 nX]) 0 0),(4,.aA 1 0 (R.length+1)),(5,.mp 2),(26,.ro (gV bj) 1 m),(27,ag m),(28,ag i),(6,ag i),(8,.int .i64 ((R.length+1:Nat)))]) ⟨I,pM (h:=R.length+3) (L:=[(0,.de (.box [.ro (gV bj) 0 bj.length,.ro (.ints .i64 nV) 0 nX]) 0 0),(4,.aA 1 0 (R.length+1)),(5,.mp 2),(26,.ro (gV bj) 1 m),(27,ag m),(28,ag i),(6,ag i),(8,.int .i64 ((R.length+1:Nat)))]) aH (by
    intro q aB;simp only [fT,nF,mP] at aB;rcases aB with rfl|rfl|rfl|rfl|rfl|rfl|rfl|rfl<;>simp [al.forget,db (show 1≠R.length+3 by omega),db (show 2≠R.length+3 by omega)])⟩ ?_
   refine nn (eW bj.length (eo bj.length) nz R [some ⟨3,.ints .i64 x⟩,none]) ahU ?_;refine fC (eW bj.length (eo bj.length) nz R [some ⟨3,.ints .i64 x⟩]) [none] ((10,.aA (R.length+3) 0 bj.length)::[(0,.de (.box [.ro (gV bj) 0 bj.length,.ro (.ints .i64 nV) 0 nX]) 0 0),(4,.aA 1 0 (R.length+1)),(5,.mp 2),(26,.ro (gV bj) 1 m),(27,ag m),(28,ag i),(6,ag i),(8,.int .i64 ((R.length+1:Nat)))]) (by rw [A0];rfl) aH ic (Ly _ (by rw [tJ];exact pk _ _) (fun o aj=>by cases hR.1 aj;intro i j _ ae;rfl)) (by rw [tJ];simp [l4,hc]) ?_;refine c0 I ?_;have XI:(eW bj.length (eo bj.length) nz R [some ⟨3,.ints .i64 x⟩]).length=R.length+4:=tJ;repeat (refine an (bL rfl) ?_)
   refine tF I I I I I I I I I I ?_;refine c7 (eW bj.length (eo bj.length) nz R [some ⟨3,.ints .i64 x⟩,some ⟨55,ft 1 1 [.aA (R.length+3) 0 bj.length]⟩]) (by rw [A0];rfl) ?_;refine bP 60 (.aA (R.length+4) 0 1) I (aV.of_eq (by rw [XI])) ?_;have f3:(eW bj.length (eo bj.length) nz R [some ⟨3,.ints .i64 x⟩,some ⟨55,ft 1 1 [.aA (R.length+3) 0 bj.length]⟩])[R.length+4]? =some (some ⟨55,ft 1 1 [.aA (R.length+3) 0 bj.length]⟩):=A1 (j:=1);have oM:(sW bj.length (R.length+1)).len=R.length+1:=rfl;skip
   refine dt I I I I I I I I I oM I (Bn f3) dW I (by show (R.length+1+1)*24≤_∧R.length+1+1≤_;omega) ?_ c4 ?_
   ·intro aI j aa ae;obtain rfl:=e5.1 (show j<1 from ae);have q:=(Th bj.length R.length (ft 1 1 [al.aA (R.length+3) 0 bj.length]) rfl).2.2 aI 0 aa fp;refine (congrArg (al.forget 1) q.symm).trans (r5 ?_ q);show al.forget 1 (al.aA (si aI) 0 bj.length)=al.aA (si aI) 0 bj.length;have:si aI≠1:=by
     cases aI with
     |zero=>exact Nat.zero_ne_one
     |succ k=>show k+3≠1;omega
    unfold al.forget;rw [db this];rfl
   refine fm (eW bj.length (eo bj.length) nz (R++[x]) [none]) (ahj (Th bj.length R.length _ I)) ?_;have x7:R.length<(R++[x]).length:=by rw [c2];exact gH _
   have g1:=L2 (n:=bj.length) (cH:=eo bj.length) (F:=nz) (R:=R++[x]) (T:=[none]) x7;have E7:(R++[x]).getD R.length []=x:=by simp [List.getD]
   rw [E7] at g1;have CY:(R++[x]).set R.length (x.set (i+1) 1)=R++[x.set (i+1) 1]:=by rw [zt _ _ (bR _),oD];rfl
   repeat (first|refine an (bL rfl) ?_|refine an (dr rfl) ?_|refine cK ?_|refine b0 ?_|refine c0 rfl ?_|refine an (hl rfl rfl J) ?_|refine an (gk rfl rfl rfl rfl rfl hH J) ?_|refine an (AO rfl rfl rfl rfl rfl mq) ?_|refine an (lA rfl rfl rfl) ?_)
   refine bP 68 (.ptr (R.length+3) (i+1) 0) I (aV.of_eq I) ?_;refine kN I I I I g1 I I (by show i+1<x.length;omega) ?_;refine c7 (eW bj.length (eo bj.length) nz (R++[x.set (i+1) 1]) [none]) ((SX _ x7).trans (by rw [CY])) ?_;refine fX ?_;refine b0 ?_;refine fC (eW bj.length (eo bj.length) nz (R++[x.set (i+1) 1]) []) [none] [(0,.de (.box [.ro (gV bj) 0 bj.length,.ro (.ints .i64 nV) 0 nX]) 0 0),(4,.aA 1 0 (R.length+1+1)),(5,.mp 2),(26,.ro (gV bj) 1 m),(27,ag m),(28,ag i)] (by rw [A0];rfl) aH ic (Ly _ (by rw [tJ];exact bR _) (fun o aj=>(zB aj).elim)) (by rw [tJ];simp [l4,hc]) (bz ?_);exact ca ⟨i+1,⟨J,by rw [ml];exact bM,by rw [ml,aD,c2];show _+1≤_;omega⟩,J,⟨I,by rw [ml,aD,c2];rfl,I,I,I,I,trivial⟩,by rw [ml,aD,aE]⟩
 ·have df:i=m:=J;subst df;refine bt ?_;exact bd ay I ⟨I,I⟩
end Go.Proofs.YtmpnheilfejcpaaGreatDoor
namespace Go.Proofs.YtmpnheilfejcpaaGreatDoor
open Go.ai Go.ai.c8 Go.ai.cz Go.RowKit Go.ai.dL Go.ai.cI Go.ai.lN Go.ai.eD
attribute [local irreducible] ai ek bV cg hb
theorem GZ (h:Nat)(a:List Rat):(aQ a).forget h=aQ a:=by
 show Cells.fn _ _ _=Cells.fn _ _ _;congr 1;funext i j
 match j with
 |0=>rfl
 |1=>rfl
 |2=>rfl
 |_+3=>rfl
abbrev wI (L k:Nat):Cells:= .fn k 1 (fun i _=> .aA (i+1) 0 L)
theorem Tg (L k:Nat)(ea:Cells)(aO:ea.at 0 0= .aA (k+1) 0 L):cC (.fn (k+1) 1 (fun i j=>bif Nat.blt i k then (wI L k).at i j else ea.at (0+(i-k)) j)) (wI L (k+1)):=by
 refine ⟨I,I,fun i j aa ae=> ?_⟩;obtain rfl:=e5.1 (show j<1 from ae);have aa:i<k+1:=aa;show al.aA (i+1) 0 L=bif Nat.blt i k then al.aA (i+1) 0 L else ea.at (0+(i-k)) 0;by_cases e:i<k
 ·rw [show Nat.blt i k=true from p5 e];rfl
 ·have aE:i=k:=J;subst aE;rw [show Nat.blt i i=false by
   cases h:Nat.blt i i with
   |false=>rfl
   |true=>exact absurd (ir h) (Nat.not_succ_le_self _)]
  rw [oD,eQ];exact aO.symm
abbrev jj (m k:Nat)(X:List (List Rat))(T:aX):aX:=eU ⟨110,wI m k⟩ 118 (fun r:List Rat=>aQ r) X T
section
variable {m k:Nat}{X:List (List Rat)}{T:aX}
theorem akr {h:Nat}(ao:k+1≤h):aM (cQ h (jj m k X T)) (jj m k X (cQ h T)):=by unfold jj;rw [yB h (GZ h)];refine w3 ⟨I,I,I,fun i j aa ae=> ?_⟩ (aM.refl _);obtain rfl:=e5.1 (show j<1 from ae);have aa:i<k:=aa;show al.aA (i+1) 0 m=al.forget h (al.aA (i+1) 0 m);unfold al.forget;rw [db (show i+1≠h by omega)];rfl
theorem akq {y:Option bk}{t:TypeId}{c' jC:Cells}(ao:k≤X.length)(av:cC c' jC):
 aM ((cQ (X.length+1) (jj m k X [y])).set (X.length+1) (some ⟨t,c'⟩)) (jj m k X [some ⟨t,jC⟩]):=by
 have e:jj m k X [some ⟨t,jC⟩]=(jj m k X [none]).set (X.length+1) (some ⟨t,jC⟩):=by have q:=RI (O:=⟨110,wI m k⟩) (t:=118) (f:=fun r:List Rat=>aQ r) (X:=X) (L:=[none]) (j:=0) (some ⟨t,jC⟩);exact q.symm
 rw [e];exact aM.set (aM.trans' (akr (T:=[y]) J) (w3 ⟨rfl,cC.refl _⟩ (show aM [iC _ y] [none] from aM.drop aM.nil))) _ (fun o aj=>by cases aj;exact ⟨_,rfl,rfl,av⟩)
end
theorem afE {m k:Nat}{X:List (List Rat)}{T iU:aX}{c' jC:Cells}(av:cC c' jC)(cc:aM (cQ 0 T) iU):
 aM ((cQ 0 (jj m k X T)).set 0 (some ⟨110,c'⟩)) (eU ⟨110,jC⟩ 118 (fun r:List Rat=>aQ r) X iU):=by unfold jj;rw [yB 0 (GZ 0)];exact w3 (O:=⟨110,c'⟩) ⟨I,av⟩ cc
theorem afD {m k n:Nat}{X:List (List Rat)}(hm:k+1≤n): ∀(h:Nat) (o:bk),(jj m k X [])[h]? =some (some o)→fy n o.c:=by
 intro h o aj;have ej:=oA aj;unfold jj eU at ej;rw [fT,kB] at ej;rcases ej with e|ej
 ·cases e;intro i j aa ae;obtain rfl:=e5.1 (show j<1 from ae);have aa:i<k:=aa;show hc n (al.aA (i+1) 0 m)=true;exact p5 (show i+1+1≤n by omega)
 ·obtain ⟨a,_,e⟩:=da.1 ej;cases e;exact vt a n
theorem LC {α:Type}{f:α→al}(aN: ∀x,cV (f x)=true): ∀l:List α,cV.eR (l.map f)=true
 |[]=>rfl
 |a::r=>by show (cV (f a) && cV.eR (r.map f))=true;rw [aN a,LC aN r];rfl
theorem Ua (t:aT)(p:Int)(ah:Valid t):bD Tryz.prog 95 [l8 t p] (.ro (fH (kQ t p)) 0 (kQ t p).length):=by
 have Zp:=D7 ah p;have eE:1≤(cp t p).length:=(sF ah p).2.2.1;have PF:=(sF ah p).2.2.2;have aaJ:=ahW (cp t p) (kt t p) t.length eE J (fun k U ao=>by
  obtain ⟨k,rfl⟩: ∃j,k=j+1:=⟨k-1,J⟩
  have aO:=PF k ao;exact ⟨aO.2.1,by have:=aO.2.2.1;omega⟩)
 have lx:=ahV ah p;have av:kQ t p=eo (aS t p)::(kO (cp t p) (aS t p-1)).rows.tail:=lx.hd;have hlen:=lx.len;rw [av];generalize (kO (cp t p) (aS t p-1)).rows.tail=R at*;generalize (kO (cp t p) (aS t p-1)).fst=F at*;refine Su (o:=1) (k:=R.length+1) (w:=aS t p) (hd:=si) (g:=fun i=> .ints .i64 ((eo (aS t p)::R).getD i [])) aaJ I I (fun i aa=>rfl) (fun i aa=> ?_) (fun h bc b2 aU=> ?_) (fun i aa=> ?_)
 ·cases i with
  |zero=>exact ⟨Nat.zero_ne_one,by show aS t p≤(eo _).length;unfold eo;rw [dj,fw];exact bR _,_,rfl⟩
  |succ j=>
   have ae:j<R.length:=J;refine ⟨by show j+3≠1;omega,?_,_,L2 ae⟩;show aS t p≤(R.getD j []).length;rw [hlen _ (dx [] ae)];exact bR _
 ·have ej:=oA aU;unfold eW at ej;rw [kB] at ej
  match h,aU with
  |0,aU=>cases aU;exact lb
  |1,aU=>exact absurd rfl b2
  |2,aU=>cases aU;exact ⟨LC (fun _=>rfl) F,LC (fun _=>rfl) F⟩
  |h+3,aU=>
   have aU:(fO 3 (fun r:List Int=>Cells.ints .i64 r) R++[])[h]? =some (some bc):=aU;rw [kB] at aU;obtain ⟨a,_,e⟩:=da.1 (oA aU);cases e;exact lb
 ·have ZW:((eo (aS t p)::R).getD i []).length=aS t p:=by
   cases i with
   |zero=>show (eo _).length=_;unfold eo;rw [dj,fw]
   |succ j=>exact hlen _ (dx [] (show j<R.length by omega))
  show al.ro (.ints .i64 ((eo (aS t p)::R).getD i [])) 0 ((eo (aS t p)::R).getD i []).length=_;rw [ZW]
theorem WY {t:aT}(ah:Valid t)(hm:lj t):IA t (eJ t):=
 acr ah hm.len (DT ah hm) (fun i aa ao=>by unfold eJ;rw [aG ao]) (fun i aa ao=>by unfold eJ;rw [az J])
theorem akl (n:cW):bD Tryz.prog 169 [.agg (hI n)] .nil:=by obtain ⟨bU,pl,bH,ba,ct,cw⟩:=n;refine cm Tryz.f169 fun c ay bK=> ?_;refine bm ?_;exact bd ay I I
theorem aiJ (t:aT)(cc:kY t)(ah:Valid t)(hm:lj t):
 cg Tryz.prog 92 [.ro (bS t) 0 t.length] [] (fun _=>False) (fun r H=>r= .aA 0 0 (aS t 0)∧H=jj (aS t 1) (aS t 0) (fI t) []):=by
 have lP:=Ey t 0 cc ah;have eY:=Ey t 1 cc ah;have x5:aS t 0≤61:=D7 ah 0;have rb:aS t 1≤61:=D7 ah 1;have ly:=hm.len;refine hq (P:=Tryz.prog) (fn:=Tryz.f92) I I af I (fun c ay bK=> ?_);refine bN ?_;refine aZ I I I lP ?_;repeat (refine an (bL rfl) ?_)
 refine aZ I I I eY ?_;repeat (first|refine an (bL rfl) ?_|refine an (dr rfl) ?_|refine cK ?_|refine b0 ?_|refine c6 ?_|refine c0 rfl ?_|refine an (gC rfl rfl rfl) ?_|refine an (pN rfl rfl rfl rfl) ?_|refine an (vl rfl) ?_|refine an (oW rfl rfl rfl rfl rfl rfl) ?_)
 refine kM 5 ⟨110,wI (aS t 1) 0⟩ I I ?_;repeat (refine fK ?_)
 refine cJ (ι:=Nat) (fun i=>[(0,.ro (bS t) 0 t.length),(3,l8 t 0),(4,l8 t 1),(5,.aA 0 0 i),(20,ag (aS t 0)),(21,ag i)]) (fun i=>jj (aS t 1) i (List.replicate i (List.replicate (aS t 1) 0)) []) (fun i=>i≤aS t 0) (fun i=>aS t 0-i) 0 ⟨aH,I,cf _⟩ ?_;intro i aa;refine bl ?_;refine bB I (fun h=> ?_) (fun h=> ?_)
 ·have aao:List.replicate (i+1) (List.replicate (aS t 1) (0:Rat))=List.replicate i (List.replicate (aS t 1) 0)++[List.replicate (aS t 1) 0]:=List.replicate_succ' ..;have c9:(List.replicate i (List.replicate (aS t 1) (0:Rat))).length=i:=fw ..;have OR:(List.replicate (aS t 1) (0:Rat)).length=aS t 1:=fw ..;generalize Jn:List.replicate (i+1) (List.replicate (aS t 1) (0:Rat))=V4 at*;generalize List.replicate i (List.replicate (aS t 1) (0:Rat))=X at*;have I2:(jj (aS t 1) i X []).length=i+1:=by rw [D3,c9];rfl
  refine fx ?_;refine fK ?_;repeat (first|refine an (bL rfl) ?_|refine an (dr rfl) ?_|refine cK ?_|refine b0 ?_|refine c6 ?_|refine c0 rfl ?_|refine an (gC rfl rfl rfl) ?_|refine an (pN rfl rfl rfl rfl) ?_|refine an (vl rfl) ?_|refine an (oW rfl rfl rfl rfl rfl rfl) ?_)
  refine kM 6 ⟨118,aQ []⟩ I I ?_;refine ko (jj (aS t 1) i X [some ⟨118,aQ []⟩]) (by rw [HQ];rfl) ?_;refine eA 6 (.aA (i+1) 0 0) I (aV.of_eq (by rw [I2])) ?_;repeat (refine fK ?_)
  refine cJ (ι:=Nat) (fun j=>[(0,.ro (bS t) 0 t.length),(3,l8 t 0),(4,l8 t 1),(5,.aA 0 0 i),(20,ag (aS t 0)),(21,ag i),(6,.aA (i+1) 0 j),(27,ag (aS t 1)),(28,ag j)]) (fun j=>jj (aS t 1) i X [some ⟨118,aQ (List.replicate j 0)⟩]) (fun j=>j≤aS t 1) (fun j=>aS t 1-j) 0 ⟨aH,I,cf _⟩ ?_;intro j ae;have e6:(List.replicate j (0:Rat)).length=j:=fw ..;have Ko:List.replicate (j+1) (0:Rat)=List.replicate j 0++[0]:=List.replicate_succ' ..;refine bl ?_;refine bB I (fun bg=> ?_) (fun bg=> ?_)
  ·generalize z8:List.replicate (j+1) (0:Rat)=fB at*;generalize List.replicate j (0:Rat)=l at*;refine bI ?_;refine aZ I I I nq ?_;unfold cj;repeat (refine iG rfl rfl rfl rfl rfl rfl rfl rfl rfl rfl rfl ?_)
   have f1:(jj (aS t 1) i X [some ⟨118,aQ l⟩])[i+1]? =some (some ⟨118,aQ l⟩):=by have q:=MM (O:=⟨110,wI (aS t 1) i⟩) (t:=118) (f:=fun r:List Rat=>aQ r) (X:=X) (L:=[some ⟨118,aQ l⟩]) (j:=0);rw [c9] at q;exact q
   refine dt I I I I I I I f1 I e6 I I dW I (by show (j+1)*56≤_∧_;omega) ?_ c4 ?_
   ·intro aI a7 aP bf;exact hZ 0 3 cb tC l _ _ (mC _) _ aI a7 aP bf
   refine fm (jj (aS t 1) i X [some ⟨118,aQ (l++[0])⟩]) (by
    have q:=akq (m:=aS t 1) (k:=i) (X:=X) (y:=some ⟨118,aQ l⟩) (t:=118) J (hB 0 3 cb l 0 _ (mC _));rw [c9] at q;exact q) ?_
   refine bt ?_;exact ca ⟨j+1,J,J,aH,by rw [z8,Ko]⟩
  ·have gI:j=aS t 1:=J;subst gI;generalize List.replicate (aS t 1) (0:Rat)=l at*;have f1:(jj (aS t 1) i X [some ⟨118,aQ l⟩,some ⟨110,ft 1 1 [.aA (i+1) 0 (aS t 1)]⟩])[i+2]? =some (some ⟨110,ft 1 1 [.aA (i+1) 0 (aS t 1)]⟩):=by have q:=MM (O:=⟨110,wI (aS t 1) i⟩) (t:=118) (f:=fun r:List Rat=>aQ r) (X:=X) (L:=[some ⟨118,aQ l⟩,some ⟨110,ft 1 1 [.aA (i+1) 0 (aS t 1)]⟩]) (j:=1);rw [c9] at q;exact q
   have XG:(jj (aS t 1) i X [some ⟨118,aQ l⟩]).length=i+2:=by rw [D3,c9];rfl
   refine bt ?_;refine tF I I I I I I I I I I ?_;refine c7 (jj (aS t 1) i X [some ⟨118,aQ l⟩,some ⟨110,ft 1 1 [.aA (i+1) 0 (aS t 1)]⟩]) (by rw [HQ];rfl) ?_;refine bP 37 (.aA (i+2) 0 1) I (aV.of_eq (by rw [XG])) ?_;have oM:(wI (aS t 1) i).len=i:=rfl;skip
   refine dt I I I I I I I I I oM I (Bn f1) dW I (by show (i+1)*24≤_∧i+1≤_;omega) ?_ c4 ?_
   ·intro aI j aa ae;obtain rfl:=e5.1 (show j<1 from ae);have q:=(Tg (aS t 1) i (ft 1 1 [al.aA (i+1) 0 (aS t 1)]) rfl).2.2 aI 0 aa fp;exact (congrArg (al.forget 0) q.symm).trans q
   refine fm (jj (aS t 1) (i+1) X [some ⟨118,aQ l⟩,none]) (afE (Tg (aS t 1) i _ I) (by
    show aM [some (⟨118,(aQ l).forget 0⟩:bk),_] _;rw [GZ];exact aM.same (aM.drop aM.nil))) ?_
   refine fX ?_;refine b0 ?_;refine fC (jj (aS t 1) (i+1) (X++[l]) []) [none] [(0,.ro (bS t) 0 t.length),(3,l8 t 0),(4,l8 t 1),(5,.aA 0 0 (i+1)),(20,ag (aS t 0)),(21,ag i)] (by unfold jj;rw [HQ,←Hl];rfl) aH ic
    (afD (by rw [D3,c2,c9];exact pk _ _)) (by rw [D3,c2,c9];simp [l4,hc]) ?_
   refine bz ?_;exact ca ⟨i+1,J,J,aH,by rw [Jn,aao]⟩
 have df:i=aS t 0:=J;subst df;have Od:=adM t (eJ t) 169 [] rfl rfl cc ah (WY ah hm) (fun i aa ao=>by
  have e:eJ t i=none:=by unfold eJ;rw [az J]
  rw [e];exact akl _)
 have N9:=abI t J;have Cq:(ji t t.length).length=(ee t).length:=by rw [SA,cL]
 have zT:(ee t).length≤t.length:=by unfold ee;refine dT (xK _ _) ?_;rw [gX];exact bR _
 have bw:=TH t;unfold pT at bw;rw [←bw];refine bt ?_;refine aZ I I I Od (bN ?_);refine aZ I I I N9 (bz ?_);refine cJ (ι:=Nat) (fun k=>[(0,.ro (bS t) 0 t.length),(3,l8 t 0),(4,l8 t 1),(5,.aA 0 0 (aS t 0)),(7,.ro (aQ (eK t (eJ t))) 0 t.length),(43,.ro (.ints .i64 (ji t t.length)) 0 (ji t t.length).length),(44,ag ((ji t t.length).length)),(45,ag k)]) (fun k=>jj (aS t 1) (aS t 0) (pd t k) []) (fun k=>k≤(ji t t.length).length) (fun k=>(ji t t.length).length-k) 0 ⟨aH,I,cf _⟩ ?_;intro k ao;refine bl ?_;refine bB I (fun h=> ?_) (fun h=> ?_)
 ·have b5:k<(ee t).length:=J;have ZE:=ajv t b5;obtain ⟨i1,i2⟩:=rA (dx (l:=ee t) 0 b5);have Pd:k<(ji t t.length).length:=J;have Kp:=TG t b5;have x4:=afx ah k;have hw:=DT ah hm;have aad:=yL ah i1 i2;have nP:=(cc.node _ (dx aK i1)).dC;have q9:=w4 (t.getD ((ee t).getD k 0) aK).dC nP aad;have I0:=Tq ah hw ly i1;have fU:=hm.Az.nH _ i1 i2;obtain ⟨ew,bO⟩:=xk ah 0 i1;obtain ⟨bW,dq⟩:=xk ah 1 i1;obtain ⟨a,a1⟩:=oo ew;obtain ⟨b,ak⟩:=oo bW;have zP:gu t 0 ((ee t).getD k 0)=a:=by unfold gu;rw [a1];rfl
  have sj:gu t 1 ((ee t).getD k 0)=b:=by unfold gu;rw [ak];rfl
  rw [zP,sj] at Kp;rw [a1,cA] at bO;rw [ak,cA] at dq;have bO:a<aS t 0:=bO;have dq:b<aS t 1:=dq;have OJ:=Q8 ah hm (q5 b5) a b;have OT:=x4.rows;have akZ:=x4.pt a bO;have alG:((ee t).getD k 0)<(kt t 0).length:=by rw [show (kt t 0).length=t.length from Bg t 0 _];exact i1
  have alH:((ee t).getD k 0)<(kt t 1).length:=by rw [show (kt t 1).length=t.length from Bg t 1 _];exact i1
  have lu:=H4 _ _ (qS (I0.mono (show 12*40+1≤9*100000 by decide))) (qS (fU.mono a6));have zU:kT t (eK t (eJ t)) ((ee t).getD k 0)=(eK t (eJ t)).getD ((ee t).getD k 0) 0*b4 (t.getD ((ee t).getD k 0) aK).dC:=rfl;have lu:bD Tryz.prog 99 [cj ((eK t (eJ t)).getD ((ee t).getD k 0) 0),cj (b4 (t.getD ((ee t).getD k 0) aK).dC)] (cj (kT t (eK t (eJ t)) ((ee t).getD k 0))):=lu;have IV:=Vw (((pd t k).getD a []).getD b 0) (kT t (eK t (eJ t)) ((ee t).getD k 0)) (qS (OJ.mono a6)) (by
   rw [zU];exact qS ((I0.mul fU).mono a6))
  unfold qL at Kp;have e6:(eK t (eJ t)).length=t.length:=DC _ _ _;generalize YI:pd t (k+1)=akA at*;generalize pd t k=T at*;generalize cR:kT t (eK t (eJ t)) ((ee t).getD k 0)=E at*;generalize (ee t).getD k 0=i at*;have g1:(jj (aS t 1) (aS t 0) T [])[a+1]? =some (some ⟨118,aQ (T.getD a [])⟩):=MN [] J;generalize qe:(T.getD a []).getD b 0+E=V at*;have I8:b<(aQ (T.getD a [])).len:=by show b<(T.getD a []).length;omega
  clear hw x4 I0 fU OJ cR zU ew bW zP sj lP eY Od N9;refine Db ?_;refine c0 I ?_;refine kv ?_;refine eA 9 (ag i) I (aV.of_eq (by rw [ZE])) ?_;skip
  refine yG af af I ?_;repeat (first|refine an (bL rfl) ?_|refine an (dr rfl) ?_|refine an (Dp rfl rfl rfl) ?_|refine cK ?_|refine b0 ?_|refine an (j3 rfl rfl rfl rfl hH J) ?_|refine an (pN rfl rfl rfl rfl) ?_|refine an (vl rfl) ?_|refine an (oW rfl rfl rfl rfl rfl rfl) ?_)
  refine eA 10 (ag a) I (aV.of_eq (by rw [a1])) ?_;refine eA 11 (ag b) I (aV.of_eq (by rw [ak])) ?_;skip
  refine eN af ?_;refine fe (fuel:=1) [0,1,2,3,4,5,6,7,8,9,10,11,12,13,14,15,16,17,18,19,20,21,22,23,24] [(0,.ro (bS t) 0 t.length),(3,l8 t 0),(4,l8 t 1),(5,.aA 0 0 (aS t 0)),(7,.ro (aQ (eK t (eJ t))) 0 t.length),(43,.ro (.ints .i64 (ji t t.length)) 0 (ji t t.length).length),(44,ag ((ji t t.length).length)),(45,ag k),(9,ag i),(10,ag a),(11,ag b)] aH af a6 I I ?_;refine dd ?_;refine en I I I I I q9 ?_;refine en I I I I I lu ?_;refine en I I I I I IV ?_;refine dd ?_;refine fc ?_;refine bx 25 ?_;unfold cj;refine er (c':=aQ ((T.getD a []).set b V)) I I I g1 I I8 (by show (List.set _ b _).length=_;rw [dj];rfl) I (fun aI a7 aP bf=>iN 0 3 cb (T.getD a []) b V I8 aI a7 aP bf) (bI ?_);refine eM af ?_;repeat (refine ld ?_)
  refine b0 ?_;refine ko (jj (aS t 1) (aS t 0) (T.set a ((T.getD a []).set b V)) []) (RJ (f:=fun r:List Rat=>aQ r) _ J) (bz ?_);exact ca ⟨k+1,J,J,aH,by rw [YI,Kp]⟩
 ·have df:k=(ji t t.length).length:=J;subst df;rw [Cq,MB];refine bt ?_;exact bd ay I ⟨I,I⟩
theorem Tz (t:aT)(cc:kY t)(ah:Valid t)(hm:lj t):bD Tryz.prog 92 [.ro (bS t) 0 t.length] (.ro (cT (fI t)) 0 (fI t).length):=by
 have hd:=ME ah;have ss:=aiJ t cc ah hm;rw [←hd.rows] at ss;have JE:=hd.pt;rw [←hd.rows] at JE;refine Su (o:=0) (w:=aS t 1) (hd:=fun i=>i+1) (g:=fun i=>aQ ((fI t).getD i [])) ss I I (fun i aa=>rfl) (fun i aa=>⟨Nat.succ_ne_zero i,?_,_,MN [] aa⟩) (fun h bc b2 aU=> ?_) (fun i aa=> ?_)
 ·show aS t 1≤((fI t).getD i []).length;rw [JE i aa];exact bR _
 ·obtain ⟨h,rfl⟩: ∃j,h=j+1:=⟨h-1,J⟩
  have aU:(fO 118 (fun r:List Rat=>aQ r) (fI t)++[])[h]? =some (some bc):=aU;rw [kB] at aU;obtain ⟨a,_,e⟩:=da.1 (oA aU);cases e;exact n1 _
 ·show al.ro (aQ ((fI t).getD i [])) 0 ((fI t).getD i []).length=_;rw [JE i aa]
end Go.Proofs.YtmpnheilfejcpaaGreatDoor
namespace Go.Proofs.YtmpnheilfejcpaaGreatDoor
open Go.ai Go.ai.c8 Go.ai.cz Go.RowKit Go.ai.dL Go.ai.cI Go.ai.lN Go.ai.eD
attribute [local irreducible] ai ek bV cg hb
theorem n3 (h:Nat)(a:List Rat):cC ((aQ a).forget h) (aQ a):=by rw [GZ];exact cC.refl _
theorem T8 (h:Nat)(a:List (List Rat)):cC ((cT a).forget h) (cT a):=by
 have e:(cT a).forget h=cT a:=by
  show Cells.fn _ _ _=Cells.fn _ _ _;congr 1;funext i j
  match j with
  |0=>rfl
  |_+1=>rfl
 rw [e];exact cC.refl _
abbrev oS (a b:Nat)(A:List (List Rat))(B:List Rat)(T:aX):aX:=some ⟨155,.box [.nil,.nil,.nil]⟩::some ⟨155,.box [.aA 2 0 a,.aA 3 0 b,.nil]⟩::some ⟨110,cT A⟩::some ⟨118,aQ B⟩::T
theorem Sh {n:Nat}{x y z:al}(ar:hc n x=true)(aY:hc n y=true)(bw:hc n z=true):fy n (.box [x,y,z]):=by
 intro i j _ ae;have ae:j<3:=ae
 match j,ae with
 |0,_=>exact ar
 |1,_=>exact aY
 |2,_=>exact bw
theorem ahf (A:List (List Rat))(n:Nat):fy n (cT A):=by intro i j _ ae;obtain rfl:=e5.1 (show j<1 from ae);rfl
theorem Ux (a b:Nat)(A:List (List Rat))(B:List Rat): ∀(h:Nat) (o:bk),(oS a b A B [])[h]? =some (some o)→fy 4 o.c:=by
 intro h o aj
 match h,aj with
 |0,aj=>cases aj;exact Sh rfl rfl rfl
 |1,aj=>cases aj;exact Sh rfl rfl rfl
 |2,aj=>cases aj;exact ahf _ _
 |3,aj=>cases aj;exact vt _ _
 |_+4,aj=>simp at aj
theorem aeW (M:List (List Rat))(E F:List (List Int))(n m k gg:Nat)(akS:M.length=n)(Yr:F.length=k)(Cq:E.length=gg)(aO:0<n)(nM:0<k)(alE:n≤61)(alC:m≤61)(aly:k≤61)(alz:gg≤61)(hj: ∀i,i<n→(M.getD i []).length=m)(ki: ∀c,c<k→(F.getD c []).length=m)(cR: ∀c,c<gg→(E.getD c []).length=n)(Ys: ∀c j,-1≤(F.getD c []).getD j 0∧(F.getD c []).getD j 0≤1)(Yp: ∀c j,-1≤(E.getD c []).getD j 0∧(E.getD c []).getD j 0≤1):
 bD Tryz.prog 94 [.ro (cT M) 0 n,.ro (fH E) 0 gg,.ro (fH F) 0 k] (.agg [.ro (cT (km M E F n m k (2*gg))) 0 (m+2*gg),.ro (aQ (mu m (2*gg))) 0 (m+2*gg),.ro (aQ (ve n k)) 0 (n+2*k)]):=by
 have Kx:=UW (n+2*k) J;have aaK:(List.replicate (n+2*k) (0:Rat)).length=n+2*k:=fw ..;refine cm Tryz.f94 fun c ay bK=> ?_;have Yy:=hj 0 aO;refine bm ?_;refine eA 29 (ag m) I (aV.of_eq (by rw [Yy])) ?_;refine G7 1 ⟨110,cT []⟩ (.box [.aA 2 0 0,.nil,.nil]) I I I I (fun aI a7 _ bf=> ?_) ?_
 ·have bf:a7<3:=bf
  match a7,bf with
  |0,_=>exact .inr ⟨rfl,rfl⟩
  |1,_=>exact .inl rfl
  |2,_=>exact .inl rfl
 refine G7 1 ⟨118,aQ []⟩ (.box [.aA 2 0 0,.aA 3 0 0,.nil]) I I I I (fun aI a7 _ bf=> ?_) ?_
 ·have bf:a7<3:=bf
  match a7,bf with
  |0,_=>exact .inl rfl
  |1,_=>exact .inr ⟨rfl,rfl⟩
  |2,_=>exact .inl rfl
 refine ko (oS 0 0 [] [] []) I ?_;refine cJ (ι:=Nat) (fun j=>[(0,.ro (cT M) 0 n),(1,.ro (fH E) 0 gg),(2,.ro (fH F) 0 k),(6,.ptr 0 0 0),(7,ag n),(8,ag k),(9,.ptr 1 0 0),(29,ag m),(30,ag j)]) (fun j=>oS j j (km M E F n j k 0) (List.replicate j 0) []) (fun j=>j≤m) (fun j=>m-j) 0 ⟨aH,I,cf _⟩ ?_;intro j ae;refine bl ?_;refine bB I (fun h=> ?_) (fun h=> ?_)
 ·have bf:j<m:=J;have FV:=acF M E F n k j;have FW:List.replicate (j+1) (0:Rat)=List.replicate j 0++[0]:=List.replicate_succ' ..;have ia:(km M E F n j k 0).length=j:=by rw [Iq];rfl
  have zO:(List.replicate j (0:Rat)).length=j:=fw ..;generalize lR:km M E F n (j+1) k 0=xp at*;generalize km M E F n j k 0=A at*;generalize tb:List.replicate (j+1) (0:Rat)=NH at*;generalize List.replicate j (0:Rat)=B at*;refine bI ?_;refine an (Gq I I J) ?_;repeat (refine an (hl rfl rfl J) ?_)
  refine bP 36 (.int .i64 ((n+2*k:Nat))) I (aV.of_eq (by congr 1)) ?_;refine nk I I I Kx ?_;refine c7 (oS j j A B [some ⟨118,aQ (h3 (n+2*k) (kn M F n k j) (fun y=>decide (y<0)))⟩]) (by rw [Tu _ _ (fun y=>fq (gy y))];rfl) (bz ?_);refine cJ (ι:=Nat) (fun i=>[(0,.ro (cT M) 0 n),(1,.ro (fH E) 0 gg),(2,.ro (fH F) 0 k),(6,.ptr 0 0 0),(7,ag n),(8,ag k),(9,.ptr 1 0 0),(29,ag m),(30,ag j),(10,ag j),(11,.aA 4 0 (n+2*k)),(39,ag n),(40,ag i)]) (fun i=>oS j j A B [some ⟨118,aQ (h3 (n+2*k) (kn M F n k j) (fun y=>decide (y<i)))⟩]) (fun i=>i≤n) (fun i=>n-i) 0 ⟨aH,I,cf _⟩ ?_;intro i aa;refine bl ?_;refine bB I (fun bg=> ?_) (fun bg=> ?_)
  ·have aP:i<n:=J;have e6:=hj i aP;have cS:(h3 (n+2*k) (kn M F n k j) (fun y=>decide (y<i))).set i (kn M F n k j i)=h3 (n+2*k) (kn M F n k j) (fun y=>decide (y<i+1)):=Hy (fun y=>Uq y i);have JM:kn M F n k j i= -((M.getD i []).getD j 0):=aG aP;have Pv:=Bk (n+2*k) (kn M F n k j) (fun y=>decide (y<i));rw [JM] at cS;generalize Cs:h3 (n+2*k) (kn M F n k j) (fun y=>decide (y<i+1))=NN at*;generalize h3 (n+2*k) (kn M F n k j) (fun y=>decide (y<i))=R at*;have sf:i<(aQ R).len:=by show i<R.length;omega
   refine bm ?_;refine bP 51 (.agg (cb ((M.getD i []).getD j 0))) I (aV.of_eq I) ?_;refine aZ I I I (Vx _) ?_;generalize-((M.getD i []).getD j 0)=z at*;unfold cj;repeat (refine an (gk rfl rfl rfl rfl rfl hH J) ?_)
   refine er (c':=aQ (R.set i z)) I I I I I sf (by show (List.set _ i _).length=_;rw [dj];rfl) I (fun aI a7 aP bf=>iN 0 3 cb R i z sf aI a7 aP bf) (bt ?_);exact ca ⟨i+1,J,J,aH,by rw [Cs,←cS];rfl⟩
  have df:i=n:=J;subst df;refine ko (oS j j A B [some ⟨118,aQ (h3 (i+2*k) (kn M F i k j) (eT i k 0))⟩]) (by rw [aiD (fun y=>acD i k y)]) (bt ?_);refine cJ (ι:=Nat) (fun c=>[(0,.ro (cT M) 0 i),(1,.ro (fH E) 0 gg),(2,.ro (fH F) 0 k),(6,.ptr 0 0 0),(7,ag i),(8,ag k),(9,.ptr 1 0 0),(29,ag m),(30,ag j),(10,ag j),(11,.aA 4 0 (i+2*k)),(56,ag k),(57,ag c)]) (fun c=>oS j j A B [some ⟨118,aQ (h3 (i+2*k) (kn M F i k j) (eT i k c))⟩]) (fun c=>c≤k) (fun c=>k-c) 0 ⟨aH,I,cf _⟩ ?_;intro c av;refine bl ?_;refine bB I (fun bF=> ?_) (fun bF=> ?_)
  ·have xZ:c<k:=J;have cS:=acC M F i k j c xZ;have Pv:=Bk (i+2*k) (kn M F i k j) (eT i k c);have akN:=ki c xZ;obtain ⟨s1,s2⟩:=Ys c j;have Xc:=y0 ((F.getD c []).getD j 0) J;have Xd:=y0 (-((F.getD c []).getD j 0)) J;generalize Cs:h3 (i+2*k) (kn M F i k j) (eT i k (c+1))=NN at*;generalize h3 (i+2*k) (kn M F i k j) (eT i k c)=R at*;have sf:i+c<(aQ R).len:=by show i+c<R.length;omega
   have Cn:i+k+c<(aQ (R.set (i+c) ((((F.getD c []).getD j 0:Int)):Rat))).len:=by show i+k+c<(List.set _ _ _).length;rw [dj];omega
   refine bI ?_;refine eN af ?_;refine bJ 4 I af af af I (bL I) I ?_;refine bJ 5 I af af af I (bL I) I ?_;refine bJ 6 I af af af I (bL I) I ?_;refine bJ 7 I af af af I (hl I I J) I ?_;refine bJ 8 I af af af I (bL I) I ?_;refine bJ 9 I af af af I (hl I I J) I ?_;refine bJ 18 I af af af I (bL I) I ?_;refine bJ 19 I af af af I (bL I) I ?_;refine bJ 20 I af af af I (j3 I I I I (by first|(simp only [c1,cA,gn];exact I)|exact I) J) I ?_;refine bJ 22 I af af af I (bL I) I ?_;refine fe (fuel:=3) [0,1,2,3,10,11,12,13,14,15,16,17,21,23,24,25,26,27] [(0,.ro (cT M) 0 i),(1,.ro (fH E) 0 gg),(2,.ro (fH F) 0 k),(6,.ptr 0 0 0),(7,ag i),(8,ag k),(9,.ptr 1 0 0),(29,ag m),(30,ag j),(10,ag j),(11,.aA 4 0 (i+2*k)),(56,ag k),(57,ag c),(13,ag c),(64,.aA 4 0 (i+2*k)),(69,ag (i+k+c)),(79,ag c),(80,.de (fH F) c 0),(82,ag j)] aH af a6 I I ?_;refine dd ?_;refine en I I I I I Xc ?_;refine dd ?_;refine en I I I I I Xd ?_;refine dd ?_;refine fc ?_;generalize (((F.getD c []).getD j 0:Int):Rat)=hA at*;generalize ((-((F.getD c []).getD j 0):Int):Rat)=ih at*;unfold cj;refine bx 28 ?_;refine er (c':=aQ (R.set (i+c) hA)) I I I I I sf nb I (fun aI a7 aP bf=>iN 0 3 cb R (i+c) hA sf aI a7 aP bf) (bI ?_);refine bJ 29 I af af af I (gk I I I I I (by first|(simp only [c1,cA,gn];exact I)|exact I) J) I ?_;refine bx 30 ?_;refine er (c':=aQ ((R.set (i+c) hA).set (i+k+c) ih)) I I I I I Cn nb I (fun aI a7 aP bf=>iN 0 3 cb (R.set (i+c) hA) (i+k+c) ih Cn aI a7 aP bf) (bI ?_);refine eM af (bt ?_);exact ca ⟨c+1,J,J,aH,by rw [Cs,←cS];rfl⟩
  ·have x0:c=k:=J;subst x0;rw [acB];have uY:(ys M F i c j).length=i+2*c:=by unfold ys;rw [cL,gX]
   generalize ys M F i c j=l at*;have ht: ∀a7,a7<1→(ft 1 1 [.ro (aQ l) 0 (i+2*c)]).at 0 a7=(gD l).getD a7 .any:=fun a7 bf=>by rw [←uY];exact QR l a7 bf
   refine kv ?_;refine mx 4 11 (i+2*c) [(0,.ro (cT M) 0 i),(1,.ro (fH E) 0 gg),(2,.ro (fH F) 0 c),(6,.ptr 0 0 0),(7,ag i),(8,ag c),(9,.ptr 1 0 0),(29,ag m),(30,ag j)] I (n1 _) I (by show _≤l.length;omega) aH ?_;refine fC (oS j j A B []) [none] [(0,.ro (cT M) 0 i),(1,.ro (fH E) 0 gg),(2,.ro (fH F) 0 c),(6,.ptr 0 0 0),(7,ag i),(8,ag c),(9,.ptr 1 0 0),(29,ag m),(30,ag j),(11,.ro (aQ l) 0 (i+2*c))] I aH ic (Ux _ _ _ _) I ?_;skip
   refine eN af ?_;refine bJ 0 I af af af I (dh I I I I I I) I ?_;refine bJ 2 I af af af I (bL I) I ?_;refine bJ 5 I af af af I (dh I I I I I I) I ?_;apply tH (H:=[some ⟨155,.box [.nil,.nil,.nil]⟩,some ⟨155,.box [.any,.aA 3 0 j,.nil]⟩,some ⟨110,cT (A++[l])⟩,some ⟨118,aQ B⟩]) [(0,.ro (cT M) 0 i),(1,.ro (fH E) 0 gg),(2,.ro (fH F) 0 c),(6,.ptr 0 0 0),(7,ag i),(8,ag c),(9,.ptr 1 0 0),(29,ag m),(30,ag j),(94,.aA 2 0 (j+1)),(96,.aA 3 0 (j)),(98,.ro (ft 1 3 (cb (0))) 0 1),(100,.ptr 1 0 0)]
   ·intro fin;refine vk (is:=[1,3,6]) af bZ I ⟨fun o aj=> ?_,fun o aj=> ?_,fun o aj=> ?_,trivial⟩;all_goals (cases aj)
    ·refine bl ?_;refine ed 3 6 ?_ ?_
     ·refine bz ?_;refine ed 4 6 ?_ ?_
      ·refine dt I I I I I I I I I ia I I dW I (by show (j+1)*24≤_∧j+1≤_;omega) ?_ c4 ?_
       ·intro aI a7 aP bf;exact hZ [] 1 gD nY A l _ ht 2 aI a7 aP bf
       refine fm [some ⟨155,.box [.nil,.nil,.nil]⟩,some ⟨155,.box [.any,.aA 3 0 j,.nil]⟩,some ⟨110,cT (A++[l])⟩,some ⟨118,aQ B⟩] (aM.eqv (cC.refl _) (aM.eqv (cC.refl _) (aM.eqv (hB [] 1 gD A l _ ht) (aM.eqv (n3 _ _) aM.nil)))) (bI ?_);refine ed 6 7 ?_ ?_
       ·refine bl ?_;refine bJ 10 I af af af I (dh I I I I I I) I ?_;refine bx 7 ?_;refine aZ I I I nq ?_;unfold cj;refine bI ?_;refine bx 8 ?_;refine bz ?_;exact fin _ aH
       ·refine aZ I I I nq ?_;unfold cj;refine bI ?_;refine ed 6 8 ?_ ?_
        ·refine bl ?_;refine bJ 10 I af af af I (dh I I I I I I) I ?_;refine bx 8 ?_;refine bz ?_;exact fin _ aH
        ·refine bz ?_;refine bx 6 ?_;refine bl ?_;refine bJ 10 I af af af I (dh I I I I I I) I ?_;exact fin _ aH
      ·refine bl ?_;refine bx 4 ?_;refine dt I I I I I I I I I ia I I dW I (by show (j+1)*24≤_∧j+1≤_;omega) ?_ c4 ?_
       ·intro aI a7 aP bf;exact hZ [] 1 gD nY A l _ ht 2 aI a7 aP bf
       refine fm [some ⟨155,.box [.nil,.nil,.nil]⟩,some ⟨155,.box [.any,.aA 3 0 j,.nil]⟩,some ⟨110,cT (A++[l])⟩,some ⟨118,aQ B⟩] (aM.eqv (cC.refl _) (aM.eqv (cC.refl _) (aM.eqv (hB [] 1 gD A l _ ht) (aM.eqv (n3 _ _) aM.nil)))) (bI ?_);refine bJ 10 I af af af I (dh I I I I I I) I ?_;refine bx 7 ?_;refine aZ I I I nq ?_;unfold cj;refine bI ?_;refine bx 8 ?_;refine bz ?_;exact fin _ aH
     ·refine bl ?_;refine bx 3 ?_;refine bz ?_;refine bx 4 ?_;refine dt I I I I I I I I I ia I I dW I (by show (j+1)*24≤_∧j+1≤_;omega) ?_ c4 ?_
      ·intro aI a7 aP bf;exact hZ [] 1 gD nY A l _ ht 2 aI a7 aP bf
      refine fm [some ⟨155,.box [.nil,.nil,.nil]⟩,some ⟨155,.box [.any,.aA 3 0 j,.nil]⟩,some ⟨110,cT (A++[l])⟩,some ⟨118,aQ B⟩] (aM.eqv (cC.refl _) (aM.eqv (cC.refl _) (aM.eqv (hB [] 1 gD A l _ ht) (aM.eqv (n3 _ _) aM.nil)))) (bI ?_);refine bJ 10 I af af af I (dh I I I I I I) I ?_;refine bx 7 ?_;refine aZ I I I nq ?_;unfold cj;refine bI ?_;refine bx 8 ?_;refine bz ?_;exact fin _ aH
    ·refine bz ?_;refine ed 1 6 ?_ ?_
     ·refine bl ?_;refine ed 4 6 ?_ ?_
      ·refine dt I I I I I I I I I ia I I dW I (by show (j+1)*24≤_∧j+1≤_;omega) ?_ c4 ?_
       ·intro aI a7 aP bf;exact hZ [] 1 gD nY A l _ ht 2 aI a7 aP bf
       refine fm [some ⟨155,.box [.nil,.nil,.nil]⟩,some ⟨155,.box [.any,.aA 3 0 j,.nil]⟩,some ⟨110,cT (A++[l])⟩,some ⟨118,aQ B⟩] (aM.eqv (cC.refl _) (aM.eqv (cC.refl _) (aM.eqv (hB [] 1 gD A l _ ht) (aM.eqv (n3 _ _) aM.nil)))) (bI ?_);refine ed 6 7 ?_ ?_
       ·refine bl ?_;refine bJ 10 I af af af I (dh I I I I I I) I ?_;refine bx 7 ?_;refine aZ I I I nq ?_;unfold cj;refine bI ?_;refine bx 8 ?_;refine bz ?_;exact fin _ aH
       ·refine aZ I I I nq ?_;unfold cj;refine bI ?_;refine ed 6 8 ?_ ?_
        ·refine bl ?_;refine bJ 10 I af af af I (dh I I I I I I) I ?_;refine bx 8 ?_;refine bz ?_;exact fin _ aH
        ·refine bz ?_;refine bx 6 ?_;refine bl ?_;refine bJ 10 I af af af I (dh I I I I I I) I ?_;exact fin _ aH
      ·refine bl ?_;refine bx 4 ?_;refine dt I I I I I I I I I ia I I dW I (by show (j+1)*24≤_∧j+1≤_;omega) ?_ c4 ?_
       ·intro aI a7 aP bf;exact hZ [] 1 gD nY A l _ ht 2 aI a7 aP bf
       refine fm [some ⟨155,.box [.nil,.nil,.nil]⟩,some ⟨155,.box [.any,.aA 3 0 j,.nil]⟩,some ⟨110,cT (A++[l])⟩,some ⟨118,aQ B⟩] (aM.eqv (cC.refl _) (aM.eqv (cC.refl _) (aM.eqv (hB [] 1 gD A l _ ht) (aM.eqv (n3 _ _) aM.nil)))) (bI ?_);refine bJ 10 I af af af I (dh I I I I I I) I ?_;refine bx 7 ?_;refine aZ I I I nq ?_;unfold cj;refine bI ?_;refine bx 8 ?_;refine bz ?_;exact fin _ aH
     ·refine bl ?_;refine bx 1 ?_;refine bl ?_;refine bx 4 ?_;refine dt I I I I I I I I I ia I I dW I (by show (j+1)*24≤_∧j+1≤_;omega) ?_ c4 ?_
      ·intro aI a7 aP bf;exact hZ [] 1 gD nY A l _ ht 2 aI a7 aP bf
      refine fm [some ⟨155,.box [.nil,.nil,.nil]⟩,some ⟨155,.box [.any,.aA 3 0 j,.nil]⟩,some ⟨110,cT (A++[l])⟩,some ⟨118,aQ B⟩] (aM.eqv (cC.refl _) (aM.eqv (cC.refl _) (aM.eqv (hB [] 1 gD A l _ ht) (aM.eqv (n3 _ _) aM.nil)))) (bI ?_);refine bJ 10 I af af af I (dh I I I I I I) I ?_;refine bx 7 ?_;refine aZ I I I nq ?_;unfold cj;refine bI ?_;refine bx 8 ?_;refine bz ?_;exact fin _ aH
    ·refine bl ?_;refine ed 1 3 ?_ ?_
     ·refine bl ?_;refine bx 3 ?_;refine bz ?_;refine bx 4 ?_;refine dt I I I I I I I I I ia I I dW I (by show (j+1)*24≤_∧j+1≤_;omega) ?_ c4 ?_
      ·intro aI a7 aP bf;exact hZ [] 1 gD nY A l _ ht 2 aI a7 aP bf
      refine fm [some ⟨155,.box [.nil,.nil,.nil]⟩,some ⟨155,.box [.any,.aA 3 0 j,.nil]⟩,some ⟨110,cT (A++[l])⟩,some ⟨118,aQ B⟩] (aM.eqv (cC.refl _) (aM.eqv (cC.refl _) (aM.eqv (hB [] 1 gD A l _ ht) (aM.eqv (n3 _ _) aM.nil)))) (bI ?_);refine bJ 10 I af af af I (dh I I I I I I) I ?_;refine bx 7 ?_;refine aZ I I I nq ?_;unfold cj;refine bI ?_;refine bx 8 ?_;refine bz ?_;exact fin _ aH
     ·refine bz ?_;refine bx 1 ?_;refine bl ?_;refine bx 4 ?_;refine dt I I I I I I I I I ia I I dW I (by show (j+1)*24≤_∧j+1≤_;omega) ?_ c4 ?_
      ·intro aI a7 aP bf;exact hZ [] 1 gD nY A l _ ht 2 aI a7 aP bf
      refine fm [some ⟨155,.box [.nil,.nil,.nil]⟩,some ⟨155,.box [.any,.aA 3 0 j,.nil]⟩,some ⟨110,cT (A++[l])⟩,some ⟨118,aQ B⟩] (aM.eqv (cC.refl _) (aM.eqv (cC.refl _) (aM.eqv (hB [] 1 gD A l _ ht) (aM.eqv (n3 _ _) aM.nil)))) (bI ?_);refine bJ 10 I af af af I (dh I I I I I I) I ?_;refine bx 7 ?_;refine aZ I I I nq ?_;unfold cj;refine bI ?_;refine bx 8 ?_;refine bz ?_;exact fin _ aH
   refine bx 9 ?_;refine dt I I I I I I I I I zO I I dW I (by show (j+1)*56≤_∧j+1≤_;omega) ?_ c4 ?_
   ·intro aI a7 aP bf;exact hZ 0 3 cb tC B (0) _ (mC _) 3 aI a7 aP bf
   refine fm [some ⟨155,.box [.nil,.nil,.nil]⟩,some ⟨155,.box [.any,.any,.nil]⟩,some ⟨110,cT (A++[l])⟩,some ⟨118,aQ (B++[0])⟩] (aM.eqv (cC.refl _) (aM.eqv (cC.refl _) (aM.eqv (T8 _ _) (aM.eqv (hB 0 3 cb B (0) _ (mC _)) aM.nil)))) (bI ?_);refine bx 11 ?_;refine rl ?_;refine bJ 12 I af af af I (dh I I I I I I) I ?_;refine bx 13 ?_;refine rl ?_;refine eM af (bt ?_);exact ca ⟨j+1,J,J,aH,by rw [lR,FV,tb,FW];rfl⟩
 have gI:j=m:=J;subst gI;refine ko (oS (j+2*0) (j+2*0) (km M E F n j k (2*0)) (mu j (2*0)) []) (by rw [←acI];rfl) (bt ?_);refine cJ (ι:=Nat) (fun c=>[(0,.ro (cT M) 0 n),(1,.ro (fH E) 0 gg),(2,.ro (fH F) 0 k),(6,.ptr 0 0 0),(7,ag n),(8,ag k),(9,.ptr 1 0 0),(103,.ro (fH E) 0 gg),(104,ag gg),(105,ag c)]) (fun c=>oS (j+2*c) (j+2*c) (km M E F n j k (2*c)) (mu j (2*c)) []) (fun c=>c≤gg) (fun c=>gg-c) 0 ⟨aH,I,cf _⟩ ?_;intro c av;refine bl ?_;refine bB I (fun h=> ?_) (fun h=> ?_)
 ·have xZ:c<gg:=J;have OK:=cR c xZ;refine tv ?_;refine eA 15 (.ro (.ints .i64 (E.getD c [])) 0 n) I (aV.of_eq (by show al.ro (.ints .i64 (E.getD c [])) 0 (E.getD c []).length=_;rw [OK])) ?_;refine cJ (ι:=Nat) (fun s=>[(0,.ro (cT M) 0 n),(1,.ro (fH E) 0 gg),(2,.ro (fH F) 0 k),(6,.ptr 0 0 0),(7,ag n),(8,ag k),(9,.ptr 1 0 0),(103,.ro (fH E) 0 gg),(104,ag gg),(105,ag c),(14,ag c),(15,.ro (.ints .i64 (E.getD c [])) 0 n),(110,.agg [.int .i64 1,.int .i64 (-1)]),(111,ag s)]) (fun s=>oS (j+(2*c+s)) (j+(2*c+s)) (km M E F n j k (2*c+s)) (mu j (2*c+s)) []) (fun s=>s≤2) (fun s=>2-s) 0 ⟨aH,I,cf _⟩ ?_;intro s ax;refine bl ?_;refine bB I (fun bg=> ?_) (fun bg=> ?_)
  ·have gA:s<2:=J;have CQ:(2*c+s)%2=s:=J;have PL:(2*c+s)/2=c:=J;have FV:=acG M E F n j k (2*c+s);have FW:=acH j (2*c+s);have ia:(km M E F n j k (2*c+s)).length=j+(2*c+s):=Iq ..;have zO:(mu j (2*c+s)).length=j+(2*c+s):=Ny ..;have FX: -1≤la s∧la s≤1:=by unfold la;split<;>decide
   rw [show 2*c+s+1=2*c+(s+1) by omega] at FV FW;generalize lR:km M E F n j k (2*c+(s+1))=xp at*;generalize km M E F n j k (2*c+s)=A at*;generalize tb:mu j (2*c+(s+1))=NH at*;generalize mu j (2*c+s)=B at*;refine bI ?_;refine an (adp I I I I I I I ⟨J,by show (s:Int)<((2:Nat):Int);omega,by show (s:Int)<((2:Nat):Int);omega⟩) ?_;refine bP 113 (.int .i64 (la s)) I (aV.of_eq (by
    rcases (show s=0∨s=1 by omega) with e|e<;>subst e<;>rfl)) ?_
   refine bN ?_;refine an (Gq I I J) ?_;repeat (refine an (hl rfl rfl J) ?_)
   refine bP 117 (.int .i64 ((n+2*k:Nat))) I (aV.of_eq (by congr 1)) ?_;refine nk I I I Kx ?_;refine c7 (oS (j+(2*c+s)) (j+(2*c+s)) A B [some ⟨118,aQ (h3 (n+2*k) (pJ E n (2*c+s)) (fun y=>decide (y<0)))⟩]) (by rw [Tu _ _ (fun y=>fq (gy y))];rfl) (bz ?_);refine cJ (ι:=Nat) (fun i=>[(0,.ro (cT M) 0 n),(1,.ro (fH E) 0 gg),(2,.ro (fH F) 0 k),(6,.ptr 0 0 0),(7,ag n),(8,ag k),(9,.ptr 1 0 0),(103,.ro (fH E) 0 gg),(104,ag gg),(105,ag c),(14,ag c),(15,.ro (.ints .i64 (E.getD c [])) 0 n),(110,.agg [.int .i64 1,.int .i64 (-1)]),(111,ag s),(17,.int .i64 (la s)),(18,.aA 4 0 (n+2*k)),(119,.ro (.ints .i64 (E.getD c [])) 0 n),(120,ag n),(121,ag i)]) (fun i=>oS (j+(2*c+s)) (j+(2*c+s)) A B [some ⟨118,aQ (h3 (n+2*k) (pJ E n (2*c+s)) (fun y=>decide (y<i)))⟩]) (fun i=>i≤n) (fun i=>n-i) 0 ⟨aH,I,cf _⟩ ?_;intro i aa;refine bl ?_;refine bB I (fun bF=> ?_) (fun bF=> ?_)
   ·have aP:i<n:=J;have cS:(h3 (n+2*k) (pJ E n (2*c+s)) (fun y=>decide (y<i))).set i (pJ E n (2*c+s) i)=h3 (n+2*k) (pJ E n (2*c+s)) (fun y=>decide (y<i+1)):=Hy (fun y=>Uq y i);have JM:pJ E n (2*c+s) i=((la s*(E.getD c []).getD i 0:Int):Rat):=by unfold pJ;rw [aG aP,CQ,PL]
    have Pv:=Bk (n+2*k) (pJ E n (2*c+s)) (fun y=>decide (y<i));rw [JM] at cS;generalize Cs:h3 (n+2*k) (pJ E n (2*c+s)) (fun y=>decide (y<i+1))=NN at*;generalize h3 (n+2*k) (pJ E n (2*c+s)) (fun y=>decide (y<i))=R at*;have sf:i<(aQ R).len:=by show i<R.length;omega
    obtain ⟨aD,aE⟩:=Yp c i;have hmul: -1≤la s*(E.getD c []).getD i 0∧la s*(E.getD c []).getD i 0≤1:=by
     rcases (show s=0∨s=1 by omega) with e|e
     ·subst e;rw [show la 0=1 from rfl,lq];exact ⟨aD,aE⟩
     ·subst e;rw [show la 1= -1 from rfl];omega
    have co:=y0 (la s*(E.getD c []).getD i 0) J;refine bm ?_;refine an (Gq I I J) ?_;skip
    refine aZ I I I co ?_;generalize ((la s*(E.getD c []).getD i 0:Int):Rat)=z at*;unfold cj;repeat (refine an (gk rfl rfl rfl rfl rfl hH J) ?_)
    refine er (c':=aQ (R.set i z)) I I I I I sf (by show (List.set _ i _).length=_;rw [dj];rfl) I (fun aI a7 aP bf=>iN 0 3 cb R i z sf aI a7 aP bf) (bt ?_);exact ca ⟨i+1,J,J,aH,by rw [Cs,←cS];rfl⟩
   have df:i=n:=J;subst df;rw [acJ];have uY:(yr E i k (2*c+s)).length=i+2*k:=by unfold yr;rw [cL,gX]
   generalize yr E i k (2*c+s)=l at*;have ht: ∀a7,a7<1→(ft 1 1 [.ro (aQ l) 0 (i+2*k)]).at 0 a7=(gD l).getD a7 .any:=fun a7 bf=>by rw [←uY];exact QR l a7 bf
   have Cw:ps (2*c+s)=if c=0 then la s else 0:=by unfold ps;rw [CQ,PL]
   refine dS ?_;refine c6 ?_;refine c0 I ?_;refine dS ?_;refine c6 ?_;apply j4 (H:=oS (j+(2*c+s)) (j+(2*c+s)) A B [some ⟨118,aQ l⟩]) [(0,.ro (cT M) 0 i),(1,.ro (fH E) 0 gg),(2,.ro (fH F) 0 k),(6,.ptr 0 0 0),(7,ag i),(8,ag k),(9,.ptr 1 0 0),(103,.ro (fH E) 0 gg),(104,ag gg),(105,ag c),(14,ag c),(15,.ro (.ints .i64 (E.getD c [])) 0 i),(110,.agg [.int .i64 1,.int .i64 (-1)]),(111,ag s),(17,.int .i64 (la s)),(18,.aA 4 0 (i+2*k)),(21,.int .i64 (ps (2*c+s)))]
   ·intro fin;refine c6 ?_;refine c0 I ?_;repeat (first|refine an (bL rfl) ?_|refine cK ?_|refine b0 ?_|refine an (ob rfl rfl) ?_)
    refine bB I (fun dm=> ?_) (fun dm=> ?_)
    ·rw [aG J] at Cw;rw [Cw] at fin;refine c0 I ?_;refine dS ?_;exact fin _ aH
    ·rw [az J] at Cw;rw [Cw] at fin;refine dS ?_;exact fin _ aH
   clear Cw OK;have te: -1≤ps (2*c+s)∧ps (2*c+s)≤1:=by unfold ps;rw [CQ];split<;>omega
   have s9:=y0 (ps (2*c+s)) J;generalize KC:((ps (2*c+s):Int):Rat)=Iw at*;generalize PM:2*c+s=r at*;refine mx 4 18 (i+2*k) [(0,.ro (cT M) 0 i),(1,.ro (fH E) 0 gg),(2,.ro (fH F) 0 k),(6,.ptr 0 0 0),(7,ag i),(8,ag k),(9,.ptr 1 0 0),(103,.ro (fH E) 0 gg),(104,ag gg),(105,ag c),(14,ag c),(15,.ro (.ints .i64 (E.getD c [])) 0 i),(110,.agg [.int .i64 1,.int .i64 (-1)]),(111,ag s),(17,.int .i64 (la s)),(21,.int .i64 (ps r))] I (n1 _) I (by show _≤l.length;omega) aH ?_;refine fC (oS (j+r) (j+r) A B []) [none] [(0,.ro (cT M) 0 i),(1,.ro (fH E) 0 gg),(2,.ro (fH F) 0 k),(6,.ptr 0 0 0),(7,ag i),(8,ag k),(9,.ptr 1 0 0),(103,.ro (fH E) 0 gg),(104,ag gg),(105,ag c),(14,ag c),(15,.ro (.ints .i64 (E.getD c [])) 0 i),(110,.agg [.int .i64 1,.int .i64 (-1)]),(111,ag s),(17,.int .i64 (la s)),(21,.int .i64 (ps r)),(18,.ro (aQ l) 0 (i+2*k))] I aH ic (Ux _ _ _ _) I ?_;skip
   refine eN af ?_;refine bJ 0 I af af af I (dh I I I I I I) I ?_;refine bJ 2 I af af af I (bL I) I ?_;refine bJ 5 I af af af I (dh I I I I I I) I ?_;refine bJ 7 I af af af I (bL I) I ?_;apply tH (H:=[some ⟨155,.box [.nil,.nil,.nil]⟩,some ⟨155,.box [.any,.aA 3 0 (j+r),.nil]⟩,some ⟨110,cT (A++[l])⟩,some ⟨118,aQ B⟩]) [(0,.ro (cT M) 0 i),(1,.ro (fH E) 0 gg),(2,.ro (fH F) 0 k),(6,.ptr 0 0 0),(7,ag i),(8,ag k),(9,.ptr 1 0 0),(103,.ro (fH E) 0 gg),(104,ag gg),(105,ag c),(14,ag c),(15,.ro (.ints .i64 (E.getD c [])) 0 i),(110,.agg [.int .i64 1,.int .i64 (-1)]),(111,ag s),(17,.int .i64 (la s)),(21,.int .i64 (ps r)),(141,.aA 2 0 ((j+r)+1)),(143,.aA 3 0 ((j+r))),(146,.ro (ft 1 3 (cb (Iw))) 0 1),(148,.ptr 1 0 0)]
   ·intro fin;refine vk (is:=[1,3,6]) af bZ I ⟨fun o aj=> ?_,fun o aj=> ?_,fun o aj=> ?_,trivial⟩;all_goals (cases aj)
    ·refine bl ?_;refine ed 3 6 ?_ ?_
     ·refine bz ?_;refine ed 4 6 ?_ ?_
      ·refine dt I I I I I I I I I ia I I dW I (by show ((j+r)+1)*24≤_∧(j+r)+1≤_;omega) ?_ c4 ?_
       ·intro aI a7 aP bf;exact hZ [] 1 gD nY A l _ ht 2 aI a7 aP bf
       refine fm [some ⟨155,.box [.nil,.nil,.nil]⟩,some ⟨155,.box [.any,.aA 3 0 (j+r),.nil]⟩,some ⟨110,cT (A++[l])⟩,some ⟨118,aQ B⟩] (aM.eqv (cC.refl _) (aM.eqv (cC.refl _) (aM.eqv (hB [] 1 gD A l _ ht) (aM.eqv (n3 _ _) aM.nil)))) (bI ?_);refine ed 6 8 ?_ ?_
       ·refine bl ?_;refine bJ 11 I af af af I (dh I I I I I I) I ?_;refine bx 8 ?_;refine aZ I I I s9 ?_;unfold cj;refine bI ?_;refine bx 9 ?_;refine bz ?_;exact fin _ aH
       ·refine aZ I I I s9 ?_;unfold cj;refine bI ?_;refine ed 6 9 ?_ ?_
        ·refine bl ?_;refine bJ 11 I af af af I (dh I I I I I I) I ?_;refine bx 9 ?_;refine bz ?_;exact fin _ aH
        ·refine bz ?_;refine bx 6 ?_;refine bl ?_;refine bJ 11 I af af af I (dh I I I I I I) I ?_;exact fin _ aH
      ·refine bl ?_;refine bx 4 ?_;refine dt I I I I I I I I I ia I I dW I (by show ((j+r)+1)*24≤_∧(j+r)+1≤_;omega) ?_ c4 ?_
       ·intro aI a7 aP bf;exact hZ [] 1 gD nY A l _ ht 2 aI a7 aP bf
       refine fm [some ⟨155,.box [.nil,.nil,.nil]⟩,some ⟨155,.box [.any,.aA 3 0 (j+r),.nil]⟩,some ⟨110,cT (A++[l])⟩,some ⟨118,aQ B⟩] (aM.eqv (cC.refl _) (aM.eqv (cC.refl _) (aM.eqv (hB [] 1 gD A l _ ht) (aM.eqv (n3 _ _) aM.nil)))) (bI ?_);refine bJ 11 I af af af I (dh I I I I I I) I ?_;refine bx 8 ?_;refine aZ I I I s9 ?_;unfold cj;refine bI ?_;refine bx 9 ?_;refine bz ?_;exact fin _ aH
     ·refine bl ?_;refine bx 3 ?_;refine bz ?_;refine bx 4 ?_;refine dt I I I I I I I I I ia I I dW I (by show ((j+r)+1)*24≤_∧(j+r)+1≤_;omega) ?_ c4 ?_
      ·intro aI a7 aP bf;exact hZ [] 1 gD nY A l _ ht 2 aI a7 aP bf
      refine fm [some ⟨155,.box [.nil,.nil,.nil]⟩,some ⟨155,.box [.any,.aA 3 0 (j+r),.nil]⟩,some ⟨110,cT (A++[l])⟩,some ⟨118,aQ B⟩] (aM.eqv (cC.refl _) (aM.eqv (cC.refl _) (aM.eqv (hB [] 1 gD A l _ ht) (aM.eqv (n3 _ _) aM.nil)))) (bI ?_);refine bJ 11 I af af af I (dh I I I I I I) I ?_;refine bx 8 ?_;refine aZ I I I s9 ?_;unfold cj;refine bI ?_;refine bx 9 ?_;refine bz ?_;exact fin _ aH
    ·refine bz ?_;refine ed 1 6 ?_ ?_
     ·refine bl ?_;refine ed 4 6 ?_ ?_
      ·refine dt I I I I I I I I I ia I I dW I (by show ((j+r)+1)*24≤_∧(j+r)+1≤_;omega) ?_ c4 ?_
       ·intro aI a7 aP bf;exact hZ [] 1 gD nY A l _ ht 2 aI a7 aP bf
       refine fm [some ⟨155,.box [.nil,.nil,.nil]⟩,some ⟨155,.box [.any,.aA 3 0 (j+r),.nil]⟩,some ⟨110,cT (A++[l])⟩,some ⟨118,aQ B⟩] (aM.eqv (cC.refl _) (aM.eqv (cC.refl _) (aM.eqv (hB [] 1 gD A l _ ht) (aM.eqv (n3 _ _) aM.nil)))) (bI ?_);refine ed 6 8 ?_ ?_
       ·refine bl ?_;refine bJ 11 I af af af I (dh I I I I I I) I ?_;refine bx 8 ?_;refine aZ I I I s9 ?_;unfold cj;refine bI ?_;refine bx 9 ?_;refine bz ?_;exact fin _ aH
       ·refine aZ I I I s9 ?_;unfold cj;refine bI ?_;refine ed 6 9 ?_ ?_
        ·refine bl ?_;refine bJ 11 I af af af I (dh I I I I I I) I ?_;refine bx 9 ?_;refine bz ?_;exact fin _ aH
        ·refine bz ?_;refine bx 6 ?_;refine bl ?_;refine bJ 11 I af af af I (dh I I I I I I) I ?_;exact fin _ aH
      ·refine bl ?_;refine bx 4 ?_;refine dt I I I I I I I I I ia I I dW I (by show ((j+r)+1)*24≤_∧(j+r)+1≤_;omega) ?_ c4 ?_
       ·intro aI a7 aP bf;exact hZ [] 1 gD nY A l _ ht 2 aI a7 aP bf
       refine fm [some ⟨155,.box [.nil,.nil,.nil]⟩,some ⟨155,.box [.any,.aA 3 0 (j+r),.nil]⟩,some ⟨110,cT (A++[l])⟩,some ⟨118,aQ B⟩] (aM.eqv (cC.refl _) (aM.eqv (cC.refl _) (aM.eqv (hB [] 1 gD A l _ ht) (aM.eqv (n3 _ _) aM.nil)))) (bI ?_);refine bJ 11 I af af af I (dh I I I I I I) I ?_;refine bx 8 ?_;refine aZ I I I s9 ?_;unfold cj;refine bI ?_;refine bx 9 ?_;refine bz ?_;exact fin _ aH
     ·refine bl ?_;refine bx 1 ?_;refine bl ?_;refine bx 4 ?_;refine dt I I I I I I I I I ia I I dW I (by show ((j+r)+1)*24≤_∧(j+r)+1≤_;omega) ?_ c4 ?_
      ·intro aI a7 aP bf;exact hZ [] 1 gD nY A l _ ht 2 aI a7 aP bf
      refine fm [some ⟨155,.box [.nil,.nil,.nil]⟩,some ⟨155,.box [.any,.aA 3 0 (j+r),.nil]⟩,some ⟨110,cT (A++[l])⟩,some ⟨118,aQ B⟩] (aM.eqv (cC.refl _) (aM.eqv (cC.refl _) (aM.eqv (hB [] 1 gD A l _ ht) (aM.eqv (n3 _ _) aM.nil)))) (bI ?_);refine bJ 11 I af af af I (dh I I I I I I) I ?_;refine bx 8 ?_;refine aZ I I I s9 ?_;unfold cj;refine bI ?_;refine bx 9 ?_;refine bz ?_;exact fin _ aH
    ·refine bl ?_;refine ed 1 3 ?_ ?_
     ·refine bl ?_;refine bx 3 ?_;refine bz ?_;refine bx 4 ?_;refine dt I I I I I I I I I ia I I dW I (by show ((j+r)+1)*24≤_∧(j+r)+1≤_;omega) ?_ c4 ?_
      ·intro aI a7 aP bf;exact hZ [] 1 gD nY A l _ ht 2 aI a7 aP bf
      refine fm [some ⟨155,.box [.nil,.nil,.nil]⟩,some ⟨155,.box [.any,.aA 3 0 (j+r),.nil]⟩,some ⟨110,cT (A++[l])⟩,some ⟨118,aQ B⟩] (aM.eqv (cC.refl _) (aM.eqv (cC.refl _) (aM.eqv (hB [] 1 gD A l _ ht) (aM.eqv (n3 _ _) aM.nil)))) (bI ?_);refine bJ 11 I af af af I (dh I I I I I I) I ?_;refine bx 8 ?_;refine aZ I I I s9 ?_;unfold cj;refine bI ?_;refine bx 9 ?_;refine bz ?_;exact fin _ aH
     ·refine bz ?_;refine bx 1 ?_;refine bl ?_;refine bx 4 ?_;refine dt I I I I I I I I I ia I I dW I (by show ((j+r)+1)*24≤_∧(j+r)+1≤_;omega) ?_ c4 ?_
      ·intro aI a7 aP bf;exact hZ [] 1 gD nY A l _ ht 2 aI a7 aP bf
      refine fm [some ⟨155,.box [.nil,.nil,.nil]⟩,some ⟨155,.box [.any,.aA 3 0 (j+r),.nil]⟩,some ⟨110,cT (A++[l])⟩,some ⟨118,aQ B⟩] (aM.eqv (cC.refl _) (aM.eqv (cC.refl _) (aM.eqv (hB [] 1 gD A l _ ht) (aM.eqv (n3 _ _) aM.nil)))) (bI ?_);refine bJ 11 I af af af I (dh I I I I I I) I ?_;refine bx 8 ?_;refine aZ I I I s9 ?_;unfold cj;refine bI ?_;refine bx 9 ?_;refine bz ?_;exact fin _ aH
   refine bx 10 ?_;refine dt I I I I I I I I I zO I I dW I (by show ((j+r)+1)*56≤_∧(j+r)+1≤_;omega) ?_ c4 ?_
   ·intro aI a7 aP bf;exact hZ 0 3 cb tC B (Iw) _ (mC _) 3 aI a7 aP bf
   refine fm [some ⟨155,.box [.nil,.nil,.nil]⟩,some ⟨155,.box [.any,.any,.nil]⟩,some ⟨110,cT (A++[l])⟩,some ⟨118,aQ (B++[Iw])⟩] (aM.eqv (cC.refl _) (aM.eqv (cC.refl _) (aM.eqv (T8 _ _) (aM.eqv (hB 0 3 cb B (Iw) _ (mC _)) aM.nil)))) (bI ?_);refine bx 12 ?_;refine rl ?_;refine bJ 13 I af af af I (dh I I I I I I) I ?_;refine bx 14 ?_;refine rl ?_;refine eM af (bt ?_);exact ca ⟨s+1,J,J,aH,by rw [lR,FV,tb,FW,show j+(2*c+(s+1))=j+r+1 by omega];rfl⟩
  ·have aaq:s=2:=J;subst aaq;refine bt ?_;exact ca ⟨c+1,J,J,aH,by rw [show 2*(c+1)=2*c+2 by omega]⟩
 have x0:c=gg:=J;subst x0;have ia:(km M E F n j k (2*c)).length=j+2*c:=Iq ..;have zO:(mu j (2*c)).length=j+2*c:=Ny ..;have Jb:((List.replicate (n+2*k) (0:Rat)).set n 1).set (n+k) (-1)=ve n k:=rfl;generalize km M E F n j k (2*c)=A at*;generalize mu j (2*c)=B at*;refine bt ?_;refine an (Gq I I J) ?_;repeat (refine an (hl rfl rfl J) ?_)
 refine bP 155 (.int .i64 ((n+2*k:Nat))) I (aV.of_eq (by congr 1)) ?_;refine nk I I I Kx ?_;generalize List.replicate (n+2*k) (0:Rat)=R at*;have sb:bD Tryz.prog 113 [.int .i64 (-1)] (cj (-1)):=y0 (-1) a6;have hs:n<(aQ R).len:=by show n<R.length;omega
 have Cn:n+k<(aQ (R.set n 1)).len:=by show n+k<(List.set _ _ _).length;rw [dj];omega
 refine fx ?_;refine eN af ?_;apply tH (H:=[some ⟨155,.box [.nil,.nil,.nil]⟩,some ⟨155,.box [.aA 2 0 (j+2*c),.aA 3 0 (j+2*c),.aA 4 0 (n+2*k)]⟩,some ⟨110,cT A⟩,some ⟨118,aQ B⟩,some ⟨118,aQ (R.set n 1)⟩]) [(0,.ro (cT M) 0 n),(1,.ro (fH E) 0 c),(2,.ro (fH F) 0 k),(6,.ptr 0 0 0),(7,ag n),(8,ag k),(9,.ptr 1 0 0),(162,.aA 4 0 (n+2*k)),(165,ag (n+k)),(167,cj (-1))]
 ·intro fin;refine bJ 0 I af af af I (dh I I I I I I) I ?_;refine bJ 2 I af af af I (bL I) I ?_;refine bJ 3 I af af af I (dh I I I I I I) I ?_;refine bJ 5 I af af af I (bL I) I ?_;refine bJ 6 I af af af I (bL I) I ?_;refine bJ 7 I af af af I (hl I I J) I ?_;refine vk (is:=[1,4,8]) af bZ I ⟨fun o aj=> ?_,fun o aj=> ?_,fun o aj=> ?_,trivial⟩;all_goals (cases aj)
  ·refine bl ?_;refine ed 4 8 ?_ ?_
   ·refine bl ?_;refine bx 8 ?_;refine aZ I I I uc (bI ?_);refine bx 9 ?_;refine aZ I I I sb ?_;unfold cj;refine bI ?_;refine bJ 10 I af af af I (gk I I I I I (by first|(simp only [c1,cA,gn];exact I)|exact I) J) I ?_;refine bx 11 ?_;refine er (c':=aQ (R.set n 1)) I I I I I hs nb I (fun aI a7 aP bf=>iN 0 3 cb R n 1 hs aI a7 aP bf) (bI ?_);exact fin _ aH
   ·refine aZ I I I uc (bI ?_);refine ed 4 9 ?_ ?_
    ·refine bl ?_;refine bx 9 ?_;refine aZ I I I sb ?_;unfold cj;refine bI ?_;refine bJ 10 I af af af I (gk I I I I I (by first|(simp only [c1,cA,gn];exact I)|exact I) J) I ?_;refine bx 11 ?_;refine er (c':=aQ (R.set n 1)) I I I I I hs nb I (fun aI a7 aP bf=>iN 0 3 cb R n 1 hs aI a7 aP bf) (bI ?_);exact fin _ aH
    ·refine aZ I I I sb ?_;unfold cj;refine bI ?_;refine bJ 10 I af af af I (gk I I I I I (by first|(simp only [c1,cA,gn];exact I)|exact I) J) I ?_;refine ed 4 11 ?_ ?_
     ·refine bl ?_;refine bx 11 ?_;refine er (c':=aQ (R.set n 1)) I I I I I hs nb I (fun aI a7 aP bf=>iN 0 3 cb R n 1 hs aI a7 aP bf) (bI ?_);exact fin _ aH
     ·refine er (c':=aQ (R.set n 1)) I I I I I hs nb I (fun aI a7 aP bf=>iN 0 3 cb R n 1 hs aI a7 aP bf) (bI ?_);refine bx 4 ?_;refine bl ?_;exact fin _ aH
  ·refine bl ?_;refine ed 1 8 ?_ ?_
   ·refine bl ?_;refine bx 8 ?_;refine aZ I I I uc (bI ?_);refine bx 9 ?_;refine aZ I I I sb ?_;unfold cj;refine bI ?_;refine bJ 10 I af af af I (gk I I I I I (by first|(simp only [c1,cA,gn];exact I)|exact I) J) I ?_;refine bx 11 ?_;refine er (c':=aQ (R.set n 1)) I I I I I hs nb I (fun aI a7 aP bf=>iN 0 3 cb R n 1 hs aI a7 aP bf) (bI ?_);exact fin _ aH
   ·refine aZ I I I uc (bI ?_);refine ed 1 9 ?_ ?_
    ·refine bl ?_;refine bx 9 ?_;refine aZ I I I sb ?_;unfold cj;refine bI ?_;refine bJ 10 I af af af I (gk I I I I I (by first|(simp only [c1,cA,gn];exact I)|exact I) J) I ?_;refine bx 11 ?_;refine er (c':=aQ (R.set n 1)) I I I I I hs nb I (fun aI a7 aP bf=>iN 0 3 cb R n 1 hs aI a7 aP bf) (bI ?_);exact fin _ aH
    ·refine aZ I I I sb ?_;unfold cj;refine bI ?_;refine bx 1 ?_;refine bl ?_;refine bJ 10 I af af af I (gk I I I I I (by first|(simp only [c1,cA,gn];exact I)|exact I) J) I ?_;refine bx 11 ?_;refine er (c':=aQ (R.set n 1)) I I I I I hs nb I (fun aI a7 aP bf=>iN 0 3 cb R n 1 hs aI a7 aP bf) (bI ?_);exact fin _ aH
  ·refine aZ I I I uc (bI ?_);refine vk (is:=[1,4,9]) af bZ I ⟨fun o aj=> ?_,fun o aj=> ?_,fun o aj=> ?_,trivial⟩;all_goals (cases aj)
   ·refine bl ?_;refine ed 4 9 ?_ ?_
    ·refine bl ?_;refine bx 9 ?_;refine aZ I I I sb ?_;unfold cj;refine bI ?_;refine bJ 10 I af af af I (gk I I I I I (by first|(simp only [c1,cA,gn];exact I)|exact I) J) I ?_;refine bx 11 ?_;refine er (c':=aQ (R.set n 1)) I I I I I hs nb I (fun aI a7 aP bf=>iN 0 3 cb R n 1 hs aI a7 aP bf) (bI ?_);exact fin _ aH
    ·refine aZ I I I sb ?_;unfold cj;refine bI ?_;refine bJ 10 I af af af I (gk I I I I I (by first|(simp only [c1,cA,gn];exact I)|exact I) J) I ?_;refine ed 4 11 ?_ ?_
     ·refine bl ?_;refine bx 11 ?_;refine er (c':=aQ (R.set n 1)) I I I I I hs nb I (fun aI a7 aP bf=>iN 0 3 cb R n 1 hs aI a7 aP bf) (bI ?_);exact fin _ aH
     ·refine er (c':=aQ (R.set n 1)) I I I I I hs nb I (fun aI a7 aP bf=>iN 0 3 cb R n 1 hs aI a7 aP bf) (bI ?_);refine bx 4 ?_;refine bl ?_;exact fin _ aH
   ·refine bl ?_;refine ed 1 9 ?_ ?_
    ·refine bl ?_;refine bx 9 ?_;refine aZ I I I sb ?_;unfold cj;refine bI ?_;refine bJ 10 I af af af I (gk I I I I I (by first|(simp only [c1,cA,gn];exact I)|exact I) J) I ?_;refine bx 11 ?_;refine er (c':=aQ (R.set n 1)) I I I I I hs nb I (fun aI a7 aP bf=>iN 0 3 cb R n 1 hs aI a7 aP bf) (bI ?_);exact fin _ aH
    ·refine aZ I I I sb ?_;unfold cj;refine bI ?_;refine bx 1 ?_;refine bl ?_;refine bJ 10 I af af af I (gk I I I I I (by first|(simp only [c1,cA,gn];exact I)|exact I) J) I ?_;refine bx 11 ?_;refine er (c':=aQ (R.set n 1)) I I I I I hs nb I (fun aI a7 aP bf=>iN 0 3 cb R n 1 hs aI a7 aP bf) (bI ?_);exact fin _ aH
   ·refine aZ I I I sb ?_;unfold cj;refine bI ?_;refine ed 1 4 ?_ ?_
    ·refine bl ?_;refine bJ 10 I af af af I (gk I I I I I (by first|(simp only [c1,cA,gn];exact I)|exact I) J) I ?_;refine ed 4 11 ?_ ?_
     ·refine bl ?_;refine bx 11 ?_;refine er (c':=aQ (R.set n 1)) I I I I I hs nb I (fun aI a7 aP bf=>iN 0 3 cb R n 1 hs aI a7 aP bf) (bI ?_);exact fin _ aH
     ·refine er (c':=aQ (R.set n 1)) I I I I I hs nb I (fun aI a7 aP bf=>iN 0 3 cb R n 1 hs aI a7 aP bf) (bI ?_);refine bx 4 ?_;refine bl ?_;exact fin _ aH
    ·refine bl ?_;refine bx 1 ?_;refine bl ?_;refine bJ 10 I af af af I (gk I I I I I (by first|(simp only [c1,cA,gn];exact I)|exact I) J) I ?_;refine bx 11 ?_;refine er (c':=aQ (R.set n 1)) I I I I I hs nb I (fun aI a7 aP bf=>iN 0 3 cb R n 1 hs aI a7 aP bf) (bI ?_);exact fin _ aH
 refine bJ 12 I af af af I (gk I I I I I (by first|(simp only [c1,cA,gn];exact I)|exact I) J) I ?_;refine bx 13 ?_;unfold cj;refine er (c':=aQ (ve n k)) I I I I I Cn (by rw [←Jb];show (List.set _ _ _).length=_;rw [dj];rfl) I (fun aI a7 aP bf=>by rw [←Jb];exact iN 0 3 cb (R.set n 1) (n+k) (-1) Cn aI a7 aP bf) (bI ?_);refine eM af ?_;have Yj:(ve n k).length=n+2*k:=by rw [←Jb,dj,dj];exact aaK
 generalize ve n k=C at*;refine kv ?_;refine aiQ [none,none,some ⟨110,cT A⟩,some ⟨118,aQ B⟩,some ⟨118,aQ C⟩] [some ⟨155,.box [.nil,.nil,.nil]⟩,some ⟨155,.box [.ro (cT A) 0 (j+2*c),.ro (aQ B) 0 (j+2*c),.ro (aQ C) 0 (n+2*k)]⟩,none,none,none] [(6,.ptr 0 0 0),(9,.ptr 1 0 0)] ?_ ?_ I ?_ ⟨⟨_,I,.inl I⟩,⟨_,I,.inl I⟩,trivial⟩ ?_
 ·intro h o aj
  match h,aj with
  |0,aj=>simp at aj
  |1,aj=>simp at aj
  |2,aj=>exact aj
  |3,aj=>exact aj
  |4,aj=>exact aj
  |_+5,aj=>simp at aj
 ·intro h o aj
  match h,aj with
  |0,aj=>simp at aj
  |1,aj=>simp at aj
  |2,aj=>cases aj;exact agy _
  |3,aj=>cases aj;exact n1 _
  |4,aj=>cases aj;exact n1 _
  |_+5,aj=>simp at aj
 ·intro h o aj
  match h,aj with
  |0,aj=>cases aj;exact ⟨fun o h=>by simp at h,_,rfl,rfl,rfl,rfl,fun i j _ _=> .inl rfl⟩
  |1,aj=>
   cases aj;refine ⟨fun o h=>by simp at h,_,I,I,I,I,fun i P3 _ ae=> ?_⟩;have ae:P3<3:=ae
   match P3,ae with
   |0,_=>exact .inr (.inr ⟨rfl,fun o aj=>by cases aj;show 0+(j+2*c)≤A.length;omega⟩)
   |1,_=>exact .inr (.inr ⟨rfl,fun o aj=>by cases aj;show 0+(j+2*c)≤B.length;omega⟩)
   |2,_=>exact .inr (.inr ⟨rfl,fun o aj=>by cases aj;show 0+(n+2*k)≤C.length;omega⟩)
  |2,aj=>simp at aj
  |3,aj=>simp at aj
  |4,aj=>simp at aj
  |_+5,aj=>simp at aj
 refine bm ?_;refine dP (c':= .box [.ro (cT A) 0 (j+2*c),.ro (aQ B) 0 (j+2*c),.ro (aQ C) 0 (n+2*k)]) I I I I I I I (bN ?_);exact bd ay I I
end Go.Proofs.YtmpnheilfejcpaaGreatDoor
