import Derived.Shelf.Strconv.Itoa3
import Derived.Shelf.Pu.ParseUintPublic10
import Derived.Shelf.Bits.Mul64
import Derived.Shelf.Strings.OnBuilder
import Derived.Test.YtmpnheilfejcpaaGreatDoorProg
import Derived.Test.YtmpnheilfejcpaaGreatDoorC5
set_option linter.unusedVariables false
set_option linter.unusedSimpArgs false
set_option maxRecDepth 100000
set_option maxHeartbeats 4000000
namespace Go.Proofs.YtmpnheilfejcpaaGreatDoor
open Go.ai Go.ai.c8 Go.RowKit
attribute [local irreducible] ai ek bV cg
theorem Q4 (a b:Nat)(mT:b≤a)(a1:(aW a).length≤100000000):bD Tryz.prog 212 [br a,br b] (br (a-b)):=by
 refine cm Tryz.f212 fun c ay bK=> ?_;have ar:=ij a;have aY:=ij b;have hlen:(aW b).length≤(aW a).length:=nj (by have:=jf ar;rw [gT] at this;omega);have aaD:bo (aW a)=a:=gT a;have F2:bo (aW b)=b:=gT b;have ale:a<B^(aW a).length:=by have:=jf ar;rwa [gT] at this
 unfold br;generalize aW a=x at*;generalize aW b=y at*;refine bz ?_;refine l6 I I I I I I I I (by show (0:Int)≤0∧_≤_∧(4:Int)*_≤_∧_;omega) (bz ?_);refine HE 0 (.ints .u32 []) I ⟨cf _,I,fun i j aa _=>absurd aa (gy _)⟩ ?_;refine cJ (ι:=Nat×List Int×Nat) (fun p=>[(1,.ro (.ints .u32 y) 0 y.length),(5,.aA 0 0 p.1),(6,ag p.2.2),(13,.ro (.ints .u32 x) 0 x.length),(14,ag x.length),(15,ag p.1)]) (fun p=>[some ⟨218,.ints .u32 p.2.1⟩])
  (fun p=>p.1≤x.length∧p.2.1.length=p.1∧cG p.2.1∧p.2.2≤1∧bo p.2.1+bo (y.take p.1)=bo (x.take p.1)+B^p.1*p.2.2) (fun p=>x.length-p.1) (0,[],0) ⟨aH,rfl,cf _,rfl,cG.nil,a6,by simp [bo]⟩ ?_
 rintro ⟨i,out,h7⟩ ⟨U,ab,aw,bg,bF⟩;simp only at*;refine bl ?_;refine bB I (fun dm=> ?_) (fun dm=> ?_)
 ·have lV:i<x.length:=J;obtain ⟨d,hd,x2⟩:=ar.nat i;obtain ⟨e,he,Pe⟩:=aY.nat i;refine bm ?_;refine bP 20 (.int .u32 (d:Nat)) I (aV.of_eq (by rw [hd])) ?_;refine an (Bi (m:=d) I I I J) (cM ?_);apply j4 (H:=[some ⟨218,.ints .u32 out⟩]) [(1,.ro (.ints .u32 y) 0 y.length),(5,.aA 0 0 i),(9,.int .i64 ((d:Int)-(h7:Int)-(e:Int))),(13,.ro (.ints .u32 x) 0 x.length),(14,ag x.length),(15,ag i)]
  ·intro fin;refine bB I (fun fi=> ?_) (fun fi=> ?_)
   ·refine bm ?_;refine bP 32 (.int .u32 (e:Nat)) I (aV.of_eq (by rw [he])) ?_;refine an (Bi (m:=e) I I I J) ?_;refine dS ?_;exact fin _ aH
   ·have JJ:e=0:=by
     have:y.getD i 0=0:=by simp [List.getD,jT (show y.length≤i by omega)]
     omega
    subst JJ;refine dS ?_;exact fin _ ⟨I,I,by show some (al.int .i64 ((d:Int)-(h7:Int)))=_;simp,I,I,I,trivial⟩
  obtain ⟨yv,r9,aaU,Jx,aaS⟩: ∃yv r9:Nat,yv+h7+e=d+4294967296*r9∧r9≤1∧yv<4294967296:=by
   rcases ga d (h7+e) with q|q
   ·exact ⟨d+4294967296-h7-e,1,J,J,J⟩
   ·exact ⟨d-h7-e,0,J,J,J⟩
  refine bl ?_;apply j4 (H:=[some ⟨218,.ints .u32 out⟩]) [(1,.ro (.ints .u32 y) 0 y.length),(5,.aA 0 0 i),(6,ag r9),(9,ag yv),(13,.ro (.ints .u32 x) 0 x.length),(14,ag x.length),(15,ag i)]
  ·intro fin;refine bB I (fun fi=> ?_) (fun fi=> ?_)
   ·have:r9=1:=J;skip
    refine c0 I ?_;refine dS ?_;subst this;exact fin _ ⟨I,I,I,by show some (al.int .i64 ((d:Int)-(h7:Int)-(e:Int)+4294967296))=_;congr 2;omega,I,I,I,trivial⟩
   ·have:r9=0:=J;subst this;refine dS ?_;exact fin _ ⟨I,I,I,by show some (al.int .i64 ((d:Int)-(h7:Int)-(e:Int)))=_;congr 2;omega,I,I,I,trivial⟩
  refine bN ?_;refine an (gU (m:=yv) I I I kx aaS) ?_;repeat (refine iG rfl rfl rfl rfl rfl rfl rfl rfl rfl rfl rfl ?_)
  refine dt I I I I I I I I I ab I I (bR 1) I (by show (i+1)*4≤_∧_;omega) (fun i j _ _=>rfl) c4 (bt ?_);exact ca ⟨(i+1,out++[(yv:Int)],r9),⟨by simp only;omega,by simp [ab],cG.append.2 ⟨aw,cG.one J⟩,Jx,aki ab bF hd he aaU⟩,by simp only;omega,aH,I⟩
 ·have df:i=x.length:=J;subst df;rw [gb,jU hlen,aaD,F2] at bF;have av:=tW _ aw J;have ah:bo out=a-b:=by
   have Z9:=jf aw;rw [ab] at Z9;have:h7=0∨h7=1:=J;rcases this with rfl|rfl
   ·rw [rY] at bF;omega
   ·rw [q3] at bF;omega
  rw [ah] at av;refine bt ?_;refine rC 0 45 x.length [] I lb I (by show _≤out.length;omega) trivial ?_;refine aZ I I (wX ab) av (bN ?_);exact bd ay I I
theorem RU (n:List Int)(x:Nat)(aF:cG n)(hlen:n.length≤100000000)(ar:0<x∧x<4294967296):
 bD Tryz.prog 222 [mb n,.int .u32 (x:Nat)] (.cd [br (bo n/x),.int .u32 (bo n%x:Nat)]):=by
 refine cm Tryz.f222 fun c ay bK=> ?_;unfold mb;refine bz ?_;refine l6 I I I I I I I I (by show (0:Int)≤_∧_≤_∧(4:Int)*_≤_∧_;omega) (cM ?_);refine cJ (ι:=Nat×List Int×Nat) (fun p=>[(0,.ro (.ints .u32 n) 0 n.length),(1,.int .u32 (x:Nat)),(6,.aA 0 0 n.length),(7,.int .u64 (p.2.2:Nat)),(8,.int .i64 ((p.1:Int)-1))]) (fun p=>[some ⟨218,.ints .u32 p.2.1⟩])
  (fun p=>p.1≤n.length∧p.2.1.length=n.length∧cG p.2.1∧p.2.2<x∧bo (n.drop p.1)=x*bo (p.2.1.drop p.1)+p.2.2) (fun p=>p.1) (n.length,List.replicate n.length 0,0) ⟨aH,rfl,bR _,bZ,cG.xn _,ar.1,by simp [bo]⟩ ?_
 rintro ⟨i,out,rs⟩ ⟨U,ab,aw,bg,bF⟩;simp only at*;refine cM ?_;refine bB I (fun dm=> ?_) (fun dm=> ?_)
 ·obtain ⟨j,rfl⟩: ∃j,i=j+1:=⟨i-1,J⟩
  obtain ⟨d,hd,x2⟩:=aF.nat j;have E1:(((j+1:Nat):Int)-1)=(j:Nat):=J;have XK:(((j+1:Nat):Int)-1).toNat=j:=J;have Ku:rs*4294967296+d<x*4294967296:=by have:(rs+1)*4294967296≤x*4294967296:=fo _ bg;omega
  have aB:(rs*4294967296+d)/x<4294967296:=vU Ku;have hm:(rs*4294967296+d)%x<x:=kA _ ar.1;have Zk:=xG (rs*4294967296+d) x;generalize wv:(rs*4294967296+d)/x=q at*;generalize Ad:(rs*4294967296+d)%x=r at*;refine bI ?_;refine an (Er (m:=rs) (s:=32) I I a6 ey (BG J)) (bm ?_);refine bP 24 (.int .u32 (d:Nat)) I (aV.of_eq (by rw [XK,hd])) ?_;refine an (gU (m:=d) I I I ey J) ?_;refine an (bV.res (Ew I I ey I (BG J) J) (by rw [Nv x2])) (bN ?_);refine an (gU (m:=x) I I I ey J) ?_;refine an (bV.res (QI I I ey J ar.1) (by rw [wv])) ?_;refine an (gU (m:=q) I I I kx aB) ?_;refine bP 28 (ag j) I (aV.of_eq (by rw [E1])) (cM ?_);refine an (gU (m:=x) I I I ey J) ?_;refine an (bV.res (ady I I ar.1) (by rw [Ad])) (cM ?_);refine ca ⟨(j,out.set j (q:Int),r),⟨by simp only;omega,by simp [ab],aw.set J,hm,?_⟩,by simp only;omega,⟨I,I,I,I,?_,trivial⟩,I⟩
  rotate_left
  ·show some (al.int .i64 _)=_;congr 2;omega
  simp only;rw [agV J,agu,hd,cA,bF];simp only [bo,cA];have aD:x*(q+B*bo (out.drop (j+1)))=x*q+B*(x*bo (out.drop (j+1))):=by rw [gN,Nat.mul_left_comm]
  rw [aD,gN];generalize x*bo (out.drop (j+1))=w at*;generalize x*q=mw at*;show d+(4294967296*w+4294967296*rs)=mw+4294967296*w+r;omega
 ·have df:i=0:=J;subst df;rw [s5,s5] at bF;have ah:bo out=bo n/x∧rs=bo n%x:=by
   rw [bF,gM];constructor
   ·rw [oE,Nat.add_mul_div_right _ _ ar.1,ox bg,c1]
   ·rw [oE,Nat.add_mul_mod_self_right,mK bg]
  have av:=tW _ aw J;rw [ah.1] at av;obtain ⟨_,PT⟩:=ah;refine bt ?_;refine rC 0 39 n.length [(7,.int .u64 (rs:Nat))] I lb I (by show _≤out.length;omega) ⟨I,trivial⟩ ?_;refine aZ I I (wX ab) av ?_;repeat (refine an (bL rfl) ?_)
  refine an (gU (m:=rs) I I I kx J) (bN ?_);refine bd ay I ?_;rw [PT];rfl
theorem Ip (a b:Nat)(a1:(aW a).length≤100000000)(ak:(aW b).length≤100000000):bD Tryz.prog 183 [br a,br b] (br (a*b)):=by
 refine cm Tryz.f183 fun c ay bK=> ?_;have ar:=ij a;have aY:=ij b;have ah:bo (aW a)*bo (aW b)=a*b:=by rw [gT,gT]
 unfold br;rw [←ah] at ay;generalize aW a=x at*;generalize aW b=y at*;refine bz ?_;refine l6 I I I I I I I I (by show (0:Int)≤_∧_≤_∧(4:Int)*_≤_∧_;omega) ?_;rw [show ((x.length:Int)+(y.length:Int)).toNat=x.length+y.length by omega];refine bz ?_;refine cJ (ι:=Nat×List Int) (fun p=>[(1,.ro (.ints .u32 y) 0 y.length),(5,.aA 0 0 (x.length+y.length)),(17,.ro (.ints .u32 x) 0 x.length),(18,.int .i64 (x.length:Nat)),(19,.int .i64 (p.1:Nat))]) (fun p=>[some ⟨218,.ints .u32 p.2⟩])
  (fun p=>p.1≤x.length∧p.2.length=x.length+y.length∧cG p.2∧bo p.2=bo (x.take p.1)*bo y∧ ∀q,p.1+y.length≤q→p.2.getD q 0=0) (fun p=>x.length-p.1) (0,List.replicate (x.length+y.length) 0) ⟨aH,rfl,cf _,bZ,cG.xn _,by simp [bo,LW],fun q _=>UU _ _⟩ ?_
 rintro ⟨i,out⟩ ⟨U,ab,aw,bg,bF⟩;simp only at*;refine bl ?_;refine bB I (fun dm=> ?_) (fun dm=> ?_)
 ·have lV:i<x.length:=J;obtain ⟨d,hd,x2⟩:=ar.nat i;refine bm ?_;refine eA 7 (.int .u32 (d:Nat)) I (aV.of_eq (by rw [hd])) ?_;refine cJ (ι:=Nat×List Int×Nat) (fun p=>[(1,.ro (.ints .u32 y) 0 y.length),(5,.aA 0 0 (x.length+y.length)),(6,.int .i64 (i:Nat)),(7,.int .u32 (d:Nat)),(8,.int .u64 (p.2.2:Nat)),(17,.ro (.ints .u32 x) 0 x.length),(18,.int .i64 (x.length:Nat)),(19,.int .i64 (i:Nat)),(24,.ro (.ints .u32 y) 0 y.length),(25,.int .i64 (y.length:Nat)),(26,.int .i64 (p.1:Nat))]) (fun p=>[some ⟨218,.ints .u32 p.2.1⟩])
   (fun p=>p.1≤y.length∧p.2.1.length=x.length+y.length∧cG p.2.1∧p.2.2<4294967296∧bo p.2.1+B^(i+p.1)*p.2.2=bo (x.take i)*bo y+B^i*(d*bo (y.take p.1))∧ ∀q,i+y.length≤q→p.2.1.getD q 0=0) (fun p=>y.length-p.1) (0,out,0) ⟨aH,rfl,cf _,ab,aw,Nat.zero_lt_succ _,by simp [bo,bg],bF⟩ ?_
  rintro ⟨j,o2,dc⟩ ⟨eF,eG,gB,ql,sw,C1⟩;simp only at*;refine bl ?_;refine bB I (fun KK=> ?_) (fun KK=> ?_)
  ·have x7:j<y.length:=J;obtain ⟨e,he,Pe⟩:=aY.nat j;obtain ⟨f,aN,alo⟩:=gB.nat (i+j);have sk:d*e≤4294967295*4294967295:=jB J J;refine bm ?_;refine an (gU (m:=d) I I I ey J) ?_;repeat (refine an (bL rfl) ?_)
   refine bP 34 (.int .u32 (e:Nat)) I (aV.of_eq (by rw [he])) ?_;refine an (gU (m:=e) I I I ey J) ?_;refine an (BF I I ey J) (bz ?_);refine bP 40 (.int .i64 (i+j:Nat)) I (aV.of_eq (by rw [Int.natCast_add])) (cM ?_);refine bP 42 (.int .u32 (f:Nat)) I (aV.of_eq (by rw [aN])) ?_;refine an (gU (m:=f) I I I ey J) ?_;refine an (ue I I ey J) ?_;refine an (ue I I ey J) (bz ?_);refine an (vD I I I kx) ?_;refine bP 49 (.int .i64 (i+j:Nat)) I (aV.of_eq (by rw [Int.natCast_add])) (cM ?_);refine an (vE (s:=32) I I I) (bt ?_);refine ca ⟨(j+1,o2.set (i+j) (((dc+(d*e+f))%4294967296:Nat):Int),(dc+(d*e+f))/4294967296),⟨by simp only;omega,by simp [eG],gB.set (tV _),by simp only;omega,?_,fun q aB=> ?_⟩,by simp only;omega,aH,I⟩
   ·have:=abZ (dc:=dc) (a:=d) (b:=e) (p:=i+j) J sw aN;simp only;rw [show i+(j+1)=i+j+1 from rfl,this,lC y j,he,cA,kC];congr 1;rw [gN,gN,jm];congr 1
    ac_rfl
   ·simp only;rw [Du J];exact C1 q aB
  ·have gI:j=y.length:=J;subst gI;rw [gb] at sw;have bw:=C1 (i+y.length) (bR _);have cS:=M3 (x:=(dc:Int)) (show i+y.length<o2.length by omega);rw [bw,cA] at cS;refine bt ?_;refine an (gU (m:=dc) I I I kx ql) ?_;refine bP 60 (.int .i64 (i+y.length:Nat)) I (aV.of_eq (by rw [Int.natCast_add])) (cM ?_);refine ca ⟨(i+1,o2.set (i+y.length) (dc:Int)),⟨by simp only;omega,by simp [eG],gB.set J,?_,fun q aB=> ?_⟩,by simp only;omega,aH,I⟩
   ·simp only;rw [lC x i,hd,cA,ef,ke,←sw];have:(0:Int).toNat=0:=rfl;rw [this] at cS;omega
   ·simp only at aB⊢;rw [Du J];exact C1 q J
 ·have df:i=x.length:=J;subst df;rw [gb] at bg;have av:=tW _ aw J;rw [bg] at av;refine bt ?_;refine rC 0 65 (x.length+y.length) [] I lb I (by show _≤out.length;omega) trivial ?_;refine aZ I I (wX ab) av (bN ?_);exact bd ay I I
theorem UJ (n:List Int)(s:Nat)(aF:cG n)(hlen:n.length≤100000000)(ax:s<32):
 za Tryz.prog 223 [mb n,.int .i64 (s:Nat)] (fun h=> .aA h 0 (n.length+1)) ⟨218,.ints .u32 (fD (n.length+1) (bo n*2^s))⟩:=by
 refine cg.fresh (K:=fun r H=>r= .aA 0 0 (n.length+1)∧H=[some ⟨218,.ints .u32 (fD (n.length+1) (bo n*2^s))⟩]) (hq (P:=Tryz.prog) (fn:=Tryz.f223) I I af I (fun c ay bK=> ?_)) (fix:=fun _=>False) (fun _ h=>h) I (fun H=>⟨I,trivial,trivial,trivial⟩) ?_
 ·have aJ:2^s≤2147483648:=by have:=gp (show 0<2 by decide) (show s≤31 by omega);exact dT this a6
  have CO:0<2^s:=mM a6;unfold mb;refine bz ?_;refine l6 I I I I I I I I (by show (0:Int)≤0∧_≤_∧(4:Int)*_≤_∧_;omega) (bz ?_);refine HE 0 (.ints .u32 []) I ⟨cf _,I,fun i j aa _=>absurd aa (gy _)⟩ ?_;refine cJ (ι:=Nat×List Int×Nat) (fun p=>[(1,.int .i64 (s:Nat)),(5,.aA 0 0 p.1),(6,.int .u64 (p.2.2:Nat)),(13,.ro (.ints .u32 n) 0 n.length),(14,.int .i64 (n.length:Nat)),(15,.int .i64 (p.1:Nat))]) (fun p=>[some ⟨218,.ints .u32 p.2.1⟩])
   (fun p=>p.1≤n.length∧p.2.1.length=p.1∧cG p.2.1∧p.2.2<2^s∧bo p.2.1+B^p.1*p.2.2=bo (n.take p.1)*2^s) (fun p=>n.length-p.1) (0,[],0) ⟨aH,rfl,cf _,rfl,cG.nil,CO,by simp [bo]⟩ ?_
  rintro ⟨i,out,dc⟩ ⟨U,ab,aw,bg,bF⟩;simp only at*;refine bl ?_;refine bB I (fun dm=> ?_) (fun dm=> ?_)
  ·have lV:i<n.length:=J;obtain ⟨d,hd,x2⟩:=aF.nat i;have aaa:dc|||d*2^s=dc+d*2^s:=by have:=Nat.two_pow_add_eq_or_of_lt bg d;rw [Nat.or_comm,gM d,←this,oE]
   have Zk:d*2^s≤4294967295*2147483648:=jB J aJ;have aB:(dc+d*2^s)/4294967296<2^s:=by refine vU ?_;have:(d+1)*2^s≤4294967296*2^s:=fo _ J;rw [ef] at this;omega
   refine bm ?_;refine bP 20 (.int .u32 (d:Nat)) I (aV.of_eq (by rw [hd])) ?_;refine an (gU (m:=d) I I I ey J) ?_;repeat (refine an (bL rfl) ?_)
   refine an (Er (m:=d) (s:=s) I I (by show s≤64;omega) ey J) ?_;refine an (bV.res (Ew I I ey I J J) (by rw [aaa])) (bN ?_);refine an (vD I I I kx) ?_;repeat (refine iG rfl rfl rfl rfl rfl rfl rfl rfl rfl rfl rfl ?_)
   refine dt I I I I I I I I I ab I I (bR 1) I (by show (i+1)*4≤_∧_;omega) (fun i j _ _=>rfl) c4 (bN ?_);refine an (vE (s:=32) I I I) (bt ?_);refine ca ⟨(i+1,out++[(((dc+d*2^s)%4294967296:Nat):Int)],(dc+d*2^s)/4294967296),⟨by simp only;omega,by simp [ab],cG.append.2 ⟨aw,cG.one (tV _)⟩,aB,?_⟩,by simp only;omega,aH,I⟩;have:=LS ab bF (c:=dc+d*2^s) (d:=d*2^s) rfl;simp only at this⊢;rw [this,lC n i,hd,cA,ef,ke]
  ·have df:i=n.length:=J;subst df;rw [gb] at bF;refine bt ?_;refine an (gU (m:=dc) I I I kx J) ?_;repeat (refine iG rfl rfl rfl rfl rfl rfl rfl rfl rfl rfl rfl ?_)
   refine dt I I I I I I I I I ab I I (bR 1) I (by show (n.length+1)*4≤_∧_;omega) (fun i j _ _=>rfl) c4 ?_;have au:cG (out++[(dc:Int)]):=cG.append.2 ⟨aw,cG.one J⟩;have ah:bo (out++[(dc:Int)])=bo n*2^s:=by rw [yK,ab,cA];exact bF
   have kj:=Bu au (k:=n.length+1) (by simp [ab]) ah;refine bN ?_;refine bd ay I ⟨I,?_⟩;show ([some ⟨218,.ints .u32 (out++[(dc:Int)])⟩]:aX)=_;rw [kj]
 ·rintro r H ⟨rfl,rfl⟩;refine ⟨fun o aj=>by simp at aj;subst aj;show 0+(n.length+1)≤(fD _ _).length;rw [pO];omega,vH lb,0,rfl,fun k=>rfl⟩
theorem Xt (A du C V:List Int)(j s:Nat)(pg:aX)(ae:A.length=j)(ax:2≤s)(au:du.length=s+1)(FI:V.length=s)(qd:cG du)(qe:cG V)(Ku:2147483648≤V.getD (s-1) 0)(bC:bo du<4294967296*bo V)(cq:(A++(du++C)).length≤1000000000):
 cg Tryz.prog 224 [.aA 0 j (s+1),mb V] (some ⟨218,.ints .u32 (A++(du++C))⟩::pg) (fun h=>h<pg.length+1)
  (fun r H=>r= .int .u32 (bo du/bo V:Nat)∧H=some ⟨218,.ints .u32 (A++(fD (s+1) (bo du%bo V)++C))⟩::pg):=by
 refine hq (P:=Tryz.prog) (fn:=Tryz.f224) I I af I (fun c ay bK=> ?_);have Kl:=FI;obtain ⟨ng,aO,EP⟩:=qd.nat s;obtain ⟨hX,U,dX⟩:=qd.nat (s-1);obtain ⟨u2,ab,eu⟩:=qd.nat (s-2);obtain ⟨v1,eF,eY⟩:=qe.nat (s-1);obtain ⟨v2,eG,h8⟩:=qe.nat (s-2);have aaw:2147483648≤v1:=J;have JL:=fun g=>I6 (g:=g) ax au Kl qd qe aO U ab eF eG aaw bC;have g0:=DX (C:=C) ae (show s<du.length by omega);have g1:=DX (C:=C) ae (show s-1<du.length by omega);have g2:=DX (C:=C) ae (show s-2<du.length by omega);rw [aO] at g0;rw [U] at g1;rw [ab] at g2;have hlen:(A++(du++C)).length=j+(s+1)+C.length:=by simp [ae,au];omega
 have lX:0<bo V:=by have:=lC V (s-1);rw [show s-1+1=V.length by omega,gb,eF,cA] at this;have aw:B^(s-1)*1≤B^(s-1)*v1:=h5 _ J;have:=EU (s-1);omega
 unfold mb;rw [Kl];refine bz ?_;refine yG af af I (cM ?_);refine bP 20 (.int .u32 (ng:Nat)) I (aV.of_eq (by rw [g0])) ?_;refine an (gU (m:=ng) I I I ey J) ?_;refine an (Er (m:=ng) (s:=32) I I a6 ey (BG EP)) (fx ?_);refine bP 25 (.int .i64 (s-1:Nat)) I (aV.of_eq (by congr 1;omega)) (cM ?_);refine bP 27 (.int .u32 (hX:Nat)) I (aV.of_eq (by rw [g1])) ?_;refine an (gU (m:=hX) I I I ey J) ?_;refine an (bV.res (Ew I I ey I (BG EP) J) (by rw [Nv dX])) ?_;have pH:ng*4294967296+hX<18446744073709551616:=J;obtain ⟨top,u4⟩: ∃top,ng*4294967296+hX=top:=⟨_,rfl⟩
 rw [u4] at JL pH⊢;refine cM ?_;refine bP 33 (.int .i64 (s-1:Nat)) I (aV.of_eq (by congr 1;omega)) (bm ?_);refine bP 35 (.int .u32 (v1:Nat)) I (aV.of_eq (by rw [eF])) ?_;refine an (gU (m:=v1) I I I ey J) ?_;refine an (QI I I ey pH J) ?_;obtain ⟨gs,zZ,ti,JO⟩: ∃gs:Nat,(if ((4294967295:Int)<((top/v1:Nat):Int)) then (4294967295:Int) else ((top/v1:Nat):Int))=(gs:Int)∧gs≤4294967295∧(gs=4294967295∨gs=top/v1)∧gs≤top/v1:=by
  generalize top/v1=z;by_cases bw:(4294967295:Int)<(z:Int)
  ·exact ⟨4294967295,by rw [aG bw];rfl,J,J,J⟩
  ·exact ⟨z,by rw [az bw],J,J,J⟩
 obtain ⟨JO,Zx⟩:=JO;have ZA:gs*v1≤top:=dT (fo _ Zx) (Nat.div_mul_le_self top v1);have sj:=Io (a:=gs) (b:=v1) (c:=0) J eY a6;refine an (QF I I) ?_;refine bP 38 (.int .u64 (gs:Nat)) I (aV.of_eq (by rw [←zZ])) (cM ?_);refine bP 43 (.int .i64 (s-1:Nat)) I (aV.of_eq (by congr 1;omega)) (bm ?_);refine bP 45 (.int .u32 (v1:Nat)) I (aV.of_eq (by rw [eF])) ?_;refine an (gU (m:=v1) I I I ey J) ?_;refine an (BF I I ey sj.1) ?_;refine an (NA I I ey pH ZA) (bI ?_);refine cJ (ι:=Nat×Nat) (fun p=>[(0,.aA 0 j (s+1)),(1,.ro (.ints .u32 V) 0 s),(5,.int .i64 (s:Nat)),(7,.int .u64 (p.1:Nat)),(8,.int .u64 (p.2:Nat))]) (fun _=>some ⟨218,.ints .u32 (A++(du++C))⟩::pg)
  (fun p=>p.1≤4294967295∧p.2+p.1*v1=top∧ ∀lQ,lQ≤4294967295→lQ*(v1*4294967296+v2)≤top*4294967296+u2→lQ≤p.1) (fun p=>p.1) (gs,top-gs*v1) ⟨aH,rfl,ti,by simp only;omega,fun lQ bO bW=> ?_⟩ ?_
 ·have:=Yd J eu bW;rcases JO with h|h
  ·show lQ≤gs;omega
  ·show lQ≤gs;rw [h];exact this
 rintro ⟨g,r⟩ ⟨i1,i2,i3⟩;simp only at*;have Ks:=ahG (B:=4294967296) (u2:=u2) (v2:=v2) i2 J h8;have Y4:=Io (a:=g) (b:=v2) (c:=0) J h8 a6;apply j4 (H:=some ⟨218,.ints .u32 (A++(du++C))⟩::pg) [(0,.aA 0 j (s+1)),(1,.ro (.ints .u32 V) 0 s),(5,.int .i64 (s:Nat)),(7,.int .u64 (g:Nat)),(8,.int .u64 (r:Nat)),(70,.bool (decide (r<4294967296∧r*4294967296+u2<g*v2)))]
 ·intro fin;repeat (refine c6 ?_)
  refine yG af af I ?_;repeat (first|refine an (bL rfl) ?_|refine an (qI rfl rfl) ?_)
  refine gS I I (fun ew=> ?_) (fun ew=> ?_)
  ·have KY:r<4294967296:=J;refine fx ?_;refine bP 55 (.int .i64 (s-2:Nat)) I (aV.of_eq (by congr 1;omega)) (bm ?_);refine bP 57 (.int .u32 (v2:Nat)) I (aV.of_eq (by rw [eG])) ?_;refine an (gU (m:=v2) I I I ey J) ?_;refine lf I I ?_;refine an (BF I I ey Y4.1) (dw ?_);refine an (Er (m:=r) (s:=32) I I a6 ey (BG KY)) (fx ?_);refine bP 64 (.int .i64 (s-2:Nat)) I (aV.of_eq (by congr 1;omega)) ?_;refine fX ?_;refine bP 66 (.int .u32 (u2:Nat)) I (aV.of_eq (by rw [g2])) ?_;refine an (gU (m:=u2) I I I ey J) ?_;refine lf I I ?_;refine an (bV.res (Ew I I ey I (BG KY) J) (by rw [Nv eu])) ?_;refine kv ?_;refine fin _ ⟨I,I,I,I,I,?_,trivial⟩;show some (al.bool (decide (((r*4294967296+u2:Nat):Int)<((g*v2:Nat):Int))))=_;congr 2;rw [p8];constructor
   ·intro h;exact ⟨KY,J⟩
   ·intro h;exact uD.2 h.2
  ·refine kv ?_;refine fin _ ⟨I,I,I,I,I,?_,trivial⟩;show some (al.bool false)=_;rw [fq];intro h;exact ew J
 refine bB I (fun ew=> ?_) (fun ew=> ?_)
 ·have bO:=Ks.1 ew;have CD:0<g:=by
   rcases nD g with z|z
   ·subst z;rw [s0] at bO;omega
   ·exact z
  obtain ⟨g,rfl⟩: ∃m,g=m+1:=⟨g-1,J⟩
  rw [ef,rZ] at i2;refine bI ?_;refine an (NA (m:=g+1) (n:=1) I I ey J J) (cM ?_);refine bP 74 (.int .i64 (s-1:Nat)) I (aV.of_eq (by congr 1;omega)) (bm ?_);refine bP 76 (.int .u32 (v1:Nat)) I (aV.of_eq (by rw [eF])) ?_;refine an (gU (m:=v1) I I I ey J) ?_;refine an (ue I I ey J) (bN ?_);refine ca ⟨(g,r+v1),⟨by simp only;omega,by simp only;omega,fun lQ l2 z2=> ?_⟩,by simp only;omega,aH,I⟩;have z3:=i3 lQ l2 z2;show lQ≤g;rcases ga g lQ with z|z
  ·exfalso;have:lQ=g+1:=J;subst this;omega
  ·exact z
 ·have bO:g*(v1*4294967296+v2)≤top*4294967296+u2:=by
   rcases ga (top*4294967296+u2) (g*(v1*4294967296+v2)) with z|z
   ·exact absurd (Ks.2 z) ew
   ·exact z
  obtain ⟨aD,aE⟩:=JL g i1 bO i3;clear JL Ks i3 ew;have alD:bo du%bo V<B^(s+1):=rX (Nat.mod_le _ _) (by have:=jf qd;rwa [au] at this);have Zl:=fun (w b:Nat) (hw:w<B^(s+1))=>aii (u:=bo du) (v:=bo V) (g:=g) (w:=w) (n:=s+1) (b:=b) hw (by have:=jf qe;rw [Kl] at this;exact hE this (gp a6 J)) (by have:=jf qd;rwa [au] at this);generalize bo du/bo V=q at*;generalize Ad:bo du%bo V=m at*;refine bt ?_;have ia: ∀W:List Int,W.length=s+1→ ∀i,i<s+1→i+j<(A++(W++C)).length:=fun W jY i aa=>by simp [ae,jY];omega
  refine cJ (ι:=Nat×List Int×Nat×Nat) (fun p=>[(0,.aA 0 j (s+1)),(1,.ro (.ints .u32 V) 0 s),(5,.int .i64 (s:Nat)),(7,.int .u64 (g:Nat)),(9,.int .u64 (p.2.2.1:Nat)),(10,.int .i64 (p.2.2.2:Nat)),(82,.int .i64 (s+1:Nat)),(83,.int .i64 (p.1:Nat))]) (fun p=>some ⟨218,.ints .u32 (A++(p.2.1++C))⟩::pg)
   (fun p=>p.1≤s+1∧p.2.1.length=s+1∧cG p.2.1∧(∀x,p.1≤x→p.2.1.getD x 0=du.getD x 0)∧p.2.2.1<4294967296∧p.2.2.2≤1∧(p.1=s+1→p.2.2.1=0)∧bo (p.2.1.take p.1)+g*bo (V.take p.1)=bo (du.take p.1)+B^p.1*(p.2.2.1+p.2.2.2)) (fun p=>s+1-p.1) (0,du,0,0)
   ⟨aH,rfl,cf _,au,qd,fun _ _=>rfl,Nat.zero_lt_succ _,cf _,fun _=>rfl,by simp [bo]⟩ ?_
  rintro ⟨i,lk,dc,h7⟩ ⟨lB,mw,sC,Dg,Dh,Gy,afV,Le⟩;simp only at*;refine bl ?_;refine bB I (fun afW=> ?_) (fun afW=> ?_)
  ·have JR:i<s+1:=J;obtain ⟨ui,CV,F0⟩:=qd.nat i;obtain ⟨hY,rj,F2⟩:=qe.nat i;have J5:=Io (a:=g) (b:=hY) (c:=dc) J F2 Dh;have kk:=ia lk mw i JR;have iJ:=DX (C:=C) ae (show i<lk.length by omega);rw [Dg i (bR _),CV] at iJ;have Ab:(dc+g*hY)%4294967296<4294967296:=kA _ a6;have uV:(dc+g*hY)/4294967296<4294967296:=J;obtain ⟨yv,b',iA,jb,Gz,GA,GB⟩:=aiU F0 Ab Gy;have yi:=aij (g:=g) (dc:=dc) (yv:=yv) (b':=b') (show i<lk.length by omega) Le CV rj iA;have wk:i+1=s+1→(dc+g*hY)/4294967296=0:=fun h=>by
    have:V.getD i 0=0:=by simp [List.getD,jT (show V.length≤i by omega)]
    have:hY=0:=J;subst this;rw [rY,eQ];exact ox Dh
   refine bl ?_;apply j4 (H:=some ⟨218,.ints .u32 (A++(lk++C))⟩::pg) [(0,.aA 0 j (s+1)),(1,.ro (.ints .u32 V) 0 s),(5,.int .i64 (s:Nat)),(7,.int .u64 (g:Nat)),(9,.int .u64 (dc+g*hY:Nat)),(10,.int .i64 (h7:Nat)),(11,.int .i64 (i:Nat)),(82,.int .i64 (s+1:Nat)),(83,.int .i64 (i:Nat))]
   ·intro fin;refine bB I (fun ew=> ?_) (fun ew=> ?_)
    ·refine bm ?_;refine bP 94 (.int .u32 (hY:Nat)) I (aV.of_eq (by rw [rj])) ?_;refine an (gU (m:=hY) I I I ey J) ?_;refine an (BF I I ey J5.1) ?_;refine an (ue I I ey J5.2) ?_;refine dS ?_;exact fin _ aH
    ·have lX:hY=0:=by
      have:V.getD i 0=0:=by simp [List.getD,jT (show V.length≤i by omega)]
      omega
     subst lX;refine dS ?_;exact fin _ aH
   refine cM ?_;refine bP 101 (.int .u32 (ui:Nat)) I (aV.of_eq (by rw [iJ])) ?_;refine an (Bi (m:=ui) I I I J) ?_;repeat (refine an (bL rfl) ?_)
   refine an (bV.res (adx (n:=4294967295) I I ey I J5.2 a6) (by rw [Wk])) ?_;obtain ⟨ja,ya⟩: ∃ja,(dc+g*hY)%4294967296=ja:=⟨_,rfl⟩
   rw [ya] at Ab iA GA GB⊢;refine an (Bi (m:=ja) I I I J) (cM ?_);refine an (vE (s:=32) I I I) (bl ?_);apply j4 (H:=some ⟨218,.ints .u32 (A++(lk++C))⟩::pg) [(0,.aA 0 j (s+1)),(1,.ro (.ints .u32 V) 0 s),(5,.int .i64 (s:Nat)),(7,.int .u64 (g:Nat)),(9,.int .u64 ((dc+g*hY)/4294967296:Nat)),(10,.int .i64 (b':Nat)),(11,.int .i64 (i:Nat)),(12,.int .i64 (yv:Nat)),(82,.int .i64 (s+1:Nat)),(83,.int .i64 (i:Nat))]
   ·intro fin;refine bB I (fun ew=> ?_) (fun ew=> ?_)
    ·obtain ⟨l2,z2⟩:=GA ew;subst l2;skip
     refine c0 I ?_;refine dS ?_;exact fin _ ⟨I,I,I,I,I,I,I,by rw [z2];rfl,I,I,trivial⟩
    ·obtain ⟨l2,z2⟩:=GB ew;subst l2;refine dS ?_;exact fin _ ⟨I,I,I,I,I,I,I,by rw [z2];rfl,I,I,trivial⟩
   refine bN ?_;refine an (gU (m:=yv) I I I kx Gz) ?_;have cS:=VG (x:=(yv:Int)) (C:=C) ae (show i<lk.length by omega);refine cM ?_;refine ca ⟨(i+1,lk.set i (yv:Int),(dc+g*hY)/4294967296,b'),⟨by simp only;omega,by simp [mw],sC.set J,fun x ar=> ?_,uV,jb,wk,yi⟩,by simp only;omega,aH,?_⟩
   ·simp only at ar⊢;rw [Du J];exact Dg x J
   ·show some (⟨_,.ints .u32 ((A++(lk++C)).set (j+i) (yv:Int))⟩:bk)::pg=_;rw [cS]
  ·have df:i=s+1:=J;subst df;have Ze:=afV rfl;subst Ze;rw [jU J,jU J,jU J,c1] at Le;have OU:=jf sC;rw [mw] at OU;obtain ⟨d0,d1⟩:=Zl (bo lk) h7 OU Gy Le aD aE lX;refine bt ?_;refine bB I (fun ew=> ?_) (fun ew=> ?_)
   ·obtain ⟨l2,z2⟩:=d0 J;subst l2;have kj:=Bu sC mw z2;refine bN ?_;refine an (gU (m:=g) I I I kx J) (dw ?_);refine bd ay I ⟨I,?_⟩;rw [kj]
   ·obtain ⟨l2,z2⟩:=d1 J;refine bz ?_;refine cJ (ι:=Nat×List Int×Nat) (fun p=>[(0,.aA 0 j (s+1)),(1,.ro (.ints .u32 V) 0 s),(5,.int .i64 (s:Nat)),(7,.int .u64 (g:Nat)),(13,.int .u64 (p.2.2:Nat)),(126,.int .i64 (s+1:Nat)),(127,.int .i64 (p.1:Nat))]) (fun p=>some ⟨218,.ints .u32 (A++(p.2.1++C))⟩::pg)
     (fun p=>p.1≤s+1∧p.2.1.length=s+1∧cG p.2.1∧(∀x,p.1≤x→p.2.1.getD x 0=lk.getD x 0)∧p.2.2<4294967296∧bo (p.2.1.take p.1)+B^p.1*p.2.2=bo (lk.take p.1)+bo (V.take p.1)) (fun p=>s+1-p.1) (0,lk,0)
     ⟨aH,rfl,cf _,mw,sC,fun _ _=>rfl,Nat.zero_lt_succ _,by simp [bo]⟩ ?_
    rintro ⟨i,vR,sm⟩ ⟨hA,ih,pL,sD,AK,Di⟩;simp only at*;refine bl ?_;refine bB I (fun agc=> ?_) (fun agc=> ?_)
    ·have JR:i<s+1:=J;obtain ⟨ui,CV,F0⟩:=sC.nat i;obtain ⟨hY,rj,F2⟩:=qe.nat i;have iJ:=DX (C:=C) ae (show i<vR.length by omega);rw [sD i (bR _),CV] at iJ;have kk:=ia vR ih i JR;have yi:=aiS (sm:=sm) (show i<vR.length by omega) Di CV rj;refine cM ?_;refine bP 134 (.int .u32 (ui:Nat)) I (aV.of_eq (by rw [iJ])) ?_;refine an (gU (m:=ui) I I I ey J) ?_;refine an (ue I I ey J) (bl ?_);apply j4 (H:=some ⟨218,.ints .u32 (A++(vR++C))⟩::pg) [(0,.aA 0 j (s+1)),(1,.ro (.ints .u32 V) 0 s),(5,.int .i64 (s:Nat)),(7,.int .u64 (g:Nat)),(13,.int .u64 (sm+ui+hY:Nat)),(14,.int .i64 (i:Nat)),(126,.int .i64 (s+1:Nat)),(127,.int .i64 (i:Nat))]
     ·intro fin;refine bB I (fun bO=> ?_) (fun bO=> ?_)
      ·refine bm ?_;refine bP 144 (.int .u32 (hY:Nat)) I (aV.of_eq (by rw [rj])) ?_;refine an (gU (m:=hY) I I I ey J) ?_;refine an (ue I I ey J) ?_;refine dS ?_;exact fin _ aH
      ·have lX:hY=0:=by
        have:V.getD i 0=0:=by simp [List.getD,jT (show V.length≤i by omega)]
        omega
       subst lX;refine dS ?_;exact fin _ aH
     refine bN ?_;refine an (vD I I I kx) ?_;have cS:=VG (x:=(((sm+ui+hY)%4294967296:Nat):Int)) (C:=C) ae (show i<vR.length by omega);refine cM ?_;refine an (vE (s:=32) I I I) (bt ?_);refine ca ⟨(i+1,vR.set i (((sm+ui+hY)%4294967296:Nat):Int),(sm+ui+hY)/4294967296),⟨by simp only;omega,by simp [ih],pL.set (tV _),fun x ar=> ?_,by simp only;omega,yi⟩,by simp only;omega,aH,?_⟩
     ·simp only at ar⊢;rw [Du J];exact sD x J
     ·show some (⟨_,.ints .u32 ((A++(vR++C)).set (j+i) (((sm+ui+hY)%4294967296:Nat):Int))⟩:bk)::pg=_;rw [cS]
    ·have df:i=s+1:=J;subst df;rw [jU J,jU J,jU J,z2] at Di;have YK:=jf pL;rw [ih] at YK;have ah:bo vR=m:=by
      rcases B1 sm 1 with z|z|z
      ·have:sm=0:=J;subst this;omega
      ·subst z;omega
      ·have:B^(s+1)*2≤B^(s+1)*sm:=h5 _ z;omega
     have kj:=Bu pL ih ah;refine bt ?_;refine an (NA (m:=g) (n:=1) I I ey J J) ?_;refine an (gU (m:=g-1) I I I kx J) (bN ?_);refine bd ay I ⟨?_,?_⟩
     ·rw [show g-1=q by omega];rfl
     ·rw [kj]
theorem W3 (n:Nat)(h:(aW n).length≤1000000):bD Tryz.prog 221 [br n] (br n):=by
 unfold br;generalize aW n=l at*;refine cg.value (K:=fun r H=>r= .aA 0 0 l.length∧H=[some ⟨218,.ints .u32 l⟩]) (hq (P:=Tryz.prog) (fn:=Tryz.f221) I I af I (fun c ay bK=> ?_)) (fix:=fun _=>False) (fun _ h=>h) I ?_
 ·refine bN ?_;refine Mv I I I (fun b ak=> ?_);refine bN ?_;refine tT I (fun h=> ?_) (fun h=> ?_)
  ·have:=ak h;have aF:l=[]:=uC.mp this;subst aF;refine cM ?_;refine kM 2 ⟨218,.ints .u32 []⟩ I I (dw ?_);exact bd ay I ⟨I,I⟩
  ·refine bI ?_;refine tF I I I I I I I I I I ?_;refine fm [some ⟨218,.ints .u32 []⟩] (aM.eqv ⟨I,I,fun i j aa=>absurd aa (gy _)⟩ aM.nil) ?_;repeat (refine an (bL rfl) ?_)
   refine dt I I I I I I I I I I I I (by show 0+l.length≤l.length;omega) I (by show (0+l.length)*4≤_∧_;omega) (fun i j _ _=>rfl) c4 (bN ?_);refine bd ay I ⟨?_,?_⟩
   ·show al.aA 0 0 (0+l.length)=_;rw [c1]
   ·show ([some ⟨218,.ints .u32 ([]++List.take l.length (List.drop 0 l))⟩]:aX)=_;simp
 ·rintro r H ⟨rfl,rfl⟩;exact ⟨rfl,fun o aj=>by simp at aj;subst aj;exact Nat.le_of_eq (by simp [Cells.len]),vH lb⟩
theorem Xv (n m:Nat)(h:n<m)(aF:(aW n).length≤1000000)(hm:(aW m).length≤1000000):bD Tryz.prog 194 [br n,br m] (.cd [.nil,br n]):=by have av:=Ij n m J J;rw [Ec (uD.2 h)] at av;have gZ:=W3 n aF;refine cm Tryz.f194 fun c ay bK=> ?_;refine bN ?_;refine aZ I I I av (bt ?_);refine aZ I I I gZ (dw ?_);exact bd ay I I
theorem U0 {n m:Nat}(h:m≤n): ¬jx n m<0:=by
 rcases ga m n with q|q
 ·rw [Eb (uD.2 q)];decide
 ·rw [UY J];decide
theorem div_one (n m:Nat)(h:m≤n)(aF:(aW n).length≤1000000)(hm:(aW m).length=1):bD Tryz.prog 194 [br n,br m] (.cd [br (n/m),br (n%m)]):=by
 have av:=Ij n m J J;have tf:=U0 h;obtain ⟨t,low,bs,pH,u4,ah,Ac⟩:=DQ (bR 1) hm;have FK:m=t:=by simp at ah Ac;subst Ac;rw [ah];simp
 subst FK;have CA:=RU (aW n) m (ij n) J ⟨u4,pH⟩;rw [gT] at CA;have ad:n%m<4294967296:=Nat.lt_trans (kA _ u4) pH;have kG:=DP (n%m) J;refine cm Tryz.f194 fun c ay bK=> ?_;refine bN ?_;refine aZ I I I av (bl ?_);refine bB I (fun q=>absurd q tf) (fun q=> ?_);unfold br;refine bl ?_;rw [hm];refine bm ?_;refine bP 31 (.int .u32 (m:Nat)) I (aV.of_eq (by congr 1)) ?_;refine aZ I I I CA (dw ?_);refine an (gU (m:=n%m) I I I ey J) ?_;refine aZ I I I kG (dw ?_);exact bd ay I I
theorem Xw (n m:Nat)(h:m≤n)(aF:(aW n).length≤1000000)(FJ:2≤(aW m).length):bD Tryz.prog 194 [br n,br m] (.cd [br (n/m),br (n%m)]):=by
 have Ab:(aW m).length≤(aW n).length:=nj (by have:=jf (ij n);rw [gT] at this;omega);have av:=Ij n m J J;have tf:=U0 h;have tk:0<m:=by
  rcases nD m with q|q
  ·subst q;rw [qy] at FJ;simp at FJ
  ·exact q
 have PB:n<B^(aW n).length:=by have:=jf (ij n);rwa [gT] at this
 obtain ⟨s,ax⟩: ∃s,(aW m).length=s:=⟨_,rfl⟩
 obtain ⟨hy,FG⟩: ∃hy,(aW n).length=hy:=⟨_,rfl⟩
 rw [ax] at FJ Ab;rw [FG] at aF PB Ab;obtain ⟨t,low,bs,pH,u4,ah,Ac⟩:=DQ (show 1≤s by omega) ax;refine cm Tryz.f194 fun c ay bK=> ?_;refine bN ?_;refine aZ I I I av (bl ?_);refine bB I (fun q=>absurd q tf) (fun q=> ?_);have sd:br n= .ro (.ints .u32 (aW n)) 0 hy:=by unfold br;rw [FG]
 have em:br m= .ro (.ints .u32 (aW m)) 0 s:=by unfold br;rw [ax]
 rw [sd,em];refine bl ?_;refine bB I (fun q=>absurd q J) (fun q=> ?_);refine bI ?_;refine cJ (ι:=Nat) (fun k=>[(0,.ro (.ints .u32 (aW n)) 0 hy),(1,.ro (.ints .u32 (aW m)) 0 s),(8,ag k)]) (fun _=>[]) (fun k=>k≤31∧t*2^k<4294967296) (fun k=>32-k) 0 ⟨aH,I,J,by rw [xD,q3];exact pH⟩ ?_;rintro k ⟨re,mW⟩;refine cM ?_;refine bP 42 (ag (s-1)) I (aV.of_eq (by congr 1;omega)) (bm ?_);refine bP 44 (.int .u32 (t:Nat)) I (aV.of_eq (by rw [bs])) ?_;skip
 refine an (Er (m:=t) (s:=k) I I (by show k≤32;omega) kx mW) ?_;refine an (vE (s:=31) I I I) (bl ?_);refine bB I (fun bO=> ?_) (fun bO=> ?_)
 ·have PA:=abk u4 mW re J;refine bt ?_;exact ca ⟨k+1,⟨PA.2,PA.1⟩,J,aH,I⟩
 have aat:=abl (t:=t) (k:=k) J;obtain ⟨jo,PE⟩:=ack (show 1≤s by omega) ax bs aat mW re;have kH:=UJ (aW n) k (ij n) J J;have kG:=UJ (aW m) k (ij m) J J;rw [gT,FG] at kH;rw [gT,ax] at kG;have F1:m*2^k<B^s:=by have:=jf (ij (m*2^k));rwa [gT,jo] at this
 have PU:m*2^k<B^(s+1):=hE F1 (gp a6 J);have Ag:=tW (fD (s+1) (m*2^k)) (Bf _ _) (by rw [pO];omega);rw [HL _ _ PU] at Ag;have Kn:=ajY PB re (show 1≤s by omega) Ab (afC (show 1≤s by omega) jo PE);have lX:0<m*2^k:=Nat.mul_pos tk (mM a6);have bA:br (m*2^k)= .ro (.ints .u32 (aW (m*2^k))) 0 s:=by unfold br;rw [jo]
 have JI:=fun (A du C:List Int) (j:Nat) (pg:aX) (ae:A.length=j) (au:du.length=s+1) (qd:cG du)=>Xt A du C (aW (m*2^k)) j s pg ae FJ au jo qd (ij _) PE;rw [gT] at JI;have zU:=fun Q W=>adD (n:=n) (m:=m) (k:=k) (W:=W) (Q:=Q) tk;obtain ⟨v,aaF⟩: ∃v,m*2^k=v:=⟨_,rfl⟩
 rw [aaF] at kG F1 PU Ag Kn lX bA JI zU jo;refine bt ?_;have eY:[al.ro (.ints .u32 (aW n)) 0 hy,ag k]++[]=[mb (aW n),ag k]:=by unfold mb;rw [FG];rfl
 have h8:[al.ro (.ints .u32 (aW m)) 0 s,ag k]++[]=[mb (aW m),ag k]:=by unfold mb;rw [ax];rfl
 refine nk I I eY kH ?_;repeat (refine an (bL rfl) ?_)
 refine nk I I h8 kG ?_;refine rC 1 56 (s+1) [(0,.ro (.ints .u32 (aW n)) 0 hy),(8,ag k),(53,.aA 0 0 (hy+1))] I lb I (by show _≤(fD _ _).length;rw [pO];omega) aH ?_;refine aZ I I (wX (pO _ _)) Ag ?_;rw [bA];refine cM ?_;refine l6 I I I I I I I I (by show (0:Int)≤_∧_≤_∧(4:Int)*_≤_∧_;omega) ?_;obtain ⟨oj,akQ⟩: ∃oj,oj+s=hy+1:=⟨hy+1-s,J⟩
 rw [show (((hy+1:Nat):Int)-(s:Nat)).toNat=oj by omega];rw [show hy+1-s=oj by omega] at Kn;refine cM ?_;refine cJ (ι:=Nat×Nat×List Int) (fun p=>[(8,ag k),(9,.aA 0 0 (hy+1)),(10,.ro (.ints .u32 (aW v)) 0 s),(11,ag s),(12,.aA 2 0 oj),(13,.int .i64 ((p.1:Int)-1))]) (fun p=>[some ⟨218,.ints .u32 (fD (hy+1) p.2.1)⟩,none,some ⟨218,.ints .u32 p.2.2⟩])
  (fun p=>p.1≤oj∧p.2.1<v*B^p.1∧p.2.2.length=oj∧cG p.2.2∧(∀x,x<p.1→p.2.2.getD x 0=0)∧bo p.2.2*v+p.2.1=n*2^k) (fun p=>p.1) (oj,n*2^k,List.replicate oj 0)
  ⟨⟨rfl,rfl,rfl,rfl,rfl,?_,trivial⟩,rfl,bR _,Kn,bZ,cG.xn _,fun x _=>UU _ _,by simp [LW]⟩ ?_
 ·show some (al.int .i64 _)=_;congr 2;omega
 rintro ⟨vb,W,Q⟩ ⟨lB,mw,sC,Dg,Dh,Gy⟩;simp only at*;refine cM ?_;refine bB I (fun bW=> ?_) (fun bW=> ?_)
 ·obtain ⟨j,rfl⟩: ∃j,vb=j+1:=⟨vb-1,J⟩
  obtain ⟨cY,eT,lz,W',l0,C8,acE⟩:=adE (N:=hy+1) lX F1 mw (show j+(s+1)≤hy+1 by omega);have hd:=JI (fD j W) (fD (s+1) (W/B^j)) (fD (hy+1-(j+(s+1))) (W/B^j/B^(s+1))) j [none,some ⟨218,.ints .u32 Q⟩] (pO _ _) (pO _ _) (Bf _ _) (by rw [eT];exact lz) (by rw [←cY,pO];omega);rw [eT,l0,←cY] at hd;have aB:W/B^j/v<4294967296:=vU (by rw [gM];exact lz);obtain ⟨dg,Zj⟩: ∃dg,W/B^j/v=dg:=⟨_,rfl⟩
  rw [Zj] at hd aB acE;refine K2 ?_;refine bP 82 (.aA 0 j (s+1)) I (aV.of_eq (by congr 1<;>omega)) ?_;skip
  have q8:[al.aA 0 j (s+1),.ro (.ints .u32 (aW v)) 0 s]++[]=[.aA 0 j (s+1),mb (aW v)]:=by unfold mb;rw [jo];rfl
  refine rz I I q8 hd (fun h aU=>aU) (fun h aU=>aU) ?_;rintro r H ⟨rfl,rfl⟩;refine bP 75 (ag j) I (aV.of_eq (by congr 1;omega)) (cM ?_);have bw:=Dh j J;have cS:=M3 (x:=(dg:Int)) (show j<Q.length by omega);rw [bw,cA] at cS;have z0:(0:Int).toNat=0:=rfl;rw [z0,rY,eQ] at cS;refine ca ⟨(j,W',Q.set j (dg:Int)),⟨by simp only;omega,C8,by simp [sC],Dg.set J,fun x ar=> ?_,?_⟩,by simp only;omega,⟨I,I,I,I,I,?_,trivial⟩,I⟩
  ·simp only at ar⊢;rw [Du J];exact Dh x J
  ·simp only;rw [cS,ef,ke,gM dg v];omega
  ·show some (al.int .i64 _)=_;congr 2;omega
 ·have CF:vb=0:=J;subst CF;rw [xD,q3] at mw;have he:=zU (bo Q) W;obtain ⟨aB,jY⟩:=he Gy mw;clear he zU;have OW:W<B^s:=Nat.lt_trans mw F1;have mX:(fD (hy+1) W).take s=fD s W:=by rw [show hy+1=s+oj by omega,Be,List.take_left' (pO _ _)]
  have Ae:=tW (fD s W) (Bf _ _) (by rw [pO];omega);rw [HL _ _ OW] at Ae;refine bt ?_;refine an (GY I I I I I I I I ⟨I,J,J⟩) ?_;refine bP 88 (.aA 0 0 s) I (aV.of_eq (by rw [cA])) ?_;refine rC 0 88 s [(8,ag k),(12,.aA 2 0 oj)] I lb I (by show _≤(fD _ _).length;rw [pO];omega) aH ?_;refine bP 88 (.ro (.ints .u32 (fD s W)) 0 s) I (aV.trans aV.take (aV.of_eq (by rw [mX]))) ?_;refine aZ I I (wX (pO _ _)) Ae ?_;have FC:=ij W;have OY:=gT W;have ZT:(aW W).length≤s:=nj OW;unfold br;obtain ⟨r,ad⟩: ∃r,aW W=r:=⟨_,rfl⟩
  rw [ad] at FC OY ZT⊢;refine bz ?_;refine l6 I I I I I I I I (by show (0:Int)≤_∧_≤_∧(4:Int)*_≤_∧_;omega) (bz ?_);have uU: ∃d0:Nat,r.getD 0 0=(d0:Int)∧d0<4294967296:=FC.nat 0;obtain ⟨d0,uU,alm⟩:=uU;refine cJ (ι:=Nat×List Int) (fun p=>[(8,ag k),(12,.aA 2 0 oj),(14,.ro (.ints .u32 r) 0 r.length),(15,.aA 3 0 r.length),(93,.ro (.ints .u32 r) 0 r.length),(94,ag r.length),(95,ag p.1)]) (fun p=>[none,none,some ⟨218,.ints .u32 Q⟩,some ⟨218,.ints .u32 p.2⟩])
   (fun p=>p.1≤r.length∧p.2.length=r.length∧cG p.2∧bo (p.2.take p.1)*2^k+d0%2^k=bo (r.take p.1)+(r.getD p.1 0).toNat%2^k*B^p.1) (fun p=>r.length-p.1) (0,List.replicate r.length 0)
   ⟨aH,rfl,cf _,bZ,cG.xn _,by simp [bo];rw [show r[0]?.getD 0=(d0:Int) from uU];simp⟩ ?_
  rintro ⟨i,O⟩ ⟨hA,ih,pL,sD⟩;simp only at*;refine bl ?_;refine bB I (fun AK=> ?_) (fun AK=> ?_)
  ·have lV:i<r.length:=J;obtain ⟨d,hd,uV⟩:=FC.nat i;obtain ⟨e,he,aln⟩:=FC.nat (i+1);have Cv:=aiR (e:=e) uV re;have ra:=Ww (e:=e) uV re;have Pd:d/2^k<4294967296:=rX (uz _ _) uV;rw [hd,cA] at sD;have yi:=Wx (e:=e) (out:=O.take i) (i:=i) re (by simp;omega) hd sD;refine bm ?_;refine bP 102 (.int .u32 (d:Nat)) I (aV.of_eq (by rw [hd])) ?_;skip
   refine an (vE (m:=d) (s:=k) I I (by rw [Nat.ble_eq];show k≤32;omega)) (cM ?_);apply j4 (H:=[none,none,some ⟨218,.ints .u32 Q⟩,some ⟨218,.ints .u32 (O.set i ((d/2^k+e%2^k*2^(32-k):Nat):Int))⟩]) [(8,ag k),(12,.aA 2 0 oj),(14,.ro (.ints .u32 r) 0 r.length),(15,.aA 3 0 r.length),(93,.ro (.ints .u32 r) 0 r.length),(94,ag r.length),(95,ag i)]
   ·intro fin;have Qi:(i+1=r.length∨k=0)→e%2^k*2^(32-k)=0:=by
     rintro (h|h)
     ·have:r.getD (i+1) 0=0:=by simp [List.getD,jT (show r.length≤i+1 by omega)]
      have:e=0:=J;subst this;simp
     ·subst h;rw [xD,Nat.mod_one];try simp
    refine gS I I (fun iA=> ?_) (fun iA=> ?_)
    ·refine bm ?_;refine bB I (fun jb=> ?_) (fun jb=> ?_)
     ·skip
      refine eN af ?_;refine bJ 0 I af af af I (bL I) I ?_;refine bJ 1 I af af af I (bL I) I ?_;refine bJ 2 I af af af I (gk I I I I I (by first|(simp only [c1,cA,gn];exact I)|exact I) J) I ?_;refine bJ 4 I af af af I (bL I) I ?_;refine bJ 5 I af af af I (bL I) I ?_;refine bJ 6 I af af af I (hl I I J) I ?_;refine bJ 7 I af af af I (j3 I I I I (by first|(simp only [c1,cA,gn];exact I)|exact I) J) I ?_;refine bJ 9 I af af af I (bL I) I ?_;refine bJ 10 I af af af I (qJ I I J) I ?_;apply tH [(8,ag k),(12,.aA 2 0 oj),(14,.ro (.ints .u32 r) 0 r.length),(15,.aA 3 0 r.length),(93,.ro (.ints .u32 r) 0 r.length),(94,ag r.length),(95,ag i),(118,.int .u32 (d/2^k:Nat)),(126,.int .u32 (e*2^(32-k)%4294967296:Nat)),(115,.aA 3 0 r.length),(116,ag i)]
      ·intro gO;have kk:(O.set i ((d/2^k:Nat):Int)).getD i 0=((d/2^k:Nat):Int):=by simp [List.getD,show i<O.length by omega]
       have ZG:i<(O.set i ((d/2^k:Nat):Int)).length:=by simp;omega
       refine ed 3 8 ?_ ?_
       ·refine cM ?_;refine bx 8 ?_;refine bm ?_;refine vm 123 (.int .u32 (e:Nat)) I (aV.of_eq (by rw [show ((i:Int)+1).toNat=i+1 by omega,he])) ?_;refine vm 125 (ag (32-k)) I (aV.of_eq (by congr 1;omega)) ?_;refine bJ 11 I af af af I (Vv (m:=e) (s:=32-k) I I (by show 32-k≤32;omega) kx) I ?_;refine gO _ ⟨I,I,I,I,I,I,I,?_,I,I,I,trivial⟩;show some (al.int .u32 ((O.set i ((d/2^k:Nat):Int)).getD i 0))=_;rw [kk]
       ·refine bm ?_;refine vm 123 (.int .u32 (e:Nat)) I (aV.of_eq (by rw [show ((i:Int)+1).toNat=i+1 by omega,he])) ?_;refine vm 125 (ag (32-k)) I (aV.of_eq (by congr 1;omega)) ?_;refine bJ 11 I af af af I (Vv (m:=e) (s:=32-k) I I (by show 32-k≤32;omega) kx) I ?_;refine bx 3 ?_;refine cM ?_;refine gO _ ⟨I,I,I,I,I,I,I,?_,I,I,I,trivial⟩;show some (al.int .u32 ((O.set i ((d/2^k:Nat):Int)).getD i 0))=_;rw [kk]
      refine bJ 12 I af af af I (bV.res (Ew I I kx I Pd (kA _ a6)) (by rw [Cv])) I ?_;have ZG:i<(O.set i ((d/2^k:Nat):Int)).length:=by simp;omega
      refine bJ 13 I af af af I (gk I I I I I (by first|(simp only [c1,cA,gn];exact I)|exact I) J) I ?_;refine bx 14 ?_;refine cM ?_;refine eM af ?_;refine dS ?_;refine ko _ (by show [none,none,_,some (⟨_,.ints .u32 ((O.set i _).set i _)⟩:bk)]=_;rw [vV]) ?_;exact fin _ aH
     ·have bw:=Qi (.inr J);rw [bw,eQ] at fin;refine dS ?_;exact fin _ aH
    ·have bw:=Qi (.inl J);rw [bw,eQ] at fin;refine dS ?_;exact fin _ aH
   refine bz ?_;refine ca ⟨(i+1,O.set i ((d/2^k+e%2^k*2^(32-k):Nat):Int)),⟨by simp only;omega,by simp [ih],pL.set J,?_⟩,by simp only;omega,aH,I⟩;simp only;rw [Ls J,he,cA];exact yi
  ·have df:i=r.length:=J;subst df;have bw:r.getD r.length 0=0:=by simp [List.getD]
   have z0:(0:Int).toNat=0:=rfl;rw [bw,z0,Nat.zero_mod,s0,eQ,jU J,gb,OY,jY] at sD;have u0:0<2^k:=mM a6;have YB:bo O=n%m:=by
    have U:d0%2^k<2^k:=kA _ u0;have ab:(bo O*2^k+d0%2^k)/2^k=bo O:=by rw [oE,Nat.add_mul_div_right _ _ u0,ox U,c1]
    rw [sD,Nat.mul_div_cancel _ u0] at ab;exact ab.symm
   have Qk:=tW Q Dg J;have no:=tW O pL J;rw [aB] at Qk;rw [YB] at no;refine bt ?_;refine rC 2 130 oj [(15,.aA 3 0 r.length)] I lb I (by show _≤Q.length;omega) ⟨I,trivial⟩ ?_;refine aZ I I (wX sC) Qk ?_;repeat (refine an (bL rfl) ?_)
   refine rC 3 132 r.length [(131,br (n/m))] I lb I (by show _≤O.length;omega) ⟨I,trivial⟩ ?_;refine aZ I I (wX ih) no (bN ?_);exact bd ay I I
theorem BC (n m:Nat)(hm:0<m)(aF:(aW n).length≤1000000)(ly:(aW m).length≤1000000):bD Tryz.prog 194 [br n,br m] (.cd [br (n/m),br (n%m)]):=by
 rcases ga n m with h|h
 ·rw [ox h,mK h];exact bD.res (Xv n m h aF ly) (aV.afJ aV.KU)
 ·have U:(aW m).length≠0:=by have:=yA.2 (show m≠0 by omega);omega
  rcases ga (aW m).length 2 with q|q
  ·exact div_one n m h aF J
  ·exact Xw n m h aF q
theorem Ns (n m:Nat)(aF:(aW n).length≤1000000)(hm:(aW m).length≤1000000):bD Tryz.prog 158 [br n,br m] (br (Nat.gcd n m)):=by
 refine cm Tryz.f158 fun c ay bK=> ?_;refine bI ?_;refine cJ (ι:=Nat×Nat) (fun p=>[(0,br p.1),(1,br p.2)]) (fun _=>[]) (fun p=>(aW p.1).length≤1000000∧(aW p.2).length≤1000000∧Nat.gcd p.1 p.2=Nat.gcd n m) (fun p=>p.2) (n,m) ⟨aH,I,aF,hm,I⟩ ?_;rintro ⟨a,b⟩ ⟨U,ab,aw⟩;simp only at*;have hd:=fun h=>BC a b h U ab;have eE:0<(aW b).length↔b≠0:=yA;have sd:br b= .ro (.ints .u32 (aW b)) 0 (aW b).length:=rfl;rw [sd] at hd⊢;refine bm ?_;refine bB I (fun bg=> ?_) (fun bg=> ?_)
 ·have ak:b≠0:=eE.1 J;refine bI ?_;refine aZ I I I (hd J) (bt ?_);refine ca ⟨(b,a%b),⟨ab,Lq (kA a J) ab,?_⟩,kA a J,aH,I⟩;show Nat.gcd b (a%b)=Nat.gcd n m;rw [←aw,Nat.gcd_comm a b,Nat.gcd_rec b a,Nat.gcd_comm]
 ·have ak:b=0:=by
   rcases nD b with q|q
   ·exact q
   ·have:=eE.2 J;omega
  rw [ak,Nat.gcd_zero_right] at aw;refine bt ?_;refine bd ay I ?_;rw [←aw];rfl
theorem Qt (n:Nat):bD Tryz.prog 159 [br n] (.bool (decide (n=1))):=by
 refine cm Tryz.f159 fun c ay bK=> ?_;have U:n=1↔(aW n).length=1∧(aW n).getD 0 0=1:=ajQ;unfold br;refine bl ?_;refine gS I I (fun ab=> ?_) (fun ab=> ?_)
 ·refine bm ?_;refine bd ay I ?_;show al.bool (decide ((aW n).getD _ 0=1))=_;congr 1;rw [p8,U];exact ⟨fun h=>⟨J,h⟩,fun h=>h.2⟩
 ·refine bm ?_;refine bd ay I ?_;show al.bool false=_;rw [fq];intro h;exact ab (by have:=(U.1 h).1;omega)
theorem aiC (l:List (List UInt8))(au:l.length≤1000000000):
 cg Tryz.prog 241 [.aA 0 0 l.length] [some ⟨9,.strs l⟩] (fun h=>h<1) (fun _ H=>H=[some ⟨9,.strs l.reverse⟩]):=by
 refine hq (P:=Tryz.prog) (fn:=Tryz.f241) I I af I (fun c ay bK=> ?_);refine cM ?_;refine cJ (ι:=Nat) (fun k=>[(0,.aA 0 0 l.length),(2,ag k),(3,.int .i64 ((l.length:Int)-1-k))]) (fun k=>[some ⟨9,.strs (mF l k)⟩]) (fun k=>2*k≤l.length+1) (fun k=>l.length+1-k) 0 ⟨⟨I,I,?_,trivial⟩,by rw [akb],J⟩ ?_
 ·show some (al.int .i64 _)=_;congr 2;omega
 rintro k ao;have e6:=vy l k;refine bl ?_;refine bB I (fun U=> ?_) (fun U=> ?_)
 ·have mW:k+1+k<l.length:=J;have aD:((l.length:Int)-1-(k:Nat)).toNat=l.length-1-k:=J;refine bI ?_;refine eN af ?_;refine bJ 0 I af af af I (bL I) I ?_;refine bJ 1 I af af af I (bL I) I ?_;refine bJ 2 I af af af I (bL I) I ?_;refine bJ 3 I af af af I (bL I) I ?_;refine bJ 4 I af af af I (bL I) I ?_;refine bJ 5 I af af af I (bL I) I ?_;refine bJ 6 I af af af I (gk I I I I I (by first|(simp only [c1,cA,gn];exact I)|exact I) J) I ?_;refine bJ 8 I af af af I (bL I) I ?_;refine bJ 9 I af af af I (bL I) I ?_;refine bJ 10 I af af af I (gk I I I I I (by first|(simp only [c1,cA,gn];exact I)|exact I) J) I ?_;refine vm 20 (.ptr 0 (l.length-1-k) 0) I (aV.of_eq (by rw [aD])) ?_;have dX:l.length-1-k<(mF l k).length:=J;have eu:k<(mF l k).length:=J;apply tH [(0,.aA 0 0 l.length),(2,ag k),(3,.int .i64 ((l.length:Int)-1-k)),(14,.aA 0 0 l.length),(15,ag k),(16,.aA 0 0 l.length),(17,.int .i64 ((l.length:Int)-1-k)),(21,.str ((mF l k).getD (l.length-1-k) [])),(25,.str ((mF l k).getD k []))]
  ·intro fin;refine ed 7 11 ?_ ?_
   ·refine fX ?_;refine bx 11 ?_;refine fX ?_;exact fin _ aH
   ·refine fX ?_;refine bx 7 ?_;refine fX ?_;exact fin _ aH
  refine bJ 12 I af af af I (gk I I I I I (by first|(simp only [c1,cA,gn];exact I)|exact I) J) I ?_;refine bx 13 ?_;refine cM ?_;refine bJ 14 I af af af I (gk I I I I I (by first|(simp only [c1,cA,gn];exact I)|exact I) J) I ?_;refine vm 27 (.ptr 0 (l.length-1-k) 0) I (aV.of_eq (by rw [aD])) ?_;have mi:l.length-1-k<((mF l k).set k ((mF l k).getD (l.length-1-k) [])).length:=by simp;omega
  refine bx 15 ?_;refine cM ?_;refine eM af (cM ?_);refine ca ⟨k+1,J,J,⟨I,I,?_,trivial⟩,?_⟩
  ·show some (al.int .i64 _)=_;congr 2;omega
  ·show ([some ⟨_,.strs (((mF l k).set k _).set (l.length-1-k) _)⟩]:aX)=_;rw [aka l mW]
 ·refine bt ?_;refine NS ay I ?_;rw [ajZ l J]
end Go.Proofs.YtmpnheilfejcpaaGreatDoor
namespace Go.Proofs
open Go.Shelf
def Tryz.Qc:Go.Shelf.Ren:=⟨fun|156=>242|165=>263|166=>264|169=>266|240=>275|241=>276|276=>283|277=>284|n=>n,fun|31=>302|9=>9|3=>3|4=>4|0=>0|20=>20|72=>321|76=>323|70=>319|37=>310|75=>268|127=>332|164=>346|5=>5|80=>252|n=>n,fun|n=>n⟩
theorem Tryz.Qb:Go.Proofs.Lays.n156 Tryz.prog Tryz.Qc:={
 mixed:=af
 f156:=Tryz.func242.trans (congrArg some af)
 f165:=Tryz.func263.trans (congrArg some af)
 f166:=Tryz.func264.trans (congrArg some af)
 f169:=Tryz.func266.trans (congrArg some af)
 f240:=Tryz.func275.trans (congrArg some af)
 f241:=Tryz.func276.trans (congrArg some af)
 f276:=Tryz.func283.trans (congrArg some af)
 f277:=Tryz.func284.trans (congrArg some af)
 t0:=Tryz.underlying0
 a0:=Tryz.isAgg0
 z0:=Tryz.sizeOf0
 v0:=Tryz.zeroValue0
 t3:=Tryz.underlying3
 a3:=Tryz.isAgg3
 z3:=Tryz.sizeOf3
 v3:=Tryz.zeroValue3
 t4:=Tryz.underlying4
 a4:=Tryz.isAgg4
 z4:=Tryz.sizeOf4
 v4:=Tryz.zeroValue4
 t9:=Tryz.underlying9
 a9:=Tryz.isAgg9
 z9:=Tryz.sizeOf9
 v9:=Tryz.zeroValue9
 t20:=Tryz.underlying20
 a20:=Tryz.isAgg20
 z20:=Tryz.sizeOf20
 v20:=Tryz.zeroValue20
 t31:=Tryz.underlying302
 a31:=Tryz.isAgg302
 z31:=Tryz.sizeOf302
 v31:=Tryz.zeroValue302
 t37:=Tryz.underlying310
 a37:=Tryz.isAgg310
 z37:=Tryz.sizeOf310
 v37:=Tryz.zeroValue310
 t70:=Tryz.underlying319
 a70:=Tryz.isAgg319
 z70:=Tryz.sizeOf319
 v70:=Tryz.zeroValue319
 t72:=Tryz.underlying321
 a72:=Tryz.isAgg321
 z72:=Tryz.sizeOf321
 v72:=Tryz.zeroValue321
 t75:=Tryz.underlying268
 a75:=Tryz.isAgg268
 z75:=Tryz.sizeOf268
 v75:=Tryz.zeroValue268
 t76:=Tryz.underlying323
 a76:=Tryz.isAgg323
 z76:=Tryz.sizeOf323
 v76:=Tryz.zeroValue323
 t127:=Tryz.underlying332
 a127:=Tryz.isAgg332
 z127:=Tryz.sizeOf332
 v127:=Tryz.zeroValue332
 t164:=Tryz.underlying346
 a164:=Tryz.isAgg346
 z164:=Tryz.sizeOf346
 v164:=Tryz.zeroValue346}
theorem Tryz.NI:Builder.Extra Tryz.prog Tryz.Qc:={
 sizeBuilder:=af
 liesBuilder:=af
 t5:=Tryz.underlying5
 a5:=Tryz.isAgg5
 z5:=Tryz.sizeOf5
 v5:=Tryz.zeroValue5
 infoByte:=af
 cellsByte:=af
 sizeByte:=af
 neB5:=by decide}
open Go.RowKit in
theorem Tryz.strings_Join_none (a:Option Addr)(c:Nat)(sep:ByteArray)(w:World):
 Calls Tryz.prog 242 #[.slice a 0 c,.string sep] w fun e w'=>e= .returned (.string ⟨#[]⟩)∧w'=w:=Any.strings_Join_none Tryz.Qb Tryz.NI a c sep w
open Go.RowKit in
theorem Tryz.strings_Join (zD o c:Nat)(xs:List ByteArray)(sep:ByteArray)(w:World)(Cx: ∀(j:Nat) x,xs[j]? =some x→w.cell? ⟨zD,o+j,none⟩=some (.string x))(Jw:zD<w.heap.size)(jX:xs.length≤140737488355328)(jE:xs.length≤c)(hlen:(Lib.join (xs.map (·.data.toList)) sep.data.toList).length≤140737488355328):
 Calls Tryz.prog 242 #[.slice (some ⟨zD,o,none⟩) xs.length c,.string sep] w fun e w'=>e= .returned (.string ⟨(Lib.join (xs.map (·.data.toList)) sep.data.toList).toArray⟩)∧Below w.heap.size w w':=Any.strings_Join Tryz.Qb Tryz.NI zD o c xs sep w Cx Jw jX jE hlen
def Tryz.abv:Go.Shelf.Ren:=⟨fun|171=>239|243=>262|246=>274|283=>279|284=>280|285=>281|286=>282|129=>286|317=>285|318=>287|319=>288|320=>289|337=>290|338=>291|n=>n,fun|3=>3|9=>9|2=>2|4=>4|171=>341|0=>0|53=>265|37=>310|5=>5|173=>344|212=>350|51=>218|20=>20|213=>351|46=>200|232=>354|233=>355|n=>n,fun|17=>5|18=>6|19=>7|n=>n⟩
theorem Tryz.abu:Go.Proofs.LaysM.n171 Tryz.prog Tryz.abv:={
 mixed:=af
 f129:=Tryz.func286.trans (congrArg some af)
 f171:=Tryz.func239.trans (congrArg some af)
 f243:=Tryz.func262.trans (congrArg some af)
 f246:=Tryz.func274.trans (congrArg some af)
 f283:=Tryz.func279.trans (congrArg some af)
 f284:=Tryz.func280.trans (congrArg some af)
 f285:=Tryz.func281.trans (congrArg some af)
 f286:=Tryz.func282.trans (congrArg some af)
 f317:=Tryz.func285.trans (congrArg some af)
 f318:=Tryz.func287.trans (congrArg some af)
 f319:=Tryz.func288.trans (congrArg some af)
 f320:=Tryz.func289.trans (congrArg some af)
 f337:=Tryz.func290.trans (congrArg some af)
 f338:=Tryz.func291.trans (congrArg some af)
 t0:=Tryz.underlying0
 a0:=Tryz.isAgg0
 z0:=Tryz.sizeOf0
 v0:=Tryz.zeroValue0
 t2:=Tryz.underlying2
 a2:=Tryz.isAgg2
 z2:=Tryz.sizeOf2
 v2:=Tryz.zeroValue2
 t3:=Tryz.underlying3
 a3:=Tryz.isAgg3
 z3:=Tryz.sizeOf3
 v3:=Tryz.zeroValue3
 t4:=Tryz.underlying4
 a4:=Tryz.isAgg4
 z4:=Tryz.sizeOf4
 v4:=Tryz.zeroValue4
 t5:=Tryz.underlying5
 a5:=Tryz.isAgg5
 z5:=Tryz.sizeOf5
 v5:=Tryz.zeroValue5
 t9:=Tryz.underlying9
 a9:=Tryz.isAgg9
 z9:=Tryz.sizeOf9
 v9:=Tryz.zeroValue9
 t20:=Tryz.underlying20
 a20:=Tryz.isAgg20
 z20:=Tryz.sizeOf20
 v20:=Tryz.zeroValue20
 t37:=Tryz.underlying310
 a37:=Tryz.isAgg310
 z37:=Tryz.sizeOf310
 v37:=Tryz.zeroValue310
 t46:=Tryz.underlying200
 a46:=Tryz.isAgg200
 z46:=Tryz.sizeOf200
 v46:=Tryz.zeroValue200
 t51:=Tryz.underlying218
 a51:=Tryz.isAgg218
 z51:=Tryz.sizeOf218
 v51:=Tryz.zeroValue218
 t53:=Tryz.underlying265
 a53:=Tryz.isAgg265
 z53:=Tryz.sizeOf265
 v53:=Tryz.zeroValue265
 t171:=Tryz.underlying341
 a171:=Tryz.isAgg341
 z171:=Tryz.sizeOf341
 v171:=Tryz.zeroValue341
 t173:=Tryz.underlying344
 a173:=Tryz.isAgg344
 z173:=Tryz.sizeOf344
 v173:=Tryz.zeroValue344
 t212:=Tryz.underlying350
 a212:=Tryz.isAgg350
 z212:=Tryz.sizeOf350
 v212:=Tryz.zeroValue350
 t213:=Tryz.underlying351
 a213:=Tryz.isAgg351
 z213:=Tryz.sizeOf351
 t232:=Tryz.underlying354
 a232:=Tryz.isAgg354
 z232:=Tryz.sizeOf354
 v232:=Tryz.zeroValue354
 t233:=Tryz.underlying355
 a233:=Tryz.isAgg355
 z233:=Tryz.sizeOf355
 v233:=Tryz.zeroValue355
 g17:=af
 g18:=af
 g19:=af
 i0:=af
 i2:=af
 i3:=af
 i4:=af
 i5:=af
 i9:=af
 i20:=af
 i37:=af
 i46:=af
 i51:=af
 i53:=af
 i171:=af
 i173:=af
 i212:=af
 i232:=af
 i233:=af
 m17:=af
 m18:=af
 m19:=by kernel_rfl}
open Go.RowKit Go.Sort Go.Lib in
theorem Tryz.strconv_Itoa (n:Int)(aO: -9223372036854775808≤n)(U:n≤9223372036854775807)(w:World)(Kr:Lib.TabIs Tryz.prog w "internal/strconv.uint64pow10" .u64 Lib.pow10Tab):
 Calls Tryz.prog 239 #[.int .i64 n] w fun e w'=>e= .returned (.string ⟨(Lib.itoa n).toArray⟩)∧ ∃k os,w'=grow (w.drewN k) os:=Any.strconv_Itoa Tryz.abu n aO U w Kr
def Tryz.abx:Go.Shelf.Ren:=⟨fun|14=>199|16=>227|17=>228|19=>251|20=>252|21=>253|22=>254|23=>255|24=>256|25=>269|27=>239|26=>270|28=>262|29=>274|30=>279|31=>280|32=>281|33=>282|35=>286|34=>285|36=>287|37=>288|38=>289|39=>290|40=>291|n=>n,fun|9=>9|3=>3|22=>265|24=>268|25=>269|4=>4|34=>308|5=>5|36=>200|37=>310|0=>0|39=>311|21=>21|44=>328|47=>332|50=>335|48=>333|2=>2|52=>341|55=>344|59=>350|60=>218|20=>20|61=>351|65=>354|66=>355|67=>252|n=>n,fun|0=>1|1=>2|2=>5|3=>6|4=>7|n=>n⟩
theorem Tryz.abw:Go.Proofs.LaysPu.n14 Tryz.prog Tryz.abx:={
 mixed:=af
 f14:=Tryz.func199.trans (congrArg some af)
 f16:=Tryz.func227.trans (congrArg some af)
 f17:=Tryz.func228.trans (congrArg some af)
 f19:=Tryz.func251.trans (congrArg some af)
 f20:=Tryz.func252.trans (congrArg some af)
 f21:=Tryz.func253.trans (congrArg some af)
 f22:=Tryz.func254.trans (congrArg some af)
 f23:=Tryz.func255.trans (congrArg some af)
 f24:=Tryz.func256.trans (congrArg some af)
 f25:=Tryz.func269.trans (congrArg some af)
 f26:=Tryz.func270.trans (congrArg some af)
 f27:=Tryz.func239.trans (congrArg some af)
 f28:=Tryz.func262.trans (congrArg some af)
 f29:=Tryz.func274.trans (congrArg some af)
 f30:=Tryz.func279.trans (congrArg some af)
 f31:=Tryz.func280.trans (congrArg some af)
 f32:=Tryz.func281.trans (congrArg some af)
 f33:=Tryz.func282.trans (congrArg some af)
 f34:=Tryz.func285.trans (congrArg some af)
 f35:=Tryz.func286.trans (congrArg some af)
 f36:=Tryz.func287.trans (congrArg some af)
 f37:=Tryz.func288.trans (congrArg some af)
 f38:=Tryz.func289.trans (congrArg some af)
 f39:=Tryz.func290.trans (congrArg some af)
 f40:=Tryz.func291.trans (congrArg some af)
 t0:=Tryz.underlying0
 a0:=Tryz.isAgg0
 z0:=Tryz.sizeOf0
 v0:=Tryz.zeroValue0
 i0:=af
 t2:=Tryz.underlying2
 a2:=Tryz.isAgg2
 z2:=Tryz.sizeOf2
 v2:=Tryz.zeroValue2
 i2:=af
 t3:=Tryz.underlying3
 a3:=Tryz.isAgg3
 z3:=Tryz.sizeOf3
 v3:=Tryz.zeroValue3
 i3:=af
 t4:=Tryz.underlying4
 a4:=Tryz.isAgg4
 z4:=Tryz.sizeOf4
 v4:=Tryz.zeroValue4
 i4:=af
 t5:=Tryz.underlying5
 a5:=Tryz.isAgg5
 z5:=Tryz.sizeOf5
 v5:=Tryz.zeroValue5
 i5:=af
 t9:=Tryz.underlying9
 a9:=Tryz.isAgg9
 z9:=Tryz.sizeOf9
 v9:=Tryz.zeroValue9
 i9:=af
 t20:=Tryz.underlying20
 a20:=Tryz.isAgg20
 z20:=Tryz.sizeOf20
 v20:=Tryz.zeroValue20
 i20:=af
 t21:=Tryz.underlying21
 a21:=Tryz.isAgg21
 z21:=Tryz.sizeOf21
 v21:=Tryz.zeroValue21
 i21:=af
 t22:=Tryz.underlying265
 a22:=Tryz.isAgg265
 z22:=Tryz.sizeOf265
 v22:=Tryz.zeroValue265
 i22:=af
 t24:=Tryz.underlying268
 a24:=Tryz.isAgg268
 z24:=Tryz.sizeOf268
 v24:=Tryz.zeroValue268
 i24:=af
 t25:=Tryz.underlying269
 a25:=Tryz.isAgg269
 z25:=Tryz.sizeOf269
 v25:=Tryz.zeroValue269
 i25:=af
 t34:=Tryz.underlying308
 a34:=Tryz.isAgg308
 z34:=Tryz.sizeOf308
 v34:=Tryz.zeroValue308
 i34:=af
 c34:=af
 t36:=Tryz.underlying200
 a36:=Tryz.isAgg200
 z36:=Tryz.sizeOf200
 v36:=Tryz.zeroValue200
 i36:=af
 t37:=Tryz.underlying310
 a37:=Tryz.isAgg310
 z37:=Tryz.sizeOf310
 v37:=Tryz.zeroValue310
 i37:=af
 t39:=Tryz.underlying311
 a39:=Tryz.isAgg311
 z39:=Tryz.sizeOf311
 v39:=Tryz.zeroValue311
 i39:=af
 t44:=Tryz.underlying328
 a44:=Tryz.isAgg328
 z44:=Tryz.sizeOf328
 v44:=Tryz.zeroValue328
 i44:=af
 t47:=Tryz.underlying332
 a47:=Tryz.isAgg332
 z47:=Tryz.sizeOf332
 v47:=Tryz.zeroValue332
 i47:=af
 t48:=Tryz.underlying333
 a48:=Tryz.isAgg333
 z48:=Tryz.sizeOf333
 v48:=Tryz.zeroValue333
 i48:=af
 t50:=Tryz.underlying335
 a50:=Tryz.isAgg335
 z50:=Tryz.sizeOf335
 v50:=Tryz.zeroValue335
 i50:=af
 t52:=Tryz.underlying341
 a52:=Tryz.isAgg341
 z52:=Tryz.sizeOf341
 v52:=Tryz.zeroValue341
 i52:=af
 t55:=Tryz.underlying344
 a55:=Tryz.isAgg344
 z55:=Tryz.sizeOf344
 v55:=Tryz.zeroValue344
 i55:=af
 t59:=Tryz.underlying350
 a59:=Tryz.isAgg350
 z59:=Tryz.sizeOf350
 v59:=Tryz.zeroValue350
 i59:=af
 t60:=Tryz.underlying218
 a60:=Tryz.isAgg218
 z60:=Tryz.sizeOf218
 v60:=Tryz.zeroValue218
 i60:=af
 t61:=Tryz.underlying351
 a61:=Tryz.isAgg351
 z61:=Tryz.sizeOf351
 t65:=Tryz.underlying354
 a65:=Tryz.isAgg354
 z65:=Tryz.sizeOf354
 v65:=Tryz.zeroValue354
 i65:=af
 t66:=Tryz.underlying355
 a66:=Tryz.isAgg355
 z66:=Tryz.sizeOf355
 v66:=Tryz.zeroValue355
 i66:=af
 t67:=Tryz.underlying252
 a67:=Tryz.isAgg252
 z67:=Tryz.sizeOf252
 v67:=Tryz.zeroValue252
 i67:=af
 g0:=af
 m0:=af
 g1:=af
 m1:=af
 g2:=af
 m2:=af
 g3:=af
 m3:=af
 g4:=af
 m4:=by kernel_rfl}
open Go.RowKit in
theorem Tryz.strconv_ParseUint_10_at32_ok (s:ByteArray)(wo:s.size≤9223372036854775806)(u:Nat)(h:Lib.parseUintB 32 s.data.toList= .ok u)(w:World):
 Calls Tryz.prog 199 #[.string s,.int .i64 10,.int .i64 32] w fun e w'=>e= .returned (.tuple #[.int .u64 u,.nilIface])∧(w'=w∨w'=Lib.bytesWorld w 5 s):=Any.strconv_ParseUint_10_at32_ok Tryz.abw s wo u h w
def Tryz.abt:Go.Shelf.Ren:=⟨fun|212=>189|263=>218|264=>219|n=>n,fun|46=>200|51=>218|146=>283|53=>265|148=>285|n=>n,fun|n=>n⟩
theorem Tryz.abr:Go.Proofs.Lays.n212 Tryz.prog Tryz.abt:={
 mixed:=af
 f212:=Tryz.func189.trans (congrArg some af)
 f263:=Tryz.func218.trans (congrArg some af)
 f264:=Tryz.func219.trans (congrArg some af)
 t46:=Tryz.underlying200
 a46:=Tryz.isAgg200
 z46:=Tryz.sizeOf200
 v46:=Tryz.zeroValue200
 t51:=Tryz.underlying218
 a51:=Tryz.isAgg218
 z51:=Tryz.sizeOf218
 v51:=Tryz.zeroValue218
 t53:=Tryz.underlying265
 a53:=Tryz.isAgg265
 z53:=Tryz.sizeOf265
 v53:=Tryz.zeroValue265
 t146:=Tryz.underlying283
 a146:=Tryz.isAgg283
 z146:=Tryz.sizeOf283
 v146:=Tryz.zeroValue283
 t148:=Tryz.underlying285
 a148:=Tryz.isAgg285
 z148:=Tryz.sizeOf285
 v148:=Tryz.zeroValue285}
open Go.RowKit Go.Lib in
theorem Tryz.bits_Mul (x y:Nat)(ar:x<18446744073709551616)(aY:y<18446744073709551616)(w:World):
 Calls Tryz.prog 189 #[.int .u64 x,.int .u64 y] w fun e w'=>e= .returned (.tuple #[.int .u64 ((x*y/18446744073709551616:Nat):Int),.int .u64 ((x*y%18446744073709551616:Nat):Int)])∧w'=w:=Any.bits_Mul Tryz.abr x y ar aY w
end Go.Proofs
namespace Go.Proofs.YtmpnheilfejcpaaGreatDoor
open Go.ai Go.ai.c8 Go.RowKit
theorem ahe (w:World)(q:Nat)(os:Array Obj):Below w.heap.size w (Go.Sort.grow (w.drewN q) os):=by
 refine ⟨I,I,I,?_,fun k ao=> ?_⟩
 ·show w.heap.size≤(w.heap++os).size;simp
 ·show (w.heap++os)[k]? =w.heap[k]?;rw [EI ao]
theorem afP {w:World}{S:Nat→Prop}{σ:Nat→Option bQ}{a:al}{ds:Array Value}(ah:om w S σ [a] ds): ∃x,ds= #[x]∧bp w S σ a x:=by
 obtain ⟨U,ab⟩:=ah;have q:=ab 0 bZ;have au:ds.toList.length=1:=by simpa using U
 match aB:ds.toList,au with
 |[x],_=>
  have e:ds= #[x]:=by rw [←BY (xs:=ds),aB]
  subst e;exact ⟨x,I,by simpa using q⟩
theorem Rd {w:World}{S:Nat→Prop}{σ:Nat→Option bQ}{a b:al}{ds:Array Value}(ah:om w S σ [a,b] ds): ∃x y,ds= #[x,y]∧bp w S σ a x∧bp w S σ b y:=by
 obtain ⟨U,ab⟩:=ah;have q:=ab 0 bZ;have bO:=ab 1 bZ;have au:ds.toList.length=2:=by simpa using U
 match aB:ds.toList,au with
 |[x,y],_=>
  have e:ds= #[x,y]:=by rw [←BY (xs:=ds),aB]
  subst e;exact ⟨x,y,I,by simpa using q,by simpa using bO⟩
theorem afQ {w:World}{S:Nat→Prop}{σ:Nat→Option bQ}{a b c:al}{ds:Array Value}(ah:om w S σ [a,b,c] ds): ∃x y z,ds= #[x,y,z]∧bp w S σ a x∧bp w S σ b y∧bp w S σ c z:=by
 obtain ⟨U,ab⟩:=ah;have q:=ab 0 bZ;have bO:=ab 1 bZ;have bW:=ab 2 bZ;have au:ds.toList.length=3:=by simpa using U
 match aB:ds.toList,au with
 |[x,y,z],_=>
  have e:ds= #[x,y,z]:=by rw [←BY (xs:=ds),aB]
  subst e;exact ⟨x,y,z,I,by simpa using q,by simpa using bO,by simpa using bW⟩
theorem itoa (n:Int)(h: -9223372036854775808≤n∧n≤9223372036854775807):bD Tryz.prog 239 [.int .i64 n] (.str (Lib.itoa n)):=by
 refine bD.Gk ⟨Tryz.f239,I,af,I⟩ I I (fun w S ds dB dp ah=> ?_);obtain ⟨x,rfl,a⟩:=afP ah;have ar:x= .int .i64 n:=by cases a;rfl
 subst ar;have aJ:AA w:=dB;refine (Tryz.strconv_Itoa n h.1 h.2 w aJ.2.1).mono ?_;rintro e w' ⟨rfl,k,os,rfl⟩;exact ⟨_,I,ahe w k os,.str _ _⟩
theorem abi (n:Nat)(h:n≤9223372036854775807):bD Tryz.prog 239 [ag n] (.str (Lib.decDigits n)):=by
 have:=itoa n ⟨J,J⟩
 rwa [Go.ai.qY.abj] at this
theorem abW (a b:Nat)(a1:a<18446744073709551616)(ak:b<18446744073709551616):bD Tryz.prog 189 [.int .u64 (a:Nat),.int .u64 (b:Nat)] (.cd [.int .u64 (a*b/18446744073709551616:Nat),.int .u64 (a*b%18446744073709551616:Nat)]):=by
 refine bD.Gk ⟨Tryz.f189,I,af,I⟩ I I (fun w S ds dB dp ah=> ?_);obtain ⟨x,y,rfl,p,q⟩:=Rd ah;have ar:x= .int .u64 (a:Nat):=by cases p;rfl
 have aY:y= .int .u64 (b:Nat):=by cases q;rfl
 subst ar aY;refine (Tryz.bits_Mul a b a1 ak w).mono ?_;rintro e w' ⟨rfl,rfl⟩;refine ⟨_,I,Below.refl _ _,.cd _ _ _ I (fun i aa=> ?_)⟩
 match i,aa with
 |0,_=>exact .int _ _ _
 |1,_=>exact .int _ _ _
theorem acM (s:List UInt8)(u:Nat)(au:s.length≤1000)(h:Lib.parseUintB 32 s= .ok u):bD Tryz.prog 199 [.str s,.int .i64 10,.int .i64 32] (.cd [.int .u64 (u:Nat),.nd]):=by
 refine bD.Gk ⟨Tryz.f199,I,af,I⟩ I I (fun w S ds dB dp ah=> ?_);obtain ⟨x,y,z,rfl,p,q,r⟩:=afQ ah;have ar:x=oh s:=by cases p;rfl
 have aY:y= .int .i64 10:=by cases q;rfl
 have bw:z= .int .i64 32:=by cases r;rfl
 subst ar aY bw;have hd:(⟨s.toArray⟩:ByteArray).data.toList=s:=bZ;have cq:(⟨s.toArray⟩:ByteArray).size=s.length:=by simp [ByteArray.size]
 refine (Tryz.strconv_ParseUint_10_at32_ok ⟨s.toArray⟩ (by rw [cq];omega) u (by rw [hd];exact h) w).mono ?_;rintro e w' ⟨rfl,hw⟩;refine ⟨_,I,?_,.cd _ _ _ I (fun i aa=> ?_)⟩
 ·rcases hw with rfl|rfl
  ·exact Below.refl _ _
  ·exact Lib.bytesWorld_below _ _ _
 ·match i,aa with
  |0,_=>exact .int _ _ _
  |1,_=>exact .nd _
theorem join (ls:List (List UInt8))(sep:List UInt8)(jX:ls.length≤140737488355328)(ae:(Lib.join ls sep).length≤140737488355328):bD Tryz.prog 242 [.ro (.strs ls) 0 ls.length,.str sep] (.str (Lib.join ls sep)):=by
 refine bD.Gk ⟨Tryz.f242,I,af,I⟩ I I (fun w S ds dB dp ah=> ?_);obtain ⟨x,y,rfl,a,b⟩:=Rd ah;have aY:y=oh sep:=by cases b;rfl
 subst aY;have PN:(⟨sep.toArray⟩:ByteArray).data.toList=sep:=bZ;have alh: ∀l:List UInt8,(⟨l.toArray⟩:ByteArray).data.toList=l:=fun l=>by simp
 generalize aF:ls.length=n at a;cases a with
 |jJ _ _ _ iV cap=>
  have:ls=[]:=uC.mp aF;subst this;refine (Tryz.strings_Join_none iV cap ⟨sep.toArray⟩ w).mono ?_;rintro e w' ⟨rfl,rfl⟩;exact ⟨_,I,Below.refl _ _,.str _ []⟩
 |ro _ _ _ _ zD o cap val e1 hlen av hU gf=>
  subst aF;have u9:(ls.map (fun l=>(⟨l.toArray⟩:ByteArray))).length=ls.length:=bZ;have c:=Tryz.strings_Join zD o cap (ls.map (fun l=>(⟨l.toArray⟩:ByteArray))) ⟨sep.toArray⟩ w (fun j x ar=> ?_) (dp _ e1) (by simpa using jX) (by simpa using hlen) ?_
  ·rw [u9] at c;refine c.mono ?_;rintro e w' ⟨rfl,ak⟩;have aE:((ls.map (fun l=>(⟨l.toArray⟩:ByteArray))).map (fun x=>x.data.toList))=ls:=by rw [List.map_map];exact (lr (fun x _=>rfl)).trans (List.map_id _)
   rw [aE,PN];exact ⟨_,I,ak,.str _ _⟩
  ·simp only [me,Option.map_eq_some_iff] at ar;obtain ⟨l,au,rfl⟩:=ar;have bC:j<ls.length:=(gL.1 au).1;have q:=av j 0 bC (by simp [Cells.aC]);have v:=hU j 0 bC (by simp [Cells.aC]);simp only [Cells.aC,q3,eQ] at q;simp only [Cells.at,c1,List.getD,au,oy] at v;rw [q];generalize val j 0=z at v;cases v;rfl
  ·have aE:((ls.map (fun l=>(⟨l.toArray⟩:ByteArray))).map (fun x=>x.data.toList))=ls:=by rw [List.map_map];exact (lr (fun x _=>rfl)).trans (List.map_id _)
   rw [aE,PN];exact ae
end Go.Proofs.YtmpnheilfejcpaaGreatDoor
namespace Go.Proofs.YtmpnheilfejcpaaGreatDoor
open Go.ai Go.ai.c8 Go.RowKit
attribute [local irreducible] ai ek bV cg
def pY (s p:List UInt8):Bool:=decide (p.length≤s.length∧s.take p.length=p)
theorem Vu (s p:List UInt8)(ax:s.length≤9223372036854775807)(aJ:p.length≤9223372036854775807):bD Tryz.prog 225 [.str s,.str p] (.bool (pY s p)):=by
 refine cm Tryz.f225 fun c ay bK=> ?_;refine fx ?_;refine gS I I (fun aO=> ?_) (fun aO=> ?_)
 ·refine kv ?_;refine bd ay I ?_;show al.bool (decide ((List.drop _ s).take _=p))=_;unfold pY;congr 1;rw [p8];simp only [gn,s5,cA,vS];exact ⟨fun h=>⟨J,h⟩,fun h=>h.2⟩
 ·refine bm ?_;refine bd ay I ?_;show al.bool false=_;unfold pY;rw [fq];exact fun h=>aO J
theorem H2 (s p:List UInt8)(ax:s.length≤9223372036854775807)(aJ:p.length≤9223372036854775807):bD Tryz.prog 245 [.str s,.str p] (.bool (pY s p)):=by have av:=Vu s p ax aJ;refine cm Tryz.f245 fun c ay bK=> ?_;generalize pY s p=b at*;refine bN ?_;refine aZ I I I av (bN ?_);exact bd ay I I
theorem adS (n:Nat)(aF:n≤60):bD Tryz.prog 240 [.str [48],ag n] (.str (List.replicate n 48)):=by
 refine cm Tryz.f240 fun c ay bK=> ?_;refine bl ?_;refine bB I (fun aO=> ?_) (fun aO=> ?_)
 ·have:n=0:=J;subst this;refine bm ?_;exact bd ay I I
 refine bl ?_;refine bB I (fun U=> ?_) (fun U=> ?_)
 ·have:n=1:=J;subst this;refine bm ?_;exact bd ay I I
 refine bm ?_;have hm:=abW 1 n J J;rw [rZ,ox J,mK J] at hm;have cY:bD Tryz.prog 245 [.str (List.replicate 128 32),.str [48]] (.bool false):=H2 _ _ a6 a6;have eT:bD Tryz.prog 245 [.str (List.replicate 128 45),.str [48]] (.bool false):=H2 _ _ a6 a6;have lz:bD Tryz.prog 245 [.str (List.replicate 64 48),.str [48]] (.bool true):=H2 _ _ a6 a6;refine an (gU (m:=1) I I I ey a6) ?_;repeat (refine an (bL rfl) ?_)
 refine an (gU (m:=n) I I I ey J) ?_;refine aZ I I I hm (bm ?_);refine bB I (fun h=>absurd h J) (fun h=> ?_);refine bI ?_;refine an (Bi (m:=n) I I I J) (vf ?_);refine gS I I (fun aw=> ?_) (fun aw=>absurd (show (n:Int)≤128 by omega) aw);refine dw ?_;refine aZ I I I cY (fx ?_);refine gS I I (fun bg=> ?_) (fun bg=>absurd (show (n:Int)≤128 by omega) bg);refine dw ?_;refine aZ I I I eT (fx ?_);refine gS I I (fun bF=> ?_) (fun bF=>absurd (show (n:Int)≤64 by omega) bF);refine dw ?_;refine aZ I I I lz (bt ?_);refine an (AU I I I I I I (by show (0:Int)≤0∧(0:Int)≤(n:Nat)∧((n:Nat):Int)≤((64:Nat):Int);omega)) (bm ?_);refine bd ay I ?_;show al.str ((List.drop 0 (List.replicate 64 48)).take (n-0))=_;rw [s5,vS,List.take_replicate,hF J]
def jP (k:Nat):List al:=(List.range 256).map fun j=>al.bool (decide (48≤j∧j<48+k))
theorem rB (k:Nat):(jP k).length=256:=by unfold jP;simp
theorem H6 (k j:Nat)(ae:j<256):(jP k)[j]? =some (al.bool (decide (48≤j∧j<48+k))):=by unfold jP;rw [me,uw ae];rfl
theorem aey (k:Nat)(ao:k<10):(jP k).set (48+k) (.bool true)=jP (k+1):=by
 apply List.ext_getElem?;intro i;rcases ga i 256 with aa|aa
 ·rw [H6 (k+1) i aa];by_cases h:i=48+k
  ·subst h;rw [nB (by rw [rB];exact aa)];congr 2;exact (fv J).symm
  ·rw [k0 (p4 h),H6 k i aa];congr 2;rw [p8];omega
 ·rw [jT (by rw [dj,rB];exact aa),jT (by rw [rB];exact aa)]
def Cf:List UInt8:=[48,49,50,51,52,53,54,55,56,57]
theorem Vg (k:Nat)(ao:k<10):(Cf.getD k 0).toNat=48+k:=by have:k=0∨k=1∨k=2∨k=3∨k=4∨k=5∨k=6∨k=7∨k=8∨k=9:=J;rcases this with rfl|rfl|rfl|rfl|rfl|rfl|rfl|rfl|rfl|rfl<;>rfl
theorem WO (l:List al):(List.range (Cells.box l).aC).map ((Cells.box l).at 0)=l:=by
 apply List.ext_getElem?;intro i;rcases ga i l.length with h|h
 ·rw [me,uw (by exact h)];show some (l.getD i .any)=_;rw [List.getD,mL h];rfl
 ·rw [jT (by simpa [Cells.aC] using h),jT h]
theorem aez:bD Tryz.prog 231 [.str Cf] (.cd [.agg (jP 10),.bool true]):=by
 refine cg.rn (hq (P:=Tryz.prog) (fn:=Tryz.f231) I I af I (fun c ay bK=> ?_)) (fix:=fun _=>False) (fun _ h=>h) I af;refine bl ?_;refine ko [some ⟨296,.box (jP 0)⟩] af ?_;refine cJ (ι:=Nat) (fun k=>[(0,.str Cf),(2,.ptr 0 0 0),(4,ag k)]) (fun k=>[some ⟨296,.box (jP k)⟩]) (fun k=>k≤10) (fun k=>10-k) 0 ⟨aH,I,J⟩ ?_;rintro k ao;have nK:Cf.length=10:=rfl;refine bm ?_;refine bB I (fun U=> ?_) (fun U=> ?_)
 ·have mW:k<10:=J;refine vf ?_;refine bB I (fun ab=>absurd ab (by rw [cA,Vg k mW];omega)) (fun ab=> ?_);refine bI ?_;refine bP 18 (.int .u8 (48+k:Nat)) I (aV.of_eq (by rw [cA,Vg k mW])) ?_;refine an (RM (m:=((48+k:Nat):Int)) (qk:=48+k) I I I I (by rw [cA,c1]) J) ?_;refine kN I I I I I (by rw [show (Cells.box (jP k)).aC=256 from rB k];exact Nat.ble_eq.symm▸(by omega:48+k+1≤256)) I fp (bt ?_);refine ca ⟨k+1,J,J,aH,?_⟩;show ([some ⟨_,.box ((jP k).set (48+k) (.bool true))⟩]:aX)=_;rw [aey k mW]
 ·have k4:k=10:=J;subst k4;refine bt ?_;refine an (RA (bc:=⟨296,.box (jP 10)⟩) I I I (rB 10).symm I I (WO _) fp) ?_;refine er (c':= .box (jP 10)) I I (by rw [show (Cells.box (jP 10)).aC=256 from rB 10];rfl) I (by rw [show (Cells.box (jP 10)).aC=256 from rB 10];exact rB 10) fp I I (fun aI a7 aP bf=> ?_) ?_
  ·rw [aG (e5.1 aP)];rfl
  refine bN ?_;exact bd ay I I
theorem RT (fF:UInt8):bD Tryz.prog 257 [.de (.box (jP 10)) 0 0,.int .u8 (fF.toNat:Nat)] (.bool (dg fF)):=by have bC:=fF.toNat_lt;have hk:=H6 10 fF.toNat (by simpa using bC);refine cm Tryz.f257 fun c ay bK=> ?_;refine yu ?_;refine an (ahA (m:=((fF.toNat:Nat):Int)) (qk:=fF.toNat) I I I I (by rw [cA,c1]) J) ?_;refine an (pN I I I hk) (bN ?_);exact bd ay I I
theorem adT (s:List UInt8)(ax:s.length≤9223372036854775807):bD Tryz.prog 233 [.str s,.de (.box (jP 10)) 0 0] (.str (tB s)):=by
 refine cm Tryz.f233 fun c ay bK=> ?_;refine bI ?_;refine cJ (ι:=Nat) (fun k=>[(0,.str (s.take k)),(1,.de (.box (jP 10)) 0 0)]) (fun _=>[]) (fun k=>k≤s.length∧(s.drop k).all dg=true) (fun k=>k) s.length ⟨⟨by rw [gb];rfl,I,trivial⟩,I,bR _,bZ⟩ ?_;rintro k ⟨ao,hd⟩;have hlen:(s.take k).length=k:=by simp;omega
 have CK:=afH ao hd;refine bm ?_;refine bB I (fun U=> ?_) (fun U=> ?_)
 ·have re:0<k:=J;have cX:(s.take k).getD (k-1) 0=s.getD (k-1) 0:=by simp only [List.getD,pj,show k-1<k by omega,fS]
  have aD:((k:Int)-1).toNat=k-1:=J;have av:=RT (s.getD (k-1) 0);refine K3 ?_;refine bP 13 (.int .u8 ((s.getD (k-1) 0).toNat:Nat)) I (aV.of_eq (by rw [hlen,aD,cX])) ?_;refine aZ I I I av (bt ?_);refine tT I (fun ab=> ?_) (fun ab=> ?_)
  ·have aw:dg (s.getD (k-1) 0)=false:=by simpa using ab
   refine tu ?_;refine bd ay I ?_;rw [CK (.inr aw)];rfl
  ·have aw:dg (s.getD (k-1) 0)=true:=by simpa using ab
   refine fx ?_;refine an (AU I I I I I I J) (bt ?_);refine ca ⟨k-1,⟨J,?_⟩,J,⟨?_,I,trivial⟩,I⟩
   ·rw [tL s 0 (k-1) J,show k-1+1=k by omega,zu,aw,hd];rfl
   ·show some (al.str ((List.drop 0 (s.take k)).take ((((s.take k).length:Int)-1).toNat-0)))=_;rw [s5,hlen,aD,vS,List.take_take,hF J]
 ·have nM:k=0:=J;subst nM;refine bt ?_;refine bd ay I ?_;rw [CK (.inl rfl)];rfl
theorem abB (s:List UInt8)(ax:s.length≤9223372036854775807):bD Tryz.prog 232 [.str s,.de (.box (jP 10)) 0 0] (.str (yx s)):=by
 refine cm Tryz.f232 fun c ay bK=> ?_;refine bI ?_;refine cJ (ι:=Nat) (fun k=>[(0,.str (s.drop k)),(1,.de (.box (jP 10)) 0 0)]) (fun _=>[]) (fun k=>k≤s.length∧(s.take k).all dg=true) (fun k=>s.length-k) 0 ⟨⟨by rw [s5];rfl,I,trivial⟩,I,cf _,bZ⟩ ?_;rintro k ⟨ao,hd⟩;have hlen:(s.drop k).length=s.length-k:=bZ;have CK:=afF hd;refine bm ?_;refine bB I (fun U=> ?_) (fun U=> ?_)
 ·have re:k<s.length:=J;have cX:(s.drop k).getD 0 0=s.getD k 0:=by simp [List.getD]
  have av:=RT (s.getD k 0);refine vf ?_;refine bP 10 (.int .u8 ((s.getD k 0).toNat:Nat)) I (aV.of_eq (by rw [gn,cX])) ?_;refine aZ I I I av (bt ?_);refine tT I (fun ab=> ?_) (fun ab=> ?_)
  ·have aw:dg (s.getD k 0)=false:=by simpa using ab
   refine tu ?_;refine bd ay I ?_;rw [CK (.inr aw)];rfl
  ·have aw:dg (s.getD k 0)=true:=by simpa using ab
   refine bI ?_;refine an (AU I I I I I I J) (bt ?_);refine ca ⟨k+1,⟨J,?_⟩,J,⟨?_,I,trivial⟩,I⟩
   ·rw [qq s 0 k re,List.all_append,hd];simp only [zu,List.all_nil,aw,Bool.and_true]
   ·show some (al.str ((List.drop 1 (s.drop k)).take ((s.drop k).length-1)))=_;rw [List.drop_drop,jU (by simp;omega)]
 ·have nM:s.length≤k:=J;refine bt ?_;refine bd ay I ?_;rw [CK (.inl nM)];rfl
theorem afI (s:List UInt8)(ax:s.length≤9223372036854775807):bD Tryz.prog 202 [.str s,.str Cf] (.str (yx (tB s))):=by
 have U:=aez;have ab:=adT s ax;have hle:(tB s).length≤s.length:=by unfold tB;rw [List.length_reverse];have:=(List.dropWhile_sublist (p:=dg) (l:=s.reverse)).length_le;simpa using this
 have aw:=abB (tB s) J;refine cm Tryz.f202 fun c ay bK=> ?_;have au:=rB 10;refine bm ?_;by_cases aO:s=[]
 ·subst aO;refine bm ?_;exact bd ay I I
 rw [show decide (s=_)=false from fq aO];refine bm ?_;refine aZ I I I U (bl ?_);refine er (c':= .box (jP 10)) I I I I (rB 10) fp I (rB 10) (fun aI a7 aP bf=> ?_) ?_
 ·rw [aG (e5.1 aP)];rfl
 refine bt ?_;have e6: ∀(h:Nat) (o:bk),([some ⟨296,.box (jP 10)⟩]:aX)[h]? =some (some o)→eV o.c:=vH (fun i j aa ae=>by
  show cV ((jP 10).getD j .any)=true;rw [List.getD,H6 10 j (by have:j<(jP 10).length:=ae;rwa [rB] at this)];rfl)
 refine c7 [some ⟨296,.box (jP 10)⟩] I ?_;refine HC rfl rfl rfl rfl ab e6 ⟨trivial,fun o aj=>by simp at aj;subst aj;exact fp,trivial⟩ rfl rfl rfl ?_;skip
 refine HC rfl rfl rfl rfl aw e6 ⟨trivial,fun o aj=>by simp at aj;subst aj;exact fp,trivial⟩ rfl rfl rfl (dw ?_);exact bd ay I I
end Go.Proofs.YtmpnheilfejcpaaGreatDoor
namespace Go.Proofs.YtmpnheilfejcpaaGreatDoor
open Go.ai Go.ai.c8 Go.RowKit
open Go.ai.qY (jh w1 wS tK)
attribute [local irreducible] ai ek bV cg
theorem Vs {i:Nat}(h:i≤9):10^i≤1000000000:=by have:=gp (show 0<10 by decide) h;exact dT this a6
theorem H5 (S:List UInt8)(hd: ∀c∈S,jh c)(au:S.length≤1000000):bD Tryz.prog 151 [.str S] (br (dQ 0 S)):=by
 refine cm Tryz.f151 fun c ay bK=> ?_;refine bN ?_;refine eA 3 (br 0) I aV.KU ?_;refine fK ?_;refine cJ (ι:=Nat×List UInt8) (fun p=>[(0,.str p.2),(3,br p.1)]) (fun _=>[]) (fun p=>p.2.length≤S.length∧(∀c∈p.2,jh c)∧dQ p.1 p.2=dQ 0 S∧p.1<10^(S.length-p.2.length)) (fun p=>p.2.length) (0,S) ⟨aH,I,bR _,hd,I,bZ⟩ ?_;rintro ⟨v,s⟩ ⟨U,ab,aw,bg⟩;simp only at*;refine bm ?_;refine bB I (fun bF=> ?_) (fun bF=> ?_)
 ·have rh:s≠[]:=by rintro rfl;simp at bF
  obtain ⟨k,ao,re,ZL,mm⟩: ∃k:Nat,(if (9:Int)<(s.length:Nat) then (9:Int) else (s.length:Nat))=(k:Int)∧1≤k∧k≤9∧k≤s.length:=by
   have:0<s.length:=xQ.2 rh;by_cases bw:(9:Int)<(s.length:Nat)
   ·exact ⟨9,by rw [aG bw];rfl,J,J,J⟩
   ·exact ⟨s.length,by rw [az bw],J,J,bR _⟩
  have Kq:s.take k≠[]:=by intro e;have:=congrArg List.length e;rw [ff,hF mm] at this;simp at this;omega
  have su:(s.take k).length=k:=by rw [ff,hF mm]
  obtain ⟨aJ,aaf⟩:=w4 Kq (fun c av=>ab c (oB av)) J;have PI:=acM (s.take k) _ J aJ;have Fp:dQ (v*10^k+dQ 0 (s.take k)) (s.drop k)=dQ 0 S:=by
   rw [←aw]
   conv=>rhs;rw [←rV k s]
   rw [Lz,DU (s.take k) v,su]
  have aaQ:=HV (l:=s.take k) (fun c av=>ab c (oB av));rw [su] at aaQ;have PV:v*10^k+dQ 0 (s.take k)<10^(S.length-(s.drop k).length):=by rw [uB,show S.length-(s.length-k)=(S.length-s.length)+k by omega,jm];have:(v+1)*10^k≤10^(S.length-s.length)*10^k:=fo _ bg;rw [ef] at this;omega
  obtain ⟨x,ar⟩: ∃x,dQ 0 (s.take k)=x:=⟨_,rfl⟩
  rw [ar] at aaf PI Fp PV;have u6:(aW v).length≤S.length-s.length:=nj (hE bg (vW a6 _));have Py:=ajK (aW v) (10^k) x (ij v) J (by have:=Vs ZL;omega) J;rw [gT] at Py;refine vf ?_;rw [ao];refine bP 17 (.str (s.take k)) I (aV.of_eq (by
   show al.str ((List.drop 0 s).take (k-0))=_;rw [s5,vS])) ?_
  refine aZ I I I PI (dw ?_);refine cJ (ι:=Nat) (fun i=>[(0,.str s),(3,br v),(4,ag k),(5,.int .u64 (x:Nat)),(7,.int .u32 (10^i:Nat)),(21,ag k),(22,ag i)]) (fun _=>[]) (fun i=>i≤k) (fun i=>k-i) 0 ⟨aH,I,cf _⟩ ?_;rintro i aa;refine bl ?_;refine bB I (fun dm=> ?_) (fun dm=> ?_)
  ·have aah:=Vs (show i+1≤9 by omega);rw [h4] at aah;refine bI ?_;refine an (BF (m:=10^i) (n:=10) I I kx J) (bt ?_);exact ca ⟨i+1,J,J,aH,I⟩
  ·have df:i=k:=J;subst df;refine bt ?_;refine an (gU (m:=x) I I I kx J) ?_;refine aZ I I I Py (vf ?_);refine ca ⟨(v*10^i+x,s.drop i),⟨by simp only [uB];omega,fun c av=>ab c (List.mem_of_mem_drop av),Fp,PV⟩,by simp only [uB];omega,⟨?_,I,trivial⟩,I⟩;show some (al.str ((List.drop i s).take (s.length-i)))=_;rw [jU bZ]
 ·have rh:s=[]:=by
   rcases s with _|⟨x,r⟩
   ·rfl
   ·exact absurd bZ bF
  subst rh;refine bt ?_;refine bd ay I ?_;rw [←aw];rfl
theorem akp:bD Tryz.prog 214 [br 0] (.str (Lib.decDigits 0)):=by
 refine cm Tryz.f214 fun c ay bK=> ?_;have sd:br 0= .ro (.ints .u32 []) 0 0:=by unfold br;rw [qy];rfl
 rw [sd];refine bt ?_;refine bd ay I ?_;rw [Lib.decDigits_one a6];rfl
theorem Dt {n L:Nat}(h:(aW n).length≤L)(cv:1≤L):(Lib.decDigits n).length≤10*L:=by have U:=jf (ij n);rw [gT] at U;have ab:B^(aW n).length≤B^L:=gp a6 h;have aw:B^L≤(10^10)^L:=vW a6 L;rw [←Nat.pow_mul] at aw;exact Dq J J
theorem Ie (n:Nat)(h:(aW n).length≤1000000):bD Tryz.prog 214 [br n] (.str (Lib.decDigits n)):=by
 rcases nD n with aO|aO
 ·subst aO;exact akp
 have nK:=Dt h a6;have tl:0<(aW n).length:=yA.2 J;refine cm Tryz.f214 fun c ay bK=> ?_;unfold br;refine bl ?_;refine bB I (fun q=>absurd q J) (fun q=> ?_);refine fx ?_;refine kM 3 ⟨9,.strs []⟩ I I ?_;refine fK ?_;refine cJ (ι:=Nat×List (List UInt8)) (fun p=>[(0,br p.1),(3,.aA 0 0 p.2.length)]) (fun p=>[some ⟨9,.strs p.2⟩]) (fun p=>(aW p.1).length≤1000000∧p.2.length≤p.2.reverse.flatten.length∧(if p.1=0 then Lib.decDigits n=p.2.reverse.flatten else Lib.decDigits n=Lib.decDigits p.1++p.2.reverse.flatten)) (fun p=>p.1) (n,[])
  ⟨aH,rfl,h,bZ,by rw [az (by simp only;omega)];simp⟩ ?_
 rintro ⟨m,ig⟩ ⟨U,ab,aw⟩;simp only at*;have eE:0<(aW m).length↔m≠0:=yA;have CA:=RU (aW m) 1000000000 (ij m) J a6;rw [gT] at CA;have alr:ig.reverse.flatten.length≤10000000:=by
  have e:ig.reverse.flatten.length≤(Lib.decDigits n).length:=by
   split at aw
   ·rw [aw];exact bR _
   ·rw [aw,c2];omega
  omega
 have sd:br m= .ro (.ints .u32 (aW m)) 0 (aW m).length:=rfl;rw [sd];refine bm ?_;refine bB I (fun bg=> ?_) (fun bg=> ?_)
 ·have tk:m≠0:=eE.1 J;rw [az tk] at aw;have ad:m%1000000000<1000000000:=kA _ a6;have bC:m/1000000000<m:=B2 J a6;have JS:=abi (m%1000000000) J;have PJ:0<(aW (m/1000000000)).length↔m/1000000000≠0:=yA;have J1:=Lq bC U;have e6:(Lib.decDigits (m%1000000000)).length≤9:=Dq a6 (by rw [show (10:Nat)^9=1000000000 by decide];exact ad);have FU:=adS (9-(Lib.decDigits (m%1000000000)).length) J;obtain ⟨t,Kq,su,u4,PR⟩: ∃t:List UInt8,t≠[]∧t.length≤9∧(m/1000000000≠0→t=List.replicate (9-(Lib.decDigits (m%1000000000)).length) 48++Lib.decDigits (m%1000000000))∧(m/1000000000=0→t=Lib.decDigits (m%1000000000)):=by
   by_cases z:m/1000000000=0
   ·exact ⟨_,tK _,e6,fun h=>absurd z h,fun _=>rfl⟩
   ·refine ⟨_,?_,?_,fun _=>rfl,fun h=>absurd h z⟩
    ·simp [tK]
    ·simp;omega
  have Ak:m/1000000000≠0→Lib.decDigits m=Lib.decDigits (m/1000000000)++t:=fun z=>by have E0:(10:Nat)^9=1000000000:=a6;have ax:=agU (n:=m) (k:=9) a6 (by rw [E0];omega);rw [E0] at ax;rw [ax,u4 z];rfl
  have Ah:m/1000000000=0→Lib.decDigits m=t:=fun z=>by rw [PR z];congr 1;have:=xG m 1000000000;omega
  have pE:(if m/1000000000=0 then Lib.decDigits n=(ig++[t]).reverse.flatten else Lib.decDigits n=Lib.decDigits (m/1000000000)++(ig++[t]).reverse.flatten):=by
   rw [List.reverse_append,List.reverse_singleton,List.singleton_append,List.flatten_cons];split
   ·rename_i z;rw [aw,Ah z]
   ·rename_i z;rw [aw,Ak z,ll]
  obtain ⟨r,PM⟩: ∃r,m%1000000000=r:=⟨_,rfl⟩
  obtain ⟨d,Zg⟩: ∃d,m/1000000000=d:=⟨_,rfl⟩
  simp only [PM,Zg] at*;refine bI ?_;refine aZ I I I CA (dw ?_);refine an (Bi (m:=r) I I I J) ?_;refine aZ I I I JS ?_;have XM:br d= .ro (.ints .u32 (aW d)) 0 (aW d).length:=rfl;rw [XM];refine bm ?_;apply j4 (H:=[some ⟨9,.strs ig⟩]) [(0,br d),(3,.aA 0 0 ig.length),(5,.str t)]
  ·intro fin;refine bB I (fun bW=> ?_) (fun bW=> ?_)
   ·have uU:d≠0:=PJ.1 J;refine fx ?_;refine bP 25 (ag (9-(Lib.decDigits r).length)) I (aV.of_eq (by congr 1;omega)) ?_;refine aZ I I I FU ?_;repeat (refine an (bL rfl) ?_)
    refine an (yQ I I (by simp;omega)) ?_;refine dS ?_;exact fin _ ⟨I,I,by rw [u4 uU];rfl,trivial⟩
   ·have uU:d=0:=by
     rcases nD d with z|z
     ·exact z
     ·exact absurd (by have:=PJ.2 J;omega) bW
    refine dS ?_;exact fin _ ⟨I,I,by rw [PR uU];rfl,trivial⟩
  refine bz ?_;refine dt I I I I I I I I I I I I (bR 1) I (by show (ig.length+1)*16≤_∧_;omega) (fun i j _ _=>rfl) c4 (bt ?_);refine ca ⟨(d,ig++[t]),⟨J1,?_,pE⟩,bC,⟨I,?_,trivial⟩,I⟩
  ·simp only [List.reverse_append,List.reverse_singleton,List.singleton_append,List.flatten_cons,c2,List.length_singleton];have:=xQ.2 Kq;omega
  ·show some (al.aA 0 0 (ig.length+1))=_;simp
 ·have tk:m=0:=by
   rcases nD m with q|q
   ·exact q
   ·exact absurd (by have:=eE.2 J;omega) bg
  rw [aG tk] at aw;have aap:=aiC ig J;have x7:(Lib.join ig.reverse []).length≤140737488355328:=by rw [SJ];omega
  have JT:=join ig.reverse [] (by rw [List.length_reverse];omega) x7;rw [SJ,←aw,List.length_reverse] at JT;refine bt ?_;refine rz (fix:=fun h=>h<1) I I I aap (fun h aU=>aU) (fun h aU=>aU) ?_;rintro r H rfl;refine bN ?_;refine rC 0 35 ig.length [] I agZ I (by show _≤ig.reverse.length;simp) trivial ?_;refine aZ I I I JT (bN ?_);exact bd ay I I
end Go.Proofs.YtmpnheilfejcpaaGreatDoor
namespace Go.Proofs.YtmpnheilfejcpaaGreatDoor
open Go.ai Go.ai.kz Go.ai.eD
attribute [local irreducible] ai ek bV cg
theorem abe (l:List Int)(v:Int)(hlen:l.length≤9223372036854775807):
 bD Tryz.prog 192 [.ro (.ints .i64 l) 0 l.length,.int .i64 v] (.int .i64 (iy (pv v) l)):=by
 refine cm Tryz.f192 fun c ay bK=> ?_;refine bz ?_;refine cJ (ι:=Nat) (fun k=>[(0,.ro (.ints .i64 l) 0 l.length),(1,.int .i64 v),(7,ag l.length),(8,ag k)]) (fun _=>[])
  (fun k=>k≤l.length∧(l.take k).any (pv v)=false) (fun k=>l.length-k) 0 ⟨aH,rfl,cf _,rfl⟩ ?_
 intro k ⟨ao,iI⟩;refine bl ?_;refine bB I (fun h=> ?_) (fun h=> ?_)
 ·have b5:k<l.length:=J;have uS:=Dm (pv v) l 0 k b5;refine bm ?_;refine bB I (fun ab=> ?_) (fun ab=> ?_)
  ·refine bm ?_;refine bd ay I ?_;have:=rk (pv v) l k iI ao;rw [tL l 0 k b5] at this;have aw:pv v (l.getD k 0)=true:=by simpa [pv] using ab
   simp only [iy,aw,fS] at this;rw [this];simp [gK]
  ·refine bt ?_;have aw:pv v (l.getD k 0)=false:=by simpa [pv] using ab
   refine ca ⟨k+1,⟨J,by rw [uS,iI,aw];rfl⟩,J,aH,I⟩
 ·have b5:k=l.length:=J;subst b5;refine bt ?_;refine bd ay I ?_;have:=rk (pv v) l l.length iI ao;rw [r7] at this;rw [this];rfl
theorem ail (l:List Int)(g:FuncId)(cB:List al)(p:Int→Bool)(av:cV.eR cB=true)(hlen:l.length≤9223372036854775807)(aJ: ∀x∈l,bD Tryz.prog g ([.int .i64 x]++cB) (.bool (p x))):
 bD Tryz.prog 204 [.ro (.ints .i64 l) 0 l.length,.fn g cB] (.int .i64 (iy p l)):=by
 refine cg.rn (hq (P:=Tryz.prog) (fn:=Tryz.f204) I I af I (fun c ay bK=> ?_)) (fix:=fun _=>False) (fun _ h=>h) (by simp [cV.eR,cV,av]) I;refine bz ?_;refine cJ (ι:=Nat) (fun k=>[(0,.ro (.ints .i64 l) 0 l.length),(1,.fn g cB),(7,ag l.length),(8,ag k)]) (fun _=>[])
  (fun k=>k≤l.length∧(l.take k).any p=false) (fun k=>l.length-k) 0 ⟨aH,rfl,cf _,rfl⟩ ?_
 intro k ⟨ao,iI⟩;refine bl ?_;refine bB I (fun h=> ?_) (fun h=> ?_)
 ·have b5:k<l.length:=J;have uS:=Dm p l 0 k b5;refine bm ?_;refine aZ I I I (aJ _ (mz 0 b5)) (bN ?_);refine tT I (fun ab=> ?_) (fun ab=> ?_)
  ·refine bm ?_;refine bd ay I ?_;have:=rk p l k iI ao;rw [tL l 0 k b5] at this;simp only [iy,ab,fS] at this;rw [this];simp [gK]
  ·refine bt ?_;refine ca ⟨k+1,⟨J,by rw [uS,iI,ab];rfl⟩,J,aH,I⟩
 ·have b5:k=l.length:=J;subst b5;refine bt ?_;refine bd ay I ?_;have:=rk p l l.length iI ao;rw [r7] at this;rw [this];rfl
theorem S0 (l:List Int)(g:FuncId)(cB:List al)(p:Int→Bool)(av:cV.eR cB=true)(hlen:l.length≤9223372036854775807)(aJ: ∀x∈l,bD Tryz.prog g ([.int .i64 x]++cB) (.bool (p x))):
 bD Tryz.prog 164 [.ro (.ints .i64 l) 0 l.length,.fn g cB] (.bool (l.any p)):=by refine cg.rn (hq (P:=Tryz.prog) (fn:=Tryz.f164) I I af I (fun c ay bK=> ?_)) (fix:=fun _=>False) (fun _ h=>h) (by simp [cV.eR,cV,av]) I;refine bN ?_;refine aZ I I I (ail l g cB p av hlen aJ) (fx ?_);refine bd ay I ?_;simp only [gK,DY]
theorem ahI (l:List Int)(g:FuncId)(cB:List al)(p:Int→Bool)(av:cV.eR cB=true)(hlen:l.length≤9223372036854775807)(aJ: ∀x∈l,bD Tryz.prog g ([.int .i64 x]++cB) (.bool (p x))):
 bD Tryz.prog 154 [.ro (.ints .i64 l) 0 l.length,.fn g cB] (.int .i64 (iy p l)):=by
 refine cg.rn (hq (P:=Tryz.prog) (fn:=Tryz.f154) I I af I (fun c ay bK=> ?_)) (fix:=fun _=>False) (fun _ h=>h) (by simp [cV.eR,cV,av]) I;refine bz ?_;refine cJ (ι:=Nat) (fun k=>[(0,.ro (.ints .i64 l) 0 l.length),(1,.fn g cB),(7,ag l.length),(8,ag k)]) (fun _=>[])
  (fun k=>k≤l.length∧(l.take k).any p=false) (fun k=>l.length-k) 0 ⟨aH,rfl,cf _,rfl⟩ ?_
 intro k ⟨ao,iI⟩;refine bl ?_;refine bB I (fun h=> ?_) (fun h=> ?_)
 ·have b5:k<l.length:=J;have uS:=Dm p l 0 k b5;refine bm ?_;refine aZ I I I (aJ _ (mz 0 b5)) (bN ?_);refine tT I (fun ab=> ?_) (fun ab=> ?_)
  ·refine bm ?_;refine bd ay I ?_;have:=rk p l k iI ao;rw [tL l 0 k b5] at this;simp only [iy,ab,fS] at this;rw [this];simp [gK]
  ·refine bt ?_;refine ca ⟨k+1,⟨J,by rw [uS,iI,ab];rfl⟩,J,aH,I⟩
 ·have b5:k=l.length:=J;subst b5;refine bt ?_;refine bd ay I ?_;have:=rk p l l.length iI ao;rw [r7] at this;rw [this];rfl
theorem aiZ (l:List Int)(g:FuncId)(cB:List al)(p:Int→Bool)(av:cV.eR cB=true)(hlen:l.length≤9223372036854775807)(aJ: ∀x∈l,bD Tryz.prog g ([.int .i64 x]++cB) (.bool (p x))):
 bD Tryz.prog 77 [.ro (.ints .i64 l) 0 l.length,.fn g cB] (.bool (l.any p)):=by refine cg.rn (hq (P:=Tryz.prog) (fn:=Tryz.f77) I I af I (fun c ay bK=> ?_)) (fix:=fun _=>False) (fun _ h=>h) (by simp [cV.eR,cV,av]) I;refine bN ?_;refine aZ I I I (ahI l g cB p av hlen aJ) (fx ?_);refine bd ay I ?_;simp only [gK,DY]
def Gj (e:Int):Bool:=decide (e≠0)
theorem X0 (n:Int):bD Tryz.prog 78 [.int .i64 n] (.bool (Gj n)):=by refine cm Tryz.f78 fun c ay bK=> ?_;refine bz ?_;refine bd ay I ?_;simp [gK,Gj]
theorem Ov (l:List Int)(hlen:l.length≤1000):bD Tryz.prog 19 [.ro (.ints .i64 l) 0 l.length] (.bool (!(l.any Gj))):=by refine cm Tryz.f19 fun c ay bK=> ?_;refine bN ?_;refine aZ I I I (aiZ l 78 [] Gj I J (fun x _=>X0 x)) (bt ?_);exact bd ay I I
end Go.Proofs.YtmpnheilfejcpaaGreatDoor
namespace Go.Proofs.YtmpnheilfejcpaaGreatDoor
open Go.ai Go.ai.c8 Go.RowKit
open Go.ai.qY (jh w1 wS tK)
attribute [local irreducible] ai ek bV cg
theorem S5 (s:List UInt8)(ax:s.length≤9223372036854775807):bD Tryz.prog 157 [.str s] (.bool (ub s)):=by
 have bs:=afI s ax;have aF:=afG (s:=s);have av:ub s=(decide (s≠[]) && s.all dg && (decide (s.getD 0 0≠48)||decide (s.length=1))):=rfl;refine cm Tryz.f157 fun c ay bK=> ?_;generalize yx (tB s)=u at*;generalize ub s=b at*;by_cases aO:s=[]
 ·subst aO;refine Da ?_;refine bd ay I ?_;rw [av];rfl
 have hlen:0<s.length:=xQ.2 aO;refine fx ?_;refine gS I I (fun U=> ?_) (fun U=>absurd aO U);refine dw ?_;refine aZ I I I bs (bm ?_);refine gS I I (fun ab=> ?_) (fun ab=> ?_)
 ·have a1:s.all dg=true:=aF.1 ab;rw [fv aO,a1,lO,lO] at av;refine K3 ?_;refine gS I I (fun aw=> ?_) (fun aw=> ?_)
  ·have bg:decide (s.getD 0 0≠48)=true:=fv (fun e=>aw (by simp only [gn];rw [e];rfl));rw [bg,Bool.true_or] at av;refine bm ?_;refine bd ay I ?_;rw [av];rfl
  ·have bF:s.getD 0 0=48:=by simp only [gn] at aw;apply UInt8.toNat_inj.1;have:((s.getD 0 0).toNat:Int)=48:=J;show (s.getD 0 0).toNat=48;omega
   have bg:decide (s.getD 0 0≠48)=false:=fq (fun e=>e bF);rw [bg,zv] at av;refine bm ?_;refine bd ay I ?_;rw [av];show al.bool (decide ((s.length:Int)=1))=_;congr 1;rw [p8];omega
 ·have a1:s.all dg=false:=by
   cases aB:s.all dg with
   |false=>rfl
   |true=>exact absurd (aF.2 aB) ab
  rw [a1,Bool.and_false,pq] at av;refine tu ?_;refine bd ay I ?_;rw [av];rfl
def vJ (p:List UInt8×Int):al:= .cd [.str p.1,.int .i64 p.2]
theorem Ee {a b k:Nat}(a1:(aW a).length≤k)(ak:(aW b).length≤k):(aW (a*b)).length≤k+k:=by have U:=jf (ij a);have ab:=jf (ij b);rw [gT] at U ab;refine nj ?_;rw [jm];refine Nat.mul_lt_mul'' (hE U (gp a6 a1)) (hE ab (gp a6 ak))
theorem abC {a b k:Nat}(a1:(aW a).length≤k)(ak:(aW b).length≤k):(aW (a+b)).length≤k+1:=by have U:=jf (ij a);have ab:=jf (ij b);rw [gT] at U ab;refine nj ?_;have aw:B^(aW a).length≤B^k:=gp a6 a1;have bg:B^(aW b).length≤B^k:=gp a6 ak;rw [h4];have:B^k*2≤B^k*B:=h5 _ a6;omega
end Go.Proofs.YtmpnheilfejcpaaGreatDoor
namespace Go.ai
open Go.RowKit
theorem dd {G dJ:Prop}(k:dJ)(h:ky dJ→G:=by intro k;(repeat (first|refine cy rfl rfl (bL rfl) ?_|refine cy rfl rfl (dr rfl) ?_|refine cy rfl rfl (Dp rfl rfl rfl) ?_|refine cy rfl rfl (tE rfl rfl rfl rfl) ?_|refine cy rfl rfl (jl rfl rfl rfl rfl rfl) ?_|refine cy rfl rfl (qI rfl rfl) ?_|refine cy rfl rfl (sN rfl rfl) ?_|refine cy rfl rfl (uj rfl) ?_|refine cy rfl rfl (lF rfl rfl) ?_|refine cy rfl rfl (gC rfl rfl rfl) ?_|refine cy rfl rfl (hl rfl rfl J) ?_|refine cy rfl rfl (qJ rfl rfl J) ?_|refine cy rfl rfl (j3 rfl rfl rfl rfl hH J) ?_|refine cy rfl rfl (gk rfl rfl rfl rfl rfl hH J) ?_|refine cy rfl rfl (Dn rfl rfl rfl rfl mq) ?_|refine cy rfl rfl (AO rfl rfl rfl rfl rfl mq) ?_|refine cy rfl rfl (iD rfl rfl rfl rfl rfl rfl) ?_|refine cy rfl rfl (jQ rfl) ?_|refine cy rfl rfl (dh rfl rfl rfl rfl rfl rfl) ?_|refine cy rfl rfl (oW rfl rfl rfl rfl rfl rfl) ?_|refine cy rfl rfl (wP rfl rfl rfl rfl rfl rfl) ?_|refine cy rfl rfl (K0 rfl rfl rfl rfl rfl rfl rfl) ?_|refine cy rfl rfl (Md rfl rfl rfl) ?_|refine cy rfl rfl (lA rfl rfl rfl) ?_|refine cy rfl rfl (Gr rfl rfl rfl rfl) ?_|refine cy rfl rfl (adB rfl rfl rfl rfl) ?_|refine cy rfl rfl (n0 rfl rfl rfl hv kl) ?_|refine cy rfl rfl (Dk rfl rfl rfl hv rfl mq) ?_|refine cy rfl rfl (QG rfl J) ?_));exact k.out):G:=h ⟨k⟩
end Go.ai
namespace Go.Proofs.YtmpnheilfejcpaaGreatDoor
open Go.ai Go.ai.c8 Go.ai.cz Go.RowKit
attribute [local irreducible] ai ek bV cg hb
def dK (x:Int):al:= .agg [.bool (decide (x<0)),br x.natAbs]
theorem xc (b:Bool)(n:Nat):bD Tryz.prog 150 [.bool b,br n] (dK (kb b n)):=by
 have aJ:0<(aW n).length↔n≠0:=yA;have ad:dK (kb b n)= .agg [.bool (b && decide (n≠0)),br n]:=by unfold dK;rw [yR,M1]
 rw [ad];refine cm Tryz.f150 fun c ay bK=> ?_;unfold br at ay⊢;cases b
 ·refine tu ?_;refine dP (c':= .box [.bool false,.ro (.ints .u32 (aW n)) 0 (aW n).length]) I I I I I I I (bN ?_);exact bd ay I I
 ·refine tu ?_;have e:decide (0<((aW n).length:Int))=decide (n≠0):=by rw [p8,←aJ];omega
  refine er (c':= .box [.bool (decide (n≠0)),.ro (.ints .u32 (aW n)) 0 (aW n).length]) I I I I I fp I I (fun aI a7 aP bf=> ?_) ?_
  ·rw [aG (e5.1 aP),←e];rfl
  refine bN ?_;exact bd ay I I
theorem abY (x y:Int):kb (!(decide (x<0)==decide (y<0))) (x.natAbs*y.natAbs)=x*y:=by
 have h:(x*y).natAbs=x.natAbs*y.natAbs:=kf x y;unfold kb;rcases xF x 0 with ar|ar|ar<;>rcases xF y 0 with aY|aY|aY
 ·have:=Int.mul_pos_of_neg_of_neg ar aY;simp only [ar,aY];simp;omega
 ·subst aY;simp
 ·have:=Int.mul_neg_of_neg_of_pos ar aY;simp only [ar,show¬y<0 by omega];simp;omega
 ·subst ar;simp
 ·subst ar;simp
 ·subst ar;simp
 ·have:=Int.mul_neg_of_pos_of_neg ar aY;simp only [aY,show¬x<0 by omega];simp;omega
 ·subst aY;simp
 ·have:=vZ ar aY;simp only [show¬x<0 by omega,show¬y<0 by omega];simp;omega
theorem oZ (x y:Int)(ar:(aW x.natAbs).length≤1000000)(aY:(aW y.natAbs).length≤1000000):bD Tryz.prog 152 [dK x,dK y] (dK (x*y)):=by
 have U:=Ip x.natAbs y.natAbs J J;have ab:=xc (!(decide (x<0)==decide (y<0))) (x.natAbs*y.natAbs);rw [abY] at ab;refine cm Tryz.f152 fun c ay bK=> ?_;refine bm ?_;refine eN af ?_;refine fe (fuel:=1) [0,1,2,3,4,5,6,7,8,9,10] [(2,.ptr 0 0 0),(3,.ptr 1 0 0),(4,.ptr 2 0 0)] aH af a6 I I ?_;refine dd ?_;refine en I I I I I U ?_;refine en I I I I I ab ?_;refine fc ?_;refine bx 11 ?_;skip
 unfold dK br;refine dP (c':= .box [.bool (decide (x*y<0)),.ro (.ints .u32 (aW (x*y).natAbs)) 0 (aW (x*y).natAbs).length]) I I I I I I I (bI ?_);refine eM af (bN ?_);exact bd ay I I
theorem acv (x:Int):kb (!decide (x<0)) x.natAbs= -x:=by
 unfold kb;by_cases h:x<0
 ·simp [h];omega
 ·simp [h];omega
theorem yW (x:Int):bD Tryz.prog 175 [dK x] (dK (-x)):=by
 have ab:=xc (!decide (x<0)) x.natAbs;rw [acv] at ab;refine cm Tryz.f175 fun c ay bK=> ?_;refine bm ?_;refine aZ I I I ab ?_;skip
 unfold dK;refine dP (c':= .box [.bool (decide (-x<0)),br (-x).natAbs]) I I I I I I I (bN ?_);exact bd ay I I
theorem w2 (x:Int):bD Tryz.prog 160 [dK x] (.int .i64 (j2 x)):=by
 have aJ:0<(aW x.natAbs).length↔x.natAbs≠0:=yA;unfold j2;refine cm Tryz.f160 fun c ay bK=> ?_;unfold dK br;rcases xF x 0 with h|h|h
 ·have e:decide (x<0)=true:=fv h;rw [e];rw [aG h] at ay;refine bm ?_;refine bB I (fun aO=>absurd aO J) (fun aO=> ?_);refine bm ?_;exact bd ay I I
 ·subst h;rw [az J,aG rfl] at ay;have iX:aW (0:Int).natAbs=[]:=qy;rw [iX];refine bm ?_;exact bd ay I I
 ·have e:decide (x<0)=false:=fq J;rw [e];rw [az J,az J] at ay;refine bm ?_;refine bB I (fun aO=>absurd aO J) (fun aO=> ?_);refine bt ?_;exact bd ay I I
theorem Wb (x y:Int)(h:decide (x<0)=decide (y<0)):kb (decide (x<0)) (x.natAbs+y.natAbs)=x+y:=by
 unfold kb;rw [p8] at h;by_cases U:x<0
 ·simp [U];omega
 ·simp [U];omega
theorem Wc (x y:Int)(h: ¬decide (x<0)=decide (y<0))(ab:y.natAbs≤x.natAbs):kb (decide (x<0)) (x.natAbs-y.natAbs)=x+y:=by
 unfold kb;rw [p8] at h;by_cases U:x<0
 ·simp [U];omega
 ·simp [U];omega
theorem Wd (x y:Int)(h: ¬decide (x<0)=decide (y<0))(ab: ¬y.natAbs≤x.natAbs):kb (decide (y<0)) (y.natAbs-x.natAbs)=x+y:=by
 unfold kb;rw [p8] at h;by_cases U:y<0
 ·simp [U];omega
 ·simp [U];omega
theorem UZ {x y:Int}:0≤jx x y↔y≤x:=by
 unfold jx;split
 ·omega
 ·split<;>omega
theorem Nf (x y:Int)(ar:(aW x.natAbs).length≤1000000)(aY:(aW y.natAbs).length≤1000000):bD Tryz.prog 176 [dK x,dK y] (dK (x+y)):=by
 by_cases h:decide (x<0)=decide (y<0)
 ·have U:=V9 x.natAbs y.natAbs J J;have ab:=xc (decide (x<0)) (x.natAbs+y.natAbs);rw [Wb x y h] at ab;refine cm Tryz.f176 fun c ay bK=> ?_;unfold dK at ay⊢;repeat (first|refine cK ?_|refine b0 ?_|refine c6 ?_|refine c0 rfl ?_|refine an (jl rfl rfl rfl rfl rfl) ?_|refine an (dh rfl rfl rfl rfl rfl rfl) ?_|refine an (MW rfl rfl rfl) ?_|refine ua rfl rfl ?_|refine my rfl rfl rfl ?_)
  refine eA 9 (.bool true) I (aV.of_eq (by rw [h];simp)) (bt ?_);refine eN af ?_;refine fe (fuel:=1) [0,1,2,3,4,5,6,7] [(2,.ptr 0 0 0),(3,.ptr 1 0 0),(4,.ptr 2 0 0)] aH af a6 I I ?_;refine dd ?_;refine en I I I I I U ?_;refine en I I I I I ab ?_;refine fc ?_;refine bx 8 ?_;skip
  unfold dK;refine dP (c':= .box [.bool (decide (x+y<0)),br (x+y).natAbs]) I I I I I I I (bI ?_);refine eM af (dw ?_);exact bd ay I I
 ·have aO:=Ij x.natAbs y.natAbs J J;by_cases av:y.natAbs≤x.natAbs
  ·have U:=Q4 x.natAbs y.natAbs av J;have ab:=xc (decide (x<0)) (x.natAbs-y.natAbs);rw [Wc x y h av] at ab;refine cm Tryz.f176 fun c ay bK=> ?_;unfold dK at ay⊢;repeat (first|refine cK ?_|refine b0 ?_|refine c6 ?_|refine c0 rfl ?_|refine an (jl rfl rfl rfl rfl rfl) ?_|refine an (dh rfl rfl rfl rfl rfl rfl) ?_|refine an (MW rfl rfl rfl) ?_|refine ua rfl rfl ?_|refine my rfl rfl rfl ?_)
   refine eA 9 (.bool false) I (aV.of_eq (by rw [beq_eq_false_iff_ne.2 h])) (bt ?_);refine aZ I I I aO (cM ?_);refine bB I (fun bF=> ?_) (fun bF=>absurd (UZ.2 (Int.ofNat_le.2 av)) bF);repeat (refine c6 ?_)
   refine eN af ?_;refine fe (fuel:=1) [0,1,2,3,4,5,6,7] [(2,.ptr 0 0 0),(3,.ptr 1 0 0),(4,.ptr 2 0 0)] aH af a6 I I ?_;refine dd ?_;refine en I I I I I U ?_;refine en I I I I I ab ?_;refine fc ?_;refine bx 8 ?_;skip
   unfold dK;refine dP (c':= .box [.bool (decide (x+y<0)),br (x+y).natAbs]) I I I I I I I (bI ?_);refine eM af (dw ?_);exact bd ay I I
  ·have U:=Q4 y.natAbs x.natAbs J J;have ab:=xc (decide (y<0)) (y.natAbs-x.natAbs);rw [Wd x y h av] at ab;refine cm Tryz.f176 fun c ay bK=> ?_;unfold dK at ay⊢;repeat (first|refine cK ?_|refine b0 ?_|refine c6 ?_|refine c0 rfl ?_|refine an (jl rfl rfl rfl rfl rfl) ?_|refine an (dh rfl rfl rfl rfl rfl rfl) ?_|refine an (MW rfl rfl rfl) ?_|refine ua rfl rfl ?_|refine my rfl rfl rfl ?_)
   refine eA 9 (.bool false) I (aV.of_eq (by rw [beq_eq_false_iff_ne.2 h])) (bt ?_);refine aZ I I I aO (cM ?_);refine bB I (fun bF=>absurd (Int.ofNat_le.1 (UZ.1 bF)) av) (fun bF=> ?_);refine bI ?_;refine eN af ?_;refine fe (fuel:=1) [0,1,2,3,4,5,6,7] [(2,.ptr 0 0 0),(3,.ptr 1 0 0),(4,.ptr 2 0 0)] aH af a6 I I ?_;refine dd ?_;refine en I I I I I U ?_;refine en I I I I I ab ?_;refine fc ?_;refine bx 8 ?_;skip
   unfold dK;refine dP (c':= .box [.bool (decide (x+y<0)),br (x+y).natAbs]) I I I I I I I (bI ?_);refine eM af (bN ?_);exact bd ay I I
theorem abD {x:Int}{k:Nat}(h:(aW x.natAbs).length≤k):(aW (-x).natAbs).length≤k:=by rw [p7];exact h
theorem Nh (x y:Int)(ar:(aW x.natAbs).length≤1000000)(aY:(aW y.natAbs).length≤1000000):bD Tryz.prog 201 [dK x,dK y] (dK (x-y)):=by
 have U:=yW y;have ab:=Nf x (-y) ar (abD aY);rw [show x+ -y=x-y from rfl] at ab;refine cm Tryz.f201 fun c ay bK=> ?_;refine bm ?_;refine eN af ?_;refine fe (fuel:=1) [0,1,2,3] [(2,.ptr 0 0 0),(3,.ptr 1 0 0),(4,.ptr 2 0 0)] aH af a6 I I ?_;refine dd ?_;refine en I I I I I U ?_;refine en I I I I I ab ?_;refine fc ?_;refine bx 4 ?_;skip
 unfold dK;refine dP (c':= .box [.bool (decide (x-y<0)),br (x-y).natAbs]) I I I I I I I (bI ?_);refine eM af (bN ?_);exact bd ay I I
theorem Vm (x y:Int)(ar:(aW x.natAbs).length≤1000000)(aY:(aW y.natAbs).length≤1000000):bD Tryz.prog 153 [dK x,dK y] (.int .i64 (j2 (x-y))):=by
 have U:=Nh x y ar aY;have ab:=w2 (x-y);refine cm Tryz.f153 fun c ay bK=> ?_;refine bm ?_;refine aZ I I I U ?_;skip
 refine aZ I I I ab (bN ?_);exact bd ay I I
theorem M5 (n:Int)(h: -9223372036854775808≤n∧n<9223372036854775808):bD Tryz.prog 142 [.int .i64 n] (dK n):=by
 refine cm Tryz.f142 fun c ay bK=> ?_;rcases Int.lt_or_le n 0 with aF|aF
 ·have U:=DP n.natAbs J;refine bl ?_;refine bB I (fun _=> ?_) (fun aO=>absurd aF aO);refine bz ?_;refine an (QG I J) ?_;refine bP 7 (.int .i64 ((n.natAbs-1:Nat):Int)) I (aV.of_eq (congrArg _ J)) ?_;refine an (gU (m:=n.natAbs-1) I I I ey J) ?_;refine an (ue (m:=n.natAbs-1) (n:=1) I I ey J) ?_;refine bP 9 (.int .u64 ((n.natAbs:Nat):Int)) I (aV.of_eq (congrArg _ J)) ?_;skip
  refine aZ I I I U ?_;repeat (refine an (iD rfl rfl rfl rfl rfl rfl) ?_)
  refine dP (c':= .box [.bool true,br n.natAbs]) I I I I I I I (dw ?_);refine bd ay I ?_;unfold dK;rw [show decide (n<0)=true from fv aF];rfl
 ·have U:=DP n.natAbs J;refine bl ?_;refine bB I (fun aO=>absurd aO J) (fun aO=> ?_);refine bI ?_;refine bP 12 (.int .i64 ((n.natAbs:Nat):Int)) I (aV.of_eq (congrArg _ J)) ?_;refine an (gU (m:=n.natAbs) I I I ey J) ?_;skip
  refine aZ I I I U ?_;repeat (refine an (iD rfl rfl rfl rfl rfl rfl) ?_)
  refine dP (c':= .box [.bool false,br n.natAbs]) I I I I I I I (bN ?_);refine bd ay I ?_;unfold dK;rw [show decide (n<0)=false from fq J];rfl
def cj (q:Rat):al:= .agg [.bool (decide (q.num<0)),br q.num.natAbs,br q.den]
theorem Ed (n:Nat):dK (n:Int)= .agg [.bool false,br n]:=by unfold dK;rw [show decide ((n:Int)<0)=false from fq J,k1]
theorem WK {x y z:Int}(h:z<0↔x≠0∧((x<0∧ ¬y<0)∨(¬x<0∧y<0)))(bw:x=0→z=0):kb (!(decide (x<0)==decide (y<0))) z.natAbs=z:=by
 unfold kb;by_cases U:x<0<;>by_cases ab:y<0
 ·simp [U,ab];have: ¬z<0:=fun q=>by have:=h.1 q;omega
  omega
 ·simp [U,ab];have:z<0:=h.2 J;omega
 ·simp [U,ab];rcases Int.lt_or_le z 0 with q|q
  ·omega
  ·have:x=0:=by
    rcases xF x 0 with w|w|w
    ·exact absurd w U
    ·exact w
    ·exact absurd (h.2 ⟨J,.inr ⟨U,ab⟩⟩) J
   have:=bw this;omega
 ·simp [U,ab];have: ¬z<0:=fun q=>by have:=h.1 q;omega
  omega
theorem X9 {a b k:Nat}(a1:(aW a).length≤k)(ak:(aW b).length≤k):(aW (Nat.gcd a b)).length≤k:=by
 rcases nD a with h|h
 ·subst h;rw [Nat.gcd_zero_left];exact ak
 ·exact GX (Nat.gcd_le_left b h) a1
theorem Bv (n d:Int)(hd:d≠0)(aF:(aW n.natAbs).length≤1000000)(nK:(aW d.natAbs).length≤1000000):bD Tryz.prog 141 [dK n,dK d] (cj (Rat.divInt n d)):=by
 obtain ⟨aD,aE,bM⟩:=LP n d hd;have cX:=Ns n.natAbs d.natAbs aF nK;have wg:=X9 aF nK;have Po:0<Nat.gcd n.natAbs d.natAbs:=Nat.gcd_pos_of_pos_right _ J;have U:=BC n.natAbs _ Po aF wg;have ab:=BC d.natAbs _ Po nK wg;have aw:=xc (!(decide (n<0)==decide (d<0))) (Rat.divInt n d).num.natAbs;rw [WK bM (fun aO=>by rw [aO,Rat.zero_divInt];rfl)] at aw;rw [←aD] at U;rw [←aE] at ab;refine cm Tryz.f141 fun c ay bK=> ?_;refine bm ?_;refine aZ I I I cX (bt ?_);refine aZ I I I U (bt ?_);refine aZ I I I ab ?_;repeat (first|refine an (bL rfl) ?_|refine an (dr rfl) ?_|refine cK ?_|refine b0 ?_|refine c6 ?_|refine c0 rfl ?_|refine an (jl rfl rfl rfl rfl rfl) ?_|refine an (nm rfl rfl) ?_|refine an (dh rfl rfl rfl rfl rfl rfl) ?_|refine an (Md rfl rfl rfl) ?_)
 refine aZ I I I aw (fx ?_);refine dP (c':= .box [.bool (decide ((Rat.divInt n d).num<0)),br (Rat.divInt n d).num.natAbs,br (Rat.divInt n d).den]) I I I I I I I (bN ?_);exact bd ay I I
def fu (k:Nat)(q:Rat):Prop:=(aW q.num.natAbs).length≤k∧(aW q.den).length≤k
theorem tO {x y:Int}{k:Nat}(ar:(aW x.natAbs).length≤k)(aY:(aW y.natAbs).length≤k):(aW (x*y).natAbs).length≤k+k:=by rw [kf];exact Ee ar aY
theorem Un {x y:Int}{k:Nat}(ar:(aW x.natAbs).length≤k)(aY:(aW y.natAbs).length≤k):(aW (x+y).natAbs).length≤k+1:=
 GX (Int.natAbs_add_le x y) (abC ar aY)
theorem Xl (q:Rat):(q.den:Int)≠0:=by have:=q.den_nz;omega
theorem Vw (p q:Rat)(aJ:fu 100000 p)(aB:fu 100000 q):bD Tryz.prog 132 [cj p,cj q] (cj (p+q)):=by
 have gh:(aW (q.den:Int).natAbs).length≤100000:=aB.2;have fB:(aW (p.den:Int).natAbs).length≤100000:=aJ.2;have U:=oZ p.num q.den (by have:=aJ.1;omega) J;have ab:=oZ q.num p.den (by have:=aB.1;omega) J;have m1:=tO aJ.1 gh;have m2:=tO aB.1 fB;have aw:=Nf (p.num*q.den) (q.num*p.den) J J;have bg:=Ip p.den q.den (by have:=aJ.2;omega) (by have:=aB.2;omega);have m3:=Un m1 m2;have m4:=Ee aJ.2 aB.2;have bF:=Bv (p.num*q.den+q.num*p.den) ((p.den*q.den:Nat):Int) (by have:=B3 p.den_nz q.den_nz;omega) J (by rw [k1];omega);rw [Ed,TU] at bF;rw [Ed] at U ab;refine cm Tryz.f132 fun c ay bK=> ?_;refine bm ?_;refine eN af ?_;refine fe (fuel:=1) [0,1,2,3,4,5,6,7,8,9,10,11,12,13,14,15,16,17,18,19] [(2,.ptr 0 0 0),(3,.ptr 1 0 0),(4,.ptr 2 0 0)] aH af a6 I I ?_;refine dd ?_;refine en I I I I I U ?_;refine dd ?_;refine en I I I I I ab ?_;refine en I I I I I aw ?_;refine dd ?_;refine en I I I I I bg ?_;refine dd ?_;refine en I I I I I bF ?_;refine fc ?_;refine bx 20 ?_;skip
 unfold cj;refine dP (c':= .box [.bool (decide ((p+q).num<0)),br (p+q).num.natAbs,br (p+q).den]) I I I I I I I (bI ?_);refine eM af (bN ?_);exact bd ay I I
theorem H4 (p q:Rat)(aJ:fu 100000 p)(aB:fu 100000 q):bD Tryz.prog 99 [cj p,cj q] (cj (p*q)):=by
 have U:=oZ p.num q.num (by have:=aJ.1;omega) (by have:=aB.1;omega);have m1:=tO aJ.1 aB.1;have bg:=Ip p.den q.den (by have:=aJ.2;omega) (by have:=aB.2;omega);have m4:=Ee aJ.2 aB.2;have bF:=Bv (p.num*q.num) ((p.den*q.den:Nat):Int) (by have:=B3 p.den_nz q.den_nz;omega) J (by rw [k1];omega);rw [Ed,ML] at bF;refine cm Tryz.f99 fun c ay bK=> ?_;refine bm ?_;refine eN af ?_;refine fe (fuel:=1) [0,1,2,3,4,5,6,7,8,9,10,11] [(2,.ptr 0 0 0),(3,.ptr 1 0 0),(4,.ptr 2 0 0)] aH af a6 I I ?_;refine dd ?_;refine en I I I I I U ?_;refine dd ?_;refine en I I I I I bg ?_;refine dd ?_;refine en I I I I I bF ?_;refine fc ?_;refine bx 12 ?_;skip
 unfold cj;refine dP (c':= .box [.bool (decide ((p*q).num<0)),br (p*q).num.natAbs,br (p*q).den]) I I I I I I I (bI ?_);refine eM af (bN ?_);exact bd ay I I
theorem adA (p q:Rat)(aJ:fu 100000 p)(aB:fu 100000 q)(aO:q≠0):bD Tryz.prog 133 [cj p,cj q] (cj (p/q)):=by
 have gh:(aW (q.den:Int).natAbs).length≤100000:=aB.2;have fB:(aW (p.den:Int).natAbs).length≤100000:=aJ.2;have U:=oZ p.num q.den (by have:=aJ.1;omega) J;have ab:=oZ q.num p.den (by have:=aB.1;omega) J;have m1:=tO aJ.1 gh;have m2:=tO aB.1 fB;have aF:q.num≠0:=fun h=>aO (Rat.num_eq_zero.1 h);have bF:=Bv (p.num*q.den) (q.num*p.den) (Int.mul_ne_zero aF (Xl p)) J J;rw [Ue p q aO] at bF;rw [Ed] at U ab;refine cm Tryz.f133 fun c ay bK=> ?_;refine bm ?_;refine eN af ?_;refine fe (fuel:=1) [0,1,2,3,4,5,6,7,8,9,10,11,12] [(2,.ptr 0 0 0),(3,.ptr 1 0 0),(4,.ptr 2 0 0)] aH af a6 I I ?_;refine dd ?_;refine en I I I I I U ?_;refine dd ?_;refine en I I I I I ab ?_;refine en I I I I I bF ?_;refine fc ?_;refine bx 13 ?_;skip
 unfold cj;refine dP (c':= .box [.bool (decide ((p/q).num<0)),br (p/q).num.natAbs,br (p/q).den]) I I I I I I I (bI ?_);refine eM af (bN ?_);exact bd ay I I
theorem adz (p q:Rat)(aJ:fu 100000 p)(aB:fu 100000 q):bD Tryz.prog 76 [cj p,cj q] (.int .i64 (wb p q)):=by have gh:(aW (q.den:Int).natAbs).length≤100000:=aB.2;have fB:(aW (p.den:Int).natAbs).length≤100000:=aJ.2;have U:=oZ p.num q.den (by have:=aJ.1;omega) J;have ab:=oZ q.num p.den (by have:=aB.1;omega) J;have m1:=tO aJ.1 gh;have m2:=tO aB.1 fB;have bF:=Vm (p.num*q.den) (q.num*p.den) J J;rw [aeN p q] at bF;rw [Ed] at U ab;refine cm Tryz.f76 fun c ay bK=> ?_;refine bm ?_;refine eN af ?_;refine fe (fuel:=0) [0,1,2,3,4,5,6,7,8,9,10,11,12,13] [(2,.ptr 0 0 0),(3,.ptr 1 0 0)] aH af a6 I I ?_;refine dd ?_;refine en I I I I I U ?_;refine dd ?_;refine en I I I I I ab ?_;refine en I I I I I bF ?_;refine dd ?_;refine fc ?_;refine eM af (bN ?_);exact bd ay I I
theorem MY (p:Rat):bD Tryz.prog 83 [cj p] (.int .i64 (j2 p.num)):=by have U:=w2 p.num;refine cm Tryz.f83 fun c ay bK=> ?_;refine bm ?_;refine aZ I I I U (bN ?_);exact bd ay I I
theorem Vx (p:Rat):bD Tryz.prog 101 [cj p] (cj (-p)):=by
 have U:=yW p.num;refine cm Tryz.f101 fun c ay bK=> ?_;refine bm ?_;refine eN af ?_;refine fe (fuel:=1) [0,1,2,3,4,5] [(1,.ptr 0 0 0),(2,.ptr 1 0 0)] aH af a6 I I ?_;refine dd ?_;refine en I I I I I U ?_;refine dd ?_;refine fc ?_;refine bx 6 ?_;skip
 refine dP (c':= .box [.bool (decide ((-p).num<0)),br (-p).num.natAbs,br (-p).den]) I I I I I I I (bI ?_);refine eM af (bN ?_);exact bd ay I I
theorem aft {k:Nat}{q:Rat}(h:fu k q):fu k (-q):=by refine ⟨?_,h.2⟩;show (aW (-q.num).natAbs).length≤k;rw [p7];exact h.1
end Go.Proofs.YtmpnheilfejcpaaGreatDoor
namespace Go.Proofs.YtmpnheilfejcpaaGreatDoor
open Go.ai Go.ai.c8 Go.ai.cz Go.RowKit
attribute [local irreducible] ai ek bV cg hb
open Go.ai.qY (hL MF)
theorem Us:br 1= .ro (.ints .u32 [1]) 0 1:=by unfold br;rw [D1];rfl
theorem adk (z:Int):cj (z:Rat)= .agg [.bool (decide (z<0)),br z.natAbs,br 1]:=rfl
theorem y0 (n:Int)(h: -9223372036854775808≤n∧n<9223372036854775808):bD Tryz.prog 113 [.int .i64 n] (cj (n:Rat)):=by have U:=M5 n h;refine cm Tryz.f113 fun c ay bK=> ?_;refine bl ?_;refine aZ I I I U ?_;unfold dK;refine fx ?_;refine dP (c':= .box [.bool (decide (n<0)),br n.natAbs,.ro (.ints .u32 [1]) 0 1]) I I I I I I I (bN ?_);refine bd ay I ?_;rw [adk,Us];rfl
theorem ahH (s:List UInt8)(b:Int):bD Tryz.prog 247 [.str s,.int .u8 b] (.int .i64 (Lib.indexByte s b.toNat.toUInt8)):=by refine cm Tryz.f247 fun c ay bK=> ?_;refine bN ?_;refine an (ahB I I I I af af af af) (bN ?_);exact bd ay I I
theorem abf (s:List UInt8)(b:UInt8):bD Tryz.prog 226 [.str s,.str [b]] (.int .i64 (Lib.indexByte s b)):=by
 refine cm Tryz.f226 fun c ay bK=> ?_;refine bm ?_;refine bB I (fun h=> ?_) (fun h=> ?_)
 ·refine bm ?_;refine bd ay I ?_;subst h;simp [gK,Lib.indexByte]
 refine vf ?_;refine aZ I I I (ahH s b.toNat) (bm ?_);refine bd ay I ?_;simp [gK]
theorem agW (l:List UInt8)(b:UInt8):Lib.indexByte l b<l.length:=by
 induction l with
 |nil=>simp [Lib.indexByte]
 |cons c r a8=>
  rw [Lib.indexByte];simp only [fZ];split
  ·omega
  ·split
   ·omega
   ·omega
theorem Xh (s:List UInt8)(b:UInt8)(h:s.length≤9223372036854775807):bD Tryz.prog 198 [.str s,.str [b]] (.cd [.str (hL b s).1,.str (hL b s).2.1,.bool (hL b s).2.2]):=by
 have av:=MF b s;have bC:=agW s b;have oL:=Lib.indexByte_ge s b;have ci:=abf s b;refine cm Tryz.f198 fun c ay bK=> ?_;generalize Lib.indexByte s b=i at*;refine bN ?_;refine aZ I I I ci (cM ?_);refine bB I (fun aO=> ?_) (fun aO=> ?_)
 ·rw [aG aO] at av;rw [av] at ay;have sk:([b]:List UInt8).length=1:=rfl;have wi:(i+1).toNat=i.toNat+1:=J;repeat (refine c6 ?_)
  refine yG af af I (Da ?_);refine bd ay I ?_;simp [gK,wi];exact jU bZ
 ·rw [az aO] at av;rw [av] at ay;refine bI ?_;exact bd ay I I
theorem fg (s:List UInt8)(b:UInt8)(h:s.length≤9223372036854775807):bD Tryz.prog 149 [.str s,.str [b]] (.cd [.str (hL b s).1,.str (hL b s).2.1,.bool (hL b s).2.2]):=by have ci:=Xh s b h;refine cm Tryz.f149 fun c ay bK=> ?_;generalize hL b s=q at*;refine bN ?_;refine aZ I I I ci (dw ?_);exact bd ay I I
theorem Xi (s p:List UInt8)(ax:s.length≤9223372036854775807)(aJ:p.length≤9223372036854775807):bD Tryz.prog 197 [.str s,.str p] (.cd [.str (if pY s p then s.drop p.length else s),.bool (pY s p)]):=by
 have U:=Vu s p ax aJ;refine cm Tryz.f197 fun c ay bK=> ?_;by_cases h:pY s p=true
 ·have hle:p.length≤s.length:=by unfold pY at h;exact (zm h).1
  rw [h] at U ay;refine bN ?_;refine aZ I I I U (Da ?_);refine bd ay I ?_;simp only [gK,cA];rw [jU bZ];rfl
 ·rw [pn] at h;rw [h] at U ay;refine bN ?_;refine aZ I I I U (bt ?_);exact bd ay I I
theorem IZ (s p:List UInt8)(ax:s.length≤9223372036854775807)(aJ:p.length≤9223372036854775807):bD Tryz.prog 148 [.str s,.str p] (.cd [.str (if pY s p then s.drop p.length else s),.bool (pY s p)]):=by have U:=Xi s p ax aJ;refine cm Tryz.f148 fun c ay bK=> ?_;generalize pY s p=b at*;refine bN ?_;refine aZ I I I U (dw ?_);exact bd ay I I
end Go.Proofs.YtmpnheilfejcpaaGreatDoor
namespace Go.Proofs.YtmpnheilfejcpaaGreatDoor
open Go.ai Go.ai.c8 Go.ai.cz Go.RowKit
attribute [local irreducible] ai ek bV cg hb
open Go.ai.qY (hL MF Ub)
theorem Vt (s:List UInt8):pY s [45]=iF s:=by
 unfold pY iF;cases s with
 |nil=>rfl
 |cons c r=>simp
theorem TP (s:List UInt8):(n7 s).length≤s.length:=by
 unfold n7;split
 ·simp
 ·exact bR _
theorem ajT (s:List UInt8):(jO s).length≤s.length∧(jN s).length≤s.length:=by have h:=Ub 47 (n7 s);have ab:=TP s;unfold jO jN;omega
theorem Og (s:List UInt8)(ax:s.length≤9223372036854775807):bD Tryz.prog 148 [.str s,.str [45]] (.cd [.str (n7 s),.bool (iF s)]):=by have h:=IZ s [45] ax a6;rw [Vt] at h;exact h
theorem Of (s:List UInt8)(ax:s.length≤9223372036854775807):bD Tryz.prog 149 [.str (n7 s),.str [47]] (.cd [.str (jO s),.str (jN s),.bool (mE s)]):=
 fg (n7 s) 47 (dT (TP s) ax)
theorem w4 (s:List UInt8)(ax:s.length≤9223372036854775807)(h:gv s=0):bD Tryz.prog 75 [.str s] (cj (b4 s)):=by
 have aJ:=DH h;have U:=Og s J;have ab:=Of s ax;have aw:=H5 (jO s) aJ.sa.2.1 (by have:=aJ.hy;omega);have bg:=xc (iF s) (dQ 0 (jO s));rw [←aJ.num] at bg;unfold cj;rw [aJ.den];cases e:mE s
 ·rw [e] at ab;rw [Bs e,Us];refine cm Tryz.f75 fun c ay bK=> ?_;refine bl ?_;refine aZ I I I U (dw ?_);refine aZ I I I ab (dw ?_);refine aZ I I I aw ?_;skip
  refine aZ I I I bg ?_;unfold dK;refine fx ?_;refine dP (c':= .box [.bool (decide ((b4 s).num<0)),br (b4 s).num.natAbs,.ro (.ints .u32 [1]) 0 1]) I I I I I I I (bm ?_);refine dP (c':= .box [.bool (decide ((b4 s).num<0)),br (b4 s).num.natAbs,.ro (.ints .u32 [1]) 0 1]) I I I I I I I (bN ?_);exact bd ay I I
 ·rw [e] at ab;rw [Bd e];have bF:=H5 (jN s) (aJ.qb e).1.2.1 (by have:=aJ.Gc;omega);refine cm Tryz.f75 fun c ay bK=> ?_;refine bl ?_;refine aZ I I I U (dw ?_);refine aZ I I I ab (dw ?_);refine aZ I I I aw ?_;skip
  refine aZ I I I bg ?_;unfold dK;refine fx ?_;refine dP (c':= .box [.bool (decide ((b4 s).num<0)),br (b4 s).num.natAbs,.ro (.ints .u32 [1]) 0 1]) I I I I I I I (bt ?_);refine aZ I I I bF (rl ?_);refine dP (c':= .box [.bool (decide ((b4 s).num<0)),br (b4 s).num.natAbs,br (dQ 0 (jN s))]) I I I I I I I (bN ?_);exact bd ay I I
theorem adC (q:Rat)(aB:fu 100000 q):bD Tryz.prog 182 [cj q] (.str (cO q)):=by
 have U:=Ie q.num.natAbs (by have:=aB.1;omega);have ab:=Qt q.den;have aw:=Ie q.den (by have:=aB.2;omega);unfold cO;have gh:=Dt aB.1 a6;have fB:=Dt aB.2 a6;refine cm Tryz.f182 fun c ay bK=> ?_;by_cases aF:q.num<0<;>by_cases hd:q.den=1
 ·rw [aG aF,aG hd] at ay;rw [fv hd] at ab;unfold cj;rw [fv aF];refine bm ?_;refine aZ I I I U (bt ?_);refine an (yQ I I (by show ([45]:List UInt8).length+_≤_;simp only [fZ,kd,c2];omega)) (bt ?_);refine aZ I I I ab (bt ?_);refine bd ay I ?_;simp [gK]
 ·rw [aG aF,az hd] at ay;rw [fq hd] at ab;unfold cj;rw [fv aF];refine bm ?_;refine aZ I I I U (bt ?_);refine an (yQ I I (by show ([45]:List UInt8).length+_≤_;simp only [fZ,kd,c2];omega)) (bt ?_);refine aZ I I I ab (bt ?_);refine aZ I I I aw ?_;skip
  refine an (yQ I I (by show ([47]:List UInt8).length+_≤_;simp only [fZ,kd,c2];omega)) ?_;refine an (yQ (b:=47::Lib.decDigits q.den) I I (by simp only [fZ,kd,c2];omega)) (bN ?_);refine bd ay I ?_;simp [gK]
 ·rw [az aF,aG hd] at ay;rw [fv hd] at ab;unfold cj;rw [fq aF];refine bm ?_;refine aZ I I I U (bt ?_);refine aZ I I I ab (bt ?_);refine bd ay I ?_;simp [gK]
 ·rw [az aF,az hd] at ay;rw [fq hd] at ab;unfold cj;rw [fq aF];refine bm ?_;refine aZ I I I U (bt ?_);refine aZ I I I ab (bt ?_);refine aZ I I I aw ?_;skip
  refine an (yQ I I (by show ([47]:List UInt8).length+_≤_;simp only [fZ,kd,c2];omega)) ?_;refine an (yQ (b:=47::Lib.decDigits q.den) I I (by simp only [fZ,kd,c2];omega)) (bN ?_);refine bd ay I ?_;simp [gK]
end Go.Proofs.YtmpnheilfejcpaaGreatDoor
namespace Go.Proofs.YtmpnheilfejcpaaGreatDoor
open Go.ai Go.ai.c8 Go.ai.cz Go.RowKit
attribute [local irreducible] ai ek bV cg hb
theorem Vd {n k m:Nat}(h:k<(aW n).length)(hm:m≤9*k):m<(Lib.decDigits n).length:=by
 rcases ga m (Lib.decDigits n).length with q|q
 ·exact q
 exfalso;have U:=A2 n;have ab:10^(Lib.decDigits n).length≤10^(9*k):=gp a6 J;have aw:10^(9*k)≤B^k:=by rw [Nat.pow_mul];exact vW a6 k
 have bg: ¬n<B^k:=fun bF=>by have:=nj bF;omega
 omega
theorem Nc (q:Rat)(aB:fu 100000 q):bD Tryz.prog 181 [cj q,.int .i64 2000] (.bool (e3 q)):=by
 have U:=Ie q.num.natAbs (by have:=aB.1;omega);have aw:=Ie q.den (by have:=aB.2;omega);have gh:=Dt aB.1 a6;have fB:=Dt aB.2 a6;have g1:=aB.1;have g2:=aB.2;have dX:= @Vd q.num.natAbs 224 2000;have eu:= @Vd q.den 224 2000;unfold e3;refine cm Tryz.f181 fun c ay bK=> ?_;unfold cj;unfold br at U aw⊢;refine yu ?_;refine bB I (fun aO=> ?_) (fun aO=> ?_)
 ·refine dw ?_;refine bd ay I ?_;have bF:224<(aW q.num.natAbs).length∨224<(aW q.den).length:=by
   split at aO<;>omega
  have dm: ¬((Lib.decDigits q.num.natAbs).length≤2000∧(Lib.decDigits q.den).length≤2000):=by
   rcases bF with bF|bF
   ·have:=dX bF a6;omega
   ·have:=eu bF a6;omega
  rw [←Bool.decide_and,fq dm];rfl
 ·refine bt ?_;refine aZ I I I U (fx ?_);refine gS I I (fun bF=> ?_) (fun bF=> ?_)
  ·refine bt ?_;refine aZ I I I aw (fx ?_);refine bd ay I ?_;rw [show decide ((Lib.decDigits q.num.natAbs).length≤2000)=true from fv J,lO];show al.bool _=al.bool _;rw [show decide (((Lib.decDigits q.den).length:Int)≤2000)=decide ((Lib.decDigits q.den).length≤2000) from by rw [p8];omega]
  ·refine bm ?_;refine bd ay I ?_;rw [show decide ((Lib.decDigits q.num.natAbs).length≤2000)=false from fq J,pq];rfl
theorem H0 (q:Rat)(aB:fu 100000 q)(h:e3 q=true):bD Tryz.prog 96 [cj q] (.cd [.str (cO q),.int .i64 0]):=by have U:=Nc q aB;have ab:=adC q aB;rw [h] at U;refine cm Tryz.f96 fun c ay bK=> ?_;refine bm ?_;refine aZ I I I U (bm ?_);refine aZ I I I ab (bN ?_);exact bd ay I I
theorem Nw (q:Rat)(aB:fu 100000 q)(h:e3 q=false):bD Tryz.prog 96 [cj q] (.cd [.str [],.int .i64 2]):=by have U:=Nc q aB;rw [h] at U;refine cm Tryz.f96 fun c ay bK=> ?_;refine bm ?_;refine aZ I I I U (bt ?_);exact bd ay I I
theorem Qu (q:Rat)(aB:fu 100000 q):bD Tryz.prog 96 [cj q] (vJ (sV q)):=by
 unfold sV;cases h:e3 q
 ·exact Nw q aB h
 ·exact H0 q aB h
theorem Hq (s:List UInt8)(ax:s.length≤9223372036854775807):bD Tryz.prog 82 [.str s] (.int .i64 (gv s)):=by
 have U:=Og s J;have ab:=Of s ax;obtain ⟨hy,Gc⟩:=ajT s;have aw:=S5 (jO s) J;have bg:=S5 (jN s) J;have sa:= @AR (jO s);have qb:= @AR (jN s);unfold gv;generalize jO s=n at*;generalize jN s=d at*;generalize mE s=ok at*;generalize iF s=wF at*;generalize n7 s=b at*;generalize ub n=p at*;generalize ub d=q at*;refine cm Tryz.f82 fun c ay bK=> ?_;refine bN ?_;refine aZ I I I U (dw ?_);refine aZ I I I ab ?_;refine dS ?_;by_cases tp:p=false∨(ok=true∧q=false)∨(wF=true∧n=[48])
 ·rw [aG tp] at ay;cases p
  ·refine bN ?_;refine aZ I I I aw (Da ?_);exact bd ay I I
  ·cases ok
   ·obtain ⟨sr,aF⟩:wF=true∧n=[48]:=by simpa using tp
    subst sr;subst aF;refine bN ?_;refine aZ I I I aw (bm ?_);exact bd ay I I
   ·cases q
    ·refine bN ?_;refine aZ I I I aw (bt ?_);refine aZ I I I bg (Da ?_);exact bd ay I I
    ·obtain ⟨sr,aF⟩:wF=true∧n=[48]:=by simpa using tp
     subst sr;subst aF;refine bN ?_;refine aZ I I I aw (bt ?_);refine aZ I I I bg (bm ?_);exact bd ay I I
 rw [az tp] at ay;apply j4 (H:=[]) [(5,.str n),(6,.str d),(7,.bool ok)]
 ·intro fin;cases p
  ·exact absurd (.inl I) tp
  cases ok
  ·cases wF
   ·refine bN ?_;refine aZ I I I aw ?_;refine dS ?_;exact fin _ aH
   ·refine bN ?_;refine aZ I I I aw ?_;refine dS ?_;refine bB I (fun aO=>absurd (.inr (.inr ⟨I,aO⟩)) tp) (fun aO=> ?_);refine dS ?_;exact fin _ aH
  ·cases q
   ·exact absurd (.inr (.inl ⟨I,I⟩)) tp
   cases wF
   ·refine bN ?_;refine aZ I I I aw (bt ?_);refine aZ I I I bg ?_;refine dS ?_;exact fin _ aH
   ·refine bN ?_;refine aZ I I I aw (bt ?_);refine aZ I I I bg ?_;refine dS ?_;refine bB I (fun aO=>absurd (.inr (.inr ⟨I,aO⟩)) tp) (fun aO=> ?_);refine dS ?_;exact fin _ aH
 by_cases au:2000<n.length∨2000<d.length
 ·rw [aG au] at ay;refine bm ?_;refine gS I I (fun bF=> ?_) (fun bF=> ?_)
  ·refine bm ?_;exact bd ay I I
  ·refine bm ?_;refine bB I (fun aO=> ?_) (fun aO=>absurd au J);refine dw ?_;exact bd ay I I
 rw [az au] at ay;refine bm ?_;refine gS I I (fun bF=>absurd au J) (fun bF=> ?_);refine bm ?_;refine bB I (fun aO=>absurd au J) (fun aO=> ?_);cases ok
 ·rw [az (fun h=>r6 h.1)] at ay;refine tu ?_;exact bd ay I I
 have aJ:p=true:=by cases p;exact absurd (.inl rfl) tp;rfl
 have aB:q=true:=by cases q;exact absurd (.inr (.inl ⟨rfl,rfl⟩)) tp;rfl
 have eY:=sa.1 aJ;have h8:=qb.1 aB;have dm:=H5 n eY.2.1 J;have fi:=H5 d h8.2.1 J;have v1:(aW (dQ 0 n)).length≤2000:=Ig eY J;have v2:(aW (dQ 0 d)).length≤2000:=Ig h8 J;have py:=Ns (dQ 0 n) (dQ 0 d) J J;have lv:=Qt (Nat.gcd (dQ 0 n) (dQ 0 d));refine bm ?_;refine gS I I (fun E8=> ?_) (fun E8=> ?_)
 ·rw [aG ⟨rfl,.inl E8⟩] at ay;refine bm ?_;exact bd ay I I
 ·refine bm ?_;refine gS I I (fun E9=> ?_) (fun E9=> ?_)
  ·rw [aG ⟨rfl,.inr (.inl E9)⟩] at ay;refine bm ?_;exact bd ay I I
  ·by_cases cX:Nat.gcd (dQ 0 n) (dQ 0 d)=1
   ·rw [fv cX] at lv;rw [az (fun h=>by rcases h.2 with e|e|e;exact E8 e;exact E9 e;exact e cX)] at ay;refine dw ?_;refine aZ I I I dm (dw ?_);refine aZ I I I fi ?_;repeat (refine lf rfl rfl ?_)
    refine aZ I I I py ?_;repeat (refine lf rfl rfl ?_)
    refine aZ I I I lv (bt ?_);exact bd ay I I
   ·rw [fq cX] at lv;rw [aG ⟨rfl,.inr (.inr cX)⟩] at ay;refine dw ?_;refine aZ I I I dm (dw ?_);refine aZ I I I fi ?_;repeat (refine lf rfl rfl ?_)
    refine aZ I I I py ?_;repeat (refine lf rfl rfl ?_)
    refine aZ I I I lv (bt ?_);exact bd ay I I
theorem DF {α:Type}{l:List α}{d:α}{k:Nat}(h:k<l.length):l.drop k=l.getD k d::l.drop (k+1):=by rw [List.drop_eq_getElem_cons h];simp [List.getD,h]
theorem RP (l:List (List UInt8))(hlen:l.length≤9223372036854775807)(ax: ∀s∈l,s.length≤9223372036854775807):bD Tryz.prog 74 [.ro (.strs l) 0 l.length] (.int .i64 (kc l)):=by
 refine cm Tryz.f74 fun c ay bK=> ?_;refine bz ?_;refine cJ (ι:=Nat) (fun k=>[(0,.ro (.strs l) 0 l.length),(6,.ro (.strs l) 0 l.length),(7,ag l.length),(8,ag k)]) (fun _=>[])
  (fun k=>k≤l.length∧kc l=kc (l.drop k)) (fun k=>l.length-k) 0 ⟨aH,rfl,cf _,by rw [s5]⟩ ?_
 intro k ⟨ao,cR⟩;refine bl ?_;refine bB I (fun h=> ?_) (fun h=> ?_)
 ·have b5:k<l.length:=J;have hd:=DF (d:=[]) b5;have av:=Hq (l.getD k []) (ax _ (mz [] b5));rw [hd,kc] at cR;refine rl ?_;refine aZ I I I av (bz ?_);refine bB I (fun ab=> ?_) (fun ab=> ?_)
  ·rw [az ab] at cR;refine bm ?_;refine bd ay I ?_;rw [cR];rfl
  ·rw [aG (jV.1 ab)] at cR;refine bt ?_;refine ca ⟨k+1,⟨J,cR⟩,J,aH,I⟩
 ·have b5:k=l.length:=J;subst b5;rw [r7] at cR;refine bt ?_;refine bd ay I ?_;rw [cR];rfl
theorem Dd {s:List UInt8}(h:gv s=0):fu 2000 (b4 s):=by
 have aJ:=DH h;refine ⟨?_,?_⟩
 ·rw [aJ.num,yR];exact Ig aJ.sa aJ.hy
 ·rw [aJ.den];cases e:mE s
  ·rw [Bs e,D1];decide
  ·rw [Bd e];exact Ig (aJ.qb e).1 aJ.Gc
theorem fu.mono {j k:Nat}{q:Rat}(h:fu j q)(ao:j≤k):fu k q:=⟨dT h.1 ao,dT h.2 ao⟩
theorem VQ {n d:Int}{k:Nat}(hd:d≠0)(U:(aW n.natAbs).length≤k)(ab:(aW d.natAbs).length≤k):fu k (Rat.divInt n d):=by
 obtain ⟨aD,aE,_⟩:=LP n d hd;refine ⟨?_,?_⟩
 ·rw [aD];exact GX (uz _ _) U
 ·rw [aE];exact GX (uz _ _) ab
theorem Q7 {p q:Rat}{k:Nat}(aJ:fu k p)(aB:fu k q):fu (k+k+1) (p+q):=by have gh:(aW (q.den:Int).natAbs).length≤k:=aB.2;have fB:(aW (p.den:Int).natAbs).length≤k:=aJ.2;rw [←TU];refine VQ (by have:=B3 p.den_nz q.den_nz;omega) (Un (tO aJ.1 gh) (tO aB.1 fB)) ?_;rw [k1];have:=Ee aJ.2 aB.2;omega
theorem afs {p q:Rat}{k:Nat}(aJ:fu k p)(aB:fu k q):fu (k+k+1) (p*q):=by rw [←ML];refine VQ (by have:=B3 p.den_nz q.den_nz;omega) (by have:=tO aJ.1 aB.1;omega) ?_;rw [k1];have:=Ee aJ.2 aB.2;omega
theorem aeb (a b:List UInt8)(a1:a.length≤9223372036854775807)(ak:b.length≤9223372036854775807)(g:FuncId)(F:Rat→Rat→Rat)(ki:kc [a,b]=0→bD Tryz.prog g [cj (b4 a),cj (b4 b)] (cj (F (b4 a) (b4 b)))∧fu 100000 (F (b4 a) (b4 b))):bD Tryz.prog 98 [.str a,.str b,.fn g []] (vJ (pZ F a b)):=by
 have U:=RP [a,b] (by show 2≤_;decide) (by intro s ax;simp at ax;rcases ax with rfl|rfl<;>assumption);unfold pZ;by_cases cR:kc [a,b]=0
 ·obtain ⟨ab,bw⟩:=ki cR;rw [aG cR];rw [cR] at U;have sc:=vv cR a bZ;have nI:=vv cR b bZ;have aw:=w4 a a1 sc;have bg:=w4 b ak nI;have bF:=Qu _ bw;refine cm Tryz.f98 fun c ay bK=> ?_;generalize sV (F (b4 a) (b4 b))=r at*;unfold vJ at*;refine bz ?_;refine aZ I I I U (bl ?_);refine aZ I I I aw ?_;repeat (refine an (bL rfl) ?_)
  refine aZ I I I bg ?_;skip
  refine aZ I I I ab ?_;skip
  refine aZ I I I bF (dw ?_);exact bd ay I I
 ·rw [az cR];generalize kc [a,b]=e at*;refine cm Tryz.f98 fun c ay bK=> ?_;refine bz ?_;refine aZ I I I U (bz ?_);refine bB I (fun ab=> ?_) (fun ab=>absurd cR ab);refine dw ?_;exact bd ay I I
theorem adV (a:List UInt8)(a1:a.length≤9223372036854775807)(g:FuncId)(F:Rat→Rat)(ki:gv a=0→bD Tryz.prog g [cj (b4 a)] (cj (F (b4 a)))∧fu 100000 (F (b4 a))):bD Tryz.prog 100 [.str a,.fn g []] (vJ (yp F a)):=by
 have U:=Hq a a1;unfold yp;by_cases cR:gv a=0
 ·obtain ⟨ab,bw⟩:=ki cR;rw [aG cR];have aw:=w4 a a1 cR;rw [cR] at U;have bF:=Qu _ bw;refine cm Tryz.f100 fun c ay bK=> ?_;generalize sV (F (b4 a))=r at*;unfold vJ at*;refine bN ?_;refine aZ I I I U (bl ?_);refine aZ I I I aw ?_;skip
  refine aZ I I I ab ?_;skip
  refine aZ I I I bF (dw ?_);exact bd ay I I
 ·rw [az cR];generalize gv a=e at*;refine cm Tryz.f100 fun c ay bK=> ?_;refine bN ?_;refine aZ I I I U (bz ?_);refine bB I (fun ab=> ?_) (fun ab=>absurd cR ab);refine dw ?_;exact bd ay I I
theorem VB (a b:List UInt8)(a1:a.length≤9223372036854775807)(ak:b.length≤9223372036854775807):bD Tryz.prog 26 [.str a,.str b] (vJ (pZ (fun x y=>x*y) a b)):=by
 have U:=aeb a b a1 ak 99 (fun x y=>x*y) (fun cR=>by
  have BO:=Dd (vv cR a bZ);have VV:=Dd (vv cR b bZ);exact ⟨H4 _ _ (BO.mono a6) (VV.mono a6),(afs BO VV).mono a6⟩)
 refine cm Tryz.f26 fun c ay bK=> ?_;generalize pZ (fun x y=>x*y) a b=r at*;unfold vJ at*;refine bN ?_;refine aZ I I I U (dw ?_);exact bd ay I I
theorem alZ (a:List UInt8)(a1:a.length≤9223372036854775807):bD Tryz.prog 27 [.str a] (vJ (yp (fun x=> -x) a)):=by
 have U:=adV a a1 101 (fun x=> -x) (fun cR=>by
  have BO:=Dd cR;exact ⟨Vx _,(aft BO).mono a6⟩)
 refine cm Tryz.f27 fun c ay bK=> ?_;generalize yp (fun x=> -x) a=r at*;unfold vJ at*;refine bN ?_;refine aZ I I I U (dw ?_);exact bd ay I I
theorem aea (a:List UInt8)(a1:a.length≤9223372036854775807):bD Tryz.prog 21 [.str a] (.cd [.int .i64 (xm a).1,.int .i64 (xm a).2]):=by
 have U:=Hq a a1;unfold xm;by_cases cR:gv a=0
 ·rw [aG cR];have aw:=w4 a a1 cR;rw [cR] at U;have bF:=MY (b4 a);refine cm Tryz.f21 fun c ay bK=> ?_;refine bN ?_;refine aZ I I I U (bl ?_);refine aZ I I I aw ?_;skip
  refine aZ I I I bF (bN ?_);exact bd ay I I
 ·rw [az cR];generalize gv a=e at*;refine cm Tryz.f21 fun c ay bK=> ?_;refine bN ?_;refine aZ I I I U (bz ?_);refine bB I (fun ab=> ?_) (fun ab=>absurd cR ab);refine dw ?_;exact bd ay I I
section
variable {α:Type}
theorem T4 (d:α)(n:Nat)(e:α→List al)(ls:List α)(s:α)(ea:Cells)(aO: ∀j,j<n→ea.at 0 j=(e s).getD j .any)(i j:Nat)(aa:i<ls.length+1)(ae:j<n):
 (bif Nat.blt i ls.length then (fl d n e ls).at i j else ea.at (0+(i-ls.length)) j)=(fl d n e (ls++[s])).at i j:=by
 rcases ga i ls.length with h|h
 ·have aD:Nat.blt i ls.length=true:=by rw [Nat.blt_eq];exact h
  rw [aD];simp only [fl,Cells.at,kZ,List.getD,hQ h]
 ·have df:i=ls.length:=J;have aD:Nat.blt i ls.length=false:=by rw [←pn,Nat.blt_eq];omega
  subst df;rw [aD];simp only [nA,oD,c1];rw [aO j ae];simp [fl,Cells.at,List.getD]
theorem hB (d:α)(n:Nat)(e:α→List al)(ls:List α)(s:α)(ea:Cells)(aO: ∀j,j<n→ea.at 0 j=(e s).getD j .any):
 cC (.fn (ls.length+1) n (fun i j=>bif Nat.blt i ls.length then (fl d n e ls).at i j else ea.at (0+(i-ls.length)) j)) (fl d n e (ls++[s])):=by refine ⟨by simp [fl,Cells.len],I,fun i j aa ae=> ?_⟩;exact (T4 d n e ls s ea aO i j aa ae).symm
theorem hZ (d:α)(n:Nat)(e:α→List al)(aF: ∀a j h,j<n→((e a).getD j .any).forget h=(e a).getD j .any)(ls:List α)(s:α)(ea:Cells)(aO: ∀j,j<n→ea.at 0 j=(e s).getD j .any)(h i j:Nat)(aa:i<ls.length+1)(ae:j<n):
 (bif Nat.blt i ls.length then (fl d n e ls).at i j else ea.at (0+(i-ls.length)) j).forget h=(bif Nat.blt i ls.length then (fl d n e ls).at i j else ea.at (0+(i-ls.length)) j):=by rw [T4 d n e ls s ea aO i j aa ae];exact aF _ _ _ ae
theorem Dr {β:Type}(f:α→β)(l:List α)(d:α)(k:Nat)(ao:k<l.length):(l.take (k+1)).map f=(l.take k).map f++[f (l.getD k d)]:=by rw [p6 ao,hS];simp [List.getD,ao]
end
def cb (q:Rat):List al:=[.bool (decide (q.num<0)),br q.num.natAbs,br q.den]
abbrev aQ (l:List Rat):Cells:=fl 0 3 cb l
theorem tC (q:Rat)(j h:Nat)(ae:j<3):((cb q).getD j .any).forget h=(cb q).getD j .any:=by
 match j,ae with
 |0,_=>rfl
 |1,_=>rfl
 |2,_=>rfl
theorem n1 (l:List Rat):eV (aQ l):=by
 intro i j _ ae;show cV ((cb (l.getD i 0)).getD j .any)=true;have ae:j<3:=ae
 match j,ae with
 |0,_=>rfl
 |1,_=>rfl
 |2,_=>rfl
theorem mC (q:Rat)(j:Nat)(ae:j<3):(ft 1 3 [.bool (decide (q.num<0)),br q.num.natAbs,br q.den]).at 0 j=(cb q).getD j .any:=by
 match j,ae with
 |0,_=>rfl
 |1,_=>rfl
 |2,_=>rfl
theorem P0 (l:List (List UInt8))(hlen:l.length≤1000000)(ax: ∀s∈l,s.length≤9223372036854775807∧gv s=0):bD Tryz.prog 116 [.ro (.strs l) 0 l.length] (.ro (aQ (l.map b4)) 0 l.length):=by
 refine cm Tryz.f116 fun c ay bK=> ?_;refine fx ?_;refine kM 3 ⟨118,aQ []⟩ I I ?_;repeat (refine fK ?_)
 refine cJ (ι:=Nat) (fun k=>[(0,.ro (.strs l) 0 l.length),(3,.aA 0 0 k),(6,.ro (.strs l) 0 l.length),(7,ag l.length),(8,ag k)]) (fun k=>[some ⟨118,aQ ((l.take k).map b4)⟩])
  (fun k=>k≤l.length) (fun k=>l.length-k) 0 ⟨aH,rfl,cf _⟩ ?_
 intro k ao;refine bl ?_;refine bB I (fun h=> ?_) (fun h=> ?_)
 ·have b5:k<l.length:=J;obtain ⟨dX,eu⟩:=ax _ (mz [] b5);have av:=w4 (l.getD k []) dX eu;have mX:=Dr b4 l [] k b5;have ly:((l.take k).map b4).length=k:=by rw [cL,ff];omega
  generalize (l.take k).map b4=hV at*;refine rl ?_;refine aZ I I I av ?_;unfold cj;repeat (refine iG rfl rfl rfl rfl rfl rfl rfl rfl rfl rfl rfl ?_)
  refine dt I I I I I I I I I ly I I dW I (by show (k+1)*56≤_∧_;omega) ?_ c4 ?_
  ·intro aI j aa ae;exact hZ 0 3 cb tC hV (b4 (l.getD k [])) _ (mC _) 0 aI j aa ae
  refine fX ?_;refine b0 ?_;refine nn [some ⟨118,aQ ((l.take (k+1)).map b4)⟩] ?_ ?_
  ·rw [mX];exact aM.eqv (hB 0 3 cb hV (b4 (l.getD k [])) _ (mC _)) aM.nil
  refine bz ?_;exact ca ⟨k+1,J,J,aH,I⟩
 ·have b5:k=l.length:=J;subst b5;rw [gb];refine kv ?_;refine mx 0 3 l.length [] I (n1 _) I (by show _≤(l.map b4).length;rw [cL];exact bR _) trivial (bN ?_);exact bd ay I I
end Go.Proofs.YtmpnheilfejcpaaGreatDoor
namespace Go.Proofs.YtmpnheilfejcpaaGreatDoor
open Go.ai Go.ai.c8 Go.ai.cz Go.RowKit
attribute [local irreducible] ai ek bV cg hb
open Go.ai.kz Go.ai.eD
theorem aim (l:List (List UInt8))(g:FuncId)(cB:List al)(p:List UInt8→Bool)(av:cV.eR cB=true)(hlen:l.length≤9223372036854775807)(aJ: ∀x∈l,bD Tryz.prog g ([.str x]++cB) (.bool (p x))):
 bD Tryz.prog 162 [.ro (.strs l) 0 l.length,.fn g cB] (.int .i64 (iy p l)):=by
 refine cg.rn (hq (P:=Tryz.prog) (fn:=Tryz.f162) I I af I (fun c ay bK=> ?_)) (fix:=fun _=>False) (fun _ h=>h) (by simp [cV.eR,cV,av]) I;refine bz ?_;refine cJ (ι:=Nat) (fun k=>[(0,.ro (.strs l) 0 l.length),(1,.fn g cB),(7,ag l.length),(8,ag k)]) (fun _=>[])
  (fun k=>k≤l.length∧(l.take k).any p=false) (fun k=>l.length-k) 0 ⟨aH,rfl,cf _,rfl⟩ ?_
 intro k ⟨ao,iI⟩;refine bl ?_;refine bB I (fun h=> ?_) (fun h=> ?_)
 ·have b5:k<l.length:=J;have uS:=Dm p l [] k b5;refine rl ?_;refine aZ I I I (aJ _ (mz [] b5)) (bN ?_);refine tT I (fun ab=> ?_) (fun ab=> ?_)
  ·refine bm ?_;refine bd ay I ?_;have:=rk p l k iI ao;rw [tL l [] k b5] at this;simp only [iy,ab,fS] at this;rw [this];simp [gK]
  ·refine bt ?_;refine ca ⟨k+1,⟨J,by rw [uS,iI,ab];rfl⟩,J,aH,I⟩
 ·have b5:k=l.length:=J;subst b5;refine bt ?_;refine bd ay I ?_;have:=rk p l l.length iI ao;rw [r7] at this;rw [this];rfl
theorem S1 (l:List (List UInt8))(g:FuncId)(cB:List al)(p:List UInt8→Bool)(av:cV.eR cB=true)(hlen:l.length≤9223372036854775807)(aJ: ∀x∈l,bD Tryz.prog g ([.str x]++cB) (.bool (p x))):
 bD Tryz.prog 86 [.ro (.strs l) 0 l.length,.fn g cB] (.bool (l.any p)):=by refine cg.rn (hq (P:=Tryz.prog) (fn:=Tryz.f86) I I af I (fun c ay bK=> ?_)) (fix:=fun _=>False) (fun _ h=>h) (by simp [cV.eR,cV,av]) I;refine bN ?_;refine aZ I I I (aim l g cB p av hlen aJ) (fx ?_);refine bd ay I ?_;simp only [gK,DY]
theorem adG (s:List UInt8)(ax:s.length≤9223372036854775807):bD Tryz.prog 244 [.str s] (.bool (iF s)):=by have U:=H2 s [45] ax a6;rw [Vt] at U;refine cm Tryz.f244 fun c ay bK=> ?_;refine bN ?_;refine aZ I I I U (bN ?_);exact bd ay I I
theorem ait (l:List Rat)(hlen:l.length≤1000000)(ax: ∀q∈l,fu 100000 q)(gP:l.all e3=true):bD Tryz.prog 70 [.ro (aQ l) 0 l.length] (.cd [.ro (.strs (l.map cO)) 0 l.length,.int .i64 0]):=by
 refine cm Tryz.f70 fun c ay bK=> ?_;refine fx ?_;refine kM 4 ⟨27,.strs []⟩ I I ?_;repeat (refine fK ?_)
 refine cJ (ι:=Nat) (fun k=>[(0,.ro (aQ l) 0 l.length),(4,.aA 0 0 k),(9,.ro (aQ l) 0 l.length),(10,ag l.length),(11,ag k)]) (fun k=>[some ⟨27,.strs ((l.take k).map cO)⟩])
  (fun k=>k≤l.length∧(l.drop k).all e3=true) (fun k=>l.length-k) 0 ⟨aH,rfl,cf _,gP⟩ ?_
 rintro k ⟨ao,iH⟩;refine bl ?_;refine bB I (fun h=> ?_) (fun h=> ?_)
 ·have b5:k<l.length:=J;have bw:=ax _ (mz 0 b5);have hd:=DF (d:=(0:Rat)) b5;rw [hd,zu] at iH;have mX:=Dr cO l 0 k b5;have ly:((l.take k).map cO).length=k:=by rw [cL,ff];omega
  generalize iv:(l.take k).map cO=sA at*;refine bm ?_;refine bP 14 (.agg (cb (l.getD k 0))) I (aV.of_eq I) ?_;generalize l.getD k 0=q at*;refine dP (c':= .box (cb q)) I I I I I I I ?_;rw [ei] at iH;have av:=H0 q bw iH.1;refine bm ?_;refine aZ I I I av (bl ?_);refine dt I I I I I I I I I ly I I dW I (by show (k+1)*16≤_∧_;omega) (fun i j _ _=>rfl) c4 ?_;refine fX ?_;refine b0 ?_;refine nn ([some ⟨27,.strs ((l.take (k+1)).map cO)⟩]++[none]) ?_ ?_
  ·rw [mX];exact aM.eqv (cC.refl _) (aM.drop aM.nil)
  refine Bq (H1:=[some ⟨27,.strs ((l.take (k+1)).map cO)⟩]) I c4 (bz ?_);exact ca ⟨k+1,⟨J,iH.2⟩,J,aH,I⟩
 ·have b5:k=l.length:=J;subst b5;rw [gb];refine kv ?_;refine mx 0 4 l.length [] I (fun _ _ _ _=>rfl) I (by show _≤(l.map cO).length;rw [cL];exact bR _) trivial (bN ?_);exact bd ay I I
theorem Tf (l:List Rat)(hlen:l.length≤1000000)(ax: ∀q∈l,fu 100000 q)(gP:l.all e3=false):bD Tryz.prog 70 [.ro (aQ l) 0 l.length] (.cd [.nil,.int .i64 2]):=by
 refine cm Tryz.f70 fun c ay bK=> ?_;refine fx ?_;refine kM 4 ⟨27,.strs []⟩ I I ?_;repeat (refine fK ?_)
 refine cJ (ι:=Nat) (fun k=>[(0,.ro (aQ l) 0 l.length),(4,.aA 0 0 k),(9,.ro (aQ l) 0 l.length),(10,ag l.length),(11,ag k)]) (fun k=>[some ⟨27,.strs ((l.take k).map cO)⟩])
  (fun k=>k≤l.length∧(l.drop k).all e3=false) (fun k=>l.length-k) 0 ⟨aH,rfl,cf _,gP⟩ ?_
 rintro k ⟨ao,iH⟩;refine bl ?_;refine bB I (fun h=> ?_) (fun h=> ?_)
 ·have b5:k<l.length:=J;have bw:=ax _ (mz 0 b5);have hd:=DF (d:=(0:Rat)) b5;rw [hd,zu] at iH;have mX:=Dr cO l 0 k b5;have ly:((l.take k).map cO).length=k:=by rw [cL,ff];omega
  generalize iv:(l.take k).map cO=sA at*;refine bm ?_;refine bP 14 (.agg (cb (l.getD k 0))) I (aV.of_eq I) ?_;generalize l.getD k 0=q at*;refine dP (c':= .box (cb q)) I I I I I I I ?_;cases aN:e3 q
  ·have av:=Nw q bw aN;refine bm ?_;refine aZ I I I av (bm ?_);exact bd ay I I
  ·have av:=H0 q bw aN;rw [aN,lO] at iH;refine bm ?_;refine aZ I I I av (bl ?_);refine dt I I I I I I I I I ly I I dW I (by show (k+1)*16≤_∧_;omega) (fun i j _ _=>rfl) c4 ?_;refine fX ?_;refine b0 ?_;refine nn ([some ⟨27,.strs ((l.take (k+1)).map cO)⟩]++[none]) ?_ ?_
   ·rw [mX];exact aM.eqv (cC.refl _) (aM.drop aM.nil)
   refine Bq (H1:=[some ⟨27,.strs ((l.take (k+1)).map cO)⟩]) I c4 (bz ?_);exact ca ⟨k+1,⟨J,iH⟩,J,aH,I⟩
 ·have b5:k=l.length:=J;subst b5;rw [r7] at iH;exact absurd iH a6
end Go.Proofs.YtmpnheilfejcpaaGreatDoor
namespace Go.Proofs.YtmpnheilfejcpaaGreatDoor
open Go.ai Go.ai.c8 Go.ai.cz Go.RowKit
attribute [local irreducible] ai ek bV cg hb
theorem nq:bD Tryz.prog 113 [.int .i64 0] (cj 0):=y0 0 a6
theorem uc:bD Tryz.prog 113 [.int .i64 1] (cj 1):=y0 1 a6
theorem Gx:fu 2000 0:=by
 refine ⟨?_,?_⟩
 ·show (aW 0).length≤2000;rw [qy];decide
 ·show (aW 1).length≤2000;rw [D1];decide
theorem afp (l:List (List UInt8))(hlen:l.length≤9223372036854775807)(ax: ∀s∈l,s.length≤9223372036854775807):bD Tryz.prog 243 [.ro (.strs l) 0 l.length] (.cd [cj (qR l).1,.int .i64 (qR l).2]):=by
 unfold qR;have U:=RP l hlen ax;by_cases au:256<l.length
 ·rw [aG au];refine cm Tryz.f243 fun c ay bK=> ?_;refine bl ?_;refine aZ I I I nq ?_;repeat (refine my rfl rfl rfl ?_)
  refine dP (c':= .box (cb 0)) I I I I I I I (bm ?_);refine bB I (fun aO=> ?_) (fun aO=>absurd au J);refine bm ?_;refine dP (c':= .box (cb 0)) I I I I I I I (dw ?_);exact bd ay I I
 rw [az au];by_cases cR:kc l=0
 ·rw [aG cR];rw [cR] at U;have ab:=P0 l J (fun s hm=>⟨ax s hm,vv cR s hm⟩);have bw: ∀q∈l.map b4,fu 2000 q:=fun q aB=>by obtain ⟨s,aw,rfl⟩:=da.1 aB;exact Dd (vv cR s aw)
  have ly:(l.map b4).length=l.length:=cL _;generalize l.map b4=hV at*;refine cm Tryz.f243 fun c ay bK=> ?_;refine bl ?_;refine aZ I I I nq ?_;repeat (refine my rfl rfl rfl ?_)
  refine dP (c':= .box (cb 0)) I I I I I I I (bm ?_);refine bB I (fun aO=>absurd au J) (fun aO=> ?_);refine bI ?_;refine aZ I I I U (bl ?_);refine aZ I I I ab (bz ?_);refine cJ (ι:=Nat×Rat) (fun p=>[(2,.ptr 0 0 0),(4,.ptr 1 0 0),(20,.ro (aQ hV) 0 l.length),(21,ag l.length),(22,ag p.1)]) (fun p=>[some ⟨118,.box [.bool false,.nil,.nil]⟩,some ⟨118,.box (cb p.2)⟩])
   (fun p=>p.1≤l.length∧sT 0 hV=sT p.2 (hV.drop p.1)∧fu 2000 p.2) (fun p=>l.length-p.1) (0,0) ⟨aH,rfl,cf _,rfl,Gx⟩ ?_
  rintro ⟨k,acc⟩ ⟨ao,dp,iH⟩;simp only at*;refine bl ?_;refine bB I (fun h=> ?_) (fun h=> ?_)
  ·have b5:k<hV.length:=J;have aB:=bw _ (mz 0 b5);have hd:=DF (d:=(0:Rat)) b5;rw [hd,sT] at dp;refine bm ?_;refine bP 25 (.agg (cb (hV.getD k 0))) I (aV.of_eq I) ?_;generalize hV.getD k 0=q at*;have av:=Vw acc q (iH.mono a6) (aB.mono a6);have aN:=Nc (acc+q) ((Q7 iH aB).mono a6);refine dP (c':= .box (cb q)) I I I I I I I (bm ?_);refine aZ I I I av ?_;skip
   refine dP (c':= .box (cb (acc+q))) I I I I I I I (bm ?_);refine aZ I I I aN ?_;cases ak:e3 (acc+q)
   ·rw [ak,az r6] at dp;rw [dp] at ay;refine bm ?_;refine dP (c':= .box (cb (acc+q))) I I I I I I I (bm ?_);exact bd ay I I
   ·rw [ak,aG rfl] at dp;refine fX ?_;refine b0 ?_;refine nn ([some ⟨118,.box [.bool false,.nil,.nil]⟩,some ⟨118,.box (cb (acc+q))⟩]++[none]) ?_ ?_
    ·exact aM.eqv (cC.refl _) (aM.eqv (cC.refl _) (aM.drop aM.nil))
    refine Bq (H1:=[some ⟨118,.box [.bool false,.nil,.nil]⟩,some ⟨118,.box (cb (acc+q))⟩]) I c4 (bt ?_);exact ca ⟨(k+1,acc+q),⟨by simp only;omega,dp,Vj ak⟩,by simp only;omega,aH,I⟩
  ·have b5:k=l.length:=J;subst b5;rw [←ly,r7,sT] at dp;rw [dp] at ay;refine bm ?_;refine dP (c':= .box (cb acc)) I I I I I I I (bN ?_);exact bd ay I I
 ·rw [az cR];generalize kc l=e at*;refine cm Tryz.f243 fun c ay bK=> ?_;refine bl ?_;refine aZ I I I nq ?_;repeat (refine my rfl rfl rfl ?_)
  refine dP (c':= .box (cb 0)) I I I I I I I (bm ?_);refine bB I (fun aO=>absurd au J) (fun aO=> ?_);refine bI ?_;refine aZ I I I U (bz ?_);refine bB I (fun ab=> ?_) (fun ab=>absurd cR ab);refine bm ?_;refine dP (c':= .box (cb 0)) I I I I I I I (dw ?_);exact bd ay I I
theorem VN: ∀(hV:List Rat) (acc:Rat),fu 2000 acc→(∀q∈hV,fu 2000 q)→fu 4001 (sT acc hV).1
 |[],acc,h,_=>h.mono a6
 |q::r,acc,h,ax=>by
  rw [sT];split
  ·rename_i ak;exact VN r _ (Vj ak) (fun x ar=>ax x (by simp [ar]))
  ·exact Q7 h (ax q bZ)
theorem afn (l:List (List UInt8)):fu 4001 (qR l).1:=by
 unfold qR;split
 ·exact Gx.mono a6
 ·split
  ·rename_i cR;refine VN _ _ Gx (fun q aB=> ?_);obtain ⟨s,aw,rfl⟩:=da.1 aB;exact Dd (vv cR s aw)
  ·exact Gx.mono a6
theorem ahz (l:List (List UInt8))(hlen:l.length≤9223372036854775807)(ax: ∀s∈l,s.length≤9223372036854775807):bD Tryz.prog 217 [.ro (.strs l) 0 l.length] (.cd [cj (qR l).1,.int .i64 (AB l)]):=by
 have U:=afp l hlen ax;have ab:=S1 l 244 [] iF rfl hlen (fun s hm=>adG s (ax s hm));unfold AB;generalize (qR l).1=q at*;generalize (qR l).2=e at*;generalize l.any iF=b at*;by_cases he:e=0
 ·subst he;cases b
  ·rw [az (fun h=>r6 h.2)];refine cm Tryz.f217 fun c ay bK=> ?_;refine bl ?_;refine aZ I I I U ?_;unfold cj;refine bl ?_;refine dP (c':= .box (cb q)) I I I I I I I (bl ?_);refine aZ I I I ab (bm ?_);refine dP (c':= .box (cb q)) I I I I I I I (bN ?_);exact bd ay I I
  ·rw [aG ⟨rfl,rfl⟩];refine cm Tryz.f217 fun c ay bK=> ?_;refine bl ?_;refine aZ I I I U ?_;unfold cj;refine bl ?_;refine dP (c':= .box (cb q)) I I I I I I I (bl ?_);refine aZ I I I ab (bm ?_);refine dP (c':= .box (cb q)) I I I I I I I (bN ?_);exact bd ay I I
 ·rw [az (fun h=>he h.1)];refine cm Tryz.f217 fun c ay bK=> ?_;refine bl ?_;refine aZ I I I U ?_;unfold cj;refine bl ?_;refine dP (c':= .box (cb q)) I I I I I I I (bl ?_);refine gS I I (fun aO=>absurd aO he) (fun aO=> ?_);refine bm ?_;refine dP (c':= .box (cb q)) I I I I I I I (bN ?_);exact bd ay I I
theorem acs (l:List (List UInt8))(hlen:l.length≤9223372036854775807)(ax: ∀s∈l,s.length≤9223372036854775807):bD Tryz.prog 187 [.ro (.strs l) 0 l.length] (.int .i64 (sS l)):=by
 have U:=ahz l hlen ax;have bw:=afn l;unfold sS;generalize (qR l).1=q at*;generalize AB l=e at*;have ab:=adz q 1 (bw.mono a6) (by refine ⟨?_,?_⟩<;>(show (aW 1).length≤100000;rw [D1];decide));by_cases he:e=0
 ·rw [aG he];subst he;generalize wb q 1=t at*;by_cases bs:t=0
  ·rw [aG bs];subst bs;refine cm Tryz.f187 fun c ay bK=> ?_;refine bN ?_;refine aZ I I I U ?_;unfold cj;refine bl ?_;refine dP (c':= .box (cb q)) I I I I I I I (bl ?_);refine eN af ?_;refine fe (fuel:=0) [0,1,2,3] [(3,.ptr 0 0 0)] ⟨I,trivial⟩ af a6 I I ?_;refine dd ?_;refine en I I I I I uc ?_;refine en I I I I I ab ?_;refine dd ?_;refine fc ?_;refine eM af (bl ?_);exact bd ay I I
  ·rw [az bs];refine cm Tryz.f187 fun c ay bK=> ?_;refine bN ?_;refine aZ I I I U ?_;unfold cj;refine bl ?_;refine dP (c':= .box (cb q)) I I I I I I I (bl ?_);refine eN af ?_;refine fe (fuel:=0) [0,1,2,3] [(3,.ptr 0 0 0)] ⟨I,trivial⟩ af a6 I I ?_;refine dd ?_;refine en I I I I I uc ?_;refine en I I I I I ab ?_;refine dd ?_;refine fc ?_;refine eM af ?_;repeat (refine b0 ?_)
   refine bB I (fun aO=> ?_) (fun aO=>absurd bs aO);refine dw ?_;exact bd ay I I
 ·rw [az he];refine cm Tryz.f187 fun c ay bK=> ?_;refine bN ?_;refine aZ I I I U ?_;unfold cj;refine bl ?_;refine dP (c':= .box (cb q)) I I I I I I I (bz ?_);refine bB I (fun aO=> ?_) (fun aO=>absurd he aO);refine dw ?_;exact bd ay I I
end Go.Proofs.YtmpnheilfejcpaaGreatDoor
namespace Go.ai
open Go.RowKit
abbrev ec (bU pl bH:Int)(ba:List Int)(ct:List (List UInt8))(cw:List UInt8):List al:=[.int .i64 bU,.int .i64 pl,.int .i64 bH,.ro (.ints .i64 ba) 0 ba.length,.ro (.strs ct) 0 ct.length,.str cw]
end Go.ai
namespace Go.Proofs.YtmpnheilfejcpaaGreatDoor
open Go.ai Go.ai.c8 Go.ai.cz Go.RowKit Go.ai.kz Go.ai.eD
attribute [local irreducible] ai ek bV cg hb
def hI (n:cW):List al:=[.int .i64 n.kind,.int .i64 n.eI,.int .i64 n.info,.ro (.ints .i64 n.next) 0 n.next.length,.ro (.strs n.eH) 0 n.eH.length,.str n.dC]
abbrev bS (t:aT):Cells:=fl aK 6 hI t
structure BV (n:cW):Prop where
 next:n.next.length≤9223372036854775807
 eH:n.eH.length≤9223372036854775807
 each: ∀s∈n.eH,s.length≤9223372036854775807
 dC:n.dC.length≤9223372036854775807
structure kY (t:aT):Prop where
 len:t.length≤9223372036854775807
 node: ∀n∈t,BV n
theorem aiV (t:aT)(i:Nat)(k:Int)(aa:i≤9223372036854775807)(hlen:t.length≤9223372036854775807):bD Tryz.prog 236 [.int .i64 k,.de (.box [ag i]) 0 0,.de (.box [.ro (bS t) 0 t.length]) 0 0] (.bool (yM t.length i k)):=by
 refine cm Tryz.f236 fun c ay bK=> ?_;refine fx ?_;refine gS I I (fun h=> ?_) (fun h=> ?_)
 ·refine bm ?_;refine bd ay I ?_;unfold yM;rw [fv h];rfl
 ·refine fx ?_;refine bd ay I ?_;unfold yM;rw [fq h,zv];rfl
theorem WN (t:aT):eV (.box [.ro (bS t) 0 t.length]):=by
 intro i j _ ae;obtain rfl:j=0:=by have ae:j<1:=ae;omega
 rfl
theorem IS (n:Int):eV (.box [.int .i64 n]):=by
 intro i j _ ae;obtain rfl:j=0:=by have ae:j<1:=ae;omega
 rfl
theorem QJ {o1 o2:bk}(U:eV o1.c)(ab:eV o2.c): ∀(h:Nat) (o:bk),([some o1,some o2]:aX)[h]? =some (some o)→eV o.c:=by
 intro h o aj
 match h,aj with
 |0,aj=>cases aj;exact U
 |1,aj=>cases aj;exact ab
 |_+2,aj=>simp at aj
theorem agS (t:aT)(i:Nat)(aa:i<t.length)(hlen:t.length≤9223372036854775807)(aF:(t.getD i aK).next.length≤9223372036854775807):bD Tryz.prog 203 [.ro (bS t) 0 t.length,ag i] (.int .i64 (xi t.length i (t.getD i aK).next)):=by
 have av:=S0 (t.getD i aK).next 236 [.de (.box [ag i]) 0 0,.de (.box [.ro (bS t) 0 t.length]) 0 0] (yM t.length i) rfl aF (fun k _=>aiV t i k J hlen)
 refine cm Tryz.f203 fun c ay bK=> ?_;repeat (first|refine an (dr rfl) ?_|refine cK ?_|refine b0 ?_|refine c6 ?_|refine c0 rfl ?_|refine an (tE rfl rfl rfl rfl) ?_|refine an (jl rfl rfl rfl rfl rfl) ?_|refine an (j3 rfl rfl rfl rfl hH J) ?_|refine an (oW rfl rfl rfl rfl rfl rfl) ?_|refine ua rfl rfl ?_)
 refine eA 5 (.ro (.ints .i64 (t.getD i aK).next) 0 (t.getD i aK).next.length) I (aV.of_eq I) ?_;generalize (t.getD i aK).next=l at*
 unfold xi at ay;refine bl ?_;refine bB I (fun U=> ?_) (fun U=> ?_)
 ·rw [aG J] at ay;refine bm ?_;exact bd ay I I
 rw [az J] at ay;refine bm ?_;refine bB I (fun ab=> ?_) (fun ab=> ?_)
 ·rw [aG J] at ay;refine bm ?_;exact bd ay I I
 rw [az J] at ay;refine fX ?_;refine HC rfl rfl rfl rfl av (QJ (o1:=⟨41,.box [.ro (bS t) 0 t.length]⟩) (o2:=⟨3,.box [ag i]⟩) (WN _) (IS _)) ⟨trivial,⟨fun o aj=>by simp at aj;subst aj;exact fp,fun o aj=>by simp at aj;subst aj;exact fp,trivial⟩,trivial⟩ rfl rfl rfl ?_;generalize l.any (yM t.length i)=b at*;cases b
 ·rw [az a6] at ay;refine bt ?_;exact bd ay I I
 ·rw [aG rfl] at ay;refine bm ?_;exact bd ay I I
theorem aci (t:aT)(i:Nat)(aa:i<t.length)(hlen:t.length≤9223372036854775807)(ax:BV (t.getD i aK)):bD Tryz.prog 163 [.ro (bS t) 0 t.length,ag i] (.int .i64 (lG t.length i (t.getD i aK))):=by
 have bb:=agS t i aa hlen ax.next
 have q9:=Hq (t.getD i aK).dC ax.dC;have co:=acs (t.getD i aK).eH ax.eH ax.each;obtain ⟨s1,s2,tx,Gt⟩:=ax;refine cm Tryz.f163 fun c ay bK=> ?_;refine bm ?_;refine bP 10 (.agg (hI (t.getD i aK))) I (aV.of_eq I) ?_;generalize t.getD i aK=n at*;obtain ⟨bU,pl,bH,ba,ct,cw⟩:=n;simp only at*;unfold lG at ay;refine dP (c':= .box (ec bU pl bH ba ct cw)) I I I I I I I ?_;simp only at ay;refine bt ?_;refine bB I (fun aO=> ?_) (fun aO=> ?_)
 ·rw [aG aO] at ay;refine bt ?_;refine gS I I (fun g1=> ?_) (fun g1=> ?_)
  ·rw [aG (.inl g1)] at ay;refine bm ?_;exact bd ay I I
  refine bt ?_;refine gS I I (fun g2=> ?_) (fun g2=> ?_)
  ·rw [aG (.inr (.inl g2))] at ay;refine bm ?_;exact bd ay I I
  refine bm ?_;refine gS I I (fun g3=> ?_) (fun g3=> ?_)
  ·rw [aG (.inr (.inr (.inl (by rintro rfl;simp at g3))))] at ay;refine bm ?_;exact bd ay I I
  refine bm ?_;refine bB I (fun g4=> ?_) (fun g4=> ?_)
  ·rw [aG (.inr (.inr (.inr (by rintro rfl;simp at g4))))] at ay;refine bm ?_;exact bd ay I I
  rw [az (by
   rintro (q|q|q|q)
   ·exact g1 q
   ·exact g2 q
   ·have:=xQ.2 q;omega
   ·have:=xQ.2 q;omega)] at ay
  refine bt ?_;refine aZ I I I q9 (bm ?_);exact bd ay I I
 rw [az aO] at ay;refine bl ?_;refine bB I (fun U=> ?_) (fun U=> ?_)
 ·rw [aG U] at ay;refine bt ?_;refine gS I I (fun g1=> ?_) (fun g1=> ?_)
  ·rw [aG (.inl g1)] at ay;refine bm ?_;exact bd ay I I
  refine bt ?_;refine gS I I (fun g2=> ?_) (fun g2=> ?_)
  ·rw [aG (.inr (.inl g2))] at ay;refine bm ?_;exact bd ay I I
  refine fx ?_;refine bB I (fun g3=> ?_) (fun g3=> ?_)
  ·rw [aG (.inr (.inr g3))] at ay;refine bm ?_;exact bd ay I I
  rw [az (by
   rintro (q|q|q)
   ·exact g1 q
   ·exact g2 q
   ·exact g3 q)] at ay
  refine bI ?_;refine aZ I I I bb (bz ?_);refine bB I (fun aw=> ?_) (fun aw=> ?_)
  ·rw [aG aw] at ay;refine bm ?_;exact bd ay I I
  rw [az aw] at ay;refine bt ?_;refine bB I (fun bg=> ?_) (fun bg=> ?_)
  ·rw [aG J] at ay;refine bm ?_;exact bd ay I I
  rw [az J] at ay;refine bt ?_;refine aZ I I I co (bm ?_);exact bd ay I I
 rw [az U] at ay;refine bl ?_;refine bB I (fun ab=> ?_) (fun ab=> ?_)
 ·rw [aG ab] at ay;refine bm ?_;refine gS I I (fun g1=> ?_) (fun g1=> ?_)
  ·rw [aG (.inl (by rintro rfl;simp at g1))] at ay;refine bm ?_;exact bd ay I I
  refine fx ?_;refine bB I (fun g2=> ?_) (fun g2=> ?_)
  ·rw [aG (.inr g2)] at ay;refine bm ?_;exact bd ay I I
  rw [az (by
   rintro (q|q)
   ·have:=xQ.2 q;omega
   ·exact g2 q)] at ay
  refine bt ?_;refine gS I I (fun g3=> ?_) (fun g3=> ?_)
  ·refine bt ?_;refine gS I I (fun g4=> ?_) (fun g4=> ?_)
   ·rw [aG (.inl ⟨g3,g4⟩)] at ay;refine bm ?_;exact bd ay I I
   refine bt ?_;refine gS I I (fun g5=> ?_) (fun g5=> ?_)
   ·rw [aG (.inr (.inl g5))] at ay;refine bm ?_;exact bd ay I I
   refine fx ?_;refine bB I (fun g6=> ?_) (fun g6=> ?_)
   ·rw [aG (.inr (.inr g6))] at ay;refine bm ?_;exact bd ay I I
   rw [az (by
    rintro (q|q|q)
    ·exact g4 q.2
    ·exact g5 q
    ·exact g6 q)] at ay
   refine bI ?_;refine aZ I I I bb (bm ?_);exact bd ay I I
  ·refine bm ?_;refine gS I I (fun g5=> ?_) (fun g5=> ?_)
   ·rw [aG (.inr (.inl g5))] at ay;refine bm ?_;exact bd ay I I
   refine fx ?_;refine bB I (fun g6=> ?_) (fun g6=> ?_)
   ·rw [aG (.inr (.inr g6))] at ay;refine bm ?_;exact bd ay I I
   rw [az (by
    rintro (q|q|q)
    ·exact g3 q.1
    ·exact g5 q
    ·exact g6 q)] at ay
   refine bI ?_;refine aZ I I I bb (bm ?_);exact bd ay I I
 ·rw [az ab] at ay;refine bt ?_;exact bd ay I I
theorem W0 (n:Int):bD Tryz.prog 165 [.int .i64 n] (.bool (decide (n≠1))):=by refine cm Tryz.f165 fun c ay bK=> ?_;refine bz ?_;exact bd ay I I
def qP (e:Int×Int×Nat):al:= .agg [.int .i64 e.1,.int .i64 e.2.1]
def Gd (e:Int×Int×Nat):al:=ag e.2.2
abbrev wL (S:uu):Cells:= .mp (S.map qP) (S.map Gd)
theorem Ga (S:uu): ∀x∈S.map qP,nu (.pair .i64) x=true:=by intro x ar;obtain ⟨e,_,rfl⟩:=da.1 ar;rfl
theorem aeA {l:List al}{j:Nat}{v:al}(h:l[j]? =some v):l.set j v=l:=by
 apply List.ext_getElem?;intro i;by_cases e:j=i
 ·subst e;obtain ⟨ae,_⟩:=gL.1 h;rw [nB ae,h]
 ·rw [k0 e]
theorem Dx {α:Type}{n:Nat}{f:α→al}(aN: ∀x,hc n (f x)=true): ∀l:List α,nr n (l.map f)=true
 |[]=>rfl
 |a::r=>by show (hc n (f a) && nr n (r.map f))=true;rw [aN a,Dx aN r];rfl
theorem rE {n:Nat}{t:TypeId}{c:Cells}(av:fy n c): ∀(h:Nat) (o:bk),([some ⟨t,c⟩]:aX)[h]? =some (some o)→fy n o.c:=by
 intro h o aj
 match h,aj with
 |0,aj=>cases aj;exact av
 |_+1,aj=>simp at aj
theorem Mx (S:uu)(n:Nat):fy n (wL S):=⟨Dx (fun _=>rfl) S,Dx (fun _=>rfl) S⟩
theorem ako (t:aT)(cc:kY t):bD Tryz.prog 88 [.ro (bS t) 0 t.length] (.int .i64 (vK t)):=by
 have hlen:=cc.len;refine cm Tryz.f88 fun c ay bK=> ?_;unfold vK at ay;refine bm ?_;refine bB I (fun U=> ?_) (fun U=> ?_)
 ·rw [aG J] at ay;refine dw ?_;exact bd ay I I
 rw [az J] at ay;refine bl ?_;refine bB I (fun ab=> ?_) (fun ab=> ?_)
 ·rw [aG J] at ay;refine dw ?_;exact bd ay I I
 rw [az J] at ay;have jX:t.length≤120:=J;have OL:t.length≠0:=J;refine bz ?_;refine l6 I I I I I I I I (by show 0≤_∧_≤_∧(8:Int)*_≤_∧_;omega) (bz ?_);refine cJ (ι:=Nat) (fun i=>[(0,.ro (bS t) 0 t.length),(3,.aA 0 0 t.length),(23,.ro (bS t) 0 t.length),(24,ag t.length),(25,ag i)]) (fun i=>[some ⟨3,.ints .i64 (jy t.length (o8 t i))⟩])
  (fun i=>i≤t.length∧qF t.length 0 t=qF t.length i (t.drop i)∧(o8 t i).length≤6*i) (fun i=>t.length-i) 0 ⟨aH,by show [some (⟨3,.ints .i64 (List.replicate _ 0)⟩:bk)]=[some ⟨3,.ints .i64 (jy t.length [])⟩];rw [Xb];rfl,cf _,by rw [s5],by simp [o8]⟩ ?_
 rintro i ⟨aa,cR,ki⟩;refine bl ?_;refine bB I (fun aw=> ?_) (fun aw=> ?_)
 ·have aP:i<t.length:=J;have ej:=mz aK aP;have sa:=aci t i aP hlen (cc.node _ ej);rw [ahx aP] at cR;have pC:=ahF aP;refine bI ?_;refine aZ I I I sa (bz ?_);refine bB I (fun bg=> ?_) (fun bg=> ?_)
  ·rw [az bg] at cR;rw [aG (by rw [cR];exact bg),cR] at ay;refine bm ?_;exact bd ay I I
  rw [aG (jV.1 bg)] at cR;obtain ⟨bO,bW⟩:=Sp (jV.1 bg);have Pt:(t.getD i aK).next.length≤9223372036854775807:=J
  refine Db ?_;refine c0 I ?_;refine kv ?_;refine eA 38 (.ro (.ints .i64 (t.getD i aK).next) 0 (t.getD i aK).next.length) I (aV.of_eq I) ?_;generalize (t.getD i aK).next=l at*
  repeat (refine fK ?_)
  refine cJ (ι:=Nat) (fun j=>[(0,.ro (bS t) 0 t.length),(3,.aA 0 0 t.length),(23,.ro (bS t) 0 t.length),(24,ag t.length),(25,ag i),(38,.ro (.ints .i64 l) 0 l.length),(39,ag l.length),(40,ag j)]) (fun j=>[some ⟨3,.ints .i64 (jy t.length (o8 t i++l.take j))⟩])
   (fun j=>j≤l.length) (fun j=>l.length-j) 0 ⟨aH,by rw [List.take_zero,kB],cf _⟩ ?_
  intro j ae;refine bl ?_;refine bB I (fun bF=> ?_) (fun bF=> ?_)
  ·have bf:j<l.length:=J;obtain ⟨dX,eu⟩:=bO _ (dx 0 bf);have ax:=aiW (o8 t i++l.take j) (x:=l.getD j 0) J eu;rw [ll,←yJ bf] at ax;have ak:=Xa t.length (o8 t i++l.take j) (l.getD j 0).toNat;have uY:(o8 t i++l.take j).length≤6*i+6:=by rw [c2,ff];omega
   have gZ:=yN t.length (o8 t i++l.take j);have bC:(l.getD j 0).toNat<(jy t.length (o8 t i++l.take j)).length:=J;generalize jy t.length (o8 t i++l.take j)=C at*;refine K2 ?_;exact ca ⟨j+1,J,J,aH,by rw [ax];rfl⟩
  ·have gI:j=l.length:=J;subst gI;rw [gb,←pC];refine bt ?_;exact ca ⟨i+1,⟨J,cR,by rw [pC,c2];omega⟩,J,aH,I⟩
 have df:i=t.length:=J;subst df;rw [r7] at cR;have Yn:qF t.length 0 t=0:=cR;rw [az (by rw [Yn];exact fun q=>q rfl)] at ay;have ha:o8 t t.length=t.flatMap cW.next:=by unfold o8;rw [gb]
 rw [ha];have gP:=ajL OL;rw [←gP] at ay;have gZ:=yN t.length (t.flatMap cW.next);generalize jy t.length (t.flatMap cW.next)=C at*;have bb:=S0 (C.drop 1) 165 [] (fun n=>decide (n≠1)) rfl (by rw [uB];omega) (fun n _=>W0 n);refine kv ?_;refine mx 0 3 t.length [(0,.ro (bS t) 0 t.length)] I lb I (by show t.length≤C.length;omega) ⟨I,trivial⟩ ?_;refine fC [] [none] [(0,.ro (bS t) 0 t.length),(3,.ro (.ints .i64 C) 0 t.length)] I aH ic (fun h o aj=>by simp at aj) I (tu ?_);refine bP 53 (.ro (.ints .i64 (C.drop 1)) 0 (C.drop 1).length) I (aV.trans (aV.drop (k:= .i64) (l:=C) (i:=1) (n:=((t.length:Int)-1).toNat)) (aV.of_eq (by rw [uB,gZ];congr 1;omega))) ?_;refine aZ I I I bb ?_;generalize (C.drop 1).any (fun n=>decide (n≠1))=b at*;cases b
 case true=>
  rw [aG rfl] at ay;refine bt ?_;exact bd ay I I
 rw [az a6] at ay;refine bl ?_;refine G6 (bz ?_);refine cJ (ι:=Nat×uu) (fun x=>[(0,.ro (bS t) 0 t.length),(8,.mp 0),(56,.ro (bS t) 0 t.length),(57,ag t.length),(58,ag x.1)]) (fun x=>[some ⟨229,wL x.2⟩])
  (fun x=>x.1≤t.length∧lL (t.take x.1) x.2) (fun x=>t.length-x.1) (0,[]) ⟨aH,rfl,cf _,lL.nil⟩ ?_
 rintro ⟨k,S⟩ ⟨ao,dn⟩;simp only at ao dn;refine bl ?_;refine bB I (fun bF=> ?_) (fun bF=> ?_)
 ·have b5:k<t.length:=J;have ej:=mz aK b5;have kH:=cc.node _ ej;have mX:=aiN b5;have aag: ∀a∈t.take k,a∈t:=fun a a1=>oB a1;have PO:= @lL.skip (t.take k) S (t.getD k aK) dn;have wh:=fun e=> @lL.JS (t.take k) S (t.getD k aK) e dn;have uZ:= @lL.abS (t.take k) S (t.getD k aK) dn;have Ju:=fun e=> @lL.bad (t.take k) t S (t.getD k aK) e dn aag ej;rw [←mX] at PO wh uZ;obtain ⟨s1,s2,tx,Gt⟩:=kH;refine bm ?_;refine bP 61 (.agg (hI (t.getD k aK))) I (aV.of_eq I) ?_;generalize t.getD k aK=n at*;obtain ⟨bU,pl,bH,ba,ct,cw⟩:=n;simp only at*;refine dP (c':= .box (ec bU pl bH ba ct cw)) I I I I I I I (bt ?_);refine bB I (fun g1=> ?_) (fun g1=> ?_)
  ·refine fX ?_;refine b0 ?_;refine fC [some ⟨229,wL S⟩] [some ⟨57,.box (ec bU pl bH ba ct cw)⟩] [(0,.ro (bS t) 0 t.length),(8,.mp 0),(56,.ro (bS t) 0 t.length),(57,ag t.length),(58,ag k)] I aH ic (rE (Mx S 1)) I (bz ?_);exact ca ⟨(k+1,S),⟨by simp only;omega,PO g1⟩,by simp only;omega,aH,I⟩
  ·have mW:bU=2:=jV.1 g1;refine fx ?_;refine bP 69 (.agg [.int .i64 pl,.int .i64 bH]) I (aV.of_eq I) ?_;refine dP (c':= .box [.int .i64 pl,.int .i64 bH]) I I I I I I I (bm ?_);refine bP 72 (qP (pl,bH,0)) I (aV.of_eq I) ?_;by_cases hm: ∃e∈S,e.1=pl∧e.2.1=bH
   ·obtain ⟨e,he,aD,aE⟩:=hm;obtain ⟨j,ae,gI⟩:=ln he;have i1:(S.map qP)[j]? =some (qP (pl,bH,0)):=by rw [me,mL ae,gI];show some (qP e)=_;unfold qP;rw [aD,aE]
    have i2:(S.map Gd)[j]? =some (ag e.2.2):=by rw [me,mL ae,gI];rfl
    refine an (AQ I (.pair I I I) I I I I (Ga S) j i1 i2) (bt ?_);refine bB I (fun fi=> ?_) (fun fi=> ?_)
    ·rw [aG (Ju e mW he aD aE J)] at ay;refine bm ?_;exact bd ay I I
    ·have py:e.2.2=ba.length:=J;have cS:(S.map Gd).set j (ag ba.length)=S.map Gd:=aeA (by rw [i2,py]);refine bm ?_;refine bP 85 (qP (pl,bH,0)) I (aV.of_eq I) ?_;refine agv I (.pair I I I) I I I I I (Ga S) j i1 ?_;refine c7 [some ⟨229,wL (S)⟩,some ⟨57,.box (ec bU pl bH ba ct cw)⟩,some ⟨94,.box [.int .i64 pl,.int .i64 bH]⟩] (by rw [←cS];rw [cS];exact (congrArg (fun l=>[some (⟨229,.mp (S.map qP) l⟩:bk),some ⟨57,.box (ec bU pl bH ba ct cw)⟩,some ⟨94,.box [.int .i64 pl,.int .i64 bH]⟩]) cS)) ?_;refine fX ?_;refine b0 ?_;refine fC [some ⟨229,wL (S)⟩] [some ⟨57,.box (ec bU pl bH ba ct cw)⟩,some ⟨94,.box [.int .i64 pl,.int .i64 bH]⟩] [(0,.ro (bS t) 0 t.length),(8,.mp 0),(56,.ro (bS t) 0 t.length),(57,ag t.length),(58,ag k)] I aH ic (rE (Mx _ 1)) I (bz ?_);exact ca ⟨(k+1,S),⟨by simp only;omega,wh e he aD aE py⟩,by simp only;omega,aH,I⟩
   ·have pE:qP (pl,bH,0)∉S.map qP:=by intro q;obtain ⟨e,he,I3⟩:=da.1 q;simp only [qP,al.agg.injEq,List.cons.injEq,al.int.injEq,true_and,and_true] at I3;exact hm ⟨e,he,I3.1,I3.2⟩
    refine an (GK I (.pair I I I) I I I I I I I I (Ga S) pE) (bm ?_);refine bP 85 (qP (pl,bH,0)) I (aV.of_eq I) ?_;refine GG I (.pair I I I) I I I I I (Ga S) pE ?_;refine c7 [some ⟨229,wL (S++[(pl,bH,ba.length)])⟩,some ⟨57,.box (ec bU pl bH ba ct cw)⟩,some ⟨94,.box [.int .i64 pl,.int .i64 bH]⟩] (by unfold wL;rw [hS,hS];rfl) ?_;refine fX ?_;refine b0 ?_;refine fC [some ⟨229,wL (S++[(pl,bH,ba.length)])⟩] [some ⟨57,.box (ec bU pl bH ba ct cw)⟩,some ⟨94,.box [.int .i64 pl,.int .i64 bH]⟩] [(0,.ro (bS t) 0 t.length),(8,.mp 0),(56,.ro (bS t) 0 t.length),(57,ag t.length),(58,ag k)] I aH ic (rE (Mx _ 1)) I (bz ?_);exact ca ⟨(k+1,S++[(pl,bH,ba.length)]),⟨by simp only;omega,uZ mW (fun e he q=>hm ⟨e,he,q⟩)⟩,by simp only;omega,aH,I⟩
 ·have k4:k=t.length:=J;subst k4;rw [gb] at dn;rw [ahu dn.free,az a6] at ay;refine bt ?_;exact bd ay I I
theorem Sm (l:aT)(g:FuncId)(cB:List al)(p:cW→Bool)(av:cV.eR cB=true)(hlen:l.length≤9223372036854775807)(aJ: ∀x∈l,bD Tryz.prog g ([.agg (hI x)]++cB) (.bool (p x))):
 bD Tryz.prog 161 [.ro (bS l) 0 l.length,.fn g cB] (.int .i64 (iy p l)):=by
 refine cg.rn (hq (P:=Tryz.prog) (fn:=Tryz.f161) I I af I (fun c ay bK=> ?_)) (fix:=fun _=>False) (fun _ h=>h) (by simp [cV.eR,cV,av]) I;refine bz ?_;refine cJ (ι:=Nat) (fun k=>[(0,.ro (bS l) 0 l.length),(1,.fn g cB),(7,ag l.length),(8,ag k)]) (fun _=>[])
  (fun k=>k≤l.length∧(l.take k).any p=false) (fun k=>l.length-k) 0 ⟨aH,rfl,cf _,rfl⟩ ?_
 intro k ⟨ao,iI⟩;refine bl ?_;refine bB I (fun h=> ?_) (fun h=> ?_)
 ·have b5:k<l.length:=J;have uS:=Dm p l aK k b5;refine bm ?_;refine bP 15 (.agg (hI (l.getD k aK))) I (aV.of_eq I) ?_;refine aZ I I I (aJ _ (mz aK b5)) (bN ?_);refine tT I (fun ab=> ?_) (fun ab=> ?_)
  ·refine bm ?_;refine bd ay I ?_;have:=rk p l k iI ao;rw [tL l aK k b5] at this;simp only [iy,ab,fS] at this;rw [this];simp [gK]
  ·refine bt ?_;refine ca ⟨k+1,⟨J,by rw [uS,iI,ab];rfl⟩,J,aH,I⟩
 ·have b5:k=l.length:=J;subst b5;refine bt ?_;refine bd ay I ?_;have:=rk p l l.length iI ao;rw [r7] at this;rw [this];rfl
theorem aeB (n:cW)(p i:Int):bD Tryz.prog 167 [.agg (hI n),.de (.box [.int .i64 p]) 0 0,.de (.box [.int .i64 i]) 0 0] (.bool (e7 p i n)):=by
 obtain ⟨bU,pl,bH,ba,ct,cw⟩:=n;refine cm Tryz.f167 fun c ay bK=> ?_;unfold e7 own at ay;unfold hI;simp only at ay⊢;refine bm ?_;refine gS I I (fun g1=> ?_) (fun g1=> ?_)
 ·rw [fv g1,lO] at ay;refine fx ?_;refine gS I I (fun g2=> ?_) (fun g2=> ?_)
  ·rw [fv g2,lO] at ay;refine fx ?_;exact bd ay I I
  ·rw [fq g2,pq] at ay;refine bm ?_;exact bd ay I I
 ·rw [fq g1,pq,pq] at ay;refine bm ?_;exact bd ay I I
theorem adO {o1 o2 vd Ay:bk}(U:eV o1.c)(ab:eV o2.c)(aw:eV vd.c)(bg:eV Ay.c): ∀(h:Nat) (o:bk),([some o1,some o2,some vd,some Ay]:aX)[h]? =some (some o)→eV o.c:=by
 intro h o aj
 match h,aj with
 |0,aj=>cases aj;exact U
 |1,aj=>cases aj;exact ab
 |2,aj=>cases aj;exact aw
 |3,aj=>cases aj;exact bg
 |_+4,aj=>simp at aj
theorem NZ {n:Nat}{o1 o2 vd:bk}(U:fy n o1.c)(ab:fy n o2.c)(aw:fy n vd.c): ∀(h:Nat) (o:bk),([some o1,some o2,some vd]:aX)[h]? =some (some o)→fy n o.c:=by
 intro h o aj
 match h,aj with
 |0,aj=>cases aj;exact U
 |1,aj=>cases aj;exact ab
 |2,aj=>cases aj;exact aw
 |_+3,aj=>simp at aj
theorem yH (k:IntKind)(l:List Int)(n:Nat):fy n (.ints k l):=fun _ _ _ _=>rfl
theorem Sg (x:Int)(n:Nat):fy n (.box [.int .i64 x]):=by
 intro i j _ ae;obtain rfl:j=0:=by have ae:j<1:=ae;omega
 rfl
theorem VH (t:aT)(p:Int)(hlen:t.length≤9223372036854775807):bD Tryz.prog 90 [.ro (bS t) 0 t.length,.int .i64 p] (.cd [.ro (.ints .i64 (di t p)) 0 (di t p).length,.ro (.ints .i64 (tZ t p)) 0 (tZ t p).length]):=by
 refine cm Tryz.f90 fun c ay bK=> ?_;rw [←ain,←aiI] at ay;refine tu ?_;refine kM 6 ⟨3,.ints .i64 []⟩ I I ?_;refine kM 7 ⟨3,.ints .i64 []⟩ I I ?_;repeat (refine fK ?_)
 refine cJ (ι:=Nat) (fun k=>[(0,.ro (bS t) 0 t.length),(3,.ptr 0 0 0),(6,.aA 1 0 (kP t p k).length),(7,.aA 2 0 (kP t p k).length),(10,ag k)]) (fun k=>[some ⟨3,.box [.int .i64 p]⟩,some ⟨3,.ints .i64 (kP t p k)⟩,some ⟨3,.ints .i64 (qH t p k)⟩])
  (fun k=>k≤10) (fun k=>10-k) 0 ⟨aH,rfl,cf _⟩ ?_
 intro k ao;refine bl ?_;refine bB I (fun h=> ?_) (fun h=> ?_)
 ·have b5:k<10:=J;have ci:=Sm t 167 [.de (.box [.int .i64 p]) 0 0,.de (.box [ag k]) 0 0] (e7 p (k:Int)) rfl hlen (fun n _=>aeB n p k);have is:=RW t p k;have Gv:=ahK t p k;have uY:=aio t p k;have kk:=Sx t p k;generalize sg:kP t p (k+1)=NK at*;generalize ml:qH t p (k+1)=e4 at*;generalize kP t p k=b8 at*;generalize qH t p k=S at*;refine tv ?_;refine c7 [some ⟨3,.box [.int .i64 p]⟩,some ⟨3,.ints .i64 b8⟩,some ⟨3,.ints .i64 S⟩,some ⟨3,.box [ag k]⟩] I ?_;refine bP 8 (.ptr 3 0 0) I (aV.of_eq I) ?_;refine bP 14 (.fn 167 [.ptr 0 0 0,.ptr 3 0 0]) I (aV.of_eq I) ?_;refine HC rfl rfl rfl rfl ci (adO (o1:=⟨3,.box [.int .i64 p]⟩) (o2:=⟨3,.ints .i64 b8⟩) (vd:=⟨3,.ints .i64 S⟩) (Ay:=⟨3,.box [ag k]⟩) (IS _) lb lb (IS _)) ⟨trivial,⟨fun o aj=>by simp at aj;subst aj;exact fp,fun o aj=>by simp at aj;subst aj;exact fp,trivial⟩,trivial⟩ rfl rfl rfl ?_;cases iI:t.any (e7 p (k:Int))
  ·rw [iI,az a6] at is Gv;rw [ajD _ _ iI];refine fX ?_;refine b0 ?_;refine fC [some ⟨3,.box [.int .i64 p]⟩,some ⟨3,.ints .i64 b8⟩,some ⟨3,.ints .i64 S⟩] [some ⟨3,.box [ag k]⟩] [(0,.ro (bS t) 0 t.length),(3,.ptr 0 0 0),(6,.aA 1 0 b8.length),(7,.aA 2 0 b8.length),(9,.int .i64 (-1)),(10,ag k)] I aH ic (NZ (Sg _ _) (yH _ _ _) (yH _ _ _)) I (vf ?_);exact ca ⟨k+1,J,J,⟨I,I,by rw [sg,is];rfl,by rw [sg,is];rfl,I,trivial⟩,by rw [sg,ml,is,Gv]⟩
  ·rw [iI,aG rfl] at is Gv;have ha:=ahD iI;rw [SG _ _ iI];have hw:cD t p (k:Int)=(t.getD (t.findIdx (e7 p (k:Int))) aK).next.length:=rfl
   have ha:t.findIdx (e7 p (k:Int))<t.length:=ha;generalize cD t p (k:Int)=wd at*;generalize t.findIdx (e7 p (k:Int))=f at*;refine vf ?_;refine eN af ?_;refine bJ 0 I af af af I (bL I) I ?_;refine bJ 4 I af af af I (bL I) I ?_;refine bJ 5 I af af af I (bL I) I ?_;refine bJ 6 I af af af I (bL I) I ?_;refine bJ 7 I af af af I (j3 I I I I (by first|(simp only [c1,cA,gn];exact I)|exact I) J) I ?_;refine bJ 8 I af af af I (oW I I I I I I) I ?_;apply tH (H:=[some ⟨3,.box [.int .i64 p]⟩,some ⟨3,.ints .i64 (b8++[(k:Int)])⟩,some ⟨3,.ints .i64 (S++[(wd:Int)])⟩,some ⟨3,.box [ag k]⟩]) [(0,.ro (bS t) 0 t.length),(3,.ptr 0 0 0),(6,.aA 1 0 (b8.length+1)),(7,.aA 2 0 (b8.length+1)),(10,ag k)]
   ·intro gO;subst hw;refine ed 1 9 ?_ ?_
    ·refine bl ?_;refine ed 2 9 ?_ ?_
     ·refine bz ?_;refine ed 3 9 ?_ ?_
      ·refine dt I I I I I I I I I I I I dW I (by show (b8.length+1)*8≤_∧_;omega) (fun i j _ _=>rfl) c4 (bI ?_);refine bx 9 ?_;refine bm ?_;refine bJ 10 I af af af I (gC I I I) I ?_;refine bx 11 ?_;refine bz ?_;refine bx 12 ?_;refine dt I I I I I I I I I kk I I dW I (by show (b8.length+1)*8≤_∧_;omega) (fun i j _ _=>rfl) c4 (bI ?_);refine bJ 13 I af af af I (dr I) I ?_;refine bJ 14 I af af af I (dr I) I ?_;exact gO _ aH
      ·refine bm ?_;refine bJ 10 I af af af I (gC I I I) I ?_;refine ed 3 11 ?_ ?_
       ·refine dt I I I I I I I I I I I I dW I (by show (b8.length+1)*8≤_∧_;omega) (fun i j _ _=>rfl) c4 (bI ?_);refine bx 11 ?_;refine bz ?_;refine bx 12 ?_;refine dt I I I I I I I I I kk I I dW I (by show (b8.length+1)*8≤_∧_;omega) (fun i j _ _=>rfl) c4 (bI ?_);refine bJ 13 I af af af I (dr I) I ?_;refine bJ 14 I af af af I (dr I) I ?_;exact gO _ aH
       ·refine bz ?_;refine bx 3 ?_;refine dt I I I I I I I I I I I I dW I (by show (b8.length+1)*8≤_∧_;omega) (fun i j _ _=>rfl) c4 (bI ?_);refine bx 12 ?_;refine dt I I I I I I I I I kk I I dW I (by show (b8.length+1)*8≤_∧_;omega) (fun i j _ _=>rfl) c4 (bI ?_);refine bJ 13 I af af af I (dr I) I ?_;refine bJ 14 I af af af I (dr I) I ?_;exact gO _ aH
     ·refine bm ?_;refine bJ 10 I af af af I (gC I I I) I ?_;refine ed 2 11 ?_ ?_
      ·refine bz ?_;refine ed 3 11 ?_ ?_
       ·refine dt I I I I I I I I I I I I dW I (by show (b8.length+1)*8≤_∧_;omega) (fun i j _ _=>rfl) c4 (bI ?_);refine bx 11 ?_;refine bz ?_;refine bx 12 ?_;refine dt I I I I I I I I I kk I I dW I (by show (b8.length+1)*8≤_∧_;omega) (fun i j _ _=>rfl) c4 (bI ?_);refine bJ 13 I af af af I (dr I) I ?_;refine bJ 14 I af af af I (dr I) I ?_;exact gO _ aH
       ·refine bz ?_;refine bx 3 ?_;refine dt I I I I I I I I I I I I dW I (by show (b8.length+1)*8≤_∧_;omega) (fun i j _ _=>rfl) c4 (bI ?_);refine bx 12 ?_;refine dt I I I I I I I I I kk I I dW I (by show (b8.length+1)*8≤_∧_;omega) (fun i j _ _=>rfl) c4 (bI ?_);refine bJ 13 I af af af I (dr I) I ?_;refine bJ 14 I af af af I (dr I) I ?_;exact gO _ aH
      ·refine bz ?_;refine bx 2 ?_;refine bz ?_;refine bx 3 ?_;refine dt I I I I I I I I I I I I dW I (by show (b8.length+1)*8≤_∧_;omega) (fun i j _ _=>rfl) c4 (bI ?_);refine bx 12 ?_;refine dt I I I I I I I I I kk I I dW I (by show (b8.length+1)*8≤_∧_;omega) (fun i j _ _=>rfl) c4 (bI ?_);refine bJ 13 I af af af I (dr I) I ?_;refine bJ 14 I af af af I (dr I) I ?_;exact gO _ aH
    ·refine bm ?_;refine bJ 10 I af af af I (gC I I I) I ?_;refine ed 1 11 ?_ ?_
     ·refine bl ?_;refine ed 2 11 ?_ ?_
      ·refine bz ?_;refine ed 3 11 ?_ ?_
       ·refine dt I I I I I I I I I I I I dW I (by show (b8.length+1)*8≤_∧_;omega) (fun i j _ _=>rfl) c4 (bI ?_);refine bx 11 ?_;refine bz ?_;refine bx 12 ?_;refine dt I I I I I I I I I kk I I dW I (by show (b8.length+1)*8≤_∧_;omega) (fun i j _ _=>rfl) c4 (bI ?_);refine bJ 13 I af af af I (dr I) I ?_;refine bJ 14 I af af af I (dr I) I ?_;exact gO _ aH
       ·refine bz ?_;refine bx 3 ?_;refine dt I I I I I I I I I I I I dW I (by show (b8.length+1)*8≤_∧_;omega) (fun i j _ _=>rfl) c4 (bI ?_);refine bx 12 ?_;refine dt I I I I I I I I I kk I I dW I (by show (b8.length+1)*8≤_∧_;omega) (fun i j _ _=>rfl) c4 (bI ?_);refine bJ 13 I af af af I (dr I) I ?_;refine bJ 14 I af af af I (dr I) I ?_;exact gO _ aH
      ·refine bz ?_;refine bx 2 ?_;refine bz ?_;refine bx 3 ?_;refine dt I I I I I I I I I I I I dW I (by show (b8.length+1)*8≤_∧_;omega) (fun i j _ _=>rfl) c4 (bI ?_);refine bx 12 ?_;refine dt I I I I I I I I I kk I I dW I (by show (b8.length+1)*8≤_∧_;omega) (fun i j _ _=>rfl) c4 (bI ?_);refine bJ 13 I af af af I (dr I) I ?_;refine bJ 14 I af af af I (dr I) I ?_;exact gO _ aH
     ·refine bz ?_;refine bx 1 ?_;refine bl ?_;refine bx 2 ?_;refine bz ?_;refine bx 3 ?_;refine dt I I I I I I I I I I I I dW I (by show (b8.length+1)*8≤_∧_;omega) (fun i j _ _=>rfl) c4 (bI ?_);refine bx 12 ?_;refine dt I I I I I I I I I kk I I dW I (by show (b8.length+1)*8≤_∧_;omega) (fun i j _ _=>rfl) c4 (bI ?_);refine bJ 13 I af af af I (dr I) I ?_;refine bJ 14 I af af af I (dr I) I ?_;exact gO _ aH
   ·refine eM af ?_;repeat (refine ld ?_)
    refine b0 ?_;refine fC [some ⟨3,.box [.int .i64 p]⟩,some ⟨3,.ints .i64 (b8++[(k:Int)])⟩,some ⟨3,.ints .i64 (S++[(wd:Int)])⟩] [some ⟨3,.box [ag k]⟩] [(0,.ro (bS t) 0 t.length),(3,.ptr 0 0 0),(6,.aA 1 0 (b8.length+1)),(7,.aA 2 0 (b8.length+1)),(10,ag k)] I aH ic (NZ (Sg _ _) (yH _ _ _) (yH _ _ _)) I (bz ?_);have PZ:NK.length=b8.length+1:=by rw [is,c2];rfl
    exact ca ⟨k+1,J,J,⟨I,I,by rw [sg,PZ];rfl,by rw [sg,PZ];rfl,I,trivial⟩,by rw [sg,ml,is,Gv]⟩
 ·have ZP:k=10:=J;subst ZP;have kk:=Sx t p 10;refine kv ?_;refine mx 1 6 (kP t p 10).length [(7,.aA 2 0 (kP t p 10).length)] I lb I (by show (kP t p 10).length≤(kP t p 10).length;exact bR _) ⟨I,trivial⟩ ?_;refine mx 2 7 (kP t p 10).length [(6,.ro (.ints .i64 (kP t p 10)) 0 (kP t p 10).length)] I lb I (by show (kP t p 10).length≤(qH t p 10).length;omega) ⟨I,trivial⟩ ?_;refine eA 7 (.ro (.ints .i64 (qH t p 10)) 0 (qH t p 10).length) I (aV.of_eq (by rw [kk])) (bN ?_);exact bd ay I I
end Go.Proofs.YtmpnheilfejcpaaGreatDoor
namespace Go.Proofs.YtmpnheilfejcpaaGreatDoor
open Go.ai Go.ai.c8 Go.ai.cz Go.RowKit
attribute [local irreducible] ai ek bV cg hb
def BK (r:List dI):List al:=[.ro (.strs r) 0 r.length]
def gD (r:List Rat):List al:=[.ro (aQ r) 0 r.length]
abbrev nx (m:List (List dI)):Cells:=fl [] 1 BK m
abbrev cT (m:List (List Rat)):Cells:=fl [] 1 gD m
theorem agQ (r:List dI)(j h:Nat)(ae:j<1):((BK r).getD j .any).forget h=(BK r).getD j .any:=by obtain rfl:j=0:=J;rfl
theorem nY (r:List Rat)(j h:Nat)(ae:j<1):((gD r).getD j .any).forget h=(gD r).getD j .any:=by obtain rfl:j=0:=J;rfl
theorem agz (m:List (List dI)):eV (nx m):=by
 intro i j _ ae;obtain rfl:j=0:=by have ae:j<1:=ae;omega
 rfl
theorem agy (m:List (List Rat)):eV (cT m):=by
 intro i j _ ae;obtain rfl:j=0:=by have ae:j<1:=ae;omega
 rfl
theorem QR (q:List Rat)(j:Nat)(ae:j<1):(ft 1 1 [.ro (aQ q) 0 q.length]).at 0 j=(gD q).getD j .any:=by obtain rfl:j=0:=J;rfl
theorem QS (q:List dI)(j:Nat)(ae:j<1):(ft 1 1 [.ro (.strs q) 0 q.length]).at 0 j=(BK q).getD j .any:=by obtain rfl:j=0:=J;rfl
theorem abd (l:List dI)(hlen:l.length≤1000000)(ax: ∀s∈l,s.length≤9223372036854775807∧gv s=0):bD Tryz.prog 116 [.ro (.strs l) 0 l.length] (.ro (aQ (l.map b4)) 0 (l.map b4).length):=by
 have:=P0 l hlen ax
 rwa [cL]
theorem qS {m:Nat}{q:Rat}(h:D (9*m) q):fu m q:=by
 have key: ∀n:Nat,n<10^(9*m)→(aW n).length≤m:=fun n aF=>by refine nj (hE aF ?_);rw [Nat.pow_mul];exact vW a6 m
 exact ⟨key _ h.1,key _ h.2⟩
theorem R4 (l:List Rat)(hlen:l.length≤1000000)(ax: ∀q∈l,fu 100000 q)(gP:l.all e3=true):bD Tryz.prog 70 [.ro (aQ l) 0 l.length] (.cd [.ro (.strs (l.map cO)) 0 (l.map cO).length,.int .i64 0]):=by
 have:=ait l hlen ax gP
 rwa [cL]
theorem ajR (l:List Rat)(hlen:l.length≤1000000)(ax: ∀q∈l,fu 100000 q): ∃r:al,bD Tryz.prog 70 [.ro (aQ l) 0 l.length] (.cd [r,.int .i64 (vC l).2])∧aV r (.ro (.strs (vC l).1) 0 (vC l).1.length):=by
 cases h:l.all e3
 ·refine ⟨.nil,?_,?_⟩
  ·have:=Tf l hlen ax h;unfold vC;rw [h];exact this
  ·unfold vC;rw [h];exact aV.nil
 ·refine ⟨_,?_,aV.Gs⟩;have:=R4 l hlen ax h;unfold vC;rw [h];exact this
end Go.Proofs.YtmpnheilfejcpaaGreatDoor
