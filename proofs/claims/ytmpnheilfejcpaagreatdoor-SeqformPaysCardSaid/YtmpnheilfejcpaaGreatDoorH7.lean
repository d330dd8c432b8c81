import Derived.Test.YtmpnheilfejcpaaGreatDoorH6
set_option linter.unusedVariables false
set_option linter.unusedSimpArgs false
set_option maxRecDepth 100000
set_option maxHeartbeats 4000000
namespace Go.Proofs.YtmpnheilfejcpaaGreatDoor
open Go.aj Go.aj.dn Go.aj.cX Go.RowKit Go.aj.kD Go.aj.eP
attribute [local irreducible] aj eJ b1 ch hc
theorem WK (t:aK)(p:Int)(b2:jR t):bs Tryz.prog 120 [.ro (bV t) 0 t.length,.int .i64 p] (.int .i64 (rI t p)):=by
 have bb:=OZ t b2;refine cf Tryz.f120 fun c aq bI=> ?_;unfold rI at aq;refine bF ?_;refine aO I I I bb (bq ?_);refine bm I (fun U=> ?_) (fun U=> ?_)
 ·rw [aA U] at aq;refine c4 ?_;exact aX aq I I
 rw [ax U] at aq;refine bq ?_;refine gQ I I (fun g1=> ?_) (fun g1=> ?_)
 ·refine bq ?_;refine bm I (fun g2=> ?_) (fun g2=> ?_)
  ·rw [aA ⟨g1,g2⟩] at aq;refine c4 ?_;exact aX aq I I
  ·rw [ax (fun q=>g2 q.2)] at aq;refine bn ?_;exact aX aq I I
 ·rw [ax (fun q=>g1 q.1)] at aq;refine bc ?_;exact aX aq I I
theorem Vz (l:aK)(g:FuncId)(cw:List ak)(p:ep→Bool)(aw:cM.eM cw=true)(hlen:l.length≤9223372036854775807)(aF: ∀x∈l,bs Tryz.prog g ([.agg (kU x)]++cw) (.bool (p x))):
 bs Tryz.prog 161 [.ro (bV l) 0 l.length,.fn g cw] (.int .i64 (iz p l)):=by
 refine ch.qG (gl (P:=Tryz.prog) (fn:=Tryz.f161) I I af I (fun c aq bI=> ?_)) (fix:=fun _=>False) (fun _ h=>h) (by simp [cM.eM,cM,aw]) I;refine bq ?_;refine cp (ι:=Nat) (fun k=>[(0,.ro (bV l) 0 l.length),(1,.fn g cw),(7,ag l.length),(8,ag k)]) (fun _=>[])
  (fun k=>k≤l.length∧(l.take k).any p=false) (fun k=>l.length-k) 0 ⟨aE,rfl,b7 _,rfl⟩ ?_
 intro k ⟨an,ig⟩;refine bh ?_;refine bm I (fun h=> ?_) (fun h=> ?_)
 ·have bO:k<l.length:=J;have tt:=Cu p l aP k bO;refine bc ?_;refine bP 15 (.agg (kU (l.getD k aP))) I (aR.of_eq I) ?_;refine aO I I I (aF _ (iR aP bO)) (bF ?_);refine tV I (fun ab=> ?_) (fun ab=> ?_)
  ·refine bc ?_;refine aX aq I ?_;have:=qz p l k ig an;rw [tQ l aP k bO] at this;simp only [iz,ab,gf] at this;rw [this];simp [gS]
  ·refine bo ?_;refine b4 ⟨k+1,⟨J,by rw [tt,ig,ab];rfl⟩,J,aE,I⟩
 ·have bO:k=l.length:=J;subst bO;refine bo ?_;refine aX aq I ?_;have:=qz p l l.length ig an;rw [qj] at this;rw [this];rfl
theorem ajw (n:ep)(p i:Int):bs Tryz.prog 167 [.agg (kU n),.cK (.box [.int .i64 p]) 0 0,.cK (.box [.int .i64 i]) 0 0] (.bool (gG p i n)):=by
 obtain ⟨b8,pl,bM,bk,cx,cU⟩:=n;refine cf Tryz.f167 fun c aq bI=> ?_;unfold gG own at aq;unfold kU;simp only at aq⊢;refine bc ?_;refine gQ I I (fun g1=> ?_) (fun g1=> ?_)
 ·rw [fG g1,mM] at aq;refine fb ?_;refine gQ I I (fun g2=> ?_) (fun g2=> ?_)
  ·rw [fG g2,mM] at aq;refine fb ?_;exact aX aq I I
  ·rw [fT g2,uA] at aq;refine bc ?_;exact aX aq I I
 ·rw [fT g1,uA,uA] at aq;refine bc ?_;exact aX aq I I
theorem aiN {o1 o2 qC sB:bl}(U:eZ o1.c)(ab:eZ o2.c)(ay:eZ qC.c)(bf:eZ sB.c): ∀(h:Nat) (o:bl),([some o1,some o2,some qC,some sB]:aZ)[h]? =some (some o)→eZ o.c:=by
 intro h o ah
 match h,ah with
 |0,ah=>cases ah;exact U
 |1,ah=>cases ah;exact ab
 |2,ah=>cases ah;exact ay
 |3,ah=>cases ah;exact bf
 |_+4,ah=>simp at ah
theorem Q4 {n:Nat}{o1 o2 qC:bl}(U:fz n o1.c)(ab:fz n o2.c)(ay:fz n qC.c): ∀(h:Nat) (o:bl),([some o1,some o2,some qC]:aZ)[h]? =some (some o)→fz n o.c:=by
 intro h o ah
 match h,ah with
 |0,ah=>cases ah;exact U
 |1,ah=>cases ah;exact ab
 |2,ah=>cases ah;exact ay
 |_+3,ah=>simp at ah
theorem Ay (k:IntKind)(l:List Int)(n:Nat):fz n (.ints k l):=fun _ _ _ _=>rfl
theorem Vs (x:Int)(n:Nat):fz n (.box [.int .i64 x]):=by
 intro i j _ ae;obtain rfl:j=0:=by have ae:j<1:=ae;omega
 rfl
theorem Ks (t:aK)(p:Int)(hlen:t.length≤9223372036854775807):bs Tryz.prog 90 [.ro (bV t) 0 t.length,.int .i64 p] (.cn [.ro (.ints .i64 (cv t p)) 0 (cv t p).length,.ro (.ints .i64 (lq t p)) 0 (lq t p).length]):=by
 refine cf Tryz.f90 fun c aq bI=> ?_;rw [←anq,←anG] at aq;refine uY ?_;refine jF 6 ⟨3,.ints .i64 []⟩ I I ?_;refine jF 7 ⟨3,.ints .i64 []⟩ I I ?_;repeat (refine fD ?_)
 refine cp (ι:=Nat) (fun k=>[(0,.ro (bV t) 0 t.length),(3,.ptr 0 0 0),(6,.aC 1 0 (lM t p k).length),(7,.aC 2 0 (lM t p k).length),(10,ag k)]) (fun k=>[some ⟨3,.box [.int .i64 p]⟩,some ⟨3,.ints .i64 (lM t p k)⟩,some ⟨3,.ints .i64 (rN t p k)⟩])
  (fun k=>k≤10) (fun k=>10-k) 0 ⟨aE,rfl,b7 _⟩ ?_
 intro k an;refine bh ?_;refine bm I (fun h=> ?_) (fun h=> ?_)
 ·have bO:k<10:=J;have ci:=Vz t 167 [.cK (.box [.int .i64 p]) 0 0,.cK (.box [ag k]) 0 0] (gG p (k:Int)) rfl hlen (fun n _=>ajw n p k);have is:=U5 t p k;have IC:=amA t p k;have wo:=anr t p k;have j0:=VL t p k;generalize tr:lM t p (k+1)=QN at*;generalize mq:rN t p (k+1)=e5 at*;generalize lM t p k=b6 at*;generalize rN t p k=S at*;refine u0 ?_;refine dw [some ⟨3,.box [.int .i64 p]⟩,some ⟨3,.ints .i64 b6⟩,some ⟨3,.ints .i64 S⟩,some ⟨3,.box [ag k]⟩] I ?_;refine bP 8 (.ptr 3 0 0) I (aR.of_eq I) ?_;refine bP 14 (.fn 167 [.ptr 0 0 0,.ptr 3 0 0]) I (aR.of_eq I) ?_;refine FV rfl rfl rfl rfl ci (aiN (o1:=⟨3,.box [.int .i64 p]⟩) (o2:=⟨3,.ints .i64 b6⟩) (qC:=⟨3,.ints .i64 S⟩) (sB:=⟨3,.box [ag k]⟩) (G9 _) ma ma (G9 _)) ⟨trivial,⟨fun o ah=>by simp at ah;subst ah;exact fA,fun o ah=>by simp at ah;subst ah;exact fA,trivial⟩,trivial⟩ rfl rfl rfl ?_;cases ig:t.any (gG p (k:Int))
  ·rw [ig,ax aT] at is IC;rw [aoI _ _ ig];refine fu ?_;refine b0 ?_;refine fm [some ⟨3,.box [.int .i64 p]⟩,some ⟨3,.ints .i64 b6⟩,some ⟨3,.ints .i64 S⟩] [some ⟨3,.box [ag k]⟩] [(0,.ro (bV t) 0 t.length),(3,.ptr 0 0 0),(6,.aC 1 0 b6.length),(7,.aC 2 0 b6.length),(9,.int .i64 (-1)),(10,ag k)] I aE hp (Q4 (Vs _ _) (Ay _ _ _) (Ay _ _ _)) I (uX ?_);exact b4 ⟨k+1,J,J,⟨I,I,by rw [tr,is];rfl,by rw [tr,is];rfl,I,trivial⟩,by rw [tr,mq,is,IC]⟩
  ·rw [ig,aA rfl] at is IC;have gP:=anh ig;rw [Wq _ _ ig];have hw:cm t p (k:Int)=(t.getD (t.findIdx (gG p (k:Int))) aP).next.length:=rfl
   have gP:t.findIdx (gG p (k:Int))<t.length:=gP;generalize cm t p (k:Int)=wd at*;generalize t.findIdx (gG p (k:Int))=f at*;refine uX ?_;refine eg af ?_;refine bH 0 I af af af I (bE I) I ?_;refine bH 4 I af af af I (bE I) I ?_;refine bH 5 I af af af I (bE I) I ?_;refine bH 6 I af af af I (bE I) I ?_;refine bH 7 I af af af I (h8 I I I I (by first|(simp only [cT,cg,fE];exact I)|exact I) J) I ?_;refine bH 8 I af af af I (ln I I I I I I) I ?_;apply tN (H:=[some ⟨3,.box [.int .i64 p]⟩,some ⟨3,.ints .i64 (b6++[(k:Int)])⟩,some ⟨3,.ints .i64 (S++[(wd:Int)])⟩,some ⟨3,.box [ag k]⟩]) [(0,.ro (bV t) 0 t.length),(3,.ptr 0 0 0),(6,.aC 1 0 (b6.length+1)),(7,.aC 2 0 (b6.length+1)),(10,ag k)]
   ·intro hA;subst hw;refine dQ 1 9 ?_ ?_
    ·refine bh ?_;refine dQ 2 9 ?_ ?_
     ·refine bq ?_;refine dQ 3 9 ?_ ?_
      ·refine dy I I I I I I I I I I I I dT I (by show (b6.length+1)*8≤_∧_;omega) (fun i j _ _=>rfl) c3 (bn ?_);refine br 9 ?_;refine bc ?_;refine bH 10 I af af af I (fP I I I) I ?_;refine br 11 ?_;refine bq ?_;refine br 12 ?_;refine dy I I I I I I I I I j0 I I dT I (by show (b6.length+1)*8≤_∧_;omega) (fun i j _ _=>rfl) c3 (bn ?_);refine bH 13 I af af af I (du I) I ?_;refine bH 14 I af af af I (du I) I ?_;exact hA _ aE
      ·refine bc ?_;refine bH 10 I af af af I (fP I I I) I ?_;refine dQ 3 11 ?_ ?_
       ·refine dy I I I I I I I I I I I I dT I (by show (b6.length+1)*8≤_∧_;omega) (fun i j _ _=>rfl) c3 (bn ?_);refine br 11 ?_;refine bq ?_;refine br 12 ?_;refine dy I I I I I I I I I j0 I I dT I (by show (b6.length+1)*8≤_∧_;omega) (fun i j _ _=>rfl) c3 (bn ?_);refine bH 13 I af af af I (du I) I ?_;refine bH 14 I af af af I (du I) I ?_;exact hA _ aE
       ·refine bq ?_;refine br 3 ?_;refine dy I I I I I I I I I I I I dT I (by show (b6.length+1)*8≤_∧_;omega) (fun i j _ _=>rfl) c3 (bn ?_);refine br 12 ?_;refine dy I I I I I I I I I j0 I I dT I (by show (b6.length+1)*8≤_∧_;omega) (fun i j _ _=>rfl) c3 (bn ?_);refine bH 13 I af af af I (du I) I ?_;refine bH 14 I af af af I (du I) I ?_;exact hA _ aE
     ·refine bc ?_;refine bH 10 I af af af I (fP I I I) I ?_;refine dQ 2 11 ?_ ?_
      ·refine bq ?_;refine dQ 3 11 ?_ ?_
       ·refine dy I I I I I I I I I I I I dT I (by show (b6.length+1)*8≤_∧_;omega) (fun i j _ _=>rfl) c3 (bn ?_);refine br 11 ?_;refine bq ?_;refine br 12 ?_;refine dy I I I I I I I I I j0 I I dT I (by show (b6.length+1)*8≤_∧_;omega) (fun i j _ _=>rfl) c3 (bn ?_);refine bH 13 I af af af I (du I) I ?_;refine bH 14 I af af af I (du I) I ?_;exact hA _ aE
       ·refine bq ?_;refine br 3 ?_;refine dy I I I I I I I I I I I I dT I (by show (b6.length+1)*8≤_∧_;omega) (fun i j _ _=>rfl) c3 (bn ?_);refine br 12 ?_;refine dy I I I I I I I I I j0 I I dT I (by show (b6.length+1)*8≤_∧_;omega) (fun i j _ _=>rfl) c3 (bn ?_);refine bH 13 I af af af I (du I) I ?_;refine bH 14 I af af af I (du I) I ?_;exact hA _ aE
      ·refine bq ?_;refine br 2 ?_;refine bq ?_;refine br 3 ?_;refine dy I I I I I I I I I I I I dT I (by show (b6.length+1)*8≤_∧_;omega) (fun i j _ _=>rfl) c3 (bn ?_);refine br 12 ?_;refine dy I I I I I I I I I j0 I I dT I (by show (b6.length+1)*8≤_∧_;omega) (fun i j _ _=>rfl) c3 (bn ?_);refine bH 13 I af af af I (du I) I ?_;refine bH 14 I af af af I (du I) I ?_;exact hA _ aE
    ·refine bc ?_;refine bH 10 I af af af I (fP I I I) I ?_;refine dQ 1 11 ?_ ?_
     ·refine bh ?_;refine dQ 2 11 ?_ ?_
      ·refine bq ?_;refine dQ 3 11 ?_ ?_
       ·refine dy I I I I I I I I I I I I dT I (by show (b6.length+1)*8≤_∧_;omega) (fun i j _ _=>rfl) c3 (bn ?_);refine br 11 ?_;refine bq ?_;refine br 12 ?_;refine dy I I I I I I I I I j0 I I dT I (by show (b6.length+1)*8≤_∧_;omega) (fun i j _ _=>rfl) c3 (bn ?_);refine bH 13 I af af af I (du I) I ?_;refine bH 14 I af af af I (du I) I ?_;exact hA _ aE
       ·refine bq ?_;refine br 3 ?_;refine dy I I I I I I I I I I I I dT I (by show (b6.length+1)*8≤_∧_;omega) (fun i j _ _=>rfl) c3 (bn ?_);refine br 12 ?_;refine dy I I I I I I I I I j0 I I dT I (by show (b6.length+1)*8≤_∧_;omega) (fun i j _ _=>rfl) c3 (bn ?_);refine bH 13 I af af af I (du I) I ?_;refine bH 14 I af af af I (du I) I ?_;exact hA _ aE
      ·refine bq ?_;refine br 2 ?_;refine bq ?_;refine br 3 ?_;refine dy I I I I I I I I I I I I dT I (by show (b6.length+1)*8≤_∧_;omega) (fun i j _ _=>rfl) c3 (bn ?_);refine br 12 ?_;refine dy I I I I I I I I I j0 I I dT I (by show (b6.length+1)*8≤_∧_;omega) (fun i j _ _=>rfl) c3 (bn ?_);refine bH 13 I af af af I (du I) I ?_;refine bH 14 I af af af I (du I) I ?_;exact hA _ aE
     ·refine bq ?_;refine br 1 ?_;refine bh ?_;refine br 2 ?_;refine bq ?_;refine br 3 ?_;refine dy I I I I I I I I I I I I dT I (by show (b6.length+1)*8≤_∧_;omega) (fun i j _ _=>rfl) c3 (bn ?_);refine br 12 ?_;refine dy I I I I I I I I I j0 I I dT I (by show (b6.length+1)*8≤_∧_;omega) (fun i j _ _=>rfl) c3 (bn ?_);refine bH 13 I af af af I (du I) I ?_;refine bH 14 I af af af I (du I) I ?_;exact hA _ aE
   ·refine dX af ?_;repeat (refine j2 ?_)
    refine b0 ?_;refine fm [some ⟨3,.box [.int .i64 p]⟩,some ⟨3,.ints .i64 (b6++[(k:Int)])⟩,some ⟨3,.ints .i64 (S++[(wd:Int)])⟩] [some ⟨3,.box [ag k]⟩] [(0,.ro (bV t) 0 t.length),(3,.ptr 0 0 0),(6,.aC 1 0 (b6.length+1)),(7,.aC 2 0 (b6.length+1)),(10,ag k)] I aE hp (Q4 (Vs _ _) (Ay _ _ _) (Ay _ _ _)) I (bq ?_);have S5:QN.length=b6.length+1:=by rw [is,c8];rfl
    exact b4 ⟨k+1,J,J,⟨I,I,by rw [tr,S5];rfl,by rw [tr,S5];rfl,I,trivial⟩,by rw [tr,mq,is,IC]⟩
 ·have aeA:k=10:=J;subst aeA;have j0:=VL t p 10;refine hx ?_;refine kv 1 6 (lM t p 10).length [(7,.aC 2 0 (lM t p 10).length)] I ma I (by show (lM t p 10).length≤(lM t p 10).length;exact bT _) ⟨I,trivial⟩ ?_;refine kv 2 7 (lM t p 10).length [(6,.ro (.ints .i64 (lM t p 10)) 0 (lM t p 10).length)] I ma I (by show (lM t p 10).length≤(rN t p 10).length;omega) ⟨I,trivial⟩ ?_;refine ds 7 (.ro (.ints .i64 (rN t p 10)) 0 (rN t p 10).length) I (aR.of_eq (by rw [j0])) (bF ?_);exact aX aq I I
end Go.Proofs.YtmpnheilfejcpaaGreatDoor
namespace Go.Proofs.YtmpnheilfejcpaaGreatDoor
open Go.aj Go.aj.dn Go.aj.cX Go.RowKit
attribute [local irreducible] aj eJ b1 ch hc
def DC (r:List di):List ak:=[.ro (.strs r) 0 r.length]
def gF (r:List Rat):List ak:=[.ro (aN r) 0 r.length]
abbrev kY (m:List (List di)):Cells:=fi [] 1 DC m
abbrev cW (m:List (List Rat)):Cells:=fi [] 1 gF m
theorem ama (r:List di)(j h:Nat)(ae:j<1):((DC r).getD j .any).forget h=(DC r).getD j .any:=by obtain rfl:j=0:=J;rfl
theorem om (r:List Rat)(j h:Nat)(ae:j<1):((gF r).getD j .any).forget h=(gF r).getD j .any:=by obtain rfl:j=0:=J;rfl
theorem alx (m:List (List di)):eZ (kY m):=by
 intro i j _ ae;obtain rfl:j=0:=by have ae:j<1:=ae;omega
 rfl
theorem UC (m:List (List Rat)):eZ (cW m):=by
 intro i j _ ae;obtain rfl:j=0:=by have ae:j<1:=ae;omega
 rfl
theorem Iz (q:List Rat)(j:Nat)(ae:j<1):(fN 1 1 [.ro (aN q) 0 q.length]).at 0 j=(gF q).getD j .any:=by obtain rfl:j=0:=J;rfl
theorem TW (q:List di)(j:Nat)(ae:j<1):(fN 1 1 [.ro (.strs q) 0 q.length]).at 0 j=(DC q).getD j .any:=by obtain rfl:j=0:=J;rfl
theorem KD (v:List di)(hlen:v.length≤9223372036854775807)(av: ∀s∈v,s.length≤9223372036854775807):bs Tryz.prog 115 [.ro (.strs v) 0 v.length] (.int .i64 (kf v)):=by
 have U:=UY v hlen av;unfold kf;refine cf Tryz.f115 fun c aq bI=> ?_;refine bc ?_;refine bm I (fun h=> ?_) (fun h=> ?_)
 ·rw [aA J] at aq;refine c4 ?_;exact aX aq I I
 ·rw [ax J] at aq;refine bn ?_;refine aO I I I U (bF ?_);exact aX aq I I
theorem aoQ (m:List (List di))(hlen:m.length≤9223372036854775807)(ad: ∀r∈m,r.length≤9223372036854775807∧ ∀s∈r,s.length≤9223372036854775807):bs Tryz.prog 114 [.ro (kY m) 0 m.length] (.int .i64 (qX m)):=by
 unfold qX;refine cf Tryz.f114 fun c aq bI=> ?_;refine bc ?_;refine bm I (fun h=> ?_) (fun h=> ?_)
 ·rw [aA J] at aq;refine c4 ?_;exact aX aq I I
 rw [ax J] at aq;refine bq ?_;refine cp (ι:=Nat) (fun k=>[(0,.ro (kY m) 0 m.length),(9,.ro (kY m) 0 m.length),(10,ag m.length),(11,ag k)]) (fun _=>[])
  (fun k=>k≤m.length∧xj (nR m) m=xj (nR m) (m.drop k)) (fun k=>m.length-k) 0 ⟨aE,rfl,b7 _,by rw [sd]⟩ ?_
 intro k ⟨an,dJ⟩;refine bh ?_;refine bm I (fun h=> ?_) (fun h=> ?_)
 ·have bO:k<m.length:=J;have hm:0<m.length:=J;have hd:=CO (d:=[]) bO;have aw:=KD (m.getD k []) (ad _ (iR [] bO)).1 (ad _ (iR [] bO)).2;rw [hd,xj] at dJ;refine bc ?_;refine bm I (fun ab=> ?_) (fun ab=> ?_)
  ·have ay: ¬(m.getD k []).length=nR m:=fun e=>ab (by show (((m.getD k []).length:Nat):Int)=((nR m:Nat):Int);omega);rw [ax ay] at dJ;rw [dJ] at aq;refine bc ?_;exact aX aq I I
  ·have ay:(m.getD k []).length=nR m:=by have bf:(((m.getD k []).length:Nat):Int)=((nR m:Nat):Int):=e0.1 ab;omega
   rw [aA ay] at dJ;refine bn ?_;refine aO I I I aw (bq ?_);refine bm I (fun bL=> ?_) (fun bL=> ?_)
   ·rw [ax bL] at dJ;rw [dJ] at aq;refine bc ?_;exact aX aq I I
   ·rw [aA (e0.1 bL)] at dJ;refine bo ?_;exact b4 ⟨k+1,⟨J,dJ⟩,J,aE,I⟩
 ·have bO:k=m.length:=J;subst bO;rw [qj] at dJ;rw [dJ] at aq;refine bo ?_;exact aX aq I I
theorem AY (l:List di)(hlen:l.length≤1000000)(av: ∀s∈l,s.length≤9223372036854775807∧jO s=0):bs Tryz.prog 116 [.ro (.strs l) 0 l.length] (.ro (aN (l.map cE)) 0 (l.map cE).length):=by
 have:=S6 l hlen av
 rwa [cr]
theorem Tl (m:List (List di))(hlen:m.length≤1000000)(ad: ∀r∈m,r.length≤1000000∧ ∀s∈r,s.length≤9223372036854775807∧jO s=0):bs Tryz.prog 73 [.ro (kY m) 0 m.length] (.ro (cW (lf m)) 0 m.length):=by
 refine cf Tryz.f73 fun c aq bI=> ?_;refine fb ?_;refine jF 3 ⟨110,cW []⟩ I I ?_;repeat (refine fD ?_)
 refine cp (ι:=Nat) (fun k=>[(0,.ro (kY m) 0 m.length),(3,.aC 0 0 k),(6,.ro (kY m) 0 m.length),(7,ag m.length),(8,ag k)]) (fun k=>[some ⟨110,cW ((m.take k).map (fun r=>r.map cE))⟩])
  (fun k=>k≤m.length) (fun k=>m.length-k) 0 ⟨aE,rfl,b7 _⟩ ?_
 intro k an;refine bh ?_;refine bm I (fun h=> ?_) (fun h=> ?_)
 ·have bO:k<m.length:=J;obtain ⟨ei,ew⟩:=ad _ (iR [] bO);have aw:=AY (m.getD k []) ei ew;have jC:=yz (fun r:List di=>r.map cE) m [] k bO;have fL:((m.take k).map (fun r:List di=>r.map cE)).length=k:=by rw [cr,fc];omega
  generalize (m.take k).map (fun r:List di=>r.map cE)=gE at*;generalize (m.getD k []).map cE=q at*;refine bc ?_;refine aO I I I aw ?_;repeat (refine h9 rfl rfl rfl rfl rfl rfl rfl rfl rfl rfl rfl ?_)
  refine dy I I I I I I I I I fL I I dT I (by show (k+1)*24≤_∧_;omega) ?_ c3 ?_
  ·intro aG j aa ae;exact hF [] 1 gF om gE q _ (Iz _) 0 aG j aa ae
  refine fu ?_;refine b0 ?_;refine jG [some ⟨110,cW ((m.take (k+1)).map (fun r=>r.map cE))⟩] ?_ ?_
  ·rw [jC];exact aM.eqv (ha [] 1 gF gE q _ (Iz _)) aM.nil
  refine bq ?_;exact b4 ⟨k+1,J,J,aE,I⟩
 ·have bO:k=m.length:=J;subst bO;rw [e7];refine hx ?_;refine kv 0 3 m.length [] I (UC _) I (by show _≤(m.map _).length;rw [cr];exact bT _) trivial (bF ?_);exact aX aq I I
theorem hg {m:Nat}{q:Rat}(h:D (9*m) q):ga m q:=by
 have key: ∀n:Nat,n<10^(9*m)→(a6 n).length≤m:=fun n aI=>by refine oo (gL aI ?_);rw [Nat.pow_mul];exact xB aT m
 exact ⟨key _ h.1,key _ h.2⟩
theorem Qv (a b:List Rat)(j k:Nat)(a8: ∀q∈a,D j q)(al: ∀q∈b,D k q)(au:a.length≤b.length)(R3:b.length≤1000000)(dH:1+a.length*(j+k+1)≤900000):bs Tryz.prog 117 [.ro (aN a) 0 a.length,.ro (aN b) 0 b.length] (b9 (eC a b)):=by
 refine cf Tryz.f117 fun c aq bI=> ?_;refine bh ?_;refine aO I I I mz ?_;repeat (refine mc rfl rfl rfl ?_)
 refine dA (c':= .box (bW 0)) I I I I I I I (bq ?_);refine cp (ι:=Nat×Rat) (fun p=>[(0,.ro (aN a) 0 a.length),(1,.ro (aN b) 0 b.length),(4,.ptr 0 0 0),(5,.ptr 1 0 0),(9,.ro (aN a) 0 a.length),(10,ag a.length),(11,ag p.1)]) (fun p=>[some ⟨118,.box [.bool false,.nil,.nil]⟩,some ⟨118,.box (bW p.2)⟩])
  (fun p=>p.1≤a.length∧p.2=b3 (fun i=>a.getD i 0*b.getD i 0) p.1) (fun p=>a.length-p.1) (0,0) ⟨aE,rfl,b7 _,rfl⟩ ?_
 rintro ⟨i,acc⟩ ⟨aa,hl⟩;simp only at*;have SQ: ∀aG,aG<a.length→D (j+k) (a.getD aG 0*b.getD aG 0):=fun aG aS=>(a8 _ (iR 0 aS)).mul (al _ (iR 0 J));have acG:D (1+i*(j+k+1)) acc:=by rw [hl];exact QE (fun aG aS=>SQ aG J)
 have so:i*(j+k+1)≤a.length*(j+k+1):=er _ aa;refine bh ?_;refine bm I (fun h=> ?_) (fun h=> ?_)
 ·have aL:i<a.length:=J;have aen:i<b.length:=J;have hm:=SQ i aL;have ar:=a8 _ (iR 0 aL);have a1:=al _ (iR 0 aen);have afx:ga 100000 (a.getD i 0):=hg (ar.mono (by have:=Nat.le_mul_of_pos_left (j+k+1) (show 0<a.length by omega);omega));have afy:ga 100000 (b.getD i 0):=hg (a1.mono (by have:=Nat.le_mul_of_pos_left (j+k+1) (show 0<a.length by omega);omega));have afz:ga 100000 (a.getD i 0*b.getD i 0):=hg (hm.mono (by have:=Nat.le_mul_of_pos_left (j+k+1) (show 0<a.length by omega);omega));have afA:ga 100000 acc:=hg (acG.mono J);have EL:acc+a.getD i 0*b.getD i 0=b3 (fun i=>a.getD i 0*b.getD i 0) (i+1):=by rw [b3,hl]
  refine bc ?_;refine bP 15 (.agg (bW (a.getD i 0))) I (aR.of_eq I) ?_;have zz:b.getD i 0=b.getD i 0:=rfl;generalize aF:a.getD i 0=p at*;have g1:=J7 p;refine dA (c':= .box (bW p)) I I I I I I I (bc ?_);refine aO I I I g1 (bq ?_);have bw: ∀x:Rat,kr x.num=0→x=0:=fun x ar=>ajN.1 ar;generalize aB:b.getD i 0=q at*;have g2:=J7 q;have g3:=AT p q afx afy;have g4:=Dk acc (p*q) afA afz;have ach:bs Tryz.prog 99 [b9 p,b9 (b.getD i 0)] (b9 (p*q)):=by rw [aB];exact g3
  refine gQ I I (fun U=> ?_) (fun U=> ?_)
  ·refine bc ?_;refine bP 23 (.agg (bW q)) I (aR.of_eq (by rw [←aB];rfl)) ?_;refine aO I I I g2 (bq ?_);refine bm I (fun ab=> ?_) (fun ab=> ?_)
   ·skip
    refine eg af ?_;refine eK (fuel:=1) [0,1,2,3,4,5,6,7] [(0,.ro (aN a) 0 a.length),(1,.ro (aN b) 0 b.length),(5,.ptr 1 0 0),(7,.ptr 2 0 0),(6,ag i),(4,.ptr 0 0 0),(9,.ro (aN a) 0 a.length),(10,ag a.length),(11,ag i)] aE af aT I I ?_;refine cY ?_;refine dW I I I I I ach ?_;refine dW I I I I I g4 ?_;refine eI ?_;refine br 8 ?_;skip
    unfold b9;refine dA (c':= .box (bW (acc+p*q))) I I I I I I I (bn ?_);refine dX af ?_;repeat (refine j2 ?_)
    refine b0 ?_;refine jG ([some ⟨118,.box [.bool false,.nil,.nil]⟩,some ⟨118,.box (bW (acc+p*q))⟩]++[none]) ?_ ?_
    ·exact aM.eqv (cu.refl _) (aM.eqv (cu.refl _) (aM.drop aM.nil))
    refine vn (H1:=[some ⟨118,.box [.bool false,.nil,.nil]⟩,some ⟨118,.box (bW (acc+p*q))⟩]) I c3 (bq ?_);exact b4 ⟨(i+1,(acc+p*q)),⟨by simp only;omega,EL⟩,by simp only;omega,aE,I⟩
   ·have jW:q=0:=bw q (e0.1 ab);rw [jW,uv,je] at EL;refine fu ?_;refine b0 ?_;refine jG ([some ⟨118,.box [.bool false,.nil,.nil]⟩,some ⟨118,.box (bW acc)⟩]++[none]) ?_ ?_
    ·exact aM.eqv (cu.refl _) (aM.eqv (cu.refl _) (aM.drop aM.nil))
    refine vn (H1:=[some ⟨118,.box [.bool false,.nil,.nil]⟩,some ⟨118,.box (bW acc)⟩]) I c3 (bq ?_);exact b4 ⟨(i+1,acc),⟨by simp only;omega,EL⟩,by simp only;omega,aE,I⟩
  ·have jW:p=0:=bw p (e0.1 U);rw [jW,nq,je] at EL;repeat (first|refine cR ?_|refine sI rfl rfl rfl ?_|refine ao (lO rfl rfl) ?_)
   refine b0 ?_;refine jG ([some ⟨118,.box [.bool false,.nil,.nil]⟩,some ⟨118,.box (bW acc)⟩]++[none]) ?_ ?_
   ·exact aM.eqv (cu.refl _) (aM.eqv (cu.refl _) (aM.drop aM.nil))
   refine vn (H1:=[some ⟨118,.box [.bool false,.nil,.nil]⟩,some ⟨118,.box (bW acc)⟩]) I c3 (bo ?_);exact b4 ⟨(i+1,acc),⟨by simp only;omega,EL⟩,by simp only;omega,aE,I⟩
 ·have aL:i=a.length:=J;subst aL;have e:eC a b=acc:=hl.symm;rw [e] at aq;refine bc ?_;refine dA (c':= .box (bW acc)) I I I I I I I (bF ?_);exact aX aq I I
theorem U8 (l:List Rat)(hlen:l.length≤1000000)(av: ∀q∈l,ga 100000 q)(gO:l.all eS=true):bs Tryz.prog 70 [.ro (aN l) 0 l.length] (.cn [.ro (.strs (l.map dm)) 0 (l.map dm).length,.int .i64 0]):=by
 have:=anw l hlen av gO
 rwa [cr]
theorem agG {k:Nat}{q:Rat}(U:(Lib.decDigits q.num.natAbs).length≤k)(ab:(Lib.decDigits q.den).length≤k):D k q:=
 ⟨gL (yE _) (fF aT U),gL (yE _) (fF aT ab)⟩
theorem Gn {r:List di}(h: ∀s∈r,jO s=0): ∀q∈r.map cE,D 2000 q:=by intro q aB;obtain ⟨s,av,rfl⟩:=cO.1 aB;have aQ:=(kg.self (h s av)).fit;unfold eS at aQ;rw [eb,eL,eL] at aQ;exact agG aQ.1 aQ.2
def IG (p:List di×Int):ak:= .cn [.ro (.strs p.1) 0 p.1.length,.int .i64 p.2]
theorem FI (l:List Rat)(hlen:l.length≤1000000)(av: ∀q∈l,ga 100000 q): ∃r:ak,bs Tryz.prog 70 [.ro (aN l) 0 l.length] (.cn [r,.int .i64 (lp l).2])∧aR r (.ro (.strs (lp l).1) 0 (lp l).1.length):=by
 cases h:l.all eS
 ·refine ⟨.nil,?_,?_⟩
  ·have:=WC l hlen av h;unfold lp;rw [h];exact this
  ·unfold lp;rw [h];exact aR.nil
 ·refine ⟨_,?_,aR.uW⟩;have:=U8 l hlen av h;unfold lp;rw [h];exact this
theorem aoP (m:List (List di))(v:List di)(xU:m.length≤9223372036854775807)(BW:v.length≤9223372036854775807)(zZ: ∀r∈m,r.length≤9223372036854775807∧ ∀s∈r,s.length≤9223372036854775807)(EU: ∀s∈v,s.length≤9223372036854775807):bs Tryz.prog 33 [.ro (kY m) 0 m.length,.ro (.strs v) 0 v.length] (IG (rM m v)):=by
 have gW:=aoQ m xU zZ;have zy:=KD v BW EU;refine cf Tryz.f33 fun c aq bI=> ?_;refine bF ?_;refine aO I I I gW (bq ?_);refine bm I (fun U=> ?_) (fun U=> ?_)
 ·have e:rM m v=([],qX m):=by unfold rM;rw [aA U]
  rw [e] at aq;refine cJ ?_;refine ds 4 (.ro (.strs []) 0 0) I aR.nil (c4 ?_);exact aX aq I I
 have em:=e0.1 U;refine bn ?_;refine aO I I I zy (bq ?_);refine bm I (fun ab=> ?_) (fun ab=> ?_)
 ·have e:rM m v=([],kf v):=by unfold rM;rw [ax U,aA ab]
  rw [e] at aq;refine cJ ?_;refine ds 4 (.ro (.strs []) 0 0) I aR.nil (c4 ?_);exact aX aq I I
 have bG:=e0.1 ab;obtain ⟨yb,G5⟩:=CX bG;have E3:=Wx em;have sm:=E3.sp;have bad:(m≠[]∧nR m≠v.length)→rM m v=([],3):=fun h=>by unfold rM;rw [ax U,ax ab,aA h]
 have RD: ¬(m≠[]∧nR m≠v.length)→rM m v=lp (rL (lf m) (v.map cE)):=fun h=>by unfold rM;rw [ax U,ax ab,ax h]
 have rest: ∀(c2: ¬(m≠[]∧nR m≠v.length)),∀r∈lf m,r.length=v.length∧ ∀q∈r,D 2000 q:=fun c2 r ad=>by
  obtain ⟨x,ar,rfl⟩:=cO.1 ad;refine ⟨?_,Gn (E3.ok x ar)⟩;have cd:m≠[]:=by rintro rfl;simp at ar
  rw [cr,E3.lA x ar];exact e0.1 (fun q=>c2 ⟨cd,q⟩)
 refine bc ?_;refine gQ I I (fun ay=> ?_) (fun ay=> ?_)
 ·have cd:m≠[]:=by rintro rfl;exact absurd ay bX
  have tx:0<m.length:=J;refine bc ?_;refine bm I (fun bf=> ?_) (fun bf=> ?_)
  ·have e:=bad ⟨cd,fun q=>bf (by show (((m.getD 0 []).length:Nat):Int)=_;exact congrArg (fun n:Nat=>(n:Int)) q)⟩;rw [e] at aq;refine cJ ?_;refine ds 4 (.ro (.strs []) 0 0) I aR.nil (c4 ?_);exact aX aq I I
  have c2: ¬(m≠[]∧nR m≠v.length):=fun q=>q.2 (by
   have:(((m.getD 0 []).length:Nat):Int)=(v.length:Nat):=e0.1 bf;show (m.getD 0 []).length=_;omega)
  have qm:=RD c2;have zL:=rest c2;have M8:=Tl m J (fun r ad=>⟨by have:=(zL (r.map cE) (cO.2 ⟨r,ad,rfl⟩)).1;rw [cr] at this;omega,fun s av=>⟨(zZ r ad).2 s av,E3.ok r ad s av⟩⟩);have M9:=AY v J (fun s av=>⟨EU s av,rB G5 s av⟩);have sl: ∀q∈v.map cE,D 2000 q:=Gn (fun s av=>rB G5 s av);have tB:(v.map cE).length=v.length:=cr _;have aeL:(lf m).length=m.length:=YW m;have En:rL (lf m) (v.map cE)=(lf m).map (fun row=>eC row (v.map cE)):=rfl;rw [En] at qm;rw [qm] at aq;generalize lf m=A at*;generalize v.map cE=X at*;refine bn ?_;refine aO I I I M9 (bF ?_);refine aO I I I M8 (fb ?_);refine jF 8 ⟨118,aN []⟩ I I ?_;repeat (refine fD ?_)
  refine cp (ι:=Nat) (fun i=>[(8,.aC 0 0 i),(9,.ro (aN X) 0 X.length),(37,.ro (cW A) 0 m.length),(38,ag m.length),(39,ag i)]) (fun i=>[some ⟨118,aN ((A.take i).map (fun row=>eC row X))⟩])
   (fun i=>i≤m.length) (fun i=>m.length-i) 0 ⟨aE,rfl,b7 _⟩ ?_
  intro i aa;refine bh ?_;refine bm I (fun bf=> ?_) (fun bf=> ?_)
  ·have aL:i<A.length:=J;obtain ⟨yi,rd⟩:=zL _ (iR [] aL);have LY:=Qv (A.getD i []) X 2000 2000 rd sl J J (by rw [yi];have:=er (2000+2000+1) yb;omega);have jC:=yz (fun row:List Rat=>eC row X) A [] i aL;have fL:((A.take i).map (fun row:List Rat=>eC row X)).length=i:=by rw [cr,fc];omega
   generalize (A.take i).map (fun row:List Rat=>eC row X)=gE at*;generalize eC (A.getD i []) X=q at*;refine bc ?_;refine aO I I I LY ?_;unfold b9;repeat (refine h9 rfl rfl rfl rfl rfl rfl rfl rfl rfl rfl rfl ?_)
   refine dy I I I I I I I I I fL I I dT I (by show (i+1)*56≤_∧_;omega) ?_ c3 ?_
   ·intro aG a7 aa bd;exact hF 0 3 bW qL gE q _ (j8 _) 0 aG a7 aa bd
   refine fu ?_;refine b0 ?_;refine jG [some ⟨118,aN ((A.take (i+1)).map (fun row=>eC row X))⟩] ?_ ?_
   ·rw [jC];exact aM.eqv (ha 0 3 bW gE q _ (j8 _)) aM.nil
   refine bq ?_;exact b4 ⟨i+1,J,J,aE,I⟩
  ·have aL:i=A.length:=J;subst aL;rw [e7];have fL:(A.map (fun row:List Rat=>eC row X)).length=A.length:=cr _;obtain ⟨r,xP,z1⟩:=FI (A.map (fun row:List Rat=>eC row X)) J (fun q aB=>by
    obtain ⟨x,ar,rfl⟩:=cO.1 aB;obtain ⟨yi,rd⟩:=zL x ar;have bL:=Qu rd sl J;refine hg (bL.mono ?_);rw [yi];have:=er (2000+2000+1) yb;omega)
   generalize A.map (fun row:List Rat=>eC row X)=R at*;refine hx ?_;refine kv 0 8 A.length [] I (mx _) I (by show _≤R.length;omega) trivial ?_;refine ds 8 (.ro (aN R) 0 R.length) I (aR.of_eq (by rw [fL])) (bF ?_);refine aO I I I xP (oi ?_);refine ds 4 (.ro (.strs (lp R).1) 0 (lp R).1.length) I z1 ?_;repeat (refine mb ?_)
   exact aX aq I I
 ·have c2: ¬(m≠[]∧nR m≠v.length):=fun q=>by have:m.length=0:=J;exact q.1 (uu.1 this)
  have qm:=RD c2;have zL:=rest c2;have M8:=Tl m J (fun r ad=>⟨by have:=(zL (r.map cE) (cO.2 ⟨r,ad,rfl⟩)).1;rw [cr] at this;omega,fun s av=>⟨(zZ r ad).2 s av,E3.ok r ad s av⟩⟩);have M9:=AY v J (fun s av=>⟨EU s av,rB G5 s av⟩);have sl: ∀q∈v.map cE,D 2000 q:=Gn (fun s av=>rB G5 s av);have tB:(v.map cE).length=v.length:=cr _;have aeL:(lf m).length=m.length:=YW m;have En:rL (lf m) (v.map cE)=(lf m).map (fun row=>eC row (v.map cE)):=rfl;rw [En] at qm;rw [qm] at aq;generalize lf m=A at*;generalize v.map cE=X at*;refine bc ?_;refine aO I I I M9 (bF ?_);refine aO I I I M8 (fb ?_);refine jF 8 ⟨118,aN []⟩ I I ?_;repeat (refine fD ?_)
  refine cp (ι:=Nat) (fun i=>[(8,.aC 0 0 i),(9,.ro (aN X) 0 X.length),(37,.ro (cW A) 0 m.length),(38,ag m.length),(39,ag i)]) (fun i=>[some ⟨118,aN ((A.take i).map (fun row=>eC row X))⟩])
   (fun i=>i≤m.length) (fun i=>m.length-i) 0 ⟨aE,rfl,b7 _⟩ ?_
  intro i aa;refine bh ?_;refine bm I (fun bf=> ?_) (fun bf=> ?_)
  ·have aL:i<A.length:=J;obtain ⟨yi,rd⟩:=zL _ (iR [] aL);have LY:=Qv (A.getD i []) X 2000 2000 rd sl J J (by rw [yi];have:=er (2000+2000+1) yb;omega);have jC:=yz (fun row:List Rat=>eC row X) A [] i aL;have fL:((A.take i).map (fun row:List Rat=>eC row X)).length=i:=by rw [cr,fc];omega
   generalize (A.take i).map (fun row:List Rat=>eC row X)=gE at*;generalize eC (A.getD i []) X=q at*;refine bc ?_;refine aO I I I LY ?_;unfold b9;repeat (refine h9 rfl rfl rfl rfl rfl rfl rfl rfl rfl rfl rfl ?_)
   refine dy I I I I I I I I I fL I I dT I (by show (i+1)*56≤_∧_;omega) ?_ c3 ?_
   ·intro aG a7 aa bd;exact hF 0 3 bW qL gE q _ (j8 _) 0 aG a7 aa bd
   refine fu ?_;refine b0 ?_;refine jG [some ⟨118,aN ((A.take (i+1)).map (fun row=>eC row X))⟩] ?_ ?_
   ·rw [jC];exact aM.eqv (ha 0 3 bW gE q _ (j8 _)) aM.nil
   refine bq ?_;exact b4 ⟨i+1,J,J,aE,I⟩
  ·have aL:i=A.length:=J;subst aL;rw [e7];have fL:(A.map (fun row:List Rat=>eC row X)).length=A.length:=cr _;obtain ⟨r,xP,z1⟩:=FI (A.map (fun row:List Rat=>eC row X)) J (fun q aB=>by
    obtain ⟨x,ar,rfl⟩:=cO.1 aB;obtain ⟨yi,rd⟩:=zL x ar;have bL:=Qu rd sl J;refine hg (bL.mono ?_);rw [yi];have:=er (2000+2000+1) yb;omega)
   generalize A.map (fun row:List Rat=>eC row X)=R at*;refine hx ?_;refine kv 0 8 A.length [] I (mx _) I (by show _≤R.length;omega) trivial ?_;refine ds 8 (.ro (aN R) 0 R.length) I (aR.of_eq (by rw [fL])) (bF ?_);refine aO I I I xP (oi ?_);refine ds 4 (.ro (.strs (lp R).1) 0 (lp R).1.length) I z1 ?_;repeat (refine mb ?_)
   exact aX aq I I
end Go.Proofs.YtmpnheilfejcpaaGreatDoor
namespace Go.Proofs.YtmpnheilfejcpaaGreatDoor
open Go.aj Go.aj.dn Go.aj.cX Go.RowKit Go.aj.kD Go.aj.eP
attribute [local irreducible] aj eJ b1 ch hc
theorem abS (a b:List (List UInt8))(hlen:a.length≤9223372036854775807)(wm:b.length≤9223372036854775807):bs Tryz.prog 57 [.ro (.strs a) 0 a.length,.ro (.strs b) 0 b.length] (.bool (decide (a=b))):=by
 refine cf Tryz.f57 fun c aq bI=> ?_;refine bq ?_;refine bm I (fun h=> ?_) (fun h=> ?_)
 ·refine c4 ?_;refine aX aq I ?_;have: ¬a=b:=by rintro rfl;exact h rfl
  simp [gS,this]
 have nv:a.length=b.length:=J;refine bq ?_;refine cp (ι:=Nat) (fun k=>[(0,.ro (.strs a) 0 a.length),(1,.ro (.strs b) 0 b.length),(12,ag a.length),(13,ag k)]) (fun _=>[])
  (fun k=>k≤a.length∧a.take k=b.take k) (fun k=>a.length-k) 0 ⟨aE,rfl,b7 _,rfl⟩ ?_
 intro k ⟨an,heq⟩;refine bh ?_;refine bm I (fun ab=> ?_) (fun ab=> ?_)
 ·have bO:k<a.length:=J;have a8:=pT a [] k bO;have al:=pT b [] k J;refine bn ?_;refine Ax af af I (u0 ?_);refine bm I (fun ay=> ?_) (fun ay=> ?_)
  ·refine bc ?_;refine aX aq I ?_;have: ¬a=b:=by rintro rfl;exact ay rfl
   simp [gS,this]
  ·refine bo ?_;have bf:a.getD k []=b.getD k []:=e0.1 ay;exact b4 ⟨k+1,⟨J,by rw [a8,al,heq,bf]⟩,J,aE,I⟩
 ·have bO:k=a.length:=J;subst bO;rw [e7,nv,e7] at heq;refine bo ?_;refine aX aq I ?_;simp [gS,heq]
theorem abQ (a b:List (List di))(BU:a.length≤9223372036854775807)(wm:b.length≤9223372036854775807)(B4: ∀r∈a,r.length≤9223372036854775807)(B5: ∀r∈b,r.length≤9223372036854775807)(g:FuncId)(c2: ∀x∈a,∀y∈b,bs Tryz.prog g [.ro (.strs x) 0 x.length,.ro (.strs y) 0 y.length] (.bool (decide (x=y)))):bs Tryz.prog 155 [.ro (kY a) 0 a.length,.ro (kY b) 0 b.length,.fn g []] (.bool (decide (a=b))):=by
 refine cf Tryz.f155 fun c aq bI=> ?_;refine bq ?_;refine bm I (fun h=> ?_) (fun h=> ?_)
 ·refine c4 ?_;refine aX aq I ?_;have: ¬a=b:=by rintro rfl;exact h rfl
  simp [gS,this]
 have nv:a.length=b.length:=J;refine bq ?_;refine cp (ι:=Nat) (fun k=>[(0,.ro (kY a) 0 a.length),(1,.ro (kY b) 0 b.length),(2,.fn g []),(15,.ro (kY a) 0 a.length),(16,ag a.length),(17,ag k)]) (fun _=>[])
  (fun k=>k≤a.length∧a.take k=b.take k) (fun k=>a.length-k) 0 ⟨aE,rfl,b7 _,rfl⟩ ?_
 intro k ⟨an,heq⟩;refine bh ?_;refine bm I (fun ab=> ?_) (fun ab=> ?_)
 ·have bO:k<a.length:=J;have a8:=pT a [] k bO;have al:=pT b [] k J;have aw:=c2 _ (iR [] bO) _ (iR [] (show k<b.length by omega));refine bc ?_;refine aO I I I aw (bo ?_);cases ay:decide (a.getD k []=b.getD k []) with
  |false=>
   refine bc ?_;refine aX aq I ?_;have bf:=of_decide_eq_false ay;have: ¬a=b:=by rintro rfl;exact bf rfl
   simp [gS,this]
  |true=>
   refine bo ?_;have bf:=DR ay;exact b4 ⟨k+1,⟨J,by rw [a8,al,heq,bf]⟩,J,aE,I⟩
 ·have bO:k=a.length:=J;subst bO;rw [e7,nv,e7] at heq;refine bo ?_;refine aX aq I ?_;simp [gS,heq]
theorem aiZ (a b:List di)(BU:a.length≤9223372036854775807)(wm:b.length≤9223372036854775807):bs Tryz.prog 156 [.ro (.strs a) 0 a.length,.ro (.strs b) 0 b.length] (.bool (decide (a=b))):=by have he:=abS a b BU wm;refine cf Tryz.f156 fun c aq bI=> ?_;refine bF ?_;refine aO I I I he (bF ?_);exact aX aq I I
theorem aja (a b:List (List di))(BU:a.length≤9223372036854775807)(wm:b.length≤9223372036854775807)(B4: ∀r∈a,r.length≤9223372036854775807)(B5: ∀r∈b,r.length≤9223372036854775807):bs Tryz.prog 80 [.ro (kY a) 0 a.length,.ro (kY b) 0 b.length] (.bool (decide (a=b))):=by have he:=abQ a b BU wm B4 B5 156 (fun x ar y a1=>aiZ x y (B4 x ar) (B5 y a1));refine cf Tryz.f80 fun c aq bI=> ?_;refine bF ?_;refine aO I I I he (bF ?_);exact aX aq I I
theorem abu (a b:List di)(BU:a.length≤9223372036854775807)(wm:b.length≤9223372036854775807)(B4: ∀s∈a,s.length≤9223372036854775807)(B5: ∀s∈b,s.length≤9223372036854775807):bs Tryz.prog 34 [.ro (.strs a) 0 a.length,.ro (.strs b) 0 b.length] (DG (r1 a b)):=by
 have ql:=KD a BU B4;have Lc:=KD b wm B5;refine cf Tryz.f34 fun c aq bI=> ?_;refine oi ?_;refine cp (ι:=Nat) (fun k=>[(0,.ro (.strs a) 0 a.length),(1,.ro (.strs b) 0 b.length),(4,.str []),(5,.int .i64 0),(11,.agg [.ro (.strs a) 0 a.length,.ro (.strs b) 0 b.length]),(12,ag k)]) (fun _=>[])
  (fun k=>k≤2∧(1≤k→kf a=0)∧(2≤k→kf b=0)) (fun k=>2-k) 0 ⟨aE,rfl,b7 _,fun h=>absurd h aT,fun h=>absurd h aT⟩ ?_
 rintro k ⟨an,hl,ck⟩;refine bh ?_;refine bm I (fun h=> ?_) (fun h=> ?_)
 ·have Lo:k=0∨k=1:=J;rcases Lo with rfl|rfl
  ·refine bn ?_;refine ao (PJ I I I I I I I bX) (bF ?_);refine aO I I I ql (bq ?_);refine bm I (fun ab=> ?_) (fun ab=> ?_)
   ·have e:r1 a b=([],kf a):=by unfold r1;rw [aA ab]
    rw [e] at aq;refine bc ?_;exact aX aq I I
   ·refine bo ?_;exact b4 ⟨1,⟨J,fun _=>e0.1 ab,fun h=>absurd h aT⟩,J,aE,I⟩
  ·have lB:=hl (bT _);refine bn ?_;refine ao (PJ I I I I I I I bX) (bF ?_);refine aO I I I Lc (bq ?_);refine bm I (fun ab=> ?_) (fun ab=> ?_)
   ·have e:r1 a b=([],kf b):=by unfold r1;rw [ax (fun q=>q lB),aA ab]
    rw [e] at aq;refine bc ?_;exact aX aq I I
   ·refine bo ?_;exact b4 ⟨2,⟨J,fun _=>lB,fun _=>e0.1 ab⟩,J,aE,I⟩
 obtain rfl:k=2:=J;have lB:=hl aT;have lC:=ck aT;have IF:=CX lB;have akQ:=CX lC;refine bo ?_;refine bm I (fun ab=> ?_) (fun ab=> ?_)
 ·have ay: ¬a.length=b.length:=fun e=>ab (by rw [e]);have e:r1 a b=([],3):=by unfold r1;rw [ax (fun q=>q lB),ax (fun q=>q lC),ax ay]
  rw [e] at aq;refine c4 ?_;exact aX aq I I
 have hw:a.length=b.length:=by have:=e0.1 ab;omega
 have Tx: ∀s∈a,jO s=0:=fun s av=>rB IF.2 s av;have Ty: ∀s∈b,jO s=0:=fun s av=>rB akQ.2 s av;have i1:=AY a J (fun s av=>⟨B4 s av,Tx s av⟩);have i2:=AY b J (fun s av=>⟨B5 s av,Ty s av⟩);have d1:=Gn Tx;have d2:=Gn Ty;have Ii:(a.map cE).length=a.length:=cr _;have Th:(b.map cE).length=b.length:=cr _;have hd:=Qv (a.map cE) (b.map cE) 2000 2000 d1 d2 J J (by rw [Ii];omega);have bw:ga 100000 (eC (a.map cE) (b.map cE)):=hg ((Qu d1 d2 J).mono (by rw [Ii];omega));have ah:=QB _ bw;have e:r1 a b=qb (eC (a.map cE) (b.map cE)):=by unfold r1;rw [ax (fun q=>q lB),ax (fun q=>q lC),aA hw]
 rw [e] at aq;refine bn ?_;refine aO I I I i1 ?_;repeat (refine ao (bE rfl) ?_)
 refine aO I I I i2 ?_;skip
 refine aO I I I hd ?_;skip
 refine aO I I I ah (c4 ?_);exact aX aq I I
def AW (x:Int×Int):List ak:=[.int .i64 x.1,.int .i64 x.2]
abbrev kV (l:oy):Cells:=fi (0,0) 2 AW l
theorem alJ (q:Rat)(j:Nat):cM ((bW q).getD j .any)=true:=by
 match j with
 |0=>rfl
 |1=>rfl
 |2=>rfl
 |n+3=>rfl
def nK:Option Rat→List ak
 |some q=>bW q
 |none=>[.bool false,.nil,.nil]
abbrev jd (l:List (Option Rat)):Cells:=fi none 3 nK l
theorem Zr (n:Nat):cu (jE n [.bool false,.nil,.nil]) (jd (List.replicate n none)):=by
 refine ⟨by simp [fi,Cells.len,jE],I,fun i j aa ae=> ?_⟩;have aa:i<n:=by simpa [Cells.len,jE] using aa
 show (nK ((List.replicate n (none:Option Rat)).getD i none)).getD j .any=_;rw [eo none (by simpa using aa),Bt];rfl
theorem AJ {α:Type}(d:α)(n:Nat)(e:α→List ak)(zs:List α)(k:Nat)(a:α)(an:k<zs.length)(aG a7:Nat)(aL:aG<zs.length)(bd:a7<n):(fi d n e (zs.set k a)).at aG a7=if aG=k then (e a).getD a7 .any else (fi d n e zs).at aG a7:=by
 show (e ((zs.set k a).getD aG d)).getD a7 .any=if aG=k then (e a).getD a7 .any else (e (zs.getD aG d)).getD a7 .any
 rw [Go.aj.dZ.fO];by_cases h:aG=k
 ·rw [aA h,aA ⟨h,an⟩]
 ·rw [ax h,ax (fun q=>h q.1)]
theorem UB (l:oy):eZ (kV l):=by
 intro i j _ ae;have ae:j<2:=ae
 match j,ae with
 |0,_=>rfl
 |1,_=>rfl
def wJ (o:Option (List Rat)):ak:=match o with
 |none=> .nil
 |some l=> .ro (aN l) 0 l.length
structure DM (t:aK)(o:dj):Prop where
 He: ∀i,i<t.length→(t.getD i aP).kind=1→o i=some ((t.getD i aP).c1.map cE)
 ends: ∀i,i<t.length→(t.getD i aP).kind=0→o i=none
 some: ∀i,i<t.length→ ∀l,o i=some l→(t.getD i aP).next.length≤l.length∧0<l.length∧l.length≤1000000∧ ∀q∈l,ga 100000 q
 reach: ∀j,j<t.length→ga 100000 ((cj t o).getD j 0)
theorem amb {t:aK}(ai:Valid t){i:Nat}(aa:i<t.length)(an:(t.getD i aP).kind=1):nL (t.getD i aP).c1=0:=by
 have h:=ai.nodes i aa;unfold pj at h;rw [ax J,aA an] at h;split at h
 ·cases h
 split at h
 ·rename_i U;exact absurd h U
 split at h
 ·cases h
 exact h
theorem ans {t:aK}(ai:Valid t){i:Nat}(aa:i<t.length):(t.getD i aP).kind=0∨(t.getD i aP).kind=1∨(t.getD i aP).kind=2:=by
 rcases ai.child aa with h|h
 ·exact .inl h.1
 ·exact .inr h.1
theorem Zs (l:List Rat):cu (jd (l.map some)) (aN l):=by
 refine ⟨by simp [fi,Cells.len],I,fun i j aa ae=> ?_⟩;have aa:i<l.length:=by simpa [fi,Cells.len] using aa
 show (bW (l.getD i 0)).getD j .any=(nK ((l.map some).getD i none)).getD j .any;rw [mY some l 0 none i aa];rfl
theorem Xl (l:List (Option Rat))(n:Nat):fz n (jd l):=by
 intro i j _ ae;show hf n ((nK (l.getD i none)).getD j .any)=true;have ae:j<3:=ae;cases l.getD i none with
 |none=>match j,ae with
  |0,_=>rfl
  |1,_=>rfl
  |2,_=>rfl
 |some q=>match j,ae with
  |0,_=>rfl
  |1,_=>rfl
  |2,_=>rfl
theorem PL (t:aK)(o:dj)(g:FuncId)(cw:List ak)(adK:cM.eM cw=true)(Sb:mB 1 cw=true)(b2:jR t)(ai:Valid t)(dG:DM t o)(c2: ∀i,i<t.length→(t.getD i aP).kind=2→bs Tryz.prog g ([.agg (kU (t.getD i aP))]++cw) (wJ (o i))):
 bs Tryz.prog 168 [.ro (bV t) 0 t.length,.fn g cw] (.ro (aN (cj t o)) 0 t.length):=by
 have hlen:=b2.len;have Lq:=ai.le;have cd:=ai.ne;have jh:(List.replicate t.length (none:Option Rat)).length=t.length:=e8;refine ch.qG (gl (P:=Tryz.prog) (fn:=Tryz.f168) I I af I (fun c aq bI=> ?_)) (fix:=fun _=>False) (fun _ h=>h) (by simp [cM.eM,cM,adK]) I;refine bq ?_;refine mf I I I I I I I I (by show (0:Int)≤_∧_≤_∧(56:Int)*_≤_∧_;omega) (bF ?_);refine aO I I I tZ ?_;unfold b9;refine fj [some ⟨118,jd (List.replicate t.length none)⟩] (aM.eqv (Zr _) aM.nil) ?_;have oe:0<(jd (List.replicate t.length none)).len:=by show 0<(List.replicate t.length (none:Option Rat)).length;omega
 repeat (refine ao (gd rfl rfl rfl rfl rfl hC J) ?_)
 refine eE (c':=jd ((List.replicate t.length none).set 0 (some 1))) I I I I I oe (by show (List.set _ 0 _).length=(List.replicate _ _).length;simp) I (fun aG a7 aL bd=>AJ none 3 nK _ 0 (some 1) oe aG a7 aL bd) (bq ?_);refine cp (ι:=Nat) (fun i=>[(0,.ro (bV t) 0 t.length),(1,.fn g cw),(5,.aC 0 0 t.length),(17,.ro (bV t) 0 t.length),(18,ag t.length),(19,ag i)]) (fun i=>[some ⟨118,jd (p3 t o i)⟩])
  (fun i=>i≤t.length) (fun i=>t.length-i) 0 ⟨aE,rfl,b7 _⟩ ?_
 intro i aa;refine bh ?_;refine bm I (fun h=> ?_) (fun h=> ?_)
 ·have aL:i<t.length:=J;have mW:=b2.node _ (iR aP aL);have qt:=ai.behind aL;have zE:=CI t o i;have hB:=Oz ai o i aa i aL (ai.known aL);have wz:=dG.reach i aL;have aev:=ans ai aL;have LP:=fun an=>amb ai aL an;have aef:=dG.He i aL;have lb:=dG.ends i aL;have BR:=dG.some i aL;have aeg:=c2 i aL;have l2:p3 t o (i+1)=dI (na (o i) ((p3 t o i).getD i none)) (t.getD i aP).next 0 (p3 t o i):=rfl
  generalize Ht:p3 t o (i+1)=GS at*;generalize p3 t o i=W at*;generalize zU:o i=uT at*;generalize (cj t o).getD i 0=fC at*;rw [hB] at l2;obtain ⟨s1,s2,u3,IA⟩:=mW;refine bc ?_;refine bP 23 (.agg (kU (t.getD i aP))) I (aR.of_eq I) ?_;generalize aI:t.getD i aP=n at*;obtain ⟨b8,pl,bM,bk,cx,cU⟩:=n;simp only at*;refine dA (c':= .box (eQ b8 pl bM bk cx cU)) I I I I I I I ?_;refine dw [some ⟨118,jd (W)⟩,some ⟨57,.box (eQ b8 pl bM bk cx cU)⟩] I ?_;refine bP 7 (.ptr 1 0 0) I (aR.of_eq I) ?_;apply kQ (H:=[some ⟨118,jd (W)⟩,some ⟨57,.box (eQ b8 pl bM bk cx cU)⟩]) [(0,.ro (bV t) 0 t.length),(1,.fn g cw),(5,.aC 0 0 t.length),(6,ag i),(7,.ptr 1 0 0),(8,wJ uT),(17,.ro (bV t) 0 t.length),(18,ag t.length),(19,ag i),(37,.ro (.ints .i64 bk) 0 bk.length),(38,ag bk.length),(39,.int .i64 0)]
  ·intro fin;refine bo ?_;rcases aev with an|an|an
   ·have:=lb an;subst this;subst an;refine bo ?_;exact fin _ aE
   ·have U:=aef an;have ab:=LP an;subst an;subst U;obtain ⟨v1,v2,_,_⟩:=vh ab;have cin:=AY cx J (fun r ad=>⟨u3 r ad,v2 r ad⟩);refine bo ?_;refine aO I I I cin (bo ?_);exact fin _ aE
   ·have U:=aeg an;subst an;refine bc ?_;refine bP 34 (.agg (kU ⟨2,pl,bM,bk,cx,cU⟩)) I (aR.of_eq I) ?_;refine aO I I I U (bo ?_);exact fin _ aE
  cases uT with
  |none=>
   refine cp (ι:=Nat) (fun j=>[(0,.ro (bV t) 0 t.length),(1,.fn g cw),(5,.aC 0 0 t.length),(6,ag i),(7,.ptr 1 0 0),(8,.nil),(17,.ro (bV t) 0 t.length),(18,ag t.length),(19,ag i),(37,.ro (.ints .i64 bk) 0 bk.length),(38,ag bk.length),(39,ag j)]) (fun j=>[some ⟨118,jd (dI (na none (some fC)) (bk.take j) 0 W)⟩,some ⟨57,.box (eQ b8 pl bM bk cx cU)⟩])
    (fun j=>j≤bk.length) (fun j=>bk.length-j) 0 ⟨aE,rfl,b7 _⟩ ?_
   intro j ae;refine bh ?_;refine bm I (fun bL=> ?_) (fun bL=> ?_)
   ·have bd:j<bk.length:=J;obtain ⟨ei,ew⟩:=qt _ (dt 0 bd);have iL:(dI (na none (some fC)) (bk.take j) 0 W).length=t.length:=by rw [w6];exact zE
    have ra:(dI (na none (some fC)) (bk.take j) 0 W).getD i none=some fC:=(tP _ none _ _ _ (fun c aw=>by have:=qt c (pz aw);omega)).trans hB;have dS:dI (na none (some fC)) (bk.take (j+1)) 0 W=(dI (na none (some fC)) (bk.take j) 0 W).set (bk.getD j 0).toNat (na none (some fC) j):=by rw [Az bd,AA,fc,hY ae,cT]
    generalize mQ:dI (na none (some fC)) (bk.take (j+1)) 0 W=y7 at*;generalize dI (na none (some fC)) (bk.take j) 0 W=A at*;obtain ⟨x,ar⟩:=oP (show 0≤bk.getD j 0 by omega);have tC:(bk.getD j 0).toNat=x:=by rw [ar,cg]
    rw [ar] at ei ew;rw [tC] at dS;have od:x<A.length:=J;have sn:i<(jd A).len:=by show i<A.length;omega
    have Hl:x<(jd A).len:=od;have BF:(A.set x (some fC)).getD i none=some fC:=by rw [Go.aj.dZ.fO,ax J];exact ra
    have RB:i<(jd (A.set x (some fC))).len:=by show i<(A.set x (some fC)).length;rw [dd];omega
    have BD:x<(jd (A.set x (some fC))).len:=by show x<(A.set x (some fC)).length;rw [dd];omega
    refine yj ?_;refine c5 I ?_;refine hx ?_;refine ds 10 (ag x) I (aR.of_eq (by rw [ar])) (bc ?_);refine bP 49 (.agg (bW fC)) I (aR.of_eq (show ak.agg [(nK (A.getD i none)).getD 0 .any,(nK (A.getD i none)).getD 1 .any,(nK (A.getD i none)).getD 2 .any]=_ by rw [ra];rfl)) ?_;refine eE (c':=jd (A.set x (some fC))) I I I I I od (by show (A.set x (some fC)).length=A.length;simp) I (fun aG a7 aL bd=>AJ none 3 nK A x (some fC) od aG a7 aL bd) (bF ?_);refine ao (amw I I I) (bo ?_);exact b4 ⟨j+1,J,J,aE,by rw [mQ,dS];rfl⟩
   ·have ho:j=bk.length:=J;subst ho;rw [e7,←l2];refine fu ?_;refine b0 ?_;refine fm [some ⟨118,jd (GS)⟩] [some ⟨57,.box (eQ b8 pl bM bk cx cU)⟩] [(0,.ro (bV t) 0 t.length),(1,.fn g cw),(5,.aC 0 0 t.length),(17,.ro (bV t) 0 t.length),(18,ag t.length),(19,ag i)] I aE hp (p1 (Xl _ _)) (by show (true && (mB 1 cw && _))=true;rw [Sb];rfl) (bq ?_);exact b4 ⟨i+1,J,J,aE,by rw [Ht]⟩
  |some l=>
   obtain ⟨fW,fK,Ih,wI⟩:=BR l rfl;refine cp (ι:=Nat) (fun j=>[(0,.ro (bV t) 0 t.length),(1,.fn g cw),(5,.aC 0 0 t.length),(6,ag i),(7,.ptr 1 0 0),(8,.ro (aN l) 0 l.length),(17,.ro (bV t) 0 t.length),(18,ag t.length),(19,ag i),(37,.ro (.ints .i64 bk) 0 bk.length),(38,ag bk.length),(39,ag j)]) (fun j=>[some ⟨118,jd (dI (na (some l) (some fC)) (bk.take j) 0 W)⟩,some ⟨57,.box (eQ b8 pl bM bk cx cU)⟩])
    (fun j=>j≤bk.length) (fun j=>bk.length-j) 0 ⟨aE,rfl,b7 _⟩ ?_
   intro j ae;refine bh ?_;refine bm I (fun bL=> ?_) (fun bL=> ?_)
   ·have bd:j<bk.length:=J;obtain ⟨ei,ew⟩:=qt _ (dt 0 bd);have iL:(dI (na (some l) (some fC)) (bk.take j) 0 W).length=t.length:=by rw [w6];exact zE
    have ra:(dI (na (some l) (some fC)) (bk.take j) 0 W).getD i none=some fC:=(tP _ none _ _ _ (fun c aw=>by have:=qt c (pz aw);omega)).trans hB;have dS:dI (na (some l) (some fC)) (bk.take (j+1)) 0 W=(dI (na (some l) (some fC)) (bk.take j) 0 W).set (bk.getD j 0).toNat (na (some l) (some fC) j):=by rw [Az bd,AA,fc,hY ae,cT]
    generalize mQ:dI (na (some l) (some fC)) (bk.take (j+1)) 0 W=y7 at*;generalize dI (na (some l) (some fC)) (bk.take j) 0 W=A at*;obtain ⟨x,ar⟩:=oP (show 0≤bk.getD j 0 by omega);have tC:(bk.getD j 0).toNat=x:=by rw [ar,cg]
    rw [ar] at ei ew;rw [tC] at dS;have od:x<A.length:=J;have sn:i<(jd A).len:=by show i<A.length;omega
    have Hl:x<(jd A).len:=od;have BF:(A.set x (some fC)).getD i none=some fC:=by rw [Go.aj.dZ.fO,ax J];exact ra
    have RB:i<(jd (A.set x (some fC))).len:=by show i<(A.set x (some fC)).length;rw [dd];omega
    have BD:x<(jd (A.set x (some fC))).len:=by show x<(A.set x (some fC)).length;rw [dd];omega
    refine yj ?_;refine c5 I ?_;refine hx ?_;refine ds 10 (ag x) I (aR.of_eq (by rw [ar])) (bc ?_);refine bP 49 (.agg (bW fC)) I (aR.of_eq (show ak.agg [(nK (A.getD i none)).getD 0 .any,(nK (A.getD i none)).getD 1 .any,(nK (A.getD i none)).getD 2 .any]=_ by rw [ra];rfl)) ?_;refine eE (c':=jd (A.set x (some fC))) I I I I I od (by show (A.set x (some fC)).length=A.length;simp) I (fun aG a7 aL bd=>AJ none 3 nK A x (some fC) od aG a7 aL bd) (bF ?_);refine ao (air I I I fK) (bo ?_);have zQ:j<l.length:=J;have Le:bs Tryz.prog 99 [.agg [(nK ((A.set x (some fC)).getD i none)).getD 0 .any,(nK ((A.set x (some fC)).getD i none)).getD 1 .any,(nK ((A.set x (some fC)).getD i none)).getD 2 .any],b9 (l.getD j 0)] (b9 (fC*l.getD j 0)):=by rw [BF];exact AT fC (l.getD j 0) wz (wI _ (dt 0 zQ))
    refine eg af ?_;refine eK (fuel:=1) [0,1,2,3,4,5,6,7,8,9,10,11] [(0,.ro (bV t) 0 t.length),(1,.fn g cw),(5,.aC 0 0 t.length),(6,ag i),(7,.ptr 1 0 0),(8,.ro (aN l) 0 l.length),(17,.ro (bV t) 0 t.length),(18,ag t.length),(19,ag i),(37,.ro (.ints .i64 bk) 0 bk.length),(38,ag bk.length),(39,ag j),(9,ag j),(10,ag x)] aE af aT I I ?_;refine cY ?_;refine dW I I I I I Le ?_;refine cY ?_;refine eI ?_;refine br 12 ?_;skip
    unfold b9;refine eE (c':=jd ((A.set x (some fC)).set x (some (fC*l.getD j 0)))) I I I I I BD (by show (List.set _ x _).length=(A.set x (some fC)).length;simp) I (fun aG a7 aL bd=>AJ none 3 nK (A.set x (some fC)) x (some (fC*l.getD j 0)) BD aG a7 aL bd) (bn ?_);refine dX af (bo ?_);exact b4 ⟨j+1,J,J,aE,by rw [mQ,dS];exact congrArg (fun z=>[some (bl.mk 118 (jd z)),some (bl.mk 57 (.box (eQ b8 pl bM bk cx cU)))]) (xA ..)⟩
   ·have ho:j=bk.length:=J;subst ho;rw [e7,←l2];refine fu ?_;refine b0 ?_;refine fm [some ⟨118,jd (GS)⟩] [some ⟨57,.box (eQ b8 pl bM bk cx cU)⟩] [(0,.ro (bV t) 0 t.length),(1,.fn g cw),(5,.aC 0 0 t.length),(17,.ro (bV t) 0 t.length),(18,ag t.length),(19,ag i)] I aE hp (p1 (Xl _ _)) (by show (true && (mB 1 cw && _))=true;rw [Sb];rfl) (bq ?_);exact b4 ⟨i+1,J,J,aE,by rw [Ht]⟩
 ·have df:i=t.length:=J;subst df;rw [amI ai];refine hx ?_;refine jG [some ⟨118,aN (cj t o)⟩] (aM.eqv (Zs _) aM.nil) ?_;refine kv 0 5 t.length [] I (mx _) I (by show t.length≤(cj t o).length;rw [show (cj t o).length=t.length from yJ t o _];exact bT _) trivial (bF ?_);exact aX aq I I
theorem abR (a b:oy)(hlen:a.length≤9223372036854775807)(wm:b.length≤9223372036854775807):bs Tryz.prog 58 [.ro (kV a) 0 a.length,.ro (kV b) 0 b.length] (.bool (decide (a=b))):=by
 refine cf Tryz.f58 fun c aq bI=> ?_;refine bq ?_;refine bm I (fun h=> ?_) (fun h=> ?_)
 ·refine c4 ?_;refine aX aq I ?_;have: ¬a=b:=by rintro rfl;exact h rfl
  simp [gS,this]
 have nv:a.length=b.length:=J;refine bq ?_;refine cp (ι:=Nat) (fun k=>[(0,.ro (kV a) 0 a.length),(1,.ro (kV b) 0 b.length),(12,ag a.length),(13,ag k)]) (fun _=>[])
  (fun k=>k≤a.length∧a.take k=b.take k) (fun k=>a.length-k) 0 ⟨aE,rfl,b7 _,rfl⟩ ?_
 intro k ⟨an,heq⟩;refine bh ?_;refine bm I (fun ab=> ?_) (fun ab=> ?_)
 ·have bO:k<a.length:=J;have aez:k<b.length:=J;have a8:=pT a (0,0) k bO;have al:=pT b (0,0) k aez;refine bn ?_;refine eg af ?_;refine eK (fuel:=0) [0,1,2,3,4,5,6,7,8] [(0,.ro (kV a) 0 a.length),(1,.ro (kV b) 0 b.length),(5,ag k),(12,ag a.length),(13,ag k)] aE af aT I I ?_;refine bU I I (bE I) ?_;refine bU I I (bE I) ?_;refine bU I I (h8 I I I I (by first|(simp only [cT,cg,fE];exact I)|exact I) J) ?_;refine bU I I (wS I I I I I I) ?_;refine bU I I (bE I) ?_;refine bU I I (bE I) ?_;refine bU I I (h8 I I I I (by first|(simp only [cT,cg,fE];exact I)|exact I) J) ?_;refine bU I I (wS I I I I I I) ?_;refine bU I I (ain (L:=AW (a.getD k (0,0))) (M:=AW (b.getD k (0,0))) (b:=decide ((a.getD k (0,0)).1=(b.getD k (0,0)).1) && (decide ((a.getD k (0,0)).2=(b.getD k (0,0)).2) && true)) I I I I af af I) ?_;refine eI ?_;refine dX af ?_;repeat (refine b0 ?_)
  by_cases ay:a.getD k (0,0)=b.getD k (0,0)
  ·rw [ay,fG rfl,fG rfl];refine bo ?_;exact b4 ⟨k+1,⟨J,by rw [a8,al,heq,ay]⟩,J,aE,I⟩
  ·have bf:(decide ((a.getD k (0,0)).1=(b.getD k (0,0)).1) && (decide ((a.getD k (0,0)).2=(b.getD k (0,0)).2) && true))=false:=by rw [Bool.and_true,←td,eb,eL,eL];rintro ⟨aH,aJ⟩;exact ay (Prod.ext aH aJ)
   rw [bf];refine bc ?_;refine aX aq I ?_;have: ¬a=b:=by rintro rfl;exact ay rfl
   simp [gS,this]
 ·have bO:k=a.length:=J;subst bO;rw [e7,nv,e7] at heq;refine bo ?_;refine aX aq I ?_;simp [gS,heq]
theorem J8 {α:Type}(d:α)(n:Nat)(e:α→List ak)(a b:List α):cu (.fn (a.length+b.length) n (fun i j=>bif Nat.blt i a.length then (fi d n e a).at i j else (fi d n e b).at (0+(i-a.length)) j)) (fi d n e (a++b)):=by
 refine ⟨by simp [fi,Cells.len],I,fun i j aa ae=> ?_⟩;show (e ((a++b).getD i d)).getD j .any=bif Nat.blt i a.length then (e (a.getD i d)).getD j .any else (e (b.getD (0+(i-a.length)) d)).getD j .any;by_cases h:i<a.length
 ·rw [show Nat.blt i a.length=true from q4 h,rG d h];rfl
 ·have ab:Nat.blt i a.length=false:=by
   cases e:Nat.blt i a.length with
   |false=>rfl
   |true=>(have:i+1≤a.length:=iv e;omega)
  rw [ab,cT];have:(a++b).getD i d=b.getD (i-a.length) d:=by simp only [List.getD];rw [ib J]
  rw [this];rfl
theorem Dt (l:oy)(au:l.length≤1000000):ud Tryz.prog 205 [.ro (kV l) 0 l.length] (fun N=> .aC N 0 l.length) ⟨94,kV l⟩:=by
 refine ch.fresh (K:=fun r H=>r= .aC 0 0 l.length∧H=[some ⟨94,kV l⟩]) (gl (P:=Tryz.prog) (fn:=Tryz.f205) I I af I (fun c aq bI=> ?_)) (fix:=fun _=>False) (fun _ h=>h) I (fun H=>⟨I,by simp [mG,lG]⟩) ?_
 ·refine bF ?_;refine O9 I I I (fun b al=> ?_);refine bF ?_;refine tV I (fun h=> ?_) (fun h=> ?_)
  ·have:=al h;have aI:l=[]:=uu.mp this;subst aI;refine cJ ?_;refine jF 2 ⟨94,kV []⟩ I I (c4 ?_);exact aX aq I ⟨I,I⟩
  ·refine bn ?_;refine u9 I I I I I I I I I I ?_;refine fj [some ⟨94,kV []⟩] (aM.eqv ⟨I,I,fun i j aa=>absurd aa (gg _)⟩ aM.nil) ?_;repeat (refine ao (bE rfl) ?_)
   refine dy I I I I I I I I I I I I (by show 0+l.length≤l.length;omega) I (by show (0+l.length)*16≤_∧_;omega) ?_ c3 ?_
   ·intro aG a7 aL bd;have q:=(J8 (0,0) 2 AW [] l).2.2 aG a7 aL bd;refine (congrArg (ak.forget 0) q.symm).trans (tj ?_ q)
    match a7,bd with
    |0,_=>rfl
    |1,_=>rfl
   refine fj [some ⟨94,kV l⟩] (aM.eqv (J8 (0,0) 2 AW [] l) aM.nil) (bF ?_);refine aX aq I ⟨?_,I⟩;show ak.aC 0 0 (0+l.length)=_;rw [cT]
 ·rintro r H ⟨rfl,rfl⟩;refine ⟨?_,fun h o ah=>p8 (UB _) h o ah,0,I,fun n=>rfl⟩;intro o ah;simp at ah;subst ah;show 0+l.length≤l.length;omega
def A4 (w:oy):List ak:=[.ro (kV w) 0 w.length]
abbrev ka (W:List oy):Cells:=fi [] 1 A4 W
theorem WQ {α:Type}(d:α)(e:α→List ak)(l:List α)(x:Nat)(a:α)(v:ak)(ar:x<l.length)(ai:v=(e a).getD 0 .any):cu (.fn l.length 1 (fun aG a7=>bif Nat.beq aG x && Nat.beq a7 0 then v else (e (l.getD aG d)).getD a7 .any)) (fi d 1 e (l.set x a)):=by
 refine ⟨by simp [fi,Cells.len],I,fun i j aa ae=> ?_⟩;obtain rfl:=fw.1 (show j<1 from ae);show (e ((l.set x a).getD i d)).getD 0 .any=bif Nat.beq i x && Nat.beq 0 0 then v else (e (l.getD i d)).getD 0 .any;rw [Go.aj.dZ.fO];by_cases h:i=x
 ·subst h;rw [aA ⟨rfl,ar⟩,ai,show Nat.beq i i=true from pD i];rfl
 ·rw [ax (fun q=>h q.1),dv h];rfl
theorem X8 {α:Type}{v:Nat→α}{P:α→Prop}: ∀(l:List Int) (k:Nat) (a:List α),(∀x∈a,P x)→(∀j,k≤j→j<k+l.length→P (v j))→ ∀x∈dI v l k a,P x
 |[],_,a,h,_=>h
 |c::r,k,a,h,ai=>by
  rw [dI];refine X8 r (k+1) _ (fun x ar=> ?_) (fun j U ab=>ai j J (by simp;omega));rcases zk ar with q|q
  ·exact h x q
  ·rw [q];exact ai k (bT _) bX
theorem Pp {α:Type}{P:α→Prop}{l:List α}{d:α}(h: ∀x∈l,P x)(hd:P d)(i:Nat):P (l.getD i d):=by
 rcases gz i l.length with q|q
 ·exact h _ (dt d q)
 ·have:l.getD i d=d:=by simp [List.getD,q]
  rw [this];exact hd
theorem akX (p:Int)(n:ep)(w:oy)(k:Nat):(r6 p n w k).length≤w.length+1:=by
 unfold r6;split
 ·rw [c8];exact bT _
 ·omega
theorem PZ (t:aK)(p:Int): ∀i,∀w∈hM t p i,w.length≤i
 |0,w,hw=>by rw [(Bn.1 hw).2];exact bT _
 |i+1,w,hw=>by have ba:=PZ t p i;rw [hM,FL] at hw;refine X8 (P:=fun w:oy=>w.length≤i+1) _ _ _ (fun x ar=>Nat.le_succ_of_le (ba x ar)) (fun j _ _=> ?_) w hw;have U:=akX p (t.getD i aP) ((hM t p i).getD i []) j;have ab:((hM t p i).getD i []).length≤i:=Pp (P:=fun w:oy=>w.length≤i) ba (b7 _) i;omega
theorem anL {t:aK}(ai:Valid t)(p:Int): ∀w∈sP t p,w.length≤120:=fun w hw=>dN (PZ t p t.length w hw) ai.le
theorem alS (W:List oy):eZ (ka W):=by
 intro i j _ ae;obtain rfl:j=0:=by have ae:j<1:=ae;omega
 rfl
theorem Vu (W:List oy)(n:Nat):fz n (ka W):=by
 intro i j _ ae;obtain rfl:j=0:=by have ae:j<1:=ae;omega
 rfl
theorem Gq {n:Nat}{o1 o2:bl}(U:fz n o1.c)(ab:fz n o2.c): ∀(h:Nat) (o:bl),([some o1,some o2]:aZ)[h]? =some (some o)→fz n o.c:=by
 intro h o ah
 match h,ah with
 |0,ah=>cases ah;exact U
 |1,ah=>cases ah;exact ab
 |_+2,ah=>simp at ah
theorem amN (n:Nat)(b8 pl bM:Int)(bk:List Int)(cx:List di)(cU:di):fz n (.box (eQ b8 pl bM bk cx cU)):=by
 intro i j _ ae;have ae:j<6:=ae
 match j,ae with
 |0,_=>rfl
 |1,_=>rfl
 |2,_=>rfl
 |3,_=>rfl
 |4,_=>rfl
 |5,_=>rfl
theorem amo (W:List oy)(h:Nat):cu ((ka W).forget h) (ka W):=by
 refine ⟨I,I,fun i j _ ae=> ?_⟩;have ae:j<1:=ae
 match j,ae with
 |0,_=>rfl
theorem ala (t:aK)(p:Int)(b2:jR t)(ai:Valid t):bs Tryz.prog 166 [.ro (bV t) 0 t.length,.int .i64 p] (.ro (ka (sP t p)) 0 t.length):=by
 have hlen:=b2.len;have Lq:=ai.le;refine cf Tryz.f166 fun c aq bI=> ?_;refine bq ?_;refine mf I I I I I I I I (by show 0≤_∧_≤_∧(24:Int)*_≤_∧_;omega) ?_;refine yw [some ⟨24,ka (hM t p 0)⟩] I (fun h o' cP=> ?_) ?_
 ·match h,cP with
  |0,cP=>
   cases cP;refine ⟨_,I,I,?_,I,fun i j aa ae=> ?_⟩
   ·show (List.replicate t.length ([]:oy)).length=((t.length:Nat):Int).toNat;rw [e8];omega
   ·obtain rfl:=fw.1 (show j<1 from ae);have e:(List.replicate t.length ([]:oy)).getD i []=[]:=by simp only [List.getD,oM];split<;>rfl
    show aR .nil ((A4 ((List.replicate t.length ([]:oy)).getD i [])).getD 0 .any);rw [e];exact aR.nil
  |_+1,cP=>simp at cP
 refine bq ?_;refine cp (ι:=Nat) (fun i=>[(0,.ro (bV t) 0 t.length),(1,.int .i64 p),(5,.aC 0 0 t.length),(13,.ro (bV t) 0 t.length),(14,ag t.length),(15,ag i)]) (fun i=>[some ⟨24,ka (hM t p i)⟩])
  (fun i=>i≤t.length) (fun i=>t.length-i) 0 ⟨aE,rfl,b7 _⟩ ?_
 intro i aa;refine bh ?_;refine bm I (fun h=> ?_) (fun h=> ?_)
 ·have aL:i<t.length:=J;have mW:=b2.node _ (iR aP aL);have qt:=ai.behind aL;have zE:=FP t p i;have LC:=PZ t p i;have l2:hM t p (i+1)=dI (r6 p (t.getD i aP) ((hM t p i).getD i [])) (t.getD i aP).next 0 (hM t p i):=by rw [hM,FL]
  generalize Ht:hM t p (i+1)=GS at*;generalize hM t p i=W at*;obtain ⟨s1,s2,u3,IA⟩:=mW;refine bc ?_;refine bP 19 (.agg (kU (t.getD i aP))) I (aR.of_eq I) ?_;generalize aI:t.getD i aP=n at*;have tA:own p n=(decide (n.kind=2) && decide (n.gr=p)):=rfl;obtain ⟨b8,pl,bM,bk,cx,cU⟩:=n;simp only at*;refine dA (c':= .box (eQ b8 pl bM bk cx cU)) I I I I I I I ?_;refine dw [some ⟨24,ka W⟩,some ⟨57,.box (eQ b8 pl bM bk cx cU)⟩] I ?_;generalize ai:r6 p ⟨b8,pl,bM,bk,cx,cU⟩ (W.getD i [])=v at*;refine bo ?_;refine cp (ι:=Nat) (fun j=>[(0,.ro (bV t) 0 t.length),(1,.int .i64 p),(5,.aC 0 0 t.length),(6,ag i),(7,.ptr 1 0 0),(13,.ro (bV t) 0 t.length),(14,ag t.length),(15,ag i),(21,.ro (.ints .i64 bk) 0 bk.length),(22,ag bk.length),(23,ag j)]) (fun j=>[some ⟨24,ka (dI v (bk.take j) 0 W)⟩,some ⟨57,.box (eQ b8 pl bM bk cx cU)⟩])
   (fun j=>j≤bk.length) (fun j=>bk.length-j) 0 ⟨aE,rfl,b7 _⟩ ?_
  intro j ae;refine bh ?_;refine bm I (fun bL=> ?_) (fun bL=> ?_)
  ·have bd:j<bk.length:=J;obtain ⟨ei,ew⟩:=qt _ (dt 0 bd);have iL:(dI v (bk.take j) 0 W).length=t.length:=by rw [w6];exact zE
   have ra:(dI v (bk.take j) 0 W).getD i []=W.getD i []:=tP v [] _ _ _ (fun c aw=>by have:=qt c (pz aw);omega);have dS:dI v (bk.take (j+1)) 0 W=(dI v (bk.take j) 0 W).set (bk.getD j 0).toNat (v j):=by rw [Az bd,AA,fc,hY ae,cT]
   have MH:(W.getD i []).length≤i:=Pp (P:=fun w:oy=>w.length≤i) LC (b7 _) i;have wD:v j=r6 p ⟨b8,pl,bM,bk,cx,cU⟩ (W.getD i []) j:=by rw [ai]
   unfold r6 at wD;rw [tA] at wD;simp only at wD;generalize mQ:dI v (bk.take (j+1)) 0 W=y7 at*;generalize dI v (bk.take j) 0 W=A at*;generalize W.getD i []=dM at*;obtain ⟨x,ar⟩:=oP (show 0≤bk.getD j 0 by omega);rw [ar] at ei ew dS;rw [cg] at dS;have od:x<A.length:=J;have sn:i<(ka A).len:=by show i<A.length;omega
   have Hl:x<(ka A).len:=od;have BF:(A.set x dM).getD i []=dM:=by rw [Go.aj.dZ.fO,ax J];exact ra
   have apW:(A.set x dM).length=t.length:=by rw [dd];exact iL
   have RB:i<(ka (A.set x dM)).len:=by show i<(A.set x dM).length;omega
   have BD:x<(ka (A.set x dM)).len:=by show x<(A.set x dM).length;omega
   have Ca:dM.length≤1000000:=J;refine Nj ?_;refine bP 33 (.ro (kV dM) 0 dM.length) I (aR.of_eq (by rw [←ra];rfl)) ?_;refine bP 29 (ag x) I (aR.of_eq (by rw [ar])) ?_;refine bP 9 (ag x) I (aR.of_eq (by rw [ar])) ?_;have tC:(bk.getD j 0).toNat=x:=by rw [ar,cg]
   refine fj [some ⟨24,ka (A.set x dM)⟩,some ⟨57,.box (eQ b8 pl bM bk cx cU)⟩] (by rw [←tC];exact aM.eqv (WQ [] A4 A (bk.getD j 0).toNat dM _ J (by rw [←ra])) (aM.refl _)) ?_;refine gQ I I (fun g1=> ?_) (fun g1=> ?_)
   ·refine bo ?_;refine bm I (fun g2=> ?_) (fun g2=> ?_)
    ·rw [fG g1,fG g2,mM,aA rfl] at wD;skip
     refine eg af ?_;apply tN (H:=[some ⟨24,ka (A.set x dM)⟩,some ⟨57,.box (eQ b8 pl bM bk cx cU)⟩,some ⟨94,kV dM⟩]) [(0,.ro (bV t) 0 t.length),(1,.int .i64 p),(5,.aC 0 0 t.length),(6,ag i),(7,.ptr 1 0 0),(13,.ro (bV t) 0 t.length),(14,ag t.length),(15,ag i),(21,.ro (.ints .i64 bk) 0 bk.length),(22,ag bk.length),(23,ag j),(44,.aC 0 0 t.length),(45,ag x),(50,.aC 2 0 dM.length),(55,.ro (fN 1 2 [.int .i64 bM,ag j]) 0 1)]
     ·intro hA;refine bH 0 I af af af I (bE I) I ?_;refine bH 1 I af af af I (bE I) I ?_;refine bH 2 I af af af I (bE I) I ?_;refine bH 3 I af af af I (bE I) I ?_;refine bH 7 I af af af I (de I I I I I I) I ?_;refine bH 9 I af af af I (bE I) I ?_;refine bH 4 I af af af I (gd I I I I I (by first|(simp only [cT,cg,fE];exact I)|exact I) J) I ?_;refine dQ 5 8 ?_ ?_
      ·refine fu ?_;refine tM 49 (.ro (kV dM) 0 dM.length) I (aR.of_eq (show (A4 ((A.set x dM).getD i [])).getD 0 .any= .ro (kV dM) 0 dM.length by rw [BF];rfl)) ?_;refine dQ 6 8 ?_ ?_
       ·refine me I I I (Dt dM Ca) (bn ?_);refine br 8 ?_;refine bh ?_;refine bH 10 I af af af I (iZ I I I I I I) I ?_;refine br 11 ?_;refine bq ?_;exact hA _ aE
       ·refine bh ?_;refine bH 10 I af af af I (iZ I I I I I I) I ?_;refine dQ 6 11 ?_ ?_
        ·refine me I I I (Dt dM Ca) (bn ?_);refine br 11 ?_;refine bq ?_;exact hA _ aE
        ·refine bq ?_;refine br 6 ?_;refine me I I I (Dt dM Ca) (bn ?_);exact hA _ aE
      ·refine bh ?_;refine bH 10 I af af af I (iZ I I I I I I) I ?_;refine dQ 5 11 ?_ ?_
       ·refine fu ?_;refine tM 49 (.ro (kV dM) 0 dM.length) I (aR.of_eq (show (A4 ((A.set x dM).getD i [])).getD 0 .any= .ro (kV dM) 0 dM.length by rw [BF];rfl)) ?_;refine dQ 6 11 ?_ ?_
        ·refine me I I I (Dt dM Ca) (bn ?_);refine br 11 ?_;refine bq ?_;exact hA _ aE
        ·refine bq ?_;refine br 6 ?_;refine me I I I (Dt dM Ca) (bn ?_);exact hA _ aE
       ·refine bq ?_;refine br 5 ?_;refine fu ?_;refine tM 49 (.ro (kV dM) 0 dM.length) I (aR.of_eq (show (A4 ((A.set x dM).getD i [])).getD 0 .any= .ro (kV dM) 0 dM.length by rw [BF];rfl)) ?_;refine br 6 ?_;refine me I I I (Dt dM Ca) (bn ?_);exact hA _ aE
     ·refine br 12 ?_;refine dy I I I I I I I I I I I I dT I (by show (dM.length+1)*16≤_∧_;omega) ?_ c3 ?_
      ·intro aG a7 aL bd;have q:=(ha (0,0) 2 AW dM (bM,(j:Int)) (fN 1 2 [.int .i64 bM,ag j]) (fun j ae=>by
        match j,ae with
        |0,_=>rfl
        |1,_=>rfl)).2.2 aG a7 aL bd
       refine (congrArg (ak.forget 2) q.symm).trans (tj ?_ q)
       match a7,bd with
       |0,_=>rfl
       |1,_=>rfl
      refine fj [some ⟨24,ka (A.set x dM)⟩,some ⟨57,.box (eQ b8 pl bM bk cx cU)⟩,some ⟨94,kV (dM++[(bM,(j:Int))])⟩] ?_ ?_
      ·exact aM.eqv (amo (A.set x dM) 2) (aM.eqv (cu.refl _) (aM.eqv (ha (0,0) 2 AW dM (bM,(j:Int)) (fN 1 2 [.int .i64 bM,ag j]) (fun j ae=>by
        match j,ae with
        |0,_=>rfl
        |1,_=>rfl)) aM.nil))
      refine sM 2 56 (dM.length+1) [(0,.ro (bV t) 0 t.length),(1,.int .i64 p),(5,.aC 0 0 t.length),(6,ag i),(7,.ptr 1 0 0),(13,.ro (bV t) 0 t.length),(14,ag t.length),(15,ag i),(21,.ro (.ints .i64 bk) 0 bk.length),(22,ag bk.length),(23,ag j),(44,.aC 0 0 t.length),(45,ag x)] I (UB _) I (by show dM.length+1≤(dM++[(bM,(j:Int))]).length;rw [c8];exact bT _) aE ?_;refine dw [some ⟨24,ka (A.set x dM)⟩,some ⟨57,.box (eQ b8 pl bM bk cx cU)⟩,none] I ?_;have Sq:(dM++[(bM,(j:Int))]).length=dM.length+1:=by rw [c8];rfl
      refine bP 56 (.ro (kV (dM++[(bM,(j:Int))])) 0 (dM++[(bM,(j:Int))]).length) I (aR.of_eq (by rw [Sq])) ?_;generalize dM++[(bM,(j:Int))]=l9 at*;refine bn ?_;refine bH 13 I af af af I (gd I I I I I (by first|(simp only [cT,cg,fE];exact I)|exact I) J) I ?_;refine br 14 ?_;refine lK I I I I I I I BD ?_;refine fj [some ⟨24,ka ((A.set x dM).set x l9)⟩,some ⟨57,.box (eQ b8 pl bM bk cx cU)⟩,none] (aM.eqv (WQ [] A4 (A.set x dM) x l9 _ BD I) (aM.refl _)) (bn ?_);refine dX af ?_;repeat (refine j2 ?_)
      refine b0 ?_;refine fm [some ⟨24,ka ((A.set x dM).set x l9)⟩,some ⟨57,.box (eQ b8 pl bM bk cx cU)⟩] [none] [(0,.ro (bV t) 0 t.length),(1,.int .i64 p),(5,.aC 0 0 t.length),(6,ag i),(7,.ptr 1 0 0),(13,.ro (bV t) 0 t.length),(14,ag t.length),(15,ag i),(21,.ro (.ints .i64 bk) 0 bk.length),(22,ag bk.length),(23,ag j)] I aE hp (Gq (Vu _ _) (amN _ _ _ _ _ _ _)) I (bq ?_);exact b4 ⟨j+1,J,J,aE,by rw [mQ,dS,wD,xA]⟩
    ·rw [fG g1,fT g2,ax aT] at wD;refine bo ?_;exact b4 ⟨j+1,J,J,aE,by rw [mQ,dS,wD]⟩
   ·rw [fT g1,uA,ax aT] at wD;refine bc ?_;exact b4 ⟨j+1,J,J,aE,by rw [mQ,dS,wD]⟩
  ·have ho:j=bk.length:=J;subst ho;rw [e7,←l2];refine fu ?_;refine b0 ?_;refine fm [some ⟨24,ka GS⟩] [some ⟨57,.box (eQ b8 pl bM bk cx cU)⟩] [(0,.ro (bV t) 0 t.length),(1,.int .i64 p),(5,.aC 0 0 t.length),(13,.ro (bV t) 0 t.length),(14,ag t.length),(15,ag i)] I aE hp (p1 (Vu _ _)) I (bq ?_);exact b4 ⟨i+1,J,J,aE,by rw [Ht]⟩
 ·have df:i=t.length:=J;subst df;refine hx ?_;refine kv 0 5 t.length [] I (alS _) I (by show t.length≤(hM t p t.length).length;rw [FP];exact bT _) trivial (bF ?_);exact aX aq I I
abbrev mj (F:List (Int×Nat)):Cells:= .mp (F.map (fun x=> .int .i64 x.1)) (F.map (fun x=>ag x.2))
theorem uh (F:List (Int×Nat)): ∀x∈F.map (fun x:Int×Nat=>ak.int .i64 x.1),nf (.int .i64) x=true:=by intro x ar;obtain ⟨e,_,rfl⟩:=cO.1 ar;rfl
theorem yG {m:List (Int×Nat)}{k:Int}{s:Nat}(h:fY m k=some s): ∃j:Nat,(m.map (fun x:Int×Nat=>ak.int .i64 x.1))[j]? =some (.int .i64 k)∧(m.map (fun x:Int×Nat=>ak.int .i64 (x.2:Nat)))[j]? =some (ag s):=by obtain ⟨j,ae⟩:=List.getElem?_of_mem (wW h);exact ⟨j,by rw [ly,ae];rfl,by rw [ly,ae];rfl⟩
theorem CQ {m:List (Int×Nat)}{k:Int}(h:fY m k=none):ak.int .i64 k∉m.map (fun x:Int×Nat=>ak.int .i64 x.1):=by intro hm;obtain ⟨x,ar,e⟩:=cO.1 hm;have:=Fy h;injection e with aH aJ;exact this (cO.2 ⟨x,ar,aJ⟩)
theorem CK (F:List (Int×Nat))(n:Nat):fz n (mj F):=⟨wU (fun _=>rfl) F,wU (fun _=>rfl) F⟩
theorem QC {p:Int}{b8 pl bM:Int}{bk:List Int}{cx:List di}{cU:di}:own p ⟨b8,pl,bM,bk,cx,cU⟩=(decide (b8=2) && decide (pl=p)):=rfl
theorem Jy (t:aK)(p:Int)(b2:jR t)(ai:Valid t):bs Tryz.prog 89 [.ro (bV t) 0 t.length,.int .i64 p] (.bool (jo t p)):=by
 have hlen:=b2.len;have Lq:=ai.le;have vZ:=ala t p b2 ai;have zE:(sP t p).length=t.length:=FP t p t.length;have LC:=anL ai p;have aeN: ∀n i,i≤n→sT t p (sP t p) i=false→sT t p (sP t p) n=false:=by
  intro n;induction n with
  |zero=>
   intro i aa h;obtain rfl:i=0:=J;exact h
  |succ n ba=>
   intro i aa h;by_cases e:i=n+1
   ·subst e;exact h
   ·rw [sT,ba i J h];rfl
 refine cf Tryz.f89 fun c aq bI=> ?_;have aq:c.R=fun dB _=>dB= .bool (sT t p (sP t p) t.length):=aq;generalize sP t p=W at*;refine bF ?_;refine aO I I I vZ (bF ?_);refine CB (bq ?_);refine cp (ι:=Nat) (fun i=>[(0,.ro (bV t) 0 t.length),(1,.int .i64 p),(5,.ro (ka W) 0 t.length),(6,.mp 0),(15,.ro (bV t) 0 t.length),(16,ag t.length),(17,ag i)]) (fun i=>[some ⟨185,mj (kS t p i)⟩])
  (fun i=>i≤t.length∧sT t p W i=true) (fun i=>t.length-i) 0 ⟨aE,rfl,b7 _,rfl⟩ ?_
 rintro i ⟨aa,la⟩;refine bh ?_;refine bm I (fun h=> ?_) (fun h=> ?_)
 ·have aL:i<t.length:=J;have mr:kS t p (i+1)=if own p (t.getD i aP)=true∧fY (kS t p i) (t.getD i aP).info=none then kS t p i++[((t.getD i aP).info,i)] else kS t p i:=rfl
  have nA:sT t p W (i+1)=(sT t p W i && (if own p (t.getD i aP)=true then (match fY (kS t p i) (t.getD i aP).info with|none=>true|some k=>decide (W.getD i []=W.getD k [])) else true)):=rfl;have adX: ∀x∈kS t p i,x.2<i:=fun x ar=>(N1 ar).1;have fU:=aeN t.length (i+1) J;rw [la,mM] at nA;generalize Ej:kS t p (i+1)=oA at*;generalize kS t p i=F at*;generalize zC:sT t p W (i+1)=zc at*;refine bc ?_;refine bP 21 (.agg (kU (t.getD i aP))) I (aR.of_eq I) ?_;generalize t.getD i aP=n at*;obtain ⟨b8,pl,bM,bk,cx,cU⟩:=n;simp only at*;refine dA (c':= .box (eQ b8 pl bM bk cx cU)) I I I I I I I ?_;refine dw [some ⟨185,mj F⟩,some ⟨57,.box (eQ b8 pl bM bk cx cU)⟩] I (bo ?_);refine gQ I I (fun g1=> ?_) (fun g1=> ?_)
  ·rw [QC,fT g1,uA] at mr nA;rw [ax (by rintro ⟨q,_⟩;cases q)] at mr;rw [ax aT] at nA;repeat (first|refine cR ?_|refine sI rfl rfl rfl ?_|refine ao (lO rfl rfl) ?_)
   refine b0 ?_;repeat (first|refine rv rfl ?_|refine qO ?_|refine qK ?_|refine qJ ?_)
   refine b0 ?_;refine fm [some ⟨185,mj (F)⟩] [some ⟨57,.box (eQ b8 pl bM bk cx cU)⟩] [(0,.ro (bV t) 0 t.length),(1,.int .i64 p),(5,.ro (ka W) 0 t.length),(6,.mp 0),(15,.ro (bV t) 0 t.length),(16,ag t.length),(17,ag i)] I aE hp (p1 (CK _ _)) I (bq ?_);exact b4 ⟨i+1,⟨J,by rw [zC,nA]⟩,J,aE,by rw [Ej,mr]⟩
  have g1:=e0.1 g1;refine bo ?_;refine bm I (fun g2=> ?_) (fun g2=> ?_)
  ·rw [QC,fG g1,fT g2,mM] at mr nA;rw [ax (by rintro ⟨q,_⟩;cases q)] at mr;rw [ax aT] at nA;refine fu ?_;refine b0 ?_;refine fm [some ⟨185,mj (F)⟩] [some ⟨57,.box (eQ b8 pl bM bk cx cU)⟩] [(0,.ro (bV t) 0 t.length),(1,.int .i64 p),(5,.ro (ka W) 0 t.length),(6,.mp 0),(15,.ro (bV t) 0 t.length),(16,ag t.length),(17,ag i)] I aE hp (p1 (CK _ _)) I (bq ?_);exact b4 ⟨i+1,⟨J,by rw [zC,nA]⟩,J,aE,by rw [Ej,mr]⟩
  have g2:=e0.1 g2;rw [QC,fG g1,fG g2,mM] at mr nA;rw [aA rfl] at nA;refine bo ?_;cases cH:fY F bM with
  |none=>
   rw [cH,aA ⟨rfl,rfl⟩] at mr;rw [cH] at nA;simp only at nA;refine ao (IQ I (.int I) I I I I I I I I (uh F) (CQ cH)) (bo ?_);refine Ct I (.int I) I I I I I (uh F) (CQ cH) ?_;refine dw [some ⟨185,mj (F++[(bM,i)])⟩,some ⟨57,.box (eQ b8 pl bM bk cx cU)⟩] (by unfold mj;rw [gV,gV];rfl) ?_;repeat (refine cR ?_)
   refine b0 ?_;refine fm [some ⟨185,mj (F++[(bM,i)])⟩] [some ⟨57,.box (eQ b8 pl bM bk cx cU)⟩] [(0,.ro (bV t) 0 t.length),(1,.int .i64 p),(5,.ro (ka W) 0 t.length),(6,.mp 0),(15,.ro (bV t) 0 t.length),(16,ag t.length),(17,ag i)] I aE hp (p1 (CK _ _)) I (bo ?_);exact b4 ⟨i+1,⟨J,by rw [zC,nA]⟩,J,aE,by rw [Ej,mr]⟩
  |some sA=>
   rw [cH,ax (by rintro ⟨_,q⟩;cases q)] at mr;rw [cH] at nA;simp only at nA;obtain ⟨l3,i1,i2⟩:=yG cH;have pJ:=adX _ (wW cH);simp only at pJ;have aqL:sA<t.length:=J;have MH: ∀z,(W.getD z []).length≤9223372036854775807:=fun z=>Pp (P:=fun w:oy=>w.length≤9223372036854775807) (fun w hw=>dN (LC w hw) aT) (b7 _) z;have aaA:=abR (W.getD i []) (W.getD sA []) (MH i) (MH sA);refine ao (tK I (.int I) I I I I (uh F) l3 i1 i2) (bo ?_);refine eg af ?_;refine eK (fuel:=0) [0,1,2,3,4,5,6,7,8,9] [(0,.ro (bV t) 0 t.length),(1,.int .i64 p),(5,.ro (ka W) 0 t.length),(6,.mp 0),(15,.ro (bV t) 0 t.length),(16,ag t.length),(17,ag i),(7,ag i),(8,.ptr 1 0 0),(9,ag sA)] aE af aT I I ?_;refine cY ?_;refine dW I I I I I aaA ?_;refine cY ?_;refine eI ?_;refine dX af ?_;repeat (refine b0 ?_)
   by_cases he:W.getD i []=W.getD sA []
   ·rw [fG he] at nA⊢;refine fu ?_;refine b0 ?_;refine fm [some ⟨185,mj (F)⟩] [some ⟨57,.box (eQ b8 pl bM bk cx cU)⟩] [(0,.ro (bV t) 0 t.length),(1,.int .i64 p),(5,.ro (ka W) 0 t.length),(6,.mp 0),(15,.ro (bV t) 0 t.length),(16,ag t.length),(17,ag i)] I aE hp (p1 (CK _ _)) I (bq ?_);exact b4 ⟨i+1,⟨J,by rw [zC,nA]⟩,J,aE,by rw [Ej,mr]⟩
   ·rw [fT he] at nA⊢;rw [fU nA] at aq;refine bc ?_;exact aX aq I I
 ·have df:i=t.length:=J;subst df;rw [la] at aq;refine bo ?_;exact aX aq I I
def qS (s:fk):List ak:=[.int .i64 s.info,.int .i64 s.choice,.int .i64 s.before]
abbrev gv (l:List fk):Cells:=fi cZ 3 qS l
theorem alK (s:fk)(j h:Nat)(ae:j<3):((qS s).getD j .any).forget h=(qS s).getD j .any:=by
 match j,ae with
 |0,_=>rfl
 |1,_=>rfl
 |2,_=>rfl
theorem alL (s:fk)(j:Nat):cM ((qS s).getD j .any)=true:=by
 match j with
 |0=>rfl
 |1=>rfl
 |2=>rfl
 |_+3=>rfl
theorem UN (l:List fk):eZ (gv l):=by intro i j _ ae;exact alL _ j
theorem TX (s:fk)(j:Nat)(ae:j<3):(fN 1 3 [.int .i64 s.info,.int .i64 s.choice,.int .i64 s.before]).at 0 j=(qS s).getD j .any:=by
 match j,ae with
 |0,_=>rfl
 |1,_=>rfl
 |2,_=>rfl
abbrev kW (n N:Nat):Cells:= .box [.aC 0 0 n,.aC 1 0 N]
abbrev lR (N:Nat)(f:nW)(L:aZ):aZ:=some ⟨178,gv f.cA⟩::some ⟨3,.ints .i64 f.pos⟩::some ⟨147,kW f.cA.length N⟩::some ⟨185,mj f.first⟩::L
theorem ZE (p:Int)(n:ep)(i:Nat)(f:nW):f.cA.length≤(fX p n i f).cA.length:=by
 unfold fX;split
 ·show _≤(_++_:List fk).length;rw [c8];omega
 ·exact bT _
theorem WW (t:aK)(p:Int)(i:Nat): ∀e,(dc t p i).cA.length≤(dc t p (i+e)).cA.length
 |0=>bT _
 |e+1=>by rw [←ju,dc,y5];exact dN (WW t p i e) (ZE _ _ _ _)
theorem XE {t:aK}(ai:Valid t)(p:Int){i:Nat}(aa:i≤t.length):(dc t p i).cA.length≤61:=by have U:=WW t p i (t.length-i);rw [show i+(t.length-i)=t.length by omega] at U;exact dN U (AI ai p)
theorem amO (l:List fk)(n:Nat):fz n (gv l):=by
 intro i j _ ae;have ae:j<3:=ae
 match j,ae with
 |0,_=>rfl
 |1,_=>rfl
 |2,_=>rfl
theorem N5 (N:Nat)(f:nW): ∀(h:Nat) (o:bl),(lR N f [])[h]? =some (some o)→fz 4 o.c:=by
 intro h o ah
 match h,ah with
 |0,ah=>cases ah;exact amO _ _
 |1,ah=>cases ah;exact Ay _ _ _
 |2,ah=>
  cases ah;intro i j _ ae;have ae:j<2:=ae
  match j,ae with
  |0,_=>rfl
  |1,_=>rfl
 |3,ah=>cases ah;exact CK _ _
 |_+4,ah=>simp at ah
theorem ZK {p:Int}{n:ep}{i:Nat}{f:nW}(U:own p n=true)(ab:fY f.first n.info=none):fX p n i f=⟨f.cA++nI n (f.pos.getD i 0),f.pos,f.first++[(n.info,f.cA.length)]⟩:=by unfold fX;rw [aA ⟨U,ab⟩]
theorem ZG {p:Int}{n:ep}{i:Nat}{f:nW}{s:Nat}(ab:fY f.first n.info=some s):fX p n i f=f:=by unfold fX;rw [ax (by rintro ⟨_,q⟩;rw [ab] at q;cases q)]
theorem add_not {p:Int}{n:ep}{i:Nat}{f:nW}(U:own p n=false):fX p n i f=f:=by unfold fX;rw [ax (by rintro ⟨q,_⟩;rw [U] at q;cases q)]
theorem N2 {α:Type}{h:Nat}{f:α→ak}(aQ: ∀x,(f x).forget h=f x): ∀l:List α,ak.kj h (l.map f)=l.map f
 |[]=>rfl
 |a::r=>by show (f a).forget h::ak.kj h (r.map f)=f a::r.map f;rw [aQ a,N2 aQ r]
theorem Od (F:List (Int×Nat))(h:Nat):cu ((mj F).forget h) (mj F):=by
 have e:(mj F).forget h=mj F:=by show Cells.mp (ak.kj h _) (ak.kj h _)=_;rw [N2 (fun _=>rfl),N2 (fun _=>rfl)]
 rw [e];exact cu.refl _
def rX (n:ep)(b:Int)(k:Nat):List fk:=(List.range k).map (fun k:Nat=>⟨n.info,(k:Int),b⟩)
theorem aoU (n:ep)(b:Int)(k:Nat):rX n b (k+1)=rX n b k++[⟨n.info,(k:Int),b⟩]:=by unfold rX;rw [ti,gV];rfl
theorem ace (N:Nat)(f:nW)(bM:Int)(n:ep)(b:Int)(L:aZ):lR N ⟨f.cA++rX n b 0,f.pos,f.first++[(bM,f.cA.length)]⟩ L=some ⟨178,gv f.cA⟩::some ⟨3,.ints .i64 f.pos⟩::some ⟨147,kW f.cA.length N⟩::some ⟨185,.mp (f.first.map (fun x=> .int .i64 x.1)++[.int .i64 bM]) (f.first.map (fun x=>ag x.2)++[ag f.cA.length])⟩::L:=by have e:f.cA++rX n b 0=f.cA:=k2 _;simp only [lR,e,mj,gV,k6,th]
theorem ahl (n:ep)(b:Int)(k:Nat):(rX n b k).length=k:=by simp [rX]
theorem Tt (t:aK)(p:Int)(b2:jR t)(ai:Valid t):ch Tryz.prog 91 [.ro (bV t) 0 t.length,.int .i64 p] [] (fun _=>False) (fun r bK=>r= .ptr 2 0 0∧bK=lR t.length (dc t p t.length) []):=by
 have hlen:=b2.len;have Lq:=ai.le;have RJ:=ai.ne;refine gl (P:=Tryz.prog) (fn:=Tryz.f91) I I af I (fun c aq bI=> ?_);refine oi ?_;refine u9 I I I I I I I I I I (bq ?_);refine mf I I I I I I I I (by show 0≤_∧_≤_∧(8:Int)*_≤_∧_;omega) (uY ?_);refine CB ?_;refine fj (lR t.length (dc t p 0) []) ?_ ?_
 ·refine aM.eqv ⟨I,I,fun i j aa ae=> ?_⟩ (aM.eqv (cu.refl _) (aM.eqv (cu.refl _) (aM.eqv (cu.refl _) aM.nil)));have ae:j<3:=ae;obtain rfl:=fw.1 (show i<1 from aa)
  match j,ae with
  |0,_=>rfl
  |1,_=>rfl
  |2,_=>rfl
 refine bq ?_;refine cp (ι:=Nat) (fun i=>[(0,.ro (bV t) 0 t.length),(1,.int .i64 p),(5,.ptr 2 0 0),(6,.mp 3),(23,.ro (bV t) 0 t.length),(24,ag t.length),(25,ag i)]) (fun i=>lR t.length (dc t p i) [])
  (fun i=>i≤t.length) (fun i=>t.length-i) 0 ⟨aE,rfl,b7 _⟩ ?_
 intro i aa;refine bh ?_;refine bm I (fun h=> ?_) (fun h=> ?_)
 ·have aL:i<t.length:=J;have mW:=b2.node _ (iR aP aL);have qt:=ai.behind aL;have H6:=ai.BB aL;have Lw:=hP.mm ai p i aa;obtain ⟨_,_,_,_,_,_,_,GU,_,K7⟩:=hP.add ai Lw aL Lw Lw.ll.1;have gP:=XE ai p aa;have BQ:=XE ai p (show i+1≤t.length by omega);have adZ:=w2 t p i;have l2:dc t p (i+1)=⟨(fX p (t.getD i aP) i (dc t p i)).cA,dI (vD p (t.getD i aP) i (fX p (t.getD i aP) i (dc t p i))) (t.getD i aP).next 0 (fX p (t.getD i aP) i (dc t p i)).pos,(fX p (t.getD i aP) i (dc t p i)).first⟩:=by rw [dc,y5,OA]
  have xQ:(fX p (t.getD i aP) i (dc t p i)).pos.length=t.length:=by rw [NX];exact adZ
  rw [l2] at BQ;simp only at BQ;obtain ⟨s1,s2,u3,IA⟩:=mW;refine bc ?_;refine bP 29 (.agg (kU (t.getD i aP))) I (aR.of_eq I) ?_;generalize t.getD i aP=n at*;generalize dc t p i=f at*;obtain ⟨b8,pl,bM,bk,cx,cU⟩:=n;simp only at*;refine dA (c':= .box (eQ b8 pl bM bk cx cU)) I I I I I I I ?_;refine dw (lR t.length f [some ⟨57,.box (eQ b8 pl bM bk cx cU)⟩]) I ?_;refine bP 8 (.ptr 4 0 0) I (aR.of_eq I) ?_;have tA:own p ⟨b8,pl,bM,bk,cx,cU⟩=(decide (b8=2) && decide (pl=p)):=rfl;generalize rk:vD p ⟨b8,pl,bM,bk,cx,cU⟩ i (fX p ⟨b8,pl,bM,bk,cx,cU⟩ i f)=v at*;have iy: ∀k,v k=if own p ⟨b8,pl,bM,bk,cx,cU⟩=true then (((fY (fX p ⟨b8,pl,bM,bk,cx,cU⟩ i f).first bM).getD 0:Nat):Int)+(k:Int) else (fX p ⟨b8,pl,bM,bk,cx,cU⟩ i f).pos.getD i 0:=fun k=>by rw [←rk];rfl
  have ads:= @ZK p ⟨b8,pl,bM,bk,cx,cU⟩ i f;have ado:= @ZG p ⟨b8,pl,bM,bk,cx,cU⟩ i f;have adn:= @add_not p ⟨b8,pl,bM,bk,cx,cU⟩ i f;generalize al:own p ⟨b8,pl,bM,bk,cx,cU⟩=b at*;apply kQ (H:=lR t.length f [some ⟨57,.box (eQ b8 pl bM bk cx cU)⟩]) [(0,.ro (bV t) 0 t.length),(1,.int .i64 p),(5,.ptr 2 0 0),(6,.mp 3),(7,ag i),(8,.ptr 4 0 0),(9,.bool b),(23,.ro (bV t) 0 t.length),(24,ag t.length),(25,ag i)]
  ·intro fin;refine bo ?_;refine gQ I I (fun g1=> ?_) (fun g1=> ?_)
   ·repeat (first|refine ao (bE rfl) ?_|refine ao (du rfl) ?_|refine cR ?_|refine kR rfl rfl ?_|refine ao (hO rfl rfl rfl rfl rfl) ?_|refine ao (pk rfl rfl) ?_|refine ao (lO rfl rfl) ?_|refine ao (de rfl rfl rfl rfl rfl rfl) ?_)
    refine b0 ?_;refine ds 9 (.bool b) I (aR.of_eq (by rw [tA,fG g1,mM])) ?_;exact fin _ aE
   ·repeat (first|refine ao (du rfl) ?_|refine cR ?_|refine sI rfl rfl rfl ?_|refine ao (lO rfl rfl) ?_)
    refine b0 ?_;refine ds 9 (.bool b) I (aR.of_eq (by rw [tA,fT g1,uA])) ?_;exact fin _ aE
  cases b
  ·have c2:=adn rfl;generalize fX p ⟨b8,pl,bM,bk,cx,cU⟩ i f=g at*;subst c2;simp only [r9,hH] at iy;refine bo ?_;refine cp (ι:=Nat) (fun k=>[(0,.ro (bV t) 0 t.length),(1,.int .i64 p),(5,.ptr 2 0 0),(6,.mp 3),(7,ag i),(8,.ptr 4 0 0),(9,.bool false),(23,.ro (bV t) 0 t.length),(24,ag t.length),(25,ag i),(85,.ro (.ints .i64 bk) 0 bk.length),(86,ag bk.length),(87,ag k)]) (fun k=>lR t.length ⟨g.cA,dI v (bk.take k) 0 g.pos,g.first⟩ [some ⟨57,.box (eQ b8 pl bM bk cx cU)⟩])
    (fun k=>k≤bk.length) (fun k=>bk.length-k) 0 ⟨aE,rfl,b7 _⟩ ?_
   intro k an;refine bh ?_;refine bm I (fun bL=> ?_) (fun bL=> ?_)
   ·have bO:k<bk.length:=J;obtain ⟨ei,ew⟩:=qt _ (dt 0 bO);have iL:(dI v (bk.take k) 0 g.pos).length=t.length:=by rw [w6];exact xQ
    have ra:(dI v (bk.take k) 0 g.pos).getD i 0=g.pos.getD i 0:=tP v 0 _ _ _ (fun c aw=>by have:=qt c (pz aw);omega);have dS:dI v (bk.take (k+1)) 0 g.pos=(dI v (bk.take k) 0 g.pos).set (bk.getD k 0).toNat (v k):=by rw [Az bO,AA,fc,hY an,cT]
    have E0:=iy k;generalize mQ:dI v (bk.take (k+1)) 0 g.pos=y7 at*;generalize dI v (bk.take k) 0 g.pos=A at*;obtain ⟨x,ar⟩:=oP (show 0≤bk.getD k 0 by omega);have tC:(bk.getD k 0).toNat=x:=by rw [ar,cg]
    rw [ar] at ei ew;rw [tC] at dS;have od:x<A.length:=J;have mT:i<A.length:=J;have SZ:x<(A.set x (A.getD i 0)).length:=by rw [dd];exact od
    refine bc ?_;refine ds 14 (ag x) I (aR.of_eq (by rw [ar])) ?_;refine eg af ?_;refine eK (fuel:=1) [0,1,2,3,4,5,6,7,8,9,10,11,12] [(0,.ro (bV t) 0 t.length),(1,.int .i64 p),(5,.ptr 2 0 0),(6,.mp 3),(7,ag i),(8,.ptr 4 0 0),(9,.bool false),(23,.ro (bV t) 0 t.length),(24,ag t.length),(25,ag i),(85,.ro (.ints .i64 bk) 0 bk.length),(86,ag bk.length),(87,ag k),(13,ag k),(14,ag x)] aE af aT I I ?_;refine cY ?_;refine eI ?_;refine br 13 ?_;refine cJ ?_;refine dX af (bo ?_);exact b4 ⟨k+1,J,J,aE,by rw [mQ,dS,E0,←ra];rfl⟩
   ·have jz:k=bk.length:=J;subst jz;rw [e7];refine fu ?_;refine b0 ?_;refine fm (lR t.length ⟨g.cA,dI v bk 0 g.pos,g.first⟩ []) [some ⟨57,.box (eQ b8 pl bM bk cx cU)⟩] [(0,.ro (bV t) 0 t.length),(1,.int .i64 p),(5,.ptr 2 0 0),(6,.mp 3),(23,.ro (bV t) 0 t.length),(24,ag t.length),(25,ag i)] I aE hp (N5 _ _) I (bq ?_);exact b4 ⟨i+1,J,J,aE,by rw [l2]⟩
  ·obtain ⟨s,av⟩:=K7 rfl;obtain ⟨l3,i1,i2⟩:=yG av;have j0:=(GU _ (wW av)).2.1;simp only at j0;simp only [gf] at iy;rw [av] at iy;simp only [px] at iy;refine bo ?_;cases cH:fY f.first bM with
   |some ll=>
    have c2:=ado cH;refine ao (tK I (.int I) I I I I (uh f.first) (yG cH).choose (yG cH).choose_spec.1 (yG cH).choose_spec.2) ?_;generalize fX p ⟨b8,pl,bM,bk,cx,cU⟩ i f=g at*;subst c2;obtain ⟨l3,i1,i2⟩:=yG av;refine bo ?_;refine cp (ι:=Nat) (fun k=>[(0,.ro (bV t) 0 t.length),(1,.int .i64 p),(5,.ptr 2 0 0),(6,.mp 3),(7,ag i),(8,.ptr 4 0 0),(9,.bool true),(23,.ro (bV t) 0 t.length),(24,ag t.length),(25,ag i),(85,.ro (.ints .i64 bk) 0 bk.length),(86,ag bk.length),(87,ag k)]) (fun k=>lR t.length ⟨g.cA,dI v (bk.take k) 0 g.pos,g.first⟩ [some ⟨57,.box (eQ b8 pl bM bk cx cU)⟩])
     (fun k=>k≤bk.length) (fun k=>bk.length-k) 0 ⟨aE,rfl,b7 _⟩ ?_
    intro k an;refine bh ?_;refine bm I (fun bL=> ?_) (fun bL=> ?_)
    ·have bO:k<bk.length:=J;obtain ⟨ei,ew⟩:=qt _ (dt 0 bO);have iL:(dI v (bk.take k) 0 g.pos).length=t.length:=by rw [w6];exact xQ
     have ra:(dI v (bk.take k) 0 g.pos).getD i 0=g.pos.getD i 0:=tP v 0 _ _ _ (fun c aw=>by have:=qt c (pz aw);omega);have dS:dI v (bk.take (k+1)) 0 g.pos=(dI v (bk.take k) 0 g.pos).set (bk.getD k 0).toNat (v k):=by rw [Az bO,AA,fc,hY an,cT]
     have E0:=iy k;generalize mQ:dI v (bk.take (k+1)) 0 g.pos=y7 at*;generalize dI v (bk.take k) 0 g.pos=A at*;obtain ⟨x,ar⟩:=oP (show 0≤bk.getD k 0 by omega);have tC:(bk.getD k 0).toNat=x:=by rw [ar,cg]
     rw [ar] at ei ew;rw [tC] at dS;have od:x<A.length:=J;have mT:i<A.length:=J;have SZ:x<(A.set x (A.getD i 0)).length:=by rw [dd];exact od
     refine bc ?_;refine ds 14 (ag x) I (aR.of_eq (by rw [ar])) ?_;refine eg af ?_;refine eK (fuel:=1) [0,1,2,3,4,5,6,7,8,9,10,11,12] [(0,.ro (bV t) 0 t.length),(1,.int .i64 p),(5,.ptr 2 0 0),(6,.mp 3),(7,ag i),(8,.ptr 4 0 0),(9,.bool true),(23,.ro (bV t) 0 t.length),(24,ag t.length),(25,ag i),(85,.ro (.ints .i64 bk) 0 bk.length),(86,ag bk.length),(87,ag k),(13,ag k),(14,ag x)] aE af aT I I ?_;refine cY ?_;refine eI ?_;refine br 13 ?_;refine cJ ?_;refine NY (lR t.length ⟨g.cA,A.set x (A.getD i 0),g.first⟩ [some ⟨57,.box (eQ b8 pl bM bk cx cU)⟩]) (aM.refl _) ?_;refine dX af (bo ?_);refine eg af ?_;refine eK (fuel:=1) [0,1,2,3,4,5,6,7,8,9,10,11] [(0,.ro (bV t) 0 t.length),(1,.int .i64 p),(5,.ptr 2 0 0),(6,.mp 3),(7,ag i),(8,.ptr 4 0 0),(9,.bool true),(23,.ro (bV t) 0 t.length),(24,ag t.length),(25,ag i),(85,.ro (.ints .i64 bk) 0 bk.length),(86,ag bk.length),(87,ag k),(13,ag k),(14,ag x)] aE af aT I I ?_;refine bU I I (bE I) ?_;refine bU I I (kC I) ?_;refine bU I I (de I I I I I I) ?_;refine bU I I (hO I I I I I) ?_;refine bU I I (bE I) ?_;refine bU I I (bE I) ?_;refine bU I I (de I I I I I I) ?_;refine bU I I (hO I I I I I) ?_;refine bU I I (tK I (.int I) I I I I (uh g.first) l3 i1 i2) ?_;refine cY ?_;refine eI ?_;refine br 12 ?_;refine cJ ?_;refine dX af (bo ?_);exact b4 ⟨k+1,J,J,aE,by rw [mQ,dS,E0];exact congrArg (fun l=>lR t.length ⟨g.cA,l,g.first⟩ [some ⟨57,.box (eQ b8 pl bM bk cx cU)⟩]) (xA ..)⟩
    ·have jz:k=bk.length:=J;subst jz;rw [e7];refine fu ?_;refine b0 ?_;refine fm (lR t.length ⟨g.cA,dI v bk 0 g.pos,g.first⟩ []) [some ⟨57,.box (eQ b8 pl bM bk cx cU)⟩] [(0,.ro (bV t) 0 t.length),(1,.int .i64 p),(5,.ptr 2 0 0),(6,.mp 3),(23,.ro (bV t) 0 t.length),(24,ag t.length),(25,ag i)] I aE hp (N5 _ _) I (bq ?_);exact b4 ⟨i+1,J,J,aE,by rw [l2]⟩
   |none=>
    have c2:=ads rfl cH;refine ao (IQ I (.int I) I I I I I I I I (uh f.first) (CQ cH)) ?_;generalize fX p ⟨b8,pl,bM,bk,cx,cU⟩ i f=g at*;obtain ⟨l3,i1,i2⟩:=yG av;simp only at c2;have BR:g.cA.length=f.cA.length+bk.length:=by rw [c2];simp [nI]
    have mT:i<f.pos.length:=J;refine bo ?_;refine eg af ?_;refine eK (fuel:=1) [0,1,2,3,4,5,6,7] [(0,.ro (bV t) 0 t.length),(1,.int .i64 p),(5,.ptr 2 0 0),(6,.mp 3),(7,ag i),(8,.ptr 4 0 0),(9,.bool true),(23,.ro (bV t) 0 t.length),(24,ag t.length),(25,ag i)] aE af aT I I ?_;refine cY ?_;refine eI ?_;refine br 8 ?_;refine Ct I (.int I) I I I I I (uh f.first) (CQ cH) (bn ?_);refine dX af (bo ?_);refine cp (ι:=Nat) (fun k=>[(0,.ro (bV t) 0 t.length),(1,.int .i64 p),(5,.ptr 2 0 0),(6,.mp 3),(7,ag i),(8,.ptr 4 0 0),(9,.bool true),(23,.ro (bV t) 0 t.length),(24,ag t.length),(25,ag i),(58,.ro (.ints .i64 bk) 0 bk.length),(59,ag bk.length),(60,ag k)]) (fun k=>lR t.length ⟨f.cA++rX ⟨b8,pl,bM,bk,cx,cU⟩ (f.pos.getD i 0) k,f.pos,f.first++[(bM,f.cA.length)]⟩ [some ⟨57,.box (eQ b8 pl bM bk cx cU)⟩])
     (fun k=>k≤bk.length) (fun k=>bk.length-k) 0 ⟨aE,(ace t.length f bM ⟨b8,pl,bM,bk,cx,cU⟩ (f.pos.getD i 0) [some ⟨57,.box (eQ b8 pl bM bk cx cU)⟩]).symm,b7 _⟩ ?_
    intro k an;refine bh ?_;refine bm I (fun bL=> ?_) (fun bL=> ?_)
    ·have bO:k<bk.length:=J;have nx:=aoU ⟨b8,pl,bM,bk,cx,cU⟩ (f.pos.getD i 0) k;have Ly:(f.cA++rX ⟨b8,pl,bM,bk,cx,cU⟩ (f.pos.getD i 0) k).length≤61:=by rw [c8,ahl];omega
     have mq:f.cA++rX ⟨b8,pl,bM,bk,cx,cU⟩ (f.pos.getD i 0) (k+1)=(f.cA++rX ⟨b8,pl,bM,bk,cx,cU⟩ (f.pos.getD i 0) k)++[(⟨bM,(k:Int),f.pos.getD i 0⟩:fk)]:=by rw [nx,lz]
     generalize acZ:f.cA++rX ⟨b8,pl,bM,bk,cx,cU⟩ (f.pos.getD i 0) (k+1)=e5 at*;generalize f.cA++rX ⟨b8,pl,bM,bk,cx,cU⟩ (f.pos.getD i 0) k=S at*;refine bn ?_;refine eg af ?_;apply tN (H:=lR t.length ⟨S,f.pos,f.first++[(bM,f.cA.length)]⟩ [some ⟨57,.box (eQ b8 pl bM bk cx cU)⟩]) [(0,.ro (bV t) 0 t.length),(1,.int .i64 p),(5,.ptr 2 0 0),(6,.mp 3),(7,ag i),(8,.ptr 4 0 0),(9,.bool true),(23,.ro (bV t) 0 t.length),(24,ag t.length),(25,ag i),(58,.ro (.ints .i64 bk) 0 bk.length),(59,ag bk.length),(60,ag k),(12,ag k),(63,.ptr 2 0 0),(67,.aC 0 0 S.length),(79,.ro (fN 1 3 [.int .i64 bM,ag k,.int .i64 (f.pos.getD i 0)]) 0 1)]
     ·intro hA;refine bH 0 I af af af I (bE I) I ?_;refine bH 1 I af af af I (bE I) I ?_;refine bH 5 I af af af I (de I I I I I I) I ?_;refine bH 7 I af af af I (bE I) I ?_;refine bH 8 I af af af I (bE I) I ?_;refine bH 12 I af af af I (bE I) I ?_;refine bH 2 I af af af I (kC I) I ?_;refine bH 9 I af af af I (kC I) I ?_;refine bH 3 I af af af I (de I I I I I I) I ?_;refine bH 10 I af af af I (de I I I I I I) I ?_;refine tJ (is:=[4,6,11]) af bX I ⟨fun o ah=> ?_,fun o ah=> ?_,fun o ah=> ?_,trivial⟩;all_goals (cases ah)
      ·refine bh ?_;refine dQ 6 11 ?_ ?_
       ·refine bh ?_;refine br 11 ?_;refine bh ?_;refine bH 13 I af af af I (gd I I I I I (by first|(simp only [cT,cg,fE];exact I)|exact I) J) I ?_;refine br 14 ?_;refine cJ ?_;refine bH 15 I af af af I (iZ I I I I I I) I ?_;refine br 16 ?_;refine bq ?_;exact hA _ aE
       ·refine bh ?_;refine bH 13 I af af af I (gd I I I I I (by first|(simp only [cT,cg,fE];exact I)|exact I) J) I ?_;refine dQ 6 14 ?_ ?_
        ·refine bh ?_;refine br 14 ?_;refine cJ ?_;refine bH 15 I af af af I (iZ I I I I I I) I ?_;refine br 16 ?_;refine bq ?_;exact hA _ aE
        ·refine cJ ?_;refine br 6 ?_;refine bh ?_;refine bH 15 I af af af I (iZ I I I I I I) I ?_;refine br 16 ?_;refine bq ?_;exact hA _ aE
      ·refine bh ?_;refine dQ 4 11 ?_ ?_
       ·refine bh ?_;refine br 11 ?_;refine bh ?_;refine bH 13 I af af af I (gd I I I I I (by first|(simp only [cT,cg,fE];exact I)|exact I) J) I ?_;refine br 14 ?_;refine cJ ?_;refine bH 15 I af af af I (iZ I I I I I I) I ?_;refine br 16 ?_;refine bq ?_;exact hA _ aE
       ·refine bh ?_;refine bH 13 I af af af I (gd I I I I I (by first|(simp only [cT,cg,fE];exact I)|exact I) J) I ?_;refine dQ 4 14 ?_ ?_
        ·refine bh ?_;refine br 14 ?_;refine cJ ?_;refine bH 15 I af af af I (iZ I I I I I I) I ?_;refine br 16 ?_;refine bq ?_;exact hA _ aE
        ·refine cJ ?_;refine bH 15 I af af af I (iZ I I I I I I) I ?_;refine dQ 4 16 ?_ ?_
         ·refine bh ?_;refine br 16 ?_;refine bq ?_;exact hA _ aE
         ·refine bq ?_;refine br 4 ?_;refine bh ?_;exact hA _ aE
      ·refine bh ?_;refine bH 13 I af af af I (gd I I I I I (by first|(simp only [cT,cg,fE];exact I)|exact I) J) I ?_;refine tJ (is:=[4,6,14]) af bX I ⟨fun o ah=> ?_,fun o ah=> ?_,fun o ah=> ?_,trivial⟩;all_goals (cases ah)
       ·refine bh ?_;refine dQ 6 14 ?_ ?_
        ·refine bh ?_;refine br 14 ?_;refine cJ ?_;refine bH 15 I af af af I (iZ I I I I I I) I ?_;refine br 16 ?_;refine bq ?_;exact hA _ aE
        ·refine cJ ?_;refine br 6 ?_;refine bh ?_;refine bH 15 I af af af I (iZ I I I I I I) I ?_;refine br 16 ?_;refine bq ?_;exact hA _ aE
       ·refine bh ?_;refine dQ 4 14 ?_ ?_
        ·refine bh ?_;refine br 14 ?_;refine cJ ?_;refine bH 15 I af af af I (iZ I I I I I I) I ?_;refine br 16 ?_;refine bq ?_;exact hA _ aE
        ·refine cJ ?_;refine bH 15 I af af af I (iZ I I I I I I) I ?_;refine dQ 4 16 ?_ ?_
         ·refine bh ?_;refine br 16 ?_;refine bq ?_;exact hA _ aE
         ·refine bq ?_;refine br 4 ?_;refine bh ?_;exact hA _ aE
       ·refine cJ ?_;refine dQ 4 6 ?_ ?_
        ·refine bh ?_;refine br 6 ?_;refine bh ?_;refine bH 15 I af af af I (iZ I I I I I I) I ?_;refine br 16 ?_;refine bq ?_;exact hA _ aE
        ·refine bh ?_;refine bH 15 I af af af I (iZ I I I I I I) I ?_;refine dQ 4 16 ?_ ?_
         ·refine bh ?_;refine br 16 ?_;refine bq ?_;exact hA _ aE
         ·refine bq ?_;refine br 4 ?_;refine bh ?_;exact hA _ aE
     ·refine br 17 ?_;refine dy I I I I I I I I I I I I dT I (by show (S.length+1)*24≤_∧_;omega) ?_ c3 ?_
      ·intro aG a7 aL bd;exact hF cZ 3 qS alK S ⟨bM,(k:Int),f.pos.getD i 0⟩ _ (TX ⟨bM,(k:Int),f.pos.getD i 0⟩) 0 aG a7 aL bd
      refine fj [some ⟨178,gv (S++[(⟨bM,(k:Int),f.pos.getD i 0⟩:fk)])⟩,some ⟨3,.ints .i64 f.pos⟩,some ⟨147,.box [.any,.aC 1 0 t.length]⟩,some ⟨185,mj (f.first++[(bM,f.cA.length)])⟩,some ⟨57,.box (eQ b8 pl bM bk cx cU)⟩] (aM.eqv (ha cZ 3 qS S ⟨bM,(k:Int),f.pos.getD i 0⟩ _ (TX ⟨bM,(k:Int),f.pos.getD i 0⟩)) (aM.eqv (cu.refl _) (aM.eqv (cu.refl _) (aM.eqv (Od _ _) (aM.eqv (cu.refl _) aM.nil))))) (bn ?_);refine bH 18 I af af af I (kC I) I ?_;refine bH 19 I af af af I (de I I I I I I) I ?_;refine br 20 ?_;refine oi ?_;refine NY (lR t.length ⟨S++[(⟨bM,(k:Int),f.pos.getD i 0⟩:fk)],f.pos,f.first++[(bM,f.cA.length)]⟩ [some ⟨57,.box (eQ b8 pl bM bk cx cU)⟩]) (aM.eqv (cu.refl _) (aM.eqv (cu.refl _) (aM.eqv (by show cu (kW (S.length+1) t.length) (kW (S++[(⟨bM,(k:Int),f.pos.getD i 0⟩:fk)]).length t.length);rw [c8];exact cu.refl _) (aM.refl _)))) ?_;refine dX af (bo ?_);exact b4 ⟨k+1,J,J,aE,by rw [acZ,mq]⟩
    ·have jz:k=bk.length:=J;subst jz;refine bo ?_;refine jk (lR t.length g [some ⟨57,.box (eQ b8 pl bM bk cx cU)⟩]) (by rw [c2];rfl) ?_;refine cp (ι:=Nat) (fun k=>[(0,.ro (bV t) 0 t.length),(1,.int .i64 p),(5,.ptr 2 0 0),(6,.mp 3),(7,ag i),(8,.ptr 4 0 0),(9,.bool true),(23,.ro (bV t) 0 t.length),(24,ag t.length),(25,ag i),(85,.ro (.ints .i64 bk) 0 bk.length),(86,ag bk.length),(87,ag k)]) (fun k=>lR t.length ⟨g.cA,dI v (bk.take k) 0 g.pos,g.first⟩ [some ⟨57,.box (eQ b8 pl bM bk cx cU)⟩])
      (fun k=>k≤bk.length) (fun k=>bk.length-k) 0 ⟨aE,rfl,b7 _⟩ ?_
     intro k an;refine bh ?_;refine bm I (fun bL=> ?_) (fun bL=> ?_)
     ·have bO:k<bk.length:=J;obtain ⟨ei,ew⟩:=qt _ (dt 0 bO);have iL:(dI v (bk.take k) 0 g.pos).length=t.length:=by rw [w6];exact xQ
      have ra:(dI v (bk.take k) 0 g.pos).getD i 0=g.pos.getD i 0:=tP v 0 _ _ _ (fun c aw=>by have:=qt c (pz aw);omega);have dS:dI v (bk.take (k+1)) 0 g.pos=(dI v (bk.take k) 0 g.pos).set (bk.getD k 0).toNat (v k):=by rw [Az bO,AA,fc,hY an,cT]
      have E0:=iy k;generalize mQ:dI v (bk.take (k+1)) 0 g.pos=y7 at*;generalize dI v (bk.take k) 0 g.pos=A at*;obtain ⟨x,ar⟩:=oP (show 0≤bk.getD k 0 by omega);have tC:(bk.getD k 0).toNat=x:=by rw [ar,cg]
      rw [ar] at ei ew;rw [tC] at dS;have od:x<A.length:=J;have mT:i<A.length:=J;have SZ:x<(A.set x (A.getD i 0)).length:=by rw [dd];exact od
      refine bc ?_;refine ds 14 (ag x) I (aR.of_eq (by rw [ar])) ?_;refine eg af ?_;refine eK (fuel:=1) [0,1,2,3,4,5,6,7,8,9,10,11,12] [(0,.ro (bV t) 0 t.length),(1,.int .i64 p),(5,.ptr 2 0 0),(6,.mp 3),(7,ag i),(8,.ptr 4 0 0),(9,.bool true),(23,.ro (bV t) 0 t.length),(24,ag t.length),(25,ag i),(85,.ro (.ints .i64 bk) 0 bk.length),(86,ag bk.length),(87,ag k),(13,ag k),(14,ag x)] aE af aT I I ?_;refine cY ?_;refine eI ?_;refine br 13 ?_;refine cJ ?_;refine NY (lR t.length ⟨g.cA,A.set x (A.getD i 0),g.first⟩ [some ⟨57,.box (eQ b8 pl bM bk cx cU)⟩]) (aM.refl _) ?_;refine dX af (bo ?_);refine eg af ?_;refine eK (fuel:=1) [0,1,2,3,4,5,6,7,8,9,10,11] [(0,.ro (bV t) 0 t.length),(1,.int .i64 p),(5,.ptr 2 0 0),(6,.mp 3),(7,ag i),(8,.ptr 4 0 0),(9,.bool true),(23,.ro (bV t) 0 t.length),(24,ag t.length),(25,ag i),(85,.ro (.ints .i64 bk) 0 bk.length),(86,ag bk.length),(87,ag k),(13,ag k),(14,ag x)] aE af aT I I ?_;refine bU I I (bE I) ?_;refine bU I I (kC I) ?_;refine bU I I (de I I I I I I) ?_;refine bU I I (hO I I I I I) ?_;refine bU I I (bE I) ?_;refine bU I I (bE I) ?_;refine bU I I (de I I I I I I) ?_;refine bU I I (hO I I I I I) ?_;refine bU I I (tK I (.int I) I I I I (uh g.first) l3 i1 i2) ?_;refine cY ?_;refine eI ?_;refine br 12 ?_;refine cJ ?_;refine dX af (bo ?_);exact b4 ⟨k+1,J,J,aE,by rw [mQ,dS,E0];exact congrArg (fun l=>lR t.length ⟨g.cA,l,g.first⟩ [some ⟨57,.box (eQ b8 pl bM bk cx cU)⟩]) (xA ..)⟩
     ·have jz:k=bk.length:=J;subst jz;rw [e7];refine fu ?_;refine b0 ?_;refine fm (lR t.length ⟨g.cA,dI v bk 0 g.pos,g.first⟩ []) [some ⟨57,.box (eQ b8 pl bM bk cx cU)⟩] [(0,.ro (bV t) 0 t.length),(1,.int .i64 p),(5,.ptr 2 0 0),(6,.mp 3),(23,.ro (bV t) 0 t.length),(24,ag t.length),(25,ag i)] I aE hp (N5 _ _) I (bq ?_);exact b4 ⟨i+1,J,J,aE,by rw [l2]⟩
 ·have df:i=t.length:=J;subst df;refine bo ?_;exact aX aq I ⟨I,I⟩
theorem UG {t:aK}{p:Int}(h:rI t p=0):Valid t:=by
 unfold rI at h;split at h
 ·rename_i U;exact absurd h U
 ·rename_i U;exact FU (e0.1 U)
theorem amE {t:aK}{p:Int}(h:y3 t p=0):Valid t∧jo t p=true∧rI t p=0:=by
 unfold y3 at h;split at h
 ·rename_i U;exact absurd h U
 rename_i U;have ab:=e0.1 U;split at h
 ·rename_i ay;exact ⟨UG ab,ay,ab⟩
 ·cases h
theorem aiK (t:aK)(p:Int)(b2:jR t):bs Tryz.prog 110 [.ro (bV t) 0 t.length,.int .i64 p] (.int .i64 (y3 t p)):=by
 have jV:=WK t p b2;refine cf Tryz.f110 fun c aq bI=> ?_;unfold y3 at aq;refine bF ?_;refine aO I I I jV (bq ?_);refine bm I (fun U=> ?_) (fun U=> ?_)
 ·rw [aA U] at aq;refine c4 ?_;exact aX aq I I
 rw [ax U] at aq;have ci:=Jy t p b2 (UG (e0.1 U));generalize jo t p=b at*;refine bn ?_;refine aO I I I ci ?_;cases b
 ·rw [ax aT] at aq;refine bo ?_;exact aX aq I I
 ·rw [aA rfl] at aq;refine bo ?_;exact aX aq I I
end Go.Proofs.YtmpnheilfejcpaaGreatDoor
namespace Go.Proofs.YtmpnheilfejcpaaGreatDoor
open Go.aj Go.aj.dn Go.aj.cX Go.RowKit Go.aj.kD Go.aj.eP
def jv (c:gJ):List ak:=[.int .i64 c.info,.ro (.strs c.c1) 0 c.c1.length]
abbrev cI (s:da):Cells:=fi fe 2 jv s
structure Bf (c:gJ):Prop where
 c1:c.c1.length≤9223372036854775807
 each: ∀s∈c.c1,s.length≤9223372036854775807
theorem aiL {H:Type}{enc:TypeId×Value→H}{W:World}:gm enc Tryz.prog W 57 6 kU DP:=
 (gm.struct Tryz.underlying57 af (oE.cons rfl rfl (gm.int Tryz.underlying3) (oE.cons rfl rfl (gm.int Tryz.underlying3) (oE.cons rfl rfl (gm.int Tryz.underlying3) (oE.cons rfl rfl (gm.ints Tryz.underlying55 af Tryz.underlying3) (oE.cons rfl rfl (gm.strs Tryz.underlying31 af Tryz.underlying27) (oE.cons rfl rfl (gm.str Tryz.underlying27) oE.nil))))))).map
  (fun a=>(⟨a.1,a.2.1,a.2.2.1,a.2.2.2.1,a.2.2.2.2.1,a.2.2.2.2.2.1⟩:ep)) (fun a h=>⟨h.2.2.2.1.1,h.2.2.2.2.1.1,h.2.2.2.2.1.2,h.2.2.2.2.2.1⟩) (fun a=>rfl) (fun a i aa=>aR.uW)
theorem X1 {H:Type}{enc:TypeId×Value→H}{W:World}:gm enc Tryz.prog W 136 2 jv Bf:=
 (gm.struct Tryz.underlying136 af (oE.cons rfl rfl (gm.int Tryz.underlying3) (oE.cons rfl rfl (gm.strs Tryz.underlying31 af Tryz.underlying27) oE.nil))).map
  (fun a=>(⟨a.1,a.2.1⟩:gJ)) (fun a h=>⟨h.2.1.1,h.2.1.2⟩) (fun a=>rfl) (fun a i aa=>aR.uW)
end Go.Proofs.YtmpnheilfejcpaaGreatDoor
namespace Go.Proofs.YtmpnheilfejcpaaGreatDoor
open Go.aj Go.aj.dn Go.aj.cX Go.RowKit Go.aj.kD Go.aj.eP
attribute [local irreducible] aj eJ b1 ch hc
structure s7 (s:da):Prop where
 len:s.length≤9223372036854775807
 each: ∀c∈s,Bf c
theorem Jb (t:aK)(p:Int)(s:da)(hlen:t.length≤9223372036854775807)(av:s7 s):bs Tryz.prog 111 [.ro (bV t) 0 t.length,.int .i64 p,.ro (cI s) 0 s.length] (.int .i64 (lN t p s)):=by
 have cs:=Ks t p hlen;have j0:=av.len;have H9:(lq t p).length=(cv t p).length:=by unfold lq;simp
 refine cf Tryz.f111 fun c aq bI=> ?_;unfold lN at aq;generalize cv t p=b6 at*;generalize lq t p=Z at*;refine bF ?_;refine aO I I I cs (bq ?_);refine bm I (fun U=> ?_) (fun U=> ?_)
 ·rw [aA J] at aq;refine c4 ?_;exact aX aq I I
 rw [ax J] at aq;have au:s.length=b6.length:=J;refine bq ?_;refine cp (ι:=Nat) (fun i=>[(0,.ro (bV t) 0 t.length),(7,.ro (.ints .i64 b6) 0 b6.length),(8,.ro (.ints .i64 Z) 0 Z.length),(23,.ro (cI s) 0 s.length),(24,ag s.length),(25,ag i)]) (fun _=>[])
  (fun i=>i≤s.length∧ub b6 Z 0 s=ub b6 Z i (s.drop i)) (fun i=>s.length-i) 0 ⟨aE,rfl,b7 _,by rw [sd]⟩ ?_
 rintro i ⟨aa,dJ⟩;refine bh ?_;refine bm I (fun h=> ?_) (fun h=> ?_)
 ·have aL:i<s.length:=J;have aw:=av.each _ (iR fe aL);rw [amC aL] at dJ;have co:=Ys (s.getD i fe).c1 aw.c1 aw.each;have oc:=aw.c1;refine bc ?_;refine bP 29 (.agg (jv (s.getD i fe))) I (aR.of_eq I) ?_;generalize s.getD i fe=x at*;obtain ⟨bM,cx⟩:=x;simp only at*;refine dA (c':= .box [.int .i64 bM,.ro (.strs cx) 0 cx.length]) I I I I I I I ?_;have aqI:i<b6.length:=J;have aqJ:i<Z.length:=J;refine bF ?_;refine eg af ?_;by_cases g1:bM=b6.getD i 0
  case neg=>
   rw [aA (.inl g1)] at dJ;rw [dJ] at aq;refine eK (fuel:=0) [0,1,2,3,4,5,6,7,8,9,10,11,12,13,14,15,16] [(0,.ro (bV t) 0 t.length),(7,.ro (.ints .i64 b6) 0 b6.length),(8,.ro (.ints .i64 Z) 0 Z.length),(23,.ro (cI s) 0 s.length),(24,ag s.length),(25,ag i),(9,ag i),(10,.ptr 0 0 0)] aE af aT I I ?_;refine bU I I (de I I I I I I) ?_;refine bU I I (hO I I I I I) ?_;refine bU I I (bE I) ?_;refine bU I I (bE I) ?_;refine bU I I (h8 I I I I (by first|(simp only [cT,cg,fE];exact I)|exact I) J) ?_;refine bU I I (vc I I I) ?_;refine bU I I (rR I I) ?_;rw [fG g1];refine cY ?_;refine jK I I I I I ?_;refine jK I I I I I ?_;refine jK I I I I I ?_;refine jK I I I I I ?_;refine jK I I I I I ?_;refine jK I I I I I ?_;refine jK I I I I I ?_;refine jK I I I I I ?_;refine cY ?_;refine eI ?_;refine dX af (bc ?_);exact aX aq I I
  refine eK (fuel:=0) [0,1,2,3,4,5,6,7,8,9,10,11,12,13,14,15,16] [(0,.ro (bV t) 0 t.length),(7,.ro (.ints .i64 b6) 0 b6.length),(8,.ro (.ints .i64 Z) 0 Z.length),(23,.ro (cI s) 0 s.length),(24,ag s.length),(25,ag i),(9,ag i),(10,.ptr 0 0 0)] aE af aT I I ?_;refine bU I I (de I I I I I I) ?_;refine bU I I (hO I I I I I) ?_;refine bU I I (bE I) ?_;refine bU I I (bE I) ?_;refine bU I I (h8 I I I I (by first|(simp only [cT,cg,fE];exact I)|exact I) J) ?_;refine bU I I (vc I I I) ?_;refine bU I I (rR I I) ?_;rw [fT (fun q=>q g1)];refine cY ?_;refine iF I I I I (de I I I I I I) ?_;refine iF I I I I (hO I I I I I) ?_;refine iF I I I I (fP I I I) ?_;refine iF I I I I (bE I) ?_;refine iF I I I I (bE I) ?_;refine iF I I I I (h8 I I I I (by first|(simp only [cT,cg,fE];exact I)|exact I) J) ?_;refine iF I I I I (vc I I I) ?_;refine iF I I I I (rR I I) ?_;refine cY ?_;refine eI ?_;refine dX af ?_;repeat (refine b0 ?_)
  refine bm I (fun g2=> ?_) (fun g2=> ?_)
  ·rw [aA (.inr g2)] at dJ;rw [dJ] at aq;refine bc ?_;exact aX aq I I
  rw [ax (by
   rintro (q|q)
   ·exact q g1
   ·exact g2 q)] at dJ
  refine bo ?_;refine aO I I I co (bq ?_);refine bm I (fun g3=> ?_) (fun g3=> ?_)
  ·rw [aA g3] at dJ;rw [dJ] at aq;refine bc ?_;exact aX aq I I
  rw [ax g3] at dJ;refine fu ?_;refine b0 ?_;refine fm [] [some ⟨136,.box [.int .i64 bM,.ro (.strs cx) 0 cx.length]⟩] [(0,.ro (bV t) 0 t.length),(7,.ro (.ints .i64 b6) 0 b6.length),(8,.ro (.ints .i64 Z) 0 Z.length),(23,.ro (cI s) 0 s.length),(24,ag s.length),(25,ag i)] I aE hp (fun h o ah=>by simp at ah) I (bq ?_);exact b4 ⟨i+1,⟨J,dJ⟩,J,aE,I⟩
 ·have df:i=s.length:=J;subst df;rw [qj] at dJ;rw [dJ] at aq;refine bo ?_;exact aX aq I I
def sW (c:gJ):ak:= .int .i64 c.info
def u6 (c:gJ):ak:= .ro (aN (c.c1.map cE)) 0 (c.c1.map cE).length
abbrev Ag (s:da):Cells:= .mp (s.map sW) (s.map u6)
theorem GG (s:da): ∀x∈s.map sW,nf (.int .i64) x=true:=by intro x ar;obtain ⟨e,_,rfl⟩:=cO.1 ar;rfl
theorem aoe (s:da)(n:Nat):fz n (Ag s):=by exact ⟨wU (fun _=>rfl) s,wU (fun _=>rfl) s⟩
theorem amy (s:da):eZ (Ag s):=⟨FA (fun _=>rfl) s,FA (fun _=>rfl) s⟩
theorem Xg (s:da)(av:s7 s)(aI:(s.map gJ.info).Nodup)(ai: ∀c∈s,c.c1.length≤256∧ ∀r∈c.c1,jO r=0):bs Tryz.prog 112 [.ro (cI s) 0 s.length] (.hr (s.map sW) (s.map u6)):=by
 have j0:=av.len;refine ch.value (K:=fun r H=>r= .mp 0∧H=[some ⟨175,Ag s⟩]) (gl (P:=Tryz.prog) (fn:=Tryz.f112) I I af I (fun c aq bI=> ?_)) (fix:=fun _=>False) (fun _ h=>h) I ?_
 ·refine bF ?_;refine ao UL (bF ?_);refine CB (bq ?_);refine cp (ι:=Nat) (fun i=>[(3,.mp 0),(7,.ro (cI s) 0 s.length),(8,ag s.length),(9,ag i)]) (fun i=>[some ⟨175,Ag (s.take i)⟩])
   (fun i=>i≤s.length) (fun i=>s.length-i) 0 ⟨aE,rfl,b7 _⟩ ?_
  intro i aa;refine bh ?_;refine bm I (fun h=> ?_) (fun h=> ?_)
  ·have aL:i<s.length:=J;have hm:=iR fe aL;have aw:=av.each _ hm;obtain ⟨v1,v2⟩:=ai _ hm;have cin:=AY (s.getD i fe).c1 J (fun r ad=>⟨aw.each r ad,v2 r ad⟩);have oc:=aw.c1;have jC:s.take (i+1)=s.take i++[s.getD i fe]:=by rw [nZ aL,eo fe aL]
   have ny:ak.int .i64 (s.getD i fe).info∉(s.take i).map sW:=by intro eH;obtain ⟨c,Er,rf⟩:=cO.1 eH;injection rf with aH aJ;obtain ⟨j,ae,rfl⟩:=k3 Er;rw [fc] at ae;rw [List.getElem_take] at aJ;have aF:=xy.1 aI j i (by simpa using (show j<s.length by omega)) (by simpa using aL) J;rw [kK,kK] at aF;rw [eo fe aL] at aJ;exact aF aJ
   refine bc ?_;refine bP 12 (.agg (jv (s.getD i fe))) I (aR.of_eq I) ?_;generalize s.getD i fe=x at*;obtain ⟨bM,cx⟩:=x;simp only at*;refine dA (c':= .box [.int .i64 bM,.ro (.strs cx) 0 cx.length]) I I I I I I I (bF ?_);refine eg af ?_;refine eK (fuel:=1) [0,1,2,3,4,5] [(3,.mp 0),(5,.ptr 1 0 0),(7,.ro (cI s) 0 s.length),(8,ag s.length),(9,ag i)] aE af aT I I ?_;refine cY ?_;refine dW I I I I I cin ?_;refine eI ?_;refine br 6 ?_;refine Ct I (.int I) I I I I I (GG _) ny (bn ?_);refine dX af ?_;repeat (refine j2 ?_)
   refine b0 ?_;refine jk [some ⟨175,Ag (s.take (i+1))⟩,some ⟨136,.box [.int .i64 bM,.ro (.strs cx) 0 cx.length]⟩] (by rw [jC];unfold Ag;rw [gV,gV];rfl) ?_;refine fm [some ⟨175,Ag (s.take (i+1))⟩] [some ⟨136,.box [.int .i64 bM,.ro (.strs cx) 0 cx.length]⟩] [(3,.mp 0),(7,.ro (cI s) 0 s.length),(8,ag s.length),(9,ag i)] I aE hp (p1 (aoe _ _)) I (bq ?_);exact b4 ⟨i+1,J,J,aE,I⟩
  ·have df:i=s.length:=J;subst df;rw [e7];refine bo ?_;exact aX aq I ⟨I,I⟩
 ·rintro r H ⟨rfl,rfl⟩;exact ⟨I,trivial,fun h o ah=>p8 (amy s) h o ah⟩
theorem OE {s:da}{c:gJ}(aw:c∈s): ∃j:Nat,(s.map sW)[j]? =some (.int .i64 c.info)∧(s.map u6)[j]? =some (.ro (aN (c.c1.map cE)) 0 (c.c1.map cE).length):=by obtain ⟨j,ae⟩:=List.getElem?_of_mem aw;exact ⟨j,by rw [ly,ae];rfl,by rw [ly,ae];rfl⟩
theorem JT (l:List Rat)(n:Nat):fz n (aN l):=by
 intro i j _ ae;have ae:j<3:=ae
 match j,ae with
 |0,_=>rfl
 |1,_=>rfl
 |2,_=>rfl
theorem YX (t:aK)(p:Int)(s:da)(b2:jR t)(av:s7 s):bs Tryz.prog 32 [.ro (bV t) 0 t.length,.int .i64 p,.ro (cI s) 0 s.length] (IG (DH t p s)):=by
 have bb:=aiK t p b2;have xM:=Jb t p s b2.len av;refine cf Tryz.f32 fun c aq bI=> ?_;unfold DH at aq;refine bF ?_;refine aO I I I bb (bq ?_);refine bm I (fun U=> ?_) (fun U=> ?_)
 ·rw [aA U] at aq;refine cJ ?_;refine ds 6 (.ro (.strs []) 0 0) I aR.nil (c4 ?_);exact aX aq I I
 rw [ax U] at aq;obtain ⟨ai,wx,_⟩:=amE (e0.1 U);refine bn ?_;refine aO I I I xM (bq ?_);refine bm I (fun ab=> ?_) (fun ab=> ?_)
 ·rw [aA ab] at aq;refine cJ ?_;refine ds 6 (.ro (.strs []) 0 0) I aR.nil (c4 ?_);exact aX aq I I
 rw [ax ab] at aq;have zB:=FF (e0.1 ab);have ade:=zB.Nr;have aI:(s.map gJ.info).Nodup:=by rw [zB.infos];exact Fs t p
 have co:=Xg s av aI (fun c aw=>⟨(vh (zB.c1 c aw)).1,(vh (zB.c1 c aw)).2.1⟩);have aaP:=Tt t p b2 ai;have Ex:=AI ai p;have SF:=TD ai ade;have gX:(ev t p (eR s)).length=(bN t p).length:=CT _ _ _;refine bn ?_;refine aO I I I co (bF ?_);refine rC I I I aaP (fun h aV=>absurd aV (gg _)) (fun h aV=>absurd aV id) ?_;rintro dB bK ⟨rfl,rfl⟩;refine fb ?_;refine kv 0 34 (bN t p).length [(10,.hr (s.map sW) (s.map u6)),(11,.nil),(35,ag ((bN t p).length)),(36,.int .i64 0)] I (UN _) I (by show (dc t p t.length).cA.length≤(dc t p t.length).cA.length;exact bT _) aE ?_;refine fm [] _ [(10,.hr (s.map sW) (s.map u6)),(11,.nil),(34,.ro (gv (bN t p)) 0 (bN t p).length),(35,ag ((bN t p).length)),(36,.int .i64 0)] I aE hp (fun h o ah=>by simp at ah) I ?_;refine jF 11 ⟨118,aN (ky (bN t p) (eR s) 0)⟩ I I ?_;repeat (refine fD ?_)
 refine cp (ι:=Nat) (fun k=>[(10,.hr (s.map sW) (s.map u6)),(11,.aC 0 0 k),(34,.ro (gv (bN t p)) 0 (bN t p).length),(35,ag ((bN t p).length)),(36,ag k)]) (fun k=>[some ⟨118,aN (ky (bN t p) (eR s) k)⟩])
  (fun k=>k≤(bN t p).length) (fun k=>(bN t p).length-k) 0 ⟨aE,rfl,b7 _⟩ ?_
 intro k an;refine bh ?_;refine bm I (fun h=> ?_) (fun h=> ?_)
 ·have bO:k<(bN t p).length:=J;have x0:ky (bN t p) (eR s) (k+1)=ky (bN t p) (eR s) k++[rD (eR s) ((bN t p).getD k cZ) (ky (bN t p) (eR s) k)]:=rfl;have fL:(ky (bN t p) (eR s) k).length=k:=CT _ _ _;have afu: ∀b,b<k→(ky (bN t p) (eR s) k).getD b 0=(ev t p (eR s)).getD b 0:=fun b al=>CF _ _ al J;have hB:=fun (U:1≤k)=>Dp ai U bO;have RF:=(qI ai p).2.1;generalize zC:ky (bN t p) (eR s) (k+1)=zc at*;generalize ky (bN t p) (eR s) k=P at*;refine bc ?_;refine bP 39 (.agg (qS ((bN t p).getD k cZ))) I (aR.of_eq I) ?_;by_cases pJ:k=0
  ·subst pJ;rw [RF] at x0;have x0:zc=P++[1]:=x0;refine bP 39 (.agg (qS cZ)) I (aR.of_eq (by rw [RF])) ?_;refine dA (c':= .box [.int .i64 (-1),.int .i64 (-1),.int .i64 (-1)]) I I I I I I I (bo ?_);refine aO I I I tZ ?_;unfold b9;repeat (refine h9 rfl rfl rfl rfl rfl rfl rfl rfl rfl rfl rfl ?_)
   refine dy I I I I I I I I I fL I I dT I (by show (0+1)*56≤_∧_;omega) ?_ c3 ?_
   ·intro aG j aa ae;exact hF 0 3 bW qL P 1 _ (j8 _) 0 aG j aa ae
   refine fj [some ⟨118,aN zc⟩,some ⟨178,.box [.int .i64 (-1),.int .i64 (-1),.int .i64 (-1)]⟩] ?_ ?_
   ·rw [x0];exact aM.eqv (ha 0 3 bW P 1 _ (j8 _)) (aM.eqv (cu.refl _) aM.nil)
   refine fu ?_;refine b0 ?_;refine fm [some ⟨118,aN zc⟩] [some ⟨178,.box [.int .i64 (-1),.int .i64 (-1),.int .i64 (-1)]⟩] [(10,.hr (s.map sW) (s.map u6)),(11,.aC 0 0 1),(34,.ro (gv (bN t p)) 0 (bN t p).length),(35,ag ((bN t p).length)),(36,ag 0)] I aE hp (p1 (JT _ _)) I (bq ?_);exact b4 ⟨1,J,J,aE,by rw [zC]⟩
  ·obtain ⟨x,b,tH,hE,iQ,nF,ru,yt,Ap,u7⟩:=hB J;have pM:=u7 (k-x.2) J;rw [show x.2+(k-x.2)=k by omega] at pM;rw [pM] at x0;obtain ⟨fB,dk,dO,eG,n7,q8⟩:=zB.at' hE;obtain ⟨l3,i1,i2⟩:=OE dk;rw [dO] at i1;have Hy:b<P.length:=J;have hn:k-x.2<(fB.c1.map cE).length:=by rw [cr];omega
   have x0:zc=P++[P.getD b 0*(fB.c1.map cE).getD (k-x.2) 0]:=by rw [x0];unfold rD;simp only;rw [ax J,cg,cg,eG]
   have Le:=AT (P.getD b 0) ((fB.c1.map cE).getD (k-x.2) 0) (by
    rw [afu b J];refine hg ((SF b J).mono ?_);have:2000*b≤2000*61:=hz _ J;omega) (hg (((vh q8).2.2.2 _ (dt 0 hn)).2.mono J))
   generalize dq:fB.c1.map cE=O at*;refine bP 39 (.agg (qS ⟨x.1,((k-x.2:Nat):Int),(b:Int)⟩)) I (aR.of_eq (by rw [pM])) ?_;refine dA (c':= .box [.int .i64 x.1,ag (k-x.2),ag b]) I I I I I I I (bo ?_);refine jk [some ⟨118,aN P⟩,some ⟨178,.box [.int .i64 x.1,ag (k-x.2),ag b]⟩] I ?_;refine ds 13 (.ptr 1 0 0) I (aR.of_eq I) ?_;refine eg af ?_;refine bH 0 I af af af I (bE I) I ?_;refine eK (fuel:=3) [1,2,3,4,5,6,7,8,9,10,11,12,13,14] [(10,.hr (s.map sW) (s.map u6)),(11,.aC 0 0 k),(13,.ptr 1 0 0),(34,.ro (gv (bN t p)) 0 (bN t p).length),(35,ag ((bN t p).length)),(36,ag k),(47,.aC 0 0 k)] aE af aT I I ?_;refine bU I I (bE I) ?_;refine bU I I (de I I I I I I) ?_;refine bU I I (hO I I I I I) ?_;refine bU I I (gd I I I I I (by first|(simp only [cT,cg,fE];exact I)|exact I) J) ?_;refine bU I I (Ix I I I I I I I) ?_;refine bU I I (bE I) ?_;refine bU I I (de I I I I I I) ?_;refine bU I I (hO I I I I I) ?_;refine bU I I (tK I (.int I) I I I I (GG s) l3 i1 i2) ?_;refine cY ?_;refine dW I I I I I Le ?_;refine eI ?_;unfold b9;refine br 15 ?_;refine bq ?_;refine br 16 ?_;refine dy I I I I I I I I I fL I I dT I (by show (k+1)*56≤_∧_;omega) ?_ c3 ?_
   ·intro aG j aa ae;exact hF 0 3 bW qL P _ _ (j8 _) 0 aG j aa ae
   refine fj [some ⟨118,aN zc⟩,some ⟨178,.box [.int .i64 x.1,ag (k-x.2),ag b]⟩] ?_ ?_
   ·rw [x0];exact aM.eqv (ha 0 3 bW P _ _ (j8 _)) (aM.eqv (cu.refl _) aM.nil)
   refine bn ?_;refine bH 17 I af af af I (du I) I ?_;refine dX af ?_;repeat (refine j2 ?_)
   refine b0 ?_;refine fm [some ⟨118,aN zc⟩] [some ⟨178,.box [.int .i64 x.1,ag (k-x.2),ag b]⟩] [(10,.hr (s.map sW) (s.map u6)),(11,.aC 0 0 (k+1)),(34,.ro (gv (bN t p)) 0 (bN t p).length),(35,ag ((bN t p).length)),(36,ag k)] I aE hp (p1 (JT _ _)) I (bq ?_);exact b4 ⟨k+1,J,J,aE,by rw [zC]⟩
 ·have jz:k=(bN t p).length:=J;subst jz;obtain ⟨r,xP,z1⟩:=FI (ev t p (eR s)) J (fun q aB=>by
   obtain ⟨i,aa,rfl⟩:=k3 aB;have bL:=SF i J;rw [eo 0 aa] at bL;refine hg (bL.mono ?_);have:2000*i≤2000*61:=hz _ J;omega)
  have afd:ky (bN t p) (eR s) (bN t p).length=ev t p (eR s):=rfl;rw [afd];generalize ev t p (eR s)=R at*;refine hx ?_;refine kv 0 11 (bN t p).length [] I (mx _) I (by show _≤R.length;omega) trivial ?_;refine ds 11 (.ro (aN R) 0 R.length) I (aR.of_eq (by rw [gX])) (bF ?_);refine aO I I I xP (oi ?_);refine ds 6 (.ro (.strs (lp R).1) 0 (lp R).1.length) I z1 ?_;repeat (refine mb ?_)
  exact aX aq I I
theorem Qg {t:aK}(ai:Valid t)(hlen:t.length≤40){o:dj}{d:Nat}(ah:nU t o d)(aw: ∀i,i<t.length→(t.getD i aP).kind=1→o i=some ((t.getD i aP).c1.map cE))(he: ∀i,i<t.length→(t.getD i aP).kind=0→o i=none)(hd:d≤2000:=by decide):DM t o:=by
 refine ⟨aw,he,fun i aa l au=> ?_,fun j ae=>hg ((FK ai ah hlen ae).mono J)⟩;obtain ⟨U,ab⟩:=ah.some i aa l au;have an:(t.getD i aP).kind≠0:=fun e=>by rw [he i aa e] at au;cases au
 have aI:1≤(t.getD i aP).next.length∧(t.getD i aP).next.length≤6:=by
  rcases ai.child aa with h|h
  ·exact absurd h.1 an
  ·exact ⟨(yA h.2).1,(yA h.2).2.1⟩
 exact ⟨J,J,J,fun q aB=>hg ((ab q aB).2.2.mono J)⟩
theorem Qf (t:aK)(hlen:t.length≤1000000):bs Tryz.prog 170 [.ro (bV t) 0 t.length] (.ro (.ints .i64 (eN t t.length)) 0 (eN t t.length).length):=by
 refine cf Tryz.f170 fun c aq bI=> ?_;refine fb ?_;refine jF 3 ⟨3,.ints .i64 []⟩ I I ?_;repeat (refine fD ?_)
 refine cp (ι:=Nat) (fun i=>[(3,.aC 0 0 (eN t i).length),(6,.ro (bV t) 0 t.length),(7,ag t.length),(8,ag i)]) (fun i=>[some ⟨3,.ints .i64 (eN t i)⟩])
  (fun i=>i≤t.length) (fun i=>t.length-i) 0 ⟨aE,rfl,b7 _⟩ ?_
 intro i aa;refine bh ?_;refine bm I (fun h=> ?_) (fun h=> ?_)
 ·have aL:i<t.length:=J;have mW:=Vl t i;have BM:=Ju t i;generalize tr:eN t (i+1)=QN at*;generalize eN t i=b6 at*;refine bc ?_;refine bP 12 (.agg (kU (t.getD i aP))) I (aR.of_eq I) ?_;generalize t.getD i aP=n at*;obtain ⟨b8,pl,bM,bk,cx,cU⟩:=n;simp only at*;refine dA (c':= .box (eQ b8 pl bM bk cx cU)) I I I I I I I ?_;refine dw [some ⟨3,.ints .i64 b6⟩,some ⟨57,.box (eQ b8 pl bM bk cx cU)⟩] I ?_;refine bP 5 (.ptr 1 0 0) I (aR.of_eq I) (bo ?_);refine bm I (fun U=> ?_) (fun U=> ?_)
  ·rw [aA U] at mW;refine bq ?_;refine dy I I I I I I I I I I I I dT I (by show (b6.length+1)*8≤_∧_;omega) (fun i j _ _=>rfl) c3 ?_;refine fu ?_;refine b0 ?_;refine fm [some ⟨3,.ints .i64 (b6++[(i:Int)])⟩] [some ⟨57,.box (eQ b8 pl bM bk cx cU)⟩] [(3,.aC 0 0 (b6.length+1)),(6,.ro (bV t) 0 t.length),(7,ag t.length),(8,ag i)] I aE hp (p1 (Ay _ _ _)) I (bq ?_);exact b4 ⟨i+1,J,J,⟨by rw [tr,mW,c8];rfl,I,I,I,trivial⟩,by rw [tr,mW]⟩
  ·rw [ax U] at mW;refine fu ?_;refine b0 ?_;refine fm [some ⟨3,.ints .i64 b6⟩] [some ⟨57,.box (eQ b8 pl bM bk cx cU)⟩] [(3,.aC 0 0 b6.length),(6,.ro (bV t) 0 t.length),(7,ag t.length),(8,ag i)] I aE hp (p1 (Ay _ _ _)) I (bq ?_);exact b4 ⟨i+1,J,J,⟨by rw [tr,mW];rfl,I,I,I,trivial⟩,by rw [tr,mW]⟩
 ·have df:i=t.length:=J;subst df;refine hx ?_;refine kv 0 3 (eN t t.length).length [] I ma I (by show (eN t t.length).length≤(eN t t.length).length;exact bT _) trivial (bF ?_);exact aX aq I I
abbrev jP (s:da):ak:= .hr (s.map sW) (s.map u6)
theorem WO (n:ep)(a b:da)(aF:n.gr=0∨n.gr=1)(c:gJ)(aw:c∈(if n.gr=0 then a else b))(aa:c.info=n.info):bs Tryz.prog 216 [.agg (kU n),.cK (.box [jP a,jP b]) 0 0] (.ro (aN (c.c1.map cE)) 0 (c.c1.map cE).length):=by
 obtain ⟨l3,i1,i2⟩:=OE aw;rw [aa] at i1;obtain ⟨b8,pl,bM,bk,cx,cU⟩:=n;simp only at*;refine cf Tryz.f216 fun c aq bI=> ?_;unfold kU;simp only;refine bc ?_;refine eg af ?_;rcases aF with aF|aF
 ·subst aF;rw [aA rfl] at i1 i2;refine eK (fuel:=0) [0,1,2,3,4,5,6,7] [(1,.cK (.box [jP a,jP b]) 0 0),(2,.ptr 0 0 0)] aE af aT I I ?_;refine bU I I (de I I I I I I) ?_;refine bU I I (hO I I I I I) ?_;refine bU I I (Jn I I I I (by first|(simp only [cT,cg];exact I)|exact I) J) ?_;refine bU I I (lo I I I I) ?_;refine bU I I (de I I I I I I) ?_;refine bU I I (hO I I I I I) ?_;refine bU I I (tK I (.int I) I I I I (GG a) l3 i1 i2) ?_;refine cY ?_;refine eI ?_;refine dX af (bF ?_);exact aX aq I I
 ·subst aF;rw [ax aT] at i1 i2;refine eK (fuel:=0) [0,1,2,3,4,5,6,7] [(1,.cK (.box [jP a,jP b]) 0 0),(2,.ptr 0 0 0)] aE af aT I I ?_;refine bU I I (de I I I I I I) ?_;refine bU I I (hO I I I I I) ?_;refine bU I I (Jn I I I I (by first|(simp only [cT,cg];exact I)|exact I) J) ?_;refine bU I I (lo I I I I) ?_;refine bU I I (de I I I I I I) ?_;refine bU I I (hO I I I I I) ?_;refine bU I I (tK I (.int I) I I I I (GG b) l3 i1 i2) ?_;refine cY ?_;refine eI ?_;refine dX af (bF ?_);exact aX aq I I
structure mK (t:aK)(p:Int)(s:da):Prop where
 short:s7 s
 ok:xp t p s
theorem mK.eX {t:aK}{p:Int}{s:da}(h:mK t p s):(s.map gJ.info).Nodup:=by rw [h.ok.infos];exact Fs t p
theorem mK.str {t:aK}{p:Int}{s:da}(h:mK t p s):mL t p (eR s) 2000:=h.ok.Nr
theorem mK.call {t:aK}{p:Int}{s:da}(h:mK t p s):bs Tryz.prog 112 [.ro (cI s) 0 s.length] (jP s):=
 Xg s h.short h.eX (fun c aw=>⟨(vh (h.ok.c1 c aw)).1,(vh (h.ok.c1 c aw)).2.1⟩)
theorem mK.node {t:aK}{p:Int}{s:da}(h:mK t p s)(ai:Valid t){i:Nat}(aa:i<t.length)(an:(t.getD i aP).kind=2)(aF:(t.getD i aP).gr=p): ∃c∈s,c.info=(t.getD i aP).info∧eR s (t.getD i aP).info=c.c1.map cE:=by
 have av:gG p (t.getD i aP).info (t.getD i aP)=true:=by unfold gG;rw [rH.2 ⟨an,aF⟩,fG rfl];rfl
 obtain ⟨c,dk,dO,eG,_⟩:=h.ok.at' ((o6 ai).2 ⟨i,aa,av⟩);exact ⟨c,dk,dO,eG⟩
def hT (t:aK)(a b:da):dj:=j7 t (eR a) (eR b)
theorem aie {t:aK}(ai:Valid t)(hm:Go.aj.cX.Modest t){a b:da}(a8:mK t 0 a)(al:mK t 1 b):DM t (hT t a b):=
 Qg ai hm.len (Qq ai hm a8.str al.str) (fun i aa an=>by unfold hT j7;rw [aA an]) (fun i aa an=>by unfold hT j7;rw [ax J,ax J])
theorem alR (a b:da):eZ (.box [jP a,jP b]):=by
 intro i j _ ae;have ae:j<2:=ae
 match j,ae with
 |0,_=>rfl
 |1,_=>rfl
theorem WT (t:aK)(a b:da)(b2:jR t)(ai:Valid t)(hm:Go.aj.cX.Modest t)(a8:mK t 0 a)(al:mK t 1 b):
 bs Tryz.prog 184 [.ro (bV t) 0 t.length,.ro (cI a) 0 a.length,.ro (cI b) 0 b.length] (.ro (aN (cj t (hT t a b))) 0 t.length):=by
 have U:=PL t (hT t a b) 216 [.cK (.box [jP a,jP b]) 0 0] rfl rfl b2 ai (aie ai hm a8 al) (fun i aa an=>by
  have aF:=At ai aa an;rcases aF with aF|aF
  ·obtain ⟨c,dk,dO,eG⟩:=a8.node ai aa an aF;have:=WO (t.getD i aP) a b (.inl aF) c (by rw [aA aF];exact dk) dO;have e:hT t a b i=some (c.c1.map cE):=by unfold hT j7;rw [ax J,aA an,aA aF,eG]
   rw [e];exact this
  ·obtain ⟨c,dk,dO,eG⟩:=al.node ai aa an aF;have:=WO (t.getD i aP) a b (.inr aF) c (by rw [ax J];exact dk) dO;have e:hT t a b i=some (c.c1.map cE):=by unfold hT j7;rw [ax J,aA an,ax J,eG]
   rw [e];exact this)
 have ql:=a8.call;have Lc:=al.call;refine cf Tryz.f184 fun c aq bI=> ?_;refine bF ?_;refine aO I I I ql ?_;repeat (refine ao (bE rfl) ?_)
 refine aO I I I Lc ?_;skip
 refine ao (aio I I I I I I) ?_;skip
 refine Wa I I I ?_;skip
 refine dA (c':= .box [jP a,jP b]) I I I I I I I ?_;refine hx ?_;refine jk [some ⟨280,.box [jP a,jP b]⟩] I ?_;refine Z0 (o:=⟨280,.box [jP a,jP b]⟩) (v:= .ptr 0 0 0) 7 [(0,.ro (bV t) 0 t.length)] (.cK (.box [jP a,jP b]) 0 0) (alR a b) rfl rfl (fun o ah=>by simp at ah;subst ah;exact fA) rfl aE ⟨rfl,trivial⟩ rfl (by rw [bI];exact fun h aV=>aV) ?_;refine fu ?_;refine aO I I I U (bF ?_);exact aX aq I I
theorem aiS (t:aK)(a b:da)(b2:jR t)(ai:Valid t)(hm:Go.aj.cX.Modest t)(a8:mK t 0 a)(al:mK t 1 b):
 bs Tryz.prog 109 [.ro (bV t) 0 t.length,.ro (cI a) 0 a.length,.ro (cI b) 0 b.length] (b9 (il t (hT t a b))):=by
 have U:=WT t a b b2 ai hm a8 al;have fL:=hm.len;have ab:=Qf t J;have BM:=Ju t t.length;have hw:=Qq ai hm a8.str al.str;have fa:(cj t (hT t a b)).length=t.length:=yJ t _ _;refine cf Tryz.f109 fun c aq bI=> ?_;refine bh ?_;refine aO I I I U (bF ?_);refine aO I I I mz ?_;repeat (refine mc rfl rfl rfl ?_)
 refine dA (c':= .box (bW 0)) I I I I I I I (bF ?_);refine aO I I I ab (bq ?_);have we:(eN t t.length).length=(cC t).length:=by rw [Jt,cr]
 refine cp (ι:=Nat) (fun k=>[(0,.ro (bV t) 0 t.length),(6,.ptr 0 0 0),(7,.ro (aN (cj t (hT t a b))) 0 t.length),(8,.ptr 1 0 0),(17,.ro (.ints .i64 (eN t t.length)) 0 (eN t t.length).length),(18,ag ((eN t t.length).length)),(19,ag k)]) (fun k=>[some ⟨118,.box [.bool false,.nil,.nil]⟩,some ⟨118,.box (bW (sX t (hT t a b) k))⟩])
  (fun k=>k≤(eN t t.length).length) (fun k=>(eN t t.length).length-k) 0 ⟨aE,rfl,b7 _⟩ ?_
 intro k an;refine bh ?_;refine bm I (fun h=> ?_) (fun h=> ?_)
 ·have bO:k<(cC t).length:=J;have EA:=OP t bO;obtain ⟨i1,i2⟩:=mZ (dt (l:=cC t) 0 bO);have wA:=Wh t (hT t a b) bO;have zX:=JG ai i1 i2;have gX:=(b2.node _ (dt aP i1)).iX;have jV:=C6 (t.getD ((cC t).getD k 0) aP).iX gX zX;have uE:=FK ai hw fL i1;have gp:=(hm.sC ai).nu _ i1 i2;have EW:=anK ai hw fL (hm.sC ai) (k:=k) J;have gW:=AT _ _ (hg (uE.mono (show 2000*40+1≤9*100000 by decide))) (hg (gp.mono aT));have xO:hN t (cj t (hT t a b)) ((cC t).getD k 0)=(cj t (hT t a b)).getD ((cC t).getD k 0) 0*cE (t.getD ((cC t).getD k 0) aP).iX:=rfl;have gW:bs Tryz.prog 99 [b9 ((cj t (hT t a b)).getD ((cC t).getD k 0) 0),b9 (cE (t.getD ((cC t).getD k 0) aP).iX)] (b9 (hN t (cj t (hT t a b)) ((cC t).getD k 0))):=gW;have ql:=Dk (sX t (hT t a b) k) (hN t (cj t (hT t a b)) ((cC t).getD k 0)) (hg (EW.mono aT)) (by
   rw [xO];exact hg ((uE.mul gp).mono aT))
  rw [←wA] at ql;have HA:k<(eN t t.length).length:=J;generalize RT:sX t (hT t a b) (k+1)=zf at*;generalize sX t (hT t a b) k=V at*;generalize dJ:hN t (cj t (hT t a b)) ((cC t).getD k 0)=E at*;generalize (cC t).getD k 0=i at*;refine yj ?_;refine c5 I ?_;refine hx ?_;refine ds 10 (ag i) I (aR.of_eq (by rw [EA])) ?_;skip
  refine eg af ?_;refine eK (fuel:=1) [0,1,2,3,4,5,6,7,8,9,10,11,12] [(10,ag i),(0,.ro (bV t) 0 t.length),(6,.ptr 0 0 0),(7,.ro (aN (cj t (hT t a b))) 0 t.length),(8,.ptr 1 0 0),(17,.ro (.ints .i64 (eN t t.length)) 0 (eN t t.length).length),(18,ag ((eN t t.length).length)),(19,ag k)] aE af aT I I ?_;refine cY ?_;refine dW I I I I I jV ?_;refine dW I I I I I gW ?_;refine dW I I I I I ql ?_;refine eI ?_;refine br 13 ?_;unfold b9;refine dA (c':= .box (bW zf)) I I I I I I I (bn ?_);refine dX af (bo ?_);exact b4 ⟨k+1,J,J,aE,by rw [RT];rfl⟩
 ·have df:k=(eN t t.length).length:=J;subst df;rw [we,akK];refine bc ?_;refine dA (c':= .box (bW (il t (hT t a b)))) I I I I I I I (bF ?_);exact aX aq I I
def ua (t:aK)(a b:da):Int:=if qV t≠0 then qV t else if lN t 0 a≠0 then lN t 0 a else lN t 1 b
theorem I8 {t:aK}{a b:da}(h:ua t a b=0):Valid t∧lN t 0 a=0∧lN t 1 b=0:=by
 unfold ua at h;by_cases U:qV t≠0
 ·rw [aA U] at h;exact absurd h U
 ·rw [ax U] at h;by_cases ab:lN t 0 a≠0
  ·rw [aA ab] at h;exact absurd h ab
  ·rw [ax ab] at h;exact ⟨FU (e0.1 U),e0.1 ab,h⟩
theorem Om (t:aK)(a b:da)(b2:jR t)(a8:s7 a)(al:s7 b):bs Tryz.prog 104 [.ro (bV t) 0 t.length,.ro (cI a) 0 a.length,.ro (cI b) 0 b.length] (.int .i64 (ua t a b)):=by
 have dk:=OZ t b2;have dO:=Jb t 0 a b2.len a8;have eG:=Jb t 1 b b2.len al;refine cf Tryz.f104 fun c aq bI=> ?_;unfold ua at aq;generalize qV t=aH at*;generalize lN t 0 a=aJ at*;generalize lN t 1 b=bR at*;refine bF ?_;refine aO I I I dk (bq ?_);refine bm I (fun U=> ?_) (fun U=> ?_)
 ·rw [aA U] at aq;refine c4 ?_;exact aX aq I I
 rw [ax U] at aq;refine bn ?_;refine aO I I I dO (bq ?_);refine bm I (fun ab=> ?_) (fun ab=> ?_)
 ·rw [aA ab] at aq;refine c4 ?_;exact aX aq I I
 rw [ax ab] at aq;refine bn ?_;refine aO I I I eG (bF ?_);exact aX aq I I
structure Small (t:aK)(a:List da):Prop where
 u4:jR t
 m:Go.aj.cX.Modest t
 s: ∀x∈a,s7 x
theorem Small.str {t:aK}{l:List da}(h:Small t l){s:da}(av:s∈l){p:Int}(he:lN t p s=0):mK t p s:=⟨h.s s av,FF he⟩
def vr (t:aK)(a b:da):di×Int:=if ua t a b≠0 then ([],ua t a b) else qb (il t (hT t a b))
def JO (t:aK)(a b:da):List di×Int:=if ua t a b≠0 then ([],ua t a b) else lp (cj t (hT t a b))
theorem WU (t:aK)(a b:da)(h:Small t [a,b]):bs Tryz.prog 31 [.ro (bV t) 0 t.length,.ro (cI a) 0 a.length,.ro (cI b) 0 b.length] (DG (vr t a b)):=by
 have dk:=Om t a b h.u4 (h.s a bX) (h.s b bX);refine cf Tryz.f31 fun c aq bI=> ?_;unfold vr at aq;refine bF ?_;refine aO I I I dk (bq ?_);refine bm I (fun U=> ?_) (fun U=> ?_)
 ·rw [aA U] at aq;refine c4 ?_;exact aX aq I I
 rw [ax U] at aq;obtain ⟨ai,lB,lC⟩:=I8 (e0.1 U);have yl:=h.str (s:=a) bX lB;have ym:=h.str (s:=b) bX lC;have dO:=aiS t a b h.u4 ai h.m yl ym;have eG:=QB (il t (hT t a b)) (hg ((PW ai (F8 ai h.m yl.str ym.str) h.m.len (h.m.sC ai)).mono (show 80500≤9*100000 by decide)));generalize il t (hT t a b)=q at*;refine bn ?_;refine aO I I I dO ?_;skip
 refine aO I I I eG (c4 ?_);exact aX aq I I
theorem aiR (t:aK)(a b:da)(h:Small t [a,b]):bs Tryz.prog 103 [.ro (bV t) 0 t.length,.ro (cI a) 0 a.length,.ro (cI b) 0 b.length] (IG (JO t a b)):=by
 have dk:=Om t a b h.u4 (h.s a bX) (h.s b bX);refine cf Tryz.f103 fun c aq bI=> ?_;unfold JO at aq;refine bF ?_;refine aO I I I dk (bq ?_);refine bm I (fun U=> ?_) (fun U=> ?_)
 ·rw [aA U] at aq;refine cJ ?_;refine ds 6 (.ro (.strs []) 0 0) I aR.nil (c4 ?_);exact aX aq I I
 rw [ax U] at aq;obtain ⟨ai,lB,lC⟩:=I8 (e0.1 U);have yl:=h.str (s:=a) bX lB;have ym:=h.str (s:=b) bX lC;have fL:=h.m.len;have dO:=WT t a b h.u4 ai h.m yl ym;have fa:(cj t (hT t a b)).length=t.length:=yJ t _ _;obtain ⟨r,eG,z1⟩:=FI (cj t (hT t a b)) J (fun q aB=>by
  obtain ⟨i,aa,rfl⟩:=k3 aB;have:=FK ai (Qq ai h.m yl.str ym.str) fL (j:=i) J;have e:(cj t (hT t a b)).getD i 0=(cj t (hT t a b))[i]:=eo 0 aa;rw [←e];exact hg (this.mono aT))
 rw [fa] at eG;generalize cj t (hT t a b)=R at*;refine bn ?_;refine aO I I I dO ?_;skip
 refine aO I I I eG (oi ?_);refine ds 6 (.ro (.strs (lp R).1) 0 (lp R).1.length) I z1 ?_;repeat (refine mb ?_)
 exact aX aq I I
abbrev ij (t:aK)(p:Int):ak:= .cK (.box [.ro (gv (bN t p)) 0 (bN t p).length,.ro (.ints .i64 (hv t p)) 0 t.length]) 0 0
theorem DF (t:aK)(p:Int)(b2:jR t)(ai:Valid t):bs Tryz.prog 91 [.ro (bV t) 0 t.length,.int .i64 p] (ij t p):=by
 have gX:(dc t p t.length).pos.length=t.length:=w2 t p _;refine ch.value (K:=fun r H=>r= .ptr 2 0 0∧H=[none,none,some ⟨147,.box [.ro (gv (bN t p)) 0 (bN t p).length,.ro (.ints .i64 (hv t p)) 0 t.length]⟩,none]) (ch.Rw (Tt t p b2 ai) ?_) (fix:=fun _=>False) (fun _ h=>h) I ?_
 ·rintro cV b5 ⟨rfl,rfl⟩;refine ⟨[some ⟨178,gv (dc t p t.length).cA⟩,some ⟨3,.ints .i64 (dc t p t.length).pos⟩,none,none],_,_,⟨?_,?_,?_,?_,.inl I⟩,I,I⟩
  ·intro h o ah
   match h,ah with
   |0,ah=>exact ah
   |1,ah=>exact ah
   |2,ah=>simp at ah
   |3,ah=>simp at ah
   |_+4,ah=>simp at ah
  ·intro h o ah
   match h,ah with
   |0,ah=>cases ah;exact UN _
   |1,ah=>cases ah;exact ma
   |2,ah=>simp at ah
   |3,ah=>simp at ah
   |_+4,ah=>simp at ah
  ·rfl
  ·intro h o ah
   match h,ah with
   |0,ah=>simp at ah
   |1,ah=>simp at ah
   |2,ah=>
    cases ah;refine ⟨fun o h=>by simp at h,_,I,I,I,I,fun i j aa ae=> ?_⟩;have ae:j<2:=ae;obtain rfl:=fw.1 (show i<1 from aa)
    match j,ae with
    |0,_=>exact .inr (.inr ⟨rfl,fun o ah=>by cases ah;show 0+(dc t p t.length).cA.length≤(dc t p t.length).cA.length;omega⟩)
    |1,_=>exact .inr (.inr ⟨rfl,fun o ah=>by cases ah;show 0+t.length≤(dc t p t.length).pos.length;omega⟩)
   |3,ah=>simp at ah
   |_+4,ah=>simp at ah
 ·rintro r H ⟨rfl,rfl⟩;refine ⟨rfl,fun o ah=>by cases ah;exact fA,fun h o ah=> ?_⟩
  match h,ah with
  |0,ah=>simp at ah
  |1,ah=>simp at ah
  |2,ah=>
   cases ah;intro i j _ ae;have ae:j<2:=ae
   match j,ae with
   |0,_=>rfl
   |1,_=>rfl
  |3,ah=>simp at ah
  |_+4,ah=>simp at ah
theorem Xm (n:ep)(p:Int)(s:da)(c:gJ)(aw:n.gr≠p→c∈s∧c.info=n.info):bs Tryz.prog 188 [.agg (kU n),.cK (.box [.int .i64 p]) 0 0,.cK (.box [jP s]) 0 0] (if n.gr=p then .nil else .ro (aN (c.c1.map cE)) 0 (c.c1.map cE).length):=by
 obtain ⟨b8,pl,bM,bk,cx,cU⟩:=n;simp only at*;by_cases aF:pl=p
 ·rw [aA aF];refine cf Tryz.f188 fun c aq bI=> ?_;unfold kU;simp only;refine uZ ?_;rw [fG aF];refine bo ?_;exact aX aq I I
 ·rw [ax aF];obtain ⟨U,ab⟩:=aw aF;obtain ⟨l3,i1,i2⟩:=OE U;rw [ab] at i1;refine cf Tryz.f188 fun c aq bI=> ?_;unfold kU;simp only;refine uZ ?_;rw [fT aF];refine fb ?_;refine ao (tK I (.int I) I I I I (GG s) l3 i1 i2) (bF ?_);exact aX aq I I
end Go.Proofs.YtmpnheilfejcpaaGreatDoor
namespace Go.Proofs.YtmpnheilfejcpaaGreatDoor
open Go.aj Go.aj.dn Go.aj.cX Go.RowKit Go.aj.dZ
attribute [local irreducible] aj eJ b1 ch hc
theorem yU {n m k:Nat}(h:n≤10^k)(an:k+1≤9*m):(a6 n).length≤m:=by
 refine oo (gL (m:=10^(9*m)) ?_ ?_)
 ·have U:10^(k+1)≤10^(9*m):=fF aT an;have ab:0<10^k:=lW aT;rw [ic] at U;omega
 ·rw [Nat.pow_mul];exact xB aT m
theorem aoJ (x d:Int)(hd:d≠0)(ar:(a6 x.natAbs).length≤1000000)(oT:(a6 d.natAbs).length≤1000000):bs Tryz.prog 237 [ef x,ef d] (ef (qT x d)):=by
 have dk:=Du x.natAbs d.natAbs J ar oT;have dO:=yV (!(decide (x<0)==decide (d<0))) (x.natAbs/d.natAbs);have e:k0 (!(decide (x<0)==decide (d<0))) (x.natAbs/d.natAbs)=qT x d:=rfl;rw [e] at dO;refine cf Tryz.f237 fun c aq bI=> ?_;unfold ef at*;generalize qT x d=q at*;refine bc ?_;refine aO I I I dk ?_;repeat (first|refine ao (bE rfl) ?_|refine ao (du rfl) ?_|refine cR ?_|refine b0 ?_|refine dh ?_|refine c5 rfl ?_|refine ao (hO rfl rfl rfl rfl rfl) ?_|refine ao (nG rfl rfl) ?_|refine ao (de rfl rfl rfl rfl rfl rfl) ?_|refine ao (Oy rfl rfl rfl) ?_)
 refine aO I I I dO ?_;skip
 refine dA (c':= .box [.bool (decide (q<0)),bB q.natAbs]) I I I I I I I (bF ?_);exact aX aq I I
def cQ (x:Int):List ak:=[.bool (decide (x<0)),bB x.natAbs]
abbrev aW (l:List Int):Cells:=fi 0 2 cQ l
theorem UJ (x:Int)(j h:Nat)(ae:j<2):((cQ x).getD j .any).forget h=(cQ x).getD j .any:=by
 match j,ae with
 |0,_=>rfl
 |1,_=>rfl
theorem TU (x:Int)(j:Nat)(ae:j<2):(fN 1 2 [.bool (decide (x<0)),bB x.natAbs]).at 0 j=(cQ x).getD j .any:=by
 match j,ae with
 |0,_=>rfl
 |1,_=>rfl
theorem Wl (q:Rat): ∀(l:List Rat) (f:Nat),hV f (l++[q])=hV f l*(q.den/Nat.gcd (hV f l) q.den)
 |[],f=>rfl
 |a::r,f=>by rw [oN,hV,hV,Wl q r]
theorem Wm {l:List Rat}{K k:Nat}(h: ∀q∈l,D K q):hV 1 (l.take k)≤10^(K*l.length):=by refine dN (YN (k:=K) (l.take k) 1 (fun q aB=>(h q (pz aB)).2)) ?_;rw [qi];refine fF aT (hz _ ?_);rw [fc];exact Nat.min_le_right _ _
theorem apJ (l:List Rat)(K:Nat)(fy: ∀q∈l,D K q)(hlen:l.length≤1000)(dH:K*l.length+K≤900000):
 GR Tryz.prog 209 [.ro (aN l) 0 l.length] (.cn [.aC 0 0 l.length,bB (hV 1 l)]) [some ⟨116,aW (hS l)⟩]:=by
 have cz: ∀n k:Nat,n≤10^k→k≤900000→(a6 n).length≤100001:=fun n k h an=>yU h J;have n6:=FQ 1 aT;refine ch.many (gl (P:=Tryz.prog) (fn:=Tryz.f209) I I af I (fun c aq bI=> ?_)) (fix:=fun _=>False) (fun _ h=>h) I;refine bF ?_;refine aO I I I n6 (bq ?_);refine cp (ι:=Nat) (fun k=>[(0,.ro (aN l) 0 l.length),(4,bB (hV 1 (l.take k))),(16,.ro (aN l) 0 l.length),(17,ag l.length),(18,ag k)]) (fun _=>[])
  (fun k=>k≤l.length) (fun k=>l.length-k) 0 ⟨aE,rfl,b7 _⟩ ?_
 intro k an;refine bh ?_;refine bm I (fun h=> ?_) (fun h=> ?_)
 ·have bO:k<l.length:=J;have aB:=fy _ (dt 0 bO);have mW:hV 1 (l.take (k+1))=hV 1 (l.take k)*((l.getD k 0).den/Nat.gcd (hV 1 (l.take k)) (l.getD k 0).den):=by rw [nZ bO,Wl,eo 0 bO]
  have mR:=cz _ _ (Wm (k:=k) fy) J;have aF:=J0 (l.take k) 1 aT;generalize hV 1 (l.take k)=F at*;generalize x2:l.getD k 0=q at*;have Et:=cz q.den K (q7 aB.2) J;have c2:0<Nat.gcd F q.den:=Nat.gcd_pos_of_pos_left _ aF;have xQ:Nat.gcd F q.den≤10^K:=dN (Br q.den_pos (DY F q.den)) (q7 aB.2);have dk:=Qy F q.den J J;have dO:=Du q.den (Nat.gcd F q.den) c2 J (dN (cz (Nat.gcd F q.den) K xQ J) aT);have eG:=KO F (q.den/Nat.gcd F q.den) J (dN (cz (q.den/Nat.gcd F q.den) K (dN (vO _ _) (q7 aB.2)) J) aT);refine bc ?_;refine bP 21 (.agg (bW q)) I (aR.of_eq (by rw [←x2];rfl)) ?_;refine dA (c':= .box (bW q)) I I I I I I I (bo ?_);refine aO I I I dk (bo ?_);refine aO I I I dO (c4 ?_);refine aO I I I eG ?_;refine fu ?_;refine b0 ?_;refine jG [none] (aM.drop aM.nil) ?_;refine vn (H1:=[]) I c3 (bq ?_);exact b4 ⟨k+1,J,J,⟨I,by rw [mW];rfl,I,I,I,trivial⟩,I⟩
 have jz:k=l.length:=J;subst jz;rw [e7];have Ls:=Wm (k:=l.length) fy;rw [e7] at Ls;have mR:=cz _ _ Ls J;unfold hS at aq;generalize hV 1 l=F at*;have qm: ∃g:Rat→Int,g=(fun q=>q.num*((F/q.den:Nat):Int)):=⟨_,rfl⟩
 obtain ⟨g,qm⟩:=qm;rw [←qm] at aq;refine uY ?_;refine jF 10 ⟨116,aW []⟩ I I ?_;repeat (refine fD ?_)
 refine cp (ι:=Nat) (fun k=>[(4,bB F),(10,.aC 0 0 k),(37,.ro (aN l) 0 l.length),(38,ag l.length),(39,ag k)]) (fun k=>[some ⟨116,aW ((l.take k).map g)⟩])
  (fun k=>k≤l.length) (fun k=>l.length-k) 0 ⟨aE,rfl,b7 _⟩ ?_
 intro k an;refine bh ?_;refine bm I (fun h=> ?_) (fun h=> ?_)
 ·have bO:k<l.length:=J;have aB:=fy _ (dt 0 bO);have jC:=yz g l 0 k bO;have fL:((l.take k).map g).length=k:=by rw [cr,fc];omega
  generalize (l.take k).map g=zs at*;generalize x2:l.getD k 0=q at*;have Et:=cz q.den K (q7 aB.2) J;have SB:=cz q.num.natAbs K (q7 aB.1) J;have aqX:=cz _ _ (dN (vO F q.den) Ls) J;have aei:g q=q.num*((F/q.den:Nat):Int):=by rw [qm]
  have dk:=Du F q.den q.den_pos J J;have dO:=pY q.num ((F/q.den:Nat):Int) J (by rw [k4];omega);rw [←aei] at dO;refine bc ?_;refine bP 42 (.agg (bW q)) I (aR.of_eq (by rw [←x2];rfl)) ?_;refine dA (c':= .box (bW q)) I I I I I I I (bo ?_);refine aO I I I dk (oi ?_);refine bP 54 (ef ((F/q.den:Nat):Int)) I (aR.of_eq (by
   unfold ef;rw [fT (Int.not_lt.2 (D3 (F/q.den))),k4];rfl)) ?_
  refine aO I I I dO ?_;unfold ef;repeat (refine h9 rfl rfl rfl rfl rfl rfl rfl rfl rfl rfl rfl ?_)
  refine dy I I I I I I I I I fL I I dT I (by show (k+1)*32≤_∧_;omega) ?_ c3 ?_
  ·intro aG j aa ae;exact hF 0 2 cQ UJ zs (g q) _ (TU _) 0 aG j aa ae
  refine fu ?_;refine b0 ?_;refine jG ([some ⟨116,aW ((l.take (k+1)).map g)⟩]++[none]) ?_ ?_
  ·rw [jC];exact aM.eqv (ha 0 2 cQ zs (g q) _ (TU _)) (aM.drop aM.nil)
  refine vn (H1:=[some ⟨116,aW ((l.take (k+1)).map g)⟩]) I c3 ?_;refine jG [some ⟨116,aW ((l.take (k+1)).map g)⟩] ?_ ?_
  ·exact aM.eqv ⟨I,I,fun i j _ ae=>(UJ _ j _ ae).symm⟩ aM.nil
  refine bq ?_;exact b4 ⟨k+1,J,J,aE,I⟩
 ·have jz:k=l.length:=J;subst jz;rw [e7];refine bo ?_;exact aX aq I ⟨I,I⟩
end Go.Proofs.YtmpnheilfejcpaaGreatDoor
namespace Go.Proofs.YtmpnheilfejcpaaGreatDoor
open Go.aj Go.aj.dn Go.aj.cX Go.RowKit Go.aj.kD Go.aj.eP Go.aj.c0
attribute [local irreducible] aj eJ b1 ch hc
end Go.Proofs.YtmpnheilfejcpaaGreatDoor
namespace Go.Proofs.YtmpnheilfejcpaaGreatDoor
open Go.aj Go.aj.dn Go.aj.cX Go.RowKit Go.aj.dZ Go.aj.c0
theorem dv {a b:Nat}(h:a≠b):Nat.beq a b=false:=by
 cases aS:Nat.beq a b
 ·rfl
 ·exact absurd (pC aS) h
theorem qM {h:Nat}{fr:Fr}: ∀{L:Fr},jb fr L→(∀p∈L,p.2.forget h=p.2)→jb (ou h fr) L
 |[],_,_=>trivial
 |(t,v)::r,an,aF=>by
  refine ⟨?_,qM an.2 (fun p sw=>aF p (vP _ sw))⟩;have U:=an.1;have ai:v.forget h=v:=aF (t,v) (xx ..);clear an aF;induction fr with
  |nil=>cases U
  |cons q s ba=>
   obtain ⟨u,x⟩:=q;show Go.aj.look t ((u,x.forget h)::ou h s)=some v;simp only [Go.aj.look] at U⊢;cases aB:Nat.beq t u with
   |true=>rw [aB] at U;simp at U;subst U;rw [ai];rfl
   |false=>rw [aB] at U;exact ba (by simpa using U)
section
variable {P:Program}{fn:Func}{c:Ctx}{fr:Fr}{H:aZ}{k:List eF}
theorem P4 {x:Code}(L:Fr)(cH:jb fr L)(an:aj P fn c (.code x k) L H):aj P fn c (.code x k) fr H:=fun w a σ S ad=>an w a σ S (ad.weaken cH)
theorem vb {q:Bool}{all:Array Oper}{rest:List Oper}(L:Fr)(cH:jb fr L)(an:aj P fn c (.ops q all rest k) L H):aj P fn c (.ops q all rest k) fr H:=by
 cases q with
 |true=>exact fun hd w a σ S ad=>an hd w a σ S (ad.weaken cH)
 |false=>exact fun hd w a σ S ad=>an hd w a σ S (ad.weaken cH)
end
abbrev fQ (l:List Nat):Cells:= .ints .i64 (l.map (fun a:Nat=>(a:Int)))
theorem OB (x:Int):(kr x=0)=(x=0):=by
 apply propext;unfold kr;constructor
 ·intro h;split at h
  ·exact absurd h aT
  ·split at h
   ·assumption
   ·exact absurd h aT
 ·intro h;subst h;rfl
theorem o7 (h:Nat)(a:List Int):(aW a).forget h=aW a:=by
 show Cells.fn _ _ _=Cells.fn _ _ _;congr 1;funext i j
 match j with
 |0=>rfl
 |1=>rfl
 |_+2=>rfl
theorem alI (m:Nat)(x:Int):fz m (.box (cQ x)):=by
 intro i j aa ae;have bd:j<2:=ae
 match j,bd with
 |0,_=>rfl
 |1,_=>rfl
theorem WG (l:List Nat)(a:Nat):cu (.ints .i64 (l.map (fun a:Nat=>(a:Int))++[(a:Int)])) (fQ (l++[a])):=by show cu _ (.ints .i64 ((l++[a]).map (fun a:Nat=>(a:Int))));rw [gV];exact cu.refl _
theorem vm (l:List Int)(j:Nat)(v:Int): ∀aG a7,aG<(aW l).len→a7<2→(aW (l.set j v)).at aG a7=if aG=j then (cQ v).getD a7 .any else (aW l).at aG a7:=by
 intro aG a7 aL bd;show (cQ ((l.set j v).getD aG 0)).getD a7 .any=if aG=j then _ else (cQ (l.getD aG 0)).getD a7 .any
 rw [fO];have au:aG<l.length:=aL;by_cases h:aG=j
 ·rw [aA ⟨h,J⟩,aA h]
 ·rw [ax (fun q=>h q.1),ax h]
theorem Yb {α:Type}(l:List α)(d:α)(i:Nat)(aa:i<l.length):l.set i (l.getD i d)=l:=by
 apply jS bX;intro a U ab;rw [xF];split
 ·rename_i e;subst e;rw [eo d aa]
 ·rfl
theorem Vk {x p f y:Int}{E:Nat}(ar:x.natAbs≤10^E)(aF:p.natAbs≤10^E)(aQ:f.natAbs≤10^E)(a1:y.natAbs≤10^E)(dJ:E≤3600000):
 (a6 (x*p).natAbs).length≤1000000∧(a6 (f*y).natAbs).length≤1000000∧(a6 (x*p-f*y).natAbs).length≤1000000:=by
 have aH:(x*p).natAbs≤10^(E+E):=by rw [kh,iI];exact jT ar aF
 have aJ:(f*y).natAbs≤10^(E+E):=by rw [kh,iI];exact jT aQ a1
 have bR:(x*p-f*y).natAbs≤10^(E+E+1):=by refine dN (Int.natAbs_sub_le _ _) ?_;rw [ic];omega
 exact ⟨yU aH J,yU aJ J,yU bR J⟩
abbrev fh (b n L:Nat):Cells:= .fn n 1 (fun i _=> .aC (b+4+i) 0 L)
abbrev jq (b k m w:Nat)(d:Int):Cells:= .box [.aC (b+3) 0 k,.bool (decide (d<0)),bB d.natAbs,.aC (b+2) 0 m,ag w]
abbrev bt (G:aZ)(F:Option bl)(L w k:Nat)(X:cB)(d:Int)(β:List Nat)(T:aZ):aZ:=
 G++(some ⟨249,jq G.length k β.length w d⟩::F::some ⟨3,fQ β⟩::fp ⟨243,fh G.length X.length L⟩ 116 aW X T)
def s6 (G:aZ):Prop:= ∀m,G.length≤m→ ∀o:bl,some o∈G→fz m o.c
section
variable {G:aZ}{F:Option bl}{L w k:Nat}{X:cB}{d:Int}{β:List Nat}{T:aZ}
theorem ik:(bt G F L w k X d β T)[G.length]? =some (some ⟨249,jq G.length k β.length w d⟩):=tU (i:=0) rfl
theorem Ud:(bt G F L w k X d β T)[G.length+1]? =some F:=tU (i:=1) rfl
theorem vz:(bt G F L w k X d β T)[G.length+2]? =some (some ⟨3,fQ β⟩):=tU (i:=2) rfl
theorem nJ:(bt G F L w k X d β T)[G.length+3]? =some (some ⟨243,fh G.length X.length L⟩):=tU (i:=3) rfl
theorem nc {a:Nat}(a8:a<X.length):(bt G F L w k X d β T)[G.length+4+a]? =some (some ⟨116,aW (X.getD a [])⟩):=by rw [show G.length+4+a=G.length+(3+(a+1)) by omega];refine (tU (i:=3+(a+1)) I).trans ?_;rw [show 3+(a+1)=(a+1)+3 by omega];exact Pw (O:=⟨243,fh G.length X.length L⟩) (t:=116) (f:=aW) (X:=X) (L:=T) [] a8
theorem gi (j:Nat):(bt G F L w k X d β T)[G.length+4+X.length+j]? =T[j]? :=by rw [show G.length+4+X.length+j=G.length+((X.length+1+j)+3) by omega];refine (tU (i:=(X.length+1+j)+3) I).trans ?_;exact Pv (O:=⟨243,fh G.length X.length L⟩) (t:=116) (f:=aW) (X:=X) (L:=T)
theorem iE:(bt G F L w k X d β T).length=G.length+4+X.length+T.length:=by unfold bt;rw [c8,gK,gK,gK,F6];omega
theorem gh (jt:aZ):bt G F L w k X d β T++jt=bt G F L w k X d β (T++jt):=by unfold bt;rw [lz,oN,oN,oN,JN]
theorem Ot (fJ w':Nat)(Rm:Int):(bt G F L w k X d β T).set G.length (some ⟨249,jq G.length fJ β.length w' Rm⟩)=bt G F L w' fJ X Rm β T:=pX (i:=0) _ rfl
theorem V2 {xk:List Nat}(al:xk.length=β.length):(bt G F L w k X d β T).set (G.length+2) (some ⟨3,fQ xk⟩)=bt G F L w k X d xk T:=by refine (pX (i:=2) _ I).trans ?_;show G++(some ⟨_,jq G.length k β.length w d⟩::F::some ⟨_,fQ xk⟩::_)=_;rw [←al]
theorem V3 {a:Nat}(a8:a<X.length)(x:List Int):(bt G F L w k X d β T).set (G.length+4+a) (some ⟨116,aW x⟩)=bt G F L w k (X.set a x) d β T:=by rw [show G.length+4+a=G.length+((a+1)+3) by omega];refine (pX (i:=(a+1)+3) _ I).trans ?_;have h:=UF (O:=⟨243,fh G.length X.length L⟩) (t:=116) (f:=aW) (X:=X) (L:=T) x a8;show G++(_::F::_::(fp _ _ _ X T).set (a+1) _)=_;rw [h];unfold bt;rw [dd]
theorem j3 (j:Nat)(x:Option bl):(bt G F L w k X d β T).set (G.length+4+X.length+j) x=bt G F L w k X d β (T.set j x):=by rw [show G.length+4+X.length+j=G.length+((X.length+1+j)+3) by omega];refine (pX (i:=(X.length+1+j)+3) _ I).trans ?_;show G++(_::F::_::(fp _ _ _ X T).set (X.length+1+j) _)=_;rw [UE]
theorem rE (dG:s6 G)(m:Nat)(hm:G.length+4+X.length≤m)(mR: ∀o:bl,F=some o→fz m o.c)(b2: ∀o:bl,some o∈T→fz m o.c): ∀(h:Nat) (o:bl),(bt G F L w k X d β T)[h]? =some (some o)→fz m o.c:=by
 intro h o ah;have eH:=oL ah;unfold bt fp at eH;rw [gM] at eH;rcases eH with eH|eH
 ·exact dG m J o eH
 rw [fS,fS,fS,fS,gM] at eH;rcases eH with e|e|e|e|eH|eH
 ·cases e;intro i j aa ae;have bd:j<5:=ae
  match j,bd with
  |0,_=>exact q4 (show G.length+3+1≤m by omega)
  |1,_=>rfl
  |2,_=>rfl
  |3,_=>exact q4 (show G.length+2+1≤m by omega)
  |4,_=>rfl
 ·exact mR o e.symm
 ·cases e;exact fun i j _ _=>rfl
 ·cases e;intro i j aa ae;have aL:i<X.length:=aa;exact q4 (show G.length+4+i+1≤m by omega)
 ·obtain ⟨a,_,e⟩:=cO.1 eH;cases e;intro i j aa ae;have bd:j<2:=ae
  match j,bd with
  |0,_=>rfl
  |1,_=>rfl
 ·exact b2 o eH
theorem akr (b k m w:Nat)(d v:Int): ∀aG a7,aG<(jq b k m w d).len→a7<(jq b k m w d).aD→(jq b k m w v).at aG a7=if aG=0∧1≤a7∧a7<1+2 then (cQ v).getD (a7-1) .any else (jq b k m w d).at aG a7:=by
 intro aG a7 aL bd;obtain rfl:=fw.1 (show aG<1 from aL);have lE:a7<5:=bd
 match a7,lE with
 |0,_=>rfl
 |1,_=>rfl
 |2,_=>rfl
 |3,_=>rfl
 |4,_=>rfl
end
end Go.Proofs.YtmpnheilfejcpaaGreatDoor
