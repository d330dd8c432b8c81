import Derived.Test.YtmpnheilfejcpaaGreatDoorP6
set_option linter.unusedVariables false
set_option linter.unusedSimpArgs false
set_option maxRecDepth 100000
set_option maxHeartbeats 4000000
namespace Go.aj
open Go.RowKit
abbrev eX (b7 pl bM:Int)(bj:List Int)(cv:List (List UInt8))(cT:List UInt8):List ao:=[.int .i64 b7,.int .i64 pl,.int .i64 bM,.ro (.ints .i64 bj) 0 bj.length,.ro (.strs cv) 0 cv.length,.str cT]
end Go.aj
namespace Go.Proofs.YtmpnheilfejcpaaGreatDoor
open Go.aj Go.aj.dh Go.aj.cQ Go.RowKit Go.aj.ka Go.aj.eT
attribute [local irreducible] aj eD bZ cm gK
theorem ahP (t:aJ)(i:Nat)(aa:i<t.length)(hlen:t.length≤9223372036854775807)(az:DI (t.getD i aN)):br Tryz.prog 163 [.ro (bS t) 0 t.length,ah i] (.int .i64 (py t.length i (t.getD i aN))):=by
 have bb:=amC t i aa hlen az.next
 have kJ:=JH (t.getD i aN).jf az.jf;have co:=Zg (t.getD i aN).c3 az.c3 az.each;obtain ⟨s1,s2,vb,IC⟩:=az;refine cg Tryz.f163 fun c ar bJ=> ?_;refine bf ?_;refine bR 10 (.agg (kU (t.getD i aN))) I (aU.of_eq I) ?_;generalize t.getD i aN=n at*;obtain ⟨b7,pl,bM,bj,cv,cT⟩:=n;simp only at*;unfold py at ar;refine dj (c':= .box (eX b7 pl bM bj cv cT)) I I I I I I I ?_;simp only at ar;refine bl ?_;refine bw I (fun aM=> ?_) (fun aM=> ?_)
 ·rw [aB aM] at ar;refine bl ?_;refine hg I I (fun g1=> ?_) (fun g1=> ?_)
  ·rw [aB (.inl g1)] at ar;refine bf ?_;exact aZ ar I I
  refine bl ?_;refine hg I I (fun g2=> ?_) (fun g2=> ?_)
  ·rw [aB (.inr (.inl g2))] at ar;refine bf ?_;exact aZ ar I I
  refine bf ?_;refine hg I I (fun g3=> ?_) (fun g3=> ?_)
  ·rw [aB (.inr (.inr (.inl (by rintro rfl;simp at g3))))] at ar;refine bf ?_;exact aZ ar I I
  refine bf ?_;refine bw I (fun g4=> ?_) (fun g4=> ?_)
  ·rw [aB (.inr (.inr (.inr (by rintro rfl;simp at g4))))] at ar;refine bf ?_;exact aZ ar I I
  rw [aw (by
   rintro (q|q|q|q)
   ·exact g1 q
   ·exact g2 q
   ·have:=zC.2 q;omega
   ·have:=zC.2 q;omega)] at ar
  refine bl ?_;refine aL I I I kJ (bf ?_);exact aZ ar I I
 rw [aw aM] at ar;refine bh ?_;refine bw I (fun U=> ?_) (fun U=> ?_)
 ·rw [aB U] at ar;refine bl ?_;refine hg I I (fun g1=> ?_) (fun g1=> ?_)
  ·rw [aB (.inl g1)] at ar;refine bf ?_;exact aZ ar I I
  refine bl ?_;refine hg I I (fun g2=> ?_) (fun g2=> ?_)
  ·rw [aB (.inr (.inl g2))] at ar;refine bf ?_;exact aZ ar I I
  refine fe ?_;refine bw I (fun g3=> ?_) (fun g3=> ?_)
  ·rw [aB (.inr (.inr g3))] at ar;refine bf ?_;exact aZ ar I I
  rw [aw (by
   rintro (q|q|q)
   ·exact g1 q
   ·exact g2 q
   ·exact g3 q)] at ar
  refine bp ?_;refine aL I I I bb (bt ?_);refine bw I (fun ay=> ?_) (fun ay=> ?_)
  ·rw [aB ay] at ar;refine bf ?_;exact aZ ar I I
  rw [aw ay] at ar;refine bl ?_;refine bw I (fun bc=> ?_) (fun bc=> ?_)
  ·rw [aB J] at ar;refine bf ?_;exact aZ ar I I
  rw [aw J] at ar;refine bl ?_;refine aL I I I co (bf ?_);exact aZ ar I I
 rw [aw U] at ar;refine bh ?_;refine bw I (fun ab=> ?_) (fun ab=> ?_)
 ·rw [aB ab] at ar;refine bf ?_;refine hg I I (fun g1=> ?_) (fun g1=> ?_)
  ·rw [aB (.inl (by rintro rfl;simp at g1))] at ar;refine bf ?_;exact aZ ar I I
  refine fe ?_;refine bw I (fun g2=> ?_) (fun g2=> ?_)
  ·rw [aB (.inr g2)] at ar;refine bf ?_;exact aZ ar I I
  rw [aw (by
   rintro (q|q)
   ·have:=zC.2 q;omega
   ·exact g2 q)] at ar
  refine bl ?_;refine hg I I (fun g3=> ?_) (fun g3=> ?_)
  ·refine bl ?_;refine hg I I (fun g4=> ?_) (fun g4=> ?_)
   ·rw [aB (.inl ⟨g3,g4⟩)] at ar;refine bf ?_;exact aZ ar I I
   refine bl ?_;refine hg I I (fun g5=> ?_) (fun g5=> ?_)
   ·rw [aB (.inr (.inl g5))] at ar;refine bf ?_;exact aZ ar I I
   refine fe ?_;refine bw I (fun g6=> ?_) (fun g6=> ?_)
   ·rw [aB (.inr (.inr g6))] at ar;refine bf ?_;exact aZ ar I I
   rw [aw (by
    rintro (q|q|q)
    ·exact g4 q.2
    ·exact g5 q
    ·exact g6 q)] at ar
   refine bp ?_;refine aL I I I bb (bf ?_);exact aZ ar I I
  ·refine bf ?_;refine hg I I (fun g5=> ?_) (fun g5=> ?_)
   ·rw [aB (.inr (.inl g5))] at ar;refine bf ?_;exact aZ ar I I
   refine fe ?_;refine bw I (fun g6=> ?_) (fun g6=> ?_)
   ·rw [aB (.inr (.inr g6))] at ar;refine bf ?_;exact aZ ar I I
   rw [aw (by
    rintro (q|q|q)
    ·exact g3 q.1
    ·exact g5 q
    ·exact g6 q)] at ar
   refine bp ?_;refine aL I I I bb (bf ?_);exact aZ ar I I
 ·rw [aw ab] at ar;refine bl ?_;exact aZ ar I I
theorem abc (n:Int):br Tryz.prog 165 [.int .i64 n] (.bool (decide (n≠1))):=by refine cg Tryz.f165 fun c ar bJ=> ?_;refine bt ?_;exact aZ ar I I
def r5 (e:Int×Int×Nat):ao:= .agg [.int .i64 e.1,.int .i64 e.2.1]
def Io (e:Int×Int×Nat):ao:=ah e.2.2
abbrev yu (S:vT):Cells:= .mp (S.map r5) (S.map Io)
theorem Ij (S:vT): ∀x∈S.map r5,nt (.pair .i64) x=true:=by intro x al;obtain ⟨e,_,rfl⟩:=cS.1 al;rfl
theorem ajN {l:List ao}{j:Nat}{v:ao}(h:l[j]? =some v):l.set j v=l:=by
 apply List.ext_getElem?;intro i;by_cases e:j=i
 ·subst e;obtain ⟨ae,_⟩:=gZ.1 h;rw [oP ae,h]
 ·rw [lW e]
theorem w8 {α:Type}{n:Nat}{f:α→ao}(aR: ∀x,gV n (f x)=true): ∀l:List α,mL n (l.map f)=true
 |[]=>rfl
 |a::r=>by show (gV n (f a) && mL n (r.map f))=true;rw [aR a,w8 aR r];rfl
theorem Fx {α:Type}{f:α→ao}(aR: ∀x,c2 (f x)=true): ∀l:List α,c2.e9 (l.map f)=true
 |[]=>rfl
 |a::r=>by show (c2 (f a) && c2.e9 (r.map f))=true;rw [aR a,Fx aR r];rfl
theorem rU {n:Nat}{t:TypeId}{c:Cells}(av:fw n c): ∀(h:Nat) (o:bm),([some ⟨t,c⟩]:aY)[h]? =some (some o)→fw n o.c:=by
 intro h o ai
 match h,ai with
 |0,ai=>cases ai;exact av
 |_+1,ai=>simp at ai
theorem Pa (S:vT)(n:Nat):fw n (yu S):=⟨w8 (fun _=>rfl) S,w8 (fun _=>rfl) S⟩
theorem O1 (t:aJ)(b4:kb t):br Tryz.prog 88 [.ro (bS t) 0 t.length] (.int .i64 (nu t)):=by
 have hlen:=b4.len;refine cg Tryz.f88 fun c ar bJ=> ?_;unfold nu at ar;refine bf ?_;refine bw I (fun U=> ?_) (fun U=> ?_)
 ·rw [aB J] at ar;refine dy ?_;exact aZ ar I I
 rw [aw J] at ar;refine bh ?_;refine bw I (fun ab=> ?_) (fun ab=> ?_)
 ·rw [aB J] at ar;refine dy ?_;exact aZ ar I I
 rw [aw J] at ar;have jc:t.length≤120:=J;have RS:t.length≠0:=J;refine bt ?_;refine mh I I I I I I I I (by show 0≤_∧_≤_∧(8:Int)*_≤_∧_;omega) (bt ?_);refine cF (ι:=Nat) (fun i=>[(0,.ro (bS t) 0 t.length),(3,.aC 0 0 t.length),(23,.ro (bS t) 0 t.length),(24,ah t.length),(25,ah i)]) (fun i=>[some ⟨3,.ints .i64 (j8 t.length (qe t i))⟩])
  (fun i=>i≤t.length∧uf t.length 0 t=uf t.length i (t.drop i)∧(qe t i).length≤6*i) (fun i=>t.length-i) 0 ⟨aH,by show [some (⟨3,.ints .i64 (List.replicate _ 0)⟩:bm)]=[some ⟨3,.ints .i64 (j8 t.length [])⟩];rw [abm];rfl,cj _,by rw [tb],by simp [qe]⟩ ?_
 rintro i ⟨aa,dx,l1⟩;refine bh ?_;refine bw I (fun ay=> ?_) (fun ay=> ?_)
 ·have aQ:i<t.length:=J;have eQ:=mI aN aQ;have tn:=ahP t i aQ hlen (b4.node _ eQ);rw [amw aQ] at dx;have qG:=anI aQ;refine bp ?_;refine aL I I I tn (bt ?_);refine bw I (fun bc=> ?_) (fun bc=> ?_)
  ·rw [aw bc] at dx;rw [aB (by rw [dx];exact bc),dx] at ar;refine bf ?_;exact aZ ar I I
  rw [aB (hL.1 bc)] at dx;obtain ⟨bQ,bX⟩:=Ob (hL.1 bc);have Sz:(t.getD i aN).next.length≤9223372036854775807:=J
  refine yp ?_;refine dc I ?_;refine iq ?_;refine ea 38 (.ro (.ints .i64 (t.getD i aN).next) 0 (t.getD i aN).next.length) I (aU.of_eq I) ?_;generalize (t.getD i aN).next=l at*
  repeat (refine fV ?_)
  refine cF (ι:=Nat) (fun j=>[(0,.ro (bS t) 0 t.length),(3,.aC 0 0 t.length),(23,.ro (bS t) 0 t.length),(24,ah t.length),(25,ah i),(38,.ro (.ints .i64 l) 0 l.length),(39,ah l.length),(40,ah j)]) (fun j=>[some ⟨3,.ints .i64 (j8 t.length (qe t i++l.take j))⟩])
   (fun j=>j≤l.length) (fun j=>l.length-j) 0 ⟨aH,by rw [List.take_zero,lA],cj _⟩ ?_
  intro j ae;refine bh ?_;refine bw I (fun bI=> ?_) (fun bI=> ?_)
  ·have bd:j<l.length:=J;obtain ⟨dS,eP⟩:=bQ _ (dv 0 bd);have az:=aoH (qe t i++l.take j) (x:=l.getD j 0) J eP;rw [mr,←Au bd] at az;have ak:=abl t.length (qe t i++l.take j) (l.getD j 0).toNat;have wI:(qe t i++l.take j).length≤6*i+6:=by rw [di,fy];omega
   have hC:=AF t.length (qe t i++l.take j);have bG:(l.getD j 0).toNat<(j8 t.length (qe t i++l.take j)).length:=J;generalize j8 t.length (qe t i++l.take j)=C at*;refine Nj ?_;exact cc ⟨j+1,J,J,aH,by rw [az];rfl⟩
  ·have hc:j=l.length:=J;subst hc;rw [fO,←qG];refine bl ?_;exact cc ⟨i+1,⟨J,dx,by rw [qG,di];omega⟩,J,aH,I⟩
 have dn:i=t.length:=J;subst dn;rw [rj] at dx;have adw:uf t.length 0 t=0:=dx;rw [aw (by rw [adw];exact fun q=>q rfl)] at ar;have hD:qe t t.length=t.flatMap ev.next:=by unfold qe;rw [fO]
 rw [hD];have hp:=apl RS;rw [←hp] at ar;have hC:=AF t.length (t.flatMap ev.next);generalize j8 t.length (t.flatMap ev.next)=C at*;have bb:=Wv (C.drop 1) 165 [] (fun n=>decide (n≠1)) rfl (by rw [v7];omega) (fun n _=>abc n);refine iq ?_;refine mG 0 3 t.length [(0,.ro (bS t) 0 t.length)] I mc I (by show t.length≤C.length;omega) ⟨I,trivial⟩ ?_;refine fB [] [none] [(0,.ro (bS t) 0 t.length),(3,.ro (.ints .i64 C) 0 t.length)] I aH hO (fun h o ai=>by simp at ai) I (u6 ?_);refine bR 53 (.ro (.ints .i64 (C.drop 1)) 0 (C.drop 1).length) I (aU.trans (aU.drop (k:= .i64) (l:=C) (i:=1) (n:=((t.length:Int)-1).toNat)) (aU.of_eq (by rw [v7,hC];congr 1;omega))) ?_;refine aL I I I bb ?_;generalize (C.drop 1).any (fun n=>decide (n≠1))=b at*;cases b
 case true=>
  rw [aB rfl] at ar;refine bl ?_;exact aZ ar I I
 rw [aw aT] at ar;refine bh ?_;refine CA (bt ?_);refine cF (ι:=Nat×vT) (fun x=>[(0,.ro (bS t) 0 t.length),(8,.mp 0),(56,.ro (bS t) 0 t.length),(57,ah t.length),(58,ah x.1)]) (fun x=>[some ⟨229,yu x.2⟩])
  (fun x=>x.1≤t.length∧mS (t.take x.1) x.2) (fun x=>t.length-x.1) (0,[]) ⟨aH,rfl,cj _,mS.nil⟩ ?_
 rintro ⟨k,S⟩ ⟨an,dE⟩;simp only at an dE;refine bh ?_;refine bw I (fun bI=> ?_) (fun bI=> ?_)
 ·have b0:k<t.length:=J;have eQ:=mI aN b0;have nc:=b4.node _ eQ;have l6:=aoe b0;have afL: ∀a∈t.take k,a∈t:=fun a aW=>pI aW;have SX:= @mS.skip (t.take k) S (t.getD k aN) dE;have x3:=fun e=> @mS.Ma (t.take k) S (t.getD k aN) e dE;have wJ:= @mS.ahz (t.take k) S (t.getD k aN) dE;have LN:=fun e=> @mS.bad (t.take k) t S (t.getD k aN) e dE afL eQ;rw [←l6] at SX x3 wJ;obtain ⟨s1,s2,vb,IC⟩:=nc;refine bf ?_;refine bR 61 (.agg (kU (t.getD k aN))) I (aU.of_eq I) ?_;generalize t.getD k aN=n at*;obtain ⟨b7,pl,bM,bj,cv,cT⟩:=n;simp only at*;refine dj (c':= .box (eX b7 pl bM bj cv cT)) I I I I I I I (bl ?_);refine bw I (fun g1=> ?_) (fun g1=> ?_)
  ·refine fS ?_;refine b6 ?_;refine fB [some ⟨229,yu S⟩] [some ⟨57,.box (eX b7 pl bM bj cv cT)⟩] [(0,.ro (bS t) 0 t.length),(8,.mp 0),(56,.ro (bS t) 0 t.length),(57,ah t.length),(58,ah k)] I aH hO (rU (Pa S 1)) I (bt ?_);exact cc ⟨(k+1,S),⟨by simp only;omega,SX g1⟩,by simp only;omega,aH,I⟩
  ·have l4:b7=2:=hL.1 g1;refine fe ?_;refine bR 69 (.agg [.int .i64 pl,.int .i64 bM]) I (aU.of_eq I) ?_;refine dj (c':= .box [.int .i64 pl,.int .i64 bM]) I I I I I I I (bf ?_);refine bR 72 (r5 (pl,bM,0)) I (aU.of_eq I) ?_;by_cases hm: ∃e∈S,e.1=pl∧e.2.1=bM
   ·obtain ⟨e,he,aE,aF⟩:=hm;obtain ⟨j,ae,hc⟩:=kE he;have i1:(S.map r5)[j]? =some (r5 (pl,bM,0)):=by rw [lB,n8 ae,hc];show some (r5 e)=_;unfold r5;rw [aE,aF]
    have i2:(S.map Io)[j]? =some (ah e.2.2):=by rw [lB,n8 ae,hc];rfl
    refine aq (vi I (.pair I I I) I I I I (Ij S) j i1 i2) (bl ?_);refine bw I (fun fh=> ?_) (fun fh=> ?_)
    ·rw [aB (LN e l4 he aE aF J)] at ar;refine bf ?_;exact aZ ar I I
    ·have oZ:e.2.2=bj.length:=J;have c7:(S.map Io).set j (ah bj.length)=S.map Io:=ajN (by rw [i2,oZ]);refine bf ?_;refine bR 85 (r5 (pl,bM,0)) I (aU.of_eq I) ?_;refine alQ I (.pair I I I) I I I I I (Ij S) j i1 ?_;refine dA [some ⟨229,yu (S)⟩,some ⟨57,.box (eX b7 pl bM bj cv cT)⟩,some ⟨94,.box [.int .i64 pl,.int .i64 bM]⟩] (by rw [←c7];rw [c7];exact (congrArg (fun l=>[some (⟨229,.mp (S.map r5) l⟩:bm),some ⟨57,.box (eX b7 pl bM bj cv cT)⟩,some ⟨94,.box [.int .i64 pl,.int .i64 bM]⟩]) c7)) ?_;refine fS ?_;refine b6 ?_;refine fB [some ⟨229,yu (S)⟩] [some ⟨57,.box (eX b7 pl bM bj cv cT)⟩,some ⟨94,.box [.int .i64 pl,.int .i64 bM]⟩] [(0,.ro (bS t) 0 t.length),(8,.mp 0),(56,.ro (bS t) 0 t.length),(57,ah t.length),(58,ah k)] I aH hO (rU (Pa _ 1)) I (bt ?_);exact cc ⟨(k+1,S),⟨by simp only;omega,x3 e he aE aF oZ⟩,by simp only;omega,aH,I⟩
   ·have nH:r5 (pl,bM,0)∉S.map r5:=by intro q;obtain ⟨e,he,Lo⟩:=cS.1 q;simp only [r5,ao.agg.injEq,List.cons.injEq,ao.int.injEq,true_and,and_true] at Lo;exact hm ⟨e,he,Lo.1,Lo.2⟩
    refine aq (IN I (.pair I I I) I I I I I I I I (Ij S) nH) (bf ?_);refine bR 85 (r5 (pl,bM,0)) I (aU.of_eq I) ?_;refine Cs I (.pair I I I) I I I I I (Ij S) nH ?_;refine dA [some ⟨229,yu (S++[(pl,bM,bj.length)])⟩,some ⟨57,.box (eX b7 pl bM bj cv cT)⟩,some ⟨94,.box [.int .i64 pl,.int .i64 bM]⟩] (by unfold yu;rw [hb,hb];rfl) ?_;refine fS ?_;refine b6 ?_;refine fB [some ⟨229,yu (S++[(pl,bM,bj.length)])⟩] [some ⟨57,.box (eX b7 pl bM bj cv cT)⟩,some ⟨94,.box [.int .i64 pl,.int .i64 bM]⟩] [(0,.ro (bS t) 0 t.length),(8,.mp 0),(56,.ro (bS t) 0 t.length),(57,ah t.length),(58,ah k)] I aH hO (rU (Pa _ 1)) I (bt ?_);exact cc ⟨(k+1,S++[(pl,bM,bj.length)]),⟨by simp only;omega,wJ l4 (fun e he q=>hm ⟨e,he,q⟩)⟩,by simp only;omega,aH,I⟩
 ·have kk:k=t.length:=J;subst kk;rw [fO] at dE;rw [amu dE.free,aw aT] at ar;refine bl ?_;exact aZ ar I I
theorem apu (t:aJ)(p:Int)(b4:kb t):br Tryz.prog 120 [.ro (bS t) 0 t.length,.int .i64 p] (.int .i64 (y6 t p)):=by
 have bb:=O1 t b4;refine cg Tryz.f120 fun c ar bJ=> ?_;unfold y6 at ar;refine bE ?_;refine aL I I I bb (bt ?_);refine bw I (fun U=> ?_) (fun U=> ?_)
 ·rw [aB U] at ar;refine dy ?_;exact aZ ar I I
 rw [aw U] at ar;refine bt ?_;refine hg I I (fun g1=> ?_) (fun g1=> ?_)
 ·refine bt ?_;refine bw I (fun g2=> ?_) (fun g2=> ?_)
  ·rw [aB ⟨g1,g2⟩] at ar;refine dy ?_;exact aZ ar I I
  ·rw [aw (fun q=>g2 q.2)] at ar;refine bp ?_;exact aZ ar I I
 ·rw [aw (fun q=>g1 q.1)] at ar;refine bf ?_;exact aZ ar I I
theorem VB (l:aJ)(g:FuncId)(cD:List ao)(p:ev→Bool)(av:c2.e9 cD=true)(hlen:l.length≤9223372036854775807)(aD: ∀x∈l,br Tryz.prog g ([.agg (kU x)]++cD) (.bool (p x))):
 br Tryz.prog 161 [.ro (bS l) 0 l.length,.fn g cD] (.int .i64 (iz p l)):=by
 refine cm.sD (hx (P:=Tryz.prog) (fn:=Tryz.f161) I I ag I (fun c ar bJ=> ?_)) (fix:=fun _=>False) (fun _ h=>h) (by simp [c2.e9,c2,av]) I;refine bt ?_;refine cF (ι:=Nat) (fun k=>[(0,.ro (bS l) 0 l.length),(1,.fn g cD),(7,ah l.length),(8,ah k)]) (fun _=>[])
  (fun k=>k≤l.length∧(l.take k).any p=false) (fun k=>l.length-k) 0 ⟨aH,rfl,cj _,rfl⟩ ?_
 intro k ⟨an,ig⟩;refine bh ?_;refine bw I (fun h=> ?_) (fun h=> ?_)
 ·have b0:k<l.length:=J;have tv:=Cw p l aN k b0;refine bf ?_;refine bR 15 (.agg (kU (l.getD k aN))) I (aU.of_eq I) ?_;refine aL I I I (aD _ (mI aN b0)) (bE ?_);refine vx I (fun ab=> ?_) (fun ab=> ?_)
  ·refine bf ?_;refine aZ ar I ?_;have:=qL p l k ig an;rw [tV l aN k b0] at this;simp only [iz,ab,gg] at this;rw [this];simp [gP]
  ·refine bl ?_;refine cc ⟨k+1,⟨J,by rw [tv,ig,ab];rfl⟩,J,aH,I⟩
 ·have b0:k=l.length:=J;subst b0;refine bl ?_;refine aZ ar I ?_;have:=qL p l l.length ig an;rw [rj] at this;rw [this];rfl
theorem ajO (n:ev)(p i:Int):br Tryz.prog 167 [.agg (kU n),.cK (.box [.int .i64 p]) 0 0,.cK (.box [.int .i64 i]) 0 0] (.bool (fX p i n)):=by
 obtain ⟨b7,pl,bM,bj,cv,cT⟩:=n;refine cg Tryz.f167 fun c ar bJ=> ?_;unfold fX own at ar;unfold kU;simp only at ar⊢;refine bf ?_;refine hg I I (fun g1=> ?_) (fun g1=> ?_)
 ·rw [eG g1,mU] at ar;refine fe ?_;refine hg I I (fun g2=> ?_) (fun g2=> ?_)
  ·rw [eG g2,mU] at ar;refine fe ?_;exact aZ ar I I
  ·rw [fP g2,uC] at ar;refine bf ?_;exact aZ ar I I
 ·rw [fP g1,uC,uC] at ar;refine bf ?_;exact aZ ar I I
theorem ajr {o1 o2 rG tI:bm}(U:e5 o1.c)(ab:e5 o2.c)(ay:e5 rG.c)(bc:e5 tI.c): ∀(h:Nat) (o:bm),([some o1,some o2,some rG,some tI]:aY)[h]? =some (some o)→e5 o.c:=by
 intro h o ai
 match h,ai with
 |0,ai=>cases ai;exact U
 |1,ai=>cases ai;exact ab
 |2,ai=>cases ai;exact ay
 |3,ai=>cases ai;exact bc
 |_+4,ai=>simp at ai
theorem QZ {n:Nat}{o1 o2 rG:bm}(U:fw n o1.c)(ab:fw n o2.c)(ay:fw n rG.c): ∀(h:Nat) (o:bm),([some o1,some o2,some rG]:aY)[h]? =some (some o)→fw n o.c:=by
 intro h o ai
 match h,ai with
 |0,ai=>cases ai;exact U
 |1,ai=>cases ai;exact ab
 |2,ai=>cases ai;exact ay
 |_+3,ai=>simp at ai
theorem Ay (k:IntKind)(l:List Int)(n:Nat):fw n (.ints k l):=fun _ _ _ _=>rfl
theorem VG (x:Int)(n:Nat):fw n (.box [.int .i64 x]):=by
 intro i j _ ae;obtain rfl:j=0:=by have ae:j<1:=ae;omega
 rfl
theorem Kv (t:aJ)(p:Int)(hlen:t.length≤9223372036854775807):br Tryz.prog 90 [.ro (bS t) 0 t.length,.int .i64 p] (.ck [.ro (.ints .i64 (b9 t p)) 0 (b9 t p).length,.ro (.ints .i64 (j3 t p)) 0 (j3 t p).length]):=by
 refine cg Tryz.f90 fun c ar bJ=> ?_;rw [←anP,←aoa] at ar;refine u6 ?_;refine lK 6 ⟨3,.ints .i64 []⟩ I I ?_;refine lK 7 ⟨3,.ints .i64 []⟩ I I ?_;repeat (refine fV ?_)
 refine cF (ι:=Nat) (fun k=>[(0,.ro (bS t) 0 t.length),(3,.ptr 0 0 0),(6,.aC 1 0 (lN t p k).length),(7,.aC 2 0 (lN t p k).length),(10,ah k)]) (fun k=>[some ⟨3,.box [.int .i64 p]⟩,some ⟨3,.ints .i64 (lN t p k)⟩,some ⟨3,.ints .i64 (rV t p k)⟩])
  (fun k=>k≤10) (fun k=>10-k) 0 ⟨aH,rfl,cj _⟩ ?_
 intro k an;refine bh ?_;refine bw I (fun h=> ?_) (fun h=> ?_)
 ·have b0:k<10:=J;have ci:=VB t 167 [.cK (.box [.int .i64 p]) 0 0,.cK (.box [ah k]) 0 0] (fX p (k:Int)) rfl hlen (fun n _=>ajO n p k);have is:=Vj t p k;have IE:=ana t p k;have wI:=anQ t p k;have km:=V0 t p k;generalize ts:lN t p (k+1)=QI at*;generalize mz:rV t p (k+1)=fb at*;generalize lN t p k=bU at*;generalize rV t p k=S at*;refine u9 ?_;refine dA [some ⟨3,.box [.int .i64 p]⟩,some ⟨3,.ints .i64 bU⟩,some ⟨3,.ints .i64 S⟩,some ⟨3,.box [ah k]⟩] I ?_;refine bR 8 (.ptr 3 0 0) I (aU.of_eq I) ?_;refine bR 14 (.fn 167 [.ptr 0 0 0,.ptr 3 0 0]) I (aU.of_eq I) ?_;refine JU rfl rfl rfl rfl ci (ajr (o1:=⟨3,.box [.int .i64 p]⟩) (o2:=⟨3,.ints .i64 bU⟩) (rG:=⟨3,.ints .i64 S⟩) (tI:=⟨3,.box [ah k]⟩) (G2 _) mc mc (G2 _)) ⟨trivial,⟨fun o ai=>by simp at ai;subst ai;exact fx,fun o ai=>by simp at ai;subst ai;exact fx,trivial⟩,trivial⟩ rfl rfl rfl ?_;cases ig:t.any (fX p (k:Int))
  ·rw [ig,aw aT] at is IE;rw [apd _ _ ig];refine fS ?_;refine b6 ?_;refine fB [some ⟨3,.box [.int .i64 p]⟩,some ⟨3,.ints .i64 bU⟩,some ⟨3,.ints .i64 S⟩] [some ⟨3,.box [ah k]⟩] [(0,.ro (bS t) 0 t.length),(3,.ptr 0 0 0),(6,.aC 1 0 bU.length),(7,.aC 2 0 bU.length),(9,.int .i64 (-1)),(10,ah k)] I aH hO (QZ (VG _ _) (Ay _ _ _) (Ay _ _ _)) I (u5 ?_);exact cc ⟨k+1,J,J,⟨I,I,by rw [ts,is];rfl,by rw [ts,is];rfl,I,trivial⟩,by rw [ts,mz,is,IE]⟩
  ·rw [ig,aB rfl] at is IE;have hD:=anG ig;rw [Wa _ _ ig];have hw:ca t p (k:Int)=(t.getD (t.findIdx (fX p (k:Int))) aN).next.length:=rfl
   have hD:t.findIdx (fX p (k:Int))<t.length:=hD;generalize ca t p (k:Int)=wd at*;generalize t.findIdx (fX p (k:Int))=f at*;refine u5 ?_;refine ee ag ?_;refine bF 0 I ag ag ag I (bD I) I ?_;refine bF 4 I ag ag ag I (bD I) I ?_;refine bF 5 I ag ag ag I (bD I) I ?_;refine bF 6 I ag ag ag I (bD I) I ?_;refine bF 7 I ag ag ag I (ib I I I I (by first|(simp only [cR,cn,fJ];exact I)|exact I) J) I ?_;refine bF 8 I ag ag ag I (lJ I I I I I I) I ?_;apply tS (H:=[some ⟨3,.box [.int .i64 p]⟩,some ⟨3,.ints .i64 (bU++[(k:Int)])⟩,some ⟨3,.ints .i64 (S++[(wd:Int)])⟩,some ⟨3,.box [ah k]⟩]) [(0,.ro (bS t) 0 t.length),(3,.ptr 0 0 0),(6,.aC 1 0 (bU.length+1)),(7,.aC 2 0 (bU.length+1)),(10,ah k)]
   ·intro hn;subst hw;refine dV 1 9 ?_ ?_
    ·refine bh ?_;refine dV 2 9 ?_ ?_
     ·refine bt ?_;refine dV 3 9 ?_ ?_
      ·refine dI I I I I I I I I I I I I eu I (by show (bU.length+1)*8≤_∧_;omega) (fun i j _ _=>rfl) dq (bp ?_);refine bn 9 ?_;refine bf ?_;refine bF 10 I ag ag ag I (gm I I I) I ?_;refine bn 11 ?_;refine bt ?_;refine bn 12 ?_;refine dI I I I I I I I I I km I I eu I (by show (bU.length+1)*8≤_∧_;omega) (fun i j _ _=>rfl) dq (bp ?_);refine bF 13 I ag ag ag I (dC I) I ?_;refine bF 14 I ag ag ag I (dC I) I ?_;exact hn _ aH
      ·refine bf ?_;refine bF 10 I ag ag ag I (gm I I I) I ?_;refine dV 3 11 ?_ ?_
       ·refine dI I I I I I I I I I I I I eu I (by show (bU.length+1)*8≤_∧_;omega) (fun i j _ _=>rfl) dq (bp ?_);refine bn 11 ?_;refine bt ?_;refine bn 12 ?_;refine dI I I I I I I I I I km I I eu I (by show (bU.length+1)*8≤_∧_;omega) (fun i j _ _=>rfl) dq (bp ?_);refine bF 13 I ag ag ag I (dC I) I ?_;refine bF 14 I ag ag ag I (dC I) I ?_;exact hn _ aH
       ·refine bt ?_;refine bn 3 ?_;refine dI I I I I I I I I I I I I eu I (by show (bU.length+1)*8≤_∧_;omega) (fun i j _ _=>rfl) dq (bp ?_);refine bn 12 ?_;refine dI I I I I I I I I I km I I eu I (by show (bU.length+1)*8≤_∧_;omega) (fun i j _ _=>rfl) dq (bp ?_);refine bF 13 I ag ag ag I (dC I) I ?_;refine bF 14 I ag ag ag I (dC I) I ?_;exact hn _ aH
     ·refine bf ?_;refine bF 10 I ag ag ag I (gm I I I) I ?_;refine dV 2 11 ?_ ?_
      ·refine bt ?_;refine dV 3 11 ?_ ?_
       ·refine dI I I I I I I I I I I I I eu I (by show (bU.length+1)*8≤_∧_;omega) (fun i j _ _=>rfl) dq (bp ?_);refine bn 11 ?_;refine bt ?_;refine bn 12 ?_;refine dI I I I I I I I I I km I I eu I (by show (bU.length+1)*8≤_∧_;omega) (fun i j _ _=>rfl) dq (bp ?_);refine bF 13 I ag ag ag I (dC I) I ?_;refine bF 14 I ag ag ag I (dC I) I ?_;exact hn _ aH
       ·refine bt ?_;refine bn 3 ?_;refine dI I I I I I I I I I I I I eu I (by show (bU.length+1)*8≤_∧_;omega) (fun i j _ _=>rfl) dq (bp ?_);refine bn 12 ?_;refine dI I I I I I I I I I km I I eu I (by show (bU.length+1)*8≤_∧_;omega) (fun i j _ _=>rfl) dq (bp ?_);refine bF 13 I ag ag ag I (dC I) I ?_;refine bF 14 I ag ag ag I (dC I) I ?_;exact hn _ aH
      ·refine bt ?_;refine bn 2 ?_;refine bt ?_;refine bn 3 ?_;refine dI I I I I I I I I I I I I eu I (by show (bU.length+1)*8≤_∧_;omega) (fun i j _ _=>rfl) dq (bp ?_);refine bn 12 ?_;refine dI I I I I I I I I I km I I eu I (by show (bU.length+1)*8≤_∧_;omega) (fun i j _ _=>rfl) dq (bp ?_);refine bF 13 I ag ag ag I (dC I) I ?_;refine bF 14 I ag ag ag I (dC I) I ?_;exact hn _ aH
    ·refine bf ?_;refine bF 10 I ag ag ag I (gm I I I) I ?_;refine dV 1 11 ?_ ?_
     ·refine bh ?_;refine dV 2 11 ?_ ?_
      ·refine bt ?_;refine dV 3 11 ?_ ?_
       ·refine dI I I I I I I I I I I I I eu I (by show (bU.length+1)*8≤_∧_;omega) (fun i j _ _=>rfl) dq (bp ?_);refine bn 11 ?_;refine bt ?_;refine bn 12 ?_;refine dI I I I I I I I I I km I I eu I (by show (bU.length+1)*8≤_∧_;omega) (fun i j _ _=>rfl) dq (bp ?_);refine bF 13 I ag ag ag I (dC I) I ?_;refine bF 14 I ag ag ag I (dC I) I ?_;exact hn _ aH
       ·refine bt ?_;refine bn 3 ?_;refine dI I I I I I I I I I I I I eu I (by show (bU.length+1)*8≤_∧_;omega) (fun i j _ _=>rfl) dq (bp ?_);refine bn 12 ?_;refine dI I I I I I I I I I km I I eu I (by show (bU.length+1)*8≤_∧_;omega) (fun i j _ _=>rfl) dq (bp ?_);refine bF 13 I ag ag ag I (dC I) I ?_;refine bF 14 I ag ag ag I (dC I) I ?_;exact hn _ aH
      ·refine bt ?_;refine bn 2 ?_;refine bt ?_;refine bn 3 ?_;refine dI I I I I I I I I I I I I eu I (by show (bU.length+1)*8≤_∧_;omega) (fun i j _ _=>rfl) dq (bp ?_);refine bn 12 ?_;refine dI I I I I I I I I I km I I eu I (by show (bU.length+1)*8≤_∧_;omega) (fun i j _ _=>rfl) dq (bp ?_);refine bF 13 I ag ag ag I (dC I) I ?_;refine bF 14 I ag ag ag I (dC I) I ?_;exact hn _ aH
     ·refine bt ?_;refine bn 1 ?_;refine bh ?_;refine bn 2 ?_;refine bt ?_;refine bn 3 ?_;refine dI I I I I I I I I I I I I eu I (by show (bU.length+1)*8≤_∧_;omega) (fun i j _ _=>rfl) dq (bp ?_);refine bn 12 ?_;refine dI I I I I I I I I I km I I eu I (by show (bU.length+1)*8≤_∧_;omega) (fun i j _ _=>rfl) dq (bp ?_);refine bF 13 I ag ag ag I (dC I) I ?_;refine bF 14 I ag ag ag I (dC I) I ?_;exact hn _ aH
   ·refine dX ag ?_;repeat (refine kQ ?_)
    refine b6 ?_;refine fB [some ⟨3,.box [.int .i64 p]⟩,some ⟨3,.ints .i64 (bU++[(k:Int)])⟩,some ⟨3,.ints .i64 (S++[(wd:Int)])⟩] [some ⟨3,.box [ah k]⟩] [(0,.ro (bS t) 0 t.length),(3,.ptr 0 0 0),(6,.aC 1 0 (bU.length+1)),(7,.aC 2 0 (bU.length+1)),(10,ah k)] I aH hO (QZ (VG _ _) (Ay _ _ _) (Ay _ _ _)) I (bt ?_);have Td:QI.length=bU.length+1:=by rw [is,di];rfl
    exact cc ⟨k+1,J,J,⟨I,I,by rw [ts,Td];rfl,by rw [ts,Td];rfl,I,trivial⟩,by rw [ts,mz,is,IE]⟩
 ·have afj:k=10:=J;subst afj;have km:=V0 t p 10;refine iq ?_;refine mG 1 6 (lN t p 10).length [(7,.aC 2 0 (lN t p 10).length)] I mc I (by show (lN t p 10).length≤(lN t p 10).length;exact bN _) ⟨I,trivial⟩ ?_;refine mG 2 7 (lN t p 10).length [(6,.ro (.ints .i64 (lN t p 10)) 0 (lN t p 10).length)] I mc I (by show (lN t p 10).length≤(rV t p 10).length;omega) ⟨I,trivial⟩ ?_;refine ea 7 (.ro (.ints .i64 (rV t p 10)) 0 (rV t p 10).length) I (aU.of_eq (by rw [km])) (bE ?_);exact aZ ar I I
end Go.Proofs.YtmpnheilfejcpaaGreatDoor
namespace Go.Proofs.YtmpnheilfejcpaaGreatDoor
open Go.aj Go.aj.dh Go.aj.cQ Go.RowKit
attribute [local irreducible] aj eD bZ cm gK
def Dx (r:List dP):List ao:=[.ro (.strs r) 0 r.length]
def gW (r:List Rat):List ao:=[.ro (aO r) 0 r.length]
abbrev oF (m:List (List dP)):Cells:=fI [] 1 Dx m
abbrev c8 (m:List (List Rat)):Cells:=fI [] 1 gW m
theorem amz (r:List dP)(j h:Nat)(ae:j<1):((Dx r).getD j .any).forget h=(Dx r).getD j .any:=by obtain rfl:j=0:=J;rfl
theorem pf (r:List Rat)(j h:Nat)(ae:j<1):((gW r).getD j .any).forget h=(gW r).getD j .any:=by obtain rfl:j=0:=J;rfl
theorem alT (m:List (List dP)):e5 (oF m):=by
 intro i j _ ae;obtain rfl:j=0:=by have ae:j<1:=ae;omega
 rfl
theorem alS (m:List (List Rat)):e5 (c8 m):=by
 intro i j _ ae;obtain rfl:j=0:=by have ae:j<1:=ae;omega
 rfl
theorem T7 (q:List Rat)(j:Nat)(ae:j<1):(fM 1 1 [.ro (aO q) 0 q.length]).at 0 j=(gW q).getD j .any:=by obtain rfl:j=0:=J;rfl
theorem T8 (q:List dP)(j:Nat)(ae:j<1):(fM 1 1 [.ro (.strs q) 0 q.length]).at 0 j=(Dx q).getD j .any:=by obtain rfl:j=0:=J;rfl
theorem Tf (l:List dP)(hlen:l.length≤1000000)(az: ∀s∈l,s.length≤9223372036854775807∧hI s=0):br Tryz.prog 116 [.ro (.strs l) 0 l.length] (.ro (aO (l.map dk)) 0 (l.map dk).length):=by
 have:=Te l hlen az
 rwa [cW]
theorem hi {m:Nat}{q:Rat}(h:D (9*m) q):ga m q:=by
 have key: ∀n:Nat,n<10^(9*m)→(a7 n).length≤m:=fun n aG=>by refine oy (ha aG ?_);rw [Nat.pow_mul];exact xO aT m
 exact ⟨key _ h.1,key _ h.2⟩
theorem Vm (l:List Rat)(hlen:l.length≤1000000)(az: ∀q∈l,ga 100000 q)(hp:l.all eB=true):br Tryz.prog 70 [.ro (aO l) 0 l.length] (.ck [.ro (.strs (l.map cq)) 0 (l.map cq).length,.int .i64 0]):=by
 have:=VS l hlen az hp
 rwa [cW]
theorem apr (l:List Rat)(hlen:l.length≤1000000)(az: ∀q∈l,ga 100000 q): ∃r:ao,br Tryz.prog 70 [.ro (aO l) 0 l.length] (.ck [r,.int .i64 (xn l).2])∧aU r (.ro (.strs (xn l).1) 0 (xn l).1.length):=by
 cases h:l.all eB
 ·refine ⟨.nil,?_,?_⟩
  ·have:=WK l hlen az h;unfold xn;rw [h];exact this
  ·unfold xn;rw [h];exact aU.nil
 ·refine ⟨_,?_,aU.yo⟩;have:=Vm l hlen az h;unfold xn;rw [h];exact this
end Go.Proofs.YtmpnheilfejcpaaGreatDoor
namespace Go.Proofs.YtmpnheilfejcpaaGreatDoor
open Go.aj Go.aj.dh Go.aj.cQ Go.RowKit Go.aj.ka Go.aj.eT
attribute [local irreducible] aj eD bZ cm gK
theorem acm (a b:List (List UInt8))(hlen:a.length≤9223372036854775807)(zX:b.length≤9223372036854775807):br Tryz.prog 57 [.ro (.strs a) 0 a.length,.ro (.strs b) 0 b.length] (.bool (decide (a=b))):=by
 refine cg Tryz.f57 fun c ar bJ=> ?_;refine bt ?_;refine bw I (fun h=> ?_) (fun h=> ?_)
 ·refine dy ?_;refine aZ ar I ?_;have: ¬a=b:=by rintro rfl;exact h rfl
  simp [gP,this]
 have mX:a.length=b.length:=J;refine bt ?_;refine cF (ι:=Nat) (fun k=>[(0,.ro (.strs a) 0 a.length),(1,.ro (.strs b) 0 b.length),(12,ah a.length),(13,ah k)]) (fun _=>[])
  (fun k=>k≤a.length∧a.take k=b.take k) (fun k=>a.length-k) 0 ⟨aH,rfl,cj _,rfl⟩ ?_
 intro k ⟨an,heq⟩;refine bh ?_;refine bw I (fun ab=> ?_) (fun ab=> ?_)
 ·have b0:k<a.length:=J;have aW:=rL a [] k b0;have ak:=rL b [] k J;refine bp ?_;refine yI ag ag I (u9 ?_);refine bw I (fun ay=> ?_) (fun ay=> ?_)
  ·refine bf ?_;refine aZ ar I ?_;have: ¬a=b:=by rintro rfl;exact ay rfl
   simp [gP,this]
  ·refine bl ?_;have bc:a.getD k []=b.getD k []:=hL.1 ay;exact cc ⟨k+1,⟨J,by rw [aW,ak,heq,bc]⟩,J,aH,I⟩
 ·have b0:k=a.length:=J;subst b0;rw [fO,mX,fO] at heq;refine bl ?_;refine aZ ar I ?_;simp [gP,heq]
theorem acj (a b:List (List dP))(HI:a.length≤9223372036854775807)(zX:b.length≤9223372036854775807)(My: ∀r∈a,r.length≤9223372036854775807)(Mz: ∀r∈b,r.length≤9223372036854775807)(g:FuncId)(c9: ∀x∈a,∀y∈b,br Tryz.prog g [.ro (.strs x) 0 x.length,.ro (.strs y) 0 y.length] (.bool (decide (x=y)))):br Tryz.prog 155 [.ro (oF a) 0 a.length,.ro (oF b) 0 b.length,.fn g []] (.bool (decide (a=b))):=by
 refine cg Tryz.f155 fun c ar bJ=> ?_;refine bt ?_;refine bw I (fun h=> ?_) (fun h=> ?_)
 ·refine dy ?_;refine aZ ar I ?_;have: ¬a=b:=by rintro rfl;exact h rfl
  simp [gP,this]
 have mX:a.length=b.length:=J;refine bt ?_;refine cF (ι:=Nat) (fun k=>[(0,.ro (oF a) 0 a.length),(1,.ro (oF b) 0 b.length),(2,.fn g []),(15,.ro (oF a) 0 a.length),(16,ah a.length),(17,ah k)]) (fun _=>[])
  (fun k=>k≤a.length∧a.take k=b.take k) (fun k=>a.length-k) 0 ⟨aH,rfl,cj _,rfl⟩ ?_
 intro k ⟨an,heq⟩;refine bh ?_;refine bw I (fun ab=> ?_) (fun ab=> ?_)
 ·have b0:k<a.length:=J;have aW:=rL a [] k b0;have ak:=rL b [] k J;have av:=c9 _ (mI [] b0) _ (mI [] (show k<b.length by omega));refine bf ?_;refine aL I I I av (bl ?_);cases ay:decide (a.getD k []=b.getD k []) with
  |false=>
   refine bf ?_;refine aZ ar I ?_;have bc:=of_decide_eq_false ay;have: ¬a=b:=by rintro rfl;exact bc rfl
   simp [gP,this]
  |true=>
   refine bl ?_;have bc:=DK ay;exact cc ⟨k+1,⟨J,by rw [aW,ak,heq,bc]⟩,J,aH,I⟩
 ·have b0:k=a.length:=J;subst b0;rw [fO,mX,fO] at heq;refine bl ?_;refine aZ ar I ?_;simp [gP,heq]
theorem ajG (a b:List dP)(HI:a.length≤9223372036854775807)(zX:b.length≤9223372036854775807):br Tryz.prog 156 [.ro (.strs a) 0 a.length,.ro (.strs b) 0 b.length] (.bool (decide (a=b))):=by have he:=acm a b HI zX;refine cg Tryz.f156 fun c ar bJ=> ?_;refine bE ?_;refine aL I I I he (bE ?_);exact aZ ar I I
theorem ajH (a b:List (List dP))(HI:a.length≤9223372036854775807)(zX:b.length≤9223372036854775807)(My: ∀r∈a,r.length≤9223372036854775807)(Mz: ∀r∈b,r.length≤9223372036854775807):br Tryz.prog 80 [.ro (oF a) 0 a.length,.ro (oF b) 0 b.length] (.bool (decide (a=b))):=by have he:=acj a b HI zX My Mz 156 (fun x al y a1=>ajG x y (My x al) (Mz y a1));refine cg Tryz.f80 fun c ar bJ=> ?_;refine bE ?_;refine aL I I I he (bE ?_);exact aZ ar I I
def AX (x:Int×Int):List ao:=[.int .i64 x.1,.int .i64 x.2]
abbrev kV (l:iY):Cells:=fI (0,0) 2 AX l
theorem amg (q:Rat)(j:Nat):c2 ((bV q).getD j .any)=true:=by
 match j with
 |0=>rfl
 |1=>rfl
 |2=>rfl
 |n+3=>rfl
def nT:Option Rat→List ao
 |some q=>bV q
 |none=>[.bool false,.nil,.nil]
abbrev jo (l:List (Option Rat)):Cells:=fI none 3 nT l
theorem ZN (n:Nat):cG (pg n [.bool false,.nil,.nil]) (jo (List.replicate n none)):=by
 refine ⟨by simp [fI,Cells.len,pg],I,fun i j aa ae=> ?_⟩;have aa:i<n:=by simpa [Cells.len,pg] using aa
 show (nT ((List.replicate n (none:Option Rat)).getD i none)).getD j .any=_;rw [eA none (by simpa using aa),DX];rfl
theorem AL {α:Type}(d:α)(n:Nat)(e:α→List ao)(zs:List α)(k:Nat)(a:α)(an:k<zs.length)(aK ba:Nat)(aQ:aK<zs.length)(bd:ba<n):(fI d n e (zs.set k a)).at aK ba=if aK=k then (e a).getD ba .any else (fI d n e zs).at aK ba:=by
 show (e ((zs.set k a).getD aK d)).getD ba .any=if aK=k then (e a).getD ba .any else (e (zs.getD aK d)).getD ba .any
 rw [Go.aj.dR.fQ];by_cases h:aK=k
 ·rw [aB h,aB ⟨h,an⟩]
 ·rw [aw h,aw (fun q=>h q.1)]
theorem UP (l:iY):e5 (kV l):=by
 intro i j _ ae;have ae:j<2:=ae
 match j,ae with
 |0,_=>rfl
 |1,_=>rfl
def wV (o:Option (List Rat)):ao:=match o with
 |none=> .nil
 |some l=> .ro (aO l) 0 l.length
structure DF (t:aJ)(o:dd):Prop where
 G7: ∀i,i<t.length→(t.getD i aN).kind=1→o i=some ((t.getD i aN).c3.map dk)
 ends: ∀i,i<t.length→(t.getD i aN).kind=0→o i=none
 some: ∀i,i<t.length→ ∀l,o i=some l→(t.getD i aN).next.length≤l.length∧0<l.length∧l.length≤1000000∧ ∀q∈l,ga 100000 q
 reach: ∀j,j<t.length→ga 100000 ((cA t o).getD j 0)
theorem amA {t:aJ}(af:Valid t){i:Nat}(aa:i<t.length)(an:(t.getD i aN).kind=1):iI (t.getD i aN).c3=0:=by
 have h:=af.nodes i aa;unfold py at h;rw [aw J,aB an] at h;split at h
 ·cases h
 split at h
 ·rename_i U;exact absurd h U
 split at h
 ·cases h
 exact h
theorem anR {t:aJ}(af:Valid t){i:Nat}(aa:i<t.length):(t.getD i aN).kind=0∨(t.getD i aN).kind=1∨(t.getD i aN).kind=2:=by
 rcases af.child aa with h|h
 ·exact .inl h.1
 ·exact .inr h.1
theorem ZP (l:List Rat):cG (jo (l.map some)) (aO l):=by
 refine ⟨by simp [fI,Cells.len],I,fun i j aa ae=> ?_⟩;have aa:i<l.length:=by simpa [fI,Cells.len] using aa
 show (bV (l.getD i 0)).getD j .any=(nT ((l.map some).getD i none)).getD j .any;rw [nk some l 0 none i aa];rfl
theorem XD (l:List (Option Rat))(n:Nat):fw n (jo l):=by
 intro i j _ ae;show gV n ((nT (l.getD i none)).getD j .any)=true;have ae:j<3:=ae;cases l.getD i none with
 |none=>match j,ae with
  |0,_=>rfl
  |1,_=>rfl
  |2,_=>rfl
 |some q=>match j,ae with
  |0,_=>rfl
  |1,_=>rfl
  |2,_=>rfl
theorem PJ (t:aJ)(o:dd)(g:FuncId)(cD:List ao)(aey:c2.e9 cD=true)(Sg:mL 1 cD=true)(b4:kb t)(af:Valid t)(dL:DF t o)(c9: ∀i,i<t.length→(t.getD i aN).kind=2→br Tryz.prog g ([.agg (kU (t.getD i aN))]++cD) (wV (o i))):
 br Tryz.prog 168 [.ro (bS t) 0 t.length,.fn g cD] (.ro (aO (cA t o)) 0 t.length):=by
 have hlen:=b4.len;have Lu:=af.le;have ch:=af.ne;have kl:(List.replicate t.length (none:Option Rat)).length=t.length:=fc;refine cm.sD (hx (P:=Tryz.prog) (fn:=Tryz.f168) I I ag I (fun c ar bJ=> ?_)) (fix:=fun _=>False) (fun _ h=>h) (by simp [c2.e9,c2,aey]) I;refine bt ?_;refine mh I I I I I I I I (by show (0:Int)≤_∧_≤_∧(56:Int)*_≤_∧_;omega) (bE ?_);refine aL I I I vA ?_;unfold b8;refine fD [some ⟨118,jo (List.replicate t.length none)⟩] (aP.eqv (ZN _) aP.nil) ?_;have oq:0<(jo (List.replicate t.length none)).len:=by show 0<(List.replicate t.length (none:Option Rat)).length;omega
 repeat (refine aq (gr rfl rfl rfl rfl rfl hq J) ?_)
 refine eN (c':=jo ((List.replicate t.length none).set 0 (some 1))) I I I I I oq (by show (List.set _ 0 _).length=(List.replicate _ _).length;simp) I (fun aK ba aQ bd=>AL none 3 nT _ 0 (some 1) oq aK ba aQ bd) (bt ?_);refine cF (ι:=Nat) (fun i=>[(0,.ro (bS t) 0 t.length),(1,.fn g cD),(5,.aC 0 0 t.length),(17,.ro (bS t) 0 t.length),(18,ah t.length),(19,ah i)]) (fun i=>[some ⟨118,jo (qd t o i)⟩])
  (fun i=>i≤t.length) (fun i=>t.length-i) 0 ⟨aH,rfl,cj _⟩ ?_
 intro i aa;refine bh ?_;refine bw I (fun h=> ?_) (fun h=> ?_)
 ·have aQ:i<t.length:=J;have nc:=b4.node _ (mI aN aQ);have qD:=af.behind aQ;have zJ:=CG t o i;have hN:=Ox af o i aa i aQ (af.known aQ);have wM:=dL.reach i aQ;have afe:=anR af aQ;have LU:=fun an=>amA af aQ an;have aeS:=dL.G7 i aQ;have pX:=dL.ends i aQ;have BL:=dL.some i aQ;have aeT:=c9 i aQ;have l5:qd t o (i+1)=dN (np (o i) ((qd t o i).getD i none)) (t.getD i aN).next 0 (qd t o i):=rfl
  generalize Ho:qd t o (i+1)=GL at*;generalize qd t o i=W at*;generalize z1:o i=u1 at*;generalize (cA t o).getD i 0=fA at*;rw [hN] at l5;obtain ⟨s1,s2,vb,IC⟩:=nc;refine bf ?_;refine bR 23 (.agg (kU (t.getD i aN))) I (aU.of_eq I) ?_;generalize aG:t.getD i aN=n at*;obtain ⟨b7,pl,bM,bj,cv,cT⟩:=n;simp only at*;refine dj (c':= .box (eX b7 pl bM bj cv cT)) I I I I I I I ?_;refine dA [some ⟨118,jo (W)⟩,some ⟨57,.box (eX b7 pl bM bj cv cT)⟩] I ?_;refine bR 7 (.ptr 1 0 0) I (aU.of_eq I) ?_;apply kP (H:=[some ⟨118,jo (W)⟩,some ⟨57,.box (eX b7 pl bM bj cv cT)⟩]) [(0,.ro (bS t) 0 t.length),(1,.fn g cD),(5,.aC 0 0 t.length),(6,ah i),(7,.ptr 1 0 0),(8,wV u1),(17,.ro (bS t) 0 t.length),(18,ah t.length),(19,ah i),(37,.ro (.ints .i64 bj) 0 bj.length),(38,ah bj.length),(39,.int .i64 0)]
  ·intro fin;refine bl ?_;rcases afe with an|an|an
   ·have:=pX an;subst this;subst an;refine bl ?_;exact fin _ aH
   ·have U:=aeS an;have ab:=LU an;subst an;subst U;obtain ⟨v1,v2,_,_⟩:=CP ab;have cin:=Tf cv J (fun r ad=>⟨vb r ad,v2 r ad⟩);refine bl ?_;refine aL I I I cin (bl ?_);exact fin _ aH
   ·have U:=aeT an;subst an;refine bf ?_;refine bR 34 (.agg (kU ⟨2,pl,bM,bj,cv,cT⟩)) I (aU.of_eq I) ?_;refine aL I I I U (bl ?_);exact fin _ aH
  cases u1 with
  |none=>
   refine cF (ι:=Nat) (fun j=>[(0,.ro (bS t) 0 t.length),(1,.fn g cD),(5,.aC 0 0 t.length),(6,ah i),(7,.ptr 1 0 0),(8,.nil),(17,.ro (bS t) 0 t.length),(18,ah t.length),(19,ah i),(37,.ro (.ints .i64 bj) 0 bj.length),(38,ah bj.length),(39,ah j)]) (fun j=>[some ⟨118,jo (dN (np none (some fA)) (bj.take j) 0 W)⟩,some ⟨57,.box (eX b7 pl bM bj cv cT)⟩])
    (fun j=>j≤bj.length) (fun j=>bj.length-j) 0 ⟨aH,rfl,cj _⟩ ?_
   intro j ae;refine bh ?_;refine bw I (fun bI=> ?_) (fun bI=> ?_)
   ·have bd:j<bj.length:=J;obtain ⟨dS,eP⟩:=qD _ (dv 0 bd);have iQ:(dN (np none (some fA)) (bj.take j) 0 W).length=t.length:=by rw [xk];exact zJ
    have rn:(dN (np none (some fA)) (bj.take j) 0 W).getD i none=some fA:=(tP _ none _ _ _ (fun c av=>by have:=qD c (pI av);omega)).trans hN;have dT:dN (np none (some fA)) (bj.take (j+1)) 0 W=(dN (np none (some fA)) (bj.take j) 0 W).set (bj.getD j 0).toNat (np none (some fA) j):=by rw [Au bd,AA,fy,hX ae,cR]
    generalize mW:dN (np none (some fA)) (bj.take (j+1)) 0 W=zc at*;generalize dN (np none (some fA)) (bj.take j) 0 W=A at*;obtain ⟨x,al⟩:=oW (show 0≤bj.getD j 0 by omega);have tD:(bj.getD j 0).toNat=x:=by rw [al,cn]
    rw [al] at dS eP;rw [tD] at dT;have oo:x<A.length:=J;have sn:i<(jo A).len:=by show i<A.length;omega
    have Hg:x<(jo A).len:=oo;have By:(A.set x (some fA)).getD i none=some fA:=by rw [Go.aj.dR.fQ,aw J];exact rn
    have RH:i<(jo (A.set x (some fA))).len:=by show i<(A.set x (some fA)).length;rw [da];omega
    have wy:x<(jo (A.set x (some fA))).len:=by show x<(A.set x (some fA)).length;rw [da];omega
    refine yp ?_;refine dc I ?_;refine iq ?_;refine ea 10 (ah x) I (aU.of_eq (by rw [al])) (bf ?_);refine bR 49 (.agg (bV fA)) I (aU.of_eq (show ao.agg [(nT (A.getD i none)).getD 0 .any,(nT (A.getD i none)).getD 1 .any,(nT (A.getD i none)).getD 2 .any]=_ by rw [rn];rfl)) ?_;refine eN (c':=jo (A.set x (some fA))) I I I I I oo (by show (A.set x (some fA)).length=A.length;simp) I (fun aK ba aQ bd=>AL none 3 nT A x (some fA) oo aK ba aQ bd) (bE ?_);refine aq (amX I I I) (bl ?_);exact cc ⟨j+1,J,J,aH,by rw [mW,dT];rfl⟩
   ·have hc:j=bj.length:=J;subst hc;rw [fO,←l5];refine fS ?_;refine b6 ?_;refine fB [some ⟨118,jo (GL)⟩] [some ⟨57,.box (eX b7 pl bM bj cv cT)⟩] [(0,.ro (bS t) 0 t.length),(1,.fn g cD),(5,.aC 0 0 t.length),(17,.ro (bS t) 0 t.length),(18,ah t.length),(19,ah i)] I aH hO (rU (XD _ _)) (by show (true && (mL 1 cD && _))=true;rw [Sg];rfl) (bt ?_);exact cc ⟨i+1,J,J,aH,by rw [Ho]⟩
  |some l=>
   obtain ⟨fH,fu,uZ,u0⟩:=BL l rfl;refine cF (ι:=Nat) (fun j=>[(0,.ro (bS t) 0 t.length),(1,.fn g cD),(5,.aC 0 0 t.length),(6,ah i),(7,.ptr 1 0 0),(8,.ro (aO l) 0 l.length),(17,.ro (bS t) 0 t.length),(18,ah t.length),(19,ah i),(37,.ro (.ints .i64 bj) 0 bj.length),(38,ah bj.length),(39,ah j)]) (fun j=>[some ⟨118,jo (dN (np (some l) (some fA)) (bj.take j) 0 W)⟩,some ⟨57,.box (eX b7 pl bM bj cv cT)⟩])
    (fun j=>j≤bj.length) (fun j=>bj.length-j) 0 ⟨aH,rfl,cj _⟩ ?_
   intro j ae;refine bh ?_;refine bw I (fun bI=> ?_) (fun bI=> ?_)
   ·have bd:j<bj.length:=J;obtain ⟨dS,eP⟩:=qD _ (dv 0 bd);have iQ:(dN (np (some l) (some fA)) (bj.take j) 0 W).length=t.length:=by rw [xk];exact zJ
    have rn:(dN (np (some l) (some fA)) (bj.take j) 0 W).getD i none=some fA:=(tP _ none _ _ _ (fun c av=>by have:=qD c (pI av);omega)).trans hN;have dT:dN (np (some l) (some fA)) (bj.take (j+1)) 0 W=(dN (np (some l) (some fA)) (bj.take j) 0 W).set (bj.getD j 0).toNat (np (some l) (some fA) j):=by rw [Au bd,AA,fy,hX ae,cR]
    generalize mW:dN (np (some l) (some fA)) (bj.take (j+1)) 0 W=zc at*;generalize dN (np (some l) (some fA)) (bj.take j) 0 W=A at*;obtain ⟨x,al⟩:=oW (show 0≤bj.getD j 0 by omega);have tD:(bj.getD j 0).toNat=x:=by rw [al,cn]
    rw [al] at dS eP;rw [tD] at dT;have oo:x<A.length:=J;have sn:i<(jo A).len:=by show i<A.length;omega
    have Hg:x<(jo A).len:=oo;have By:(A.set x (some fA)).getD i none=some fA:=by rw [Go.aj.dR.fQ,aw J];exact rn
    have RH:i<(jo (A.set x (some fA))).len:=by show i<(A.set x (some fA)).length;rw [da];omega
    have wy:x<(jo (A.set x (some fA))).len:=by show x<(A.set x (some fA)).length;rw [da];omega
    refine yp ?_;refine dc I ?_;refine iq ?_;refine ea 10 (ah x) I (aU.of_eq (by rw [al])) (bf ?_);refine bR 49 (.agg (bV fA)) I (aU.of_eq (show ao.agg [(nT (A.getD i none)).getD 0 .any,(nT (A.getD i none)).getD 1 .any,(nT (A.getD i none)).getD 2 .any]=_ by rw [rn];rfl)) ?_;refine eN (c':=jo (A.set x (some fA))) I I I I I oo (by show (A.set x (some fA)).length=A.length;simp) I (fun aK ba aQ bd=>AL none 3 nT A x (some fA) oo aK ba aQ bd) (bE ?_);refine aq (aiV I I I fu) (bl ?_);have zV:j<l.length:=J;have abk:br Tryz.prog 99 [.agg [(nT ((A.set x (some fA)).getD i none)).getD 0 .any,(nT ((A.set x (some fA)).getD i none)).getD 1 .any,(nT ((A.set x (some fA)).getD i none)).getD 2 .any],b8 (l.getD j 0)] (b8 (fA*l.getD j 0)):=by rw [By];exact Gf fA (l.getD j 0) wM (u0 _ (dv 0 zV))
    refine ee ag ?_;refine eM (fuel:=1) [0,1,2,3,4,5,6,7,8,9,10,11] [(0,.ro (bS t) 0 t.length),(1,.fn g cD),(5,.aC 0 0 t.length),(6,ah i),(7,.ptr 1 0 0),(8,.ro (aO l) 0 l.length),(17,.ro (bS t) 0 t.length),(18,ah t.length),(19,ah i),(37,.ro (.ints .i64 bj) 0 bj.length),(38,ah bj.length),(39,ah j),(9,ah j),(10,ah x)] aH ag aT I I ?_;refine cI ?_;refine dW I I I I I abk ?_;refine cI ?_;refine eI ?_;refine bn 12 ?_;skip
    unfold b8;refine eN (c':=jo ((A.set x (some fA)).set x (some (fA*l.getD j 0)))) I I I I I wy (by show (List.set _ x _).length=(A.set x (some fA)).length;simp) I (fun aK ba aQ bd=>AL none 3 nT (A.set x (some fA)) x (some (fA*l.getD j 0)) wy aK ba aQ bd) (bp ?_);refine dX ag (bl ?_);exact cc ⟨j+1,J,J,aH,by rw [mW,dT];exact congrArg (fun z=>[some (bm.mk 118 (jo z)),some (bm.mk 57 (.box (eX b7 pl bM bj cv cT)))]) (xN ..)⟩
   ·have hc:j=bj.length:=J;subst hc;rw [fO,←l5];refine fS ?_;refine b6 ?_;refine fB [some ⟨118,jo (GL)⟩] [some ⟨57,.box (eX b7 pl bM bj cv cT)⟩] [(0,.ro (bS t) 0 t.length),(1,.fn g cD),(5,.aC 0 0 t.length),(17,.ro (bS t) 0 t.length),(18,ah t.length),(19,ah i)] I aH hO (rU (XD _ _)) (by show (true && (mL 1 cD && _))=true;rw [Sg];rfl) (bt ?_);exact cc ⟨i+1,J,J,aH,by rw [Ho]⟩
 ·have dn:i=t.length:=J;subst dn;rw [anf af];refine iq ?_;refine mJ [some ⟨118,aO (cA t o)⟩] (aP.eqv (ZP _) aP.nil) ?_;refine mG 0 5 t.length [] I (oA _) I (by show t.length≤(cA t o).length;rw [show (cA t o).length=t.length from Az t o _];exact bN _) trivial (bE ?_);exact aZ ar I I
theorem ack (a b:iY)(hlen:a.length≤9223372036854775807)(zX:b.length≤9223372036854775807):br Tryz.prog 58 [.ro (kV a) 0 a.length,.ro (kV b) 0 b.length] (.bool (decide (a=b))):=by
 refine cg Tryz.f58 fun c ar bJ=> ?_;refine bt ?_;refine bw I (fun h=> ?_) (fun h=> ?_)
 ·refine dy ?_;refine aZ ar I ?_;have: ¬a=b:=by rintro rfl;exact h rfl
  simp [gP,this]
 have mX:a.length=b.length:=J;refine bt ?_;refine cF (ι:=Nat) (fun k=>[(0,.ro (kV a) 0 a.length),(1,.ro (kV b) 0 b.length),(12,ah a.length),(13,ah k)]) (fun _=>[])
  (fun k=>k≤a.length∧a.take k=b.take k) (fun k=>a.length-k) 0 ⟨aH,rfl,cj _,rfl⟩ ?_
 intro k ⟨an,heq⟩;refine bh ?_;refine bw I (fun ab=> ?_) (fun ab=> ?_)
 ·have b0:k<a.length:=J;have afi:k<b.length:=J;have aW:=rL a (0,0) k b0;have ak:=rL b (0,0) k afi;refine bp ?_;refine ee ag ?_;refine eM (fuel:=0) [0,1,2,3,4,5,6,7,8] [(0,.ro (kV a) 0 a.length),(1,.ro (kV b) 0 b.length),(5,ah k),(12,ah a.length),(13,ah k)] aH ag aT I I ?_;refine bT I I (bD I) ?_;refine bT I I (bD I) ?_;refine bT I I (ib I I I I (by first|(simp only [cR,cn,fJ];exact I)|exact I) J) ?_;refine bT I I (w6 I I I I I I) ?_;refine bT I I (bD I) ?_;refine bT I I (bD I) ?_;refine bT I I (ib I I I I (by first|(simp only [cR,cn,fJ];exact I)|exact I) J) ?_;refine bT I I (w6 I I I I I I) ?_;refine bT I I (aiQ (L:=AX (a.getD k (0,0))) (M:=AX (b.getD k (0,0))) (b:=decide ((a.getD k (0,0)).1=(b.getD k (0,0)).1) && (decide ((a.getD k (0,0)).2=(b.getD k (0,0)).2) && true)) I I I I ag ag I) ?_;refine eI ?_;refine dX ag ?_;repeat (refine b6 ?_)
  by_cases ay:a.getD k (0,0)=b.getD k (0,0)
  ·rw [ay,eG rfl,eG rfl];refine bl ?_;exact cc ⟨k+1,⟨J,by rw [aW,ak,heq,ay]⟩,J,aH,I⟩
  ·have bc:(decide ((a.getD k (0,0)).1=(b.getD k (0,0)).1) && (decide ((a.getD k (0,0)).2=(b.getD k (0,0)).2) && true))=false:=by rw [Bool.and_true,←uz,er,e8,e8];rintro ⟨aE,aF⟩;exact ay (Prod.ext aE aF)
   rw [bc];refine bf ?_;refine aZ ar I ?_;have: ¬a=b:=by rintro rfl;exact ay rfl
   simp [gP,this]
 ·have b0:k=a.length:=J;subst b0;rw [fO,mX,fO] at heq;refine bl ?_;refine aZ ar I ?_;simp [gP,heq]
theorem Yi {α:Type}(d:α)(n:Nat)(e:α→List ao)(a b:List α):cG (.fn (a.length+b.length) n (fun i j=>bif Nat.blt i a.length then (fI d n e a).at i j else (fI d n e b).at (0+(i-a.length)) j)) (fI d n e (a++b)):=by
 refine ⟨by simp [fI,Cells.len],I,fun i j aa ae=> ?_⟩;show (e ((a++b).getD i d)).getD j .any=bif Nat.blt i a.length then (e (a.getD i d)).getD j .any else (e (b.getD (0+(i-a.length)) d)).getD j .any;by_cases h:i<a.length
 ·rw [show Nat.blt i a.length=true from rb h,uc d h];rfl
 ·have ab:Nat.blt i a.length=false:=by
   cases e:Nat.blt i a.length with
   |false=>rfl
   |true=>(have:i+1≤a.length:=iZ e;omega)
  rw [ab,cR];have:(a++b).getD i d=b.getD (i-a.length) d:=by simp only [List.getD];rw [jV J]
  rw [this];rfl
theorem Dq (l:iY)(au:l.length≤1000000):A2 Tryz.prog 205 [.ro (kV l) 0 l.length] (fun N=> .aC N 0 l.length) ⟨94,kV l⟩:=by
 refine cm.fresh (K:=fun r H=>r= .aC 0 0 l.length∧H=[some ⟨94,kV l⟩]) (hx (P:=Tryz.prog) (fn:=Tryz.f205) I I ag I (fun c ar bJ=> ?_)) (fix:=fun _=>False) (fun _ h=>h) I (fun H=>⟨I,by simp [pA,nL]⟩) ?_
 ·refine bE ?_;refine O8 I I I (fun b ak=> ?_);refine bE ?_;refine vx I (fun h=> ?_) (fun h=> ?_)
  ·have:=ak h;have aG:l=[]:=v8.mp this;subst aG;refine cX ?_;refine lK 2 ⟨94,kV []⟩ I I (dy ?_);exact aZ ar I ⟨I,I⟩
  ·refine bp ?_;refine ve I I I I I I I I I I ?_;refine fD [some ⟨94,kV []⟩] (aP.eqv ⟨I,I,fun i j aa=>absurd aa (gh _)⟩ aP.nil) ?_;repeat (refine aq (bD rfl) ?_)
   refine dI I I I I I I I I I I I I (by show 0+l.length≤l.length;omega) I (by show (0+l.length)*16≤_∧_;omega) ?_ dq ?_
   ·intro aK ba aQ bd;have q:=(Yi (0,0) 2 AX [] l).2.2 aK ba aQ bd;refine (congrArg (ao.forget 0) q.symm).trans (tk ?_ q)
    match ba,bd with
    |0,_=>rfl
    |1,_=>rfl
   refine fD [some ⟨94,kV l⟩] (aP.eqv (Yi (0,0) 2 AX [] l) aP.nil) (bE ?_);refine aZ ar I ⟨?_,I⟩;show ao.aC 0 0 (0+l.length)=_;rw [cR]
 ·rintro r H ⟨rfl,rfl⟩;refine ⟨?_,fun h o ai=>vG (UP _) h o ai,0,I,fun n=>rfl⟩;intro o ai;simp at ai;subst ai;show 0+l.length≤l.length;omega
def A4 (w:iY):List ao:=[.ro (kV w) 0 w.length]
abbrev j6 (W:List iY):Cells:=fI [] 1 A4 W
theorem WW {α:Type}(d:α)(e:α→List ao)(l:List α)(x:Nat)(a:α)(v:ao)(al:x<l.length)(af:v=(e a).getD 0 .any):cG (.fn l.length 1 (fun aK ba=>bif Nat.beq aK x && Nat.beq ba 0 then v else (e (l.getD aK d)).getD ba .any)) (fI d 1 e (l.set x a)):=by
 refine ⟨by simp [fI,Cells.len],I,fun i j aa ae=> ?_⟩;obtain rfl:=ft.1 (show j<1 from ae);show (e ((l.set x a).getD i d)).getD 0 .any=bif Nat.beq i x && Nat.beq 0 0 then v else (e (l.getD i d)).getD 0 .any;rw [Go.aj.dR.fQ];by_cases h:i=x
 ·subst h;rw [aB ⟨rfl,al⟩,af,show Nat.beq i i=true from pP i];rfl
 ·rw [aw (fun q=>h q.1),dz h];rfl
theorem Yn {α:Type}{v:Nat→α}{P:α→Prop}: ∀(l:List Int) (k:Nat) (a:List α),(∀x∈a,P x)→(∀j,k≤j→j<k+l.length→P (v j))→ ∀x∈dN v l k a,P x
 |[],_,a,h,_=>h
 |c::r,k,a,h,af=>by
  rw [dN];refine Yn r (k+1) _ (fun x al=> ?_) (fun j U ab=>af j J (by simp;omega));rcases xL al with q|q
  ·exact h x q
  ·rw [q];exact af k (bN _) b1
theorem O6 {α:Type}{P:α→Prop}{l:List α}{d:α}(h: ∀x∈l,P x)(hd:P d)(i:Nat):P (l.getD i d):=by
 rcases gA i l.length with q|q
 ·exact h _ (dv d q)
 ·have:l.getD i d=d:=by simp [List.getD,q]
  rw [this];exact hd
theorem alu (p:Int)(n:ev)(w:iY)(k:Nat):(r9 p n w k).length≤w.length+1:=by
 unfold r9;split
 ·rw [di];exact bN _
 ·omega
theorem PV (t:aJ)(p:Int): ∀i,∀w∈hH t p i,w.length≤i
 |0,w,hw=>by rw [(zm.1 hw).2];exact bN _
 |i+1,w,hw=>by have a6:=PV t p i;rw [hH,FF] at hw;refine Yn (P:=fun w:iY=>w.length≤i+1) _ _ _ (fun x al=>Nat.le_succ_of_le (a6 x al)) (fun j _ _=> ?_) w hw;have U:=alu p (t.getD i aN) ((hH t p i).getD i []) j;have ab:((hH t p i).getD i []).length≤i:=O6 (P:=fun w:iY=>w.length≤i) a6 (cj _) i;omega
theorem aoj {t:aJ}(af:Valid t)(p:Int): ∀w∈sR t p,w.length≤120:=fun w hw=>dU (PV t p t.length w hw) af.le
theorem amr (W:List iY):e5 (j6 W):=by
 intro i j _ ae;obtain rfl:j=0:=by have ae:j<1:=ae;omega
 rfl
theorem VI (W:List iY)(n:Nat):fw n (j6 W):=by
 intro i j _ ae;obtain rfl:j=0:=by have ae:j<1:=ae;omega
 rfl
theorem Gm {n:Nat}{o1 o2:bm}(U:fw n o1.c)(ab:fw n o2.c): ∀(h:Nat) (o:bm),([some o1,some o2]:aY)[h]? =some (some o)→fw n o.c:=by
 intro h o ai
 match h,ai with
 |0,ai=>cases ai;exact U
 |1,ai=>cases ai;exact ab
 |_+2,ai=>simp at ai
theorem amS (n:Nat)(b7 pl bM:Int)(bj:List Int)(cv:List dP)(cT:dP):fw n (.box (eX b7 pl bM bj cv cT)):=by
 intro i j _ ae;have ae:j<6:=ae
 match j,ae with
 |0,_=>rfl
 |1,_=>rfl
 |2,_=>rfl
 |3,_=>rfl
 |4,_=>rfl
 |5,_=>rfl
theorem amN (W:List iY)(h:Nat):cG ((j6 W).forget h) (j6 W):=by
 refine ⟨I,I,fun i j _ ae=> ?_⟩;have ae:j<1:=ae
 match j,ae with
 |0,_=>rfl
theorem alx (t:aJ)(p:Int)(b4:kb t)(af:Valid t):br Tryz.prog 166 [.ro (bS t) 0 t.length,.int .i64 p] (.ro (j6 (sR t p)) 0 t.length):=by
 have hlen:=b4.len;have Lu:=af.le;refine cg Tryz.f166 fun c ar bJ=> ?_;refine bt ?_;refine mh I I I I I I I I (by show 0≤_∧_≤_∧(24:Int)*_≤_∧_;omega) ?_;refine yB [some ⟨24,j6 (hH t p 0)⟩] I (fun h o' cN=> ?_) ?_
 ·match h,cN with
  |0,cN=>
   cases cN;refine ⟨_,I,I,?_,I,fun i j aa ae=> ?_⟩
   ·show (List.replicate t.length ([]:iY)).length=((t.length:Nat):Int).toNat;rw [fc];omega
   ·obtain rfl:=ft.1 (show j<1 from ae);have e:(List.replicate t.length ([]:iY)).getD i []=[]:=by simp only [List.getD,pJ];split<;>rfl
    show aU .nil ((A4 ((List.replicate t.length ([]:iY)).getD i [])).getD 0 .any);rw [e];exact aU.nil
  |_+1,cN=>simp at cN
 refine bt ?_;refine cF (ι:=Nat) (fun i=>[(0,.ro (bS t) 0 t.length),(1,.int .i64 p),(5,.aC 0 0 t.length),(13,.ro (bS t) 0 t.length),(14,ah t.length),(15,ah i)]) (fun i=>[some ⟨24,j6 (hH t p i)⟩])
  (fun i=>i≤t.length) (fun i=>t.length-i) 0 ⟨aH,rfl,cj _⟩ ?_
 intro i aa;refine bh ?_;refine bw I (fun h=> ?_) (fun h=> ?_)
 ·have aQ:i<t.length:=J;have nc:=b4.node _ (mI aN aQ);have qD:=af.behind aQ;have zJ:=FI t p i;have LH:=PV t p i;have l5:hH t p (i+1)=dN (r9 p (t.getD i aN) ((hH t p i).getD i [])) (t.getD i aN).next 0 (hH t p i):=by rw [hH,FF]
  generalize Ho:hH t p (i+1)=GL at*;generalize hH t p i=W at*;obtain ⟨s1,s2,vb,IC⟩:=nc;refine bf ?_;refine bR 19 (.agg (kU (t.getD i aN))) I (aU.of_eq I) ?_;generalize aG:t.getD i aN=n at*;have tB:own p n=(decide (n.kind=2) && decide (n.gI=p)):=rfl;obtain ⟨b7,pl,bM,bj,cv,cT⟩:=n;simp only at*;refine dj (c':= .box (eX b7 pl bM bj cv cT)) I I I I I I I ?_;refine dA [some ⟨24,j6 W⟩,some ⟨57,.box (eX b7 pl bM bj cv cT)⟩] I ?_;generalize af:r9 p ⟨b7,pl,bM,bj,cv,cT⟩ (W.getD i [])=v at*;refine bl ?_;refine cF (ι:=Nat) (fun j=>[(0,.ro (bS t) 0 t.length),(1,.int .i64 p),(5,.aC 0 0 t.length),(6,ah i),(7,.ptr 1 0 0),(13,.ro (bS t) 0 t.length),(14,ah t.length),(15,ah i),(21,.ro (.ints .i64 bj) 0 bj.length),(22,ah bj.length),(23,ah j)]) (fun j=>[some ⟨24,j6 (dN v (bj.take j) 0 W)⟩,some ⟨57,.box (eX b7 pl bM bj cv cT)⟩])
   (fun j=>j≤bj.length) (fun j=>bj.length-j) 0 ⟨aH,rfl,cj _⟩ ?_
  intro j ae;refine bh ?_;refine bw I (fun bI=> ?_) (fun bI=> ?_)
  ·have bd:j<bj.length:=J;obtain ⟨dS,eP⟩:=qD _ (dv 0 bd);have iQ:(dN v (bj.take j) 0 W).length=t.length:=by rw [xk];exact zJ
   have rn:(dN v (bj.take j) 0 W).getD i []=W.getD i []:=tP v [] _ _ _ (fun c av=>by have:=qD c (pI av);omega);have dT:dN v (bj.take (j+1)) 0 W=(dN v (bj.take j) 0 W).set (bj.getD j 0).toNat (v j):=by rw [Au bd,AA,fy,hX ae,cR]
   have ML:(W.getD i []).length≤i:=O6 (P:=fun w:iY=>w.length≤i) LH (cj _) i;have wS:v j=r9 p ⟨b7,pl,bM,bj,cv,cT⟩ (W.getD i []) j:=by rw [af]
   unfold r9 at wS;rw [tB] at wS;simp only at wS;generalize mW:dN v (bj.take (j+1)) 0 W=zc at*;generalize dN v (bj.take j) 0 W=A at*;generalize W.getD i []=dO at*;obtain ⟨x,al⟩:=oW (show 0≤bj.getD j 0 by omega);rw [al] at dS eP dT;rw [cn] at dT;have oo:x<A.length:=J;have sn:i<(j6 A).len:=by show i<A.length;omega
   have Hg:x<(j6 A).len:=oo;have By:(A.set x dO).getD i []=dO:=by rw [Go.aj.dR.fQ,aw J];exact rn
   have aql:(A.set x dO).length=t.length:=by rw [da];exact iQ
   have RH:i<(j6 (A.set x dO)).len:=by show i<(A.set x dO).length;omega
   have wy:x<(j6 (A.set x dO)).len:=by show x<(A.set x dO).length;omega
   have B3:dO.length≤1000000:=J;refine Nj ?_;refine bR 33 (.ro (kV dO) 0 dO.length) I (aU.of_eq (by rw [←rn];rfl)) ?_;refine bR 29 (ah x) I (aU.of_eq (by rw [al])) ?_;refine bR 9 (ah x) I (aU.of_eq (by rw [al])) ?_;have tD:(bj.getD j 0).toNat=x:=by rw [al,cn]
   refine fD [some ⟨24,j6 (A.set x dO)⟩,some ⟨57,.box (eX b7 pl bM bj cv cT)⟩] (by rw [←tD];exact aP.eqv (WW [] A4 A (bj.getD j 0).toNat dO _ J (by rw [←rn])) (aP.refl _)) ?_;refine hg I I (fun g1=> ?_) (fun g1=> ?_)
   ·refine bl ?_;refine bw I (fun g2=> ?_) (fun g2=> ?_)
    ·rw [eG g1,eG g2,mU,aB rfl] at wS;skip
     refine ee ag ?_;apply tS (H:=[some ⟨24,j6 (A.set x dO)⟩,some ⟨57,.box (eX b7 pl bM bj cv cT)⟩,some ⟨94,kV dO⟩]) [(0,.ro (bS t) 0 t.length),(1,.int .i64 p),(5,.aC 0 0 t.length),(6,ah i),(7,.ptr 1 0 0),(13,.ro (bS t) 0 t.length),(14,ah t.length),(15,ah i),(21,.ro (.ints .i64 bj) 0 bj.length),(22,ah bj.length),(23,ah j),(44,.aC 0 0 t.length),(45,ah x),(50,.aC 2 0 dO.length),(55,.ro (fM 1 2 [.int .i64 bM,ah j]) 0 1)]
     ·intro hn;refine bF 0 I ag ag ag I (bD I) I ?_;refine bF 1 I ag ag ag I (bD I) I ?_;refine bF 2 I ag ag ag I (bD I) I ?_;refine bF 3 I ag ag ag I (bD I) I ?_;refine bF 7 I ag ag ag I (ds I I I I I I) I ?_;refine bF 9 I ag ag ag I (bD I) I ?_;refine bF 4 I ag ag ag I (gr I I I I I (by first|(simp only [cR,cn,fJ];exact I)|exact I) J) I ?_;refine dV 5 8 ?_ ?_
      ·refine fS ?_;refine tR 49 (.ro (kV dO) 0 dO.length) I (aU.of_eq (show (A4 ((A.set x dO).getD i [])).getD 0 .any= .ro (kV dO) 0 dO.length by rw [By];rfl)) ?_;refine dV 6 8 ?_ ?_
       ·refine nR I I I (Dq dO B3) (bp ?_);refine bn 8 ?_;refine bh ?_;refine bF 10 I ag ag ag I (ji I I I I I I) I ?_;refine bn 11 ?_;refine bt ?_;exact hn _ aH
       ·refine bh ?_;refine bF 10 I ag ag ag I (ji I I I I I I) I ?_;refine dV 6 11 ?_ ?_
        ·refine nR I I I (Dq dO B3) (bp ?_);refine bn 11 ?_;refine bt ?_;exact hn _ aH
        ·refine bt ?_;refine bn 6 ?_;refine nR I I I (Dq dO B3) (bp ?_);exact hn _ aH
      ·refine bh ?_;refine bF 10 I ag ag ag I (ji I I I I I I) I ?_;refine dV 5 11 ?_ ?_
       ·refine fS ?_;refine tR 49 (.ro (kV dO) 0 dO.length) I (aU.of_eq (show (A4 ((A.set x dO).getD i [])).getD 0 .any= .ro (kV dO) 0 dO.length by rw [By];rfl)) ?_;refine dV 6 11 ?_ ?_
        ·refine nR I I I (Dq dO B3) (bp ?_);refine bn 11 ?_;refine bt ?_;exact hn _ aH
        ·refine bt ?_;refine bn 6 ?_;refine nR I I I (Dq dO B3) (bp ?_);exact hn _ aH
       ·refine bt ?_;refine bn 5 ?_;refine fS ?_;refine tR 49 (.ro (kV dO) 0 dO.length) I (aU.of_eq (show (A4 ((A.set x dO).getD i [])).getD 0 .any= .ro (kV dO) 0 dO.length by rw [By];rfl)) ?_;refine bn 6 ?_;refine nR I I I (Dq dO B3) (bp ?_);exact hn _ aH
     ·refine bn 12 ?_;refine dI I I I I I I I I I I I I eu I (by show (dO.length+1)*16≤_∧_;omega) ?_ dq ?_
      ·intro aK ba aQ bd;have q:=(h7 (0,0) 2 AX dO (bM,(j:Int)) (fM 1 2 [.int .i64 bM,ah j]) (fun j ae=>by
        match j,ae with
        |0,_=>rfl
        |1,_=>rfl)).2.2 aK ba aQ bd
       refine (congrArg (ao.forget 2) q.symm).trans (tk ?_ q)
       match ba,bd with
       |0,_=>rfl
       |1,_=>rfl
      refine fD [some ⟨24,j6 (A.set x dO)⟩,some ⟨57,.box (eX b7 pl bM bj cv cT)⟩,some ⟨94,kV (dO++[(bM,(j:Int))])⟩] ?_ ?_
      ·exact aP.eqv (amN (A.set x dO) 2) (aP.eqv (cG.refl _) (aP.eqv (h7 (0,0) 2 AX dO (bM,(j:Int)) (fM 1 2 [.int .i64 bM,ah j]) (fun j ae=>by
        match j,ae with
        |0,_=>rfl
        |1,_=>rfl)) aP.nil))
      refine sO 2 56 (dO.length+1) [(0,.ro (bS t) 0 t.length),(1,.int .i64 p),(5,.aC 0 0 t.length),(6,ah i),(7,.ptr 1 0 0),(13,.ro (bS t) 0 t.length),(14,ah t.length),(15,ah i),(21,.ro (.ints .i64 bj) 0 bj.length),(22,ah bj.length),(23,ah j),(44,.aC 0 0 t.length),(45,ah x)] I (UP _) I (by show dO.length+1≤(dO++[(bM,(j:Int))]).length;rw [di];exact bN _) aH ?_;refine dA [some ⟨24,j6 (A.set x dO)⟩,some ⟨57,.box (eX b7 pl bM bj cv cT)⟩,none] I ?_;have Sz:(dO++[(bM,(j:Int))]).length=dO.length+1:=by rw [di];rfl
      refine bR 56 (.ro (kV (dO++[(bM,(j:Int))])) 0 (dO++[(bM,(j:Int))]).length) I (aU.of_eq (by rw [Sz])) ?_;generalize dO++[(bM,(j:Int))]=lp at*;refine bp ?_;refine bF 13 I ag ag ag I (gr I I I I I (by first|(simp only [cR,cn,fJ];exact I)|exact I) J) I ?_;refine bn 14 ?_;refine lL I I I I I I I wy ?_;refine fD [some ⟨24,j6 ((A.set x dO).set x lp)⟩,some ⟨57,.box (eX b7 pl bM bj cv cT)⟩,none] (aP.eqv (WW [] A4 (A.set x dO) x lp _ wy I) (aP.refl _)) (bp ?_);refine dX ag ?_;repeat (refine kQ ?_)
      refine b6 ?_;refine fB [some ⟨24,j6 ((A.set x dO).set x lp)⟩,some ⟨57,.box (eX b7 pl bM bj cv cT)⟩] [none] [(0,.ro (bS t) 0 t.length),(1,.int .i64 p),(5,.aC 0 0 t.length),(6,ah i),(7,.ptr 1 0 0),(13,.ro (bS t) 0 t.length),(14,ah t.length),(15,ah i),(21,.ro (.ints .i64 bj) 0 bj.length),(22,ah bj.length),(23,ah j)] I aH hO (Gm (VI _ _) (amS _ _ _ _ _ _ _)) I (bt ?_);exact cc ⟨j+1,J,J,aH,by rw [mW,dT,wS,xN]⟩
    ·rw [eG g1,fP g2,aw aT] at wS;refine bl ?_;exact cc ⟨j+1,J,J,aH,by rw [mW,dT,wS]⟩
   ·rw [fP g1,uC,aw aT] at wS;refine bf ?_;exact cc ⟨j+1,J,J,aH,by rw [mW,dT,wS]⟩
  ·have hc:j=bj.length:=J;subst hc;rw [fO,←l5];refine fS ?_;refine b6 ?_;refine fB [some ⟨24,j6 GL⟩] [some ⟨57,.box (eX b7 pl bM bj cv cT)⟩] [(0,.ro (bS t) 0 t.length),(1,.int .i64 p),(5,.aC 0 0 t.length),(13,.ro (bS t) 0 t.length),(14,ah t.length),(15,ah i)] I aH hO (rU (VI _ _)) I (bt ?_);exact cc ⟨i+1,J,J,aH,by rw [Ho]⟩
 ·have dn:i=t.length:=J;subst dn;refine iq ?_;refine mG 0 5 t.length [] I (amr _) I (by show t.length≤(hH t p t.length).length;rw [FI];exact bN _) trivial (bE ?_);exact aZ ar I I
abbrev mo (F:List (Int×Nat)):Cells:= .mp (F.map (fun x=> .int .i64 x.1)) (F.map (fun x=>ah x.2))
theorem uj (F:List (Int×Nat)): ∀x∈F.map (fun x:Int×Nat=>ao.int .i64 x.1),nt (.int .i64) x=true:=by intro x al;obtain ⟨e,_,rfl⟩:=cS.1 al;rfl
theorem yO {m:List (Int×Nat)}{k:Int}{s:Nat}(h:fY m k=some s): ∃j:Nat,(m.map (fun x:Int×Nat=>ao.int .i64 x.1))[j]? =some (.int .i64 k)∧(m.map (fun x:Int×Nat=>ao.int .i64 (x.2:Nat)))[j]? =some (ah s):=by obtain ⟨j,ae⟩:=List.getElem?_of_mem (xa h);exact ⟨j,by rw [lB,ae];rfl,by rw [lB,ae];rfl⟩
theorem CO {m:List (Int×Nat)}{k:Int}(h:fY m k=none):ao.int .i64 k∉m.map (fun x:Int×Nat=>ao.int .i64 x.1):=by intro hm;obtain ⟨x,al,e⟩:=cS.1 hm;have:=Fv h;injection e with aE aF;exact this (cS.2 ⟨x,al,aF⟩)
theorem CI (F:List (Int×Nat))(n:Nat):fw n (mo F):=⟨w8 (fun _=>rfl) F,w8 (fun _=>rfl) F⟩
theorem Qw {p:Int}{b7 pl bM:Int}{bj:List Int}{cv:List dP}{cT:dP}:own p ⟨b7,pl,bM,bj,cv,cT⟩=(decide (b7=2) && decide (pl=p)):=rfl
theorem FD (t:aJ)(p:Int)(b4:kb t)(af:Valid t):br Tryz.prog 89 [.ro (bS t) 0 t.length,.int .i64 p] (.bool (fC t p)):=by
 have hlen:=b4.len;have Lu:=af.le;have wm:=alx t p b4 af;have zJ:(sR t p).length=t.length:=FI t p t.length;have LH:=aoj af p;have afu: ∀n i,i≤n→sU t p (sR t p) i=false→sU t p (sR t p) n=false:=by
  intro n;induction n with
  |zero=>
   intro i aa h;obtain rfl:i=0:=J;exact h
  |succ n a6=>
   intro i aa h;by_cases e:i=n+1
   ·subst e;exact h
   ·rw [sU,a6 i J h];rfl
 refine cg Tryz.f89 fun c ar bJ=> ?_;have ar:c.R=fun dF _=>dF= .bool (sU t p (sR t p) t.length):=ar;generalize sR t p=W at*;refine bE ?_;refine aL I I I wm (bE ?_);refine CA (bt ?_);refine cF (ι:=Nat) (fun i=>[(0,.ro (bS t) 0 t.length),(1,.int .i64 p),(5,.ro (j6 W) 0 t.length),(6,.mp 0),(15,.ro (bS t) 0 t.length),(16,ah t.length),(17,ah i)]) (fun i=>[some ⟨185,mo (kR t p i)⟩])
  (fun i=>i≤t.length∧sU t p W i=true) (fun i=>t.length-i) 0 ⟨aH,rfl,cj _,rfl⟩ ?_
 rintro i ⟨aa,nG⟩;refine bh ?_;refine bw I (fun h=> ?_) (fun h=> ?_)
 ·have aQ:i<t.length:=J;have qG:kR t p (i+1)=if own p (t.getD i aN)=true∧fY (kR t p i) (t.getD i aN).info=none then kR t p i++[((t.getD i aN).info,i)] else kR t p i:=rfl
  have nJ:sU t p W (i+1)=(sU t p W i && (if own p (t.getD i aN)=true then (match fY (kR t p i) (t.getD i aN).info with|none=>true|some k=>decide (W.getD i []=W.getD k [])) else true)):=rfl;have aeK: ∀x∈kR t p i,x.2<i:=fun x al=>(NX al).1;have e2:=afu t.length (i+1) J;rw [nG,mU] at nJ;generalize Eg:kR t p (i+1)=oJ at*;generalize kR t p i=F at*;generalize Hm:sU t p W (i+1)=aqa at*;refine bf ?_;refine bR 21 (.agg (kU (t.getD i aN))) I (aU.of_eq I) ?_;generalize t.getD i aN=n at*;obtain ⟨b7,pl,bM,bj,cv,cT⟩:=n;simp only at*;refine dj (c':= .box (eX b7 pl bM bj cv cT)) I I I I I I I ?_;refine dA [some ⟨185,mo F⟩,some ⟨57,.box (eX b7 pl bM bj cv cT)⟩] I (bl ?_);refine hg I I (fun g1=> ?_) (fun g1=> ?_)
  ·rw [Qw,fP g1,uC] at qG nJ;rw [aw (by rintro ⟨q,_⟩;cases q)] at qG;rw [aw aT] at nJ;repeat (first|refine cY ?_|refine tQ rfl rfl rfl ?_|refine aq (mH rfl rfl) ?_)
   refine b6 ?_;repeat (first|refine rM rfl ?_|refine qU ?_|refine qS ?_|refine qR ?_)
   refine b6 ?_;refine fB [some ⟨185,mo (F)⟩] [some ⟨57,.box (eX b7 pl bM bj cv cT)⟩] [(0,.ro (bS t) 0 t.length),(1,.int .i64 p),(5,.ro (j6 W) 0 t.length),(6,.mp 0),(15,.ro (bS t) 0 t.length),(16,ah t.length),(17,ah i)] I aH hO (rU (CI _ _)) I (bt ?_);exact cc ⟨i+1,⟨J,by rw [Hm,nJ]⟩,J,aH,by rw [Eg,qG]⟩
  have g1:=hL.1 g1;refine bl ?_;refine bw I (fun g2=> ?_) (fun g2=> ?_)
  ·rw [Qw,eG g1,fP g2,mU] at qG nJ;rw [aw (by rintro ⟨q,_⟩;cases q)] at qG;rw [aw aT] at nJ;refine fS ?_;refine b6 ?_;refine fB [some ⟨185,mo (F)⟩] [some ⟨57,.box (eX b7 pl bM bj cv cT)⟩] [(0,.ro (bS t) 0 t.length),(1,.int .i64 p),(5,.ro (j6 W) 0 t.length),(6,.mp 0),(15,.ro (bS t) 0 t.length),(16,ah t.length),(17,ah i)] I aH hO (rU (CI _ _)) I (bt ?_);exact cc ⟨i+1,⟨J,by rw [Hm,nJ]⟩,J,aH,by rw [Eg,qG]⟩
  have g2:=hL.1 g2;rw [Qw,eG g1,eG g2,mU] at qG nJ;rw [aB rfl] at nJ;refine bl ?_;cases cB:fY F bM with
  |none=>
   rw [cB,aB ⟨rfl,rfl⟩] at qG;rw [cB] at nJ;simp only at nJ;refine aq (IN I (.int I) I I I I I I I I (uj F) (CO cB)) (bl ?_);refine Cs I (.int I) I I I I I (uj F) (CO cB) ?_;refine dA [some ⟨185,mo (F++[(bM,i)])⟩,some ⟨57,.box (eX b7 pl bM bj cv cT)⟩] (by unfold mo;rw [hb,hb];rfl) ?_;repeat (refine cY ?_)
   refine b6 ?_;refine fB [some ⟨185,mo (F++[(bM,i)])⟩] [some ⟨57,.box (eX b7 pl bM bj cv cT)⟩] [(0,.ro (bS t) 0 t.length),(1,.int .i64 p),(5,.ro (j6 W) 0 t.length),(6,.mp 0),(15,.ro (bS t) 0 t.length),(16,ah t.length),(17,ah i)] I aH hO (rU (CI _ _)) I (bl ?_);exact cc ⟨i+1,⟨J,by rw [Hm,nJ]⟩,J,aH,by rw [Eg,qG]⟩
  |some sy=>
   rw [cB,aw (by rintro ⟨_,q⟩;cases q)] at qG;rw [cB] at nJ;simp only at nJ;obtain ⟨ng,i1,i2⟩:=yO cB;have ru:=aeK _ (xa cB);simp only at ru;have aqY:sy<t.length:=J;have ML: ∀z,(W.getD z []).length≤9223372036854775807:=fun z=>O6 (P:=fun w:iY=>w.length≤9223372036854775807) (fun w hw=>dU (LH w hw) aT) (cj _) z;have aaZ:=ack (W.getD i []) (W.getD sy []) (ML i) (ML sy);refine aq (vi I (.int I) I I I I (uj F) ng i1 i2) (bl ?_);refine ee ag ?_;refine eM (fuel:=0) [0,1,2,3,4,5,6,7,8,9] [(0,.ro (bS t) 0 t.length),(1,.int .i64 p),(5,.ro (j6 W) 0 t.length),(6,.mp 0),(15,.ro (bS t) 0 t.length),(16,ah t.length),(17,ah i),(7,ah i),(8,.ptr 1 0 0),(9,ah sy)] aH ag aT I I ?_;refine cI ?_;refine dW I I I I I aaZ ?_;refine cI ?_;refine eI ?_;refine dX ag ?_;repeat (refine b6 ?_)
   by_cases he:W.getD i []=W.getD sy []
   ·rw [eG he] at nJ⊢;refine fS ?_;refine b6 ?_;refine fB [some ⟨185,mo (F)⟩] [some ⟨57,.box (eX b7 pl bM bj cv cT)⟩] [(0,.ro (bS t) 0 t.length),(1,.int .i64 p),(5,.ro (j6 W) 0 t.length),(6,.mp 0),(15,.ro (bS t) 0 t.length),(16,ah t.length),(17,ah i)] I aH hO (rU (CI _ _)) I (bt ?_);exact cc ⟨i+1,⟨J,by rw [Hm,nJ]⟩,J,aH,by rw [Eg,qG]⟩
   ·rw [fP he] at nJ⊢;rw [e2 nJ] at ar;refine bf ?_;exact aZ ar I I
 ·have dn:i=t.length:=J;subst dn;rw [nG] at ar;refine bl ?_;exact aZ ar I I
def ud (s:ff):List ao:=[.int .i64 s.info,.int .i64 s.choice,.int .i64 s.before]
abbrev hv (l:List ff):Cells:=fI c5 3 ud l
theorem amh (s:ff)(j h:Nat)(ae:j<3):((ud s).getD j .any).forget h=(ud s).getD j .any:=by
 match j,ae with
 |0,_=>rfl
 |1,_=>rfl
 |2,_=>rfl
theorem ami (s:ff)(j:Nat):c2 ((ud s).getD j .any)=true:=by
 match j with
 |0=>rfl
 |1=>rfl
 |2=>rfl
 |_+3=>rfl
theorem amp (l:List ff):e5 (hv l):=by intro i j _ ae;exact ami _ j
theorem T9 (s:ff)(j:Nat)(ae:j<3):(fM 1 3 [.int .i64 s.info,.int .i64 s.choice,.int .i64 s.before]).at 0 j=(ud s).getD j .any:=by
 match j,ae with
 |0,_=>rfl
 |1,_=>rfl
 |2,_=>rfl
abbrev kZ (n N:Nat):Cells:= .box [.aC 0 0 n,.aC 1 0 N]
abbrev lQ (N:Nat)(f:n6)(L:aY):aY:=some ⟨178,hv f.cx⟩::some ⟨3,.ints .i64 f.pos⟩::some ⟨147,kZ f.cx.length N⟩::some ⟨185,mo f.first⟩::L
theorem Z8 (p:Int)(n:ev)(i:Nat)(f:n6):f.cx.length≤(fW p n i f).cx.length:=by
 unfold fW;split
 ·show _≤(_++_:List ff).length;rw [di];omega
 ·exact bN _
theorem WZ (t:aJ)(p:Int)(i:Nat): ∀e,(de t p i).cx.length≤(de t p (i+e)).cx.length
 |0=>bN _
 |e+1=>by rw [←jU,de,y9];exact dU (WZ t p i e) (Z8 _ _ _ _)
theorem XY {t:aJ}(af:Valid t)(p:Int){i:Nat}(aa:i≤t.length):(de t p i).cx.length≤61:=by have U:=WZ t p i (t.length-i);rw [show i+(t.length-i)=t.length by omega] at U;exact dU U (C7 af p)
theorem ann (l:List ff)(n:Nat):fw n (hv l):=by
 intro i j _ ae;have ae:j<3:=ae
 match j,ae with
 |0,_=>rfl
 |1,_=>rfl
 |2,_=>rfl
theorem N3 (N:Nat)(f:n6): ∀(h:Nat) (o:bm),(lQ N f [])[h]? =some (some o)→fw 4 o.c:=by
 intro h o ai
 match h,ai with
 |0,ai=>cases ai;exact ann _ _
 |1,ai=>cases ai;exact Ay _ _ _
 |2,ai=>
  cases ai;intro i j _ ae;have ae:j<2:=ae
  match j,ae with
  |0,_=>rfl
  |1,_=>rfl
 |3,ai=>cases ai;exact CI _ _
 |_+4,ai=>simp at ai
theorem aae {p:Int}{n:ev}{i:Nat}{f:n6}(U:own p n=true)(ab:fY f.first n.info=none):fW p n i f=⟨f.cx++nQ n (f.pos.getD i 0),f.pos,f.first++[(n.info,f.cx.length)]⟩:=by unfold fW;rw [aB ⟨U,ab⟩]
theorem aaa {p:Int}{n:ev}{i:Nat}{f:n6}{s:Nat}(ab:fY f.first n.info=some s):fW p n i f=f:=by unfold fW;rw [aw (by rintro ⟨_,q⟩;rw [ab] at q;cases q)]
theorem add_not {p:Int}{n:ev}{i:Nat}{f:n6}(U:own p n=false):fW p n i f=f:=by unfold fW;rw [aw (by rintro ⟨q,_⟩;rw [U] at q;cases q)]
theorem NY {α:Type}{h:Nat}{f:α→ao}(aR: ∀x,(f x).forget h=f x): ∀l:List α,ao.kg h (l.map f)=l.map f
 |[]=>rfl
 |a::r=>by show (f a).forget h::ao.kg h (r.map f)=f a::r.map f;rw [aR a,NY aR r]
theorem Oa (F:List (Int×Nat))(h:Nat):cG ((mo F).forget h) (mo F):=by
 have e:(mo F).forget h=mo F:=by show Cells.mp (ao.kg h _) (ao.kg h _)=_;rw [NY (fun _=>rfl),NY (fun _=>rfl)]
 rw [e];exact cG.refl _
def r7 (n:ev)(b:Int)(k:Nat):List ff:=(List.range k).map (fun k:Nat=>⟨n.info,(k:Int),b⟩)
theorem apm (n:ev)(b:Int)(k:Nat):r7 n b (k+1)=r7 n b k++[⟨n.info,(k:Int),b⟩]:=by unfold r7;rw [ti,hb];rfl
theorem acN (N:Nat)(f:n6)(bM:Int)(n:ev)(b:Int)(L:aY):lQ N ⟨f.cx++r7 n b 0,f.pos,f.first++[(bM,f.cx.length)]⟩ L=some ⟨178,hv f.cx⟩::some ⟨3,.ints .i64 f.pos⟩::some ⟨147,kZ f.cx.length N⟩::some ⟨185,.mp (f.first.map (fun x=> .int .i64 x.1)++[.int .i64 bM]) (f.first.map (fun x=>ah x.2)++[ah f.cx.length])⟩::L:=by have e:f.cx++r7 n b 0=f.cx:=lA _;simp only [lQ,e,mo,hb,k9,th]
theorem ahN (n:ev)(b:Int)(k:Nat):(r7 n b k).length=k:=by simp [r7]
theorem aib (t:aJ)(p:Int)(b4:kb t)(af:Valid t):cm Tryz.prog 91 [.ro (bS t) 0 t.length,.int .i64 p] [] (fun _=>False) (fun r bK=>r= .ptr 2 0 0∧bK=lQ t.length (de t p t.length) []):=by
 have hlen:=b4.len;have Lu:=af.le;have RS:=af.ne;refine hx (P:=Tryz.prog) (fn:=Tryz.f91) I I ag I (fun c ar bJ=> ?_);refine sB ?_;refine ve I I I I I I I I I I (bt ?_);refine mh I I I I I I I I (by show 0≤_∧_≤_∧(8:Int)*_≤_∧_;omega) (u6 ?_);refine CA ?_;refine fD (lQ t.length (de t p 0) []) ?_ ?_
 ·refine aP.eqv ⟨I,I,fun i j aa ae=> ?_⟩ (aP.eqv (cG.refl _) (aP.eqv (cG.refl _) (aP.eqv (cG.refl _) aP.nil)));have ae:j<3:=ae;obtain rfl:=ft.1 (show i<1 from aa)
  match j,ae with
  |0,_=>rfl
  |1,_=>rfl
  |2,_=>rfl
 refine bt ?_;refine cF (ι:=Nat) (fun i=>[(0,.ro (bS t) 0 t.length),(1,.int .i64 p),(5,.ptr 2 0 0),(6,.mp 3),(23,.ro (bS t) 0 t.length),(24,ah t.length),(25,ah i)]) (fun i=>lQ t.length (de t p i) [])
  (fun i=>i≤t.length) (fun i=>t.length-i) 0 ⟨aH,rfl,cj _⟩ ?_
 intro i aa;refine bh ?_;refine bw I (fun h=> ?_) (fun h=> ?_)
 ·have aQ:i<t.length:=J;have nc:=b4.node _ (mI aN aQ);have qD:=af.behind aQ;have aro:=af.xZ aQ;have LA:=hz.lY af p i aa;obtain ⟨_,_,_,_,_,_,_,GM,_,La⟩:=hz.add af LA aQ LA LA.j1.1;have hD:=XY af p aa;have BK:=XY af p (show i+1≤t.length by omega);have aeL:=xf t p i;have l5:de t p (i+1)=⟨(fW p (t.getD i aN) i (de t p i)).cx,dN (vK p (t.getD i aN) i (fW p (t.getD i aN) i (de t p i))) (t.getD i aN).next 0 (fW p (t.getD i aN) i (de t p i)).pos,(fW p (t.getD i aN) i (de t p i)).first⟩:=by rw [de,y9,Oy]
  have x2:(fW p (t.getD i aN) i (de t p i)).pos.length=t.length:=by rw [NT];exact aeL
  rw [l5] at BK;simp only at BK;obtain ⟨s1,s2,vb,IC⟩:=nc;refine bf ?_;refine bR 29 (.agg (kU (t.getD i aN))) I (aU.of_eq I) ?_;generalize t.getD i aN=n at*;generalize de t p i=f at*;obtain ⟨b7,pl,bM,bj,cv,cT⟩:=n;simp only at*;refine dj (c':= .box (eX b7 pl bM bj cv cT)) I I I I I I I ?_;refine dA (lQ t.length f [some ⟨57,.box (eX b7 pl bM bj cv cT)⟩]) I ?_;refine bR 8 (.ptr 4 0 0) I (aU.of_eq I) ?_;have tB:own p ⟨b7,pl,bM,bj,cv,cT⟩=(decide (b7=2) && decide (pl=p)):=rfl;generalize ry:vK p ⟨b7,pl,bM,bj,cv,cT⟩ i (fW p ⟨b7,pl,bM,bj,cv,cT⟩ i f)=v at*;have iy: ∀k,v k=if own p ⟨b7,pl,bM,bj,cv,cT⟩=true then (((fY (fW p ⟨b7,pl,bM,bj,cv,cT⟩ i f).first bM).getD 0:Nat):Int)+(k:Int) else (fW p ⟨b7,pl,bM,bj,cv,cT⟩ i f).pos.getD i 0:=fun k=>by rw [←ry];rfl
  have aef:= @aae p ⟨b7,pl,bM,bj,cv,cT⟩ i f;have aea:= @aaa p ⟨b7,pl,bM,bj,cv,cT⟩ i f;have adZ:= @add_not p ⟨b7,pl,bM,bj,cv,cT⟩ i f;generalize ak:own p ⟨b7,pl,bM,bj,cv,cT⟩=b at*;apply kP (H:=lQ t.length f [some ⟨57,.box (eX b7 pl bM bj cv cT)⟩]) [(0,.ro (bS t) 0 t.length),(1,.int .i64 p),(5,.ptr 2 0 0),(6,.mp 3),(7,ah i),(8,.ptr 4 0 0),(9,.bool b),(23,.ro (bS t) 0 t.length),(24,ah t.length),(25,ah i)]
  ·intro fin;refine bl ?_;refine hg I I (fun g1=> ?_) (fun g1=> ?_)
   ·repeat (first|refine aq (bD rfl) ?_|refine aq (dC rfl) ?_|refine cY ?_|refine mg rfl rfl ?_|refine aq (ia rfl rfl rfl rfl rfl) ?_|refine aq (nV rfl rfl) ?_|refine aq (mH rfl rfl) ?_|refine aq (ds rfl rfl rfl rfl rfl rfl) ?_)
    refine b6 ?_;refine ea 9 (.bool b) I (aU.of_eq (by rw [tB,eG g1,mU])) ?_;exact fin _ aH
   ·repeat (first|refine aq (dC rfl) ?_|refine cY ?_|refine tQ rfl rfl rfl ?_|refine aq (mH rfl rfl) ?_)
    refine b6 ?_;refine ea 9 (.bool b) I (aU.of_eq (by rw [tB,fP g1,uC])) ?_;exact fin _ aH
  cases b
  ·have c9:=adZ rfl;generalize fW p ⟨b7,pl,bM,bj,cv,cT⟩ i f=g at*;subst c9;simp only [sd,hA] at iy;refine bl ?_;refine cF (ι:=Nat) (fun k=>[(0,.ro (bS t) 0 t.length),(1,.int .i64 p),(5,.ptr 2 0 0),(6,.mp 3),(7,ah i),(8,.ptr 4 0 0),(9,.bool false),(23,.ro (bS t) 0 t.length),(24,ah t.length),(25,ah i),(85,.ro (.ints .i64 bj) 0 bj.length),(86,ah bj.length),(87,ah k)]) (fun k=>lQ t.length ⟨g.cx,dN v (bj.take k) 0 g.pos,g.first⟩ [some ⟨57,.box (eX b7 pl bM bj cv cT)⟩])
    (fun k=>k≤bj.length) (fun k=>bj.length-k) 0 ⟨aH,rfl,cj _⟩ ?_
   intro k an;refine bh ?_;refine bw I (fun bI=> ?_) (fun bI=> ?_)
   ·have b0:k<bj.length:=J;obtain ⟨dS,eP⟩:=qD _ (dv 0 b0);have iQ:(dN v (bj.take k) 0 g.pos).length=t.length:=by rw [xk];exact x2
    have rn:(dN v (bj.take k) 0 g.pos).getD i 0=g.pos.getD i 0:=tP v 0 _ _ _ (fun c av=>by have:=qD c (pI av);omega);have dT:dN v (bj.take (k+1)) 0 g.pos=(dN v (bj.take k) 0 g.pos).set (bj.getD k 0).toNat (v k):=by rw [Au b0,AA,fy,hX an,cR]
    have EU:=iy k;generalize mW:dN v (bj.take (k+1)) 0 g.pos=zc at*;generalize dN v (bj.take k) 0 g.pos=A at*;obtain ⟨x,al⟩:=oW (show 0≤bj.getD k 0 by omega);have tD:(bj.getD k 0).toNat=x:=by rw [al,cn]
    rw [al] at dS eP;rw [tD] at dT;have oo:x<A.length:=J;have na:i<A.length:=J;have S7:x<(A.set x (A.getD i 0)).length:=by rw [da];exact oo
    refine bf ?_;refine ea 14 (ah x) I (aU.of_eq (by rw [al])) ?_;refine ee ag ?_;refine eM (fuel:=1) [0,1,2,3,4,5,6,7,8,9,10,11,12] [(0,.ro (bS t) 0 t.length),(1,.int .i64 p),(5,.ptr 2 0 0),(6,.mp 3),(7,ah i),(8,.ptr 4 0 0),(9,.bool false),(23,.ro (bS t) 0 t.length),(24,ah t.length),(25,ah i),(85,.ro (.ints .i64 bj) 0 bj.length),(86,ah bj.length),(87,ah k),(13,ah k),(14,ah x)] aH ag aT I I ?_;refine cI ?_;refine eI ?_;refine bn 13 ?_;refine cX ?_;refine dX ag (bl ?_);exact cc ⟨k+1,J,J,aH,by rw [mW,dT,EU,←rn];rfl⟩
   ·have kk:k=bj.length:=J;subst kk;rw [fO];refine fS ?_;refine b6 ?_;refine fB (lQ t.length ⟨g.cx,dN v bj 0 g.pos,g.first⟩ []) [some ⟨57,.box (eX b7 pl bM bj cv cT)⟩] [(0,.ro (bS t) 0 t.length),(1,.int .i64 p),(5,.ptr 2 0 0),(6,.mp 3),(23,.ro (bS t) 0 t.length),(24,ah t.length),(25,ah i)] I aH hO (N3 _ _) I (bt ?_);exact cc ⟨i+1,J,J,aH,by rw [l5]⟩
  ·obtain ⟨s,az⟩:=La rfl;obtain ⟨ng,i1,i2⟩:=yO az;have km:=(GM _ (xa az)).2.1;simp only at km;simp only [gg] at iy;rw [az] at iy;simp only [pR] at iy;refine bl ?_;cases cB:fY f.first bM with
   |some j1=>
    have c9:=aea cB;refine aq (vi I (.int I) I I I I (uj f.first) (yO cB).choose (yO cB).choose_spec.1 (yO cB).choose_spec.2) ?_;generalize fW p ⟨b7,pl,bM,bj,cv,cT⟩ i f=g at*;subst c9;obtain ⟨ng,i1,i2⟩:=yO az;refine bl ?_;refine cF (ι:=Nat) (fun k=>[(0,.ro (bS t) 0 t.length),(1,.int .i64 p),(5,.ptr 2 0 0),(6,.mp 3),(7,ah i),(8,.ptr 4 0 0),(9,.bool true),(23,.ro (bS t) 0 t.length),(24,ah t.length),(25,ah i),(85,.ro (.ints .i64 bj) 0 bj.length),(86,ah bj.length),(87,ah k)]) (fun k=>lQ t.length ⟨g.cx,dN v (bj.take k) 0 g.pos,g.first⟩ [some ⟨57,.box (eX b7 pl bM bj cv cT)⟩])
     (fun k=>k≤bj.length) (fun k=>bj.length-k) 0 ⟨aH,rfl,cj _⟩ ?_
    intro k an;refine bh ?_;refine bw I (fun bI=> ?_) (fun bI=> ?_)
    ·have b0:k<bj.length:=J;obtain ⟨dS,eP⟩:=qD _ (dv 0 b0);have iQ:(dN v (bj.take k) 0 g.pos).length=t.length:=by rw [xk];exact x2
     have rn:(dN v (bj.take k) 0 g.pos).getD i 0=g.pos.getD i 0:=tP v 0 _ _ _ (fun c av=>by have:=qD c (pI av);omega);have dT:dN v (bj.take (k+1)) 0 g.pos=(dN v (bj.take k) 0 g.pos).set (bj.getD k 0).toNat (v k):=by rw [Au b0,AA,fy,hX an,cR]
     have EU:=iy k;generalize mW:dN v (bj.take (k+1)) 0 g.pos=zc at*;generalize dN v (bj.take k) 0 g.pos=A at*;obtain ⟨x,al⟩:=oW (show 0≤bj.getD k 0 by omega);have tD:(bj.getD k 0).toNat=x:=by rw [al,cn]
     rw [al] at dS eP;rw [tD] at dT;have oo:x<A.length:=J;have na:i<A.length:=J;have S7:x<(A.set x (A.getD i 0)).length:=by rw [da];exact oo
     refine bf ?_;refine ea 14 (ah x) I (aU.of_eq (by rw [al])) ?_;refine ee ag ?_;refine eM (fuel:=1) [0,1,2,3,4,5,6,7,8,9,10,11,12] [(0,.ro (bS t) 0 t.length),(1,.int .i64 p),(5,.ptr 2 0 0),(6,.mp 3),(7,ah i),(8,.ptr 4 0 0),(9,.bool true),(23,.ro (bS t) 0 t.length),(24,ah t.length),(25,ah i),(85,.ro (.ints .i64 bj) 0 bj.length),(86,ah bj.length),(87,ah k),(13,ah k),(14,ah x)] aH ag aT I I ?_;refine cI ?_;refine eI ?_;refine bn 13 ?_;refine cX ?_;refine NU (lQ t.length ⟨g.cx,A.set x (A.getD i 0),g.first⟩ [some ⟨57,.box (eX b7 pl bM bj cv cT)⟩]) (aP.refl _) ?_;refine dX ag (bl ?_);refine ee ag ?_;refine eM (fuel:=1) [0,1,2,3,4,5,6,7,8,9,10,11] [(0,.ro (bS t) 0 t.length),(1,.int .i64 p),(5,.ptr 2 0 0),(6,.mp 3),(7,ah i),(8,.ptr 4 0 0),(9,.bool true),(23,.ro (bS t) 0 t.length),(24,ah t.length),(25,ah i),(85,.ro (.ints .i64 bj) 0 bj.length),(86,ah bj.length),(87,ah k),(13,ah k),(14,ah x)] aH ag aT I I ?_;refine bT I I (bD I) ?_;refine bT I I (kA I) ?_;refine bT I I (ds I I I I I I) ?_;refine bT I I (ia I I I I I) ?_;refine bT I I (bD I) ?_;refine bT I I (bD I) ?_;refine bT I I (ds I I I I I I) ?_;refine bT I I (ia I I I I I) ?_;refine bT I I (vi I (.int I) I I I I (uj g.first) ng i1 i2) ?_;refine cI ?_;refine eI ?_;refine bn 12 ?_;refine cX ?_;refine dX ag (bl ?_);exact cc ⟨k+1,J,J,aH,by rw [mW,dT,EU];exact congrArg (fun l=>lQ t.length ⟨g.cx,l,g.first⟩ [some ⟨57,.box (eX b7 pl bM bj cv cT)⟩]) (xN ..)⟩
    ·have kk:k=bj.length:=J;subst kk;rw [fO];refine fS ?_;refine b6 ?_;refine fB (lQ t.length ⟨g.cx,dN v bj 0 g.pos,g.first⟩ []) [some ⟨57,.box (eX b7 pl bM bj cv cT)⟩] [(0,.ro (bS t) 0 t.length),(1,.int .i64 p),(5,.ptr 2 0 0),(6,.mp 3),(23,.ro (bS t) 0 t.length),(24,ah t.length),(25,ah i)] I aH hO (N3 _ _) I (bt ?_);exact cc ⟨i+1,J,J,aH,by rw [l5]⟩
   |none=>
    have c9:=aef rfl cB;refine aq (IN I (.int I) I I I I I I I I (uj f.first) (CO cB)) ?_;generalize fW p ⟨b7,pl,bM,bj,cv,cT⟩ i f=g at*;obtain ⟨ng,i1,i2⟩:=yO az;simp only at c9;have BL:g.cx.length=f.cx.length+bj.length:=by rw [c9];simp [nQ]
    have na:i<f.pos.length:=J;refine bl ?_;refine ee ag ?_;refine eM (fuel:=1) [0,1,2,3,4,5,6,7] [(0,.ro (bS t) 0 t.length),(1,.int .i64 p),(5,.ptr 2 0 0),(6,.mp 3),(7,ah i),(8,.ptr 4 0 0),(9,.bool true),(23,.ro (bS t) 0 t.length),(24,ah t.length),(25,ah i)] aH ag aT I I ?_;refine cI ?_;refine eI ?_;refine bn 8 ?_;refine Cs I (.int I) I I I I I (uj f.first) (CO cB) (bp ?_);refine dX ag (bl ?_);refine cF (ι:=Nat) (fun k=>[(0,.ro (bS t) 0 t.length),(1,.int .i64 p),(5,.ptr 2 0 0),(6,.mp 3),(7,ah i),(8,.ptr 4 0 0),(9,.bool true),(23,.ro (bS t) 0 t.length),(24,ah t.length),(25,ah i),(58,.ro (.ints .i64 bj) 0 bj.length),(59,ah bj.length),(60,ah k)]) (fun k=>lQ t.length ⟨f.cx++r7 ⟨b7,pl,bM,bj,cv,cT⟩ (f.pos.getD i 0) k,f.pos,f.first++[(bM,f.cx.length)]⟩ [some ⟨57,.box (eX b7 pl bM bj cv cT)⟩])
     (fun k=>k≤bj.length) (fun k=>bj.length-k) 0 ⟨aH,(acN t.length f bM ⟨b7,pl,bM,bj,cv,cT⟩ (f.pos.getD i 0) [some ⟨57,.box (eX b7 pl bM bj cv cT)⟩]).symm,cj _⟩ ?_
    intro k an;refine bh ?_;refine bw I (fun bI=> ?_) (fun bI=> ?_)
    ·have b0:k<bj.length:=J;have mB:=apm ⟨b7,pl,bM,bj,cv,cT⟩ (f.pos.getD i 0) k;have LC:(f.cx++r7 ⟨b7,pl,bM,bj,cv,cT⟩ (f.pos.getD i 0) k).length≤61:=by rw [di,ahN];omega
     have mz:f.cx++r7 ⟨b7,pl,bM,bj,cv,cT⟩ (f.pos.getD i 0) (k+1)=(f.cx++r7 ⟨b7,pl,bM,bj,cv,cT⟩ (f.pos.getD i 0) k)++[(⟨bM,(k:Int),f.pos.getD i 0⟩:ff)]:=by rw [mB,mr]
     generalize adN:f.cx++r7 ⟨b7,pl,bM,bj,cv,cT⟩ (f.pos.getD i 0) (k+1)=fb at*;generalize f.cx++r7 ⟨b7,pl,bM,bj,cv,cT⟩ (f.pos.getD i 0) k=S at*;refine bp ?_;refine ee ag ?_;apply tS (H:=lQ t.length ⟨S,f.pos,f.first++[(bM,f.cx.length)]⟩ [some ⟨57,.box (eX b7 pl bM bj cv cT)⟩]) [(0,.ro (bS t) 0 t.length),(1,.int .i64 p),(5,.ptr 2 0 0),(6,.mp 3),(7,ah i),(8,.ptr 4 0 0),(9,.bool true),(23,.ro (bS t) 0 t.length),(24,ah t.length),(25,ah i),(58,.ro (.ints .i64 bj) 0 bj.length),(59,ah bj.length),(60,ah k),(12,ah k),(63,.ptr 2 0 0),(67,.aC 0 0 S.length),(79,.ro (fM 1 3 [.int .i64 bM,ah k,.int .i64 (f.pos.getD i 0)]) 0 1)]
     ·intro hn;refine bF 0 I ag ag ag I (bD I) I ?_;refine bF 1 I ag ag ag I (bD I) I ?_;refine bF 5 I ag ag ag I (ds I I I I I I) I ?_;refine bF 7 I ag ag ag I (bD I) I ?_;refine bF 8 I ag ag ag I (bD I) I ?_;refine bF 12 I ag ag ag I (bD I) I ?_;refine bF 2 I ag ag ag I (kA I) I ?_;refine bF 9 I ag ag ag I (kA I) I ?_;refine bF 3 I ag ag ag I (ds I I I I I I) I ?_;refine bF 10 I ag ag ag I (ds I I I I I I) I ?_;refine tO (is:=[4,6,11]) ag b1 I ⟨fun o ai=> ?_,fun o ai=> ?_,fun o ai=> ?_,trivial⟩;all_goals (cases ai)
      ·refine bh ?_;refine dV 6 11 ?_ ?_
       ·refine bh ?_;refine bn 11 ?_;refine bh ?_;refine bF 13 I ag ag ag I (gr I I I I I (by first|(simp only [cR,cn,fJ];exact I)|exact I) J) I ?_;refine bn 14 ?_;refine cX ?_;refine bF 15 I ag ag ag I (ji I I I I I I) I ?_;refine bn 16 ?_;refine bt ?_;exact hn _ aH
       ·refine bh ?_;refine bF 13 I ag ag ag I (gr I I I I I (by first|(simp only [cR,cn,fJ];exact I)|exact I) J) I ?_;refine dV 6 14 ?_ ?_
        ·refine bh ?_;refine bn 14 ?_;refine cX ?_;refine bF 15 I ag ag ag I (ji I I I I I I) I ?_;refine bn 16 ?_;refine bt ?_;exact hn _ aH
        ·refine cX ?_;refine bn 6 ?_;refine bh ?_;refine bF 15 I ag ag ag I (ji I I I I I I) I ?_;refine bn 16 ?_;refine bt ?_;exact hn _ aH
      ·refine bh ?_;refine dV 4 11 ?_ ?_
       ·refine bh ?_;refine bn 11 ?_;refine bh ?_;refine bF 13 I ag ag ag I (gr I I I I I (by first|(simp only [cR,cn,fJ];exact I)|exact I) J) I ?_;refine bn 14 ?_;refine cX ?_;refine bF 15 I ag ag ag I (ji I I I I I I) I ?_;refine bn 16 ?_;refine bt ?_;exact hn _ aH
       ·refine bh ?_;refine bF 13 I ag ag ag I (gr I I I I I (by first|(simp only [cR,cn,fJ];exact I)|exact I) J) I ?_;refine dV 4 14 ?_ ?_
        ·refine bh ?_;refine bn 14 ?_;refine cX ?_;refine bF 15 I ag ag ag I (ji I I I I I I) I ?_;refine bn 16 ?_;refine bt ?_;exact hn _ aH
        ·refine cX ?_;refine bF 15 I ag ag ag I (ji I I I I I I) I ?_;refine dV 4 16 ?_ ?_
         ·refine bh ?_;refine bn 16 ?_;refine bt ?_;exact hn _ aH
         ·refine bt ?_;refine bn 4 ?_;refine bh ?_;exact hn _ aH
      ·refine bh ?_;refine bF 13 I ag ag ag I (gr I I I I I (by first|(simp only [cR,cn,fJ];exact I)|exact I) J) I ?_;refine tO (is:=[4,6,14]) ag b1 I ⟨fun o ai=> ?_,fun o ai=> ?_,fun o ai=> ?_,trivial⟩;all_goals (cases ai)
       ·refine bh ?_;refine dV 6 14 ?_ ?_
        ·refine bh ?_;refine bn 14 ?_;refine cX ?_;refine bF 15 I ag ag ag I (ji I I I I I I) I ?_;refine bn 16 ?_;refine bt ?_;exact hn _ aH
        ·refine cX ?_;refine bn 6 ?_;refine bh ?_;refine bF 15 I ag ag ag I (ji I I I I I I) I ?_;refine bn 16 ?_;refine bt ?_;exact hn _ aH
       ·refine bh ?_;refine dV 4 14 ?_ ?_
        ·refine bh ?_;refine bn 14 ?_;refine cX ?_;refine bF 15 I ag ag ag I (ji I I I I I I) I ?_;refine bn 16 ?_;refine bt ?_;exact hn _ aH
        ·refine cX ?_;refine bF 15 I ag ag ag I (ji I I I I I I) I ?_;refine dV 4 16 ?_ ?_
         ·refine bh ?_;refine bn 16 ?_;refine bt ?_;exact hn _ aH
         ·refine bt ?_;refine bn 4 ?_;refine bh ?_;exact hn _ aH
       ·refine cX ?_;refine dV 4 6 ?_ ?_
        ·refine bh ?_;refine bn 6 ?_;refine bh ?_;refine bF 15 I ag ag ag I (ji I I I I I I) I ?_;refine bn 16 ?_;refine bt ?_;exact hn _ aH
        ·refine bh ?_;refine bF 15 I ag ag ag I (ji I I I I I I) I ?_;refine dV 4 16 ?_ ?_
         ·refine bh ?_;refine bn 16 ?_;refine bt ?_;exact hn _ aH
         ·refine bt ?_;refine bn 4 ?_;refine bh ?_;exact hn _ aH
     ·refine bn 17 ?_;refine dI I I I I I I I I I I I I eu I (by show (S.length+1)*24≤_∧_;omega) ?_ dq ?_
      ·intro aK ba aQ bd;exact iF c5 3 ud amh S ⟨bM,(k:Int),f.pos.getD i 0⟩ _ (T9 ⟨bM,(k:Int),f.pos.getD i 0⟩) 0 aK ba aQ bd
      refine fD [some ⟨178,hv (S++[(⟨bM,(k:Int),f.pos.getD i 0⟩:ff)])⟩,some ⟨3,.ints .i64 f.pos⟩,some ⟨147,.box [.any,.aC 1 0 t.length]⟩,some ⟨185,mo (f.first++[(bM,f.cx.length)])⟩,some ⟨57,.box (eX b7 pl bM bj cv cT)⟩] (aP.eqv (h7 c5 3 ud S ⟨bM,(k:Int),f.pos.getD i 0⟩ _ (T9 ⟨bM,(k:Int),f.pos.getD i 0⟩)) (aP.eqv (cG.refl _) (aP.eqv (cG.refl _) (aP.eqv (Oa _ _) (aP.eqv (cG.refl _) aP.nil))))) (bp ?_);refine bF 18 I ag ag ag I (kA I) I ?_;refine bF 19 I ag ag ag I (ds I I I I I I) I ?_;refine bn 20 ?_;refine sB ?_;refine NU (lQ t.length ⟨S++[(⟨bM,(k:Int),f.pos.getD i 0⟩:ff)],f.pos,f.first++[(bM,f.cx.length)]⟩ [some ⟨57,.box (eX b7 pl bM bj cv cT)⟩]) (aP.eqv (cG.refl _) (aP.eqv (cG.refl _) (aP.eqv (by show cG (kZ (S.length+1) t.length) (kZ (S++[(⟨bM,(k:Int),f.pos.getD i 0⟩:ff)]).length t.length);rw [di];exact cG.refl _) (aP.refl _)))) ?_;refine dX ag (bl ?_);exact cc ⟨k+1,J,J,aH,by rw [adN,mz]⟩
    ·have kk:k=bj.length:=J;subst kk;refine bl ?_;refine jv (lQ t.length g [some ⟨57,.box (eX b7 pl bM bj cv cT)⟩]) (by rw [c9];rfl) ?_;refine cF (ι:=Nat) (fun k=>[(0,.ro (bS t) 0 t.length),(1,.int .i64 p),(5,.ptr 2 0 0),(6,.mp 3),(7,ah i),(8,.ptr 4 0 0),(9,.bool true),(23,.ro (bS t) 0 t.length),(24,ah t.length),(25,ah i),(85,.ro (.ints .i64 bj) 0 bj.length),(86,ah bj.length),(87,ah k)]) (fun k=>lQ t.length ⟨g.cx,dN v (bj.take k) 0 g.pos,g.first⟩ [some ⟨57,.box (eX b7 pl bM bj cv cT)⟩])
      (fun k=>k≤bj.length) (fun k=>bj.length-k) 0 ⟨aH,rfl,cj _⟩ ?_
     intro k an;refine bh ?_;refine bw I (fun bI=> ?_) (fun bI=> ?_)
     ·have b0:k<bj.length:=J;obtain ⟨dS,eP⟩:=qD _ (dv 0 b0);have iQ:(dN v (bj.take k) 0 g.pos).length=t.length:=by rw [xk];exact x2
      have rn:(dN v (bj.take k) 0 g.pos).getD i 0=g.pos.getD i 0:=tP v 0 _ _ _ (fun c av=>by have:=qD c (pI av);omega);have dT:dN v (bj.take (k+1)) 0 g.pos=(dN v (bj.take k) 0 g.pos).set (bj.getD k 0).toNat (v k):=by rw [Au b0,AA,fy,hX an,cR]
      have EU:=iy k;generalize mW:dN v (bj.take (k+1)) 0 g.pos=zc at*;generalize dN v (bj.take k) 0 g.pos=A at*;obtain ⟨x,al⟩:=oW (show 0≤bj.getD k 0 by omega);have tD:(bj.getD k 0).toNat=x:=by rw [al,cn]
      rw [al] at dS eP;rw [tD] at dT;have oo:x<A.length:=J;have na:i<A.length:=J;have S7:x<(A.set x (A.getD i 0)).length:=by rw [da];exact oo
      refine bf ?_;refine ea 14 (ah x) I (aU.of_eq (by rw [al])) ?_;refine ee ag ?_;refine eM (fuel:=1) [0,1,2,3,4,5,6,7,8,9,10,11,12] [(0,.ro (bS t) 0 t.length),(1,.int .i64 p),(5,.ptr 2 0 0),(6,.mp 3),(7,ah i),(8,.ptr 4 0 0),(9,.bool true),(23,.ro (bS t) 0 t.length),(24,ah t.length),(25,ah i),(85,.ro (.ints .i64 bj) 0 bj.length),(86,ah bj.length),(87,ah k),(13,ah k),(14,ah x)] aH ag aT I I ?_;refine cI ?_;refine eI ?_;refine bn 13 ?_;refine cX ?_;refine NU (lQ t.length ⟨g.cx,A.set x (A.getD i 0),g.first⟩ [some ⟨57,.box (eX b7 pl bM bj cv cT)⟩]) (aP.refl _) ?_;refine dX ag (bl ?_);refine ee ag ?_;refine eM (fuel:=1) [0,1,2,3,4,5,6,7,8,9,10,11] [(0,.ro (bS t) 0 t.length),(1,.int .i64 p),(5,.ptr 2 0 0),(6,.mp 3),(7,ah i),(8,.ptr 4 0 0),(9,.bool true),(23,.ro (bS t) 0 t.length),(24,ah t.length),(25,ah i),(85,.ro (.ints .i64 bj) 0 bj.length),(86,ah bj.length),(87,ah k),(13,ah k),(14,ah x)] aH ag aT I I ?_;refine bT I I (bD I) ?_;refine bT I I (kA I) ?_;refine bT I I (ds I I I I I I) ?_;refine bT I I (ia I I I I I) ?_;refine bT I I (bD I) ?_;refine bT I I (bD I) ?_;refine bT I I (ds I I I I I I) ?_;refine bT I I (ia I I I I I) ?_;refine bT I I (vi I (.int I) I I I I (uj g.first) ng i1 i2) ?_;refine cI ?_;refine eI ?_;refine bn 12 ?_;refine cX ?_;refine dX ag (bl ?_);exact cc ⟨k+1,J,J,aH,by rw [mW,dT,EU];exact congrArg (fun l=>lQ t.length ⟨g.cx,l,g.first⟩ [some ⟨57,.box (eX b7 pl bM bj cv cT)⟩]) (xN ..)⟩
     ·have kk:k=bj.length:=J;subst kk;rw [fO];refine fS ?_;refine b6 ?_;refine fB (lQ t.length ⟨g.cx,dN v bj 0 g.pos,g.first⟩ []) [some ⟨57,.box (eX b7 pl bM bj cv cT)⟩] [(0,.ro (bS t) 0 t.length),(1,.int .i64 p),(5,.ptr 2 0 0),(6,.mp 3),(23,.ro (bS t) 0 t.length),(24,ah t.length),(25,ah i)] I aH hO (N3 _ _) I (bt ?_);exact cc ⟨i+1,J,J,aH,by rw [l5]⟩
 ·have dn:i=t.length:=J;subst dn;refine bl ?_;exact aZ ar I ⟨I,I⟩
end Go.Proofs.YtmpnheilfejcpaaGreatDoor
namespace Go.Proofs.YtmpnheilfejcpaaGreatDoor
open Go.aj Go.aj.dh Go.aj.cQ Go.RowKit Go.aj.ka Go.aj.eT
def oY (c:hW):List ao:=[.int .i64 c.info,.ro (.strs c.c3) 0 c.c3.length]
abbrev cw (s:df):Cells:=fI gD 2 oY s
structure ZZ (c:hW):Prop where
 c3:c.c3.length≤9223372036854775807
 each: ∀s∈c.c3,s.length≤9223372036854775807
theorem ajp {H:Type}{enc:TypeId×Value→H}{W:World}:hU enc Tryz.prog W 57 6 kU DI:=
 (hU.struct Tryz.underlying57 ag (q9.cons rfl rfl (hU.int Tryz.underlying3) (q9.cons rfl rfl (hU.int Tryz.underlying3) (q9.cons rfl rfl (hU.int Tryz.underlying3) (q9.cons rfl rfl (hU.ints Tryz.underlying55 ag Tryz.underlying3) (q9.cons rfl rfl (hU.strs Tryz.underlying31 ag Tryz.underlying27) (q9.cons rfl rfl (hU.str Tryz.underlying27) q9.nil))))))).map
  (fun a=>(⟨a.1,a.2.1,a.2.2.1,a.2.2.2.1,a.2.2.2.2.1,a.2.2.2.2.2.1⟩:ev)) (fun a h=>⟨h.2.2.2.1.1,h.2.2.2.2.1.1,h.2.2.2.2.1.2,h.2.2.2.2.2.1⟩) (fun a=>rfl) (fun a i aa=>aU.yo)
end Go.Proofs.YtmpnheilfejcpaaGreatDoor
namespace Go.Proofs.YtmpnheilfejcpaaGreatDoor
open Go.aj Go.aj.dh Go.aj.cQ Go.RowKit Go.aj.ka Go.aj.eT
attribute [local irreducible] aj eD bZ cm gK
structure qq (s:df):Prop where
 len:s.length≤9223372036854775807
 each: ∀c∈s,ZZ c
theorem NQ (t:aJ)(p:Int)(s:df)(hlen:t.length≤9223372036854775807)(az:qq s):br Tryz.prog 111 [.ro (bS t) 0 t.length,.int .i64 p,.ro (cw s) 0 s.length] (.int .i64 (ht t p s)):=by
 have cs:=Kv t p hlen;have km:=az.len;have Ia:(j3 t p).length=(b9 t p).length:=by unfold j3;simp
 refine cg Tryz.f111 fun c ar bJ=> ?_;unfold ht at ar;generalize b9 t p=bU at*;generalize j3 t p=Z at*;refine bE ?_;refine aL I I I cs (bt ?_);refine bw I (fun U=> ?_) (fun U=> ?_)
 ·rw [aB J] at ar;refine dy ?_;exact aZ ar I I
 rw [aw J] at ar;have au:s.length=bU.length:=J;refine bt ?_;refine cF (ι:=Nat) (fun i=>[(0,.ro (bS t) 0 t.length),(7,.ro (.ints .i64 bU) 0 bU.length),(8,.ro (.ints .i64 Z) 0 Z.length),(23,.ro (cw s) 0 s.length),(24,ah s.length),(25,ah i)]) (fun _=>[])
  (fun i=>i≤s.length∧po bU Z 0 s=po bU Z i (s.drop i)) (fun i=>s.length-i) 0 ⟨aH,rfl,cj _,by rw [tb]⟩ ?_
 rintro i ⟨aa,dx⟩;refine bh ?_;refine bw I (fun h=> ?_) (fun h=> ?_)
 ·have aQ:i<s.length:=J;have av:=az.each _ (mI gD aQ);rw [anc aQ] at dx;have co:=Zg (s.getD i gD).c3 av.c3 av.each;have om:=av.c3;refine bf ?_;refine bR 29 (.agg (oY (s.getD i gD))) I (aU.of_eq I) ?_;generalize s.getD i gD=x at*;obtain ⟨bM,cv⟩:=x;simp only at*;refine dj (c':= .box [.int .i64 bM,.ro (.strs cv) 0 cv.length]) I I I I I I I ?_;have aqU:i<bU.length:=J;have aqV:i<Z.length:=J;refine bE ?_;refine ee ag ?_;by_cases g1:bM=bU.getD i 0
  case neg=>
   rw [aB (.inl g1)] at dx;rw [dx] at ar;refine eM (fuel:=0) [0,1,2,3,4,5,6,7,8,9,10,11,12,13,14,15,16] [(0,.ro (bS t) 0 t.length),(7,.ro (.ints .i64 bU) 0 bU.length),(8,.ro (.ints .i64 Z) 0 Z.length),(23,.ro (cw s) 0 s.length),(24,ah s.length),(25,ah i),(9,ah i),(10,.ptr 0 0 0)] aH ag aT I I ?_;refine bT I I (ds I I I I I I) ?_;refine bT I I (ia I I I I I) ?_;refine bT I I (bD I) ?_;refine bT I I (bD I) ?_;refine bT I I (ib I I I I (by first|(simp only [cR,cn,fJ];exact I)|exact I) J) ?_;refine bT I I (vk I I I) ?_;refine bT I I (rZ I I) ?_;rw [eG g1];refine cI ?_;refine jN I I I I I ?_;refine jN I I I I I ?_;refine jN I I I I I ?_;refine jN I I I I I ?_;refine jN I I I I I ?_;refine jN I I I I I ?_;refine jN I I I I I ?_;refine jN I I I I I ?_;refine cI ?_;refine eI ?_;refine dX ag (bf ?_);exact aZ ar I I
  refine eM (fuel:=0) [0,1,2,3,4,5,6,7,8,9,10,11,12,13,14,15,16] [(0,.ro (bS t) 0 t.length),(7,.ro (.ints .i64 bU) 0 bU.length),(8,.ro (.ints .i64 Z) 0 Z.length),(23,.ro (cw s) 0 s.length),(24,ah s.length),(25,ah i),(9,ah i),(10,.ptr 0 0 0)] aH ag aT I I ?_;refine bT I I (ds I I I I I I) ?_;refine bT I I (ia I I I I I) ?_;refine bT I I (bD I) ?_;refine bT I I (bD I) ?_;refine bT I I (ib I I I I (by first|(simp only [cR,cn,fJ];exact I)|exact I) J) ?_;refine bT I I (vk I I I) ?_;refine bT I I (rZ I I) ?_;rw [fP (fun q=>q g1)];refine cI ?_;refine gp I I I I (ds I I I I I I) ?_;refine gp I I I I (ia I I I I I) ?_;refine gp I I I I (gm I I I) ?_;refine gp I I I I (bD I) ?_;refine gp I I I I (bD I) ?_;refine gp I I I I (ib I I I I (by first|(simp only [cR,cn,fJ];exact I)|exact I) J) ?_;refine gp I I I I (vk I I I) ?_;refine gp I I I I (rZ I I) ?_;refine cI ?_;refine eI ?_;refine dX ag ?_;repeat (refine b6 ?_)
  refine bw I (fun g2=> ?_) (fun g2=> ?_)
  ·rw [aB (.inr g2)] at dx;rw [dx] at ar;refine bf ?_;exact aZ ar I I
  rw [aw (by
   rintro (q|q)
   ·exact q g1
   ·exact g2 q)] at dx
  refine bl ?_;refine aL I I I co (bt ?_);refine bw I (fun g3=> ?_) (fun g3=> ?_)
  ·rw [aB g3] at dx;rw [dx] at ar;refine bf ?_;exact aZ ar I I
  rw [aw g3] at dx;refine fS ?_;refine b6 ?_;refine fB [] [some ⟨136,.box [.int .i64 bM,.ro (.strs cv) 0 cv.length]⟩] [(0,.ro (bS t) 0 t.length),(7,.ro (.ints .i64 bU) 0 bU.length),(8,.ro (.ints .i64 Z) 0 Z.length),(23,.ro (cw s) 0 s.length),(24,ah s.length),(25,ah i)] I aH hO (fun h o ai=>by simp at ai) I (bt ?_);exact cc ⟨i+1,⟨J,dx⟩,J,aH,I⟩
 ·have dn:i=s.length:=J;subst dn;rw [rj] at dx;rw [dx] at ar;refine bl ?_;exact aZ ar I I
def B8 (c:hW):ao:= .int .i64 c.info
def II (c:hW):ao:= .ro (aO (c.c3.map dk)) 0 (c.c3.map dk).length
abbrev Ai (s:df):Cells:= .mp (s.map B8) (s.map II)
theorem Ii (s:df): ∀x∈s.map B8,nt (.int .i64) x=true:=by intro x al;obtain ⟨e,_,rfl⟩:=cS.1 al;rfl
theorem aoC (s:df)(n:Nat):fw n (Ai s):=by exact ⟨w8 (fun _=>rfl) s,w8 (fun _=>rfl) s⟩
theorem amY (s:df):e5 (Ai s):=⟨Fx (fun _=>rfl) s,Fx (fun _=>rfl) s⟩
theorem ahZ (s:df)(az:qq s)(aG:(s.map hW.info).Nodup)(af: ∀c∈s,c.c3.length≤256∧ ∀r∈c.c3,hI r=0):br Tryz.prog 112 [.ro (cw s) 0 s.length] (.iC (s.map B8) (s.map II)):=by
 have km:=az.len;refine cm.value (K:=fun r H=>r= .mp 0∧H=[some ⟨175,Ai s⟩]) (hx (P:=Tryz.prog) (fn:=Tryz.f112) I I ag I (fun c ar bJ=> ?_)) (fix:=fun _=>False) (fun _ h=>h) I ?_
 ·refine bE ?_;refine aq U1 (bE ?_);refine CA (bt ?_);refine cF (ι:=Nat) (fun i=>[(3,.mp 0),(7,.ro (cw s) 0 s.length),(8,ah s.length),(9,ah i)]) (fun i=>[some ⟨175,Ai (s.take i)⟩])
   (fun i=>i≤s.length) (fun i=>s.length-i) 0 ⟨aH,rfl,cj _⟩ ?_
  intro i aa;refine bh ?_;refine bw I (fun h=> ?_) (fun h=> ?_)
  ·have aQ:i<s.length:=J;have hm:=mI gD aQ;have av:=az.each _ hm;obtain ⟨v1,v2⟩:=af _ hm;have cin:=Tf (s.getD i gD).c3 J (fun r ad=>⟨av.each r ad,v2 r ad⟩);have om:=av.c3;have l6:s.take (i+1)=s.take i++[s.getD i gD]:=by rw [n9 aQ,eA gD aQ]
   have nH:ao.int .i64 (s.getD i gD).info∉(s.take i).map B8:=by intro eQ;obtain ⟨c,BC,qE⟩:=cS.1 eQ;injection qE with aE aF;obtain ⟨j,ae,rfl⟩:=kE BC;rw [fy] at ae;rw [List.getElem_take] at aF;have aD:=xJ.1 aG j i (by simpa using (show j<s.length by omega)) (by simpa using aQ) J;rw [kH,kH] at aD;rw [eA gD aQ] at aF;exact aD aF
   refine bf ?_;refine bR 12 (.agg (oY (s.getD i gD))) I (aU.of_eq I) ?_;generalize s.getD i gD=x at*;obtain ⟨bM,cv⟩:=x;simp only at*;refine dj (c':= .box [.int .i64 bM,.ro (.strs cv) 0 cv.length]) I I I I I I I (bE ?_);refine ee ag ?_;refine eM (fuel:=1) [0,1,2,3,4,5] [(3,.mp 0),(5,.ptr 1 0 0),(7,.ro (cw s) 0 s.length),(8,ah s.length),(9,ah i)] aH ag aT I I ?_;refine cI ?_;refine dW I I I I I cin ?_;refine eI ?_;refine bn 6 ?_;refine Cs I (.int I) I I I I I (Ii _) nH (bp ?_);refine dX ag ?_;repeat (refine kQ ?_)
   refine b6 ?_;refine jv [some ⟨175,Ai (s.take (i+1))⟩,some ⟨136,.box [.int .i64 bM,.ro (.strs cv) 0 cv.length]⟩] (by rw [l6];unfold Ai;rw [hb,hb];rfl) ?_;refine fB [some ⟨175,Ai (s.take (i+1))⟩] [some ⟨136,.box [.int .i64 bM,.ro (.strs cv) 0 cv.length]⟩] [(3,.mp 0),(7,.ro (cw s) 0 s.length),(8,ah s.length),(9,ah i)] I aH hO (rU (aoC _ _)) I (bt ?_);exact cc ⟨i+1,J,J,aH,I⟩
  ·have dn:i=s.length:=J;subst dn;rw [fO];refine bl ?_;exact aZ ar I ⟨I,I⟩
 ·rintro r H ⟨rfl,rfl⟩;exact ⟨I,trivial,fun h o ai=>vG (amY s) h o ai⟩
theorem Wq {s:df}{c:hW}(av:c∈s): ∃j:Nat,(s.map B8)[j]? =some (.int .i64 c.info)∧(s.map II)[j]? =some (.ro (aO (c.c3.map dk)) 0 (c.c3.map dk).length):=by obtain ⟨j,ae⟩:=List.getElem?_of_mem av;exact ⟨j,by rw [lB,ae];rfl,by rw [lB,ae];rfl⟩
theorem XC (l:List Rat)(n:Nat):fw n (aO l):=by
 intro i j _ ae;have ae:j<3:=ae
 match j,ae with
 |0,_=>rfl
 |1,_=>rfl
 |2,_=>rfl
theorem Qc {t:aJ}(af:Valid t)(hlen:t.length≤40){o:dd}{d:Nat}(ai:n4 t o d)(av: ∀i,i<t.length→(t.getD i aN).kind=1→o i=some ((t.getD i aN).c3.map dk))(he: ∀i,i<t.length→(t.getD i aN).kind=0→o i=none)(hd:d≤2000:=by decide):DF t o:=by
 refine ⟨av,he,fun i aa l au=> ?_,fun j ae=>hi ((JI af ai hlen ae).mono J)⟩;obtain ⟨U,ab⟩:=ai.some i aa l au;have an:(t.getD i aN).kind≠0:=fun e=>by rw [he i aa e] at au;cases au
 have aG:1≤(t.getD i aN).next.length∧(t.getD i aN).next.length≤6:=by
  rcases af.child aa with h|h
  ·exact absurd h.1 an
  ·exact ⟨(yD h.2).1,(yD h.2).2.1⟩
 exact ⟨J,J,J,fun q aA=>hi ((ab q aA).2.2.mono J)⟩
theorem Qb (t:aJ)(hlen:t.length≤1000000):br Tryz.prog 170 [.ro (bS t) 0 t.length] (.ro (.ints .i64 (eV t t.length)) 0 (eV t t.length).length):=by
 refine cg Tryz.f170 fun c ar bJ=> ?_;refine fe ?_;refine lK 3 ⟨3,.ints .i64 []⟩ I I ?_;repeat (refine fV ?_)
 refine cF (ι:=Nat) (fun i=>[(3,.aC 0 0 (eV t i).length),(6,.ro (bS t) 0 t.length),(7,ah t.length),(8,ah i)]) (fun i=>[some ⟨3,.ints .i64 (eV t i)⟩])
  (fun i=>i≤t.length) (fun i=>t.length-i) 0 ⟨aH,rfl,cj _⟩ ?_
 intro i aa;refine bh ?_;refine bw I (fun h=> ?_) (fun h=> ?_)
 ·have aQ:i<t.length:=J;have nc:=Vy t i;have BG:=Jx t i;generalize ts:eV t (i+1)=QI at*;generalize eV t i=bU at*;refine bf ?_;refine bR 12 (.agg (kU (t.getD i aN))) I (aU.of_eq I) ?_;generalize t.getD i aN=n at*;obtain ⟨b7,pl,bM,bj,cv,cT⟩:=n;simp only at*;refine dj (c':= .box (eX b7 pl bM bj cv cT)) I I I I I I I ?_;refine dA [some ⟨3,.ints .i64 bU⟩,some ⟨57,.box (eX b7 pl bM bj cv cT)⟩] I ?_;refine bR 5 (.ptr 1 0 0) I (aU.of_eq I) (bl ?_);refine bw I (fun U=> ?_) (fun U=> ?_)
  ·rw [aB U] at nc;refine bt ?_;refine dI I I I I I I I I I I I I eu I (by show (bU.length+1)*8≤_∧_;omega) (fun i j _ _=>rfl) dq ?_;refine fS ?_;refine b6 ?_;refine fB [some ⟨3,.ints .i64 (bU++[(i:Int)])⟩] [some ⟨57,.box (eX b7 pl bM bj cv cT)⟩] [(3,.aC 0 0 (bU.length+1)),(6,.ro (bS t) 0 t.length),(7,ah t.length),(8,ah i)] I aH hO (rU (Ay _ _ _)) I (bt ?_);exact cc ⟨i+1,J,J,⟨by rw [ts,nc,di];rfl,I,I,I,trivial⟩,by rw [ts,nc]⟩
  ·rw [aw U] at nc;refine fS ?_;refine b6 ?_;refine fB [some ⟨3,.ints .i64 bU⟩] [some ⟨57,.box (eX b7 pl bM bj cv cT)⟩] [(3,.aC 0 0 bU.length),(6,.ro (bS t) 0 t.length),(7,ah t.length),(8,ah i)] I aH hO (rU (Ay _ _ _)) I (bt ?_);exact cc ⟨i+1,J,J,⟨by rw [ts,nc];rfl,I,I,I,trivial⟩,by rw [ts,nc]⟩
 ·have dn:i=t.length:=J;subst dn;refine iq ?_;refine mG 0 3 (eV t t.length).length [] I mc I (by show (eV t t.length).length≤(eV t t.length).length;exact bN _) trivial (bE ?_);exact aZ ar I I
abbrev jR (s:df):ao:= .iC (s.map B8) (s.map II)
theorem WV (n:ev)(a b:df)(aD:n.gI=0∨n.gI=1)(c:hW)(av:c∈(if n.gI=0 then a else b))(aa:c.info=n.info):br Tryz.prog 216 [.agg (kU n),.cK (.box [jR a,jR b]) 0 0] (.ro (aO (c.c3.map dk)) 0 (c.c3.map dk).length):=by
 obtain ⟨ng,i1,i2⟩:=Wq av;rw [aa] at i1;obtain ⟨b7,pl,bM,bj,cv,cT⟩:=n;simp only at*;refine cg Tryz.f216 fun c ar bJ=> ?_;unfold kU;simp only;refine bf ?_;refine ee ag ?_;rcases aD with aD|aD
 ·subst aD;rw [aB rfl] at i1 i2;refine eM (fuel:=0) [0,1,2,3,4,5,6,7] [(1,.cK (.box [jR a,jR b]) 0 0),(2,.ptr 0 0 0)] aH ag aT I I ?_;refine bT I I (ds I I I I I I) ?_;refine bT I I (ia I I I I I) ?_;refine bT I I (Jo I I I I (by first|(simp only [cR,cn];exact I)|exact I) J) ?_;refine bT I I (lq I I I I) ?_;refine bT I I (ds I I I I I I) ?_;refine bT I I (ia I I I I I) ?_;refine bT I I (vi I (.int I) I I I I (Ii a) ng i1 i2) ?_;refine cI ?_;refine eI ?_;refine dX ag (bE ?_);exact aZ ar I I
 ·subst aD;rw [aw aT] at i1 i2;refine eM (fuel:=0) [0,1,2,3,4,5,6,7] [(1,.cK (.box [jR a,jR b]) 0 0),(2,.ptr 0 0 0)] aH ag aT I I ?_;refine bT I I (ds I I I I I I) ?_;refine bT I I (ia I I I I I) ?_;refine bT I I (Jo I I I I (by first|(simp only [cR,cn];exact I)|exact I) J) ?_;refine bT I I (lq I I I I) ?_;refine bT I I (ds I I I I I I) ?_;refine bT I I (ia I I I I I) ?_;refine bT I I (vi I (.int I) I I I I (Ii b) ng i1 i2) ?_;refine cI ?_;refine eI ?_;refine dX ag (bE ?_);exact aZ ar I I
structure k5 (t:aJ)(p:Int)(s:df):Prop where
 short:qq s
 ok:Bc t p s
theorem k5.eY {t:aJ}{p:Int}{s:df}(h:k5 t p s):(s.map hW.info).Nodup:=by rw [h.ok.infos];exact Cy t p
theorem k5.str {t:aJ}{p:Int}{s:df}(h:k5 t p s):mT t p (h8 s) 2000:=h.ok.akz
theorem k5.call {t:aJ}{p:Int}{s:df}(h:k5 t p s):br Tryz.prog 112 [.ro (cw s) 0 s.length] (jR s):=
 ahZ s h.short h.eY (fun c av=>⟨(CP (h.ok.c3 c av)).1,(CP (h.ok.c3 c av)).2.1⟩)
theorem k5.node {t:aJ}{p:Int}{s:df}(h:k5 t p s)(af:Valid t){i:Nat}(aa:i<t.length)(an:(t.getD i aN).kind=2)(aD:(t.getD i aN).gI=p): ∃c∈s,c.info=(t.getD i aN).info∧h8 s (t.getD i aN).info=c.c3.map dk:=by
 have az:fX p (t.getD i aN).info (t.getD i aN)=true:=by unfold fX;rw [sP.2 ⟨an,aD⟩,eG rfl];rfl
 obtain ⟨c,cJ,dD,eg,_⟩:=h.ok.at' ((me af).2 ⟨i,aa,az⟩);exact ⟨c,cJ,dD,eg⟩
def fi (t:aJ)(a b:df):dd:=hh t (h8 a) (h8 b)
theorem aiJ {t:aJ}(af:Valid t)(hm:Go.aj.cQ.Modest t){a b:df}(aW:k5 t 0 a)(ak:k5 t 1 b):DF t (fi t a b):=
 Qc af hm.len (TM af hm aW.str ak.str) (fun i aa an=>by unfold fi hh;rw [aB an]) (fun i aa an=>by unfold fi hh;rw [aw J,aw J])
theorem amo (a b:df):e5 (.box [jR a,jR b]):=by
 intro i j _ ae;have ae:j<2:=ae
 match j,ae with
 |0,_=>rfl
 |1,_=>rfl
theorem apE (t:aJ)(a b:df)(b4:kb t)(af:Valid t)(hm:Go.aj.cQ.Modest t)(aW:k5 t 0 a)(ak:k5 t 1 b):
 br Tryz.prog 184 [.ro (bS t) 0 t.length,.ro (cw a) 0 a.length,.ro (cw b) 0 b.length] (.ro (aO (cA t (fi t a b))) 0 t.length):=by
 have U:=PJ t (fi t a b) 216 [.cK (.box [jR a,jR b]) 0 0] rfl rfl b4 af (aiJ af hm aW ak) (fun i aa an=>by
  have aD:=At af aa an;rcases aD with aD|aD
  ·obtain ⟨c,cJ,dD,eg⟩:=aW.node af aa an aD;have:=WV (t.getD i aN) a b (.inl aD) c (by rw [aB aD];exact cJ) dD;have e:fi t a b i=some (c.c3.map dk):=by unfold fi hh;rw [aw J,aB an,aB aD,eg]
   rw [e];exact this
  ·obtain ⟨c,cJ,dD,eg⟩:=ak.node af aa an aD;have:=WV (t.getD i aN) a b (.inr aD) c (by rw [aw J];exact cJ) dD;have e:fi t a b i=some (c.c3.map dk):=by unfold fi hh;rw [aw J,aB an,aw J,eg]
   rw [e];exact this)
 have sj:=aW.call;have aaX:=ak.call;refine cg Tryz.f184 fun c ar bJ=> ?_;refine bE ?_;refine aL I I I sj ?_;repeat (refine aq (bD rfl) ?_)
 refine aL I I I aaX ?_;skip
 refine aq (aiR I I I I I I) ?_;skip
 refine Wn I I I ?_;skip
 refine dj (c':= .box [jR a,jR b]) I I I I I I I ?_;refine iq ?_;refine jv [some ⟨280,.box [jR a,jR b]⟩] I ?_;refine aat (o:=⟨280,.box [jR a,jR b]⟩) (v:= .ptr 0 0 0) 7 [(0,.ro (bS t) 0 t.length)] (.cK (.box [jR a,jR b]) 0 0) (amo a b) rfl rfl (fun o ai=>by simp at ai;subst ai;exact fx) rfl aH ⟨rfl,trivial⟩ rfl (by rw [bJ];exact fun h aX=>aX) ?_;refine fS ?_;refine aL I I I U (bE ?_);exact aZ ar I I
theorem Qo (t:aJ)(a b:df)(b4:kb t)(af:Valid t)(hm:Go.aj.cQ.Modest t)(aW:k5 t 0 a)(ak:k5 t 1 b):
 br Tryz.prog 109 [.ro (bS t) 0 t.length,.ro (cw a) 0 a.length,.ro (cw b) 0 b.length] (b8 (eo t (fi t a b))):=by
 have U:=apE t a b b4 af hm aW ak;have iv:=hm.len;have ab:=Qb t J;have BG:=Jx t t.length;have hw:=TM af hm aW.str ak.str;have fk:(cA t (fi t a b)).length=t.length:=Az t _ _;refine cg Tryz.f109 fun c ar bJ=> ?_;refine bh ?_;refine aL I I I U (bE ?_);refine aL I I I nn ?_;repeat (refine mf rfl rfl rfl ?_)
 refine dj (c':= .box (bV 0)) I I I I I I I (bE ?_);refine aL I I I ab (bt ?_);have wB:(eV t t.length).length=(cH t).length:=by rw [Jw,cW]
 refine cF (ι:=Nat) (fun k=>[(0,.ro (bS t) 0 t.length),(6,.ptr 0 0 0),(7,.ro (aO (cA t (fi t a b))) 0 t.length),(8,.ptr 1 0 0),(17,.ro (.ints .i64 (eV t t.length)) 0 (eV t t.length).length),(18,ah ((eV t t.length).length)),(19,ah k)]) (fun k=>[some ⟨118,.box [.bool false,.nil,.nil]⟩,some ⟨118,.box (bV (sY t (fi t a b) k))⟩])
  (fun k=>k≤(eV t t.length).length) (fun k=>(eV t t.length).length-k) 0 ⟨aH,rfl,cj _⟩ ?_
 intro k an;refine bh ?_;refine bw I (fun h=> ?_) (fun h=> ?_)
 ·have b0:k<(cH t).length:=J;have Ew:=OO t b0;obtain ⟨i1,i2⟩:=pj (dv (l:=cH t) 0 b0);have wN:=Xj t (fi t a b) b0;have EJ:=JL af i1 i2;have iw:=(b4.node _ (dv aN i1)).jf;have kJ:=AI (t.getD ((cH t).getD k 0) aN).jf iw EJ;have uI:=JI af hw iv i1;have fz:=(hm.rH af).nF _ i1 i2;have agc:=aoi af hw iv (hm.rH af) (k:=k) J;have hl:=Gf _ _ (hi (uI.mono (show 2000*40+1≤9*100000 by decide))) (hi (fz.mono aT));have x1:iK t (cA t (fi t a b)) ((cH t).getD k 0)=(cA t (fi t a b)).getD ((cH t).getD k 0) 0*dk (t.getD ((cH t).getD k 0) aN).jf:=rfl;have hl:br Tryz.prog 99 [b8 ((cA t (fi t a b)).getD ((cH t).getD k 0) 0),b8 (dk (t.getD ((cH t).getD k 0) aN).jf)] (b8 (iK t (cA t (fi t a b)) ((cH t).getD k 0))):=hl;have sj:=yZ (sY t (fi t a b) k) (iK t (cA t (fi t a b)) ((cH t).getD k 0)) (hi (agc.mono aT)) (by
   rw [x1];exact hi ((uI.mul fz).mono aT))
  rw [←wN] at sj;have Hu:k<(eV t t.length).length:=J;generalize R1:sY t (fi t a b) (k+1)=zi at*;generalize sY t (fi t a b) k=V at*;generalize dx:iK t (cA t (fi t a b)) ((cH t).getD k 0)=E at*;generalize (cH t).getD k 0=i at*;refine yp ?_;refine dc I ?_;refine iq ?_;refine ea 10 (ah i) I (aU.of_eq (by rw [Ew])) ?_;skip
  refine ee ag ?_;refine eM (fuel:=1) [0,1,2,3,4,5,6,7,8,9,10,11,12] [(10,ah i),(0,.ro (bS t) 0 t.length),(6,.ptr 0 0 0),(7,.ro (aO (cA t (fi t a b))) 0 t.length),(8,.ptr 1 0 0),(17,.ro (.ints .i64 (eV t t.length)) 0 (eV t t.length).length),(18,ah ((eV t t.length).length)),(19,ah k)] aH ag aT I I ?_;refine cI ?_;refine dW I I I I I kJ ?_;refine dW I I I I I hl ?_;refine dW I I I I I sj ?_;refine eI ?_;refine bn 13 ?_;unfold b8;refine dj (c':= .box (bV zi)) I I I I I I I (bp ?_);refine dX ag (bl ?_);exact cc ⟨k+1,J,J,aH,by rw [R1];rfl⟩
 ·have dn:k=(eV t t.length).length:=J;subst dn;rw [wB,ald];refine bf ?_;refine dj (c':= .box (bV (eo t (fi t a b)))) I I I I I I I (bE ?_);exact aZ ar I I
def pq (t:aJ)(a b:df):Int:=if nu t≠0 then nu t else if ht t 0 a≠0 then ht t 0 a else ht t 1 b
theorem N2 {t:aJ}{a b:df}(h:pq t a b=0):Valid t∧ht t 0 a=0∧ht t 1 b=0:=by
 unfold pq at h;by_cases U:nu t≠0
 ·rw [aB U] at h;exact absurd h U
 ·rw [aw U] at h;by_cases ab:ht t 0 a≠0
  ·rw [aB ab] at h;exact absurd h ab
  ·rw [aw ab] at h;exact ⟨Ke (hL.1 U),hL.1 ab,h⟩
theorem VX (t:aJ)(a b:df)(b4:kb t)(aW:qq a)(ak:qq b):br Tryz.prog 104 [.ro (bS t) 0 t.length,.ro (cw a) 0 a.length,.ro (cw b) 0 b.length] (.int .i64 (pq t a b)):=by
 have cJ:=O1 t b4;have dD:=NQ t 0 a b4.len aW;have eg:=NQ t 1 b b4.len ak;refine cg Tryz.f104 fun c ar bJ=> ?_;unfold pq at ar;generalize nu t=aE at*;generalize ht t 0 a=aF at*;generalize ht t 1 b=bO at*;refine bE ?_;refine aL I I I cJ (bt ?_);refine bw I (fun U=> ?_) (fun U=> ?_)
 ·rw [aB U] at ar;refine dy ?_;exact aZ ar I I
 rw [aw U] at ar;refine bp ?_;refine aL I I I dD (bt ?_);refine bw I (fun ab=> ?_) (fun ab=> ?_)
 ·rw [aB ab] at ar;refine dy ?_;exact aZ ar I I
 rw [aw ab] at ar;refine bp ?_;refine aL I I I eg (bE ?_);exact aZ ar I I
structure Small (t:aJ)(a:List df):Prop where
 qO:kb t
 m:Go.aj.cQ.Modest t
 s: ∀x∈a,qq x
theorem Small.str {t:aJ}{l:List df}(h:Small t l){s:df}(az:s∈l){p:Int}(he:ht t p s=0):k5 t p s:=⟨h.s s az,aoc he⟩
def vd (t:aJ)(a b:df):dP×Int:=if pq t a b≠0 then ([],pq t a b) else hT (eo t (fi t a b))
theorem Uc (t:aJ)(a b:df)(h:Small t [a,b]):br Tryz.prog 31 [.ro (bS t) 0 t.length,.ro (cw a) 0 a.length,.ro (cw b) 0 b.length] (uk (vd t a b)):=by
 have cJ:=VX t a b h.qO (h.s a b1) (h.s b b1);refine cg Tryz.f31 fun c ar bJ=> ?_;unfold vd at ar;refine bE ?_;refine aL I I I cJ (bt ?_);refine bw I (fun U=> ?_) (fun U=> ?_)
 ·rw [aB U] at ar;refine dy ?_;exact aZ ar I I
 rw [aw U] at ar;obtain ⟨af,l0,kK⟩:=N2 (hL.1 U);have rI:=h.str (s:=a) b1 l0;have rJ:=h.str (s:=b) b1 kK;have dD:=Qo t a b h.qO af h.m rI rJ;have eg:=Gt (eo t (fi t a b)) (hi ((FL af (C2 af h.m rI.str rJ.str) h.m.len (h.m.rH af)).mono (show 80500≤9*100000 by decide)));generalize eo t (fi t a b)=q at*;refine bp ?_;refine aL I I I dD ?_;skip
 refine aL I I I eg (dy ?_);exact aZ ar I I
abbrev ij (t:aJ)(p:Int):ao:= .cK (.box [.ro (hv (bW t p)) 0 (bW t p).length,.ro (.ints .i64 (hQ t p)) 0 t.length]) 0 0
theorem DA (t:aJ)(p:Int)(b4:kb t)(af:Valid t):br Tryz.prog 91 [.ro (bS t) 0 t.length,.int .i64 p] (ij t p):=by
 have iw:(de t p t.length).pos.length=t.length:=xf t p _;refine cm.value (K:=fun r H=>r= .ptr 2 0 0∧H=[none,none,some ⟨147,.box [.ro (hv (bW t p)) 0 (bW t p).length,.ro (.ints .i64 (hQ t p)) 0 t.length]⟩,none]) (cm.RB (aib t p b4 af) ?_) (fix:=fun _=>False) (fun _ h=>h) I ?_
 ·rintro cU b3 ⟨rfl,rfl⟩;refine ⟨[some ⟨178,hv (de t p t.length).cx⟩,some ⟨3,.ints .i64 (de t p t.length).pos⟩,none,none],_,_,⟨?_,?_,?_,?_,.inl I⟩,I,I⟩
  ·intro h o ai
   match h,ai with
   |0,ai=>exact ai
   |1,ai=>exact ai
   |2,ai=>simp at ai
   |3,ai=>simp at ai
   |_+4,ai=>simp at ai
  ·intro h o ai
   match h,ai with
   |0,ai=>cases ai;exact amp _
   |1,ai=>cases ai;exact mc
   |2,ai=>simp at ai
   |3,ai=>simp at ai
   |_+4,ai=>simp at ai
  ·rfl
  ·intro h o ai
   match h,ai with
   |0,ai=>simp at ai
   |1,ai=>simp at ai
   |2,ai=>
    cases ai;refine ⟨fun o h=>by simp at h,_,I,I,I,I,fun i j aa ae=> ?_⟩;have ae:j<2:=ae;obtain rfl:=ft.1 (show i<1 from aa)
    match j,ae with
    |0,_=>exact .inr (.inr ⟨rfl,fun o ai=>by cases ai;show 0+(de t p t.length).cx.length≤(de t p t.length).cx.length;omega⟩)
    |1,_=>exact .inr (.inr ⟨rfl,fun o ai=>by cases ai;show 0+t.length≤(de t p t.length).pos.length;omega⟩)
   |3,ai=>simp at ai
   |_+4,ai=>simp at ai
 ·rintro r H ⟨rfl,rfl⟩;refine ⟨rfl,fun o ai=>by cases ai;exact fx,fun h o ai=> ?_⟩
  match h,ai with
  |0,ai=>simp at ai
  |1,ai=>simp at ai
  |2,ai=>
   cases ai;intro i j _ ae;have ae:j<2:=ae
   match j,ae with
   |0,_=>rfl
   |1,_=>rfl
  |3,ai=>simp at ai
  |_+4,ai=>simp at ai
theorem XE (n:ev)(p:Int)(s:df)(c:hW)(av:n.gI≠p→c∈s∧c.info=n.info):br Tryz.prog 188 [.agg (kU n),.cK (.box [.int .i64 p]) 0 0,.cK (.box [jR s]) 0 0] (if n.gI=p then .nil else .ro (aO (c.c3.map dk)) 0 (c.c3.map dk).length):=by
 obtain ⟨b7,pl,bM,bj,cv,cT⟩:=n;simp only at*;by_cases aD:pl=p
 ·rw [aB aD];refine cg Tryz.f188 fun c ar bJ=> ?_;unfold kU;simp only;refine u7 ?_;rw [eG aD];refine bl ?_;exact aZ ar I I
 ·rw [aw aD];obtain ⟨U,ab⟩:=av aD;obtain ⟨ng,i1,i2⟩:=Wq U;rw [ab] at i1;refine cg Tryz.f188 fun c ar bJ=> ?_;unfold kU;simp only;refine u7 ?_;rw [fP aD];refine fe ?_;refine aq (vi I (.int I) I I I I (Ii s) ng i1 i2) (bE ?_);exact aZ ar I I
end Go.Proofs.YtmpnheilfejcpaaGreatDoor
namespace Go.Proofs.YtmpnheilfejcpaaGreatDoor
open Go.aj Go.aj.dh Go.aj.cQ Go.RowKit Go.aj.dR
attribute [local irreducible] aj eD bZ cm gK
theorem yX {n m k:Nat}(h:n≤10^k)(an:k+1≤9*m):(a7 n).length≤m:=by
 refine oy (ha (m:=10^(9*m)) ?_ ?_)
 ·have U:10^(k+1)≤10^(9*m):=fN aT an;have ab:0<10^k:=lX aT;rw [hY] at U;omega
 ·rw [Nat.pow_mul];exact xO aT m
theorem ape (x d:Int)(hd:d≠0)(al:(a7 x.natAbs).length≤1000000)(o3:(a7 d.natAbs).length≤1000000):br Tryz.prog 237 [ej x,ej d] (ej (qZ x d)):=by
 have cJ:=Dr x.natAbs d.natAbs J al o3;have dD:=yY (!(decide (x<0)==decide (d<0))) (x.natAbs/d.natAbs);have e:k2 (!(decide (x<0)==decide (d<0))) (x.natAbs/d.natAbs)=qZ x d:=rfl;rw [e] at dD;refine cg Tryz.f237 fun c ar bJ=> ?_;unfold ej at*;generalize qZ x d=q at*;refine bf ?_;refine aL I I I cJ ?_;repeat (first|refine aq (bD rfl) ?_|refine aq (dC rfl) ?_|refine cY ?_|refine b6 ?_|refine du ?_|refine dc rfl ?_|refine aq (ia rfl rfl rfl rfl rfl) ?_|refine aq (nP rfl rfl) ?_|refine aq (ds rfl rfl rfl rfl rfl rfl) ?_|refine aq (Ow rfl rfl rfl) ?_)
 refine aL I I I dD ?_;skip
 refine dj (c':= .box [.bool (decide (q<0)),bA q.natAbs]) I I I I I I I (bE ?_);exact aZ ar I I
def cO (x:Int):List ao:=[.bool (decide (x<0)),bA x.natAbs]
abbrev aV (l:List Int):Cells:=fI 0 2 cO l
theorem UZ (x:Int)(j h:Nat)(ae:j<2):((cO x).getD j .any).forget h=(cO x).getD j .any:=by
 match j,ae with
 |0,_=>rfl
 |1,_=>rfl
theorem T5 (x:Int)(j:Nat)(ae:j<2):(fM 1 2 [.bool (decide (x<0)),bA x.natAbs]).at 0 j=(cO x).getD j .any:=by
 match j,ae with
 |0,_=>rfl
 |1,_=>rfl
theorem V5 (q:Rat): ∀(l:List Rat) (f:Nat),hS f (l++[q])=hS f l*(q.den/Nat.gcd (hS f l) q.den)
 |[],f=>rfl
 |a::r,f=>by rw [oT,hS,hS,V5 q r]
theorem V6 {l:List Rat}{K k:Nat}(h: ∀q∈l,D K q):hS 1 (l.take k)≤10^(K*l.length):=by refine dU (Y8 (k:=K) (l.take k) 1 (fun q aA=>(h q (pI aA)).2)) ?_;rw [qt];refine fN aT (hK _ ?_);rw [fy];exact Nat.min_le_right _ _
theorem apZ (l:List Rat)(K:Nat)(fK: ∀q∈l,D K q)(hlen:l.length≤1000)(dE:K*l.length+K≤900000):
 GK Tryz.prog 209 [.ro (aO l) 0 l.length] (.ck [.aC 0 0 l.length,bA (hS 1 l)]) [some ⟨116,aV (hP l)⟩]:=by
 have cy: ∀n k:Nat,n≤10^k→k≤900000→(a7 n).length≤100001:=fun n k h an=>yX h J;have oc:=F4 1 aT;refine cm.many (hx (P:=Tryz.prog) (fn:=Tryz.f209) I I ag I (fun c ar bJ=> ?_)) (fix:=fun _=>False) (fun _ h=>h) I;refine bE ?_;refine aL I I I oc (bt ?_);refine cF (ι:=Nat) (fun k=>[(0,.ro (aO l) 0 l.length),(4,bA (hS 1 (l.take k))),(16,.ro (aO l) 0 l.length),(17,ah l.length),(18,ah k)]) (fun _=>[])
  (fun k=>k≤l.length) (fun k=>l.length-k) 0 ⟨aH,rfl,cj _⟩ ?_
 intro k an;refine bh ?_;refine bw I (fun h=> ?_) (fun h=> ?_)
 ·have b0:k<l.length:=J;have aA:=fK _ (dv 0 b0);have nc:hS 1 (l.take (k+1))=hS 1 (l.take k)*((l.getD k 0).den/Nat.gcd (hS 1 (l.take k)) (l.getD k 0).den):=by rw [n9 b0,V5,eA 0 b0]
  have l1:=cy _ _ (V6 (k:=k) fK) J;have aD:=J5 (l.take k) 1 aT;generalize hS 1 (l.take k)=F at*;generalize yb:l.getD k 0=q at*;have Eo:=cy q.den K (ri aA.2) J;have c9:0<Nat.gcd F q.den:=Nat.gcd_pos_of_pos_left _ aD;have x2:Nat.gcd F q.den≤10^K:=dU (Bn q.den_pos (DR F q.den)) (ri aA.2);have cJ:=Qt F q.den J J;have dD:=Dr q.den (Nat.gcd F q.den) c9 J (dU (cy (Nat.gcd F q.den) K x2 J) aT);have eg:=KP F (q.den/Nat.gcd F q.den) J (dU (cy (q.den/Nat.gcd F q.den) K (dU (vX _ _) (ri aA.2)) J) aT);refine bf ?_;refine bR 21 (.agg (bV q)) I (aU.of_eq (by rw [←yb];rfl)) ?_;refine dj (c':= .box (bV q)) I I I I I I I (bl ?_);refine aL I I I cJ (bl ?_);refine aL I I I dD (dy ?_);refine aL I I I eg ?_;refine fS ?_;refine b6 ?_;refine mJ [none] (aP.drop aP.nil) ?_;refine AR (H1:=[]) I dq (bt ?_);exact cc ⟨k+1,J,J,⟨I,by rw [nc];rfl,I,I,I,trivial⟩,I⟩
 have kk:k=l.length:=J;subst kk;rw [fO];have Lw:=V6 (k:=l.length) fK;rw [fO] at Lw;have l1:=cy _ _ Lw J;unfold hP at ar;generalize hS 1 l=F at*;have xX: ∃g:Rat→Int,g=(fun q=>q.num*((F/q.den:Nat):Int)):=⟨_,rfl⟩
 obtain ⟨g,xX⟩:=xX;rw [←xX] at ar;refine u6 ?_;refine lK 10 ⟨116,aV []⟩ I I ?_;repeat (refine fV ?_)
 refine cF (ι:=Nat) (fun k=>[(4,bA F),(10,.aC 0 0 k),(37,.ro (aO l) 0 l.length),(38,ah l.length),(39,ah k)]) (fun k=>[some ⟨116,aV ((l.take k).map g)⟩])
  (fun k=>k≤l.length) (fun k=>l.length-k) 0 ⟨aH,rfl,cj _⟩ ?_
 intro k an;refine bh ?_;refine bw I (fun h=> ?_) (fun h=> ?_)
 ·have b0:k<l.length:=J;have aA:=fK _ (dv 0 b0);have l6:=Fk g l 0 k b0;have iv:((l.take k).map g).length=k:=by rw [cW,fy];omega
  generalize (l.take k).map g=zs at*;generalize yb:l.getD k 0=q at*;have Eo:=cy q.den K (ri aA.2) J;have SL:=cy q.num.natAbs K (ri aA.1) J;have ark:=cy _ _ (dU (vX F q.den) Lw) J;have aeV:g q=q.num*((F/q.den:Nat):Int):=by rw [xX]
  have cJ:=Dr F q.den q.den_pos J J;have dD:=p7 q.num ((F/q.den:Nat):Int) J (by rw [k7];omega);rw [←aeV] at dD;refine bf ?_;refine bR 42 (.agg (bV q)) I (aU.of_eq (by rw [←yb];rfl)) ?_;refine dj (c':= .box (bV q)) I I I I I I I (bl ?_);refine aL I I I cJ (sB ?_);refine bR 54 (ej ((F/q.den:Nat):Int)) I (aU.of_eq (by
   unfold ej;rw [fP (Int.not_lt.2 (DW (F/q.den))),k7];rfl)) ?_
  refine aL I I I dD ?_;unfold ej;repeat (refine ju rfl rfl rfl rfl rfl rfl rfl rfl rfl rfl rfl ?_)
  refine dI I I I I I I I I I iv I I eu I (by show (k+1)*32≤_∧_;omega) ?_ dq ?_
  ·intro aK j aa ae;exact iF 0 2 cO UZ zs (g q) _ (T5 _) 0 aK j aa ae
  refine fS ?_;refine b6 ?_;refine mJ ([some ⟨116,aV ((l.take (k+1)).map g)⟩]++[none]) ?_ ?_
  ·rw [l6];exact aP.eqv (h7 0 2 cO zs (g q) _ (T5 _)) (aP.drop aP.nil)
  refine AR (H1:=[some ⟨116,aV ((l.take (k+1)).map g)⟩]) I dq ?_;refine mJ [some ⟨116,aV ((l.take (k+1)).map g)⟩] ?_ ?_
  ·exact aP.eqv ⟨I,I,fun i j _ ae=>(UZ _ j _ ae).symm⟩ aP.nil
  refine bt ?_;exact cc ⟨k+1,J,J,aH,I⟩
 ·have kk:k=l.length:=J;subst kk;rw [fO];refine bl ?_;exact aZ ar I ⟨I,I⟩
end Go.Proofs.YtmpnheilfejcpaaGreatDoor
namespace Go.Proofs.YtmpnheilfejcpaaGreatDoor
open Go.aj Go.aj.dh Go.aj.cQ Go.RowKit Go.aj.ka Go.aj.eT Go.aj.cL
attribute [local irreducible] aj eD bZ cm gK
end Go.Proofs.YtmpnheilfejcpaaGreatDoor
namespace Go.Proofs.YtmpnheilfejcpaaGreatDoor
open Go.aj Go.aj.dh Go.aj.cQ Go.RowKit Go.aj.dR Go.aj.cL
theorem dz {a b:Nat}(h:a≠b):Nat.beq a b=false:=by
 cases aS:Nat.beq a b
 ·rfl
 ·exact absurd (pO aS) h
theorem qT {h:Nat}{fr:Fr}: ∀{L:Fr},jm fr L→(∀p∈L,p.2.forget h=p.2)→jm (oC h fr) L
 |[],_,_=>trivial
 |(t,v)::r,an,aD=>by
  refine ⟨?_,qT an.2 (fun p sv=>aD p (uy _ sv))⟩;have U:=an.1;have af:v.forget h=v:=aD (t,v) (vZ ..);clear an aD;induction fr with
  |nil=>cases U
  |cons q s a6=>
   obtain ⟨u,x⟩:=q;show Go.aj.look t ((u,x.forget h)::oC h s)=some v;simp only [Go.aj.look] at U⊢;cases aA:Nat.beq t u with
   |true=>rw [aA] at U;simp at U;subst U;rw [af];rfl
   |false=>rw [aA] at U;exact a6 (by simpa using U)
section
variable {P:Program}{fn:Func}{c:Ctx}{fr:Fr}{H:aY}{k:List eO}
theorem PZ {x:Code}(L:Fr)(cB:jm fr L)(an:aj P fn c (.code x k) L H):aj P fn c (.code x k) fr H:=fun w a σ S ad=>an w a σ S (ad.weaken cB)
theorem vj {q:Bool}{all:Array Oper}{rest:List Oper}(L:Fr)(cB:jm fr L)(an:aj P fn c (.ops q all rest k) L H):aj P fn c (.ops q all rest k) fr H:=by
 cases q with
 |true=>exact fun hd w a σ S ad=>an hd w a σ S (ad.weaken cB)
 |false=>exact fun hd w a σ S ad=>an hd w a σ S (ad.weaken cB)
end
abbrev fR (l:List Nat):Cells:= .ints .i64 (l.map (fun a:Nat=>(a:Int)))
theorem Oz (x:Int):(lG x=0)=(x=0):=by
 apply propext;unfold lG;constructor
 ·intro h;split at h
  ·exact absurd h aT
  ·split at h
   ·assumption
   ·exact absurd h aT
 ·intro h;subst h;rfl
theorem ph (h:Nat)(a:List Int):(aV a).forget h=aV a:=by
 show Cells.fn _ _ _=Cells.fn _ _ _;congr 1;funext i j
 match j with
 |0=>rfl
 |1=>rfl
 |_+2=>rfl
theorem amf (m:Nat)(x:Int):fw m (.box (cO x)):=by
 intro i j aa ae;have bd:j<2:=ae
 match j,bd with
 |0,_=>rfl
 |1,_=>rfl
theorem WN (l:List Nat)(a:Nat):cG (.ints .i64 (l.map (fun a:Nat=>(a:Int))++[(a:Int)])) (fR (l++[a])):=by show cG _ (.ints .i64 ((l++[a]).map (fun a:Nat=>(a:Int))));rw [hb];exact cG.refl _
theorem vu (l:List Int)(j:Nat)(v:Int): ∀aK ba,aK<(aV l).len→ba<2→(aV (l.set j v)).at aK ba=if aK=j then (cO v).getD ba .any else (aV l).at aK ba:=by
 intro aK ba aQ bd;show (cO ((l.set j v).getD aK 0)).getD ba .any=if aK=j then _ else (cO (l.getD aK 0)).getD ba .any
 rw [fQ];have au:aK<l.length:=aQ;by_cases h:aK=j
 ·rw [aB ⟨h,J⟩,aB h]
 ·rw [aw (fun q=>h q.1),aw h]
theorem Yq {α:Type}(l:List α)(d:α)(i:Nat)(aa:i<l.length):l.set i (l.getD i d)=l:=by
 apply kc b1;intro a U ab;rw [xT];split
 ·rename_i e;subst e;rw [eA d aa]
 ·rfl
theorem VM {x p f y:Int}{E:Nat}(al:x.natAbs≤10^E)(aD:p.natAbs≤10^E)(aR:f.natAbs≤10^E)(a1:y.natAbs≤10^E)(dx:E≤3600000):
 (a7 (x*p).natAbs).length≤1000000∧(a7 (f*y).natAbs).length≤1000000∧(a7 (x*p-f*y).natAbs).length≤1000000:=by
 have aE:(x*p).natAbs≤10^(E+E):=by rw [ke,iN];exact jW al aD
 have aF:(f*y).natAbs≤10^(E+E):=by rw [ke,iN];exact jW aR a1
 have bO:(x*p-f*y).natAbs≤10^(E+E+1):=by refine dU (Int.natAbs_sub_le _ _) ?_;rw [hY];omega
 exact ⟨yX aE J,yX aF J,yX bO J⟩
abbrev fj (b n L:Nat):Cells:= .fn n 1 (fun i _=> .aC (b+4+i) 0 L)
abbrev jz (b k m w:Nat)(d:Int):Cells:= .box [.aC (b+3) 0 k,.bool (decide (d<0)),bA d.natAbs,.aC (b+2) 0 m,ah w]
abbrev bs (G:aY)(F:Option bm)(L w k:Nat)(X:cu)(d:Int)(β:List Nat)(T:aY):aY:=
 G++(some ⟨249,jz G.length k β.length w d⟩::F::some ⟨3,fR β⟩::fo ⟨243,fj G.length X.length L⟩ 116 aV X T)
def s4 (G:aY):Prop:= ∀m,G.length≤m→ ∀o:bm,some o∈G→fw m o.c
section
variable {G:aY}{F:Option bm}{L w k:Nat}{X:cu}{d:Int}{β:List Nat}{T:aY}
theorem ik:(bs G F L w k X d β T)[G.length]? =some (some ⟨249,jz G.length k β.length w d⟩):=tZ (i:=0) rfl
theorem Up:(bs G F L w k X d β T)[G.length+1]? =some F:=tZ (i:=1) rfl
theorem vC:(bs G F L w k X d β T)[G.length+2]? =some (some ⟨3,fR β⟩):=tZ (i:=2) rfl
theorem nU:(bs G F L w k X d β T)[G.length+3]? =some (some ⟨243,fj G.length X.length L⟩):=tZ (i:=3) rfl
theorem nr {a:Nat}(aW:a<X.length):(bs G F L w k X d β T)[G.length+4+a]? =some (some ⟨116,aV (X.getD a [])⟩):=by rw [show G.length+4+a=G.length+(3+(a+1)) by omega];refine (tZ (i:=3+(a+1)) I).trans ?_;rw [show 3+(a+1)=(a+1)+3 by omega];exact Pt (O:=⟨243,fj G.length X.length L⟩) (t:=116) (f:=aV) (X:=X) (L:=T) [] aW
theorem gl (j:Nat):(bs G F L w k X d β T)[G.length+4+X.length+j]? =T[j]? :=by rw [show G.length+4+X.length+j=G.length+((X.length+1+j)+3) by omega];refine (tZ (i:=(X.length+1+j)+3) I).trans ?_;exact Ps (O:=⟨243,fj G.length X.length L⟩) (t:=116) (f:=aV) (X:=X) (L:=T)
theorem iH:(bs G F L w k X d β T).length=G.length+4+X.length+T.length:=by unfold bs;rw [di,gu,gu,gu,FZ];omega
theorem gk (jC:aY):bs G F L w k X d β T++jC=bs G F L w k X d β (T++jC):=by unfold bs;rw [mr,oT,oT,oT,JS]
theorem On (c1 w':Nat)(Ro:Int):(bs G F L w k X d β T).set G.length (some ⟨249,jz G.length c1 β.length w' Ro⟩)=bs G F L w' c1 X Ro β T:=p5 (i:=0) _ rfl
theorem Wg {xx:List Nat}(ak:xx.length=β.length):(bs G F L w k X d β T).set (G.length+2) (some ⟨3,fR xx⟩)=bs G F L w k X d xx T:=by refine (p5 (i:=2) _ I).trans ?_;show G++(some ⟨_,jz G.length k β.length w d⟩::F::some ⟨_,fR xx⟩::_)=_;rw [←ak]
theorem Wh {a:Nat}(aW:a<X.length)(x:List Int):(bs G F L w k X d β T).set (G.length+4+a) (some ⟨116,aV x⟩)=bs G F L w k (X.set a x) d β T:=by rw [show G.length+4+a=G.length+((a+1)+3) by omega];refine (p5 (i:=(a+1)+3) _ I).trans ?_;have h:=UW (O:=⟨243,fj G.length X.length L⟩) (t:=116) (f:=aV) (X:=X) (L:=T) x aW;show G++(_::F::_::(fo _ _ _ X T).set (a+1) _)=_;rw [h];unfold bs;rw [da]
theorem j2 (j:Nat)(x:Option bm):(bs G F L w k X d β T).set (G.length+4+X.length+j) x=bs G F L w k X d β (T.set j x):=by rw [show G.length+4+X.length+j=G.length+((X.length+1+j)+3) by omega];refine (p5 (i:=(X.length+1+j)+3) _ I).trans ?_;show G++(_::F::_::(fo _ _ _ X T).set (X.length+1+j) _)=_;rw [UU]
theorem rQ (dL:s4 G)(m:Nat)(hm:G.length+4+X.length≤m)(l1: ∀o:bm,F=some o→fw m o.c)(b4: ∀o:bm,some o∈T→fw m o.c): ∀(h:Nat) (o:bm),(bs G F L w k X d β T)[h]? =some (some o)→fw m o.c:=by
 intro h o ai;have eQ:=pS ai;unfold bs fo at eQ;rw [gM] at eQ;rcases eQ with eQ|eQ
 ·exact dL m J o eQ
 rw [gb,gb,gb,gb,gM] at eQ;rcases eQ with e|e|e|e|eQ|eQ
 ·cases e;intro i j aa ae;have bd:j<5:=ae
  match j,bd with
  |0,_=>exact rb (show G.length+3+1≤m by omega)
  |1,_=>rfl
  |2,_=>rfl
  |3,_=>exact rb (show G.length+2+1≤m by omega)
  |4,_=>rfl
 ·exact l1 o e.symm
 ·cases e;exact fun i j _ _=>rfl
 ·cases e;intro i j aa ae;have aQ:i<X.length:=aa;exact rb (show G.length+4+i+1≤m by omega)
 ·obtain ⟨a,_,e⟩:=cS.1 eQ;cases e;intro i j aa ae;have bd:j<2:=ae
  match j,bd with
  |0,_=>rfl
  |1,_=>rfl
 ·exact b4 o eQ
theorem akK (b k m w:Nat)(d v:Int): ∀aK ba,aK<(jz b k m w d).len→ba<(jz b k m w d).aI→(jz b k m w v).at aK ba=if aK=0∧1≤ba∧ba<1+2 then (cO v).getD (ba-1) .any else (jz b k m w d).at aK ba:=by
 intro aK ba aQ bd;obtain rfl:=ft.1 (show aK<1 from aQ);have lC:ba<5:=bd
 match ba,lC with
 |0,_=>rfl
 |1,_=>rfl
 |2,_=>rfl
 |3,_=>rfl
 |4,_=>rfl
end
end Go.Proofs.YtmpnheilfejcpaaGreatDoor
namespace Go.Proofs.YtmpnheilfejcpaaGreatDoor
open Go.aj Go.aj.dh Go.aj.cQ Go.RowKit Go.aj.dR Go.aj.cL
attribute [local irreducible] aj eD bZ cm gK
theorem C8 (x:Int):(lG x<0)=(x<0):=by
 apply propext;unfold lG;constructor
 ·intro h;split at h
  ·assumption
  ·split at h<;>omega
 ·intro h;rw [aB h];decide
theorem WU {α β:Type}(f:α→β)(l:List α)(d:α):(List.range l.length).map (fun i=>f (l.getD i d))=l.map f:=by apply kc b1;intro i U ab;simp [List.getD,n8 (by simpa using ab:i<l.length)]
theorem Yb (G:aY)(dL:s4 G)(L w n:Nat)(X:cu)(d:Int)(β:List Nat)(r bb:Nat)(E:Nat)(aG:X.length=n)(afw:n≤1000000)(cB: ∀x∈X,x.length=L)(Ly:L≤1000000)(ad:r<β.length)(wU:β.length≤n)(av:bb<L)(hd:d≠0)(jd: ∀i j,i<n→j<L→(ax X i j).natAbs≤10^E)(aeA:d.natAbs≤10^E)(dx:E≤3600000):
 cm Tryz.prog 208 [.ptr G.length 0 0,ah r,ah bb] (bs G none L w n X d β []) (fun h=>h<(bs G none L w n X d β []).length)
  (fun dF bK=>dF= .ck []∧bK=bs G none L w n (k1 X r bb d) (if ax X r bb<0 then-(ax X r bb) else ax X r bb) (β.set r bb) []):=by
 refine hx (P:=Tryz.prog) (fn:=Tryz.f208) I I ag I (fun c ar bJ=> ?_);have yc:r<n:=ha ad wU;have hlen:(bs G none L w n X d β []).length=G.length+4+n:=by rw [iH,aG];rfl
 rw [hlen] at bJ;have f1:=ik (G:=G) (F:=none) (L:=L) (w:=w) (k:=n) (X:=X) (d:=d) (β:=β) (T:=[]);have f2:=nU (G:=G) (F:=none) (L:=L) (w:=w) (k:=n) (X:=X) (d:=d) (β:=β) (T:=[]);have f3:=nr (G:=G) (F:=none) (L:=L) (w:=w) (k:=n) (X:=X) (d:=d) (β:=β) (T:=[]) (a:=r) (by rw [aG];exact yc);have ahv:(X.getD r []).length=L:=cB _ (dv [] (by rw [aG];exact yc));have g1:r<(fj G.length X.length L).len:=by show r<X.length;rw [aG];exact yc
 have g2:bb<(aV (X.getD r [])).len:=by show bb<(X.getD r []).length;rw [ahv];exact av
 refine cX ?_;refine dA (bs G none L w n X d β [some ⟨116,.box [.bool false,.nil]⟩]) (by rw [gk];rfl) ?_;refine bR 6 (.ptr (G.length+4+n) 0 0) I (aU.of_eq (by rw [hlen])) ?_;refine bR 23 (ej (ax X r bb)) I (aU.of_eq I) ?_;have eU:=gl (G:=G) (F:=none) (L:=L) (w:=w) (k:=n) (X:=X) (d:=d) (β:=β) (T:=[some ⟨116,.box [.bool false,.nil]⟩]) 0;rw [aG] at eU;refine eN (c':= .box (cO (ax X r bb))) I I I eU I fx I I (fun aK ba aQ bd=> ?_) ?_
 ·rw [aB (ft.1 aQ)];rfl
 refine dA (bs G none L w n X d β [some ⟨116,.box (cO (ax X r bb))⟩]) (by have q:=j2 (G:=G) (F:=none) (L:=L) (w:=w) (k:=n) (X:=X) (d:=d) (β:=β) (T:=[some ⟨116,.box [.bool false,.nil]⟩]) 0 (some ⟨116,.box (cO (ax X r bb))⟩);rw [aG] at q;exact q) ?_;clear f1 f2 f3 eU;have f1:=ik (G:=G) (F:=none) (L:=L) (w:=w) (k:=n) (X:=X) (d:=d) (β:=β) (T:=[some ⟨116,.box (cO (ax X r bb))⟩]);have cy: ∀x:Int,x.natAbs≤10^E→(a7 x.natAbs).length≤400001:=fun x al=>yX al J;have Q7:=jd r bb yc av;refine cX ?_;refine cF (ι:=Nat) (fun a=>[(0,.ptr G.length 0 0),(1,ah r),(2,ah bb),(6,.ptr (G.length+4+n) 0 0),(27,.aC (G.length+3) 0 n),(28,ah n),(29,ah a)]) (fun a=>bs G none L w n (dK (j5 X r bb d) [] X a) d β [some ⟨116,.box (cO (ax X r bb))⟩]) (fun a=>a≤n) (fun a=>n-a) 0 ⟨aH,by rw [vo],cj _⟩ ?_;clear f1;intro a aW;have dw:(dK (j5 X r bb d) [] X a).length=n:=by rw [qV,aG]
 refine bh ?_;refine bw I (fun fh=> ?_) (fun fh=> ?_)
 ·have Ek:a<n:=J;have wq:(dK (j5 X r bb d) [] X a).getD a []=X.getD a []:=by rw [rR _ _ _ J,aw (oQ a)]
  have aca:(dK (j5 X r bb d) [] X a).getD r []=X.getD r []:=by
   rw [rR _ _ _ J];split
   ·unfold j5;rw [aB rfl]
   ·rfl
  have wV:(X.getD a []).length=L:=cB _ (dv [] J);have f2:=nU (G:=G) (F:=none) (L:=L) (w:=w) (k:=n) (X:=(dK (j5 X r bb d) [] X a)) (d:=d) (β:=β) (T:=[some ⟨116,.box (cO (ax X r bb))⟩]);have f3:=nr (G:=G) (F:=none) (L:=L) (w:=w) (k:=n) (X:=(dK (j5 X r bb d) [] X a)) (d:=d) (β:=β) (T:=[some ⟨116,.box (cO (ax X r bb))⟩]) (a:=a) J;rw [wq] at f3;have g3:a<(fj G.length (dK (j5 X r bb d) [] X a).length L).len:=by show a<(dK (j5 X r bb d) [] X a).length;omega
  have g4:bb<(aV (X.getD a [])).len:=by show bb<(X.getD a []).length;omega
  refine u9 ?_;refine bw I (fun oZ=> ?_) (fun oZ=> ?_)
  ·have adp:a=r:=J;refine bl ?_;exact cc ⟨a+1,J,J,aH,by rw [abb _ _ _ J (by rw [adp];unfold j5;rw [aB rfl])]⟩
  ·have ch: ¬a=r:=J;refine cX ?_;have BO:(bs G none L w n (dK (j5 X r bb d) [] X a) d β [some ⟨116,.box (cO (ax X r bb))⟩]).length=G.length+5+n:=by rw [iH,dw];show _+1=_;omega
   refine dA (bs G none L w n (dK (j5 X r bb d) [] X a) d β [some ⟨116,.box (cO (ax X r bb))⟩,some ⟨116,.box [.bool false,.nil]⟩]) (by rw [gk];rfl) ?_;refine bR 9 (.ptr (G.length+5+n) 0 0) I (aU.of_eq (by rw [BO])) ?_;refine bR 40 (ej (ax X a bb)) I (aU.of_eq I) ?_;have bQ:=gl (G:=G) (F:=none) (L:=L) (w:=w) (k:=n) (X:=(dK (j5 X r bb d) [] X a)) (d:=d) (β:=β) (T:=[some ⟨116,.box (cO (ax X r bb))⟩,some ⟨116,.box [.bool false,.nil]⟩]) 1;rw [dw,show G.length+4+n+1=G.length+5+n by omega] at bQ;refine eN (c':= .box (cO (ax X a bb))) I I I bQ I fx I I (fun aK ba aQ bd=> ?_) ?_
   ·rw [aB (ft.1 aQ)];rfl
   refine dA (bs G none L w n (dK (j5 X r bb d) [] X a) d β [some ⟨116,.box (cO (ax X r bb))⟩,some ⟨116,.box (cO (ax X a bb))⟩]) (by have q:=j2 (G:=G) (F:=none) (L:=L) (w:=w) (k:=n) (X:=(dK (j5 X r bb d) [] X a)) (d:=d) (β:=β) (T:=[some ⟨116,.box (cO (ax X r bb))⟩,some ⟨116,.box [.bool false,.nil]⟩]) 1 (some ⟨116,.box (cO (ax X a bb))⟩);rw [dw,show G.length+4+n+1=G.length+5+n by omega] at q;exact q) ?_;clear f2 f3 bQ;refine bt ?_;refine cF (ι:=Nat) (fun j=>[(0,.ptr G.length 0 0),(1,ah r),(2,ah bb),(6,.ptr (G.length+4+n) 0 0),(7,ah a),(8,.aC (G.length+4+a) 0 L),(9,.ptr (G.length+5+n) 0 0),(27,.aC (G.length+3) 0 n),(28,ah n),(29,ah a),(42,ah L),(43,ah j)]) (fun j=>bs G none L w n ((dK (j5 X r bb d) [] X a).set a (dK (yq (X.getD a []) (X.getD r []) (ax X r bb) (ax X a bb) d) 0 (X.getD a []) j)) d β [some ⟨116,.box (cO (ax X r bb))⟩,some ⟨116,.box (cO (ax X a bb))⟩]) (fun j=>j≤L) (fun j=>L-j) 0 ⟨aH,by rw [vo,←wq,Yq (dK (j5 X r bb d) [] X a) [] _ J],cj _⟩ ?_;intro j ae;refine bh ?_;refine bw I (fun ld=> ?_) (fun ld=> ?_)
   ·have bd:j<L:=J;have mZ:=rR (yq (X.getD a []) (X.getD r []) (ax X r bb) (ax X a bb) d) 0 (X.getD a []) (k:=j) (i:=j) J;rw [aw (oQ j)] at mZ;have nK:=ua (yq (X.getD a []) (X.getD r []) (ax X r bb) (ax X a bb) d) 0 (X.getD a []) (k:=j) J;have BP:=qV (yq (X.getD a []) (X.getD r []) (ax X r bb) (ax X a bb) d) 0 (X.getD a []) j;have L8:(yq (X.getD a []) (X.getD r []) (ax X r bb) (ax X a bb) d) j=qZ ((X.getD a []).getD j 0*ax X r bb-ax X a bb*(X.getD r []).getD j 0) d:=rfl;rw [←mZ] at L8;rw [L8] at nK;have ex:((dK (yq (X.getD a []) (X.getD r []) (ax X r bb) (ax X a bb) d) 0 (X.getD a []) j).getD j 0).natAbs≤10^E:=by rw [mZ];exact jd a j Ek bd
    clear mZ L8;generalize (dK (yq (X.getD a []) (X.getD r []) (ax X r bb) (ax X a bb) d) 0 (X.getD a []) j)=row at*;generalize aqC:(dK (j5 X r bb d) [] X a)=sc at*;have LK:(sc.set a row).length=n:=by rw [da];exact dw
    have Ni:(sc.set a row).getD a []=row:=by rw [fQ,aB ⟨rfl,J⟩]
    have ajj:(sc.set a row).getD r []=X.getD r []:=by rw [fQ,aw (fun q=>ch q.1.symm),aca]
    have en:=nU (G:=G) (F:=none) (L:=L) (w:=w) (k:=n) (X:=(sc.set a row)) (d:=d) (β:=β) (T:=[some ⟨116,.box (cO (ax X r bb))⟩,some ⟨116,.box (cO (ax X a bb))⟩]);have gT:=nr (G:=G) (F:=none) (L:=L) (w:=w) (k:=n) (X:=(sc.set a row)) (d:=d) (β:=β) (T:=[some ⟨116,.box (cO (ax X r bb))⟩,some ⟨116,.box (cO (ax X a bb))⟩]) (a:=a) J;rw [Ni] at gT;have jg:=nr (G:=G) (F:=none) (L:=L) (w:=w) (k:=n) (X:=(sc.set a row)) (d:=d) (β:=β) (T:=[some ⟨116,.box (cO (ax X r bb))⟩,some ⟨116,.box (cO (ax X a bb))⟩]) (a:=r) J;rw [ajj] at jg;have tK:=ik (G:=G) (F:=none) (L:=L) (w:=w) (k:=n) (X:=(sc.set a row)) (d:=d) (β:=β) (T:=[some ⟨116,.box (cO (ax X r bb))⟩,some ⟨116,.box (cO (ax X a bb))⟩]);have aiL:=gl (G:=G) (F:=none) (L:=L) (w:=w) (k:=n) (X:=(sc.set a row)) (d:=d) (β:=β) (T:=[some ⟨116,.box (cO (ax X r bb))⟩,some ⟨116,.box (cO (ax X a bb))⟩]) 0;rw [LK,fg] at aiL;have aiM:=gl (G:=G) (F:=none) (L:=L) (w:=w) (k:=n) (X:=(sc.set a row)) (d:=d) (β:=β) (T:=[some ⟨116,.box (cO (ax X r bb))⟩,some ⟨116,.box (cO (ax X a bb))⟩]) 1;rw [LK,show G.length+4+n+1=G.length+5+n by omega] at aiM;have g5:r<(fj G.length (sc.set a row).length L).len:=by show r<(sc.set a row).length;omega
    have g6:j<(aV row).len:=by show j<row.length;omega
    have g7:j<(aV (X.getD r [])).len:=by show j<(X.getD r []).length;omega
    have QS:((X.getD r []).getD j 0).natAbs≤10^E:=jd r j yc bd;have wi:(ax X a bb).natAbs≤10^E:=jd a bb Ek av;obtain ⟨s1,s2,vb⟩:=VM ex Q7 wi QS dx;have m1:=p7 (row.getD j 0) (ax X r bb) (by have:=cy _ ex;omega) (by have:=cy _ Q7;omega);have m2:=p7 (ax X a bb) ((X.getD r []).getD j 0) (by have:=cy _ wi;omega) (by have:=cy _ QS;omega);have m3:=Qa (row.getD j 0*ax X r bb) (ax X a bb*(X.getD r []).getD j 0) s1 s2;have m4:=ape (row.getD j 0*ax X r bb-ax X a bb*(X.getD r []).getD j 0) d hd vb (by have:=cy _ aeA;omega);refine bp ?_;refine ee ag ?_;refine eM (fuel:=1) [0,1,2,3,4,5,6,7,8,9,10,11,12,13,14,15,16,17,18,19,20,21,22,23,24,25,26] [(0,.ptr G.length 0 0),(1,ah r),(2,ah bb),(6,.ptr (G.length+4+n) 0 0),(7,ah a),(8,.aC (G.length+4+a) 0 L),(9,.ptr (G.length+5+n) 0 0),(27,.aC (G.length+3) 0 n),(28,ah n),(29,ah a),(42,ah L),(43,ah j),(10,ah j)] aH ag aT I I ?_;refine cI ?_;refine dW I I I I I m1 ?_;refine cI ?_;refine dW I I I I I m2 ?_;refine dW I I I I I m3 ?_;refine cI ?_;refine dW I I I I I m4 ?_;refine cI ?_;refine eI ?_;generalize qZ (row.getD j 0*ax X r bb-ax X a bb*(X.getD r []).getD j 0) d=v at*;refine bn 27 ?_;refine eN (c':=aV (row.set j v)) I I I gT I g6 (da ..) I (vu row j v) ?_;refine dA (bs G none L w n (sc.set a (row.set j v)) d β [some ⟨116,.box (cO (ax X r bb))⟩,some ⟨116,.box (cO (ax X a bb))⟩]) ((Wh J _).trans (by rw [xN])) (bp ?_);refine dX ag (bl ?_);exact cc ⟨j+1,J,J,aH,by rw [nK]⟩
   ·have hc:L=j:=J;subst hc;have hp:=ajB (X.getD a []) (X.getD r []) (ax X r bb) (ax X a bb) d;rw [wV] at hp;have BG:j5 X r bb d a=yW (X.getD a []) (X.getD r []) (ax X r bb) (ax X a bb) d:=by unfold j5;rw [aw ch]
    rw [←hp,←BG,ua _ _ _ J];have adW:(dK (j5 X r bb d) [] X (a+1)).length=n:=by rw [qV,aG]
    have Mg:(bs G none L w n (dK (j5 X r bb d) [] X (a+1)) d β [some ⟨116,.box (cO (ax X r bb))⟩]).length=G.length+5+n:=by rw [iH,adW];show _+1=_;omega
    refine fS ?_;refine b6 ?_;refine fB (bs G none L w n (dK (j5 X r bb d) [] X (a+1)) d β [some ⟨116,.box (cO (ax X r bb))⟩]) [some ⟨116,.box (cO (ax X a bb))⟩] [(0,.ptr G.length 0 0),(1,ah r),(2,ah bb),(6,.ptr (G.length+4+n) 0 0),(27,.aC (G.length+3) 0 n),(28,ah n),(29,ah a)] (by rw [gk];rfl) aH (fun h aX=>by rw [bJ] at aX;rw [Mg];omega)
     (by rw [Mg];exact rQ dL _ J (fun o ai=>by cases ai) (fun o ai=>by cases hk.1 ai;exact amf _ _)) (by rw [Mg];simp [kr,gV];omega) ?_
    refine bt ?_;exact cc ⟨a+1,J,J,aH,I⟩
 have LM:n=a:=J;subst LM;rw [show dK (j5 X r bb d) [] X n=pw X r bb d by rw [Pk,aG]];have R7:=ON X r bb d J cB;have Ej:(pw X r bb d).length=n:=by rw [OM,aG]
 have D3:k1 X r bb d=if ax X r bb<0 then (pw X r bb d).map (fun l=>l.map (fun x=> -x)) else pw X r bb d:=rfl
 have wB:(k1 X r bb d).length=n:=by rw [PB,aG]
 clear aW dw fh;generalize pw X r bb d=Y at*;refine eL ?_;refine du ?_;apply kP (H:=bs G none L w n (k1 X r bb d) d β [some ⟨116,.box (cO (if ax X r bb<0 then-(ax X r bb) else ax X r bb))⟩]) [(0,.ptr G.length 0 0),(1,ah r),(2,ah bb),(6,.ptr (G.length+4+n) 0 0)]
 ·intro fin;have f1:=ik (G:=G) (F:=none) (L:=L) (w:=w) (k:=n) (X:=Y) (d:=d) (β:=β) (T:=[some ⟨116,.box (cO (ax X r bb))⟩]);have eU:=gl (G:=G) (F:=none) (L:=L) (w:=w) (k:=n) (X:=Y) (d:=d) (β:=β) (T:=[some ⟨116,.box (cO (ax X r bb))⟩]) 0;rw [Ej,fg] at eU;have cs:=yM (ax X r bb);refine cX ?_;refine bR 75 (ej (ax X r bb)) I (aU.of_eq I) ?_;refine aL I I I cs ?_;refine eL ?_;refine bw I (fun U=> ?_) (fun U=> ?_)
  ·rw [C8] at U;rw [aB U] at D3;rw [aB U] at fin;have co:=AS (ax X r bb);refine cX ?_;refine bR 78 (ej (ax X r bb)) I (aU.of_eq I) ?_;refine aL I I I co ?_;skip
   refine eN (c':= .box (cO (-(ax X r bb)))) I I I eU I fx I I (fun aK ba aQ bd=> ?_) ?_
   ·rw [aB (ft.1 aQ)];rfl
   refine dA (bs G none L w n Y d β [some ⟨116,.box (cO (-(ax X r bb)))⟩]) (by have q:=j2 (G:=G) (F:=none) (L:=L) (w:=w) (k:=n) (X:=Y) (d:=d) (β:=β) (T:=[some ⟨116,.box (cO (ax X r bb))⟩]) 0 (some ⟨116,.box (cO (-(ax X r bb)))⟩);rw [Ej,fg] at q;exact q) ?_;clear f1 eU;have f1:=ik (G:=G) (F:=none) (L:=L) (w:=w) (k:=n) (X:=Y) (d:=d) (β:=β) (T:=[some ⟨116,.box (cO (-(ax X r bb)))⟩]);refine cX ?_;refine cF (ι:=Nat) (fun a=>[(0,.ptr G.length 0 0),(1,ah r),(2,ah bb),(6,.ptr (G.length+4+n) 0 0),(83,.aC (G.length+3) 0 n),(84,ah n),(85,ah a)]) (fun a=>bs G none L w n (dK (fun i=>(Y.getD i []).map (fun x=> -x)) [] Y a) d β [some ⟨116,.box (cO (-(ax X r bb)))⟩]) (fun a=>a≤n) (fun a=>n-a) 0 ⟨aH,by rw [vo],cj _⟩ ?_;clear f1;intro a aW;have dw:(dK (fun i=>(Y.getD i []).map (fun x=> -x)) [] Y a).length=n:=by rw [qV,Ej]
   refine bh ?_;refine bw I (fun fh=> ?_) (fun fh=> ?_)
   ·have Ek:a<n:=J;have wq:(dK (fun i=>(Y.getD i []).map (fun x=> -x)) [] Y a).getD a []=Y.getD a []:=by rw [rR _ _ _ J,aw (oQ a)]
    have wV:(Y.getD a []).length=L:=R7 _ (dv [] J);have dT:=ua (fun i=>(Y.getD i []).map (fun x=> -x)) [] Y (k:=a) J;have f2:=nU (G:=G) (F:=none) (L:=L) (w:=w) (k:=n) (X:=(dK (fun i=>(Y.getD i []).map (fun x=> -x)) [] Y a)) (d:=d) (β:=β) (T:=[some ⟨116,.box (cO (-(ax X r bb)))⟩]);have g3:a<(fj G.length (dK (fun i=>(Y.getD i []).map (fun x=> -x)) [] Y a).length L).len:=by show a<(dK (fun i=>(Y.getD i []).map (fun x=> -x)) [] Y a).length;omega
    refine cX ?_;generalize aqE:(dK (fun i=>(Y.getD i []).map (fun x=> -x)) [] Y a)=Bf at*;generalize a1:Y.getD a []=y at*;refine cF (ι:=Nat) (fun j=>[(0,.ptr G.length 0 0),(1,ah r),(2,ah bb),(6,.ptr (G.length+4+n) 0 0),(12,.aC (G.length+4+a) 0 L),(83,.aC (G.length+3) 0 n),(84,ah n),(85,ah a),(90,ah L),(91,ah j)]) (fun j=>bs G none L w n (Bf.set a (dK (fun j=> -(y.getD j 0)) 0 y j)) d β [some ⟨116,.box (cO (-(ax X r bb)))⟩]) (fun j=>j≤L) (fun j=>L-j) 0 ⟨aH,by rw [vo,←wq,Yq Bf [] _ J],cj _⟩ ?_;intro j ae;refine bh ?_;refine bw I (fun ld=> ?_) (fun ld=> ?_)
    ·have bd:j<L:=J;have mZ:=rR (fun j=> -(y.getD j 0)) 0 y (k:=j) (i:=j) J;rw [aw (oQ j)] at mZ;have nK:=ua (fun j=> -(y.getD j 0)) 0 y (k:=j) J;have BP:=qV (fun j=> -(y.getD j 0)) 0 y j;rw [←mZ] at nK;generalize (dK (fun j=> -(y.getD j 0)) 0 y j)=row at*;have LK:(Bf.set a row).length=n:=by rw [da];exact dw
     have Ni:(Bf.set a row).getD a []=row:=by rw [fQ,aB ⟨rfl,J⟩]
     have gT:=nr (G:=G) (F:=none) (L:=L) (w:=w) (k:=n) (X:=(Bf.set a row)) (d:=d) (β:=β) (T:=[some ⟨116,.box (cO (-(ax X r bb)))⟩]) (a:=a) J;rw [Ni] at gT;have g6:j<(aV row).len:=by show j<row.length;omega
     have co:=AS (row.getD j 0);refine cX ?_;refine bR 99 (ej (row.getD j 0)) I (aU.of_eq I) ?_;refine aL I I I co ?_;repeat (refine aq (mE rfl rfl rfl) ?_)
     refine eN (c':=aV (row.set j (-(row.getD j 0)))) I I I gT I g6 (da ..) I (vu row j _) ?_;refine dA (bs G none L w n (Bf.set a (row.set j (-(row.getD j 0)))) d β [some ⟨116,.box (cO (-(ax X r bb)))⟩]) ((Wh J _).trans (by rw [xN])) (bl ?_);exact cc ⟨j+1,J,J,aH,by rw [nK]⟩
    ·have hc:L=j:=J;subst hc;have hp:dK (fun j=> -(y.getD j 0)) 0 y L=y.map (fun x=> -x):=by rw [←wV,xm,WU (fun x=> -x) y 0]
     rw [hp,dT];refine bl ?_;exact cc ⟨a+1,J,J,aH,I⟩
   ·have LM:a=n:=J;have hp:(dK (fun i=>(Y.getD i []).map (fun x=> -x)) [] Y a)=k1 X r bb d:=by rw [LM,←Ej,xm,WU (fun l:List Int=>l.map (fun x=> -x)) Y [],D3]
    rw [hp];refine eL ?_;exact fin _ aH
  ·rw [C8] at U;rw [aw U] at D3;rw [aw U,D3] at fin;refine eL ?_;exact fin _ aH
 clear D3 Ej R7;clear Y;generalize aqx:(if ax X r bb<0 then-(ax X r bb) else ax X r bb)=n5 at*;have f1:=ik (G:=G) (F:=none) (L:=L) (w:=w) (k:=n) (X:=(k1 X r bb d)) (d:=d) (β:=β) (T:=[some ⟨116,.box (cO n5)⟩]);have eU:=gl (G:=G) (F:=none) (L:=L) (w:=w) (k:=n) (X:=(k1 X r bb d)) (d:=d) (β:=β) (T:=[some ⟨116,.box (cO n5)⟩]) 0;rw [wB,fg] at eU;refine cX ?_;refine bR 105 (ej n5) I (aU.of_eq I) ?_;refine amd (s:=2) (c':=jz G.length n β.length w n5) I I I f1 I (show 1+2≤5 from aT) fx I I (akK _ _ _ _ _ _) ?_;refine dA (bs G none L w n (k1 X r bb d) n5 β [some ⟨116,.box (cO n5)⟩]) (On n w n5) ?_;refine iq ?_;have hle:(bs G none L w n (k1 X r bb d) n5 β []).length=G.length+4+n:=by rw [iH,wB];rfl
 refine fB (bs G none L w n (k1 X r bb d) n5 β []) [some ⟨116,.box (cO n5)⟩] [(0,.ptr G.length 0 0),(1,ah r),(2,ah bb)] (by rw [gk];rfl) aH (fun h aX=>by rw [bJ] at aX;rw [hle];exact aX)
  (by rw [hle];exact rQ dL _ J (fun o ai=>by cases ai) (fun o ai=>by cases ai)) (by rw [hle];simp [kr,gV];omega) ?_
 clear f1 eU;have f1:=ik (G:=G) (F:=none) (L:=L) (w:=w) (k:=n) (X:=k1 X r bb d) (d:=n5) (β:=β) (T:=[]);have f2:=vC (G:=G) (F:=none) (L:=L) (w:=w) (k:=n) (X:=k1 X r bb d) (d:=n5) (β:=β) (T:=[]);refine cX ?_;refine lL I I I I f2 I I (by show r<(β.map _).length;rw [cW];exact ad) ?_;refine dA (bs G none L w n (k1 X r bb d) n5 (β.set r bb) []) (by
  rw [←Wg (β:=β) (da ..)];show _=List.set _ _ (some (⟨3,.ints .i64 ((β.set r bb).map (fun a:Nat=>(a:Int)))⟩:bm));rw [List.map_set]) ?_
 repeat (refine cY ?_)
 exact QR ar I ⟨I,I⟩
end Go.Proofs.YtmpnheilfejcpaaGreatDoor
