import Derived.Test.YtmpnheilfejcpaaGreatDoorC6
set_option linter.unusedVariables false
set_option linter.unusedSimpArgs false
set_option maxRecDepth 100000
set_option maxHeartbeats 4000000
namespace Go.Proofs.YtmpnheilfejcpaaGreatDoor
open Go.ai Go.ai.c8 Go.ai.cz Go.RowKit Go.ai.kz Go.ai.eD
attribute [local irreducible] ai ek bV cg hb
theorem XS (a b:List (List UInt8))(hlen:a.length≤9223372036854775807)(x9:b.length≤9223372036854775807):bD Tryz.prog 57 [.ro (.strs a) 0 a.length,.ro (.strs b) 0 b.length] (.bool (decide (a=b))):=by
 refine cm Tryz.f57 fun c ay bK=> ?_;refine bz ?_;refine bB I (fun h=> ?_) (fun h=> ?_)
 ·refine dw ?_;refine bd ay I ?_;have: ¬a=b:=by rintro rfl;exact h rfl
  simp [gK,this]
 have mT:a.length=b.length:=J;refine bz ?_;refine cJ (ι:=Nat) (fun k=>[(0,.ro (.strs a) 0 a.length),(1,.ro (.strs b) 0 b.length),(12,ag a.length),(13,ag k)]) (fun _=>[])
  (fun k=>k≤a.length∧a.take k=b.take k) (fun k=>a.length-k) 0 ⟨aH,rfl,cf _,rfl⟩ ?_
 intro k ⟨ao,heq⟩;refine bl ?_;refine bB I (fun ab=> ?_) (fun ab=> ?_)
 ·have b5:k<a.length:=J;have a1:=qq a [] k b5;have ak:=qq b [] k J;refine bI ?_;refine yG af af I (tv ?_);refine bB I (fun aw=> ?_) (fun aw=> ?_)
  ·refine bm ?_;refine bd ay I ?_;have: ¬a=b:=by rintro rfl;exact aw rfl
   simp [gK,this]
  ·refine bt ?_;have bg:a.getD k []=b.getD k []:=jV.1 aw;exact ca ⟨k+1,⟨J,by rw [a1,ak,heq,bg]⟩,J,aH,I⟩
 ·have b5:k=a.length:=J;subst b5;rw [gb,mT,gb] at heq;refine bt ?_;refine bd ay I ?_;simp [gK,heq]
theorem XQ (a b:List (List dI))(FD:a.length≤9223372036854775807)(x9:b.length≤9223372036854775807)(Kh: ∀r∈a,r.length≤9223372036854775807)(Ki: ∀r∈b,r.length≤9223372036854775807)(g:FuncId)(cX: ∀x∈a,∀y∈b,bD Tryz.prog g [.ro (.strs x) 0 x.length,.ro (.strs y) 0 y.length] (.bool (decide (x=y)))):bD Tryz.prog 155 [.ro (nx a) 0 a.length,.ro (nx b) 0 b.length,.fn g []] (.bool (decide (a=b))):=by
 refine cm Tryz.f155 fun c ay bK=> ?_;refine bz ?_;refine bB I (fun h=> ?_) (fun h=> ?_)
 ·refine dw ?_;refine bd ay I ?_;have: ¬a=b:=by rintro rfl;exact h rfl
  simp [gK,this]
 have mT:a.length=b.length:=J;refine bz ?_;refine cJ (ι:=Nat) (fun k=>[(0,.ro (nx a) 0 a.length),(1,.ro (nx b) 0 b.length),(2,.fn g []),(15,.ro (nx a) 0 a.length),(16,ag a.length),(17,ag k)]) (fun _=>[])
  (fun k=>k≤a.length∧a.take k=b.take k) (fun k=>a.length-k) 0 ⟨aH,rfl,cf _,rfl⟩ ?_
 intro k ⟨ao,heq⟩;refine bl ?_;refine bB I (fun ab=> ?_) (fun ab=> ?_)
 ·have b5:k<a.length:=J;have a1:=qq a [] k b5;have ak:=qq b [] k J;have av:=cX _ (mz [] b5) _ (mz [] (show k<b.length by omega));refine bm ?_;refine aZ I I I av (bt ?_);cases aw:decide (a.getD k []=b.getD k []) with
  |false=>
   refine bm ?_;refine bd ay I ?_;have bg:=of_decide_eq_false aw;have: ¬a=b:=by rintro rfl;exact bg rfl
   simp [gK,this]
  |true=>
   refine bt ?_;have bg:=zm aw;exact ca ⟨k+1,⟨J,by rw [a1,ak,heq,bg]⟩,J,aH,I⟩
 ·have b5:k=a.length:=J;subst b5;rw [gb,mT,gb] at heq;refine bt ?_;refine bd ay I ?_;simp [gK,heq]
theorem aee (a b:List dI)(FD:a.length≤9223372036854775807)(x9:b.length≤9223372036854775807):bD Tryz.prog 156 [.ro (.strs a) 0 a.length,.ro (.strs b) 0 b.length] (.bool (decide (a=b))):=by have he:=XS a b FD x9;refine cm Tryz.f156 fun c ay bK=> ?_;refine bN ?_;refine aZ I I I he (bN ?_);exact bd ay I I
theorem aef (a b:List (List dI))(FD:a.length≤9223372036854775807)(x9:b.length≤9223372036854775807)(Kh: ∀r∈a,r.length≤9223372036854775807)(Ki: ∀r∈b,r.length≤9223372036854775807):bD Tryz.prog 80 [.ro (nx a) 0 a.length,.ro (nx b) 0 b.length] (.bool (decide (a=b))):=by have he:=XQ a b FD x9 Kh Ki 156 (fun x ar y aY=>aee x y (Kh x ar) (Ki y aY));refine cm Tryz.f80 fun c ay bK=> ?_;refine bN ?_;refine aZ I I I he (bN ?_);exact bd ay I I
def y2 (x:Int×Int):List al:=[.int .i64 x.1,.int .i64 x.2]
abbrev j6 (l:im):Cells:=fl (0,0) 2 y2 l
def ns:Option Rat→List al
 |some q=>cb q
 |none=>[.bool false,.nil,.nil]
abbrev jR (l:List (Option Rat)):Cells:=fl none 3 ns l
theorem aky (n:Nat):cC (nZ n [.bool false,.nil,.nil]) (jR (List.replicate n none)):=by
 refine ⟨by simp [fl,Cells.len,nZ],I,fun i j aa ae=> ?_⟩;have aa:i<n:=by simpa [Cells.len,nZ] using aa
 show (ns ((List.replicate n (none:Option Rat)).getD i none)).getD j .any=_;rw [e9 none (by simpa using aa),Ca];rfl
theorem Hz {α:Type}(d:α)(n:Nat)(e:α→List al)(zs:List α)(k:Nat)(a:α)(ao:k<zs.length)(aI a7:Nat)(aP:aI<zs.length)(bf:a7<n):(fl d n e (zs.set k a)).at aI a7=if aI=k then (e a).getD a7 .any else (fl d n e zs).at aI a7:=by
 show (e ((zs.set k a).getD aI d)).getD a7 .any=if aI=k then (e a).getD a7 .any else (e (zs.getD aI d)).getD a7 .any
 rw [Go.ai.dL.fG];by_cases h:aI=k
 ·rw [aG h,aG ⟨h,ao⟩]
 ·rw [az h,az (fun q=>h q.1)]
theorem RB (l:im):eV (j6 l):=by
 intro i j _ ae;have ae:j<2:=ae
 match j,ae with
 |0,_=>rfl
 |1,_=>rfl
def vc (o:Option (List Rat)):al:=match o with
 |none=> .nil
 |some l=> .ro (aQ l) 0 l.length
structure IA (t:aT)(o:hC):Prop where
 WX: ∀i,i<t.length→(t.getD i aK).kind=1→o i=some ((t.getD i aK).eH.map b4)
 ends: ∀i,i<t.length→(t.getD i aK).kind=0→o i=none
 some: ∀i,i<t.length→ ∀l,o i=some l→(t.getD i aK).next.length≤l.length∧0<l.length∧l.length≤1000000∧ ∀q∈l,fu 100000 q
 reach: ∀j,j<t.length→fu 100000 ((eK t o).getD j 0)
theorem agR {t:aT}(ah:Valid t){i:Nat}(aa:i<t.length)(ao:(t.getD i aK).kind=1):sS (t.getD i aK).eH=0:=by
 have h:=ah.nodes i aa;unfold lG at h;rw [az J,aG ao] at h;split at h
 ·cases h
 split at h
 ·rename_i U;exact absurd h U
 split at h
 ·cases h
 exact h
theorem aip {t:aT}(ah:Valid t){i:Nat}(aa:i<t.length):(t.getD i aK).kind=0∨(t.getD i aK).kind=1∨(t.getD i aK).kind=2:=by
 rcases ah.child aa with h|h
 ·exact .inl h.1
 ·exact .inr h.1
theorem akx (l:List Rat):cC (jR (l.map some)) (aQ l):=by
 refine ⟨by simp [fl,Cells.len],I,fun i j aa ae=> ?_⟩;have aa:i<l.length:=by simpa [fl,Cells.len] using aa
 show (cb (l.getD i 0)).getD j .any=(ns ((l.map some).getD i none)).getD j .any;rw [qA some l 0 none i aa];rfl
theorem T2 (l:List (Option Rat))(n:Nat):fy n (jR l):=by
 intro i j _ ae;show hc n ((ns (l.getD i none)).getD j .any)=true;have ae:j<3:=ae;cases l.getD i none with
 |none=>match j,ae with
  |0,_=>rfl
  |1,_=>rfl
  |2,_=>rfl
 |some q=>match j,ae with
  |0,_=>rfl
  |1,_=>rfl
  |2,_=>rfl
theorem adM (t:aT)(o:hC)(g:FuncId)(cB:List al)(Zd:cV.eR cB=true)(Pa:nr 1 cB=true)(cc:kY t)(ah:Valid t)(dB:IA t o)(cX: ∀i,i<t.length→(t.getD i aK).kind=2→bD Tryz.prog g ([.agg (hI (t.getD i aK))]++cB) (vc (o i))):
 bD Tryz.prog 168 [.ro (bS t) 0 t.length,.fn g cB] (.ro (aQ (eK t o)) 0 t.length):=by
 have hlen:=cc.len;have Ja:=ah.le;have b2:=ah.ne;have jI:(List.replicate t.length (none:Option Rat)).length=t.length:=fw;refine cg.rn (hq (P:=Tryz.prog) (fn:=Tryz.f168) I I af I (fun c ay bK=> ?_)) (fix:=fun _=>False) (fun _ h=>h) (by simp [cV.eR,cV,Zd]) I;refine bz ?_;refine l6 I I I I I I I I (by show (0:Int)≤_∧_≤_∧(56:Int)*_≤_∧_;omega) (bN ?_);refine aZ I I I uc ?_;unfold cj;refine fm [some ⟨118,jR (List.replicate t.length none)⟩] (aM.eqv (aky _) aM.nil) ?_;have mZ:0<(jR (List.replicate t.length none)).len:=by show 0<(List.replicate t.length (none:Option Rat)).length;omega
 repeat (refine an (gk rfl rfl rfl rfl rfl hH J) ?_)
 refine er (c':=jR ((List.replicate t.length none).set 0 (some 1))) I I I I I mZ (by show (List.set _ 0 _).length=(List.replicate _ _).length;simp) I (fun aI a7 aP bf=>Hz none 3 ns _ 0 (some 1) mZ aI a7 aP bf) (bz ?_);refine cJ (ι:=Nat) (fun i=>[(0,.ro (bS t) 0 t.length),(1,.fn g cB),(5,.aA 0 0 t.length),(17,.ro (bS t) 0 t.length),(18,ag t.length),(19,ag i)]) (fun i=>[some ⟨118,jR (o5 t o i)⟩])
  (fun i=>i≤t.length) (fun i=>t.length-i) 0 ⟨aH,rfl,cf _⟩ ?_
 intro i aa;refine bl ?_;refine bB I (fun h=> ?_) (fun h=> ?_)
 ·have aP:i<t.length:=J;have kH:=cc.node _ (mz aK aP);have pA:=ah.behind aP;have xW:=AV t o i;have hk:=Me ah o i aa i aP (ah.known aP);have u1:=dB.reach i aP;have ZK:=aip ah aP;have JB:=fun ao=>agR ah aP ao;have Zy:=dB.WX i aP;have oL:=dB.ends i aP;have zZ:=dB.some i aP;have Zz:=cX i aP;have jH:o5 t o (i+1)=dF (l5 (o i) ((o5 t o i).getD i none)) (t.getD i aK).next 0 (o5 t o i):=rfl
  generalize Fg:o5 t o (i+1)=EG at*;generalize o5 t o i=W at*;generalize yd:o i=wG at*;generalize (eK t o).getD i 0=fb at*;rw [hk] at jH;obtain ⟨s1,s2,tx,Gt⟩:=kH;refine bm ?_;refine bP 23 (.agg (hI (t.getD i aK))) I (aV.of_eq I) ?_;generalize aF:t.getD i aK=n at*;obtain ⟨bU,pl,bH,ba,ct,cw⟩:=n;simp only at*;refine dP (c':= .box (ec bU pl bH ba ct cw)) I I I I I I I ?_;refine c7 [some ⟨118,jR (W)⟩,some ⟨57,.box (ec bU pl bH ba ct cw)⟩] I ?_;refine bP 7 (.ptr 1 0 0) I (aV.of_eq I) ?_;apply j4 (H:=[some ⟨118,jR (W)⟩,some ⟨57,.box (ec bU pl bH ba ct cw)⟩]) [(0,.ro (bS t) 0 t.length),(1,.fn g cB),(5,.aA 0 0 t.length),(6,ag i),(7,.ptr 1 0 0),(8,vc wG),(17,.ro (bS t) 0 t.length),(18,ag t.length),(19,ag i),(37,.ro (.ints .i64 ba) 0 ba.length),(38,ag ba.length),(39,.int .i64 0)]
  ·intro fin;refine bt ?_;rcases ZK with ao|ao|ao
   ·have:=oL ao;subst this;subst ao;refine bt ?_;exact fin _ aH
   ·have U:=Zy ao;have ab:=JB ao;subst ao;subst U;obtain ⟨v1,v2,_,_⟩:=Td ab;have cin:=abd ct J (fun r ad=>⟨tx r ad,v2 r ad⟩);refine bt ?_;refine aZ I I I cin (bt ?_);exact fin _ aH
   ·have U:=Zz ao;subst ao;refine bm ?_;refine bP 34 (.agg (hI ⟨2,pl,bH,ba,ct,cw⟩)) I (aV.of_eq I) ?_;refine aZ I I I U (bt ?_);exact fin _ aH
  cases wG with
  |none=>
   refine cJ (ι:=Nat) (fun j=>[(0,.ro (bS t) 0 t.length),(1,.fn g cB),(5,.aA 0 0 t.length),(6,ag i),(7,.ptr 1 0 0),(8,.nil),(17,.ro (bS t) 0 t.length),(18,ag t.length),(19,ag i),(37,.ro (.ints .i64 ba) 0 ba.length),(38,ag ba.length),(39,ag j)]) (fun j=>[some ⟨118,jR (dF (l5 none (some fb)) (ba.take j) 0 W)⟩,some ⟨57,.box (ec bU pl bH ba ct cw)⟩])
    (fun j=>j≤ba.length) (fun j=>ba.length-j) 0 ⟨aH,rfl,cf _⟩ ?_
   intro j ae;refine bl ?_;refine bB I (fun bF=> ?_) (fun bF=> ?_)
   ·have bf:j<ba.length:=J;obtain ⟨dX,eu⟩:=pA _ (dx 0 bf);have ia:(dF (l5 none (some fb)) (ba.take j) 0 W).length=t.length:=by rw [vz];exact xW
    have qc:(dF (l5 none (some fb)) (ba.take j) 0 W).getD i none=some fb:=(vq _ none _ _ _ (fun c av=>by have:=pA c (oB av);omega)).trans hk;have dH:dF (l5 none (some fb)) (ba.take (j+1)) 0 W=(dF (l5 none (some fb)) (ba.take j) 0 W).set (ba.getD j 0).toNat (l5 none (some fb) j):=by rw [yJ bf,yF,ff,hF ae,c1]
    generalize lR:dF (l5 none (some fb)) (ba.take (j+1)) 0 W=xp at*;generalize dF (l5 none (some fb)) (ba.take j) 0 W=A at*;obtain ⟨x,ar⟩:=oo (show 0≤ba.getD j 0 by omega);have sv:(ba.getD j 0).toNat=x:=by rw [ar,cA]
    rw [ar] at dX eu;rw [sv] at dH;have mY:x<A.length:=J;have sf:i<(jR A).len:=by show i<A.length;omega
    have E7:x<(jR A).len:=mY;have zN:(A.set x (some fb)).getD i none=some fb:=by rw [Go.ai.dL.fG,az J];exact qc
    have OD:i<(jR (A.set x (some fb))).len:=by show i<(A.set x (some fb)).length;rw [dj];omega
    have zL:x<(jR (A.set x (some fb))).len:=by show x<(A.set x (some fb)).length;rw [dj];omega
    refine Db ?_;refine c0 I ?_;refine kv ?_;refine eA 10 (ag x) I (aV.of_eq (by rw [ar])) (bm ?_);refine bP 49 (.agg (cb fb)) I (aV.of_eq (show al.agg [(ns (A.getD i none)).getD 0 .any,(ns (A.getD i none)).getD 1 .any,(ns (A.getD i none)).getD 2 .any]=_ by rw [qc];rfl)) ?_;refine er (c':=jR (A.set x (some fb))) I I I I I mY (by show (A.set x (some fb)).length=A.length;simp) I (fun aI a7 aP bf=>Hz none 3 ns A x (some fb) mY aI a7 aP bf) (bN ?_);refine an (ahi I I I) (bt ?_);exact ca ⟨j+1,J,J,aH,by rw [lR,dH];rfl⟩
   ·have gI:j=ba.length:=J;subst gI;rw [gb,←jH];refine fX ?_;refine b0 ?_;refine fC [some ⟨118,jR (EG)⟩] [some ⟨57,.box (ec bU pl bH ba ct cw)⟩] [(0,.ro (bS t) 0 t.length),(1,.fn g cB),(5,.aA 0 0 t.length),(17,.ro (bS t) 0 t.length),(18,ag t.length),(19,ag i)] I aH ic (rE (T2 _ _)) (by show (true && (nr 1 cB && _))=true;rw [Pa];rfl) (bz ?_);exact ca ⟨i+1,J,J,aH,by rw [Fg]⟩
  |some l=>
   obtain ⟨gh,fB,As,At⟩:=zZ l rfl;refine cJ (ι:=Nat) (fun j=>[(0,.ro (bS t) 0 t.length),(1,.fn g cB),(5,.aA 0 0 t.length),(6,ag i),(7,.ptr 1 0 0),(8,.ro (aQ l) 0 l.length),(17,.ro (bS t) 0 t.length),(18,ag t.length),(19,ag i),(37,.ro (.ints .i64 ba) 0 ba.length),(38,ag ba.length),(39,ag j)]) (fun j=>[some ⟨118,jR (dF (l5 (some l) (some fb)) (ba.take j) 0 W)⟩,some ⟨57,.box (ec bU pl bH ba ct cw)⟩])
    (fun j=>j≤ba.length) (fun j=>ba.length-j) 0 ⟨aH,rfl,cf _⟩ ?_
   intro j ae;refine bl ?_;refine bB I (fun bF=> ?_) (fun bF=> ?_)
   ·have bf:j<ba.length:=J;obtain ⟨dX,eu⟩:=pA _ (dx 0 bf);have ia:(dF (l5 (some l) (some fb)) (ba.take j) 0 W).length=t.length:=by rw [vz];exact xW
    have qc:(dF (l5 (some l) (some fb)) (ba.take j) 0 W).getD i none=some fb:=(vq _ none _ _ _ (fun c av=>by have:=pA c (oB av);omega)).trans hk;have dH:dF (l5 (some l) (some fb)) (ba.take (j+1)) 0 W=(dF (l5 (some l) (some fb)) (ba.take j) 0 W).set (ba.getD j 0).toNat (l5 (some l) (some fb) j):=by rw [yJ bf,yF,ff,hF ae,c1]
    generalize lR:dF (l5 (some l) (some fb)) (ba.take (j+1)) 0 W=xp at*;generalize dF (l5 (some l) (some fb)) (ba.take j) 0 W=A at*;obtain ⟨x,ar⟩:=oo (show 0≤ba.getD j 0 by omega);have sv:(ba.getD j 0).toNat=x:=by rw [ar,cA]
    rw [ar] at dX eu;rw [sv] at dH;have mY:x<A.length:=J;have sf:i<(jR A).len:=by show i<A.length;omega
    have E7:x<(jR A).len:=mY;have zN:(A.set x (some fb)).getD i none=some fb:=by rw [Go.ai.dL.fG,az J];exact qc
    have OD:i<(jR (A.set x (some fb))).len:=by show i<(A.set x (some fb)).length;rw [dj];omega
    have zL:x<(jR (A.set x (some fb))).len:=by show x<(A.set x (some fb)).length;rw [dj];omega
    refine Db ?_;refine c0 I ?_;refine kv ?_;refine eA 10 (ag x) I (aV.of_eq (by rw [ar])) (bm ?_);refine bP 49 (.agg (cb fb)) I (aV.of_eq (show al.agg [(ns (A.getD i none)).getD 0 .any,(ns (A.getD i none)).getD 1 .any,(ns (A.getD i none)).getD 2 .any]=_ by rw [qc];rfl)) ?_;refine er (c':=jR (A.set x (some fb))) I I I I I mY (by show (A.set x (some fb)).length=A.length;simp) I (fun aI a7 aP bf=>Hz none 3 ns A x (some fb) mY aI a7 aP bf) (bN ?_);refine an (adr I I I fB) (bt ?_);have x7:j<l.length:=J;have W9:bD Tryz.prog 99 [.agg [(ns ((A.set x (some fb)).getD i none)).getD 0 .any,(ns ((A.set x (some fb)).getD i none)).getD 1 .any,(ns ((A.set x (some fb)).getD i none)).getD 2 .any],cj (l.getD j 0)] (cj (fb*l.getD j 0)):=by rw [zN];exact H4 fb (l.getD j 0) u1 (At _ (dx 0 x7))
    refine eN af ?_;refine fe (fuel:=1) [0,1,2,3,4,5,6,7,8,9,10,11] [(0,.ro (bS t) 0 t.length),(1,.fn g cB),(5,.aA 0 0 t.length),(6,ag i),(7,.ptr 1 0 0),(8,.ro (aQ l) 0 l.length),(17,.ro (bS t) 0 t.length),(18,ag t.length),(19,ag i),(37,.ro (.ints .i64 ba) 0 ba.length),(38,ag ba.length),(39,ag j),(9,ag j),(10,ag x)] aH af a6 I I ?_;refine dd ?_;refine en I I I I I W9 ?_;refine dd ?_;refine fc ?_;refine bx 12 ?_;skip
    unfold cj;refine er (c':=jR ((A.set x (some fb)).set x (some (fb*l.getD j 0)))) I I I I I zL (by show (List.set _ x _).length=(A.set x (some fb)).length;simp) I (fun aI a7 aP bf=>Hz none 3 ns (A.set x (some fb)) x (some (fb*l.getD j 0)) zL aI a7 aP bf) (bI ?_);refine eM af (bt ?_);exact ca ⟨j+1,J,J,aH,by rw [lR,dH];exact congrArg (fun z=>[some (bk.mk 118 (jR z)),some (bk.mk 57 (.box (ec bU pl bH ba ct cw)))]) (vV ..)⟩
   ·have gI:j=ba.length:=J;subst gI;rw [gb,←jH];refine fX ?_;refine b0 ?_;refine fC [some ⟨118,jR (EG)⟩] [some ⟨57,.box (ec bU pl bH ba ct cw)⟩] [(0,.ro (bS t) 0 t.length),(1,.fn g cB),(5,.aA 0 0 t.length),(17,.ro (bS t) 0 t.length),(18,ag t.length),(19,ag i)] I aH ic (rE (T2 _ _)) (by show (true && (nr 1 cB && _))=true;rw [Pa];rfl) (bz ?_);exact ca ⟨i+1,J,J,aH,by rw [Fg]⟩
 ·have df:i=t.length:=J;subst df;rw [aiA ah];refine kv ?_;refine nn [some ⟨118,aQ (eK t o)⟩] (aM.eqv (akx _) aM.nil) ?_;refine mx 0 5 t.length [] I (n1 _) I (by show t.length≤(eK t o).length;rw [show (eK t o).length=t.length from DC t o _];exact bR _) trivial (bN ?_);exact bd ay I I
theorem XR (a b:im)(hlen:a.length≤9223372036854775807)(x9:b.length≤9223372036854775807):bD Tryz.prog 58 [.ro (j6 a) 0 a.length,.ro (j6 b) 0 b.length] (.bool (decide (a=b))):=by
 refine cm Tryz.f58 fun c ay bK=> ?_;refine bz ?_;refine bB I (fun h=> ?_) (fun h=> ?_)
 ·refine dw ?_;refine bd ay I ?_;have: ¬a=b:=by rintro rfl;exact h rfl
  simp [gK,this]
 have mT:a.length=b.length:=J;refine bz ?_;refine cJ (ι:=Nat) (fun k=>[(0,.ro (j6 a) 0 a.length),(1,.ro (j6 b) 0 b.length),(12,ag a.length),(13,ag k)]) (fun _=>[])
  (fun k=>k≤a.length∧a.take k=b.take k) (fun k=>a.length-k) 0 ⟨aH,rfl,cf _,rfl⟩ ?_
 intro k ⟨ao,heq⟩;refine bl ?_;refine bB I (fun ab=> ?_) (fun ab=> ?_)
 ·have b5:k<a.length:=J;have ZO:k<b.length:=J;have a1:=qq a (0,0) k b5;have ak:=qq b (0,0) k ZO;refine bI ?_;refine eN af ?_;refine fe (fuel:=0) [0,1,2,3,4,5,6,7,8] [(0,.ro (j6 a) 0 a.length),(1,.ro (j6 b) 0 b.length),(5,ag k),(12,ag a.length),(13,ag k)] aH af a6 I I ?_;refine cy I I (bL I) ?_;refine cy I I (bL I) ?_;refine cy I I (j3 I I I I (by first|(simp only [c1,cA,gn];exact I)|exact I) J) ?_;refine cy I I (wP I I I I I I) ?_;refine cy I I (bL I) ?_;refine cy I I (bL I) ?_;refine cy I I (j3 I I I I (by first|(simp only [c1,cA,gn];exact I)|exact I) J) ?_;refine cy I I (wP I I I I I I) ?_;refine cy I I (adn (L:=y2 (a.getD k (0,0))) (M:=y2 (b.getD k (0,0))) (b:=decide ((a.getD k (0,0)).1=(b.getD k (0,0)).1) && (decide ((a.getD k (0,0)).2=(b.getD k (0,0)).2) && true)) I I I I af af I) ?_;refine fc ?_;refine eM af ?_;repeat (refine b0 ?_)
  by_cases aw:a.getD k (0,0)=b.getD k (0,0)
  ·rw [aw,fv rfl,fv rfl];refine bt ?_;exact ca ⟨k+1,⟨J,by rw [a1,ak,heq,aw]⟩,J,aH,I⟩
  ·have bg:(decide ((a.getD k (0,0)).1=(b.getD k (0,0)).1) && (decide ((a.getD k (0,0)).2=(b.getD k (0,0)).2) && true))=false:=by rw [Bool.and_true,←pn,ei,eX,eX];rintro ⟨aD,aE⟩;exact aw (Prod.ext aD aE)
   rw [bg];refine bm ?_;refine bd ay I ?_;have: ¬a=b:=by rintro rfl;exact aw rfl
   simp [gK,this]
 ·have b5:k=a.length:=J;subst b5;rw [gb,mT,gb] at heq;refine bt ?_;refine bd ay I ?_;simp [gK,heq]
theorem T5 {α:Type}(d:α)(n:Nat)(e:α→List al)(a b:List α):cC (.fn (a.length+b.length) n (fun i j=>bif Nat.blt i a.length then (fl d n e a).at i j else (fl d n e b).at (0+(i-a.length)) j)) (fl d n e (a++b)):=by
 refine ⟨by simp [fl,Cells.len],I,fun i j aa ae=> ?_⟩;show (e ((a++b).getD i d)).getD j .any=bif Nat.blt i a.length then (e (a.getD i d)).getD j .any else (e (b.getD (0+(i-a.length)) d)).getD j .any;by_cases h:i<a.length
 ·rw [show Nat.blt i a.length=true from p5 h,tU d h];rfl
 ·have ab:Nat.blt i a.length=false:=by
   cases e:Nat.blt i a.length with
   |false=>rfl
   |true=>(have:i+1≤a.length:=ir e;omega)
  rw [ab,c1];have:(a++b).getD i d=b.getD (i-a.length) d:=by simp only [List.getD];rw [jA J]
  rw [this];rfl
theorem BB (l:im)(au:l.length≤1000000):za Tryz.prog 205 [.ro (j6 l) 0 l.length] (fun N=> .aA N 0 l.length) ⟨94,j6 l⟩:=by
 refine cg.fresh (K:=fun r H=>r= .aA 0 0 l.length∧H=[some ⟨94,j6 l⟩]) (hq (P:=Tryz.prog) (fn:=Tryz.f205) I I af I (fun c ay bK=> ?_)) (fix:=fun _=>False) (fun _ h=>h) I (fun H=>⟨I,by simp [oe,na]⟩) ?_
 ·refine bN ?_;refine Mv I I I (fun b ak=> ?_);refine bN ?_;refine tT I (fun h=> ?_) (fun h=> ?_)
  ·have:=ak h;have aF:l=[]:=uC.mp this;subst aF;refine cM ?_;refine kM 2 ⟨94,j6 []⟩ I I (dw ?_);exact bd ay I ⟨I,I⟩
  ·refine bI ?_;refine tF I I I I I I I I I I ?_;refine fm [some ⟨94,j6 []⟩] (aM.eqv ⟨I,I,fun i j aa=>absurd aa (gy _)⟩ aM.nil) ?_;repeat (refine an (bL rfl) ?_)
   refine dt I I I I I I I I I I I I (by show 0+l.length≤l.length;omega) I (by show (0+l.length)*16≤_∧_;omega) ?_ c4 ?_
   ·intro aI a7 aP bf;have q:=(T5 (0,0) 2 y2 [] l).2.2 aI a7 aP bf;refine (congrArg (al.forget 0) q.symm).trans (r5 ?_ q)
    match a7,bf with
    |0,_=>rfl
    |1,_=>rfl
   refine fm [some ⟨94,j6 l⟩] (aM.eqv (T5 (0,0) 2 y2 [] l) aM.nil) (bN ?_);refine bd ay I ⟨?_,I⟩;show al.aA 0 0 (0+l.length)=_;rw [c1]
 ·rintro r H ⟨rfl,rfl⟩;refine ⟨?_,fun h o aj=>vH (RB _) h o aj,0,I,fun n=>rfl⟩;intro o aj;simp at aj;subst aj;show 0+l.length≤l.length;omega
def y8 (w:im):List al:=[.ro (j6 w) 0 w.length]
abbrev ju (W:List im):Cells:=fl [] 1 y8 W
theorem Ts {α:Type}(d:α)(e:α→List al)(l:List α)(x:Nat)(a:α)(v:al)(ar:x<l.length)(ah:v=(e a).getD 0 .any):cC (.fn l.length 1 (fun aI a7=>bif Nat.beq aI x && Nat.beq a7 0 then v else (e (l.getD aI d)).getD a7 .any)) (fl d 1 e (l.set x a)):=by
 refine ⟨by simp [fl,Cells.len],I,fun i j aa ae=> ?_⟩;obtain rfl:=e5.1 (show j<1 from ae);show (e ((l.set x a).getD i d)).getD 0 .any=bif Nat.beq i x && Nat.beq 0 0 then v else (e (l.getD i d)).getD 0 .any;rw [Go.ai.dL.fG];by_cases h:i=x
 ·subst h;rw [aG ⟨rfl,ar⟩,ah,show Nat.beq i i=true from ou i];rfl
 ·rw [az (fun q=>h q.1),db h];rfl
theorem UD {α:Type}{v:Nat→α}{P:α→Prop}: ∀(l:List Int) (k:Nat) (a:List α),(∀x∈a,P x)→(∀j,k≤j→j<k+l.length→P (v j))→ ∀x∈dF v l k a,P x
 |[],_,a,h,_=>h
 |c::r,k,a,h,ah=>by
  rw [dF];refine UD r (k+1) _ (fun x ar=> ?_) (fun j U ab=>ah j J (by simp;omega));rcases xE ar with q|q
  ·exact h x q
  ·rw [q];exact ah k (bR _) bZ
theorem MK {α:Type}{P:α→Prop}{l:List α}{d:α}(h: ∀x∈l,P x)(hd:P d)(i:Nat):P (l.getD i d):=by
 rcases ga i l.length with q|q
 ·exact h _ (dx d q)
 ·have:l.getD i d=d:=by simp [List.getD,q]
  rw [this];exact hd
theorem afY (p:Int)(n:cW)(w:im)(k:Nat):(pe p n w k).length≤w.length+1:=by
 unfold pe;split
 ·rw [c2];exact bR _
 ·omega
theorem M4 (t:aT)(p:Int): ∀i,∀w∈jg t p i,w.length≤i
 |0,w,hw=>by rw [(zq.1 hw).2];exact bR _
 |i+1,w,hw=>by have a8:=M4 t p i;rw [jg,Mg] at hw;refine UD (P:=fun w:im=>w.length≤i+1) _ _ _ (fun x ar=>Nat.le_succ_of_le (a8 x ar)) (fun j _ _=> ?_) w hw;have U:=afY p (t.getD i aK) ((jg t p i).getD i []) j;have ab:((jg t p i).getD i []).length≤i:=MK (P:=fun w:im=>w.length≤i) a8 (cf _) i;omega
theorem aiP {t:aT}(ah:Valid t)(p:Int): ∀w∈y6 t p,w.length≤120:=fun w hw=>dT (M4 t p t.length w hw) ah.le
theorem aha (W:List im):eV (ju W):=by
 intro i j _ ae;obtain rfl:j=0:=by have ae:j<1:=ae;omega
 rfl
theorem Si (W:List im)(n:Nat):fy n (ju W):=by
 intro i j _ ae;obtain rfl:j=0:=by have ae:j<1:=ae;omega
 rfl
theorem Em {n:Nat}{o1 o2:bk}(U:fy n o1.c)(ab:fy n o2.c): ∀(h:Nat) (o:bk),([some o1,some o2]:aX)[h]? =some (some o)→fy n o.c:=by
 intro h o aj
 match h,aj with
 |0,aj=>cases aj;exact U
 |1,aj=>cases aj;exact ab
 |_+2,aj=>simp at aj
theorem ahR (n:Nat)(bU pl bH:Int)(ba:List Int)(ct:List dI)(cw:dI):fy n (.box (ec bU pl bH ba ct cw)):=by
 intro i j _ ae;have ae:j<6:=ae
 match j,ae with
 |0,_=>rfl
 |1,_=>rfl
 |2,_=>rfl
 |3,_=>rfl
 |4,_=>rfl
 |5,_=>rfl
theorem ahM (W:List im)(h:Nat):cC ((ju W).forget h) (ju W):=by
 refine ⟨I,I,fun i j _ ae=> ?_⟩;have ae:j<1:=ae
 match j,ae with
 |0,_=>rfl
theorem afZ (t:aT)(p:Int)(cc:kY t)(ah:Valid t):bD Tryz.prog 166 [.ro (bS t) 0 t.length,.int .i64 p] (.ro (ju (y6 t p)) 0 t.length):=by
 have hlen:=cc.len;have Ja:=ah.le;refine cm Tryz.f166 fun c ay bK=> ?_;refine bz ?_;refine l6 I I I I I I I I (by show 0≤_∧_≤_∧(24:Int)*_≤_∧_;omega) ?_;refine wR [some ⟨24,ju (jg t p 0)⟩] I (fun h o' cU=> ?_) ?_
 ·match h,cU with
  |0,cU=>
   cases cU;refine ⟨_,I,I,?_,I,fun i j aa ae=> ?_⟩
   ·show (List.replicate t.length ([]:im)).length=((t.length:Nat):Int).toNat;rw [fw];omega
   ·obtain rfl:=e5.1 (show j<1 from ae);have e:(List.replicate t.length ([]:im)).getD i []=[]:=by simp only [List.getD,s4];split<;>rfl
    show aV .nil ((y8 ((List.replicate t.length ([]:im)).getD i [])).getD 0 .any);rw [e];exact aV.nil
  |_+1,cU=>simp at cU
 refine bz ?_;refine cJ (ι:=Nat) (fun i=>[(0,.ro (bS t) 0 t.length),(1,.int .i64 p),(5,.aA 0 0 t.length),(13,.ro (bS t) 0 t.length),(14,ag t.length),(15,ag i)]) (fun i=>[some ⟨24,ju (jg t p i)⟩])
  (fun i=>i≤t.length) (fun i=>t.length-i) 0 ⟨aH,rfl,cf _⟩ ?_
 intro i aa;refine bl ?_;refine bB I (fun h=> ?_) (fun h=> ?_)
 ·have aP:i<t.length:=J;have kH:=cc.node _ (mz aK aP);have pA:=ah.behind aP;have xW:=Ht t p i;have Jm:=M4 t p i;have jH:jg t p (i+1)=dF (pe p (t.getD i aK) ((jg t p i).getD i [])) (t.getD i aK).next 0 (jg t p i):=by rw [jg,Mg]
  generalize Fg:jg t p (i+1)=EG at*;generalize jg t p i=W at*;obtain ⟨s1,s2,tx,Gt⟩:=kH;refine bm ?_;refine bP 19 (.agg (hI (t.getD i aK))) I (aV.of_eq I) ?_;generalize aF:t.getD i aK=n at*;have ss:own p n=(decide (n.kind=2) && decide (n.eI=p)):=rfl;obtain ⟨bU,pl,bH,ba,ct,cw⟩:=n;simp only at*;refine dP (c':= .box (ec bU pl bH ba ct cw)) I I I I I I I ?_;refine c7 [some ⟨24,ju W⟩,some ⟨57,.box (ec bU pl bH ba ct cw)⟩] I ?_;generalize ah:pe p ⟨bU,pl,bH,ba,ct,cw⟩ (W.getD i [])=v at*;refine bt ?_;refine cJ (ι:=Nat) (fun j=>[(0,.ro (bS t) 0 t.length),(1,.int .i64 p),(5,.aA 0 0 t.length),(6,ag i),(7,.ptr 1 0 0),(13,.ro (bS t) 0 t.length),(14,ag t.length),(15,ag i),(21,.ro (.ints .i64 ba) 0 ba.length),(22,ag ba.length),(23,ag j)]) (fun j=>[some ⟨24,ju (dF v (ba.take j) 0 W)⟩,some ⟨57,.box (ec bU pl bH ba ct cw)⟩])
   (fun j=>j≤ba.length) (fun j=>ba.length-j) 0 ⟨aH,rfl,cf _⟩ ?_
  intro j ae;refine bl ?_;refine bB I (fun bF=> ?_) (fun bF=> ?_)
  ·have bf:j<ba.length:=J;obtain ⟨dX,eu⟩:=pA _ (dx 0 bf);have ia:(dF v (ba.take j) 0 W).length=t.length:=by rw [vz];exact xW
   have qc:(dF v (ba.take j) 0 W).getD i []=W.getD i []:=vq v [] _ _ _ (fun c av=>by have:=pA c (oB av);omega);have dH:dF v (ba.take (j+1)) 0 W=(dF v (ba.take j) 0 W).set (ba.getD j 0).toNat (v j):=by rw [yJ bf,yF,ff,hF ae,c1]
   have Kw:(W.getD i []).length≤i:=MK (P:=fun w:im=>w.length≤i) Jm (cf _) i;have u5:v j=pe p ⟨bU,pl,bH,ba,ct,cw⟩ (W.getD i []) j:=by rw [ah]
   unfold pe at u5;rw [ss] at u5;simp only at u5;generalize lR:dF v (ba.take (j+1)) 0 W=xp at*;generalize dF v (ba.take j) 0 W=A at*;generalize W.getD i []=dA at*;obtain ⟨x,ar⟩:=oo (show 0≤ba.getD j 0 by omega);rw [ar] at dX eu dH;rw [cA] at dH;have mY:x<A.length:=J;have sf:i<(ju A).len:=by show i<A.length;omega
   have E7:x<(ju A).len:=mY;have zN:(A.set x dA).getD i []=dA:=by rw [Go.ai.dL.fG,az J];exact qc
   have akJ:(A.set x dA).length=t.length:=by rw [dj];exact ia
   have OD:i<(ju (A.set x dA)).len:=by show i<(A.set x dA).length;omega
   have zL:x<(ju (A.set x dA)).len:=by show x<(A.set x dA).length;omega
   have Am:dA.length≤1000000:=J;refine K2 ?_;refine bP 33 (.ro (j6 dA) 0 dA.length) I (aV.of_eq (by rw [←qc];rfl)) ?_;refine bP 29 (ag x) I (aV.of_eq (by rw [ar])) ?_;refine bP 9 (ag x) I (aV.of_eq (by rw [ar])) ?_;have sv:(ba.getD j 0).toNat=x:=by rw [ar,cA]
   refine fm [some ⟨24,ju (A.set x dA)⟩,some ⟨57,.box (ec bU pl bH ba ct cw)⟩] (by rw [←sv];exact aM.eqv (Ts [] y8 A (ba.getD j 0).toNat dA _ J (by rw [←qc])) (aM.refl _)) ?_;refine gS I I (fun g1=> ?_) (fun g1=> ?_)
   ·refine bt ?_;refine bB I (fun g2=> ?_) (fun g2=> ?_)
    ·rw [fv g1,fv g2,lO,aG rfl] at u5;skip
     refine eN af ?_;apply tH (H:=[some ⟨24,ju (A.set x dA)⟩,some ⟨57,.box (ec bU pl bH ba ct cw)⟩,some ⟨94,j6 dA⟩]) [(0,.ro (bS t) 0 t.length),(1,.int .i64 p),(5,.aA 0 0 t.length),(6,ag i),(7,.ptr 1 0 0),(13,.ro (bS t) 0 t.length),(14,ag t.length),(15,ag i),(21,.ro (.ints .i64 ba) 0 ba.length),(22,ag ba.length),(23,ag j),(44,.aA 0 0 t.length),(45,ag x),(50,.aA 2 0 dA.length),(55,.ro (ft 1 2 [.int .i64 bH,ag j]) 0 1)]
     ·intro gO;refine bJ 0 I af af af I (bL I) I ?_;refine bJ 1 I af af af I (bL I) I ?_;refine bJ 2 I af af af I (bL I) I ?_;refine bJ 3 I af af af I (bL I) I ?_;refine bJ 7 I af af af I (dh I I I I I I) I ?_;refine bJ 9 I af af af I (bL I) I ?_;refine bJ 4 I af af af I (gk I I I I I (by first|(simp only [c1,cA,gn];exact I)|exact I) J) I ?_;refine ed 5 8 ?_ ?_
      ·refine fX ?_;refine vm 49 (.ro (j6 dA) 0 dA.length) I (aV.of_eq (show (y8 ((A.set x dA).getD i [])).getD 0 .any= .ro (j6 dA) 0 dA.length by rw [zN];rfl)) ?_;refine ed 6 8 ?_ ?_
       ·refine nk I I I (BB dA Am) (bI ?_);refine bx 8 ?_;refine bl ?_;refine bJ 10 I af af af I (iD I I I I I I) I ?_;refine bx 11 ?_;refine bz ?_;exact gO _ aH
       ·refine bl ?_;refine bJ 10 I af af af I (iD I I I I I I) I ?_;refine ed 6 11 ?_ ?_
        ·refine nk I I I (BB dA Am) (bI ?_);refine bx 11 ?_;refine bz ?_;exact gO _ aH
        ·refine bz ?_;refine bx 6 ?_;refine nk I I I (BB dA Am) (bI ?_);exact gO _ aH
      ·refine bl ?_;refine bJ 10 I af af af I (iD I I I I I I) I ?_;refine ed 5 11 ?_ ?_
       ·refine fX ?_;refine vm 49 (.ro (j6 dA) 0 dA.length) I (aV.of_eq (show (y8 ((A.set x dA).getD i [])).getD 0 .any= .ro (j6 dA) 0 dA.length by rw [zN];rfl)) ?_;refine ed 6 11 ?_ ?_
        ·refine nk I I I (BB dA Am) (bI ?_);refine bx 11 ?_;refine bz ?_;exact gO _ aH
        ·refine bz ?_;refine bx 6 ?_;refine nk I I I (BB dA Am) (bI ?_);exact gO _ aH
       ·refine bz ?_;refine bx 5 ?_;refine fX ?_;refine vm 49 (.ro (j6 dA) 0 dA.length) I (aV.of_eq (show (y8 ((A.set x dA).getD i [])).getD 0 .any= .ro (j6 dA) 0 dA.length by rw [zN];rfl)) ?_;refine bx 6 ?_;refine nk I I I (BB dA Am) (bI ?_);exact gO _ aH
     ·refine bx 12 ?_;refine dt I I I I I I I I I I I I dW I (by show (dA.length+1)*16≤_∧_;omega) ?_ c4 ?_
      ·intro aI a7 aP bf;have q:=(hB (0,0) 2 y2 dA (bH,(j:Int)) (ft 1 2 [.int .i64 bH,ag j]) (fun j ae=>by
        match j,ae with
        |0,_=>rfl
        |1,_=>rfl)).2.2 aI a7 aP bf
       refine (congrArg (al.forget 2) q.symm).trans (r5 ?_ q)
       match a7,bf with
       |0,_=>rfl
       |1,_=>rfl
      refine fm [some ⟨24,ju (A.set x dA)⟩,some ⟨57,.box (ec bU pl bH ba ct cw)⟩,some ⟨94,j6 (dA++[(bH,(j:Int))])⟩] ?_ ?_
      ·exact aM.eqv (ahM (A.set x dA) 2) (aM.eqv (cC.refl _) (aM.eqv (hB (0,0) 2 y2 dA (bH,(j:Int)) (ft 1 2 [.int .i64 bH,ag j]) (fun j ae=>by
        match j,ae with
        |0,_=>rfl
        |1,_=>rfl)) aM.nil))
      refine rC 2 56 (dA.length+1) [(0,.ro (bS t) 0 t.length),(1,.int .i64 p),(5,.aA 0 0 t.length),(6,ag i),(7,.ptr 1 0 0),(13,.ro (bS t) 0 t.length),(14,ag t.length),(15,ag i),(21,.ro (.ints .i64 ba) 0 ba.length),(22,ag ba.length),(23,ag j),(44,.aA 0 0 t.length),(45,ag x)] I (RB _) I (by show dA.length+1≤(dA++[(bH,(j:Int))]).length;rw [c2];exact bR _) aH ?_;refine c7 [some ⟨24,ju (A.set x dA)⟩,some ⟨57,.box (ec bU pl bH ba ct cw)⟩,none] I ?_;have Pt:(dA++[(bH,(j:Int))]).length=dA.length+1:=by rw [c2];rfl
      refine bP 56 (.ro (j6 (dA++[(bH,(j:Int))])) 0 (dA++[(bH,(j:Int))]).length) I (aV.of_eq (by rw [Pt])) ?_;generalize dA++[(bH,(j:Int))]=lB at*;refine bI ?_;refine bJ 13 I af af af I (gk I I I I I (by first|(simp only [c1,cA,gn];exact I)|exact I) J) I ?_;refine bx 14 ?_;refine kN I I I I I I I zL ?_;refine fm [some ⟨24,ju ((A.set x dA).set x lB)⟩,some ⟨57,.box (ec bU pl bH ba ct cw)⟩,none] (aM.eqv (Ts [] y8 (A.set x dA) x lB _ zL I) (aM.refl _)) (bI ?_);refine eM af ?_;repeat (refine ld ?_)
      refine b0 ?_;refine fC [some ⟨24,ju ((A.set x dA).set x lB)⟩,some ⟨57,.box (ec bU pl bH ba ct cw)⟩] [none] [(0,.ro (bS t) 0 t.length),(1,.int .i64 p),(5,.aA 0 0 t.length),(6,ag i),(7,.ptr 1 0 0),(13,.ro (bS t) 0 t.length),(14,ag t.length),(15,ag i),(21,.ro (.ints .i64 ba) 0 ba.length),(22,ag ba.length),(23,ag j)] I aH ic (Em (Si _ _) (ahR _ _ _ _ _ _ _)) I (bz ?_);exact ca ⟨j+1,J,J,aH,by rw [lR,dH,u5,vV]⟩
    ·rw [fv g1,fq g2,az a6] at u5;refine bt ?_;exact ca ⟨j+1,J,J,aH,by rw [lR,dH,u5]⟩
   ·rw [fq g1,pq,az a6] at u5;refine bm ?_;exact ca ⟨j+1,J,J,aH,by rw [lR,dH,u5]⟩
  ·have gI:j=ba.length:=J;subst gI;rw [gb,←jH];refine fX ?_;refine b0 ?_;refine fC [some ⟨24,ju EG⟩] [some ⟨57,.box (ec bU pl bH ba ct cw)⟩] [(0,.ro (bS t) 0 t.length),(1,.int .i64 p),(5,.aA 0 0 t.length),(13,.ro (bS t) 0 t.length),(14,ag t.length),(15,ag i)] I aH ic (rE (Si _ _)) I (bz ?_);exact ca ⟨i+1,J,J,aH,by rw [Fg]⟩
 ·have df:i=t.length:=J;subst df;refine kv ?_;refine mx 0 5 t.length [] I (aha _) I (by show t.length≤(jg t p t.length).length;rw [Ht];exact bR _) trivial (bN ?_);exact bd ay I I
abbrev lh (F:List (Int×Nat)):Cells:= .mp (F.map (fun x=> .int .i64 x.1)) (F.map (fun x=>ag x.2))
theorem sR (F:List (Int×Nat)): ∀x∈F.map (fun x:Int×Nat=>al.int .i64 x.1),nu (.int .i64) x=true:=by intro x ar;obtain ⟨e,_,rfl⟩:=da.1 ar;rfl
theorem wY {m:List (Int×Nat)}{k:Int}{s:Nat}(h:gE m k=some s): ∃j:Nat,(m.map (fun x:Int×Nat=>al.int .i64 x.1))[j]? =some (.int .i64 k)∧(m.map (fun x:Int×Nat=>al.int .i64 (x.2:Nat)))[j]? =some (ag s):=by obtain ⟨j,ae⟩:=List.getElem?_of_mem (yI h);exact ⟨j,by rw [me,ae];rfl,by rw [me,ae];rfl⟩
theorem A4 {m:List (Int×Nat)}{k:Int}(h:gE m k=none):al.int .i64 k∉m.map (fun x:Int×Nat=>al.int .i64 x.1):=by intro hm;obtain ⟨x,ar,e⟩:=da.1 hm;have:=G9 h;injection e with aD aE;exact this (da.2 ⟨x,ar,aE⟩)
theorem AZ (F:List (Int×Nat))(n:Nat):fy n (lh F):=⟨Dx (fun _=>rfl) F,Dx (fun _=>rfl) F⟩
theorem Nx {p:Int}{bU pl bH:Int}{ba:List Int}{ct:List dI}{cw:dI}:own p ⟨bU,pl,bH,ba,ct,cw⟩=(decide (bU=2) && decide (pl=p)):=rfl
theorem SH (t:aT)(p:Int)(cc:kY t)(ah:Valid t):bD Tryz.prog 89 [.ro (bS t) 0 t.length,.int .i64 p] (.bool (nt t p)):=by
 have hlen:=cc.len;have Ja:=ah.le;have uL:=afZ t p cc ah;have xW:(y6 t p).length=t.length:=Ht t p t.length;have Jm:=aiP ah p;have ZY: ∀n i,i≤n→kJ t p (y6 t p) i=false→kJ t p (y6 t p) n=false:=by
  intro n;induction n with
  |zero=>intro i aa h;(obtain rfl:i=0:=by omega);exact h
  |succ n a8=>
   intro i aa h;by_cases e:i=n+1
   ·subst e;exact h
   ·rw [kJ,a8 i J h];rfl
 refine cm Tryz.f89 fun c ay bK=> ?_;have ay:c.R=fun dk _=>dk= .bool (kJ t p (y6 t p) t.length):=ay;generalize y6 t p=W at*;refine bN ?_;refine aZ I I I uL (bN ?_);refine G6 (bz ?_);refine cJ (ι:=Nat) (fun i=>[(0,.ro (bS t) 0 t.length),(1,.int .i64 p),(5,.ro (ju W) 0 t.length),(6,.mp 0),(15,.ro (bS t) 0 t.length),(16,ag t.length),(17,ag i)]) (fun i=>[some ⟨185,lh (iM t p i)⟩])
  (fun i=>i≤t.length∧kJ t p W i=true) (fun i=>t.length-i) 0 ⟨aH,rfl,cf _,rfl⟩ ?_
 rintro i ⟨aa,pz⟩;refine bl ?_;refine bB I (fun h=> ?_) (fun h=> ?_)
 ·have aP:i<t.length:=J;have pC:iM t p (i+1)=if own p (t.getD i aK)=true∧gE (iM t p i) (t.getD i aK).info=none then iM t p i++[((t.getD i aK).info,i)] else iM t p i:=rfl
  have mo:kJ t p W (i+1)=(kJ t p W i && (if own p (t.getD i aK)=true then (match gE (iM t p i) (t.getD i aK).info with|none=>true|some k=>decide (W.getD i []=W.getD k [])) else true)):=rfl;have Zq: ∀x∈iM t p i,x.2<i:=fun x ar=>(LA ar).1;have eO:=ZY t.length (i+1) J;rw [pz,lO] at mo;generalize Cr:iM t p (i+1)=nz at*;generalize iM t p i=F at*;generalize Fe:kJ t p W (i+1)=akz at*;refine bm ?_;refine bP 21 (.agg (hI (t.getD i aK))) I (aV.of_eq I) ?_;generalize t.getD i aK=n at*;obtain ⟨bU,pl,bH,ba,ct,cw⟩:=n;simp only at*;refine dP (c':= .box (ec bU pl bH ba ct cw)) I I I I I I I ?_;refine c7 [some ⟨185,lh F⟩,some ⟨57,.box (ec bU pl bH ba ct cw)⟩] I (bt ?_);refine gS I I (fun g1=> ?_) (fun g1=> ?_)
  ·rw [Nx,fq g1,pq] at pC mo;rw [az (by rintro ⟨q,_⟩;cases q)] at pC;rw [az a6] at mo;repeat (first|refine cK ?_|refine sG rfl rfl rfl ?_|refine an (lF rfl rfl) ?_)
   refine b0 ?_;repeat (first|refine qs rfl ?_|refine qB ?_|refine qu ?_|refine qt ?_)
   refine b0 ?_;refine fC [some ⟨185,lh (F)⟩] [some ⟨57,.box (ec bU pl bH ba ct cw)⟩] [(0,.ro (bS t) 0 t.length),(1,.int .i64 p),(5,.ro (ju W) 0 t.length),(6,.mp 0),(15,.ro (bS t) 0 t.length),(16,ag t.length),(17,ag i)] I aH ic (rE (AZ _ _)) I (bz ?_);exact ca ⟨i+1,⟨J,by rw [Fe,mo]⟩,J,aH,by rw [Cr,pC]⟩
  have g1:=jV.1 g1;refine bt ?_;refine bB I (fun g2=> ?_) (fun g2=> ?_)
  ·rw [Nx,fv g1,fq g2,lO] at pC mo;rw [az (by rintro ⟨q,_⟩;cases q)] at pC;rw [az a6] at mo;refine fX ?_;refine b0 ?_;refine fC [some ⟨185,lh (F)⟩] [some ⟨57,.box (ec bU pl bH ba ct cw)⟩] [(0,.ro (bS t) 0 t.length),(1,.int .i64 p),(5,.ro (ju W) 0 t.length),(6,.mp 0),(15,.ro (bS t) 0 t.length),(16,ag t.length),(17,ag i)] I aH ic (rE (AZ _ _)) I (bz ?_);exact ca ⟨i+1,⟨J,by rw [Fe,mo]⟩,J,aH,by rw [Cr,pC]⟩
  have g2:=jV.1 g2;rw [Nx,fv g1,fv g2,lO] at pC mo;rw [aG rfl] at mo;refine bt ?_;cases cv:gE F bH with
  |none=>
   rw [cv,aG ⟨rfl,rfl⟩] at pC;rw [cv] at mo;simp only at mo;refine an (GK I (.int I) I I I I I I I I (sR F) (A4 cv)) (bt ?_);refine GG I (.int I) I I I I I (sR F) (A4 cv) ?_;refine c7 [some ⟨185,lh (F++[(bH,i)])⟩,some ⟨57,.box (ec bU pl bH ba ct cw)⟩] (by unfold lh;rw [hS,hS];rfl) ?_;repeat (refine cK ?_)
   refine b0 ?_;refine fC [some ⟨185,lh (F++[(bH,i)])⟩] [some ⟨57,.box (ec bU pl bH ba ct cw)⟩] [(0,.ro (bS t) 0 t.length),(1,.int .i64 p),(5,.ro (ju W) 0 t.length),(6,.mp 0),(15,.ro (bS t) 0 t.length),(16,ag t.length),(17,ag i)] I aH ic (rE (AZ _ _)) I (bt ?_);exact ca ⟨i+1,⟨J,by rw [Fe,mo]⟩,J,aH,by rw [Cr,pC]⟩
  |some nT=>
   rw [cv,az (by rintro ⟨_,q⟩;cases q)] at pC;rw [cv] at mo;simp only at mo;obtain ⟨wD,i1,i2⟩:=wY cv;have nM:=Zq _ (yI cv);simp only at nM;have alx:nT<t.length:=J;have Kw: ∀z,(W.getD z []).length≤9223372036854775807:=fun z=>MK (P:=fun w:im=>w.length≤9223372036854775807) (fun w hw=>dT (Jm w hw) a6) (cf _) z;have WW:=XR (W.getD i []) (W.getD nT []) (Kw i) (Kw nT);refine an (AQ I (.int I) I I I I (sR F) wD i1 i2) (bt ?_);refine eN af ?_;refine fe (fuel:=0) [0,1,2,3,4,5,6,7,8,9] [(0,.ro (bS t) 0 t.length),(1,.int .i64 p),(5,.ro (ju W) 0 t.length),(6,.mp 0),(15,.ro (bS t) 0 t.length),(16,ag t.length),(17,ag i),(7,ag i),(8,.ptr 1 0 0),(9,ag nT)] aH af a6 I I ?_;refine dd ?_;refine en I I I I I WW ?_;refine dd ?_;refine fc ?_;refine eM af ?_;repeat (refine b0 ?_)
   by_cases he:W.getD i []=W.getD nT []
   ·rw [fv he] at mo⊢;refine fX ?_;refine b0 ?_;refine fC [some ⟨185,lh (F)⟩] [some ⟨57,.box (ec bU pl bH ba ct cw)⟩] [(0,.ro (bS t) 0 t.length),(1,.int .i64 p),(5,.ro (ju W) 0 t.length),(6,.mp 0),(15,.ro (bS t) 0 t.length),(16,ag t.length),(17,ag i)] I aH ic (rE (AZ _ _)) I (bz ?_);exact ca ⟨i+1,⟨J,by rw [Fe,mo]⟩,J,aH,by rw [Cr,pC]⟩
   ·rw [fq he] at mo⊢;rw [eO mo] at ay;refine bm ?_;exact bd ay I I
 ·have df:i=t.length:=J;subst df;rw [pz] at ay;refine bt ?_;exact bd ay I I
def vF (s:fa):List al:=[.int .i64 s.info,.int .i64 s.choice,.int .i64 s.before]
abbrev gV (l:List fa):Cells:=fl c3 3 vF l
theorem agN (s:fa)(j h:Nat)(ae:j<3):((vF s).getD j .any).forget h=(vF s).getD j .any:=by
 match j,ae with
 |0,_=>rfl
 |1,_=>rfl
 |2,_=>rfl
theorem agO (s:fa)(j:Nat):cV ((vF s).getD j .any)=true:=by
 match j with
 |0=>rfl
 |1=>rfl
 |2=>rfl
 |_+3=>rfl
theorem agY (l:List fa):eV (gV l):=by intro i j _ ae;exact agO _ j
theorem QT (s:fa)(j:Nat)(ae:j<3):(ft 1 3 [.int .i64 s.info,.int .i64 s.choice,.int .i64 s.before]).at 0 j=(vF s).getD j .any:=by
 match j,ae with
 |0,_=>rfl
 |1,_=>rfl
 |2,_=>rfl
abbrev kr (n N:Nat):Cells:= .box [.aA 0 0 n,.aA 1 0 N]
abbrev kS (N:Nat)(f:lM)(L:aX):aX:=some ⟨178,gV f.cx⟩::some ⟨3,.ints .i64 f.pos⟩::some ⟨147,kr f.cx.length N⟩::some ⟨185,lh f.first⟩::L
theorem V8 (p:Int)(n:cW)(i:Nat)(f:lM):f.cx.length≤(fL p n i f).cx.length:=by
 unfold fL;split
 ·show _≤(_++_:List fa).length;rw [c2];omega
 ·exact bR _
theorem Tv (t:aT)(p:Int)(i:Nat): ∀e,(dE t p i).cx.length≤(dE t p (i+e)).cx.length
 |0=>bR _
 |e+1=>by rw [←kC,dE,qN];exact dT (Tv t p i e) (V8 _ _ _ _)
theorem Uk {t:aT}(ah:Valid t)(p:Int){i:Nat}(aa:i≤t.length):(dE t p i).cx.length≤61:=by have U:=Tv t p i (t.length-i);rw [show i+(t.length-i)=t.length by omega] at U;exact dT U (D7 ah p)
theorem ahS (l:List fa)(n:Nat):fy n (gV l):=by
 intro i j _ ae;have ae:j<3:=ae
 match j,ae with
 |0,_=>rfl
 |1,_=>rfl
 |2,_=>rfl
theorem LM (N:Nat)(f:lM): ∀(h:Nat) (o:bk),(kS N f [])[h]? =some (some o)→fy 4 o.c:=by
 intro h o aj
 match h,aj with
 |0,aj=>cases aj;exact ahS _ _
 |1,aj=>cases aj;exact yH _ _ _
 |2,aj=>
  cases aj;intro i j _ ae;have ae:j<2:=ae
  match j,ae with
  |0,_=>rfl
  |1,_=>rfl
 |3,aj=>cases aj;exact AZ _ _
 |_+4,aj=>simp at aj
theorem We {p:Int}{n:cW}{i:Nat}{f:lM}(U:own p n=true)(ab:gE f.first n.info=none):fL p n i f=⟨f.cx++pQ n (f.pos.getD i 0),f.pos,f.first++[(n.info,f.cx.length)]⟩:=by unfold fL;rw [aG ⟨U,ab⟩]
theorem Wa {p:Int}{n:cW}{i:Nat}{f:lM}{s:Nat}(ab:gE f.first n.info=some s):fL p n i f=f:=by unfold fL;rw [az (by rintro ⟨_,q⟩;rw [ab] at q;cases q)]
theorem add_not {p:Int}{n:cW}{i:Nat}{f:lM}(U:own p n=false):fL p n i f=f:=by unfold fL;rw [az (by rintro ⟨q,_⟩;rw [U] at q;cases q)]
theorem LB {α:Type}{h:Nat}{f:α→al}(aN: ∀x,(f x).forget h=f x): ∀l:List α,al.jD h (l.map f)=l.map f
 |[]=>rfl
 |a::r=>by show (f a).forget h::al.jD h (r.map f)=f a::r.map f;rw [aN a,LB aN r]
theorem LH (F:List (Int×Nat))(h:Nat):cC ((lh F).forget h) (lh F):=by
 have e:(lh F).forget h=lh F:=by show Cells.mp (al.jD h _) (al.jD h _)=_;rw [LB (fun _=>rfl),LB (fun _=>rfl)]
 rw [e];exact cC.refl _
def qQ (n:cW)(b:Int)(k:Nat):List fa:=(List.range k).map (fun k:Nat=>⟨n.info,(k:Int),b⟩)
theorem ajM (n:cW)(b:Int)(k:Nat):qQ n b (k+1)=qQ n b k++[⟨n.info,(k:Int),b⟩]:=by unfold qQ;rw [r2,hS];rfl
theorem X2 (N:Nat)(f:lM)(bH:Int)(n:cW)(b:Int)(L:aX):kS N ⟨f.cx++qQ n b 0,f.pos,f.first++[(bH,f.cx.length)]⟩ L=some ⟨178,gV f.cx⟩::some ⟨3,.ints .i64 f.pos⟩::some ⟨147,kr f.cx.length N⟩::some ⟨185,.mp (f.first.map (fun x=> .int .i64 x.1)++[.int .i64 bH]) (f.first.map (fun x=>ag x.2)++[ag f.cx.length])⟩::L:=by have e:f.cx++qQ n b 0=f.cx:=kB _;simp only [kS,e,lh,hS,nE,v8]
theorem acg (n:cW)(b:Int)(k:Nat):(qQ n b k).length=k:=by simp [qQ]
theorem acu (t:aT)(p:Int)(cc:kY t)(ah:Valid t):cg Tryz.prog 91 [.ro (bS t) 0 t.length,.int .i64 p] [] (fun _=>False) (fun r bE=>r= .ptr 2 0 0∧bE=kS t.length (dE t p t.length) []):=by
 have hlen:=cc.len;have Ja:=ah.le;have OL:=ah.ne;refine hq (P:=Tryz.prog) (fn:=Tryz.f91) I I af I (fun c ay bK=> ?_);refine rl ?_;refine tF I I I I I I I I I I (bz ?_);refine l6 I I I I I I I I (by show 0≤_∧_≤_∧(8:Int)*_≤_∧_;omega) (tu ?_);refine G6 ?_;refine fm (kS t.length (dE t p 0) []) ?_ ?_
 ·refine aM.eqv ⟨I,I,fun i j aa ae=> ?_⟩ (aM.eqv (cC.refl _) (aM.eqv (cC.refl _) (aM.eqv (cC.refl _) aM.nil)));have ae:j<3:=ae;obtain rfl:=e5.1 (show i<1 from aa)
  match j,ae with
  |0,_=>rfl
  |1,_=>rfl
  |2,_=>rfl
 refine bz ?_;refine cJ (ι:=Nat) (fun i=>[(0,.ro (bS t) 0 t.length),(1,.int .i64 p),(5,.ptr 2 0 0),(6,.mp 3),(23,.ro (bS t) 0 t.length),(24,ag t.length),(25,ag i)]) (fun i=>kS t.length (dE t p i) [])
  (fun i=>i≤t.length) (fun i=>t.length-i) 0 ⟨aH,rfl,cf _⟩ ?_
 intro i aa;refine bl ?_;refine bB I (fun h=> ?_) (fun h=> ?_)
 ·have aP:i<t.length:=J;have kH:=cc.node _ (mz aK aP);have pA:=ah.behind aP;have alM:=ah.Ou aP;have Jh:=hP.mg ah p i aa;obtain ⟨_,_,_,_,_,_,_,EH,_,IK⟩:=hP.add ah Jh aP Jh Jh.j1.1;have ha:=Uk ah p aa;have zY:=Uk ah p (show i+1≤t.length by omega);have Zs:=Bg t p i;have jH:dE t p (i+1)=⟨(fL p (t.getD i aK) i (dE t p i)).cx,dF (pV p (t.getD i aK) i (fL p (t.getD i aK) i (dE t p i))) (t.getD i aK).next 0 (fL p (t.getD i aK) i (dE t p i)).pos,(fL p (t.getD i aK) i (dE t p i)).first⟩:=by rw [dE,qN,Mf]
  have wg:(fL p (t.getD i aK) i (dE t p i)).pos.length=t.length:=by rw [RY];exact Zs
  rw [jH] at zY;simp only at zY;obtain ⟨s1,s2,tx,Gt⟩:=kH;refine bm ?_;refine bP 29 (.agg (hI (t.getD i aK))) I (aV.of_eq I) ?_;generalize t.getD i aK=n at*;generalize dE t p i=f at*;obtain ⟨bU,pl,bH,ba,ct,cw⟩:=n;simp only at*;refine dP (c':= .box (ec bU pl bH ba ct cw)) I I I I I I I ?_;refine c7 (kS t.length f [some ⟨57,.box (ec bU pl bH ba ct cw)⟩]) I ?_;refine bP 8 (.ptr 4 0 0) I (aV.of_eq I) ?_;have ss:own p ⟨bU,pl,bH,ba,ct,cw⟩=(decide (bU=2) && decide (pl=p)):=rfl;generalize oN:pV p ⟨bU,pl,bH,ba,ct,cw⟩ i (fL p ⟨bU,pl,bH,ba,ct,cw⟩ i f)=v at*;have hU: ∀k,v k=if own p ⟨bU,pl,bH,ba,ct,cw⟩=true then (((gE (fL p ⟨bU,pl,bH,ba,ct,cw⟩ i f).first bH).getD 0:Nat):Int)+(k:Int) else (fL p ⟨bU,pl,bH,ba,ct,cw⟩ i f).pos.getD i 0:=fun k=>by rw [←oN];rfl
  have YW:= @We p ⟨bU,pl,bH,ba,ct,cw⟩ i f;have YR:= @Wa p ⟨bU,pl,bH,ba,ct,cw⟩ i f;have YQ:= @add_not p ⟨bU,pl,bH,ba,ct,cw⟩ i f;generalize ak:own p ⟨bU,pl,bH,ba,ct,cw⟩=b at*;apply j4 (H:=kS t.length f [some ⟨57,.box (ec bU pl bH ba ct cw)⟩]) [(0,.ro (bS t) 0 t.length),(1,.int .i64 p),(5,.ptr 2 0 0),(6,.mp 3),(7,ag i),(8,.ptr 4 0 0),(9,.bool b),(23,.ro (bS t) 0 t.length),(24,ag t.length),(25,ag i)]
  ·intro fin;refine bt ?_;refine gS I I (fun g1=> ?_) (fun g1=> ?_)
   ·repeat (first|refine an (bL rfl) ?_|refine an (dr rfl) ?_|refine cK ?_|refine lf rfl rfl ?_|refine an (jl rfl rfl rfl rfl rfl) ?_|refine an (ob rfl rfl) ?_|refine an (lF rfl rfl) ?_|refine an (dh rfl rfl rfl rfl rfl rfl) ?_)
    refine b0 ?_;refine eA 9 (.bool b) I (aV.of_eq (by rw [ss,fv g1,lO])) ?_;exact fin _ aH
   ·repeat (first|refine an (dr rfl) ?_|refine cK ?_|refine sG rfl rfl rfl ?_|refine an (lF rfl rfl) ?_)
    refine b0 ?_;refine eA 9 (.bool b) I (aV.of_eq (by rw [ss,fq g1,pq])) ?_;exact fin _ aH
  cases b
  ·have cX:=YQ rfl;generalize fL p ⟨bU,pl,bH,ba,ct,cw⟩ i f=g at*;subst cX;simp only [q0,gW] at hU;refine bt ?_;refine cJ (ι:=Nat) (fun k=>[(0,.ro (bS t) 0 t.length),(1,.int .i64 p),(5,.ptr 2 0 0),(6,.mp 3),(7,ag i),(8,.ptr 4 0 0),(9,.bool false),(23,.ro (bS t) 0 t.length),(24,ag t.length),(25,ag i),(85,.ro (.ints .i64 ba) 0 ba.length),(86,ag ba.length),(87,ag k)]) (fun k=>kS t.length ⟨g.cx,dF v (ba.take k) 0 g.pos,g.first⟩ [some ⟨57,.box (ec bU pl bH ba ct cw)⟩])
    (fun k=>k≤ba.length) (fun k=>ba.length-k) 0 ⟨aH,rfl,cf _⟩ ?_
   intro k ao;refine bl ?_;refine bB I (fun bF=> ?_) (fun bF=> ?_)
   ·have b5:k<ba.length:=J;obtain ⟨dX,eu⟩:=pA _ (dx 0 b5);have ia:(dF v (ba.take k) 0 g.pos).length=t.length:=by rw [vz];exact wg
    have qc:(dF v (ba.take k) 0 g.pos).getD i 0=g.pos.getD i 0:=vq v 0 _ _ _ (fun c av=>by have:=pA c (oB av);omega);have dH:dF v (ba.take (k+1)) 0 g.pos=(dF v (ba.take k) 0 g.pos).set (ba.getD k 0).toNat (v k):=by rw [yJ b5,yF,ff,hF ao,c1]
    have CW:=hU k;generalize lR:dF v (ba.take (k+1)) 0 g.pos=xp at*;generalize dF v (ba.take k) 0 g.pos=A at*;obtain ⟨x,ar⟩:=oo (show 0≤ba.getD k 0 by omega);have sv:(ba.getD k 0).toNat=x:=by rw [ar,cA]
    rw [ar] at dX eu;rw [sv] at dH;have mY:x<A.length:=J;have lV:i<A.length:=J;have PW:x<(A.set x (A.getD i 0)).length:=by rw [dj];exact mY
    refine bm ?_;refine eA 14 (ag x) I (aV.of_eq (by rw [ar])) ?_;refine eN af ?_;refine fe (fuel:=1) [0,1,2,3,4,5,6,7,8,9,10,11,12] [(0,.ro (bS t) 0 t.length),(1,.int .i64 p),(5,.ptr 2 0 0),(6,.mp 3),(7,ag i),(8,.ptr 4 0 0),(9,.bool false),(23,.ro (bS t) 0 t.length),(24,ag t.length),(25,ag i),(85,.ro (.ints .i64 ba) 0 ba.length),(86,ag ba.length),(87,ag k),(13,ag k),(14,ag x)] aH af a6 I I ?_;refine dd ?_;refine fc ?_;refine bx 13 ?_;refine cM ?_;refine eM af (bt ?_);exact ca ⟨k+1,J,J,aH,by rw [lR,dH,CW,←qc];rfl⟩
   ·have k4:k=ba.length:=J;subst k4;rw [gb];refine fX ?_;refine b0 ?_;refine fC (kS t.length ⟨g.cx,dF v ba 0 g.pos,g.first⟩ []) [some ⟨57,.box (ec bU pl bH ba ct cw)⟩] [(0,.ro (bS t) 0 t.length),(1,.int .i64 p),(5,.ptr 2 0 0),(6,.mp 3),(23,.ro (bS t) 0 t.length),(24,ag t.length),(25,ag i)] I aH ic (LM _ _) I (bz ?_);exact ca ⟨i+1,J,J,aH,by rw [jH]⟩
  ·obtain ⟨s,ax⟩:=IK rfl;obtain ⟨wD,i1,i2⟩:=wY ax;have kk:=(EH _ (yI ax)).2.1;simp only at kk;simp only [fS] at hU;rw [ax] at hU;simp only [oy] at hU;refine bt ?_;cases cv:gE f.first bH with
   |some j1=>
    have cX:=YR cv;refine an (AQ I (.int I) I I I I (sR f.first) (wY cv).choose (wY cv).choose_spec.1 (wY cv).choose_spec.2) ?_;generalize fL p ⟨bU,pl,bH,ba,ct,cw⟩ i f=g at*;subst cX;obtain ⟨wD,i1,i2⟩:=wY ax;refine bt ?_;refine cJ (ι:=Nat) (fun k=>[(0,.ro (bS t) 0 t.length),(1,.int .i64 p),(5,.ptr 2 0 0),(6,.mp 3),(7,ag i),(8,.ptr 4 0 0),(9,.bool true),(23,.ro (bS t) 0 t.length),(24,ag t.length),(25,ag i),(85,.ro (.ints .i64 ba) 0 ba.length),(86,ag ba.length),(87,ag k)]) (fun k=>kS t.length ⟨g.cx,dF v (ba.take k) 0 g.pos,g.first⟩ [some ⟨57,.box (ec bU pl bH ba ct cw)⟩])
     (fun k=>k≤ba.length) (fun k=>ba.length-k) 0 ⟨aH,rfl,cf _⟩ ?_
    intro k ao;refine bl ?_;refine bB I (fun bF=> ?_) (fun bF=> ?_)
    ·have b5:k<ba.length:=J;obtain ⟨dX,eu⟩:=pA _ (dx 0 b5);have ia:(dF v (ba.take k) 0 g.pos).length=t.length:=by rw [vz];exact wg
     have qc:(dF v (ba.take k) 0 g.pos).getD i 0=g.pos.getD i 0:=vq v 0 _ _ _ (fun c av=>by have:=pA c (oB av);omega);have dH:dF v (ba.take (k+1)) 0 g.pos=(dF v (ba.take k) 0 g.pos).set (ba.getD k 0).toNat (v k):=by rw [yJ b5,yF,ff,hF ao,c1]
     have CW:=hU k;generalize lR:dF v (ba.take (k+1)) 0 g.pos=xp at*;generalize dF v (ba.take k) 0 g.pos=A at*;obtain ⟨x,ar⟩:=oo (show 0≤ba.getD k 0 by omega);have sv:(ba.getD k 0).toNat=x:=by rw [ar,cA]
     rw [ar] at dX eu;rw [sv] at dH;have mY:x<A.length:=J;have lV:i<A.length:=J;have PW:x<(A.set x (A.getD i 0)).length:=by rw [dj];exact mY
     refine bm ?_;refine eA 14 (ag x) I (aV.of_eq (by rw [ar])) ?_;refine eN af ?_;refine fe (fuel:=1) [0,1,2,3,4,5,6,7,8,9,10,11,12] [(0,.ro (bS t) 0 t.length),(1,.int .i64 p),(5,.ptr 2 0 0),(6,.mp 3),(7,ag i),(8,.ptr 4 0 0),(9,.bool true),(23,.ro (bS t) 0 t.length),(24,ag t.length),(25,ag i),(85,.ro (.ints .i64 ba) 0 ba.length),(86,ag ba.length),(87,ag k),(13,ag k),(14,ag x)] aH af a6 I I ?_;refine dd ?_;refine fc ?_;refine bx 13 ?_;refine cM ?_;refine Lx (kS t.length ⟨g.cx,A.set x (A.getD i 0),g.first⟩ [some ⟨57,.box (ec bU pl bH ba ct cw)⟩]) (aM.refl _) ?_;refine eM af (bt ?_);refine eN af ?_;refine fe (fuel:=1) [0,1,2,3,4,5,6,7,8,9,10,11] [(0,.ro (bS t) 0 t.length),(1,.int .i64 p),(5,.ptr 2 0 0),(6,.mp 3),(7,ag i),(8,.ptr 4 0 0),(9,.bool true),(23,.ro (bS t) 0 t.length),(24,ag t.length),(25,ag i),(85,.ro (.ints .i64 ba) 0 ba.length),(86,ag ba.length),(87,ag k),(13,ag k),(14,ag x)] aH af a6 I I ?_;refine cy I I (bL I) ?_;refine cy I I (jQ I) ?_;refine cy I I (dh I I I I I I) ?_;refine cy I I (jl I I I I I) ?_;refine cy I I (bL I) ?_;refine cy I I (bL I) ?_;refine cy I I (dh I I I I I I) ?_;refine cy I I (jl I I I I I) ?_;refine cy I I (AQ I (.int I) I I I I (sR g.first) wD i1 i2) ?_;refine dd ?_;refine fc ?_;refine bx 12 ?_;refine cM ?_;refine eM af (bt ?_);exact ca ⟨k+1,J,J,aH,by rw [lR,dH,CW];exact congrArg (fun l=>kS t.length ⟨g.cx,l,g.first⟩ [some ⟨57,.box (ec bU pl bH ba ct cw)⟩]) (vV ..)⟩
    ·have k4:k=ba.length:=J;subst k4;rw [gb];refine fX ?_;refine b0 ?_;refine fC (kS t.length ⟨g.cx,dF v ba 0 g.pos,g.first⟩ []) [some ⟨57,.box (ec bU pl bH ba ct cw)⟩] [(0,.ro (bS t) 0 t.length),(1,.int .i64 p),(5,.ptr 2 0 0),(6,.mp 3),(23,.ro (bS t) 0 t.length),(24,ag t.length),(25,ag i)] I aH ic (LM _ _) I (bz ?_);exact ca ⟨i+1,J,J,aH,by rw [jH]⟩
   |none=>
    have cX:=YW rfl cv;refine an (GK I (.int I) I I I I I I I I (sR f.first) (A4 cv)) ?_;generalize fL p ⟨bU,pl,bH,ba,ct,cw⟩ i f=g at*;obtain ⟨wD,i1,i2⟩:=wY ax;simp only at cX;have zZ:g.cx.length=f.cx.length+ba.length:=by rw [cX];simp [pQ]
    have lV:i<f.pos.length:=J;refine bt ?_;refine eN af ?_;refine fe (fuel:=1) [0,1,2,3,4,5,6,7] [(0,.ro (bS t) 0 t.length),(1,.int .i64 p),(5,.ptr 2 0 0),(6,.mp 3),(7,ag i),(8,.ptr 4 0 0),(9,.bool true),(23,.ro (bS t) 0 t.length),(24,ag t.length),(25,ag i)] aH af a6 I I ?_;refine dd ?_;refine fc ?_;refine bx 8 ?_;refine GG I (.int I) I I I I I (sR f.first) (A4 cv) (bI ?_);refine eM af (bt ?_);refine cJ (ι:=Nat) (fun k=>[(0,.ro (bS t) 0 t.length),(1,.int .i64 p),(5,.ptr 2 0 0),(6,.mp 3),(7,ag i),(8,.ptr 4 0 0),(9,.bool true),(23,.ro (bS t) 0 t.length),(24,ag t.length),(25,ag i),(58,.ro (.ints .i64 ba) 0 ba.length),(59,ag ba.length),(60,ag k)]) (fun k=>kS t.length ⟨f.cx++qQ ⟨bU,pl,bH,ba,ct,cw⟩ (f.pos.getD i 0) k,f.pos,f.first++[(bH,f.cx.length)]⟩ [some ⟨57,.box (ec bU pl bH ba ct cw)⟩])
     (fun k=>k≤ba.length) (fun k=>ba.length-k) 0 ⟨aH,(X2 t.length f bH ⟨bU,pl,bH,ba,ct,cw⟩ (f.pos.getD i 0) [some ⟨57,.box (ec bU pl bH ba ct cw)⟩]).symm,cf _⟩ ?_
    intro k ao;refine bl ?_;refine bB I (fun bF=> ?_) (fun bF=> ?_)
    ·have b5:k<ba.length:=J;have mm:=ajM ⟨bU,pl,bH,ba,ct,cw⟩ (f.pos.getD i 0) k;have akY:(f.cx++qQ ⟨bU,pl,bH,ba,ct,cw⟩ (f.pos.getD i 0) k).length≤61:=by rw [c2,acg];omega
     have ml:f.cx++qQ ⟨bU,pl,bH,ba,ct,cw⟩ (f.pos.getD i 0) (k+1)=(f.cx++qQ ⟨bU,pl,bH,ba,ct,cw⟩ (f.pos.getD i 0) k)++[(⟨bH,(k:Int),f.pos.getD i 0⟩:fa)]:=by rw [mm,ll]
     generalize YE:f.cx++qQ ⟨bU,pl,bH,ba,ct,cw⟩ (f.pos.getD i 0) (k+1)=e4 at*;generalize f.cx++qQ ⟨bU,pl,bH,ba,ct,cw⟩ (f.pos.getD i 0) k=S at*;refine bI ?_;refine eN af ?_;apply tH (H:=kS t.length ⟨S,f.pos,f.first++[(bH,f.cx.length)]⟩ [some ⟨57,.box (ec bU pl bH ba ct cw)⟩]) [(0,.ro (bS t) 0 t.length),(1,.int .i64 p),(5,.ptr 2 0 0),(6,.mp 3),(7,ag i),(8,.ptr 4 0 0),(9,.bool true),(23,.ro (bS t) 0 t.length),(24,ag t.length),(25,ag i),(58,.ro (.ints .i64 ba) 0 ba.length),(59,ag ba.length),(60,ag k),(12,ag k),(63,.ptr 2 0 0),(67,.aA 0 0 S.length),(79,.ro (ft 1 3 [.int .i64 bH,ag k,.int .i64 (f.pos.getD i 0)]) 0 1)]
     ·intro gO;refine bJ 0 I af af af I (bL I) I ?_;refine bJ 1 I af af af I (bL I) I ?_;refine bJ 5 I af af af I (dh I I I I I I) I ?_;refine bJ 7 I af af af I (bL I) I ?_;refine bJ 8 I af af af I (bL I) I ?_;refine bJ 12 I af af af I (bL I) I ?_;refine bJ 2 I af af af I (jQ I) I ?_;refine bJ 9 I af af af I (jQ I) I ?_;refine bJ 3 I af af af I (dh I I I I I I) I ?_;refine bJ 10 I af af af I (dh I I I I I I) I ?_;refine vk (is:=[4,6,11]) af bZ I ⟨fun o aj=> ?_,fun o aj=> ?_,fun o aj=> ?_,trivial⟩;all_goals (cases aj)
      ·refine bl ?_;refine ed 6 11 ?_ ?_
       ·refine bl ?_;refine bx 11 ?_;refine bl ?_;refine bJ 13 I af af af I (gk I I I I I (by first|(simp only [c1,cA,gn];exact I)|exact I) J) I ?_;refine bx 14 ?_;refine cM ?_;refine bJ 15 I af af af I (iD I I I I I I) I ?_;refine bx 16 ?_;refine bz ?_;exact gO _ aH
       ·refine bl ?_;refine bJ 13 I af af af I (gk I I I I I (by first|(simp only [c1,cA,gn];exact I)|exact I) J) I ?_;refine ed 6 14 ?_ ?_
        ·refine bl ?_;refine bx 14 ?_;refine cM ?_;refine bJ 15 I af af af I (iD I I I I I I) I ?_;refine bx 16 ?_;refine bz ?_;exact gO _ aH
        ·refine cM ?_;refine bx 6 ?_;refine bl ?_;refine bJ 15 I af af af I (iD I I I I I I) I ?_;refine bx 16 ?_;refine bz ?_;exact gO _ aH
      ·refine bl ?_;refine ed 4 11 ?_ ?_
       ·refine bl ?_;refine bx 11 ?_;refine bl ?_;refine bJ 13 I af af af I (gk I I I I I (by first|(simp only [c1,cA,gn];exact I)|exact I) J) I ?_;refine bx 14 ?_;refine cM ?_;refine bJ 15 I af af af I (iD I I I I I I) I ?_;refine bx 16 ?_;refine bz ?_;exact gO _ aH
       ·refine bl ?_;refine bJ 13 I af af af I (gk I I I I I (by first|(simp only [c1,cA,gn];exact I)|exact I) J) I ?_;refine ed 4 14 ?_ ?_
        ·refine bl ?_;refine bx 14 ?_;refine cM ?_;refine bJ 15 I af af af I (iD I I I I I I) I ?_;refine bx 16 ?_;refine bz ?_;exact gO _ aH
        ·refine cM ?_;refine bJ 15 I af af af I (iD I I I I I I) I ?_;refine ed 4 16 ?_ ?_
         ·refine bl ?_;refine bx 16 ?_;refine bz ?_;exact gO _ aH
         ·refine bz ?_;refine bx 4 ?_;refine bl ?_;exact gO _ aH
      ·refine bl ?_;refine bJ 13 I af af af I (gk I I I I I (by first|(simp only [c1,cA,gn];exact I)|exact I) J) I ?_;refine vk (is:=[4,6,14]) af bZ I ⟨fun o aj=> ?_,fun o aj=> ?_,fun o aj=> ?_,trivial⟩;all_goals (cases aj)
       ·refine bl ?_;refine ed 6 14 ?_ ?_
        ·refine bl ?_;refine bx 14 ?_;refine cM ?_;refine bJ 15 I af af af I (iD I I I I I I) I ?_;refine bx 16 ?_;refine bz ?_;exact gO _ aH
        ·refine cM ?_;refine bx 6 ?_;refine bl ?_;refine bJ 15 I af af af I (iD I I I I I I) I ?_;refine bx 16 ?_;refine bz ?_;exact gO _ aH
       ·refine bl ?_;refine ed 4 14 ?_ ?_
        ·refine bl ?_;refine bx 14 ?_;refine cM ?_;refine bJ 15 I af af af I (iD I I I I I I) I ?_;refine bx 16 ?_;refine bz ?_;exact gO _ aH
        ·refine cM ?_;refine bJ 15 I af af af I (iD I I I I I I) I ?_;refine ed 4 16 ?_ ?_
         ·refine bl ?_;refine bx 16 ?_;refine bz ?_;exact gO _ aH
         ·refine bz ?_;refine bx 4 ?_;refine bl ?_;exact gO _ aH
       ·refine cM ?_;refine ed 4 6 ?_ ?_
        ·refine bl ?_;refine bx 6 ?_;refine bl ?_;refine bJ 15 I af af af I (iD I I I I I I) I ?_;refine bx 16 ?_;refine bz ?_;exact gO _ aH
        ·refine bl ?_;refine bJ 15 I af af af I (iD I I I I I I) I ?_;refine ed 4 16 ?_ ?_
         ·refine bl ?_;refine bx 16 ?_;refine bz ?_;exact gO _ aH
         ·refine bz ?_;refine bx 4 ?_;refine bl ?_;exact gO _ aH
     ·refine bx 17 ?_;refine dt I I I I I I I I I I I I dW I (by show (S.length+1)*24≤_∧_;omega) ?_ c4 ?_
      ·intro aI a7 aP bf;exact hZ c3 3 vF agN S ⟨bH,(k:Int),f.pos.getD i 0⟩ _ (QT ⟨bH,(k:Int),f.pos.getD i 0⟩) 0 aI a7 aP bf
      refine fm [some ⟨178,gV (S++[(⟨bH,(k:Int),f.pos.getD i 0⟩:fa)])⟩,some ⟨3,.ints .i64 f.pos⟩,some ⟨147,.box [.any,.aA 1 0 t.length]⟩,some ⟨185,lh (f.first++[(bH,f.cx.length)])⟩,some ⟨57,.box (ec bU pl bH ba ct cw)⟩] (aM.eqv (hB c3 3 vF S ⟨bH,(k:Int),f.pos.getD i 0⟩ _ (QT ⟨bH,(k:Int),f.pos.getD i 0⟩)) (aM.eqv (cC.refl _) (aM.eqv (cC.refl _) (aM.eqv (LH _ _) (aM.eqv (cC.refl _) aM.nil))))) (bI ?_);refine bJ 18 I af af af I (jQ I) I ?_;refine bJ 19 I af af af I (dh I I I I I I) I ?_;refine bx 20 ?_;refine rl ?_;refine Lx (kS t.length ⟨S++[(⟨bH,(k:Int),f.pos.getD i 0⟩:fa)],f.pos,f.first++[(bH,f.cx.length)]⟩ [some ⟨57,.box (ec bU pl bH ba ct cw)⟩]) (aM.eqv (cC.refl _) (aM.eqv (cC.refl _) (aM.eqv (by show cC (kr (S.length+1) t.length) (kr (S++[(⟨bH,(k:Int),f.pos.getD i 0⟩:fa)]).length t.length);rw [c2];exact cC.refl _) (aM.refl _)))) ?_;refine eM af (bt ?_);exact ca ⟨k+1,J,J,aH,by rw [YE,ml]⟩
    ·have k4:k=ba.length:=J;subst k4;refine bt ?_;refine ko (kS t.length g [some ⟨57,.box (ec bU pl bH ba ct cw)⟩]) (by rw [cX];rfl) ?_;refine cJ (ι:=Nat) (fun k=>[(0,.ro (bS t) 0 t.length),(1,.int .i64 p),(5,.ptr 2 0 0),(6,.mp 3),(7,ag i),(8,.ptr 4 0 0),(9,.bool true),(23,.ro (bS t) 0 t.length),(24,ag t.length),(25,ag i),(85,.ro (.ints .i64 ba) 0 ba.length),(86,ag ba.length),(87,ag k)]) (fun k=>kS t.length ⟨g.cx,dF v (ba.take k) 0 g.pos,g.first⟩ [some ⟨57,.box (ec bU pl bH ba ct cw)⟩])
      (fun k=>k≤ba.length) (fun k=>ba.length-k) 0 ⟨aH,rfl,cf _⟩ ?_
     intro k ao;refine bl ?_;refine bB I (fun bF=> ?_) (fun bF=> ?_)
     ·have b5:k<ba.length:=J;obtain ⟨dX,eu⟩:=pA _ (dx 0 b5);have ia:(dF v (ba.take k) 0 g.pos).length=t.length:=by rw [vz];exact wg
      have qc:(dF v (ba.take k) 0 g.pos).getD i 0=g.pos.getD i 0:=vq v 0 _ _ _ (fun c av=>by have:=pA c (oB av);omega);have dH:dF v (ba.take (k+1)) 0 g.pos=(dF v (ba.take k) 0 g.pos).set (ba.getD k 0).toNat (v k):=by rw [yJ b5,yF,ff,hF ao,c1]
      have CW:=hU k;generalize lR:dF v (ba.take (k+1)) 0 g.pos=xp at*;generalize dF v (ba.take k) 0 g.pos=A at*;obtain ⟨x,ar⟩:=oo (show 0≤ba.getD k 0 by omega);have sv:(ba.getD k 0).toNat=x:=by rw [ar,cA]
      rw [ar] at dX eu;rw [sv] at dH;have mY:x<A.length:=J;have lV:i<A.length:=J;have PW:x<(A.set x (A.getD i 0)).length:=by rw [dj];exact mY
      refine bm ?_;refine eA 14 (ag x) I (aV.of_eq (by rw [ar])) ?_;refine eN af ?_;refine fe (fuel:=1) [0,1,2,3,4,5,6,7,8,9,10,11,12] [(0,.ro (bS t) 0 t.length),(1,.int .i64 p),(5,.ptr 2 0 0),(6,.mp 3),(7,ag i),(8,.ptr 4 0 0),(9,.bool true),(23,.ro (bS t) 0 t.length),(24,ag t.length),(25,ag i),(85,.ro (.ints .i64 ba) 0 ba.length),(86,ag ba.length),(87,ag k),(13,ag k),(14,ag x)] aH af a6 I I ?_;refine dd ?_;refine fc ?_;refine bx 13 ?_;refine cM ?_;refine Lx (kS t.length ⟨g.cx,A.set x (A.getD i 0),g.first⟩ [some ⟨57,.box (ec bU pl bH ba ct cw)⟩]) (aM.refl _) ?_;refine eM af (bt ?_);refine eN af ?_;refine fe (fuel:=1) [0,1,2,3,4,5,6,7,8,9,10,11] [(0,.ro (bS t) 0 t.length),(1,.int .i64 p),(5,.ptr 2 0 0),(6,.mp 3),(7,ag i),(8,.ptr 4 0 0),(9,.bool true),(23,.ro (bS t) 0 t.length),(24,ag t.length),(25,ag i),(85,.ro (.ints .i64 ba) 0 ba.length),(86,ag ba.length),(87,ag k),(13,ag k),(14,ag x)] aH af a6 I I ?_;refine cy I I (bL I) ?_;refine cy I I (jQ I) ?_;refine cy I I (dh I I I I I I) ?_;refine cy I I (jl I I I I I) ?_;refine cy I I (bL I) ?_;refine cy I I (bL I) ?_;refine cy I I (dh I I I I I I) ?_;refine cy I I (jl I I I I I) ?_;refine cy I I (AQ I (.int I) I I I I (sR g.first) wD i1 i2) ?_;refine dd ?_;refine fc ?_;refine bx 12 ?_;refine cM ?_;refine eM af (bt ?_);exact ca ⟨k+1,J,J,aH,by rw [lR,dH,CW];exact congrArg (fun l=>kS t.length ⟨g.cx,l,g.first⟩ [some ⟨57,.box (ec bU pl bH ba ct cw)⟩]) (vV ..)⟩
     ·have k4:k=ba.length:=J;subst k4;rw [gb];refine fX ?_;refine b0 ?_;refine fC (kS t.length ⟨g.cx,dF v ba 0 g.pos,g.first⟩ []) [some ⟨57,.box (ec bU pl bH ba ct cw)⟩] [(0,.ro (bS t) 0 t.length),(1,.int .i64 p),(5,.ptr 2 0 0),(6,.mp 3),(23,.ro (bS t) 0 t.length),(24,ag t.length),(25,ag i)] I aH ic (LM _ _) I (bz ?_);exact ca ⟨i+1,J,J,aH,by rw [jH]⟩
 ·have df:i=t.length:=J;subst df;refine bt ?_;exact bd ay I ⟨I,I⟩
end Go.Proofs.YtmpnheilfejcpaaGreatDoor
namespace Go.Proofs.YtmpnheilfejcpaaGreatDoor
open Go.ai Go.ai.c8 Go.ai.cz Go.RowKit Go.ai.kz Go.ai.eD
def uJ (c:qX):List al:=[.int .i64 c.info,.ro (.strs c.eH) 0 c.eH.length]
abbrev fk (s:rL):Cells:=fl xR 2 uJ s
theorem adL {H:Type}{enc:TypeId×Value→H}{W:World}:hr enc Tryz.prog W 57 6 hI BV:=
 (hr.struct Tryz.underlying57 af (p2.cons rfl rfl (hr.int Tryz.underlying3) (p2.cons rfl rfl (hr.int Tryz.underlying3) (p2.cons rfl rfl (hr.int Tryz.underlying3) (p2.cons rfl rfl (hr.ints Tryz.underlying55 af Tryz.underlying3) (p2.cons rfl rfl (hr.strs Tryz.underlying31 af Tryz.underlying27) (p2.cons rfl rfl (hr.str Tryz.underlying27) p2.nil))))))).map
  (fun a=>(⟨a.1,a.2.1,a.2.2.1,a.2.2.2.1,a.2.2.2.2.1,a.2.2.2.2.2.1⟩:cW)) (fun a h=>⟨h.2.2.2.1.1,h.2.2.2.2.1.1,h.2.2.2.2.1.2,h.2.2.2.2.2.1⟩) (fun a=>rfl) (fun a i aa=>aV.Gs)
end Go.Proofs.YtmpnheilfejcpaaGreatDoor
namespace Go.Proofs.YtmpnheilfejcpaaGreatDoor
open Go.ai Go.ai.c8 Go.ai.cz Go.RowKit Go.ai.kz Go.ai.eD
attribute [local irreducible] ai ek bV cg hb
theorem acr {t:aT}(ah:Valid t)(hlen:t.length≤40){o:hC}(aj:zh t o 12)(av: ∀i,i<t.length→(t.getD i aK).kind=1→o i=some ((t.getD i aK).eH.map b4))(he: ∀i,i<t.length→(t.getD i aK).kind=0→o i=none):IA t o:=by
 refine ⟨av,he,fun i aa l au=> ?_,fun j ae=>qS ((Tq ah aj hlen ae).mono a6)⟩;obtain ⟨U,ab⟩:=aj.some i aa l au;have ao:(t.getD i aK).kind≠0:=fun e=>by rw [he i aa e] at au;cases au
 have aF:1≤(t.getD i aK).next.length∧(t.getD i aK).next.length≤6:=by
  rcases ah.child aa with h|h
  ·exact absurd h.1 ao
  ·exact ⟨(wQ h.2).1,(wQ h.2).2.1⟩
 exact ⟨J,J,J,fun q aB=>qS ((ab q aB).2.2.mono a6)⟩
theorem abI (t:aT)(hlen:t.length≤1000000):bD Tryz.prog 170 [.ro (bS t) 0 t.length] (.ro (.ints .i64 (ji t t.length)) 0 (ji t t.length).length):=by
 refine cm Tryz.f170 fun c ay bK=> ?_;refine fx ?_;refine kM 3 ⟨3,.ints .i64 []⟩ I I ?_;repeat (refine fK ?_)
 refine cJ (ι:=Nat) (fun i=>[(3,.aA 0 0 (ji t i).length),(6,.ro (bS t) 0 t.length),(7,ag t.length),(8,ag i)]) (fun i=>[some ⟨3,.ints .i64 (ji t i)⟩])
  (fun i=>i≤t.length) (fun i=>t.length-i) 0 ⟨aH,rfl,cf _⟩ ?_
 intro i aa;refine bl ?_;refine bB I (fun h=> ?_) (fun h=> ?_)
 ·have aP:i<t.length:=J;have kH:=Sk t i;have Fs:=SB t i;generalize sg:ji t (i+1)=NK at*;generalize ji t i=b8 at*;refine bm ?_;refine bP 12 (.agg (hI (t.getD i aK))) I (aV.of_eq I) ?_;generalize t.getD i aK=n at*;obtain ⟨bU,pl,bH,ba,ct,cw⟩:=n;simp only at*;refine dP (c':= .box (ec bU pl bH ba ct cw)) I I I I I I I ?_;refine c7 [some ⟨3,.ints .i64 b8⟩,some ⟨57,.box (ec bU pl bH ba ct cw)⟩] I ?_;refine bP 5 (.ptr 1 0 0) I (aV.of_eq I) (bt ?_);refine bB I (fun U=> ?_) (fun U=> ?_)
  ·rw [aG U] at kH;refine bz ?_;refine dt I I I I I I I I I I I I dW I (by show (b8.length+1)*8≤_∧_;omega) (fun i j _ _=>rfl) c4 ?_;refine fX ?_;refine b0 ?_;refine fC [some ⟨3,.ints .i64 (b8++[(i:Int)])⟩] [some ⟨57,.box (ec bU pl bH ba ct cw)⟩] [(3,.aA 0 0 (b8.length+1)),(6,.ro (bS t) 0 t.length),(7,ag t.length),(8,ag i)] I aH ic (rE (yH _ _ _)) I (bz ?_);exact ca ⟨i+1,J,J,⟨by rw [sg,kH,c2];rfl,I,I,I,trivial⟩,by rw [sg,kH]⟩
  ·rw [az U] at kH;refine fX ?_;refine b0 ?_;refine fC [some ⟨3,.ints .i64 b8⟩] [some ⟨57,.box (ec bU pl bH ba ct cw)⟩] [(3,.aA 0 0 b8.length),(6,.ro (bS t) 0 t.length),(7,ag t.length),(8,ag i)] I aH ic (rE (yH _ _ _)) I (bz ?_);exact ca ⟨i+1,J,J,⟨by rw [sg,kH];rfl,I,I,I,trivial⟩,by rw [sg,kH]⟩
 ·have df:i=t.length:=J;subst df;refine kv ?_;refine mx 0 3 (ji t t.length).length [] I lb I (by show (ji t t.length).length≤(ji t t.length).length;exact bR _) trivial (bN ?_);exact bd ay I I
abbrev l8 (t:aT)(p:Int):al:= .de (.box [.ro (gV (cp t p)) 0 (cp t p).length,.ro (.ints .i64 (kt t p)) 0 t.length]) 0 0
theorem Ey (t:aT)(p:Int)(cc:kY t)(ah:Valid t):bD Tryz.prog 91 [.ro (bS t) 0 t.length,.int .i64 p] (l8 t p):=by
 have nP:(dE t p t.length).pos.length=t.length:=Bg t p _;refine cg.value (K:=fun r H=>r= .ptr 2 0 0∧H=[none,none,some ⟨147,.box [.ro (gV (cp t p)) 0 (cp t p).length,.ro (.ints .i64 (kt t p)) 0 t.length]⟩,none]) (cg.Oy (acu t p cc ah) ?_) (fix:=fun _=>False) (fun _ h=>h) I ?_
 ·rintro cH b7 ⟨rfl,rfl⟩;refine ⟨[some ⟨178,gV (dE t p t.length).cx⟩,some ⟨3,.ints .i64 (dE t p t.length).pos⟩,none,none],_,_,⟨?_,?_,?_,?_,.inl I⟩,I,I⟩
  ·intro h o aj
   match h,aj with
   |0,aj=>exact aj
   |1,aj=>exact aj
   |2,aj=>simp at aj
   |3,aj=>simp at aj
   |_+4,aj=>simp at aj
  ·intro h o aj
   match h,aj with
   |0,aj=>cases aj;exact agY _
   |1,aj=>cases aj;exact lb
   |2,aj=>simp at aj
   |3,aj=>simp at aj
   |_+4,aj=>simp at aj
  ·rfl
  ·intro h o aj
   match h,aj with
   |0,aj=>simp at aj
   |1,aj=>simp at aj
   |2,aj=>
    cases aj;refine ⟨fun o h=>by simp at h,_,I,I,I,I,fun i j aa ae=> ?_⟩;have ae:j<2:=ae;obtain rfl:=e5.1 (show i<1 from aa)
    match j,ae with
    |0,_=>exact .inr (.inr ⟨rfl,fun o aj=>by cases aj;show 0+(dE t p t.length).cx.length≤(dE t p t.length).cx.length;omega⟩)
    |1,_=>exact .inr (.inr ⟨rfl,fun o aj=>by cases aj;show 0+t.length≤(dE t p t.length).pos.length;omega⟩)
   |3,aj=>simp at aj
   |_+4,aj=>simp at aj
 ·rintro r H ⟨rfl,rfl⟩;refine ⟨rfl,fun o aj=>by cases aj;exact fp,fun h o aj=> ?_⟩
  match h,aj with
  |0,aj=>simp at aj
  |1,aj=>simp at aj
  |2,aj=>
   cases aj;intro i j _ ae;have ae:j<2:=ae
   match j,ae with
   |0,_=>rfl
   |1,_=>rfl
  |3,aj=>simp at aj
  |_+4,aj=>simp at aj
end Go.Proofs.YtmpnheilfejcpaaGreatDoor
namespace Go.Proofs.YtmpnheilfejcpaaGreatDoor
open Go.ai Go.ai.c8 Go.ai.cz Go.RowKit Go.ai.dL
attribute [local irreducible] ai ek bV cg hb
theorem xb {n m k:Nat}(h:n≤10^k)(ao:k+1≤9*m):(aW n).length≤m:=by
 refine nj (hE (m:=10^(9*m)) ?_ ?_)
 ·have U:10^(k+1)≤10^(9*m):=gp a6 ao;have ab:0<10^k:=mM a6;rw [h4] at U;omega
 ·rw [Nat.pow_mul];exact vW a6 m
theorem ajE (x d:Int)(hd:d≠0)(ar:(aW x.natAbs).length≤1000000)(nK:(aW d.natAbs).length≤1000000):bD Tryz.prog 237 [dK x,dK d] (dK (pR x d)):=by
 have eY:=BC x.natAbs d.natAbs J ar nK;have h8:=xc (!(decide (x<0)==decide (d<0))) (x.natAbs/d.natAbs);have e:kb (!(decide (x<0)==decide (d<0))) (x.natAbs/d.natAbs)=pR x d:=rfl;rw [e] at h8;refine cm Tryz.f237 fun c ay bK=> ?_;unfold dK at*;generalize pR x d=q at*;refine bm ?_;refine aZ I I I eY ?_;repeat (first|refine an (bL rfl) ?_|refine an (dr rfl) ?_|refine cK ?_|refine b0 ?_|refine c6 ?_|refine c0 rfl ?_|refine an (jl rfl rfl rfl rfl rfl) ?_|refine an (nm rfl rfl) ?_|refine an (dh rfl rfl rfl rfl rfl rfl) ?_|refine an (Md rfl rfl rfl) ?_)
 refine aZ I I I h8 ?_;skip
 refine dP (c':= .box [.bool (decide (q<0)),br q.natAbs]) I I I I I I I (bN ?_);exact bd ay I I
def cE (x:Int):List al:=[.bool (decide (x<0)),br x.natAbs]
abbrev aR (l:List Int):Cells:=fl 0 2 cE l
theorem RG (x:Int)(j h:Nat)(ae:j<2):((cE x).getD j .any).forget h=(cE x).getD j .any:=by
 match j,ae with
 |0,_=>rfl
 |1,_=>rfl
theorem QP (x:Int)(j:Nat)(ae:j<2):(ft 1 2 [.bool (decide (x<0)),br x.natAbs]).at 0 j=(cE x).getD j .any:=by
 match j,ae with
 |0,_=>rfl
 |1,_=>rfl
theorem SD (q:Rat): ∀(l:List Rat) (f:Nat),hp f (l++[q])=hp f l*(q.den/Nat.gcd (hp f l) q.den)
 |[],f=>rfl
 |a::r,f=>by rw [oC,hp,hp,SD q r]
theorem SE {l:List Rat}{K k:Nat}(h: ∀q∈l,D K q):hp 1 (l.take k)≤10^(K*l.length):=by refine dT (Vh (k:=K) (l.take k) 1 (fun q aB=>(h q (oB aB)).2)) ?_;rw [rZ];refine gp a6 (h5 _ ?_);rw [ff];exact Nat.min_le_right _ _
theorem akw (l:List Rat)(K:Nat)(e0: ∀q∈l,D K q)(hlen:l.length≤1000)(dn:K*l.length+K≤900000):
 EE Tryz.prog 209 [.ro (aQ l) 0 l.length] (.cd [.aA 0 0 l.length,br (hp 1 l)]) [some ⟨116,aR (hn l)⟩]:=by
 have cq: ∀n k:Nat,n≤10^k→k≤900000→(aW n).length≤100001:=fun n k h ao=>xb h J;have lP:=DP 1 a6;refine cg.many (hq (P:=Tryz.prog) (fn:=Tryz.f209) I I af I (fun c ay bK=> ?_)) (fix:=fun _=>False) (fun _ h=>h) I;refine bN ?_;refine aZ I I I lP (bz ?_);refine cJ (ι:=Nat) (fun k=>[(0,.ro (aQ l) 0 l.length),(4,br (hp 1 (l.take k))),(16,.ro (aQ l) 0 l.length),(17,ag l.length),(18,ag k)]) (fun _=>[])
  (fun k=>k≤l.length) (fun k=>l.length-k) 0 ⟨aH,rfl,cf _⟩ ?_
 intro k ao;refine bl ?_;refine bB I (fun h=> ?_) (fun h=> ?_)
 ·have b5:k<l.length:=J;have aB:=e0 _ (dx 0 b5);have kH:hp 1 (l.take (k+1))=hp 1 (l.take k)*((l.getD k 0).den/Nat.gcd (hp 1 (l.take k)) (l.getD k 0).den):=by rw [p6 b5,SD,e9 0 b5]
  have ki:=cq _ _ (SE (k:=k) e0) J;have aJ:=HK (l.take k) 1 a6;generalize hp 1 (l.take k)=F at*;generalize wv:l.getD k 0=q at*;have Cy:=cq q.den K (q5 aB.2) J;have cX:0<Nat.gcd F q.den:=Nat.gcd_pos_of_pos_left _ aJ;have wg:Nat.gcd F q.den≤10^K:=dT (zA q.den_pos (B4 F q.den)) (q5 aB.2);have eY:=Ns F q.den J J;have h8:=BC q.den (Nat.gcd F q.den) cX J (dT (cq (Nat.gcd F q.den) K wg J) a6);have q8:=Ip F (q.den/Nat.gcd F q.den) J (dT (cq (q.den/Nat.gcd F q.den) K (dT (uz _ _) (q5 aB.2)) J) a6);refine bm ?_;refine bP 21 (.agg (cb q)) I (aV.of_eq (by rw [←wv];rfl)) ?_;refine dP (c':= .box (cb q)) I I I I I I I (bt ?_);refine aZ I I I eY (bt ?_);refine aZ I I I h8 (dw ?_);refine aZ I I I q8 ?_;refine fX ?_;refine b0 ?_;refine nn [none] (aM.drop aM.nil) ?_;refine Bq (H1:=[]) I c4 (bz ?_);exact ca ⟨k+1,J,J,⟨I,by rw [kH];rfl,I,I,I,trivial⟩,I⟩
 have k4:k=l.length:=J;subst k4;rw [gb];have Jd:=SE (k:=l.length) e0;rw [gb] at Jd;have ki:=cq _ _ Jd J;unfold hn at ay;generalize hp 1 l=F at*;have wc: ∃g:Rat→Int,g=(fun q=>q.num*((F/q.den:Nat):Int)):=⟨_,rfl⟩
 obtain ⟨g,wc⟩:=wc;rw [←wc] at ay;refine tu ?_;refine kM 10 ⟨116,aR []⟩ I I ?_;repeat (refine fK ?_)
 refine cJ (ι:=Nat) (fun k=>[(4,br F),(10,.aA 0 0 k),(37,.ro (aQ l) 0 l.length),(38,ag l.length),(39,ag k)]) (fun k=>[some ⟨116,aR ((l.take k).map g)⟩])
  (fun k=>k≤l.length) (fun k=>l.length-k) 0 ⟨aH,rfl,cf _⟩ ?_
 intro k ao;refine bl ?_;refine bB I (fun h=> ?_) (fun h=> ?_)
 ·have b5:k<l.length:=J;have aB:=e0 _ (dx 0 b5);have mX:=Dr g l 0 k b5;have ly:((l.take k).map g).length=k:=by rw [cL,ff];omega
  generalize (l.take k).map g=zs at*;generalize wv:l.getD k 0=q at*;have Cy:=cq q.den K (q5 aB.2) J;have PF:=cq q.num.natAbs K (q5 aB.1) J;have alI:=cq _ _ (dT (uz F q.den) Jd) J;have ZB:g q=q.num*((F/q.den:Nat):Int):=by rw [wc]
  have eY:=BC F q.den q.den_pos J J;have h8:=oZ q.num ((F/q.den:Nat):Int) J (by rw [k1];omega);rw [←ZB] at h8;refine bm ?_;refine bP 42 (.agg (cb q)) I (aV.of_eq (by rw [←wv];rfl)) ?_;refine dP (c':= .box (cb q)) I I I I I I I (bt ?_);refine aZ I I I eY (rl ?_);refine bP 54 (dK ((F/q.den:Nat):Int)) I (aV.of_eq (by
   unfold dK;rw [fq (Int.not_lt.2 (B9 (F/q.den))),k1];rfl)) ?_
  refine aZ I I I h8 ?_;unfold dK;repeat (refine iG rfl rfl rfl rfl rfl rfl rfl rfl rfl rfl rfl ?_)
  refine dt I I I I I I I I I ly I I dW I (by show (k+1)*32≤_∧_;omega) ?_ c4 ?_
  ·intro aI j aa ae;exact hZ 0 2 cE RG zs (g q) _ (QP _) 0 aI j aa ae
  refine fX ?_;refine b0 ?_;refine nn ([some ⟨116,aR ((l.take (k+1)).map g)⟩]++[none]) ?_ ?_
  ·rw [mX];exact aM.eqv (hB 0 2 cE zs (g q) _ (QP _)) (aM.drop aM.nil)
  refine Bq (H1:=[some ⟨116,aR ((l.take (k+1)).map g)⟩]) I c4 ?_;refine nn [some ⟨116,aR ((l.take (k+1)).map g)⟩] ?_ ?_
  ·exact aM.eqv ⟨I,I,fun i j _ ae=>(RG _ j _ ae).symm⟩ aM.nil
  refine bz ?_;exact ca ⟨k+1,J,J,aH,I⟩
 ·have k4:k=l.length:=J;subst k4;rw [gb];refine bt ?_;exact bd ay I ⟨I,I⟩
end Go.Proofs.YtmpnheilfejcpaaGreatDoor
namespace Go.Proofs.YtmpnheilfejcpaaGreatDoor
open Go.ai Go.ai.c8 Go.ai.cz Go.RowKit Go.ai.kz Go.ai.eD Go.ai.cI
attribute [local irreducible] ai ek bV cg hb
end Go.Proofs.YtmpnheilfejcpaaGreatDoor
namespace Go.Proofs.YtmpnheilfejcpaaGreatDoor
open Go.ai Go.ai.c8 Go.ai.cz Go.RowKit Go.ai.dL Go.ai.cI
theorem db {a b:Nat}(h:a≠b):Nat.beq a b=false:=by
 cases aL:Nat.beq a b
 ·rfl
 ·exact absurd (ot aL) h
theorem pM {h:Nat}{fr:Fr}: ∀{L:Fr},j8 fr L→(∀p∈L,p.2.forget h=p.2)→j8 (np h fr) L
 |[],_,_=>trivial
 |(t,v)::r,ao,aJ=>by
  refine ⟨?_,pM ao.2 (fun p rf=>aJ p (uA _ rf))⟩;have U:=ao.1;have ah:v.forget h=v:=aJ (t,v) (vT ..);clear ao aJ;induction fr with
  |nil=>cases U
  |cons q s a8=>
   obtain ⟨u,x⟩:=q;show Go.ai.look t ((u,x.forget h)::np h s)=some v;simp only [Go.ai.look] at U⊢;cases aB:Nat.beq t u with
   |true=>rw [aB] at U;simp at U;subst U;rw [ah];rfl
   |false=>rw [aB] at U;exact a8 (by simpa using U)
section
variable {P:Program}{fn:Func}{c:Ctx}{fr:Fr}{H:aX}{k:List eh}
theorem M7 {x:Code}(L:Fr)(cv:j8 fr L)(ao:ai P fn c (.code x k) L H):ai P fn c (.code x k) fr H:=fun w a σ S ad=>ao w a σ S (ad.weaken cv)
theorem tG {q:Bool}{all:Array Oper}{rest:List Oper}(L:Fr)(cv:j8 fr L)(ao:ai P fn c (.ops q all rest k) L H):ai P fn c (.ops q all rest k) fr H:=by
 cases q with
 |true=>exact fun hd w a σ S ad=>ao hd w a σ S (ad.weaken cv)
 |false=>exact fun hd w a σ S ad=>ao hd w a σ S (ad.weaken cv)
end
abbrev fz (l:List Nat):Cells:= .ints .i64 (l.map (fun a:Nat=>(a:Int)))
theorem Mh (x:Int):(j2 x=0)=(x=0):=by
 apply propext;unfold j2;constructor
 ·intro h;split at h
  ·exact absurd h a6
  ·split at h
   ·assumption
   ·exact absurd h a6
 ·intro h;subst h;rfl
theorem n2 (h:Nat)(a:List Int):(aR a).forget h=aR a:=by
 show Cells.fn _ _ _=Cells.fn _ _ _;congr 1;funext i j
 match j with
 |0=>rfl
 |1=>rfl
 |_+2=>rfl
theorem agM (m:Nat)(x:Int):fy m (.box (cE x)):=by
 intro i j aa ae;have bf:j<2:=ae
 match j,bf with
 |0,_=>rfl
 |1,_=>rfl
theorem Tj (l:List Nat)(a:Nat):cC (.ints .i64 (l.map (fun a:Nat=>(a:Int))++[(a:Int)])) (fz (l++[a])):=by show cC _ (.ints .i64 ((l++[a]).map (fun a:Nat=>(a:Int))));rw [hS];exact cC.refl _
theorem tS (l:List Int)(j:Nat)(v:Int): ∀aI a7,aI<(aR l).len→a7<2→(aR (l.set j v)).at aI a7=if aI=j then (cE v).getD a7 .any else (aR l).at aI a7:=by
 intro aI a7 aP bf;show (cE ((l.set j v).getD aI 0)).getD a7 .any=if aI=j then _ else (cE (l.getD aI 0)).getD a7 .any
 rw [fG];have au:aI<l.length:=aP;by_cases h:aI=j
 ·rw [aG ⟨h,J⟩,aG h]
 ·rw [az (fun q=>h q.1),az h]
theorem UG {α:Type}(l:List α)(d:α)(i:Nat)(aa:i<l.length):l.set i (l.getD i d)=l:=by
 apply lo bZ;intro a U ab;rw [xJ];split
 ·rename_i e;subst e;rw [e9 d aa]
 ·rfl
theorem Sj {x p f y:Int}{E:Nat}(ar:x.natAbs≤10^E)(aJ:p.natAbs≤10^E)(aN:f.natAbs≤10^E)(aY:y.natAbs≤10^E)(cR:E≤3600000):
 (aW (x*p).natAbs).length≤1000000∧(aW (f*y).natAbs).length≤1000000∧(aW (x*p-f*y).natAbs).length≤1000000:=by
 have aD:(x*p).natAbs≤10^(E+E):=by rw [kf,jm];exact jB ar aJ
 have aE:(f*y).natAbs≤10^(E+E):=by rw [kf,jm];exact jB aN aY
 have bM:(x*p-f*y).natAbs≤10^(E+E+1):=by refine dT (Int.natAbs_sub_le _ _) ?_;rw [h4];omega
 exact ⟨xb aD J,xb aE J,xb bM J⟩
abbrev eS (b n L:Nat):Cells:= .fn n 1 (fun i _=> .aA (b+4+i) 0 L)
abbrev iR (b k m w:Nat)(d:Int):Cells:= .box [.aA (b+3) 0 k,.bool (decide (d<0)),br d.natAbs,.aA (b+2) 0 m,ag w]
abbrev bn (G:aX)(F:Option bk)(L w k:Nat)(X:ck)(d:Int)(β:List Nat)(T:aX):aX:=
 G++(some ⟨249,iR G.length k β.length w d⟩::F::some ⟨3,fz β⟩::eU ⟨243,eS G.length X.length L⟩ 116 aR X T)
def rR (G:aX):Prop:= ∀m,G.length≤m→ ∀o:bk,some o∈G→fy m o.c
section
variable {G:aX}{F:Option bk}{L w k:Nat}{X:ck}{d:Int}{β:List Nat}{T:aX}
theorem hJ:(bn G F L w k X d β T)[G.length]? =some (some ⟨249,iR G.length k β.length w d⟩):=sK (i:=0) rfl
theorem Ra:(bn G F L w k X d β T)[G.length+1]? =some F:=sK (i:=1) rfl
theorem uf:(bn G F L w k X d β T)[G.length+2]? =some (some ⟨3,fz β⟩):=sK (i:=2) rfl
theorem mB:(bn G F L w k X d β T)[G.length+3]? =some (some ⟨243,eS G.length X.length L⟩):=sK (i:=3) rfl
theorem ma {a:Nat}(a1:a<X.length):(bn G F L w k X d β T)[G.length+4+a]? =some (some ⟨116,aR (X.getD a [])⟩):=by rw [show G.length+4+a=G.length+(3+(a+1)) by omega];refine (sK (i:=3+(a+1)) I).trans ?_;rw [show 3+(a+1)=(a+1)+3 by omega];exact MN (O:=⟨243,eS G.length X.length L⟩) (t:=116) (f:=aR) (X:=X) (L:=T) [] a1
theorem fN (j:Nat):(bn G F L w k X d β T)[G.length+4+X.length+j]? =T[j]? :=by rw [show G.length+4+X.length+j=G.length+((X.length+1+j)+3) by omega];refine (sK (i:=(X.length+1+j)+3) I).trans ?_;exact MM (O:=⟨243,eS G.length X.length L⟩) (t:=116) (f:=aR) (X:=X) (L:=T)
theorem h1:(bn G F L w k X d β T).length=G.length+4+X.length+T.length:=by unfold bn;rw [c2,fZ,fZ,fZ,D3];omega
theorem fM (iU:aX):bn G F L w k X d β T++iU=bn G F L w k X d β (T++iU):=by unfold bn;rw [ll,oC,oC,oC,HQ]
theorem LV (cP w':Nat)(Oh:Int):(bn G F L w k X d β T).set G.length (some ⟨249,iR G.length cP β.length w' Oh⟩)=bn G F L w' cP X Oh β T:=oY (i:=0) _ rfl
theorem SM {vL:List Nat}(ak:vL.length=β.length):(bn G F L w k X d β T).set (G.length+2) (some ⟨3,fz vL⟩)=bn G F L w k X d vL T:=by refine (oY (i:=2) _ I).trans ?_;show G++(some ⟨_,iR G.length k β.length w d⟩::F::some ⟨_,fz vL⟩::_)=_;rw [←ak]
theorem SN {a:Nat}(a1:a<X.length)(x:List Int):(bn G F L w k X d β T).set (G.length+4+a) (some ⟨116,aR x⟩)=bn G F L w k (X.set a x) d β T:=by rw [show G.length+4+a=G.length+((a+1)+3) by omega];refine (oY (i:=(a+1)+3) _ I).trans ?_;have h:=RJ (O:=⟨243,eS G.length X.length L⟩) (t:=116) (f:=aR) (X:=X) (L:=T) x a1;show G++(_::F::_::(eU _ _ _ X T).set (a+1) _)=_;rw [h];unfold bn;rw [dj]
theorem jq (j:Nat)(x:Option bk):(bn G F L w k X d β T).set (G.length+4+X.length+j) x=bn G F L w k X d β (T.set j x):=by rw [show G.length+4+X.length+j=G.length+((X.length+1+j)+3) by omega];refine (oY (i:=(X.length+1+j)+3) _ I).trans ?_;show G++(_::F::_::(eU _ _ _ X T).set (X.length+1+j) _)=_;rw [RI]
theorem qw (dB:rR G)(m:Nat)(hm:G.length+4+X.length≤m)(ki: ∀o:bk,F=some o→fy m o.c)(cc: ∀o:bk,some o∈T→fy m o.c): ∀(h:Nat) (o:bk),(bn G F L w k X d β T)[h]? =some (some o)→fy m o.c:=by
 intro h o aj;have ej:=oA aj;unfold bn eU at ej;rw [gz] at ej;rcases ej with ej|ej
 ·exact dB m J o ej
 rw [fT,fT,fT,fT,gz] at ej;rcases ej with e|e|e|e|ej|ej
 ·cases e;intro i j aa ae;have bf:j<5:=ae
  match j,bf with
  |0,_=>exact p5 (show G.length+3+1≤m by omega)
  |1,_=>rfl
  |2,_=>rfl
  |3,_=>exact p5 (show G.length+2+1≤m by omega)
  |4,_=>rfl
 ·exact ki o e.symm
 ·cases e;exact fun i j _ _=>rfl
 ·cases e;intro i j aa ae;have aP:i<X.length:=aa;exact p5 (show G.length+4+i+1≤m by omega)
 ·obtain ⟨a,_,e⟩:=da.1 ej;cases e;intro i j aa ae;have bf:j<2:=ae
  match j,bf with
  |0,_=>rfl
  |1,_=>rfl
 ·exact cc o ej
theorem afu (b k m w:Nat)(d v:Int): ∀aI a7,aI<(iR b k m w d).len→a7<(iR b k m w d).aC→(iR b k m w v).at aI a7=if aI=0∧1≤a7∧a7<1+2 then (cE v).getD (a7-1) .any else (iR b k m w d).at aI a7:=by
 intro aI a7 aP bf;obtain rfl:=e5.1 (show aI<1 from aP);have so:a7<5:=bf
 match a7,so with
 |0,_=>rfl
 |1,_=>rfl
 |2,_=>rfl
 |3,_=>rfl
 |4,_=>rfl
end
end Go.Proofs.YtmpnheilfejcpaaGreatDoor
namespace Go.Proofs.YtmpnheilfejcpaaGreatDoor
open Go.ai Go.ai.c8 Go.ai.cz Go.RowKit Go.ai.dL Go.ai.cI
attribute [local irreducible] ai ek bV cg hb
theorem Bm (x:Int):(j2 x<0)=(x<0):=by
 apply propext;unfold j2;constructor
 ·intro h;split at h
  ·assumption
  ·split at h<;>omega
 ·intro h;rw [aG h];decide
theorem Tp {α β:Type}(f:α→β)(l:List α)(d:α):(List.range l.length).map (fun i=>f (l.getD i d))=l.map f:=by apply lo bZ;intro i U ab;simp [List.getD,mL (by simpa using ab:i<l.length)]
theorem Uy (G:aX)(dB:rR G)(L w n:Nat)(X:ck)(d:Int)(β:List Nat)(r bb:Nat)(E:Nat)(aF:X.length=n)(Z0:n≤1000000)(cv: ∀x∈X,x.length=L)(Jf:L≤1000000)(ad:r<β.length)(va:β.length≤n)(av:bb<L)(hd:d≠0)(iv: ∀i j,i<n→j<L→(aq X i j).natAbs≤10^E)(Zf:d.natAbs≤10^E)(cR:E≤3600000):
 cg Tryz.prog 208 [.ptr G.length 0 0,ag r,ag bb] (bn G none L w n X d β []) (fun h=>h<(bn G none L w n X d β []).length)
  (fun dk bE=>dk= .cd []∧bE=bn G none L w n (ka X r bb d) (if aq X r bb<0 then-(aq X r bb) else aq X r bb) (β.set r bb) []):=by
 refine hq (P:=Tryz.prog) (fn:=Tryz.f208) I I af I (fun c ay bK=> ?_);have wx:r<n:=hE ad va;have hlen:(bn G none L w n X d β []).length=G.length+4+n:=by rw [h1,aF];rfl
 rw [hlen] at bK;have f1:=hJ (G:=G) (F:=none) (L:=L) (w:=w) (k:=n) (X:=X) (d:=d) (β:=β) (T:=[]);have f2:=mB (G:=G) (F:=none) (L:=L) (w:=w) (k:=n) (X:=X) (d:=d) (β:=β) (T:=[]);have f3:=ma (G:=G) (F:=none) (L:=L) (w:=w) (k:=n) (X:=X) (d:=d) (β:=β) (T:=[]) (a:=r) (by rw [aF];exact wx);have abL:(X.getD r []).length=L:=cv _ (dx [] (by rw [aF];exact wx));have g1:r<(eS G.length X.length L).len:=by show r<X.length;rw [aF];exact wx
 have g2:bb<(aR (X.getD r [])).len:=by show bb<(X.getD r []).length;rw [abL];exact av
 refine cM ?_;refine c7 (bn G none L w n X d β [some ⟨116,.box [.bool false,.nil]⟩]) (by rw [fM];rfl) ?_;refine bP 6 (.ptr (G.length+4+n) 0 0) I (aV.of_eq (by rw [hlen])) ?_;refine bP 23 (dK (aq X r bb)) I (aV.of_eq I) ?_;have ew:=fN (G:=G) (F:=none) (L:=L) (w:=w) (k:=n) (X:=X) (d:=d) (β:=β) (T:=[some ⟨116,.box [.bool false,.nil]⟩]) 0;rw [aF] at ew;refine er (c':= .box (cE (aq X r bb))) I I I ew I fp I I (fun aI a7 aP bf=> ?_) ?_
 ·rw [aG (e5.1 aP)];rfl
 refine c7 (bn G none L w n X d β [some ⟨116,.box (cE (aq X r bb))⟩]) (by have q:=jq (G:=G) (F:=none) (L:=L) (w:=w) (k:=n) (X:=X) (d:=d) (β:=β) (T:=[some ⟨116,.box [.bool false,.nil]⟩]) 0 (some ⟨116,.box (cE (aq X r bb))⟩);rw [aF] at q;exact q) ?_;clear f1 f2 f3 ew;have f1:=hJ (G:=G) (F:=none) (L:=L) (w:=w) (k:=n) (X:=X) (d:=d) (β:=β) (T:=[some ⟨116,.box (cE (aq X r bb))⟩]);have cq: ∀x:Int,x.natAbs≤10^E→(aW x.natAbs).length≤400001:=fun x ar=>xb ar J;have N3:=iv r bb wx av;refine cM ?_;refine cJ (ι:=Nat) (fun a=>[(0,.ptr G.length 0 0),(1,ag r),(2,ag bb),(6,.ptr (G.length+4+n) 0 0),(27,.aA (G.length+3) 0 n),(28,ag n),(29,ag a)]) (fun a=>bn G none L w n (dv (js X r bb d) [] X a) d β [some ⟨116,.box (cE (aq X r bb))⟩]) (fun a=>a≤n) (fun a=>n-a) 0 ⟨aH,by rw [tI],cf _⟩ ?_;clear f1;intro a a1;have c9:(dv (js X r bb d) [] X a).length=n:=by rw [pP,aF]
 refine bl ?_;refine bB I (fun fi=> ?_) (fun fi=> ?_)
 ·have Jr:a<n:=J;have uN:(dv (js X r bb d) [] X a).getD a []=X.getD a []:=by rw [qC _ _ _ J,az (ov a)]
  have XJ:(dv (js X r bb d) [] X a).getD r []=X.getD r []:=by
   rw [qC _ _ _ J];split
   ·unfold js;rw [aG rfl]
   ·rfl
  have vc:(X.getD a []).length=L:=cv _ (dx [] J);have f2:=mB (G:=G) (F:=none) (L:=L) (w:=w) (k:=n) (X:=(dv (js X r bb d) [] X a)) (d:=d) (β:=β) (T:=[some ⟨116,.box (cE (aq X r bb))⟩]);have f3:=ma (G:=G) (F:=none) (L:=L) (w:=w) (k:=n) (X:=(dv (js X r bb d) [] X a)) (d:=d) (β:=β) (T:=[some ⟨116,.box (cE (aq X r bb))⟩]) (a:=a) J;rw [uN] at f3;have g3:a<(eS G.length (dv (js X r bb d) [] X a).length L).len:=by show a<(dv (js X r bb d) [] X a).length;omega
  have g4:bb<(aR (X.getD a [])).len:=by show bb<(X.getD a []).length;omega
  refine tv ?_;refine bB I (fun py=> ?_) (fun py=> ?_)
  ·have Yg:a=r:=J;refine bt ?_;exact ca ⟨a+1,J,J,aH,by rw [WZ _ _ _ J (by rw [Yg];unfold js;rw [aG rfl])]⟩
  ·have b2: ¬a=r:=J;refine cM ?_;have z8:(bn G none L w n (dv (js X r bb d) [] X a) d β [some ⟨116,.box (cE (aq X r bb))⟩]).length=G.length+5+n:=by rw [h1,c9];show _+1=_;omega
   refine c7 (bn G none L w n (dv (js X r bb d) [] X a) d β [some ⟨116,.box (cE (aq X r bb))⟩,some ⟨116,.box [.bool false,.nil]⟩]) (by rw [fM];rfl) ?_;refine bP 9 (.ptr (G.length+5+n) 0 0) I (aV.of_eq (by rw [z8])) ?_;refine bP 40 (dK (aq X a bb)) I (aV.of_eq I) ?_;have bO:=fN (G:=G) (F:=none) (L:=L) (w:=w) (k:=n) (X:=(dv (js X r bb d) [] X a)) (d:=d) (β:=β) (T:=[some ⟨116,.box (cE (aq X r bb))⟩,some ⟨116,.box [.bool false,.nil]⟩]) 1;rw [c9,show G.length+4+n+1=G.length+5+n by omega] at bO;refine er (c':= .box (cE (aq X a bb))) I I I bO I fp I I (fun aI a7 aP bf=> ?_) ?_
   ·rw [aG (e5.1 aP)];rfl
   refine c7 (bn G none L w n (dv (js X r bb d) [] X a) d β [some ⟨116,.box (cE (aq X r bb))⟩,some ⟨116,.box (cE (aq X a bb))⟩]) (by have q:=jq (G:=G) (F:=none) (L:=L) (w:=w) (k:=n) (X:=(dv (js X r bb d) [] X a)) (d:=d) (β:=β) (T:=[some ⟨116,.box (cE (aq X r bb))⟩,some ⟨116,.box [.bool false,.nil]⟩]) 1 (some ⟨116,.box (cE (aq X a bb))⟩);rw [c9,show G.length+4+n+1=G.length+5+n by omega] at q;exact q) ?_;clear f2 f3 bO;refine bz ?_;refine cJ (ι:=Nat) (fun j=>[(0,.ptr G.length 0 0),(1,ag r),(2,ag bb),(6,.ptr (G.length+4+n) 0 0),(7,ag a),(8,.aA (G.length+4+a) 0 L),(9,.ptr (G.length+5+n) 0 0),(27,.aA (G.length+3) 0 n),(28,ag n),(29,ag a),(42,ag L),(43,ag j)]) (fun j=>bn G none L w n ((dv (js X r bb d) [] X a).set a (dv (wJ (X.getD a []) (X.getD r []) (aq X r bb) (aq X a bb) d) 0 (X.getD a []) j)) d β [some ⟨116,.box (cE (aq X r bb))⟩,some ⟨116,.box (cE (aq X a bb))⟩]) (fun j=>j≤L) (fun j=>L-j) 0 ⟨aH,by rw [tI,←uN,UG (dv (js X r bb d) [] X a) [] _ J],cf _⟩ ?_;intro j ae;refine bl ?_;refine bB I (fun lv=> ?_) (fun lv=> ?_)
   ·have bf:j<L:=J;have lU:=qC (wJ (X.getD a []) (X.getD r []) (aq X r bb) (aq X a bb) d) 0 (X.getD a []) (k:=j) (i:=j) J;rw [az (ov j)] at lU;have nQ:=sL (wJ (X.getD a []) (X.getD r []) (aq X r bb) (aq X a bb) d) 0 (X.getD a []) (k:=j) J;have Aa:=pP (wJ (X.getD a []) (X.getD r []) (aq X r bb) (aq X a bb) d) 0 (X.getD a []) j;have JQ:(wJ (X.getD a []) (X.getD r []) (aq X r bb) (aq X a bb) d) j=pR ((X.getD a []).getD j 0*aq X r bb-aq X a bb*(X.getD r []).getD j 0) d:=rfl;rw [←lU] at JQ;rw [JQ] at nQ;have ex:((dv (wJ (X.getD a []) (X.getD r []) (aq X r bb) (aq X a bb) d) 0 (X.getD a []) j).getD j 0).natAbs≤10^E:=by rw [lU];exact iv a j Jr bf
    clear lU JQ;generalize (dv (wJ (X.getD a []) (X.getD r []) (aq X r bb) (aq X a bb) d) 0 (X.getD a []) j)=row at*;generalize alb:(dv (js X r bb d) [] X a)=qZ at*;have Jp:(qZ.set a row).length=n:=by rw [dj];exact c9
    have K1:(qZ.set a row).getD a []=row:=by rw [fG,aG ⟨rfl,J⟩]
    have adF:(qZ.set a row).getD r []=X.getD r []:=by rw [fG,az (fun q=>b2 q.1.symm),XJ]
    have dZ:=mB (G:=G) (F:=none) (L:=L) (w:=w) (k:=n) (X:=(qZ.set a row)) (d:=d) (β:=β) (T:=[some ⟨116,.box (cE (aq X r bb))⟩,some ⟨116,.box (cE (aq X a bb))⟩]);have gR:=ma (G:=G) (F:=none) (L:=L) (w:=w) (k:=n) (X:=(qZ.set a row)) (d:=d) (β:=β) (T:=[some ⟨116,.box (cE (aq X r bb))⟩,some ⟨116,.box (cE (aq X a bb))⟩]) (a:=a) J;rw [K1] at gR;have iz:=ma (G:=G) (F:=none) (L:=L) (w:=w) (k:=n) (X:=(qZ.set a row)) (d:=d) (β:=β) (T:=[some ⟨116,.box (cE (aq X r bb))⟩,some ⟨116,.box (cE (aq X a bb))⟩]) (a:=r) J;rw [adF] at iz;have sy:=hJ (G:=G) (F:=none) (L:=L) (w:=w) (k:=n) (X:=(qZ.set a row)) (d:=d) (β:=β) (T:=[some ⟨116,.box (cE (aq X r bb))⟩,some ⟨116,.box (cE (aq X a bb))⟩]);have adi:=fN (G:=G) (F:=none) (L:=L) (w:=w) (k:=n) (X:=(qZ.set a row)) (d:=d) (β:=β) (T:=[some ⟨116,.box (cE (aq X r bb))⟩,some ⟨116,.box (cE (aq X a bb))⟩]) 0;rw [Jp,eQ] at adi;have adj:=fN (G:=G) (F:=none) (L:=L) (w:=w) (k:=n) (X:=(qZ.set a row)) (d:=d) (β:=β) (T:=[some ⟨116,.box (cE (aq X r bb))⟩,some ⟨116,.box (cE (aq X a bb))⟩]) 1;rw [Jp,show G.length+4+n+1=G.length+5+n by omega] at adj;have g5:r<(eS G.length (qZ.set a row).length L).len:=by show r<(qZ.set a row).length;omega
    have g6:j<(aR row).len:=by show j<row.length;omega
    have g7:j<(aR (X.getD r [])).len:=by show j<(X.getD r []).length;omega
    have NT:((X.getD r []).getD j 0).natAbs≤10^E:=iv r j wx bf;have uH:(aq X a bb).natAbs≤10^E:=iv a bb Jr av;obtain ⟨s1,s2,tx⟩:=Sj ex N3 uH NT cR;have m1:=oZ (row.getD j 0) (aq X r bb) (by have:=cq _ ex;omega) (by have:=cq _ N3;omega);have m2:=oZ (aq X a bb) ((X.getD r []).getD j 0) (by have:=cq _ uH;omega) (by have:=cq _ NT;omega);have m3:=Nh (row.getD j 0*aq X r bb) (aq X a bb*(X.getD r []).getD j 0) s1 s2;have m4:=ajE (row.getD j 0*aq X r bb-aq X a bb*(X.getD r []).getD j 0) d hd tx (by have:=cq _ Zf;omega);refine bI ?_;refine eN af ?_;refine fe (fuel:=1) [0,1,2,3,4,5,6,7,8,9,10,11,12,13,14,15,16,17,18,19,20,21,22,23,24,25,26] [(0,.ptr G.length 0 0),(1,ag r),(2,ag bb),(6,.ptr (G.length+4+n) 0 0),(7,ag a),(8,.aA (G.length+4+a) 0 L),(9,.ptr (G.length+5+n) 0 0),(27,.aA (G.length+3) 0 n),(28,ag n),(29,ag a),(42,ag L),(43,ag j),(10,ag j)] aH af a6 I I ?_;refine dd ?_;refine en I I I I I m1 ?_;refine dd ?_;refine en I I I I I m2 ?_;refine en I I I I I m3 ?_;refine dd ?_;refine en I I I I I m4 ?_;refine dd ?_;refine fc ?_;generalize pR (row.getD j 0*aq X r bb-aq X a bb*(X.getD r []).getD j 0) d=v at*;refine bx 27 ?_;refine er (c':=aR (row.set j v)) I I I gR I g6 (dj ..) I (tS row j v) ?_;refine c7 (bn G none L w n (qZ.set a (row.set j v)) d β [some ⟨116,.box (cE (aq X r bb))⟩,some ⟨116,.box (cE (aq X a bb))⟩]) ((SN J _).trans (by rw [vV])) (bI ?_);refine eM af (bt ?_);exact ca ⟨j+1,J,J,aH,by rw [nQ]⟩
   ·have gI:L=j:=J;subst gI;have gP:=adX (X.getD a []) (X.getD r []) (aq X r bb) (aq X a bb) d;rw [vc] at gP;have Fs:js X r bb d a=xa (X.getD a []) (X.getD r []) (aq X r bb) (aq X a bb) d:=by unfold js;rw [az b2]
    rw [←gP,←Fs,sL _ _ _ J];have YN:(dv (js X r bb d) [] X (a+1)).length=n:=by rw [pP,aF]
    have JZ:(bn G none L w n (dv (js X r bb d) [] X (a+1)) d β [some ⟨116,.box (cE (aq X r bb))⟩]).length=G.length+5+n:=by rw [h1,YN];show _+1=_;omega
    refine fX ?_;refine b0 ?_;refine fC (bn G none L w n (dv (js X r bb d) [] X (a+1)) d β [some ⟨116,.box (cE (aq X r bb))⟩]) [some ⟨116,.box (cE (aq X a bb))⟩] [(0,.ptr G.length 0 0),(1,ag r),(2,ag bb),(6,.ptr (G.length+4+n) 0 0),(27,.aA (G.length+3) 0 n),(28,ag n),(29,ag a)] (by rw [fM];rfl) aH (fun h aU=>by rw [bK] at aU;rw [JZ];omega)
     (by rw [JZ];exact qw dB _ J (fun o aj=>by cases aj) (fun o aj=>by cases hR.1 aj;exact agM _ _)) (by rw [JZ];simp [l4,hc];omega) ?_
    refine bz ?_;exact ca ⟨a+1,J,J,aH,I⟩
 have Js:n=a:=J;subst Js;rw [show dv (js X r bb d) [] X n=n9 X r bb d by rw [MI,aF]];have O1:=L9 X r bb d J cv;have Ct:(n9 X r bb d).length=n:=by rw [L8,aF]
 have Cg:ka X r bb d=if aq X r bb<0 then (n9 X r bb d).map (fun l=>l.map (fun x=> -x)) else n9 X r bb d:=rfl
 have Cq:(ka X r bb d).length=n:=by rw [MR,aF]
 clear a1 c9 fi;generalize n9 X r bb d=Y at*;refine dS ?_;refine c6 ?_;apply j4 (H:=bn G none L w n (ka X r bb d) d β [some ⟨116,.box (cE (if aq X r bb<0 then-(aq X r bb) else aq X r bb))⟩]) [(0,.ptr G.length 0 0),(1,ag r),(2,ag bb),(6,.ptr (G.length+4+n) 0 0)]
 ·intro fin;have f1:=hJ (G:=G) (F:=none) (L:=L) (w:=w) (k:=n) (X:=Y) (d:=d) (β:=β) (T:=[some ⟨116,.box (cE (aq X r bb))⟩]);have ew:=fN (G:=G) (F:=none) (L:=L) (w:=w) (k:=n) (X:=Y) (d:=d) (β:=β) (T:=[some ⟨116,.box (cE (aq X r bb))⟩]) 0;rw [Ct,eQ] at ew;have cs:=w2 (aq X r bb);refine cM ?_;refine bP 75 (dK (aq X r bb)) I (aV.of_eq I) ?_;refine aZ I I I cs ?_;refine dS ?_;refine bB I (fun U=> ?_) (fun U=> ?_)
  ·rw [Bm] at U;rw [aG U] at Cg;rw [aG U] at fin;have co:=yW (aq X r bb);refine cM ?_;refine bP 78 (dK (aq X r bb)) I (aV.of_eq I) ?_;refine aZ I I I co ?_;skip
   refine er (c':= .box (cE (-(aq X r bb)))) I I I ew I fp I I (fun aI a7 aP bf=> ?_) ?_
   ·rw [aG (e5.1 aP)];rfl
   refine c7 (bn G none L w n Y d β [some ⟨116,.box (cE (-(aq X r bb)))⟩]) (by have q:=jq (G:=G) (F:=none) (L:=L) (w:=w) (k:=n) (X:=Y) (d:=d) (β:=β) (T:=[some ⟨116,.box (cE (aq X r bb))⟩]) 0 (some ⟨116,.box (cE (-(aq X r bb)))⟩);rw [Ct,eQ] at q;exact q) ?_;clear f1 ew;have f1:=hJ (G:=G) (F:=none) (L:=L) (w:=w) (k:=n) (X:=Y) (d:=d) (β:=β) (T:=[some ⟨116,.box (cE (-(aq X r bb)))⟩]);refine cM ?_;refine cJ (ι:=Nat) (fun a=>[(0,.ptr G.length 0 0),(1,ag r),(2,ag bb),(6,.ptr (G.length+4+n) 0 0),(83,.aA (G.length+3) 0 n),(84,ag n),(85,ag a)]) (fun a=>bn G none L w n (dv (fun i=>(Y.getD i []).map (fun x=> -x)) [] Y a) d β [some ⟨116,.box (cE (-(aq X r bb)))⟩]) (fun a=>a≤n) (fun a=>n-a) 0 ⟨aH,by rw [tI],cf _⟩ ?_;clear f1;intro a a1;have c9:(dv (fun i=>(Y.getD i []).map (fun x=> -x)) [] Y a).length=n:=by rw [pP,Ct]
   refine bl ?_;refine bB I (fun fi=> ?_) (fun fi=> ?_)
   ·have Jr:a<n:=J;have uN:(dv (fun i=>(Y.getD i []).map (fun x=> -x)) [] Y a).getD a []=Y.getD a []:=by rw [qC _ _ _ J,az (ov a)]
    have vc:(Y.getD a []).length=L:=O1 _ (dx [] J);have dH:=sL (fun i=>(Y.getD i []).map (fun x=> -x)) [] Y (k:=a) J;have f2:=mB (G:=G) (F:=none) (L:=L) (w:=w) (k:=n) (X:=(dv (fun i=>(Y.getD i []).map (fun x=> -x)) [] Y a)) (d:=d) (β:=β) (T:=[some ⟨116,.box (cE (-(aq X r bb)))⟩]);have g3:a<(eS G.length (dv (fun i=>(Y.getD i []).map (fun x=> -x)) [] Y a).length L).len:=by show a<(dv (fun i=>(Y.getD i []).map (fun x=> -x)) [] Y a).length;omega
    refine cM ?_;generalize ald:(dv (fun i=>(Y.getD i []).map (fun x=> -x)) [] Y a)=zk at*;generalize aY:Y.getD a []=y at*;refine cJ (ι:=Nat) (fun j=>[(0,.ptr G.length 0 0),(1,ag r),(2,ag bb),(6,.ptr (G.length+4+n) 0 0),(12,.aA (G.length+4+a) 0 L),(83,.aA (G.length+3) 0 n),(84,ag n),(85,ag a),(90,ag L),(91,ag j)]) (fun j=>bn G none L w n (zk.set a (dv (fun j=> -(y.getD j 0)) 0 y j)) d β [some ⟨116,.box (cE (-(aq X r bb)))⟩]) (fun j=>j≤L) (fun j=>L-j) 0 ⟨aH,by rw [tI,←uN,UG zk [] _ J],cf _⟩ ?_;intro j ae;refine bl ?_;refine bB I (fun lv=> ?_) (fun lv=> ?_)
    ·have bf:j<L:=J;have lU:=qC (fun j=> -(y.getD j 0)) 0 y (k:=j) (i:=j) J;rw [az (ov j)] at lU;have nQ:=sL (fun j=> -(y.getD j 0)) 0 y (k:=j) J;have Aa:=pP (fun j=> -(y.getD j 0)) 0 y j;rw [←lU] at nQ;generalize (dv (fun j=> -(y.getD j 0)) 0 y j)=row at*;have Jp:(zk.set a row).length=n:=by rw [dj];exact c9
     have K1:(zk.set a row).getD a []=row:=by rw [fG,aG ⟨rfl,J⟩]
     have gR:=ma (G:=G) (F:=none) (L:=L) (w:=w) (k:=n) (X:=(zk.set a row)) (d:=d) (β:=β) (T:=[some ⟨116,.box (cE (-(aq X r bb)))⟩]) (a:=a) J;rw [K1] at gR;have g6:j<(aR row).len:=by show j<row.length;omega
     have co:=yW (row.getD j 0);refine cM ?_;refine bP 99 (dK (row.getD j 0)) I (aV.of_eq I) ?_;refine aZ I I I co ?_;repeat (refine an (lA rfl rfl rfl) ?_)
     refine er (c':=aR (row.set j (-(row.getD j 0)))) I I I gR I g6 (dj ..) I (tS row j _) ?_;refine c7 (bn G none L w n (zk.set a (row.set j (-(row.getD j 0)))) d β [some ⟨116,.box (cE (-(aq X r bb)))⟩]) ((SN J _).trans (by rw [vV])) (bt ?_);exact ca ⟨j+1,J,J,aH,by rw [nQ]⟩
    ·have gI:L=j:=J;subst gI;have gP:dv (fun j=> -(y.getD j 0)) 0 y L=y.map (fun x=> -x):=by rw [←vc,vB,Tp (fun x=> -x) y 0]
     rw [gP,dH];refine bt ?_;exact ca ⟨a+1,J,J,aH,I⟩
   ·have Js:a=n:=J;have gP:(dv (fun i=>(Y.getD i []).map (fun x=> -x)) [] Y a)=ka X r bb d:=by rw [Js,←Ct,vB,Tp (fun l:List Int=>l.map (fun x=> -x)) Y [],Cg]
    rw [gP];refine dS ?_;exact fin _ aH
  ·rw [Bm] at U;rw [az U] at Cg;rw [az U,Cg] at fin;refine dS ?_;exact fin _ aH
 clear Cg Ct O1;clear Y;generalize akU:(if aq X r bb<0 then-(aq X r bb) else aq X r bb)=mI at*;have f1:=hJ (G:=G) (F:=none) (L:=L) (w:=w) (k:=n) (X:=(ka X r bb d)) (d:=d) (β:=β) (T:=[some ⟨116,.box (cE mI)⟩]);have ew:=fN (G:=G) (F:=none) (L:=L) (w:=w) (k:=n) (X:=(ka X r bb d)) (d:=d) (β:=β) (T:=[some ⟨116,.box (cE mI)⟩]) 0;rw [Cq,eQ] at ew;refine cM ?_;refine bP 105 (dK mI) I (aV.of_eq I) ?_;refine agK (s:=2) (c':=iR G.length n β.length w mI) I I I f1 I (show 1+2≤5 from a6) fp I I (afu _ _ _ _ _ _) ?_;refine c7 (bn G none L w n (ka X r bb d) mI β [some ⟨116,.box (cE mI)⟩]) (LV n w mI) ?_;refine kv ?_;have hle:(bn G none L w n (ka X r bb d) mI β []).length=G.length+4+n:=by rw [h1,Cq];rfl
 refine fC (bn G none L w n (ka X r bb d) mI β []) [some ⟨116,.box (cE mI)⟩] [(0,.ptr G.length 0 0),(1,ag r),(2,ag bb)] (by rw [fM];rfl) aH (fun h aU=>by rw [bK] at aU;rw [hle];exact aU)
  (by rw [hle];exact qw dB _ J (fun o aj=>by cases aj) (fun o aj=>by cases aj)) (by rw [hle];simp [l4,hc];omega) ?_
 clear f1 ew;have f1:=hJ (G:=G) (F:=none) (L:=L) (w:=w) (k:=n) (X:=ka X r bb d) (d:=mI) (β:=β) (T:=[]);have f2:=uf (G:=G) (F:=none) (L:=L) (w:=w) (k:=n) (X:=ka X r bb d) (d:=mI) (β:=β) (T:=[]);refine cM ?_;refine kN I I I I f2 I I (by show r<(β.map _).length;rw [cL];exact ad) ?_;refine c7 (bn G none L w n (ka X r bb d) mI (β.set r bb) []) (by
  rw [←SM (β:=β) (dj ..)];show _=List.set _ _ (some (⟨3,.ints .i64 ((β.set r bb).map (fun a:Nat=>(a:Int)))⟩:bk));rw [List.map_set]) ?_
 repeat (refine cK ?_)
 exact NS ay I ⟨I,I⟩
theorem GP (β:List Nat)(i:Nat):(β.map (fun a:Nat=>(a:Int))).getD i 0=((β.getD i 0:Nat):Int):=by simp only [List.getD,me];cases β[i]? <;>rfl
theorem UI (x:Int):(j2 x≤0)=(x≤0):=by
 apply propext;unfold j2;constructor
 ·intro h;split at h
  ·omega
  ·split at h
   ·omega
   ·exact absurd h a6
 ·intro h;by_cases U:x<0
  ·rw [aG U];decide
  ·rw [az U,aG J];decide
theorem aeO {x:Int}(h:x<0):j2 x= -1:=by unfold j2;rw [aG h]
theorem aeQ {x:Int}(h:x=0):j2 x=0:=by subst h;rfl
theorem aeP {x:Int}(h:0<x):j2 x=1:=by unfold j2;rw [az J,az J]
theorem abA (G:aX)(dB:rR G)(N w n:Nat)(X:ck)(d:Int)(β:List Nat)(bb:Nat)(E:Nat)(aF:X.length=n)(tl:0<n)(Z0:n≤1000000)(cv: ∀x∈X,x.length=N+1)(Jf:N+1≤1000000)(va:β.length≤n)(av:bb<N+1)(iv: ∀i j,i<n→j<N+1→(aq X i j).natAbs≤10^E)(cR:E≤3600000):
 cg Tryz.prog 213 [.ptr G.length 0 0,ag bb] (bn G none (N+1) w n X d β []) (fun h=>h<(bn G none (N+1) w n X d β []).length)
  (fun dk bE=>dk= .int .i64 (C7 (jd X β bb N β.length))∧bE=bn G none (N+1) w n X d β []):=by
 refine hq (P:=Tryz.prog) (fn:=Tryz.f213) I I af I (fun c ay bK=> ?_);have hlen:(bn G none (N+1) w n X d β []).length=G.length+4+n:=by rw [h1,aF];rfl
 rw [hlen] at bK;have f1:=hJ (G:=G) (F:=none) (L:=N+1) (w:=w) (k:=n) (X:=X) (d:=d) (β:=β) (T:=[]);have f2:=mB (G:=G) (F:=none) (L:=N+1) (w:=w) (k:=n) (X:=X) (d:=d) (β:=β) (T:=[]);have g1:0<(eS G.length X.length (N+1)).len:=by show 0<X.length;omega
 refine bN ?_;refine eN af ?_;refine fe (fuel:=0) [0,1,2,3,4,5,6,7,8,9] [(0,.ptr G.length 0 0),(1,ag bb)] aH af a6 I I ?_;refine dd ?_;refine fc ?_;refine eM af ?_;repeat (refine b0 ?_)
 refine eA 6 (ag N) I (aV.of_eq (by show al.int .i64 (((N+1:Nat):Int)-1)=_;rw [show ((N+1:Nat):Int)-1=(N:Nat) by omega])) ?_;have f3:=uf (G:=G) (F:=none) (L:=N+1) (w:=w) (k:=n) (X:=X) (d:=d) (β:=β) (T:=[]);refine cM ?_;refine cJ (ι:=Nat) (fun i=>[(0,.ptr G.length 0 0),(1,ag bb),(5,.int .i64 (C7 (jd X β bb N i))),(6,ag N),(22,ag β.length),(23,ag i)]) (fun i=>bn G none (N+1) w n X d β []) (fun i=>i≤β.length) (fun i=>β.length-i) 0 ⟨aH,I,cf _⟩ ?_;clear f3;intro i aa;refine bl ?_;refine bB I (fun h=> ?_) (fun h=> ?_)
 ·have aP:i<β.length:=J;have dO:i<n:=J;have C2:(X.getD i []).length=N+1:=cv _ (dx [] J);have f3:=ma (G:=G) (F:=none) (L:=N+1) (w:=w) (k:=n) (X:=X) (d:=d) (β:=β) (T:=[]) (a:=i) J;have g3:i<(eS G.length X.length (N+1)).len:=by show i<X.length;omega
  have g4:bb<(aR (X.getD i [])).len:=by show bb<(X.getD i []).length;omega
  refine cM ?_;refine c7 (bn G none (N+1) w n X d β [some ⟨116,.box [.bool false,.nil]⟩]) (by rw [fM];rfl) ?_;refine bP 8 (.ptr (G.length+4+n) 0 0) I (aV.of_eq (by rw [hlen])) ?_;refine bP 35 (dK (aq X i bb)) I (aV.of_eq I) ?_;have ew:=fN (G:=G) (F:=none) (L:=N+1) (w:=w) (k:=n) (X:=X) (d:=d) (β:=β) (T:=[some ⟨116,.box [.bool false,.nil]⟩]) 0;rw [aF] at ew;refine er (c':= .box (cE (aq X i bb))) I I I ew I fp I I (fun aI a7 aP bf=> ?_) ?_
  ·rw [aG (e5.1 aP)];rfl
  refine c7 (bn G none (N+1) w n X d β [some ⟨116,.box (cE (aq X i bb))⟩]) (by have q:=jq (G:=G) (F:=none) (L:=N+1) (w:=w) (k:=n) (X:=X) (d:=d) (β:=β) (T:=[some ⟨116,.box [.bool false,.nil]⟩]) 0 (some ⟨116,.box (cE (aq X i bb))⟩);rw [aF] at q;exact q) ?_;clear f1 f2 f3 ew;apply j4 (H:=bn G none (N+1) w n X d β [some ⟨116,.box (cE (aq X i bb))⟩]) [(0,.ptr G.length 0 0),(1,ag bb),(5,.int .i64 (C7 (jd X β bb N (i+1)))),(6,ag N),(22,ag β.length),(23,ag i)]
  ·intro fin;have f1:=hJ (G:=G) (F:=none) (L:=N+1) (w:=w) (k:=n) (X:=X) (d:=d) (β:=β) (T:=[some ⟨116,.box (cE (aq X i bb))⟩]);have f2:=mB (G:=G) (F:=none) (L:=N+1) (w:=w) (k:=n) (X:=X) (d:=d) (β:=β) (T:=[some ⟨116,.box (cE (aq X i bb))⟩]);have ew:=fN (G:=G) (F:=none) (L:=N+1) (w:=w) (k:=n) (X:=X) (d:=d) (β:=β) (T:=[some ⟨116,.box (cE (aq X i bb))⟩]) 0;rw [aF,eQ] at ew;have cs:=w2 (aq X i bb);refine cM ?_;refine bP 36 (dK (aq X i bb)) I (aV.of_eq I) ?_;refine aZ I I I cs (fx ?_);refine bB I (fun U=> ?_) (fun U=> ?_)
   ·rw [UI] at U;rw [air U] at fin;refine dS ?_;exact fin _ aH
   ·rw [UI] at U;refine bl ?_;refine bB I (fun ab=> ?_) (fun ab=> ?_)
    ·rw [Uv] at ab;rw [ahq U ab] at fin;skip
     refine c6 ?_;refine c0 I ?_;refine dS ?_;exact fin _ aH
    ·cases au:jd X β bb N i with
     |none=>rw [au] at ab;exact absurd (show (-1:Int)<0 by decide) ab
     |some b=>
      have ak:=(G8 X β bb N i b au).lt;have O7:b<n:=J;have jH:=aiq (T:=X) (β:=β) (c:=bb) (e:=N) U au;rw [jH] at fin;have KO:(X.getD b []).length=N+1:=cv _ (dx [] J);have f3:=ma (G:=G) (F:=none) (L:=N+1) (w:=w) (k:=n) (X:=X) (d:=d) (β:=β) (T:=[some ⟨116,.box (cE (aq X i bb))⟩]) (a:=i) J;have f4:=ma (G:=G) (F:=none) (L:=N+1) (w:=w) (k:=n) (X:=X) (d:=d) (β:=β) (T:=[some ⟨116,.box (cE (aq X i bb))⟩]) (a:=b) J;have g3:i<(eS G.length X.length (N+1)).len:=by show i<X.length;omega
      have g4:b<(eS G.length X.length (N+1)).len:=by show b<X.length;omega
      have g5:bb<(aR (X.getD b [])).len:=by show bb<(X.getD b []).length;omega
      have g6:N<(aR (X.getD b [])).len:=by show N<(X.getD b []).length;omega
      have g7:N<(aR (X.getD i [])).len:=by show N<(X.getD i []).length;omega
      have bi:=iv i bb dO av;have NY:=iv b bb O7 av;have Ch:=iv i N dO (gH N);have nI:=iv b N O7 (gH N);have cq: ∀x:Int,x.natAbs≤10^E→(aW x.natAbs).length≤400001:=fun x ar=>xb ar J;obtain ⟨s1,s2,tx⟩:=Sj Ch NY bi nI cR;rw [lp (aq X i bb) (aq X b N)] at s2;have m1:=oZ (aq X i N) (aq X b bb) (by have:=cq _ Ch;omega) (by have:=cq _ NY;omega);have m2:=oZ (aq X b N) (aq X i bb) (by have:=cq _ nI;omega) (by have:=cq _ bi;omega);have m3:=Vm (aq X i N*aq X b bb) (aq X b N*aq X i bb) s1 s2;refine Db ?_;refine eA 5 (ag b) I (aV.of_eq I) ?_;refine eN af ?_;refine fe (fuel:=0) [0,1,2,3,4,5,6,7,8,9,10,11,12,13,14,15,16,17,18,19,20,21,22,23,24,25,26,27,28,29,30,31,32,33,34] [(0,.ptr G.length 0 0),(1,ag bb),(5,ag b),(6,ag N),(7,ag i),(8,.ptr (G.length+4+n) 0 0),(22,ag β.length),(23,ag i)] aH af a6 I I ?_;refine dd ?_;refine en I I I I I m1 ?_;refine dd ?_;refine en I I I I I m2 ?_;refine en I I I I I m3 ?_;refine dd ?_;refine fc ?_;refine eM af ?_;repeat (refine b0 ?_)
      have f5:=uf (G:=G) (F:=none) (L:=N+1) (w:=w) (k:=n) (X:=X) (d:=d) (β:=β) (T:=[some ⟨116,.box (cE (aq X i bb))⟩]);have g8:i<(β.map (fun a:Nat=>(a:Int))).length:=by rw [cL];exact aP
      have g9:b<(β.map (fun a:Nat=>(a:Int))).length:=by rw [cL];omega
      clear f2 f3 f4 m1 m2 m3;rcases xF (aq X i N*aq X b bb-aq X b N*aq X i bb) 0 with e0|e0|e0
      ·rw [aG (.inl J)] at fin;refine eA 9 (.int .i64 (-1)) I (aV.of_eq (by rw [aeO e0])) ?_;repeat (refine c6 ?_)
       refine eN af ?_;refine fe (fuel:=0) [0,1,2,3,4,5,6,7,8,9,10,11,12,13,14,15,16,17,18,19,20,21,22] [(0,.ptr G.length 0 0),(1,ag bb),(5,ag b),(6,ag N),(7,ag i),(8,.ptr (G.length+4+n) 0 0),(22,ag β.length),(23,ag i),(9,.int .i64 (-1))] aH af a6 I I ?_;refine dd ?_;refine l9 I I I I I ?_;refine l9 I I I I I ?_;refine l9 I I I I I ?_;refine o0 I I I I ?_;refine o0 I I I I ?_;refine o0 I I I I ?_;refine o0 I I I I ?_;refine o0 I I I I ?_;refine o0 I I I I ?_;refine o0 I I I I ?_;refine o0 I I I I ?_;refine o0 I I I I ?_;refine o0 I I I I ?_;refine o0 I I I I ?_;refine o0 I I I I ?_;refine o0 I I I I ?_;refine o0 I I I I ?_;refine o0 I I I I ?_;refine l9 I I I I I ?_;refine dd ?_;refine fc ?_;refine eM af ?_;repeat (first|refine b0 ?_|refine qs rfl ?_)
       refine c0 I ?_;refine dS ?_;exact fin _ aH
      ·refine eA 9 (.int .i64 0) I (aV.of_eq (by rw [aeQ e0])) ?_;repeat (refine c6 ?_)
       refine eN af ?_;refine fe (fuel:=0) [0,1,2,3,4,5,6,7,8,9,10,11,12,13,14,15,16,17,18,19,20,21,22] [(0,.ptr G.length 0 0),(1,ag bb),(5,ag b),(6,ag N),(7,ag i),(8,.ptr (G.length+4+n) 0 0),(22,ag β.length),(23,ag i),(9,.int .i64 (0))] aH af a6 I I ?_;refine dd ?_;refine ku I I I I (bL I) ?_;refine ku I I I I (ob I I) ?_;refine ku I I I I (bL I) ?_;refine ku I I I I (bL I) ?_;refine ku I I I I (jQ I) ?_;refine ku I I I I (dh I I I I I I) ?_;refine ku I I I I (n0 I I I hv kl) ?_;refine ku I I I I (bL I) ?_;refine ku I I I I (lA I I I) ?_;refine ku I I I I (LD I I I hv mq) ?_;refine ku I I I I (bL I) ?_;refine ku I I I I (jQ I) ?_;refine ku I I I I (dh I I I I I I) ?_;refine ku I I I I (n0 I I I hv kl) ?_;refine ku I I I I (bL I) ?_;refine ku I I I I (lA I I I) ?_;refine ku I I I I (LD I I I hv mq) ?_;refine ku I I I I (qI I I) ?_;refine ku I I I I (lF I I) ?_;refine dd ?_;refine fc ?_;refine eM af ?_;repeat (refine b0 ?_)
       refine bB I (fun aw=> ?_) (fun aw=> ?_)
       ·rw [GP,GP] at aw;rw [aG (.inr ⟨J,J⟩)] at fin;skip
        refine c0 I ?_;refine dS ?_;exact fin _ aH
       ·rw [GP,GP] at aw;rw [az (by unfold yY;omega)] at fin;refine dS ?_;exact fin _ aH
      ·rw [az (by unfold yY;omega)] at fin;refine eA 9 (.int .i64 1) I (aV.of_eq (by rw [aeP e0])) ?_;repeat (refine c6 ?_)
       refine eN af ?_;refine fe (fuel:=0) [0,1,2,3,4,5,6,7,8,9,10,11,12,13,14,15,16,17,18,19,20,21,22] [(0,.ptr G.length 0 0),(1,ag bb),(5,ag b),(6,ag N),(7,ag i),(8,.ptr (G.length+4+n) 0 0),(22,ag β.length),(23,ag i),(9,.int .i64 (1))] aH af a6 I I ?_;refine dd ?_;refine ku I I I I (bL I) ?_;refine ku I I I I (ob I I) ?_;refine ku I I I I (bL I) ?_;refine l9 I I I I I ?_;refine l9 I I I I I ?_;refine l9 I I I I I ?_;refine l9 I I I I I ?_;refine l9 I I I I I ?_;refine l9 I I I I I ?_;refine l9 I I I I I ?_;refine l9 I I I I I ?_;refine l9 I I I I I ?_;refine l9 I I I I I ?_;refine l9 I I I I I ?_;refine l9 I I I I I ?_;refine l9 I I I I I ?_;refine l9 I I I I I ?_;refine l9 I I I I I ?_;refine ku I I I I (lF I I) ?_;refine dd ?_;refine fc ?_;refine eM af ?_;refine dS ?_;exact fin _ aH
  ·refine fC (bn G none (N+1) w n X d β []) [some ⟨116,.box (cE (aq X i bb))⟩] [(0,.ptr G.length 0 0),(1,ag bb),(5,.int .i64 (C7 (jd X β bb N (i+1)))),(6,ag N),(22,ag β.length),(23,ag i)] (by rw [fM];rfl) aH (fun h aU=>by rw [bK] at aU;rw [hlen];exact aU)
    (by rw [hlen];exact qw dB _ J (fun o aj=>by cases aj) (fun o aj=>by cases aj)) (by rw [hlen];simp [l4,hc];omega) ?_
   refine bz ?_;exact ca ⟨i+1,J,J,aH,I⟩
 ·have df:i=β.length:=J;subst df;refine bt ?_;exact bd ay I ⟨I,I⟩
theorem UH (x:Int):(0≤j2 x)=(¬x<0):=by
 apply propext;unfold j2;constructor
 ·intro h;split at h
  ·exact absurd h a6
  ·assumption
 ·intro h;rw [az h];split<;>decide
abbrev mv (G:aX)(N w n:Nat)(t:b9):aX:=bn G none (N+1) w n t.rows t.den t.basis []
theorem QV (G:aX)(dB:rR G)(m N w:Nat)(M:ck)(s:b9)(aa:Inv m N M s)(aN:iE m N s)(hw:w≤N)(K:Nat)(dn:il m N w (eB m N w s K)=none)(E:Nat)(hm:m+1≤1000000)(jX:N+1≤1000000)(cZ: ∀t,Inv m N M t→(∀i j,i<m+1→j<N+1→(aq t.rows i j).natAbs≤10^E)∧t.den.natAbs≤10^E)(cR:E≤3600000):
 cg Tryz.prog 177 [.ptr G.length 0 0] (mv G N w (m+1) s) (fun h=>h<(mv G N w (m+1) s).length)
  (fun dk bE=>dk= .int .i64 (AF m w (eB m N w s K))∧bE=mv G N w (m+1) (eB m N w s K)):=by
 refine hq (P:=Tryz.prog) (fn:=Tryz.f177) I I af I (fun c ay bK=> ?_);have hlen: ∀t:b9,t.rows.length=m+1→(mv G N w (m+1) t).length=G.length+4+(m+1):=fun t bs=>by rw [h1,bs];rfl
 rw [hlen s aa.n] at bK;refine bI ?_;refine cJ (ι:=Nat) (fun k=>[(0,.ptr G.length 0 0)]) (fun k=>mv G N w (m+1) (eB m N w s k)) (fun k=>k≤K) (fun k=>K-k) 0 ⟨⟨I,trivial⟩,I,cf _⟩ ?_;intro k ao;obtain ⟨aP,Ph⟩:=A3 aa aN hw k;obtain ⟨Fb,tb⟩:=cZ _ aP;have jH:=fun cl=> @ajF m N w s k cl;have Pf:= @abh m N w s k K;have ZM:il m N w (eB m N w s k)≠none→k≠K:=fun h e=>h (by rw [e];exact dn);generalize eB m N w s k=t at*;have aF:=aP.n;have va:=aP.b;have kF:=aP.row;have hd:t.den≠0:=by have:=aP.fU;omega
 have lm:(t.rows.getD m []).length=N+1:=kF _ (dx [] J);have f1:=hJ (G:=G) (F:=none) (L:=N+1) (w:=w) (k:=m+1) (X:=t.rows) (d:=t.den) (β:=t.basis) (T:=[]);have f2:=mB (G:=G) (F:=none) (L:=N+1) (w:=w) (k:=m+1) (X:=t.rows) (d:=t.den) (β:=t.basis) (T:=[]);have f3:=ma (G:=G) (F:=none) (L:=N+1) (w:=w) (k:=m+1) (X:=t.rows) (d:=t.den) (β:=t.basis) (T:=[]) (a:=m) J;refine bI ?_;refine eN af ?_;refine fe (fuel:=0) [0,1,2,3,4,5,6,7,8,9,10,11,12] [(0,.ptr G.length 0 0)] ⟨I,trivial⟩ af a6 I I ?_;refine dd ?_;refine fc ?_;refine eM af ?_;repeat (refine b0 ?_)
 refine eA 3 (.aA (G.length+4+m) 0 (N+1)) I (aV.of_eq (by show al.aA (G.length+4+(((m+1:Nat):Int)-1).toNat) 0 (N+1)=_;rw [show (((m+1:Nat):Int)-1).toNat=m by omega])) ?_;skip
 refine c6 ?_;apply j4 (H:=mv G N w (m+1) t) [(0,.ptr G.length 0 0),(4,ag (gr m w t))]
 ·intro fin;refine bI ?_;refine cJ (ι:=Nat) (fun a=>[(0,.ptr G.length 0 0),(3,.aA (G.length+4+m) 0 (N+1)),(4,ag a)]) (fun _=>mv G N w (m+1) t) (fun a=>a≤w∧l7 t.rows m (w-a) a=gr m w t) (fun a=>w-a) 0 ⟨aH,I,cf _,I⟩ ?_;rintro a ⟨a1,x1⟩;by_cases alf:a<w
  ·have g1:a<(aR (t.rows.getD m [])).len:=by show a<(t.rows.getD m []).length;omega
   have cs:=w2 (aq t.rows m a);refine cM ?_;refine bP 24 (.bool true) I (aV.of_eq (by rw [fv J])) ?_;refine fX ?_;refine bP 28 (dK (aq t.rows m a)) I (aV.of_eq I) ?_;refine aZ I I I cs ?_;refine dS ?_;refine bB I (fun U=> ?_) (fun U=> ?_)
   ·rw [UH] at U;refine bt ?_;exact ca ⟨a+1,⟨J,by rw [←x1,show w-a=(w-(a+1))+1 by omega,XP U]⟩,J,aH,I⟩
   ·rw [UH] at U;rw [ahC J] at x1;refine dS ?_;exact fin _ ⟨I,by rw [←x1];rfl,trivial⟩
  ·have YV:a=w:=J;subst YV;rw [oD] at x1;have x1:a=gr m a t:=x1;refine cM ?_;refine bP 24 (.bool false) I (aV.of_eq (by rw [fq J])) ?_;refine dS ?_;exact fin _ ⟨I,by rw [←x1];rfl,trivial⟩
 ·have gZ:gr m w t≤w:=dT (Dz t.rows m w 0).2.1 J;refine yu ?_;refine bB I (fun U=> ?_) (fun U=> ?_)
  ·have gf:gr m w t=w:=J;have e:=Pf (ajl gf) ao;refine bm ?_;exact bd ay I ⟨by rw [e];unfold AF;rw [aG gf];rfl,by rw [e]⟩
  ·have gf:gr m w t≠w:=J;have dG:=abA G dB N w (m+1) t.rows t.den t.basis (gr m w t) E aF J hm kF jX J J Fb cR;rw [va] at dG;refine bI ?_;refine rz I I I dG (fun _ h=>h) (fun _ h=>h) ?_;rintro dk bE ⟨rfl,rfl⟩;refine bl ?_;refine bB I (fun ab=> ?_) (fun ab=> ?_)
   ·rw [Uv] at ab;have e:=Pf (ajk gf ab) ao;refine bm ?_;exact bd ay I ⟨by rw [e];unfold AF;rw [az gf];rfl,by rw [e]⟩
   ·cases au:jd t.rows t.basis (gr m w t) N m with
    |none=>rw [au] at ab;exact absurd (show (-1:Int)<0 by decide) ab
    |some r=>
     have ax:=afg gf au;have ad:=(G8 _ _ _ _ _ _ au).lt;have FB:=ZM (by rw [ax];exact fun q=>by cases q);have e:=jH _ ax;have q9:=Uy G dB (N+1) w (m+1) t.rows t.den t.basis r (gr m w t) E aF hm kF jX J J J hd Fb tb cR;refine bI ?_;refine rz I I I q9 (fun _ h=>h) (fun _ h=>h) ?_;rintro dk bE ⟨rfl,rfl⟩;refine bt ?_;exact ca ⟨k+1,J,J,⟨I,trivial⟩,by rw [e];rfl⟩
section
variable {G:aX}{F:Option bk}{L w k:Nat}{X:ck}{d:Int}{β:List Nat}{T:aX}
theorem vG (o:Option bk):(bn G F L w k X d β (T++[o]))[G.length+4+X.length+T.length]? =some o:=by rw [fN,jA (bR _),oD];rfl
theorem wT (o o':Option bk):(bn G F L w k X d β (T++[o])).set (G.length+4+X.length+T.length) o'=bn G F L w k X d β (T++[o']):=by rw [jq];congr 1;rw [zt _ _ (bR _),oD];rfl
end
theorem KZ (G:aX)(dB:rR G)(L w k:Nat)(X:ck)(d:Int)(β:List Nat)(T:aX)(cc: ∀o:bk,some o∈T→fy (bn G none L w k X d β T).length o.c)(x:Int)(hd:d≠0)(ar:(aW x.natAbs).length≤1000000)(nK:(aW d.natAbs).length≤1000000):
 cg Tryz.prog 207 [.ptr G.length 0 0,dK x] (bn G none L w k X d β T) (fun h=>h<(bn G none L w k X d β T).length)
  (fun dk bE=>dk=cj (Rat.divInt x d)∧bE=bn G none L w k X d β T):=by
 have hlen:(bn G none L w k X d β T).length=G.length+4+X.length+T.length:=h1;refine cg.Xj (K:=fun dk bE=>dk=cj (Rat.divInt x d)∧ ∃H1,bE=bn G none L w k X d β T++H1) ?_ (fun dk bE h=> ?_)
 ·refine hq (P:=Tryz.prog) (fn:=Tryz.f207) I I af I (fun c ay bK=> ?_);have mR:=Bv x d hd ar nK;refine bm ?_;refine ko (bn G none L w k X d β (T++[some ⟨116,.box (cE x)⟩]++[some ⟨118,.box [.bool false,.nil,.nil]⟩])) (by rw [fM,fM];rfl) ?_;refine eA 3 (.ptr (G.length+4+X.length+T.length) 0 0) I (aV.of_eq (by rw [hlen])) ?_;refine eA 4 (.ptr (G.length+4+X.length+(T++[some (⟨116,.box (cE x)⟩:bk)]).length) 0 0) I (aV.of_eq (by rw [fM,h1];rfl)) ?_;have f1:=hJ (G:=G) (F:=none) (L:=L) (w:=w) (k:=k) (X:=X) (d:=d) (β:=β) (T:=T++[some ⟨116,.box (cE x)⟩]++[some ⟨118,.box [.bool false,.nil,.nil]⟩]);have f2:=fN (G:=G) (F:=none) (L:=L) (w:=w) (k:=k) (X:=X) (d:=d) (β:=β) (T:=T++([some ⟨116,.box (cE x)⟩]++[some ⟨118,.box [.bool false,.nil,.nil]⟩])) T.length;rw [jA (bR _),oD] at f2;rw [←ll] at f2;have f3:=vG (G:=G) (F:=none) (L:=L) (w:=w) (k:=k) (X:=X) (d:=d) (β:=β) (T:=T++[some ⟨116,.box (cE x)⟩]) (some ⟨118,.box [.bool false,.nil,.nil]⟩);have f2:(bn G none L w k X d β (T++[some ⟨116,.box (cE x)⟩]++[some ⟨118,.box [.bool false,.nil,.nil]⟩]))[G.length+4+X.length+T.length]? =some (some (⟨116,.box (cE x)⟩:bk)):=f2;refine eN af ?_;refine fe (fuel:=1) [0,1,2,3,4,5] [(0,.ptr G.length 0 0),(3,.ptr (G.length+4+X.length+T.length) 0 0),(4,.ptr (G.length+4+X.length+(T++[some (⟨116,.box (cE x)⟩:bk)]).length) 0 0)] aH af a6 I I ?_;refine dd ?_;refine en I I I I I mR ?_;refine fc ?_;unfold cj;refine bx 6 ?_;refine er (c':= .box (cb (Rat.divInt x d))) I I I f3 I fp I I (fun aI a7 aP bf=> ?_) ?_
  ·rw [aG (e5.1 aP)];rfl
  refine c7 (bn G none L w k X d β (T++[some ⟨116,.box (cE x)⟩]++[some ⟨118,.box (cb (Rat.divInt x d))⟩])) (wT _ _) ?_;have f4:=vG (G:=G) (F:=none) (L:=L) (w:=w) (k:=k) (X:=X) (d:=d) (β:=β) (T:=T++[some ⟨116,.box (cE x)⟩]) (some ⟨118,.box (cb (Rat.divInt x d))⟩);refine bI ?_;refine eM af (bN ?_);exact bd ay (G5 I f4 I I I) ⟨I,_,by rw [fM,ll]⟩
 ·obtain ⟨rfl,H1,rfl⟩:=h;exact ⟨_,H1,rfl,fun h aU=>aU,qw dB _ J (fun o aj=>by cases aj) cc,rfl,rfl,rfl⟩
end Go.Proofs.YtmpnheilfejcpaaGreatDoor
namespace Go.Proofs.YtmpnheilfejcpaaGreatDoor
open Go.ai Go.ai.c8 Go.ai.cz Go.RowKit Go.ai.dL Go.ai.cI
theorem LZ {A:aX}{t:TypeId}{n:Nat}: ∀(h:Nat) (o':bk),(A++[some ⟨t,aR (List.replicate n 0)⟩])[h]? =some (some o')→ ∃o:bk,(A++[some ⟨t,nZ n [.bool false,.nil]⟩])[h]? =some (some o)∧o'.ty=o.ty∧o'.c.len=o.c.len∧o'.c.bU=o.c.bU∧ ∀i j,i<o.c.len→j<o.c.aC→aV (o.c.at i j) (o'.c.at i j):=by
 intro h o' cU;by_cases au:h<A.length
 ·rw [hQ au] at cU;refine ⟨o',by rw [hQ au];exact cU,I,I,I,fun i j _ _=>aV.of_eq I⟩
 ·have aU:h=A.length:=by have U:=(gL.1 cU).1;rw [c2] at U;have U:h<A.length+1:=U;omega
  subst aU;rw [jA (bR _),oD] at cU;cases cU;refine ⟨⟨t,nZ n [.bool false,.nil]⟩,by rw [jA (bR _),oD];rfl,I,?_,I,fun i j aa ae=> ?_⟩
  ·simp [fl,Cells.len,nZ]
  ·have aa:i<n:=by simpa [Cells.len,nZ] using aa
   have ae:j<2:=ae;show aV _ ((cE ((List.replicate n (0:Int)).getD i 0)).getD j .any);rw [e9 0 (by simpa using aa),Ca]
   match j,ae with
   |0,_=>exact aV.of_eq rfl
   |1,_=>exact aV.KU
theorem aM.set {H bE:aX}(ax:aM H bE)(h:Nat){x x':Option bk}(ar: ∀o',x'=some o'→ ∃o,x=some o∧o'.ty=o.ty∧cC o.c o'.c):aM (H.set h x) (bE.set h x'):=by
 refine ⟨by rw [dj,dj,ax.1],fun i o' cU=> ?_⟩;rw [B0] at cU⊢;by_cases e:h=i
 ·rw [aG e] at cU⊢;split at cU
  ·rename_i au;rw [aG (by rw [←ax.1];exact au)];cases cU;obtain ⟨o,U,ab⟩:=ar o' rfl;exact ⟨o,by rw [U],ab⟩
  ·cases cU
 ·rw [az e] at cU⊢;exact ax.2 i o' cU
theorem aM.trans' {A B C:aX}(U:aM A B)(ab:aM B C):aM A C:=by refine ⟨ab.1.trans U.1,fun h o aj=> ?_⟩;obtain ⟨o1,g1,g2,g3⟩:=ab.2 h o aj;obtain ⟨o2,eF,eG,gB⟩:=U.2 h o1 g1;refine ⟨o2,eF,g2.trans eG,?_⟩;obtain ⟨gx,a2,a3⟩:=gB;obtain ⟨dX,eu,mi⟩:=g3;exact ⟨dX.trans gx,eu.trans a2,fun i j aa ae=>(mi i j (by rw [gx];exact aa) (by rw [zc a2];exact ae)).trans (a3 i j aa ae)⟩
abbrev En (G:aX)(L w:Nat)(X:ck)(d:Int)(β:List Nat)(T:aX):aX:=
 G++(some ⟨249,.box [.any,.bool (decide (d<0)),br d.natAbs,.aA (G.length+2) 0 β.length,ag w]⟩::none::some ⟨3,fz β⟩::eU ⟨243,eS G.length X.length L⟩ 116 aR X T)
theorem U8 {G:aX}{L w:Nat}{X:ck}{d:Int}{β:List Nat}{T:aX}:(En G L w X d β T)[G.length]? =some (some ⟨249,.box [.any,.bool (decide (d<0)),br d.natAbs,.aA (G.length+2) 0 β.length,ag w]⟩):=sK (i:=0) rfl
theorem U9 {G:aX}{L w k:Nat}{X:ck}{d:Int}{β:List Nat}{T:aX}:(En G L w X d β T).set G.length (some ⟨249,iR G.length k β.length w d⟩)=bn G none L w k X d β T:=oY (i:=0) _ rfl
theorem Hl {α:Type}{O:bk}{t:TypeId}{f:α→Cells}{X:List α}{x:α}{T:aX}:eU O t f X (some ⟨t,f x⟩::T)=eU O t f (X++[x]) T:=by unfold eU;congr 1;show fO t f X++([some ⟨t,f x⟩]++T)=_;rw [←ll,Sn]
theorem TK {G:aX}{L w k:Nat}{X:ck}{x:List Int}{d:Int}{β:List Nat}{a:Option bk}{c':Cells}(dB:cQ (G.length+3) G=G)(av:cC c' (eS G.length (X.length+1) L)):
 aM ((cQ (G.length+3) (bn G none L w k X d β [some ⟨116,aR x⟩,a])).set (G.length+3) (some ⟨243,c'⟩)) (En G L w (X++[x]) d β [none]):=by
 unfold bn;rw [vo,dB];have e:cQ (G.length+3) (some (⟨249,iR G.length k β.length w d⟩:bk)::none::some ⟨3,fz β⟩::eU ⟨243,eS G.length X.length L⟩ 116 aR X [some ⟨116,aR x⟩,a])
  =some ⟨249,.box [.any,.bool (decide (d<0)),br d.natAbs,.aA (G.length+2) 0 β.length,ag w]⟩::none::some ⟨3,fz β⟩::eU ⟨243,(eS G.length X.length L).forget (G.length+3)⟩ 116 aR X (cQ (G.length+3) [some ⟨116,aR x⟩,a]):=by show some (⟨_,Cells.box (al.jD _ _)⟩:bk)::none::some (⟨_,fz β⟩:bk)::cQ (G.length+3) (eU _ _ _ X _)=_;rw [yB (G.length+3) (n2 (G.length+3))];simp [al.jD,al.forget,br,db]
 rw [e];refine aM.trans' (B:=G++(some ⟨249,.box [.any,.bool (decide (d<0)),br d.natAbs,.aA (G.length+2) 0 β.length,ag w]⟩::none::some ⟨3,fz β⟩::eU ⟨243,c'⟩ 116 aR X (cQ (G.length+3) [some ⟨116,aR x⟩,a]))) ?_ ?_
 ·rw [show (G++(some (⟨249,.box [.any,.bool (decide (d<0)),br d.natAbs,.aA (G.length+2) 0 β.length,ag w]⟩:bk)::none::some ⟨3,fz β⟩::eU ⟨243,(eS G.length X.length L).forget (G.length+3)⟩ 116 aR X (cQ (G.length+3) [some ⟨116,aR x⟩,a]))).set (G.length+3) (some ⟨243,c'⟩)=_ from oY (i:=3) _ rfl];exact aM.refl _
 ·refine aM.append (aM.refl _) (aM.same (aM.same (aM.same ?_)));have au:cQ (G.length+3) [some (⟨116,aR x⟩:bk),a]=[some ⟨116,aR x⟩,iC (G.length+3) a]:=by show [some (⟨116,(aR x).forget _⟩:bk),_]=_;rw [n2]
  rw [au,Hl];refine w3 ⟨I,?_⟩ (aM.drop aM.nil);show cC c' (eS G.length (X++[x]).length L);rw [c2];exact av
theorem A6 (b n L:Nat)(ea:Cells)(aO:ea.at 0 0= .aA (b+4+n) 0 L):cC (.fn (n+1) 1 (fun i j=>bif Nat.blt i n then (eS b n L).at i j else ea.at (0+(i-n)) j)) (eS b (n+1) L):=by
 refine ⟨I,I,fun i j aa ae=> ?_⟩;obtain rfl:=e5.1 (show j<1 from ae);have aa:i<n+1:=aa;show al.aA (b+4+i) 0 L=bif Nat.blt i n then al.aA (b+4+i) 0 L else ea.at (0+(i-n)) 0;by_cases e:i<n
 ·rw [show Nat.blt i n=true from p5 e];rfl
 ·have aE:i=n:=J;subst aE;rw [show Nat.blt i i=false by
   cases h:Nat.blt i i with
   |false=>rfl
   |true=>exact absurd (ir h) (Nat.not_succ_le_self i)]
  rw [oD,eQ];exact aO.symm
theorem Bn {H:aX}{h i m:Nat}{o:bk}(aU:H[h]? =some (some o)):BN H (.aA h i m)=some (o.c,i,m):=by simp only [BN,aU]
theorem Mn {G:aX}{L w k:Nat}{X:ck}{d:Int}{β:List Nat}{T iU:aX}(h:Nat)(dB:cQ h G=G)(aU:G.length+4+X.length≤h)(cc:aM (cQ h T) iU):
 aM (cQ h (bn G none L w k X d β T)) (bn G none L w k X d β iU):=by
 unfold bn;rw [vo,dB];refine aM.append (aM.refl _) ?_;have e:cQ h (some (⟨249,iR G.length k β.length w d⟩:bk)::none::some ⟨3,fz β⟩::eU ⟨243,eS G.length X.length L⟩ 116 aR X T)
  =some ⟨249,iR G.length k β.length w d⟩::none::some ⟨3,fz β⟩::eU ⟨243,(eS G.length X.length L).forget h⟩ 116 aR X (cQ h T):=by show some (⟨_,Cells.box (al.jD _ _)⟩:bk)::none::some (⟨_,fz β⟩:bk)::cQ h (eU _ _ _ X _)=_;rw [yB h (n2 h)];simp [al.jD,al.forget,br,db (show G.length+3≠h by omega),db (show G.length+2≠h by omega)]
 rw [e];refine aM.same (aM.same (aM.same (w3 ⟨I,I,I,fun i j aa ae=> ?_⟩ cc)));obtain rfl:=e5.1 (show j<1 from ae);have aa:i<X.length:=aa;show al.aA (G.length+4+i) 0 L=al.forget h (al.aA (G.length+4+i) 0 L);unfold al.forget;rw [db (show G.length+4+i≠h by omega)];rfl
theorem agG {G:aX}{L w k:Nat}{X:ck}{d:Int}{β:List Nat}{y:Option bk}{t:TypeId}{c' jC:Cells}(dB:cQ (G.length+4+X.length) G=G)(av:cC c' jC):
 aM ((cQ (G.length+4+X.length) (bn G none L w k X d β [y])).set (G.length+4+X.length) (some ⟨t,c'⟩)) (bn G none L w k X d β [some ⟨t,jC⟩]):=by
 have e:bn G none L w k X d β [some ⟨t,jC⟩]=(bn G none L w k X d β [none]).set (G.length+4+X.length) (some ⟨t,jC⟩):=by have q:=jq (G:=G) (F:=none) (L:=L) (w:=w) (k:=k) (X:=X) (d:=d) (β:=β) (T:=[none]) 0 (some ⟨t,jC⟩);exact q.symm
 rw [e];exact aM.set (Mn (T:=[y]) (iU:=[none]) _ dB (bR _) (show aM [iC _ y] [none] from aM.drop aM.nil)) _ (fun o aj=>by cases aj;exact ⟨_,rfl,rfl,av⟩)
theorem akm {X:ck}{m:Nat}(h:X.length=m+1):X.take m++[X.getD m []]=X:=by
 apply lo (by rw [c2,ff,h];show min m (m+1)+1=m+1;omega);intro i U ab;by_cases e:i<m
 ·rw [List.getElem_append_left (by rw [ff];omega),List.getElem_take]
 ·have aE:i=m:=J;subst aE;rw [List.getElem_append_right (by rw [ff];omega)];simp [List.getD,h]
theorem afz {G:aX}{L w k m:Nat}{X:ck}{d:Int}{β:List Nat}(h:X.length=m+1):
 (bn G none L w k X d β []).set (G.length+3) (some ⟨243,eS G.length m L⟩)=bn G none L w k (X.take m) d β [some ⟨116,aR (X.getD m [])⟩]:=by
 refine (oY (i:=3) _ I).trans ?_;show G++(_::_::_::eU ⟨_,eS G.length m L⟩ _ _ X [])=_;have au:(X.take m).length=m:=by rw [ff,h];omega
 unfold bn;rw [Hl,akm h,au]
end Go.Proofs.YtmpnheilfejcpaaGreatDoor
namespace Go.Proofs.YtmpnheilfejcpaaGreatDoor
open Go.ai Go.ai.c8 Go.ai.cz Go.RowKit Go.ai.dL Go.ai.cI
attribute [local irreducible] ai ek bV cg hb
abbrev cn (l:List Nat):Cells:=fl 0 1 (fun n:Nat=>[br n]) l
def qT (y:List Rat)(f:List Nat)(k:Nat):List Rat:=(List.range k).map (fun i=>y.getD i 0*((f.getD i 0:Nat):Rat))
theorem aks (y:List Rat)(f:List Nat)(k:Nat):qT y f (k+1)=qT y f k++[y.getD k 0*((f.getD k 0:Nat):Rat)]:=by unfold qT;rw [r2,hS];rfl
theorem UR (y:List Rat)(f:List Nat)(k:Nat):(qT y f k).length=k:=by simp [qT]
theorem adl (n:Nat):cj ((n:Nat):Rat)= .agg [.bool false,br n,br 1]:=by unfold cj;have U:((n:Nat):Rat).num=(n:Int):=rfl;have ab:((n:Nat):Rat).den=1:=rfl;rw [U,ab,k1,fq J]
theorem WE (l:List Rat)(n:Nat):fy n (aQ l):=by
 intro i j _ ae;show hc n ((cb (l.getD i 0)).getD j .any)=true;have ae:j<3:=ae
 match j,ae with
 |0,_=>rfl
 |1,_=>rfl
 |2,_=>rfl
theorem SO (y:List Rat)(f:List Nat)(K:Nat)(au:y.length=f.length)(alP:y.length≤1000000)(aY: ∀q∈y,D K q)(aN: ∀n∈f,n<10^K)(dn:K≤895000):
 bD Tryz.prog 173 [.ro (aQ y) 0 y.length,.ro (cn f) 0 f.length] (.ro (aQ (qT y f y.length)) 0 y.length):=by
 have eY:=DP 1 a6;refine cg.value (K:=fun r H=>r= .aA 0 0 y.length∧H=[some ⟨118,aQ (qT y f y.length)⟩]) (hq (P:=Tryz.prog) (fn:=Tryz.f173) I I af I (fun c ay bK=> ?_)) (fix:=fun _=>False) (fun _ h=>h) I ?_
 ·refine fx ?_;refine kM 5 ⟨118,aQ (qT y f 0)⟩ I I ?_;repeat (refine fK ?_)
  refine cJ (ι:=Nat) (fun k=>[(1,.ro (cn f) 0 f.length),(5,.aA 0 0 k),(8,.ro (aQ y) 0 y.length),(9,ag y.length),(10,ag k)]) (fun k=>[some ⟨118,aQ (qT y f k)⟩])
   (fun k=>k≤y.length) (fun k=>y.length-k) 0 ⟨aH,rfl,cf _⟩ ?_
  intro k ao;refine bl ?_;refine bB I (fun h=> ?_) (fun h=> ?_)
  ·have b5:k<y.length:=J;have ZQ:k<f.length:=J;have ax:=aks y f k;have Al:=UR y f k;have Ym:=aY _ (dx 0 b5);have Yl:D (K+1) ((f.getD k 0:Nat):Rat):=Gi (q5 (aN _ (dx 0 ZQ)));have lu:=H4 (y.getD k 0) ((f.getD k 0:Nat):Rat) (qS (Ym.mono J)) (qS (Yl.mono J));rw [adl] at lu;generalize YJ:qT y f (k+1)=II at*;generalize qT y f k=du at*;refine bm ?_;refine c7 [some ⟨118,aQ du⟩,some ⟨118,.box [.bool false,.nil,.nil]⟩] I ?_;refine bP 7 (.ptr 1 0 0) I (aV.of_eq I) ?_;refine bP 14 (.agg (cb (y.getD k 0))) I (aV.of_eq I) ?_;refine dP (c':= .box (cb (y.getD k 0))) I I I I I I I (bN ?_);refine ko [some ⟨118,aQ du⟩,some ⟨118,.box (cb (y.getD k 0))⟩] I ?_;refine eN af ?_;refine bJ 0 I af af af I (bL I) I ?_;refine fe (fuel:=3) [1,2,3,4,5,6,7,8,9] [(15,.aA 0 0 k),(1,.ro (cn f) 0 f.length),(5,.aA 0 0 k),(8,.ro (aQ y) 0 y.length),(9,ag y.length),(10,ag k),(6,ag k),(7,.ptr 1 0 0)] aH af a6 I I ?_;refine dd ?_;refine en I I I I I eY ?_;refine dd ?_;refine en I I I I I lu ?_;refine fc ?_;unfold cj;refine bx 10 ?_;refine bz ?_;refine bx 11 ?_;refine dt I I I I I I I I I Al I I dW I (by show (k+1)*56≤_∧_;omega) ?_ c4 ?_
   ·intro aI j aa ae;exact hZ 0 3 cb tC du _ _ (mC _) 0 aI j aa ae
   refine fm [some ⟨118,aQ II⟩,some ⟨118,.box (cb (y.getD k 0))⟩] ?_ ?_
   ·rw [ax];exact aM.eqv (hB 0 3 cb du _ _ (mC _)) (aM.eqv (cC.refl _) aM.nil)
   refine bI ?_;refine bJ 12 I af af af I (dr I) I ?_;refine eM af ?_;repeat (refine ld ?_)
   refine b0 ?_;refine fC [some ⟨118,aQ II⟩] [some ⟨118,.box (cb (y.getD k 0))⟩] [(1,.ro (cn f) 0 f.length),(5,.aA 0 0 (k+1)),(8,.ro (aQ y) 0 y.length),(9,ag y.length),(10,ag k)] I aH (fun h aU=>by rw [bK] at aU;exact aU.elim) (fun h o aj=>by
    match h,aj with
    |0,aj=>cases aj;exact WE II _) rfl ?_
   refine bz ?_;exact ca ⟨k+1,J,J,aH,by rw [YJ]⟩
  ·have k4:k=y.length:=J;subst k4;refine bt ?_;exact bd ay I ⟨I,I⟩
 ·rintro r H ⟨rfl,rfl⟩;exact ⟨rfl,fun o aj=>by simp at aj;subst aj;exact Nat.le_of_eq (by simp [Cells.len,fl,UR]),vH (n1 _)⟩
theorem Tt {α:Type}(d:α)(n:Nat)(e:α→List al)(a b:List α):cC (.fn (a.length+b.length) n (fun i j=>bif Nat.blt i a.length then (fl d n e a).at i j else (fl d n e b).at (0+(i-a.length)) j)) (fl d n e (a++b)):=by
 refine ⟨by simp [fl,Cells.len],I,fun i j aa ae=> ?_⟩;show (e ((a++b).getD i d)).getD j .any=bif Nat.blt i a.length then (e (a.getD i d)).getD j .any else (e (b.getD (0+(i-a.length)) d)).getD j .any;by_cases h:i<a.length
 ·rw [show Nat.blt i a.length=true from p5 h,tU d h];rfl
 ·have ab:Nat.blt i a.length=false:=by
   cases e:Nat.blt i a.length with
   |false=>rfl
   |true=>(have:i+1≤a.length:=ir e;omega)
  rw [ab,c1];have:(a++b).getD i d=b.getD (i-a.length) d:=by simp only [List.getD];rw [jA J]
  rw [this];rfl
theorem W2 (l:List Rat)(au:l.length≤1000000):za Tryz.prog 206 [.ro (aQ l) 0 l.length] (fun N=> .aA N 0 l.length) ⟨118,aQ l⟩:=by
 refine cg.fresh (K:=fun r H=>r= .aA 0 0 l.length∧H=[some ⟨118,aQ l⟩]) (hq (P:=Tryz.prog) (fn:=Tryz.f206) I I af I (fun c ay bK=> ?_)) (fix:=fun _=>False) (fun _ h=>h) I (fun H=>⟨I,by simp [oe,na]⟩) ?_
 ·refine bN ?_;refine Mv I I I (fun b ak=> ?_);refine bN ?_;refine tT I (fun h=> ?_) (fun h=> ?_)
  ·have:=ak h;have aF:l=[]:=uC.mp this;subst aF;refine cM ?_;refine kM 2 ⟨118,aQ []⟩ I I (dw ?_);exact bd ay I ⟨I,I⟩
  ·refine bI ?_;refine tF I I I I I I I I I I ?_;refine fm [some ⟨118,aQ []⟩] (aM.eqv ⟨I,I,fun i j aa=>absurd aa (gy _)⟩ aM.nil) ?_;repeat (refine an (bL rfl) ?_)
   refine dt I I I I I I I I I I I I (by show 0+l.length≤l.length;omega) I (by show (0+l.length)*56≤_∧_;omega) ?_ c4 ?_
   ·intro aI a7 aP bf;have q:=(Tt 0 3 cb [] l).2.2 aI a7 aP bf;refine (congrArg (al.forget 0) q.symm).trans (r5 ?_ q);exact tC _ a7 0 bf
   refine fm [some ⟨118,aQ l⟩] (aM.eqv (Tt 0 3 cb [] l) aM.nil) (bN ?_);refine bd ay I ⟨?_,I⟩;show al.aA 0 0 (0+l.length)=_;rw [c1]
 ·rintro r H ⟨rfl,rfl⟩;refine ⟨?_,fun h o aj=>vH (n1 _) h o aj,0,I,fun n=>rfl⟩;intro o aj;simp at aj;subst aj;show 0+l.length≤l.length;omega
theorem Hw (N:Nat)(a:List Int):(aR a).shift N=aR a:=by
 show Cells.fn _ _ _=Cells.fn _ _ _;congr 1;funext i j
 match j with
 |0=>rfl
 |1=>rfl
 |_+2=>rfl
theorem TT (l:List Rat)(K:Nat)(e0: ∀q∈l,D K q)(hlen:l.length≤1000)(dn:K*l.length+K≤900000):
 EE Tryz.prog 174 [.ro (aQ l) 0 l.length] (.cd [.aA 0 0 l.length,br (hp 1 l)]) [some ⟨116,aR (hn l)⟩]:=by have eY:=akw l K e0 hlen dn;refine cg.many (hq (P:=Tryz.prog) (fn:=Tryz.f174) I I af I (fun c ay bK=> ?_)) (fix:=fun _=>False) (fun _ h=>h) I;refine bN ?_;refine HD (.cd [.aA 0 0 l.length,br (hp 1 l)]) [some ⟨116,aR (hn l)⟩] I I I eY I (by show []++[some (⟨_,(aR (hn l)).shift 0⟩:bk)]=_;rw [Hw];rfl) (dw ?_);exact bd ay I ⟨I,I⟩
theorem So (B:List Rat)(i:Nat)(aa:(B.getD i 0).num<0): ∀d,∃r,eb B (i+1+d)=eb B i++i::r
 |0=>⟨[],by show eb B (i+1)=_;rw [eb,aG aa]⟩
 |d+1=>by
  obtain ⟨r,ad⟩:=So B i aa d;show∃r,eb B (i+1+d+1)=_;rw [eb];split
  ·exact ⟨r++[i+1+d],by rw [ad];simp⟩
  ·exact ⟨r,ad⟩
theorem acd (B:List Rat){i m:Nat}(aa:i<m):Go.ai.kz.iy (Go.ai.eD.pv (i:Int)) ((eb B m).map (fun a:Nat=>(a:Int)))=if (B.getD i 0).num<0 then ((eL B i:Nat):Int) else-1:=by
 have iI: ∀l:List Nat,i∉l→(l.map (fun a:Nat=>(a:Int))).any (Go.ai.eD.pv (i:Int))=false:=by intro l au;rw [r1];intro x ar;obtain ⟨a,a1,rfl⟩:=da.1 ar;simp only [Go.ai.eD.pv,eX];intro e;have:i=a:=J;exact au (this▸a1)
 by_cases h:(B.getD i 0).num<0
 ·rw [aG h];obtain ⟨r,ad⟩:=So B i h (m-(i+1));rw [show i+1+(m-(i+1))=m by omega] at ad;have Af:i∉eb B i:=fun q=>absurd (HP.1 q).1 (ov i);have au:(eb B i).length≤((eb B m).map (fun a:Nat=>(a:Int))).length:=by rw [ad];simp
  have bs:((eb B m).map (fun a:Nat=>(a:Int))).take (eb B i).length=(eb B i).map (fun a:Nat=>(a:Int)):=by rw [ad,hS,List.take_left' bZ]
  have hd:((eb B m).map (fun a:Nat=>(a:Int))).drop (eb B i).length=(i:Int)::r.map (fun a:Nat=>(a:Int)):=by rw [ad,hS,List.drop_left' bZ];rfl
  rw [Go.ai.kz.rk _ _ (eb B i).length (by rw [bs];exact iI _ Af) au,hd];have iX:Go.ai.kz.iy (Go.ai.eD.pv (i:Int)) ((i:Int)::r.map (fun a:Nat=>(a:Int)))=0:=by rw [Go.ai.kz.iy,aG (by simp [Go.ai.eD.pv])]
  rw [iX,az J];show (0:Int)+((eb B i).length:Nat)=_;rw [Int.zero_add]
 ·rw [az h];have Af:i∉eb B m:=fun q=>h (HP.1 q).2;rw [Go.ai.kz.rk _ _ ((eb B m).map (fun a:Nat=>(a:Int))).length (by rw [gb];exact iI _ Af) (bR _),r7];rfl
section
variable {G:aX}{F:Option bk}{L w k:Nat}{X:ck}{d:Int}{β:List Nat}{T iU:aX}
abbrev Ic (G:aX)(F:Option bk)(L w:Nat)(X:ck)(d:Int)(β:List Nat)(T:aX):aX:=
 G++(some ⟨249,.box [.any,.bool (decide (d<0)),br d.natAbs,.aA (G.length+2) 0 β.length,ag w]⟩::F::some ⟨3,fz β⟩::eU ⟨243,eS G.length X.length L⟩ 116 aR X T)
theorem Wl:(Ic G F L w X d β T)[G.length]? =some (some ⟨249,.box [.any,.bool (decide (d<0)),br d.natAbs,.aA (G.length+2) 0 β.length,ag w]⟩):=sK (i:=0) rfl
theorem Wm:(Ic G F L w X d β T).set G.length (some ⟨249,iR G.length k β.length w d⟩)=bn G F L w k X d β T:=oY (i:=0) _ rfl
abbrev Eo (G:aX)(F:Option bk)(L w k:Nat)(X:ck)(d:Int)(β:List Nat)(T:aX):aX:=
 G++(some ⟨249,.box [.aA (G.length+3) 0 k,.bool (decide (d<0)),br d.natAbs,.any,ag w]⟩::F::some ⟨3,fz β⟩::eU ⟨243,eS G.length X.length L⟩ 116 aR X T)
theorem Wz:(Eo G F L w k X d β T)[G.length]? =some (some ⟨249,.box [.aA (G.length+3) 0 k,.bool (decide (d<0)),br d.natAbs,.any,ag w]⟩):=sK (i:=0) rfl
theorem WA:(Eo G F L w k X d β T).set G.length (some ⟨249,iR G.length k β.length w d⟩)=bn G F L w k X d β T:=oY (i:=0) _ rfl
theorem Vi (h:Nat)(B:Cells)(dB:cQ h G=G)(ki:iC h F=F){O:Cells}(Yz:cC (O.forget h) O)(cc:aM (cQ h T) iU):
 aM (cQ h (G++(some ⟨249,B⟩::F::some ⟨3,fz β⟩::eU ⟨243,O⟩ 116 aR X T))) (G++(some ⟨249,B.forget h⟩::F::some ⟨3,fz β⟩::eU ⟨243,O⟩ 116 aR X iU)):=by
 rw [vo,dB];refine aM.append (aM.refl _) ?_;have e:cQ h (some (⟨249,B⟩:bk)::F::some ⟨3,fz β⟩::eU ⟨243,O⟩ 116 aR X T)
  =some ⟨249,B.forget h⟩::F::some ⟨3,fz β⟩::eU ⟨243,O.forget h⟩ 116 aR X (cQ h T):=by show some (⟨_,B.forget h⟩:bk)::iC h F::some (⟨_,fz β⟩:bk)::cQ h (eU _ _ _ X _)=_;rw [yB h (n2 h),ki]
 rw [e];exact aM.same (aM.same (aM.same (w3 ⟨I,Yz⟩ cc)))
theorem Nk (b n L h:Nat)(aU:b+4+n≤h∨h<b+4):cC ((eS b n L).forget h) (eS b n L):=by refine ⟨I,I,fun i j aa ae=> ?_⟩;obtain rfl:=e5.1 (show j<1 from ae);have aa:i<n:=aa;show al.aA (b+4+i) 0 L=al.forget h (al.aA (b+4+i) 0 L);unfold al.forget;rw [db (show b+4+i≠h by omega)];rfl
theorem VR (b k m w h:Nat)(d:Int)(U:b+3≠h)(ab:b+2≠h):(iR b k m w d).forget h=iR b k m w d:=by show Cells.box (al.jD h _)=_;simp [al.jD,al.forget,br,db U,db ab]
theorem afw (b k m w:Nat)(d:Int):(iR b k m w d).forget (b+3)= .box [.any,.bool (decide (d<0)),br d.natAbs,.aA (b+2) 0 m,ag w]:=by show Cells.box (al.jD _ _)=_;simp [al.jD,al.forget,br,db (show b+2≠b+3 by omega)]
theorem afv (b k m w:Nat)(d:Int):(iR b k m w d).forget (b+2)= .box [.aA (b+3) 0 k,.bool (decide (d<0)),br d.natAbs,.any,ag w]:=by show Cells.box (al.jD _ _)=_;simp [al.jD,al.forget,br,db (show b+3≠b+2 by omega)]
theorem SL (h:Nat)(aU:G.length+4+X.length≤h∨h=G.length+1)(dB:cQ h G=G)(ki:iC h F=F)(cc:aM (cQ h T) iU):aM (cQ h (bn G F L w k X d β T)) (bn G F L w k X d β iU):=by have q:=Vi (X:=X) (β:=β) h (iR G.length k β.length w d) dB ki (Nk G.length X.length L h J) cc;rw [VR _ _ _ _ _ _ J J] at q;exact q
theorem agt {y:Option bk}{t:TypeId}{c' jC:Cells}(dB:cQ (G.length+4+X.length) G=G)(ki:iC (G.length+4+X.length) F=F)(av:cC c' jC):
 aM ((cQ (G.length+4+X.length) (bn G F L w k X d β [y])).set (G.length+4+X.length) (some ⟨t,c'⟩)) (bn G F L w k X d β [some ⟨t,jC⟩]):=by
 have e:bn G F L w k X d β [some ⟨t,jC⟩]=(bn G F L w k X d β [none]).set (G.length+4+X.length) (some ⟨t,jC⟩):=by have q:=jq (G:=G) (F:=F) (L:=L) (w:=w) (k:=k) (X:=X) (d:=d) (β:=β) (T:=[none]) 0 (some ⟨t,jC⟩);exact q.symm
 rw [e];exact aM.set (SL (T:=[y]) (iU:=[none]) _ (.inl (bR _)) dB ki (show aM [iC _ y] [none] from aM.drop aM.nil)) _ (fun o aj=>by cases aj;exact ⟨_,rfl,rfl,av⟩)
theorem ags {c' jC:Cells}{t:TypeId}(dB:cQ (G.length+1) G=G)(av:cC c' jC)(cc:aM (cQ (G.length+1) T) iU):
 aM ((cQ (G.length+1) (bn G F L w k X d β T)).set (G.length+1) (some ⟨t,c'⟩)) (bn G (some ⟨t,jC⟩) L w k X d β iU):=by
 have e:bn G (some ⟨t,jC⟩) L w k X d β iU=(bn G none L w k X d β iU).set (G.length+1) (some ⟨t,jC⟩):=by refine Eq.symm ((oY (i:=1) _ I).trans ?_);rfl
 rw [e];have aE:cQ (G.length+1) (bn G F L w k X d β T)=G++(some ⟨249,iR G.length k β.length w d⟩::iC (G.length+1) F::some ⟨3,fz β⟩::eU ⟨243,(eS G.length X.length L).forget (G.length+1)⟩ 116 aR X (cQ (G.length+1) T)):=by unfold bn;rw [vo,dB];show G++(some (⟨_,(iR G.length k β.length w d).forget (G.length+1)⟩:bk)::iC (G.length+1) F::some (⟨_,fz β⟩:bk)::cQ (G.length+1) (eU _ _ _ X _))=_;rw [yB (G.length+1) (n2 (G.length+1)),VR _ _ _ _ _ _ J J]
 rw [aE];have q:aM (G++(some ⟨249,iR G.length k β.length w d⟩::iC (G.length+1) F::some ⟨3,fz β⟩::eU ⟨243,(eS G.length X.length L).forget (G.length+1)⟩ 116 aR X (cQ (G.length+1) T))) (bn G none L w k X d β iU):=
  aM.append (aM.refl _) (aM.same (aM.drop (aM.same (w3 (O:=⟨243,(eS G.length X.length L).forget (G.length+1)⟩) (xw:=⟨243,eS G.length X.length L⟩) ⟨rfl,Nk G.length X.length L (G.length+1) (.inr J)⟩ cc))))
 exact aM.set q _ (fun o aj=>by cases aj;exact ⟨_,rfl,rfl,av⟩)
theorem agr {c':Cells}{vL:List Nat}(dB:cQ (G.length+2) G=G)(ki:iC (G.length+2) F=F)(av:cC c' (fz vL))(cc:aM (cQ (G.length+2) T) iU):
 aM ((cQ (G.length+2) (bn G F L w k X d β T)).set (G.length+2) (some ⟨3,c'⟩)) (Eo G F L w k X d vL iU):=by
 have q:=Vi (X:=X) (β:=β) (G.length+2) (iR G.length k β.length w d) dB ki (Nk G.length X.length L _ J) cc;rw [afv] at q;have e:Eo G F L w k X d vL iU=(G++(some ⟨249,.box [.aA (G.length+3) 0 k,.bool (decide (d<0)),br d.natAbs,.any,ag w]⟩::F::some ⟨3,fz β⟩::eU ⟨243,eS G.length X.length L⟩ 116 aR X iU)).set (G.length+2) (some ⟨3,fz vL⟩):=by refine Eq.symm ((oY (i:=2) _ I).trans ?_);rfl
 rw [e];exact aM.set q _ (fun o aj=>by cases aj;exact ⟨_,rfl,rfl,av⟩)
theorem aiO {x:List Int}{a:Option bk}{c':Cells}(dB:cQ (G.length+3) G=G)(ki:iC (G.length+3) F=F)(av:cC c' (eS G.length (X.length+1) L)):
 aM ((cQ (G.length+3) (bn G F L w k X d β [some ⟨116,aR x⟩,a])).set (G.length+3) (some ⟨243,c'⟩)) (Ic G F L w (X++[x]) d β [none]):=by
 have aE:cQ (G.length+3) (bn G F L w k X d β [some ⟨116,aR x⟩,a])=G++(some ⟨249,.box [.any,.bool (decide (d<0)),br d.natAbs,.aA (G.length+2) 0 β.length,ag w]⟩::F::some ⟨3,fz β⟩::eU ⟨243,(eS G.length X.length L).forget (G.length+3)⟩ 116 aR X [some ⟨116,aR x⟩,iC (G.length+3) a]):=by
  unfold bn;rw [vo,dB];show G++(some (⟨_,(iR G.length k β.length w d).forget (G.length+3)⟩:bk)::iC (G.length+3) F::some (⟨_,fz β⟩:bk)::cQ (G.length+3) (eU _ _ _ X _))=_;rw [yB (G.length+3) (n2 (G.length+3)),afw,ki];show _=G++(_::_::_::eU _ _ _ X [some (⟨116,aR x⟩:bk),_])
  rw [show cQ (G.length+3) [some (⟨116,aR x⟩:bk),a]=[some ⟨116,(aR x).forget (G.length+3)⟩,iC (G.length+3) a] from rfl,n2]
 rw [aE,show∀xw:Option bk,(G++(some (⟨249,.box [.any,.bool (decide (d<0)),br d.natAbs,.aA (G.length+2) 0 β.length,ag w]⟩:bk)::F::some ⟨3,fz β⟩::eU ⟨243,(eS G.length X.length L).forget (G.length+3)⟩ 116 aR X [some ⟨116,aR x⟩,iC (G.length+3) a])).set (G.length+3) xw=_ from fun xw=>oY (i:=3) _ rfl];refine aM.append (aM.refl _) (aM.same (aM.same (aM.same ?_)));show aM (eU ⟨243,c'⟩ 116 aR X _) _;rw [Hl];refine w3 ⟨I,?_⟩ (aM.drop aM.nil);show cC c' (eS G.length (X++[x]).length L);rw [c2];exact av
end
theorem acn (h:Nat)(l:List Nat):(cn l).forget h=cn l:=by
 show Cells.fn _ _ _=Cells.fn _ _ _;congr 1;funext i j
 match j with
 |0=>rfl
 |_+1=>rfl
theorem aiB (l:List Nat):eV (cn l):=by intro i j _ ae;obtain rfl:=e5.1 (show j<1 from ae);rfl
end Go.Proofs.YtmpnheilfejcpaaGreatDoor
namespace Go.Proofs.YtmpnheilfejcpaaGreatDoor
open Go.ai Go.ai.c8 Go.ai.cz Go.RowKit Go.ai.dL Go.ai.cI Go.ai.lN
attribute [local irreducible] ai ek bV cg hb
theorem UW (n:Nat)(aF:n≤1000000):za Tryz.prog 180 [ag n] (fun N=> .aA N 0 n) ⟨118,aQ (List.replicate n 0)⟩:=by
 refine cg.fresh (K:=fun r H=>r= .aA 0 0 n∧H=[some ⟨118,aQ (List.replicate n 0)⟩]) (hq (P:=Tryz.prog) (fn:=Tryz.f180) I I af I (fun c ay bK=> ?_)) (fix:=fun _=>False) (fun _ h=>h) I (fun H=>⟨I,by simp [oe,na]⟩) ?_
 ·refine bN ?_;refine kM 3 ⟨118,aQ []⟩ I I ?_;repeat (refine fK ?_)
  refine cJ (ι:=Nat) (fun i=>[(3,.aA 0 0 i),(4,ag n),(5,ag i)]) (fun i=>[some ⟨118,aQ (List.replicate i 0)⟩]) (fun i=>i≤n) (fun i=>n-i) 0 ⟨aH,I,cf _⟩ ?_;intro i aa;have e6:(List.replicate i (0:Rat)).length=i:=fw ..;have Ko:List.replicate (i+1) (0:Rat)=List.replicate i 0++[0]:=List.replicate_succ' ..;refine bl ?_;refine bB I (fun h=> ?_) (fun h=> ?_)
  ·generalize z8:List.replicate (i+1) (0:Rat)=fB at*;generalize List.replicate i (0:Rat)=l at*;refine bI ?_;refine aZ I I I nq ?_;unfold cj;repeat (refine iG rfl rfl rfl rfl rfl rfl rfl rfl rfl rfl rfl ?_)
   refine dt I I I I I I I I I e6 I I dW I (by show (i+1)*56≤_∧_;omega) ?_ c4 ?_
   ·intro aI a7 aP bf;exact hZ 0 3 cb tC l _ _ (mC _) _ aI a7 aP bf
   refine fm [some ⟨118,aQ (l++[0])⟩] (aM.eqv (hB 0 3 cb l 0 _ (mC _)) aM.nil) (bt ?_);exact ca ⟨i+1,J,J,aH,by rw [z8,Ko]⟩
  ·have df:i=n:=J;subst df;refine bt ?_;exact bd ay I ⟨I,I⟩
 ·rintro r H ⟨rfl,rfl⟩;refine ⟨?_,fun h o aj=>vH (n1 _) h o aj,0,I,fun n=>rfl⟩;intro o aj;simp at aj;subst aj;show 0+n≤(List.replicate n (0:Rat)).length;rw [fw];omega
theorem HA (t:aT)(cc:kY t):bD Tryz.prog 23 [.ro (bS t) 0 t.length] (.int .i64 (kV t)):=by
 have zF:=ako t cc;refine cm Tryz.f23 fun c ay bK=> ?_;unfold kV at ay;refine bN ?_;refine aZ I I I zF (bz ?_);refine bB I (fun h=> ?_) (fun h=> ?_)
 ·rw [aG h] at ay;refine dw ?_;exact bd ay I I
 rw [az h] at ay;have ah:=US (jV.1 h);have lP:=SH t 0 cc ah;have eY:=SH t 1 cc ah;cases wu:nt t 0
 ·rw [wu] at lP ay;rw [aG (fun q=>r6 q.1)] at ay;refine bI ?_;refine aZ I I I lP (bm ?_);exact bd ay I I
 cases CO:nt t 1
 ·rw [wu] at lP;rw [CO] at eY ay;rw [aG (fun q=>r6 q.2)] at ay;refine bI ?_;refine aZ I I I lP (bt ?_);refine aZ I I I eY (bt ?_);exact bd ay I I
 rw [wu] at lP;rw [CO] at eY;rw [wu,CO,az (fun q=>q ⟨rfl,rfl⟩)] at ay;refine bI ?_;refine aZ I I I lP (bt ?_);refine aZ I I I eY (bt ?_);refine cJ (ι:=Nat) (fun i=>[(0,.ro (bS t) 0 t.length),(20,ag i)]) (fun _=>[]) (fun i=>i≤2∧ ∀k:Nat,k<i→aS t (k:Int)≤13∧(di t (k:Int)).length≤6) (fun i=>2-i) 0 ⟨aH,I,cf _,fun k ao=>absurd ao (gy _)⟩ ?_;rintro i ⟨aa,gP⟩;refine bl ?_;refine bB I (fun ab=> ?_) (fun ab=> ?_)
 ·have pD:i<2:=J;have cs:=VH t (i:Int) cc.1;have mR:=Ey t (i:Int) cc ah;unfold l8 at mR;have O6:13<aS t (i:Int)∨6<(di t (i:Int)).length→(13<aS t 0∨6<(di t 0).length∨13<aS t 1∨6<(di t 1).length):=by
   intro q;have:i=0∨i=1:=J;rcases this with rfl|rfl
   ·rcases q with q|q
    ·exact .inl q
    ·exact .inr (.inl q)
   ·rcases q with q|q
    ·exact .inr (.inr (.inl q))
    ·exact .inr (.inr (.inr q))
  refine bI ?_;refine aZ I I I cs (dw ?_);refine aZ I I I mR ?_;repeat (first|refine an (bL rfl) ?_|refine an (BM rfl rfl) ?_|refine an (gC rfl rfl rfl) ?_|refine an (pN rfl rfl rfl rfl) ?_|refine an (vl rfl) ?_|refine an (oW rfl rfl rfl rfl rfl rfl) ?_)
  refine gS I I (fun bO=> ?_) (fun bO=> ?_)
  ·rw [aG (O6 (.inl (by show 13<(cp t (i:Int)).length;omega)))] at ay;refine bm ?_;exact bd ay I I
  ·refine bm ?_;refine bB I (fun bW=> ?_) (fun bW=> ?_)
   ·rw [aG (O6 (.inr J))] at ay;refine bm ?_;exact bd ay I I
   ·refine bt ?_;exact ca ⟨i+1,⟨J,fun k ao=>by
     rcases ga k i with q|q
     ·exact gP k q
     ·obtain rfl:k=i:=J;exact ⟨by show (cp t (k:Int)).length≤13;omega,J⟩⟩,J,aH,I⟩
 ·have df:i=2:=J;subst df;have a0:=gP 0 J;have gx:=gP 1 J;have a0:aS t 0≤13∧(di t 0).length≤6:=a0;have gx:aS t 1≤13∧(di t 1).length≤6:=gx;rw [az J] at ay;refine bt ?_;exact bd ay I I
end Go.Proofs.YtmpnheilfejcpaaGreatDoor
namespace Go.Proofs.YtmpnheilfejcpaaGreatDoor
open Go.ai Go.ai.c8 Go.ai.cz Go.RowKit Go.ai.dL Go.ai.cI
attribute [local irreducible] ai ek bV cg hb
def Ea:Option Rat→List al
 |some q=>cb q
 |none=>[.bool false,.nil,.nil]
abbrev oi (l:List (Option Rat)):Cells:=fl none 3 Ea l
theorem UX (n:Nat):cC (nZ n [.bool false,.nil,.nil]) (oi (List.replicate n none)):=by
 refine ⟨by simp [fl,Cells.len,nZ],I,fun i j aa ae=> ?_⟩;have aa:i<n:=by simpa [Cells.len,nZ] using aa
 show (Ea ((List.replicate n (none:Option Rat)).getD i none)).getD j .any=_;rw [e9 none (by simpa using aa),Ca];rfl
theorem VU (l:List Rat):cC (oi (l.map some)) (aQ l):=by
 refine ⟨by simp [fl,Cells.len],I,fun i j aa ae=> ?_⟩;have aa:i<l.length:=by simpa [fl,Cells.len] using aa
 show (cb (l.getD i 0)).getD j .any=(Ea ((l.map some).getD i none)).getD j .any;rw [qA some l 0 none i aa];rfl
theorem vt (l:List Rat)(n:Nat):fy n (aQ l):=by
 intro i j _ ae;show hc n ((cb (l.getD i 0)).getD j .any)=true;have ae:j<3:=ae
 match j,ae with
 |0,_=>rfl
 |1,_=>rfl
 |2,_=>rfl
theorem iN {α:Type}(d:α)(n:Nat)(e:α→List al)(zs:List α)(k:Nat)(a:α)(ao:k<zs.length)(aI a7:Nat)(aP:aI<zs.length)(bf:a7<n):(fl d n e (zs.set k a)).at aI a7=if aI=k then (e a).getD a7 .any else (fl d n e zs).at aI a7:=by
 show (e ((zs.set k a).getD aI d)).getD a7 .any=if aI=k then (e a).getD a7 .any else (e (zs.getD aI d)).getD a7 .any
 rw [Go.ai.dL.fG];by_cases h:aI=k
 ·rw [aG h,aG ⟨h,ao⟩]
 ·rw [az h,az (fun q=>h q.1)]
theorem Vz (n:Nat):dv (fun _=>some (0:Rat)) none (List.replicate n none) n=(List.replicate n (0:Rat)).map some:=by have:=vB (fun _=>some (0:Rat)) none (List.replicate n none);rw [fw] at this;rw [this,List.map_replicate];apply lo bZ;intro i U ab;simp
theorem qv (β:List Nat)(i:Nat):(β.map (fun a:Nat=>(a:Int))).getD i 0=((β.getD i 0:Nat):Int):=by simp only [List.getD,me];cases β[i]? <;>rfl
theorem DN (G:aX)(dB:rR G)(N w k:Nat)(X:ck)(d:Int)(β:List Nat)(T:aX)(cc: ∀m,G.length+4+X.length≤m→ ∀o:bk,some o∈T→fy m o.c)(b3:Nat)(tl:b3≤1000000)(ZN:k≤X.length)(va:β.length≤k)(CH:k≤1000000)(cv: ∀x∈X,x.length=N+1)(Jf:N+1≤1000000)(hd:d≠0)(iv: ∀i,i<β.length→(aW (aq X i N).natAbs).length≤1000000)(nK:(aW d.natAbs).length≤1000000):
 cg Tryz.prog 178 [.ptr G.length 0 0,ag b3] (bn G none (N+1) w k X d β T) (fun h=>h<(bn G none (N+1) w k X d β T).length)
  (fun dk bE=>dk= .ro (aQ (ik b3 β (fun i=>Rat.divInt (aq X i N) d) (List.replicate b3 0) β.length)) 0 b3∧bE=bn G none (N+1) w k X d β T):=by
 have hlen: ∀T,(bn G none (N+1) w k X d β T).length=G.length+4+X.length+T.length:=fun T=>h1;refine hq (P:=Tryz.prog) (fn:=Tryz.f178) I I af I (fun c ay bK=> ?_);refine bN ?_;refine l6 I I I I I I I I (by show (0:Int)≤_∧_≤_∧(56:Int)*_≤_∧_;omega) ?_;refine fm (bn G none (N+1) w k X d β T++[some ⟨118,oi (List.replicate b3 none)⟩]) (aM.append (aM.refl _) (aM.eqv (UX _) aM.nil)) ?_;refine c7 (bn G none (N+1) w k X d β (T++[some ⟨118,oi (dv (fun _=>some (0:Rat)) none (List.replicate b3 none) 0)⟩])) (by rw [fM,tI]) ?_;refine bP 10 (.aA (G.length+4+X.length+T.length) 0 b3) I (aV.of_eq (by rw [hlen];rfl)) (bz ?_);refine cJ (ι:=Nat) (fun i=>[(0,.ptr G.length 0 0),(1,ag b3),(5,.aA (G.length+4+X.length+T.length) 0 b3),(12,ag b3),(13,ag i)]) (fun i=>bn G none (N+1) w k X d β (T++[some ⟨118,oi (dv (fun _=>some (0:Rat)) none (List.replicate b3 none) i)⟩]))
  (fun i=>i≤b3) (fun i=>b3-i) 0 ⟨aH,rfl,cf _⟩ ?_
 intro i aa;refine bl ?_;refine bB I (fun h=> ?_) (fun h=> ?_)
 ·have aP:i<b3:=J;have dH:=sL (fun _=>some (0:Rat)) none (List.replicate b3 none) (k:=i) (by simpa using aP);have ia:(dv (fun _=>some (0:Rat)) none (List.replicate b3 none) i).length=b3:=by rw [pP];simp
  generalize dv (fun _=>some (0:Rat)) none (List.replicate b3 none) i=A at*;have f1:=vG (G:=G) (F:=none) (L:=N+1) (w:=w) (k:=k) (X:=X) (d:=d) (β:=β) (T:=T) (some ⟨118,oi A⟩);have wj:i<(oi A).len:=by show i<A.length;omega
  refine bI ?_;refine aZ I I I nq ?_;unfold cj;repeat (refine an (lA rfl rfl rfl) ?_)
  refine er (c':=oi (A.set i (some 0))) I I I f1 I wj (dj ..) I (fun aI a7 aP bf=>iN none 3 Ea A i (some 0) wj aI a7 aP bf) ?_;refine c7 (bn G none (N+1) w k X d β (T++[some ⟨118,oi (A.set i (some 0))⟩])) (wT _ _) (bt ?_);exact ca ⟨i+1,J,J,aH,by rw [dH]⟩
 have df:i=b3:=J;rw [df,Vz];clear aa h df;clear i;have f2:=hJ (G:=G) (F:=none) (L:=N+1) (w:=w) (k:=k) (X:=X) (d:=d) (β:=β) (T:=T++[some ⟨118,aQ (ik b3 β (fun i=>Rat.divInt (aq X i N) d) (List.replicate b3 0) 0)⟩]);refine nn (bn G none (N+1) w k X d β T++[some ⟨118,aQ (List.replicate b3 0)⟩]) (by rw [←fM];exact aM.append (aM.refl _) (aM.eqv (VU _) aM.nil)) ?_;refine ko (bn G none (N+1) w k X d β (T++[some ⟨118,aQ (ik b3 β (fun i=>Rat.divInt (aq X i N) d) (List.replicate b3 0) 0)⟩])) (by rw [fM];rfl) (yu ?_);refine cJ (ι:=Nat) (fun i=>[(0,.ptr G.length 0 0),(1,ag b3),(5,.aA (G.length+4+X.length+T.length) 0 b3),(24,.aA (G.length+2) 0 β.length),(25,ag β.length),(26,ag i)]) (fun i=>bn G none (N+1) w k X d β (T++[some ⟨118,aQ (ik b3 β (fun i=>Rat.divInt (aq X i N) d) (List.replicate b3 0) i)⟩]))
  (fun i=>i≤β.length) (fun i=>β.length-i) 0 ⟨aH,rfl,cf _⟩ ?_
 clear f2;intro i aa;have Jj:=vx b3 β (fun i=>Rat.divInt (aq X i N) d) (List.replicate b3 0) i;rw [fw] at Jj;refine bl ?_;refine bB I (fun h=> ?_) (fun h=> ?_)
 ·have aP:i<β.length:=J;have dH:ik b3 β (fun i=>Rat.divInt (aq X i N) d) (List.replicate b3 0) (i+1)=if β.getD i 0<b3 then (ik b3 β (fun i=>Rat.divInt (aq X i N) d) (List.replicate b3 0) i).set (β.getD i 0) (Rat.divInt (aq X i N) d) else ik b3 β (fun i=>Rat.divInt (aq X i N) d) (List.replicate b3 0) i:=rfl
  generalize ik b3 β (fun i=>Rat.divInt (aq X i N) d) (List.replicate b3 0) i=V at*;have f1:=hJ (G:=G) (F:=none) (L:=N+1) (w:=w) (k:=k) (X:=X) (d:=d) (β:=β) (T:=T++[some ⟨118,aQ V⟩]);have f2:=uf (G:=G) (F:=none) (L:=N+1) (w:=w) (k:=k) (X:=X) (d:=d) (β:=β) (T:=T++[some ⟨118,aQ V⟩]);have g2:i<(β.map (fun a:Nat=>(a:Int))).length:=by rw [cL];exact aP
  refine cM ?_;refine bB I (fun U=> ?_) (fun U=> ?_)
  ·rw [qv] at U;have ak:β.getD i 0<b3:=J;rw [aG ak] at dH;refine eA 8 (ag (β.getD i 0)) I (aV.of_eq (by rw [qv])) ?_;have C2:(X.getD i []).length=N+1:=cv _ (dx [] J);have f3:=mB (G:=G) (F:=none) (L:=N+1) (w:=w) (k:=k) (X:=X) (d:=d) (β:=β) (T:=T++[some ⟨118,aQ V⟩]);have f4:=ma (G:=G) (F:=none) (L:=N+1) (w:=w) (k:=k) (X:=X) (d:=d) (β:=β) (T:=T++[some ⟨118,aQ V⟩]) (a:=i) J;have f5:=vG (G:=G) (F:=none) (L:=N+1) (w:=w) (k:=k) (X:=X) (d:=d) (β:=β) (T:=T) (some ⟨118,aQ V⟩);have g3:i<(eS G.length X.length (N+1)).len:=by show i<X.length;omega
   have g4:N<(aR (X.getD i [])).len:=by show N<(X.getD i []).length;omega
   have g5:β.getD i 0<(aQ V).len:=by show _<V.length;omega
   have ZS:=hlen T;have Cd:=KZ G dB (N+1) w k X d β (T++[some ⟨118,aQ V⟩]) (fun o aj=>by
    rw [hlen];rcases gz.1 aj with q|q
    ·exact cc _ J o q
    ·cases hR.1 q;exact vt V _) (aq X i N) hd (iv i aP) nK
   skip
   refine eN af ?_;refine fe (fuel:=1) [0,1,2,3,4,5,6,7,8,9,10,11,12,13,14,15,16,17,18,19,20,21,22] [(0,.ptr G.length 0 0),(1,ag b3),(5,.aA (G.length+4+X.length+T.length) 0 b3),(7,ag i),(8,ag (β.getD i 0)),(24,.aA (G.length+2) 0 β.length),(25,ag β.length),(26,ag i)] aH af a6 I I ?_;refine cy I I (bL I) ?_;refine cy I I (bL I) ?_;refine cy I I (bL I) ?_;refine cy I I (bL I) ?_;refine cy I I (jQ I) ?_;refine cy I I (dh I I I I I I) ?_;refine cy I I (n0 I I I hv kl) ?_;refine cy I I (bL I) ?_;refine cy I I (lA I I I) ?_;refine cy I I (Dk I I I hv I mq) ?_;refine cy I I (bL I) ?_;refine cy I I (jQ I) ?_;refine cy I I (dh I I I I I I) ?_;refine cy I I (n0 I I I hv kl) ?_;refine cy I I (bL I) ?_;refine cy I I (lA I I I) ?_;refine cy I I (Dk I I I hv I mq) ?_;refine cy I I (gC I I I) ?_;refine cy I I (qJ I I J) ?_;refine cy I I (yC (ix:=N) I I I f4 I (by show 0+(((N+1:Nat):Int)-1).toNat=N;omega) (by first|omega)) ?_;refine dd ?_;refine QC I I I I I Cd ?_;refine dd ?_;refine fc ?_;unfold cj;refine bx 23 ?_;refine er (c':=aQ (V.set (β.getD i 0) (Rat.divInt (aq X i N) d))) I I I f5 I g5 (dj ..) I (fun aI a7 aP bf=>iN 0 3 cb V (β.getD i 0) _ g5 aI a7 aP bf) ?_;refine c7 (bn G none (N+1) w k X d β (T++[some ⟨118,aQ (V.set (β.getD i 0) (Rat.divInt (aq X i N) d))⟩])) (wT _ _) (bI ?_);refine eM af (bt ?_);exact ca ⟨i+1,J,J,aH,by rw [dH]⟩
  ·rw [qv] at U;rw [az J] at dH;refine bt ?_;exact ca ⟨i+1,J,J,aH,by rw [dH]⟩
 have df:i=β.length:=J;subst df;refine dS ?_;generalize ik b3 β (fun i=>Rat.divInt (aq X i N) d) (List.replicate b3 0) β.length=V at*;have f5:=vG (G:=G) (F:=none) (L:=N+1) (w:=w) (k:=k) (X:=X) (d:=d) (β:=β) (T:=T) (some ⟨118,aQ V⟩);refine mx (G.length+4+X.length+T.length) 5 b3 [] f5 (n1 _) I (by show b3≤V.length;omega) trivial ?_;refine ko (bn G none (N+1) w k X d β T++[none]) (by rw [wT,fM]) ?_;refine fC (bn G none (N+1) w k X d β T) [none] [(5,.ro (aQ V) 0 b3)] rfl ⟨rfl,trivial⟩ (fun h aU=>by rw [bK] at aU;exact aU) (qw dB _ (by rw [hlen];omega) (fun o aj=>by cases aj) (cc _ (by rw [hlen];omega))) rfl (bN ?_);exact bd ay I ⟨I,I⟩
end Go.Proofs.YtmpnheilfejcpaaGreatDoor
