import Derived.Test.YtmpnheilfejcpaaGreatDoorH7
set_option linter.unusedVariables false
set_option linter.unusedSimpArgs false
set_option maxRecDepth 100000
set_option maxHeartbeats 4000000
namespace Go.Proofs.YtmpnheilfejcpaaGreatDoor
open Go.aj Go.aj.dn Go.aj.cX Go.RowKit Go.aj.dZ Go.aj.c0
attribute [local irreducible] aj eJ b1 ch hc
theorem Dc (x:Int):(kr x<0)=(x<0):=by
 apply propext;unfold kr;constructor
 ·intro h;split at h
  ·assumption
  ·split at h<;>omega
 ·intro h;rw [aA h];decide
theorem WM {α β:Type}(f:α→β)(l:List α)(d:α):(List.range l.length).map (fun i=>f (l.getD i d))=l.map f:=by apply jS bX;intro i U ab;simp [List.getD,nY (by simpa using ab:i<l.length)]
theorem XV (G:aZ)(dG:s6 G)(L w n:Nat)(X:cB)(d:Int)(β:List Nat)(r bb:Nat)(E:Nat)(aI:X.length=n)(aeP:n≤1000000)(cH: ∀x∈X,x.length=L)(Lu:L≤1000000)(ad:r<β.length)(wH:β.length≤n)(aw:bb<L)(hd:d≠0)(kk: ∀i j,i<n→j<L→(az X i j).natAbs≤10^E)(adM:d.natAbs≤10^E)(dJ:E≤3600000):
 ch Tryz.prog 208 [.ptr G.length 0 0,ag r,ag bb] (bt G none L w n X d β []) (fun h=>h<(bt G none L w n X d β []).length)
  (fun dB bK=>dB= .cn []∧bK=bt G none L w n (kZ X r bb d) (if az X r bb<0 then-(az X r bb) else az X r bb) (β.set r bb) []):=by
 refine gl (P:=Tryz.prog) (fn:=Tryz.f208) I I af I (fun c aq bI=> ?_);have x3:r<n:=gL ad wH;have hlen:(bt G none L w n X d β []).length=G.length+4+n:=by rw [iE,aI];rfl
 rw [hlen] at bI;have f1:=ik (G:=G) (F:=none) (L:=L) (w:=w) (k:=n) (X:=X) (d:=d) (β:=β) (T:=[]);have f2:=nJ (G:=G) (F:=none) (L:=L) (w:=w) (k:=n) (X:=X) (d:=d) (β:=β) (T:=[]);have f3:=nc (G:=G) (F:=none) (L:=L) (w:=w) (k:=n) (X:=X) (d:=d) (β:=β) (T:=[]) (a:=r) (by rw [aI];exact x3);have agP:(X.getD r []).length=L:=cH _ (dt [] (by rw [aI];exact x3));have g1:r<(fh G.length X.length L).len:=by show r<X.length;rw [aI];exact x3
 have g2:bb<(aW (X.getD r [])).len:=by show bb<(X.getD r []).length;rw [agP];exact aw
 refine cJ ?_;refine dw (bt G none L w n X d β [some ⟨116,.box [.bool false,.nil]⟩]) (by rw [gh];rfl) ?_;refine bP 6 (.ptr (G.length+4+n) 0 0) I (aR.of_eq (by rw [hlen])) ?_;refine bP 23 (ef (az X r bb)) I (aR.of_eq I) ?_;have eY:=gi (G:=G) (F:=none) (L:=L) (w:=w) (k:=n) (X:=X) (d:=d) (β:=β) (T:=[some ⟨116,.box [.bool false,.nil]⟩]) 0;rw [aI] at eY;refine eE (c':= .box (cQ (az X r bb))) I I I eY I fA I I (fun aG a7 aL bd=> ?_) ?_
 ·rw [aA (fw.1 aL)];rfl
 refine dw (bt G none L w n X d β [some ⟨116,.box (cQ (az X r bb))⟩]) (by have q:=j3 (G:=G) (F:=none) (L:=L) (w:=w) (k:=n) (X:=X) (d:=d) (β:=β) (T:=[some ⟨116,.box [.bool false,.nil]⟩]) 0 (some ⟨116,.box (cQ (az X r bb))⟩);rw [aI] at q;exact q) ?_;clear f1 f2 f3 eY;have f1:=ik (G:=G) (F:=none) (L:=L) (w:=w) (k:=n) (X:=X) (d:=d) (β:=β) (T:=[some ⟨116,.box (cQ (az X r bb))⟩]);have cz: ∀x:Int,x.natAbs≤10^E→(a6 x.natAbs).length≤400001:=fun x ar=>yU ar J;have Q9:=kk r bb x3 aw;refine cJ ?_;refine cp (ι:=Nat) (fun a=>[(0,.ptr G.length 0 0),(1,ag r),(2,ag bb),(6,.ptr (G.length+4+n) 0 0),(27,.aC (G.length+3) 0 n),(28,ag n),(29,ag a)]) (fun a=>bt G none L w n (dF (j6 X r bb d) [] X a) d β [some ⟨116,.box (cQ (az X r bb))⟩]) (fun a=>a≤n) (fun a=>n-a) 0 ⟨aE,by rw [vj],b7 _⟩ ?_;clear f1;intro a a8;have dr:(dF (j6 X r bb d) [] X a).length=n:=by rw [qP,aI]
 refine bh ?_;refine bm I (fun fx=> ?_) (fun fx=> ?_)
 ·have LH:a<n:=J;have v7:(dF (j6 X r bb d) [] X a).getD a []=X.getD a []:=by rw [rF _ _ _ J,ax (oI a)]
  have abI:(dF (j6 X r bb d) [] X a).getD r []=X.getD r []:=by
   rw [rF _ _ _ J];split
   ·unfold j6;rw [aA rfl]
   ·rfl
  have wJ:(X.getD a []).length=L:=cH _ (dt [] J);have f2:=nJ (G:=G) (F:=none) (L:=L) (w:=w) (k:=n) (X:=(dF (j6 X r bb d) [] X a)) (d:=d) (β:=β) (T:=[some ⟨116,.box (cQ (az X r bb))⟩]);have f3:=nc (G:=G) (F:=none) (L:=L) (w:=w) (k:=n) (X:=(dF (j6 X r bb d) [] X a)) (d:=d) (β:=β) (T:=[some ⟨116,.box (cQ (az X r bb))⟩]) (a:=a) J;rw [v7] at f3;have g3:a<(fh G.length (dF (j6 X r bb d) [] X a).length L).len:=by show a<(dF (j6 X r bb d) [] X a).length;omega
  have g4:bb<(aW (X.getD a [])).len:=by show bb<(X.getD a []).length;omega
  refine u0 ?_;refine bm I (fun oR=> ?_) (fun oR=> ?_)
  ·have acB:a=r:=J;refine bo ?_;exact b4 ⟨a+1,J,J,aE,by rw [aaC _ _ _ J (by rw [acB];unfold j6;rw [aA rfl])]⟩
  ·have cd: ¬a=r:=J;refine cJ ?_;have wk:(bt G none L w n (dF (j6 X r bb d) [] X a) d β [some ⟨116,.box (cQ (az X r bb))⟩]).length=G.length+5+n:=by rw [iE,dr];show _+1=_;omega
   refine dw (bt G none L w n (dF (j6 X r bb d) [] X a) d β [some ⟨116,.box (cQ (az X r bb))⟩,some ⟨116,.box [.bool false,.nil]⟩]) (by rw [gh];rfl) ?_;refine bP 9 (.ptr (G.length+5+n) 0 0) I (aR.of_eq (by rw [wk])) ?_;refine bP 40 (ef (az X a bb)) I (aR.of_eq I) ?_;have bS:=gi (G:=G) (F:=none) (L:=L) (w:=w) (k:=n) (X:=(dF (j6 X r bb d) [] X a)) (d:=d) (β:=β) (T:=[some ⟨116,.box (cQ (az X r bb))⟩,some ⟨116,.box [.bool false,.nil]⟩]) 1;rw [dr,show G.length+4+n+1=G.length+5+n by omega] at bS;refine eE (c':= .box (cQ (az X a bb))) I I I bS I fA I I (fun aG a7 aL bd=> ?_) ?_
   ·rw [aA (fw.1 aL)];rfl
   refine dw (bt G none L w n (dF (j6 X r bb d) [] X a) d β [some ⟨116,.box (cQ (az X r bb))⟩,some ⟨116,.box (cQ (az X a bb))⟩]) (by have q:=j3 (G:=G) (F:=none) (L:=L) (w:=w) (k:=n) (X:=(dF (j6 X r bb d) [] X a)) (d:=d) (β:=β) (T:=[some ⟨116,.box (cQ (az X r bb))⟩,some ⟨116,.box [.bool false,.nil]⟩]) 1 (some ⟨116,.box (cQ (az X a bb))⟩);rw [dr,show G.length+4+n+1=G.length+5+n by omega] at q;exact q) ?_;clear f2 f3 bS;refine bq ?_;refine cp (ι:=Nat) (fun j=>[(0,.ptr G.length 0 0),(1,ag r),(2,ag bb),(6,.ptr (G.length+4+n) 0 0),(7,ag a),(8,.aC (G.length+4+a) 0 L),(9,.ptr (G.length+5+n) 0 0),(27,.aC (G.length+3) 0 n),(28,ag n),(29,ag a),(42,ag L),(43,ag j)]) (fun j=>bt G none L w n ((dF (j6 X r bb d) [] X a).set a (dF (yk (X.getD a []) (X.getD r []) (az X r bb) (az X a bb) d) 0 (X.getD a []) j)) d β [some ⟨116,.box (cQ (az X r bb))⟩,some ⟨116,.box (cQ (az X a bb))⟩]) (fun j=>j≤L) (fun j=>L-j) 0 ⟨aE,by rw [vj,←v7,Yb (dF (j6 X r bb d) [] X a) [] _ J],b7 _⟩ ?_;intro j ae;refine bh ?_;refine bm I (fun k8=> ?_) (fun k8=> ?_)
   ·have bd:j<L:=J;have mS:=rF (yk (X.getD a []) (X.getD r []) (az X r bb) (az X a bb) d) 0 (X.getD a []) (k:=j) (i:=j) J;rw [ax (oI j)] at mS;have nB:=tW (yk (X.getD a []) (X.getD r []) (az X r bb) (az X a bb) d) 0 (X.getD a []) (k:=j) J;have BV:=qP (yk (X.getD a []) (X.getD r []) (az X r bb) (az X a bb) d) 0 (X.getD a []) j;have L5:(yk (X.getD a []) (X.getD r []) (az X r bb) (az X a bb) d) j=qT ((X.getD a []).getD j 0*az X r bb-az X a bb*(X.getD r []).getD j 0) d:=rfl;rw [←mS] at L5;rw [L5] at nB;have ex:((dF (yk (X.getD a []) (X.getD r []) (az X r bb) (az X a bb) d) 0 (X.getD a []) j).getD j 0).natAbs≤10^E:=by rw [mS];exact kk a j LH bd
    clear mS L5;generalize (dF (yk (X.getD a []) (X.getD r []) (az X r bb) (az X a bb) d) 0 (X.getD a []) j)=row at*;generalize aqn:(dF (j6 X r bb d) [] X a)=r8 at*;have LG:(r8.set a row).length=n:=by rw [dd];exact dr
    have Ni:(r8.set a row).getD a []=row:=by rw [fO,aA ⟨rfl,J⟩]
    have aiE:(r8.set a row).getD r []=X.getD r []:=by rw [fO,ax (fun q=>cd q.1.symm),abI]
    have dP:=nJ (G:=G) (F:=none) (L:=L) (w:=w) (k:=n) (X:=(r8.set a row)) (d:=d) (β:=β) (T:=[some ⟨116,.box (cQ (az X r bb))⟩,some ⟨116,.box (cQ (az X a bb))⟩]);have gZ:=nc (G:=G) (F:=none) (L:=L) (w:=w) (k:=n) (X:=(r8.set a row)) (d:=d) (β:=β) (T:=[some ⟨116,.box (cQ (az X r bb))⟩,some ⟨116,.box (cQ (az X a bb))⟩]) (a:=a) J;rw [Ni] at gZ;have iY:=nc (G:=G) (F:=none) (L:=L) (w:=w) (k:=n) (X:=(r8.set a row)) (d:=d) (β:=β) (T:=[some ⟨116,.box (cQ (az X r bb))⟩,some ⟨116,.box (cQ (az X a bb))⟩]) (a:=r) J;rw [aiE] at iY;have tF:=ik (G:=G) (F:=none) (L:=L) (w:=w) (k:=n) (X:=(r8.set a row)) (d:=d) (β:=β) (T:=[some ⟨116,.box (cQ (az X r bb))⟩,some ⟨116,.box (cQ (az X a bb))⟩]);have aii:=gi (G:=G) (F:=none) (L:=L) (w:=w) (k:=n) (X:=(r8.set a row)) (d:=d) (β:=β) (T:=[some ⟨116,.box (cQ (az X r bb))⟩,some ⟨116,.box (cQ (az X a bb))⟩]) 0;rw [LG,e6] at aii;have aij:=gi (G:=G) (F:=none) (L:=L) (w:=w) (k:=n) (X:=(r8.set a row)) (d:=d) (β:=β) (T:=[some ⟨116,.box (cQ (az X r bb))⟩,some ⟨116,.box (cQ (az X a bb))⟩]) 1;rw [LG,show G.length+4+n+1=G.length+5+n by omega] at aij;have g5:r<(fh G.length (r8.set a row).length L).len:=by show r<(r8.set a row).length;omega
    have g6:j<(aW row).len:=by show j<row.length;omega
    have g7:j<(aW (X.getD r [])).len:=by show j<(X.getD r []).length;omega
    have QY:((X.getD r []).getD j 0).natAbs≤10^E:=kk r j x3 bd;have vX:(az X a bb).natAbs≤10^E:=kk a bb LH aw;obtain ⟨s1,s2,u3⟩:=Vk ex Q9 vX QY dJ;have m1:=pY (row.getD j 0) (az X r bb) (by have:=cz _ ex;omega) (by have:=cz _ Q9;omega);have m2:=pY (az X a bb) ((X.getD r []).getD j 0) (by have:=cz _ vX;omega) (by have:=cz _ QY;omega);have m3:=Qe (row.getD j 0*az X r bb) (az X a bb*(X.getD r []).getD j 0) s1 s2;have m4:=aoJ (row.getD j 0*az X r bb-az X a bb*(X.getD r []).getD j 0) d hd u3 (by have:=cz _ adM;omega);refine bn ?_;refine eg af ?_;refine eK (fuel:=1) [0,1,2,3,4,5,6,7,8,9,10,11,12,13,14,15,16,17,18,19,20,21,22,23,24,25,26] [(0,.ptr G.length 0 0),(1,ag r),(2,ag bb),(6,.ptr (G.length+4+n) 0 0),(7,ag a),(8,.aC (G.length+4+a) 0 L),(9,.ptr (G.length+5+n) 0 0),(27,.aC (G.length+3) 0 n),(28,ag n),(29,ag a),(42,ag L),(43,ag j),(10,ag j)] aE af aT I I ?_;refine cY ?_;refine dW I I I I I m1 ?_;refine cY ?_;refine dW I I I I I m2 ?_;refine dW I I I I I m3 ?_;refine cY ?_;refine dW I I I I I m4 ?_;refine cY ?_;refine eI ?_;generalize qT (row.getD j 0*az X r bb-az X a bb*(X.getD r []).getD j 0) d=v at*;refine br 27 ?_;refine eE (c':=aW (row.set j v)) I I I gZ I g6 (dd ..) I (vm row j v) ?_;refine dw (bt G none L w n (r8.set a (row.set j v)) d β [some ⟨116,.box (cQ (az X r bb))⟩,some ⟨116,.box (cQ (az X a bb))⟩]) ((V3 J _).trans (by rw [xA])) (bn ?_);refine dX af (bo ?_);exact b4 ⟨j+1,J,J,aE,by rw [nB]⟩
   ·have ho:L=j:=J;subst ho;have gO:=aiU (X.getD a []) (X.getD r []) (az X r bb) (az X a bb) d;rw [wJ] at gO;have BM:j6 X r bb d a=yT (X.getD a []) (X.getD r []) (az X r bb) (az X a bb) d:=by unfold j6;rw [ax cd]
    rw [←gO,←BM,tW _ _ _ J];have adl:(dF (j6 X r bb d) [] X (a+1)).length=n:=by rw [qP,aI]
    have Md:(bt G none L w n (dF (j6 X r bb d) [] X (a+1)) d β [some ⟨116,.box (cQ (az X r bb))⟩]).length=G.length+5+n:=by rw [iE,adl];show _+1=_;omega
    refine fu ?_;refine b0 ?_;refine fm (bt G none L w n (dF (j6 X r bb d) [] X (a+1)) d β [some ⟨116,.box (cQ (az X r bb))⟩]) [some ⟨116,.box (cQ (az X a bb))⟩] [(0,.ptr G.length 0 0),(1,ag r),(2,ag bb),(6,.ptr (G.length+4+n) 0 0),(27,.aC (G.length+3) 0 n),(28,ag n),(29,ag a)] (by rw [gh];rfl) aE (fun h aV=>by rw [bI] at aV;rw [Md];omega)
     (by rw [Md];exact rE dG _ J (fun o ah=>by cases ah) (fun o ah=>by cases hI.1 ah;exact alI _ _)) (by rw [Md];simp [kx,hf];omega) ?_
    refine bq ?_;exact b4 ⟨a+1,J,J,aE,I⟩
 have LI:n=a:=J;subst LI;rw [show dF (j6 X r bb d) [] X n=pg X r bb d by rw [O3,aI]];have R1:=OO X r bb d J cH;have El:(pg X r bb d).length=n:=by rw [ON,aI]
 have D9:kZ X r bb d=if az X r bb<0 then (pg X r bb d).map (fun l=>l.map (fun x=> -x)) else pg X r bb d:=rfl
 have we:(kZ X r bb d).length=n:=by rw [PC,aI]
 clear a8 dr fx;generalize pg X r bb d=Y at*;refine eD ?_;refine dh ?_;apply kQ (H:=bt G none L w n (kZ X r bb d) d β [some ⟨116,.box (cQ (if az X r bb<0 then-(az X r bb) else az X r bb))⟩]) [(0,.ptr G.length 0 0),(1,ag r),(2,ag bb),(6,.ptr (G.length+4+n) 0 0)]
 ·intro fin;have f1:=ik (G:=G) (F:=none) (L:=L) (w:=w) (k:=n) (X:=Y) (d:=d) (β:=β) (T:=[some ⟨116,.box (cQ (az X r bb))⟩]);have eY:=gi (G:=G) (F:=none) (L:=L) (w:=w) (k:=n) (X:=Y) (d:=d) (β:=β) (T:=[some ⟨116,.box (cQ (az X r bb))⟩]) 0;rw [El,e6] at eY;have cs:=yN (az X r bb);refine cJ ?_;refine bP 75 (ef (az X r bb)) I (aR.of_eq I) ?_;refine aO I I I cs ?_;refine eD ?_;refine bm I (fun U=> ?_) (fun U=> ?_)
  ·rw [Dc] at U;rw [aA U] at D9;rw [aA U] at fin;have co:=AR (az X r bb);refine cJ ?_;refine bP 78 (ef (az X r bb)) I (aR.of_eq I) ?_;refine aO I I I co ?_;skip
   refine eE (c':= .box (cQ (-(az X r bb)))) I I I eY I fA I I (fun aG a7 aL bd=> ?_) ?_
   ·rw [aA (fw.1 aL)];rfl
   refine dw (bt G none L w n Y d β [some ⟨116,.box (cQ (-(az X r bb)))⟩]) (by have q:=j3 (G:=G) (F:=none) (L:=L) (w:=w) (k:=n) (X:=Y) (d:=d) (β:=β) (T:=[some ⟨116,.box (cQ (az X r bb))⟩]) 0 (some ⟨116,.box (cQ (-(az X r bb)))⟩);rw [El,e6] at q;exact q) ?_;clear f1 eY;have f1:=ik (G:=G) (F:=none) (L:=L) (w:=w) (k:=n) (X:=Y) (d:=d) (β:=β) (T:=[some ⟨116,.box (cQ (-(az X r bb)))⟩]);refine cJ ?_;refine cp (ι:=Nat) (fun a=>[(0,.ptr G.length 0 0),(1,ag r),(2,ag bb),(6,.ptr (G.length+4+n) 0 0),(83,.aC (G.length+3) 0 n),(84,ag n),(85,ag a)]) (fun a=>bt G none L w n (dF (fun i=>(Y.getD i []).map (fun x=> -x)) [] Y a) d β [some ⟨116,.box (cQ (-(az X r bb)))⟩]) (fun a=>a≤n) (fun a=>n-a) 0 ⟨aE,by rw [vj],b7 _⟩ ?_;clear f1;intro a a8;have dr:(dF (fun i=>(Y.getD i []).map (fun x=> -x)) [] Y a).length=n:=by rw [qP,El]
   refine bh ?_;refine bm I (fun fx=> ?_) (fun fx=> ?_)
   ·have LH:a<n:=J;have v7:(dF (fun i=>(Y.getD i []).map (fun x=> -x)) [] Y a).getD a []=Y.getD a []:=by rw [rF _ _ _ J,ax (oI a)]
    have wJ:(Y.getD a []).length=L:=R1 _ (dt [] J);have dS:=tW (fun i=>(Y.getD i []).map (fun x=> -x)) [] Y (k:=a) J;have f2:=nJ (G:=G) (F:=none) (L:=L) (w:=w) (k:=n) (X:=(dF (fun i=>(Y.getD i []).map (fun x=> -x)) [] Y a)) (d:=d) (β:=β) (T:=[some ⟨116,.box (cQ (-(az X r bb)))⟩]);have g3:a<(fh G.length (dF (fun i=>(Y.getD i []).map (fun x=> -x)) [] Y a).length L).len:=by show a<(dF (fun i=>(Y.getD i []).map (fun x=> -x)) [] Y a).length;omega
    refine cJ ?_;generalize aqp:(dF (fun i=>(Y.getD i []).map (fun x=> -x)) [] Y a)=Bg at*;generalize a1:Y.getD a []=y at*;refine cp (ι:=Nat) (fun j=>[(0,.ptr G.length 0 0),(1,ag r),(2,ag bb),(6,.ptr (G.length+4+n) 0 0),(12,.aC (G.length+4+a) 0 L),(83,.aC (G.length+3) 0 n),(84,ag n),(85,ag a),(90,ag L),(91,ag j)]) (fun j=>bt G none L w n (Bg.set a (dF (fun j=> -(y.getD j 0)) 0 y j)) d β [some ⟨116,.box (cQ (-(az X r bb)))⟩]) (fun j=>j≤L) (fun j=>L-j) 0 ⟨aE,by rw [vj,←v7,Yb Bg [] _ J],b7 _⟩ ?_;intro j ae;refine bh ?_;refine bm I (fun k8=> ?_) (fun k8=> ?_)
    ·have bd:j<L:=J;have mS:=rF (fun j=> -(y.getD j 0)) 0 y (k:=j) (i:=j) J;rw [ax (oI j)] at mS;have nB:=tW (fun j=> -(y.getD j 0)) 0 y (k:=j) J;have BV:=qP (fun j=> -(y.getD j 0)) 0 y j;rw [←mS] at nB;generalize (dF (fun j=> -(y.getD j 0)) 0 y j)=row at*;have LG:(Bg.set a row).length=n:=by rw [dd];exact dr
     have Ni:(Bg.set a row).getD a []=row:=by rw [fO,aA ⟨rfl,J⟩]
     have gZ:=nc (G:=G) (F:=none) (L:=L) (w:=w) (k:=n) (X:=(Bg.set a row)) (d:=d) (β:=β) (T:=[some ⟨116,.box (cQ (-(az X r bb)))⟩]) (a:=a) J;rw [Ni] at gZ;have g6:j<(aW row).len:=by show j<row.length;omega
     have co:=AR (row.getD j 0);refine cJ ?_;refine bP 99 (ef (row.getD j 0)) I (aR.of_eq I) ?_;refine aO I I I co ?_;repeat (refine ao (mw rfl rfl rfl) ?_)
     refine eE (c':=aW (row.set j (-(row.getD j 0)))) I I I gZ I g6 (dd ..) I (vm row j _) ?_;refine dw (bt G none L w n (Bg.set a (row.set j (-(row.getD j 0)))) d β [some ⟨116,.box (cQ (-(az X r bb)))⟩]) ((V3 J _).trans (by rw [xA])) (bo ?_);exact b4 ⟨j+1,J,J,aE,by rw [nB]⟩
    ·have ho:L=j:=J;subst ho;have gO:dF (fun j=> -(y.getD j 0)) 0 y L=y.map (fun x=> -x):=by rw [←wJ,w9,WM (fun x=> -x) y 0]
     rw [gO,dS];refine bo ?_;exact b4 ⟨a+1,J,J,aE,I⟩
   ·have LI:a=n:=J;have gO:(dF (fun i=>(Y.getD i []).map (fun x=> -x)) [] Y a)=kZ X r bb d:=by rw [LI,←El,w9,WM (fun l:List Int=>l.map (fun x=> -x)) Y [],D9]
    rw [gO];refine eD ?_;exact fin _ aE
  ·rw [Dc] at U;rw [ax U] at D9;rw [ax U,D9] at fin;refine eD ?_;exact fin _ aE
 clear D9 El R1;clear Y;generalize aqi:(if az X r bb<0 then-(az X r bb) else az X r bb)=nV at*;have f1:=ik (G:=G) (F:=none) (L:=L) (w:=w) (k:=n) (X:=(kZ X r bb d)) (d:=d) (β:=β) (T:=[some ⟨116,.box (cQ nV)⟩]);have eY:=gi (G:=G) (F:=none) (L:=L) (w:=w) (k:=n) (X:=(kZ X r bb d)) (d:=d) (β:=β) (T:=[some ⟨116,.box (cQ nV)⟩]) 0;rw [we,e6] at eY;refine cJ ?_;refine bP 105 (ef nV) I (aR.of_eq I) ?_;refine alH (s:=2) (c':=jq G.length n β.length w nV) I I I f1 I (show 1+2≤5 from aT) fA I I (akr _ _ _ _ _ _) ?_;refine dw (bt G none L w n (kZ X r bb d) nV β [some ⟨116,.box (cQ nV)⟩]) (Ot n w nV) ?_;refine hx ?_;have hle:(bt G none L w n (kZ X r bb d) nV β []).length=G.length+4+n:=by rw [iE,we];rfl
 refine fm (bt G none L w n (kZ X r bb d) nV β []) [some ⟨116,.box (cQ nV)⟩] [(0,.ptr G.length 0 0),(1,ag r),(2,ag bb)] (by rw [gh];rfl) aE (fun h aV=>by rw [bI] at aV;rw [hle];exact aV)
  (by rw [hle];exact rE dG _ J (fun o ah=>by cases ah) (fun o ah=>by cases ah)) (by rw [hle];simp [kx,hf];omega) ?_
 clear f1 eY;have f1:=ik (G:=G) (F:=none) (L:=L) (w:=w) (k:=n) (X:=kZ X r bb d) (d:=nV) (β:=β) (T:=[]);have f2:=vz (G:=G) (F:=none) (L:=L) (w:=w) (k:=n) (X:=kZ X r bb d) (d:=nV) (β:=β) (T:=[]);refine cJ ?_;refine lK I I I I f2 I I (by show r<(β.map _).length;rw [cr];exact ad) ?_;refine dw (bt G none L w n (kZ X r bb d) nV (β.set r bb) []) (by
  rw [←V2 (β:=β) (dd ..)];show _=List.set _ _ (some (⟨3,.ints .i64 ((β.set r bb).map (fun a:Nat=>(a:Int)))⟩:bl));rw [List.map_set]) ?_
 repeat (refine cR ?_)
 exact QW aq I ⟨I,I⟩
theorem IX (β:List Nat)(i:Nat):(β.map (fun a:Nat=>(a:Int))).getD i 0=((β.getD i 0:Nat):Int):=by simp only [List.getD,ly];cases β[i]? <;>rfl
theorem Yd (x:Int):(kr x≤0)=(x≤0):=by
 apply propext;unfold kr;constructor
 ·intro h;split at h
  ·omega
  ·split at h
   ·omega
   ·exact absurd h aT
 ·intro h;by_cases U:x<0
  ·rw [aA U];decide
  ·rw [ax U,aA J];decide
theorem ajK {x:Int}(h:x<0):kr x= -1:=by unfold kr;rw [aA h]
theorem ajM {x:Int}(h:x=0):kr x=0:=by subst h;rfl
theorem ajL {x:Int}(h:0<x):kr x=1:=by unfold kr;rw [ax J,ax J]
theorem agE (G:aZ)(dG:s6 G)(N w n:Nat)(X:cB)(d:Int)(β:List Nat)(bb:Nat)(E:Nat)(aI:X.length=n)(uM:0<n)(aeP:n≤1000000)(cH: ∀x∈X,x.length=N+1)(Lu:N+1≤1000000)(wH:β.length≤n)(aw:bb<N+1)(kk: ∀i j,i<n→j<N+1→(az X i j).natAbs≤10^E)(dJ:E≤3600000):
 ch Tryz.prog 213 [.ptr G.length 0 0,ag bb] (bt G none (N+1) w n X d β []) (fun h=>h<(bt G none (N+1) w n X d β []).length)
  (fun dB bK=>dB= .int .i64 (Fb (jJ X β bb N β.length))∧bK=bt G none (N+1) w n X d β []):=by
 refine gl (P:=Tryz.prog) (fn:=Tryz.f213) I I af I (fun c aq bI=> ?_);have hlen:(bt G none (N+1) w n X d β []).length=G.length+4+n:=by rw [iE,aI];rfl
 rw [hlen] at bI;have f1:=ik (G:=G) (F:=none) (L:=N+1) (w:=w) (k:=n) (X:=X) (d:=d) (β:=β) (T:=[]);have f2:=nJ (G:=G) (F:=none) (L:=N+1) (w:=w) (k:=n) (X:=X) (d:=d) (β:=β) (T:=[]);have g1:0<(fh G.length X.length (N+1)).len:=by show 0<X.length;omega
 refine bF ?_;refine eg af ?_;refine eK (fuel:=0) [0,1,2,3,4,5,6,7,8,9] [(0,.ptr G.length 0 0),(1,ag bb)] aE af aT I I ?_;refine cY ?_;refine eI ?_;refine dX af ?_;repeat (refine b0 ?_)
 refine ds 6 (ag N) I (aR.of_eq (by show ak.int .i64 (((N+1:Nat):Int)-1)=_;rw [show ((N+1:Nat):Int)-1=(N:Nat) by omega])) ?_;have f3:=vz (G:=G) (F:=none) (L:=N+1) (w:=w) (k:=n) (X:=X) (d:=d) (β:=β) (T:=[]);refine cJ ?_;refine cp (ι:=Nat) (fun i=>[(0,.ptr G.length 0 0),(1,ag bb),(5,.int .i64 (Fb (jJ X β bb N i))),(6,ag N),(22,ag β.length),(23,ag i)]) (fun i=>bt G none (N+1) w n X d β []) (fun i=>i≤β.length) (fun i=>β.length-i) 0 ⟨aE,I,b7 _⟩ ?_;clear f3;intro i aa;refine bh ?_;refine bm I (fun h=> ?_) (fun h=> ?_)
 ·have aL:i<β.length:=J;have dV:i<n:=J;have E7:(X.getD i []).length=N+1:=cH _ (dt [] J);have f3:=nc (G:=G) (F:=none) (L:=N+1) (w:=w) (k:=n) (X:=X) (d:=d) (β:=β) (T:=[]) (a:=i) J;have g3:i<(fh G.length X.length (N+1)).len:=by show i<X.length;omega
  have g4:bb<(aW (X.getD i [])).len:=by show bb<(X.getD i []).length;omega
  refine cJ ?_;refine dw (bt G none (N+1) w n X d β [some ⟨116,.box [.bool false,.nil]⟩]) (by rw [gh];rfl) ?_;refine bP 8 (.ptr (G.length+4+n) 0 0) I (aR.of_eq (by rw [hlen])) ?_;refine bP 35 (ef (az X i bb)) I (aR.of_eq I) ?_;have eY:=gi (G:=G) (F:=none) (L:=N+1) (w:=w) (k:=n) (X:=X) (d:=d) (β:=β) (T:=[some ⟨116,.box [.bool false,.nil]⟩]) 0;rw [aI] at eY;refine eE (c':= .box (cQ (az X i bb))) I I I eY I fA I I (fun aG a7 aL bd=> ?_) ?_
  ·rw [aA (fw.1 aL)];rfl
  refine dw (bt G none (N+1) w n X d β [some ⟨116,.box (cQ (az X i bb))⟩]) (by have q:=j3 (G:=G) (F:=none) (L:=N+1) (w:=w) (k:=n) (X:=X) (d:=d) (β:=β) (T:=[some ⟨116,.box [.bool false,.nil]⟩]) 0 (some ⟨116,.box (cQ (az X i bb))⟩);rw [aI] at q;exact q) ?_;clear f1 f2 f3 eY;apply kQ (H:=bt G none (N+1) w n X d β [some ⟨116,.box (cQ (az X i bb))⟩]) [(0,.ptr G.length 0 0),(1,ag bb),(5,.int .i64 (Fb (jJ X β bb N (i+1)))),(6,ag N),(22,ag β.length),(23,ag i)]
  ·intro fin;have f1:=ik (G:=G) (F:=none) (L:=N+1) (w:=w) (k:=n) (X:=X) (d:=d) (β:=β) (T:=[some ⟨116,.box (cQ (az X i bb))⟩]);have f2:=nJ (G:=G) (F:=none) (L:=N+1) (w:=w) (k:=n) (X:=X) (d:=d) (β:=β) (T:=[some ⟨116,.box (cQ (az X i bb))⟩]);have eY:=gi (G:=G) (F:=none) (L:=N+1) (w:=w) (k:=n) (X:=X) (d:=d) (β:=β) (T:=[some ⟨116,.box (cQ (az X i bb))⟩]) 0;rw [aI,e6] at eY;have cs:=yN (az X i bb);refine cJ ?_;refine bP 36 (ef (az X i bb)) I (aR.of_eq I) ?_;refine aO I I I cs (fb ?_);refine bm I (fun U=> ?_) (fun U=> ?_)
   ·rw [Yd] at U;rw [anu U] at fin;refine eD ?_;exact fin _ aE
   ·rw [Yd] at U;refine bh ?_;refine bm I (fun ab=> ?_) (fun ab=> ?_)
    ·rw [Xh] at ab;rw [amk U ab] at fin;skip
     refine dh ?_;refine c5 I ?_;refine eD ?_;exact fin _ aE
    ·cases au:jJ X β bb N i with
     |none=>rw [au] at ab;exact absurd (show (-1:Int)<0 by decide) ab
     |some b=>
      have al:=(Jj X β bb N i b au).lt;have R8:b<n:=J;have l2:=ant (T:=X) (β:=β) (c:=bb) (e:=N) U au;rw [l2] at fin;have M1:(X.getD b []).length=N+1:=cH _ (dt [] J);have f3:=nc (G:=G) (F:=none) (L:=N+1) (w:=w) (k:=n) (X:=X) (d:=d) (β:=β) (T:=[some ⟨116,.box (cQ (az X i bb))⟩]) (a:=i) J;have f4:=nc (G:=G) (F:=none) (L:=N+1) (w:=w) (k:=n) (X:=X) (d:=d) (β:=β) (T:=[some ⟨116,.box (cQ (az X i bb))⟩]) (a:=b) J;have g3:i<(fh G.length X.length (N+1)).len:=by show i<X.length;omega
      have g4:b<(fh G.length X.length (N+1)).len:=by show b<X.length;omega
      have g5:bb<(aW (X.getD b [])).len:=by show bb<(X.getD b []).length;omega
      have g6:N<(aW (X.getD b [])).len:=by show N<(X.getD b []).length;omega
      have g7:N<(aW (X.getD i [])).len:=by show N<(X.getD i []).length;omega
      have bi:=kk i bb dV aw;have Q3:=kk b bb R8 aw;have Ea:=kk i N dV (gN N);have lC:=kk b N R8 (gN N);have cz: ∀x:Int,x.natAbs≤10^E→(a6 x.natAbs).length≤400001:=fun x ar=>yU ar J;obtain ⟨s1,s2,u3⟩:=Vk Ea Q3 bi lC dJ;rw [n3 (az X i bb) (az X b N)] at s2;have m1:=pY (az X i N) (az X b bb) (by have:=cz _ Ea;omega) (by have:=cz _ Q3;omega);have m2:=pY (az X b N) (az X i bb) (by have:=cz _ lC;omega) (by have:=cz _ bi;omega);have m3:=YV (az X i N*az X b bb) (az X b N*az X i bb) s1 s2;refine yj ?_;refine ds 5 (ag b) I (aR.of_eq I) ?_;refine eg af ?_;refine eK (fuel:=0) [0,1,2,3,4,5,6,7,8,9,10,11,12,13,14,15,16,17,18,19,20,21,22,23,24,25,26,27,28,29,30,31,32,33,34] [(0,.ptr G.length 0 0),(1,ag bb),(5,ag b),(6,ag N),(7,ag i),(8,.ptr (G.length+4+n) 0 0),(22,ag β.length),(23,ag i)] aE af aT I I ?_;refine cY ?_;refine dW I I I I I m1 ?_;refine cY ?_;refine dW I I I I I m2 ?_;refine dW I I I I I m3 ?_;refine cY ?_;refine eI ?_;refine dX af ?_;repeat (refine b0 ?_)
      have f5:=vz (G:=G) (F:=none) (L:=N+1) (w:=w) (k:=n) (X:=X) (d:=d) (β:=β) (T:=[some ⟨116,.box (cQ (az X i bb))⟩]);have g8:i<(β.map (fun a:Nat=>(a:Int))).length:=by rw [cr];exact aL
      have g9:b<(β.map (fun a:Nat=>(a:Int))).length:=by rw [cr];omega
      clear f2 f3 f4 m1 m2 m3;rcases zl (az X i N*az X b bb-az X b N*az X i bb) 0 with fy|fy|fy
      ·rw [aA (.inl J)] at fin;refine ds 9 (.int .i64 (-1)) I (aR.of_eq (by rw [ajK fy])) ?_;repeat (refine dh ?_)
       refine eg af ?_;refine eK (fuel:=0) [0,1,2,3,4,5,6,7,8,9,10,11,12,13,14,15,16,17,18,19,20,21,22] [(0,.ptr G.length 0 0),(1,ag bb),(5,ag b),(6,ag N),(7,ag i),(8,.ptr (G.length+4+n) 0 0),(22,ag β.length),(23,ag i),(9,.int .i64 (-1))] aE af aT I I ?_;refine cY ?_;refine jK I I I I I ?_;refine jK I I I I I ?_;refine jK I I I I I ?_;refine pZ I I I I ?_;refine pZ I I I I ?_;refine pZ I I I I ?_;refine pZ I I I I ?_;refine pZ I I I I ?_;refine pZ I I I I ?_;refine pZ I I I I ?_;refine pZ I I I I ?_;refine pZ I I I I ?_;refine pZ I I I I ?_;refine pZ I I I I ?_;refine pZ I I I I ?_;refine pZ I I I I ?_;refine pZ I I I I ?_;refine pZ I I I I ?_;refine jK I I I I I ?_;refine cY ?_;refine eI ?_;refine dX af ?_;repeat (first|refine b0 ?_|refine rv rfl ?_)
       refine c5 I ?_;refine eD ?_;exact fin _ aE
      ·refine ds 9 (.int .i64 0) I (aR.of_eq (by rw [ajM fy])) ?_;repeat (refine dh ?_)
       refine eg af ?_;refine eK (fuel:=0) [0,1,2,3,4,5,6,7,8,9,10,11,12,13,14,15,16,17,18,19,20,21,22] [(0,.ptr G.length 0 0),(1,ag bb),(5,ag b),(6,ag N),(7,ag i),(8,.ptr (G.length+4+n) 0 0),(22,ag β.length),(23,ag i),(9,.int .i64 (0))] aE af aT I I ?_;refine cY ?_;refine iF I I I I (bE I) ?_;refine iF I I I I (pk I I) ?_;refine iF I I I I (bE I) ?_;refine iF I I I I (bE I) ?_;refine iF I I I I (kC I) ?_;refine iF I I I I (de I I I I I I) ?_;refine iF I I I I (o5 I I I h1 lg) ?_;refine iF I I I I (bE I) ?_;refine iF I I I I (mw I I I) ?_;refine iF I I I I (N4 I I I h1 nC) ?_;refine iF I I I I (bE I) ?_;refine iF I I I I (kC I) ?_;refine iF I I I I (de I I I I I I) ?_;refine iF I I I I (o5 I I I h1 lg) ?_;refine iF I I I I (bE I) ?_;refine iF I I I I (mw I I I) ?_;refine iF I I I I (N4 I I I h1 nC) ?_;refine iF I I I I (qU I I) ?_;refine iF I I I I (lO I I) ?_;refine cY ?_;refine eI ?_;refine dX af ?_;repeat (refine b0 ?_)
       refine bm I (fun ay=> ?_) (fun ay=> ?_)
       ·rw [IX,IX] at ay;rw [aA (.inr ⟨J,J⟩)] at fin;skip
        refine c5 I ?_;refine eD ?_;exact fin _ aE
       ·rw [IX,IX] at ay;rw [ax (by unfold AU;omega)] at fin;refine eD ?_;exact fin _ aE
      ·rw [ax (by unfold AU;omega)] at fin;refine ds 9 (.int .i64 1) I (aR.of_eq (by rw [ajL fy])) ?_;repeat (refine dh ?_)
       refine eg af ?_;refine eK (fuel:=0) [0,1,2,3,4,5,6,7,8,9,10,11,12,13,14,15,16,17,18,19,20,21,22] [(0,.ptr G.length 0 0),(1,ag bb),(5,ag b),(6,ag N),(7,ag i),(8,.ptr (G.length+4+n) 0 0),(22,ag β.length),(23,ag i),(9,.int .i64 (1))] aE af aT I I ?_;refine cY ?_;refine iF I I I I (bE I) ?_;refine iF I I I I (pk I I) ?_;refine iF I I I I (bE I) ?_;refine jK I I I I I ?_;refine jK I I I I I ?_;refine jK I I I I I ?_;refine jK I I I I I ?_;refine jK I I I I I ?_;refine jK I I I I I ?_;refine jK I I I I I ?_;refine jK I I I I I ?_;refine jK I I I I I ?_;refine jK I I I I I ?_;refine jK I I I I I ?_;refine jK I I I I I ?_;refine jK I I I I I ?_;refine jK I I I I I ?_;refine jK I I I I I ?_;refine iF I I I I (lO I I) ?_;refine cY ?_;refine eI ?_;refine dX af ?_;refine eD ?_;exact fin _ aE
  ·refine fm (bt G none (N+1) w n X d β []) [some ⟨116,.box (cQ (az X i bb))⟩] [(0,.ptr G.length 0 0),(1,ag bb),(5,.int .i64 (Fb (jJ X β bb N (i+1)))),(6,ag N),(22,ag β.length),(23,ag i)] (by rw [gh];rfl) aE (fun h aV=>by rw [bI] at aV;rw [hlen];exact aV)
    (by rw [hlen];exact rE dG _ J (fun o ah=>by cases ah) (fun o ah=>by cases ah)) (by rw [hlen];simp [kx,hf];omega) ?_
   refine bq ?_;exact b4 ⟨i+1,J,J,aE,I⟩
 ·have df:i=β.length:=J;subst df;refine bo ?_;exact aX aq I ⟨I,I⟩
theorem Yc (x:Int):(0≤kr x)=(¬x<0):=by
 apply propext;unfold kr;constructor
 ·intro h;split at h
  ·exact absurd h aT
  ·assumption
 ·intro h;rw [ax h];split<;>decide
abbrev nE (G:aZ)(N w n:Nat)(t:cq):aZ:=bt G none (N+1) w n t.rows t.den t.basis []
theorem TY (G:aZ)(dG:s6 G)(m N w:Nat)(M:cB)(s:cq)(aa:Inv m N M s)(aQ:kb m N s)(hw:w≤N)(K:Nat)(dH:j9 m N w (gj m N w s K)=none)(E:Nat)(hm:m+1≤1000000)(jy:N+1≤1000000)(ck: ∀t,Inv m N M t→(∀i j,i<m+1→j<N+1→(az t.rows i j).natAbs≤10^E)∧t.den.natAbs≤10^E)(dJ:E≤3600000):
 ch Tryz.prog 177 [.ptr G.length 0 0] (nE G N w (m+1) s) (fun h=>h<(nE G N w (m+1) s).length)
  (fun dB bK=>dB= .int .i64 (Cl m w (gj m N w s K))∧bK=nE G N w (m+1) (gj m N w s K)):=by
 refine gl (P:=Tryz.prog) (fn:=Tryz.f177) I I af I (fun c aq bI=> ?_);have hlen: ∀t:cq,t.rows.length=m+1→(nE G N w (m+1) t).length=G.length+4+(m+1):=fun t bu=>by rw [iE,bu];rfl
 rw [hlen s aa.n] at bI;refine bn ?_;refine cp (ι:=Nat) (fun k=>[(0,.ptr G.length 0 0)]) (fun k=>nE G N w (m+1) (gj m N w s k)) (fun k=>k≤K) (fun k=>K-k) 0 ⟨⟨I,trivial⟩,I,b7 _⟩ ?_;intro k an;obtain ⟨aL,Sf⟩:=CP aa aQ hw k;obtain ⟨Hp,uG⟩:=ck _ aL;have l2:=fun cy=> @aoL m N w s k cy;have Se:= @agk m N w s k K;have aex:j9 m N w (gj m N w s k)≠none→k≠K:=fun h e=>h (by rw [e];exact dH);generalize gj m N w s k=t at*;have aI:=aL.n;have wH:=aL.b;have jB:=aL.row;have hd:t.den≠0:=by have:=aL.gp;omega
 have lm:(t.rows.getD m []).length=N+1:=jB _ (dt [] J);have f1:=ik (G:=G) (F:=none) (L:=N+1) (w:=w) (k:=m+1) (X:=t.rows) (d:=t.den) (β:=t.basis) (T:=[]);have f2:=nJ (G:=G) (F:=none) (L:=N+1) (w:=w) (k:=m+1) (X:=t.rows) (d:=t.den) (β:=t.basis) (T:=[]);have f3:=nc (G:=G) (F:=none) (L:=N+1) (w:=w) (k:=m+1) (X:=t.rows) (d:=t.den) (β:=t.basis) (T:=[]) (a:=m) J;refine bn ?_;refine eg af ?_;refine eK (fuel:=0) [0,1,2,3,4,5,6,7,8,9,10,11,12] [(0,.ptr G.length 0 0)] ⟨I,trivial⟩ af aT I I ?_;refine cY ?_;refine eI ?_;refine dX af ?_;repeat (refine b0 ?_)
 refine ds 3 (.aC (G.length+4+m) 0 (N+1)) I (aR.of_eq (by show ak.aC (G.length+4+(((m+1:Nat):Int)-1).toNat) 0 (N+1)=_;rw [show (((m+1:Nat):Int)-1).toNat=m by omega])) ?_;skip
 refine dh ?_;apply kQ (H:=nE G N w (m+1) t) [(0,.ptr G.length 0 0),(4,ag (gT m w t))]
 ·intro fin;refine bn ?_;refine cp (ι:=Nat) (fun a=>[(0,.ptr G.length 0 0),(3,.aC (G.length+4+m) 0 (N+1)),(4,ag a)]) (fun _=>nE G N w (m+1) t) (fun a=>a≤w∧nb t.rows m (w-a) a=gT m w t) (fun a=>w-a) 0 ⟨aE,I,b7 _,I⟩ ?_;rintro a ⟨a8,zK⟩;by_cases aqs:a<w
  ·have g1:a<(aW (t.rows.getD m [])).len:=by show a<(t.rows.getD m []).length;omega
   have cs:=yN (az t.rows m a);refine cJ ?_;refine bP 24 (.bool true) I (aR.of_eq (by rw [fG J])) ?_;refine fu ?_;refine bP 28 (ef (az t.rows m a)) I (aR.of_eq I) ?_;refine aO I I I cs ?_;refine eD ?_;refine bm I (fun U=> ?_) (fun U=> ?_)
   ·rw [Yc] at U;refine bo ?_;exact b4 ⟨a+1,⟨J,by rw [←zK,show w-a=(w-(a+1))+1 by omega,abP U]⟩,J,aE,I⟩
   ·rw [Yc] at U;rw [ang J] at zK;refine eD ?_;exact fin _ ⟨I,by rw [←zK];rfl,trivial⟩
  ·have adr:a=w:=J;subst adr;rw [n1] at zK;have zK:a=gT m a t:=zK;refine cJ ?_;refine bP 24 (.bool false) I (aR.of_eq (by rw [fT J])) ?_;refine eD ?_;exact fin _ ⟨I,by rw [←zK];rfl,trivial⟩
 ·have hn:gT m w t≤w:=dN (Fx t.rows m w 0).2.1 J;refine uZ ?_;refine bm I (fun U=> ?_) (fun U=> ?_)
  ·have gB:gT m w t=w:=J;have e:=Se (aoy gB) an;refine bc ?_;exact aX aq I ⟨by rw [e];unfold Cl;rw [aA gB];rfl,by rw [e]⟩
  ·have gB:gT m w t≠w:=J;have dY:=agE G dG N w (m+1) t.rows t.den t.basis (gT m w t) E aI J hm jB jy J J Hp dJ;rw [wH] at dY;refine bn ?_;refine rC I I I dY (fun _ h=>h) (fun _ h=>h) ?_;rintro dB bK ⟨rfl,rfl⟩;refine bh ?_;refine bm I (fun ab=> ?_) (fun ab=> ?_)
   ·rw [Xh] at ab;have e:=Se (aox gB ab) an;refine bc ?_;exact aX aq I ⟨by rw [e];unfold Cl;rw [ax gB];rfl,by rw [e]⟩
   ·cases au:jJ t.rows t.basis (gT m w t) N m with
    |none=>rw [au] at ab;exact absurd (show (-1:Int)<0 by decide) ab
    |some r=>
     have av:=ake gB au;have ad:=(Jj _ _ _ _ _ _ au).lt;have HK:=aex (by rw [av];exact fun q=>by cases q);have e:=l2 _ av;have jV:=XV G dG (N+1) w (m+1) t.rows t.den t.basis r (gT m w t) E aI hm jB jy J J J hd Hp uG dJ;refine bn ?_;refine rC I I I jV (fun _ h=>h) (fun _ h=>h) ?_;rintro dB bK ⟨rfl,rfl⟩;refine bo ?_;exact b4 ⟨k+1,J,J,⟨I,trivial⟩,by rw [e];rfl⟩
section
variable {G:aZ}{F:Option bl}{L w k:Nat}{X:cB}{d:Int}{β:List Nat}{T:aZ}
theorem xc (o:Option bl):(bt G F L w k X d β (T++[o]))[G.length+4+X.length+T.length]? =some o:=by rw [gi,ib (bT _),n1];rfl
theorem yK (o o':Option bl):(bt G F L w k X d β (T++[o])).set (G.length+4+X.length+T.length) o'=bt G F L w k X d β (T++[o']):=by rw [j3];congr 1;rw [Bp _ _ (bT _),n1];rfl
end
theorem Nh (G:aZ)(dG:s6 G)(L w k:Nat)(X:cB)(d:Int)(β:List Nat)(T:aZ)(b2: ∀o:bl,some o∈T→fz (bt G none L w k X d β T).length o.c)(x:Int)(hd:d≠0)(ar:(a6 x.natAbs).length≤1000000)(oT:(a6 d.natAbs).length≤1000000):
 ch Tryz.prog 207 [.ptr G.length 0 0,ef x] (bt G none L w k X d β T) (fun h=>h<(bt G none L w k X d β T).length)
  (fun dB bK=>dB=b9 (Rat.divInt x d)∧bK=bt G none L w k X d β T):=by
 have hlen:(bt G none L w k X d β T).length=G.length+4+X.length+T.length:=iE;refine ch.aba (K:=fun dB bK=>dB=b9 (Rat.divInt x d)∧ ∃H1,bK=bt G none L w k X d β T++H1) ?_ (fun dB bK h=> ?_)
 ·refine gl (P:=Tryz.prog) (fn:=Tryz.f207) I I af I (fun c aq bI=> ?_);have si:=Di x d hd ar oT;refine bc ?_;refine jk (bt G none L w k X d β (T++[some ⟨116,.box (cQ x)⟩]++[some ⟨118,.box [.bool false,.nil,.nil]⟩])) (by rw [gh,gh];rfl) ?_;refine ds 3 (.ptr (G.length+4+X.length+T.length) 0 0) I (aR.of_eq (by rw [hlen])) ?_;refine ds 4 (.ptr (G.length+4+X.length+(T++[some (⟨116,.box (cQ x)⟩:bl)]).length) 0 0) I (aR.of_eq (by rw [gh,iE];rfl)) ?_;have f1:=ik (G:=G) (F:=none) (L:=L) (w:=w) (k:=k) (X:=X) (d:=d) (β:=β) (T:=T++[some ⟨116,.box (cQ x)⟩]++[some ⟨118,.box [.bool false,.nil,.nil]⟩]);have f2:=gi (G:=G) (F:=none) (L:=L) (w:=w) (k:=k) (X:=X) (d:=d) (β:=β) (T:=T++([some ⟨116,.box (cQ x)⟩]++[some ⟨118,.box [.bool false,.nil,.nil]⟩])) T.length;rw [ib (bT _),n1] at f2;rw [←lz] at f2;have f3:=xc (G:=G) (F:=none) (L:=L) (w:=w) (k:=k) (X:=X) (d:=d) (β:=β) (T:=T++[some ⟨116,.box (cQ x)⟩]) (some ⟨118,.box [.bool false,.nil,.nil]⟩);have f2:(bt G none L w k X d β (T++[some ⟨116,.box (cQ x)⟩]++[some ⟨118,.box [.bool false,.nil,.nil]⟩]))[G.length+4+X.length+T.length]? =some (some (⟨116,.box (cQ x)⟩:bl)):=f2;refine eg af ?_;refine eK (fuel:=1) [0,1,2,3,4,5] [(0,.ptr G.length 0 0),(3,.ptr (G.length+4+X.length+T.length) 0 0),(4,.ptr (G.length+4+X.length+(T++[some (⟨116,.box (cQ x)⟩:bl)]).length) 0 0)] aE af aT I I ?_;refine cY ?_;refine dW I I I I I si ?_;refine eI ?_;unfold b9;refine br 6 ?_;refine eE (c':= .box (bW (Rat.divInt x d))) I I I f3 I fA I I (fun aG a7 aL bd=> ?_) ?_
  ·rw [aA (fw.1 aL)];rfl
  refine dw (bt G none L w k X d β (T++[some ⟨116,.box (cQ x)⟩]++[some ⟨118,.box (bW (Rat.divInt x d))⟩])) (yK _ _) ?_;have f4:=xc (G:=G) (F:=none) (L:=L) (w:=w) (k:=k) (X:=X) (d:=d) (β:=β) (T:=T++[some ⟨116,.box (cQ x)⟩]) (some ⟨118,.box (bW (Rat.divInt x d))⟩);refine bn ?_;refine dX af (bF ?_);exact aX aq (Jh I f4 I I I) ⟨I,_,by rw [gh,lz]⟩
 ·obtain ⟨rfl,H1,rfl⟩:=h;exact ⟨_,H1,rfl,fun h aV=>aV,rE dG _ J (fun o ah=>by cases ah) b2,rfl,rfl,rfl⟩
end Go.Proofs.YtmpnheilfejcpaaGreatDoor
namespace Go.Proofs.YtmpnheilfejcpaaGreatDoor
open Go.aj Go.aj.dn Go.aj.cX Go.RowKit Go.aj.dZ Go.aj.c0
theorem Ow {A:aZ}{t:TypeId}{n:Nat}: ∀(h:Nat) (o':bl),(A++[some ⟨t,aW (List.replicate n 0)⟩])[h]? =some (some o')→ ∃o:bl,(A++[some ⟨t,jE n [.bool false,.nil]⟩])[h]? =some (some o)∧o'.ty=o.ty∧o'.c.len=o.c.len∧o'.c.b8=o.c.b8∧ ∀i j,i<o.c.len→j<o.c.aD→aR (o.c.at i j) (o'.c.at i j):=by
 intro h o' cP;by_cases au:h<A.length
 ·rw [hQ au] at cP;refine ⟨o',by rw [hQ au];exact cP,I,I,I,fun i j _ _=>aR.of_eq I⟩
 ·have aV:h=A.length:=by have U:=(hi.1 cP).1;rw [c8] at U;have U:h<A.length+1:=U;omega
  subst aV;rw [ib (bT _),n1] at cP;cases cP;refine ⟨⟨t,jE n [.bool false,.nil]⟩,by rw [ib (bT _),n1];rfl,I,?_,I,fun i j aa ae=> ?_⟩
  ·simp [fi,Cells.len,jE]
  ·have aa:i<n:=by simpa [Cells.len,jE] using aa
   have ae:j<2:=ae;show aR _ ((cQ ((List.replicate n (0:Int)).getD i 0)).getD j .any);rw [eo 0 (by simpa using aa),Bt]
   match j,ae with
   |0,_=>exact aR.of_eq rfl
   |1,_=>exact aR.M7
theorem aM.set {H bK:aZ}(av:aM H bK)(h:Nat){x x':Option bl}(ar: ∀o',x'=some o'→ ∃o,x=some o∧o'.ty=o.ty∧cu o.c o'.c):aM (H.set h x) (bK.set h x'):=by
 refine ⟨by rw [dd,dd,av.1],fun i o' cP=> ?_⟩;rw [DU] at cP⊢;by_cases e:h=i
 ·rw [aA e] at cP⊢;split at cP
  ·rename_i au;rw [aA (by rw [←av.1];exact au)];cases cP;obtain ⟨o,U,ab⟩:=ar o' rfl;exact ⟨o,by rw [U],ab⟩
  ·cases cP
 ·rw [ax e] at cP⊢;exact av.2 i o' cP
theorem aM.trans' {A B C:aZ}(U:aM A B)(ab:aM B C):aM A C:=by refine ⟨ab.1.trans U.1,fun h o ah=> ?_⟩;obtain ⟨o1,g1,g2,g3⟩:=ab.2 h o ah;obtain ⟨o2,ee,fg,gC⟩:=U.2 h o1 g1;refine ⟨o2,ee,g2.trans fg,?_⟩;obtain ⟨gy,a2,a3⟩:=gC;obtain ⟨ei,ew,nt⟩:=g3;exact ⟨ei.trans gy,ew.trans a2,fun i j aa ae=>(nt i j (by rw [gy];exact aa) (by rw [A8 a2];exact ae)).trans (a3 i j aa ae)⟩
abbrev GA (G:aZ)(L w:Nat)(X:cB)(d:Int)(β:List Nat)(T:aZ):aZ:=
 G++(some ⟨249,.box [.any,.bool (decide (d<0)),bB d.natAbs,.aC (G.length+2) 0 β.length,ag w]⟩::none::some ⟨3,fQ β⟩::fp ⟨243,fh G.length X.length L⟩ 116 aW X T)
theorem Yu {G:aZ}{L w:Nat}{X:cB}{d:Int}{β:List Nat}{T:aZ}:(GA G L w X d β T)[G.length]? =some (some ⟨249,.box [.any,.bool (decide (d<0)),bB d.natAbs,.aC (G.length+2) 0 β.length,ag w]⟩):=tU (i:=0) rfl
theorem Yv {G:aZ}{L w k:Nat}{X:cB}{d:Int}{β:List Nat}{T:aZ}:(GA G L w X d β T).set G.length (some ⟨249,jq G.length k β.length w d⟩)=bt G none L w k X d β T:=pX (i:=0) _ rfl
theorem Jz {α:Type}{O:bl}{t:TypeId}{f:α→Cells}{X:List α}{x:α}{T:aZ}:fp O t f X (some ⟨t,f x⟩::T)=fp O t f (X++[x]) T:=by unfold fp;congr 1;show gk t f X++([some ⟨t,f x⟩]++T)=_;rw [←lz,VA]
theorem Wg {G:aZ}{L w k:Nat}{X:cB}{x:List Int}{d:Int}{β:List Nat}{a:Option bl}{c':Cells}(dG:c7 (G.length+3) G=G)(aw:cu c' (fh G.length (X.length+1) L)):
 aM ((c7 (G.length+3) (bt G none L w k X d β [some ⟨116,aW x⟩,a])).set (G.length+3) (some ⟨243,c'⟩)) (GA G L w (X++[x]) d β [none]):=by
 unfold bt;rw [wV,dG];have e:c7 (G.length+3) (some (⟨249,jq G.length k β.length w d⟩:bl)::none::some ⟨3,fQ β⟩::fp ⟨243,fh G.length X.length L⟩ 116 aW X [some ⟨116,aW x⟩,a])
  =some ⟨249,.box [.any,.bool (decide (d<0)),bB d.natAbs,.aC (G.length+2) 0 β.length,ag w]⟩::none::some ⟨3,fQ β⟩::fp ⟨243,(fh G.length X.length L).forget (G.length+3)⟩ 116 aW X (c7 (G.length+3) [some ⟨116,aW x⟩,a]):=by show some (⟨_,Cells.box (ak.kj _ _)⟩:bl)::none::some (⟨_,fQ β⟩:bl)::c7 (G.length+3) (fp _ _ _ X _)=_;rw [Au (G.length+3) (o7 (G.length+3))];simp [ak.kj,ak.forget,bB,dv]
 rw [e];refine aM.trans' (B:=G++(some ⟨249,.box [.any,.bool (decide (d<0)),bB d.natAbs,.aC (G.length+2) 0 β.length,ag w]⟩::none::some ⟨3,fQ β⟩::fp ⟨243,c'⟩ 116 aW X (c7 (G.length+3) [some ⟨116,aW x⟩,a]))) ?_ ?_
 ·rw [show (G++(some (⟨249,.box [.any,.bool (decide (d<0)),bB d.natAbs,.aC (G.length+2) 0 β.length,ag w]⟩:bl)::none::some ⟨3,fQ β⟩::fp ⟨243,(fh G.length X.length L).forget (G.length+3)⟩ 116 aW X (c7 (G.length+3) [some ⟨116,aW x⟩,a]))).set (G.length+3) (some ⟨243,c'⟩)=_ from pX (i:=3) _ rfl];exact aM.refl _
 ·refine aM.append (aM.refl _) (aM.same (aM.same (aM.same ?_)));have au:c7 (G.length+3) [some (⟨116,aW x⟩:bl),a]=[some ⟨116,aW x⟩,ja (G.length+3) a]:=by show [some (⟨116,(aW x).forget _⟩:bl),_]=_;rw [o7]
  rw [au,Jz];refine yO ⟨I,?_⟩ (aM.drop aM.nil);show cu c' (fh G.length (X++[x]).length L);rw [c8];exact aw
theorem CS (b n L:Nat)(ec:Cells)(aU:ec.at 0 0= .aC (b+4+n) 0 L):cu (.fn (n+1) 1 (fun i j=>bif Nat.blt i n then (fh b n L).at i j else ec.at (0+(i-n)) j)) (fh b (n+1) L):=by
 refine ⟨I,I,fun i j aa ae=> ?_⟩;obtain rfl:=fw.1 (show j<1 from ae);have aa:i<n+1:=aa;show ak.aC (b+4+i) 0 L=bif Nat.blt i n then ak.aC (b+4+i) 0 L else ec.at (0+(i-n)) 0;by_cases e:i<n
 ·rw [show Nat.blt i n=true from q4 e];rfl
 ·have aJ:i=n:=J;subst aJ;rw [show Nat.blt i i=false by
   cases h:Nat.blt i i with
   |false=>rfl
   |true=>exact absurd (iv h) (Nat.not_succ_le_self i)]
  rw [n1,e6];exact aU.symm
theorem Dd {H:aZ}{h i m:Nat}{o:bl}(aV:H[h]? =some (some o)):A6 H (.aC h i m)=some (o.c,i,m):=by simp only [A6,aV]
theorem OY {G:aZ}{L w k:Nat}{X:cB}{d:Int}{β:List Nat}{T jt:aZ}(h:Nat)(dG:c7 h G=G)(aV:G.length+4+X.length≤h)(b2:aM (c7 h T) jt):
 aM (c7 h (bt G none L w k X d β T)) (bt G none L w k X d β jt):=by
 unfold bt;rw [wV,dG];refine aM.append (aM.refl _) ?_;have e:c7 h (some (⟨249,jq G.length k β.length w d⟩:bl)::none::some ⟨3,fQ β⟩::fp ⟨243,fh G.length X.length L⟩ 116 aW X T)
  =some ⟨249,jq G.length k β.length w d⟩::none::some ⟨3,fQ β⟩::fp ⟨243,(fh G.length X.length L).forget h⟩ 116 aW X (c7 h T):=by show some (⟨_,Cells.box (ak.kj _ _)⟩:bl)::none::some (⟨_,fQ β⟩:bl)::c7 h (fp _ _ _ X _)=_;rw [Au h (o7 h)];simp [ak.kj,ak.forget,bB,dv (show G.length+3≠h by omega),dv (show G.length+2≠h by omega)]
 rw [e];refine aM.same (aM.same (aM.same (yO ⟨I,I,I,fun i j aa ae=> ?_⟩ b2)));obtain rfl:=fw.1 (show j<1 from ae);have aa:i<X.length:=aa;show ak.aC (G.length+4+i) 0 L=ak.forget h (ak.aC (G.length+4+i) 0 L);unfold ak.forget;rw [dv (show G.length+4+i≠h by omega)];rfl
theorem alD {G:aZ}{L w k:Nat}{X:cB}{d:Int}{β:List Nat}{y:Option bl}{t:TypeId}{c' ki:Cells}(dG:c7 (G.length+4+X.length) G=G)(aw:cu c' ki):
 aM ((c7 (G.length+4+X.length) (bt G none L w k X d β [y])).set (G.length+4+X.length) (some ⟨t,c'⟩)) (bt G none L w k X d β [some ⟨t,ki⟩]):=by
 have e:bt G none L w k X d β [some ⟨t,ki⟩]=(bt G none L w k X d β [none]).set (G.length+4+X.length) (some ⟨t,ki⟩):=by have q:=j3 (G:=G) (F:=none) (L:=L) (w:=w) (k:=k) (X:=X) (d:=d) (β:=β) (T:=[none]) 0 (some ⟨t,ki⟩);exact q.symm
 rw [e];exact aM.set (OY (T:=[y]) (jt:=[none]) _ dG (bT _) (show aM [ja _ y] [none] from aM.drop aM.nil)) _ (fun o ah=>by cases ah;exact ⟨_,rfl,rfl,aw⟩)
theorem apA {X:cB}{m:Nat}(h:X.length=m+1):X.take m++[X.getD m []]=X:=by
 apply jS (by rw [c8,fc,h];show min m (m+1)+1=m+1;omega);intro i U ab;by_cases e:i<m
 ·rw [List.getElem_append_left (by rw [fc];omega),List.getElem_take]
 ·have aJ:i=m:=J;subst aJ;rw [List.getElem_append_right (by rw [fc];omega)];simp [List.getD,h]
theorem akw {G:aZ}{L w k m:Nat}{X:cB}{d:Int}{β:List Nat}(h:X.length=m+1):
 (bt G none L w k X d β []).set (G.length+3) (some ⟨243,fh G.length m L⟩)=bt G none L w k (X.take m) d β [some ⟨116,aW (X.getD m [])⟩]:=by
 refine (pX (i:=3) _ I).trans ?_;show G++(_::_::_::fp ⟨_,fh G.length m L⟩ _ _ X [])=_;have au:(X.take m).length=m:=by rw [fc,h];omega
 unfold bt;rw [Jz,apA h,au]
end Go.Proofs.YtmpnheilfejcpaaGreatDoor
namespace Go.Proofs.YtmpnheilfejcpaaGreatDoor
open Go.aj Go.aj.dn Go.aj.cX Go.RowKit Go.aj.dZ Go.aj.c0
attribute [local irreducible] aj eJ b1 ch hc
abbrev cD (l:List Nat):Cells:=fi 0 1 (fun n:Nat=>[bB n]) l
def r5 (y:List Rat)(f:List Nat)(k:Nat):List Rat:=(List.range k).map (fun i=>y.getD i 0*((f.getD i 0:Nat):Rat))
theorem apF (y:List Rat)(f:List Nat)(k:Nat):r5 y f (k+1)=r5 y f k++[y.getD k 0*((f.getD k 0:Nat):Rat)]:=by unfold r5;rw [ti,gV];rfl
theorem Yk (y:List Rat)(f:List Nat)(k:Nat):(r5 y f k).length=k:=by simp [r5]
theorem ail (n:Nat):b9 ((n:Nat):Rat)= .agg [.bool false,bB n,bB 1]:=by unfold b9;have U:((n:Nat):Rat).num=(n:Int):=rfl;have ab:((n:Nat):Rat).den=1:=rfl;rw [U,ab,k4,fT J]
theorem aae (l:List Rat)(n:Nat):fz n (aN l):=by
 intro i j _ ae;show hf n ((bW (l.getD i 0)).getD j .any)=true;have ae:j<3:=ae
 match j,ae with
 |0,_=>rfl
 |1,_=>rfl
 |2,_=>rfl
theorem V4 (y:List Rat)(f:List Nat)(K:Nat)(au:y.length=f.length)(arc:y.length≤1000000)(a1: ∀q∈y,D K q)(aQ: ∀n∈f,n<10^K)(dH:K≤895000):
 bs Tryz.prog 173 [.ro (aN y) 0 y.length,.ro (cD f) 0 f.length] (.ro (aN (r5 y f y.length)) 0 y.length):=by
 have dk:=FQ 1 aT;refine ch.value (K:=fun r H=>r= .aC 0 0 y.length∧H=[some ⟨118,aN (r5 y f y.length)⟩]) (gl (P:=Tryz.prog) (fn:=Tryz.f173) I I af I (fun c aq bI=> ?_)) (fix:=fun _=>False) (fun _ h=>h) I ?_
 ·refine fb ?_;refine jF 5 ⟨118,aN (r5 y f 0)⟩ I I ?_;repeat (refine fD ?_)
  refine cp (ι:=Nat) (fun k=>[(1,.ro (cD f) 0 f.length),(5,.aC 0 0 k),(8,.ro (aN y) 0 y.length),(9,ag y.length),(10,ag k)]) (fun k=>[some ⟨118,aN (r5 y f k)⟩])
   (fun k=>k≤y.length) (fun k=>y.length-k) 0 ⟨aE,rfl,b7 _⟩ ?_
  intro k an;refine bh ?_;refine bm I (fun h=> ?_) (fun h=> ?_)
  ·have bO:k<y.length:=J;have aeB:k<f.length:=J;have av:=apF y f k;have EZ:=Yk y f k;have acI:=a1 _ (dt 0 bO);have acH:D (K+1) ((f.getD k 0:Nat):Rat):=Im (q7 (aQ _ (dt 0 aeB)));have gW:=AT (y.getD k 0) ((f.getD k 0:Nat):Rat) (hg (acI.mono J)) (hg (acH.mono J));rw [ail] at gW;generalize adh:r5 y f (k+1)=K5 at*;generalize r5 y f k=dE at*;refine bc ?_;refine dw [some ⟨118,aN dE⟩,some ⟨118,.box [.bool false,.nil,.nil]⟩] I ?_;refine bP 7 (.ptr 1 0 0) I (aR.of_eq I) ?_;refine bP 14 (.agg (bW (y.getD k 0))) I (aR.of_eq I) ?_;refine dA (c':= .box (bW (y.getD k 0))) I I I I I I I (bF ?_);refine jk [some ⟨118,aN dE⟩,some ⟨118,.box (bW (y.getD k 0))⟩] I ?_;refine eg af ?_;refine bH 0 I af af af I (bE I) I ?_;refine eK (fuel:=3) [1,2,3,4,5,6,7,8,9] [(15,.aC 0 0 k),(1,.ro (cD f) 0 f.length),(5,.aC 0 0 k),(8,.ro (aN y) 0 y.length),(9,ag y.length),(10,ag k),(6,ag k),(7,.ptr 1 0 0)] aE af aT I I ?_;refine cY ?_;refine dW I I I I I dk ?_;refine cY ?_;refine dW I I I I I gW ?_;refine eI ?_;unfold b9;refine br 10 ?_;refine bq ?_;refine br 11 ?_;refine dy I I I I I I I I I EZ I I dT I (by show (k+1)*56≤_∧_;omega) ?_ c3 ?_
   ·intro aG j aa ae;exact hF 0 3 bW qL dE _ _ (j8 _) 0 aG j aa ae
   refine fj [some ⟨118,aN K5⟩,some ⟨118,.box (bW (y.getD k 0))⟩] ?_ ?_
   ·rw [av];exact aM.eqv (ha 0 3 bW dE _ _ (j8 _)) (aM.eqv (cu.refl _) aM.nil)
   refine bn ?_;refine bH 12 I af af af I (du I) I ?_;refine dX af ?_;repeat (refine j2 ?_)
   refine b0 ?_;refine fm [some ⟨118,aN K5⟩] [some ⟨118,.box (bW (y.getD k 0))⟩] [(1,.ro (cD f) 0 f.length),(5,.aC 0 0 (k+1)),(8,.ro (aN y) 0 y.length),(9,ag y.length),(10,ag k)] I aE (fun h aV=>by rw [bI] at aV;exact aV.elim) (fun h o ah=>by
    match h,ah with
    |0,ah=>cases ah;exact aae K5 _) rfl ?_
   refine bq ?_;exact b4 ⟨k+1,J,J,aE,by rw [adh]⟩
  ·have jz:k=y.length:=J;subst jz;refine bo ?_;exact aX aq I ⟨I,I⟩
 ·rintro r H ⟨rfl,rfl⟩;exact ⟨rfl,fun o ah=>by simp at ah;subst ah;exact Nat.le_of_eq (by simp [Cells.len,fi,Yk]),p8 (mx _)⟩
theorem WR {α:Type}(d:α)(n:Nat)(e:α→List ak)(a b:List α):cu (.fn (a.length+b.length) n (fun i j=>bif Nat.blt i a.length then (fi d n e a).at i j else (fi d n e b).at (0+(i-a.length)) j)) (fi d n e (a++b)):=by
 refine ⟨by simp [fi,Cells.len],I,fun i j aa ae=> ?_⟩;show (e ((a++b).getD i d)).getD j .any=bif Nat.blt i a.length then (e (a.getD i d)).getD j .any else (e (b.getD (0+(i-a.length)) d)).getD j .any;by_cases h:i<a.length
 ·rw [show Nat.blt i a.length=true from q4 h,rG d h];rfl
 ·have ab:Nat.blt i a.length=false:=by
   cases e:Nat.blt i a.length with
   |false=>rfl
   |true=>(have:i+1≤a.length:=iv e;omega)
  rw [ab,cT];have:(a++b).getD i d=b.getD (i-a.length) d:=by simp only [List.getD];rw [ib J]
  rw [this];rfl
theorem aaE (l:List Rat)(au:l.length≤1000000):ud Tryz.prog 206 [.ro (aN l) 0 l.length] (fun N=> .aC N 0 l.length) ⟨118,aN l⟩:=by
 refine ch.fresh (K:=fun r H=>r= .aC 0 0 l.length∧H=[some ⟨118,aN l⟩]) (gl (P:=Tryz.prog) (fn:=Tryz.f206) I I af I (fun c aq bI=> ?_)) (fix:=fun _=>False) (fun _ h=>h) I (fun H=>⟨I,by simp [mG,lG]⟩) ?_
 ·refine bF ?_;refine O9 I I I (fun b al=> ?_);refine bF ?_;refine tV I (fun h=> ?_) (fun h=> ?_)
  ·have:=al h;have aI:l=[]:=uu.mp this;subst aI;refine cJ ?_;refine jF 2 ⟨118,aN []⟩ I I (c4 ?_);exact aX aq I ⟨I,I⟩
  ·refine bn ?_;refine u9 I I I I I I I I I I ?_;refine fj [some ⟨118,aN []⟩] (aM.eqv ⟨I,I,fun i j aa=>absurd aa (gg _)⟩ aM.nil) ?_;repeat (refine ao (bE rfl) ?_)
   refine dy I I I I I I I I I I I I (by show 0+l.length≤l.length;omega) I (by show (0+l.length)*56≤_∧_;omega) ?_ c3 ?_
   ·intro aG a7 aL bd;have q:=(WR 0 3 bW [] l).2.2 aG a7 aL bd;refine (congrArg (ak.forget 0) q.symm).trans (tj ?_ q);exact qL _ a7 0 bd
   refine fj [some ⟨118,aN l⟩] (aM.eqv (WR 0 3 bW [] l) aM.nil) (bF ?_);refine aX aq I ⟨?_,I⟩;show ak.aC 0 0 (0+l.length)=_;rw [cT]
 ·rintro r H ⟨rfl,rfl⟩;refine ⟨?_,fun h o ah=>p8 (mx _) h o ah,0,I,fun n=>rfl⟩;intro o ah;simp at ah;subst ah;show 0+l.length≤l.length;omega
theorem JK (N:Nat)(a:List Int):(aW a).shift N=aW a:=by
 show Cells.fn _ _ _=Cells.fn _ _ _;congr 1;funext i j
 match j with
 |0=>rfl
 |1=>rfl
 |_+2=>rfl
theorem W8 (l:List Rat)(K:Nat)(fy: ∀q∈l,D K q)(hlen:l.length≤1000)(dH:K*l.length+K≤900000):
 GR Tryz.prog 174 [.ro (aN l) 0 l.length] (.cn [.aC 0 0 l.length,bB (hV 1 l)]) [some ⟨116,aW (hS l)⟩]:=by have dk:=apJ l K fy hlen dH;refine ch.many (gl (P:=Tryz.prog) (fn:=Tryz.f174) I I af I (fun c aq bI=> ?_)) (fix:=fun _=>False) (fun _ h=>h) I;refine bF ?_;refine JR (.cn [.aC 0 0 l.length,bB (hV 1 l)]) [some ⟨116,aW (hS l)⟩] I I I dk I (by show []++[some (⟨_,(aW (hS l)).shift 0⟩:bl)]=_;rw [JK];rfl) (c4 ?_);exact aX aq I ⟨I,I⟩
theorem VB (B:List Rat)(i:Nat)(aa:(B.getD i 0).num<0): ∀d,∃r,eB B (i+1+d)=eB B i++i::r
 |0=>⟨[],by show eB B (i+1)=_;rw [eB,aA aa]⟩
 |d+1=>by
  obtain ⟨r,ad⟩:=VB B i aa d;show∃r,eB B (i+1+d+1)=_;rw [eB];split
  ·exact ⟨r++[i+1+d],by rw [ad];simp⟩
  ·exact ⟨r,ad⟩
theorem ahh (B:List Rat){i m:Nat}(aa:i<m):Go.aj.kD.iz (Go.aj.eP.qn (i:Int)) ((eB B m).map (fun a:Nat=>(a:Int)))=if (B.getD i 0).num<0 then ((e3 B i:Nat):Int) else-1:=by
 have ig: ∀l:List Nat,i∉l→(l.map (fun a:Nat=>(a:Int))).any (Go.aj.eP.qn (i:Int))=false:=by intro l au;rw [uz];intro x ar;obtain ⟨a,a8,rfl⟩:=cO.1 ar;simp only [Go.aj.eP.qn,eL];intro e;have:i=a:=J;exact au (this▸a8)
 by_cases h:(B.getD i 0).num<0
 ·rw [aA h];obtain ⟨r,ad⟩:=VB B i h (m-(i+1));rw [show i+1+(m-(i+1))=m by omega] at ad;have BZ:i∉eB B i:=fun q=>absurd (JM.1 q).1 (oI i);have au:(eB B i).length≤((eB B m).map (fun a:Nat=>(a:Int))).length:=by rw [ad];simp
  have bu:((eB B m).map (fun a:Nat=>(a:Int))).take (eB B i).length=(eB B i).map (fun a:Nat=>(a:Int)):=by rw [ad,gV,List.take_left' bX]
  have hd:((eB B m).map (fun a:Nat=>(a:Int))).drop (eB B i).length=(i:Int)::r.map (fun a:Nat=>(a:Int)):=by rw [ad,gV,List.drop_left' bX];rfl
  rw [Go.aj.kD.qz _ _ (eB B i).length (by rw [bu];exact ig _ BZ) au,hd];have jW:Go.aj.kD.iz (Go.aj.eP.qn (i:Int)) ((i:Int)::r.map (fun a:Nat=>(a:Int)))=0:=by rw [Go.aj.kD.iz,aA (by simp [Go.aj.eP.qn])]
  rw [jW,ax J];show (0:Int)+((eB B i).length:Nat)=_;rw [Int.zero_add]
 ·rw [ax h];have BZ:i∉eB B m:=fun q=>h (JM.1 q).2;rw [Go.aj.kD.qz _ _ ((eB B m).map (fun a:Nat=>(a:Int))).length (by rw [e7];exact ig _ BZ) (bT _),qj];rfl
section
variable {G:aZ}{F:Option bl}{L w k:Nat}{X:cB}{d:Int}{β:List Nat}{T jt:aZ}
abbrev Kz (G:aZ)(F:Option bl)(L w:Nat)(X:cB)(d:Int)(β:List Nat)(T:aZ):aZ:=
 G++(some ⟨249,.box [.any,.bool (decide (d<0)),bB d.natAbs,.aC (G.length+2) 0 β.length,ag w]⟩::F::some ⟨3,fQ β⟩::fp ⟨243,fh G.length X.length L⟩ 116 aW X T)
theorem ZR:(Kz G F L w X d β T)[G.length]? =some (some ⟨249,.box [.any,.bool (decide (d<0)),bB d.natAbs,.aC (G.length+2) 0 β.length,ag w]⟩):=tU (i:=0) rfl
theorem ZS:(Kz G F L w X d β T).set G.length (some ⟨249,jq G.length k β.length w d⟩)=bt G F L w k X d β T:=pX (i:=0) _ rfl
abbrev GB (G:aZ)(F:Option bl)(L w k:Nat)(X:cB)(d:Int)(β:List Nat)(T:aZ):aZ:=
 G++(some ⟨249,.box [.aC (G.length+3) 0 k,.bool (decide (d<0)),bB d.natAbs,.any,ag w]⟩::F::some ⟨3,fQ β⟩::fp ⟨243,fh G.length X.length L⟩ 116 aW X T)
theorem Z8:(GB G F L w k X d β T)[G.length]? =some (some ⟨249,.box [.aC (G.length+3) 0 k,.bool (decide (d<0)),bB d.natAbs,.any,ag w]⟩):=tU (i:=0) rfl
theorem Z9:(GB G F L w k X d β T).set G.length (some ⟨249,jq G.length k β.length w d⟩)=bt G F L w k X d β T:=pX (i:=0) _ rfl
theorem YO (h:Nat)(B:Cells)(dG:c7 h G=G)(mR:ja h F=F){O:Cells}(zB:cu (O.forget h) O)(b2:aM (c7 h T) jt):
 aM (c7 h (G++(some ⟨249,B⟩::F::some ⟨3,fQ β⟩::fp ⟨243,O⟩ 116 aW X T))) (G++(some ⟨249,B.forget h⟩::F::some ⟨3,fQ β⟩::fp ⟨243,O⟩ 116 aW X jt)):=by
 rw [wV,dG];refine aM.append (aM.refl _) ?_;have e:c7 h (some (⟨249,B⟩:bl)::F::some ⟨3,fQ β⟩::fp ⟨243,O⟩ 116 aW X T)
  =some ⟨249,B.forget h⟩::F::some ⟨3,fQ β⟩::fp ⟨243,O.forget h⟩ 116 aW X (c7 h T):=by show some (⟨_,B.forget h⟩:bl)::ja h F::some (⟨_,fQ β⟩:bl)::c7 h (fp _ _ _ X _)=_;rw [Au h (o7 h),mR]
 rw [e];exact aM.same (aM.same (aM.same (yO ⟨I,zB⟩ b2)))
theorem Qi (b n L h:Nat)(aV:b+4+n≤h∨h<b+4):cu ((fh b n L).forget h) (fh b n L):=by refine ⟨I,I,fun i j aa ae=> ?_⟩;obtain rfl:=fw.1 (show j<1 from ae);have aa:i<n:=aa;show ak.aC (b+4+i) 0 L=ak.forget h (ak.aC (b+4+i) 0 L);unfold ak.forget;rw [dv (show b+4+i≠h by omega)];rfl
theorem Zm (b k m w h:Nat)(d:Int)(U:b+3≠h)(ab:b+2≠h):(jq b k m w d).forget h=jq b k m w d:=by show Cells.box (ak.kj h _)=_;simp [ak.kj,ak.forget,bB,dv U,dv ab]
theorem akt (b k m w:Nat)(d:Int):(jq b k m w d).forget (b+3)= .box [.any,.bool (decide (d<0)),bB d.natAbs,.aC (b+2) 0 m,ag w]:=by show Cells.box (ak.kj _ _)=_;simp [ak.kj,ak.forget,bB,dv (show b+2≠b+3 by omega)]
theorem aks (b k m w:Nat)(d:Int):(jq b k m w d).forget (b+2)= .box [.aC (b+3) 0 k,.bool (decide (d<0)),bB d.natAbs,.any,ag w]:=by show Cells.box (ak.kj _ _)=_;simp [ak.kj,ak.forget,bB,dv (show b+3≠b+2 by omega)]
theorem V1 (h:Nat)(aV:G.length+4+X.length≤h∨h=G.length+1)(dG:c7 h G=G)(mR:ja h F=F)(b2:aM (c7 h T) jt):aM (c7 h (bt G F L w k X d β T)) (bt G F L w k X d β jt):=by have q:=YO (X:=X) (β:=β) h (jq G.length k β.length w d) dG mR (Qi G.length X.length L h J) b2;rw [Zm _ _ _ _ _ _ J J] at q;exact q
theorem als {y:Option bl}{t:TypeId}{c' ki:Cells}(dG:c7 (G.length+4+X.length) G=G)(mR:ja (G.length+4+X.length) F=F)(aw:cu c' ki):
 aM ((c7 (G.length+4+X.length) (bt G F L w k X d β [y])).set (G.length+4+X.length) (some ⟨t,c'⟩)) (bt G F L w k X d β [some ⟨t,ki⟩]):=by
 have e:bt G F L w k X d β [some ⟨t,ki⟩]=(bt G F L w k X d β [none]).set (G.length+4+X.length) (some ⟨t,ki⟩):=by have q:=j3 (G:=G) (F:=F) (L:=L) (w:=w) (k:=k) (X:=X) (d:=d) (β:=β) (T:=[none]) 0 (some ⟨t,ki⟩);exact q.symm
 rw [e];exact aM.set (V1 (T:=[y]) (jt:=[none]) _ (.inl (bT _)) dG mR (show aM [ja _ y] [none] from aM.drop aM.nil)) _ (fun o ah=>by cases ah;exact ⟨_,rfl,rfl,aw⟩)
theorem alr {c' ki:Cells}{t:TypeId}(dG:c7 (G.length+1) G=G)(aw:cu c' ki)(b2:aM (c7 (G.length+1) T) jt):
 aM ((c7 (G.length+1) (bt G F L w k X d β T)).set (G.length+1) (some ⟨t,c'⟩)) (bt G (some ⟨t,ki⟩) L w k X d β jt):=by
 have e:bt G (some ⟨t,ki⟩) L w k X d β jt=(bt G none L w k X d β jt).set (G.length+1) (some ⟨t,ki⟩):=by refine Eq.symm ((pX (i:=1) _ I).trans ?_);rfl
 rw [e];have aJ:c7 (G.length+1) (bt G F L w k X d β T)=G++(some ⟨249,jq G.length k β.length w d⟩::ja (G.length+1) F::some ⟨3,fQ β⟩::fp ⟨243,(fh G.length X.length L).forget (G.length+1)⟩ 116 aW X (c7 (G.length+1) T)):=by unfold bt;rw [wV,dG];show G++(some (⟨_,(jq G.length k β.length w d).forget (G.length+1)⟩:bl)::ja (G.length+1) F::some (⟨_,fQ β⟩:bl)::c7 (G.length+1) (fp _ _ _ X _))=_;rw [Au (G.length+1) (o7 (G.length+1)),Zm _ _ _ _ _ _ J J]
 rw [aJ];have q:aM (G++(some ⟨249,jq G.length k β.length w d⟩::ja (G.length+1) F::some ⟨3,fQ β⟩::fp ⟨243,(fh G.length X.length L).forget (G.length+1)⟩ 116 aW X (c7 (G.length+1) T))) (bt G none L w k X d β jt):=
  aM.append (aM.refl _) (aM.same (aM.drop (aM.same (yO (O:=⟨243,(fh G.length X.length L).forget (G.length+1)⟩) (zb:=⟨243,fh G.length X.length L⟩) ⟨rfl,Qi G.length X.length L (G.length+1) (.inr J)⟩ b2))))
 exact aM.set q _ (fun o ah=>by cases ah;exact ⟨_,rfl,rfl,aw⟩)
theorem alq {c':Cells}{xk:List Nat}(dG:c7 (G.length+2) G=G)(mR:ja (G.length+2) F=F)(aw:cu c' (fQ xk))(b2:aM (c7 (G.length+2) T) jt):
 aM ((c7 (G.length+2) (bt G F L w k X d β T)).set (G.length+2) (some ⟨3,c'⟩)) (GB G F L w k X d xk jt):=by
 have q:=YO (X:=X) (β:=β) (G.length+2) (jq G.length k β.length w d) dG mR (Qi G.length X.length L _ J) b2;rw [aks] at q;have e:GB G F L w k X d xk jt=(G++(some ⟨249,.box [.aC (G.length+3) 0 k,.bool (decide (d<0)),bB d.natAbs,.any,ag w]⟩::F::some ⟨3,fQ β⟩::fp ⟨243,fh G.length X.length L⟩ 116 aW X jt)).set (G.length+2) (some ⟨3,fQ xk⟩):=by refine Eq.symm ((pX (i:=2) _ I).trans ?_);rfl
 rw [e];exact aM.set q _ (fun o ah=>by cases ah;exact ⟨_,rfl,rfl,aw⟩)
theorem anJ {x:List Int}{a:Option bl}{c':Cells}(dG:c7 (G.length+3) G=G)(mR:ja (G.length+3) F=F)(aw:cu c' (fh G.length (X.length+1) L)):
 aM ((c7 (G.length+3) (bt G F L w k X d β [some ⟨116,aW x⟩,a])).set (G.length+3) (some ⟨243,c'⟩)) (Kz G F L w (X++[x]) d β [none]):=by
 have aJ:c7 (G.length+3) (bt G F L w k X d β [some ⟨116,aW x⟩,a])=G++(some ⟨249,.box [.any,.bool (decide (d<0)),bB d.natAbs,.aC (G.length+2) 0 β.length,ag w]⟩::F::some ⟨3,fQ β⟩::fp ⟨243,(fh G.length X.length L).forget (G.length+3)⟩ 116 aW X [some ⟨116,aW x⟩,ja (G.length+3) a]):=by
  unfold bt;rw [wV,dG];show G++(some (⟨_,(jq G.length k β.length w d).forget (G.length+3)⟩:bl)::ja (G.length+3) F::some (⟨_,fQ β⟩:bl)::c7 (G.length+3) (fp _ _ _ X _))=_;rw [Au (G.length+3) (o7 (G.length+3)),akt,mR];show _=G++(_::_::_::fp _ _ _ X [some (⟨116,aW x⟩:bl),_])
  rw [show c7 (G.length+3) [some (⟨116,aW x⟩:bl),a]=[some ⟨116,(aW x).forget (G.length+3)⟩,ja (G.length+3) a] from rfl,o7]
 rw [aJ,show∀zb:Option bl,(G++(some (⟨249,.box [.any,.bool (decide (d<0)),bB d.natAbs,.aC (G.length+2) 0 β.length,ag w]⟩:bl)::F::some ⟨3,fQ β⟩::fp ⟨243,(fh G.length X.length L).forget (G.length+3)⟩ 116 aW X [some ⟨116,aW x⟩,ja (G.length+3) a])).set (G.length+3) zb=_ from fun zb=>pX (i:=3) _ rfl];refine aM.append (aM.refl _) (aM.same (aM.same (aM.same ?_)));show aM (fp ⟨243,c'⟩ 116 aW X _) _;rw [Jz];refine yO ⟨I,?_⟩ (aM.drop aM.nil);show cu c' (fh G.length (X++[x]).length L);rw [c8];exact aw
end
theorem ahr (h:Nat)(l:List Nat):(cD l).forget h=cD l:=by
 show Cells.fn _ _ _=Cells.fn _ _ _;congr 1;funext i j
 match j with
 |0=>rfl
 |_+1=>rfl
theorem anA (l:List Nat):eZ (cD l):=by intro i j _ ae;obtain rfl:=fw.1 (show j<1 from ae);rfl
end Go.Proofs.YtmpnheilfejcpaaGreatDoor
namespace Go.Proofs.YtmpnheilfejcpaaGreatDoor
open Go.aj Go.aj.dn Go.aj.cX Go.RowKit Go.aj.dZ Go.aj.c0 Go.aj.nm
attribute [local irreducible] aj eJ b1 ch hc
theorem XP (n:Nat)(aI:n≤1000000):ud Tryz.prog 180 [ag n] (fun N=> .aC N 0 n) ⟨118,aN (List.replicate n 0)⟩:=by
 refine ch.fresh (K:=fun r H=>r= .aC 0 0 n∧H=[some ⟨118,aN (List.replicate n 0)⟩]) (gl (P:=Tryz.prog) (fn:=Tryz.f180) I I af I (fun c aq bI=> ?_)) (fix:=fun _=>False) (fun _ h=>h) I (fun H=>⟨I,by simp [mG,lG]⟩) ?_
 ·refine bF ?_;refine jF 3 ⟨118,aN []⟩ I I ?_;repeat (refine fD ?_)
  refine cp (ι:=Nat) (fun i=>[(3,.aC 0 0 i),(4,ag n),(5,ag i)]) (fun i=>[some ⟨118,aN (List.replicate i 0)⟩]) (fun i=>i≤n) (fun i=>n-i) 0 ⟨aE,I,b7 _⟩ ?_;intro i aa;have fa:(List.replicate i (0:Rat)).length=i:=e8 ..;have Mz:List.replicate (i+1) (0:Rat)=List.replicate i 0++[0]:=List.replicate_succ' ..;refine bh ?_;refine bm I (fun h=> ?_) (fun h=> ?_)
  ·generalize wk:List.replicate (i+1) (0:Rat)=fK at*;generalize List.replicate i (0:Rat)=l at*;refine bn ?_;refine aO I I I mz ?_;unfold b9;repeat (refine h9 rfl rfl rfl rfl rfl rfl rfl rfl rfl rfl rfl ?_)
   refine dy I I I I I I I I I fa I I dT I (by show (i+1)*56≤_∧_;omega) ?_ c3 ?_
   ·intro aG a7 aL bd;exact hF 0 3 bW qL l _ _ (j8 _) _ aG a7 aL bd
   refine fj [some ⟨118,aN (l++[0])⟩] (aM.eqv (ha 0 3 bW l 0 _ (j8 _)) aM.nil) (bo ?_);exact b4 ⟨i+1,J,J,aE,by rw [wk,Mz]⟩
  ·have df:i=n:=J;subst df;refine bo ?_;exact aX aq I ⟨I,I⟩
 ·rintro r H ⟨rfl,rfl⟩;refine ⟨?_,fun h o ah=>p8 (mx _) h o ah,0,I,fun n=>rfl⟩;intro o ah;simp at ah;subst ah;show 0+n≤(List.replicate n (0:Rat)).length;rw [e8];omega
theorem PO (t:aK)(b2:jR t):bs Tryz.prog 23 [.ro (bV t) 0 t.length] (.int .i64 (rY t)):=by
 have Bx:=OZ t b2;refine cf Tryz.f23 fun c aq bI=> ?_;unfold rY at aq;refine bF ?_;refine aO I I I Bx (bq ?_);refine bm I (fun h=> ?_) (fun h=> ?_)
 ·rw [aA h] at aq;refine c4 ?_;exact aX aq I I
 rw [ax h] at aq;have ai:=FU (e0.1 h);have n6:=Jy t 0 b2 ai;have dk:=Jy t 1 b2 ai;cases xY:jo t 0
 ·rw [xY] at n6 aq;rw [aA (fun q=>tk q.1)] at aq;refine bn ?_;refine aO I I I n6 (bc ?_);exact aX aq I I
 cases wv:jo t 1
 ·rw [xY] at n6;rw [wv] at dk aq;rw [aA (fun q=>tk q.2)] at aq;refine bn ?_;refine aO I I I n6 (bo ?_);refine aO I I I dk (bo ?_);exact aX aq I I
 rw [xY] at n6;rw [wv] at dk;rw [xY,wv,ax (fun q=>q ⟨rfl,rfl⟩)] at aq;refine bn ?_;refine aO I I I n6 (bo ?_);refine aO I I I dk (bo ?_);refine cp (ι:=Nat) (fun i=>[(0,.ro (bV t) 0 t.length),(20,ag i)]) (fun _=>[]) (fun i=>i≤2∧ ∀k:Nat,k<i→aY t (k:Int)≤13∧(cv t (k:Int)).length≤6) (fun i=>2-i) 0 ⟨aE,I,b7 _,fun k an=>absurd an (gg _)⟩ ?_;rintro i ⟨aa,gO⟩;refine bh ?_;refine bm I (fun ab=> ?_) (fun ab=> ?_)
 ·have ko:i<2:=J;have cs:=Ks t (i:Int) b2.1;have si:=DF t (i:Int) b2 ai;unfold ij at si;have R7:13<aY t (i:Int)∨6<(cv t (i:Int)).length→(13<aY t 0∨6<(cv t 0).length∨13<aY t 1∨6<(cv t 1).length):=by
   intro q;have:i=0∨i=1:=J;rcases this with rfl|rfl
   ·rcases q with q|q
    ·exact .inl q
    ·exact .inr (.inl q)
   ·rcases q with q|q
    ·exact .inr (.inr (.inl q))
    ·exact .inr (.inr (.inr q))
  refine bn ?_;refine aO I I I cs (c4 ?_);refine aO I I I si ?_;repeat (first|refine ao (bE rfl) ?_|refine ao (xi rfl rfl) ?_|refine ao (fP rfl rfl rfl) ?_|refine ao (lo rfl rfl rfl rfl) ?_|refine ao (o4 rfl) ?_|refine ao (ln rfl rfl rfl rfl rfl rfl) ?_)
  refine gQ I I (fun bS=> ?_) (fun bS=> ?_)
  ·rw [aA (R7 (.inl (by show 13<(bN t (i:Int)).length;omega)))] at aq;refine bc ?_;exact aX aq I I
  ·refine bc ?_;refine bm I (fun bY=> ?_) (fun bY=> ?_)
   ·rw [aA (R7 (.inr J))] at aq;refine bc ?_;exact aX aq I I
   ·refine bo ?_;exact b4 ⟨i+1,⟨J,fun k an=>by
     rcases gz k i with q|q
     ·exact gO k q
     ·obtain rfl:k=i:=J;exact ⟨by show (bN t (k:Int)).length≤13;omega,J⟩⟩,J,aE,I⟩
 ·have df:i=2:=J;subst df;have a0:=gO 0 J;have gy:=gO 1 J;have a0:aY t 0≤13∧(cv t 0).length≤6:=a0;have gy:aY t 1≤13∧(cv t 1).length≤6:=gy;rw [ax J] at aq;refine bo ?_;exact aX aq I I
end Go.Proofs.YtmpnheilfejcpaaGreatDoor
namespace Go.Proofs.YtmpnheilfejcpaaGreatDoor
open Go.aj Go.aj.dn Go.aj.cX Go.RowKit Go.aj.dZ Go.aj.c0
attribute [local irreducible] aj eJ b1 ch hc
def Gf:Option Rat→List ak
 |some q=>bW q
 |none=>[.bool false,.nil,.nil]
abbrev ps (l:List (Option Rat)):Cells:=fi none 3 Gf l
theorem XQ (n:Nat):cu (jE n [.bool false,.nil,.nil]) (ps (List.replicate n none)):=by
 refine ⟨by simp [fi,Cells.len,jE],I,fun i j aa ae=> ?_⟩;have aa:i<n:=by simpa [Cells.len,jE] using aa
 show (Gf ((List.replicate n (none:Option Rat)).getD i none)).getD j .any=_;rw [eo none (by simpa using aa),Bt];rfl
theorem Zq (l:List Rat):cu (ps (l.map some)) (aN l):=by
 refine ⟨by simp [fi,Cells.len],I,fun i j aa ae=> ?_⟩;have aa:i<l.length:=by simpa [fi,Cells.len] using aa
 show (bW (l.getD i 0)).getD j .any=(Gf ((l.map some).getD i none)).getD j .any;rw [mY some l 0 none i aa];rfl
theorem wZ (l:List Rat)(n:Nat):fz n (aN l):=by
 intro i j _ ae;show hf n ((bW (l.getD i 0)).getD j .any)=true;have ae:j<3:=ae
 match j,ae with
 |0,_=>rfl
 |1,_=>rfl
 |2,_=>rfl
theorem jl {α:Type}(d:α)(n:Nat)(e:α→List ak)(zs:List α)(k:Nat)(a:α)(an:k<zs.length)(aG a7:Nat)(aL:aG<zs.length)(bd:a7<n):(fi d n e (zs.set k a)).at aG a7=if aG=k then (e a).getD a7 .any else (fi d n e zs).at aG a7:=by
 show (e ((zs.set k a).getD aG d)).getD a7 .any=if aG=k then (e a).getD a7 .any else (e (zs.getD aG d)).getD a7 .any
 rw [Go.aj.dZ.fO];by_cases h:aG=k
 ·rw [aA h,aA ⟨h,an⟩]
 ·rw [ax h,ax (fun q=>h q.1)]
theorem Y8 (n:Nat):dF (fun _=>some (0:Rat)) none (List.replicate n none) n=(List.replicate n (0:Rat)).map some:=by have:=w9 (fun _=>some (0:Rat)) none (List.replicate n none);rw [e8] at this;rw [this,List.map_replicate];apply jS bX;intro i U ab;simp
theorem ry (β:List Nat)(i:Nat):(β.map (fun a:Nat=>(a:Int))).getD i 0=((β.getD i 0:Nat):Int):=by simp only [List.getD,ly];cases β[i]? <;>rfl
theorem FO (G:aZ)(dG:s6 G)(N w k:Nat)(X:cB)(d:Int)(β:List Nat)(T:aZ)(b2: ∀m,G.length+4+X.length≤m→ ∀o:bl,some o∈T→fz m o.c)(cl:Nat)(uM:cl≤1000000)(aey:k≤X.length)(wH:β.length≤k)(EE:k≤1000000)(cH: ∀x∈X,x.length=N+1)(Lu:N+1≤1000000)(hd:d≠0)(kk: ∀i,i<β.length→(a6 (az X i N).natAbs).length≤1000000)(oT:(a6 d.natAbs).length≤1000000):
 ch Tryz.prog 178 [.ptr G.length 0 0,ag cl] (bt G none (N+1) w k X d β T) (fun h=>h<(bt G none (N+1) w k X d β T).length)
  (fun dB bK=>dB= .ro (aN (iU cl β (fun i=>Rat.divInt (az X i N) d) (List.replicate cl 0) β.length)) 0 cl∧bK=bt G none (N+1) w k X d β T):=by
 have hlen: ∀T,(bt G none (N+1) w k X d β T).length=G.length+4+X.length+T.length:=fun T=>iE;refine gl (P:=Tryz.prog) (fn:=Tryz.f178) I I af I (fun c aq bI=> ?_);refine bF ?_;refine mf I I I I I I I I (by show (0:Int)≤_∧_≤_∧(56:Int)*_≤_∧_;omega) ?_;refine fj (bt G none (N+1) w k X d β T++[some ⟨118,ps (List.replicate cl none)⟩]) (aM.append (aM.refl _) (aM.eqv (XQ _) aM.nil)) ?_;refine dw (bt G none (N+1) w k X d β (T++[some ⟨118,ps (dF (fun _=>some (0:Rat)) none (List.replicate cl none) 0)⟩])) (by rw [gh,vj]) ?_;refine bP 10 (.aC (G.length+4+X.length+T.length) 0 cl) I (aR.of_eq (by rw [hlen];rfl)) (bq ?_);refine cp (ι:=Nat) (fun i=>[(0,.ptr G.length 0 0),(1,ag cl),(5,.aC (G.length+4+X.length+T.length) 0 cl),(12,ag cl),(13,ag i)]) (fun i=>bt G none (N+1) w k X d β (T++[some ⟨118,ps (dF (fun _=>some (0:Rat)) none (List.replicate cl none) i)⟩]))
  (fun i=>i≤cl) (fun i=>cl-i) 0 ⟨aE,rfl,b7 _⟩ ?_
 intro i aa;refine bh ?_;refine bm I (fun h=> ?_) (fun h=> ?_)
 ·have aL:i<cl:=J;have dS:=tW (fun _=>some (0:Rat)) none (List.replicate cl none) (k:=i) (by simpa using aL);have iL:(dF (fun _=>some (0:Rat)) none (List.replicate cl none) i).length=cl:=by rw [qP];simp
  generalize dF (fun _=>some (0:Rat)) none (List.replicate cl none) i=A at*;have f1:=xc (G:=G) (F:=none) (L:=N+1) (w:=w) (k:=k) (X:=X) (d:=d) (β:=β) (T:=T) (some ⟨118,ps A⟩);have xS:i<(ps A).len:=by show i<A.length;omega
  refine bn ?_;refine aO I I I mz ?_;unfold b9;repeat (refine ao (mw rfl rfl rfl) ?_)
  refine eE (c':=ps (A.set i (some 0))) I I I f1 I xS (dd ..) I (fun aG a7 aL bd=>jl none 3 Gf A i (some 0) xS aG a7 aL bd) ?_;refine dw (bt G none (N+1) w k X d β (T++[some ⟨118,ps (A.set i (some 0))⟩])) (yK _ _) (bo ?_);exact b4 ⟨i+1,J,J,aE,by rw [dS]⟩
 have df:i=cl:=J;rw [df,Y8];clear aa h df;clear i;have f2:=ik (G:=G) (F:=none) (L:=N+1) (w:=w) (k:=k) (X:=X) (d:=d) (β:=β) (T:=T++[some ⟨118,aN (iU cl β (fun i=>Rat.divInt (az X i N) d) (List.replicate cl 0) 0)⟩]);refine jG (bt G none (N+1) w k X d β T++[some ⟨118,aN (List.replicate cl 0)⟩]) (by rw [←gh];exact aM.append (aM.refl _) (aM.eqv (Zq _) aM.nil)) ?_;refine jk (bt G none (N+1) w k X d β (T++[some ⟨118,aN (iU cl β (fun i=>Rat.divInt (az X i N) d) (List.replicate cl 0) 0)⟩])) (by rw [gh];rfl) (uZ ?_);refine cp (ι:=Nat) (fun i=>[(0,.ptr G.length 0 0),(1,ag cl),(5,.aC (G.length+4+X.length+T.length) 0 cl),(24,.aC (G.length+2) 0 β.length),(25,ag β.length),(26,ag i)]) (fun i=>bt G none (N+1) w k X d β (T++[some ⟨118,aN (iU cl β (fun i=>Rat.divInt (az X i N) d) (List.replicate cl 0) i)⟩]))
  (fun i=>i≤β.length) (fun i=>β.length-i) 0 ⟨aE,rfl,b7 _⟩ ?_
 clear f2;intro i aa;have Lz:=w4 cl β (fun i=>Rat.divInt (az X i N) d) (List.replicate cl 0) i;rw [e8] at Lz;refine bh ?_;refine bm I (fun h=> ?_) (fun h=> ?_)
 ·have aL:i<β.length:=J;have dS:iU cl β (fun i=>Rat.divInt (az X i N) d) (List.replicate cl 0) (i+1)=if β.getD i 0<cl then (iU cl β (fun i=>Rat.divInt (az X i N) d) (List.replicate cl 0) i).set (β.getD i 0) (Rat.divInt (az X i N) d) else iU cl β (fun i=>Rat.divInt (az X i N) d) (List.replicate cl 0) i:=rfl
  generalize iU cl β (fun i=>Rat.divInt (az X i N) d) (List.replicate cl 0) i=V at*;have f1:=ik (G:=G) (F:=none) (L:=N+1) (w:=w) (k:=k) (X:=X) (d:=d) (β:=β) (T:=T++[some ⟨118,aN V⟩]);have f2:=vz (G:=G) (F:=none) (L:=N+1) (w:=w) (k:=k) (X:=X) (d:=d) (β:=β) (T:=T++[some ⟨118,aN V⟩]);have g2:i<(β.map (fun a:Nat=>(a:Int))).length:=by rw [cr];exact aL
  refine cJ ?_;refine bm I (fun U=> ?_) (fun U=> ?_)
  ·rw [ry] at U;have al:β.getD i 0<cl:=J;rw [aA al] at dS;refine ds 8 (ag (β.getD i 0)) I (aR.of_eq (by rw [ry])) ?_;have E7:(X.getD i []).length=N+1:=cH _ (dt [] J);have f3:=nJ (G:=G) (F:=none) (L:=N+1) (w:=w) (k:=k) (X:=X) (d:=d) (β:=β) (T:=T++[some ⟨118,aN V⟩]);have f4:=nc (G:=G) (F:=none) (L:=N+1) (w:=w) (k:=k) (X:=X) (d:=d) (β:=β) (T:=T++[some ⟨118,aN V⟩]) (a:=i) J;have f5:=xc (G:=G) (F:=none) (L:=N+1) (w:=w) (k:=k) (X:=X) (d:=d) (β:=β) (T:=T) (some ⟨118,aN V⟩);have g3:i<(fh G.length X.length (N+1)).len:=by show i<X.length;omega
   have g4:N<(aW (X.getD i [])).len:=by show N<(X.getD i []).length;omega
   have g5:β.getD i 0<(aN V).len:=by show _<V.length;omega
   have aeE:=hlen T;have D7:=Nh G dG (N+1) w k X d β (T++[some ⟨118,aN V⟩]) (fun o ah=>by
    rw [hlen];rcases gM.1 ah with q|q
    ·exact b2 _ J o q
    ·cases hI.1 q;exact wZ V _) (az X i N) hd (kk i aL) oT
   skip
   refine eg af ?_;refine eK (fuel:=1) [0,1,2,3,4,5,6,7,8,9,10,11,12,13,14,15,16,17,18,19,20,21,22] [(0,.ptr G.length 0 0),(1,ag cl),(5,.aC (G.length+4+X.length+T.length) 0 cl),(7,ag i),(8,ag (β.getD i 0)),(24,.aC (G.length+2) 0 β.length),(25,ag β.length),(26,ag i)] aE af aT I I ?_;refine bU I I (bE I) ?_;refine bU I I (bE I) ?_;refine bU I I (bE I) ?_;refine bU I I (bE I) ?_;refine bU I I (kC I) ?_;refine bU I I (de I I I I I I) ?_;refine bU I I (o5 I I I h1 lg) ?_;refine bU I I (bE I) ?_;refine bU I I (mw I I I) ?_;refine bU I I (Fl I I I h1 I nC) ?_;refine bU I I (bE I) ?_;refine bU I I (kC I) ?_;refine bU I I (de I I I I I I) ?_;refine bU I I (o5 I I I h1 lg) ?_;refine bU I I (bE I) ?_;refine bU I I (mw I I I) ?_;refine bU I I (Fl I I I h1 I nC) ?_;refine bU I I (fP I I I) ?_;refine bU I I (pc I I J) ?_;refine bU I I (Av (ix:=N) I I I f4 I (by show 0+(((N+1:Nat):Int)-1).toNat=N;omega) (by first|omega)) ?_;refine cY ?_;refine TG I I I I I D7 ?_;refine cY ?_;refine eI ?_;unfold b9;refine br 23 ?_;refine eE (c':=aN (V.set (β.getD i 0) (Rat.divInt (az X i N) d))) I I I f5 I g5 (dd ..) I (fun aG a7 aL bd=>jl 0 3 bW V (β.getD i 0) _ g5 aG a7 aL bd) ?_;refine dw (bt G none (N+1) w k X d β (T++[some ⟨118,aN (V.set (β.getD i 0) (Rat.divInt (az X i N) d))⟩])) (yK _ _) (bn ?_);refine dX af (bo ?_);exact b4 ⟨i+1,J,J,aE,by rw [dS]⟩
  ·rw [ry] at U;rw [ax J] at dS;refine bo ?_;exact b4 ⟨i+1,J,J,aE,by rw [dS]⟩
 have df:i=β.length:=J;subst df;refine eD ?_;generalize iU cl β (fun i=>Rat.divInt (az X i N) d) (List.replicate cl 0) β.length=V at*;have f5:=xc (G:=G) (F:=none) (L:=N+1) (w:=w) (k:=k) (X:=X) (d:=d) (β:=β) (T:=T) (some ⟨118,aN V⟩);refine kv (G.length+4+X.length+T.length) 5 cl [] f5 (mx _) I (by show cl≤V.length;omega) trivial ?_;refine jk (bt G none (N+1) w k X d β T++[none]) (by rw [yK,gh]) ?_;refine fm (bt G none (N+1) w k X d β T) [none] [(5,.ro (aN V) 0 cl)] rfl ⟨rfl,trivial⟩ (fun h aV=>by rw [bI] at aV;exact aV) (rE dG _ (by rw [hlen];omega) (fun o ah=>by cases ah) (b2 _ (by rw [hlen];omega))) rfl (bF ?_);exact aX aq I ⟨I,I⟩
end Go.Proofs.YtmpnheilfejcpaaGreatDoor
namespace Go.Proofs.YtmpnheilfejcpaaGreatDoor
open Go.aj Go.aj.dn Go.aj.cX Go.RowKit Go.aj.dZ Go.aj.c0 Go.aj.nm Go.aj.eP
attribute [local irreducible] aj eJ b1 ch hc
theorem ajs {t:aK}(ai:Valid t)(p:Int): ∀i,i<(bN t p).length→0≤((bN t p).getD i cZ).before→((bN t p).getD i cZ).info∈cv t p∧((bN t p).getD i cZ).before<(i:Int):=by
 intro i aa aU;rcases n2 i with e|e
 ·subst e;rw [(qI ai p).2.1] at aU;exact absurd aU aT
 ·obtain ⟨x,b,wQ,gu,h7,Cs,II,IJ,ale,ND⟩:=Dp ai e aa;have ab:=ND (i-x.2) J;rw [show x.2+(i-x.2)=i by omega] at ab;rw [ab];exact ⟨gu,by show ((b:Nat):Int)<(i:Int);omega⟩
theorem TT (c:gJ)(j:Nat)(ae:j<2):(fN 1 2 [.int .i64 c.info,.ro (.strs c.c1) 0 c.c1.length]).at 0 j=(jv c).getD j .any:=by
 match j,ae with
 |0,_=>rfl
 |1,_=>rfl
theorem Ux (c:gJ)(j h:Nat)(ae:j<2):((jv c).getD j .any).forget h=(jv c).getD j .any:=by
 match j,ae with
 |0,_=>rfl
 |1,_=>rfl
theorem aly (s:da):eZ (cI s):=by
 intro i j _ ae;have ae:j<2:=ae
 match j,ae with
 |0,_=>rfl
 |1,_=>rfl
theorem I1 (l:da)(n:Nat):fz n (cI l):=by
 intro i j _ ae;have ae:j<2:=ae;show hf n ((jv (l.getD i fe)).getD j .any)=true
 match j,ae with
 |0,_=>rfl
 |1,_=>rfl
theorem ajJ (q:Rat):decide (0<kr q.num)=decide (0<q):=by
 rw [xv,eL,eL];have U:0<kr q.num↔0<q.num:=by
  unfold kr;split
  ·rename_i h;simp;omega
  ·split
   ·rename_i h;simp;omega
   ·rename_i U ab;simp;omega
 rw [U,Rat.lt_iff];show _↔(0:Int)*(q.den:Int)<q.num*1;omega
def wM (t:aK)(p:Int)(W:Nat→Rat):da×Int:=if yX t p W=true then (sO t p W,0) else ([],2)
theorem akb (t:aK)(p:Int)(W:Nat→Rat):wM t p W=if (cv t p).all (fun x=>(po t p W x).all eS)=true then ((cv t p).map (fun x=>⟨x,(po t p W x).map dm⟩),0) else ([],2):=by unfold wM yX sO DA;rw [List.all_map,xD];rfl
theorem W0 (t:aK)(p:Int)(P:List Rat)(K:Nat)(b2:jR t)(ai:Valid t)(dH:1≤K∧K≤400000)(la: ∀q∈P,D K q)(aqj:(bN t p).length≤P.length)(aqk:P.length≤1000000):
 bs Tryz.prog 97 [.ro (bV t) 0 t.length,.int .i64 p,ij t p,.ro (aN P) 0 P.length] (.cn [.ro (cI (wM t p (fun k=>P.getD k 0)).1) 0 (wM t p (fun k=>P.getD k 0)).1.length,.int .i64 (wM t p (fun k=>P.getD k 0)).2]):=by
 refine cf Tryz.f97 fun c aq bI=> ?_;rw [akb] at aq;have eG:=Ks t p b2.len;have Ex:=AI ai p;have aqc:(cv t p).length≤10:=by unfold cv;exact dN (tg _ _) bX
 have cz: ∀k,k<(cv t p).length→(lq t p).getD k 0=((cm t p ((cv t p).getD k 0):Nat):Int):=fun k an=>by unfold lq;rw [mY _ _ 0 _ _ an]
 have H9:(lq t p).length=(cv t p).length:=by unfold lq;exact cr _
 have afN: ∀x∈cv t p,1≤cm t p x∧cm t p x≤6:=fun x ar=>by obtain ⟨s,b,g⟩:=AV ai ar;exact ⟨g.l9,alb ai ar⟩
 have adw: ∀x∈cv t p,pn (bN t p) (fun k=>P.getD k 0) x (iT (cm t p x) 0) (bN t p).length=po t p (fun k=>P.getD k 0) x:=fun x ar=>aaa ai ar _;have iO:=ajs ai p;have LP: ∀k,k<(bN t p).length→0≤((bN t p).getD k cZ).before→0≤((bN t p).getD k cZ).choice∧((bN t p).getD k cZ).choice.toNat<cm t p ((bN t p).getD k cZ).info:=fun k an aU=>by
  obtain ⟨s,b,g⟩:=AV ai (iO k an aU).1;obtain ⟨g1,g2⟩:=Xo ai g an aU rfl;have g3:=g.cA (k-s) J;rw [show s+(k-s)=k by omega] at g3;have g4:((bN t p).getD k cZ).choice=((k-s:Nat):Int):=by rw [g3]
  rw [g4];omega
 have LB: ∀k,D K (P.getD k 0):=fun k=>by
  rcases gz k P.length with h|h
  ·exact la _ (dt 0 h)
  ·rw [vW,kG h];exact (DB 0).mono dH.1
 have adt: ∀x∈cv t p,(po t p (fun k=>P.getD k 0) x).length=cm t p x∧ ∀q∈po t p (fun k=>P.getD k 0) x,D (K+K) q:=fun x ar=>aab ai dH.1 LB ar;have ady:=fun k an aU=>(iO k an aU).2;unfold ij;clear b2 ai iO;refine bF ?_;refine aO I I I eG ?_;repeat (first|refine ao (bE rfl) ?_|refine ao (du rfl) ?_|refine cR ?_|refine b0 ?_|refine dh ?_|refine c5 rfl ?_|refine ao (nG rfl rfl) ?_|refine ao (fP rfl rfl rfl) ?_)
 clear eG;have wB:t.length=t.length:=rfl;generalize po t p (fun k=>P.getD k 0)=n5 at*;generalize adj:(fun k=>P.getD k 0)=W at*;have RM: ∀k,P.getD k 0=W k:=fun k=>by rw [←adj]
 generalize cm t p=wd at*;generalize cv t p=b6 at*;generalize lq t p=Z at*;generalize bN t p=bp at*;generalize hv t p=oZ at*;generalize t.length=o3 at*;refine jF 12 ⟨136,cI []⟩ I I ?_;repeat (refine fD ?_)
 refine cp (ι:=Nat) (fun k=>[(2,.cK (.box [.ro (gv bp) 0 bp.length,.ro (.ints .i64 oZ) 0 o3]) 0 0),(3,.ro (aN P) 0 P.length),(10,.ro (.ints .i64 b6) 0 b6.length),(11,.ro (.ints .i64 Z) 0 Z.length),(12,.aC 0 0 k),(26,.ro (.ints .i64 b6) 0 b6.length),(27,ag b6.length),(28,ag k)]) (fun k=>[some ⟨136,cI ((b6.take k).map (fun x=>⟨x,(n5 x).map dm⟩))⟩])
  (fun k=>k≤b6.length∧(b6.take k).all (fun x=>(n5 x).all eS)=true) (fun k=>b6.length-k) 0 ⟨aE,rfl,b7 _,rfl⟩ ?_
 rintro k ⟨an,su⟩;refine bh ?_;refine bm I (fun h=> ?_) (fun h=> ?_)
 ·have bO:k<b6.length:=J;have aeD:k<Z.length:=J;have H7:b6.getD k 0∈b6:=dt 0 bO;have afB:=cz k bO;obtain ⟨MI,afM⟩:=afN _ H7;have adC:=adw _ H7;obtain ⟨zH,adv⟩:=adt _ H7;have jC:(b6.take (k+1)).map (fun x=>(⟨x,(n5 x).map dm⟩:gJ))=(b6.take k).map (fun x=>⟨x,(n5 x).map dm⟩)++[⟨b6.getD k 0,(n5 (b6.getD k 0)).map dm⟩]:=by rw [nZ bO,gV,←eo 0 bO];rfl
  have Sh:(b6.take (k+1)).all (fun x=>(n5 x).all eS)=(n5 (b6.getD k 0)).all eS:=by rw [nZ bO,List.all_append,su,←eo 0 bO,mM];show ((n5 (b6.getD k 0)).all eS && true)=_;rw [Bool.and_true]
  have fL:((b6.take k).map (fun x=>(⟨x,(n5 x).map dm⟩:gJ))).length=k:=by rw [cr,fc];omega
  have LJ:(n5 (b6.getD k 0)).all eS=false→b6.all (fun x=>(n5 x).all eS)=false:=fun aQ=>by
   cases aB:b6.all (fun x=>(n5 x).all eS)
   ·rfl
   ·rw [qh] at aB;have:=aB _ H7;rw [aQ] at this;cases this
  generalize Hr:(b6.take (k+1)).map (fun x=>(⟨x,(n5 x).map dm⟩:gJ))=oC at*;generalize (b6.take k).map (fun x=>(⟨x,(n5 x).map dm⟩:gJ))=O at*;refine bc ?_;generalize b6.getD k 0=x at*;generalize afP:wd x=w at*;generalize n5 x=uB at*;refine bP 36 (ag w) I (aR.of_eq (by rw [afB])) ?_;have abb:=XP w J;have fa:(List.replicate w (0:Rat)).length=w:=e8 ..;have afG:(List.replicate w (0:Rat)).set 0 1=iT w 0:=rfl;have R9:0<(aN (List.replicate w 0)).len:=by show 0<(List.replicate w (0:Rat)).length;omega
  generalize List.replicate w (0:Rat)=A at*;refine me I I I abb (bF ?_);refine aO I I I tZ ?_;unfold b9;repeat (refine ao (gd rfl rfl rfl rfl rfl hC J) ?_)
  refine eE (c':=aN (A.set 0 1)) I I I I I R9 (by show (List.set _ _ _).length=A.length;simp) I (fun aG a7 aL bd=>jl 0 3 bW A 0 1 R9 aG a7 aL bd) ?_;rw [afG];repeat (first|refine ao (bE rfl) ?_|refine cR ?_|refine b0 ?_|refine dh ?_|refine c5 rfl ?_|refine fD ?_|refine ao (fP rfl rfl rfl) ?_|refine ao (lo rfl rfl rfl rfl) ?_|refine ao (o4 rfl) ?_|refine ao (ln rfl rfl rfl rfl rfl rfl) ?_)
  refine jk [some ⟨136,cI O⟩,some ⟨118,aN (pn bp W x (iT w 0) 0)⟩] I ?_;refine cp (ι:=Nat) (fun j=>[(2,.cK (.box [.ro (gv bp) 0 bp.length,.ro (.ints .i64 oZ) 0 o3]) 0 0),(3,.ro (aN P) 0 P.length),(10,.ro (.ints .i64 b6) 0 b6.length),(11,.ro (.ints .i64 Z) 0 Z.length),(12,.aC 0 0 k),(26,.ro (.ints .i64 b6) 0 b6.length),(27,ag b6.length),(28,ag k),(14,.int .i64 x),(15,.aC 1 0 w),(44,.ro (gv bp) 0 bp.length),(45,ag bp.length),(46,ag j)]) (fun j=>[some ⟨136,cI O⟩,some ⟨118,aN (pn bp W x (iT w 0) j)⟩])
   (fun j=>j≤bp.length) (fun j=>bp.length-j) 0 ⟨aE,rfl,b7 _⟩ ?_
  intro j ae;refine bh ?_;refine bm I (fun dz=> ?_) (fun dz=> ?_)
  ·have bd:j<bp.length:=J;have fU:=akd (bp:=bp) (W:=W) (x:=x) (k:=j) (o:=pn bp W x (iT w 0) j);have H8:=fun b fB=>aow (bp:=bp) (W:=W) (x:=x) (k:=j) (b:=b) (c:=fB) (o:=pn bp W x (iT w 0) j);have dS:pn bp W x (iT w 0) (j+1)=A7 bp W x j (pn bp W x (iT w 0) j):=rfl;have adB:=FW bp W x (iT w 0) j;rw [(CA (c:=0) J).1] at adB;have adJ:=LP j bd;have adz:=ady j bd;rw [←dS] at fU H8;clear dS;generalize uG:pn bp W x (iT w 0) (j+1)=QI at*;generalize pn bp W x (iT w 0) j=B at*;refine bc ?_;refine bP 50 (.agg (qS (bp.getD j cZ))) I (aR.of_eq I) ?_;generalize bp.getD j cZ=y at*;obtain ⟨bM,fB,vX⟩:=y;simp only at*;refine dA (c':= .box [.int .i64 bM,.int .i64 fB,.int .i64 vX]) I I I I I I I ?_;refine dw [some ⟨136,cI O⟩,some ⟨118,aN B⟩,some ⟨178,.box [.int .i64 bM,.int .i64 fB,.int .i64 vX]⟩] I (fb ?_);by_cases g1:0≤vX
   case neg=>
    rw [fT g1];have fU:=fU (fun q=>g1 q.1);repeat (first|refine ao (bE rfl) ?_|refine cR ?_|refine sI rfl rfl rfl ?_|refine ao (lO rfl rfl) ?_)
    refine b0 ?_;refine fu ?_;refine b0 ?_;refine fm [some ⟨136,cI O⟩,some ⟨118,aN B⟩] [some ⟨178,.box [.int .i64 bM,.int .i64 fB,.int .i64 vX]⟩] [(2,.cK (.box [.ro (gv bp) 0 bp.length,.ro (.ints .i64 oZ) 0 o3]) 0 0),(3,.ro (aN P) 0 P.length),(10,.ro (.ints .i64 b6) 0 b6.length),(11,.ro (.ints .i64 Z) 0 Z.length),(12,.aC 0 0 k),(26,.ro (.ints .i64 b6) 0 b6.length),(27,ag b6.length),(28,ag k),(14,.int .i64 x),(15,.aC 1 0 w),(44,.ro (gv bp) 0 bp.length),(45,ag bp.length),(46,ag j)] I aE hp (Gq (I1 _ _) (wZ _ _)) I (bq ?_);exact b4 ⟨j+1,J,J,aE,by rw [uG,fU]⟩
   rw [fG g1];refine bo ?_;by_cases g2:bM=x
   case neg=>
    rw [fT g2];have fU:=fU (fun q=>g2 q.2.1);repeat (first|refine cR ?_|refine sI rfl rfl rfl ?_|refine ao (lO rfl rfl) ?_)
    refine b0 ?_;refine fu ?_;refine b0 ?_;refine fm [some ⟨136,cI O⟩,some ⟨118,aN B⟩] [some ⟨178,.box [.int .i64 bM,.int .i64 fB,.int .i64 vX]⟩] [(2,.cK (.box [.ro (gv bp) 0 bp.length,.ro (.ints .i64 oZ) 0 o3]) 0 0),(3,.ro (aN P) 0 P.length),(10,.ro (.ints .i64 b6) 0 b6.length),(11,.ro (.ints .i64 Z) 0 Z.length),(12,.aC 0 0 k),(26,.ro (.ints .i64 b6) 0 b6.length),(27,ag b6.length),(28,ag k),(14,.int .i64 x),(15,.aC 1 0 w),(44,.ro (gv bp) 0 bp.length),(45,ag bp.length),(46,ag j)] I aE hp (Gq (I1 _ _) (wZ _ _)) I (bq ?_);exact b4 ⟨j+1,J,J,aE,by rw [uG,fU]⟩
   subst g2;rw [fG rfl];obtain ⟨b,rfl⟩:=oP g1;have aqu:b<bp.length:=by have:=adz g1;omega
   obtain ⟨adE,Er⟩:=adJ g1;obtain ⟨bb,rfl⟩:=oP adE;rw [cg,afP] at Er;have acX:=RM j;have RN:=RM b;have aaw:=J7 (P.getD b 0);have apV:j<P.length:=J;have apU:b<P.length:=J;refine bc ?_;refine aO I I I aaw (bc ?_);rw [ajJ,RN];by_cases g3:0<W b
   case neg=>
    rw [fT g3];have fU:=fU (fun q=>g3 q.2.2);refine fu ?_;refine b0 ?_;refine fm [some ⟨136,cI O⟩,some ⟨118,aN B⟩] [some ⟨178,.box [.int .i64 bM,ag bb,ag b]⟩] [(2,.cK (.box [.ro (gv bp) 0 bp.length,.ro (.ints .i64 oZ) 0 o3]) 0 0),(3,.ro (aN P) 0 P.length),(10,.ro (.ints .i64 b6) 0 b6.length),(11,.ro (.ints .i64 Z) 0 Z.length),(12,.aC 0 0 k),(26,.ro (.ints .i64 b6) 0 b6.length),(27,ag b6.length),(28,ag k),(14,.int .i64 bM),(15,.aC 1 0 w),(44,.ro (gv bp) 0 bp.length),(45,ag bp.length),(46,ag j)] I aE hp (Gq (I1 _ _) (wZ _ _)) I (bq ?_);exact b4 ⟨j+1,J,J,aE,by rw [uG,fU]⟩
   rw [fG g3];have H8:=H8 b bb rfl g3;have cdiv:bs Tryz.prog 133 [b9 (P.getD j 0),b9 (P.getD b 0)] (b9 (W j/W b)):=by have Rq:=LB j;have Ro:=LB b;rw [acX] at Rq⊢;rw [RN] at Ro⊢;exact aiz (W j) (W b) (hg (Rq.mono J)) (hg (Ro.mono J)) (fun e=>by rw [e] at g3;exact absurd g3 (by decide+kernel))
   have Sa:bb<(aN B).len:=by show bb<B.length;omega
   generalize W j/W b=v at*;repeat (refine rv rfl ?_)
   refine eg af ?_;refine eK (fuel:=1) [0,1,2,3,4,5,6,7,8,9,10,11,12,13] [(2,.cK (.box [.ro (gv bp) 0 bp.length,.ro (.ints .i64 oZ) 0 o3]) 0 0),(3,.ro (aN P) 0 P.length),(10,.ro (.ints .i64 b6) 0 b6.length),(11,.ro (.ints .i64 Z) 0 Z.length),(12,.aC 0 0 k),(26,.ro (.ints .i64 b6) 0 b6.length),(27,ag b6.length),(28,ag k),(14,.int .i64 bM),(15,.aC 1 0 w),(44,.ro (gv bp) 0 bp.length),(45,ag bp.length),(46,ag j),(16,ag j),(17,.ptr 2 0 0)] aE af aT I I ?_;refine cY ?_;refine dW I I I I I cdiv ?_;refine cY ?_;refine eI ?_;refine br 14 ?_;skip
   unfold b9;refine eE (c':=aN (B.set bb v)) I I I I I Sa (by show (List.set _ _ _).length=B.length;simp) I (fun aG a7 aL bd=>jl 0 3 bW B bb v Sa aG a7 aL bd) (bn ?_);refine dX af ?_;repeat (refine j2 ?_)
   refine b0 ?_;refine fm [some ⟨136,cI O⟩,some ⟨118,aN (B.set bb v)⟩] [some ⟨178,.box [.int .i64 bM,ag bb,ag b]⟩] [(2,.cK (.box [.ro (gv bp) 0 bp.length,.ro (.ints .i64 oZ) 0 o3]) 0 0),(3,.ro (aN P) 0 P.length),(10,.ro (.ints .i64 b6) 0 b6.length),(11,.ro (.ints .i64 Z) 0 Z.length),(12,.aC 0 0 k),(26,.ro (.ints .i64 b6) 0 b6.length),(27,ag b6.length),(28,ag k),(14,.int .i64 bM),(15,.aC 1 0 w),(44,.ro (gv bp) 0 bp.length),(45,ag bp.length),(46,ag j)] I aE hp (Gq (I1 _ _) (wZ _ _)) I (bq ?_);exact b4 ⟨j+1,J,J,aE,by rw [uG,H8]⟩
  ·have ho:j=bp.length:=J;subst ho;rw [adC];have adu: ∀q∈uB,ga 100000 q:=fun q aB=>hg ((adv q aB).mono J);have adD:uB.length=w:=J;obtain ⟨r,co,ad⟩:=FI uB J adu;unfold lp at co ad;refine hx ?_;refine kv 1 15 w [(2,.cK (.box [.ro (gv bp) 0 bp.length,.ro (.ints .i64 oZ) 0 o3]) 0 0),(3,.ro (aN P) 0 P.length),(10,.ro (.ints .i64 b6) 0 b6.length),(11,.ro (.ints .i64 Z) 0 Z.length),(12,.aC 0 0 k),(26,.ro (.ints .i64 b6) 0 b6.length),(27,ag b6.length),(28,ag k),(14,.int .i64 x)] I (mx _) I (by show w≤uB.length;omega) aE ?_;refine ds 15 (.ro (aN uB) 0 uB.length) I (aR.of_eq (by rw [adD])) ?_;cases aQ:uB.all eS with
   |false=>
    rw [aQ,ax aT] at co;rw [ax (by rw [LJ aQ];decide)] at aq;refine bF ?_;refine aO I I I co (u0 ?_);refine ds 8 (.ro (cI []) 0 0) I aR.nil (bc ?_);exact aX aq I I
   |true=>
    rw [aQ,aA rfl] at co ad;have ad:aR r (.ro (.strs (uB.map dm)) 0 (uB.map dm).length):=ad;rw [aQ] at Sh;generalize uB.map dm=T at*;refine bF ?_;refine aO I I I co ?_;refine hx ?_;refine ds 18 (.ro (.strs T) 0 T.length) I ad ?_;repeat (first|refine ao (bE rfl) ?_|refine cR ?_|refine b0 ?_|refine c5 rfl ?_|refine ot rfl ?_|refine iC ?_|refine ao (rR rfl rfl) ?_|refine ao (iZ rfl rfl rfl rfl rfl rfl) ?_|refine h9 rfl rfl rfl rfl rfl rfl rfl rfl rfl rfl rfl ?_)
    refine dy I I I I I I I I I fL I I dT I (by show (k+1)*32≤_∧_;omega) ?_ c3 ?_
    ·intro aG j aa ae;exact hF fe 2 jv Ux O ⟨x,T⟩ _ (TT ⟨x,T⟩) 0 aG j aa ae
    refine fu ?_;refine b0 ?_;refine jG ([some ⟨136,cI oC⟩]++[none]) ?_ ?_
    ·rw [jC];exact aM.eqv (ha fe 2 jv O ⟨x,T⟩ _ (TT ⟨x,T⟩)) (aM.drop aM.nil)
    refine vn (H1:=[some ⟨136,cI oC⟩]) I c3 ?_;refine jG [some ⟨136,cI oC⟩] ?_ ?_
    ·exact aM.eqv ⟨I,I,fun i j _ ae=>(Ux _ j _ ae).symm⟩ aM.nil
    refine bq ?_;exact b4 ⟨k+1,⟨J,Sh⟩,J,aE,by rw [Hr]⟩
 ·have jz:k=b6.length:=J;subst jz;rw [e7] at su;rw [e7];rw [aA su] at aq;have RO:(b6.map (fun x=>(⟨x,(n5 x).map dm⟩:gJ))).length=b6.length:=cr _;generalize b6.map (fun x=>(⟨x,(n5 x).map dm⟩:gJ))=R at*;refine hx ?_;refine kv 0 12 b6.length [] I (aly _) I (by show _≤R.length;omega) trivial ?_;refine ds 12 (.ro (cI R) 0 R.length) I (aR.of_eq (by rw [RO])) (bF ?_);exact aX aq I I
theorem VI {P:Program}{f:FuncId}{args:List ak}{b5:aZ}{o k w:Nat}{t1:TypeId}{hd:Nat→Nat}{G F:Nat→Nat→ak}{g:Nat→Cells}(aw:ch P f args [] (fun _=>False) (fun r H=>r= .aC o 0 k∧H=b5))(aI:cM.eM args=true)(aU:b5[o]? =some (some ⟨t1,.fn k 1 G⟩))(dG: ∀i,i<k→G i 0= .aC (hd i) 0 w)(ad: ∀i,i<k→hd i≠o∧w≤(g i).len∧ ∃t2,b5[hd i]? =some (some ⟨t2,g i⟩))(au: ∀h bg,h≠o→b5[h]? =some (some bg)→eZ bg.c)(mR: ∀i,i<k→F i 0= .ro (g i) 0 w):
 bs P f args (.ro (.fn k 1 F) 0 k):=by
 have ah:o<b5.length:=(hi.1 aU).1;have aH:((List.replicate b5.length (none:Option bl)).set o (some ⟨t1,.fn k 1 F⟩))[o]? =some (some ⟨t1,.fn k 1 F⟩):=oH (by rw [e8];exact ah);have aJ: ∀h bg,((List.replicate b5.length (none:Option bl)).set o (some ⟨t1,.fn k 1 F⟩))[h]? =some (some bg)→h=o∧bg=⟨t1,.fn k 1 F⟩:=by
  intro h bg aV;by_cases q:h=o
  ·subst q;rw [aH] at aV;cases aV;exact ⟨rfl,rfl⟩
  ·rw [lV (fun e=>q e.symm),oM] at aV;split at aV<;>cases aV
 have bR: ∀h bg,(b5.set o none)[h]? =some (some bg)→h≠o∧b5[h]? =some (some bg):=by
  intro h bg aV;by_cases q:h=o
  ·subst q;rw [oH ah] at aV;cases aV
  ·rw [lV (fun e=>q e.symm)] at aV;exact ⟨q,aV⟩
 refine ch.value (K:=fun r H=>r= .aC o 0 k∧H=(List.replicate b5.length none).set o (some ⟨t1,.fn k 1 F⟩)) (ch.Rw aw ?_) (fix:=fun _=>False) (fun _ h=>h) aI ?_
 ·rintro cV H ⟨rfl,rfl⟩;refine ⟨H.set o none,_,_,⟨fun h bg aV=>(bR h bg aV).2,fun h bg aV=>au h bg (bR h bg aV).1 (bR h bg aV).2,by rw [dd,e8],fun h bg aV=> ?_,.inl I⟩,I,I⟩;obtain ⟨rfl,rfl⟩:=aJ h bg aV;refine ⟨fun bg al=>(bR _ bg al).1 I,_,aU,I,I,I,fun i j aa ae=> ?_⟩;have aa:i<k:=aa;obtain rfl:=fw.1 (show j<1 from ae);obtain ⟨g1,g2,t2,g3⟩:=ad i aa;have g4:(H.set h none)[hd i]? =some (some ⟨t2,g i⟩):=by rw [lV (fun e=>g1 e.symm)];exact g3
  show vI _ (G i 0) (F i 0);rw [dG i aa,mR i aa];refine .inr (.inr ⟨?_,fun bg al=> ?_⟩)
  ·simp only [ak.kL,g4]
  ·rw [g4] at al;cases al;show 0+w≤(g i).len;omega
 ·rintro r H ⟨rfl,rfl⟩;refine ⟨?_,fun bg al=> ?_,fun h bg aV=> ?_⟩
  ·simp only [ak.kL,aH]
  ·rw [aH] at al;cases al;show 0+k≤k;omega
  ·obtain ⟨rfl,rfl⟩:=aJ h bg aV;intro i j aa ae;have aa:i<k:=aa;obtain rfl:=fw.1 (show j<1 from ae);show cM (F i 0)=true;rw [mR i aa];rfl
abbrev aaz (r:List Int):List ak:=[.ro (.ints .i64 r) 0 r.length]
abbrev gb (R:List (List Int)):Cells:=fi [] 1 aaz R
def qs:Nat→Nat
 |0=>0
 |k+1=>k+3
abbrev um (n k:Nat):Cells:= .fn k 1 (fun i _=> .aC (qs i) 0 n)
abbrev fo (n:Nat)(cV:List Int)(F:List (Int×Nat))(R:List (List Int))(T:aZ):aZ:=
 some ⟨3,.ints .i64 cV⟩::some ⟨55,um n (R.length+1)⟩::some ⟨185,mj F⟩::(gk 3 (fun r:List Int=>Cells.ints .i64 r) R++T)
section
variable {n k:Nat}{cV:List Int}{F:List (Int×Nat)}{R:List (List Int)}{T:aZ}
theorem ve:(fo n cV F R T).length=R.length+3+T.length:=by show (gk _ _ R++T).length+1+1+1=_;rw [c8,vg];omega
theorem OG (h:k<R.length):(fo n cV F R T)[k+3]? =some (some ⟨3,.ints .i64 (R.getD k [])⟩):=by show (gk _ _ R++T)[k]? =_;rw [Xd (by rw [vg];exact h),Wv _ _ R [] h]
theorem CN {j:Nat}:(fo n cV F R T)[R.length+3+j]? =T[j]? :=by rw [show R.length+3+j=(R.length+j)+3 by omega];show (gk _ _ R++T)[R.length+j]? =_;exact tU (by rw [vg])
theorem VN (x:List Int)(h:k<R.length):(fo n cV F R T).set (k+3) (some ⟨3,.ints .i64 x⟩)=fo n cV F (R.set k x) T:=by show _::_::_::((gk _ _ R++T).set k _)=_;rw [WX _ (by rw [vg];exact h),Ww];show _::some (⟨_,um n (R.length+1)⟩:bl)::_=_::some ⟨_,um n ((R.set k x).length+1)⟩::_;rw [dd]
theorem IU {j:Nat}(x:Option bl):(fo n cV F R T).set (R.length+3+j) x=fo n cV F R (T.set j x):=by rw [show R.length+3+j=(R.length+j)+3 by omega];show _::_::_::((gk _ _ R++T).set (R.length+j) x)=_;rw [pX x (by rw [vg])]
theorem CM (M:aZ):fo n cV F R T++M=fo n cV F R (T++M):=by show _::_::_::((gk _ _ R++T)++M)=_;rw [lz]
theorem alM (h:Nat)(aV:R.length+3≤h):aM (c7 h (fo n cV F R T)) (fo n cV F R (c7 h T)):=by
 have e:c7 h (fo n cV F R T)=some ⟨3,.ints .i64 cV⟩::some ⟨55,(um n (R.length+1)).forget h⟩::some ⟨185,(mj F).forget h⟩::(gk 3 (fun r:List Int=>Cells.ints .i64 r) R++c7 h T):=by show some (⟨_,_⟩:bl)::some (⟨_,_⟩:bl)::some (⟨_,_⟩:bl)::c7 h (gk _ _ R++T)=_;rw [wV,I4 h (fun _=>rfl)];rfl
 rw [e];refine aM.same (aM.eqv ⟨I,I,fun i j aa ae=> ?_⟩ (aM.eqv (Od F h) (aM.refl _)));obtain rfl:=fw.1 (show j<1 from ae);have aa:i<R.length+1:=aa;show ak.aC (qs i) 0 n=ak.forget h (ak.aC (qs i) 0 n);have:qs i≠h:=by
  cases i with
  |zero=>show 0≠h;omega
  |succ k=>show k+3≠h;omega
 unfold ak.forget;rw [dv this];rfl
theorem amd {x:List Int}{y:Option bl}{c':Cells}(aw:cu c' (um n (R.length+1+1))):aM ((c7 1 (fo n cV F R [some ⟨3,.ints .i64 x⟩,y])).set 1 (some ⟨55,c'⟩)) (fo n cV F (R++[x]) [none]):=by
 have e:c7 1 (fo n cV F R [some ⟨3,.ints .i64 x⟩,y])=some ⟨3,.ints .i64 cV⟩::some ⟨55,(um n (R.length+1)).forget 1⟩::some ⟨185,(mj F).forget 1⟩::(gk 3 (fun r:List Int=>Cells.ints .i64 r) R++[some ⟨3,.ints .i64 x⟩,ja 1 y]):=by show some (⟨_,_⟩:bl)::some (⟨_,_⟩:bl)::some (⟨_,_⟩:bl)::c7 1 (gk _ _ R++_)=_;rw [wV,I4 1 (fun _=>rfl)];rfl
 rw [e];have aJ:fo n cV F (R++[x]) [none]=some ⟨3,.ints .i64 cV⟩::some ⟨55,um n (R.length+1+1)⟩::some ⟨185,mj F⟩::(gk 3 (fun r:List Int=>Cells.ints .i64 r) R++[some ⟨3,.ints .i64 x⟩,none]):=by show _::some (⟨_,um n ((R++[x]).length+1)⟩:bl)::_::(gk _ _ (R++[x])++[none])=_;rw [c8,←VA,lz];rfl
 rw [aJ];exact aM.same (aM.eqv aw (aM.eqv (Od F 1) (aM.append (aM.refl _) (aM.same (aM.drop aM.nil)))))
theorem amP {q:bl}{x:List Int}:aM (yd (fo n cV F R [some q,some ⟨3,.ints .i64 x⟩]) (R.length+3) (R.length+4) ⟨3,.ints .i64 x⟩) (fo n cV F R [some ⟨3,.ints .i64 x⟩,none]):=by unfold yd;have U:=alM (n:=n) (cV:=cV) (F:=F) (R:=R) (T:=[some q,some ⟨3,.ints .i64 x⟩]) (R.length+3) (bT _);have ab:=aM.set (aM.set U (R.length+3) (x:=some ⟨3,.ints .i64 x⟩) (x':=some ⟨3,.ints .i64 x⟩) (fun o ah=>by cases ah;exact ⟨_,rfl,rfl,cu.refl _⟩)) (R.length+4) (x:=none) (x':=none) (fun o ah=>by cases ah);have aH:=IU (n:=n) (cV:=cV) (F:=F) (R:=R) (T:=c7 (R.length+3) [some q,some ⟨3,.ints .i64 x⟩]) (j:=0) (some ⟨3,.ints .i64 x⟩);have aH:(fo n cV F R (c7 (R.length+3) [some q,some ⟨3,.ints .i64 x⟩])).set (R.length+3) (some ⟨3,.ints .i64 x⟩)=fo n cV F R [some ⟨3,.ints .i64 x⟩,some ⟨3,.ints .i64 x⟩]:=aH;rw [aH] at ab;have aJ:=IU (n:=n) (cV:=cV) (F:=F) (R:=R) (T:=[some ⟨3,.ints .i64 x⟩,some ⟨3,.ints .i64 x⟩]) (j:=1) none;have aJ:(fo n cV F R [some ⟨3,.ints .i64 x⟩,some ⟨3,.ints .i64 x⟩]).set (R.length+4) none=fo n cV F R [some ⟨3,.ints .i64 x⟩,none]:=aJ;rw [aJ] at ab;exact ab
theorem NZ (m:Nat)(hm:R.length+3≤m)(b2: ∀o:bl,some o∈T→fz m o.c): ∀(h:Nat) (o:bl),(fo n cV F R T)[h]? =some (some o)→fz m o.c:=by
 intro h o ah;have eH:=oL ah;unfold fo at eH;rw [fS,fS,fS,gM] at eH;rcases eH with e|e|e|eH|eH
 ·cases e;intro i j _ ae;rfl
 ·cases e;intro i j aa ae;obtain rfl:=fw.1 (show j<1 from ae);have aa:i<R.length+1:=aa;show hf m (ak.aC (qs i) 0 n)=true;refine q4 ?_;cases i with
  |zero=>show 0+1≤m;omega
  |succ k=>show k+3+1≤m;omega
 ·cases e;exact CK F m
 ·obtain ⟨a,_,e⟩:=cO.1 eH;cases e;intro i j _ ae;rfl
 ·exact b2 o eH
end
theorem WE (n k:Nat)(ec:Cells)(aU:ec.at 0 0= .aC (k+3) 0 n):cu (.fn (k+1+1) 1 (fun i j=>bif Nat.blt i (k+1) then (um n (k+1)).at i j else ec.at (0+(i-(k+1))) j)) (um n (k+1+1)):=by
 refine ⟨I,I,fun i j aa ae=> ?_⟩;obtain rfl:=fw.1 (show j<1 from ae);have aa:i<k+1+1:=aa;show ak.aC (qs i) 0 n=bif Nat.blt i (k+1) then ak.aC (qs i) 0 n else ec.at (0+(i-(k+1))) 0;by_cases e:i<k+1
 ·rw [show Nat.blt i (k+1)=true from q4 e];rfl
 ·have aJ:i=k+1:=J;subst aJ;rw [show Nat.blt (k+1) (k+1)=false by
   cases h:Nat.blt (k+1) (k+1) with
   |false=>rfl
   |true=>exact absurd (iv h) (Nat.not_succ_le_self _)]
  rw [n1,e6];exact aU.symm
theorem amR (bp:List fk)(oZ:List Int)(o3:Nat)(U:1≤bp.length)(ab:bp.length≤1000)(al: ∀k,1≤k→k<bp.length→0≤(bp.getD k cZ).before∧(bp.getD k cZ).before.toNat<bp.length):
 ch Tryz.prog 95 [.cK (.box [.ro (gv bp) 0 bp.length,.ro (.ints .i64 oZ) 0 o3]) 0 0] [] (fun _=>False) (fun r H=>r= .aC 1 0 ((lL bp (bp.length-1)).rows.tail.length+1)∧H=fo bp.length (eT bp.length) (lL bp (bp.length-1)).fst (lL bp (bp.length-1)).rows.tail []):=by
 refine gl (P:=Tryz.prog) (fn:=Tryz.f95) I I af I (fun c aq bI=> ?_);repeat (first|refine ao (bE rfl) ?_|refine ao (du rfl) ?_|refine cR ?_|refine b0 ?_|refine dh ?_|refine c5 rfl ?_|refine ao (fP rfl rfl rfl) ?_|refine ao (lo rfl rfl rfl rfl) ?_|refine ao (o4 rfl) ?_|refine ao (ln rfl rfl rfl rfl rfl rfl) ?_)
 refine mf I I I I I I I I (by show 0≤_∧_≤_∧(8:Int)*_≤_∧_;omega) ?_;refine dw [some ⟨3,.ints .i64 (List.replicate bp.length 0)⟩] I ?_;have HV:(List.replicate bp.length (0:Int)).length=bp.length:=e8 ..;refine cJ ?_;refine dw [some ⟨3,.ints .i64 (eT bp.length)⟩] I ?_;refine u9 I I I I I I I I I I (bF ?_);refine CB ?_;refine fj (fo bp.length (eT bp.length) [] [] []) (aM.same (aM.eqv ⟨I,I,fun i j aa ae=> ?_⟩ (aM.eqv (cu.refl _) aM.nil))) ?_
 ·obtain rfl:=fw.1 (show i<1 from aa);obtain rfl:=fw.1 (show j<1 from ae);rfl
 obtain ⟨m,hm⟩: ∃m,bp.length=m+1:=⟨bp.length-1,J⟩
 have EI:bp.length-1=m:=J;have HQ:((bp.length:Int)-1).toNat=m:=J;rw [EI] at aq;repeat (first|refine ao (bE rfl) ?_|refine ao (du rfl) ?_|refine cR ?_|refine b0 ?_|refine dh ?_|refine c5 rfl ?_|refine fD ?_|refine ao (fP rfl rfl rfl) ?_|refine ao (Oi rfl rfl rfl rfl rfl rfl rfl J) ?_|refine ao (lo rfl rfl rfl rfl) ?_|refine ao (o4 rfl) ?_|refine ao (ln rfl rfl rfl rfl rfl rfl) ?_)
 refine ds 26 (.ro (gv bp) 1 m) I (aR.of_eq (by rw [HQ];rfl)) ?_;refine ds 27 (ag m) I (aR.of_eq (by rw [HQ])) ?_;refine cp (ι:=Nat) (fun i=>[(0,.cK (.box [.ro (gv bp) 0 bp.length,.ro (.ints .i64 oZ) 0 o3]) 0 0),(4,.aC 1 0 ((lL bp i).rows.tail.length+1)),(5,.mp 2),(26,.ro (gv bp) 1 m),(27,ag m),(28,ag i)]) (fun i=>fo bp.length (eT bp.length) (lL bp i).fst (lL bp i).rows.tail [])
  (fun i=>i≤m∧xn bp.length (eT bp.length) (lL bp i)∧(lL bp i).rows.tail.length≤i) (fun i=>m-i) 0 ⟨aE,rfl,b7 _,U1 bp,bT _⟩ ?_
 rintro i ⟨aa,mo,acY⟩;refine bh ?_;refine bm I (fun h=> ?_) (fun h=> ?_)
 ·have aL:i+1<bp.length:=J;have av:=U0 aL;have R6:=al (i+1) J aL;have xR:=fun k=>VR (i:=i) (k:=k) (q:=bp.getD (i+1) cZ) mo;have wq:=Vw (i:=i) (q:=bp.getD (i+1) cZ) mo;have Sk:=mo.fst;have hlen:=mo.len;rw [←av] at xR wq;clear av mo;generalize mq:lL bp (i+1)=e5 at*;generalize lL bp i=S at*;obtain ⟨rows,F⟩:=S;simp only at xR wq Sk hlen acY⊢;generalize rows.tail=R at*;clear rows;have Lh:(fo bp.length (eT bp.length) F R []).length=R.length+3:=ve;refine bc ?_;refine bP 7 (.ptr (R.length+3) 0 0) I (aR.of_eq (by rw [Lh])) ?_;refine bP 32 (.agg (qS (bp.getD (i+1) cZ))) I (aR.of_eq (by rw [oO 1 i];rfl)) ?_;generalize bp.getD (i+1) cZ=y at*;obtain ⟨bM,fB,vX⟩:=y;simp only at xR wq R6⊢;obtain ⟨nw,so⟩:=R6;obtain ⟨b,rfl⟩:=oP nw;rw [cg] at so wq;refine dw (fo bp.length (eT bp.length) F R [some ⟨178,.box [.int .i64 0,.int .i64 0,.int .i64 0]⟩]) (by rw [CM];rfl) ?_;have f0:(fo bp.length (eT bp.length) F R [some ⟨178,.box [.int .i64 0,.int .i64 0,.int .i64 0]⟩])[R.length+3]? =some (some ⟨178,.box [.int .i64 0,.int .i64 0,.int .i64 0]⟩):=CN (j:=0);refine eE (c':= .box [.int .i64 bM,.int .i64 fB,ag b]) I I I f0 I fA I I (fun aG a7 aL bd=> ?_) ?_
  ·rw [aA (fw.1 aL)];rfl
  refine dw (fo bp.length (eT bp.length) F R [some ⟨178,.box [.int .i64 bM,.int .i64 fB,ag b]⟩]) (IU (j:=0) _) ?_;have f1:(fo bp.length (eT bp.length) F R [some ⟨178,.box [.int .i64 bM,.int .i64 fB,ag b]⟩])[R.length+3]? =some (some ⟨178,.box [.int .i64 bM,.int .i64 fB,ag b]⟩):=CN (j:=0);clear f0;refine cJ ?_;cases cH:fY F bM with
  |some k=>
   obtain ⟨j,rfl,ae,aH,aJ,bR⟩:=xR k cH;obtain ⟨l3,i1,i2⟩:=yG cH;have g1:=OG (n:=bp.length) (cV:=eT bp.length) (F:=F) (T:=[some ⟨178,.box [.int .i64 bM,.int .i64 fB,ag b]⟩]) ae;have g2:=hlen _ (dt [] ae);refine ao (tK I (.int I) I I I I (uh F) l3 i1 i2) ?_;repeat (first|refine ao (bE rfl) ?_|refine ao (du rfl) ?_|refine cR ?_|refine b0 ?_|refine dh ?_|refine c5 rfl ?_|refine ot rfl ?_|refine iC ?_|refine ao (vF rfl) ?_|refine ao (nG rfl rfl) ?_|refine ao (hK rfl rfl J) ?_|refine ao (gd rfl rfl rfl rfl rfl hC J) ?_|refine ao (Cx rfl rfl rfl rfl rfl nC) ?_|refine ao (mw rfl rfl rfl) ?_)
   refine bP 68 (.ptr (j+3) (i+1) 0) I (aR.of_eq I) ?_;refine lK I I I I g1 I I (by show i+1<(R.getD j []).length;omega) ?_;refine dw (fo bp.length (eT bp.length) F (R.set j ((R.getD j []).set (i+1) 1)) [some ⟨178,.box [.int .i64 bM,.int .i64 fB,ag b]⟩]) (VN _ ae) ?_;refine fu ?_;refine b0 ?_;refine fm (fo bp.length (eT bp.length) F (R.set j ((R.getD j []).set (i+1) 1)) []) [some ⟨178,.box [.int .i64 bM,.int .i64 fB,ag b]⟩] [(0,.cK (.box [.ro (gv bp) 0 bp.length,.ro (.ints .i64 oZ) 0 o3]) 0 0),(4,.aC 1 0 (R.length+1)),(5,.mp 2),(26,.ro (gv bp) 1 m),(27,ag m),(28,ag i)] (by rw [CM];rfl) aE hp (NZ _ (by rw [ve];exact bT _) (fun o ah=>(zv ah).elim)) (by rw [ve];simp [kx,hf]) (bq ?_);exact b4 ⟨i+1,⟨J,by rw [mq];exact bR,by rw [mq,aH,dd];omega⟩,J,⟨I,by rw [mq,aH,dd];rfl,I,I,I,I,trivial⟩,by rw [mq,aH,aJ]⟩
  |none=>
   obtain ⟨aH,aJ,bR⟩:=wq cH;refine ao (IQ I (.int I) I I I I I I I I (uh F) (CQ cH)) ?_;repeat (first|refine ao (bE rfl) ?_|refine ao (du rfl) ?_|refine cR ?_|refine b0 ?_|refine dh ?_|refine c5 rfl ?_|refine rv rfl ?_|refine ao (vF rfl) ?_|refine ao (nG rfl rfl) ?_|refine ao (fP rfl rfl rfl) ?_|refine ao (de rfl rfl rfl rfl rfl rfl) ?_|refine ao (o5 rfl rfl rfl h1 lg) ?_)
   refine Ct I (.int I) I I I I I (uh F) (CQ cH) ?_;refine dw (fo bp.length (eT bp.length) (F++[(bM,R.length+1)]) R [some ⟨178,.box [.int .i64 bM,.int .i64 fB,ag b]⟩]) (by unfold fo mj;rw [gV,gV];rfl) ?_;generalize Ej:F++[(bM,R.length+1)]=oA at*;clear f1 Sk xR wq;have abG:(fo bp.length (eT bp.length) oA R [some ⟨178,.box [.int .i64 bM,.int .i64 fB,ag b]⟩]).length=R.length+4:=ve;repeat (first|refine ao (bE rfl) ?_|refine cR ?_|refine b0 ?_|refine dh ?_|refine c5 rfl ?_|refine ao (fP rfl rfl rfl) ?_|refine ao (lo rfl rfl rfl rfl) ?_|refine ao (o4 rfl) ?_|refine ao (ln rfl rfl rfl rfl rfl rfl) ?_)
   refine mf I I I I I I I I (by show 0≤_∧_≤_∧(8:Int)*_≤_∧_;omega) ?_;refine dw (fo bp.length (eT bp.length) oA R [some ⟨178,.box [.int .i64 bM,.int .i64 fB,ag b]⟩,some ⟨3,.ints .i64 (List.replicate bp.length 0)⟩]) (by rw [CM];rfl) ?_;refine bP 53 (.aC (R.length+4) 0 bp.length) I (aR.of_eq (by rw [abG];rfl)) ?_;have f1:(fo bp.length (eT bp.length) oA R [some ⟨178,.box [.int .i64 bM,.int .i64 fB,ag b]⟩,some ⟨3,.ints .i64 (List.replicate bp.length 0)⟩])[R.length+3]? =some (some ⟨178,.box [.int .i64 bM,.int .i64 fB,ag b]⟩):=CN (j:=0);have f2:(fo bp.length (eT bp.length) oA R [some ⟨178,.box [.int .i64 bM,.int .i64 fB,ag b]⟩,some ⟨3,.ints .i64 (List.replicate bp.length 0)⟩])[R.length+4]? =some (some ⟨3,.ints .i64 (List.replicate bp.length 0)⟩):=CN (j:=1);refine cJ ?_;refine lK I I I I f2 I I (by show b<(List.replicate bp.length (0:Int)).length;omega) ?_;have od:((List.replicate bp.length (0:Int)).set b (-1)).length=bp.length:=by rw [dd];exact HV
   refine dw (fo bp.length (eT bp.length) oA R [some ⟨178,.box [.int .i64 bM,.int .i64 fB,ag b]⟩,some ⟨3,.ints .i64 ((List.replicate bp.length 0).set b (-1))⟩]) (IU (j:=1) _) ?_;generalize (List.replicate bp.length (0:Int)).set b (-1)=x at*;clear f1 f2;have f2:(fo bp.length (eT bp.length) oA R [some ⟨178,.box [.int .i64 bM,.int .i64 fB,ag b]⟩,some ⟨3,.ints .i64 x⟩])[R.length+4]? =some (some ⟨3,.ints .i64 x⟩):=CN (j:=1);refine hx ?_;refine P5 (R.length+3) (R.length+4) 10 bp.length J (by rw [ve];show R.length+3<R.length+3+2;omega) f2 c3 I ?_;refine P4 ((10,.aC (R.length+3) 0 bp.length)::[(0,.cK (.box [.ro (gv bp) 0 bp.length,.ro (.ints .i64 oZ) 0 o3]) 0 0),(4,.aC 1 0 (R.length+1)),(5,.mp 2),(26,.ro (gv bp) 1 m),(27,ag m),(28,ag i),(6,ag i),(8,.int .i64 ((R.length+1:Nat)))]) ⟨I,qM (h:=R.length+3) (L:=[(0,.cK (.box [.ro (gv bp) 0 bp.length,.ro (.ints .i64 oZ) 0 o3]) 0 0),(4,.aC 1 0 (R.length+1)),(5,.mp 2),(26,.ro (gv bp) 1 m),(27,ag m),(28,ag i),(6,ag i),(8,.int .i64 ((R.length+1:Nat)))]) aE (by
    intro q aB;simp only [fS,oQ,ns] at aB;rcases aB with rfl|rfl|rfl|rfl|rfl|rfl|rfl|rfl<;>simp [ak.forget,dv (show 1≠R.length+3 by omega),dv (show 2≠R.length+3 by omega)])⟩ ?_
   refine jG (fo bp.length (eT bp.length) oA R [some ⟨3,.ints .i64 x⟩,none]) amP ?_;refine fm (fo bp.length (eT bp.length) oA R [some ⟨3,.ints .i64 x⟩]) [none] ((10,.aC (R.length+3) 0 bp.length)::[(0,.cK (.box [.ro (gv bp) 0 bp.length,.ro (.ints .i64 oZ) 0 o3]) 0 0),(4,.aC 1 0 (R.length+1)),(5,.mp 2),(26,.ro (gv bp) 1 m),(27,ag m),(28,ag i),(6,ag i),(8,.int .i64 ((R.length+1:Nat)))]) (by rw [CM];rfl) aE hp (NZ _ (by rw [ve];exact n0 _ _) (fun o ah=>by cases hI.1 ah;intro i j _ ae;rfl)) (by rw [ve];simp [kx,hf]) ?_;refine c5 I ?_;have abH:(fo bp.length (eT bp.length) oA R [some ⟨3,.ints .i64 x⟩]).length=R.length+4:=ve;repeat (refine ao (bE rfl) ?_)
   refine u9 I I I I I I I I I I ?_;refine dw (fo bp.length (eT bp.length) oA R [some ⟨3,.ints .i64 x⟩,some ⟨55,fN 1 1 [.aC (R.length+3) 0 bp.length]⟩]) (by rw [CM];rfl) ?_;refine bP 60 (.aC (R.length+4) 0 1) I (aR.of_eq (by rw [abH])) ?_;have f3:(fo bp.length (eT bp.length) oA R [some ⟨3,.ints .i64 x⟩,some ⟨55,fN 1 1 [.aC (R.length+3) 0 bp.length]⟩])[R.length+4]? =some (some ⟨55,fN 1 1 [.aC (R.length+3) 0 bp.length]⟩):=CN (j:=1);have oc:(um bp.length (R.length+1)).len=R.length+1:=rfl;skip
   refine dy I I I I I I I I I oc I (Dd f3) dT I (by show (R.length+1+1)*24≤_∧R.length+1+1≤_;omega) ?_ c3 ?_
   ·intro aG j aa ae;obtain rfl:=fw.1 (show j<1 from ae);have q:=(WE bp.length R.length (fN 1 1 [ak.aC (R.length+3) 0 bp.length]) rfl).2.2 aG 0 aa fA;refine (congrArg (ak.forget 1) q.symm).trans (tj ?_ q);show ak.forget 1 (ak.aC (qs aG) 0 bp.length)=ak.aC (qs aG) 0 bp.length;have:qs aG≠1:=by
     cases aG with
     |zero=>exact Nat.zero_ne_one
     |succ k=>show k+3≠1;omega
    unfold ak.forget;rw [dv this];rfl
   refine fj (fo bp.length (eT bp.length) oA (R++[x]) [none]) (amd (WE bp.length R.length _ I)) ?_;have zQ:R.length<(R++[x]).length:=by rw [c8];exact gN _
   have g1:=OG (n:=bp.length) (cV:=eT bp.length) (F:=oA) (R:=R++[x]) (T:=[none]) zQ;have Hl:(R++[x]).getD R.length []=x:=by simp [List.getD]
   rw [Hl] at g1;have Ab:(R++[x]).set R.length (x.set (i+1) 1)=R++[x.set (i+1) 1]:=by rw [Bp _ _ (bT _),n1];rfl
   repeat (first|refine ao (bE rfl) ?_|refine ao (du rfl) ?_|refine cR ?_|refine b0 ?_|refine c5 rfl ?_|refine ao (hK rfl rfl J) ?_|refine ao (gd rfl rfl rfl rfl rfl hC J) ?_|refine ao (Cx rfl rfl rfl rfl rfl nC) ?_|refine ao (mw rfl rfl rfl) ?_)
   refine bP 68 (.ptr (R.length+3) (i+1) 0) I (aR.of_eq I) ?_;refine lK I I I I g1 I I (by show i+1<x.length;omega) ?_;refine dw (fo bp.length (eT bp.length) oA (R++[x.set (i+1) 1]) [none]) ((VN _ zQ).trans (by rw [Ab])) ?_;refine fu ?_;refine b0 ?_;refine fm (fo bp.length (eT bp.length) oA (R++[x.set (i+1) 1]) []) [none] [(0,.cK (.box [.ro (gv bp) 0 bp.length,.ro (.ints .i64 oZ) 0 o3]) 0 0),(4,.aC 1 0 (R.length+1+1)),(5,.mp 2),(26,.ro (gv bp) 1 m),(27,ag m),(28,ag i)] (by rw [CM];rfl) aE hp (NZ _ (by rw [ve];exact bT _) (fun o ah=>(zv ah).elim)) (by rw [ve];simp [kx,hf]) (bq ?_);exact b4 ⟨i+1,⟨J,by rw [mq];exact bR,by rw [mq,aH,c8];show _+1≤_;omega⟩,J,⟨I,by rw [mq,aH,c8];rfl,I,I,I,I,trivial⟩,by rw [mq,aH,aJ]⟩
 ·have df:i=m:=J;subst df;refine bo ?_;exact aX aq I ⟨I,I⟩
end Go.Proofs.YtmpnheilfejcpaaGreatDoor
namespace Go.Proofs.YtmpnheilfejcpaaGreatDoor
open Go.aj Go.aj.dn Go.aj.cX Go.RowKit Go.aj.dZ Go.aj.c0 Go.aj.nm Go.aj.eP
attribute [local irreducible] aj eJ b1 ch hc
theorem I6 (h:Nat)(a:List Rat):(aN a).forget h=aN a:=by
 show Cells.fn _ _ _=Cells.fn _ _ _;congr 1;funext i j
 match j with
 |0=>rfl
 |1=>rfl
 |2=>rfl
 |_+3=>rfl
abbrev yg (L k:Nat):Cells:= .fn k 1 (fun i _=> .aC (i+1) 0 L)
theorem WD (L k:Nat)(ec:Cells)(aU:ec.at 0 0= .aC (k+1) 0 L):cu (.fn (k+1) 1 (fun i j=>bif Nat.blt i k then (yg L k).at i j else ec.at (0+(i-k)) j)) (yg L (k+1)):=by
 refine ⟨I,I,fun i j aa ae=> ?_⟩;obtain rfl:=fw.1 (show j<1 from ae);have aa:i<k+1:=aa;show ak.aC (i+1) 0 L=bif Nat.blt i k then ak.aC (i+1) 0 L else ec.at (0+(i-k)) 0;by_cases e:i<k
 ·rw [show Nat.blt i k=true from q4 e];rfl
 ·have aJ:i=k:=J;subst aJ;rw [show Nat.blt i i=false by
   cases h:Nat.blt i i with
   |false=>rfl
   |true=>exact absurd (iv h) (Nat.not_succ_le_self _)]
  rw [n1,e6];exact aU.symm
abbrev jN (m k:Nat)(X:List (List Rat))(T:aZ):aZ:=fp ⟨110,yg m k⟩ 118 (fun r:List Rat=>aN r) X T
section
variable {m k:Nat}{X:List (List Rat)}{T:aZ}
theorem apE {h:Nat}(an:k+1≤h):aM (c7 h (jN m k X T)) (jN m k X (c7 h T)):=by unfold jN;rw [Au h (I6 h)];refine yO ⟨I,I,I,fun i j aa ae=> ?_⟩ (aM.refl _);obtain rfl:=fw.1 (show j<1 from ae);have aa:i<k:=aa;show ak.aC (i+1) 0 m=ak.forget h (ak.aC (i+1) 0 m);unfold ak.forget;rw [dv (show i+1≠h by omega)];rfl
theorem apD {y:Option bl}{t:TypeId}{c' ki:Cells}(an:k≤X.length)(aw:cu c' ki):
 aM ((c7 (X.length+1) (jN m k X [y])).set (X.length+1) (some ⟨t,c'⟩)) (jN m k X [some ⟨t,ki⟩]):=by
 have e:jN m k X [some ⟨t,ki⟩]=(jN m k X [none]).set (X.length+1) (some ⟨t,ki⟩):=by have q:=UE (O:=⟨110,yg m k⟩) (t:=118) (f:=fun r:List Rat=>aN r) (X:=X) (L:=[none]) (j:=0) (some ⟨t,ki⟩);exact q.symm
 rw [e];exact aM.set (aM.trans' (apE (T:=[y]) J) (yO ⟨rfl,cu.refl _⟩ (show aM [ja _ y] [none] from aM.drop aM.nil))) _ (fun o ah=>by cases ah;exact ⟨_,rfl,rfl,aw⟩)
end
theorem akB {m k:Nat}{X:List (List Rat)}{T jt:aZ}{c' ki:Cells}(aw:cu c' ki)(b2:aM (c7 0 T) jt):
 aM ((c7 0 (jN m k X T)).set 0 (some ⟨110,c'⟩)) (fp ⟨110,ki⟩ 118 (fun r:List Rat=>aN r) X jt):=by unfold jN;rw [Au 0 (I6 0)];exact yO (O:=⟨110,c'⟩) ⟨I,aw⟩ b2
theorem akA {m k n:Nat}{X:List (List Rat)}(hm:k+1≤n): ∀(h:Nat) (o:bl),(jN m k X [])[h]? =some (some o)→fz n o.c:=by
 intro h o ah;have eH:=oL ah;unfold jN fp at eH;rw [fS,k2] at eH;rcases eH with e|eH
 ·cases e;intro i j aa ae;obtain rfl:=fw.1 (show j<1 from ae);have aa:i<k:=aa;show hf n (ak.aC (i+1) 0 m)=true;exact q4 (show i+1+1≤n by omega)
 ·obtain ⟨a,_,e⟩:=cO.1 eH;cases e;exact wZ a n
theorem N3 {α:Type}{f:α→ak}(aQ: ∀x,cM (f x)=true): ∀l:List α,cM.eM (l.map f)=true
 |[]=>rfl
 |a::r=>by show (cM (f a) && cM.eM (r.map f))=true;rw [aQ a,N3 aQ r];rfl
theorem Xt (t:aK)(p:Int)(ai:Valid t):bs Tryz.prog 95 [ij t p] (.ro (gb (lP t p)) 0 (lP t p).length):=by
 have Ex:=AI ai p;have e1:1≤(bN t p).length:=(qI ai p).2.2.1;have SB:=(qI ai p).2.2.2;have afO:=amR (bN t p) (hv t p) t.length e1 J (fun k U an=>by
  obtain ⟨k,rfl⟩: ∃j,k=j+1:=⟨k-1,J⟩
  have aU:=SB k an;exact ⟨aU.2.1,by have:=aU.2.2.1;omega⟩)
 have mo:=amQ ai p;have aw:lP t p=eT (aY t p)::(lL (bN t p) (aY t p-1)).rows.tail:=mo.hd;have hlen:=mo.len;rw [aw];generalize (lL (bN t p) (aY t p-1)).rows.tail=R at*;generalize (lL (bN t p) (aY t p-1)).fst=F at*;refine VI (o:=1) (k:=R.length+1) (w:=aY t p) (hd:=qs) (g:=fun i=> .ints .i64 ((eT (aY t p)::R).getD i [])) afO I I (fun i aa=>rfl) (fun i aa=> ?_) (fun h bg cd aV=> ?_) (fun i aa=> ?_)
 ·cases i with
  |zero=>exact ⟨Nat.zero_ne_one,by show aY t p≤(eT _).length;unfold eT;rw [dd,e8];exact bT _,_,rfl⟩
  |succ j=>
   have ae:j<R.length:=J;refine ⟨by show j+3≠1;omega,?_,_,OG ae⟩;show aY t p≤(R.getD j []).length;rw [hlen _ (dt [] ae)];exact bT _
 ·have eH:=oL aV;unfold fo at eH;rw [k2] at eH
  match h,aV with
  |0,aV=>cases aV;exact ma
  |1,aV=>exact absurd rfl cd
  |2,aV=>cases aV;exact ⟨N3 (fun _=>rfl) F,N3 (fun _=>rfl) F⟩
  |h+3,aV=>
   have aV:(gk 3 (fun r:List Int=>Cells.ints .i64 r) R++[])[h]? =some (some bg):=aV;rw [k2] at aV;obtain ⟨a,_,e⟩:=cO.1 (oL aV);cases e;exact ma
 ·have aeK:((eT (aY t p)::R).getD i []).length=aY t p:=by
   cases i with
   |zero=>show (eT _).length=_;unfold eT;rw [dd,e8]
   |succ j=>exact hlen _ (dt [] (show j<R.length by omega))
  show ak.ro (.ints .i64 ((eT (aY t p)::R).getD i [])) 0 ((eT (aY t p)::R).getD i []).length=_;rw [aeK]
theorem aaB {t:aK}(ai:Valid t)(hm:nk t):DM t (gR t):=
 Qg ai hm.len (FX ai hm) (fun i aa an=>by unfold gR;rw [aA an]) (fun i aa an=>by unfold gR;rw [ax J])
theorem apz (n:ep):bs Tryz.prog 169 [.agg (kU n)] .nil:=by obtain ⟨b8,pl,bM,bk,cx,cU⟩:=n;refine cf Tryz.f169 fun c aq bI=> ?_;refine bc ?_;exact aX aq I I
theorem anH (t:aK)(b2:jR t)(ai:Valid t)(hm:nk t):
 ch Tryz.prog 92 [.ro (bV t) 0 t.length] [] (fun _=>False) (fun r H=>r= .aC 0 0 (aY t 0)∧H=jN (aY t 1) (aY t 0) (fv t) []):=by
 have n6:=DF t 0 b2 ai;have dk:=DF t 1 b2 ai;have zO:aY t 0≤61:=AI ai 0;have ss:aY t 1≤61:=AI ai 1;have fL:=hm.len;refine gl (P:=Tryz.prog) (fn:=Tryz.f92) I I af I (fun c aq bI=> ?_);refine bF ?_;refine aO I I I n6 ?_;repeat (refine ao (bE rfl) ?_)
 refine aO I I I dk ?_;repeat (first|refine ao (bE rfl) ?_|refine ao (du rfl) ?_|refine cR ?_|refine b0 ?_|refine dh ?_|refine c5 rfl ?_|refine ao (fP rfl rfl rfl) ?_|refine ao (lo rfl rfl rfl rfl) ?_|refine ao (o4 rfl) ?_|refine ao (ln rfl rfl rfl rfl rfl rfl) ?_)
 refine jF 5 ⟨110,yg (aY t 1) 0⟩ I I ?_;repeat (refine fD ?_)
 refine cp (ι:=Nat) (fun i=>[(0,.ro (bV t) 0 t.length),(3,ij t 0),(4,ij t 1),(5,.aC 0 0 i),(20,ag (aY t 0)),(21,ag i)]) (fun i=>jN (aY t 1) i (List.replicate i (List.replicate (aY t 1) 0)) []) (fun i=>i≤aY t 0) (fun i=>aY t 0-i) 0 ⟨aE,I,b7 _⟩ ?_;intro i aa;refine bh ?_;refine bm I (fun h=> ?_) (fun h=> ?_)
 ·have afn:List.replicate (i+1) (List.replicate (aY t 1) (0:Rat))=List.replicate i (List.replicate (aY t 1) 0)++[List.replicate (aY t 1) 0]:=List.replicate_succ' ..;have dr:(List.replicate i (List.replicate (aY t 1) (0:Rat))).length=i:=e8 ..;have RO:(List.replicate (aY t 1) (0:Rat)).length=aY t 1:=e8 ..;generalize LD:List.replicate (i+1) (List.replicate (aY t 1) (0:Rat))=Zz at*;generalize List.replicate i (List.replicate (aY t 1) (0:Rat))=X at*;have Lh:(jN (aY t 1) i X []).length=i+1:=by rw [F6,dr];rfl
  refine fb ?_;refine fD ?_;repeat (first|refine ao (bE rfl) ?_|refine ao (du rfl) ?_|refine cR ?_|refine b0 ?_|refine dh ?_|refine c5 rfl ?_|refine ao (fP rfl rfl rfl) ?_|refine ao (lo rfl rfl rfl rfl) ?_|refine ao (o4 rfl) ?_|refine ao (ln rfl rfl rfl rfl rfl rfl) ?_)
  refine jF 6 ⟨118,aN []⟩ I I ?_;refine jk (jN (aY t 1) i X [some ⟨118,aN []⟩]) (by rw [JN];rfl) ?_;refine ds 6 (.aC (i+1) 0 0) I (aR.of_eq (by rw [Lh])) ?_;repeat (refine fD ?_)
  refine cp (ι:=Nat) (fun j=>[(0,.ro (bV t) 0 t.length),(3,ij t 0),(4,ij t 1),(5,.aC 0 0 i),(20,ag (aY t 0)),(21,ag i),(6,.aC (i+1) 0 j),(27,ag (aY t 1)),(28,ag j)]) (fun j=>jN (aY t 1) i X [some ⟨118,aN (List.replicate j 0)⟩]) (fun j=>j≤aY t 1) (fun j=>aY t 1-j) 0 ⟨aE,I,b7 _⟩ ?_;intro j ae;have fa:(List.replicate j (0:Rat)).length=j:=e8 ..;have Mz:List.replicate (j+1) (0:Rat)=List.replicate j 0++[0]:=List.replicate_succ' ..;refine bh ?_;refine bm I (fun bf=> ?_) (fun bf=> ?_)
  ·generalize wk:List.replicate (j+1) (0:Rat)=fK at*;generalize List.replicate j (0:Rat)=l at*;refine bn ?_;refine aO I I I mz ?_;unfold b9;repeat (refine h9 rfl rfl rfl rfl rfl rfl rfl rfl rfl rfl rfl ?_)
   have f1:(jN (aY t 1) i X [some ⟨118,aN l⟩])[i+1]? =some (some ⟨118,aN l⟩):=by have q:=Pv (O:=⟨110,yg (aY t 1) i⟩) (t:=118) (f:=fun r:List Rat=>aN r) (X:=X) (L:=[some ⟨118,aN l⟩]) (j:=0);rw [dr] at q;exact q
   refine dy I I I I I I I f1 I fa I I dT I (by show (j+1)*56≤_∧_;omega) ?_ c3 ?_
   ·intro aG a7 aL bd;exact hF 0 3 bW qL l _ _ (j8 _) _ aG a7 aL bd
   refine fj (jN (aY t 1) i X [some ⟨118,aN (l++[0])⟩]) (by
    have q:=apD (m:=aY t 1) (k:=i) (X:=X) (y:=some ⟨118,aN l⟩) (t:=118) J (ha 0 3 bW l 0 _ (j8 _));rw [dr] at q;exact q) ?_
   refine bo ?_;exact b4 ⟨j+1,J,J,aE,by rw [wk,Mz]⟩
  ·have ho:j=aY t 1:=J;subst ho;generalize List.replicate (aY t 1) (0:Rat)=l at*;have f1:(jN (aY t 1) i X [some ⟨118,aN l⟩,some ⟨110,fN 1 1 [.aC (i+1) 0 (aY t 1)]⟩])[i+2]? =some (some ⟨110,fN 1 1 [.aC (i+1) 0 (aY t 1)]⟩):=by have q:=Pv (O:=⟨110,yg (aY t 1) i⟩) (t:=118) (f:=fun r:List Rat=>aN r) (X:=X) (L:=[some ⟨118,aN l⟩,some ⟨110,fN 1 1 [.aC (i+1) 0 (aY t 1)]⟩]) (j:=1);rw [dr] at q;exact q
   have abF:(jN (aY t 1) i X [some ⟨118,aN l⟩]).length=i+2:=by rw [F6,dr];rfl
   refine bo ?_;refine u9 I I I I I I I I I I ?_;refine dw (jN (aY t 1) i X [some ⟨118,aN l⟩,some ⟨110,fN 1 1 [.aC (i+1) 0 (aY t 1)]⟩]) (by rw [JN];rfl) ?_;refine bP 37 (.aC (i+2) 0 1) I (aR.of_eq (by rw [abF])) ?_;have oc:(yg (aY t 1) i).len=i:=rfl;skip
   refine dy I I I I I I I I I oc I (Dd f1) dT I (by show (i+1)*24≤_∧i+1≤_;omega) ?_ c3 ?_
   ·intro aG j aa ae;obtain rfl:=fw.1 (show j<1 from ae);have q:=(WD (aY t 1) i (fN 1 1 [ak.aC (i+1) 0 (aY t 1)]) rfl).2.2 aG 0 aa fA;exact (congrArg (ak.forget 0) q.symm).trans q
   refine fj (jN (aY t 1) (i+1) X [some ⟨118,aN l⟩,none]) (akB (WD (aY t 1) i _ I) (by
    show aM [some (⟨118,(aN l).forget 0⟩:bl),_] _;rw [I6];exact aM.same (aM.drop aM.nil))) ?_
   refine fu ?_;refine b0 ?_;refine fm (jN (aY t 1) (i+1) (X++[l]) []) [none] [(0,.ro (bV t) 0 t.length),(3,ij t 0),(4,ij t 1),(5,.aC 0 0 (i+1)),(20,ag (aY t 0)),(21,ag i)] (by unfold jN;rw [JN,←Jz];rfl) aE hp
    (akA (by rw [F6,c8,dr];exact n0 _ _)) (by rw [F6,c8,dr];simp [kx,hf]) ?_
   refine bq ?_;exact b4 ⟨i+1,J,J,aE,by rw [LD,afn]⟩
 have df:i=aY t 0:=J;subst df;have Rj:=PL t (gR t) 169 [] rfl rfl b2 ai (aaB ai hm) (fun i aa an=>by
  have e:gR t i=none:=by unfold gR;rw [ax J]
  rw [e];exact apz _)
 have Rh:=Qf t J;have we:(eN t t.length).length=(cC t).length:=by rw [Jt,cr]
 have BL:(cC t).length≤t.length:=by unfold cC;refine dN (tg _ _) ?_;rw [gn];exact bT _
 have bw:=Wd t;unfold sV at bw;rw [←bw];refine bo ?_;refine aO I I I Rj (bF ?_);refine aO I I I Rh (bq ?_);refine cp (ι:=Nat) (fun k=>[(0,.ro (bV t) 0 t.length),(3,ij t 0),(4,ij t 1),(5,.aC 0 0 (aY t 0)),(7,.ro (aN (cj t (gR t))) 0 t.length),(43,.ro (.ints .i64 (eN t t.length)) 0 (eN t t.length).length),(44,ag ((eN t t.length).length)),(45,ag k)]) (fun k=>jN (aY t 1) (aY t 0) (qc t k) []) (fun k=>k≤(eN t t.length).length) (fun k=>(eN t t.length).length-k) 0 ⟨aE,I,b7 _⟩ ?_;intro k an;refine bh ?_;refine bm I (fun h=> ?_) (fun h=> ?_)
 ·have bO:k<(cC t).length:=J;have EA:=OP t bO;obtain ⟨i1,i2⟩:=mZ (dt (l:=cC t) 0 bO);have HA:k<(eN t t.length).length:=J;have wA:=Wc t bO;have pI:=aku ai k;have hw:=FX ai hm;have zX:=JG ai i1 i2;have gX:=(b2.node _ (dt aP i1)).iX;have jV:=C6 (t.getD ((cC t).getD k 0) aP).iX gX zX;have uE:=FK ai hw fL i1;have gp:=hm.sC.nu _ i1 i2;obtain ⟨eY,bS⟩:=vw ai 0 i1;obtain ⟨bY,db⟩:=vw ai 1 i1;obtain ⟨a,a8⟩:=oP eY;obtain ⟨b,al⟩:=oP bY;have BH:ke t 0 ((cC t).getD k 0)=a:=by unfold ke;rw [a8];rfl
  have nw:ke t 1 ((cC t).getD k 0)=b:=by unfold ke;rw [al];rfl
  rw [BH,nw] at wA;rw [a8,cg] at bS;rw [al,cg] at db;have bS:a<aY t 0:=bS;have db:b<aY t 1:=db;have RH:=Ub ai hm (q7 bO) a b;have RR:=pI.rows;have aqm:=pI.lA a bS;have aqU:((cC t).getD k 0)<(hv t 0).length:=by rw [show (hv t 0).length=t.length from w2 t 0 _];exact i1
  have aqV:((cC t).getD k 0)<(hv t 1).length:=by rw [show (hv t 1).length=t.length from w2 t 1 _];exact i1
  have gW:=AT _ _ (hg (uE.mono (show 12*40+1≤9*100000 by decide))) (hg (gp.mono aT));have xO:hN t (cj t (gR t)) ((cC t).getD k 0)=(cj t (gR t)).getD ((cC t).getD k 0) 0*cE (t.getD ((cC t).getD k 0) aP).iX:=rfl;have gW:bs Tryz.prog 99 [b9 ((cj t (gR t)).getD ((cC t).getD k 0) 0),b9 (cE (t.getD ((cC t).getD k 0) aP).iX)] (b9 (hN t (cj t (gR t)) ((cC t).getD k 0))):=gW;have ql:=Dk (((qc t k).getD a []).getD b 0) (hN t (cj t (gR t)) ((cC t).getD k 0)) (hg (RH.mono aT)) (by
   rw [xO];exact hg ((uE.mul gp).mono aT))
  unfold rP at wA;have fa:(cj t (gR t)).length=t.length:=yJ _ _ _;generalize adg:qc t (k+1)=apK at*;generalize qc t k=T at*;generalize dJ:hN t (cj t (gR t)) ((cC t).getD k 0)=E at*;generalize (cC t).getD k 0=i at*;have g1:(jN (aY t 1) (aY t 0) T [])[a+1]? =some (some ⟨118,aN (T.getD a [])⟩):=Pw [] J;generalize re:(T.getD a []).getD b 0+E=V at*;have BC:b<(aN (T.getD a [])).len:=by show b<(T.getD a []).length;omega
  clear hw pI uE gp RH dJ xO eY bY BH nw n6 dk Rj Rh;refine yj ?_;refine c5 I ?_;refine hx ?_;refine ds 9 (ag i) I (aR.of_eq (by rw [EA])) ?_;skip
  refine Ax af af I ?_;repeat (first|refine ao (bE rfl) ?_|refine ao (du rfl) ?_|refine ao (vc rfl rfl rfl) ?_|refine cR ?_|refine b0 ?_|refine ao (h8 rfl rfl rfl rfl hC J) ?_|refine ao (lo rfl rfl rfl rfl) ?_|refine ao (o4 rfl) ?_|refine ao (ln rfl rfl rfl rfl rfl rfl) ?_)
  refine ds 10 (ag a) I (aR.of_eq (by rw [a8])) ?_;refine ds 11 (ag b) I (aR.of_eq (by rw [al])) ?_;skip
  refine eg af ?_;refine eK (fuel:=1) [0,1,2,3,4,5,6,7,8,9,10,11,12,13,14,15,16,17,18,19,20,21,22,23,24] [(0,.ro (bV t) 0 t.length),(3,ij t 0),(4,ij t 1),(5,.aC 0 0 (aY t 0)),(7,.ro (aN (cj t (gR t))) 0 t.length),(43,.ro (.ints .i64 (eN t t.length)) 0 (eN t t.length).length),(44,ag ((eN t t.length).length)),(45,ag k),(9,ag i),(10,ag a),(11,ag b)] aE af aT I I ?_;refine cY ?_;refine dW I I I I I jV ?_;refine dW I I I I I gW ?_;refine dW I I I I I ql ?_;refine cY ?_;refine eI ?_;refine br 25 ?_;unfold b9;refine eE (c':=aN ((T.getD a []).set b V)) I I I g1 I BC (by show (List.set _ b _).length=_;rw [dd];rfl) I (fun aG a7 aL bd=>jl 0 3 bW (T.getD a []) b V BC aG a7 aL bd) (bn ?_);refine dX af ?_;repeat (refine j2 ?_)
  refine b0 ?_;refine jk (jN (aY t 1) (aY t 0) (T.set a ((T.getD a []).set b V)) []) (UF (f:=fun r:List Rat=>aN r) _ J) (bq ?_);exact b4 ⟨k+1,J,J,aE,by rw [adg,wA]⟩
 ·have df:k=(eN t t.length).length:=J;subst df;rw [we,PS];refine bo ?_;exact aX aq I ⟨I,I⟩
theorem W1 (t:aK)(b2:jR t)(ai:Valid t)(hm:nk t):bs Tryz.prog 92 [.ro (bV t) 0 t.length] (.ro (cW (fv t)) 0 (fv t).length):=by
 have hd:=Ka ai;have tA:=anH t b2 ai hm;rw [←hd.rows] at tA;have LS:=hd.lA;rw [←hd.rows] at LS;refine VI (o:=0) (w:=aY t 1) (hd:=fun i=>i+1) (g:=fun i=>aN ((fv t).getD i [])) tA I I (fun i aa=>rfl) (fun i aa=>⟨Nat.succ_ne_zero i,?_,_,Pw [] aa⟩) (fun h bg cd aV=> ?_) (fun i aa=> ?_)
 ·show aY t 1≤((fv t).getD i []).length;rw [LS i aa];exact bT _
 ·obtain ⟨h,rfl⟩: ∃j,h=j+1:=⟨h-1,J⟩
  have aV:(gk 118 (fun r:List Rat=>aN r) (fv t)++[])[h]? =some (some bg):=aV;rw [k2] at aV;obtain ⟨a,_,e⟩:=cO.1 (oL aV);cases e;exact mx _
 ·show ak.ro (aN ((fv t).getD i [])) 0 ((fv t).getD i []).length=_;rw [LS i aa]
end Go.Proofs.YtmpnheilfejcpaaGreatDoor
namespace Go.Proofs.YtmpnheilfejcpaaGreatDoor
open Go.aj Go.aj.dn Go.aj.cX Go.RowKit Go.aj.dZ Go.aj.c0 Go.aj.nm Go.aj.eP
attribute [local irreducible] aj eJ b1 ch hc
theorem o9 (h:Nat)(a:List Rat):cu ((aN a).forget h) (aN a):=by rw [I6];exact cu.refl _
theorem X6 (h:Nat)(a:List (List Rat)):cu ((cW a).forget h) (cW a):=by
 have e:(cW a).forget h=cW a:=by
  show Cells.fn _ _ _=Cells.fn _ _ _;congr 1;funext i j
  match j with
  |0=>rfl
  |_+1=>rfl
 rw [e];exact cu.refl _
abbrev pR (a b:Nat)(A:List (List Rat))(B:List Rat)(T:aZ):aZ:=some ⟨155,.box [.nil,.nil,.nil]⟩::some ⟨155,.box [.aC 2 0 a,.aC 3 0 b,.nil]⟩::some ⟨110,cW A⟩::some ⟨118,aN B⟩::T
theorem Vt {n:Nat}{x y z:ak}(ar:hf n x=true)(a1:hf n y=true)(bw:hf n z=true):fz n (.box [x,y,z]):=by
 intro i j _ ae;have ae:j<3:=ae
 match j,ae with
 |0,_=>exact ar
 |1,_=>exact a1
 |2,_=>exact bw
theorem alZ (A:List (List Rat))(n:Nat):fz n (cW A):=by intro i j _ ae;obtain rfl:=fw.1 (show j<1 from ae);rfl
theorem XS (a b:Nat)(A:List (List Rat))(B:List Rat): ∀(h:Nat) (o:bl),(pR a b A B [])[h]? =some (some o)→fz 4 o.c:=by
 intro h o ah
 match h,ah with
 |0,ah=>cases ah;exact Vt rfl rfl rfl
 |1,ah=>cases ah;exact Vt rfl rfl rfl
 |2,ah=>cases ah;exact alZ _ _
 |3,ah=>cases ah;exact wZ _ _
 |_+4,ah=>simp at ah
theorem ajU (M:List (List Rat))(E F:List (List Int))(n m k gD:Nat)(aqf:M.length=n)(acN:F.length=k)(we:E.length=gD)(aU:0<n)(pJ:0<k)(aqS:n≤61)(aqQ:m≤61)(aqM:k≤61)(aqN:gD≤61)(gq: ∀i,i<n→(M.getD i []).length=m)(mR: ∀c,c<k→(F.getD c []).length=m)(dJ: ∀c,c<gD→(E.getD c []).length=n)(acO: ∀c j,-1≤(F.getD c []).getD j 0∧(F.getD c []).getD j 0≤1)(acL: ∀c j,-1≤(E.getD c []).getD j 0∧(E.getD c []).getD j 0≤1):
 bs Tryz.prog 94 [.ro (cW M) 0 n,.ro (gb E) 0 gD,.ro (gb F) 0 k] (.agg [.ro (cW (lj M E F n m k (2*gD))) 0 (m+2*gD),.ro (aN (nD m (2*gD))) 0 (m+2*gD),.ro (aN (wK n k)) 0 (n+2*k)]):=by
 have MK:=XP (n+2*k) J;have MJ:(List.replicate (n+2*k) (0:Rat)).length=n+2*k:=e8 ..;refine cf Tryz.f94 fun c aq bI=> ?_;have acU:=gq 0 aU;refine bc ?_;refine ds 29 (ag m) I (aR.of_eq (by rw [acU])) ?_;refine Ji 1 ⟨110,cW []⟩ (.box [.aC 2 0 0,.nil,.nil]) I I I I (fun aG a7 _ bd=> ?_) ?_
 ·have bd:a7<3:=bd
  match a7,bd with
  |0,_=>exact .inr ⟨rfl,rfl⟩
  |1,_=>exact .inl rfl
  |2,_=>exact .inl rfl
 refine Ji 1 ⟨118,aN []⟩ (.box [.aC 2 0 0,.aC 3 0 0,.nil]) I I I I (fun aG a7 _ bd=> ?_) ?_
 ·have bd:a7<3:=bd
  match a7,bd with
  |0,_=>exact .inl rfl
  |1,_=>exact .inr ⟨rfl,rfl⟩
  |2,_=>exact .inl rfl
 refine jk (pR 0 0 [] [] []) I ?_;refine cp (ι:=Nat) (fun j=>[(0,.ro (cW M) 0 n),(1,.ro (gb E) 0 gD),(2,.ro (gb F) 0 k),(6,.ptr 0 0 0),(7,ag n),(8,ag k),(9,.ptr 1 0 0),(29,ag m),(30,ag j)]) (fun j=>pR j j (lj M E F n j k 0) (List.replicate j 0) []) (fun j=>j≤m) (fun j=>m-j) 0 ⟨aE,I,b7 _⟩ ?_;intro j ae;refine bh ?_;refine bm I (fun h=> ?_) (fun h=> ?_)
 ·have bd:j<m:=J;have HY:=ahF M E F n k j;have HZ:List.replicate (j+1) (0:Rat)=List.replicate j 0++[0]:=List.replicate_succ' ..;have iL:(lj M E F n j k 0).length=j:=by rw [KP];rfl
  have BG:(List.replicate j (0:Rat)).length=j:=e8 ..;generalize mQ:lj M E F n (j+1) k 0=y7 at*;generalize lj M E F n j k 0=A at*;generalize uG:List.replicate (j+1) (0:Rat)=QI at*;generalize List.replicate j (0:Rat)=B at*;refine bn ?_;refine ao (Iv I I J) ?_;repeat (refine ao (hK rfl rfl J) ?_)
  refine bP 36 (.int .i64 ((n+2*k:Nat))) I (aR.of_eq (by congr 1)) ?_;refine me I I I MK ?_;refine dw (pR j j A B [some ⟨118,aN (iG (n+2*k) (lk M F n k j) (fun y=>decide (y<0)))⟩]) (by rw [WS _ _ (fun y=>fT (gg y))];rfl) (bq ?_);refine cp (ι:=Nat) (fun i=>[(0,.ro (cW M) 0 n),(1,.ro (gb E) 0 gD),(2,.ro (gb F) 0 k),(6,.ptr 0 0 0),(7,ag n),(8,ag k),(9,.ptr 1 0 0),(29,ag m),(30,ag j),(10,ag j),(11,.aC 4 0 (n+2*k)),(39,ag n),(40,ag i)]) (fun i=>pR j j A B [some ⟨118,aN (iG (n+2*k) (lk M F n k j) (fun y=>decide (y<i)))⟩]) (fun i=>i≤n) (fun i=>n-i) 0 ⟨aE,I,b7 _⟩ ?_;intro i aa;refine bh ?_;refine bm I (fun bf=> ?_) (fun bf=> ?_)
  ·have aL:i<n:=J;have fa:=gq i aL;have c9:(iG (n+2*k) (lk M F n k j) (fun y=>decide (y<i))).set i (lk M F n k j i)=iG (n+2*k) (lk M F n k j) (fun y=>decide (y<i+1)):=J9 (fun y=>XJ y i);have Ey:lk M F n k j i= -((M.getD i []).getD j 0):=aA aL;have Sr:=Da (n+2*k) (lk M F n k j) (fun y=>decide (y<i));rw [Ey] at c9;generalize Ek:iG (n+2*k) (lk M F n k j) (fun y=>decide (y<i+1))=QQ at*;generalize iG (n+2*k) (lk M F n k j) (fun y=>decide (y<i))=R at*;have sn:i<(aN R).len:=by show i<R.length;omega
   refine bc ?_;refine bP 51 (.agg (bW ((M.getD i []).getD j 0))) I (aR.of_eq I) ?_;refine aO I I I (Y6 _) ?_;generalize-((M.getD i []).getD j 0)=z at*;unfold b9;repeat (refine ao (gd rfl rfl rfl rfl rfl hC J) ?_)
   refine eE (c':=aN (R.set i z)) I I I I I sn (by show (List.set _ i _).length=_;rw [dd];rfl) I (fun aG a7 aL bd=>jl 0 3 bW R i z sn aG a7 aL bd) (bo ?_);exact b4 ⟨i+1,J,J,aE,by rw [Ek,←c9];rfl⟩
  have df:i=n:=J;subst df;refine jk (pR j j A B [some ⟨118,aN (iG (i+2*k) (lk M F i k j) (fs i k 0))⟩]) (by rw [anC (fun y=>ahD i k y)]) (bo ?_);refine cp (ι:=Nat) (fun c=>[(0,.ro (cW M) 0 i),(1,.ro (gb E) 0 gD),(2,.ro (gb F) 0 k),(6,.ptr 0 0 0),(7,ag i),(8,ag k),(9,.ptr 1 0 0),(29,ag m),(30,ag j),(10,ag j),(11,.aC 4 0 (i+2*k)),(56,ag k),(57,ag c)]) (fun c=>pR j j A B [some ⟨118,aN (iG (i+2*k) (lk M F i k j) (fs i k c))⟩]) (fun c=>c≤k) (fun c=>k-c) 0 ⟨aE,I,b7 _⟩ ?_;intro c aw;refine bh ?_;refine bm I (fun bL=> ?_) (fun bL=> ?_)
  ·have zI:c<k:=J;have c9:=ahC M F i k j c zI;have Sr:=Da (i+2*k) (lk M F i k j) (fs i k c);have aqa:=mR c zI;obtain ⟨s1,s2⟩:=acO c j;have aaN:=AZ ((F.getD c []).getD j 0) J;have aaO:=AZ (-((F.getD c []).getD j 0)) J;generalize Ek:iG (i+2*k) (lk M F i k j) (fs i k (c+1))=QQ at*;generalize iG (i+2*k) (lk M F i k j) (fs i k c)=R at*;have sn:i+c<(aN R).len:=by show i+c<R.length;omega
   have Ef:i+k+c<(aN (R.set (i+c) ((((F.getD c []).getD j 0:Int)):Rat))).len:=by show i+k+c<(List.set _ _ _).length;rw [dd];omega
   refine bn ?_;refine eg af ?_;refine bH 4 I af af af I (bE I) I ?_;refine bH 5 I af af af I (bE I) I ?_;refine bH 6 I af af af I (bE I) I ?_;refine bH 7 I af af af I (hK I I J) I ?_;refine bH 8 I af af af I (bE I) I ?_;refine bH 9 I af af af I (hK I I J) I ?_;refine bH 18 I af af af I (bE I) I ?_;refine bH 19 I af af af I (bE I) I ?_;refine bH 20 I af af af I (h8 I I I I (by first|(simp only [cT,cg,fE];exact I)|exact I) J) I ?_;refine bH 22 I af af af I (bE I) I ?_;refine eK (fuel:=3) [0,1,2,3,10,11,12,13,14,15,16,17,21,23,24,25,26,27] [(0,.ro (cW M) 0 i),(1,.ro (gb E) 0 gD),(2,.ro (gb F) 0 k),(6,.ptr 0 0 0),(7,ag i),(8,ag k),(9,.ptr 1 0 0),(29,ag m),(30,ag j),(10,ag j),(11,.aC 4 0 (i+2*k)),(56,ag k),(57,ag c),(13,ag c),(64,.aC 4 0 (i+2*k)),(69,ag (i+k+c)),(79,ag c),(80,.cK (gb F) c 0),(82,ag j)] aE af aT I I ?_;refine cY ?_;refine dW I I I I I aaN ?_;refine cY ?_;refine dW I I I I I aaO ?_;refine cY ?_;refine eI ?_;generalize (((F.getD c []).getD j 0:Int):Rat)=hE at*;generalize ((-((F.getD c []).getD j 0):Int):Rat)=iQ at*;unfold b9;refine br 28 ?_;refine eE (c':=aN (R.set (i+c) hE)) I I I I I sn og I (fun aG a7 aL bd=>jl 0 3 bW R (i+c) hE sn aG a7 aL bd) (bn ?_);refine bH 29 I af af af I (gd I I I I I (by first|(simp only [cT,cg,fE];exact I)|exact I) J) I ?_;refine br 30 ?_;refine eE (c':=aN ((R.set (i+c) hE).set (i+k+c) iQ)) I I I I I Ef og I (fun aG a7 aL bd=>jl 0 3 bW (R.set (i+c) hE) (i+k+c) iQ Ef aG a7 aL bd) (bn ?_);refine dX af (bo ?_);exact b4 ⟨c+1,J,J,aE,by rw [Ek,←c9];rfl⟩
  ·have zJ:c=k:=J;subst zJ;rw [ahB];have wo:(Ak M F i c j).length=i+2*c:=by unfold Ak;rw [cr,gn]
   generalize Ak M F i c j=l at*;have h0: ∀a7,a7<1→(fN 1 1 [.ro (aN l) 0 (i+2*c)]).at 0 a7=(gF l).getD a7 .any:=fun a7 bd=>by rw [←wo];exact Iz l a7 bd
   refine hx ?_;refine kv 4 11 (i+2*c) [(0,.ro (cW M) 0 i),(1,.ro (gb E) 0 gD),(2,.ro (gb F) 0 c),(6,.ptr 0 0 0),(7,ag i),(8,ag c),(9,.ptr 1 0 0),(29,ag m),(30,ag j)] I (mx _) I (by show _≤l.length;omega) aE ?_;refine fm (pR j j A B []) [none] [(0,.ro (cW M) 0 i),(1,.ro (gb E) 0 gD),(2,.ro (gb F) 0 c),(6,.ptr 0 0 0),(7,ag i),(8,ag c),(9,.ptr 1 0 0),(29,ag m),(30,ag j),(11,.ro (aN l) 0 (i+2*c))] I aE hp (XS _ _ _ _) I ?_;skip
   refine eg af ?_;refine bH 0 I af af af I (de I I I I I I) I ?_;refine bH 2 I af af af I (bE I) I ?_;refine bH 5 I af af af I (de I I I I I I) I ?_;apply tN (H:=[some ⟨155,.box [.nil,.nil,.nil]⟩,some ⟨155,.box [.any,.aC 3 0 j,.nil]⟩,some ⟨110,cW (A++[l])⟩,some ⟨118,aN B⟩]) [(0,.ro (cW M) 0 i),(1,.ro (gb E) 0 gD),(2,.ro (gb F) 0 c),(6,.ptr 0 0 0),(7,ag i),(8,ag c),(9,.ptr 1 0 0),(29,ag m),(30,ag j),(94,.aC 2 0 (j+1)),(96,.aC 3 0 (j)),(98,.ro (fN 1 3 (bW (0))) 0 1),(100,.ptr 1 0 0)]
   ·intro fin;refine tJ (is:=[1,3,6]) af bX I ⟨fun o ah=> ?_,fun o ah=> ?_,fun o ah=> ?_,trivial⟩;all_goals (cases ah)
    ·refine bh ?_;refine dQ 3 6 ?_ ?_
     ·refine bq ?_;refine dQ 4 6 ?_ ?_
      ·refine dy I I I I I I I I I iL I I dT I (by show (j+1)*24≤_∧j+1≤_;omega) ?_ c3 ?_
       ·intro aG a7 aL bd;exact hF [] 1 gF om A l _ h0 2 aG a7 aL bd
       refine fj [some ⟨155,.box [.nil,.nil,.nil]⟩,some ⟨155,.box [.any,.aC 3 0 j,.nil]⟩,some ⟨110,cW (A++[l])⟩,some ⟨118,aN B⟩] (aM.eqv (cu.refl _) (aM.eqv (cu.refl _) (aM.eqv (ha [] 1 gF A l _ h0) (aM.eqv (o9 _ _) aM.nil)))) (bn ?_);refine dQ 6 7 ?_ ?_
       ·refine bh ?_;refine bH 10 I af af af I (de I I I I I I) I ?_;refine br 7 ?_;refine aO I I I mz ?_;unfold b9;refine bn ?_;refine br 8 ?_;refine bq ?_;exact fin _ aE
       ·refine aO I I I mz ?_;unfold b9;refine bn ?_;refine dQ 6 8 ?_ ?_
        ·refine bh ?_;refine bH 10 I af af af I (de I I I I I I) I ?_;refine br 8 ?_;refine bq ?_;exact fin _ aE
        ·refine bq ?_;refine br 6 ?_;refine bh ?_;refine bH 10 I af af af I (de I I I I I I) I ?_;exact fin _ aE
      ·refine bh ?_;refine br 4 ?_;refine dy I I I I I I I I I iL I I dT I (by show (j+1)*24≤_∧j+1≤_;omega) ?_ c3 ?_
       ·intro aG a7 aL bd;exact hF [] 1 gF om A l _ h0 2 aG a7 aL bd
       refine fj [some ⟨155,.box [.nil,.nil,.nil]⟩,some ⟨155,.box [.any,.aC 3 0 j,.nil]⟩,some ⟨110,cW (A++[l])⟩,some ⟨118,aN B⟩] (aM.eqv (cu.refl _) (aM.eqv (cu.refl _) (aM.eqv (ha [] 1 gF A l _ h0) (aM.eqv (o9 _ _) aM.nil)))) (bn ?_);refine bH 10 I af af af I (de I I I I I I) I ?_;refine br 7 ?_;refine aO I I I mz ?_;unfold b9;refine bn ?_;refine br 8 ?_;refine bq ?_;exact fin _ aE
     ·refine bh ?_;refine br 3 ?_;refine bq ?_;refine br 4 ?_;refine dy I I I I I I I I I iL I I dT I (by show (j+1)*24≤_∧j+1≤_;omega) ?_ c3 ?_
      ·intro aG a7 aL bd;exact hF [] 1 gF om A l _ h0 2 aG a7 aL bd
      refine fj [some ⟨155,.box [.nil,.nil,.nil]⟩,some ⟨155,.box [.any,.aC 3 0 j,.nil]⟩,some ⟨110,cW (A++[l])⟩,some ⟨118,aN B⟩] (aM.eqv (cu.refl _) (aM.eqv (cu.refl _) (aM.eqv (ha [] 1 gF A l _ h0) (aM.eqv (o9 _ _) aM.nil)))) (bn ?_);refine bH 10 I af af af I (de I I I I I I) I ?_;refine br 7 ?_;refine aO I I I mz ?_;unfold b9;refine bn ?_;refine br 8 ?_;refine bq ?_;exact fin _ aE
    ·refine bq ?_;refine dQ 1 6 ?_ ?_
     ·refine bh ?_;refine dQ 4 6 ?_ ?_
      ·refine dy I I I I I I I I I iL I I dT I (by show (j+1)*24≤_∧j+1≤_;omega) ?_ c3 ?_
       ·intro aG a7 aL bd;exact hF [] 1 gF om A l _ h0 2 aG a7 aL bd
       refine fj [some ⟨155,.box [.nil,.nil,.nil]⟩,some ⟨155,.box [.any,.aC 3 0 j,.nil]⟩,some ⟨110,cW (A++[l])⟩,some ⟨118,aN B⟩] (aM.eqv (cu.refl _) (aM.eqv (cu.refl _) (aM.eqv (ha [] 1 gF A l _ h0) (aM.eqv (o9 _ _) aM.nil)))) (bn ?_);refine dQ 6 7 ?_ ?_
       ·refine bh ?_;refine bH 10 I af af af I (de I I I I I I) I ?_;refine br 7 ?_;refine aO I I I mz ?_;unfold b9;refine bn ?_;refine br 8 ?_;refine bq ?_;exact fin _ aE
       ·refine aO I I I mz ?_;unfold b9;refine bn ?_;refine dQ 6 8 ?_ ?_
        ·refine bh ?_;refine bH 10 I af af af I (de I I I I I I) I ?_;refine br 8 ?_;refine bq ?_;exact fin _ aE
        ·refine bq ?_;refine br 6 ?_;refine bh ?_;refine bH 10 I af af af I (de I I I I I I) I ?_;exact fin _ aE
      ·refine bh ?_;refine br 4 ?_;refine dy I I I I I I I I I iL I I dT I (by show (j+1)*24≤_∧j+1≤_;omega) ?_ c3 ?_
       ·intro aG a7 aL bd;exact hF [] 1 gF om A l _ h0 2 aG a7 aL bd
       refine fj [some ⟨155,.box [.nil,.nil,.nil]⟩,some ⟨155,.box [.any,.aC 3 0 j,.nil]⟩,some ⟨110,cW (A++[l])⟩,some ⟨118,aN B⟩] (aM.eqv (cu.refl _) (aM.eqv (cu.refl _) (aM.eqv (ha [] 1 gF A l _ h0) (aM.eqv (o9 _ _) aM.nil)))) (bn ?_);refine bH 10 I af af af I (de I I I I I I) I ?_;refine br 7 ?_;refine aO I I I mz ?_;unfold b9;refine bn ?_;refine br 8 ?_;refine bq ?_;exact fin _ aE
     ·refine bh ?_;refine br 1 ?_;refine bh ?_;refine br 4 ?_;refine dy I I I I I I I I I iL I I dT I (by show (j+1)*24≤_∧j+1≤_;omega) ?_ c3 ?_
      ·intro aG a7 aL bd;exact hF [] 1 gF om A l _ h0 2 aG a7 aL bd
      refine fj [some ⟨155,.box [.nil,.nil,.nil]⟩,some ⟨155,.box [.any,.aC 3 0 j,.nil]⟩,some ⟨110,cW (A++[l])⟩,some ⟨118,aN B⟩] (aM.eqv (cu.refl _) (aM.eqv (cu.refl _) (aM.eqv (ha [] 1 gF A l _ h0) (aM.eqv (o9 _ _) aM.nil)))) (bn ?_);refine bH 10 I af af af I (de I I I I I I) I ?_;refine br 7 ?_;refine aO I I I mz ?_;unfold b9;refine bn ?_;refine br 8 ?_;refine bq ?_;exact fin _ aE
    ·refine bh ?_;refine dQ 1 3 ?_ ?_
     ·refine bh ?_;refine br 3 ?_;refine bq ?_;refine br 4 ?_;refine dy I I I I I I I I I iL I I dT I (by show (j+1)*24≤_∧j+1≤_;omega) ?_ c3 ?_
      ·intro aG a7 aL bd;exact hF [] 1 gF om A l _ h0 2 aG a7 aL bd
      refine fj [some ⟨155,.box [.nil,.nil,.nil]⟩,some ⟨155,.box [.any,.aC 3 0 j,.nil]⟩,some ⟨110,cW (A++[l])⟩,some ⟨118,aN B⟩] (aM.eqv (cu.refl _) (aM.eqv (cu.refl _) (aM.eqv (ha [] 1 gF A l _ h0) (aM.eqv (o9 _ _) aM.nil)))) (bn ?_);refine bH 10 I af af af I (de I I I I I I) I ?_;refine br 7 ?_;refine aO I I I mz ?_;unfold b9;refine bn ?_;refine br 8 ?_;refine bq ?_;exact fin _ aE
     ·refine bq ?_;refine br 1 ?_;refine bh ?_;refine br 4 ?_;refine dy I I I I I I I I I iL I I dT I (by show (j+1)*24≤_∧j+1≤_;omega) ?_ c3 ?_
      ·intro aG a7 aL bd;exact hF [] 1 gF om A l _ h0 2 aG a7 aL bd
      refine fj [some ⟨155,.box [.nil,.nil,.nil]⟩,some ⟨155,.box [.any,.aC 3 0 j,.nil]⟩,some ⟨110,cW (A++[l])⟩,some ⟨118,aN B⟩] (aM.eqv (cu.refl _) (aM.eqv (cu.refl _) (aM.eqv (ha [] 1 gF A l _ h0) (aM.eqv (o9 _ _) aM.nil)))) (bn ?_);refine bH 10 I af af af I (de I I I I I I) I ?_;refine br 7 ?_;refine aO I I I mz ?_;unfold b9;refine bn ?_;refine br 8 ?_;refine bq ?_;exact fin _ aE
   refine br 9 ?_;refine dy I I I I I I I I I BG I I dT I (by show (j+1)*56≤_∧j+1≤_;omega) ?_ c3 ?_
   ·intro aG a7 aL bd;exact hF 0 3 bW qL B (0) _ (j8 _) 3 aG a7 aL bd
   refine fj [some ⟨155,.box [.nil,.nil,.nil]⟩,some ⟨155,.box [.any,.any,.nil]⟩,some ⟨110,cW (A++[l])⟩,some ⟨118,aN (B++[0])⟩] (aM.eqv (cu.refl _) (aM.eqv (cu.refl _) (aM.eqv (X6 _ _) (aM.eqv (ha 0 3 bW B (0) _ (j8 _)) aM.nil)))) (bn ?_);refine br 11 ?_;refine oi ?_;refine bH 12 I af af af I (de I I I I I I) I ?_;refine br 13 ?_;refine oi ?_;refine dX af (bo ?_);exact b4 ⟨j+1,J,J,aE,by rw [mQ,HY,uG,HZ];rfl⟩
 have ho:j=m:=J;subst ho;refine jk (pR (j+2*0) (j+2*0) (lj M E F n j k (2*0)) (nD j (2*0)) []) (by rw [←ahI];rfl) (bo ?_);refine cp (ι:=Nat) (fun c=>[(0,.ro (cW M) 0 n),(1,.ro (gb E) 0 gD),(2,.ro (gb F) 0 k),(6,.ptr 0 0 0),(7,ag n),(8,ag k),(9,.ptr 1 0 0),(103,.ro (gb E) 0 gD),(104,ag gD),(105,ag c)]) (fun c=>pR (j+2*c) (j+2*c) (lj M E F n j k (2*c)) (nD j (2*c)) []) (fun c=>c≤gD) (fun c=>gD-c) 0 ⟨aE,I,b7 _⟩ ?_;intro c aw;refine bh ?_;refine bm I (fun h=> ?_) (fun h=> ?_)
 ·have zI:c<gD:=J;have RI:=dJ c zI;refine u0 ?_;refine ds 15 (.ro (.ints .i64 (E.getD c [])) 0 n) I (aR.of_eq (by show ak.ro (.ints .i64 (E.getD c [])) 0 (E.getD c []).length=_;rw [RI])) ?_;refine cp (ι:=Nat) (fun s=>[(0,.ro (cW M) 0 n),(1,.ro (gb E) 0 gD),(2,.ro (gb F) 0 k),(6,.ptr 0 0 0),(7,ag n),(8,ag k),(9,.ptr 1 0 0),(103,.ro (gb E) 0 gD),(104,ag gD),(105,ag c),(14,ag c),(15,.ro (.ints .i64 (E.getD c [])) 0 n),(110,.agg [.int .i64 1,.int .i64 (-1)]),(111,ag s)]) (fun s=>pR (j+(2*c+s)) (j+(2*c+s)) (lj M E F n j k (2*c+s)) (nD j (2*c+s)) []) (fun s=>s≤2) (fun s=>2-s) 0 ⟨aE,I,b7 _⟩ ?_;intro s av;refine bh ?_;refine bm I (fun bf=> ?_) (fun bf=> ?_)
  ·have gY:s<2:=J;have zZ:(2*c+s)%2=s:=J;have SJ:(2*c+s)/2=c:=J;have HY:=ahG M E F n j k (2*c+s);have HZ:=ahH j (2*c+s);have iL:(lj M E F n j k (2*c+s)).length=j+(2*c+s):=KP ..;have BG:(nD j (2*c+s)).length=j+(2*c+s):=Qp ..;have SN: -1≤l8 s∧l8 s≤1:=by unfold l8;split<;>decide
   rw [show 2*c+s+1=2*c+(s+1) by omega] at HY HZ;generalize mQ:lj M E F n j k (2*c+(s+1))=y7 at*;generalize lj M E F n j k (2*c+s)=A at*;generalize uG:nD j (2*c+(s+1))=QI at*;generalize nD j (2*c+s)=B at*;refine bn ?_;refine ao (PJ I I I I I I I ⟨J,by show (s:Int)<((2:Nat):Int);omega,by show (s:Int)<((2:Nat):Int);omega⟩) ?_;refine bP 113 (.int .i64 (l8 s)) I (aR.of_eq (by
    rcases (show s=0∨s=1 by omega) with e|e<;>subst e<;>rfl)) ?_
   refine bF ?_;refine ao (Iv I I J) ?_;repeat (refine ao (hK rfl rfl J) ?_)
   refine bP 117 (.int .i64 ((n+2*k:Nat))) I (aR.of_eq (by congr 1)) ?_;refine me I I I MK ?_;refine dw (pR (j+(2*c+s)) (j+(2*c+s)) A B [some ⟨118,aN (iG (n+2*k) (qD E n (2*c+s)) (fun y=>decide (y<0)))⟩]) (by rw [WS _ _ (fun y=>fT (gg y))];rfl) (bq ?_);refine cp (ι:=Nat) (fun i=>[(0,.ro (cW M) 0 n),(1,.ro (gb E) 0 gD),(2,.ro (gb F) 0 k),(6,.ptr 0 0 0),(7,ag n),(8,ag k),(9,.ptr 1 0 0),(103,.ro (gb E) 0 gD),(104,ag gD),(105,ag c),(14,ag c),(15,.ro (.ints .i64 (E.getD c [])) 0 n),(110,.agg [.int .i64 1,.int .i64 (-1)]),(111,ag s),(17,.int .i64 (l8 s)),(18,.aC 4 0 (n+2*k)),(119,.ro (.ints .i64 (E.getD c [])) 0 n),(120,ag n),(121,ag i)]) (fun i=>pR (j+(2*c+s)) (j+(2*c+s)) A B [some ⟨118,aN (iG (n+2*k) (qD E n (2*c+s)) (fun y=>decide (y<i)))⟩]) (fun i=>i≤n) (fun i=>n-i) 0 ⟨aE,I,b7 _⟩ ?_;intro i aa;refine bh ?_;refine bm I (fun bL=> ?_) (fun bL=> ?_)
   ·have aL:i<n:=J;have c9:(iG (n+2*k) (qD E n (2*c+s)) (fun y=>decide (y<i))).set i (qD E n (2*c+s) i)=iG (n+2*k) (qD E n (2*c+s)) (fun y=>decide (y<i+1)):=J9 (fun y=>XJ y i);have Ey:qD E n (2*c+s) i=((l8 s*(E.getD c []).getD i 0:Int):Rat):=by unfold qD;rw [aA aL,zZ,SJ]
    have Sr:=Da (n+2*k) (qD E n (2*c+s)) (fun y=>decide (y<i));rw [Ey] at c9;generalize Ek:iG (n+2*k) (qD E n (2*c+s)) (fun y=>decide (y<i+1))=QQ at*;generalize iG (n+2*k) (qD E n (2*c+s)) (fun y=>decide (y<i))=R at*;have sn:i<(aN R).len:=by show i<R.length;omega
    obtain ⟨aH,aJ⟩:=acL c i;have hmul: -1≤l8 s*(E.getD c []).getD i 0∧l8 s*(E.getD c []).getD i 0≤1:=by
     rcases (show s=0∨s=1 by omega) with e|e
     ·subst e;rw [show l8 0=1 from rfl,nr];exact ⟨aH,aJ⟩
     ·subst e;rw [show l8 1= -1 from rfl];omega
    have co:=AZ (l8 s*(E.getD c []).getD i 0) J;refine bc ?_;refine ao (Iv I I J) ?_;skip
    refine aO I I I co ?_;generalize ((l8 s*(E.getD c []).getD i 0:Int):Rat)=z at*;unfold b9;repeat (refine ao (gd rfl rfl rfl rfl rfl hC J) ?_)
    refine eE (c':=aN (R.set i z)) I I I I I sn (by show (List.set _ i _).length=_;rw [dd];rfl) I (fun aG a7 aL bd=>jl 0 3 bW R i z sn aG a7 aL bd) (bo ?_);exact b4 ⟨i+1,J,J,aE,by rw [Ek,←c9];rfl⟩
   have df:i=n:=J;subst df;rw [ahJ];have wo:(Aj E i k (2*c+s)).length=i+2*k:=by unfold Aj;rw [cr,gn]
   generalize Aj E i k (2*c+s)=l at*;have h0: ∀a7,a7<1→(fN 1 1 [.ro (aN l) 0 (i+2*k)]).at 0 a7=(gF l).getD a7 .any:=fun a7 bd=>by rw [←wo];exact Iz l a7 bd
   have Ep:qk (2*c+s)=if c=0 then l8 s else 0:=by unfold qk;rw [zZ,SJ]
   refine eD ?_;refine dh ?_;refine c5 I ?_;refine eD ?_;refine dh ?_;apply kQ (H:=pR (j+(2*c+s)) (j+(2*c+s)) A B [some ⟨118,aN l⟩]) [(0,.ro (cW M) 0 i),(1,.ro (gb E) 0 gD),(2,.ro (gb F) 0 k),(6,.ptr 0 0 0),(7,ag i),(8,ag k),(9,.ptr 1 0 0),(103,.ro (gb E) 0 gD),(104,ag gD),(105,ag c),(14,ag c),(15,.ro (.ints .i64 (E.getD c [])) 0 i),(110,.agg [.int .i64 1,.int .i64 (-1)]),(111,ag s),(17,.int .i64 (l8 s)),(18,.aC 4 0 (i+2*k)),(21,.int .i64 (qk (2*c+s)))]
   ·intro fin;refine dh ?_;refine c5 I ?_;repeat (first|refine ao (bE rfl) ?_|refine cR ?_|refine b0 ?_|refine ao (pk rfl rfl) ?_)
    refine bm I (fun dz=> ?_) (fun dz=> ?_)
    ·rw [aA J] at Ep;rw [Ep] at fin;refine c5 I ?_;refine eD ?_;exact fin _ aE
    ·rw [ax J] at Ep;rw [Ep] at fin;refine eD ?_;exact fin _ aE
   clear Ep RI;have n9: -1≤qk (2*c+s)∧qk (2*c+s)≤1:=by unfold qk;rw [zZ];split<;>omega
   have uD:=AZ (qk (2*c+s)) J;generalize MR:((qk (2*c+s):Int):Rat)=KV at*;generalize SK:2*c+s=r at*;refine kv 4 18 (i+2*k) [(0,.ro (cW M) 0 i),(1,.ro (gb E) 0 gD),(2,.ro (gb F) 0 k),(6,.ptr 0 0 0),(7,ag i),(8,ag k),(9,.ptr 1 0 0),(103,.ro (gb E) 0 gD),(104,ag gD),(105,ag c),(14,ag c),(15,.ro (.ints .i64 (E.getD c [])) 0 i),(110,.agg [.int .i64 1,.int .i64 (-1)]),(111,ag s),(17,.int .i64 (l8 s)),(21,.int .i64 (qk r))] I (mx _) I (by show _≤l.length;omega) aE ?_;refine fm (pR (j+r) (j+r) A B []) [none] [(0,.ro (cW M) 0 i),(1,.ro (gb E) 0 gD),(2,.ro (gb F) 0 k),(6,.ptr 0 0 0),(7,ag i),(8,ag k),(9,.ptr 1 0 0),(103,.ro (gb E) 0 gD),(104,ag gD),(105,ag c),(14,ag c),(15,.ro (.ints .i64 (E.getD c [])) 0 i),(110,.agg [.int .i64 1,.int .i64 (-1)]),(111,ag s),(17,.int .i64 (l8 s)),(21,.int .i64 (qk r)),(18,.ro (aN l) 0 (i+2*k))] I aE hp (XS _ _ _ _) I ?_;skip
   refine eg af ?_;refine bH 0 I af af af I (de I I I I I I) I ?_;refine bH 2 I af af af I (bE I) I ?_;refine bH 5 I af af af I (de I I I I I I) I ?_;refine bH 7 I af af af I (bE I) I ?_;apply tN (H:=[some ⟨155,.box [.nil,.nil,.nil]⟩,some ⟨155,.box [.any,.aC 3 0 (j+r),.nil]⟩,some ⟨110,cW (A++[l])⟩,some ⟨118,aN B⟩]) [(0,.ro (cW M) 0 i),(1,.ro (gb E) 0 gD),(2,.ro (gb F) 0 k),(6,.ptr 0 0 0),(7,ag i),(8,ag k),(9,.ptr 1 0 0),(103,.ro (gb E) 0 gD),(104,ag gD),(105,ag c),(14,ag c),(15,.ro (.ints .i64 (E.getD c [])) 0 i),(110,.agg [.int .i64 1,.int .i64 (-1)]),(111,ag s),(17,.int .i64 (l8 s)),(21,.int .i64 (qk r)),(141,.aC 2 0 ((j+r)+1)),(143,.aC 3 0 ((j+r))),(146,.ro (fN 1 3 (bW (KV))) 0 1),(148,.ptr 1 0 0)]
   ·intro fin;refine tJ (is:=[1,3,6]) af bX I ⟨fun o ah=> ?_,fun o ah=> ?_,fun o ah=> ?_,trivial⟩;all_goals (cases ah)
    ·refine bh ?_;refine dQ 3 6 ?_ ?_
     ·refine bq ?_;refine dQ 4 6 ?_ ?_
      ·refine dy I I I I I I I I I iL I I dT I (by show ((j+r)+1)*24≤_∧(j+r)+1≤_;omega) ?_ c3 ?_
       ·intro aG a7 aL bd;exact hF [] 1 gF om A l _ h0 2 aG a7 aL bd
       refine fj [some ⟨155,.box [.nil,.nil,.nil]⟩,some ⟨155,.box [.any,.aC 3 0 (j+r),.nil]⟩,some ⟨110,cW (A++[l])⟩,some ⟨118,aN B⟩] (aM.eqv (cu.refl _) (aM.eqv (cu.refl _) (aM.eqv (ha [] 1 gF A l _ h0) (aM.eqv (o9 _ _) aM.nil)))) (bn ?_);refine dQ 6 8 ?_ ?_
       ·refine bh ?_;refine bH 11 I af af af I (de I I I I I I) I ?_;refine br 8 ?_;refine aO I I I uD ?_;unfold b9;refine bn ?_;refine br 9 ?_;refine bq ?_;exact fin _ aE
       ·refine aO I I I uD ?_;unfold b9;refine bn ?_;refine dQ 6 9 ?_ ?_
        ·refine bh ?_;refine bH 11 I af af af I (de I I I I I I) I ?_;refine br 9 ?_;refine bq ?_;exact fin _ aE
        ·refine bq ?_;refine br 6 ?_;refine bh ?_;refine bH 11 I af af af I (de I I I I I I) I ?_;exact fin _ aE
      ·refine bh ?_;refine br 4 ?_;refine dy I I I I I I I I I iL I I dT I (by show ((j+r)+1)*24≤_∧(j+r)+1≤_;omega) ?_ c3 ?_
       ·intro aG a7 aL bd;exact hF [] 1 gF om A l _ h0 2 aG a7 aL bd
       refine fj [some ⟨155,.box [.nil,.nil,.nil]⟩,some ⟨155,.box [.any,.aC 3 0 (j+r),.nil]⟩,some ⟨110,cW (A++[l])⟩,some ⟨118,aN B⟩] (aM.eqv (cu.refl _) (aM.eqv (cu.refl _) (aM.eqv (ha [] 1 gF A l _ h0) (aM.eqv (o9 _ _) aM.nil)))) (bn ?_);refine bH 11 I af af af I (de I I I I I I) I ?_;refine br 8 ?_;refine aO I I I uD ?_;unfold b9;refine bn ?_;refine br 9 ?_;refine bq ?_;exact fin _ aE
     ·refine bh ?_;refine br 3 ?_;refine bq ?_;refine br 4 ?_;refine dy I I I I I I I I I iL I I dT I (by show ((j+r)+1)*24≤_∧(j+r)+1≤_;omega) ?_ c3 ?_
      ·intro aG a7 aL bd;exact hF [] 1 gF om A l _ h0 2 aG a7 aL bd
      refine fj [some ⟨155,.box [.nil,.nil,.nil]⟩,some ⟨155,.box [.any,.aC 3 0 (j+r),.nil]⟩,some ⟨110,cW (A++[l])⟩,some ⟨118,aN B⟩] (aM.eqv (cu.refl _) (aM.eqv (cu.refl _) (aM.eqv (ha [] 1 gF A l _ h0) (aM.eqv (o9 _ _) aM.nil)))) (bn ?_);refine bH 11 I af af af I (de I I I I I I) I ?_;refine br 8 ?_;refine aO I I I uD ?_;unfold b9;refine bn ?_;refine br 9 ?_;refine bq ?_;exact fin _ aE
    ·refine bq ?_;refine dQ 1 6 ?_ ?_
     ·refine bh ?_;refine dQ 4 6 ?_ ?_
      ·refine dy I I I I I I I I I iL I I dT I (by show ((j+r)+1)*24≤_∧(j+r)+1≤_;omega) ?_ c3 ?_
       ·intro aG a7 aL bd;exact hF [] 1 gF om A l _ h0 2 aG a7 aL bd
       refine fj [some ⟨155,.box [.nil,.nil,.nil]⟩,some ⟨155,.box [.any,.aC 3 0 (j+r),.nil]⟩,some ⟨110,cW (A++[l])⟩,some ⟨118,aN B⟩] (aM.eqv (cu.refl _) (aM.eqv (cu.refl _) (aM.eqv (ha [] 1 gF A l _ h0) (aM.eqv (o9 _ _) aM.nil)))) (bn ?_);refine dQ 6 8 ?_ ?_
       ·refine bh ?_;refine bH 11 I af af af I (de I I I I I I) I ?_;refine br 8 ?_;refine aO I I I uD ?_;unfold b9;refine bn ?_;refine br 9 ?_;refine bq ?_;exact fin _ aE
       ·refine aO I I I uD ?_;unfold b9;refine bn ?_;refine dQ 6 9 ?_ ?_
        ·refine bh ?_;refine bH 11 I af af af I (de I I I I I I) I ?_;refine br 9 ?_;refine bq ?_;exact fin _ aE
        ·refine bq ?_;refine br 6 ?_;refine bh ?_;refine bH 11 I af af af I (de I I I I I I) I ?_;exact fin _ aE
      ·refine bh ?_;refine br 4 ?_;refine dy I I I I I I I I I iL I I dT I (by show ((j+r)+1)*24≤_∧(j+r)+1≤_;omega) ?_ c3 ?_
       ·intro aG a7 aL bd;exact hF [] 1 gF om A l _ h0 2 aG a7 aL bd
       refine fj [some ⟨155,.box [.nil,.nil,.nil]⟩,some ⟨155,.box [.any,.aC 3 0 (j+r),.nil]⟩,some ⟨110,cW (A++[l])⟩,some ⟨118,aN B⟩] (aM.eqv (cu.refl _) (aM.eqv (cu.refl _) (aM.eqv (ha [] 1 gF A l _ h0) (aM.eqv (o9 _ _) aM.nil)))) (bn ?_);refine bH 11 I af af af I (de I I I I I I) I ?_;refine br 8 ?_;refine aO I I I uD ?_;unfold b9;refine bn ?_;refine br 9 ?_;refine bq ?_;exact fin _ aE
     ·refine bh ?_;refine br 1 ?_;refine bh ?_;refine br 4 ?_;refine dy I I I I I I I I I iL I I dT I (by show ((j+r)+1)*24≤_∧(j+r)+1≤_;omega) ?_ c3 ?_
      ·intro aG a7 aL bd;exact hF [] 1 gF om A l _ h0 2 aG a7 aL bd
      refine fj [some ⟨155,.box [.nil,.nil,.nil]⟩,some ⟨155,.box [.any,.aC 3 0 (j+r),.nil]⟩,some ⟨110,cW (A++[l])⟩,some ⟨118,aN B⟩] (aM.eqv (cu.refl _) (aM.eqv (cu.refl _) (aM.eqv (ha [] 1 gF A l _ h0) (aM.eqv (o9 _ _) aM.nil)))) (bn ?_);refine bH 11 I af af af I (de I I I I I I) I ?_;refine br 8 ?_;refine aO I I I uD ?_;unfold b9;refine bn ?_;refine br 9 ?_;refine bq ?_;exact fin _ aE
    ·refine bh ?_;refine dQ 1 3 ?_ ?_
     ·refine bh ?_;refine br 3 ?_;refine bq ?_;refine br 4 ?_;refine dy I I I I I I I I I iL I I dT I (by show ((j+r)+1)*24≤_∧(j+r)+1≤_;omega) ?_ c3 ?_
      ·intro aG a7 aL bd;exact hF [] 1 gF om A l _ h0 2 aG a7 aL bd
      refine fj [some ⟨155,.box [.nil,.nil,.nil]⟩,some ⟨155,.box [.any,.aC 3 0 (j+r),.nil]⟩,some ⟨110,cW (A++[l])⟩,some ⟨118,aN B⟩] (aM.eqv (cu.refl _) (aM.eqv (cu.refl _) (aM.eqv (ha [] 1 gF A l _ h0) (aM.eqv (o9 _ _) aM.nil)))) (bn ?_);refine bH 11 I af af af I (de I I I I I I) I ?_;refine br 8 ?_;refine aO I I I uD ?_;unfold b9;refine bn ?_;refine br 9 ?_;refine bq ?_;exact fin _ aE
     ·refine bq ?_;refine br 1 ?_;refine bh ?_;refine br 4 ?_;refine dy I I I I I I I I I iL I I dT I (by show ((j+r)+1)*24≤_∧(j+r)+1≤_;omega) ?_ c3 ?_
      ·intro aG a7 aL bd;exact hF [] 1 gF om A l _ h0 2 aG a7 aL bd
      refine fj [some ⟨155,.box [.nil,.nil,.nil]⟩,some ⟨155,.box [.any,.aC 3 0 (j+r),.nil]⟩,some ⟨110,cW (A++[l])⟩,some ⟨118,aN B⟩] (aM.eqv (cu.refl _) (aM.eqv (cu.refl _) (aM.eqv (ha [] 1 gF A l _ h0) (aM.eqv (o9 _ _) aM.nil)))) (bn ?_);refine bH 11 I af af af I (de I I I I I I) I ?_;refine br 8 ?_;refine aO I I I uD ?_;unfold b9;refine bn ?_;refine br 9 ?_;refine bq ?_;exact fin _ aE
   refine br 10 ?_;refine dy I I I I I I I I I BG I I dT I (by show ((j+r)+1)*56≤_∧(j+r)+1≤_;omega) ?_ c3 ?_
   ·intro aG a7 aL bd;exact hF 0 3 bW qL B (KV) _ (j8 _) 3 aG a7 aL bd
   refine fj [some ⟨155,.box [.nil,.nil,.nil]⟩,some ⟨155,.box [.any,.any,.nil]⟩,some ⟨110,cW (A++[l])⟩,some ⟨118,aN (B++[KV])⟩] (aM.eqv (cu.refl _) (aM.eqv (cu.refl _) (aM.eqv (X6 _ _) (aM.eqv (ha 0 3 bW B (KV) _ (j8 _)) aM.nil)))) (bn ?_);refine br 12 ?_;refine oi ?_;refine bH 13 I af af af I (de I I I I I I) I ?_;refine br 14 ?_;refine oi ?_;refine dX af (bo ?_);exact b4 ⟨s+1,J,J,aE,by rw [mQ,HY,uG,HZ,show j+(2*c+(s+1))=j+r+1 by omega];rfl⟩
  ·have afo:s=2:=J;subst afo;refine bo ?_;exact b4 ⟨c+1,J,J,aE,by rw [show 2*(c+1)=2*c+2 by omega]⟩
 have zJ:c=gD:=J;subst zJ;have iL:(lj M E F n j k (2*c)).length=j+2*c:=KP ..;have BG:(nD j (2*c)).length=j+2*c:=Qp ..;have Lr:((List.replicate (n+2*k) (0:Rat)).set n 1).set (n+k) (-1)=wK n k:=rfl;generalize lj M E F n j k (2*c)=A at*;generalize nD j (2*c)=B at*;refine bo ?_;refine ao (Iv I I J) ?_;repeat (refine ao (hK rfl rfl J) ?_)
 refine bP 155 (.int .i64 ((n+2*k:Nat))) I (aR.of_eq (by congr 1)) ?_;refine me I I I MK ?_;generalize List.replicate (n+2*k) (0:Rat)=R at*;have tn:bs Tryz.prog 113 [.int .i64 (-1)] (b9 (-1)):=AZ (-1) aT;have hZ:n<(aN R).len:=by show n<R.length;omega
 have Ef:n+k<(aN (R.set n 1)).len:=by show n+k<(List.set _ _ _).length;rw [dd];omega
 refine fb ?_;refine eg af ?_;apply tN (H:=[some ⟨155,.box [.nil,.nil,.nil]⟩,some ⟨155,.box [.aC 2 0 (j+2*c),.aC 3 0 (j+2*c),.aC 4 0 (n+2*k)]⟩,some ⟨110,cW A⟩,some ⟨118,aN B⟩,some ⟨118,aN (R.set n 1)⟩]) [(0,.ro (cW M) 0 n),(1,.ro (gb E) 0 c),(2,.ro (gb F) 0 k),(6,.ptr 0 0 0),(7,ag n),(8,ag k),(9,.ptr 1 0 0),(162,.aC 4 0 (n+2*k)),(165,ag (n+k)),(167,b9 (-1))]
 ·intro fin;refine bH 0 I af af af I (de I I I I I I) I ?_;refine bH 2 I af af af I (bE I) I ?_;refine bH 3 I af af af I (de I I I I I I) I ?_;refine bH 5 I af af af I (bE I) I ?_;refine bH 6 I af af af I (bE I) I ?_;refine bH 7 I af af af I (hK I I J) I ?_;refine tJ (is:=[1,4,8]) af bX I ⟨fun o ah=> ?_,fun o ah=> ?_,fun o ah=> ?_,trivial⟩;all_goals (cases ah)
  ·refine bh ?_;refine dQ 4 8 ?_ ?_
   ·refine bh ?_;refine br 8 ?_;refine aO I I I tZ (bn ?_);refine br 9 ?_;refine aO I I I tn ?_;unfold b9;refine bn ?_;refine bH 10 I af af af I (gd I I I I I (by first|(simp only [cT,cg,fE];exact I)|exact I) J) I ?_;refine br 11 ?_;refine eE (c':=aN (R.set n 1)) I I I I I hZ og I (fun aG a7 aL bd=>jl 0 3 bW R n 1 hZ aG a7 aL bd) (bn ?_);exact fin _ aE
   ·refine aO I I I tZ (bn ?_);refine dQ 4 9 ?_ ?_
    ·refine bh ?_;refine br 9 ?_;refine aO I I I tn ?_;unfold b9;refine bn ?_;refine bH 10 I af af af I (gd I I I I I (by first|(simp only [cT,cg,fE];exact I)|exact I) J) I ?_;refine br 11 ?_;refine eE (c':=aN (R.set n 1)) I I I I I hZ og I (fun aG a7 aL bd=>jl 0 3 bW R n 1 hZ aG a7 aL bd) (bn ?_);exact fin _ aE
    ·refine aO I I I tn ?_;unfold b9;refine bn ?_;refine bH 10 I af af af I (gd I I I I I (by first|(simp only [cT,cg,fE];exact I)|exact I) J) I ?_;refine dQ 4 11 ?_ ?_
     ·refine bh ?_;refine br 11 ?_;refine eE (c':=aN (R.set n 1)) I I I I I hZ og I (fun aG a7 aL bd=>jl 0 3 bW R n 1 hZ aG a7 aL bd) (bn ?_);exact fin _ aE
     ·refine eE (c':=aN (R.set n 1)) I I I I I hZ og I (fun aG a7 aL bd=>jl 0 3 bW R n 1 hZ aG a7 aL bd) (bn ?_);refine br 4 ?_;refine bh ?_;exact fin _ aE
  ·refine bh ?_;refine dQ 1 8 ?_ ?_
   ·refine bh ?_;refine br 8 ?_;refine aO I I I tZ (bn ?_);refine br 9 ?_;refine aO I I I tn ?_;unfold b9;refine bn ?_;refine bH 10 I af af af I (gd I I I I I (by first|(simp only [cT,cg,fE];exact I)|exact I) J) I ?_;refine br 11 ?_;refine eE (c':=aN (R.set n 1)) I I I I I hZ og I (fun aG a7 aL bd=>jl 0 3 bW R n 1 hZ aG a7 aL bd) (bn ?_);exact fin _ aE
   ·refine aO I I I tZ (bn ?_);refine dQ 1 9 ?_ ?_
    ·refine bh ?_;refine br 9 ?_;refine aO I I I tn ?_;unfold b9;refine bn ?_;refine bH 10 I af af af I (gd I I I I I (by first|(simp only [cT,cg,fE];exact I)|exact I) J) I ?_;refine br 11 ?_;refine eE (c':=aN (R.set n 1)) I I I I I hZ og I (fun aG a7 aL bd=>jl 0 3 bW R n 1 hZ aG a7 aL bd) (bn ?_);exact fin _ aE
    ·refine aO I I I tn ?_;unfold b9;refine bn ?_;refine br 1 ?_;refine bh ?_;refine bH 10 I af af af I (gd I I I I I (by first|(simp only [cT,cg,fE];exact I)|exact I) J) I ?_;refine br 11 ?_;refine eE (c':=aN (R.set n 1)) I I I I I hZ og I (fun aG a7 aL bd=>jl 0 3 bW R n 1 hZ aG a7 aL bd) (bn ?_);exact fin _ aE
  ·refine aO I I I tZ (bn ?_);refine tJ (is:=[1,4,9]) af bX I ⟨fun o ah=> ?_,fun o ah=> ?_,fun o ah=> ?_,trivial⟩;all_goals (cases ah)
   ·refine bh ?_;refine dQ 4 9 ?_ ?_
    ·refine bh ?_;refine br 9 ?_;refine aO I I I tn ?_;unfold b9;refine bn ?_;refine bH 10 I af af af I (gd I I I I I (by first|(simp only [cT,cg,fE];exact I)|exact I) J) I ?_;refine br 11 ?_;refine eE (c':=aN (R.set n 1)) I I I I I hZ og I (fun aG a7 aL bd=>jl 0 3 bW R n 1 hZ aG a7 aL bd) (bn ?_);exact fin _ aE
    ·refine aO I I I tn ?_;unfold b9;refine bn ?_;refine bH 10 I af af af I (gd I I I I I (by first|(simp only [cT,cg,fE];exact I)|exact I) J) I ?_;refine dQ 4 11 ?_ ?_
     ·refine bh ?_;refine br 11 ?_;refine eE (c':=aN (R.set n 1)) I I I I I hZ og I (fun aG a7 aL bd=>jl 0 3 bW R n 1 hZ aG a7 aL bd) (bn ?_);exact fin _ aE
     ·refine eE (c':=aN (R.set n 1)) I I I I I hZ og I (fun aG a7 aL bd=>jl 0 3 bW R n 1 hZ aG a7 aL bd) (bn ?_);refine br 4 ?_;refine bh ?_;exact fin _ aE
   ·refine bh ?_;refine dQ 1 9 ?_ ?_
    ·refine bh ?_;refine br 9 ?_;refine aO I I I tn ?_;unfold b9;refine bn ?_;refine bH 10 I af af af I (gd I I I I I (by first|(simp only [cT,cg,fE];exact I)|exact I) J) I ?_;refine br 11 ?_;refine eE (c':=aN (R.set n 1)) I I I I I hZ og I (fun aG a7 aL bd=>jl 0 3 bW R n 1 hZ aG a7 aL bd) (bn ?_);exact fin _ aE
    ·refine aO I I I tn ?_;unfold b9;refine bn ?_;refine br 1 ?_;refine bh ?_;refine bH 10 I af af af I (gd I I I I I (by first|(simp only [cT,cg,fE];exact I)|exact I) J) I ?_;refine br 11 ?_;refine eE (c':=aN (R.set n 1)) I I I I I hZ og I (fun aG a7 aL bd=>jl 0 3 bW R n 1 hZ aG a7 aL bd) (bn ?_);exact fin _ aE
   ·refine aO I I I tn ?_;unfold b9;refine bn ?_;refine dQ 1 4 ?_ ?_
    ·refine bh ?_;refine bH 10 I af af af I (gd I I I I I (by first|(simp only [cT,cg,fE];exact I)|exact I) J) I ?_;refine dQ 4 11 ?_ ?_
     ·refine bh ?_;refine br 11 ?_;refine eE (c':=aN (R.set n 1)) I I I I I hZ og I (fun aG a7 aL bd=>jl 0 3 bW R n 1 hZ aG a7 aL bd) (bn ?_);exact fin _ aE
     ·refine eE (c':=aN (R.set n 1)) I I I I I hZ og I (fun aG a7 aL bd=>jl 0 3 bW R n 1 hZ aG a7 aL bd) (bn ?_);refine br 4 ?_;refine bh ?_;exact fin _ aE
    ·refine bh ?_;refine br 1 ?_;refine bh ?_;refine bH 10 I af af af I (gd I I I I I (by first|(simp only [cT,cg,fE];exact I)|exact I) J) I ?_;refine br 11 ?_;refine eE (c':=aN (R.set n 1)) I I I I I hZ og I (fun aG a7 aL bd=>jl 0 3 bW R n 1 hZ aG a7 aL bd) (bn ?_);exact fin _ aE
 refine bH 12 I af af af I (gd I I I I I (by first|(simp only [cT,cg,fE];exact I)|exact I) J) I ?_;refine br 13 ?_;unfold b9;refine eE (c':=aN (wK n k)) I I I I I Ef (by rw [←Lr];show (List.set _ _ _).length=_;rw [dd];rfl) I (fun aG a7 aL bd=>by rw [←Lr];exact jl 0 3 bW (R.set n 1) (n+k) (-1) Ef aG a7 aL bd) (bn ?_);refine dX af ?_;have acE:(wK n k).length=n+2*k:=by rw [←Lr,dd,dd];exact MJ
 generalize wK n k=C at*;refine hx ?_;refine Jo [none,none,some ⟨110,cW A⟩,some ⟨118,aN B⟩,some ⟨118,aN C⟩] [some ⟨155,.box [.nil,.nil,.nil]⟩,some ⟨155,.box [.ro (cW A) 0 (j+2*c),.ro (aN B) 0 (j+2*c),.ro (aN C) 0 (n+2*k)]⟩,none,none,none] [(6,.ptr 0 0 0),(9,.ptr 1 0 0)] ?_ ?_ I ?_ ⟨⟨_,I,.inl I⟩,⟨_,I,.inl I⟩,trivial⟩ ?_
 ·intro h o ah
  match h,ah with
  |0,ah=>simp at ah
  |1,ah=>simp at ah
  |2,ah=>exact ah
  |3,ah=>exact ah
  |4,ah=>exact ah
  |_+5,ah=>simp at ah
 ·intro h o ah
  match h,ah with
  |0,ah=>simp at ah
  |1,ah=>simp at ah
  |2,ah=>cases ah;exact UC _
  |3,ah=>cases ah;exact mx _
  |4,ah=>cases ah;exact mx _
  |_+5,ah=>simp at ah
 ·intro h o ah
  match h,ah with
  |0,ah=>cases ah;exact ⟨fun o h=>by simp at h,_,rfl,rfl,rfl,rfl,fun i j _ _=> .inl rfl⟩
  |1,ah=>
   cases ah;refine ⟨fun o h=>by simp at h,_,I,I,I,I,fun i S9 _ ae=> ?_⟩;have ae:S9<3:=ae
   match S9,ae with
   |0,_=>exact .inr (.inr ⟨rfl,fun o ah=>by cases ah;show 0+(j+2*c)≤A.length;omega⟩)
   |1,_=>exact .inr (.inr ⟨rfl,fun o ah=>by cases ah;show 0+(j+2*c)≤B.length;omega⟩)
   |2,_=>exact .inr (.inr ⟨rfl,fun o ah=>by cases ah;show 0+(n+2*k)≤C.length;omega⟩)
  |2,ah=>simp at ah
  |3,ah=>simp at ah
  |4,ah=>simp at ah
  |_+5,ah=>simp at ah
 refine bc ?_;refine dA (c':= .box [.ro (cW A) 0 (j+2*c),.ro (aN B) 0 (j+2*c),.ro (aN C) 0 (n+2*k)]) I I I I I I I (bF ?_);exact aX aq I I
end Go.Proofs.YtmpnheilfejcpaaGreatDoor
