import Derived.Test.YtmpnheilfejcpaaGreatDoorP7
set_option linter.unusedVariables false
set_option linter.unusedSimpArgs false
set_option maxRecDepth 100000
set_option maxHeartbeats 4000000
namespace Go.Proofs.YtmpnheilfejcpaaGreatDoor
open Go.aj Go.aj.dh Go.aj.cQ Go.RowKit Go.aj.dR Go.aj.cL
attribute [local irreducible] aj eD bZ cm gK
theorem IX (β:List Nat)(i:Nat):(β.map (fun a:Nat=>(a:Int))).getD i 0=((β.getD i 0:Nat):Int):=by simp only [List.getD,lB];cases β[i]? <;>rfl
theorem Ys (x:Int):(lG x≤0)=(x≤0):=by
 apply propext;unfold lG;constructor
 ·intro h;split at h
  ·omega
  ·split at h
   ·omega
   ·exact absurd h aT
 ·intro h;by_cases U:x<0
  ·rw [aB U];decide
  ·rw [aw U,aB J];decide
theorem akc {x:Int}(h:x<0):lG x= -1:=by unfold lG;rw [aB h]
theorem ake {x:Int}(h:x=0):lG x=0:=by subst h;rfl
theorem akd {x:Int}(h:0<x):lG x=1:=by unfold lG;rw [aw J,aw J]
theorem ahl (G:aY)(dL:s4 G)(N w n:Nat)(X:cu)(d:Int)(β:List Nat)(bb:Nat)(E:Nat)(aG:X.length=n)(uS:0<n)(afw:n≤1000000)(cB: ∀x∈X,x.length=N+1)(Ly:N+1≤1000000)(wU:β.length≤n)(av:bb<N+1)(jd: ∀i j,i<n→j<N+1→(ax X i j).natAbs≤10^E)(dx:E≤3600000):
 cm Tryz.prog 213 [.ptr G.length 0 0,ah bb] (bs G none (N+1) w n X d β []) (fun h=>h<(bs G none (N+1) w n X d β []).length)
  (fun dF bK=>dF= .int .i64 (E5 (jM X β bb N β.length))∧bK=bs G none (N+1) w n X d β []):=by
 refine hx (P:=Tryz.prog) (fn:=Tryz.f213) I I ag I (fun c ar bJ=> ?_);have hlen:(bs G none (N+1) w n X d β []).length=G.length+4+n:=by rw [iH,aG];rfl
 rw [hlen] at bJ;have f1:=ik (G:=G) (F:=none) (L:=N+1) (w:=w) (k:=n) (X:=X) (d:=d) (β:=β) (T:=[]);have f2:=nU (G:=G) (F:=none) (L:=N+1) (w:=w) (k:=n) (X:=X) (d:=d) (β:=β) (T:=[]);have g1:0<(fj G.length X.length (N+1)).len:=by show 0<X.length;omega
 refine bE ?_;refine ee ag ?_;refine eM (fuel:=0) [0,1,2,3,4,5,6,7,8,9] [(0,.ptr G.length 0 0),(1,ah bb)] aH ag aT I I ?_;refine cI ?_;refine eI ?_;refine dX ag ?_;repeat (refine b6 ?_)
 refine ea 6 (ah N) I (aU.of_eq (by show ao.int .i64 (((N+1:Nat):Int)-1)=_;rw [show ((N+1:Nat):Int)-1=(N:Nat) by omega])) ?_;have f3:=vC (G:=G) (F:=none) (L:=N+1) (w:=w) (k:=n) (X:=X) (d:=d) (β:=β) (T:=[]);refine cX ?_;refine cF (ι:=Nat) (fun i=>[(0,.ptr G.length 0 0),(1,ah bb),(5,.int .i64 (E5 (jM X β bb N i))),(6,ah N),(22,ah β.length),(23,ah i)]) (fun i=>bs G none (N+1) w n X d β []) (fun i=>i≤β.length) (fun i=>β.length-i) 0 ⟨aH,I,cj _⟩ ?_;clear f3;intro i aa;refine bh ?_;refine bw I (fun h=> ?_) (fun h=> ?_)
 ·have aQ:i<β.length:=J;have ei:i<n:=J;have E1:(X.getD i []).length=N+1:=cB _ (dv [] J);have f3:=nr (G:=G) (F:=none) (L:=N+1) (w:=w) (k:=n) (X:=X) (d:=d) (β:=β) (T:=[]) (a:=i) J;have g3:i<(fj G.length X.length (N+1)).len:=by show i<X.length;omega
  have g4:bb<(aV (X.getD i [])).len:=by show bb<(X.getD i []).length;omega
  refine cX ?_;refine dA (bs G none (N+1) w n X d β [some ⟨116,.box [.bool false,.nil]⟩]) (by rw [gk];rfl) ?_;refine bR 8 (.ptr (G.length+4+n) 0 0) I (aU.of_eq (by rw [hlen])) ?_;refine bR 35 (ej (ax X i bb)) I (aU.of_eq I) ?_;have eU:=gl (G:=G) (F:=none) (L:=N+1) (w:=w) (k:=n) (X:=X) (d:=d) (β:=β) (T:=[some ⟨116,.box [.bool false,.nil]⟩]) 0;rw [aG] at eU;refine eN (c':= .box (cO (ax X i bb))) I I I eU I fx I I (fun aK ba aQ bd=> ?_) ?_
  ·rw [aB (ft.1 aQ)];rfl
  refine dA (bs G none (N+1) w n X d β [some ⟨116,.box (cO (ax X i bb))⟩]) (by have q:=j2 (G:=G) (F:=none) (L:=N+1) (w:=w) (k:=n) (X:=X) (d:=d) (β:=β) (T:=[some ⟨116,.box [.bool false,.nil]⟩]) 0 (some ⟨116,.box (cO (ax X i bb))⟩);rw [aG] at q;exact q) ?_;clear f1 f2 f3 eU;apply kP (H:=bs G none (N+1) w n X d β [some ⟨116,.box (cO (ax X i bb))⟩]) [(0,.ptr G.length 0 0),(1,ah bb),(5,.int .i64 (E5 (jM X β bb N (i+1)))),(6,ah N),(22,ah β.length),(23,ah i)]
  ·intro fin;have f1:=ik (G:=G) (F:=none) (L:=N+1) (w:=w) (k:=n) (X:=X) (d:=d) (β:=β) (T:=[some ⟨116,.box (cO (ax X i bb))⟩]);have f2:=nU (G:=G) (F:=none) (L:=N+1) (w:=w) (k:=n) (X:=X) (d:=d) (β:=β) (T:=[some ⟨116,.box (cO (ax X i bb))⟩]);have eU:=gl (G:=G) (F:=none) (L:=N+1) (w:=w) (k:=n) (X:=X) (d:=d) (β:=β) (T:=[some ⟨116,.box (cO (ax X i bb))⟩]) 0;rw [aG,fg] at eU;have cs:=yM (ax X i bb);refine cX ?_;refine bR 36 (ej (ax X i bb)) I (aU.of_eq I) ?_;refine aL I I I cs (fe ?_);refine bw I (fun U=> ?_) (fun U=> ?_)
   ·rw [Ys] at U;rw [anT U] at fin;refine eL ?_;exact fin _ aH
   ·rw [Ys] at U;refine bh ?_;refine bw I (fun ab=> ?_) (fun ab=> ?_)
    ·rw [XA] at ab;rw [amL U ab] at fin;skip
     refine du ?_;refine dc I ?_;refine eL ?_;exact fin _ aH
    ·cases au:jM X β bb N i with
     |none=>rw [au] at ab;exact absurd (show (-1:Int)<0 by decide) ab
     |some b=>
      have ak:=(Jj X β bb N i b au).lt;have Sd:b<n:=J;have l5:=anS (T:=X) (β:=β) (c:=bb) (e:=N) U au;rw [l5] at fin;have M4:(X.getD b []).length=N+1:=cB _ (dv [] J);have f3:=nr (G:=G) (F:=none) (L:=N+1) (w:=w) (k:=n) (X:=X) (d:=d) (β:=β) (T:=[some ⟨116,.box (cO (ax X i bb))⟩]) (a:=i) J;have f4:=nr (G:=G) (F:=none) (L:=N+1) (w:=w) (k:=n) (X:=X) (d:=d) (β:=β) (T:=[some ⟨116,.box (cO (ax X i bb))⟩]) (a:=b) J;have g3:i<(fj G.length X.length (N+1)).len:=by show i<X.length;omega
      have g4:b<(fj G.length X.length (N+1)).len:=by show b<X.length;omega
      have g5:bb<(aV (X.getD b [])).len:=by show bb<(X.getD b []).length;omega
      have g6:N<(aV (X.getD b [])).len:=by show N<(X.getD b []).length;omega
      have g7:N<(aV (X.getD i [])).len:=by show N<(X.getD i []).length;omega
      have bi:=jd i bb ei av;have QY:=jd b bb Sd av;have D4:=jd i N ei (gC N);have kK:=jd b N Sd (gC N);have cy: ∀x:Int,x.natAbs≤10^E→(a7 x.natAbs).length≤400001:=fun x al=>yX al J;obtain ⟨s1,s2,vb⟩:=VM D4 QY bi kK dx;rw [mu (ax X i bb) (ax X b N)] at s2;have m1:=p7 (ax X i N) (ax X b bb) (by have:=cy _ D4;omega) (by have:=cy _ QY;omega);have m2:=p7 (ax X b N) (ax X i bb) (by have:=cy _ kK;omega) (by have:=cy _ bi;omega);have m3:=YF (ax X i N*ax X b bb) (ax X b N*ax X i bb) s1 s2;refine yp ?_;refine ea 5 (ah b) I (aU.of_eq I) ?_;refine ee ag ?_;refine eM (fuel:=0) [0,1,2,3,4,5,6,7,8,9,10,11,12,13,14,15,16,17,18,19,20,21,22,23,24,25,26,27,28,29,30,31,32,33,34] [(0,.ptr G.length 0 0),(1,ah bb),(5,ah b),(6,ah N),(7,ah i),(8,.ptr (G.length+4+n) 0 0),(22,ah β.length),(23,ah i)] aH ag aT I I ?_;refine cI ?_;refine dW I I I I I m1 ?_;refine cI ?_;refine dW I I I I I m2 ?_;refine dW I I I I I m3 ?_;refine cI ?_;refine eI ?_;refine dX ag ?_;repeat (refine b6 ?_)
      have f5:=vC (G:=G) (F:=none) (L:=N+1) (w:=w) (k:=n) (X:=X) (d:=d) (β:=β) (T:=[some ⟨116,.box (cO (ax X i bb))⟩]);have g8:i<(β.map (fun a:Nat=>(a:Int))).length:=by rw [cW];exact aQ
      have g9:b<(β.map (fun a:Nat=>(a:Int))).length:=by rw [cW];omega
      clear f2 f3 f4 m1 m2 m3;rcases zn (ax X i N*ax X b bb-ax X b N*ax X i bb) 0 with fK|fK|fK
      ·rw [aB (.inl J)] at fin;refine ea 9 (.int .i64 (-1)) I (aU.of_eq (by rw [akc fK])) ?_;repeat (refine du ?_)
       refine ee ag ?_;refine eM (fuel:=0) [0,1,2,3,4,5,6,7,8,9,10,11,12,13,14,15,16,17,18,19,20,21,22] [(0,.ptr G.length 0 0),(1,ah bb),(5,ah b),(6,ah N),(7,ah i),(8,.ptr (G.length+4+n) 0 0),(22,ah β.length),(23,ah i),(9,.int .i64 (-1))] aH ag aT I I ?_;refine cI ?_;refine jN I I I I I ?_;refine jN I I I I I ?_;refine jN I I I I I ?_;refine p8 I I I I ?_;refine p8 I I I I ?_;refine p8 I I I I ?_;refine p8 I I I I ?_;refine p8 I I I I ?_;refine p8 I I I I ?_;refine p8 I I I I ?_;refine p8 I I I I ?_;refine p8 I I I I ?_;refine p8 I I I I ?_;refine p8 I I I I ?_;refine p8 I I I I ?_;refine p8 I I I I ?_;refine p8 I I I I ?_;refine p8 I I I I ?_;refine jN I I I I I ?_;refine cI ?_;refine eI ?_;refine dX ag ?_;repeat (first|refine b6 ?_|refine rM rfl ?_)
       refine dc I ?_;refine eL ?_;exact fin _ aH
      ·refine ea 9 (.int .i64 0) I (aU.of_eq (by rw [ake fK])) ?_;repeat (refine du ?_)
       refine ee ag ?_;refine eM (fuel:=0) [0,1,2,3,4,5,6,7,8,9,10,11,12,13,14,15,16,17,18,19,20,21,22] [(0,.ptr G.length 0 0),(1,ah bb),(5,ah b),(6,ah N),(7,ah i),(8,.ptr (G.length+4+n) 0 0),(22,ah β.length),(23,ah i),(9,.int .i64 (0))] aH ag aT I I ?_;refine cI ?_;refine gp I I I I (bD I) ?_;refine gp I I I I (nV I I) ?_;refine gp I I I I (bD I) ?_;refine gp I I I I (bD I) ?_;refine gp I I I I (kA I) ?_;refine gp I I I I (ds I I I I I I) ?_;refine gp I I I I (pc I I I h2 ll) ?_;refine gp I I I I (bD I) ?_;refine gp I I I I (mE I I I) ?_;refine gp I I I I (N0 I I I h2 nM) ?_;refine gp I I I I (bD I) ?_;refine gp I I I I (kA I) ?_;refine gp I I I I (ds I I I I I I) ?_;refine gp I I I I (pc I I I h2 ll) ?_;refine gp I I I I (bD I) ?_;refine gp I I I I (mE I I I) ?_;refine gp I I I I (N0 I I I h2 nM) ?_;refine gp I I I I (rY I I) ?_;refine gp I I I I (mH I I) ?_;refine cI ?_;refine eI ?_;refine dX ag ?_;repeat (refine b6 ?_)
       refine bw I (fun ay=> ?_) (fun ay=> ?_)
       ·rw [IX,IX] at ay;rw [aB (.inr ⟨J,J⟩)] at fin;skip
        refine dc I ?_;refine eL ?_;exact fin _ aH
       ·rw [IX,IX] at ay;rw [aw (by unfold AV;omega)] at fin;refine eL ?_;exact fin _ aH
      ·rw [aw (by unfold AV;omega)] at fin;refine ea 9 (.int .i64 1) I (aU.of_eq (by rw [akd fK])) ?_;repeat (refine du ?_)
       refine ee ag ?_;refine eM (fuel:=0) [0,1,2,3,4,5,6,7,8,9,10,11,12,13,14,15,16,17,18,19,20,21,22] [(0,.ptr G.length 0 0),(1,ah bb),(5,ah b),(6,ah N),(7,ah i),(8,.ptr (G.length+4+n) 0 0),(22,ah β.length),(23,ah i),(9,.int .i64 (1))] aH ag aT I I ?_;refine cI ?_;refine gp I I I I (bD I) ?_;refine gp I I I I (nV I I) ?_;refine gp I I I I (bD I) ?_;refine jN I I I I I ?_;refine jN I I I I I ?_;refine jN I I I I I ?_;refine jN I I I I I ?_;refine jN I I I I I ?_;refine jN I I I I I ?_;refine jN I I I I I ?_;refine jN I I I I I ?_;refine jN I I I I I ?_;refine jN I I I I I ?_;refine jN I I I I I ?_;refine jN I I I I I ?_;refine jN I I I I I ?_;refine jN I I I I I ?_;refine jN I I I I I ?_;refine gp I I I I (mH I I) ?_;refine cI ?_;refine eI ?_;refine dX ag ?_;refine eL ?_;exact fin _ aH
  ·refine fB (bs G none (N+1) w n X d β []) [some ⟨116,.box (cO (ax X i bb))⟩] [(0,.ptr G.length 0 0),(1,ah bb),(5,.int .i64 (E5 (jM X β bb N (i+1)))),(6,ah N),(22,ah β.length),(23,ah i)] (by rw [gk];rfl) aH (fun h aX=>by rw [bJ] at aX;rw [hlen];exact aX)
    (by rw [hlen];exact rQ dL _ J (fun o ai=>by cases ai) (fun o ai=>by cases ai)) (by rw [hlen];simp [kr,gV];omega) ?_
   refine bt ?_;exact cc ⟨i+1,J,J,aH,I⟩
 ·have dn:i=β.length:=J;subst dn;refine bl ?_;exact aZ ar I ⟨I,I⟩
theorem Yr (x:Int):(0≤lG x)=(¬x<0):=by
 apply propext;unfold lG;constructor
 ·intro h;split at h
  ·exact absurd h aT
  ·assumption
 ·intro h;rw [aw h];split<;>decide
abbrev nO (G:aY)(N w n:Nat)(t:cl):aY:=bs G none (N+1) w n t.rows t.den t.basis []
theorem Ub (G:aY)(dL:s4 G)(m N w:Nat)(M:cu)(s:cl)(aa:Inv m N M s)(aR:jn m N s)(hw:w≤N)(K:Nat)(dE:iX m N w (e4 m N w s K)=none)(E:Nat)(hm:m+1≤1000000)(jc:N+1≤1000000)(cf: ∀t,Inv m N M t→(∀i j,i<m+1→j<N+1→(ax t.rows i j).natAbs≤10^E)∧t.den.natAbs≤10^E)(dx:E≤3600000):
 cm Tryz.prog 177 [.ptr G.length 0 0] (nO G N w (m+1) s) (fun h=>h<(nO G N w (m+1) s).length)
  (fun dF bK=>dF= .int .i64 (Ch m w (e4 m N w s K))∧bK=nO G N w (m+1) (e4 m N w s K)):=by
 refine hx (P:=Tryz.prog) (fn:=Tryz.f177) I I ag I (fun c ar bJ=> ?_);have hlen: ∀t:cl,t.rows.length=m+1→(nO G N w (m+1) t).length=G.length+4+(m+1):=fun t bu=>by rw [iH,bu];rfl
 rw [hlen s aa.n] at bJ;refine bp ?_;refine cF (ι:=Nat) (fun k=>[(0,.ptr G.length 0 0)]) (fun k=>nO G N w (m+1) (e4 m N w s k)) (fun k=>k≤K) (fun k=>K-k) 0 ⟨⟨I,trivial⟩,I,cj _⟩ ?_;intro k an;obtain ⟨aQ,Sm⟩:=CN aa aR hw k;obtain ⟨Hj,uK⟩:=cf _ aQ;have l5:=fun ct=> @apf m N w s k ct;have Sk:= @agP m N w s k K;have afg:iX m N w (e4 m N w s k)≠none→k≠K:=fun h e=>h (by rw [e];exact dE);generalize e4 m N w s k=t at*;have aG:=aQ.n;have wU:=aQ.b;have lD:=aQ.row;have hd:t.den≠0:=by have:=aQ.fz;omega
 have lm:(t.rows.getD m []).length=N+1:=lD _ (dv [] J);have f1:=ik (G:=G) (F:=none) (L:=N+1) (w:=w) (k:=m+1) (X:=t.rows) (d:=t.den) (β:=t.basis) (T:=[]);have f2:=nU (G:=G) (F:=none) (L:=N+1) (w:=w) (k:=m+1) (X:=t.rows) (d:=t.den) (β:=t.basis) (T:=[]);have f3:=nr (G:=G) (F:=none) (L:=N+1) (w:=w) (k:=m+1) (X:=t.rows) (d:=t.den) (β:=t.basis) (T:=[]) (a:=m) J;refine bp ?_;refine ee ag ?_;refine eM (fuel:=0) [0,1,2,3,4,5,6,7,8,9,10,11,12] [(0,.ptr G.length 0 0)] ⟨I,trivial⟩ ag aT I I ?_;refine cI ?_;refine eI ?_;refine dX ag ?_;repeat (refine b6 ?_)
 refine ea 3 (.aC (G.length+4+m) 0 (N+1)) I (aU.of_eq (by show ao.aC (G.length+4+(((m+1:Nat):Int)-1).toNat) 0 (N+1)=_;rw [show (((m+1:Nat):Int)-1).toNat=m by omega])) ?_;skip
 refine du ?_;apply kP (H:=nO G N w (m+1) t) [(0,.ptr G.length 0 0),(4,ah (gQ m w t))]
 ·intro fin;refine bp ?_;refine cF (ι:=Nat) (fun a=>[(0,.ptr G.length 0 0),(3,.aC (G.length+4+m) 0 (N+1)),(4,ah a)]) (fun _=>nO G N w (m+1) t) (fun a=>a≤w∧nq t.rows m (w-a) a=gQ m w t) (fun a=>w-a) 0 ⟨aH,I,cj _,I⟩ ?_;rintro a ⟨aW,zP⟩;by_cases aqG:a<w
  ·have g1:a<(aV (t.rows.getD m [])).len:=by show a<(t.rows.getD m []).length;omega
   have cs:=yM (ax t.rows m a);refine cX ?_;refine bR 24 (.bool true) I (aU.of_eq (by rw [eG J])) ?_;refine fS ?_;refine bR 28 (ej (ax t.rows m a)) I (aU.of_eq I) ?_;refine aL I I I cs ?_;refine eL ?_;refine bw I (fun U=> ?_) (fun U=> ?_)
   ·rw [Yr] at U;refine bl ?_;exact cc ⟨a+1,⟨J,by rw [←zP,show w-a=(w-(a+1))+1 by omega,aci U]⟩,J,aH,I⟩
   ·rw [Yr] at U;rw [anF J] at zP;refine eL ?_;exact fin _ ⟨I,by rw [←zP];rfl,trivial⟩
  ·have aee:a=w:=J;subst aee;rw [pK] at zP;have zP:a=gQ m a t:=zP;refine cX ?_;refine bR 24 (.bool false) I (aU.of_eq (by rw [fP J])) ?_;refine eL ?_;exact fin _ ⟨I,by rw [←zP];rfl,trivial⟩
 ·have hC:gQ m w t≤w:=dU (Ft t.rows m w 0).2.1 J;refine u7 ?_;refine bw I (fun U=> ?_) (fun U=> ?_)
  ·have gF:gQ m w t=w:=J;have e:=Sk (aoP gF) an;refine bf ?_;exact aZ ar I ⟨by rw [e];unfold Ch;rw [aB gF];rfl,by rw [e]⟩
  ·have gF:gQ m w t≠w:=J;have eb:=ahl G dL N w (m+1) t.rows t.den t.basis (gQ m w t) E aG J hm lD jc J J Hj dx;rw [wU] at eb;refine bp ?_;refine sL I I I eb (fun _ h=>h) (fun _ h=>h) ?_;rintro dF bK ⟨rfl,rfl⟩;refine bh ?_;refine bw I (fun ab=> ?_) (fun ab=> ?_)
   ·rw [XA] at ab;have e:=Sk (aoO gF ab) an;refine bf ?_;exact aZ ar I ⟨by rw [e];unfold Ch;rw [aw gF];rfl,by rw [e]⟩
   ·cases au:jM t.rows t.basis (gQ m w t) N m with
    |none=>rw [au] at ab;exact absurd (show (-1:Int)<0 by decide) ab
    |some r=>
     have az:=akw gF au;have ad:=(Jj _ _ _ _ _ _ au).lt;have HG:=afg (by rw [az];exact fun q=>by cases q);have e:=l5 _ az;have kJ:=Yb G dL (N+1) w (m+1) t.rows t.den t.basis r (gQ m w t) E aG hm lD jc J J J hd Hj uK dx;refine bp ?_;refine sL I I I kJ (fun _ h=>h) (fun _ h=>h) ?_;rintro dF bK ⟨rfl,rfl⟩;refine bl ?_;exact cc ⟨k+1,J,J,⟨I,trivial⟩,by rw [e];rfl⟩
section
variable {G:aY}{F:Option bm}{L w k:Nat}{X:cu}{d:Int}{β:List Nat}{T:aY}
theorem xq (o:Option bm):(bs G F L w k X d β (T++[o]))[G.length+4+X.length+T.length]? =some o:=by rw [gl,jV (bN _),pK];rfl
theorem yJ (o o':Option bm):(bs G F L w k X d β (T++[o])).set (G.length+4+X.length+T.length) o'=bs G F L w k X d β (T++[o']):=by rw [j2];congr 1;rw [Bl _ _ (bN _),pK];rfl
end
theorem Nh (G:aY)(dL:s4 G)(L w k:Nat)(X:cu)(d:Int)(β:List Nat)(T:aY)(b4: ∀o:bm,some o∈T→fw (bs G none L w k X d β T).length o.c)(x:Int)(hd:d≠0)(al:(a7 x.natAbs).length≤1000000)(o3:(a7 d.natAbs).length≤1000000):
 cm Tryz.prog 207 [.ptr G.length 0 0,ej x] (bs G none L w k X d β T) (fun h=>h<(bs G none L w k X d β T).length)
  (fun dF bK=>dF=b8 (Rat.divInt x d)∧bK=bs G none L w k X d β T):=by
 have hlen:(bs G none L w k X d β T).length=G.length+4+X.length+T.length:=iH;refine cm.abx (K:=fun dF bK=>dF=b8 (Rat.divInt x d)∧ ∃H1,bK=bs G none L w k X d β T++H1) ?_ (fun dF bK h=> ?_)
 ·refine hx (P:=Tryz.prog) (fn:=Tryz.f207) I I ag I (fun c ar bJ=> ?_);have sk:=Df x d hd al o3;refine bf ?_;refine jv (bs G none L w k X d β (T++[some ⟨116,.box (cO x)⟩]++[some ⟨118,.box [.bool false,.nil,.nil]⟩])) (by rw [gk,gk];rfl) ?_;refine ea 3 (.ptr (G.length+4+X.length+T.length) 0 0) I (aU.of_eq (by rw [hlen])) ?_;refine ea 4 (.ptr (G.length+4+X.length+(T++[some (⟨116,.box (cO x)⟩:bm)]).length) 0 0) I (aU.of_eq (by rw [gk,iH];rfl)) ?_;have f1:=ik (G:=G) (F:=none) (L:=L) (w:=w) (k:=k) (X:=X) (d:=d) (β:=β) (T:=T++[some ⟨116,.box (cO x)⟩]++[some ⟨118,.box [.bool false,.nil,.nil]⟩]);have f2:=gl (G:=G) (F:=none) (L:=L) (w:=w) (k:=k) (X:=X) (d:=d) (β:=β) (T:=T++([some ⟨116,.box (cO x)⟩]++[some ⟨118,.box [.bool false,.nil,.nil]⟩])) T.length;rw [jV (bN _),pK] at f2;rw [←mr] at f2;have f3:=xq (G:=G) (F:=none) (L:=L) (w:=w) (k:=k) (X:=X) (d:=d) (β:=β) (T:=T++[some ⟨116,.box (cO x)⟩]) (some ⟨118,.box [.bool false,.nil,.nil]⟩);have f2:(bs G none L w k X d β (T++[some ⟨116,.box (cO x)⟩]++[some ⟨118,.box [.bool false,.nil,.nil]⟩]))[G.length+4+X.length+T.length]? =some (some (⟨116,.box (cO x)⟩:bm)):=f2;refine ee ag ?_;refine eM (fuel:=1) [0,1,2,3,4,5] [(0,.ptr G.length 0 0),(3,.ptr (G.length+4+X.length+T.length) 0 0),(4,.ptr (G.length+4+X.length+(T++[some (⟨116,.box (cO x)⟩:bm)]).length) 0 0)] aH ag aT I I ?_;refine cI ?_;refine dW I I I I I sk ?_;refine eI ?_;unfold b8;refine bn 6 ?_;refine eN (c':= .box (bV (Rat.divInt x d))) I I I f3 I fx I I (fun aK ba aQ bd=> ?_) ?_
  ·rw [aB (ft.1 aQ)];rfl
  refine dA (bs G none L w k X d β (T++[some ⟨116,.box (cO x)⟩]++[some ⟨118,.box (bV (Rat.divInt x d))⟩])) (yJ _ _) ?_;have f4:=xq (G:=G) (F:=none) (L:=L) (w:=w) (k:=k) (X:=X) (d:=d) (β:=β) (T:=T++[some ⟨116,.box (cO x)⟩]) (some ⟨118,.box (bV (Rat.divInt x d))⟩);refine bp ?_;refine dX ag (bE ?_);exact aZ ar (Jh I f4 I I I) ⟨I,_,by rw [gk,mr]⟩
 ·obtain ⟨rfl,H1,rfl⟩:=h;exact ⟨_,H1,rfl,fun h aX=>aX,rQ dL _ J (fun o ai=>by cases ai) b4,rfl,rfl,rfl⟩
end Go.Proofs.YtmpnheilfejcpaaGreatDoor
namespace Go.Proofs.YtmpnheilfejcpaaGreatDoor
open Go.aj Go.aj.dh Go.aj.cQ Go.RowKit Go.aj.dR Go.aj.cL
theorem Ot {A:aY}{t:TypeId}{n:Nat}: ∀(h:Nat) (o':bm),(A++[some ⟨t,aV (List.replicate n 0)⟩])[h]? =some (some o')→ ∃o:bm,(A++[some ⟨t,pg n [.bool false,.nil]⟩])[h]? =some (some o)∧o'.ty=o.ty∧o'.c.len=o.c.len∧o'.c.b7=o.c.b7∧ ∀i j,i<o.c.len→j<o.c.aI→aU (o.c.at i j) (o'.c.at i j):=by
 intro h o' cN;by_cases au:h<A.length
 ·rw [ic au] at cN;refine ⟨o',by rw [ic au];exact cN,I,I,I,fun i j _ _=>aU.of_eq I⟩
 ·have aX:h=A.length:=by have U:=(gZ.1 cN).1;rw [di] at U;have U:h<A.length+1:=U;omega
  subst aX;rw [jV (bN _),pK] at cN;cases cN;refine ⟨⟨t,pg n [.bool false,.nil]⟩,by rw [jV (bN _),pK];rfl,I,?_,I,fun i j aa ae=> ?_⟩
  ·simp [fI,Cells.len,pg]
  ·have aa:i<n:=by simpa [Cells.len,pg] using aa
   have ae:j<2:=ae;show aU _ ((cO ((List.replicate n (0:Int)).getD i 0)).getD j .any);rw [eA 0 (by simpa using aa),DX]
   match j,ae with
   |0,_=>exact aU.of_eq rfl
   |1,_=>exact aU.Nb
theorem aP.set {H bK:aY}(az:aP H bK)(h:Nat){x x':Option bm}(al: ∀o',x'=some o'→ ∃o,x=some o∧o'.ty=o.ty∧cG o.c o'.c):aP (H.set h x) (bK.set h x'):=by
 refine ⟨by rw [da,da,az.1],fun i o' cN=> ?_⟩;rw [DN] at cN⊢;by_cases e:h=i
 ·rw [aB e] at cN⊢;split at cN
  ·rename_i au;rw [aB (by rw [←az.1];exact au)];cases cN;obtain ⟨o,U,ab⟩:=al o' rfl;exact ⟨o,by rw [U],ab⟩
  ·cases cN
 ·rw [aw e] at cN⊢;exact az.2 i o' cN
theorem aP.trans' {A B C:aY}(U:aP A B)(ab:aP B C):aP A C:=by refine ⟨ab.1.trans U.1,fun h o ai=> ?_⟩;obtain ⟨o1,g1,g2,g3⟩:=ab.2 h o ai;obtain ⟨o2,et,eS,gG⟩:=U.2 h o1 g1;refine ⟨o2,et,g2.trans eS,?_⟩;obtain ⟨gy,a2,a3⟩:=gG;obtain ⟨dS,eP,nD⟩:=g3;exact ⟨dS.trans gy,eP.trans a2,fun i j aa ae=>(nD i j (by rw [gy];exact aa) (by rw [A1 a2];exact ae)).trans (a3 i j aa ae)⟩
abbrev Gq (G:aY)(L w:Nat)(X:cu)(d:Int)(β:List Nat)(T:aY):aY:=
 G++(some ⟨249,.box [.any,.bool (decide (d<0)),bA d.natAbs,.aC (G.length+2) 0 β.length,ah w]⟩::none::some ⟨3,fR β⟩::fo ⟨243,fj G.length X.length L⟩ 116 aV X T)
theorem YL {G:aY}{L w:Nat}{X:cu}{d:Int}{β:List Nat}{T:aY}:(Gq G L w X d β T)[G.length]? =some (some ⟨249,.box [.any,.bool (decide (d<0)),bA d.natAbs,.aC (G.length+2) 0 β.length,ah w]⟩):=tZ (i:=0) rfl
theorem YM {G:aY}{L w k:Nat}{X:cu}{d:Int}{β:List Nat}{T:aY}:(Gq G L w X d β T).set G.length (some ⟨249,jz G.length k β.length w d⟩)=bs G none L w k X d β T:=p5 (i:=0) _ rfl
theorem JB {α:Type}{O:bm}{t:TypeId}{f:α→Cells}{X:List α}{x:α}{T:aY}:fo O t f X (some ⟨t,f x⟩::T)=fo O t f (X++[x]) T:=by unfold fo;congr 1;show gn t f X++([some ⟨t,f x⟩]++T)=_;rw [←mr,VQ]
theorem Xh {G:aY}{L w k:Nat}{X:cu}{x:List Int}{d:Int}{β:List Nat}{a:Option bm}{c':Cells}(dL:c6 (G.length+3) G=G)(av:cG c' (fj G.length (X.length+1) L)):
 aP ((c6 (G.length+3) (bs G none L w k X d β [some ⟨116,aV x⟩,a])).set (G.length+3) (some ⟨243,c'⟩)) (Gq G L w (X++[x]) d β [none]):=by
 unfold bs;rw [w9,dL];have e:c6 (G.length+3) (some (⟨249,jz G.length k β.length w d⟩:bm)::none::some ⟨3,fR β⟩::fo ⟨243,fj G.length X.length L⟩ 116 aV X [some ⟨116,aV x⟩,a])
  =some ⟨249,.box [.any,.bool (decide (d<0)),bA d.natAbs,.aC (G.length+2) 0 β.length,ah w]⟩::none::some ⟨3,fR β⟩::fo ⟨243,(fj G.length X.length L).forget (G.length+3)⟩ 116 aV X (c6 (G.length+3) [some ⟨116,aV x⟩,a]):=by show some (⟨_,Cells.box (ao.kg _ _)⟩:bm)::none::some (⟨_,fR β⟩:bm)::c6 (G.length+3) (fo _ _ _ X _)=_;rw [Av (G.length+3) (ph (G.length+3))];simp [ao.kg,ao.forget,bA,dz]
 rw [e];refine aP.trans' (B:=G++(some ⟨249,.box [.any,.bool (decide (d<0)),bA d.natAbs,.aC (G.length+2) 0 β.length,ah w]⟩::none::some ⟨3,fR β⟩::fo ⟨243,c'⟩ 116 aV X (c6 (G.length+3) [some ⟨116,aV x⟩,a]))) ?_ ?_
 ·rw [show (G++(some (⟨249,.box [.any,.bool (decide (d<0)),bA d.natAbs,.aC (G.length+2) 0 β.length,ah w]⟩:bm)::none::some ⟨3,fR β⟩::fo ⟨243,(fj G.length X.length L).forget (G.length+3)⟩ 116 aV X (c6 (G.length+3) [some ⟨116,aV x⟩,a]))).set (G.length+3) (some ⟨243,c'⟩)=_ from p5 (i:=3) _ rfl];exact aP.refl _
 ·refine aP.append (aP.refl _) (aP.same (aP.same (aP.same ?_)));have au:c6 (G.length+3) [some (⟨116,aV x⟩:bm),a]=[some ⟨116,aV x⟩,jl (G.length+3) a]:=by show [some (⟨116,(aV x).forget _⟩:bm),_]=_;rw [ph]
  rw [au,JB];refine yS ⟨I,?_⟩ (aP.drop aP.nil);show cG c' (fj G.length (X++[x]).length L);rw [di];exact av
theorem CR (b n L:Nat)(eH:Cells)(aM:eH.at 0 0= .aC (b+4+n) 0 L):cG (.fn (n+1) 1 (fun i j=>bif Nat.blt i n then (fj b n L).at i j else eH.at (0+(i-n)) j)) (fj b (n+1) L):=by
 refine ⟨I,I,fun i j aa ae=> ?_⟩;obtain rfl:=ft.1 (show j<1 from ae);have aa:i<n+1:=aa;show ao.aC (b+4+i) 0 L=bif Nat.blt i n then ao.aC (b+4+i) 0 L else eH.at (0+(i-n)) 0;by_cases e:i<n
 ·rw [show Nat.blt i n=true from rb e];rfl
 ·have aF:i=n:=J;subst aF;rw [show Nat.blt i i=false by
   cases h:Nat.blt i i with
   |false=>rfl
   |true=>exact absurd (iZ h) (Nat.not_succ_le_self i)]
  rw [pK,fg];exact aM.symm
theorem C9 {H:aY}{h i m:Nat}{o:bm}(aX:H[h]? =some (some o)):DC H (.aC h i m)=some (o.c,i,m):=by simp only [DC,aX]
theorem O0 {G:aY}{L w k:Nat}{X:cu}{d:Int}{β:List Nat}{T jC:aY}(h:Nat)(dL:c6 h G=G)(aX:G.length+4+X.length≤h)(b4:aP (c6 h T) jC):
 aP (c6 h (bs G none L w k X d β T)) (bs G none L w k X d β jC):=by
 unfold bs;rw [w9,dL];refine aP.append (aP.refl _) ?_;have e:c6 h (some (⟨249,jz G.length k β.length w d⟩:bm)::none::some ⟨3,fR β⟩::fo ⟨243,fj G.length X.length L⟩ 116 aV X T)
  =some ⟨249,jz G.length k β.length w d⟩::none::some ⟨3,fR β⟩::fo ⟨243,(fj G.length X.length L).forget h⟩ 116 aV X (c6 h T):=by show some (⟨_,Cells.box (ao.kg _ _)⟩:bm)::none::some (⟨_,fR β⟩:bm)::c6 h (fo _ _ _ X _)=_;rw [Av h (ph h)];simp [ao.kg,ao.forget,bA,dz (show G.length+3≠h by omega),dz (show G.length+2≠h by omega)]
 rw [e];refine aP.same (aP.same (aP.same (yS ⟨I,I,I,fun i j aa ae=> ?_⟩ b4)));obtain rfl:=ft.1 (show j<1 from ae);have aa:i<X.length:=aa;show ao.aC (G.length+4+i) 0 L=ao.forget h (ao.aC (G.length+4+i) 0 L);unfold ao.forget;rw [dz (show G.length+4+i≠h by omega)];rfl
theorem alZ {G:aY}{L w k:Nat}{X:cu}{d:Int}{β:List Nat}{y:Option bm}{t:TypeId}{c' kf:Cells}(dL:c6 (G.length+4+X.length) G=G)(av:cG c' kf):
 aP ((c6 (G.length+4+X.length) (bs G none L w k X d β [y])).set (G.length+4+X.length) (some ⟨t,c'⟩)) (bs G none L w k X d β [some ⟨t,kf⟩]):=by
 have e:bs G none L w k X d β [some ⟨t,kf⟩]=(bs G none L w k X d β [none]).set (G.length+4+X.length) (some ⟨t,kf⟩):=by have q:=j2 (G:=G) (F:=none) (L:=L) (w:=w) (k:=k) (X:=X) (d:=d) (β:=β) (T:=[none]) 0 (some ⟨t,kf⟩);exact q.symm
 rw [e];exact aP.set (O0 (T:=[y]) (jC:=[none]) _ dL (bN _) (show aP [jl _ y] [none] from aP.drop aP.nil)) _ (fun o ai=>by cases ai;exact ⟨_,rfl,rfl,av⟩)
theorem aoW {X:cu}{m:Nat}(h:X.length=m+1):X.take m++[X.getD m []]=X:=by
 apply kc (by rw [di,fy,h];show min m (m+1)+1=m+1;omega);intro i U ab;by_cases e:i<m
 ·rw [List.getElem_append_left (by rw [fy];omega),List.getElem_take]
 ·have aF:i=m:=J;subst aF;rw [List.getElem_append_right (by rw [fy];omega)];simp [List.getD,h]
theorem akP {G:aY}{L w k m:Nat}{X:cu}{d:Int}{β:List Nat}(h:X.length=m+1):
 (bs G none L w k X d β []).set (G.length+3) (some ⟨243,fj G.length m L⟩)=bs G none L w k (X.take m) d β [some ⟨116,aV (X.getD m [])⟩]:=by
 refine (p5 (i:=3) _ I).trans ?_;show G++(_::_::_::fo ⟨_,fj G.length m L⟩ _ _ X [])=_;have au:(X.take m).length=m:=by rw [fy,h];omega
 unfold bs;rw [JB,aoW h,au]
end Go.Proofs.YtmpnheilfejcpaaGreatDoor
namespace Go.Proofs.YtmpnheilfejcpaaGreatDoor
open Go.aj Go.aj.dh Go.aj.cQ Go.RowKit Go.aj.dR Go.aj.cL
attribute [local irreducible] aj eD bZ cm gK
abbrev cz (l:List Nat):Cells:=fI 0 1 (fun n:Nat=>[bA n]) l
def r8 (y:List Rat)(f:List Nat)(k:Nat):List Rat:=(List.range k).map (fun i=>y.getD i 0*((f.getD i 0:Nat):Rat))
theorem apV (y:List Rat)(f:List Nat)(k:Nat):r8 y f (k+1)=r8 y f k++[y.getD k 0*((f.getD k 0:Nat):Rat)]:=by unfold r8;rw [ti,hb];rfl
theorem YC (y:List Rat)(f:List Nat)(k:Nat):(r8 y f k).length=k:=by simp [r8]
theorem aiO (n:Nat):b8 ((n:Nat):Rat)= .agg [.bool false,bA n,bA 1]:=by unfold b8;have U:((n:Nat):Rat).num=(n:Int):=rfl;have ab:((n:Nat):Rat).den=1:=rfl;rw [U,ab,k7,fP J]
theorem aaE (l:List Rat)(n:Nat):fw n (aO l):=by
 intro i j _ ae;show gV n ((bV (l.getD i 0)).getD j .any)=true;have ae:j<3:=ae
 match j,ae with
 |0,_=>rfl
 |1,_=>rfl
 |2,_=>rfl
theorem Wi (y:List Rat)(f:List Nat)(K:Nat)(au:y.length=f.length)(ars:y.length≤1000000)(a1: ∀q∈y,D K q)(aR: ∀n∈f,n<10^K)(dE:K≤895000):
 br Tryz.prog 173 [.ro (aO y) 0 y.length,.ro (cz f) 0 f.length] (.ro (aO (r8 y f y.length)) 0 y.length):=by
 have cJ:=F4 1 aT;refine cm.value (K:=fun r H=>r= .aC 0 0 y.length∧H=[some ⟨118,aO (r8 y f y.length)⟩]) (hx (P:=Tryz.prog) (fn:=Tryz.f173) I I ag I (fun c ar bJ=> ?_)) (fix:=fun _=>False) (fun _ h=>h) I ?_
 ·refine fe ?_;refine lK 5 ⟨118,aO (r8 y f 0)⟩ I I ?_;repeat (refine fV ?_)
  refine cF (ι:=Nat) (fun k=>[(1,.ro (cz f) 0 f.length),(5,.aC 0 0 k),(8,.ro (aO y) 0 y.length),(9,ah y.length),(10,ah k)]) (fun k=>[some ⟨118,aO (r8 y f k)⟩])
   (fun k=>k≤y.length) (fun k=>y.length-k) 0 ⟨aH,rfl,cj _⟩ ?_
  intro k an;refine bh ?_;refine bw I (fun h=> ?_) (fun h=> ?_)
  ·have b0:k<y.length:=J;have afk:k<f.length:=J;have az:=apV y f k;have ET:=YC y f k;have adv:=a1 _ (dv 0 b0);have adu:D (K+1) ((f.getD k 0:Nat):Rat):=Ir (ri (aR _ (dv 0 afk)));have hl:=Gf (y.getD k 0) ((f.getD k 0:Nat):Rat) (hi (adv.mono J)) (hi (adu.mono J));rw [aiO] at hl;generalize adS:r8 y f (k+1)=K8 at*;generalize r8 y f k=dJ at*;refine bf ?_;refine dA [some ⟨118,aO dJ⟩,some ⟨118,.box [.bool false,.nil,.nil]⟩] I ?_;refine bR 7 (.ptr 1 0 0) I (aU.of_eq I) ?_;refine bR 14 (.agg (bV (y.getD k 0))) I (aU.of_eq I) ?_;refine dj (c':= .box (bV (y.getD k 0))) I I I I I I I (bE ?_);refine jv [some ⟨118,aO dJ⟩,some ⟨118,.box (bV (y.getD k 0))⟩] I ?_;refine ee ag ?_;refine bF 0 I ag ag ag I (bD I) I ?_;refine eM (fuel:=3) [1,2,3,4,5,6,7,8,9] [(15,.aC 0 0 k),(1,.ro (cz f) 0 f.length),(5,.aC 0 0 k),(8,.ro (aO y) 0 y.length),(9,ah y.length),(10,ah k),(6,ah k),(7,.ptr 1 0 0)] aH ag aT I I ?_;refine cI ?_;refine dW I I I I I cJ ?_;refine cI ?_;refine dW I I I I I hl ?_;refine eI ?_;unfold b8;refine bn 10 ?_;refine bt ?_;refine bn 11 ?_;refine dI I I I I I I I I I ET I I eu I (by show (k+1)*56≤_∧_;omega) ?_ dq ?_
   ·intro aK j aa ae;exact iF 0 3 bV vh dJ _ _ (nW _) 0 aK j aa ae
   refine fD [some ⟨118,aO K8⟩,some ⟨118,.box (bV (y.getD k 0))⟩] ?_ ?_
   ·rw [az];exact aP.eqv (h7 0 3 bV dJ _ _ (nW _)) (aP.eqv (cG.refl _) aP.nil)
   refine bp ?_;refine bF 12 I ag ag ag I (dC I) I ?_;refine dX ag ?_;repeat (refine kQ ?_)
   refine b6 ?_;refine fB [some ⟨118,aO K8⟩] [some ⟨118,.box (bV (y.getD k 0))⟩] [(1,.ro (cz f) 0 f.length),(5,.aC 0 0 (k+1)),(8,.ro (aO y) 0 y.length),(9,ah y.length),(10,ah k)] I aH (fun h aX=>by rw [bJ] at aX;exact aX.elim) (fun h o ai=>by
    match h,ai with
    |0,ai=>cases ai;exact aaE K8 _) rfl ?_
   refine bt ?_;exact cc ⟨k+1,J,J,aH,by rw [adS]⟩
  ·have kk:k=y.length:=J;subst kk;refine bl ?_;exact aZ ar I ⟨I,I⟩
 ·rintro r H ⟨rfl,rfl⟩;exact ⟨rfl,fun o ai=>by simp at ai;subst ai;exact Nat.le_of_eq (by simp [Cells.len,fI,YC]),vG (oA _)⟩
theorem WX {α:Type}(d:α)(n:Nat)(e:α→List ao)(a b:List α):cG (.fn (a.length+b.length) n (fun i j=>bif Nat.blt i a.length then (fI d n e a).at i j else (fI d n e b).at (0+(i-a.length)) j)) (fI d n e (a++b)):=by
 refine ⟨by simp [fI,Cells.len],I,fun i j aa ae=> ?_⟩;show (e ((a++b).getD i d)).getD j .any=bif Nat.blt i a.length then (e (a.getD i d)).getD j .any else (e (b.getD (0+(i-a.length)) d)).getD j .any;by_cases h:i<a.length
 ·rw [show Nat.blt i a.length=true from rb h,uc d h];rfl
 ·have ab:Nat.blt i a.length=false:=by
   cases e:Nat.blt i a.length with
   |false=>rfl
   |true=>(have:i+1≤a.length:=iZ e;omega)
  rw [ab,cR];have:(a++b).getD i d=b.getD (i-a.length) d:=by simp only [List.getD];rw [jV J]
  rw [this];rfl
theorem abd (l:List Rat)(au:l.length≤1000000):A2 Tryz.prog 206 [.ro (aO l) 0 l.length] (fun N=> .aC N 0 l.length) ⟨118,aO l⟩:=by
 refine cm.fresh (K:=fun r H=>r= .aC 0 0 l.length∧H=[some ⟨118,aO l⟩]) (hx (P:=Tryz.prog) (fn:=Tryz.f206) I I ag I (fun c ar bJ=> ?_)) (fix:=fun _=>False) (fun _ h=>h) I (fun H=>⟨I,by simp [pA,nL]⟩) ?_
 ·refine bE ?_;refine O8 I I I (fun b ak=> ?_);refine bE ?_;refine vx I (fun h=> ?_) (fun h=> ?_)
  ·have:=ak h;have aG:l=[]:=v8.mp this;subst aG;refine cX ?_;refine lK 2 ⟨118,aO []⟩ I I (dy ?_);exact aZ ar I ⟨I,I⟩
  ·refine bp ?_;refine ve I I I I I I I I I I ?_;refine fD [some ⟨118,aO []⟩] (aP.eqv ⟨I,I,fun i j aa=>absurd aa (gh _)⟩ aP.nil) ?_;repeat (refine aq (bD rfl) ?_)
   refine dI I I I I I I I I I I I I (by show 0+l.length≤l.length;omega) I (by show (0+l.length)*56≤_∧_;omega) ?_ dq ?_
   ·intro aK ba aQ bd;have q:=(WX 0 3 bV [] l).2.2 aK ba aQ bd;refine (congrArg (ao.forget 0) q.symm).trans (tk ?_ q);exact vh _ ba 0 bd
   refine fD [some ⟨118,aO l⟩] (aP.eqv (WX 0 3 bV [] l) aP.nil) (bE ?_);refine aZ ar I ⟨?_,I⟩;show ao.aC 0 0 (0+l.length)=_;rw [cR]
 ·rintro r H ⟨rfl,rfl⟩;refine ⟨?_,fun h o ai=>vG (oA _) h o ai,0,I,fun n=>rfl⟩;intro o ai;simp at ai;subst ai;show 0+l.length≤l.length;omega
theorem JP (N:Nat)(a:List Int):(aV a).shift N=aV a:=by
 show Cells.fn _ _ _=Cells.fn _ _ _;congr 1;funext i j
 match j with
 |0=>rfl
 |1=>rfl
 |_+2=>rfl
theorem Xn (l:List Rat)(K:Nat)(fK: ∀q∈l,D K q)(hlen:l.length≤1000)(dE:K*l.length+K≤900000):
 GK Tryz.prog 174 [.ro (aO l) 0 l.length] (.ck [.aC 0 0 l.length,bA (hS 1 l)]) [some ⟨116,aV (hP l)⟩]:=by have cJ:=apZ l K fK hlen dE;refine cm.many (hx (P:=Tryz.prog) (fn:=Tryz.f174) I I ag I (fun c ar bJ=> ?_)) (fix:=fun _=>False) (fun _ h=>h) I;refine bE ?_;refine JV (.ck [.aC 0 0 l.length,bA (hS 1 l)]) [some ⟨116,aV (hP l)⟩] I I I cJ I (by show []++[some (⟨_,(aV (hP l)).shift 0⟩:bm)]=_;rw [JP];rfl) (dy ?_);exact aZ ar I ⟨I,I⟩
theorem VR (B:List Rat)(i:Nat)(aa:(B.getD i 0).num<0): ∀d,∃r,eK B (i+1+d)=eK B i++i::r
 |0=>⟨[],by show eK B (i+1)=_;rw [eK,aB aa]⟩
 |d+1=>by
  obtain ⟨r,ad⟩:=VR B i aa d;show∃r,eK B (i+1+d+1)=_;rw [eK];split
  ·exact ⟨r++[i+1+d],by rw [ad];simp⟩
  ·exact ⟨r,ad⟩
theorem ahJ (B:List Rat){i m:Nat}(aa:i<m):Go.aj.ka.iz (Go.aj.eT.jb (i:Int)) ((eK B m).map (fun a:Nat=>(a:Int)))=if (B.getD i 0).num<0 then ((fa B i:Nat):Int) else-1:=by
 have ig: ∀l:List Nat,i∉l→(l.map (fun a:Nat=>(a:Int))).any (Go.aj.eT.jb (i:Int))=false:=by intro l au;rw [uB];intro x al;obtain ⟨a,aW,rfl⟩:=cS.1 al;simp only [Go.aj.eT.jb,e8];intro e;have:i=a:=J;exact au (this▸aW)
 by_cases h:(B.getD i 0).num<0
 ·rw [aB h];obtain ⟨r,ad⟩:=VR B i h (m-(i+1));rw [show i+1+(m-(i+1))=m by omega] at ad;have BU:i∉eK B i:=fun q=>absurd (JR.1 q).1 (oQ i);have au:(eK B i).length≤((eK B m).map (fun a:Nat=>(a:Int))).length:=by rw [ad];simp
  have bu:((eK B m).map (fun a:Nat=>(a:Int))).take (eK B i).length=(eK B i).map (fun a:Nat=>(a:Int)):=by rw [ad,hb,List.take_left' b1]
  have hd:((eK B m).map (fun a:Nat=>(a:Int))).drop (eK B i).length=(i:Int)::r.map (fun a:Nat=>(a:Int)):=by rw [ad,hb,List.drop_left' b1];rfl
  rw [Go.aj.ka.qL _ _ (eK B i).length (by rw [bu];exact ig _ BU) au,hd];have jY:Go.aj.ka.iz (Go.aj.eT.jb (i:Int)) ((i:Int)::r.map (fun a:Nat=>(a:Int)))=0:=by rw [Go.aj.ka.iz,aB (by simp [Go.aj.eT.jb])]
  rw [jY,aw J];show (0:Int)+((eK B i).length:Nat)=_;rw [Int.zero_add]
 ·rw [aw h];have BU:i∉eK B m:=fun q=>h (JR.1 q).2;rw [Go.aj.ka.qL _ _ ((eK B m).map (fun a:Nat=>(a:Int))).length (by rw [fO];exact ig _ BU) (bN _),rj];rfl
section
variable {G:aY}{F:Option bm}{L w k:Nat}{X:cu}{d:Int}{β:List Nat}{T jC:aY}
abbrev KB (G:aY)(F:Option bm)(L w:Nat)(X:cu)(d:Int)(β:List Nat)(T:aY):aY:=
 G++(some ⟨249,.box [.any,.bool (decide (d<0)),bA d.natAbs,.aC (G.length+2) 0 β.length,ah w]⟩::F::some ⟨3,fR β⟩::fo ⟨243,fj G.length X.length L⟩ 116 aV X T)
theorem aak:(KB G F L w X d β T)[G.length]? =some (some ⟨249,.box [.any,.bool (decide (d<0)),bA d.natAbs,.aC (G.length+2) 0 β.length,ah w]⟩):=tZ (i:=0) rfl
theorem aal:(KB G F L w X d β T).set G.length (some ⟨249,jz G.length k β.length w d⟩)=bs G F L w k X d β T:=p5 (i:=0) _ rfl
abbrev Gr (G:aY)(F:Option bm)(L w k:Nat)(X:cu)(d:Int)(β:List Nat)(T:aY):aY:=
 G++(some ⟨249,.box [.aC (G.length+3) 0 k,.bool (decide (d<0)),bA d.natAbs,.any,ah w]⟩::F::some ⟨3,fR β⟩::fo ⟨243,fj G.length X.length L⟩ 116 aV X T)
theorem aaz:(Gr G F L w k X d β T)[G.length]? =some (some ⟨249,.box [.aC (G.length+3) 0 k,.bool (decide (d<0)),bA d.natAbs,.any,ah w]⟩):=tZ (i:=0) rfl
theorem aaA:(Gr G F L w k X d β T).set G.length (some ⟨249,jz G.length k β.length w d⟩)=bs G F L w k X d β T:=p5 (i:=0) _ rfl
theorem Y9 (h:Nat)(B:Cells)(dL:c6 h G=G)(l1:jl h F=F){O:Cells}(adI:cG (O.forget h) O)(b4:aP (c6 h T) jC):
 aP (c6 h (G++(some ⟨249,B⟩::F::some ⟨3,fR β⟩::fo ⟨243,O⟩ 116 aV X T))) (G++(some ⟨249,B.forget h⟩::F::some ⟨3,fR β⟩::fo ⟨243,O⟩ 116 aV X jC)):=by
 rw [w9,dL];refine aP.append (aP.refl _) ?_;have e:c6 h (some (⟨249,B⟩:bm)::F::some ⟨3,fR β⟩::fo ⟨243,O⟩ 116 aV X T)
  =some ⟨249,B.forget h⟩::F::some ⟨3,fR β⟩::fo ⟨243,O.forget h⟩ 116 aV X (c6 h T):=by show some (⟨_,B.forget h⟩:bm)::jl h F::some (⟨_,fR β⟩:bm)::c6 h (fo _ _ _ X _)=_;rw [Av h (ph h),l1]
 rw [e];exact aP.same (aP.same (aP.same (yS ⟨I,adI⟩ b4)))
theorem Qe (b n L h:Nat)(aX:b+4+n≤h∨h<b+4):cG ((fj b n L).forget h) (fj b n L):=by refine ⟨I,I,fun i j aa ae=> ?_⟩;obtain rfl:=ft.1 (show j<1 from ae);have aa:i<n:=aa;show ao.aC (b+4+i) 0 L=ao.forget h (ao.aC (b+4+i) 0 L);unfold ao.forget;rw [dz (show b+4+i≠h by omega)];rfl
theorem ZI (b k m w h:Nat)(d:Int)(U:b+3≠h)(ab:b+2≠h):(jz b k m w d).forget h=jz b k m w d:=by show Cells.box (ao.kg h _)=_;simp [ao.kg,ao.forget,bA,dz U,dz ab]
theorem akM (b k m w:Nat)(d:Int):(jz b k m w d).forget (b+3)= .box [.any,.bool (decide (d<0)),bA d.natAbs,.aC (b+2) 0 m,ah w]:=by show Cells.box (ao.kg _ _)=_;simp [ao.kg,ao.forget,bA,dz (show b+2≠b+3 by omega)]
theorem akL (b k m w:Nat)(d:Int):(jz b k m w d).forget (b+2)= .box [.aC (b+3) 0 k,.bool (decide (d<0)),bA d.natAbs,.any,ah w]:=by show Cells.box (ao.kg _ _)=_;simp [ao.kg,ao.forget,bA,dz (show b+3≠b+2 by omega)]
theorem Wf (h:Nat)(aX:G.length+4+X.length≤h∨h=G.length+1)(dL:c6 h G=G)(l1:jl h F=F)(b4:aP (c6 h T) jC):aP (c6 h (bs G F L w k X d β T)) (bs G F L w k X d β jC):=by have q:=Y9 (X:=X) (β:=β) h (jz G.length k β.length w d) dL l1 (Qe G.length X.length L h J) b4;rw [ZI _ _ _ _ _ _ J J] at q;exact q
theorem alO {y:Option bm}{t:TypeId}{c' kf:Cells}(dL:c6 (G.length+4+X.length) G=G)(l1:jl (G.length+4+X.length) F=F)(av:cG c' kf):
 aP ((c6 (G.length+4+X.length) (bs G F L w k X d β [y])).set (G.length+4+X.length) (some ⟨t,c'⟩)) (bs G F L w k X d β [some ⟨t,kf⟩]):=by
 have e:bs G F L w k X d β [some ⟨t,kf⟩]=(bs G F L w k X d β [none]).set (G.length+4+X.length) (some ⟨t,kf⟩):=by have q:=j2 (G:=G) (F:=F) (L:=L) (w:=w) (k:=k) (X:=X) (d:=d) (β:=β) (T:=[none]) 0 (some ⟨t,kf⟩);exact q.symm
 rw [e];exact aP.set (Wf (T:=[y]) (jC:=[none]) _ (.inl (bN _)) dL l1 (show aP [jl _ y] [none] from aP.drop aP.nil)) _ (fun o ai=>by cases ai;exact ⟨_,rfl,rfl,av⟩)
theorem alN {c' kf:Cells}{t:TypeId}(dL:c6 (G.length+1) G=G)(av:cG c' kf)(b4:aP (c6 (G.length+1) T) jC):
 aP ((c6 (G.length+1) (bs G F L w k X d β T)).set (G.length+1) (some ⟨t,c'⟩)) (bs G (some ⟨t,kf⟩) L w k X d β jC):=by
 have e:bs G (some ⟨t,kf⟩) L w k X d β jC=(bs G none L w k X d β jC).set (G.length+1) (some ⟨t,kf⟩):=by refine Eq.symm ((p5 (i:=1) _ I).trans ?_);rfl
 rw [e];have aF:c6 (G.length+1) (bs G F L w k X d β T)=G++(some ⟨249,jz G.length k β.length w d⟩::jl (G.length+1) F::some ⟨3,fR β⟩::fo ⟨243,(fj G.length X.length L).forget (G.length+1)⟩ 116 aV X (c6 (G.length+1) T)):=by unfold bs;rw [w9,dL];show G++(some (⟨_,(jz G.length k β.length w d).forget (G.length+1)⟩:bm)::jl (G.length+1) F::some (⟨_,fR β⟩:bm)::c6 (G.length+1) (fo _ _ _ X _))=_;rw [Av (G.length+1) (ph (G.length+1)),ZI _ _ _ _ _ _ J J]
 rw [aF];have q:aP (G++(some ⟨249,jz G.length k β.length w d⟩::jl (G.length+1) F::some ⟨3,fR β⟩::fo ⟨243,(fj G.length X.length L).forget (G.length+1)⟩ 116 aV X (c6 (G.length+1) T))) (bs G none L w k X d β jC):=
  aP.append (aP.refl _) (aP.same (aP.drop (aP.same (yS (O:=⟨243,(fj G.length X.length L).forget (G.length+1)⟩) (zg:=⟨243,fj G.length X.length L⟩) ⟨rfl,Qe G.length X.length L (G.length+1) (.inr J)⟩ b4))))
 exact aP.set q _ (fun o ai=>by cases ai;exact ⟨_,rfl,rfl,av⟩)
theorem alM {c':Cells}{xx:List Nat}(dL:c6 (G.length+2) G=G)(l1:jl (G.length+2) F=F)(av:cG c' (fR xx))(b4:aP (c6 (G.length+2) T) jC):
 aP ((c6 (G.length+2) (bs G F L w k X d β T)).set (G.length+2) (some ⟨3,c'⟩)) (Gr G F L w k X d xx jC):=by
 have q:=Y9 (X:=X) (β:=β) (G.length+2) (jz G.length k β.length w d) dL l1 (Qe G.length X.length L _ J) b4;rw [akL] at q;have e:Gr G F L w k X d xx jC=(G++(some ⟨249,.box [.aC (G.length+3) 0 k,.bool (decide (d<0)),bA d.natAbs,.any,ah w]⟩::F::some ⟨3,fR β⟩::fo ⟨243,fj G.length X.length L⟩ 116 aV X jC)).set (G.length+2) (some ⟨3,fR xx⟩):=by refine Eq.symm ((p5 (i:=2) _ I).trans ?_);rfl
 rw [e];exact aP.set q _ (fun o ai=>by cases ai;exact ⟨_,rfl,rfl,av⟩)
theorem aof {x:List Int}{a:Option bm}{c':Cells}(dL:c6 (G.length+3) G=G)(l1:jl (G.length+3) F=F)(av:cG c' (fj G.length (X.length+1) L)):
 aP ((c6 (G.length+3) (bs G F L w k X d β [some ⟨116,aV x⟩,a])).set (G.length+3) (some ⟨243,c'⟩)) (KB G F L w (X++[x]) d β [none]):=by
 have aF:c6 (G.length+3) (bs G F L w k X d β [some ⟨116,aV x⟩,a])=G++(some ⟨249,.box [.any,.bool (decide (d<0)),bA d.natAbs,.aC (G.length+2) 0 β.length,ah w]⟩::F::some ⟨3,fR β⟩::fo ⟨243,(fj G.length X.length L).forget (G.length+3)⟩ 116 aV X [some ⟨116,aV x⟩,jl (G.length+3) a]):=by
  unfold bs;rw [w9,dL];show G++(some (⟨_,(jz G.length k β.length w d).forget (G.length+3)⟩:bm)::jl (G.length+3) F::some (⟨_,fR β⟩:bm)::c6 (G.length+3) (fo _ _ _ X _))=_;rw [Av (G.length+3) (ph (G.length+3)),akM,l1];show _=G++(_::_::_::fo _ _ _ X [some (⟨116,aV x⟩:bm),_])
  rw [show c6 (G.length+3) [some (⟨116,aV x⟩:bm),a]=[some ⟨116,(aV x).forget (G.length+3)⟩,jl (G.length+3) a] from rfl,ph]
 rw [aF,show∀zg:Option bm,(G++(some (⟨249,.box [.any,.bool (decide (d<0)),bA d.natAbs,.aC (G.length+2) 0 β.length,ah w]⟩:bm)::F::some ⟨3,fR β⟩::fo ⟨243,(fj G.length X.length L).forget (G.length+3)⟩ 116 aV X [some ⟨116,aV x⟩,jl (G.length+3) a])).set (G.length+3) zg=_ from fun zg=>p5 (i:=3) _ rfl];refine aP.append (aP.refl _) (aP.same (aP.same (aP.same ?_)));show aP (fo ⟨243,c'⟩ 116 aV X _) _;rw [JB];refine yS ⟨I,?_⟩ (aP.drop aP.nil);show cG c' (fj G.length (X++[x]).length L);rw [di];exact av
end
theorem ahT (h:Nat)(l:List Nat):(cz l).forget h=cz l:=by
 show Cells.fn _ _ _=Cells.fn _ _ _;congr 1;funext i j
 match j with
 |0=>rfl
 |_+1=>rfl
theorem anh (l:List Nat):e5 (cz l):=by intro i j _ ae;obtain rfl:=ft.1 (show j<1 from ae);rfl
end Go.Proofs.YtmpnheilfejcpaaGreatDoor
namespace Go.Proofs.YtmpnheilfejcpaaGreatDoor
open Go.aj Go.aj.dh Go.aj.cQ Go.RowKit Go.aj.dR Go.aj.cL Go.aj.k4
attribute [local irreducible] aj eD bZ cm gK
theorem X7 (n:Nat)(aG:n≤1000000):A2 Tryz.prog 180 [ah n] (fun N=> .aC N 0 n) ⟨118,aO (List.replicate n 0)⟩:=by
 refine cm.fresh (K:=fun r H=>r= .aC 0 0 n∧H=[some ⟨118,aO (List.replicate n 0)⟩]) (hx (P:=Tryz.prog) (fn:=Tryz.f180) I I ag I (fun c ar bJ=> ?_)) (fix:=fun _=>False) (fun _ h=>h) I (fun H=>⟨I,by simp [pA,nL]⟩) ?_
 ·refine bE ?_;refine lK 3 ⟨118,aO []⟩ I I ?_;repeat (refine fV ?_)
  refine cF (ι:=Nat) (fun i=>[(3,.aC 0 0 i),(4,ah n),(5,ah i)]) (fun i=>[some ⟨118,aO (List.replicate i 0)⟩]) (fun i=>i≤n) (fun i=>n-i) 0 ⟨aH,I,cj _⟩ ?_;intro i aa;have fk:(List.replicate i (0:Rat)).length=i:=fc ..;have ME:List.replicate (i+1) (0:Rat)=List.replicate i 0++[0]:=List.replicate_succ' ..;refine bh ?_;refine bw I (fun h=> ?_) (fun h=> ?_)
  ·generalize BO:List.replicate (i+1) (0:Rat)=fu at*;generalize List.replicate i (0:Rat)=l at*;refine bp ?_;refine aL I I I nn ?_;unfold b8;repeat (refine ju rfl rfl rfl rfl rfl rfl rfl rfl rfl rfl rfl ?_)
   refine dI I I I I I I I I I fk I I eu I (by show (i+1)*56≤_∧_;omega) ?_ dq ?_
   ·intro aK ba aQ bd;exact iF 0 3 bV vh l _ _ (nW _) _ aK ba aQ bd
   refine fD [some ⟨118,aO (l++[0])⟩] (aP.eqv (h7 0 3 bV l 0 _ (nW _)) aP.nil) (bl ?_);exact cc ⟨i+1,J,J,aH,by rw [BO,ME]⟩
  ·have dn:i=n:=J;subst dn;refine bl ?_;exact aZ ar I ⟨I,I⟩
 ·rintro r H ⟨rfl,rfl⟩;refine ⟨?_,fun h o ai=>vG (oA _) h o ai,0,I,fun n=>rfl⟩;intro o ai;simp at ai;subst ai;show 0+n≤(List.replicate n (0:Rat)).length;rw [fc];omega
theorem OA (t:aJ)(b4:kb t):br Tryz.prog 23 [.ro (bS t) 0 t.length] (.int .i64 (oH t)):=by
 have Bt:=O1 t b4;refine cg Tryz.f23 fun c ar bJ=> ?_;unfold oH at ar;refine bE ?_;refine aL I I I Bt (bt ?_);refine bw I (fun h=> ?_) (fun h=> ?_)
 ·rw [aB h] at ar;refine dy ?_;exact aZ ar I I
 rw [aw h] at ar;have af:=Ke (hL.1 h);have oc:=FD t 0 b4 af;have cJ:=FD t 1 b4 af;cases ya:fC t 0
 ·rw [ya] at oc ar;rw [aB (fun q=>tl q.1)] at ar;refine bp ?_;refine aL I I I oc (bf ?_);exact aZ ar I I
 cases wL:fC t 1
 ·rw [ya] at oc;rw [wL] at cJ ar;rw [aB (fun q=>tl q.2)] at ar;refine bp ?_;refine aL I I I oc (bl ?_);refine aL I I I cJ (bl ?_);exact aZ ar I I
 rw [ya] at oc;rw [wL] at cJ;rw [ya,wL,aw (fun q=>q ⟨rfl,rfl⟩)] at ar;refine bp ?_;refine aL I I I oc (bl ?_);refine aL I I I cJ (bl ?_);refine cF (ι:=Nat) (fun i=>[(0,.ro (bS t) 0 t.length),(20,ah i)]) (fun _=>[]) (fun i=>i≤2∧ ∀k:Nat,k<i→a8 t (k:Int)≤13∧(b9 t (k:Int)).length≤6) (fun i=>2-i) 0 ⟨aH,I,cj _,fun k an=>absurd an (gh _)⟩ ?_;rintro i ⟨aa,hp⟩;refine bh ?_;refine bw I (fun ab=> ?_) (fun ab=> ?_)
 ·have mA:i<2:=J;have cs:=Kv t (i:Int) b4.1;have sk:=DA t (i:Int) b4 af;unfold ij at sk;have Sc:13<a8 t (i:Int)∨6<(b9 t (i:Int)).length→(13<a8 t 0∨6<(b9 t 0).length∨13<a8 t 1∨6<(b9 t 1).length):=by
   intro q;have:i=0∨i=1:=J;rcases this with rfl|rfl
   ·rcases q with q|q
    ·exact .inl q
    ·exact .inr (.inl q)
   ·rcases q with q|q
    ·exact .inr (.inr (.inl q))
    ·exact .inr (.inr (.inr q))
  refine bp ?_;refine aL I I I cs (dy ?_);refine aL I I I sk ?_;repeat (first|refine aq (bD rfl) ?_|refine aq (A7 rfl rfl) ?_|refine aq (gm rfl rfl rfl) ?_|refine aq (lq rfl rfl rfl rfl) ?_|refine aq (pe rfl) ?_|refine aq (lJ rfl rfl rfl rfl rfl rfl) ?_)
  refine hg I I (fun bQ=> ?_) (fun bQ=> ?_)
  ·rw [aB (Sc (.inl (by show 13<(bW t (i:Int)).length;omega)))] at ar;refine bf ?_;exact aZ ar I I
  ·refine bf ?_;refine bw I (fun bX=> ?_) (fun bX=> ?_)
   ·rw [aB (Sc (.inr J))] at ar;refine bf ?_;exact aZ ar I I
   ·refine bl ?_;exact cc ⟨i+1,⟨J,fun k an=>by
     rcases gA k i with q|q
     ·exact hp k q
     ·obtain rfl:k=i:=J;exact ⟨by show (bW t (k:Int)).length≤13;omega,J⟩⟩,J,aH,I⟩
 ·have dn:i=2:=J;subst dn;have a0:=hp 0 J;have gy:=hp 1 J;have a0:a8 t 0≤13∧(b9 t 0).length≤6:=a0;have gy:a8 t 1≤13∧(b9 t 1).length≤6:=gy;rw [aw J] at ar;refine bl ?_;exact aZ ar I I
end Go.Proofs.YtmpnheilfejcpaaGreatDoor
namespace Go.Proofs.YtmpnheilfejcpaaGreatDoor
open Go.aj Go.aj.dh Go.aj.cQ Go.RowKit Go.aj.dR Go.aj.cL
attribute [local irreducible] aj eD bZ cm gK
def Ga:Option Rat→List ao
 |some q=>bV q
 |none=>[.bool false,.nil,.nil]
abbrev pE (l:List (Option Rat)):Cells:=fI none 3 Ga l
theorem X8 (n:Nat):cG (pg n [.bool false,.nil,.nil]) (pE (List.replicate n none)):=by
 refine ⟨by simp [fI,Cells.len,pg],I,fun i j aa ae=> ?_⟩;have aa:i<n:=by simpa [Cells.len,pg] using aa
 show (Ga ((List.replicate n (none:Option Rat)).getD i none)).getD j .any=_;rw [eA none (by simpa using aa),DX];rfl
theorem ZM (l:List Rat):cG (pE (l.map some)) (aO l):=by
 refine ⟨by simp [fI,Cells.len],I,fun i j aa ae=> ?_⟩;have aa:i<l.length:=by simpa [fI,Cells.len] using aa
 show (bV (l.getD i 0)).getD j .any=(Ga ((l.map some).getD i none)).getD j .any;rw [nk some l 0 none i aa];rfl
theorem xd (l:List Rat)(n:Nat):fw n (aO l):=by
 intro i j _ ae;show gV n ((bV (l.getD i 0)).getD j .any)=true;have ae:j<3:=ae
 match j,ae with
 |0,_=>rfl
 |1,_=>rfl
 |2,_=>rfl
theorem jw {α:Type}(d:α)(n:Nat)(e:α→List ao)(zs:List α)(k:Nat)(a:α)(an:k<zs.length)(aK ba:Nat)(aQ:aK<zs.length)(bd:ba<n):(fI d n e (zs.set k a)).at aK ba=if aK=k then (e a).getD ba .any else (fI d n e zs).at aK ba:=by
 show (e ((zs.set k a).getD aK d)).getD ba .any=if aK=k then (e a).getD ba .any else (e (zs.getD aK d)).getD ba .any
 rw [Go.aj.dR.fQ];by_cases h:aK=k
 ·rw [aB h,aB ⟨h,an⟩]
 ·rw [aw h,aw (fun q=>h q.1)]
theorem Zt (n:Nat):dK (fun _=>some (0:Rat)) none (List.replicate n none) n=(List.replicate n (0:Rat)).map some:=by have:=xm (fun _=>some (0:Rat)) none (List.replicate n none);rw [fc] at this;rw [this,List.map_replicate];apply kc b1;intro i U ab;simp
theorem rN (β:List Nat)(i:Nat):(β.map (fun a:Nat=>(a:Int))).getD i 0=((β.getD i 0:Nat):Int):=by simp only [List.getD,lB];cases β[i]? <;>rfl
theorem FH (G:aY)(dL:s4 G)(N w k:Nat)(X:cu)(d:Int)(β:List Nat)(T:aY)(b4: ∀m,G.length+4+X.length≤m→ ∀o:bm,some o∈T→fw m o.c)(cp:Nat)(uS:cp≤1000000)(afh:k≤X.length)(wU:β.length≤k)(EA:k≤1000000)(cB: ∀x∈X,x.length=N+1)(Ly:N+1≤1000000)(hd:d≠0)(jd: ∀i,i<β.length→(a7 (ax X i N).natAbs).length≤1000000)(o3:(a7 d.natAbs).length≤1000000):
 cm Tryz.prog 178 [.ptr G.length 0 0,ah cp] (bs G none (N+1) w k X d β T) (fun h=>h<(bs G none (N+1) w k X d β T).length)
  (fun dF bK=>dF= .ro (aO (iW cp β (fun i=>Rat.divInt (ax X i N) d) (List.replicate cp 0) β.length)) 0 cp∧bK=bs G none (N+1) w k X d β T):=by
 have hlen: ∀T,(bs G none (N+1) w k X d β T).length=G.length+4+X.length+T.length:=fun T=>iH;refine hx (P:=Tryz.prog) (fn:=Tryz.f178) I I ag I (fun c ar bJ=> ?_);refine bE ?_;refine mh I I I I I I I I (by show (0:Int)≤_∧_≤_∧(56:Int)*_≤_∧_;omega) ?_;refine fD (bs G none (N+1) w k X d β T++[some ⟨118,pE (List.replicate cp none)⟩]) (aP.append (aP.refl _) (aP.eqv (X8 _) aP.nil)) ?_;refine dA (bs G none (N+1) w k X d β (T++[some ⟨118,pE (dK (fun _=>some (0:Rat)) none (List.replicate cp none) 0)⟩])) (by rw [gk,vo]) ?_;refine bR 10 (.aC (G.length+4+X.length+T.length) 0 cp) I (aU.of_eq (by rw [hlen];rfl)) (bt ?_);refine cF (ι:=Nat) (fun i=>[(0,.ptr G.length 0 0),(1,ah cp),(5,.aC (G.length+4+X.length+T.length) 0 cp),(12,ah cp),(13,ah i)]) (fun i=>bs G none (N+1) w k X d β (T++[some ⟨118,pE (dK (fun _=>some (0:Rat)) none (List.replicate cp none) i)⟩]))
  (fun i=>i≤cp) (fun i=>cp-i) 0 ⟨aH,rfl,cj _⟩ ?_
 intro i aa;refine bh ?_;refine bw I (fun h=> ?_) (fun h=> ?_)
 ·have aQ:i<cp:=J;have dT:=ua (fun _=>some (0:Rat)) none (List.replicate cp none) (k:=i) (by simpa using aQ);have iQ:(dK (fun _=>some (0:Rat)) none (List.replicate cp none) i).length=cp:=by rw [qV];simp
  generalize dK (fun _=>some (0:Rat)) none (List.replicate cp none) i=A at*;have f1:=xq (G:=G) (F:=none) (L:=N+1) (w:=w) (k:=k) (X:=X) (d:=d) (β:=β) (T:=T) (some ⟨118,pE A⟩);have x4:i<(pE A).len:=by show i<A.length;omega
  refine bp ?_;refine aL I I I nn ?_;unfold b8;repeat (refine aq (mE rfl rfl rfl) ?_)
  refine eN (c':=pE (A.set i (some 0))) I I I f1 I x4 (da ..) I (fun aK ba aQ bd=>jw none 3 Ga A i (some 0) x4 aK ba aQ bd) ?_;refine dA (bs G none (N+1) w k X d β (T++[some ⟨118,pE (A.set i (some 0))⟩])) (yJ _ _) (bl ?_);exact cc ⟨i+1,J,J,aH,by rw [dT]⟩
 have dn:i=cp:=J;rw [dn,Zt];clear aa h dn;clear i;have f2:=ik (G:=G) (F:=none) (L:=N+1) (w:=w) (k:=k) (X:=X) (d:=d) (β:=β) (T:=T++[some ⟨118,aO (iW cp β (fun i=>Rat.divInt (ax X i N) d) (List.replicate cp 0) 0)⟩]);refine mJ (bs G none (N+1) w k X d β T++[some ⟨118,aO (List.replicate cp 0)⟩]) (by rw [←gk];exact aP.append (aP.refl _) (aP.eqv (ZM _) aP.nil)) ?_;refine jv (bs G none (N+1) w k X d β (T++[some ⟨118,aO (iW cp β (fun i=>Rat.divInt (ax X i N) d) (List.replicate cp 0) 0)⟩])) (by rw [gk];rfl) (u7 ?_);refine cF (ι:=Nat) (fun i=>[(0,.ptr G.length 0 0),(1,ah cp),(5,.aC (G.length+4+X.length+T.length) 0 cp),(24,.aC (G.length+2) 0 β.length),(25,ah β.length),(26,ah i)]) (fun i=>bs G none (N+1) w k X d β (T++[some ⟨118,aO (iW cp β (fun i=>Rat.divInt (ax X i N) d) (List.replicate cp 0) i)⟩]))
  (fun i=>i≤β.length) (fun i=>β.length-i) 0 ⟨aH,rfl,cj _⟩ ?_
 clear f2;intro i aa;have LD:=xi cp β (fun i=>Rat.divInt (ax X i N) d) (List.replicate cp 0) i;rw [fc] at LD;refine bh ?_;refine bw I (fun h=> ?_) (fun h=> ?_)
 ·have aQ:i<β.length:=J;have dT:iW cp β (fun i=>Rat.divInt (ax X i N) d) (List.replicate cp 0) (i+1)=if β.getD i 0<cp then (iW cp β (fun i=>Rat.divInt (ax X i N) d) (List.replicate cp 0) i).set (β.getD i 0) (Rat.divInt (ax X i N) d) else iW cp β (fun i=>Rat.divInt (ax X i N) d) (List.replicate cp 0) i:=rfl
  generalize iW cp β (fun i=>Rat.divInt (ax X i N) d) (List.replicate cp 0) i=V at*;have f1:=ik (G:=G) (F:=none) (L:=N+1) (w:=w) (k:=k) (X:=X) (d:=d) (β:=β) (T:=T++[some ⟨118,aO V⟩]);have f2:=vC (G:=G) (F:=none) (L:=N+1) (w:=w) (k:=k) (X:=X) (d:=d) (β:=β) (T:=T++[some ⟨118,aO V⟩]);have g2:i<(β.map (fun a:Nat=>(a:Int))).length:=by rw [cW];exact aQ
  refine cX ?_;refine bw I (fun U=> ?_) (fun U=> ?_)
  ·rw [rN] at U;have ak:β.getD i 0<cp:=J;rw [aB ak] at dT;refine ea 8 (ah (β.getD i 0)) I (aU.of_eq (by rw [rN])) ?_;have E1:(X.getD i []).length=N+1:=cB _ (dv [] J);have f3:=nU (G:=G) (F:=none) (L:=N+1) (w:=w) (k:=k) (X:=X) (d:=d) (β:=β) (T:=T++[some ⟨118,aO V⟩]);have f4:=nr (G:=G) (F:=none) (L:=N+1) (w:=w) (k:=k) (X:=X) (d:=d) (β:=β) (T:=T++[some ⟨118,aO V⟩]) (a:=i) J;have f5:=xq (G:=G) (F:=none) (L:=N+1) (w:=w) (k:=k) (X:=X) (d:=d) (β:=β) (T:=T) (some ⟨118,aO V⟩);have g3:i<(fj G.length X.length (N+1)).len:=by show i<X.length;omega
   have g4:N<(aV (X.getD i [])).len:=by show N<(X.getD i []).length;omega
   have g5:β.getD i 0<(aO V).len:=by show _<V.length;omega
   have afn:=hlen T;have D0:=Nh G dL (N+1) w k X d β (T++[some ⟨118,aO V⟩]) (fun o ai=>by
    rw [hlen];rcases gM.1 ai with q|q
    ·exact b4 _ J o q
    ·cases hk.1 q;exact xd V _) (ax X i N) hd (jd i aQ) o3
   skip
   refine ee ag ?_;refine eM (fuel:=1) [0,1,2,3,4,5,6,7,8,9,10,11,12,13,14,15,16,17,18,19,20,21,22] [(0,.ptr G.length 0 0),(1,ah cp),(5,.aC (G.length+4+X.length+T.length) 0 cp),(7,ah i),(8,ah (β.getD i 0)),(24,.aC (G.length+2) 0 β.length),(25,ah β.length),(26,ah i)] aH ag aT I I ?_;refine bT I I (bD I) ?_;refine bT I I (bD I) ?_;refine bT I I (bD I) ?_;refine bT I I (bD I) ?_;refine bT I I (kA I) ?_;refine bT I I (ds I I I I I I) ?_;refine bT I I (pc I I I h2 ll) ?_;refine bT I I (bD I) ?_;refine bT I I (mE I I I) ?_;refine bT I I (Fg I I I h2 I nM) ?_;refine bT I I (bD I) ?_;refine bT I I (kA I) ?_;refine bT I I (ds I I I I I I) ?_;refine bT I I (pc I I I h2 ll) ?_;refine bT I I (bD I) ?_;refine bT I I (mE I I I) ?_;refine bT I I (Fg I I I h2 I nM) ?_;refine bT I I (gm I I I) ?_;refine bT I I (q0 I I J) ?_;refine bT I I (Aw (ix:=N) I I I f4 I (by show 0+(((N+1:Nat):Int)-1).toNat=N;omega) (by first|omega)) ?_;refine cI ?_;refine TR I I I I I D0 ?_;refine cI ?_;refine eI ?_;unfold b8;refine bn 23 ?_;refine eN (c':=aO (V.set (β.getD i 0) (Rat.divInt (ax X i N) d))) I I I f5 I g5 (da ..) I (fun aK ba aQ bd=>jw 0 3 bV V (β.getD i 0) _ g5 aK ba aQ bd) ?_;refine dA (bs G none (N+1) w k X d β (T++[some ⟨118,aO (V.set (β.getD i 0) (Rat.divInt (ax X i N) d))⟩])) (yJ _ _) (bp ?_);refine dX ag (bl ?_);exact cc ⟨i+1,J,J,aH,by rw [dT]⟩
  ·rw [rN] at U;rw [aw J] at dT;refine bl ?_;exact cc ⟨i+1,J,J,aH,by rw [dT]⟩
 have dn:i=β.length:=J;subst dn;refine eL ?_;generalize iW cp β (fun i=>Rat.divInt (ax X i N) d) (List.replicate cp 0) β.length=V at*;have f5:=xq (G:=G) (F:=none) (L:=N+1) (w:=w) (k:=k) (X:=X) (d:=d) (β:=β) (T:=T) (some ⟨118,aO V⟩);refine mG (G.length+4+X.length+T.length) 5 cp [] f5 (oA _) I (by show cp≤V.length;omega) trivial ?_;refine jv (bs G none (N+1) w k X d β T++[none]) (by rw [yJ,gk]) ?_;refine fB (bs G none (N+1) w k X d β T) [none] [(5,.ro (aO V) 0 cp)] rfl ⟨rfl,trivial⟩ (fun h aX=>by rw [bJ] at aX;exact aX) (rQ dL _ (by rw [hlen];omega) (fun o ai=>by cases ai) (b4 _ (by rw [hlen];omega))) rfl (bE ?_);exact aZ ar I ⟨I,I⟩
end Go.Proofs.YtmpnheilfejcpaaGreatDoor
namespace Go.Proofs.YtmpnheilfejcpaaGreatDoor
open Go.aj Go.aj.dh Go.aj.cQ Go.RowKit Go.aj.dR Go.aj.cL Go.aj.k4 Go.aj.eT
attribute [local irreducible] aj eD bZ cm gK
theorem ajK {t:aJ}(af:Valid t)(p:Int): ∀i,i<(bW t p).length→0≤((bW t p).getD i c5).before→((bW t p).getD i c5).info∈b9 t p∧((bW t p).getD i c5).before<(i:Int):=by
 intro i aa aM;rcases nz i with e|e
 ·subst e;rw [(sF af p).2.1] at aM;exact absurd aM aT
 ·obtain ⟨x,b,sE,iU,jh,w4,yy,Cq,Ff,yz⟩:=Dk af e aa;have ab:=yz (i-x.2) J;rw [show x.2+(i-x.2)=i by omega] at ab;rw [ab];exact ⟨iU,by show ((b:Nat):Int)<(i:Int);omega⟩
theorem T4 (c:hW)(j:Nat)(ae:j<2):(fM 1 2 [.int .i64 c.info,.ro (.strs c.c3) 0 c.c3.length]).at 0 j=(oY c).getD j .any:=by
 match j,ae with
 |0,_=>rfl
 |1,_=>rfl
theorem UR (c:hW)(j h:Nat)(ae:j<2):((oY c).getD j .any).forget h=(oY c).getD j .any:=by
 match j,ae with
 |0,_=>rfl
 |1,_=>rfl
theorem alU (s:df):e5 (cw s):=by
 intro i j _ ae;have ae:j<2:=ae
 match j,ae with
 |0,_=>rfl
 |1,_=>rfl
theorem I1 (l:df)(n:Nat):fw n (cw l):=by
 intro i j _ ae;have ae:j<2:=ae;show gV n ((oY (l.getD i gD)).getD j .any)=true
 match j,ae with
 |0,_=>rfl
 |1,_=>rfl
theorem akb (q:Rat):decide (0<lG q.num)=decide (0<q):=by
 rw [xH,e8,e8];have U:0<lG q.num↔0<q.num:=by
  unfold lG;split
  ·rename_i h;simp;omega
  ·split
   ·rename_i h;simp;omega
   ·rename_i U ab;simp;omega
 rw [U,Rat.lt_iff];show _↔(0:Int)*(q.den:Int)<q.num*1;omega
def wZ (t:aJ)(p:Int)(W:Nat→Rat):df×Int:=if qa t p W=true then (kW t p W,0) else ([],2)
theorem akt (t:aJ)(p:Int)(W:Nat→Rat):wZ t p W=if (b9 t p).all (fun x=>(gX t p W x).all eB)=true then ((b9 t p).map (fun x=>⟨x,(gX t p W x).map cq⟩),0) else ([],2):=by unfold wZ qa kW y1;rw [List.all_map,tg];rfl
theorem W3 (t:aJ)(p:Int)(P:List Rat)(K:Nat)(b4:kb t)(af:Valid t)(dE:1≤K∧K≤400000)(nG: ∀q∈P,D K q)(aqy:(bW t p).length≤P.length)(aqz:P.length≤1000000):
 br Tryz.prog 97 [.ro (bS t) 0 t.length,.int .i64 p,ij t p,.ro (aO P) 0 P.length] (.ck [.ro (cw (wZ t p (fun k=>P.getD k 0)).1) 0 (wZ t p (fun k=>P.getD k 0)).1.length,.int .i64 (wZ t p (fun k=>P.getD k 0)).2]):=by
 refine cg Tryz.f97 fun c ar bJ=> ?_;rw [akt] at ar;have eg:=Kv t p b4.len;have Hx:=C7 af p;have aqr:(b9 t p).length≤10:=by unfold b9;exact dU (tf _ _) b1
 have cy: ∀k,k<(b9 t p).length→(j3 t p).getD k 0=((ca t p ((b9 t p).getD k 0):Nat):Int):=fun k an=>by unfold j3;rw [nk _ _ 0 _ _ an]
 have Ia:(j3 t p).length=(b9 t p).length:=by unfold j3;exact cW _
 have agr: ∀x∈b9 t p,1≤ca t p x∧ca t p x≤6:=fun x al=>by obtain ⟨s,b,g⟩:=xr af al;exact ⟨g.lp,aly af al⟩
 have aej: ∀x∈b9 t p,pz (bW t p) (fun k=>P.getD k 0) x (hG (ca t p x) 0) (bW t p).length=gX t p (fun k=>P.getD k 0) x:=fun x al=>aaB af al _;have iR:=ajK af p;have LU: ∀k,k<(bW t p).length→0≤((bW t p).getD k c5).before→0≤((bW t p).getD k c5).choice∧((bW t p).getD k c5).choice.toNat<ca t p ((bW t p).getD k c5).info:=fun k an aM=>by
  obtain ⟨s,b,g⟩:=xr af (iR k an aM).1;obtain ⟨g1,g2⟩:=XG af g an aM rfl;have g3:=g.cx (k-s) J;rw [show s+(k-s)=k by omega] at g3;have g4:((bW t p).getD k c5).choice=((k-s:Nat):Int):=by rw [g3]
  rw [g4];omega
 have LG: ∀k,D K (P.getD k 0):=fun k=>by
  rcases gA k P.length with h|h
  ·exact nG _ (dv 0 h)
  ·rw [wh,kD h];exact (Dw 0).mono dE.1
 have aeg: ∀x∈b9 t p,(gX t p (fun k=>P.getD k 0) x).length=ca t p x∧ ∀q∈gX t p (fun k=>P.getD k 0) x,D (K+K) q:=fun x al=>aaC af dE.1 LG al;have ael:=fun k an aM=>(iR k an aM).2;unfold ij;clear b4 af iR;refine bE ?_;refine aL I I I eg ?_;repeat (first|refine aq (bD rfl) ?_|refine aq (dC rfl) ?_|refine cY ?_|refine b6 ?_|refine du ?_|refine dc rfl ?_|refine aq (nP rfl rfl) ?_|refine aq (gm rfl rfl rfl) ?_)
 clear eg;have wP:t.length=t.length:=rfl;generalize gX t p (fun k=>P.getD k 0)=ob at*;generalize adU:(fun k=>P.getD k 0)=W at*;have RV: ∀k,P.getD k 0=W k:=fun k=>by rw [←adU]
 generalize ca t p=wd at*;generalize b9 t p=bU at*;generalize j3 t p=Z at*;generalize bW t p=bo at*;generalize hQ t p=o8 at*;generalize t.length=o9 at*;refine lK 12 ⟨136,cw []⟩ I I ?_;repeat (refine fV ?_)
 refine cF (ι:=Nat) (fun k=>[(2,.cK (.box [.ro (hv bo) 0 bo.length,.ro (.ints .i64 o8) 0 o9]) 0 0),(3,.ro (aO P) 0 P.length),(10,.ro (.ints .i64 bU) 0 bU.length),(11,.ro (.ints .i64 Z) 0 Z.length),(12,.aC 0 0 k),(26,.ro (.ints .i64 bU) 0 bU.length),(27,ah bU.length),(28,ah k)]) (fun k=>[some ⟨136,cw ((bU.take k).map (fun x=>⟨x,(ob x).map cq⟩))⟩])
  (fun k=>k≤bU.length∧(bU.take k).all (fun x=>(ob x).all eB)=true) (fun k=>bU.length-k) 0 ⟨aH,rfl,cj _,rfl⟩ ?_
 rintro k ⟨an,ss⟩;refine bh ?_;refine bw I (fun h=> ?_) (fun h=> ?_)
 ·have b0:k<bU.length:=J;have afm:k<Z.length:=J;have H8:bU.getD k 0∈bU:=dv 0 b0;have age:=cy k b0;obtain ⟨MM,MN⟩:=agr _ H8;have aep:=aej _ H8;obtain ⟨zM,aei⟩:=aeg _ H8;have l6:(bU.take (k+1)).map (fun x=>(⟨x,(ob x).map cq⟩:hW))=(bU.take k).map (fun x=>⟨x,(ob x).map cq⟩)++[⟨bU.getD k 0,(ob (bU.getD k 0)).map cq⟩]:=by rw [n9 b0,hb,←eA 0 b0];rfl
  have Sp:(bU.take (k+1)).all (fun x=>(ob x).all eB)=(ob (bU.getD k 0)).all eB:=by rw [n9 b0,List.all_append,ss,←eA 0 b0,mU];show ((ob (bU.getD k 0)).all eB && true)=_;rw [Bool.and_true]
  have iv:((bU.take k).map (fun x=>(⟨x,(ob x).map cq⟩:hW))).length=k:=by rw [cW,fy];omega
  have LN:(ob (bU.getD k 0)).all eB=false→bU.all (fun x=>(ob x).all eB)=false:=fun aR=>by
   cases aA:bU.all (fun x=>(ob x).all eB)
   ·rfl
   ·rw [se] at aA;have:=aA _ H8;rw [aR] at this;cases this
  generalize Hl:(bU.take (k+1)).map (fun x=>(⟨x,(ob x).map cq⟩:hW))=oM at*;generalize (bU.take k).map (fun x=>(⟨x,(ob x).map cq⟩:hW))=O at*;refine bf ?_;generalize bU.getD k 0=x at*;generalize agu:wd x=w at*;generalize ob x=uG at*;refine bR 36 (ah w) I (aU.of_eq (by rw [age])) ?_;have aby:=X7 w J;have fk:(List.replicate w (0:Rat)).length=w:=fc ..;have agl:(List.replicate w (0:Rat)).set 0 1=hG w 0:=rfl;have Se:0<(aO (List.replicate w 0)).len:=by show 0<(List.replicate w (0:Rat)).length;omega
  generalize List.replicate w (0:Rat)=A at*;refine nR I I I aby (bE ?_);refine aL I I I vA ?_;unfold b8;repeat (refine aq (gr rfl rfl rfl rfl rfl hq J) ?_)
  refine eN (c':=aO (A.set 0 1)) I I I I I Se (by show (List.set _ _ _).length=A.length;simp) I (fun aK ba aQ bd=>jw 0 3 bV A 0 1 Se aK ba aQ bd) ?_;rw [agl];repeat (first|refine aq (bD rfl) ?_|refine cY ?_|refine b6 ?_|refine du ?_|refine dc rfl ?_|refine fV ?_|refine aq (gm rfl rfl rfl) ?_|refine aq (lq rfl rfl rfl rfl) ?_|refine aq (pe rfl) ?_|refine aq (lJ rfl rfl rfl rfl rfl rfl) ?_)
  refine jv [some ⟨136,cw O⟩,some ⟨118,aO (pz bo W x (hG w 0) 0)⟩] I ?_;refine cF (ι:=Nat) (fun j=>[(2,.cK (.box [.ro (hv bo) 0 bo.length,.ro (.ints .i64 o8) 0 o9]) 0 0),(3,.ro (aO P) 0 P.length),(10,.ro (.ints .i64 bU) 0 bU.length),(11,.ro (.ints .i64 Z) 0 Z.length),(12,.aC 0 0 k),(26,.ro (.ints .i64 bU) 0 bU.length),(27,ah bU.length),(28,ah k),(14,.int .i64 x),(15,.aC 1 0 w),(44,.ro (hv bo) 0 bo.length),(45,ah bo.length),(46,ah j)]) (fun j=>[some ⟨136,cw O⟩,some ⟨118,aO (pz bo W x (hG w 0) j)⟩])
   (fun j=>j≤bo.length) (fun j=>bo.length-j) 0 ⟨aH,rfl,cj _⟩ ?_
  intro j ae;refine bh ?_;refine bw I (fun db=> ?_) (fun db=> ?_)
  ·have bd:j<bo.length:=J;have e2:=akv (bo:=bo) (W:=W) (x:=x) (k:=j) (o:=pz bo W x (hG w 0) j);have H9:=fun b gd=>aoN (bo:=bo) (W:=W) (x:=x) (k:=j) (b:=b) (c:=gd) (o:=pz bo W x (hG w 0) j);have dT:pz bo W x (hG w 0) (j+1)=A8 bo W x j (pz bo W x (hG w 0) j):=rfl;have aeo:=FO bo W x (hG w 0) j;rw [(yE (c:=0) J).1] at aeo;have aex:=LU j bd;have aem:=ael j bd;rw [←dT] at e2 H9;clear dT;generalize uK:pz bo W x (hG w 0) (j+1)=QE at*;generalize pz bo W x (hG w 0) j=B at*;refine bf ?_;refine bR 50 (.agg (ud (bo.getD j c5))) I (aU.of_eq I) ?_;generalize bo.getD j c5=y at*;obtain ⟨bM,gd,wi⟩:=y;simp only at*;refine dj (c':= .box [.int .i64 bM,.int .i64 gd,.int .i64 wi]) I I I I I I I ?_;refine dA [some ⟨136,cw O⟩,some ⟨118,aO B⟩,some ⟨178,.box [.int .i64 bM,.int .i64 gd,.int .i64 wi]⟩] I (fe ?_);by_cases g1:0≤wi
   case neg=>
    rw [fP g1];have e2:=e2 (fun q=>g1 q.1);repeat (first|refine aq (bD rfl) ?_|refine cY ?_|refine tQ rfl rfl rfl ?_|refine aq (mH rfl rfl) ?_)
    refine b6 ?_;refine fS ?_;refine b6 ?_;refine fB [some ⟨136,cw O⟩,some ⟨118,aO B⟩] [some ⟨178,.box [.int .i64 bM,.int .i64 gd,.int .i64 wi]⟩] [(2,.cK (.box [.ro (hv bo) 0 bo.length,.ro (.ints .i64 o8) 0 o9]) 0 0),(3,.ro (aO P) 0 P.length),(10,.ro (.ints .i64 bU) 0 bU.length),(11,.ro (.ints .i64 Z) 0 Z.length),(12,.aC 0 0 k),(26,.ro (.ints .i64 bU) 0 bU.length),(27,ah bU.length),(28,ah k),(14,.int .i64 x),(15,.aC 1 0 w),(44,.ro (hv bo) 0 bo.length),(45,ah bo.length),(46,ah j)] I aH hO (Gm (I1 _ _) (xd _ _)) I (bt ?_);exact cc ⟨j+1,J,J,aH,by rw [uK,e2]⟩
   rw [eG g1];refine bl ?_;by_cases g2:bM=x
   case neg=>
    rw [fP g2];have e2:=e2 (fun q=>g2 q.2.1);repeat (first|refine cY ?_|refine tQ rfl rfl rfl ?_|refine aq (mH rfl rfl) ?_)
    refine b6 ?_;refine fS ?_;refine b6 ?_;refine fB [some ⟨136,cw O⟩,some ⟨118,aO B⟩] [some ⟨178,.box [.int .i64 bM,.int .i64 gd,.int .i64 wi]⟩] [(2,.cK (.box [.ro (hv bo) 0 bo.length,.ro (.ints .i64 o8) 0 o9]) 0 0),(3,.ro (aO P) 0 P.length),(10,.ro (.ints .i64 bU) 0 bU.length),(11,.ro (.ints .i64 Z) 0 Z.length),(12,.aC 0 0 k),(26,.ro (.ints .i64 bU) 0 bU.length),(27,ah bU.length),(28,ah k),(14,.int .i64 x),(15,.aC 1 0 w),(44,.ro (hv bo) 0 bo.length),(45,ah bo.length),(46,ah j)] I aH hO (Gm (I1 _ _) (xd _ _)) I (bt ?_);exact cc ⟨j+1,J,J,aH,by rw [uK,e2]⟩
   subst g2;rw [eG rfl];obtain ⟨b,rfl⟩:=oW g1;have aqH:b<bo.length:=by have:=aem g1;omega
   obtain ⟨aer,BC⟩:=aex g1;obtain ⟨bb,rfl⟩:=oW aer;rw [cn,agu] at BC;have adL:=RV j;have RW:=RV b;have aaV:=Yg (P.getD b 0);have aqk:j<P.length:=J;have aqj:b<P.length:=J;refine bf ?_;refine aL I I I aaV (bf ?_);rw [akb,RW];by_cases g3:0<W b
   case neg=>
    rw [fP g3];have e2:=e2 (fun q=>g3 q.2.2);refine fS ?_;refine b6 ?_;refine fB [some ⟨136,cw O⟩,some ⟨118,aO B⟩] [some ⟨178,.box [.int .i64 bM,ah bb,ah b]⟩] [(2,.cK (.box [.ro (hv bo) 0 bo.length,.ro (.ints .i64 o8) 0 o9]) 0 0),(3,.ro (aO P) 0 P.length),(10,.ro (.ints .i64 bU) 0 bU.length),(11,.ro (.ints .i64 Z) 0 Z.length),(12,.aC 0 0 k),(26,.ro (.ints .i64 bU) 0 bU.length),(27,ah bU.length),(28,ah k),(14,.int .i64 bM),(15,.aC 1 0 w),(44,.ro (hv bo) 0 bo.length),(45,ah bo.length),(46,ah j)] I aH hO (Gm (I1 _ _) (xd _ _)) I (bt ?_);exact cc ⟨j+1,J,J,aH,by rw [uK,e2]⟩
   rw [eG g3];have H9:=H9 b bb rfl g3;have cdiv:br Tryz.prog 133 [b8 (P.getD j 0),b8 (P.getD b 0)] (b8 (W j/W b)):=by have Rr:=LG j;have zF:=LG b;rw [adL] at Rr⊢;rw [RW] at zF⊢;exact ajd (W j) (W b) (hi (Rr.mono J)) (hi (zF.mono J)) (fun e=>by rw [e] at g3;exact absurd g3 (by decide+kernel))
   have Sf:bb<(aO B).len:=by show bb<B.length;omega
   generalize W j/W b=v at*;repeat (refine rM rfl ?_)
   refine ee ag ?_;refine eM (fuel:=1) [0,1,2,3,4,5,6,7,8,9,10,11,12,13] [(2,.cK (.box [.ro (hv bo) 0 bo.length,.ro (.ints .i64 o8) 0 o9]) 0 0),(3,.ro (aO P) 0 P.length),(10,.ro (.ints .i64 bU) 0 bU.length),(11,.ro (.ints .i64 Z) 0 Z.length),(12,.aC 0 0 k),(26,.ro (.ints .i64 bU) 0 bU.length),(27,ah bU.length),(28,ah k),(14,.int .i64 bM),(15,.aC 1 0 w),(44,.ro (hv bo) 0 bo.length),(45,ah bo.length),(46,ah j),(16,ah j),(17,.ptr 2 0 0)] aH ag aT I I ?_;refine cI ?_;refine dW I I I I I cdiv ?_;refine cI ?_;refine eI ?_;refine bn 14 ?_;skip
   unfold b8;refine eN (c':=aO (B.set bb v)) I I I I I Sf (by show (List.set _ _ _).length=B.length;simp) I (fun aK ba aQ bd=>jw 0 3 bV B bb v Sf aK ba aQ bd) (bp ?_);refine dX ag ?_;repeat (refine kQ ?_)
   refine b6 ?_;refine fB [some ⟨136,cw O⟩,some ⟨118,aO (B.set bb v)⟩] [some ⟨178,.box [.int .i64 bM,ah bb,ah b]⟩] [(2,.cK (.box [.ro (hv bo) 0 bo.length,.ro (.ints .i64 o8) 0 o9]) 0 0),(3,.ro (aO P) 0 P.length),(10,.ro (.ints .i64 bU) 0 bU.length),(11,.ro (.ints .i64 Z) 0 Z.length),(12,.aC 0 0 k),(26,.ro (.ints .i64 bU) 0 bU.length),(27,ah bU.length),(28,ah k),(14,.int .i64 bM),(15,.aC 1 0 w),(44,.ro (hv bo) 0 bo.length),(45,ah bo.length),(46,ah j)] I aH hO (Gm (I1 _ _) (xd _ _)) I (bt ?_);exact cc ⟨j+1,J,J,aH,by rw [uK,H9]⟩
  ·have hc:j=bo.length:=J;subst hc;rw [aep];have aeh: ∀q∈uG,ga 100000 q:=fun q aA=>hi ((aei q aA).mono J);have aeq:uG.length=w:=J;obtain ⟨r,co,ad⟩:=apr uG J aeh;unfold xn at co ad;refine iq ?_;refine mG 1 15 w [(2,.cK (.box [.ro (hv bo) 0 bo.length,.ro (.ints .i64 o8) 0 o9]) 0 0),(3,.ro (aO P) 0 P.length),(10,.ro (.ints .i64 bU) 0 bU.length),(11,.ro (.ints .i64 Z) 0 Z.length),(12,.aC 0 0 k),(26,.ro (.ints .i64 bU) 0 bU.length),(27,ah bU.length),(28,ah k),(14,.int .i64 x)] I (oA _) I (by show w≤uG.length;omega) aH ?_;refine ea 15 (.ro (aO uG) 0 uG.length) I (aU.of_eq (by rw [aeq])) ?_;cases aR:uG.all eB with
   |false=>
    rw [aR,aw aT] at co;rw [aw (by rw [LN aR];decide)] at ar;refine bE ?_;refine aL I I I co (u9 ?_);refine ea 8 (.ro (cw []) 0 0) I aU.nil (bf ?_);exact aZ ar I I
   |true=>
    rw [aR,aB rfl] at co ad;have ad:aU r (.ro (.strs (uG.map cq)) 0 (uG.map cq).length):=ad;rw [aR] at Sp;generalize uG.map cq=T at*;refine bE ?_;refine aL I I I co ?_;refine iq ?_;refine ea 18 (.ro (.strs T) 0 T.length) I ad ?_;repeat (first|refine aq (bD rfl) ?_|refine cY ?_|refine b6 ?_|refine dc rfl ?_|refine pd rfl ?_|refine jk ?_|refine aq (rZ rfl rfl) ?_|refine aq (ji rfl rfl rfl rfl rfl rfl) ?_|refine ju rfl rfl rfl rfl rfl rfl rfl rfl rfl rfl rfl ?_)
    refine dI I I I I I I I I I iv I I eu I (by show (k+1)*32≤_∧_;omega) ?_ dq ?_
    ·intro aK j aa ae;exact iF gD 2 oY UR O ⟨x,T⟩ _ (T4 ⟨x,T⟩) 0 aK j aa ae
    refine fS ?_;refine b6 ?_;refine mJ ([some ⟨136,cw oM⟩]++[none]) ?_ ?_
    ·rw [l6];exact aP.eqv (h7 gD 2 oY O ⟨x,T⟩ _ (T4 ⟨x,T⟩)) (aP.drop aP.nil)
    refine AR (H1:=[some ⟨136,cw oM⟩]) I dq ?_;refine mJ [some ⟨136,cw oM⟩] ?_ ?_
    ·exact aP.eqv ⟨I,I,fun i j _ ae=>(UR _ j _ ae).symm⟩ aP.nil
    refine bt ?_;exact cc ⟨k+1,⟨J,Sp⟩,J,aH,by rw [Hl]⟩
 ·have kk:k=bU.length:=J;subst kk;rw [fO] at ss;rw [fO];rw [aB ss] at ar;have RX:(bU.map (fun x=>(⟨x,(ob x).map cq⟩:hW))).length=bU.length:=cW _;generalize bU.map (fun x=>(⟨x,(ob x).map cq⟩:hW))=R at*;refine iq ?_;refine mG 0 12 bU.length [] I (alU _) I (by show _≤R.length;omega) trivial ?_;refine ea 12 (.ro (cw R) 0 R.length) I (aU.of_eq (by rw [RX])) (bE ?_);exact aZ ar I I
theorem VW {P:Program}{f:FuncId}{args:List ao}{b3:aY}{o k w:Nat}{t1:TypeId}{hd:Nat→Nat}{G F:Nat→Nat→ao}{g:Nat→Cells}(av:cm P f args [] (fun _=>False) (fun r H=>r= .aC o 0 k∧H=b3))(aG:c2.e9 args=true)(aM:b3[o]? =some (some ⟨t1,.fn k 1 G⟩))(dL: ∀i,i<k→G i 0= .aC (hd i) 0 w)(ad: ∀i,i<k→hd i≠o∧w≤(g i).len∧ ∃t2,b3[hd i]? =some (some ⟨t2,g i⟩))(au: ∀h bg,h≠o→b3[h]? =some (some bg)→e5 bg.c)(l1: ∀i,i<k→F i 0= .ro (g i) 0 w):
 br P f args (.ro (.fn k 1 F) 0 k):=by
 have ai:o<b3.length:=(gZ.1 aM).1;have aE:((List.replicate b3.length (none:Option bm)).set o (some ⟨t1,.fn k 1 F⟩))[o]? =some (some ⟨t1,.fn k 1 F⟩):=oP (by rw [fc];exact ai);have aF: ∀h bg,((List.replicate b3.length (none:Option bm)).set o (some ⟨t1,.fn k 1 F⟩))[h]? =some (some bg)→h=o∧bg=⟨t1,.fn k 1 F⟩:=by
  intro h bg aX;by_cases q:h=o
  ·subst q;rw [aE] at aX;cases aX;exact ⟨rfl,rfl⟩
  ·rw [lW (fun e=>q e.symm),pJ] at aX;split at aX<;>cases aX
 have bO: ∀h bg,(b3.set o none)[h]? =some (some bg)→h≠o∧b3[h]? =some (some bg):=by
  intro h bg aX;by_cases q:h=o
  ·subst q;rw [oP ai] at aX;cases aX
  ·rw [lW (fun e=>q e.symm)] at aX;exact ⟨q,aX⟩
 refine cm.value (K:=fun r H=>r= .aC o 0 k∧H=(List.replicate b3.length none).set o (some ⟨t1,.fn k 1 F⟩)) (cm.RB av ?_) (fix:=fun _=>False) (fun _ h=>h) aG ?_
 ·rintro cU H ⟨rfl,rfl⟩;refine ⟨H.set o none,_,_,⟨fun h bg aX=>(bO h bg aX).2,fun h bg aX=>au h bg (bO h bg aX).1 (bO h bg aX).2,by rw [da,fc],fun h bg aX=> ?_,.inl I⟩,I,I⟩;obtain ⟨rfl,rfl⟩:=aF h bg aX;refine ⟨fun bg ak=>(bO _ bg ak).1 I,_,aM,I,I,I,fun i j aa ae=> ?_⟩;have aa:i<k:=aa;obtain rfl:=ft.1 (show j<1 from ae);obtain ⟨g1,g2,t2,g3⟩:=ad i aa;have g4:(H.set h none)[hd i]? =some (some ⟨t2,g i⟩):=by rw [lW (fun e=>g1 e.symm)];exact g3
  show vR _ (G i 0) (F i 0);rw [dL i aa,l1 i aa];refine .inr (.inr ⟨?_,fun bg ak=> ?_⟩)
  ·simp only [ao.kL,g4]
  ·rw [g4] at ak;cases ak;show 0+w≤(g i).len;omega
 ·rintro r H ⟨rfl,rfl⟩;refine ⟨?_,fun bg ak=> ?_,fun h bg aX=> ?_⟩
  ·simp only [ao.kL,aE]
  ·rw [aE] at ak;cases ak;show 0+k≤k;omega
  ·obtain ⟨rfl,rfl⟩:=aF h bg aX;intro i j aa ae;have aa:i<k:=aa;obtain rfl:=ft.1 (show j<1 from ae);show c2 (F i 0)=true;rw [l1 i aa];rfl
abbrev aaY (r:List Int):List ao:=[.ro (.ints .i64 r) 0 r.length]
abbrev gf (R:List (List Int)):Cells:=fI [] 1 aaY R
def tu:Nat→Nat
 |0=>0
 |k+1=>k+3
abbrev uq (n k:Nat):Cells:= .fn k 1 (fun i _=> .aC (tu i) 0 n)
abbrev fm (n:Nat)(cU:List Int)(F:List (Int×Nat))(R:List (List Int))(T:aY):aY:=
 some ⟨3,.ints .i64 cU⟩::some ⟨55,uq n (R.length+1)⟩::some ⟨185,mo F⟩::(gn 3 (fun r:List Int=>Cells.ints .i64 r) R++T)
section
variable {n k:Nat}{cU:List Int}{F:List (Int×Nat)}{R:List (List Int)}{T:aY}
theorem vl:(fm n cU F R T).length=R.length+3+T.length:=by show (gn _ _ R++T).length+1+1+1=_;rw [di,vn];omega
theorem OG (h:k<R.length):(fm n cU F R T)[k+3]? =some (some ⟨3,.ints .i64 (R.getD k [])⟩):=by show (gn _ _ R++T)[k]? =_;rw [Xs (by rw [vn];exact h),WD _ _ R [] h]
theorem CL {j:Nat}:(fm n cU F R T)[R.length+3+j]? =T[j]? :=by rw [show R.length+3+j=(R.length+j)+3 by omega];show (gn _ _ R++T)[R.length+j]? =_;exact tZ (by rw [vn])
theorem Ws (x:List Int)(h:k<R.length):(fm n cU F R T).set (k+3) (some ⟨3,.ints .i64 x⟩)=fm n cU F (R.set k x) T:=by show _::_::_::((gn _ _ R++T).set k _)=_;rw [W0 _ (by rw [vn];exact h),WE];show _::some (⟨_,uq n (R.length+1)⟩:bm)::_=_::some ⟨_,uq n ((R.set k x).length+1)⟩::_;rw [da]
theorem IU {j:Nat}(x:Option bm):(fm n cU F R T).set (R.length+3+j) x=fm n cU F R (T.set j x):=by rw [show R.length+3+j=(R.length+j)+3 by omega];show _::_::_::((gn _ _ R++T).set (R.length+j) x)=_;rw [p5 x (by rw [vn])]
theorem CK (M:aY):fm n cU F R T++M=fm n cU F R (T++M):=by show _::_::_::((gn _ _ R++T)++M)=_;rw [mr]
theorem amj (h:Nat)(aX:R.length+3≤h):aP (c6 h (fm n cU F R T)) (fm n cU F R (c6 h T)):=by
 have e:c6 h (fm n cU F R T)=some ⟨3,.ints .i64 cU⟩::some ⟨55,(uq n (R.length+1)).forget h⟩::some ⟨185,(mo F).forget h⟩::(gn 3 (fun r:List Int=>Cells.ints .i64 r) R++c6 h T):=by show some (⟨_,_⟩:bm)::some (⟨_,_⟩:bm)::some (⟨_,_⟩:bm)::c6 h (gn _ _ R++T)=_;rw [w9,I5 h (fun _=>rfl)];rfl
 rw [e];refine aP.same (aP.eqv ⟨I,I,fun i j aa ae=> ?_⟩ (aP.eqv (Oa F h) (aP.refl _)));obtain rfl:=ft.1 (show j<1 from ae);have aa:i<R.length+1:=aa;show ao.aC (tu i) 0 n=ao.forget h (ao.aC (tu i) 0 n);have:tu i≠h:=by
  cases i with
  |zero=>show 0≠h;omega
  |succ k=>show k+3≠h;omega
 unfold ao.forget;rw [dz this];rfl
theorem amD {x:List Int}{y:Option bm}{c':Cells}(av:cG c' (uq n (R.length+1+1))):aP ((c6 1 (fm n cU F R [some ⟨3,.ints .i64 x⟩,y])).set 1 (some ⟨55,c'⟩)) (fm n cU F (R++[x]) [none]):=by
 have e:c6 1 (fm n cU F R [some ⟨3,.ints .i64 x⟩,y])=some ⟨3,.ints .i64 cU⟩::some ⟨55,(uq n (R.length+1)).forget 1⟩::some ⟨185,(mo F).forget 1⟩::(gn 3 (fun r:List Int=>Cells.ints .i64 r) R++[some ⟨3,.ints .i64 x⟩,jl 1 y]):=by show some (⟨_,_⟩:bm)::some (⟨_,_⟩:bm)::some (⟨_,_⟩:bm)::c6 1 (gn _ _ R++_)=_;rw [w9,I5 1 (fun _=>rfl)];rfl
 rw [e];have aF:fm n cU F (R++[x]) [none]=some ⟨3,.ints .i64 cU⟩::some ⟨55,uq n (R.length+1+1)⟩::some ⟨185,mo F⟩::(gn 3 (fun r:List Int=>Cells.ints .i64 r) R++[some ⟨3,.ints .i64 x⟩,none]):=by show _::some (⟨_,uq n ((R++[x]).length+1)⟩:bm)::_::(gn _ _ (R++[x])++[none])=_;rw [di,←VQ,mr];rfl
 rw [aF];exact aP.same (aP.eqv av (aP.eqv (Oa F 1) (aP.append (aP.refl _) (aP.same (aP.drop aP.nil)))))
theorem ano {q:bm}{x:List Int}:aP (yj (fm n cU F R [some q,some ⟨3,.ints .i64 x⟩]) (R.length+3) (R.length+4) ⟨3,.ints .i64 x⟩) (fm n cU F R [some ⟨3,.ints .i64 x⟩,none]):=by unfold yj;have U:=amj (n:=n) (cU:=cU) (F:=F) (R:=R) (T:=[some q,some ⟨3,.ints .i64 x⟩]) (R.length+3) (bN _);have ab:=aP.set (aP.set U (R.length+3) (x:=some ⟨3,.ints .i64 x⟩) (x':=some ⟨3,.ints .i64 x⟩) (fun o ai=>by cases ai;exact ⟨_,rfl,rfl,cG.refl _⟩)) (R.length+4) (x:=none) (x':=none) (fun o ai=>by cases ai);have aE:=IU (n:=n) (cU:=cU) (F:=F) (R:=R) (T:=c6 (R.length+3) [some q,some ⟨3,.ints .i64 x⟩]) (j:=0) (some ⟨3,.ints .i64 x⟩);have aE:(fm n cU F R (c6 (R.length+3) [some q,some ⟨3,.ints .i64 x⟩])).set (R.length+3) (some ⟨3,.ints .i64 x⟩)=fm n cU F R [some ⟨3,.ints .i64 x⟩,some ⟨3,.ints .i64 x⟩]:=aE;rw [aE] at ab;have aF:=IU (n:=n) (cU:=cU) (F:=F) (R:=R) (T:=[some ⟨3,.ints .i64 x⟩,some ⟨3,.ints .i64 x⟩]) (j:=1) none;have aF:(fm n cU F R [some ⟨3,.ints .i64 x⟩,some ⟨3,.ints .i64 x⟩]).set (R.length+4) none=fm n cU F R [some ⟨3,.ints .i64 x⟩,none]:=aF;rw [aF] at ab;exact ab
theorem NV (m:Nat)(hm:R.length+3≤m)(b4: ∀o:bm,some o∈T→fw m o.c): ∀(h:Nat) (o:bm),(fm n cU F R T)[h]? =some (some o)→fw m o.c:=by
 intro h o ai;have eQ:=pS ai;unfold fm at eQ;rw [gb,gb,gb,gM] at eQ;rcases eQ with e|e|e|eQ|eQ
 ·cases e;intro i j _ ae;rfl
 ·cases e;intro i j aa ae;obtain rfl:=ft.1 (show j<1 from ae);have aa:i<R.length+1:=aa;show gV m (ao.aC (tu i) 0 n)=true;refine rb ?_;cases i with
  |zero=>show 0+1≤m;omega
  |succ k=>show k+3+1≤m;omega
 ·cases e;exact CI F m
 ·obtain ⟨a,_,e⟩:=cS.1 eQ;cases e;intro i j _ ae;rfl
 ·exact b4 o eQ
end
theorem WM (n k:Nat)(eH:Cells)(aM:eH.at 0 0= .aC (k+3) 0 n):cG (.fn (k+1+1) 1 (fun i j=>bif Nat.blt i (k+1) then (uq n (k+1)).at i j else eH.at (0+(i-(k+1))) j)) (uq n (k+1+1)):=by
 refine ⟨I,I,fun i j aa ae=> ?_⟩;obtain rfl:=ft.1 (show j<1 from ae);have aa:i<k+1+1:=aa;show ao.aC (tu i) 0 n=bif Nat.blt i (k+1) then ao.aC (tu i) 0 n else eH.at (0+(i-(k+1))) 0;by_cases e:i<k+1
 ·rw [show Nat.blt i (k+1)=true from rb e];rfl
 ·have aF:i=k+1:=J;subst aF;rw [show Nat.blt (k+1) (k+1)=false by
   cases h:Nat.blt (k+1) (k+1) with
   |false=>rfl
   |true=>exact absurd (iZ h) (Nat.not_succ_le_self _)]
  rw [pK,fg];exact aM.symm
theorem anq (bo:List ff)(o8:List Int)(o9:Nat)(U:1≤bo.length)(ab:bo.length≤1000)(ak: ∀k,1≤k→k<bo.length→0≤(bo.getD k c5).before∧(bo.getD k c5).before.toNat<bo.length):
 cm Tryz.prog 95 [.cK (.box [.ro (hv bo) 0 bo.length,.ro (.ints .i64 o8) 0 o9]) 0 0] [] (fun _=>False) (fun r H=>r= .aC 1 0 ((lM bo (bo.length-1)).rows.tail.length+1)∧H=fm bo.length (eZ bo.length) (lM bo (bo.length-1)).fst (lM bo (bo.length-1)).rows.tail []):=by
 refine hx (P:=Tryz.prog) (fn:=Tryz.f95) I I ag I (fun c ar bJ=> ?_);repeat (first|refine aq (bD rfl) ?_|refine aq (dC rfl) ?_|refine cY ?_|refine b6 ?_|refine du ?_|refine dc rfl ?_|refine aq (gm rfl rfl rfl) ?_|refine aq (lq rfl rfl rfl rfl) ?_|refine aq (pe rfl) ?_|refine aq (lJ rfl rfl rfl rfl rfl rfl) ?_)
 refine mh I I I I I I I I (by show 0≤_∧_≤_∧(8:Int)*_≤_∧_;omega) ?_;refine dA [some ⟨3,.ints .i64 (List.replicate bo.length 0)⟩] I ?_;have HW:(List.replicate bo.length (0:Int)).length=bo.length:=fc ..;refine cX ?_;refine dA [some ⟨3,.ints .i64 (eZ bo.length)⟩] I ?_;refine ve I I I I I I I I I I (bE ?_);refine CA ?_;refine fD (fm bo.length (eZ bo.length) [] [] []) (aP.same (aP.eqv ⟨I,I,fun i j aa ae=> ?_⟩ (aP.eqv (cG.refl _) aP.nil))) ?_
 ·obtain rfl:=ft.1 (show i<1 from aa);obtain rfl:=ft.1 (show j<1 from ae);rfl
 obtain ⟨m,hm⟩: ∃m,bo.length=m+1:=⟨bo.length-1,J⟩
 have Ml:bo.length-1=m:=J;have HO:((bo.length:Int)-1).toNat=m:=J;rw [Ml] at ar;repeat (first|refine aq (bD rfl) ?_|refine aq (dC rfl) ?_|refine cY ?_|refine b6 ?_|refine du ?_|refine dc rfl ?_|refine fV ?_|refine aq (gm rfl rfl rfl) ?_|refine aq (Og rfl rfl rfl rfl rfl rfl rfl J) ?_|refine aq (lq rfl rfl rfl rfl) ?_|refine aq (pe rfl) ?_|refine aq (lJ rfl rfl rfl rfl rfl rfl) ?_)
 refine ea 26 (.ro (hv bo) 1 m) I (aU.of_eq (by rw [HO];rfl)) ?_;refine ea 27 (ah m) I (aU.of_eq (by rw [HO])) ?_;refine cF (ι:=Nat) (fun i=>[(0,.cK (.box [.ro (hv bo) 0 bo.length,.ro (.ints .i64 o8) 0 o9]) 0 0),(4,.aC 1 0 ((lM bo i).rows.tail.length+1)),(5,.mp 2),(26,.ro (hv bo) 1 m),(27,ah m),(28,ah i)]) (fun i=>fm bo.length (eZ bo.length) (lM bo i).fst (lM bo i).rows.tail [])
  (fun i=>i≤m∧xA bo.length (eZ bo.length) (lM bo i)∧(lM bo i).rows.tail.length≤i) (fun i=>m-i) 0 ⟨aH,rfl,cj _,Vf bo,bN _⟩ ?_
 rintro i ⟨aa,my,adM⟩;refine bh ?_;refine bw I (fun h=> ?_) (fun h=> ?_)
 ·have aQ:i+1<bo.length:=J;have az:=Ve aQ;have Sb:=ak (i+1) J aQ;have x3:=fun k=>Wx (i:=i) (k:=k) (q:=bo.getD (i+1) c5) my;have wJ:=VL (i:=i) (q:=bo.getD (i+1) c5) my;have Ss:=my.fst;have hlen:=my.len;rw [←az] at x3 wJ;clear az my;generalize mz:lM bo (i+1)=fb at*;generalize lM bo i=S at*;obtain ⟨rows,F⟩:=S;simp only at x3 wJ Ss hlen adM⊢;generalize rows.tail=R at*;clear rows;have Ln:(fm bo.length (eZ bo.length) F R []).length=R.length+3:=vl;refine bf ?_;refine bR 7 (.ptr (R.length+3) 0 0) I (aU.of_eq (by rw [Ln])) ?_;refine bR 32 (.agg (ud (bo.getD (i+1) c5))) I (aU.of_eq (by rw [oV 1 i];rfl)) ?_;generalize bo.getD (i+1) c5=y at*;obtain ⟨bM,gd,wi⟩:=y;simp only at x3 wJ Sb⊢;obtain ⟨tw,tx⟩:=Sb;obtain ⟨b,rfl⟩:=oW tw;rw [cn] at tx wJ;refine dA (fm bo.length (eZ bo.length) F R [some ⟨178,.box [.int .i64 0,.int .i64 0,.int .i64 0]⟩]) (by rw [CK];rfl) ?_;have f0:(fm bo.length (eZ bo.length) F R [some ⟨178,.box [.int .i64 0,.int .i64 0,.int .i64 0]⟩])[R.length+3]? =some (some ⟨178,.box [.int .i64 0,.int .i64 0,.int .i64 0]⟩):=CL (j:=0);refine eN (c':= .box [.int .i64 bM,.int .i64 gd,ah b]) I I I f0 I fx I I (fun aK ba aQ bd=> ?_) ?_
  ·rw [aB (ft.1 aQ)];rfl
  refine dA (fm bo.length (eZ bo.length) F R [some ⟨178,.box [.int .i64 bM,.int .i64 gd,ah b]⟩]) (IU (j:=0) _) ?_;have f1:(fm bo.length (eZ bo.length) F R [some ⟨178,.box [.int .i64 bM,.int .i64 gd,ah b]⟩])[R.length+3]? =some (some ⟨178,.box [.int .i64 bM,.int .i64 gd,ah b]⟩):=CL (j:=0);clear f0;refine cX ?_;cases cB:fY F bM with
  |some k=>
   obtain ⟨j,rfl,ae,aE,aF,bO⟩:=x3 k cB;obtain ⟨ng,i1,i2⟩:=yO cB;have g1:=OG (n:=bo.length) (cU:=eZ bo.length) (F:=F) (T:=[some ⟨178,.box [.int .i64 bM,.int .i64 gd,ah b]⟩]) ae;have g2:=hlen _ (dv [] ae);refine aq (vi I (.int I) I I I I (uj F) ng i1 i2) ?_;repeat (first|refine aq (bD rfl) ?_|refine aq (dC rfl) ?_|refine cY ?_|refine b6 ?_|refine du ?_|refine dc rfl ?_|refine pd rfl ?_|refine jk ?_|refine aq (vM rfl) ?_|refine aq (nP rfl rfl) ?_|refine aq (hE rfl rfl J) ?_|refine aq (gr rfl rfl rfl rfl rfl hq J) ?_|refine aq (Cu rfl rfl rfl rfl rfl nM) ?_|refine aq (mE rfl rfl rfl) ?_)
   refine bR 68 (.ptr (j+3) (i+1) 0) I (aU.of_eq I) ?_;refine lL I I I I g1 I I (by show i+1<(R.getD j []).length;omega) ?_;refine dA (fm bo.length (eZ bo.length) F (R.set j ((R.getD j []).set (i+1) 1)) [some ⟨178,.box [.int .i64 bM,.int .i64 gd,ah b]⟩]) (Ws _ ae) ?_;refine fS ?_;refine b6 ?_;refine fB (fm bo.length (eZ bo.length) F (R.set j ((R.getD j []).set (i+1) 1)) []) [some ⟨178,.box [.int .i64 bM,.int .i64 gd,ah b]⟩] [(0,.cK (.box [.ro (hv bo) 0 bo.length,.ro (.ints .i64 o8) 0 o9]) 0 0),(4,.aC 1 0 (R.length+1)),(5,.mp 2),(26,.ro (hv bo) 1 m),(27,ah m),(28,ah i)] (by rw [CK];rfl) aH hO (NV _ (by rw [vl];exact bN _) (fun o ai=>(zD ai).elim)) (by rw [vl];simp [kr,gV]) (bt ?_);exact cc ⟨i+1,⟨J,by rw [mz];exact bO,by rw [mz,aE,da];omega⟩,J,⟨I,by rw [mz,aE,da];rfl,I,I,I,I,trivial⟩,by rw [mz,aE,aF]⟩
  |none=>
   obtain ⟨aE,aF,bO⟩:=wJ cB;refine aq (IN I (.int I) I I I I I I I I (uj F) (CO cB)) ?_;repeat (first|refine aq (bD rfl) ?_|refine aq (dC rfl) ?_|refine cY ?_|refine b6 ?_|refine du ?_|refine dc rfl ?_|refine rM rfl ?_|refine aq (vM rfl) ?_|refine aq (nP rfl rfl) ?_|refine aq (gm rfl rfl rfl) ?_|refine aq (ds rfl rfl rfl rfl rfl rfl) ?_|refine aq (pc rfl rfl rfl h2 ll) ?_)
   refine Cs I (.int I) I I I I I (uj F) (CO cB) ?_;refine dA (fm bo.length (eZ bo.length) (F++[(bM,R.length+1)]) R [some ⟨178,.box [.int .i64 bM,.int .i64 gd,ah b]⟩]) (by unfold fm mo;rw [hb,hb];rfl) ?_;generalize Eg:F++[(bM,R.length+1)]=oJ at*;clear f1 Ss x3 wJ;have abY:(fm bo.length (eZ bo.length) oJ R [some ⟨178,.box [.int .i64 bM,.int .i64 gd,ah b]⟩]).length=R.length+4:=vl;repeat (first|refine aq (bD rfl) ?_|refine cY ?_|refine b6 ?_|refine du ?_|refine dc rfl ?_|refine aq (gm rfl rfl rfl) ?_|refine aq (lq rfl rfl rfl rfl) ?_|refine aq (pe rfl) ?_|refine aq (lJ rfl rfl rfl rfl rfl rfl) ?_)
   refine mh I I I I I I I I (by show 0≤_∧_≤_∧(8:Int)*_≤_∧_;omega) ?_;refine dA (fm bo.length (eZ bo.length) oJ R [some ⟨178,.box [.int .i64 bM,.int .i64 gd,ah b]⟩,some ⟨3,.ints .i64 (List.replicate bo.length 0)⟩]) (by rw [CK];rfl) ?_;refine bR 53 (.aC (R.length+4) 0 bo.length) I (aU.of_eq (by rw [abY];rfl)) ?_;have f1:(fm bo.length (eZ bo.length) oJ R [some ⟨178,.box [.int .i64 bM,.int .i64 gd,ah b]⟩,some ⟨3,.ints .i64 (List.replicate bo.length 0)⟩])[R.length+3]? =some (some ⟨178,.box [.int .i64 bM,.int .i64 gd,ah b]⟩):=CL (j:=0);have f2:(fm bo.length (eZ bo.length) oJ R [some ⟨178,.box [.int .i64 bM,.int .i64 gd,ah b]⟩,some ⟨3,.ints .i64 (List.replicate bo.length 0)⟩])[R.length+4]? =some (some ⟨3,.ints .i64 (List.replicate bo.length 0)⟩):=CL (j:=1);refine cX ?_;refine lL I I I I f2 I I (by show b<(List.replicate bo.length (0:Int)).length;omega) ?_;have oo:((List.replicate bo.length (0:Int)).set b (-1)).length=bo.length:=by rw [da];exact HW
   refine dA (fm bo.length (eZ bo.length) oJ R [some ⟨178,.box [.int .i64 bM,.int .i64 gd,ah b]⟩,some ⟨3,.ints .i64 ((List.replicate bo.length 0).set b (-1))⟩]) (IU (j:=1) _) ?_;generalize (List.replicate bo.length (0:Int)).set b (-1)=x at*;clear f1 f2;have f2:(fm bo.length (eZ bo.length) oJ R [some ⟨178,.box [.int .i64 bM,.int .i64 gd,ah b]⟩,some ⟨3,.ints .i64 x⟩])[R.length+4]? =some (some ⟨3,.ints .i64 x⟩):=CL (j:=1);refine iq ?_;refine P0 (R.length+3) (R.length+4) 10 bo.length J (by rw [vl];show R.length+3<R.length+3+2;omega) f2 dq I ?_;refine PZ ((10,.aC (R.length+3) 0 bo.length)::[(0,.cK (.box [.ro (hv bo) 0 bo.length,.ro (.ints .i64 o8) 0 o9]) 0 0),(4,.aC 1 0 (R.length+1)),(5,.mp 2),(26,.ro (hv bo) 1 m),(27,ah m),(28,ah i),(6,ah i),(8,.int .i64 ((R.length+1:Nat)))]) ⟨I,qT (h:=R.length+3) (L:=[(0,.cK (.box [.ro (hv bo) 0 bo.length,.ro (.ints .i64 o8) 0 o9]) 0 0),(4,.aC 1 0 (R.length+1)),(5,.mp 2),(26,.ro (hv bo) 1 m),(27,ah m),(28,ah i),(6,ah i),(8,.int .i64 ((R.length+1:Nat)))]) aH (by
    intro q aA;simp only [gb,oX,nB] at aA;rcases aA with rfl|rfl|rfl|rfl|rfl|rfl|rfl|rfl<;>simp [ao.forget,dz (show 1≠R.length+3 by omega),dz (show 2≠R.length+3 by omega)])⟩ ?_
   refine mJ (fm bo.length (eZ bo.length) oJ R [some ⟨3,.ints .i64 x⟩,none]) ano ?_;refine fB (fm bo.length (eZ bo.length) oJ R [some ⟨3,.ints .i64 x⟩]) [none] ((10,.aC (R.length+3) 0 bo.length)::[(0,.cK (.box [.ro (hv bo) 0 bo.length,.ro (.ints .i64 o8) 0 o9]) 0 0),(4,.aC 1 0 (R.length+1)),(5,.mp 2),(26,.ro (hv bo) 1 m),(27,ah m),(28,ah i),(6,ah i),(8,.int .i64 ((R.length+1:Nat)))]) (by rw [CK];rfl) aH hO (NV _ (by rw [vl];exact oU _ _) (fun o ai=>by cases hk.1 ai;intro i j _ ae;rfl)) (by rw [vl];simp [kr,gV]) ?_;refine dc I ?_;have abZ:(fm bo.length (eZ bo.length) oJ R [some ⟨3,.ints .i64 x⟩]).length=R.length+4:=vl;repeat (refine aq (bD rfl) ?_)
   refine ve I I I I I I I I I I ?_;refine dA (fm bo.length (eZ bo.length) oJ R [some ⟨3,.ints .i64 x⟩,some ⟨55,fM 1 1 [.aC (R.length+3) 0 bo.length]⟩]) (by rw [CK];rfl) ?_;refine bR 60 (.aC (R.length+4) 0 1) I (aU.of_eq (by rw [abZ])) ?_;have f3:(fm bo.length (eZ bo.length) oJ R [some ⟨3,.ints .i64 x⟩,some ⟨55,fM 1 1 [.aC (R.length+3) 0 bo.length]⟩])[R.length+4]? =some (some ⟨55,fM 1 1 [.aC (R.length+3) 0 bo.length]⟩):=CL (j:=1);have om:(uq bo.length (R.length+1)).len=R.length+1:=rfl;skip
   refine dI I I I I I I I I I om I (C9 f3) eu I (by show (R.length+1+1)*24≤_∧R.length+1+1≤_;omega) ?_ dq ?_
   ·intro aK j aa ae;obtain rfl:=ft.1 (show j<1 from ae);have q:=(WM bo.length R.length (fM 1 1 [ao.aC (R.length+3) 0 bo.length]) rfl).2.2 aK 0 aa fx;refine (congrArg (ao.forget 1) q.symm).trans (tk ?_ q);show ao.forget 1 (ao.aC (tu aK) 0 bo.length)=ao.aC (tu aK) 0 bo.length;have:tu aK≠1:=by
     cases aK with
     |zero=>exact Nat.zero_ne_one
     |succ k=>show k+3≠1;omega
    unfold ao.forget;rw [dz this];rfl
   refine fD (fm bo.length (eZ bo.length) oJ (R++[x]) [none]) (amD (WM bo.length R.length _ I)) ?_;have zV:R.length<(R++[x]).length:=by rw [di];exact gC _
   have g1:=OG (n:=bo.length) (cU:=eZ bo.length) (F:=oJ) (R:=R++[x]) (T:=[none]) zV;have Hg:(R++[x]).getD R.length []=x:=by simp [List.getD]
   rw [Hg] at g1;have Af:(R++[x]).set R.length (x.set (i+1) 1)=R++[x.set (i+1) 1]:=by rw [Bl _ _ (bN _),pK];rfl
   repeat (first|refine aq (bD rfl) ?_|refine aq (dC rfl) ?_|refine cY ?_|refine b6 ?_|refine dc rfl ?_|refine aq (hE rfl rfl J) ?_|refine aq (gr rfl rfl rfl rfl rfl hq J) ?_|refine aq (Cu rfl rfl rfl rfl rfl nM) ?_|refine aq (mE rfl rfl rfl) ?_)
   refine bR 68 (.ptr (R.length+3) (i+1) 0) I (aU.of_eq I) ?_;refine lL I I I I g1 I I (by show i+1<x.length;omega) ?_;refine dA (fm bo.length (eZ bo.length) oJ (R++[x.set (i+1) 1]) [none]) ((Ws _ zV).trans (by rw [Af])) ?_;refine fS ?_;refine b6 ?_;refine fB (fm bo.length (eZ bo.length) oJ (R++[x.set (i+1) 1]) []) [none] [(0,.cK (.box [.ro (hv bo) 0 bo.length,.ro (.ints .i64 o8) 0 o9]) 0 0),(4,.aC 1 0 (R.length+1+1)),(5,.mp 2),(26,.ro (hv bo) 1 m),(27,ah m),(28,ah i)] (by rw [CK];rfl) aH hO (NV _ (by rw [vl];exact bN _) (fun o ai=>(zD ai).elim)) (by rw [vl];simp [kr,gV]) (bt ?_);exact cc ⟨i+1,⟨J,by rw [mz];exact bO,by rw [mz,aE,di];show _+1≤_;omega⟩,J,⟨I,by rw [mz,aE,di];rfl,I,I,I,I,trivial⟩,by rw [mz,aE,aF]⟩
 ·have dn:i=m:=J;subst dn;refine bl ?_;exact aZ ar I ⟨I,I⟩
end Go.Proofs.YtmpnheilfejcpaaGreatDoor
namespace Go.Proofs.YtmpnheilfejcpaaGreatDoor
open Go.aj Go.aj.dh Go.aj.cQ Go.RowKit Go.aj.dR Go.aj.cL Go.aj.k4 Go.aj.eT
attribute [local irreducible] aj eD bZ cm gK
theorem I8 (h:Nat)(a:List Rat):(aO a).forget h=aO a:=by
 show Cells.fn _ _ _=Cells.fn _ _ _;congr 1;funext i j
 match j with
 |0=>rfl
 |1=>rfl
 |2=>rfl
 |_+3=>rfl
abbrev ym (L k:Nat):Cells:= .fn k 1 (fun i _=> .aC (i+1) 0 L)
theorem WL (L k:Nat)(eH:Cells)(aM:eH.at 0 0= .aC (k+1) 0 L):cG (.fn (k+1) 1 (fun i j=>bif Nat.blt i k then (ym L k).at i j else eH.at (0+(i-k)) j)) (ym L (k+1)):=by
 refine ⟨I,I,fun i j aa ae=> ?_⟩;obtain rfl:=ft.1 (show j<1 from ae);have aa:i<k+1:=aa;show ao.aC (i+1) 0 L=bif Nat.blt i k then ao.aC (i+1) 0 L else eH.at (0+(i-k)) 0;by_cases e:i<k
 ·rw [show Nat.blt i k=true from rb e];rfl
 ·have aF:i=k:=J;subst aF;rw [show Nat.blt i i=false by
   cases h:Nat.blt i i with
   |false=>rfl
   |true=>exact absurd (iZ h) (Nat.not_succ_le_self _)]
  rw [pK,fg];exact aM.symm
abbrev jQ (m k:Nat)(X:List (List Rat))(T:aY):aY:=fo ⟨110,ym m k⟩ 118 (fun r:List Rat=>aO r) X T
section
variable {m k:Nat}{X:List (List Rat)}{T:aY}
theorem apT {h:Nat}(an:k+1≤h):aP (c6 h (jQ m k X T)) (jQ m k X (c6 h T)):=by unfold jQ;rw [Av h (I8 h)];refine yS ⟨I,I,I,fun i j aa ae=> ?_⟩ (aP.refl _);obtain rfl:=ft.1 (show j<1 from ae);have aa:i<k:=aa;show ao.aC (i+1) 0 m=ao.forget h (ao.aC (i+1) 0 m);unfold ao.forget;rw [dz (show i+1≠h by omega)];rfl
theorem apS {y:Option bm}{t:TypeId}{c' kf:Cells}(an:k≤X.length)(av:cG c' kf):
 aP ((c6 (X.length+1) (jQ m k X [y])).set (X.length+1) (some ⟨t,c'⟩)) (jQ m k X [some ⟨t,kf⟩]):=by
 have e:jQ m k X [some ⟨t,kf⟩]=(jQ m k X [none]).set (X.length+1) (some ⟨t,kf⟩):=by have q:=UU (O:=⟨110,ym m k⟩) (t:=118) (f:=fun r:List Rat=>aO r) (X:=X) (L:=[none]) (j:=0) (some ⟨t,kf⟩);exact q.symm
 rw [e];exact aP.set (aP.trans' (apT (T:=[y]) J) (yS ⟨rfl,cG.refl _⟩ (show aP [jl _ y] [none] from aP.drop aP.nil))) _ (fun o ai=>by cases ai;exact ⟨_,rfl,rfl,av⟩)
end
theorem akU {m k:Nat}{X:List (List Rat)}{T jC:aY}{c' kf:Cells}(av:cG c' kf)(b4:aP (c6 0 T) jC):
 aP ((c6 0 (jQ m k X T)).set 0 (some ⟨110,c'⟩)) (fo ⟨110,kf⟩ 118 (fun r:List Rat=>aO r) X jC):=by unfold jQ;rw [Av 0 (I8 0)];exact yS (O:=⟨110,c'⟩) ⟨I,av⟩ b4
theorem akT {m k n:Nat}{X:List (List Rat)}(hm:k+1≤n): ∀(h:Nat) (o:bm),(jQ m k X [])[h]? =some (some o)→fw n o.c:=by
 intro h o ai;have eQ:=pS ai;unfold jQ fo at eQ;rw [gb,lA] at eQ;rcases eQ with e|eQ
 ·cases e;intro i j aa ae;obtain rfl:=ft.1 (show j<1 from ae);have aa:i<k:=aa;show gV n (ao.aC (i+1) 0 m)=true;exact rb (show i+1+1≤n by omega)
 ·obtain ⟨a,_,e⟩:=cS.1 eQ;cases e;exact xd a n
theorem NZ {α:Type}{f:α→ao}(aR: ∀x,c2 (f x)=true): ∀l:List α,c2.e9 (l.map f)=true
 |[]=>rfl
 |a::r=>by show (c2 (f a) && c2.e9 (r.map f))=true;rw [aR a,NZ aR r];rfl
theorem XM (t:aJ)(p:Int)(af:Valid t):br Tryz.prog 95 [ij t p] (.ro (gf (lO t p)) 0 (lO t p).length):=by
 have Hx:=C7 af p;have e3:1≤(bW t p).length:=(sF af p).2.2.1;have SL:=(sF af p).2.2.2;have ags:=anq (bW t p) (hQ t p) t.length e3 J (fun k U an=>by
  obtain ⟨k,rfl⟩: ∃j,k=j+1:=⟨k-1,J⟩
  have aM:=SL k an;exact ⟨aM.2.1,by have:=aM.2.2.1;omega⟩)
 have my:=anp af p;have av:lO t p=eZ (a8 t p)::(lM (bW t p) (a8 t p-1)).rows.tail:=my.hd;have hlen:=my.len;rw [av];generalize (lM (bW t p) (a8 t p-1)).rows.tail=R at*;generalize (lM (bW t p) (a8 t p-1)).fst=F at*;refine VW (o:=1) (k:=R.length+1) (w:=a8 t p) (hd:=tu) (g:=fun i=> .ints .i64 ((eZ (a8 t p)::R).getD i [])) ags I I (fun i aa=>rfl) (fun i aa=> ?_) (fun h bg ch aX=> ?_) (fun i aa=> ?_)
 ·cases i with
  |zero=>exact ⟨Nat.zero_ne_one,by show a8 t p≤(eZ _).length;unfold eZ;rw [da,fc];exact bN _,_,rfl⟩
  |succ j=>
   have ae:j<R.length:=J;refine ⟨by show j+3≠1;omega,?_,_,OG ae⟩;show a8 t p≤(R.getD j []).length;rw [hlen _ (dv [] ae)];exact bN _
 ·have eQ:=pS aX;unfold fm at eQ;rw [lA] at eQ
  match h,aX with
  |0,aX=>cases aX;exact mc
  |1,aX=>exact absurd rfl ch
  |2,aX=>cases aX;exact ⟨NZ (fun _=>rfl) F,NZ (fun _=>rfl) F⟩
  |h+3,aX=>
   have aX:(gn 3 (fun r:List Int=>Cells.ints .i64 r) R++[])[h]? =some (some bg):=aX;rw [lA] at aX;obtain ⟨a,_,e⟩:=cS.1 (pS aX);cases e;exact mc
 ·have afs:((eZ (a8 t p)::R).getD i []).length=a8 t p:=by
   cases i with
   |zero=>show (eZ _).length=_;unfold eZ;rw [da,fc]
   |succ j=>exact hlen _ (dv [] (show j<R.length by omega))
  show ao.ro (.ints .i64 ((eZ (a8 t p)::R).getD i [])) 0 ((eZ (a8 t p)::R).getD i []).length=_;rw [afs]
theorem aba {t:aJ}(af:Valid t)(hm:nx t):DF t (ih t):=
 Qc af hm.len (FP af hm) (fun i aa an=>by unfold ih;rw [aB an]) (fun i aa an=>by unfold ih;rw [aw J])
theorem aoV (n:ev):br Tryz.prog 169 [.agg (kU n)] .nil:=by obtain ⟨b7,pl,bM,bj,cv,cT⟩:=n;refine cg Tryz.f169 fun c ar bJ=> ?_;refine bf ?_;exact aZ ar I I
theorem aob (t:aJ)(b4:kb t)(af:Valid t)(hm:nx t):
 cm Tryz.prog 92 [.ro (bS t) 0 t.length] [] (fun _=>False) (fun r H=>r= .aC 0 0 (a8 t 0)∧H=jQ (a8 t 1) (a8 t 0) (gY t) []):=by
 have oc:=DA t 0 b4 af;have cJ:=DA t 1 b4 af;have zT:a8 t 0≤61:=C7 af 0;have sr:a8 t 1≤61:=C7 af 1;have iv:=hm.len;refine hx (P:=Tryz.prog) (fn:=Tryz.f92) I I ag I (fun c ar bJ=> ?_);refine bE ?_;refine aL I I I oc ?_;repeat (refine aq (bD rfl) ?_)
 refine aL I I I cJ ?_;repeat (first|refine aq (bD rfl) ?_|refine aq (dC rfl) ?_|refine cY ?_|refine b6 ?_|refine du ?_|refine dc rfl ?_|refine aq (gm rfl rfl rfl) ?_|refine aq (lq rfl rfl rfl rfl) ?_|refine aq (pe rfl) ?_|refine aq (lJ rfl rfl rfl rfl rfl rfl) ?_)
 refine lK 5 ⟨110,ym (a8 t 1) 0⟩ I I ?_;repeat (refine fV ?_)
 refine cF (ι:=Nat) (fun i=>[(0,.ro (bS t) 0 t.length),(3,ij t 0),(4,ij t 1),(5,.aC 0 0 i),(20,ah (a8 t 0)),(21,ah i)]) (fun i=>jQ (a8 t 1) i (List.replicate i (List.replicate (a8 t 1) 0)) []) (fun i=>i≤a8 t 0) (fun i=>a8 t 0-i) 0 ⟨aH,I,cj _⟩ ?_;intro i aa;refine bh ?_;refine bw I (fun h=> ?_) (fun h=> ?_)
 ·have afU:List.replicate (i+1) (List.replicate (a8 t 1) (0:Rat))=List.replicate i (List.replicate (a8 t 1) 0)++[List.replicate (a8 t 1) 0]:=List.replicate_succ' ..;have dw:(List.replicate i (List.replicate (a8 t 1) (0:Rat))).length=i:=fc ..;have RX:(List.replicate (a8 t 1) (0:Rat)).length=a8 t 1:=fc ..;generalize LI:List.replicate (i+1) (List.replicate (a8 t 1) (0:Rat))=Z3 at*;generalize List.replicate i (List.replicate (a8 t 1) (0:Rat))=X at*;have Ln:(jQ (a8 t 1) i X []).length=i+1:=by rw [FZ,dw];rfl
  refine fe ?_;refine fV ?_;repeat (first|refine aq (bD rfl) ?_|refine aq (dC rfl) ?_|refine cY ?_|refine b6 ?_|refine du ?_|refine dc rfl ?_|refine aq (gm rfl rfl rfl) ?_|refine aq (lq rfl rfl rfl rfl) ?_|refine aq (pe rfl) ?_|refine aq (lJ rfl rfl rfl rfl rfl rfl) ?_)
  refine lK 6 ⟨118,aO []⟩ I I ?_;refine jv (jQ (a8 t 1) i X [some ⟨118,aO []⟩]) (by rw [JS];rfl) ?_;refine ea 6 (.aC (i+1) 0 0) I (aU.of_eq (by rw [Ln])) ?_;repeat (refine fV ?_)
  refine cF (ι:=Nat) (fun j=>[(0,.ro (bS t) 0 t.length),(3,ij t 0),(4,ij t 1),(5,.aC 0 0 i),(20,ah (a8 t 0)),(21,ah i),(6,.aC (i+1) 0 j),(27,ah (a8 t 1)),(28,ah j)]) (fun j=>jQ (a8 t 1) i X [some ⟨118,aO (List.replicate j 0)⟩]) (fun j=>j≤a8 t 1) (fun j=>a8 t 1-j) 0 ⟨aH,I,cj _⟩ ?_;intro j ae;have fk:(List.replicate j (0:Rat)).length=j:=fc ..;have ME:List.replicate (j+1) (0:Rat)=List.replicate j 0++[0]:=List.replicate_succ' ..;refine bh ?_;refine bw I (fun bc=> ?_) (fun bc=> ?_)
  ·generalize BO:List.replicate (j+1) (0:Rat)=fu at*;generalize List.replicate j (0:Rat)=l at*;refine bp ?_;refine aL I I I nn ?_;unfold b8;repeat (refine ju rfl rfl rfl rfl rfl rfl rfl rfl rfl rfl rfl ?_)
   have f1:(jQ (a8 t 1) i X [some ⟨118,aO l⟩])[i+1]? =some (some ⟨118,aO l⟩):=by have q:=Ps (O:=⟨110,ym (a8 t 1) i⟩) (t:=118) (f:=fun r:List Rat=>aO r) (X:=X) (L:=[some ⟨118,aO l⟩]) (j:=0);rw [dw] at q;exact q
   refine dI I I I I I I I f1 I fk I I eu I (by show (j+1)*56≤_∧_;omega) ?_ dq ?_
   ·intro aK ba aQ bd;exact iF 0 3 bV vh l _ _ (nW _) _ aK ba aQ bd
   refine fD (jQ (a8 t 1) i X [some ⟨118,aO (l++[0])⟩]) (by
    have q:=apS (m:=a8 t 1) (k:=i) (X:=X) (y:=some ⟨118,aO l⟩) (t:=118) J (h7 0 3 bV l 0 _ (nW _));rw [dw] at q;exact q) ?_
   refine bl ?_;exact cc ⟨j+1,J,J,aH,by rw [BO,ME]⟩
  ·have hc:j=a8 t 1:=J;subst hc;generalize List.replicate (a8 t 1) (0:Rat)=l at*;have f1:(jQ (a8 t 1) i X [some ⟨118,aO l⟩,some ⟨110,fM 1 1 [.aC (i+1) 0 (a8 t 1)]⟩])[i+2]? =some (some ⟨110,fM 1 1 [.aC (i+1) 0 (a8 t 1)]⟩):=by have q:=Ps (O:=⟨110,ym (a8 t 1) i⟩) (t:=118) (f:=fun r:List Rat=>aO r) (X:=X) (L:=[some ⟨118,aO l⟩,some ⟨110,fM 1 1 [.aC (i+1) 0 (a8 t 1)]⟩]) (j:=1);rw [dw] at q;exact q
   have abX:(jQ (a8 t 1) i X [some ⟨118,aO l⟩]).length=i+2:=by rw [FZ,dw];rfl
   refine bl ?_;refine ve I I I I I I I I I I ?_;refine dA (jQ (a8 t 1) i X [some ⟨118,aO l⟩,some ⟨110,fM 1 1 [.aC (i+1) 0 (a8 t 1)]⟩]) (by rw [JS];rfl) ?_;refine bR 37 (.aC (i+2) 0 1) I (aU.of_eq (by rw [abX])) ?_;have om:(ym (a8 t 1) i).len=i:=rfl;skip
   refine dI I I I I I I I I I om I (C9 f1) eu I (by show (i+1)*24≤_∧i+1≤_;omega) ?_ dq ?_
   ·intro aK j aa ae;obtain rfl:=ft.1 (show j<1 from ae);have q:=(WL (a8 t 1) i (fM 1 1 [ao.aC (i+1) 0 (a8 t 1)]) rfl).2.2 aK 0 aa fx;exact (congrArg (ao.forget 0) q.symm).trans q
   refine fD (jQ (a8 t 1) (i+1) X [some ⟨118,aO l⟩,none]) (akU (WL (a8 t 1) i _ I) (by
    show aP [some (⟨118,(aO l).forget 0⟩:bm),_] _;rw [I8];exact aP.same (aP.drop aP.nil))) ?_
   refine fS ?_;refine b6 ?_;refine fB (jQ (a8 t 1) (i+1) (X++[l]) []) [none] [(0,.ro (bS t) 0 t.length),(3,ij t 0),(4,ij t 1),(5,.aC 0 0 (i+1)),(20,ah (a8 t 0)),(21,ah i)] (by unfold jQ;rw [JS,←JB];rfl) aH hO
    (akT (by rw [FZ,di,dw];exact oU _ _)) (by rw [FZ,di,dw];simp [kr,gV]) ?_
   refine bt ?_;exact cc ⟨i+1,J,J,aH,by rw [LI,afU]⟩
 have dn:i=a8 t 0:=J;subst dn;have Rk:=PJ t (ih t) 169 [] rfl rfl b4 af (aba af hm) (fun i aa an=>by
  have e:ih t i=none:=by unfold ih;rw [aw J]
  rw [e];exact aoV _)
 have Rf:=Qb t J;have wB:(eV t t.length).length=(cH t).length:=by rw [Jw,cW]
 have BF:(cH t).length≤t.length:=by unfold cH;refine dU (tf _ _) ?_;rw [gN];exact bN _
 have bB:=Xd t;unfold sX at bB;rw [←bB];refine bl ?_;refine aL I I I Rk (bE ?_);refine aL I I I Rf (bt ?_);refine cF (ι:=Nat) (fun k=>[(0,.ro (bS t) 0 t.length),(3,ij t 0),(4,ij t 1),(5,.aC 0 0 (a8 t 0)),(7,.ro (aO (cA t (ih t))) 0 t.length),(43,.ro (.ints .i64 (eV t t.length)) 0 (eV t t.length).length),(44,ah ((eV t t.length).length)),(45,ah k)]) (fun k=>jQ (a8 t 1) (a8 t 0) (ql t k) []) (fun k=>k≤(eV t t.length).length) (fun k=>(eV t t.length).length-k) 0 ⟨aH,I,cj _⟩ ?_;intro k an;refine bh ?_;refine bw I (fun h=> ?_) (fun h=> ?_)
 ·have b0:k<(cH t).length:=J;have Ew:=OO t b0;obtain ⟨i1,i2⟩:=pj (dv (l:=cH t) 0 b0);have Hu:k<(eV t t.length).length:=J;have wN:=Xc t b0;have zS:=akN af k;have hw:=FP af hm;have EJ:=JL af i1 i2;have iw:=(b4.node _ (dv aN i1)).jf;have kJ:=AI (t.getD ((cH t).getD k 0) aN).jf iw EJ;have uI:=JI af hw iv i1;have fz:=hm.rH.nF _ i1 i2;obtain ⟨eU,bQ⟩:=y5 af 0 i1;obtain ⟨bX,dr⟩:=y5 af 1 i1;obtain ⟨a,aW⟩:=oW eU;obtain ⟨b,ak⟩:=oW bX;have BA:pB t 0 ((cH t).getD k 0)=a:=by unfold pB;rw [aW];rfl
  have tw:pB t 1 ((cH t).getD k 0)=b:=by unfold pB;rw [ak];rfl
  rw [BA,tw] at wN;rw [aW,cn] at bQ;rw [ak,cn] at dr;have bQ:a<a8 t 0:=bQ;have dr:b<a8 t 1:=dr;have RQ:=Un af hm (ri b0) a b;have RZ:=zS.rows;have aqB:=zS.qA a bQ;have arh:((cH t).getD k 0)<(hQ t 0).length:=by rw [show (hQ t 0).length=t.length from xf t 0 _];exact i1
  have ari:((cH t).getD k 0)<(hQ t 1).length:=by rw [show (hQ t 1).length=t.length from xf t 1 _];exact i1
  have hl:=Gf _ _ (hi (uI.mono (show 12*40+1≤9*100000 by decide))) (hi (fz.mono aT));have x1:iK t (cA t (ih t)) ((cH t).getD k 0)=(cA t (ih t)).getD ((cH t).getD k 0) 0*dk (t.getD ((cH t).getD k 0) aN).jf:=rfl;have hl:br Tryz.prog 99 [b8 ((cA t (ih t)).getD ((cH t).getD k 0) 0),b8 (dk (t.getD ((cH t).getD k 0) aN).jf)] (b8 (iK t (cA t (ih t)) ((cH t).getD k 0))):=hl;have sj:=yZ (((ql t k).getD a []).getD b 0) (iK t (cA t (ih t)) ((cH t).getD k 0)) (hi (RQ.mono aT)) (by
   rw [x1];exact hi ((uI.mul fz).mono aT))
  unfold rX at wN;have fk:(cA t (ih t)).length=t.length:=Az _ _ _;generalize adR:ql t (k+1)=aqb at*;generalize ql t k=T at*;generalize dx:iK t (cA t (ih t)) ((cH t).getD k 0)=E at*;generalize (cH t).getD k 0=i at*;have g1:(jQ (a8 t 1) (a8 t 0) T [])[a+1]? =some (some ⟨118,aO (T.getD a [])⟩):=Pt [] J;generalize og:(T.getD a []).getD b 0+E=V at*;have zH:b<(aO (T.getD a [])).len:=by show b<(T.getD a []).length;omega
  clear hw zS uI fz RQ dx x1 eU bX BA tw oc cJ Rk Rf;refine yp ?_;refine dc I ?_;refine iq ?_;refine ea 9 (ah i) I (aU.of_eq (by rw [Ew])) ?_;skip
  refine yI ag ag I ?_;repeat (first|refine aq (bD rfl) ?_|refine aq (dC rfl) ?_|refine aq (vk rfl rfl rfl) ?_|refine cY ?_|refine b6 ?_|refine aq (ib rfl rfl rfl rfl hq J) ?_|refine aq (lq rfl rfl rfl rfl) ?_|refine aq (pe rfl) ?_|refine aq (lJ rfl rfl rfl rfl rfl rfl) ?_)
  refine ea 10 (ah a) I (aU.of_eq (by rw [aW])) ?_;refine ea 11 (ah b) I (aU.of_eq (by rw [ak])) ?_;skip
  refine ee ag ?_;refine eM (fuel:=1) [0,1,2,3,4,5,6,7,8,9,10,11,12,13,14,15,16,17,18,19,20,21,22,23,24] [(0,.ro (bS t) 0 t.length),(3,ij t 0),(4,ij t 1),(5,.aC 0 0 (a8 t 0)),(7,.ro (aO (cA t (ih t))) 0 t.length),(43,.ro (.ints .i64 (eV t t.length)) 0 (eV t t.length).length),(44,ah ((eV t t.length).length)),(45,ah k),(9,ah i),(10,ah a),(11,ah b)] aH ag aT I I ?_;refine cI ?_;refine dW I I I I I kJ ?_;refine dW I I I I I hl ?_;refine dW I I I I I sj ?_;refine cI ?_;refine eI ?_;refine bn 25 ?_;unfold b8;refine eN (c':=aO ((T.getD a []).set b V)) I I I g1 I zH (by show (List.set _ b _).length=_;rw [da];rfl) I (fun aK ba aQ bd=>jw 0 3 bV (T.getD a []) b V zH aK ba aQ bd) (bp ?_);refine dX ag ?_;repeat (refine kQ ?_)
  refine b6 ?_;refine jv (jQ (a8 t 1) (a8 t 0) (T.set a ((T.getD a []).set b V)) []) (UW (f:=fun r:List Rat=>aO r) _ J) (bt ?_);exact cc ⟨k+1,J,J,aH,by rw [adR,wN]⟩
 ·have dn:k=(eV t t.length).length:=J;subst dn;rw [wB,Pm];refine bl ?_;exact aZ ar I ⟨I,I⟩
theorem W4 (t:aJ)(b4:kb t)(af:Valid t)(hm:nx t):br Tryz.prog 92 [.ro (bS t) 0 t.length] (.ro (c8 (gY t)) 0 (gY t).length):=by
 have hd:=Pp af;have tB:=aob t b4 af hm;rw [←hd.rows] at tB;have LX:=hd.qA;rw [←hd.rows] at LX;refine VW (o:=0) (w:=a8 t 1) (hd:=fun i=>i+1) (g:=fun i=>aO ((gY t).getD i [])) tB I I (fun i aa=>rfl) (fun i aa=>⟨Nat.succ_ne_zero i,?_,_,Pt [] aa⟩) (fun h bg ch aX=> ?_) (fun i aa=> ?_)
 ·show a8 t 1≤((gY t).getD i []).length;rw [LX i aa];exact bN _
 ·obtain ⟨h,rfl⟩: ∃j,h=j+1:=⟨h-1,J⟩
  have aX:(gn 118 (fun r:List Rat=>aO r) (gY t)++[])[h]? =some (some bg):=aX;rw [lA] at aX;obtain ⟨a,_,e⟩:=cS.1 (pS aX);cases e;exact oA _
 ·show ao.ro (aO ((gY t).getD i [])) 0 ((gY t).getD i []).length=_;rw [LX i aa]
end Go.Proofs.YtmpnheilfejcpaaGreatDoor
namespace Go.Proofs.YtmpnheilfejcpaaGreatDoor
open Go.aj Go.aj.dh Go.aj.cQ Go.RowKit Go.aj.dR Go.aj.cL Go.aj.k4 Go.aj.eT
attribute [local irreducible] aj eD bZ cm gK
theorem pk (h:Nat)(a:List Rat):cG ((aO a).forget h) (aO a):=by rw [I8];exact cG.refl _
theorem Yl (h:Nat)(a:List (List Rat)):cG ((c8 a).forget h) (c8 a):=by
 have e:(c8 a).forget h=c8 a:=by
  show Cells.fn _ _ _=Cells.fn _ _ _;congr 1;funext i j
  match j with
  |0=>rfl
  |_+1=>rfl
 rw [e];exact cG.refl _
abbrev p2 (a b:Nat)(A:List (List Rat))(B:List Rat)(T:aY):aY:=some ⟨155,.box [.nil,.nil,.nil]⟩::some ⟨155,.box [.aC 2 0 a,.aC 3 0 b,.nil]⟩::some ⟨110,c8 A⟩::some ⟨118,aO B⟩::T
theorem VH {n:Nat}{x y z:ao}(al:gV n x=true)(a1:gV n y=true)(bB:gV n z=true):fw n (.box [x,y,z]):=by
 intro i j _ ae;have ae:j<3:=ae
 match j,ae with
 |0,_=>exact al
 |1,_=>exact a1
 |2,_=>exact bB
theorem amy (A:List (List Rat))(n:Nat):fw n (c8 A):=by intro i j _ ae;obtain rfl:=ft.1 (show j<1 from ae);rfl
theorem Ya (a b:Nat)(A:List (List Rat))(B:List Rat): ∀(h:Nat) (o:bm),(p2 a b A B [])[h]? =some (some o)→fw 4 o.c:=by
 intro h o ai
 match h,ai with
 |0,ai=>cases ai;exact VH rfl rfl rfl
 |1,ai=>cases ai;exact VH rfl rfl rfl
 |2,ai=>cases ai;exact amy _ _
 |3,ai=>cases ai;exact xd _ _
 |_+4,ai=>simp at ai
theorem akm (M:List (List Rat))(E F:List (List Int))(n m k gH:Nat)(aqu:M.length=n)(adA:F.length=k)(wB:E.length=gH)(aM:0<n)(ru:0<k)(are:n≤61)(arc:m≤61)(aqZ:k≤61)(ara:gH≤61)(ho: ∀i,i<n→(M.getD i []).length=m)(l1: ∀c,c<k→(F.getD c []).length=m)(dx: ∀c,c<gH→(E.getD c []).length=n)(adB: ∀c j,-1≤(F.getD c []).getD j 0∧(F.getD c []).getD j 0≤1)(ady: ∀c j,-1≤(E.getD c []).getD j 0∧(E.getD c []).getD j 0≤1):
 br Tryz.prog 94 [.ro (c8 M) 0 n,.ro (gf E) 0 gH,.ro (gf F) 0 k] (.agg [.ro (c8 (ln M E F n m k (2*gH))) 0 (m+2*gH),.ro (aO (nN m (2*gH))) 0 (m+2*gH),.ro (aO (wW n k)) 0 (n+2*k)]):=by
 have MO:=X7 (n+2*k) J;have agt:(List.replicate (n+2*k) (0:Rat)).length=n+2*k:=fc ..;refine cg Tryz.f94 fun c ar bJ=> ?_;have adH:=ho 0 aM;refine bf ?_;refine ea 29 (ah m) I (aU.of_eq (by rw [adH])) ?_;refine Ji 1 ⟨110,c8 []⟩ (.box [.aC 2 0 0,.nil,.nil]) I I I I (fun aK ba _ bd=> ?_) ?_
 ·have bd:ba<3:=bd
  match ba,bd with
  |0,_=>exact .inr ⟨rfl,rfl⟩
  |1,_=>exact .inl rfl
  |2,_=>exact .inl rfl
 refine Ji 1 ⟨118,aO []⟩ (.box [.aC 2 0 0,.aC 3 0 0,.nil]) I I I I (fun aK ba _ bd=> ?_) ?_
 ·have bd:ba<3:=bd
  match ba,bd with
  |0,_=>exact .inl rfl
  |1,_=>exact .inr ⟨rfl,rfl⟩
  |2,_=>exact .inl rfl
 refine jv (p2 0 0 [] [] []) I ?_;refine cF (ι:=Nat) (fun j=>[(0,.ro (c8 M) 0 n),(1,.ro (gf E) 0 gH),(2,.ro (gf F) 0 k),(6,.ptr 0 0 0),(7,ah n),(8,ah k),(9,.ptr 1 0 0),(29,ah m),(30,ah j)]) (fun j=>p2 j j (ln M E F n j k 0) (List.replicate j 0) []) (fun j=>j≤m) (fun j=>m-j) 0 ⟨aH,I,cj _⟩ ?_;intro j ae;refine bh ?_;refine bw I (fun h=> ?_) (fun h=> ?_)
 ·have bd:j<m:=J;have HZ:=aiq M E F n k j;have H0:List.replicate (j+1) (0:Rat)=List.replicate j 0++[0]:=List.replicate_succ' ..;have iQ:(ln M E F n j k 0).length=j:=by rw [KQ];rfl
  have Bz:(List.replicate j (0:Rat)).length=j:=fc ..;generalize mW:ln M E F n (j+1) k 0=zc at*;generalize ln M E F n j k 0=A at*;generalize uK:List.replicate (j+1) (0:Rat)=QE at*;generalize List.replicate j (0:Rat)=B at*;refine bp ?_;refine aq (Iz I I J) ?_;repeat (refine aq (hE rfl rfl J) ?_)
  refine bR 36 (.int .i64 ((n+2*k:Nat))) I (aU.of_eq (by congr 1)) ?_;refine nR I I I MO ?_;refine dA (p2 j j A B [some ⟨118,aO (iJ (n+2*k) (lo M F n k j) (fun y=>decide (y<0)))⟩]) (by rw [WY _ _ (fun y=>fP (gh y))];rfl) (bt ?_);refine cF (ι:=Nat) (fun i=>[(0,.ro (c8 M) 0 n),(1,.ro (gf E) 0 gH),(2,.ro (gf F) 0 k),(6,.ptr 0 0 0),(7,ah n),(8,ah k),(9,.ptr 1 0 0),(29,ah m),(30,ah j),(10,ah j),(11,.aC 4 0 (n+2*k)),(39,ah n),(40,ah i)]) (fun i=>p2 j j A B [some ⟨118,aO (iJ (n+2*k) (lo M F n k j) (fun y=>decide (y<i)))⟩]) (fun i=>i≤n) (fun i=>n-i) 0 ⟨aH,I,cj _⟩ ?_;intro i aa;refine bh ?_;refine bw I (fun bc=> ?_) (fun bc=> ?_)
  ·have aQ:i<n:=J;have fk:=ho i aQ;have c7:(iJ (n+2*k) (lo M F n k j) (fun y=>decide (y<i))).set i (lo M F n k j i)=iJ (n+2*k) (lo M F n k j) (fun y=>decide (y<i+1)):=Kc (fun y=>X3 y i);have Eu:lo M F n k j i= -((M.getD i []).getD j 0):=aB aQ;have SA:=C5 (n+2*k) (lo M F n k j) (fun y=>decide (y<i));rw [Eu] at c7;generalize Eh:iJ (n+2*k) (lo M F n k j) (fun y=>decide (y<i+1))=QL at*;generalize iJ (n+2*k) (lo M F n k j) (fun y=>decide (y<i))=R at*;have sn:i<(aO R).len:=by show i<R.length;omega
   refine bf ?_;refine bR 51 (.agg (bV ((M.getD i []).getD j 0))) I (aU.of_eq I) ?_;refine aL I I I (Kr _) ?_;generalize-((M.getD i []).getD j 0)=z at*;unfold b8;repeat (refine aq (gr rfl rfl rfl rfl rfl hq J) ?_)
   refine eN (c':=aO (R.set i z)) I I I I I sn (by show (List.set _ i _).length=_;rw [da];rfl) I (fun aK ba aQ bd=>jw 0 3 bV R i z sn aK ba aQ bd) (bl ?_);exact cc ⟨i+1,J,J,aH,by rw [Eh,←c7];rfl⟩
  have dn:i=n:=J;subst dn;refine jv (p2 j j A B [some ⟨118,aO (iJ (i+2*k) (lo M F i k j) (fv i k 0))⟩]) (by rw [anj (fun y=>aio i k y)]) (bl ?_);refine cF (ι:=Nat) (fun c=>[(0,.ro (c8 M) 0 i),(1,.ro (gf E) 0 gH),(2,.ro (gf F) 0 k),(6,.ptr 0 0 0),(7,ah i),(8,ah k),(9,.ptr 1 0 0),(29,ah m),(30,ah j),(10,ah j),(11,.aC 4 0 (i+2*k)),(56,ah k),(57,ah c)]) (fun c=>p2 j j A B [some ⟨118,aO (iJ (i+2*k) (lo M F i k j) (fv i k c))⟩]) (fun c=>c≤k) (fun c=>k-c) 0 ⟨aH,I,cj _⟩ ?_;intro c av;refine bh ?_;refine bw I (fun bI=> ?_) (fun bI=> ?_)
  ·have zN:c<k:=J;have c7:=ain M F i k j c zN;have SA:=C5 (i+2*k) (lo M F i k j) (fv i k c);have aqp:=l1 c zN;obtain ⟨s1,s2⟩:=adB c j;have abn:=AY ((F.getD c []).getD j 0) J;have abo:=AY (-((F.getD c []).getD j 0)) J;generalize Eh:iJ (i+2*k) (lo M F i k j) (fv i k (c+1))=QL at*;generalize iJ (i+2*k) (lo M F i k j) (fv i k c)=R at*;have sn:i+c<(aO R).len:=by show i+c<R.length;omega
   have Ec:i+k+c<(aO (R.set (i+c) ((((F.getD c []).getD j 0:Int)):Rat))).len:=by show i+k+c<(List.set _ _ _).length;rw [da];omega
   refine bp ?_;refine ee ag ?_;refine bF 4 I ag ag ag I (bD I) I ?_;refine bF 5 I ag ag ag I (bD I) I ?_;refine bF 6 I ag ag ag I (bD I) I ?_;refine bF 7 I ag ag ag I (hE I I J) I ?_;refine bF 8 I ag ag ag I (bD I) I ?_;refine bF 9 I ag ag ag I (hE I I J) I ?_;refine bF 18 I ag ag ag I (bD I) I ?_;refine bF 19 I ag ag ag I (bD I) I ?_;refine bF 20 I ag ag ag I (ib I I I I (by first|(simp only [cR,cn,fJ];exact I)|exact I) J) I ?_;refine bF 22 I ag ag ag I (bD I) I ?_;refine eM (fuel:=3) [0,1,2,3,10,11,12,13,14,15,16,17,21,23,24,25,26,27] [(0,.ro (c8 M) 0 i),(1,.ro (gf E) 0 gH),(2,.ro (gf F) 0 k),(6,.ptr 0 0 0),(7,ah i),(8,ah k),(9,.ptr 1 0 0),(29,ah m),(30,ah j),(10,ah j),(11,.aC 4 0 (i+2*k)),(56,ah k),(57,ah c),(13,ah c),(64,.aC 4 0 (i+2*k)),(69,ah (i+k+c)),(79,ah c),(80,.cK (gf F) c 0),(82,ah j)] aH ag aT I I ?_;refine cI ?_;refine dW I I I I I abn ?_;refine cI ?_;refine dW I I I I I abo ?_;refine cI ?_;refine eI ?_;generalize (((F.getD c []).getD j 0:Int):Rat)=jJ at*;generalize ((-((F.getD c []).getD j 0):Int):Rat)=kq at*;unfold b8;refine bn 28 ?_;refine eN (c':=aO (R.set (i+c) jJ)) I I I I I sn ot I (fun aK ba aQ bd=>jw 0 3 bV R (i+c) jJ sn aK ba aQ bd) (bp ?_);refine bF 29 I ag ag ag I (gr I I I I I (by first|(simp only [cR,cn,fJ];exact I)|exact I) J) I ?_;refine bn 30 ?_;refine eN (c':=aO ((R.set (i+c) jJ).set (i+k+c) kq)) I I I I I Ec ot I (fun aK ba aQ bd=>jw 0 3 bV (R.set (i+c) jJ) (i+k+c) kq Ec aK ba aQ bd) (bp ?_);refine dX ag (bl ?_);exact cc ⟨c+1,J,J,aH,by rw [Eh,←c7];rfl⟩
  ·have zO:c=k:=J;subst zO;rw [aim];have wI:(Am M F i c j).length=i+2*c:=by unfold Am;rw [cW,gN]
   generalize Am M F i c j=l at*;have h1: ∀ba,ba<1→(fM 1 1 [.ro (aO l) 0 (i+2*c)]).at 0 ba=(gW l).getD ba .any:=fun ba bd=>by rw [←wI];exact T7 l ba bd
   refine iq ?_;refine mG 4 11 (i+2*c) [(0,.ro (c8 M) 0 i),(1,.ro (gf E) 0 gH),(2,.ro (gf F) 0 c),(6,.ptr 0 0 0),(7,ah i),(8,ah c),(9,.ptr 1 0 0),(29,ah m),(30,ah j)] I (oA _) I (by show _≤l.length;omega) aH ?_;refine fB (p2 j j A B []) [none] [(0,.ro (c8 M) 0 i),(1,.ro (gf E) 0 gH),(2,.ro (gf F) 0 c),(6,.ptr 0 0 0),(7,ah i),(8,ah c),(9,.ptr 1 0 0),(29,ah m),(30,ah j),(11,.ro (aO l) 0 (i+2*c))] I aH hO (Ya _ _ _ _) I ?_;skip
   refine ee ag ?_;refine bF 0 I ag ag ag I (ds I I I I I I) I ?_;refine bF 2 I ag ag ag I (bD I) I ?_;refine bF 5 I ag ag ag I (ds I I I I I I) I ?_;apply tS (H:=[some ⟨155,.box [.nil,.nil,.nil]⟩,some ⟨155,.box [.any,.aC 3 0 j,.nil]⟩,some ⟨110,c8 (A++[l])⟩,some ⟨118,aO B⟩]) [(0,.ro (c8 M) 0 i),(1,.ro (gf E) 0 gH),(2,.ro (gf F) 0 c),(6,.ptr 0 0 0),(7,ah i),(8,ah c),(9,.ptr 1 0 0),(29,ah m),(30,ah j),(94,.aC 2 0 (j+1)),(96,.aC 3 0 (j)),(98,.ro (fM 1 3 (bV (0))) 0 1),(100,.ptr 1 0 0)]
   ·intro fin;refine tO (is:=[1,3,6]) ag b1 I ⟨fun o ai=> ?_,fun o ai=> ?_,fun o ai=> ?_,trivial⟩;all_goals (cases ai)
    ·refine bh ?_;refine dV 3 6 ?_ ?_
     ·refine bt ?_;refine dV 4 6 ?_ ?_
      ·refine dI I I I I I I I I I iQ I I eu I (by show (j+1)*24≤_∧j+1≤_;omega) ?_ dq ?_
       ·intro aK ba aQ bd;exact iF [] 1 gW pf A l _ h1 2 aK ba aQ bd
       refine fD [some ⟨155,.box [.nil,.nil,.nil]⟩,some ⟨155,.box [.any,.aC 3 0 j,.nil]⟩,some ⟨110,c8 (A++[l])⟩,some ⟨118,aO B⟩] (aP.eqv (cG.refl _) (aP.eqv (cG.refl _) (aP.eqv (h7 [] 1 gW A l _ h1) (aP.eqv (pk _ _) aP.nil)))) (bp ?_);refine dV 6 7 ?_ ?_
       ·refine bh ?_;refine bF 10 I ag ag ag I (ds I I I I I I) I ?_;refine bn 7 ?_;refine aL I I I nn ?_;unfold b8;refine bp ?_;refine bn 8 ?_;refine bt ?_;exact fin _ aH
       ·refine aL I I I nn ?_;unfold b8;refine bp ?_;refine dV 6 8 ?_ ?_
        ·refine bh ?_;refine bF 10 I ag ag ag I (ds I I I I I I) I ?_;refine bn 8 ?_;refine bt ?_;exact fin _ aH
        ·refine bt ?_;refine bn 6 ?_;refine bh ?_;refine bF 10 I ag ag ag I (ds I I I I I I) I ?_;exact fin _ aH
      ·refine bh ?_;refine bn 4 ?_;refine dI I I I I I I I I I iQ I I eu I (by show (j+1)*24≤_∧j+1≤_;omega) ?_ dq ?_
       ·intro aK ba aQ bd;exact iF [] 1 gW pf A l _ h1 2 aK ba aQ bd
       refine fD [some ⟨155,.box [.nil,.nil,.nil]⟩,some ⟨155,.box [.any,.aC 3 0 j,.nil]⟩,some ⟨110,c8 (A++[l])⟩,some ⟨118,aO B⟩] (aP.eqv (cG.refl _) (aP.eqv (cG.refl _) (aP.eqv (h7 [] 1 gW A l _ h1) (aP.eqv (pk _ _) aP.nil)))) (bp ?_);refine bF 10 I ag ag ag I (ds I I I I I I) I ?_;refine bn 7 ?_;refine aL I I I nn ?_;unfold b8;refine bp ?_;refine bn 8 ?_;refine bt ?_;exact fin _ aH
     ·refine bh ?_;refine bn 3 ?_;refine bt ?_;refine bn 4 ?_;refine dI I I I I I I I I I iQ I I eu I (by show (j+1)*24≤_∧j+1≤_;omega) ?_ dq ?_
      ·intro aK ba aQ bd;exact iF [] 1 gW pf A l _ h1 2 aK ba aQ bd
      refine fD [some ⟨155,.box [.nil,.nil,.nil]⟩,some ⟨155,.box [.any,.aC 3 0 j,.nil]⟩,some ⟨110,c8 (A++[l])⟩,some ⟨118,aO B⟩] (aP.eqv (cG.refl _) (aP.eqv (cG.refl _) (aP.eqv (h7 [] 1 gW A l _ h1) (aP.eqv (pk _ _) aP.nil)))) (bp ?_);refine bF 10 I ag ag ag I (ds I I I I I I) I ?_;refine bn 7 ?_;refine aL I I I nn ?_;unfold b8;refine bp ?_;refine bn 8 ?_;refine bt ?_;exact fin _ aH
    ·refine bt ?_;refine dV 1 6 ?_ ?_
     ·refine bh ?_;refine dV 4 6 ?_ ?_
      ·refine dI I I I I I I I I I iQ I I eu I (by show (j+1)*24≤_∧j+1≤_;omega) ?_ dq ?_
       ·intro aK ba aQ bd;exact iF [] 1 gW pf A l _ h1 2 aK ba aQ bd
       refine fD [some ⟨155,.box [.nil,.nil,.nil]⟩,some ⟨155,.box [.any,.aC 3 0 j,.nil]⟩,some ⟨110,c8 (A++[l])⟩,some ⟨118,aO B⟩] (aP.eqv (cG.refl _) (aP.eqv (cG.refl _) (aP.eqv (h7 [] 1 gW A l _ h1) (aP.eqv (pk _ _) aP.nil)))) (bp ?_);refine dV 6 7 ?_ ?_
       ·refine bh ?_;refine bF 10 I ag ag ag I (ds I I I I I I) I ?_;refine bn 7 ?_;refine aL I I I nn ?_;unfold b8;refine bp ?_;refine bn 8 ?_;refine bt ?_;exact fin _ aH
       ·refine aL I I I nn ?_;unfold b8;refine bp ?_;refine dV 6 8 ?_ ?_
        ·refine bh ?_;refine bF 10 I ag ag ag I (ds I I I I I I) I ?_;refine bn 8 ?_;refine bt ?_;exact fin _ aH
        ·refine bt ?_;refine bn 6 ?_;refine bh ?_;refine bF 10 I ag ag ag I (ds I I I I I I) I ?_;exact fin _ aH
      ·refine bh ?_;refine bn 4 ?_;refine dI I I I I I I I I I iQ I I eu I (by show (j+1)*24≤_∧j+1≤_;omega) ?_ dq ?_
       ·intro aK ba aQ bd;exact iF [] 1 gW pf A l _ h1 2 aK ba aQ bd
       refine fD [some ⟨155,.box [.nil,.nil,.nil]⟩,some ⟨155,.box [.any,.aC 3 0 j,.nil]⟩,some ⟨110,c8 (A++[l])⟩,some ⟨118,aO B⟩] (aP.eqv (cG.refl _) (aP.eqv (cG.refl _) (aP.eqv (h7 [] 1 gW A l _ h1) (aP.eqv (pk _ _) aP.nil)))) (bp ?_);refine bF 10 I ag ag ag I (ds I I I I I I) I ?_;refine bn 7 ?_;refine aL I I I nn ?_;unfold b8;refine bp ?_;refine bn 8 ?_;refine bt ?_;exact fin _ aH
     ·refine bh ?_;refine bn 1 ?_;refine bh ?_;refine bn 4 ?_;refine dI I I I I I I I I I iQ I I eu I (by show (j+1)*24≤_∧j+1≤_;omega) ?_ dq ?_
      ·intro aK ba aQ bd;exact iF [] 1 gW pf A l _ h1 2 aK ba aQ bd
      refine fD [some ⟨155,.box [.nil,.nil,.nil]⟩,some ⟨155,.box [.any,.aC 3 0 j,.nil]⟩,some ⟨110,c8 (A++[l])⟩,some ⟨118,aO B⟩] (aP.eqv (cG.refl _) (aP.eqv (cG.refl _) (aP.eqv (h7 [] 1 gW A l _ h1) (aP.eqv (pk _ _) aP.nil)))) (bp ?_);refine bF 10 I ag ag ag I (ds I I I I I I) I ?_;refine bn 7 ?_;refine aL I I I nn ?_;unfold b8;refine bp ?_;refine bn 8 ?_;refine bt ?_;exact fin _ aH
    ·refine bh ?_;refine dV 1 3 ?_ ?_
     ·refine bh ?_;refine bn 3 ?_;refine bt ?_;refine bn 4 ?_;refine dI I I I I I I I I I iQ I I eu I (by show (j+1)*24≤_∧j+1≤_;omega) ?_ dq ?_
      ·intro aK ba aQ bd;exact iF [] 1 gW pf A l _ h1 2 aK ba aQ bd
      refine fD [some ⟨155,.box [.nil,.nil,.nil]⟩,some ⟨155,.box [.any,.aC 3 0 j,.nil]⟩,some ⟨110,c8 (A++[l])⟩,some ⟨118,aO B⟩] (aP.eqv (cG.refl _) (aP.eqv (cG.refl _) (aP.eqv (h7 [] 1 gW A l _ h1) (aP.eqv (pk _ _) aP.nil)))) (bp ?_);refine bF 10 I ag ag ag I (ds I I I I I I) I ?_;refine bn 7 ?_;refine aL I I I nn ?_;unfold b8;refine bp ?_;refine bn 8 ?_;refine bt ?_;exact fin _ aH
     ·refine bt ?_;refine bn 1 ?_;refine bh ?_;refine bn 4 ?_;refine dI I I I I I I I I I iQ I I eu I (by show (j+1)*24≤_∧j+1≤_;omega) ?_ dq ?_
      ·intro aK ba aQ bd;exact iF [] 1 gW pf A l _ h1 2 aK ba aQ bd
      refine fD [some ⟨155,.box [.nil,.nil,.nil]⟩,some ⟨155,.box [.any,.aC 3 0 j,.nil]⟩,some ⟨110,c8 (A++[l])⟩,some ⟨118,aO B⟩] (aP.eqv (cG.refl _) (aP.eqv (cG.refl _) (aP.eqv (h7 [] 1 gW A l _ h1) (aP.eqv (pk _ _) aP.nil)))) (bp ?_);refine bF 10 I ag ag ag I (ds I I I I I I) I ?_;refine bn 7 ?_;refine aL I I I nn ?_;unfold b8;refine bp ?_;refine bn 8 ?_;refine bt ?_;exact fin _ aH
   refine bn 9 ?_;refine dI I I I I I I I I I Bz I I eu I (by show (j+1)*56≤_∧j+1≤_;omega) ?_ dq ?_
   ·intro aK ba aQ bd;exact iF 0 3 bV vh B (0) _ (nW _) 3 aK ba aQ bd
   refine fD [some ⟨155,.box [.nil,.nil,.nil]⟩,some ⟨155,.box [.any,.any,.nil]⟩,some ⟨110,c8 (A++[l])⟩,some ⟨118,aO (B++[0])⟩] (aP.eqv (cG.refl _) (aP.eqv (cG.refl _) (aP.eqv (Yl _ _) (aP.eqv (h7 0 3 bV B (0) _ (nW _)) aP.nil)))) (bp ?_);refine bn 11 ?_;refine sB ?_;refine bF 12 I ag ag ag I (ds I I I I I I) I ?_;refine bn 13 ?_;refine sB ?_;refine dX ag (bl ?_);exact cc ⟨j+1,J,J,aH,by rw [mW,HZ,uK,H0];rfl⟩
 have hc:j=m:=J;subst hc;refine jv (p2 (j+2*0) (j+2*0) (ln M E F n j k (2*0)) (nN j (2*0)) []) (by rw [←ait];rfl) (bl ?_);refine cF (ι:=Nat) (fun c=>[(0,.ro (c8 M) 0 n),(1,.ro (gf E) 0 gH),(2,.ro (gf F) 0 k),(6,.ptr 0 0 0),(7,ah n),(8,ah k),(9,.ptr 1 0 0),(103,.ro (gf E) 0 gH),(104,ah gH),(105,ah c)]) (fun c=>p2 (j+2*c) (j+2*c) (ln M E F n j k (2*c)) (nN j (2*c)) []) (fun c=>c≤gH) (fun c=>gH-c) 0 ⟨aH,I,cj _⟩ ?_;intro c av;refine bh ?_;refine bw I (fun h=> ?_) (fun h=> ?_)
 ·have zN:c<gH:=J;have RR:=dx c zN;refine u9 ?_;refine ea 15 (.ro (.ints .i64 (E.getD c [])) 0 n) I (aU.of_eq (by show ao.ro (.ints .i64 (E.getD c [])) 0 (E.getD c []).length=_;rw [RR])) ?_;refine cF (ι:=Nat) (fun s=>[(0,.ro (c8 M) 0 n),(1,.ro (gf E) 0 gH),(2,.ro (gf F) 0 k),(6,.ptr 0 0 0),(7,ah n),(8,ah k),(9,.ptr 1 0 0),(103,.ro (gf E) 0 gH),(104,ah gH),(105,ah c),(14,ah c),(15,.ro (.ints .i64 (E.getD c [])) 0 n),(110,.agg [.int .i64 1,.int .i64 (-1)]),(111,ah s)]) (fun s=>p2 (j+(2*c+s)) (j+(2*c+s)) (ln M E F n j k (2*c+s)) (nN j (2*c+s)) []) (fun s=>s≤2) (fun s=>2-s) 0 ⟨aH,I,cj _⟩ ?_;intro s az;refine bh ?_;refine bw I (fun bc=> ?_) (fun bc=> ?_)
  ·have hf:s<2:=J;have EM:(2*c+s)%2=s:=J;have SS:(2*c+s)/2=c:=J;have HZ:=air M E F n j k (2*c+s);have H0:=ais j (2*c+s);have iQ:(ln M E F n j k (2*c+s)).length=j+(2*c+s):=KQ ..;have Bz:(nN j (2*c+s)).length=j+(2*c+s):=Qx ..;have H2: -1≤mb s∧mb s≤1:=by unfold mb;split<;>decide
   rw [show 2*c+s+1=2*c+(s+1) by omega] at HZ H0;generalize mW:ln M E F n j k (2*c+(s+1))=zc at*;generalize ln M E F n j k (2*c+s)=A at*;generalize uK:nN j (2*c+(s+1))=QE at*;generalize nN j (2*c+s)=B at*;refine bp ?_;refine aq (aiT I I I I I I I ⟨J,by show (s:Int)<((2:Nat):Int);omega,by show (s:Int)<((2:Nat):Int);omega⟩) ?_;refine bR 113 (.int .i64 (mb s)) I (aU.of_eq (by
    rcases (show s=0∨s=1 by omega) with e|e<;>subst e<;>rfl)) ?_
   refine bE ?_;refine aq (Iz I I J) ?_;repeat (refine aq (hE rfl rfl J) ?_)
   refine bR 117 (.int .i64 ((n+2*k:Nat))) I (aU.of_eq (by congr 1)) ?_;refine nR I I I MO ?_;refine dA (p2 (j+(2*c+s)) (j+(2*c+s)) A B [some ⟨118,aO (iJ (n+2*k) (qM E n (2*c+s)) (fun y=>decide (y<0)))⟩]) (by rw [WY _ _ (fun y=>fP (gh y))];rfl) (bt ?_);refine cF (ι:=Nat) (fun i=>[(0,.ro (c8 M) 0 n),(1,.ro (gf E) 0 gH),(2,.ro (gf F) 0 k),(6,.ptr 0 0 0),(7,ah n),(8,ah k),(9,.ptr 1 0 0),(103,.ro (gf E) 0 gH),(104,ah gH),(105,ah c),(14,ah c),(15,.ro (.ints .i64 (E.getD c [])) 0 n),(110,.agg [.int .i64 1,.int .i64 (-1)]),(111,ah s),(17,.int .i64 (mb s)),(18,.aC 4 0 (n+2*k)),(119,.ro (.ints .i64 (E.getD c [])) 0 n),(120,ah n),(121,ah i)]) (fun i=>p2 (j+(2*c+s)) (j+(2*c+s)) A B [some ⟨118,aO (iJ (n+2*k) (qM E n (2*c+s)) (fun y=>decide (y<i)))⟩]) (fun i=>i≤n) (fun i=>n-i) 0 ⟨aH,I,cj _⟩ ?_;intro i aa;refine bh ?_;refine bw I (fun bI=> ?_) (fun bI=> ?_)
   ·have aQ:i<n:=J;have c7:(iJ (n+2*k) (qM E n (2*c+s)) (fun y=>decide (y<i))).set i (qM E n (2*c+s) i)=iJ (n+2*k) (qM E n (2*c+s)) (fun y=>decide (y<i+1)):=Kc (fun y=>X3 y i);have Eu:qM E n (2*c+s) i=((mb s*(E.getD c []).getD i 0:Int):Rat):=by unfold qM;rw [aB aQ,EM,SS]
    have SA:=C5 (n+2*k) (qM E n (2*c+s)) (fun y=>decide (y<i));rw [Eu] at c7;generalize Eh:iJ (n+2*k) (qM E n (2*c+s)) (fun y=>decide (y<i+1))=QL at*;generalize iJ (n+2*k) (qM E n (2*c+s)) (fun y=>decide (y<i))=R at*;have sn:i<(aO R).len:=by show i<R.length;omega
    obtain ⟨aE,aF⟩:=ady c i;have hmul: -1≤mb s*(E.getD c []).getD i 0∧mb s*(E.getD c []).getD i 0≤1:=by
     rcases (show s=0∨s=1 by omega) with e|e
     ·subst e;rw [show mb 0=1 from rfl,mv];exact ⟨aE,aF⟩
     ·subst e;rw [show mb 1= -1 from rfl];omega
    have co:=AY (mb s*(E.getD c []).getD i 0) J;refine bf ?_;refine aq (Iz I I J) ?_;skip
    refine aL I I I co ?_;generalize ((mb s*(E.getD c []).getD i 0:Int):Rat)=z at*;unfold b8;repeat (refine aq (gr rfl rfl rfl rfl rfl hq J) ?_)
    refine eN (c':=aO (R.set i z)) I I I I I sn (by show (List.set _ i _).length=_;rw [da];rfl) I (fun aK ba aQ bd=>jw 0 3 bV R i z sn aK ba aQ bd) (bl ?_);exact cc ⟨i+1,J,J,aH,by rw [Eh,←c7];rfl⟩
   have dn:i=n:=J;subst dn;rw [aiu];have wI:(Al E i k (2*c+s)).length=i+2*k:=by unfold Al;rw [cW,gN]
   generalize Al E i k (2*c+s)=l at*;have h1: ∀ba,ba<1→(fM 1 1 [.ro (aO l) 0 (i+2*k)]).at 0 ba=(gW l).getD ba .any:=fun ba bd=>by rw [←wI];exact T7 l ba bd
   have Em:qz (2*c+s)=if c=0 then mb s else 0:=by unfold qz;rw [EM,SS]
   refine eL ?_;refine du ?_;refine dc I ?_;refine eL ?_;refine du ?_;apply kP (H:=p2 (j+(2*c+s)) (j+(2*c+s)) A B [some ⟨118,aO l⟩]) [(0,.ro (c8 M) 0 i),(1,.ro (gf E) 0 gH),(2,.ro (gf F) 0 k),(6,.ptr 0 0 0),(7,ah i),(8,ah k),(9,.ptr 1 0 0),(103,.ro (gf E) 0 gH),(104,ah gH),(105,ah c),(14,ah c),(15,.ro (.ints .i64 (E.getD c [])) 0 i),(110,.agg [.int .i64 1,.int .i64 (-1)]),(111,ah s),(17,.int .i64 (mb s)),(18,.aC 4 0 (i+2*k)),(21,.int .i64 (qz (2*c+s)))]
   ·intro fin;refine du ?_;refine dc I ?_;repeat (first|refine aq (bD rfl) ?_|refine cY ?_|refine b6 ?_|refine aq (nV rfl rfl) ?_)
    refine bw I (fun db=> ?_) (fun db=> ?_)
    ·rw [aB J] at Em;rw [Em] at fin;refine dc I ?_;refine eL ?_;exact fin _ aH
    ·rw [aw J] at Em;rw [Em] at fin;refine eL ?_;exact fin _ aH
   clear Em RR;have oh: -1≤qz (2*c+s)∧qz (2*c+s)≤1:=by unfold qz;rw [EM];split<;>omega
   have uH:=AY (qz (2*c+s)) J;generalize MT:((qz (2*c+s):Int):Rat)=KW at*;generalize SU:2*c+s=r at*;refine mG 4 18 (i+2*k) [(0,.ro (c8 M) 0 i),(1,.ro (gf E) 0 gH),(2,.ro (gf F) 0 k),(6,.ptr 0 0 0),(7,ah i),(8,ah k),(9,.ptr 1 0 0),(103,.ro (gf E) 0 gH),(104,ah gH),(105,ah c),(14,ah c),(15,.ro (.ints .i64 (E.getD c [])) 0 i),(110,.agg [.int .i64 1,.int .i64 (-1)]),(111,ah s),(17,.int .i64 (mb s)),(21,.int .i64 (qz r))] I (oA _) I (by show _≤l.length;omega) aH ?_;refine fB (p2 (j+r) (j+r) A B []) [none] [(0,.ro (c8 M) 0 i),(1,.ro (gf E) 0 gH),(2,.ro (gf F) 0 k),(6,.ptr 0 0 0),(7,ah i),(8,ah k),(9,.ptr 1 0 0),(103,.ro (gf E) 0 gH),(104,ah gH),(105,ah c),(14,ah c),(15,.ro (.ints .i64 (E.getD c [])) 0 i),(110,.agg [.int .i64 1,.int .i64 (-1)]),(111,ah s),(17,.int .i64 (mb s)),(21,.int .i64 (qz r)),(18,.ro (aO l) 0 (i+2*k))] I aH hO (Ya _ _ _ _) I ?_;skip
   refine ee ag ?_;refine bF 0 I ag ag ag I (ds I I I I I I) I ?_;refine bF 2 I ag ag ag I (bD I) I ?_;refine bF 5 I ag ag ag I (ds I I I I I I) I ?_;refine bF 7 I ag ag ag I (bD I) I ?_;apply tS (H:=[some ⟨155,.box [.nil,.nil,.nil]⟩,some ⟨155,.box [.any,.aC 3 0 (j+r),.nil]⟩,some ⟨110,c8 (A++[l])⟩,some ⟨118,aO B⟩]) [(0,.ro (c8 M) 0 i),(1,.ro (gf E) 0 gH),(2,.ro (gf F) 0 k),(6,.ptr 0 0 0),(7,ah i),(8,ah k),(9,.ptr 1 0 0),(103,.ro (gf E) 0 gH),(104,ah gH),(105,ah c),(14,ah c),(15,.ro (.ints .i64 (E.getD c [])) 0 i),(110,.agg [.int .i64 1,.int .i64 (-1)]),(111,ah s),(17,.int .i64 (mb s)),(21,.int .i64 (qz r)),(141,.aC 2 0 ((j+r)+1)),(143,.aC 3 0 ((j+r))),(146,.ro (fM 1 3 (bV (KW))) 0 1),(148,.ptr 1 0 0)]
   ·intro fin;refine tO (is:=[1,3,6]) ag b1 I ⟨fun o ai=> ?_,fun o ai=> ?_,fun o ai=> ?_,trivial⟩;all_goals (cases ai)
    ·refine bh ?_;refine dV 3 6 ?_ ?_
     ·refine bt ?_;refine dV 4 6 ?_ ?_
      ·refine dI I I I I I I I I I iQ I I eu I (by show ((j+r)+1)*24≤_∧(j+r)+1≤_;omega) ?_ dq ?_
       ·intro aK ba aQ bd;exact iF [] 1 gW pf A l _ h1 2 aK ba aQ bd
       refine fD [some ⟨155,.box [.nil,.nil,.nil]⟩,some ⟨155,.box [.any,.aC 3 0 (j+r),.nil]⟩,some ⟨110,c8 (A++[l])⟩,some ⟨118,aO B⟩] (aP.eqv (cG.refl _) (aP.eqv (cG.refl _) (aP.eqv (h7 [] 1 gW A l _ h1) (aP.eqv (pk _ _) aP.nil)))) (bp ?_);refine dV 6 8 ?_ ?_
       ·refine bh ?_;refine bF 11 I ag ag ag I (ds I I I I I I) I ?_;refine bn 8 ?_;refine aL I I I uH ?_;unfold b8;refine bp ?_;refine bn 9 ?_;refine bt ?_;exact fin _ aH
       ·refine aL I I I uH ?_;unfold b8;refine bp ?_;refine dV 6 9 ?_ ?_
        ·refine bh ?_;refine bF 11 I ag ag ag I (ds I I I I I I) I ?_;refine bn 9 ?_;refine bt ?_;exact fin _ aH
        ·refine bt ?_;refine bn 6 ?_;refine bh ?_;refine bF 11 I ag ag ag I (ds I I I I I I) I ?_;exact fin _ aH
      ·refine bh ?_;refine bn 4 ?_;refine dI I I I I I I I I I iQ I I eu I (by show ((j+r)+1)*24≤_∧(j+r)+1≤_;omega) ?_ dq ?_
       ·intro aK ba aQ bd;exact iF [] 1 gW pf A l _ h1 2 aK ba aQ bd
       refine fD [some ⟨155,.box [.nil,.nil,.nil]⟩,some ⟨155,.box [.any,.aC 3 0 (j+r),.nil]⟩,some ⟨110,c8 (A++[l])⟩,some ⟨118,aO B⟩] (aP.eqv (cG.refl _) (aP.eqv (cG.refl _) (aP.eqv (h7 [] 1 gW A l _ h1) (aP.eqv (pk _ _) aP.nil)))) (bp ?_);refine bF 11 I ag ag ag I (ds I I I I I I) I ?_;refine bn 8 ?_;refine aL I I I uH ?_;unfold b8;refine bp ?_;refine bn 9 ?_;refine bt ?_;exact fin _ aH
     ·refine bh ?_;refine bn 3 ?_;refine bt ?_;refine bn 4 ?_;refine dI I I I I I I I I I iQ I I eu I (by show ((j+r)+1)*24≤_∧(j+r)+1≤_;omega) ?_ dq ?_
      ·intro aK ba aQ bd;exact iF [] 1 gW pf A l _ h1 2 aK ba aQ bd
      refine fD [some ⟨155,.box [.nil,.nil,.nil]⟩,some ⟨155,.box [.any,.aC 3 0 (j+r),.nil]⟩,some ⟨110,c8 (A++[l])⟩,some ⟨118,aO B⟩] (aP.eqv (cG.refl _) (aP.eqv (cG.refl _) (aP.eqv (h7 [] 1 gW A l _ h1) (aP.eqv (pk _ _) aP.nil)))) (bp ?_);refine bF 11 I ag ag ag I (ds I I I I I I) I ?_;refine bn 8 ?_;refine aL I I I uH ?_;unfold b8;refine bp ?_;refine bn 9 ?_;refine bt ?_;exact fin _ aH
    ·refine bt ?_;refine dV 1 6 ?_ ?_
     ·refine bh ?_;refine dV 4 6 ?_ ?_
      ·refine dI I I I I I I I I I iQ I I eu I (by show ((j+r)+1)*24≤_∧(j+r)+1≤_;omega) ?_ dq ?_
       ·intro aK ba aQ bd;exact iF [] 1 gW pf A l _ h1 2 aK ba aQ bd
       refine fD [some ⟨155,.box [.nil,.nil,.nil]⟩,some ⟨155,.box [.any,.aC 3 0 (j+r),.nil]⟩,some ⟨110,c8 (A++[l])⟩,some ⟨118,aO B⟩] (aP.eqv (cG.refl _) (aP.eqv (cG.refl _) (aP.eqv (h7 [] 1 gW A l _ h1) (aP.eqv (pk _ _) aP.nil)))) (bp ?_);refine dV 6 8 ?_ ?_
       ·refine bh ?_;refine bF 11 I ag ag ag I (ds I I I I I I) I ?_;refine bn 8 ?_;refine aL I I I uH ?_;unfold b8;refine bp ?_;refine bn 9 ?_;refine bt ?_;exact fin _ aH
       ·refine aL I I I uH ?_;unfold b8;refine bp ?_;refine dV 6 9 ?_ ?_
        ·refine bh ?_;refine bF 11 I ag ag ag I (ds I I I I I I) I ?_;refine bn 9 ?_;refine bt ?_;exact fin _ aH
        ·refine bt ?_;refine bn 6 ?_;refine bh ?_;refine bF 11 I ag ag ag I (ds I I I I I I) I ?_;exact fin _ aH
      ·refine bh ?_;refine bn 4 ?_;refine dI I I I I I I I I I iQ I I eu I (by show ((j+r)+1)*24≤_∧(j+r)+1≤_;omega) ?_ dq ?_
       ·intro aK ba aQ bd;exact iF [] 1 gW pf A l _ h1 2 aK ba aQ bd
       refine fD [some ⟨155,.box [.nil,.nil,.nil]⟩,some ⟨155,.box [.any,.aC 3 0 (j+r),.nil]⟩,some ⟨110,c8 (A++[l])⟩,some ⟨118,aO B⟩] (aP.eqv (cG.refl _) (aP.eqv (cG.refl _) (aP.eqv (h7 [] 1 gW A l _ h1) (aP.eqv (pk _ _) aP.nil)))) (bp ?_);refine bF 11 I ag ag ag I (ds I I I I I I) I ?_;refine bn 8 ?_;refine aL I I I uH ?_;unfold b8;refine bp ?_;refine bn 9 ?_;refine bt ?_;exact fin _ aH
     ·refine bh ?_;refine bn 1 ?_;refine bh ?_;refine bn 4 ?_;refine dI I I I I I I I I I iQ I I eu I (by show ((j+r)+1)*24≤_∧(j+r)+1≤_;omega) ?_ dq ?_
      ·intro aK ba aQ bd;exact iF [] 1 gW pf A l _ h1 2 aK ba aQ bd
      refine fD [some ⟨155,.box [.nil,.nil,.nil]⟩,some ⟨155,.box [.any,.aC 3 0 (j+r),.nil]⟩,some ⟨110,c8 (A++[l])⟩,some ⟨118,aO B⟩] (aP.eqv (cG.refl _) (aP.eqv (cG.refl _) (aP.eqv (h7 [] 1 gW A l _ h1) (aP.eqv (pk _ _) aP.nil)))) (bp ?_);refine bF 11 I ag ag ag I (ds I I I I I I) I ?_;refine bn 8 ?_;refine aL I I I uH ?_;unfold b8;refine bp ?_;refine bn 9 ?_;refine bt ?_;exact fin _ aH
    ·refine bh ?_;refine dV 1 3 ?_ ?_
     ·refine bh ?_;refine bn 3 ?_;refine bt ?_;refine bn 4 ?_;refine dI I I I I I I I I I iQ I I eu I (by show ((j+r)+1)*24≤_∧(j+r)+1≤_;omega) ?_ dq ?_
      ·intro aK ba aQ bd;exact iF [] 1 gW pf A l _ h1 2 aK ba aQ bd
      refine fD [some ⟨155,.box [.nil,.nil,.nil]⟩,some ⟨155,.box [.any,.aC 3 0 (j+r),.nil]⟩,some ⟨110,c8 (A++[l])⟩,some ⟨118,aO B⟩] (aP.eqv (cG.refl _) (aP.eqv (cG.refl _) (aP.eqv (h7 [] 1 gW A l _ h1) (aP.eqv (pk _ _) aP.nil)))) (bp ?_);refine bF 11 I ag ag ag I (ds I I I I I I) I ?_;refine bn 8 ?_;refine aL I I I uH ?_;unfold b8;refine bp ?_;refine bn 9 ?_;refine bt ?_;exact fin _ aH
     ·refine bt ?_;refine bn 1 ?_;refine bh ?_;refine bn 4 ?_;refine dI I I I I I I I I I iQ I I eu I (by show ((j+r)+1)*24≤_∧(j+r)+1≤_;omega) ?_ dq ?_
      ·intro aK ba aQ bd;exact iF [] 1 gW pf A l _ h1 2 aK ba aQ bd
      refine fD [some ⟨155,.box [.nil,.nil,.nil]⟩,some ⟨155,.box [.any,.aC 3 0 (j+r),.nil]⟩,some ⟨110,c8 (A++[l])⟩,some ⟨118,aO B⟩] (aP.eqv (cG.refl _) (aP.eqv (cG.refl _) (aP.eqv (h7 [] 1 gW A l _ h1) (aP.eqv (pk _ _) aP.nil)))) (bp ?_);refine bF 11 I ag ag ag I (ds I I I I I I) I ?_;refine bn 8 ?_;refine aL I I I uH ?_;unfold b8;refine bp ?_;refine bn 9 ?_;refine bt ?_;exact fin _ aH
   refine bn 10 ?_;refine dI I I I I I I I I I Bz I I eu I (by show ((j+r)+1)*56≤_∧(j+r)+1≤_;omega) ?_ dq ?_
   ·intro aK ba aQ bd;exact iF 0 3 bV vh B (KW) _ (nW _) 3 aK ba aQ bd
   refine fD [some ⟨155,.box [.nil,.nil,.nil]⟩,some ⟨155,.box [.any,.any,.nil]⟩,some ⟨110,c8 (A++[l])⟩,some ⟨118,aO (B++[KW])⟩] (aP.eqv (cG.refl _) (aP.eqv (cG.refl _) (aP.eqv (Yl _ _) (aP.eqv (h7 0 3 bV B (KW) _ (nW _)) aP.nil)))) (bp ?_);refine bn 12 ?_;refine sB ?_;refine bF 13 I ag ag ag I (ds I I I I I I) I ?_;refine bn 14 ?_;refine sB ?_;refine dX ag (bl ?_);exact cc ⟨s+1,J,J,aH,by rw [mW,HZ,uK,H0,show j+(2*c+(s+1))=j+r+1 by omega];rfl⟩
  ·have afW:s=2:=J;subst afW;refine bl ?_;exact cc ⟨c+1,J,J,aH,by rw [show 2*(c+1)=2*c+2 by omega]⟩
 have zO:c=gH:=J;subst zO;have iQ:(ln M E F n j k (2*c)).length=j+2*c:=KQ ..;have Bz:(nN j (2*c)).length=j+2*c:=Qx ..;have Lv:((List.replicate (n+2*k) (0:Rat)).set n 1).set (n+k) (-1)=wW n k:=rfl;generalize ln M E F n j k (2*c)=A at*;generalize nN j (2*c)=B at*;refine bl ?_;refine aq (Iz I I J) ?_;repeat (refine aq (hE rfl rfl J) ?_)
 refine bR 155 (.int .i64 ((n+2*k:Nat))) I (aU.of_eq (by congr 1)) ?_;refine nR I I I MO ?_;generalize List.replicate (n+2*k) (0:Rat)=R at*;have tp:br Tryz.prog 113 [.int .i64 (-1)] (b8 (-1)):=AY (-1) aT;have h0:n<(aO R).len:=by show n<R.length;omega
 have Ec:n+k<(aO (R.set n 1)).len:=by show n+k<(List.set _ _ _).length;rw [da];omega
 refine fe ?_;refine ee ag ?_;apply tS (H:=[some ⟨155,.box [.nil,.nil,.nil]⟩,some ⟨155,.box [.aC 2 0 (j+2*c),.aC 3 0 (j+2*c),.aC 4 0 (n+2*k)]⟩,some ⟨110,c8 A⟩,some ⟨118,aO B⟩,some ⟨118,aO (R.set n 1)⟩]) [(0,.ro (c8 M) 0 n),(1,.ro (gf E) 0 c),(2,.ro (gf F) 0 k),(6,.ptr 0 0 0),(7,ah n),(8,ah k),(9,.ptr 1 0 0),(162,.aC 4 0 (n+2*k)),(165,ah (n+k)),(167,b8 (-1))]
 ·intro fin;refine bF 0 I ag ag ag I (ds I I I I I I) I ?_;refine bF 2 I ag ag ag I (bD I) I ?_;refine bF 3 I ag ag ag I (ds I I I I I I) I ?_;refine bF 5 I ag ag ag I (bD I) I ?_;refine bF 6 I ag ag ag I (bD I) I ?_;refine bF 7 I ag ag ag I (hE I I J) I ?_;refine tO (is:=[1,4,8]) ag b1 I ⟨fun o ai=> ?_,fun o ai=> ?_,fun o ai=> ?_,trivial⟩;all_goals (cases ai)
  ·refine bh ?_;refine dV 4 8 ?_ ?_
   ·refine bh ?_;refine bn 8 ?_;refine aL I I I vA (bp ?_);refine bn 9 ?_;refine aL I I I tp ?_;unfold b8;refine bp ?_;refine bF 10 I ag ag ag I (gr I I I I I (by first|(simp only [cR,cn,fJ];exact I)|exact I) J) I ?_;refine bn 11 ?_;refine eN (c':=aO (R.set n 1)) I I I I I h0 ot I (fun aK ba aQ bd=>jw 0 3 bV R n 1 h0 aK ba aQ bd) (bp ?_);exact fin _ aH
   ·refine aL I I I vA (bp ?_);refine dV 4 9 ?_ ?_
    ·refine bh ?_;refine bn 9 ?_;refine aL I I I tp ?_;unfold b8;refine bp ?_;refine bF 10 I ag ag ag I (gr I I I I I (by first|(simp only [cR,cn,fJ];exact I)|exact I) J) I ?_;refine bn 11 ?_;refine eN (c':=aO (R.set n 1)) I I I I I h0 ot I (fun aK ba aQ bd=>jw 0 3 bV R n 1 h0 aK ba aQ bd) (bp ?_);exact fin _ aH
    ·refine aL I I I tp ?_;unfold b8;refine bp ?_;refine bF 10 I ag ag ag I (gr I I I I I (by first|(simp only [cR,cn,fJ];exact I)|exact I) J) I ?_;refine dV 4 11 ?_ ?_
     ·refine bh ?_;refine bn 11 ?_;refine eN (c':=aO (R.set n 1)) I I I I I h0 ot I (fun aK ba aQ bd=>jw 0 3 bV R n 1 h0 aK ba aQ bd) (bp ?_);exact fin _ aH
     ·refine eN (c':=aO (R.set n 1)) I I I I I h0 ot I (fun aK ba aQ bd=>jw 0 3 bV R n 1 h0 aK ba aQ bd) (bp ?_);refine bn 4 ?_;refine bh ?_;exact fin _ aH
  ·refine bh ?_;refine dV 1 8 ?_ ?_
   ·refine bh ?_;refine bn 8 ?_;refine aL I I I vA (bp ?_);refine bn 9 ?_;refine aL I I I tp ?_;unfold b8;refine bp ?_;refine bF 10 I ag ag ag I (gr I I I I I (by first|(simp only [cR,cn,fJ];exact I)|exact I) J) I ?_;refine bn 11 ?_;refine eN (c':=aO (R.set n 1)) I I I I I h0 ot I (fun aK ba aQ bd=>jw 0 3 bV R n 1 h0 aK ba aQ bd) (bp ?_);exact fin _ aH
   ·refine aL I I I vA (bp ?_);refine dV 1 9 ?_ ?_
    ·refine bh ?_;refine bn 9 ?_;refine aL I I I tp ?_;unfold b8;refine bp ?_;refine bF 10 I ag ag ag I (gr I I I I I (by first|(simp only [cR,cn,fJ];exact I)|exact I) J) I ?_;refine bn 11 ?_;refine eN (c':=aO (R.set n 1)) I I I I I h0 ot I (fun aK ba aQ bd=>jw 0 3 bV R n 1 h0 aK ba aQ bd) (bp ?_);exact fin _ aH
    ·refine aL I I I tp ?_;unfold b8;refine bp ?_;refine bn 1 ?_;refine bh ?_;refine bF 10 I ag ag ag I (gr I I I I I (by first|(simp only [cR,cn,fJ];exact I)|exact I) J) I ?_;refine bn 11 ?_;refine eN (c':=aO (R.set n 1)) I I I I I h0 ot I (fun aK ba aQ bd=>jw 0 3 bV R n 1 h0 aK ba aQ bd) (bp ?_);exact fin _ aH
  ·refine aL I I I vA (bp ?_);refine tO (is:=[1,4,9]) ag b1 I ⟨fun o ai=> ?_,fun o ai=> ?_,fun o ai=> ?_,trivial⟩;all_goals (cases ai)
   ·refine bh ?_;refine dV 4 9 ?_ ?_
    ·refine bh ?_;refine bn 9 ?_;refine aL I I I tp ?_;unfold b8;refine bp ?_;refine bF 10 I ag ag ag I (gr I I I I I (by first|(simp only [cR,cn,fJ];exact I)|exact I) J) I ?_;refine bn 11 ?_;refine eN (c':=aO (R.set n 1)) I I I I I h0 ot I (fun aK ba aQ bd=>jw 0 3 bV R n 1 h0 aK ba aQ bd) (bp ?_);exact fin _ aH
    ·refine aL I I I tp ?_;unfold b8;refine bp ?_;refine bF 10 I ag ag ag I (gr I I I I I (by first|(simp only [cR,cn,fJ];exact I)|exact I) J) I ?_;refine dV 4 11 ?_ ?_
     ·refine bh ?_;refine bn 11 ?_;refine eN (c':=aO (R.set n 1)) I I I I I h0 ot I (fun aK ba aQ bd=>jw 0 3 bV R n 1 h0 aK ba aQ bd) (bp ?_);exact fin _ aH
     ·refine eN (c':=aO (R.set n 1)) I I I I I h0 ot I (fun aK ba aQ bd=>jw 0 3 bV R n 1 h0 aK ba aQ bd) (bp ?_);refine bn 4 ?_;refine bh ?_;exact fin _ aH
   ·refine bh ?_;refine dV 1 9 ?_ ?_
    ·refine bh ?_;refine bn 9 ?_;refine aL I I I tp ?_;unfold b8;refine bp ?_;refine bF 10 I ag ag ag I (gr I I I I I (by first|(simp only [cR,cn,fJ];exact I)|exact I) J) I ?_;refine bn 11 ?_;refine eN (c':=aO (R.set n 1)) I I I I I h0 ot I (fun aK ba aQ bd=>jw 0 3 bV R n 1 h0 aK ba aQ bd) (bp ?_);exact fin _ aH
    ·refine aL I I I tp ?_;unfold b8;refine bp ?_;refine bn 1 ?_;refine bh ?_;refine bF 10 I ag ag ag I (gr I I I I I (by first|(simp only [cR,cn,fJ];exact I)|exact I) J) I ?_;refine bn 11 ?_;refine eN (c':=aO (R.set n 1)) I I I I I h0 ot I (fun aK ba aQ bd=>jw 0 3 bV R n 1 h0 aK ba aQ bd) (bp ?_);exact fin _ aH
   ·refine aL I I I tp ?_;unfold b8;refine bp ?_;refine dV 1 4 ?_ ?_
    ·refine bh ?_;refine bF 10 I ag ag ag I (gr I I I I I (by first|(simp only [cR,cn,fJ];exact I)|exact I) J) I ?_;refine dV 4 11 ?_ ?_
     ·refine bh ?_;refine bn 11 ?_;refine eN (c':=aO (R.set n 1)) I I I I I h0 ot I (fun aK ba aQ bd=>jw 0 3 bV R n 1 h0 aK ba aQ bd) (bp ?_);exact fin _ aH
     ·refine eN (c':=aO (R.set n 1)) I I I I I h0 ot I (fun aK ba aQ bd=>jw 0 3 bV R n 1 h0 aK ba aQ bd) (bp ?_);refine bn 4 ?_;refine bh ?_;exact fin _ aH
    ·refine bh ?_;refine bn 1 ?_;refine bh ?_;refine bF 10 I ag ag ag I (gr I I I I I (by first|(simp only [cR,cn,fJ];exact I)|exact I) J) I ?_;refine bn 11 ?_;refine eN (c':=aO (R.set n 1)) I I I I I h0 ot I (fun aK ba aQ bd=>jw 0 3 bV R n 1 h0 aK ba aQ bd) (bp ?_);exact fin _ aH
 refine bF 12 I ag ag ag I (gr I I I I I (by first|(simp only [cR,cn,fJ];exact I)|exact I) J) I ?_;refine bn 13 ?_;unfold b8;refine eN (c':=aO (wW n k)) I I I I I Ec (by rw [←Lv];show (List.set _ _ _).length=_;rw [da];rfl) I (fun aK ba aQ bd=>by rw [←Lv];exact jw 0 3 bV (R.set n 1) (n+k) (-1) Ec aK ba aQ bd) (bp ?_);refine dX ag ?_;have ads:(wW n k).length=n+2*k:=by rw [←Lv,da,da];exact agt
 generalize wW n k=C at*;refine iq ?_;refine Jq [none,none,some ⟨110,c8 A⟩,some ⟨118,aO B⟩,some ⟨118,aO C⟩] [some ⟨155,.box [.nil,.nil,.nil]⟩,some ⟨155,.box [.ro (c8 A) 0 (j+2*c),.ro (aO B) 0 (j+2*c),.ro (aO C) 0 (n+2*k)]⟩,none,none,none] [(6,.ptr 0 0 0),(9,.ptr 1 0 0)] ?_ ?_ I ?_ ⟨⟨_,I,.inl I⟩,⟨_,I,.inl I⟩,trivial⟩ ?_
 ·intro h o ai
  match h,ai with
  |0,ai=>simp at ai
  |1,ai=>simp at ai
  |2,ai=>exact ai
  |3,ai=>exact ai
  |4,ai=>exact ai
  |_+5,ai=>simp at ai
 ·intro h o ai
  match h,ai with
  |0,ai=>simp at ai
  |1,ai=>simp at ai
  |2,ai=>cases ai;exact alS _
  |3,ai=>cases ai;exact oA _
  |4,ai=>cases ai;exact oA _
  |_+5,ai=>simp at ai
 ·intro h o ai
  match h,ai with
  |0,ai=>cases ai;exact ⟨fun o h=>by simp at h,_,rfl,rfl,rfl,rfl,fun i j _ _=> .inl rfl⟩
  |1,ai=>
   cases ai;refine ⟨fun o h=>by simp at h,_,I,I,I,I,fun i Ti _ ae=> ?_⟩;have ae:Ti<3:=ae
   match Ti,ae with
   |0,_=>exact .inr (.inr ⟨rfl,fun o ai=>by cases ai;show 0+(j+2*c)≤A.length;omega⟩)
   |1,_=>exact .inr (.inr ⟨rfl,fun o ai=>by cases ai;show 0+(j+2*c)≤B.length;omega⟩)
   |2,_=>exact .inr (.inr ⟨rfl,fun o ai=>by cases ai;show 0+(n+2*k)≤C.length;omega⟩)
  |2,ai=>simp at ai
  |3,ai=>simp at ai
  |4,ai=>simp at ai
  |_+5,ai=>simp at ai
 refine bf ?_;refine dj (c':= .box [.ro (c8 A) 0 (j+2*c),.ro (aO B) 0 (j+2*c),.ro (aO C) 0 (n+2*k)]) I I I I I I I (bE ?_);exact aZ ar I I
end Go.Proofs.YtmpnheilfejcpaaGreatDoor
