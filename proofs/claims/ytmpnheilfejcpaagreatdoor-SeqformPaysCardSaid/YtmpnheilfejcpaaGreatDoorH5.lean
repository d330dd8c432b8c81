import Derived.Test.YtmpnheilfejcpaaGreatDoorH4
set_option linter.unusedVariables false
set_option linter.unusedSimpArgs false
set_option maxRecDepth 100000
namespace Go.aj.c0
open Go.aj.dZ
structure cq where
 rows:cB
 den:Int
 basis:List Nat
def qa (T:cB)(j:Nat):V:=fun i=>az T i j
def im (M:cB)(m:Nat)(β:List Nat):iu:=fun a=>if a<m then qa M (β.getD a 0) else fun c=>if c=a then 1 else 0
structure Inv (m N:Nat)(M:cB)(s:cq):Prop where
 n:s.rows.length=m+1
 row: ∀x∈s.rows,x.length=N+1
 b:s.basis.length=m
 sg: ∀i,i<m→s.basis.getD i 0<N
 gp:0<s.den
 unit: ∀i k,i<m+1→k<m→az s.rows i (s.basis.getD k 0)=if i=k then s.den else 0
 rq: ∃σ:Int,σ*σ=1∧et (m+1) (im M m s.basis)=σ*s.den
 yp: ∀j,j<N+1→s9 (m+1) (im M m s.basis) s.den (qa M j) (qa s.rows j)
def o0 (p:Int):Int:=if p<0 then-1 else 1
theorem T4 (p:Int):o0 p*o0 p=1:=by unfold o0;split<;>rfl
theorem Zf {p:Int}(h:p≠0):0<o0 p*p:=by
 unfold o0;split
 ·omega
 ·omega
def kZ (T:cB)(r c:Nat)(d:Int):cB:=if az T r c<0 then (pg T r c d).map (fun l=>l.map (fun x=> -x)) else pg T r c d
def jD (s:cq)(r c:Nat):cq:=⟨kZ s.rows r c s.den,if az s.rows r c<0 then-(az s.rows r c) else az s.rows r c,s.basis.set r c⟩
theorem Km (s:cq)(r c:Nat):(jD s r c).den=o0 (az s.rows r c)*az s.rows r c:=by show (if az s.rows r c<0 then-(az s.rows r c) else az s.rows r c)=_;unfold o0;split<;>omega
theorem ZX (T:cB)(i j:Nat):az (T.map (fun l=>l.map (fun x=> -x))) i j= -(az T i j):=by
 unfold az;simp only [List.getD,ly];cases h:T[i]? with
 |none=>rfl
 |some l=>
  show ((l.map (fun x=> -x))[j]?).getD 0= -((l[j]?).getD 0);rw [ly];cases l[j]? <;>rfl
theorem Yx (T:cB)(r c:Nat)(d:Int){L:Nat}(b2: ∀x∈T,x.length=L){i j:Nat}(aa:i<T.length)(ae:j<L):
 az (kZ T r c d) i j=o0 (az T r c)*(if i=r then az T r j else qT (az T i j*az T r c-az T i c*az T r j) d):=by
 unfold kZ o0;split
 ·rw [ZX,Xc T r c d b2 aa ae];omega
 ·rw [Xc T r c d b2 aa ae,nr]
theorem PC (T:cB)(r c:Nat)(d:Int):(kZ T r c d).length=T.length:=by
 unfold kZ;split
 ·rw [cr,ON]
 ·rw [ON]
theorem ahU (T:cB)(r c:Nat)(d:Int){L:Nat}(ad:r<T.length)(b2: ∀x∈T,x.length=L): ∀x∈kZ T r c d,x.length=L:=by
 unfold kZ;split
 ·intro x ar;obtain ⟨y,a1,rfl⟩:=cO.1 ar;rw [cr];exact OO T r c d ad b2 y a1
 ·exact OO T r c d ad b2
theorem Z7 {M:cB}{m:Nat}{β:List Nat}(al:β.length=m){r:Nat}(ad:r<m)(c:Nat):im M m (β.set r c)=put (im M m β) r (qa M c):=by
 funext a;show (if a<m then qa M ((β.set r c).getD a 0) else _)=if a=r then qa M c else (if a<m then qa M (β.getD a 0) else _)
 by_cases a8:a<m
 ·rw [aA a8,aA a8,fO];by_cases h:a=r
  ·rw [aA ⟨h.symm▸rfl,J⟩,aA h]
  ·rw [ax (fun q=>h q.1),ax h]
 ·rw [ax a8,ax a8,ax J]
theorem apv {n:Nat}{D:iu}{d:Int}{t0 t cF:V}(h:s9 n D d t0 t)(he: ∀i,i<n→cF i=t i):s9 n D d t0 cF:=by intro c aw;rw [←h c aw];exact hs (fun i aa=>by rw [he i aa])
theorem ajS {n:Nat}{D:iu}{d:Int}{t0 t:V}(k:Int)(h:s9 n D d t0 t):s9 n D (k*d) t0 (fun i=>k*t i):=by intro c aw;rw [kJ,←h c aw,←o8];exact hs (fun i aa=>kJ _ _ _)
theorem Inv.jD {m N:Nat}{M:cB}{s:cq}(h:Inv m N M s){r c:Nat}(ad:r<m)(aw:c<N)(aF:az s.rows r c≠0):Inv m N M (jD s r c):=by
 obtain ⟨σ,av,fy⟩:=h.rq;have hd:s.den≠0:=by have:=h.gp;omega
 have wy:r<m+1:=J;have fa:r<s.rows.length:=by rw [h.n];omega
 have al:=Z7 (M:=M) h.b ad c;have Mu:=Zf aF;have hB: ∀i j,i<m+1→j<N+1→az (c0.jD s r c).rows i j=o0 (az s.rows r c)*(if i=r then az s.rows r j else qT (az s.rows i j*az s.rows r c-az s.rows i c*az s.rows r j) s.den):=fun i j aa ae=>Yx s.rows r c s.den h.row (by rw [h.n];exact aa) ae;refine ⟨?_,?_,?_,?_,?_,?_,?_,?_⟩
 ·show (kZ _ _ _ _).length=_;rw [PC,h.n]
 ·exact ahU s.rows r c s.den fa h.row
 ·show (s.basis.set r c).length=m;rw [dd,h.b]
 ·intro i aa;show (s.basis.set r c).getD i 0<N;rw [fO];split
  ·exact aw
  ·exact h.sg i aa
 ·rw [Km];exact Mu
 ·intro i k aa an;have Hy:(c0.jD s r c).basis.getD k 0=if k=r then c else s.basis.getD k 0:=by
   show (s.basis.set r c).getD k 0=_;rw [fO];by_cases e:k=r
   ·rw [aA ⟨e,by rw [h.b];exact ad⟩,aA e]
   ·rw [ax (fun q=>e q.1),ax e]
  rw [Hy,Km];by_cases e:k=r
  ·subst e;rw [aA rfl,hB i c aa J];by_cases aJ:i=k
   ·rw [aA aJ,aA aJ]
   ·rw [ax aJ,ax aJ];have:az s.rows i c*az s.rows k c-az s.rows i c*az s.rows k c=s.den*0:=J;rw [this,Jv hd,hR]
  ·have afl:az s.rows r (s.basis.getD k 0)=0:=by rw [h.unit r k wy an,ax (fun q=>e q.symm)]
   have rh:=h.unit i k aa an;rw [ax e,hB i _ aa (by have:=h.sg k an;omega),afl,rh];by_cases aJ:i=k
   ·have zz: ¬i=r:=fun q=>e (aJ▸q);rw [ax zz,aA aJ,aA aJ,hR,Bs,Jv hd]
   ·rw [ax aJ,ax aJ];by_cases bR:i=r
    ·rw [aA bR,hR]
    ·rw [ax bR,hR,Bs];have:(0:Int)*az s.rows r c=s.den*0:=J;rw [this,Jv hd,hR]
 ·refine ⟨o0 (az s.rows r c)*σ,?_,?_⟩
  ·have:=T4 (az s.rows r c);rw [kJ,pA σ,av,Int.mul_one,this]
  ·show et (m+1) (im M m (s.basis.set r c))=_;rw [al,WI hd av fy (h.yp c J) wy,Km];have:=T4 (az s.rows r c);show σ*az s.rows r c=_;rw [kJ,pA σ,←kJ,this,nr]
 ·intro j ae;show s9 (m+1) (im M m (s.basis.set r c)) _ _ _;rw [al,Km];obtain ⟨c6,fs⟩:=WJ hd av fy (h.yp c J) (h.yp j ae) wy aF;refine apv (ajS (o0 (az s.rows r c)) fs) (fun i aa=> ?_);show az (c0.jD s r c).rows i j=_;rw [hB i j aa ae];by_cases e:i=r
  ·rw [aA e,aA e];rfl
  ·rw [ax e,ax e];have:=VV hd (c6 i aa e);show _*qT (qa s.rows j i*qa s.rows c r-qa s.rows c i*qa s.rows j r) s.den=_;rw [this]
theorem Inv.bound {m N B:Nat}{M:cB}{s:cq}(h:Inv m N M s)(U:1≤B)(ck: ∀i j,i<m+1→j<N+1→(az M i j).natAbs≤B):
 (∀i j,i<m+1→j<N+1→(az s.rows i j).natAbs≤qo (m+1)*B^(m+1))∧s.den.natAbs≤qo (m+1)*B^(m+1):=by
 obtain ⟨σ,av,fy⟩:=h.rq;have bJ:σ.natAbs=1:=by have:=congrArg Int.natAbs av;rw [kh] at this;exact Nat.eq_one_of_mul_eq_one_right (by simpa using this)
 have hd:s.den≠0:=by have:=h.gp;omega
 have zG: ∀a c,a<m+1→c<m+1→(im M m s.basis a c).natAbs≤B:=by
  intro a c a8 aw;unfold im;split
  ·rename_i ab;exact ck c _ aw (by have:=h.sg a ab;omega)
  ·show (if c=a then (1:Int) else 0).natAbs≤B;split
   ·exact U
   ·exact b7 _
 refine ⟨fun i j aa ae=> ?_,?_⟩
 ·have ab:=Zg hd av fy (h.yp j ae) aa;have ay:az s.rows i j=σ*et (m+1) (put (im M m s.basis) i (qa M j)):=ab;rw [ay,kh,bJ,qi];refine OM (fun a c a8 aw=> ?_);unfold put;split
  ·exact ck c j aw ae
  ·exact zG a c a8 aw
 ·have ab:(et (m+1) (im M m s.basis)).natAbs=s.den.natAbs:=by rw [fy,kh,bJ,qi]
  rw [←ab];exact OM zG
theorem Oq (f:Nat→Nat→Int)(m:Nat): ∀n:Nat,cb (fun i=>cb (fun j=>f i j) m) n=cb (fun j=>cb (fun i=>f i j) n) m
 |0=>by show (0:Int)=_;rw [vi (f:=fun j=>cb (fun i=>f i j) 0) (fun i _=>rfl)]
 |n+1=>by show cb (fun i=>cb (fun j=>f i j) m) n+cb (fun j=>f n j) m=_;rw [Oq f m n,←w8];exact hs (fun i _=>rfl)
theorem apw (c:Int)(f:Nat→Int)(n:Nat):cb (fun i=>f i*c) n=cb f n*c:=by rw [n3,←o8];exact hs (fun i _=>n3 _ _)
theorem yP {f:Nat→Int}{n k:Nat}(an:k<n):cb (fun j=>if j=k then f j else 0) n=f k:=by rw [yR k an (fun i aa cd=>by rw [ax cd]),aA rfl]
def mD (T:cB)(N:Nat)(x:Nat→Int)(i:Nat):Int:=cb (fun j=>az T i j*x j) (N+1)
theorem Inv.Tb {m N:Nat}{M:cB}{s:cq}(h:Inv m N M s)(x:Nat→Int)(z:Int):
 (∀i,i<m+1→mD M N x i+(if i=m then z else 0)=0)↔(∀i,i<m+1→mD s.rows N x i+(if i=m then s.den*z else 0)=0):=by
 obtain ⟨σ,av,fy⟩:=h.rq;have hd:s.den≠0:=by have:=h.gp;omega
 let t:V:=fun i=>mD s.rows N x i+(if i=m then s.den*z else 0)
 have key: ∀c,c<m+1→cb (fun i=>t i*im M m s.basis i c) (m+1)=s.den*(mD M N x c+(if c=m then z else 0)):=by
  intro c aw;have aH: ∀i,i<m+1→t i*im M m s.basis i c=cb (fun j=>x j*(az s.rows i j*im M m s.basis i c)) (N+1)+(if i=m then s.den*z*(if c=m then 1 else 0) else 0):=by
   intro i aa;show (mD s.rows N x i+_)*_=_;rw [Int.add_mul];congr 1
   ·unfold mD;rw [←apw];exact hs (fun j _=>by rw [n3 (az s.rows i j),kJ])
   ·by_cases e:i=m
    ·subst e;rw [aA rfl,aA rfl];congr 1;unfold im;rw [ax J]
    ·rw [ax e,ax e,mN]
  rw [hs aH,w8,Oq,yP (f:=fun i=>s.den*z*(if c=m then 1 else 0)) (gN m)];have aJ: ∀j,j<N+1→cb (fun i=>x j*(az s.rows i j*im M m s.basis i c)) (m+1)=s.den*(az M c j*x j):=by intro j ae;rw [o8];have:=h.yp j ae c aw;have:cb (fun i=>az s.rows i j*im M m s.basis i c) (m+1)=s.den*az M c j:=this;rw [this,pA,n3 (x j)]
  rw [hs aJ,o8,zp];congr 1;split
  ·rw [Int.mul_one]
  ·rw [hR,hR]
 constructor
 ·intro aU i aa;have U:=IV (D:=im M m s.basis) (t:=t) (w:=fun _=>0) aa (fun c aw=>by rw [key c aw,aU c aw,hR]);rw [UK (m+1) _ i aa,fy] at U;have bJ:σ≠0:=fun e=>by rw [e] at av;exact absurd av aT
  rcases Int.mul_eq_zero.1 U.symm with ab|ab
  ·exact ab
  ·rcases Int.mul_eq_zero.1 ab with ay|ay
   ·exact absurd ay bJ
   ·exact absurd ay hd
 ·intro aU c aw;have U:=key c aw;rw [vi (fun i aa=>by show t i*_=0;rw [show t i=0 from aU i aa,mN])] at U;rcases Int.mul_eq_zero.1 U.symm with ab|ab
  ·exact absurd ab hd
  ·exact ab
def nb (T:cB)(m:Nat):Nat→Nat→Nat
 |0,c=>c
 |f+1,c=>if az T m c<0 then c else nb T m f (c+1)
theorem Fx (T:cB)(m:Nat): ∀f c,c≤nb T m f c∧nb T m f c≤c+f∧(∀a,c≤a→a<nb T m f c→0≤az T m a)∧(nb T m f c<c+f→az T m (nb T m f c)<0)
 |0,c=>⟨bT _,bT _,fun a U ab=>absurd ab (by rw [nb];omega),fun h=>absurd h (by rw [nb];omega)⟩
 |f+1,c=>by
  rw [nb];by_cases h:az T m c<0
  ·rw [aA h];exact ⟨bT _,J,fun a U ab=>absurd ab J,fun _=>h⟩
  ·rw [ax h];obtain ⟨U,ab,ay,bf⟩:=Fx T m f (c+1);refine ⟨J,J,fun a a8 al=> ?_,fun al=>bf J⟩;by_cases e:a=c
   ·subst e;omega
   ·exact ay a J al
def AU (T:cB)(β:List Nat)(c e k b:Nat):Prop:=az T k e*az T b c<az T b e*az T k c∨az T k e*az T b c=az T b e*az T k c∧β.getD k 0<β.getD b 0
instance (T:cB)(β:List Nat)(c e k b:Nat):Decidable (AU T β c e k b):=by unfold AU;infer_instance
def jJ (T:cB)(β:List Nat)(c e:Nat):Nat→Option Nat
 |0=>none
 |k+1=>match jJ T β c e k with
  |none=>if az T k c≤0 then none else some k
  |some b=>if az T k c≤0 then some b else if AU T β c e k b then some k else some b
theorem Oc (T:cB)(β:List Nat)(c e:Nat): ∀n,jJ T β c e n=none→ ∀i,i<n→az T i c≤0
 |0,_,i,aa=>absurd aa (gg _)
 |n+1,h,i,aa=>by
  rw [jJ] at h;cases au:jJ T β c e n with
  |none=>
   rw [au] at h;simp only at h;split at h
   ·rename_i U;by_cases aJ:i=n
    ·rw [aJ];exact U
    ·exact Oc T β c e n au i J
   ·cases h
  |some b=>
   rw [au] at h;simp only at h;split at h
   ·cases h
   ·split at h<;>cases h
theorem aln {a x y:Int}(a8:0<a)(h:a*x≤a*y):x≤y:=Int.le_of_mul_le_mul_left h a8
structure GP (T:cB)(β:List Nat)(c e n b:Nat):Prop where
 lt:b<n
 pos:0<az T b c
 le: ∀i,i<n→0<az T i c→az T b e*az T i c≤az T i e*az T b c∧(az T b e*az T i c=az T i e*az T b c→β.getD b 0≤β.getD i 0)
theorem Jj (T:cB)(β:List Nat)(c e:Nat): ∀n b,jJ T β c e n=some b→GP T β c e n b
 |0,b,h=>by rw [jJ] at h;cases h
 |n+1,b,h=>by
  rw [jJ] at h;cases au:jJ T β c e n with
  |none=>
   have aI:=Oc T β c e n au;rw [au] at h;simp only at h;split at h
   ·cases h
   ·rename_i U;obtain rfl:n=b:=by simpa using h
    refine ⟨gN _,J,fun i aa aF=> ?_⟩;by_cases aJ:i=n
    ·subst aJ;exact ⟨Int.le_refl _,fun _=>bT _⟩
    ·exact absurd (aI i J) J
  |some d=>
   have hd:=Jj T β c e n d au;rw [au] at h;simp only at h;split at h
   ·rename_i U;obtain rfl:d=b:=by simpa using h
    refine ⟨by have:=hd.lt;omega,hd.pos,fun i aa aF=> ?_⟩;by_cases aJ:i=n
    ·subst aJ;omega
    ·exact hd.le i J aF
   ·rename_i U;have U:0<az T n c:=J;split at h
    ·rename_i ab;obtain rfl:n=b:=by simpa using h
     refine ⟨gN _,U,fun i aa aF=> ?_⟩;by_cases aJ:i=n
     ·subst aJ;exact ⟨Int.le_refl _,fun _=>bT _⟩
     ·obtain ⟨g1,g2⟩:=hd.le i J aF;have qu:=hd.pos
      --n against d,d against i
      have gy:az T n e*az T d c≤az T d e*az T n c:=by
       rcases ab with ab|ab
       ·omega
       ·omega
      have ei:=Int.mul_le_mul_of_nonneg_right gy (zq aF);have ew:=Int.mul_le_mul_of_nonneg_right g1 (zq U);have dk:az T d c*(az T n e*az T i c)=az T n e*az T d c*az T i c:=by grind
      have dO:az T d c*(az T i e*az T n c)=az T i e*az T d c*az T n c:=by grind
      have eG:az T d e*az T n c*az T i c=az T d e*az T i c*az T n c:=by grind
      refine ⟨aln qu J,fun he=> ?_⟩;have d1:az T d c*(az T n e*az T i c)=az T d c*(az T i e*az T n c):=by rw [he]
      --all equal
      have d2:az T n e*az T d c*az T i c=az T d e*az T n c*az T i c:=J;have d3:az T n e*az T d c=az T d e*az T n c:=Int.eq_of_mul_eq_mul_right J d2;have d4:az T d e*az T i c*az T n c=az T i e*az T d c*az T n c:=J;have d5:az T d e*az T i c=az T i e*az T d c:=Int.eq_of_mul_eq_mul_right J d4;rcases ab with ab|ab
      ·omega
      ·have:=g2 d5;omega
    ·rename_i ab;obtain rfl:d=b:=by simpa using h
     refine ⟨by have:=hd.lt;omega,hd.pos,fun i aa aF=> ?_⟩;by_cases aJ:i=n
     ·subst aJ;unfold AU at ab;refine ⟨J,fun he=> ?_⟩;omega
     ·exact hd.le i J aF
def j9 (m N w:Nat)(s:cq):Option cq:=
 if nb s.rows m w 0=w then none
 else match jJ s.rows s.basis (nb s.rows m w 0) N m with
  |none=>none
  |some r=>some (jD s r (nb s.rows m w 0))
def gj (m N w:Nat)(s:cq):Nat→cq
 |0=>s
 |k+1=>(j9 m N w (gj m N w s k)).getD (gj m N w s k)
def kb (m N:Nat)(s:cq):Prop:= ∀i,i<m→0≤az s.rows i N
theorem W3 {m N w:Nat}{s cy:cq}(h:j9 m N w s=some cy): ∃c r,c<w∧az s.rows m c<0∧(∀a,a<c→0≤az s.rows m a)∧GP s.rows s.basis c N m r∧cy=jD s r c:=by
 unfold j9 at h;obtain ⟨aH,aJ,bR,jw⟩:=Fx s.rows m w 0;split at h
 ·cases h
 ·rename_i U;split at h
  ·cases h
  ·rename_i r ad;refine ⟨_,r,J,jw J,fun a a8=>bR a (b7 _) a8,Jj _ _ _ _ _ _ ad,?_⟩;exact (oG h).symm
theorem Inv.entry {m N:Nat}{M:cB}{s:cq}(h:Inv m N M s){r c:Nat}(ad:r<m)(aw:c<N)(aF:az s.rows r c≠0){i j:Nat}(aa:i<m+1)(ae:j<N+1):
 s.den*az (c0.jD s r c).rows i j=o0 (az s.rows r c)*(if i=r then s.den*az s.rows r j else az s.rows i j*az s.rows r c-az s.rows i c*az s.rows r j):=by
 obtain ⟨σ,av,fy⟩:=h.rq;have hd:s.den≠0:=by have:=h.gp;omega
 obtain ⟨c6,_⟩:=WJ hd av fy (h.yp c J) (h.yp j ae) (show r<m+1 by omega) aF;have:=Yx s.rows r c s.den h.row (i:=i) (j:=j) (by rw [h.n];exact aa) ae;have e:az (c0.jD s r c).rows i j=az (kZ s.rows r c s.den) i j:=rfl;rw [e,this,pA];congr 1;by_cases e:i=r
 ·rw [aA e,aA e]
 ·have bR:=VV hd (c6 i aa e);have jw:=Int.mul_ediv_cancel' (c6 i aa e);rw [←bR] at jw;rw [ax e,ax e];exact jw
theorem Inv.abZ {m N:Nat}{M:cB}{s:cq}(h:Inv m N M s)(aQ:kb m N s){r c:Nat}(aw:c<N)(au:GP s.rows s.basis c N m r):kb m N (c0.jD s r c):=by
 intro i aa;have aF:=au.pos;have U:=h.entry au.lt aw J (i:=i) (j:=N) J J;have hd:=h.gp;have SN:o0 (az s.rows r c)=1:=by unfold o0;rw [ax J]
 rw [SN,nr] at U;have:0≤s.den*az (c0.jD s r c).rows i N:=by
  rw [U];split
  ·exact vU (zq hd) (aQ r au.lt)
  ·by_cases afb:0<az s.rows i c
   ·have:=(au.le i aa afb).1;rw [n3 (az s.rows i c)];omega
   ·have ab:=vU (aQ i aa) (zq aF);have ay:=vU (show 0≤ -(az s.rows i c) by omega) (aQ r au.lt);rw [uw] at ay;omega
 exact Int.le_of_mul_le_mul_left (by rw [hR];exact this) hd
def A2 (m:Nat)(s:cq)(v:Nat):Prop:= ∃i,i<m∧s.basis.getD i 0=v
theorem Inv.nodup {m N:Nat}{M:cB}{s:cq}(h:Inv m N M s){i k:Nat}(aa:i<m)(an:k<m)(he:s.basis.getD i 0=s.basis.getD k 0):i=k:=by
 by_cases e:i=k
 ·exact e
 ·have U:=h.unit i k J an;have ab:=h.unit i i J aa;rw [ax e] at U;rw [aA rfl,he] at ab;have:=h.gp;omega
theorem Inv.aaV {m N:Nat}{M:cB}{s:cq}(h:Inv m N M s){v:Nat}(al:A2 m s v):az s.rows m v=0:=by obtain ⟨i,aa,rfl⟩:=al;rw [h.unit m i J aa,ax J]
theorem WH {m N:Nat}{M:cB}{s:cq}(h:Inv m N M s){r c:Nat}(ad:r<m)(i:Nat):(c0.jD s r c).basis.getD i 0=if i=r then c else s.basis.getD i 0:=by
 show (s.basis.set r c).getD i 0=_;rw [fO];by_cases e:i=r
 ·rw [aA ⟨e,by rw [h.b];exact ad⟩,aA e]
 ·rw [ax (fun q=>e q.1),ax e]
section
variable {m N:Nat}{M:cB}{s:Nat→cq}{c r:Nat→Nat}
theorem Gk {x:Int}(h:0<x):(0:Rat)<(x:Rat):=by have:=(Rat.intCast_lt_intCast (a:=0) (b:=x)).2 h;exact this
end
end Go.aj.c0
namespace Go.aj.c0
open Go.aj.dZ
def kT (T:cB)(m:Nat)(L:List Int):cB:=T.take m++[L]
theorem Vc {T:cB}{m:Nat}(h:m≤T.length)(L:List Int):(kT T m L).length=m+1:=by unfold kT;rw [c8,fc];show min m T.length+1=m+1;omega
theorem Vb {T:cB}{m:Nat}(h:m≤T.length)(L:List Int)(i:Nat):(kT T m L).getD i []=if i<m then T.getD i [] else if i=m then L else []:=by
 unfold kT;simp only [List.getD,oK,fc,hY h];by_cases U:i<m
 ·rw [aA U,aA U,py,aA U]
 ·rw [ax U,ax U];by_cases ab:i=m
  ·subst ab;simp
  ·rw [ax ab];have:[L][i-m]? =none:=kG (by simp;omega);rw [this];rfl
theorem AP {T:cB}{m:Nat}(h:m≤T.length)(L:List Int){i:Nat}(aa:i<m)(j:Nat):az (kT T m L) i j=az T i j:=by unfold az;rw [Vb h,aA aa]
theorem JQ {T:cB}{m:Nat}(h:m≤T.length)(L:List Int)(j:Nat):az (kT T m L) m j=L.getD j 0:=by unfold az;rw [Vb h,ax (oI _),aA rfl]
theorem pU {f:Nat→Int}{n j:Nat}(ae:j<n):((List.range n).map f).getD j 0=f j:=by simp [List.getD,ae]
theorem amg {m:Nat}{D E:iu}(fy: ∀c,c<m+1→D m c=if c=m then 1 else 0)(dJ: ∀c,c<m+1→E m c=if c=m then 1 else 0)(h: ∀a c,a<m→c<m→D a c=E a c):et (m+1) E=et (m+1) D:=by
 let F:Nat→iu:=fun k a=>if a<k then E a else D a
 have step: ∀k,k≤m→et (m+1) (F k)=et (m+1) D:=by
  intro k;induction k with
  |zero=>
   intro _;exact yD (fun a c _ _=>by show (if a<0 then E a else D a) c=D a c;rw [ax (gg _)])
  |succ k ba=>
   intro an;have e:et (m+1) (F (k+1))=et (m+1) (put (F k) k (E k)):=by
    refine yD (fun a c _ _=> ?_);show (if a<k+1 then E a else D a) c=(if a=k then E k else (if a<k then E a else D a)) c;by_cases aH:a=k
    ·subst aH;rw [aA (gN _),aA rfl]
    ·rw [ax aH];by_cases aJ:a<k
     ·rw [aA J,aA aJ]
     ·rw [ax J,ax aJ]
   rw [e,IV (t:=fun i=>if i=k then 1 else if i=m then E k m-D k m else 0) (show k<m+1 by omega),aA rfl,nr]
   ·exact ba J
   ·intro c aw;rw [Yh k m J J J (fun i aa U ab=>by rw [ax U,ax ab,mN])];rw [aA rfl,ax J,aA rfl,nr];show E k c=(if k<k then E k else D k) c+_*(if m<k then E m else D m) c;rw [ax (oI _),ax J,fy c aw];by_cases bR:c=m
    ·subst bR;rw [aA rfl];omega
    ·rw [ax bR,hR,ux];exact (h k c J J).symm
 have ab:=step m (bT _);rw [←ab];refine yD (fun a c a8 aw=> ?_);show E a c=(if a<m then E a else D a) c;by_cases e:a<m
 ·rw [aA e]
 ·rw [ax e];obtain rfl:a=m:=J;rw [fy c aw,dJ c aw]
def Df (k:Nat→Int)(m N:Nat)(s:cq):List Int:=(List.range (N+1)).map (fun j=>s.den*k j-cb (fun i=>k (s.basis.getD i 0)*az s.rows i j) m)
def pS (k:Nat→Int)(m N:Nat)(s:cq):cq:=⟨kT s.rows m (Df k m N s),s.den,s.basis⟩
def j5 (k:Nat→Int)(m N:Nat)(M:cB):cB:=kT M m ((List.range (N+1)).map k)
theorem Inv.pS {m N:Nat}{M:cB}{s:cq}(h:Inv m N M s)(k:Nat→Int)(gq:m≤M.length):Inv m N (j5 k m N M) (pS k m N s):=by
 have b2:m≤s.rows.length:=by rw [h.n];omega
 have h4: ∀i j,i<m→az (c0.pS k m N s).rows i j=az s.rows i j:=fun i j aa=>AP b2 _ aa j;have h5: ∀j,j<N+1→az (c0.pS k m N s).rows m j=s.den*k j-cb (fun i=>k (s.basis.getD i 0)*az s.rows i j) m:=fun j ae=>by show az (kT _ _ _) _ _=_;rw [JQ b2];exact pU ae
 have m1: ∀i j,i<m→az (j5 k m N M) i j=az M i j:=fun i j aa=>AP gq _ aa j;have m2: ∀j,j<N+1→az (j5 k m N M) m j=k j:=fun j ae=>by show az (kT _ _ _) _ _=_;rw [JQ gq];exact pU ae
 have G6: ∀(M:cB) c,c<m+1→im M m s.basis m c=if c=m then 1 else 0:=fun M c aw=>by show (if m<m then qa M _ else fun c=>if c=m then (1:Int) else 0) c=_;rw [ax (oI _)]
 have D5: ∀(M:cB) a c,a<m→im M m s.basis a c=az M c (s.basis.getD a 0):=fun M a c a8=>by show (if a<m then qa M _ else fun c=>if c=a then (1:Int) else 0) c=_;rw [aA a8];rfl
 have adQ:=amg (D:=im M m s.basis) (E:=im (j5 k m N M) m s.basis) (G6 M) (G6 _) (fun a c a8 aw=>by rw [D5 _ _ _ a8,D5 _ _ _ a8,m1 c _ aw]);refine ⟨Vc b2 _,fun x ar=> ?_,h.b,h.sg,h.gp,fun i a aa a8=> ?_,?_,fun j ae c aw=> ?_⟩
 ·rcases gM.1 ar with U|U
  ·exact h.row x (pz U)
  ·rw [hI.1 U];unfold Df;rw [cr,gn]
 ·show az (c0.pS k m N s).rows i (s.basis.getD a 0)=if i=a then s.den else 0
  by_cases e:i<m
  ·rw [h4 i _ e,h.unit i a aa a8]
  ·obtain rfl:i=m:=J;rw [h5 _ (by have:=h.sg a a8;omega),ax J];have aJ: ∀q,q<i→k (s.basis.getD q 0)*az s.rows q (s.basis.getD a 0)=if q=a then k (s.basis.getD q 0)*s.den else 0:=by
    intro q aB;rw [h.unit q a J a8];split
    ·rfl
    ·rw [hR]
   rw [hs aJ,yP (f:=fun q=>k (s.basis.getD q 0)*s.den) a8,n3];omega
 ·obtain ⟨σ,U,ab⟩:=h.rq;exact ⟨σ,U,by show et (m+1) (im (j5 k m N M) m s.basis)=σ*s.den;rw [adQ,ab]⟩
 ·show cb (fun i=>az (c0.pS k m N s).rows i j*im (j5 k m N M) m s.basis i c) (m+1)=s.den*az (j5 k m N M) c j;show cb (fun i=>az (c0.pS k m N s).rows i j*im (j5 k m N M) m s.basis i c) m+az (c0.pS k m N s).rows m j*im (j5 k m N M) m s.basis m c=_;rw [G6 _ c aw];have Ah:=h.yp j ae c aw;have Ah:cb (fun i=>az s.rows i j*im M m s.basis i c) m+az s.rows m j*im M m s.basis m c=s.den*az M c j:=Ah;rw [G6 _ c aw] at Ah;by_cases e:c=m
  ·subst e;rw [aA rfl,m2 j ae,h5 j ae];have aJ: ∀i,i<c→az (c0.pS k c N s).rows i j*im (j5 k c N M) c s.basis i c=k (s.basis.getD i 0)*az s.rows i j:=by intro i aa;rw [h4 i j aa,D5 _ _ _ aa,m2 _ (by have:=h.sg i aa;omega),n3]
   rw [hs aJ];omega
  ·rw [ax e,hR,ux] at*;rw [m1 c j J,←Ah];exact hs (fun i aa=>by rw [h4 i j aa,D5 _ _ _ aa,D5 _ _ _ aa,m1 c _ J])
theorem PN {T:cB}{N m i c:Nat}{d:Int}{p:Nat→Nat}{y:Nat→Int}(aw:c<N+1)(aF: ∀k,k<m→p k<N+1):
 mD T N (fun j=>(if j=c then d else 0)-cb (fun k=>if j=p k then y k else 0) m) i=az T i c*d-cb (fun k=>az T i (p k)*y k) m:=by
 unfold mD;have aH: ∀j,j<N+1→az T i j*((if j=c then d else 0)-cb (fun k=>if j=p k then y k else 0) m)=(if j=c then az T i j*d else 0)+cb (fun k=>if j=p k then-(az T i j*y k) else 0) m:=by
  intro j ae;rw [Int.mul_sub,Int.sub_eq_add_neg];congr 1
  ·split
   ·rfl
   ·rw [hR]
  ·rw [←xI,show-(cb (fun k=>if j=p k then y k else 0) m)=cb (fun k=> -1*(if j=p k then y k else 0)) m from by rw [o8];omega,←o8];exact hs (fun k _=>by
    split
    ·rw [uw,nr,xI]
    ·rw [hR,hR])
 rw [hs aH,w8,yP (f:=fun j=>az T i j*d) aw,Oq,Int.sub_eq_add_neg];congr 1;have aJ: ∀k,k<m→cb (fun j=>if j=p k then-(az T i j*y k) else 0) (N+1)= -1*(az T i (p k)*y k):=by intro k an;rw [yP (f:=fun j=> -(az T i j*y k)) (aF k an)];omega
 rw [hs aJ,o8];omega
structure K3 (m N n:Nat)(M:cB)(e:Nat→Int):Prop where
 lt:n+m<N+1
 bp: ∀i,i<m→e i*e i=1
 at': ∀i k,i<m→k<m→az M i (n+k)=if i=k then e i else 0
 cost: ∀k,k<m→az M m (n+k)=0
theorem Inv.combo {m N n:Nat}{M:cB}{s:cq}{e:Nat→Int}(h:Inv m N M s)(av:K3 m N n M e){q j:Nat}(aB:q<m+1)(ae:j<N+1):
 az s.rows q j=cb (fun k=>az s.rows q (n+k)*(e k*az M k j)) m+(if q=m then s.den*az M m j else 0):=by
 have bD:=av.lt;have aF: ∀k,k<m→n+k<N+1:=fun k an=>by omega
 have HJ:=(h.Tb (fun v=>(if v=j then 1 else 0)-cb (fun k=>if v=n+k then e k*az M k j else 0) m) (-(az M m j))).1 (fun i aa=>by
  rw [PN ae aF,Int.mul_one];by_cases aH:i=m
  ·subst aH;rw [aA rfl,vi (fun k an=>by rw [av.cost k an,mN])];omega
  ·rw [ax aH];have aJ: ∀k,k<m→az M i (n+k)*(e k*az M k j)=if k=i then e k*(e k*az M k j) else 0:=by
    intro k an;rw [av.at' i k J an];by_cases bR:i=k
    ·rw [aA bR,aA bR.symm,bR]
    ·rw [ax bR,ax (fun q=>bR q.symm),mN]
   rw [hs aJ,yP (f:=fun k=>e k*(e k*az M k j)) J,←kJ,av.bp i J,nr];omega) q aB
 rw [PN ae aF,Int.mul_one] at HJ;by_cases aH:q=m
 ·rw [aA aH] at HJ⊢;rw [xI] at HJ;omega
 ·rw [ax aH] at HJ⊢;omega
theorem Inv.init {T:cB}{β:List Nat}{m N:Nat}(U:T.length=m+1)(ab: ∀x∈T,x.length=N+1)(ay:β.length=m)(bf: ∀i,i<m→β.getD i 0<N)(bL: ∀i k,i<m+1→k<m→az T i (β.getD k 0)=if i=k then 1 else 0):Inv m N T ⟨T,1,β⟩:=by
 have hu: ∀a c,a<m+1→c<m+1→im T m β a c=Ba a c:=by
  intro a c a8 aw;show (if a<m then qa T _ else fun c=>if c=a then (1:Int) else 0) c=if a=c then 1 else 0
  by_cases e:a<m
  ·rw [aA e];show az T c _=_;rw [bL c a aw e];by_cases aJ:c=a
   ·rw [aA aJ,aA aJ.symm]
   ·rw [ax aJ,ax (fun q=>aJ q.symm)]
  ·rw [ax e];by_cases aJ:c=a
   ·rw [aA aJ];exact (aA aJ.symm).symm
   ·rw [ax aJ];exact (ax (fun q=>aJ q.symm)).symm
 refine ⟨U,ab,ay,bf,by show (0:Int)<1;omega,bL,⟨1,I,?_⟩,fun j ae c aw=> ?_⟩
 ·show et (m+1) (im T m β)=1*1;rw [yD hu,Xw];rfl
 ·show cb (fun i=>az T i j*im T m β i c) (m+1)=1*az T c j;have e: ∀i,i<m+1→az T i j*im T m β i c=if i=c then az T i j else 0:=by
   intro i aa;rw [hu i c aa aw];show _*(if i=c then (1:Int) else 0)=_;split
   ·rw [Int.mul_one]
   ·rw [hR]
  rw [hs e,yP (f:=fun i=>az T i j) aw,nr]
end Go.aj.c0
namespace Go.aj.c0
open Go.aj.dZ Go.aj.cX Go.aj.dn
def eB (B:List Rat):Nat→List Nat
 |0=>[]
 |k+1=>if (B.getD k 0).num<0 then eB B k++[k] else eB B k
abbrev e3 (B:List Rat)(i:Nat):Nat:=(eB B i).length
abbrev nN (B:List Rat):Nat:=e3 B B.length
theorem JM {B:List Rat}: ∀{n k:Nat},k∈eB B n↔k<n∧(B.getD k 0).num<0
 |0,k=>by simp [eB]
 |n+1,k=>by
  rw [eB];split
  ·rename_i h;rw [gM,JM,hI];constructor
   ·rintro (U|U)
    ·exact ⟨J,U.2⟩
    ·rw [U];exact ⟨J,h⟩
   ·rintro ⟨U,ab⟩;by_cases e:k=n
    ·exact .inr e
    ·exact .inl ⟨J,ab⟩
  ·rename_i h;rw [JM];constructor
   ·rintro ⟨U,ab⟩;exact ⟨J,ab⟩
   ·rintro ⟨U,ab⟩;refine ⟨?_,ab⟩;by_cases e:k=n
    ·rw [e] at ab;exact absurd ab h
    ·omega
theorem Xa (B:List Rat)(i:Nat): ∀d,e3 B i≤e3 B (i+d)
 |0=>bT _
 |d+1=>by
  refine dN (Xa B i d) ?_;show _≤(eB B (i+d+1)).length;rw [eB];split
  ·rw [c8];exact n0 _ _
  ·exact bT _
theorem Xb {B:List Rat}{i:Nat}(h:(B.getD i 0).num<0):e3 B (i+1)=e3 B i+1:=by show (eB B (i+1)).length=_;rw [eB,aA h,c8];rfl
theorem Dr {B:List Rat}{i k:Nat}(h:(B.getD i 0).num<0)(an:i<k):e3 B i<e3 B k:=by have U:=Xa B (i+1) (k-(i+1));rw [show i+1+(k-(i+1))=k by omega,Xb h] at U;omega
theorem ZV {B:List Rat}{i k:Nat}(h:(B.getD i 0).num<0)(aS:(B.getD k 0).num<0)(e:e3 B i=e3 B k):i=k:=by
 by_cases U:i<k
 ·have:=Dr h U;omega
 ·by_cases ab:k<i
  ·have:=Dr aS ab;omega
  ·omega
theorem Gp (B:List Rat): ∀i,e3 B i≤i
 |0=>bT _
 |i+1=>by
  show (eB B (i+1)).length≤_;rw [eB];have:=Gp B i;split
  ·rw [c8];show e3 B i+1≤_;omega
  ·show e3 B i≤_;omega
def xg (n m a:Nat)(l:List Int)(i j:Nat):Int:=if j<n then l.getD j 0 else if j=n+i then 1 else if j=n+m+a then l.getD n 0 else 0
def yW (n m a:Nat)(l:List Int)(i:Nat)(neg:Bool)(k j:Nat):Int:=if neg then (if j=n+m+k then 1 else-(xg n m a l i j)) else xg n m a l i j
def vk (n m a:Nat)(l:List Int)(i:Nat)(neg:Bool)(k:Nat):List Int:=(List.range (n+m+a+1)).map (yW n m a l i neg k)
structure Prog where
 A:List (List Rat)
 B:List Rat
 C:List Rat
abbrev Prog.n (p:Prog):Nat:=p.C.length
abbrev Prog.m (p:Prog):Nat:=p.B.length
abbrev Prog.a (p:Prog):Nat:=nN p.B
abbrev Prog.N (p:Prog):Nat:=p.C.length+p.B.length+nN p.B
abbrev Prog.neg (p:Prog)(i:Nat):Bool:=decide ((p.B.getD i 0).num<0)
def Prog.full (p:Prog)(i:Nat):List Rat:=p.A.getD i []++[p.B.getD i 0]
def Prog.whole (p:Prog)(i:Nat):List Int:=hS (p.full i)
def Prog.eu (p:Prog)(i:Nat):Nat:=hV 1 (p.full i)
structure Prog.hW (p:Prog):Prop where
 rows:p.A.length=p.B.length
 lA: ∀r∈p.A,r.length=p.C.length
def iD (p:Prog):cB:=(List.range p.m).map (fun i=>vk p.n p.m p.a (p.whole i) i (p.neg i) (e3 p.B i))
def jL (p:Prog):List Nat:=(List.range p.m).map (fun i=>if p.neg i then p.n+p.m+e3 p.B i else p.n+i)
def fM (p:Prog):cq:=⟨iD p++[List.replicate (p.N+1) 0],1,jL p⟩
def Prog.k7 (p:Prog)(i:Nat):Int:=if p.neg i then-1 else 1
theorem KL (p:Prog)(i:Nat):p.k7 i*p.k7 i=1:=by unfold Prog.k7;split<;>rfl
theorem wY (p:Prog):(iD p).length=p.m:=by simp [iD]
theorem Jf (p:Prog):(jL p).length=p.m:=by simp [jL]
theorem pV {α:Type}{f:Nat→α}{n j:Nat}{d:α}(ae:j<n):((List.range n).map f).getD j d=f j:=by simp [List.getD,ae]
theorem Jm (p:Prog){i j:Nat}(aa:i<p.m)(ae:j<p.N+1):az (fM p).rows i j=yW p.n p.m p.a (p.whole i) i (p.neg i) (e3 p.B i) j:=by
 unfold az;have e:(fM p).rows.getD i []=vk p.n p.m p.a (p.whole i) i (p.neg i) (e3 p.B i):=by show (iD p++_).getD i []=_;rw [rG [] (by rw [wY];exact aa)];exact pV aa
 rw [e];exact pV ae
theorem Ut (p:Prog)(j:Nat):az (fM p).rows p.m j=0:=by
 unfold az;have e:(fM p).rows.getD p.m []=List.replicate (p.N+1) 0:=by show (iD p++[_]).getD p.m []=_;rw [←wY p];exact Qb
 rw [e];simp only [List.getD,oM];split<;>rfl
theorem Je (p:Prog){i:Nat}(aa:i<p.m):(jL p).getD i 0=if p.neg i then p.n+p.m+e3 p.B i else p.n+i:=pV aa
theorem Qn (p:Prog){i j:Nat}(aa:i<p.m)(ae:j<p.n):az (fM p).rows i j=p.k7 i*(p.whole i).getD j 0:=by
 have L8:j<p.C.length:=ae;have wi:i<p.B.length:=aa;rw [Jm p aa (by show j<p.C.length+p.B.length+nN p.B+1;omega)];unfold yW Prog.k7 xg;by_cases e:p.neg i=true
 ·rw [aA e,aA e,aA ae,ax (by show¬j=p.C.length+p.B.length+e3 p.B i;omega)];omega
 ·rw [ax e,ax e,aA ae];omega
theorem Kw (p:Prog){i k:Nat}(aa:i<p.m)(an:k<p.m):az (fM p).rows i (p.n+k)=if i=k then p.k7 i else 0:=by
 have wi:i<p.B.length:=aa;have HK:k<p.B.length:=an;rw [Jm p aa (by show p.C.length+k<p.C.length+p.B.length+nN p.B+1;omega)];unfold yW Prog.k7 xg;have U: ¬p.n+k<p.n:=J;have ab: ¬p.n+k=p.n+p.m+e3 p.B i:=by show¬p.C.length+k=p.C.length+p.B.length+e3 p.B i;omega
 have ay: ¬p.n+k=p.n+p.m+p.a:=by show¬p.C.length+k=p.C.length+p.B.length+nN p.B;omega
 rw [ax ab,ax U,ax ay];by_cases e:i=k
 ·subst e;rw [aA rfl,aA rfl]
 ·rw [ax (show¬p.n+k=p.n+i by omega),ax e];split<;>rfl
theorem Zi (p:Prog){i k:Nat}(aa:i<p.m)(an:k<p.a):az (fM p).rows i (p.n+p.m+k)=if p.neg i=true∧k=e3 p.B i then 1 else 0:=by
 have wi:i<p.B.length:=aa;have HK:k<nN p.B:=an;rw [Jm p aa (by show p.C.length+p.B.length+k<p.C.length+p.B.length+nN p.B+1;omega)];unfold yW xg;have U: ¬p.n+p.m+k<p.n:=J;have ab: ¬p.n+p.m+k=p.n+i:=by show¬p.C.length+p.B.length+k=p.C.length+i;omega
 have ay: ¬p.n+p.m+k=p.n+p.m+p.a:=by show¬p.C.length+p.B.length+k=p.C.length+p.B.length+nN p.B;omega
 rw [ax U,ax ab,ax ay];by_cases e:p.neg i=true
 ·rw [aA e];by_cases aJ:k=e3 p.B i
  ·rw [aA J,aA ⟨e,aJ⟩]
  ·rw [ax J,ax (fun q=>aJ q.2)];rfl
 ·rw [ax e,ax (fun q=>e q.1)]
theorem Kv (p:Prog){i:Nat}(aa:i<p.m):az (fM p).rows i p.N=p.k7 i*(p.whole i).getD p.n 0:=by
 have wi:i<p.B.length:=aa;rw [Jm p aa (by show p.C.length+p.B.length+nN p.B<p.C.length+p.B.length+nN p.B+1;omega)];unfold yW Prog.k7 xg;have U: ¬p.N<p.n:=by show¬p.C.length+p.B.length+nN p.B<p.C.length;omega
 have ab: ¬p.N=p.n+i:=by show¬p.C.length+p.B.length+nN p.B=p.C.length+i;omega
 have ay:p.N=p.n+p.m+p.a:=rfl;rw [ax U,ax ab,aA ay];by_cases e:p.neg i=true
 ·have aJ:(p.B.getD i 0).num<0:=by simpa using e
  have bf:e3 p.B i<nN p.B:=Dr aJ wi;rw [aA e,aA e,ax (by show¬p.C.length+p.B.length+nN p.B=p.C.length+p.B.length+e3 p.B i;omega)];omega
 ·rw [ax e,ax e];omega
theorem amB (p:Prog):K3 p.m p.N p.n (fM p).rows p.k7:=by refine ⟨by show p.C.length+p.B.length<p.C.length+p.B.length+nN p.B+1;omega,fun i _=>KL p i,fun i k aa an=>Kw p aa an,fun k _=>Ut p _⟩
theorem CV (p:Prog):Inv p.m p.N (fM p).rows (fM p):=by
 refine Inv.init ?_ ?_ (Jf p) ?_ ?_
 ·show (iD p++[_]).length=_;rw [c8,wY];rfl
 ·intro x ar;rcases gM.1 ar with h|h
  ·obtain ⟨i,_,rfl⟩:=cO.1 h;unfold vk;rw [cr,gn]
  ·rw [hI.1 h,e8]
 ·intro i aa;have wi:i<p.B.length:=aa;rw [Je p aa];show (if p.neg i=true then p.C.length+p.B.length+e3 p.B i else p.C.length+i)<p.C.length+p.B.length+nN p.B;by_cases e:p.neg i=true
  ·have ay:e3 p.B i<nN p.B:=Dr (by simpa using e) wi;rw [aA e];exact Nat.add_lt_add_left ay _
  ·rw [ax e];omega
 ·intro i k aa an;have HK:k<p.B.length:=an;rw [Je p an];by_cases mU:i=p.m
  ·rw [mU,Ut,ax (by show¬p.B.length=k;omega)]
  ·have aL:i<p.m:=Nat.lt_of_le_of_ne (Nat.le_of_lt_succ aa) mU;by_cases e:p.neg k=true
   ·have aJ:(p.B.getD k 0).num<0:=by simpa using e
    rw [aA e,Zi p aL (Dr aJ HK)];by_cases bR:i=k
    ·subst bR;rw [aA ⟨e,rfl⟩,aA rfl]
    ·rw [ax bR,ax];rintro ⟨bS,bY⟩;exact bR (ZV (by simpa using bS) aJ bY.symm)
   ·rw [ax e,Kw p aL an];by_cases bR:i=k
    ·subst bR;rw [aA rfl,aA rfl];unfold Prog.k7;rw [ax e]
    ·rw [ax bR,ax bR]
theorem JI (p:Prog)(aF:p.hW){i:Nat}(aa:i<p.m):(p.full i).length=p.n+1:=by unfold Prog.full;rw [c8,aF.lA _ (dt [] (by rw [aF.rows];exact aa))];rfl
theorem Wi (p:Prog)(aF:p.hW){i j:Nat}(aa:i<p.m)(ae:j<p.n+1):(p.whole i).getD j 0=((p.full i).getD j 0).num*((p.eu i/((p.full i).getD j 0).den:Nat):Int):=by unfold Prog.whole hS;rw [mY _ _ 0 _ _ (by rw [JI p aF aa];exact ae)];rfl
theorem JJ (p:Prog)(aF:p.hW){i j:Nat}(aa:i<p.m)(ae:j<p.n+1):(((p.whole i).getD j 0:Int):Rat)=((p.eu i:Nat):Rat)*(p.full i).getD j 0:=by rw [Wi p aF aa ae];exact Wj (dt 0 (by rw [JI p aF aa];exact ae))
theorem Rx (p:Prog)(aF:p.hW){i j:Nat}(aa:i<p.m)(ae:j<p.n):(p.full i).getD j 0=(p.A.getD i []).getD j 0:=by unfold Prog.full;rw [rG 0 (by rw [aF.lA _ (dt [] (by rw [aF.rows];exact aa))];exact ae)]
theorem Qx (p:Prog)(aF:p.hW){i:Nat}(aa:i<p.m):(p.full i).getD p.n 0=p.B.getD i 0:=by unfold Prog.full;have:=aF.lA _ (dt [] (show i<p.A.length by rw [aF.rows];exact aa));show (p.A.getD i []++[_]).getD p.C.length 0=_;rw [←this];exact Qb
theorem Vy (p:Prog)(aF:p.hW):kb p.m p.N (fM p):=by
 intro i aa;rw [Kv p aa,Wi p aF aa (gN _),Qx p aF aa];have ab:(0:Int)≤((p.eu i/(p.B.getD i 0).den:Nat):Int):=D3 _;unfold Prog.k7;split
 ·rename_i e;have aJ:(p.B.getD i 0).num<0:=by simpa using e
  have:=vU (show 0≤ -(p.B.getD i 0).num by omega) ab;rw [uw] at this;omega
 ·rename_i e;have aJ: ¬(p.B.getD i 0).num<0:=by simpa using e
  have:=vU (show 0≤(p.B.getD i 0).num by omega) ab;omega
theorem FG (f:Nat→Int)(a:Nat): ∀b,cb f (a+b)=cb f a+cb (fun k=>f (a+k)) b
 |0=>by show cb f a=cb f a+0;omega
 |b+1=>by
  show cb f (a+b)+f (a+b)=cb f a+(cb (fun k=>f (a+k)) b+f (a+b))
  rw [FG f a b];omega
theorem Jc: ∀{n:Nat} {f:Nat→Int},(∀i,i<n→0≤f i)→0≤cb f n
 |0,f,_=>Int.le_refl 0
 |n+1,f,h=>by have U:=Jc (n:=n) (f:=f) (fun i aa=>h i J);have ab:=h n (gN n);show 0≤cb f n+f n;omega
theorem W6: ∀{n:Nat} {f:Nat→Int},(∀i,i<n→0≤f i)→cb f n=0→ ∀i,i<n→f i=0
 |0,f,_,_,i,aa=>absurd aa (gg i)
 |n+1,f,h,aU,i,aa=>by
  have U:=Jc (n:=n) (f:=f) (fun i aa=>h i J);have ab:=h n (gN n);have aU:cb f n+f n=0:=aU;by_cases e:i=n
  ·rw [e];omega
  ·exact W6 (n:=n) (fun i aa=>h i J) J i J
theorem CP {m N w:Nat}{M:cB}{s:cq}(aa:Inv m N M s)(aQ:kb m N s)(hw:w≤N): ∀K,Inv m N M (gj m N w s K)∧kb m N (gj m N w s K)
 |0=>⟨aa,aQ⟩
 |K+1=>by
  obtain ⟨U,ab⟩:=CP aa aQ hw K;show Inv m N M ((j9 m N w (gj m N w s K)).getD _)∧kb m N ((j9 m N w (gj m N w s K)).getD _);cases av:j9 m N w (gj m N w s K) with
  |none=>exact ⟨U,ab⟩
  |some cy=>
   obtain ⟨c,r,g1,g2,g3,g4,rfl⟩:=W3 av;have:=g4.pos;exact ⟨U.jD g4.lt J J,U.abZ ab J g4⟩
def gT (m w:Nat)(s:cq):Nat:=nb s.rows m w 0
theorem W2 {m N w:Nat}{s:cq}(h:j9 m N w s=none):
 (gT m w s=w∧ ∀a,a<w→0≤az s.rows m a)∨(gT m w s<w∧az s.rows m (gT m w s)<0∧ ∀i,i<m→az s.rows i (gT m w s)≤0):=by
 unfold j9 at h;obtain ⟨aH,aJ,bR,jw⟩:=Fx s.rows m w 0;split at h
 ·rename_i U;exact .inl ⟨U,fun a a8=>bR a (b7 _) (by rw [U];exact a8)⟩
 ·split at h
  ·rename_i U _ au;exact .inr ⟨by unfold gT;omega,jw J,Oc _ _ _ _ _ au⟩
  ·cases h
def eU (m:Nat)(s:cq)(c j:Nat):Int:=(if j=c then s.den else 0)-cb (fun k=>if j=s.basis.getD k 0 then az s.rows k c else 0) m
section
variable {m N w:Nat}{M:cB}{s:cq}
theorem Inv.vec (h:Inv m N M s){c:Nat}(aw:c<N+1){i:Nat}(aa:i<m+1):mD M N (eU m s c) i=if i=m then az s.rows m c else 0:=by
 have:=(h.Tb (eU m s c) (-(az s.rows m c))).2 (fun i aa=>by
  rw [show mD s.rows N (eU m s c) i=az s.rows i c*s.den-cb (fun k=>az s.rows i (s.basis.getD k 0)*az s.rows k c) m from PN aw (fun k an=>by have:=h.sg k an;omega)];by_cases e:i=m
  ·subst e;rw [aA rfl,vi (fun k an=>by rw [h.unit i k J an,ax J,mN]),xI,n3];omega
  ·rw [ax e];have bR: ∀k,k<m→az s.rows i (s.basis.getD k 0)*az s.rows k c=if k=i then s.den*az s.rows k c else 0:=by
    intro k an;rw [h.unit i k aa an];by_cases jw:i=k
    ·rw [aA jw,aA jw.symm]
    ·rw [ax jw,ax (fun q=>jw q.symm),mN]
   rw [hs bR,yP (f:=fun k=>s.den*az s.rows k c) J,n3];omega) i aa
 by_cases e:i=m
 ·rw [aA e] at this⊢;omega
 ·rw [ax e] at this⊢;omega
theorem Inv.Cp (h:Inv m N M s){c k:Nat}(an:k<m):eU m s c (s.basis.getD k 0)=(if s.basis.getD k 0=c then s.den else 0)-az s.rows k c:=by unfold eU;congr 1;rw [yR k an (fun i aa cd=>by rw [ax (fun e=>cd (h.nodup aa an e.symm))]),aA rfl]
theorem AO {c j:Nat}(aI: ∀k,k<m→s.basis.getD k 0≠j):eU m s c j=if j=c then s.den else 0:=by unfold eU;rw [vi (fun k an=>by rw [ax (fun e=>aI k an e.symm)]),Bs]
theorem Inv.akR (h:Inv m N M s):eU m s N N=s.den:=by rw [AO (fun k an=>by have:=h.sg k an;omega),aA rfl]
theorem Inv.Nw (h:Inv m N M s)(aQ:kb m N s){j:Nat}(ae:j<N):eU m s N j≤0:=by
 by_cases al:A2 m s j
 ·obtain ⟨k,an,rfl⟩:=al;rw [h.Cp an,ax J];have:=aQ k an;omega
 ·rw [AO (fun k an e=>al ⟨k,an,e⟩),ax J];exact Int.le_refl 0
theorem Inv.Nv (h:Inv m N M s){c:Nat}(hle: ∀i,i<m→az s.rows i c≤0)(j:Nat):0≤eU m s c j:=by
 have hd:=h.gp;by_cases al:A2 m s j
 ·obtain ⟨k,an,rfl⟩:=al;rw [h.Cp an];have:=hle k an;split<;>omega
 ·rw [AO (fun k an e=>al ⟨k,an,e⟩)];split<;>omega
end
theorem alB {T:cB}{m:Nat}(h:m≤T.length)(L oB:List Int):kT (kT T m L) m oB=kT T m oB:=by unfold kT;congr 1;rw [List.take_append_of_le_length (by rw [fc];omega),List.take_take,Nat.min_self]
theorem amf {T:cB}{m N:Nat}(h:m≤T.length)(k fJ:Nat→Int):j5 k m N (j5 fJ m N T)=j5 k m N T:=alB h _ _
theorem U9 {k:Nat→Int}{m N:Nat}{s:cq}(b2:m≤s.rows.length)(aQ:kb m N s):kb m N (pS k m N s):=fun i aa=>by show 0≤az (kT _ _ _) i N;rw [AP b2 _ aa];exact aQ i aa
theorem JW {k:Nat→Int}{m N:Nat}{T:cB}(b2:m≤T.length)(x:Nat→Int):mD (j5 k m N T) N x m=cb (fun j=>k j*x j) (N+1):=by unfold mD;refine hs (fun j ae=> ?_);show az (kT _ _ _) m j*_=_;rw [JQ b2,pU ae]
theorem aaW {k:Nat→Int}{m N:Nat}{T:cB}(b2:m≤T.length)(x:Nat→Int){i:Nat}(aa:i<m):mD (j5 k m N T) N x i=mD T N x i:=by unfold mD;refine hs (fun j ae=> ?_);show az (kT _ _ _) i j*_=_;rw [AP b2 _ aa]
theorem Kc {k:Nat→Int}{m N:Nat}{T:cB}(b2:m≤T.length){j:Nat}(ae:j<N+1):az (j5 k m N T) m j=k j:=by show az (kT _ _ _) m j=_;rw [JQ b2,pU ae]
theorem JV {k:Nat→Int}{m N:Nat}{T:cB}(b2:m≤T.length){i:Nat}(aa:i<m)(j:Nat):az (j5 k m N T) i j=az T i j:=by show az (kT _ _ _) i j=_;rw [AP b2 _ aa]
theorem aou (p:Prog):(fM p).rows.length=p.m+1:=(CV p).n
theorem nH (p:Prog):p.m≤(fM p).rows.length:=by rw [aou];exact Nat.le_succ _
def hU (p:Prog)(j:Nat):Int:=if p.n+p.m≤j∧j<p.N then 1 else 0
theorem Vo (p:Prog)(j:Nat):0≤hU p j:=by unfold hU;split<;>omega
def Al (p:Prog):cq:=pS (hU p) p.m p.N (fM p)
def ur (p:Prog):cB:=j5 (hU p) p.m p.N (fM p).rows
theorem Yt (p:Prog):Inv p.m p.N (ur p) (Al p):=(CV p).pS (hU p) (nH p)
theorem XT (p:Prog)(aF:p.hW):kb p.m p.N (Al p):=U9 (nH p) (Vy p aF)
theorem ams {p:Prog}{s:cq}(h:Inv p.m p.N (ur p) s){c:Nat}(aw:c<p.N)(kM:az s.rows p.m c<0)(hle: ∀i,i<p.m→az s.rows i c≤0):False:=by have U:=h.vec (c:=c) (i:=p.m) (Nat.lt_succ_of_lt aw) (gN _);have ab:=JW (k:=hU p) (N:=p.N) (nH p) (eU p.m s c);have ab:mD (ur p) p.N (eU p.m s c) p.m=cb (fun j=>hU p j*eU p.m s c j) (p.N+1):=ab;rw [U,aA rfl] at ab;have ay:0≤cb (fun j=>hU p j*eU p.m s c j) (p.N+1):=Jc (fun j _=>vU (Vo p j) (h.Nv hle j));omega
theorem JC {p:Prog}{s:cq}(h:Inv p.m p.N (ur p) s)(aQ:kb p.m p.N s):
 az s.rows p.m p.N≤0∧(az s.rows p.m p.N=0→ ∀i,i<p.m→p.n+p.m≤s.basis.getD i 0→az s.rows i p.N=0):=by
 have U:=h.vec (c:=p.N) (i:=p.m) (gN _) (gN _);have ab:mD (ur p) p.N (eU p.m s p.N) p.m=cb (fun j=>hU p j*eU p.m s p.N j) (p.N+1):=JW (k:=hU p) (N:=p.N) (nH p) (eU p.m s p.N);rw [U,aA rfl] at ab;have bw: ∀j,j<p.N+1→0≤hU p j* -(eU p.m s p.N j):=by
  intro j ae;by_cases e:j=p.N
  ·have:hU p j=0:=by unfold hU;rw [ax J]
   rw [this,mN];exact Int.le_refl 0
  ·have:=h.Nw aQ (j:=j) (Nat.lt_of_le_of_ne (Nat.le_of_lt_succ ae) e);exact vU (Vo p j) J
 have ay:cb (fun j=>hU p j* -(eU p.m s p.N j)) (p.N+1)= -(az s.rows p.m p.N):=by have:cb (fun j=>hU p j* -(eU p.m s p.N j)) (p.N+1)=cb (fun j=> -1*(hU p j*eU p.m s p.N j)) (p.N+1):=hs (fun j _=>by rw [xI];omega);rw [this,o8,←ab];omega
 have bf:=Jc bw;refine ⟨J,fun aU i aa al=> ?_⟩;have Eo:=h.sg i aa;have bL:=W6 bw (by rw [ay,aU];rfl) (s.basis.getD i 0) (Nat.lt_succ_of_lt Eo);have dz:hU p (s.basis.getD i 0)=1:=by unfold hU;rw [aA ⟨al,Eo⟩]
 rw [dz,nr,h.Cp aa,ax (pw Eo)] at bL;omega
def jj (T:cB)(i:Nat):Nat→Nat→Nat
 |0,c=>c
 |f+1,c=>if az T i c≠0 then c else jj T i f (c+1)
theorem Yr (T:cB)(i:Nat): ∀f c,c≤jj T i f c∧jj T i f c≤c+f∧(∀a,c≤a→a<jj T i f c→az T i a=0)∧(jj T i f c<c+f→az T i (jj T i f c)≠0)
 |0,c=>⟨bT _,bT _,fun a U ab=>absurd ab (by rw [jj];omega),fun h=>absurd h (by rw [jj];omega)⟩
 |f+1,c=>by
  rw [jj];by_cases h:az T i c≠0
  ·rw [aA h];exact ⟨bT _,J,fun a U ab=>absurd ab J,fun _=>h⟩
  ·rw [ax h];obtain ⟨U,ab,ay,bf⟩:=Yr T i f (c+1);refine ⟨J,J,fun a a8 al=> ?_,fun al=>bf J⟩;by_cases e:a=c
   ·subst e;omega
   ·exact ay a J al
def sH (w:Nat)(s:cq)(k:Nat):cq:=if s.basis.getD k 0<w then s else if jj s.rows k w 0=w then s else jD s k (jj s.rows k w 0)
def jm (w:Nat)(s:cq):Nat→cq
 |0=>s
 |k+1=>sH w (jm w s k) k
structure nT (m N w:Nat)(s:cq)(k:Nat):Prop where
 z: ∀i,i<m→w≤s.basis.getD i 0→az s.rows i N=0
 r: ∀i,i<k→w≤s.basis.getD i 0→ ∀j,j<w→az s.rows i j=0
theorem O1 {d x y:Int}(hd:0<d)(h:d*x=y)(a1:y=0):x=0:=by
 rw [a1] at h;rcases Int.mul_eq_zero.1 h with U|U
 ·omega
 ·exact U
theorem anb {d x y:Int}(hd:0<d)(h:d*x=y)(a1:0≤y):0≤x:=Int.le_of_mul_le_mul_left (by rw [hR,h];exact a1) hd
section
variable {m N w:Nat}{M:cB}{s:cq}
theorem Inv.abv (h:Inv m N M s)(aQ:kb m N s){k:Nat}(hd:nT m N w s k)(an:k<m)(hw:w≤N):
 Inv m N M (sH w s k)∧kb m N (sH w s k)∧nT m N w (sH w s k) (k+1):=by
 unfold sH;obtain ⟨aH,aJ,bR,jw⟩:=Yr s.rows k w 0;by_cases al:s.basis.getD k 0<w
 ·rw [aA al];refine ⟨h,aQ,hd.z,fun i aa eA=> ?_⟩;by_cases e:i=k
  ·rw [e] at eA;omega
  ·exact hd.r i J eA
 ·rw [ax al];by_cases aI:jj s.rows k w 0=w
  ·rw [aA aI];refine ⟨h,aQ,hd.z,fun i aa eA=> ?_⟩;by_cases e:i=k
   ·rw [e];exact fun j ae=>bR j (b7 _) J
   ·exact hd.r i J eA
  ·rw [ax aI];have aF:=jw J;have LV:jj s.rows k w 0<w:=J;generalize jj s.rows k w 0=c at*;have bw:=hd.z k an J;have Mu:=Zf aF;have zG: ∀i,(c0.jD s k c).basis.getD i 0=if i=k then c else s.basis.getD i 0:=fun i=>WH h an i
   have jy: ∀i,i<m→s.den*az (c0.jD s k c).rows i N=az s.rows i N*(o0 (az s.rows k c)*az s.rows k c):=by
    intro i aa;rw [h.entry an (show c<N by omega) aF (show i<m+1 by omega) (gN N),bw];by_cases e:i=k
    ·rw [aA e,e,bw,hR,hR,mN]
    ·rw [ax e,hR,Bs,pA]
   refine ⟨h.jD an J aF,fun i aa=>anb h.gp (jy i aa) (vU (aQ i aa) (zq Mu)),fun i aa eA=> ?_,fun i aa eA j ae=> ?_⟩
   ·rw [zG] at eA;by_cases e:i=k
    ·rw [aA e] at eA;omega
    ·rw [ax e] at eA;exact O1 h.gp (jy i aa) (by rw [hd.z i aa eA,mN])
   ·rw [zG] at eA;by_cases e:i=k
    ·rw [aA e] at eA;omega
    ·rw [ax e] at eA;have bS:=hd.r i J eA j ae;have bY:=hd.r i J eA c LV;refine O1 h.gp (h.entry an (show c<N by omega) aF (show i<m+1 by omega) (show j<N+1 by omega)) ?_;rw [ax e,bS,bY,mN,mN];exact hR _
theorem Inv.Lg (h:Inv m N M s)(aQ:kb m N s)(hd: ∀i,i<m→w≤s.basis.getD i 0→az s.rows i N=0)(hw:w≤N):
 ∀k,k≤m→Inv m N M (jm w s k)∧kb m N (jm w s k)∧nT m N w (jm w s k) k
 |0,_=>⟨h,aQ,hd,fun i aa=>absurd aa (gg i)⟩
 |k+1,an=>by obtain ⟨U,ab,ay⟩:=Inv.Lg h aQ hd hw k J;exact U.abv ab ay J hw
theorem Inv.abw (h:Inv m N M s)(hd:nT m N w s m){r c:Nat}(hw:w≤N)(aw:c<w)(au:GP s.rows s.basis c N m r):nT m N w (c0.jD s r c) m:=by
 have aF:=au.pos;have ad:=au.lt;have zG: ∀i,(c0.jD s r c).basis.getD i 0=if i=r then c else s.basis.getD i 0:=fun i=>WH h ad i
 have key: ∀i,i<m→w≤(c0.jD s r c).basis.getD i 0→ ∀j,(j<w∨j=N)→az (c0.jD s r c).rows i j=0:=by
  intro i aa al j ae;rw [zG] at al;by_cases e:i=r
  ·rw [aA e] at al;omega
  ·rw [ax e] at al;have bS:az s.rows i j=0:=by
    rcases ae with ae|ae
    ·exact hd.r i aa al j ae
    ·rw [ae];exact hd.z i aa al
   have bY:=hd.r i aa al c aw;refine O1 h.gp (h.entry ad (show c<N by omega) J (show i<m+1 by omega) (show j<N+1 by omega)) ?_;rw [ax e,bS,bY,mN,mN];exact hR _
 exact ⟨fun i aa al=>key i aa al N (.inr I),fun i aa al j ae=>key i aa al j (.inl ae)⟩
theorem XH (h:Inv m N M s)(aQ:kb m N s)(hd:nT m N w s m)(hw:w≤N): ∀K,nT m N w (gj m N w s K) m
 |0=>hd
 |K+1=>by
  have U:=XH h aQ hd hw K;have ab:=(CP h aQ hw K).1;show nT m N w ((j9 m N w (gj m N w s K)).getD _) m;cases av:j9 m N w (gj m N w s K) with
  |none=>exact U
  |some cy=>
   obtain ⟨c,r,g1,g2,g3,g4,rfl⟩:=W3 av;exact ab.abw U hw g1 g4
theorem anf {k:Nat→Int}(b2:m≤s.rows.length)(hd:nT m N w s m):nT m N w (pS k m N s) m:=by
 refine ⟨fun i aa al=> ?_,fun i aa al j ae=> ?_⟩
 ·show az (kT _ _ _) i N=0;rw [AP b2 _ aa];exact hd.z i aa al
 ·show az (kT _ _ _) i j=0;rw [AP b2 _ aa];exact hd.r i aa al j ae
end
def e2 (p:Prog)(j:Nat):Int:=if j<p.n then-((hS p.C).getD j 0) else 0
def M2 (p:Prog):cB:=j5 (e2 p) p.m p.N (fM p).rows
def gw (p:Prog)(K:Nat):cq:=gj p.m p.N (p.n+p.m) (Al p) K
def hD (p:Prog)(K:Nat):cq:=if p.a=0 then fM p else jm (p.n+p.m) (gw p K) p.m
def uU (p:Prog)(K:Nat):cq:=pS (e2 p) p.m p.N (hD p K)
def jQ (p:Prog)(K L:Nat):cq:=gj p.m p.N (p.n+p.m) (uU p K) L
theorem nQ (p:Prog):p.n+p.m≤p.N:=n0 _ _
theorem CR (p:Prog)(aF:p.hW)(K:Nat):Inv p.m p.N (ur p) (gw p K)∧kb p.m p.N (gw p K):=CP (Yt p) (XT p aF) (nQ p) K
theorem agV (p:Prog)(aF:p.hW)(K:Nat)(aU:0<p.a→az (gw p K).rows p.m p.N=0):
 (∃M,Inv p.m p.N M (hD p K)∧p.m≤M.length∧j5 (e2 p) p.m p.N M=M2 p)∧kb p.m p.N (hD p K)∧nT p.m p.N (p.n+p.m) (hD p K) p.m:=by
 unfold hD;by_cases e:p.a=0
 ·rw [aA e];have fU: ∀i,i<p.m→ ¬p.n+p.m≤(fM p).basis.getD i 0:=by intro i aa;have U:=(CV p).sg i aa;have ab:p.N=p.n+p.m+p.a:=rfl;omega
  exact ⟨⟨_,CV p,nH p,I⟩,Vy p aF,fun i aa al=>absurd al (fU i aa),fun i aa al=>absurd al (fU i aa)⟩
 ·rw [ax e];obtain ⟨U,ab⟩:=CR p aF K;obtain ⟨_,bw⟩:=JC U ab;obtain ⟨g1,g2,g3⟩:=U.Lg ab (bw (aU J)) (nQ p) p.m (bT _);refine ⟨⟨_,g1,?_,amf (nH p) _ _⟩,g2,g3⟩;have:(ur p).length=p.m+1:=Vc (nH p) _;omega
theorem XU (p:Prog)(aF:p.hW)(K:Nat)(aU:0<p.a→az (gw p K).rows p.m p.N=0):
 Inv p.m p.N (M2 p) (uU p K)∧kb p.m p.N (uU p K)∧nT p.m p.N (p.n+p.m) (uU p K) p.m:=by
 obtain ⟨⟨M,U,ab,ay⟩,bf,bL⟩:=agV p aF K aU;have b2:p.m≤(hD p K).rows.length:=by rw [U.n];exact Nat.le_succ _
 have dz:=U.pS (e2 p) ab;rw [ay] at dz;exact ⟨dz,U9 b2 bf,anf b2 bL⟩
theorem O0 (p:Prog)(aF:p.hW)(K L:Nat)(aU:0<p.a→az (gw p K).rows p.m p.N=0):
 Inv p.m p.N (M2 p) (jQ p K L)∧kb p.m p.N (jQ p K L)∧nT p.m p.N (p.n+p.m) (jQ p K L) p.m:=by obtain ⟨U,ab,ay⟩:=XU p aF K aU;obtain ⟨bf,bL⟩:=CP U ab (nQ p) L;exact ⟨bf,bL,XH U ab ay (nQ p) L⟩
end Go.aj.c0
namespace Go.aj.c0
open Go.aj.dZ Go.aj.cX Go.aj.dn
structure DO where
 kind:Nat
 X:List Rat
 Y:List Rat
 R:List Rat
 V:Rat
def iU (n:Nat)(β:List Nat)(f:Nat→Rat)(l:List Rat):Nat→List Rat
 |0=>l
 |k+1=>if β.getD k 0<n then (iU n β f l k).set (β.getD k 0) (f k) else iU n β f l k
theorem w4 (n:Nat)(β:List Nat)(f:Nat→Rat)(l:List Rat): ∀k,(iU n β f l k).length=l.length
 |0=>rfl
 |k+1=>by
  rw [iU];split
  ·rw [dd,w4 n β f l k]
  ·exact w4 n β f l k
theorem PH {n:Nat}{β:List Nat}{f:Nat→Rat}{l:List Rat}{j:Nat}: ∀{K:Nat},(∀k,k<K→β.getD k 0≠j)→(iU n β f l K).getD j 0=l.getD j 0
 |0,_=>rfl
 |K+1,h=>by
  have U:=PH (n:=n) (f:=f) (l:=l) (K:=K) (fun k an=>h k J);rw [iU];split
  ·rw [fO,ax (fun e=>h K (gN K) e.1.symm)];exact U
  ·exact U
theorem Og {n:Nat}{β:List Nat}{f:Nat→Rat}{l:List Rat}{k:Nat}(au:l.length=n)(bD:β.getD k 0<n):
 ∀{K:Nat},(∀i,i<K→β.getD i 0=β.getD k 0→i=k)→k<K→(iU n β f l K).getD (β.getD k 0) 0=f k
 |0,_,an=>absurd an (gg k)
 |K+1,aa,an=>by
  rw [iU];by_cases e:k=K
  ·subst e;rw [aA bD,fO,aA ⟨rfl,by rw [w4,au];exact bD⟩]
  ·have U:=Og (f:=f) au bD (K:=K) (fun i h=>aa i J) J;have cd:β.getD K 0≠β.getD k 0:=fun q=>e (aa K (gN K) q).symm;split
   ·rw [fO,ax (fun q=>cd q.1.symm)];exact U
   ·exact U
def mA (p:Prog)(s:cq):List Rat:=iU p.n s.basis (fun k=>Rat.divInt (az s.rows k p.N) s.den) (List.replicate p.n 0) p.m
def lS (n c:Nat):List Rat:=if c<n then (List.replicate n 0).set c 1 else List.replicate n 0
def pq (p:Prog)(s:cq)(c:Nat):List Rat:=iU p.n s.basis (fun k=>Rat.divInt (-(az s.rows k c)) s.den) (lS p.n c) p.m
def lI (p:Prog)(s:cq)(d:Int):List Rat:=(List.range p.m).map (fun i=>Rat.divInt (az s.rows p.m (p.n+i)) d*((p.eu i:Nat):Rat))
def Prog.cG (p:Prog):Nat:=hV 1 p.C
def hy (p:Prog)(K L:Nat):DO:=
 if 0<p.a∧az (gw p K).rows p.m p.N<0 then ⟨1,[],lI p (gw p K) (gw p K).den,[],0⟩
 else if gT p.m (p.n+p.m) (jQ p K L)<p.n+p.m then ⟨2,mA p (jQ p K L),[],pq p (jQ p K L) (gT p.m (p.n+p.m) (jQ p K L)),0⟩
 else ⟨0,mA p (jQ p K L),lI p (jQ p K L) ((jQ p K L).den*(p.cG:Nat)),[],Rat.divInt (az (jQ p K L).rows p.m p.N) ((jQ p K L).den*(p.cG:Nat))⟩
structure zd (p:Prog)(K L:Nat):Prop where
 one:0<p.a→j9 p.m p.N (p.n+p.m) (gw p K)=none
 two: ¬(0<p.a∧az (gw p K).rows p.m p.N<0)→j9 p.m p.N (p.n+p.m) (jQ p K L)=none
theorem Pz {p:Prog}(aF:p.hW){K:Nat}(h: ¬(0<p.a∧az (gw p K).rows p.m p.N<0)):0<p.a→az (gw p K).rows p.m p.N=0:=by intro a8;obtain ⟨U,ab⟩:=CR p aF K;have:=(JC U ab).1;have: ¬az (gw p K).rows p.m p.N<0:=fun q=>h ⟨a8,q⟩;omega
inductive Good (p:Prog):DO→Prop
 |Q5 {X Y:List Rat} {V:Rat} (ar:X.length=p.n) (a1:Y.length=p.m) (tH: ∀j,j<p.n→0≤X.getD j 0) (wQ: ∀i,i<p.m→0≤Y.getD i 0)
  (lX: ∀i,i<p.m→eC (p.A.getD i []) X≤p.B.getD i 0) (tI: ∀j,j<p.n→p.C.getD j 0≤eC (r0 p.A j) Y) (ec:eC p.C X=V) (yu:eC p.B Y=V):Good p ⟨0,X,Y,[],V⟩
 |none {Y:List Rat} (hm:0<p.m) (a1:Y.length=p.m) (wQ: ∀i,i<p.m→0≤Y.getD i 0) (tI: ∀j,j<p.n→0≤eC (r0 p.A j) Y) (yu:eC p.B Y<0):Good p ⟨1,[],Y,[],0⟩
 |free {X R:List Rat} (aI:0<p.n) (ar:X.length=p.n) (ad:R.length=p.n) (tH: ∀j,j<p.n→0≤X.getD j 0) (cV: ∀j,j<p.n→0≤R.getD j 0)
  (lX: ∀i,i<p.m→eC (p.A.getD i []) X≤p.B.getD i 0) (D4: ∀i,i<p.m→eC (p.A.getD i []) R≤0) (dx:0<eC p.C R):Good p ⟨2,X,[],R,0⟩
theorem ahc {a x:Rat}(a8:0<a)(h:a*x≤0):x≤0:=xJ (c:=a) (by rw [nq,n4];exact h) a8
theorem Gd {a x:Rat}(a8:0<a)(h:0≤a*x):0≤x:=xJ (c:=a) (by rw [nq,n4 x];exact h) a8
theorem C5 {k:Nat}(h:0<k):(0:Rat)<(k:Rat):=by have U:((k:Int):Rat)=(k:Rat):=xE k;rw [←U];exact Gk J
theorem Kf (p:Prog)(i:Nat):0<p.eu i:=J0 _ 1 aT
theorem Dv (p:Prog):0<p.cG:=J0 _ 1 aT
theorem Yo {x:Int}(h:x≤0):(x:Rat)≤0:=(Rat.intCast_le_intCast (a:=x) (b:=0)).2 h
theorem Dj {x:Int}(h:0≤x):(0:Rat)≤(x:Rat):=(Rat.intCast_le_intCast (a:=0) (b:=x)).2 h
theorem Qd {x:Int}(h:x<0):(x:Rat)<0:=(Rat.intCast_lt_intCast (a:=x) (b:=0)).2 h
theorem FD {x d:Int}(h:d≠0):Rat.divInt x d*(d:Rat)=(x:Rat):=by rw [Rat.divInt_eq_div,Rat.div_mul_cancel (Yp h)]
section
variable {p:Prog}{k:Nat→Int}{s:cq}
theorem aov {x:Nat→Int}{i:Nat}(aa:i<p.m)(a8: ∀q,q<p.a→x (p.n+p.m+q)=0):
 mD (fM p).rows p.N x i=p.k7 i*(cb (fun j=>(p.whole i).getD j 0*x j) p.n+x (p.n+i)+(p.whole i).getD p.n 0*x p.N):=by
 have aH: ∀j,j<p.n→az (fM p).rows i j*x j=p.k7 i*((p.whole i).getD j 0*x j):=fun j ae=>by rw [Qn p aa ae,kJ]
 have aJ: ∀q,q<p.m→az (fM p).rows i (p.n+q)*x (p.n+q)=if q=i then p.k7 i*x (p.n+q) else 0:=fun q aB=>by
  rw [Kw p aa aB];by_cases e:i=q
  ·rw [aA e,aA e.symm]
  ·rw [ax e,ax (fun h=>e h.symm),mN]
 have bR: ∀q,q<p.a→az (fM p).rows i (p.n+p.m+q)*x (p.n+p.m+q)=0:=fun q aB=>by rw [a8 q aB,hR]
 show cb (fun j=>az (fM p).rows i j*x j) (p.n+p.m+p.a)+az (fM p).rows i p.N*x p.N=_;rw [FG _ (p.n+p.m) p.a,FG _ p.n p.m,vi bR,hs aH,hs aJ,o8,yP (f:=fun q=>p.k7 i*x (p.n+q)) aa,Kv p aa,zp,zp,kJ];omega
theorem TE (h:Inv p.m p.N (j5 k p.m p.N (fM p).rows) s)(hd:nT p.m p.N (p.n+p.m) s p.m){c:Nat}(aw:c<p.n+p.m∨c=p.N){i:Nat}(aa:i<p.m):
 cb (fun j=>(p.whole i).getD j 0*eU p.m s c j) p.n+eU p.m s c (p.n+i)+(p.whole i).getD p.n 0*eU p.m s c p.N=0:=by
 have hw:=nQ p;have adG:c<p.N+1:=J;have U:=h.vec adG (i:=i) J;rw [ax (pw aa),aaW (nH p) _ aa,aov aa] at U
 ·have ab:=KL p i;generalize cb (fun j=>(p.whole i).getD j 0*eU p.m s c j) p.n+eU p.m s c (p.n+i)+(p.whole i).getD p.n 0*eU p.m s c p.N=z at*;have ay:p.k7 i*(p.k7 i*z)=0:=by rw [U,hR]
  rw [←kJ,ab,nr] at ay;exact ay
 ·intro q aB;have bD:p.n+p.m+q<p.N:=Nat.add_lt_add_left aB _;by_cases al:A2 p.m s (p.n+p.m+q)
  ·obtain ⟨b,sr,LK⟩:=al;have ab:=h.Cp (c:=c) sr;rw [LK,ax J] at ab;rw [ab];have:az s.rows b c=0:=by
    rcases aw with aw|aw
    ·exact hd.r b sr J c aw
    ·rw [aw];exact hd.z b sr J
   omega
  ·rw [AO (fun b eA e=>al ⟨b,eA,e⟩),ax J]
theorem Yf (an: ∀i,i<p.m→k (p.n+i)=0):K3 p.m p.N p.n (j5 k p.m p.N (fM p).rows) p.k7:=by
 have av:=amB p;refine ⟨av.lt,av.bp,fun i q aa aB=> ?_,fun q aB=> ?_⟩
 ·rw [JV (nH p) aa];exact av.at' i q aa aB
 ·rw [Kc (nH p) (by have:=av.lt;omega)];exact an q aB
theorem Rs (h:Inv p.m p.N (j5 k p.m p.N (fM p).rows) s)(an: ∀i,i<p.m→k (p.n+i)=0){j:Nat}(ae:j<p.n):
 az s.rows p.m j=cb (fun q=>az s.rows p.m (p.n+q)*(p.whole q).getD j 0) p.m+s.den*k j:=by have hw:=nQ p;have Sn:j<p.N+1:=J;rw [h.combo (Yf an) (gN _) Sn,aA rfl,Kc (nH p) Sn];congr 1;refine hs (fun q aB=> ?_);rw [JV (nH p) aB,Qn p aB ae,←kJ (p.k7 q),KL,nr]
theorem Rr (h:Inv p.m p.N (j5 k p.m p.N (fM p).rows) s)(an: ∀i,i<p.m→k (p.n+i)=0):
 az s.rows p.m p.N=cb (fun q=>az s.rows p.m (p.n+q)*(p.whole q).getD p.n 0) p.m+s.den*k p.N:=by rw [h.combo (Yf an) (gN _) (gN _),aA rfl,Kc (nH p) (gN _)];congr 1;refine hs (fun q aB=> ?_);rw [JV (nH p) aB,Kv p aB,←kJ (p.k7 q),KL,nr]
theorem ZC (aF:p.hW){i:Nat}(aa:i<p.m):(p.A.getD i []).length=p.n:=aF.lA _ (dt [] (by rw [aF.rows];exact aa))
theorem Za (aF:p.hW){i:Nat}(aa:i<p.m){x:Nat→Int}{X:List Rat}{d:Rat}(kk: ∀j,j<p.n→X.getD j 0*d=((x j:Int):Rat)):
 ((cb (fun j=>(p.whole i).getD j 0*x j) p.n:Int):Rat)=((p.eu i:Nat):Rat)*eC (p.A.getD i []) X*d:=by rw [FN,sJ (ZC aF aa),←tS,←FM];refine e4 (fun j ae=> ?_);have bd:j<p.n+1:=J;rw [tf,←kk j ae,JJ p aF aa bd,Rx p aF aa ae];grind
theorem V6 {C:List Rat}{j:Nat}(ae:j<C.length):(((hS C).getD j 0:Int):Rat)=((hV 1 C:Nat):Rat)*C.getD j 0:=by unfold hS;rw [mY _ _ 0 _ _ ae];exact Wj (dt 0 ae)
theorem YH {x:Nat→Int}{X:List Rat}{d:Rat}(kk: ∀j,j<p.n→X.getD j 0*d=((x j:Int):Rat)):
 ((cb (fun j=>(hS p.C).getD j 0*x j) p.n:Int):Rat)=((p.cG:Nat):Rat)*eC p.C X*d:=by rw [FN,sJ (a:=p.C) (n:=p.n) rfl,←tS,←FM];refine e4 (fun j ae=> ?_);rw [tf,←kk j ae,V6 ae];show ((p.cG:Nat):Rat)*_*_=_;grind
theorem YF (aF:p.hW){j:Nat}(ae:j<p.n){y:Nat→Int}{Y:List Rat}{d:Rat}(ts: ∀q,q<p.m→Y.getD q 0*d=((y q:Int):Rat)*((p.eu q:Nat):Rat)):
 ((cb (fun q=>y q*(p.whole q).getD j 0) p.m:Int):Rat)=eC (r0 p.A j) Y*d:=by rw [FN,sJ (n:=p.m) (by rw [Xr];exact aF.rows),←FM];refine e4 (fun q aB=> ?_);have U:=ts q aB;have bd:j<p.n+1:=J;rw [tf,JJ p aF aB bd,Rx p aF aB ae,Pe];grind
theorem Y9 (aF:p.hW){y:Nat→Int}{Y:List Rat}{d:Rat}(ts: ∀q,q<p.m→Y.getD q 0*d=((y q:Int):Rat)*((p.eu q:Nat):Rat)):
 ((cb (fun q=>y q*(p.whole q).getD p.n 0) p.m:Int):Rat)=eC p.B Y*d:=by rw [FN,sJ (a:=p.B) (n:=p.m) rfl,←FM];refine e4 (fun q aB=> ?_);have U:=ts q aB;rw [tf,JJ p aF aB (gN _),Qx p aF aB];grind
theorem V5 (p:Prog)(s:cq):(mA p s).length=p.n:=by unfold mA;rw [w4,e8]
theorem F9 (n c:Nat):(lS n c).length=n:=by
 unfold lS;split
 ·rw [dd,e8]
 ·rw [e8]
theorem aiI (p:Prog)(s:cq)(c:Nat):(pq p s c).length=p.n:=by unfold pq;rw [w4,F9]
theorem Ul (p:Prog)(s:cq)(d:Int):(lI p s d).length=p.m:=by simp [lI]
theorem Gl (n j:Nat):(List.replicate n (0:Rat)).getD j 0=0:=by simp only [List.getD,oM];split<;>rfl
theorem Ov {M:cB}(h:Inv p.m p.N M s){j:Nat}(ae:j<p.n):(mA p s).getD j 0*(s.den:Rat)=((-(eU p.m s p.N j):Int):Rat):=by
 have hw:=nQ p;have hd:s.den≠0:=by have:=h.gp;omega
 unfold mA;by_cases al:A2 p.m s j
 ·obtain ⟨b,sr,rfl⟩:=al;rw [Og (by rw [e8]) ae (fun i aa e=>h.nodup aa sr e) sr,FD hd,h.Cp sr,ax J];congr 1;omega
 ·rw [PH (fun b eA e=>al ⟨b,eA,e⟩),Gl,nq,AO (fun b eA e=>al ⟨b,eA,e⟩),ax J];rfl
theorem Qk {M:cB}(h:Inv p.m p.N M s){c:Nat}(aw:az s.rows p.m c<0){j:Nat}(ae:j<p.n):(pq p s c).getD j 0*(s.den:Rat)=((eU p.m s c j:Int):Rat):=by
 have hd:s.den≠0:=by have:=h.gp;omega
 have EK: ¬A2 p.m s c:=fun al=>by have:=h.aaV al;omega
 unfold pq;by_cases al:A2 p.m s j
 ·have aes:j≠c:=fun e=>EK (e▸al);obtain ⟨b,sr,rfl⟩:=al;rw [Og (F9 _ _) ae (fun i aa e=>h.nodup aa sr e) sr,FD hd,h.Cp sr,ax aes];congr 1;omega
 ·rw [PH (fun b eA e=>al ⟨b,eA,e⟩),AO (fun b eA e=>al ⟨b,eA,e⟩)];unfold lS;by_cases e:j=c
  ·subst e;rw [aA ae,aA rfl,fO,aA ⟨rfl,by rw [e8];exact ae⟩,pB]
  ·rw [ax e];have:(if c<p.n then (List.replicate p.n (0:Rat)).set c 1 else List.replicate p.n 0).getD j 0=0:=by
    split
    ·rw [fO,ax (fun q=>e q.1),Gl]
    ·exact Gl _ _
   rw [this,nq];rfl
theorem Uk {d:Int}(hd:d≠0){i:Nat}(aa:i<p.m):(lI p s d).getD i 0*(d:Rat)=((az s.rows p.m (p.n+i):Int):Rat)*((p.eu i:Nat):Rat):=by
 have:(lI p s d).getD i 0=Rat.divInt (az s.rows p.m (p.n+i)) d*((p.eu i:Nat):Rat):=by have aa:i<p.B.length:=aa;simp [lI,List.getD,aa]
 rw [this,uy,n4 ((p.eu i:Nat):Rat),←uy,FD hd]
theorem FO (aF:p.hW)(h:Inv p.m p.N (j5 k p.m p.N (fM p).rows) s)(aQ:kb p.m p.N s)(hd:nT p.m p.N (p.n+p.m) s p.m):
 (∀j,j<p.n→0≤(mA p s).getD j 0)∧ ∀i,i<p.m→eC (p.A.getD i []) (mA p s)≤p.B.getD i 0:=by
 have hw:=nQ p;have qu:=Gk h.gp;refine ⟨fun j ae=> ?_,fun i aa=> ?_⟩
 ·have U:=Ov h ae;have ab:=h.Nw aQ (j:=j) J;refine Gd qu ?_;rw [n4,U];exact Dj J
 ·have U:=TE h hd (c:=p.N) (.inr rfl) aa;rw [h.akR] at U;have ab:=Za aF aa (x:=fun j=> -(eU p.m s p.N j)) (X:=mA p s) (fun j ae=>Ov h ae);have ay:cb (fun j=>(p.whole i).getD j 0* -(eU p.m s p.N j)) p.n= -(cb (fun j=>(p.whole i).getD j 0*eU p.m s p.N j) p.n):=by have:cb (fun j=>(p.whole i).getD j 0* -(eU p.m s p.N j)) p.n=cb (fun j=> -1*((p.whole i).getD j 0*eU p.m s p.N j)) p.n:=hs (fun j _=>by rw [xI];omega);rw [this,o8];omega
  have ab:((cb (fun j=>(p.whole i).getD j 0* -(eU p.m s p.N j)) p.n:Int):Rat)=((p.eu i:Nat):Rat)*eC (p.A.getD i []) (mA p s)*(s.den:Rat):=ab;rw [ay] at ab;have bf:=h.Nw aQ (j:=p.n+i) J;have bL: -(cb (fun j=>(p.whole i).getD j 0*eU p.m s p.N j) p.n)=eU p.m s p.N (p.n+i)+(p.whole i).getD p.n 0*s.den:=J;rw [bL,Rat.intCast_add,tf,JJ p aF aa (gN _),Qx p aF aa] at ab;have dz:=Yo bf;have e1:(0:Rat)<((p.eu i:Nat):Rat)*(s.den:Rat):=Rat.mul_pos (C5 (Kf p i)) qu;refine xJ ?_ e1;grind
theorem aoh (aF:p.hW)(h:Inv p.m p.N (M2 p) s)(aQ:kb p.m p.N s)(hd:nT p.m p.N (p.n+p.m) s p.m)(aw: ∀a,a<p.n+p.m→0≤az s.rows p.m a):
 Good p ⟨0,mA p s,lI p s (s.den*(p.cG:Nat)),[],Rat.divInt (az s.rows p.m p.N) (s.den*(p.cG:Nat))⟩:=by
 have hw:=nQ p;have qu:=Gk h.gp;have Si:=C5 (Dv p);have fy:s.den*(p.cG:Int)≠0:=by have U:=h.gp;have ab:=Dv p;have:=Int.mul_pos U (show (0:Int)<(p.cG:Int) by omega);omega
 have Ei:((s.den*(p.cG:Nat):Int):Rat)=(s.den:Rat)*((p.cG:Nat):Rat):=by rw [tf];rfl
 have e1:(0:Rat)<(s.den:Rat)*((p.cG:Nat):Rat):=Rat.mul_pos qu Si;have ts:=fun q (aB:q<p.m)=>Uk (p:=p) (s:=s) fy aB;have an: ∀i,i<p.m→e2 p (p.n+i)=0:=fun i aa=>by unfold e2;rw [ax J]
 have Ma:e2 p p.N=0:=by unfold e2;rw [ax J]
 obtain ⟨v1,v2⟩:=FO aF h aQ hd;refine .Q5 (V5 p s) (Ul p s _) v1 (fun i aa=> ?_) v2 (fun j ae=> ?_) ?_ ?_
 ·have U:=ts i aa;rw [Ei] at U;refine Gd e1 ?_;rw [n4,U];exact xH (Dj (aw _ J)) (Rat.le_of_lt (C5 (Kf p i)))
 ·have U:=YF aF ae ts;have ab:=Rs h an ae;have Mc:e2 p j= -((hS p.C).getD j 0):=by unfold e2;rw [aA ae]
  rw [Mc] at ab;have ay:=aw j J;have bf:cb (fun q=>az s.rows p.m (p.n+q)*(p.whole q).getD j 0) p.m=az s.rows p.m j+s.den*(hS p.C).getD j 0:=by rw [xI] at ab;omega
  rw [bf,Ei,Rat.intCast_add,tf,V6 ae] at U;have bL:=Dj ay;refine xJ ?_ e1;have e:((hV 1 p.C:Nat):Rat)=((p.cG:Nat):Rat):=rfl;rw [e] at U;grind
 ·have U:=YH (p:=p) (x:=fun j=> -(eU p.m s p.N j)) (X:=mA p s) (fun j ae=>Ov h ae);have ab:=h.vec (c:=p.N) (i:=p.m) (gN _) (gN _);rw [aA rfl] at ab;have ay:mD (M2 p) p.N (eU p.m s p.N) p.m=cb (fun j=>e2 p j*eU p.m s p.N j) (p.N+1):=JW (nH p) _;have bf:cb (fun j=>e2 p j*eU p.m s p.N j) (p.N+1)=cb (fun j=>(hS p.C).getD j 0* -(eU p.m s p.N j)) p.n:=by
   rw [show p.N+1=p.n+(p.m+p.a+1) by show p.n+p.m+p.a+1=_;omega,FG,vi (f:=fun q=>e2 p (p.n+q)*eU p.m s p.N (p.n+q)) (fun q _=>by
    show e2 p (p.n+q)*_=0;unfold e2;rw [ax J,mN]),ux]
   exact hs (fun j ae=>by
    show e2 p j*_=_;unfold e2;rw [aA ae,uw,xI])
  rw [bf] at ay;have U:((cb (fun j=>(hS p.C).getD j 0* -(eU p.m s p.N j)) p.n:Int):Rat)=_:=U;rw [←ay,ab] at U;have bL:Rat.divInt (az s.rows p.m p.N) (s.den*(p.cG:Nat))*((s.den:Rat)*((p.cG:Nat):Rat))=((az s.rows p.m p.N:Int):Rat):=by rw [←Ei];exact FD fy
  refine xK (xJ ?_ e1) (xJ ?_ e1)<;>grind
 ·have U:=Y9 aF ts;have ab:=Rr h an;rw [Ma,hR,ux] at ab;rw [←ab,Ei] at U;have bL:Rat.divInt (az s.rows p.m p.N) (s.den*(p.cG:Nat))*((s.den:Rat)*((p.cG:Nat):Rat))=((az s.rows p.m p.N:Int):Rat):=by rw [←Ei];exact FD fy
  refine xK (xJ ?_ e1) (xJ ?_ e1)<;>grind
theorem aoV (aF:p.hW)(h:Inv p.m p.N (ur p) s)(hm:0<p.m)(aw: ∀a,a<p.n+p.m→0≤az s.rows p.m a)(ai:az s.rows p.m p.N<0):Good p ⟨1,[],lI p s s.den,[],0⟩:=by
 have hw:=nQ p;have qu:=Gk h.gp;have fy:s.den≠0:=by have:=h.gp;omega
 have ts:=fun q (aB:q<p.m)=>Uk (p:=p) (s:=s) fy aB;have an: ∀i,i<p.m→hU p (p.n+i)=0:=fun i aa=>by unfold hU;rw [ax J]
 have Ma:hU p p.N=0:=by unfold hU;rw [ax J]
 refine .none hm (Ul p s _) (fun i aa=> ?_) (fun j ae=> ?_) ?_
 ·refine Gd qu ?_;rw [n4,ts i aa];exact xH (Dj (aw _ J)) (Rat.le_of_lt (C5 (Kf p i)))
 ·have U:=YF aF ae ts;have ab:=Rs h an ae;have Mc:hU p j=0:=by unfold hU;rw [ax J]
  rw [Mc,hR,ux] at ab;rw [←ab] at U;refine Gd qu ?_;rw [n4,←U];exact Dj (aw j J)
 ·have U:=Y9 aF ts;have ab:=Rr h an;rw [Ma,hR,ux] at ab;rw [←ab] at U;have ay:=Qd ai;refine Rat.not_le.1 (fun bf=>Rat.not_le.2 ay ?_);rw [U];exact xH bf (Rat.le_of_lt qu)
theorem aoE (aF:p.hW)(h:Inv p.m p.N (M2 p) s)(aQ:kb p.m p.N s)(hd:nT p.m p.N (p.n+p.m) s p.m){c:Nat}(LV:c<p.n+p.m)(kM:az s.rows p.m c<0)(hle: ∀i,i<p.m→az s.rows i c≤0):
 Good p ⟨2,mA p s,[],pq p s c,0⟩:=by
 have hw:=nQ p;have qu:=Gk h.gp;obtain ⟨v1,v2⟩:=FO aF h aQ hd;have jy:eU p.m s c p.N=0:=by rw [AO (fun b al=>by have:=h.sg b al;omega),ax J]
 have LU:((az s.rows p.m c:Int):Rat)= -(((p.cG:Nat):Rat)*eC p.C (pq p s c)*(s.den:Rat)):=by
  have U:=YH (p:=p) (x:=fun j=>eU p.m s c j) (X:=pq p s c) (fun j ae=>Qk h kM ae);have ab:=h.vec (c:=c) (i:=p.m) J (gN _);rw [aA rfl] at ab;have ay:mD (M2 p) p.N (eU p.m s c) p.m=cb (fun j=>e2 p j*eU p.m s c j) (p.N+1):=JW (nH p) _;have bf:cb (fun j=>e2 p j*eU p.m s c j) (p.N+1)= -(cb (fun j=>(hS p.C).getD j 0*eU p.m s c j) p.n):=by
   rw [show p.N+1=p.n+(p.m+p.a+1) by show p.n+p.m+p.a+1=_;omega,FG,vi (f:=fun q=>e2 p (p.n+q)*eU p.m s c (p.n+q)) (fun q _=>by
    show e2 p (p.n+q)*_=0;unfold e2;rw [ax J,mN]),ux]
   have:cb (fun j=>e2 p j*eU p.m s c j) p.n=cb (fun j=> -1*((hS p.C).getD j 0*eU p.m s c j)) p.n:=hs (fun j ae=>by
    unfold e2;rw [aA ae,uw];omega)
   rw [this,o8];omega
  rw [bf,ab] at ay;have U:((cb (fun j=>(hS p.C).getD j 0*eU p.m s c j) p.n:Int):Rat)=_:=U;rw [←U,ay,Rat.intCast_neg]
 have aI:0<p.n:=by
  apply G0;intro aU;have e:eC p.C (pq p s c)=0:=by rw [sJ (a:=p.C) (n:=p.n) rfl,show p.n=0 by omega];rfl
  rw [e,uv,nq] at LU;have:=Qd kM;rw [LU] at this;exact absurd this (by decide+kernel)
 refine .free aI (V5 p s) (aiI p s c) v1 (fun j ae=> ?_) v2 (fun i aa=> ?_) ?_
 ·refine Gd qu ?_;rw [n4,Qk h kM ae];exact Dj (h.Nv hle j)
 ·have U:=TE h hd (c:=c) (.inl LV) aa;rw [jy,hR,ux] at U;have ab:=Za aF aa (x:=fun j=>eU p.m s c j) (X:=pq p s c) (fun j ae=>Qk h kM ae);have bf:=h.Nv hle (p.n+i);have bL:cb (fun j=>(p.whole i).getD j 0*eU p.m s c j) p.n≤0:=J;have ab:((cb (fun j=>(p.whole i).getD j 0*eU p.m s c j) p.n:Int):Rat)=_:=ab;have dz:=Yo bL;rw [ab] at dz;have e1:(0:Rat)<((p.eu i:Nat):Rat)*(s.den:Rat):=Rat.mul_pos (C5 (Kf p i)) qu;refine ahc e1 ?_;grind
 ·have U:=Qd kM;rw [LU] at U;have e1:(0:Rat)<((p.cG:Nat):Rat)*(s.den:Rat):=Rat.mul_pos (C5 (Dv p)) qu;refine Rat.not_le.1 (fun bf=>Rat.not_le.2 U ?_);have bL:=xH (show (0:Rat)≤ -(eC p.C (pq p s c)) by grind) (Rat.le_of_lt e1);grind
end
theorem aiY {p:Prog}(aF:p.hW){K L:Nat}(av:zd p K L):Good p (hy p K L):=by
 unfold hy;by_cases aU:0<p.a∧az (gw p K).rows p.m p.N<0
 ·rw [aA aU];obtain ⟨U,ab⟩:=CR p aF K;have hm:0<p.m:=by have:=Gp p.B p.B.length;have ay:0<nN p.B:=aU.1;show 0<p.B.length;exact gL ay this
  rcases W2 (av.one aU.1) with ⟨_,ay⟩|⟨ay,bf,bL⟩
  ·exact aoV aF U hm ay aU.2
  ·exact (ams U (gL ay (nQ p)) bf bL).elim
 ·rw [ax aU];obtain ⟨U,ab,ay⟩:=O0 p aF K L (Pz aF aU);rcases W2 (av.two aU) with ⟨g1,g2⟩|⟨g1,g2,g3⟩
  ·rw [ax J];exact aoh aF U ab ay g2
  ·rw [aA g1];exact aoE aF U ab ay g1 g2 g3
end Go.aj.c0
namespace Go.aj.c0
open Go.aj.dZ Go.aj.cX Go.aj.dn
structure Prog.GO (p:Prog)(k:Nat):Prop where
 a: ∀r∈p.A,∀q∈r,D k q
 b: ∀q∈p.B,D k q
 c: ∀q∈p.C,D k q
def Prog.E (p:Prog)(k:Nat):Nat:=k+k*(p.n+1)
def Prog.T (p:Prog)(k:Nat):Nat:=(p.E k+2)*(p.m+1)
def Prog.W (p:Prog)(k:Nat):Nat:=p.T k+2+2*(k*(p.n+1))
section
variable {p:Prog}{k:Nat}
theorem acg (aF:p.hW)(an:p.GO k){i:Nat}(aa:i<p.m): ∀q∈p.full i,D k q:=by
 intro q aB;rcases gM.1 aB with h|h
 ·exact an.a _ (dt [] (by rw [aF.rows];exact aa)) q h
 ·rw [hI.1 h];exact an.b _ (dt 0 aa)
structure Prog.s8 (p:Prog)(k:Nat):Prop where
 Uh: ∀i j,i<p.m→j<p.n+1→((p.whole i).getD j 0).natAbs≤10^p.E k
 NB: ∀j,j<p.n→((hS p.C).getD j 0).natAbs≤10^p.E k
 Lm: ∀i,i<p.m→p.eu i≤10^(k*(p.n+1))
 cG:p.cG≤10^(k*p.n)
theorem P8 (p:Prog)(i:Nat):(p.k7 i).natAbs=1:=by unfold Prog.k7;split<;>rfl
theorem FB (n:Nat):1≤10^n:=lW aT
theorem Vx (aF:p.hW)(an:p.s8 k){i j:Nat}(aa:i<p.m)(ae:j<p.N+1):(az (fM p).rows i j).natAbs≤10^p.E k:=by
 have U:=FB (p.E k);by_cases dk:j<p.n
 ·rw [Qn p aa dk,kh,P8,qi];exact an.Uh i _ aa J
 ·by_cases dO:j<p.n+p.m
  ·obtain ⟨q,rfl⟩: ∃q,j=p.n+q:=⟨j-p.n,J⟩
   rw [Kw p aa J];split
   ·rw [P8];exact U
   ·exact b7 _
  ·by_cases eG:j<p.N
   ·obtain ⟨q,rfl⟩: ∃q,j=p.n+p.m+q:=⟨j-(p.n+p.m),J⟩
    rw [Zi p aa (Nat.lt_of_add_lt_add_left (show p.n+p.m+q<p.n+p.m+p.a from eG))];split
    ·exact U
    ·exact b7 _
   ·obtain rfl:j=p.N:=J;rw [Kv p aa,kh,P8,qi];exact an.Uh i _ aa (gN _)
theorem QP (aF:p.hW)(an:p.s8 k){f:Nat→Int}(aQ: ∀j,j<p.N+1→(f j).natAbs≤10^p.E k): ∀i j,i<p.m+1→j<p.N+1→(az (j5 f p.m p.N (fM p).rows) i j).natAbs≤10^p.E k:=by
 intro i j aa ae;by_cases e:i=p.m
 ·rw [e,Kc (nH p) ae];exact aQ j ae
 ·have aL:i<p.m:=Nat.lt_of_le_of_ne (Nat.le_of_lt_succ aa) e;rw [JV (nH p) aL];exact Vx aF an aL ae
theorem P1 (aF:p.hW)(an:p.s8 k): ∀i j,i<p.m+1→j<p.N+1→(az (ur p) i j).natAbs≤10^p.E k:=
 QP aF an (fun j _=>by
  have U:=FB (p.E k);unfold hU;split
  ·exact U
  ·exact b7 _)
theorem yS (aF:p.hW)(an:p.s8 k): ∀i j,i<p.m+1→j<p.N+1→(az (M2 p) i j).natAbs≤10^p.E k:=
 QP aF an (fun j _=>by
  unfold e2;split
  ·rename_i h;rw [se];exact an.NB _ h
  ·exact b7 _)
theorem xa {M:cB}{s:cq}(h:Inv p.m p.N M s)(hm:p.m+1≤40)(gq: ∀i j,i<p.m+1→j<p.N+1→(az M i j).natAbs≤10^p.E k):
 (∀i j,i<p.m+1→j<p.N+1→(az s.rows i j).natAbs≤10^p.T k)∧s.den.natAbs≤10^p.T k:=by obtain ⟨U,ab⟩:=h.bound (FB (p.E k)) gq;have ay:=abg (k:=p.E k) hm;exact ⟨fun i j aa ae=>dN (U i j aa ae) ay,dN ab ay⟩
theorem p5 {x n:Nat}(h:x≤10^n):x<10^(n+1):=q5 h (Nat.pow_lt_pow_right aT (gN n))
theorem Im {x n:Nat}(h:x≤10^n):D (n+1) ((x:Nat):Rat):=by
 refine ⟨?_,?_⟩
 ·have:(((x:Nat):Rat)).num=(x:Int):=rfl;rw [this,k4];exact p5 h
 ·have:(((x:Nat):Rat)).den=1:=rfl;rw [this];exact gL (show 1<10^1 by decide) (fF aT (Nat.le_add_left 1 n))
theorem PG {P:Rat→Prop}{n:Nat}{β:List Nat}{f:Nat→Rat}{l:List Rat}(au: ∀q∈l,P q): ∀{K:Nat},(∀i,i<K→P (f i))→ ∀q∈iU n β f l K,P q
 |0,_,q,aB=>au q aB
 |K+1,aQ,q,aB=>by
  have U:=PG (n:=n) (β:=β) au (K:=K) (fun i aa=>aQ i J);rw [iU] at aB;split at aB
  ·rcases zk aB with h|h
   ·exact U q h
   ·rw [h];exact aQ K (gN K)
  ·exact U q aB
theorem DB (n:Nat):D (n+1) 0:=Im (x:=0) (b7 _)
theorem Nb (n:Nat):D (n+1) 1:=Im (x:=1) (FB n)
theorem XN {M:cB}{s:cq}(h:Inv p.m p.N M s)(hm:p.m+1≤40)(gq: ∀i j,i<p.m+1→j<p.N+1→(az M i j).natAbs≤10^p.E k): ∀q∈mA p s,D (p.T k+1) q:=by obtain ⟨U,ab⟩:=xa h hm gq;have hd:=h.gp;refine PG (fun q aB=> ?_) (fun i aa=>xd J (p5 (U i p.N J (gN _))) (p5 ab));rw [G2 aB];exact DB _
theorem aiH {M:cB}{s:cq}(h:Inv p.m p.N M s)(hm:p.m+1≤40)(gq: ∀i j,i<p.m+1→j<p.N+1→(az M i j).natAbs≤10^p.E k){c:Nat}(aw:c<p.N): ∀q∈pq p s c,D (p.T k+1) q:=by
 obtain ⟨U,ab⟩:=xa h hm gq;have hd:=h.gp;have aU: ∀q∈List.replicate p.n (0:Rat),D (p.T k+1) q:=fun q aB=>by rw [G2 aB];exact DB _
 refine PG (fun q aB=> ?_) (fun i aa=>xd J (by rw [se];exact p5 (U i c J J)) (p5 ab));unfold lS at aB;split at aB
 ·rcases zk aB with aS|aS
  ·exact aU q aS
  ·rw [aS];exact Nb _
 ·exact aU q aB
theorem Uj {M:cB}{s:cq}(aF:p.hW)(an:p.s8 k)(h:Inv p.m p.N M s)(hm:p.m+1≤40)(gq: ∀i j,i<p.m+1→j<p.N+1→(az M i j).natAbs≤10^p.E k){f:Nat}(zO:0<f)(aQ:f≤10^(k*p.n)): ∀q∈lI p s (s.den*(f:Nat)),D (p.W k) q:=by
 obtain ⟨U,ab⟩:=xa h hm gq;have hd:=h.gp;intro q aB;obtain ⟨i,aa,rfl⟩:=cO.1 aB;have aa:i<p.m:=by simpa using aa
 have fy:s.den*(f:Nat)≠0:=by have:=Int.mul_pos hd (show (0:Int)<((f:Nat):Int) by omega);omega
 have hw:=nQ p;have Et:(s.den*(f:Nat)).natAbs≤10^(p.T k+k*p.n):=by rw [kh,k4,iI];exact jT ab aQ
 have gy:D (p.T k+k*p.n+1) (Rat.divInt (az s.rows p.m (p.n+i)) (s.den*(f:Nat))):=
  xd fy (p5 (dN (U p.m (p.n+i) (gN _) J) (fF aT (n0 _ _)))) (p5 Et)
 refine (gy.mul (Im (an.Lm i aa))).mono ?_;unfold Prog.W;have:k*p.n≤k*(p.n+1):=hz k (Nat.le_succ p.n);omega
theorem akJ {M:cB}{s:cq}(h:Inv p.m p.N M s)(hm:p.m+1≤40)(gq: ∀i j,i<p.m+1→j<p.N+1→(az M i j).natAbs≤10^p.E k){f:Nat}(zO:0<f)(aQ:f≤10^(k*p.n)):D (p.W k) (Rat.divInt (az s.rows p.m p.N) (s.den*(f:Nat))):=by
 obtain ⟨U,ab⟩:=xa h hm gq;have hd:=h.gp;have fy:s.den*(f:Nat)≠0:=by have:=Int.mul_pos hd (show (0:Int)<((f:Nat):Int) by omega);omega
 have Et:(s.den*(f:Nat)).natAbs≤10^(p.T k+k*p.n):=by rw [kh,k4,iI];exact jT ab aQ
 have gy:D (p.T k+k*p.n+1) (Rat.divInt (az s.rows p.m p.N) (s.den*(f:Nat))):=
  xd fy (p5 (dN (U p.m p.N (gN _) (gN _)) (fF aT (n0 _ _)))) (p5 Et)
 refine gy.mono ?_;unfold Prog.W;have:k*p.n≤k*(p.n+1):=hz k (Nat.le_succ p.n);omega
theorem aiX (aF:p.hW)(an:p.s8 k)(hm:p.m+1≤40){K L:Nat}(av:zd p K L):
 (∀q∈(hy p K L).X,D (p.W k) q)∧(∀q∈(hy p K L).Y,D (p.W k) q)∧(∀q∈(hy p K L).R,D (p.W k) q)∧D (p.W k) (hy p K L).V:=by
 have Hs:p.T k+1≤p.W k:=by unfold Prog.W;omega
 have aU:D (p.W k) 0:=(DB (p.T k)).mono Hs;have HR: ∀q∈([]:List Rat),D (p.W k) q:=fun q aB=>by simp at aB
 unfold hy;by_cases h:0<p.a∧az (gw p K).rows p.m p.N<0
 ·rw [aA h];obtain ⟨U,ab⟩:=CR p aF K;have ay:=Uj aF an U hm (P1 aF an) (f:=1) aT (FB _);have e:(gw p K).den*((1:Nat):Int)=(gw p K).den:=J;rw [e] at ay;exact ⟨HR,ay,HR,aU⟩
 ·rw [ax h];obtain ⟨U,ab,ay⟩:=O0 p aF K L (Pz aF h);by_cases bf:gT p.m (p.n+p.m) (jQ p K L)<p.n+p.m
  ·rw [aA bf];exact ⟨fun q aB=>(XN U hm (yS aF an) q aB).mono Hs,HR,fun q aB=>(aiH U hm (yS aF an) (gL bf (nQ p)) q aB).mono Hs,aU⟩
  ·rw [ax bf];exact ⟨fun q aB=>(XN U hm (yS aF an) q aB).mono Hs,Uj aF an U hm (yS aF an) (Dv p) an.cG,HR,akJ U hm (yS aF an) (Dv p) an.cG⟩
theorem ajP (aF:p.hW)(aI:3≤p.n){B K:Nat}(Ho:0<B)(ck:B≤10^K)(dH:K≤1441)(hl: ∀r∈p.A,∀q∈r,q.den∣B∧q.num.natAbs≤10^26*q.den)(al: ∀q∈p.B,q.den∣B∧q.num.natAbs≤10^26*q.den)(ed: ∀q∈p.C,q.den∣1∧q.num.natAbs≤10^26*q.den):p.s8 400:=by
 have key: ∀(l:List Rat) (B f:Nat),f∣B→(∀q∈l,q.den∣B)→hV f l∣B:=by
  intro l;induction l with
  |nil=>intro B f aQ _;exact aQ
  |cons q r ba=>
   intro B f aQ h;refine ba B _ ?_ (fun x ar=>h x (vP _ ar));have e:f*(q.den/Nat.gcd f q.den)=Nat.lcm f q.den:=by rw [Nat.lcm,Nat.mul_div_assoc _ (DY f q.den)]
   rw [e];exact Nat.lcm_dvd aQ (h q (xx ..))
 have Q6: ∀(l:List Rat) (B:Nat),0<B→(∀q∈l,q.den∣B∧q.num.natAbs≤10^26*q.den)→ ∀x∈hS l,x.natAbs≤10^26*B:=by intro l B aU h x ar;obtain ⟨q,aB,rfl⟩:=cO.1 ar;obtain ⟨U,ab⟩:=h q aB;rw [kh,k4];have ay:=Br aU (key l B 1 (Nat.one_dvd _) (fun q aB=>(h q aB).1));have bf:=er (hV 1 l/q.den) ab;rw [kH] at bf;refine dN bf (hz _ (dN (Nat.mul_div_le _ _) ay))
 have BO: ∀i,i<p.m→ ∀q∈p.full i,q.den∣B∧q.num.natAbs≤10^26*q.den:=fun i aa q aB=>by
  rcases gM.1 aB with h|h
  ·exact hl _ (dt [] (by rw [aF.rows];exact aa)) q h
  ·rw [hI.1 h];exact al _ (dt 0 aa)
 have dJ:10^26*10^K≤10^p.E 400:=by rw [←iI];exact fF aT (by unfold Prog.E;omega)
 refine ⟨fun i j aa ae=> ?_,fun j ae=> ?_,fun i aa=> ?_,?_⟩
 ·refine dN (Q6 _ B Ho (BO i aa) _ (dt 0 (by show j<(hS (p.full i)).length;rw [Jg,JI p aF aa];exact ae))) (dN (hz _ ck) dJ)
 ·refine dN (Q6 _ 1 Nat.one_pos ed _ (dt 0 (by rw [Jg];exact ae))) (dN (hz _ (lW aT)) dJ)
 ·refine dN (Br Ho (key _ B 1 (Nat.one_dvd _) (fun q aB=>(BO i aa q aB).1))) (dN ck (fF aT J))
 ·exact dN (Br Nat.one_pos (key _ 1 1 (Nat.one_dvd _) (fun q aB=>(ed q aB).1))) (lW aT)
end
end Go.aj.c0
namespace Go.aj.c0
open Go.aj.dZ Go.aj.cX Go.aj.dn
theorem Ky {f g:Nat→Rat}: ∀{n:Nat},(∀i,i<n→f i≤g i)→b3 f n≤b3 g n
 |0,_=>Rat.le_refl
 |n+1,h=>by have U:=Ky (n:=n) (fun i aa=>h i J);have ab:=h n (gN n);show b3 f n+f n≤b3 g n+g n;grind
theorem Pm (f:Nat→Rat)(n:Nat):b3 (fun i=> -(f i)) n= -(b3 f n):=by have h:=tS (-1) f n;have e:b3 (fun i=> -(f i)) n=b3 (fun i=> -1*f i) n:=e4 (fun i _=>by grind);rw [e,h];grind
section
variable {p:Prog}
theorem Pt {a b c:Rat}(aw:0≤c)(h:a≤b):a*c≤b*c:=Rat.mul_le_mul_of_nonneg_right h aw
end
section
variable {p:Prog}
end
end Go.aj.c0
namespace Go.aj.c0
open Go.aj.dZ Go.aj.cX Go.aj.dn
structure Be where
 A:List (List di)
 B:List di
 C:List di
def Be.prog (P:Be):Prog:=⟨lf P.A,P.B.map cE,P.C.map cE⟩
def agK (P:Be)(k x y r:Nat):Prop:=x=(if k=1 then 0 else P.C.length)∧y=(if k=2 then 0 else P.B.length)∧r=(if k=2 then P.C.length else 0)
instance (P:Be)(k x y r:Nat):Decidable (agK P k x y r):=inferInstanceAs (Decidable (_∧_))
section
variable {P:Be}
end
end Go.aj.c0
namespace Go.aj.c0
open Go.aj.dZ Go.aj.cX Go.aj.dn
section
variable {P:Be}
end
end Go.aj.c0
namespace Go.aj
variable [bA]
open Go.RowKit
end Go.aj
namespace Go.aj
variable [bA]
open Go.RowKit
def Ug (all:Array Oper)(listed:Array Bool)(idx:List Nat)(j:Nat):Bool:=match all[j]? with
 |some o=>o.after.toList.any (fun e=>Region.binds .any e && (!idx.contains e.on && !listed.getD e.on true))
 |none=>false
def Tw (all:Array Oper)(listed:Array Bool)(idx:List Nat)(sA:List Nat):Bool:=
 (idx.all fun i=> !listed.getD i true && (match all[i]? with
  |some o=>(match o.dst with|some d=> !sA.contains d|none=>false) && o.after.toList.all (fun e=> !Region.binds .any e||(Nat.blt e.on i && (idx.contains e.on||listed.getD e.on false)))
  |none=>false)) &&
 ((List.range all.size).all fun j=>idx.contains j||listed.getD j true||idx.all (fun i=>KR all idx (idx.length+1) j i)||Ug all listed idx j) &&
 (idx.all fun i=>idx.all fun j=>Nat.beq i j|| !(match all[i]?,all[j]? with|some o,some o'=>o.dst==o'.dst|_,_=>false))
section
variable {P:Program}{fn:Func}{c:Ctx}{fr:Fr}{H:aZ}{k:List eF}
theorem eK {all:Array Oper}{fuel:Nat}{listed Ce:Array Bool}(idx:List Nat)(eV:Fr)(dH:jb fr eV)(EN:Tw all listed idx (eV.map (·.1))=true)(l1:idx.Nodup)(hd:p2 fn.ntmps all.toList=true)(au:AM listed idx=Ce)(h:mF P fn c H all eV idx [] (fun st=>aj P fn c (.any all fuel Ce k) (st.map (·.2)++eV) H)):aj P fn c (.any all (fuel+idx.length) listed k) fr H:=by
 obtain ⟨st,dG,sv,dS⟩:=Ur h (fun s av=>by simp at av);rw [th,k2] at sv;clear h;unfold Tw at EN;simp only [eb] at EN;obtain ⟨⟨yf,Tu⟩,Tv⟩:=EN;rw [qh] at yf Tu Tv;have eH: ∀i,i∈idx↔ ∃s∈st,s.1=i:=fun i=>by
  have:i∈idx.reverse↔ ∃s∈st,s.1=i:=by rw [←sv];simp
  rw [←this,List.mem_reverse]
 have hlen:st.length=idx.length:=by have:=congrArg List.length sv;simpa using this
 have Sy:(st.map (·.1)).Nodup:=by rw [sv];exact (List.reverse_perm idx).nodup_iff.2 l1
 have bD: ∀i∈idx,i<listed.size:=fun i aa=>by
  have:=yf i aa;simp only [eb,xL] at this;rcases gz i listed.size with q|q
  ·exact q
  ·have U:=this.1;simp only [Array.getD,show¬i<listed.size by omega,dite_false] at U;cases U
 --the induction
 have key: ∀(m:Nat) (cur:Array Bool) (fr:Fr),cur.size=listed.size→(∀j,j∉idx→cur[j]? =listed[j]?)→Fg cur st=m→(∀s∈st,cur.getD s.1 true=true→look s.2.1 fr=some s.2.2)→jb fr eV→(∀kp∈idx,cur.getD kp true=true→ ∀o,all[kp]? =some o→ ∀e∈o.after,Region.binds .any e=true→cur.getD e.on false=true)→aj P fn c (.any all (fuel+m) cur k) fr H:=by
  intro m;induction m with
  |zero=>
   intro cur fr pH BK pG Hz pJ hn;have gO: ∀s∈st,cur.getD s.1 true=true:=fun s av=>by
    cases aB:cur.getD s.1 true with
    |true=>rfl
    |false=>
     exfalso;have aU:st.filter (fun s=> !cur.getD s.1 true)=[]:=uu.1 pG;have:s∈st.filter (fun s=> !cur.getD s.1 true):=vQ.2 ⟨av,by rw [aB];rfl⟩;rw [aU] at this;simp at this
   have jf:cur=Ce:=by
    rw [←au];apply Array.ext_getElem?;intro j;rcases gz j listed.size with q|q
    ·rw [Up idx listed j q];by_cases ae:j∈idx
     ·rw [aA ae];obtain ⟨s,pM,qw⟩:=(eH j).1 ae;have:=gO s pM;rw [qw] at this;simp only [Array.getD,show j<cur.size by omega,vL] at this;rw [Array.getElem?_eq_getElem J];exact congrArg some this
     ·rw [ax ae];exact BK j ae
    ·rw [Array.getElem?_eq_none J,Array.getElem?_eq_none (by rw [Uo];omega)]
   subst jf;intro w a σ S ad;refine dG w a σ S (ad.weaken (IL fun p aF=> ?_));rcases gM.1 aF with q|q
   ·obtain ⟨s,bS,bY⟩:=cO.1 q;rw [←bY];exact Hz s bS (gO s bS)
   ·exact IM pJ p q
  |succ m ba=>
   intro cur fr pH BK pG Hz pJ hn
   --some step is left
   obtain ⟨ll,B6,Mv⟩: ∃s∈st,cur.getD s.1 true=false:=by
    rcases aB:st.filter (fun s=> !cur.getD s.1 true) with _|⟨s,r⟩
    ·unfold Fg at pG;rw [aB] at pG;simp at pG
    ·have:s∈st.filter (fun s=> !cur.getD s.1 true):=by rw [aB];simp
     obtain ⟨U,ab⟩:=vQ.1 this;exact ⟨s,U,by simpa using ab⟩
   have iW: ∀i∈Region.ready .any all cur,i∈idx∧cur.getD i true=false:=by
    intro i aa;obtain ⟨U,o,ah,Eu⟩:=mem_ready.1 aa;refine ⟨?_,U⟩;apply G0;intro BZ;have aet:i<all.size:=(Array.getElem?_eq_some_iff.1 ah).1;have:=Tu i (xw.2 aet);simp only [vT,ah] at this;rcases this with ((q|q)|q)|q
    ·exact BZ (by simpa using q)
    ·have LR:=BK i BZ;have ab:listed.getD i true=cur.getD i true:=by simp only [zt,LR]
     rw [ab,U] at q;cases q
    ·rw [qh] at q;have ay:=UH hn _ i ll.1 (q ll.1 ((eH ll.1).2 ⟨ll,B6,rfl⟩)) (fun o' cP e he al=>by
      rw [ah] at cP;obtain rfl:=oG cP;exact Eu e he al)
     rw [ay] at Mv;cases Mv
    ·unfold Ug at q;rw [ah] at q;obtain ⟨e,Ew,km⟩:=sc.1 q;simp only [eb,xL] at km;obtain ⟨al,cd,jZ⟩:=km;have aeT:e.on∉idx:=fun q=>by
      have:idx.contains e.on=true:=by simpa using q
      rw [this] at cd;cases cd
     have jg:=Eu e (Bo.1 Ew) al;have LR:=BK e.on aeT;rw [zt] at jg jZ;rw [LR] at jg;cases ar:listed[e.on]? with
     |none=>rw [ar] at jg;cases jg
     |some b=>
      rw [ar] at jg jZ;have aH:b=true:=jg;have aJ:b=false:=jZ;rw [aH] at aJ;cases aJ
   have cd:Region.ready .any all cur≠[]:=by
    intro aU
    --the least one that is left
    have hex: ∃i,i∈idx∧cur.getD i true=false:=⟨ll.1,(eH ll.1).2 ⟨ll,B6,rfl⟩,Mv⟩
    have least: ∀n i,i≤n→i∈idx→cur.getD i true=false→False:=by
     intro n;induction n with
     |zero=>
      intro i aa mU EB;have U:=yf i mU;simp only [eb] at U;cases zW:all[i]? with
      |none=>rw [zW] at U;exact absurd U.2 bX
      |some o=>
       rw [zW] at U;simp only [eb] at U;have ab:=qh.1 U.2.2;have:i∈Region.ready .any all cur:=mem_ready.2 ⟨EB,o,zW,fun e he al=>by
        have:=ab e (Bo.2 he);rw [al] at this;simp only [Bool.not_true,Bq,eb] at this;have:=iv this.1;omega⟩
       rw [aU] at this;simp at this
     |succ n age=>
      intro i aa mU EB;have U:=yf i mU;simp only [eb] at U;cases zW:all[i]? with
      |none=>rw [zW] at U;exact absurd U.2 bX
      |some o=>
       rw [zW] at U;simp only [eb] at U;have ab:=qh.1 U.2.2;have:i∈Region.ready .any all cur:=mem_ready.2 ⟨EB,o,zW,fun e he al=>by
        have ay:=ab e (Bo.2 he);rw [al] at ay;simp only [Bool.not_true,Bq,eb,vT] at ay;have xW:e.on<i:=iv ay.1;by_cases HC:e.on∈idx
        ·cases aB:cur.getD e.on true with
         |false=>exact (age e.on J HC aB).elim
         |true=>
          have cz:=bD e.on HC;simp only [Array.getD,show e.on<cur.size by omega,vL] at aB⊢;exact aB
        ·rcases ay.2 with q|q
         ·exact absurd (by simpa using q) HC
         ·have ab:cur.getD e.on false=listed.getD e.on false:=by simp only [zt,BK e.on HC]
          rw [ab];exact q⟩
       rw [aU] at this;simp at this
    obtain ⟨i,wh,ko⟩:=hex;exact least i i (bT _) wh ko
   refine tJ I cd hd (UR (fun i aa o ah=> ?_));obtain ⟨mU,EB⟩:=iW i aa;obtain ⟨s,pM,qw⟩:=(eH i).1 mU;obtain ⟨o',K,g1,g2,g3,g4⟩:=dS s pM;rw [qw,ah] at g1;obtain rfl:=oG g1;obtain ⟨_,o2,HS,Eu⟩:=mem_ready.1 aa;rw [ah] at HS;obtain rfl:=oG HS;refine g3 _ fr (IL fun p aF=> ?_) (cR (lJ ?_))
   ·rcases g4 p aF with q|⟨cy,bS,⟨e,bY,db,dP⟩,gZ⟩
    ·exact IM pJ p q
    ·have U:=Eu e bY db;rw [dP] at U;rw [←gZ];refine Hz cy bS ?_;have cz:=bD cy.1 ((eH cy.1).2 ⟨cy,bS,rfl⟩);simp only [Array.getD,show cy.1<cur.size by omega,vL] at U⊢;exact U
   ·have aqK:=bD i mU;refine ba (cur.setIfInBounds i true) _ (by simpa using pH) (fun j ae=> ?_) ?_ (fun cy gY hu=> ?_) ?_ (alF mU hn (fun o' cP e he al=>by rw [ah] at cP;obtain rfl:=oG cP;exact Eu e he al))
    ·rw [Array.getElem?_setIfInBounds_ne (show i≠j from fun e=>ae (e▸mU))];exact BK j ae
    ·--one less
     have aQ:st.filter (fun cy=> !(cur.setIfInBounds i true).getD cy.1 true)=(st.filter (fun cy=> !cur.getD cy.1 true)).filter (fun cy=>decide (cy.1≠i)):=by
      rw [List.filter_filter];congr 1;funext cy;by_cases aB:cy.1=i
      ·rw [aB];simp [Array.getD,show i<cur.size by omega]
      ·have x1: ¬i=cy.1:=fun e=>aB e.symm;simp [zt,Bh,aB,x1]
     unfold Fg at pG⊢;rw [aQ];have Mj:s∈st.filter (fun cy=> !cur.getD cy.1 true):=vQ.2 ⟨pM,by rw [qw,EB];rfl⟩;have Mo:((st.filter (fun cy=> !cur.getD cy.1 true)).map (·.1)).Nodup:=List.Nodup.sublist (List.Sublist.map _ List.filter_sublist) Sy
     revert pG Mj Mo
     generalize st.filter (fun cy=> !cur.getD cy.1 true)=L;intro pG Mj Mo;have gen: ∀(L:Steps) (n:Nat),L.length=n+1→s∈L→(L.map (·.1)).Nodup→(L.filter (fun cy=>decide (cy.1≠i))).length=n:=by
      intro L;induction L with
      |nil=>intro n h;simp at h
      |cons x r MS=>
       intro n aI hm l1;simp only [k6,xG] at l1;rcases fS.1 hm with rfl|hm
       ·have fU: ∀y∈r,y.1≠i:=fun y a1 e=>l1.1 (cO.2 ⟨y,a1,by rw [e,qw]⟩);have:(r.filter (fun cy=>decide (cy.1≠i)))=r:=List.filter_eq_self.2 (fun y a1=>by simpa using fU y a1);rw [List.filter_cons_of_neg (by simp [qw]),this];simpa using aI
       ·have ar:x.1≠i:=fun e=>l1.1 (cO.2 ⟨s,hm,by rw [qw,e]⟩);have HV:0<r.length:=zu.2 (by rintro rfl;simp at hm);obtain ⟨E9,rfl⟩: ∃E9,n=E9+1:=⟨n-1,by simp at aI;omega⟩
        rw [List.filter_cons_of_pos (by simpa using ar),gK,MS E9 (by simpa using aI) hm l1.2]
     exact gen L m pG Mj Mo
    ·by_cases aB:cy.1=i
     ·have:cy=s:=by
       have U:s∈st:=pM;have aeq: ∀(L:Steps),(L.map (·.1)).Nodup→ ∀x∈L,∀y∈L,x.1=y.1→x=y:=by
        intro L;induction L with
        |nil=>intro _ x ar;simp at ar
        |cons z r MS=>
         intro l1 x ar y a1 ML;simp only [k6,xG] at l1;rcases fS.1 ar with ar|ar<;>rcases fS.1 a1 with a1|a1
         ·rw [ar,a1]
         ·exact absurd (cO.2 ⟨y,a1,by rw [←ML,ar]⟩) l1.1
         ·exact absurd (cO.2 ⟨x,ar,by rw [ML,a1]⟩) l1.1
         ·exact MS l1.2 x ar y a1 ML
       exact aeq st Sy cy gY s pM (by rw [aB,qw])
      rw [this];exact US _ _ _
     ·have U:cur.getD cy.1 true=true:=by have x1: ¬i=cy.1:=fun e=>aB e.symm;simpa [zt,Bh,x1] using hu
      have ab:=Hz cy gY U
      --another slot
      have aeQ:cy.2.1≠s.2.1:=by
       intro e;obtain ⟨qC,_,f1,f2,_,_⟩:=dS cy gY;have ay:=qh.1 (Tv cy.1 ((eH cy.1).2 ⟨cy,gY,rfl⟩)) i mU;rw [f1,ah] at ay;simp only [vT,xL,f2,g2] at ay;rcases ay with ay|ay
       ·exact aB (pC ay)
       ·rw [e] at ay;simp at ay
      show (bif Nat.beq cy.2.1 s.2.1 then some s.2.2 else look cy.2.1 fr)=_;rw [dv aeQ];exact ab
    ·refine IL fun p aF=> ?_;have U:=yf i mU;simp only [eb] at U;rw [ah] at U;simp only [g2,eb,xL] at U;have aeR:p.1≠s.2.1:=by
      intro e;have:(eV.map (·.1)).contains s.2.1=true:=by rw [List.contains_iff_mem];exact cO.2 ⟨p,aF,e⟩
      rw [U.2.1] at this;cases this
     show (bif Nat.beq p.1 s.2.1 then some s.2.2 else look p.1 fr)=_;rw [dv aeR];exact IM pJ p aF
 have tx:Fg listed st=idx.length:=by unfold Fg;rw [List.filter_eq_self.2 (fun s av=> ?_),hlen];have:=yf s.1 ((eH s.1).2 ⟨s,av,rfl⟩);simp only [eb] at this;exact this.1
 have:=key idx.length listed fr rfl (fun _ _=>rfl) tx (fun s av hu=>by
  have U:=yf s.1 ((eH s.1).2 ⟨s,av,rfl⟩);simp only [eb,xL] at U;rw [U.1] at hu;cases hu) dH (fun kp xX hu=>by
  have U:=yf kp xX;simp only [eb,xL] at U;rw [U.1] at hu;cases hu)
 exact this
end
end Go.aj
namespace Go.aj.cX
open Go.aj.dn Go.aj.dZ
def dF {α:Type}(g:Nat→α)(d:α)(x:List α)(k:Nat):List α:=(List.range x.length).map (fun j=>if j<k then g j else x.getD j d)
theorem qP {α:Type}(g:Nat→α)(d:α)(x:List α)(k:Nat):(dF g d x k).length=x.length:=by simp [dF]
theorem vj {α:Type}(g:Nat→α)(d:α)(x:List α):dF g d x 0=x:=by apply jS (qP _ _ _ _);intro i U ab;simp [dF,List.getD,ab]
theorem rF {α:Type}(g:Nat→α)(d:α)(x:List α){k i:Nat}(aa:i<x.length):(dF g d x k).getD i d=if i<k then g i else x.getD i d:=by unfold dF;rw [mY _ _ 0 _ _ (by simpa using aa)];simp [List.getD,aa]
theorem tW {α:Type}(g:Nat→α)(d:α)(x:List α){k:Nat}(an:k<x.length):(dF g d x k).set k (g k)=dF g d x (k+1):=by
 apply jS (by simp [dF]);intro i U ab;have aa:i<x.length:=by simpa [dF] using ab
 have aH:=rF g d x (k:=k+1) aa;rw [eo d ab] at aH;rw [aH,xF];by_cases rh:k=i
 ·subst rh;simp
 ·have aJ:=rF g d x (k:=k) aa;rw [eo d (by rw [qP];exact aa)] at aJ;rw [ax rh,aJ];by_cases ay:i<k
  ·rw [aA ay,aA J]
  ·rw [ax ay,ax J]
theorem w9 {α:Type}(g:Nat→α)(d:α)(x:List α):dF g d x x.length=(List.range x.length).map g:=by unfold dF;refine k5 (fun j ae=> ?_);rw [aA (by simpa using ae)]
theorem aaC {α:Type}(g:Nat→α)(d:α)(x:List α){k:Nat}(an:k<x.length)(h:g k=x.getD k d):dF g d x (k+1)=dF g d x k:=by
 rw [←tW g d x an,h];apply jS (by simp [dF]);intro i U ab;rw [xF];split
 ·rename_i e;subst e;have aJ:=rF g d x (k:=k) an;rw [ax (oI k)] at aJ;rw [←eo d ab,aJ]
 ·rfl
structure Perm (n:Nat)(QG:List Nat)(X:cB):Prop where
 len:QG.length=n
 arh:X.length=n
 eX:QG.Nodup
 lt: ∀a∈QG,a<n
def j6 (T:cB)(k c:Nat)(d:Int)(i:Nat):List Int:=if i=k then T.getD k [] else yT (T.getD i []) (T.getD k []) (az T k c) (az T i c) d
theorem O3 (T:cB)(k c:Nat)(d:Int):pg T k c d=dF (j6 T k c d) [] T T.length:=by rw [w9];rfl
def yk (R K:List Int)(p f d:Int)(j:Nat):Int:=qT (R.getD j 0*p-f*K.getD j 0) d
theorem aiU (R K:List Int)(p f d:Int):yT R K p f d=dF (yk R K p f d) 0 R R.length:=by rw [w9];rfl
end Go.aj.cX
namespace Go.aj.r7
open Go.aj.dn (Fp)
end Go.aj.r7
namespace Go.aj
variable [bA]
section
variable {P:Program}{fn:Func}{c:Ctx}{fr:Fr}{H:aZ}{k:List eF}
theorem Ji {x:Code}(h:Nat)(o:bl){bg:bl}(c':Cells)(aV:H[h]? =some (some bg))(ah:o.c.len=0)(U:c'.len=bg.c.len)(ab:c'.b8=bg.c.b8)(ay: ∀i j,i<bg.c.len→j<bg.c.aD→c'.at i j=bg.c.at i j∨(bg.c.at i j= .nil∧c'.at i j= .aC H.length 0 0))(an:aj P fn c (.code x k) fr ((H++[some o]).set h (some ⟨bg.ty,c'⟩))):aj P fn c (.code x k) fr H:=by
 intro w a σ S ad;have g1:=ad.ahq ah;have bD:h<H.length:=(hi.1 aV).1;have aej:(H++[some o])[h]? =some (some bg):=by rw [hQ bD];exact aV
 refine an w a _ S (g1.aiM aej U ab (fun i j v aa ae ai=> ?_));rcases ay i j aa ae with e|⟨aH,aJ⟩
 ·rw [e];exact ai
 ·rw [aH] at ai;rw [aJ];cases ai;exact .ih _ _ (by simp [cN])
end
end Go.aj
namespace Go.aj
variable [bA]
open Go.RowKit
section
variable {ind:Bool}{P:Program}{fn:Func}{c:Ctx}{fr:Fr}{H:aZ}{k:List eF}
variable {d:Option Nat}{ty:TypeId}{pos:String}{after:Array Edge}{g:Option (Nat×Bool)}
theorem N4 {x:Operand}{t:TypeId}{u:TypeDesc}{h i:Nat}{oX:TypeId}{ey:IntKind}{l:List Int}(bu:P.underlying t=some u)(hu:jn u=false)(ar:bG fr x=some (.ptr h i 0))(aV:H[h]? =some (some ⟨oX,.ints ey l⟩))(aa:i<l.length):
 b1 false P fn c fr H ⟨d,.load t x,ty,pos,after,g⟩ (.int ey (l.getD i 0)):=Fo bu hu ar aV aa
theorem Fl {x:Operand}{t:TypeId}{u:TypeDesc}{h i j:Nat}{oX:TypeId}{n s:Nat}{f:Nat→Nat→ak}(bu:P.underlying t=some u)(hu:jn u=false)(ar:bG fr x=some (.ptr h i j))(aV:H[h]? =some (some ⟨oX,.fn n s f⟩))(ae:Nat.blt j s=true)(aa:i<n):
 b1 false P fn c fr H ⟨d,.load t x,ty,pos,after,g⟩ (f i j):=Cx bu hu ar aV ae aa
end
end Go.aj
namespace Go.aj.c0
open Go.aj.dZ Go.aj.cX Go.aj.dn
def Fb:Option Nat→Int
 |none=> -1
 |some b=>(b:Int)
section
variable {T:cB}{β:List Nat}{c e k b:Nat}
theorem anu (h:az T k c≤0):jJ T β c e (k+1)=jJ T β c e k:=by
 rw [jJ];cases jJ T β c e k with
 |none=>show (if _ then _ else _)=_;rw [aA h]
 |some b=>show (if _ then _ else _)=_;rw [aA h]
theorem amk (h: ¬az T k c≤0)(au:jJ T β c e k=none):jJ T β c e (k+1)=some k:=by rw [jJ,au];show (if _ then _ else _)=_;rw [ax h]
theorem ant (h: ¬az T k c≤0)(au:jJ T β c e k=some b):jJ T β c e (k+1)=if AU T β c e k b then some k else some b:=by rw [jJ,au];show (if _ then _ else _)=_;rw [ax h]
end
theorem Xh (o:Option Nat):(Fb o<0)=(o=none):=by
 apply propext;cases o with
 |none=>exact ⟨fun _=>rfl,fun _=>by show (-1:Int)<0;omega⟩
 |some b=>exact ⟨fun h=>absurd h (by show¬(b:Int)<0;omega),fun h=>by cases h⟩
section
variable {m N w:Nat}{s:cq}
theorem Wr {k:Nat}(h:j9 m N w (gj m N w s k)=none): ∀j,gj m N w s (k+j)=gj m N w s k
 |0=>rfl
 |j+1=>by have e:=Wr h j;show (j9 m N w (gj m N w s (k+j))).getD (gj m N w s (k+j))=_;rw [e,h];rfl
theorem agk {k K:Nat}(h:j9 m N w (gj m N w s k)=none)(an:k≤K):gj m N w s K=gj m N w s k:=by
 obtain ⟨j,rfl⟩: ∃j,K=k+j:=⟨K-k,J⟩
 exact Wr h j
theorem aoL {k:Nat}{cy:cq}(h:j9 m N w (gj m N w s k)=some cy):gj m N w s (k+1)=cy:=by show (j9 m N w (gj m N w s k)).getD _=_;rw [h];rfl
def Cl (m w:Nat)(s:cq):Int:=if gT m w s=w then-1 else (gT m w s:Int)
theorem aoy (h:gT m w s=w):j9 m N w s=none:=by unfold j9;unfold gT at h;rw [aA h]
theorem aox (h:gT m w s≠w)(au:jJ s.rows s.basis (gT m w s) N m=none):j9 m N w s=none:=by unfold j9;unfold gT at h au;rw [ax h,au]
theorem ake (h:gT m w s≠w){r:Nat}(au:jJ s.rows s.basis (gT m w s) N m=some r):j9 m N w s=some (jD s r (gT m w s)):=by unfold j9;unfold gT at h au⊢;rw [ax h,au]
end
theorem ang {T:cB}{m f c:Nat}(h:az T m c<0):nb T m f c=c:=by
 cases f with
 |zero=>rfl
 |succ f=>rw [nb,aA h]
theorem abP {T:cB}{m f c:Nat}(h: ¬az T m c<0):nb T m (f+1) c=nb T m f (c+1):=by rw [nb,ax h]
theorem aht {T:cB}{i f c:Nat}(h:az T i c≠0):jj T i f c=c:=by
 cases f with
 |zero=>rfl
 |succ f=>rw [jj,aA h]
theorem ahs {T:cB}{i f c:Nat}(h: ¬az T i c≠0):jj T i (f+1) c=jj T i f (c+1):=by rw [jj,ax h]
def fH (m:Nat)(s:cq):cq:=⟨s.rows.take m,s.den,s.basis⟩
theorem yL {T:cB}{m i:Nat}(aa:i<m)(j:Nat):az (T.take m) i j=az T i j:=by unfold az;simp only [List.getD,py,aA aa]
theorem Wf {T:cB}{m i:Nat}(aa:i<m):(T.take m).getD i []=T.getD i []:=by simp only [List.getD,py,aA aa]
theorem anX {T:cB}{m r c:Nat}{d:Int}(ad:r<m)(hm:m≤T.length):pg (T.take m) r c d=(pg T r c d).take m:=by
 rw [O3,O3,w9,w9,←List.map_take,List.take_range,fc,hY hm];refine k5 (fun i aa=> ?_);have aa:i<m:=by simpa using aa
 unfold j6;rw [Wf ad,Wf aa,yL ad,yL aa]
theorem ahV {s:cq}{m r c:Nat}(ad:r<m)(hm:m≤s.rows.length):jD (fH m s) r c=fH m (jD s r c):=by
 unfold jD fH kZ;simp only [yL ad,anX ad hm];split
 ·rw [List.map_take]
 ·rfl
theorem Ts {T:cB}{m i:Nat}(aa:i<m): ∀f c,jj (T.take m) i f c=jj T i f c
 |0,c=>rfl
 |f+1,c=>by rw [jj,jj,yL aa,Ts aa f (c+1)]
theorem anV {s:cq}{m w k:Nat}(an:k<m)(hm:m≤s.rows.length):sH w (fH m s) k=fH m (sH w s k):=by
 unfold sH;rw [show (fH m s).basis=s.basis from rfl,show (fH m s).rows=s.rows.take m from rfl,Ts an];split
 ·rfl
 ·split
  ·rfl
  ·exact ahV an hm
theorem Js {s:cq}{w:Nat}: ∀k,(jm w s k).rows.length=s.rows.length
 |0=>rfl
 |k+1=>by
  rw [jm];unfold sH;split
  ·exact Js k
  ·split
   ·exact Js k
   ·show (kZ _ _ _ _).length=_;rw [PC];exact Js k
theorem N8 {s:cq}{m w:Nat}(hm:m≤s.rows.length): ∀k,k≤m→jm w (fH m s) k=fH m (jm w s k)
 |0,_=>rfl
 |k+1,an=>by rw [jm,jm,N8 hm k J];exact anV J (by rw [Js];exact hm)
def lQ (w N:Nat)(s:cq)(i:Nat):List Int:=(List.range (N+1)).map (fun j=> -(cb (fun q=>if w≤s.basis.getD q 0 then az s.rows q j else 0) i))
def jI (w a N:Nat)(s:cq)(m k:Nat):List Int:=(List.range (N+1)).map (fun j=>if w≤j∧j<w+k then 0 else (lQ w N s m).getD j 0)
def mi (k:Nat→Int)(N:Nat)(s:cq)(i:Nat):List Int:=(List.range (N+1)).map (fun j=>s.den*k j-cb (fun q=>k (s.basis.getD q 0)*az s.rows q j) i)
theorem Jp (w N:Nat)(s:cq)(i:Nat):(lQ w N s i).length=N+1:=by simp [lQ]
theorem Jr (k:Nat→Int)(N:Nat)(s:cq)(i:Nat):(mi k N s i).length=N+1:=by simp [mi]
theorem FE {w N:Nat}{s:cq}{i j:Nat}(ae:j<N+1):(lQ w N s i).getD j 0= -(cb (fun q=>if w≤s.basis.getD q 0 then az s.rows q j else 0) i):=pU ae
theorem Jq {k:Nat→Int}{N:Nat}{s:cq}{i j:Nat}(ae:j<N+1):(mi k N s i).getD j 0=s.den*k j-cb (fun q=>k (s.basis.getD q 0)*az s.rows q j) i:=pU ae
theorem amW {w N:Nat}{s:cq}{i:Nat}(h: ¬w≤s.basis.getD i 0):lQ w N s (i+1)=lQ w N s i:=by unfold lQ;refine k5 (fun j _=> ?_);show-(cb _ i+(if w≤s.basis.getD i 0 then az s.rows i j else 0))=_;rw [ax h];omega
theorem amV {w N:Nat}{s:cq}{i j:Nat}(h:w≤s.basis.getD i 0)(ae:j<N+1):(lQ w N s (i+1)).getD j 0=(lQ w N s i).getD j 0-az s.rows i j:=by rw [FE ae,FE ae];show-(cb _ i+(if w≤s.basis.getD i 0 then az s.rows i j else 0))=_;rw [aA h];omega
theorem amZ {k:Nat→Int}{N:Nat}{s:cq}{i:Nat}(h:k (s.basis.getD i 0)=0):mi k N s (i+1)=mi k N s i:=by unfold mi;refine k5 (fun j _=> ?_);show _-(cb _ i+k (s.basis.getD i 0)*az s.rows i j)=_;rw [h,mN];omega
theorem amY {k:Nat→Int}{N:Nat}{s:cq}{i j:Nat}(ae:j<N+1):(mi k N s (i+1)).getD j 0=(mi k N s i).getD j 0+ -(k (s.basis.getD i 0))*az s.rows i j:=by rw [Jq ae,Jq ae];show _-(cb _ i+k (s.basis.getD i 0)*az s.rows i j)=_;rw [uw];omega
theorem w0 {l hq:List Int}{n:Nat}(U:l.length=n)(ab:hq.length=n)(h: ∀j,j<n→l.getD j 0=hq.getD j 0):l=hq:=by apply jS J;intro j g1 g2;have:=h j J;rw [eo 0 g1,eo 0 g2] at this;exact this
theorem amX (w N:Nat)(s:cq):lQ w N s 0=List.replicate (N+1) 0:=by refine w0 (Jp ..) bX (fun j ae=> ?_);rw [FE ae];show-(0:Int)=_;simp [List.getD,ae]
theorem Re {l hq:List Int}{n:Nat}(U:l.length=n)(ab:hq.length=n):dF (fun j=>hq.getD j 0) 0 l n=hq:=by rw [←U,w9];refine w0 (n:=n) (by simp [U]) ab (fun j ae=> ?_);exact pU J
theorem Po {B:Nat}: ∀{n:Nat} {f:Nat→Int},(∀i,i<n→(f i).natAbs≤B)→(cb f n).natAbs≤n*B
 |0,f,_=>by rw [sb];exact bT 0
 |n+1,f,h=>by have U:=Po (n:=n) (f:=f) (fun i aa=>h i J);have ab:=h n (gN n);show (cb f n+f n).natAbs≤_;have ay:=Int.natAbs_add_le (cb f n) (f n);rw [Nat.succ_mul];omega
theorem ZW (p:Prog){k:Nat}(an:k<p.a): ∃i,i<p.m∧p.neg i=true∧e3 p.B i=k:=by
 have key: ∀n,k<e3 p.B n→ ∃i,i<n∧p.neg i=true∧e3 p.B i=k:=by
  intro n;induction n with
  |zero=>intro h;exact absurd h (gg k)
  |succ n ba=>
   intro h;by_cases aI:(p.B.getD n 0).num<0
   ·rw [Xb aI] at h;by_cases e:e3 p.B n=k
    ·exact ⟨n,J,by simpa using aI,e⟩
    ·obtain ⟨i,U,ab⟩:=ba J;exact ⟨i,J,ab⟩
   ·have e:e3 p.B (n+1)=e3 p.B n:=by show (eB _ _).length=_;rw [eB,ax aI]
    rw [e] at h;obtain ⟨i,U,ab⟩:=ba h;exact ⟨i,J,ab⟩
 exact key _ an
theorem amS (p:Prog)(i:Nat)(aa:i=p.a):jI (p.n+p.m) p.a p.N (fM p) p.m i=Df (hU p) p.m p.N (fM p):=by
 subst aa;have jy:p.N=p.n+p.m+p.a:=rfl;have hinv:=CV p;have hd:(fM p).den=1:=rfl;unfold jI Df;refine k5 (fun j ae=> ?_);have ae:j<p.N+1:=by simpa using ae
 rw [FE ae,hd,nr];have an: ∀q,q<p.m→(if p.n+p.m≤(fM p).basis.getD q 0 then az (fM p).rows q j else 0)=hU p ((fM p).basis.getD q 0)*az (fM p).rows q j:=by
  intro q aB;have:=hinv.sg q aB;unfold hU;by_cases h:p.n+p.m≤(fM p).basis.getD q 0
  ·rw [aA h,aA ⟨h,this⟩,nr]
  ·rw [ax h,ax (fun e=>h e.1),mN]
 rw [hs an];by_cases h:p.n+p.m≤j∧j<p.n+p.m+p.a
 ·rw [aA h];obtain ⟨k,rfl⟩: ∃k,j=p.n+p.m+k:=⟨j-(p.n+p.m),J⟩
  have BT:k<p.a:=J;have U:hU p (p.n+p.m+k)=1:=by unfold hU;rw [aA J]
  rw [U]
  --the row of this artificial unknown
  obtain ⟨i,aa,kM,rh⟩:=ZW p BT;have al:(fM p).basis.getD i 0=p.n+p.m+k:=by show (jL p).getD i 0=_;rw [Je p aa,aA kM,rh]
  have hu: ∀q,q<p.m→az (fM p).rows q (p.n+p.m+k)=if q=i then 1 else 0:=by intro q aB;have:=hinv.unit q i J aa;rw [al,hd] at this;exact this
  rw [yR i aa (fun q aB cd=>by rw [hu q aB,ax cd,hR]),hu i aa,aA rfl,al,U];rfl
 ·rw [ax h];have:hU p j=0:=by unfold hU;rw [ax J]
  rw [this];omega
theorem amz (T:cB)(L oB:List Int):kT (T++[L]) T.length oB=T++[oB]:=by unfold kT;rw [List.take_left]
theorem ahQ (p:Prog):(Al p).rows=iD p++[Df (hU p) p.m p.N (fM p)]:=by show kT (iD p++[_]) p.m _=_;rw [←wY p];exact amz _ _ _
theorem OR (p:Prog):fH p.m (fM p)=⟨iD p,1,jL p⟩:=by show (⟨(iD p++[_]).take p.m,1,jL p⟩:cq)=_;rw [←wY p,List.take_left]
theorem agU (p:Prog)(K:Nat)(h:p.a=0):fH p.m (hD p K)=⟨iD p,1,jL p⟩:=by unfold hD;rw [aA h];exact OR p
theorem XK (p:Prog)(aF:p.hW)(K:Nat)(h:p.a≠0):fH p.m (hD p K)=jm (p.n+p.m) (fH p.m (gw p K)) p.m:=by unfold hD;rw [ax h];refine (N8 ?_ p.m (bT _)).symm;rw [(CR p aF K).1.n];exact Nat.le_succ _
theorem ahR (p:Prog)(K:Nat):(uU p K).rows=(fH p.m (hD p K)).rows++[mi (e2 p) p.N (hD p K) p.m]:=rfl
theorem anU {k:Nat→Int}{N m i:Nat}{s:cq}(aa:i≤m):mi k N (fH m s) i=mi k N s i:=by unfold mi;refine k5 (fun j _=> ?_);show s.den*k j-cb (fun q=>k (s.basis.getD q 0)*az (s.rows.take m) q j) i=_;congr 1;refine hs (fun q aB=> ?_);rw [yL J]
theorem CE (w a N:Nat)(s:cq)(m k:Nat):(jI w a N s m k).length=N+1:=by simp [jI]
theorem N7 {w a N:Nat}{s:cq}{m k j:Nat}(ae:j<N+1):(jI w a N s m k).getD j 0=if w≤j∧j<w+k then 0 else (lQ w N s m).getD j 0:=pU ae
theorem ame (w a N:Nat)(s:cq)(m:Nat):jI w a N s m 0=lQ w N s m:=by refine w0 (CE ..) (Jp ..) (fun j ae=> ?_);rw [N7 ae,ax J]
theorem amU {w a N:Nat}{s:cq}{m k:Nat}(an:w+k<N+1):(jI w a N s m k).set (w+k) 0=jI w a N s m (k+1):=by
 refine w0 (by rw [dd];exact CE ..) (CE ..) (fun j ae=> ?_);rw [Go.aj.dZ.fO,N7 ae,N7 ae,CE];by_cases U:j=w+k
 ·rw [aA ⟨U,an⟩,aA J]
 ·rw [ax (fun q=>U q.1)];by_cases ab:w≤j∧j<w+k
  ·rw [aA ab,aA J]
  ·rw [ax ab,ax J]
theorem anR {w N E:Nat}{s:cq}{i j:Nat}(aa:i≤100)(h: ∀q,q<i→(az s.rows q j).natAbs≤10^E)(ae:j<N+1):((lQ w N s i).getD j 0).natAbs≤10^(E+2):=by
 rw [FE ae,se];have U:=Po (B:=10^E) (n:=i) (f:=fun q=>if w≤s.basis.getD q 0 then az s.rows q j else 0) (fun q aB=>by
  show (if w≤s.basis.getD q 0 then az s.rows q j else 0).natAbs≤_;split
  ·exact h q aB
  ·exact b7 _)
 refine dN U ?_;rw [iI,hj];exact hz _ aa
theorem anS {w N m i:Nat}{s:cq}(aa:i≤m):lQ w N (fH m s) i=lQ w N s i:=by unfold lQ;refine k5 (fun j _=> ?_);congr 1;refine hs (fun q aB=> ?_);show (if w≤s.basis.getD q 0 then az (s.rows.take m) q j else 0)=_;rw [yL J]
theorem amT {w a N m k:Nat}{s:cq}:jI w a N (fH m s) m k=jI w a N s m k:=by unfold jI;rw [anS (bT _)]
def ow (n N:Nat)(W:List Int):List Int:=(List.range (N+1)).map (fun j=>if j<n then W.getD j 0 else 0)
def pd (n m a:Nat)(W:List Int)(i:Nat):List Int:=(List.range (n+m+a+1)).map (xg n m a W i)
theorem JB (n N:Nat)(W:List Int):(ow n N W).length=N+1:=by simp [ow]
theorem yB (n m a:Nat)(W:List Int)(i:Nat):(pd n m a W i).length=n+m+a+1:=by simp [pd]
theorem anz {N:Nat}{W:List Int}:ow 0 N W=List.replicate (N+1) 0:=by refine w0 (JB ..) bX (fun j ae=> ?_);rw [show (ow 0 N W).getD j 0=0 from (pU ae).trans (ax (gg j))];simp [List.getD,ae]
theorem ahy {n m a i:Nat}{W:List Int}(aa:i<m):((ow n (n+m+a) W).set (n+i) 1).set (n+m+a) (W.getD n 0)=pd n m a W i:=by
 refine w0 (n:=n+m+a+1) (by rw [dd,dd];exact JB ..) (yB ..) (fun j ae=> ?_);rw [Go.aj.dZ.fO,Go.aj.dZ.fO,dd,JB,show (pd n m a W i).getD j 0=xg n m a W i j from pU ae,show (ow n (n+m+a) W).getD j 0=(if j<n then W.getD j 0 else 0) from pU ae];unfold xg;by_cases U:j=n+m+a
 ·rw [aA ⟨U,J⟩,ax J,ax J,aA U]
 ·rw [ax (fun q=>U q.1)];by_cases ab:j=n+i
  ·rw [aA ⟨ab,J⟩,ax J,aA ab]
  ·rw [ax (fun q=>ab q.1)];by_cases ay:j<n
   ·rw [aA ay,aA ay]
   ·rw [ax ay,ax ay,ax ab,ax U]
theorem ahi {n m a i:Nat}{W:List Int}:dF (fun j=> -((pd n m a W i).getD j 0)) 0 (pd n m a W i) (n+m+a+1)=(pd n m a W i).map (fun x=> -x):=by have e:=w9 (fun j=> -((pd n m a W i).getD j 0)) 0 (pd n m a W i);rw [yB] at e;rw [e];refine w0 (n:=n+m+a+1) bX (by rw [cr];exact yB ..) (fun j ae=> ?_);rw [show ((List.range (n+m+a+1)).map (fun j=> -((pd n m a W i).getD j 0))).getD j 0= -((pd n m a W i).getD j 0) from pU ae,mY _ _ 0 _ _ (by rw [yB];exact ae)]
theorem aiV {n m a i k:Nat}{W:List Int}(an:k<a):((pd n m a W i).map (fun x=> -x)).set (n+m+k) 1=vk n m a W i true k:=by
 refine w0 (n:=n+m+a+1) (by rw [dd,cr];exact yB ..) (by simp [vk]) (fun j ae=> ?_);rw [Go.aj.dZ.fO,cr,yB,show (vk n m a W i true k).getD j 0=yW n m a W i true k j from pU ae];unfold yW;rw [aA rfl];by_cases h:j=n+m+k
 ·rw [aA ⟨h,J⟩,aA h]
 ·rw [ax (fun q=>h q.1),ax h,mY _ _ 0 _ _ (by rw [yB];exact ae)];exact congrArg (fun x:Int=> -x) (pU ae)
theorem aiW {n m a i k:Nat}{W:List Int}:pd n m a W i=vk n m a W i false k:=rfl
theorem V0 {α:Type}(l:List α)(d:α){i:Nat}(aa:i<l.length):l.take (i+1)=l.take i++[l.getD i d]:=by rw [List.take_add_one,eo d aa];simp [aa]
end Go.aj.c0
namespace Go.aj
variable [bA]
open Go.RowKit
theorem ch.aba {P:Program}{f:FuncId}{args:List ak}{H:aZ}{fix:Nat→Prop}{K kE:ak→aZ→Prop}(aw:ch P f args H fix K)(dH: ∀r bK,K r bK→ ∃b5 H1,bK=b5++H1∧(∀h,fix h→h<b5.length)∧(∀(h:Nat) (o:bl),b5[h]? =some (some o)→fz b5.length o.c)∧hf b5.length r=true∧kE r b5):ch P f args H fix kE:=by
 refine ⟨aw.1,fun w σ S dD aU U ab ay=>Calls.mono (aw.2 w σ S dD aU U ab ay) fun e w' he=> ?_⟩;obtain ⟨v,r,bC,ca,bK,g1,g2,g3,g4,g5⟩:=he;obtain ⟨b5,H1,rfl,aQ,sq,LL,an⟩:=dH _ _ g5;have av: ∀h,h<b5.length→By b5.length bC h=bC h:=fun h au=>aA au;have lZ: ∀{h:Nat} {o:bl},b5[h]? =some (some o)→h<b5.length∧(b5++H1)[h]? =some (some o):=by intro h o ah;have au:h<b5.length:=(hi.1 ah).1;exact ⟨au,by rw [hQ au];exact ah⟩
 refine ⟨v,r,By b5.length bC,ca,b5,g1,⟨fun h o ah=> ?_,fun h aS o o' b s C cy cL bS bY aH aJ=> ?_,g2.small,fun h au=>ax J⟩,g3.sj LL _ av,⟨g4.os,g4.output,g4.tape,g4.size,g4.block,g4.hX,g4.e5,fun h aV=>by rw [av h (aQ h aV)];exact g4.fixed h aV,aQ,fun h o b s C q e=> ?_⟩,an⟩
 ·obtain ⟨au,cP⟩:=lZ ah;rw [av h au];rcases g2.live h o cP with g|⟨b,C,cur,ee,fg,gC,rp,tD,E6,MX⟩
  ·exact .inl g
  ·refine .inr ⟨b,C,cur,ee,fg.sj (fun ks vs aw=>(sq h o ah).mp aw) av,gC,rp,tD,E6,fun i j aa ae=> ?_⟩;obtain ⟨v,m1,m2,m3⟩:=MX i j aa ae;exact ⟨v,m1,m2.sj ((sq h o ah).row i j aa ae) _ av,m3⟩
 ·obtain ⟨au,ah⟩:=lZ bS;obtain ⟨ld,cP⟩:=lZ bY;rw [av h au] at aH;rw [av aS ld] at aJ;exact g2.hJ h aS o o' b s C cy cL ah cP aH aJ
 ·obtain ⟨au,ah⟩:=lZ q;rw [av h au] at e;exact g4.own h o b s C ah e
theorem Jh {P:Program}{fr:Fr}{H:aZ}{t h:Nat}{ty oX:TypeId}{l:List ak}{eW:Array Field}{i:TypeInfo}(au:look t fr=some (.ptr h 0 0))(aV:H[h]? =some (some ⟨oX,.box l⟩))(hu:P.underlying ty=some (.struct eW))(aa:P.info? ty=some i)(cz:Nat.beq i.size l.length=true):
 ue P fr H [.cell t ty]=some [.agg l]:=by have bZ:= ‹bA›;simp only [ue,GC,au,aV,hu,aa,cz];rfl
theorem TG {P:Program}{fn:Func}{c:Ctx}{H:aZ}{all:Array Oper}{eV:Fr}{i:Nat}{r:List Nat}{st:Steps}{G:Steps→Prop}{d:Nat}{g:Operand}{args:List Operand}{iJ:Array TypeId}{ty:TypeId}{pos:String}{after:Array Edge}{f:FuncId}{cw eh hh:List ak}{v:ak}{K:Fr}(aa:all[i]? =some ⟨some d,.call {callee:= .value g,args:=args.toArray,argTypes:=iJ},ty,pos,after,none⟩)(dH:ug st eV ⟨some d,.call {callee:= .value g,args:=args.toArray,argTypes:=iJ},ty,pos,after,none⟩=K)(c2:bG K g=some (.fn f cw))(a8:lD K args=some eh)(has:eh++cw=hh)(lY:ch P f hh H (fun h=>h<H.length) (fun dB bK=>dB=v∧bK=H))(h:mF P fn c H all eV r ((i,d,v)::st) G):mF P fn c H all eV (i::r) st G:=
 Ko aa (dH▸fun k fr an ab=>rC (JZ an c2) (OQ an a8) has lY (fun _ h=>h) (fun _ h=>h) (fun r bK e=>by obtain ⟨rfl,rfl⟩:=e;exact ab)) h
end Go.aj
namespace Go.aj
variable [bA]
open Go.RowKit
def Cf (σ:Nat→Option bQ)(U ab:Nat):Nat→Option bQ:=fun h=>if h=U then σ ab else σ h
def yd (H:aZ)(U ab:Nat)(o:bl):aZ:=((c7 U H).set U (some ⟨o.ty,o.c.forget U⟩)).set ab none
theorem Ge {H:aZ}{U ab:Nat}{o:bl}(cd:U≠ab)(wb:U<H.length){h:Nat}{o':bl}(aV:(yd H U ab o)[h]? =some (some o')):
 (h=U∧o'=⟨o.ty,o.c.forget U⟩)∨(h≠U∧h≠ab∧ ∃dp:bl,H[h]? =some (some dp)∧o'=⟨dp.ty,dp.c.forget U⟩):=by
 unfold yd at aV;by_cases aJ:h=ab
 ·exfalso;subst aJ;rw [DU] at aV;rw [aA rfl] at aV;split at aV<;>cases aV
 rw [lV (fun q=>aJ q.symm)] at aV;by_cases aH:h=U
 ·subst aH;rw [oH (by rw [va];exact wb)] at aV;cases aV;exact .inl ⟨I,I⟩
 ·rw [lV (fun q=>aH q.symm),I3] at aV;cases ar:H[h]? with
  |none=>rw [ar] at aV;cases aV
  |some x=>
   rw [ar] at aV;cases x with
   |none=>cases aV
   |some dp=>cases aV;exact .inr ⟨aH,aJ,dp,rfl,rfl⟩
theorem cc.move {c:Ctx}{w:World}{a:Act}{σ:Nat→Option bQ}{S:Nat→Prop}{n:Nat}{fr:Fr}{H:aZ}(ad:cc c w a σ S n fr H)(U ab t len:Nat){o:bl}(cd:U≠ab)(wb:U<H.length)(BE:H[ab]? =some (some o))(ss: ¬c.fix U)(au:look t fr=some (.aC ab 0 len)):cc c w a (Cf σ U ab) S n ((t,.aC U 0 len)::ou U fr) (yd H U ab o):=by
 have ai: ∀{x v},bz w S σ x v→bz w S (Cf σ U ab) (x.forget U) v:=fun h=>h.forget _ (fun aS q=>ax q);have s1:Cf σ U ab U=σ ab:=aA rfl;have s2: ∀h,h≠U→Cf σ U ab h=σ h:=fun h q=>ax q;have hlen:(yd H U ab o).length=H.length:=by unfold yd;rw [dd,dd,va]
 have key: ∀(h:Nat) (dp:bl),H[h]? =some (some dp)→((σ h=some .l5∧(dp.c.forget U).len=0)∨
  ∃b C cur,σ h=some (.at b (dp.c.forget U).aD C)∧Lays w S (Cf σ U ab) ⟨dp.ty,dp.c.forget U⟩ b cur C∧cur.size=C*(dp.c.forget U).aD∧C≤maxLen+1∧(dp.c.forget U).len≤C∧ ¬S b∧
  ∀i j,i<(dp.c.forget U).len→j<(dp.c.forget U).aD→ ∃v,cur[i*(dp.c.forget U).aD+j]? =some v∧bz w S (Cf σ U ab) ((dp.c.forget U).at i j) v∧v.oneCell'=true):=by
  intro h dp ri;rw [Cells.zA,Cells.Hj];rcases ad.ad.live h dp ri with g|⟨b,C,cur,g1,g2,g3,g4,g5,g6,g7⟩
  ·exact .inl g
  ·refine .inr ⟨b,C,cur,g1,g2.forget I ai,g3,g4,g5,g6,fun i j aa ae=> ?_⟩;obtain ⟨v,ee,fg,gC⟩:=g7 i j aa ae;exact ⟨v,ee,by rw [Cells.Hi _ _ _ _ ae];exact ai fg,gC⟩
 refine ⟨⟨fun h o' ah=> ?_,fun h aS o1 ark b s C cy cL bS bY aH aJ=> ?_,ad.ad.small,fun h ld=> ?_⟩,⟨ad.bj.os,ad.bj.output,ad.bj.tape,ad.bj.size,ad.bj.block,ad.bj.hX,ad.bj.e5,fun h aV=> ?_,fun h aV=> ?_,fun h o' b s C q e=> ?_⟩,ad.defers,ad.size,fun cF v ld=> ?_⟩
 ·rcases Ge cd wb ah with ⟨rfl,rfl⟩|⟨g1,g2,dp,g3,rfl⟩
  ·rw [s1];exact key ab o BE
  ·rw [s2 h g1];exact key h dp g3
 ·rcases Ge cd wb bS with ⟨rfl,rfl⟩|⟨g1,g2,dp,g3,rfl⟩
  ·rcases Ge cd wb bY with ⟨rfl,rfl⟩|⟨ee,fg,Na,gC,rfl⟩
   ·rfl
   ·rw [s1] at aH;rw [s2 aS ee] at aJ;exact absurd (ad.ad.hJ ab aS o Na b s C cy cL BE gC aH aJ) (fun q=>fg q.symm)
  ·rcases Ge cd wb bY with ⟨rfl,rfl⟩|⟨ee,fg,Na,gC,rfl⟩
   ·rw [s1] at aJ;rw [s2 h g1] at aH;exact absurd (ad.ad.hJ h ab dp o b s C cy cL g3 BE aH aJ) g2
   ·rw [s2 h g1] at aH;rw [s2 aS ee] at aJ;exact ad.ad.hJ h aS dp Na b s C cy cL g3 gC aH aJ
 ·rw [hlen] at ld;rw [s2 h J];exact ad.ad.ie h ld
 ·rw [s2 h (fun q=>ss (q▸aV))];exact ad.bj.fixed h aV
 ·rw [hlen];exact ad.bj.jx h aV
 ·rcases Ge cd wb q with ⟨rfl,rfl⟩|⟨g1,g2,dp,g3,rfl⟩
  ·rw [s1] at e;exact ad.bj.own ab o b s C BE e
  ·rw [s2 h g1] at e;exact ad.bj.own h dp b s C g3 e
 ·have j0:=ad.fl t _ au;simp only [look] at ld;cases al:Nat.beq cF t with
  |true=>
   rw [al] at ld;have tq:=pC al;subst tq;cases ld;refine ⟨j0.1,?_⟩;have ab:=j0.2;generalize a.tmps.getD cF undef=x at ab;cases ab with
   |aC _ _ _ _ b s C cap aH aJ bR=>exact .aC _ _ _ _ _ _ _ _ (by rw [s1];exact aH) aJ bR
   |ih _ _ e=>exact .ih _ _ (by rw [s1];exact e)
  |false=>
   rw [al] at ld;have ld:look cF (ou U fr)=some v:=ld;rw [Fv] at ld;cases ar:look cF fr with
   |none=>rw [ar] at ld;cases ld
   |some v0=>
    rw [ar] at ld;cases ld;have av:=ad.fl cF v0 ar;exact ⟨av.1,ai av.2⟩
section
variable {P:Program}{fn:Func}{c:Ctx}{fr:Fr}{H:aZ}{k:List eF}
theorem P5 {x:Code}(U ab t len:Nat){o:bl}(cd:U≠ab)(wb:U<H.length)(BE:H[ab]? =some (some o))(ss: ¬c.fix U)(au:look t fr=some (.aC ab 0 len))(an:aj P fn c (.code x k) ((t,.aC U 0 len)::ou U fr) (yd H U ab o)):aj P fn c (.code x k) fr H:=
 fun w a σ S ad=>an w a _ S (ad.move U ab t len cd wb BE ss au)
end
theorem Uy {fr K:Fr}(h:jb fr K): ∀{xs:List (Nat×Operand)} {l:List (Nat×ak)},qQ K xs=some l→qQ fr xs=some l
 |[],l,he=>he
 |(n,x)::r,l,he=>by
  simp only [qQ] at he⊢;split at he
  ·rename_i v ai;split at he
   ·rename_i q aB;rw [JZ h ai,Uy h aB];exact he
   ·cases he
  ·cases he
theorem Iu {P:Program}{fn:Func}{c:Ctx}{H:aZ}{all:Array Oper}{eV:Fr}{i:Nat}{r:List Nat}{st:Go.aj.Steps}{G:Go.aj.Steps→Prop}{d:Nat}{t e:TypeId}{n:Nat}{parts:List (Nat×Operand)}{ty:TypeId}{pos:String}{after:Array Edge}{it:TypeInfo}{z:Value}{zs L:List ak}{l:List (Nat×ak)}{dY:Cells}{K:Fr}(aa:all[i]? =some ⟨some d,.buildSlice t n parts.toArray,ty,pos,after,none⟩)(dH:ug st eV ⟨some d,.buildSlice t n parts.toArray,ty,pos,after,none⟩=K)(bu:P.underlying t=some (.slice e))(iO:P.info? e=some it)(bw:it.zero=some z)(j1:sY z=some zs)(cz:it.size=zs.length)(e1:Nat.blt 0 zs.length=true)(x6:Nat.ble (n*zs.length) 16777216=true)(au:qQ K parts=some l)(aQ:rQ (fun i=>some (i*zs.length,zs.length)) (rK zs n) l=some L)(hn:fN n zs.length L=dY)(aI:cM.eM L=true)(h:mF P fn c H all eV r ((i,d,.ro dY 0 n)::st) G):mF P fn c H all eV (i::r) st G:=
 Ko aa (dH▸fun k fr an ab=>h9 bu iO bw j1 cz e1 x6 (Uy an au) aQ hn aI ab) h
end Go.aj
namespace Go.aj
variable [bA]
open Go.RowKit
section
variable {P:Program}{fn:Func}{c:Ctx}{fr:Fr}{H:aZ}{k:List eF}
theorem alj {w:World}{size:Nat}{a:Option Addr}{m cap:Nat}:(Builtin.firstCells size 0 (.slice a m cap)).run P w= .ok #[] w:=by
 have bZ:= ‹bA›;cases a with
 |none=>rfl
 |some a=>
  show (loadCells a (0*size)).run P w=_;rw [sb];rfl
theorem ZY {all:Array Oper}{d:Nat}{t wP e:TypeId}{x y:Operand}{ty:TypeId}{pos:String}{after:Array Edge}{rest:List Oper}{inf:TypeInfo}{h i n:Nat}{ab i2:Nat}(bu:P.underlying t=some (.slice e))(aa:P.info? e=some inf)(ar:bG fr x=some (.aC h i n))(a1:bG fr y=some (.aC ab i2 0))(an:aj P fn c (.ops false all rest k) ((d,.int .i64 0)::fr) H):aj P fn c (.ops false all (⟨some d,.call {callee:= .builtin .copy,args:= #[x,y],argTypes:= #[t,wP]},ty,pos,after,none⟩::rest) k) fr H:=by
 refine rZ (fun w a σ S ad=> ?_) an;have U:=ad.dL ar;have ab:=ad.dL a1;have iN: ∀r w',(Builtin.copy_ #[t,wP] ty #[a.eval x,a.eval y]).run P w= .ok r w'→(execOp a.eval ⟨some d,.call {callee:= .builtin .copy,args:= #[x,y],argTypes:= #[t,wP]},ty,pos,after,none⟩).run P w= .ok (.value r) w':=by intro r w' h;simp [execOp,resolve,invoke,builtin,h]
 generalize wG:a.eval x=Fh at U iN;generalize mu:a.eval y=Nz at ab iN;have key: ∀(lX K9:Option Addr) (Af ec Bz:Nat),(Builtin.copy_ #[t,wP] ty #[.slice lX Af ec,.slice K9 0 Bz]).run P w= .ok (.int .i64 (0:Nat)) w:=by
  intro lX K9 Af ec Bz;have aQ:=alj (P:=P) (w:=w) (size:=inf.size) (a:=K9) (m:=0) (cap:=Bz);have hm:Nat.min 0 Af=0:=Nat.zero_min Af;cases lX with
  |none=>simp [Builtin.copy_,run_underlying bu,sizeOf,typeInfo,aa,Builtin.lenOf,hm,aQ,goInt]
  |some ia=>simp [Builtin.copy_,run_underlying bu,sizeOf,typeInfo,aa,Builtin.lenOf,hm,aQ,goInt,storeCells]
 cases U with
 |ih _ _ bJ=>
  cases ab with
  |ih _ _ x9=>exact ⟨_,_,σ,S,iN _ _ (key _ _ _ _ _),ad,.int _ _ _⟩
  |aC _ _ _ _ b s C cap x9 hlen jX=>exact ⟨_,_,σ,S,iN _ _ (key _ _ _ _ _),ad,.int _ _ _⟩
 |aC _ _ _ _ b s C cap bJ hlen jX=>
  cases ab with
  |ih _ _ x9=>exact ⟨_,_,σ,S,iN _ _ (key _ _ _ _ _),ad,.int _ _ _⟩
  |aC _ _ _ _ b s C cap x9 hlen jX=>exact ⟨_,_,σ,S,iN _ _ (key _ _ _ _ _),ad,.int _ _ _⟩
end
end Go.aj
namespace Go.aj.cX
open Go.aj.dn
def Ao (u:Int→List Rat)(x:Int)(v:List Rat):Int→List Rat:=fun y=>if y=x then v else u y
theorem aia {t:aK}{p:Int}(u:Int→List Rat){k b:Nat}{x:Int×Nat}(iQ:x.2≤k)(nF:k<x.2+cm t p x.1)(ru:b<x.2)(Ap:x.2+cm t p x.1≤(bN t p).length)(u7: ∀c,c<cm t p x.1→(bN t p).getD (x.2+c) cZ=⟨x.1,(c:Int),(b:Int)⟩):(ev t p u).getD k 0=(ev t p u).getD b 0*(u x.1).getD (k-x.2) 0:=by have av:=u7 (k-x.2) J;rw [show x.2+(k-x.2)=k by omega] at av;unfold ev;rw [w1 _ _ (show k<(bN t p).length by omega),av];unfold rD;simp only;rw [ax J,cg,cg,CF _ _ (show b<(bN t p).length by omega) (show b<k by omega)]
def vB (t:aK)(p:Int)(s:Nat):Nat:=((bN t p).getD s cZ).before.toNat
structure xm (t:aK)(p x:Int)(s b:Nat):Prop where
 mem:(x,s)∈(dc t p t.length).first
 start:rJ t p x=s
 Bv:vB t p s=b
 one:1≤s
 l9:1≤cm t p x
 fin:s+cm t p x≤(bN t p).length
 lt:b<s
 cA: ∀c,c<cm t p x→(bN t p).getD (s+c) cZ=⟨x,(c:Int),(b:Int)⟩
theorem AV {t:aK}(ai:Valid t){p x:Int}(ar:x∈cv t p): ∃s b,xm t p x s b:=by
 have h:=hP.mm ai p t.length (bT _);obtain ⟨j,ae,av⟩:=(o6 ai).1 ar;have an:=(h.keys x).2 ⟨j,ae,av⟩;have hw:1≤cm t p x:=by
  rw [tT ai ae av];unfold gG at av;rw [eb] at av;have ah:=(rH.1 av.1).1;rcases ai.child ae with q|q
  ·have:=q.1;omega
  ·exact (yA q.2).1
 cases au:fY (dc t p t.length).first x with
 |none=>exact absurd an (Fy au)
 |some s=>
  have hm:=wW au;obtain ⟨gu,h7,b,ei,ew,nt⟩:=h.fst (x,s) hm;obtain ⟨n,rfl⟩:=oP ei;simp only at gu h7 ew nt;refine ⟨s,n,hm,by unfold rJ mg;rw [au];rfl,?_,gu,hw,h7,J,nt⟩;have:=nt 0 J;unfold vB;rw [e6] at this;rw [show (bN t p).getD s cZ=_ from this];exact cg n
structure q2 (t:aK)(p:Int)(W:Nat→Rat):Prop where
 root:W 0=1
 qB: ∀k,k<(bN t p).length→0≤W k
 sum: ∀x∈cv t p,b3 (fun c=>W (rJ t p x+c)) (cm t p x)=W (vB t p (rJ t p x))
theorem aib {t:aK}{p x:Int}{s b:Nat}(h:xm t p x s b)(u:Int→List Rat){c:Nat}(aw:c<cm t p x):(ev t p u).getD (s+c) 0=(ev t p u).getD b 0*(u x).getD c 0:=by have:=aia (t:=t) (p:=p) u (k:=s+c) (b:=b) (x:=(x,s)) (by show s≤s+c;omega) (by show s+c<s+cm t p x;omega) h.lt h.fin h.cA;rw [this];show _*(u x).getD (s+c-s) 0=_;rw [show s+c-s=c by omega]
theorem apc {t:aK}(ai:Valid t){p:Int}{u:Int→List Rat}(hu:DL t p u):q2 t p (fun k=>(ev t p u).getD k 0):=by refine ⟨JD ai p u,aid ai hu,fun x ar=> ?_⟩;obtain ⟨s,b,h⟩:=AV ai ar;rw [h.start,h.Bv];rw [e4 (fun c aw=>aib h u aw),tS,agY hu ar,Rat.mul_one]
def po (t:aK)(p:Int)(W:Nat→Rat)(x:Int):List Rat:=
 if 0<W (vB t p (rJ t p x)) then (List.range (cm t p x)).map (fun c=>W (rJ t p x+c)/W (vB t p (rJ t p x))) else iT (cm t p x) 0
theorem aac {t:aK}{p x:Int}{s b:Nat}(h:xm t p x s b)(W:Nat→Rat)(iM:0<W b){c:Nat}(aw:c<cm t p x):(po t p W x).getD c 0=W (s+c)/W b:=by unfold po;rw [h.start,h.Bv,aA iM,mY _ _ 0 0 c (by rw [gn];exact aw),eo 0 (by rw [gn];exact aw),zr]
theorem akk {f g:Nat→Rat}{n m:Nat}(h: ∀c,c<n→0≤f c)(aU:b3 f n=0)(hm:m<n):f m=0:=by
 have key: ∀n,(∀c,c<n→0≤f c)→ ∀m,m<n→f m≤b3 f n:=by
  intro n;induction n with
  |zero=>intro _ m hm;exact absurd hm (gg _)
  |succ n ba=>
   intro aI m hm;show f m≤b3 f n+f n;have U:=NW (f:=f) (n:=n) (fun i aa=>aI i J);have ab:=aI n J;by_cases e:m=n
   ·subst e;grind
   ·have:=ba (fun c aw=>aI c J) m J;grind
 have U:=key n h m hm;have ab:=h m hm;rw [aU] at U;exact xK U ab
end Go.aj.cX
namespace Go.aj.nm
open Go.aj.dZ Go.aj.cX Go.aj.dn Go.aj.c0
def rP (T:List (List Rat))(a b:Nat)(y:Rat):List (List Rat):=T.set a ((T.getD a []).set b ((T.getD a []).getD b 0+y))
def yr (pa l7:Nat→Nat)(v:Nat→Rat):List Nat→List (List Rat)→List (List Rat)
 |[],T=>T
 |e::r,T=>yr pa l7 v r (rP T (pa e) (l7 e) (v e))
structure vH (T:List (List Rat))(n m:Nat):Prop where
 rows:T.length=n
 lA: ∀i,i<n→(T.getD i []).length=m
def kW (T:List (List Rat))(n m:Nat)(x y:Nat→Rat):Rat:=b3 (fun i=>x i*b3 (fun j=>(T.getD i []).getD j 0*y j) m) n
theorem fO {α:Type}(l:List α)(a i:Nat)(z d:α)(a8:a<l.length):(l.set a z).getD i d=if i=a then z else l.getD i d:=by
 by_cases h:i=a
 ·subst h;rw [aA rfl];simp [List.getD,a8]
 ·rw [ax h];simp [List.getD,DU,q3 h]
theorem V8 {T:List (List Rat)}{n m a b:Nat}{y:Rat}(h:vH T n m)(a8:a<n):vH (rP T a b y) n m:=by
 refine ⟨by unfold rP;rw [dd];exact h.rows,fun i aa=> ?_⟩;unfold rP;rw [fO _ _ _ _ _ (by rw [h.rows];exact a8)];split
 ·rw [dd];exact h.lA a a8
 ·exact h.lA i aa
theorem Zk {f:Nat→Rat}{a:Nat}(y:Rat): ∀{n:Nat},a<n→b3 (fun i=>f i+(if i=a then y else 0)) n=b3 f n+y:=by
 intro n a8;rw [vl];congr 1;have key: ∀{n:Nat},b3 (fun i=>if i=a then y else 0) n=if a<n then y else 0:=by
  intro n;induction n with
  |zero=>rfl
  |succ n ba=>
   show b3 (fun i=>if i=a then y else 0) n+(if n=a then y else 0)=_;rw [ba];by_cases U:n=a
   ·rw [ax J,aA U,aA J];exact jU y
   ·rw [ax U,je];by_cases ab:a<n
    ·rw [aA ab,aA J]
    ·rw [ax ab,ax J]
 rw [key,aA a8]
theorem aoC {T:List (List Rat)}{n m a b:Nat}{v:Rat}(h:vH T n m)(a8:a<n)(al:b<m)(x y:Nat→Rat):kW (rP T a b v) n m x y=kW T n m x y+x a*v*y b:=by
 unfold kW;have e: ∀i,i<n→x i*b3 (fun j=>((rP T a b v).getD i []).getD j 0*y j) m=x i*b3 (fun j=>(T.getD i []).getD j 0*y j) m+(if i=a then x a*v*y b else 0):=fun i aa=>by
  unfold rP;rw [fO _ _ _ _ _ (by rw [h.rows];exact a8)];by_cases e:i=a
  ·subst e;rw [aA rfl,aA rfl];have aJ: ∀j,j<m→(((T.getD i []).set b ((T.getD i []).getD b 0+v)).getD j 0)*y j=(T.getD i []).getD j 0*y j+(if j=b then v*y b else 0):=fun j ae=>by
    rw [fO _ _ _ _ _ (by rw [h.lA i aa];exact al)];by_cases e:j=b
    ·subst e;rw [aA rfl,aA rfl];grind
    ·rw [ax e,ax e,je]
   rw [e4 aJ,Zk _ al];grind
  ·rw [ax e,ax e,je]
 rw [e4 e,Zk _ a8]
theorem PU {pa l7:Nat→Nat}{v:Nat→Rat}{n m:Nat}: ∀(l:List Nat) {T:List (List Rat)},vH T n m→(∀e∈l,pa e<n)→vH (yr pa l7 v l T) n m
 |[],T,h,_=>h
 |e::r,T,h,aF=>PU r (V8 h (aF e (xx ..))) (fun x ar=>aF x (vP _ ar))
theorem OX {pa l7:Nat→Nat}{v:Nat→Rat}{n m:Nat}(x y:Nat→Rat): ∀(l:List Nat) {T:List (List Rat)},vH T n m→(∀e∈l,pa e<n∧l7 e<m)→
 kW (yr pa l7 v l T) n m x y=kW T n m x y+ez 0 (l.map (fun e=>x (pa e)*v e*y (l7 e)))
 |[],T,h,_=>by
  show _=_+(0:Rat)
  rw [je];rfl
 |e::r,T,h,aF=>by obtain ⟨U,ab⟩:=aF e (xx ..);rw [yr,OX x y r (V8 h U) (fun x ar=>aF x (vP _ ar)),aoC h U ab,k6,ez,sL _ (0+_)];grind
def ke (t:aK)(p:Int)(e:Nat):Nat:=((hv t p).getD e 0).toNat
abbrev aY (t:aK)(p:Int):Nat:=(bN t p).length
def sV (n m:Nat):List (List Rat):=List.replicate n (List.replicate m 0)
def fv (t:aK):List (List Rat):=yr (ke t 0) (ke t 1) (hN t (cj t (gR t))) (cC t) (sV (aY t 0) (aY t 1))
theorem JL (n m:Nat):vH (sV n m) n m:=by
 refine ⟨e8,fun i aa=> ?_⟩;have e:(sV n m).getD i []=List.replicate m 0:=by simp [sV,List.getD,aa]
 rw [e,e8]
theorem V7 (n m:Nat)(x y:Nat→Rat):kW (sV n m) n m x y=0:=by
 unfold kW;refine tj (e4 (g:=fun _=>0) (fun i aa=> ?_)) (pW _);have e:(sV n m).getD i []=List.replicate m 0:=by simp [sV,List.getD,aa]
 rw [e,e4 (g:=fun _=>0) (fun j _=>by rw [Gl,nq]),pW,uv]
theorem Ka {t:aK}(ai:Valid t):vH (fv t) (aY t 0) (aY t 1):=PU _ (JL _ _) (fun e he=>(vw ai 0 (mZ he).1).2)
theorem amJ {t:aK}(ai:Valid t)(aU:jo t 0=true)(U:jo t 1=true)(a b:Int→List Rat): ∀j,j<t.length→
 (cj t (j7 t a b)).getD j 0=(cj t (gR t)).getD j 0*(ev t 1 b).getD (ke t 1 j) 0*(ev t 0 a).getD (ke t 0 j) 0:=by
 intro j ae;have aH:cj t (j7 t a b)=cj t (mh t 0 a (ir t 0 b)):=(FC (fun i aa=>(Q8 ai a b i aa).symm) _ (bT _))
 have aJ:cj t (ir t 0 b)=cj t (mh t 1 b (gR t)):=FC (fun i aa=>by
  unfold ir mh gR;by_cases h:own 1 (t.getD i aP)=true
  ·obtain ⟨U,ab⟩:=rH.1 h;rw [aA h,ax J,aA U,ax J]
  ·rw [ax h];split
   ·rfl
   ·split
    ·rename_i U ab;have ay: ¬(t.getD i aP).gr=1:=fun e=>h (rH.2 ⟨ab,e⟩);rw [aA (by have:=At ai aa ab;omega)]
    ·rfl) _ (bT _)
 rw [aH,I7 ai aU a (Py t 0 b) j ae,aJ,I7 ai U b (fun i aa ah=>by
  unfold gR;rw [ax (by have:=(rH.1 ah).1;omega)]) j ae]
 rfl
theorem amn {t:aK}(ai:Valid t)(aU:jo t 0=true)(U:jo t 1=true)(a b:Int→List Rat):
 il t (j7 t a b)=kW (fv t) (aY t 0) (aY t 1) (fun k=>(ev t 0 a).getD k 0) (fun k=>(ev t 1 b).getD k 0):=by unfold fv;have h:=OX (pa:=ke t 0) (l7:=ke t 1) (v:=hN t (cj t (gR t))) (fun k=>(ev t 0 a).getD k 0) (fun k=>(ev t 1 b).getD k 0) (cC t) (JL (aY t 0) (aY t 1)) (fun e he=>⟨(vw ai 0 (mZ he).1).2,(vw ai 1 (mZ he).1).2⟩);rw [h,V7,jU];unfold il;congr 1;refine k5 (fun e he=> ?_);unfold hN;rw [amJ ai aU U a b e (mZ he).1];grind
theorem yQ (a:Nat)(y:Rat): ∀{n:Nat},b3 (fun i=>if i=a then y else 0) n=if a<n then y else 0
 |0=>rfl
 |n+1=>by
  show b3 (fun i=>if i=a then y else 0) n+(if n=a then y else 0)=_;rw [yQ a y];by_cases U:n=a
  ·rw [ax J,aA U,aA J];exact jU y
  ·rw [ax U,je];by_cases ab:a<n
   ·rw [aA ab,aA J]
   ·rw [ax ab,ax J]
theorem akj (f:Nat→Rat){s w n:Nat}(h:s+w≤n):b3 (fun j=>if s≤j∧j<s+w then f j else 0) n=b3 (fun c=>f (s+c)) w:=by
 obtain ⟨r,rfl⟩: ∃r,n=s+w+r:=⟨n-(s+w),J⟩
 rw [w7 _ (s+w) r,w7 _ s w];rw [e4 (n:=s) (g:=fun _=>0) (fun j ae=>ax J),pW,e4 (n:=r) (g:=fun _=>0) (fun j ae=>ax J),pW,jU,je];exact e4 (fun c aw=>aA J)
theorem Oo (f:Nat→Rat): ∀e,b3 f (2*e)=b3 (fun c=>f (2*c)+f (2*c+1)) e
 |0=>rfl
 |e+1=>by
  show b3 f (2*e+1)+f (2*e+1)=b3 (fun c=>f (2*c)+f (2*c+1)) e+(f (2*e)+f (2*e+1))
  rw [←Oo f e];show (b3 f (2*e)+f (2*e))+f (2*e+1)=_;rw [xC]
def ct (t:aK)(p:Int):Nat:=1+(mg t p).length
def uf (t:aK)(p:Int)(c:Nat):Int×Nat:=(mg t p).getD (c-1) (0,0)
def hL (t:aK)(p:Int)(c j:Nat):Rat:=
 if c=0 then (if j=0 then 1 else 0)
 else if (uf t p c).2≤j∧j<(uf t p c).2+cm t p (uf t p c).1 then 1 else if j=vB t p (uf t p c).2 then-1 else 0
def rU (c:Nat):Rat:=if c=0 then 1 else 0
section
variable {t:aK}{p:Int}
theorem aap (ai:Valid t){c:Nat}(aU:c≠0)(aw:c<ct t p): ∃x s b,uf t p c=(x,s)∧x∈cv t p∧xm t p x s b:=by
 have aa:c-1<(mg t p).length:=by unfold ct at aw;omega
 have hm:uf t p c∈mg t p:=dt (0,0) aa;have h:=hP.mm ai p t.length (bT _);obtain ⟨x,s,al⟩: ∃x s,uf t p c=(x,s):=⟨_,_,rfl⟩
 rw [al] at hm;have ar:x∈cv t p:=(o6 ai).2 ((h.keys x).1 (cO.2 ⟨(x,s),hm,rfl⟩));obtain ⟨cy,b,ck⟩:=AV ai ar;have:=Kj h.eX hm ck.mem rfl;have av:s=cy:=congrArg Prod.snd this;subst av;exact ⟨x,s,b,al,ar,ck⟩
theorem YB (ai:Valid t){x:Int}(ar:x∈cv t p): ∃c s b,c≠0∧c<ct t p∧uf t p c=(x,s)∧xm t p x s b:=by
 obtain ⟨s,b,ck⟩:=AV ai ar;obtain ⟨i,aa,he⟩:=DZ.1 ck.mem;refine ⟨i+1,s,b,J,by unfold ct;show i+1<1+(dc t p t.length).first.length;omega,?_,ck⟩;show (dc t p t.length).first.getD i (0,0)=_
 simp [List.getD,aa,he]
theorem OK (ai:Valid t)(W:Nat→Rat):b3 (fun j=>hL t p 0 j*W j) (aY t p)=W 0:=by
 obtain ⟨_,_,ab,_⟩:=qI ai p;rw [e4 (g:=fun j=>if j=0 then W 0 else 0) (fun j ae=> ?_),yQ,aA ab];unfold hL;rw [aA rfl];by_cases e:j=0
 ·subst e;rw [aA rfl,aA rfl,pB]
 ·rw [ax e,ax e,nq]
theorem Pg {c:Nat}(aU:c≠0){x:Int}{s b:Nat}(al:uf t p c=(x,s))(h:xm t p x s b)(W:Nat→Rat):
 b3 (fun j=>hL t p c j*W j) (aY t p)=b3 (fun k=>W (s+k)) (cm t p x)-W b:=by
 have xP:=h.fin;have bD:=h.lt;have e: ∀j,j<aY t p→hL t p c j*W j=(if s≤j∧j<s+cm t p x then W j else 0)+(if j=b then-(W b) else 0):=fun j ae=>by
  unfold hL;rw [ax aU,al,h.Bv];show (if s≤j∧j<s+cm t p x then (1:Rat) else if j=b then-1 else 0)*W j=_;by_cases aH:s≤j∧j<s+cm t p x
  ·rw [aA aH,aA aH,ax J,pB,je]
  ·rw [ax aH,ax aH,jU];by_cases aJ:j=b
   ·subst aJ;rw [aA rfl,aA rfl,Rat.neg_mul,pB]
   ·rw [ax aJ,ax aJ,nq]
 rw [e4 e,vl,akj W xP,yQ,aA (by show b<(bN t p).length;omega),Rat.sub_eq_add_neg]
theorem aoB (ai:Valid t){W:Nat→Rat}(h:q2 t p W){c:Nat}(aw:c<ct t p):b3 (fun j=>hL t p c j*W j) (aY t p)=rU c:=by
 unfold rU;by_cases e:c=0
 ·subst e;rw [OK ai,aA rfl,h.root]
 ·rw [ax e];obtain ⟨x,s,b,U,ab,ay⟩:=aap ai e aw;rw [Pg e U ay];have:=h.sum x ab;rw [ay.start,ay.Bv] at this;rw [this];grind
theorem VO (ai:Valid t){W:Nat→Rat}(aI: ∀k,k<aY t p→0≤W k)(h: ∀c,c<ct t p→b3 (fun j=>hL t p c j*W j) (aY t p)=rU c):q2 t p W:=by
 refine ⟨?_,aI,fun x ar=> ?_⟩
 ·have:=h 0 (by unfold ct;omega);rw [OK ai] at this;exact this
 ·obtain ⟨c,s,b,aU,U,ab,ay⟩:=YB ai ar;have:=h c U;rw [Pg aU ab ay] at this;rw [ay.start,ay.Bv];unfold rU at this;rw [ax aU] at this;grind
theorem VP (ai:Valid t){W:Nat→Rat}(aI: ∀k,k<aY t p→0≤W k)(h: ∀c,c<ct t p→b3 (fun j=>hL t p c j*W j) (aY t p)=0): ∀k,k<aY t p→W k=0:=by
 intro k;induction k using Nat.strongRecOn with
 |ind k ba=>
  intro an;by_cases e:k=0
  ·subst e;have:=h 0 (by unfold ct;omega);rw [OK ai] at this;exact this
  ·have ad:=hP.mm ai p t.length (bT _);obtain ⟨y,a1,gu,h7⟩:=ad.all k J an;have ar:y.1∈cv t p:=(o6 ai).2 ((ad.keys y.1).1 (cO.2 ⟨y,a1,rfl⟩));obtain ⟨c,s,b,aU,U,ab,ay⟩:=YB ai ar;have av:=congrArg Prod.snd (Kj ad.eX a1 ay.mem rfl);have av:y.2=s:=av;rw [av] at gu h7;have:=h c U;rw [Pg aU ab ay,ba b (by have:=ay.lt;omega) (by have:=ay.lt;have:=ay.fin;show b<(bN t p).length;omega)] at this;have bf:b3 (fun k=>W (s+k)) (cm t p y.1)=0:=by grind
   have bL:=akk (f:=fun k=>W (s+k)) (g:=fun _=>0) (fun c aw=>aI _ (by have:=ay.fin;show s+c<(bN t p).length;omega)) bf (m:=k-s) J;have bL:W (s+(k-s))=0:=bL
   rwa [show s+(k-s)=k by omega] at bL
end
def qE (r:Nat):Rat:=if r%2=0 then 1 else-1
def qZ (t:aK)(j:Nat):List Rat:=(List.range (aY t 0+2*ct t 1)).map (fun i=>if i<aY t 0 then-(((fv t).getD i []).getD j 0) else if i<aY t 0+ct t 1 then hL t 1 (i-aY t 0) j else-(hL t 1 (i-aY t 0-ct t 1) j))
def sU (t:aK)(r:Nat):List Rat:=(List.range (aY t 0+2*ct t 1)).map (fun i=>if i<aY t 0 then qE r*hL t 0 (r/2) i else 0)
def en (t:aK):Prog:=
 ⟨(List.range (aY t 1)).map (qZ t)++(List.range (2*ct t 0)).map (sU t),List.replicate (aY t 1) 0++(List.range (2*ct t 0)).map (fun r=>qE r*rU (r/2)),(List.range (aY t 0+2*ct t 1)).map (fun i=>if i=aY t 0 then 1 else if i=aY t 0+ct t 1 then-1 else 0)⟩
section
variable {t:aK}
theorem GL (t:aK):(en t).n=aY t 0+2*ct t 1:=by show (List.map _ _).length=_;rw [cr,gn]
theorem GK (t:aK):(en t).m=aY t 1+2*ct t 0:=by show (_++List.map _ _).length=_;rw [c8,e8,cr,gn]
theorem Gz (t:aK):(en t).hW:=by
 refine ⟨?_,fun r ad=> ?_⟩
 ·show (List.map _ _++List.map _ _).length=(en t).m;rw [GK,c8,cr,cr,gn,gn]
 ·show _=(en t).n;rw [GL];rcases gM.1 ad with h|h
  ·obtain ⟨j,_,rfl⟩:=cO.1 h;unfold qZ;rw [cr,gn]
  ·obtain ⟨j,_,rfl⟩:=cO.1 h;unfold sU;rw [cr,gn]
theorem TQ {j:Nat}(ae:j<aY t 1):(en t).A.getD j []=qZ t j:=by show (List.map (qZ t) _++_).getD j []=_;rw [rG [] (by rw [cr,gn];exact ae)];exact pV ae
theorem TR {r:Nat}(ad:r<2*ct t 0):(en t).A.getD (aY t 1+r) []=sU t r:=by show (List.map (qZ t) (List.range (aY t 1))++List.map (sU t) (List.range (2*ct t 0))).getD (aY t 1+r) []=_;rw [vW,ib (by rw [cr,gn];omega),cr,gn,vN,←vW];exact pV ad
theorem Db {i j:Nat}(aa:i<aY t 0+2*ct t 1):(qZ t j).getD i 0=if i<aY t 0 then-(((fv t).getD i []).getD j 0) else if i<aY t 0+ct t 1 then hL t 1 (i-aY t 0) j else-(hL t 1 (i-aY t 0-ct t 1) j):=pV aa
theorem Ga {i r:Nat}(aa:i<aY t 0+2*ct t 1):(sU t r).getD i 0=if i<aY t 0 then qE r*hL t 0 (r/2) i else 0:=pV aa
def tE (t:aK)(X:List Rat)(c:Nat):Rat:=X.getD (aY t 0+c) 0-X.getD (aY t 0+ct t 1+c) 0
def uV (t:aK)(Y:List Rat)(c:Nat):Rat:=Y.getD (aY t 1+2*c) 0-Y.getD (aY t 1+(2*c+1)) 0
theorem XA {j:Nat}(ae:j<aY t 1)(X:List Rat):eC ((en t).A.getD j []) X=b3 (fun c=>hL t 1 c j*tE t X c) (ct t 1)-b3 (fun i=>((fv t).getD i []).getD j 0*X.getD i 0) (aY t 0):=by
 rw [TQ ae,sJ (n:=aY t 0+2*ct t 1) (by unfold qZ;rw [cr,gn])];rw [show aY t 0+2*ct t 1=aY t 0+ct t 1+ct t 1 by omega,w7 _ (aY t 0+ct t 1),w7 _ (aY t 0)];have aH:b3 (fun i=>(qZ t j).getD i 0*X.getD i 0) (aY t 0)= -(b3 (fun i=>((fv t).getD i []).getD j 0*X.getD i 0) (aY t 0)):=by rw [←Pm];exact e4 (fun i aa=>by rw [Db J,aA aa,Rat.neg_mul])
 have aJ:b3 (fun c=>(qZ t j).getD (aY t 0+c) 0*X.getD (aY t 0+c) 0) (ct t 1)+b3 (fun c=>(qZ t j).getD (aY t 0+ct t 1+c) 0*X.getD (aY t 0+ct t 1+c) 0) (ct t 1)=b3 (fun c=>hL t 1 c j*tE t X c) (ct t 1):=by rw [←vl];refine e4 (fun c aw=> ?_);rw [Db J,ax J,aA J,Db J,ax J,ax J,show aY t 0+c-aY t 0=c by omega,show aY t 0+ct t 1+c-aY t 0-ct t 1=c by omega];unfold tE;grind
 rw [aH,←aJ];grind
theorem JX {r:Nat}(ad:r<2*ct t 0)(X:List Rat):eC ((en t).A.getD (aY t 1+r) []) X=qE r*b3 (fun i=>hL t 0 (r/2) i*X.getD i 0) (aY t 0):=by rw [TR ad,sJ (n:=aY t 0+2*ct t 1) (by unfold sU;rw [cr,gn]),w7 _ (aY t 0)];rw [e4 (n:=2*ct t 1) (g:=fun _=>0) (fun c aw=>by rw [Ga J,ax J,nq]),pW,je,←tS];exact e4 (fun i aa=>by rw [Ga J,aA aa];grind)
theorem Kt (c:Nat):qE (2*c)=1:=aA J
theorem KQ (c:Nat):qE (2*c+1)= -1:=ax J
theorem OF (i:Nat)(Y:List Rat):eC (r0 (en t).A i) Y=b3 (fun j=>(qZ t j).getD i 0*Y.getD j 0) (aY t 1)+b3 (fun r=>(sU t r).getD i 0*Y.getD (aY t 1+r) 0) (2*ct t 0):=by
 rw [sJ (n:=aY t 1+2*ct t 0) (by rw [Xr];exact (Gz t).rows.trans (GK t)),w7 _ (aY t 1)];congr 1
 ·exact e4 (fun j ae=>by rw [Pe,TQ ae])
 ·exact e4 (fun r ad=>by rw [Pe,TR ad])
theorem Xz {i:Nat}(aa:i<aY t 0)(Y:List Rat):eC (r0 (en t).A i) Y=b3 (fun c=>hL t 0 c i*uV t Y c) (ct t 0)-b3 (fun j=>((fv t).getD i []).getD j 0*Y.getD j 0) (aY t 1):=by
 rw [OF,Oo];have aH:b3 (fun j=>(qZ t j).getD i 0*Y.getD j 0) (aY t 1)= -(b3 (fun j=>((fv t).getD i []).getD j 0*Y.getD j 0) (aY t 1)):=by rw [←Pm];exact e4 (fun j ae=>by rw [Db J,aA aa,Rat.neg_mul])
 have aJ:b3 (fun c=>(sU t (2*c)).getD i 0*Y.getD (aY t 1+2*c) 0+(sU t (2*c+1)).getD i 0*Y.getD (aY t 1+(2*c+1)) 0) (ct t 0)=b3 (fun c=>hL t 0 c i*uV t Y c) (ct t 0):=by refine e4 (fun c aw=> ?_);rw [Ga J,Ga J,aA aa,aA aa,Kt,KQ,show 2*c/2=c by omega,show (2*c+1)/2=c by omega];unfold uV;grind
 rw [aH,aJ];grind
theorem Xy {c:Nat}(aw:c<ct t 1)(Y:List Rat):eC (r0 (en t).A (aY t 0+c)) Y=b3 (fun j=>hL t 1 c j*Y.getD j 0) (aY t 1)∧eC (r0 (en t).A (aY t 0+ct t 1+c)) Y= -(b3 (fun j=>hL t 1 c j*Y.getD j 0) (aY t 1)):=by
 have Ru: ∀i,aY t 0≤i→i<aY t 0+2*ct t 1→b3 (fun r=>(sU t r).getD i 0*Y.getD (aY t 1+r) 0) (2*ct t 0)=0:=fun i U ab=>by rw [e4 (g:=fun _=>0) (fun r ad=>by rw [Ga ab,ax J,nq]),pW]
 refine ⟨?_,?_⟩
 ·rw [OF,Ru _ J J,je];exact e4 (fun j ae=>by rw [Db J,ax J,aA J,show aY t 0+c-aY t 0=c by omega])
 ·rw [OF,Ru _ J J,je,←Pm];exact e4 (fun j ae=>by rw [Db J,ax J,ax J,show aY t 0+ct t 1+c-aY t 0-ct t 1=c by omega,Rat.neg_mul])
theorem Gu (t:aK)(p:Int):0<ct t p:=by unfold ct;omega
theorem Hd {i:Nat}(aa:i<aY t 0+2*ct t 1):(en t).C.getD i 0=if i=aY t 0 then 1 else if i=aY t 0+ct t 1 then-1 else 0:=pV aa
theorem Rb (X:List Rat):eC (en t).C X=tE t X 0:=by
 have an:=Gu t 1;rw [sJ (n:=aY t 0+2*ct t 1) (GL t)];rw [e4 (g:=fun i=>(if i=aY t 0 then X.getD (aY t 0) 0 else 0)+(if i=aY t 0+ct t 1 then-(X.getD (aY t 0+ct t 1) 0) else 0)) (fun i aa=> ?_),vl,yQ,yQ,aA J,aA J]
 ·unfold tE;rw [e6,e6,Rat.sub_eq_add_neg]
 ·rw [Hd aa];by_cases aH:i=aY t 0
  ·rw [aA aH,aA aH,ax J,aH];grind
  ·by_cases aJ:i=aY t 0+ct t 1
   ·rw [ax aH,aA aJ,ax aH,aA aJ,aJ];grind
   ·rw [ax aH,ax aJ,ax aH,ax aJ];grind
theorem Q2 {j:Nat}(ae:j<aY t 1):(en t).B.getD j 0=0:=by show (List.replicate (aY t 1) 0++_).getD j 0=_;rw [rG 0 (by rw [e8];exact ae)];exact Gl _ _
theorem KH {r:Nat}(ad:r<2*ct t 0):(en t).B.getD (aY t 1+r) 0=qE r*rU (r/2):=by show (List.replicate (aY t 1) (0:Rat)++List.map (fun r=>qE r*rU (r/2)) (List.range (2*ct t 0))).getD (aY t 1+r) 0=_;rw [vW,ib (by rw [e8];omega),e8,vN,←vW];exact pV ad
theorem Q1 (Y:List Rat):eC (en t).B Y=uV t Y 0:=by
 have an:=Gu t 0;rw [sJ (n:=aY t 1+2*ct t 0) (GK t),w7 _ (aY t 1),e4 (n:=aY t 1) (g:=fun _=>0) (fun j ae=>by rw [Q2 ae,nq]),pW,jU,Oo];rw [e4 (g:=fun c=>if c=0 then uV t Y 0 else 0) (fun c aw=> ?_),yQ,aA an];rw [KH J,KH J,Kt,KQ,show 2*c/2=c by omega,show (2*c+1)/2=c by omega];unfold rU;by_cases e:c=0
 ·subst e;rw [aA rfl,aA rfl];unfold uV;grind
 ·rw [ax e,ax e];grind
theorem aoo (p:Int)(P W:Nat→Rat)(t:aK):b3 (fun j=>W j*b3 (fun c=>hL t p c j*P c) (ct t p)) (aY t p)=b3 (fun c=>P c*b3 (fun j=>hL t p c j*W j) (aY t p)) (ct t p):=by rw [e4 (g:=fun j=>b3 (fun c=>W j*(hL t p c j*P c)) (ct t p)) (fun j _=>(tS _ _ _).symm),OT];refine e4 (fun c _=> ?_);rw [←tS];exact e4 (fun j _=>by grind)
theorem J2 (ai:Valid t){p:Int}{W:Nat→Rat}(h:q2 t p W)(P:Nat→Rat):b3 (fun j=>W j*b3 (fun c=>hL t p c j*P c) (ct t p)) (aY t p)=P 0:=by
 rw [aoo,e4 (g:=fun c=>if c=0 then P 0 else 0) (fun c aw=> ?_),yQ,aA (Gu t p)];rw [aoB ai h aw];unfold rU;by_cases e:c=0
 ·subst e;rw [aA rfl,aA rfl,Rat.mul_one]
 ·rw [ax e,ax e,uv]
theorem aoD (T:List (List Rat))(n m:Nat)(x y:Nat→Rat):kW T n m x y=b3 (fun j=>y j*b3 (fun i=>(T.getD i []).getD j 0*x i) n) m:=by unfold kW;rw [e4 (g:=fun i=>b3 (fun j=>x i*((T.getD i []).getD j 0*y j)) m) (fun i _=>(tS _ _ _).symm),OT];refine e4 (fun j _=> ?_);rw [←tS];exact e4 (fun i _=>by grind)
structure QL (t:aK)(v:Rat)(x y:Nat→Rat):Prop where
 qq:q2 t 0 x
 Rz:q2 t 1 y
 arj: ∀x',q2 t 0 x'→kW (fv t) (aY t 0) (aY t 1) x' y≤v
 least: ∀Cr,q2 t 1 Cr→v≤kW (fv t) (aY t 0) (aY t 1) x Cr
theorem ajb (ai:Valid t){tH wQ:Nat→Rat}(Ry:q2 t 0 tH)(RA:q2 t 1 wQ){r:DO}(g:c0.Good (en t) r):
 r.kind=0∧r.X.length=aY t 0+2*ct t 1∧r.Y.length=aY t 1+2*ct t 0∧QL t r.V (fun k=>r.X.getD k 0) (fun k=>r.Y.getD k 0):=by
 have tp:=GL t;have em:=GK t;have pJ:=Gu t 0;have pK:=Gu t 1;cases g with
 | @Q5 X Y V ar a1 NC Fk lX tI ec yu=>
  rw [tp] at ar NC tI;rw [em] at a1 Fk lX;rw [Rb] at ec;rw [Q1] at yu;have qq:q2 t 0 (fun k=>X.getD k 0):=VO ai (fun k an=>NC k J) (fun c aw=>by
   have U:=lX (aY t 1+2*c) J;have ab:=lX (aY t 1+(2*c+1)) J;rw [JX J,KH J,Kt,show 2*c/2=c by omega] at U;rw [JX J,KH J,KQ,show (2*c+1)/2=c by omega] at ab;refine xK (by grind) (by grind))
  have Rz:q2 t 1 (fun k=>Y.getD k 0):=VO ai (fun k an=>Fk k J) (fun c aw=>by
   have U:=tI (aY t 0+c) J;have ab:=tI (aY t 0+ct t 1+c) J;obtain ⟨d1,d2⟩:=Xy aw Y;rw [d1,Hd J] at U;rw [d2,Hd J,ax J] at ab;unfold rU;by_cases e:c=0
   ·subst e;rw [aA J] at U ab;rw [aA rfl];refine xK (by grind) U
   ·rw [ax J,ax J] at U;rw [ax J] at ab;rw [ax e];refine xK (by grind) U)
  refine ⟨I,ar,a1,⟨qq,Rz,fun x' Cb=> ?_,fun Cr S1=> ?_⟩⟩
  ·show kW _ _ _ x' (fun k=>Y.getD k 0)≤V;rw [←yu,←J2 ai Cb (uV t Y)];unfold kW;refine Ky (fun i aa=> ?_);have U:=tI i J;rw [Xz aa,Hd J,ax J,ax J] at U;have ab:=Pt (Cb.qB i aa) (show b3 (fun j=>((fv t).getD i []).getD j 0*Y.getD j 0) (aY t 1)≤b3 (fun c=>hL t 0 c i*uV t Y c) (ct t 0) by grind);rw [n4,n4 (x' i)];exact ab
  ·show V≤kW _ _ _ (fun k=>X.getD k 0) Cr;rw [←ec,←J2 ai S1 (tE t X),aoD];refine Ky (fun j ae=> ?_);have U:=lX j J;rw [XA ae,Q2 ae] at U;have ab:=Pt (S1.qB j ae) (show b3 (fun c=>hL t 1 c j*tE t X c) (ct t 1)≤b3 (fun i=>((fv t).getD i []).getD j 0*X.getD i 0) (aY t 0) by grind);rw [n4,n4 (Cr j)];exact ab
 | @none Y hm a1 Fk tI yu=>
  exfalso;rw [tp] at tI;rw [em] at a1 Fk;rw [Q1] at yu;have bw:=VP (p:=1) ai (W:=fun k=>Y.getD k 0) (fun k an=>Fk k J) (fun c aw=>by
   have U:=tI (aY t 0+c) J;have ab:=tI (aY t 0+ct t 1+c) J;obtain ⟨d1,d2⟩:=Xy aw Y;rw [d1] at U;rw [d2] at ab;exact xK (by grind) U)
  have ay:0≤uV t Y 0:=by rw [←J2 ai Ry (uV t Y)];refine NW (fun i aa=>xH (Ry.qB i aa) ?_);have U:=tI i J;rw [Xz aa,e4 (n:=aY t 1) (g:=fun _=>0) (fun j ae=>by rw [bw j ae,uv]),pW] at U;grind
  exact Rat.not_le.2 yu ay
 | @free X R aI ar ad NC cV lX D4 dx=>
  exfalso;rw [tp] at ad cV;rw [em] at D4;rw [Rb] at dx;have bw:=VP (p:=0) ai (W:=fun k=>R.getD k 0) (fun k an=>cV k J) (fun c aw=>by
   have U:=D4 (aY t 1+2*c) J;have ab:=D4 (aY t 1+(2*c+1)) J;rw [JX J,Kt,show 2*c/2=c by omega] at U;rw [JX J,KQ,show (2*c+1)/2=c by omega] at ab;refine xK (by grind) (by grind))
  have ay:tE t R 0≤0:=by
   rw [←J2 ai RA (tE t R)];have bf:b3 (fun j=>wQ j*b3 (fun c=>hL t 1 c j*tE t R c) (ct t 1)) (aY t 1)≤b3 (fun _=>0) (aY t 1):=Ky (fun j ae=>by
    have U:=D4 j J;rw [XA ae,e4 (n:=aY t 0) (g:=fun _=>0) (fun i aa=>by rw [bw i aa,uv]),pW] at U;have ab:=Pt (RA.qB j ae) (show b3 (fun c=>hL t 1 c j*tE t R c) (ct t 1)≤0 by grind);rw [nq] at ab;rw [n4];exact ab)
   rwa [pW] at bf
  exact Rat.not_le.2 dx ay
end
end Go.aj.nm
namespace Go.aj.nm
open Go.aj.dZ Go.aj.cX Go.aj.dn Go.aj.c0
section
variable {t u:aK}
end
section
variable {t u:aK}
end
end Go.aj.nm
namespace Go.aj.Bd
open Go.aj.dZ Go.aj.cX Go.aj.dn Go.aj.c0
structure Zy (M:List (List Rat))(w:Nat)(v:Rat)(x y:List Rat):Prop where
 arx:x.length=M.length
 ary:y.length=w
 tH: ∀i,i<M.length→0≤x.getD i 0
 wQ: ∀j,j<w→0≤y.getD j 0
 xs:b3 (fun i=>x.getD i 0) M.length=1
 wR:b3 (fun j=>y.getD j 0) w=1
 up: ∀i,i<M.length→eC (M.getD i []) y≤v
 ji: ∀j,j<w→v≤eC (r0 M j) x
section
variable {M:List (List Rat)}{w:Nat}{v qF:Rat}{x y x' Cr:List Rat}
end
def agC (a:Rat)(l:List Rat):Rat:=l.foldl (fun a q=>if uC q a<0 then q else a) a
def agD (M:List (List Rat)):Rat:=M.foldl agC ((M.getD 0 []).getD 0 0)
def QV (M:List (List Rat)):Rat:=1-agD M
def acr (M:List (List Rat))(w:Nat):Prog:=⟨M.map (fun r=>r.map (fun q=>q+QV M)),List.replicate M.length 1,List.replicate w 1⟩
def y2 (M:List (List Rat))(w K L:Nat):Rat×List Rat×List Rat:=
 let r:=hy (acr M w) K L
 (1/r.V-QV M,r.Y.map (fun q=>q/r.V),r.X.map (fun q=>q/r.V))
section
variable {M:List (List Rat)}{w:Nat}
end
section
variable {M:List (List Rat)}{w:Nat}{v:Rat}{x y:List Rat}
end
def skip (i j:Nat):Nat:=if j<i then j else j+1
section
variable {M:List (List Rat)}{w:Nat}{v:Rat}{x y:List Rat}
end
end Go.aj.Bd
namespace Go.aj.Bd
open Go.aj.dZ Go.aj.cX Go.aj.dn Go.aj.c0
section
variable {M:List (List Rat)}{w:Nat}
structure Small (M:List (List Rat))(w K L:Nat):Prop where
 arl:Zy M w (y2 M w K L).1 (y2 M w K L).2.1 (y2 M w K L).2.2
 v:D 1300 (y2 M w K L).1
 r: ∀q∈(y2 M w K L).2.1,D 1320 q
 c: ∀q∈(y2 M w K L).2.2,D 1320 q
 rs:nL ((y2 M w K L).2.1.map dm)=0
 cs:nL ((y2 M w K L).2.2.map dm)=0
end
end Go.aj.Bd
namespace Go.aj.Bd
open Go.aj.dZ Go.aj.cX Go.aj.dn Go.aj.c0
theorem Z5 {l:List Rat}(h: ∀q∈l,eS q=true):(l.map dm).map cE=l:=by
 rw [xD]
 conv=>rhs;rw [←List.map_id l]
 exact k5 (fun q aB=>(Gt (h q aB)).2)
end Go.aj.Bd
namespace Go.aj.nm
open Go.aj.dZ Go.aj.cX Go.aj.dn Go.aj.c0
def rY (t:aK):Int:=
 if qV t≠0 then qV t else if¬(jo t 0=true∧jo t 1=true) then 10
 else if 13<aY t 0∨6<(cv t 0).length∨13<aY t 1∨6<(cv t 1).length then 2 else 0
structure Fit (t:aK):Prop where
 v:Valid t
 e:qV t=0
 oY:jo t 0=true
 c6:jo t 1=true
 cl:aY t 0≤13
 qA:aY t 1≤13
 i0:(cv t 0).length≤6
 i1:(cv t 1).length≤6
theorem Dw {t:aK}(h:rY t=0):Fit t:=by
 unfold rY at h;split at h
 ·rename_i U;exact absurd h U
 split at h
 ·cases h
 split at h
 ·cases h
 rename_i U ab ay;have U:=e0.1 U;have ab:=e0.1 ab;exact ⟨FU U,U,ab.1,ab.2,J,J,J,J⟩
def DA (t:aK)(p:Int)(W:Nat→Rat):List (Int×List Rat):=(cv t p).map (fun x=>(x,po t p W x))
def sO (t:aK)(p:Int)(W:Nat→Rat):da:=(DA t p W).map (fun x=>⟨x.1,x.2.map dm⟩)
def yX (t:aK)(p:Int)(W:Nat→Rat):Bool:=(DA t p W).all (fun x=>x.2.all eS)
abbrev QR:=di×da×da
def Dz (t:aK)(K L:Nat):QR×Int:=
 if rY t≠0 then (([],[],[]),rY t)
 else if eS (hy (en t) K L).V=true∧yX t 0 (fun k=>(hy (en t) K L).X.getD k 0)=true∧yX t 1 (fun k=>(hy (en t) K L).Y.getD k 0)=true then
  ((dm (hy (en t) K L).V,sO t 0 (fun k=>(hy (en t) K L).X.getD k 0),sO t 1 (fun k=>(hy (en t) K L).Y.getD k 0)),0)
 else (([],[],[]),2)
theorem XY {t:aK}(ai:Valid t)(p:Int): ∃W,q2 t p W:=⟨_,apc ai (N6 ai p (gR t)).mix⟩
theorem aor {t:aK}(h:Fit t){K L:Nat}(av:zd (en t) K L):
 (hy (en t) K L).kind=0∧(hy (en t) K L).X.length=aY t 0+2*ct t 1∧(hy (en t) K L).Y.length=aY t 1+2*ct t 0∧QL t (hy (en t) K L).V (fun k=>(hy (en t) K L).X.getD k 0) (fun k=>(hy (en t) K L).Y.getD k 0):=by obtain ⟨tH,f0⟩:=XY h.v 0;obtain ⟨wQ,f1⟩:=XY h.v 1;exact ajb h.v f0 f1 (aiY (Gz t) av)
def p4 (t:aK):List (List di)×Int:=
 if rY t≠0 then ([],rY t) else if (fv t).all (fun r=>r.all eS)=true then ((fv t).map (fun r=>r.map dm),0) else ([],2)
def ind (i k:Nat):Rat:=if k=i then 1 else 0
theorem Yn (i:Nat)(f:Nat→Rat){n:Nat}(aa:i<n):b3 (fun k=>ind i k*f k) n=f i:=by
 rw [e4 (g:=fun k=>if k=i then f i else 0) (fun k _=> ?_),yQ,aA aa];unfold ind;by_cases e:k=i
 ·subst e;rw [aA rfl,aA rfl,pB]
 ·rw [ax e,ax e,nq]
theorem Vh {t:aK}(ai:Valid t)(U:jo t 1=true)(b:Int→List Rat){i:Nat}(aa:i<aY t 0):
 b3 (fun j=>((fv t).getD i []).getD j 0*(ev t 1 b).getD j 0) (aY t 1)=(nM t 0 (ir t 0 b)).getD i 0:=by
 have lt: ∀e∈cC t,ke t 0 e<aY t 0∧ke t 1 e<aY t 1:=fun e he=>⟨(vw ai 0 (mZ he).1).2,(vw ai 1 (mZ he).1).2⟩
 have aH:=OX (pa:=ke t 0) (l7:=ke t 1) (v:=hN t (cj t (gR t))) (ind i) (fun j=>(ev t 1 b).getD j 0) (cC t) (JL (aY t 0) (aY t 1)) lt;rw [V7,jU] at aH;have aJ:kW (fv t) (aY t 0) (aY t 1) (ind i) (fun j=>(ev t 1 b).getD j 0)=b3 (fun j=>((fv t).getD i []).getD j 0*(ev t 1 b).getD j 0) (aY t 1):=by unfold kW;exact Yn i (fun i=>b3 (fun j=>((fv t).getD i []).getD j 0*(ev t 1 b).getD j 0) (aY t 1)) aa
 have la: ∀k,((List.range (aY t 0)).map (ind i)).getD k 0=if k<aY t 0 then ind i k else 0:=fun k=>by
  by_cases an:k<aY t 0
  ·rw [aA an];exact pV an
  ·rw [ax an];simp [List.getD,an]
 have bR:=O2 ((List.range (aY t 0)).map (ind i)) (r2 t 0 (cj t (ir t 0 b))) (hv t 0) (n:=aY t 0) (cC t) (List.replicate (aY t 0) 0) (fun e he=>(lt e he).1) (by rw [e8];exact bT _);rw [XB,jU] at bR;have jw:ng ((List.range (aY t 0)).map (ind i)) (nM t 0 (ir t 0 b)) (aY t 0)=(nM t 0 (ir t 0 b)).getD i 0:=by unfold ng;rw [e4 (g:=fun k=>ind i k*(nM t 0 (ir t 0 b)).getD k 0) (fun k an=>by rw [la,aA an])];exact Yn i _ aa
 rw [←aJ,←jw];have zz:kW (fv t) (aY t 0) (aY t 1) (ind i) (fun j=>(ev t 1 b).getD j 0)=ez 0 ((cC t).map (fun e=>ind i (ke t 0 e)*hN t (cj t (gR t)) e*(ev t 1 b).getD (ke t 1 e) 0)):=aH;have abB:ng ((List.range (aY t 0)).map (ind i)) (nM t 0 (ir t 0 b)) (aY t 0)=ez 0 ((cC t).map (fun e=>((List.range (aY t 0)).map (ind i)).getD ((hv t 0).getD e 0).toNat 0*r2 t 0 (cj t (ir t 0 b)) e)):=bR;rw [zz,abB];congr 1;refine k5 (fun e he=> ?_);have ad:(cj t (ir t 0 b)).getD e 0=(cj t (gR t)).getD e 0*(ev t 1 b).getD (ke t 1 e) 0:=by
  have aJ:cj t (ir t 0 b)=cj t (mh t 1 b (gR t)):=FC (fun i aa=>by
   unfold ir mh gR;by_cases h:own 1 (t.getD i aP)=true
   ·obtain ⟨U,ab⟩:=rH.1 h;rw [aA h,ax J,aA U,ax J]
   ·rw [ax h];split
    ·rfl
    ·split
     ·rename_i U ab;have ay: ¬(t.getD i aP).gr=1:=fun e=>h (rH.2 ⟨ab,e⟩);rw [aA (by have:=At ai aa ab;omega)]
     ·rfl) _ (bT _)
  rw [aJ,I7 ai U b (fun i aa ah=>by
   unfold gR;rw [ax (by have:=(rH.1 ah).1;omega)]) e (mZ he).1]
  rfl
 rw [la];have bD:=(lt e he).1;rw [aA (show ((hv t 0).getD e 0).toNat<aY t 0 from bD)];show ind i (ke t 0 e)*hN t (cj t (gR t)) e*(ev t 1 b).getD (ke t 1 e) 0=ind i (ke t 0 e)*r2 t 0 (cj t (ir t 0 b)) e;unfold r2 hN;rw [ax aT,ad];grind
theorem abW {l m:List Rat}(au:l.length=m.length)(h: ∀i,i<l.length→l.getD i 0=m.getD i 0):l=m:=by refine jS au (fun i aa aL=> ?_);have:=h i aa;simpa [List.getD,aa,aL] using this
theorem F7 (t:aK)(p:Int)(u:Int→List Rat):(ev t p u).length=aY t p:=CT _ _ _
theorem XW {t:aK}(F:Fit t){p:Int}(aF:p=0∨p=1){s:da}(av:lN t p s=0)(Hn: ∀c∈s,∀r∈c.c1,r.length≤12):
 DH t p s=((ev t p (eR s)).map dm,0)∧(∀q∈ev t p (eR s),eS q=true)∧(ev t p (eR s)).length≤13:=by
 have S:=(FF av).Ns Hn;have au:(ev t p (eR s)).length≤13:=by
  rw [F7];rcases aF with rfl|rfl
  ·exact F.cl
  ·exact F.qA
 have fy: ∀q∈ev t p (eR s),eS q=true:=fun q aB=>by obtain ⟨k,an,rfl⟩:=DZ.1 aB;have:=TD F.v S k (by have:=an;rw [F7] at this;exact this);rw [show (ev t p (eR s)).getD k 0=(ev t p (eR s))[k] by simp [List.getD,an]] at this;exact this.fit J
 have gX:rI t p=0:=by unfold rI;rw [ax (fun q=>q F.e),ax J]
 have wx:jo t p=true:=by
  rcases aF with rfl|rfl
  ·exact F.oY
  ·exact F.c6
 have dJ:y3 t p=0:=by unfold y3;rw [ax (fun q=>q gX),aA wx]
 refine ⟨?_,fy,au⟩;unfold DH lp;rw [ax (fun q=>q dJ),ax (fun q=>q av),aA (qh.2 fy)]
theorem ahN {t:aK}{a b:da}(hm:cX.Modest t)(h:(p4 t).2=0)(a8:lN t 0 a=0)(al:lN t 1 b=0)(yl: ∀c∈a,∀r∈c.c1,r.length≤12)(ym: ∀c∈b,∀r∈c.c1,r.length≤12):
 ∃x y w,DH t 0 a=(x,0)∧DH t 1 b=(y,0)∧rM (p4 t).1 y=(w,0)∧r1 x w=(dm (il t (j7 t (eR a) (eR b))),0):=by
 unfold p4 at h⊢;split at h
 ·rename_i U;exact absurd h U
 rename_i U;have U:=e0.1 U;have gO:(fv t).all (fun r=>r.all eS)=true:=by
  split at h
  ·assumption
  ·cases h
 rw [ax (fun q=>q U),aA gO];have F:=Dw U;obtain ⟨hE,iQ,nF⟩:=XW F (.inl rfl) a8 yl;obtain ⟨gu,h7,Cs⟩:=XW F (.inr rfl) al ym;have A:=(FF a8).Ns yl;have B:=(FF al).Ns ym;have pI:=Ka F.v;have jB: ∀r∈fv t,r.length=aY t 1:=fun r ad=>by
  obtain ⟨i,aa,rfl⟩:=DZ.1 ad;have:=pI.lA i (by rw [←pI.rows];exact aa)
  rwa [show (fv t).getD i []=(fv t)[i] by simp [List.getD,aa]] at this
 have aQ: ∀r∈fv t,∀q∈r,eS q=true:=fun r ad q aB=>qh.1 (qh.1 gO r ad) q aB;have cl:=F.cl;have qA:=F.qA;obtain ⟨_,m2,m3⟩:=agj (p:=aY t 0) (w:=aY t 1) pI.rows jB J J aQ;have back: ∀{l:List Rat},(∀q∈l,eS q=true)→(l.map dm).map cE=l:=fun aB=>Bd.Z5 aB;have Nx: ∀{l:List Rat},(∀q∈l,eS q=true)→l.length≤13→kf (l.map dm)=0:=fun aB au=>by
  unfold kf;rw [ax (by rw [cr];omega)];exact P2 (fun s av=>by
   obtain ⟨q,x1,rfl⟩:=cO.1 av;exact (Gt (aB q x1)).1)
 have xZ:=hm.sC F.v;have iM:=Nc F.v hm (p:=0) (u:=eR b) (.inl rfl) B;have dq:=VW F.v iM hm.len xZ 0;have ck:=Kx iM hm.len xZ F.v;have hw:rL (fv t) (ev t 1 (eR b))=(List.range (aY t 0)).map (fun i=>(nM t 0 (ir t 0 (eR b))).getD i 0):=by
  refine abW (by unfold rL;rw [cr,cr,gn,pI.rows]) (fun i aa=> ?_);have ko:i<aY t 0:=by unfold rL at aa;rw [cr,pI.rows] at aa;exact aa
  rw [amq _ _ (by rw [pI.rows];exact ko),sJ (pI.lA i ko),Vh F.v F.c6 (eR b) ko];exact (pV (f:=fun i=>(nM t 0 (ir t 0 (eR b))).getD i 0) (d:=0) ko).symm
 have H6: ∀q∈rL (fv t) (ev t 1 (eR b)),eS q=true:=by rw [hw];intro q aB;obtain ⟨i,_,rfl⟩:=cO.1 aB;exact (dq.short ck aT i).fit aT
 have MJ:(rL (fv t) (ev t 1 (eR b))).length≤13:=by rw [hw,cr,gn];exact cl
 refine ⟨_,_,(rL (fv t) (ev t 1 (eR b))).map dm,hE,gu,?_,?_⟩
 ·unfold rM lp;rw [ax (fun q=>q (agS m2)),ax (fun q=>q (Nx h7 Cs)),ax (fun q=>q.2 (by rw [m2.wid q.1,cr,F7])),m3,back h7,aA (qh.2 H6)]
 ·have sx:D 974 (il t (j7 t (eR a) (eR b))):=akN F.v (F8 F.v hm A B) hm.len xZ;have abJ:eC (ev t 0 (eR a)) (rL (fv t) (ev t 1 (eR b)))=il t (j7 t (eR a) (eR b)):=by rw [amn F.v F.oY F.c6,sJ (n:=aY t 0) (F7 _ _ _)];unfold kW;refine e4 (fun i aa=> ?_);congr 1;rw [Vh F.v F.c6 (eR b) aa,hw];exact pV aa
  unfold r1;rw [ax (fun q=>q (Nx iQ nF)),ax (fun q=>q (Nx H6 MJ)),aA (by rw [cr,cr,F7,hw,cr,gn]),back iQ,back H6,abJ];exact (Gt (sx.fit aT)).out
def bx (t:aK)(a b:da):Rat:=il t (j7 t (eR a) (eR b))
end Go.aj.nm
namespace Go.aj.cX
open Go.aj.dn
theorem W4 {b6 Z:List Int}: ∀{s:da} {k:Nat},(∀j,j<s.length→(s.getD j fe).info=b6.getD (k+j) 0∧(((s.getD j fe).c1.length:Nat):Int)=Z.getD (k+j) 0∧nL (s.getD j fe).c1=0)→ub b6 Z k s=0
 |[],k,h=>rfl
 |c::r,k,h=>by have aU:=h 0 bX;rw [ub,ax (by rintro (q|q);exact q aU.1;exact q aU.2.1),ax (fun q=>q aU.2.2)];exact W4 (fun j ae=>by have:=h (j+1) (by simpa using ae);rwa [show k+(j+1)=k+1+j by omega] at this)
theorem Pk {t:aK}{p:Int}{f:Int→List di}(h: ∀x∈cv t p,(f x).length=cm t p x∧nL (f x)=0):lN t p ((cv t p).map (fun x=>⟨x,f x⟩))=0:=by unfold lN;rw [cr,ax (fun q=>q rfl)];refine W4 (fun j ae=> ?_);rw [cr] at ae;rw [mY _ _ 0 _ _ ae,cT];have ar:(cv t p).getD j 0∈cv t p:=dt 0 ae;refine ⟨I,?_,(h _ ar).2⟩;unfold lq;rw [mY _ _ 0 _ _ ae,(h _ ar).1]
theorem alb {t:aK}(ai:Valid t){p x:Int}(ar:x∈cv t p):cm t p x≤6:=by obtain ⟨j,ae,av⟩:=(o6 ai).1 ar;rw [tT ai ae av];exact (VC (ai.nodes j ae)).2
end Go.aj.cX
namespace Go.aj.cX
open Go.aj.dn Go.aj.kD
def A7 (bp:List fk)(W:Nat→Rat)(x:Int)(k:Nat)(o:List Rat):List Rat:=
 if 0≤(bp.getD k cZ).before∧(bp.getD k cZ).info=x∧0<W (bp.getD k cZ).before.toNat then o.set (bp.getD k cZ).choice.toNat (W k/W (bp.getD k cZ).before.toNat) else o
def pn (bp:List fk)(W:Nat→Rat)(x:Int)(o:List Rat):Nat→List Rat
 |0=>o
 |k+1=>A7 bp W x k (pn bp W x o k)
theorem FW (bp:List fk)(W:Nat→Rat)(x:Int)(o:List Rat): ∀k,(pn bp W x o k).length=o.length
 |0=>rfl
 |k+1=>by
  rw [pn,A7];split
  ·rw [dd,FW bp W x o k]
  ·exact FW bp W x o k
theorem Xo {t:aK}(ai:Valid t){p x:Int}{s b:Nat}(h:xm t p x s b){k:Nat}(an:k<(bN t p).length)(aU:0≤((bN t p).getD k cZ).before)(aa:((bN t p).getD k cZ).info=x):s≤k∧k<s+cm t p x:=by
 have l1:=(hP.mm ai p t.length (bT _)).eX;have U:1≤k:=by
  rcases n2 k with e|e
  ·subst e;rw [(qI ai p).2.1] at aU;exact absurd aU aT
  ·exact e
 obtain ⟨y,c,wQ,gu,h7,Cs,II,IJ,ale,ND⟩:=Dp ai U an;have ab:=ND (k-y.2) J;rw [show y.2+(k-y.2)=k by omega] at ab;rw [ab] at aa;have aa:y.1=x:=aa;have e:y=(x,s):=by
  have hm:=h.mem;obtain ⟨i,aL,Ea⟩:=k3 wQ;obtain ⟨j,bd,Hg⟩:=k3 hm;have:i=j:=by refine (List.getElem_inj (i:=i) (j:=j) (h₀:=by rw [cr];exact aL) (h₁:=by rw [cr];exact bd) l1).1 ?_;rw [kK,kK,Ea,Hg];exact aa
  subst this;rw [←Ea,←Hg]
 subst e;exact ⟨h7,Cs⟩
theorem Yz {t:aK}(ai:Valid t){p x:Int}{s b:Nat}(h:xm t p x s b)(W:Nat→Rat): ∀k,k≤(bN t p).length→ ∀c,c<cm t p x→
 (pn (bN t p) W x (iT (cm t p x) 0) k).getD c 0=if s+c<k∧0<W b then W (s+c)/W b else (iT (cm t p x) 0).getD c 0
 |0,_,c,aw=>by rw [ax J];rfl
 |k+1,an,c,aw=>by
  have ba:=Yz ai h W k J c aw;rw [pn,A7];by_cases aU:0≤((bN t p).getD k cZ).before∧((bN t p).getD k cZ).info=x∧0<W ((bN t p).getD k cZ).before.toNat
  ·rw [aA aU];obtain ⟨ei,ew⟩:=Xo ai h J aU.1 aU.2.1;have av:=h.cA (k-s) J;rw [show s+(k-s)=k by omega] at av;rw [av] at aU⊢;have ay:0<W b:=aU.2.2;show ((pn (bN t p) W x (iT (cm t p x) 0) k).set ((k-s:Nat):Int).toNat (W k/W ((b:Nat):Int).toNat)).getD c 0=_;rw [cg,cg,Go.aj.dZ.fO,FW,ba];have hu:=(CA h.l9).1;by_cases e:c=k-s
   ·rw [aA ⟨e,J⟩,aA ⟨J,ay⟩,e,show s+(k-s)=k by omega]
   ·rw [ax (fun q=>e q.1)];by_cases bf:s+c<k
    ·rw [aA ⟨bf,ay⟩,aA ⟨J,ay⟩]
    ·rw [ax (fun q=>bf q.1),ax J]
  ·rw [ax aU,ba];by_cases ay:0<W b
   ·have cd:s+c≠k:=fun e=>by have av:=h.cA c aw;rw [e] at av;rw [av] at aU;exact aU ⟨D3 _,I,ay⟩
    by_cases bf:s+c<k
    ·rw [aA ⟨bf,ay⟩,aA ⟨J,ay⟩]
    ·rw [ax (fun q=>bf q.1),ax J]
   ·rw [ax (fun q=>ay q.2),ax (fun q=>ay q.2)]
theorem aaa {t:aK}(ai:Valid t){p x:Int}(ar:x∈cv t p)(W:Nat→Rat):pn (bN t p) W x (iT (cm t p x) 0) (bN t p).length=po t p W x:=by
 obtain ⟨s,b,h⟩:=AV ai ar;have hu:=(CA h.l9).1;have au:(po t p W x).length=cm t p x:=by
  unfold po;split
  ·rw [cr,gn]
  ·exact hu
 refine jS (by rw [FW,hu,au]) (fun c U ab=> ?_);have aw:c<cm t p x:=J;rw [←eo 0 U,←eo 0 ab,Yz ai h W _ (bT _) c aw];have aQ:=h.fin;by_cases ay:0<W b
 ·rw [aA ⟨J,ay⟩,aac h W ay aw]
 ·rw [ax (fun q=>ay q.2)];unfold po;rw [h.start,h.Bv,ax ay]
theorem aab {t:aK}(ai:Valid t){p x:Int}{W:Nat→Rat}{K:Nat}(dH:1≤K)(iM: ∀k,D K (W k))(ar:x∈cv t p):(po t p W x).length=cm t p x∧ ∀q∈po t p W x,D (K+K) q:=by
 obtain ⟨s,b,h⟩:=AV ai ar;have hu:=CA h.l9;unfold po;split
 ·rename_i al;refine ⟨by rw [cr,gn],fun q aB=> ?_⟩;obtain ⟨c,_,rfl⟩:=cO.1 aB;exact (iM _).div (iM _) (fun e=>by rw [e] at al;exact absurd al (by decide+kernel))
 ·exact ⟨hu.1,fun q aB=>(hu.2.2 q aB).2.mono J⟩
theorem akd {bp:List fk}{W:Nat→Rat}{x:Int}{k:Nat}{o:List Rat}(h: ¬(0≤(bp.getD k cZ).before∧(bp.getD k cZ).info=x∧0<W (bp.getD k cZ).before.toNat)):A7 bp W x k o=o:=ax h
theorem aow {bp:List fk}{W:Nat→Rat}{x:Int}{k b c:Nat}{o:List Rat}(h:bp.getD k cZ=⟨x,(c:Int),(b:Int)⟩)(al:0<W b):A7 bp W x k o=o.set c (W k/W b):=by unfold A7;rw [h];exact aA ⟨D3 _,I,al⟩
end Go.aj.cX
namespace Go.aj.nm
open Go.aj.dZ Go.aj.cX Go.aj.dn Go.aj.c0
structure s0 where
 rows:List (List Int)
 fst:List (Int×Nat)
def pf (n i:Nat)(q:fk)(s:s0):s0:=
 match fY s.fst q.info with
 |some k=>⟨s.rows.set k ((s.rows.getD k []).set (i+1) 1),s.fst⟩
 |none=>⟨s.rows++[((List.replicate n 0).set q.before.toNat (-1)).set (i+1) 1],s.fst++[(q.info,s.rows.length)]⟩
def q0 (n:Nat):List fk→Nat→s0→s0
 |[],_,s=>s
 |q::r,i,s=>q0 n r (i+1) (pf n i q s)
theorem I9 (n:Nat): ∀(a b:List fk) (i:Nat) (s:s0),q0 n (a++b) i s=q0 n b (i+a.length) (q0 n a i s)
 |[],b,i,s=>rfl
 |q::a,b,i,s=>by show q0 n (a++b) (i+1) _=_;rw [I9 n a b (i+1)];show q0 n b (i+1+a.length) _=q0 n b (i+(a.length+1)) _;rw [show i+1+a.length=i+(a.length+1) by omega];rfl
def rS (row:List Int)(i:Nat):Nat→List Int
 |0=>row
 |w+1=>(rS row i w).set (i+w) 1
theorem aoO (l:List (Int×Nat))(x:Int)(k:Nat)(h:x∉l.map Prod.fst):fY (l++[(x,k)]) x=some k:=by
 unfold fY;rw [List.find?_append];have:l.find? (fun e=>decide (e.1=x))=none:=by rw [List.find?_eq_none];intro e he;simp only [eL];exact fun q=>h (cO.2 ⟨e,he,q⟩)
 rw [this];simp
theorem anE (n:Nat)(x b:Int)(rows:List (List Int))(eW:List (Int×Nat))(h:x∉eW.map Prod.fst)(i:Nat): ∀w,1≤w→
 q0 n ((List.range w).map (fun k:Nat=>(⟨x,(k:Int),b⟩:fk))) i ⟨rows,eW⟩=⟨rows++[rS ((List.replicate n 0).set b.toNat (-1)) (i+1) w],eW++[(x,rows.length)]⟩:=by
 intro w hw;induction w with
 |zero=>omega
 |succ w ba=>
  rw [ti,gV,I9,cr,gn];by_cases aU:w=0
  ·subst aU;show q0 n [⟨x,((0:Nat):Int),b⟩] (i+0) ⟨rows,eW⟩=_;show pf n (i+0) ⟨x,((0:Nat):Int),b⟩ ⟨rows,eW⟩=_;unfold pf;have:fY eW x=none:=by unfold fY;rw [Option.map_eq_none_iff,List.find?_eq_none];intro e he;simp only [eL];exact fun q=>h (cO.2 ⟨e,he,q⟩)
   simp only [this];rfl
  ·rw [ba J];show pf n (i+w) ⟨x,(w:Int),b⟩ _=_;unfold pf;simp only [aoO eW x rows.length h];have aH:(rows++[rS ((List.replicate n 0).set b.toNat (-1)) (i+1) w]).getD rows.length []=rS ((List.replicate n 0).set b.toNat (-1)) (i+1) w:=by simp [List.getD]
   rw [aH,Bp _ _ (bT _),n1];show s0.mk (rows++[(rS _ (i+1) w).set (i+w+1) 1]) _=s0.mk (rows++[(rS _ (i+1) w).set (i+1+w) 1]) _;rw [show i+w+1=i+1+w by omega]
abbrev uq:=Int×Nat×Int
def gH (L:List uq):List fk:=L.flatMap (fun a=>(List.range a.2.1).map (fun k:Nat=>(⟨a.1,(k:Int),a.2.2⟩:fk)))
def y4 (n:Nat):Nat→List uq→List (List Int)
 |_,[]=>[]
 |i,a::r=>rS ((List.replicate n 0).set a.2.2.toNat (-1)) (i+1) a.2.1::y4 n (i+a.2.1) r
theorem Va (n:Nat): ∀(L:List uq) (i:Nat) (rows:List (List Int)) (eW:List (Int×Nat)),(∀a∈L,1≤a.2.1)→(L.map Prod.fst).Nodup→(∀a∈L,a.1∉eW.map Prod.fst)→
 (q0 n (gH L) i ⟨rows,eW⟩).rows=rows++y4 n i L
 |[],i,rows,eW,_,_,_=>by
  show rows=rows++[]
  rw [k2]
 |a::r,i,rows,eW,hw,aI,aQ=>by
  rw [k6,xG] at aI;show (q0 n ((List.range a.2.1).map (fun k:Nat=>(⟨a.1,(k:Int),a.2.2⟩:fk))++gH r) i ⟨rows,eW⟩).rows=_;rw [I9,anE n a.1 a.2.2 rows eW (aQ a (xx ..)) i a.2.1 (hw a (xx ..)),cr,gn,
   Va n r (i+a.2.1) _ _ (fun b al=>hw b (vP _ al)) aI.2 (fun b al q=> ?_)]
  ·show rows++[_]++y4 n (i+a.2.1) r=rows++(_::y4 n (i+a.2.1) r)
   rw [lz];rfl
  ·rw [gV,gM] at q;rcases q with q|q
   ·exact aQ b (vP _ al) q
   ·simp only [k6,th,hI] at q;exact aI.1 (cO.2 ⟨b,al,q⟩)
theorem JA (row:List Int)(i:Nat): ∀w,(rS row i w).length=row.length
 |0=>rfl
 |w+1=>by show ((rS row i w).set (i+w) 1).length=_;rw [dd,JA row i w]
theorem WB (row:List Int)(i j:Nat)(ae:j<row.length): ∀w,(rS row i w).getD j 0=if i≤j∧j<i+w then 1 else row.getD j 0
 |0=>by rw [ax J];rfl
 |w+1=>by
  show ((rS row i w).set (i+w) 1).getD j 0=_;rw [Go.aj.dZ.fO,JA,WB row i j ae w];by_cases h:j=i+w
  ·rw [aA ⟨h,J⟩,aA J]
  ·rw [ax (fun q=>h q.1)];by_cases ab:i≤j∧j<i+w
   ·rw [aA ab,aA J]
   ·rw [ax ab,ax J]
def p0:Nat→List uq→List (Int×Nat)
 |_,[]=>[]
 |s,a::r=>(a.1,s)::p0 (s+a.2.1) r
theorem NV (a b:List uq):gH (a++b)=gH a++gH b:=List.flatMap_append ..
theorem Us: ∀(a b:List uq) (s:Nat),p0 s (a++b)=p0 s a++p0 (s+(gH a).length) b
 |[],b,s=>rfl
 |x::a,b,s=>by
  show (x.1,s)::p0 (s+x.2.1) (a++b)=(x.1,s)::(p0 (s+x.2.1) a++_);rw [Us a b (s+x.2.1)];have:(gH (x::a)).length=x.2.1+(gH a).length:=by show ((List.range x.2.1).map (fun k:Nat=>(⟨x.1,(k:Int),x.2.2⟩:fk))++gH a).length=_;rw [c8,cr,gn]
  rw [this,ju]
theorem UO: ∀(a:List uq) (s:Nat),(p0 s a).map Prod.fst=a.map Prod.fst
 |[],_=>rfl
 |x::a,s=>by show x.1::(p0 (s+x.2.1) a).map Prod.fst=x.1::a.map Prod.fst;rw [UO a _]
theorem U4 {t:aK}(ai:Valid t)(p:Int): ∀i,i≤t.length→ ∃L:List uq,(dc t p i).cA=cZ::gH L∧(dc t p i).first=p0 1 L∧(L.map Prod.fst).Nodup∧ ∀a∈L,1≤a.2.1∧a.2.1=cm t p a.1
 |0,_=>⟨[],rfl,rfl,List.nodup_nil,fun a h=>by cases h⟩
 |i+1,aa=>by
  obtain ⟨L,U,ab,ay,bf⟩:=U4 ai p i J;show∃L:List uq,(fX p (t.getD i aP) i (dc t p i)).cA=cZ::gH L∧(fX p (t.getD i aP) i (dc t p i)).first=p0 1 L∧_
  unfold fX;by_cases q:own p (t.getD i aP)=true∧fY (dc t p i).first (t.getD i aP).info=none
  ·rw [aA q];obtain ⟨m1,m2,m3⟩:=ai.Il (show i<t.length by omega) q.1;refine ⟨L++[((t.getD i aP).info,(t.getD i aP).next.length,(dc t p i).pos.getD i 0)],?_,?_,?_,?_⟩
   ·show (dc t p i).cA++nI _ _=_;rw [U,NV];show cZ::(gH L++_)=cZ::(gH L++_);congr 2;show nI _ _=_++[]
    rw [k2];rfl
   ·show (dc t p i).first++[_]=_
    rw [ab,Us,U];show p0 1 L++[((t.getD i aP).info,(gH L).length+1)]=p0 1 L++[((t.getD i aP).info,1+(gH L).length)]
    rw [oO]
   ·rw [gV];refine List.nodup_append.2 ⟨ay,bX,fun a a8 b al e=> ?_⟩;simp only [k6,th,hI] at al;have:=Fy q.2;rw [ab,UO] at this;exact this (by rw [←al,←e];exact a8)
   ·intro a a8;rcases gM.1 a8 with r|r
    ·exact bf a r
    ·rw [hI.1 r];refine ⟨m3,(tT ai (show i<t.length by omega) ?_).symm⟩;have:=q.1;unfold own at this;unfold gG;simp_all
  ·rw [ax q];exact ⟨L,U,ab,ay,bf⟩
theorem aiT (n s w b:Nat):rS ((List.replicate n (0:Int)).set b (-1)) s w=(List.range n).map (fun j=>if s≤j∧j<s+w then 1 else if j=b then-1 else 0):=by
 have au:((List.replicate n (0:Int)).set b (-1)).length=n:=by rw [dd,e8]
 refine jS (by rw [JA,au,cr,gn]) (fun j U ab=> ?_);have ay:j<n:=by rw [JA,au] at U;exact U
 rw [←eo 0,WB _ _ _ (by rw [au];exact ay),Go.aj.dZ.fO,e8,kK,zr];have aU:(List.replicate n (0:Int)).getD j 0=0:=by simp [List.getD,ay]
 rw [aU];by_cases q:j=b
 ·subst q;rw [aA (⟨rfl,ay⟩:j=j∧j<n),aA rfl]
 ·rw [ax (fun e:j=b∧b<n=>q e.1),ax q]
def A5 (t:aK)(p:Int)(y:Int×Nat)(j:Nat):Int:=if y.2≤j∧j<y.2+cm t p y.1 then 1 else if j=vB t p y.2 then-1 else 0
theorem X4 {t:aK}{p:Int}(n:Nat): ∀(r l:List uq),bN t p=cZ::(gH l++gH r)→(∀a∈r,1≤a.2.1∧a.2.1=cm t p a.1)→
 y4 n (gH l).length r=(p0 (1+(gH l).length) r).map (fun y=>(List.range n).map (A5 t p y))
 |[],l,_,_=>rfl
 |a::r,l,h,hw=>by
  obtain ⟨l9,qH⟩:=hw a (xx ..);have al:a.2.2.toNat=vB t p (1+(gH l).length):=by
   unfold vB;rw [h,oO];have:(cZ::(gH l++gH (a::r))).getD ((gH l).length+1) cZ=⟨a.1,0,a.2.2⟩:=by
    have e:gH (a::r)=(List.range a.2.1).map (fun k:Nat=>(⟨a.1,(k:Int),a.2.2⟩:fk))++gH r:=rfl;obtain ⟨w,hw⟩: ∃w,a.2.1=w+1:=⟨a.2.1-1,J⟩
    rw [e,hw,List.range_succ_eq_map];simp [List.getD]
   rw [this]
  have av:(gH (l++[a])).length=(gH l).length+a.2.1:=by rw [NV,c8];congr 1;show ((List.range a.2.1).map _++[]).length=_;rw [k2,cr,gn]
  have ba:=X4 n r (l++[a]) (by
   rw [h,NV,lz];congr 2;show (List.range a.2.1).map _++gH r=((List.range a.2.1).map _++[])++gH r;rw [k2]) (fun b al=>hw b (vP _ al))
  rw [av] at ba;show rS _ ((gH l).length+1) a.2.1::y4 n ((gH l).length+a.2.1) r=(List.range n).map (A5 t p (a.1,1+(gH l).length))::(p0 (1+(gH l).length+a.2.1) r).map _;rw [ba,aiT,show 1+(gH l).length+a.2.1=1+((gH l).length+a.2.1) by omega];refine congrArg (· ::_) (k5 (fun j _=> ?_));show _=if 1+(gH l).length≤j∧j<1+(gH l).length+cm t p a.1 then (1:Int) else if j=vB t p (1+(gH l).length) then-1 else 0
  rw [←qH,←al,oO 1]
theorem aon {t:aK}(ai:Valid t)(p:Int)(n:Nat)(eT:List Int):(q0 n (bN t p).tail 0 ⟨[eT],[]⟩).rows=eT::(mg t p).map (fun y=>(List.range n).map (A5 t p y)):=by obtain ⟨L,U,ab,ay,bf⟩:=U4 ai p t.length (bT _);have U:bN t p=cZ::gH L:=U;rw [U];show (q0 n (gH L) 0 ⟨[eT],[]⟩).rows=_;rw [Va n L 0 _ _ (fun a a8=>(bf a a8).1) ay (fun a _ q=>by cases q)];show eT::y4 n 0 L=eT::_;have:=X4 (t:=t) (p:=p) n L [] (by rw [U];rfl) bf;have e:y4 n 0 L=(p0 1 L).map (fun y=>(List.range n).map (A5 t p y)):=this;rw [e,←ab]
structure nk (t:aK):Prop where
 len:t.length≤40
 c1: ∀n∈t,∀r∈n.c1,r.length≤12
 sC:oD t 24
theorem nk.of {t:aK}(hm:cX.Modest t)(ai:Valid t):nk t:=⟨hm.len,hm.c1,⟨fun i aa an=>((hm.sC ai).nu i aa an).mono aT⟩⟩
theorem FX {t:aK}(ai:Valid t)(hm:nk t):nU t (gR t) 12:=by
 refine ⟨fun i aa l au=> ?_⟩;unfold gR at au;by_cases U:(t.getD i aP).kind=1
 ·rw [aA U] at au;obtain rfl:=oG au;obtain ⟨g1,g2⟩:=UP ai aa U;obtain ⟨o1,o2,qC,sB⟩:=vh g2;have:=KB qC (fun q aB=>(sB q aB).1);refine ⟨by rw [cr];exact g1,fun q aB=>⟨(sB q aB).1,this q aB,?_⟩⟩;obtain ⟨s,av,rfl⟩:=cO.1 aB;exact (kg.self (o2 s av)).nu (hm.c1 _ (dt aP aa) s av) aT
 ·rw [ax U] at au;cases au
def Lb:Nat:=1441
def p9:Nat:=1500
theorem T8 {t:aK}(ai:Valid t)(hm:nk t):q1 t (gR t)<10^Lb:=by have fx:=GN (FX ai hm) t.length (bT _);rw [e7] at fx;have oR:=JY ai;have k8:=hm.len;exact Tj fx (Kl hm.sC) (by unfold Lb;omega)
theorem We {pa l7:Nat→Nat}{v:Nat→Rat}: ∀(l:List Nat) (e:Nat) (T:List (List Rat)),yr pa l7 v (l++[e]) T=rP (yr pa l7 v l T) (pa e) (l7 e) (v e)
 |[],e,T=>rfl
 |x::l,e,T=>We l e _
def qc (t:aK)(k:Nat):List (List Rat):=yr (ke t 0) (ke t 1) (hN t (cj t (gR t))) ((cC t).take k) (sV (aY t 0) (aY t 1))
theorem Wd (t:aK):qc t 0=sV (aY t 0) (aY t 1):=by unfold qc;rw [List.take_zero];rfl
theorem PS (t:aK):qc t (cC t).length=fv t:=by unfold qc fv;rw [e7]
theorem Wc (t:aK){k:Nat}(an:k<(cC t).length):qc t (k+1)=rP (qc t k) (ke t 0 ((cC t).getD k 0)) (ke t 1 ((cC t).getD k 0)) (hN t (cj t (gR t)) ((cC t).getD k 0)):=by unfold qc;rw [nZ an,We,eo 0 an]
theorem aku {t:aK}(ai:Valid t)(k:Nat):vH (qc t k) (aY t 0) (aY t 1):=PU _ (JL _ _) (fun e he=>(vw ai 0 (mZ (pz he)).1).2)
theorem anY (T:List (List Rat))(a b:Nat)(y:Rat)(i j:Nat):((rP T a b y).getD i []).getD j 0=((T.getD i []).getD j 0)∨((rP T a b y).getD i []).getD j 0=((T.getD a []).getD b 0+y):=by
 unfold rP;rw [Go.aj.dZ.fO];split
 ·rename_i h;rw [Go.aj.dZ.fO];split
  ·exact .inr I
  ·rw [h.1];exact .inl rfl
 ·exact .inl I
theorem PT {t:aK}(ai:Valid t)(hm:nk t): ∀k,k≤(cC t).length→ ∀i j,iH (q1 t (gR t)) (k*10^24) (((qc t k).getD i []).getD j 0)
 |0,_,i,j=>by
  rw [Wd];have:((sV (aY t 0) (aY t 1)).getD i []).getD j 0=(0:Rat):=by
   simp only [sV,List.getD,oM];split
   ·simp only [px,oM];split<;>rfl
   ·rfl
  rw [this];exact iH.zero _ _
 |k+1,an,i,j=>by
  have ba:=PT ai hm k J;have bO:k<(cC t).length:=J;obtain ⟨i1,i2⟩:=mZ (dt (l:=cC t) 0 bO);rw [Wc t bO];have aH:(k+1)*10^24=k*10^24+10^24:=by rw [dK,qi]
  rw [aH];rcases anY (qc t k) (ke t 0 ((cC t).getD k 0)) (ke t 1 ((cC t).getD k 0)) (hN t (cj t (gR t)) ((cC t).getD k 0)) i j with e|e
  ·rw [e];exact (ba i j).mono (n0 _ _)
  ·rw [e];have:=O4 ai (FX ai hm) hm.sC (p:=0) i1 i2;exact (ba _ _).add this
theorem Ub {t:aK}(ai:Valid t)(hm:nk t){k:Nat}(an:k≤(cC t).length)(i j:Nat):D p9 (((qc t k).getD i []).getD j 0):=by
 have ck:=T8 ai hm;have aU:=Pl t (gR t);have he:(cC t).length≤t.length:=by unfold cC;refine dN (tg _ _) ?_;rw [gn];exact bT _
 have au:=hm.len;have gq:k*10^24≤10^26:=dN (er _ (show k≤40 by omega)) aT;refine (PT ai hm k an i j).D J ?_ (gL ck (fF aT aT));refine q5 (er _ gq) ?_;have:=(Nat.mul_lt_mul_left (a:=10^26) (lW aT)).2 ck;rw [←iI] at this;exact gL this (fF aT aT)
theorem Uc {t:aK}(ai:Valid t)(hm:nk t)(i j:Nat):D p9 (((fv t).getD i []).getD j 0):=by rw [←PS];exact Ub ai hm (bT _) i j
theorem P6 (t:aK)(p:Int)(c j:Nat):D p9 (hL t p c j):=by
 have aU:D p9 (0:Rat):=DB 1499;have U:D p9 (1:Rat):=Nb 1499;have ab:D p9 (-1:Rat):=U.neg;unfold hL;split
 ·split
  ·exact U
  ·exact aU
 ·split
  ·exact U
  ·split
   ·exact ab
   ·exact aU
theorem T3 (r:Nat){q:Rat}(h:D p9 q):D p9 (qE r*q):=by
 unfold qE;split
 ·rw [pB];exact h
 ·rw [show (-1:Rat)*q= -q by grind];exact h.neg
theorem ajY {t:aK}(ai:Valid t)(hm:nk t):(en t).GO p9:=by
 have aU:D p9 (0:Rat):=DB 1499;have U:D p9 (1:Rat):=Nb 1499;refine ⟨fun r ad q aB=> ?_,fun q aB=> ?_,fun q aB=> ?_⟩
 ·rcases gM.1 ad with h|h
  ·obtain ⟨j,_,rfl⟩:=cO.1 h;obtain ⟨i,_,rfl⟩:=cO.1 aB;show D p9 (if i<aY t 0 then _ else if i<aY t 0+ct t 1 then _ else _);split
   ·exact (Uc ai hm i j).neg
   ·split
    ·exact P6 t 1 _ j
    ·exact (P6 t 1 _ j).neg
  ·obtain ⟨j,_,rfl⟩:=cO.1 h;obtain ⟨i,_,rfl⟩:=cO.1 aB;show D p9 (if i<aY t 0 then _ else _);split
   ·exact T3 j (P6 t 0 _ i)
   ·exact aU
 ·rcases gM.1 aB with h|h
  ·rw [G2 h];exact aU
  ·obtain ⟨r,_,rfl⟩:=cO.1 h;refine T3 r ?_;unfold rU;split
   ·exact U
   ·exact aU
 ·obtain ⟨i,_,rfl⟩:=cO.1 aB;show D p9 (if i=aY t 0 then _ else if i=aY t 0+ct t 1 then _ else _);split
  ·exact U
  ·split
   ·exact U.neg
   ·exact aU
def eT (n:Nat):List Int:=(List.replicate n 0).set 0 1
def lL (bp:List fk)(i:Nat):s0:=q0 bp.length (bp.tail.take i) 0 ⟨[eT bp.length],[]⟩
structure xn (n:Nat)(cV:List Int)(s:s0):Prop where
 hd:s.rows=cV::s.rows.tail
 len: ∀r∈s.rows.tail,r.length=n
 fst: ∀y∈s.fst,1≤y.2∧y.2≤s.rows.tail.length
theorem VR {n i k:Nat}{cV:List Int}{q:fk}{s:s0}(mo:xn n cV s)(cH:fY s.fst q.info=some k):
 ∃j,k=j+1∧j<s.rows.tail.length∧(pf n i q s).rows.tail=s.rows.tail.set j ((s.rows.tail.getD j []).set (i+1) 1)∧(pf n i q s).fst=s.fst∧xn n cV (pf n i q s):=by
 obtain ⟨U,ab⟩:=mo.fst _ (wW cH);have U:1≤k:=U;have ab:k≤s.rows.tail.length:=ab;obtain ⟨j,rfl⟩: ∃j,k=j+1:=⟨k-1,J⟩
 have e:pf n i q s=⟨s.rows.set (j+1) ((s.rows.getD (j+1) []).set (i+1) 1),s.fst⟩:=by unfold pf;simp only [cH]
 have hd:=mo.hd;have aJ:s.rows.set (j+1) ((s.rows.getD (j+1) []).set (i+1) 1)=cV::s.rows.tail.set j ((s.rows.tail.getD j []).set (i+1) 1):=by rw [hd];rfl
 rw [aJ] at e;rw [e];refine ⟨j,I,J,I,I,I,fun r ad=> ?_,fun y a1=> ?_⟩
 ·rcases zk (show r∈s.rows.tail.set j _ from ad) with h|h
  ·exact mo.len r h
  ·rw [h,dd];exact mo.len _ (dt [] (show j<s.rows.tail.length by omega))
 ·show 1≤y.2∧y.2≤(s.rows.tail.set j _).length;rw [dd];exact mo.fst y a1
theorem Vw {n i:Nat}{cV:List Int}{q:fk}{s:s0}(mo:xn n cV s)(cH:fY s.fst q.info=none):
 (pf n i q s).rows.tail=s.rows.tail++[((List.replicate n 0).set q.before.toNat (-1)).set (i+1) 1]∧(pf n i q s).fst=s.fst++[(q.info,s.rows.tail.length+1)]∧xn n cV (pf n i q s):=by
 have hd:=mo.hd;have e:pf n i q s=⟨cV::(s.rows.tail++[((List.replicate n 0).set q.before.toNat (-1)).set (i+1) 1]),s.fst++[(q.info,s.rows.tail.length+1)]⟩:=by
  unfold pf;simp only [cH];have ab:s.rows.length=s.rows.tail.length+1:=by rw [hd];rfl
  rw [ab];rw [hd];rfl
 rw [e];refine ⟨I,I,I,fun r ad=> ?_,fun y a1=> ?_⟩
 ·rcases gM.1 (show r∈s.rows.tail++[_] from ad) with h|h
  ·exact mo.len r h
  ·rw [hI.1 h,dd,dd,e8]
 ·show 1≤y.2∧y.2≤(s.rows.tail++[_]).length;rw [c8];rcases gM.1 (show y∈s.fst++[_] from a1) with h|h
  ·have:=mo.fst y h;exact ⟨this.1,Nat.le_add_right_of_le this.2⟩
  ·rw [hI.1 h];exact ⟨Nat.le_add_left 1 _,bT _⟩
theorem U0 {bp:List fk}{i:Nat}(h:i+1<bp.length):lL bp (i+1)=pf bp.length i (bp.getD (i+1) cZ) (lL bp i):=by
 have au:i<bp.tail.length:=by rw [List.length_tail];omega
 unfold lL;rw [nZ au,I9,fc,hY (q7 au),cT,List.getElem_tail,←eo cZ h];rfl
theorem U1 (bp:List fk):xn bp.length (eT bp.length) (lL bp 0):=
 ⟨rfl,fun r ad=>(zv ad).elim,fun y a1=>(zv a1).elim⟩
theorem UZ {bp:List fk}: ∀i,i<bp.length→xn bp.length (eT bp.length) (lL bp i)
 |0,_=>U1 bp
 |i+1,h=>by
  have ba:=UZ (bp:=bp) i J;rw [U0 h];cases cH:fY (lL bp i).fst (bp.getD (i+1) cZ).info with
  |none=>exact (Vw ba cH).2.2
  |some k=>obtain ⟨_,_,_,_,_,e⟩:=VR (i:=i) ba cH;exact e
def lP (t:aK)(p:Int):List (List Int):=(lL (bN t p) (aY t p-1)).rows
theorem amQ {t:aK}(ai:Valid t)(p:Int):xn (aY t p) (eT (aY t p)) (lL (bN t p) (aY t p-1)):=
 UZ _ (by have:=(qI ai p).2.2.1;show (bN t p).length-1<(bN t p).length;omega)
theorem JU {t:aK}(ai:Valid t)(p:Int):lP t p=eT (aY t p)::(mg t p).map (fun y=>(List.range (aY t p)).map (A5 t p y)):=by unfold lP lL;rw [kI (by rw [List.length_tail];exact bT _)];exact aon ai p (aY t p) (eT (aY t p))
theorem OI {t:aK}(ai:Valid t)(p:Int):(lP t p).length=ct t p:=by rw [JU ai];unfold ct;rw [gK,cr,oO]
theorem OJ {t:aK}(ai:Valid t)(p:Int){c:Nat}(aw:c<ct t p):((lP t p).getD c []).length=aY t p:=by
 rw [JU ai];cases c with
 |zero=>show (eT _).length=_;unfold eT;rw [dd,e8]
 |succ c=>
  have aw:c<(mg t p).length:=by unfold ct at aw;omega
  show (((mg t p).map _).getD c []).length=_;rw [eo [] (by rw [cr];exact aw),kK,cr,gn]
theorem OH {t:aK}(ai:Valid t)(p:Int){c j:Nat}(aw:c<ct t p)(ae:j<aY t p):((((lP t p).getD c []).getD j 0:Int):Rat)=hL t p c j:=by
 rw [JU ai];unfold hL;cases c with
 |zero=>
  show (((eT _).getD j 0:Int):Rat)=_;unfold eT;rw [Go.aj.dZ.fO,e8,aA rfl];have aU:(List.replicate (aY t p) (0:Int)).getD j 0=0:=by simp [List.getD,ae]
  rw [aU];by_cases q:j=0
  ·rw [aA ⟨q,J⟩,aA q];rfl
  ·rw [ax (fun e=>q e.1),ax q];rfl
 |succ c=>
  have aw:c<(mg t p).length:=by unfold ct at aw;omega
  show ((((((mg t p).map _).getD c []).getD j 0:Int)):Rat)=_;rw [ax J,eo [] (by rw [cr];exact aw),kK,eo 0 (by rw [cr,gn];exact ae),kK,zr];have e:uf t p (c+1)=(mg t p)[c]:=by unfold uf;exact eo _ aw
  rw [e];unfold A5;split
  ·rfl
  ·split<;>rfl
def iG (W:Nat)(f:Nat→Rat)(P:Nat→Bool):List Rat:=(List.range W).map (fun x=>if P x=true then f x else 0)
theorem Da (W:Nat)(f:Nat→Rat)(P:Nat→Bool):(iG W f P).length=W:=by unfold iG;rw [cr,gn]
theorem PM {W:Nat}{f:Nat→Rat}{P:Nat→Bool}{y:Nat}(h:y<(iG W f P).length):(iG W f P)[y]=if P y=true then f y else 0:=by simp [iG]
theorem J9 {W:Nat}{f:Nat→Rat}{P Q:Nat→Bool}{x:Nat}(h: ∀y,Q y=(P y||decide (y=x))):(iG W f P).set x (f x)=iG W f Q:=by
 refine jS (by rw [dd,Da,Da]) (fun y U ab=> ?_);rw [xF,PM,PM,h y];by_cases e:y=x
 ·subst e;rw [aA rfl,fG rfl,Bool.or_true,aA rfl]
 ·rw [ax (fun q=>e q.symm),fT e,Bool.or_false]
theorem WS (W:Nat)(f:Nat→Rat){P:Nat→Bool}(h: ∀y,P y=false):iG W f P=List.replicate W 0:=by refine jS (by rw [Da,e8]) (fun y U ab=> ?_);rw [PM,h y,Bt,ax tk]
theorem X3 {W:Nat}{f:Nat→Rat}{P:Nat→Bool}(h: ∀y,y<W→P y=false→f y=0):iG W f P=(List.range W).map f:=by
 refine k5 (fun y a1=> ?_);cases e:P y
 ·rw [ax tk,h y (xw.1 a1) e]
 ·rw [aA rfl]
theorem anC {W:Nat}{f:Nat→Rat}{P Q:Nat→Bool}(h: ∀y,P y=Q y):iG W f P=iG W f Q:=by rw [show P=Q from funext h]
theorem XJ (y i:Nat):decide (y<i+1)=(decide (y<i)||decide (y=i)):=by rw [xv,vT,eL,eL,eL];omega
def lk (M:List (List Rat))(F:List (List Int))(n k j x:Nat):Rat:=
 if x<n then-((M.getD x []).getD j 0) else if x<n+k then (((F.getD (x-n) []).getD j 0:Int):Rat) else-((((F.getD (x-n-k) []).getD j 0:Int):Rat))
def l8 (s:Nat):Int:=if s=0 then 1 else-1
def qD (E:List (List Int))(n r x:Nat):Rat:=if x<n then ((l8 (r%2)*(E.getD (r/2) []).getD x 0:Int):Rat) else 0
def Ak (M:List (List Rat))(F:List (List Int))(n k j:Nat):List Rat:=(List.range (n+2*k)).map (lk M F n k j)
def Aj (E:List (List Int))(n k r:Nat):List Rat:=(List.range (n+2*k)).map (qD E n r)
def lj (M:List (List Rat))(E F:List (List Int))(n m k r:Nat):List (List Rat):=(List.range m).map (Ak M F n k)++(List.range r).map (Aj E n k)
def qk (r:Nat):Int:=if r/2=0 then l8 (r%2) else 0
def nD (m r:Nat):List Rat:=List.replicate m 0++(List.range r).map (fun r=>((qk r:Int):Rat))
def wK (n k:Nat):List Rat:=((List.replicate (n+2*k) (0:Rat)).set n 1).set (n+k) (-1)
theorem KP (M:List (List Rat))(E F:List (List Int))(n m k r:Nat):(lj M E F n m k r).length=m+r:=by unfold lj;rw [c8,cr,cr,gn,gn]
theorem Qp (m r:Nat):(nD m r).length=m+r:=by unfold nD;rw [c8,e8,cr,gn]
theorem ahF (M:List (List Rat))(E F:List (List Int))(n k j:Nat):lj M E F n (j+1) k 0=lj M E F n j k 0++[Ak M F n k j]:=by unfold lj;rw [ti,gV,List.range_zero,th,k2,k2];rfl
theorem ahG (M:List (List Rat))(E F:List (List Int))(n m k r:Nat):lj M E F n m k (r+1)=lj M E F n m k r++[Aj E n k r]:=by unfold lj;rw [ti,gV,←lz];rfl
theorem ahH (m r:Nat):nD m (r+1)=nD m r++[((qk r:Int):Rat)]:=by unfold nD;rw [ti,gV,←lz];rfl
theorem ahI (m:Nat):nD m 0=List.replicate m 0:=by unfold nD;rw [List.range_zero,th,k2]
def fs (n k c y:Nat):Bool:=decide (y<n+c)||(decide (n+k≤y) && decide (y<n+k+c))
theorem ahD (n k y:Nat):decide (y<n)=fs n k 0 y:=by unfold fs;rw [xv,vT,eb,eL,eL,eL,eL];omega
theorem ahC (M:List (List Rat))(F:List (List Int))(n k j c:Nat)(aw:c<k):
 ((iG (n+2*k) (lk M F n k j) (fs n k c)).set (n+c) (((F.getD c []).getD j 0:Int):Rat)).set (n+k+c) (((-((F.getD c []).getD j 0):Int)):Rat)=iG (n+2*k) (lk M F n k j) (fs n k (c+1)):=by
 have aH:lk M F n k j (n+c)=(((F.getD c []).getD j 0:Int):Rat):=by unfold lk;rw [ax J,aA J,show n+c-n=c by omega]
 have aJ:lk M F n k j (n+k+c)=(((-((F.getD c []).getD j 0):Int)):Rat):=by unfold lk;rw [ax J,ax J,show n+k+c-n-k=c by omega,Rat.intCast_neg]
 rw [←aH,←aJ,J9 (Q:=fun y=>fs n k c y||decide (y=n+c)) (fun y=>rfl)];refine J9 (fun y=> ?_);unfold fs;rw [xv];simp only [vT,eb,eL];omega
theorem ahB (M:List (List Rat))(F:List (List Int))(n k j:Nat):iG (n+2*k) (lk M F n k j) (fs n k k)=Ak M F n k j:=by refine X3 (fun y a1 aF=> ?_);unfold fs at aF;simp only [Bool.or_eq_false_iff,Bool.and_eq_false_iff,GY] at aF;omega
theorem ahJ (E:List (List Int))(n k r:Nat):iG (n+2*k) (qD E n r) (fun y=>decide (y<n))=Aj E n k r:=by refine X3 (fun y a1 aF=> ?_);have aF:=of_decide_eq_false aF;unfold qD;rw [ax aF]
end Go.aj.nm
namespace Go.aj.c0
open Go.aj.dZ Go.aj.cX Go.aj.dn
theorem agv (p:Prog)(s:cq):dF (fun q=> -((hS p.C).getD q 0)*s.den) 0 (List.replicate (p.N+1) 0) p.n=mi (e2 p) p.N s 0:=by
 have hw:=nQ p;refine w0 (n:=p.N+1) (by rw [qP];simp) (Jr ..) (fun j ae=> ?_);rw [rF _ _ _ (by simpa using ae),Jq ae];show _=s.den*e2 p j-0;unfold e2;by_cases h:j<p.n
 ·rw [aA h,aA h,Bs,n3]
 ·rw [ax h,ax h,hR,Bs];simp [List.getD,ae]
theorem YG {p:Prog}{k:Nat}(an:p.s8 k)(j:Nat):(e2 p j).natAbs≤10^p.E k:=by
 unfold e2;split
 ·rename_i h;rw [se];exact an.NB _ h
 ·exact b7 _
theorem anT {p:Prog}{k E:Nat}{s:cq}{i j:Nat}(an:p.s8 k)(aa:i≤98)(h: ∀q,q<i→(az s.rows q j).natAbs≤10^E)(hd:s.den.natAbs≤10^E)(ae:j<p.N+1):((mi (e2 p) p.N s i).getD j 0).natAbs≤10^(p.E k+E+2):=by
 rw [Jq ae];have U:=Po (B:=10^(p.E k+E)) (n:=i) (f:=fun q=>e2 p (s.basis.getD q 0)*az s.rows q j) (fun q aB=>by
  show (e2 p (s.basis.getD q 0)*az s.rows q j).natAbs≤_;rw [kh,iI];exact jT (YG an _) (h q aB))
 have ab:(s.den*e2 p j).natAbs≤10^(p.E k+E):=by rw [kh,iI,hj];exact jT (YG an _) hd
 have ay:=Int.natAbs_sub_le (s.den*e2 p j) (cb (fun q=>e2 p (s.basis.getD q 0)*az s.rows q j) i);have bf:i*10^(p.E k+E)≤98*10^(p.E k+E):=er _ aa;rw [iI];generalize 10^(p.E k+E)=B at*;omega
theorem anQ {p:Prog}{j:Nat}(h: ¬(j<p.n∧(hS p.C).getD j 0≠0)):e2 p j=0:=by
 unfold e2;split
 ·rename_i U;have:(hS p.C).getD j 0=0:=Decidable.byContradiction (fun q=>h ⟨U,q⟩);rw [this];rfl
 ·rfl
theorem aaU {p:Prog}{j:Nat}(h:j<p.n): -(e2 p j)=(hS p.C).getD j 0:=by unfold e2;rw [aA h,Int.neg_neg]
theorem Ui (p:Prog)(s:cq)(d:Int):lI p s d=(List.range p.m).map (fun i=>((List.range p.m).map (fun i=>Rat.divInt (az s.rows p.m (p.n+i)) d)).getD i 0*(((((List.range p.m).map p.eu).getD i 0:Nat)):Rat)):=by
 unfold lI;refine k5 (fun i aa=> ?_);have aa:i<p.m:=by simpa using aa
 rw [show ((List.range p.m).map (fun i=>Rat.divInt (az s.rows p.m (p.n+i)) d)).getD i 0=Rat.divInt (az s.rows p.m (p.n+i)) d from pV aa,show ((List.range p.m).map p.eu).getD i 0=p.eu i from pV aa]
theorem apr {p:Prog}{K L:Nat}(h:0<p.a∧az (gw p K).rows p.m p.N<0):hy p K L=⟨1,[],lI p (gw p K) (gw p K).den,[],0⟩:=by unfold hy;rw [aA h]
theorem apq {p:Prog}{K L:Nat}(h: ¬(0<p.a∧az (gw p K).rows p.m p.N<0))(ab:gT p.m (p.n+p.m) (jQ p K L)<p.n+p.m):hy p K L=⟨2,mA p (jQ p K L),[],pq p (jQ p K L) (gT p.m (p.n+p.m) (jQ p K L)),0⟩:=by unfold hy;rw [ax h,aA ab]
theorem apo {p:Prog}{K L:Nat}(h: ¬(0<p.a∧az (gw p K).rows p.m p.N<0))(ab: ¬gT p.m (p.n+p.m) (jQ p K L)<p.n+p.m):hy p K L=⟨0,mA p (jQ p K L),lI p (jQ p K L) ((jQ p K L).den*(p.cG:Nat)),[],Rat.divInt (az (jQ p K L).rows p.m p.N) ((jQ p K L).den*(p.cG:Nat))⟩:=by unfold hy;rw [ax h,ax ab]
theorem aaQ (p:Prog)(s:cq):gT p.m (p.n+p.m) s≤p.n+p.m:=dN (Fx s.rows p.m (p.n+p.m) 0).2.1 J
end Go.aj.c0
namespace Go.aj.nm
open Go.aj.dZ Go.aj.cX Go.aj.dn Go.aj.c0
theorem T1 (r:Nat):((l8 (r%2):Int):Rat)=qE r:=by unfold l8 qE;split<;>rfl
theorem ajV {t:aK}(ai:Valid t):lj (fv t) (lP t 0) (lP t 1) (aY t 0) (aY t 1) (ct t 1) (2*ct t 0)=(en t).A:=by
 show (List.range (aY t 1)).map _++(List.range (2*ct t 0)).map _=(List.range (aY t 1)).map (qZ t)++(List.range (2*ct t 0)).map (sU t);congr 1
 ·refine k5 (fun j ae=> ?_);have ae:=xw.1 ae;unfold Ak qZ;refine k5 (fun i aa=> ?_);have aa:=xw.1 aa;unfold lk;by_cases U:i<aY t 0
  ·rw [aA U,aA U]
  ·rw [ax U,ax U];by_cases ab:i<aY t 0+ct t 1
   ·rw [aA ab,aA ab,OH ai 1 J ae]
   ·rw [ax ab,ax ab,OH ai 1 J ae]
 ·refine k5 (fun r ad=> ?_);have ad:=xw.1 ad;unfold Aj sU;refine k5 (fun i aa=> ?_);unfold qD;by_cases U:i<aY t 0
  ·rw [aA U,aA U,tf,T1,OH ai 0 J U]
  ·rw [ax U,ax U]
theorem ajW (t:aK):nD (aY t 1) (2*ct t 0)=(en t).B:=by
 show _++(List.range (2*ct t 0)).map _=_++(List.range (2*ct t 0)).map _;congr 1;refine k5 (fun r ad=> ?_);unfold qk rU;split
 ·rw [T1,Rat.mul_one]
 ·rw [uv];rfl
theorem ajX (t:aK)(h:0<ct t 1):wK (aY t 0) (ct t 1)=(en t).C:=by
 show _=(List.range (aY t 0+2*ct t 1)).map _;unfold wK;refine jS (by rw [dd,dd,e8,cr,gn]) (fun i U ab=> ?_);rw [kK,zr,xF,xF,Bt];by_cases aH:aY t 0+ct t 1=i
 ·rw [aA aH,ax J,aA aH.symm]
 ·rw [ax aH];by_cases aJ:aY t 0=i
  ·rw [aA aJ,aA aJ.symm]
  ·rw [ax aJ,ax (fun q=>aJ q.symm),ax (fun q=>aH q.symm)]
theorem Dx {t:aK}(ai:Valid t)(p:Int):ct t p=1+(cv t p).length:=by
 have h:=hP.mm ai p t.length (bT _);have HT:((dc t p t.length).first.map Prod.fst).Perm (cv t p):=
  (List.perm_ext_iff_of_nodup h.eX (Fs t p)).2 (fun x=>by rw [h.keys x,o6 ai])
 have:=HT.length_eq;rw [cr] at this;unfold ct;show 1+(dc t p t.length).first.length=_
 rw [this]
theorem JF {t:aK}(h:Fit t):(en t).n≤27∧(en t).m≤27:=by rw [GL,GK];have:=Dx h.v 0;have:=Dx h.v 1;have:=h.cl;have:=h.qA;have:=h.i0;have:=h.i1;omega
theorem T6 {t:aK}(h:Fit t):(en t).T 400≤324856:=by obtain ⟨U,ab⟩:=JF h;unfold Prog.T Prog.E;exact jT (show 400+400*((en t).n+1)+2≤11602 by omega) (show (en t).m+1≤28 by omega)
theorem ajZ {t:aK}(h:Fit t):(en t).W 400≤400000:=by obtain ⟨U,ab⟩:=JF h;have b2:=T6 h;unfold Prog.W;omega
def eP (B:Nat)(q:Rat):Prop:=q.den∣B∧q.num.natAbs≤10^26*q.den
theorem eP.neg {B:Nat}{q:Rat}(h:eP B q):eP B (-q):=by refine ⟨h.1,?_⟩;show (-q.num).natAbs≤_;rw [se];exact h.2
theorem eP.zero (B:Nat):eP B 0:=⟨Nat.one_dvd _,b7 _⟩
theorem eP.one (B:Nat):eP B 1:=⟨Nat.one_dvd _,by show 1≤10^26*1;decide⟩
theorem eP.fin {B M:Nat}{q:Rat}(h:iH B M q)(ck:B≠0)(gq:M≤10^26):eP B q:=by refine ⟨h.sl.den ck,?_⟩;have gy:=KM h.le;have a2:=KM h.ge;have a2: -q.num≤(M:Int)*(q.den:Int):=a2;have a4:((M*q.den:Nat):Int)=(M:Int)*(q.den:Int):=Int.natCast_mul _ _;have a5:M*q.den≤10^26*q.den:=er _ gq;omega
theorem Pf (B:Nat)(t:aK)(p:Int)(c j:Nat):eP B (hL t p c j):=by
 unfold hL;split
 ·split
  ·exact eP.one B
  ·exact eP.zero B
 ·split
  ·exact eP.one B
  ·split
   ·exact (eP.one B).neg
   ·exact eP.zero B
theorem T2 {B:Nat}(r:Nat){q:Rat}(h:eP B q):eP B (qE r*q):=by
 unfold qE;split
 ·rw [pB];exact h
 ·rw [show (-1:Rat)*q= -q by grind];exact h.neg
theorem Zh {t:aK}(aQ:Fit t)(hm:nk t):(en t).s8 400:=by
 have ai:=aQ.v;have hw:=FX ai hm;have Ho:=Pl t (gR t);have ck:=T8 ai hm;have he:(cC t).length≤t.length:=by unfold cC;refine dN (tg _ _) ?_;rw [gn];exact bT _
 have au:=hm.len;have MB: ∀i j,eP (q1 t (gR t)) (((fv t).getD i []).getD j 0):=fun i j=>by rw [←PS];exact eP.fin (PT ai hm _ (bT _) i j) J (dN (er _ (show (cC t).length≤40 by omega)) aT)
 refine ajP (Gz t) (by rw [GL];have:=(qI ai 0).2.2.1;unfold ct;show 3≤(bN t 0).length+2*(1+_);omega) Ho (q7 ck) (bT Lb) (fun r ad q aB=> ?_) (fun q aB=> ?_) (fun q aB=> ?_)
 ·rcases gM.1 ad with h|h
  ·obtain ⟨j,_,rfl⟩:=cO.1 h;obtain ⟨i,_,rfl⟩:=cO.1 aB;show eP _ (if i<aY t 0 then _ else if i<aY t 0+ct t 1 then _ else _);split
   ·exact (MB i j).neg
   ·split
    ·exact Pf _ t 1 _ j
    ·exact (Pf _ t 1 _ j).neg
  ·obtain ⟨j,_,rfl⟩:=cO.1 h;obtain ⟨i,_,rfl⟩:=cO.1 aB;show eP _ (if i<aY t 0 then _ else _);split
   ·exact T2 j (Pf _ t 0 _ i)
   ·exact eP.zero _
 ·rcases gM.1 aB with h|h
  ·rw [G2 h];exact eP.zero _
  ·obtain ⟨r,_,rfl⟩:=cO.1 h;refine T2 r ?_;unfold rU;split
   ·exact eP.one _
   ·exact eP.zero _
 ·obtain ⟨i,_,rfl⟩:=cO.1 aB;show eP 1 (if i=aY t 0 then _ else if i=aY t 0+ct t 1 then _ else _);split
  ·exact eP.one _
  ·split
   ·exact (eP.one _).neg
   ·exact eP.zero _
theorem aka {t:aK}(aQ:Fit t)(hm:nk t){K L:Nat}(av:zd (en t) K L):
 (∀q∈(hy (en t) K L).X,D 400000 q)∧(∀q∈(hy (en t) K L).Y,D 400000 q)∧D 400000 (hy (en t) K L).V:=by obtain ⟨U,ab,_,ay⟩:=aiX (Gz t) (Zh aQ hm) (by have:=(JF aQ).2;omega) av;have iM:=ajZ aQ;exact ⟨fun q aB=>(U q aB).mono iM,fun q aB=>(ab q aB).mono iM,ay.mono iM⟩
theorem Xs {t:aK}(ai:Valid t)(p:Int)(c j:Nat): -1≤((lP t p).getD c []).getD j 0∧((lP t p).getD c []).getD j 0≤1:=by
 by_cases aw:c<ct t p
 ·by_cases ae:j<aY t p
  ·rw [JU ai];cases c with
   |zero=>
    show-1≤(eT _).getD j 0∧(eT _).getD j 0≤1;unfold eT;rw [Go.aj.dZ.fO];split
    ·decide
    ·have:(List.replicate (aY t p) (0:Int)).getD j 0=0:=by simp [List.getD,ae]
     rw [this];decide
   |succ c=>
    have aw:c<(mg t p).length:=by unfold ct at aw;omega
    show-1≤((((mg t p).map _).getD c []).getD j 0)∧((((mg t p).map _).getD c []).getD j 0)≤1;rw [eo [] (by rw [cr];exact aw),kK,eo 0 (by rw [cr,gn];exact ae),kK,zr];unfold A5;split
    ·decide
    ·split<;>decide
  ·have:((lP t p).getD c []).getD j 0=0:=by have ad:=OJ ai p aw;rw [vW,kG J];rfl
   rw [this];decide
 ·have:(lP t p).getD c []=[]:=by have au:=OI ai p;rw [vW,kG J];rfl
  rw [this];show-1≤(0:Int)∧(0:Int)≤1;decide
end Go.aj.nm
namespace Go.aj.cX
open Go.aj.dn Go.aj.dZ
def G4:List di→List Rat→Bool
 |[],[]=>true
 |s::r,q::t=>decide (kg s q) && G4 r t
 |_,_=>false
theorem O8: ∀{s:List di} {l:List Rat},G4 s l=true→l.map dm=s∧l.all eS=true
 |[],[],_=>⟨rfl,rfl⟩
 |[],_::_,h=>by cases h
 |_::_,[],h=>by cases h
 |a::r,q::t,h=>by simp only [G4,eb,eL] at h;obtain ⟨U,ab⟩:=O8 h.2;refine ⟨by rw [k6,h.1.text,U],?_⟩;rw [zo,h.1.fit,ab];rfl
theorem ZM {s:List di}{l:List Rat}(h:G4 s l=true):lp l=(s,0):=by unfold lp;rw [aA (O8 h).2,(O8 h).1]
end Go.aj.cX
namespace Go.aj.cX
open Go.aj.dn Go.aj.kD
def ft:aK:=[⟨2,0,0,[1,2],[],[]⟩,⟨2,1,3,[3,4],[],[]⟩,⟨2,1,3,[5,6],[],[]⟩,⟨0,0,0,[],[],[45,49]⟩,⟨0,0,0,[],[],[49]⟩,⟨0,0,0,[],[],[49]⟩,⟨0,0,0,[],[],[45,49]⟩]
def mE (n:Int):da:=[⟨n,[[49,47,50],[49,47,50]]⟩]
end Go.aj.cX
namespace Go.aj.nm
open Go.aj.dZ Go.aj.cX Go.aj.dn Go.aj.c0
theorem ajz:rY ft=0:=by decide+kernel
theorem ajB:rY []=8:=by decide+kernel
theorem WY:cX.Modest ft:=⟨by decide+kernel,by decide+kernel,by decide+kernel⟩
theorem ajF:zd (en ft) 3 2:=by
 refine ⟨fun _=> ?_,fun _=> ?_⟩
 ·exact Option.isNone_iff_eq_none.1 (by decide+kernel)
 ·exact Option.isNone_iff_eq_none.1 (by decide+kernel)
def kX:di:=[49,47,50]
theorem ajH:dm (hy (en ft) 3 2).V=[48]:=by decide+kernel
theorem ajA:eS (hy (en ft) 3 2).V=true:=by decide+kernel
theorem ajx:yX ft 0 (fun k=>(hy (en ft) 3 2).X.getD k 0)=true:=by decide+kernel
theorem ajy:yX ft 1 (fun k=>(hy (en ft) 3 2).Y.getD k 0)=true:=by decide+kernel
theorem ajC:(DA ft 0 (fun k=>(hy (en ft) 3 2).X.getD k 0)).map (fun x=>(x.1,x.2.map dm))=[(0,[kX,kX])]:=by decide+kernel
theorem ajD:(DA ft 1 (fun k=>(hy (en ft) 3 2).Y.getD k 0)).map (fun x=>(x.1,x.2.map dm))=[(3,[kX,kX])]:=by decide+kernel
theorem Pk (t:aK)(p:Int)(W:Nat→Rat):sO t p W=((DA t p W).map (fun x=>(x.1,x.2.map dm))).map (fun y:Int×List di=>(⟨y.1,y.2⟩:gJ)):=by unfold sO;rw [xD];rfl
theorem ajE:Dz ft 3 2=(([48],[⟨0,[kX,kX]⟩],[⟨3,[kX,kX]⟩]),0):=by unfold Dz;rw [ax (fun q=>q ajz),aA ⟨ajA,ajx,ajy⟩,Pk,Pk,ajC,ajD,ajH];rfl
theorem ajG:p4 ft=([[[48],[48],[48]],[[48],[45,49],[49]],[[48],[49],[45,49]]],0):=by decide+kernel
end Go.aj.nm
