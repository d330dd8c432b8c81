import Derived.Test.YtmpnheilfejcpaaGreatDoorP4
set_option linter.unusedVariables false
set_option linter.unusedSimpArgs false
namespace Go.aj.cL
open Go.aj.dR
theorem Jf (f:Nat→Nat→Int)(m:Nat): ∀n:Nat,b5 (fun i=>b5 (fun j=>f i j) m) n=b5 (fun j=>b5 (fun i=>f i j) n) m
 |0=>by show (0:Int)=_;rw [sK (f:=fun j=>b5 (fun i=>f i j) 0) (fun i _=>rfl)]
 |n+1=>by show b5 (fun i=>b5 (fun j=>f i j) m) n+b5 (fun j=>f n j) m=_;rw [Jf f m n,←vt];exact gw (fun i _=>rfl)
theorem aoS (c:Int)(f:Nat→Int)(n:Nat):b5 (fun i=>f i*c) n=b5 f n*c:=by rw [mu,←nm];exact gw (fun i _=>mu _ _)
theorem tX {f:Nat→Int}{n k:Nat}(an:k<n):b5 (fun j=>if j=k then f j else 0) n=f k:=by rw [yU k an (fun i aa ch=>by rw [aw ch]),aB rfl]
theorem Yy: ∀{n:Nat} {f:Nat→Int},0<b5 f n→ ∃i,i<n∧0<f i
 |0,f,h=>absurd h (by show¬(0:Int)<0;omega)
 |n+1,f,h=>by
  have h:0<b5 f n+f n:=h;by_cases U:0<f n
  ·exact ⟨n,gC n,U⟩
  ·obtain ⟨i,aa,ab⟩:=Yy (n:=n) (f:=f) J;exact ⟨i,J,ab⟩
def lr (T:cu)(N:Nat)(x:Nat→Int)(i:Nat):Int:=b5 (fun j=>ax T i j*x j) (N+1)
theorem Inv.Ih {m N:Nat}{M:cu}{s:cl}(h:Inv m N M s)(x:Nat→Int)(z:Int):
 (∀i,i<m+1→lr M N x i+(if i=m then z else 0)=0)↔(∀i,i<m+1→lr s.rows N x i+(if i=m then s.den*z else 0)=0):=by
 obtain ⟨σ,az,fK⟩:=h.ow;have hd:s.den≠0:=by have:=h.fz;omega
 let t:V:=fun i=>lr s.rows N x i+(if i=m then s.den*z else 0)
 have key: ∀c,c<m+1→b5 (fun i=>t i*il M m s.basis i c) (m+1)=s.den*(lr M N x c+(if c=m then z else 0)):=by
  intro c av;have aE: ∀i,i<m+1→t i*il M m s.basis i c=b5 (fun j=>x j*(ax s.rows i j*il M m s.basis i c)) (N+1)+(if i=m then s.den*z*(if c=m then 1 else 0) else 0):=by
   intro i aa;show (lr s.rows N x i+_)*_=_;rw [Int.add_mul];congr 1
   ·unfold lr;rw [←aoS];exact gw (fun j _=>by rw [mu (ax s.rows i j),kG])
   ·by_cases e:i=m
    ·subst e;rw [aB rfl,aB rfl];congr 1;unfold il;rw [aw J]
    ·rw [aw e,aw e,jE]
  rw [gw aE,vt,Jf,tX (f:=fun i=>s.den*z*(if c=m then 1 else 0)) (gC m)];have aF: ∀j,j<N+1→b5 (fun i=>x j*(ax s.rows i j*il M m s.basis i c)) (m+1)=s.den*(ax M c j*x j):=by intro j ae;rw [nm];have:=h.yt j ae c av;have:b5 (fun i=>ax s.rows i j*il M m s.basis i c) (m+1)=s.den*ax M c j:=this;rw [this,pL,mu (x j)]
  rw [gw aF,nm,zr];congr 1;split
  ·rw [Int.mul_one]
  ·rw [gB,gB]
 constructor
 ·intro aM i aa;have U:=IV (D:=il M m s.basis) (t:=t) (w:=fun _=>0) aa (fun c av=>by rw [key c av,aM c av,gB]);rw [U0 (m+1) _ i aa,fK] at U;have bL:σ≠0:=fun e=>by rw [e] at az;exact absurd az aT
  rcases xV.1 U.symm with ab|ab
  ·exact ab
  ·rcases xV.1 ab with ay|ay
   ·exact absurd ay bL
   ·exact absurd ay hd
 ·intro aM c av;have U:=key c av;rw [sK (fun i aa=>by show t i*_=0;rw [show t i=0 from aM i aa,jE])] at U;rcases xV.1 U.symm with ab|ab
  ·exact absurd ab hd
  ·exact ab
theorem Inv.Rl {m N:Nat}{M:cu}{s ct:cl}(h:Inv m N M s)(aS:Inv m N M ct){i c:Nat}(aa:i<m+1)(av:c<N+1):
 s.den*ax ct.rows i c=b5 (fun k=>ax ct.rows i (s.basis.getD k 0)*ax s.rows k c) m+(if i=m then ct.den*ax s.rows m c else 0):=by
 let x:Nat→Int:=fun j=>(if j=c then s.den else 0)-b5 (fun k=>if j=s.basis.getD k 0 then ax s.rows k c else 0) m
 have al: ∀(T:cu) (i:Nat),lr T N x i=ax T i c*s.den-b5 (fun k=>ax T i (s.basis.getD k 0)*ax s.rows k c) m:=by
  intro T i;unfold lr;have aE: ∀j,j<N+1→ax T i j*x j=(if j=c then ax T i j*s.den else 0)+b5 (fun k=>if j=s.basis.getD k 0 then-(ax T i j*ax s.rows k c) else 0) m:=by
   intro j ae;show _*((if j=c then s.den else 0)-_)=_;rw [Int.mul_sub,Int.sub_eq_add_neg];congr 1
   ·split
    ·rfl
    ·rw [gB]
   ·rw [←qw,show-(b5 (fun k=>if j=s.basis.getD k 0 then ax s.rows k c else 0) m)=b5 (fun k=> -1*(if j=s.basis.getD k 0 then ax s.rows k c else 0)) m from by rw [nm];omega,←nm];exact gw (fun k _=>by
     split
     ·rw [rh,mv,qw]
     ·rw [gB,gB])
  rw [gw aE,vt,tX (f:=fun j=>ax T i j*s.den) av,Jf,Int.sub_eq_add_neg];congr 1;have aF: ∀k,k<m→b5 (fun j=>if j=s.basis.getD k 0 then-(ax T i j*ax s.rows k c) else 0) (N+1)= -1*(ax T i (s.basis.getD k 0)*ax s.rows k c):=by intro k an;rw [tX (f:=fun j=> -(ax T i j*ax s.rows k c)) (by have:=h.qy k an;omega)];omega
  rw [gw aF,nm];omega
 have U: ∀i,i<m+1→lr s.rows N x i+(if i=m then s.den*(-(ax s.rows m c)) else 0)=0:=by
  intro i aa;rw [al];by_cases e:i=m
  ·subst e;rw [aB rfl,sK (fun k an=>by rw [h.unit i k J an,aw J,jE]),qw,mu];omega
  ·rw [aw e];have bO: ∀k,k<m→ax s.rows i (s.basis.getD k 0)*ax s.rows k c=if k=i then s.den*ax s.rows k c else 0:=by
    intro k an;rw [h.unit i k aa an];by_cases hM:i=k
    ·rw [aB hM,aB hM.symm]
    ·rw [aw hM,aw (fun q=>hM q.symm),jE]
   rw [gw bO,tX (f:=fun k=>s.den*ax s.rows k c) J,mu];omega
 have ab:=(aS.Ih x (-(ax s.rows m c))).1 ((h.Ih x (-(ax s.rows m c))).2 U) i aa;rw [al,mu] at ab;by_cases e:i=m
 ·rw [aB e] at ab⊢;rw [qw] at ab;omega
 ·rw [aw e] at ab⊢;omega
def nq (T:cu)(m:Nat):Nat→Nat→Nat
 |0,c=>c
 |f+1,c=>if ax T m c<0 then c else nq T m f (c+1)
theorem Ft (T:cu)(m:Nat): ∀f c,c≤nq T m f c∧nq T m f c≤c+f∧(∀a,c≤a→a<nq T m f c→0≤ax T m a)∧(nq T m f c<c+f→ax T m (nq T m f c)<0)
 |0,c=>⟨bN _,bN _,fun a U ab=>absurd ab (by rw [nq];omega),fun h=>absurd h (by rw [nq];omega)⟩
 |f+1,c=>by
  rw [nq];by_cases h:ax T m c<0
  ·rw [aB h];exact ⟨bN _,J,fun a U ab=>absurd ab J,fun _=>h⟩
  ·rw [aw h];obtain ⟨U,ab,ay,bc⟩:=Ft T m f (c+1);refine ⟨J,J,fun a aW ak=> ?_,fun ak=>bc J⟩;by_cases e:a=c
   ·subst e;omega
   ·exact ay a J ak
def AV (T:cu)(β:List Nat)(c e k b:Nat):Prop:=ax T k e*ax T b c<ax T b e*ax T k c∨ax T k e*ax T b c=ax T b e*ax T k c∧β.getD k 0<β.getD b 0
instance (T:cu)(β:List Nat)(c e k b:Nat):Decidable (AV T β c e k b):=by unfold AV;infer_instance
def jM (T:cu)(β:List Nat)(c e:Nat):Nat→Option Nat
 |0=>none
 |k+1=>match jM T β c e k with
  |none=>if ax T k c≤0 then none else some k
  |some b=>if ax T k c≤0 then some b else if AV T β c e k b then some k else some b
theorem N9 (T:cu)(β:List Nat)(c e:Nat): ∀n,jM T β c e n=none→ ∀i,i<n→ax T i c≤0
 |0,_,i,aa=>absurd aa (gh _)
 |n+1,h,i,aa=>by
  rw [jM] at h;cases au:jM T β c e n with
  |none=>
   rw [au] at h;simp only at h;split at h
   ·rename_i U;by_cases aF:i=n
    ·rw [aF];exact U
    ·exact N9 T β c e n au i J
   ·cases h
  |some b=>
   rw [au] at h;simp only at h;split at h
   ·cases h
   ·split at h<;>cases h
theorem alJ {a x y:Int}(aW:0<a)(h:a*x≤a*y):x≤y:=Int.le_of_mul_le_mul_left h aW
structure Bb (T:cu)(β:List Nat)(c e n b:Nat):Prop where
 lt:b<n
 pos:0<ax T b c
 le: ∀i,i<n→0<ax T i c→ax T b e*ax T i c≤ax T i e*ax T b c∧(ax T b e*ax T i c=ax T i e*ax T b c→β.getD b 0≤β.getD i 0)
theorem Jj (T:cu)(β:List Nat)(c e:Nat): ∀n b,jM T β c e n=some b→Bb T β c e n b
 |0,b,h=>by rw [jM] at h;cases h
 |n+1,b,h=>by
  rw [jM] at h;cases au:jM T β c e n with
  |none=>
   have aG:=N9 T β c e n au;rw [au] at h;simp only at h;split at h
   ·cases h
   ·rename_i U;obtain rfl:n=b:=by simpa using h
    refine ⟨gC _,J,fun i aa aD=> ?_⟩;by_cases aF:i=n
    ·subst aF;exact ⟨Int.le_refl _,fun _=>bN _⟩
    ·exact absurd (aG i J) J
  |some d=>
   have hd:=Jj T β c e n d au;rw [au] at h;simp only at h;split at h
   ·rename_i U;obtain rfl:d=b:=by simpa using h
    refine ⟨by have:=hd.lt;omega,hd.pos,fun i aa aD=> ?_⟩;by_cases aF:i=n
    ·subst aF;omega
    ·exact hd.le i J aD
   ·rename_i U;have U:0<ax T n c:=J;split at h
    ·rename_i ab;obtain rfl:n=b:=by simpa using h
     refine ⟨gC _,U,fun i aa aD=> ?_⟩;by_cases aF:i=n
     ·subst aF;exact ⟨Int.le_refl _,fun _=>bN _⟩
     ·obtain ⟨g1,g2⟩:=hd.le i J aD;have qF:=hd.pos
      --n against d,d against i
      have gy:ax T n e*ax T d c≤ax T d e*ax T n c:=by
       rcases ab with ab|ab
       ·omega
       ·omega
      have dS:=Int.mul_le_mul_of_nonneg_right gy (xQ aD);have eP:=Int.mul_le_mul_of_nonneg_right g1 (xQ U);have cJ:ax T d c*(ax T n e*ax T i c)=ax T n e*ax T d c*ax T i c:=by grind
      have dD:ax T d c*(ax T i e*ax T n c)=ax T i e*ax T d c*ax T n c:=by grind
      have eg:ax T d e*ax T n c*ax T i c=ax T d e*ax T i c*ax T n c:=by grind
      refine ⟨alJ qF J,fun he=> ?_⟩;have d1:ax T d c*(ax T n e*ax T i c)=ax T d c*(ax T i e*ax T n c):=by rw [he]
      --all equal
      have d2:ax T n e*ax T d c*ax T i c=ax T d e*ax T n c*ax T i c:=J;have d3:ax T n e*ax T d c=ax T d e*ax T n c:=Int.eq_of_mul_eq_mul_right J d2;have d4:ax T d e*ax T i c*ax T n c=ax T i e*ax T d c*ax T n c:=J;have d5:ax T d e*ax T i c=ax T i e*ax T d c:=Int.eq_of_mul_eq_mul_right J d4;rcases ab with ab|ab
      ·omega
      ·have:=g2 d5;omega
    ·rename_i ab;obtain rfl:d=b:=by simpa using h
     refine ⟨by have:=hd.lt;omega,hd.pos,fun i aa aD=> ?_⟩;by_cases aF:i=n
     ·subst aF;unfold AV at ab;refine ⟨J,fun he=> ?_⟩;omega
     ·exact hd.le i J aD
def iX (m N w:Nat)(s:cl):Option cl:=
 if nq s.rows m w 0=w then none
 else match jM s.rows s.basis (nq s.rows m w 0) N m with
  |none=>none
  |some r=>some (iS s r (nq s.rows m w 0))
def e4 (m N w:Nat)(s:cl):Nat→cl
 |0=>s
 |k+1=>(iX m N w (e4 m N w s k)).getD (e4 m N w s k)
def jn (m N:Nat)(s:cl):Prop:= ∀i,i<m→0≤ax s.rows i N
theorem OT {m N w:Nat}{s ct:cl}(h:iX m N w s=some ct): ∃c r,c<w∧ax s.rows m c<0∧(∀a,a<c→0≤ax s.rows m a)∧Bb s.rows s.basis c N m r∧ct=iS s r c:=by
 unfold iX at h;obtain ⟨aE,aF,bO,hM⟩:=Ft s.rows m w 0;split at h
 ·cases h
 ·rename_i U;split at h
  ·cases h
  ·rename_i r ad;refine ⟨_,r,J,hM J,fun a aW=>bO a (cj _) aW,Jj _ _ _ _ _ _ ad,?_⟩;exact (oO h).symm
theorem Inv.entry {m N:Nat}{M:cu}{s:cl}(h:Inv m N M s){r c:Nat}(ad:r<m)(av:c<N)(aD:ax s.rows r c≠0){i j:Nat}(aa:i<m+1)(ae:j<N+1):
 s.den*ax (cL.iS s r c).rows i j=ni (ax s.rows r c)*(if i=r then s.den*ax s.rows r j else ax s.rows i j*ax s.rows r c-ax s.rows i c*ax s.rows r j):=by
 obtain ⟨σ,az,fK⟩:=h.ow;have hd:s.den≠0:=by have:=h.fz;omega
 obtain ⟨c4,_⟩:=WQ hd az fK (h.yt c J) (h.yt j ae) (show r<m+1 by omega) aD;have:=YO s.rows r c s.den h.row (i:=i) (j:=j) (by rw [h.n];exact aa) ae;have e:ax (cL.iS s r c).rows i j=ax (k1 s.rows r c s.den) i j:=rfl;rw [e,this,pL];congr 1;by_cases e:i=r
 ·rw [aB e,aB e]
 ·have bO:=V4 hd (c4 i aa e);have hM:=Int.mul_ediv_cancel' (c4 i aa e);rw [←bO] at hM;rw [aw e,aw e];exact hM
theorem Inv.Rz {m N:Nat}{M:cu}{s:cl}(h:Inv m N M s)(aR:jn m N s){r c:Nat}(av:c<N)(au:Bb s.rows s.basis c N m r):jn m N (cL.iS s r c):=by
 intro i aa;have aD:=au.pos;have U:=h.entry au.lt av J (i:=i) (j:=N) J J;have hd:=h.fz;have H2:ni (ax s.rows r c)=1:=by unfold ni;rw [aw J]
 rw [H2,mv] at U;have:0≤s.den*ax (cL.iS s r c).rows i N:=by
  rw [U];split
  ·exact sh (xQ hd) (aR r au.lt)
  ·by_cases afJ:0<ax s.rows i c
   ·have:=(au.le i aa afJ).1;rw [mu (ax s.rows i c)];omega
   ·have ab:=sh (aR i aa) (xQ aD);have ay:=sh (show 0≤ -(ax s.rows i c) by omega) (aR r au.lt);rw [rh] at ay;omega
 exact Int.le_of_mul_le_mul_left (by rw [gB];exact this) hd
theorem TK: ∀(K:Nat) (f:Nat→Nat),(∀i,i≤K→f i<K)→ ∃a b,a<b∧b≤K∧f a=f b
 |0,f,h=>absurd (h 0 (bN _)) (gh _)
 |K+1,f,h=>by
  by_cases al: ∃a,a≤K∧f a=f (K+1)
  ·obtain ⟨a,U,ab⟩:=al;exact ⟨a,K+1,J,bN _,ab⟩
  ·have ch: ∀a,a≤K→f a≠f (K+1):=fun a aW e=>al ⟨a,aW,e⟩;obtain ⟨a,b,U,ab,ay⟩:=TK K (fun i=>if f i<f (K+1) then f i else f i-1) (fun i aa=>by
    have aE:=h i J;have aF:=h (K+1) (bN _);have bO:=ch i aa;show (if f i<f (K+1) then f i else f i-1)<K;split<;>omega)
   refine ⟨a,b,U,J,?_⟩;have aE:=ch a J;have aF:=ch b ab;have ay:(if f a<f (K+1) then f a else f a-1)=(if f b<f (K+1) then f b else f b-1):=ay;split at ay<;>split at ay<;>omega
def q1 (N:Nat):List Nat→Nat
 |[]=>0
 |x::r=>x+N*q1 N r
theorem YX {N:Nat}: ∀(l:List Nat),(∀x∈l,x<N)→q1 N l<N^l.length
 |[],_=>by rw [q1,k6,xK];exact Nat.one_pos
 |x::r,h=>by have U:=YX r (fun y a1=>h y (by simp [a1]));have ab:=h x b1;rw [q1,gu,hY];have ay:N*(q1 N r+1)≤N*N^r.length:=hK _ U;rw [gS,rf] at ay;rw [hj (N^r.length)];omega
theorem XJ {N:Nat}: ∀(l gi:List Nat),l.length=gi.length→(∀x∈l,x<N)→(∀x∈gi,x<N)→q1 N l=q1 N gi→l=gi
 |[],[],_,_,_,_=>rfl
 |[],_::_,h,_,_,_=>by simp at h
 |_::_,[],h,_,_,_=>by simp at h
 |x::r,y::q,au,h,aS,e=>by have U:=h x b1;have ab:=aS y b1;rw [q1,q1] at e;have aE:=congrArg (fun n=>n%N) e;simp only [GP,ny U,ny ab] at aE;subst aE;have aF:q1 N r=q1 N q:=Nat.eq_of_mul_eq_mul_left J (show N*q1 N r=N*q1 N q by omega);rw [XJ r q (by simpa using au) (fun z bB=>h z (by simp [bB])) (fun z bB=>aS z (by simp [bB])) aF]
structure j9 (m N:Nat)(M:cu)(s:Nat→cl)(c r:Nat→Nat):Prop where
 inv: ∀k,Inv m N M (s k)
 Ry: ∀k,jn m N (s k)
 Lg: ∀k,c k<N
 neg: ∀k,ax (s k).rows m (c k)<0
 low: ∀k a,a<c k→0≤ax (s k).rows m a
 rF: ∀k,Bb (s k).rows (s k).basis (c k) N m (r k)
 bj: ∀k,s (k+1)=iS (s k) (r k) (c k)
def kt (m:Nat)(s:cl)(v:Nat):Prop:= ∃i,i<m∧s.basis.getD i 0=v
theorem Inv.nodup {m N:Nat}{M:cu}{s:cl}(h:Inv m N M s){i k:Nat}(aa:i<m)(an:k<m)(he:s.basis.getD i 0=s.basis.getD k 0):i=k:=by
 by_cases e:i=k
 ·exact e
 ·have U:=h.unit i k J an;have ab:=h.unit i i J aa;rw [aw e] at U;rw [aB rfl,he] at ab;have:=h.fz;omega
theorem Inv.Lk {m N:Nat}{M:cu}{s:cl}(h:Inv m N M s){v:Nat}(ak:kt m s v):ax s.rows m v=0:=by obtain ⟨i,aa,rfl⟩:=ak;rw [h.unit m i J aa,aw J]
theorem CS {m N:Nat}{M:cu}{s:cl}(h:Inv m N M s){r c:Nat}(ad:r<m)(i:Nat):(cL.iS s r c).basis.getD i 0=if i=r then c else s.basis.getD i 0:=by
 show (s.basis.set r c).getD i 0=_;rw [fQ];by_cases e:i=r
 ·rw [aB ⟨e,by rw [h.b];exact ad⟩,aB e]
 ·rw [aw (fun q=>e q.1),aw e]
section
variable {m N:Nat}{M:cu}{s:Nat→cl}{c r:Nat→Nat}
theorem j9.den (h:j9 m N M s c r)(k:Nat):(s (k+1)).den=ax (s k).rows (r k) (c k):=by rw [h.bj,Ge];have:=(h.rF k).pos;unfold ni;rw [aw J];omega
theorem j9.entry (h:j9 m N M s c r)(k:Nat){i j:Nat}(aa:i<m+1)(ae:j<N+1):
 (s k).den*ax (s (k+1)).rows i j=if i=r k then (s k).den*ax (s k).rows (r k) j else ax (s k).rows i j*ax (s k).rows (r k) (c k)-ax (s k).rows i (c k)*ax (s k).rows (r k) j:=by
 have aD:=(h.rF k).pos;rw [h.bj,(h.inv k).entry (h.rF k).lt (h.Lg k) J aa ae];have H2:ni (ax (s k).rows (r k) (c k))=1:=by unfold ni;rw [aw J]
 rw [H2,mv]
def q6 (N m:Nat)(s:cl):Rat:=(ax s.rows m N:Rat)*(s.den:Rat)⁻¹
theorem vv {x:Int}(h:0<x):(0:Rat)<(x:Rat):=by have:=(Rat.intCast_lt_intCast (a:=0) (b:=x)).2 h;exact this
theorem Kd {m N:Nat}{s:cl}(hd:0<s.den):q6 N m s*(s.den:Rat)=(ax s.rows m N:Rat):=by
 unfold q6;have:(s.den:Rat)≠0:=fun e=>by have:=vv hd;rw [e] at this;exact absurd this (by decide+kernel)
 rw [te,Rat.inv_mul_cancel _ this,zw]
theorem j9.value (h:j9 m N M s c r)(k:Nat):q6 N m (s k)≤q6 N m (s (k+1))∧(q6 N m (s k)=q6 N m (s (k+1))→ax (s k).rows (r k) N=0):=by
 have hd:=(h.inv k).fz;have Si:=(h.inv (k+1)).fz;have aD:=(h.rF k).pos;have U:=h.entry k (i:=m) (j:=N) J J;have EM:=(h.rF k).lt;rw [aw J,←h.den] at U;have ab:=Kd (m:=m) (N:=N) hd;have ay:=Kd (m:=m) (N:=N) Si;have bc:=congrArg (fun x:Int=>(x:Rat)) U;simp only [pM,Rat.intCast_sub] at bc;rw [←ab,←ay] at bc;have jd:ax (s k).rows m (c k)*ax (s k).rows (r k) N≤0:=by have:=sh (show 0≤ -(ax (s k).rows m (c k)) by have:=h.neg k;omega) (h.Ry k (r k) EM);rw [rh] at this;omega
 have LL:((ax (s k).rows m (c k):Int):Rat)*((ax (s k).rows (r k) N:Int):Rat)≤0:=by rw [←pM];exact (GV (a:=_) (b:=0)).2 jd
 have HS:(0:Rat)<((s k).den:Rat)*((s (k+1)).den:Rat):=Rat.mul_pos (vv hd) (vv Si);constructor
 ·refine tj ?_ HS;grind
 ·intro e;rw [←e] at bc;have bI:((ax (s k).rows m (c k):Int):Rat)*((ax (s k).rows (r k) N:Int):Rat)=0:=by grind
  rw [←pM] at bI;have db:ax (s k).rows m (c k)*ax (s k).rows (r k) N=0:=Rat.intCast_inj.1 bI;rcases xV.1 db with fh|fh
  ·have:=h.neg k;omega
  ·exact fh
theorem j9.mono (h:j9 m N M s c r)(a:Nat): ∀d,q6 N m (s a)≤q6 N m (s (a+d))
 |0=>td
 |d+1=>qv (h.mono a d) (h.value (a+d)).1
theorem j9.same (h:j9 m N M s c r){a b:Nat}(he:(s a).basis=(s b).basis):q6 N m (s a)=q6 N m (s b):=by have U:=(h.inv a).Rl (h.inv b) (i:=m) (c:=N) J J;rw [aB rfl,sK (fun k an=>by rw [he,(h.inv b).unit m k J an,aw J,jE])] at U;have G8:=(h.inv a).fz;have zF:=(h.inv b).fz;have ab:=Kd (m:=m) (N:=N) G8;have ay:=Kd (m:=m) (N:=N) zF;have bc:=congrArg (fun x:Int=>(x:Rat)) U;simp only [pM,DS,Rat.intCast_zero] at bc;rw [←ab,←ay] at bc;have HS:(0:Rat)<((s a).den:Rat)*((s b).den:Rat):=Rat.mul_pos (vv G8) (vv zF);have ahh:q6 N m (s a)≤q6 N m (s b):=tj (by grind) HS;have ahi:q6 N m (s b)≤q6 N m (s a):=tj (by grind) HS;exact qx ahh ahi
theorem j9.still (h:j9 m N M s c r){a b:Nat}(he:(s a).basis=(s b).basis){k:Nat}(U:a≤k)(ab:k<b):ax (s k).rows (r k) N=0:=by refine (h.value k).2 (qx (h.value k).1 ?_);have g1:=h.mono (k+1) (b-(k+1));rw [show k+1+(b-(k+1))=b by omega] at g1;have g2:=h.mono a (k-a);rw [show a+(k-a)=k by omega] at g2;rw [←h.same he] at g1;exact qv g1 g2
def Zero (m N:Nat)(s:cl)(v:Nat):Prop:= ∀i,i<m→s.basis.getD i 0=v→ax s.rows i N=0
theorem j9.zero (h:j9 m N M s c r){k:Nat}(aM:ax (s k).rows (r k) N=0)(v:Nat):Zero m N (s k) v↔Zero m N (s (k+1)) v:=by
 have aD:=(h.rF k).pos;have ad:=(h.rF k).lt;have hd:=(h.inv k).fz;have uM: ∀i,(s (k+1)).basis.getD i 0=if i=r k then c k else (s k).basis.getD i 0:=fun i=>by rw [h.bj];exact CS (h.inv k) ad i
 have Sl: ∀i,i<m→i≠r k→(ax (s (k+1)).rows i N=0↔ax (s k).rows i N=0):=by
  intro i aa ch;have U:=h.entry k (i:=i) (j:=N) J J;rw [aw ch,aM,gB,zA] at U;constructor
  ·intro e;rw [e,gB] at U;rcases xV.1 U.symm with ab|ab
   ·exact ab
   ·omega
  ·intro e;rw [e,jE] at U;rcases xV.1 U with ab|ab
   ·omega
   ·exact ab
 constructor
 ·intro bB i aa he;rw [uM] at he;by_cases e:i=r k
  ·have U:=h.entry k (i:=i) (j:=N) J J;rw [aB e,aM,gB] at U;rcases xV.1 U with ab|ab
   ·omega
   ·exact ab
  ·rw [aw e] at he;exact (Sl i aa e).2 (bB i aa he)
 ·intro bB i aa he;by_cases e:i=r k
  ·rw [e];exact aM
  ·exact (Sl i aa e).1 (bB i aa (by rw [uM,aw e];exact he))
theorem j9.za (h:j9 m N M s c r){a b:Nat}(he:(s a).basis=(s b).basis)(v:Nat): ∀d,a+d≤b→(Zero m N (s a) v↔Zero m N (s (a+d)) v)
 |0,_=>Iff.rfl
 |d+1,hd=>(h.za he v d J).trans (h.zero (h.still he J J) v)
theorem j9.stays (h:j9 m N M s c r){k v:Nat}(ak:kt m (s k) v)(af:v≠(s k).basis.getD (r k) 0):kt m (s (k+1)) v:=by obtain ⟨i,aa,rfl⟩:=ak;refine ⟨i,aa,?_⟩;rw [h.bj,CS (h.inv k) (h.rF k).lt,aw];intro e;rw [e] at af;exact af rfl
theorem j9.als (h:j9 m N M s c r){k v:Nat}(ak:kt m (s (k+1)) v)(af:v≠c k):kt m (s k) v:=by
 obtain ⟨i,aa,rfl⟩:=ak;have U:=CS (c:=c k) (h.inv k) (h.rF k).lt i;rw [←h.bj] at U;rw [U] at af⊢;by_cases e:i=r k
 ·rw [aB e] at af;exact absurd rfl af
 ·rw [aw e];exact ⟨i,aa,rfl⟩
theorem j9.enters (h:j9 m N M s c r)(k:Nat): ¬kt m (s k) (c k)∧kt m (s (k+1)) (c k):=by
 constructor
 ·intro ak;have:=(h.inv k).Lk ak;have:=h.neg k;omega
 ·refine ⟨r k,(h.rF k).lt,?_⟩;rw [h.bj,CS (h.inv k) (h.rF k).lt,aB rfl]
theorem j9.false (h:j9 m N M s c r):False:=by
 --a basis comes twice
 obtain ⟨a,b,mX,he⟩: ∃a b,a<b∧(s a).basis=(s b).basis:=by
  have bG: ∀k,∀x∈(s k).basis,x<N:=by intro k x al;obtain ⟨i,aa,rfl⟩:=kE al;have:=(h.inv k).qy i (by rw [←(h.inv k).b];exact aa);simpa [List.getD,aa] using this
  obtain ⟨a,b,U,ab,ay⟩:=TK (N^m) (fun k=>q1 N (s k).basis) (fun k _=>by
   have:=YX (s k).basis (bG k)
   rwa [(h.inv k).b] at this)
  exact ⟨a,b,U,XJ _ _ (by rw [(h.inv a).b,(h.inv b).b]) (bG a) (bG b) ay⟩
 --who is in some basis between,and not in another one,enters
 have acJ: ∀v,(∃k,a≤k∧k≤b∧kt m (s k) v)→(∃k,a≤k∧k≤b∧ ¬kt m (s k) v)→ ∃k,a≤k∧k<b∧c k=v:=by
  rintro v ⟨et,fH,fu,ak⟩ ⟨eS,uZ,u0,aG⟩;apply we;intro e2;have e2: ∀k,a≤k→k<b→v≠c k:=fun k bQ bX e=>e2 ⟨k,bQ,bX,e.symm⟩;have back: ∀d k,a≤k→k+d≤b→kt m (s (k+d)) v→kt m (s k) v:=by
   intro d;induction d with
   |zero=>intro k _ _ ak;exact ak
   |succ d a6=>intro k bQ bX ak;exact a6 k bQ J (h.als ak (e2 (k+d) J J))
  have aW:kt m (s a) v:=back (et-a) a (bN _) J (by rw [show a+(et-a)=et by omega];exact ak);have rq:kt m (s b) v:=by unfold kt at aW⊢;rw [←he];exact aW
  exact aG (back (b-eS) eS uZ J (by rw [show eS+(b-eS)=b by omega];exact rq))
 --the greatest one that enters
 obtain ⟨c1,bQ,bX,x8⟩: ∃c1,a≤c1∧c1<b∧ ∀k,a≤k→k<b→c k≤c c1:=by
  have: ∀d,a+d<b+0→ ∃c1,a≤c1∧c1≤a+d∧ ∀k,a≤k→k≤a+d→c k≤c c1:=by
   intro d;induction d with
   |zero=>intro _;exact ⟨a,bN _,bN _,fun k U ab=>by rw [show k=a by omega];exact bN _⟩
   |succ d a6=>
    intro hd;obtain ⟨c1,g1,g2,g3⟩:=a6 J;by_cases av:c c1≤c (a+(d+1))
    ·refine ⟨a+(d+1),J,bN _,fun k U ab=> ?_⟩;by_cases e:k=a+(d+1)
     ·rw [e];exact bN _
     ·exact dU (g3 k U J) av
    ·refine ⟨c1,g1,J,fun k U ab=> ?_⟩;by_cases e:k=a+(d+1)
     ·rw [e];omega
     ·exact g3 k U J
  obtain ⟨c1,g1,g2,g3⟩:=this (b-1-a) J;exact ⟨c1,g1,J,fun k U ab=>g3 k U J⟩
 obtain ⟨t1,t2⟩:=h.enters c1
 --it leaves,too
 obtain ⟨k,fH,fu,uZ⟩: ∃k,a≤k∧k<b∧(s k).basis.getD (r k) 0=c c1:=by
  apply we;intro e2;have e2: ∀k,a≤k→k<b→c c1≠(s k).basis.getD (r k) 0:=fun k bQ bX e=>e2 ⟨k,bQ,bX,e.symm⟩;have fwd: ∀d k,a≤k→k+d≤b→kt m (s k) (c c1)→kt m (s (k+d)) (c c1):=by
   intro d;induction d with
   |zero=>intro k _ _ ak;exact ak
   |succ d a6=>intro k bQ bX ak;exact h.stays (a6 k bQ J ak) (e2 (k+d) J J)
  have ak:=fwd (b-(c1+1)) (c1+1) J J t2;rw [show c1+1+(b-(c1+1))=b by omega] at ak;have aW:kt m (s a) (c c1):=by unfold kt at ak⊢;rw [he];exact ak
  have:=fwd (c1-a) a (bN _) J aW;rw [show a+(c1-a)=c1 by omega] at this;exact t1 this
 have BC:=x8 k fH fu;have HJ:=h.rF k;have qE:c k≠c c1:=by intro e;exact (h.enters k).1 ⟨r k,HJ.lt,by rw [uZ,e]⟩
 have BR:=h.low c1 (c k) J;have jd:=(h.inv k).Rl (h.inv c1) (i:=m) (c:=c k) J (by have:=h.Lg k;omega);rw [aB rfl] at jd;have d1:=(h.inv k).fz;have d2:=(h.inv c1).fz;have sz:=h.neg k;have c4:=sh (xQ d1) BR;have fv:=xR d2 (show 0< -(ax (s k).rows m (c k)) by omega);rw [qw] at fv;obtain ⟨i,aa,e3⟩:=Yy (n:=m) (f:=fun i=>ax (s c1).rows m ((s k).basis.getD i 0)*ax (s k).rows i (c k)) J;have e3:0<ax (s c1).rows m ((s k).basis.getD i 0)*ax (s k).rows i (c k):=e3;have x9: ¬kt m (s c1) ((s k).basis.getD i 0):=by intro ak;rw [(h.inv c1).Lk ak,jE] at e3;omega
 obtain ⟨eS,g1,g2,g3⟩:=acJ ((s k).basis.getD i 0) ⟨k,fH,J,i,aa,rfl⟩ ⟨c1,bQ,J,x9⟩;have hle:=x8 eS g1 g2;rw [g3] at hle;have afv: ∀x y:Int,0<x*y→0≤x→0<x∧0<y:=by
  intro x y EW al;by_cases agv:x=0
  ·rw [agv,jE] at EW;omega
  ·refine ⟨J,?_⟩;apply we;intro a1;have:=sh al (show 0≤ -y by omega);rw [qw] at this;omega
 by_cases bu:(s k).basis.getD i 0=c c1
 ·have l3:i=r k:=(h.inv k).nodup aa HJ.lt (by rw [bu,uZ]);rw [bu,l3] at e3;have U:=h.neg c1;have ab:=xR (show 0< -(ax (s c1).rows m (c c1)) by omega) HJ.pos;rw [rh] at ab;omega
 ·have SB:=h.low c1 ((s k).basis.getD i 0) J;obtain ⟨lp,pb⟩:=afv _ _ e3 SB;have alC:Zero m N (s c1) ((s k).basis.getD i 0):=fun j ae e=>absurd ⟨j,ae,e⟩ x9;have QA:=(h.za he ((s k).basis.getD i 0) (c1-a) J).2 (by rw [show a+(c1-a)=c1 by omega];exact alC);have ZO:=(h.za he ((s k).basis.getD i 0) (k-a) J).1 QA;rw [show a+(k-a)=k by omega] at ZO;have aM:=ZO i aa rfl;have dT:=h.still he fH fu;have:=(HJ.le i aa pb).2 (by rw [aM,dT,jE,jE]);rw [uZ] at this;omega
end
theorem ends {m N w:Nat}{M:cu}{s:cl}(aa:Inv m N M s)(aR:jn m N s)(hw:w≤N): ∃K,iX m N w (e4 m N w s K)=none:=by
 apply we;intro e2;have e2: ∀k,iX m N w (e4 m N w s k)≠none:=fun k e=>e2 ⟨k,e⟩;have hex: ∀k,∃c r,c<w∧ax (e4 m N w s k).rows m c<0∧(∀a,a<c→0≤ax (e4 m N w s k).rows m a)∧Bb (e4 m N w s k).rows (e4 m N w s k).basis c N m r∧e4 m N w s (k+1)=iS (e4 m N w s k) r c:=by
  intro k;cases az:iX m N w (e4 m N w s k) with
  |none=>exact absurd az (e2 k)
  |some ct=>
   obtain ⟨c,r,U,ab,ay,bc,bI⟩:=OT az;refine ⟨c,r,U,ab,ay,bc,?_⟩;show (iX m N w (e4 m N w s k)).getD _=_;rw [az,←bI];rfl
 have both: ∀k,Inv m N M (e4 m N w s k)∧jn m N (e4 m N w s k):=by
  intro k;induction k with
  |zero=>exact ⟨aa,aR⟩
  |succ k a6=>
   obtain ⟨c,r,U,ab,ay,bc,bI⟩:=hex k;rw [bI];have:=bc.pos;exact ⟨a6.1.iS bc.lt J J,a6.1.Rz a6.2 J bc⟩
 exact j9.false (m:=m) (N:=N) (M:=M) (s:=e4 m N w s) (c:=fun k=>Classical.choose (hex k)) (r:=fun k=>Classical.choose (sf (hex k)))
  { inv:=fun k=>(both k).1
    Ry:=fun k=>(both k).2
    Lg:=fun k=>by have:=(sf (sf (hex k))).1;omega
    neg:=fun k=>(sf (sf (hex k))).2.1
    low:=fun k=>(sf (sf (hex k))).2.2.1
    rF:=fun k=>(sf (sf (hex k))).2.2.2.1
    bj:=fun k=>(sf (sf (hex k))).2.2.2.2}
end Go.aj.cL
namespace Go.aj.cL
open Go.aj.dR
def kS (T:cu)(m:Nat)(L:List Int):cu:=T.take m++[L]
theorem Vq {T:cu}{m:Nat}(h:m≤T.length)(L:List Int):(kS T m L).length=m+1:=by unfold kS;rw [di,fy];show min m T.length+1=m+1;omega
theorem Vp {T:cu}{m:Nat}(h:m≤T.length)(L:List Int)(i:Nat):(kS T m L).getD i []=if i<m then T.getD i [] else if i=m then L else []:=by
 unfold kS;simp only [List.getD,oS,fy,hX h];by_cases U:i<m
 ·rw [aB U,aB U,qs,aB U]
 ·rw [aw U,aw U];by_cases ab:i=m
  ·subst ab;simp
  ·rw [aw ab];have:[L][i-m]? =none:=kD (by simp;omega);rw [this];rfl
theorem AQ {T:cu}{m:Nat}(h:m≤T.length)(L:List Int){i:Nat}(aa:i<m)(j:Nat):ax (kS T m L) i j=ax T i j:=by unfold ax;rw [Vp h,aB aa]
theorem JT {T:cu}{m:Nat}(h:m≤T.length)(L:List Int)(j:Nat):ax (kS T m L) m j=L.getD j 0:=by unfold ax;rw [Vp h,aw (oQ _),aB rfl]
theorem p4 {f:Nat→Int}{n j:Nat}(ae:j<n):((List.range n).map f).getD j 0=f j:=by simp [List.getD,ae]
theorem amG {m:Nat}{D E:ir}(fK: ∀c,c<m+1→D m c=if c=m then 1 else 0)(dx: ∀c,c<m+1→E m c=if c=m then 1 else 0)(h: ∀a c,a<m→c<m→D a c=E a c):ew (m+1) E=ew (m+1) D:=by
 let F:Nat→ir:=fun k a=>if a<k then E a else D a
 have step: ∀k,k≤m→ew (m+1) (F k)=ew (m+1) D:=by
  intro k;induction k with
  |zero=>
   intro _;exact yH (fun a c _ _=>by show (if a<0 then E a else D a) c=D a c;rw [aw (gh _)])
  |succ k a6=>
   intro an;have e:ew (m+1) (F (k+1))=ew (m+1) (put (F k) k (E k)):=by
    refine yH (fun a c _ _=> ?_);show (if a<k+1 then E a else D a) c=(if a=k then E k else (if a<k then E a else D a)) c;by_cases aE:a=k
    ·subst aE;rw [aB (gC _),aB rfl]
    ·rw [aw aE];by_cases aF:a<k
     ·rw [aB J,aB aF]
     ·rw [aw J,aw aF]
   rw [e,IV (t:=fun i=>if i=k then 1 else if i=m then E k m-D k m else 0) (show k<m+1 by omega),aB rfl,mv]
   ·exact a6 J
   ·intro c av;rw [Yz k m J J J (fun i aa U ab=>by rw [aw U,aw ab,jE])];rw [aB rfl,aw J,aB rfl,mv];show E k c=(if k<k then E k else D k) c+_*(if m<k then E m else D m) c;rw [aw (oQ _),aw J,fK c av];by_cases bO:c=m
    ·subst bO;rw [aB rfl];omega
    ·rw [aw bO,gB,uA];exact (h k c J J).symm
 have ab:=step m (bN _);rw [←ab];refine yH (fun a c aW av=> ?_);show E a c=(if a<m then E a else D a) c;by_cases e:a<m
 ·rw [aB e]
 ·rw [aw e];obtain rfl:a=m:=J;rw [fK c av,dx c av]
def Dc (k:Nat→Int)(m N:Nat)(s:cl):List Int:=(List.range (N+1)).map (fun j=>s.den*k j-b5 (fun i=>k (s.basis.getD i 0)*ax s.rows i j) m)
def p3 (k:Nat→Int)(m N:Nat)(s:cl):cl:=⟨kS s.rows m (Dc k m N s),s.den,s.basis⟩
def j4 (k:Nat→Int)(m N:Nat)(M:cu):cu:=kS M m ((List.range (N+1)).map k)
theorem Inv.p3 {m N:Nat}{M:cu}{s:cl}(h:Inv m N M s)(k:Nat→Int)(ho:m≤M.length):Inv m N (j4 k m N M) (p3 k m N s):=by
 have b4:m≤s.rows.length:=by rw [h.n];omega
 have iA: ∀i j,i<m→ax (cL.p3 k m N s).rows i j=ax s.rows i j:=fun i j aa=>AQ b4 _ aa j;have iB: ∀j,j<N+1→ax (cL.p3 k m N s).rows m j=s.den*k j-b5 (fun i=>k (s.basis.getD i 0)*ax s.rows i j) m:=fun j ae=>by show ax (kS _ _ _) _ _=_;rw [JT b4];exact p4 ae
 have m1: ∀i j,i<m→ax (j4 k m N M) i j=ax M i j:=fun i j aa=>AQ ho _ aa j;have m2: ∀j,j<N+1→ax (j4 k m N M) m j=k j:=fun j ae=>by show ax (kS _ _ _) _ _=_;rw [JT ho];exact p4 ae
 have GY: ∀(M:cu) c,c<m+1→il M m s.basis m c=if c=m then 1 else 0:=fun M c av=>by show (if m<m then qk M _ else fun c=>if c=m then (1:Int) else 0) c=_;rw [aw (oQ _)]
 have DZ: ∀(M:cu) a c,a<m→il M m s.basis a c=ax M c (s.basis.getD a 0):=fun M a c aW=>by show (if a<m then qk M _ else fun c=>if c=a then (1:Int) else 0) c=_;rw [aB aW];rfl
 have aeD:=amG (D:=il M m s.basis) (E:=il (j4 k m N M) m s.basis) (GY M) (GY _) (fun a c aW av=>by rw [DZ _ _ _ aW,DZ _ _ _ aW,m1 c _ av]);refine ⟨Vq b4 _,fun x al=> ?_,h.b,h.qy,h.fz,fun i a aa aW=> ?_,?_,fun j ae c av=> ?_⟩
 ·rcases gM.1 al with U|U
  ·exact h.row x (pI U)
  ·rw [hk.1 U];unfold Dc;rw [cW,gN]
 ·show ax (cL.p3 k m N s).rows i (s.basis.getD a 0)=if i=a then s.den else 0
  by_cases e:i<m
  ·rw [iA i _ e,h.unit i a aa aW]
  ·obtain rfl:i=m:=J;rw [iB _ (by have:=h.qy a aW;omega),aw J];have aF: ∀q,q<i→k (s.basis.getD q 0)*ax s.rows q (s.basis.getD a 0)=if q=a then k (s.basis.getD q 0)*s.den else 0:=by
    intro q aA;rw [h.unit q a J aW];split
    ·rfl
    ·rw [gB]
   rw [gw aF,tX (f:=fun q=>k (s.basis.getD q 0)*s.den) aW,mu];omega
 ·obtain ⟨σ,U,ab⟩:=h.ow;exact ⟨σ,U,by show ew (m+1) (il (j4 k m N M) m s.basis)=σ*s.den;rw [aeD,ab]⟩
 ·show b5 (fun i=>ax (cL.p3 k m N s).rows i j*il (j4 k m N M) m s.basis i c) (m+1)=s.den*ax (j4 k m N M) c j;show b5 (fun i=>ax (cL.p3 k m N s).rows i j*il (j4 k m N M) m s.basis i c) m+ax (cL.p3 k m N s).rows m j*il (j4 k m N M) m s.basis m c=_;rw [GY _ c av];have Aj:=h.yt j ae c av;have Aj:b5 (fun i=>ax s.rows i j*il M m s.basis i c) m+ax s.rows m j*il M m s.basis m c=s.den*ax M c j:=Aj;rw [GY _ c av] at Aj;by_cases e:c=m
  ·subst e;rw [aB rfl,m2 j ae,iB j ae];have aF: ∀i,i<c→ax (cL.p3 k c N s).rows i j*il (j4 k c N M) c s.basis i c=k (s.basis.getD i 0)*ax s.rows i j:=by intro i aa;rw [iA i j aa,DZ _ _ _ aa,m2 _ (by have:=h.qy i aa;omega),mu]
   rw [gw aF];omega
  ·rw [aw e,gB,uA] at*;rw [m1 c j J,←Aj];exact gw (fun i aa=>by rw [iA i j aa,DZ _ _ _ aa,DZ _ _ _ aa,m1 c _ J])
theorem PL {T:cu}{N m i c:Nat}{d:Int}{p:Nat→Nat}{y:Nat→Int}(av:c<N+1)(aD: ∀k,k<m→p k<N+1):
 lr T N (fun j=>(if j=c then d else 0)-b5 (fun k=>if j=p k then y k else 0) m) i=ax T i c*d-b5 (fun k=>ax T i (p k)*y k) m:=by
 unfold lr;have aE: ∀j,j<N+1→ax T i j*((if j=c then d else 0)-b5 (fun k=>if j=p k then y k else 0) m)=(if j=c then ax T i j*d else 0)+b5 (fun k=>if j=p k then-(ax T i j*y k) else 0) m:=by
  intro j ae;rw [Int.mul_sub,Int.sub_eq_add_neg];congr 1
  ·split
   ·rfl
   ·rw [gB]
  ·rw [←qw,show-(b5 (fun k=>if j=p k then y k else 0) m)=b5 (fun k=> -1*(if j=p k then y k else 0)) m from by rw [nm];omega,←nm];exact gw (fun k _=>by
    split
    ·rw [rh,mv,qw]
    ·rw [gB,gB])
 rw [gw aE,vt,tX (f:=fun j=>ax T i j*d) av,Jf,Int.sub_eq_add_neg];congr 1;have aF: ∀k,k<m→b5 (fun j=>if j=p k then-(ax T i j*y k) else 0) (N+1)= -1*(ax T i (p k)*y k):=by intro k an;rw [tX (f:=fun j=> -(ax T i j*y k)) (aD k an)];omega
 rw [gw aF,nm];omega
structure K6 (m N n:Nat)(M:cu)(e:Nat→Int):Prop where
 lt:n+m<N+1
 bo: ∀i,i<m→e i*e i=1
 at': ∀i k,i<m→k<m→ax M i (n+k)=if i=k then e i else 0
 cost: ∀k,k<m→ax M m (n+k)=0
theorem Inv.combo {m N n:Nat}{M:cu}{s:cl}{e:Nat→Int}(h:Inv m N M s)(az:K6 m N n M e){q j:Nat}(aA:q<m+1)(ae:j<N+1):
 ax s.rows q j=b5 (fun k=>ax s.rows q (n+k)*(e k*ax M k j)) m+(if q=m then s.den*ax M m j else 0):=by
 have bG:=az.lt;have aD: ∀k,k<m→n+k<N+1:=fun k an=>by omega
 have HF:=(h.Ih (fun v=>(if v=j then 1 else 0)-b5 (fun k=>if v=n+k then e k*ax M k j else 0) m) (-(ax M m j))).1 (fun i aa=>by
  rw [PL ae aD,Int.mul_one];by_cases aE:i=m
  ·subst aE;rw [aB rfl,sK (fun k an=>by rw [az.cost k an,jE])];omega
  ·rw [aw aE];have aF: ∀k,k<m→ax M i (n+k)*(e k*ax M k j)=if k=i then e k*(e k*ax M k j) else 0:=by
    intro k an;rw [az.at' i k J an];by_cases bO:i=k
    ·rw [aB bO,aB bO.symm,bO]
    ·rw [aw bO,aw (fun q=>bO q.symm),jE]
   rw [gw aF,tX (f:=fun k=>e k*(e k*ax M k j)) J,←kG,az.bo i J,mv];omega) q aA
 rw [PL ae aD,Int.mul_one] at HF;by_cases aE:q=m
 ·rw [aB aE] at HF⊢;rw [qw] at HF;omega
 ·rw [aw aE] at HF⊢;omega
theorem Inv.init {T:cu}{β:List Nat}{m N:Nat}(U:T.length=m+1)(ab: ∀x∈T,x.length=N+1)(ay:β.length=m)(bc: ∀i,i<m→β.getD i 0<N)(bI: ∀i k,i<m+1→k<m→ax T i (β.getD k 0)=if i=k then 1 else 0):Inv m N T ⟨T,1,β⟩:=by
 have hu: ∀a c,a<m+1→c<m+1→il T m β a c=A9 a c:=by
  intro a c aW av;show (if a<m then qk T _ else fun c=>if c=a then (1:Int) else 0) c=if a=c then 1 else 0
  by_cases e:a<m
  ·rw [aB e];show ax T c _=_;rw [bI c a av e];by_cases aF:c=a
   ·rw [aB aF,aB aF.symm]
   ·rw [aw aF,aw (fun q=>aF q.symm)]
  ·rw [aw e];by_cases aF:c=a
   ·rw [aB aF];exact (aB aF.symm).symm
   ·rw [aw aF];exact (aw (fun q=>aF q.symm)).symm
 refine ⟨U,ab,ay,bc,by show (0:Int)<1;omega,bI,⟨1,I,?_⟩,fun j ae c av=> ?_⟩
 ·show ew (m+1) (il T m β)=1*1;rw [yH hu,XP];rfl
 ·show b5 (fun i=>ax T i j*il T m β i c) (m+1)=1*ax T c j;have e: ∀i,i<m+1→ax T i j*il T m β i c=if i=c then ax T i j else 0:=by
   intro i aa;rw [hu i c aa av];show _*(if i=c then (1:Int) else 0)=_;split
   ·rw [Int.mul_one]
   ·rw [gB]
  rw [gw e,tX (f:=fun i=>ax T i j) av,mv]
end Go.aj.cL
namespace Go.aj.cL
open Go.aj.dR Go.aj.cQ Go.aj.dh
def eK (B:List Rat):Nat→List Nat
 |0=>[]
 |k+1=>if (B.getD k 0).num<0 then eK B k++[k] else eK B k
abbrev fa (B:List Rat)(i:Nat):Nat:=(eK B i).length
abbrev nX (B:List Rat):Nat:=fa B B.length
theorem JR {B:List Rat}: ∀{n k:Nat},k∈eK B n↔k<n∧(B.getD k 0).num<0
 |0,k=>by simp [eK]
 |n+1,k=>by
  rw [eK];split
  ·rename_i h;rw [gM,JR,hk];constructor
   ·rintro (U|U)
    ·exact ⟨J,U.2⟩
    ·rw [U];exact ⟨J,h⟩
   ·rintro ⟨U,ab⟩;by_cases e:k=n
    ·exact .inr e
    ·exact .inl ⟨J,ab⟩
  ·rename_i h;rw [JR];constructor
   ·rintro ⟨U,ab⟩;exact ⟨J,ab⟩
   ·rintro ⟨U,ab⟩;refine ⟨?_,ab⟩;by_cases e:k=n
    ·rw [e] at ab;exact absurd ab h
    ·omega
theorem Xp (B:List Rat)(i:Nat): ∀d,fa B i≤fa B (i+d)
 |0=>bN _
 |d+1=>by
  refine dU (Xp B i d) ?_;show _≤(eK B (i+d+1)).length;rw [eK];split
  ·rw [di];exact oU _ _
  ·exact bN _
theorem Xq {B:List Rat}{i:Nat}(h:(B.getD i 0).num<0):fa B (i+1)=fa B i+1:=by show (eK B (i+1)).length=_;rw [eK,aB h,di];rfl
theorem Dp {B:List Rat}{i k:Nat}(h:(B.getD i 0).num<0)(an:i<k):fa B i<fa B k:=by have U:=Xp B (i+1) (k-(i+1));rw [show i+1+(k-(i+1))=k by omega,Xq h] at U;omega
theorem aao {B:List Rat}{i k:Nat}(h:(B.getD i 0).num<0)(aS:(B.getD k 0).num<0)(e:fa B i=fa B k):i=k:=by
 by_cases U:i<k
 ·have:=Dp h U;omega
 ·by_cases ab:k<i
  ·have:=Dp aS ab;omega
  ·omega
theorem Gl (B:List Rat): ∀i,fa B i≤i
 |0=>bN _
 |i+1=>by
  show (eK B (i+1)).length≤_;rw [eK];have:=Gl B i;split
  ·rw [di];show fa B i+1≤_;omega
  ·show fa B i≤_;omega
def xw (n m a:Nat)(l:List Int)(i j:Nat):Int:=if j<n then l.getD j 0 else if j=n+i then 1 else if j=n+m+a then l.getD n 0 else 0
def y0 (n m a:Nat)(l:List Int)(i:Nat)(neg:Bool)(k j:Nat):Int:=if neg then (if j=n+m+k then 1 else-(xw n m a l i j)) else xw n m a l i j
def vq (n m a:Nat)(l:List Int)(i:Nat)(neg:Bool)(k:Nat):List Int:=(List.range (n+m+a+1)).map (y0 n m a l i neg k)
structure Prog where
 A:List (List Rat)
 B:List Rat
 C:List Rat
abbrev Prog.n (p:Prog):Nat:=p.C.length
abbrev Prog.m (p:Prog):Nat:=p.B.length
abbrev Prog.a (p:Prog):Nat:=nX p.B
abbrev Prog.N (p:Prog):Nat:=p.C.length+p.B.length+nX p.B
abbrev Prog.neg (p:Prog)(i:Nat):Bool:=decide ((p.B.getD i 0).num<0)
def Prog.full (p:Prog)(i:Nat):List Rat:=p.A.getD i []++[p.B.getD i 0]
def Prog.whole (p:Prog)(i:Nat):List Int:=hP (p.full i)
def Prog.ey (p:Prog)(i:Nat):Nat:=hS 1 (p.full i)
structure Prog.hJ (p:Prog):Prop where
 rows:p.A.length=p.B.length
 qA: ∀r∈p.A,r.length=p.C.length
def iG (p:Prog):cu:=(List.range p.m).map (fun i=>vq p.n p.m p.a (p.whole i) i (p.neg i) (fa p.B i))
def jO (p:Prog):List Nat:=(List.range p.m).map (fun i=>if p.neg i then p.n+p.m+fa p.B i else p.n+i)
def fL (p:Prog):cl:=⟨iG p++[List.replicate (p.N+1) 0],1,jO p⟩
def Prog.la (p:Prog)(i:Nat):Int:=if p.neg i then-1 else 1
theorem KM (p:Prog)(i:Nat):p.la i*p.la i=1:=by unfold Prog.la;split<;>rfl
theorem xc (p:Prog):(iG p).length=p.m:=by simp [iG]
theorem Je (p:Prog):(jO p).length=p.m:=by simp [jO]
theorem sI {α:Type}{f:Nat→α}{n j:Nat}{d:α}(ae:j<n):((List.range n).map f).getD j d=f j:=by simp [List.getD,ae]
theorem Jp (p:Prog){i j:Nat}(aa:i<p.m)(ae:j<p.N+1):ax (fL p).rows i j=y0 p.n p.m p.a (p.whole i) i (p.neg i) (fa p.B i) j:=by
 unfold ax;have e:(fL p).rows.getD i []=vq p.n p.m p.a (p.whole i) i (p.neg i) (fa p.B i):=by show (iG p++_).getD i []=_;rw [uc [] (by rw [xc];exact aa)];exact sI aa
 rw [e];exact sI ae
theorem UL (p:Prog)(j:Nat):ax (fL p).rows p.m j=0:=by
 unfold ax;have e:(fL p).rows.getD p.m []=List.replicate (p.N+1) 0:=by show (iG p++[_]).getD p.m []=_;rw [←xc p];exact P7
 rw [e];simp only [List.getD,pJ];split<;>rfl
theorem Jd (p:Prog){i:Nat}(aa:i<p.m):(jO p).getD i 0=if p.neg i then p.n+p.m+fa p.B i else p.n+i:=sI aa
theorem Ql (p:Prog){i j:Nat}(aa:i<p.m)(ae:j<p.n):ax (fL p).rows i j=p.la i*(p.whole i).getD j 0:=by
 have Mb:j<p.C.length:=ae;have wF:i<p.B.length:=aa;rw [Jp p aa (by show j<p.C.length+p.B.length+nX p.B+1;omega)];unfold y0 Prog.la xw;by_cases e:p.neg i=true
 ·rw [aB e,aB e,aB ae,aw (by show¬j=p.C.length+p.B.length+fa p.B i;omega)];omega
 ·rw [aw e,aw e,aB ae];omega
theorem Kz (p:Prog){i k:Nat}(aa:i<p.m)(an:k<p.m):ax (fL p).rows i (p.n+k)=if i=k then p.la i else 0:=by
 have wF:i<p.B.length:=aa;have HG:k<p.B.length:=an;rw [Jp p aa (by show p.C.length+k<p.C.length+p.B.length+nX p.B+1;omega)];unfold y0 Prog.la xw;have U: ¬p.n+k<p.n:=J;have ab: ¬p.n+k=p.n+p.m+fa p.B i:=by show¬p.C.length+k=p.C.length+p.B.length+fa p.B i;omega
 have ay: ¬p.n+k=p.n+p.m+p.a:=by show¬p.C.length+k=p.C.length+p.B.length+nX p.B;omega
 rw [aw ab,aw U,aw ay];by_cases e:i=k
 ·subst e;rw [aB rfl,aB rfl]
 ·rw [aw (show¬p.n+k=p.n+i by omega),aw e];split<;>rfl
theorem ZD (p:Prog){i k:Nat}(aa:i<p.m)(an:k<p.a):ax (fL p).rows i (p.n+p.m+k)=if p.neg i=true∧k=fa p.B i then 1 else 0:=by
 have wF:i<p.B.length:=aa;have HG:k<nX p.B:=an;rw [Jp p aa (by show p.C.length+p.B.length+k<p.C.length+p.B.length+nX p.B+1;omega)];unfold y0 xw;have U: ¬p.n+p.m+k<p.n:=J;have ab: ¬p.n+p.m+k=p.n+i:=by show¬p.C.length+p.B.length+k=p.C.length+i;omega
 have ay: ¬p.n+p.m+k=p.n+p.m+p.a:=by show¬p.C.length+p.B.length+k=p.C.length+p.B.length+nX p.B;omega
 rw [aw U,aw ab,aw ay];by_cases e:p.neg i=true
 ·rw [aB e];by_cases aF:k=fa p.B i
  ·rw [aB J,aB ⟨e,aF⟩]
  ·rw [aw J,aw (fun q=>aF q.2)];rfl
 ·rw [aw e,aw (fun q=>e q.1)]
theorem Ky (p:Prog){i:Nat}(aa:i<p.m):ax (fL p).rows i p.N=p.la i*(p.whole i).getD p.n 0:=by
 have wF:i<p.B.length:=aa;rw [Jp p aa (by show p.C.length+p.B.length+nX p.B<p.C.length+p.B.length+nX p.B+1;omega)];unfold y0 Prog.la xw;have U: ¬p.N<p.n:=by show¬p.C.length+p.B.length+nX p.B<p.C.length;omega
 have ab: ¬p.N=p.n+i:=by show¬p.C.length+p.B.length+nX p.B=p.C.length+i;omega
 have ay:p.N=p.n+p.m+p.a:=rfl;rw [aw U,aw ab,aB ay];by_cases e:p.neg i=true
 ·have aF:(p.B.getD i 0).num<0:=by simpa using e
  have bc:fa p.B i<nX p.B:=Dp aF wF;rw [aB e,aB e,aw (by show¬p.C.length+p.B.length+nX p.B=p.C.length+p.B.length+fa p.B i;omega)];omega
 ·rw [aw e,aw e];omega
theorem anb (p:Prog):K6 p.m p.N p.n (fL p).rows p.la:=by refine ⟨by show p.C.length+p.B.length<p.C.length+p.B.length+nX p.B+1;omega,fun i _=>KM p i,fun i k aa an=>Kz p aa an,fun k _=>UL p _⟩
theorem CU (p:Prog):Inv p.m p.N (fL p).rows (fL p):=by
 refine Inv.init ?_ ?_ (Je p) ?_ ?_
 ·show (iG p++[_]).length=_;rw [di,xc];rfl
 ·intro x al;rcases gM.1 al with h|h
  ·obtain ⟨i,_,rfl⟩:=cS.1 h;unfold vq;rw [cW,gN]
  ·rw [hk.1 h,fc]
 ·intro i aa;have wF:i<p.B.length:=aa;rw [Jd p aa];show (if p.neg i=true then p.C.length+p.B.length+fa p.B i else p.C.length+i)<p.C.length+p.B.length+nX p.B;by_cases e:p.neg i=true
  ·have ay:fa p.B i<nX p.B:=Dp (by simpa using e) wF;rw [aB e];exact Nat.add_lt_add_left ay _
  ·rw [aw e];omega
 ·intro i k aa an;have HG:k<p.B.length:=an;rw [Jd p an];by_cases nb:i=p.m
  ·rw [nb,UL,aw (by show¬p.B.length=k;omega)]
  ·have aQ:i<p.m:=Nat.lt_of_le_of_ne (Nat.le_of_lt_succ aa) nb;by_cases e:p.neg k=true
   ·have aF:(p.B.getD k 0).num<0:=by simpa using e
    rw [aB e,ZD p aQ (Dp aF HG)];by_cases bO:i=k
    ·subst bO;rw [aB ⟨e,rfl⟩,aB rfl]
    ·rw [aw bO,aw];rintro ⟨bQ,bX⟩;exact bO (aao (by simpa using bQ) aF bX.symm)
   ·rw [aw e,Kz p aQ an];by_cases bO:i=k
    ·subst bO;rw [aB rfl,aB rfl];unfold Prog.la;rw [aw e]
    ·rw [aw bO,aw bO]
theorem JN (p:Prog)(aD:p.hJ){i:Nat}(aa:i<p.m):(p.full i).length=p.n+1:=by unfold Prog.full;rw [di,aD.qA _ (dv [] (by rw [aD.rows];exact aa))];rfl
theorem Xk (p:Prog)(aD:p.hJ){i j:Nat}(aa:i<p.m)(ae:j<p.n+1):(p.whole i).getD j 0=((p.full i).getD j 0).num*((p.ey i/((p.full i).getD j 0).den:Nat):Int):=by unfold Prog.whole hP;rw [nk _ _ 0 _ _ (by rw [JN p aD aa];exact ae)];rfl
theorem JO (p:Prog)(aD:p.hJ){i j:Nat}(aa:i<p.m)(ae:j<p.n+1):(((p.whole i).getD j 0:Int):Rat)=((p.ey i:Nat):Rat)*(p.full i).getD j 0:=by rw [Xk p aD aa ae];exact Xl (dv 0 (by rw [JN p aD aa];exact ae))
theorem RC (p:Prog)(aD:p.hJ){i j:Nat}(aa:i<p.m)(ae:j<p.n):(p.full i).getD j 0=(p.A.getD i []).getD j 0:=by unfold Prog.full;rw [uc 0 (by rw [aD.qA _ (dv [] (by rw [aD.rows];exact aa))];exact ae)]
theorem Qs (p:Prog)(aD:p.hJ){i:Nat}(aa:i<p.m):(p.full i).getD p.n 0=p.B.getD i 0:=by unfold Prog.full;have:=aD.qA _ (dv [] (show i<p.A.length by rw [aD.rows];exact aa));show (p.A.getD i []++[_]).getD p.C.length 0=_;rw [←this];exact P7
theorem V2 (p:Prog)(aD:p.hJ):jn p.m p.N (fL p):=by
 intro i aa;rw [Ky p aa,Xk p aD aa (gC _),Qs p aD aa];have ab:(0:Int)≤((p.ey i/(p.B.getD i 0).den:Nat):Int):=DW _;unfold Prog.la;split
 ·rename_i e;have aF:(p.B.getD i 0).num<0:=by simpa using e
  have:=sh (show 0≤ -(p.B.getD i 0).num by omega) ab;rw [rh] at this;omega
 ·rename_i e;have aF: ¬(p.B.getD i 0).num<0:=by simpa using e
  have:=sh (show 0≤(p.B.getD i 0).num by omega) ab;omega
theorem FA (f:Nat→Int)(a:Nat): ∀b,b5 f (a+b)=b5 f a+b5 (fun k=>f (a+k)) b
 |0=>by show b5 f a=b5 f a+0;omega
 |b+1=>by
  show b5 f (a+b)+f (a+b)=b5 f a+(b5 (fun k=>f (a+k)) b+f (a+b))
  rw [FA f a b];omega
theorem Jc: ∀{n:Nat} {f:Nat→Int},(∀i,i<n→0≤f i)→0≤b5 f n
 |0,f,_=>Int.le_refl 0
 |n+1,f,h=>by have U:=Jc (n:=n) (f:=f) (fun i aa=>h i J);have ab:=h n (gC n);show 0≤b5 f n+f n;omega
theorem Xa: ∀{n:Nat} {f:Nat→Int},(∀i,i<n→0≤f i)→b5 f n=0→ ∀i,i<n→f i=0
 |0,f,_,_,i,aa=>absurd aa (gh i)
 |n+1,f,h,aM,i,aa=>by
  have U:=Jc (n:=n) (f:=f) (fun i aa=>h i J);have ab:=h n (gC n);have aM:b5 f n+f n=0:=aM;by_cases e:i=n
  ·rw [e];omega
  ·exact Xa (n:=n) (fun i aa=>h i J) J i J
theorem CN {m N w:Nat}{M:cu}{s:cl}(aa:Inv m N M s)(aR:jn m N s)(hw:w≤N): ∀K,Inv m N M (e4 m N w s K)∧jn m N (e4 m N w s K)
 |0=>⟨aa,aR⟩
 |K+1=>by
  obtain ⟨U,ab⟩:=CN aa aR hw K;show Inv m N M ((iX m N w (e4 m N w s K)).getD _)∧jn m N ((iX m N w (e4 m N w s K)).getD _);cases az:iX m N w (e4 m N w s K) with
  |none=>exact ⟨U,ab⟩
  |some ct=>
   obtain ⟨c,r,g1,g2,g3,g4,rfl⟩:=OT az;have:=g4.pos;exact ⟨U.iS g4.lt J J,U.Rz ab J g4⟩
def gQ (m w:Nat)(s:cl):Nat:=nq s.rows m w 0
theorem W5 {m N w:Nat}{s:cl}(h:iX m N w s=none):
 (gQ m w s=w∧ ∀a,a<w→0≤ax s.rows m a)∨(gQ m w s<w∧ax s.rows m (gQ m w s)<0∧ ∀i,i<m→ax s.rows i (gQ m w s)≤0):=by
 unfold iX at h;obtain ⟨aE,aF,bO,hM⟩:=Ft s.rows m w 0;split at h
 ·rename_i U;exact .inl ⟨U,fun a aW=>bO a (cj _) (by rw [U];exact aW)⟩
 ·split at h
  ·rename_i U _ au;exact .inr ⟨by unfold gQ;omega,hM J,N9 _ _ _ _ _ au⟩
  ·cases h
def e0 (m:Nat)(s:cl)(c j:Nat):Int:=(if j=c then s.den else 0)-b5 (fun k=>if j=s.basis.getD k 0 then ax s.rows k c else 0) m
section
variable {m N w:Nat}{M:cu}{s:cl}
theorem Inv.vec (h:Inv m N M s){c:Nat}(av:c<N+1){i:Nat}(aa:i<m+1):lr M N (e0 m s c) i=if i=m then ax s.rows m c else 0:=by
 have:=(h.Ih (e0 m s c) (-(ax s.rows m c))).2 (fun i aa=>by
  rw [show lr s.rows N (e0 m s c) i=ax s.rows i c*s.den-b5 (fun k=>ax s.rows i (s.basis.getD k 0)*ax s.rows k c) m from PL av (fun k an=>by have:=h.qy k an;omega)];by_cases e:i=m
  ·subst e;rw [aB rfl,sK (fun k an=>by rw [h.unit i k J an,aw J,jE]),qw,mu];omega
  ·rw [aw e];have bO: ∀k,k<m→ax s.rows i (s.basis.getD k 0)*ax s.rows k c=if k=i then s.den*ax s.rows k c else 0:=by
    intro k an;rw [h.unit i k aa an];by_cases hM:i=k
    ·rw [aB hM,aB hM.symm]
    ·rw [aw hM,aw (fun q=>hM q.symm),jE]
   rw [gw bO,tX (f:=fun k=>s.den*ax s.rows k c) J,mu];omega) i aa
 by_cases e:i=m
 ·rw [aB e] at this⊢;omega
 ·rw [aw e] at this⊢;omega
theorem Inv.Cl (h:Inv m N M s){c k:Nat}(an:k<m):e0 m s c (s.basis.getD k 0)=(if s.basis.getD k 0=c then s.den else 0)-ax s.rows k c:=by unfold e0;congr 1;rw [yU k an (fun i aa ch=>by rw [aw (fun e=>ch (h.nodup aa an e.symm))]),aB rfl]
theorem AP {c j:Nat}(aG: ∀k,k<m→s.basis.getD k 0≠j):e0 m s c j=if j=c then s.den else 0:=by unfold e0;rw [sK (fun k an=>by rw [aw (fun e=>aG k an e.symm)]),zA]
theorem Inv.alm (h:Inv m N M s):e0 m s N N=s.den:=by rw [AP (fun k an=>by have:=h.qy k an;omega),aB rfl]
theorem Inv.Nv (h:Inv m N M s)(aR:jn m N s){j:Nat}(ae:j<N):e0 m s N j≤0:=by
 by_cases ak:kt m s j
 ·obtain ⟨k,an,rfl⟩:=ak;rw [h.Cl an,aw J];have:=aR k an;omega
 ·rw [AP (fun k an e=>ak ⟨k,an,e⟩),aw J];exact Int.le_refl 0
theorem Inv.Nu (h:Inv m N M s){c:Nat}(hle: ∀i,i<m→ax s.rows i c≤0)(j:Nat):0≤e0 m s c j:=by
 have hd:=h.fz;by_cases ak:kt m s j
 ·obtain ⟨k,an,rfl⟩:=ak;rw [h.Cl an];have:=hle k an;split<;>omega
 ·rw [AP (fun k an e=>ak ⟨k,an,e⟩)];split<;>omega
end
theorem alX {T:cu}{m:Nat}(h:m≤T.length)(L oK:List Int):kS (kS T m L) m oK=kS T m oK:=by unfold kS;congr 1;rw [List.take_append_of_le_length (by rw [fy];omega),List.take_take,Nat.min_self]
theorem amF {T:cu}{m N:Nat}(h:m≤T.length)(k c1:Nat→Int):j4 k m N (j4 c1 m N T)=j4 k m N T:=alX h _ _
theorem Vn {k:Nat→Int}{m N:Nat}{s:cl}(b4:m≤s.rows.length)(aR:jn m N s):jn m N (p3 k m N s):=fun i aa=>by show 0≤ax (kS _ _ _) i N;rw [AQ b4 _ aa];exact aR i aa
theorem J1 {k:Nat→Int}{m N:Nat}{T:cu}(b4:m≤T.length)(x:Nat→Int):lr (j4 k m N T) N x m=b5 (fun j=>k j*x j) (N+1):=by unfold lr;refine gw (fun j ae=> ?_);show ax (kS _ _ _) m j*_=_;rw [JT b4,p4 ae]
theorem abt {k:Nat→Int}{m N:Nat}{T:cu}(b4:m≤T.length)(x:Nat→Int){i:Nat}(aa:i<m):lr (j4 k m N T) N x i=lr T N x i:=by unfold lr;refine gw (fun j ae=> ?_);show ax (kS _ _ _) i j*_=_;rw [AQ b4 _ aa]
theorem Kh {k:Nat→Int}{m N:Nat}{T:cu}(b4:m≤T.length){j:Nat}(ae:j<N+1):ax (j4 k m N T) m j=k j:=by show ax (kS _ _ _) m j=_;rw [JT b4,p4 ae]
theorem J0 {k:Nat→Int}{m N:Nat}{T:cu}(b4:m≤T.length){i:Nat}(aa:i<m)(j:Nat):ax (j4 k m N T) i j=ax T i j:=by show ax (kS _ _ _) i j=_;rw [AQ b4 _ aa]
theorem apO (p:Prog):(fL p).rows.length=p.m+1:=(CU p).n
theorem nS (p:Prog):p.m≤(fL p).rows.length:=by rw [apO];exact Nat.le_succ _
def hR (p:Prog)(j:Nat):Int:=if p.n+p.m≤j∧j<p.N then 1 else 0
theorem VC (p:Prog)(j:Nat):0≤hR p j:=by unfold hR;split<;>omega
def An (p:Prog):cl:=p3 (hR p) p.m p.N (fL p)
def uv (p:Prog):cu:=j4 (hR p) p.m p.N (fL p).rows
theorem Qg (p:Prog):Inv p.m p.N (uv p) (An p):=(CU p).p3 (hR p) (nS p)
theorem Pz (p:Prog)(aD:p.hJ):jn p.m p.N (An p):=Vn (nS p) (V2 p aD)
theorem amT {p:Prog}{s:cl}(h:Inv p.m p.N (uv p) s){c:Nat}(av:c<p.N)(jI:ax s.rows p.m c<0)(hle: ∀i,i<p.m→ax s.rows i c≤0):False:=by have U:=h.vec (c:=c) (i:=p.m) (Nat.lt_succ_of_lt av) (gC _);have ab:=J1 (k:=hR p) (N:=p.N) (nS p) (e0 p.m s c);have ab:lr (uv p) p.N (e0 p.m s c) p.m=b5 (fun j=>hR p j*e0 p.m s c j) (p.N+1):=ab;rw [U,aB rfl] at ab;have ay:0≤b5 (fun j=>hR p j*e0 p.m s c j) (p.N+1):=Jc (fun j _=>sh (VC p j) (h.Nu hle j));omega
theorem JF {p:Prog}{s:cl}(h:Inv p.m p.N (uv p) s)(aR:jn p.m p.N s):
 ax s.rows p.m p.N≤0∧(ax s.rows p.m p.N=0→ ∀i,i<p.m→p.n+p.m≤s.basis.getD i 0→ax s.rows i p.N=0):=by
 have U:=h.vec (c:=p.N) (i:=p.m) (gC _) (gC _);have ab:lr (uv p) p.N (e0 p.m s p.N) p.m=b5 (fun j=>hR p j*e0 p.m s p.N j) (p.N+1):=J1 (k:=hR p) (N:=p.N) (nS p) (e0 p.m s p.N);rw [U,aB rfl] at ab;have bB: ∀j,j<p.N+1→0≤hR p j* -(e0 p.m s p.N j):=by
  intro j ae;by_cases e:j=p.N
  ·have:hR p j=0:=by unfold hR;rw [aw J]
   rw [this,jE];exact Int.le_refl 0
  ·have:=h.Nv aR (j:=j) (Nat.lt_of_le_of_ne (Nat.le_of_lt_succ ae) e);exact sh (VC p j) J
 have ay:b5 (fun j=>hR p j* -(e0 p.m s p.N j)) (p.N+1)= -(ax s.rows p.m p.N):=by have:b5 (fun j=>hR p j* -(e0 p.m s p.N j)) (p.N+1)=b5 (fun j=> -1*(hR p j*e0 p.m s p.N j)) (p.N+1):=gw (fun j _=>by rw [qw];omega);rw [this,nm,←ab];omega
 have bc:=Jc bB;refine ⟨J,fun aM i aa ak=> ?_⟩;have zL:=h.qy i aa;have bI:=Xa bB (by rw [ay,aM];rfl) (s.basis.getD i 0) (Nat.lt_succ_of_lt zL);have db:hR p (s.basis.getD i 0)=1:=by unfold hR;rw [aB ⟨ak,zL⟩]
 rw [db,mv,h.Cl aa,aw (pQ zL)] at bI;omega
def jt (T:cu)(i:Nat):Nat→Nat→Nat
 |0,c=>c
 |f+1,c=>if ax T i c≠0 then c else jt T i f (c+1)
theorem Zf (T:cu)(i:Nat): ∀f c,c≤jt T i f c∧jt T i f c≤c+f∧(∀a,c≤a→a<jt T i f c→ax T i a=0)∧(jt T i f c<c+f→ax T i (jt T i f c)≠0)
 |0,c=>⟨bN _,bN _,fun a U ab=>absurd ab (by rw [jt];omega),fun h=>absurd h (by rw [jt];omega)⟩
 |f+1,c=>by
  rw [jt];by_cases h:ax T i c≠0
  ·rw [aB h];exact ⟨bN _,J,fun a U ab=>absurd ab J,fun _=>h⟩
  ·rw [aw h];obtain ⟨U,ab,ay,bc⟩:=Zf T i f (c+1);refine ⟨J,J,fun a aW ak=> ?_,fun ak=>bc J⟩;by_cases e:a=c
   ·subst e;omega
   ·exact ay a J ak
def sJ (w:Nat)(s:cl)(k:Nat):cl:=if s.basis.getD k 0<w then s else if jt s.rows k w 0=w then s else iS s k (jt s.rows k w 0)
def jx (w:Nat)(s:cl):Nat→cl
 |0=>s
 |k+1=>sJ w (jx w s k) k
structure n2 (m N w:Nat)(s:cl)(k:Nat):Prop where
 z: ∀i,i<m→w≤s.basis.getD i 0→ax s.rows i N=0
 r: ∀i,i<k→w≤s.basis.getD i 0→ ∀j,j<w→ax s.rows i j=0
theorem Pj {d x y:Int}(hd:0<d)(h:d*x=y)(a1:y=0):x=0:=by
 rw [a1] at h;rcases xV.1 h with U|U
 ·omega
 ·exact U
theorem anB {d x y:Int}(hd:0<d)(h:d*x=y)(a1:0≤y):0≤x:=Int.le_of_mul_le_mul_left (by rw [gB,h];exact a1) hd
section
variable {m N w:Nat}{M:cu}{s:cl}
theorem Inv.abO (h:Inv m N M s)(aR:jn m N s){k:Nat}(hd:n2 m N w s k)(an:k<m)(hw:w≤N):
 Inv m N M (sJ w s k)∧jn m N (sJ w s k)∧n2 m N w (sJ w s k) (k+1):=by
 unfold sJ;obtain ⟨aE,aF,bO,hM⟩:=Zf s.rows k w 0;by_cases ak:s.basis.getD k 0<w
 ·rw [aB ak];refine ⟨h,aR,hd.z,fun i aa ez=> ?_⟩;by_cases e:i=k
  ·rw [e] at ez;omega
  ·exact hd.r i J ez
 ·rw [aw ak];by_cases aG:jt s.rows k w 0=w
  ·rw [aB aG];refine ⟨h,aR,hd.z,fun i aa ez=> ?_⟩;by_cases e:i=k
   ·rw [e];exact fun j ae=>bO j (cj _) J
   ·exact hd.r i J ez
  ·rw [aw aG];have aD:=hM J;have LZ:jt s.rows k w 0<w:=J;generalize jt s.rows k w 0=c at*;have bB:=hd.z k an J;have Mx:=ZA aD;have uM: ∀i,(cL.iS s k c).basis.getD i 0=if i=k then c else s.basis.getD i 0:=fun i=>CS h an i
   have jc: ∀i,i<m→s.den*ax (cL.iS s k c).rows i N=ax s.rows i N*(ni (ax s.rows k c)*ax s.rows k c):=by
    intro i aa;rw [h.entry an (show c<N by omega) aD (show i<m+1 by omega) (gC N),bB];by_cases e:i=k
    ·rw [aB e,e,bB,gB,gB,jE]
    ·rw [aw e,gB,zA,pL]
   refine ⟨h.iS an J aD,fun i aa=>anB h.fz (jc i aa) (sh (aR i aa) (xQ Mx)),fun i aa ez=> ?_,fun i aa ez j ae=> ?_⟩
   ·rw [uM] at ez;by_cases e:i=k
    ·rw [aB e] at ez;omega
    ·rw [aw e] at ez;exact Pj h.fz (jc i aa) (by rw [hd.z i aa ez,jE])
   ·rw [uM] at ez;by_cases e:i=k
    ·rw [aB e] at ez;omega
    ·rw [aw e] at ez;have bQ:=hd.r i J ez j ae;have bX:=hd.r i J ez c LZ;refine Pj h.fz (h.entry an (show c<N by omega) aD (show i<m+1 by omega) (show j<N+1 by omega)) ?_;rw [aw e,bQ,bX,jE,jE];exact gB _
theorem Inv.Lm (h:Inv m N M s)(aR:jn m N s)(hd: ∀i,i<m→w≤s.basis.getD i 0→ax s.rows i N=0)(hw:w≤N):
 ∀k,k≤m→Inv m N M (jx w s k)∧jn m N (jx w s k)∧n2 m N w (jx w s k) k
 |0,_=>⟨h,aR,hd,fun i aa=>absurd aa (gh i)⟩
 |k+1,an=>by obtain ⟨U,ab,ay⟩:=Inv.Lm h aR hd hw k J;exact U.abO ab ay J hw
theorem Inv.abP (h:Inv m N M s)(hd:n2 m N w s m){r c:Nat}(hw:w≤N)(av:c<w)(au:Bb s.rows s.basis c N m r):n2 m N w (cL.iS s r c) m:=by
 have aD:=au.pos;have ad:=au.lt;have uM: ∀i,(cL.iS s r c).basis.getD i 0=if i=r then c else s.basis.getD i 0:=fun i=>CS h ad i
 have key: ∀i,i<m→w≤(cL.iS s r c).basis.getD i 0→ ∀j,(j<w∨j=N)→ax (cL.iS s r c).rows i j=0:=by
  intro i aa ak j ae;rw [uM] at ak;by_cases e:i=r
  ·rw [aB e] at ak;omega
  ·rw [aw e] at ak;have bQ:ax s.rows i j=0:=by
    rcases ae with ae|ae
    ·exact hd.r i aa ak j ae
    ·rw [ae];exact hd.z i aa ak
   have bX:=hd.r i aa ak c av;refine Pj h.fz (h.entry ad (show c<N by omega) J (show i<m+1 by omega) (show j<N+1 by omega)) ?_;rw [aw e,bQ,bX,jE,jE];exact gB _
 exact ⟨fun i aa ak=>key i aa ak N (.inr I),fun i aa ak j ae=>key i aa ak j (.inl ae)⟩
theorem X1 (h:Inv m N M s)(aR:jn m N s)(hd:n2 m N w s m)(hw:w≤N): ∀K,n2 m N w (e4 m N w s K) m
 |0=>hd
 |K+1=>by
  have U:=X1 h aR hd hw K;have ab:=(CN h aR hw K).1;show n2 m N w ((iX m N w (e4 m N w s K)).getD _) m;cases az:iX m N w (e4 m N w s K) with
  |none=>exact U
  |some ct=>
   obtain ⟨c,r,g1,g2,g3,g4,rfl⟩:=OT az;exact ab.abP U hw g1 g4
theorem anE {k:Nat→Int}(b4:m≤s.rows.length)(hd:n2 m N w s m):n2 m N w (p3 k m N s) m:=by
 refine ⟨fun i aa ak=> ?_,fun i aa ak j ae=> ?_⟩
 ·show ax (kS _ _ _) i N=0;rw [AQ b4 _ aa];exact hd.z i aa ak
 ·show ax (kS _ _ _) i j=0;rw [AQ b4 _ aa];exact hd.r i aa ak j ae
end
def e6 (p:Prog)(j:Nat):Int:=if j<p.n then-((hP p.C).getD j 0) else 0
def M2 (p:Prog):cu:=j4 (e6 p) p.m p.N (fL p).rows
def gq (p:Prog)(K:Nat):cl:=e4 p.m p.N (p.n+p.m) (An p) K
def hr (p:Prog)(K:Nat):cl:=if p.a=0 then fL p else jx (p.n+p.m) (gq p K) p.m
def u3 (p:Prog)(K:Nat):cl:=p3 (e6 p) p.m p.N (hr p K)
def jS (p:Prog)(K L:Nat):cl:=e4 p.m p.N (p.n+p.m) (u3 p K) L
theorem mQ (p:Prog):p.n+p.m≤p.N:=oU _ _
theorem CQ (p:Prog)(aD:p.hJ)(K:Nat):Inv p.m p.N (uv p) (gq p K)∧jn p.m p.N (gq p K):=CN (Qg p) (Pz p aD) (mQ p) K
theorem ahy (p:Prog)(aD:p.hJ)(K:Nat)(aM:0<p.a→ax (gq p K).rows p.m p.N=0):
 (∃M,Inv p.m p.N M (hr p K)∧p.m≤M.length∧j4 (e6 p) p.m p.N M=M2 p)∧jn p.m p.N (hr p K)∧n2 p.m p.N (p.n+p.m) (hr p K) p.m:=by
 unfold hr;by_cases e:p.a=0
 ·rw [aB e];have e2: ∀i,i<p.m→ ¬p.n+p.m≤(fL p).basis.getD i 0:=by intro i aa;have U:=(CU p).qy i aa;have ab:p.N=p.n+p.m+p.a:=rfl;omega
  exact ⟨⟨_,CU p,nS p,I⟩,V2 p aD,fun i aa ak=>absurd ak (e2 i aa),fun i aa ak=>absurd ak (e2 i aa)⟩
 ·rw [aw e];obtain ⟨U,ab⟩:=CQ p aD K;obtain ⟨_,bB⟩:=JF U ab;obtain ⟨g1,g2,g3⟩:=U.Lm ab (bB (aM J)) (mQ p) p.m (bN _);refine ⟨⟨_,g1,?_,amF (nS p) _ _⟩,g2,g3⟩;have:(uv p).length=p.m+1:=Vq (nS p) _;omega
theorem PA (p:Prog)(aD:p.hJ)(K:Nat)(aM:0<p.a→ax (gq p K).rows p.m p.N=0):
 Inv p.m p.N (M2 p) (u3 p K)∧jn p.m p.N (u3 p K)∧n2 p.m p.N (p.n+p.m) (u3 p K) p.m:=by
 obtain ⟨⟨M,U,ab,ay⟩,bc,bI⟩:=ahy p aD K aM;have b4:p.m≤(hr p K).rows.length:=by rw [U.n];exact Nat.le_succ _
 have db:=U.p3 (e6 p) ab;rw [ay] at db;exact ⟨db,Vn b4 bc,anE b4 bI⟩
theorem O2 (p:Prog)(aD:p.hJ)(K L:Nat)(aM:0<p.a→ax (gq p K).rows p.m p.N=0):
 Inv p.m p.N (M2 p) (jS p K L)∧jn p.m p.N (jS p K L)∧n2 p.m p.N (p.n+p.m) (jS p K L) p.m:=by obtain ⟨U,ab,ay⟩:=PA p aD K aM;obtain ⟨bc,bI⟩:=CN U ab (mQ p) L;exact ⟨bc,bI,X1 U ab ay (mQ p) L⟩
end Go.aj.cL
namespace Go.aj.cL
open Go.aj.dR Go.aj.cQ Go.aj.dh
structure DH where
 kind:Nat
 X:List Rat
 Y:List Rat
 R:List Rat
 V:Rat
def iW (n:Nat)(β:List Nat)(f:Nat→Rat)(l:List Rat):Nat→List Rat
 |0=>l
 |k+1=>if β.getD k 0<n then (iW n β f l k).set (β.getD k 0) (f k) else iW n β f l k
theorem xi (n:Nat)(β:List Nat)(f:Nat→Rat)(l:List Rat): ∀k,(iW n β f l k).length=l.length
 |0=>rfl
 |k+1=>by
  rw [iW];split
  ·rw [da,xi n β f l k]
  ·exact xi n β f l k
theorem PG {n:Nat}{β:List Nat}{f:Nat→Rat}{l:List Rat}{j:Nat}: ∀{K:Nat},(∀k,k<K→β.getD k 0≠j)→(iW n β f l K).getD j 0=l.getD j 0
 |0,_=>rfl
 |K+1,h=>by
  have U:=PG (n:=n) (f:=f) (l:=l) (K:=K) (fun k an=>h k J);rw [iW];split
  ·rw [fQ,aw (fun e=>h K (gC K) e.1.symm)];exact U
  ·exact U
theorem Oe {n:Nat}{β:List Nat}{f:Nat→Rat}{l:List Rat}{k:Nat}(au:l.length=n)(bG:β.getD k 0<n):
 ∀{K:Nat},(∀i,i<K→β.getD i 0=β.getD k 0→i=k)→k<K→(iW n β f l K).getD (β.getD k 0) 0=f k
 |0,_,an=>absurd an (gh k)
 |K+1,aa,an=>by
  rw [iW];by_cases e:k=K
  ·subst e;rw [aB bG,fQ,aB ⟨rfl,by rw [xi,au];exact bG⟩]
  ·have U:=Oe (f:=f) au bG (K:=K) (fun i h=>aa i J) J;have ch:β.getD K 0≠β.getD k 0:=fun q=>e (aa K (gC K) q).symm;split
   ·rw [fQ,aw (fun q=>ch q.1.symm)];exact U
   ·exact U
def mK (p:Prog)(s:cl):List Rat:=iW p.n s.basis (fun k=>Rat.divInt (ax s.rows k p.N) s.den) (List.replicate p.n 0) p.m
def lT (n c:Nat):List Rat:=if c<n then (List.replicate n 0).set c 1 else List.replicate n 0
def pC (p:Prog)(s:cl)(c:Nat):List Rat:=iW p.n s.basis (fun k=>Rat.divInt (-(ax s.rows k c)) s.den) (lT p.n c) p.m
def lH (p:Prog)(s:cl)(d:Int):List Rat:=(List.range p.m).map (fun i=>Rat.divInt (ax s.rows p.m (p.n+i)) d*((p.ey i:Nat):Rat))
def Prog.cE (p:Prog):Nat:=hS 1 p.C
def ed (p:Prog)(K L:Nat):DH:=
 if 0<p.a∧ax (gq p K).rows p.m p.N<0 then ⟨1,[],lH p (gq p K) (gq p K).den,[],0⟩
 else if gQ p.m (p.n+p.m) (jS p K L)<p.n+p.m then ⟨2,mK p (jS p K L),[],pC p (jS p K L) (gQ p.m (p.n+p.m) (jS p K L)),0⟩
 else ⟨0,mK p (jS p K L),lH p (jS p K L) ((jS p K L).den*(p.cE:Nat)),[],Rat.divInt (ax (jS p K L).rows p.m p.N) ((jS p K L).den*(p.cE:Nat))⟩
structure vU (p:Prog)(K L:Nat):Prop where
 one:0<p.a→iX p.m p.N (p.n+p.m) (gq p K)=none
 two: ¬(0<p.a∧ax (gq p K).rows p.m p.N<0)→iX p.m p.N (p.n+p.m) (jS p K L)=none
theorem J9 {p:Prog}(aD:p.hJ){K:Nat}(h: ¬(0<p.a∧ax (gq p K).rows p.m p.N<0)):0<p.a→ax (gq p K).rows p.m p.N=0:=by intro aW;obtain ⟨U,ab⟩:=CQ p aD K;have:=(JF U ab).1;have: ¬ax (gq p K).rows p.m p.N<0:=fun q=>h ⟨aW,q⟩;omega
theorem runs (p:Prog)(aD:p.hJ): ∃K L,vU p K L:=by
 obtain ⟨K,dE⟩:=ends (Qg p) (Pz p aD) (mQ p);by_cases h:0<p.a∧ax (gq p K).rows p.m p.N<0
 ·exact ⟨K,0,fun _=>dE,fun q=>absurd h q⟩
 ·obtain ⟨U,ab,_⟩:=PA p aD K (J9 aD h);obtain ⟨L,cB⟩:=ends U ab (mQ p);exact ⟨K,L,fun _=>dE,fun _=>cB⟩
inductive Good (p:Prog):DH→Prop
 |Bq {X Y:List Rat} {V:Rat} (al:X.length=p.n) (a1:Y.length=p.m) (w2: ∀j,j<p.n→0≤X.getD j 0) (sE: ∀i,i<p.m→0≤Y.getD i 0)
  (nC: ∀i,i<p.m→h9 (p.A.getD i []) X≤p.B.getD i 0) (tN: ∀j,j<p.n→p.C.getD j 0≤h9 (r4 p.A j) Y) (eH:h9 p.C X=V) (yA:h9 p.B Y=V):Good p ⟨0,X,Y,[],V⟩
 |none {Y:List Rat} (hm:0<p.m) (a1:Y.length=p.m) (sE: ∀i,i<p.m→0≤Y.getD i 0) (tN: ∀j,j<p.n→0≤h9 (r4 p.A j) Y) (yA:h9 p.B Y<0):Good p ⟨1,[],Y,[],0⟩
 |free {X R:List Rat} (aG:0<p.n) (al:X.length=p.n) (ad:R.length=p.n) (w2: ∀j,j<p.n→0≤X.getD j 0) (cU: ∀j,j<p.n→0≤R.getD j 0)
  (nC: ∀i,i<p.m→h9 (p.A.getD i []) X≤p.B.getD i 0) (DY: ∀i,i<p.m→h9 (p.A.getD i []) R≤0) (dB:0<h9 p.C R):Good p ⟨2,X,[],R,0⟩
theorem ahE {a x:Rat}(aW:0<a)(h:a*x≤0):x≤0:=tj (c:=a) (by rw [oa,nA];exact h) aW
theorem F7 {a x:Rat}(aW:0<a)(h:0≤a*x):0≤x:=tj (c:=a) (by rw [oa,nA x];exact h) aW
theorem C1 {k:Nat}(h:0<k):(0:Rat)<(k:Rat):=by have U:((k:Int):Rat)=(k:Rat):=xS k;rw [←U];exact vv J
theorem Kk (p:Prog)(i:Nat):0<p.ey i:=J5 _ 1 aT
theorem Ds (p:Prog):0<p.cE:=J5 _ 1 aT
theorem YG {x:Int}(h:x≤0):(x:Rat)≤0:=(GV (a:=x) (b:=0)).2 h
theorem Dg {x:Int}(h:0≤x):(0:Rat)≤(x:Rat):=(GV (a:=0) (b:=x)).2 h
theorem P9 {x:Int}(h:x<0):(x:Rat)<0:=(Rat.intCast_lt_intCast (a:=x) (b:=0)).2 h
theorem Fs {x d:Int}(h:d≠0):Rat.divInt x d*(d:Rat)=(x:Rat):=by rw [Rat.divInt_eq_div,Rat.div_mul_cancel (YH h)]
section
variable {p:Prog}{k:Nat→Int}{s:cl}
theorem apP {x:Nat→Int}{i:Nat}(aa:i<p.m)(aW: ∀q,q<p.a→x (p.n+p.m+q)=0):
 lr (fL p).rows p.N x i=p.la i*(b5 (fun j=>(p.whole i).getD j 0*x j) p.n+x (p.n+i)+(p.whole i).getD p.n 0*x p.N):=by
 have aE: ∀j,j<p.n→ax (fL p).rows i j*x j=p.la i*((p.whole i).getD j 0*x j):=fun j ae=>by rw [Ql p aa ae,kG]
 have aF: ∀q,q<p.m→ax (fL p).rows i (p.n+q)*x (p.n+q)=if q=i then p.la i*x (p.n+q) else 0:=fun q aA=>by
  rw [Kz p aa aA];by_cases e:i=q
  ·rw [aB e,aB e.symm]
  ·rw [aw e,aw (fun h=>e h.symm),jE]
 have bO: ∀q,q<p.a→ax (fL p).rows i (p.n+p.m+q)*x (p.n+p.m+q)=0:=fun q aA=>by rw [aW q aA,gB]
 show b5 (fun j=>ax (fL p).rows i j*x j) (p.n+p.m+p.a)+ax (fL p).rows i p.N*x p.N=_;rw [FA _ (p.n+p.m) p.a,FA _ p.n p.m,sK bO,gw aE,gw aF,nm,tX (f:=fun q=>p.la i*x (p.n+q)) aa,Ky p aa,zr,zr,kG];omega
theorem TO (h:Inv p.m p.N (j4 k p.m p.N (fL p).rows) s)(hd:n2 p.m p.N (p.n+p.m) s p.m){c:Nat}(av:c<p.n+p.m∨c=p.N){i:Nat}(aa:i<p.m):
 b5 (fun j=>(p.whole i).getD j 0*e0 p.m s c j) p.n+e0 p.m s c (p.n+i)+(p.whole i).getD p.n 0*e0 p.m s c p.N=0:=by
 have hw:=mQ p;have aet:c<p.N+1:=J;have U:=h.vec aet (i:=i) J;rw [aw (pQ aa),abt (nS p) _ aa,apP aa] at U
 ·have ab:=KM p i;generalize b5 (fun j=>(p.whole i).getD j 0*e0 p.m s c j) p.n+e0 p.m s c (p.n+i)+(p.whole i).getD p.n 0*e0 p.m s c p.N=z at*;have ay:p.la i*(p.la i*z)=0:=by rw [U,gB]
  rw [←kG,ab,mv] at ay;exact ay
 ·intro q aA;have bG:p.n+p.m+q<p.N:=Nat.add_lt_add_left aA _;by_cases ak:kt p.m s (p.n+p.m+q)
  ·obtain ⟨b,sq,LO⟩:=ak;have ab:=h.Cl (c:=c) sq;rw [LO,aw J] at ab;rw [ab];have:ax s.rows b c=0:=by
    rcases av with av|av
    ·exact hd.r b sq J c av
    ·rw [av];exact hd.z b sq J
   omega
  ·rw [AP (fun b ez e=>ak ⟨b,ez,e⟩),aw J]
theorem Yu (an: ∀i,i<p.m→k (p.n+i)=0):K6 p.m p.N p.n (j4 k p.m p.N (fL p).rows) p.la:=by
 have az:=anb p;refine ⟨az.lt,az.bo,fun i q aa aA=> ?_,fun q aA=> ?_⟩
 ·rw [J0 (nS p) aa];exact az.at' i q aa aA
 ·rw [Kh (nS p) (by have:=az.lt;omega)];exact an q aA
theorem Rt (h:Inv p.m p.N (j4 k p.m p.N (fL p).rows) s)(an: ∀i,i<p.m→k (p.n+i)=0){j:Nat}(ae:j<p.n):
 ax s.rows p.m j=b5 (fun q=>ax s.rows p.m (p.n+q)*(p.whole q).getD j 0) p.m+s.den*k j:=by have hw:=mQ p;have Sw:j<p.N+1:=J;rw [h.combo (Yu an) (gC _) Sw,aB rfl,Kh (nS p) Sw];congr 1;refine gw (fun q aA=> ?_);rw [J0 (nS p) aA,Ql p aA ae,←kG (p.la q),KM,mv]
theorem Rs (h:Inv p.m p.N (j4 k p.m p.N (fL p).rows) s)(an: ∀i,i<p.m→k (p.n+i)=0):
 ax s.rows p.m p.N=b5 (fun q=>ax s.rows p.m (p.n+q)*(p.whole q).getD p.n 0) p.m+s.den*k p.N:=by rw [h.combo (Yu an) (gC _) (gC _),aB rfl,Kh (nS p) (gC _)];congr 1;refine gw (fun q aA=> ?_);rw [J0 (nS p) aA,Ky p aA,←kG (p.la q),KM,mv]
theorem Z6 (aD:p.hJ){i:Nat}(aa:i<p.m):(p.A.getD i []).length=p.n:=aD.qA _ (dv [] (by rw [aD.rows];exact aa))
theorem Zv (aD:p.hJ){i:Nat}(aa:i<p.m){x:Nat→Int}{X:List Rat}{d:Rat}(jd: ∀j,j<p.n→X.getD j 0*d=((x j:Int):Rat)):
 ((b5 (fun j=>(p.whole i).getD j 0*x j) p.n:Int):Rat)=((p.ey i:Nat):Rat)*h9 (p.A.getD i []) X*d:=by rw [FG,vp (Z6 aD aa),←tY,←AB];refine e7 (fun j ae=> ?_);have bd:j<p.n+1:=J;rw [pM,←jd j ae,JO p aD aa bd,RC p aD aa ae];grind
theorem Wk {C:List Rat}{j:Nat}(ae:j<C.length):(((hP C).getD j 0:Int):Rat)=((hS 1 C:Nat):Rat)*C.getD j 0:=by unfold hP;rw [nk _ _ 0 _ _ ae];exact Xl (dv 0 ae)
theorem Y0 {x:Nat→Int}{X:List Rat}{d:Rat}(jd: ∀j,j<p.n→X.getD j 0*d=((x j:Int):Rat)):
 ((b5 (fun j=>(hP p.C).getD j 0*x j) p.n:Int):Rat)=((p.cE:Nat):Rat)*h9 p.C X*d:=by rw [FG,vp (a:=p.C) (n:=p.n) rfl,←tY,←AB];refine e7 (fun j ae=> ?_);rw [pM,←jd j ae,Wk ae];show ((p.cE:Nat):Rat)*_*_=_;grind
theorem YY (aD:p.hJ){j:Nat}(ae:j<p.n){y:Nat→Int}{Y:List Rat}{d:Rat}(tt: ∀q,q<p.m→Y.getD q 0*d=((y q:Int):Rat)*((p.ey q:Nat):Rat)):
 ((b5 (fun q=>y q*(p.whole q).getD j 0) p.m:Int):Rat)=h9 (r4 p.A j) Y*d:=by rw [FG,vp (n:=p.m) (by rw [XK];exact aD.rows),←AB];refine e7 (fun q aA=> ?_);have U:=tt q aA;have bd:j<p.n+1:=J;rw [pM,JO p aD aA bd,RC p aD aA ae,Pd];grind
theorem Zu (aD:p.hJ){y:Nat→Int}{Y:List Rat}{d:Rat}(tt: ∀q,q<p.m→Y.getD q 0*d=((y q:Int):Rat)*((p.ey q:Nat):Rat)):
 ((b5 (fun q=>y q*(p.whole q).getD p.n 0) p.m:Int):Rat)=h9 p.B Y*d:=by rw [FG,vp (a:=p.B) (n:=p.m) rfl,←AB];refine e7 (fun q aA=> ?_);have U:=tt q aA;rw [pM,JO p aD aA (gC _),Qs p aD aA];grind
theorem Wj (p:Prog)(s:cl):(mK p s).length=p.n:=by unfold mK;rw [xi,fc]
theorem F1 (n c:Nat):(lT n c).length=n:=by
 unfold lT;split
 ·rw [da,fc]
 ·rw [fc]
theorem ajn (p:Prog)(s:cl)(c:Nat):(pC p s c).length=p.n:=by unfold pC;rw [xi,F1]
theorem UE (p:Prog)(s:cl)(d:Int):(lH p s d).length=p.m:=by simp [lH]
theorem Gg (n j:Nat):(List.replicate n (0:Rat)).getD j 0=0:=by simp only [List.getD,pJ];split<;>rfl
theorem Oq {M:cu}(h:Inv p.m p.N M s){j:Nat}(ae:j<p.n):(mK p s).getD j 0*(s.den:Rat)=((-(e0 p.m s p.N j):Int):Rat):=by
 have hw:=mQ p;have hd:s.den≠0:=by have:=h.fz;omega
 unfold mK;by_cases ak:kt p.m s j
 ·obtain ⟨b,sq,rfl⟩:=ak;rw [Oe (by rw [fc]) ae (fun i aa e=>h.nodup aa sq e) sq,Fs hd,h.Cl sq,aw J];congr 1;omega
 ·rw [PG (fun b ez e=>ak ⟨b,ez,e⟩),Gg,oa,AP (fun b ez e=>ak ⟨b,ez,e⟩),aw J];rfl
theorem Qj {M:cu}(h:Inv p.m p.N M s){c:Nat}(av:ax s.rows p.m c<0){j:Nat}(ae:j<p.n):(pC p s c).getD j 0*(s.den:Rat)=((e0 p.m s c j:Int):Rat):=by
 have hd:s.den≠0:=by have:=h.fz;omega
 have x9: ¬kt p.m s c:=fun ak=>by have:=h.Lk ak;omega
 unfold pC;by_cases ak:kt p.m s j
 ·have afc:j≠c:=fun e=>x9 (e▸ak);obtain ⟨b,sq,rfl⟩:=ak;rw [Oe (F1 _ _) ae (fun i aa e=>h.nodup aa sq e) sq,Fs hd,h.Cl sq,aw afc];congr 1;omega
 ·rw [PG (fun b ez e=>ak ⟨b,ez,e⟩),AP (fun b ez e=>ak ⟨b,ez,e⟩)];unfold lT;by_cases e:j=c
  ·subst e;rw [aB ae,aB rfl,fQ,aB ⟨rfl,by rw [fc];exact ae⟩,pN]
  ·rw [aw e];have:(if c<p.n then (List.replicate p.n (0:Rat)).set c 1 else List.replicate p.n 0).getD j 0=0:=by
    split
    ·rw [fQ,aw (fun q=>e q.1),Gg]
    ·exact Gg _ _
   rw [this,oa];rfl
theorem UD {d:Int}(hd:d≠0){i:Nat}(aa:i<p.m):(lH p s d).getD i 0*(d:Rat)=((ax s.rows p.m (p.n+i):Int):Rat)*((p.ey i:Nat):Rat):=by
 have:(lH p s d).getD i 0=Rat.divInt (ax s.rows p.m (p.n+i)) d*((p.ey i:Nat):Rat):=by have aa:i<p.B.length:=aa;simp [lH,List.getD,aa]
 rw [this,te,nA ((p.ey i:Nat):Rat),←te,Fs hd]
theorem FH (aD:p.hJ)(h:Inv p.m p.N (j4 k p.m p.N (fL p).rows) s)(aR:jn p.m p.N s)(hd:n2 p.m p.N (p.n+p.m) s p.m):
 (∀j,j<p.n→0≤(mK p s).getD j 0)∧ ∀i,i<p.m→h9 (p.A.getD i []) (mK p s)≤p.B.getD i 0:=by
 have hw:=mQ p;have qF:=vv h.fz;refine ⟨fun j ae=> ?_,fun i aa=> ?_⟩
 ·have U:=Oq h ae;have ab:=h.Nv aR (j:=j) J;refine F7 qF ?_;rw [nA,U];exact Dg J
 ·have U:=TO h hd (c:=p.N) (.inr rfl) aa;rw [h.alm] at U;have ab:=Zv aD aa (x:=fun j=> -(e0 p.m s p.N j)) (X:=mK p s) (fun j ae=>Oq h ae);have ay:b5 (fun j=>(p.whole i).getD j 0* -(e0 p.m s p.N j)) p.n= -(b5 (fun j=>(p.whole i).getD j 0*e0 p.m s p.N j) p.n):=by have:b5 (fun j=>(p.whole i).getD j 0* -(e0 p.m s p.N j)) p.n=b5 (fun j=> -1*((p.whole i).getD j 0*e0 p.m s p.N j)) p.n:=gw (fun j _=>by rw [qw];omega);rw [this,nm];omega
  have ab:((b5 (fun j=>(p.whole i).getD j 0* -(e0 p.m s p.N j)) p.n:Int):Rat)=((p.ey i:Nat):Rat)*h9 (p.A.getD i []) (mK p s)*(s.den:Rat):=ab;rw [ay] at ab;have bc:=h.Nv aR (j:=p.n+i) J;have bI: -(b5 (fun j=>(p.whole i).getD j 0*e0 p.m s p.N j) p.n)=e0 p.m s p.N (p.n+i)+(p.whole i).getD p.n 0*s.den:=J;rw [bI,DS,pM,JO p aD aa (gC _),Qs p aD aa] at ab;have db:=YG bc;have e3:(0:Rat)<((p.ey i:Nat):Rat)*(s.den:Rat):=Rat.mul_pos (C1 (Kk p i)) qF;refine tj ?_ e3;grind
theorem aoD (aD:p.hJ)(h:Inv p.m p.N (M2 p) s)(aR:jn p.m p.N s)(hd:n2 p.m p.N (p.n+p.m) s p.m)(av: ∀a,a<p.n+p.m→0≤ax s.rows p.m a):
 Good p ⟨0,mK p s,lH p s (s.den*(p.cE:Nat)),[],Rat.divInt (ax s.rows p.m p.N) (s.den*(p.cE:Nat))⟩:=by
 have hw:=mQ p;have qF:=vv h.fz;have Sq:=C1 (Ds p);have fK:s.den*(p.cE:Int)≠0:=by have U:=h.fz;have ab:=Ds p;have:=xR U (show (0:Int)<(p.cE:Int) by omega);omega
 have Ef:((s.den*(p.cE:Nat):Int):Rat)=(s.den:Rat)*((p.cE:Nat):Rat):=by rw [pM];rfl
 have e3:(0:Rat)<(s.den:Rat)*((p.cE:Nat):Rat):=Rat.mul_pos qF Sq;have tt:=fun q (aA:q<p.m)=>UD (p:=p) (s:=s) fK aA;have an: ∀i,i<p.m→e6 p (p.n+i)=0:=fun i aa=>by unfold e6;rw [aw J]
 have Md:e6 p p.N=0:=by unfold e6;rw [aw J]
 obtain ⟨v1,v2⟩:=FH aD h aR hd;refine .Bq (Wj p s) (UE p s _) v1 (fun i aa=> ?_) v2 (fun j ae=> ?_) ?_ ?_
 ·have U:=tt i aa;rw [Ef] at U;refine F7 e3 ?_;rw [nA,U];exact wg (Dg (av _ J)) (zy (C1 (Kk p i)))
 ·have U:=YY aD ae tt;have ab:=Rt h an ae;have Mf:e6 p j= -((hP p.C).getD j 0):=by unfold e6;rw [aB ae]
  rw [Mf] at ab;have ay:=av j J;have bc:b5 (fun q=>ax s.rows p.m (p.n+q)*(p.whole q).getD j 0) p.m=ax s.rows p.m j+s.den*(hP p.C).getD j 0:=by rw [qw] at ab;omega
  rw [bc,Ef,DS,pM,Wk ae] at U;have bI:=Dg ay;refine tj ?_ e3;have e:((hS 1 p.C:Nat):Rat)=((p.cE:Nat):Rat):=rfl;rw [e] at U;grind
 ·have U:=Y0 (p:=p) (x:=fun j=> -(e0 p.m s p.N j)) (X:=mK p s) (fun j ae=>Oq h ae);have ab:=h.vec (c:=p.N) (i:=p.m) (gC _) (gC _);rw [aB rfl] at ab;have ay:lr (M2 p) p.N (e0 p.m s p.N) p.m=b5 (fun j=>e6 p j*e0 p.m s p.N j) (p.N+1):=J1 (nS p) _;have bc:b5 (fun j=>e6 p j*e0 p.m s p.N j) (p.N+1)=b5 (fun j=>(hP p.C).getD j 0* -(e0 p.m s p.N j)) p.n:=by
   rw [show p.N+1=p.n+(p.m+p.a+1) by show p.n+p.m+p.a+1=_;omega,FA,sK (f:=fun q=>e6 p (p.n+q)*e0 p.m s p.N (p.n+q)) (fun q _=>by
    show e6 p (p.n+q)*_=0;unfold e6;rw [aw J,jE]),uA]
   exact gw (fun j ae=>by
    show e6 p j*_=_;unfold e6;rw [aB ae,rh,qw])
  rw [bc] at ay;have U:((b5 (fun j=>(hP p.C).getD j 0* -(e0 p.m s p.N j)) p.n:Int):Rat)=_:=U;rw [←ay,ab] at U;have bI:Rat.divInt (ax s.rows p.m p.N) (s.den*(p.cE:Nat))*((s.den:Rat)*((p.cE:Nat):Rat))=((ax s.rows p.m p.N:Int):Rat):=by rw [←Ef];exact Fs fK
  refine qx (tj ?_ e3) (tj ?_ e3)<;>grind
 ·have U:=Zu aD tt;have ab:=Rs h an;rw [Md,gB,uA] at ab;rw [←ab,Ef] at U;have bI:Rat.divInt (ax s.rows p.m p.N) (s.den*(p.cE:Nat))*((s.den:Rat)*((p.cE:Nat):Rat))=((ax s.rows p.m p.N:Int):Rat):=by rw [←Ef];exact Fs fK
  refine qx (tj ?_ e3) (tj ?_ e3)<;>grind
theorem apn (aD:p.hJ)(h:Inv p.m p.N (uv p) s)(hm:0<p.m)(av: ∀a,a<p.n+p.m→0≤ax s.rows p.m a)(af:ax s.rows p.m p.N<0):Good p ⟨1,[],lH p s s.den,[],0⟩:=by
 have hw:=mQ p;have qF:=vv h.fz;have fK:s.den≠0:=by have:=h.fz;omega
 have tt:=fun q (aA:q<p.m)=>UD (p:=p) (s:=s) fK aA;have an: ∀i,i<p.m→hR p (p.n+i)=0:=fun i aa=>by unfold hR;rw [aw J]
 have Md:hR p p.N=0:=by unfold hR;rw [aw J]
 refine .none hm (UE p s _) (fun i aa=> ?_) (fun j ae=> ?_) ?_
 ·refine F7 qF ?_;rw [nA,tt i aa];exact wg (Dg (av _ J)) (zy (C1 (Kk p i)))
 ·have U:=YY aD ae tt;have ab:=Rt h an ae;have Mf:hR p j=0:=by unfold hR;rw [aw J]
  rw [Mf,gB,uA] at ab;rw [←ab] at U;refine F7 qF ?_;rw [nA,←U];exact Dg (av j J)
 ·have U:=Zu aD tt;have ab:=Rs h an;rw [Md,gB,uA] at ab;rw [←ab] at U;have ay:=P9 af;refine Rat.not_le.1 (fun bc=>Rat.not_le.2 ay ?_);rw [U];exact wg bc (zy qF)
theorem aoZ (aD:p.hJ)(h:Inv p.m p.N (M2 p) s)(aR:jn p.m p.N s)(hd:n2 p.m p.N (p.n+p.m) s p.m){c:Nat}(LZ:c<p.n+p.m)(jI:ax s.rows p.m c<0)(hle: ∀i,i<p.m→ax s.rows i c≤0):
 Good p ⟨2,mK p s,[],pC p s c,0⟩:=by
 have hw:=mQ p;have qF:=vv h.fz;obtain ⟨v1,v2⟩:=FH aD h aR hd;have jc:e0 p.m s c p.N=0:=by rw [AP (fun b ak=>by have:=h.qy b ak;omega),aw J]
 have LY:((ax s.rows p.m c:Int):Rat)= -(((p.cE:Nat):Rat)*h9 p.C (pC p s c)*(s.den:Rat)):=by
  have U:=Y0 (p:=p) (x:=fun j=>e0 p.m s c j) (X:=pC p s c) (fun j ae=>Qj h jI ae);have ab:=h.vec (c:=c) (i:=p.m) J (gC _);rw [aB rfl] at ab;have ay:lr (M2 p) p.N (e0 p.m s c) p.m=b5 (fun j=>e6 p j*e0 p.m s c j) (p.N+1):=J1 (nS p) _;have bc:b5 (fun j=>e6 p j*e0 p.m s c j) (p.N+1)= -(b5 (fun j=>(hP p.C).getD j 0*e0 p.m s c j) p.n):=by
   rw [show p.N+1=p.n+(p.m+p.a+1) by show p.n+p.m+p.a+1=_;omega,FA,sK (f:=fun q=>e6 p (p.n+q)*e0 p.m s c (p.n+q)) (fun q _=>by
    show e6 p (p.n+q)*_=0;unfold e6;rw [aw J,jE]),uA]
   have:b5 (fun j=>e6 p j*e0 p.m s c j) p.n=b5 (fun j=> -1*((hP p.C).getD j 0*e0 p.m s c j)) p.n:=gw (fun j ae=>by
    unfold e6;rw [aB ae,rh];omega)
   rw [this,nm];omega
  rw [bc,ab] at ay;have U:((b5 (fun j=>(hP p.C).getD j 0*e0 p.m s c j) p.n:Int):Rat)=_:=U;rw [←U,ay,Rat.intCast_neg]
 have aG:0<p.n:=by
  apply we;intro aM;have e:h9 p.C (pC p s c)=0:=by rw [vp (a:=p.C) (n:=p.n) rfl,show p.n=0 by omega];rfl
  rw [e,wc,oa] at LY;have:=P9 jI;rw [LY] at this;exact absurd this (by decide+kernel)
 refine .free aG (Wj p s) (ajn p s c) v1 (fun j ae=> ?_) v2 (fun i aa=> ?_) ?_
 ·refine F7 qF ?_;rw [nA,Qj h jI ae];exact Dg (h.Nu hle j)
 ·have U:=TO h hd (c:=c) (.inl LZ) aa;rw [jc,gB,uA] at U;have ab:=Zv aD aa (x:=fun j=>e0 p.m s c j) (X:=pC p s c) (fun j ae=>Qj h jI ae);have bc:=h.Nu hle (p.n+i);have bI:b5 (fun j=>(p.whole i).getD j 0*e0 p.m s c j) p.n≤0:=J;have ab:((b5 (fun j=>(p.whole i).getD j 0*e0 p.m s c j) p.n:Int):Rat)=_:=ab;have db:=YG bI;rw [ab] at db;have e3:(0:Rat)<((p.ey i:Nat):Rat)*(s.den:Rat):=Rat.mul_pos (C1 (Kk p i)) qF;refine ahE e3 ?_;grind
 ·have U:=P9 jI;rw [LY] at U;have e3:(0:Rat)<((p.cE:Nat):Rat)*(s.den:Rat):=Rat.mul_pos (C1 (Ds p)) qF;refine Rat.not_le.1 (fun bc=>Rat.not_le.2 U ?_);have bI:=wg (show (0:Rat)≤ -(h9 p.C (pC p s c)) by grind) (zy e3);grind
end
theorem ajF {p:Prog}(aD:p.hJ){K L:Nat}(az:vU p K L):Good p (ed p K L):=by
 unfold ed;by_cases aM:0<p.a∧ax (gq p K).rows p.m p.N<0
 ·rw [aB aM];obtain ⟨U,ab⟩:=CQ p aD K;have hm:0<p.m:=by have:=Gl p.B p.B.length;have ay:0<nX p.B:=aM.1;show 0<p.B.length;exact ha ay this
  rcases W5 (az.one aM.1) with ⟨_,ay⟩|⟨ay,bc,bI⟩
  ·exact apn aD U hm ay aM.2
  ·exact (amT U (ha ay (mQ p)) bc bI).elim
 ·rw [aw aM];obtain ⟨U,ab,ay⟩:=O2 p aD K L (J9 aD aM);rcases W5 (az.two aM) with ⟨g1,g2⟩|⟨g1,g2,g3⟩
  ·rw [aw J];exact aoD aD U ab ay g2
  ·rw [aB g1];exact aoZ aD U ab ay g1 g2 g3
end Go.aj.cL
namespace Go.aj.cL
open Go.aj.dR Go.aj.cQ Go.aj.dh
structure Prog.GG (p:Prog)(k:Nat):Prop where
 a: ∀r∈p.A,∀q∈r,D k q
 b: ∀q∈p.B,D k q
 c: ∀q∈p.C,D k q
def Prog.E (p:Prog)(k:Nat):Nat:=k+k*(p.n+1)
def Prog.T (p:Prog)(k:Nat):Nat:=(p.E k+2)*(p.m+1)
def Prog.W (p:Prog)(k:Nat):Nat:=p.T k+2+2*(k*(p.n+1))
section
variable {p:Prog}{k:Nat}
theorem acP (aD:p.hJ)(an:p.GG k){i:Nat}(aa:i<p.m): ∀q∈p.full i,D k q:=by
 intro q aA;rcases gM.1 aA with h|h
 ·exact an.a _ (dv [] (by rw [aD.rows];exact aa)) q h
 ·rw [hk.1 h];exact an.b _ (dv 0 aa)
structure Prog.s5 (p:Prog)(k:Nat):Prop where
 UA: ∀i j,i<p.m→j<p.n+1→((p.whole i).getD j 0).natAbs≤10^p.E k
 Nz: ∀j,j<p.n→((hP p.C).getD j 0).natAbs≤10^p.E k
 xY: ∀i,i<p.m→p.ey i≤10^(k*(p.n+1))
 cE:p.cE≤10^(k*p.n)
theorem P3 (p:Prog)(i:Nat):(p.la i).natAbs=1:=by unfold Prog.la;split<;>rfl
theorem Fy (n:Nat):1≤10^n:=lX aT
theorem V1 (aD:p.hJ)(an:p.s5 k){i j:Nat}(aa:i<p.m)(ae:j<p.N+1):(ax (fL p).rows i j).natAbs≤10^p.E k:=by
 have U:=Fy (p.E k);by_cases cJ:j<p.n
 ·rw [Ql p aa cJ,ke,P3,qt];exact an.UA i _ aa J
 ·by_cases dD:j<p.n+p.m
  ·obtain ⟨q,rfl⟩: ∃q,j=p.n+q:=⟨j-p.n,J⟩
   rw [Kz p aa J];split
   ·rw [P3];exact U
   ·exact cj _
  ·by_cases eg:j<p.N
   ·obtain ⟨q,rfl⟩: ∃q,j=p.n+p.m+q:=⟨j-(p.n+p.m),J⟩
    rw [ZD p aa (Nat.lt_of_add_lt_add_left (show p.n+p.m+q<p.n+p.m+p.a from eg))];split
    ·exact U
    ·exact cj _
   ·obtain rfl:j=p.N:=J;rw [Ky p aa,ke,P3,qt];exact an.UA i _ aa (gC _)
theorem QK (aD:p.hJ)(an:p.s5 k){f:Nat→Int}(aR: ∀j,j<p.N+1→(f j).natAbs≤10^p.E k): ∀i j,i<p.m+1→j<p.N+1→(ax (j4 f p.m p.N (fL p).rows) i j).natAbs≤10^p.E k:=by
 intro i j aa ae;by_cases e:i=p.m
 ·rw [e,Kh (nS p) ae];exact aR j ae
 ·have aQ:i<p.m:=Nat.lt_of_le_of_ne (Nat.le_of_lt_succ aa) e;rw [J0 (nS p) aQ];exact V1 aD an aQ ae
theorem PX (aD:p.hJ)(an:p.s5 k): ∀i j,i<p.m+1→j<p.N+1→(ax (uv p) i j).natAbs≤10^p.E k:=
 QK aD an (fun j _=>by
  have U:=Fy (p.E k);unfold hR;split
  ·exact U
  ·exact cj _)
theorem yV (aD:p.hJ)(an:p.s5 k): ∀i j,i<p.m+1→j<p.N+1→(ax (M2 p) i j).natAbs≤10^p.E k:=
 QK aD an (fun j _=>by
  unfold e6;split
  ·rename_i h;rw [qu];exact an.Nz _ h
  ·exact cj _)
theorem xo {M:cu}{s:cl}(h:Inv p.m p.N M s)(hm:p.m+1≤40)(ho: ∀i j,i<p.m+1→j<p.N+1→(ax M i j).natAbs≤10^p.E k):
 (∀i j,i<p.m+1→j<p.N+1→(ax s.rows i j).natAbs≤10^p.T k)∧s.den.natAbs≤10^p.T k:=by obtain ⟨U,ab⟩:=h.bound (Fy (p.E k)) ho;have ay:=abD (k:=p.E k) hm;exact ⟨fun i j aa ae=>dU (U i j aa ae) ay,dU ab ay⟩
theorem qb {x n:Nat}(h:x≤10^n):x<10^(n+1):=re h (Nat.pow_lt_pow_right aT (gC n))
theorem Ir {x n:Nat}(h:x≤10^n):D (n+1) ((x:Nat):Rat):=by
 refine ⟨?_,?_⟩
 ·have:(((x:Nat):Rat)).num=(x:Int):=rfl;rw [this,k7];exact qb h
 ·have:(((x:Nat):Rat)).den=1:=rfl;rw [this];exact ha (show 1<10^1 by decide) (fN aT (Nat.le_add_left 1 n))
theorem PF {P:Rat→Prop}{n:Nat}{β:List Nat}{f:Nat→Rat}{l:List Rat}(au: ∀q∈l,P q): ∀{K:Nat},(∀i,i<K→P (f i))→ ∀q∈iW n β f l K,P q
 |0,_,q,aA=>au q aA
 |K+1,aR,q,aA=>by
  have U:=PF (n:=n) (β:=β) au (K:=K) (fun i aa=>aR i J);rw [iW] at aA;split at aA
  ·rcases xL aA with h|h
   ·exact U q h
   ·rw [h];exact aR K (gC K)
  ·exact U q aA
theorem Dw (n:Nat):D (n+1) 0:=Ir (x:=0) (cj _)
theorem Nd (n:Nat):D (n+1) 1:=Ir (x:=1) (Fy n)
theorem YE {M:cu}{s:cl}(h:Inv p.m p.N M s)(hm:p.m+1≤40)(ho: ∀i j,i<p.m+1→j<p.N+1→(ax M i j).natAbs≤10^p.E k): ∀q∈mK p s,D (p.T k+1) q:=by obtain ⟨U,ab⟩:=xo h hm ho;have hd:=h.fz;refine PF (fun q aA=> ?_) (fun i aa=>xt J (qb (U i p.N J (gC _))) (qb ab));rw [GW aA];exact Dw _
theorem ajm {M:cu}{s:cl}(h:Inv p.m p.N M s)(hm:p.m+1≤40)(ho: ∀i j,i<p.m+1→j<p.N+1→(ax M i j).natAbs≤10^p.E k){c:Nat}(av:c<p.N): ∀q∈pC p s c,D (p.T k+1) q:=by
 obtain ⟨U,ab⟩:=xo h hm ho;have hd:=h.fz;have aM: ∀q∈List.replicate p.n (0:Rat),D (p.T k+1) q:=fun q aA=>by rw [GW aA];exact Dw _
 refine PF (fun q aA=> ?_) (fun i aa=>xt J (by rw [qu];exact qb (U i c J J)) (qb ab));unfold lT at aA;split at aA
 ·rcases xL aA with aS|aS
  ·exact aM q aS
  ·rw [aS];exact Nd _
 ·exact aM q aA
theorem UC {M:cu}{s:cl}(aD:p.hJ)(an:p.s5 k)(h:Inv p.m p.N M s)(hm:p.m+1≤40)(ho: ∀i j,i<p.m+1→j<p.N+1→(ax M i j).natAbs≤10^p.E k){f:Nat}(zT:0<f)(aR:f≤10^(k*p.n)): ∀q∈lH p s (s.den*(f:Nat)),D (p.W k) q:=by
 obtain ⟨U,ab⟩:=xo h hm ho;have hd:=h.fz;intro q aA;obtain ⟨i,aa,rfl⟩:=cS.1 aA;have aa:i<p.m:=by simpa using aa
 have fK:s.den*(f:Nat)≠0:=by have:=xR hd (show (0:Int)<((f:Nat):Int) by omega);omega
 have hw:=mQ p;have Eo:(s.den*(f:Nat)).natAbs≤10^(p.T k+k*p.n):=by rw [ke,k7,iN];exact jW ab aR
 have gy:D (p.T k+k*p.n+1) (Rat.divInt (ax s.rows p.m (p.n+i)) (s.den*(f:Nat))):=
  xt fK (qb (dU (U p.m (p.n+i) (gC _) J) (fN aT (oU _ _)))) (qb Eo)
 refine (gy.mul (Ir (an.xY i aa))).mono ?_;unfold Prog.W;have:k*p.n≤k*(p.n+1):=hK k (Nat.le_succ p.n);omega
theorem alc {M:cu}{s:cl}(h:Inv p.m p.N M s)(hm:p.m+1≤40)(ho: ∀i j,i<p.m+1→j<p.N+1→(ax M i j).natAbs≤10^p.E k){f:Nat}(zT:0<f)(aR:f≤10^(k*p.n)):D (p.W k) (Rat.divInt (ax s.rows p.m p.N) (s.den*(f:Nat))):=by
 obtain ⟨U,ab⟩:=xo h hm ho;have hd:=h.fz;have fK:s.den*(f:Nat)≠0:=by have:=xR hd (show (0:Int)<((f:Nat):Int) by omega);omega
 have Eo:(s.den*(f:Nat)).natAbs≤10^(p.T k+k*p.n):=by rw [ke,k7,iN];exact jW ab aR
 have gy:D (p.T k+k*p.n+1) (Rat.divInt (ax s.rows p.m p.N) (s.den*(f:Nat))):=
  xt fK (qb (dU (U p.m p.N (gC _) (gC _)) (fN aT (oU _ _)))) (qb Eo)
 refine gy.mono ?_;unfold Prog.W;have:k*p.n≤k*(p.n+1):=hK k (Nat.le_succ p.n);omega
theorem ajE (aD:p.hJ)(an:p.s5 k)(hm:p.m+1≤40){K L:Nat}(az:vU p K L):
 (∀q∈(ed p K L).X,D (p.W k) q)∧(∀q∈(ed p K L).Y,D (p.W k) q)∧(∀q∈(ed p K L).R,D (p.W k) q)∧D (p.W k) (ed p K L).V:=by
 have Hn:p.T k+1≤p.W k:=by unfold Prog.W;omega
 have aM:D (p.W k) 0:=(Dw (p.T k)).mono Hn;have HP: ∀q∈([]:List Rat),D (p.W k) q:=fun q aA=>by simp at aA
 unfold ed;by_cases h:0<p.a∧ax (gq p K).rows p.m p.N<0
 ·rw [aB h];obtain ⟨U,ab⟩:=CQ p aD K;have ay:=UC aD an U hm (PX aD an) (f:=1) aT (Fy _);have e:(gq p K).den*((1:Nat):Int)=(gq p K).den:=J;rw [e] at ay;exact ⟨HP,ay,HP,aM⟩
 ·rw [aw h];obtain ⟨U,ab,ay⟩:=O2 p aD K L (J9 aD h);by_cases bc:gQ p.m (p.n+p.m) (jS p K L)<p.n+p.m
  ·rw [aB bc];exact ⟨fun q aA=>(YE U hm (yV aD an) q aA).mono Hn,HP,fun q aA=>(ajm U hm (yV aD an) (ha bc (mQ p)) q aA).mono Hn,aM⟩
  ·rw [aw bc];exact ⟨fun q aA=>(YE U hm (yV aD an) q aA).mono Hn,UC aD an U hm (yV aD an) (Ds p) an.cE,HP,alc U hm (yV aD an) (Ds p) an.cE⟩
theorem akg (aD:p.hJ)(aG:3≤p.n){B K:Nat}(Hi:0<B)(cf:B≤10^K)(dE:K≤1441)(iP: ∀r∈p.A,∀q∈r,q.den∣B∧q.num.natAbs≤10^26*q.den)(ak: ∀q∈p.B,q.den∣B∧q.num.natAbs≤10^26*q.den)(eh: ∀q∈p.C,q.den∣1∧q.num.natAbs≤10^26*q.den):p.s5 400:=by
 have key: ∀(l:List Rat) (B f:Nat),f∣B→(∀q∈l,q.den∣B)→hS f l∣B:=by
  intro l;induction l with
  |nil=>intro B f aR _;exact aR
  |cons q r a6=>
   intro B f aR h;refine a6 B _ ?_ (fun x al=>h x (uy _ al));have e:f*(q.den/Nat.gcd f q.den)=Nat.lcm f q.den:=by rw [Nat.lcm,Nat.mul_div_assoc _ (DR f q.den)]
   rw [e];exact Nat.lcm_dvd aR (h q (vZ ..))
 have Q4: ∀(l:List Rat) (B:Nat),0<B→(∀q∈l,q.den∣B∧q.num.natAbs≤10^26*q.den)→ ∀x∈hP l,x.natAbs≤10^26*B:=by intro l B aM h x al;obtain ⟨q,aA,rfl⟩:=cS.1 al;obtain ⟨U,ab⟩:=h q aA;rw [ke,k7];have ay:=Bn aM (key l B 1 (Nat.one_dvd _) (fun q aA=>(h q aA).1));have bc:=fp (hS 1 l/q.den) ab;rw [kF] at bc;refine dU bc (hK _ (dU (Nat.mul_div_le _ _) ay))
 have BI: ∀i,i<p.m→ ∀q∈p.full i,q.den∣B∧q.num.natAbs≤10^26*q.den:=fun i aa q aA=>by
  rcases gM.1 aA with h|h
  ·exact iP _ (dv [] (by rw [aD.rows];exact aa)) q h
  ·rw [hk.1 h];exact ak _ (dv 0 aa)
 have dx:10^26*10^K≤10^p.E 400:=by rw [←iN];exact fN aT (by unfold Prog.E;omega)
 refine ⟨fun i j aa ae=> ?_,fun j ae=> ?_,fun i aa=> ?_,?_⟩
 ·refine dU (Q4 _ B Hi (BI i aa) _ (dv 0 (by show j<(hP (p.full i)).length;rw [Jg,JN p aD aa];exact ae))) (dU (hK _ cf) dx)
 ·refine dU (Q4 _ 1 Nat.one_pos eh _ (dv 0 (by rw [Jg];exact ae))) (dU (hK _ (lX aT)) dx)
 ·refine dU (Bn Hi (key _ B 1 (Nat.one_dvd _) (fun q aA=>(BI i aa q aA).1))) (dU cf (fN aT J))
 ·exact dU (Bn Nat.one_pos (key _ 1 1 (Nat.one_dvd _) (fun q aA=>(eh q aA).1))) (lX aT)
end
end Go.aj.cL
namespace Go.aj.cL
open Go.aj.dR Go.aj.cQ Go.aj.dh
theorem KA {f g:Nat→Rat}: ∀{n:Nat},(∀i,i<n→f i≤g i)→b2 f n≤b2 g n
 |0,_=>td
 |n+1,h=>by have U:=KA (n:=n) (fun i aa=>h i J);have ab:=h n (gC n);show b2 f n+f n≤b2 g n+g n;grind
theorem PQ (f:Nat→Rat)(n:Nat):b2 (fun i=> -(f i)) n= -(b2 f n):=by have h:=tY (-1) f n;have e:b2 (fun i=> -(f i)) n=b2 (fun i=> -1*f i) n:=e7 (fun i _=>by grind);rw [e,h];grind
section
variable {p:Prog}
theorem Pr {a b c:Rat}(av:0≤c)(h:a≤b):a*c≤b*c:=Rat.mul_le_mul_of_nonneg_right h av
end
section
variable {p:Prog}
end
end Go.aj.cL
namespace Go.aj.cL
open Go.aj.dR Go.aj.cQ Go.aj.dh
structure Bd where
 A:List (List dP)
 B:List dP
 C:List dP
def Bd.prog (P:Bd):Prog:=⟨rB P.A,P.B.map dk,P.C.map dk⟩
def ahq (P:Bd)(k x y r:Nat):Prop:=x=(if k=1 then 0 else P.C.length)∧y=(if k=2 then 0 else P.B.length)∧r=(if k=2 then P.C.length else 0)
instance (P:Bd)(k x y r:Nat):Decidable (ahq P k x y r):=inferInstanceAs (Decidable (_∧_))
def YJ (l:List Rat):Bool:=l.all (fun q=>decide (0≤q))
theorem JC {l:List Rat}{n:Nat}(au:l.length=n)(h: ∀j,j<n→0≤l.getD j 0):YJ l=true:=by unfold YJ;rw [se];intro q aA;obtain ⟨i,aa,rfl⟩:=kE aA;have:=h i J;rw [eA 0 aa] at this;exact eG this
section
variable {P:Bd}
end
end Go.aj.cL
namespace Go.aj.cL
open Go.aj.dR Go.aj.cQ Go.aj.dh
section
variable {P:Bd}
end
end Go.aj.cL
namespace Go.aj
variable [bx]
open Go.RowKit
theorem DB {P:Program}{fn:Func}{c:Ctx}{H:aY}{all:Array Oper}{eE:Fr}{i:Nat}{r:List Nat}{st:Steps}{G:Steps→Prop}{d:Nat}{g:Operand}{args:List Operand}{hZ:Array TypeId}{ty:TypeId}{pos:String}{after:Array Edge}{f:FuncId}{cD dZ gz:List ao}{v:ao}{K:Fr}{j t:Nat}{p:Bool}(aa:all[i]? =some ⟨some d,.call {callee:= .value g,args:=args.toArray,argTypes:=hZ},ty,pos,after,some (j,p)⟩)(dE:sT st eE ⟨some d,.call {callee:= .value g,args:=args.toArray,argTypes:=hZ},ty,pos,after,some (j,p)⟩=K)(a1:qi all j=some t)(ak:look t K=some (.bool p))(c9:bH K g=some (.fn f cD))(aW:lb K args=some dZ)(has:dZ++cD=gz)(lg:br P f gz v)(h:lR P fn c H all eE r ((i,d,v)::st) G):lR P fn c H all eE (i::r) st G:=
 ⟨_,_,_,aa,rfl,dE▸WT a1 ak (TQ c9 aW has lg),h⟩
end Go.aj
namespace Go.aj
variable [bx]
open Go.RowKit
def Uz (all:Array Oper)(listed:Array Bool)(idx:List Nat)(j:Nat):Bool:=match all[j]? with
 |some o=>o.after.toList.any (fun e=>Region.binds .any e && (!idx.contains e.on && !listed.getD e.on true))
 |none=>false
def TF (all:Array Oper)(listed:Array Bool)(idx:List Nat)(sy:List Nat):Bool:=
 (idx.all fun i=> !listed.getD i true && (match all[i]? with
  |some o=>(match o.dst with|some d=> !sy.contains d|none=>false) && o.after.toList.all (fun e=> !Region.binds .any e||(Nat.blt e.on i && (idx.contains e.on||listed.getD e.on false)))
  |none=>false)) &&
 ((List.range all.size).all fun j=>idx.contains j||listed.getD j true||idx.all (fun i=>KT all idx (idx.length+1) j i)||Uz all listed idx j) &&
 (idx.all fun i=>idx.all fun j=>Nat.beq i j|| !(match all[i]?,all[j]? with|some o,some o'=>o.dst==o'.dst|_,_=>false))
section
variable {P:Program}{fn:Func}{c:Ctx}{fr:Fr}{H:aY}{k:List eO}
theorem eM {all:Array Oper}{fuel:Nat}{listed B9:Array Bool}(idx:List Nat)(eE:Fr)(dE:jm fr eE)(EG:TF all listed idx (eE.map (·.1))=true)(lk:idx.Nodup)(hd:qc fn.ntmps all.toList=true)(au:AU listed idx=B9)(h:lR P fn c H all eE idx [] (fun st=>aj P fn c (.any all fuel B9 k) (st.map (·.2)++eE) H)):aj P fn c (.any all (fuel+idx.length) listed k) fr H:=by
 obtain ⟨st,dL,uQ,dT⟩:=UI h (fun s az=>by simp at az);rw [th,lA] at uQ;clear h;unfold TF at EG;simp only [er] at EG;obtain ⟨⟨yl,TD⟩,TE⟩:=EG;rw [se] at yl TD TE;have eQ: ∀i,i∈idx↔ ∃s∈st,s.1=i:=fun i=>by
  have:i∈idx.reverse↔ ∃s∈st,s.1=i:=by rw [←uQ];simp
  rw [←this,List.mem_reverse]
 have hlen:st.length=idx.length:=by have:=congrArg List.length uQ;simpa using this
 have SI:(st.map (·.1)).Nodup:=by rw [uQ];exact (List.reverse_perm idx).nodup_iff.2 lk
 have bG: ∀i∈idx,i<listed.size:=fun i aa=>by
  have:=yl i aa;simp only [er,zB] at this;rcases gA i listed.size with q|q
  ·exact q
  ·have U:=this.1;simp only [Array.getD,show¬i<listed.size by omega,dite_false] at U;cases U
 --the induction
 have key: ∀(m:Nat) (cur:Array Bool) (fr:Fr),cur.size=listed.size→(∀j,j∉idx→cur[j]? =listed[j]?)→E9 cur st=m→(∀s∈st,cur.getD s.1 true=true→look s.2.1 fr=some s.2.2)→jm fr eE→(∀l8∈idx,cur.getD l8 true=true→ ∀o,all[l8]? =some o→ ∀e∈o.after,Region.binds .any e=true→cur.getD e.on false=true)→aj P fn c (.any all (fuel+m) cur k) fr H:=by
  intro m;induction m with
  |zero=>
   intro cur fr pW BE pV Ht ru hC;have hp: ∀s∈st,cur.getD s.1 true=true:=fun s az=>by
    cases aA:cur.getD s.1 true with
    |true=>rfl
    |false=>
     exfalso;have aM:st.filter (fun s=> !cur.getD s.1 true)=[]:=v8.1 pV;have:s∈st.filter (fun s=> !cur.getD s.1 true):=vY.2 ⟨az,by rw [aA];rfl⟩;rw [aM] at this;simp at this
   have jq:cur=B9:=by
    rw [←au];apply Array.ext_getElem?;intro j;rcases gA j listed.size with q|q
    ·rw [UJ idx listed j q];by_cases ae:j∈idx
     ·rw [aB ae];obtain ⟨s,tC,qI⟩:=(eQ j).1 ae;have:=hp s tC;rw [qI] at this;simp only [Array.getD,show j<cur.size by omega,vV] at this;rw [Array.getElem?_eq_getElem J];exact congrArg some this
     ·rw [aw ae];exact BE j ae
    ·rw [Array.getElem?_eq_none J,Array.getElem?_eq_none (by rw [UG];omega)]
   subst jq;intro w a σ S ad;refine dL w a σ S (ad.weaken (IL fun p aD=> ?_));rcases gM.1 aD with q|q
   ·obtain ⟨s,bQ,bX⟩:=cS.1 q;rw [←bX];exact Ht s bQ (hp s bQ)
   ·exact IM ru p q
  |succ m a6=>
   intro cur fr pW BE pV Ht ru hC
   --some step is left
   obtain ⟨j1,B0,MA⟩: ∃s∈st,cur.getD s.1 true=false:=by
    rcases aA:st.filter (fun s=> !cur.getD s.1 true) with _|⟨s,r⟩
    ·unfold E9 at pV;rw [aA] at pV;simp at pV
    ·have:s∈st.filter (fun s=> !cur.getD s.1 true):=by rw [aA];simp
     obtain ⟨U,ab⟩:=vY.1 this;exact ⟨s,U,by simpa using ab⟩
   have je: ∀i∈Region.ready .any all cur,i∈idx∧cur.getD i true=false:=by
    intro i aa;obtain ⟨U,o,ai,Ep⟩:=mem_ready.1 aa;refine ⟨?_,U⟩;apply we;intro BU;have afd:i<all.size:=(Array.getElem?_eq_some_iff.1 ai).1;have:=TD i (xI.2 afd);simp only [wb,ai] at this;rcases this with ((q|q)|q)|q
    ·exact BU (by simpa using q)
    ·have LW:=BE i BU;have ab:listed.getD i true=cur.getD i true:=by simp only [zz,LW]
     rw [ab,U] at q;cases q
    ·rw [se] at q;have ay:=UX hC _ i j1.1 (q j1.1 ((eQ j1.1).2 ⟨j1,B0,rfl⟩)) (fun o' cN e he ak=>by
      rw [ai] at cN;obtain rfl:=oO cN;exact Ep e he ak)
     rw [ay] at MA;cases MA
    ·unfold Uz at q;rw [ai] at q;obtain ⟨e,Et,ki⟩:=sg.1 q;simp only [er,zB] at ki;obtain ⟨ak,ch,j0⟩:=ki;have afA:e.on∉idx:=fun q=>by
      have:idx.contains e.on=true:=by simpa using q
      rw [this] at ch;cases ch
     have jr:=Ep e (Bk.1 Et) ak;have LW:=BE e.on afA;rw [zz] at jr j0;rw [LW] at jr;cases al:listed[e.on]? with
     |none=>rw [al] at jr;cases jr
     |some b=>
      rw [al] at jr j0;have aE:b=true:=jr;have aF:b=false:=j0;rw [aE] at aF;cases aF
   have ch:Region.ready .any all cur≠[]:=by
    intro aM
    --the least one that is left
    have hex: ∃i,i∈idx∧cur.getD i true=false:=⟨j1.1,(eQ j1.1).2 ⟨j1,B0,rfl⟩,MA⟩
    have least: ∀n i,i≤n→i∈idx→cur.getD i true=false→False:=by
     intro n;induction n with
     |zero=>
      intro i aa nb Ex;have U:=yl i nb;simp only [er] at U;cases z7:all[i]? with
      |none=>rw [z7] at U;exact absurd U.2 b1
      |some o=>
       rw [z7] at U;simp only [er] at U;have ab:=se.1 U.2.2;have:i∈Region.ready .any all cur:=mem_ready.2 ⟨Ex,o,z7,fun e he ak=>by
        have:=ab e (Bk.2 he);rw [ak] at this;simp only [Bool.not_true,Bm,er] at this;have:=iZ this.1;omega⟩
       rw [aM] at this;simp at this
     |succ n agK=>
      intro i aa nb Ex;have U:=yl i nb;simp only [er] at U;cases z7:all[i]? with
      |none=>rw [z7] at U;exact absurd U.2 b1
      |some o=>
       rw [z7] at U;simp only [er] at U;have ab:=se.1 U.2.2;have:i∈Region.ready .any all cur:=mem_ready.2 ⟨Ex,o,z7,fun e he ak=>by
        have ay:=ab e (Bk.2 he);rw [ak] at ay;simp only [Bool.not_true,Bm,er,wb] at ay;have x6:e.on<i:=iZ ay.1;by_cases Hw:e.on∈idx
        ·cases aA:cur.getD e.on true with
         |false=>exact (agK e.on J Hw aA).elim
         |true=>
          have cy:=bG e.on Hw;simp only [Array.getD,show e.on<cur.size by omega,vV] at aA⊢;exact aA
        ·rcases ay.2 with q|q
         ·exact absurd (by simpa using q) Hw
         ·have ab:cur.getD e.on false=listed.getD e.on false:=by simp only [zz,BE e.on Hw]
          rw [ab];exact q⟩
       rw [aM] at this;simp at this
    obtain ⟨i,wE,mA⟩:=hex;exact least i i (bN _) wE mA
   refine tO I ch hd (U6 (fun i aa o ai=> ?_));obtain ⟨nb,Ex⟩:=je i aa;obtain ⟨s,tC,qI⟩:=(eQ i).1 nb;obtain ⟨o',K,g1,g2,g3,g4⟩:=dT s tC;rw [qI,ai] at g1;obtain rfl:=oO g1;obtain ⟨_,o2,HQ,Ep⟩:=mem_ready.1 aa;rw [ai] at HQ;obtain rfl:=oO HQ;refine g3 _ fr (IL fun p aD=> ?_) (cY (lI ?_))
   ·rcases g4 p aD with q|⟨ct,bQ,⟨e,bX,dr,en⟩,gT⟩
    ·exact IM ru p q
    ·have U:=Ep e bX dr;rw [en] at U;rw [←gT];refine Ht ct bQ ?_;have cy:=bG ct.1 ((eQ ct.1).2 ⟨ct,bQ,rfl⟩);simp only [Array.getD,show ct.1<cur.size by omega,vV] at U⊢;exact U
   ·have aqX:=bG i nb;refine a6 (cur.setIfInBounds i true) _ (by simpa using pW) (fun j ae=> ?_) ?_ (fun ct hf hu=> ?_) ?_ (amb nb hC (fun o' cN e he ak=>by rw [ai] at cN;obtain rfl:=oO cN;exact Ep e he ak))
    ·rw [Array.getElem?_setIfInBounds_ne (show i≠j from fun e=>ae (e▸nb))];exact BE j ae
    ·--one less
     have aR:st.filter (fun ct=> !(cur.setIfInBounds i true).getD ct.1 true)=(st.filter (fun ct=> !cur.getD ct.1 true)).filter (fun ct=>decide (ct.1≠i)):=by
      rw [List.filter_filter];congr 1;funext ct;by_cases aA:ct.1=i
      ·rw [aA];simp [Array.getD,show i<cur.size by omega]
      ·have BY: ¬i=ct.1:=fun e=>aA e.symm;simp [zz,Bg,aA,BY]
     unfold E9 at pV⊢;rw [aR];have Mn:s∈st.filter (fun ct=> !cur.getD ct.1 true):=vY.2 ⟨tC,by rw [qI,Ex];rfl⟩;have Mt:((st.filter (fun ct=> !cur.getD ct.1 true)).map (·.1)).Nodup:=List.Nodup.sublist (List.Sublist.map _ List.filter_sublist) SI
     revert pV Mn Mt
     generalize st.filter (fun ct=> !cur.getD ct.1 true)=L;intro pV Mn Mt;have gen: ∀(L:Steps) (n:Nat),L.length=n+1→s∈L→(L.map (·.1)).Nodup→(L.filter (fun ct=>decide (ct.1≠i))).length=n:=by
      intro L;induction L with
      |nil=>intro n h;simp at h
      |cons x r MU=>
       intro n aG hm lk;simp only [k9,xU] at lk;rcases gb.1 hm with rfl|hm
       ·have e2: ∀y∈r,y.1≠i:=fun y a1 e=>lk.1 (cS.2 ⟨y,a1,by rw [e,qI]⟩);have:(r.filter (fun ct=>decide (ct.1≠i)))=r:=List.filter_eq_self.2 (fun y a1=>by simpa using e2 y a1);rw [List.filter_cons_of_neg (by simp [qI]),this];simpa using aG
       ·have al:x.1≠i:=fun e=>lk.1 (cS.2 ⟨s,hm,by rw [qI,e]⟩);have HW:0<r.length:=zC.2 (by rintro rfl;simp at hm);obtain ⟨E3,rfl⟩: ∃E3,n=E3+1:=⟨n-1,by simp at aG;omega⟩
        rw [List.filter_cons_of_pos (by simpa using al),gu,MU E3 (by simpa using aG) hm lk.2]
     exact gen L m pV Mn Mt
    ·by_cases aA:ct.1=i
     ·have:ct=s:=by
       have U:s∈st:=tC;have afa: ∀(L:Steps),(L.map (·.1)).Nodup→ ∀x∈L,∀y∈L,x.1=y.1→x=y:=by
        intro L;induction L with
        |nil=>intro _ x al;simp at al
        |cons z r MU=>
         intro lk x al y a1 EW;simp only [k9,xU] at lk;rcases gb.1 al with al|al<;>rcases gb.1 a1 with a1|a1
         ·rw [al,a1]
         ·exact absurd (cS.2 ⟨y,a1,by rw [←EW,al]⟩) lk.1
         ·exact absurd (cS.2 ⟨x,al,by rw [EW,a1]⟩) lk.1
         ·exact MU lk.2 x al y a1 EW
       exact afa st SI ct hf s tC (by rw [aA,qI])
      rw [this];exact U7 _ _ _
     ·have U:cur.getD ct.1 true=true:=by have BY: ¬i=ct.1:=fun e=>aA e.symm;simpa [zz,Bg,BY] using hu
      have ab:=Ht ct hf U
      --another slot
      have afx:ct.2.1≠s.2.1:=by
       intro e;obtain ⟨rG,_,f1,f2,_,_⟩:=dT ct hf;have ay:=se.1 (TE ct.1 ((eQ ct.1).2 ⟨ct,hf,rfl⟩)) i nb;rw [f1,ai] at ay;simp only [wb,zB,f2,g2] at ay;rcases ay with ay|ay
       ·exact aA (pO ay)
       ·rw [e] at ay;simp at ay
      show (bif Nat.beq ct.2.1 s.2.1 then some s.2.2 else look ct.2.1 fr)=_;rw [dz afx];exact ab
    ·refine IL fun p aD=> ?_;have U:=yl i nb;simp only [er] at U;rw [ai] at U;simp only [g2,er,zB] at U;have afy:p.1≠s.2.1:=by
      intro e;have:(eE.map (·.1)).contains s.2.1=true:=by rw [List.contains_iff_mem];exact cS.2 ⟨p,aD,e⟩
      rw [U.2.1] at this;cases this
     show (bif Nat.beq p.1 s.2.1 then some s.2.2 else look p.1 fr)=_;rw [dz afy];exact IM ru p aD
 have uR:E9 listed st=idx.length:=by unfold E9;rw [List.filter_eq_self.2 (fun s az=> ?_),hlen];have:=yl s.1 ((eQ s.1).2 ⟨s,az,rfl⟩);simp only [er] at this;exact this.1
 have:=key idx.length listed fr rfl (fun _ _=>rfl) uR (fun s az hu=>by
  have U:=yl s.1 ((eQ s.1).2 ⟨s,az,rfl⟩);simp only [er,zB] at U;rw [U.1] at hu;cases hu) dE (fun l8 x7 hu=>by
  have U:=yl l8 x7;simp only [er,zB] at U;rw [U.1] at hu;cases hu)
 exact this
end
end Go.aj
namespace Go.aj.cQ
open Go.aj.dh Go.aj.dR
def dK {α:Type}(g:Nat→α)(d:α)(x:List α)(k:Nat):List α:=(List.range x.length).map (fun j=>if j<k then g j else x.getD j d)
theorem qV {α:Type}(g:Nat→α)(d:α)(x:List α)(k:Nat):(dK g d x k).length=x.length:=by simp [dK]
theorem vo {α:Type}(g:Nat→α)(d:α)(x:List α):dK g d x 0=x:=by apply kc (qV _ _ _ _);intro i U ab;simp [dK,List.getD,ab]
theorem rR {α:Type}(g:Nat→α)(d:α)(x:List α){k i:Nat}(aa:i<x.length):(dK g d x k).getD i d=if i<k then g i else x.getD i d:=by unfold dK;rw [nk _ _ 0 _ _ (by simpa using aa)];simp [List.getD,aa]
theorem ua {α:Type}(g:Nat→α)(d:α)(x:List α){k:Nat}(an:k<x.length):(dK g d x k).set k (g k)=dK g d x (k+1):=by
 apply kc (by simp [dK]);intro i U ab;have aa:i<x.length:=by simpa [dK] using ab
 have aE:=rR g d x (k:=k+1) aa;rw [eA d ab] at aE;rw [aE,xT];by_cases rr:k=i
 ·subst rr;simp
 ·have aF:=rR g d x (k:=k) aa;rw [eA d (by rw [qV];exact aa)] at aF;rw [aw rr,aF];by_cases ay:i<k
  ·rw [aB ay,aB J]
  ·rw [aw ay,aw J]
theorem xm {α:Type}(g:Nat→α)(d:α)(x:List α):dK g d x x.length=(List.range x.length).map g:=by unfold dK;refine k8 (fun j ae=> ?_);rw [aB (by simpa using ae)]
theorem abb {α:Type}(g:Nat→α)(d:α)(x:List α){k:Nat}(an:k<x.length)(h:g k=x.getD k d):dK g d x (k+1)=dK g d x k:=by
 rw [←ua g d x an,h];apply kc (by simp [dK]);intro i U ab;rw [xT];split
 ·rename_i e;subst e;have aF:=rR g d x (k:=k) an;rw [aw (oQ k)] at aF;rw [←eA d ab,aF]
 ·rfl
structure Perm (n:Nat)(QC:List Nat)(X:cu):Prop where
 len:QC.length=n
 arw:X.length=n
 eY:QC.Nodup
 lt: ∀a∈QC,a<n
def j5 (T:cu)(k c:Nat)(d:Int)(i:Nat):List Int:=if i=k then T.getD k [] else yW (T.getD i []) (T.getD k []) (ax T k c) (ax T i c) d
theorem Pk (T:cu)(k c:Nat)(d:Int):pw T k c d=dK (j5 T k c d) [] T T.length:=by rw [xm];rfl
def yq (R K:List Int)(p f d:Int)(j:Nat):Int:=qZ (R.getD j 0*p-f*K.getD j 0) d
theorem ajB (R K:List Int)(p f d:Int):yW R K p f d=dK (yq R K p f d) 0 R R.length:=by rw [xm];rfl
end Go.aj.cQ
namespace Go.aj.sb
open Go.aj.dh (Fj)
end Go.aj.sb
namespace Go.aj
variable [bx]
section
variable {P:Program}{fn:Func}{c:Ctx}{fr:Fr}{H:aY}{k:List eO}
theorem Ji {x:Code}(h:Nat)(o:bm){bg:bm}(c':Cells)(aX:H[h]? =some (some bg))(ai:o.c.len=0)(U:c'.len=bg.c.len)(ab:c'.b7=bg.c.b7)(ay: ∀i j,i<bg.c.len→j<bg.c.aI→c'.at i j=bg.c.at i j∨(bg.c.at i j= .nil∧c'.at i j= .aC H.length 0 0))(an:aj P fn c (.code x k) fr ((H++[some o]).set h (some ⟨bg.ty,c'⟩))):aj P fn c (.code x k) fr H:=by
 intro w a σ S ad;have g1:=ad.ahS ai;have bG:h<H.length:=(gZ.1 aX).1;have aeW:(H++[some o])[h]? =some (some bg):=by rw [ic bG];exact aX
 refine an w a _ S (g1.ajq aeW U ab (fun i j v aa ae af=> ?_));rcases ay i j aa ae with e|⟨aE,aF⟩
 ·rw [e];exact af
 ·rw [aE] at af;rw [aF];cases af;exact .iD _ _ (by simp [cZ])
end
end Go.aj
namespace Go.aj
variable [bx]
open Go.RowKit
section
variable {ind:Bool}{P:Program}{fn:Func}{c:Ctx}{fr:Fr}{H:aY}{k:List eO}
variable {d:Option Nat}{ty:TypeId}{pos:String}{after:Array Edge}{g:Option (Nat×Bool)}
theorem N0 {x:Operand}{t:TypeId}{u:TypeDesc}{h i:Nat}{o7:TypeId}{eC:IntKind}{l:List Int}(bu:P.underlying t=some u)(hu:jy u=false)(al:bH fr x=some (.ptr h i 0))(aX:H[h]? =some (some ⟨o7,.ints eC l⟩))(aa:i<l.length):
 bZ false P fn c fr H ⟨d,.load t x,ty,pos,after,g⟩ (.int eC (l.getD i 0)):=Fi bu hu al aX aa
theorem Fg {x:Operand}{t:TypeId}{u:TypeDesc}{h i j:Nat}{o7:TypeId}{n s:Nat}{f:Nat→Nat→ao}(bu:P.underlying t=some u)(hu:jy u=false)(al:bH fr x=some (.ptr h i j))(aX:H[h]? =some (some ⟨o7,.fn n s f⟩))(ae:Nat.blt j s=true)(aa:i<n):
 bZ false P fn c fr H ⟨d,.load t x,ty,pos,after,g⟩ (f i j):=Cu bu hu al aX ae aa
end
end Go.aj
namespace Go.aj.cL
open Go.aj.dR Go.aj.cQ Go.aj.dh
def E5:Option Nat→Int
 |none=> -1
 |some b=>(b:Int)
section
variable {T:cu}{β:List Nat}{c e k b:Nat}
theorem anT (h:ax T k c≤0):jM T β c e (k+1)=jM T β c e k:=by
 rw [jM];cases jM T β c e k with
 |none=>show (if _ then _ else _)=_;rw [aB h]
 |some b=>show (if _ then _ else _)=_;rw [aB h]
theorem amL (h: ¬ax T k c≤0)(au:jM T β c e k=none):jM T β c e (k+1)=some k:=by rw [jM,au];show (if _ then _ else _)=_;rw [aw h]
theorem anS (h: ¬ax T k c≤0)(au:jM T β c e k=some b):jM T β c e (k+1)=if AV T β c e k b then some k else some b:=by rw [jM,au];show (if _ then _ else _)=_;rw [aw h]
end
theorem XA (o:Option Nat):(E5 o<0)=(o=none):=by
 apply propext;cases o with
 |none=>exact ⟨fun _=>rfl,fun _=>by show (-1:Int)<0;omega⟩
 |some b=>exact ⟨fun h=>absurd h (by show¬(b:Int)<0;omega),fun h=>by cases h⟩
section
variable {m N w:Nat}{s:cl}
theorem Wb {k:Nat}(h:iX m N w (e4 m N w s k)=none): ∀j,e4 m N w s (k+j)=e4 m N w s k
 |0=>rfl
 |j+1=>by have e:=Wb h j;show (iX m N w (e4 m N w s (k+j))).getD (e4 m N w s (k+j))=_;rw [e,h];rfl
theorem agP {k K:Nat}(h:iX m N w (e4 m N w s k)=none)(an:k≤K):e4 m N w s K=e4 m N w s k:=by
 obtain ⟨j,rfl⟩: ∃j,K=k+j:=⟨K-k,J⟩
 exact Wb h j
theorem apf {k:Nat}{ct:cl}(h:iX m N w (e4 m N w s k)=some ct):e4 m N w s (k+1)=ct:=by show (iX m N w (e4 m N w s k)).getD _=_;rw [h];rfl
def Ch (m w:Nat)(s:cl):Int:=if gQ m w s=w then-1 else (gQ m w s:Int)
theorem aoP (h:gQ m w s=w):iX m N w s=none:=by unfold iX;unfold gQ at h;rw [aB h]
theorem aoO (h:gQ m w s≠w)(au:jM s.rows s.basis (gQ m w s) N m=none):iX m N w s=none:=by unfold iX;unfold gQ at h au;rw [aw h,au]
theorem akw (h:gQ m w s≠w){r:Nat}(au:jM s.rows s.basis (gQ m w s) N m=some r):iX m N w s=some (iS s r (gQ m w s)):=by unfold iX;unfold gQ at h au⊢;rw [aw h,au]
end
theorem anF {T:cu}{m f c:Nat}(h:ax T m c<0):nq T m f c=c:=by
 cases f with
 |zero=>rfl
 |succ f=>rw [nq,aB h]
theorem aci {T:cu}{m f c:Nat}(h: ¬ax T m c<0):nq T m (f+1) c=nq T m f (c+1):=by rw [nq,aw h]
theorem ahV {T:cu}{i f c:Nat}(h:ax T i c≠0):jt T i f c=c:=by
 cases f with
 |zero=>rfl
 |succ f=>rw [jt,aB h]
theorem ahU {T:cu}{i f c:Nat}(h: ¬ax T i c≠0):jt T i (f+1) c=jt T i f (c+1):=by rw [jt,aw h]
def fE (m:Nat)(s:cl):cl:=⟨s.rows.take m,s.den,s.basis⟩
theorem yK {T:cu}{m i:Nat}(aa:i<m)(j:Nat):ax (T.take m) i j=ax T i j:=by unfold ax;simp only [List.getD,qs,aB aa]
theorem Xg {T:cu}{m i:Nat}(aa:i<m):(T.take m).getD i []=T.getD i []:=by simp only [List.getD,qs,aB aa]
theorem aou {T:cu}{m r c:Nat}{d:Int}(ad:r<m)(hm:m≤T.length):pw (T.take m) r c d=(pw T r c d).take m:=by
 rw [Pk,Pk,xm,xm,←List.map_take,List.take_range,fy,hX hm];refine k8 (fun i aa=> ?_);have aa:i<m:=by simpa using aa
 unfold j5;rw [Xg ad,Xg aa,yK ad,yK aa]
theorem aiF {s:cl}{m r c:Nat}(ad:r<m)(hm:m≤s.rows.length):iS (fE m s) r c=fE m (iS s r c):=by
 unfold iS fE k1;simp only [yK ad,aou ad hm];split
 ·rw [List.map_take]
 ·rfl
theorem TC {T:cu}{m i:Nat}(aa:i<m): ∀f c,jt (T.take m) i f c=jt T i f c
 |0,c=>rfl
 |f+1,c=>by rw [jt,jt,yK aa,TC aa f (c+1)]
theorem aos {s:cl}{m w k:Nat}(an:k<m)(hm:m≤s.rows.length):sJ w (fE m s) k=fE m (sJ w s k):=by
 unfold sJ;rw [show (fE m s).basis=s.basis from rfl,show (fE m s).rows=s.rows.take m from rfl,TC an];split
 ·rfl
 ·split
  ·rfl
  ·exact aiF an hm
theorem Jv {s:cl}{w:Nat}: ∀k,(jx w s k).rows.length=s.rows.length
 |0=>rfl
 |k+1=>by
  rw [jx];unfold sJ;split
  ·exact Jv k
  ·split
   ·exact Jv k
   ·show (k1 _ _ _ _).length=_;rw [PB];exact Jv k
theorem N5 {s:cl}{m w:Nat}(hm:m≤s.rows.length): ∀k,k≤m→jx w (fE m s) k=fE m (jx w s k)
 |0,_=>rfl
 |k+1,an=>by rw [jx,jx,N5 hm k J];exact aos J (by rw [Jv];exact hm)
def lP (w N:Nat)(s:cl)(i:Nat):List Int:=(List.range (N+1)).map (fun j=> -(b5 (fun q=>if w≤s.basis.getD q 0 then ax s.rows q j else 0) i))
def jL (w a N:Nat)(s:cl)(m k:Nat):List Int:=(List.range (N+1)).map (fun j=>if w≤j∧j<w+k then 0 else (lP w N s m).getD j 0)
def ml (k:Nat→Int)(N:Nat)(s:cl)(i:Nat):List Int:=(List.range (N+1)).map (fun j=>s.den*k j-b5 (fun q=>k (s.basis.getD q 0)*ax s.rows q j) i)
theorem Js (w N:Nat)(s:cl)(i:Nat):(lP w N s i).length=N+1:=by simp [lP]
theorem Ju (k:Nat→Int)(N:Nat)(s:cl)(i:Nat):(ml k N s i).length=N+1:=by simp [ml]
theorem Fu {w N:Nat}{s:cl}{i j:Nat}(ae:j<N+1):(lP w N s i).getD j 0= -(b5 (fun q=>if w≤s.basis.getD q 0 then ax s.rows q j else 0) i):=p4 ae
theorem Jt {k:Nat→Int}{N:Nat}{s:cl}{i j:Nat}(ae:j<N+1):(ml k N s i).getD j 0=s.den*k j-b5 (fun q=>k (s.basis.getD q 0)*ax s.rows q j) i:=p4 ae
theorem anv {w N:Nat}{s:cl}{i:Nat}(h: ¬w≤s.basis.getD i 0):lP w N s (i+1)=lP w N s i:=by unfold lP;refine k8 (fun j _=> ?_);show-(b5 _ i+(if w≤s.basis.getD i 0 then ax s.rows i j else 0))=_;rw [aw h];omega
theorem anu {w N:Nat}{s:cl}{i j:Nat}(h:w≤s.basis.getD i 0)(ae:j<N+1):(lP w N s (i+1)).getD j 0=(lP w N s i).getD j 0-ax s.rows i j:=by rw [Fu ae,Fu ae];show-(b5 _ i+(if w≤s.basis.getD i 0 then ax s.rows i j else 0))=_;rw [aB h];omega
theorem anz {k:Nat→Int}{N:Nat}{s:cl}{i:Nat}(h:k (s.basis.getD i 0)=0):ml k N s (i+1)=ml k N s i:=by unfold ml;refine k8 (fun j _=> ?_);show _-(b5 _ i+k (s.basis.getD i 0)*ax s.rows i j)=_;rw [h,jE];omega
theorem anx {k:Nat→Int}{N:Nat}{s:cl}{i j:Nat}(ae:j<N+1):(ml k N s (i+1)).getD j 0=(ml k N s i).getD j 0+ -(k (s.basis.getD i 0))*ax s.rows i j:=by rw [Jt ae,Jt ae];show _-(b5 _ i+k (s.basis.getD i 0)*ax s.rows i j)=_;rw [rh];omega
theorem xe {l gi:List Int}{n:Nat}(U:l.length=n)(ab:gi.length=n)(h: ∀j,j<n→l.getD j 0=gi.getD j 0):l=gi:=by apply kc J;intro j g1 g2;have:=h j J;rw [eA 0 g1,eA 0 g2] at this;exact this
theorem anw (w N:Nat)(s:cl):lP w N s 0=List.replicate (N+1) 0:=by refine xe (Js ..) b1 (fun j ae=> ?_);rw [Fu ae];show-(0:Int)=_;simp [List.getD,ae]
theorem Rc {l gi:List Int}{n:Nat}(U:l.length=n)(ab:gi.length=n):dK (fun j=>gi.getD j 0) 0 l n=gi:=by rw [←U,xm];refine xe (n:=n) (by simp [U]) ab (fun j ae=> ?_);exact p4 J
theorem PS {B:Nat}: ∀{n:Nat} {f:Nat→Int},(∀i,i<n→(f i).natAbs≤B)→(b5 f n).natAbs≤n*B
 |0,f,_=>by rw [ux];exact bN 0
 |n+1,f,h=>by have U:=PS (n:=n) (f:=f) (fun i aa=>h i J);have ab:=h n (gC n);show (b5 f n+f n).natAbs≤_;have ay:=Int.natAbs_add_le (b5 f n) (f n);rw [Nat.succ_mul];omega
theorem aap (p:Prog){k:Nat}(an:k<p.a): ∃i,i<p.m∧p.neg i=true∧fa p.B i=k:=by
 have key: ∀n,k<fa p.B n→ ∃i,i<n∧p.neg i=true∧fa p.B i=k:=by
  intro n;induction n with
  |zero=>intro h;exact absurd h (gh k)
  |succ n a6=>
   intro h;by_cases aG:(p.B.getD n 0).num<0
   ·rw [Xq aG] at h;by_cases e:fa p.B n=k
    ·exact ⟨n,J,by simpa using aG,e⟩
    ·obtain ⟨i,U,ab⟩:=a6 J;exact ⟨i,J,ab⟩
   ·have e:fa p.B (n+1)=fa p.B n:=by show (eK _ _).length=_;rw [eK,aw aG]
    rw [e] at h;obtain ⟨i,U,ab⟩:=a6 h;exact ⟨i,J,ab⟩
 exact key _ an
theorem anr (p:Prog)(i:Nat)(aa:i=p.a):jL (p.n+p.m) p.a p.N (fL p) p.m i=Dc (hR p) p.m p.N (fL p):=by
 subst aa;have jc:p.N=p.n+p.m+p.a:=rfl;have hinv:=CU p;have hd:(fL p).den=1:=rfl;unfold jL Dc;refine k8 (fun j ae=> ?_);have ae:j<p.N+1:=by simpa using ae
 rw [Fu ae,hd,mv];have an: ∀q,q<p.m→(if p.n+p.m≤(fL p).basis.getD q 0 then ax (fL p).rows q j else 0)=hR p ((fL p).basis.getD q 0)*ax (fL p).rows q j:=by
  intro q aA;have:=hinv.qy q aA;unfold hR;by_cases h:p.n+p.m≤(fL p).basis.getD q 0
  ·rw [aB h,aB ⟨h,this⟩,mv]
  ·rw [aw h,aw (fun e=>h e.1),jE]
 rw [gw an];by_cases h:p.n+p.m≤j∧j<p.n+p.m+p.a
 ·rw [aB h];obtain ⟨k,rfl⟩: ∃k,j=p.n+p.m+k:=⟨j-(p.n+p.m),J⟩
  have BN:k<p.a:=J;have U:hR p (p.n+p.m+k)=1:=by unfold hR;rw [aB J]
  rw [U]
  --the row of this artificial unknown
  obtain ⟨i,aa,jI,rr⟩:=aap p BN;have ak:(fL p).basis.getD i 0=p.n+p.m+k:=by show (jO p).getD i 0=_;rw [Jd p aa,aB jI,rr]
  have hu: ∀q,q<p.m→ax (fL p).rows q (p.n+p.m+k)=if q=i then 1 else 0:=by intro q aA;have:=hinv.unit q i J aa;rw [ak,hd] at this;exact this
  rw [yU i aa (fun q aA ch=>by rw [hu q aA,aw ch,gB]),hu i aa,aB rfl,ak,U];rfl
 ·rw [aw h];have:hR p j=0:=by unfold hR;rw [aw J]
  rw [this];omega
theorem amZ (T:cu)(L oK:List Int):kS (T++[L]) T.length oK=T++[oK]:=by unfold kS;rw [List.take_left]
theorem aiA (p:Prog):(An p).rows=iG p++[Dc (hR p) p.m p.N (fL p)]:=by show kS (iG p++[_]) p.m _=_;rw [←xc p];exact amZ _ _ _
theorem OS (p:Prog):fE p.m (fL p)=⟨iG p,1,jO p⟩:=by show (⟨(iG p++[_]).take p.m,1,jO p⟩:cl)=_;rw [←xc p,List.take_left]
theorem ahx (p:Prog)(K:Nat)(h:p.a=0):fE p.m (hr p K)=⟨iG p,1,jO p⟩:=by unfold hr;rw [aB h];exact OS p
theorem X4 (p:Prog)(aD:p.hJ)(K:Nat)(h:p.a≠0):fE p.m (hr p K)=jx (p.n+p.m) (fE p.m (gq p K)) p.m:=by unfold hr;rw [aw h];refine (N5 ?_ p.m (bN _)).symm;rw [(CQ p aD K).1.n];exact Nat.le_succ _
theorem aiB (p:Prog)(K:Nat):(u3 p K).rows=(fE p.m (hr p K)).rows++[ml (e6 p) p.N (hr p K) p.m]:=rfl
theorem aor {k:Nat→Int}{N m i:Nat}{s:cl}(aa:i≤m):ml k N (fE m s) i=ml k N s i:=by unfold ml;refine k8 (fun j _=> ?_);show s.den*k j-b5 (fun q=>k (s.basis.getD q 0)*ax (s.rows.take m) q j) i=_;congr 1;refine gw (fun q aA=> ?_);rw [yK J]
theorem CD (w a N:Nat)(s:cl)(m k:Nat):(jL w a N s m k).length=N+1:=by simp [jL]
theorem N4 {w a N:Nat}{s:cl}{m k j:Nat}(ae:j<N+1):(jL w a N s m k).getD j 0=if w≤j∧j<w+k then 0 else (lP w N s m).getD j 0:=p4 ae
theorem amE (w a N:Nat)(s:cl)(m:Nat):jL w a N s m 0=lP w N s m:=by refine xe (CD ..) (Js ..) (fun j ae=> ?_);rw [N4 ae,aw J]
theorem ant {w a N:Nat}{s:cl}{m k:Nat}(an:w+k<N+1):(jL w a N s m k).set (w+k) 0=jL w a N s m (k+1):=by
 refine xe (by rw [da];exact CD ..) (CD ..) (fun j ae=> ?_);rw [Go.aj.dR.fQ,N4 ae,N4 ae,CD];by_cases U:j=w+k
 ·rw [aB ⟨U,an⟩,aB J]
 ·rw [aw (fun q=>U q.1)];by_cases ab:w≤j∧j<w+k
  ·rw [aB ab,aB J]
  ·rw [aw ab,aw J]
theorem aoo {w N E:Nat}{s:cl}{i j:Nat}(aa:i≤100)(h: ∀q,q<i→(ax s.rows q j).natAbs≤10^E)(ae:j<N+1):((lP w N s i).getD j 0).natAbs≤10^(E+2):=by
 rw [Fu ae,qu];have U:=PS (B:=10^E) (n:=i) (f:=fun q=>if w≤s.basis.getD q 0 then ax s.rows q j else 0) (fun q aA=>by
  show (if w≤s.basis.getD q 0 then ax s.rows q j else 0).natAbs≤_;split
  ·exact h q aA
  ·exact cj _)
 refine dU U ?_;rw [iN,hj];exact hK _ aa
theorem aop {w N m i:Nat}{s:cl}(aa:i≤m):lP w N (fE m s) i=lP w N s i:=by unfold lP;refine k8 (fun j _=> ?_);congr 1;refine gw (fun q aA=> ?_);show (if w≤s.basis.getD q 0 then ax (s.rows.take m) q j else 0)=_;rw [yK J]
theorem ans {w a N m k:Nat}{s:cl}:jL w a N (fE m s) m k=jL w a N s m k:=by unfold jL;rw [aop (bN _)]
def oE (n N:Nat)(W:List Int):List Int:=(List.range (N+1)).map (fun j=>if j<n then W.getD j 0 else 0)
def ps (n m a:Nat)(W:List Int)(i:Nat):List Int:=(List.range (n+m+a+1)).map (xw n m a W i)
theorem JE (n N:Nat)(W:List Int):(oE n N W).length=N+1:=by simp [oE]
theorem yF (n m a:Nat)(W:List Int)(i:Nat):(ps n m a W i).length=n+m+a+1:=by simp [ps]
theorem anW {N:Nat}{W:List Int}:oE 0 N W=List.replicate (N+1) 0:=by refine xe (JE ..) b1 (fun j ae=> ?_);rw [show (oE 0 N W).getD j 0=0 from (p4 ae).trans (aw (gh j))];simp [List.getD,ae]
theorem aij {n m a i:Nat}{W:List Int}(aa:i<m):((oE n (n+m+a) W).set (n+i) 1).set (n+m+a) (W.getD n 0)=ps n m a W i:=by
 refine xe (n:=n+m+a+1) (by rw [da,da];exact JE ..) (yF ..) (fun j ae=> ?_);rw [Go.aj.dR.fQ,Go.aj.dR.fQ,da,JE,show (ps n m a W i).getD j 0=xw n m a W i j from p4 ae,show (oE n (n+m+a) W).getD j 0=(if j<n then W.getD j 0 else 0) from p4 ae];unfold xw;by_cases U:j=n+m+a
 ·rw [aB ⟨U,J⟩,aw J,aw J,aB U]
 ·rw [aw (fun q=>U q.1)];by_cases ab:j=n+i
  ·rw [aB ⟨ab,J⟩,aw J,aB ab]
  ·rw [aw (fun q=>ab q.1)];by_cases ay:j<n
   ·rw [aB ay,aB ay]
   ·rw [aw ay,aw ay,aw ab,aw U]
theorem ahK {n m a i:Nat}{W:List Int}:dK (fun j=> -((ps n m a W i).getD j 0)) 0 (ps n m a W i) (n+m+a+1)=(ps n m a W i).map (fun x=> -x):=by have e:=xm (fun j=> -((ps n m a W i).getD j 0)) 0 (ps n m a W i);rw [yF] at e;rw [e];refine xe (n:=n+m+a+1) b1 (by rw [cW];exact yF ..) (fun j ae=> ?_);rw [show ((List.range (n+m+a+1)).map (fun j=> -((ps n m a W i).getD j 0))).getD j 0= -((ps n m a W i).getD j 0) from p4 ae,nk _ _ 0 _ _ (by rw [yF];exact ae)]
theorem ajC {n m a i k:Nat}{W:List Int}(an:k<a):((ps n m a W i).map (fun x=> -x)).set (n+m+k) 1=vq n m a W i true k:=by
 refine xe (n:=n+m+a+1) (by rw [da,cW];exact yF ..) (by simp [vq]) (fun j ae=> ?_);rw [Go.aj.dR.fQ,cW,yF,show (vq n m a W i true k).getD j 0=y0 n m a W i true k j from p4 ae];unfold y0;rw [aB rfl];by_cases h:j=n+m+k
 ·rw [aB ⟨h,J⟩,aB h]
 ·rw [aw (fun q=>h q.1),aw h,nk _ _ 0 _ _ (by rw [yF];exact ae)];exact congrArg (fun x:Int=> -x) (p4 ae)
theorem ajD {n m a i k:Nat}{W:List Int}:ps n m a W i=vq n m a W i false k:=rfl
theorem We {α:Type}(l:List α)(d:α){i:Nat}(aa:i<l.length):l.take (i+1)=l.take i++[l.getD i d]:=by rw [List.take_add_one,eA d aa];simp [aa]
end Go.aj.cL
namespace Go.aj
variable [bx]
open Go.RowKit
theorem cm.abx {P:Program}{f:FuncId}{args:List ao}{H:aY}{fix:Nat→Prop}{K kB:ao→aY→Prop}(av:cm P f args H fix K)(dE: ∀r bK,K r bK→ ∃b3 H1,bK=b3++H1∧(∀h,fix h→h<b3.length)∧(∀(h:Nat) (o:bm),b3[h]? =some (some o)→fw b3.length o.c)∧gV b3.length r=true∧kB r b3):cm P f args H fix kB:=by
 refine ⟨av.1,fun w σ S dH aM U ab ay=>Calls.mono (av.2 w σ S dH aM U ab ay) fun e w' he=> ?_⟩;obtain ⟨v,r,bC,cb,bK,g1,g2,g3,g4,g5⟩:=he;obtain ⟨b3,H1,rfl,aR,so,LQ,an⟩:=dE _ _ g5;have az: ∀h,h<b3.length→Bu b3.length bC h=bC h:=fun h au=>aB au;have l2: ∀{h:Nat} {o:bm},b3[h]? =some (some o)→h<b3.length∧(b3++H1)[h]? =some (some o):=by intro h o ai;have au:h<b3.length:=(gZ.1 ai).1;exact ⟨au,by rw [ic au];exact ai⟩
 refine ⟨v,r,Bu b3.length bC,cb,b3,g1,⟨fun h o ai=> ?_,fun h aS o o' b s C ct cM bQ bX aE aF=> ?_,g2.small,fun h au=>aw J⟩,g3.sl LQ _ az,⟨g4.os,g4.output,g4.tape,g4.size,g4.block,g4.hV,g4.fb,fun h aX=>by rw [az h (aR h aX)];exact g4.fixed h aX,aR,fun h o b s C q e=> ?_⟩,an⟩
 ·obtain ⟨au,cN⟩:=l2 ai;rw [az h au];rcases g2.live h o cN with g|⟨b,C,cur,et,eS,gG,rE,tF,E0,MZ⟩
  ·exact .inl g
  ·refine .inr ⟨b,C,cur,et,eS.sl (fun ks vs av=>(so h o ai).mp av) az,gG,rE,tF,E0,fun i j aa ae=> ?_⟩;obtain ⟨v,m1,m2,m3⟩:=MZ i j aa ae;exact ⟨v,m1,m2.sl ((so h o ai).row i j aa ae) _ az,m3⟩
 ·obtain ⟨au,ai⟩:=l2 bQ;obtain ⟨lh,cN⟩:=l2 bX;rw [az h au] at aE;rw [az aS lh] at aF;exact g2.hB h aS o o' b s C ct cM ai cN aE aF
 ·obtain ⟨au,ai⟩:=l2 q;rw [az h au] at e;exact g4.own h o b s C ai e
theorem Jh {P:Program}{fr:Fr}{H:aY}{t h:Nat}{ty o7:TypeId}{l:List ao}{e1:Array Field}{i:TypeInfo}(au:look t fr=some (.ptr h 0 0))(aX:H[h]? =some (some ⟨o7,.box l⟩))(hu:P.underlying ty=some (.struct e1))(aa:P.info? ty=some i)(cy:Nat.beq i.size l.length=true):
 ug P fr H [.cell t ty]=some [.agg l]:=by have bY:= ‹bx›;simp only [ug,Gw,au,aX,hu,aa,cy];rfl
theorem TR {P:Program}{fn:Func}{c:Ctx}{H:aY}{all:Array Oper}{eE:Fr}{i:Nat}{r:List Nat}{st:Steps}{G:Steps→Prop}{d:Nat}{g:Operand}{args:List Operand}{hZ:Array TypeId}{ty:TypeId}{pos:String}{after:Array Edge}{f:FuncId}{cD dZ gz:List ao}{v:ao}{K:Fr}(aa:all[i]? =some ⟨some d,.call {callee:= .value g,args:=args.toArray,argTypes:=hZ},ty,pos,after,none⟩)(dE:sT st eE ⟨some d,.call {callee:= .value g,args:=args.toArray,argTypes:=hZ},ty,pos,after,none⟩=K)(c9:bH K g=some (.fn f cD))(aW:lb K args=some dZ)(has:dZ++cD=gz)(lg:cm P f gz H (fun h=>h<H.length) (fun dF bK=>dF=v∧bK=H))(h:lR P fn c H all eE r ((i,d,v)::st) G):lR P fn c H all eE (i::r) st G:=
 Kq aa (dE▸fun k fr an ab=>sL (J4 an c9) (OP an aW) has lg (fun _ h=>h) (fun _ h=>h) (fun r bK e=>by obtain ⟨rfl,rfl⟩:=e;exact ab)) h
end Go.aj
namespace Go.aj
variable [bx]
open Go.RowKit
def Cb (σ:Nat→Option bP)(U ab:Nat):Nat→Option bP:=fun h=>if h=U then σ ab else σ h
def yj (H:aY)(U ab:Nat)(o:bm):aY:=((c6 U H).set U (some ⟨o.ty,o.c.forget U⟩)).set ab none
theorem F8 {H:aY}{U ab:Nat}{o:bm}(ch:U≠ab)(wz:U<H.length){h:Nat}{o':bm}(aX:(yj H U ab o)[h]? =some (some o')):
 (h=U∧o'=⟨o.ty,o.c.forget U⟩)∨(h≠U∧h≠ab∧ ∃dt:bm,H[h]? =some (some dt)∧o'=⟨dt.ty,dt.c.forget U⟩):=by
 unfold yj at aX;by_cases aF:h=ab
 ·exfalso;subst aF;rw [DN] at aX;rw [aB rfl] at aX;split at aX<;>cases aX
 rw [lW (fun q=>aF q.symm)] at aX;by_cases aE:h=U
 ·subst aE;rw [oP (by rw [vg];exact wz)] at aX;cases aX;exact .inl ⟨I,I⟩
 ·rw [lW (fun q=>aE q.symm),I4] at aX;cases al:H[h]? with
  |none=>rw [al] at aX;cases aX
  |some x=>
   rw [al] at aX;cases x with
   |none=>cases aX
   |some dt=>cases aX;exact .inr ⟨aE,aF,dt,rfl,rfl⟩
theorem cd.move {c:Ctx}{w:World}{a:Act}{σ:Nat→Option bP}{S:Nat→Prop}{n:Nat}{fr:Fr}{H:aY}(ad:cd c w a σ S n fr H)(U ab t len:Nat){o:bm}(ch:U≠ab)(wz:U<H.length)(Bx:H[ab]? =some (some o))(sr: ¬c.fix U)(au:look t fr=some (.aC ab 0 len)):cd c w a (Cb σ U ab) S n ((t,.aC U 0 len)::oC U fr) (yj H U ab o):=by
 have af: ∀{x v},bz w S σ x v→bz w S (Cb σ U ab) (x.forget U) v:=fun h=>h.forget _ (fun aS q=>aw q);have s1:Cb σ U ab U=σ ab:=aB rfl;have s2: ∀h,h≠U→Cb σ U ab h=σ h:=fun h q=>aw q;have hlen:(yj H U ab o).length=H.length:=by unfold yj;rw [da,da,vg]
 have key: ∀(h:Nat) (dt:bm),H[h]? =some (some dt)→((σ h=some .l9∧(dt.c.forget U).len=0)∨
  ∃b C cur,σ h=some (.at b (dt.c.forget U).aI C)∧Lays w S (Cb σ U ab) ⟨dt.ty,dt.c.forget U⟩ b cur C∧cur.size=C*(dt.c.forget U).aI∧C≤maxLen+1∧(dt.c.forget U).len≤C∧ ¬S b∧
  ∀i j,i<(dt.c.forget U).len→j<(dt.c.forget U).aI→ ∃v,cur[i*(dt.c.forget U).aI+j]? =some v∧bz w S (Cb σ U ab) ((dt.c.forget U).at i j) v∧v.oneCell'=true):=by
  intro h dt rv;rw [Cells.zG,Cells.He];rcases ad.ad.live h dt rv with g|⟨b,C,cur,g1,g2,g3,g4,g5,g6,g7⟩
  ·exact .inl g
  ·refine .inr ⟨b,C,cur,g1,g2.forget I af,g3,g4,g5,g6,fun i j aa ae=> ?_⟩;obtain ⟨v,et,eS,gG⟩:=g7 i j aa ae;exact ⟨v,et,by rw [Cells.Hd _ _ _ _ ae];exact af eS,gG⟩
 refine ⟨⟨fun h o' ai=> ?_,fun h aS o1 ary b s C ct cM bQ bX aE aF=> ?_,ad.ad.small,fun h lh=> ?_⟩,⟨ad.bk.os,ad.bk.output,ad.bk.tape,ad.bk.size,ad.bk.block,ad.bk.hV,ad.bk.fb,fun h aX=> ?_,fun h aX=> ?_,fun h o' b s C q e=> ?_⟩,ad.defers,ad.size,fun cC v lh=> ?_⟩
 ·rcases F8 ch wz ai with ⟨rfl,rfl⟩|⟨g1,g2,dt,g3,rfl⟩
  ·rw [s1];exact key ab o Bx
  ·rw [s2 h g1];exact key h dt g3
 ·rcases F8 ch wz bQ with ⟨rfl,rfl⟩|⟨g1,g2,dt,g3,rfl⟩
  ·rcases F8 ch wz bX with ⟨rfl,rfl⟩|⟨et,eS,Nc,gG,rfl⟩
   ·rfl
   ·rw [s1] at aE;rw [s2 aS et] at aF;exact absurd (ad.ad.hB ab aS o Nc b s C ct cM Bx gG aE aF) (fun q=>eS q.symm)
  ·rcases F8 ch wz bX with ⟨rfl,rfl⟩|⟨et,eS,Nc,gG,rfl⟩
   ·rw [s1] at aF;rw [s2 h g1] at aE;exact absurd (ad.ad.hB h ab dt o b s C ct cM g3 Bx aE aF) g2
   ·rw [s2 h g1] at aE;rw [s2 aS et] at aF;exact ad.ad.hB h aS dt Nc b s C ct cM g3 gG aE aF
 ·rw [hlen] at lh;rw [s2 h J];exact ad.ad.ie h lh
 ·rw [s2 h (fun q=>sr (q▸aX))];exact ad.bk.fixed h aX
 ·rw [hlen];exact ad.bk.jF h aX
 ·rcases F8 ch wz q with ⟨rfl,rfl⟩|⟨g1,g2,dt,g3,rfl⟩
  ·rw [s1] at e;exact ad.bk.own ab o b s C Bx e
  ·rw [s2 h g1] at e;exact ad.bk.own h dt b s C g3 e
 ·have km:=ad.fl t _ au;simp only [look] at lh;cases ak:Nat.beq cC t with
  |true=>
   rw [ak] at lh;have tr:=pO ak;subst tr;cases lh;refine ⟨km.1,?_⟩;have ab:=km.2;generalize a.tmps.getD cC undef=x at ab;cases ab with
   |aC _ _ _ _ b s C cap aE aF bO=>exact .aC _ _ _ _ _ _ _ _ (by rw [s1];exact aE) aF bO
   |iD _ _ e=>exact .iD _ _ (by rw [s1];exact e)
  |false=>
   rw [ak] at lh;have lh:look cC (oC U fr)=some v:=lh;rw [Fp] at lh;cases al:look cC fr with
   |none=>rw [al] at lh;cases lh
   |some v0=>
    rw [al] at lh;cases lh;have az:=ad.fl cC v0 al;exact ⟨az.1,af az.2⟩
section
variable {P:Program}{fn:Func}{c:Ctx}{fr:Fr}{H:aY}{k:List eO}
theorem P0 {x:Code}(U ab t len:Nat){o:bm}(ch:U≠ab)(wz:U<H.length)(Bx:H[ab]? =some (some o))(sr: ¬c.fix U)(au:look t fr=some (.aC ab 0 len))(an:aj P fn c (.code x k) ((t,.aC U 0 len)::oC U fr) (yj H U ab o)):aj P fn c (.code x k) fr H:=
 fun w a σ S ad=>an w a _ S (ad.move U ab t len ch wz Bx sr au)
end
theorem US {fr K:Fr}(h:jm fr K): ∀{xs:List (Nat×Operand)} {l:List (Nat×ao)},qW K xs=some l→qW fr xs=some l
 |[],l,he=>he
 |(n,x)::r,l,he=>by
  simp only [qW] at he⊢;split at he
  ·rename_i v af;split at he
   ·rename_i q aA;rw [J4 h af,US h aA];exact he
   ·cases he
  ·cases he
theorem Iy {P:Program}{fn:Func}{c:Ctx}{H:aY}{all:Array Oper}{eE:Fr}{i:Nat}{r:List Nat}{st:Go.aj.Steps}{G:Go.aj.Steps→Prop}{d:Nat}{t e:TypeId}{n:Nat}{parts:List (Nat×Operand)}{ty:TypeId}{pos:String}{after:Array Edge}{it:TypeInfo}{z:Value}{zs L:List ao}{l:List (Nat×ao)}{eb:Cells}{K:Fr}(aa:all[i]? =some ⟨some d,.buildSlice t n parts.toArray,ty,pos,after,none⟩)(dE:sT st eE ⟨some d,.buildSlice t n parts.toArray,ty,pos,after,none⟩=K)(bu:P.underlying t=some (.slice e))(iR:P.info? e=some it)(bB:it.zero=some z)(lF:vN z=some zs)(cy:it.size=zs.length)(e3:Nat.blt 0 zs.length=true)(ye:Nat.ble (n*zs.length) 16777216=true)(au:qW K parts=some l)(aR:r0 (fun i=>some (i*zs.length,zs.length)) (rT zs n) l=some L)(hC:fM n zs.length L=eb)(aG:c2.e9 L=true)(h:lR P fn c H all eE r ((i,d,.ro eb 0 n)::st) G):lR P fn c H all eE (i::r) st G:=
 Kq aa (dE▸fun k fr an ab=>ju bu iR bB lF cy e3 ye (US an au) aR hC aG ab) h
end Go.aj
namespace Go.aj
variable [bx]
open Go.RowKit
section
variable {P:Program}{fn:Func}{c:Ctx}{fr:Fr}{H:aY}{k:List eO}
theorem alH {w:World}{size:Nat}{a:Option Addr}{m cap:Nat}:(Builtin.firstCells size 0 (.slice a m cap)).run P w= .ok #[] w:=by
 have bY:= ‹bx›;cases a with
 |none=>rfl
 |some a=>
  show (loadCells a (0*size)).run P w=_;rw [ux];rfl
theorem aar {all:Array Oper}{d:Nat}{t w1 e:TypeId}{x y:Operand}{ty:TypeId}{pos:String}{after:Array Edge}{rest:List Oper}{inf:TypeInfo}{h i n:Nat}{ab i2:Nat}(bu:P.underlying t=some (.slice e))(aa:P.info? e=some inf)(al:bH fr x=some (.aC h i n))(a1:bH fr y=some (.aC ab i2 0))(an:aj P fn c (.ops false all rest k) ((d,.int .i64 0)::fr) H):aj P fn c (.ops false all (⟨some d,.call {callee:= .builtin .copy,args:= #[x,y],argTypes:= #[t,w1]},ty,pos,after,none⟩::rest) k) fr H:=by
 refine uD (fun w a σ S ad=> ?_) an;have U:=ad.ek al;have ab:=ad.ek a1;have mY: ∀r w',(Builtin.copy_ #[t,w1] ty #[a.eval x,a.eval y]).run P w= .ok r w'→(execOp a.eval ⟨some d,.call {callee:= .builtin .copy,args:= #[x,y],argTypes:= #[t,w1]},ty,pos,after,none⟩).run P w= .ok (.value r) w':=by intro r w' h;simp [execOp,resolve,invoke,builtin,h]
 generalize Ib:a.eval x=Ux at U mY;generalize nf:a.eval y=Uy at ab mY;have key: ∀(nC Lc:Option Addr) (Ip eH Bv:Nat),(Builtin.copy_ #[t,w1] ty #[.slice nC Ip eH,.slice Lc 0 Bv]).run P w= .ok (.int .i64 (0:Nat)) w:=by
  intro nC Lc Ip eH Bv;have aR:=alH (P:=P) (w:=w) (size:=inf.size) (a:=Lc) (m:=0) (cap:=Bv);have hm:Nat.min 0 Ip=0:=Nat.zero_min Ip;cases nC with
  |none=>simp [Builtin.copy_,run_underlying bu,sizeOf,typeInfo,aa,Builtin.lenOf,hm,aR,goInt]
  |some jD=>simp [Builtin.copy_,run_underlying bu,sizeOf,typeInfo,aa,Builtin.lenOf,hm,aR,goInt,storeCells]
 cases U with
 |iD _ _ bL=>
  cases ab with
  |iD _ _ yh=>exact ⟨_,_,σ,S,mY _ _ (key _ _ _ _ _),ad,.int _ _ _⟩
  |aC _ _ _ _ b s C cap yh hlen kh=>exact ⟨_,_,σ,S,mY _ _ (key _ _ _ _ _),ad,.int _ _ _⟩
 |aC _ _ _ _ b s C cap bL hlen kh=>
  cases ab with
  |iD _ _ yh=>exact ⟨_,_,σ,S,mY _ _ (key _ _ _ _ _),ad,.int _ _ _⟩
  |aC _ _ _ _ b s C cap yh hlen kh=>exact ⟨_,_,σ,S,mY _ _ (key _ _ _ _ _),ad,.int _ _ _⟩
end
end Go.aj
namespace Go.aj.cQ
open Go.aj.dh
def Aq (u:Int→List Rat)(x:Int)(v:List Rat):Int→List Rat:=fun y=>if y=x then v else u y
theorem Qh {t:aJ}{p:Int}(u:Int→List Rat){k b:Nat}{x:Int×Nat}(kq:x.2≤k)(qQ:k<x.2+ca t p x.1)(tM:b<x.2)(Fc:x.2+ca t p x.1≤(bW t p).length)(Cp: ∀c,c<ca t p x.1→(bW t p).getD (x.2+c) c5=⟨x.1,(c:Int),(b:Int)⟩):(gv t p u).getD k 0=(gv t p u).getD b 0*(u x.1).getD (k-x.2) 0:=by have az:=Cp (k-x.2) J;rw [show x.2+(k-x.2)=k by omega] at az;unfold gv;rw [yP _ _ (show k<(bW t p).length by omega),az];unfold xh;simp only;rw [aw J,cn,cn,Jl _ _ (show b<(bW t p).length by omega) (show b<k by omega)]
def vI (t:aJ)(p:Int)(s:Nat):Nat:=((bW t p).getD s c5).before.toNat
structure xz (t:aJ)(p x:Int)(s b:Nat):Prop where
 mem:(x,s)∈(de t p t.length).first
 start:rS t p x=s
 uF:vI t p s=b
 one:1≤s
 lp:1≤ca t p x
 fin:s+ca t p x≤(bW t p).length
 lt:b<s
 cx: ∀c,c<ca t p x→(bW t p).getD (s+c) c5=⟨x,(c:Int),(b:Int)⟩
theorem xr {t:aJ}(af:Valid t){p x:Int}(al:x∈b9 t p): ∃s b,xz t p x s b:=by
 have h:=hz.lY af p t.length (bN _);obtain ⟨j,ae,az⟩:=(me af).1 al;have an:=(h.keys x).2 ⟨j,ae,az⟩;have hw:1≤ca t p x:=by
  rw [qY af ae az];unfold fX at az;rw [er] at az;have ai:=(sP.1 az.1).1;rcases af.child ae with q|q
  ·have:=q.1;omega
  ·exact (yD q.2).1
 cases au:fY (de t p t.length).first x with
 |none=>exact absurd an (Fv au)
 |some s=>
  have hm:=xa au;obtain ⟨iU,jh,b,dS,eP,nD⟩:=h.fst (x,s) hm;obtain ⟨n,rfl⟩:=oW dS;simp only at iU jh eP nD;refine ⟨s,n,hm,by unfold rS mi;rw [au];rfl,?_,iU,hw,jh,J,nD⟩;have:=nD 0 J;unfold vI;rw [fg] at this;rw [show (bW t p).getD s c5=_ from this];exact cn n
structure n3 (t:aJ)(p:Int)(W:Nat→Rat):Prop where
 root:W 0=1
 mC: ∀k,k<(bW t p).length→0≤W k
 sum: ∀x∈b9 t p,b2 (fun c=>W (rS t p x+c)) (ca t p x)=W (vI t p (rS t p x))
theorem Yc {t:aJ}{p x:Int}{s b:Nat}(h:xz t p x s b)(u:Int→List Rat){c:Nat}(av:c<ca t p x):(gv t p u).getD (s+c) 0=(gv t p u).getD b 0*(u x).getD c 0:=by have:=Qh (t:=t) (p:=p) u (k:=s+c) (b:=b) (x:=(x,s)) (by show s≤s+c;omega) (by show s+c<s+ca t p x;omega) h.lt h.fin h.cx;rw [this];show _*(u x).getD (s+c-s) 0=_;rw [show s+c-s=c by omega]
theorem Ou {t:aJ}(af:Valid t){p:Int}{u:Int→List Rat}(hu:oL t p u):n3 t p (fun k=>(gv t p u).getD k 0):=by refine ⟨yQ af p u,Zi af hu,fun x al=> ?_⟩;obtain ⟨s,b,h⟩:=xr af al;rw [h.start,h.uF];rw [e7 (fun c av=>Yc h u av),tY,YI hu al,zw]
def gX (t:aJ)(p:Int)(W:Nat→Rat)(x:Int):List Rat:=
 if 0<W (vI t p (rS t p x)) then (List.range (ca t p x)).map (fun c=>W (rS t p x+c)/W (vI t p (rS t p x))) else hG (ca t p x) 0
theorem JX {t:aJ}{p x:Int}{s b:Nat}(h:xz t p x s b)(W:Nat→Rat)(gO:0<W b){c:Nat}(av:c<ca t p x):(gX t p W x).getD c 0=W (s+c)/W b:=by unfold gX;rw [h.start,h.uF,aB gO,nk _ _ 0 0 c (by rw [gN];exact av),eA 0 (by rw [gN];exact av),zt]
theorem Yx {f g:Nat→Rat}{n m:Nat}(h: ∀c,c<n→0≤f c)(aM:b2 f n=0)(hm:m<n):f m=0:=by
 have key: ∀n,(∀c,c<n→0≤f c)→ ∀m,m<n→f m≤b2 f n:=by
  intro n;induction n with
  |zero=>intro _ m hm;exact absurd hm (gh _)
  |succ n a6=>
   intro aG m hm;show f m≤b2 f n+f n;have U:=NR (f:=f) (n:=n) (fun i aa=>aG i J);have ab:=aG n J;by_cases e:m=n
   ·subst e;grind
   ·have:=a6 (fun c av=>aG c J) m J;grind
 have U:=key n h m hm;have ab:=h m hm;rw [aM] at U;exact qx U ab
theorem JY {t:aJ}(af:Valid t){p:Int}{W:Nat→Rat}(gO:n3 t p W):oL t p (gX t p W):=by
 have key: ∀x∈b9 t p,(gX t p W x).length=ca t p x∧ec 0 (gX t p W x)=1∧ ∀q∈gX t p W x,0≤q:=by
  intro x al;obtain ⟨s,b,h⟩:=xr af al;by_cases ak:0<W b
  ·have au:(gX t p W x).length=ca t p x:=by unfold gX;rw [h.start,h.uF,aB ak,cW,gN]
   refine ⟨au,?_,fun q aA=> ?_⟩
   ·have U:=JK (ca t p x) (gX t p W x) J;rw [kd J] at U;rw [←U,e7 (fun c av=>JX h W ak av)];have ab:=gO.sum x al;rw [h.start,h.uF] at ab;have ay:b2 (fun c=>W (s+c)/W b) (ca t p x)=b2 (fun c=>W (s+c)*(W b)⁻¹) (ca t p x):=e7 (fun c _=>Rat.div_def _ _);rw [ay,AB,ab];exact Rat.mul_inv_cancel _ (by grind)
   ·obtain ⟨c,av,rfl⟩:=kE aA;have e:(gX t p W x).getD c 0=(gX t p W x)[c]:=eA 0 av;rw [←e,JX h W ak J,Rat.div_def];have bc:=gO.mC (s+c) (by have:=h.fin;omega);exact wg bc (zy (Rat.inv_pos.2 ak))
  ·have e:gX t p W x=hG (ca t p x) 0:=by unfold gX;rw [h.start,h.uF,aw ak]
   rw [e];obtain ⟨h6,u2,Ap⟩:=yE (w:=ca t p x) (c:=0) h.lp;exact ⟨h6,u2,fun q aA=>(Ap q aA).1⟩
 exact ⟨fun x al=>(key x al).1,fun x al=>(key x al).2.1,fun x al=>(key x al).2.2⟩
theorem Wo {t:aJ}(af:Valid t){p:Int}{W:Nat→Rat}(gO:n3 t p W): ∀k,k<(bW t p).length→(gv t p (gX t p W)).getD k 0=W k:=by
 intro k;induction k using Nat.strongRecOn with
 |ind k a6=>
  intro an;rcases nz k with e|e
  ·subst e;rw [yQ af,gO.root]
  ·obtain ⟨x,b,sE,iU,jh,w4,yy,Cq,Ff,yz⟩:=Dk af e an;obtain ⟨s,b',h⟩:=xr af iU;have tE:x=(x.1,s):=F9 (hz.lY af p t.length (bN _)).eY sE h.mem rfl;have az:x.2=s:=congrArg Prod.snd tE;have rq:b=b':=by have aE:=yz 0 J;have aF:=h.cx 0 J;rw [az,aF] at aE;have:=congrArg ff.before aE;have:((b':Nat):Int)=((b:Nat):Int):=this;omega
   subst rq;rw [az] at jh w4;have ak:=a6 b (by have:=h.lt;omega) (by have:=h.lt;omega);have mB:k=s+(k-s):=J;have av:k-s<ca t p x.1:=J;rw [mB,Yc h (gX t p W) av,ak];by_cases Ei:0<W b
   ·rw [JX h W Ei av,nA,Rat.div_mul_cancel (by grind)]
   ·have aM:W b=0:=qx (zx.1 Ei) (gO.mC b (by have:=h.lt;omega));have ab:=gO.sum x.1 iU;rw [h.start,h.uF,aM] at ab;have ay:=Yx (g:=fun _=>0) (f:=fun c=>W (s+c)) (n:=ca t p x.1) (m:=k-s) (fun c av=>gO.mC (s+c) (by have:=h.fin;omega)) ab av;rw [aM,oa];exact ay.symm
theorem WR {t:aJ}(af:Valid t){p:Int}{u v:Int→List Rat}(h: ∀x∈b9 t p,u x=v x): ∀k,k<(bW t p).length→(gv t p u).getD k 0=(gv t p v).getD k 0:=by
 intro k;induction k using Nat.strongRecOn with
 |ind k a6=>
  intro an;rcases nz k with e|e
  ·subst e;rw [yQ af,yQ af]
  ·obtain ⟨x,b,sE,iU,jh,w4,yy,Cq,Ff,yz⟩:=Dk af e an;rw [Qh u jh w4 yy Ff yz,Qh v jh w4 yy Ff yz,h x.1 iU,a6 b J J]
end Go.aj.cQ
namespace Go.aj.k4
open Go.aj.dR Go.aj.cQ Go.aj.dh Go.aj.cL
def rX (T:List (List Rat))(a b:Nat)(y:Rat):List (List Rat):=T.set a ((T.getD a []).set b ((T.getD a []).getD b 0+y))
def yw (pa kO:Nat→Nat)(v:Nat→Rat):List Nat→List (List Rat)→List (List Rat)
 |[],T=>T
 |e::r,T=>yw pa kO v r (rX T (pa e) (kO e) (v e))
structure vP (T:List (List Rat))(n m:Nat):Prop where
 rows:T.length=n
 qA: ∀i,i<n→(T.getD i []).length=m
def kZ (T:List (List Rat))(n m:Nat)(x y:Nat→Rat):Rat:=b2 (fun i=>x i*b2 (fun j=>(T.getD i []).getD j 0*y j) m) n
theorem fQ {α:Type}(l:List α)(a i:Nat)(z d:α)(aW:a<l.length):(l.set a z).getD i d=if i=a then z else l.getD i d:=by
 by_cases h:i=a
 ·subst h;rw [aB rfl];simp [List.getD,aW]
 ·rw [aw h];simp [List.getD,DN,ra h]
theorem Wl {T:List (List Rat)}{n m a b:Nat}{y:Rat}(h:vP T n m)(aW:a<n):vP (rX T a b y) n m:=by
 refine ⟨by unfold rX;rw [da];exact h.rows,fun i aa=> ?_⟩;unfold rX;rw [fQ _ _ _ _ _ (by rw [h.rows];exact aW)];split
 ·rw [da];exact h.qA a aW
 ·exact h.qA i aa
theorem ZG {f:Nat→Rat}{a:Nat}(y:Rat): ∀{n:Nat},a<n→b2 (fun i=>f i+(if i=a then y else 0)) n=b2 f n+y:=by
 intro n aW;rw [vr];congr 1;have key: ∀{n:Nat},b2 (fun i=>if i=a then y else 0) n=if a<n then y else 0:=by
  intro n;induction n with
  |zero=>rfl
  |succ n a6=>
   show b2 (fun i=>if i=a then y else 0) n+(if n=a then y else 0)=_;rw [a6];by_cases U:n=a
   ·rw [aw J,aB U,aB J];exact kI y
   ·rw [aw U,jX];by_cases ab:a<n
    ·rw [aB ab,aB J]
    ·rw [aw ab,aw J]
 rw [key,aB aW]
theorem aoX {T:List (List Rat)}{n m a b:Nat}{v:Rat}(h:vP T n m)(aW:a<n)(ak:b<m)(x y:Nat→Rat):kZ (rX T a b v) n m x y=kZ T n m x y+x a*v*y b:=by
 unfold kZ;have e: ∀i,i<n→x i*b2 (fun j=>((rX T a b v).getD i []).getD j 0*y j) m=x i*b2 (fun j=>(T.getD i []).getD j 0*y j) m+(if i=a then x a*v*y b else 0):=fun i aa=>by
  unfold rX;rw [fQ _ _ _ _ _ (by rw [h.rows];exact aW)];by_cases e:i=a
  ·subst e;rw [aB rfl,aB rfl];have aF: ∀j,j<m→(((T.getD i []).set b ((T.getD i []).getD b 0+v)).getD j 0)*y j=(T.getD i []).getD j 0*y j+(if j=b then v*y b else 0):=fun j ae=>by
    rw [fQ _ _ _ _ _ (by rw [h.qA i aa];exact ak)];by_cases e:j=b
    ·subst e;rw [aB rfl,aB rfl];grind
    ·rw [aw e,aw e,jX]
   rw [e7 aF,ZG _ ak];grind
  ·rw [aw e,aw e,jX]
 rw [e7 e,ZG _ aW]
theorem Po {pa kO:Nat→Nat}{v:Nat→Rat}{n m:Nat}: ∀(l:List Nat) {T:List (List Rat)},vP T n m→(∀e∈l,pa e<n)→vP (yw pa kO v l T) n m
 |[],T,h,_=>h
 |e::r,T,h,aD=>Po r (Wl h (aD e (vZ ..))) (fun x al=>aD x (uy _ al))
theorem Xe {pa kO:Nat→Nat}{v:Nat→Rat}{n m:Nat}(x y:Nat→Rat): ∀(l:List Nat) {T:List (List Rat)},vP T n m→(∀e∈l,pa e<n∧kO e<m)→
 kZ (yw pa kO v l T) n m x y=kZ T n m x y+ec 0 (l.map (fun e=>x (pa e)*v e*y (kO e)))
 |[],T,h,_=>by
  show _=_+(0:Rat)
  rw [jX];rfl
 |e::r,T,h,aD=>by obtain ⟨U,ab⟩:=aD e (vZ ..);rw [yw,Xe x y r (Wl h U) (fun x al=>aD x (uy _ al)),aoX h U ab,k9,ec,sN _ (0+_)];grind
def pB (t:aJ)(p:Int)(e:Nat):Nat:=((hQ t p).getD e 0).toNat
abbrev a8 (t:aJ)(p:Int):Nat:=(bW t p).length
def sX (n m:Nat):List (List Rat):=List.replicate n (List.replicate m 0)
def gY (t:aJ):List (List Rat):=yw (pB t 0) (pB t 1) (iK t (cA t (ih t))) (cH t) (sX (a8 t 0) (a8 t 1))
theorem O3 (n m:Nat):vP (sX n m) n m:=by
 refine ⟨fc,fun i aa=> ?_⟩;have e:(sX n m).getD i []=List.replicate m 0:=by simp [sX,List.getD,aa]
 rw [e,fc]
theorem aok (n m:Nat)(x y:Nat→Rat):kZ (sX n m) n m x y=0:=by
 unfold kZ;refine tk (e7 (g:=fun _=>0) (fun i aa=> ?_)) (p6 _);have e:(sX n m).getD i []=List.replicate m 0:=by simp [sX,List.getD,aa]
 rw [e,e7 (g:=fun _=>0) (fun j _=>by rw [Gg,oa]),p6,wc]
theorem Pp {t:aJ}(af:Valid t):vP (gY t) (a8 t 0) (a8 t 1):=Po _ (O3 _ _) (fun e he=>(y5 af 0 (pj he).1).2)
theorem ang {t:aJ}(af:Valid t)(aM:fC t 0=true)(U:fC t 1=true)(a b:Int→List Rat): ∀j,j<t.length→
 (cA t (hh t a b)).getD j 0=(cA t (ih t)).getD j 0*(gv t 1 b).getD (pB t 1 j) 0*(gv t 0 a).getD (pB t 0 j) 0:=by
 intro j ae;have aE:cA t (hh t a b)=cA t (mj t 0 a (lS t 0 b)):=(I9 (fun i aa=>(Lf af a b i aa).symm) _ (bN _))
 have aF:cA t (lS t 0 b)=cA t (mj t 1 b (ih t)):=I9 (fun i aa=>by
  unfold lS mj ih;by_cases h:own 1 (t.getD i aN)=true
  ·obtain ⟨U,ab⟩:=sP.1 h;rw [aB h,aw J,aB U,aw J]
  ·rw [aw h];split
   ·rfl
   ·split
    ·rename_i U ab;have ay: ¬(t.getD i aN).gI=1:=fun e=>h (sP.2 ⟨ab,e⟩);rw [aB (by have:=At af aa ab;omega)]
    ·rfl) _ (bN _)
 rw [aE,N1 af aM a (F0 t 0 b) j ae,aF,N1 af U b (fun i aa ai=>by
  unfold ih;rw [aw (by have:=(sP.1 ai).1;omega)]) j ae]
 rfl
theorem NS {t:aJ}(af:Valid t)(aM:fC t 0=true)(U:fC t 1=true)(a b:Int→List Rat):
 eo t (hh t a b)=kZ (gY t) (a8 t 0) (a8 t 1) (fun k=>(gv t 0 a).getD k 0) (fun k=>(gv t 1 b).getD k 0):=by unfold gY;have h:=Xe (pa:=pB t 0) (kO:=pB t 1) (v:=iK t (cA t (ih t))) (fun k=>(gv t 0 a).getD k 0) (fun k=>(gv t 1 b).getD k 0) (cH t) (O3 (a8 t 0) (a8 t 1)) (fun e he=>⟨(y5 af 0 (pj he).1).2,(y5 af 1 (pj he).1).2⟩);rw [h,aok,kI];unfold eo;congr 1;refine k8 (fun e he=> ?_);unfold iK;rw [ang af aM U a b e (pj he).1];grind
theorem AN (a:Nat)(y:Rat): ∀{n:Nat},b2 (fun i=>if i=a then y else 0) n=if a<n then y else 0
 |0=>rfl
 |n+1=>by
  show b2 (fun i=>if i=a then y else 0) n+(if n=a then y else 0)=_;rw [AN a y];by_cases U:n=a
  ·rw [aw J,aB U,aB J];exact kI y
  ·rw [aw U,jX];by_cases ab:a<n
   ·rw [aB ab,aB J]
   ·rw [aw ab,aw J]
theorem akD (f:Nat→Rat){s w n:Nat}(h:s+w≤n):b2 (fun j=>if s≤j∧j<s+w then f j else 0) n=b2 (fun c=>f (s+c)) w:=by
 obtain ⟨r,rfl⟩: ∃r,n=s+w+r:=⟨n-(s+w),J⟩
 rw [xl _ (s+w) r,xl _ s w];rw [e7 (n:=s) (g:=fun _=>0) (fun j ae=>aw J),p6,e7 (n:=r) (g:=fun _=>0) (fun j ae=>aw J),p6,kI,jX];exact e7 (fun c av=>aB J)
theorem Om (f:Nat→Rat): ∀e,b2 f (2*e)=b2 (fun c=>f (2*c)+f (2*c+1)) e
 |0=>rfl
 |e+1=>by
  show b2 f (2*e+1)+f (2*e+1)=b2 (fun c=>f (2*c)+f (2*c+1)) e+(f (2*e)+f (2*e+1))
  rw [←Om f e];show (b2 f (2*e)+f (2*e))+f (2*e+1)=_;rw [xP]
def cr (t:aJ)(p:Int):Nat:=1+(mi t p).length
def uh (t:aJ)(p:Int)(c:Nat):Int×Nat:=(mi t p).getD (c-1) (0,0)
def hF (t:aJ)(p:Int)(c j:Nat):Rat:=
 if c=0 then (if j=0 then 1 else 0)
 else if (uh t p c).2≤j∧j<(uh t p c).2+ca t p (uh t p c).1 then 1 else if j=vI t p (uh t p c).2 then-1 else 0
def r3 (c:Nat):Rat:=if c=0 then 1 else 0
section
variable {t:aJ}{p:Int}
theorem aaM (af:Valid t){c:Nat}(aM:c≠0)(av:c<cr t p): ∃x s b,uh t p c=(x,s)∧x∈b9 t p∧xz t p x s b:=by
 have aa:c-1<(mi t p).length:=by unfold cr at av;omega
 have hm:uh t p c∈mi t p:=dv (0,0) aa;have h:=hz.lY af p t.length (bN _);obtain ⟨x,s,ak⟩: ∃x s,uh t p c=(x,s):=⟨_,_,rfl⟩
 rw [ak] at hm;have al:x∈b9 t p:=(me af).2 ((h.keys x).1 (cS.2 ⟨(x,s),hm,rfl⟩));obtain ⟨ct,b,cf⟩:=xr af al;have:=F9 h.eY hm cf.mem rfl;have az:s=ct:=congrArg Prod.snd this;subst az;exact ⟨x,s,b,ak,al,cf⟩
theorem YT (af:Valid t){x:Int}(al:x∈b9 t p): ∃c s b,c≠0∧c<cr t p∧uh t p c=(x,s)∧xz t p x s b:=by
 obtain ⟨s,b,cf⟩:=xr af al;obtain ⟨i,aa,he⟩:=List.mem_iff_getElem.1 cf.mem;refine ⟨i+1,s,b,J,by unfold cr;show i+1<1+(de t p t.length).first.length;omega,?_,cf⟩;show (de t p t.length).first.getD i (0,0)=_
 simp [List.getD,aa,he]
theorem OK (af:Valid t)(W:Nat→Rat):b2 (fun j=>hF t p 0 j*W j) (a8 t p)=W 0:=by
 obtain ⟨_,_,ab,_⟩:=sF af p;rw [e7 (g:=fun j=>if j=0 then W 0 else 0) (fun j ae=> ?_),AN,aB ab];unfold hF;rw [aB rfl];by_cases e:j=0
 ·subst e;rw [aB rfl,aB rfl,pN]
 ·rw [aw e,aw e,oa]
theorem Pf {c:Nat}(aM:c≠0){x:Int}{s b:Nat}(ak:uh t p c=(x,s))(h:xz t p x s b)(W:Nat→Rat):
 b2 (fun j=>hF t p c j*W j) (a8 t p)=b2 (fun k=>W (s+k)) (ca t p x)-W b:=by
 have So:=h.fin;have bG:=h.lt;have e: ∀j,j<a8 t p→hF t p c j*W j=(if s≤j∧j<s+ca t p x then W j else 0)+(if j=b then-(W b) else 0):=fun j ae=>by
  unfold hF;rw [aw aM,ak,h.uF];show (if s≤j∧j<s+ca t p x then (1:Rat) else if j=b then-1 else 0)*W j=_;by_cases aE:s≤j∧j<s+ca t p x
  ·rw [aB aE,aB aE,aw J,pN,jX]
  ·rw [aw aE,aw aE,kI];by_cases aF:j=b
   ·subst aF;rw [aB rfl,aB rfl,Rat.neg_mul,pN]
   ·rw [aw aF,aw aF,oa]
 rw [e7 e,vr,akD W So,AN,aB (by show b<(bW t p).length;omega),Rat.sub_eq_add_neg]
theorem aow (af:Valid t){W:Nat→Rat}(h:n3 t p W){c:Nat}(av:c<cr t p):b2 (fun j=>hF t p c j*W j) (a8 t p)=r3 c:=by
 unfold r3;by_cases e:c=0
 ·subst e;rw [OK af,aB rfl,h.root]
 ·rw [aw e];obtain ⟨x,s,b,U,ab,ay⟩:=aaM af e av;rw [Pf e U ay];have:=h.sum x ab;rw [ay.start,ay.uF] at this;rw [this];grind
theorem Wt (af:Valid t){W:Nat→Rat}(aG: ∀k,k<a8 t p→0≤W k)(h: ∀c,c<cr t p→b2 (fun j=>hF t p c j*W j) (a8 t p)=r3 c):n3 t p W:=by
 refine ⟨?_,aG,fun x al=> ?_⟩
 ·have:=h 0 (by unfold cr;omega);rw [OK af] at this;exact this
 ·obtain ⟨c,s,b,aM,U,ab,ay⟩:=YT af al;have:=h c U;rw [Pf aM ab ay] at this;rw [ay.start,ay.uF];unfold r3 at this;rw [aw aM] at this;grind
theorem Wu (af:Valid t){W:Nat→Rat}(aG: ∀k,k<a8 t p→0≤W k)(h: ∀c,c<cr t p→b2 (fun j=>hF t p c j*W j) (a8 t p)=0): ∀k,k<a8 t p→W k=0:=by
 intro k;induction k using Nat.strongRecOn with
 |ind k a6=>
  intro an;by_cases e:k=0
  ·subst e;have:=h 0 (by unfold cr;omega);rw [OK af] at this;exact this
  ·have ad:=hz.lY af p t.length (bN _);obtain ⟨y,a1,iU,jh⟩:=ad.all k J an;have al:y.1∈b9 t p:=(me af).2 ((ad.keys y.1).1 (cS.2 ⟨y,a1,rfl⟩));obtain ⟨c,s,b,aM,U,ab,ay⟩:=YT af al;have az:=congrArg Prod.snd (F9 ad.eY a1 ay.mem rfl);have az:y.2=s:=az;rw [az] at iU jh;have:=h c U;rw [Pf aM ab ay,a6 b (by have:=ay.lt;omega) (by have:=ay.lt;have:=ay.fin;show b<(bW t p).length;omega)] at this;have bc:b2 (fun k=>W (s+k)) (ca t p y.1)=0:=by grind
   have bI:=Yx (f:=fun k=>W (s+k)) (g:=fun _=>0) (fun c av=>aG _ (by have:=ay.fin;show s+c<(bW t p).length;omega)) bc (m:=k-s) J;have bI:W (s+(k-s))=0:=bI
   rwa [show s+(k-s)=k by omega] at bI
end
def qN (r:Nat):Rat:=if r%2=0 then 1 else-1
def q3 (t:aJ)(j:Nat):List Rat:=(List.range (a8 t 0+2*cr t 1)).map (fun i=>if i<a8 t 0 then-(((gY t).getD i []).getD j 0) else if i<a8 t 0+cr t 1 then hF t 1 (i-a8 t 0) j else-(hF t 1 (i-a8 t 0-cr t 1) j))
def sV (t:aJ)(r:Nat):List Rat:=(List.range (a8 t 0+2*cr t 1)).map (fun i=>if i<a8 t 0 then qN r*hF t 0 (r/2) i else 0)
def c0 (t:aJ):Prog:=
 ⟨(List.range (a8 t 1)).map (q3 t)++(List.range (2*cr t 0)).map (sV t),List.replicate (a8 t 1) 0++(List.range (2*cr t 0)).map (fun r=>qN r*r3 (r/2)),(List.range (a8 t 0+2*cr t 1)).map (fun i=>if i=a8 t 0 then 1 else if i=a8 t 0+cr t 1 then-1 else 0)⟩
section
variable {t:aJ}
theorem GC (t:aJ):(c0 t).n=a8 t 0+2*cr t 1:=by show (List.map _ _).length=_;rw [cW,gN]
theorem GB (t:aJ):(c0 t).m=a8 t 1+2*cr t 0:=by show (_++List.map _ _).length=_;rw [di,fc,cW,gN]
theorem Dm (t:aJ):(c0 t).hJ:=by
 refine ⟨?_,fun r ad=> ?_⟩
 ·show (List.map _ _++List.map _ _).length=(c0 t).m;rw [GB,di,cW,cW,gN,gN]
 ·show _=(c0 t).n;rw [GC];rcases gM.1 ad with h|h
  ·obtain ⟨j,_,rfl⟩:=cS.1 h;unfold q3;rw [cW,gN]
  ·obtain ⟨j,_,rfl⟩:=cS.1 h;unfold sV;rw [cW,gN]
theorem T1 {j:Nat}(ae:j<a8 t 1):(c0 t).A.getD j []=q3 t j:=by show (List.map (q3 t) _++_).getD j []=_;rw [uc [] (by rw [cW,gN];exact ae)];exact sI ae
theorem T2 {r:Nat}(ad:r<2*cr t 0):(c0 t).A.getD (a8 t 1+r) []=sV t r:=by show (List.map (q3 t) (List.range (a8 t 1))++List.map (sV t) (List.range (2*cr t 0))).getD (a8 t 1+r) []=_;rw [wh,jV (by rw [cW,gN];omega),cW,gN,xF,←wh];exact sI ad
theorem C6 {i j:Nat}(aa:i<a8 t 0+2*cr t 1):(q3 t j).getD i 0=if i<a8 t 0 then-(((gY t).getD i []).getD j 0) else if i<a8 t 0+cr t 1 then hF t 1 (i-a8 t 0) j else-(hF t 1 (i-a8 t 0-cr t 1) j):=sI aa
theorem F2 {i r:Nat}(aa:i<a8 t 0+2*cr t 1):(sV t r).getD i 0=if i<a8 t 0 then qN r*hF t 0 (r/2) i else 0:=sI aa
def tJ (t:aJ)(X:List Rat)(c:Nat):Rat:=X.getD (a8 t 0+c) 0-X.getD (a8 t 0+cr t 1+c) 0
def u4 (t:aJ)(Y:List Rat)(c:Nat):Rat:=Y.getD (a8 t 1+2*c) 0-Y.getD (a8 t 1+(2*c+1)) 0
theorem XT {j:Nat}(ae:j<a8 t 1)(X:List Rat):h9 ((c0 t).A.getD j []) X=b2 (fun c=>hF t 1 c j*tJ t X c) (cr t 1)-b2 (fun i=>((gY t).getD i []).getD j 0*X.getD i 0) (a8 t 0):=by
 rw [T1 ae,vp (n:=a8 t 0+2*cr t 1) (by unfold q3;rw [cW,gN])];rw [show a8 t 0+2*cr t 1=a8 t 0+cr t 1+cr t 1 by omega,xl _ (a8 t 0+cr t 1),xl _ (a8 t 0)];have aE:b2 (fun i=>(q3 t j).getD i 0*X.getD i 0) (a8 t 0)= -(b2 (fun i=>((gY t).getD i []).getD j 0*X.getD i 0) (a8 t 0)):=by rw [←PQ];exact e7 (fun i aa=>by rw [C6 J,aB aa,Rat.neg_mul])
 have aF:b2 (fun c=>(q3 t j).getD (a8 t 0+c) 0*X.getD (a8 t 0+c) 0) (cr t 1)+b2 (fun c=>(q3 t j).getD (a8 t 0+cr t 1+c) 0*X.getD (a8 t 0+cr t 1+c) 0) (cr t 1)=b2 (fun c=>hF t 1 c j*tJ t X c) (cr t 1):=by rw [←vr];refine e7 (fun c av=> ?_);rw [C6 J,aw J,aB J,C6 J,aw J,aw J,show a8 t 0+c-a8 t 0=c by omega,show a8 t 0+cr t 1+c-a8 t 0-cr t 1=c by omega];unfold tJ;grind
 rw [aE,←aF];grind
theorem J2 {r:Nat}(ad:r<2*cr t 0)(X:List Rat):h9 ((c0 t).A.getD (a8 t 1+r) []) X=qN r*b2 (fun i=>hF t 0 (r/2) i*X.getD i 0) (a8 t 0):=by rw [T2 ad,vp (n:=a8 t 0+2*cr t 1) (by unfold sV;rw [cW,gN]),xl _ (a8 t 0)];rw [e7 (n:=2*cr t 1) (g:=fun _=>0) (fun c av=>by rw [F2 J,aw J,oa]),p6,jX,←tY];exact e7 (fun i aa=>by rw [F2 J,aB aa];grind)
theorem Kw (c:Nat):qN (2*c)=1:=aB J
theorem KR (c:Nat):qN (2*c+1)= -1:=aw J
theorem OF (i:Nat)(Y:List Rat):h9 (r4 (c0 t).A i) Y=b2 (fun j=>(q3 t j).getD i 0*Y.getD j 0) (a8 t 1)+b2 (fun r=>(sV t r).getD i 0*Y.getD (a8 t 1+r) 0) (2*cr t 0):=by
 rw [vp (n:=a8 t 1+2*cr t 0) (by rw [XK];exact (Dm t).rows.trans (GB t)),xl _ (a8 t 1)];congr 1
 ·exact e7 (fun j ae=>by rw [Pd,T1 ae])
 ·exact e7 (fun r ad=>by rw [Pd,T2 ad])
theorem XS {i:Nat}(aa:i<a8 t 0)(Y:List Rat):h9 (r4 (c0 t).A i) Y=b2 (fun c=>hF t 0 c i*u4 t Y c) (cr t 0)-b2 (fun j=>((gY t).getD i []).getD j 0*Y.getD j 0) (a8 t 1):=by
 rw [OF,Om];have aE:b2 (fun j=>(q3 t j).getD i 0*Y.getD j 0) (a8 t 1)= -(b2 (fun j=>((gY t).getD i []).getD j 0*Y.getD j 0) (a8 t 1)):=by rw [←PQ];exact e7 (fun j ae=>by rw [C6 J,aB aa,Rat.neg_mul])
 have aF:b2 (fun c=>(sV t (2*c)).getD i 0*Y.getD (a8 t 1+2*c) 0+(sV t (2*c+1)).getD i 0*Y.getD (a8 t 1+(2*c+1)) 0) (cr t 0)=b2 (fun c=>hF t 0 c i*u4 t Y c) (cr t 0):=by refine e7 (fun c av=> ?_);rw [F2 J,F2 J,aB aa,aB aa,Kw,KR,show 2*c/2=c by omega,show (2*c+1)/2=c by omega];unfold u4;grind
 rw [aE,aF];grind
theorem XR {c:Nat}(av:c<cr t 1)(Y:List Rat):h9 (r4 (c0 t).A (a8 t 0+c)) Y=b2 (fun j=>hF t 1 c j*Y.getD j 0) (a8 t 1)∧h9 (r4 (c0 t).A (a8 t 0+cr t 1+c)) Y= -(b2 (fun j=>hF t 1 c j*Y.getD j 0) (a8 t 1)):=by
 have Rw: ∀i,a8 t 0≤i→i<a8 t 0+2*cr t 1→b2 (fun r=>(sV t r).getD i 0*Y.getD (a8 t 1+r) 0) (2*cr t 0)=0:=fun i U ab=>by rw [e7 (g:=fun _=>0) (fun r ad=>by rw [F2 ab,aw J,oa]),p6]
 refine ⟨?_,?_⟩
 ·rw [OF,Rw _ J J,jX];exact e7 (fun j ae=>by rw [C6 J,aw J,aB J,show a8 t 0+c-a8 t 0=c by omega])
 ·rw [OF,Rw _ J J,jX,←PQ];exact e7 (fun j ae=>by rw [C6 J,aw J,aw J,show a8 t 0+cr t 1+c-a8 t 0-cr t 1=c by omega,Rat.neg_mul])
theorem Gj (t:aJ)(p:Int):0<cr t p:=by unfold cr;omega
theorem G6 {i:Nat}(aa:i<a8 t 0+2*cr t 1):(c0 t).C.getD i 0=if i=a8 t 0 then 1 else if i=a8 t 0+cr t 1 then-1 else 0:=sI aa
theorem Q9 (X:List Rat):h9 (c0 t).C X=tJ t X 0:=by
 have an:=Gj t 1;rw [vp (n:=a8 t 0+2*cr t 1) (GC t)];rw [e7 (g:=fun i=>(if i=a8 t 0 then X.getD (a8 t 0) 0 else 0)+(if i=a8 t 0+cr t 1 then-(X.getD (a8 t 0+cr t 1) 0) else 0)) (fun i aa=> ?_),vr,AN,AN,aB J,aB J]
 ·unfold tJ;rw [fg,fg,Rat.sub_eq_add_neg]
 ·rw [G6 aa];by_cases aE:i=a8 t 0
  ·rw [aB aE,aB aE,aw J,aE];grind
  ·by_cases aF:i=a8 t 0+cr t 1
   ·rw [aw aE,aB aF,aw aE,aB aF,aF];grind
   ·rw [aw aE,aw aF,aw aE,aw aF];grind
theorem QW {j:Nat}(ae:j<a8 t 1):(c0 t).B.getD j 0=0:=by show (List.replicate (a8 t 1) 0++_).getD j 0=_;rw [uc 0 (by rw [fc];exact ae)];exact Gg _ _
theorem KG {r:Nat}(ad:r<2*cr t 0):(c0 t).B.getD (a8 t 1+r) 0=qN r*r3 (r/2):=by show (List.replicate (a8 t 1) (0:Rat)++List.map (fun r=>qN r*r3 (r/2)) (List.range (2*cr t 0))).getD (a8 t 1+r) 0=_;rw [wh,jV (by rw [fc];omega),fc,xF,←wh];exact sI ad
theorem QV (Y:List Rat):h9 (c0 t).B Y=u4 t Y 0:=by
 have an:=Gj t 0;rw [vp (n:=a8 t 1+2*cr t 0) (GB t),xl _ (a8 t 1),e7 (n:=a8 t 1) (g:=fun _=>0) (fun j ae=>by rw [QW ae,oa]),p6,kI,Om];rw [e7 (g:=fun c=>if c=0 then u4 t Y 0 else 0) (fun c av=> ?_),AN,aB an];rw [KG J,KG J,Kw,KR,show 2*c/2=c by omega,show (2*c+1)/2=c by omega];unfold r3;by_cases e:c=0
 ·subst e;rw [aB rfl,aB rfl];unfold u4;grind
 ·rw [aw e,aw e];grind
theorem aoJ (p:Int)(P W:Nat→Rat)(t:aJ):b2 (fun j=>W j*b2 (fun c=>hF t p c j*P c) (cr t p)) (a8 t p)=b2 (fun c=>P c*b2 (fun j=>hF t p c j*W j) (a8 t p)) (cr t p):=by rw [e7 (g:=fun j=>b2 (fun c=>W j*(hF t p c j*P c)) (cr t p)) (fun j _=>(tY _ _ _).symm),OU];refine e7 (fun c _=> ?_);rw [←tY];exact e7 (fun j _=>by grind)
theorem J7 (af:Valid t){p:Int}{W:Nat→Rat}(h:n3 t p W)(P:Nat→Rat):b2 (fun j=>W j*b2 (fun c=>hF t p c j*P c) (cr t p)) (a8 t p)=P 0:=by
 rw [aoJ,e7 (g:=fun c=>if c=0 then P 0 else 0) (fun c av=> ?_),AN,aB (Gj t p)];rw [aow af h av];unfold r3;by_cases e:c=0
 ·subst e;rw [aB rfl,aB rfl,zw]
 ·rw [aw e,aw e,wc]
theorem aoY (T:List (List Rat))(n m:Nat)(x y:Nat→Rat):kZ T n m x y=b2 (fun j=>y j*b2 (fun i=>(T.getD i []).getD j 0*x i) n) m:=by unfold kZ;rw [e7 (g:=fun i=>b2 (fun j=>x i*((T.getD i []).getD j 0*y j)) m) (fun i _=>(tY _ _ _).symm),OU];refine e7 (fun j _=> ?_);rw [←tY];exact e7 (fun i _=>by grind)
structure vQ (t:aJ)(v:Rat)(x y:Nat→Rat):Prop where
 mx:n3 t 0 x
 x0:n3 t 1 y
 Tv: ∀x',n3 t 0 x'→kZ (gY t) (a8 t 0) (a8 t 1) x' y≤v
 least: ∀w3,n3 t 1 w3→v≤kZ (gY t) (a8 t 0) (a8 t 1) x w3
theorem ajJ (af:Valid t){w2 sE:Nat→Rat}(RD:n3 t 0 w2)(RE:n3 t 1 sE){r:DH}(g:cL.Good (c0 t) r):
 r.kind=0∧r.X.length=a8 t 0+2*cr t 1∧r.Y.length=a8 t 1+2*cr t 0∧vQ t r.V (fun k=>r.X.getD k 0) (fun k=>r.Y.getD k 0):=by
 have tq:=GC t;have em:=GB t;have ru:=Gj t 0;have pY:=Gj t 1;cases g with
 | @Bq X Y V al a1 NA Fe nC tN eH yA=>
  rw [tq] at al NA tN;rw [em] at a1 Fe nC;rw [Q9] at eH;rw [QV] at yA;have mx:n3 t 0 (fun k=>X.getD k 0):=Wt af (fun k an=>NA k J) (fun c av=>by
   have U:=nC (a8 t 1+2*c) J;have ab:=nC (a8 t 1+(2*c+1)) J;rw [J2 J,KG J,Kw,show 2*c/2=c by omega] at U;rw [J2 J,KG J,KR,show (2*c+1)/2=c by omega] at ab;refine qx (by grind) (by grind))
  have x0:n3 t 1 (fun k=>Y.getD k 0):=Wt af (fun k an=>Fe k J) (fun c av=>by
   have U:=tN (a8 t 0+c) J;have ab:=tN (a8 t 0+cr t 1+c) J;obtain ⟨d1,d2⟩:=XR av Y;rw [d1,G6 J] at U;rw [d2,G6 J,aw J] at ab;unfold r3;by_cases e:c=0
   ·subst e;rw [aB J] at U ab;rw [aB rfl];refine qx (by grind) U
   ·rw [aw J,aw J] at U;rw [aw J] at ab;rw [aw e];refine qx (by grind) U)
  refine ⟨I,al,a1,⟨mx,x0,fun x' B4=> ?_,fun w3 S9=> ?_⟩⟩
  ·show kZ _ _ _ x' (fun k=>Y.getD k 0)≤V;rw [←yA,←J7 af B4 (u4 t Y)];unfold kZ;refine KA (fun i aa=> ?_);have U:=tN i J;rw [XS aa,G6 J,aw J,aw J] at U;have ab:=Pr (B4.mC i aa) (show b2 (fun j=>((gY t).getD i []).getD j 0*Y.getD j 0) (a8 t 1)≤b2 (fun c=>hF t 0 c i*u4 t Y c) (cr t 0) by grind);rw [nA,nA (x' i)];exact ab
  ·show V≤kZ _ _ _ (fun k=>X.getD k 0) w3;rw [←eH,←J7 af S9 (tJ t X),aoY];refine KA (fun j ae=> ?_);have U:=nC j J;rw [XT ae,QW ae] at U;have ab:=Pr (S9.mC j ae) (show b2 (fun c=>hF t 1 c j*tJ t X c) (cr t 1)≤b2 (fun i=>((gY t).getD i []).getD j 0*X.getD i 0) (a8 t 0) by grind);rw [nA,nA (w3 j)];exact ab
 | @none Y hm a1 Fe tN yA=>
  exfalso;rw [tq] at tN;rw [em] at a1 Fe;rw [QV] at yA;have bB:=Wu (p:=1) af (W:=fun k=>Y.getD k 0) (fun k an=>Fe k J) (fun c av=>by
   have U:=tN (a8 t 0+c) J;have ab:=tN (a8 t 0+cr t 1+c) J;obtain ⟨d1,d2⟩:=XR av Y;rw [d1] at U;rw [d2] at ab;exact qx (by grind) U)
  have ay:0≤u4 t Y 0:=by rw [←J7 af RD (u4 t Y)];refine NR (fun i aa=>wg (RD.mC i aa) ?_);have U:=tN i J;rw [XS aa,e7 (n:=a8 t 1) (g:=fun _=>0) (fun j ae=>by rw [bB j ae,wc]),p6] at U;grind
  exact Rat.not_le.2 yA ay
 | @free X R aG al ad NA cU nC DY dB=>
  exfalso;rw [tq] at ad cU;rw [em] at DY;rw [Q9] at dB;have bB:=Wu (p:=0) af (W:=fun k=>R.getD k 0) (fun k an=>cU k J) (fun c av=>by
   have U:=DY (a8 t 1+2*c) J;have ab:=DY (a8 t 1+(2*c+1)) J;rw [J2 J,Kw,show 2*c/2=c by omega] at U;rw [J2 J,KR,show (2*c+1)/2=c by omega] at ab;refine qx (by grind) (by grind))
  have ay:tJ t R 0≤0:=by
   rw [←J7 af RE (tJ t R)];have bc:b2 (fun j=>sE j*b2 (fun c=>hF t 1 c j*tJ t R c) (cr t 1)) (a8 t 1)≤b2 (fun _=>0) (a8 t 1):=KA (fun j ae=>by
    have U:=DY j J;rw [XT ae,e7 (n:=a8 t 0) (g:=fun _=>0) (fun i aa=>by rw [bB i aa,wc]),p6] at U;have ab:=Pr (RE.mC j ae) (show b2 (fun c=>hF t 1 c j*tJ t R c) (cr t 1)≤0 by grind);rw [oa] at ab;rw [nA];exact ab)
   rwa [p6] at bc
  exact Rat.not_le.2 dB ay
end
end Go.aj.k4
namespace Go.aj.k4
open Go.aj.dR Go.aj.cQ Go.aj.dh Go.aj.cL
theorem vQ.val {t:aJ}{v:Rat}{x y:Nat→Rat}(h:vQ t v x y):kZ (gY t) (a8 t 0) (a8 t 1) x y=v:=qx (h.Tv x h.mx) (h.least y h.x0)
section
variable {t u:aJ}
end
section
variable {t u:aJ}
end
theorem vQ.akA {t:aJ}(af:Valid t)(aM:fC t 0=true)(U:fC t 1=true){v:Rat}{x y:Nat→Rat}(dx:vQ t v x y){a b:Int→List Rat}(aW: ∀k,k<a8 t 0→(gv t 0 a).getD k 0=x k)(ak: ∀k,k<a8 t 1→(gv t 1 b).getD k 0=y k):
 eo t (hh t a b)=v∧(∀ly,oL t 0 ly→eo t (hh t ly b)≤v)∧(∀b',oL t 1 b'→v≤eo t (hh t a b')):=by
 have Lj: ∀{x x' y w3:Nat→Rat},(∀k,k<a8 t 0→x k=x' k)→(∀k,k<a8 t 1→y k=w3 k)→kZ (gY t) (a8 t 0) (a8 t 1) x y=kZ (gY t) (a8 t 0) (a8 t 1) x' w3:=fun U ab=>by unfold kZ;refine e7 (fun i aa=> ?_);rw [U i aa];congr 1;exact e7 (fun j ae=>by rw [ab j ae])
 refine ⟨?_,fun ly Ek=> ?_,fun b' ez=> ?_⟩
 ·rw [NS af aM U,Lj aW ak,dx.val]
 ·rw [NS af aM U,Lj (fun k _=>rfl) ak];exact dx.Tv _ (Ou af Ek)
 ·rw [NS af aM U,Lj aW (fun k _=>rfl)];exact dx.least _ (Ou af ez)
end Go.aj.k4
namespace Go.aj.xC
open Go.aj.dR Go.aj.cQ Go.aj.dh Go.aj.cL
structure ZY (M:List (List Rat))(w:Nat)(v:Rat)(x y:List Rat):Prop where
 arF:x.length=M.length
 arG:y.length=w
 w2: ∀i,i<M.length→0≤x.getD i 0
 sE: ∀j,j<w→0≤y.getD j 0
 xs:b2 (fun i=>x.getD i 0) M.length=1
 w5:b2 (fun j=>y.getD j 0) w=1
 up: ∀i,i<M.length→h9 (M.getD i []) y≤v
 js: ∀j,j<w→v≤h9 (r4 M j) x
section
variable {M:List (List Rat)}{w:Nat}{v qP:Rat}{x y x' w3:List Rat}
end
def ahj (a:Rat)(l:List Rat):Rat:=l.foldl (fun a q=>if um q a<0 then q else a) a
def ahk (M:List (List Rat)):Rat:=M.foldl ahj ((M.getD 0 []).getD 0 0)
def QQ (M:List (List Rat)):Rat:=1-ahk M
def acZ (M:List (List Rat))(w:Nat):Prog:=⟨M.map (fun r=>r.map (fun q=>q+QQ M)),List.replicate M.length 1,List.replicate w 1⟩
def y7 (M:List (List Rat))(w K L:Nat):Rat×List Rat×List Rat:=
 let r:=ed (acZ M w) K L
 (1/r.V-QQ M,r.Y.map (fun q=>q/r.V),r.X.map (fun q=>q/r.V))
section
variable {M:List (List Rat)}{w:Nat}
end
section
variable {M:List (List Rat)}{w:Nat}{v:Rat}{x y:List Rat}
end
def skip (i j:Nat):Nat:=if j<i then j else j+1
section
variable {M:List (List Rat)}{w:Nat}{v:Rat}{x y:List Rat}
end
end Go.aj.xC
namespace Go.aj.xC
open Go.aj.dR Go.aj.cQ Go.aj.dh Go.aj.cL
theorem ahX {dp:List Rat}(aG:dp.length≤256)(aR: ∀q∈dp,eB q=true)(az:(mn 0 dp).2=0)(aM: ∀q∈dp,0≤q)(U:ec 0 dp=1):iI (dp.map cq)=0:=by
 have v1:(dp.map cq).map dk=dp:=by
  rw [tg]
  conv=>rhs;rw [←zv dp]
  exact k8 (fun q aA=>(ue (aR q aA)).2)
 have v2:lu (dp.map cq)=0:=Kg (fun s az=>by
  obtain ⟨q,aA,rfl⟩:=cS.1 az;exact (ue (aR q aA)).1)
 have v3:nv (dp.map cq)=(1,0):=by unfold nv;rw [aw (by rw [cW];omega),aB v2,v1];have:=OW dp 0 az;rw [U] at this;exact Prod.ext this az
 have v4:(dp.map cq).any iL=false:=by rw [uB];intro s hf;obtain ⟨q,aA,rfl⟩:=cS.1 hf;have e:=ue (aR q aA);have:=(JC e.1).2 (by rw [e.2];exact aM q aA);simp [this]
 unfold iI wX;rw [v3,v4];rfl
section
variable {M:List (List Rat)}{w:Nat}
structure Small (M:List (List Rat))(w K L:Nat):Prop where
 arB:ZY M w (y7 M w K L).1 (y7 M w K L).2.1 (y7 M w K L).2.2
 v:D 1300 (y7 M w K L).1
 r: ∀q∈(y7 M w K L).2.1,D 1320 q
 c: ∀q∈(y7 M w K L).2.2,D 1320 q
 rs:iI ((y7 M w K L).2.1.map cq)=0
 cs:iI ((y7 M w K L).2.2.map cq)=0
end
end Go.aj.xC
namespace Go.aj.xC
open Go.aj.dR Go.aj.cQ Go.aj.dh Go.aj.cL
theorem QX {l:List Rat}(h: ∀q∈l,eB q=true):(l.map cq).map dk=l:=by
 rw [tg]
 conv=>rhs;rw [←zv l]
 exact k8 (fun q aA=>(ue (h q aA)).2)
end Go.aj.xC
namespace Go.aj.k4
open Go.aj.dR Go.aj.cQ Go.aj.dh Go.aj.cL
def oH (t:aJ):Int:=
 if nu t≠0 then nu t else if¬(fC t 0=true∧fC t 1=true) then 10
 else if 13<a8 t 0∨6<(b9 t 0).length∨13<a8 t 1∨6<(b9 t 1).length then 2 else 0
structure Fit (t:aJ):Prop where
 v:Valid t
 e:nu t=0
 kn:fC t 0=true
 c4:fC t 1=true
 cp:a8 t 0≤13
 sz:a8 t 1≤13
 i0:(b9 t 0).length≤6
 i1:(b9 t 1).length≤6
theorem Dt {t:aJ}(h:oH t=0):Fit t:=by
 unfold oH at h;split at h
 ·rename_i U;exact absurd h U
 split at h
 ·cases h
 split at h
 ·cases h
 rename_i U ab ay;have U:=hL.1 U;have ab:=hL.1 ab;exact ⟨Ke U,U,ab.1,ab.2,J,J,J,J⟩
def y1 (t:aJ)(p:Int)(W:Nat→Rat):List (Int×List Rat):=(b9 t p).map (fun x=>(x,gX t p W x))
def kW (t:aJ)(p:Int)(W:Nat→Rat):df:=(y1 t p W).map (fun x=>⟨x.1,x.2.map cq⟩)
def qa (t:aJ)(p:Int)(W:Nat→Rat):Bool:=(y1 t p W).all (fun x=>x.2.all eB)
abbrev QM:=dP×df×df
def cV (t:aJ)(K L:Nat):QM×Int:=
 if oH t≠0 then (([],[],[]),oH t)
 else if eB (ed (c0 t) K L).V=true∧qa t 0 (fun k=>(ed (c0 t) K L).X.getD k 0)=true∧qa t 1 (fun k=>(ed (c0 t) K L).Y.getD k 0)=true then
  ((cq (ed (c0 t) K L).V,kW t 0 (fun k=>(ed (c0 t) K L).X.getD k 0),kW t 1 (fun k=>(ed (c0 t) K L).Y.getD k 0)),0)
 else (([],[],[]),2)
theorem Ye {t:aJ}(af:Valid t)(p:Int): ∃W,n3 t p W:=⟨_,Ou af (Fq af p (ih t)).mix⟩
theorem W2 {t:aJ}(h:Fit t){K L:Nat}(az:vU (c0 t) K L):
 (ed (c0 t) K L).kind=0∧(ed (c0 t) K L).X.length=a8 t 0+2*cr t 1∧(ed (c0 t) K L).Y.length=a8 t 1+2*cr t 0∧vQ t (ed (c0 t) K L).V (fun k=>(ed (c0 t) K L).X.getD k 0) (fun k=>(ed (c0 t) K L).Y.getD k 0):=by obtain ⟨w2,f0⟩:=Ye h.v 0;obtain ⟨sE,f1⟩:=Ye h.v 1;exact ajJ h.v f0 f1 (ajF (Dm t) az)
theorem arI {t:aJ}(h:oH t=0)(K L:Nat):(cV t K L).2=2∨((cV t K L).2=0∧(cV t K L).1.1=cq (ed (c0 t) K L).V∧eB (ed (c0 t) K L).V=true):=by
 unfold cV;rw [aw (fun q=>q h)];split
 ·rename_i U;exact .inr ⟨rfl,rfl,U.1⟩
 ·exact .inl I
def Gs (t:aJ):List (List dP)×Int:=
 if oH t≠0 then ([],oH t) else if (gY t).all (fun r=>r.all eB)=true then ((gY t).map (fun r=>r.map cq),0) else ([],2)
theorem ZE: ∀(dp:List Rat) (a:Rat),(mn a dp).2=0∨(mn a dp).2=2
 |[],a=> .inl rfl
 |q::r,a=>by
  rw [mn];split
  ·exact ZE r _
  ·exact .inr I
theorem aia {dp:List Rat}(aG:dp.length≤256)(aR: ∀q∈dp,eB q=true)(aM: ∀q∈dp,0≤q)(U:ec 0 dp=1):iI (dp.map cq)=0∨iI (dp.map cq)=2:=by
 rcases ZE dp 0 with h|h
 ·exact .inl (xC.ahX aG aR h aM U)
 ·right;have v1:=xC.QX aR;have v2:lu (dp.map cq)=0:=Kg (fun s az=>by
   obtain ⟨q,aA,rfl⟩:=cS.1 az;exact (ue (aR q aA)).1)
  have v3:(nv (dp.map cq)).2=2:=by unfold nv;rw [aw (by rw [cW];omega),aB v2,v1];exact h
  unfold iI wX;rw [v3];rfl
def M8 (t:aJ)(p:Int)(W:Nat→Rat)(x:Int):hW:=⟨x,(gX t p W x).map cq⟩
theorem Fz (t:aJ)(p:Int)(W:Nat→Rat):kW t p W=(b9 t p).map (M8 t p W):=by unfold kW y1;rw [tg];rfl
theorem Ol {t:aJ}{p:Int}{W:Nat→Rat}(h:qa t p W=true): ∀x∈b9 t p,∀q∈gX t p W x,eB q=true:=fun x al q aA=>by unfold qa y1 at h;have:=se.1 h (x,gX t p W x) (cS.2 ⟨x,al,rfl⟩);exact se.1 this q aA
theorem V3 {bU Z:List Int}{mk:Int→hW}(lj: ∀x,(mk x).info=x): ∀(l:List Int) (k:Nat),(∀j,j<l.length→bU.getD (k+j) 0=l.getD j 0∧Z.getD (k+j) 0=(((mk (l.getD j 0)).c3.length:Nat):Int))→
 (∀x∈l,iI (mk x).c3=0∨iI (mk x).c3=2)→po bU Z k (l.map mk)=0∨po bU Z k (l.map mk)=2
 |[],k,_,_=> .inl rfl
 |x::r,k,h,ai=>by
  obtain ⟨U,ab⟩:=h 0 b1;have U:bU.getD k 0=x:=U;have ab:Z.getD k 0=(((mk x).c3.length:Nat):Int):=ab;rw [k9,po,aw (by
   rw [lj,U,ab];rintro (q|q)<;>exact q rfl)]
  rcases ai x (vZ ..) with q|q
  ·rw [aw (fun c=>c q)];exact V3 lj r (k+1) (fun j ae=>by
    have:=h (j+1) (by simpa using ae);rw [show k+(j+1)=k+1+j by omega] at this;exact this) (fun y a1=>ai y (uy _ a1))
  ·rw [aB (by rw [q];decide)];exact .inr q
theorem KH {t:aJ}(af:Valid t){p:Int}{W:Nat→Rat}(gO:n3 t p W)(aR:qa t p W=true)(hw: ∀x∈b9 t p,ca t p x≤6):ht t p (kW t p W)=0∨ht t p (kW t p W)=2:=by
 have hm:=JY af gO;have ss:=Ol aR;rw [Fz];unfold ht;rw [aw (fun q=>q (cW ..))];refine V3 (fun _=>rfl) _ 0 (fun j ae=> ?_) (fun x al=> ?_)
 ·have al:(b9 t p).getD j 0∈b9 t p:=dv 0 ae;rw [cR];refine ⟨I,?_⟩;unfold j3;rw [nk (fun i=>((ca t p i:Nat):Int)) _ 0 0 j ae];show _=((((gX t p W ((b9 t p).getD j 0)).map cq).length:Nat):Int)
  rw [cW,hm.len _ al]
 ·refine aia (by rw [hm.len x al];have:=hw x al;omega) (ss x al) (hm.mC x al) (hm.sum x al)
theorem Xz {t:aJ}(af:Valid t){p:Int}{W:Nat→Rat}(aR:qa t p W=true){x:Int}(al:x∈b9 t p):h8 (kW t p W) x=gX t p W x:=by
 have lk:((kW t p W).map hW.info).Nodup:=by
  rw [Fz,tg];have e:(b9 t p).map (hW.info∘M8 t p W)=b9 t p:=by
   conv=>rhs;rw [←zv (b9 t p)]
   exact k8 (fun _ _=>rfl)
  rw [e];exact Cy t p
 have:=Pw lk (c:=M8 t p W x) (by rw [Fz];exact cS.2 ⟨x,al,rfl⟩);have e:h8 (kW t p W) x=((gX t p W x).map cq).map dk:=this;rw [e,xC.QX (Ol aR x al)]
def D6 (t:aJ)(a b:df):Int:=if nu t≠0 then nu t else if ht t 0 a≠0 then ht t 0 a else if ht t 1 b≠0 then ht t 1 b else if fC t 0=true∧fC t 1=true then 0 else 10
def bq (t:aJ)(a b:df):Rat:=eo t (hh t (h8 a) (h8 b))
def D9 (t:aJ)(a b:df):Rat:=(mN t 0 (h8 b)-bq t a b)+(mN t 1 (h8 a)+bq t a b)
def Nw (t:aJ)(a b:df)(v:dP):Int:=
 if D6 t a b≠0 then D6 t a b else if hI v≠0 then hI v else if eB (bq t a b)=true then (if eB (D9 t a b)=true then (if cq (bq t a b)=v∧cq (D9 t a b)=[48] then 0 else 16) else 2) else 2
theorem vQ.Bq {t:aJ}(af:Valid t)(aM:fC t 0=true)(U:fC t 1=true){v:Rat}{x y:Nat→Rat}(dx:vQ t v x y){a b:Int→List Rat}(tG:oL t 0 a)(tH:oL t 1 b)(aW: ∀k,k<a8 t 0→(gv t 0 a).getD k 0=x k)(ak: ∀k,k<a8 t 1→(gv t 1 b).getD k 0=y k):eo t (hh t a b)=v∧mN t 0 b=v∧mN t 1 a= -v:=by
 obtain ⟨aE,aF,bO⟩:=dx.akA af aM U aW ak;refine ⟨aE,qx ?_ ?_,qx ?_ ?_⟩
 ·rw [GZ af aM];exact aF _ (Fq af 0 _).mix
 ·have:=ahC af aM tG b;rw [aE] at this;exact this
 ·rw [G0 af U];have:=bO _ (Fq af 1 (lS t 1 a)).mix;grind
 ·have:=ahD af U a tH;rw [aE] at this;exact this
structure Be (t:aJ)(K L:Nat):Prop where
 fit:Fit t
 v:hy (cV t K L).1.1 (ed (c0 t) K L).V
 xY:qa t 0 (fun k=>(ed (c0 t) K L).X.getD k 0)=true
 Hb:qa t 1 (fun k=>(ed (c0 t) K L).Y.getD k 0)=true
 a:(cV t K L).1.2.1=kW t 0 (fun k=>(ed (c0 t) K L).X.getD k 0)
 b:(cV t K L).1.2.2=kW t 1 (fun k=>(ed (c0 t) K L).Y.getD k 0)
 eql:vQ t (ed (c0 t) K L).V (fun k=>(ed (c0 t) K L).X.getD k 0) (fun k=>(ed (c0 t) K L).Y.getD k 0)
theorem akk {t:aJ}{K L:Nat}(az:oH t=0→vU (c0 t) K L)(h:(cV t K L).2=0):Be t K L:=by
 have aS:=h;unfold cV at h;split at h
 ·rename_i U;exact absurd h U
 rename_i U;have U:=hL.1 U;split at h
 ·rename_i ab;obtain ⟨f1,f2,f3⟩:=ab;have F:=Dt U;obtain ⟨_,_,_,dx⟩:=W2 F (az U);have e:cV t K L=((cq (ed (c0 t) K L).V,kW t 0 (fun k=>(ed (c0 t) K L).X.getD k 0),kW t 1 (fun k=>(ed (c0 t) K L).Y.getD k 0)),0):=by unfold cV;rw [aw (fun q=>q U),aB ⟨f1,f2,f3⟩]
  exact ⟨F,by rw [e];exact ue f1,f2,f3,by rw [e],by rw [e],dx⟩
 ·cases h
theorem Gi {t:aJ}(af:Valid t){p x:Int}(al:x∈b9 t p):ca t p x≤6:=by obtain ⟨j,ae,az⟩:=(me af).1 al;rw [qY af ae az];exact (Ob (af.nodes j ae)).2
theorem Be.Tu {t:aJ}{K L:Nat}(S:Be t K L):
 oL t 0 (h8 (cV t K L).1.2.1)∧oL t 1 (h8 (cV t K L).1.2.2)∧
 (∀k,k<a8 t 0→(gv t 0 (h8 (cV t K L).1.2.1)).getD k 0=(ed (c0 t) K L).X.getD k 0)∧(∀k,k<a8 t 1→(gv t 1 (h8 (cV t K L).1.2.2)).getD k 0=(ed (c0 t) K L).Y.getD k 0):=by
 have af:=S.fit.v;have l0: ∀x∈b9 t 0,h8 (cV t K L).1.2.1 x=gX t 0 (fun k=>(ed (c0 t) K L).X.getD k 0) x:=fun x al=>by rw [S.a];exact Xz af S.xY al
 have kK: ∀x∈b9 t 1,h8 (cV t K L).1.2.2 x=gX t 1 (fun k=>(ed (c0 t) K L).Y.getD k 0) x:=fun x al=>by rw [S.b];exact Xz af S.Hb al
 have tG:=JY af S.eql.mx;have tH:=JY af S.eql.x0;refine ⟨⟨fun x al=>by rw [l0 x al];exact tG.len x al,fun x al=>by rw [l0 x al];exact tG.sum x al,fun x al=>by rw [l0 x al];exact tG.mC x al⟩,⟨fun x al=>by rw [kK x al];exact tH.len x al,fun x al=>by rw [kK x al];exact tH.sum x al,fun x al=>by rw [kK x al];exact tH.mC x al⟩,fun k an=> ?_,fun k an=> ?_⟩
 ·rw [WR af l0 k an,Wo af S.eql.mx k an]
 ·rw [WR af kK k an,Wo af S.eql.x0 k an]
theorem arH {t:aJ}{K L:Nat}(S:Be t K L):Nw t (cV t K L).1.2.1 (cV t K L).1.2.2 (cV t K L).1.1=0∨Nw t (cV t K L).1.2.1 (cV t K L).1.2.2 (cV t K L).1.1=2:=by
 have F:=S.fit;obtain ⟨tG,tH,pa,kO⟩:=S.Tu;obtain ⟨aE,aF,bO⟩:=S.eql.Bq F.v F.kn F.c4 tG tH pa kO;have aW:ht t 0 (cV t K L).1.2.1=0∨ht t 0 (cV t K L).1.2.1=2:=by rw [S.a];exact KH F.v S.eql.mx S.xY (fun x al=>Gi F.v al)
 have ak:ht t 1 (cV t K L).1.2.2=0∨ht t 1 (cV t K L).1.2.2=2:=by rw [S.b];exact KH F.v S.eql.x0 S.Hb (fun x al=>Gi F.v al)
 have al:D6 t (cV t K L).1.2.1 (cV t K L).1.2.2=0∨D6 t (cV t K L).1.2.1 (cV t K L).1.2.2=2:=by
  unfold D6;rw [aw (fun q=>q F.e)];rcases aW with q|q
  ·rw [aw (fun c=>c q)];rcases ak with r|r
   ·rw [aw (fun c=>c r),aB ⟨F.kn,F.c4⟩];exact .inl rfl
   ·rw [aB (by rw [r];decide)];exact .inr r
  ·rw [aB (by rw [q];decide)];exact .inr q
 have wR:bq t (cV t K L).1.2.1 (cV t K L).1.2.2=(ed (c0 t) K L).V:=aE;have aeR:D9 t (cV t K L).1.2.1 (cV t K L).1.2.2=0:=by unfold D9;rw [wR,aF,bO];grind
 unfold Nw;rcases al with q|q
 ·rw [aw (fun c=>c q),aw (fun c=>c S.v.1)];by_cases f1:eB (bq t (cV t K L).1.2.1 (cV t K L).1.2.2)=true
  ·rw [aB f1];by_cases f2:eB (D9 t (cV t K L).1.2.1 (cV t K L).1.2.2)=true
   ·rw [aB f2,aB]
    ·exact .inl I
    ·refine ⟨?_,?_⟩
     ·rw [wR];exact S.v.text
     ·rw [aeR];decide+kernel
   ·rw [aw f2];exact .inr rfl
  ·rw [aw f1];exact .inr rfl
 ·rw [aB (by rw [q];decide)];exact .inr q
theorem aie {t:aJ}{K L:Nat}(S:Be t K L):
 mN t 0 (h8 (cV t K L).1.2.2)=(ed (c0 t) K L).V∧mN t 1 (h8 (cV t K L).1.2.1)= -(ed (c0 t) K L).V∧
 eo t (hh t (qg t 0 (lS t 0 (h8 (cV t K L).1.2.2))) (h8 (cV t K L).1.2.2))=(ed (c0 t) K L).V∧
 eo t (hh t (h8 (cV t K L).1.2.1) (qg t 1 (lS t 1 (h8 (cV t K L).1.2.1))))=(ed (c0 t) K L).V:=by
 have F:=S.fit;obtain ⟨tG,tH,pa,kO⟩:=S.Tu;obtain ⟨aE,aF,bO⟩:=S.eql.Bq F.v F.kn F.c4 tG tH pa kO;refine ⟨aF,bO,?_,?_⟩
 ·rw [←GZ F.v F.kn];exact aF
 ·have:=G0 F.v F.c4 (h8 (cV t K L).1.2.1);rw [bO] at this;grind
end Go.aj.k4
namespace Go.aj.cQ
open Go.aj.dh
theorem W7 {bU Z:List Int}: ∀{s:df} {k:Nat},(∀j,j<s.length→(s.getD j gD).info=bU.getD (k+j) 0∧(((s.getD j gD).c3.length:Nat):Int)=Z.getD (k+j) 0∧iI (s.getD j gD).c3=0)→po bU Z k s=0
 |[],k,h=>rfl
 |c::r,k,h=>by have aM:=h 0 b1;rw [po,aw (by rintro (q|q);exact q aM.1;exact q aM.2.1),aw (fun q=>q aM.2.2)];exact W7 (fun j ae=>by have:=h (j+1) (by simpa using ae);rwa [show k+(j+1)=k+1+j by omega] at this)
theorem PN {t:aJ}{p:Int}{f:Int→List dP}(h: ∀x∈b9 t p,(f x).length=ca t p x∧iI (f x)=0):ht t p ((b9 t p).map (fun x=>⟨x,f x⟩))=0:=by unfold ht;rw [cW,aw (fun q=>q rfl)];refine W7 (fun j ae=> ?_);rw [cW] at ae;rw [nk _ _ 0 _ _ ae,cR];have al:(b9 t p).getD j 0∈b9 t p:=dv 0 ae;refine ⟨I,?_,(h _ al).2⟩;unfold j3;rw [nk _ _ 0 _ _ ae,(h _ al).1]
theorem aly {t:aJ}(af:Valid t){p x:Int}(al:x∈b9 t p):ca t p x≤6:=by obtain ⟨j,ae,az⟩:=(me af).1 al;rw [qY af ae az];exact (Ob (af.nodes j ae)).2
end Go.aj.cQ
namespace Go.aj.cQ
open Go.aj.dh Go.aj.ka
def A8 (bo:List ff)(W:Nat→Rat)(x:Int)(k:Nat)(o:List Rat):List Rat:=
 if 0≤(bo.getD k c5).before∧(bo.getD k c5).info=x∧0<W (bo.getD k c5).before.toNat then o.set (bo.getD k c5).choice.toNat (W k/W (bo.getD k c5).before.toNat) else o
def pz (bo:List ff)(W:Nat→Rat)(x:Int)(o:List Rat):Nat→List Rat
 |0=>o
 |k+1=>A8 bo W x k (pz bo W x o k)
theorem FO (bo:List ff)(W:Nat→Rat)(x:Int)(o:List Rat): ∀k,(pz bo W x o k).length=o.length
 |0=>rfl
 |k+1=>by
  rw [pz,A8];split
  ·rw [da,FO bo W x o k]
  ·exact FO bo W x o k
theorem XG {t:aJ}(af:Valid t){p x:Int}{s b:Nat}(h:xz t p x s b){k:Nat}(an:k<(bW t p).length)(aM:0≤((bW t p).getD k c5).before)(aa:((bW t p).getD k c5).info=x):s≤k∧k<s+ca t p x:=by
 have lk:=(hz.lY af p t.length (bN _)).eY;have U:1≤k:=by
  rcases nz k with e|e
  ·subst e;rw [(sF af p).2.1] at aM;exact absurd aM aT
  ·exact e
 obtain ⟨y,c,sE,iU,jh,w4,yy,Cq,Ff,yz⟩:=Dk af U an;have ab:=yz (k-y.2) J;rw [show y.2+(k-y.2)=k by omega] at ab;rw [ab] at aa;have aa:y.1=x:=aa;have e:y=(x,s):=by
  have hm:=h.mem;obtain ⟨i,aQ,D4⟩:=kE sE;obtain ⟨j,bd,Ha⟩:=kE hm;have:i=j:=by refine (List.getElem_inj (i:=i) (j:=j) (h₀:=by rw [cW];exact aQ) (h₁:=by rw [cW];exact bd) lk).1 ?_;rw [kH,kH,D4,Ha];exact aa
  subst this;rw [←D4,←Ha]
 subst e;exact ⟨jh,w4⟩
theorem YR {t:aJ}(af:Valid t){p x:Int}{s b:Nat}(h:xz t p x s b)(W:Nat→Rat): ∀k,k≤(bW t p).length→ ∀c,c<ca t p x→
 (pz (bW t p) W x (hG (ca t p x) 0) k).getD c 0=if s+c<k∧0<W b then W (s+c)/W b else (hG (ca t p x) 0).getD c 0
 |0,_,c,av=>by rw [aw J];rfl
 |k+1,an,c,av=>by
  have a6:=YR af h W k J c av;rw [pz,A8];by_cases aM:0≤((bW t p).getD k c5).before∧((bW t p).getD k c5).info=x∧0<W ((bW t p).getD k c5).before.toNat
  ·rw [aB aM];obtain ⟨dS,eP⟩:=XG af h J aM.1 aM.2.1;have az:=h.cx (k-s) J;rw [show s+(k-s)=k by omega] at az;rw [az] at aM⊢;have ay:0<W b:=aM.2.2;show ((pz (bW t p) W x (hG (ca t p x) 0) k).set ((k-s:Nat):Int).toNat (W k/W ((b:Nat):Int).toNat)).getD c 0=_;rw [cn,cn,Go.aj.dR.fQ,FO,a6];have hu:=(yE h.lp).1;by_cases e:c=k-s
   ·rw [aB ⟨e,J⟩,aB ⟨J,ay⟩,e,show s+(k-s)=k by omega]
   ·rw [aw (fun q=>e q.1)];by_cases bc:s+c<k
    ·rw [aB ⟨bc,ay⟩,aB ⟨J,ay⟩]
    ·rw [aw (fun q=>bc q.1),aw J]
  ·rw [aw aM,a6];by_cases ay:0<W b
   ·have ch:s+c≠k:=fun e=>by have az:=h.cx c av;rw [e] at az;rw [az] at aM;exact aM ⟨DW _,I,ay⟩
    by_cases bc:s+c<k
    ·rw [aB ⟨bc,ay⟩,aB ⟨J,ay⟩]
    ·rw [aw (fun q=>bc q.1),aw J]
   ·rw [aw (fun q=>ay q.2),aw (fun q=>ay q.2)]
theorem aaB {t:aJ}(af:Valid t){p x:Int}(al:x∈b9 t p)(W:Nat→Rat):pz (bW t p) W x (hG (ca t p x) 0) (bW t p).length=gX t p W x:=by
 obtain ⟨s,b,h⟩:=xr af al;have hu:=(yE h.lp).1;have au:(gX t p W x).length=ca t p x:=by
  unfold gX;split
  ·rw [cW,gN]
  ·exact hu
 refine kc (by rw [FO,hu,au]) (fun c U ab=> ?_);have av:c<ca t p x:=J;rw [←eA 0 U,←eA 0 ab,YR af h W _ (bN _) c av];have aR:=h.fin;by_cases ay:0<W b
 ·rw [aB ⟨J,ay⟩,JX h W ay av]
 ·rw [aw (fun q=>ay q.2)];unfold gX;rw [h.start,h.uF,aw ay]
theorem aaC {t:aJ}(af:Valid t){p x:Int}{W:Nat→Rat}{K:Nat}(dE:1≤K)(gO: ∀k,D K (W k))(al:x∈b9 t p):(gX t p W x).length=ca t p x∧ ∀q∈gX t p W x,D (K+K) q:=by
 obtain ⟨s,b,h⟩:=xr af al;have hu:=yE h.lp;unfold gX;split
 ·rename_i ak;refine ⟨by rw [cW,gN],fun q aA=> ?_⟩;obtain ⟨c,_,rfl⟩:=cS.1 aA;exact (gO _).div (gO _) (fun e=>by rw [e] at ak;exact absurd ak (by decide+kernel))
 ·exact ⟨hu.1,fun q aA=>(hu.2.2 q aA).2.mono J⟩
theorem akv {bo:List ff}{W:Nat→Rat}{x:Int}{k:Nat}{o:List Rat}(h: ¬(0≤(bo.getD k c5).before∧(bo.getD k c5).info=x∧0<W (bo.getD k c5).before.toNat)):A8 bo W x k o=o:=aw h
theorem aoN {bo:List ff}{W:Nat→Rat}{x:Int}{k b c:Nat}{o:List Rat}(h:bo.getD k c5=⟨x,(c:Int),(b:Int)⟩)(ak:0<W b):A8 bo W x k o=o.set c (W k/W b):=by unfold A8;rw [h];exact aB ⟨DW _,I,ak⟩
end Go.aj.cQ
namespace Go.aj.k4
open Go.aj.dR Go.aj.cQ Go.aj.dh Go.aj.cL
structure sZ where
 rows:List (List Int)
 fst:List (Int×Nat)
def pv (n i:Nat)(q:ff)(s:sZ):sZ:=
 match fY s.fst q.info with
 |some k=>⟨s.rows.set k ((s.rows.getD k []).set (i+1) 1),s.fst⟩
 |none=>⟨s.rows++[((List.replicate n 0).set q.before.toNat (-1)).set (i+1) 1],s.fst++[(q.info,s.rows.length)]⟩
def q4 (n:Nat):List ff→Nat→sZ→sZ
 |[],_,s=>s
 |q::r,i,s=>q4 n r (i+1) (pv n i q s)
theorem Ja (n:Nat): ∀(a b:List ff) (i:Nat) (s:sZ),q4 n (a++b) i s=q4 n b (i+a.length) (q4 n a i s)
 |[],b,i,s=>rfl
 |q::a,b,i,s=>by show q4 n (a++b) (i+1) _=_;rw [Ja n a b (i+1)];show q4 n b (i+1+a.length) _=q4 n b (i+(a.length+1)) _;rw [show i+1+a.length=i+(a.length+1) by omega];rfl
def r1 (row:List Int)(i:Nat):Nat→List Int
 |0=>row
 |w+1=>(r1 row i w).set (i+w) 1
theorem api (l:List (Int×Nat))(x:Int)(k:Nat)(h:x∉l.map Prod.fst):fY (l++[(x,k)]) x=some k:=by
 unfold fY;rw [List.find?_append];have:l.find? (fun e=>decide (e.1=x))=none:=by rw [List.find?_eq_none];intro e he;simp only [e8];exact fun q=>h (cS.2 ⟨e,he,q⟩)
 rw [this];simp
theorem anl (n:Nat)(x b:Int)(rows:List (List Int))(e1:List (Int×Nat))(h:x∉e1.map Prod.fst)(i:Nat): ∀w,1≤w→
 q4 n ((List.range w).map (fun k:Nat=>(⟨x,(k:Int),b⟩:ff))) i ⟨rows,e1⟩=⟨rows++[r1 ((List.replicate n 0).set b.toNat (-1)) (i+1) w],e1++[(x,rows.length)]⟩:=by
 intro w hw;induction w with
 |zero=>omega
 |succ w a6=>
  rw [ti,hb,Ja,cW,gN];by_cases aM:w=0
  ·subst aM;show q4 n [⟨x,((0:Nat):Int),b⟩] (i+0) ⟨rows,e1⟩=_;show pv n (i+0) ⟨x,((0:Nat):Int),b⟩ ⟨rows,e1⟩=_;unfold pv;have:fY e1 x=none:=by unfold fY;rw [Option.map_eq_none_iff,List.find?_eq_none];intro e he;simp only [e8];exact fun q=>h (cS.2 ⟨e,he,q⟩)
   simp only [this];rfl
  ·rw [a6 J];show pv n (i+w) ⟨x,(w:Int),b⟩ _=_;unfold pv;simp only [api e1 x rows.length h];have aE:(rows++[r1 ((List.replicate n 0).set b.toNat (-1)) (i+1) w]).getD rows.length []=r1 ((List.replicate n 0).set b.toNat (-1)) (i+1) w:=by simp [List.getD]
   rw [aE,Bl _ _ (bN _),pK];show sZ.mk (rows++[(r1 _ (i+1) w).set (i+w+1) 1]) _=sZ.mk (rows++[(r1 _ (i+1) w).set (i+1+w) 1]) _;rw [show i+w+1=i+1+w by omega]
abbrev uu:=Int×Nat×Int
def gJ (L:List uu):List ff:=L.flatMap (fun a=>(List.range a.2.1).map (fun k:Nat=>(⟨a.1,(k:Int),a.2.2⟩:ff)))
def y8 (n:Nat):Nat→List uu→List (List Int)
 |_,[]=>[]
 |i,a::r=>r1 ((List.replicate n 0).set a.2.2.toNat (-1)) (i+1) a.2.1::y8 n (i+a.2.1) r
theorem Vo (n:Nat): ∀(L:List uu) (i:Nat) (rows:List (List Int)) (e1:List (Int×Nat)),(∀a∈L,1≤a.2.1)→(L.map Prod.fst).Nodup→(∀a∈L,a.1∉e1.map Prod.fst)→
 (q4 n (gJ L) i ⟨rows,e1⟩).rows=rows++y8 n i L
 |[],i,rows,e1,_,_,_=>by
  show rows=rows++[]
  rw [lA]
 |a::r,i,rows,e1,hw,aG,aR=>by
  rw [k9,xU] at aG;show (q4 n ((List.range a.2.1).map (fun k:Nat=>(⟨a.1,(k:Int),a.2.2⟩:ff))++gJ r) i ⟨rows,e1⟩).rows=_;rw [Ja,anl n a.1 a.2.2 rows e1 (aR a (vZ ..)) i a.2.1 (hw a (vZ ..)),cW,gN,
   Vo n r (i+a.2.1) _ _ (fun b ak=>hw b (uy _ ak)) aG.2 (fun b ak q=> ?_)]
  ·show rows++[_]++y8 n (i+a.2.1) r=rows++(_::y8 n (i+a.2.1) r)
   rw [mr];rfl
  ·rw [hb,gM] at q;rcases q with q|q
   ·exact aR b (uy _ ak) q
   ·simp only [k9,th,hk] at q;exact aG.1 (cS.2 ⟨b,ak,q⟩)
theorem JD (row:List Int)(i:Nat): ∀w,(r1 row i w).length=row.length
 |0=>rfl
 |w+1=>by show ((r1 row i w).set (i+w) 1).length=_;rw [da,JD row i w]
theorem WJ (row:List Int)(i j:Nat)(ae:j<row.length): ∀w,(r1 row i w).getD j 0=if i≤j∧j<i+w then 1 else row.getD j 0
 |0=>by rw [aw J];rfl
 |w+1=>by
  show ((r1 row i w).set (i+w) 1).getD j 0=_;rw [Go.aj.dR.fQ,JD,WJ row i j ae w];by_cases h:j=i+w
  ·rw [aB ⟨h,J⟩,aB J]
  ·rw [aw (fun q=>h q.1)];by_cases ab:i≤j∧j<i+w
   ·rw [aB ab,aB J]
   ·rw [aw ab,aw J]
def p9:Nat→List uu→List (Int×Nat)
 |_,[]=>[]
 |s,a::r=>(a.1,s)::p9 (s+a.2.1) r
theorem NP (a b:List uu):gJ (a++b)=gJ a++gJ b:=List.flatMap_append ..
theorem UK: ∀(a b:List uu) (s:Nat),p9 s (a++b)=p9 s a++p9 (s+(gJ a).length) b
 |[],b,s=>rfl
 |x::a,b,s=>by
  show (x.1,s)::p9 (s+x.2.1) (a++b)=(x.1,s)::(p9 (s+x.2.1) a++_);rw [UK a b (s+x.2.1)];have:(gJ (x::a)).length=x.2.1+(gJ a).length:=by show ((List.range x.2.1).map (fun k:Nat=>(⟨x.1,(k:Int),x.2.2⟩:ff))++gJ a).length=_;rw [di,cW,gN]
  rw [this,jU]
theorem U3: ∀(a:List uu) (s:Nat),(p9 s a).map Prod.fst=a.map Prod.fst
 |[],_=>rfl
 |x::a,s=>by show x.1::(p9 (s+x.2.1) a).map Prod.fst=x.1::a.map Prod.fst;rw [U3 a _]
theorem Vi {t:aJ}(af:Valid t)(p:Int): ∀i,i≤t.length→ ∃L:List uu,(de t p i).cx=c5::gJ L∧(de t p i).first=p9 1 L∧(L.map Prod.fst).Nodup∧ ∀a∈L,1≤a.2.1∧a.2.1=ca t p a.1
 |0,_=>⟨[],rfl,rfl,List.nodup_nil,fun a h=>by cases h⟩
 |i+1,aa=>by
  obtain ⟨L,U,ab,ay,bc⟩:=Vi af p i J;show∃L:List uu,(fW p (t.getD i aN) i (de t p i)).cx=c5::gJ L∧(fW p (t.getD i aN) i (de t p i)).first=p9 1 L∧_
  unfold fW;by_cases q:own p (t.getD i aN)=true∧fY (de t p i).first (t.getD i aN).info=none
  ·rw [aB q];obtain ⟨m1,m2,m3⟩:=af.Iq (show i<t.length by omega) q.1;refine ⟨L++[((t.getD i aN).info,(t.getD i aN).next.length,(de t p i).pos.getD i 0)],?_,?_,?_,?_⟩
   ·show (de t p i).cx++nQ _ _=_;rw [U,NP];show c5::(gJ L++_)=c5::(gJ L++_);congr 2;show nQ _ _=_++[]
    rw [lA];rfl
   ·show (de t p i).first++[_]=_
    rw [ab,UK,U];show p9 1 L++[((t.getD i aN).info,(gJ L).length+1)]=p9 1 L++[((t.getD i aN).info,1+(gJ L).length)]
    rw [oV]
   ·rw [hb];refine List.nodup_append.2 ⟨ay,b1,fun a aW b ak e=> ?_⟩;simp only [k9,th,hk] at ak;have:=Fv q.2;rw [ab,U3] at this;exact this (by rw [←ak,←e];exact aW)
   ·intro a aW;rcases gM.1 aW with r|r
    ·exact bc a r
    ·rw [hk.1 r];refine ⟨m3,(qY af (show i<t.length by omega) ?_).symm⟩;have:=q.1;unfold own at this;unfold fX;simp_all
  ·rw [aw q];exact ⟨L,U,ab,ay,bc⟩
theorem ajA (n s w b:Nat):r1 ((List.replicate n (0:Int)).set b (-1)) s w=(List.range n).map (fun j=>if s≤j∧j<s+w then 1 else if j=b then-1 else 0):=by
 have au:((List.replicate n (0:Int)).set b (-1)).length=n:=by rw [da,fc]
 refine kc (by rw [JD,au,cW,gN]) (fun j U ab=> ?_);have ay:j<n:=by rw [JD,au] at U;exact U
 rw [←eA 0,WJ _ _ _ (by rw [au];exact ay),Go.aj.dR.fQ,fc,kH,zt];have aM:(List.replicate n (0:Int)).getD j 0=0:=by simp [List.getD,ay]
 rw [aM];by_cases q:j=b
 ·subst q;rw [aB (⟨rfl,ay⟩:j=j∧j<n),aB rfl]
 ·rw [aw (fun e:j=b∧b<n=>q e.1),aw q]
def A5 (t:aJ)(p:Int)(y:Int×Nat)(j:Nat):Int:=if y.2≤j∧j<y.2+ca t p y.1 then 1 else if j=vI t p y.2 then-1 else 0
theorem Yk {t:aJ}{p:Int}(n:Nat): ∀(r l:List uu),bW t p=c5::(gJ l++gJ r)→(∀a∈r,1≤a.2.1∧a.2.1=ca t p a.1)→
 y8 n (gJ l).length r=(p9 (1+(gJ l).length) r).map (fun y=>(List.range n).map (A5 t p y))
 |[],l,_,_=>rfl
 |a::r,l,h,hw=>by
  obtain ⟨lp,pb⟩:=hw a (vZ ..);have ak:a.2.2.toNat=vI t p (1+(gJ l).length):=by
   unfold vI;rw [h,oV];have:(c5::(gJ l++gJ (a::r))).getD ((gJ l).length+1) c5=⟨a.1,0,a.2.2⟩:=by
    have e:gJ (a::r)=(List.range a.2.1).map (fun k:Nat=>(⟨a.1,(k:Int),a.2.2⟩:ff))++gJ r:=rfl;obtain ⟨w,hw⟩: ∃w,a.2.1=w+1:=⟨a.2.1-1,J⟩
    rw [e,hw,List.range_succ_eq_map];simp [List.getD]
   rw [this]
  have az:(gJ (l++[a])).length=(gJ l).length+a.2.1:=by rw [NP,di];congr 1;show ((List.range a.2.1).map _++[]).length=_;rw [lA,cW,gN]
  have a6:=Yk n r (l++[a]) (by
   rw [h,NP,mr];congr 2;show (List.range a.2.1).map _++gJ r=((List.range a.2.1).map _++[])++gJ r;rw [lA]) (fun b ak=>hw b (uy _ ak))
  rw [az] at a6;show r1 _ ((gJ l).length+1) a.2.1::y8 n ((gJ l).length+a.2.1) r=(List.range n).map (A5 t p (a.1,1+(gJ l).length))::(p9 (1+(gJ l).length+a.2.1) r).map _;rw [a6,ajA,show 1+(gJ l).length+a.2.1=1+((gJ l).length+a.2.1) by omega];refine congrArg (· ::_) (k8 (fun j _=> ?_));show _=if 1+(gJ l).length≤j∧j<1+(gJ l).length+ca t p a.1 then (1:Int) else if j=vI t p (1+(gJ l).length) then-1 else 0
  rw [←pb,←ak,oV 1]
theorem aoI {t:aJ}(af:Valid t)(p:Int)(n:Nat)(eZ:List Int):(q4 n (bW t p).tail 0 ⟨[eZ],[]⟩).rows=eZ::(mi t p).map (fun y=>(List.range n).map (A5 t p y)):=by obtain ⟨L,U,ab,ay,bc⟩:=Vi af p t.length (bN _);have U:bW t p=c5::gJ L:=U;rw [U];show (q4 n (gJ L) 0 ⟨[eZ],[]⟩).rows=_;rw [Vo n L 0 _ _ (fun a aW=>(bc a aW).1) ay (fun a _ q=>by cases q)];show eZ::y8 n 0 L=eZ::_;have:=Yk (t:=t) (p:=p) n L [] (by rw [U];rfl) bc;have e:y8 n 0 L=(p9 1 L).map (fun y=>(List.range n).map (A5 t p y)):=this;rw [e,←ab]
structure nx (t:aJ):Prop where
 len:t.length≤40
 c3: ∀n∈t,∀r∈n.c3,r.length≤12
 rH:pG t 24
theorem nx.of {t:aJ}(hm:cQ.Modest t)(af:Valid t):nx t:=⟨hm.len,hm.c3,⟨fun i aa an=>((hm.rH af).nF i aa an).mono aT⟩⟩
theorem FP {t:aJ}(af:Valid t)(hm:nx t):n4 t (ih t) 12:=by
 refine ⟨fun i aa l au=> ?_⟩;unfold ih at au;by_cases U:(t.getD i aN).kind=1
 ·rw [aB U] at au;obtain rfl:=oO au;obtain ⟨g1,g2⟩:=U4 af aa U;obtain ⟨o1,o2,rG,tI⟩:=CP g2;have:=KD rG (fun q aA=>(tI q aA).1);refine ⟨by rw [cW];exact g1,fun q aA=>⟨(tI q aA).1,this q aA,?_⟩⟩;obtain ⟨s,az,rfl⟩:=cS.1 aA;exact (hy.self (o2 s az)).nF (hm.c3 _ (dv aN aa) s az) aT
 ·rw [aw U] at au;cases au
def Le:Nat:=1441
def qj:Nat:=1500
theorem Uk {t:aJ}(af:Valid t)(hm:nx t):q5 t (ih t)<10^Le:=by have fh:=GF (FP af hm) t.length (bN _);rw [fO] at fh;have oZ:=J3 af;have ld:=hm.len;exact Tt fh (Qf hm.rH) (by unfold Le;omega)
theorem Xf {pa kO:Nat→Nat}{v:Nat→Rat}: ∀(l:List Nat) (e:Nat) (T:List (List Rat)),yw pa kO v (l++[e]) T=rX (yw pa kO v l T) (pa e) (kO e) (v e)
 |[],e,T=>rfl
 |x::l,e,T=>Xf l e _
def ql (t:aJ)(k:Nat):List (List Rat):=yw (pB t 0) (pB t 1) (iK t (cA t (ih t))) ((cH t).take k) (sX (a8 t 0) (a8 t 1))
theorem Xd (t:aJ):ql t 0=sX (a8 t 0) (a8 t 1):=by unfold ql;rw [List.take_zero];rfl
theorem Pm (t:aJ):ql t (cH t).length=gY t:=by unfold ql gY;rw [fO]
theorem Xc (t:aJ){k:Nat}(an:k<(cH t).length):ql t (k+1)=rX (ql t k) (pB t 0 ((cH t).getD k 0)) (pB t 1 ((cH t).getD k 0)) (iK t (cA t (ih t)) ((cH t).getD k 0)):=by unfold ql;rw [n9 an,Xf,eA 0 an]
theorem akN {t:aJ}(af:Valid t)(k:Nat):vP (ql t k) (a8 t 0) (a8 t 1):=Po _ (O3 _ _) (fun e he=>(y5 af 0 (pj (pI he)).1).2)
theorem aox (T:List (List Rat))(a b:Nat)(y:Rat)(i j:Nat):((rX T a b y).getD i []).getD j 0=((T.getD i []).getD j 0)∨((rX T a b y).getD i []).getD j 0=((T.getD a []).getD b 0+y):=by
 unfold rX;rw [Go.aj.dR.fQ];split
 ·rename_i h;rw [Go.aj.dR.fQ];split
  ·exact .inr I
  ·rw [h.1];exact .inl rfl
 ·exact .inl I
theorem Pn {t:aJ}(af:Valid t)(hm:nx t): ∀k,k≤(cH t).length→ ∀i j,iM (q5 t (ih t)) (k*10^24) (((ql t k).getD i []).getD j 0)
 |0,_,i,j=>by
  rw [Xd];have:((sX (a8 t 0) (a8 t 1)).getD i []).getD j 0=(0:Rat):=by
   simp only [sX,List.getD,pJ];split
   ·simp only [pR,pJ];split<;>rfl
   ·rfl
  rw [this];exact iM.zero _ _
 |k+1,an,i,j=>by
  have a6:=Pn af hm k J;have b0:k<(cH t).length:=J;obtain ⟨i1,i2⟩:=pj (dv (l:=cH t) 0 b0);rw [Xc t b0];have aE:(k+1)*10^24=k*10^24+10^24:=by rw [eF,qt]
  rw [aE];rcases aox (ql t k) (pB t 0 ((cH t).getD k 0)) (pB t 1 ((cH t).getD k 0)) (iK t (cA t (ih t)) ((cH t).getD k 0)) i j with e|e
  ·rw [e];exact (a6 i j).mono (oU _ _)
  ·rw [e];have:=Pl af (FP af hm) hm.rH (p:=0) i1 i2;exact (a6 _ _).add this
theorem Un {t:aJ}(af:Valid t)(hm:nx t){k:Nat}(an:k≤(cH t).length)(i j:Nat):D qj (((ql t k).getD i []).getD j 0):=by
 have cf:=Uk af hm;have aM:=PO t (ih t);have he:(cH t).length≤t.length:=by unfold cH;refine dU (tf _ _) ?_;rw [gN];exact bN _
 have au:=hm.len;have ho:k*10^24≤10^26:=dU (fp _ (show k≤40 by omega)) aT;refine (Pn af hm k an i j).D J ?_ (ha cf (fN aT aT));refine re (fp _ ho) ?_;have:=(Nat.mul_lt_mul_left (a:=10^26) (lX aT)).2 cf;rw [←iN] at this;exact ha this (fN aT aT)
theorem Uo {t:aJ}(af:Valid t)(hm:nx t)(i j:Nat):D qj (((gY t).getD i []).getD j 0):=by rw [←Pm];exact Un af hm (bN _) i j
theorem P1 (t:aJ)(p:Int)(c j:Nat):D qj (hF t p c j):=by
 have aM:D qj (0:Rat):=Dw 1499;have U:D qj (1:Rat):=Nd 1499;have ab:D qj (-1:Rat):=U.neg;unfold hF;split
 ·split
  ·exact U
  ·exact aM
 ·split
  ·exact U
  ·split
   ·exact ab
   ·exact aM
theorem Uf (r:Nat){q:Rat}(h:D qj q):D qj (qN r*q):=by
 unfold qN;split
 ·rw [pN];exact h
 ·rw [show (-1:Rat)*q= -q by grind];exact h.neg
theorem akq {t:aJ}(af:Valid t)(hm:nx t):(c0 t).GG qj:=by
 have aM:D qj (0:Rat):=Dw 1499;have U:D qj (1:Rat):=Nd 1499;refine ⟨fun r ad q aA=> ?_,fun q aA=> ?_,fun q aA=> ?_⟩
 ·rcases gM.1 ad with h|h
  ·obtain ⟨j,_,rfl⟩:=cS.1 h;obtain ⟨i,_,rfl⟩:=cS.1 aA;show D qj (if i<a8 t 0 then _ else if i<a8 t 0+cr t 1 then _ else _);split
   ·exact (Uo af hm i j).neg
   ·split
    ·exact P1 t 1 _ j
    ·exact (P1 t 1 _ j).neg
  ·obtain ⟨j,_,rfl⟩:=cS.1 h;obtain ⟨i,_,rfl⟩:=cS.1 aA;show D qj (if i<a8 t 0 then _ else _);split
   ·exact Uf j (P1 t 0 _ i)
   ·exact aM
 ·rcases gM.1 aA with h|h
  ·rw [GW h];exact aM
  ·obtain ⟨r,_,rfl⟩:=cS.1 h;refine Uf r ?_;unfold r3;split
   ·exact U
   ·exact aM
 ·obtain ⟨i,_,rfl⟩:=cS.1 aA;show D qj (if i=a8 t 0 then _ else if i=a8 t 0+cr t 1 then _ else _);split
  ·exact U
  ·split
   ·exact U.neg
   ·exact aM
end Go.aj.k4
