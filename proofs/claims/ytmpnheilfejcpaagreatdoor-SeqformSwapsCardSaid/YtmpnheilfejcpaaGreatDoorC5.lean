import Derived.Lib.LaidTab
import Derived.Lib.ItoaNum
import Derived.Stop.LaidErr
import Derived.Test.YtmpnheilfejcpaaGreatDoorProg
import Derived.Test.YtmpnheilfejcpaaGreatDoorC4
set_option linter.unusedVariables false
set_option linter.unusedSimpArgs false
set_option maxRecDepth 100000
set_option maxHeartbeats 4000000
namespace Go.ai.cI
open Go.ai.dL Go.ai.cz Go.ai.c8
theorem DD (f:Nat→Int)(a:Nat): ∀b,bX f (a+b)=bX f a+bX (fun k=>f (a+k)) b
 |0=>by show bX f a=bX f a+0;omega
 |b+1=>by
  show bX f (a+b)+f (a+b)=bX f a+(bX (fun k=>f (a+k)) b+f (a+b))
  rw [DD f a b];omega
theorem GS: ∀{n:Nat} {f:Nat→Int},(∀i,i<n→0≤f i)→0≤bX f n
 |0,f,_=>Int.le_refl 0
 |n+1,f,h=>by have U:=GS (n:=n) (f:=f) (fun i aa=>h i J);have ab:=h n (gH n);show 0≤bX f n+f n;omega
theorem TF: ∀{n:Nat} {f:Nat→Int},(∀i,i<n→0≤f i)→bX f n=0→ ∀i,i<n→f i=0
 |0,f,_,_,i,aa=>absurd aa (gy i)
 |n+1,f,h,aO,i,aa=>by
  have U:=GS (n:=n) (f:=f) (fun i aa=>h i J);have ab:=h n (gH n);have aO:bX f n+f n=0:=aO;by_cases e:i=n
  ·rw [e];omega
  ·exact TF (n:=n) (fun i aa=>h i J) J i J
theorem A3 {m N w:Nat}{M:ck}{s:b9}(aa:Inv m N M s)(aN:iE m N s)(hw:w≤N): ∀K,Inv m N M (eB m N w s K)∧iE m N (eB m N w s K)
 |0=>⟨aa,aN⟩
 |K+1=>by
  obtain ⟨U,ab⟩:=A3 aa aN hw K;show Inv m N M ((il m N w (eB m N w s K)).getD _)∧iE m N ((il m N w (eB m N w s K)).getD _);cases ax:il m N w (eB m N w s K) with
  |none=>exact ⟨U,ab⟩
  |some cl=>
   obtain ⟨c,r,g1,g2,g3,g4,rfl⟩:=Mk ax;have:=g4.pos;exact ⟨U.ie g4.lt J J,U.Ot ab J g4⟩
def gr (m w:Nat)(s:b9):Nat:=l7 s.rows m w 0
theorem TA {m N w:Nat}{s:b9}(h:il m N w s=none):
 (gr m w s=w∧ ∀a,a<w→0≤aq s.rows m a)∨(gr m w s<w∧aq s.rows m (gr m w s)<0∧ ∀i,i<m→aq s.rows i (gr m w s)≤0):=by
 unfold il at h;obtain ⟨aD,aE,bM,h9⟩:=Dz s.rows m w 0;split at h
 ·rename_i U;exact .inl ⟨U,fun a a1=>bM a (cf _) (by rw [U];exact a1)⟩
 ·split at h
  ·rename_i U _ au;exact .inr ⟨by unfold gr;omega,h9 J,LG _ _ _ _ _ au⟩
  ·cases h
def ep (m:Nat)(s:b9)(c j:Nat):Int:=(if j=c then s.den else 0)-bX (fun k=>if j=s.basis.getD k 0 then aq s.rows k c else 0) m
section
variable {m N w:Nat}{M:ck}{s:b9}
theorem Inv.vec (h:Inv m N M s){c:Nat}(av:c<N+1){i:Nat}(aa:i<m+1):kq M N (ep m s c) i=if i=m then aq s.rows m c else 0:=by
 have:=(h.F9 (ep m s c) (-(aq s.rows m c))).2 (fun i aa=>by
  rw [show kq s.rows N (ep m s c) i=aq s.rows i c*s.den-bX (fun k=>aq s.rows i (s.basis.getD k 0)*aq s.rows k c) m from M0 av (fun k ao=>by have:=h.pr k ao;omega)];by_cases e:i=m
  ·subst e;rw [aG rfl,ry (fun k ao=>by rw [h.unit i k J ao,az J,iW]),po,lp];omega
  ·rw [az e];have bM: ∀k,k<m→aq s.rows i (s.basis.getD k 0)*aq s.rows k c=if k=i then s.den*aq s.rows k c else 0:=by
    intro k ao;rw [h.unit i k aa ao];by_cases h9:i=k
    ·rw [aG h9,aG h9.symm]
    ·rw [az h9,az (fun q=>h9 q.symm),iW]
   rw [fW bM,sJ (f:=fun k=>s.den*aq s.rows k c) J,lp];omega) i aa
 by_cases e:i=m
 ·rw [aG e] at this⊢;omega
 ·rw [az e] at this⊢;omega
theorem Inv.AI (h:Inv m N M s){c k:Nat}(ao:k<m):ep m s c (s.basis.getD k 0)=(if s.basis.getD k 0=c then s.den else 0)-aq s.rows k c:=by unfold ep;congr 1;rw [w7 k ao (fun i aa b2=>by rw [az (fun e=>b2 (h.nodup aa ao e.symm))]),aG rfl]
theorem yX {c j:Nat}(aF: ∀k,k<m→s.basis.getD k 0≠j):ep m s c j=if j=c then s.den else 0:=by unfold ep;rw [ry (fun k ao=>by rw [az (fun e=>aF k ao e.symm)]),xO]
theorem Inv.afS (h:Inv m N M s):ep m s N N=s.den:=by rw [yX (fun k ao=>by have:=h.pr k ao;omega),aG rfl]
theorem Inv.Lc (h:Inv m N M s)(aN:iE m N s){j:Nat}(ae:j<N):ep m s N j≤0:=by
 by_cases ak:jM m s j
 ·obtain ⟨k,ao,rfl⟩:=ak;rw [h.AI ao,az J];have:=aN k ao;omega
 ·rw [yX (fun k ao e=>ak ⟨k,ao,e⟩),az J];exact Int.le_refl 0
theorem Inv.Lb (h:Inv m N M s){c:Nat}(hle: ∀i,i<m→aq s.rows i c≤0)(j:Nat):0≤ep m s c j:=by
 have hd:=h.fU;by_cases ak:jM m s j
 ·obtain ⟨k,ao,rfl⟩:=ak;rw [h.AI ao];have:=hle k ao;split<;>omega
 ·rw [yX (fun k ao e=>ak ⟨k,ao,e⟩)];split<;>omega
end
theorem agD {T:ck}{m:Nat}(h:m≤T.length)(L hN:List Int):j5 (j5 T m L) m hN=j5 T m hN:=by unfold j5;congr 1;rw [List.take_append_of_le_length (by rw [ff];omega),List.take_take,Nat.min_self]
theorem ahl {T:ck}{m N:Nat}(h:m≤T.length)(k cP:Nat→Int):jr k m N (jr cP m N T)=jr k m N T:=agD h _ _
theorem R5 {k:Nat→Int}{m N:Nat}{s:b9}(cc:m≤s.rows.length)(aN:iE m N s):iE m N (oT k m N s):=fun i aa=>by show 0≤aq (j5 _ _ _) i N;rw [yV cc _ aa];exact aN i aa
theorem HH {k:Nat→Int}{m N:Nat}{T:ck}(cc:m≤T.length)(x:Nat→Int):kq (jr k m N T) N x m=bX (fun j=>k j*x j) (N+1):=by unfold kq;refine fW (fun j ae=> ?_);show aq (j5 _ _ _) m j*_=_;rw [HB cc,oV ae]
theorem Xg {k:Nat→Int}{m N:Nat}{T:ck}(cc:m≤T.length)(x:Nat→Int){i:Nat}(aa:i<m):kq (jr k m N T) N x i=kq T N x i:=by unfold kq;refine fW (fun j ae=> ?_);show aq (j5 _ _ _) i j*_=_;rw [yV cc _ aa]
theorem HU {k:Nat→Int}{m N:Nat}{T:ck}(cc:m≤T.length){j:Nat}(ae:j<N+1):aq (jr k m N T) m j=k j:=by show aq (j5 _ _ _) m j=_;rw [HB cc,oV ae]
theorem HG {k:Nat→Int}{m N:Nat}{T:ck}(cc:m≤T.length){i:Nat}(aa:i<m)(j:Nat):aq (jr k m N T) i j=aq T i j:=by show aq (j5 _ _ _) i j=_;rw [yV cc _ aa]
theorem ajh (p:Prog):(fs p).rows.length=p.m+1:=(A9 p).n
theorem mA (p:Prog):p.m≤(fs p).rows.length:=by rw [ajh];exact Nat.le_succ _
def ho (p:Prog)(j:Nat):Int:=if p.n+p.m≤j∧j<p.N then 1 else 0
theorem Se (p:Prog)(j:Nat):0≤ho p j:=by unfold ho;split<;>omega
def yt (p:Prog):b9:=oT (ho p) p.m p.N (fs p)
def sZ (p:Prog):ck:=jr (ho p) p.m p.N (fs p).rows
theorem Nl (p:Prog):Inv p.m p.N (sZ p) (yt p):=(A9 p).oT (ho p) (mA p)
theorem MP (p:Prog)(aJ:p.hg):iE p.m p.N (yt p):=R5 (mA p) (Sz p aJ)
theorem ahy {p:Prog}{s:b9}(h:Inv p.m p.N (sZ p) s){c:Nat}(av:c<p.N)(jZ:aq s.rows p.m c<0)(hle: ∀i,i<p.m→aq s.rows i c≤0):False:=by have U:=h.vec (c:=c) (i:=p.m) (Nat.lt_succ_of_lt av) (gH _);have ab:=HH (k:=ho p) (N:=p.N) (mA p) (ep p.m s c);have ab:kq (sZ p) p.N (ep p.m s c) p.m=bX (fun j=>ho p j*ep p.m s c j) (p.N+1):=ab;rw [U,aG rfl] at ab;have aw:0≤bX (fun j=>ho p j*ep p.m s c j) (p.N+1):=GS (fun j _=>q4 (Se p j) (h.Lb hle j));omega
theorem Ho {p:Prog}{s:b9}(h:Inv p.m p.N (sZ p) s)(aN:iE p.m p.N s):
 aq s.rows p.m p.N≤0∧(aq s.rows p.m p.N=0→ ∀i,i<p.m→p.n+p.m≤s.basis.getD i 0→aq s.rows i p.N=0):=by
 have U:=h.vec (c:=p.N) (i:=p.m) (gH _) (gH _);have ab:kq (sZ p) p.N (ep p.m s p.N) p.m=bX (fun j=>ho p j*ep p.m s p.N j) (p.N+1):=HH (k:=ho p) (N:=p.N) (mA p) (ep p.m s p.N);rw [U,aG rfl] at ab;have bw: ∀j,j<p.N+1→0≤ho p j* -(ep p.m s p.N j):=by
  intro j ae;by_cases e:j=p.N
  ·have:ho p j=0:=by unfold ho;rw [az J]
   rw [this,iW];exact Int.le_refl 0
  ·have:=h.Lc aN (j:=j) (Nat.lt_of_le_of_ne (Nat.le_of_lt_succ ae) e);exact q4 (Se p j) J
 have aw:bX (fun j=>ho p j* -(ep p.m s p.N j)) (p.N+1)= -(aq s.rows p.m p.N):=by have:bX (fun j=>ho p j* -(ep p.m s p.N j)) (p.N+1)=bX (fun j=> -1*(ho p j*ep p.m s p.N j)) (p.N+1):=fW (fun j _=>by rw [po];omega);rw [this,l3,←ab];omega
 have bg:=GS bw;refine ⟨J,fun aO i aa ak=> ?_⟩;have Jv:=h.pr i aa;have bF:=TF bw (by rw [aw,aO];rfl) (s.basis.getD i 0) (Nat.lt_succ_of_lt Jv);have dm:ho p (s.basis.getD i 0)=1:=by unfold ho;rw [aG ⟨ak,Jv⟩]
 rw [dm,lq,h.AI aa,az (ow Jv)] at bF;omega
def iL (T:ck)(i:Nat):Nat→Nat→Nat
 |0,c=>c
 |f+1,c=>if aq T i c≠0 then c else iL T i f (c+1)
theorem Vq (T:ck)(i:Nat): ∀f c,c≤iL T i f c∧iL T i f c≤c+f∧(∀a,c≤a→a<iL T i f c→aq T i a=0)∧(iL T i f c<c+f→aq T i (iL T i f c)≠0)
 |0,c=>⟨bR _,bR _,fun a U ab=>absurd ab (by rw [iL];omega),fun h=>absurd h (by rw [iL];omega)⟩
 |f+1,c=>by
  rw [iL];by_cases h:aq T i c≠0
  ·rw [aG h];exact ⟨bR _,J,fun a U ab=>absurd ab J,fun _=>h⟩
  ·rw [az h];obtain ⟨U,ab,aw,bg⟩:=Vq T i f (c+1);refine ⟨J,J,fun a a1 ak=> ?_,fun ak=>bg J⟩;by_cases e:a=c
   ·subst e;omega
   ·exact aw a J ak
def rv (w:Nat)(s:b9)(k:Nat):b9:=if s.basis.getD k 0<w then s else if iL s.rows k w 0=w then s else ie s k (iL s.rows k w 0)
def iO (w:Nat)(s:b9):Nat→b9
 |0=>s
 |k+1=>rv w (iO w s k) k
structure mH (m N w:Nat)(s:b9)(k:Nat):Prop where
 z: ∀i,i<m→w≤s.basis.getD i 0→aq s.rows i N=0
 r: ∀i,i<k→w≤s.basis.getD i 0→ ∀j,j<w→aq s.rows i j=0
theorem MH {d x y:Int}(hd:0<d)(h:d*x=y)(aY:y=0):x=0:=by
 rw [aY] at h;rcases wa.1 h with U|U
 ·omega
 ·exact U
theorem aih {d x y:Int}(hd:0<d)(h:d*x=y)(aY:0≤y):0≤x:=Int.le_of_mul_le_mul_left (by rw [gd,h];exact aY) hd
section
variable {m N w:Nat}{M:ck}{s:b9}
theorem Inv.Xy (h:Inv m N M s)(aN:iE m N s){k:Nat}(hd:mH m N w s k)(ao:k<m)(hw:w≤N):
 Inv m N M (rv w s k)∧iE m N (rv w s k)∧mH m N w (rv w s k) (k+1):=by
 unfold rv;obtain ⟨aD,aE,bM,h9⟩:=Vq s.rows k w 0;by_cases ak:s.basis.getD k 0<w
 ·rw [aG ak];refine ⟨h,aN,hd.z,fun i aa eg=> ?_⟩;by_cases e:i=k
  ·rw [e] at eg;omega
  ·exact hd.r i J eg
 ·rw [az ak];by_cases aF:iL s.rows k w 0=w
  ·rw [aG aF];refine ⟨h,aN,hd.z,fun i aa eg=> ?_⟩;by_cases e:i=k
   ·rw [e];exact fun j ae=>bM j (cf _) J
   ·exact hd.r i J eg
  ·rw [az aF];have aJ:=h9 J;have JG:iL s.rows k w 0<w:=J;generalize iL s.rows k w 0=c at*;have bw:=hd.z k ao J;have Kg:=VI aJ;have td: ∀i,(cI.ie s k c).basis.getD i 0=if i=k then c else s.basis.getD i 0:=fun i=>A7 h ao i
   have jX: ∀i,i<m→s.den*aq (cI.ie s k c).rows i N=aq s.rows i N*(l1 (aq s.rows k c)*aq s.rows k c):=by
    intro i aa;rw [h.entry ao (show c<N by omega) aJ (show i<m+1 by omega) (gH N),bw];by_cases e:i=k
    ·rw [aG e,e,bw,gd,gd,iW]
    ·rw [az e,gd,xO,oG]
   refine ⟨h.ie ao J aJ,fun i aa=>aih h.fU (jX i aa) (q4 (aN i aa) (vY Kg)),fun i aa eg=> ?_,fun i aa eg j ae=> ?_⟩
   ·rw [td] at eg;by_cases e:i=k
    ·rw [aG e] at eg;omega
    ·rw [az e] at eg;exact MH h.fU (jX i aa) (by rw [hd.z i aa eg,iW])
   ·rw [td] at eg;by_cases e:i=k
    ·rw [aG e] at eg;omega
    ·rw [az e] at eg;have bO:=hd.r i J eg j ae;have bW:=hd.r i J eg c JG;refine MH h.fU (h.entry ao (show c<N by omega) aJ (show i<m+1 by omega) (show j<N+1 by omega)) ?_;rw [az e,bO,bW,iW,iW];exact gd _
theorem Inv.I1 (h:Inv m N M s)(aN:iE m N s)(hd: ∀i,i<m→w≤s.basis.getD i 0→aq s.rows i N=0)(hw:w≤N):
 ∀k,k≤m→Inv m N M (iO w s k)∧iE m N (iO w s k)∧mH m N w (iO w s k) k
 |0,_=>⟨h,aN,hd,fun i aa=>absurd aa (gy i)⟩
 |k+1,ao=>by obtain ⟨U,ab,aw⟩:=Inv.I1 h aN hd hw k J;exact U.Xy ab aw J hw
theorem Inv.Xz (h:Inv m N M s)(hd:mH m N w s m){r c:Nat}(hw:w≤N)(av:c<w)(au:zg s.rows s.basis c N m r):mH m N w (cI.ie s r c) m:=by
 have aJ:=au.pos;have ad:=au.lt;have td: ∀i,(cI.ie s r c).basis.getD i 0=if i=r then c else s.basis.getD i 0:=fun i=>A7 h ad i
 have key: ∀i,i<m→w≤(cI.ie s r c).basis.getD i 0→ ∀j,(j<w∨j=N)→aq (cI.ie s r c).rows i j=0:=by
  intro i aa ak j ae;rw [td] at ak;by_cases e:i=r
  ·rw [aG e] at ak;omega
  ·rw [az e] at ak;have bO:aq s.rows i j=0:=by
    rcases ae with ae|ae
    ·exact hd.r i aa ak j ae
    ·rw [ae];exact hd.z i aa ak
   have bW:=hd.r i aa ak c av;refine MH h.fU (h.entry ad (show c<N by omega) J (show i<m+1 by omega) (show j<N+1 by omega)) ?_;rw [az e,bO,bW,iW,iW];exact gd _
 exact ⟨fun i aa ak=>key i aa ak N (.inr I),fun i aa ak j ae=>key i aa ak j (.inl ae)⟩
theorem Up (h:Inv m N M s)(aN:iE m N s)(hd:mH m N w s m)(hw:w≤N): ∀K,mH m N w (eB m N w s K) m
 |0=>hd
 |K+1=>by
  have U:=Up h aN hd hw K;have ab:=(A3 h aN hw K).1;show mH m N w ((il m N w (eB m N w s K)).getD _) m;cases ax:il m N w (eB m N w s K) with
  |none=>exact U
  |some cl=>
   obtain ⟨c,r,g1,g2,g3,g4,rfl⟩:=Mk ax;exact ab.Xz U hw g1 g4
theorem aik {k:Nat→Int}(cc:m≤s.rows.length)(hd:mH m N w s m):mH m N w (oT k m N s) m:=by
 refine ⟨fun i aa ak=> ?_,fun i aa ak j ae=> ?_⟩
 ·show aq (j5 _ _ _) i N=0;rw [yV cc _ aa];exact hd.z i aa ak
 ·show aq (j5 _ _ _) i j=0;rw [yV cc _ aa];exact hd.r i aa ak j ae
end
def eC (p:Prog)(j:Nat):Int:=if j<p.n then-((hn p.C).getD j 0) else 0
def M2 (p:Prog):ck:=jr (eC p) p.m p.N (fs p).rows
def fP (p:Prog)(K:Nat):b9:=eB p.m p.N (p.n+p.m) (yt p) K
def gQ (p:Prog)(K:Nat):b9:=if p.a=0 then fs p else iO (p.n+p.m) (fP p K) p.m
def ts (p:Prog)(K:Nat):b9:=oT (eC p) p.m p.N (gQ p K)
def jk (p:Prog)(K L:Nat):b9:=eB p.m p.N (p.n+p.m) (ts p K) L
theorem lI (p:Prog):p.n+p.m≤p.N:=pk _ _
theorem A5 (p:Prog)(aJ:p.hg)(K:Nat):Inv p.m p.N (sZ p) (fP p K)∧iE p.m p.N (fP p K):=A3 (Nl p) (MP p aJ) (lI p) K
theorem abR (p:Prog)(aJ:p.hg)(K:Nat)(aO:0<p.a→aq (fP p K).rows p.m p.N=0):
 (∃M,Inv p.m p.N M (gQ p K)∧p.m≤M.length∧jr (eC p) p.m p.N M=M2 p)∧iE p.m p.N (gQ p K)∧mH p.m p.N (p.n+p.m) (gQ p K) p.m:=by
 unfold gQ;by_cases e:p.a=0
 ·rw [aG e];have eO: ∀i,i<p.m→ ¬p.n+p.m≤(fs p).basis.getD i 0:=by intro i aa;have U:=(A9 p).pr i aa;have ab:p.N=p.n+p.m+p.a:=rfl;omega
  exact ⟨⟨_,A9 p,mA p,I⟩,Sz p aJ,fun i aa ak=>absurd ak (eO i aa),fun i aa ak=>absurd ak (eO i aa)⟩
 ·rw [az e];obtain ⟨U,ab⟩:=A5 p aJ K;obtain ⟨_,bw⟩:=Ho U ab;obtain ⟨g1,g2,g3⟩:=U.I1 ab (bw (aO J)) (lI p) p.m (bR _);refine ⟨⟨_,g1,?_,ahl (mA p) _ _⟩,g2,g3⟩;have:(sZ p).length=p.m+1:=R8 (mA p) _;omega
theorem MQ (p:Prog)(aJ:p.hg)(K:Nat)(aO:0<p.a→aq (fP p K).rows p.m p.N=0):
 Inv p.m p.N (M2 p) (ts p K)∧iE p.m p.N (ts p K)∧mH p.m p.N (p.n+p.m) (ts p K) p.m:=by
 obtain ⟨⟨M,U,ab,aw⟩,bg,bF⟩:=abR p aJ K aO;have cc:p.m≤(gQ p K).rows.length:=by rw [U.n];exact Nat.le_succ _
 have dm:=U.oT (eC p) ab;rw [aw] at dm;exact ⟨dm,R5 cc bg,aik cc bF⟩
theorem Mo (p:Prog)(aJ:p.hg)(K L:Nat)(aO:0<p.a→aq (fP p K).rows p.m p.N=0):
 Inv p.m p.N (M2 p) (jk p K L)∧iE p.m p.N (jk p K L)∧mH p.m p.N (p.n+p.m) (jk p K L) p.m:=by obtain ⟨U,ab,aw⟩:=MQ p aJ K aO;obtain ⟨bg,bF⟩:=A3 U ab (lI p) L;exact ⟨bg,bF,Up U ab aw (lI p) L⟩
end Go.ai.cI
namespace Go.ai.cI
open Go.ai.dL Go.ai.cz Go.ai.c8
structure BU where
 kind:Nat
 X:List Rat
 Y:List Rat
 R:List Rat
 V:Rat
def ik (n:Nat)(β:List Nat)(f:Nat→Rat)(l:List Rat):Nat→List Rat
 |0=>l
 |k+1=>if β.getD k 0<n then (ik n β f l k).set (β.getD k 0) (f k) else ik n β f l k
theorem vx (n:Nat)(β:List Nat)(f:Nat→Rat)(l:List Rat): ∀k,(ik n β f l k).length=l.length
 |0=>rfl
 |k+1=>by
  rw [ik];split
  ·rw [dj,vx n β f l k]
  ·exact vx n β f l k
theorem MV {n:Nat}{β:List Nat}{f:Nat→Rat}{l:List Rat}{j:Nat}: ∀{K:Nat},(∀k,k<K→β.getD k 0≠j)→(ik n β f l K).getD j 0=l.getD j 0
 |0,_=>rfl
 |K+1,h=>by
  have U:=MV (n:=n) (f:=f) (l:=l) (K:=K) (fun k ao=>h k J);rw [ik];split
  ·rw [fG,az (fun e=>h K (gH K) e.1.symm)];exact U
  ·exact U
theorem LK {n:Nat}{β:List Nat}{f:Nat→Rat}{l:List Rat}{k:Nat}(au:l.length=n)(bC:β.getD k 0<n):
 ∀{K:Nat},(∀i,i<K→β.getD i 0=β.getD k 0→i=k)→k<K→(ik n β f l K).getD (β.getD k 0) 0=f k
 |0,_,ao=>absurd ao (gy k)
 |K+1,aa,ao=>by
  rw [ik];by_cases e:k=K
  ·subst e;rw [aG bC,fG,aG ⟨rfl,by rw [vx,au];exact bC⟩]
  ·have U:=LK (f:=f) au bC (K:=K) (fun i h=>aa i J) J;have b2:β.getD K 0≠β.getD k 0:=fun q=>e (aa K (gH K) q).symm;split
   ·rw [fG,az (fun q=>b2 q.1.symm)];exact U
   ·exact U
def lE (p:Prog)(s:b9):List Rat:=ik p.n s.basis (fun k=>Rat.divInt (aq s.rows k p.N) s.den) (List.replicate p.n 0) p.m
def kU (n c:Nat):List Rat:=if c<n then (List.replicate n 0).set c 1 else List.replicate n 0
def og (p:Prog)(s:b9)(c:Nat):List Rat:=ik p.n s.basis (fun k=>Rat.divInt (-(aq s.rows k c)) s.den) (kU p.n c) p.m
def kK (p:Prog)(s:b9)(d:Int):List Rat:=(List.range p.m).map (fun i=>Rat.divInt (aq s.rows p.m (p.n+i)) d*((p.dV i:Nat):Rat))
def Prog.cu (p:Prog):Nat:=hp 1 p.C
def gF (p:Prog)(K L:Nat):BU:=
 if 0<p.a∧aq (fP p K).rows p.m p.N<0 then ⟨1,[],kK p (fP p K) (fP p K).den,[],0⟩
 else if gr p.m (p.n+p.m) (jk p K L)<p.n+p.m then ⟨2,lE p (jk p K L),[],og p (jk p K L) (gr p.m (p.n+p.m) (jk p K L)),0⟩
 else ⟨0,lE p (jk p K L),kK p (jk p K L) ((jk p K L).den*(p.cu:Nat)),[],Rat.divInt (aq (jk p K L).rows p.m p.N) ((jk p K L).den*(p.cu:Nat))⟩
structure qW (p:Prog)(K L:Nat):Prop where
 one:0<p.a→il p.m p.N (p.n+p.m) (fP p K)=none
 two: ¬(0<p.a∧aq (fP p K).rows p.m p.N<0)→il p.m p.N (p.n+p.m) (jk p K L)=none
theorem HR {p:Prog}(aJ:p.hg){K:Nat}(h: ¬(0<p.a∧aq (fP p K).rows p.m p.N<0)):0<p.a→aq (fP p K).rows p.m p.N=0:=by intro a1;obtain ⟨U,ab⟩:=A5 p aJ K;have:=(Ho U ab).1;have: ¬aq (fP p K).rows p.m p.N<0:=fun q=>h ⟨a1,q⟩;omega
theorem runs (p:Prog)(aJ:p.hg): ∃K L,qW p K L:=by
 obtain ⟨K,dn⟩:=ends (Nl p) (MP p aJ) (lI p);by_cases h:0<p.a∧aq (fP p K).rows p.m p.N<0
 ·exact ⟨K,0,fun _=>dn,fun q=>absurd h q⟩
 ·obtain ⟨U,ab,_⟩:=MQ p aJ K (HR aJ h);obtain ⟨L,cv⟩:=ends U ab (lI p);exact ⟨K,L,fun _=>dn,fun _=>cv⟩
inductive Good (p:Prog):BU→Prop
 |IN {X Y:List Rat} {V:Rat} (ar:X.length=p.n) (aY:Y.length=p.m) (wM: ∀j,j<p.n→0≤X.getD j 0) (wN: ∀i,i<p.m→0≤Y.getD i 0)
  (mh: ∀i,i<p.m→h2 (p.A.getD i []) X≤p.B.getD i 0) (sE: ∀j,j<p.n→p.C.getD j 0≤h2 (rM p.A j) Y) (ea:h2 p.C X=V) (wO:h2 p.B Y=V):Good p ⟨0,X,Y,[],V⟩
 |none {Y:List Rat} (hm:0<p.m) (aY:Y.length=p.m) (wN: ∀i,i<p.m→0≤Y.getD i 0) (sE: ∀j,j<p.n→0≤h2 (rM p.A j) Y) (wO:h2 p.B Y<0):Good p ⟨1,[],Y,[],0⟩
 |free {X R:List Rat} (aF:0<p.n) (ar:X.length=p.n) (ad:R.length=p.n) (wM: ∀j,j<p.n→0≤X.getD j 0) (cH: ∀j,j<p.n→0≤R.getD j 0)
  (mh: ∀i,i<p.m→h2 (p.A.getD i []) X≤p.B.getD i 0) (Cb: ∀i,i<p.m→h2 (p.A.getD i []) R≤0) (dc:0<h2 p.C R):Good p ⟨2,X,[],R,0⟩
theorem abX {a x:Rat}(a1:0<a)(h:a*x≤0):x≤0:=r3 (c:=a) (by rw [oF,mO];exact h) a1
theorem Eg {a x:Rat}(a1:0<a)(h:0≤a*x):0≤x:=r3 (c:=a) (by rw [oF,mO x];exact h) a1
theorem Bh {k:Nat}(h:0<k):(0:Rat)<(k:Rat):=by have U:((k:Int):Rat)=(k:Rat):=v7 k;rw [←U];exact tX J
theorem HX (p:Prog)(i:Nat):0<p.dV i:=HK _ 1 a6
theorem BD (p:Prog):0<p.cu:=HK _ 1 a6
theorem Vn {x:Int}(h:x≤0):(x:Rat)≤0:=(EM (a:=x) (b:=0)).2 h
theorem Bw {x:Int}(h:0≤x):(0:Rat)≤(x:Rat):=(EM (a:=0) (b:=x)).2 h
theorem Ng {x:Int}(h:x<0):(x:Rat)<0:=(Rat.intCast_lt_intCast (a:=x) (b:=0)).2 h
theorem Dy {x d:Int}(h:d≠0):Rat.divInt x d*(d:Rat)=(x:Rat):=by rw [Rat.divInt_eq_div,Rat.div_mul_cancel (Vo h)]
section
variable {p:Prog}{k:Nat→Int}{s:b9}
theorem aji {x:Nat→Int}{i:Nat}(aa:i<p.m)(a1: ∀q,q<p.a→x (p.n+p.m+q)=0):
 kq (fs p).rows p.N x i=p.kg i*(bX (fun j=>(p.whole i).getD j 0*x j) p.n+x (p.n+i)+(p.whole i).getD p.n 0*x p.N):=by
 have aD: ∀j,j<p.n→aq (fs p).rows i j*x j=p.kg i*((p.whole i).getD j 0*x j):=fun j ae=>by rw [Np p aa ae,jW]
 have aE: ∀q,q<p.m→aq (fs p).rows i (p.n+q)*x (p.n+q)=if q=i then p.kg i*x (p.n+q) else 0:=fun q aB=>by
  rw [Ia p aa aB];by_cases e:i=q
  ·rw [aG e,aG e.symm]
  ·rw [az e,az (fun h=>e h.symm),iW]
 have bM: ∀q,q<p.a→aq (fs p).rows i (p.n+p.m+q)*x (p.n+p.m+q)=0:=fun q aB=>by rw [a1 q aB,gd]
 show bX (fun j=>aq (fs p).rows i j*x j) (p.n+p.m+p.a)+aq (fs p).rows i p.N*x p.N=_;rw [DD _ (p.n+p.m) p.a,DD _ p.n p.m,ry bM,fW aD,fW aE,l3,sJ (f:=fun q=>p.kg i*x (p.n+q)) aa,H9 p aa,xI,xI,jW];omega
theorem QA (h:Inv p.m p.N (jr k p.m p.N (fs p).rows) s)(hd:mH p.m p.N (p.n+p.m) s p.m){c:Nat}(av:c<p.n+p.m∨c=p.N){i:Nat}(aa:i<p.m):
 bX (fun j=>(p.whole i).getD j 0*ep p.m s c j) p.n+ep p.m s c (p.n+i)+(p.whole i).getD p.n 0*ep p.m s c p.N=0:=by
 have hw:=lI p;have Y8:c<p.N+1:=J;have U:=h.vec Y8 (i:=i) J;rw [az (ow aa),Xg (mA p) _ aa,aji aa] at U
 ·have ab:=Il p i;generalize bX (fun j=>(p.whole i).getD j 0*ep p.m s c j) p.n+ep p.m s c (p.n+i)+(p.whole i).getD p.n 0*ep p.m s c p.N=z at*;have aw:p.kg i*(p.kg i*z)=0:=by rw [U,gd]
  rw [←jW,ab,lq] at aw;exact aw
 ·intro q aB;have bC:p.n+p.m+q<p.N:=Nat.add_lt_add_left aB _;by_cases ak:jM p.m s (p.n+p.m+q)
  ·obtain ⟨b,ra,we⟩:=ak;have ab:=h.AI (c:=c) ra;rw [we,az J] at ab;rw [ab];have:aq s.rows b c=0:=by
    rcases av with av|av
    ·exact hd.r b ra J c av
    ·rw [av];exact hd.z b ra J
   omega
  ·rw [yX (fun b eg e=>ak ⟨b,eg,e⟩),az J]
theorem UK (ao: ∀i,i<p.m→k (p.n+i)=0):IF p.m p.N p.n (jr k p.m p.N (fs p).rows) p.kg:=by
 have ax:=ahL p;refine ⟨ax.lt,ax.bj,fun i q aa aB=> ?_,fun q aB=> ?_⟩
 ·rw [HG (mA p) aa];exact ax.at' i q aa aB
 ·rw [HU (mA p) (by have:=ax.lt;omega)];exact ao q aB
theorem Om (h:Inv p.m p.N (jr k p.m p.N (fs p).rows) s)(ao: ∀i,i<p.m→k (p.n+i)=0){j:Nat}(ae:j<p.n):
 aq s.rows p.m j=bX (fun q=>aq s.rows p.m (p.n+q)*(p.whole q).getD j 0) p.m+s.den*k j:=by have hw:=lI p;have Pr:j<p.N+1:=J;rw [h.combo (UK ao) (gH _) Pr,aG rfl,HU (mA p) Pr];congr 1;refine fW (fun q aB=> ?_);rw [HG (mA p) aB,Np p aB ae,←jW (p.kg q),Il,lq]
theorem Ol (h:Inv p.m p.N (jr k p.m p.N (fs p).rows) s)(ao: ∀i,i<p.m→k (p.n+i)=0):
 aq s.rows p.m p.N=bX (fun q=>aq s.rows p.m (p.n+q)*(p.whole q).getD p.n 0) p.m+s.den*k p.N:=by rw [h.combo (UK ao) (gH _) (gH _),aG rfl,HU (mA p) (gH _)];congr 1;refine fW (fun q aB=> ?_);rw [HG (mA p) aB,H9 p aB,←jW (p.kg q),Il,lq]
theorem V7 (aJ:p.hg){i:Nat}(aa:i<p.m):(p.A.getD i []).length=p.n:=aJ.pt _ (dx [] (by rw [aJ.rows];exact aa))
theorem VC (aJ:p.hg){i:Nat}(aa:i<p.m){x:Nat→Int}{X:List Rat}{d:Rat}(iv: ∀j,j<p.n→X.getD j 0*d=((x j:Int):Rat)):
 ((bX (fun j=>(p.whole i).getD j 0*x j) p.n:Int):Rat)=((p.dV i:Nat):Rat)*h2 (p.A.getD i []) X*d:=by rw [DL,tN (V7 aJ aa),←tQ,←DK];refine fJ (fun j ae=> ?_);have bf:j<p.n+1:=J;rw [oH,←iv j ae,Hv p aJ aa bf,Oz p aJ aa ae];grind
theorem SQ {C:List Rat}{j:Nat}(ae:j<C.length):(((hn C).getD j 0:Int):Rat)=((hp 1 C:Nat):Rat)*C.getD j 0:=by unfold hn;rw [qA _ _ 0 _ _ ae];exact TN (dx 0 ae)
theorem U4 {x:Nat→Int}{X:List Rat}{d:Rat}(iv: ∀j,j<p.n→X.getD j 0*d=((x j:Int):Rat)):
 ((bX (fun j=>(hn p.C).getD j 0*x j) p.n:Int):Rat)=((p.cu:Nat):Rat)*h2 p.C X*d:=by rw [DL,tN (a:=p.C) (n:=p.n) rfl,←tQ,←DK];refine fJ (fun j ae=> ?_);rw [oH,←iv j ae,SQ ae];show ((p.cu:Nat):Rat)*_*_=_;grind
theorem U2 (aJ:p.hg){j:Nat}(ae:j<p.n){y:Nat→Int}{Y:List Rat}{d:Rat}(sh: ∀q,q<p.m→Y.getD q 0*d=((y q:Int):Rat)*((p.dV q:Nat):Rat)):
 ((bX (fun q=>y q*(p.whole q).getD j 0) p.m:Int):Rat)=h2 (rM p.A j) Y*d:=by rw [DL,tN (n:=p.m) (by rw [TS];exact aJ.rows),←DK];refine fJ (fun q aB=> ?_);have U:=sh q aB;have bf:j<p.n+1:=J;rw [oH,Hv p aJ aB bf,Oz p aJ aB ae,Ms];grind
theorem VA (aJ:p.hg){y:Nat→Int}{Y:List Rat}{d:Rat}(sh: ∀q,q<p.m→Y.getD q 0*d=((y q:Int):Rat)*((p.dV q:Nat):Rat)):
 ((bX (fun q=>y q*(p.whole q).getD p.n 0) p.m:Int):Rat)=h2 p.B Y*d:=by rw [DL,tN (a:=p.B) (n:=p.m) rfl,←DK];refine fJ (fun q aB=> ?_);have U:=sh q aB;rw [oH,Hv p aJ aB (gH _),Nr p aJ aB];grind
theorem SP (p:Prog)(s:b9):(lE p s).length=p.n:=by unfold lE;rw [vx,fw]
theorem D5 (n c:Nat):(kU n c).length=n:=by
 unfold kU;split
 ·rw [dj,fw]
 ·rw [fw]
theorem adJ (p:Prog)(s:b9)(c:Nat):(og p s c).length=p.n:=by unfold og;rw [vx,D5]
theorem Rm (p:Prog)(s:b9)(d:Int):(kK p s d).length=p.m:=by simp [kK]
theorem D8 (n j:Nat):(List.replicate n (0:Rat)).getD j 0=0:=by simp only [List.getD,s4];split<;>rfl
theorem LX {M:ck}(h:Inv p.m p.N M s){j:Nat}(ae:j<p.n):(lE p s).getD j 0*(s.den:Rat)=((-(ep p.m s p.N j):Int):Rat):=by
 have hw:=lI p;have hd:s.den≠0:=by have:=h.fU;omega
 unfold lE;by_cases ak:jM p.m s j
 ·obtain ⟨b,ra,rfl⟩:=ak;rw [LK (by rw [fw]) ae (fun i aa e=>h.nodup aa ra e) ra,Dy hd,h.AI ra,az J];congr 1;omega
 ·rw [MV (fun b eg e=>ak ⟨b,eg,e⟩),D8,oF,yX (fun b eg e=>ak ⟨b,eg,e⟩),az J];rfl
theorem No {M:ck}(h:Inv p.m p.N M s){c:Nat}(av:aq s.rows p.m c<0){j:Nat}(ae:j<p.n):(og p s c).getD j 0*(s.den:Rat)=((ep p.m s c j:Int):Rat):=by
 have hd:s.den≠0:=by have:=h.fU;omega
 have wq: ¬jM p.m s c:=fun ak=>by have:=h.IY ak;omega
 unfold og;by_cases ak:jM p.m s j
 ·have ZI:j≠c:=fun e=>wq (e▸ak);obtain ⟨b,ra,rfl⟩:=ak;rw [LK (D5 _ _) ae (fun i aa e=>h.nodup aa ra e) ra,Dy hd,h.AI ra,az ZI];congr 1;omega
 ·rw [MV (fun b eg e=>ak ⟨b,eg,e⟩),yX (fun b eg e=>ak ⟨b,eg,e⟩)];unfold kU;by_cases e:j=c
  ·subst e;rw [aG ae,aG rfl,fG,aG ⟨rfl,by rw [fw];exact ae⟩,r0]
  ·rw [az e];have:(if c<p.n then (List.replicate p.n (0:Rat)).set c 1 else List.replicate p.n 0).getD j 0=0:=by
    split
    ·rw [fG,az (fun q=>e q.1),D8]
    ·exact D8 _ _
   rw [this,oF];rfl
theorem Rl {d:Int}(hd:d≠0){i:Nat}(aa:i<p.m):(kK p s d).getD i 0*(d:Rat)=((aq s.rows p.m (p.n+i):Int):Rat)*((p.dV i:Nat):Rat):=by
 have:(kK p s d).getD i 0=Rat.divInt (aq s.rows p.m (p.n+i)) d*((p.dV i:Nat):Rat):=by have aa:i<p.B.length:=aa;simp [kK,List.getD,aa]
 rw [this,zw,mO ((p.dV i:Nat):Rat),←zw,Dy hd]
theorem DN (aJ:p.hg)(h:Inv p.m p.N (jr k p.m p.N (fs p).rows) s)(aN:iE p.m p.N s)(hd:mH p.m p.N (p.n+p.m) s p.m):
 (∀j,j<p.n→0≤(lE p s).getD j 0)∧ ∀i,i<p.m→h2 (p.A.getD i []) (lE p s)≤p.B.getD i 0:=by
 have hw:=lI p;have pB:=tX h.fU;refine ⟨fun j ae=> ?_,fun i aa=> ?_⟩
 ·have U:=LX h ae;have ab:=h.Lc aN (j:=j) J;refine Eg pB ?_;rw [mO,U];exact Bw J
 ·have U:=QA h hd (c:=p.N) (.inr rfl) aa;rw [h.afS] at U;have ab:=VC aJ aa (x:=fun j=> -(ep p.m s p.N j)) (X:=lE p s) (fun j ae=>LX h ae);have aw:bX (fun j=>(p.whole i).getD j 0* -(ep p.m s p.N j)) p.n= -(bX (fun j=>(p.whole i).getD j 0*ep p.m s p.N j) p.n):=by have:bX (fun j=>(p.whole i).getD j 0* -(ep p.m s p.N j)) p.n=bX (fun j=> -1*((p.whole i).getD j 0*ep p.m s p.N j)) p.n:=fW (fun j _=>by rw [po];omega);rw [this,l3];omega
  have ab:((bX (fun j=>(p.whole i).getD j 0* -(ep p.m s p.N j)) p.n:Int):Rat)=((p.dV i:Nat):Rat)*h2 (p.A.getD i []) (lE p s)*(s.den:Rat):=ab;rw [aw] at ab;have bg:=h.Lc aN (j:=p.n+i) J;have bF: -(bX (fun j=>(p.whole i).getD j 0*ep p.m s p.N j) p.n)=ep p.m s p.N (p.n+i)+(p.whole i).getD p.n 0*s.den:=J;rw [bF,B5,oH,Hv p aJ aa (gH _),Nr p aJ aa] at ab;have dm:=Vn bg;have eE:(0:Rat)<((p.dV i:Nat):Rat)*(s.den:Rat):=Rat.mul_pos (Bh (HX p i)) pB;refine r3 ?_ eE;grind
theorem aiT (aJ:p.hg)(h:Inv p.m p.N (M2 p) s)(aN:iE p.m p.N s)(hd:mH p.m p.N (p.n+p.m) s p.m)(av: ∀a,a<p.n+p.m→0≤aq s.rows p.m a):
 Good p ⟨0,lE p s,kK p s (s.den*(p.cu:Nat)),[],Rat.divInt (aq s.rows p.m p.N) (s.den*(p.cu:Nat))⟩:=by
 have hw:=lI p;have pB:=tX h.fU;have Pl:=Bh (BD p);have e0:s.den*(p.cu:Int)≠0:=by have U:=h.fU;have ab:=BD p;have:=vZ U (show (0:Int)<(p.cu:Int) by omega);omega
 have Cp:((s.den*(p.cu:Nat):Int):Rat)=(s.den:Rat)*((p.cu:Nat):Rat):=by rw [oH];rfl
 have eE:(0:Rat)<(s.den:Rat)*((p.cu:Nat):Rat):=Rat.mul_pos pB Pl;have sh:=fun q (aB:q<p.m)=>Rl (p:=p) (s:=s) e0 aB;have ao: ∀i,i<p.m→eC p (p.n+i)=0:=fun i aa=>by unfold eC;rw [az J]
 have JV:eC p p.N=0:=by unfold eC;rw [az J]
 obtain ⟨v1,v2⟩:=DN aJ h aN hd;refine .IN (SP p s) (Rm p s _) v1 (fun i aa=> ?_) v2 (fun j ae=> ?_) ?_ ?_
 ·have U:=sh i aa;rw [Cp] at U;refine Eg eE ?_;rw [mO,U];exact xM (Bw (av _ J)) (Rat.le_of_lt (Bh (HX p i)))
 ·have U:=U2 aJ ae sh;have ab:=Om h ao ae;have JX:eC p j= -((hn p.C).getD j 0):=by unfold eC;rw [aG ae]
  rw [JX] at ab;have aw:=av j J;have bg:bX (fun q=>aq s.rows p.m (p.n+q)*(p.whole q).getD j 0) p.m=aq s.rows p.m j+s.den*(hn p.C).getD j 0:=by rw [po] at ab;omega
  rw [bg,Cp,B5,oH,SQ ae] at U;have bF:=Bw aw;refine r3 ?_ eE;have e:((hp 1 p.C:Nat):Rat)=((p.cu:Nat):Rat):=rfl;rw [e] at U;grind
 ·have U:=U4 (p:=p) (x:=fun j=> -(ep p.m s p.N j)) (X:=lE p s) (fun j ae=>LX h ae);have ab:=h.vec (c:=p.N) (i:=p.m) (gH _) (gH _);rw [aG rfl] at ab;have aw:kq (M2 p) p.N (ep p.m s p.N) p.m=bX (fun j=>eC p j*ep p.m s p.N j) (p.N+1):=HH (mA p) _;have bg:bX (fun j=>eC p j*ep p.m s p.N j) (p.N+1)=bX (fun j=>(hn p.C).getD j 0* -(ep p.m s p.N j)) p.n:=by
   rw [show p.N+1=p.n+(p.m+p.a+1) by show p.n+p.m+p.a+1=_;omega,DD,ry (f:=fun q=>eC p (p.n+q)*ep p.m s p.N (p.n+q)) (fun q _=>by
    show eC p (p.n+q)*_=0;unfold eC;rw [az J,iW]),s6]
   exact fW (fun j ae=>by
    show eC p j*_=_;unfold eC;rw [aG ae,p9,po])
  rw [bg] at aw;have U:((bX (fun j=>(hn p.C).getD j 0* -(ep p.m s p.N j)) p.n:Int):Rat)=_:=U;rw [←aw,ab] at U;have bF:Rat.divInt (aq s.rows p.m p.N) (s.den*(p.cu:Nat))*((s.den:Rat)*((p.cu:Nat):Rat))=((aq s.rows p.m p.N:Int):Rat):=by rw [←Cp];exact Dy e0
  refine r4 (r3 ?_ eE) (r3 ?_ eE)<;>grind
 ·have U:=VA aJ sh;have ab:=Ol h ao;rw [JV,gd,s6] at ab;rw [←ab,Cp] at U;have bF:Rat.divInt (aq s.rows p.m p.N) (s.den*(p.cu:Nat))*((s.den:Rat)*((p.cu:Nat):Rat))=((aq s.rows p.m p.N:Int):Rat):=by rw [←Cp];exact Dy e0
  refine r4 (r3 ?_ eE) (r3 ?_ eE)<;>grind
theorem ajN (aJ:p.hg)(h:Inv p.m p.N (sZ p) s)(hm:0<p.m)(av: ∀a,a<p.n+p.m→0≤aq s.rows p.m a)(ah:aq s.rows p.m p.N<0):Good p ⟨1,[],kK p s s.den,[],0⟩:=by
 have hw:=lI p;have pB:=tX h.fU;have e0:s.den≠0:=by have:=h.fU;omega
 have sh:=fun q (aB:q<p.m)=>Rl (p:=p) (s:=s) e0 aB;have ao: ∀i,i<p.m→ho p (p.n+i)=0:=fun i aa=>by unfold ho;rw [az J]
 have JV:ho p p.N=0:=by unfold ho;rw [az J]
 refine .none hm (Rm p s _) (fun i aa=> ?_) (fun j ae=> ?_) ?_
 ·refine Eg pB ?_;rw [mO,sh i aa];exact xM (Bw (av _ J)) (Rat.le_of_lt (Bh (HX p i)))
 ·have U:=U2 aJ ae sh;have ab:=Om h ao ae;have JX:ho p j=0:=by unfold ho;rw [az J]
  rw [JX,gd,s6] at ab;rw [←ab] at U;refine Eg pB ?_;rw [mO,←U];exact Bw (av j J)
 ·have U:=VA aJ sh;have ab:=Ol h ao;rw [JV,gd,s6] at ab;rw [←ab] at U;have aw:=Ng ah;refine Rat.not_le.1 (fun bg=>Rat.not_le.2 aw ?_);rw [U];exact xM bg (Rat.le_of_lt pB)
theorem ajz (aJ:p.hg)(h:Inv p.m p.N (M2 p) s)(aN:iE p.m p.N s)(hd:mH p.m p.N (p.n+p.m) s p.m){c:Nat}(JG:c<p.n+p.m)(jZ:aq s.rows p.m c<0)(hle: ∀i,i<p.m→aq s.rows i c≤0):
 Good p ⟨2,lE p s,[],og p s c,0⟩:=by
 have hw:=lI p;have pB:=tX h.fU;obtain ⟨v1,v2⟩:=DN aJ h aN hd;have jX:ep p.m s c p.N=0:=by rw [yX (fun b ak=>by have:=h.pr b ak;omega),az J]
 have JF:((aq s.rows p.m c:Int):Rat)= -(((p.cu:Nat):Rat)*h2 p.C (og p s c)*(s.den:Rat)):=by
  have U:=U4 (p:=p) (x:=fun j=>ep p.m s c j) (X:=og p s c) (fun j ae=>No h jZ ae);have ab:=h.vec (c:=c) (i:=p.m) J (gH _);rw [aG rfl] at ab;have aw:kq (M2 p) p.N (ep p.m s c) p.m=bX (fun j=>eC p j*ep p.m s c j) (p.N+1):=HH (mA p) _;have bg:bX (fun j=>eC p j*ep p.m s c j) (p.N+1)= -(bX (fun j=>(hn p.C).getD j 0*ep p.m s c j) p.n):=by
   rw [show p.N+1=p.n+(p.m+p.a+1) by show p.n+p.m+p.a+1=_;omega,DD,ry (f:=fun q=>eC p (p.n+q)*ep p.m s c (p.n+q)) (fun q _=>by
    show eC p (p.n+q)*_=0;unfold eC;rw [az J,iW]),s6]
   have:bX (fun j=>eC p j*ep p.m s c j) p.n=bX (fun j=> -1*((hn p.C).getD j 0*ep p.m s c j)) p.n:=fW (fun j ae=>by
    unfold eC;rw [aG ae,p9];omega)
   rw [this,l3];omega
  rw [bg,ab] at aw;have U:((bX (fun j=>(hn p.C).getD j 0*ep p.m s c j) p.n:Int):Rat)=_:=U;rw [←U,aw,Rat.intCast_neg]
 have aF:0<p.n:=by
  apply xL;intro aO;have e:h2 p.C (og p s c)=0:=by rw [tN (a:=p.C) (n:=p.n) rfl,show p.n=0 by omega];rfl
  rw [e,vX,oF] at JF;have:=Ng jZ;rw [JF] at this;exact absurd this (by decide+kernel)
 refine .free aF (SP p s) (adJ p s c) v1 (fun j ae=> ?_) v2 (fun i aa=> ?_) ?_
 ·refine Eg pB ?_;rw [mO,No h jZ ae];exact Bw (h.Lb hle j)
 ·have U:=QA h hd (c:=c) (.inl JG) aa;rw [jX,gd,s6] at U;have ab:=VC aJ aa (x:=fun j=>ep p.m s c j) (X:=og p s c) (fun j ae=>No h jZ ae);have bg:=h.Lb hle (p.n+i);have bF:bX (fun j=>(p.whole i).getD j 0*ep p.m s c j) p.n≤0:=J;have ab:((bX (fun j=>(p.whole i).getD j 0*ep p.m s c j) p.n:Int):Rat)=_:=ab;have dm:=Vn bF;rw [ab] at dm;have eE:(0:Rat)<((p.dV i:Nat):Rat)*(s.den:Rat):=Rat.mul_pos (Bh (HX p i)) pB;refine abX eE ?_;grind
 ·have U:=Ng jZ;rw [JF] at U;have eE:(0:Rat)<((p.cu:Nat):Rat)*(s.den:Rat):=Rat.mul_pos (Bh (BD p)) pB;refine Rat.not_le.1 (fun bg=>Rat.not_le.2 U ?_);have bF:=xM (show (0:Rat)≤ -(h2 p.C (og p s c)) by grind) (Rat.le_of_lt eE);grind
end
theorem aed {p:Prog}(aJ:p.hg){K L:Nat}(ax:qW p K L):Good p (gF p K L):=by
 unfold gF;by_cases aO:0<p.a∧aq (fP p K).rows p.m p.N<0
 ·rw [aG aO];obtain ⟨U,ab⟩:=A5 p aJ K;have hm:0<p.m:=by have:=El p.B p.B.length;have aw:0<mD p.B:=aO.1;show 0<p.B.length;exact hE aw this
  rcases TA (ax.one aO.1) with ⟨_,aw⟩|⟨aw,bg,bF⟩
  ·exact ajN aJ U hm aw aO.2
  ·exact (ahy U (hE aw (lI p)) bg bF).elim
 ·rw [az aO];obtain ⟨U,ab,aw⟩:=Mo p aJ K L (HR aJ aO);rcases TA (ax.two aO) with ⟨g1,g2⟩|⟨g1,g2,g3⟩
  ·rw [az J];exact aiT aJ U ab aw g2
  ·rw [aG g1];exact ajz aJ U ab aw g1 g2 g3
end Go.ai.cI
namespace Go.ai.cI
open Go.ai.dL Go.ai.cz Go.ai.c8
structure Prog.EC (p:Prog)(k:Nat):Prop where
 a: ∀r∈p.A,∀q∈r,D k q
 b: ∀q∈p.B,D k q
 c: ∀q∈p.C,D k q
def Prog.E (p:Prog)(k:Nat):Nat:=k+k*(p.n+1)
def Prog.T (p:Prog)(k:Nat):Nat:=(p.E k+2)*(p.m+1)
def Prog.W (p:Prog)(k:Nat):Nat:=p.T k+2+2*(k*(p.n+1))
section
variable {p:Prog}{k:Nat}
theorem X5 (aJ:p.hg)(ao:p.EC k){i:Nat}(aa:i<p.m): ∀q∈p.full i,D k q:=by
 intro q aB;rcases gz.1 aB with h|h
 ·exact ao.a _ (dx [] (by rw [aJ.rows];exact aa)) q h
 ·rw [hR.1 h];exact ao.b _ (dx 0 aa)
structure Prog.rT (p:Prog)(k:Nat):Prop where
 Ri: ∀i j,i<p.m→j<p.n+1→((p.whole i).getD j 0).natAbs≤10^p.E k
 Lf: ∀j,j<p.n→((hn p.C).getD j 0).natAbs≤10^p.E k
 I7: ∀i,i<p.m→p.dV i≤10^(k*(p.n+1))
 cu:p.cu≤10^(k*p.n)
theorem Nb (p:Prog)(i:Nat):(p.kg i).natAbs=1:=by unfold Prog.kg;split<;>rfl
theorem DB (n:Nat):1≤10^n:=mM a6
theorem Sy (aJ:p.hg)(ao:p.rT k){i j:Nat}(aa:i<p.m)(ae:j<p.N+1):(aq (fs p).rows i j).natAbs≤10^p.E k:=by
 have U:=DB (p.E k);by_cases eY:j<p.n
 ·rw [Np p aa eY,kf,Nb,rZ];exact ao.Ri i _ aa J
 ·by_cases h8:j<p.n+p.m
  ·obtain ⟨q,rfl⟩: ∃q,j=p.n+q:=⟨j-p.n,J⟩
   rw [Ia p aa J];split
   ·rw [Nb];exact U
   ·exact cf _
  ·by_cases q8:j<p.N
   ·obtain ⟨q,rfl⟩: ∃q,j=p.n+p.m+q:=⟨j-(p.n+p.m),J⟩
    rw [VM p aa (Nat.lt_of_add_lt_add_left (show p.n+p.m+q<p.n+p.m+p.a from q8))];split
    ·exact U
    ·exact cf _
   ·obtain rfl:j=p.N:=J;rw [H9 p aa,kf,Nb,rZ];exact ao.Ri i _ aa (gH _)
theorem NM (aJ:p.hg)(ao:p.rT k){f:Nat→Int}(aN: ∀j,j<p.N+1→(f j).natAbs≤10^p.E k): ∀i j,i<p.m+1→j<p.N+1→(aq (jr f p.m p.N (fs p).rows) i j).natAbs≤10^p.E k:=by
 intro i j aa ae;by_cases e:i=p.m
 ·rw [e,HU (mA p) ae];exact aN j ae
 ·have aP:i<p.m:=Nat.lt_of_le_of_ne (Nat.le_of_lt_succ aa) e;rw [HG (mA p) aP];exact Sy aJ ao aP ae
theorem M6 (aJ:p.hg)(ao:p.rT k): ∀i j,i<p.m+1→j<p.N+1→(aq (sZ p) i j).natAbs≤10^p.E k:=
 NM aJ ao (fun j _=>by
  have U:=DB (p.E k);unfold ho;split
  ·exact U
  ·exact cf _)
theorem w9 (aJ:p.hg)(ao:p.rT k): ∀i j,i<p.m+1→j<p.N+1→(aq (M2 p) i j).natAbs≤10^p.E k:=
 NM aJ ao (fun j _=>by
  unfold eC;split
  ·rename_i h;rw [p7];exact ao.Lf _ h
  ·exact cf _)
theorem vA {M:ck}{s:b9}(h:Inv p.m p.N M s)(hm:p.m+1≤40)(hj: ∀i j,i<p.m+1→j<p.N+1→(aq M i j).natAbs≤10^p.E k):
 (∀i j,i<p.m+1→j<p.N+1→(aq s.rows i j).natAbs≤10^p.T k)∧s.den.natAbs≤10^p.T k:=by obtain ⟨U,ab⟩:=h.bound (DB (p.E k)) hj;have aw:=Xo (k:=p.E k) hm;exact ⟨fun i j aa ae=>dT (U i j aa ae) aw,dT ab aw⟩
theorem o6 {x n:Nat}(h:x≤10^n):x<10^(n+1):=rX h (Nat.pow_lt_pow_right a6 (gH n))
theorem Gi {x n:Nat}(h:x≤10^n):D (n+1) ((x:Nat):Rat):=by
 refine ⟨?_,?_⟩
 ·have:(((x:Nat):Rat)).num=(x:Int):=rfl;rw [this,k1];exact o6 h
 ·have:(((x:Nat):Rat)).den=1:=rfl;rw [this];exact hE (show 1<10^1 by decide) (gp a6 (Nat.le_add_left 1 n))
theorem MU {P:Rat→Prop}{n:Nat}{β:List Nat}{f:Nat→Rat}{l:List Rat}(au: ∀q∈l,P q): ∀{K:Nat},(∀i,i<K→P (f i))→ ∀q∈ik n β f l K,P q
 |0,_,q,aB=>au q aB
 |K+1,aN,q,aB=>by
  have U:=MU (n:=n) (β:=β) au (K:=K) (fun i aa=>aN i J);rw [ik] at aB;split at aB
  ·rcases xE aB with h|h
   ·exact U q h
   ·rw [h];exact aN K (gH K)
  ·exact U q aB
theorem BI (n:Nat):D (n+1) 0:=Gi (x:=0) (cf _)
theorem KW (n:Nat):D (n+1) 1:=Gi (x:=1) (DB n)
theorem UT {M:ck}{s:b9}(h:Inv p.m p.N M s)(hm:p.m+1≤40)(hj: ∀i j,i<p.m+1→j<p.N+1→(aq M i j).natAbs≤10^p.E k): ∀q∈lE p s,D (p.T k+1) q:=by obtain ⟨U,ab⟩:=vA h hm hj;have hd:=h.fU;refine MU (fun q aB=> ?_) (fun i aa=>xj J (o6 (U i p.N J (gH _))) (o6 ab));rw [EN aB];exact BI _
theorem adI {M:ck}{s:b9}(h:Inv p.m p.N M s)(hm:p.m+1≤40)(hj: ∀i j,i<p.m+1→j<p.N+1→(aq M i j).natAbs≤10^p.E k){c:Nat}(av:c<p.N): ∀q∈og p s c,D (p.T k+1) q:=by
 obtain ⟨U,ab⟩:=vA h hm hj;have hd:=h.fU;have aO: ∀q∈List.replicate p.n (0:Rat),D (p.T k+1) q:=fun q aB=>by rw [EN aB];exact BI _
 refine MU (fun q aB=> ?_) (fun i aa=>xj J (by rw [p7];exact o6 (U i c J J)) (o6 ab));unfold kU at aB;split at aB
 ·rcases xE aB with aL|aL
  ·exact aO q aL
  ·rw [aL];exact KW _
 ·exact aO q aB
theorem Rk {M:ck}{s:b9}(aJ:p.hg)(ao:p.rT k)(h:Inv p.m p.N M s)(hm:p.m+1≤40)(hj: ∀i j,i<p.m+1→j<p.N+1→(aq M i j).natAbs≤10^p.E k){f:Nat}(x5:0<f)(aN:f≤10^(k*p.n)): ∀q∈kK p s (s.den*(f:Nat)),D (p.W k) q:=by
 obtain ⟨U,ab⟩:=vA h hm hj;have hd:=h.fU;intro q aB;obtain ⟨i,aa,rfl⟩:=da.1 aB;have aa:i<p.m:=by simpa using aa
 have e0:s.den*(f:Nat)≠0:=by have:=vZ hd (show (0:Int)<((f:Nat):Int) by omega);omega
 have hw:=lI p;have Cy:(s.den*(f:Nat)).natAbs≤10^(p.T k+k*p.n):=by rw [kf,k1,jm];exact jB ab aN
 have gx:D (p.T k+k*p.n+1) (Rat.divInt (aq s.rows p.m (p.n+i)) (s.den*(f:Nat))):=
  xj e0 (o6 (dT (U p.m (p.n+i) (gH _) J) (gp a6 (pk _ _)))) (o6 Cy)
 refine (gx.mul (Gi (ao.I7 i aa))).mono ?_;unfold Prog.W;have:k*p.n≤k*(p.n+1):=h5 k (Nat.le_succ p.n);omega
theorem afO {M:ck}{s:b9}(h:Inv p.m p.N M s)(hm:p.m+1≤40)(hj: ∀i j,i<p.m+1→j<p.N+1→(aq M i j).natAbs≤10^p.E k){f:Nat}(x5:0<f)(aN:f≤10^(k*p.n)):D (p.W k) (Rat.divInt (aq s.rows p.m p.N) (s.den*(f:Nat))):=by
 obtain ⟨U,ab⟩:=vA h hm hj;have hd:=h.fU;have e0:s.den*(f:Nat)≠0:=by have:=vZ hd (show (0:Int)<((f:Nat):Int) by omega);omega
 have Cy:(s.den*(f:Nat)).natAbs≤10^(p.T k+k*p.n):=by rw [kf,k1,jm];exact jB ab aN
 have gx:D (p.T k+k*p.n+1) (Rat.divInt (aq s.rows p.m p.N) (s.den*(f:Nat))):=
  xj e0 (o6 (dT (U p.m p.N (gH _) (gH _)) (gp a6 (pk _ _)))) (o6 Cy)
 refine gx.mono ?_;unfold Prog.W;have:k*p.n≤k*(p.n+1):=h5 k (Nat.le_succ p.n);omega
theorem aec (aJ:p.hg)(ao:p.rT k)(hm:p.m+1≤40){K L:Nat}(ax:qW p K L):
 (∀q∈(gF p K L).X,D (p.W k) q)∧(∀q∈(gF p K L).Y,D (p.W k) q)∧(∀q∈(gF p K L).R,D (p.W k) q)∧D (p.W k) (gF p K L).V:=by
 have Ff:p.T k+1≤p.W k:=by unfold Prog.W;omega
 have aO:D (p.W k) 0:=(BI (p.T k)).mono Ff;have FL: ∀q∈([]:List Rat),D (p.W k) q:=fun q aB=>by simp at aB
 unfold gF;by_cases h:0<p.a∧aq (fP p K).rows p.m p.N<0
 ·rw [aG h];obtain ⟨U,ab⟩:=A5 p aJ K;have aw:=Rk aJ ao U hm (M6 aJ ao) (f:=1) a6 (DB _);have e:(fP p K).den*((1:Nat):Int)=(fP p K).den:=J;rw [e] at aw;exact ⟨FL,aw,FL,aO⟩
 ·rw [az h];obtain ⟨U,ab,aw⟩:=Mo p aJ K L (HR aJ h);by_cases bg:gr p.m (p.n+p.m) (jk p K L)<p.n+p.m
  ·rw [aG bg];exact ⟨fun q aB=>(UT U hm (w9 aJ ao) q aB).mono Ff,FL,fun q aB=>(adI U hm (w9 aJ ao) (hE bg (lI p)) q aB).mono Ff,aO⟩
  ·rw [az bg];exact ⟨fun q aB=>(UT U hm (w9 aJ ao) q aB).mono Ff,Rk aJ ao U hm (w9 aJ ao) (BD p) ao.cu,FL,afO U hm (w9 aJ ao) (BD p) ao.cu⟩
theorem aeS (aJ:p.hg)(aF:3≤p.n){B K:Nat}(Fa:0<B)(cZ:B≤10^K)(dn:K≤1441)(iH: ∀r∈p.A,∀q∈r,q.den∣B∧q.num.natAbs≤10^26*q.den)(ak: ∀q∈p.B,q.den∣B∧q.num.natAbs≤10^26*q.den)(dR: ∀q∈p.C,q.den∣1∧q.num.natAbs≤10^26*q.den):p.rT 400:=by
 have key: ∀(l:List Rat) (B f:Nat),f∣B→(∀q∈l,q.den∣B)→hp f l∣B:=by
  intro l;induction l with
  |nil=>intro B f aN _;exact aN
  |cons q r a8=>
   intro B f aN h;refine a8 B _ ?_ (fun x ar=>h x (uA _ ar));have e:f*(q.den/Nat.gcd f q.den)=Nat.lcm f q.den:=by rw [Nat.lcm,Nat.mul_div_assoc _ (B4 f q.den)]
   rw [e];exact Nat.lcm_dvd aN (h q (vT ..))
 have N1: ∀(l:List Rat) (B:Nat),0<B→(∀q∈l,q.den∣B∧q.num.natAbs≤10^26*q.den)→ ∀x∈hn l,x.natAbs≤10^26*B:=by intro l B aO h x ar;obtain ⟨q,aB,rfl⟩:=da.1 ar;obtain ⟨U,ab⟩:=h q aB;rw [kf,k1];have aw:=zA aO (key l B 1 (Nat.one_dvd _) (fun q aB=>(h q aB).1));have bg:=fo (hp 1 l/q.den) ab;rw [ke] at bg;refine dT bg (h5 _ (dT (Nat.mul_div_le _ _) aw))
 have zW: ∀i,i<p.m→ ∀q∈p.full i,q.den∣B∧q.num.natAbs≤10^26*q.den:=fun i aa q aB=>by
  rcases gz.1 aB with h|h
  ·exact iH _ (dx [] (by rw [aJ.rows];exact aa)) q h
  ·rw [hR.1 h];exact ak _ (dx 0 aa)
 have cR:10^26*10^K≤10^p.E 400:=by rw [←jm];exact gp a6 (by unfold Prog.E;omega)
 refine ⟨fun i j aa ae=> ?_,fun j ae=> ?_,fun i aa=> ?_,?_⟩
 ·refine dT (N1 _ B Fa (zW i aa) _ (dx 0 (by show j<(hn (p.full i)).length;rw [He,Hu p aJ aa];exact ae))) (dT (h5 _ cZ) cR)
 ·refine dT (N1 _ 1 Nat.one_pos dR _ (dx 0 (by rw [He];exact ae))) (dT (h5 _ (mM a6)) cR)
 ·refine dT (zA Fa (key _ B 1 (Nat.one_dvd _) (fun q aB=>(zW i aa q aB).1))) (dT cZ (gp a6 J))
 ·exact dT (zA Nat.one_pos (key _ 1 1 (Nat.one_dvd _) (fun q aB=>(dR q aB).1))) (mM a6)
end
end Go.ai.cI
namespace Go.ai.cI
open Go.ai.dL Go.ai.cz Go.ai.c8
theorem Ib {f g:Nat→Rat}: ∀{n:Nat},(∀i,i<n→f i≤g i)→b1 f n≤b1 g n
 |0,_=>Rat.le_refl
 |n+1,h=>by have U:=Ib (n:=n) (fun i aa=>h i J);have ab:=h n (gH n);show b1 f n+f n≤b1 g n+g n;grind
theorem Mz (f:Nat→Rat)(n:Nat):b1 (fun i=> -(f i)) n= -(b1 f n):=by have h:=tQ (-1) f n;have e:b1 (fun i=> -(f i)) n=b1 (fun i=> -1*f i) n:=fJ (fun i _=>by grind);rw [e,h];grind
section
variable {p:Prog}
theorem D0 {a b c:Rat}(av:0≤c)(h:a≤b):a*c≤b*c:=Rat.mul_le_mul_of_nonneg_right h av
end
section
variable {p:Prog}
end
end Go.ai.cI
namespace Go.ai.cI
open Go.ai.dL Go.ai.cz Go.ai.c8
structure zi where
 A:List (List dI)
 B:List dI
 C:List dI
def zi.prog (P:zi):Prog:=⟨qj P.A,P.B.map b4,P.C.map b4⟩
def abF (P:zi)(k x y r:Nat):Prop:=x=(if k=1 then 0 else P.C.length)∧y=(if k=2 then 0 else P.B.length)∧r=(if k=2 then P.C.length else 0)
instance (P:zi)(k x y r:Nat):Decidable (abF P k x y r):=inferInstanceAs (Decidable (_∧_))
section
variable {P:zi}
theorem C5:fQ [45,49] (-1):=by decide+kernel
end
end Go.ai.cI
namespace Go.ai.cI
open Go.ai.dL Go.ai.cz Go.ai.c8
section
variable {P:zi}
end
end Go.ai.cI
namespace Go.ai
variable [bq]
open Go.RowKit
end Go.ai
namespace Go.ai
variable [bq]
open Go.RowKit
def Rh (all:Array Oper)(listed:Array Bool)(idx:List Nat)(j:Nat):Bool:=match all[j]? with
 |some o=>o.after.toList.any (fun e=>Region.binds .any e && (!idx.contains e.on && !listed.getD e.on true))
 |none=>false
def Qs (all:Array Oper)(listed:Array Bool)(idx:List Nat)(nT:List Nat):Bool:=
 (idx.all fun i=> !listed.getD i true && (match all[i]? with
  |some o=>(match o.dst with|some d=> !nT.contains d|none=>false) && o.after.toList.all (fun e=> !Region.binds .any e||(Nat.blt e.on i && (idx.contains e.on||listed.getD e.on false)))
  |none=>false)) &&
 ((List.range all.size).all fun j=>idx.contains j||listed.getD j true||idx.all (fun i=>Iu all idx (idx.length+1) j i)||Rh all listed idx j) &&
 (idx.all fun i=>idx.all fun j=>Nat.beq i j|| !(match all[i]?,all[j]? with|some o,some o'=>o.dst==o'.dst|_,_=>false))
section
variable {P:Program}{fn:Func}{c:Ctx}{fr:Fr}{H:aX}{k:List eh}
theorem fe {all:Array Oper}{fuel:Nat}{listed Au:Array Bool}(idx:List Nat)(et:Fr)(dn:j8 fr et)(CL:Qs all listed idx (et.map (·.1))=true)(k6:idx.Nodup)(hd:o4 fn.ntmps all.toList=true)(au:yT listed idx=Au)(h:lH P fn c H all et idx [] (fun st=>ai P fn c (.any all fuel Au k) (st.map (·.2)++et) H)):ai P fn c (.any all (fuel+idx.length) listed k) fr H:=by
 obtain ⟨st,dB,tj,dH⟩:=Rp h (fun s ax=>by simp at ax);rw [v8,kB] at tj;clear h;unfold Qs at CL;simp only [ei] at CL;obtain ⟨⟨wH,Qq⟩,Qr⟩:=CL;rw [uy] at wH Qq Qr;have ej: ∀i,i∈idx↔ ∃s∈st,s.1=i:=fun i=>by
  have:i∈idx.reverse↔ ∃s∈st,s.1=i:=by rw [←tj];simp
  rw [←this,List.mem_reverse]
 have hlen:st.length=idx.length:=by have:=congrArg List.length tj;simpa using this
 have PC:(st.map (·.1)).Nodup:=by rw [tj];exact (List.reverse_perm idx).nodup_iff.2 k6
 have bC: ∀i∈idx,i<listed.size:=fun i aa=>by
  have:=wH i aa;simp only [ei,xP] at this;rcases ga i listed.size with q|q
  ·exact q
  ·have U:=this.1;simp only [Array.getD,show¬i<listed.size by omega,dite_false] at U;cases U
 --the induction
 have key: ∀(m:Nat) (cur:Array Bool) (fr:Fr),cur.size=listed.size→(∀j,j∉idx→cur[j]? =listed[j]?)→Df cur st=m→(∀s∈st,cur.getD s.1 true=true→look s.2.1 fr=some s.2.2)→j8 fr et→(∀lZ∈idx,cur.getD lZ true=true→ ∀o,all[lZ]? =some o→ ∀e∈o.after,Region.binds .any e=true→cur.getD e.on false=true)→ai P fn c (.any all (fuel+m) cur k) fr H:=by
  intro m;induction m with
  |zero=>
   intro cur fr uT zS oK Fo nM gZ;have gP: ∀s∈st,cur.getD s.1 true=true:=fun s ax=>by
    cases aB:cur.getD s.1 true with
    |true=>rfl
    |false=>
     exfalso;have aO:st.filter (fun s=> !cur.getD s.1 true)=[]:=uC.1 oK;have:s∈st.filter (fun s=> !cur.getD s.1 true):=xB.2 ⟨ax,by rw [aB];rfl⟩;rw [aO] at this;simp at this
   have iJ:cur=Au:=by
    rw [←au];apply Array.ext_getElem?;intro j;rcases ga j listed.size with q|q
    ·rw [Rq idx listed j q];by_cases ae:j∈idx
     ·rw [aG ae];obtain ⟨s,qh,pG⟩:=(ej j).1 ae;have:=gP s qh;rw [pG] at this;simp only [Array.getD,show j<cur.size by omega,uv] at this;rw [Array.getElem?_eq_getElem J];exact congrArg some this
     ·rw [az ae];exact zS j ae
    ·rw [Array.getElem?_eq_none J,Array.getElem?_eq_none (by rw [Ro];omega)]
   subst iJ;intro w a σ S ad;refine dB w a σ S (ad.weaken (GD fun p aJ=> ?_));rcases gz.1 aJ with q|q
   ·obtain ⟨s,bO,bW⟩:=da.1 q;rw [←bW];exact Fo s bO (gP s bO)
   ·exact GF nM p q
  |succ m a8=>
   intro cur fr uT zS oK Fo nM gZ
   --some step is left
   obtain ⟨j1,rh,Kj⟩: ∃s∈st,cur.getD s.1 true=false:=by
    rcases aB:st.filter (fun s=> !cur.getD s.1 true) with _|⟨s,r⟩
    ·unfold Df at oK;rw [aB] at oK;simp at oK
    ·have:s∈st.filter (fun s=> !cur.getD s.1 true):=by rw [aB];simp
     obtain ⟨U,ab⟩:=xB.1 this;exact ⟨s,U,by simpa using ab⟩
   have iw: ∀i∈Region.ready .any all cur,i∈idx∧cur.getD i true=false:=by
    intro i aa;obtain ⟨U,o,aj,Cz⟩:=mem_ready.1 aa;refine ⟨?_,U⟩;apply xL;intro Af;have ZJ:i<all.size:=(Array.getElem?_eq_some_iff.1 aj).1;have:=Qq i (q2.2 ZJ);simp only [uE,aj] at this;rcases this with ((q|q)|q)|q
    ·exact Af (by simpa using q)
    ·have JD:=zS i Af;have ab:listed.getD i true=cur.getD i true:=by simp only [xN,JD]
     rw [ab,U] at q;cases q
    ·rw [uy] at q;have aw:=Rx gZ _ i j1.1 (q j1.1 ((ej j1.1).2 ⟨j1,rh,rfl⟩)) (fun o' cU e he ak=>by
      rw [aj] at cU;obtain rfl:=p3 cU;exact Cz e he ak)
     rw [aw] at Kj;cases Kj
    ·unfold Rh at q;rw [aj] at q;obtain ⟨e,CC,jG⟩:=nC.1 q;simp only [ei,xP] at jG;obtain ⟨ak,b2,jo⟩:=jG;have Z4:e.on∉idx:=fun q=>by
      have:idx.contains e.on=true:=by simpa using q
      rw [this] at b2;cases b2
     have iK:=Cz e (zr.1 CC) ak;have JD:=zS e.on Z4;rw [xN] at iK jo;rw [JD] at iK;cases ar:listed[e.on]? with
     |none=>rw [ar] at iK;cases iK
     |some b=>
      rw [ar] at iK jo;have aD:b=true:=iK;have aE:b=false:=jo;rw [aD] at aE;cases aE
   have b2:Region.ready .any all cur≠[]:=by
    intro aO
    --the least one that is left
    have hex: ∃i,i∈idx∧cur.getD i true=false:=⟨j1.1,(ej j1.1).2 ⟨j1,rh,rfl⟩,Kj⟩
    have least: ∀n i,i≤n→i∈idx→cur.getD i true=false→False:=by
     intro n;induction n with
     |zero=>
      intro i aa lW CE;have U:=wH i lW;simp only [ei] at U;cases ye:all[i]? with
      |none=>rw [ye] at U;exact absurd U.2 bZ
      |some o=>
       rw [ye] at U;simp only [ei] at U;have ab:=uy.1 U.2.2;have:i∈Region.ready .any all cur:=mem_ready.2 ⟨CE,o,ye,fun e he ak=>by
        have:=ab e (zr.2 he);rw [ak] at this;simp only [Bool.not_true,zv,ei] at this;have:=ir this.1;omega⟩
       rw [aO] at this;simp at this
     |succ n abc=>
      intro i aa lW CE;have U:=wH i lW;simp only [ei] at U;cases ye:all[i]? with
      |none=>rw [ye] at U;exact absurd U.2 bZ
      |some o=>
       rw [ye] at U;simp only [ei] at U;have ab:=uy.1 U.2.2;have:i∈Region.ready .any all cur:=mem_ready.2 ⟨CE,o,ye,fun e he ak=>by
        have aw:=ab e (zr.2 he);rw [ak] at aw;simp only [Bool.not_true,zv,ei,uE] at aw;have wm:e.on<i:=ir aw.1;by_cases Fq:e.on∈idx
        ·cases aB:cur.getD e.on true with
         |false=>exact (abc e.on J Fq aB).elim
         |true=>
          have cq:=bC e.on Fq;simp only [Array.getD,show e.on<cur.size by omega,uv] at aB⊢;exact aB
        ·rcases aw.2 with q|q
         ·exact absurd (by simpa using q) Fq
         ·have ab:cur.getD e.on false=listed.getD e.on false:=by simp only [xN,zS e.on Fq]
          rw [ab];exact q⟩
       rw [aO] at this;simp at this
    obtain ⟨i,wi,pD⟩:=hex;exact least i i (bR _) wi pD
   refine vk I b2 hd (Sd (fun i aa o aj=> ?_));obtain ⟨lW,CE⟩:=iw i aa;obtain ⟨s,qh,pG⟩:=(ej i).1 lW;obtain ⟨o',K,g1,g2,g3,g4⟩:=dH s qh;rw [pG,aj] at g1;obtain rfl:=p3 g1;obtain ⟨_,o2,FM,Cz⟩:=mem_ready.1 aa;rw [aj] at FM;obtain rfl:=p3 FM;refine g3 _ fr (GD fun p aJ=> ?_) (cK (kL ?_))
   ·rcases g4 p aJ with q|⟨cl,bO,⟨e,bW,dq,dZ⟩,gR⟩
    ·exact GF nM p q
    ·have U:=Cz e bW dq;rw [dZ] at U;rw [←gR];refine Fo cl bO ?_;have cq:=bC cl.1 ((ej cl.1).2 ⟨cl,bO,rfl⟩);simp only [Array.getD,show cl.1<cur.size by omega,uv] at U⊢;exact U
   ·have alw:=bC i lW;refine a8 (cur.setIfInBounds i true) _ (by simpa using uT) (fun j ae=> ?_) ?_ (fun cl gA hu=> ?_) ?_ (agI lW gZ (fun o' cU e he ak=>by rw [aj] at cU;obtain rfl:=p3 cU;exact Cz e he ak))
    ·rw [Array.getElem?_setIfInBounds_ne (show i≠j from fun e=>ae (e▸lW))];exact zS j ae
    ·--one less
     have aN:st.filter (fun cl=> !(cur.setIfInBounds i true).getD cl.1 true)=(st.filter (fun cl=> !cur.getD cl.1 true)).filter (fun cl=>decide (cl.1≠i)):=by
      rw [List.filter_filter];congr 1;funext cl;by_cases aB:cl.1=i
      ·rw [aB];simp [Array.getD,show i<cur.size by omega]
      ·have Ai: ¬i=cl.1:=fun e=>aB e.symm;simp [xN,zl,aB,Ai]
     unfold Df at oK⊢;rw [aN];have J6:s∈st.filter (fun cl=> !cur.getD cl.1 true):=xB.2 ⟨qh,by rw [pG,CE];rfl⟩;have Kb:((st.filter (fun cl=> !cur.getD cl.1 true)).map (·.1)).Nodup:=List.Nodup.sublist (List.Sublist.map _ List.filter_sublist) PC
     revert oK J6 Kb
     generalize st.filter (fun cl=> !cur.getD cl.1 true)=L;intro oK J6 Kb;have gen: ∀(L:Steps) (n:Nat),L.length=n+1→s∈L→(L.map (·.1)).Nodup→(L.filter (fun cl=>decide (cl.1≠i))).length=n:=by
      intro L;induction L with
      |nil=>intro n h;simp at h
      |cons x r KE=>
       intro n aF hm k6;simp only [nE,zz] at k6;rcases fT.1 hm with rfl|hm
       ·have eO: ∀y∈r,y.1≠i:=fun y aY e=>k6.1 (da.2 ⟨y,aY,by rw [e,pG]⟩);have:(r.filter (fun cl=>decide (cl.1≠i)))=r:=List.filter_eq_self.2 (fun y aY=>by simpa using eO y aY);rw [List.filter_cons_of_neg (by simp [pG]),this];simpa using aF
       ·have ar:x.1≠i:=fun e=>k6.1 (da.2 ⟨s,hm,by rw [pG,e]⟩);have FR:0<r.length:=xQ.2 (by rintro rfl;simp at hm);obtain ⟨C4,rfl⟩: ∃C4,n=C4+1:=⟨n-1,by simp at aF;omega⟩
        rw [List.filter_cons_of_pos (by simpa using ar),fZ,KE C4 (by simpa using aF) hm k6.2]
     exact gen L m oK J6 Kb
    ·by_cases aB:cl.1=i
     ·have:cl=s:=by
       have U:s∈st:=qh;have ZH: ∀(L:Steps),(L.map (·.1)).Nodup→ ∀x∈L,∀y∈L,x.1=y.1→x=y:=by
        intro L;induction L with
        |nil=>intro _ x ar;simp at ar
        |cons z r KE=>
         intro k6 x ar y aY CZ;simp only [nE,zz] at k6;rcases fT.1 ar with ar|ar<;>rcases fT.1 aY with aY|aY
         ·rw [ar,aY]
         ·exact absurd (da.2 ⟨y,aY,by rw [←CZ,ar]⟩) k6.1
         ·exact absurd (da.2 ⟨x,ar,by rw [CZ,aY]⟩) k6.1
         ·exact KE k6.2 x ar y aY CZ
       exact ZH st PC cl gA s qh (by rw [aB,pG])
      rw [this];exact agX _ _ _
     ·have U:cur.getD cl.1 true=true:=by have Ai: ¬i=cl.1:=fun e=>aB e.symm;simpa [xN,zl,Ai] using hu
      have ab:=Fo cl gA U
      --another slot
      have Z1:cl.2.1≠s.2.1:=by
       intro e;obtain ⟨vd,_,f1,f2,_,_⟩:=dH cl gA;have aw:=uy.1 (Qr cl.1 ((ej cl.1).2 ⟨cl,gA,rfl⟩)) i lW;rw [f1,aj] at aw;simp only [uE,xP,f2,g2] at aw;rcases aw with aw|aw
       ·exact aB (ot aw)
       ·rw [e] at aw;simp at aw
      show (bif Nat.beq cl.2.1 s.2.1 then some s.2.2 else look cl.2.1 fr)=_;rw [db Z1];exact ab
    ·refine GD fun p aJ=> ?_;have U:=wH i lW;simp only [ei] at U;rw [aj] at U;simp only [g2,ei,xP] at U;have Z2:p.1≠s.2.1:=by
      intro e;have:(et.map (·.1)).contains s.2.1=true:=by rw [List.contains_iff_mem];exact da.2 ⟨p,aJ,e⟩
      rw [U.2.1] at this;cases this
     show (bif Nat.beq p.1 s.2.1 then some s.2.2 else look p.1 fr)=_;rw [db Z2];exact GF nM p aJ
 have tk:Df listed st=idx.length:=by unfold Df;rw [List.filter_eq_self.2 (fun s ax=> ?_),hlen];have:=wH s.1 ((ej s.1).2 ⟨s,ax,rfl⟩);simp only [ei] at this;exact this.1
 have:=key idx.length listed fr rfl (fun _ _=>rfl) tk (fun s ax hu=>by
  have U:=wH s.1 ((ej s.1).2 ⟨s,ax,rfl⟩);simp only [ei,xP] at U;rw [U.1] at hu;cases hu) dn (fun lZ yb hu=>by
  have U:=wH lZ yb;simp only [ei,xP] at U;rw [U.1] at hu;cases hu)
 exact this
end
end Go.ai
namespace Go.ai.cz
open Go.ai.c8 Go.ai.dL
def dv {α:Type}(g:Nat→α)(d:α)(x:List α)(k:Nat):List α:=(List.range x.length).map (fun j=>if j<k then g j else x.getD j d)
theorem pP {α:Type}(g:Nat→α)(d:α)(x:List α)(k:Nat):(dv g d x k).length=x.length:=by simp [dv]
theorem tI {α:Type}(g:Nat→α)(d:α)(x:List α):dv g d x 0=x:=by apply lo (pP _ _ _ _);intro i U ab;simp [dv,List.getD,ab]
theorem qC {α:Type}(g:Nat→α)(d:α)(x:List α){k i:Nat}(aa:i<x.length):(dv g d x k).getD i d=if i<k then g i else x.getD i d:=by unfold dv;rw [qA _ _ 0 _ _ (by simpa using aa)];simp [List.getD,aa]
theorem sL {α:Type}(g:Nat→α)(d:α)(x:List α){k:Nat}(ao:k<x.length):(dv g d x k).set k (g k)=dv g d x (k+1):=by
 apply lo (by simp [dv]);intro i U ab;have aa:i<x.length:=by simpa [dv] using ab
 have aD:=qC g d x (k:=k+1) aa;rw [e9 d ab] at aD;rw [aD,xJ];by_cases qf:k=i
 ·subst qf;simp
 ·have aE:=qC g d x (k:=k) aa;rw [e9 d (by rw [pP];exact aa)] at aE;rw [az qf,aE];by_cases aw:i<k
  ·rw [aG aw,aG J]
  ·rw [az aw,az J]
theorem vB {α:Type}(g:Nat→α)(d:α)(x:List α):dv g d x x.length=(List.range x.length).map g:=by unfold dv;refine lr (fun j ae=> ?_);rw [aG (by simpa using ae)]
theorem WZ {α:Type}(g:Nat→α)(d:α)(x:List α){k:Nat}(ao:k<x.length)(h:g k=x.getD k d):dv g d x (k+1)=dv g d x k:=by
 rw [←sL g d x ao,h];apply lo (by simp [dv]);intro i U ab;rw [xJ];split
 ·rename_i e;subst e;have aE:=qC g d x (k:=k) ao;rw [az (ov k)] at aE;rw [←e9 d ab,aE]
 ·rfl
structure Perm (n:Nat)(NF:List Nat)(X:ck):Prop where
 len:NF.length=n
 alT:X.length=n
 eP:NF.Nodup
 lt: ∀a∈NF,a<n
def js (T:ck)(k c:Nat)(d:Int)(i:Nat):List Int:=if i=k then T.getD k [] else xa (T.getD i []) (T.getD k []) (aq T k c) (aq T i c) d
theorem MI (T:ck)(k c:Nat)(d:Int):n9 T k c d=dv (js T k c d) [] T T.length:=by rw [vB];rfl
def wJ (R K:List Int)(p f d:Int)(j:Nat):Int:=pR (R.getD j 0*p-f*K.getD j 0) d
theorem adX (R K:List Int)(p f d:Int):xa R K p f d=dv (wJ R K p f d) 0 R R.length:=by rw [vB];rfl
end Go.ai.cz
namespace Go.ai.qY
open Go.ai.c8 (Dq)
end Go.ai.qY
namespace Go.ai
variable [bq]
section
variable {P:Program}{fn:Func}{c:Ctx}{fr:Fr}{H:aX}{k:List eh}
theorem G7 {x:Code}(h:Nat)(o:bk){bc:bk}(c':Cells)(aU:H[h]? =some (some bc))(aj:o.c.len=0)(U:c'.len=bc.c.len)(ab:c'.bU=bc.c.bU)(aw: ∀i j,i<bc.c.len→j<bc.c.aC→c'.at i j=bc.c.at i j∨(bc.c.at i j= .nil∧c'.at i j= .aA H.length 0 0))(ao:ai P fn c (.code x k) fr ((H++[some o]).set h (some ⟨bc.ty,c'⟩))):ai P fn c (.code x k) fr H:=by
 intro w a σ S ad;have g1:=ad.acm aj;have bC:h<H.length:=(gL.1 aU).1;have ZC:(H++[some o])[h]? =some (some bc):=by rw [hQ bC];exact aU
 refine ao w a _ S (g1.adN ZC U ab (fun i j v aa ae ah=> ?_));rcases aw i j aa ae with e|⟨aD,aE⟩
 ·rw [e];exact ah
 ·rw [aD] at ah;rw [aE];cases ah;exact .hW _ _ (by simp [cN])
end
end Go.ai
namespace Go.ai
variable [bq]
open Go.RowKit
section
variable {ind:Bool}{P:Program}{fn:Func}{c:Ctx}{fr:Fr}{H:aX}{k:List eh}
variable {d:Option Nat}{ty:TypeId}{pos:String}{after:Array Edge}{g:Option (Nat×Bool)}
theorem LD {x:Operand}{t:TypeId}{u:TypeDesc}{h i:Nat}{nU:TypeId}{dY:IntKind}{l:List Int}(bs:P.underlying t=some u)(hu:iP u=false)(ar:bA fr x=some (.ptr h i 0))(aU:H[h]? =some (some ⟨nU,.ints dY l⟩))(aa:i<l.length):
 bV false P fn c fr H ⟨d,.load t x,ty,pos,after,g⟩ (.int dY (l.getD i 0)):=Dn bs hu ar aU aa
theorem Dk {x:Operand}{t:TypeId}{u:TypeDesc}{h i j:Nat}{nU:TypeId}{n s:Nat}{f:Nat→Nat→al}(bs:P.underlying t=some u)(hu:iP u=false)(ar:bA fr x=some (.ptr h i j))(aU:H[h]? =some (some ⟨nU,.fn n s f⟩))(ae:Nat.blt j s=true)(aa:i<n):
 bV false P fn c fr H ⟨d,.load t x,ty,pos,after,g⟩ (f i j):=AO bs hu ar aU ae aa
end
end Go.ai
namespace Go.ai.cI
open Go.ai.dL Go.ai.cz Go.ai.c8
def C7:Option Nat→Int
 |none=> -1
 |some b=>(b:Int)
section
variable {T:ck}{β:List Nat}{c e k b:Nat}
theorem air (h:aq T k c≤0):jd T β c e (k+1)=jd T β c e k:=by
 rw [jd];cases jd T β c e k with
 |none=>show (if _ then _ else _)=_;rw [aG h]
 |some b=>show (if _ then _ else _)=_;rw [aG h]
theorem ahq (h: ¬aq T k c≤0)(au:jd T β c e k=none):jd T β c e (k+1)=some k:=by rw [jd,au];show (if _ then _ else _)=_;rw [az h]
theorem aiq (h: ¬aq T k c≤0)(au:jd T β c e k=some b):jd T β c e (k+1)=if yY T β c e k b then some k else some b:=by rw [jd,au];show (if _ then _ else _)=_;rw [az h]
end
theorem Uv (o:Option Nat):(C7 o<0)=(o=none):=by
 apply propext;cases o with
 |none=>exact ⟨fun _=>rfl,fun _=>by show (-1:Int)<0;omega⟩
 |some b=>exact ⟨fun h=>absurd h (by show¬(b:Int)<0;omega),fun h=>by cases h⟩
section
variable {m N w:Nat}{s:b9}
theorem SI {k:Nat}(h:il m N w (eB m N w s k)=none): ∀j,eB m N w s (k+j)=eB m N w s k
 |0=>rfl
 |j+1=>by have e:=SI h j;show (il m N w (eB m N w s (k+j))).getD (eB m N w s (k+j))=_;rw [e,h];rfl
theorem abh {k K:Nat}(h:il m N w (eB m N w s k)=none)(ao:k≤K):eB m N w s K=eB m N w s k:=by
 obtain ⟨j,rfl⟩: ∃j,K=k+j:=⟨K-k,J⟩
 exact SI h j
theorem ajF {k:Nat}{cl:b9}(h:il m N w (eB m N w s k)=some cl):eB m N w s (k+1)=cl:=by show (il m N w (eB m N w s k)).getD _=_;rw [h];rfl
def AF (m w:Nat)(s:b9):Int:=if gr m w s=w then-1 else (gr m w s:Int)
theorem ajl (h:gr m w s=w):il m N w s=none:=by unfold il;unfold gr at h;rw [aG h]
theorem ajk (h:gr m w s≠w)(au:jd s.rows s.basis (gr m w s) N m=none):il m N w s=none:=by unfold il;unfold gr at h au;rw [az h,au]
theorem afg (h:gr m w s≠w){r:Nat}(au:jd s.rows s.basis (gr m w s) N m=some r):il m N w s=some (ie s r (gr m w s)):=by unfold il;unfold gr at h au⊢;rw [az h,au]
end
theorem ahC {T:ck}{m f c:Nat}(h:aq T m c<0):l7 T m f c=c:=by
 cases f with
 |zero=>rfl
 |succ f=>rw [l7,aG h]
theorem XP {T:ck}{m f c:Nat}(h: ¬aq T m c<0):l7 T m (f+1) c=l7 T m f (c+1):=by rw [l7,az h]
theorem acp {T:ck}{i f c:Nat}(h:aq T i c≠0):iL T i f c=c:=by
 cases f with
 |zero=>rfl
 |succ f=>rw [iL,aG h]
theorem aco {T:ck}{i f c:Nat}(h: ¬aq T i c≠0):iL T i (f+1) c=iL T i f (c+1):=by rw [iL,az h]
def fg (m:Nat)(s:b9):b9:=⟨s.rows.take m,s.den,s.basis⟩
theorem w0 {T:ck}{m i:Nat}(aa:i<m)(j:Nat):aq (T.take m) i j=aq T i j:=by unfold aq;simp only [List.getD,pj,aG aa]
theorem TJ {T:ck}{m i:Nat}(aa:i<m):(T.take m).getD i []=T.getD i []:=by simp only [List.getD,pj,aG aa]
theorem aju {T:ck}{m r c:Nat}{d:Int}(ad:r<m)(hm:m≤T.length):n9 (T.take m) r c d=(n9 T r c d).take m:=by
 rw [MI,MI,vB,vB,←List.map_take,List.take_range,ff,hF hm];refine lr (fun i aa=> ?_);have aa:i<m:=by simpa using aa
 unfold js;rw [TJ ad,TJ aa,w0 ad,w0 aa]
theorem acY {s:b9}{m r c:Nat}(ad:r<m)(hm:m≤s.rows.length):ie (fg m s) r c=fg m (ie s r c):=by
 unfold ie fg ka;simp only [w0 ad,aju ad hm];split
 ·rw [List.map_take]
 ·rfl
theorem Qm {T:ck}{m i:Nat}(aa:i<m): ∀f c,iL (T.take m) i f c=iL T i f c
 |0,c=>rfl
 |f+1,c=>by rw [iL,iL,w0 aa,Qm aa f (c+1)]
theorem ajs {s:b9}{m w k:Nat}(ao:k<m)(hm:m≤s.rows.length):rv w (fg m s) k=fg m (rv w s k):=by
 unfold rv;rw [show (fg m s).basis=s.basis from rfl,show (fg m s).rows=s.rows.take m from rfl,Qm ao];split
 ·rfl
 ·split
  ·rfl
  ·exact acY ao hm
theorem Hi {s:b9}{w:Nat}: ∀k,(iO w s k).rows.length=s.rows.length
 |0=>rfl
 |k+1=>by
  rw [iO];unfold rv;split
  ·exact Hi k
  ·split
   ·exact Hi k
   ·show (ka _ _ _ _).length=_;rw [MR];exact Hi k
theorem LO {s:b9}{m w:Nat}(hm:m≤s.rows.length): ∀k,k≤m→iO w (fg m s) k=fg m (iO w s k)
 |0,_=>rfl
 |k+1,ao=>by rw [iO,iO,LO hm k J];exact ajs J (by rw [Hi];exact hm)
def kR (w N:Nat)(s:b9)(i:Nat):List Int:=(List.range (N+1)).map (fun j=> -(bX (fun q=>if w≤s.basis.getD q 0 then aq s.rows q j else 0) i))
def jc (w a N:Nat)(s:b9)(m k:Nat):List Int:=(List.range (N+1)).map (fun j=>if w≤j∧j<w+k then 0 else (kR w N s m).getD j 0)
def lg (k:Nat→Int)(N:Nat)(s:b9)(i:Nat):List Int:=(List.range (N+1)).map (fun j=>s.den*k j-bX (fun q=>k (s.basis.getD q 0)*aq s.rows q j) i)
theorem Hf (w N:Nat)(s:b9)(i:Nat):(kR w N s i).length=N+1:=by simp [kR]
theorem Hh (k:Nat→Int)(N:Nat)(s:b9)(i:Nat):(lg k N s i).length=N+1:=by simp [lg]
theorem DE {w N:Nat}{s:b9}{i j:Nat}(ae:j<N+1):(kR w N s i).getD j 0= -(bX (fun q=>if w≤s.basis.getD q 0 then aq s.rows q j else 0) i):=oV ae
theorem Hg {k:Nat→Int}{N:Nat}{s:b9}{i j:Nat}(ae:j<N+1):(lg k N s i).getD j 0=s.den*k j-bX (fun q=>k (s.basis.getD q 0)*aq s.rows q j) i:=oV ae
theorem aib {w N:Nat}{s:b9}{i:Nat}(h: ¬w≤s.basis.getD i 0):kR w N s (i+1)=kR w N s i:=by unfold kR;refine lr (fun j _=> ?_);show-(bX _ i+(if w≤s.basis.getD i 0 then aq s.rows i j else 0))=_;rw [az h];omega
theorem aia {w N:Nat}{s:b9}{i j:Nat}(h:w≤s.basis.getD i 0)(ae:j<N+1):(kR w N s (i+1)).getD j 0=(kR w N s i).getD j 0-aq s.rows i j:=by rw [DE ae,DE ae];show-(bX _ i+(if w≤s.basis.getD i 0 then aq s.rows i j else 0))=_;rw [aG h];omega
theorem aie {k:Nat→Int}{N:Nat}{s:b9}{i:Nat}(h:k (s.basis.getD i 0)=0):lg k N s (i+1)=lg k N s i:=by unfold lg;refine lr (fun j _=> ?_);show _-(bX _ i+k (s.basis.getD i 0)*aq s.rows i j)=_;rw [h,iW];omega
theorem aid {k:Nat→Int}{N:Nat}{s:b9}{i j:Nat}(ae:j<N+1):(lg k N s (i+1)).getD j 0=(lg k N s i).getD j 0+ -(k (s.basis.getD i 0))*aq s.rows i j:=by rw [Hg ae,Hg ae];show _-(bX _ i+k (s.basis.getD i 0)*aq s.rows i j)=_;rw [p9];omega
theorem vu {l fV:List Int}{n:Nat}(U:l.length=n)(ab:fV.length=n)(h: ∀j,j<n→l.getD j 0=fV.getD j 0):l=fV:=by apply lo J;intro j g1 g2;have:=h j J;rw [e9 0 g1,e9 0 g2] at this;exact this
theorem aic (w N:Nat)(s:b9):kR w N s 0=List.replicate (N+1) 0:=by refine vu (Hf ..) bZ (fun j ae=> ?_);rw [DE ae];show-(0:Int)=_;simp [List.getD,ae]
theorem N8 {l fV:List Int}{n:Nat}(U:l.length=n)(ab:fV.length=n):dv (fun j=>fV.getD j 0) 0 l n=fV:=by rw [←U,vB];refine vu (n:=n) (by simp [U]) ab (fun j ae=> ?_);exact oV J
theorem MA {B:Nat}: ∀{n:Nat} {f:Nat→Int},(∀i,i<n→(f i).natAbs≤B)→(bX f n).natAbs≤n*B
 |0,f,_=>by rw [s0];exact bR 0
 |n+1,f,h=>by have U:=MA (n:=n) (f:=f) (fun i aa=>h i J);have ab:=h n (gH n);show (bX f n+f n).natAbs≤_;have aw:=Int.natAbs_add_le (bX f n) (f n);rw [Nat.succ_mul];omega
theorem Wq (p:Prog){k:Nat}(ao:k<p.a): ∃i,i<p.m∧p.neg i=true∧eL p.B i=k:=by
 have key: ∀n,k<eL p.B n→ ∃i,i<n∧p.neg i=true∧eL p.B i=k:=by
  intro n;induction n with
  |zero=>intro h;exact absurd h (gy k)
  |succ n a8=>
   intro h;by_cases aF:(p.B.getD n 0).num<0
   ·rw [TX aF] at h;by_cases e:eL p.B n=k
    ·exact ⟨n,J,by simpa using aF,e⟩
    ·obtain ⟨i,U,ab⟩:=a8 J;exact ⟨i,J,ab⟩
   ·have e:eL p.B (n+1)=eL p.B n:=by show (eb _ _).length=_;rw [eb,az aF]
    rw [e] at h;obtain ⟨i,U,ab⟩:=a8 h;exact ⟨i,J,ab⟩
 exact key _ ao
theorem ahX (p:Prog)(i:Nat)(aa:i=p.a):jc (p.n+p.m) p.a p.N (fs p) p.m i=Br (ho p) p.m p.N (fs p):=by
 subst aa;have jX:p.N=p.n+p.m+p.a:=rfl;have hinv:=A9 p;have hd:(fs p).den=1:=rfl;unfold jc Br;refine lr (fun j ae=> ?_);have ae:j<p.N+1:=by simpa using ae
 rw [DE ae,hd,lq];have ao: ∀q,q<p.m→(if p.n+p.m≤(fs p).basis.getD q 0 then aq (fs p).rows q j else 0)=ho p ((fs p).basis.getD q 0)*aq (fs p).rows q j:=by
  intro q aB;have:=hinv.pr q aB;unfold ho;by_cases h:p.n+p.m≤(fs p).basis.getD q 0
  ·rw [aG h,aG ⟨h,this⟩,lq]
  ·rw [az h,az (fun e=>h e.1),iW]
 rw [fW ao];by_cases h:p.n+p.m≤j∧j<p.n+p.m+p.a
 ·rw [aG h];obtain ⟨k,rfl⟩: ∃k,j=p.n+p.m+k:=⟨j-(p.n+p.m),J⟩
  have z7:k<p.a:=J;have U:ho p (p.n+p.m+k)=1:=by unfold ho;rw [aG J]
  rw [U]
  --the row of this artificial unknown
  obtain ⟨i,aa,jZ,qf⟩:=Wq p z7;have ak:(fs p).basis.getD i 0=p.n+p.m+k:=by show (je p).getD i 0=_;rw [G4 p aa,aG jZ,qf]
  have hu: ∀q,q<p.m→aq (fs p).rows q (p.n+p.m+k)=if q=i then 1 else 0:=by intro q aB;have:=hinv.unit q i J aa;rw [ak,hd] at this;exact this
  rw [w7 i aa (fun q aB b2=>by rw [hu q aB,az b2,gd]),hu i aa,aG rfl,ak,U];rfl
 ·rw [az h];have:ho p j=0:=by unfold ho;rw [az J]
  rw [this];omega
theorem ahJ (T:ck)(L hN:List Int):j5 (T++[L]) T.length hN=T++[hN]:=by unfold j5;rw [List.take_left]
theorem acT (p:Prog):(yt p).rows=h0 p++[Br (ho p) p.m p.N (fs p)]:=by show j5 (h0 p++[_]) p.m _=_;rw [←vr p];exact ahJ _ _ _
theorem Mj (p:Prog):fg p.m (fs p)=⟨h0 p,1,je p⟩:=by show (⟨(h0 p++[_]).take p.m,1,je p⟩:b9)=_;rw [←vr p,List.take_left]
theorem abQ (p:Prog)(K:Nat)(h:p.a=0):fg p.m (gQ p K)=⟨h0 p,1,je p⟩:=by unfold gQ;rw [aG h];exact Mj p
theorem Ur (p:Prog)(aJ:p.hg)(K:Nat)(h:p.a≠0):fg p.m (gQ p K)=iO (p.n+p.m) (fg p.m (fP p K)) p.m:=by unfold gQ;rw [az h];refine (LO ?_ p.m (bR _)).symm;rw [(A5 p aJ K).1.n];exact Nat.le_succ _
theorem acU (p:Prog)(K:Nat):(ts p K).rows=(fg p.m (gQ p K)).rows++[lg (eC p) p.N (gQ p K) p.m]:=rfl
theorem ajr {k:Nat→Int}{N m i:Nat}{s:b9}(aa:i≤m):lg k N (fg m s) i=lg k N s i:=by unfold lg;refine lr (fun j _=> ?_);show s.den*k j-bX (fun q=>k (s.basis.getD q 0)*aq (s.rows.take m) q j) i=_;congr 1;refine fW (fun q aB=> ?_);rw [w0 J]
theorem AS (w a N:Nat)(s:b9)(m k:Nat):(jc w a N s m k).length=N+1:=by simp [jc]
theorem LN {w a N:Nat}{s:b9}{m k j:Nat}(ae:j<N+1):(jc w a N s m k).getD j 0=if w≤j∧j<w+k then 0 else (kR w N s m).getD j 0:=oV ae
theorem ahk (w a N:Nat)(s:b9)(m:Nat):jc w a N s m 0=kR w N s m:=by refine vu (AS ..) (Hf ..) (fun j ae=> ?_);rw [LN ae,az J]
theorem ahZ {w a N:Nat}{s:b9}{m k:Nat}(ao:w+k<N+1):(jc w a N s m k).set (w+k) 0=jc w a N s m (k+1):=by
 refine vu (by rw [dj];exact AS ..) (AS ..) (fun j ae=> ?_);rw [Go.ai.dL.fG,LN ae,LN ae,AS];by_cases U:j=w+k
 ·rw [aG ⟨U,ao⟩,aG J]
 ·rw [az (fun q=>U q.1)];by_cases ab:w≤j∧j<w+k
  ·rw [aG ab,aG J]
  ·rw [az ab,az J]
theorem ajo {w N E:Nat}{s:b9}{i j:Nat}(aa:i≤100)(h: ∀q,q<i→(aq s.rows q j).natAbs≤10^E)(ae:j<N+1):((kR w N s i).getD j 0).natAbs≤10^(E+2):=by
 rw [DE ae,p7];have U:=MA (B:=10^E) (n:=i) (f:=fun q=>if w≤s.basis.getD q 0 then aq s.rows q j else 0) (fun q aB=>by
  show (if w≤s.basis.getD q 0 then aq s.rows q j else 0).natAbs≤_;split
  ·exact h q aB
  ·exact cf _)
 refine dT U ?_;rw [jm,gM];exact h5 _ aa
theorem ajp {w N m i:Nat}{s:b9}(aa:i≤m):kR w N (fg m s) i=kR w N s i:=by unfold kR;refine lr (fun j _=> ?_);congr 1;refine fW (fun q aB=> ?_);show (if w≤s.basis.getD q 0 then aq (s.rows.take m) q j else 0)=_;rw [w0 J]
theorem ahY {w a N m k:Nat}{s:b9}:jc w a N (fg m s) m k=jc w a N s m k:=by unfold jc;rw [ajp (bR _)]
def nw (n N:Nat)(W:List Int):List Int:=(List.range (N+1)).map (fun j=>if j<n then W.getD j 0 else 0)
def n5 (n m a:Nat)(W:List Int)(i:Nat):List Int:=(List.range (n+m+a+1)).map (vI n m a W i)
theorem Hn (n N:Nat)(W:List Int):(nw n N W).length=N+1:=by simp [nw]
theorem wU (n m a:Nat)(W:List Int)(i:Nat):(n5 n m a W i).length=n+m+a+1:=by simp [n5]
theorem aiv {N:Nat}{W:List Int}:nw 0 N W=List.replicate (N+1) 0:=by refine vu (Hn ..) bZ (fun j ae=> ?_);rw [show (nw 0 N W).getD j 0=0 from (oV ae).trans (az (gy j))];simp [List.getD,ae]
theorem acx {n m a i:Nat}{W:List Int}(aa:i<m):((nw n (n+m+a) W).set (n+i) 1).set (n+m+a) (W.getD n 0)=n5 n m a W i:=by
 refine vu (n:=n+m+a+1) (by rw [dj,dj];exact Hn ..) (wU ..) (fun j ae=> ?_);rw [Go.ai.dL.fG,Go.ai.dL.fG,dj,Hn,show (n5 n m a W i).getD j 0=vI n m a W i j from oV ae,show (nw n (n+m+a) W).getD j 0=(if j<n then W.getD j 0 else 0) from oV ae];unfold vI;by_cases U:j=n+m+a
 ·rw [aG ⟨U,J⟩,az J,az J,aG U]
 ·rw [az (fun q=>U q.1)];by_cases ab:j=n+i
  ·rw [aG ⟨ab,J⟩,az J,aG ab]
  ·rw [az (fun q=>ab q.1)];by_cases aw:j<n
   ·rw [aG aw,aG aw]
   ·rw [az aw,az aw,az ab,az U]
theorem ace {n m a i:Nat}{W:List Int}:dv (fun j=> -((n5 n m a W i).getD j 0)) 0 (n5 n m a W i) (n+m+a+1)=(n5 n m a W i).map (fun x=> -x):=by have e:=vB (fun j=> -((n5 n m a W i).getD j 0)) 0 (n5 n m a W i);rw [wU] at e;rw [e];refine vu (n:=n+m+a+1) bZ (by rw [cL];exact wU ..) (fun j ae=> ?_);rw [show ((List.range (n+m+a+1)).map (fun j=> -((n5 n m a W i).getD j 0))).getD j 0= -((n5 n m a W i).getD j 0) from oV ae,qA _ _ 0 _ _ (by rw [wU];exact ae)]
theorem adY {n m a i k:Nat}{W:List Int}(ao:k<a):((n5 n m a W i).map (fun x=> -x)).set (n+m+k) 1=tP n m a W i true k:=by
 refine vu (n:=n+m+a+1) (by rw [dj,cL];exact wU ..) (by simp [tP]) (fun j ae=> ?_);rw [Go.ai.dL.fG,cL,wU,show (tP n m a W i true k).getD j 0=xe n m a W i true k j from oV ae];unfold xe;rw [aG rfl];by_cases h:j=n+m+k
 ·rw [aG ⟨h,J⟩,aG h]
 ·rw [az (fun q=>h q.1),az h,qA _ _ 0 _ _ (by rw [wU];exact ae)];exact congrArg (fun x:Int=> -x) (oV ae)
theorem adZ {n m a i k:Nat}{W:List Int}:n5 n m a W i=tP n m a W i false k:=rfl
theorem SK {α:Type}(l:List α)(d:α){i:Nat}(aa:i<l.length):l.take (i+1)=l.take i++[l.getD i d]:=by rw [List.take_add_one,e9 d aa];simp [aa]
end Go.ai.cI
namespace Go.ai
variable [bq]
open Go.RowKit
theorem cg.Xj {P:Program}{f:FuncId}{args:List al}{H:aX}{fix:Nat→Prop}{K gm:al→aX→Prop}(av:cg P f args H fix K)(dn: ∀r bE,K r bE→ ∃b7 H1,bE=b7++H1∧(∀h,fix h→h<b7.length)∧(∀(h:Nat) (o:bk),b7[h]? =some (some o)→fy b7.length o.c)∧hc b7.length r=true∧gm r b7):cg P f args H fix gm:=by
 refine ⟨av.1,fun w σ S ds aO U ab aw=>Calls.mono (av.2 w σ S ds aO U ab aw) fun e w' he=> ?_⟩;obtain ⟨v,r,bu,bY,bE,g1,g2,g3,g4,g5⟩:=he;obtain ⟨b7,H1,rfl,aN,xY,Jx,ao⟩:=dn _ _ g5;have ax: ∀h,h<b7.length→EY b7.length bu h=bu h:=fun h au=>aG au;have nL: ∀{h:Nat} {o:bk},b7[h]? =some (some o)→h<b7.length∧(b7++H1)[h]? =some (some o):=by intro h o aj;have au:h<b7.length:=(gL.1 aj).1;exact ⟨au,by rw [hQ au];exact aj⟩
 refine ⟨v,r,EY b7.length bu,bY,b7,g1,⟨fun h o aj=> ?_,fun h aL o o' b s C cl cF bO bW aD aE=> ?_,g2.small,fun h au=>az J⟩,g3.uK Jx _ ax,⟨g4.os,g4.output,g4.tape,g4.size,g4.block,g4.hD,g4.e4,fun h aU=>by rw [ax h (aN h aU)];exact g4.fixed h aU,aN,fun h o b s C q e=> ?_⟩,ao⟩
 ·obtain ⟨au,cU⟩:=nL aj;rw [ax h au];rcases g2.live h o cU with g|⟨b,C,cur,eF,eG,gB,ql,sw,C1,KK⟩
  ·exact .inl g
  ·refine .inr ⟨b,C,cur,eF,eG.uK (fun ks vs av=>(xY h o aj).mp av) ax,gB,ql,sw,C1,fun i j aa ae=> ?_⟩;obtain ⟨v,m1,m2,m3⟩:=KK i j aa ae;exact ⟨v,m1,m2.uK ((xY h o aj).row i j aa ae) _ ax,m3⟩
 ·obtain ⟨au,aj⟩:=nL bO;obtain ⟨k5,cU⟩:=nL bW;rw [ax h au] at aD;rw [ax aL k5] at aE;exact g2.hi h aL o o' b s C cl cF aj cU aD aE
 ·obtain ⟨au,aj⟩:=nL q;rw [ax h au] at e;exact g4.own h o b s C aj e
theorem G5 {P:Program}{fr:Fr}{H:aX}{t h:Nat}{ty nU:TypeId}{l:List al}{ev:Array Field}{i:TypeInfo}(au:look t fr=some (.ptr h 0 0))(aU:H[h]? =some (some ⟨nU,.box l⟩))(hu:P.underlying ty=some (.struct ev))(aa:P.info? ty=some i)(cq:Nat.beq i.size l.length=true):
 sO P fr H [.cell t ty]=some [.agg l]:=by have bT:= ‹bq›;simp only [sO,Eu,au,aU,hu,aa,cq];rfl
theorem QC {P:Program}{fn:Func}{c:Ctx}{H:aX}{all:Array Oper}{et:Fr}{i:Nat}{r:List Nat}{st:Steps}{G:Steps→Prop}{d:Nat}{g:Operand}{args:List Operand}{h6:Array TypeId}{ty:TypeId}{pos:String}{after:Array Edge}{f:FuncId}{cB dM gG:List al}{v:al}{K:Fr}(aa:all[i]? =some ⟨some d,.call {callee:= .value g,args:=args.toArray,argTypes:=h6},ty,pos,after,none⟩)(dn:sQ st et ⟨some d,.call {callee:= .value g,args:=args.toArray,argTypes:=h6},ty,pos,after,none⟩=K)(cX:bA K g=some (.fn f cB))(a1:kD K args=some dM)(has:dM++cB=gG)(k2:cg P f gG H (fun h=>h<H.length) (fun dk bE=>dk=v∧bE=H))(h:lH P fn c H all et r ((i,d,v)::st) G):lH P fn c H all et (i::r) st G:=
 H3 aa (dn▸fun k fr ao ab=>rz (HJ ao cX) (Ma ao a1) has k2 (fun _ h=>h) (fun _ h=>h) (fun r bE e=>by obtain ⟨rfl,rfl⟩:=e;exact ab)) h
end Go.ai
namespace Go.ai
variable [bq]
open Go.RowKit
def Aw (σ:Nat→Option bQ)(U ab:Nat):Nat→Option bQ:=fun h=>if h=U then σ ab else σ h
def wE (H:aX)(U ab:Nat)(o:bk):aX:=((cQ U H).set U (some ⟨o.ty,o.c.forget U⟩)).set ab none
theorem Eh {H:aX}{U ab:Nat}{o:bk}(b2:U≠ab)(uQ:U<H.length){h:Nat}{o':bk}(aU:(wE H U ab o)[h]? =some (some o')):
 (h=U∧o'=⟨o.ty,o.c.forget U⟩)∨(h≠U∧h≠ab∧ ∃c5:bk,H[h]? =some (some c5)∧o'=⟨c5.ty,c5.c.forget U⟩):=by
 unfold wE at aU;by_cases aE:h=ab
 ·exfalso;subst aE;rw [B0] at aU;rw [aG rfl] at aU;split at aU<;>cases aU
 rw [k0 (fun q=>aE q.symm)] at aU;by_cases aD:h=U
 ·subst aD;rw [nB (by rw [tD];exact uQ)] at aU;cases aU;exact .inl ⟨I,I⟩
 ·rw [k0 (fun q=>aD q.symm),GV] at aU;cases ar:H[h]? with
  |none=>rw [ar] at aU;cases aU
  |some x=>
   rw [ar] at aU;cases x with
   |none=>cases aU
   |some c5=>cases aU;exact .inr ⟨aD,aE,c5,rfl,rfl⟩
theorem b6.move {c:Ctx}{w:World}{a:Act}{σ:Nat→Option bQ}{S:Nat→Prop}{n:Nat}{fr:Fr}{H:aX}(ad:b6 c w a σ S n fr H)(U ab t len:Nat){o:bk}(b2:U≠ab)(uQ:U<H.length)(zM:H[ab]? =some (some o))(rb: ¬c.fix U)(au:look t fr=some (.aA ab 0 len)):b6 c w a (Aw σ U ab) S n ((t,.aA U 0 len)::np U fr) (wE H U ab o):=by
 have ah: ∀{x v},bp w S σ x v→bp w S (Aw σ U ab) (x.forget U) v:=fun h=>h.forget _ (fun aL q=>az q);have s1:Aw σ U ab U=σ ab:=aG rfl;have s2: ∀h,h≠U→Aw σ U ab h=σ h:=fun h q=>az q;have hlen:(wE H U ab o).length=H.length:=by unfold wE;rw [dj,dj,tD]
 have key: ∀(h:Nat) (c5:bk),H[h]? =some (some c5)→((σ h=some .k8∧(c5.c.forget U).len=0)∨
  ∃b C cur,σ h=some (.at b (c5.c.forget U).aC C)∧Lays w S (Aw σ U ab) ⟨c5.ty,c5.c.forget U⟩ b cur C∧cur.size=C*(c5.c.forget U).aC∧C≤maxLen+1∧(c5.c.forget U).len≤C∧ ¬S b∧
  ∀i j,i<(c5.c.forget U).len→j<(c5.c.forget U).aC→ ∃v,cur[i*(c5.c.forget U).aC+j]? =some v∧bp w S (Aw σ U ab) ((c5.c.forget U).at i j) v∧v.oneCell'=true):=by
  intro h c5 qg;rw [Cells.xU,Cells.E5];rcases ad.ad.live h c5 qg with g|⟨b,C,cur,g1,g2,g3,g4,g5,g6,g7⟩
  ·exact .inl g
  ·refine .inr ⟨b,C,cur,g1,g2.forget I ah,g3,g4,g5,g6,fun i j aa ae=> ?_⟩;obtain ⟨v,eF,eG,gB⟩:=g7 i j aa ae;exact ⟨v,eF,by rw [Cells.E4 _ _ _ _ ae];exact ah eG,gB⟩
 refine ⟨⟨fun h o' aj=> ?_,fun h aL o1 alV b s C cl cF bO bW aD aE=> ?_,ad.ad.small,fun h k5=> ?_⟩,⟨ad.bh.os,ad.bh.output,ad.bh.tape,ad.bh.size,ad.bh.block,ad.bh.hD,ad.bh.e4,fun h aU=> ?_,fun h aU=> ?_,fun h o' b s C q e=> ?_⟩,ad.defers,ad.size,fun cr v k5=> ?_⟩
 ·rcases Eh b2 uQ aj with ⟨rfl,rfl⟩|⟨g1,g2,c5,g3,rfl⟩
  ·rw [s1];exact key ab o zM
  ·rw [s2 h g1];exact key h c5 g3
 ·rcases Eh b2 uQ bO with ⟨rfl,rfl⟩|⟨g1,g2,c5,g3,rfl⟩
  ·rcases Eh b2 uQ bW with ⟨rfl,rfl⟩|⟨eF,eG,KV,gB,rfl⟩
   ·rfl
   ·rw [s1] at aD;rw [s2 aL eF] at aE;exact absurd (ad.ad.hi ab aL o KV b s C cl cF zM gB aD aE) (fun q=>eG q.symm)
  ·rcases Eh b2 uQ bW with ⟨rfl,rfl⟩|⟨eF,eG,KV,gB,rfl⟩
   ·rw [s1] at aE;rw [s2 h g1] at aD;exact absurd (ad.ad.hi h ab c5 o b s C cl cF g3 zM aD aE) g2
   ·rw [s2 h g1] at aD;rw [s2 aL eF] at aE;exact ad.ad.hi h aL c5 KV b s C cl cF g3 gB aD aE
 ·rw [hlen] at k5;rw [s2 h J];exact ad.ad.hG h k5
 ·rw [s2 h (fun q=>rb (q▸aU))];exact ad.bh.fixed h aU
 ·rw [hlen];exact ad.bh.iY h aU
 ·rcases Eh b2 uQ q with ⟨rfl,rfl⟩|⟨g1,g2,c5,g3,rfl⟩
  ·rw [s1] at e;exact ad.bh.own ab o b s C zM e
  ·rw [s2 h g1] at e;exact ad.bh.own h c5 b s C g3 e
 ·have kk:=ad.e8 t _ au;simp only [look] at k5;cases ak:Nat.beq cr t with
  |true=>
   rw [ak] at k5;have se:=ot ak;subst se;cases k5;refine ⟨kk.1,?_⟩;have ab:=kk.2;generalize a.tmps.getD cr undef=x at ab;cases ab with
   |aA _ _ _ _ b s C cap aD aE bM=>exact .aA _ _ _ _ _ _ _ _ (by rw [s1];exact aD) aE bM
   |hW _ _ e=>exact .hW _ _ (by rw [s1];exact e)
  |false=>
   rw [ak] at k5;have k5:look cr (np U fr)=some v:=k5;rw [Dv] at k5;cases ar:look cr fr with
   |none=>rw [ar] at k5;cases k5
   |some v0=>
    rw [ar] at k5;cases k5;have ax:=ad.e8 cr v0 ar;exact ⟨ax.1,ah ax.2⟩
section
variable {P:Program}{fn:Func}{c:Ctx}{fr:Fr}{H:aX}{k:List eh}
theorem M8 {x:Code}(U ab t len:Nat){o:bk}(b2:U≠ab)(uQ:U<H.length)(zM:H[ab]? =some (some o))(rb: ¬c.fix U)(au:look t fr=some (.aA ab 0 len))(ao:ai P fn c (.code x k) ((t,.aA U 0 len)::np U fr) (wE H U ab o)):ai P fn c (.code x k) fr H:=
 fun w a σ S ad=>ao w a _ S (ad.move U ab t len b2 uQ zM rb au)
end
theorem Rz {fr K:Fr}(h:j8 fr K): ∀{xs:List (Nat×Operand)} {l:List (Nat×al)},qD K xs=some l→qD fr xs=some l
 |[],l,he=>he
 |(n,x)::r,l,he=>by
  simp only [qD] at he⊢;split at he
  ·rename_i v ah;split at he
   ·rename_i q aB;rw [HJ h ah,Rz h aB];exact he
   ·cases he
  ·cases he
theorem Gp {P:Program}{fn:Func}{c:Ctx}{H:aX}{all:Array Oper}{et:Fr}{i:Nat}{r:List Nat}{st:Go.ai.Steps}{G:Go.ai.Steps→Prop}{d:Nat}{t e:TypeId}{n:Nat}{parts:List (Nat×Operand)}{ty:TypeId}{pos:String}{after:Array Edge}{it:TypeInfo}{z:Value}{zs L:List al}{l:List (Nat×al)}{dG:Cells}{K:Fr}(aa:all[i]? =some ⟨some d,.buildSlice t n parts.toArray,ty,pos,after,none⟩)(dn:sQ st et ⟨some d,.buildSlice t n parts.toArray,ty,pos,after,none⟩=K)(bs:P.underlying t=some (.slice e))(ib:P.info? e=some it)(bw:it.zero=some z)(nR:uk z=some zs)(cq:it.size=zs.length)(eE:Nat.blt 0 zs.length=true)(wy:Nat.ble (n*zs.length) 16777216=true)(au:qD K parts=some l)(aN:rI (fun i=>some (i*zs.length,zs.length)) (qG zs n) l=some L)(gZ:ft n zs.length L=dG)(aF:cV.eR L=true)(h:lH P fn c H all et r ((i,d,.ro dG 0 n)::st) G):lH P fn c H all et (i::r) st G:=
 H3 aa (dn▸fun k fr ao ab=>iG bs ib bw nR cq eE wy (Rz ao au) aN gZ aF ab) h
end Go.ai
namespace Go.ai
variable [bq]
open Go.RowKit
section
variable {P:Program}{fn:Func}{c:Ctx}{fr:Fr}{H:aX}{k:List eh}
theorem agm {w:World}{size:Nat}{a:Option Addr}{m cap:Nat}:(Builtin.firstCells size 0 (.slice a m cap)).run P w= .ok #[] w:=by
 have bT:= ‹bq›;cases a with
 |none=>rfl
 |some a=>
  show (loadCells a (0*size)).run P w=_;rw [s0];rfl
theorem Wt {all:Array Oper}{d:Nat}{t vj e:TypeId}{x y:Operand}{ty:TypeId}{pos:String}{after:Array Edge}{rest:List Oper}{inf:TypeInfo}{h i n:Nat}{ab i2:Nat}(bs:P.underlying t=some (.slice e))(aa:P.info? e=some inf)(ar:bA fr x=some (.aA h i n))(aY:bA fr y=some (.aA ab i2 0))(ao:ai P fn c (.ops false all rest k) ((d,.int .i64 0)::fr) H):ai P fn c (.ops false all (⟨some d,.call {callee:= .builtin .copy,args:= #[x,y],argTypes:= #[t,vj]},ty,pos,after,none⟩::rest) k) fr H:=by
 refine uG (fun w a σ S ad=> ?_) ao;have U:=ad.dN ar;have ab:=ad.dN aY;have lT: ∀r w',(Builtin.copy_ #[t,vj] ty #[a.eval x,a.eval y]).run P w= .ok r w'→(execOp a.eval ⟨some d,.call {callee:= .builtin .copy,args:= #[x,y],argTypes:= #[t,vj]},ty,pos,after,none⟩).run P w= .ok (.value r) w':=by intro r w' h;simp [execOp,resolve,invoke,builtin,h]
 generalize F6:a.eval x=Rf at U lT;generalize lY:a.eval y=Rg at ab lT;have key: ∀(mh IM:Option Addr) (Gf ea zG:Nat),(Builtin.copy_ #[t,vj] ty #[.slice mh Gf ea,.slice IM 0 zG]).run P w= .ok (.int .i64 (0:Nat)) w:=by
  intro mh IM Gf ea zG;have aN:=agm (P:=P) (w:=w) (size:=inf.size) (a:=IM) (m:=0) (cap:=zG);have hm:Nat.min 0 Gf=0:=Nat.zero_min Gf;cases mh with
  |none=>simp [Builtin.copy_,run_underlying bs,sizeOf,typeInfo,aa,Builtin.lenOf,hm,aN,goInt]
  |some iV=>simp [Builtin.copy_,run_underlying bs,sizeOf,typeInfo,aa,Builtin.lenOf,hm,aN,goInt,storeCells]
 cases U with
 |hW _ _ bG=>
  cases ab with
  |hW _ _ wC=>exact ⟨_,_,σ,S,lT _ _ (key _ _ _ _ _),ad,.int _ _ _⟩
  |aA _ _ _ _ b s C cap wC hlen jE=>exact ⟨_,_,σ,S,lT _ _ (key _ _ _ _ _),ad,.int _ _ _⟩
 |aA _ _ _ _ b s C cap bG hlen jE=>
  cases ab with
  |hW _ _ wC=>exact ⟨_,_,σ,S,lT _ _ (key _ _ _ _ _),ad,.int _ _ _⟩
  |aA _ _ _ _ b s C cap wC hlen jE=>exact ⟨_,_,σ,S,lT _ _ (key _ _ _ _ _),ad,.int _ _ _⟩
end
end Go.ai
namespace Go.ai.cz
open Go.ai.c8
def yy (u:Int→List Rat)(x:Int)(v:List Rat):Int→List Rat:=fun y=>if y=x then v else u y
theorem ada {t:aT}{p:Int}(u:Int→List Rat){k b:Nat}{x:Int×Nat}(ih:x.2≤k)(pL:k<x.2+cD t p x.1)(sD:b<x.2)(Di:x.2+cD t p x.1≤(cp t p).length)(AL: ∀c,c<cD t p x.1→(cp t p).getD (x.2+c) c3=⟨x.1,(c:Int),(b:Int)⟩):(ud t p u).getD k 0=(ud t p u).getD b 0*(u x.1).getD (k-x.2) 0:=by have ax:=AL (k-x.2) J;rw [show x.2+(k-x.2)=k by omega] at ax;unfold ud;rw [A8 _ _ (show k<(cp t p).length by omega),ax];unfold yP;simp only;rw [az J,cA,cA,Sq _ _ (show b<(cp t p).length by omega) (show b<k by omega)]
def n6 (t:aT)(p:Int)(s:Nat):Nat:=((cp t p).getD s c3).before.toNat
structure vN (t:aT)(p x:Int)(s b:Nat):Prop where
 mem:(x,s)∈(dE t p t.length).first
 start:qE t p x=s
 r8:n6 t p s=b
 one:1≤s
 lB:1≤cD t p x
 fin:s+cD t p x≤(cp t p).length
 lt:b<s
 cx: ∀c,c<cD t p x→(cp t p).getD (s+c) c3=⟨x,(c:Int),(b:Int)⟩
theorem y1 {t:aT}(ah:Valid t){p x:Int}(ar:x∈di t p): ∃s b,vN t p x s b:=by
 have h:=hP.mg ah p t.length (bR _);obtain ⟨j,ae,ax⟩:=(qx ah).1 ar;have ao:=(h.keys x).2 ⟨j,ae,ax⟩;have hw:1≤cD t p x:=by
  rw [w8 ah ae ax];unfold e7 at ax;rw [ei] at ax;have aj:=(acz.1 ax.1).1;rcases ah.child ae with q|q
  ·have:=q.1;omega
  ·exact (wQ q.2).1
 cases au:gE (dE t p t.length).first x with
 |none=>exact absurd ao (G9 au)
 |some s=>
  have hm:=yI au;obtain ⟨iA,jb,b,dX,eu,mi⟩:=h.fst (x,s) hm;obtain ⟨n,rfl⟩:=oo dX;simp only at iA jb eu mi;refine ⟨s,n,hm,by unfold qE jv;rw [au];rfl,?_,iA,hw,jb,J,mi⟩;have:=mi 0 J;unfold n6;rw [eQ] at this;rw [show (cp t p).getD s c3=_ from this];exact cA n
structure kW (t:aT)(p:Int)(W:Nat→Rat):Prop where
 root:W 0=1
 qo: ∀k,k<(cp t p).length→0≤W k
 sum: ∀x∈di t p,b1 (fun c=>W (qE t p x+c)) (cD t p x)=W (n6 t p (qE t p x))
theorem adb {t:aT}{p x:Int}{s b:Nat}(h:vN t p x s b)(u:Int→List Rat){c:Nat}(av:c<cD t p x):(ud t p u).getD (s+c) 0=(ud t p u).getD b 0*(u x).getD c 0:=by have:=ada (t:=t) (p:=p) u (k:=s+c) (b:=b) (x:=(x,s)) (by show s≤s+c;omega) (by show s+c<s+cD t p x;omega) h.lt h.fin h.cx;rw [this];show _*(u x).getD (s+c-s) 0=_;rw [show s+c-s=c by omega]
theorem ajU {t:aT}(ah:Valid t){p:Int}{u:Int→List Rat}(hu:BS t p u):kW t p (fun k=>(ud t p u).getD k 0):=by refine ⟨Tm ah p u,ade ah hu,fun x ar=> ?_⟩;obtain ⟨s,b,h⟩:=y1 ah ar;rw [h.start,h.r8];rw [fJ (fun c av=>adb h u av),tQ,abT hu ar,Rat.mul_one]
def od (t:aT)(p:Int)(W:Nat→Rat)(x:Int):List Rat:=
 if 0<W (n6 t p (qE t p x)) then (List.range (cD t p x)).map (fun c=>W (qE t p x+c)/W (n6 t p (qE t p x))) else iQ (cD t p x) 0
theorem WD {t:aT}{p x:Int}{s b:Nat}(h:vN t p x s b)(W:Nat→Rat)(jY:0<W b){c:Nat}(av:c<cD t p x):(od t p W x).getD c 0=W (s+c)/W b:=by unfold od;rw [h.start,h.r8,aG jY,qA _ _ 0 0 c (by rw [gX];exact av),e9 0 (by rw [gX];exact av),zy]
theorem afm {f g:Nat→Rat}{n m:Nat}(h: ∀c,c<n→0≤f c)(aO:b1 f n=0)(hm:m<n):f m=0:=by
 have key: ∀n,(∀c,c<n→0≤f c)→ ∀m,m<n→f m≤b1 f n:=by
  intro n;induction n with
  |zero=>intro _ m hm;exact absurd hm (gy _)
  |succ n a8=>
   intro aF m hm;show f m≤b1 f n+f n;have U:=Lw (f:=f) (n:=n) (fun i aa=>aF i J);have ab:=aF n J;by_cases e:m=n
   ·subst e;grind
   ·have:=a8 (fun c av=>aF c J) m J;grind
 have U:=key n h m hm;have ab:=h m hm;rw [aO] at U;exact r4 U ab
theorem TD {α:Type}(f:α→Rat)(c:Rat): ∀l:List α,gj 0 (l.map (fun a=>c*f a))=c*gj 0 (l.map f)
 |[]=>by show (0:Rat)=c*0;rw [vX]
 |a::r=>by rw [nE,nE,gj,gj,w6 _ (0+c*f a),w6 _ (0+f a),TD f c r];grind
theorem aiK {α:Type}(f:α→Rat)(c:Rat)(l:List α):gj 0 (l.map (fun a=>f a*c))=gj 0 (l.map f)*c:=by rw [mO,←TD];exact congrArg (gj 0) (lr (fun a _=>mO _ _))
end Go.ai.cz
namespace Go.ai.lN
open Go.ai.dL Go.ai.cz Go.ai.c8 Go.ai.cI
def qL (T:List (List Rat))(a b:Nat)(y:Rat):List (List Rat):=T.set a ((T.getD a []).set b ((T.getD a []).getD b 0+y))
def tA (pa kI:Nat→Nat)(v:Nat→Rat):List Nat→List (List Rat)→List (List Rat)
 |[],T=>T
 |e::r,T=>tA pa kI v r (qL T (pa e) (kI e) (v e))
structure uo (T:List (List Rat))(n m:Nat):Prop where
 rows:T.length=n
 pt: ∀i,i<n→(T.getD i []).length=m
def kr (T:List (List Rat))(n m:Nat)(x y:Nat→Rat):Rat:=b1 (fun i=>x i*b1 (fun j=>(T.getD i []).getD j 0*y j) m) n
theorem fG {α:Type}(l:List α)(a i:Nat)(z d:α)(a1:a<l.length):(l.set a z).getD i d=if i=a then z else l.getD i d:=by
 by_cases h:i=a
 ·subst h;rw [aG rfl];simp [List.getD,a1]
 ·rw [az h];simp [List.getD,B0,p4 h]
theorem SR {T:List (List Rat)}{n m a b:Nat}{y:Rat}(h:uo T n m)(a1:a<n):uo (qL T a b y) n m:=by
 refine ⟨by unfold qL;rw [dj];exact h.rows,fun i aa=> ?_⟩;unfold qL;rw [fG _ _ _ _ _ (by rw [h.rows];exact a1)];split
 ·rw [dj];exact h.pt a a1
 ·exact h.pt i aa
theorem VO {f:Nat→Rat}{a:Nat}(y:Rat): ∀{n:Nat},a<n→b1 (fun i=>f i+(if i=a then y else 0)) n=b1 f n+y:=by
 intro n a1;rw [Bo];congr 1;have key: ∀{n:Nat},b1 (fun i=>if i=a then y else 0) n=if a<n then y else 0:=by
  intro n;induction n with
  |zero=>rfl
  |succ n a8=>
   show b1 (fun i=>if i=a then y else 0) n+(if n=a then y else 0)=_;rw [a8];by_cases U:n=a
   ·rw [az J,aG U,aG J];exact oq y
   ·rw [az U,mN];by_cases ab:a<n
    ·rw [aG ab,aG J]
    ·rw [az ab,az J]
 rw [key,aG a1]
theorem ajx {T:List (List Rat)}{n m a b:Nat}{v:Rat}(h:uo T n m)(a1:a<n)(ak:b<m)(x y:Nat→Rat):kr (qL T a b v) n m x y=kr T n m x y+x a*v*y b:=by
 unfold kr;have e: ∀i,i<n→x i*b1 (fun j=>((qL T a b v).getD i []).getD j 0*y j) m=x i*b1 (fun j=>(T.getD i []).getD j 0*y j) m+(if i=a then x a*v*y b else 0):=fun i aa=>by
  unfold qL;rw [fG _ _ _ _ _ (by rw [h.rows];exact a1)];by_cases e:i=a
  ·subst e;rw [aG rfl,aG rfl];have aE: ∀j,j<m→(((T.getD i []).set b ((T.getD i []).getD b 0+v)).getD j 0)*y j=(T.getD i []).getD j 0*y j+(if j=b then v*y b else 0):=fun j ae=>by
    rw [fG _ _ _ _ _ (by rw [h.pt i aa];exact ak)];by_cases e:j=b
    ·subst e;rw [aG rfl,aG rfl];grind
    ·rw [az e,az e,mN]
   rw [fJ aE,VO _ ak];grind
  ·rw [az e,az e,mN]
 rw [fJ e,VO _ a1]
theorem MD {pa kI:Nat→Nat}{v:Nat→Rat}{n m:Nat}: ∀(l:List Nat) {T:List (List Rat)},uo T n m→(∀e∈l,pa e<n)→uo (tA pa kI v l T) n m
 |[],T,h,_=>h
 |e::r,T,h,aJ=>MD r (SR h (aJ e (vT ..))) (fun x ar=>aJ x (uA _ ar))
theorem DM {pa kI:Nat→Nat}{v:Nat→Rat}{n m:Nat}(x y:Nat→Rat): ∀(l:List Nat) {T:List (List Rat)},uo T n m→(∀e∈l,pa e<n∧kI e<m)→
 kr (tA pa kI v l T) n m x y=kr T n m x y+gj 0 (l.map (fun e=>x (pa e)*v e*y (kI e)))
 |[],T,h,_=>by
  show _=_+(0:Rat)
  rw [mN];rfl
 |e::r,T,h,aJ=>by obtain ⟨U,ab⟩:=aJ e (vT ..);rw [tA,DM x y r (SR h U) (fun x ar=>aJ x (uA _ ar)),ajx h U ab,nE,gj,w6 _ (0+_)];grind
def gu (t:aT)(p:Int)(e:Nat):Nat:=((kt t p).getD e 0).toNat
abbrev aS (t:aT)(p:Int):Nat:=(cp t p).length
def pT (n m:Nat):List (List Rat):=List.replicate n (List.replicate m 0)
def fI (t:aT):List (List Rat):=tA (gu t 0) (gu t 1) (kT t (eK t (eJ t))) (ee t) (pT (aS t 0) (aS t 1))
theorem Ba (n m:Nat):uo (pT n m) n m:=by
 refine ⟨fw,fun i aa=> ?_⟩;have e:(pT n m).getD i []=List.replicate m 0:=by simp [pT,List.getD,aa]
 rw [e,fw]
theorem LY (n m:Nat)(x y:Nat→Rat):kr (pT n m) n m x y=0:=by
 unfold kr;refine r5 (fJ (g:=fun _=>0) (fun i aa=> ?_)) (qz _);have e:(pT n m).getD i []=List.replicate m 0:=by simp [pT,List.getD,aa]
 rw [e,fJ (g:=fun _=>0) (fun j _=>by rw [D8,oF]),qz,vX]
theorem ME {t:aT}(ah:Valid t):uo (fI t) (aS t 0) (aS t 1):=MD _ (Ba _ _) (fun e he=>(xk ah 0 (rA he).1).2)
theorem yS (a:Nat)(y:Rat): ∀{n:Nat},b1 (fun i=>if i=a then y else 0) n=if a<n then y else 0
 |0=>rfl
 |n+1=>by
  show b1 (fun i=>if i=a then y else 0) n+(if n=a then y else 0)=_;rw [yS a y];by_cases U:n=a
  ·rw [az J,aG U,aG J];exact oq y
  ·rw [az U,mN];by_cases ab:a<n
   ·rw [aG ab,aG J]
   ·rw [az ab,az J]
theorem afl (f:Nat→Rat){s w n:Nat}(h:s+w≤n):b1 (fun j=>if s≤j∧j<s+w then f j else 0) n=b1 (fun c=>f (s+c)) w:=by
 obtain ⟨r,rfl⟩: ∃r,n=s+w+r:=⟨n-(s+w),J⟩
 rw [w5 _ (s+w) r,w5 _ s w];rw [fJ (n:=s) (g:=fun _=>0) (fun j ae=>az J),qz,fJ (n:=r) (g:=fun _=>0) (fun j ae=>az J),qz,oq,mN];exact fJ (fun c av=>aG J)
theorem LU (f:Nat→Rat): ∀e,b1 f (2*e)=b1 (fun c=>f (2*c)+f (2*c+1)) e
 |0=>rfl
 |e+1=>by
  show b1 f (2*e+1)+f (2*e+1)=b1 (fun c=>f (2*c)+f (2*c+1)) e+(f (2*e)+f (2*e+1))
  rw [←LU f e];show (b1 f (2*e)+f (2*e))+f (2*e+1)=_;rw [xH]
def ch (t:aT)(p:Int):Nat:=1+(jv t p).length
def sP (t:aT)(p:Int)(c:Nat):Int×Nat:=(jv t p).getD (c-1) (0,0)
def hf (t:aT)(p:Int)(c j:Nat):Rat:=
 if c=0 then (if j=0 then 1 else 0)
 else if (sP t p c).2≤j∧j<(sP t p c).2+cD t p (sP t p c).1 then 1 else if j=n6 t p (sP t p c).2 then-1 else 0
def qO (c:Nat):Rat:=if c=0 then 1 else 0
section
variable {t:aT}{p:Int}
theorem WI (ah:Valid t){c:Nat}(aO:c≠0)(av:c<ch t p): ∃x s b,sP t p c=(x,s)∧x∈di t p∧vN t p x s b:=by
 have aa:c-1<(jv t p).length:=by unfold ch at av;omega
 have hm:sP t p c∈jv t p:=dx (0,0) aa;have h:=hP.mg ah p t.length (bR _);obtain ⟨x,s,ak⟩: ∃x s,sP t p c=(x,s):=⟨_,_,rfl⟩
 rw [ak] at hm;have ar:x∈di t p:=(qx ah).2 ((h.keys x).1 (da.2 ⟨(x,s),hm,rfl⟩));obtain ⟨cl,b,cZ⟩:=y1 ah ar;have:=Nj h.eP hm cZ.mem rfl;have ax:s=cl:=congrArg Prod.snd this;subst ax;exact ⟨x,s,b,ak,ar,cZ⟩
theorem Ve (ah:Valid t){x:Int}(ar:x∈di t p): ∃c s b,c≠0∧c<ch t p∧sP t p c=(x,s)∧vN t p x s b:=by
 obtain ⟨s,b,cZ⟩:=y1 ah ar;obtain ⟨i,aa,he⟩:=B6.1 cZ.mem;refine ⟨i+1,s,b,J,by unfold ch;show i+1<1+(dE t p t.length).first.length;omega,?_,cZ⟩;show (dE t p t.length).first.getD i (0,0)=_
 simp [List.getD,aa,he]
theorem L6 (ah:Valid t)(W:Nat→Rat):b1 (fun j=>hf t p 0 j*W j) (aS t p)=W 0:=by
 obtain ⟨_,_,ab,_⟩:=sF ah p;rw [fJ (g:=fun j=>if j=0 then W 0 else 0) (fun j ae=> ?_),yS,aG ab];unfold hf;rw [aG rfl];by_cases e:j=0
 ·subst e;rw [aG rfl,aG rfl,r0]
 ·rw [az e,az e,oF]
theorem Mu {c:Nat}(aO:c≠0){x:Int}{s b:Nat}(ak:sP t p c=(x,s))(h:vN t p x s b)(W:Nat→Rat):
 b1 (fun j=>hf t p c j*W j) (aS t p)=b1 (fun k=>W (s+k)) (cD t p x)-W b:=by
 have Zr:=h.fin;have bC:=h.lt;have e: ∀j,j<aS t p→hf t p c j*W j=(if s≤j∧j<s+cD t p x then W j else 0)+(if j=b then-(W b) else 0):=fun j ae=>by
  unfold hf;rw [az aO,ak,h.r8];show (if s≤j∧j<s+cD t p x then (1:Rat) else if j=b then-1 else 0)*W j=_;by_cases aD:s≤j∧j<s+cD t p x
  ·rw [aG aD,aG aD,az J,r0,mN]
  ·rw [az aD,az aD,oq];by_cases aE:j=b
   ·subst aE;rw [aG rfl,aG rfl,Rat.neg_mul,r0]
   ·rw [az aE,az aE,oF]
 rw [fJ e,Bo,afl W Zr,yS,aG (by show b<(cp t p).length;omega),Rat.sub_eq_add_neg]
theorem ajw (ah:Valid t){W:Nat→Rat}(h:kW t p W){c:Nat}(av:c<ch t p):b1 (fun j=>hf t p c j*W j) (aS t p)=qO c:=by
 unfold qO;by_cases e:c=0
 ·subst e;rw [L6 ah,aG rfl,h.root]
 ·rw [az e];obtain ⟨x,s,b,U,ab,aw⟩:=WI ah e av;rw [Mu e U aw];have:=h.sum x ab;rw [aw.start,aw.r8] at this;rw [this];grind
theorem SY (ah:Valid t){W:Nat→Rat}(aF: ∀k,k<aS t p→0≤W k)(h: ∀c,c<ch t p→b1 (fun j=>hf t p c j*W j) (aS t p)=qO c):kW t p W:=by
 refine ⟨?_,aF,fun x ar=> ?_⟩
 ·have:=h 0 (by unfold ch;omega);rw [L6 ah] at this;exact this
 ·obtain ⟨c,s,b,aO,U,ab,aw⟩:=Ve ah ar;have:=h c U;rw [Mu aO ab aw] at this;rw [aw.start,aw.r8];unfold qO at this;rw [az aO] at this;grind
theorem SZ (ah:Valid t){W:Nat→Rat}(aF: ∀k,k<aS t p→0≤W k)(h: ∀c,c<ch t p→b1 (fun j=>hf t p c j*W j) (aS t p)=0): ∀k,k<aS t p→W k=0:=by
 intro k;induction k using Nat.strongRecOn with
 |ind k a8=>
  intro ao;by_cases e:k=0
  ·subst e;have:=h 0 (by unfold ch;omega);rw [L6 ah] at this;exact this
  ·have ad:=hP.mg ah p t.length (bR _);obtain ⟨y,aY,iA,jb⟩:=ad.all k J ao;have ar:y.1∈di t p:=(qx ah).2 ((ad.keys y.1).1 (da.2 ⟨y,aY,rfl⟩));obtain ⟨c,s,b,aO,U,ab,aw⟩:=Ve ah ar;have ax:=congrArg Prod.snd (Nj ad.eP aY aw.mem rfl);have ax:y.2=s:=ax;rw [ax] at iA jb;have:=h c U;rw [Mu aO ab aw,a8 b (by have:=aw.lt;omega) (by have:=aw.lt;have:=aw.fin;show b<(cp t p).length;omega)] at this;have bg:b1 (fun k=>W (s+k)) (cD t p y.1)=0:=by grind
   have bF:=afm (f:=fun k=>W (s+k)) (g:=fun _=>0) (fun c av=>aF _ (by have:=aw.fin;show s+c<(cp t p).length;omega)) bg (m:=k-s) J;have bF:W (s+(k-s))=0:=bF
   rwa [show s+(k-s)=k by omega] at bF
end
def pK (r:Nat):Rat:=if r%2=0 then 1 else-1
def pW (t:aT)(j:Nat):List Rat:=(List.range (aS t 0+2*ch t 1)).map (fun i=>if i<aS t 0 then-(((fI t).getD i []).getD j 0) else if i<aS t 0+ch t 1 then hf t 1 (i-aS t 0) j else-(hf t 1 (i-aS t 0-ch t 1) j))
def rK (t:aT)(r:Nat):List Rat:=(List.range (aS t 0+2*ch t 1)).map (fun i=>if i<aS t 0 then pK r*hf t 0 (r/2) i else 0)
def dz (t:aT):Prog:=
 ⟨(List.range (aS t 1)).map (pW t)++(List.range (2*ch t 0)).map (rK t),List.replicate (aS t 1) 0++(List.range (2*ch t 0)).map (fun r=>pK r*qO (r/2)),(List.range (aS t 0+2*ch t 1)).map (fun i=>if i=aS t 0 then 1 else if i=aS t 0+ch t 1 then-1 else 0)⟩
section
variable {t:aT}
theorem EA (t:aT):(dz t).n=aS t 0+2*ch t 1:=by show (List.map _ _).length=_;rw [cL,gX]
theorem Ez (t:aT):(dz t).m=aS t 1+2*ch t 0:=by show (_++List.map _ _).length=_;rw [c2,fw,cL,gX]
theorem y5 (t:aT):(dz t).hg:=by
 refine ⟨?_,fun r ad=> ?_⟩
 ·show (List.map _ _++List.map _ _).length=(dz t).m;rw [Ez,c2,cL,cL,gX,gX]
 ·show _=(dz t).n;rw [EA];rcases gz.1 ad with h|h
  ·obtain ⟨j,_,rfl⟩:=da.1 h;unfold pW;rw [cL,gX]
  ·obtain ⟨j,_,rfl⟩:=da.1 h;unfold rK;rw [cL,gX]
theorem QM {j:Nat}(ae:j<aS t 1):(dz t).A.getD j []=pW t j:=by show (List.map (pW t) _++_).getD j []=_;rw [tU [] (by rw [cL,gX];exact ae)];exact ru ae
theorem QN {r:Nat}(ad:r<2*ch t 0):(dz t).A.getD (aS t 1+r) []=rK t r:=by show (List.map (pW t) (List.range (aS t 1))++List.map (rK t) (List.range (2*ch t 0))).getD (aS t 1+r) []=_;rw [uF,jA (by rw [cL,gX];omega),cL,gX,xA,←uF];exact ru ad
theorem Bl {i j:Nat}(aa:i<aS t 0+2*ch t 1):(pW t j).getD i 0=if i<aS t 0 then-(((fI t).getD i []).getD j 0) else if i<aS t 0+ch t 1 then hf t 1 (i-aS t 0) j else-(hf t 1 (i-aS t 0-ch t 1) j):=ru aa
theorem D6 {i r:Nat}(aa:i<aS t 0+2*ch t 1):(rK t r).getD i 0=if i<aS t 0 then pK r*hf t 0 (r/2) i else 0:=ru aa
def sx (t:aT)(X:List Rat)(c:Nat):Rat:=X.getD (aS t 0+c) 0-X.getD (aS t 0+ch t 1+c) 0
def tt (t:aT)(Y:List Rat)(c:Nat):Rat:=Y.getD (aS t 1+2*c) 0-Y.getD (aS t 1+(2*c+1)) 0
theorem Uh {j:Nat}(ae:j<aS t 1)(X:List Rat):h2 ((dz t).A.getD j []) X=b1 (fun c=>hf t 1 c j*sx t X c) (ch t 1)-b1 (fun i=>((fI t).getD i []).getD j 0*X.getD i 0) (aS t 0):=by
 rw [QM ae,tN (n:=aS t 0+2*ch t 1) (by unfold pW;rw [cL,gX])];rw [show aS t 0+2*ch t 1=aS t 0+ch t 1+ch t 1 by omega,w5 _ (aS t 0+ch t 1),w5 _ (aS t 0)];have aD:b1 (fun i=>(pW t j).getD i 0*X.getD i 0) (aS t 0)= -(b1 (fun i=>((fI t).getD i []).getD j 0*X.getD i 0) (aS t 0)):=by rw [←Mz];exact fJ (fun i aa=>by rw [Bl J,aG aa,Rat.neg_mul])
 have aE:b1 (fun c=>(pW t j).getD (aS t 0+c) 0*X.getD (aS t 0+c) 0) (ch t 1)+b1 (fun c=>(pW t j).getD (aS t 0+ch t 1+c) 0*X.getD (aS t 0+ch t 1+c) 0) (ch t 1)=b1 (fun c=>hf t 1 c j*sx t X c) (ch t 1):=by rw [←Bo];refine fJ (fun c av=> ?_);rw [Bl J,az J,aG J,Bl J,az J,az J,show aS t 0+c-aS t 0=c by omega,show aS t 0+ch t 1+c-aS t 0-ch t 1=c by omega];unfold sx;grind
 rw [aD,←aE];grind
theorem HI {r:Nat}(ad:r<2*ch t 0)(X:List Rat):h2 ((dz t).A.getD (aS t 1+r) []) X=pK r*b1 (fun i=>hf t 0 (r/2) i*X.getD i 0) (aS t 0):=by rw [QN ad,tN (n:=aS t 0+2*ch t 1) (by unfold rK;rw [cL,gX]),w5 _ (aS t 0)];rw [fJ (n:=2*ch t 1) (g:=fun _=>0) (fun c av=>by rw [D6 J,az J,oF]),qz,mN,←tQ];exact fJ (fun i aa=>by rw [D6 J,aG aa];grind)
theorem H7 (c:Nat):pK (2*c)=1:=aG J
theorem Is (c:Nat):pK (2*c+1)= -1:=az J
theorem L1 (i:Nat)(Y:List Rat):h2 (rM (dz t).A i) Y=b1 (fun j=>(pW t j).getD i 0*Y.getD j 0) (aS t 1)+b1 (fun r=>(rK t r).getD i 0*Y.getD (aS t 1+r) 0) (2*ch t 0):=by
 rw [tN (n:=aS t 1+2*ch t 0) (by rw [TS];exact (y5 t).rows.trans (Ez t)),w5 _ (aS t 1)];congr 1
 ·exact fJ (fun j ae=>by rw [Ms,QM ae])
 ·exact fJ (fun r ad=>by rw [Ms,QN ad])
theorem Ug {i:Nat}(aa:i<aS t 0)(Y:List Rat):h2 (rM (dz t).A i) Y=b1 (fun c=>hf t 0 c i*tt t Y c) (ch t 0)-b1 (fun j=>((fI t).getD i []).getD j 0*Y.getD j 0) (aS t 1):=by
 rw [L1,LU];have aD:b1 (fun j=>(pW t j).getD i 0*Y.getD j 0) (aS t 1)= -(b1 (fun j=>((fI t).getD i []).getD j 0*Y.getD j 0) (aS t 1)):=by rw [←Mz];exact fJ (fun j ae=>by rw [Bl J,aG aa,Rat.neg_mul])
 have aE:b1 (fun c=>(rK t (2*c)).getD i 0*Y.getD (aS t 1+2*c) 0+(rK t (2*c+1)).getD i 0*Y.getD (aS t 1+(2*c+1)) 0) (ch t 0)=b1 (fun c=>hf t 0 c i*tt t Y c) (ch t 0):=by refine fJ (fun c av=> ?_);rw [D6 J,D6 J,aG aa,aG aa,H7,Is,show 2*c/2=c by omega,show (2*c+1)/2=c by omega];unfold tt;grind
 rw [aD,aE];grind
theorem Uf {c:Nat}(av:c<ch t 1)(Y:List Rat):h2 (rM (dz t).A (aS t 0+c)) Y=b1 (fun j=>hf t 1 c j*Y.getD j 0) (aS t 1)∧h2 (rM (dz t).A (aS t 0+ch t 1+c)) Y= -(b1 (fun j=>hf t 1 c j*Y.getD j 0) (aS t 1)):=by
 have On: ∀i,aS t 0≤i→i<aS t 0+2*ch t 1→b1 (fun r=>(rK t r).getD i 0*Y.getD (aS t 1+r) 0) (2*ch t 0)=0:=fun i U ab=>by rw [fJ (g:=fun _=>0) (fun r ad=>by rw [D6 ab,az J,oF]),qz]
 refine ⟨?_,?_⟩
 ·rw [L1,On _ J J,mN];exact fJ (fun j ae=>by rw [Bl J,az J,aG J,show aS t 0+c-aS t 0=c by omega])
 ·rw [L1,On _ J J,mN,←Mz];exact fJ (fun j ae=>by rw [Bl J,az J,az J,show aS t 0+ch t 1+c-aS t 0-ch t 1=c by omega,Rat.neg_mul])
theorem Ep (t:aT)(p:Int):0<ch t p:=by unfold ch;omega
theorem EX {i:Nat}(aa:i<aS t 0+2*ch t 1):(dz t).C.getD i 0=if i=aS t 0 then 1 else if i=aS t 0+ch t 1 then-1 else 0:=ru aa
theorem N5 (X:List Rat):h2 (dz t).C X=sx t X 0:=by
 have ao:=Ep t 1;rw [tN (n:=aS t 0+2*ch t 1) (EA t)];rw [fJ (g:=fun i=>(if i=aS t 0 then X.getD (aS t 0) 0 else 0)+(if i=aS t 0+ch t 1 then-(X.getD (aS t 0+ch t 1) 0) else 0)) (fun i aa=> ?_),Bo,yS,yS,aG J,aG J]
 ·unfold sx;rw [eQ,eQ,Rat.sub_eq_add_neg]
 ·rw [EX aa];by_cases aD:i=aS t 0
  ·rw [aG aD,aG aD,az J,aD];grind
  ·by_cases aE:i=aS t 0+ch t 1
   ·rw [az aD,aG aE,az aD,aG aE,aE];grind
   ·rw [az aD,az aE,az aD,az aE];grind
theorem NX {j:Nat}(ae:j<aS t 1):(dz t).B.getD j 0=0:=by show (List.replicate (aS t 1) 0++_).getD j 0=_;rw [tU 0 (by rw [fw];exact ae)];exact D8 _ _
theorem Ih {r:Nat}(ad:r<2*ch t 0):(dz t).B.getD (aS t 1+r) 0=pK r*qO (r/2):=by show (List.replicate (aS t 1) (0:Rat)++List.map (fun r=>pK r*qO (r/2)) (List.range (2*ch t 0))).getD (aS t 1+r) 0=_;rw [uF,jA (by rw [fw];omega),fw,xA,←uF];exact ru ad
theorem NW (Y:List Rat):h2 (dz t).B Y=tt t Y 0:=by
 have ao:=Ep t 0;rw [tN (n:=aS t 1+2*ch t 0) (Ez t),w5 _ (aS t 1),fJ (n:=aS t 1) (g:=fun _=>0) (fun j ae=>by rw [NX ae,oF]),qz,oq,LU];rw [fJ (g:=fun c=>if c=0 then tt t Y 0 else 0) (fun c av=> ?_),yS,aG ao];rw [Ih J,Ih J,H7,Is,show 2*c/2=c by omega,show (2*c+1)/2=c by omega];unfold qO;by_cases e:c=0
 ·subst e;rw [aG rfl,aG rfl];unfold tt;grind
 ·rw [az e,az e];grind
theorem aiY (p:Int)(P W:Nat→Rat)(t:aT):b1 (fun j=>W j*b1 (fun c=>hf t p c j*P c) (ch t p)) (aS t p)=b1 (fun c=>P c*b1 (fun j=>hf t p c j*W j) (aS t p)) (ch t p):=by rw [fJ (g:=fun j=>b1 (fun c=>W j*(hf t p c j*P c)) (ch t p)) (fun j _=>(tQ _ _ _).symm),Mm];refine fJ (fun c _=> ?_);rw [←tQ];exact fJ (fun j _=>by grind)
theorem HM (ah:Valid t){p:Int}{W:Nat→Rat}(h:kW t p W)(P:Nat→Rat):b1 (fun j=>W j*b1 (fun c=>hf t p c j*P c) (ch t p)) (aS t p)=P 0:=by
 rw [aiY,fJ (g:=fun c=>if c=0 then P 0 else 0) (fun c av=> ?_),yS,aG (Ep t p)];rw [ajw ah h av];unfold qO;by_cases e:c=0
 ·subst e;rw [aG rfl,aG rfl,Rat.mul_one]
 ·rw [az e,az e,vX]
theorem ajy (T:List (List Rat))(n m:Nat)(x y:Nat→Rat):kr T n m x y=b1 (fun j=>y j*b1 (fun i=>(T.getD i []).getD j 0*x i) n) m:=by unfold kr;rw [fJ (g:=fun i=>b1 (fun j=>x i*((T.getD i []).getD j 0*y j)) m) (fun i _=>(tQ _ _ _).symm),Mm];refine fJ (fun j _=> ?_);rw [←tQ];exact fJ (fun i _=>by grind)
structure rP (t:aT)(v:Rat)(x y:Nat→Rat):Prop where
 mj:kW t 0 x
 zK:kW t 1 y
 Gh: ∀x',kW t 0 x'→kr (fI t) (aS t 0) (aS t 1) x' y≤v
 least: ∀oU,kW t 1 oU→v≤kr (fI t) (aS t 0) (aS t 1) x oU
theorem aeg (ah:Valid t){wM wN:Nat→Rat}(OA:kW t 0 wM)(OB:kW t 1 wN){r:BU}(g:cI.Good (dz t) r):
 r.kind=0∧r.X.length=aS t 0+2*ch t 1∧r.Y.length=aS t 1+2*ch t 0∧rP t r.V (fun k=>r.X.getD k 0) (fun k=>r.Y.getD k 0):=by
 have sd:=EA t;have em:=Ez t;have nM:=Ep t 0;have re:=Ep t 1;cases g with
 | @IN X Y V ar aY Lg Dj mh sE ea wO=>
  rw [sd] at ar Lg sE;rw [em] at aY Dj mh;rw [N5] at ea;rw [NW] at wO;have mj:kW t 0 (fun k=>X.getD k 0):=SY ah (fun k ao=>Lg k J) (fun c av=>by
   have U:=mh (aS t 1+2*c) J;have ab:=mh (aS t 1+(2*c+1)) J;rw [HI J,Ih J,H7,show 2*c/2=c by omega] at U;rw [HI J,Ih J,Is,show (2*c+1)/2=c by omega] at ab;refine r4 (by grind) (by grind))
  have zK:kW t 1 (fun k=>Y.getD k 0):=SY ah (fun k ao=>Dj k J) (fun c av=>by
   have U:=sE (aS t 0+c) J;have ab:=sE (aS t 0+ch t 1+c) J;obtain ⟨d1,d2⟩:=Uf av Y;rw [d1,EX J] at U;rw [d2,EX J,az J] at ab;unfold qO;by_cases e:c=0
   ·subst e;rw [aG J] at U ab;rw [aG rfl];refine r4 (by grind) U
   ·rw [az J,az J] at U;rw [az J] at ab;rw [az e];refine r4 (by grind) U)
  refine ⟨I,ar,aY,⟨mj,zK,fun x' wz=> ?_,fun oU An=> ?_⟩⟩
  ·show kr _ _ _ x' (fun k=>Y.getD k 0)≤V;rw [←wO,←HM ah wz (tt t Y)];unfold kr;refine Ib (fun i aa=> ?_);have U:=sE i J;rw [Ug aa,EX J,az J,az J] at U;have ab:=D0 (wz.qo i aa) (show b1 (fun j=>((fI t).getD i []).getD j 0*Y.getD j 0) (aS t 1)≤b1 (fun c=>hf t 0 c i*tt t Y c) (ch t 0) by grind);rw [mO,mO (x' i)];exact ab
  ·show V≤kr _ _ _ (fun k=>X.getD k 0) oU;rw [←ea,←HM ah An (sx t X),ajy];refine Ib (fun j ae=> ?_);have U:=mh j J;rw [Uh ae,NX ae] at U;have ab:=D0 (An.qo j ae) (show b1 (fun c=>hf t 1 c j*sx t X c) (ch t 1)≤b1 (fun i=>((fI t).getD i []).getD j 0*X.getD i 0) (aS t 0) by grind);rw [mO,mO (oU j)];exact ab
 | @none Y hm aY Dj sE wO=>
  exfalso;rw [sd] at sE;rw [em] at aY Dj;rw [NW] at wO;have bw:=SZ (p:=1) ah (W:=fun k=>Y.getD k 0) (fun k ao=>Dj k J) (fun c av=>by
   have U:=sE (aS t 0+c) J;have ab:=sE (aS t 0+ch t 1+c) J;obtain ⟨d1,d2⟩:=Uf av Y;rw [d1] at U;rw [d2] at ab;exact r4 (by grind) U)
  have aw:0≤tt t Y 0:=by rw [←HM ah OA (tt t Y)];refine Lw (fun i aa=>xM (OA.qo i aa) ?_);have U:=sE i J;rw [Ug aa,fJ (n:=aS t 1) (g:=fun _=>0) (fun j ae=>by rw [bw j ae,vX]),qz] at U;grind
  exact Rat.not_le.2 wO aw
 | @free X R aF ar ad Lg cH mh Cb dc=>
  exfalso;rw [sd] at ad cH;rw [em] at Cb;rw [N5] at dc;have bw:=SZ (p:=0) ah (W:=fun k=>R.getD k 0) (fun k ao=>cH k J) (fun c av=>by
   have U:=Cb (aS t 1+2*c) J;have ab:=Cb (aS t 1+(2*c+1)) J;rw [HI J,H7,show 2*c/2=c by omega] at U;rw [HI J,Is,show (2*c+1)/2=c by omega] at ab;refine r4 (by grind) (by grind))
  have aw:sx t R 0≤0:=by
   rw [←HM ah OB (sx t R)];have bg:b1 (fun j=>wN j*b1 (fun c=>hf t 1 c j*sx t R c) (ch t 1)) (aS t 1)≤b1 (fun _=>0) (aS t 1):=Ib (fun j ae=>by
    have U:=Cb j J;rw [Uh ae,fJ (n:=aS t 0) (g:=fun _=>0) (fun i aa=>by rw [bw i aa,vX]),qz] at U;have ab:=D0 (OB.qo j ae) (show b1 (fun c=>hf t 1 c j*sx t R c) (ch t 1)≤0 by grind);rw [oF] at ab;rw [mO];exact ab)
   rwa [qz] at bg
  exact Rat.not_le.2 dc aw
end
end Go.ai.lN
namespace Go.ai.lN
open Go.ai.dL Go.ai.cz Go.ai.c8 Go.ai.cI
theorem rP.uniq {t:aT}{v sB:Rat}{x y x' oU:Nat→Rat}(h:rP t v x y)(aL:rP t sB x' oU):v=sB:=
 r4 (q6 (h.least oU aL.zK) (aL.Gh x h.mj)) (q6 (aL.least y h.zK) (h.Gh x' aL.mj))
structure rS (n m:cW):Prop where
 kind:m.kind=n.kind
 eI:m.eI=n.eI
 info:m.info=n.info
 next:m.next=n.next
 eH:m.eH=n.eH
theorem rS.refl (n:cW):rS n n:=⟨rfl,rfl,rfl,rfl,rfl⟩
structure fR (t u:aT):Prop where
 len:u.length=t.length
 node: ∀i,rS (t.getD i aK) (u.getD i aK)
theorem rS.own {n m:cW}(h:rS n m)(p:Int):own p m=own p n:=by unfold cz.own;rw [h.kind,h.eI]
theorem rS.e7 {n m:cW}(h:rS n m)(p x:Int):e7 p x m=e7 p x n:=by unfold cz.e7;rw [h.own,h.info]
section
variable {t u:aT}
theorem fR.form (h:fR t u)(p:Int): ∀i,dE u p i=dE t p i
 |0=>by show lM.mk _ (List.replicate u.length 0) _=_;rw [h.len];rfl
 |i+1=>by
  have aF:=h.node i;show qN p (u.getD i aK) i (dE u p i)=qN p (t.getD i aK) i (dE t p i);rw [h.form p i];have aD:fL p (u.getD i aK) i (dE t p i)=fL p (t.getD i aK) i (dE t p i):=by unfold fL pQ;rw [aF.own,aF.info,aF.next]
  have aE: ∀f,pV p (u.getD i aK) i f=pV p (t.getD i aK) i f:=fun f=>by funext k;unfold pV;rw [aF.own,aF.info]
  unfold qN;rw [aD,aE,aF.next]
theorem fR.cx (h:fR t u)(p:Int):cp u p=cp t p:=by unfold cp;rw [h.len,h.form]
theorem fR.pos (h:fR t u)(p:Int):kt u p=kt t p:=by unfold kt;rw [h.len,h.form]
theorem fR.first (h:fR t u)(p:Int):jv u p=jv t p:=by unfold jv;rw [h.len,h.form]
theorem fR.ends (h:fR t u):ee u=ee t:=by unfold ee;rw [h.len];exact List.filter_congr (fun i _=>by rw [(h.node i).kind])
theorem fR.any (h:fR t u)(f:cW→Bool)(aN: ∀n m,rS n m→f m=f n):u.any f=t.any f:=by
 have e: ∀l:aT,l.any f=(List.range l.length).any (fun i=>f (l.getD i aK)):=fun l=>by
  rw [s3,nC,nC];constructor
  ·rintro ⟨x,ar,U⟩;obtain ⟨i,aa,rfl⟩:=B6.1 ar;exact ⟨i,q2.2 aa,by simpa [List.getD,aa] using U⟩
  ·rintro ⟨i,aa,U⟩;have aa:=q2.1 aa;exact ⟨l.getD i aK,dx aK aa,U⟩
 rw [e,e,h.len];congr 1;funext i;exact aN _ _ (h.node i)
theorem fR.infos (h:fR t u)(p:Int):di u p=di t p:=by unfold di;exact List.filter_congr (fun x _=>h.any _ (fun n m Z5=>Z5.e7 p x))
theorem Lm {α:Type}(f g:α→Bool)(d:α): ∀(l m:List α),m.length=l.length→(∀i,i<l.length→g (m.getD i d)=f (l.getD i d))→m.findIdx g=l.findIdx f
 |[],[],_,_=>rfl
 |[],b::m,h,_=>by cases h
 |a::l,[],h,_=>by cases h
 |a::l,b::m,h,aN=>by have aO:g b=f a:=aN 0 bZ;rw [List.findIdx_cons,List.findIdx_cons,aO,Lm f g d l m (by simpa using h) (fun i aa=>aN (i+1) (by simpa using aa))]
theorem fR.width (h:fR t u)(p x:Int):cD u p x=cD t p x:=by unfold cD Bt;rw [Lm (cz.e7 p x) (cz.e7 p x) aK t u h.len (fun i _=>(h.node i).e7 p x),(h.node _).next]
theorem fR.r8 (h:fR t u)(p:Int)(s:Nat):n6 u p s=n6 t p s:=by unfold n6;rw [h.cx]
theorem fR.Ax (h:fR t u)(p:Int):aS u p=aS t p:=by unfold aS;rw [h.cx]
theorem fR.xT (h:fR t u){p:Int}{W:Nat→Rat}(f:kW t p W):kW u p W:=by
 refine ⟨f.root,fun k ao=>f.qo k (by rw [←h.cx];exact ao),fun x ar=> ?_⟩;have ax:qE u p x=qE t p x:=by unfold qE;rw [h.first]
 rw [h.infos] at ar;rw [h.width,ax,h.r8];exact f.sum x ar
theorem fR.symm (h:fR t u):fR u t:=⟨h.len.symm,fun i=>⟨(h.node i).kind.symm,(h.node i).eI.symm,(h.node i).info.symm,(h.node i).next.symm,(h.node i).eH.symm⟩⟩
theorem fR.reach (h:fR t u):eK u (eJ u)=eK t (eJ t):=by
 have key: ∀i,j7 u (eJ u) i=j7 t (eJ t) i:=fun i=>by
  induction i with
  |zero=>show (List.replicate u.length (0:Rat)).set 0 1=_;rw [h.len];rfl
  |succ i a8=>
   show tz (BA (eJ u i) ((j7 u (eJ u) i).getD i 0)) (u.getD i aK).next 0 (j7 u (eJ u) i)=_
   have e:eJ u i=eJ t i:=by unfold eJ;rw [(h.node i).kind,(h.node i).eH]
   rw [a8,e,(h.node i).next];rfl
 unfold eK;rw [h.len,key]
theorem fR.Ow (h:fR t u)(ah:Valid t)(c:Rat)(aJ: ∀i,i<t.length→(t.getD i aK).kind=0→b4 (u.getD i aK).dC=b4 (t.getD i aK).dC*c)(x y:Nat→Rat):
 kr (fI u) (aS u 0) (aS u 1) x y=kr (fI t) (aS t 0) (aS t 1) x y*c:=by
 have lt: ∀e∈ee t,gu t 0 e<aS t 0∧gu t 1 e<aS t 1:=fun e he=>⟨(xk ah 0 (rA he).1).2,(xk ah 1 (rA he).1).2⟩
 have iX: ∀p,gu u p=gu t p:=fun p=>by funext e;unfold gu;rw [h.pos]
 have f1:=DM (pa:=gu t 0) (kI:=gu t 1) (v:=kT t (eK t (eJ t))) x y (ee t) (Ba (aS t 0) (aS t 1)) lt;have f2:=DM (pa:=gu t 0) (kI:=gu t 1) (v:=kT u (eK t (eJ t))) x y (ee t) (Ba (aS t 0) (aS t 1)) lt;have zI:fI u=tA (gu t 0) (gu t 1) (kT u (eK t (eJ t))) (ee t) (pT (aS t 0) (aS t 1)):=by unfold fI;rw [iX,iX,h.reach,h.ends,h.Ax,h.Ax]
 rw [zI,h.Ax,h.Ax,f2];unfold fI;rw [f1,LY,oq,oq,←aiK];congr 1;refine lr (fun e he=> ?_);unfold kT;rw [aJ e (rA he).1 (rA he).2];grind
theorem rP.scale (h:fR t u)(ah:Valid t){c:Rat}(av:0<c)(aJ: ∀i,i<t.length→(t.getD i aK).kind=0→b4 (u.getD i aK).dC=b4 (t.getD i aK).dC*c){v:Rat}{x y:Nat→Rat}(cR:rP t v x y):rP u (v*c) x y:=by
 have Fl:=Rat.le_of_lt av;refine ⟨h.xT cR.mj,h.xT cR.zK,fun x' wz=> ?_,fun oU An=> ?_⟩
 ·rw [h.Ow ah c aJ];exact D0 Fl (cR.Gh x' (h.symm.xT wz))
 ·rw [h.Ow ah c aJ];exact D0 Fl (cR.least oU (h.symm.xT An))
end
structure zj (n m:cW):Prop where
 kind:m.kind=n.kind
 eI:n.kind=2→m.eI=1-n.eI
 info:m.info=n.info
 next:m.next=n.next
 eH:m.eH=n.eH
structure hh (t u:aT):Prop where
 len:u.length=t.length
 node: ∀i,zj (t.getD i aK) (u.getD i aK)
theorem zj.own {n m:cW}(h:zj n m)(p:Int):own (1-p) m=own p n:=by
 unfold cz.own;rw [h.kind];by_cases e:n.kind=2
 ·rw [h.eI e];have aE:decide ((1:Int)-n.eI=1-p)=decide (n.eI=p):=by rw [p8];omega
  rw [aE]
 ·have bM:decide (n.kind=2)=false:=fq e;rw [bM,pq,pq]
theorem zj.e7 {n m:cW}(h:zj n m)(p x:Int):e7 (1-p) x m=e7 p x n:=by unfold cz.e7;rw [h.own,h.info]
section
variable {t u:aT}
theorem hh.form (h:hh t u)(p:Int): ∀i,dE u (1-p) i=dE t p i
 |0=>by show lM.mk _ (List.replicate u.length 0) _=_;rw [h.len];rfl
 |i+1=>by
  have aF:=h.node i;show qN (1-p) (u.getD i aK) i (dE u (1-p) i)=qN p (t.getD i aK) i (dE t p i);rw [h.form p i];have aD:fL (1-p) (u.getD i aK) i (dE t p i)=fL p (t.getD i aK) i (dE t p i):=by unfold fL pQ;rw [aF.own,aF.info,aF.next]
  have aE: ∀f,pV (1-p) (u.getD i aK) i f=pV p (t.getD i aK) i f:=fun f=>by funext k;unfold pV;rw [aF.own,aF.info]
  unfold qN;rw [aD,aE,aF.next]
theorem hh.cx (h:hh t u)(p:Int):cp u (1-p)=cp t p:=by unfold cp;rw [h.len,h.form]
theorem hh.pos (h:hh t u)(p:Int):kt u (1-p)=kt t p:=by unfold kt;rw [h.len,h.form]
theorem hh.first (h:hh t u)(p:Int):jv u (1-p)=jv t p:=by unfold jv;rw [h.len,h.form]
theorem hh.ends (h:hh t u):ee u=ee t:=by unfold ee;rw [h.len];exact List.filter_congr (fun i _=>by rw [(h.node i).kind])
theorem hh.infos (h:hh t u)(p:Int):di u (1-p)=di t p:=by
 unfold di;refine List.filter_congr (fun x _=> ?_);have e: ∀(l:aT) (f:cW→Bool),l.any f=(List.range l.length).any (fun i=>f (l.getD i aK)):=fun l f=>by
  rw [s3,nC,nC];constructor
  ·rintro ⟨x,ar,U⟩;obtain ⟨i,aa,rfl⟩:=B6.1 ar;exact ⟨i,q2.2 aa,by simpa [List.getD,aa] using U⟩
  ·rintro ⟨i,aa,U⟩;have aa:=q2.1 aa;exact ⟨l.getD i aK,dx aK aa,U⟩
 rw [e,e,h.len];congr 1;funext i;exact (h.node i).e7 p x
theorem hh.width (h:hh t u)(p x:Int):cD u (1-p) x=cD t p x:=by unfold cD Bt;rw [Lm (cz.e7 p x) (cz.e7 (1-p) x) aK t u h.len (fun i _=>(h.node i).e7 p x),(h.node _).next]
theorem hh.r8 (h:hh t u)(p:Int)(s:Nat):n6 u (1-p) s=n6 t p s:=by unfold n6;rw [h.cx]
theorem hh.xT (h:hh t u){p:Int}{W:Nat→Rat}:kW u (1-p) W↔kW t p W:=by
 have ax: ∀x,qE u (1-p) x=qE t p x:=fun x=>by unfold qE;rw [h.first]
 constructor
 ·intro f;refine ⟨f.root,fun k ao=>f.qo k (by rw [h.cx];exact ao),fun x ar=> ?_⟩;have:=f.sum x (by rw [h.infos];exact ar);rw [h.width,ax,h.r8] at this;exact this
 ·intro f;refine ⟨f.root,fun k ao=>f.qo k (by rw [←h.cx];exact ao),fun x ar=> ?_⟩;rw [h.infos] at ar;rw [h.width,ax,h.r8];exact f.sum x ar
theorem hh.reach (h:hh t u):eK u (eJ u)=eK t (eJ t):=by
 have key: ∀i,j7 u (eJ u) i=j7 t (eJ t) i:=fun i=>by
  induction i with
  |zero=>show (List.replicate u.length (0:Rat)).set 0 1=_;rw [h.len];rfl
  |succ i a8=>
   show tz (BA (eJ u i) ((j7 u (eJ u) i).getD i 0)) (u.getD i aK).next 0 (j7 u (eJ u) i)=_
   have e:eJ u i=eJ t i:=by unfold eJ;rw [(h.node i).kind,(h.node i).eH]
   rw [a8,e,(h.node i).next];rfl
 unfold eK;rw [h.len,key]
theorem hh.Ox (h:hh t u)(ah:Valid t)(aJ: ∀i,i<t.length→(t.getD i aK).kind=0→b4 (u.getD i aK).dC= -(b4 (t.getD i aK).dC))(x y:Nat→Rat):
 kr (fI u) (aS u 0) (aS u 1) y x= -(kr (fI t) (aS t 0) (aS t 1) x y):=by
 have lt: ∀e∈ee t,gu t 0 e<aS t 0∧gu t 1 e<aS t 1:=fun e he=>⟨(xk ah 0 (rA he).1).2,(xk ah 1 (rA he).1).2⟩
 have s1:cp u 1=cp t 0:=h.cx 0;have j1:cp u 0=cp t 1:=h.cx 1;have cY:kt u 1=kt t 0:=h.pos 0;have oR:kt u 0=kt t 1:=h.pos 1;have b3:aS u 0=aS t 1:=by unfold aS;rw [j1]
 have mr:aS u 1=aS t 0:=by unfold aS;rw [s1]
 have iX:gu u 0=gu t 1:=by funext e;unfold gu;rw [oR]
 have aD:gu u 1=gu t 0:=by funext e;unfold gu;rw [cY]
 have f1:=DM (pa:=gu t 0) (kI:=gu t 1) (v:=kT t (eK t (eJ t))) x y (ee t) (Ba (aS t 0) (aS t 1)) lt;have f2:=DM (pa:=gu t 1) (kI:=gu t 0) (v:=kT u (eK t (eJ t))) y x (ee t) (Ba (aS t 1) (aS t 0)) (fun e he=>⟨(lt e he).2,(lt e he).1⟩);have zI:fI u=tA (gu t 1) (gu t 0) (kT u (eK t (eJ t))) (ee t) (pT (aS t 1) (aS t 0)):=by unfold fI;rw [iX,aD,h.reach,h.ends,b3,mr]
 rw [zI,b3,mr,f2];unfold fI;rw [f1,LY,LY,oq,oq];have:=UN (fun e=>x (gu t 0 e)*kT t (eK t (eJ t)) e*y (gu t 1 e)) (ee t);rw [←this];congr 1;refine lr (fun e he=> ?_);unfold kT;rw [aJ e (rA he).1 (rA he).2];grind
theorem rP.swap (h:hh t u)(ah:Valid t)(aJ: ∀i,i<t.length→(t.getD i aK).kind=0→b4 (u.getD i aK).dC= -(b4 (t.getD i aK).dC)){v:Rat}{x y:Nat→Rat}(cR:rP t v x y):rP u (-v) y x:=by
 have f0: ∀W,kW u 0 W↔kW t 1 W:=fun W=>h.xT (p:=1);have f1: ∀W,kW u 1 W↔kW t 0 W:=fun W=>h.xT (p:=0);refine ⟨(f0 y).2 cR.zK,(f1 x).2 cR.mj,fun oU An=> ?_,fun x' wz=> ?_⟩
 ·rw [h.Ox ah aJ x oU];have:=cR.least oU ((f0 oU).1 An);grind
 ·rw [h.Ox ah aJ x' y];have:=cR.Gh x' ((f1 x').1 wz);grind
end
end Go.ai.lN
namespace Go.ai.BR
open Go.ai.dL Go.ai.cz Go.ai.c8 Go.ai.cI
section
variable {M:List (List Rat)}{w:Nat}{v sB:Rat}{x y x' oU:List Rat}
end
section
variable {M:List (List Rat)}{w:Nat}
end
section
variable {M:List (List Rat)}{w:Nat}{v:Rat}{x y:List Rat}
end
def skip (i j:Nat):Nat:=if j<i then j else j+1
section
variable {M:List (List Rat)}{w:Nat}{v:Rat}{x y:List Rat}
end
end Go.ai.BR
namespace Go.ai.BR
open Go.ai.dL Go.ai.cz Go.ai.c8 Go.ai.cI
section
variable {M:List (List Rat)}{w:Nat}
end
end Go.ai.BR
namespace Go.ai.BR
open Go.ai.dL Go.ai.cz Go.ai.c8 Go.ai.cI
end Go.ai.BR
namespace Go.ai.lN
open Go.ai.dL Go.ai.cz Go.ai.c8 Go.ai.cI
def kV (t:aT):Int:=
 if vK t≠0 then vK t else if¬(nt t 0=true∧nt t 1=true) then 10
 else if 13<aS t 0∨6<(di t 0).length∨13<aS t 1∨6<(di t 1).length then 2 else 0
structure Fit (t:aT):Prop where
 v:Valid t
 e:vK t=0
 oR:nt t 0=true
 cY:nt t 1=true
 b3:aS t 0≤13
 mr:aS t 1≤13
 i0:(di t 0).length≤6
 i1:(di t 1).length≤6
theorem y3 {t:aT}(h:kV t=0):Fit t:=by
 unfold kV at h;split at h
 ·rename_i U;exact absurd h U
 split at h
 ·cases h
 split at h
 ·cases h
 rename_i U ab aw;have U:=jV.1 U;have ab:=jV.1 ab;exact ⟨US U,U,ab.1,ab.2,J,J,J,J⟩
theorem E2 {t:aT}(h:Fit t):kV t=0:=by have aO:=h.b3;have U:=h.mr;have ab:=h.i0;have aw:=h.i1;unfold kV;rw [az (fun q=>q h.e),az (fun q=>q ⟨h.oR,h.cY⟩),az J]
def BH (t:aT)(p:Int)(W:Nat→Rat):List (Int×List Rat):=(di t p).map (fun x=>(x,od t p W x))
def rG (t:aT)(p:Int)(W:Nat→Rat):rL:=(BH t p W).map (fun x=>⟨x.1,x.2.map cO⟩)
def xf (t:aT)(p:Int)(W:Nat→Rat):Bool:=(BH t p W).all (fun x=>x.2.all e3)
abbrev NO:=dI×rL×rL
def jw (t:aT)(K L:Nat):NO×Int:=
 if kV t≠0 then (([],[],[]),kV t)
 else if e3 (gF (dz t) K L).V=true∧xf t 0 (fun k=>(gF (dz t) K L).X.getD k 0)=true∧xf t 1 (fun k=>(gF (dz t) K L).Y.getD k 0)=true then
  ((cO (gF (dz t) K L).V,rG t 0 (fun k=>(gF (dz t) K L).X.getD k 0),rG t 1 (fun k=>(gF (dz t) K L).Y.getD k 0)),0)
 else (([],[],[]),2)
theorem UB {t:aT}(ah:Valid t)(p:Int): ∃W,kW t p W:=⟨_,ajU ah (ahT ah p (eJ t)).mix⟩
theorem DI {t:aT}(h:Fit t){K L:Nat}(ax:qW (dz t) K L):
 (gF (dz t) K L).kind=0∧(gF (dz t) K L).X.length=aS t 0+2*ch t 1∧(gF (dz t) K L).Y.length=aS t 1+2*ch t 0∧rP t (gF (dz t) K L).V (fun k=>(gF (dz t) K L).X.getD k 0) (fun k=>(gF (dz t) K L).Y.getD k 0):=by obtain ⟨wM,f0⟩:=UB h.v 0;obtain ⟨wN,f1⟩:=UB h.v 1;exact aeg h.v f0 f1 (aed (y5 t) ax)
theorem DJ {t:aT}(h:kV t=0)(K L:Nat):(jw t K L).2=2∨((jw t K L).2=0∧(jw t K L).1.1=cO (gF (dz t) K L).V∧e3 (gF (dz t) K L).V=true):=by
 unfold jw;rw [az (fun q=>q h)];split
 ·rename_i U;exact .inr ⟨rfl,rfl,U.1⟩
 ·exact .inl I
def iq (fE:dI)(n:cW):cW:=if n.kind=0 then {n with dC:=cO (b4 n.dC*b4 fE)} else n
def e2 (fE:dI)(t:aT):aT:=t.map (iq fE)
theorem yE (fE:dI)(n:cW):rS n (iq fE n):=by
 unfold iq;split
 ·exact ⟨I,I,I,I,I⟩
 ·exact rS.refl n
theorem vw {g:cW→cW}(aO:g aK=aK∨True)(t:aT){i:Nat}(aa:i<t.length):(t.map g).getD i aK=g (t.getD i aK):=by simp [List.getD,aa]
theorem RL (fE:dI)(t:aT):fR t (e2 fE t):=by
 refine ⟨cL ..,fun i=> ?_⟩;by_cases aa:i<t.length
 ·rw [show (e2 fE t).getD i aK=iq fE (t.getD i aK) from vw (.inr trivial) t aa];exact yE _ _
 ·have aD:t.getD i aK=aK:=by simp [List.getD,aa]
  have aE:(e2 fE t).getD i aK=aK:=by simp [e2,List.getD,aa]
  rw [aD,aE];exact rS.refl _
theorem Tc (N:Nat): ∀(t:aT) (i:Nat),(∀j,j<t.length→lG N (i+j) (t.getD j aK)=0)→qF N i t=0
 |[],i,_=>rfl
 |n::r,i,h=>by
  have aO:lG N i n=0:=h 0 bZ;rw [qF,aG aO];exact Tc N r (i+1) (fun j ae=>by
   have:=h (j+1) (by simpa using ae);rw [show i+(j+1)=i+1+j by omega] at this;exact this)
theorem UQ {t:aT}(h:Valid t):vK t=0:=by
 unfold vK;rw [az (by have:=h.le;omega),az h.ne,az (fun q=>q (Tc _ t 0 (fun j ae=>by rw [c1];exact h.nodes j ae))),az,az]
 ·rw [pn,r1];intro a a1;rw [pn,r1];intro b ak;rw [h.same a a1 b ak];decide
 ·rw [pn,r1];intro k ao;rw [pn,Bool.and_eq_false_iff];by_cases e:k=0
  ·left;rw [zx];exact fun q=>q e
  ·right;rw [zx];exact fun q=>q (h.once k (q2.1 ao) e)
theorem S8 {g:cW→cW}(cX: ∀n,(g n).next=n.next)(t:aT)(k:Nat):named (t.map g) k=named t k:=by
 unfold named;have e:(t.map g).flatMap cW.next=t.flatMap cW.next:=by rw [List.flatMap_map];congr 1;funext n;exact cX n
 rw [e]
theorem Ti {t:aT}{fE:dI}(h:Valid t)(aJ: ∀i,i<t.length→(t.getD i aK).kind=0→gv (cO (b4 (t.getD i aK).dC*b4 fE))=0):Valid (e2 fE t):=by
 have ax:=RL fE t
 refine ⟨by rw [ax.len];exact h.le,by rw [ax.len];exact h.ne,fun i aa=> ?_,fun k ao aO=> ?_,fun a a1 b ak=> ?_⟩
 ·rw [ax.len] at aa⊢;have aF:=h.nodes i aa;rw [show (e2 fE t).getD i aK=iq fE (t.getD i aK) from vw (.inr trivial) t aa];unfold iq;split
  ·rename_i nT;have kE:=aF;unfold lG at kE⊢;rw [aG nT] at kE;rw [aG (show ({t.getD i aK with dC:=cO (b4 (t.getD i aK).dC*b4 fE)}:cW).kind=0 from nT)];split at kE
   ·cases kE
   ·rename_i U;rw [az U];exact aJ i aa nT
  ·exact aF
 ·rw [ax.len] at ao;have e:named (e2 fE t) k=named t k:=S8 (fun n=>(yE fE n).next) t k;rw [e];exact h.once k ao aO
 ·obtain ⟨x,ar,rfl⟩:=da.1 a1;obtain ⟨y,aY,rfl⟩:=da.1 ak;have AH:=yE fE x
  have Gw:=yE fE y
  have:=h.same x ar y aY;unfold rH at this⊢;rw [AH.kind,AH.eI,AH.info,AH.next,Gw.kind,Gw.eI,Gw.info,Gw.next];exact this
theorem fR.ways {t u:aT}(h:fR t u)(p:Int): ∀i,jg u p i=jg t p i
 |0=>by show List.replicate u.length _=_;rw [h.len];rfl
 |i+1=>by
  show xd (pe p (u.getD i aK) ((jg u p i).getD i [])) (u.getD i aK).next 0 (jg u p i)=_
  rw [h.ways p i,(h.node i).next];have e: ∀w,pe p (u.getD i aK) w=pe p (t.getD i aK) w:=fun w=>by funext k;unfold pe;rw [(h.node i).own,(h.node i).info]
  rw [e];rfl
theorem fR.Cj {t u:aT}(h:fR t u)(p:Int): ∀i,iM u p i=iM t p i
 |0=>rfl
 |i+1=>by show (if own p (u.getD i aK)=true∧gE (iM u p i) (u.getD i aK).info=none then iM u p i++[((u.getD i aK).info,i)] else iM u p i)=_;rw [h.Cj p i,(h.node i).own,(h.node i).info];rfl
theorem fR.kJ {t u:aT}(h:fR t u)(p:Int)(W:List cz.Way): ∀i,cz.kJ u p W i=cz.kJ t p W i
 |0=>rfl
 |i+1=>by show (cz.kJ u p W i && (if own p (u.getD i aK)=true then (match gE (iM u p i) (u.getD i aK).info with|none=>true|some k=>decide (W.getD i []=W.getD k [])) else true))=_;rw [h.kJ p W i,h.Cj,(h.node i).own,(h.node i).info];rfl
theorem fR.C9 {t u:aT}(h:fR t u)(p:Int):nt u p=nt t p:=by unfold nt;rw [h.ways,h.len,h.kJ]
theorem fR.fit {t u:aT}(h:fR t u)(aN:Fit t)(ah:Valid u):Fit u:=
 ⟨ah,UQ ah,by rw [h.C9];exact aN.oR,by rw [h.C9];exact aN.cY,by rw [h.Ax];exact aN.b3,by rw [h.Ax];exact aN.mr,by rw [h.infos];exact aN.i0,by rw [h.infos];exact aN.i1⟩
theorem aiH {t:aT}{fE:dI}(h:kV t=0)(aJ: ∀i,i<t.length→(t.getD i aK).kind=0→(t.getD i aK).dC.length≤12)(ak:gv fE=0)(xX:fE.length≤12)(eE:0<b4 fE){K L gm hN:Nat}(ax:qW (dz t) K L)(gA:qW (dz (e2 fE t)) gm hN):
 (∀i,i<t.length→(t.getD i aK).kind=0→pZ (fun x y=>x*y) (t.getD i aK).dC fE=(cO (b4 (t.getD i aK).dC*b4 fE),0))∧kV (e2 fE t)=0∧
 ((jw t K L).2=2∨(jw (e2 fE t) gm hN).2=2∨((jw t K L).2=0∧(jw (e2 fE t) gm hN).2=0∧pZ (fun x y=>x*y) (jw t K L).1.1 fE=((jw (e2 fE t) gm hN).1.1,0))):=by
 have F:=y3 h;have xS:D 12 (b4 fE):=(fQ.self ak).nH xX a6;have e0: ∀i,i<t.length→(t.getD i aK).kind=0→D 24 (b4 (t.getD i aK).dC*b4 fE):=fun i aa ao=>((fQ.self (yL F.v aa ao)).nH (aJ i aa ao) a6).mul xS;have aB: ∀i,i<t.length→(t.getD i aK).kind=0→fQ (cO (b4 (t.getD i aK).dC*b4 fE)) (b4 (t.getD i aK).dC*b4 fE):=fun i aa ao=>yZ ((e0 i aa ao).fit a6);have oN:=Ti (fE:=fE) F.v (fun i aa ao=>(aB i aa ao).1);have dp:=RL fE t
 have xt:=dp.fit F oN;refine ⟨fun i aa ao=> ?_,E2 xt,?_⟩
 ·rw [fQ.two _ (fQ.self (yL F.v aa ao)) (fQ.self ak)];exact (aB i aa ao).out
 rcases DJ h K L with q|⟨bO,bW,dq⟩
 ·exact .inl q
 rcases DJ (E2 xt) gm hN with r|⟨gq,gJ,nW⟩
 ·exact .inr (.inl r)
 refine .inr (.inr ⟨bO,gq,?_⟩);obtain ⟨_,_,_,cR⟩:=DI F ax;obtain ⟨_,_,_,Jc⟩:=DI xt gA;have Kk:=cR.scale dp F.v eE (fun i aa ao=>by
  rw [show (e2 fE t).getD i aK=iq fE (t.getD i aK) from vw (.inr trivial) t aa];unfold iq;rw [aG ao];exact (aB i aa ao).2)
 have hu:=Jc.uniq Kk;rw [bW,gJ,fQ.two _ (yZ dq) (fQ.self ak),←hu];exact (yZ nW).out
def jt (n:cW):cW:=if n.kind=2 then {n with eI:=1-n.eI} else n
def lD (t:aT):aT:=(e2 [45,49] t).map jt
theorem aiL (n:cW):zj n (jt (iq [45,49] n)):=by
 unfold jt iq;by_cases aO:n.kind=0
 ·rw [aG aO,az (show¬({n with dC:=cO (b4 n.dC*b4 [45,49])}:cW).kind=2 from fun e=>by have e:n.kind=2:=e;omega)];exact ⟨I,fun e=>by omega,I,I,I⟩
 ·rw [az aO];split
  ·exact ⟨I,fun _=>rfl,I,I,I⟩
  ·rename_i ab;exact ⟨rfl,fun e=>absurd e ab,rfl,rfl,rfl⟩
theorem RD (t:aT){i:Nat}(aa:i<t.length):(lD t).getD i aK=jt (iq [45,49] (t.getD i aK)):=by have:(lD t).getD i aK=jt ((e2 [45,49] t).getD i aK):=vw (.inr trivial) (e2 [45,49] t) (by rw [show (e2 [45,49] t).length=t.length from cL ..];exact aa);rw [this,show (e2 [45,49] t).getD i aK=iq [45,49] (t.getD i aK) from vw (.inr trivial) t aa]
theorem ahc (t:aT):(lD t).length=t.length:=by unfold lD e2;rw [cL,cL]
theorem agF (t:aT):hh t (lD t):=by
 refine ⟨ahc t,fun i=> ?_⟩;by_cases aa:i<t.length
 ·rw [RD t aa];exact aiL _
 ·have aD:t.getD i aK=aK:=by simp [List.getD,aa]
  have aE:(lD t).getD i aK=aK:=by simp [lD,e2,List.getD,aa]
  rw [aD,aE];exact ⟨I,fun e=>absurd (show (0:Int)=2 from e) a6,I,I,I⟩
theorem aiM {t:aT}(h:Valid t)(aJ: ∀i,i<t.length→(t.getD i aK).kind=0→gv (cO (b4 (t.getD i aK).dC*b4 [45,49]))=0):Valid (lD t):=by
 have U:=Ti (fE:=[45,49]) h aJ;have jH: ∀n,(jt n).next=n.next:=fun n=>by unfold jt;split<;>rfl
 have au:(lD t).length=(e2 [45,49] t).length:=cL ..;refine ⟨by rw [au];exact U.le,by rw [au];exact U.ne,fun i aa=> ?_,fun k ao aO=> ?_,fun a a1 b ak=> ?_⟩
 ·rw [au] at aa⊢;have aF:=U.nodes i aa;rw [show (lD t).getD i aK=jt ((e2 [45,49] t).getD i aK) from vw (.inr trivial) _ aa];generalize (e2 [45,49] t).getD i aK=n at*;unfold jt;split
  ·rename_i eG;have kE:=aF;unfold lG at kE⊢;rw [az J,az J,aG eG] at kE;have KJ:({n with eI:=1-n.eI}:cW).kind=2:=eG;rw [az (by rw [KJ];decide),az (by rw [KJ];decide),aG KJ];split at kE
   ·cases kE
   ·rename_i ab;rw [az ab];split at kE
    ·cases kE
    ·rename_i aw;have aw: ¬((n.eI≠0∧n.eI≠1)∨n.info<0∨10≤n.info):=aw;rw [az (show¬(((1-n.eI)≠0∧(1-n.eI)≠1)∨n.info<0∨10≤n.info) by omega)];exact kE
  ·exact aF
 ·rw [au] at ao;have e:named (lD t) k=named (e2 [45,49] t) k:=S8 jH _ k;rw [e];exact U.once k ao aO
 ·obtain ⟨x,ar,rfl⟩:=da.1 a1;obtain ⟨y,aY,rfl⟩:=da.1 ak;have av:=U.same x ar y aY;have ao: ∀n:cW,(jt n).kind=n.kind:=fun n=>by unfold jt;split<;>rfl
  have aa: ∀n:cW,(jt n).info=n.info:=fun n=>by unfold jt;split<;>rfl
  unfold rH at av⊢;rw [ao,ao,aa,aa,jH,jH];by_cases aD:x.kind=2
  ·by_cases aE:y.kind=2
   ·have cY:(jt x).eI=1-x.eI:=by unfold jt;rw [aG aD]
    have eT:(jt y).eI=1-y.eI:=by unfold jt;rw [aG aE]
    have bM:decide ((jt x).eI=(jt y).eI)=decide (x.eI=y.eI):=by rw [cY,eT,p8];omega
    rw [bM];exact av
   ·rw [fq aE,pq,Bool.and_false]
  ·rw [fq aD,pq]
theorem hh.ways {t u:aT}(h:hh t u)(p:Int): ∀i,jg u (1-p) i=jg t p i
 |0=>by show List.replicate u.length _=_;rw [h.len];rfl
 |i+1=>by
  show xd (pe (1-p) (u.getD i aK) ((jg u (1-p) i).getD i [])) (u.getD i aK).next 0 (jg u (1-p) i)=_
  rw [h.ways p i,(h.node i).next];have e: ∀w,pe (1-p) (u.getD i aK) w=pe p (t.getD i aK) w:=fun w=>by funext k;unfold pe;rw [(h.node i).own,(h.node i).info]
  rw [e];rfl
theorem hh.Cj {t u:aT}(h:hh t u)(p:Int): ∀i,iM u (1-p) i=iM t p i
 |0=>rfl
 |i+1=>by show (if own (1-p) (u.getD i aK)=true∧gE (iM u (1-p) i) (u.getD i aK).info=none then iM u (1-p) i++[((u.getD i aK).info,i)] else iM u (1-p) i)=_;rw [h.Cj p i,(h.node i).own,(h.node i).info];rfl
theorem hh.kJ {t u:aT}(h:hh t u)(p:Int)(W:List cz.Way): ∀i,cz.kJ u (1-p) W i=cz.kJ t p W i
 |0=>rfl
 |i+1=>by show (cz.kJ u (1-p) W i && (if own (1-p) (u.getD i aK)=true then (match gE (iM u (1-p) i) (u.getD i aK).info with|none=>true|some k=>decide (W.getD i []=W.getD k [])) else true))=_;rw [h.kJ p W i,h.Cj,(h.node i).own,(h.node i).info];rfl
theorem hh.C9 {t u:aT}(h:hh t u)(p:Int):nt u (1-p)=nt t p:=by unfold nt;rw [h.ways,h.len,h.kJ]
theorem hh.fit {t u:aT}(h:hh t u)(aN:Fit t)(ah:Valid u):Fit u:=by have a0:nt u 0=nt t 1:=h.C9 1;have gx:nt u 1=nt t 0:=h.C9 0;have EP:cp u 0=cp t 1:=h.cx 1;have dX:cp u 1=cp t 0:=h.cx 0;have lP:di u 0=di t 1:=h.infos 1;have eY:di u 1=di t 0:=h.infos 0;exact ⟨ah,UQ ah,by rw [a0];exact aN.cY,by rw [gx];exact aN.oR,by unfold aS;rw [EP];exact aN.mr,by unfold aS;rw [dX];exact aN.b3,by rw [lP];exact aN.i1,by rw [eY];exact aN.i0⟩
theorem amd {t:aT}(h:kV t=0)(aJ: ∀i,i<t.length→(t.getD i aK).kind=0→(t.getD i aK).dC.length≤12){K L gm hN:Nat}(ax:qW (dz t) K L)(gA:qW (dz (lD t)) gm hN):
 (∀i,i<t.length→(t.getD i aK).kind=0→pZ (fun x y=>x*y) (t.getD i aK).dC [45,49]=(cO (b4 (t.getD i aK).dC*b4 [45,49]),0))∧kV (lD t)=0∧
 ((jw t K L).2=2∨(jw (lD t) gm hN).2=2∨((jw t K L).2=0∧(jw (lD t) gm hN).2=0∧yp (fun x=> -x) (jw t K L).1.1=((jw (lD t) gm hN).1.1,0))):=by
 have F:=y3 h;have e0: ∀i,i<t.length→(t.getD i aK).kind=0→D 24 (b4 (t.getD i aK).dC*b4 [45,49]):=fun i aa ao=>by rw [C5.2];exact ((fQ.self (yL F.v aa ao)).nH (aJ i aa ao) a6).mul (C5.nH (show 2≤12 by decide) a6)
 have aB: ∀i,i<t.length→(t.getD i aK).kind=0→fQ (cO (b4 (t.getD i aK).dC*b4 [45,49])) (b4 (t.getD i aK).dC*b4 [45,49]):=fun i aa ao=>yZ ((e0 i aa ao).fit a6);have oN:=aiM F.v (fun i aa ao=>(aB i aa ao).1);have dp:=agF t;have xt:=dp.fit F oN;refine ⟨fun i aa ao=> ?_,E2 xt,?_⟩
 ·rw [fQ.two _ (fQ.self (yL F.v aa ao)) (fQ.self C5.1)];exact (aB i aa ao).out
 rcases DJ h K L with q|⟨bO,bW,dq⟩
 ·exact .inl q
 rcases DJ (E2 xt) gm hN with r|⟨gq,gJ,nW⟩
 ·exact .inr (.inl r)
 refine .inr (.inr ⟨bO,gq,?_⟩);obtain ⟨_,_,_,cR⟩:=DI F ax;obtain ⟨_,_,_,Jc⟩:=DI xt gA;have Kk:=cR.swap dp F.v (fun i aa ao=>by
  rw [RD t aa];have e:(jt (iq [45,49] (t.getD i aK))).dC=cO (b4 (t.getD i aK).dC*b4 [45,49]):=by unfold jt iq;rw [aG ao,az (show¬({t.getD i aK with dC:=cO (b4 (t.getD i aK).dC*b4 [45,49])}:cW).kind=2 from fun e=>by have e:(t.getD i aK).kind=2:=e;omega)]
  rw [e,(aB i aa ao).2,C5.2];grind)
 have hu:=Jc.uniq Kk;rw [bW,gJ,fQ.one _ (yZ dq),←hu];exact (yZ nW).out
def Et (t:aT):List (List dI)×Int:=
 if kV t≠0 then ([],kV t) else if (fI t).all (fun r=>r.all e3)=true then ((fI t).map (fun r=>r.map cO),0) else ([],2)
def bo (t:aT)(a b:rL):Rat:=afR t (adf t (Qn a) (Qn b))
end Go.ai.lN
namespace Go.ai.cz
open Go.ai.c8
theorem TB {b8 Z:List Int}: ∀{s:rL} {k:Nat},(∀j,j<s.length→(s.getD j xR).info=b8.getD (k+j) 0∧(((s.getD j xR).eH.length:Nat):Int)=Z.getD (k+j) 0∧sS (s.getD j xR).eH=0)→It b8 Z k s=0
 |[],k,h=>rfl
 |c::r,k,h=>by have aO:=h 0 bZ;rw [It,az (by rintro (q|q);exact q aO.1;exact q aO.2.1),az (fun q=>q aO.2.2)];exact TB (fun j ae=>by have:=h (j+1) (by simpa using ae);rwa [show k+(j+1)=k+1+j by omega] at this)
theorem My {t:aT}{p:Int}{f:Int→List dI}(h: ∀x∈di t p,(f x).length=cD t p x∧sS (f x)=0):Q3 t p ((di t p).map (fun x=>⟨x,f x⟩))=0:=by unfold Q3;rw [cL,az (fun q=>q rfl)];refine TB (fun j ae=> ?_);rw [cL] at ae;rw [qA _ _ 0 _ _ ae,c1];have ar:(di t p).getD j 0∈di t p:=dx 0 ae;refine ⟨I,?_,(h _ ar).2⟩;unfold tZ;rw [qA _ _ 0 _ _ ae,(h _ ar).1]
theorem aga {t:aT}(ah:Valid t){p x:Int}(ar:x∈di t p):cD t p x≤6:=by obtain ⟨j,ae,ax⟩:=(qx ah).1 ar;rw [w8 ah ae ax];exact (Sp (ah.nodes j ae)).2
end Go.ai.cz
namespace Go.ai.cz
open Go.ai.c8 Go.ai.kz
def ze (bj:List fa)(W:Nat→Rat)(x:Int)(k:Nat)(o:List Rat):List Rat:=
 if 0≤(bj.getD k c3).before∧(bj.getD k c3).info=x∧0<W (bj.getD k c3).before.toNat then o.set (bj.getD k c3).choice.toNat (W k/W (bj.getD k c3).before.toNat) else o
def oc (bj:List fa)(W:Nat→Rat)(x:Int)(o:List Rat):Nat→List Rat
 |0=>o
 |k+1=>ze bj W x k (oc bj W x o k)
theorem DS (bj:List fa)(W:Nat→Rat)(x:Int)(o:List Rat): ∀k,(oc bj W x o k).length=o.length
 |0=>rfl
 |k+1=>by
  rw [oc,ze];split
  ·rw [dj,DS bj W x o k]
  ·exact DS bj W x o k
theorem TO {t:aT}(ah:Valid t){p x:Int}{s b:Nat}(h:vN t p x s b){k:Nat}(ao:k<(cp t p).length)(aO:0≤((cp t p).getD k c3).before)(aa:((cp t p).getD k c3).info=x):s≤k∧k<s+cD t p x:=by
 have k6:=(hP.mg ah p t.length (bR _)).eP;have U:1≤k:=by
  rcases nD k with e|e
  ·subst e;rw [(sF ah p).2.1] at aO;exact absurd aO a6
  ·exact e
 obtain ⟨y,c,wN,iA,jb,Gz,GA,GB,agd,Lh⟩:=Ir ah U ao;have ab:=Lh (k-y.2) J;rw [show y.2+(k-y.2)=k by omega] at ab;rw [ab] at aa;have aa:y.1=x:=aa;have e:y=(x,s):=by
  have hm:=h.mem;obtain ⟨i,aP,Ch⟩:=ln wN;obtain ⟨j,bf,E1⟩:=ln hm;have:i=j:=by refine (List.getElem_inj (i:=i) (j:=j) (h₀:=by rw [cL];exact aP) (h₁:=by rw [cL];exact bf) k6).1 ?_;rw [mf,mf,Ch,E1];exact aa
  subst this;rw [←Ch,←E1]
 subst e;exact ⟨jb,Gz⟩
theorem Vc {t:aT}(ah:Valid t){p x:Int}{s b:Nat}(h:vN t p x s b)(W:Nat→Rat): ∀k,k≤(cp t p).length→ ∀c,c<cD t p x→
 (oc (cp t p) W x (iQ (cD t p x) 0) k).getD c 0=if s+c<k∧0<W b then W (s+c)/W b else (iQ (cD t p x) 0).getD c 0
 |0,_,c,av=>by rw [az J];rfl
 |k+1,ao,c,av=>by
  have a8:=Vc ah h W k J c av;rw [oc,ze];by_cases aO:0≤((cp t p).getD k c3).before∧((cp t p).getD k c3).info=x∧0<W ((cp t p).getD k c3).before.toNat
  ·rw [aG aO];obtain ⟨dX,eu⟩:=TO ah h J aO.1 aO.2.1;have ax:=h.cx (k-s) J;rw [show s+(k-s)=k by omega] at ax;rw [ax] at aO⊢;have aw:0<W b:=aO.2.2;show ((oc (cp t p) W x (iQ (cD t p x) 0) k).set ((k-s:Nat):Int).toNat (W k/W ((b:Nat):Int).toNat)).getD c 0=_;rw [cA,cA,Go.ai.dL.fG,DS,a8];have hu:=(AY h.lB).1;by_cases e:c=k-s
   ·rw [aG ⟨e,J⟩,aG ⟨J,aw⟩,e,show s+(k-s)=k by omega]
   ·rw [az (fun q=>e q.1)];by_cases bg:s+c<k
    ·rw [aG ⟨bg,aw⟩,aG ⟨J,aw⟩]
    ·rw [az (fun q=>bg q.1),az J]
  ·rw [az aO,a8];by_cases aw:0<W b
   ·have b2:s+c≠k:=fun e=>by have ax:=h.cx c av;rw [e] at ax;rw [ax] at aO;exact aO ⟨B9 _,I,aw⟩
    by_cases bg:s+c<k
    ·rw [aG ⟨bg,aw⟩,aG ⟨J,aw⟩]
    ·rw [az (fun q=>bg q.1),az J]
   ·rw [az (fun q=>aw q.2),az (fun q=>aw q.2)]
theorem WB {t:aT}(ah:Valid t){p x:Int}(ar:x∈di t p)(W:Nat→Rat):oc (cp t p) W x (iQ (cD t p x) 0) (cp t p).length=od t p W x:=by
 obtain ⟨s,b,h⟩:=y1 ah ar;have hu:=(AY h.lB).1;have au:(od t p W x).length=cD t p x:=by
  unfold od;split
  ·rw [cL,gX]
  ·exact hu
 refine lo (by rw [DS,hu,au]) (fun c U ab=> ?_);have av:c<cD t p x:=J;rw [←e9 0 U,←e9 0 ab,Vc ah h W _ (bR _) c av];have aN:=h.fin;by_cases aw:0<W b
 ·rw [aG ⟨J,aw⟩,WD h W aw av]
 ·rw [az (fun q=>aw q.2)];unfold od;rw [h.start,h.r8,az aw]
theorem WC {t:aT}(ah:Valid t){p x:Int}{W:Nat→Rat}{K:Nat}(dn:1≤K)(jY: ∀k,D K (W k))(ar:x∈di t p):(od t p W x).length=cD t p x∧ ∀q∈od t p W x,D (K+K) q:=by
 obtain ⟨s,b,h⟩:=y1 ah ar;have hu:=AY h.lB;unfold od;split
 ·rename_i ak;refine ⟨by rw [cL,gX],fun q aB=> ?_⟩;obtain ⟨c,_,rfl⟩:=da.1 aB;exact (jY _).div (jY _) (fun e=>by rw [e] at ak;exact absurd ak (by decide+kernel))
 ·exact ⟨hu.1,fun q aB=>(hu.2.2 q aB).2.mono J⟩
theorem aff {bj:List fa}{W:Nat→Rat}{x:Int}{k:Nat}{o:List Rat}(h: ¬(0≤(bj.getD k c3).before∧(bj.getD k c3).info=x∧0<W (bj.getD k c3).before.toNat)):ze bj W x k o=o:=az h
theorem ajj {bj:List fa}{W:Nat→Rat}{x:Int}{k b c:Nat}{o:List Rat}(h:bj.getD k c3=⟨x,(c:Int),(b:Int)⟩)(ak:0<W b):ze bj W x k o=o.set c (W k/W b):=by unfold ze;rw [h];exact aG ⟨B9 _,I,ak⟩
end Go.ai.cz
namespace Go.ai.lN
open Go.ai.dL Go.ai.cz Go.ai.c8 Go.ai.cI
structure rO where
 rows:List (List Int)
 fst:List (Int×Nat)
def n8 (n i:Nat)(q:fa)(s:rO):rO:=
 match gE s.fst q.info with
 |some k=>⟨s.rows.set k ((s.rows.getD k []).set (i+1) 1),s.fst⟩
 |none=>⟨s.rows++[((List.replicate n 0).set q.before.toNat (-1)).set (i+1) 1],s.fst++[(q.info,s.rows.length)]⟩
def pX (n:Nat):List fa→Nat→rO→rO
 |[],_,s=>s
 |q::r,i,s=>pX n r (i+1) (n8 n i q s)
theorem G0 (n:Nat): ∀(a b:List fa) (i:Nat) (s:rO),pX n (a++b) i s=pX n b (i+a.length) (pX n a i s)
 |[],b,i,s=>rfl
 |q::a,b,i,s=>by show pX n (a++b) (i+1) _=_;rw [G0 n a b (i+1)];show pX n b (i+1+a.length) _=pX n b (i+(a.length+1)) _;rw [show i+1+a.length=i+(a.length+1) by omega];rfl
def qM (row:List Int)(i:Nat):Nat→List Int
 |0=>row
 |w+1=>(qM row i w).set (i+w) 1
theorem ajH (l:List (Int×Nat))(x:Int)(k:Nat)(h:x∉l.map Prod.fst):gE (l++[(x,k)]) x=some k:=by
 unfold gE;rw [List.find?_append];have:l.find? (fun e=>decide (e.1=x))=none:=by rw [List.find?_eq_none];intro e he;simp only [eX];exact fun q=>h (da.2 ⟨e,he,q⟩)
 rw [this];simp
theorem aiF (n:Nat)(x b:Int)(rows:List (List Int))(ev:List (Int×Nat))(h:x∉ev.map Prod.fst)(i:Nat): ∀w,1≤w→
 pX n ((List.range w).map (fun k:Nat=>(⟨x,(k:Int),b⟩:fa))) i ⟨rows,ev⟩=⟨rows++[qM ((List.replicate n 0).set b.toNat (-1)) (i+1) w],ev++[(x,rows.length)]⟩:=by
 intro w hw;induction w with
 |zero=>omega
 |succ w a8=>
  rw [r2,hS,G0,cL,gX];by_cases aO:w=0
  ·subst aO;show pX n [⟨x,((0:Nat):Int),b⟩] (i+0) ⟨rows,ev⟩=_;show n8 n (i+0) ⟨x,((0:Nat):Int),b⟩ ⟨rows,ev⟩=_;unfold n8;have:gE ev x=none:=by unfold gE;rw [Option.map_eq_none_iff,List.find?_eq_none];intro e he;simp only [eX];exact fun q=>h (da.2 ⟨e,he,q⟩)
   simp only [this];rfl
  ·rw [a8 J];show n8 n (i+w) ⟨x,(w:Int),b⟩ _=_;unfold n8;simp only [ajH ev x rows.length h];have aD:(rows++[qM ((List.replicate n 0).set b.toNat (-1)) (i+1) w]).getD rows.length []=qM ((List.replicate n 0).set b.toNat (-1)) (i+1) w:=by simp [List.getD]
   rw [aD,zt _ _ (bR _),oD];show rO.mk (rows++[(qM _ (i+1) w).set (i+w+1) 1]) _=rO.mk (rows++[(qM _ (i+1) w).set (i+1+w) 1]) _;rw [show i+w+1=i+1+w by omega]
abbrev sY:=Int×Nat×Int
def gi (L:List sY):List fa:=L.flatMap (fun a=>(List.range a.2.1).map (fun k:Nat=>(⟨a.1,(k:Int),a.2.2⟩:fa)))
def xl (n:Nat):Nat→List sY→List (List Int)
 |_,[]=>[]
 |i,a::r=>qM ((List.replicate n 0).set a.2.2.toNat (-1)) (i+1) a.2.1::xl n (i+a.2.1) r
theorem R6 (n:Nat): ∀(L:List sY) (i:Nat) (rows:List (List Int)) (ev:List (Int×Nat)),(∀a∈L,1≤a.2.1)→(L.map Prod.fst).Nodup→(∀a∈L,a.1∉ev.map Prod.fst)→
 (pX n (gi L) i ⟨rows,ev⟩).rows=rows++xl n i L
 |[],i,rows,ev,_,_,_=>by
  show rows=rows++[]
  rw [kB]
 |a::r,i,rows,ev,hw,aF,aN=>by
  rw [nE,zz] at aF;show (pX n ((List.range a.2.1).map (fun k:Nat=>(⟨a.1,(k:Int),a.2.2⟩:fa))++gi r) i ⟨rows,ev⟩).rows=_;rw [G0,aiF n a.1 a.2.2 rows ev (aN a (vT ..)) i a.2.1 (hw a (vT ..)),cL,gX,
   R6 n r (i+a.2.1) _ _ (fun b ak=>hw b (uA _ ak)) aF.2 (fun b ak q=> ?_)]
  ·show rows++[_]++xl n (i+a.2.1) r=rows++(_::xl n (i+a.2.1) r)
   rw [ll];rfl
  ·rw [hS,gz] at q;rcases q with q|q
   ·exact aN b (uA _ ak) q
   ·simp only [nE,v8,hR] at q;exact aF.1 (da.2 ⟨b,ak,q⟩)
theorem Hm (row:List Int)(i:Nat): ∀w,(qM row i w).length=row.length
 |0=>rfl
 |w+1=>by show ((qM row i w).set (i+w) 1).length=_;rw [dj,Hm row i w]
theorem Te (row:List Int)(i j:Nat)(ae:j<row.length): ∀w,(qM row i w).getD j 0=if i≤j∧j<i+w then 1 else row.getD j 0
 |0=>by rw [az J];rfl
 |w+1=>by
  show ((qM row i w).set (i+w) 1).getD j 0=_;rw [Go.ai.dL.fG,Hm,Te row i j ae w];by_cases h:j=i+w
  ·rw [aG ⟨h,J⟩,aG J]
  ·rw [az (fun q=>h q.1)];by_cases ab:i≤j∧j<i+w
   ·rw [aG ab,aG J]
   ·rw [az ab,az J]
def o3:Nat→List sY→List (Int×Nat)
 |_,[]=>[]
 |s,a::r=>(a.1,s)::o3 (s+a.2.1) r
theorem Lp (a b:List sY):gi (a++b)=gi a++gi b:=List.flatMap_append ..
theorem Rs: ∀(a b:List sY) (s:Nat),o3 s (a++b)=o3 s a++o3 (s+(gi a).length) b
 |[],b,s=>rfl
 |x::a,b,s=>by
  show (x.1,s)::o3 (s+x.2.1) (a++b)=(x.1,s)::(o3 (s+x.2.1) a++_);rw [Rs a b (s+x.2.1)];have:(gi (x::a)).length=x.2.1+(gi a).length:=by show ((List.range x.2.1).map (fun k:Nat=>(⟨x.1,(k:Int),x.2.2⟩:fa))++gi a).length=_;rw [c2,cL,gX]
  rw [this,kC]
theorem RF: ∀(a:List sY) (s:Nat),(o3 s a).map Prod.fst=a.map Prod.fst
 |[],_=>rfl
 |x::a,s=>by show x.1::(o3 (s+x.2.1) a).map Prod.fst=x.1::a.map Prod.fst;rw [RF a _]
theorem RV {t:aT}(ah:Valid t)(p:Int): ∀i,i≤t.length→ ∃L:List sY,(dE t p i).cx=c3::gi L∧(dE t p i).first=o3 1 L∧(L.map Prod.fst).Nodup∧ ∀a∈L,1≤a.2.1∧a.2.1=cD t p a.1
 |0,_=>⟨[],rfl,rfl,List.nodup_nil,fun a h=>by cases h⟩
 |i+1,aa=>by
  obtain ⟨L,U,ab,aw,bg⟩:=RV ah p i J;show∃L:List sY,(fL p (t.getD i aK) i (dE t p i)).cx=c3::gi L∧(fL p (t.getD i aK) i (dE t p i)).first=o3 1 L∧_
  unfold fL;by_cases q:own p (t.getD i aK)=true∧gE (dE t p i).first (t.getD i aK).info=none
  ·rw [aG q];obtain ⟨m1,m2,m3⟩:=ah.Gg (show i<t.length by omega) q.1;refine ⟨L++[((t.getD i aK).info,(t.getD i aK).next.length,(dE t p i).pos.getD i 0)],?_,?_,?_,?_⟩
   ·show (dE t p i).cx++pQ _ _=_;rw [U,Lp];show c3::(gi L++_)=c3::(gi L++_);congr 2;show pQ _ _=_++[]
    rw [kB];rfl
   ·show (dE t p i).first++[_]=_
    rw [ab,Rs,U];show o3 1 L++[((t.getD i aK).info,(gi L).length+1)]=o3 1 L++[((t.getD i aK).info,1+(gi L).length)]
    rw [oE]
   ·rw [hS];refine List.nodup_append.2 ⟨aw,bZ,fun a a1 b ak e=> ?_⟩;simp only [nE,v8,hR] at ak;have:=G9 q.2;rw [ab,RF] at this;exact this (by rw [←ak,←e];exact a1)
   ·intro a a1;rcases gz.1 a1 with r|r
    ·exact bg a r
    ·rw [hR.1 r];refine ⟨m3,(w8 ah (show i<t.length by omega) ?_).symm⟩;have:=q.1;unfold own at this;unfold e7;simp_all
  ·rw [az q];exact ⟨L,U,ab,aw,bg⟩
theorem adW (n s w b:Nat):qM ((List.replicate n (0:Int)).set b (-1)) s w=(List.range n).map (fun j=>if s≤j∧j<s+w then 1 else if j=b then-1 else 0):=by
 have au:((List.replicate n (0:Int)).set b (-1)).length=n:=by rw [dj,fw]
 refine lo (by rw [Hm,au,cL,gX]) (fun j U ab=> ?_);have aw:j<n:=by rw [Hm,au] at U;exact U
 rw [←e9 0,Te _ _ _ (by rw [au];exact aw),Go.ai.dL.fG,fw,mf,zy];have aO:(List.replicate n (0:Int)).getD j 0=0:=by simp [List.getD,aw]
 rw [aO];by_cases q:j=b
 ·subst q;rw [aG (⟨rfl,aw⟩:j=j∧j<n),aG rfl]
 ·rw [az (fun e:j=b∧b<n=>q e.1),az q]
def y9 (t:aT)(p:Int)(y:Int×Nat)(j:Nat):Int:=if y.2≤j∧j<y.2+cD t p y.1 then 1 else if j=n6 t p y.2 then-1 else 0
theorem T7 {t:aT}{p:Int}(n:Nat): ∀(r l:List sY),cp t p=c3::(gi l++gi r)→(∀a∈r,1≤a.2.1∧a.2.1=cD t p a.1)→
 xl n (gi l).length r=(o3 (1+(gi l).length) r).map (fun y=>(List.range n).map (y9 t p y))
 |[],l,_,_=>rfl
 |a::r,l,h,hw=>by
  obtain ⟨lB,mw⟩:=hw a (vT ..);have ak:a.2.2.toNat=n6 t p (1+(gi l).length):=by
   unfold n6;rw [h,oE];have:(c3::(gi l++gi (a::r))).getD ((gi l).length+1) c3=⟨a.1,0,a.2.2⟩:=by
    have e:gi (a::r)=(List.range a.2.1).map (fun k:Nat=>(⟨a.1,(k:Int),a.2.2⟩:fa))++gi r:=rfl;obtain ⟨w,hw⟩: ∃w,a.2.1=w+1:=⟨a.2.1-1,J⟩
    rw [e,hw,List.range_succ_eq_map];simp [List.getD]
   rw [this]
  have ax:(gi (l++[a])).length=(gi l).length+a.2.1:=by rw [Lp,c2];congr 1;show ((List.range a.2.1).map _++[]).length=_;rw [kB,cL,gX]
  have a8:=T7 n r (l++[a]) (by
   rw [h,Lp,ll];congr 2;show (List.range a.2.1).map _++gi r=((List.range a.2.1).map _++[])++gi r;rw [kB]) (fun b ak=>hw b (uA _ ak))
  rw [ax] at a8;show qM _ ((gi l).length+1) a.2.1::xl n ((gi l).length+a.2.1) r=(List.range n).map (y9 t p (a.1,1+(gi l).length))::(o3 (1+(gi l).length+a.2.1) r).map _;rw [a8,adW,show 1+(gi l).length+a.2.1=1+((gi l).length+a.2.1) by omega];refine congrArg (· ::_) (lr (fun j _=> ?_));show _=if 1+(gi l).length≤j∧j<1+(gi l).length+cD t p a.1 then (1:Int) else if j=n6 t p (1+(gi l).length) then-1 else 0
  rw [←mw,←ak,oE 1]
theorem aiX {t:aT}(ah:Valid t)(p:Int)(n:Nat)(eo:List Int):(pX n (cp t p).tail 0 ⟨[eo],[]⟩).rows=eo::(jv t p).map (fun y=>(List.range n).map (y9 t p y)):=by obtain ⟨L,U,ab,aw,bg⟩:=RV ah p t.length (bR _);have U:cp t p=c3::gi L:=U;rw [U];show (pX n (gi L) 0 ⟨[eo],[]⟩).rows=_;rw [R6 n L 0 _ _ (fun a a1=>(bg a a1).1) aw (fun a _ q=>by cases q)];show eo::xl n 0 L=eo::_;have:=T7 (t:=t) (p:=p) n L [] (by rw [U];rfl) bg;have e:xl n 0 L=(o3 1 L).map (fun y=>(List.range n).map (y9 t p y)):=this;rw [e,←ab]
structure lj (t:aT):Prop where
 len:t.length≤40
 eH: ∀n∈t,∀r∈n.eH,r.length≤12
 Az:EF t 24
theorem lj.of {t:aT}(hm:cz.Modest t)(ah:Valid t):lj t:=⟨hm.len,hm.eH,⟨fun i aa ao=>((hm.Az ah).nH i aa ao).mono a6⟩⟩
theorem DT {t:aT}(ah:Valid t)(hm:lj t):zh t (eJ t) 12:=by
 refine ⟨fun i aa l au=> ?_⟩;unfold eJ at au;by_cases U:(t.getD i aK).kind=1
 ·rw [aG U] at au;obtain rfl:=p3 au;obtain ⟨g1,g2⟩:=ahd ah aa U;obtain ⟨o1,o2,vd,Ay⟩:=Td g2;have:=afL vd (fun q aB=>(Ay q aB).1);refine ⟨by rw [cL];exact g1,fun q aB=>⟨(Ay q aB).1,this q aB,?_⟩⟩;obtain ⟨s,ax,rfl⟩:=da.1 aB;exact (fQ.self (o2 s ax)).nH (hm.eH _ (dx aK aa) s ax) a6
 ·rw [az U] at au;cases au
def IQ:Nat:=1441
def pb:Nat:=1500
theorem Q5 {t:aT}(ah:Valid t)(hm:lj t):AG t (eJ t)<10^IQ:=by have fi:=Iy (DT ah hm) t.length (bR _);rw [gb] at fi;have py:=Ui ah;have lv:=hm.len;exact abM fi (acP hm.Az) (by unfold IQ;omega)
theorem TI {pa kI:Nat→Nat}{v:Nat→Rat}: ∀(l:List Nat) (e:Nat) (T:List (List Rat)),tA pa kI v (l++[e]) T=qL (tA pa kI v l T) (pa e) (kI e) (v e)
 |[],e,T=>rfl
 |x::l,e,T=>TI l e _
def pd (t:aT)(k:Nat):List (List Rat):=tA (gu t 0) (gu t 1) (kT t (eK t (eJ t))) ((ee t).take k) (pT (aS t 0) (aS t 1))
theorem TH (t:aT):pd t 0=pT (aS t 0) (aS t 1):=by unfold pd;rw [List.take_zero];rfl
theorem MB (t:aT):pd t (ee t).length=fI t:=by unfold pd fI;rw [gb]
theorem TG (t:aT){k:Nat}(ao:k<(ee t).length):pd t (k+1)=qL (pd t k) (gu t 0 ((ee t).getD k 0)) (gu t 1 ((ee t).getD k 0)) (kT t (eK t (eJ t)) ((ee t).getD k 0)):=by unfold pd;rw [p6 ao,TI,e9 0 ao]
theorem afx {t:aT}(ah:Valid t)(k:Nat):uo (pd t k) (aS t 0) (aS t 1):=MD _ (Ba _ _) (fun e he=>(xk ah 0 (rA (oB he)).1).2)
theorem aja (T:List (List Rat))(a b:Nat)(y:Rat)(i j:Nat):((qL T a b y).getD i []).getD j 0=((T.getD i []).getD j 0)∨((qL T a b y).getD i []).getD j 0=((T.getD a []).getD b 0+y):=by
 unfold qL;rw [Go.ai.dL.fG];split
 ·rename_i h;rw [Go.ai.dL.fG];split
  ·exact .inr I
  ·rw [h.1];exact .inl rfl
 ·exact .inl I
theorem MC {t:aT}(ah:Valid t)(hm:lj t): ∀k,k≤(ee t).length→ ∀i j,lK (AG t (eJ t)) (k*10^24) (((pd t k).getD i []).getD j 0)
 |0,_,i,j=>by
  rw [TH];have:((pT (aS t 0) (aS t 1)).getD i []).getD j 0=(0:Rat):=by
   simp only [pT,List.getD,s4];split
   ·simp only [oy,s4];split<;>rfl
   ·rfl
  rw [this];exact lK.zero _ _
 |k+1,ao,i,j=>by
  have a8:=MC ah hm k J;have b5:k<(ee t).length:=J;obtain ⟨i1,i2⟩:=rA (dx (l:=ee t) 0 b5);rw [TG t b5];have aD:(k+1)*10^24=k*10^24+10^24:=by rw [ef,rZ]
  rw [aD];rcases aja (pd t k) (gu t 0 ((ee t).getD k 0)) (gu t 1 ((ee t).getD k 0)) (kT t (eK t (eJ t)) ((ee t).getD k 0)) i j with e|e
  ·rw [e];exact (a8 i j).mono (pk _ _)
  ·rw [e];have:=XN ah (DT ah hm) hm.Az (p:=0) i1 i2;exact (a8 _ _).add this
theorem Q8 {t:aT}(ah:Valid t)(hm:lj t){k:Nat}(ao:k≤(ee t).length)(i j:Nat):D pb (((pd t k).getD i []).getD j 0):=by
 have cZ:=Q5 ah hm;have aO:=UL t (eJ t);have he:(ee t).length≤t.length:=by unfold ee;refine dT (xK _ _) ?_;rw [gX];exact bR _
 have au:=hm.len;have hj:k*10^24≤10^26:=dT (fo _ (show k≤40 by omega)) a6;refine (MC ah hm k ao i j).D J ?_ (hE cZ (gp a6 a6));refine rX (fo _ hj) ?_;have:=(Nat.mul_lt_mul_left (a:=10^26) (mM a6)).2 cZ;rw [←jm] at this;exact hE this (gp a6 a6)
theorem Q9 {t:aT}(ah:Valid t)(hm:lj t)(i j:Nat):D pb (((fI t).getD i []).getD j 0):=by rw [←MB];exact Q8 ah hm (bR _) i j
theorem M9 (t:aT)(p:Int)(c j:Nat):D pb (hf t p c j):=by
 have aO:D pb (0:Rat):=BI 1499;have U:D pb (1:Rat):=KW 1499;have ab:D pb (-1:Rat):=U.neg;unfold hf;split
 ·split
  ·exact U
  ·exact aO
 ·split
  ·exact U
  ·split
   ·exact ab
   ·exact aO
theorem QZ (r:Nat){q:Rat}(h:D pb q):D pb (pK r*q):=by
 unfold pK;split
 ·rw [r0];exact h
 ·rw [show (-1:Rat)*q= -q by grind];exact h.neg
theorem afa {t:aT}(ah:Valid t)(hm:lj t):(dz t).EC pb:=by
 have aO:D pb (0:Rat):=BI 1499;have U:D pb (1:Rat):=KW 1499;refine ⟨fun r ad q aB=> ?_,fun q aB=> ?_,fun q aB=> ?_⟩
 ·rcases gz.1 ad with h|h
  ·obtain ⟨j,_,rfl⟩:=da.1 h;obtain ⟨i,_,rfl⟩:=da.1 aB;show D pb (if i<aS t 0 then _ else if i<aS t 0+ch t 1 then _ else _);split
   ·exact (Q9 ah hm i j).neg
   ·split
    ·exact M9 t 1 _ j
    ·exact (M9 t 1 _ j).neg
  ·obtain ⟨j,_,rfl⟩:=da.1 h;obtain ⟨i,_,rfl⟩:=da.1 aB;show D pb (if i<aS t 0 then _ else _);split
   ·exact QZ j (M9 t 0 _ i)
   ·exact aO
 ·rcases gz.1 aB with h|h
  ·rw [EN h];exact aO
  ·obtain ⟨r,_,rfl⟩:=da.1 h;refine QZ r ?_;unfold qO;split
   ·exact U
   ·exact aO
 ·obtain ⟨i,_,rfl⟩:=da.1 aB;show D pb (if i=aS t 0 then _ else if i=aS t 0+ch t 1 then _ else _);split
  ·exact U
  ·split
   ·exact U.neg
   ·exact aO
def eo (n:Nat):List Int:=(List.replicate n 0).set 0 1
def kO (bj:List fa)(i:Nat):rO:=pX bj.length (bj.tail.take i) 0 ⟨[eo bj.length],[]⟩
structure vO (n:Nat)(cH:List Int)(s:rO):Prop where
 hd:s.rows=cH::s.rows.tail
 len: ∀r∈s.rows.tail,r.length=n
 fst: ∀y∈s.fst,1≤y.2∧y.2≤s.rows.tail.length
theorem S2 {n i k:Nat}{cH:List Int}{q:fa}{s:rO}(lx:vO n cH s)(cv:gE s.fst q.info=some k):
 ∃j,k=j+1∧j<s.rows.tail.length∧(n8 n i q s).rows.tail=s.rows.tail.set j ((s.rows.tail.getD j []).set (i+1) 1)∧(n8 n i q s).fst=s.fst∧vO n cH (n8 n i q s):=by
 obtain ⟨U,ab⟩:=lx.fst _ (yI cv);have U:1≤k:=U;have ab:k≤s.rows.tail.length:=ab;obtain ⟨j,rfl⟩: ∃j,k=j+1:=⟨k-1,J⟩
 have e:n8 n i q s=⟨s.rows.set (j+1) ((s.rows.getD (j+1) []).set (i+1) 1),s.fst⟩:=by unfold n8;simp only [cv]
 have hd:=lx.hd;have aE:s.rows.set (j+1) ((s.rows.getD (j+1) []).set (i+1) 1)=cH::s.rows.tail.set j ((s.rows.tail.getD j []).set (i+1) 1):=by rw [hd];rfl
 rw [aE] at e;rw [e];refine ⟨j,I,J,I,I,I,fun r ad=> ?_,fun y aY=> ?_⟩
 ·rcases xE (show r∈s.rows.tail.set j _ from ad) with h|h
  ·exact lx.len r h
  ·rw [h,dj];exact lx.len _ (dx [] (show j<s.rows.tail.length by omega))
 ·show 1≤y.2∧y.2≤(s.rows.tail.set j _).length;rw [dj];exact lx.fst y aY
theorem R1 {n i:Nat}{cH:List Int}{q:fa}{s:rO}(lx:vO n cH s)(cv:gE s.fst q.info=none):
 (n8 n i q s).rows.tail=s.rows.tail++[((List.replicate n 0).set q.before.toNat (-1)).set (i+1) 1]∧(n8 n i q s).fst=s.fst++[(q.info,s.rows.tail.length+1)]∧vO n cH (n8 n i q s):=by
 have hd:=lx.hd;have e:n8 n i q s=⟨cH::(s.rows.tail++[((List.replicate n 0).set q.before.toNat (-1)).set (i+1) 1]),s.fst++[(q.info,s.rows.tail.length+1)]⟩:=by
  unfold n8;simp only [cv];have ab:s.rows.length=s.rows.tail.length+1:=by rw [hd];rfl
  rw [ab];rw [hd];rfl
 rw [e];refine ⟨I,I,I,fun r ad=> ?_,fun y aY=> ?_⟩
 ·rcases gz.1 (show r∈s.rows.tail++[_] from ad) with h|h
  ·exact lx.len r h
  ·rw [hR.1 h,dj,dj,fw]
 ·show 1≤y.2∧y.2≤(s.rows.tail++[_]).length;rw [c2];rcases gz.1 (show y∈s.fst++[_] from aY) with h|h
  ·have:=lx.fst y h;exact ⟨this.1,Nat.le_add_right_of_le this.2⟩
  ·rw [hR.1 h];exact ⟨Nat.le_add_left 1 _,bR _⟩
theorem RR {bj:List fa}{i:Nat}(h:i+1<bj.length):kO bj (i+1)=n8 bj.length i (bj.getD (i+1) c3) (kO bj i):=by
 have au:i<bj.tail.length:=by rw [List.length_tail];omega
 unfold kO;rw [p6 au,G0,ff,hF (q5 au),c1,List.getElem_tail,←e9 c3 h];rfl
theorem RS (bj:List fa):vO bj.length (eo bj.length) (kO bj 0):=
 ⟨rfl,fun r ad=>(zB ad).elim,fun y aY=>(zB aY).elim⟩
theorem RQ {bj:List fa}: ∀i,i<bj.length→vO bj.length (eo bj.length) (kO bj i)
 |0,_=>RS bj
 |i+1,h=>by
  have a8:=RQ (bj:=bj) i J;rw [RR h];cases cv:gE (kO bj i).fst (bj.getD (i+1) c3).info with
  |none=>exact (R1 a8 cv).2.2
  |some k=>obtain ⟨_,_,_,_,_,e⟩:=S2 (i:=i) a8 cv;exact e
def kQ (t:aT)(p:Int):List (List Int):=(kO (cp t p) (aS t p-1)).rows
theorem ahV {t:aT}(ah:Valid t)(p:Int):vO (aS t p) (eo (aS t p)) (kO (cp t p) (aS t p-1)):=
 RQ _ (by have:=(sF ah p).2.2.1;show (cp t p).length-1<(cp t p).length;omega)
theorem HF {t:aT}(ah:Valid t)(p:Int):kQ t p=eo (aS t p)::(jv t p).map (fun y=>(List.range (aS t p)).map (y9 t p y)):=by unfold kQ kO;rw [jU (by rw [List.length_tail];exact bR _)];exact aiX ah p (aS t p) (eo (aS t p))
theorem L4 {t:aT}(ah:Valid t)(p:Int):(kQ t p).length=ch t p:=by rw [HF ah];unfold ch;rw [fZ,cL,oE]
theorem L5 {t:aT}(ah:Valid t)(p:Int){c:Nat}(av:c<ch t p):((kQ t p).getD c []).length=aS t p:=by
 rw [HF ah];cases c with
 |zero=>show (eo _).length=_;unfold eo;rw [dj,fw]
 |succ c=>
  have av:c<(jv t p).length:=by unfold ch at av;omega
  show (((jv t p).map _).getD c []).length=_;rw [e9 [] (by rw [cL];exact av),mf,cL,gX]
theorem L3 {t:aT}(ah:Valid t)(p:Int){c j:Nat}(av:c<ch t p)(ae:j<aS t p):((((kQ t p).getD c []).getD j 0:Int):Rat)=hf t p c j:=by
 rw [HF ah];unfold hf;cases c with
 |zero=>
  show (((eo _).getD j 0:Int):Rat)=_;unfold eo;rw [Go.ai.dL.fG,fw,aG rfl];have aO:(List.replicate (aS t p) (0:Int)).getD j 0=0:=by simp [List.getD,ae]
  rw [aO];by_cases q:j=0
  ·rw [aG ⟨q,J⟩,aG q];rfl
  ·rw [az (fun e=>q e.1),az q];rfl
 |succ c=>
  have av:c<(jv t p).length:=by unfold ch at av;omega
  show ((((((jv t p).map _).getD c []).getD j 0:Int)):Rat)=_;rw [az J,e9 [] (by rw [cL];exact av),mf,e9 0 (by rw [cL,gX];exact ae),mf,zy];have e:sP t p (c+1)=(jv t p)[c]:=by unfold sP;exact e9 _ av
  rw [e];unfold y9;split
  ·rfl
  ·split<;>rfl
def h3 (W:Nat)(f:Nat→Rat)(P:Nat→Bool):List Rat:=(List.range W).map (fun x=>if P x=true then f x else 0)
theorem Bk (W:Nat)(f:Nat→Rat)(P:Nat→Bool):(h3 W f P).length=W:=by unfold h3;rw [cL,gX]
theorem MZ {W:Nat}{f:Nat→Rat}{P:Nat→Bool}{y:Nat}(h:y<(h3 W f P).length):(h3 W f P)[y]=if P y=true then f y else 0:=by simp [h3]
theorem Hy {W:Nat}{f:Nat→Rat}{P Q:Nat→Bool}{x:Nat}(h: ∀y,Q y=(P y||decide (y=x))):(h3 W f P).set x (f x)=h3 W f Q:=by
 refine lo (by rw [dj,Bk,Bk]) (fun y U ab=> ?_);rw [xJ,MZ,MZ,h y];by_cases e:y=x
 ·subst e;rw [aG rfl,fv rfl,Bool.or_true,aG rfl]
 ·rw [az (fun q=>e q.symm),fq e,Bool.or_false]
theorem Tu (W:Nat)(f:Nat→Rat){P:Nat→Bool}(h: ∀y,P y=false):h3 W f P=List.replicate W 0:=by refine lo (by rw [Bk,fw]) (fun y U ab=> ?_);rw [MZ,h y,Ca,az r6]
theorem T6 {W:Nat}{f:Nat→Rat}{P:Nat→Bool}(h: ∀y,y<W→P y=false→f y=0):h3 W f P=(List.range W).map f:=by
 refine lr (fun y aY=> ?_);cases e:P y
 ·rw [az r6,h y (q2.1 aY) e]
 ·rw [aG rfl]
theorem aiD {W:Nat}{f:Nat→Rat}{P Q:Nat→Bool}(h: ∀y,P y=Q y):h3 W f P=h3 W f Q:=by rw [show P=Q from funext h]
theorem Uq (y i:Nat):decide (y<i+1)=(decide (y<i)||decide (y=i)):=by rw [s3,uE,eX,eX,eX];omega
def kn (M:List (List Rat))(F:List (List Int))(n k j x:Nat):Rat:=
 if x<n then-((M.getD x []).getD j 0) else if x<n+k then (((F.getD (x-n) []).getD j 0:Int):Rat) else-((((F.getD (x-n-k) []).getD j 0:Int):Rat))
def la (s:Nat):Int:=if s=0 then 1 else-1
def pJ (E:List (List Int))(n r x:Nat):Rat:=if x<n then ((la (r%2)*(E.getD (r/2) []).getD x 0:Int):Rat) else 0
def ys (M:List (List Rat))(F:List (List Int))(n k j:Nat):List Rat:=(List.range (n+2*k)).map (kn M F n k j)
def yr (E:List (List Int))(n k r:Nat):List Rat:=(List.range (n+2*k)).map (pJ E n r)
def km (M:List (List Rat))(E F:List (List Int))(n m k r:Nat):List (List Rat):=(List.range m).map (ys M F n k)++(List.range r).map (yr E n k)
def ps (r:Nat):Int:=if r/2=0 then la (r%2) else 0
def mu (m r:Nat):List Rat:=List.replicate m 0++(List.range r).map (fun r=>((ps r:Int):Rat))
def ve (n k:Nat):List Rat:=((List.replicate (n+2*k) (0:Rat)).set n 1).set (n+k) (-1)
theorem Iq (M:List (List Rat))(E F:List (List Int))(n m k r:Nat):(km M E F n m k r).length=m+r:=by unfold km;rw [c2,cL,cL,gX,gX]
theorem Ny (m r:Nat):(mu m r).length=m+r:=by unfold mu;rw [c2,fw,cL,gX]
theorem acF (M:List (List Rat))(E F:List (List Int))(n k j:Nat):km M E F n (j+1) k 0=km M E F n j k 0++[ys M F n k j]:=by unfold km;rw [r2,hS,List.range_zero,v8,kB,kB];rfl
theorem acG (M:List (List Rat))(E F:List (List Int))(n m k r:Nat):km M E F n m k (r+1)=km M E F n m k r++[yr E n k r]:=by unfold km;rw [r2,hS,←ll];rfl
theorem acH (m r:Nat):mu m (r+1)=mu m r++[((ps r:Int):Rat)]:=by unfold mu;rw [r2,hS,←ll];rfl
theorem acI (m:Nat):mu m 0=List.replicate m 0:=by unfold mu;rw [List.range_zero,v8,kB]
def eT (n k c y:Nat):Bool:=decide (y<n+c)||(decide (n+k≤y) && decide (y<n+k+c))
theorem acD (n k y:Nat):decide (y<n)=eT n k 0 y:=by unfold eT;rw [s3,uE,ei,eX,eX,eX,eX];omega
theorem acC (M:List (List Rat))(F:List (List Int))(n k j c:Nat)(av:c<k):
 ((h3 (n+2*k) (kn M F n k j) (eT n k c)).set (n+c) (((F.getD c []).getD j 0:Int):Rat)).set (n+k+c) (((-((F.getD c []).getD j 0):Int)):Rat)=h3 (n+2*k) (kn M F n k j) (eT n k (c+1)):=by
 have aD:kn M F n k j (n+c)=(((F.getD c []).getD j 0:Int):Rat):=by unfold kn;rw [az J,aG J,show n+c-n=c by omega]
 have aE:kn M F n k j (n+k+c)=(((-((F.getD c []).getD j 0):Int)):Rat):=by unfold kn;rw [az J,az J,show n+k+c-n-k=c by omega,Rat.intCast_neg]
 rw [←aD,←aE,Hy (Q:=fun y=>eT n k c y||decide (y=n+c)) (fun y=>rfl)];refine Hy (fun y=> ?_);unfold eT;rw [s3];simp only [uE,ei,eX];omega
theorem acB (M:List (List Rat))(F:List (List Int))(n k j:Nat):h3 (n+2*k) (kn M F n k j) (eT n k k)=ys M F n k j:=by refine T6 (fun y aY aJ=> ?_);unfold eT at aJ;simp only [Bool.or_eq_false_iff,Bool.and_eq_false_iff,zx] at aJ;omega
theorem acJ (E:List (List Int))(n k r:Nat):h3 (n+2*k) (pJ E n r) (fun y=>decide (y<n))=yr E n k r:=by refine T6 (fun y aY aJ=> ?_);have aJ:=of_decide_eq_false aJ;unfold pJ;rw [az aJ]
end Go.ai.lN
namespace Go.ai.cI
open Go.ai.dL Go.ai.cz Go.ai.c8
theorem abq (p:Prog)(s:b9):dv (fun q=> -((hn p.C).getD q 0)*s.den) 0 (List.replicate (p.N+1) 0) p.n=lg (eC p) p.N s 0:=by
 have hw:=lI p;refine vu (n:=p.N+1) (by rw [pP];simp) (Hh ..) (fun j ae=> ?_);rw [qC _ _ _ (by simpa using ae),Hg ae];show _=s.den*eC p j-0;unfold eC;by_cases h:j<p.n
 ·rw [aG h,aG h,xO,lp]
 ·rw [az h,az h,gd,xO];simp [List.getD,ae]
theorem U3 {p:Prog}{k:Nat}(ao:p.rT k)(j:Nat):(eC p j).natAbs≤10^p.E k:=by
 unfold eC;split
 ·rename_i h;rw [p7];exact ao.Lf _ h
 ·exact cf _
theorem ajq {p:Prog}{k E:Nat}{s:b9}{i j:Nat}(ao:p.rT k)(aa:i≤98)(h: ∀q,q<i→(aq s.rows q j).natAbs≤10^E)(hd:s.den.natAbs≤10^E)(ae:j<p.N+1):((lg (eC p) p.N s i).getD j 0).natAbs≤10^(p.E k+E+2):=by
 rw [Hg ae];have U:=MA (B:=10^(p.E k+E)) (n:=i) (f:=fun q=>eC p (s.basis.getD q 0)*aq s.rows q j) (fun q aB=>by
  show (eC p (s.basis.getD q 0)*aq s.rows q j).natAbs≤_;rw [kf,jm];exact jB (U3 ao _) (h q aB))
 have ab:(s.den*eC p j).natAbs≤10^(p.E k+E):=by rw [kf,jm,gM];exact jB (U3 ao _) hd
 have aw:=Int.natAbs_sub_le (s.den*eC p j) (bX (fun q=>eC p (s.basis.getD q 0)*aq s.rows q j) i);have bg:i*10^(p.E k+E)≤98*10^(p.E k+E):=fo _ aa;rw [jm];generalize 10^(p.E k+E)=B at*;omega
theorem ajn {p:Prog}{j:Nat}(h: ¬(j<p.n∧(hn p.C).getD j 0≠0)):eC p j=0:=by
 unfold eC;split
 ·rename_i U;have:(hn p.C).getD j 0=0:=Decidable.byContradiction (fun q=>h ⟨U,q⟩);rw [this];rfl
 ·rfl
theorem Xf {p:Prog}{j:Nat}(h:j<p.n): -(eC p j)=(hn p.C).getD j 0:=by unfold eC;rw [aG h,Int.neg_neg]
theorem Rj (p:Prog)(s:b9)(d:Int):kK p s d=(List.range p.m).map (fun i=>((List.range p.m).map (fun i=>Rat.divInt (aq s.rows p.m (p.n+i)) d)).getD i 0*(((((List.range p.m).map p.dV).getD i 0:Nat)):Rat)):=by
 unfold kK;refine lr (fun i aa=> ?_);have aa:i<p.m:=by simpa using aa
 rw [show ((List.range p.m).map (fun i=>Rat.divInt (aq s.rows p.m (p.n+i)) d)).getD i 0=Rat.divInt (aq s.rows p.m (p.n+i)) d from ru aa,show ((List.range p.m).map p.dV).getD i 0=p.dV i from ru aa]
theorem akg {p:Prog}{K L:Nat}(h:0<p.a∧aq (fP p K).rows p.m p.N<0):gF p K L=⟨1,[],kK p (fP p K) (fP p K).den,[],0⟩:=by unfold gF;rw [aG h]
theorem akf {p:Prog}{K L:Nat}(h: ¬(0<p.a∧aq (fP p K).rows p.m p.N<0))(ab:gr p.m (p.n+p.m) (jk p K L)<p.n+p.m):gF p K L=⟨2,lE p (jk p K L),[],og p (jk p K L) (gr p.m (p.n+p.m) (jk p K L)),0⟩:=by unfold gF;rw [az h,aG ab]
theorem ake {p:Prog}{K L:Nat}(h: ¬(0<p.a∧aq (fP p K).rows p.m p.N<0))(ab: ¬gr p.m (p.n+p.m) (jk p K L)<p.n+p.m):gF p K L=⟨0,lE p (jk p K L),kK p (jk p K L) ((jk p K L).den*(p.cu:Nat)),[],Rat.divInt (aq (jk p K L).rows p.m p.N) ((jk p K L).den*(p.cu:Nat))⟩:=by unfold gF;rw [az h,az ab]
theorem Xe (p:Prog)(s:b9):gr p.m (p.n+p.m) s≤p.n+p.m:=dT (Dz s.rows p.m (p.n+p.m) 0).2.1 J
end Go.ai.cI
namespace Go.ai.lN
open Go.ai.dL Go.ai.cz Go.ai.c8 Go.ai.cI
theorem QX (r:Nat):((la (r%2):Int):Rat)=pK r:=by unfold la pK;split<;>rfl
theorem aeX {t:aT}(ah:Valid t):km (fI t) (kQ t 0) (kQ t 1) (aS t 0) (aS t 1) (ch t 1) (2*ch t 0)=(dz t).A:=by
 show (List.range (aS t 1)).map _++(List.range (2*ch t 0)).map _=(List.range (aS t 1)).map (pW t)++(List.range (2*ch t 0)).map (rK t);congr 1
 ·refine lr (fun j ae=> ?_);have ae:=q2.1 ae;unfold ys pW;refine lr (fun i aa=> ?_);have aa:=q2.1 aa;unfold kn;by_cases U:i<aS t 0
  ·rw [aG U,aG U]
  ·rw [az U,az U];by_cases ab:i<aS t 0+ch t 1
   ·rw [aG ab,aG ab,L3 ah 1 J ae]
   ·rw [az ab,az ab,L3 ah 1 J ae]
 ·refine lr (fun r ad=> ?_);have ad:=q2.1 ad;unfold yr rK;refine lr (fun i aa=> ?_);unfold pJ;by_cases U:i<aS t 0
  ·rw [aG U,aG U,oH,QX,L3 ah 0 J U]
  ·rw [az U,az U]
theorem aeY (t:aT):mu (aS t 1) (2*ch t 0)=(dz t).B:=by
 show _++(List.range (2*ch t 0)).map _=_++(List.range (2*ch t 0)).map _;congr 1;refine lr (fun r ad=> ?_);unfold ps qO;split
 ·rw [QX,Rat.mul_one]
 ·rw [vX];rfl
theorem aeZ (t:aT)(h:0<ch t 1):ve (aS t 0) (ch t 1)=(dz t).C:=by
 show _=(List.range (aS t 0+2*ch t 1)).map _;unfold ve;refine lo (by rw [dj,dj,fw,cL,gX]) (fun i U ab=> ?_);rw [mf,zy,xJ,xJ,Ca];by_cases aD:aS t 0+ch t 1=i
 ·rw [aG aD,az J,aG aD.symm]
 ·rw [az aD];by_cases aE:aS t 0=i
  ·rw [aG aE,aG aE.symm]
  ·rw [az aE,az (fun q=>aE q.symm),az (fun q=>aD q.symm)]
theorem BE {t:aT}(ah:Valid t)(p:Int):ch t p=1+(di t p).length:=by
 have h:=hP.mg ah p t.length (bR _);have FO:((dE t p t.length).first.map Prod.fst).Perm (di t p):=
  (List.perm_ext_iff_of_nodup h.eP (R2 t p)).2 (fun x=>by rw [h.keys x,qx ah])
 have:=FO.length_eq;rw [cL] at this;unfold ch;show 1+(dE t p t.length).first.length=_
 rw [this]
theorem Hr {t:aT}(h:Fit t):(dz t).n≤27∧(dz t).m≤27:=by rw [EA,Ez];have:=BE h.v 0;have:=BE h.v 1;have:=h.b3;have:=h.mr;have:=h.i0;have:=h.i1;omega
theorem Q2 {t:aT}(h:Fit t):(dz t).T 400≤324856:=by obtain ⟨U,ab⟩:=Hr h;unfold Prog.T Prog.E;exact jB (show 400+400*((dz t).n+1)+2≤11602 by omega) (show (dz t).m+1≤28 by omega)
theorem afb {t:aT}(h:Fit t):(dz t).W 400≤400000:=by obtain ⟨U,ab⟩:=Hr h;have cc:=Q2 h;unfold Prog.W;omega
def eD (B:Nat)(q:Rat):Prop:=q.den∣B∧q.num.natAbs≤10^26*q.den
theorem eD.neg {B:Nat}{q:Rat}(h:eD B q):eD B (-q):=by refine ⟨h.1,?_⟩;show (-q.num).natAbs≤_;rw [p7];exact h.2
theorem eD.zero (B:Nat):eD B 0:=⟨Nat.one_dvd _,cf _⟩
theorem eD.one (B:Nat):eD B 1:=⟨Nat.one_dvd _,by show 1≤10^26*1;decide⟩
theorem eD.fin {B M:Nat}{q:Rat}(h:lK B M q)(cZ:B≠0)(hj:M≤10^26):eD B q:=by refine ⟨h.zH.den cZ,?_⟩;have gx:=Im h.le;have a2:=Im h.ge;have a2: -q.num≤(M:Int)*(q.den:Int):=a2;have a4:((M*q.den:Nat):Int)=(M:Int)*(q.den:Int):=Int.natCast_mul _ _;have a5:M*q.den≤10^26*q.den:=fo _ hj;omega
theorem Mt (B:Nat)(t:aT)(p:Int)(c j:Nat):eD B (hf t p c j):=by
 unfold hf;split
 ·split
  ·exact eD.one B
  ·exact eD.zero B
 ·split
  ·exact eD.one B
  ·split
   ·exact (eD.one B).neg
   ·exact eD.zero B
theorem QY {B:Nat}(r:Nat){q:Rat}(h:eD B q):eD B (pK r*q):=by
 unfold pK;split
 ·rw [r0];exact h
 ·rw [show (-1:Rat)*q= -q by grind];exact h.neg
theorem VL {t:aT}(aN:Fit t)(hm:lj t):(dz t).rT 400:=by
 have ah:=aN.v;have hw:=DT ah hm;have Fa:=UL t (eJ t);have cZ:=Q5 ah hm;have he:(ee t).length≤t.length:=by unfold ee;refine dT (xK _ _) ?_;rw [gX];exact bR _
 have au:=hm.len;have Kr: ∀i j,eD (AG t (eJ t)) (((fI t).getD i []).getD j 0):=fun i j=>by rw [←MB];exact eD.fin (MC ah hm _ (bR _) i j) J (dT (fo _ (show (ee t).length≤40 by omega)) a6)
 refine aeS (y5 t) (by rw [EA];have:=(sF ah 0).2.2.1;unfold ch;show 3≤(cp t 0).length+2*(1+_);omega) Fa (q5 cZ) (bR IQ) (fun r ad q aB=> ?_) (fun q aB=> ?_) (fun q aB=> ?_)
 ·rcases gz.1 ad with h|h
  ·obtain ⟨j,_,rfl⟩:=da.1 h;obtain ⟨i,_,rfl⟩:=da.1 aB;show eD _ (if i<aS t 0 then _ else if i<aS t 0+ch t 1 then _ else _);split
   ·exact (Kr i j).neg
   ·split
    ·exact Mt _ t 1 _ j
    ·exact (Mt _ t 1 _ j).neg
  ·obtain ⟨j,_,rfl⟩:=da.1 h;obtain ⟨i,_,rfl⟩:=da.1 aB;show eD _ (if i<aS t 0 then _ else _);split
   ·exact QY j (Mt _ t 0 _ i)
   ·exact eD.zero _
 ·rcases gz.1 aB with h|h
  ·rw [EN h];exact eD.zero _
  ·obtain ⟨r,_,rfl⟩:=da.1 h;refine QY r ?_;unfold qO;split
   ·exact eD.one _
   ·exact eD.zero _
 ·obtain ⟨i,_,rfl⟩:=da.1 aB;show eD 1 (if i=aS t 0 then _ else if i=aS t 0+ch t 1 then _ else _);split
  ·exact eD.one _
  ·split
   ·exact (eD.one _).neg
   ·exact eD.zero _
theorem afc {t:aT}(aN:Fit t)(hm:lj t){K L:Nat}(ax:qW (dz t) K L):
 (∀q∈(gF (dz t) K L).X,D 400000 q)∧(∀q∈(gF (dz t) K L).Y,D 400000 q)∧D 400000 (gF (dz t) K L).V:=by obtain ⟨U,ab,_,aw⟩:=aec (y5 t) (VL aN hm) (by have:=(Hr aN).2;omega) ax;have jY:=afb aN;exact ⟨fun q aB=>(U q aB).mono jY,fun q aB=>(ab q aB).mono jY,aw.mono jY⟩
theorem T9 {t:aT}(ah:Valid t)(p:Int)(c j:Nat): -1≤((kQ t p).getD c []).getD j 0∧((kQ t p).getD c []).getD j 0≤1:=by
 by_cases av:c<ch t p
 ·by_cases ae:j<aS t p
  ·rw [HF ah];cases c with
   |zero=>
    show-1≤(eo _).getD j 0∧(eo _).getD j 0≤1;unfold eo;rw [Go.ai.dL.fG];split
    ·decide
    ·have:(List.replicate (aS t p) (0:Int)).getD j 0=0:=by simp [List.getD,ae]
     rw [this];decide
   |succ c=>
    have av:c<(jv t p).length:=by unfold ch at av;omega
    show-1≤((((jv t p).map _).getD c []).getD j 0)∧((((jv t p).map _).getD c []).getD j 0)≤1;rw [e9 [] (by rw [cL];exact av),mf,e9 0 (by rw [cL,gX];exact ae),mf,zy];unfold y9;split
    ·decide
    ·split<;>decide
  ·have:((kQ t p).getD c []).getD j 0=0:=by have ad:=L5 ah p av;rw [uF,jT J];rfl
   rw [this];decide
 ·have:(kQ t p).getD c []=[]:=by have au:=L4 ah p;rw [uF,jT J];rfl
  rw [this];show-1≤(0:Int)∧(0:Int)≤1;decide
end Go.ai.lN
namespace Go.ai.cz
open Go.ai.c8 Go.ai.dL
end Go.ai.cz
namespace Go.ai.cz
open Go.ai.c8 Go.ai.kz
def kp:aT:=[⟨2,0,0,[1,2],[],[]⟩,⟨2,1,3,[3,4],[],[]⟩,⟨2,1,3,[5,6],[],[]⟩,⟨0,0,0,[],[],[45,49]⟩,⟨0,0,0,[],[],[49]⟩,⟨0,0,0,[],[],[49]⟩,⟨0,0,0,[],[],[45,49]⟩]
end Go.ai.cz
namespace Go.ai.lN
open Go.ai.dL Go.ai.cz Go.ai.c8 Go.ai.cI
theorem aeE:kV kp=0:=by decide+kernel
theorem aeG:kV []=8:=by decide+kernel
theorem Tx:cz.Modest kp:=⟨by decide+kernel,by decide+kernel,by decide+kernel⟩
theorem aeK:qW (dz kp) 3 2:=by
 refine ⟨fun _=> ?_,fun _=> ?_⟩
 ·exact Option.isNone_iff_eq_none.1 (by decide+kernel)
 ·exact Option.isNone_iff_eq_none.1 (by decide+kernel)
def j9:dI:=[49,47,50]
theorem aeM:cO (gF (dz kp) 3 2).V=[48]:=by decide+kernel
theorem aeF:e3 (gF (dz kp) 3 2).V=true:=by decide+kernel
theorem aeC:xf kp 0 (fun k=>(gF (dz kp) 3 2).X.getD k 0)=true:=by decide+kernel
theorem aeD:xf kp 1 (fun k=>(gF (dz kp) 3 2).Y.getD k 0)=true:=by decide+kernel
theorem aeH:(BH kp 0 (fun k=>(gF (dz kp) 3 2).X.getD k 0)).map (fun x=>(x.1,x.2.map cO))=[(0,[j9,j9])]:=by decide+kernel
theorem aeI:(BH kp 1 (fun k=>(gF (dz kp) 3 2).Y.getD k 0)).map (fun x=>(x.1,x.2.map cO))=[(3,[j9,j9])]:=by decide+kernel
theorem My (t:aT)(p:Int)(W:Nat→Rat):rG t p W=((BH t p W).map (fun x=>(x.1,x.2.map cO))).map (fun y:Int×List dI=>(⟨y.1,y.2⟩:qX)):=by unfold rG;rw [List.map_map];rfl
theorem aeJ:jw kp 3 2=(([48],[⟨0,[j9,j9]⟩],[⟨3,[j9,j9]⟩]),0):=by unfold jw;rw [az (fun q=>q aeE),aG ⟨aeF,aeC,aeD⟩,My,My,aeH,aeI,aeM];rfl
theorem aeL:Et kp=([[[48],[48],[48]],[[48],[45,49],[49]],[[48],[49],[45,49]]],0):=by decide+kernel
end Go.ai.lN
namespace Go.ai.lN
open Go.ai.dL Go.ai.cz Go.ai.c8 Go.ai.cI
theorem Qx {t:aT}(ah:Valid t)(hm:cz.Modest t){b:dI}(ak:gv b=0)(xX:b.length≤12){i:Nat}(aa:i<t.length)(ao:(t.getD i aK).kind=0):
 D 24 (b4 (t.getD i aK).dC*b4 b)∧fQ (cO (b4 (t.getD i aK).dC*b4 b)) (b4 (t.getD i aK).dC*b4 b):=by have h:=((fQ.self (yL ah aa ao)).nH (hm.dC _ (dx aK aa)) a6).mul ((fQ.self ak).nH xX a6);exact ⟨h,yZ (h.fit a6)⟩
theorem RK {t:aT}(ah:Valid t)(hm:cz.Modest t){b:dI}(ak:gv b=0)(xX:b.length≤12):lj (e2 b t):=by
 have au:=hm.len;refine ⟨by unfold e2;rw [cL];exact au,fun n aF r ad=> ?_,⟨fun i aa ao=> ?_⟩⟩
 ·obtain ⟨b3,aO,rfl⟩:=da.1 aF;rw [(yE b b3).eH] at ad;exact hm.eH _ aO r ad
 ·have aa:i<t.length:=by unfold e2 at aa;rw [cL] at aa;exact aa
  rw [show (e2 b t).getD i aK=iq b (t.getD i aK) from vw (.inr trivial) t aa] at ao⊢;have nM:(t.getD i aK).kind=0:=by rw [(yE b _).kind] at ao;exact ao
  obtain ⟨U,ab⟩:=Qx ah hm ak xX aa nM;unfold iq;rw [aG nM];show D 24 (b4 (cO _));rw [ab.2];exact U
theorem amc {t:aT}(ah:Valid t)(hm:cz.Modest t):lj (lD t):=by
 have h:=RK ah hm C5.1 (show [45,49].length≤12 by decide);have ax: ∀n:cW,(jt n).eH=n.eH∧(jt n).kind=n.kind∧(jt n).dC=n.dC:=fun n=>by unfold jt;split<;>exact ⟨rfl,rfl,rfl⟩
 refine ⟨by unfold lD;rw [cL];exact h.len,fun n aF r ad=> ?_,⟨fun i aa ao=> ?_⟩⟩
 ·obtain ⟨b3,aO,rfl⟩:=da.1 aF;rw [(ax b3).1] at ad;exact h.eH _ aO r ad
 ·have aa:i<(e2 [45,49] t).length:=by unfold lD at aa;rw [cL] at aa;exact aa
  rw [show (lD t).getD i aK=jt ((e2 [45,49] t).getD i aK) from vw (.inr trivial) (e2 [45,49] t) aa] at ao⊢;rw [(ax _).2.1] at ao;rw [(ax _).2.2];exact h.Az.nH i aa ao
end Go.ai.lN
namespace Go.Proofs.YtmpnheilfejcpaaGreatDoor
open Go.ai
def AA (w:World):Prop:=True
 ∧Lib.TabIs Tryz.prog w "internal/strconv.uint64pow10" .u64 Lib.pow10Tab
 ∧True
instance:bq:=⟨fun w _=>AA w⟩
theorem akv {n:String}{w w':World}(h: ∀b,b<w.heap.size→w'.heap[b]? =w.heap[b]?){cs:Array Value}(ah:w.var? Tryz.prog n=some cs):w'.var? Tryz.prog n=some cs:=by
 unfold World.var? at ah⊢;cases cX:Tryz.prog.globalNamed n with
 |none=>simp [cX] at ah
 |some g=>
  simp only [cX,Option.bind_some] at ah⊢;have bC:g<w.heap.size:=by
   rcases ga g w.heap.size with q|q
   ·exact q
   ·have:w.heap[g]? =none:=by simp [q]
    simp [this] at ah
  rw [h g bC];exact ah
theorem acW {W:World}{S:Nat→Prop}(h:AA W):o7 W S (fun _=>none) []:=by intro w' bY _ _ ak;have eg: ∀b,b<W.heap.size→w'.heap[b]? =W.heap[b]? :=fun b au=>ak b au (by rintro ⟨h,o,s,C,U,_⟩;simp at U);show AA w';unfold AA at h⊢;obtain ⟨_,h⟩:=h;obtain ⟨U,h⟩:=h;refine ⟨trivial,?_⟩;refine ⟨akv eg U,?_⟩;trivial
end Go.Proofs.YtmpnheilfejcpaaGreatDoor
namespace Go.ai
open Go.RowKit
variable [bq]
theorem cm {P:Program}{f:FuncId}{args:List al}{r:al}{code:Code}(fn:Func)(h: ∀c:Ctx,c.R=(fun dk _=>dk=r)→c.fix=(fun _=>False)→ai P fn c (.code code []) (y7 0 args) [])(aN:P.funcs[f]? =some fn:=by exact rfl)(ak:fn.body=some code:=by exact rfl)(aF:(fn.name== "runtime.NumGoroutine")=false:=by kernel_rfl)(cq:Nat.ble args.length fn.ntmps=true:=by exact rfl)(U:cV.eR args=true:=by exact rfl)(ab:cV r=true:=by exact rfl):bD P f args r:=cg.rn (hq (P:=P) (fn:=fn) aN ak aF cq h) (fix:=fun _=>False) (fun _ h=>h) U ab
end Go.ai
namespace Go.ai
open Go.RowKit
variable [bq]
theorem bx {P:Program}{fn:Func}{c:Ctx}{fr:Fr}{H:aX}{k:List eh}{all:Array Oper}{fuel:Nat}{listed:Array Bool}(i:Nat){wG:Oper}(h:ai P fn c (.ops false all [wG] (.any all fuel (listed.setIfInBounds i true)::k)) fr H)(ad:Region.ready .any all listed=[i]:=by kernel_rfl)(hd:o4 fn.ntmps all.toList=true:=by exact rfl)(aj:all[i]? =some wG:=by exact rfl):ai P fn c (.any all (fuel+1) listed k) fr H:=vk ad bZ hd ⟨fun o' cU=>by rw [aj] at cU;cases cU;exact h,trivial⟩
end Go.ai
namespace Go.ai
open Go.RowKit
variable [bq]
theorem ed {P:Program}{fn:Func}{c:Ctx}{fr:Fr}{H:aX}{k:List eh}{all:Array Oper}{fuel:Nat}{listed:Array Bool}(i j:Nat){wG Qp:Oper}(h:ai P fn c (.ops false all [wG] (.any all fuel (listed.setIfInBounds i true)::k)) fr H)(aL:ai P fn c (.ops false all [Qp] (.any all fuel (listed.setIfInBounds j true)::k)) fr H)(ad:Region.ready .any all listed=[i,j]:=by kernel_rfl)(hd:o4 fn.ntmps all.toList=true:=by exact rfl)(aj:all[i]? =some wG:=by exact rfl)(FM:all[j]? =some Qp:=by exact rfl):ai P fn c (.any all (fuel+1) listed k) fr H:=vk ad bZ hd ⟨fun o' cU=>by rw [aj] at cU;cases cU;exact h,fun o' cU=>by rw [FM] at cU;cases cU;exact aL,trivial⟩
end Go.ai
namespace Go.Proofs.YtmpnheilfejcpaaGreatDoor
open Go.ai Go.ai.c8 Go.RowKit
attribute [local irreducible] ai ek bV cg
theorem acj (l:List Int)(au:cG l)(hlen:l.length≤1000000000):bD Tryz.prog 215 [.ro (.ints .u32 l) 0 l.length] (.ro (.ints .u32 l) 0 (aW (bo l)).length):=by
 refine cm Tryz.f215 fun c ay bK=> ?_;refine bI ?_;refine cJ (ι:=Nat) (fun k=>[(0,.ro (.ints .u32 l) 0 k)]) (fun _=>[]) (fun k=>k≤l.length∧ ∀i,k≤i→i<l.length→l.getD i 0=0) (fun k=>k) l.length ⟨⟨I,trivial⟩,I,bR _,fun i U ab=>by omega⟩ ?_;rintro k ⟨ao,bw⟩;have fin:(k=0∨l.getD (k-1) 0≠0)→(aW (bo l)).length=k:=fun h=>by rw [←ajP au ao bw h,ff,hF ao]
 refine bm ?_;refine gS I I (fun aO=> ?_) (fun aO=> ?_)
 ·have re:0<k:=J;have aD:((k:Int)-1).toNat=k-1:=J;refine kv ?_;refine bB I (fun U=> ?_) (fun U=> ?_)
  ·rw [aD] at U;refine K3 ?_;refine ca ⟨k-1,⟨J,fun i ab aw=> ?_⟩,J,⟨?_,trivial⟩,I⟩
   ·by_cases bg:i=k-1
    ·subst bg;exact U
    ·exact bw i J aw
   ·show some (al.ro (.ints .u32 l) (0+0) _)=_;congr 2;omega
  ·rw [aD] at U;refine bt ?_;exact bd ay I (by rw [fin (.inr U)];rfl)
 ·refine bm ?_;exact bd ay I (by rw [fin (.inl J)];rfl)
theorem tW (l:List Int)(au:cG l)(hlen:l.length≤1000000000):bD Tryz.prog 215 [mb l] (br (bo l)):=by refine bD.res (acj l au hlen) ?_;exact aV.abH (akn au) (nj (jf au))
theorem DP (m:Nat)(hm:m<18446744073709551616):bD Tryz.prog 195 [.int .u64 (m:Nat)] (br m):=by
 have av:=tW [((m%4294967296:Nat):Int),((m/2^32%4294967296:Nat):Int)] (by
  rw [cG.cons];exact ⟨tV m,cG.one (tV _)⟩) bZ
 have ah:bo [((m%4294967296:Nat):Int),((m/2^32%4294967296:Nat):Int)]=m:=by simp only [bo,cA];unfold B;omega
 rw [ah] at av;refine cm Tryz.f195 fun c ay bK=> ?_;refine bN ?_;refine an (vD (m:=m) I I I kx) ?_;repeat (refine an (bL rfl) ?_)
 refine an (vE (m:=m) (s:=32) I I I) ?_;refine an (vD I I I kx) ?_;repeat (refine iG rfl rfl rfl rfl rfl rfl rfl rfl rfl rfl rfl ?_)
 refine aZ I I I av (bN ?_);exact bd ay I I
theorem Io {a b c:Nat}(a1:a<4294967296)(ak:b<4294967296)(av:c<4294967296):a*b<18446744073709551616∧c+a*b<18446744073709551616:=by have:a*b≤4294967295*4294967295:=jB J J;omega
theorem ajK (n:List Int)(x y:Nat)(aF:cG n)(hlen:n.length≤100000000)(ar:x<4294967296)(aY:y<4294967296):
 bD Tryz.prog 200 [mb n,.int .u32 (x:Nat),.int .u32 (y:Nat)] (br (bo n*x+y)):=by
 refine cm Tryz.f200 fun c ay bK=> ?_;refine bz ?_;refine l6 I I I I I I I I (by show (0:Int)≤0∧_≤_∧(4:Int)*_≤_∧_;omega) (bN ?_);refine an (gU (m:=y) I I I ey J) ?_;refine agL 0 (.ints .u32 []) I ⟨cf _,I,fun i j aa _=>absurd aa (gy _)⟩ (bz ?_);refine cJ (ι:=Nat×List Int×Nat) (fun p=>[(0,mb n),(1,.int .u32 (x:Nat)),(7,.aA 0 0 p.1),(8,.int .u64 (p.2.2:Nat)),(17,mb n),(18,ag n.length),(19,ag p.1)]) (fun p=>[some ⟨218,.ints .u32 p.2.1⟩])
  (fun p=>p.1≤n.length∧p.2.1.length=p.1∧cG p.2.1∧p.2.2<4294967296∧bo p.2.1+B^p.1*p.2.2=bo (n.take p.1)*x+y) (fun p=>n.length-p.1) (0,[],y) ⟨aH,rfl,cf _,rfl,cG.nil,aY,by simp [bo]⟩ ?_
 rintro ⟨i,out,dc⟩ ⟨U,ab,aw,bg,bF⟩;simp only at*;refine bl ?_;refine bB I (fun dm=> ?_) (fun dm=> ?_)
 ·have lV:i<n.length:=J;obtain ⟨d,hd,x2⟩:=aF.nat i;have ak:=Io (a:=d) (b:=x) (c:=dc) x2 ar bg;have aB:(dc+d*x)/4294967296<4294967296:=J;refine bm ?_;refine bP 24 (.int .u32 (d:Nat)) I (aV.of_eq (by rw [hd])) ?_;refine an (gU (m:=d) I I I ey J) ?_;repeat (refine an (bL rfl) ?_)
  refine an (gU (m:=x) I I I ey J) ?_;refine an (BF I I ey ak.1) ?_;refine an (ue I I ey ak.2) (bN ?_);refine an (vD I I I kx) ?_;repeat (refine iG rfl rfl rfl rfl rfl rfl rfl rfl rfl rfl rfl ?_)
  refine dt I I I I I I I I I ab I I (bR 1) I (by show (i+1)*4≤_∧_;omega) (fun i j _ _=>rfl) c4 (bN ?_);refine an (vE (s:=32) I I I) (bt ?_);refine ca ⟨(i+1,out++[(((dc+d*x)%4294967296:Nat):Int)],(dc+d*x)/4294967296),⟨by simp only;omega,by simp [ab],cG.append.2 ⟨aw,cG.one (tV _)⟩,aB,?_⟩,by simp only;omega,aH,I⟩;have:=LS ab bF (c:=dc+d*x) (d:=d*x) rfl;rw [lC n i,hd,cA,ef,ke];simp only at this⊢;rw [this];omega
 ·have df:i=n.length:=J;subst df;rw [gb] at bF;refine bt ?_;refine an (vD (m:=dc) I I I kx) ?_;repeat (refine iG rfl rfl rfl rfl rfl rfl rfl rfl rfl rfl rfl ?_)
  refine dt I I I I I I I I I ab I I (bR 1) I (by show (n.length+1)*4≤_∧_;omega) (fun i j _ _=>rfl) c4 ?_;have au:cG (out++[((dc%4294967296:Nat):Int)]):=cG.append.2 ⟨aw,cG.one (tV _)⟩;have av:=tW _ au (by simp;omega);have ah:bo (out++[((dc%4294967296:Nat):Int)])=bo n*x+y:=by rw [yK,ab,cA,mK bg];exact bF
  rw [ah] at av;refine rC 0 42 (n.length+1) [] I lb I (by show _≤(out++[((dc%4294967296:Nat):Int)]).length;simp;omega) trivial ?_;refine aZ I I (by show [al.ro _ 0 (n.length+1)]++[]=[mb (out++[((dc%4294967296:Nat):Int)])];simp only [mb,c2,ab];rfl) av (bN ?_);exact bd ay I I
theorem P1 (n:Int):bD Tryz.prog 246 [.int .i64 n] (.bool false):=by refine cm Tryz.f246 fun c ay bK=> ?_;refine bz ?_;refine bd ay I ?_;simp [gK]
theorem P2 (n:Int):bD Tryz.prog 261 [.int .u32 n] (.bool false):=by refine cm Tryz.f261 fun c ay bK=> ?_;refine bz ?_;refine bd ay I ?_;simp [gK]
theorem W7 (x y:Int):bD Tryz.prog 220 [.int .i64 x,.int .i64 y] (.int .i64 (jx x y)):=by
 refine cm Tryz.f220 fun c ay bK=> ?_;refine bN ?_;refine aZ I I I (P1 x) (bN ?_);refine aZ I I I (P1 y) (bl ?_);refine bB I (fun h=> ?_) (fun h=> ?_)
 ·refine dw ?_;refine bd ay I ?_;unfold jx;rw [aG h];rfl
 ·refine bm ?_;refine bB I (fun ab=> ?_) (fun ab=> ?_)
  ·refine dw ?_;refine bd ay I ?_;unfold jx;rw [az h,aG ab];rfl
  ·refine bI ?_;refine bd ay I ?_;unfold jx;rw [az h,az ab];rfl
theorem W8 (x y:Int):bD Tryz.prog 238 [.int .u32 x,.int .u32 y] (.int .i64 (jx x y)):=by
 refine cm Tryz.f238 fun c ay bK=> ?_;refine bN ?_;refine aZ I I I (P2 x) (bN ?_);refine aZ I I I (P2 y) (bl ?_);refine bB I (fun h=> ?_) (fun h=> ?_)
 ·refine dw ?_;refine bd ay I ?_;unfold jx;rw [aG h];rfl
 ·refine bm ?_;refine bB I (fun ab=> ?_) (fun ab=> ?_)
  ·refine dw ?_;refine bd ay I ?_;unfold jx;rw [az h,aG ab];rfl
  ·refine bI ?_;refine bd ay I ?_;unfold jx;rw [az h,az ab];rfl
theorem Ij (a b:Nat)(a1:(aW a).length≤1000000000)(ak:(aW b).length≤1000000000):bD Tryz.prog 211 [br a,br b] (.int .i64 (jx a b)):=by
 have eY:=W7 (aW a).length (aW b).length;refine cm Tryz.f211 fun c ay bK=> ?_;have P9:=ij a;have Qd:=ij b;have aD:=W4 a b;have aE: ∀i,i<(aW a).length→(aW a).length=(aW b).length→(∀j,i<j→j<(aW a).length→(aW a).getD j 0=(aW b).getD j 0)→(aW a).getD i 0≠(aW b).getD i 0→jx a b=jx ((aW a).getD i 0) ((aW b).getD i 0):=fun i aa au ae b2=>W5 P9 Qd au aa ae b2;have bM:(aW a).length=(aW b).length→(∀j,j<(aW a).length→(aW a).getD j 0=(aW b).getD j 0)→jx a b=0:=W6;unfold br;generalize aW a=x at*;generalize aW b=y at*;generalize jx (a:Int) (b:Int)=r at*;refine bz ?_;refine bB I (fun aO=> ?_) (fun aO=> ?_)
 ·refine bz ?_;refine aZ I I I eY (dw ?_);refine bd ay I ?_;rw [aD J];rfl
 ·have au:x.length=y.length:=J;refine cM ?_;refine cJ (ι:=Nat) (fun k=>[(0,.ro (.ints .u32 x) 0 x.length),(1,.ro (.ints .u32 y) 0 y.length),(5,.int .i64 ((k:Int)-1))]) (fun _=>[]) (fun k=>k≤x.length∧ ∀j,k≤j→j<x.length→x.getD j 0=y.getD j 0) (fun k=>k) x.length ⟨aH,I,bR _,fun j U ab=>by omega⟩ ?_;rintro k ⟨ao,bw⟩;refine cM ?_;refine bB I (fun U=> ?_) (fun U=> ?_)
  ·have I4:((k:Int)-1).toNat=k-1:=J;refine bI ?_;refine yG af af I (bm ?_);refine bB I (fun ab=> ?_) (fun ab=> ?_)
   ·rw [I4] at ab;have h8:=W8 (x.getD (k-1) 0) (y.getD (k-1) 0);repeat (refine c6 ?_)
    refine eN af ?_;refine bJ 0 I af af af I (bL I) I ?_;refine bJ 1 I af af af I (bL I) I ?_;refine bJ 2 I af af af I (j3 I I I I (by first|(simp only [c1,cA,gn];exact I)|exact I) J) I ?_;refine bJ 4 I af af af I (bL I) I ?_;refine bJ 5 I af af af I (bL I) I ?_;refine bJ 6 I af af af I (j3 I I I I (by first|(simp only [c1,cA,gn];exact I)|exact I) J) I ?_;apply tH [(35,.int .u32 (x.getD ((k:Int)-1).toNat 0)),(39,.int .u32 (y.getD ((k:Int)-1).toNat 0))]
    ·intro fin;refine ed 3 7 ?_ ?_
     ·refine bm ?_;refine bx 7 ?_;refine bm ?_;exact fin _ aH
     ·refine bm ?_;refine bx 3 ?_;refine bm ?_;exact fin _ aH
    refine bx 8 ?_;skip
    refine aZ I I I (by rw [I4];exact h8) (bI ?_);refine bJ 9 I af af af I (dr I) I ?_;refine eM af (bm ?_);refine bd ay I ?_;rw [aE (k-1) J au (fun j aw bg=>bw j J bg) ab];rfl
   ·rw [I4] at ab;refine cM ?_;refine ca ⟨k-1,⟨J,fun j aw bg=> ?_⟩,J,⟨I,I,?_,trivial⟩,I⟩
    ·by_cases bF:j=k-1
     ·subst bF;exact jV.1 ab
     ·exact bw j J bg
    ·show some (al.int .i64 _)=_;congr 2;omega
  ·refine bt ?_;refine bd ay I ?_;rw [bM au (fun j aw=>bw j J aw)];rfl
theorem wX {out:List Int}{m:Nat}(h:out.length=m):[al.ro (.ints .u32 out) 0 m]++[]=[mb out]:=by subst h;rfl
theorem V9 (a b:Nat)(a1:(aW a).length≤100000000)(ak:(aW b).length≤100000000):bD Tryz.prog 210 [br a,br b] (br (a+b)):=by
 refine cm Tryz.f210 fun c ay bK=> ?_;obtain ⟨p,q,FQ,hlen,cv⟩: ∃p q:Nat,p+q=a+b∧(aW q).length≤(aW p).length∧(((aW a).length<(aW b).length∧p=b∧q=a)∨(¬(aW a).length<(aW b).length∧p=a∧q=b)):=by
  rcases ga (aW a).length (aW b).length with h|h
  ·exact ⟨b,a,J,J,.inl ⟨h,I,I⟩⟩
  ·exact ⟨a,b,I,h,.inr ⟨J,I,I⟩⟩
 have nP:(aW p).length≤100000000:=by rcases cv with ⟨_,rfl,rfl⟩|⟨_,rfl,rfl⟩<;>assumption
 apply j4 (H:=[]) [(0,br p),(1,br q)]
 ·intro fin;unfold br at fin⊢;refine bl ?_;refine bB I (fun aO=> ?_) (fun aO=> ?_)
  ·have:p=b∧q=a:=by
    rcases cv with h|h
    ·exact h.2
    ·exact absurd J h.1
   obtain ⟨rfl,rfl⟩:=this;skip
   refine c0 I ?_;refine dS ?_;exact fin _ aH
  ·have:p=a∧q=b:=by
    rcases cv with h|h
    ·exact absurd J aO
    ·exact h.2
   obtain ⟨rfl,rfl⟩:=this;refine dS ?_;exact fin _ aH
 have ar:=ij p;have aY:=ij q;have ah:bo (aW p)+bo (aW q)=a+b:=by rw [gT,gT,FQ]
 unfold br;rw [←ah] at ay;generalize aW p=x at*;generalize aW q=y at*;refine bz ?_;refine l6 I I I I I I I I (by show (0:Int)≤0∧_≤_∧(4:Int)*_≤_∧_;omega) (bz ?_);refine HE 0 (.ints .u32 []) I ⟨cf _,I,fun i j aa _=>absurd aa (gy _)⟩ ?_;refine cJ (ι:=Nat×List Int×Nat) (fun p=>[(1,.ro (.ints .u32 y) 0 y.length),(5,.aA 0 0 p.1),(6,.int .u64 (p.2.2:Nat)),(20,.ro (.ints .u32 x) 0 x.length),(21,ag x.length),(22,ag p.1)]) (fun p=>[some ⟨218,.ints .u32 p.2.1⟩])
  (fun p=>p.1≤x.length∧p.2.1.length=p.1∧cG p.2.1∧p.2.2<4294967296∧bo p.2.1+B^p.1*p.2.2=bo (x.take p.1)+bo (y.take p.1)) (fun p=>x.length-p.1) (0,[],0) ⟨aH,rfl,cf _,rfl,cG.nil,a6,by simp [bo]⟩ ?_
 rintro ⟨i,out,dc⟩ ⟨U,ab,aw,bg,bF⟩;simp only at*;refine bl ?_;refine bB I (fun dm=> ?_) (fun dm=> ?_)
 ·have lV:i<x.length:=J;obtain ⟨d,hd,x2⟩:=ar.nat i;obtain ⟨e,he,Pe⟩:=aY.nat i;refine bm ?_;refine bP 28 (.int .u32 (d:Nat)) I (aV.of_eq (by rw [hd])) ?_;refine an (gU (m:=d) I I I ey J) ?_;refine an (ue I I ey J) (bl ?_);apply j4 (H:=[some ⟨218,.ints .u32 out⟩]) [(1,.ro (.ints .u32 y) 0 y.length),(5,.aA 0 0 i),(6,.int .u64 (dc+d+e:Nat)),(20,.ro (.ints .u32 x) 0 x.length),(21,ag x.length),(22,ag i)]
  ·intro fin;refine bB I (fun fi=> ?_) (fun fi=> ?_)
   ·refine bm ?_;refine bP 39 (.int .u32 (e:Nat)) I (aV.of_eq (by rw [he])) ?_;refine an (gU (m:=e) I I I ey J) ?_;refine an (ue I I ey J) ?_;refine dS ?_;exact fin _ aH
   ·have JJ:e=0:=by
     have:y.getD i 0=0:=by simp [List.getD,jT (show y.length≤i by omega)]
     omega
    subst JJ;refine dS ?_;exact fin _ aH
  refine bN ?_;refine an (vD I I I kx) ?_;repeat (refine iG rfl rfl rfl rfl rfl rfl rfl rfl rfl rfl rfl ?_)
  refine dt I I I I I I I I I ab I I (bR 1) I (by show (i+1)*4≤_∧_;omega) (fun i j _ _=>rfl) c4 (bN ?_);refine an (vE (s:=32) I I I) (bt ?_);exact ca ⟨(i+1,out++[(((dc+d+e)%4294967296:Nat):Int)],(dc+d+e)/4294967296),⟨by simp only;omega,by simp [ab],cG.append.2 ⟨aw,cG.one (tV _)⟩,by simp only;omega,TV ab bF hd he⟩,by simp only;omega,aH,I⟩
 ·have df:i=x.length:=J;subst df;rw [gb,jU hlen] at bF;refine bt ?_;refine an (vD (m:=dc) I I I kx) ?_;repeat (refine iG rfl rfl rfl rfl rfl rfl rfl rfl rfl rfl rfl ?_)
  refine dt I I I I I I I I I ab I I (bR 1) I (by show (x.length+1)*4≤_∧_;omega) (fun i j _ _=>rfl) c4 ?_;have au:cG (out++[((dc%4294967296:Nat):Int)]):=cG.append.2 ⟨aw,cG.one (tV _)⟩;have av:=tW _ au (by simp;omega);have ah:bo (out++[((dc%4294967296:Nat):Int)])=bo x+bo y:=by rw [yK,ab,cA,mK bg];exact bF
  rw [ah] at av;refine rC 0 54 (x.length+1) [] I lb I (by show _≤(out++[((dc%4294967296:Nat):Int)]).length;simp;omega) trivial ?_;refine aZ I I (wX (by simp [ab])) av (bN ?_);exact bd ay I I
end Go.Proofs.YtmpnheilfejcpaaGreatDoor
