import Derived.Lib.ParseIntB
import Derived.Lib.Join
import Derived.Test.YtmpnheilfejcpaaGreatDoorH3
set_option linter.unusedVariables false
set_option linter.unusedSimpArgs false
namespace Go.aj.dn
theorem C1: ∀(a b v:Nat),fZ (a+b) v=fZ a v++fZ b (v/B^a)
 |0,b,v=>by simp [fZ]
 |a+1,b,v=>by rw [show a+1+b=a+b+1 by omega,fZ,fZ,C1 a b,oN,ic,hj (B^a),←Nat.div_div_eq_div_mul]
theorem NR: ∀(k v:Nat),bx (fZ k v)=v%B^k
 |0,v=>by simp [fZ,bx,Nat.mod_one]
 |k+1,v=>by rw [fZ,bx,cg,NR k,ic,hj (B^k),Nat.mod_mul]
theorem ani {k v w:Nat}(h:v%B^k=w%B^k):fZ k v=fZ k w:=by have U:=Dh (C2 k v) (qN k v) (NR k v);have ab:=Dh (C2 k w) (qN k w) (NR k w);rw [U,ab,h]
theorem FT {v s:Nat}(av:1≤s)(h:(a6 v).length=s): ∃t low:Nat,(a6 v).getD (s-1) 0=(t:Int)∧t<4294967296∧0<t∧v=low+B^(s-1)*t∧low<B^(s-1):=by
 obtain ⟨t,bu,al⟩:=(iS v).nat (s-1);refine ⟨t,bx ((a6 v).take (s-1)),bu,al,?_,?_,?_⟩
 ·rcases Wz (n:=v) with q|q
  ·rw [q] at h;simp at h;omega
  ·rw [h,bu] at q;omega
 ·have:=my (a6 v) (s-1);rw [show s-1+1=(a6 v).length by omega,e7,hG,bu,cg] at this;exact this
 ·have:=jH ((iS v).take (s-1))
  rwa [fc,hY J] at this
theorem aao {s:Nat}(av:1≤s):B^s=B^(s-1)*4294967296:=by rw [show s=s-1+1 by omega,ic];rfl
theorem ahp {m k s t:Nat}(av:1≤s)(h:(a6 m).length=s)(bu:(a6 m).getD (s-1) 0=(t:Int))(U:2147483648≤t*2^k)(ab:t*2^k<4294967296)(an:k≤31):
 (a6 (m*2^k)).length=s∧2147483648≤(a6 (m*2^k)).getD (s-1) 0:=by
 obtain ⟨cF,low,e,al,aF,ai,HO⟩:=FT av h;have:cF=t:=J;subst this;have la:=Ha (s-1);have ES:0<2^k:=lW aT;have hd: ∃q,4294967296=q*2^k:=⟨2^(32-k),by rw [←iI,show 32-k+k=32 by omega]⟩
 obtain ⟨q,aB⟩:=hd;have ay:cF+1≤q:=by have:cF*2^k<q*2^k:=J;exact Nat.lt_of_mul_lt_mul_right this
 have bf:(cF+1)*2^k≤4294967296:=by rw [aB];exact er _ ay
 have kO:m*2^k<B^s:=by
  rw [aao av];have bL:m<B^(s-1)*(cF+1):=by rw [hk];omega
  have dz:m*2^k<B^(s-1)*(cF+1)*2^k:=Nat.mul_lt_mul_of_pos_right bL ES;have fx:B^(s-1)*((cF+1)*2^k)≤B^(s-1)*4294967296:=hz _ bf;rw [kH] at dz;omega
 have xV:B^(s-1)*2147483648≤m*2^k:=by
  have bL:B^(s-1)*(cF*2^k)≤m*2^k:=by rw [←kH];exact er _ J
  exact dN (hz _ U) bL
 have hlen:(a6 (m*2^k)).length=s:=by
  have a:=oo kO;have b:B^(s-1)≤m*2^k:=by have:B^(s-1)*1≤B^(s-1)*2147483648:=hz _ aT;omega
  have c:=alU b;omega
 refine ⟨hlen,?_⟩;obtain ⟨t2,ari,aJ,_,_,SU,aqP⟩:=FT av hlen;rw [aJ];rcases gz t2 2147483648 with z|z
 ·exfalso;have:B^(s-1)*(t2+1)≤B^(s-1)*2147483648:=hz _ J;rw [hk] at this;omega
 ·omega
theorem agn {t k:Nat}(bu:0<t)(h:t*2^k<4294967296)(an:k≤31)(aU:t*2^k/2^31=0):t*2^(k+1)<4294967296∧k+1≤31:=by
 have U:t*2^k<2147483648:=by
  rcases gz (t*2^k) 2147483648 with q|q
  ·exact q
  ·have:=Nat.div_le_div_right (c:=2^31) q;rw [aU] at this;exact absurd this aT
 refine ⟨by rw [ic,←kH];omega,?_⟩;rcases gz k 31 with q|q
 ·exact q
 ·exfalso;have:k=31:=J;subst this;have:1*2^31≤t*2^31:=er _ bu;have e:(2:Nat)^31=2147483648:=aT;rw [e] at this U;omega
theorem ago {t k:Nat}(aU: ¬t*2^k/2^31=0):2147483648≤t*2^k:=by
 rcases gz (t*2^k) 2147483648 with q|q
 ·exact absurd (oJ (by rw [show (2:Nat)^31=2147483648 by decide];exact q)) aU
 ·exact q
theorem apg {n h3 v s k:Nat}(aI:n<B^h3)(an:k≤31)(av:1≤s)(j0:s≤h3)(ai:B^(s-1)*2147483648≤v):n*2^k<v*B^(h3+1-s):=by
 have aF:2^k≤2147483648:=dN (fF (show 0<2 by decide) an) aT;have U:n*2^k≤n*2147483648:=hz _ aF;have ab:B^(s-1)*2147483648*B^(h3+1-s)≤v*B^(h3+1-s):=er _ ai;have ay:B^(s-1)*2147483648*B^(h3+1-s)=B^h3*2147483648:=by
  have e:B^h3=B^(s-1)*B^(h3+1-s):=by rw [←iI];congr 1;omega
  rw [e];ac_rfl
 omega
theorem akz {v s:Nat}(av:1≤s)(au:(a6 v).length=s)(h:2147483648≤(a6 v).getD (s-1) 0):B^(s-1)*2147483648≤v:=by obtain ⟨t,low,e,_,_,ai,_⟩:=FT av au;have:B^(s-1)*2147483648≤B^(s-1)*t:=hz _ J;omega
theorem aiD {W v s j N:Nat}(mX:0<v)(ai:v<B^s)(iM:W<v*B^(j+1))(jy:j+(s+1)≤N):
 fZ N W=fZ j W++(fZ (s+1) (W/B^j)++fZ (N-(j+(s+1))) (W/B^j/B^(s+1)))∧bx (fZ (s+1) (W/B^j))=W/B^j∧W/B^j<4294967296*v∧
  ∃W',fZ j W++(fZ (s+1) (W/B^j%v)++fZ (N-(j+(s+1))) (W/B^j/B^(s+1)))=fZ N W'∧W'<v*B^j∧W'+B^j*(v*(W/B^j/v))=W:=by
 have la:=Ha j;have U:W/B^j<4294967296*v:=by
  refine xz ?_;have:v*B^(j+1)=B^j*(4294967296*v):=by rw [ic];unfold B;ac_rfl
  rw [←this];exact iM
 have ab:W/B^j<B^(s+1):=by have:4294967296*v≤4294967296*B^s:=hz _ J;rw [ic,hj (B^s)];exact gL U this
 have ay:W/B^j/B^(s+1)=0:=oJ ab;have ad:W/B^j%v<v:=lx _ mX;have E1:v<B^(s+1):=gL ai (fF aT J);refine ⟨?_,J1 _ _ ab,U,W%B^j+B^j*(W/B^j%v),?_,?_,?_⟩
 ·rw [←C1,←C1];congr 1;omega
 ·have aH:(W%B^j+B^j*(W/B^j%v))/B^j=W/B^j%v:=by rw [Nat.add_mul_div_left _ _ la,oJ (lx _ la),cT]
  have aJ:(W%B^j+B^j*(W/B^j%v))%B^j=W%B^j:=by rw [Nat.add_mul_mod_self_left,Nat.mod_mod]
  rw [show N=j+((s+1)+(N-(j+(s+1)))) by omega,C1 j,C1 (s+1),aH,ay,ani aJ.symm];rw [show j+(s+1+(N-(j+(s+1))))-(j+(s+1))=N-(j+(s+1)) by omega,oJ (Nat.lt_trans ad E1)]
 ·have bL:B^j*(W/B^j%v+1)≤B^j*v:=hz _ ad;have dz:=lx W la;rw [hk] at bL;rw [hj v];omega
 ·have a:=zm W (B^j);have b:=zm (W/B^j) v;have c:B^j*(v*(W/B^j/v))+B^j*(W/B^j%v)=B^j*(W/B^j):=by rw [←hk,b]
  omega
theorem aiC {n m k W Q:Nat}(hm:0<m)(h:Q*(m*2^k)+W=n*2^k)(iM:W<m*2^k):Q=n/m∧W=n%m*2^k:=by have an:0<2^k:=lW aT;have aU:0<m*2^k:=zn hm an;have aH:n*2^k/(m*2^k)=n/m:=Nat.mul_div_mul_right _ _ an;have aJ:n*2^k%(m*2^k)=n%m*2^k:=Nat.mul_mod_mul_right ..;rw [←h] at aH aJ;rw [oO,Nat.add_mul_div_right _ _ aU,oJ iM,cT] at aH;rw [oO,Nat.add_mul_mod_self_right,np iM] at aJ;exact ⟨aH,aJ⟩
theorem aob {d e k:Nat}(hd:d<4294967296)(an:k≤31):d/2^k|||e*2^(32-k)%4294967296=d/2^k+e%2^k*2^(32-k):=by
 have aF:0<2^(32-k):=lW aT;have aH:(4294967296:Nat)=2^k*2^(32-k):=by rw [←iI,show k+(32-k)=32 by omega]
 have aJ:e*2^(32-k)%4294967296=e%2^k*2^(32-k):=by rw [aH];exact Nat.mul_mod_mul_right ..
 have U:d/2^k<2^(32-k):=by refine xz ?_;rw [←aH];exact hd
 rw [aJ];have:=Nat.two_pow_add_eq_or_of_lt U (e%2^k);rw [Nat.or_comm,hj (e%2^k),←this,oO]
theorem Z4 {d e k:Nat}(hd:d<4294967296)(an:k≤31):d/2^k+e%2^k*2^(32-k)<4294967296:=by
 have aH:(4294967296:Nat)=2^k*2^(32-k):=by rw [←iI,show k+(32-k)=32 by omega]
 have U:d/2^k<2^(32-k):=by refine xz ?_;rw [←aH];exact hd
 have ab:(e%2^k+1)*2^(32-k)≤2^k*2^(32-k):=er _ (lx _ (lW aT));rw [dK,←aH] at ab;omega
theorem Z6 {out r:List Int}{i k d e:Nat}(an:k≤31)(au:out.length=i)(hd:r.getD i 0=(d:Int)){d0:Nat}(h:bx out*2^k+d0=bx (r.take i)+(d%2^k)*B^i):
 bx (out++[((d/2^k+e%2^k*2^(32-k):Nat):Int)])*2^k+d0=bx (r.take (i+1))+(e%2^k)*B^(i+1):=by
 rw [AB,au,cg,my,hd,cg,ic];have aH:(4294967296:Nat)=2^(32-k)*2^k:=by rw [←iI,show 32-k+k=32 by omega]
 have aJ:=zm d (2^k);have bR:B^i*(d/2^k+e%2^k*2^(32-k))*2^k=B^i*(2^k*(d/2^k))+e%2^k*(B^i*B):=by rw [show B=2^(32-k)*2^k from aH];generalize (2^(32-k)*2^k)^i=p;rw [hk,dK];congr 1<;>ac_rfl
 have jw:B^i*(2^k*(d/2^k))+(d%2^k)*B^i=B^i*d:=by rw [hj (d%2^k),←hk,aJ]
 rw [dK,bR];omega
theorem NM {a b k:Nat}(h:a<b)(al:(a6 b).length≤k):(a6 a).length≤k:=by have U:=jH (iS b);rw [hG] at U;have:=oo (Nat.lt_trans h U);omega
theorem I5 {a b k:Nat}(h:a≤b)(al:(a6 b).length≤k):(a6 a).length≤k:=by
 rcases gz a b with q|q
 ·exact NM q al
 ·have:a=b:=J;subst this;exact al
theorem F4:a6 1=[1]:=by rw [F5 aT];have:1/B=0:=aT;rw [this,rA];rfl
theorem aoY {n:Nat}:n=1↔(a6 n).length=1∧(a6 n).getD 0 0=1:=by
 constructor
 ·rintro rfl;rw [F4];exact ⟨rfl,rfl⟩
 ·rintro ⟨U,ab⟩;have ay:=my (a6 n) 0;rw [kI J,hG,ab] at ay;simpa [bx] using ay
def nP (l:List (List UInt8))(k:Nat):List (List UInt8):=(List.range l.length).map fun i=>if i<k∨l.length-k≤i then l.getD (l.length-1-i) [] else l.getD i []
theorem w5 (l:List (List UInt8))(k:Nat):(nP l k).length=l.length:=by unfold nP;simp
theorem Dl (l:List (List UInt8))(k i:Nat)(aa:i<l.length):(nP l k).getD i []=if i<k∨l.length-k≤i then l.getD (l.length-1-i) [] else l.getD i []:=by unfold nP;simp only [List.getD,ly,vM aa,ta,px]
theorem O5 {l m:List (List UInt8)}(h:l.length=m.length)(he: ∀i,i<l.length→l.getD i []=m.getD i []):l=m:=by apply jS h;intro i U ab;have:=he i U;rw [tX [] U,tX [] ab] at this;exact this
theorem apl (l:List (List UInt8)):nP l 0=l:=by refine O5 (w5 l 0) (fun i aa=> ?_);rw [w5] at aa;rw [Dl l 0 i aa,ax J]
theorem apj (l:List (List UInt8)){k:Nat}(h:l.length≤2*k+1):nP l k=l.reverse:=by
 refine O5 (by rw [w5,List.length_reverse]) (fun i aa=> ?_);rw [w5] at aa;have ad:l.reverse.getD i []=l.getD (l.length-1-i) []:=by simp only [List.getD];rw [List.getElem?_reverse aa]
 rw [Dl l k i aa,ad];split
 ·rfl
 ·congr 1;omega
theorem apk (l:List (List UInt8)){k:Nat}(h:k+1+k<l.length):((nP l k).set k ((nP l k).getD (l.length-1-k) [])).set (l.length-1-k) ((nP l k).getD k [])=nP l (k+1):=by
 refine O5 (by simp [w5]) (fun i aa=> ?_);simp only [dd,w5] at aa;rw [Dl l (k+1) i aa,Dl l k (l.length-1-k) J,ax J,Dl l k k J,ax J];simp only [List.getD];by_cases U:i=l.length-1-k
 ·subst U;rw [oH (by simp [w5];omega),aA J];simp only [px];congr 2;omega
 ·rw [lV (q3 U)];by_cases ab:i=k
  ·subst ab;rw [oH (by rw [w5];omega),aA J];simp only [px]
  ·rw [lV (q3 ab)];have:=Dl l k i aa;simp only [List.getD] at this;rw [this];by_cases ay:i<k∨l.length-k≤i
   ·rw [aA ay,aA J]
   ·rw [ax ay,ax J]
end Go.aj.dn
namespace Go.aj.dn
open Go.aj.r7 (jM)
def dg (c:UInt8):Bool:=decide (48≤c.toNat∧c.toNat<58)
theorem abi {c:UInt8}:dg c=true↔jM c:=by unfold dg jM;simp only [eL];constructor<;>intro h<;>exact ⟨J,J⟩
def u5 (s:List UInt8):List UInt8:=(s.reverse.dropWhile dg).reverse
def Am (s:List UInt8):List UInt8:=s.dropWhile dg
theorem Uv {l m:List UInt8}(h:l.all dg=true):(l++m).dropWhile dg=m.dropWhile dg:=by
 induction l with
 |nil=>rfl
 |cons x r ba=>
  simp only [zo,eb] at h;rw [oN,List.dropWhile_cons_of_pos h.1,ba h.2]
theorem akE {s:List UInt8}{k:Nat}(an:k≤s.length)(h:(s.drop k).all dg=true)(ab:k=0∨dg (s.getD (k-1) 0)=false):u5 s=s.take k:=by
 unfold u5
 conv=>lhs;rw [←sa k s]
 rw [List.reverse_append,Uv (by rw [List.all_reverse];exact h)];rcases ab with ab|ab
 ·subst ab;rfl
 ·rcases n2 k with q|q
  ·subst q;rfl
  ·have e:s.take k=s.take (k-1)++[s.getD (k-1) 0]:=by
    have:=pT s 0 (k-1) J
    rwa [show k-1+1=k by omega] at this
   rw [e,List.reverse_append,List.reverse_singleton,List.singleton_append,GW (by rw [ab];decide)];simp
theorem akC {s:List UInt8}{k:Nat}(h:(s.take k).all dg=true)(ab:s.length≤k∨dg (s.getD k 0)=false):Am s=s.drop k:=by
 unfold Am
 conv=>lhs;rw [←sa k s]
 rw [Uv h];rcases ab with ab|ab
 ·rw [Bm ab];rfl
 ·rcases gz k s.length with q|q
  ·rw [tQ s 0 k q,GW (by rw [ab];decide)]
  ·rw [Bm q];rfl
theorem Qw {l:List UInt8}:l.dropWhile dg=[]↔l.all dg=true:=by
 induction l with
 |nil=>simp
 |cons x r ba=>
  cases h:dg x with
  |true=>rw [List.dropWhile_cons_of_pos h,ba];simp [h]
  |false=>rw [GW (by rw [h];decide)];simp [h]
theorem abx {l:List UInt8}{x:UInt8}{r:List UInt8}(h:l.dropWhile dg=x::r):dg x=false:=by
 induction l with
 |nil=>cases h
 |cons y q ba=>
  cases a1:dg y with
  |true=>rw [List.dropWhile_cons_of_pos a1] at h;exact ba h
  |false=>
   rw [GW (by rw [a1];decide)] at h;cases h;exact a1
theorem akD {s:List UInt8}:Am (u5 s)=[]↔s.all dg=true:=by
 unfold Am u5;rw [Qw,List.all_reverse];constructor
 ·intro h;cases aB:s.reverse.dropWhile dg with
  |nil=>rw [Qw,List.all_reverse] at aB;exact aB
  |cons x r=>
   rw [aB] at h;have:=abx aB;simp [this] at h
 ·intro h;have:s.reverse.dropWhile dg=[]:=by rw [Qw,List.all_reverse];exact h
  rw [this];rfl
theorem ahM {l:List UInt8}(hd: ∀c∈l,jM c): ∀(a:Nat),ej a l≤4294967295→Lib.parseUintM 4294967295 a l= .ok (ej a l):=by
 induction l with
 |nil=>intro a _;rfl
 |cons c r ba=>
  intro a h;have aw:=hd c bX;unfold jM at aw;rw [yC] at h⊢;have U:a*10+(c.toNat-48)≤4294967295:=by refine dN ?_ h;rw [FY r];have:(a*10+(c.toNat-48))*1≤(a*10+(c.toNat-48))*10^r.length:=hz _ (Nat.one_le_pow _ _ aT);omega
  have i:=ba (fun x ar=>hd x (by simp [ar])) _ h;unfold Lib.parseUintM;rw [aA J,ax J,ax J];exact i
theorem C6 {l:List UInt8}(aU:l≠[])(hd: ∀c∈l,jM c)(k8:l.length≤9):Lib.parseUintB 32 l= .ok (ej 0 l)∧ej 0 l<1000000000:=by have bD:=Kd hd;have aF:10^l.length≤10^9:=fF aT k8;have Hf:(10:Nat)^9=1000000000:=aT;rw [Hf] at aF;unfold Lib.parseUintB;rw [ax aU];have abA:(2:Nat)^32-1=4294967295:=aT;rw [abA];exact ⟨ahM hd 0 J,J⟩
theorem Ws: ∀(ls:List (List UInt8)),Lib.join ls []=ls.flatten
 |[]=>rfl
 |x::r=>by rw [Lib.join_cons,List.flatten_cons];congr 1;unfold Lib.joinTail;congr 1;simp
end Go.aj.dn
namespace Go.aj.kD
def qo:Nat→Int
 |0=>1
 |n+1=>(n+1)*qo n
def iz {α:Type}(p:α→Bool):List α→Int
 |[]=> -1
 |x::r=>if p x then 0 else if iz p r<0 then-1 else iz p r+1
theorem XG {α:Type}(p:α→Bool)(l:List α)(h:iz p l<0):iz p l= -1:=by
 cases l with
 |nil=>rfl
 |cons x r=>
  simp only [iz] at h⊢;by_cases U:p x=true
  ·simp [U] at h
  ·by_cases ab:iz p r<0
   ·simp [U,ab]
   ·simp only [U,ab,hH,r9] at h;omega
theorem qz {α:Type}(p:α→Bool)(l:List α)(k:Nat)(h:(l.take k).any p=false)(an:k≤l.length):iz p l=if iz p (l.drop k)<0 then-1 else iz p (l.drop k)+k:=by
 induction k generalizing l with
 |zero=>
  simp only [sd];split
  ·exact XG p l h1
  ·omega
 |succ k ba=>cases l with
  |nil=>simp at an
  |cons x r=>
   simp only [List.take_succ_cons,List.any_cons,Bool.or_eq_false_iff] at h;have:=ba r h.2 (by simpa using an);simp only [iz,h.1,List.drop_succ_cons,r9,hH];rw [this];split<;>split<;>omega
theorem C4 {α:Type}(p:α→Bool)(l:List α):decide (0≤iz p l)=l.any p:=by
 induction l with
 |nil=>rfl
 |cons x r ba=>
  simp only [iz,List.any_cons];by_cases U:p x=true
  ·simp [U]
  ·simp only [td] at U;simp only [U,r9,hH,Bq];rw [←ba];by_cases ab:iz p r<0
   ·rw [aA ab];simp;omega
   ·rw [ax ab];congr 1;simp;omega
theorem fO {l:List Int}{i j:Nat}{v:Int}(aa:i<l.length):(l.set i v).getD j 0=if j=i then v else l.getD j 0:=by
 by_cases h:j=i
 ·subst h;simp [List.getD,aa]
 ·simp only [List.getD,h,hH];rw [lV (fun e=>h e.symm)]
def less (l:List Int)(i:Nat):List Int:=l.set i (l.getD i 0-1)
theorem pX {l:List Int}{i:Nat}(aa:i<l.length):(less l i).set i ((less l i).getD i 0+1)=l:=by
 unfold less;rw [fO aa,aA rfl,xA];have:l.getD i 0-1+1=l[i]:=by rw [tX 0 aa];omega
 rw [this,List.set_getElem_self]
end Go.aj.kD
namespace Go.aj.eP
open Go.aj.kD
def qn (v y:Int):Bool:=decide (v=y)
end Go.aj.eP
namespace Go.aj.eP
open Go.aj.kD
end Go.aj.eP
namespace Go.aj.eP
open Go.aj.kD
end Go.aj.eP
namespace Go.aj.dn
open Go.aj.r7 (jM)
def vu (s:List UInt8):Bool:=decide (s≠[]) && s.all dg && (decide (s.getD 0 0≠48)||decide (s.length=1))
theorem CD {s:List UInt8}:vu s=true↔vA s:=by
 unfold vu vA;simp only [eb,vT,eL,qh,abi];constructor
 ·rintro ⟨⟨U,ab⟩,ay⟩;exact ⟨U,ab,ay⟩
 ·rintro ⟨U,ab,ay⟩;exact ⟨⟨U,ab⟩,ay⟩
theorem KC {s:List UInt8}(h:vA s){k:Nat}(au:s.length≤k):(a6 (ej 0 s)).length≤k:=by refine oo (gL (Kd h.2.1) ?_);exact dN (fF aT au) (xB aT k)
def It:Nat→Nat
 |0=>1
 |k+1=>10*It k
theorem Y0: ∀k,It k=10^k
 |0=>rfl
 |k+1=>by rw [It,Y0 k,ic,hj]
def K4:Nat:=It 2000
theorem QS:K4=10^2000:=Y0 2000
theorem QT {n:Nat}(h:n<K4):(Lib.decDigits n).length≤2000:=by
 rw [QS] at h
 revert h
 generalize an:2000=k;intro h;exact Fp J h
theorem Ti {n k:Nat}(h:n<10^k)(an:k≤2000):n<K4:=by
 rw [QS]
 revert an
 generalize 2000=j;intro an;exact gL h (fF aT an)
theorem AS {m n j k:Nat}(hm:m<10^j)(aI:n<10^k):m*n<10^(j+k):=by rw [iI];exact Nat.mul_lt_mul'' hm aI
theorem ZD {m n k:Nat}(hm:m<10^k)(aI:n<10^k):m+n<10^(k+1):=by rw [ic];omega
def fB:Nat→Nat→Nat
 |_,0=>1
 |0,_+1=>0
 |n+1,k+1=>fB n k+fB n (k+1)
end Go.aj.dn
namespace Go.aj.cX
open Go.aj.dn
theorem J3 (n:Int)(d:Nat)(hd:d≠0):(Rat.divInt n d).num.natAbs=n.natAbs/Nat.gcd n.natAbs d∧(Rat.divInt n d).den=d/Nat.gcd n.natAbs d∧((Rat.divInt n d).num<0↔n<0):=by
 have e:Rat.divInt n d=Rat.normalize n d hd:=by rw [Rat.divInt_ofNat,←Rat.normalize_eq_mkRat]
 have c2:0<Nat.gcd n.natAbs d:=Nat.gcd_pos_of_pos_right _ J;have HB:(Nat.gcd n.natAbs d:Int)∣n:=by rw [Int.ofNat_dvd_left];exact Nat.gcd_dvd_left _ _
 rw [e,Rat.num_normalize,Rat.den_normalize];obtain ⟨q,aB⟩:=HB;generalize Nat.gcd n.natAbs d=g at*;refine ⟨?_,I,?_⟩
 ·rw [aB,GX _ J,kh,k4,Nat.mul_div_cancel_left _ c2]
 ·rw [aB,GX _ J];constructor
  ·intro h;exact Int.mul_neg_of_pos_of_neg J h
  ·intro h;rcases Int.lt_or_le q 0 with z|z
   ·exact z
   ·exact absurd h (Int.not_lt.2 (vU J z))
theorem N9 (n d:Int)(hd:d≠0):(Rat.divInt n d).num.natAbs=n.natAbs/Nat.gcd n.natAbs d.natAbs∧(Rat.divInt n d).den=d.natAbs/Nat.gcd n.natAbs d.natAbs∧((Rat.divInt n d).num<0↔n≠0∧((n<0∧ ¬d<0)∨(¬n<0∧d<0))):=by
 rcases Int.lt_or_le d 0 with h|h
 ·obtain ⟨m,rfl⟩: ∃m:Nat,d= -(m:Int):=⟨d.natAbs,J⟩
  have e:Rat.divInt n (-(m:Int))=Rat.divInt (-n) m:=Rat.divInt_neg' n m;obtain ⟨U,ab,ay⟩:=J3 (-n) m J;rw [e];rw [se] at U ab;rw [se,k4];exact ⟨U,ab,ay.trans J⟩
 ·obtain ⟨m,rfl⟩: ∃m:Nat,d=(m:Int):=⟨d.natAbs,J⟩
  obtain ⟨U,ab,ay⟩:=J3 n m J;rw [k4];exact ⟨U,ab,ay.trans J⟩
theorem O7 (p q:Rat):Rat.divInt (p.num*q.den+q.num*p.den) ((p.den*q.den:Nat):Int)=p+q:=by rw [Rat.add_def',Rat.divInt_ofNat]
theorem XL (p q:Rat):Rat.divInt (p.num*q.num) ((p.den*q.den:Nat):Int)=p*q:=by rw [Rat.mul_def',Rat.divInt_ofNat]
theorem Xx (p q:Rat)(aB:q≠0):Rat.divInt (p.num*q.den) (q.num*p.den)=p/q:=by
 have aI:q.num≠0:=fun h=>aB (Rat.num_eq_zero.1 h);have aF:(p.den:Int)≠0:=by have:=p.den_nz;omega
 have afi:(q.den:Int)≠0:=by have:=q.den_nz;omega
 have U:Rat.divInt (p.num*q.den) (q.num*p.den)*q=p:=by
  conv=>lhs;rhs;rw [←Rat.num_divInt_den q]
  rw [Rat.divInt_mul_divInt]
  conv=>rhs;rw [←Rat.num_divInt_den p]
  rw [Rat.divInt_eq_divInt_iff (Int.mul_ne_zero (Int.mul_ne_zero aI aF) afi) aF]
  ac_rfl
 rw [←U,Rat.mul_div_cancel aB];rw [U]
def kr (x:Int):Int:=if x<0 then-1 else if x=0 then 0 else 1
def uC (p q:Rat):Int:=if p<q then-1 else if p=q then 0 else 1
theorem ajI (p q:Rat):kr (p.num*q.den-q.num*p.den)=uC p q:=by
 unfold kr uC;have U:p<q↔p.num*q.den-q.num*p.den<0:=by rw [Rat.lt_iff];omega
 have ab:p=q↔p.num*q.den-q.num*p.den=0:=by rw [Rat.eq_iff_mul_eq_mul];omega
 simp only [U,ab]
def k0 (b:Bool)(n:Nat):Int:=if b then-(n:Int) else n
theorem AK (b:Bool)(n:Nat):(k0 b n).natAbs=n:=by unfold k0;split<;>omega
theorem PQ (b:Bool)(n:Nat):decide (k0 b n<0)=(b && decide (n≠0)):=by
 unfold k0;cases b
 ·simp<;>try omega
 ·simp only [gf,mM];rw [te];omega
theorem apu (x:Int):k0 (decide (x<0)) x.natAbs=x:=by
 unfold k0;by_cases h:x<0
 ·simp [h];omega
 ·simp [h];omega
end Go.aj.cX
namespace Go.aj.cX
open Go.aj.dn
open Go.aj.r7 (jM yx vf iq YJ YI IZ)
def jc:List UInt8→Bool
 |c::_=>decide (c=45)
 |[]=>false
def pe (s:List UInt8):List UInt8:=if jc s then s.drop 1 else s
def kA (s:List UInt8):List UInt8:=(iq 47 (pe s)).1
def kz (s:List UInt8):List UInt8:=(iq 47 (pe s)).2.1
def nO (s:List UInt8):Bool:=(iq 47 (pe s)).2.2
def jO (s:List UInt8):Int:=
 if vu (kA s)=false∨(nO s=true∧vu (kz s)=false)∨(jc s=true∧kA s=[48]) then 5
 else if 2000<(kA s).length∨2000<(kz s).length then 2
 else if nO s=true∧(kz s=[48]∨kz s=[49]∨Nat.gcd (ej 0 (kA s)) (ej 0 (kz s))≠1) then 3 else 0
def uj (s:List UInt8):Nat:=if nO s then ej 0 (kz s) else 1
def cE (s:List UInt8):Rat:=Rat.divInt (k0 (jc s) (ej 0 (kA s))) (uj s:Nat)
def dm (q:Rat):List UInt8:=(if q.num<0 then [45] else [])++(Lib.decDigits q.num.natAbs++(if q.den=1 then [] else 47::Lib.decDigits q.den))
def eS (q:Rat):Bool:=decide ((Lib.decDigits q.num.natAbs).length≤2000) && decide ((Lib.decDigits q.den).length≤2000)
def qb (q:Rat):List UInt8×Int:=if eS q then (dm q,0) else ([],2)
theorem VS (b:UInt8): ∀l:List UInt8,l=(iq b l).1++(if (iq b l).2.2 then b::(iq b l).2.1 else [])
 |[]=>rfl
 |c::r=>by
  rw [iq];split
  ·rename_i h;subst h;simp
  ·have:=VS b r;simp only [oN,List.cons.injEq,true_and];exact this
structure DN (s:List UInt8)(q:Rat):Prop where
 num:q.num=k0 (jc s) (ej 0 (kA s))
 den:q.den=uj s
 tm:vA (kA s)
 q9:nO s=true→vA (kz s)∧ej 0 (kz s)≠0∧ej 0 (kz s)≠1
 h3:(kA s).length≤2000
 Ij:(kz s).length≤2000
 ye:jc s=true→ej 0 (kA s)≠0
theorem Qh {s:List UInt8}{n:Nat}(aw:vA s)(aI:n<10)(h:ej 0 s=n):s=[UInt8.ofNat (48+n)]:=by rw [←CY aw,h,Lib.decDigits_one aI]
theorem Dg {s:List UInt8}(h:nO s=false):uj s=1:=by unfold uj;rw [h];rfl
theorem C0 {s:List UInt8}(h:nO s=true):uj s=ej 0 (kz s):=by unfold uj;rw [h];rfl
theorem FJ {s:List UInt8}(h:jO s=0):DN s (cE s):=by
 unfold jO at h;split at h
 ·omega
 split at h
 ·omega
 split at h
 ·omega
 rename_i U ab ay;simp only [not_or,not_and,Bool.not_eq_false] at U ab ay;obtain ⟨gy,a2,a3⟩:=U;have tm:=CD.1 gy;have q9:nO s=true→vA (kz s)∧ej 0 (kz s)≠0∧ej 0 (kz s)≠1:=fun hd=>by have c:=CD.1 (a2 hd);exact ⟨c,fun e=>(ay hd).1 (Qh c aT e),fun e=>(ay hd).2.1 (Qh c aT e)⟩
 have wg:uj s≠0:=by
  cases e:nO s
  ·rw [Dg e];decide
  ·rw [C0 e];exact (q9 e).2.1
 have c2:Nat.gcd (ej 0 (kA s)) (uj s)=1:=by
  cases e:nO s
  ·rw [Dg e];exact Nat.gcd_one_right _
  ·rw [C0 e];exact e0.1 (ay e).2.2
 obtain ⟨aH,aJ,bR⟩:=J3 (k0 (jc s) (ej 0 (kA s))) (uj s) wg;rw [AK,c2,Nat.div_one] at aH;rw [AK,c2,Nat.div_one] at aJ;refine ⟨?_,aJ,tm,q9,J,J,fun aI e=>a3 aI (Qh tm aT e)⟩;show (Rat.divInt _ _).num=_;have:=AK (jc s) (ej 0 (kA s));omega
theorem ahj {s:List UInt8}:s=(if jc s then [45] else [])++pe s:=by
 unfold pe;cases s with
 |nil=>rfl
 |cons c r=>
  unfold jc;by_cases h:c=45
  ·subst h;rfl
  ·simp [h]
theorem DN.text {s:List UInt8}{q:Rat}(h:DN s q):dm q=s:=by
 conv=>rhs;rw [ahj (s:=s),VS 47 (pe s)]
 change dm q=_++(kA s++if nO s then 47::kz s else [])
 unfold dm;rw [h.num,h.den,AK,CY h.tm];congr 1
 ·have:=PQ (jc s) (ej 0 (kA s));cases e:jc s
  ·rw [e] at this;simp at this;rw [ax (by simpa [e] using this)];rfl
  ·rw [e] at this;have aI:=h.ye e;simp [aI] at this;rw [aA this];rfl
 ·congr 1;cases e:nO s
  ·rw [Dg e];rfl
  ·obtain ⟨c,n6,dk⟩:=h.q9 e;rw [C0 e,ax dk,CY c];rfl
theorem Xf (q:Rat):jc (dm q)=decide (q.num<0)∧pe (dm q)=Lib.decDigits q.num.natAbs++(if q.den=1 then [] else 47::Lib.decDigits q.den):=by
 have cd:=vf q.num.natAbs;have RG:=IZ q.num.natAbs 45 aT;unfold pe dm;by_cases h:q.num<0
 ·simp [h,jc]
 ·have:jc (Lib.decDigits q.num.natAbs++(if q.den=1 then [] else 47::Lib.decDigits q.den))=false:=by
   cases e:Lib.decDigits q.num.natAbs with
   |nil=>exact absurd e cd
   |cons c r=>
    rw [e] at RG;have:c≠45:=fun e=>RG (by simp [e]);simp [jc,this]
  simp [h,this]
theorem Pj (q:Rat):iq 47 (pe (dm q))=(Lib.decDigits q.num.natAbs,(if q.den=1 then [] else Lib.decDigits q.den),decide (q.den≠1)):=by
 rw [(Xf q).2];by_cases h:q.den=1
 ·rw [aA h,aA h,k2,YJ (IZ _ 47 aT)];simp [h]
 ·rw [ax h,ax h,YI (IZ _ 47 aT)];simp [h]
theorem aiG {q:Rat}(h:eS q=true):jO (dm q)=0∧cE (dm q)=q:=by
 have aH:kA (dm q)=Lib.decDigits q.num.natAbs:=by unfold kA;rw [Pj]
 have aJ:kz (dm q)=if q.den=1 then [] else Lib.decDigits q.den:=by unfold kz;rw [Pj]
 have bR:nO (dm q)=decide (q.den≠1):=by unfold nO;rw [Pj]
 have jw:=(Xf q).1;unfold eS at h;rw [eb,eL,eL] at h;constructor
 ·unfold jO;rw [aH,aJ,bR,jw,tO,CD.2 (IT _)];have g1: ¬(true=false∨(decide (q.den≠1)=true∧vu (if q.den=1 then [] else Lib.decDigits q.den)=false)∨(decide (q.num<0)=true∧Lib.decDigits q.num.natAbs=[48])):=by
   rintro (g|⟨g1,g2⟩|⟨g1,g2⟩)
   ·cases g
   ·rw [eL] at g1;rw [ax g1,CD.2 (IT _)] at g2;cases g2
   ·rw [eL] at g1;have:q.num.natAbs=0:=NK (by rw [g2,Lib.decDigits_one aT];rfl);omega
  have g2: ¬(2000<(Lib.decDigits q.num.natAbs).length∨2000<(if q.den=1 then [] else Lib.decDigits q.den:List UInt8).length):=by
   rintro (g|g)
   ·omega
   ·split at g
    ·simp at g
    ·omega
  have g3: ¬(decide (q.den≠1)=true∧((if q.den=1 then [] else Lib.decDigits q.den)=[48]∨(if q.den=1 then [] else Lib.decDigits q.den)=[49]∨Nat.gcd q.num.natAbs (ej 0 (if q.den=1 then [] else Lib.decDigits q.den))≠1)):=by
   rintro ⟨g,g3⟩;rw [eL] at g;rw [ax g] at g3;rw [tO] at g3;rcases g3 with g3|g3|g3
   ·have:q.den=0:=NK (by rw [g3,Lib.decDigits_one aT];rfl);exact q.den_nz this
   ·exact g (NK (by rw [g3,Lib.decDigits_one aT];rfl))
   ·exact g3 q.reduced
  rw [ax g1,ax g2,ax g3]
 ·unfold cE;have zz:uj (dm q)=q.den:=by
   unfold uj;rw [bR,aJ];by_cases g:q.den=1
   ·simp [g]
   ·simp [g,tO]
  rw [aH,jw,zz,tO,apu];exact Rat.num_divInt_den q
def oz:List (List UInt8)→Int
 |[]=>0
 |s::r=>if jO s=0 then oz r else jO s
theorem rB: ∀{l:List (List UInt8)},oz l=0→ ∀s∈l,jO s=0
 |[],_,s,h=>by simp at h
 |a::r,h,s,av=>by
  rw [oz] at h;split at h
  ·rename_i U;rcases fS.1 av with e|e
   ·rw [e];exact U
   ·exact rB h s e
  ·contradiction
theorem P2: ∀{l:List (List UInt8)},(∀s∈l,jO s=0)→oz l=0
 |[],_=>rfl
 |a::r,h=>by rw [oz,aA (h a bX)];exact P2 (fun s av=>h s (by simp [av]))
def lp (l:List Rat):List (List UInt8)×Int:=if l.all eS then (l.map dm,0) else ([],2)
def uk:Rat→List Rat→Rat×Int
 |acc,[]=>(acc,0)
 |acc,q::r=>if eS (acc+q) then uk (acc+q) r else (acc+q,2)
def r4 (l:List (List UInt8)):Rat×Int:=if 256<l.length then (0,2) else if oz l=0 then uk 0 (l.map cE) else (0,oz l)
def Ci (l:List (List UInt8)):Int:=if (r4 l).2=0∧l.any jc=true then 4 else (r4 l).2
def nL (l:List (List UInt8)):Int:=if Ci l=0 then (if uC (r4 l).1 1=0 then 0 else 3) else Ci l
def La (x:List Rat):Nat→Nat
 |0=>0
 |k+1=>if 0<uC (x.getD k 0) (x.getD (La x k) 0) then k else La x k
def GF (l:List (List UInt8)):Int×Int:=if 256<l.length then (0,2) else if l=[] then (0,8) else if oz l=0 then ((La (l.map cE) l.length:Nat),0) else (0,oz l)
theorem YP {q:Rat}(h:eS q=true):(a6 q.num.natAbs).length≤2000∧(a6 q.den).length≤2000:=by
 unfold eS at h;rw [eb,eL,eL] at h;have key: ∀(n m:Nat),(Lib.decDigits n).length≤m→(a6 n).length≤m:=fun n m au=>by refine oo (gL (yE n) ?_);exact dN (fF aT au) (xB aT m)
 exact ⟨key _ _ h.1,key _ _ h.2⟩
end Go.aj.cX
namespace Go.aj.cX
open Go.aj.dn
theorem DN.fit {s:List UInt8}{q:Rat}(h:DN s q):eS q=true:=by
 unfold eS;rw [eb,eL,eL,h.num,h.den,AK,CY h.tm];refine ⟨h.h3,?_⟩;cases e:nO s
 ·rw [Dg e,Lib.decDigits_one aT];decide
 ·rw [C0 e,CY (h.q9 e).1];exact h.Ij
def kg (s:List UInt8)(q:Rat):Prop:=jO s=0∧cE s=q
instance (s:List UInt8)(q:Rat):Decidable (kg s q):=inferInstanceAs (Decidable (_∧_))
theorem kg.self {s:List UInt8}(h:jO s=0):kg s (cE s):=⟨h,rfl⟩
theorem kg.text {s:List UInt8}{q:Rat}(h:kg s q):dm q=s:=by
 have:=(FJ h.1).text
 rwa [h.2] at this
theorem kg.fit {s:List UInt8}{q:Rat}(h:kg s q):eS q=true:=by
 have:=(FJ h.1).fit
 rwa [h.2] at this
theorem Gt {q:Rat}(h:eS q=true):kg (dm q) q:=aiG h
theorem kg.out {s:List UInt8}{q:Rat}(h:kg s q):qb q=(s,0):=by unfold qb;rw [aA h.fit,h.text]
def D (k:Nat)(q:Rat):Prop:=q.num.natAbs<10^k∧q.den<10^k
theorem D.mono {j k:Nat}{q:Rat}(h:D j q)(an:j≤k):D k q:=
 ⟨gL h.1 (fF aT an),gL h.2 (fF aT an)⟩
theorem D.fit {k:Nat}{q:Rat}(h:D k q)(an:k≤2000):eS q=true:=by unfold eS;rw [eb,eL,eL];exact ⟨QT (Ti h.1 an),QT (Ti h.2 an)⟩
theorem kg.nu {s:List UInt8}{q:Rat}(h:kg s q){k:Nat}(an:s.length≤k)(U:1≤k):D k q:=by
 have bu:=h.text;have au:(dm q).length≤k:=by rw [bu];exact an
 unfold dm at au;rw [c8,c8] at au;refine ⟨gL (yE _) (fF aT J),?_⟩;by_cases hd:q.den=1
 ·rw [hd];exact gL (show 1<10^1 by decide) (fF aT U)
 ·rw [ax hd,gK] at au;exact gL (yE _) (fF aT J)
theorem xd {n d:Int}{k:Nat}(hd:d≠0)(U:n.natAbs<10^k)(ab:d.natAbs<10^k):D k (Rat.divInt n d):=by
 obtain ⟨aH,aJ,_⟩:=N9 n d hd;refine ⟨?_,?_⟩
 ·rw [aH];exact q5 (vO _ _) U
 ·rw [aJ];exact q5 (vO _ _) ab
theorem D.add {p q:Rat}{j k:Nat}(aF:D j p)(aB:D k q):D (j+k+1) (p+q):=by
 rw [←O7];have gy:=AS aF.1 aB.2;have a2:=AS aB.1 aF.2;rw [oO k j] at a2;have a3:=AS aF.2 aB.2;refine xd (by have:=DX p.den_nz q.den_nz;omega) ?_ ?_
 ·have h:=Int.natAbs_add_le (p.num*q.den) (q.num*p.den);rw [kh,kh,k4,k4] at h;exact q5 h (ZD gy a2)
 ·rw [k4];exact gL a3 (fF aT J)
theorem D.neg {q:Rat}{k:Nat}(h:D k q):D k (-q):=by refine ⟨?_,h.2⟩;show (-q.num).natAbs<_;rw [se];exact h.1
theorem D.mul {p q:Rat}{j k:Nat}(aF:D j p)(aB:D k q):D (j+k) (p*q):=by
 rw [←XL];refine xd (by have:=DX p.den_nz q.den_nz;omega) ?_ ?_
 ·rw [kh];exact AS aF.1 aB.1
 ·rw [k4];exact AS aF.2 aB.2
theorem D.div {p q:Rat}{j k:Nat}(aF:D j p)(aB:D k q)(aU:q≠0):D (j+k) (p/q):=by
 have aI:q.num≠0:=fun h=>aU (Rat.num_eq_zero.1 h);rw [←Xx p q aU];refine xd (Int.mul_ne_zero aI (by have:=p.den_nz;omega)) ?_ ?_
 ·rw [kh,k4];exact AS aF.1 aB.2
 ·rw [kh,k4,oO];exact AS aB.1 aF.2
theorem aoW {s:List UInt8}(h:jO s=0):jc s=false↔0≤cE s:=by
 have aF:=FJ h;have U:=PQ (jc s) (ej 0 (kA s));rw [←aF.num] at U;rw [←Rat.num_nonneg];cases e:jc s
 ·rw [e] at U;simp at U;simpa using U
 ·have ab:(cE s).num<0:=by have ay:=aF.ye e;rw [e] at U;simpa [ay] using U
  exact ⟨fun q=>absurd q aT,fun q=>absurd ab J⟩
def b3 (f:Nat→Rat):Nat→Rat
 |0=>0
 |n+1=>b3 f n+f n
theorem e4 {f g:Nat→Rat}: ∀{n:Nat},(∀i,i<n→f i=g i)→b3 f n=b3 g n
 |0,_=>rfl
 |n+1,h=>by rw [b3,b3,e4 (fun i aa=>h i J),h n J]
theorem pW: ∀n:Nat,b3 (fun _=>0) n=0
 |0=>rfl
 |n+1=>by rw [b3,pW n,je]
theorem vl (f g:Nat→Rat): ∀n:Nat,b3 (fun i=>f i+g i) n=b3 f n+b3 g n
 |0=>by rw [b3,b3,b3,je]
 |n+1=>by rw [b3,b3,b3,vl f g n];rw [xC,xC,←xC (b3 g n),Rat.add_comm (b3 g n) (f n),xC]
theorem tS (c:Rat)(f:Nat→Rat): ∀n:Nat,b3 (fun i=>c*f i) n=c*b3 f n
 |0=>by rw [b3,b3,uv]
 |n+1=>by rw [b3,b3,tS c f n,Rat.mul_add]
theorem FM (c:Rat)(f:Nat→Rat): ∀n:Nat,b3 (fun i=>f i*c) n=b3 f n*c
 |0=>by rw [b3,b3,nq]
 |n+1=>by rw [b3,b3,FM c f n,Rat.add_mul]
theorem OT (f:Nat→Nat→Rat)(m:Nat): ∀n:Nat,b3 (fun i=>b3 (fun j=>f i j) m) n=b3 (fun j=>b3 (fun i=>f i j) n) m
 |0=>by show (0:Rat)=b3 (fun j=>0) m;rw [pW]
 |n+1=>by rw [b3,OT f m n,←vl];exact e4 (fun i _=>rfl)
theorem NW {f:Nat→Rat}: ∀{n:Nat},(∀i,i<n→0≤f i)→0≤b3 f n
 |0,_=>Rat.le_refl
 |n+1,h=>by rw [b3];exact Rat.add_nonneg (NW (fun i aa=>h i J)) (h n J)
theorem QE {j:Nat}{f:Nat→Rat}: ∀{n:Nat},(∀i,i<n→D j (f i))→D (1+n*(j+1)) (b3 f n)
 |0,_=>by rw [sb];exact ⟨by show (0:Rat).num.natAbs<_;decide,by show (0:Rat).den<_;decide⟩
 |n+1,h=>by rw [b3];have:=(QE (n:=n) (fun i aa=>h i J)).add (h n J);refine this.mono ?_;rw [dK];omega
def eC (a b:List Rat):Rat:=b3 (fun i=>a.getD i 0*b.getD i 0) a.length
def r0 (m:List (List Rat))(k:Nat):List Rat:=m.map (fun row=>row.getD k 0)
def aaR (m:List (List Rat))(w:Nat):List (List Rat):=(List.range w).map (r0 m)
def To (a b:List (List Rat))(w:Nat):List (List Rat):=a.map (fun row=>(aaR b w).map (eC row))
def rL (m:List (List Rat))(v:List Rat):List Rat:=m.map (fun row=>eC row v)
theorem Pe (m:List (List Rat))(k i:Nat):(r0 m k).getD i 0=(m.getD i []).getD k 0:=by
 unfold r0;by_cases h:i<m.length
 ·simp [List.getD,h]
 ·simp [List.getD,h]
theorem Xr (m:List (List Rat))(k:Nat):(r0 m k).length=m.length:=by simp [r0]
theorem mY {α β:Type}(f:α→β)(l:List α)(d:α)(e:β)(i:Nat)(aa:i<l.length):(l.map f).getD i e=f (l.getD i d):=by simp [List.getD,aa]
theorem sJ {a b:List Rat}{n:Nat}(h:a.length=n):eC a b=b3 (fun i=>a.getD i 0*b.getD i 0) n:=by unfold eC;rw [h]
theorem amq (m:List (List Rat))(v:List Rat){i:Nat}(aa:i<m.length):(rL m v).getD i 0=eC (m.getD i []) v:=by unfold rL;rw [mY _ _ [] _ _ aa]
theorem Qu {a b:List Rat}{j k:Nat}(a8: ∀x∈a,D j x)(al: ∀x∈b,D k x)(au:a.length≤b.length):D (1+a.length*(j+k+1)) (eC a b):=by refine QE (fun i aa=>(a8 _ (by simp [List.getD,aa])).mul (al _ (by simp [List.getD,show i<b.length by omega])))
abbrev di:=List UInt8
def kf (v:List di):Int:=if 40<v.length then 2 else oz v
def xj (w:Nat):List (List di)→Int
 |[]=>0
 |r::rs=>if r.length=w then (if kf r=0 then xj w rs else kf r) else 3
def nR (m:List (List di)):Nat:=(m.getD 0 []).length
def qX (m:List (List di)):Int:=if 40<m.length then 2 else xj (nR m) m
def lf (m:List (List di)):List (List Rat):=m.map (fun r=>r.map cE)
def Nf (q:List (List Rat)):List (List di)×Int:=if q.all (fun r=>r.all eS) then (q.map (fun r=>r.map dm),0) else ([],2)
def r1 (a b:List di):di×Int:=if kf a≠0 then ([],kf a) else if kf b≠0 then ([],kf b) else if a.length=b.length then qb (eC (a.map cE) (b.map cE)) else ([],3)
def rM (m:List (List di))(v:List di):List di×Int:=if qX m≠0 then ([],qX m) else if kf v≠0 then ([],kf v) else if m≠[]∧nR m≠v.length then ([],3) else lp (rL (lf m) (v.map cE))
def mulR (a b:List (List di)):List (List di)×Int:=if qX a≠0 then ([],qX a) else if qX b≠0 then ([],qX b) else if nR a=b.length then Nf (To (lf a) (lf b) (nR b)) else ([],3)
theorem CX {v:List di}(h:kf v=0):v.length≤40∧oz v=0:=by
 unfold kf at h;split at h
 ·cases h
 ·exact ⟨J,h⟩
theorem VH {w:Nat}: ∀{m:List (List di)},xj w m=0→ ∀r∈m,r.length=w∧kf r=0
 |[],_,r,ad=>by simp at ad
 |a::m,h,r,ad=>by
  rw [xj] at h;split at h
  ·rename_i U;split at h
   ·rename_i ab;rcases fS.1 ad with rfl|ad
    ·exact ⟨U,ab⟩
    ·exact VH h r ad
   ·contradiction
  ·cases h
theorem X5 {w:Nat}: ∀{m:List (List di)},(∀r∈m,r.length=w∧kf r=0)→xj w m=0
 |[],_=>rfl
 |a::m,h=>by rw [xj,aA (h a bX).1,aA (h a bX).2];exact X5 (fun r ad=>h r (by simp [ad]))
structure Bc (m:List (List di))(p q:Nat):Prop where
 rows:m.length=p
 lA: ∀r∈m,r.length=q
 sp:p≤40
 bp:m≠[]→q≤40
 ok: ∀r∈m,∀s∈r,jO s=0
theorem Wx {m:List (List di)}(h:qX m=0):Bc m m.length (nR m):=by
 unfold qX at h;split at h
 ·cases h
 ·have U:=VH h;refine ⟨I,fun r ad=>(U r ad).1,J,fun cd=> ?_,fun r ad s av=>rB (CX (U r ad).2).2 s av⟩;obtain ⟨a,kp,rfl⟩:=List.exists_cons_of_ne_nil cd;have ab:=U a bX;have:=(CX ab.2).1;omega
theorem agS {m:List (List di)}{p q:Nat}(h:Bc m p q):qX m=0:=by
 unfold qX;rw [ax (by have:=h.rows;have:=h.sp;omega)];cases m with
 |nil=>rfl
 |cons a kp=>
  have hw:nR (a::kp)=q:=h.lA a bX;rw [hw];refine X5 (fun r ad=>⟨h.lA r ad,?_⟩);unfold kf;rw [ax (by have:=h.lA r ad;have:=h.bp bX;omega)];exact P2 (fun s av=>h.ok r ad s av)
theorem Bc.wid {m:List (List di)}{p q:Nat}(h:Bc m p q)(cd:m≠[]):nR m=q:=by obtain ⟨a,kp,rfl⟩:=List.exists_cons_of_ne_nil cd;exact h.lA a bX
theorem agj {q:List (List Rat)}{p w:Nat}(U:q.length=p)(ab: ∀r∈q,r.length=w)(aF:p≤40)(hw:w≤40)(aQ: ∀r∈q,∀x∈r,eS x=true):Nf q=(q.map (fun r=>r.map dm),0)∧Bc (q.map (fun r=>r.map dm)) p w∧lf (q.map (fun r=>r.map dm))=q:=by
 refine ⟨?_,⟨by simpa using U,fun r ad=> ?_,aF,fun _=>hw,fun r ad s av=> ?_⟩,?_⟩
 ·unfold Nf;rw [aA (by simpa [qh] using aQ)]
 ·obtain ⟨x,ar,rfl⟩:=cO.1 ad;rw [cr];exact ab x ar
 ·obtain ⟨x,ar,rfl⟩:=cO.1 ad;obtain ⟨y,a1,rfl⟩:=cO.1 av;exact (Gt (aQ x ar y a1)).1
 ·unfold lf;rw [xD]
  conv=>rhs;rw [←List.map_id q]
  refine k5 (fun r ad=> ?_);simp only [Function.comp,xD,id]
  conv=>rhs;rw [←List.map_id r]
  exact k5 (fun x ar=>(Gt (aQ r ad x ar)).2)
theorem YW (m:List (List di)):(lf m).length=m.length:=by simp [lf]
structure Prod (a b:List (List di))(t:List (List di))(p q r K:Nat):Prop where
 res:mulR a b=(t,0)
 ok:Bc t p r
 val:lf t=To (lf a) (lf b) r
 nu: ∀x∈lf t,∀y∈x,D K y
end Go.aj.cX
namespace Go.aj.dZ
def cb (f:Nat→Int):Nat→Int
 |0=>0
 |n+1=>cb f n+f n
theorem hs {f g:Nat→Int}: ∀{n:Nat},(∀i,i<n→f i=g i)→cb f n=cb g n
 |0,_=>rfl
 |n+1,h=>by rw [cb,cb,hs (fun i aa=>h i J),h n J]
theorem vi {f:Nat→Int}: ∀{n:Nat},(∀i,i<n→f i=0)→cb f n=0
 |0,_=>rfl
 |n+1,h=>by rw [cb,vi (fun i aa=>h i J),h n J];rfl
theorem w8 (f g:Nat→Int): ∀n,cb (fun i=>f i+g i) n=cb f n+cb g n
 |0=>rfl
 |n+1=>by rw [cb,cb,cb,w8 f g n];omega
theorem o8 (c:Int)(f:Nat→Int): ∀n,cb (fun i=>c*f i) n=c*cb f n
 |0=>by rw [cb,cb,hR]
 |n+1=>by rw [cb,cb,o8 c f n,zp]
theorem yR {f:Nat→Int}{n:Nat}(k:Nat)(an:k<n)(h: ∀i,i<n→i≠k→f i=0):cb f n=f k:=by
 induction n with
 |zero=>omega
 |succ n ba=>
  rw [cb];by_cases EG:k=n
  ·subst EG;rw [vi (fun i aa=>h i J J)];omega
  ·rw [ba J (fun i aa cd=>h i J cd),h n J (fun e=>EG e.symm)];omega
theorem Yh {f:Nat→Int}{n:Nat}(k l:Nat)(an:k<n)(au:l<n)(aeC:k≠l)(h: ∀i,i<n→i≠k→i≠l→f i=0):cb f n=f k+f l:=by
 have e:cb f n=cb (fun i=>(if i=k then f k else 0)+(if i=k then 0 else f i)) n:=by
  refine hs (fun i aa=> ?_);by_cases rh:i=k
  ·subst rh;simp
  ·simp [rh]
 rw [e,w8];rw [yR k an (fun i aa cd=>by simp [cd]),yR l au (fun i aa cd=>by
  by_cases rh:i=k
  ·simp [rh]
  ·simp [rh];exact h i aa rh cd)]
 have: ¬l=k:=fun e=>aeC e.symm;simp [this]
abbrev V:=Nat→Int
abbrev iu:=Nat→V
def rq:Nat→Int
 |0=>1
 |n+1=> -rq n
def skip (i:Nat)(D:iu):iu:=fun a c=>D (if a<i then a else a+1) (c+1)
def et:Nat→iu→Int
 |0,_=>1
 |n+1,D=>cb (fun i=>rq i*(D i 0*et n (skip i D))) (n+1)
def put (D:iu)(r:Nat)(v:V):iu:=fun a=>if a=r then v else D a
theorem yD: ∀{n:Nat} {D E:iu},(∀a c,a<n→c<n→D a c=E a c)→et n D=et n E
 |0,_,_,_=>rfl
 |n+1,D,E,h=>by rw [et,et];refine hs (fun i aa=> ?_);rw [h i 0 aa J,yD (D:=skip i D) (E:=skip i E) (fun a c a8 aw=> ?_)];unfold skip;exact h _ _ (by split<;>omega) J
theorem Fq (D:iu)(r:Nat)(v:V):skip r (put D r v)=skip r D:=by
 funext a c;unfold skip put;have: ¬(if a<r then a else a+1)=r:=by split<;>omega
 rw [ax this]
theorem Gb {D:iu}{i r:Nat}{v:V}(h:i≠r):skip i (put D r v)=put (skip i D) (if r<i then r else r-1) (fun c=>v (c+1)):=by
 funext a c;unfold skip put;by_cases wz:r<i
 ·rw [aA wz];by_cases a8:a=r
  ·subst a8;rw [aA wz];simp
  ·by_cases Em:a<i
   ·simp [Em,a8]
   ·have: ¬a+1=r:=J;simp [Em,a8,this]
 ·rw [ax wz];by_cases a8:a=r-1
  ·subst a8;have U: ¬r-1<i:=J;have ab:r-1+1=r:=J;simp [U,ab]
  ·by_cases Em:a<i
   ·have: ¬a=r:=J;simp [Em,a8,this]
   ·have: ¬a+1=r:=J;simp [Em,a8,this]
theorem Ke: ∀(n:Nat) (D:iu) (r:Nat) (u v:V),r<n→et n (put D r (fun c=>u c+v c))=et n (put D r u)+et n (put D r v)
 |0,_,_,_,_,h=>absurd h (gg _)
 |n+1,D,r,u,v,h=>by
  rw [et,et,et,←w8];refine hs (fun i aa=> ?_);by_cases mV:i=r
  ·subst mV;rw [Fq,Fq,Fq];have e: ∀w:V,put D i w i 0=w 0:=fun w=>by simp [put]
   rw [e,e,e,Int.add_mul,zp]
  ·have e: ∀w:V,put D r w i 0=D i 0:=fun w=>by simp [put,mV]
   rw [Gb mV,Gb mV,Gb mV,e,e,e,Ke n _ _ _ _ (by split<;>omega),zp,zp]
theorem FZ: ∀(n:Nat) (D:iu) (r:Nat) (k:Int) (v:V),r<n→et n (put D r (fun c=>k*v c))=k*et n (put D r v)
 |0,_,_,_,_,h=>absurd h (gg _)
 |n+1,D,r,k,v,h=>by
  rw [et,et,←o8];refine hs (fun i aa=> ?_);by_cases mV:i=r
  ·subst mV;rw [Fq,Fq];have e: ∀w:V,put D i w i 0=w 0:=fun w=>by simp [put]
   rw [e,e,pA k,kJ]
  ·have e: ∀w:V,put D r w i 0=D i 0:=fun w=>by simp [put,mV]
   rw [Gb mV,Gb mV,e,e,FZ n _ _ _ _ (by split<;>omega),pA k,pA k]
theorem UK (n:Nat)(D:iu)(r:Nat)(h:r<n):et n (put D r (fun _=>0))=0:=by have:=FZ n D r 0 (fun _=>0) h;simpa using this
theorem P7: ∀(n:Nat) (D:iu) (r:Nat),r+1<n→(∀c,c<n→D r c=D (r+1) c)→et n D=0
 |0,_,_,h,_=>absurd h (gg _)
 |n+1,D,r,h,he=>by
  rw [et,Yh r (r+1) J h J (fun i aa U ab=> ?_)]
  ·have e:et n (skip r D)=et n (skip (r+1) D):=yD (fun a c a8 aw=>by
    unfold skip;by_cases U:a<r
    ·rw [aA U,aA J]
    ·rw [ax U];by_cases ab:a<r+1
     ·have:a=r:=J;subst this;rw [aA ab];exact (he _ J).symm
     ·rw [ax ab])
   rw [e,he 0 J,rq,uw];omega
  ·have:=P7 n (skip i D) (if r<i then r else r-1) (by split<;>omega) (fun c aw=>by
    unfold skip;by_cases wz:r<i
    ·rw [aA wz,aA (show r<i from wz),aA (show r+1<i by omega)];exact he _ J
    ·have aH: ¬r-1<i:=J;have aJ: ¬r-1+1<i:=J;rw [ax wz,ax aH,ax aJ,show r-1+1=r by omega];exact he _ J)
   rw [this,hR,hR]
theorem PE (D:iu){r s:Nat}(u v:V)(h:r≠s):put (put D r u) s v=put (put D s v) r u:=by
 funext a;unfold put;by_cases U:a=s
 ·have: ¬a=r:=fun e=>h (e.symm.trans U);simp [U];intro e;exact absurd e.symm h
 ·simp [U]
theorem PF (D:iu)(r:Nat):put D r (D r)=D:=by
 funext a;unfold put;split
 ·rename_i h;rw [h]
 ·rfl
theorem abf (n:Nat)(D:iu)(r:Nat)(u v:V)(h:r+1<n):et n (put (put D r u) (r+1) v)= -et n (put (put D r v) (r+1) u):=by
 have key: ∀w:V,et n (put (put D r w) (r+1) w)=0:=fun w=>P7 n _ r h (fun c _=>by unfold put;simp);have aU:=key (fun c=>u c+v c);have QU: ∀w:V,et n (put (put D r (fun c=>u c+v c)) (r+1) w)=et n (put (put D r u) (r+1) w)+et n (put (put D r v) (r+1) w):=fun w=>by rw [PE D _ w J,Ke n _ _ _ _ J,PE D u w J,PE D v w J]
 rw [Ke n _ _ _ _ h,QU,QU] at aU;have U:=key u;have ab:=key v;omega
theorem Qt: ∀(k:Nat) (n:Nat) (D:iu) (r:Nat),r+(k+1)<n→(∀c,c<n→D r c=D (r+(k+1)) c)→et n D=0
 |0,n,D,r,h,he=>P7 n D r h he
 |k+1,n,D,r,h,he=>by
  have e:D=put (put D (r+(k+1)) (D (r+(k+1)))) (r+(k+1)+1) (D (r+(k+1)+1)):=by rw [PF,PF]
  rw [e,abf n D (r+(k+1)) _ _ J,Qt k n _ r J (fun c aw=> ?_)]
  ·rfl
  ·have U: ¬r=r+(k+1)+1:=J;have ab: ¬r=r+(k+1):=J;have ay: ¬r+(k+1)=r+(k+1)+1:=J;unfold put;rw [ax U,ax ab,ax ay,aA rfl];exact he c aw
theorem abe (n:Nat)(D:iu){r s:Nat}(ad:r<n)(av:s<n)(cd:r≠s):et n (put D r (D s))=0:=by
 rcases Nat.lt_or_gt_of_ne cd with h|h
 ·refine Qt (s-r-1) n _ r J (fun c _=> ?_);rw [show r+(s-r-1+1)=s by omega];have: ¬s=r:=fun e=>cd e.symm;simp [put,this]
 ·refine Qt (r-s-1) n _ s J (fun c _=> ?_);rw [show s+(r-s-1+1)=r by omega];have: ¬s=r:=fun e=>cd e.symm;simp [put,this]
theorem Xv (n:Nat)(D:iu)(r:Nat)(ad:r<n)(t:V): ∀k,k≤n→et n (put D r (fun c=>cb (fun i=>t i*D i c) k))=if r<k then t r*et n D else 0
 |0,_=>by rw [ax (gg _)];exact UK n D r ad
 |k+1,an=>by
  have ba:=Xv n D r ad t k J;have e:(fun c=>cb (fun i=>t i*D i c) (k+1))=(fun c=>(fun c=>cb (fun i=>t i*D i c) k) c+(fun c=>t k*D k c) c):=rfl;rw [e,Ke n D r _ _ ad,ba,FZ n D r _ _ ad];by_cases Sp:k=r
  ·subst Sp;rw [ax J,aA J,PF];omega
  ·rw [abe n D ad J (fun e=>Sp e.symm),hR,ux];by_cases U:r<k
   ·rw [aA U,aA J]
   ·rw [ax U,ax J]
theorem IV {n:Nat}{D:iu}{r:Nat}(ad:r<n){t w:V}(h: ∀c,c<n→w c=cb (fun i=>t i*D i c) n):et n (put D r w)=t r*et n D:=by
 have:=Xv n D r ad t n (bT _);rw [aA ad] at this;rw [←this];refine yD (fun a c _ aw=> ?_);unfold put;split
 ·exact h c aw
 ·rfl
def Ba:iu:=fun a c=>if a=c then 1 else 0
theorem Xw: ∀n:Nat,et n Ba=1
 |0=>rfl
 |n+1=>by rw [et,yR 0 J (fun i aa cd=>by simp [Ba,cd])];have:et n (skip 0 Ba)=et n Ba:=yD (fun a c _ _=>by simp [skip,Ba]);rw [this,Xw n];simp [rq,Ba]
theorem U7 {f:Nat→Int}{B:Nat}: ∀{n:Nat},(∀i,i<n→(f i).natAbs≤B)→(cb f n).natAbs≤n*B
 |0,_=>by simp [cb]
 |n+1,h=>by rw [cb];have U:=U7 (n:=n) (fun i aa=>h i J);have ab:=h n J;have ay:=Int.natAbs_add_le (cb f n) (f n);rw [dK];omega
theorem T5: ∀n,(rq n).natAbs=1
 |0=>rfl
 |n+1=>by rw [rq,se,T5 n]
def qo:Nat→Nat
 |0=>1
 |n+1=>(n+1)*qo n
theorem OM {B:Nat}: ∀{n:Nat} {D:iu},(∀a c,a<n→c<n→(D a c).natAbs≤B)→(et n D).natAbs≤qo n*B^n
 |0,_,_=>by simp [et,qo]
 |n+1,D,h=>by
  rw [et];have:=U7 (f:=fun i=>rq i*(D i 0*et n (skip i D))) (B:=B*(qo n*B^n)) (n:=n+1) (fun i aa=>by
   rw [kh,kh,T5,qi];refine jT (h i 0 aa J) (OM (fun a c a8 aw=> ?_));unfold skip;exact h _ _ (by split<;>omega) J)
  refine dN this ?_;rw [qo,ic];have e:(n+1)*(B*(qo n*B^n))=(n+1)*qo n*(B^n*B):=by rw [Nat.mul_left_comm B,hj B,kH]
  omega
def s9 (n:Nat)(D:iu)(d:Int)(t0 t:V):Prop:= ∀c,c<n→cb (fun i=>t i*D i c) n=d*t0 c
theorem Zg {n:Nat}{D:iu}{d s:Int}{t0 t:V}(hd:d≠0)(av:s*s=1)(fy:et n D=s*d)(h:s9 n D d t0 t){i:Nat}(aa:i<n):t i=s*et n (put D i t0):=by
 have U:=IV (w:=fun c=>d*t0 c) aa (fun c aw=>(h c aw).symm);rw [FZ n D i d t0 aa,fy] at U;have ab:d*et n (put D i t0)=d*(s*t i):=by rw [U,pA,n3 (t i) d,pA]
 have ay:=Int.eq_of_mul_eq_mul_left hd ab;rw [ay,←kJ,av,nr]
theorem WI {n:Nat}{D:iu}{d s:Int}{t0 t:V}(hd:d≠0)(av:s*s=1)(fy:et n D=s*d)(h:s9 n D d t0 t){r:Nat}(ad:r<n):et n (put D r t0)=s*t r:=by rw [Zg hd av fy h ad,←kJ,av,nr]
theorem akm {n:Nat}{D:iu}{r:Nat}(ad:r<n)(v:V)(t:V)(c:Nat):cb (fun i=>t i*put D r v i c) n=cb (fun i=>t i*D i c) n-t r*D r c+t r*v c:=by
 have e: ∀i,i<n→t i*put D r v i c=t i*D i c+(if i=r then t r*v c-t r*D r c else 0):=by
  intro i aa;by_cases mV:i=r
  ·subst mV;simp [put];omega
  ·simp [put,mV]
 rw [hs e,w8,yR (f:=fun i=>if i=r then t r*v c-t r*D r c else 0) r ad (fun i aa cd=>by simp [cd])];simp;omega
theorem WJ {n:Nat}{D:iu}{d s:Int}{sE h6 tG kt:V}(hd:d≠0)(av:s*s=1)(fy:et n D=s*d)(aw:s9 n D d sE h6)(ae:s9 n D d tG kt){r:Nat}(ad:r<n)(aF:h6 r≠0):
 (∀i,i<n→i≠r→d∣kt i*h6 r-h6 i*kt r)∧s9 n (put D r sE) (h6 r) tG (fun i=>if i=r then kt r else (kt i*h6 r-h6 i*kt r)/d):=by
 have acF:=WI hd av fy aw ad
 --the numerators are a solution of d times the new equation
 let N:V:=fun i=>if i=r then d*kt r else kt i*h6 r-h6 i*kt r
 have jy: ∀c,c<n→cb (fun i=>N i*put D r sE i c) n=d*h6 r*tG c:=by
  intro c uI;rw [akm ad];have e: ∀i,i<n→N i*D i c=(h6 r*(kt i*D i c)+(-(kt r))*(h6 i*D i c))+(if i=r then d*kt r*D r c else 0):=by
   intro i aa;by_cases mV:i=r
   ·subst mV;simp only [N,gf];have:h6 i*(kt i*D i c)+ -kt i*(h6 i*D i c)=0:=by rw [uw,pA];omega
    omega
   ·simp only [N,mV,hH,ux];rw [Int.sub_mul,uw,n3 (kt i) (h6 r),kJ,n3 (h6 i) (kt r),kJ];omega
  rw [hs e,w8,w8,o8,o8,ae c uI,aw c uI,yR (f:=fun i=>if i=r then d*kt r*D r c else 0) r ad (fun i aa cd=>by simp [cd])];simp only [N,gf];have aH:h6 r*(d*tG c)=d*h6 r*tG c:=by rw [←kJ,n3 (h6 r) d]
  have aJ: -kt r*(d*sE c)= -(d*kt r*sE c):=by rw [uw,←kJ,n3 (kt r) d]
  rw [aH,aJ];omega
 have hex: ∀i,i<n→N i=d*(s*et n (put (put D r sE) i tG)):=by
  intro i aa;have U:=IV (D:=put D r sE) (w:=fun c=>d*h6 r*tG c) aa (fun c uI=>(jy c uI).symm);rw [FZ n _ i (d*h6 r) tG aa,acF] at U;have ab:h6 r*(d*(s*et n (put (put D r sE) i tG)))=h6 r*N i:=by
   have ay:s*(d*h6 r*et n (put (put D r sE) i tG))=s*(N i*(s*h6 r)):=by rw [U]
   have bf:s*(N i*(s*h6 r))=h6 r*N i:=by rw [pA,←kJ s s,av,nr,n3]
   rw [bf] at ay;rw [←ay];rw [kJ d,pA s d,pA s (h6 r),pA d (h6 r)]
  exact (Int.eq_of_mul_eq_mul_left aF ab).symm
 refine ⟨fun i aa cd=> ?_,?_⟩
 ·have:=hex i aa;simp only [N,cd,hH] at this;exact ⟨_,this⟩
 ·intro c uI;have U:=jy c uI;have ab: ∀i,i<n→N i*put D r sE i c=d*((fun i=>if i=r then kt r else (kt i*h6 r-h6 i*kt r)/d) i*put D r sE i c):=by
   intro i aa;by_cases mV:i=r
   ·subst mV;simp only [N,gf];rw [kJ]
   ·have ay:=hex i aa;simp only [N,mV,hH] at ay⊢;have bf:(kt i*h6 r-h6 i*kt r)/d=s*et n (put (put D r sE) i tG):=by rw [ay,GX _ hd]
    rw [bf,←kJ,←ay]
  rw [hs ab,o8,kJ d] at U;exact Int.eq_of_mul_eq_mul_left hd U
def qT (x d:Int):Int:=if (decide (x<0) !=decide (d<0))=true then-((x.natAbs/d.natAbs:Nat):Int) else ((x.natAbs/d.natAbs:Nat):Int)
theorem Jv {q d:Int}(hd:d≠0):qT (d*q) d=q:=by
 have aI:(d*q).natAbs/d.natAbs=q.natAbs:=by rw [kh,Nat.mul_div_cancel_left _ J]
 unfold qT;rw [aI];rcases zl q 0 with aB|aB|aB
 ·rcases Int.lt_or_gt_of_ne hd with h|h
  ·have U: ¬d*q<0:=Int.not_lt.2 (zq (Int.mul_pos_of_neg_of_neg h aB));simp [h,U];omega
  ·have U:d*q<0:=Int.mul_neg_of_pos_of_neg h aB;have ab: ¬d<0:=J;simp [U,ab];omega
 ·subst aB;simp
 ·rcases Int.lt_or_gt_of_ne hd with h|h
  ·have U:d*q<0:=Int.mul_neg_of_neg_of_pos h aB;simp [h,U];omega
  ·have U: ¬d*q<0:=Int.not_lt.2 (zq (Int.mul_pos h aB));have ab: ¬d<0:=J;simp [U,ab];omega
theorem VV {x d:Int}(hd:d≠0)(h:d∣x):qT x d=x/d:=by obtain ⟨q,rfl⟩:=h;rw [Jv hd,GX _ hd]
abbrev cB:=List (List Int)
def az (T:cB)(i j:Nat):Int:=(T.getD i []).getD j 0
def yT (R K:List Int)(p f d:Int):List Int:=(List.range R.length).map (fun j=>qT (R.getD j 0*p-f*K.getD j 0) d)
def pg (T:cB)(k c:Nat)(d:Int):cB:=(List.range T.length).map (fun i=>if i=k then T.getD k [] else yT (T.getD i []) (T.getD k []) (az T k c) (az T i c) d)
theorem fO {α:Type}(l:List α)(d x:α)(i j:Nat):(l.set i x).getD j d=if j=i∧i<l.length then x else l.getD j d:=by
 by_cases h:j=i
 ·subst h;by_cases ab:j<l.length
  ·simp [List.getD,ab]
  ·have:l.length≤j:=J;simp [List.getD,ab,this]
 ·have: ¬i=j:=fun e=>h e.symm;simp [List.getD,h,DU,this]
theorem ON (T:cB)(k c:Nat)(d:Int):(pg T k c d).length=T.length:=by simp [pg]
theorem anW (T:cB)(k c:Nat)(d:Int){i:Nat}(aa:i<T.length):(pg T k c d).getD i []=if i=k then T.getD k [] else yT (T.getD i []) (T.getD k []) (az T k c) (az T i c) d:=by unfold pg;simp [List.getD,aa]
theorem Xc (T:cB)(k c:Nat)(d:Int){L:Nat}(b2: ∀x∈T,x.length=L){i j:Nat}(aa:i<T.length)(ae:j<L):az (pg T k c d) i j=if i=k then az T k j else qT (az T i j*az T k c-az T i c*az T k j) d:=by
 unfold az;rw [anW T k c d aa];have au:(T.getD i []).length=L:=b2 _ (by simp [List.getD,aa]);by_cases h:i=k
 ·rw [aA h,aA h]
 ·rw [ax h,ax h];unfold yT;rw [au];have: ∀f:Nat→Int,((List.range L).map f).getD j 0=f j:=fun f=>by simp [List.getD,ae]
  rw [this];rfl
theorem amh (R K:List Int)(p f d:Int):(yT R K p f d).length=R.length:=by simp [yT]
theorem OO (T:cB)(k c:Nat)(d:Int){L:Nat}(an:k<T.length)(b2: ∀x∈T,x.length=L): ∀x∈pg T k c d,x.length=L:=by
 intro x ar;obtain ⟨i,aa,rfl⟩:=cO.1 ar;have aa:i<T.length:=by simpa using aa
 split
 ·exact b2 _ (by simp [List.getD,an])
 ·rw [amh];exact b2 _ (by simp [List.getD,aa])
end Go.aj.dZ
namespace Go.aj.cX
open Go.aj.dn Go.aj.dZ
theorem eo {α:Type}{l:List α}{j:Nat}(d:α)(h:j<l.length):l.getD j d=l[j]:=by simp [List.getD,h]
theorem dt {α:Type}{l:List α}{j:Nat}(d:α)(h:j<l.length):l.getD j d∈l:=by rw [eo d h];exact List.getElem_mem h
theorem rG {α:Type}{l r:List α}{j:Nat}(d:α)(h:j<l.length):(l++r).getD j d=l.getD j d:=by simp [List.getD,hQ h]
theorem Qb {α:Type}{l:List α}{x d:α}:(l++[x]).getD l.length d=x:=by simp [List.getD]
theorem Yq (q:Rat):q*(q.den:Rat)=(q.num:Rat):=by
 have h:((q.den:Int):Rat)≠0:=fun e=>q.den_nz (by
  have:=congrArg Rat.num e;simpa using this)
 have ab:=Rat.num_divInt_den q;rw [Rat.divInt_eq_div] at ab
 conv=>lhs;lhs;rw [←ab]
 rw [←xE,Rat.div_mul_cancel h]
def hV:Nat→List Rat→Nat
 |f,[]=>f
 |f,q::r=>hV (f*(q.den/Nat.gcd f q.den)) r
theorem abY (f d:Nat):f∣f*(d/Nat.gcd f d)∧d∣f*(d/Nat.gcd f d):=by refine ⟨Nat.dvd_mul_right _ _,?_⟩;obtain ⟨a,a8⟩:=Nat.gcd_dvd_left f d;have ab:Nat.gcd f d*(d/Nat.gcd f d)=d:=Nat.mul_div_cancel' (DY f d);refine ⟨a,?_⟩;generalize d/Nat.gcd f d=b at*;generalize Nat.gcd f d=g at*;rw [a8,←ab];rw [kH,kH,hj a b]
theorem XC: ∀(l:List Rat) (f:Nat),f∣hV f l∧ ∀q∈l,q.den∣hV f l
 |[],f=>⟨Nat.dvd_refl _,fun q aB=>by simp at aB⟩
 |a::r,f=>by
  rw [hV];obtain ⟨U,ab⟩:=XC r (f*(a.den/Nat.gcd f a.den));obtain ⟨s1,s2⟩:=abY f a.den;refine ⟨Nat.dvd_trans s1 U,fun q aB=> ?_⟩;rcases fS.1 aB with rfl|aB
  ·exact Nat.dvd_trans s2 U
  ·exact ab q aB
theorem J0: ∀(l:List Rat) (f:Nat),0<f→0<hV f l
 |[],f,h=>h
 |a::r,f,h=>by
  rw [hV];refine J0 r _ (zn h ?_);have ab:Nat.gcd f a.den*(a.den/Nat.gcd f a.den)=a.den:=Nat.mul_div_cancel' (DY f a.den);have:=a.den_pos;rcases n2 (a.den/Nat.gcd f a.den) with e|e
  ·rw [e,tc] at ab;omega
  ·exact e
theorem YN {k:Nat}: ∀(l:List Rat) (f:Nat),(∀q∈l,q.den<10^k)→hV f l≤f*10^(k*l.length)
 |[],f,_=>by rw [hV,lv,tc,zj,q6];exact bT _
 |a::r,f,h=>by rw [hV];refine dN (YN r _ (fun q aB=>h q (by simp [aB]))) ?_;have U:a.den/Nat.gcd f a.den≤10^k:=dN (vO _ _) (q7 (h a bX));rw [gK,hk,q6,oO,iI,←kH];exact er _ (hz _ U)
def hS (l:List Rat):List Int:=l.map (fun q=>q.num*((hV 1 l/q.den:Nat):Int))
theorem Jg (l:List Rat):(hS l).length=l.length:=by simp [hS]
theorem Wj {l:List Rat}{q:Rat}(h:q∈l):((q.num*((hV 1 l/q.den:Nat):Int):Int):Rat)=((hV 1 l:Nat):Rat)*q:=by obtain ⟨k,an⟩:=(XC l 1).2 q h;rw [an,Nat.mul_div_cancel_left _ q.den_pos,tf,Rat.natCast_mul];have U:q*(q.den:Rat)=(q.num:Rat):=Yq q;have ab:((k:Int):Rat)=(k:Rat):=xE k;rw [ab,←U];grind
theorem Rv: ∀{n:Nat},n≤40→qo n≤100^n
 |0,_=>bT _
 |n+1,h=>by rw [qo,ic,hj];exact jT (Rv J) J
theorem abg {n k:Nat}(h:n≤40):qo n*(10^k)^n≤10^((k+2)*n):=by refine dN (er _ (Rv h)) ?_;rw [←Nat.mul_pow,Nat.pow_mul,iI];refine xB ?_ n;rw [hj];exact bT _
theorem amH {a x y:Rat}(a8:a≠0)(h:a*x=a*y):x=y:=by
 have U:a⁻¹ *(a*x)=a⁻¹ *(a*y):=by rw [h]
 rwa [←uy,←uy,Rat.inv_mul_cancel a a8,pB,pB] at U
theorem FN (f:Nat→Int): ∀n,((cb f n:Int):Rat)=b3 (fun i=>((f i:Int):Rat)) n
 |0=>rfl
 |n+1=>by rw [cb,b3,Rat.intCast_add,FN f n]
theorem Yp {x:Int}(h:x≠0):(x:Rat)≠0:=fun e=>h (by
 have:=congrArg Rat.num e;simpa using this)
theorem abj {k:Nat}{q:Rat}(U:(Lib.decDigits q.num.natAbs).length≤k)(ab:(Lib.decDigits q.den).length≤k):D k q:=
 ⟨gL (yE _) (fF aT U),gL (yE _) (fF aT ab)⟩
end Go.aj.cX
namespace Go.aj.cX
open Go.aj.dn
structure ep where
 kind:Int
 gr:Int
 info:Int
 next:List Int
 c1:List di
 iX:di
 deriving DecidableEq
def aP:ep:=⟨0,0,0,[],[],[]⟩
abbrev aK:=List ep
def AF (N i:Nat)(k:Int):Bool:=decide (k≤(i:Int))||decide ((N:Int)≤k)
def y0 (N i:Nat)(l:List Int):Int:=if l.length=0 then 3 else if 6<l.length then 2 else if l.any (AF N i)=true then 3 else 0
def pj (N i:Nat)(n:ep):Int:=
 if n.kind=0 then (if n.gr≠0∨n.info≠0∨n.next≠[]∨n.c1≠[] then 3 else jO n.iX)
 else if n.kind=1 then (if n.gr≠0∨n.info≠0∨n.iX≠[] then 3 else if y0 N i n.next≠0 then y0 N i n.next else if n.c1.length≠n.next.length then 3 else nL n.c1)
 else if n.kind=2 then (if n.c1≠[]∨n.iX≠[] then 3 else if (n.gr≠0∧n.gr≠1)∨n.info<0∨10≤n.info then 4 else y0 N i n.next)
 else 1
def tY (N:Nat):Nat→aK→Int
 |_,[]=>0
 |i,n::r=>if pj N i n=0 then tY N (i+1) r else pj N i n
def named (t:aK)(k:Nat):Nat:=((t.flatMap ep.next).filter (fun x=>decide (x=(k:Int)))).length
def vC (a b:ep):Bool:=decide (a.kind=2) && (decide (b.kind=2) && (decide (a.gr=b.gr) && (decide (a.info=b.info) && decide (a.next.length≠b.next.length))))
def qV (t:aK):Int:=
 if 120<t.length then 2 else if t.length=0 then 8 else if tY t.length 0 t≠0 then tY t.length 0 t
 else if (List.range t.length).any (fun k=>decide (k≠0) && decide (named t k≠1))=true then 3
 else if t.any (fun a=>t.any (vC a))=true then 3 else 0
def rI (t:aK)(p:Int):Int:=if qV t≠0 then qV t else if p≠0∧p≠1 then 4 else 0
def own (p:Int)(n:ep):Bool:=decide (n.kind=2) && decide (n.gr=p)
def gG (p i:Int)(n:ep):Bool:=own p n && decide (n.info=i)
def Kg (t:aK)(p i:Int):Nat:=t.findIdx (gG p i)
def cv (t:aK)(p:Int):List Int:=((List.range 10).map (fun i:Nat=>(i:Int))).filter (fun i=>t.any (gG p i))
def cm (t:aK)(p i:Int):Nat:=(t.getD (Kg t p i) aP).next.length
def lq (t:aK)(p:Int):List Int:=(cv t p).map (fun i=>((cm t p i:Nat):Int))
structure Valid (t:aK):Prop where
 le:t.length≤120
 ne:t.length≠0
 nodes: ∀i,i<t.length→pj t.length i (t.getD i aP)=0
 once: ∀k,k<t.length→k≠0→named t k=1
 same: ∀a∈t,∀b∈t,vC a b=false
theorem WA (N:Nat): ∀(t:aK) (i:Nat),tY N i t=0→ ∀j,j<t.length→pj N (i+j) (t.getD j aP)=0
 |[],i,_,j,ae=>absurd ae (gg _)
 |n::r,i,h,j,ae=>by
  rw [tY] at h;split at h
  ·rename_i aU;cases j with
   |zero=>exact aU
   |succ j=>
    have:=WA N r (i+1) h j (by simpa using ae);rw [show i+(j+1)=i+1+j by omega];exact this
  ·rename_i aU;exact absurd h aU
theorem FU {t:aK}(h:qV t=0):Valid t:=by
 unfold qV at h;split at h
 ·cases h
 split at h
 ·cases h
 split at h
 ·rename_i ay;exact absurd h ay
 split at h
 ·cases h
 split at h
 ·cases h
 rename_i U ab ay bf bL;refine ⟨J,ab,fun i aa=> ?_,fun k an aU=> ?_,fun a a8 b al=> ?_⟩
 ·have:=WA t.length t 0 (e0.1 ay) i aa
  rwa [cT] at this
 ·rw [td,uz] at bf;have:=bf k (by simpa using an);simp only [eb,eL,not_and] at this;exact e0.1 (this aU)
 ·rw [td,uz] at bL;have:=bL a a8;rw [sc] at this;cases aw:vC a b
  ·rfl
  ·exact absurd ⟨b,al,aw⟩ this
theorem yA {N i:Nat}{l:List Int}(h:y0 N i l=0):1≤l.length∧l.length≤6∧ ∀k∈l,(i:Int)<k∧k<N:=by
 unfold y0 at h;split at h
 ·cases h
 split at h
 ·cases h
 split at h
 ·cases h
 rename_i U ab ay;refine ⟨J,J,fun k an=> ?_⟩;rw [td,uz] at ay;have:=ay k an;unfold AF at this;simp only [vT,eL,not_or] at this;omega
theorem Valid.child {t:aK}(h:Valid t){i:Nat}(aa:i<t.length):((t.getD i aP).kind=0∧(t.getD i aP).next=[])∨(((t.getD i aP).kind=1∨(t.getD i aP).kind=2)∧y0 t.length i (t.getD i aP).next=0):=by
 have aI:=h.nodes i aa;unfold pj at aI;split at aI
 ·rename_i aU;split at aI
  ·cases aI
  ·rename_i U;simp only [not_or] at U;exact .inl ⟨aU,e0.1 U.2.2.1⟩
 ·split at aI
  ·rename_i U;split at aI
   ·cases aI
   split at aI
   ·rename_i ab;exact absurd aI ab
   rename_i ab ay;exact .inr ⟨.inl U,e0.1 ay⟩
  ·split at aI
   ·rename_i ab;split at aI
    ·cases aI
    split at aI
    ·cases aI
    exact .inr ⟨.inr ab,aI⟩
   ·cases aI
theorem Valid.behind {t:aK}(h:Valid t){i:Nat}(aa:i<t.length): ∀k∈(t.getD i aP).next,(i:Int)<k∧k<t.length:=by
 rcases h.child aa with ⟨_,ab⟩|⟨_,ab⟩
 ·rw [ab];intro k an;simp at an
 ·exact (yA ab).2.2
theorem Valid.BB {t:aK}(h:Valid t){i:Nat}(aa:i<t.length):(t.getD i aP).next.length≤6:=by
 rcases h.child aa with ⟨_,ab⟩|⟨_,ab⟩
 ·rw [ab];exact b7 _
 ·exact (yA ab).2.1
theorem Valid.Il {t:aK}(h:Valid t){i:Nat}(aa:i<t.length){p:Int}(ah:own p (t.getD i aP)=true):0≤(t.getD i aP).info∧(t.getD i aP).info<10∧1≤(t.getD i aP).next.length:=by
 unfold own at ah;rw [eb,eL,eL] at ah;have aI:=h.nodes i aa;unfold pj at aI;rw [ax (by rw [ah.1];decide),ax (by rw [ah.1];decide),aA ah.1] at aI;split at aI
 ·cases aI
 split at aI
 ·cases aI
 rename_i U ab;simp only [not_or] at ab;have:=yA aI;exact ⟨J,J,this.1⟩
theorem Valid.width {t:aK}(h:Valid t){i j:Nat}(aa:i<t.length)(ae:j<t.length){p:Int}(HH:own p (t.getD i aP)=true)(HI:own p (t.getD j aP)=true)(he:(t.getD i aP).info=(t.getD j aP).info):(t.getD i aP).next.length=(t.getD j aP).next.length:=by have aw:=h.same _ (dt aP aa) _ (dt aP ae);unfold own at HH HI;rw [eb,eL,eL] at HH HI;unfold vC at aw;rw [fG HH.1,fG HI.1,fG (by rw [HH.2,HI.2]),fG he,mM,mM,mM,mM,GY] at aw;exact e0.1 aw
def kd (N:Nat)(l:List Int):List Int:=(List.range N).map (fun k:Nat=>(((l.filter (fun x=>decide (x=(k:Int)))).length:Nat):Int))
theorem AG (N:Nat)(l:List Int):(kd N l).length=N:=by simp [kd]
theorem Pd {N:Nat}{l:List Int}{k:Nat}(an:k<N):(kd N l).getD k 0=(((l.filter (fun x=>decide (x=(k:Int)))).length:Nat):Int):=by simp [kd,List.getD,an]
theorem aaM (N:Nat):kd N []=List.replicate N 0:=by apply jS (by simp [kd]);intro i U ab;simp [kd]
theorem aom {N:Nat}(l:List Int){x:Int}(aU:0≤x)(U:x<N):kd N (l++[x])=(kd N l).set x.toNat ((kd N l).getD x.toNat 0+1):=by
 rw [Pd J];apply jS (by simp [kd]);intro i i1 i2;rw [xF];have aa:i<N:=by simpa [kd] using i1
 simp only [kd,kK,zr,List.filter_append,c8];by_cases h:x.toNat=i
 ·rw [aA h,h];have:x=(i:Int):=J;simp [this]
 ·rw [ax h];have: ¬x=(i:Int):=J;simp [this]
theorem aaL (N:Nat)(l:List Int)(k:Nat):0≤(kd N l).getD k 0∧(kd N l).getD k 0≤l.length:=by
 by_cases an:k<N
 ·rw [Pd an];have:=tg (fun x=>decide (x=(k:Int))) l;omega
 ·have:(kd N l).getD k 0=0:=by simp [kd,List.getD,an]
  rw [this];omega
theorem Vv (t:aK){k:Nat}(an:k<t.length):(kd t.length (t.flatMap ep.next)).getD k 0=((named t k:Nat):Int):=Pd an
theorem aoT {t:aK}(aU:t.length≠0):((kd t.length (t.flatMap ep.next)).drop 1).any (fun n=>decide (n≠1))=(List.range t.length).any (fun k=>decide (k≠0) && decide (named t k≠1)):=by
 rw [xv,sc,sc];constructor
 ·rintro ⟨x,ar,h⟩;obtain ⟨i,aa,rfl⟩:=DZ.1 ar;rw [vR,AG] at aa;refine ⟨1+i,by simp;omega,?_⟩;rw [List.getElem_drop] at h;have e:=Vv t (k:=1+i) J;rw [eo 0 (by rw [AG];omega)] at e;rw [e] at h;simp only [eb,eL] at h⊢;exact ⟨J,J⟩
 ·rintro ⟨k,an,h⟩;have an:k<t.length:=by simpa using an
  simp only [eb,eL] at h;have e:=Vv t an;refine ⟨_,DZ.2 ⟨k-1,by rw [vR,AG];omega,I⟩,?_⟩;rw [List.getElem_drop];rw [eo 0 (by rw [AG];omega)] at e;have aJ:(kd t.length (t.flatMap ep.next))[1+(k-1)]'(by rw [AG];omega)=((named t k:Nat):Int):=by rw [←e];congr 1;omega
  rw [aJ,eL];omega
abbrev vK:=List (Int×Int×Nat)
def Ki (t:aK):Prop:= ∀a∈t,∀b∈t,vC a b=false
structure mJ (t:aK)(S:vK):Prop where
 free:Ki t
 from_: ∀e∈S,∃b∈t,b.kind=2∧b.gr=e.1∧b.info=e.2.1∧b.next.length=e.2.2
 all: ∀a∈t,a.kind=2→ ∃e∈S,e.1=a.gr∧e.2.1=a.info
theorem Xq {a b:ep}:vC a b=true↔a.kind=2∧b.kind=2∧a.gr=b.gr∧a.info=b.info∧a.next.length≠b.next.length:=by unfold vC;simp only [eb,eL]
theorem Pc {a b:ep}:vC a b=false↔(a.kind=2→b.kind=2→a.gr=b.gr→a.info=b.info→a.next.length=b.next.length):=by
 rw [←td,Xq];constructor
 ·intro h U ab ay bf;exact e0.1 (fun bL=>h ⟨U,ab,ay,bf,bL⟩)
 ·rintro h ⟨U,ab,ay,bf,bL⟩;exact bL (h U ab ay bf)
theorem mJ.nil:mJ [] []:=⟨fun a a8=>by simp at a8,fun e he=>by simp at he,fun a a8=>by simp at a8⟩
theorem NT {t:aK}{n:ep}(h:Ki t)(aI: ∀a∈t,n.kind=2→a.kind=2→a.gr=n.gr→a.info=n.info→a.next.length=n.next.length):Ki (t++[n]):=by
 intro a BH b nw;rw [Pc];intro ee fg gC rp;rcases gM.1 BH with a8|a8<;>rcases gM.1 nw with al|al
 ·exact Pc.1 (h a a8 b al) ee fg gC rp
 ·have e:=hI.1 al;rw [e] at fg gC rp⊢;exact aI a a8 fg ee gC rp
 ·have e:=hI.1 a8;rw [e] at ee gC rp⊢;exact (aI b al ee fg gC.symm rp.symm).symm
 ·rw [hI.1 a8,hI.1 al]
theorem mJ.skip {t:aK}{S:vK}{n:ep}(h:mJ t S)(an:n.kind≠2):mJ (t++[n]) S:=
 ⟨NT h.free (fun a _ U=>absurd U an),fun e he=>by
  obtain ⟨b,al,q⟩:=h.from_ e he;exact ⟨b,tb _ al,q⟩,fun a a8 U=>by
  rcases gM.1 a8 with a8|a8
  ·exact h.all a a8 U
  ·rw [hI.1 a8] at U;exact absurd U an⟩
theorem mJ.L7 {t:aK}{S:vK}{n:ep}{e:Int×Int×Nat}(h:mJ t S)(he:e∈S)(U:e.1=n.gr)(ab:e.2.1=n.info)(ay:e.2.2=n.next.length):mJ (t++[n]) S:=
 ⟨NT h.free (fun a a8 bS bY db dP=>by
  obtain ⟨b,al,c6,fs,lh,lH⟩:=h.from_ e he;have:=Pc.1 (h.free a a8 b al) bY c6 (by rw [db,fs,U]) (by rw [dP,lh,ab]);rw [this,lH,ay]),fun e he=>by
  obtain ⟨b,al,q⟩:=h.from_ e he;exact ⟨b,tb _ al,q⟩,fun a a8 bS=>by
  rcases gM.1 a8 with a8|a8
  ·exact h.all a a8 bS
  ·rw [hI.1 a8];exact ⟨e,he,U,ab⟩⟩
theorem mJ.agW {t:aK}{S:vK}{n:ep}(h:mJ t S)(an:n.kind=2)(hm: ∀e∈S,¬(e.1=n.gr∧e.2.1=n.info)):mJ (t++[n]) (S++[(n.gr,n.info,n.next.length)]):=
 ⟨NT h.free (fun a a8 bS bY db dP=>by
  obtain ⟨e,he,c6,fs⟩:=h.all a a8 bY;exact absurd ⟨by rw [c6,db],by rw [fs,dP]⟩ (hm e he)),fun e he=>by
  rcases gM.1 he with he|he
  ·obtain ⟨b,al,q⟩:=h.from_ e he;exact ⟨b,tb _ al,q⟩
  ·rw [hI.1 he];exact ⟨n,bX,an,I,I,I⟩,fun a a8 bS=>by
  rcases gM.1 a8 with a8|a8
  ·obtain ⟨e,he,q⟩:=h.all a a8 bS;exact ⟨e,tb _ he,q⟩
  ·rw [hI.1 a8];exact ⟨_,List.mem_append_right _ (hI.2 rfl),rfl,rfl⟩⟩
theorem mJ.bad {t T:aK}{S:vK}{n:ep}{e:Int×Int×Nat}(h:mJ t S)(b2: ∀a∈t,a∈T)(aI:n∈T)(an:n.kind=2)(he:e∈S)(U:e.1=n.gr)(ab:e.2.1=n.info)(ay:e.2.2≠n.next.length):T.any (fun a=>T.any (vC a))=true:=by obtain ⟨b,al,c6,fs,lh,lH⟩:=h.from_ e he;rw [sc];refine ⟨b,b2 b al,?_⟩;rw [sc];exact ⟨n,aI,Xq.2 ⟨c6,an,by rw [fs,U],by rw [lh,ab],by rw [lH];exact ay⟩⟩
theorem alV {t:aK}(h:Ki t):t.any (fun a=>t.any (vC a))=false:=by rw [uz];intro a a8 U;obtain ⟨b,al,ab⟩:=sc.1 U;rw [h a a8 b al] at ab;cases ab
theorem alX {N i:Nat}{t:aK}(aa:i<t.length):tY N i (t.drop i)=if pj N i (t.getD i aP)=0 then tY N (i+1) (t.drop (i+1)) else pj N i (t.getD i aP):=by rw [GV aa,←eo aP aa,tY]
theorem VC {N i:Nat}{n:ep}(h:pj N i n=0):(∀k∈n.next,(i:Int)<k∧k<N)∧n.next.length≤6:=by
 unfold pj at h;split at h
 ·split at h
  ·cases h
  ·rename_i U;simp only [not_or] at U;have:=e0.1 U.2.2.1;rw [this];exact ⟨fun k an=>by simp at an,b7 _⟩
 ·split at h
  ·split at h
   ·cases h
   split at h
   ·rename_i ab;exact absurd h ab
   rename_i ab ay;obtain ⟨bS,bY,db⟩:=yA (e0.1 ay);exact ⟨db,bY⟩
  ·split at h
   ·split at h
    ·cases h
    split at h
    ·cases h
    obtain ⟨bS,bY,db⟩:=yA h;exact ⟨db,bY⟩
   ·cases h
def p6 (t:aK)(i:Nat):List Int:=(t.take i).flatMap ep.next
theorem anj {t:aK}{i:Nat}(aa:i<t.length):p6 t (i+1)=p6 t i++(t.getD i aP).next:=by unfold p6;rw [nZ aa,List.flatMap_append,eo aP aa];simp
theorem Az {l:List Int}{j:Nat}(ae:j<l.length):l.take (j+1)=l.take j++[l.getD j 0]:=by rw [nZ ae,eo 0 ae]
theorem anI {l:aK}{j:Nat}(ae:j<l.length):l.take (j+1)=l.take j++[l.getD j aP]:=by rw [nZ ae,eo aP ae]
structure fk where
 info:Int
 choice:Int
 before:Int
 deriving DecidableEq
def cZ:fk:=⟨-1,-1,-1⟩
structure nW where
 cA:List fk
 pos:List Int
 first:List (Int×Nat)
def fY (m:List (Int×Nat))(k:Int):Option Nat:=(m.find? (fun x=>decide (x.1=k))).map Prod.snd
def nI (n:ep)(b:Int):List fk:=(List.range n.next.length).map (fun k:Nat=>⟨n.info,(k:Int),b⟩)
def fX (p:Int)(n:ep)(i:Nat)(f:nW):nW:=
 if own p n=true∧fY f.first n.info=none then ⟨f.cA++nI n (f.pos.getD i 0),f.pos,f.first++[(n.info,f.cA.length)]⟩ else f
def vq (v:Nat→Int):List Int→Nat→List Int→List Int
 |[],_,a=>a
 |c::r,k,a=>vq v r (k+1) (a.set c.toNat (v k))
def vD (p:Int)(n:ep)(i:Nat)(f:nW)(k:Nat):Int:=if own p n=true then (((fY f.first n.info).getD 0:Nat):Int)+(k:Int) else f.pos.getD i 0
def y5 (p:Int)(n:ep)(i:Nat)(f:nW):nW:=⟨(fX p n i f).cA,vq (vD p n i (fX p n i f)) n.next 0 (fX p n i f).pos,(fX p n i f).first⟩
def dc (t:aK)(p:Int):Nat→nW
 |0=>⟨[cZ],List.replicate t.length 0,[]⟩
 |i+1=>y5 p (t.getD i aP) i (dc t p i)
theorem Fy {m:List (Int×Nat)}{k:Int}(h:fY m k=none):k∉m.map Prod.fst:=by unfold fY at h;rw [Option.map_eq_none_iff,List.find?_eq_none] at h;intro an;obtain ⟨x,ar,rfl⟩:=cO.1 an;exact h x ar bX
theorem wW {m:List (Int×Nat)}{k:Int}{s:Nat}(h:fY m k=some s):(k,s)∈m:=by
 unfold fY at h;obtain ⟨x,ar,rfl⟩:=GZ.1 h;have U:=List.mem_of_find?_eq_some ar;have ab:=List.find?_some ar;have ay:x.1=k:=by simpa using ab
 rw [←ay];exact U
theorem Vd (v:Nat→Int): ∀(l:List Int) (k:Nat) (a:List Int),(vq v l k a).length=a.length
 |[],_,a=>rfl
 |c::r,k,a=>by rw [vq,Vd v r];simp
theorem Ve {v:Nat→Int}{P:Int→Prop}: ∀(l:List Int) (k:Nat) (a:List Int),(∀x∈a,P x)→(∀j,k≤j→j<k+l.length→P (v j))→ ∀x∈vq v l k a,P x
 |[],_,a,h,_=>h
 |c::r,k,a,h,ai=>by
  rw [vq];refine Ve r (k+1) _ (fun x ar=> ?_) (fun j U ab=>ai j J (by simp;omega));rcases zk ar with q|q
  ·exact h x q
  ·rw [q];exact ai k (bT _) bX
theorem tT {t:aK}(h:Valid t){p x:Int}{i:Nat}(aa:i<t.length)(av:gG p x (t.getD i aP)=true):cm t p x=(t.getD i aP).next.length:=by
 have hex: ∃y∈t,gG p x y=true:=⟨_,dt aP aa,av⟩
 have bD:Kg t p x<t.length:=List.findIdx_lt_length_of_exists hex;have dV:gG p x (t.getD (Kg t p x) aP)=true:=by rw [eo aP bD];exact List.findIdx_getElem
 unfold gG at av dV;rw [eb,eL] at av dV;exact h.width bD aa dV.1 av.1 (by rw [dV.2,av.2])
structure hP (t:aK)(p:Int)(i:Nat)(f:nW):Prop where
 ll:f.cA.getD 0 cZ=cZ∧0<f.cA.length
 pl:f.pos.length=t.length
 l7: ∀x∈f.pos,0≤x∧x<f.cA.length
 keys: ∀x,x∈f.first.map Prod.fst↔ ∃j,j<i∧gG p x (t.getD j aP)=true
 eX:(f.first.map Prod.fst).Nodup
 aC:f.cA.length=1+(f.first.map (fun x=>cm t p x.1)).sum
 fst: ∀x∈f.first,1≤x.2∧x.2+cm t p x.1≤f.cA.length∧ ∃b:Int,0≤b∧b<x.2∧ ∀k,k<cm t p x.1→f.cA.getD (x.2+k) cZ=⟨x.1,k,b⟩
 all: ∀k,1≤k→k<f.cA.length→ ∃x∈f.first,x.2≤k∧k<x.2+cm t p x.1
theorem hP.init (t:aK)(p:Int):hP t p 0 (dc t p 0) where
 ll:=⟨rfl,fA⟩
 pl:=e8
 l7:=fun x ar=>by obtain ⟨_,rfl⟩:=Bn.1 ar;exact ⟨aT,by show (0:Int)<((1:Nat):Int);decide⟩
 keys:=fun x=>⟨fun h=>by simp [dc] at h,fun ⟨j,ae,_⟩=>absurd ae (gg _)⟩
 eX:=List.nodup_nil
 aC:=rfl
 fst:=fun x ar=>by simp [dc] at ar
 all:=fun k U ab=>by have:(dc t p 0).cA.length=1:=rfl;omega
theorem hP.add {t:aK}(ai:Valid t){p:Int}{i:Nat}{f:nW}(h:hP t p i f)(aa:i<t.length):
 hP t p i f→(f.cA.getD 0 cZ=cZ)→let n:=t.getD i aP;let g:=fX p n i f
 g.cA.getD 0 cZ=cZ∧0<g.cA.length∧g.pos=f.pos∧f.cA.length≤g.cA.length∧(∀x,x∈g.first.map Prod.fst↔ ∃j,j<i+1∧gG p x (t.getD j aP)=true)∧(g.first.map Prod.fst).Nodup∧
 g.cA.length=1+(g.first.map (fun x=>cm t p x.1)).sum∧
 (∀x∈g.first,1≤x.2∧x.2+cm t p x.1≤g.cA.length∧ ∃b:Int,0≤b∧b<x.2∧ ∀k,k<cm t p x.1→g.cA.getD (x.2+k) cZ=⟨x.1,k,b⟩)∧
 (∀k,1≤k→k<g.cA.length→ ∃x∈g.first,x.2≤k∧k<x.2+cm t p x.1)∧(own p n=true→ ∃s,fY g.first n.info=some s):=by
 intro _ _;obtain ⟨aU,Lp⟩:=h.ll;intro n g;have EF: ∀x,(∃j,j<i+1∧gG p x (t.getD j aP)=true)↔((∃j,j<i∧gG p x (t.getD j aP)=true)∨gG p x n=true):=by
  intro x;constructor
  ·rintro ⟨j,U,ab⟩;by_cases e:j=i
   ·subst e;exact .inr ab
   ·exact .inl ⟨j,J,ab⟩
  ·rintro (⟨j,U,ab⟩|ab)
   ·exact ⟨j,J,ab⟩
   ·exact ⟨i,J,ab⟩
 by_cases aw:own p n=true∧fY f.first n.info=none
 ·have qm:g=⟨f.cA++nI n (f.pos.getD i 0),f.pos,f.first++[(n.info,f.cA.length)]⟩:=by show fX p n i f=_;unfold fX;rw [aA aw]
  have dV:gG p n.info n=true:=by unfold gG;rw [aw.1];simp
  have hw:cm t p n.info=n.next.length:=tT ai aa dV
  have jZ:(nI n (f.pos.getD i 0)).length=n.next.length:=by simp [nI]
  have fU:=Fy aw.2;have al:=h.l7 (f.pos.getD i 0) (dt 0 (by rw [h.pl];exact aa));rw [qm];refine ⟨by rw [rG _ Lp];exact aU,by rw [c8];omega,I,by rw [c8];omega,fun x=> ?_,?_,?_,fun x ar=> ?_,fun k U ab=> ?_,fun _=> ?_⟩
  ·rw [EF,gV,gM,h.keys x];constructor
   ·rintro (q|q)
    ·exact .inl q
    ·right;have:x=n.info:=by simpa using q
     rw [this];exact dV
   ·rintro (q|q)
    ·exact .inl q
    ·right;unfold gG at q;rw [eb,eL] at q;simp [q.2]
  ·rw [gV,List.nodup_append];refine ⟨h.eX,bX,fun a a8 b al e=> ?_⟩;have:b=n.info:=by simpa using al
   rw [←this,←e] at fU;exact fU a8
  ·rw [c8,jZ,gV,List.sum_append,h.aC];simp [hw];omega
  ·rcases gM.1 ar with q|q
   ·obtain ⟨gy,a2,b,ei,ew,nt⟩:=h.fst x q;refine ⟨gy,by rw [c8];omega,b,ei,ew,fun k an=> ?_⟩;rw [rG _ J];exact nt k an
   ·have Cb:x=(n.info,f.cA.length):=by simpa using q
    subst Cb;refine ⟨Lp,by rw [c8,jZ];show _+cm t p n.info≤_;omega,f.pos.getD i 0,al.1,al.2,fun k an=> ?_⟩;have an:k<n.next.length:=by have:k<cm t p n.info:=an;omega
    show (f.cA++nI n (f.pos.getD i 0)).getD (f.cA.length+k) cZ=_;have e:(f.cA++nI n (f.pos.getD i 0)).getD (f.cA.length+k) cZ=(nI n (f.pos.getD i 0)).getD k cZ:=by simp only [List.getD];rw [ib J,vN]
    rw [e];unfold nI;rw [mY _ _ 0 _ _ (by simpa using an)];simp [List.getD,an]
  ·rw [c8,jZ] at ab;by_cases an:k<f.cA.length
   ·obtain ⟨x,hE,iQ,nF⟩:=h.all k U an;exact ⟨x,tb _ hE,iQ,nF⟩
   ·refine ⟨(n.info,f.cA.length),bX,by show f.cA.length≤k;omega,by show k<f.cA.length+cm t p n.info;omega⟩
  ·refine ⟨f.cA.length,?_⟩;unfold fY at aw⊢;rw [Option.map_eq_none_iff] at aw;rw [List.find?_append,aw.2];simp
 ·have qm:g=f:=by show fX p n i f=_;unfold fX;rw [ax aw]
  rw [qm];have hold:own p n=true→ ∃s,fY f.first n.info=some s:=by
   intro ah;cases e:fY f.first n.info with
   |none=>exact absurd ⟨ah,e⟩ aw
   |some s=>exact ⟨s,rfl⟩
  refine ⟨aU,Lp,I,bT _,fun x=> ?_,h.eX,h.aC,h.fst,h.all,hold⟩;rw [EF,h.keys x];constructor
  ·exact .inl
  ·rintro (q|q)
   ·exact q
   ·unfold gG at q;rw [eb,eL] at q;obtain ⟨s,av⟩:=hold q.1;refine (h.keys x).1 ?_;rw [←q.2];exact cO.2 ⟨_,wW av,I⟩
theorem hP.step {t:aK}(ai:Valid t){p:Int}{i:Nat}{f:nW}(h:hP t p i f)(aa:i<t.length):hP t p (i+1) (y5 p (t.getD i aP) i f):=by
 obtain ⟨gy,a2,a3,a4,a5,ZA,ZB,GU,a9,K7⟩:=hP.add ai h aa h h.ll.1;generalize aI:t.getD i aP=n at*;generalize c2:fX p n i f=g at*;have Lk:y5 p n i f=⟨g.cA,vq (vD p n i g) n.next 0 g.pos,g.first⟩:=by unfold y5;rw [c2]
 rw [Lk];refine ⟨⟨gy,a2⟩,by rw [Vd,a3];exact h.pl,Ve _ _ _ (fun x ar=> ?_) (fun j U ab=> ?_),a5,ZA,ZB,GU,a9⟩
 ·rw [a3] at ar;have:=h.l7 x ar;show 0≤x∧x<((g.cA.length:Nat):Int);omega
 ·show 0≤vD p n i g j∧vD p n i g j<((g.cA.length:Nat):Int);unfold vD;split
  ·rename_i ah;obtain ⟨s,av⟩:=K7 ah;obtain ⟨ei,ew,_⟩:=GU _ (wW av);have hw:cm t p n.info=n.next.length:=by rw [←aI];refine tT ai aa ?_;unfold gG;rw [aI,ah];simp
   rw [av];simp only [px] at*;omega
  ·rw [a3];have:=h.l7 (f.pos.getD i 0) (dt 0 (by rw [h.pl];exact aa));omega
theorem hP.mm {t:aK}(ai:Valid t)(p:Int): ∀i,i≤t.length→hP t p i (dc t p i)
 |0,_=>hP.init t p
 |i+1,aa=>(hP.mm ai p i J).step ai J
def bN (t:aK)(p:Int):List fk:=(dc t p t.length).cA
theorem o6 {t:aK}(ai:Valid t){p x:Int}:x∈cv t p↔ ∃j,j<t.length∧gG p x (t.getD j aP)=true:=by
 unfold cv;rw [vQ,sc];constructor
 ·rintro ⟨_,y,a1,ab⟩;obtain ⟨j,ae,rfl⟩:=k3 a1;exact ⟨j,ae,by rw [eo aP ae];exact ab⟩
 ·rintro ⟨j,ae,ab⟩;refine ⟨?_,t.getD j aP,dt aP ae,ab⟩;unfold gG at ab;rw [eb,eL] at ab;have hm:=ai.Il ae ab.1;rw [ab.2] at hm;refine cO.2 ⟨x.toNat,xw.2 J,J⟩
theorem Fs (t:aK)(p:Int):(cv t p).Nodup:=by unfold cv;refine List.Nodup.sublist List.filter_sublist ?_;rw [D0,List.pairwise_map];exact (D0.1 List.nodup_range).imp (fun h=>by omega)
theorem qI {t:aK}(ai:Valid t)(p:Int):
 (bN t p).length=1+((cv t p).map (cm t p)).sum∧(bN t p).getD 0 cZ=cZ∧0<(bN t p).length∧
 ∀k,k+1<(bN t p).length→((bN t p).getD (k+1) cZ).info∈cv t p∧0≤((bN t p).getD (k+1) cZ).before∧((bN t p).getD (k+1) cZ).before≤k∧
  (0<((bN t p).getD (k+1) cZ).choice→(bN t p).getD k cZ=⟨((bN t p).getD (k+1) cZ).info,((bN t p).getD (k+1) cZ).choice-1,((bN t p).getD (k+1) cZ).before⟩):=by
 have h:=hP.mm ai p t.length (bT _);have HT:((dc t p t.length).first.map Prod.fst).Perm (cv t p):=
  (List.perm_ext_iff_of_nodup h.eX (Fs t p)).2 (fun x=>by rw [h.keys x,o6 ai])
 refine ⟨?_,h.ll.1,h.ll.2,fun k an=> ?_⟩
 ·show (dc t p t.length).cA.length=_;rw [h.aC,←(HT.map (cm t p)).sum_nat,xD];rfl
 ·obtain ⟨x,hE,iQ,nF⟩:=h.all (k+1) J an;obtain ⟨gu,h7,b,ei,ew,nt⟩:=h.fst x hE;have aH:=nt (k+1-x.2) J;rw [show x.2+(k+1-x.2)=k+1 by omega] at aH;have aby:(bN t p).getD (k+1) cZ=⟨x.1,((k+1-x.2:Nat):Int),b⟩:=aH;rw [aby];refine ⟨HT.mem_iff.1 (cO.2 ⟨x,hE,I⟩),ei,by show b≤(k:Int);omega,fun aw=> ?_⟩;have aw:(0:Int)<((k+1-x.2:Nat):Int):=aw;have aJ:=nt (k-x.2) J;rw [show x.2+(k-x.2)=k by omega] at aJ;have abz:(bN t p).getD k cZ=⟨x.1,((k-x.2:Nat):Int),b⟩:=aJ;rw [abz];show (⟨x.1,_,b⟩:fk)=⟨x.1,((k+1-x.2:Nat):Int)-1,b⟩
  congr 1;omega
def ez:Rat→List Rat→Rat
 |acc,[]=>acc
 |acc,q::r=>ez (acc+q) r
theorem Zl: ∀(gE:List Rat) (acc:Rat),(∀q∈gE,0≤q)→acc≤ez acc gE
 |[],acc,_=>Rat.le_refl
 |q::r,acc,h=>by
  rw [ez];refine vV ?_ (Zl r _ (fun x ar=>h x (by simp [ar])));have:=(D1 (c:=acc)).2 (h q bX)
  rwa [je] at this
abbrev oy:=List (Int×Int)
theorem OU (q:Rat): ∀(l:List Rat) (acc:Rat),ez acc (l++[q])=ez acc l+q
 |[],acc=>rfl
 |a::r,acc=>by rw [oN,ez,ez,OU q r]
def ni {α:Type}(f:α→α)(x:List α)(k:Nat):List α:=(x.take k).map f++x.drop k
theorem Ps {α:Type}(f:α→α)(x:List α)(k:Nat):(ni f x k).length=x.length:=by simp [ni];omega
theorem Pr {α:Type}(f:α→α)(x:List α)(d:α){k:Nat}(an:k<x.length):(ni f x k).getD k d=x.getD k d:=by
 have h:((x.take k).map f).length=k:=by simp;omega
 unfold ni;simp only [List.getD];rw [ib J,h,n1,Bk,e6]
theorem OS: ∀(m:Nat) (l:List Rat),m≤l.length→b3 (fun c=>l.getD c 0) m=ez 0 (l.take m)
 |0,l,_=>rfl
 |m+1,l,h=>by rw [b3,OS m l J,nZ J,OU,eo 0 J]
def rD (o:Int→List Rat)(s:fk)(P:List Rat):Rat:=if s.before<0 then 1 else P.getD s.before.toNat 0*(o s.info).getD s.choice.toNat 0
def ky (l:List fk)(o:Int→List Rat):Nat→List Rat
 |0=>[]
 |k+1=>ky l o k++[rD o (l.getD k cZ) (ky l o k)]
theorem CT (l:List fk)(o:Int→List Rat): ∀k,(ky l o k).length=k
 |0=>rfl
 |k+1=>by rw [ky,c8,CT l o k];rfl
theorem w1 (l:List fk)(o:Int→List Rat){j:Nat}: ∀{k:Nat},j<k→(ky l o k).getD j 0=rD o (l.getD j cZ) (ky l o j)
 |0,h=>absurd h (gg _)
 |k+1,h=>by
  rw [ky];by_cases e:j=k
  ·subst e;have:(ky l o j++[rD o (l.getD j cZ) (ky l o j)]).getD j 0=rD o (l.getD j cZ) (ky l o j):=by
    have ab:=Qb (l:=ky l o j) (x:=rD o (l.getD j cZ) (ky l o j)) (d:=0)
    rwa [CT] at ab
   exact this
  ·rw [rG 0 (by rw [CT];omega)];exact w1 l o J
theorem CF (l:List fk)(o:Int→List Rat){j k n:Nat}(U:j<k)(ab:j<n):(ky l o k).getD j 0=(ky l o n).getD j 0:=by rw [w1 l o U,w1 l o ab]
theorem Kj {m:List (Int×Nat)}(h:(m.map Prod.fst).Nodup){x y:Int×Nat}(ar:x∈m)(a1:y∈m)(e:x.1=y.1):x=y:=by
 obtain ⟨i,aa,rfl⟩:=k3 ar;obtain ⟨j,ae,rfl⟩:=k3 a1;have aF:=xy.1 h;rcases DV i j with q|q|q
 ·exact absurd (by rw [kK,kK];exact e) (aF i j (by simpa using aa) (by simpa using ae) q)
 ·subst q;rfl
 ·exact absurd (by rw [kK,kK];exact e.symm) (aF j i (by simpa using ae) (by simpa using aa) q)
theorem AI {t:aK}(ai:Valid t)(p:Int):(bN t p).length≤61:=by
 have h:=(qI ai p).1;rw [h];have U:(cv t p).length≤10:=by unfold cv;refine dN (tg _ _) bX
 have ab: ∀x∈cv t p,cm t p x≤6:=by intro x ar;obtain ⟨j,ae,av⟩:=(o6 ai).1 ar;rw [tT ai ae av];exact ai.BB ae
 have key: ∀l:List Int,(∀x∈l,cm t p x≤6)→(l.map (cm t p)).sum≤6*l.length:=by
  intro l;induction l with
  |nil=>intro _;exact bT _
  |cons a r ba=>
   intro au;have ay:=au a bX;have bf:=ba (fun x ar=>au x (by simp [ar]));simp only [k6,List.sum_cons,gK];omega
 have:=key _ ab;omega
structure mL (t:aK)(p:Int)(o:Int→List Rat)(k:Nat):Prop where
 len: ∀x∈cv t p,(o x).length=cm t p x
 sum: ∀x∈cv t p,ez 0 (o x)=1
 qB: ∀x∈cv t p,∀q∈o x,0≤q
 nu: ∀x∈cv t p,∀q∈o x,D k q
def ev (t:aK)(p:Int)(o:Int→List Rat):List Rat:=ky (bN t p) o (bN t p).length
theorem Dp {t:aK}(ai:Valid t){p:Int}{k:Nat}(U:1≤k)(an:k<(bN t p).length): ∃(x:Int×Nat) (b:Nat),x∈(dc t p t.length).first∧x.1∈cv t p∧x.2≤k∧k<x.2+cm t p x.1∧b<x.2∧1≤x.2∧x.2+cm t p x.1≤(bN t p).length∧
 ∀c,c<cm t p x.1→(bN t p).getD (x.2+c) cZ=⟨x.1,(c:Int),(b:Int)⟩:=by have h:=hP.mm ai p t.length (bT _);obtain ⟨x,hE,iQ,nF⟩:=h.all k U an;obtain ⟨gu,h7,b,ei,ew,nt⟩:=h.fst x hE;obtain ⟨n,rfl⟩:=oP ei;exact ⟨x,n,hE,(o6 ai).2 ((h.keys x.1).1 (cO.2 ⟨x,hE,I⟩)),iQ,nF,J,gu,h7,nt⟩
theorem TD {t:aK}(ai:Valid t){p:Int}{o:Int→List Rat}{d:Nat}(ah:mL t p o d): ∀k,k<(bN t p).length→D (d*k+1) ((ev t p o).getD k 0):=by
 intro k;induction k using Nat.strongRecOn with
 |ind k ba=>
  intro an;unfold ev;rw [w1 _ _ an];rcases n2 k with e|e
  ·subst e;have aU:=(qI ai p).2.1;rw [aU];unfold rD cZ;rw [aA aT];exact D.mono (j:=1) ⟨aT,aT⟩ J
  ·obtain ⟨x,b,tH,hE,iQ,nF,ru,yt,Ap,u7⟩:=Dp ai e an;have av:=u7 (k-x.2) J;rw [show x.2+(k-x.2)=k by omega] at av;rw [av];unfold rD;simp only;rw [ax J,cg,cg];have ab:=ba b J J;unfold ev at ab;rw [CF _ _ (show b<(bN t p).length by omega) (show b<k by omega)] at ab;have ay:=ah.nu x.1 hE ((o x.1).getD (k-x.2) 0) (dt 0 (by rw [ah.len x.1 hE];omega));have bf:=ab.mul ay;refine bf.mono ?_;have:d*(b+1)≤d*k:=hz d J;rw [hk,q6] at this;omega
abbrev Way:=List (Int×Int)
def Dm (v:Nat→Way):List Int→Nat→List Way→List Way
 |[],_,a=>a
 |c::r,k,a=>Dm v r (k+1) (a.set c.toNat (v k))
theorem Vf (v:Nat→Way): ∀(l:List Int) (k:Nat) (a:List Way),(Dm v l k a).length=a.length
 |[],_,a=>rfl
 |c::r,k,a=>by rw [Dm,Vf v r];simp
def r6 (p:Int)(n:ep)(w:Way)(k:Nat):Way:=if own p n=true then w++[(n.info,(k:Int))] else w
def hM (t:aK)(p:Int):Nat→List Way
 |0=>List.replicate t.length []
 |i+1=>Dm (r6 p (t.getD i aP) ((hM t p i).getD i [])) (t.getD i aP).next 0 (hM t p i)
theorem FP (t:aK)(p:Int): ∀i,(hM t p i).length=t.length
 |0=>e8
 |i+1=>by rw [hM,Vf,FP t p i]
def kS (t:aK)(p:Int):Nat→List (Int×Nat)
 |0=>[]
 |i+1=>if own p (t.getD i aP)=true∧fY (kS t p i) (t.getD i aP).info=none then kS t p i++[((t.getD i aP).info,i)] else kS t p i
def sT (t:aK)(p:Int)(W:List Way):Nat→Bool
 |0=>true
 |i+1=>sT t p W i && (if own p (t.getD i aP)=true then (match fY (kS t p i) (t.getD i aP).info with|none=>true|some k=>decide (W.getD i []=W.getD k [])) else true)
def jo (t:aK)(p:Int):Bool:=sT t p (hM t p t.length) t.length
theorem N1 {t:aK}{p:Int}: ∀{i:Nat} {x:Int×Nat},x∈kS t p i→x.2<i∧own p (t.getD x.2 aP)=true∧(t.getD x.2 aP).info=x.1
 |0,x,h=>by simp [kS] at h
 |i+1,x,h=>by
  rw [kS] at h;split at h
  ·rename_i aw;rcases gM.1 h with q|q
   ·obtain ⟨U,ab⟩:=N1 q;exact ⟨J,ab⟩
   ·have:x=((t.getD i aP).info,i):=by simpa using q
    subst this;exact ⟨gN _,aw.1,I⟩
  ·obtain ⟨U,ab⟩:=N1 h;exact ⟨J,ab⟩
abbrev dj:=Nat→Option (List Rat)
def yo (v:Nat→Rat):List Int→Nat→List Rat→List Rat
 |[],_,a=>a
 |c::r,k,a=>yo v r (k+1) (a.set c.toNat (v k))
theorem X9 (v:Nat→Rat): ∀(l:List Int) (k:Nat) (a:List Rat),(yo v l k a).length=a.length
 |[],_,a=>rfl
 |c::r,k,a=>by rw [yo,X9 v r];simp
def KJ (o:Option (List Rat))(q:Rat)(k:Nat):Rat:=match o with|none=>q|some l=>q*l.getD k 0
def mC (t:aK)(o:dj):Nat→List Rat
 |0=>(List.replicate t.length 0).set 0 1
 |i+1=>yo (KJ (o i) ((mC t o i).getD i 0)) (t.getD i aP).next 0 (mC t o i)
def cj (t:aK)(o:dj):List Rat:=mC t o t.length
theorem yJ (t:aK)(o:dj): ∀i,(mC t o i).length=t.length
 |0=>by simp [mC]
 |i+1=>by rw [mC,X9,yJ t o i]
theorem Jd (v:Nat→Rat){j:Nat}: ∀(l:List Int) (k:Nat) (a:List Rat),(∀c∈l,c.toNat≠j)→(yo v l k a).getD j 0=a.getD j 0
 |[],_,a,_=>rfl
 |c::r,k,a,h=>by rw [yo,Jd v r (k+1) _ (fun c aw=>h c (by simp [aw])),Go.aj.dZ.fO,ax];exact fun q=>h c bX q.1.symm
theorem Zc (v:Nat→Rat): ∀(l:List Int) (k:Nat) (a:List Rat) (m:Nat),m<l.length→(l.map Int.toNat).Nodup→(∀c∈l,c.toNat<a.length)→(yo v l k a).getD (l.getD m 0).toNat 0=v (k+m)
 |[],_,a,m,h,_,_=>absurd h (gg _)
 |c::r,k,a,m,h,aI,au=>by
  rw [k6,xG] at aI;rw [yo];cases m with
  |zero=>
   have:(c::r).getD 0 0=c:=rfl;rw [this,Jd,Go.aj.dZ.fO,aA ⟨rfl,au c bX⟩,e6];intro x ar e;exact aI.1 (cO.2 ⟨x,ar,e⟩)
  |succ m=>
   have:(c::r).getD (m+1) 0=r.getD m 0:=rfl;rw [this,Zc v r (k+1) _ m (by simpa using h) aI.2 (fun x ar=>by rw [dd];exact au x (by simp [ar]))];congr 1;omega
def kP (t:aK)(i:Nat)(c:Nat):Prop:=(c:Int)∈(t.getD i aP).next
theorem Vn (l:List Int)(k:Int):(l.filter (fun x=>decide (x=k))).length=l.count k:=by rw [List.count_eq_length_filter];congr 1
theorem Wy (t:aK)(k:Nat):named t k=(t.map (fun n=>n.next.count (k:Int))).sum:=by
 unfold named;rw [Vn];induction t with
 |nil=>rfl
 |cons n r ba=>rw [List.flatMap_cons,List.count_append,k6,List.sum_cons,ba]
theorem ako {l:List Nat}(h:l.sum=1){i j:Nat}(aa:i<l.length)(ae:j<l.length)(wj:i≠j)(U:1≤l[i])(ab:1≤l[j]):False:=by
 induction l generalizing i j with
 |nil=>simp at aa
 |cons a r ba=>
  have E8: ∀(r:List Nat) (k:Nat) (an:k<r.length),r[k]≤r.sum:=by
   intro r;induction r with
   |nil=>intro k an;simp at an
   |cons b q MU=>
    intro k an;cases k with
    |zero=>simp
    |succ k=>
     have:=MU k (by simpa using an);simp only [D2,List.sum_cons];omega
  rw [List.sum_cons] at h;cases i with
  |zero=>
   cases j with
   |zero=>exact wj rfl
   |succ j=>
    have:=E8 r j (by simpa using ae);simp only [List.getElem_cons_zero,D2] at U ab;omega
  |succ i=>
   cases j with
   |zero=>
    have:=E8 r i (by simpa using aa);simp only [List.getElem_cons_zero,D2] at U ab;omega
   |succ j=>
    simp only [D2] at U ab;have:=E8 r i (by simpa using aa);refine ba J (by simpa using aa) (by simpa using ae) J U ab
theorem Valid.parent {t:aK}(h:Valid t){c i j:Nat}(aw:c<t.length)(aU:c≠0)(aa:i<t.length)(ae:j<t.length)(ee:kP t i c)(fg:kP t j c):i=j:=by
 have aI:=h.once c aw aU;rw [Wy] at aI;apply G0;intro wj;refine ako aI (i:=i) (j:=j) (by simpa using aa) (by simpa using ae) wj ?_ ?_
 ·rw [kK,←eo aP aa];exact List.count_pos_iff.2 ee
 ·rw [kK,←eo aP ae];exact List.count_pos_iff.2 fg
theorem Valid.has {t:aK}(h:Valid t){c:Nat}(aw:c<t.length)(aU:c≠0): ∃i,i<t.length∧kP t i c:=by
 have aI:=h.once c aw aU;unfold named at aI;have cd:(t.flatMap ep.next).filter (fun x=>decide (x=(c:Int)))≠[]:=by intro e;rw [e] at aI;cases aI
 obtain ⟨x,ar⟩:=List.exists_mem_of_ne_nil _ cd;obtain ⟨U,ab⟩:=vQ.1 ar;obtain ⟨n,BY,Ml⟩:=List.mem_flatMap.1 U;obtain ⟨i,aa,rfl⟩:=k3 BY;refine ⟨i,aa,?_⟩;unfold kP;rw [eo aP aa];have:x=(c:Int):=by simpa using ab
 rw [←this];exact Ml
theorem Valid.uR {t:aK}(h:Valid t){c i:Nat}(aa:i<t.length)(k:kP t i c):i<c∧c<t.length:=by have:=h.behind aa _ k;omega
theorem Valid.Ig {t:aK}(h:Valid t){i:Nat}(aa:i<t.length):((t.getD i aP).next.map Int.toNat).Nodup:=by
 rw [D0,List.pairwise_map,xy];intro a b a8 al nv e;have agQ:=List.getElem_mem a8;have agT:=List.getElem_mem al;have ei:=h.behind aa _ agQ;have ew:=h.behind aa _ agT;have aJ:(t.getD i aP).next[a]=(t.getD i aP).next[b]:=J
 obtain ⟨c,aw⟩:=oP (show 0≤(t.getD i aP).next[a] by omega);have aI:=h.once c J J;rw [Wy] at aI;have ab:2≤(t.getD i aP).next.count (c:Int):=by
  have av:[(c:Int),(c:Int)].Sublist (t.getD i aP).next:=by
   have ay:(t.getD i aP).next=(t.getD i aP).next.take b++(t.getD i aP).next.drop b:=(sa b _).symm
   rw [ay];have bf:(c:Int)∈(t.getD i aP).next.take b:=by rw [List.mem_take_iff_getElem];exact ⟨a,J,aw⟩
   have bL:(c:Int)∈(t.getD i aP).next.drop b:=by rw [List.mem_drop_iff_getElem];exact ⟨0,by simpa using al,by simp only [e6];rw [←aJ];exact aw⟩
   have:=List.Sublist.append (List.singleton_sublist.2 bf) (List.singleton_sublist.2 bL);simpa using this
  have:=av.count_le (c:Int);simpa using this
 have dz:(t.map (fun n=>n.next.count (c:Int)))[i]'(by simpa using aa)≤(t.map (fun n=>n.next.count (c:Int))).sum:=by
  have E8: ∀(r:List Nat) (k:Nat) (an:k<r.length),r[k]≤r.sum:=by
   intro r;induction r with
   |nil=>intro k an;simp at an
   |cons b q MU=>
    intro k an;cases k with
    |zero=>simp
    |succ k=>
     have:=MU k (by simpa using an);simp only [D2,List.sum_cons];omega
  exact E8 _ _ _
 rw [kK,←eo aP aa] at dz;omega
theorem Ol {t:aK}(h:Valid t)(o:dj){j:Nat}(ae:j<t.length): ∀d i,j≤i→i+d≤t.length→(mC t o (i+d)).getD j 0=(mC t o i).getD j 0
 |0,i,_,_=>rfl
 |d+1,i,U,ab=>by rw [←ju,mC,Jd,Ol h o ae d i U J];intro c aw e;have:=h.behind (show i+d<t.length by omega) c aw;omega
theorem CJ {t:aK}(h:Valid t)(o:dj):(cj t o).getD 0 0=1:=by have aI:=h.ne;have:=Ol h o (j:=0) J t.length 0 (bT _) J;rw [cT] at this;unfold cj;rw [this,mC,Go.aj.dZ.fO,aA ⟨rfl,by simp;omega⟩]
theorem CU {t:aK}(h:Valid t)(o:dj){i m:Nat}(aa:i<t.length)(hm:m<(t.getD i aP).next.length):(cj t o).getD ((t.getD i aP).next.getD m 0).toNat 0=KJ (o i) ((cj t o).getD i 0) m:=by
 have al:=h.behind aa _ (dt 0 hm);have aw:((t.getD i aP).next.getD m 0).toNat<t.length:=J;have U:(mC t o (i+1)).getD ((t.getD i aP).next.getD m 0).toNat 0=KJ (o i) ((mC t o i).getD i 0) m:=by rw [mC,Zc _ _ _ _ m hm (h.Ig aa) (fun c aw=>by rw [yJ];have:=h.behind aa c aw;omega),cT]
 have ab:=Ol h o (j:=i) aa (t.length-i) i (bT _) J;rw [show i+(t.length-i)=t.length by omega] at ab
 --the child is not touched again
 have key: ∀d,i+1+d≤t.length→(mC t o (i+1+d)).getD ((t.getD i aP).next.getD m 0).toNat 0=(mC t o (i+1)).getD ((t.getD i aP).next.getD m 0).toNat 0:=by
  intro d;induction d with
  |zero=>intro _;rfl
  |succ d ba=>
   intro hd;rw [←ju,mC,Jd,ba J];intro c rf e;have adF:=h.behind (show i+1+d<t.length by omega) c rf;have ee:kP t i ((t.getD i aP).next.getD m 0).toNat:=by unfold kP;rw [show ((((t.getD i aP).next.getD m 0).toNat:Nat):Int)=(t.getD i aP).next.getD m 0 by omega];exact dt 0 hm
   have fg:kP t (i+1+d) ((t.getD i aP).next.getD m 0).toNat:=by unfold kP;rw [←e,show ((c.toNat:Nat):Int)=c by omega];exact rf
   have:=h.parent aw J aa J ee fg;omega
 have ay:=key (t.length-(i+1)) J;rw [show i+1+(t.length-(i+1))=t.length by omega] at ay;unfold cj;rw [ay,U,ab]
theorem CW {f:Nat→Rat}{a:Nat}: ∀{n:Nat},a<n→b3 (fun j=>if j=a then f j else 0) n=f a
 |0,h=>absurd h (gg _)
 |n+1,h=>by
  rw [b3];by_cases e:n=a
  ·subst e;have:b3 (fun j=>if j=n then f j else 0) n=0:=by rw [e4 (g:=fun _=>0) (fun i aa=>by rw [ax J]),pW]
   rw [this,aA rfl,jU]
  ·rw [CW (n:=n) J,ax e,je]
theorem sL: ∀(l:List Rat) (a:Rat),ez a l=a+ez 0 l
 |[],a=>by rw [ez,ez,je]
 |q::r,a=>by rw [ez,ez,sL r (a+q),sL r (0+q),jU,xC]
theorem PR {f:Nat→Rat}{n:Nat}: ∀(ks:List Nat),ks.Nodup→(∀k∈ks,k<n)→b3 (fun j=>if j∈ks then f j else 0) n=ez 0 (ks.map f)
 |[],_,_=>by rw [e4 (g:=fun _=>0) (fun i aa=>by rw [ax bX]),pW];rfl
 |a::r,aI,au=>by
  rw [xG] at aI;rw [k6,ez,sL,jU,←PR r aI.2 (fun k an=>au k (by simp [an])),←CW (f:=f) (au a bX),←vl];refine e4 (fun j ae=> ?_);by_cases U:j=a
  ·subst U;rw [aA bX,aA rfl,ax aI.1,je]
  ·by_cases ab:j∈r
   ·rw [aA (by simp [ab]),ax U,aA ab,jU]
   ·rw [ax (by simp [U,ab]),ax U,ax ab,jU]
structure OddsOK (t:aK)(o:dj)(d:Nat):Prop where
 at': ∀i,i<t.length→(t.getD i aP).kind≠0→ ∃l,o i=some l∧l.length=(t.getD i aP).next.length∧ez 0 l=1∧ ∀q∈l,0≤q∧D d q
def rW (t:aK)(i:Nat):List Nat:=(t.getD i aP).next.map Int.toNat
theorem Pq {t:aK}(h:Valid t){i j:Nat}(aa:i<t.length):j∈rW t i↔kP t i j:=by
 unfold rW kP;rw [cO];constructor
 ·rintro ⟨x,ar,rfl⟩;have:=h.behind aa x ar;rw [show ((x.toNat:Nat):Int)=x by omega];exact ar
 ·intro ar;exact ⟨_,ar,cg j⟩
theorem XI {t:aK}(h:Valid t){i:Nat}(aa:i<t.length)(an:(t.getD i aP).kind=0):rW t i=[]:=by
 rcases h.child aa with ⟨_,ab⟩|⟨U,_⟩
 ·unfold rW;rw [ab];rfl
 ·rcases U with U|U<;>rw [an] at U<;>exact absurd U aT
theorem ags {t:aK}(h:Valid t){o:dj}{d:Nat}(ah:OddsOK t o d){i:Nat}(aa:i<t.length)(an:(t.getD i aP).kind≠0):ez 0 ((rW t i).map (fun j=>(cj t o).getD j 0))=(cj t o).getD i 0:=by
 obtain ⟨l,U,ab,ay,bf⟩:=ah.at' i aa an;have e:(rW t i).map (fun j=>(cj t o).getD j 0)=l.map (fun q=>(cj t o).getD i 0*q):=by
  apply jS (by simp [rW,ab]);intro m EI zS;have hm:m<(t.getD i aP).next.length:=by simpa [rW] using EI
  have:=CU h o aa hm;rw [U] at this;simp only [kK];have aH:(rW t i)[m]'(by simpa [rW] using hm)=((t.getD i aP).next.getD m 0).toNat:=by simp only [rW,kK];rw [eo 0 hm]
  have fL:m<l.length:=by rw [ab];exact hm
  rw [aH,this];exact congrArg (fun x=>(cj t o).getD i 0*x) (eo 0 fL)
 have key: ∀(q:Rat) (l:List Rat) (a:Rat),ez (q*a) (l.map (fun x=>q*x))=q*ez a l:=by
  intro q l;induction l with
  |nil=>intro a;rfl
  |cons x r ba=>intro a;rw [k6,ez,ez,←Rat.mul_add,ba]
 rw [e];have:=key ((cj t o).getD i 0) l 0;rw [uv] at this;rw [this,ay,Rat.mul_one]
def vv (t:aK)(i j:Nat):Prop:=(j<i∧(t.getD j aP).kind=0)∨(i≤j∧(j=0∨ ∃a,a<i∧kP t a j))
open Classical in
theorem Wn {t:aK}(h:Valid t){o:dj}{d:Nat}(ah:OddsOK t o d): ∀i,i≤t.length→b3 (fun j=>if vv t i j then (cj t o).getD j 0 else 0) t.length=1
 |0,_=>by
  have aI:=h.ne;rw [e4 (g:=fun j=>if j=0 then (cj t o).getD j 0 else 0) (fun j ae=> ?_),CW J,CJ h];by_cases e:j=0
  ·rw [aA e,aA (.inr ⟨b7 _,.inl e⟩)]
  ·rw [ax e,ax];rintro (⟨q,_⟩|⟨_,q|⟨a,q,_⟩⟩)
   ·omega
   ·exact e q
   ·omega
 |i+1,aa=>by
  have ba:=Wn h ah i J;have aL:i<t.length:=J;have Ey:vv t i i:=by
   right;refine ⟨bT _,?_⟩;by_cases e:i=0
   ·exact .inl e
   ·obtain ⟨a,a8,an⟩:=h.has aL e;exact .inr ⟨a,(h.uR a8 an).1,an⟩
  have EG: ∀j,kP t i j→j<t.length→ ¬vv t i j:=by
   intro j an ae;have:=h.uR aL an;rintro (⟨q,_⟩|⟨_,q|⟨a,q,l0⟩⟩)
   ·omega
   ·omega
   ·have:=h.parent ae J aL J an l0;omega
  have ajT:b3 (fun j=>if vv t (i+1) j then (cj t o).getD j 0 else 0) t.length
   =b3 (fun j=>(if vv t i j then (cj t o).getD j 0 else 0)+((if j∈rW t i then (cj t o).getD j 0 else 0)+(if j=i then (if (t.getD i aP).kind=0 then 0 else-(cj t o).getD i 0) else 0))) t.length:=by
   refine e4 (fun j ae=> ?_);have lF:=Pq h aL (j:=j);by_cases e:j=i
   ·subst e;have aeU: ¬kP t j j:=fun an=>by have:=h.uR aL an;omega
    rw [aA Ey,ax (fun q=>aeU (lF.1 q)),aA rfl,jU];by_cases an:(t.getD j aP).kind=0
    ·rw [aA an,aA (.inl ⟨gN _,an⟩),je]
    ·rw [ax an,ax,Rat.add_neg_cancel];rintro (⟨_,q⟩|⟨q,_⟩)
     ·exact an q
     ·omega
   ·rw [ax e,je];by_cases an:kP t i j
    ·rw [aA (lF.2 an),ax (EG j an ae),jU,aA];have:=h.uR aL an;exact .inr ⟨J,.inr ⟨i,gN _,an⟩⟩
    ·rw [ax (fun q=>an (lF.1 q)),je];have:vv t (i+1) j↔vv t i j:=by
      constructor
      ·rintro (⟨bS,bY⟩|⟨bS,bY|⟨a,bY,db⟩⟩)
       ·exact .inl ⟨J,bY⟩
       ·omega
       ·by_cases lB:a=i
        ·subst lB;exact absurd db an
        ·exact .inr ⟨J,.inr ⟨a,J,db⟩⟩
      ·rintro (⟨bS,bY⟩|⟨bS,bY|⟨a,bY,db⟩⟩)
       ·exact .inl ⟨J,bY⟩
       ·subst bY;have:i=0:=J;exact absurd this.symm e
       ·exact .inr ⟨J,.inr ⟨a,J,db⟩⟩
     by_cases aQ:vv t i j
     ·rw [aA aQ,aA (this.2 aQ)]
     ·rw [ax aQ,ax (fun q=>aQ (this.1 q))]
  rw [ajT,vl,vl,ba,PR (rW t i) (h.Ig aL) (fun k an=>(h.uR aL ((Pq h aL).1 an)).2)];have aJ:b3 (fun j=>if j=i then (if (t.getD i aP).kind=0 then 0 else-(cj t o).getD i 0) else 0) t.length=(if (t.getD i aP).kind=0 then 0 else-(cj t o).getD i 0):=
   CW (f:=fun _=>if (t.getD i aP).kind=0 then 0 else-(cj t o).getD i 0) aL
  rw [aJ];by_cases an:(t.getD i aP).kind=0
  ·rw [aA an,XI h aL an];show (1:Rat)+(0+0)=1;rw [je,je]
  ·rw [ax an,ags h ah aL an,Rat.add_neg_cancel,je]
def cC (t:aK):List Nat:=(List.range t.length).filter (fun i=>decide ((t.getD i aP).kind=0))
theorem abN {t:aK}(h:Valid t){o:dj}{d:Nat}(ah:OddsOK t o d):ez 0 ((cC t).map (fun j=>(cj t o).getD j 0))=1:=by
 classical
 have U:=Wn h ah t.length (bT _);rw [←PR (n:=t.length) (cC t) (List.Nodup.sublist List.filter_sublist List.nodup_range) (fun k an=>by
  have:=(vQ.1 an).1;simpa using this),←U]
 refine e4 (fun j ae=> ?_);have:j∈cC t↔vv t t.length j:=by
  unfold cC vv;rw [vQ,xw,eL];constructor
  ·exact .inl
  ·rintro (q|⟨q,_⟩)
   ·exact q
   ·omega
 by_cases aQ:j∈cC t
 ·rw [aA aQ,aA (this.1 aQ)]
 ·rw [ax aQ,ax (fun q=>aQ (this.2 q))]
theorem Px: ∀(N:Nat) (l:List Nat),l.Nodup→(∀x∈l,x<N)→l.length≤N
 |0,[],_,_=>bT _
 |0,a::r,_,h=>absurd (h a bX) (gg _)
 |N+1,l,aI,h=>by
  by_cases jy:N∈l
  ·have U:=Px N (l.erase N) (aI.erase N) (fun x ar=>by
    have ab:=(aI.mem_erase_iff).1 ar;have:=h x ab.2;omega)
   rw [List.length_erase_of_mem jy] at U;omega
  ·have U:=Px N l aI (fun x ar=>by
    have:=h x ar;have:x≠N:=fun e=>jy (e▸ar);omega)
   omega
theorem JY {t:aK}(h:Valid t):(t.flatMap ep.next).length≤t.length:=by
 have al: ∀x∈t.flatMap ep.next,0<x∧x<t.length:=by intro x ar;obtain ⟨n,BY,Ml⟩:=List.mem_flatMap.1 ar;obtain ⟨i,aa,rfl⟩:=k3 BY;have:=h.behind aa x (by rw [eo aP aa];exact Ml);omega
 have l1:(t.flatMap ep.next).Nodup:=by
  rw [List.nodup_iff_count];intro a;by_cases a8:a∈t.flatMap ep.next
  ·have eA:=al a a8;have U:=h.once a.toNat J J;unfold named at U;rw [Vn,show ((a.toNat:Nat):Int)=a by omega] at U;omega
  ·rw [List.count_eq_zero_of_not_mem a8];omega
 have au:=Px t.length ((t.flatMap ep.next).map Int.toNat) (by
  rw [D0,List.pairwise_map];refine List.Pairwise.imp_of_mem ?_ (D0.1 l1);intro a b a8 BI nv e;have:=al a a8;have:=al b BI;omega) (fun x ar=>by
  obtain ⟨y,a1,rfl⟩:=cO.1 ar;have:=al y a1;omega)
 simpa using au
def fR (B:Nat)(q:Rat):Prop:= ∃z:Int,q*(B:Rat)=(z:Rat)
theorem fR.den {B:Nat}{q:Rat}(h:fR B q)(ck:B≠0):q.den∣B:=by
 obtain ⟨z,bw⟩:=h;have uF:((B:Int):Rat)≠0:=Yp J;have e:q=Rat.divInt z B:=by rw [Rat.divInt_eq_div,←bw,←xE];have U:=Rat.div_mul_cancel (a:=q*((B:Int):Rat)) uF;refine amH uF ?_;rw [n4 _ (q*((B:Int):Rat)/((B:Int):Rat)),U,n4]
 rw [e,(J3 z B ck).2.1];exact Nat.div_dvd_of_dvd (DY _ _)
theorem fR.Iq {q:Rat}:fR q.den q:=⟨q.num,Yq q⟩
theorem fR.mono {A B:Nat}{q:Rat}(h:fR A q)(hd:A∣B):fR B q:=by obtain ⟨z,bw⟩:=h;obtain ⟨k,rfl⟩:=hd;refine ⟨z*k,?_⟩;rw [Rat.natCast_mul,←uy,bw,tf,xE]
theorem fR.add {B:Nat}{a b:Rat}(a8:fR B a)(al:fR B b):fR B (a+b):=by obtain ⟨x,ar⟩:=a8;obtain ⟨y,a1⟩:=al;exact ⟨x+y,by rw [Rat.add_mul,ar,a1,Rat.intCast_add]⟩
theorem fR.mul {A B:Nat}{a b:Rat}(a8:fR A a)(al:fR B b):fR (A*B) (a*b):=by obtain ⟨x,ar⟩:=a8;obtain ⟨y,a1⟩:=al;refine ⟨x*y,?_⟩;rw [tf,←ar,←a1,Rat.natCast_mul];grind
theorem fR.zero (B:Nat):fR B 0:=⟨0,by rw [nq];rfl⟩
theorem fR.one (B:Nat):fR B 1:=⟨B,by rw [pB,xE]⟩
theorem akH {B K:Nat}{q:Rat}(h:fR B q)(ck:B≠0)(aU:0≤q)(U:q≤1)(dH:B<10^K):D K q:=by
 have hd:=Br J (h.den ck);refine ⟨?_,J⟩;have aI:q.num≤q.den:=by have ab:=Rat.not_lt.2 U;rw [Rat.lt_iff] at ab;have ay: ¬((1:Int)*(q.den:Int)<q.num*1):=ab;omega
 have:=Rat.num_nonneg.2 aU;omega
def vE:List Nat→Nat
 |[]=>1
 |a::r=>a*vE r
theorem WL {l:List Nat}(h: ∀x∈l,0<x):0<vE l:=by
 induction l with
 |nil=>exact Nat.one_pos
 |cons a r ba=>rw [vE];exact zn (h a bX) (ba (fun x ar=>h x (by simp [ar])))
theorem Ox {l:List Nat}{x:Nat}(h:x∈l):x∣vE l:=by
 induction l with
 |nil=>simp at h
 |cons a r ba=>
  rw [vE];rcases fS.1 h with rfl|q
  ·exact Nat.dvd_mul_right _ _
  ·exact Nat.dvd_trans (ba q) (Nat.dvd_mul_left _ _)
theorem PD {l:List Nat}{d:Nat}(h: ∀x∈l,x≤10^d):vE l≤10^(d*l.length):=by
 induction l with
 |nil=>rw [vE,lv,tc,zj];exact bT _
 |cons a r ba=>
  rw [vE,gK,hk,q6,oO,iI];exact jT (h a bX) (ba (fun x ar=>h x (by simp [ar])))
def Cg (o:Option (List Rat)):Nat:=match o with|none=>1|some l=>vE (l.map Rat.den)
theorem ahO (o:Option (List Rat)):0<Cg o:=by
 cases o with
 |none=>exact Nat.one_pos
 |some l=>exact WL (fun x ar=>by obtain ⟨q,_,rfl⟩:=cO.1 ar;exact q.den_pos)
def k1 (o:dj):Nat→Nat
 |0=>1
 |i+1=>k1 o i*Cg (o i)
theorem KF (o:dj): ∀i,0<k1 o i
 |0=>Nat.one_pos
 |i+1=>zn (KF o i) (ahO _)
theorem AX (o:dj){i:Nat}: ∀d,k1 o i∣k1 o (i+d)
 |0=>Nat.dvd_refl _
 |d+1=>Nat.dvd_trans (AX o d) (Nat.dvd_mul_right _ _)
structure s5 (t:aK)(o:dj)(d:Nat):Prop extends OddsOK t o d where
 none: ∀i,i<t.length→(t.getD i aP).kind=0→o i=none
theorem Gv {t:aK}{i j:Nat}(h:Valid t)(aa:i<t.length)(an:kP t i j): ∃m,m<(t.getD i aP).next.length∧((t.getD i aP).next.getD m 0).toNat=j:=by obtain ⟨m,hm,he⟩:=k3 an;exact ⟨m,hm,by rw [eo 0 hm,he];exact cg j⟩
theorem agr {t:aK}{i j:Nat}(h:Valid t)(aa:i<t.length)(an:kP t i j):(t.getD i aP).kind≠0:=by intro e;have:=XI h aa e;have ab:=(Pq h aa).2 an;rw [this] at ab;simp at ab
theorem Ok {t:aK}(h:Valid t){o:dj}{d:Nat}(ah:s5 t o d): ∀j,j<t.length→fR (k1 o j) ((cj t o).getD j 0)∧0≤(cj t o).getD j 0:=by
 intro j;induction j using Nat.strongRecOn with
 |ind j ba=>
  intro ae;by_cases aU:j=0
  ·subst aU;rw [CJ h];exact ⟨fR.one _,by decide+kernel⟩
  ·obtain ⟨i,aa,an⟩:=h.has ae aU;have bD:=h.uR aa an;obtain ⟨m,hm,he⟩:=Gv h aa an;obtain ⟨l,fW,fK,Ih,wI⟩:=ah.at' i aa (agr h aa an);have ad:=CU h o aa hm;rw [he,fW] at ad;have ad:(cj t o).getD j 0=(cj t o).getD i 0*l.getD m 0:=ad;obtain ⟨g1,g2⟩:=ba i J aa;have aB:=wI (l.getD m 0) (dt 0 J);rw [ad];refine ⟨?_,xH g2 aB.1⟩;have bL:fR (k1 o (i+1)) ((cj t o).getD i 0*l.getD m 0):=by refine (g1.mul (fR.Iq (q:=l.getD m 0))).mono ?_;show _∣k1 o i*Cg (o i);rw [fW];exact Nat.mul_dvd_mul (Nat.dvd_refl _) (Ox (cO.2 ⟨_,dt 0 J,I⟩))
   have dz:=AX o (i:=i+1) (j-(i+1));rw [show i+1+(j-(i+1))=j by omega] at dz;exact bL.mono dz
theorem QJ {t:aK}(h:Valid t){o:dj}{d:Nat}(ah:s5 t o d): ∀i,i≤t.length→k1 o i≤10^(d*((t.take i).flatMap ep.next).length)
 |0,_=>by simp [k1]
 |i+1,aa=>by
  have ba:=QJ h ah i J;have aL:i<t.length:=J;have aF:Cg (o i)≤10^(d*(t.getD i aP).next.length):=by
   by_cases an:(t.getD i aP).kind=0
   ·rw [ah.none i aL an];exact lW aT
   ·obtain ⟨l,fW,fK,Ih,wI⟩:=ah.at' i aL an;rw [fW,←fK];have:=PD (l:=l.map Rat.den) (d:=d) (fun x ar=>by
     obtain ⟨q,aB,rfl⟩:=cO.1 ar;exact q7 (wI q aB).2.2)
    rwa [cr] at this
  rw [k1,nZ aL,List.flatMap_append,c8,hk,iI];refine jT ba ?_;rw [eo aP aL] at aF;simpa using aF
theorem Ql {t:aK}(h:Valid t){o:dj}{d:Nat}(ah:s5 t o d)(aI:t.length≤40){j:Nat}(ae:j<t.length):fR (k1 o t.length) ((cj t o).getD j 0)∧k1 o t.length<10^(d*40+1):=by obtain ⟨g1,g2⟩:=Ok h ah j ae;have dz:=AX o (i:=j) (t.length-j);rw [show j+(t.length-j)=t.length by omega] at dz;refine ⟨g1.mono dz,?_⟩;have fx:=QJ h ah t.length (bT _);rw [e7] at fx;have oR:=JY h;have k8:d*(t.flatMap ep.next).length≤d*40:=hz _ J;have Eg:10^(d*(t.flatMap ep.next).length)≤10^(d*40):=fF aT k8;have:0<10^(d*40):=lW aT;rw [ic];omega
def dI {α:Type}(v:Nat→α):List Int→Nat→List α→List α
 |[],_,a=>a
 |c::r,k,a=>dI v r (k+1) (a.set c.toNat (v k))
theorem w6 {α:Type}(v:Nat→α): ∀(l:List Int) (k:Nat) (a:List α),(dI v l k a).length=a.length
 |[],_,a=>rfl
 |c::r,k,a=>by rw [dI,w6 v r];simp
theorem AA {α:Type}(v:Nat→α)(x:Int): ∀(l:List Int) (k:Nat) (a:List α),dI v (l++[x]) k a=(dI v l k a).set x.toNat (v (k+l.length))
 |[],k,a=>rfl
 |c::r,k,a=>by rw [oN,dI,dI,AA v x r (k+1)];congr 2;rw [gK];omega
theorem tP {α:Type}(v:Nat→α)(d:α){j:Nat}: ∀(l:List Int) (k:Nat) (a:List α),(∀c∈l,c.toNat≠j)→(dI v l k a).getD j d=a.getD j d
 |[],_,a,_=>rfl
 |c::r,k,a,h=>by rw [dI,tP v d r (k+1) _ (fun c aw=>h c (by simp [aw])),Go.aj.dZ.fO,ax];exact fun q=>h c bX q.1.symm
theorem Qm {α:Type}(v:Nat→α)(d:α): ∀(l:List Int) (k:Nat) (a:List α) (m:Nat),m<l.length→(l.map Int.toNat).Nodup→(∀c∈l,c.toNat<a.length)→(dI v l k a).getD (l.getD m 0).toNat d=v (k+m)
 |[],_,a,m,h,_,_=>absurd h (gg _)
 |c::r,k,a,m,h,aI,au=>by
  rw [k6,xG] at aI;rw [dI];cases m with
  |zero=>
   have:(c::r).getD 0 0=c:=rfl;rw [this,tP,Go.aj.dZ.fO,aA ⟨rfl,au c bX⟩,e6];intro x ar e;exact aI.1 (cO.2 ⟨x,ar,e⟩)
  |succ m=>
   have:(c::r).getD (m+1) 0=r.getD m 0:=rfl;rw [this,Qm v d r (k+1) _ m (by simpa using h) aI.2 (fun x ar=>by rw [dd];exact au x (by simp [ar]))];congr 1;omega
theorem OA (v:Nat→Int): ∀(l:List Int) (k:Nat) (a:List Int),vq v l k a=dI v l k a
 |[],_,a=>rfl
 |c::r,k,a=>by rw [vq,dI,OA v r]
theorem FL (v:Nat→Way): ∀(l:List Int) (k:Nat) (a:List Way),Dm v l k a=dI v l k a
 |[],_,a=>rfl
 |c::r,k,a=>by rw [Dm,dI,FL v r]
theorem Yi {α:Type}{t:aK}(h:Valid t)(d:α)(T:Nat→List α)(v:Nat→Nat→α)(b2: ∀i,i<t.length→T (i+1)=dI (v i) (t.getD i aP).next 0 (T i)){j:Nat}(ae:j<t.length): ∀e i,j≤i→i+e≤t.length→(T (i+e)).getD j d=(T i).getD j d
 |0,i,_,_=>rfl
 |e+1,i,U,ab=>by rw [←ju,b2 _ J,tP,Yi h d T v b2 ae e i U J];intro c aw gA;have:=h.behind (show i+e<t.length by omega) c aw;omega
theorem Zn {α:Type}{t:aK}(h:Valid t)(d:α)(T:Nat→List α)(v:Nat→Nat→α)(au: ∀i,(T i).length=t.length)(b2: ∀i,i<t.length→T (i+1)=dI (v i) (t.getD i aP).next 0 (T i)){i m:Nat}(aa:i<t.length)(hm:m<(t.getD i aP).next.length):
 (T t.length).getD ((t.getD i aP).next.getD m 0).toNat d=v i m:=by
 have al:=h.behind aa _ (dt 0 hm);have aw:((t.getD i aP).next.getD m 0).toNat<t.length:=J;have U:(T (i+1)).getD ((t.getD i aP).next.getD m 0).toNat d=v i m:=by rw [b2 i aa,Qm _ d _ _ _ m hm (h.Ig aa) (fun c aw=>by rw [au];have:=h.behind aa c aw;omega),cT]
 have key: ∀e,i+1+e≤t.length→(T (i+1+e)).getD ((t.getD i aP).next.getD m 0).toNat d=(T (i+1)).getD ((t.getD i aP).next.getD m 0).toNat d:=by
  intro e;induction e with
  |zero=>intro _;rfl
  |succ e ba=>
   intro hd;rw [←ju,b2 _ J,tP,ba J];intro c rf gA;have adF:=h.behind (show i+1+e<t.length by omega) c rf;have ee:kP t i ((t.getD i aP).next.getD m 0).toNat:=by unfold kP;rw [show ((((t.getD i aP).next.getD m 0).toNat:Nat):Int)=(t.getD i aP).next.getD m 0 by omega];exact dt 0 hm
   have fg:kP t (i+1+e) ((t.getD i aP).next.getD m 0).toNat:=by unfold kP;rw [←gA,show ((c.toNat:Nat):Int)=c by omega];exact rf
   have:=h.parent aw J aa J ee fg;omega
 have ay:=key (t.length-(i+1)) J;rw [show i+1+(t.length-(i+1))=t.length by omega] at ay;rw [ay,U]
theorem FR {α:Type}{t:aK}(h:Valid t)(d:α)(T:Nat→List α)(v:Nat→Nat→α)(b2: ∀i,i<t.length→T (i+1)=dI (v i) (t.getD i aP).next 0 (T i)){i:Nat}(aa:i<t.length):(T i).getD i d=(T t.length).getD i d:=by have:=Yi h d T v b2 aa (t.length-i) i (bT _) J;rw [show i+(t.length-i)=t.length by omega] at this;exact this.symm
def hv (t:aK)(p:Int):List Int:=(dc t p t.length).pos
def sP (t:aK)(p:Int):List Way:=hM t p t.length
abbrev mg (t:aK)(p:Int):List (Int×Nat):=(dc t p t.length).first
theorem NX (p:Int)(n:ep)(i:Nat)(f:nW):(fX p n i f).pos=f.pos:=by unfold fX;split<;>rfl
theorem F1 (t:aK)(p:Int)(i:Nat):(dc t p (i+1)).pos=dI (vD p (t.getD i aP) i (fX p (t.getD i aP) i (dc t p i))) (t.getD i aP).next 0 (dc t p i).pos:=by rw [dc,y5];show vq _ _ _ (fX _ _ _ _).pos=_;rw [OA,NX]
theorem w2 (t:aK)(p:Int): ∀i,(dc t p i).pos.length=t.length
 |0=>e8
 |i+1=>by rw [F1,w6,w2 t p i]
theorem aoN {m kp:List (Int×Nat)}{k:Int}{s:Nat}(h:fY m k=some s):fY (m++kp) k=some s:=by unfold fY at h⊢;obtain ⟨x,ar,rfl⟩:=GZ.1 h;rw [List.find?_append,ar];rfl
theorem Vm {t:aK}{p:Int}{k:Int}{s:Nat}{i:Nat}: ∀e,fY (dc t p i).first k=some s→fY (dc t p (i+e)).first k=some s
 |0,h=>h
 |e+1,h=>by
  rw [←ju,dc,y5];show fY (fX _ _ _ _).first k=some s
  have:=Vm e h;unfold fX;split
  ·exact aoN this
  ·exact this
theorem XD {t:aK}{p:Int}(ai:Valid t){i:Nat}(aa:i<t.length)(ah:own p (t.getD i aP)=true): ∃s,fY (fX p (t.getD i aP) i (dc t p i)).first (t.getD i aP).info=some s∧fY (mg t p) (t.getD i aP).info=some s:=by
 have h:=hP.mm ai p i J;obtain ⟨s,av⟩:=(hP.add ai h aa h h.ll.1).2.2.2.2.2.2.2.2.2 ah;refine ⟨s,av,?_⟩;have ab:fY (dc t p (i+1)).first (t.getD i aP).info=some s:=av
 have:=Vm (t.length-(i+1)) ab
 rwa [show i+1+(t.length-(i+1))=t.length by omega] at this
abbrev rJ (t:aK)(p x:Int):Nat:=(fY (mg t p) x).getD 0
theorem YY {t:aK}(ai:Valid t)(p:Int){i m:Nat}(aa:i<t.length)(hm:m<(t.getD i aP).next.length):
 (hv t p).getD ((t.getD i aP).next.getD m 0).toNat 0=if own p (t.getD i aP)=true then ((rJ t p (t.getD i aP).info:Nat):Int)+(m:Int) else (hv t p).getD i 0:=by
 have an:=Zn ai (0:Int) (fun i=>(dc t p i).pos) (fun i=>vD p (t.getD i aP) i (fX p (t.getD i aP) i (dc t p i))) (w2 t p) (fun i _=>F1 t p i) aa hm;have aF:=FR ai (0:Int) (fun i=>(dc t p i).pos) _ (fun i _=>F1 t p i) aa;refine an.trans ?_;unfold vD;split
 ·rename_i ah;obtain ⟨s,U,ab⟩:=XD ai aa ah;rw [U];unfold rJ;rw [ab]
 ·rw [NX];exact aF
theorem XX {t:aK}(ai:Valid t)(p:Int):(hv t p).getD 0 0=0:=by have aI:=ai.ne;have:=FR ai (0:Int) (fun i=>(dc t p i).pos) _ (fun i _=>F1 t p i) (i:=0) J;refine this.symm.trans ?_;show (List.replicate t.length (0:Int)).getD 0 0=0;simp only [List.getD,oM];split<;>rfl
theorem akY {t:aK}(ai:Valid t)(p:Int){i m:Nat}(aa:i<t.length)(hm:m<(t.getD i aP).next.length):
 (sP t p).getD ((t.getD i aP).next.getD m 0).toNat []=r6 p (t.getD i aP) ((sP t p).getD i []) m:=by
 have b2: ∀i,i<t.length→hM t p (i+1)=dI (r6 p (t.getD i aP) ((hM t p i).getD i [])) (t.getD i aP).next 0 (hM t p i):=fun i _=>by rw [hM,FL]
 have an:=Zn ai ([]:Way) (fun i=>hM t p i) (fun i=>r6 p (t.getD i aP) ((hM t p i).getD i [])) (FP t p) b2 aa hm;have aF:=FR ai ([]:Way) (fun i=>hM t p i) _ b2 aa;refine an.trans ?_;show r6 p _ ((hM t p i).getD i []) m=_;rw [show (hM t p i).getD i []=(sP t p).getD i [] from aF]
theorem akZ {t:aK}(ai:Valid t)(p:Int):(sP t p).getD 0 []=[]:=by
 have aI:=ai.ne;have b2: ∀i,i<t.length→hM t p (i+1)=dI (r6 p (t.getD i aP) ((hM t p i).getD i [])) (t.getD i aP).next 0 (hM t p i):=fun i _=>by rw [hM,FL]
 have:=FR ai ([]:Way) (fun i=>hM t p i) _ b2 (i:=0) J;refine this.symm.trans ?_;show (List.replicate t.length ([]:Way)).getD 0 []=[]
 simp only [List.getD,oM];split<;>rfl
def Is (F:Int→Nat)(w:Way):Int:=match w.getLast? with
 |none=>0
 |some x=>((F x.1:Nat):Int)+x.2
theorem YZ {t:aK}(ai:Valid t)(p:Int): ∀j,j<t.length→(hv t p).getD j 0=Is (rJ t p) ((sP t p).getD j []):=by
 intro j;induction j using Nat.strongRecOn with
 |ind j ba=>
  intro ae;by_cases aU:j=0
  ·subst aU;rw [XX ai,akZ ai];rfl
  ·obtain ⟨i,aa,an⟩:=ai.has ae aU;have bD:=ai.uR aa an;obtain ⟨m,hm,he⟩:=Gv ai aa an;have U:=YY ai p aa hm;have ab:=akY ai p aa hm;rw [he] at U ab;rw [U,ab];unfold r6;split
   ·unfold Is;rw [List.getLast?_append];rfl
   ·exact ba i J aa
theorem I2 {t:aK}{p:Int}{x:Int×Nat}{i:Nat}: ∀e,x∈kS t p i→x∈kS t p (i+e)
 |0,h=>h
 |e+1,h=>by
  rw [←ju,kS];split
  ·exact tb _ (I2 e h)
  ·exact I2 e h
theorem NQ (t:aK)(p:Int): ∀i,((kS t p i).map Prod.fst).Nodup
 |0=>List.nodup_nil
 |i+1=>by
  rw [kS];split
  ·rename_i aw;rw [gV,List.nodup_append];refine ⟨NQ t p i,bX,fun a a8 b al e=> ?_⟩;have:b=(t.getD i aP).info:=by simpa using al
   have fU:=Fy aw.2;rw [←this,←e] at fU;exact fU a8
  ·exact NQ t p i
theorem PB {t:aK}{p:Int}{W:List Way}: ∀{n i:Nat},sT t p W n=true→i<n→own p (t.getD i aP)=true→ ∃k,((t.getD i aP).info,k)∈kS t p n∧W.getD i []=W.getD k []
 |0,i,_,h,_=>absurd h (gg _)
 |n+1,i,aF,aa,ah=>by
  rw [sT,eb] at aF;by_cases e:i=n
  ·subst e;have ab:=aF.2;rw [aA ah] at ab;cases au:fY (kS t p i) (t.getD i aP).info with
   |none=>
    refine ⟨i,?_,I⟩;rw [kS,aA ⟨ah,au⟩];simp
   |some k=>
    rw [au] at ab;exact ⟨k,I2 1 (wW au),by simpa using ab⟩
  ·obtain ⟨k,ee,fg⟩:=PB aF.1 J ah;exact ⟨k,I2 1 ee,fg⟩
theorem ahP {t:aK}(ai:Valid t){p:Int}(aF:jo t p=true){i j:Nat}(aa:i<t.length)(ae:j<t.length)(uT:own p (t.getD i aP)=true)(Ir:own p (t.getD j aP)=true)(he:(t.getD i aP).info=(t.getD j aP).info):(hv t p).getD i 0=(hv t p).getD j 0:=by obtain ⟨a,gy,a2⟩:=PB aF aa uT;obtain ⟨b,ei,ew⟩:=PB aF ae Ir;have:=Kj (NQ t p t.length) gy ei he;have nv:a=b:=congrArg Prod.snd this;rw [YZ ai p i aa,YZ ai p j ae];show Is _ ((hM t p t.length).getD i [])=Is _ ((hM t p t.length).getD j []);rw [a2,ew,nv]
theorem Xn {t:aK}(ai:Valid t)(p:Int): ∀i,i≤t.length→ ∀x∈(dc t p i).first,∃j,j<i∧gG p x.1 (t.getD j aP)=true∧x.2+(t.getD j aP).next.length≤(dc t p i).cA.length∧
 ∀c,c<(t.getD j aP).next.length→(dc t p i).cA.getD (x.2+c) cZ=⟨x.1,(c:Int),(hv t p).getD j 0⟩
 |0,_,x,ar=>by simp [dc] at ar
 |i+1,aa,x,ar=>by
  have ba:=Xn ai p i J;have aF:=FR ai (0:Int) (fun i=>(dc t p i).pos) _ (fun i _=>F1 t p i) (i:=i) J;have ar:x∈(fX p (t.getD i aP) i (dc t p i)).first:=ar
  show∃j,j<i+1∧_∧_≤(fX p (t.getD i aP) i (dc t p i)).cA.length∧ ∀c,_→(fX p (t.getD i aP) i (dc t p i)).cA.getD (x.2+c) cZ=_;generalize aI:t.getD i aP=n at*;unfold fX at ar⊢;split at ar
  ·rename_i aw;rw [aA aw];rcases gM.1 ar with q|q
   ·obtain ⟨j,oW,rm,E4,E5⟩:=ba x q;refine ⟨j,J,rm,by show _≤(_++_:List fk).length;rw [c8];omega,fun c rf=> ?_⟩;show ((dc t p i).cA++_).getD (x.2+c) cZ=_;rw [rG _ J];exact E5 c rf
   ·have Cb:x=(n.info,(dc t p i).cA.length):=by simpa using q
    subst Cb;refine ⟨i,gN _,?_,?_,fun c rf=> ?_⟩
    ·rw [aI];unfold gG;rw [aw.1];simp
    ·rw [aI];show (dc t p i).cA.length+n.next.length≤((dc t p i).cA++nI n _).length
     rw [c8];simp [nI]
    ·rw [aI] at rf;show ((dc t p i).cA++nI n ((dc t p i).pos.getD i 0)).getD ((dc t p i).cA.length+c) cZ=_;have e:((dc t p i).cA++nI n ((dc t p i).pos.getD i 0)).getD ((dc t p i).cA.length+c) cZ=(nI n ((dc t p i).pos.getD i 0)).getD c cZ:=by simp only [List.getD];rw [ib J,vN]
     rw [e];unfold nI;rw [mY _ _ 0 _ _ (by simpa using rf)];have aF:(dc t p i).pos.getD i 0=(hv t p).getD i 0:=aF;rw [aF];simp [List.getD,rf]
  ·rename_i aw;rw [ax aw];obtain ⟨j,oW,rm,E4,E5⟩:=ba x ar;exact ⟨j,J,rm,E4,E5⟩
theorem aic {t:aK}(ai:Valid t){p:Int}(aF:jo t p=true)(u:Int→List Rat){i m:Nat}(aa:i<t.length)(ah:own p (t.getD i aP)=true)(hm:m<(t.getD i aP).next.length):
 (ev t p u).getD (((rJ t p (t.getD i aP).info:Nat):Int)+(m:Int)).toNat 0=(ev t p u).getD ((hv t p).getD i 0).toNat 0*(u (t.getD i aP).info).getD m 0:=by
 obtain ⟨s,_,ab⟩:=XD ai aa ah;have ar:=wW ab;have h:=hP.mm ai p t.length (bT _);obtain ⟨j,oW,rm,E4,E5⟩:=Xn ai p t.length (bT _) _ ar;have lE:=rm;unfold gG at lE;rw [eb,eL] at lE;have hw:=ai.width aa oW ah lE.1 lE.2.symm;have e1:=ahP ai aF aa oW ah lE.1 lE.2.symm;have dS:rJ t p (t.getD i aP).info=s:=by unfold rJ;rw [ab];rfl
 rw [dS];obtain ⟨ei,ew⟩:=h.l7 ((hv t p).getD j 0) (dt 0 (by show j<(dc t p t.length).pos.length;rw [w2];exact oW));have av:=E5 m J;obtain ⟨bS,bY,b,db,dP,gZ⟩:=h.fst _ ar;have SX:=tT ai oW rm;have gY:=gZ m (by have SX:cm t p (t.getD i aP).info=_:=SX;show m<cm t p (t.getD i aP).info;omega);rw [av] at gY;have al:(hv t p).getD j 0=b:=congrArg fk.before gY;have dP:b<(s:Int):=dP;have E4:s+(t.getD j aP).next.length≤(dc t p t.length).cA.length:=E4
 have av:(bN t p).getD (s+m) cZ=⟨(t.getD i aP).info,(m:Int),(hv t p).getD j 0⟩:=av;have hlen:s+m<(bN t p).length:=by show s+m<(dc t p t.length).cA.length;omega
 rw [show (((s:Nat):Int)+(m:Int)).toNat=s+m by omega];unfold ev;rw [w1 _ _ hlen,av];unfold rD;simp only;rw [ax J,cg,e1,CF _ _ (show ((hv t p).getD j 0).toNat<s+m by omega) (show ((hv t p).getD j 0).toNat<(bN t p).length by omega)]
def mh (t:aK)(p:Int)(u:Int→List Rat)(o:dj):dj:=fun i=>if own p (t.getD i aP)=true then some (u (t.getD i aP).info) else o i
theorem JD {t:aK}(ai:Valid t)(p:Int)(u:Int→List Rat):(ev t p u).getD 0 0=1:=by obtain ⟨_,U,ab,_⟩:=qI ai p;unfold ev;rw [w1 _ _ ab,U];rfl
theorem I7 {t:aK}(ai:Valid t){p:Int}(aF:jo t p=true)(u:Int→List Rat){o:dj}(ah: ∀i,i<t.length→own p (t.getD i aP)=true→o i=none): ∀j,j<t.length→(cj t (mh t p u o)).getD j 0=(cj t o).getD j 0*(ev t p u).getD ((hv t p).getD j 0).toNat 0:=by
 intro j;induction j using Nat.strongRecOn with
 |ind j ba=>
  intro ae;by_cases aU:j=0
  ·subst aU;rw [CJ ai,CJ ai,XX ai,pB];exact (JD ai p u).symm
  ·obtain ⟨i,aa,an⟩:=ai.has ae aU;have bD:=ai.uR aa an;obtain ⟨m,hm,he⟩:=Gv ai aa an;have U:=CU ai (mh t p u o) aa hm;have ab:=CU ai o aa hm;have ay:=YY ai p aa hm;have bf:=ba i J aa;rw [he] at U ab ay;rw [U,ab,ay,bf];by_cases B1:own p (t.getD i aP)=true
   ·have e:mh t p u o i=some (u (t.getD i aP).info):=by unfold mh;rw [aA B1]
    rw [e,aA B1,ah i aa B1,aic ai aF u aa B1 hm];show _*_*_=(cj t o).getD i 0*(_*_);rw [uy]
   ·have e:mh t p u o i=o i:=by unfold mh;rw [ax B1]
    rw [e,ax B1];cases o i with
    |none=>rfl
    |some l=>
     show _*_*_=_*_*_;rw [uy,uy,n4 (l.getD m 0)]
def hN (t:aK)(r:List Rat)(i:Nat):Rat:=r.getD i 0*cE (t.getD i aP).iX
def il (t:aK)(o:dj):Rat:=ez 0 ((cC t).map (hN t (cj t o)))
def r2 (t:aK)(p:Int)(r:List Rat)(i:Nat):Rat:=if p=1 then-(hN t r i) else hN t r i
def rT (g:Nat→Rat)(pos:List Int):List Nat→List Rat→List Rat
 |[],S=>S
 |i::r,S=>rT g pos r (S.set (pos.getD i 0).toNat (S.getD (pos.getD i 0).toNat 0+g i))
theorem VX (g:Nat→Rat)(pos:List Int)(x:Nat): ∀(ks:List Nat) (S:List Rat),rT g pos (ks++[x]) S=(rT g pos ks S).set (pos.getD x 0).toNat ((rT g pos ks S).getD (pos.getD x 0).toNat 0+g x)
 |[],S=>rfl
 |i::r,S=>by rw [oN,rT,rT,VX g pos x r]
theorem OV (g:Nat→Rat)(pos:List Int): ∀(ks:List Nat) (S:List Rat),(rT g pos ks S).length=S.length
 |[],S=>rfl
 |i::r,S=>by rw [rT,OV g pos r,dd]
def ng (P S:List Rat)(n:Nat):Rat:=b3 (fun k=>P.getD k 0*S.getD k 0) n
theorem YM {P S:List Rat}{n k:Nat}(y:Rat)(an:k<n)(dq:k<S.length):ng P (S.set k (S.getD k 0+y)) n=ng P S n+P.getD k 0*y:=by
 unfold ng;rw [←CW (f:=fun _=>P.getD k 0*y) an,←vl];refine e4 (fun j ae=> ?_);rw [Go.aj.dZ.fO];by_cases h:j=k
 ·subst h;rw [aA ⟨rfl,dq⟩,aA rfl,Rat.mul_add]
 ·rw [ax (fun q=>h q.1),ax h,je]
theorem O2 (P:List Rat)(g:Nat→Rat)(pos:List Int){n:Nat}: ∀(ks:List Nat) (S:List Rat),(∀i∈ks,(pos.getD i 0).toNat<n)→n≤S.length→ng P (rT g pos ks S) n=ng P S n+ez 0 (ks.map (fun i=>P.getD (pos.getD i 0).toNat 0*g i))
 |[],S,_,_=>by rw [rT,th,ez,je]
 |i::r,S,h,dq=>by have aa:=h i bX;rw [rT,O2 P g pos r _ (fun j ae=>h j (by simp [ae])) (by rw [dd];exact dq),YM _ aa J,k6,ez,jU,sL _ (P.getD (pos.getD i 0).toNat 0*g i),xC]
theorem XB (P:List Rat)(n m:Nat):ng P (List.replicate m 0) n=0:=by
 unfold ng;rw [e4 (g:=fun _=>0) (fun j ae=> ?_),pW];have:(List.replicate m (0:Rat)).getD j 0=0:=by simp only [List.getD,oM];split<;>rfl
 rw [this,uv]
theorem Pn (f:Nat→Rat): ∀ks:List Nat,ez 0 (ks.map (fun i=> -(f i)))= -(ez 0 (ks.map f))
 |[]=>by rw [th,th,ez];rfl
 |a::r=>by rw [k6,k6,ez,ez,sL,sL (r.map f),Pn f r,jU,jU,Rat.neg_add]
theorem vw {t:aK}(ai:Valid t)(p:Int){j:Nat}(ae:j<t.length):0≤(hv t p).getD j 0∧((hv t p).getD j 0).toNat<(bN t p).length:=by have h:=hP.mm ai p t.length (bT _);have:=h.l7 ((hv t p).getD j 0) (dt 0 (by show j<(dc t p t.length).pos.length;rw [w2];exact ae));have e:(bN t p).length=(dc t p t.length).cA.length:=rfl;omega
theorem mZ {t:aK}{i:Nat}(h:i∈cC t):i<t.length∧(t.getD i aP).kind=0:=by have:=vQ.1 h;exact ⟨by simpa using this.1,by simpa using this.2⟩
def nM (t:aK)(p:Int)(o:dj):List Rat:=rT (r2 t p (cj t o)) (hv t p) (cC t) (List.replicate (bN t p).length 0)
theorem amm {t:aK}(ai:Valid t){p:Int}(aF:jo t p=true)(u:Int→List Rat){o:dj}(ah: ∀i,i<t.length→own p (t.getD i aP)=true→o i=none):
 ng (ev t p u) (nM t p o) (bN t p).length=if p=1 then-(il t (mh t p u o)) else il t (mh t p u o):=by
 unfold nM;rw [O2 _ _ _ _ _ (fun i aa=>(vw ai p (mZ aa).1).2) (by rw [e8];exact bT _),XB,jU];have e:(cC t).map (fun i=>(ev t p u).getD ((hv t p).getD i 0).toNat 0*r2 t p (cj t o) i)=(cC t).map (fun i=>if p=1 then-(hN t (cj t (mh t p u o)) i) else hN t (cj t (mh t p u o)) i):=by
  refine k5 (fun i aa=> ?_);have av:=I7 ai aF u ah i (mZ aa).1;unfold r2 hN;rw [av];have key: ∀a b c:Rat,a*(b*c)=b*a*c:=fun a b c=>by rw [←uy,n4 a b]
  split
  ·rw [←key,Rat.mul_neg]
  ·rw [key]
 rw [e];unfold il;split
 ·exact Pn _ _
 ·rfl
def ht (S:List Rat)(s:Nat):Nat→Nat
 |0=>s
 |m+1=>if S.getD (ht S s m) 0<S.getD (s+m) 0 then s+m else ht S s m
theorem CL (S:List Rat)(s:Nat): ∀m,s≤ht S s m∧ht S s m<s+m+1∧(1≤m→ht S s m<s+m)
 |0=>⟨bT _,gN _,fun h=>absurd h aT⟩
 |m+1=>by
  obtain ⟨U,ab,ay⟩:=CL S s m;rw [ht];split
  ·exact ⟨J,J,fun _=>by omega⟩
  ·exact ⟨U,J,fun _=>by omega⟩
abbrev Bb:=Nat×List Rat×List (Int×Int)
def Pa (l:List fk)(st:Bb):Bb:=
 let s:=st.1-1-(l.getD (st.1-1) cZ).choice.toNat
 let b:=ht st.2.1 s (st.1-s)
 let q:=l.getD b cZ
 (s,st.2.1.set q.before.toNat (st.2.1.getD q.before.toNat 0+st.2.1.getD b 0),st.2.2++[(q.info,q.choice)])
def sQ (l:List fk):Nat→Bb→Bb
 |0,st=>st
 |f+1,st=>if 1<st.1 then sQ l f (Pa l st) else st
theorem w7 (f:Nat→Rat)(a:Nat): ∀w,b3 f (a+w)=b3 f a+b3 (fun c=>f (a+c)) w
 |0=>by rw [e6,b3,je]
 |w+1=>by rw [←ju,b3,w7 f a w,b3,xC]
structure sZ (t:aK)(p:Int)(e:Nat):Prop where
 one:1≤e
 le:e≤(bN t p).length
 whole: ∀x∈mg t p,x.2<e→x.2+cm t p x.1≤e
theorem sZ.top {t:aK}(ai:Valid t)(p:Int):sZ t p (bN t p).length:=
 ⟨(qI ai p).2.2.1,bT _,fun x ar _=>((hP.mm ai p t.length (bT _)).fst x ar).2.1⟩
structure bQ (t:aK)(p:Int)(e:Nat)(x:Int×Nat)(b:Nat):Prop where
 mem:x∈mg t p
 info:x.1∈cv t p
 one:1≤x.2
 l9:1≤cm t p x.1
 fin:x.2+cm t p x.1=e
 lt:b<x.2
 zw:sZ t p x.2
 cA: ∀c,c<cm t p x.1→(bN t p).getD (x.2+c) cZ=⟨x.1,(c:Int),(b:Int)⟩
theorem sZ.sh {t:aK}(ai:Valid t){p:Int}{e:Nat}(h:sZ t p e)(he:1<e): ∃x b,bQ t p e x b:=by
 have au:=h.le;obtain ⟨x,b,tH,hE,iQ,nF,ru,yt,Ap,u7⟩:=Dp ai (p:=p) (k:=e-1) J J;have hw:=h.whole x tH J;refine ⟨x,b,tH,hE,yt,J,J,ru,⟨yt,J,fun y a1 bD=> ?_⟩,u7⟩;rcases gz x.2 (y.2+cm t p y.1) with q|q
 ·obtain ⟨gu,h7,b',ei,ew,nt⟩:=(hP.mm ai p t.length (bT _)).fst y a1;have aH:=nt (x.2-y.2) J;rw [show y.2+(x.2-y.2)=x.2 by omega] at aH;have aJ:=u7 0 J;rw [e6] at aJ;have aH:(bN t p).getD x.2 cZ=⟨y.1,((x.2-y.2:Nat):Int),b'⟩:=aH;rw [aJ] at aH;have:=congrArg fk.choice aH;have:((0:Nat):Int)=((x.2-y.2:Nat):Int):=this;omega
 ·exact q
theorem bQ.step {t:aK}{p:Int}{e:Nat}{x:Int×Nat}{b:Nat}(h:bQ t p e x b)(S:List Rat)(C:List (Int×Int)):
 Pa (bN t p) (e,S,C)=(x.2,S.set b (S.getD b 0+S.getD (ht S x.2 (cm t p x.1)) 0),C++[(x.1,((ht S x.2 (cm t p x.1)-x.2:Nat):Int))]):=by have U:=h.fin;have ab:=h.l9;have av:=h.cA (cm t p x.1-1) J;rw [show x.2+(cm t p x.1-1)=e-1 by omega] at av;obtain ⟨bS,_,db⟩:=CL S x.2 (cm t p x.1);have db:=db ab;have al:=h.cA (ht S x.2 (cm t p x.1)-x.2) J;rw [show x.2+(ht S x.2 (cm t p x.1)-x.2)=ht S x.2 (cm t p x.1) by omega] at al;have aH:e-1-((cm t p x.1-1:Nat):Int).toNat=x.2:=J;unfold Pa;simp only [av];rw [aH,show e-x.2=cm t p x.1 by omega,al];simp only [cg]
theorem bQ.ahZ {t:aK}{p:Int}{e:Nat}{x:Int×Nat}{b:Nat}(h:bQ t p e x b)(au:e≤(bN t p).length)(u:Int→List Rat): ∀c,c<cm t p x.1→(ev t p u).getD (x.2+c) 0=(ev t p u).getD b 0*(u x.1).getD c 0:=by intro c aw;have U:=h.fin;have ab:=h.lt;unfold ev;rw [w1 _ _ (show x.2+c<(bN t p).length by omega),h.cA c aw];unfold rD;simp only;rw [ax J,cg,cg,CF _ _ (show b<x.2+c by omega) (show b<(bN t p).length by omega)]
structure DL (t:aK)(p:Int)(u:Int→List Rat):Prop where
 len: ∀x∈cv t p,(u x).length=cm t p x
 sum: ∀x∈cv t p,ez 0 (u x)=1
 qB: ∀x∈cv t p,∀q∈u x,0≤q
theorem aid {t:aK}(ai:Valid t){p:Int}{u:Int→List Rat}(hu:DL t p u): ∀k,k<(bN t p).length→0≤(ev t p u).getD k 0:=by
 intro k;induction k using Nat.strongRecOn with
 |ind k ba=>
  intro an;rcases n2 k with e|e
  ·subst e;rw [JD ai];decide+kernel
  ·obtain ⟨x,b,tH,hE,iQ,nF,ru,yt,Ap,u7⟩:=Dp ai e an;have av:=u7 (k-x.2) J;rw [show x.2+(k-x.2)=k by omega] at av;have ab:=ba b J J;unfold ev at ab⊢;rw [w1 _ _ an,av];unfold rD;simp only;rw [ax J,cg,cg];rw [CF _ _ (show b<(bN t p).length by omega) (show b<k by omega)] at ab;exact xH ab (hu.qB x.1 hE _ (dt 0 (by rw [hu.len x.1 hE];omega)))
theorem agY {t:aK}{p:Int}{u:Int→List Rat}(hu:DL t p u){x:Int}(ar:x∈cv t p):b3 (fun c=>(u x).getD c 0) (cm t p x)=1:=by rw [OS _ _ (by rw [hu.len x ar];exact bT _),kI (by rw [hu.len x ar];exact bT _),hu.sum x ar]
theorem abp {t:aK}{p:Int}{e:Nat}{x:Int×Nat}{b:Nat}(h:bQ t p e x b)(au:e≤(bN t p).length)(u:Int→List Rat)(S:List Rat):
 ng (ev t p u) S e=ng (ev t p u) S x.2+(ev t p u).getD b 0*b3 (fun c=>(u x.1).getD c 0*S.getD (x.2+c) 0) (cm t p x.1):=by unfold ng;rw [←h.fin,w7,←tS];congr 1;refine e4 (fun c aw=> ?_);rw [h.ahZ au u c aw,uy]
theorem abr {t:aK}{p:Int}{e:Nat}{x:Int×Nat}{b:Nat}(h:bQ t p e x b)(P S:List Rat)(y:Rat)(dq:e≤S.length):ng P (S.set b (S.getD b 0+y)) x.2=ng P S x.2+P.getD b 0*y:=by have U:=h.fin;have ab:=h.lt;exact YM y h.lt J
theorem Xj (l:List fk){y:Int×Int}: ∀(f:Nat) (st:Bb),y∈st.2.2→y∈(sQ l f st).2.2
 |0,st,h=>h
 |f+1,st,h=>by
  rw [sQ];split
  ·exact Xj l f _ (tb _ h)
  ·exact h
def iT (w c:Nat):List Rat:=(List.replicate w 0).set c 1
theorem Yj {w c:Nat}(aw:c<w)(M:Nat→Rat):b3 (fun j=>(iT w c).getD j 0*M j) w=M c:=by
 rw [←CW (f:=M) aw];refine e4 (fun j ae=> ?_);unfold iT;rw [Go.aj.dZ.fO,e8];by_cases h:j=c
 ·subst h;rw [aA ⟨rfl,aw⟩,aA rfl,pB]
 ·have:(List.replicate w (0:Rat)).getD j 0=0:=by simp only [List.getD,oM];split<;>rfl
  rw [ax (fun q=>h q.1),ax h,this,nq]
theorem Yy {t:aK}(ai:Valid t){p:Int}{u:Int→List Rat}: ∀(f e:Nat) (S:List Rat) (C:List (Int×Int)),sZ t p e→e≤f+1→S.length=(bN t p).length→
 (∀y∈(sQ (bN t p) f (e,S,C)).2.2,u y.1=iT (cm t p y.1) y.2.toNat)→ng (ev t p u) S e=ng (ev t p u) (sQ (bN t p) f (e,S,C)).2.1 1
 |0,e,S,C,al,aQ,dq,hu=>by have:=al.one;obtain rfl:e=1:=J;rfl
 |f+1,e,S,C,al,aQ,dq,hu=>by
  rw [sQ] at hu⊢;split
  ·rename_i he;rw [aA he] at hu;have he:1<e:=he;obtain ⟨x,b,ck⟩:=al.sh ai he;have au:=al.le;have U:=ck.fin;have ab:=ck.l9;have ay:=ck.lt;rw [ck.step S C] at hu⊢;have g3:=Yy ai (u:=u) f x.2 (S.set b (S.getD b 0+S.getD (ht S x.2 (cm t p x.1)) 0)) (C++[(x.1,((ht S x.2 (cm t p x.1)-x.2:Nat):Int))]) ck.zw J (by rw [dd];exact dq) hu;rw [←g3,abr ck _ _ _ J,abp ck au];have H3:=hu _ (Xj _ f _ (List.mem_append_right _ (hI.2 rfl)));rw [cg] at H3;obtain ⟨bS,_,db⟩:=CL S x.2 (cm t p x.1);have db:=db ab;have SS:=Yj (w:=cm t p x.1) (c:=ht S x.2 (cm t p x.1)-x.2) J (fun c=>S.getD (x.2+c) 0);rw [show x.2+(ht S x.2 (cm t p x.1)-x.2)=ht S x.2 (cm t p x.1) by omega] at SS;have H3:u x.1=_:=H3;rw [H3,SS]
  ·rename_i he;have he: ¬1<e:=he;have:=al.one;obtain rfl:e=1:=J;rfl
structure s3 (t:aK)(p:Int)(e:Nat)(C:List (Int×Int)):Prop where
 eX:(C.map Prod.fst).Nodup
 Ah: ∀y∈C,∃x∈mg t p,x.1=y.1∧e≤x.2
 all: ∀x∈mg t p,e≤x.2→x.1∈C.map Prod.fst
 TP: ∀y∈C,0≤y.2∧y.2.toNat<cm t p y.1
theorem s3.top {t:aK}(ai:Valid t)(p:Int):s3 t p (bN t p).length []:=
 ⟨List.nodup_nil,fun y a1=>by simp at a1,fun x ar h=>by
  obtain ⟨U,ab,_⟩:=(hP.mm ai p t.length (bT _)).fst x ar;have an:x.1∈cv t p:=(o6 ai).2 (((hP.mm ai p t.length (bT _)).keys x.1).1 (cO.2 ⟨x,ar,rfl⟩));obtain ⟨j,ae,av⟩:=(o6 ai).1 an;have hw:=tT ai ae av;unfold gG at av;rw [eb] at av;have:=(ai.Il ae av.1).2.2;have e:(bN t p).length=(dc t p t.length).cA.length:=rfl;omega,fun y a1=>by simp at a1⟩
theorem bQ.new {t:aK}(ai:Valid t){p:Int}{e:Nat}{x:Int×Nat}{b:Nat}(h:bQ t p e x b){C:List (Int×Int)}(ed:s3 t p e C):x.1∉C.map Prod.fst:=by intro hm;obtain ⟨y,a1,Ac⟩:=cO.1 hm;obtain ⟨z,bw,mu,are⟩:=ed.Ah y a1;have:=Kj (hP.mm ai p t.length (bT _)).eX bw h.mem (by rw [mu,Ac]);subst this;have:=h.fin;have:=h.l9;omega
theorem bQ.Rg {t:aK}(ai:Valid t){p:Int}{e:Nat}{x:Int×Nat}{b c:Nat}(h:bQ t p e x b){C:List (Int×Int)}(ed:s3 t p e C)(aw:c<cm t p x.1):s3 t p x.2 (C++[(x.1,(c:Int))]):=by
 have U:=h.fin;have ab:=h.l9;refine ⟨?_,fun y a1=> ?_,fun z bw hle=> ?_,fun y a1=> ?_⟩
 ·rw [gV,List.nodup_append];refine ⟨ed.eX,bX,fun a a8 b' eA gA=> ?_⟩;have:b'=x.1:=by simpa using eA
  rw [gA,this] at a8;exact h.new ai ed a8
 ·rcases gM.1 a1 with q|q
  ·obtain ⟨z,ku,z2,z3⟩:=ed.Ah y q;exact ⟨z,ku,z2,J⟩
  ·rw [hI.1 q];exact ⟨x,h.mem,I,bT _⟩
 ·rw [gV,gM];by_cases he:e≤z.2
  ·exact .inl (ed.all z bw he)
  ·right
   --a set that begins in the block of x is x itself
   obtain ⟨ku,z2,b',ei,ew,nt⟩:=(hP.mm ai p t.length (bT _)).fst z bw;have afZ:z.1∈cv t p:=(o6 ai).2 (((hP.mm ai p t.length (bT _)).keys z.1).1 (cO.2 ⟨z,bw,rfl⟩));obtain ⟨j,ae,av⟩:=(o6 ai).1 afZ;have hw:=tT ai ae av;unfold gG at av;rw [eb] at av;have MI:=(ai.Il ae av.1).2.2;have aH:(bN t p).getD z.2 cZ=⟨z.1,((0:Nat):Int),b'⟩:=nt 0 J;have aJ:=h.cA (z.2-x.2) J;rw [show x.2+(z.2-x.2)=z.2 by omega,aH] at aJ;have:=congrArg fk.info aJ;have:z.1=x.1:=this;simp [this]
 ·rcases gM.1 a1 with q|q
  ·exact ed.TP y q
  ·rw [hI.1 q];exact ⟨D3 _,by rw [cg];exact aw⟩
theorem UW {t:aK}(ai:Valid t){p:Int}: ∀(f e:Nat) (S:List Rat) (C:List (Int×Int)),sZ t p e→e≤f+1→s3 t p e C→s3 t p 1 (sQ (bN t p) f (e,S,C)).2.2
 |0,e,S,C,al,aQ,ed=>by have:=al.one;obtain rfl:e=1:=J;exact ed
 |f+1,e,S,C,al,aQ,ed=>by
  rw [sQ];split
  ·rename_i he;have he:1<e:=he;obtain ⟨x,b,ck⟩:=al.sh ai he;have U:=ck.fin;have ab:=ck.l9;rw [ck.step S C];obtain ⟨bS,_,db⟩:=CL S x.2 (cm t p x.1);have db:=db ab;exact UW ai f x.2 _ _ ck.zw J (ck.Rg ai ed J)
  ·rename_i he;have he: ¬1<e:=he;have:=al.one;obtain rfl:e=1:=J;exact ed
def j4 (t:aK)(p:Int)(o:dj):Bb:=sQ (bN t p) (bN t p).length ((bN t p).length,nM t p o,[])
def DE (C:List (Int×Int))(x:Int):Option Int:=(C.find? (fun y=>decide (y.1=x))).map Prod.snd
theorem Wu {C:List (Int×Int)}(aI:(C.map Prod.fst).Nodup){y:Int×Int}(a1:y∈C):DE C y.1=some y.2:=by
 unfold DE;induction C with
 |nil=>simp at a1
 |cons a r ba=>
  rw [k6,xG] at aI;rw [List.find?_cons];rcases fS.1 a1 with e|q
  ·subst e;simp
  ·have: ¬a.1=y.1:=fun e=>aI.1 (cO.2 ⟨y,q,e.symm⟩);rw [fT this];exact ba aI.2 q
def sR (t:aK)(p:Int)(o:dj)(x:Int):List Rat:=iT (cm t p x) ((DE (j4 t p o).2.2 x).getD 0).toNat
theorem UX {t:aK}(ai:Valid t)(p:Int)(o:dj):s3 t p 1 (j4 t p o).2.2:=
 UW ai _ _ _ _ (sZ.top ai p) J (s3.top ai p)
theorem OC {t:aK}(ai:Valid t){p:Int}(o:dj){x:Int}(ar:x∈cv t p): ∃c:Nat,DE (j4 t p o).2.2 x=some (c:Int)∧c<cm t p x∧(x,(c:Int))∈(j4 t p o).2.2:=by
 have ed:=UX ai p o;obtain ⟨j,ae,av⟩:=(o6 ai).1 ar;have h:=hP.mm ai p t.length (bT _);obtain ⟨z,bw,wG⟩:=cO.1 ((h.keys x).2 ⟨j,ae,av⟩);have hm:=ed.all z bw (h.fst z bw).1;obtain ⟨y,a1,Ac⟩:=cO.1 hm;have Ac:y.1=x:=by rw [Ac,wG]
 have au:=Wu ed.eX a1;obtain ⟨h4,h5⟩:=ed.TP y a1;obtain ⟨c,aw⟩:=oP h4;rw [Ac,aw] at au;rw [aw,cg,Ac] at h5;refine ⟨c,au,h5,?_⟩;have:y=(x,(c:Int)):=by rw [←Ac,←aw]
 rwa [←this]
theorem CA {w c:Nat}(aw:c<w):(iT w c).length=w∧ez 0 (iT w c)=1∧(∀q∈iT w c,0≤q∧D 1 q):=by
 have au:(iT w c).length=w:=by unfold iT;rw [dd,e8]
 refine ⟨au,?_,fun q aB=> ?_⟩
 ·have U:=Yj aw (fun _=>1);rw [e4 (g:=fun j=>(iT w c).getD j 0) (fun j _=>Rat.mul_one _),OS _ _ (by rw [au];exact bT _),kI (by rw [au];exact bT _)] at U;exact U
 ·unfold iT at aB;rcases zk aB with h|h
  ·rw [(Bn.1 h).2];exact ⟨Rat.le_refl,aT,aT⟩
  ·rw [h];exact ⟨by decide+kernel,aT,aT⟩
theorem aam {t:aK}(ai:Valid t)(p:Int)(o:dj):DL t p (sR t p o):=by
 have key: ∀x∈cv t p,∃c,c<cm t p x∧sR t p o x=iT (cm t p x) c:=fun x ar=>by obtain ⟨c,U,ab,_⟩:=OC ai o ar;refine ⟨c,ab,?_⟩;unfold sR;rw [U];rfl
 refine ⟨fun x ar=> ?_,fun x ar=> ?_,fun x ar=> ?_⟩<;>obtain ⟨c,dk,dO⟩:=key x ar<;>obtain ⟨f1,f2,f3⟩:=CA dk<;>rw [dO]
 ·exact f1
 ·exact f2
 ·exact fun q aB=>(f3 q aB).1
theorem abq {P S:List Rat}(h:P.getD 0 0=1):ng P S 1=S.getD 0 0:=by show (0:Rat)+P.getD 0 0*S.getD 0 0=_;rw [h,jU,pB]
theorem W7 (t:aK)(p:Int)(o:dj):(nM t p o).length=(bN t p).length:=by unfold nM;rw [OV,e8]
theorem VF {t:aK}(ai:Valid t){p:Int}(aF:jo t p=true){o:dj}(ah: ∀i,i<t.length→own p (t.getD i aP)=true→o i=none):
 (if p=1 then-(il t (mh t p (sR t p o) o)) else il t (mh t p (sR t p o) o))=(j4 t p o).2.1.getD 0 0:=by
 rw [←amm ai aF (sR t p o) ah];have ed:=UX ai p o;have:=Yy ai (u:=sR t p o) (bN t p).length (bN t p).length (nM t p o) [] (sZ.top ai p) J (W7 t p o) (fun y a1=>by
  show iT _ ((DE (j4 t p o).2.2 y.1).getD 0).toNat=_;rw [Wu ed.eX a1];rfl)
 rwa [abq (JD ai p _)] at this
end Go.aj.cX
namespace Go.aj.cX
open Go.aj.dn Go.aj.kD
theorem Wq {α:Type}(p:α→Bool): ∀l:List α,l.any p=true→iz p l=(l.findIdx p:Nat)
 |[],h=>by simp at h
 |x::r,h=>by
  rw [iz,List.findIdx_cons];cases ar:p x
  ·have ad:r.any p=true:=by simpa [ar] using h
   rw [Wq p r ad];simp only [oF,r9,hH];rw [ax J];omega
  ·rfl
theorem aoI {α:Type}(p:α→Bool)(l:List α)(h:l.any p=false):iz p l= -1:=by have:=C4 p l;rw [h,GY] at this;exact XG p l J
def lM (t:aK)(p:Int)(k:Nat):List Int:=((List.range k).map (fun i:Nat=>(i:Int))).filter (fun i=>t.any (gG p i))
def rN (t:aK)(p:Int)(k:Nat):List Int:=(lM t p k).map (fun i=>((cm t p i:Nat):Int))
theorem U5 (t:aK)(p:Int)(k:Nat):lM t p (k+1)=if t.any (gG p (k:Int))=true then lM t p k++[(k:Int)] else lM t p k:=by
 unfold lM;rw [ti,gV,List.filter_append];split
 ·rename_i h;simp [h]
 ·rename_i h;simp [h]
theorem amA (t:aK)(p:Int)(k:Nat):rN t p (k+1)=if t.any (gG p (k:Int))=true then rN t p k++[((cm t p (k:Int):Nat):Int)] else rN t p k:=by
 unfold rN;rw [U5];split
 ·simp
 ·rfl
theorem anr (t:aK)(p:Int)(k:Nat):(lM t p k).length≤k:=by unfold lM;refine dN (tg _ _) bX
theorem VL (t:aK)(p:Int)(k:Nat):(rN t p k).length=(lM t p k).length:=by unfold rN;simp
theorem anq (t:aK)(p:Int):lM t p 10=cv t p:=rfl
theorem anG (t:aK)(p:Int):rN t p 10=lq t p:=rfl
theorem anh {t:aK}{p i:Int}(h:t.any (gG p i)=true):Kg t p i<t.length:=by obtain ⟨x,ar,ab⟩:=sc.1 h;exact List.findIdx_lt_length_of_exists ⟨x,ar,ab⟩
end Go.aj.cX
namespace Go.aj.cX
open Go.aj.dn
def na (o:Option (List Rat))(q:Option Rat)(k:Nat):Option Rat:=some (KJ o (q.getD 0) k)
def p3 (t:aK)(o:dj):Nat→List (Option Rat)
 |0=>(List.replicate t.length none).set 0 (some 1)
 |i+1=>dI (na (o i) ((p3 t o i).getD i none)) (t.getD i aP).next 0 (p3 t o i)
theorem CI (t:aK)(o:dj): ∀i,(p3 t o i).length=t.length
 |0=>by simp [p3]
 |i+1=>by rw [p3,w6,CI t o i]
theorem Valid.known {t:aK}(h:Valid t){i:Nat}(aa:i<t.length):i=0∨ ∃a,a<i∧kP t a i:=by
 by_cases aU:i=0
 ·exact .inl aU
 ·obtain ⟨a,a8,an⟩:=h.has aa aU;exact .inr ⟨a,(h.uR a8 an).1,an⟩
theorem Oz {t:aK}(h:Valid t)(o:dj): ∀i,i≤t.length→ ∀j,j<t.length→(j=0∨ ∃a,a<i∧kP t a j)→(p3 t o i).getD j none=some ((cj t o).getD j 0)
 |0,_,j,ae,an=>by
  rcases an with rfl|⟨a,a8,_⟩
  ·rw [CJ h,p3,Go.aj.dZ.fO,aA ⟨rfl,by simpa using ae⟩]
  ·omega
 |i+1,aa,j,ae,an=>by
  have aL:i<t.length:=J;have ba:=Oz h o i J;rw [p3];by_cases Mb:kP t i j
  ·obtain ⟨m,hm,rfl⟩:=Gv h aL Mb;rw [Qm _ _ _ _ _ _ hm (h.Ig aL) (fun c aw=>by rw [CI];have:=h.behind aL c aw;omega),cT,CU h o aL hm];unfold na;rw [ba i aL (h.known aL)];rfl
  ·have cd: ∀c∈(t.getD i aP).next,c.toNat≠j:=fun c aw e=>by have:=h.behind aL c aw;apply Mb;show (j:Int)∈_;rw [←e,Int.toNat_of_nonneg J];exact aw
   rw [tP _ _ _ _ _ cd];refine ba j ae ?_;rcases an with rfl|⟨a,a8,BT⟩
   ·exact .inl I
   ·refine .inr ⟨a,?_,BT⟩;have:a≠i:=fun e=>Mb (e▸BT);omega
theorem amI {t:aK}(h:Valid t)(o:dj):p3 t o t.length=(cj t o).map some:=by
 have au:(cj t o).length=t.length:=yJ t o _;apply jS
 ·rw [CI,cr,au]
 ·intro j U ab;rw [CI] at U;have:=Oz h o t.length (bT _) j U (by
   rcases h.known U with e|⟨a,a8,an⟩
   ·exact .inl e
   ·exact .inr ⟨a,J,an⟩)
  rw [kK];rw [vW,nY (by rw [CI];exact U),vW,nY J] at this;exact this
end Go.aj.cX
namespace Go.aj.cX
open Go.aj.dn Go.aj.kD
structure gJ where
 info:Int
 c1:List di
 deriving DecidableEq
def fe:gJ:=⟨0,[]⟩
abbrev da:=List gJ
def ub (b6 Z:List Int):Nat→da→Int
 |_,[]=>0
 |k,c::r=>if c.info≠b6.getD k 0∨((c.c1.length:Nat):Int)≠Z.getD k 0 then 3 else if nL c.c1≠0 then nL c.c1 else ub b6 Z (k+1) r
def lN (t:aK)(p:Int)(s:da):Int:=if s.length≠(cv t p).length then 3 else ub (cv t p) (lq t p) 0 s
theorem amC {b6 Z:List Int}{s:da}{k:Nat}(an:k<s.length):ub b6 Z k (s.drop k)=if (s.getD k fe).info≠b6.getD k 0∨(((s.getD k fe).c1.length:Nat):Int)≠Z.getD k 0 then 3 else if nL (s.getD k fe).c1≠0 then nL (s.getD k fe).c1 else ub b6 Z (k+1) (s.drop (k+1)):=by rw [GV an,←eo fe an,ub]
theorem Vg {b6 Z:List Int}: ∀{s:da} {k:Nat},ub b6 Z k s=0→ ∀j,j<s.length→(s.getD j fe).info=b6.getD (k+j) 0∧(((s.getD j fe).c1.length:Nat):Int)=Z.getD (k+j) 0∧nL (s.getD j fe).c1=0
 |[],k,h,j,ae=>absurd ae (gg _)
 |c::r,k,h,j,ae=>by
  rw [ub] at h;split at h
  ·cases h
  rename_i U;simp only [not_or,e0] at U;split at h
  ·rename_i ab;exact absurd h ab
  rename_i ab;cases j with
  |zero=>exact ⟨U.1,U.2,e0.1 ab⟩
  |succ j=>
   have:=Vg h j (by simpa using ae);rw [show k+(j+1)=k+1+j by omega];exact this
structure xp (t:aK)(p:Int)(s:da):Prop where
 infos:s.map gJ.info=cv t p
 wid: ∀j,j<s.length→(s.getD j fe).c1.length=cm t p (s.getD j fe).info
 c1: ∀c∈s,nL c.c1=0
theorem FF {t:aK}{p:Int}{s:da}(h:lN t p s=0):xp t p s:=by
 unfold lN at h;split at h
 ·cases h
 rename_i U;have U:=e0.1 U;have ab:=Vg h;have aH: ∀j,j<s.length→(s.getD j fe).info=(cv t p).getD j 0:=fun j ae=>by have:=(ab j ae).1;rwa [cT] at this
 refine ⟨?_,fun j ae=> ?_,fun c aw=> ?_⟩
 ·apply jS (by rw [cr];exact U);intro j aer lE;have ae:j<s.length:=by simpa using aer
  have:=aH j ae;rw [eo fe ae,eo 0 lE] at this;rw [kK];exact this
 ·have:=(ab j ae).2.1;rw [cT] at this;have lE:j<(cv t p).length:=J;unfold lq at this;rw [mY _ _ 0 _ _ lE,←aH j ae] at this;omega
 ·obtain ⟨j,ae,rfl⟩:=k3 aw;have:=(ab j ae).2.2
  rwa [eo fe ae] at this
theorem Yg: ∀(gE:List Rat) (acc:Rat),(uk acc gE).2=0→(uk acc gE).1=ez acc gE
 |[],acc,_=>rfl
 |q::r,acc,h=>by
  rw [uk] at h⊢;rw [ez];split at h
  ·rename_i aQ;rw [aA aQ];exact Yg r _ h
  ·cases h
theorem vh {l:List di}(h:nL l=0):l.length≤256∧(∀s∈l,jO s=0)∧ez 0 (l.map cE)=1∧ ∀q∈l.map cE,0≤q∧D 2000 q:=by
 unfold nL at h;split at h
 case isFalse U=>exact absurd h U
 rename_i U;split at h
 case isFalse=>cases h
 rename_i ab;unfold Ci at U;split at U
 ·cases U
 rename_i ay;have bf:l.any jc=false:=by
  cases al:l.any jc
  ·rfl
  ·exact absurd ⟨U,al⟩ ay
 unfold r4 at U ab;split at U
 ·cases U
 rename_i bL;split at U
 case isFalse dz=>exact absurd U dz
 rename_i dz;rw [ax bL,aA dz] at ab;have fx:=rB dz;refine ⟨J,fx,?_,fun q aB=> ?_⟩
 ·have:=Yg _ _ U;rw [this] at ab;unfold uC at ab;split at ab
  ·cases ab
  ·split at ab
   ·rename_i e;exact e
   ·cases ab
 ·obtain ⟨s,av,rfl⟩:=cO.1 aB;have aI:=(aoW (fx s av)).1 (by rw [uz] at bf;simpa using bf s av);refine ⟨aI,?_⟩;have aQ:=(kg.self (fx s av)).fit;unfold eS at aQ;rw [eb,eL,eL] at aQ;exact abj aQ.1 aQ.2
def eR (s:da)(x:Int):List Rat:=((s.find? (fun c=>decide (c.info=x))).map (fun c=>c.c1.map cE)).getD []
theorem ahv {s:da}(aI:(s.map gJ.info).Nodup){c:gJ}(aw:c∈s):eR s c.info=c.c1.map cE:=by
 unfold eR;induction s with
 |nil=>simp at aw
 |cons a r ba=>
  rw [k6,xG] at aI;rw [List.find?_cons];rcases fS.1 aw with e|q
  ·subst e;simp
  ·have: ¬a.info=c.info:=fun e=>aI.1 (cO.2 ⟨c,q,e.symm⟩);rw [fT this];exact ba aI.2 q
theorem xp.at' {t:aK}{p:Int}{s:da}(h:xp t p s){x:Int}(ar:x∈cv t p): ∃c∈s,c.info=x∧eR s x=c.c1.map cE∧c.c1.length=cm t p x∧nL c.c1=0:=by
 have aI:(s.map gJ.info).Nodup:=by rw [h.infos];exact Fs t p
 rw [←h.infos] at ar;obtain ⟨c,aw,rfl⟩:=cO.1 ar;obtain ⟨j,ae,e⟩:=k3 aw;have hw:=h.wid j ae;rw [eo fe ae,e] at hw;exact ⟨c,aw,I,ahv aI aw,hw,h.c1 c aw⟩
theorem xp.Nr {t:aK}{p:Int}{s:da}(h:xp t p s):mL t p (eR s) 2000:=by
 refine ⟨fun x ar=> ?_,fun x ar=> ?_,fun x ar=> ?_,fun x ar=> ?_⟩<;>obtain ⟨c,dk,dO,eG,n7,q8⟩:=h.at' ar<;>obtain ⟨o1,o2,qC,sB⟩:=vh q8<;>rw [eG]
 ·rw [cr];exact n7
 ·exact qC
 ·exact fun q aB=>(sB q aB).1
 ·exact fun q aB=>(sB q aB).2
theorem xp.Ns {t:aK}{p:Int}{s:da}(h:xp t p s)(av: ∀c∈s,∀r∈c.c1,r.length≤12):mL t p (eR s) 12:=by have g:=h.Nr;refine ⟨g.len,g.sum,g.qB,fun x ar q aB=> ?_⟩;obtain ⟨c,dk,dO,eG,n7,q8⟩:=h.at' ar;obtain ⟨o1,o2,qC,sB⟩:=vh q8;rw [eG] at aB;obtain ⟨cy,gY,rfl⟩:=cO.1 aB;exact (kg.self (o2 cy gY)).nu (av c dk cy gY) aT
def y3 (t:aK)(p:Int):Int:=if rI t p≠0 then rI t p else if jo t p=true then 0 else 10
def DH (t:aK)(p:Int)(s:da):List di×Int:=if y3 t p≠0 then ([],y3 t p) else if lN t p s≠0 then ([],lN t p s) else lp (ev t p (eR s))
end Go.aj.cX
namespace Go.aj
variable [bA]
open Go.RowKit
def KR (all:Array Oper)(idx:List Nat):Nat→Nat→Nat→Bool
 |0,_,_=>false
 |n+1,j,i=>match all[j]? with
  |some o=>o.after.toList.any (fun e=>Region.binds .any e && Nat.beq e.on i)||o.after.toList.any (fun e=>Region.binds .any e && (idx.contains e.on && KR all idx n e.on i))
  |none=>false
theorem Wo {cur:Array Bool}{i:Nat}(h:cur.getD i false=true):cur.getD i true=true:=by
 have bZ:= ‹bA›;unfold Array.getD at h⊢;split at h
 ·rename_i q;rw [dif_pos q];exact h
 ·cases h
theorem UH {all:Array Oper}{idx:List Nat}{cur:Array Bool}(hn: ∀kp∈idx,cur.getD kp true=true→ ∀o,all[kp]? =some o→ ∀e∈o.after,Region.binds .any e=true→cur.getD e.on false=true):
 ∀(n j i:Nat),KR all idx n j i=true→(∀o,all[j]? =some o→ ∀e∈o.after,Region.binds .any e=true→cur.getD e.on false=true)→cur.getD i true=true
 |0,_,_,h,_=>by cases h
 |n+1,j,i,h,hd=>by
  have bZ:= ‹bA›;rw [KR] at h;split at h
  ·rename_i o ah;rw [vT] at h;rcases h with h|h
   ·obtain ⟨e,Ew,km⟩:=sc.1 h;rw [eb] at km;have ay:=hd o ah e (Bo.1 Ew) km.1;rw [pC km.2] at ay;exact Wo ay
   ·obtain ⟨e,Ew,km⟩:=sc.1 h;simp only [eb] at km;have ay:=Wo (hd o ah e (Bo.1 Ew) km.1);have hm:e.on∈idx:=by simpa using km.2.1
    exact UH hn n e.on i km.2.2 (hn e.on hm ay)
  ·cases h
theorem Ya {cur:Array Bool}{i j:Nat}(h:cur.getD j false=true):(cur.setIfInBounds i true).getD j false=true:=by
 have bZ:= ‹bA›;simp only [zt,Bh] at h⊢;split
 ·split
  ·rfl
  ·rename_i U ab;subst U;rw [Array.getElem?_eq_none J] at h;cases h
 ·exact h
theorem alF {all:Array Oper}{idx:List Nat}{cur:Array Bool}{i:Nat}(apL:i∈idx)(hn: ∀kp∈idx,cur.getD kp true=true→ ∀o,all[kp]? =some o→ ∀e∈o.after,Region.binds .any e=true→cur.getD e.on false=true)(hd: ∀o,all[i]? =some o→ ∀e∈o.after,Region.binds .any e=true→cur.getD e.on false=true):
 ∀kp∈idx,(cur.setIfInBounds i true).getD kp true=true→ ∀o,all[kp]? =some o→ ∀e∈o.after,Region.binds .any e=true→(cur.setIfInBounds i true).getD e.on false=true:=by
 have bZ:= ‹bA›;intro kp xX hu o ah e he al;by_cases h:kp=i
 ·subst h;exact Ya (hd o ah e he al)
 ·refine Ya (hn kp xX ?_ o ah e he al);have aS: ¬i=kp:=fun q=>h q.symm;simpa [zt,Bh,aS] using hu
section
variable {P:Program}{fn:Func}{c:Ctx}{fr:Fr}{H:aZ}{k:List eF}
theorem UL {ind:Bool}{d:Option Nat}{ty:TypeId}{pos:String}{after:Array Edge}{g:Option (Nat×Bool)}{x:Operand}:b1 ind P fn c fr H ⟨d,.assign x,ty,pos,after,g⟩ .any:=
 fun _ a _ _ _=>⟨a.eval x,.any _ _,fun _ _=>rfl⟩
end
end Go.aj
namespace Go.aj
open Go
variable [bA]
theorem Un {P:Program}(w:World){t e:TypeId}(a:Option Addr)(n c:Nat)(h:P.underlying t=some (.slice e)):(binOp .neq t (.slice a n c) (.slice none 0 0)).run P w= .ok (.bool (!a.isNone)) w:=by
 have bZ:= ‹bA›;have U: ∀d:Nat,(Op.equalIn (d+1) t (.slice a n c) (.slice none 0 0)).run P w= .ok a.isNone w:=fun d=>by
  cases a with
  |none=>simp [Op.equalIn,run_underlying h]
  |some a=>simp [Op.equalIn,run_underlying h]
 simp only [binOp];simp [Op.equal,Op.maxDepth,U 9999]
section
variable {P:Program}{fn:Func}{c:Ctx}{fr:Fr}{H:aZ}{k:List eF}{ind:Bool}{d:Option Nat}{ty:TypeId}{pos:String}{after:Array Edge}{g:Option (Nat×Bool)}
theorem amw {x y:Operand}{t cF e:TypeId}(bu:P.underlying t=some (.slice e))(ar:bG fr x=some .nil)(a1:bG fr y=some .nil):b1 ind P fn c fr H ⟨d,.binOp .neq t x y cF,ty,pos,after,g⟩ (.bool false):=by intro w a σ S ad;have U:=ad.dL ar;have ab:=ad.dL a1;generalize bw:a.eval x=z at U;generalize mu:a.eval y=QF at ab;cases U;cases ab;refine ⟨_,.bool _ _,fun w' _=> ?_⟩;have al:=Un (P:=P) w' none 0 0 bu;simp only [execOp,bw,mu,Sem.run_bind,IK,Result.andThen_ok,al];rfl
theorem air {x y:Operand}{t cF e:TypeId}{dY:Cells}{i n:Nat}(bu:P.underlying t=some (.slice e))(ar:bG fr x=some (.ro dY i n))(a1:bG fr y=some .nil)(aI:0<n):b1 ind P fn c fr H ⟨d,.binOp .neq t x y cF,ty,pos,after,g⟩ (.bool true):=by
 intro w a σ S ad;have U:=ad.dL ar;have ab:=ad.dL a1;generalize bw:a.eval x=z at U;generalize mu:a.eval y=QF at ab;cases ab;cases U with
 |kq _ _ _ ia cap=>exact absurd aI (oI _)
 |ro _ _ _ _ b o cap val dq hlen aw ai gB=>
  refine ⟨_,.bool _ _,fun w' _=> ?_⟩;have al:=Un (P:=P) w' (some ⟨b,o,none⟩) n cap bu;simp only [execOp,bw,mu,Sem.run_bind,IK,Result.andThen_ok,al];rfl
end
end Go.aj
namespace Go.aj
variable [bA]
open Go.RowKit
def Eb (P:Program)(e:TypeId)(L M:List ak):List Nat→Option Bool
 |[]=>some true
 |i::is=>match Eb P e L M is,L[i]?,M[i]? with
  |some r,some x,some y=>(Nl P e x y).map (· && r)
  |_,_,_=>none
theorem X7 {P:Program}{w w':World}{S:Nat→Prop}{σ:Nat→Option bQ}{L M:List ak}{xs wR:Array Value}{d:Nat}{e:TypeId}(U:xs.size=L.length)(ab: ∀i,i<L.length→bz w S σ (L.getD i .any) (xs.getD i undef))(ay:wR.size=M.length)(bf: ∀i,i<M.length→bz w S σ (M.getD i .any) (wR.getD i undef)):
 ∀(is:List Nat) (b:Bool),Eb P e L M is=some b→(Op.eqItems (d+1) e 1 xs wR is).run P w'= .ok b w'
 |[],b,h=>by simp [Eb] at h;subst h;simp [Op.eqItems]
 |i::is,b,h=>by
  simp only [Eb] at h;split at h
  ·rename_i r x y ad cH gq;have ba:=X7 (d:=d) (w':=w') U ab ay bf is r ad;obtain ⟨v1,aH,h4⟩:=Zo U ab cH;obtain ⟨v2,aJ,h5⟩:=Zo ay bf gq;obtain ⟨q,aB,al⟩:=GZ.1 h;obtain ⟨aF,dR⟩:=apt (w':=w') aB h4 h5 d;simp only [Op.eqItems,q6];simp only [Sem.run_bind,run_part_plain w' aF aH,Result.andThen_ok,run_part_plain w' aF aJ,dR];subst al;cases q with
   |false=>simp
   |true=>simpa using ba
  ·cases h
section
variable {P:Program}{fn:Func}{c:Ctx}{fr:Fr}{H:aZ}{k:List eF}{ind:Bool}{d:Option Nat}{ty:TypeId}{pos:String}{after:Array Edge}{g:Option (Nat×Bool)}
theorem ain {x y:Operand}{t cF e:TypeId}{n:Nat}{inf:TypeInfo}{L M:List ak}{b:Bool}(ar:bG fr x=some (.agg L))(a1:bG fr y=some (.agg M))(bu:P.underlying t=some (.array n e))(aa:P.info? e=some inf)(aw:P.cellsOf e=1)(c2:P.eqGuardType P.depth t=false)(he:Eb P e L M (List.range n)=some b):b1 ind P fn c fr H ⟨d,.binOp .neq t x y cF,ty,pos,after,g⟩ (.bool (!b)):=by
 intro w a σ S ad;have U:=ad.dL ar;have ab:=ad.dL a1;generalize bw:a.eval x=z at U;generalize mu:a.eval y=QF at ab;cases U with
 |agg _ _ xs gy a2 a3=>
  cases ab with
  |agg _ _ wR ei ew nt=>
   refine ⟨_,.bool _ _,fun w' _=> ?_⟩;have ad:=X7 (d:=9998) (w':=w') gy a2 ei ew _ b he;simp only [execOp,bw,mu,Sem.run_bind,run_eqGuard_agg w' _ _ _ _ _ _ c2,Result.andThen_ok,run_neq_struct,show (10000:Nat)=9999+1 from rfl,run_equalIn_array w' 9999 _ _ bu aa,aw,ad];rfl
end
end Go.aj
namespace Go.aj.cX
open Go.aj.dn
theorem KM {q:Rat}{M:Nat}(h:q≤(M:Rat)):q.num≤M*q.den:=by have ab:=Rat.not_lt.2 h;rw [Rat.lt_iff] at ab;rw [Rat.num_natCast,Rat.den_natCast] at ab;have: ¬((M:Int)*(q.den:Int)<q.num*1):=ab;omega
theorem Tr {q:Rat}{M:Nat}(h:q.num≤M*q.den):q≤(M:Rat):=by refine Rat.not_lt.1 (fun ab=> ?_);rw [Rat.lt_iff,Rat.num_natCast,Rat.den_natCast] at ab;have:(M:Int)*(q.den:Int)<q.num*1:=ab;omega
theorem KX {k:Nat}{q:Rat}(h:D k q):q≤((10^k:Nat):Rat)∧ -q≤((10^k:Nat):Rat):=by have U:=h.1;have ab:=q.den_pos;generalize 10^k=T at*;have ay:(T:Int)*1≤T*q.den:=Int.mul_le_mul_of_nonneg_left J J;refine ⟨Tr J,Tr ?_⟩;show-q.num≤(T:Int)*(q.den:Int);omega
theorem Q7 {B K M:Nat}{q:Rat}(h:fR B q)(ck:B≠0)(U:q≤(M:Rat))(ab: -q≤(M:Rat))(gq:M*B<10^K)(dH:B<10^K):D K q:=by have hd:=Br J (h.den ck);refine ⟨?_,J⟩;have gy:=KM U;have a2:=KM ab;have a2: -q.num≤(M:Int)*(q.den:Int):=a2;have a3:M*q.den≤M*B:=hz _ hd;have a4:((M*q.den:Nat):Int)=(M:Int)*(q.den:Int):=Int.natCast_mul _ _;omega
theorem fR.sum {B:Nat}{l:List Rat}:(∀q∈l,fR B q)→ ∀{acc:Rat},fR B acc→fR B (ez acc l):=by
 induction l with
 |nil=>intro _ acc h;exact h
 |cons a r ba=>intro h acc a8;exact ba (fun q aB=>h q (by simp [aB])) (a8.add (h a bX))
theorem W5 (f:Nat→Rat)(c:Rat): ∀ks:List Nat,ez 0 (ks.map (fun i=>f i*c))=ez 0 (ks.map f)*c
 |[]=>by rw [th,th,ez,nq]
 |a::r=>by rw [k6,k6,ez,ez,sL,sL (r.map f),W5 f c r,jU,jU,Rat.add_mul]
theorem Qo {f g:Nat→Rat}: ∀{ks:List Nat},(∀i∈ks,f i≤g i)→ez 0 (ks.map f)≤ez 0 (ks.map g)
 |[],_=>Rat.le_refl
 |a::r,h=>by rw [k6,k6,ez,ez,sL,sL (r.map g),jU,jU];have U:=(Rat.add_le_add_right (c:=ez 0 (r.map f))).2 (h a bX);have ab:=(D1 (c:=g a)).2 (Qo (ks:=r) (fun i aa=>h i (by simp [aa])));exact vV U ab
def yh (t:aK):Nat:=vE (t.map (fun n=>if n.kind=0 then (cE n.iX).den else 1))
theorem PA (t:aK):0<yh t:=by
 refine WL (fun x ar=> ?_);obtain ⟨n,_,rfl⟩:=cO.1 ar;split
 ·exact Rat.den_pos _
 ·exact Nat.one_pos
structure oD (t:aK)(d:Nat):Prop where
 nu: ∀i,i<t.length→(t.getD i aP).kind=0→D d (cE (t.getD i aP).iX)
theorem Kl {t:aK}{d:Nat}(h:oD t d):yh t≤10^(d*t.length):=by
 have U:=PD (l:=t.map (fun n=>if n.kind=0 then (cE n.iX).den else 1)) (d:=d) (fun x ar=>by
  obtain ⟨n,aI,rfl⟩:=cO.1 ar;obtain ⟨i,aa,rfl⟩:=k3 aI;split
  ·rename_i ab;have:=h.nu i aa (by rw [eo aP aa];exact ab);rw [eo aP aa] at this;exact q7 this.2
  ·exact lW aT)
 rwa [cr] at U
theorem XR {t:aK}{i:Nat}(aa:i<t.length)(an:(t.getD i aP).kind=0):(cE (t.getD i aP).iX).den∣yh t:=by refine Ox (cO.2 ⟨t.getD i aP,dt aP aa,?_⟩);rw [aA an]
theorem akO {t:aK}(h:Valid t){o:dj}{d:Nat}(ah:s5 t o d)(aI:t.length≤40):fR (k1 o t.length*yh t) (il t o):=by refine fR.sum (fun q aB=> ?_) (fR.zero _);obtain ⟨i,aa,rfl⟩:=cO.1 aB;obtain ⟨i1,i2⟩:=mZ aa;exact (Ql h ah aI i1).1.mul (fR.Iq.mono (XR i1 i2))
theorem akP {t:aK}(h:Valid t){o:dj}{d:Nat}(ah:s5 t o d){e:Nat}(aF:oD t e):il t o≤((10^e:Nat):Rat)∧ -(il t o)≤((10^e:Nat):Rat):=by
 have av:=abN h ah.toOddsOK;have one:ez 0 ((cC t).map (fun j=>(cj t o).getD j 0*((10^e:Nat):Rat)))=((10^e:Nat):Rat):=by rw [W5,av,pB]
 constructor
 ·rw [←one];refine Qo (fun i aa=> ?_);obtain ⟨i1,i2⟩:=mZ aa;exact G1 (KX (aF.nu i i1 i2)).1 (Ok h ah i i1).2
 ·unfold il;rw [←Pn,←one];refine Qo (fun i aa=> ?_);obtain ⟨i1,i2⟩:=mZ aa;unfold hN;rw [←Rat.mul_neg];exact G1 (KX (aF.nu i i1 i2)).2 (Ok h ah i i1).2
theorem Ym {t:aK}(h:Valid t){o:dj}{d:Nat}(ah:s5 t o d)(aI:t.length≤40)(aF:oD t 12){DJ DK W:Nat}(ck:k1 o t.length<10^DJ)(la:yh t≤10^DK)(iM:12+(DJ+DK)≤W):D W (il t o):=by
 have aH:k1 o t.length*yh t<10^DJ*10^DK:=by refine gL ((Nat.mul_lt_mul_right (PA t)).2 ck) ?_;exact hz _ la
 rw [←iI] at aH;obtain ⟨v1,v2⟩:=akP h ah aF;have e1:0<k1 o t.length*yh t:=zn (KF o _) (PA t);refine Q7 (akO h ah aI) J v1 v2 ?_ ?_
 ·have:=(Nat.mul_lt_mul_left (a:=10^12) (lW aT)).2 aH;rw [←iI] at this;exact gL this (fF aT iM)
 ·exact gL aH (fF aT J)
theorem akN {t:aK}(h:Valid t){o:dj}(ah:s5 t o 12)(aI:t.length≤40)(aF:oD t 12):D 974 (il t o):=by obtain ⟨_,ck⟩:=Ql h ah aI (show 0<t.length by have:=h.ne;omega);have la:=Kl aF;refine Ym h ah aI aF (DJ:=12*40+1) (DK:=12*t.length) ck la ?_;omega
theorem PW {t:aK}(h:Valid t){o:dj}(ah:s5 t o 2000)(aI:t.length≤40)(aF:oD t 12):D 80500 (il t o):=by obtain ⟨_,ck⟩:=Ql h ah aI (show 0<t.length by have:=h.ne;omega);have la:=Kl aF;refine Ym h ah aI aF (DJ:=2000*40+1) (DK:=12*t.length) ck la ?_;omega
def gR (t:aK):dj:=fun i=>if (t.getD i aP).kind=1 then some ((t.getD i aP).c1.map cE) else none
def j7 (t:aK)(a b:Int→List Rat):dj:=fun i=>
 if (t.getD i aP).kind=1 then some ((t.getD i aP).c1.map cE)
 else if (t.getD i aP).kind=2 then some (if (t.getD i aP).gr=0 then a (t.getD i aP).info else b (t.getD i aP).info) else none
def ir (t:aK)(p:Int)(u:Int→List Rat):dj:=fun i=>
 if (t.getD i aP).kind=1 then some ((t.getD i aP).c1.map cE)
 else if (t.getD i aP).kind=2 then (if (t.getD i aP).gr=p then none else some (u (t.getD i aP).info)) else none
theorem Py (t:aK)(p:Int)(u:Int→List Rat): ∀i,i<t.length→own p (t.getD i aP)=true→ir t p u i=none:=by intro i aa h;unfold own at h;rw [eb,eL,eL] at h;unfold ir;rw [ax J,aA h.1,aA h.2]
theorem FC {t:aK}{o o':dj}(h: ∀i,i<t.length→o i=o' i): ∀i,i≤t.length→mC t o i=mC t o' i
 |0,_=>rfl
 |i+1,aa=>by rw [mC,mC,FC h i J,h i J]
theorem Vj {t:aK}{o o':dj}(h: ∀i,i<t.length→o i=o' i):il t o=il t o':=by unfold il cj;rw [FC h t.length (bT _)]
theorem At {t:aK}(ai:Valid t){i:Nat}(aa:i<t.length)(an:(t.getD i aP).kind=2):(t.getD i aP).gr=0∨(t.getD i aP).gr=1:=by
 have h:=ai.nodes i aa;unfold pj at h;rw [ax J,ax J,aA an] at h;split at h
 ·cases h
 split at h
 ·cases h
 rename_i U;omega
theorem rH {p:Int}{n:ep}:own p n=true↔n.kind=2∧n.gr=p:=by unfold own;rw [eb,eL,eL]
theorem Q8 {t:aK}(ai:Valid t)(a b:Int→List Rat): ∀i,i<t.length→mh t 0 a (ir t 0 b) i=j7 t a b i:=by
 intro i aa;unfold mh ir j7;by_cases h:own 0 (t.getD i aP)=true
 ·obtain ⟨U,ab⟩:=rH.1 h;rw [aA h,ax J,aA U,aA ab]
 ·rw [ax h];split
  ·rfl
  split
  ·rename_i U ab;have ay: ¬(t.getD i aP).gr=0:=fun e=>h (rH.2 ⟨ab,e⟩);rw [ax ay,ax ay]
  ·rfl
theorem aar {t:aK}(ai:Valid t)(a b:Int→List Rat): ∀i,i<t.length→mh t 1 b (ir t 1 a) i=j7 t a b i:=by
 intro i aa;unfold mh ir j7;by_cases h:own 1 (t.getD i aP)=true
 ·obtain ⟨U,ab⟩:=rH.1 h;rw [aA h,ax J,aA U,ax J]
 ·rw [ax h];split
  ·rfl
  split
  ·rename_i U ab;have ay: ¬(t.getD i aP).gr=1:=fun e=>h (rH.2 ⟨ab,e⟩);rw [ax ay,aA (by have:=At ai aa ab;omega)]
  ·rfl
structure Modest (t:aK):Prop where
 len:t.length≤40
 iX: ∀n∈t,n.iX.length≤12
 c1: ∀n∈t,∀r∈n.c1,r.length≤12
theorem JG {t:aK}(ai:Valid t){i:Nat}(aa:i<t.length)(an:(t.getD i aP).kind=0):jO (t.getD i aP).iX=0:=by
 have h:=ai.nodes i aa;unfold pj at h;rw [aA an] at h;split at h
 ·cases h
 ·exact h
theorem UP {t:aK}(ai:Valid t){i:Nat}(aa:i<t.length)(an:(t.getD i aP).kind=1):(t.getD i aP).c1.length=(t.getD i aP).next.length∧nL (t.getD i aP).c1=0:=by
 have h:=ai.nodes i aa;unfold pj at h;rw [ax J,aA an] at h;split at h
 ·cases h
 split at h
 ·rename_i U;exact absurd h U
 split at h
 ·cases h
 ·rename_i U;exact ⟨e0.1 U,h⟩
theorem Modest.sC {t:aK}(hm:Modest t)(ai:Valid t):oD t 12:=
 ⟨fun i aa an=>(kg.self (JG ai aa an)).nu (hm.iX _ (dt aP aa)) aT⟩
theorem Modest.He {t:aK}(hm:Modest t)(ai:Valid t){i:Nat}(aa:i<t.length)(an:(t.getD i aP).kind=1):((t.getD i aP).c1.map cE).length=(t.getD i aP).next.length∧ez 0 ((t.getD i aP).c1.map cE)=1∧ ∀q∈(t.getD i aP).c1.map cE,0≤q∧D 12 q:=by obtain ⟨U,ab⟩:=UP ai aa an;obtain ⟨o1,o2,qC,sB⟩:=vh ab;refine ⟨by rw [cr];exact U,qC,fun q aB=>⟨(sB q aB).1,?_⟩⟩;obtain ⟨s,av,rfl⟩:=cO.1 aB;exact (kg.self (o2 s av)).nu (hm.c1 _ (dt aP aa) s av) aT
theorem mL.node {t:aK}(ai:Valid t){p:Int}{u:Int→List Rat}{d:Nat}(h:mL t p u d){i:Nat}(aa:i<t.length)(an:(t.getD i aP).kind=2)(aF:(t.getD i aP).gr=p):
 (u (t.getD i aP).info).length=(t.getD i aP).next.length∧ez 0 (u (t.getD i aP).info)=1∧ ∀q∈u (t.getD i aP).info,0≤q∧D d q:=by
 have av:gG p (t.getD i aP).info (t.getD i aP)=true:=by unfold gG;rw [rH.2 ⟨an,aF⟩,fG rfl];rfl
 have ar:(t.getD i aP).info∈cv t p:=(o6 ai).2 ⟨i,aa,av⟩;exact ⟨by rw [h.len _ ar,tT ai aa av],h.sum _ ar,fun q aB=>⟨h.qB _ ar q aB,h.nu _ ar q aB⟩⟩
theorem F8 {t:aK}(ai:Valid t)(hm:Modest t){a b:Int→List Rat}{d:Nat}(a8:mL t 0 a d)(al:mL t 1 b d)(hd:12≤d:=by decide):s5 t (j7 t a b) d:=by
 refine ⟨⟨fun i aa an=> ?_⟩,fun i aa an=> ?_⟩
 ·by_cases U:(t.getD i aP).kind=1
  ·obtain ⟨dk,dO,eG⟩:=hm.He ai aa U;refine ⟨_,?_,dk,dO,fun q aB=>⟨(eG q aB).1,(eG q aB).2.mono hd⟩⟩;unfold j7;rw [aA U]
  ·have ab:(t.getD i aP).kind=2:=by
    rcases ai.child aa with h|h
    ·exact absurd h.1 an
    ·omega
   by_cases ay:(t.getD i aP).gr=0
   ·obtain ⟨dk,dO,eG⟩:=a8.node ai aa ab ay;refine ⟨_,?_,dk,dO,eG⟩;unfold j7;rw [ax U,aA ab,aA ay]
   ·have bf:(t.getD i aP).gr=1:=by have:=At ai aa ab;omega
    obtain ⟨dk,dO,eG⟩:=al.node ai aa ab bf;refine ⟨_,?_,dk,dO,eG⟩;unfold j7;rw [ax U,aA ab,ax ay]
 ·unfold j7;rw [ax J,ax J]
theorem mL.mix {t:aK}{p:Int}{u:Int→List Rat}{d:Nat}(h:mL t p u d):DL t p u:=⟨h.len,h.sum,h.qB⟩
theorem N6 {t:aK}(ai:Valid t)(p:Int)(o:dj):mL t p (sR t p o) 12:=by
 have hm:=aam ai p o;refine ⟨hm.len,hm.sum,hm.qB,fun x ar q aB=> ?_⟩;obtain ⟨c,U,ab,_⟩:=OC ai o ar;have e:sR t p o x=iT (cm t p x) c:=by unfold sR;rw [U];rfl
 rw [e] at aB;exact ((CA ab).2.2 q aB).2.mono aT
theorem mL.mono {t:aK}{p:Int}{u:Int→List Rat}{d e:Nat}(h:mL t p u d)(he:d≤e):mL t p u e:=⟨h.len,h.sum,h.qB,fun x ar q aB=>(h.nu x ar q aB).mono he⟩
def G8 (t:aK)(p:Int)(u:Int→List Rat):Rat:=(j4 t p (ir t p u)).2.1.getD 0 0
theorem aai {t:aK}(ai:Valid t)(aF:jo t 0=true)(b:Int→List Rat):G8 t 0 b=il t (j7 t (sR t 0 (ir t 0 b)) b):=by have h:=VF ai aF (Py t 0 b);rw [ax aT,Vj (Q8 ai _ b)] at h;exact h.symm
theorem aaj {t:aK}(ai:Valid t)(aF:jo t 1=true)(a:Int→List Rat):G8 t 1 a= -(il t (j7 t a (sR t 1 (ir t 1 a)))):=by have h:=VF ai aF (Py t 1 a);rw [aA rfl,Vj (aar ai a _)] at h;exact h.symm
theorem aof {t:aK}(ai:Valid t)(hm:Modest t)(aF:jo t 0=true){b:Int→List Rat}(al:mL t 1 b 2000):D 80500 (G8 t 0 b):=by rw [aai ai aF];exact PW ai (F8 ai hm ((N6 ai 0 _).mono aT) al) hm.len (hm.sC ai)
theorem aog {t:aK}(ai:Valid t)(hm:Modest t)(aF:jo t 1=true){a:Int→List Rat}(a8:mL t 0 a 2000):D 80500 (G8 t 1 a):=by rw [aaj ai aF];exact (PW ai (F8 ai hm a8 ((N6 ai 1 _).mono aT)) hm.len (hm.sC ai)).neg
structure nU (t:aK)(o:dj)(d:Nat):Prop where
 some: ∀i,i<t.length→ ∀l,o i=some l→l.length=(t.getD i aP).next.length∧ ∀q∈l,0≤q∧q≤1∧D d q
theorem Y7 {t:aK}(h:Valid t){o:dj}{d:Nat}(ah:nU t o d): ∀j,j<t.length→fR (k1 o j) ((cj t o).getD j 0)∧0≤(cj t o).getD j 0∧(cj t o).getD j 0≤1:=by
 intro j;induction j using Nat.strongRecOn with
 |ind j ba=>
  intro ae;by_cases aU:j=0
  ·subst aU;rw [CJ h];exact ⟨fR.one _,by decide+kernel,Rat.le_refl⟩
  ·obtain ⟨i,aa,an⟩:=h.has ae aU;have bD:=h.uR aa an;obtain ⟨m,hm,he⟩:=Gv h aa an;have ad:=CU h o aa hm;rw [he] at ad;obtain ⟨g1,g2,g3⟩:=ba i J aa;cases zU:o i with
   |none=>
    rw [zU] at ad;have ad:(cj t o).getD j 0=(cj t o).getD i 0:=ad;rw [ad];have dz:=AX o (i:=i) (j-i);rw [show i+(j-i)=j by omega] at dz;exact ⟨g1.mono dz,g2,g3⟩
   |some l=>
    obtain ⟨fK,wI⟩:=ah.some i aa l zU;rw [zU] at ad;have ad:(cj t o).getD j 0=(cj t o).getD i 0*l.getD m 0:=ad;obtain ⟨bS,bY,db⟩:=wI (l.getD m 0) (dt 0 J);rw [ad];refine ⟨?_,xH g2 bS,?_⟩
    ·have bL:fR (k1 o (i+1)) ((cj t o).getD i 0*l.getD m 0):=by refine (g1.mul (fR.Iq (q:=l.getD m 0))).mono ?_;show _∣k1 o i*Cg (o i);rw [zU];exact Nat.mul_dvd_mul (Nat.dvd_refl _) (Ox (cO.2 ⟨_,dt 0 J,I⟩))
     have dz:=AX o (i:=i+1) (j-(i+1));rw [show i+1+(j-(i+1))=j by omega] at dz;exact bL.mono dz
    ·have fx:=G1 bY g2;rw [Rat.mul_one] at fx;exact vV fx g3
theorem GN {t:aK}{o:dj}{d:Nat}(ah:nU t o d): ∀i,i≤t.length→k1 o i≤10^(d*((t.take i).flatMap ep.next).length)
 |0,_=>by simp [k1]
 |i+1,aa=>by
  have ba:=GN ah i J;have aL:i<t.length:=J;have aF:Cg (o i)≤10^(d*(t.getD i aP).next.length):=by
   cases zU:o i with
   |none=>exact lW aT
   |some l=>
    obtain ⟨fK,wI⟩:=ah.some i aL l zU;rw [←fK];have:=PD (l:=l.map Rat.den) (d:=d) (fun x ar=>by
     obtain ⟨q,aB,rfl⟩:=cO.1 ar;exact q7 (wI q aB).2.2.2)
    rwa [cr] at this
  rw [k1,nZ aL,List.flatMap_append,c8,hk,iI];refine jT ba ?_;rw [eo aP aL] at aF;simpa using aF
theorem FK {t:aK}(h:Valid t){o:dj}{d:Nat}(ah:nU t o d)(aI:t.length≤40){j:Nat}(ae:j<t.length):D (d*40+1) ((cj t o).getD j 0):=by obtain ⟨g1,g2,g3⟩:=Y7 h ah j ae;have dz:=AX o (i:=j) (t.length-j);rw [show j+(t.length-j)=t.length by omega] at dz;have fx:=GN ah t.length (bT _);rw [e7] at fx;have oR:=JY h;have k8:d*(t.flatMap ep.next).length≤d*40:=hz _ J;have Eg:10^(d*(t.flatMap ep.next).length)≤10^(d*40):=fF aT k8;have Hm:0<10^(d*40):=lW aT;have e1:=KF o t.length;refine akH (g1.mono dz) J g2 g3 ?_;rw [ic];omega
theorem KB {l:List Rat}(av:ez 0 l=1)(aU: ∀q∈l,0≤q): ∀q∈l,q≤1:=by
 have key: ∀(l:List Rat) (x:Rat),(∀q∈l,0≤q)→x∈l→x≤ez 0 l:=by
  intro l;induction l with
  |nil=>intro x _ ar;simp at ar
  |cons a r agd=>
   intro x aB ar;rw [ez,sL,jU];have a8:=aB a bX;have ad:=Zl r 0 (fun y a1=>aB y (by simp [a1]));rcases fS.1 ar with rfl|ar
   ·have:=(D1 (c:=x)).2 ad
    rwa [je] at this
   ·have U:=agd x (fun q x1=>aB q (by simp [x1])) ar;have:=(Rat.add_le_add_right (c:=ez 0 r)).2 a8;rw [jU] at this;exact vV U this
 intro q aB;rw [←av];exact key l q aU aB
theorem s5.w {t:aK}{o:dj}{d:Nat}(h:s5 t o d):nU t o d:=by
 refine ⟨fun i aa l au=> ?_⟩;by_cases an:(t.getD i aP).kind=0
 ·rw [h.none i aa an] at au;cases au
 ·obtain ⟨hq,U,ab,ay,bf⟩:=h.at' i aa an;rw [au] at U;obtain rfl:=oG U;have:=KB ay (fun q aB=>(bf q aB).1);exact ⟨ab,fun q aB=>⟨(bf q aB).1,this q aB,(bf q aB).2⟩⟩
theorem Nc {t:aK}(ai:Valid t)(hm:Modest t){p:Int}{u:Int→List Rat}(aF:p=0∨p=1){d:Nat}(hu:mL t (1-p) u d)(hd:12≤d:=by decide):nU t (ir t p u) d:=by
 refine ⟨fun i aa l au=> ?_⟩;unfold ir at au;by_cases U:(t.getD i aP).kind=1
 ·rw [aA U] at au;obtain rfl:=oG au;obtain ⟨dk,dO,eG⟩:=hm.He ai aa U;have:=KB dO (fun q aB=>(eG q aB).1);exact ⟨dk,fun q aB=>⟨(eG q aB).1,this q aB,(eG q aB).2.mono hd⟩⟩
 ·rw [ax U] at au;by_cases ab:(t.getD i aP).kind=2
  ·rw [aA ab] at au;by_cases ay:(t.getD i aP).gr=p
   ·rw [aA ay] at au;cases au
   ·rw [ax ay] at au;obtain rfl:=oG au;obtain ⟨dk,dO,eG⟩:=hu.node ai aa ab (by have:=At ai aa ab;omega);have:=KB dO (fun q aB=>(eG q aB).1);exact ⟨dk,fun q aB=>⟨(eG q aB).1,this q aB,(eG q aB).2⟩⟩
  ·rw [ax ab] at au;cases au
theorem Qq {t:aK}(ai:Valid t)(hm:Modest t){a b:Int→List Rat}{d:Nat}(a8:mL t 0 a d)(al:mL t 1 b d)(hd:12≤d:=by decide):nU t (j7 t a b) d:=(F8 ai hm a8 al hd).w
def eN (t:aK)(i:Nat):List Int:=((List.range i).filter (fun j=>decide ((t.getD j aP).kind=0))).map (fun j:Nat=>(j:Int))
theorem Vl (t:aK)(i:Nat):eN t (i+1)=if (t.getD i aP).kind=0 then eN t i++[(i:Int)] else eN t i:=by
 unfold eN;rw [ti,List.filter_append,gV];by_cases h:(t.getD i aP).kind=0
 ·rw [aA h,List.filter_cons_of_pos (by simpa using h)];rfl
 ·rw [ax h,List.filter_cons_of_neg (by simpa using h)];simp
theorem Ju (t:aK): ∀i,(eN t i).length≤i
 |0=>bT _
 |i+1=>by
  have:=Ju t i;rw [Vl];split
  ·rw [c8];show _+1≤_;omega
  ·omega
theorem Jt (t:aK):eN t t.length=(cC t).map (fun j:Nat=>(j:Int)):=rfl
theorem OP (t:aK){k:Nat}(an:k<(cC t).length):(eN t t.length).getD k 0=(((cC t).getD k 0:Nat):Int):=by rw [Jt,mY _ _ 0 _ _ an]
def sX (t:aK)(o:dj)(k:Nat):Rat:=ez 0 (((cC t).take k).map (hN t (cj t o)))
theorem Wh (t:aK)(o:dj){k:Nat}(an:k<(cC t).length):sX t o (k+1)=sX t o k+hN t (cj t o) ((cC t).getD k 0):=by unfold sX;rw [nZ an,gV,List.map_singleton,OU,eo 0 an]
theorem akK (t:aK)(o:dj):sX t o (cC t).length=il t o:=by unfold sX il;rw [e7]
structure iH (B M:Nat)(q:Rat):Prop where
 sl:fR B q
 le:q≤(M:Rat)
 ge: -q≤(M:Rat)
theorem Jk {M N:Nat}(h:M≤N):(M:Rat)≤(N:Rat):=by
 have U:((M:Int):Rat)≤((N:Int):Rat):=Rat.intCast_le_intCast.2 J
 rwa [xE,xE] at U
theorem iH.mono {B M N:Nat}{q:Rat}(h:iH B M q)(hm:M≤N):iH B N q:=
 ⟨h.sl,vV h.le (Jk hm),vV h.ge (Jk hm)⟩
theorem iH.zero (B M:Nat):iH B M 0:=by have h:(0:Rat)≤(M:Rat):=Jk (b7 M);exact ⟨fR.zero B,h,by rw [Rat.neg_zero];exact h⟩
theorem iH.add {B M N:Nat}{a b:Rat}(a8:iH B M a)(al:iH B N b):iH B (M+N) (a+b):=by
 refine ⟨a8.sl.add al.sl,?_,?_⟩
 ·rw [Rat.natCast_add];exact vV ((Rat.add_le_add_right (c:=b)).2 a8.le) ((D1 (c:=(M:Rat))).2 al.le)
 ·rw [Rat.natCast_add,Rat.neg_add];exact vV ((Rat.add_le_add_right (c:= -b)).2 a8.ge) ((D1 (c:=(M:Rat))).2 al.ge)
theorem fR.neg {B:Nat}{q:Rat}(h:fR B q):fR B (-q):=by obtain ⟨z,bw⟩:=h;exact ⟨-z,by rw [Rat.neg_mul,bw,Rat.intCast_neg]⟩
theorem iH.neg {B M:Nat}{q:Rat}(h:iH B M q):iH B M (-q):=⟨h.sl.neg,h.ge,by rw [Rat.neg_neg];exact h.le⟩
theorem iH.D {B M K:Nat}{q:Rat}(h:iH B M q)(ck:B≠0)(gq:M*B<10^K)(dH:B<10^K):D K q:=Q7 h.sl ck h.le h.ge gq dH
def q1 (t:aK)(o:dj):Nat:=k1 o t.length*yh t
theorem Pl (t:aK)(o:dj):0<q1 t o:=zn (KF o _) (PA t)
theorem O4 {t:aK}(h:Valid t){o:dj}{d e:Nat}(ah:nU t o d)(aF:oD t e){p:Int}{i:Nat}(aa:i<t.length)(an:(t.getD i aP).kind=0):iH (q1 t o) (10^e) (r2 t p (cj t o) i):=by
 obtain ⟨g1,g2,g3⟩:=Y7 h ah i aa;have dz:=AX o (i:=i) (t.length-i);rw [show i+(t.length-i)=t.length by omega] at dz;obtain ⟨c6,fs⟩:=KX (aF.nu i aa an);have key: ∀x:Rat,x≤((10^e:Nat):Rat)→(cj t o).getD i 0*x≤((10^e:Nat):Rat):=by intro x ar;have aU:(0:Rat)≤((10^e:Nat):Rat):=Jk (b7 _);have U:=G1 ar g2;have ab:=Rat.mul_le_mul_of_nonneg_right g3 aU;rw [pB] at ab;exact vV U ab
 have aQ:iH (q1 t o) (10^e) (hN t (cj t o) i):=by refine ⟨(g1.mono dz).mul (fR.Iq.mono (XR aa an)),key _ c6,?_⟩;unfold hN;rw [←Rat.mul_neg];exact key _ fs
 unfold r2;split
 ·exact aQ.neg
 ·exact aQ
def ox (t:aK)(p:Int)(o:dj)(k:Nat):List Rat:=rT (r2 t p (cj t o)) (hv t p) ((cC t).take k) (List.replicate (bN t p).length 0)
theorem VZ (t:aK)(p:Int)(o:dj):ox t p o 0=List.replicate (bN t p).length 0:=by unfold ox;rw [List.take_zero];rfl
theorem Wb (t:aK)(p:Int)(o:dj):ox t p o (cC t).length=nM t p o:=by unfold ox nM;rw [e7]
theorem apx (t:aK)(p:Int)(o:dj)(k:Nat):(ox t p o k).length=(bN t p).length:=by unfold ox;rw [OV,e8]
theorem VY (t:aK)(p:Int)(o:dj){k:Nat}(an:k<(cC t).length):ox t p o (k+1)=(ox t p o k).set ((hv t p).getD ((cC t).getD k 0) 0).toNat ((ox t p o k).getD ((hv t p).getD ((cC t).getD k 0) 0).toNat 0+r2 t p (cj t o) ((cC t).getD k 0)):=by unfold ox;rw [nZ an,VX,eo 0 an]
theorem Zd {B M:Nat}{S:List Rat}(dq: ∀j,iH B M (S.getD j 0))(x:Nat){y:Rat}(a1:iH B M y): ∀j,iH B M ((S.set x y).getD j 0):=by
 intro j;rw [Go.aj.dZ.fO];split
 ·exact a1
 ·exact dq j
theorem OW {t:aK}(h:Valid t){o:dj}{d e:Nat}(ah:nU t o d)(aF:oD t e)(p:Int): ∀k,k≤(cC t).length→ ∀j,iH (q1 t o) (k*10^e) ((ox t p o k).getD j 0)
 |0,_,j=>by
  rw [VZ];have:(List.replicate (bN t p).length (0:Rat)).getD j 0=0:=by simp only [List.getD,oM];split<;>rfl
  rw [this];exact iH.zero _ _
 |k+1,an,j=>by
  have ba:=OW h ah aF p k J;have bO:k<(cC t).length:=J;obtain ⟨i1,i2⟩:=mZ (dt (l:=cC t) 0 bO);rw [VY t p o bO];have aH:(k+1)*10^e=k*10^e+10^e:=by rw [dK,qi]
  rw [aH];refine Zd (fun j=>(ba j).mono (n0 _ _)) _ ?_ j;exact (ba _).add (O4 h ah aF i1 i2)
structure ze (t:aK)(o:dj)(p:Int)(S:List Rat)(j:Nat):Prop where
 len:S.length=(bN t p).length
 fin: ∀k,iH (q1 t o) (41*10^12*2^j) (S.getD k 0)
theorem ze.step {t:aK}{o:dj}{p:Int}{S:List Rat}{j:Nat}(h:ze t o p S j)(a b:Nat):ze t o p (S.set a (S.getD a 0+S.getD b 0)) (j+1):=by
 refine ⟨by rw [dd];exact h.len,?_⟩;have aH:41*10^12*2^(j+1)=41*10^12*2^j+41*10^12*2^j:=by rw [ic,←kH];omega
 rw [aH];exact Zd (fun k=>(h.fin k).mono (n0 _ _)) a ((h.fin a).add (h.fin b))
theorem Tj {a b x y n:Nat}(U:a≤10^x)(ab:b≤10^y)(h:x+y<n):a*b<10^n:=by have Hn:=jT U ab;rw [←iI] at Hn;exact q5 Hn (Nat.pow_lt_pow_right aT h)
theorem Kx {t:aK}{o:dj}{d:Nat}(ah:nU t o d)(aI:t.length≤40)(aF:oD t 12)(ai:Valid t):q1 t o<10^(d*40+481):=by have fx:=GN ah t.length (bT _);rw [e7] at fx;have oR:=JY ai;have k8:d*(t.flatMap ep.next).length≤d*40:=hz _ J;exact Tj fx (Kl aF) J
def xb:Nat:=80520
theorem iH.short {t:aK}{o:dj}{M E:Nat}{q:Rat}(h:iH (q1 t o) M q)(ck:q1 t o<10^E)(gq:M≤10^39):cX.D (39+E) q:=by have aU:=Pl t o;refine h.D J ?_ (gL ck (fF aT J));refine q5 (er _ gq) ?_;have:=(Nat.mul_lt_mul_left (a:=10^39) (lW aT)).2 ck;rw [←iI] at this;exact this
theorem ze.short {t:aK}{o:dj}{p:Int}{S:List Rat}{j E:Nat}(h:ze t o p S j)(ck:q1 t o<10^E)(ae:j≤61)(k:Nat):D (39+E) (S.getD k 0):=by refine (h.fin k).short ck ?_;have U:2^j≤2^61:=fF aT ae;exact dN (hz _ U) aT
theorem amD {t:aK}(h:Valid t){o:dj}{d:Nat}(ah:nU t o d)(aI:t.length≤40)(aF:oD t 12)(p:Int){k:Nat}(an:k≤(cC t).length)(j:Nat):D (39+(d*40+481)) ((ox t p o k).getD j 0):=by
 have ck:=Kx ah aI aF h;have he:(cC t).length≤t.length:=by unfold cC;refine dN (tg _ _) ?_;rw [gn];exact bT _
 refine (OW h ah aF p k an j).short ck ?_;have:k*10^12≤40*10^12:=er _ J;exact dN this aT
theorem abM {t:aK}(h:Valid t){o:dj}{d e:Nat}(ah:nU t o d)(aF:oD t e){i:Nat}(aa:i<t.length)(an:(t.getD i aP).kind=0):iH (q1 t o) (10^e) (hN t (cj t o) i):=by
 have:=O4 h ah aF (p:=0) aa an;unfold r2 at this
 rwa [ax aT] at this
theorem Yl {t:aK}(h:Valid t){o:dj}{d e:Nat}(ah:nU t o d)(aF:oD t e): ∀k,k≤(cC t).length→iH (q1 t o) (k*10^e) (sX t o k)
 |0,_=>by unfold sX;rw [List.take_zero];exact iH.zero _ _
 |k+1,an=>by have ba:=Yl h ah aF k J;have bO:k<(cC t).length:=J;obtain ⟨i1,i2⟩:=mZ (dt (l:=cC t) 0 bO);rw [Wh t o bO,show (k+1)*10^e=k*10^e+10^e by rw [dK,qi]];exact ba.add (abM h ah aF i1 i2)
theorem anK {t:aK}(h:Valid t){o:dj}{d:Nat}(ah:nU t o d)(aI:t.length≤40)(aF:oD t 12){k:Nat}(an:k≤(cC t).length):D (39+(d*40+481)) (sX t o k):=by
 have ck:=Kx ah aI aF h;have he:(cC t).length≤t.length:=by unfold cC;refine dN (tg _ _) ?_;rw [gn];exact bT _
 refine (Yl h ah aF k an).short ck ?_;have:k*10^12≤40*10^12:=er _ J;exact dN this aT
theorem VW {t:aK}(h:Valid t){o:dj}{d:Nat}(ah:nU t o d)(aI:t.length≤40)(aF:oD t 12)(p:Int):ze t o p (nM t p o) 0:=by
 have he:(cC t).length≤t.length:=by unfold cC;refine dN (tg _ _) ?_;rw [gn];exact bT _
 refine ⟨W7 t p o,fun k=> ?_⟩;rw [←Wb];refine (OW h ah aF p _ (bT _) k).mono ?_;rw [zj,q6];exact er _ J
structure vG (t:aK)(p:Int)(o:dj)(e:Nat)(S:List Rat)(C:List (Int×Int))(j:Nat):Prop where
 zw:sZ t p e
 ID:ze t o p S j
 BB:j+e≤(bN t p).length
 Rf:s3 t p e C
 rest: ∃f,e≤f+1∧sQ (bN t p) f (e,S,C)=j4 t p o
theorem vG.top {t:aK}(h:Valid t){o:dj}{d:Nat}(ah:nU t o d)(aI:t.length≤40)(aF:oD t 12)(p:Int):vG t p o (bN t p).length (nM t p o) [] 0:=
 ⟨sZ.top h p,VW h ah aI aF p,J,s3.top h p,_,J,rfl⟩
theorem vG.step {t:aK}(ai:Valid t){p:Int}{o:dj}{e:Nat}{S:List Rat}{C:List (Int×Int)}{j:Nat}(h:vG t p o e S C j)(he:1<e){x:Int×Nat}{b:Nat}(al:bQ t p e x b):
 vG t p o x.2 (S.set b (S.getD b 0+S.getD (ht S x.2 (cm t p x.1)) 0)) (C++[(x.1,((ht S x.2 (cm t p x.1)-x.2:Nat):Int))]) (j+1):=by
 obtain ⟨f,f1,f2⟩:=h.rest;have U:=al.fin;have ab:=al.l9;have ay:=h.BB;obtain ⟨bS,_,db⟩:=CL S x.2 (cm t p x.1);have db:=db ab;obtain ⟨Ll,rfl⟩: ∃Ll,f=Ll+1:=⟨f-1,J⟩
 rw [sQ,aA (show 1<(e,S,C).1 from he),al.step] at f2;exact ⟨al.zw,h.ID.step _ _,J,al.Rg ai h.Rf J,Ll,J,f2⟩
theorem vG.stop {t:aK}{p:Int}{o:dj}{e:Nat}{S:List Rat}{C:List (Int×Int)}{j:Nat}(h:vG t p o e S C j)(he: ¬1<e):j4 t p o=(1,S,C):=by
 obtain ⟨f,f1,f2⟩:=h.rest;have U:=h.zw.one;obtain rfl:e=1:=J;rw [←f2];cases f with
 |zero=>rfl
 |succ f=>rw [sQ,ax (oI 1)]
end Go.aj.cX
namespace Go.aj
variable [bA]
open Go.RowKit
def Cn (x:Value):Option ak:=match x with
 | .map none=>some .any
 |v=>yn v
theorem akT {w:World}{S:Nat→Prop}{σ:Nat→Option bQ}{x:Value}{v:ak}(h:Cn x=some v):bz w S σ v x∧x.oneCell'=true:=by
 unfold Cn at h;split at h
 ·cases h;exact ⟨.any _ _,rfl⟩
 ·exact KE h
def KS (v:Value):Option (List ak):=v.cells.toList.mapM fun x=>Cn x
theorem Wk {w:World}{S:Nat→Prop}{σ:Nat→Option bQ}{z:Value}{zs:List ak}(h:KS z=some zs):z.cells.size=zs.length∧ ∀j,j<zs.length→bz w S σ (zs.getD j .any) (z.cells.getD j undef)∧(z.cells.getD j undef).oneCell'=true:=by
 unfold KS at h;have key: ∀(l:List Value) (zs:List ak),l.mapM (fun x=>Cn x)=some zs→l.length=zs.length∧ ∀j,j<zs.length→bz w S σ (zs.getD j .any) (l.getD j undef)∧(l.getD j undef).oneCell'=true:=by
  intro l;induction l with
  |nil=>intro zs h;simp at h;subst h;exact ⟨rfl,fun j ae=>by simp at ae⟩
  |cons x r ba=>
   intro zs h;simp only [List.mapM_cons] at h;cases U:Cn x with
   |none=>simp [U] at h
   |some y=>
    cases ab:r.mapM (fun x=>Cn x) with
    |none=>simp [U,ab] at h
    |some wR=>
     simp [U,ab] at h;subst h;obtain ⟨i1,i2⟩:=ba wR ab;refine ⟨by simp [i1],fun j ae=> ?_⟩;cases j with
     |zero=>exact akT U
     |succ j=>simpa using i2 j (by simpa using ae)
 obtain ⟨ee,fg⟩:=key _ _ h;refine ⟨by simpa using ee,fun j ae=> ?_⟩;have:=fg j ae;have e:z.cells.toList.getD j undef=z.cells.getD j undef:=by
  have bD:j<z.cells.size:=by simp at ee;omega
  simp [List.getD,Array.getD,bD]
 rwa [e] at this
section
variable {P:Program}{fn:Func}{c:Ctx}{fr:Fr}{H:aZ}{k:List eF}
theorem aio {ind:Bool}{d:Option Nat}{ty:TypeId}{pos:String}{after:Array Edge}{g:Option (Nat×Bool)}{t:TypeId}{parts:List (Nat×Operand)}{it:TypeInfo}{z:Value}{zs L:List ak}{l:List (Nat×ak)}{pl:Nat→Option (Nat×Nat)}(aa:P.info? t=some it)(bw:it.zero=some z)(j1:KS z=some zs)(gX:JP P t=some pl)(au:qQ fr parts=some l)(aQ:rQ pl zs l=some L):
 b1 ind P fn c fr H ⟨d,.build t parts.toArray,ty,pos,after,g⟩ (.agg L):=by
 intro w a σ S ad;obtain ⟨gu,h7⟩:=Wk (w:=w) (S:=S) (σ:=σ) j1;obtain ⟨mn,g1,g2⟩:=Jw l _ z.cells zs L ⟨gu,h7⟩ (IW ad parts l au) aQ;refine ⟨.agg mn,.agg _ _ _ g2.1 (fun i aa=>(g2.2 i aa).1) (fun i aa=>(g2.2 i aa).2),fun w' _=> ?_⟩;have al:P.built t ((parts.toArray.map fun (i,x)=>(i,a.eval x)).toList)=some mn:=by
  have e:(parts.toArray.map fun (i,x)=>(i,a.eval x)).toList=parts.map fun (i,x)=>(i,a.eval x):=bX;rw [e];unfold JP at gX;unfold Program.built;cases hu:P.underlying t with
  |none=>simp [hu] at gX
  |some u=>
   cases u with
   |array qB gA=>
    simp only [hu] at gX;cases he:P.info? gA with
    |none=>simp [he] at gX
    |some Ia=>
     simp only [he,dC] at gX;subst gX;simp only [aa,bw,he];exact g1
   |struct fields=>
    simp only [hu] at gX;cases he:fields.toList.mapM (fun f=>(P.info? f.type).map fun i=>(f.offset,i.size)) with
    |none=>simp [he] at gX
    |some places=>
     simp only [he,dC] at gX;subst gX;simp only [aa,bw,he];exact g1
   |_=>simp [hu] at gX
 have dR:=run_build (P:=P) w' t (parts.toArray.map fun (i,x)=>(i,a.eval x)) mn al;simp only [execOp,Sem.run_bind,dR,Result.andThen_ok];rfl
theorem Wa {all:Array Oper}{d:Nat}{t:TypeId}{ty:TypeId}{pos:String}{after:Array Edge}{rest:List Oper}{inf:TypeInfo}{z:Value}{zs:List ak}(aa:P.info? t=some inf)(bw:inf.zero=some z)(j1:KS z=some zs)(an:aj P fn c (.ops false all rest k) ((d,.ptr H.length 0 0)::fr) (H++[some ⟨t,.box zs⟩])):aj P fn c (.ops false all (⟨some d,.alloc t,ty,pos,after,none⟩::rest) k) fr H:=by
 refine rZ (fun w a σ S ad=> ?_) an;have a8:qe w S σ z.cells zs:=Wk j1;have dR:(execOp a.eval ⟨some d,.alloc t,ty,pos,after,none⟩).run P w= .ok (.value (.pointer (some ⟨w.heap.size,0,none⟩))) (w.alloc (.cells z.cells t (0,0))):=by simp [execOp,Instr.alloc,newVar,newRow,zeroValue,typeInfo,aa,bw]
 refine ⟨_,_,_,S,dR,ad.alloc (o:=⟨t,.box zs⟩) (C:=1) (cur:=z.cells) (bT _) (by unfold maxLen;omega) (by simp [Cells.aD,a8.1]) (OD a8),?_⟩;have:=bz.ptr (w:=w.alloc (.cells z.cells t (0,0))) (S:=S) (cN σ H.length (.at w.heap.size (Cells.box zs).aD 1)) H.length 0 0 w.heap.size (Cells.box zs).aD 1 (by simp [cN]);simpa using this
end
end Go.aj
namespace Go.aj
variable [bA]
open Go.RowKit
structure Zw (gU b5 bK:aZ)(cV dB:ak):Prop where
 sub:wN gU b5
 yi: ∀(h:Nat) (o:bl),gU[h]? =some (some o)→eZ o.c
 len:bK.length=b5.length
 new: ∀(h:Nat) (o':bl),bK[h]? =some (some o')→(∀o:bl,gU[h]? ≠some (some o))∧ ∃o:bl,b5[h]? =some (some o)∧o'.ty=o.ty∧o'.c.len=o.c.len∧o'.c.b8=o.c.b8∧ ∀i j,i<o.c.len→j<o.c.aD→vI gU (o.c.at i j) (o'.c.at i j)
 res:vI gU cV dB
theorem ch.Rw {P:Program}{f:FuncId}{args:List ak}{K kE:ak→aZ→Prop}(aw:ch P f args [] (fun _=>False) K)(dH: ∀cV b5,K cV b5→ ∃gU bK dB,Zw gU b5 bK cV dB∧kE dB bK):ch P f args [] (fun _=>False) kE:=by
 refine ⟨aw.1,fun w qd S dD aF jh aQ ai=> ?_⟩;refine (aw.2 w qd S dD aF jh aQ ai).mono ?_;rintro e w' ⟨v,cV,σ,xq,b5,rfl,g1,g2,g3,g4⟩;obtain ⟨gU,bK,dB,⟨iW,fa,hlen,k9,HW⟩,bO⟩:=dH cV b5 g4;have Mh:A3 w' xq σ gU:=fun h o ah=>g1.live h o (iW h o ah)
 let ca:Nat→Prop:=fun b=>xq b∨ ∃h o s C,gU[h]? =some (some o)∧σ h=some (.at b s C)
 have kO: ∀{mI:Nat→Option bQ} {x v},bz w' xq mI x v→bz w' ca mI x v:=fun h=>h.mono (fun _ h=> .inl h) (fun _ _=>rfl) _ (fun _ _ h=>h);have BP: ∀{x y v},vI gU x y→bz w' xq σ x v→bz w' ca σ y v:=by
  intro x y v h ai;rcases h with rfl|rfl|⟨rfl,dV⟩
  ·exact kO ai
  ·exact .any _ _
  ·exact bz.freeze Mh fa (fun _ h=> .inl h) (fun h o b s C U ab=> .inr ⟨h,o,s,C,U,ab⟩) ai σ dV
 refine ⟨v,dB,σ,ca,bK,I,⟨fun h o' cP=> ?_,fun U ab o1 o2 b s C cy cL bS bY aH aJ=> ?_,fun b al=> ?_,fun h au=>g1.ie h J⟩,BP HW g2,⟨g3.os,g3.output,g3.tape,g3.size,g3.block,fun b al=> .inl (g3.hX b al),fun b al=> ?_,fun _ h=>h.elim,fun _ h=>h.elim,fun h o b s C q e=> ?_⟩,bO⟩
 ·obtain ⟨fU,o,U,ab,ay,bf,bL⟩:=k9 h o' cP;rw [ay,A8 bf];rcases g1.live h o U with g|⟨b,C,cur,bS,bY,db,dP,gZ,iY,tF⟩
  ·exact .inl g
  ·refine .inr ⟨b,C,cur,bS,(bY.mono I kO).b8 ab bf,db,dP,gZ,?_,fun i j aa ae=> ?_⟩
   ·rintro (av|⟨aS,o2,s2,gx,iA,u2⟩)
    ·exact iY av
    ·have:=g1.hJ h aS o o2 b _ C s2 gx U (iW aS o2 iA) bS u2;subst this;exact fU o2 iA
   ·obtain ⟨v,aH,aJ,bR⟩:=tF i j aa ae;exact ⟨v,aH,BP (bL i j aa ae) aJ,bR⟩
 ·obtain ⟨_,p,c6,_⟩:=k9 U o1 bS;obtain ⟨_,pQ,Ai,_⟩:=k9 ab o2 bY;exact g1.hJ U ab p pQ b s C cy cL c6 Ai aH aJ
 ·rcases al with av|⟨h,o,s,C,bS,bY⟩
  ·exact g1.small b av
  ·rcases g1.live h o (iW h o bS) with ⟨hZ,_⟩|⟨b',cL,cur,bJ,g,_⟩
   ·rw [bY] at hZ;cases hZ
   ·rw [bY] at bJ;simp only [dC,bQ.at.injEq] at bJ;rw [bJ.1];exact g.lt
 ·rcases al with av|⟨h,o,s,C,bS,bY⟩
  ·exact g3.e5 b av
  ·rcases g3.own h o b s C (iW h o bS) bY with g|g
   ·exact .inr (.inl g)
   ·exact .inr (.inr g)
 ·obtain ⟨_,p,c6,_⟩:=k9 h o q;exact g3.own h p b s C c6 e
end Go.aj
