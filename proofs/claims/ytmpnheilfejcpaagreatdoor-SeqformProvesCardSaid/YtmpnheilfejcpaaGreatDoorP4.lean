import Derived.Lib.ParseIntB
import Derived.Lib.Join
import Derived.Test.YtmpnheilfejcpaaGreatDoorP3
set_option linter.unusedVariables false
set_option linter.unusedSimpArgs false
namespace Go.aj.dh
theorem NK {a b k:Nat}(h:a<b)(ak:(a7 b).length≤k):(a7 a).length≤k:=by have U:=jK (iV b);rw [hs] at U;have:=oy (Nat.lt_trans h U);omega
theorem I6 {a b k:Nat}(h:a≤b)(ak:(a7 b).length≤k):(a7 a).length≤k:=by
 rcases gA a b with q|q
 ·exact NK q ak
 ·have:a=b:=J;subst this;exact ak
theorem FX:a7 1=[1]:=by rw [FY aT];have:1/B=0:=aT;rw [this,rP];rfl
theorem apq {n:Nat}:n=1↔(a7 n).length=1∧(a7 n).getD 0 0=1:=by
 constructor
 ·rintro rfl;rw [FX];exact ⟨rfl,rfl⟩
 ·rintro ⟨U,ab⟩;have ay:=mF (a7 n) 0;rw [kd J,hs,ab] at ay;simpa [bq] using ay
def n0 (l:List (List UInt8))(k:Nat):List (List UInt8):=(List.range l.length).map fun i=>if i<k∨l.length-k≤i then l.getD (l.length-1-i) [] else l.getD i []
theorem xj (l:List (List UInt8))(k:Nat):(n0 l k).length=l.length:=by unfold n0;simp
theorem Dh (l:List (List UInt8))(k i:Nat)(aa:i<l.length):(n0 l k).getD i []=if i<k∨l.length-k≤i then l.getD (l.length-1-i) [] else l.getD i []:=by unfold n0;simp only [List.getD,lB,vW aa,s8,pR]
theorem O4 {l m:List (List UInt8)}(h:l.length=m.length)(he: ∀i,i<l.length→l.getD i []=m.getD i []):l=m:=by apply kc h;intro i U ab;have:=he i U;rw [ub [] U,ub [] ab] at this;exact this
theorem apB (l:List (List UInt8)):n0 l 0=l:=by refine O4 (xj l 0) (fun i aa=> ?_);rw [xj] at aa;rw [Dh l 0 i aa,aw J]
theorem apz (l:List (List UInt8)){k:Nat}(h:l.length≤2*k+1):n0 l k=l.reverse:=by
 refine O4 (by rw [xj,List.length_reverse]) (fun i aa=> ?_);rw [xj] at aa;have ad:l.reverse.getD i []=l.getD (l.length-1-i) []:=by simp only [List.getD];rw [List.getElem?_reverse aa]
 rw [Dh l k i aa,ad];split
 ·rfl
 ·congr 1;omega
theorem apA (l:List (List UInt8)){k:Nat}(h:k+1+k<l.length):((n0 l k).set k ((n0 l k).getD (l.length-1-k) [])).set (l.length-1-k) ((n0 l k).getD k [])=n0 l (k+1):=by
 refine O4 (by simp [xj]) (fun i aa=> ?_);simp only [da,xj] at aa;rw [Dh l (k+1) i aa,Dh l k (l.length-1-k) J,aw J,Dh l k k J,aw J];simp only [List.getD];by_cases U:i=l.length-1-k
 ·subst U;rw [oP (by simp [xj];omega),aB J];simp only [pR];congr 2;omega
 ·rw [lW (ra U)];by_cases ab:i=k
  ·subst ab;rw [oP (by rw [xj];omega),aB J];simp only [pR]
  ·rw [lW (ra ab)];have:=Dh l k i aa;simp only [List.getD] at this;rw [this];by_cases ay:i<k∨l.length-k≤i
   ·rw [aB ay,aB J]
   ·rw [aw ay,aw J]
end Go.aj.dh
namespace Go.aj.dh
open Go.aj.sb (jP)
def dg (c:UInt8):Bool:=decide (48≤c.toNat∧c.toNat<58)
theorem abF {c:UInt8}:dg c=true↔jP c:=by unfold dg jP;simp only [e8];constructor<;>intro h<;>exact ⟨J,J⟩
def vc (s:List UInt8):List UInt8:=(s.reverse.dropWhile dg).reverse
def Ao (s:List UInt8):List UInt8:=s.dropWhile dg
theorem UN {l m:List UInt8}(h:l.all dg=true):(l++m).dropWhile dg=m.dropWhile dg:=by
 induction l with
 |nil=>rfl
 |cons x r a6=>
  simp only [zq,er] at h;rw [oT,List.dropWhile_cons_of_pos h.1,a6 h.2]
theorem akX {s:List UInt8}{k:Nat}(an:k≤s.length)(h:(s.drop k).all dg=true)(ab:k=0∨dg (s.getD (k-1) 0)=false):vc s=s.take k:=by
 unfold vc
 conv=>lhs;rw [←s7 k s]
 rw [List.reverse_append,UN (by rw [List.all_reverse];exact h)];rcases ab with ab|ab
 ·subst ab;rfl
 ·rcases nz k with q|q
  ·subst q;rfl
  ·have e:s.take k=s.take (k-1)++[s.getD (k-1) 0]:=by
    have:=rL s 0 (k-1) J
    rwa [show k-1+1=k by omega] at this
   rw [e,List.reverse_append,List.reverse_singleton,List.singleton_append,GQ (by rw [ab];decide)];simp
theorem akV {s:List UInt8}{k:Nat}(h:(s.take k).all dg=true)(ab:s.length≤k∨dg (s.getD k 0)=false):Ao s=s.drop k:=by
 unfold Ao
 conv=>lhs;rw [←s7 k s]
 rw [UN h];rcases ab with ab|ab
 ·rw [Bj ab];rfl
 ·rcases gA k s.length with q|q
  ·rw [tV s 0 k q,GQ (by rw [ab];decide)]
  ·rw [Bj q];rfl
theorem Qr {l:List UInt8}:l.dropWhile dg=[]↔l.all dg=true:=by
 induction l with
 |nil=>simp
 |cons x r a6=>
  cases h:dg x with
  |true=>rw [List.dropWhile_cons_of_pos h,a6];simp [h]
  |false=>rw [GQ (by rw [h];decide)];simp [h]
theorem abQ {l:List UInt8}{x:UInt8}{r:List UInt8}(h:l.dropWhile dg=x::r):dg x=false:=by
 induction l with
 |nil=>cases h
 |cons y q a6=>
  cases a1:dg y with
  |true=>rw [List.dropWhile_cons_of_pos a1] at h;exact a6 h
  |false=>
   rw [GQ (by rw [a1];decide)] at h;cases h;exact a1
theorem akW {s:List UInt8}:Ao (vc s)=[]↔s.all dg=true:=by
 unfold Ao vc;rw [Qr,List.all_reverse];constructor
 ·intro h;cases aA:s.reverse.dropWhile dg with
  |nil=>rw [Qr,List.all_reverse] at aA;exact aA
  |cons x r=>
   rw [aA] at h;have:=abQ aA;simp [this] at h
 ·intro h;have:s.reverse.dropWhile dg=[]:=by rw [Qr,List.all_reverse];exact h
  rw [this];rfl
theorem aix {l:List UInt8}(hd: ∀c∈l,jP c): ∀(a:Nat),ep a l≤4294967295→Lib.parseUintM 4294967295 a l= .ok (ep a l):=by
 induction l with
 |nil=>intro a _;rfl
 |cons c r a6=>
  intro a h;have av:=hd c b1;unfold jP at av;rw [yG] at h⊢;have U:a*10+(c.toNat-48)≤4294967295:=by refine dU ?_ h;rw [FQ r];have:(a*10+(c.toNat-48))*1≤(a*10+(c.toNat-48))*10^r.length:=hK _ (Nat.one_le_pow _ _ aT);omega
  have i:=a6 (fun x al=>hd x (by simp [al])) _ h;unfold Lib.parseUintM;rw [aB J,aw J,aw J];exact i
theorem AI {l:List UInt8}(aM:l≠[])(hd: ∀c∈l,jP c)(ld:l.length≤9):Lib.parseUintB 32 l= .ok (ep 0 l)∧ep 0 l<1000000000:=by have bG:=Ki hd;have aD:10^l.length≤10^9:=fN aT ld;have G9:(10:Nat)^9=1000000000:=aT;rw [G9] at aD;unfold Lib.parseUintB;rw [aw aM];have abT:(2:Nat)^32-1=4294967295:=aT;rw [abT];exact ⟨aix hd 0 J,J⟩
theorem Wc: ∀(ls:List (List UInt8)),Lib.join ls []=ls.flatten
 |[]=>rfl
 |x::r=>by rw [Lib.join_cons,List.flatten_cons];congr 1;unfold Lib.joinTail;congr 1;simp
end Go.aj.dh
namespace Go.aj.ka
def qB:Nat→Int
 |0=>1
 |n+1=>(n+1)*qB n
def iz {α:Type}(p:α→Bool):List α→Int
 |[]=> -1
 |x::r=>if p x then 0 else if iz p r<0 then-1 else iz p r+1
theorem X0 {α:Type}(p:α→Bool)(l:List α)(h:iz p l<0):iz p l= -1:=by
 cases l with
 |nil=>rfl
 |cons x r=>
  simp only [iz] at h⊢;by_cases U:p x=true
  ·simp [U] at h
  ·by_cases ab:iz p r<0
   ·simp [U,ab]
   ·simp only [U,ab,hA,sd] at h;omega
theorem qL {α:Type}(p:α→Bool)(l:List α)(k:Nat)(h:(l.take k).any p=false)(an:k≤l.length):iz p l=if iz p (l.drop k)<0 then-1 else iz p (l.drop k)+k:=by
 induction k generalizing l with
 |zero=>
  simp only [tb];split
  ·exact X0 p l h2
  ·omega
 |succ k a6=>cases l with
  |nil=>simp at an
  |cons x r=>
   simp only [List.take_succ_cons,List.any_cons,Bool.or_eq_false_iff] at h;have:=a6 r h.2 (by simpa using an);simp only [iz,h.1,List.drop_succ_cons,sd,hA];rw [this];split<;>split<;>omega
theorem Da {α:Type}(p:α→Bool)(l:List α):decide (0≤iz p l)=l.any p:=by
 induction l with
 |nil=>rfl
 |cons x r a6=>
  simp only [iz,List.any_cons];by_cases U:p x=true
  ·simp [U]
  ·simp only [uz] at U;simp only [U,sd,hA,Bm];rw [←a6];by_cases ab:iz p r<0
   ·rw [aB ab];simp;omega
   ·rw [aw ab];congr 1;simp;omega
def Rh (m:List Int):List Int:=(List.range 7).map fun (i:Nat)=>((m.count (i:Int):Nat):Int)
theorem fQ {l:List Int}{i j:Nat}{v:Int}(aa:i<l.length):(l.set i v).getD j 0=if j=i then v else l.getD j 0:=by
 by_cases h:j=i
 ·subst h;simp [List.getD,aa]
 ·simp only [List.getD,h,hA];rw [lW (fun e=>h e.symm)]
def less (l:List Int)(i:Nat):List Int:=l.set i (l.getD i 0-1)
theorem p5 {l:List Int}{i:Nat}(aa:i<l.length):(less l i).set i ((less l i).getD i 0+1)=l:=by
 unfold less;rw [fQ aa,aB rfl,xN];have:l.getD i 0-1+1=l[i]:=by rw [ub 0 aa];omega
 rw [this,List.set_getElem_self]
end Go.aj.ka
namespace Go.aj.eT
open Go.aj.ka
def jb (v y:Int):Bool:=decide (v=y)
end Go.aj.eT
namespace Go.aj.eT
open Go.aj.ka
end Go.aj.eT
namespace Go.aj.eT
open Go.aj.ka
end Go.aj.eT
namespace Go.aj.dh
open Go.aj.sb (jP)
def vE (s:List UInt8):Bool:=decide (s≠[]) && s.all dg && (decide (s.getD 0 0≠48)||decide (s.length=1))
theorem CC {s:List UInt8}:vE s=true↔vH s:=by
 unfold vE vH;simp only [er,wb,e8,se,abF];constructor
 ·rintro ⟨⟨U,ab⟩,ay⟩;exact ⟨U,ab,ay⟩
 ·rintro ⟨U,ab,ay⟩;exact ⟨⟨U,ab⟩,ay⟩
theorem KE {s:List UInt8}(h:vH s){k:Nat}(au:s.length≤k):(a7 (ep 0 s)).length≤k:=by refine oy (ha (Ki h.2.1) ?_);exact dU (fN aT au) (xO aT k)
def Ix:Nat→Nat
 |0=>1
 |k+1=>10*Ix k
theorem Zl: ∀k,Ix k=10^k
 |0=>rfl
 |k+1=>by rw [Ix,Zl k,hY,hj]
def K7:Nat:=Ix 2000
theorem QN:K7=10^2000:=Zl 2000
theorem QO {n:Nat}(h:n<K7):(Lib.decDigits n).length≤2000:=by
 rw [QN] at h
 revert h
 generalize an:2000=k;intro h;exact Fj J h
theorem Ts {n k:Nat}(h:n<10^k)(an:k≤2000):n<K7:=by
 rw [QN]
 revert an
 generalize 2000=j;intro an;exact ha h (fN aT an)
theorem AT {m n j k:Nat}(hm:m<10^j)(aG:n<10^k):m*n<10^(j+k):=by rw [iN];exact Nat.mul_lt_mul'' hm aG
theorem Z7 {m n k:Nat}(hm:m<10^k)(aG:n<10^k):m+n<10^(k+1):=by rw [hY];omega
def gd:Nat→Nat→Nat
 |_,0=>1
 |0,_+1=>0
 |n+1,k+1=>gd n k+gd n (k+1)
end Go.aj.dh
namespace Go.aj.cQ
open Go.aj.dh
theorem J8 (n:Int)(d:Nat)(hd:d≠0):(Rat.divInt n d).num.natAbs=n.natAbs/Nat.gcd n.natAbs d∧(Rat.divInt n d).den=d/Nat.gcd n.natAbs d∧((Rat.divInt n d).num<0↔n<0):=by
 have e:Rat.divInt n d=Rat.normalize n d hd:=by rw [Rat.divInt_ofNat,←Rat.normalize_eq_mkRat]
 have c9:0<Nat.gcd n.natAbs d:=Nat.gcd_pos_of_pos_right _ J;have Hv:(Nat.gcd n.natAbs d:Int)∣n:=by rw [Int.ofNat_dvd_left];exact Nat.gcd_dvd_left _ _
 rw [e,Rat.num_normalize,Rat.den_normalize];obtain ⟨q,aA⟩:=Hv;generalize Nat.gcd n.natAbs d=g at*;refine ⟨?_,I,?_⟩
 ·rw [aA,GR _ J,ke,k7,Nat.mul_div_cancel_left _ c9]
 ·rw [aA,GR _ J];constructor
  ·intro h;exact Int.mul_neg_of_pos_of_neg J h
  ·intro h;rcases Int.lt_or_le q 0 with z|z
   ·exact z
   ·exact absurd h (Int.not_lt.2 (sh J z))
theorem N6 (n d:Int)(hd:d≠0):(Rat.divInt n d).num.natAbs=n.natAbs/Nat.gcd n.natAbs d.natAbs∧(Rat.divInt n d).den=d.natAbs/Nat.gcd n.natAbs d.natAbs∧((Rat.divInt n d).num<0↔n≠0∧((n<0∧ ¬d<0)∨(¬n<0∧d<0))):=by
 rcases Int.lt_or_le d 0 with h|h
 ·obtain ⟨m,rfl⟩: ∃m:Nat,d= -(m:Int):=⟨d.natAbs,J⟩
  have e:Rat.divInt n (-(m:Int))=Rat.divInt (-n) m:=Rat.divInt_neg' n m;obtain ⟨U,ab,ay⟩:=J8 (-n) m J;rw [e];rw [qu] at U ab;rw [qu,k7];exact ⟨U,ab,ay.trans J⟩
 ·obtain ⟨m,rfl⟩: ∃m:Nat,d=(m:Int):=⟨d.natAbs,J⟩
  obtain ⟨U,ab,ay⟩:=J8 n m J;rw [k7];exact ⟨U,ab,ay.trans J⟩
theorem O7 (p q:Rat):Rat.divInt (p.num*q.den+q.num*p.den) ((p.den*q.den:Nat):Int)=p+q:=by rw [Rat.add_def',Rat.divInt_ofNat]
theorem X5 (p q:Rat):Rat.divInt (p.num*q.num) ((p.den*q.den:Nat):Int)=p*q:=by rw [Rat.mul_def',Rat.divInt_ofNat]
theorem XQ (p q:Rat)(aA:q≠0):Rat.divInt (p.num*q.den) (q.num*p.den)=p/q:=by
 have aG:q.num≠0:=fun h=>aA (Rat.num_eq_zero.1 h);have aD:(p.den:Int)≠0:=by have:=p.den_nz;omega
 have afP:(q.den:Int)≠0:=by have:=q.den_nz;omega
 have U:Rat.divInt (p.num*q.den) (q.num*p.den)*q=p:=by
  conv=>lhs;rhs;rw [←Rat.num_divInt_den q]
  rw [Rat.divInt_mul_divInt]
  conv=>rhs;rw [←Rat.num_divInt_den p]
  rw [Rat.divInt_eq_divInt_iff (Int.mul_ne_zero (Int.mul_ne_zero aG aD) afP) aD]
  ac_rfl
 rw [←U,Rat.mul_div_cancel aA];rw [U]
def lG (x:Int):Int:=if x<0 then-1 else if x=0 then 0 else 1
def um (p q:Rat):Int:=if p<q then-1 else if p=q then 0 else 1
theorem aka (p q:Rat):lG (p.num*q.den-q.num*p.den)=um p q:=by
 unfold lG um;have U:p<q↔p.num*q.den-q.num*p.den<0:=by rw [Rat.lt_iff];omega
 have ab:p=q↔p.num*q.den-q.num*p.den=0:=by rw [Rat.eq_iff_mul_eq_mul];omega
 simp only [U,ab]
def k2 (b:Bool)(n:Nat):Int:=if b then-(n:Int) else n
theorem AM (b:Bool)(n:Nat):(k2 b n).natAbs=n:=by unfold k2;split<;>omega
theorem PM (b:Bool)(n:Nat):decide (k2 b n<0)=(b && decide (n≠0)):=by
 unfold k2;cases b
 ·simp<;>try omega
 ·simp only [gg,mU];rw [tc];omega
theorem apL (x:Int):k2 (decide (x<0)) x.natAbs=x:=by
 unfold k2;by_cases h:x<0
 ·simp [h];omega
 ·simp [h];omega
end Go.aj.cQ
namespace Go.aj.cQ
open Go.aj.dh
open Go.aj.sb (jP yC vm im Y2 Y1 IZ)
def iL:List UInt8→Bool
 |c::_=>decide (c=45)
 |[]=>false
def pt (s:List UInt8):List UInt8:=if iL s then s.drop 1 else s
def ky (s:List UInt8):List UInt8:=(im 47 (pt s)).1
def kx (s:List UInt8):List UInt8:=(im 47 (pt s)).2.1
def nZ (s:List UInt8):Bool:=(im 47 (pt s)).2.2
def hI (s:List UInt8):Int:=
 if vE (ky s)=false∨(nZ s=true∧vE (kx s)=false)∨(iL s=true∧ky s=[48]) then 5
 else if 2000<(ky s).length∨2000<(kx s).length then 2
 else if nZ s=true∧(kx s=[48]∨kx s=[49]∨Nat.gcd (ep 0 (ky s)) (ep 0 (kx s))≠1) then 3 else 0
def uo (s:List UInt8):Nat:=if nZ s then ep 0 (kx s) else 1
def dk (s:List UInt8):Rat:=Rat.divInt (k2 (iL s) (ep 0 (ky s))) (uo s:Nat)
def cq (q:Rat):List UInt8:=(if q.num<0 then [45] else [])++(Lib.decDigits q.num.natAbs++(if q.den=1 then [] else 47::Lib.decDigits q.den))
def eB (q:Rat):Bool:=decide ((Lib.decDigits q.num.natAbs).length≤2000) && decide ((Lib.decDigits q.den).length≤2000)
def hT (q:Rat):List UInt8×Int:=if eB q then (cq q,0) else ([],2)
theorem Wy (b:UInt8): ∀l:List UInt8,l=(im b l).1++(if (im b l).2.2 then b::(im b l).2.1 else [])
 |[]=>rfl
 |c::r=>by
  rw [im];split
  ·rename_i h;subst h;simp
  ·have:=Wy b r;simp only [oT,List.cons.injEq,true_and];exact this
structure DG (s:List UInt8)(q:Rat):Prop where
 num:q.num=k2 (iL s) (ep 0 (ky s))
 den:q.den=uo s
 tn:vH (ky s)
 rm:nZ s=true→vH (kx s)∧ep 0 (kx s)≠0∧ep 0 (kx s)≠1
 h4:(ky s).length≤2000
 Im:(kx s).length≤2000
 yk:iL s=true→ep 0 (ky s)≠0
theorem Qd {s:List UInt8}{n:Nat}(av:vH s)(aG:n<10)(h:ep 0 s=n):s=[UInt8.ofNat (48+n)]:=by rw [←CW av,h,Lib.decDigits_one aG]
theorem Dd {s:List UInt8}(h:nZ s=false):uo s=1:=by unfold uo;rw [h];rfl
theorem CY {s:List UInt8}(h:nZ s=true):uo s=ep 0 (kx s):=by unfold uo;rw [h];rfl
theorem FE {s:List UInt8}(h:hI s=0):DG s (dk s):=by
 unfold hI at h;split at h
 ·omega
 split at h
 ·omega
 split at h
 ·omega
 rename_i U ab ay;simp only [not_or,not_and,Bool.not_eq_false] at U ab ay;obtain ⟨gy,a2,a3⟩:=U;have tn:=CC.1 gy;have rm:nZ s=true→vH (kx s)∧ep 0 (kx s)≠0∧ep 0 (kx s)≠1:=fun hd=>by have c:=CC.1 (a2 hd);exact ⟨c,fun e=>(ay hd).1 (Qd c aT e),fun e=>(ay hd).2.1 (Qd c aT e)⟩
 have wC:uo s≠0:=by
  cases e:nZ s
  ·rw [Dd e];decide
  ·rw [CY e];exact (rm e).2.1
 have c9:Nat.gcd (ep 0 (ky s)) (uo s)=1:=by
  cases e:nZ s
  ·rw [Dd e];exact Nat.gcd_one_right _
  ·rw [CY e];exact hL.1 (ay e).2.2
 obtain ⟨aE,aF,bO⟩:=J8 (k2 (iL s) (ep 0 (ky s))) (uo s) wC;rw [AM,c9,Nat.div_one] at aE;rw [AM,c9,Nat.div_one] at aF;refine ⟨?_,aF,tn,rm,J,J,fun aG e=>a3 aG (Qd tn aT e)⟩;show (Rat.divInt _ _).num=_;have:=AM (iL s) (ep 0 (ky s));omega
theorem ahL {s:List UInt8}:s=(if iL s then [45] else [])++pt s:=by
 unfold pt;cases s with
 |nil=>rfl
 |cons c r=>
  unfold iL;by_cases h:c=45
  ·subst h;rfl
  ·simp [h]
theorem DG.text {s:List UInt8}{q:Rat}(h:DG s q):cq q=s:=by
 conv=>rhs;rw [ahL (s:=s),Wy 47 (pt s)]
 change cq q=_++(ky s++if nZ s then 47::kx s else [])
 unfold cq;rw [h.num,h.den,AM,CW h.tn];congr 1
 ·have:=PM (iL s) (ep 0 (ky s));cases e:iL s
  ·rw [e] at this;simp at this;rw [aw (by simpa [e] using this)];rfl
  ·rw [e] at this;have aG:=h.yk e;simp [aG] at this;rw [aB this];rfl
 ·congr 1;cases e:nZ s
  ·rw [Dd e];rfl
  ·obtain ⟨c,oc,cJ⟩:=h.rm e;rw [CY e,aw cJ,CW c];rfl
theorem Xy (q:Rat):iL (cq q)=decide (q.num<0)∧pt (cq q)=Lib.decDigits q.num.natAbs++(if q.den=1 then [] else 47::Lib.decDigits q.den):=by
 have ch:=vm q.num.natAbs;have RP:=IZ q.num.natAbs 45 aT;unfold pt cq;by_cases h:q.num<0
 ·simp [h,iL]
 ·have:iL (Lib.decDigits q.num.natAbs++(if q.den=1 then [] else 47::Lib.decDigits q.den))=false:=by
   cases e:Lib.decDigits q.num.natAbs with
   |nil=>exact absurd e ch
   |cons c r=>
    rw [e] at RP;have:c≠45:=fun e=>RP (by simp [e]);simp [iL,this]
  simp [h,this]
theorem Ph (q:Rat):im 47 (pt (cq q))=(Lib.decDigits q.num.natAbs,(if q.den=1 then [] else Lib.decDigits q.den),decide (q.den≠1)):=by
 rw [(Xy q).2];by_cases h:q.den=1
 ·rw [aB h,aB h,lA,Y2 (IZ _ 47 aT)];simp [h]
 ·rw [aw h,aw h,Y1 (IZ _ 47 aT)];simp [h]
theorem ajl {q:Rat}(h:eB q=true):hI (cq q)=0∧dk (cq q)=q:=by
 have aE:ky (cq q)=Lib.decDigits q.num.natAbs:=by unfold ky;rw [Ph]
 have aF:kx (cq q)=if q.den=1 then [] else Lib.decDigits q.den:=by unfold kx;rw [Ph]
 have bO:nZ (cq q)=decide (q.den≠1):=by unfold nZ;rw [Ph]
 have hM:=(Xy q).1;unfold eB at h;rw [er,e8,e8] at h;constructor
 ·unfold hI;rw [aE,aF,bO,hM,tT,CC.2 (IT _)];have g1: ¬(true=false∨(decide (q.den≠1)=true∧vE (if q.den=1 then [] else Lib.decDigits q.den)=false)∨(decide (q.num<0)=true∧Lib.decDigits q.num.natAbs=[48])):=by
   rintro (g|⟨g1,g2⟩|⟨g1,g2⟩)
   ·cases g
   ·rw [e8] at g1;rw [aw g1,CC.2 (IT _)] at g2;cases g2
   ·rw [e8] at g1;have:q.num.natAbs=0:=NI (by rw [g2,Lib.decDigits_one aT];rfl);omega
  have g2: ¬(2000<(Lib.decDigits q.num.natAbs).length∨2000<(if q.den=1 then [] else Lib.decDigits q.den:List UInt8).length):=by
   rintro (g|g)
   ·omega
   ·split at g
    ·simp at g
    ·omega
  have g3: ¬(decide (q.den≠1)=true∧((if q.den=1 then [] else Lib.decDigits q.den)=[48]∨(if q.den=1 then [] else Lib.decDigits q.den)=[49]∨Nat.gcd q.num.natAbs (ep 0 (if q.den=1 then [] else Lib.decDigits q.den))≠1)):=by
   rintro ⟨g,g3⟩;rw [e8] at g;rw [aw g] at g3;rw [tT] at g3;rcases g3 with g3|g3|g3
   ·have:q.den=0:=NI (by rw [g3,Lib.decDigits_one aT];rfl);exact q.den_nz this
   ·exact g (NI (by rw [g3,Lib.decDigits_one aT];rfl))
   ·exact g3 q.reduced
  rw [aw g1,aw g2,aw g3]
 ·unfold dk;have xW:uo (cq q)=q.den:=by
   unfold uo;rw [bO,aF];by_cases g:q.den=1
   ·simp [g]
   ·simp [g,tT]
  rw [aE,hM,xW,tT,apL];exact Rat.num_divInt_den q
def lu:List (List UInt8)→Int
 |[]=>0
 |s::r=>if hI s=0 then lu r else hI s
theorem FN: ∀{l:List (List UInt8)},lu l=0→ ∀s∈l,hI s=0
 |[],_,s,h=>by simp at h
 |a::r,h,s,az=>by
  rw [lu] at h;split at h
  ·rename_i U;rcases gb.1 az with e|e
   ·rw [e];exact U
   ·exact FN h s e
  ·contradiction
theorem Kg: ∀{l:List (List UInt8)},(∀s∈l,hI s=0)→lu l=0
 |[],_=>rfl
 |a::r,h=>by rw [lu,aB (h a b1)];exact Kg (fun s az=>h s (by simp [az]))
def Us (F:Rat→Rat→Rat)(a b:List UInt8):List UInt8×Int:=if lu [a,b]=0 then hT (F (dk a) (dk b)) else ([],lu [a,b])
def Cc (F:Rat→Rat)(a:List UInt8):List UInt8×Int:=if hI a=0 then hT (F (dk a)) else ([],hI a)
def abJ (a b:List UInt8):List UInt8×Int:=if lu [a,b]=0 then (if b=[48] then ([],18) else hT (dk a/dk b)) else ([],lu [a,b])
def xn (l:List Rat):List (List UInt8)×Int:=if l.all eB then (l.map cq,0) else ([],2)
def mn:Rat→List Rat→Rat×Int
 |acc,[]=>(acc,0)
 |acc,q::r=>if eB (acc+q) then mn (acc+q) r else (acc+q,2)
def nv (l:List (List UInt8)):Rat×Int:=if 256<l.length then (0,2) else if lu l=0 then mn 0 (l.map dk) else (0,lu l)
def wX (l:List (List UInt8)):Int:=if (nv l).2=0∧l.any iL=true then 4 else (nv l).2
def iI (l:List (List UInt8)):Int:=if wX l=0 then (if um (nv l).1 1=0 then 0 else 3) else wX l
def Ld (x:List Rat):Nat→Nat
 |0=>0
 |k+1=>if 0<um (x.getD k 0) (x.getD (Ld x k) 0) then k else Ld x k
def jT (l:List (List UInt8)):Int×Int:=if 256<l.length then (0,2) else if l=[] then (0,8) else if lu l=0 then ((Ld (l.map dk) l.length:Nat),0) else (0,lu l)
theorem Za {q:Rat}(h:eB q=true):(a7 q.num.natAbs).length≤2000∧(a7 q.den).length≤2000:=by
 unfold eB at h;rw [er,e8,e8] at h;have key: ∀(n m:Nat),(Lib.decDigits n).length≤m→(a7 n).length≤m:=fun n m au=>by refine oy (ha (CM n) ?_);exact dU (fN aT au) (xO aT m)
 exact ⟨key _ _ h.1,key _ _ h.2⟩
end Go.aj.cQ
namespace Go.aj.cQ
open Go.aj.dh
theorem DG.fit {s:List UInt8}{q:Rat}(h:DG s q):eB q=true:=by
 unfold eB;rw [er,e8,e8,h.num,h.den,AM,CW h.tn];refine ⟨h.h4,?_⟩;cases e:nZ s
 ·rw [Dd e,Lib.decDigits_one aT];decide
 ·rw [CY e,CW (h.rm e).1];exact h.Im
def hy (s:List UInt8)(q:Rat):Prop:=hI s=0∧dk s=q
instance (s:List UInt8)(q:Rat):Decidable (hy s q):=inferInstanceAs (Decidable (_∧_))
theorem hy.self {s:List UInt8}(h:hI s=0):hy s (dk s):=⟨h,rfl⟩
theorem hy.text {s:List UInt8}{q:Rat}(h:hy s q):cq q=s:=by
 have:=(FE h.1).text
 rwa [h.2] at this
theorem hy.fit {s:List UInt8}{q:Rat}(h:hy s q):eB q=true:=by
 have:=(FE h.1).fit
 rwa [h.2] at this
theorem ue {q:Rat}(h:eB q=true):hy (cq q) q:=ajl h
theorem hy.out {s:List UInt8}{q:Rat}(h:hy s q):hT q=(s,0):=by unfold hT;rw [aB h.fit,h.text]
def D (k:Nat)(q:Rat):Prop:=q.num.natAbs<10^k∧q.den<10^k
theorem D.mono {j k:Nat}{q:Rat}(h:D j q)(an:j≤k):D k q:=
 ⟨ha h.1 (fN aT an),ha h.2 (fN aT an)⟩
theorem D.fit {k:Nat}{q:Rat}(h:D k q)(an:k≤2000):eB q=true:=by unfold eB;rw [er,e8,e8];exact ⟨QO (Ts h.1 an),QO (Ts h.2 an)⟩
theorem D.out {k:Nat}{q:Rat}(h:D k q)(an:k≤2000):hT q=(cq q,0)∧hy (cq q) q:=⟨(ue (h.fit an)).out,ue (h.fit an)⟩
theorem hy.nF {s:List UInt8}{q:Rat}(h:hy s q){k:Nat}(an:s.length≤k)(U:1≤k):D k q:=by
 have bu:=h.text;have au:(cq q).length≤k:=by rw [bu];exact an
 unfold cq at au;rw [di,di] at au;refine ⟨ha (CM _) (fN aT J),?_⟩;by_cases hd:q.den=1
 ·rw [hd];exact ha (show 1<10^1 by decide) (fN aT U)
 ·rw [aw hd,gu] at au;exact ha (CM _) (fN aT J)
theorem xt {n d:Int}{k:Nat}(hd:d≠0)(U:n.natAbs<10^k)(ab:d.natAbs<10^k):D k (Rat.divInt n d):=by
 obtain ⟨aE,aF,_⟩:=N6 n d hd;refine ⟨?_,?_⟩
 ·rw [aE];exact re (vX _ _) U
 ·rw [aF];exact re (vX _ _) ab
theorem D.add {p q:Rat}{j k:Nat}(aD:D j p)(aA:D k q):D (j+k+1) (p+q):=by
 rw [←O7];have gy:=AT aD.1 aA.2;have a2:=AT aA.1 aD.2;rw [oV k j] at a2;have a3:=AT aD.2 aA.2;refine xt (by have:=DQ p.den_nz q.den_nz;omega) ?_ ?_
 ·have h:=Int.natAbs_add_le (p.num*q.den) (q.num*p.den);rw [ke,ke,k7,k7] at h;exact re h (Z7 gy a2)
 ·rw [k7];exact ha a3 (fN aT J)
theorem D.neg {q:Rat}{k:Nat}(h:D k q):D k (-q):=by refine ⟨?_,h.2⟩;show (-q.num).natAbs<_;rw [qu];exact h.1
theorem D.sub {p q:Rat}{j k:Nat}(aD:D j p)(aA:D k q):D (j+k+1) (p-q):=by rw [Rat.sub_eq_add_neg];exact aD.add aA.neg
theorem D.mul {p q:Rat}{j k:Nat}(aD:D j p)(aA:D k q):D (j+k) (p*q):=by
 rw [←X5];refine xt (by have:=DQ p.den_nz q.den_nz;omega) ?_ ?_
 ·rw [ke];exact AT aD.1 aA.1
 ·rw [k7];exact AT aD.2 aA.2
theorem D.div {p q:Rat}{j k:Nat}(aD:D j p)(aA:D k q)(aM:q≠0):D (j+k) (p/q):=by
 have aG:q.num≠0:=fun h=>aM (Rat.num_eq_zero.1 h);rw [←XQ p q aM];refine xt (Int.mul_ne_zero aG (by have:=p.den_nz;omega)) ?_ ?_
 ·rw [ke,k7];exact AT aD.1 aA.2
 ·rw [ke,k7,oV];exact AT aA.1 aD.2
theorem JC {s:List UInt8}(h:hI s=0):iL s=false↔0≤dk s:=by
 have aD:=FE h;have U:=PM (iL s) (ep 0 (ky s));rw [←aD.num] at U;rw [←Rat.num_nonneg];cases e:iL s
 ·rw [e] at U;simp at U;simpa using U
 ·have ab:(dk s).num<0:=by have ay:=aD.yk e;rw [e] at U;simpa [ay] using U
  exact ⟨fun q=>absurd q aT,fun q=>absurd ab J⟩
def b2 (f:Nat→Rat):Nat→Rat
 |0=>0
 |n+1=>b2 f n+f n
theorem e7 {f g:Nat→Rat}: ∀{n:Nat},(∀i,i<n→f i=g i)→b2 f n=b2 g n
 |0,_=>rfl
 |n+1,h=>by rw [b2,b2,e7 (fun i aa=>h i J),h n J]
theorem p6: ∀n:Nat,b2 (fun _=>0) n=0
 |0=>rfl
 |n+1=>by rw [b2,p6 n,jX]
theorem vr (f g:Nat→Rat): ∀n:Nat,b2 (fun i=>f i+g i) n=b2 f n+b2 g n
 |0=>by rw [b2,b2,b2,jX]
 |n+1=>by rw [b2,b2,b2,vr f g n];rw [xP,xP,←xP (b2 g n),Rat.add_comm (b2 g n) (f n),xP]
theorem tY (c:Rat)(f:Nat→Rat): ∀n:Nat,b2 (fun i=>c*f i) n=c*b2 f n
 |0=>by rw [b2,b2,wc]
 |n+1=>by rw [b2,b2,tY c f n,Rat.mul_add]
theorem AB (c:Rat)(f:Nat→Rat): ∀n:Nat,b2 (fun i=>f i*c) n=b2 f n*c
 |0=>by rw [b2,b2,oa]
 |n+1=>by rw [b2,b2,AB c f n,Rat.add_mul]
theorem OU (f:Nat→Nat→Rat)(m:Nat): ∀n:Nat,b2 (fun i=>b2 (fun j=>f i j) m) n=b2 (fun j=>b2 (fun i=>f i j) n) m
 |0=>by show (0:Rat)=b2 (fun j=>0) m;rw [p6]
 |n+1=>by rw [b2,OU f m n,←vr];exact e7 (fun i _=>rfl)
theorem NR {f:Nat→Rat}: ∀{n:Nat},(∀i,i<n→0≤f i)→0≤b2 f n
 |0,_=>td
 |n+1,h=>by rw [b2];exact Rat.add_nonneg (NR (fun i aa=>h i J)) (h n J)
def h9 (a b:List Rat):Rat:=b2 (fun i=>a.getD i 0*b.getD i 0) a.length
def r4 (m:List (List Rat))(k:Nat):List Rat:=m.map (fun row=>row.getD k 0)
def Rj (m:List (List Rat))(w:Nat):List (List Rat):=(List.range w).map (r4 m)
def Ty (a b:List (List Rat))(w:Nat):List (List Rat):=a.map (fun row=>(Rj b w).map (h9 row))
theorem Pd (m:List (List Rat))(k i:Nat):(r4 m k).getD i 0=(m.getD i []).getD k 0:=by
 unfold r4;by_cases h:i<m.length
 ·simp [List.getD,h]
 ·simp [List.getD,h]
theorem XK (m:List (List Rat))(k:Nat):(r4 m k).length=m.length:=by simp [r4]
theorem nk {α β:Type}(f:α→β)(l:List α)(d:α)(e:β)(i:Nat)(aa:i<l.length):(l.map f).getD i e=f (l.getD i d):=by simp [List.getD,aa]
theorem vp {a b:List Rat}{n:Nat}(h:a.length=n):h9 a b=b2 (fun i=>a.getD i 0*b.getD i 0) n:=by unfold h9;rw [h]
abbrev dP:=List UInt8
def Uw (v:List dP):Int:=if 40<v.length then 2 else lu v
def Ua (w:Nat):List (List dP)→Int
 |[]=>0
 |r::rs=>if r.length=w then (if Uw r=0 then Ua w rs else Uw r) else 3
def sa (m:List (List dP)):Nat:=(m.getD 0 []).length
def Ca (m:List (List dP)):Int:=if 40<m.length then 2 else Ua (sa m) m
def rB (m:List (List dP)):List (List Rat):=m.map (fun r=>r.map dk)
def aii (q:List (List Rat)):List (List dP)×Int:=if q.all (fun r=>r.all eB) then (q.map (fun r=>r.map cq),0) else ([],2)
def mulR (a b:List (List dP)):List (List dP)×Int:=if Ca a≠0 then ([],Ca a) else if Ca b≠0 then ([],Ca b) else if sa a=b.length then aii (Ty (rB a) (rB b) (sa b)) else ([],3)
structure ZW (m:List (List dP))(p q:Nat):Prop where
 rows:m.length=p
 qA: ∀r∈m,r.length=q
 sp:p≤40
 bo:m≠[]→q≤40
 ok: ∀r∈m,∀s∈r,hI s=0
structure Prod (a b:List (List dP))(t:List (List dP))(p q r K:Nat):Prop where
 res:mulR a b=(t,0)
 ok:ZW t p r
 val:rB t=Ty (rB a) (rB b) r
 nF: ∀x∈rB t,∀y∈x,D K y
end Go.aj.cQ
namespace Go.aj.dR
def b5 (f:Nat→Int):Nat→Int
 |0=>0
 |n+1=>b5 f n+f n
theorem gw {f g:Nat→Int}: ∀{n:Nat},(∀i,i<n→f i=g i)→b5 f n=b5 g n
 |0,_=>rfl
 |n+1,h=>by rw [b5,b5,gw (fun i aa=>h i J),h n J]
theorem sK {f:Nat→Int}: ∀{n:Nat},(∀i,i<n→f i=0)→b5 f n=0
 |0,_=>rfl
 |n+1,h=>by rw [b5,sK (fun i aa=>h i J),h n J];rfl
theorem vt (f g:Nat→Int): ∀n,b5 (fun i=>f i+g i) n=b5 f n+b5 g n
 |0=>rfl
 |n+1=>by rw [b5,b5,b5,vt f g n];omega
theorem nm (c:Int)(f:Nat→Int): ∀n,b5 (fun i=>c*f i) n=c*b5 f n
 |0=>by rw [b5,b5,gB]
 |n+1=>by rw [b5,b5,nm c f n,zr]
theorem yU {f:Nat→Int}{n:Nat}(k:Nat)(an:k<n)(h: ∀i,i<n→i≠k→f i=0):b5 f n=f k:=by
 induction n with
 |zero=>omega
 |succ n a6=>
  rw [b5];by_cases EC:k=n
  ·subst EC;rw [sK (fun i aa=>h i J J)];omega
  ·rw [a6 J (fun i aa ch=>h i J ch),h n J (fun e=>EC e.symm)];omega
theorem Yz {f:Nat→Int}{n:Nat}(k l:Nat)(an:k<n)(au:l<n)(afl:k≠l)(h: ∀i,i<n→i≠k→i≠l→f i=0):b5 f n=f k+f l:=by
 have e:b5 f n=b5 (fun i=>(if i=k then f k else 0)+(if i=k then 0 else f i)) n:=by
  refine gw (fun i aa=> ?_);by_cases rr:i=k
  ·subst rr;simp
  ·simp [rr]
 rw [e,vt];rw [yU k an (fun i aa ch=>by simp [ch]),yU l au (fun i aa ch=>by
  by_cases rr:i=k
  ·simp [rr]
  ·simp [rr];exact h i aa rr ch)]
 have: ¬l=k:=fun e=>afl e.symm;simp [this]
abbrev V:=Nat→Int
abbrev ir:=Nat→V
def ow:Nat→Int
 |0=>1
 |n+1=> -ow n
def skip (i:Nat)(D:ir):ir:=fun a c=>D (if a<i then a else a+1) (c+1)
def ew:Nat→ir→Int
 |0,_=>1
 |n+1,D=>b5 (fun i=>ow i*(D i 0*ew n (skip i D))) (n+1)
def put (D:ir)(r:Nat)(v:V):ir:=fun a=>if a=r then v else D a
theorem yH: ∀{n:Nat} {D E:ir},(∀a c,a<n→c<n→D a c=E a c)→ew n D=ew n E
 |0,_,_,_=>rfl
 |n+1,D,E,h=>by rw [ew,ew];refine gw (fun i aa=> ?_);rw [h i 0 aa J,yH (D:=skip i D) (E:=skip i E) (fun a c aW av=> ?_)];unfold skip;exact h _ _ (by split<;>omega) J
theorem Fl (D:ir)(r:Nat)(v:V):skip r (put D r v)=skip r D:=by
 funext a c;unfold skip put;have: ¬(if a<r then a else a+1)=r:=by split<;>omega
 rw [aw this]
theorem F3 {D:ir}{i r:Nat}{v:V}(h:i≠r):skip i (put D r v)=put (skip i D) (if r<i then r else r-1) (fun c=>v (c+1)):=by
 funext a c;unfold skip put;by_cases wM:r<i
 ·rw [aB wM];by_cases aW:a=r
  ·subst aW;rw [aB wM];simp
  ·by_cases El:a<i
   ·simp [El,aW]
   ·have: ¬a+1=r:=J;simp [El,aW,this]
 ·rw [aw wM];by_cases aW:a=r-1
  ·subst aW;have U: ¬r-1<i:=J;have ab:r-1+1=r:=J;simp [U,ab]
  ·by_cases El:a<i
   ·have: ¬a=r:=J;simp [El,aW,this]
   ·have: ¬a+1=r:=J;simp [El,aW,this]
theorem Kj: ∀(n:Nat) (D:ir) (r:Nat) (u v:V),r<n→ew n (put D r (fun c=>u c+v c))=ew n (put D r u)+ew n (put D r v)
 |0,_,_,_,_,h=>absurd h (gh _)
 |n+1,D,r,u,v,h=>by
  rw [ew,ew,ew,←vt];refine gw (fun i aa=> ?_);by_cases l3:i=r
  ·subst l3;rw [Fl,Fl,Fl];have e: ∀w:V,put D i w i 0=w 0:=fun w=>by simp [put]
   rw [e,e,e,Int.add_mul,zr]
  ·have e: ∀w:V,put D r w i 0=D i 0:=fun w=>by simp [put,l3]
   rw [F3 l3,F3 l3,F3 l3,e,e,e,Kj n _ _ _ _ (by split<;>omega),zr,zr]
theorem FR: ∀(n:Nat) (D:ir) (r:Nat) (k:Int) (v:V),r<n→ew n (put D r (fun c=>k*v c))=k*ew n (put D r v)
 |0,_,_,_,_,h=>absurd h (gh _)
 |n+1,D,r,k,v,h=>by
  rw [ew,ew,←nm];refine gw (fun i aa=> ?_);by_cases l3:i=r
  ·subst l3;rw [Fl,Fl];have e: ∀w:V,put D i w i 0=w 0:=fun w=>by simp [put]
   rw [e,e,pL k,kG]
  ·have e: ∀w:V,put D r w i 0=D i 0:=fun w=>by simp [put,l3]
   rw [F3 l3,F3 l3,e,e,FR n _ _ _ _ (by split<;>omega),pL k,pL k]
theorem U0 (n:Nat)(D:ir)(r:Nat)(h:r<n):ew n (put D r (fun _=>0))=0:=by have:=FR n D r 0 (fun _=>0) h;simpa using this
theorem P2: ∀(n:Nat) (D:ir) (r:Nat),r+1<n→(∀c,c<n→D r c=D (r+1) c)→ew n D=0
 |0,_,_,h,_=>absurd h (gh _)
 |n+1,D,r,h,he=>by
  rw [ew,Yz r (r+1) J h J (fun i aa U ab=> ?_)]
  ·have e:ew n (skip r D)=ew n (skip (r+1) D):=yH (fun a c aW av=>by
    unfold skip;by_cases U:a<r
    ·rw [aB U,aB J]
    ·rw [aw U];by_cases ab:a<r+1
     ·have:a=r:=J;subst this;rw [aB ab];exact (he _ J).symm
     ·rw [aw ab])
   rw [e,he 0 J,ow,rh];omega
  ·have:=P2 n (skip i D) (if r<i then r else r-1) (by split<;>omega) (fun c av=>by
    unfold skip;by_cases wM:r<i
    ·rw [aB wM,aB (show r<i from wM),aB (show r+1<i by omega)];exact he _ J
    ·have aE: ¬r-1<i:=J;have aF: ¬r-1+1<i:=J;rw [aw wM,aw aE,aw aF,show r-1+1=r by omega];exact he _ J)
   rw [this,gB,gB]
theorem PD (D:ir){r s:Nat}(u v:V)(h:r≠s):put (put D r u) s v=put (put D s v) r u:=by
 funext a;unfold put;by_cases U:a=s
 ·have: ¬a=r:=fun e=>h (e.symm.trans U);simp [U];intro e;exact absurd e.symm h
 ·simp [U]
theorem PE (D:ir)(r:Nat):put D r (D r)=D:=by
 funext a;unfold put;split
 ·rename_i h;rw [h]
 ·rfl
theorem abC (n:Nat)(D:ir)(r:Nat)(u v:V)(h:r+1<n):ew n (put (put D r u) (r+1) v)= -ew n (put (put D r v) (r+1) u):=by
 have key: ∀w:V,ew n (put (put D r w) (r+1) w)=0:=fun w=>P2 n _ r h (fun c _=>by unfold put;simp);have aM:=key (fun c=>u c+v c);have QP: ∀w:V,ew n (put (put D r (fun c=>u c+v c)) (r+1) w)=ew n (put (put D r u) (r+1) w)+ew n (put (put D r v) (r+1) w):=fun w=>by rw [PD D _ w J,Kj n _ _ _ _ J,PD D u w J,PD D v w J]
 rw [Kj n _ _ _ _ h,QP,QP] at aM;have U:=key u;have ab:=key v;omega
theorem Qq: ∀(k:Nat) (n:Nat) (D:ir) (r:Nat),r+(k+1)<n→(∀c,c<n→D r c=D (r+(k+1)) c)→ew n D=0
 |0,n,D,r,h,he=>P2 n D r h he
 |k+1,n,D,r,h,he=>by
  have e:D=put (put D (r+(k+1)) (D (r+(k+1)))) (r+(k+1)+1) (D (r+(k+1)+1)):=by rw [PE,PE]
  rw [e,abC n D (r+(k+1)) _ _ J,Qq k n _ r J (fun c av=> ?_)]
  ·rfl
  ·have U: ¬r=r+(k+1)+1:=J;have ab: ¬r=r+(k+1):=J;have ay: ¬r+(k+1)=r+(k+1)+1:=J;unfold put;rw [aw U,aw ab,aw ay,aB rfl];exact he c av
theorem abB (n:Nat)(D:ir){r s:Nat}(ad:r<n)(az:s<n)(ch:r≠s):ew n (put D r (D s))=0:=by
 rcases Nat.lt_or_gt_of_ne ch with h|h
 ·refine Qq (s-r-1) n _ r J (fun c _=> ?_);rw [show r+(s-r-1+1)=s by omega];have: ¬s=r:=fun e=>ch e.symm;simp [put,this]
 ·refine Qq (r-s-1) n _ s J (fun c _=> ?_);rw [show s+(r-s-1+1)=r by omega];have: ¬s=r:=fun e=>ch e.symm;simp [put,this]
theorem XO (n:Nat)(D:ir)(r:Nat)(ad:r<n)(t:V): ∀k,k≤n→ew n (put D r (fun c=>b5 (fun i=>t i*D i c) k))=if r<k then t r*ew n D else 0
 |0,_=>by rw [aw (gh _)];exact U0 n D r ad
 |k+1,an=>by
  have a6:=XO n D r ad t k J;have e:(fun c=>b5 (fun i=>t i*D i c) (k+1))=(fun c=>(fun c=>b5 (fun i=>t i*D i c) k) c+(fun c=>t k*D k c) c):=rfl;rw [e,Kj n D r _ _ ad,a6,FR n D r _ _ ad];by_cases Sy:k=r
  ·subst Sy;rw [aw J,aB J,PE];omega
  ·rw [abB n D ad J (fun e=>Sy e.symm),gB,uA];by_cases U:r<k
   ·rw [aB U,aB J]
   ·rw [aw U,aw J]
theorem IV {n:Nat}{D:ir}{r:Nat}(ad:r<n){t w:V}(h: ∀c,c<n→w c=b5 (fun i=>t i*D i c) n):ew n (put D r w)=t r*ew n D:=by
 have:=XO n D r ad t n (bN _);rw [aB ad] at this;rw [←this];refine yH (fun a c _ av=> ?_);unfold put;split
 ·exact h c av
 ·rfl
def A9:ir:=fun a c=>if a=c then 1 else 0
theorem XP: ∀n:Nat,ew n A9=1
 |0=>rfl
 |n+1=>by rw [ew,yU 0 J (fun i aa ch=>by simp [A9,ch])];have:ew n (skip 0 A9)=ew n A9:=yH (fun a c _ _=>by simp [skip,A9]);rw [this,XP n];simp [ow,A9]
theorem Vl {f:Nat→Int}{B:Nat}: ∀{n:Nat},(∀i,i<n→(f i).natAbs≤B)→(b5 f n).natAbs≤n*B
 |0,_=>by simp [b5]
 |n+1,h=>by rw [b5];have U:=Vl (n:=n) (fun i aa=>h i J);have ab:=h n J;have ay:=Int.natAbs_add_le (b5 f n) (f n);rw [eF];omega
theorem Uh: ∀n,(ow n).natAbs=1
 |0=>rfl
 |n+1=>by rw [ow,qu,Uh n]
def qB:Nat→Nat
 |0=>1
 |n+1=>(n+1)*qB n
theorem OL {B:Nat}: ∀{n:Nat} {D:ir},(∀a c,a<n→c<n→(D a c).natAbs≤B)→(ew n D).natAbs≤qB n*B^n
 |0,_,_=>by simp [ew,qB]
 |n+1,D,h=>by
  rw [ew];have:=Vl (f:=fun i=>ow i*(D i 0*ew n (skip i D))) (B:=B*(qB n*B^n)) (n:=n+1) (fun i aa=>by
   rw [ke,ke,Uh,qt];refine jW (h i 0 aa J) (OL (fun a c aW av=> ?_));unfold skip;exact h _ _ (by split<;>omega) J)
  refine dU this ?_;rw [qB,hY];have e:(n+1)*(B*(qB n*B^n))=(n+1)*qB n*(B^n*B):=by rw [Nat.mul_left_comm B,hj B,kF]
  omega
def s6 (n:Nat)(D:ir)(d:Int)(t0 t:V):Prop:= ∀c,c<n→b5 (fun i=>t i*D i c) n=d*t0 c
theorem ZB {n:Nat}{D:ir}{d s:Int}{t0 t:V}(hd:d≠0)(az:s*s=1)(fK:ew n D=s*d)(h:s6 n D d t0 t){i:Nat}(aa:i<n):t i=s*ew n (put D i t0):=by
 have U:=IV (w:=fun c=>d*t0 c) aa (fun c av=>(h c av).symm);rw [FR n D i d t0 aa,fK] at U;have ab:d*ew n (put D i t0)=d*(s*t i):=by rw [U,pL,mu (t i) d,pL]
 have ay:=Int.eq_of_mul_eq_mul_left hd ab;rw [ay,←kG,az,mv]
theorem WO {n:Nat}{D:ir}{d s:Int}{t0 t:V}(hd:d≠0)(az:s*s=1)(fK:ew n D=s*d)(h:s6 n D d t0 t){r:Nat}(ad:r<n):ew n (put D r t0)=s*t r:=by rw [ZB hd az fK h ad,←kG,az,mv]
theorem akF {n:Nat}{D:ir}{r:Nat}(ad:r<n)(v:V)(t:V)(c:Nat):b5 (fun i=>t i*put D r v i c) n=b5 (fun i=>t i*D i c) n-t r*D r c+t r*v c:=by
 have e: ∀i,i<n→t i*put D r v i c=t i*D i c+(if i=r then t r*v c-t r*D r c else 0):=by
  intro i aa;by_cases l3:i=r
  ·subst l3;simp [put];omega
  ·simp [put,l3]
 rw [gw e,vt,yU (f:=fun i=>if i=r then t r*v c-t r*D r c else 0) r ad (fun i aa ch=>by simp [ch])];simp;omega
theorem WQ {n:Nat}{D:ir}{d s:Int}{sC h5 tL kp:V}(hd:d≠0)(az:s*s=1)(fK:ew n D=s*d)(av:s6 n D d sC h5)(ae:s6 n D d tL kp){r:Nat}(ad:r<n)(aD:h5 r≠0):
 (∀i,i<n→i≠r→d∣kp i*h5 r-h5 i*kp r)∧s6 n (put D r sC) (h5 r) tL (fun i=>if i=r then kp r else (kp i*h5 r-h5 i*kp r)/d):=by
 have adt:=WO hd az fK av ad
 --the numerators are a solution of d times the new equation
 let N:V:=fun i=>if i=r then d*kp r else kp i*h5 r-h5 i*kp r
 have jc: ∀c,c<n→b5 (fun i=>N i*put D r sC i c) n=d*h5 r*tL c:=by
  intro c uN;rw [akF ad];have e: ∀i,i<n→N i*D i c=(h5 r*(kp i*D i c)+(-(kp r))*(h5 i*D i c))+(if i=r then d*kp r*D r c else 0):=by
   intro i aa;by_cases l3:i=r
   ·subst l3;simp only [N,gg];have:h5 i*(kp i*D i c)+ -kp i*(h5 i*D i c)=0:=by rw [rh,pL];omega
    omega
   ·simp only [N,l3,hA,uA];rw [Int.sub_mul,rh,mu (kp i) (h5 r),kG,mu (h5 i) (kp r),kG];omega
  rw [gw e,vt,vt,nm,nm,ae c uN,av c uN,yU (f:=fun i=>if i=r then d*kp r*D r c else 0) r ad (fun i aa ch=>by simp [ch])];simp only [N,gg];have aE:h5 r*(d*tL c)=d*h5 r*tL c:=by rw [←kG,mu (h5 r) d]
  have aF: -kp r*(d*sC c)= -(d*kp r*sC c):=by rw [rh,←kG,mu (kp r) d]
  rw [aE,aF];omega
 have hex: ∀i,i<n→N i=d*(s*ew n (put (put D r sC) i tL)):=by
  intro i aa;have U:=IV (D:=put D r sC) (w:=fun c=>d*h5 r*tL c) aa (fun c uN=>(jc c uN).symm);rw [FR n _ i (d*h5 r) tL aa,adt] at U;have ab:h5 r*(d*(s*ew n (put (put D r sC) i tL)))=h5 r*N i:=by
   have ay:s*(d*h5 r*ew n (put (put D r sC) i tL))=s*(N i*(s*h5 r)):=by rw [U]
   have bc:s*(N i*(s*h5 r))=h5 r*N i:=by rw [pL,←kG s s,az,mv,mu]
   rw [bc] at ay;rw [←ay];rw [kG d,pL s d,pL s (h5 r),pL d (h5 r)]
  exact (Int.eq_of_mul_eq_mul_left aD ab).symm
 refine ⟨fun i aa ch=> ?_,?_⟩
 ·have:=hex i aa;simp only [N,ch,hA] at this;exact ⟨_,this⟩
 ·intro c uN;have U:=jc c uN;have ab: ∀i,i<n→N i*put D r sC i c=d*((fun i=>if i=r then kp r else (kp i*h5 r-h5 i*kp r)/d) i*put D r sC i c):=by
   intro i aa;by_cases l3:i=r
   ·subst l3;simp only [N,gg];rw [kG]
   ·have ay:=hex i aa;simp only [N,l3,hA] at ay⊢;have bc:(kp i*h5 r-h5 i*kp r)/d=s*ew n (put (put D r sC) i tL):=by rw [ay,GR _ hd]
    rw [bc,←kG,←ay]
  rw [gw ab,nm,kG d] at U;exact Int.eq_of_mul_eq_mul_left hd U
def qZ (x d:Int):Int:=if (decide (x<0) !=decide (d<0))=true then-((x.natAbs/d.natAbs:Nat):Int) else ((x.natAbs/d.natAbs:Nat):Int)
theorem Jy {q d:Int}(hd:d≠0):qZ (d*q) d=q:=by
 have aG:(d*q).natAbs/d.natAbs=q.natAbs:=by rw [ke,Nat.mul_div_cancel_left _ J]
 unfold qZ;rw [aG];rcases zn q 0 with aA|aA|aA
 ·rcases Int.lt_or_gt_of_ne hd with h|h
  ·have U: ¬d*q<0:=Int.not_lt.2 (xQ (Int.mul_pos_of_neg_of_neg h aA));simp [h,U];omega
  ·have U:d*q<0:=Int.mul_neg_of_pos_of_neg h aA;have ab: ¬d<0:=J;simp [U,ab];omega
 ·subst aA;simp
 ·rcases Int.lt_or_gt_of_ne hd with h|h
  ·have U:d*q<0:=Int.mul_neg_of_neg_of_pos h aA;simp [h,U];omega
  ·have U: ¬d*q<0:=Int.not_lt.2 (xQ (xR h aA));have ab: ¬d<0:=J;simp [U,ab];omega
theorem V4 {x d:Int}(hd:d≠0)(h:d∣x):qZ x d=x/d:=by obtain ⟨q,rfl⟩:=h;rw [Jy hd,GR _ hd]
abbrev cu:=List (List Int)
def ax (T:cu)(i j:Nat):Int:=(T.getD i []).getD j 0
def yW (R K:List Int)(p f d:Int):List Int:=(List.range R.length).map (fun j=>qZ (R.getD j 0*p-f*K.getD j 0) d)
def pw (T:cu)(k c:Nat)(d:Int):cu:=(List.range T.length).map (fun i=>if i=k then T.getD k [] else yW (T.getD i []) (T.getD k []) (ax T k c) (ax T i c) d)
theorem fQ {α:Type}(l:List α)(d x:α)(i j:Nat):(l.set i x).getD j d=if j=i∧i<l.length then x else l.getD j d:=by
 by_cases h:j=i
 ·subst h;by_cases ab:j<l.length
  ·simp [List.getD,ab]
  ·have:l.length≤j:=J;simp [List.getD,ab,this]
 ·have: ¬i=j:=fun e=>h e.symm;simp [List.getD,h,DN,this]
theorem OM (T:cu)(k c:Nat)(d:Int):(pw T k c d).length=T.length:=by simp [pw]
theorem aot (T:cu)(k c:Nat)(d:Int){i:Nat}(aa:i<T.length):(pw T k c d).getD i []=if i=k then T.getD k [] else yW (T.getD i []) (T.getD k []) (ax T k c) (ax T i c) d:=by unfold pw;simp [List.getD,aa]
theorem Xr (T:cu)(k c:Nat)(d:Int){L:Nat}(b4: ∀x∈T,x.length=L){i j:Nat}(aa:i<T.length)(ae:j<L):ax (pw T k c d) i j=if i=k then ax T k j else qZ (ax T i j*ax T k c-ax T i c*ax T k j) d:=by
 unfold ax;rw [aot T k c d aa];have au:(T.getD i []).length=L:=b4 _ (by simp [List.getD,aa]);by_cases h:i=k
 ·rw [aB h,aB h]
 ·rw [aw h,aw h];unfold yW;rw [au];have: ∀f:Nat→Int,((List.range L).map f).getD j 0=f j:=fun f=>by simp [List.getD,ae]
  rw [this];rfl
theorem amH (R K:List Int)(p f d:Int):(yW R K p f d).length=R.length:=by simp [yW]
theorem ON (T:cu)(k c:Nat)(d:Int){L:Nat}(an:k<T.length)(b4: ∀x∈T,x.length=L): ∀x∈pw T k c d,x.length=L:=by
 intro x al;obtain ⟨i,aa,rfl⟩:=cS.1 al;have aa:i<T.length:=by simpa using aa
 split
 ·exact b4 _ (by simp [List.getD,an])
 ·rw [amH];exact b4 _ (by simp [List.getD,aa])
end Go.aj.dR
namespace Go.aj.cQ
open Go.aj.dh Go.aj.dR
theorem eA {α:Type}{l:List α}{j:Nat}(d:α)(h:j<l.length):l.getD j d=l[j]:=by simp [List.getD,h]
theorem dv {α:Type}{l:List α}{j:Nat}(d:α)(h:j<l.length):l.getD j d∈l:=by rw [eA d h];exact List.getElem_mem h
theorem uc {α:Type}{l r:List α}{j:Nat}(d:α)(h:j<l.length):(l++r).getD j d=l.getD j d:=by simp [List.getD,ic h]
theorem P7 {α:Type}{l:List α}{x d:α}:(l++[x]).getD l.length d=x:=by simp [List.getD]
theorem YK (q:Rat):q*(q.den:Rat)=(q.num:Rat):=by
 have h:((q.den:Int):Rat)≠0:=fun e=>q.den_nz (by
  have:=congrArg Rat.num e;simpa using this)
 have ab:=Rat.num_divInt_den q;rw [Rat.divInt_eq_div] at ab
 conv=>lhs;lhs;rw [←ab]
 rw [←xS,Rat.div_mul_cancel h]
def hS:Nat→List Rat→Nat
 |f,[]=>f
 |f,q::r=>hS (f*(q.den/Nat.gcd f q.den)) r
theorem acI (f d:Nat):f∣f*(d/Nat.gcd f d)∧d∣f*(d/Nat.gcd f d):=by refine ⟨Nat.dvd_mul_right _ _,?_⟩;obtain ⟨a,aW⟩:=Nat.gcd_dvd_left f d;have ab:Nat.gcd f d*(d/Nat.gcd f d)=d:=Nat.mul_div_cancel' (DR f d);refine ⟨a,?_⟩;generalize d/Nat.gcd f d=b at*;generalize Nat.gcd f d=g at*;rw [aW,←ab];rw [kF,kF,hj a b]
theorem XW: ∀(l:List Rat) (f:Nat),f∣hS f l∧ ∀q∈l,q.den∣hS f l
 |[],f=>⟨Nat.dvd_refl _,fun q aA=>by simp at aA⟩
 |a::r,f=>by
  rw [hS];obtain ⟨U,ab⟩:=XW r (f*(a.den/Nat.gcd f a.den));obtain ⟨s1,s2⟩:=acI f a.den;refine ⟨Nat.dvd_trans s1 U,fun q aA=> ?_⟩;rcases gb.1 aA with rfl|aA
  ·exact Nat.dvd_trans s2 U
  ·exact ab q aA
theorem J5: ∀(l:List Rat) (f:Nat),0<f→0<hS f l
 |[],f,h=>h
 |a::r,f,h=>by
  rw [hS];refine J5 r _ (zp h ?_);have ab:Nat.gcd f a.den*(a.den/Nat.gcd f a.den)=a.den:=Nat.mul_div_cancel' (DR f a.den);have:=a.den_pos;rcases nz (a.den/Nat.gcd f a.den) with e|e
  ·rw [e,ta] at ab;omega
  ·exact e
theorem Y8 {k:Nat}: ∀(l:List Rat) (f:Nat),(∀q∈l,q.den<10^k)→hS f l≤f*10^(k*l.length)
 |[],f,_=>by rw [hS,k6,ta,xK,rf];exact bN _
 |a::r,f,h=>by rw [hS];refine dU (Y8 r _ (fun q aA=>h q (by simp [aA]))) ?_;have U:a.den/Nat.gcd f a.den≤10^k:=dU (vX _ _) (ri (h a b1));rw [gu,gS,rf,oV,iN,←kF];exact fp _ (hK _ U)
def hP (l:List Rat):List Int:=l.map (fun q=>q.num*((hS 1 l/q.den:Nat):Int))
theorem Jg (l:List Rat):(hP l).length=l.length:=by simp [hP]
theorem Xl {l:List Rat}{q:Rat}(h:q∈l):((q.num*((hS 1 l/q.den:Nat):Int):Int):Rat)=((hS 1 l:Nat):Rat)*q:=by obtain ⟨k,an⟩:=(XW l 1).2 q h;rw [an,Nat.mul_div_cancel_left _ q.den_pos,pM,Rat.natCast_mul];have U:q*(q.den:Rat)=(q.num:Rat):=YK q;have ab:((k:Int):Rat)=(k:Rat):=xS k;rw [ab,←U];grind
theorem Rx: ∀{n:Nat},n≤40→qB n≤100^n
 |0,_=>bN _
 |n+1,h=>by rw [qB,hY,hj];exact jW (Rx J) J
theorem abD {n k:Nat}(h:n≤40):qB n*(10^k)^n≤10^((k+2)*n):=by refine dU (fp _ (Rx h)) ?_;rw [←Nat.mul_pow,Nat.pow_mul,iN];refine xO ?_ n;rw [hj];exact bN _
theorem anZ {a x y:Rat}(aW:a≠0)(h:a*x=a*y):x=y:=by
 have U:a⁻¹ *(a*x)=a⁻¹ *(a*y):=by rw [h]
 rwa [←te,←te,Rat.inv_mul_cancel a aW,pN,pN] at U
theorem FG (f:Nat→Int): ∀n,((b5 f n:Int):Rat)=b2 (fun i=>((f i:Int):Rat)) n
 |0=>rfl
 |n+1=>by rw [b5,b2,DS,FG f n]
theorem YH {x:Int}(h:x≠0):(x:Rat)≠0:=fun e=>h (by
 have:=congrArg Rat.num e;simpa using this)
theorem abG {k:Nat}{q:Rat}(U:(Lib.decDigits q.num.natAbs).length≤k)(ab:(Lib.decDigits q.den).length≤k):D k q:=
 ⟨ha (CM _) (fN aT U),ha (CM _) (fN aT ab)⟩
end Go.aj.cQ
namespace Go.aj.cQ
open Go.aj.dh
structure ev where
 kind:Int
 gI:Int
 info:Int
 next:List Int
 c3:List dP
 jf:dP
 deriving DecidableEq
def aN:ev:=⟨0,0,0,[],[],[]⟩
abbrev aJ:=List ev
def AE (N i:Nat)(k:Int):Bool:=decide (k≤(i:Int))||decide ((N:Int)≤k)
def y4 (N i:Nat)(l:List Int):Int:=if l.length=0 then 3 else if 6<l.length then 2 else if l.any (AE N i)=true then 3 else 0
def py (N i:Nat)(n:ev):Int:=
 if n.kind=0 then (if n.gI≠0∨n.info≠0∨n.next≠[]∨n.c3≠[] then 3 else hI n.jf)
 else if n.kind=1 then (if n.gI≠0∨n.info≠0∨n.jf≠[] then 3 else if y4 N i n.next≠0 then y4 N i n.next else if n.c3.length≠n.next.length then 3 else iI n.c3)
 else if n.kind=2 then (if n.c3≠[]∨n.jf≠[] then 3 else if (n.gI≠0∧n.gI≠1)∨n.info<0∨10≤n.info then 4 else y4 N i n.next)
 else 1
def uf (N:Nat):Nat→aJ→Int
 |_,[]=>0
 |i,n::r=>if py N i n=0 then uf N (i+1) r else py N i n
def named (t:aJ)(k:Nat):Nat:=((t.flatMap ev.next).filter (fun x=>decide (x=(k:Int)))).length
def vJ (a b:ev):Bool:=decide (a.kind=2) && (decide (b.kind=2) && (decide (a.gI=b.gI) && (decide (a.info=b.info) && decide (a.next.length≠b.next.length))))
def nu (t:aJ):Int:=
 if 120<t.length then 2 else if t.length=0 then 8 else if uf t.length 0 t≠0 then uf t.length 0 t
 else if (List.range t.length).any (fun k=>decide (k≠0) && decide (named t k≠1))=true then 3
 else if t.any (fun a=>t.any (vJ a))=true then 3 else 0
def y6 (t:aJ)(p:Int):Int:=if nu t≠0 then nu t else if p≠0∧p≠1 then 4 else 0
def own (p:Int)(n:ev):Bool:=decide (n.kind=2) && decide (n.gI=p)
def fX (p i:Int)(n:ev):Bool:=own p n && decide (n.info=i)
def Kl (t:aJ)(p i:Int):Nat:=t.findIdx (fX p i)
def b9 (t:aJ)(p:Int):List Int:=((List.range 10).map (fun i:Nat=>(i:Int))).filter (fun i=>t.any (fX p i))
def ca (t:aJ)(p i:Int):Nat:=(t.getD (Kl t p i) aN).next.length
def j3 (t:aJ)(p:Int):List Int:=(b9 t p).map (fun i=>((ca t p i:Nat):Int))
structure Valid (t:aJ):Prop where
 le:t.length≤120
 ne:t.length≠0
 nodes: ∀i,i<t.length→py t.length i (t.getD i aN)=0
 once: ∀k,k<t.length→k≠0→named t k=1
 same: ∀a∈t,∀b∈t,vJ a b=false
theorem WI (N:Nat): ∀(t:aJ) (i:Nat),uf N i t=0→ ∀j,j<t.length→py N (i+j) (t.getD j aN)=0
 |[],i,_,j,ae=>absurd ae (gh _)
 |n::r,i,h,j,ae=>by
  rw [uf] at h;split at h
  ·rename_i aM;cases j with
   |zero=>exact aM
   |succ j=>
    have:=WI N r (i+1) h j (by simpa using ae);rw [show i+(j+1)=i+1+j by omega];exact this
  ·rename_i aM;exact absurd h aM
theorem Ke {t:aJ}(h:nu t=0):Valid t:=by
 unfold nu at h;split at h
 ·cases h
 split at h
 ·cases h
 split at h
 ·rename_i ay;exact absurd h ay
 split at h
 ·cases h
 split at h
 ·cases h
 rename_i U ab ay bc bI;refine ⟨J,ab,fun i aa=> ?_,fun k an aM=> ?_,fun a aW b ak=> ?_⟩
 ·have:=WI t.length t 0 (hL.1 ay) i aa
  rwa [cR] at this
 ·rw [uz,uB] at bc;have:=bc k (by simpa using an);simp only [er,e8,not_and] at this;exact hL.1 (this aM)
 ·rw [uz,uB] at bI;have:=bI a aW;rw [sg] at this;cases av:vJ a b
  ·rfl
  ·exact absurd ⟨b,ak,av⟩ this
theorem yD {N i:Nat}{l:List Int}(h:y4 N i l=0):1≤l.length∧l.length≤6∧ ∀k∈l,(i:Int)<k∧k<N:=by
 unfold y4 at h;split at h
 ·cases h
 split at h
 ·cases h
 split at h
 ·cases h
 rename_i U ab ay;refine ⟨J,J,fun k an=> ?_⟩;rw [uz,uB] at ay;have:=ay k an;unfold AE at this;simp only [wb,e8,not_or] at this;omega
theorem Valid.child {t:aJ}(h:Valid t){i:Nat}(aa:i<t.length):((t.getD i aN).kind=0∧(t.getD i aN).next=[])∨(((t.getD i aN).kind=1∨(t.getD i aN).kind=2)∧y4 t.length i (t.getD i aN).next=0):=by
 have aG:=h.nodes i aa;unfold py at aG;split at aG
 ·rename_i aM;split at aG
  ·cases aG
  ·rename_i U;simp only [not_or] at U;exact .inl ⟨aM,hL.1 U.2.2.1⟩
 ·split at aG
  ·rename_i U;split at aG
   ·cases aG
   split at aG
   ·rename_i ab;exact absurd aG ab
   rename_i ab ay;exact .inr ⟨.inl U,hL.1 ay⟩
  ·split at aG
   ·rename_i ab;split at aG
    ·cases aG
    split at aG
    ·cases aG
    exact .inr ⟨.inr ab,aG⟩
   ·cases aG
theorem Valid.behind {t:aJ}(h:Valid t){i:Nat}(aa:i<t.length): ∀k∈(t.getD i aN).next,(i:Int)<k∧k<t.length:=by
 rcases h.child aa with ⟨_,ab⟩|⟨_,ab⟩
 ·rw [ab];intro k an;simp at an
 ·exact (yD ab).2.2
theorem Valid.xZ {t:aJ}(h:Valid t){i:Nat}(aa:i<t.length):(t.getD i aN).next.length≤6:=by
 rcases h.child aa with ⟨_,ab⟩|⟨_,ab⟩
 ·rw [ab];exact cj _
 ·exact (yD ab).2.1
theorem Valid.Iq {t:aJ}(h:Valid t){i:Nat}(aa:i<t.length){p:Int}(ai:own p (t.getD i aN)=true):0≤(t.getD i aN).info∧(t.getD i aN).info<10∧1≤(t.getD i aN).next.length:=by
 unfold own at ai;rw [er,e8,e8] at ai;have aG:=h.nodes i aa;unfold py at aG;rw [aw (by rw [ai.1];decide),aw (by rw [ai.1];decide),aB ai.1] at aG;split at aG
 ·cases aG
 split at aG
 ·cases aG
 rename_i U ab;simp only [not_or] at ab;have:=yD aG;exact ⟨J,J,this.1⟩
theorem Valid.width {t:aJ}(h:Valid t){i j:Nat}(aa:i<t.length)(ae:j<t.length){p:Int}(HC:own p (t.getD i aN)=true)(HE:own p (t.getD j aN)=true)(he:(t.getD i aN).info=(t.getD j aN).info):(t.getD i aN).next.length=(t.getD j aN).next.length:=by have av:=h.same _ (dv aN aa) _ (dv aN ae);unfold own at HC HE;rw [er,e8,e8] at HC HE;unfold vJ at av;rw [eG HC.1,eG HE.1,eG (by rw [HC.2,HE.2]),eG he,mU,mU,mU,mU,GS] at av;exact hL.1 av
def j8 (N:Nat)(l:List Int):List Int:=(List.range N).map (fun k:Nat=>(((l.filter (fun x=>decide (x=(k:Int)))).length:Nat):Int))
theorem AF (N:Nat)(l:List Int):(j8 N l).length=N:=by simp [j8]
theorem Pc {N:Nat}{l:List Int}{k:Nat}(an:k<N):(j8 N l).getD k 0=(((l.filter (fun x=>decide (x=(k:Int)))).length:Nat):Int):=by simp [j8,List.getD,an]
theorem abm (N:Nat):j8 N []=List.replicate N 0:=by apply kc (by simp [j8]);intro i U ab;simp [j8]
theorem aoH {N:Nat}(l:List Int){x:Int}(aM:0≤x)(U:x<N):j8 N (l++[x])=(j8 N l).set x.toNat ((j8 N l).getD x.toNat 0+1):=by
 rw [Pc J];apply kc (by simp [j8]);intro i i1 i2;rw [xT];have aa:i<N:=by simpa [j8] using i1
 simp only [j8,kH,zt,List.filter_append,di];by_cases h:x.toNat=i
 ·rw [aB h,h];have:x=(i:Int):=J;simp [this]
 ·rw [aw h];have: ¬x=(i:Int):=J;simp [this]
theorem abl (N:Nat)(l:List Int)(k:Nat):0≤(j8 N l).getD k 0∧(j8 N l).getD k 0≤l.length:=by
 by_cases an:k<N
 ·rw [Pc an];have:=tf (fun x=>decide (x=(k:Int))) l;omega
 ·have:(j8 N l).getD k 0=0:=by simp [j8,List.getD,an]
  rw [this];omega
theorem VK (t:aJ){k:Nat}(an:k<t.length):(j8 t.length (t.flatMap ev.next)).getD k 0=((named t k:Nat):Int):=Pc an
theorem apl {t:aJ}(aM:t.length≠0):((j8 t.length (t.flatMap ev.next)).drop 1).any (fun n=>decide (n≠1))=(List.range t.length).any (fun k=>decide (k≠0) && decide (named t k≠1)):=by
 rw [xH,sg,sg];constructor
 ·rintro ⟨x,al,h⟩;obtain ⟨i,aa,rfl⟩:=List.mem_iff_getElem.1 al;rw [v7,AF] at aa;refine ⟨1+i,by simp;omega,?_⟩;rw [List.getElem_drop] at h;have e:=VK t (k:=1+i) J;rw [eA 0 (by rw [AF];omega)] at e;rw [e] at h;simp only [er,e8] at h⊢;exact ⟨J,J⟩
 ·rintro ⟨k,an,h⟩;have an:k<t.length:=by simpa using an
  simp only [er,e8] at h;have e:=VK t an;refine ⟨_,List.mem_iff_getElem.2 ⟨k-1,by rw [v7,AF];omega,I⟩,?_⟩;rw [List.getElem_drop];rw [eA 0 (by rw [AF];omega)] at e;have aF:(j8 t.length (t.flatMap ev.next))[1+(k-1)]'(by rw [AF];omega)=((named t k:Nat):Int):=by rw [←e];congr 1;omega
  rw [aF,e8];omega
abbrev vT:=List (Int×Int×Nat)
def Kn (t:aJ):Prop:= ∀a∈t,∀b∈t,vJ a b=false
structure mS (t:aJ)(S:vT):Prop where
 free:Kn t
 from_: ∀e∈S,∃b∈t,b.kind=2∧b.gI=e.1∧b.info=e.2.1∧b.next.length=e.2.2
 all: ∀a∈t,a.kind=2→ ∃e∈S,e.1=a.gI∧e.2.1=a.info
theorem XI {a b:ev}:vJ a b=true↔a.kind=2∧b.kind=2∧a.gI=b.gI∧a.info=b.info∧a.next.length≠b.next.length:=by unfold vJ;simp only [er,e8]
theorem Pb {a b:ev}:vJ a b=false↔(a.kind=2→b.kind=2→a.gI=b.gI→a.info=b.info→a.next.length=b.next.length):=by
 rw [←uz,XI];constructor
 ·intro h U ab ay bc;exact hL.1 (fun bI=>h ⟨U,ab,ay,bc,bI⟩)
 ·rintro h ⟨U,ab,ay,bc,bI⟩;exact bI (h U ab ay bc)
theorem mS.nil:mS [] []:=⟨fun a aW=>by simp at aW,fun e he=>by simp at he,fun a aW=>by simp at aW⟩
theorem NN {t:aJ}{n:ev}(h:Kn t)(aG: ∀a∈t,n.kind=2→a.kind=2→a.gI=n.gI→a.info=n.info→a.next.length=n.next.length):Kn (t++[n]):=by
 intro a BA b tw;rw [Pb];intro et eS gG rE;rcases gM.1 BA with aW|aW<;>rcases gM.1 tw with ak|ak
 ·exact Pb.1 (h a aW b ak) et eS gG rE
 ·have e:=hk.1 ak;rw [e] at eS gG rE⊢;exact aG a aW eS et gG rE
 ·have e:=hk.1 aW;rw [e] at et gG rE⊢;exact (aG b ak et eS gG.symm rE.symm).symm
 ·rw [hk.1 aW,hk.1 ak]
theorem mS.skip {t:aJ}{S:vT}{n:ev}(h:mS t S)(an:n.kind≠2):mS (t++[n]) S:=
 ⟨NN h.free (fun a _ U=>absurd U an),fun e he=>by
  obtain ⟨b,ak,q⟩:=h.from_ e he;exact ⟨b,s9 _ ak,q⟩,fun a aW U=>by
  rcases gM.1 aW with aW|aW
  ·exact h.all a aW U
  ·rw [hk.1 aW] at U;exact absurd U an⟩
theorem mS.Ma {t:aJ}{S:vT}{n:ev}{e:Int×Int×Nat}(h:mS t S)(he:e∈S)(U:e.1=n.gI)(ab:e.2.1=n.info)(ay:e.2.2=n.next.length):mS (t++[n]) S:=
 ⟨NN h.free (fun a aW bQ bX dr en=>by
  obtain ⟨b,ak,c4,fv,mD,nh⟩:=h.from_ e he;have:=Pb.1 (h.free a aW b ak) bX c4 (by rw [dr,fv,U]) (by rw [en,mD,ab]);rw [this,nh,ay]),fun e he=>by
  obtain ⟨b,ak,q⟩:=h.from_ e he;exact ⟨b,s9 _ ak,q⟩,fun a aW bQ=>by
  rcases gM.1 aW with aW|aW
  ·exact h.all a aW bQ
  ·rw [hk.1 aW];exact ⟨e,he,U,ab⟩⟩
theorem mS.ahz {t:aJ}{S:vT}{n:ev}(h:mS t S)(an:n.kind=2)(hm: ∀e∈S,¬(e.1=n.gI∧e.2.1=n.info)):mS (t++[n]) (S++[(n.gI,n.info,n.next.length)]):=
 ⟨NN h.free (fun a aW bQ bX dr en=>by
  obtain ⟨e,he,c4,fv⟩:=h.all a aW bX;exact absurd ⟨by rw [c4,dr],by rw [fv,en]⟩ (hm e he)),fun e he=>by
  rcases gM.1 he with he|he
  ·obtain ⟨b,ak,q⟩:=h.from_ e he;exact ⟨b,s9 _ ak,q⟩
  ·rw [hk.1 he];exact ⟨n,b1,an,I,I,I⟩,fun a aW bQ=>by
  rcases gM.1 aW with aW|aW
  ·obtain ⟨e,he,q⟩:=h.all a aW bQ;exact ⟨e,s9 _ he,q⟩
  ·rw [hk.1 aW];exact ⟨_,List.mem_append_right _ (hk.2 rfl),rfl,rfl⟩⟩
theorem mS.bad {t T:aJ}{S:vT}{n:ev}{e:Int×Int×Nat}(h:mS t S)(b4: ∀a∈t,a∈T)(aG:n∈T)(an:n.kind=2)(he:e∈S)(U:e.1=n.gI)(ab:e.2.1=n.info)(ay:e.2.2≠n.next.length):T.any (fun a=>T.any (vJ a))=true:=by obtain ⟨b,ak,c4,fv,mD,nh⟩:=h.from_ e he;rw [sg];refine ⟨b,b4 b ak,?_⟩;rw [sg];exact ⟨n,aG,XI.2 ⟨c4,an,by rw [fv,U],by rw [mD,ab],by rw [nh];exact ay⟩⟩
theorem amu {t:aJ}(h:Kn t):t.any (fun a=>t.any (vJ a))=false:=by rw [uB];intro a aW U;obtain ⟨b,ak,ab⟩:=sg.1 U;rw [h a aW b ak] at ab;cases ab
theorem amw {N i:Nat}{t:aJ}(aa:i<t.length):uf N i (t.drop i)=if py N i (t.getD i aN)=0 then uf N (i+1) (t.drop (i+1)) else py N i (t.getD i aN):=by rw [GO aa,←eA aN aa,uf]
theorem Ob {N i:Nat}{n:ev}(h:py N i n=0):(∀k∈n.next,(i:Int)<k∧k<N)∧n.next.length≤6:=by
 unfold py at h;split at h
 ·split at h
  ·cases h
  ·rename_i U;simp only [not_or] at U;have:=hL.1 U.2.2.1;rw [this];exact ⟨fun k an=>by simp at an,cj _⟩
 ·split at h
  ·split at h
   ·cases h
   split at h
   ·rename_i ab;exact absurd h ab
   rename_i ab ay;obtain ⟨bQ,bX,dr⟩:=yD (hL.1 ay);exact ⟨dr,bX⟩
  ·split at h
   ·split at h
    ·cases h
    split at h
    ·cases h
    obtain ⟨bQ,bX,dr⟩:=yD h;exact ⟨dr,bX⟩
   ·cases h
def qe (t:aJ)(i:Nat):List Int:=(t.take i).flatMap ev.next
theorem anI {t:aJ}{i:Nat}(aa:i<t.length):qe t (i+1)=qe t i++(t.getD i aN).next:=by unfold qe;rw [n9 aa,List.flatMap_append,eA aN aa];simp
theorem Au {l:List Int}{j:Nat}(ae:j<l.length):l.take (j+1)=l.take j++[l.getD j 0]:=by rw [n9 ae,eA 0 ae]
theorem aoe {l:aJ}{j:Nat}(ae:j<l.length):l.take (j+1)=l.take j++[l.getD j aN]:=by rw [n9 ae,eA aN ae]
structure ff where
 info:Int
 choice:Int
 before:Int
 deriving DecidableEq
def c5:ff:=⟨-1,-1,-1⟩
structure n6 where
 cx:List ff
 pos:List Int
 first:List (Int×Nat)
def fY (m:List (Int×Nat))(k:Int):Option Nat:=(m.find? (fun x=>decide (x.1=k))).map Prod.snd
def nQ (n:ev)(b:Int):List ff:=(List.range n.next.length).map (fun k:Nat=>⟨n.info,(k:Int),b⟩)
def fW (p:Int)(n:ev)(i:Nat)(f:n6):n6:=
 if own p n=true∧fY f.first n.info=none then ⟨f.cx++nQ n (f.pos.getD i 0),f.pos,f.first++[(n.info,f.cx.length)]⟩ else f
def vw (v:Nat→Int):List Int→Nat→List Int→List Int
 |[],_,a=>a
 |c::r,k,a=>vw v r (k+1) (a.set c.toNat (v k))
def vK (p:Int)(n:ev)(i:Nat)(f:n6)(k:Nat):Int:=if own p n=true then (((fY f.first n.info).getD 0:Nat):Int)+(k:Int) else f.pos.getD i 0
def y9 (p:Int)(n:ev)(i:Nat)(f:n6):n6:=⟨(fW p n i f).cx,vw (vK p n i (fW p n i f)) n.next 0 (fW p n i f).pos,(fW p n i f).first⟩
def de (t:aJ)(p:Int):Nat→n6
 |0=>⟨[c5],List.replicate t.length 0,[]⟩
 |i+1=>y9 p (t.getD i aN) i (de t p i)
theorem Fv {m:List (Int×Nat)}{k:Int}(h:fY m k=none):k∉m.map Prod.fst:=by unfold fY at h;rw [Option.map_eq_none_iff,List.find?_eq_none] at h;intro an;obtain ⟨x,al,rfl⟩:=cS.1 an;exact h x al b1
theorem xa {m:List (Int×Nat)}{k:Int}{s:Nat}(h:fY m k=some s):(k,s)∈m:=by
 unfold fY at h;obtain ⟨x,al,rfl⟩:=GU.1 h;have U:=List.mem_of_find?_eq_some al;have ab:=List.find?_some al;have ay:x.1=k:=by simpa using ab
 rw [←ay];exact U
theorem Vr (v:Nat→Int): ∀(l:List Int) (k:Nat) (a:List Int),(vw v l k a).length=a.length
 |[],_,a=>rfl
 |c::r,k,a=>by rw [vw,Vr v r];simp
theorem Vs {v:Nat→Int}{P:Int→Prop}: ∀(l:List Int) (k:Nat) (a:List Int),(∀x∈a,P x)→(∀j,k≤j→j<k+l.length→P (v j))→ ∀x∈vw v l k a,P x
 |[],_,a,h,_=>h
 |c::r,k,a,h,af=>by
  rw [vw];refine Vs r (k+1) _ (fun x al=> ?_) (fun j U ab=>af j J (by simp;omega));rcases xL al with q|q
  ·exact h x q
  ·rw [q];exact af k (bN _) b1
theorem qY {t:aJ}(h:Valid t){p x:Int}{i:Nat}(aa:i<t.length)(az:fX p x (t.getD i aN)=true):ca t p x=(t.getD i aN).next.length:=by
 have hex: ∃y∈t,fX p x y=true:=⟨_,dv aN aa,az⟩
 have bG:Kl t p x<t.length:=List.findIdx_lt_length_of_exists hex;have ei:fX p x (t.getD (Kl t p x) aN)=true:=by rw [eA aN bG];exact List.findIdx_getElem
 unfold fX at az ei;rw [er,e8] at az ei;exact h.width bG aa ei.1 az.1 (by rw [ei.2,az.2])
structure hz (t:aJ)(p:Int)(i:Nat)(f:n6):Prop where
 j1:f.cx.getD 0 c5=c5∧0<f.cx.length
 pl:f.pos.length=t.length
 kO: ∀x∈f.pos,0≤x∧x<f.cx.length
 keys: ∀x,x∈f.first.map Prod.fst↔ ∃j,j<i∧fX p x (t.getD j aN)=true
 eY:(f.first.map Prod.fst).Nodup
 aC:f.cx.length=1+(f.first.map (fun x=>ca t p x.1)).sum
 fst: ∀x∈f.first,1≤x.2∧x.2+ca t p x.1≤f.cx.length∧ ∃b:Int,0≤b∧b<x.2∧ ∀k,k<ca t p x.1→f.cx.getD (x.2+k) c5=⟨x.1,k,b⟩
 all: ∀k,1≤k→k<f.cx.length→ ∃x∈f.first,x.2≤k∧k<x.2+ca t p x.1
theorem hz.init (t:aJ)(p:Int):hz t p 0 (de t p 0) where
 j1:=⟨rfl,fx⟩
 pl:=fc
 kO:=fun x al=>by obtain ⟨_,rfl⟩:=zm.1 al;exact ⟨aT,by show (0:Int)<((1:Nat):Int);decide⟩
 keys:=fun x=>⟨fun h=>by simp [de] at h,fun ⟨j,ae,_⟩=>absurd ae (gh _)⟩
 eY:=List.nodup_nil
 aC:=rfl
 fst:=fun x al=>by simp [de] at al
 all:=fun k U ab=>by have:(de t p 0).cx.length=1:=rfl;omega
theorem hz.add {t:aJ}(af:Valid t){p:Int}{i:Nat}{f:n6}(h:hz t p i f)(aa:i<t.length):
 hz t p i f→(f.cx.getD 0 c5=c5)→let n:=t.getD i aN;let g:=fW p n i f
 g.cx.getD 0 c5=c5∧0<g.cx.length∧g.pos=f.pos∧f.cx.length≤g.cx.length∧(∀x,x∈g.first.map Prod.fst↔ ∃j,j<i+1∧fX p x (t.getD j aN)=true)∧(g.first.map Prod.fst).Nodup∧
 g.cx.length=1+(g.first.map (fun x=>ca t p x.1)).sum∧
 (∀x∈g.first,1≤x.2∧x.2+ca t p x.1≤g.cx.length∧ ∃b:Int,0≤b∧b<x.2∧ ∀k,k<ca t p x.1→g.cx.getD (x.2+k) c5=⟨x.1,k,b⟩)∧
 (∀k,1≤k→k<g.cx.length→ ∃x∈g.first,x.2≤k∧k<x.2+ca t p x.1)∧(own p n=true→ ∃s,fY g.first n.info=some s):=by
 intro _ _;obtain ⟨aM,Lt⟩:=h.j1;intro n g;have EB: ∀x,(∃j,j<i+1∧fX p x (t.getD j aN)=true)↔((∃j,j<i∧fX p x (t.getD j aN)=true)∨fX p x n=true):=by
  intro x;constructor
  ·rintro ⟨j,U,ab⟩;by_cases e:j=i
   ·subst e;exact .inr ab
   ·exact .inl ⟨j,J,ab⟩
  ·rintro (⟨j,U,ab⟩|ab)
   ·exact ⟨j,J,ab⟩
   ·exact ⟨i,J,ab⟩
 by_cases av:own p n=true∧fY f.first n.info=none
 ·have xX:g=⟨f.cx++nQ n (f.pos.getD i 0),f.pos,f.first++[(n.info,f.cx.length)]⟩:=by show fW p n i f=_;unfold fW;rw [aB av]
  have ei:fX p n.info n=true:=by unfold fX;rw [av.1];simp
  have hw:ca t p n.info=n.next.length:=qY af aa ei
  have j0:(nQ n (f.pos.getD i 0)).length=n.next.length:=by simp [nQ]
  have e2:=Fv av.2;have ak:=h.kO (f.pos.getD i 0) (dv 0 (by rw [h.pl];exact aa));rw [xX];refine ⟨by rw [uc _ Lt];exact aM,by rw [di];omega,I,by rw [di];omega,fun x=> ?_,?_,?_,fun x al=> ?_,fun k U ab=> ?_,fun _=> ?_⟩
  ·rw [EB,hb,gM,h.keys x];constructor
   ·rintro (q|q)
    ·exact .inl q
    ·right;have:x=n.info:=by simpa using q
     rw [this];exact ei
   ·rintro (q|q)
    ·exact .inl q
    ·right;unfold fX at q;rw [er,e8] at q;simp [q.2]
  ·rw [hb,List.nodup_append];refine ⟨h.eY,b1,fun a aW b ak e=> ?_⟩;have:b=n.info:=by simpa using ak
   rw [←this,←e] at e2;exact e2 aW
  ·rw [di,j0,hb,List.sum_append,h.aC];simp [hw];omega
  ·rcases gM.1 al with q|q
   ·obtain ⟨gy,a2,b,dS,eP,nD⟩:=h.fst x q;refine ⟨gy,by rw [di];omega,b,dS,eP,fun k an=> ?_⟩;rw [uc _ J];exact nD k an
   ·have B4:x=(n.info,f.cx.length):=by simpa using q
    subst B4;refine ⟨Lt,by rw [di,j0];show _+ca t p n.info≤_;omega,f.pos.getD i 0,ak.1,ak.2,fun k an=> ?_⟩;have an:k<n.next.length:=by have:k<ca t p n.info:=an;omega
    show (f.cx++nQ n (f.pos.getD i 0)).getD (f.cx.length+k) c5=_;have e:(f.cx++nQ n (f.pos.getD i 0)).getD (f.cx.length+k) c5=(nQ n (f.pos.getD i 0)).getD k c5:=by simp only [List.getD];rw [jV J,xF]
    rw [e];unfold nQ;rw [nk _ _ 0 _ _ (by simpa using an)];simp [List.getD,an]
  ·rw [di,j0] at ab;by_cases an:k<f.cx.length
   ·obtain ⟨x,jJ,kq,qQ⟩:=h.all k U an;exact ⟨x,s9 _ jJ,kq,qQ⟩
   ·refine ⟨(n.info,f.cx.length),b1,by show f.cx.length≤k;omega,by show k<f.cx.length+ca t p n.info;omega⟩
  ·refine ⟨f.cx.length,?_⟩;unfold fY at av⊢;rw [Option.map_eq_none_iff] at av;rw [List.find?_append,av.2];simp
 ·have xX:g=f:=by show fW p n i f=_;unfold fW;rw [aw av]
  rw [xX];have hold:own p n=true→ ∃s,fY f.first n.info=some s:=by
   intro ai;cases e:fY f.first n.info with
   |none=>exact absurd ⟨ai,e⟩ av
   |some s=>exact ⟨s,rfl⟩
  refine ⟨aM,Lt,I,bN _,fun x=> ?_,h.eY,h.aC,h.fst,h.all,hold⟩;rw [EB,h.keys x];constructor
  ·exact .inl
  ·rintro (q|q)
   ·exact q
   ·unfold fX at q;rw [er,e8] at q;obtain ⟨s,az⟩:=hold q.1;refine (h.keys x).1 ?_;rw [←q.2];exact cS.2 ⟨_,xa az,I⟩
theorem hz.step {t:aJ}(af:Valid t){p:Int}{i:Nat}{f:n6}(h:hz t p i f)(aa:i<t.length):hz t p (i+1) (y9 p (t.getD i aN) i f):=by
 obtain ⟨gy,a2,a3,a4,a5,Z4,Z5,GM,a9,La⟩:=hz.add af h aa h h.j1.1;generalize aG:t.getD i aN=n at*;generalize c9:fW p n i f=g at*;have Lq:y9 p n i f=⟨g.cx,vw (vK p n i g) n.next 0 g.pos,g.first⟩:=by unfold y9;rw [c9]
 rw [Lq];refine ⟨⟨gy,a2⟩,by rw [Vr,a3];exact h.pl,Vs _ _ _ (fun x al=> ?_) (fun j U ab=> ?_),a5,Z4,Z5,GM,a9⟩
 ·rw [a3] at al;have:=h.kO x al;show 0≤x∧x<((g.cx.length:Nat):Int);omega
 ·show 0≤vK p n i g j∧vK p n i g j<((g.cx.length:Nat):Int);unfold vK;split
  ·rename_i ai;obtain ⟨s,az⟩:=La ai;obtain ⟨dS,eP,_⟩:=GM _ (xa az);have hw:ca t p n.info=n.next.length:=by rw [←aG];refine qY af aa ?_;unfold fX;rw [aG,ai];simp
   rw [az];simp only [pR] at*;omega
  ·rw [a3];have:=h.kO (f.pos.getD i 0) (dv 0 (by rw [h.pl];exact aa));omega
theorem hz.lY {t:aJ}(af:Valid t)(p:Int): ∀i,i≤t.length→hz t p i (de t p i)
 |0,_=>hz.init t p
 |i+1,aa=>(hz.lY af p i J).step af J
def bW (t:aJ)(p:Int):List ff:=(de t p t.length).cx
theorem me {t:aJ}(af:Valid t){p x:Int}:x∈b9 t p↔ ∃j,j<t.length∧fX p x (t.getD j aN)=true:=by
 unfold b9;rw [vY,sg];constructor
 ·rintro ⟨_,y,a1,ab⟩;obtain ⟨j,ae,rfl⟩:=kE a1;exact ⟨j,ae,by rw [eA aN ae];exact ab⟩
 ·rintro ⟨j,ae,ab⟩;refine ⟨?_,t.getD j aN,dv aN ae,ab⟩;unfold fX at ab;rw [er,e8] at ab;have hm:=af.Iq ae ab.1;rw [ab.2] at hm;refine cS.2 ⟨x.toNat,xI.2 J,J⟩
theorem Cy (t:aJ)(p:Int):(b9 t p).Nodup:=by unfold b9;refine List.Nodup.sublist List.filter_sublist ?_;rw [DT,List.pairwise_map];exact (DT.1 List.nodup_range).imp (fun h=>by omega)
theorem sF {t:aJ}(af:Valid t)(p:Int):
 (bW t p).length=1+((b9 t p).map (ca t p)).sum∧(bW t p).getD 0 c5=c5∧0<(bW t p).length∧
 ∀k,k+1<(bW t p).length→((bW t p).getD (k+1) c5).info∈b9 t p∧0≤((bW t p).getD (k+1) c5).before∧((bW t p).getD (k+1) c5).before≤k∧
  (0<((bW t p).getD (k+1) c5).choice→(bW t p).getD k c5=⟨((bW t p).getD (k+1) c5).info,((bW t p).getD (k+1) c5).choice-1,((bW t p).getD (k+1) c5).before⟩):=by
 have h:=hz.lY af p t.length (bN _);have HT:((de t p t.length).first.map Prod.fst).Perm (b9 t p):=
  (List.perm_ext_iff_of_nodup h.eY (Cy t p)).2 (fun x=>by rw [h.keys x,me af])
 refine ⟨?_,h.j1.1,h.j1.2,fun k an=> ?_⟩
 ·show (de t p t.length).cx.length=_;rw [h.aC,←(HT.map (ca t p)).sum_nat,tg];rfl
 ·obtain ⟨x,jJ,kq,qQ⟩:=h.all (k+1) J an;obtain ⟨iU,jh,b,dS,eP,nD⟩:=h.fst x jJ;have aE:=nD (k+1-x.2) J;rw [show x.2+(k+1-x.2)=k+1 by omega] at aE;have abR:(bW t p).getD (k+1) c5=⟨x.1,((k+1-x.2:Nat):Int),b⟩:=aE;rw [abR];refine ⟨HT.mem_iff.1 (cS.2 ⟨x,jJ,I⟩),dS,by show b≤(k:Int);omega,fun av=> ?_⟩;have av:(0:Int)<((k+1-x.2:Nat):Int):=av;have aF:=nD (k-x.2) J;rw [show x.2+(k-x.2)=k by omega] at aF;have abS:(bW t p).getD k c5=⟨x.1,((k-x.2:Nat):Int),b⟩:=aF;rw [abS];show (⟨x.1,_,b⟩:ff)=⟨x.1,((k+1-x.2:Nat):Int)-1,b⟩
  congr 1;omega
def ec:Rat→List Rat→Rat
 |acc,[]=>acc
 |acc,q::r=>ec (acc+q) r
theorem OW: ∀(dp:List Rat) (acc:Rat),(mn acc dp).2=0→(mn acc dp).1=ec acc dp
 |[],acc,_=>rfl
 |q::r,acc,h=>by
  rw [mn] at h⊢;rw [ec];split at h
  ·rename_i aR;rw [aB aR];exact OW r _ h
  ·cases h
theorem Yv: ∀(dp:List Rat) (acc:Rat) (j k:Nat),D j acc→(∀q∈dp,D k q)→j+(k+1)*dp.length≤2000→(mn acc dp).2=0∧D (j+(k+1)*dp.length) (mn acc dp).1
 |[],acc,j,k,h,_,ak=>⟨rfl,h⟩
 |q::r,acc,j,k,h,aA,ak=>by rw [gu,gS] at ak⊢;rw [mn];have U:=h.add (aA q b1);rw [aB (U.fit J)];have:=Yv r (acc+q) (j+k+1) k U (fun x al=>aA x (by simp [al])) J;exact ⟨this.1,this.2.mono J⟩
theorem ZH: ∀(dp:List Rat) (acc:Rat),(∀q∈dp,0≤q)→acc≤ec acc dp
 |[],acc,_=>td
 |q::r,acc,h=>by
  rw [ec];refine qv ?_ (ZH r _ (fun x al=>h x (by simp [al])));have:=(zu (c:=acc)).2 (h q b1)
  rwa [jX] at this
theorem ahY {dp:List Rat}{k:Nat}(aG:dp.length≤256)(hd: ∀q∈dp,D k q)(ak:1+(k+1)*dp.length≤2000)(an:k≤2000)(aM: ∀q∈dp,0≤q)(U:ec 0 dp=1):iI (dp.map cq)=0:=by
 have aR: ∀q∈dp,eB q=true:=fun q aA=>(hd q aA).fit an;have v1:(dp.map cq).map dk=dp:=by
  rw [tg]
  conv=>rhs;rw [←zv dp]
  exact k8 (fun q aA=>(ue (aR q aA)).2)
 have v2:lu (dp.map cq)=0:=Kg (fun s az=>by
  obtain ⟨q,aA,rfl⟩:=cS.1 az;exact (ue (aR q aA)).1)
 have az:=Yv dp 0 1 k ⟨aT,aT⟩ hd ak;have v3:nv (dp.map cq)=(1,0):=by unfold nv;rw [aw (by rw [cW];omega),aB v2,v1];have:=OW dp 0 az.1;rw [U] at this;exact Prod.ext this az.1
 have v4:(dp.map cq).any iL=false:=by rw [uB];intro s hf;obtain ⟨q,aA,rfl⟩:=cS.1 hf;have e:=ue (aR q aA);have:=(JC e.1).2 (by rw [e.2];exact aM q aA);simp [this]
 unfold iI wX;rw [v3,v4];rfl
abbrev iY:=List (Int×Int)
def RF (m:List (List dP)):Int:=if 12<m.length then 2 else if Ca m≠0 then Ca m else if sa m=0 then 8 else if 12<sa m then 2 else 0
def outside (m:List (List dP))(x:Int×Int):Bool:=decide (x.1<0)||(decide ((m.length:Int)≤x.1)||(decide (x.2<0)||decide ((sa m:Int)≤x.2)))
def HD (m:List (List dP))(l:iY):Int:=if RF m≠0 then RF m else if 200<l.length then 2 else if l.any (outside m)=true then 4 else 0
def Rh (f:Int×Int→Int)(l:iY)(i:Nat):Nat:=(l.filter (fun x=>decide (f x=(i:Int)))).length
def Ri (f:Int×Int→Int)(l:iY)(n:Nat):List Rat:=(List.range n).map (fun i=>((Rh f l i:Nat):Rat))
def Nl (m:List (List Rat))(l:iY)(w:Nat):List Rat:=m.map (fun r=>h9 r (Ri Prod.snd l w))
def Li (m:List (List Rat))(l:iY)(w:Nat):List Rat:=(Rj m w).map (fun c=>h9 c (Ri Prod.fst l m.length))
def acd (m:List (List Rat))(x:Int×Int):Rat:=(m.getD x.1.toNat []).getD x.2.toNat 0
def RJ (m:List (List Rat))(l:iY):Rat:=ec 0 (l.map (acd m))
def ajs (m:List (List Rat))(l:iY)(w:Nat):List Rat:=(Nl m l w).map (fun q=>q-RJ m l)
def ajt (m:List (List Rat))(l:iY)(w:Nat):List Rat:=(Li m l w).map (fun q=>RJ m l-q)
def aaO (a b:List Rat):(List dP×List dP)×Int:=if (xn a).2≠0 then (([],[]),2) else if (xn b).2≠0 then (([],[]),2) else ((a.map cq,b.map cq),0)
def aju (m:List (List dP))(l:iY):(List dP×List dP)×Int:=if HD m l≠0 then (([],[]),HD m l) else aaO (ajs (rB m) l (sa m)) (ajt (rB m) l (sa m))
def G1 (ow:Int)(x:List Rat):Nat→Nat
 |0=>0
 |k+1=>if 0<um (x.getD k 0) (x.getD (G1 ow x k) 0)*ow then k else G1 ow x k
def Tr (m:List (List Rat))(l:iY)(w:Nat):Rat:=(Li m l w).getD (G1 (-1) (Li m l w) w) 0
def Sv (m:List (List Rat))(l:iY)(w:Nat):Rat:=(Nl m l w).getD (G1 1 (Nl m l w) m.length) 0
def aaP (m:List (List dP))(l:iY):(dP×dP)×Int:=
 if HD m l≠0 then (([],[]),HD m l) else if l=[] then (([],[]),8)
 else if eB (Tr (rB m) l (sa m)/(l.length:Nat)) && eB (Sv (rB m) l (sa m)/(l.length:Nat)) then ((cq (Tr (rB m) l (sa m)/(l.length:Nat)),cq (Sv (rB m) l (sa m)/(l.length:Nat))),0) else (([],[]),2)
structure Zero (m:List (List dP))(l:iY)(a b:List dP)(js aa:dP):Prop where
 arz:aju m l=((a,b),0)
 wj:aaP m l=((js,aa),0)
 aqi: ∀s∈a,hI s=0
 zH: ∀s∈b,hI s=0
 Tm:a.length=m.length
 Tq:b.length=sa m
 Bq: ∃i k s q,jT a=(((i:Nat):Int),0)∧jT b=(((k:Nat):Int),0)∧i<a.length∧k<b.length∧Us (fun x y=>x+y) (a.getD i []) (b.getD k [])=(s,0)∧abJ s (cq ((l.length:Nat):Rat))=(q,0)∧Us (fun x y=>x-y) aa js=(q,0)
theorem OV (q:Rat): ∀(l:List Rat) (acc:Rat),ec acc (l++[q])=ec acc l+q
 |[],acc=>rfl
 |a::r,acc=>by rw [oT,ec,ec,OV q r]
theorem JK: ∀(m:Nat) (l:List Rat),m≤l.length→b2 (fun c=>l.getD c 0) m=ec 0 (l.take m)
 |0,l,_=>rfl
 |m+1,l,h=>by rw [b2,JK m l J,n9 J,OV,eA 0 J]
def xh (o:Int→List Rat)(s:ff)(P:List Rat):Rat:=if s.before<0 then 1 else P.getD s.before.toNat 0*(o s.info).getD s.choice.toNat 0
def qh (l:List ff)(o:Int→List Rat):Nat→List Rat
 |0=>[]
 |k+1=>qh l o k++[xh o (l.getD k c5) (qh l o k)]
theorem OR (l:List ff)(o:Int→List Rat): ∀k,(qh l o k).length=k
 |0=>rfl
 |k+1=>by rw [qh,di,OR l o k];rfl
theorem yP (l:List ff)(o:Int→List Rat){j:Nat}: ∀{k:Nat},j<k→(qh l o k).getD j 0=xh o (l.getD j c5) (qh l o j)
 |0,h=>absurd h (gh _)
 |k+1,h=>by
  rw [qh];by_cases e:j=k
  ·subst e;have:(qh l o j++[xh o (l.getD j c5) (qh l o j)]).getD j 0=xh o (l.getD j c5) (qh l o j):=by
    have ab:=P7 (l:=qh l o j) (x:=xh o (l.getD j c5) (qh l o j)) (d:=0)
    rwa [OR] at ab
   exact this
  ·rw [uc 0 (by rw [OR];omega)];exact yP l o J
theorem Jl (l:List ff)(o:Int→List Rat){j k n:Nat}(U:j<k)(ab:j<n):(qh l o k).getD j 0=(qh l o n).getD j 0:=by rw [yP l o U,yP l o ab]
theorem F9 {m:List (Int×Nat)}(h:(m.map Prod.fst).Nodup){x y:Int×Nat}(al:x∈m)(a1:y∈m)(e:x.1=y.1):x=y:=by
 obtain ⟨i,aa,rfl⟩:=kE al;obtain ⟨j,ae,rfl⟩:=kE a1;have aD:=xJ.1 h;rcases DO i j with q|q|q
 ·exact absurd (by rw [kH,kH];exact e) (aD i j (by simpa using aa) (by simpa using ae) q)
 ·subst q;rfl
 ·exact absurd (by rw [kH,kH];exact e.symm) (aD j i (by simpa using ae) (by simpa using aa) q)
theorem C7 {t:aJ}(af:Valid t)(p:Int):(bW t p).length≤61:=by
 have h:=(sF af p).1;rw [h];have U:(b9 t p).length≤10:=by unfold b9;refine dU (tf _ _) b1
 have ab: ∀x∈b9 t p,ca t p x≤6:=by intro x al;obtain ⟨j,ae,az⟩:=(me af).1 al;rw [qY af ae az];exact af.xZ ae
 have key: ∀l:List Int,(∀x∈l,ca t p x≤6)→(l.map (ca t p)).sum≤6*l.length:=by
  intro l;induction l with
  |nil=>intro _;exact bN _
  |cons a r a6=>
   intro au;have ay:=au a b1;have bc:=a6 (fun x al=>au x (by simp [al]));simp only [k9,List.sum_cons,gu];omega
 have:=key _ ab;omega
structure mT (t:aJ)(p:Int)(o:Int→List Rat)(k:Nat):Prop where
 len: ∀x∈b9 t p,(o x).length=ca t p x
 sum: ∀x∈b9 t p,ec 0 (o x)=1
 mC: ∀x∈b9 t p,∀q∈o x,0≤q
 nF: ∀x∈b9 t p,∀q∈o x,D k q
def gv (t:aJ)(p:Int)(o:Int→List Rat):List Rat:=qh (bW t p) o (bW t p).length
theorem Dk {t:aJ}(af:Valid t){p:Int}{k:Nat}(U:1≤k)(an:k<(bW t p).length): ∃(x:Int×Nat) (b:Nat),x∈(de t p t.length).first∧x.1∈b9 t p∧x.2≤k∧k<x.2+ca t p x.1∧b<x.2∧1≤x.2∧x.2+ca t p x.1≤(bW t p).length∧
 ∀c,c<ca t p x.1→(bW t p).getD (x.2+c) c5=⟨x.1,(c:Int),(b:Int)⟩:=by have h:=hz.lY af p t.length (bN _);obtain ⟨x,jJ,kq,qQ⟩:=h.all k U an;obtain ⟨iU,jh,b,dS,eP,nD⟩:=h.fst x jJ;obtain ⟨n,rfl⟩:=oW dS;exact ⟨x,n,jJ,(me af).2 ((h.keys x.1).1 (cS.2 ⟨x,jJ,I⟩)),kq,qQ,J,iU,jh,nD⟩
abbrev Way:=List (Int×Int)
def Di (v:Nat→Way):List Int→Nat→List Way→List Way
 |[],_,a=>a
 |c::r,k,a=>Di v r (k+1) (a.set c.toNat (v k))
theorem Vt (v:Nat→Way): ∀(l:List Int) (k:Nat) (a:List Way),(Di v l k a).length=a.length
 |[],_,a=>rfl
 |c::r,k,a=>by rw [Di,Vt v r];simp
def r9 (p:Int)(n:ev)(w:Way)(k:Nat):Way:=if own p n=true then w++[(n.info,(k:Int))] else w
def hH (t:aJ)(p:Int):Nat→List Way
 |0=>List.replicate t.length []
 |i+1=>Di (r9 p (t.getD i aN) ((hH t p i).getD i [])) (t.getD i aN).next 0 (hH t p i)
theorem FI (t:aJ)(p:Int): ∀i,(hH t p i).length=t.length
 |0=>fc
 |i+1=>by rw [hH,Vt,FI t p i]
def kR (t:aJ)(p:Int):Nat→List (Int×Nat)
 |0=>[]
 |i+1=>if own p (t.getD i aN)=true∧fY (kR t p i) (t.getD i aN).info=none then kR t p i++[((t.getD i aN).info,i)] else kR t p i
def sU (t:aJ)(p:Int)(W:List Way):Nat→Bool
 |0=>true
 |i+1=>sU t p W i && (if own p (t.getD i aN)=true then (match fY (kR t p i) (t.getD i aN).info with|none=>true|some k=>decide (W.getD i []=W.getD k [])) else true)
def fC (t:aJ)(p:Int):Bool:=sU t p (hH t p t.length) t.length
theorem NX {t:aJ}{p:Int}: ∀{i:Nat} {x:Int×Nat},x∈kR t p i→x.2<i∧own p (t.getD x.2 aN)=true∧(t.getD x.2 aN).info=x.1
 |0,x,h=>by simp [kR] at h
 |i+1,x,h=>by
  rw [kR] at h;split at h
  ·rename_i av;rcases gM.1 h with q|q
   ·obtain ⟨U,ab⟩:=NX q;exact ⟨J,ab⟩
   ·have:x=((t.getD i aN).info,i):=by simpa using q
    subst this;exact ⟨gC _,av.1,I⟩
  ·obtain ⟨U,ab⟩:=NX h;exact ⟨J,ab⟩
abbrev dd:=Nat→Option (List Rat)
def ys (v:Nat→Rat):List Int→Nat→List Rat→List Rat
 |[],_,a=>a
 |c::r,k,a=>ys v r (k+1) (a.set c.toNat (v k))
theorem Yo (v:Nat→Rat): ∀(l:List Int) (k:Nat) (a:List Rat),(ys v l k a).length=a.length
 |[],_,a=>rfl
 |c::r,k,a=>by rw [ys,Yo v r];simp
def KK (o:Option (List Rat))(q:Rat)(k:Nat):Rat:=match o with|none=>q|some l=>q*l.getD k 0
def mM (t:aJ)(o:dd):Nat→List Rat
 |0=>(List.replicate t.length 0).set 0 1
 |i+1=>ys (KK (o i) ((mM t o i).getD i 0)) (t.getD i aN).next 0 (mM t o i)
def cA (t:aJ)(o:dd):List Rat:=mM t o t.length
theorem Az (t:aJ)(o:dd): ∀i,(mM t o i).length=t.length
 |0=>by simp [mM]
 |i+1=>by rw [mM,Yo,Az t o i]
theorem Jn (v:Nat→Rat){j:Nat}: ∀(l:List Int) (k:Nat) (a:List Rat),(∀c∈l,c.toNat≠j)→(ys v l k a).getD j 0=a.getD j 0
 |[],_,a,_=>rfl
 |c::r,k,a,h=>by rw [ys,Jn v r (k+1) _ (fun c av=>h c (by simp [av])),Go.aj.dR.fQ,aw];exact fun q=>h c b1 q.1.symm
theorem Zx (v:Nat→Rat): ∀(l:List Int) (k:Nat) (a:List Rat) (m:Nat),m<l.length→(l.map Int.toNat).Nodup→(∀c∈l,c.toNat<a.length)→(ys v l k a).getD (l.getD m 0).toNat 0=v (k+m)
 |[],_,a,m,h,_,_=>absurd h (gh _)
 |c::r,k,a,m,h,aG,au=>by
  rw [k9,xU] at aG;rw [ys];cases m with
  |zero=>
   have:(c::r).getD 0 0=c:=rfl;rw [this,Jn,Go.aj.dR.fQ,aB ⟨rfl,au c b1⟩,fg];intro x al e;exact aG.1 (cS.2 ⟨x,al,e⟩)
  |succ m=>
   have:(c::r).getD (m+1) 0=r.getD m 0:=rfl;rw [this,Zx v r (k+1) _ m (by simpa using h) aG.2 (fun x al=>by rw [da];exact au x (by simp [al]))];congr 1;omega
def kN (t:aJ)(i:Nat)(c:Nat):Prop:=(c:Int)∈(t.getD i aN).next
theorem VA (l:List Int)(k:Int):(l.filter (fun x=>decide (x=k))).length=l.count k:=by rw [List.count_eq_length_filter];congr 1
theorem WG (t:aJ)(k:Nat):named t k=(t.map (fun n=>n.next.count (k:Int))).sum:=by
 unfold named;rw [VA];induction t with
 |nil=>rfl
 |cons n r a6=>rw [List.flatMap_cons,List.count_append,k9,List.sum_cons,a6]
theorem akH {l:List Nat}(h:l.sum=1){i j:Nat}(aa:i<l.length)(ae:j<l.length)(wG:i≠j)(U:1≤l[i])(ab:1≤l[j]):False:=by
 induction l generalizing i j with
 |nil=>simp at aa
 |cons a r a6=>
  have E2: ∀(r:List Nat) (k:Nat) (an:k<r.length),r[k]≤r.sum:=by
   intro r;induction r with
   |nil=>intro k an;simp at an
   |cons b q MW=>
    intro k an;cases k with
    |zero=>simp
    |succ k=>
     have:=MW k (by simpa using an);simp only [DU,List.sum_cons];omega
  rw [List.sum_cons] at h;cases i with
  |zero=>
   cases j with
   |zero=>exact wG rfl
   |succ j=>
    have:=E2 r j (by simpa using ae);simp only [List.getElem_cons_zero,DU] at U ab;omega
  |succ i=>
   cases j with
   |zero=>
    have:=E2 r i (by simpa using aa);simp only [List.getElem_cons_zero,DU] at U ab;omega
   |succ j=>
    simp only [DU] at U ab;have:=E2 r i (by simpa using aa);refine a6 J (by simpa using aa) (by simpa using ae) J U ab
theorem Valid.parent {t:aJ}(h:Valid t){c i j:Nat}(av:c<t.length)(aM:c≠0)(aa:i<t.length)(ae:j<t.length)(et:kN t i c)(eS:kN t j c):i=j:=by
 have aG:=h.once c av aM;rw [WG] at aG;apply we;intro wG;refine akH aG (i:=i) (j:=j) (by simpa using aa) (by simpa using ae) wG ?_ ?_
 ·rw [kH,←eA aN aa];exact List.count_pos_iff.2 et
 ·rw [kH,←eA aN ae];exact List.count_pos_iff.2 eS
theorem Valid.has {t:aJ}(h:Valid t){c:Nat}(av:c<t.length)(aM:c≠0): ∃i,i<t.length∧kN t i c:=by
 have aG:=h.once c av aM;unfold named at aG;have ch:(t.flatMap ev.next).filter (fun x=>decide (x=(c:Int)))≠[]:=by intro e;rw [e] at aG;cases aG
 obtain ⟨x,al⟩:=List.exists_mem_of_ne_nil _ ch;obtain ⟨U,ab⟩:=vY.1 al;obtain ⟨n,BT,Mq⟩:=List.mem_flatMap.1 U;obtain ⟨i,aa,rfl⟩:=kE BT;refine ⟨i,aa,?_⟩;unfold kN;rw [eA aN aa];have:x=(c:Int):=by simpa using ab
 rw [←this];exact Mq
theorem Valid.uY {t:aJ}(h:Valid t){c i:Nat}(aa:i<t.length)(k:kN t i c):i<c∧c<t.length:=by have:=h.behind aa _ k;omega
theorem Valid.Ik {t:aJ}(h:Valid t){i:Nat}(aa:i<t.length):((t.getD i aN).next.map Int.toNat).Nodup:=by
 rw [DT,List.pairwise_map,xJ];intro a b aW ak mX e;have tG:=List.getElem_mem aW;have tH:=List.getElem_mem ak;have dS:=h.behind aa _ tG;have eP:=h.behind aa _ tH;have aF:(t.getD i aN).next[a]=(t.getD i aN).next[b]:=J
 obtain ⟨c,av⟩:=oW (show 0≤(t.getD i aN).next[a] by omega);have aG:=h.once c J J;rw [WG] at aG;have ab:2≤(t.getD i aN).next.count (c:Int):=by
  have az:[(c:Int),(c:Int)].Sublist (t.getD i aN).next:=by
   have ay:(t.getD i aN).next=(t.getD i aN).next.take b++(t.getD i aN).next.drop b:=(s7 b _).symm
   rw [ay];have bc:(c:Int)∈(t.getD i aN).next.take b:=by rw [List.mem_take_iff_getElem];exact ⟨a,J,av⟩
   have bI:(c:Int)∈(t.getD i aN).next.drop b:=by rw [List.mem_drop_iff_getElem];exact ⟨0,by simpa using ak,by simp only [fg];rw [←aF];exact av⟩
   have:=List.Sublist.append (List.singleton_sublist.2 bc) (List.singleton_sublist.2 bI);simpa using this
  have:=az.count_le (c:Int);simpa using this
 have db:(t.map (fun n=>n.next.count (c:Int)))[i]'(by simpa using aa)≤(t.map (fun n=>n.next.count (c:Int))).sum:=by
  have E2: ∀(r:List Nat) (k:Nat) (an:k<r.length),r[k]≤r.sum:=by
   intro r;induction r with
   |nil=>intro k an;simp at an
   |cons b q MW=>
    intro k an;cases k with
    |zero=>simp
    |succ k=>
     have:=MW k (by simpa using an);simp only [DU,List.sum_cons];omega
  exact E2 _ _ _
 rw [kH,←eA aN aa] at db;omega
theorem Oj {t:aJ}(h:Valid t)(o:dd){j:Nat}(ae:j<t.length): ∀d i,j≤i→i+d≤t.length→(mM t o (i+d)).getD j 0=(mM t o i).getD j 0
 |0,i,_,_=>rfl
 |d+1,i,U,ab=>by rw [←jU,mM,Jn,Oj h o ae d i U J];intro c av e;have:=h.behind (show i+d<t.length by omega) c av;omega
theorem CH {t:aJ}(h:Valid t)(o:dd):(cA t o).getD 0 0=1:=by have aG:=h.ne;have:=Oj h o (j:=0) J t.length 0 (bN _) J;rw [cR] at this;unfold cA;rw [this,mM,Go.aj.dR.fQ,aB ⟨rfl,by simp;omega⟩]
theorem CT {t:aJ}(h:Valid t)(o:dd){i m:Nat}(aa:i<t.length)(hm:m<(t.getD i aN).next.length):(cA t o).getD ((t.getD i aN).next.getD m 0).toNat 0=KK (o i) ((cA t o).getD i 0) m:=by
 have ak:=h.behind aa _ (dv 0 hm);have av:((t.getD i aN).next.getD m 0).toNat<t.length:=J;have U:(mM t o (i+1)).getD ((t.getD i aN).next.getD m 0).toNat 0=KK (o i) ((mM t o i).getD i 0) m:=by rw [mM,Zx _ _ _ _ m hm (h.Ik aa) (fun c av=>by rw [Az];have:=h.behind aa c av;omega),cR]
 have ab:=Oj h o (j:=i) aa (t.length-i) i (bN _) J;rw [show i+(t.length-i)=t.length by omega] at ab
 --the child is not touched again
 have key: ∀d,i+1+d≤t.length→(mM t o (i+1+d)).getD ((t.getD i aN).next.getD m 0).toNat 0=(mM t o (i+1)).getD ((t.getD i aN).next.getD m 0).toNat 0:=by
  intro d;induction d with
  |zero=>intro _;rfl
  |succ d a6=>
   intro hd;rw [←jU,mM,Jn,a6 J];intro c qE e;have aes:=h.behind (show i+1+d<t.length by omega) c qE;have et:kN t i ((t.getD i aN).next.getD m 0).toNat:=by unfold kN;rw [show ((((t.getD i aN).next.getD m 0).toNat:Nat):Int)=(t.getD i aN).next.getD m 0 by omega];exact dv 0 hm
   have eS:kN t (i+1+d) ((t.getD i aN).next.getD m 0).toNat:=by unfold kN;rw [←e,show ((c.toNat:Nat):Int)=c by omega];exact qE
   have:=h.parent av J aa J et eS;omega
 have ay:=key (t.length-(i+1)) J;rw [show i+1+(t.length-(i+1))=t.length by omega] at ay;unfold cA;rw [ay,U,ab]
theorem CV {f:Nat→Rat}{a:Nat}: ∀{n:Nat},a<n→b2 (fun j=>if j=a then f j else 0) n=f a
 |0,h=>absurd h (gh _)
 |n+1,h=>by
  rw [b2];by_cases e:n=a
  ·subst e;have:b2 (fun j=>if j=n then f j else 0) n=0:=by rw [e7 (g:=fun _=>0) (fun i aa=>by rw [aw J]),p6]
   rw [this,aB rfl,kI]
  ·rw [CV (n:=n) J,aw e,jX]
theorem sN: ∀(l:List Rat) (a:Rat),ec a l=a+ec 0 l
 |[],a=>by rw [ec,ec,jX]
 |q::r,a=>by rw [ec,ec,sN r (a+q),sN r (0+q),kI,xP]
theorem PT {f:Nat→Rat}{n:Nat}: ∀(ks:List Nat),ks.Nodup→(∀k∈ks,k<n)→b2 (fun j=>if j∈ks then f j else 0) n=ec 0 (ks.map f)
 |[],_,_=>by rw [e7 (g:=fun _=>0) (fun i aa=>by rw [aw b1]),p6];rfl
 |a::r,aG,au=>by
  rw [xU] at aG;rw [k9,ec,sN,kI,←PT r aG.2 (fun k an=>au k (by simp [an])),←CV (f:=f) (au a b1),←vr];refine e7 (fun j ae=> ?_);by_cases U:j=a
  ·subst U;rw [aB b1,aB rfl,aw aG.1,jX]
  ·by_cases ab:j∈r
   ·rw [aB (by simp [ab]),aw U,aB ab,kI]
   ·rw [aw (by simp [U,ab]),aw U,aw ab,kI]
structure OddsOK (t:aJ)(o:dd)(d:Nat):Prop where
 at': ∀i,i<t.length→(t.getD i aN).kind≠0→ ∃l,o i=some l∧l.length=(t.getD i aN).next.length∧ec 0 l=1∧ ∀q∈l,0≤q∧D d q
def r6 (t:aJ)(i:Nat):List Nat:=(t.getD i aN).next.map Int.toNat
theorem Pq {t:aJ}(h:Valid t){i j:Nat}(aa:i<t.length):j∈r6 t i↔kN t i j:=by
 unfold r6 kN;rw [cS];constructor
 ·rintro ⟨x,al,rfl⟩;have:=h.behind aa x al;rw [show ((x.toNat:Nat):Int)=x by omega];exact al
 ·intro al;exact ⟨_,al,cn j⟩
theorem X2 {t:aJ}(h:Valid t){i:Nat}(aa:i<t.length)(an:(t.getD i aN).kind=0):r6 t i=[]:=by
 rcases h.child aa with ⟨_,ab⟩|⟨U,_⟩
 ·unfold r6;rw [ab];rfl
 ·rcases U with U|U<;>rw [an] at U<;>exact absurd U aT
theorem agX {t:aJ}(h:Valid t){o:dd}{d:Nat}(ai:OddsOK t o d){i:Nat}(aa:i<t.length)(an:(t.getD i aN).kind≠0):ec 0 ((r6 t i).map (fun j=>(cA t o).getD j 0))=(cA t o).getD i 0:=by
 obtain ⟨l,U,ab,ay,bc⟩:=ai.at' i aa an;have e:(r6 t i).map (fun j=>(cA t o).getD j 0)=l.map (fun q=>(cA t o).getD i 0*q):=by
  apply kc (by simp [r6,ab]);intro m Ml EE;have hm:m<(t.getD i aN).next.length:=by simpa [r6] using Ml
  have:=CT h o aa hm;rw [U] at this;simp only [kH];have aE:(r6 t i)[m]'(by simpa [r6] using hm)=((t.getD i aN).next.getD m 0).toNat:=by simp only [r6,kH];rw [eA 0 hm]
  have iv:m<l.length:=by rw [ab];exact hm
  rw [aE,this];exact congrArg (fun x=>(cA t o).getD i 0*x) (eA 0 iv)
 have key: ∀(q:Rat) (l:List Rat) (a:Rat),ec (q*a) (l.map (fun x=>q*x))=q*ec a l:=by
  intro q l;induction l with
  |nil=>intro a;rfl
  |cons x r a6=>intro a;rw [k9,ec,ec,←Rat.mul_add,a6]
 rw [e];have:=key ((cA t o).getD i 0) l 0;rw [wc] at this;rw [this,ay,zw]
def vF (t:aJ)(i j:Nat):Prop:=(j<i∧(t.getD j aN).kind=0)∨(i≤j∧(j=0∨ ∃a,a<i∧kN t a j))
open Classical in
theorem V7 {t:aJ}(h:Valid t){o:dd}{d:Nat}(ai:OddsOK t o d): ∀i,i≤t.length→b2 (fun j=>if vF t i j then (cA t o).getD j 0 else 0) t.length=1
 |0,_=>by
  have aG:=h.ne;rw [e7 (g:=fun j=>if j=0 then (cA t o).getD j 0 else 0) (fun j ae=> ?_),CV J,CH h];by_cases e:j=0
  ·rw [aB e,aB (.inr ⟨cj _,.inl e⟩)]
  ·rw [aw e,aw];rintro (⟨q,_⟩|⟨_,q|⟨a,q,_⟩⟩)
   ·omega
   ·exact e q
   ·omega
 |i+1,aa=>by
  have a6:=V7 h ai i J;have aQ:i<t.length:=J;have Eu:vF t i i:=by
   right;refine ⟨bN _,?_⟩;by_cases e:i=0
   ·exact .inl e
   ·obtain ⟨a,aW,an⟩:=h.has aQ e;exact .inr ⟨a,(h.uY aW an).1,an⟩
  have EC: ∀j,kN t i j→j<t.length→ ¬vF t i j:=by
   intro j an ae;have:=h.uY aQ an;rintro (⟨q,_⟩|⟨_,q|⟨a,q,l4⟩⟩)
   ·omega
   ·omega
   ·have:=h.parent ae J aQ J an l4;omega
  have akl:b2 (fun j=>if vF t (i+1) j then (cA t o).getD j 0 else 0) t.length
   =b2 (fun j=>(if vF t i j then (cA t o).getD j 0 else 0)+((if j∈r6 t i then (cA t o).getD j 0 else 0)+(if j=i then (if (t.getD i aN).kind=0 then 0 else-(cA t o).getD i 0) else 0))) t.length:=by
   refine e7 (fun j ae=> ?_);have lj:=Pq h aQ (j:=j);by_cases e:j=i
   ·subst e;have afB: ¬kN t j j:=fun an=>by have:=h.uY aQ an;omega
    rw [aB Eu,aw (fun q=>afB (lj.1 q)),aB rfl,kI];by_cases an:(t.getD j aN).kind=0
    ·rw [aB an,aB (.inl ⟨gC _,an⟩),jX]
    ·rw [aw an,aw,Rat.add_neg_cancel];rintro (⟨_,q⟩|⟨q,_⟩)
     ·exact an q
     ·omega
   ·rw [aw e,jX];by_cases an:kN t i j
    ·rw [aB (lj.2 an),aw (EC j an ae),kI,aB];have:=h.uY aQ an;exact .inr ⟨J,.inr ⟨i,gC _,an⟩⟩
    ·rw [aw (fun q=>an (lj.1 q)),jX];have:vF t (i+1) j↔vF t i j:=by
      constructor
      ·rintro (⟨bQ,bX⟩|⟨bQ,bX|⟨a,bX,dr⟩⟩)
       ·exact .inl ⟨J,bX⟩
       ·omega
       ·by_cases l0:a=i
        ·subst l0;exact absurd dr an
        ·exact .inr ⟨J,.inr ⟨a,J,dr⟩⟩
      ·rintro (⟨bQ,bX⟩|⟨bQ,bX|⟨a,bX,dr⟩⟩)
       ·exact .inl ⟨J,bX⟩
       ·subst bX;have:i=0:=J;exact absurd this.symm e
       ·exact .inr ⟨J,.inr ⟨a,J,dr⟩⟩
     by_cases aR:vF t i j
     ·rw [aB aR,aB (this.2 aR)]
     ·rw [aw aR,aw (fun q=>aR (this.1 q))]
  rw [akl,vr,vr,a6,PT (r6 t i) (h.Ik aQ) (fun k an=>(h.uY aQ ((Pq h aQ).1 an)).2)];have aF:b2 (fun j=>if j=i then (if (t.getD i aN).kind=0 then 0 else-(cA t o).getD i 0) else 0) t.length=(if (t.getD i aN).kind=0 then 0 else-(cA t o).getD i 0):=
   CV (f:=fun _=>if (t.getD i aN).kind=0 then 0 else-(cA t o).getD i 0) aQ
  rw [aF];by_cases an:(t.getD i aN).kind=0
  ·rw [aB an,X2 h aQ an];show (1:Rat)+(0+0)=1;rw [jX,jX]
  ·rw [aw an,agX h ai aQ an,Rat.add_neg_cancel,jX]
def cH (t:aJ):List Nat:=(List.range t.length).filter (fun i=>decide ((t.getD i aN).kind=0))
theorem acg {t:aJ}(h:Valid t){o:dd}{d:Nat}(ai:OddsOK t o d):ec 0 ((cH t).map (fun j=>(cA t o).getD j 0))=1:=by
 classical
 have U:=V7 h ai t.length (bN _);rw [←PT (n:=t.length) (cH t) (List.Nodup.sublist List.filter_sublist List.nodup_range) (fun k an=>by
  have:=(vY.1 an).1;simpa using this),←U]
 refine e7 (fun j ae=> ?_);have:j∈cH t↔vF t t.length j:=by
  unfold cH vF;rw [vY,xI,e8];constructor
  ·exact .inl
  ·rintro (q|⟨q,_⟩)
   ·exact q
   ·omega
 by_cases aR:j∈cH t
 ·rw [aB aR,aB (this.1 aR)]
 ·rw [aw aR,aw (fun q=>aR (this.2 q))]
theorem Pv: ∀(N:Nat) (l:List Nat),l.Nodup→(∀x∈l,x<N)→l.length≤N
 |0,[],_,_=>bN _
 |0,a::r,_,h=>absurd (h a b1) (gh _)
 |N+1,l,aG,h=>by
  by_cases jc:N∈l
  ·have U:=Pv N (l.erase N) (aG.erase N) (fun x al=>by
    have ab:=(aG.mem_erase_iff).1 al;have:=h x ab.2;omega)
   rw [List.length_erase_of_mem jc] at U;omega
  ·have U:=Pv N l aG (fun x al=>by
    have:=h x al;have:x≠N:=fun e=>jc (e▸al);omega)
   omega
theorem J3 {t:aJ}(h:Valid t):(t.flatMap ev.next).length≤t.length:=by
 have ak: ∀x∈t.flatMap ev.next,0<x∧x<t.length:=by intro x al;obtain ⟨n,BT,Mq⟩:=List.mem_flatMap.1 al;obtain ⟨i,aa,rfl⟩:=kE BT;have:=h.behind aa x (by rw [eA aN aa];exact Mq);omega
 have lk:(t.flatMap ev.next).Nodup:=by
  rw [List.nodup_iff_count];intro a;by_cases aW:a∈t.flatMap ev.next
  ·have ez:=ak a aW;have U:=h.once a.toNat J J;unfold named at U;rw [VA,show ((a.toNat:Nat):Int)=a by omega] at U;omega
  ·rw [List.count_eq_zero_of_not_mem aW];omega
 have au:=Pv t.length ((t.flatMap ev.next).map Int.toNat) (by
  rw [DT,List.pairwise_map];refine List.Pairwise.imp_of_mem ?_ (DT.1 lk);intro a b aW BB mX e;have:=ak a aW;have:=ak b BB;omega) (fun x al=>by
  obtain ⟨y,a1,rfl⟩:=cS.1 al;have:=ak y a1;omega)
 simpa using au
def fT (B:Nat)(q:Rat):Prop:= ∃z:Int,q*(B:Rat)=(z:Rat)
theorem fT.den {B:Nat}{q:Rat}(h:fT B q)(cf:B≠0):q.den∣B:=by
 obtain ⟨z,bB⟩:=h;have uJ:((B:Int):Rat)≠0:=YH J;have e:q=Rat.divInt z B:=by rw [Rat.divInt_eq_div,←bB,←xS];have U:=Rat.div_mul_cancel (a:=q*((B:Int):Rat)) uJ;refine anZ uJ ?_;rw [nA _ (q*((B:Int):Rat)/((B:Int):Rat)),U,nA]
 rw [e,(J8 z B cf).2.1];exact Nat.div_dvd_of_dvd (DR _ _)
theorem fT.Iu {q:Rat}:fT q.den q:=⟨q.num,YK q⟩
theorem fT.mono {A B:Nat}{q:Rat}(h:fT A q)(hd:A∣B):fT B q:=by obtain ⟨z,bB⟩:=h;obtain ⟨k,rfl⟩:=hd;refine ⟨z*k,?_⟩;rw [Rat.natCast_mul,←te,bB,pM,xS]
theorem fT.add {B:Nat}{a b:Rat}(aW:fT B a)(ak:fT B b):fT B (a+b):=by obtain ⟨x,al⟩:=aW;obtain ⟨y,a1⟩:=ak;exact ⟨x+y,by rw [Rat.add_mul,al,a1,DS]⟩
theorem fT.mul {A B:Nat}{a b:Rat}(aW:fT A a)(ak:fT B b):fT (A*B) (a*b):=by obtain ⟨x,al⟩:=aW;obtain ⟨y,a1⟩:=ak;refine ⟨x*y,?_⟩;rw [pM,←al,←a1,Rat.natCast_mul];grind
theorem fT.zero (B:Nat):fT B 0:=⟨0,by rw [oa];rfl⟩
theorem fT.one (B:Nat):fT B 1:=⟨B,by rw [pN,xS]⟩
theorem ala {B K:Nat}{q:Rat}(h:fT B q)(cf:B≠0)(aM:0≤q)(U:q≤1)(dE:B<10^K):D K q:=by
 have hd:=Bn J (h.den cf);refine ⟨?_,J⟩;have aG:q.num≤q.den:=by have ab:=zx.2 U;rw [Rat.lt_iff] at ab;have ay: ¬((1:Int)*(q.den:Int)<q.num*1):=ab;omega
 have:=Rat.num_nonneg.2 aM;omega
def vL:List Nat→Nat
 |[]=>1
 |a::r=>a*vL r
theorem WS {l:List Nat}(h: ∀x∈l,0<x):0<vL l:=by
 induction l with
 |nil=>exact Nat.one_pos
 |cons a r a6=>rw [vL];exact zp (h a b1) (a6 (fun x al=>h x (by simp [al])))
theorem Ov {l:List Nat}{x:Nat}(h:x∈l):x∣vL l:=by
 induction l with
 |nil=>simp at h
 |cons a r a6=>
  rw [vL];rcases gb.1 h with rfl|q
  ·exact Nat.dvd_mul_right _ _
  ·exact Nat.dvd_trans (a6 q) (Nat.dvd_mul_left _ _)
theorem PC {l:List Nat}{d:Nat}(h: ∀x∈l,x≤10^d):vL l≤10^(d*l.length):=by
 induction l with
 |nil=>rw [vL,k6,ta,xK];exact bN _
 |cons a r a6=>
  rw [vL,gu,gS,rf,oV,iN];exact jW (h a b1) (a6 (fun x al=>h x (by simp [al])))
def Cd (o:Option (List Rat)):Nat:=match o with|none=>1|some l=>vL (l.map Rat.den)
theorem aiy (o:Option (List Rat)):0<Cd o:=by
 cases o with
 |none=>exact Nat.one_pos
 |some l=>exact WS (fun x al=>by obtain ⟨q,_,rfl⟩:=cS.1 al;exact q.den_pos)
def k3 (o:dd):Nat→Nat
 |0=>1
 |i+1=>k3 o i*Cd (o i)
theorem KI (o:dd): ∀i,0<k3 o i
 |0=>Nat.one_pos
 |i+1=>zp (KI o i) (aiy _)
theorem AW (o:dd){i:Nat}: ∀d,k3 o i∣k3 o (i+d)
 |0=>Nat.dvd_refl _
 |d+1=>Nat.dvd_trans (AW o d) (Nat.dvd_mul_right _ _)
structure uw (t:aJ)(o:dd)(d:Nat):Prop extends OddsOK t o d where
 none: ∀i,i<t.length→(t.getD i aN).kind=0→o i=none
theorem Gk {t:aJ}{i j:Nat}(h:Valid t)(aa:i<t.length)(an:kN t i j): ∃m,m<(t.getD i aN).next.length∧((t.getD i aN).next.getD m 0).toNat=j:=by obtain ⟨m,hm,he⟩:=kE an;exact ⟨m,hm,by rw [eA 0 hm,he];exact cn j⟩
theorem agW {t:aJ}{i j:Nat}(h:Valid t)(aa:i<t.length)(an:kN t i j):(t.getD i aN).kind≠0:=by intro e;have:=X2 h aa e;have ab:=(Pq h aa).2 an;rw [this] at ab;simp at ab
theorem Oi {t:aJ}(h:Valid t){o:dd}{d:Nat}(ai:uw t o d): ∀j,j<t.length→fT (k3 o j) ((cA t o).getD j 0)∧0≤(cA t o).getD j 0:=by
 intro j;induction j using Nat.strongRecOn with
 |ind j a6=>
  intro ae;by_cases aM:j=0
  ·subst aM;rw [CH h];exact ⟨fT.one _,by decide+kernel⟩
  ·obtain ⟨i,aa,an⟩:=h.has ae aM;have bG:=h.uY aa an;obtain ⟨m,hm,he⟩:=Gk h aa an;obtain ⟨l,fH,fu,uZ,u0⟩:=ai.at' i aa (agW h aa an);have ad:=CT h o aa hm;rw [he,fH] at ad;have ad:(cA t o).getD j 0=(cA t o).getD i 0*l.getD m 0:=ad;obtain ⟨g1,g2⟩:=a6 i J aa;have aA:=u0 (l.getD m 0) (dv 0 J);rw [ad];refine ⟨?_,wg g2 aA.1⟩;have bI:fT (k3 o (i+1)) ((cA t o).getD i 0*l.getD m 0):=by refine (g1.mul (fT.Iu (q:=l.getD m 0))).mono ?_;show _∣k3 o i*Cd (o i);rw [fH];exact Nat.mul_dvd_mul (Nat.dvd_refl _) (Ov (cS.2 ⟨_,dv 0 J,I⟩))
   have db:=AW o (i:=i+1) (j-(i+1));rw [show i+1+(j-(i+1))=j by omega] at db;exact bI.mono db
theorem QF {t:aJ}(h:Valid t){o:dd}{d:Nat}(ai:uw t o d): ∀i,i≤t.length→k3 o i≤10^(d*((t.take i).flatMap ev.next).length)
 |0,_=>by simp [k3]
 |i+1,aa=>by
  have a6:=QF h ai i J;have aQ:i<t.length:=J;have aD:Cd (o i)≤10^(d*(t.getD i aN).next.length):=by
   by_cases an:(t.getD i aN).kind=0
   ·rw [ai.none i aQ an];exact lX aT
   ·obtain ⟨l,fH,fu,uZ,u0⟩:=ai.at' i aQ an;rw [fH,←fu];have:=PC (l:=l.map Rat.den) (d:=d) (fun x al=>by
     obtain ⟨q,aA,rfl⟩:=cS.1 al;exact ri (u0 q aA).2.2)
    rwa [cW] at this
  rw [k3,n9 aQ,List.flatMap_append,di,gS,iN];refine jW a6 ?_;rw [eA aN aQ] at aD;simpa using aD
theorem Zr {t:aJ}(h:Valid t){o:dd}{d:Nat}(ai:uw t o d)(aG:t.length≤40){j:Nat}(ae:j<t.length):fT (k3 o t.length) ((cA t o).getD j 0)∧k3 o t.length<10^(d*40+1):=by obtain ⟨g1,g2⟩:=Oi h ai j ae;have db:=AW o (i:=j) (t.length-j);rw [show j+(t.length-j)=t.length by omega] at db;refine ⟨g1.mono db,?_⟩;have fh:=QF h ai t.length (bN _);rw [fO] at fh;have oZ:=J3 h;have ld:d*(t.flatMap ev.next).length≤d*40:=hK _ J;have Ed:10^(d*(t.flatMap ev.next).length)≤10^(d*40):=fN aT ld;have:0<10^(d*40):=lX aT;rw [hY];omega
def dN {α:Type}(v:Nat→α):List Int→Nat→List α→List α
 |[],_,a=>a
 |c::r,k,a=>dN v r (k+1) (a.set c.toNat (v k))
theorem xk {α:Type}(v:Nat→α): ∀(l:List Int) (k:Nat) (a:List α),(dN v l k a).length=a.length
 |[],_,a=>rfl
 |c::r,k,a=>by rw [dN,xk v r];simp
theorem AA {α:Type}(v:Nat→α)(x:Int): ∀(l:List Int) (k:Nat) (a:List α),dN v (l++[x]) k a=(dN v l k a).set x.toNat (v (k+l.length))
 |[],k,a=>rfl
 |c::r,k,a=>by rw [oT,dN,dN,AA v x r (k+1)];congr 2;rw [gu];omega
theorem tP {α:Type}(v:Nat→α)(d:α){j:Nat}: ∀(l:List Int) (k:Nat) (a:List α),(∀c∈l,c.toNat≠j)→(dN v l k a).getD j d=a.getD j d
 |[],_,a,_=>rfl
 |c::r,k,a,h=>by rw [dN,tP v d r (k+1) _ (fun c av=>h c (by simp [av])),Go.aj.dR.fQ,aw];exact fun q=>h c b1 q.1.symm
theorem Qk {α:Type}(v:Nat→α)(d:α): ∀(l:List Int) (k:Nat) (a:List α) (m:Nat),m<l.length→(l.map Int.toNat).Nodup→(∀c∈l,c.toNat<a.length)→(dN v l k a).getD (l.getD m 0).toNat d=v (k+m)
 |[],_,a,m,h,_,_=>absurd h (gh _)
 |c::r,k,a,m,h,aG,au=>by
  rw [k9,xU] at aG;rw [dN];cases m with
  |zero=>
   have:(c::r).getD 0 0=c:=rfl;rw [this,tP,Go.aj.dR.fQ,aB ⟨rfl,au c b1⟩,fg];intro x al e;exact aG.1 (cS.2 ⟨x,al,e⟩)
  |succ m=>
   have:(c::r).getD (m+1) 0=r.getD m 0:=rfl;rw [this,Qk v d r (k+1) _ m (by simpa using h) aG.2 (fun x al=>by rw [da];exact au x (by simp [al]))];congr 1;omega
theorem Oy (v:Nat→Int): ∀(l:List Int) (k:Nat) (a:List Int),vw v l k a=dN v l k a
 |[],_,a=>rfl
 |c::r,k,a=>by rw [vw,dN,Oy v r]
theorem FF (v:Nat→Way): ∀(l:List Int) (k:Nat) (a:List Way),Di v l k a=dN v l k a
 |[],_,a=>rfl
 |c::r,k,a=>by rw [Di,dN,FF v r]
theorem YA {α:Type}{t:aJ}(h:Valid t)(d:α)(T:Nat→List α)(v:Nat→Nat→α)(b4: ∀i,i<t.length→T (i+1)=dN (v i) (t.getD i aN).next 0 (T i)){j:Nat}(ae:j<t.length): ∀e i,j≤i→i+e≤t.length→(T (i+e)).getD j d=(T i).getD j d
 |0,i,_,_=>rfl
 |e+1,i,U,ab=>by rw [←jU,b4 _ J,tP,YA h d T v b4 ae e i U J];intro c av gE;have:=h.behind (show i+e<t.length by omega) c av;omega
theorem ZJ {α:Type}{t:aJ}(h:Valid t)(d:α)(T:Nat→List α)(v:Nat→Nat→α)(au: ∀i,(T i).length=t.length)(b4: ∀i,i<t.length→T (i+1)=dN (v i) (t.getD i aN).next 0 (T i)){i m:Nat}(aa:i<t.length)(hm:m<(t.getD i aN).next.length):
 (T t.length).getD ((t.getD i aN).next.getD m 0).toNat d=v i m:=by
 have ak:=h.behind aa _ (dv 0 hm);have av:((t.getD i aN).next.getD m 0).toNat<t.length:=J;have U:(T (i+1)).getD ((t.getD i aN).next.getD m 0).toNat d=v i m:=by rw [b4 i aa,Qk _ d _ _ _ m hm (h.Ik aa) (fun c av=>by rw [au];have:=h.behind aa c av;omega),cR]
 have key: ∀e,i+1+e≤t.length→(T (i+1+e)).getD ((t.getD i aN).next.getD m 0).toNat d=(T (i+1)).getD ((t.getD i aN).next.getD m 0).toNat d:=by
  intro e;induction e with
  |zero=>intro _;rfl
  |succ e a6=>
   intro hd;rw [←jU,b4 _ J,tP,a6 J];intro c qE gE;have aes:=h.behind (show i+1+e<t.length by omega) c qE;have et:kN t i ((t.getD i aN).next.getD m 0).toNat:=by unfold kN;rw [show ((((t.getD i aN).next.getD m 0).toNat:Nat):Int)=(t.getD i aN).next.getD m 0 by omega];exact dv 0 hm
   have eS:kN t (i+1+e) ((t.getD i aN).next.getD m 0).toNat:=by unfold kN;rw [←gE,show ((c.toNat:Nat):Int)=c by omega];exact qE
   have:=h.parent av J aa J et eS;omega
 have ay:=key (t.length-(i+1)) J;rw [show i+1+(t.length-(i+1))=t.length by omega] at ay;rw [ay,U]
theorem FJ {α:Type}{t:aJ}(h:Valid t)(d:α)(T:Nat→List α)(v:Nat→Nat→α)(b4: ∀i,i<t.length→T (i+1)=dN (v i) (t.getD i aN).next 0 (T i)){i:Nat}(aa:i<t.length):(T i).getD i d=(T t.length).getD i d:=by have:=YA h d T v b4 aa (t.length-i) i (bN _) J;rw [show i+(t.length-i)=t.length by omega] at this;exact this.symm
def hQ (t:aJ)(p:Int):List Int:=(de t p t.length).pos
def sR (t:aJ)(p:Int):List Way:=hH t p t.length
abbrev mi (t:aJ)(p:Int):List (Int×Nat):=(de t p t.length).first
theorem NT (p:Int)(n:ev)(i:Nat)(f:n6):(fW p n i f).pos=f.pos:=by unfold fW;split<;>rfl
theorem FU (t:aJ)(p:Int)(i:Nat):(de t p (i+1)).pos=dN (vK p (t.getD i aN) i (fW p (t.getD i aN) i (de t p i))) (t.getD i aN).next 0 (de t p i).pos:=by rw [de,y9];show vw _ _ _ (fW _ _ _ _).pos=_;rw [Oy,NT]
theorem xf (t:aJ)(p:Int): ∀i,(de t p i).pos.length=t.length
 |0=>fc
 |i+1=>by rw [FU,xk,xf t p i]
theorem aph {m l8:List (Int×Nat)}{k:Int}{s:Nat}(h:fY m k=some s):fY (m++l8) k=some s:=by unfold fY at h⊢;obtain ⟨x,al,rfl⟩:=GU.1 h;rw [List.find?_append,al];rfl
theorem Vz {t:aJ}{p:Int}{k:Int}{s:Nat}{i:Nat}: ∀e,fY (de t p i).first k=some s→fY (de t p (i+e)).first k=some s
 |0,h=>h
 |e+1,h=>by
  rw [←jU,de,y9];show fY (fW _ _ _ _).first k=some s
  have:=Vz e h;unfold fW;split
  ·exact aph this
  ·exact this
theorem XX {t:aJ}{p:Int}(af:Valid t){i:Nat}(aa:i<t.length)(ai:own p (t.getD i aN)=true): ∃s,fY (fW p (t.getD i aN) i (de t p i)).first (t.getD i aN).info=some s∧fY (mi t p) (t.getD i aN).info=some s:=by
 have h:=hz.lY af p i J;obtain ⟨s,az⟩:=(hz.add af h aa h h.j1.1).2.2.2.2.2.2.2.2.2 ai;refine ⟨s,az,?_⟩;have ab:fY (de t p (i+1)).first (t.getD i aN).info=some s:=az
 have:=Vz (t.length-(i+1)) ab
 rwa [show i+1+(t.length-(i+1))=t.length by omega] at this
abbrev rS (t:aJ)(p x:Int):Nat:=(fY (mi t p) x).getD 0
theorem Zj {t:aJ}(af:Valid t)(p:Int){i m:Nat}(aa:i<t.length)(hm:m<(t.getD i aN).next.length):
 (hQ t p).getD ((t.getD i aN).next.getD m 0).toNat 0=if own p (t.getD i aN)=true then ((rS t p (t.getD i aN).info:Nat):Int)+(m:Int) else (hQ t p).getD i 0:=by
 have an:=ZJ af (0:Int) (fun i=>(de t p i).pos) (fun i=>vK p (t.getD i aN) i (fW p (t.getD i aN) i (de t p i))) (xf t p) (fun i _=>FU t p i) aa hm;have aD:=FJ af (0:Int) (fun i=>(de t p i).pos) _ (fun i _=>FU t p i) aa;refine an.trans ?_;unfold vK;split
 ·rename_i ai;obtain ⟨s,U,ab⟩:=XX af aa ai;rw [U];unfold rS;rw [ab]
 ·rw [NT];exact aD
theorem Yd {t:aJ}(af:Valid t)(p:Int):(hQ t p).getD 0 0=0:=by have aG:=af.ne;have:=FJ af (0:Int) (fun i=>(de t p i).pos) _ (fun i _=>FU t p i) (i:=0) J;refine this.symm.trans ?_;show (List.replicate t.length (0:Int)).getD 0 0=0;simp only [List.getD,pJ];split<;>rfl
theorem alv {t:aJ}(af:Valid t)(p:Int){i m:Nat}(aa:i<t.length)(hm:m<(t.getD i aN).next.length):
 (sR t p).getD ((t.getD i aN).next.getD m 0).toNat []=r9 p (t.getD i aN) ((sR t p).getD i []) m:=by
 have b4: ∀i,i<t.length→hH t p (i+1)=dN (r9 p (t.getD i aN) ((hH t p i).getD i [])) (t.getD i aN).next 0 (hH t p i):=fun i _=>by rw [hH,FF]
 have an:=ZJ af ([]:Way) (fun i=>hH t p i) (fun i=>r9 p (t.getD i aN) ((hH t p i).getD i [])) (FI t p) b4 aa hm;have aD:=FJ af ([]:Way) (fun i=>hH t p i) _ b4 aa;refine an.trans ?_;show r9 p _ ((hH t p i).getD i []) m=_;rw [show (hH t p i).getD i []=(sR t p).getD i [] from aD]
theorem alw {t:aJ}(af:Valid t)(p:Int):(sR t p).getD 0 []=[]:=by
 have aG:=af.ne;have b4: ∀i,i<t.length→hH t p (i+1)=dN (r9 p (t.getD i aN) ((hH t p i).getD i [])) (t.getD i aN).next 0 (hH t p i):=fun i _=>by rw [hH,FF]
 have:=FJ af ([]:Way) (fun i=>hH t p i) _ b4 (i:=0) J;refine this.symm.trans ?_;show (List.replicate t.length ([]:Way)).getD 0 []=[]
 simp only [List.getD,pJ];split<;>rfl
def Iw (F:Int→Nat)(w:Way):Int:=match w.getLast? with
 |none=>0
 |some x=>((F x.1:Nat):Int)+x.2
theorem Zk {t:aJ}(af:Valid t)(p:Int): ∀j,j<t.length→(hQ t p).getD j 0=Iw (rS t p) ((sR t p).getD j []):=by
 intro j;induction j using Nat.strongRecOn with
 |ind j a6=>
  intro ae;by_cases aM:j=0
  ·subst aM;rw [Yd af,alw af];rfl
  ·obtain ⟨i,aa,an⟩:=af.has ae aM;have bG:=af.uY aa an;obtain ⟨m,hm,he⟩:=Gk af aa an;have U:=Zj af p aa hm;have ab:=alv af p aa hm;rw [he] at U ab;rw [U,ab];unfold r9;split
   ·unfold Iw;rw [List.getLast?_append];rfl
   ·exact a6 i J aa
theorem I3 {t:aJ}{p:Int}{x:Int×Nat}{i:Nat}: ∀e,x∈kR t p i→x∈kR t p (i+e)
 |0,h=>h
 |e+1,h=>by
  rw [←jU,kR];split
  ·exact s9 _ (I3 e h)
  ·exact I3 e h
theorem NL (t:aJ)(p:Int): ∀i,((kR t p i).map Prod.fst).Nodup
 |0=>List.nodup_nil
 |i+1=>by
  rw [kR];split
  ·rename_i av;rw [hb,List.nodup_append];refine ⟨NL t p i,b1,fun a aW b ak e=> ?_⟩;have:b=(t.getD i aN).info:=by simpa using ak
   have e2:=Fv av.2;rw [←this,←e] at e2;exact e2 aW
  ·exact NL t p i
theorem Py {t:aJ}{p:Int}{W:List Way}: ∀{n i:Nat},sU t p W n=true→i<n→own p (t.getD i aN)=true→ ∃k,((t.getD i aN).info,k)∈kR t p n∧W.getD i []=W.getD k []
 |0,i,_,h,_=>absurd h (gh _)
 |n+1,i,aD,aa,ai=>by
  rw [sU,er] at aD;by_cases e:i=n
  ·subst e;have ab:=aD.2;rw [aB ai] at ab;cases au:fY (kR t p i) (t.getD i aN).info with
   |none=>
    refine ⟨i,?_,I⟩;rw [kR,aB ⟨ai,au⟩];simp
   |some k=>
    rw [au] at ab;exact ⟨k,I3 1 (xa au),by simpa using ab⟩
  ·obtain ⟨k,et,eS⟩:=Py aD.1 J ai;exact ⟨k,I3 1 et,eS⟩
theorem aiz {t:aJ}(af:Valid t){p:Int}(aD:fC t p=true){i j:Nat}(aa:i<t.length)(ae:j<t.length)(u1:own p (t.getD i aN)=true)(Iv:own p (t.getD j aN)=true)(he:(t.getD i aN).info=(t.getD j aN).info):(hQ t p).getD i 0=(hQ t p).getD j 0:=by obtain ⟨a,gy,a2⟩:=Py aD aa u1;obtain ⟨b,dS,eP⟩:=Py aD ae Iv;have:=F9 (NL t p t.length) gy dS he;have mX:a=b:=congrArg Prod.snd this;rw [Zk af p i aa,Zk af p j ae];show Iw _ ((hH t p t.length).getD i [])=Iw _ ((hH t p t.length).getD j []);rw [a2,eP,mX]
theorem XF {t:aJ}(af:Valid t)(p:Int): ∀i,i≤t.length→ ∀x∈(de t p i).first,∃j,j<i∧fX p x.1 (t.getD j aN)=true∧x.2+(t.getD j aN).next.length≤(de t p i).cx.length∧
 ∀c,c<(t.getD j aN).next.length→(de t p i).cx.getD (x.2+c) c5=⟨x.1,(c:Int),(hQ t p).getD j 0⟩
 |0,_,x,al=>by simp [de] at al
 |i+1,aa,x,al=>by
  have a6:=XF af p i J;have aD:=FJ af (0:Int) (fun i=>(de t p i).pos) _ (fun i _=>FU t p i) (i:=i) J;have al:x∈(fW p (t.getD i aN) i (de t p i)).first:=al
  show∃j,j<i+1∧_∧_≤(fW p (t.getD i aN) i (de t p i)).cx.length∧ ∀c,_→(fW p (t.getD i aN) i (de t p i)).cx.getD (x.2+c) c5=_;generalize aG:t.getD i aN=n at*;unfold fW at al⊢;split at al
  ·rename_i av;rw [aB av];rcases gM.1 al with q|q
   ·obtain ⟨j,o6,rC,EY,EZ⟩:=a6 x q;refine ⟨j,J,rC,by show _≤(_++_:List ff).length;rw [di];omega,fun c qE=> ?_⟩;show ((de t p i).cx++_).getD (x.2+c) c5=_;rw [uc _ J];exact EZ c qE
   ·have B4:x=(n.info,(de t p i).cx.length):=by simpa using q
    subst B4;refine ⟨i,gC _,?_,?_,fun c qE=> ?_⟩
    ·rw [aG];unfold fX;rw [av.1];simp
    ·rw [aG];show (de t p i).cx.length+n.next.length≤((de t p i).cx++nQ n _).length
     rw [di];simp [nQ]
    ·rw [aG] at qE;show ((de t p i).cx++nQ n ((de t p i).pos.getD i 0)).getD ((de t p i).cx.length+c) c5=_;have e:((de t p i).cx++nQ n ((de t p i).pos.getD i 0)).getD ((de t p i).cx.length+c) c5=(nQ n ((de t p i).pos.getD i 0)).getD c c5:=by simp only [List.getD];rw [jV J,xF]
     rw [e];unfold nQ;rw [nk _ _ 0 _ _ (by simpa using qE)];have aD:(de t p i).pos.getD i 0=(hQ t p).getD i 0:=aD;rw [aD];simp [List.getD,qE]
  ·rename_i av;rw [aw av];obtain ⟨j,o6,rC,EY,EZ⟩:=a6 x al;exact ⟨j,J,rC,EY,EZ⟩
theorem aiI {t:aJ}(af:Valid t){p:Int}(aD:fC t p=true)(u:Int→List Rat){i m:Nat}(aa:i<t.length)(ai:own p (t.getD i aN)=true)(hm:m<(t.getD i aN).next.length):
 (gv t p u).getD (((rS t p (t.getD i aN).info:Nat):Int)+(m:Int)).toNat 0=(gv t p u).getD ((hQ t p).getD i 0).toNat 0*(u (t.getD i aN).info).getD m 0:=by
 obtain ⟨s,_,ab⟩:=XX af aa ai;have al:=xa ab;have h:=hz.lY af p t.length (bN _);obtain ⟨j,o6,rC,EY,EZ⟩:=XF af p t.length (bN _) _ al;have lC:=rC;unfold fX at lC;rw [er,e8] at lC;have hw:=af.width aa o6 ai lC.1 lC.2.symm;have e3:=aiz af aD aa o6 ai lC.1 lC.2.symm;have dT:rS t p (t.getD i aN).info=s:=by unfold rS;rw [ab];rfl
 rw [dT];obtain ⟨dS,eP⟩:=h.kO ((hQ t p).getD j 0) (dv 0 (by show j<(de t p t.length).pos.length;rw [xf];exact o6));have az:=EZ m J;obtain ⟨bQ,bX,b,dr,en,gT⟩:=h.fst _ al;have S5:=qY af o6 rC;have hf:=gT m (by have S5:ca t p (t.getD i aN).info=_:=S5;show m<ca t p (t.getD i aN).info;omega);rw [az] at hf;have ak:(hQ t p).getD j 0=b:=congrArg ff.before hf;have en:b<(s:Int):=en;have EY:s+(t.getD j aN).next.length≤(de t p t.length).cx.length:=EY
 have az:(bW t p).getD (s+m) c5=⟨(t.getD i aN).info,(m:Int),(hQ t p).getD j 0⟩:=az;have hlen:s+m<(bW t p).length:=by show s+m<(de t p t.length).cx.length;omega
 rw [show (((s:Nat):Int)+(m:Int)).toNat=s+m by omega];unfold gv;rw [yP _ _ hlen,az];unfold xh;simp only;rw [aw J,cn,e3,Jl _ _ (show ((hQ t p).getD j 0).toNat<s+m by omega) (show ((hQ t p).getD j 0).toNat<(bW t p).length by omega)]
def mj (t:aJ)(p:Int)(u:Int→List Rat)(o:dd):dd:=fun i=>if own p (t.getD i aN)=true then some (u (t.getD i aN).info) else o i
theorem yQ {t:aJ}(af:Valid t)(p:Int)(u:Int→List Rat):(gv t p u).getD 0 0=1:=by obtain ⟨_,U,ab,_⟩:=sF af p;unfold gv;rw [yP _ _ ab,U];rfl
theorem N1 {t:aJ}(af:Valid t){p:Int}(aD:fC t p=true)(u:Int→List Rat){o:dd}(ai: ∀i,i<t.length→own p (t.getD i aN)=true→o i=none): ∀j,j<t.length→(cA t (mj t p u o)).getD j 0=(cA t o).getD j 0*(gv t p u).getD ((hQ t p).getD j 0).toNat 0:=by
 intro j;induction j using Nat.strongRecOn with
 |ind j a6=>
  intro ae;by_cases aM:j=0
  ·subst aM;rw [CH af,CH af,Yd af,pN];exact (yQ af p u).symm
  ·obtain ⟨i,aa,an⟩:=af.has ae aM;have bG:=af.uY aa an;obtain ⟨m,hm,he⟩:=Gk af aa an;have U:=CT af (mj t p u o) aa hm;have ab:=CT af o aa hm;have ay:=Zj af p aa hm;have bc:=a6 i J aa;rw [he] at U ab ay;rw [U,ab,ay,bc];by_cases BW:own p (t.getD i aN)=true
   ·have e:mj t p u o i=some (u (t.getD i aN).info):=by unfold mj;rw [aB BW]
    rw [e,aB BW,ai i aa BW,aiI af aD u aa BW hm];show _*_*_=(cA t o).getD i 0*(_*_);rw [te]
   ·have e:mj t p u o i=o i:=by unfold mj;rw [aw BW]
    rw [e,aw BW];cases o i with
    |none=>rfl
    |some l=>
     show _*_*_=_*_*_;rw [te,te,nA (l.getD m 0)]
def iK (t:aJ)(r:List Rat)(i:Nat):Rat:=r.getD i 0*dk (t.getD i aN).jf
def eo (t:aJ)(o:dd):Rat:=ec 0 ((cH t).map (iK t (cA t o)))
def wu (t:aJ)(p:Int)(r:List Rat)(i:Nat):Rat:=if p=1 then-(iK t r i) else iK t r i
def r2 (g:Nat→Rat)(pos:List Int):List Nat→List Rat→List Rat
 |[],S=>S
 |i::r,S=>r2 g pos r (S.set (pos.getD i 0).toNat (S.getD (pos.getD i 0).toNat 0+g i))
theorem VN (g:Nat→Rat)(pos:List Int)(x:Nat): ∀(ks:List Nat) (S:List Rat),r2 g pos (ks++[x]) S=(r2 g pos ks S).set (pos.getD x 0).toNat ((r2 g pos ks S).getD (pos.getD x 0).toNat 0+g x)
 |[],S=>rfl
 |i::r,S=>by rw [oT,r2,r2,VN g pos x r]
theorem OY (g:Nat→Rat)(pos:List Int): ∀(ks:List Nat) (S:List Rat),(r2 g pos ks S).length=S.length
 |[],S=>rfl
 |i::r,S=>by rw [r2,OY g pos r,da]
def nY (P S:List Rat)(n:Nat):Rat:=b2 (fun k=>P.getD k 0*S.getD k 0) n
theorem Y7 {P S:List Rat}{n k:Nat}(y:Rat)(an:k<n)(dm:k<S.length):nY P (S.set k (S.getD k 0+y)) n=nY P S n+P.getD k 0*y:=by
 unfold nY;rw [←CV (f:=fun _=>P.getD k 0*y) an,←vr];refine e7 (fun j ae=> ?_);rw [Go.aj.dR.fQ];by_cases h:j=k
 ·subst h;rw [aB ⟨rfl,dm⟩,aB rfl,Rat.mul_add]
 ·rw [aw (fun q=>h q.1),aw h,jX]
theorem XV (P:List Rat)(g:Nat→Rat)(pos:List Int){n:Nat}: ∀(ks:List Nat) (S:List Rat),(∀i∈ks,(pos.getD i 0).toNat<n)→n≤S.length→nY P (r2 g pos ks S) n=nY P S n+ec 0 (ks.map (fun i=>P.getD (pos.getD i 0).toNat 0*g i))
 |[],S,_,_=>by rw [r2,th,ec,jX]
 |i::r,S,h,dm=>by have aa:=h i b1;rw [r2,XV P g pos r _ (fun j ae=>h j (by simp [ae])) (by rw [da];exact dm),Y7 _ aa J,k9,ec,kI,sN _ (P.getD (pos.getD i 0).toNat 0*g i),xP]
theorem abN (P:List Rat)(n m:Nat):nY P (List.replicate m 0) n=0:=by
 unfold nY;rw [e7 (g:=fun _=>0) (fun j ae=> ?_),p6];have:(List.replicate m (0:Rat)).getD j 0=0:=by simp only [List.getD,pJ];split<;>rfl
 rw [this,wc]
theorem PR (f:Nat→Rat): ∀ks:List Nat,ec 0 (ks.map (fun i=> -(f i)))= -(ec 0 (ks.map f))
 |[]=>by rw [th,th,ec];rfl
 |a::r=>by rw [k9,k9,ec,ec,sN,sN (r.map f),PR f r,kI,kI,Rat.neg_add]
theorem y5 {t:aJ}(af:Valid t)(p:Int){j:Nat}(ae:j<t.length):0≤(hQ t p).getD j 0∧((hQ t p).getD j 0).toNat<(bW t p).length:=by have h:=hz.lY af p t.length (bN _);have:=h.kO ((hQ t p).getD j 0) (dv 0 (by show j<(de t p t.length).pos.length;rw [xf];exact ae));have e:(bW t p).length=(de t p t.length).cx.length:=rfl;omega
theorem pj {t:aJ}{i:Nat}(h:i∈cH t):i<t.length∧(t.getD i aN).kind=0:=by have:=vY.1 h;exact ⟨by simpa using this.1,by simpa using this.2⟩
def sW (t:aJ)(p:Int)(o:dd):List Rat:=r2 (wu t p (cA t o)) (hQ t p) (cH t) (List.replicate (bW t p).length 0)
theorem Vx {t:aJ}(af:Valid t){p:Int}(aD:fC t p=true)(u:Int→List Rat){o:dd}(ai: ∀i,i<t.length→own p (t.getD i aN)=true→o i=none):
 nY (gv t p u) (sW t p o) (bW t p).length=if p=1 then-(eo t (mj t p u o)) else eo t (mj t p u o):=by
 unfold sW;rw [XV _ _ _ _ _ (fun i aa=>(y5 af p (pj aa).1).2) (by rw [fc];exact bN _),abN,kI];have e:(cH t).map (fun i=>(gv t p u).getD ((hQ t p).getD i 0).toNat 0*wu t p (cA t o) i)=(cH t).map (fun i=>if p=1 then-(iK t (cA t (mj t p u o)) i) else iK t (cA t (mj t p u o)) i):=by
  refine k8 (fun i aa=> ?_);have az:=N1 af aD u ai i (pj aa).1;unfold wu iK;rw [az];have key: ∀a b c:Rat,a*(b*c)=b*a*c:=fun a b c=>by rw [←te,nA a b]
  split
  ·rw [←key,Rat.mul_neg]
  ·rw [key]
 rw [e];unfold eo;split
 ·exact PR _ _
 ·rfl
def gj (S:List Rat)(s:Nat):Nat→Nat
 |0=>s
 |m+1=>if S.getD (gj S s m) 0<S.getD (s+m) 0 then s+m else gj S s m
theorem CJ (S:List Rat)(s:Nat): ∀m,s≤gj S s m∧gj S s m<s+m+1∧(1≤m→gj S s m<s+m)
 |0=>⟨bN _,gC _,fun h=>absurd h aT⟩
 |m+1=>by
  obtain ⟨U,ab,ay⟩:=CJ S s m;rw [gj];split
  ·exact ⟨J,J,fun _=>by omega⟩
  ·exact ⟨U,J,fun _=>by omega⟩
theorem VJ (S:List Rat)(s:Nat): ∀m c,c<m→S.getD (s+c) 0≤S.getD (gj S s m) 0
 |0,c,h=>absurd h (gh _)
 |m+1,c,h=>by
  rw [gj];have a6:=VJ S s m;split
  ·rename_i ab;by_cases e:c=m
   ·subst e;exact td
   ·exact qv (a6 c J) (zy ab)
  ·rename_i ab;by_cases e:c=m
   ·subst e;exact zx.1 ab
   ·exact a6 c J
abbrev Ba:=Nat×List Rat×List (Int×Int)
def O9 (l:List ff)(st:Ba):Ba:=
 let s:=st.1-1-(l.getD (st.1-1) c5).choice.toNat
 let b:=gj st.2.1 s (st.1-s)
 let q:=l.getD b c5
 (s,st.2.1.set q.before.toNat (st.2.1.getD q.before.toNat 0+st.2.1.getD b 0),st.2.2++[(q.info,q.choice)])
def pr (l:List ff):Nat→Ba→Ba
 |0,st=>st
 |f+1,st=>if 1<st.1 then pr l f (O9 l st) else st
theorem xl (f:Nat→Rat)(a:Nat): ∀w,b2 f (a+w)=b2 f a+b2 (fun c=>f (a+c)) w
 |0=>by rw [fg,b2,jX]
 |w+1=>by rw [←jU,b2,xl f a w,b2,xP]
theorem W8 {f g:Nat→Rat}: ∀{n:Nat},(∀i,i<n→f i≤g i)→b2 f n≤b2 g n
 |0,_=>td
 |n+1,h=>by rw [b2,b2];exact qv ((DV (c:=f n)).2 (W8 (fun i aa=>h i J))) ((zu (c:=b2 g n)).2 (h n J))
structure q8 (t:aJ)(p:Int)(e:Nat):Prop where
 one:1≤e
 le:e≤(bW t p).length
 whole: ∀x∈mi t p,x.2<e→x.2+ca t p x.1≤e
theorem q8.top {t:aJ}(af:Valid t)(p:Int):q8 t p (bW t p).length:=
 ⟨(sF af p).2.2.1,bN _,fun x al _=>((hz.lY af p t.length (bN _)).fst x al).2.1⟩
structure bP (t:aJ)(p:Int)(e:Nat)(x:Int×Nat)(b:Nat):Prop where
 mem:x∈mi t p
 info:x.1∈b9 t p
 one:1≤x.2
 lp:1≤ca t p x.1
 fin:x.2+ca t p x.1=e
 lt:b<x.2
 wj:q8 t p x.2
 cx: ∀c,c<ca t p x.1→(bW t p).getD (x.2+c) c5=⟨x.1,(c:Int),(b:Int)⟩
theorem q8.rk {t:aJ}(af:Valid t){p:Int}{e:Nat}(h:q8 t p e)(he:1<e): ∃x b,bP t p e x b:=by
 have au:=h.le;obtain ⟨x,b,w2,jJ,kq,qQ,tM,Co,Fc,Cp⟩:=Dk af (p:=p) (k:=e-1) J J;have hw:=h.whole x w2 J;refine ⟨x,b,w2,jJ,Co,J,J,tM,⟨Co,J,fun y a1 bG=> ?_⟩,Cp⟩;rcases gA x.2 (y.2+ca t p y.1) with q|q
 ·obtain ⟨iU,jh,b',dS,eP,nD⟩:=(hz.lY af p t.length (bN _)).fst y a1;have aE:=nD (x.2-y.2) J;rw [show y.2+(x.2-y.2)=x.2 by omega] at aE;have aF:=Cp 0 J;rw [fg] at aF;have aE:(bW t p).getD x.2 c5=⟨y.1,((x.2-y.2:Nat):Int),b'⟩:=aE;rw [aF] at aE;have:=congrArg ff.choice aE;have:((0:Nat):Int)=((x.2-y.2:Nat):Int):=this;omega
 ·exact q
theorem bP.step {t:aJ}{p:Int}{e:Nat}{x:Int×Nat}{b:Nat}(h:bP t p e x b)(S:List Rat)(C:List (Int×Int)):
 O9 (bW t p) (e,S,C)=(x.2,S.set b (S.getD b 0+S.getD (gj S x.2 (ca t p x.1)) 0),C++[(x.1,((gj S x.2 (ca t p x.1)-x.2:Nat):Int))]):=by have U:=h.fin;have ab:=h.lp;have az:=h.cx (ca t p x.1-1) J;rw [show x.2+(ca t p x.1-1)=e-1 by omega] at az;obtain ⟨bQ,_,dr⟩:=CJ S x.2 (ca t p x.1);have dr:=dr ab;have ak:=h.cx (gj S x.2 (ca t p x.1)-x.2) J;rw [show x.2+(gj S x.2 (ca t p x.1)-x.2)=gj S x.2 (ca t p x.1) by omega] at ak;have aE:e-1-((ca t p x.1-1:Nat):Int).toNat=x.2:=J;unfold O9;simp only [az];rw [aE,show e-x.2=ca t p x.1 by omega,ak];simp only [cn]
theorem bP.aiH {t:aJ}{p:Int}{e:Nat}{x:Int×Nat}{b:Nat}(h:bP t p e x b)(au:e≤(bW t p).length)(u:Int→List Rat): ∀c,c<ca t p x.1→(gv t p u).getD (x.2+c) 0=(gv t p u).getD b 0*(u x.1).getD c 0:=by intro c av;have U:=h.fin;have ab:=h.lt;unfold gv;rw [yP _ _ (show x.2+c<(bW t p).length by omega),h.cx c av];unfold xh;simp only;rw [aw J,cn,cn,Jl _ _ (show b<x.2+c by omega) (show b<(bW t p).length by omega)]
structure oL (t:aJ)(p:Int)(u:Int→List Rat):Prop where
 len: ∀x∈b9 t p,(u x).length=ca t p x
 sum: ∀x∈b9 t p,ec 0 (u x)=1
 mC: ∀x∈b9 t p,∀q∈u x,0≤q
theorem Zi {t:aJ}(af:Valid t){p:Int}{u:Int→List Rat}(hu:oL t p u): ∀k,k<(bW t p).length→0≤(gv t p u).getD k 0:=by
 intro k;induction k using Nat.strongRecOn with
 |ind k a6=>
  intro an;rcases nz k with e|e
  ·subst e;rw [yQ af];decide+kernel
  ·obtain ⟨x,b,w2,jJ,kq,qQ,tM,Co,Fc,Cp⟩:=Dk af e an;have az:=Cp (k-x.2) J;rw [show x.2+(k-x.2)=k by omega] at az;have ab:=a6 b J J;unfold gv at ab⊢;rw [yP _ _ an,az];unfold xh;simp only;rw [aw J,cn,cn];rw [Jl _ _ (show b<(bW t p).length by omega) (show b<k by omega)] at ab;exact wg ab (hu.mC x.1 jJ _ (dv 0 (by rw [hu.len x.1 jJ];omega)))
theorem YI {t:aJ}{p:Int}{u:Int→List Rat}(hu:oL t p u){x:Int}(al:x∈b9 t p):b2 (fun c=>(u x).getD c 0) (ca t p x)=1:=by rw [JK _ _ (by rw [hu.len x al];exact bN _),kd (by rw [hu.len x al];exact bN _),hu.sum x al]
theorem Y5 {t:aJ}{p:Int}{e:Nat}{x:Int×Nat}{b:Nat}(h:bP t p e x b)(au:e≤(bW t p).length)(u:Int→List Rat)(S:List Rat):
 nY (gv t p u) S e=nY (gv t p u) S x.2+(gv t p u).getD b 0*b2 (fun c=>(u x.1).getD c 0*S.getD (x.2+c) 0) (ca t p x.1):=by unfold nY;rw [←h.fin,xl,←tY];congr 1;refine e7 (fun c av=> ?_);rw [h.aiH au u c av,te]
theorem XU {t:aJ}{p:Int}{e:Nat}{x:Int×Nat}{b:Nat}(h:bP t p e x b)(P S:List Rat)(y:Rat)(dm:e≤S.length):nY P (S.set b (S.getD b 0+y)) x.2=nY P S x.2+P.getD b 0*y:=by have U:=h.fin;have ab:=h.lt;exact Y7 y h.lt J
theorem YQ {t:aJ}(af:Valid t){p:Int}{u:Int→List Rat}(hu:oL t p u): ∀(f e:Nat) (S:List Rat) (C:List (Int×Int)),q8 t p e→e≤f+1→S.length=(bW t p).length→
 (pr (bW t p) f (e,S,C)).1=1∧(pr (bW t p) f (e,S,C)).2.1.length=(bW t p).length∧nY (gv t p u) S e≤nY (gv t p u) (pr (bW t p) f (e,S,C)).2.1 1
 |0,e,S,C,ak,aR,dm=>by have:=ak.one;obtain rfl:e=1:=J;exact ⟨I,dm,td⟩
 |f+1,e,S,C,ak,aR,dm=>by
  rw [pr];split
  ·rename_i he;have he:1<e:=he;obtain ⟨x,b,cf⟩:=ak.rk af he;have au:=ak.le;have U:=cf.fin;have ab:=cf.lp;have ay:=cf.lt;rw [cf.step S C];obtain ⟨g1,g2,g3⟩:=YQ af hu f x.2 (S.set b (S.getD b 0+S.getD (gj S x.2 (ca t p x.1)) 0)) (C++[(x.1,((gj S x.2 (ca t p x.1)-x.2:Nat):Int))]) cf.wj J (by rw [da];exact dm);refine ⟨g1,g2,qv ?_ g3⟩;rw [XU cf _ _ _ J,Y5 cf au];refine (zu (c:=_)).2 (Bo ?_ (Zi af hu b J));have hm:=W8 (n:=ca t p x.1) (f:=fun c=>(u x.1).getD c 0*S.getD (x.2+c) 0) (g:=fun c=>(u x.1).getD c 0*S.getD (gj S x.2 (ca t p x.1)) 0) (fun c av=>Bo (VJ S x.2 _ c av) (hu.mC x.1 cf.info _ (dv 0 (by rw [hu.len x.1 cf.info];exact av))));rw [AB,YI hu cf.info,pN] at hm;exact hm
  ·rename_i he;have he: ¬1<e:=he;have:=ak.one;obtain rfl:e=1:=J;exact ⟨I,dm,td⟩
theorem Xu (l:List ff){y:Int×Int}: ∀(f:Nat) (st:Ba),y∈st.2.2→y∈(pr l f st).2.2
 |0,st,h=>h
 |f+1,st,h=>by
  rw [pr];split
  ·exact Xu l f _ (s9 _ h)
  ·exact h
def hG (w c:Nat):List Rat:=(List.replicate w 0).set c 1
theorem YB {w c:Nat}(av:c<w)(M:Nat→Rat):b2 (fun j=>(hG w c).getD j 0*M j) w=M c:=by
 rw [←CV (f:=M) av];refine e7 (fun j ae=> ?_);unfold hG;rw [Go.aj.dR.fQ,fc];by_cases h:j=c
 ·subst h;rw [aB ⟨rfl,av⟩,aB rfl,pN]
 ·have:(List.replicate w (0:Rat)).getD j 0=0:=by simp only [List.getD,pJ];split<;>rfl
  rw [aw (fun q=>h q.1),aw h,this,oa]
theorem YP {t:aJ}(af:Valid t){p:Int}{u:Int→List Rat}: ∀(f e:Nat) (S:List Rat) (C:List (Int×Int)),q8 t p e→e≤f+1→S.length=(bW t p).length→
 (∀y∈(pr (bW t p) f (e,S,C)).2.2,u y.1=hG (ca t p y.1) y.2.toNat)→nY (gv t p u) S e=nY (gv t p u) (pr (bW t p) f (e,S,C)).2.1 1
 |0,e,S,C,ak,aR,dm,hu=>by have:=ak.one;obtain rfl:e=1:=J;rfl
 |f+1,e,S,C,ak,aR,dm,hu=>by
  rw [pr] at hu⊢;split
  ·rename_i he;rw [aB he] at hu;have he:1<e:=he;obtain ⟨x,b,cf⟩:=ak.rk af he;have au:=ak.le;have U:=cf.fin;have ab:=cf.lp;have ay:=cf.lt;rw [cf.step S C] at hu⊢;have g3:=YP af (u:=u) f x.2 (S.set b (S.getD b 0+S.getD (gj S x.2 (ca t p x.1)) 0)) (C++[(x.1,((gj S x.2 (ca t p x.1)-x.2:Nat):Int))]) cf.wj J (by rw [da];exact dm) hu;rw [←g3,XU cf _ _ _ J,Y5 cf au];have H5:=hu _ (Xu _ f _ (List.mem_append_right _ (hk.2 rfl)));rw [cn] at H5;obtain ⟨bQ,_,dr⟩:=CJ S x.2 (ca t p x.1);have dr:=dr ab;have S1:=YB (w:=ca t p x.1) (c:=gj S x.2 (ca t p x.1)-x.2) J (fun c=>S.getD (x.2+c) 0);rw [show x.2+(gj S x.2 (ca t p x.1)-x.2)=gj S x.2 (ca t p x.1) by omega] at S1;have H5:u x.1=_:=H5;rw [H5,S1]
  ·rename_i he;have he: ¬1<e:=he;have:=ak.one;obtain rfl:e=1:=J;rfl
structure s0 (t:aJ)(p:Int)(e:Nat)(C:List (Int×Int)):Prop where
 eY:(C.map Prod.fst).Nodup
 Aj: ∀y∈C,∃x∈mi t p,x.1=y.1∧e≤x.2
 all: ∀x∈mi t p,e≤x.2→x.1∈C.map Prod.fst
 T0: ∀y∈C,0≤y.2∧y.2.toNat<ca t p y.1
theorem s0.top {t:aJ}(af:Valid t)(p:Int):s0 t p (bW t p).length []:=
 ⟨List.nodup_nil,fun y a1=>by simp at a1,fun x al h=>by
  obtain ⟨U,ab,_⟩:=(hz.lY af p t.length (bN _)).fst x al;have an:x.1∈b9 t p:=(me af).2 (((hz.lY af p t.length (bN _)).keys x.1).1 (cS.2 ⟨x,al,rfl⟩));obtain ⟨j,ae,az⟩:=(me af).1 an;have hw:=qY af ae az;unfold fX at az;rw [er] at az;have:=(af.Iq ae az.1).2.2;have e:(bW t p).length=(de t p t.length).cx.length:=rfl;omega,fun y a1=>by simp at a1⟩
theorem bP.new {t:aJ}(af:Valid t){p:Int}{e:Nat}{x:Int×Nat}{b:Nat}(h:bP t p e x b){C:List (Int×Int)}(eh:s0 t p e C):x.1∉C.map Prod.fst:=by intro hm;obtain ⟨y,a1,Ag⟩:=cS.1 hm;obtain ⟨z,bB,nf,aru⟩:=eh.Aj y a1;have:=F9 (hz.lY af p t.length (bN _)).eY bB h.mem (by rw [nf,Ag]);subst this;have:=h.fin;have:=h.lp;omega
theorem bP.Re {t:aJ}(af:Valid t){p:Int}{e:Nat}{x:Int×Nat}{b c:Nat}(h:bP t p e x b){C:List (Int×Int)}(eh:s0 t p e C)(av:c<ca t p x.1):s0 t p x.2 (C++[(x.1,(c:Int))]):=by
 have U:=h.fin;have ab:=h.lp;refine ⟨?_,fun y a1=> ?_,fun z bB hle=> ?_,fun y a1=> ?_⟩
 ·rw [hb,List.nodup_append];refine ⟨eh.eY,b1,fun a aW b' ez gE=> ?_⟩;have:b'=x.1:=by simpa using ez
  rw [gE,this] at aW;exact h.new af eh aW
 ·rcases gM.1 a1 with q|q
  ·obtain ⟨z,nj,z2,z3⟩:=eh.Aj y q;exact ⟨z,nj,z2,J⟩
  ·rw [hk.1 q];exact ⟨x,h.mem,I,bN _⟩
 ·rw [hb,gM];by_cases he:e≤z.2
  ·exact .inl (eh.all z bB he)
  ·right
   --a set that begins in the block of x is x itself
   obtain ⟨nj,z2,b',dS,eP,nD⟩:=(hz.lY af p t.length (bN _)).fst z bB;have agF:z.1∈b9 t p:=(me af).2 (((hz.lY af p t.length (bN _)).keys z.1).1 (cS.2 ⟨z,bB,rfl⟩));obtain ⟨j,ae,az⟩:=(me af).1 agF;have hw:=qY af ae az;unfold fX at az;rw [er] at az;have MM:=(af.Iq ae az.1).2.2;have aE:(bW t p).getD z.2 c5=⟨z.1,((0:Nat):Int),b'⟩:=nD 0 J;have aF:=h.cx (z.2-x.2) J;rw [show x.2+(z.2-x.2)=z.2 by omega,aE] at aF;have:=congrArg ff.info aF;have:z.1=x.1:=this;simp [this]
 ·rcases gM.1 a1 with q|q
  ·exact eh.T0 y q
  ·rw [hk.1 q];exact ⟨DW _,by rw [cn];exact av⟩
theorem Vb {t:aJ}(af:Valid t){p:Int}: ∀(f e:Nat) (S:List Rat) (C:List (Int×Int)),q8 t p e→e≤f+1→s0 t p e C→s0 t p 1 (pr (bW t p) f (e,S,C)).2.2
 |0,e,S,C,ak,aR,eh=>by have:=ak.one;obtain rfl:e=1:=J;exact eh
 |f+1,e,S,C,ak,aR,eh=>by
  rw [pr];split
  ·rename_i he;have he:1<e:=he;obtain ⟨x,b,cf⟩:=ak.rk af he;have U:=cf.fin;have ab:=cf.lp;rw [cf.step S C];obtain ⟨bQ,_,dr⟩:=CJ S x.2 (ca t p x.1);have dr:=dr ab;exact Vb af f x.2 _ _ cf.wj J (cf.Re af eh J)
  ·rename_i he;have he: ¬1<e:=he;have:=ak.one;obtain rfl:e=1:=J;exact eh
def jj (t:aJ)(p:Int)(o:dd):Ba:=pr (bW t p) (bW t p).length ((bW t p).length,sW t p o,[])
def Dz (C:List (Int×Int))(x:Int):Option Int:=(C.find? (fun y=>decide (y.1=x))).map Prod.snd
theorem WC {C:List (Int×Int)}(aG:(C.map Prod.fst).Nodup){y:Int×Int}(a1:y∈C):Dz C y.1=some y.2:=by
 unfold Dz;induction C with
 |nil=>simp at a1
 |cons a r a6=>
  rw [k9,xU] at aG;rw [List.find?_cons];rcases gb.1 a1 with e|q
  ·subst e;simp
  ·have: ¬a.1=y.1:=fun e=>aG.1 (cS.2 ⟨y,q,e.symm⟩);rw [fP this];exact a6 aG.2 q
def qg (t:aJ)(p:Int)(o:dd)(x:Int):List Rat:=hG (ca t p x) ((Dz (jj t p o).2.2 x).getD 0).toNat
theorem Vc {t:aJ}(af:Valid t)(p:Int)(o:dd):s0 t p 1 (jj t p o).2.2:=
 Vb af _ _ _ _ (q8.top af p) J (s0.top af p)
theorem Jr {t:aJ}(af:Valid t){p:Int}(o:dd){x:Int}(al:x∈b9 t p): ∃c:Nat,Dz (jj t p o).2.2 x=some (c:Int)∧c<ca t p x∧(x,(c:Int))∈(jj t p o).2.2:=by
 have eh:=Vc af p o;obtain ⟨j,ae,az⟩:=(me af).1 al;have h:=hz.lY af p t.length (bN _);obtain ⟨z,bB,Ib⟩:=cS.1 ((h.keys x).2 ⟨j,ae,az⟩);have hm:=eh.all z bB (h.fst z bB).1;obtain ⟨y,a1,Ag⟩:=cS.1 hm;have Ag:y.1=x:=by rw [Ag,Ib]
 have au:=WC eh.eY a1;obtain ⟨iA,iB⟩:=eh.T0 y a1;obtain ⟨c,av⟩:=oW iA;rw [Ag,av] at au;rw [av,cn,Ag] at iB;refine ⟨c,au,iB,?_⟩;have:y=(x,(c:Int)):=by rw [←Ag,←av]
 rwa [←this]
theorem yE {w c:Nat}(av:c<w):(hG w c).length=w∧ec 0 (hG w c)=1∧(∀q∈hG w c,0≤q∧D 1 q):=by
 have au:(hG w c).length=w:=by unfold hG;rw [da,fc]
 refine ⟨au,?_,fun q aA=> ?_⟩
 ·have U:=YB av (fun _=>1);rw [e7 (g:=fun j=>(hG w c).getD j 0) (fun j _=>zw _),JK _ _ (by rw [au];exact bN _),kd (by rw [au];exact bN _)] at U;exact U
 ·unfold hG at aA;rcases xL aA with h|h
  ·rw [(zm.1 h).2];exact ⟨td,aT,aT⟩
  ·rw [h];exact ⟨by decide+kernel,aT,aT⟩
theorem aaJ {t:aJ}(af:Valid t)(p:Int)(o:dd):oL t p (qg t p o):=by
 have key: ∀x∈b9 t p,∃c,c<ca t p x∧qg t p o x=hG (ca t p x) c:=fun x al=>by obtain ⟨c,U,ab,_⟩:=Jr af o al;refine ⟨c,ab,?_⟩;unfold qg;rw [U];rfl
 refine ⟨fun x al=> ?_,fun x al=> ?_,fun x al=> ?_⟩<;>obtain ⟨c,cJ,dD⟩:=key x al<;>obtain ⟨f1,f2,f3⟩:=yE cJ<;>rw [dD]
 ·exact f1
 ·exact f2
 ·exact fun q aA=>(f3 q aA).1
theorem Y6 {P S:List Rat}(h:P.getD 0 0=1):nY P S 1=S.getD 0 0:=by show (0:Rat)+P.getD 0 0*S.getD 0 0=_;rw [h,kI,pN]
theorem OX (t:aJ)(p:Int)(o:dd):(sW t p o).length=(bW t p).length:=by unfold sW;rw [OY,fc]
theorem VU {t:aJ}(af:Valid t){p:Int}(aD:fC t p=true){u:Int→List Rat}(hu:oL t p u){o:dd}(ai: ∀i,i<t.length→own p (t.getD i aN)=true→o i=none):
 (if p=1 then-(eo t (mj t p u o)) else eo t (mj t p u o))≤(jj t p o).2.1.getD 0 0:=by
 rw [←Vx af aD u ai];have:=(YQ af hu (bW t p).length (bW t p).length (sW t p o) [] (q8.top af p) J (OX t p o)).2.2
 rwa [Y6 (yQ af p u)] at this
theorem VT {t:aJ}(af:Valid t){p:Int}(aD:fC t p=true){o:dd}(ai: ∀i,i<t.length→own p (t.getD i aN)=true→o i=none):
 (if p=1 then-(eo t (mj t p (qg t p o) o)) else eo t (mj t p (qg t p o) o))=(jj t p o).2.1.getD 0 0:=by
 rw [←Vx af aD (qg t p o) ai];have eh:=Vc af p o;have:=YP af (u:=qg t p o) (bW t p).length (bW t p).length (sW t p o) [] (q8.top af p) J (OX t p o) (fun y a1=>by
  show hG _ ((Dz (jj t p o).2.2 y.1).getD 0).toNat=_;rw [WC eh.eY a1];rfl)
 rwa [Y6 (yQ af p _)] at this
end Go.aj.cQ
namespace Go.aj.cQ
open Go.aj.dh Go.aj.ka
theorem Wa {α:Type}(p:α→Bool): ∀l:List α,l.any p=true→iz p l=(l.findIdx p:Nat)
 |[],h=>by simp at h
 |x::r,h=>by
  rw [iz,List.findIdx_cons];cases al:p x
  ·have ad:r.any p=true:=by simpa [al] using h
   rw [Wa p r ad];simp only [oN,sd,hA];rw [aw J];omega
  ·rfl
theorem apd {α:Type}(p:α→Bool)(l:List α)(h:l.any p=false):iz p l= -1:=by have:=Da p l;rw [h,GS] at this;exact X0 p l J
def lN (t:aJ)(p:Int)(k:Nat):List Int:=((List.range k).map (fun i:Nat=>(i:Int))).filter (fun i=>t.any (fX p i))
def rV (t:aJ)(p:Int)(k:Nat):List Int:=(lN t p k).map (fun i=>((ca t p i:Nat):Int))
theorem Vj (t:aJ)(p:Int)(k:Nat):lN t p (k+1)=if t.any (fX p (k:Int))=true then lN t p k++[(k:Int)] else lN t p k:=by
 unfold lN;rw [ti,hb,List.filter_append];split
 ·rename_i h;simp [h]
 ·rename_i h;simp [h]
theorem ana (t:aJ)(p:Int)(k:Nat):rV t p (k+1)=if t.any (fX p (k:Int))=true then rV t p k++[((ca t p (k:Int):Nat):Int)] else rV t p k:=by
 unfold rV;rw [Vj];split
 ·simp
 ·rfl
theorem anQ (t:aJ)(p:Int)(k:Nat):(lN t p k).length≤k:=by unfold lN;refine dU (tf _ _) b1
theorem V0 (t:aJ)(p:Int)(k:Nat):(rV t p k).length=(lN t p k).length:=by unfold rV;simp
theorem anP (t:aJ)(p:Int):lN t p 10=b9 t p:=rfl
theorem aoa (t:aJ)(p:Int):rV t p 10=j3 t p:=rfl
theorem anG {t:aJ}{p i:Int}(h:t.any (fX p i)=true):Kl t p i<t.length:=by obtain ⟨x,al,ab⟩:=sg.1 h;exact List.findIdx_lt_length_of_exists ⟨x,al,ab⟩
end Go.aj.cQ
namespace Go.aj.cQ
open Go.aj.dh
def np (o:Option (List Rat))(q:Option Rat)(k:Nat):Option Rat:=some (KK o (q.getD 0) k)
def qd (t:aJ)(o:dd):Nat→List (Option Rat)
 |0=>(List.replicate t.length none).set 0 (some 1)
 |i+1=>dN (np (o i) ((qd t o i).getD i none)) (t.getD i aN).next 0 (qd t o i)
theorem CG (t:aJ)(o:dd): ∀i,(qd t o i).length=t.length
 |0=>by simp [qd]
 |i+1=>by rw [qd,xk,CG t o i]
theorem Valid.known {t:aJ}(h:Valid t){i:Nat}(aa:i<t.length):i=0∨ ∃a,a<i∧kN t a i:=by
 by_cases aM:i=0
 ·exact .inl aM
 ·obtain ⟨a,aW,an⟩:=h.has aa aM;exact .inr ⟨a,(h.uY aW an).1,an⟩
theorem Ox {t:aJ}(h:Valid t)(o:dd): ∀i,i≤t.length→ ∀j,j<t.length→(j=0∨ ∃a,a<i∧kN t a j)→(qd t o i).getD j none=some ((cA t o).getD j 0)
 |0,_,j,ae,an=>by
  rcases an with rfl|⟨a,aW,_⟩
  ·rw [CH h,qd,Go.aj.dR.fQ,aB ⟨rfl,by simpa using ae⟩]
  ·omega
 |i+1,aa,j,ae,an=>by
  have aQ:i<t.length:=J;have a6:=Ox h o i J;rw [qd];by_cases Me:kN t i j
  ·obtain ⟨m,hm,rfl⟩:=Gk h aQ Me;rw [Qk _ _ _ _ _ _ hm (h.Ik aQ) (fun c av=>by rw [CG];have:=h.behind aQ c av;omega),cR,CT h o aQ hm];unfold np;rw [a6 i aQ (h.known aQ)];rfl
  ·have ch: ∀c∈(t.getD i aN).next,c.toNat≠j:=fun c av e=>by have:=h.behind aQ c av;apply Me;show (j:Int)∈_;rw [←e,Int.toNat_of_nonneg J];exact av
   rw [tP _ _ _ _ _ ch];refine a6 j ae ?_;rcases an with rfl|⟨a,aW,BN⟩
   ·exact .inl I
   ·refine .inr ⟨a,?_,BN⟩;have:a≠i:=fun e=>Me (e▸BN);omega
theorem anf {t:aJ}(h:Valid t)(o:dd):qd t o t.length=(cA t o).map some:=by
 have au:(cA t o).length=t.length:=Az t o _;apply kc
 ·rw [CG,cW,au]
 ·intro j U ab;rw [CG] at U;have:=Ox h o t.length (bN _) j U (by
   rcases h.known U with e|⟨a,aW,an⟩
   ·exact .inl e
   ·exact .inr ⟨a,J,an⟩)
  rw [kH];rw [wh,n8 (by rw [CG];exact U),wh,n8 J] at this;exact this
end Go.aj.cQ
namespace Go.aj.cQ
open Go.aj.dh Go.aj.ka
structure hW where
 info:Int
 c3:List dP
 deriving DecidableEq
def gD:hW:=⟨0,[]⟩
abbrev df:=List hW
def po (bU Z:List Int):Nat→df→Int
 |_,[]=>0
 |k,c::r=>if c.info≠bU.getD k 0∨((c.c3.length:Nat):Int)≠Z.getD k 0 then 3 else if iI c.c3≠0 then iI c.c3 else po bU Z (k+1) r
def ht (t:aJ)(p:Int)(s:df):Int:=if s.length≠(b9 t p).length then 3 else po (b9 t p) (j3 t p) 0 s
theorem anc {bU Z:List Int}{s:df}{k:Nat}(an:k<s.length):po bU Z k (s.drop k)=if (s.getD k gD).info≠bU.getD k 0∨(((s.getD k gD).c3.length:Nat):Int)≠Z.getD k 0 then 3 else if iI (s.getD k gD).c3≠0 then iI (s.getD k gD).c3 else po bU Z (k+1) (s.drop (k+1)):=by rw [GO an,←eA gD an,po]
theorem Vu {bU Z:List Int}: ∀{s:df} {k:Nat},po bU Z k s=0→ ∀j,j<s.length→(s.getD j gD).info=bU.getD (k+j) 0∧(((s.getD j gD).c3.length:Nat):Int)=Z.getD (k+j) 0∧iI (s.getD j gD).c3=0
 |[],k,h,j,ae=>absurd ae (gh _)
 |c::r,k,h,j,ae=>by
  rw [po] at h;split at h
  ·cases h
  rename_i U;simp only [not_or,hL] at U;split at h
  ·rename_i ab;exact absurd h ab
  rename_i ab;cases j with
  |zero=>exact ⟨U.1,U.2,hL.1 ab⟩
  |succ j=>
   have:=Vu h j (by simpa using ae);rw [show k+(j+1)=k+1+j by omega];exact this
structure Bc (t:aJ)(p:Int)(s:df):Prop where
 infos:s.map hW.info=b9 t p
 wid: ∀j,j<s.length→(s.getD j gD).c3.length=ca t p (s.getD j gD).info
 c3: ∀c∈s,iI c.c3=0
theorem aoc {t:aJ}{p:Int}{s:df}(h:ht t p s=0):Bc t p s:=by
 unfold ht at h;split at h
 ·cases h
 rename_i U;have U:=hL.1 U;have ab:=Vu h;have aE: ∀j,j<s.length→(s.getD j gD).info=(b9 t p).getD j 0:=fun j ae=>by have:=(ab j ae).1;rwa [cR] at this
 refine ⟨?_,fun j ae=> ?_,fun c av=> ?_⟩
 ·apply kc (by rw [cW];exact U);intro j afb lC;have ae:j<s.length:=by simpa using afb
  have:=aE j ae;rw [eA gD ae,eA 0 lC] at this;rw [kH];exact this
 ·have:=(ab j ae).2.1;rw [cR] at this;have lC:j<(b9 t p).length:=J;unfold j3 at this;rw [nk _ _ 0 _ _ lC,←aE j ae] at this;omega
 ·obtain ⟨j,ae,rfl⟩:=kE av;have:=(ab j ae).2.2
  rwa [eA gD ae] at this
theorem Yw: ∀(dp:List Rat) (acc:Rat),(mn acc dp).2=0→(mn acc dp).1=ec acc dp
 |[],acc,_=>rfl
 |q::r,acc,h=>by
  rw [mn] at h⊢;rw [ec];split at h
  ·rename_i aR;rw [aB aR];exact Yw r _ h
  ·cases h
theorem CP {l:List dP}(h:iI l=0):l.length≤256∧(∀s∈l,hI s=0)∧ec 0 (l.map dk)=1∧ ∀q∈l.map dk,0≤q∧D 2000 q:=by
 unfold iI at h;split at h
 case isFalse U=>exact absurd h U
 rename_i U;split at h
 case isFalse=>cases h
 rename_i ab;unfold wX at U;split at U
 ·cases U
 rename_i ay;have bc:l.any iL=false:=by
  cases ak:l.any iL
  ·rfl
  ·exact absurd ⟨U,ak⟩ ay
 unfold nv at U ab;split at U
 ·cases U
 rename_i bI;split at U
 case isFalse db=>exact absurd U db
 rename_i db;rw [aw bI,aB db] at ab;have fh:=FN db;refine ⟨J,fh,?_,fun q aA=> ?_⟩
 ·have:=Yw _ _ U;rw [this] at ab;unfold um at ab;split at ab
  ·cases ab
  ·split at ab
   ·rename_i e;exact e
   ·cases ab
 ·obtain ⟨s,az,rfl⟩:=cS.1 aA;have aG:=(JC (fh s az)).1 (by rw [uB] at bc;simpa using bc s az);refine ⟨aG,?_⟩;have aR:=(hy.self (fh s az)).fit;unfold eB at aR;rw [er,e8,e8] at aR;exact abG aR.1 aR.2
def h8 (s:df)(x:Int):List Rat:=((s.find? (fun c=>decide (c.info=x))).map (fun c=>c.c3.map dk)).getD []
theorem Pw {s:df}(aG:(s.map hW.info).Nodup){c:hW}(av:c∈s):h8 s c.info=c.c3.map dk:=by
 unfold h8;induction s with
 |nil=>simp at av
 |cons a r a6=>
  rw [k9,xU] at aG;rw [List.find?_cons];rcases gb.1 av with e|q
  ·subst e;simp
  ·have: ¬a.info=c.info:=fun e=>aG.1 (cS.2 ⟨c,q,e.symm⟩);rw [fP this];exact a6 aG.2 q
theorem Bc.at' {t:aJ}{p:Int}{s:df}(h:Bc t p s){x:Int}(al:x∈b9 t p): ∃c∈s,c.info=x∧h8 s x=c.c3.map dk∧c.c3.length=ca t p x∧iI c.c3=0:=by
 have aG:(s.map hW.info).Nodup:=by rw [h.infos];exact Cy t p
 rw [←h.infos] at al;obtain ⟨c,av,rfl⟩:=cS.1 al;obtain ⟨j,ae,e⟩:=kE av;have hw:=h.wid j ae;rw [eA gD ae,e] at hw;exact ⟨c,av,I,Pw aG av,hw,h.c3 c av⟩
theorem Bc.akz {t:aJ}{p:Int}{s:df}(h:Bc t p s):mT t p (h8 s) 2000:=by
 refine ⟨fun x al=> ?_,fun x al=> ?_,fun x al=> ?_,fun x al=> ?_⟩<;>obtain ⟨c,cJ,dD,eg,lZ,nE⟩:=h.at' al<;>obtain ⟨o1,o2,rG,tI⟩:=CP nE<;>rw [eg]
 ·rw [cW];exact lZ
 ·exact rG
 ·exact fun q aA=>(tI q aA).1
 ·exact fun q aA=>(tI q aA).2
end Go.aj.cQ
namespace Go.aj
variable [bx]
open Go.RowKit
def KT (all:Array Oper)(idx:List Nat):Nat→Nat→Nat→Bool
 |0,_,_=>false
 |n+1,j,i=>match all[j]? with
  |some o=>o.after.toList.any (fun e=>Region.binds .any e && Nat.beq e.on i)||o.after.toList.any (fun e=>Region.binds .any e && (idx.contains e.on && KT all idx n e.on i))
  |none=>false
theorem V8 {cur:Array Bool}{i:Nat}(h:cur.getD i false=true):cur.getD i true=true:=by
 have bY:= ‹bx›;unfold Array.getD at h⊢;split at h
 ·rename_i q;rw [dif_pos q];exact h
 ·cases h
theorem UX {all:Array Oper}{idx:List Nat}{cur:Array Bool}(hC: ∀l8∈idx,cur.getD l8 true=true→ ∀o,all[l8]? =some o→ ∀e∈o.after,Region.binds .any e=true→cur.getD e.on false=true):
 ∀(n j i:Nat),KT all idx n j i=true→(∀o,all[j]? =some o→ ∀e∈o.after,Region.binds .any e=true→cur.getD e.on false=true)→cur.getD i true=true
 |0,_,_,h,_=>by cases h
 |n+1,j,i,h,hd=>by
  have bY:= ‹bx›;rw [KT] at h;split at h
  ·rename_i o ai;rw [wb] at h;rcases h with h|h
   ·obtain ⟨e,Et,ki⟩:=sg.1 h;rw [er] at ki;have ay:=hd o ai e (Bk.1 Et) ki.1;rw [pO ki.2] at ay;exact V8 ay
   ·obtain ⟨e,Et,ki⟩:=sg.1 h;simp only [er] at ki;have ay:=V8 (hd o ai e (Bk.1 Et) ki.1);have hm:e.on∈idx:=by simpa using ki.2.1
    exact UX hC n e.on i ki.2.2 (hC e.on hm ay)
  ·cases h
theorem Yp {cur:Array Bool}{i j:Nat}(h:cur.getD j false=true):(cur.setIfInBounds i true).getD j false=true:=by
 have bY:= ‹bx›;simp only [zz,Bg] at h⊢;split
 ·split
  ·rfl
  ·rename_i U ab;subst U;rw [Array.getElem?_eq_none J] at h;cases h
 ·exact h
theorem amb {all:Array Oper}{idx:List Nat}{cur:Array Bool}{i:Nat}(aqd:i∈idx)(hC: ∀l8∈idx,cur.getD l8 true=true→ ∀o,all[l8]? =some o→ ∀e∈o.after,Region.binds .any e=true→cur.getD e.on false=true)(hd: ∀o,all[i]? =some o→ ∀e∈o.after,Region.binds .any e=true→cur.getD e.on false=true):
 ∀l8∈idx,(cur.setIfInBounds i true).getD l8 true=true→ ∀o,all[l8]? =some o→ ∀e∈o.after,Region.binds .any e=true→(cur.setIfInBounds i true).getD e.on false=true:=by
 have bY:= ‹bx›;intro l8 x7 hu o ai e he ak;by_cases h:l8=i
 ·subst h;exact Yp (hd o ai e he ak)
 ·refine Yp (hC l8 x7 ?_ o ai e he ak);have aS: ¬i=l8:=fun q=>h q.symm;simpa [zz,Bg,aS] using hu
section
variable {P:Program}{fn:Func}{c:Ctx}{fr:Fr}{H:aY}{k:List eO}
theorem U1 {ind:Bool}{d:Option Nat}{ty:TypeId}{pos:String}{after:Array Edge}{g:Option (Nat×Bool)}{x:Operand}:bZ ind P fn c fr H ⟨d,.assign x,ty,pos,after,g⟩ .any:=
 fun _ a _ _ _=>⟨a.eval x,.any _ _,fun _ _=>rfl⟩
end
end Go.aj
namespace Go.aj
open Go
variable [bx]
theorem UF {P:Program}(w:World){t e:TypeId}(a:Option Addr)(n c:Nat)(h:P.underlying t=some (.slice e)):(binOp .neq t (.slice a n c) (.slice none 0 0)).run P w= .ok (.bool (!a.isNone)) w:=by
 have bY:= ‹bx›;have U: ∀d:Nat,(Op.equalIn (d+1) t (.slice a n c) (.slice none 0 0)).run P w= .ok a.isNone w:=fun d=>by
  cases a with
  |none=>simp [Op.equalIn,run_underlying h]
  |some a=>simp [Op.equalIn,run_underlying h]
 simp only [binOp];simp [Op.equal,Op.maxDepth,U 9999]
section
variable {P:Program}{fn:Func}{c:Ctx}{fr:Fr}{H:aY}{k:List eO}{ind:Bool}{d:Option Nat}{ty:TypeId}{pos:String}{after:Array Edge}{g:Option (Nat×Bool)}
theorem amX {x y:Operand}{t cC e:TypeId}(bu:P.underlying t=some (.slice e))(al:bH fr x=some .nil)(a1:bH fr y=some .nil):bZ ind P fn c fr H ⟨d,.binOp .neq t x y cC,ty,pos,after,g⟩ (.bool false):=by intro w a σ S ad;have U:=ad.ek al;have ab:=ad.ek a1;generalize bB:a.eval x=z at U;generalize nf:a.eval y=QB at ab;cases U;cases ab;refine ⟨_,.bool _ _,fun w' _=> ?_⟩;have ak:=UF (P:=P) w' none 0 0 bu;simp only [execOp,bB,nf,Sem.run_bind,IK,Result.andThen_ok,ak];rfl
theorem aiV {x y:Operand}{t cC e:TypeId}{eb:Cells}{i n:Nat}(bu:P.underlying t=some (.slice e))(al:bH fr x=some (.ro eb i n))(a1:bH fr y=some .nil)(aG:0<n):bZ ind P fn c fr H ⟨d,.binOp .neq t x y cC,ty,pos,after,g⟩ (.bool true):=by
 intro w a σ S ad;have U:=ad.ek al;have ab:=ad.ek a1;generalize bB:a.eval x=z at U;generalize nf:a.eval y=QB at ab;cases ab;cases U with
 |ko _ _ _ jD cap=>exact absurd aG (oQ _)
 |ro _ _ _ _ b o cap val dm hlen av af gF=>
  refine ⟨_,.bool _ _,fun w' _=> ?_⟩;have ak:=UF (P:=P) w' (some ⟨b,o,none⟩) n cap bu;simp only [execOp,bB,nf,Sem.run_bind,IK,Result.andThen_ok,ak];rfl
end
end Go.aj
namespace Go.aj
variable [bx]
open Go.RowKit
def D5 (P:Program)(e:TypeId)(L M:List ao):List Nat→Option Bool
 |[]=>some true
 |i::is=>match D5 P e L M is,L[i]?,M[i]? with
  |some r,some x,some y=>(Nn P e x y).map (· && r)
  |_,_,_=>none
theorem Ym {P:Program}{w w':World}{S:Nat→Prop}{σ:Nat→Option bP}{L M:List ao}{xs w5:Array Value}{d:Nat}{e:TypeId}(U:xs.size=L.length)(ab: ∀i,i<L.length→bz w S σ (L.getD i .any) (xs.getD i undef))(ay:w5.size=M.length)(bc: ∀i,i<M.length→bz w S σ (M.getD i .any) (w5.getD i undef)):
 ∀(is:List Nat) (b:Bool),D5 P e L M is=some b→(Op.eqItems (d+1) e 1 xs w5 is).run P w'= .ok b w'
 |[],b,h=>by simp [D5] at h;subst h;simp [Op.eqItems]
 |i::is,b,h=>by
  simp only [D5] at h;split at h
  ·rename_i r x y ad cB ho;have a6:=Ym (d:=d) (w':=w') U ab ay bc is r ad;obtain ⟨v1,aE,iA⟩:=ZK U ab cB;obtain ⟨v2,aF,iB⟩:=ZK ay bc ho;obtain ⟨q,aA,ak⟩:=GU.1 h;obtain ⟨aD,eR⟩:=apK (w':=w') aA iA iB d;simp only [Op.eqItems,rf];simp only [Sem.run_bind,run_part_plain w' aD aE,Result.andThen_ok,run_part_plain w' aD aF,eR];subst ak;cases q with
   |false=>simp
   |true=>simpa using a6
  ·cases h
section
variable {P:Program}{fn:Func}{c:Ctx}{fr:Fr}{H:aY}{k:List eO}{ind:Bool}{d:Option Nat}{ty:TypeId}{pos:String}{after:Array Edge}{g:Option (Nat×Bool)}
theorem aiQ {x y:Operand}{t cC e:TypeId}{n:Nat}{inf:TypeInfo}{L M:List ao}{b:Bool}(al:bH fr x=some (.agg L))(a1:bH fr y=some (.agg M))(bu:P.underlying t=some (.array n e))(aa:P.info? e=some inf)(av:P.cellsOf e=1)(c9:P.eqGuardType P.depth t=false)(he:D5 P e L M (List.range n)=some b):bZ ind P fn c fr H ⟨d,.binOp .neq t x y cC,ty,pos,after,g⟩ (.bool (!b)):=by
 intro w a σ S ad;have U:=ad.ek al;have ab:=ad.ek a1;generalize bB:a.eval x=z at U;generalize nf:a.eval y=QB at ab;cases U with
 |agg _ _ xs gy a2 a3=>
  cases ab with
  |agg _ _ w5 dS eP nD=>
   refine ⟨_,.bool _ _,fun w' _=> ?_⟩;have ad:=Ym (d:=9998) (w':=w') gy a2 dS eP _ b he;simp only [execOp,bB,nf,Sem.run_bind,run_eqGuard_agg w' _ _ _ _ _ _ c9,Result.andThen_ok,run_neq_struct,show (10000:Nat)=9999+1 from rfl,run_equalIn_array w' 9999 _ _ bu aa,av,ad];rfl
end
end Go.aj
namespace Go.aj.cQ
open Go.aj.dh
theorem KN {q:Rat}{M:Nat}(h:q≤(M:Rat)):q.num≤M*q.den:=by have ab:=zx.2 h;rw [Rat.lt_iff] at ab;rw [Rat.num_natCast,Rat.den_natCast] at ab;have: ¬((M:Int)*(q.den:Int)<q.num*1):=ab;omega
theorem TB {q:Rat}{M:Nat}(h:q.num≤M*q.den):q≤(M:Rat):=by refine zx.1 (fun ab=> ?_);rw [Rat.lt_iff,Rat.num_natCast,Rat.den_natCast] at ab;have:(M:Int)*(q.den:Int)<q.num*1:=ab;omega
theorem K0 {k:Nat}{q:Rat}(h:D k q):q≤((10^k:Nat):Rat)∧ -q≤((10^k:Nat):Rat):=by have U:=h.1;have ab:=q.den_pos;generalize 10^k=T at*;have ay:(T:Int)*1≤T*q.den:=Int.mul_le_mul_of_nonneg_left J J;refine ⟨TB J,TB ?_⟩;show-q.num≤(T:Int)*(q.den:Int);omega
theorem Q5 {B K M:Nat}{q:Rat}(h:fT B q)(cf:B≠0)(U:q≤(M:Rat))(ab: -q≤(M:Rat))(ho:M*B<10^K)(dE:B<10^K):D K q:=by have hd:=Bn J (h.den cf);refine ⟨?_,J⟩;have gy:=KN U;have a2:=KN ab;have a2: -q.num≤(M:Int)*(q.den:Int):=a2;have a3:M*q.den≤M*B:=hK _ hd;have a4:((M*q.den:Nat):Int)=(M:Int)*(q.den:Int):=Int.natCast_mul _ _;omega
theorem fT.sum {B:Nat}{l:List Rat}:(∀q∈l,fT B q)→ ∀{acc:Rat},fT B acc→fT B (ec acc l):=by
 induction l with
 |nil=>intro _ acc h;exact h
 |cons a r a6=>intro h acc aW;exact a6 (fun q aA=>h q (by simp [aA])) (aW.add (h a b1))
theorem W9 (f:Nat→Rat)(c:Rat): ∀ks:List Nat,ec 0 (ks.map (fun i=>f i*c))=ec 0 (ks.map f)*c
 |[]=>by rw [th,th,ec,oa]
 |a::r=>by rw [k9,k9,ec,ec,sN,sN (r.map f),W9 f c r,kI,kI,Rat.add_mul]
theorem Qn {f g:Nat→Rat}: ∀{ks:List Nat},(∀i∈ks,f i≤g i)→ec 0 (ks.map f)≤ec 0 (ks.map g)
 |[],_=>td
 |a::r,h=>by rw [k9,k9,ec,ec,sN,sN (r.map g),kI,kI];have U:=(DV (c:=ec 0 (r.map f))).2 (h a b1);have ab:=(zu (c:=g a)).2 (Qn (ks:=r) (fun i aa=>h i (by simp [aa])));exact qv U ab
def yn (t:aJ):Nat:=vL (t.map (fun n=>if n.kind=0 then (dk n.jf).den else 1))
theorem Px (t:aJ):0<yn t:=by
 refine WS (fun x al=> ?_);obtain ⟨n,_,rfl⟩:=cS.1 al;split
 ·exact Rat.den_pos _
 ·exact Nat.one_pos
structure pG (t:aJ)(d:Nat):Prop where
 nF: ∀i,i<t.length→(t.getD i aN).kind=0→D d (dk (t.getD i aN).jf)
theorem Qf {t:aJ}{d:Nat}(h:pG t d):yn t≤10^(d*t.length):=by
 have U:=PC (l:=t.map (fun n=>if n.kind=0 then (dk n.jf).den else 1)) (d:=d) (fun x al=>by
  obtain ⟨n,aG,rfl⟩:=cS.1 al;obtain ⟨i,aa,rfl⟩:=kE aG;split
  ·rename_i ab;have:=h.nF i aa (by rw [eA aN aa];exact ab);rw [eA aN aa] at this;exact ri this.2
  ·exact lX aT)
 rwa [cW] at U
theorem X9 {t:aJ}{i:Nat}(aa:i<t.length)(an:(t.getD i aN).kind=0):(dk (t.getD i aN).jf).den∣yn t:=by refine Ov (cS.2 ⟨t.getD i aN,dv aN aa,?_⟩);rw [aB an]
theorem alj {t:aJ}(h:Valid t){o:dd}{d:Nat}(ai:uw t o d)(aG:t.length≤40):fT (k3 o t.length*yn t) (eo t o):=by refine fT.sum (fun q aA=> ?_) (fT.zero _);obtain ⟨i,aa,rfl⟩:=cS.1 aA;obtain ⟨i1,i2⟩:=pj aa;exact (Zr h ai aG i1).1.mul (fT.Iu.mono (X9 i1 i2))
theorem alk {t:aJ}(h:Valid t){o:dd}{d:Nat}(ai:uw t o d){e:Nat}(aD:pG t e):eo t o≤((10^e:Nat):Rat)∧ -(eo t o)≤((10^e:Nat):Rat):=by
 have az:=acg h ai.toOddsOK;have one:ec 0 ((cH t).map (fun j=>(cA t o).getD j 0*((10^e:Nat):Rat)))=((10^e:Nat):Rat):=by rw [W9,az,pN]
 constructor
 ·rw [←one];refine Qn (fun i aa=> ?_);obtain ⟨i1,i2⟩:=pj aa;exact Bo (K0 (aD.nF i i1 i2)).1 (Oi h ai i i1).2
 ·unfold eo;rw [←PR,←one];refine Qn (fun i aa=> ?_);obtain ⟨i1,i2⟩:=pj aa;unfold iK;rw [←Rat.mul_neg];exact Bo (K0 (aD.nF i i1 i2)).2 (Oi h ai i i1).2
theorem ali {t:aJ}(h:Valid t){o:dd}{d:Nat}(ai:uw t o d)(aG:t.length≤40)(aD:pG t 12){GH GI W:Nat}(cf:k3 o t.length<10^GH)(nG:yn t≤10^GI)(gO:12+(GH+GI)≤W):D W (eo t o):=by
 have aE:k3 o t.length*yn t<10^GH*10^GI:=by refine ha ((Nat.mul_lt_mul_right (Px t)).2 cf) ?_;exact hK _ nG
 rw [←iN] at aE;obtain ⟨v1,v2⟩:=alk h ai aD;have e3:0<k3 o t.length*yn t:=zp (KI o _) (Px t);refine Q5 (alj h ai aG) J v1 v2 ?_ ?_
 ·have:=(Nat.mul_lt_mul_left (a:=10^12) (lX aT)).2 aE;rw [←iN] at this;exact ha this (fN aT gO)
 ·exact ha aE (fN aT J)
theorem FL {t:aJ}(h:Valid t){o:dd}(ai:uw t o 2000)(aG:t.length≤40)(aD:pG t 12):D 80500 (eo t o):=by obtain ⟨_,cf⟩:=Zr h ai aG (show 0<t.length by have:=h.ne;omega);have nG:=Qf aD;refine ali h ai aG aD (GH:=2000*40+1) (GI:=12*t.length) cf nG ?_;omega
def ih (t:aJ):dd:=fun i=>if (t.getD i aN).kind=1 then some ((t.getD i aN).c3.map dk) else none
def hh (t:aJ)(a b:Int→List Rat):dd:=fun i=>
 if (t.getD i aN).kind=1 then some ((t.getD i aN).c3.map dk)
 else if (t.getD i aN).kind=2 then some (if (t.getD i aN).gI=0 then a (t.getD i aN).info else b (t.getD i aN).info) else none
def lS (t:aJ)(p:Int)(u:Int→List Rat):dd:=fun i=>
 if (t.getD i aN).kind=1 then some ((t.getD i aN).c3.map dk)
 else if (t.getD i aN).kind=2 then (if (t.getD i aN).gI=p then none else some (u (t.getD i aN).info)) else none
theorem F0 (t:aJ)(p:Int)(u:Int→List Rat): ∀i,i<t.length→own p (t.getD i aN)=true→lS t p u i=none:=by intro i aa h;unfold own at h;rw [er,e8,e8] at h;unfold lS;rw [aw J,aB h.1,aB h.2]
theorem I9 {t:aJ}{o o':dd}(h: ∀i,i<t.length→o i=o' i): ∀i,i≤t.length→mM t o i=mM t o' i
 |0,_=>rfl
 |i+1,aa=>by rw [mM,mM,I9 h i J,h i J]
theorem Cz {t:aJ}{o o':dd}(h: ∀i,i<t.length→o i=o' i):eo t o=eo t o':=by unfold eo cA;rw [I9 h t.length (bN _)]
theorem At {t:aJ}(af:Valid t){i:Nat}(aa:i<t.length)(an:(t.getD i aN).kind=2):(t.getD i aN).gI=0∨(t.getD i aN).gI=1:=by
 have h:=af.nodes i aa;unfold py at h;rw [aw J,aw J,aB an] at h;split at h
 ·cases h
 split at h
 ·cases h
 rename_i U;omega
theorem sP {p:Int}{n:ev}:own p n=true↔n.kind=2∧n.gI=p:=by unfold own;rw [er,e8,e8]
theorem Lf {t:aJ}(af:Valid t)(a b:Int→List Rat): ∀i,i<t.length→mj t 0 a (lS t 0 b) i=hh t a b i:=by
 intro i aa;unfold mj lS hh;by_cases h:own 0 (t.getD i aN)=true
 ·obtain ⟨U,ab⟩:=sP.1 h;rw [aB h,aw J,aB U,aB ab]
 ·rw [aw h];split
  ·rfl
  split
  ·rename_i U ab;have ay: ¬(t.getD i aN).gI=0:=fun e=>h (sP.2 ⟨ab,e⟩);rw [aw ay,aw ay]
  ·rfl
theorem Q6 {t:aJ}(af:Valid t)(a b:Int→List Rat): ∀i,i<t.length→mj t 1 b (lS t 1 a) i=hh t a b i:=by
 intro i aa;unfold mj lS hh;by_cases h:own 1 (t.getD i aN)=true
 ·obtain ⟨U,ab⟩:=sP.1 h;rw [aB h,aw J,aB U,aw J]
 ·rw [aw h];split
  ·rfl
  split
  ·rename_i U ab;have ay: ¬(t.getD i aN).gI=1:=fun e=>h (sP.2 ⟨ab,e⟩);rw [aw ay,aB (by have:=At af aa ab;omega)]
  ·rfl
structure Modest (t:aJ):Prop where
 len:t.length≤40
 jf: ∀n∈t,n.jf.length≤12
 c3: ∀n∈t,∀r∈n.c3,r.length≤12
theorem JL {t:aJ}(af:Valid t){i:Nat}(aa:i<t.length)(an:(t.getD i aN).kind=0):hI (t.getD i aN).jf=0:=by
 have h:=af.nodes i aa;unfold py at h;rw [aB an] at h;split at h
 ·cases h
 ·exact h
theorem U4 {t:aJ}(af:Valid t){i:Nat}(aa:i<t.length)(an:(t.getD i aN).kind=1):(t.getD i aN).c3.length=(t.getD i aN).next.length∧iI (t.getD i aN).c3=0:=by
 have h:=af.nodes i aa;unfold py at h;rw [aw J,aB an] at h;split at h
 ·cases h
 split at h
 ·rename_i U;exact absurd h U
 split at h
 ·cases h
 ·rename_i U;exact ⟨hL.1 U,h⟩
theorem Modest.rH {t:aJ}(hm:Modest t)(af:Valid t):pG t 12:=
 ⟨fun i aa an=>(hy.self (JL af aa an)).nF (hm.jf _ (dv aN aa)) aT⟩
theorem Modest.G7 {t:aJ}(hm:Modest t)(af:Valid t){i:Nat}(aa:i<t.length)(an:(t.getD i aN).kind=1):((t.getD i aN).c3.map dk).length=(t.getD i aN).next.length∧ec 0 ((t.getD i aN).c3.map dk)=1∧ ∀q∈(t.getD i aN).c3.map dk,0≤q∧D 12 q:=by obtain ⟨U,ab⟩:=U4 af aa an;obtain ⟨o1,o2,rG,tI⟩:=CP ab;refine ⟨by rw [cW];exact U,rG,fun q aA=>⟨(tI q aA).1,?_⟩⟩;obtain ⟨s,az,rfl⟩:=cS.1 aA;exact (hy.self (o2 s az)).nF (hm.c3 _ (dv aN aa) s az) aT
theorem mT.node {t:aJ}(af:Valid t){p:Int}{u:Int→List Rat}{d:Nat}(h:mT t p u d){i:Nat}(aa:i<t.length)(an:(t.getD i aN).kind=2)(aD:(t.getD i aN).gI=p):
 (u (t.getD i aN).info).length=(t.getD i aN).next.length∧ec 0 (u (t.getD i aN).info)=1∧ ∀q∈u (t.getD i aN).info,0≤q∧D d q:=by
 have az:fX p (t.getD i aN).info (t.getD i aN)=true:=by unfold fX;rw [sP.2 ⟨an,aD⟩,eG rfl];rfl
 have al:(t.getD i aN).info∈b9 t p:=(me af).2 ⟨i,aa,az⟩;exact ⟨by rw [h.len _ al,qY af aa az],h.sum _ al,fun q aA=>⟨h.mC _ al q aA,h.nF _ al q aA⟩⟩
theorem C2 {t:aJ}(af:Valid t)(hm:Modest t){a b:Int→List Rat}{d:Nat}(aW:mT t 0 a d)(ak:mT t 1 b d)(hd:12≤d:=by decide):uw t (hh t a b) d:=by
 refine ⟨⟨fun i aa an=> ?_⟩,fun i aa an=> ?_⟩
 ·by_cases U:(t.getD i aN).kind=1
  ·obtain ⟨cJ,dD,eg⟩:=hm.G7 af aa U;refine ⟨_,?_,cJ,dD,fun q aA=>⟨(eg q aA).1,(eg q aA).2.mono hd⟩⟩;unfold hh;rw [aB U]
  ·have ab:(t.getD i aN).kind=2:=by
    rcases af.child aa with h|h
    ·exact absurd h.1 an
    ·omega
   by_cases ay:(t.getD i aN).gI=0
   ·obtain ⟨cJ,dD,eg⟩:=aW.node af aa ab ay;refine ⟨_,?_,cJ,dD,eg⟩;unfold hh;rw [aw U,aB ab,aB ay]
   ·have bc:(t.getD i aN).gI=1:=by have:=At af aa ab;omega
    obtain ⟨cJ,dD,eg⟩:=ak.node af aa ab bc;refine ⟨_,?_,cJ,dD,eg⟩;unfold hh;rw [aw U,aB ab,aw ay]
 ·unfold hh;rw [aw J,aw J]
theorem mT.mix {t:aJ}{p:Int}{u:Int→List Rat}{d:Nat}(h:mT t p u d):oL t p u:=⟨h.len,h.sum,h.mC⟩
theorem Fq {t:aJ}(af:Valid t)(p:Int)(o:dd):mT t p (qg t p o) 12:=by
 have hm:=aaJ af p o;refine ⟨hm.len,hm.sum,hm.mC,fun x al q aA=> ?_⟩;obtain ⟨c,U,ab,_⟩:=Jr af o al;have e:qg t p o x=hG (ca t p x) c:=by unfold qg;rw [U];rfl
 rw [e] at aA;exact ((yE ab).2.2 q aA).2.mono aT
theorem mT.mono {t:aJ}{p:Int}{u:Int→List Rat}{d e:Nat}(h:mT t p u d)(he:d≤e):mT t p u e:=⟨h.len,h.sum,h.mC,fun x al q aA=>(h.nF x al q aA).mono he⟩
def mN (t:aJ)(p:Int)(u:Int→List Rat):Rat:=(jj t p (lS t p u)).2.1.getD 0 0
theorem GZ {t:aJ}(af:Valid t)(aD:fC t 0=true)(b:Int→List Rat):mN t 0 b=eo t (hh t (qg t 0 (lS t 0 b)) b):=by have h:=VT af aD (F0 t 0 b);rw [aw aT,Cz (Lf af _ b)] at h;exact h.symm
theorem G0 {t:aJ}(af:Valid t)(aD:fC t 1=true)(a:Int→List Rat):mN t 1 a= -(eo t (hh t a (qg t 1 (lS t 1 a)))):=by have h:=VT af aD (F0 t 1 a);rw [aB rfl,Cz (Q6 af a _)] at h;exact h.symm
theorem ahC {t:aJ}(af:Valid t)(aD:fC t 0=true){a:Int→List Rat}(aW:oL t 0 a)(b:Int→List Rat):eo t (hh t a b)≤mN t 0 b:=by have h:=VU af aD aW (F0 t 0 b);rw [aw aT,Cz (Lf af a b)] at h;exact h
theorem ahD {t:aJ}(af:Valid t)(aD:fC t 1=true)(a:Int→List Rat){b:Int→List Rat}(ak:oL t 1 b): -(eo t (hh t a b))≤mN t 1 a:=by have h:=VU af aD ak (F0 t 1 a);rw [aB rfl,Cz (Q6 af a b)] at h;exact h
theorem OB {t:aJ}(af:Valid t)(hm:Modest t)(aD:fC t 0=true){b:Int→List Rat}(ak:mT t 1 b 2000):D 80500 (mN t 0 b):=by rw [GZ af aD];exact FL af (C2 af hm ((Fq af 0 _).mono aT) ak) hm.len (hm.rH af)
theorem OC {t:aJ}(af:Valid t)(hm:Modest t)(aD:fC t 1=true){a:Int→List Rat}(aW:mT t 0 a 2000):D 80500 (mN t 1 a):=by rw [G0 af aD];exact (FL af (C2 af hm aW ((Fq af 1 _).mono aT)) hm.len (hm.rH af)).neg
theorem anJ {t:aJ}(af:Valid t)(hm:Modest t)(aM:fC t 0=true)(U:fC t 1=true){a b:Int→List Rat}(aW:mT t 0 a 2000)(ak:mT t 1 b 2000):
 D 80500 (eo t (hh t a b))∧D 161001 (mN t 0 b-eo t (hh t a b))∧D 161001 (mN t 1 a+eo t (hh t a b))∧
 D 161001 ((mN t 0 b-eo t (hh t a b))+(mN t 1 a+eo t (hh t a b))):=by have d0:=OB af hm aM ak;have d1:=OC af hm U aW;have od:=FL af (C2 af hm aW ak) hm.len (hm.rH af);generalize eo t (hh t a b)=v at*;generalize mN t 0 b=x at*;generalize mN t 1 a=y at*;refine ⟨od,(d0.sub od).mono aT,(d1.add od).mono aT,?_⟩;rw [show (x-v)+(y+v)=x+y by clear d0 d1 od;grind];exact (d0.add d1).mono aT
structure n4 (t:aJ)(o:dd)(d:Nat):Prop where
 some: ∀i,i<t.length→ ∀l,o i=some l→l.length=(t.getD i aN).next.length∧ ∀q∈l,0≤q∧q≤1∧D d q
theorem Zs {t:aJ}(h:Valid t){o:dd}{d:Nat}(ai:n4 t o d): ∀j,j<t.length→fT (k3 o j) ((cA t o).getD j 0)∧0≤(cA t o).getD j 0∧(cA t o).getD j 0≤1:=by
 intro j;induction j using Nat.strongRecOn with
 |ind j a6=>
  intro ae;by_cases aM:j=0
  ·subst aM;rw [CH h];exact ⟨fT.one _,by decide+kernel,td⟩
  ·obtain ⟨i,aa,an⟩:=h.has ae aM;have bG:=h.uY aa an;obtain ⟨m,hm,he⟩:=Gk h aa an;have ad:=CT h o aa hm;rw [he] at ad;obtain ⟨g1,g2,g3⟩:=a6 i J aa;cases z1:o i with
   |none=>
    rw [z1] at ad;have ad:(cA t o).getD j 0=(cA t o).getD i 0:=ad;rw [ad];have db:=AW o (i:=i) (j-i);rw [show i+(j-i)=j by omega] at db;exact ⟨g1.mono db,g2,g3⟩
   |some l=>
    obtain ⟨fu,u0⟩:=ai.some i aa l z1;rw [z1] at ad;have ad:(cA t o).getD j 0=(cA t o).getD i 0*l.getD m 0:=ad;obtain ⟨bQ,bX,dr⟩:=u0 (l.getD m 0) (dv 0 J);rw [ad];refine ⟨?_,wg g2 bQ,?_⟩
    ·have bI:fT (k3 o (i+1)) ((cA t o).getD i 0*l.getD m 0):=by refine (g1.mul (fT.Iu (q:=l.getD m 0))).mono ?_;show _∣k3 o i*Cd (o i);rw [z1];exact Nat.mul_dvd_mul (Nat.dvd_refl _) (Ov (cS.2 ⟨_,dv 0 J,I⟩))
     have db:=AW o (i:=i+1) (j-(i+1));rw [show i+1+(j-(i+1))=j by omega] at db;exact bI.mono db
    ·have fh:=Bo bX g2;rw [zw] at fh;exact qv fh g3
theorem GF {t:aJ}{o:dd}{d:Nat}(ai:n4 t o d): ∀i,i≤t.length→k3 o i≤10^(d*((t.take i).flatMap ev.next).length)
 |0,_=>by simp [k3]
 |i+1,aa=>by
  have a6:=GF ai i J;have aQ:i<t.length:=J;have aD:Cd (o i)≤10^(d*(t.getD i aN).next.length):=by
   cases z1:o i with
   |none=>exact lX aT
   |some l=>
    obtain ⟨fu,u0⟩:=ai.some i aQ l z1;rw [←fu];have:=PC (l:=l.map Rat.den) (d:=d) (fun x al=>by
     obtain ⟨q,aA,rfl⟩:=cS.1 al;exact ri (u0 q aA).2.2.2)
    rwa [cW] at this
  rw [k3,n9 aQ,List.flatMap_append,di,gS,iN];refine jW a6 ?_;rw [eA aN aQ] at aD;simpa using aD
theorem JI {t:aJ}(h:Valid t){o:dd}{d:Nat}(ai:n4 t o d)(aG:t.length≤40){j:Nat}(ae:j<t.length):D (d*40+1) ((cA t o).getD j 0):=by obtain ⟨g1,g2,g3⟩:=Zs h ai j ae;have db:=AW o (i:=j) (t.length-j);rw [show j+(t.length-j)=t.length by omega] at db;have fh:=GF ai t.length (bN _);rw [fO] at fh;have oZ:=J3 h;have ld:d*(t.flatMap ev.next).length≤d*40:=hK _ J;have Ed:10^(d*(t.flatMap ev.next).length)≤10^(d*40):=fN aT ld;have Hh:0<10^(d*40):=lX aT;have e3:=KI o t.length;refine ala (g1.mono db) J g2 g3 ?_;rw [hY];omega
theorem KD {l:List Rat}(az:ec 0 l=1)(aM: ∀q∈l,0≤q): ∀q∈l,q≤1:=by
 have key: ∀(l:List Rat) (x:Rat),(∀q∈l,0≤q)→x∈l→x≤ec 0 l:=by
  intro l;induction l with
  |nil=>intro x _ al;simp at al
  |cons a r agJ=>
   intro x aA al;rw [ec,sN,kI];have aW:=aA a b1;have ad:=ZH r 0 (fun y a1=>aA y (by simp [a1]));rcases gb.1 al with rfl|al
   ·have:=(zu (c:=x)).2 ad
    rwa [jX] at this
   ·have U:=agJ x (fun q BY=>aA q (by simp [BY])) al;have:=(DV (c:=ec 0 r)).2 aW;rw [kI] at this;exact qv U this
 intro q aA;rw [←az];exact key l q aM aA
theorem uw.w {t:aJ}{o:dd}{d:Nat}(h:uw t o d):n4 t o d:=by
 refine ⟨fun i aa l au=> ?_⟩;by_cases an:(t.getD i aN).kind=0
 ·rw [h.none i aa an] at au;cases au
 ·obtain ⟨gi,U,ab,ay,bc⟩:=h.at' i aa an;rw [au] at U;obtain rfl:=oO U;have:=KD ay (fun q aA=>(bc q aA).1);exact ⟨ab,fun q aA=>⟨(bc q aA).1,this q aA,(bc q aA).2⟩⟩
theorem TH {t:aJ}(af:Valid t)(hm:Modest t){p:Int}{u:Int→List Rat}(aD:p=0∨p=1){d:Nat}(hu:mT t (1-p) u d)(hd:12≤d:=by decide):n4 t (lS t p u) d:=by
 refine ⟨fun i aa l au=> ?_⟩;unfold lS at au;by_cases U:(t.getD i aN).kind=1
 ·rw [aB U] at au;obtain rfl:=oO au;obtain ⟨cJ,dD,eg⟩:=hm.G7 af aa U;have:=KD dD (fun q aA=>(eg q aA).1);exact ⟨cJ,fun q aA=>⟨(eg q aA).1,this q aA,(eg q aA).2.mono hd⟩⟩
 ·rw [aw U] at au;by_cases ab:(t.getD i aN).kind=2
  ·rw [aB ab] at au;by_cases ay:(t.getD i aN).gI=p
   ·rw [aB ay] at au;cases au
   ·rw [aw ay] at au;obtain rfl:=oO au;obtain ⟨cJ,dD,eg⟩:=hu.node af aa ab (by have:=At af aa ab;omega);have:=KD dD (fun q aA=>(eg q aA).1);exact ⟨cJ,fun q aA=>⟨(eg q aA).1,this q aA,(eg q aA).2⟩⟩
  ·rw [aw ab] at au;cases au
theorem TM {t:aJ}(af:Valid t)(hm:Modest t){a b:Int→List Rat}{d:Nat}(aW:mT t 0 a d)(ak:mT t 1 b d)(hd:12≤d:=by decide):n4 t (hh t a b) d:=(C2 af hm aW ak hd).w
def eV (t:aJ)(i:Nat):List Int:=((List.range i).filter (fun j=>decide ((t.getD j aN).kind=0))).map (fun j:Nat=>(j:Int))
theorem Vy (t:aJ)(i:Nat):eV t (i+1)=if (t.getD i aN).kind=0 then eV t i++[(i:Int)] else eV t i:=by
 unfold eV;rw [ti,List.filter_append,hb];by_cases h:(t.getD i aN).kind=0
 ·rw [aB h,List.filter_cons_of_pos (by simpa using h)];rfl
 ·rw [aw h,List.filter_cons_of_neg (by simpa using h)];simp
theorem Jx (t:aJ): ∀i,(eV t i).length≤i
 |0=>bN _
 |i+1=>by
  have:=Jx t i;rw [Vy];split
  ·rw [di];show _+1≤_;omega
  ·omega
theorem Jw (t:aJ):eV t t.length=(cH t).map (fun j:Nat=>(j:Int)):=rfl
theorem OO (t:aJ){k:Nat}(an:k<(cH t).length):(eV t t.length).getD k 0=(((cH t).getD k 0:Nat):Int):=by rw [Jw,nk _ _ 0 _ _ an]
def sY (t:aJ)(o:dd)(k:Nat):Rat:=ec 0 (((cH t).take k).map (iK t (cA t o)))
theorem Xj (t:aJ)(o:dd){k:Nat}(an:k<(cH t).length):sY t o (k+1)=sY t o k+iK t (cA t o) ((cH t).getD k 0):=by unfold sY;rw [n9 an,hb,List.map_singleton,OV,eA 0 an]
theorem ald (t:aJ)(o:dd):sY t o (cH t).length=eo t o:=by unfold sY eo;rw [fO]
structure iM (B M:Nat)(q:Rat):Prop where
 od:fT B q
 le:q≤(M:Rat)
 ge: -q≤(M:Rat)
theorem Jk {M N:Nat}(h:M≤N):(M:Rat)≤(N:Rat):=by
 have U:((M:Int):Rat)≤((N:Int):Rat):=GV.2 J
 rwa [xS,xS] at U
theorem iM.mono {B M N:Nat}{q:Rat}(h:iM B M q)(hm:M≤N):iM B N q:=
 ⟨h.od,qv h.le (Jk hm),qv h.ge (Jk hm)⟩
theorem iM.zero (B M:Nat):iM B M 0:=by have h:(0:Rat)≤(M:Rat):=Jk (cj M);exact ⟨fT.zero B,h,by rw [Rat.neg_zero];exact h⟩
theorem iM.add {B M N:Nat}{a b:Rat}(aW:iM B M a)(ak:iM B N b):iM B (M+N) (a+b):=by
 refine ⟨aW.od.add ak.od,?_,?_⟩
 ·rw [Rat.natCast_add];exact qv ((DV (c:=b)).2 aW.le) ((zu (c:=(M:Rat))).2 ak.le)
 ·rw [Rat.natCast_add,Rat.neg_add];exact qv ((DV (c:= -b)).2 aW.ge) ((zu (c:=(M:Rat))).2 ak.ge)
theorem fT.neg {B:Nat}{q:Rat}(h:fT B q):fT B (-q):=by obtain ⟨z,bB⟩:=h;exact ⟨-z,by rw [Rat.neg_mul,bB,Rat.intCast_neg]⟩
theorem iM.neg {B M:Nat}{q:Rat}(h:iM B M q):iM B M (-q):=⟨h.od.neg,h.ge,by rw [Rat.neg_neg];exact h.le⟩
theorem iM.D {B M K:Nat}{q:Rat}(h:iM B M q)(cf:B≠0)(ho:M*B<10^K)(dE:B<10^K):D K q:=Q5 h.od cf h.le h.ge ho dE
def q5 (t:aJ)(o:dd):Nat:=k3 o t.length*yn t
theorem PO (t:aJ)(o:dd):0<q5 t o:=zp (KI o _) (Px t)
theorem Pl {t:aJ}(h:Valid t){o:dd}{d e:Nat}(ai:n4 t o d)(aD:pG t e){p:Int}{i:Nat}(aa:i<t.length)(an:(t.getD i aN).kind=0):iM (q5 t o) (10^e) (wu t p (cA t o) i):=by
 obtain ⟨g1,g2,g3⟩:=Zs h ai i aa;have db:=AW o (i:=i) (t.length-i);rw [show i+(t.length-i)=t.length by omega] at db;obtain ⟨c4,fv⟩:=K0 (aD.nF i aa an);have key: ∀x:Rat,x≤((10^e:Nat):Rat)→(cA t o).getD i 0*x≤((10^e:Nat):Rat):=by intro x al;have aM:(0:Rat)≤((10^e:Nat):Rat):=Jk (cj _);have U:=Bo al g2;have ab:=Rat.mul_le_mul_of_nonneg_right g3 aM;rw [pN] at ab;exact qv U ab
 have aR:iM (q5 t o) (10^e) (iK t (cA t o) i):=by refine ⟨(g1.mono db).mul (fT.Iu.mono (X9 aa an)),key _ c4,?_⟩;unfold iK;rw [←Rat.mul_neg];exact key _ fv
 unfold wu;split
 ·exact aR.neg
 ·exact aR
def oG (t:aJ)(p:Int)(o:dd)(k:Nat):List Rat:=r2 (wu t p (cA t o)) (hQ t p) ((cH t).take k) (List.replicate (bW t p).length 0)
theorem VP (t:aJ)(p:Int)(o:dd):oG t p o 0=List.replicate (bW t p).length 0:=by unfold oG;rw [List.take_zero];rfl
theorem Xb (t:aJ)(p:Int)(o:dd):oG t p o (cH t).length=sW t p o:=by unfold oG sW;rw [fO]
theorem aoT (t:aJ)(p:Int)(o:dd)(k:Nat):(oG t p o k).length=(bW t p).length:=by unfold oG;rw [OY,fc]
theorem VO (t:aJ)(p:Int)(o:dd){k:Nat}(an:k<(cH t).length):oG t p o (k+1)=(oG t p o k).set ((hQ t p).getD ((cH t).getD k 0) 0).toNat ((oG t p o k).getD ((hQ t p).getD ((cH t).getD k 0) 0).toNat 0+wu t p (cA t o) ((cH t).getD k 0)):=by unfold oG;rw [n9 an,VN,eA 0 an]
theorem Zy {B M:Nat}{S:List Rat}(dm: ∀j,iM B M (S.getD j 0))(x:Nat){y:Rat}(a1:iM B M y): ∀j,iM B M ((S.set x y).getD j 0):=by
 intro j;rw [Go.aj.dR.fQ];split
 ·exact a1
 ·exact dm j
theorem OZ {t:aJ}(h:Valid t){o:dd}{d e:Nat}(ai:n4 t o d)(aD:pG t e)(p:Int): ∀k,k≤(cH t).length→ ∀j,iM (q5 t o) (k*10^e) ((oG t p o k).getD j 0)
 |0,_,j=>by
  rw [VP];have:(List.replicate (bW t p).length (0:Rat)).getD j 0=0:=by simp only [List.getD,pJ];split<;>rfl
  rw [this];exact iM.zero _ _
 |k+1,an,j=>by
  have a6:=OZ h ai aD p k J;have b0:k<(cH t).length:=J;obtain ⟨i1,i2⟩:=pj (dv (l:=cH t) 0 b0);rw [VO t p o b0];have aE:(k+1)*10^e=k*10^e+10^e:=by rw [eF,qt]
  rw [aE];refine Zy (fun j=>(a6 j).mono (oU _ _)) _ ?_ j;exact (a6 _).add (Pl h ai aD i1 i2)
structure zh (t:aJ)(o:dd)(p:Int)(S:List Rat)(j:Nat):Prop where
 len:S.length=(bW t p).length
 fin: ∀k,iM (q5 t o) (41*10^12*2^j) (S.getD k 0)
theorem zh.step {t:aJ}{o:dd}{p:Int}{S:List Rat}{j:Nat}(h:zh t o p S j)(a b:Nat):zh t o p (S.set a (S.getD a 0+S.getD b 0)) (j+1):=by
 refine ⟨by rw [da];exact h.len,?_⟩;have aE:41*10^12*2^(j+1)=41*10^12*2^j+41*10^12*2^j:=by rw [hY,←kF];omega
 rw [aE];exact Zy (fun k=>(h.fin k).mono (oU _ _)) a ((h.fin a).add (h.fin b))
theorem Tt {a b x y n:Nat}(U:a≤10^x)(ab:b≤10^y)(h:x+y<n):a*b<10^n:=by have RO:=jW U ab;rw [←iN] at RO;exact re RO (Nat.pow_lt_pow_right aT h)
theorem Qm {t:aJ}{o:dd}{d:Nat}(ai:n4 t o d)(aG:t.length≤40)(aD:pG t 12)(af:Valid t):q5 t o<10^(d*40+481):=by have fh:=GF ai t.length (bN _);rw [fO] at fh;have oZ:=J3 af;have ld:d*(t.flatMap ev.next).length≤d*40:=hK _ J;exact Tt fh (Qf aD) J
def xp:Nat:=80520
theorem iM.short {t:aJ}{o:dd}{M E:Nat}{q:Rat}(h:iM (q5 t o) M q)(cf:q5 t o<10^E)(ho:M≤10^39):cQ.D (39+E) q:=by have aM:=PO t o;refine h.D J ?_ (ha cf (fN aT J));refine re (fp _ ho) ?_;have:=(Nat.mul_lt_mul_left (a:=10^39) (lX aT)).2 cf;rw [←iN] at this;exact this
theorem zh.short {t:aJ}{o:dd}{p:Int}{S:List Rat}{j E:Nat}(h:zh t o p S j)(cf:q5 t o<10^E)(ae:j≤61)(k:Nat):D (39+E) (S.getD k 0):=by refine (h.fin k).short cf ?_;have U:2^j≤2^61:=fN aT ae;exact dU (hK _ U) aT
theorem ane {t:aJ}(h:Valid t){o:dd}{d:Nat}(ai:n4 t o d)(aG:t.length≤40)(aD:pG t 12)(p:Int){k:Nat}(an:k≤(cH t).length)(j:Nat):D (39+(d*40+481)) ((oG t p o k).getD j 0):=by
 have cf:=Qm ai aG aD h;have he:(cH t).length≤t.length:=by unfold cH;refine dU (tf _ _) ?_;rw [gN];exact bN _
 refine (OZ h ai aD p k an j).short cf ?_;have:k*10^12≤40*10^12:=fp _ J;exact dU this aT
theorem acf {t:aJ}(h:Valid t){o:dd}{d e:Nat}(ai:n4 t o d)(aD:pG t e){i:Nat}(aa:i<t.length)(an:(t.getD i aN).kind=0):iM (q5 t o) (10^e) (iK t (cA t o) i):=by
 have:=Pl h ai aD (p:=0) aa an;unfold wu at this
 rwa [aw aT] at this
theorem YD {t:aJ}(h:Valid t){o:dd}{d e:Nat}(ai:n4 t o d)(aD:pG t e): ∀k,k≤(cH t).length→iM (q5 t o) (k*10^e) (sY t o k)
 |0,_=>by unfold sY;rw [List.take_zero];exact iM.zero _ _
 |k+1,an=>by have a6:=YD h ai aD k J;have b0:k<(cH t).length:=J;obtain ⟨i1,i2⟩:=pj (dv (l:=cH t) 0 b0);rw [Xj t o b0,show (k+1)*10^e=k*10^e+10^e by rw [eF,qt]];exact a6.add (acf h ai aD i1 i2)
theorem aoi {t:aJ}(h:Valid t){o:dd}{d:Nat}(ai:n4 t o d)(aG:t.length≤40)(aD:pG t 12){k:Nat}(an:k≤(cH t).length):D (39+(d*40+481)) (sY t o k):=by
 have cf:=Qm ai aG aD h;have he:(cH t).length≤t.length:=by unfold cH;refine dU (tf _ _) ?_;rw [gN];exact bN _
 refine (YD h ai aD k an).short cf ?_;have:k*10^12≤40*10^12:=fp _ J;exact dU this aT
theorem aod {t:aJ}(h:Valid t){o:dd}{d:Nat}(ai:n4 t o d)(aG:t.length≤40)(aD:pG t 12)(p:Int):zh t o p (sW t p o) 0:=by
 have he:(cH t).length≤t.length:=by unfold cH;refine dU (tf _ _) ?_;rw [gN];exact bN _
 refine ⟨OX t p o,fun k=> ?_⟩;rw [←Xb];refine (OZ h ai aD p _ (bN _) k).mono ?_;rw [xK,rf];exact fp _ J
structure vO (t:aJ)(p:Int)(o:dd)(e:Nat)(S:List Rat)(C:List (Int×Int))(j:Nat):Prop where
 wj:q8 t p e
 IF:zh t o p S j
 xZ:j+e≤(bW t p).length
 Rd:s0 t p e C
 rest: ∃f,e≤f+1∧pr (bW t p) f (e,S,C)=jj t p o
theorem vO.top {t:aJ}(h:Valid t){o:dd}{d:Nat}(ai:n4 t o d)(aG:t.length≤40)(aD:pG t 12)(p:Int):vO t p o (bW t p).length (sW t p o) [] 0:=
 ⟨q8.top h p,aod h ai aG aD p,J,s0.top h p,_,J,rfl⟩
theorem vO.step {t:aJ}(af:Valid t){p:Int}{o:dd}{e:Nat}{S:List Rat}{C:List (Int×Int)}{j:Nat}(h:vO t p o e S C j)(he:1<e){x:Int×Nat}{b:Nat}(ak:bP t p e x b):
 vO t p o x.2 (S.set b (S.getD b 0+S.getD (gj S x.2 (ca t p x.1)) 0)) (C++[(x.1,((gj S x.2 (ca t p x.1)-x.2:Nat):Int))]) (j+1):=by
 obtain ⟨f,f1,f2⟩:=h.rest;have U:=ak.fin;have ab:=ak.lp;have ay:=h.xZ;obtain ⟨bQ,_,dr⟩:=CJ S x.2 (ca t p x.1);have dr:=dr ab;obtain ⟨Lr,rfl⟩: ∃Lr,f=Lr+1:=⟨f-1,J⟩
 rw [pr,aB (show 1<(e,S,C).1 from he),ak.step] at f2;exact ⟨ak.wj,h.IF.step _ _,J,ak.Re af h.Rd J,Lr,J,f2⟩
theorem vO.stop {t:aJ}{p:Int}{o:dd}{e:Nat}{S:List Rat}{C:List (Int×Int)}{j:Nat}(h:vO t p o e S C j)(he: ¬1<e):jj t p o=(1,S,C):=by
 obtain ⟨f,f1,f2⟩:=h.rest;have U:=h.wj.one;obtain rfl:e=1:=J;rw [←f2];cases f with
 |zero=>rfl
 |succ f=>rw [pr,aw (oQ 1)]
end Go.aj.cQ
namespace Go.aj
variable [bx]
open Go.RowKit
def Cj (x:Value):Option ao:=match x with
 | .map none=>some .any
 |v=>yr v
theorem alo {w:World}{S:Nat→Prop}{σ:Nat→Option bP}{x:Value}{v:ao}(h:Cj x=some v):bz w S σ v x∧x.oneCell'=true:=by
 unfold Cj at h;split at h
 ·cases h;exact ⟨.any _ _,rfl⟩
 ·exact KS h
def KU (v:Value):Option (List ao):=v.cells.toList.mapM fun x=>Cj x
theorem Xm {w:World}{S:Nat→Prop}{σ:Nat→Option bP}{z:Value}{zs:List ao}(h:KU z=some zs):z.cells.size=zs.length∧ ∀j,j<zs.length→bz w S σ (zs.getD j .any) (z.cells.getD j undef)∧(z.cells.getD j undef).oneCell'=true:=by
 unfold KU at h;have key: ∀(l:List Value) (zs:List ao),l.mapM (fun x=>Cj x)=some zs→l.length=zs.length∧ ∀j,j<zs.length→bz w S σ (zs.getD j .any) (l.getD j undef)∧(l.getD j undef).oneCell'=true:=by
  intro l;induction l with
  |nil=>intro zs h;simp at h;subst h;exact ⟨rfl,fun j ae=>by simp at ae⟩
  |cons x r a6=>
   intro zs h;simp only [List.mapM_cons] at h;cases U:Cj x with
   |none=>simp [U] at h
   |some y=>
    cases ab:r.mapM (fun x=>Cj x) with
    |none=>simp [U,ab] at h
    |some w5=>
     simp [U,ab] at h;subst h;obtain ⟨i1,i2⟩:=a6 w5 ab;refine ⟨by simp [i1],fun j ae=> ?_⟩;cases j with
     |zero=>exact alo U
     |succ j=>simpa using i2 j (by simpa using ae)
 obtain ⟨et,eS⟩:=key _ _ h;refine ⟨by simpa using et,fun j ae=> ?_⟩;have:=eS j ae;have e:z.cells.toList.getD j undef=z.cells.getD j undef:=by
  have bG:j<z.cells.size:=by simp at et;omega
  simp [List.getD,Array.getD,bG]
 rwa [e] at this
section
variable {P:Program}{fn:Func}{c:Ctx}{fr:Fr}{H:aY}{k:List eO}
theorem aiR {ind:Bool}{d:Option Nat}{ty:TypeId}{pos:String}{after:Array Edge}{g:Option (Nat×Bool)}{t:TypeId}{parts:List (Nat×Operand)}{it:TypeInfo}{z:Value}{zs L:List ao}{l:List (Nat×ao)}{pl:Nat→Option (Nat×Nat)}(aa:P.info? t=some it)(bB:it.zero=some z)(lF:KU z=some zs)(iw:Ka P t=some pl)(au:qW fr parts=some l)(aR:r0 pl zs l=some L):
 bZ ind P fn c fr H ⟨d,.build t parts.toArray,ty,pos,after,g⟩ (.agg L):=by
 intro w a σ S ad;obtain ⟨iU,jh⟩:=Xm (w:=w) (S:=S) (σ:=σ) lF;obtain ⟨mw,g1,g2⟩:=Jz l _ z.cells zs L ⟨iU,jh⟩ (IW ad parts l au) aR;refine ⟨.agg mw,.agg _ _ _ g2.1 (fun i aa=>(g2.2 i aa).1) (fun i aa=>(g2.2 i aa).2),fun w' _=> ?_⟩;have ak:P.built t ((parts.toArray.map fun (i,x)=>(i,a.eval x)).toList)=some mw:=by
  have e:(parts.toArray.map fun (i,x)=>(i,a.eval x)).toList=parts.map fun (i,x)=>(i,a.eval x):=b1;rw [e];unfold Ka at iw;unfold Program.built;cases hu:P.underlying t with
  |none=>simp [hu] at iw
  |some u=>
   cases u with
   |array mC gE=>
    simp only [hu] at iw;cases he:P.info? gE with
    |none=>simp [he] at iw
    |some Ic=>
     simp only [he,dG] at iw;subst iw;simp only [aa,bB,he];exact g1
   |struct fields=>
    simp only [hu] at iw;cases he:fields.toList.mapM (fun f=>(P.info? f.type).map fun i=>(f.offset,i.size)) with
    |none=>simp [he] at iw
    |some places=>
     simp only [he,dG] at iw;subst iw;simp only [aa,bB,he];exact g1
   |_=>simp [hu] at iw
 have eR:=run_build (P:=P) w' t (parts.toArray.map fun (i,x)=>(i,a.eval x)) mw ak;simp only [execOp,Sem.run_bind,eR,Result.andThen_ok];rfl
theorem Wn {all:Array Oper}{d:Nat}{t:TypeId}{ty:TypeId}{pos:String}{after:Array Edge}{rest:List Oper}{inf:TypeInfo}{z:Value}{zs:List ao}(aa:P.info? t=some inf)(bB:inf.zero=some z)(lF:KU z=some zs)(an:aj P fn c (.ops false all rest k) ((d,.ptr H.length 0 0)::fr) (H++[some ⟨t,.box zs⟩])):aj P fn c (.ops false all (⟨some d,.alloc t,ty,pos,after,none⟩::rest) k) fr H:=by
 refine uD (fun w a σ S ad=> ?_) an;have aW:qn w S σ z.cells zs:=Xm lF;have eR:(execOp a.eval ⟨some d,.alloc t,ty,pos,after,none⟩).run P w= .ok (.value (.pointer (some ⟨w.heap.size,0,none⟩))) (w.alloc (.cells z.cells t (0,0))):=by simp [execOp,Instr.alloc,newVar,newRow,zeroValue,typeInfo,aa,bB]
 refine ⟨_,_,_,S,eR,ad.alloc (o:=⟨t,.box zs⟩) (C:=1) (cur:=z.cells) (bN _) (by unfold maxLen;omega) (by simp [Cells.aI,aW.1]) (OE aW),?_⟩;have:=bz.ptr (w:=w.alloc (.cells z.cells t (0,0))) (S:=S) (cZ σ H.length (.at w.heap.size (Cells.box zs).aI 1)) H.length 0 0 w.heap.size (Cells.box zs).aI 1 (by simp [cZ]);simpa using this
end
end Go.aj
namespace Go.aj
variable [bx]
open Go.RowKit
structure ZU (gR b3 bK:aY)(cU dF:ao):Prop where
 sub:w0 gR b3
 arA: ∀(h:Nat) (o:bm),gR[h]? =some (some o)→e5 o.c
 len:bK.length=b3.length
 new: ∀(h:Nat) (o':bm),bK[h]? =some (some o')→(∀o:bm,gR[h]? ≠some (some o))∧ ∃o:bm,b3[h]? =some (some o)∧o'.ty=o.ty∧o'.c.len=o.c.len∧o'.c.b7=o.c.b7∧ ∀i j,i<o.c.len→j<o.c.aI→vR gR (o.c.at i j) (o'.c.at i j)
 res:vR gR cU dF
theorem cm.RB {P:Program}{f:FuncId}{args:List ao}{K kB:ao→aY→Prop}(av:cm P f args [] (fun _=>False) K)(dE: ∀cU b3,K cU b3→ ∃gR bK dF,ZU gR b3 bK cU dF∧kB dF bK):cm P f args [] (fun _=>False) kB:=by
 refine ⟨av.1,fun w qm S dH aD kl aR af=> ?_⟩;refine (av.2 w qm S dH aD kl aR af).mono ?_;rintro e w' ⟨v,cU,σ,xD,b3,rfl,g1,g2,g3,g4⟩;obtain ⟨gR,bK,dF,⟨je,fk,hlen,lf,HX⟩,b0⟩:=dE cU b3 g4;have Mk:A3 w' xD σ gR:=fun h o ai=>g1.live h o (je h o ai)
 let cb:Nat→Prop:=fun b=>xD b∨ ∃h o s C,gR[h]? =some (some o)∧σ h=some (.at b s C)
 have kM: ∀{mR:Nat→Option bP} {x v},bz w' xD mR x v→bz w' cb mR x v:=fun h=>h.mono (fun _ h=> .inl h) (fun _ _=>rfl) _ (fun _ _ h=>h);have BJ: ∀{x y v},vR gR x y→bz w' xD σ x v→bz w' cb σ y v:=by
  intro x y v h af;rcases h with rfl|rfl|⟨rfl,ei⟩
  ·exact kM af
  ·exact .any _ _
  ·exact bz.freeze Mk fk (fun _ h=> .inl h) (fun h o b s C U ab=> .inr ⟨h,o,s,C,U,ab⟩) af σ ei
 refine ⟨v,dF,σ,cb,bK,I,⟨fun h o' cN=> ?_,fun U ab o1 o2 b s C ct cM bQ bX aE aF=> ?_,fun b ak=> ?_,fun h au=>g1.ie h J⟩,BJ HX g2,⟨g3.os,g3.output,g3.tape,g3.size,g3.block,fun b ak=> .inl (g3.hV b ak),fun b ak=> ?_,fun _ h=>h.elim,fun _ h=>h.elim,fun h o b s C q e=> ?_⟩,b0⟩
 ·obtain ⟨e2,o,U,ab,ay,bc,bI⟩:=lf h o' cN;rw [ay,A1 bc];rcases g1.live h o U with g|⟨b,C,cur,bQ,bX,dr,en,gT,jg,tK⟩
  ·exact .inl g
  ·refine .inr ⟨b,C,cur,bQ,(bX.mono I kM).b7 ab bc,dr,en,gT,?_,fun i j aa ae=> ?_⟩
   ·rintro (az|⟨aS,o2,s2,gx,h6,u2⟩)
    ·exact jg az
    ·have:=g1.hB h aS o o2 b _ C s2 gx U (je aS o2 h6) bQ u2;subst this;exact e2 o2 h6
   ·obtain ⟨v,aE,aF,bO⟩:=tK i j aa ae;exact ⟨v,aE,BJ (bI i j aa ae) aF,bO⟩
 ·obtain ⟨_,p,c4,_⟩:=lf U o1 bQ;obtain ⟨_,p1,Ak,_⟩:=lf ab o2 bX;exact g1.hB U ab p p1 b s C ct cM c4 Ak aE aF
 ·rcases ak with az|⟨h,o,s,C,bQ,bX⟩
  ·exact g1.small b az
  ·rcases g1.live h o (je h o bQ) with ⟨h0,_⟩|⟨b',cM,cur,bL,g,_⟩
   ·rw [bX] at h0;cases h0
   ·rw [bX] at bL;simp only [dG,bP.at.injEq] at bL;rw [bL.1];exact g.lt
 ·rcases ak with az|⟨h,o,s,C,bQ,bX⟩
  ·exact g3.fb b az
  ·rcases g3.own h o b s C (je h o bQ) bX with g|g
   ·exact .inr (.inl g)
   ·exact .inr (.inr g)
 ·obtain ⟨_,p,c4,_⟩:=lf h o q;exact g3.own h p b s C c4 e
end Go.aj
namespace Go.aj.cL
open Go.aj.dR
structure cl where
 rows:cu
 den:Int
 basis:List Nat
def qk (T:cu)(j:Nat):V:=fun i=>ax T i j
def il (M:cu)(m:Nat)(β:List Nat):ir:=fun a=>if a<m then qk M (β.getD a 0) else fun c=>if c=a then 1 else 0
structure Inv (m N:Nat)(M:cu)(s:cl):Prop where
 n:s.rows.length=m+1
 row: ∀x∈s.rows,x.length=N+1
 b:s.basis.length=m
 qy: ∀i,i<m→s.basis.getD i 0<N
 fz:0<s.den
 unit: ∀i k,i<m+1→k<m→ax s.rows i (s.basis.getD k 0)=if i=k then s.den else 0
 ow: ∃σ:Int,σ*σ=1∧ew (m+1) (il M m s.basis)=σ*s.den
 yt: ∀j,j<N+1→s6 (m+1) (il M m s.basis) s.den (qk M j) (qk s.rows j)
def ni (p:Int):Int:=if p<0 then-1 else 1
theorem Ug (p:Int):ni p*ni p=1:=by unfold ni;split<;>rfl
theorem ZA {p:Int}(h:p≠0):0<ni p*p:=by
 unfold ni;split
 ·omega
 ·omega
def k1 (T:cu)(r c:Nat)(d:Int):cu:=if ax T r c<0 then (pw T r c d).map (fun l=>l.map (fun x=> -x)) else pw T r c d
def iS (s:cl)(r c:Nat):cl:=⟨k1 s.rows r c s.den,if ax s.rows r c<0 then-(ax s.rows r c) else ax s.rows r c,s.basis.set r c⟩
theorem Ge (s:cl)(r c:Nat):(iS s r c).den=ni (ax s.rows r c)*ax s.rows r c:=by show (if ax s.rows r c<0 then-(ax s.rows r c) else ax s.rows r c)=_;unfold ni;split<;>omega
theorem aaq (T:cu)(i j:Nat):ax (T.map (fun l=>l.map (fun x=> -x))) i j= -(ax T i j):=by
 unfold ax;simp only [List.getD,lB];cases h:T[i]? with
 |none=>rfl
 |some l=>
  show ((l.map (fun x=> -x))[j]?).getD 0= -((l[j]?).getD 0);rw [lB];cases l[j]? <;>rfl
theorem YO (T:cu)(r c:Nat)(d:Int){L:Nat}(b4: ∀x∈T,x.length=L){i j:Nat}(aa:i<T.length)(ae:j<L):
 ax (k1 T r c d) i j=ni (ax T r c)*(if i=r then ax T r j else qZ (ax T i j*ax T r c-ax T i c*ax T r j) d):=by
 unfold k1 ni;split
 ·rw [aaq,Xr T r c d b4 aa ae];omega
 ·rw [Xr T r c d b4 aa ae,mv]
theorem PB (T:cu)(r c:Nat)(d:Int):(k1 T r c d).length=T.length:=by
 unfold k1;split
 ·rw [cW,OM]
 ·rw [OM]
theorem aiE (T:cu)(r c:Nat)(d:Int){L:Nat}(ad:r<T.length)(b4: ∀x∈T,x.length=L): ∀x∈k1 T r c d,x.length=L:=by
 unfold k1;split
 ·intro x al;obtain ⟨y,a1,rfl⟩:=cS.1 al;rw [cW];exact ON T r c d ad b4 y a1
 ·exact ON T r c d ad b4
theorem aay {M:cu}{m:Nat}{β:List Nat}(ak:β.length=m){r:Nat}(ad:r<m)(c:Nat):il M m (β.set r c)=put (il M m β) r (qk M c):=by
 funext a;show (if a<m then qk M ((β.set r c).getD a 0) else _)=if a=r then qk M c else (if a<m then qk M (β.getD a 0) else _)
 by_cases aW:a<m
 ·rw [aB aW,aB aW,fQ];by_cases h:a=r
  ·rw [aB ⟨h.symm▸rfl,J⟩,aB h]
  ·rw [aw (fun q=>h q.1),aw h]
 ·rw [aw aW,aw aW,aw J]
theorem apM {n:Nat}{D:ir}{d:Int}{t0 t cC:V}(h:s6 n D d t0 t)(he: ∀i,i<n→cC i=t i):s6 n D d t0 cC:=by intro c av;rw [←h c av];exact gw (fun i aa=>by rw [he i aa])
theorem akj {n:Nat}{D:ir}{d:Int}{t0 t:V}(k:Int)(h:s6 n D d t0 t):s6 n D (k*d) t0 (fun i=>k*t i):=by intro c av;rw [kG,←h c av,←nm];exact gw (fun i aa=>kG _ _ _)
theorem Inv.iS {m N:Nat}{M:cu}{s:cl}(h:Inv m N M s){r c:Nat}(ad:r<m)(av:c<N)(aD:ax s.rows r c≠0):Inv m N M (iS s r c):=by
 obtain ⟨σ,az,fK⟩:=h.ow;have hd:s.den≠0:=by have:=h.fz;omega
 have Aa:r<m+1:=J;have fk:r<s.rows.length:=by rw [h.n];omega
 have ak:=aay (M:=M) h.b ad c;have Mx:=ZA aD;have hN: ∀i j,i<m+1→j<N+1→ax (cL.iS s r c).rows i j=ni (ax s.rows r c)*(if i=r then ax s.rows r j else qZ (ax s.rows i j*ax s.rows r c-ax s.rows i c*ax s.rows r j) s.den):=fun i j aa ae=>YO s.rows r c s.den h.row (by rw [h.n];exact aa) ae;refine ⟨?_,?_,?_,?_,?_,?_,?_,?_⟩
 ·show (k1 _ _ _ _).length=_;rw [PB,h.n]
 ·exact aiE s.rows r c s.den fk h.row
 ·show (s.basis.set r c).length=m;rw [da,h.b]
 ·intro i aa;show (s.basis.set r c).getD i 0<N;rw [fQ];split
  ·exact av
  ·exact h.qy i aa
 ·rw [Ge];exact Mx
 ·intro i k aa an;have LP:(cL.iS s r c).basis.getD k 0=if k=r then c else s.basis.getD k 0:=by
   show (s.basis.set r c).getD k 0=_;rw [fQ];by_cases e:k=r
   ·rw [aB ⟨e,by rw [h.b];exact ad⟩,aB e]
   ·rw [aw (fun q=>e q.1),aw e]
  rw [LP,Ge];by_cases e:k=r
  ·subst e;rw [aB rfl,hN i c aa J];by_cases aF:i=k
   ·rw [aB aF,aB aF]
   ·rw [aw aF,aw aF];have:ax s.rows i c*ax s.rows k c-ax s.rows i c*ax s.rows k c=s.den*0:=J;rw [this,Jy hd,gB]
  ·have afS:ax s.rows r (s.basis.getD k 0)=0:=by rw [h.unit r k Aa an,aw (fun q=>e q.symm)]
   have rr:=h.unit i k aa an;rw [aw e,hN i _ aa (by have:=h.qy k an;omega),afS,rr];by_cases aF:i=k
   ·have xW: ¬i=r:=fun q=>e (aF▸q);rw [aw xW,aB aF,aB aF,gB,zA,Jy hd]
   ·rw [aw aF,aw aF];by_cases bO:i=r
    ·rw [aB bO,gB]
    ·rw [aw bO,gB,zA];have:(0:Int)*ax s.rows r c=s.den*0:=J;rw [this,Jy hd,gB]
 ·refine ⟨ni (ax s.rows r c)*σ,?_,?_⟩
  ·have:=Ug (ax s.rows r c);rw [kG,pL σ,az,Int.mul_one,this]
  ·show ew (m+1) (il M m (s.basis.set r c))=_;rw [ak,WO hd az fK (h.yt c J) Aa,Ge];have:=Ug (ax s.rows r c);show σ*ax s.rows r c=_;rw [kG,pL σ,←kG,this,mv]
 ·intro j ae;show s6 (m+1) (il M m (s.basis.set r c)) _ _ _;rw [ak,Ge];obtain ⟨c4,fv⟩:=WQ hd az fK (h.yt c J) (h.yt j ae) Aa aD;refine apM (akj (ni (ax s.rows r c)) fv) (fun i aa=> ?_);show ax (cL.iS s r c).rows i j=_;rw [hN i j aa ae];by_cases e:i=r
  ·rw [aB e,aB e];rfl
  ·rw [aw e,aw e];have:=V4 hd (c4 i aa e);show _*qZ (qk s.rows j i*qk s.rows c r-qk s.rows c i*qk s.rows j r) s.den=_;rw [this]
theorem Inv.bound {m N B:Nat}{M:cu}{s:cl}(h:Inv m N M s)(U:1≤B)(cf: ∀i j,i<m+1→j<N+1→(ax M i j).natAbs≤B):
 (∀i j,i<m+1→j<N+1→(ax s.rows i j).natAbs≤qB (m+1)*B^(m+1))∧s.den.natAbs≤qB (m+1)*B^(m+1):=by
 obtain ⟨σ,az,fK⟩:=h.ow;have bL:σ.natAbs=1:=by have:=congrArg Int.natAbs az;rw [ke] at this;exact Nat.eq_one_of_mul_eq_one_right (by simpa using this)
 have hd:s.den≠0:=by have:=h.fz;omega
 have uM: ∀a c,a<m+1→c<m+1→(il M m s.basis a c).natAbs≤B:=by
  intro a c aW av;unfold il;split
  ·rename_i ab;exact cf c _ av (by have:=h.qy a ab;omega)
  ·show (if c=a then (1:Int) else 0).natAbs≤B;split
   ·exact U
   ·exact cj _
 refine ⟨fun i j aa ae=> ?_,?_⟩
 ·have ab:=ZB hd az fK (h.yt j ae) aa;have ay:ax s.rows i j=σ*ew (m+1) (put (il M m s.basis) i (qk M j)):=ab;rw [ay,ke,bL,qt];refine OL (fun a c aW av=> ?_);unfold put;split
  ·exact cf c j av ae
  ·exact uM a c aW av
 ·have ab:(ew (m+1) (il M m s.basis)).natAbs=s.den.natAbs:=by rw [fK,ke,bL,qt]
  rw [←ab];exact OL uM
end Go.aj.cL
