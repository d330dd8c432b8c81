import Derived.Lib.ParseIntB
import Derived.Lib.Join
import Derived.Test.YtmpnheilfejcpaaGreatDoorC3
set_option linter.unusedVariables false
set_option linter.unusedSimpArgs false
namespace Go.ai.c8
open Go.ai.qY (jh)
def dg (c:UInt8):Bool:=decide (48≤c.toNat∧c.toNat<58)
theorem Xq {c:UInt8}:dg c=true↔jh c:=by unfold dg jh;simp only [eX];constructor<;>intro h<;>exact ⟨J,J⟩
def tB (s:List UInt8):List UInt8:=(s.reverse.dropWhile dg).reverse
def yx (s:List UInt8):List UInt8:=s.dropWhile dg
theorem Rv {l m:List UInt8}(h:l.all dg=true):(l++m).dropWhile dg=m.dropWhile dg:=by
 induction l with
 |nil=>rfl
 |cons x r a8=>
  simp only [zu,ei] at h;rw [oC,List.dropWhile_cons_of_pos h.1,a8 h.2]
theorem afH {s:List UInt8}{k:Nat}(ao:k≤s.length)(h:(s.drop k).all dg=true)(ab:k=0∨dg (s.getD (k-1) 0)=false):tB s=s.take k:=by
 unfold tB
 conv=>lhs;rw [←rV k s]
 rw [List.reverse_append,Rv (by rw [List.all_reverse];exact h)];rcases ab with ab|ab
 ·subst ab;rfl
 ·rcases nD k with q|q
  ·subst q;rfl
  ·have e:s.take k=s.take (k-1)++[s.getD (k-1) 0]:=by
    have:=qq s 0 (k-1) J
    rwa [show k-1+1=k by omega] at this
   rw [e,List.reverse_append,List.reverse_singleton,List.singleton_append,EK (by rw [ab];decide)];simp
theorem afF {s:List UInt8}{k:Nat}(h:(s.take k).all dg=true)(ab:s.length≤k∨dg (s.getD k 0)=false):yx s=s.drop k:=by
 unfold yx
 conv=>lhs;rw [←rV k s]
 rw [Rv h];rcases ab with ab|ab
 ·rw [zp ab];rfl
 ·rcases ga k s.length with q|q
  ·rw [tL s 0 k q,EK (by rw [ab];decide)]
  ·rw [zp q];rfl
theorem Nq {l:List UInt8}:l.dropWhile dg=[]↔l.all dg=true:=by
 induction l with
 |nil=>simp
 |cons x r a8=>
  cases h:dg x with
  |true=>rw [List.dropWhile_cons_of_pos h,a8];simp [h]
  |false=>rw [EK (by rw [h];decide)];simp [h]
theorem XA {l:List UInt8}{x:UInt8}{r:List UInt8}(h:l.dropWhile dg=x::r):dg x=false:=by
 induction l with
 |nil=>cases h
 |cons y q a8=>
  cases aY:dg y with
  |true=>rw [List.dropWhile_cons_of_pos aY] at h;exact a8 h
  |false=>
   rw [EK (by rw [aY];decide)] at h;cases h;exact aY
theorem afG {s:List UInt8}:yx (tB s)=[]↔s.all dg=true:=by
 unfold yx tB;rw [Nq,List.all_reverse];constructor
 ·intro h;cases aB:s.reverse.dropWhile dg with
  |nil=>rw [Nq,List.all_reverse] at aB;exact aB
  |cons x r=>
   rw [aB] at h;have:=XA aB;simp [this] at h
 ·intro h;have:s.reverse.dropWhile dg=[]:=by rw [Nq,List.all_reverse];exact h
  rw [this];rfl
theorem acN {l:List UInt8}(hd: ∀c∈l,jh c): ∀(a:Nat),dQ a l≤4294967295→Lib.parseUintM 4294967295 a l= .ok (dQ a l):=by
 induction l with
 |nil=>intro a _;rfl
 |cons c r a8=>
  intro a h;have av:=hd c bZ;unfold jh at av;rw [wV] at h⊢;have U:a*10+(c.toNat-48)≤4294967295:=by refine dT ?_ h;rw [DU r];have:(a*10+(c.toNat-48))*1≤(a*10+(c.toNat-48))*10^r.length:=h5 _ (Nat.one_le_pow _ _ a6);omega
  have i:=a8 (fun x ar=>hd x (by simp [ar])) _ h;unfold Lib.parseUintM;rw [aG J,az J,az J];exact i
theorem w4 {l:List UInt8}(aO:l≠[])(hd: ∀c∈l,jh c)(lv:l.length≤9):Lib.parseUintB 32 l= .ok (dQ 0 l)∧dQ 0 l<1000000000:=by have bC:=HV hd;have aJ:10^l.length≤10^9:=gp a6 lv;have E0:(10:Nat)^9=1000000000:=a6;rw [E0] at aJ;unfold Lib.parseUintB;rw [az aO];have XD:(2:Nat)^32-1=4294967295:=a6;rw [XD];exact ⟨acN hd 0 J,J⟩
theorem SJ: ∀(ls:List (List UInt8)),Lib.join ls []=ls.flatten
 |[]=>rfl
 |x::r=>by rw [Lib.join_cons,List.flatten_cons];congr 1;unfold Lib.joinTail;congr 1;simp
end Go.ai.c8
namespace Go.ai.kz
def pw:Nat→Int
 |0=>1
 |n+1=>(n+1)*pw n
def iy {α:Type}(p:α→Bool):List α→Int
 |[]=> -1
 |x::r=>if p x then 0 else if iy p r<0 then-1 else iy p r+1
theorem Uo {α:Type}(p:α→Bool)(l:List α)(h:iy p l<0):iy p l= -1:=by
 cases l with
 |nil=>rfl
 |cons x r=>
  simp only [iy] at h⊢;by_cases U:p x=true
  ·simp [U] at h
  ·by_cases ab:iy p r<0
   ·simp [U,ab]
   ·simp only [U,ab,gW,q0] at h;omega
theorem rk {α:Type}(p:α→Bool)(l:List α)(k:Nat)(h:(l.take k).any p=false)(ao:k≤l.length):iy p l=if iy p (l.drop k)<0 then-1 else iy p (l.drop k)+k:=by
 induction k generalizing l with
 |zero=>
  simp only [s5];split
  ·exact Uo p l hv
  ·omega
 |succ k a8=>cases l with
  |nil=>simp at ao
  |cons x r=>
   simp only [List.take_succ_cons,List.any_cons,Bool.or_eq_false_iff] at h;have:=a8 r h.2 (by simpa using ao);simp only [iy,h.1,List.drop_succ_cons,q0,gW];rw [this];split<;>split<;>omega
theorem DY {α:Type}(p:α→Bool)(l:List α):decide (0≤iy p l)=l.any p:=by
 induction l with
 |nil=>rfl
 |cons x r a8=>
  simp only [iy,List.any_cons];by_cases U:p x=true
  ·simp [U]
  ·simp only [pn] at U;simp only [U,q0,gW,zv];rw [←a8];by_cases ab:iy p r<0
   ·rw [aG ab];simp;omega
   ·rw [az ab];congr 1;simp;omega
def Oa (m:List Int):List Int:=(List.range 7).map fun (i:Nat)=>((m.count (i:Int):Nat):Int)
theorem fG {l:List Int}{i j:Nat}{v:Int}(aa:i<l.length):(l.set i v).getD j 0=if j=i then v else l.getD j 0:=by
 by_cases h:j=i
 ·subst h;simp [List.getD,aa]
 ·simp only [List.getD,h,gW];rw [k0 (fun e=>h e.symm)]
def less (l:List Int)(i:Nat):List Int:=l.set i (l.getD i 0-1)
theorem oY {l:List Int}{i:Nat}(aa:i<l.length):(less l i).set i ((less l i).getD i 0+1)=l:=by
 unfold less;rw [fG aa,aG rfl,vV];have:l.getD i 0-1+1=l[i]:=by rw [sM 0 aa];omega
 rw [this,List.set_getElem_self]
end Go.ai.kz
namespace Go.ai.eD
open Go.ai.kz
def pv (v y:Int):Bool:=decide (v=y)
end Go.ai.eD
namespace Go.ai.eD
open Go.ai.kz
end Go.ai.eD
namespace Go.ai.eD
open Go.ai.kz
end Go.ai.eD
namespace Go.ai.c8
open Go.ai.qY (jh)
def ub (s:List UInt8):Bool:=decide (s≠[]) && s.all dg && (decide (s.getD 0 0≠48)||decide (s.length=1))
theorem AR {s:List UInt8}:ub s=true↔ug s:=by
 unfold ub ug;simp only [ei,uE,eX,uy,Xq];constructor
 ·rintro ⟨⟨U,ab⟩,aw⟩;exact ⟨U,ab,aw⟩
 ·rintro ⟨U,ab,aw⟩;exact ⟨⟨U,ab⟩,aw⟩
theorem Ig {s:List UInt8}(h:ug s){k:Nat}(au:s.length≤k):(aW (dQ 0 s)).length≤k:=by refine nj (hE (HV h.2.1) ?_);exact dT (gp a6 au) (vW a6 k)
def Gn:Nat→Nat
 |0=>1
 |k+1=>10*Gn k
theorem Vr: ∀k,Gn k=10^k
 |0=>rfl
 |k+1=>by rw [Gn,Vr k,h4,gM]
def IH:Nat:=Gn 2000
theorem NP:IH=10^2000:=Vr 2000
theorem NQ {n:Nat}(h:n<IH):(Lib.decDigits n).length≤2000:=by
 rw [NP] at h
 revert h
 generalize ao:2000=k;intro h;exact Dq J h
theorem Qf {n k:Nat}(h:n<10^k)(ao:k≤2000):n<IH:=by
 rw [NP]
 revert ao
 generalize 2000=j;intro ao;exact hE h (gp a6 ao)
theorem HY {m n j k:Nat}(hm:m<10^j)(aF:n<10^k):m*n<10^(j+k):=by rw [jm];exact Nat.mul_lt_mul'' hm aF
def fF:Nat→Nat→Nat
 |_,0=>1
 |0,_+1=>0
 |n+1,k+1=>fF n k+fF n (k+1)
end Go.ai.c8
namespace Go.ai.cz
open Go.ai.c8
theorem HN (n:Int)(d:Nat)(hd:d≠0):(Rat.divInt n d).num.natAbs=n.natAbs/Nat.gcd n.natAbs d∧(Rat.divInt n d).den=d/Nat.gcd n.natAbs d∧((Rat.divInt n d).num<0↔n<0):=by
 have e:Rat.divInt n d=Rat.normalize n d hd:=by rw [Rat.divInt_ofNat,←Rat.normalize_eq_mkRat]
 have cX:0<Nat.gcd n.natAbs d:=Nat.gcd_pos_of_pos_right _ J;have Fp:(Nat.gcd n.natAbs d:Int)∣n:=by rw [Int.ofNat_dvd_left];exact Nat.gcd_dvd_left _ _
 rw [e,Rat.num_normalize,Rat.den_normalize];obtain ⟨q,aB⟩:=Fp;generalize Nat.gcd n.natAbs d=g at*;refine ⟨?_,I,?_⟩
 ·rw [aB,EL _ J,kf,k1,Nat.mul_div_cancel_left _ cX]
 ·rw [aB,EL _ J];constructor
  ·intro h;exact Int.mul_neg_of_pos_of_neg J h
  ·intro h;rcases Int.lt_or_le q 0 with z|z
   ·exact z
   ·exact absurd h (Int.not_lt.2 (q4 J z))
theorem LP (n d:Int)(hd:d≠0):(Rat.divInt n d).num.natAbs=n.natAbs/Nat.gcd n.natAbs d.natAbs∧(Rat.divInt n d).den=d.natAbs/Nat.gcd n.natAbs d.natAbs∧((Rat.divInt n d).num<0↔n≠0∧((n<0∧ ¬d<0)∨(¬n<0∧d<0))):=by
 rcases Int.lt_or_le d 0 with h|h
 ·obtain ⟨m,rfl⟩: ∃m:Nat,d= -(m:Int):=⟨d.natAbs,J⟩
  have e:Rat.divInt n (-(m:Int))=Rat.divInt (-n) m:=Rat.divInt_neg' n m;obtain ⟨U,ab,aw⟩:=HN (-n) m J;rw [e];rw [p7] at U ab;rw [p7,k1];exact ⟨U,ab,aw.trans J⟩
 ·obtain ⟨m,rfl⟩: ∃m:Nat,d=(m:Int):=⟨d.natAbs,J⟩
  obtain ⟨U,ab,aw⟩:=HN n m J;rw [k1];exact ⟨U,ab,aw.trans J⟩
theorem TU (p q:Rat):Rat.divInt (p.num*q.den+q.num*p.den) ((p.den*q.den:Nat):Int)=p+q:=by rw [Rat.add_def',Rat.divInt_ofNat]
theorem ML (p q:Rat):Rat.divInt (p.num*q.num) ((p.den*q.den:Nat):Int)=p*q:=by rw [Rat.mul_def',Rat.divInt_ofNat]
theorem Ue (p q:Rat)(aB:q≠0):Rat.divInt (p.num*q.den) (q.num*p.den)=p/q:=by
 have aF:q.num≠0:=fun h=>aB (Rat.num_eq_zero.1 h);have aJ:(p.den:Int)≠0:=by have:=p.den_nz;omega
 have aaj:(q.den:Int)≠0:=by have:=q.den_nz;omega
 have U:Rat.divInt (p.num*q.den) (q.num*p.den)*q=p:=by
  conv=>lhs;rhs;rw [←Rat.num_divInt_den q]
  rw [Rat.divInt_mul_divInt]
  conv=>rhs;rw [←Rat.num_divInt_den p]
  rw [Rat.divInt_eq_divInt_iff (Int.mul_ne_zero (Int.mul_ne_zero aF aJ) aaj) aJ]
  ac_rfl
 rw [←U,Rat.mul_div_cancel aB];rw [U]
def j2 (x:Int):Int:=if x<0 then-1 else if x=0 then 0 else 1
def wb (p q:Rat):Int:=if p<q then-1 else if p=q then 0 else 1
theorem aeN (p q:Rat):j2 (p.num*q.den-q.num*p.den)=wb p q:=by
 unfold j2 wb;have U:p<q↔p.num*q.den-q.num*p.den<0:=by rw [Rat.lt_iff];omega
 have ab:p=q↔p.num*q.den-q.num*p.den=0:=by rw [Rat.eq_iff_mul_eq_mul];omega
 simp only [U,ab]
def kb (b:Bool)(n:Nat):Int:=if b then-(n:Int) else n
theorem yR (b:Bool)(n:Nat):(kb b n).natAbs=n:=by unfold kb;split<;>omega
theorem M1 (b:Bool)(n:Nat):decide (kb b n<0)=(b && decide (n≠0)):=by
 unfold kb;cases b
 ·simp<;>try omega
 ·simp only [fS,lO];rw [p8];omega
theorem aje (x:Int):kb (decide (x<0)) x.natAbs=x:=by
 unfold kb;by_cases h:x<0
 ·simp [h];omega
 ·simp [h];omega
end Go.ai.cz
namespace Go.ai.cz
open Go.ai.c8
open Go.ai.qY (jh wS tK hL U6 U5 GR)
def iF:List UInt8→Bool
 |c::_=>decide (c=45)
 |[]=>false
def n7 (s:List UInt8):List UInt8:=if iF s then s.drop 1 else s
def jO (s:List UInt8):List UInt8:=(hL 47 (n7 s)).1
def jN (s:List UInt8):List UInt8:=(hL 47 (n7 s)).2.1
def mE (s:List UInt8):Bool:=(hL 47 (n7 s)).2.2
def gv (s:List UInt8):Int:=
 if ub (jO s)=false∨(mE s=true∧ub (jN s)=false)∨(iF s=true∧jO s=[48]) then 5
 else if 2000<(jO s).length∨2000<(jN s).length then 2
 else if mE s=true∧(jN s=[48]∨jN s=[49]∨Nat.gcd (dQ 0 (jO s)) (dQ 0 (jN s))≠1) then 3 else 0
def sU (s:List UInt8):Nat:=if mE s then dQ 0 (jN s) else 1
def b4 (s:List UInt8):Rat:=Rat.divInt (kb (iF s) (dQ 0 (jO s))) (sU s:Nat)
def cO (q:Rat):List UInt8:=(if q.num<0 then [45] else [])++(Lib.decDigits q.num.natAbs++(if q.den=1 then [] else 47::Lib.decDigits q.den))
def e3 (q:Rat):Bool:=decide ((Lib.decDigits q.num.natAbs).length≤2000) && decide ((Lib.decDigits q.den).length≤2000)
def sV (q:Rat):List UInt8×Int:=if e3 q then (cO q,0) else ([],2)
theorem S3 (b:UInt8): ∀l:List UInt8,l=(hL b l).1++(if (hL b l).2.2 then b::(hL b l).2.1 else [])
 |[]=>rfl
 |c::r=>by
  rw [hL];split
  ·rename_i h;subst h;simp
  ·have:=S3 b r;simp only [oC,List.cons.injEq,true_and];exact this
structure BT (s:List UInt8)(q:Rat):Prop where
 num:q.num=kb (iF s) (dQ 0 (jO s))
 den:q.den=sU s
 sa:ug (jO s)
 qb:mE s=true→ug (jN s)∧dQ 0 (jN s)≠0∧dQ 0 (jN s)≠1
 hy:(jO s).length≤2000
 Gc:(jN s).length≤2000
 wF:iF s=true→dQ 0 (jO s)≠0
theorem Ni {s:List UInt8}{n:Nat}(av:ug s)(aF:n<10)(h:dQ 0 s=n):s=[UInt8.ofNat (48+n)]:=by rw [←Bb av,h,Lib.decDigits_one aF]
theorem Bs {s:List UInt8}(h:mE s=false):sU s=1:=by unfold sU;rw [h];rfl
theorem Bd {s:List UInt8}(h:mE s=true):sU s=dQ 0 (jN s):=by unfold sU;rw [h];rfl
theorem DH {s:List UInt8}(h:gv s=0):BT s (b4 s):=by
 unfold gv at h;split at h
 ·omega
 split at h
 ·omega
 split at h
 ·omega
 rename_i U ab aw;simp only [not_or,not_and,Bool.not_eq_false] at U ab aw;obtain ⟨gx,a2,a3⟩:=U;have sa:=AR.1 gx;have qb:mE s=true→ug (jN s)∧dQ 0 (jN s)≠0∧dQ 0 (jN s)≠1:=fun hd=>by have c:=AR.1 (a2 hd);exact ⟨c,fun e=>(aw hd).1 (Ni c a6 e),fun e=>(aw hd).2.1 (Ni c a6 e)⟩
 have uU:sU s≠0:=by
  cases e:mE s
  ·rw [Bs e];decide
  ·rw [Bd e];exact (qb e).2.1
 have cX:Nat.gcd (dQ 0 (jO s)) (sU s)=1:=by
  cases e:mE s
  ·rw [Bs e];exact Nat.gcd_one_right _
  ·rw [Bd e];exact jV.1 (aw e).2.2
 obtain ⟨aD,aE,bM⟩:=HN (kb (iF s) (dQ 0 (jO s))) (sU s) uU;rw [yR,cX,Nat.div_one] at aD;rw [yR,cX,Nat.div_one] at aE;refine ⟨?_,aE,sa,qb,J,J,fun aF e=>a3 aF (Ni sa a6 e)⟩;show (Rat.divInt _ _).num=_;have:=yR (iF s) (dQ 0 (jO s));omega
theorem acf {s:List UInt8}:s=(if iF s then [45] else [])++n7 s:=by
 unfold n7;cases s with
 |nil=>rfl
 |cons c r=>
  unfold iF;by_cases h:c=45
  ·subst h;rfl
  ·simp [h]
theorem BT.text {s:List UInt8}{q:Rat}(h:BT s q):cO q=s:=by
 conv=>rhs;rw [acf (s:=s),S3 47 (n7 s)]
 change cO q=_++(jO s++if mE s then 47::jN s else [])
 unfold cO;rw [h.num,h.den,yR,Bb h.sa];congr 1
 ·have:=M1 (iF s) (dQ 0 (jO s));cases e:iF s
  ·rw [e] at this;simp at this;rw [az (by simpa [e] using this)];rfl
  ·rw [e] at this;have aF:=h.wF e;simp [aF] at this;rw [aG this];rfl
 ·congr 1;cases e:mE s
  ·rw [Bs e];rfl
  ·obtain ⟨c,lP,eY⟩:=h.qb e;rw [Bd e,az eY,Bb c];rfl
theorem Uu (q:Rat):iF (cO q)=decide (q.num<0)∧n7 (cO q)=Lib.decDigits q.num.natAbs++(if q.den=1 then [] else 47::Lib.decDigits q.den):=by
 have b2:=tK q.num.natAbs;have OI:=GR q.num.natAbs 45 a6;unfold n7 cO;by_cases h:q.num<0
 ·simp [h,iF]
 ·have:iF (Lib.decDigits q.num.natAbs++(if q.den=1 then [] else 47::Lib.decDigits q.den))=false:=by
   cases e:Lib.decDigits q.num.natAbs with
   |nil=>exact absurd e b2
   |cons c r=>
    rw [e] at OI;have:c≠45:=fun e=>OI (by simp [e]);simp [iF,this]
  simp [h,this]
theorem MG (q:Rat):hL 47 (n7 (cO q))=(Lib.decDigits q.num.natAbs,(if q.den=1 then [] else Lib.decDigits q.den),decide (q.den≠1)):=by
 rw [(Uu q).2];by_cases h:q.den=1
 ·rw [aG h,aG h,kB,U6 (GR _ 47 a6)];simp [h]
 ·rw [az h,az h,U5 (GR _ 47 a6)];simp [h]
theorem adH {q:Rat}(h:e3 q=true):gv (cO q)=0∧b4 (cO q)=q:=by
 have aD:jO (cO q)=Lib.decDigits q.num.natAbs:=by unfold jO;rw [MG]
 have aE:jN (cO q)=if q.den=1 then [] else Lib.decDigits q.den:=by unfold jN;rw [MG]
 have bM:mE (cO q)=decide (q.den≠1):=by unfold mE;rw [MG]
 have h9:=(Uu q).1;unfold e3 at h;rw [ei,eX,eX] at h;constructor
 ·unfold gv;rw [aD,aE,bM,h9,sH,AR.2 (GM _)];have g1: ¬(true=false∨(decide (q.den≠1)=true∧ub (if q.den=1 then [] else Lib.decDigits q.den)=false)∨(decide (q.num<0)=true∧Lib.decDigits q.num.natAbs=[48])):=by
   rintro (g|⟨g1,g2⟩|⟨g1,g2⟩)
   ·cases g
   ·rw [eX] at g1;rw [az g1,AR.2 (GM _)] at g2;cases g2
   ·rw [eX] at g1;have:q.num.natAbs=0:=Ll (by rw [g2,Lib.decDigits_one a6];rfl);omega
  have g2: ¬(2000<(Lib.decDigits q.num.natAbs).length∨2000<(if q.den=1 then [] else Lib.decDigits q.den:List UInt8).length):=by
   rintro (g|g)
   ·omega
   ·split at g
    ·simp at g
    ·omega
  have g3: ¬(decide (q.den≠1)=true∧((if q.den=1 then [] else Lib.decDigits q.den)=[48]∨(if q.den=1 then [] else Lib.decDigits q.den)=[49]∨Nat.gcd q.num.natAbs (dQ 0 (if q.den=1 then [] else Lib.decDigits q.den))≠1)):=by
   rintro ⟨g,g3⟩;rw [eX] at g;rw [az g] at g3;rw [sH] at g3;rcases g3 with g3|g3|g3
   ·have:q.den=0:=Ll (by rw [g3,Lib.decDigits_one a6];rfl);exact q.den_nz this
   ·exact g (Ll (by rw [g3,Lib.decDigits_one a6];rfl))
   ·exact g3 q.reduced
  rw [az g1,az g2,az g3]
 ·unfold b4;have EZ:sU (cO q)=q.den:=by
   unfold sU;rw [bM,aE];by_cases g:q.den=1
   ·simp [g]
   ·simp [g,sH]
  rw [aD,h9,EZ,sH,aje];exact Rat.num_divInt_den q
def kc:List (List UInt8)→Int
 |[]=>0
 |s::r=>if gv s=0 then kc r else gv s
theorem vv: ∀{l:List (List UInt8)},kc l=0→ ∀s∈l,gv s=0
 |[],_,s,h=>by simp at h
 |a::r,h,s,ax=>by
  rw [kc] at h;split at h
  ·rename_i U;rcases fT.1 ax with e|e
   ·rw [e];exact U
   ·exact vv h s e
  ·contradiction
theorem U7: ∀{l:List (List UInt8)},(∀s∈l,gv s=0)→kc l=0
 |[],_=>rfl
 |a::r,h=>by rw [kc,aG (h a bZ)];exact U7 (fun s ax=>h s (by simp [ax]))
def pZ (F:Rat→Rat→Rat)(a b:List UInt8):List UInt8×Int:=if kc [a,b]=0 then sV (F (b4 a) (b4 b)) else ([],kc [a,b])
def yp (F:Rat→Rat)(a:List UInt8):List UInt8×Int:=if gv a=0 then sV (F (b4 a)) else ([],gv a)
def Xu (a b:List UInt8):List UInt8×Int:=if kc [a,b]=0 then (if b=[48] then ([],18) else sV (b4 a/b4 b)) else ([],kc [a,b])
def xm (a:List UInt8):Int×Int:=if gv a=0 then (j2 (b4 a).num,0) else (0,gv a)
def vC (l:List Rat):List (List UInt8)×Int:=if l.all e3 then (l.map cO,0) else ([],2)
def sT:Rat→List Rat→Rat×Int
 |acc,[]=>(acc,0)
 |acc,q::r=>if e3 (acc+q) then sT (acc+q) r else (acc+q,2)
def qR (l:List (List UInt8)):Rat×Int:=if 256<l.length then (0,2) else if kc l=0 then sT 0 (l.map b4) else (0,kc l)
def AB (l:List (List UInt8)):Int:=if (qR l).2=0∧l.any iF=true then 4 else (qR l).2
def sS (l:List (List UInt8)):Int:=if AB l=0 then (if wb (qR l).1 1=0 then 0 else 3) else AB l
def IP (x:List Rat):Nat→Nat
 |0=>0
 |k+1=>if 0<wb (x.getD k 0) (x.getD (IP x k) 0) then k else IP x k
def N0 (l:List (List UInt8)):Int×Int:=if 256<l.length then (0,2) else if l=[] then (0,8) else if kc l=0 then ((IP (l.map b4) l.length:Nat),0) else (0,kc l)
theorem Vj {q:Rat}(h:e3 q=true):(aW q.num.natAbs).length≤2000∧(aW q.den).length≤2000:=by
 unfold e3 at h;rw [ei,eX,eX] at h;have key: ∀(n m:Nat),(Lib.decDigits n).length≤m→(aW n).length≤m:=fun n m au=>by refine nj (hE (A2 n) ?_);exact dT (gp a6 au) (vW a6 m)
 exact ⟨key _ _ h.1,key _ _ h.2⟩
end Go.ai.cz
namespace Go.ai.cz
open Go.ai.c8
theorem BT.fit {s:List UInt8}{q:Rat}(h:BT s q):e3 q=true:=by
 unfold e3;rw [ei,eX,eX,h.num,h.den,yR,Bb h.sa];refine ⟨h.hy,?_⟩;cases e:mE s
 ·rw [Bs e,Lib.decDigits_one a6];decide
 ·rw [Bd e,Bb (h.qb e).1];exact h.Gc
def fQ (s:List UInt8)(q:Rat):Prop:=gv s=0∧b4 s=q
instance (s:List UInt8)(q:Rat):Decidable (fQ s q):=inferInstanceAs (Decidable (_∧_))
theorem fQ.self {s:List UInt8}(h:gv s=0):fQ s (b4 s):=⟨h,rfl⟩
theorem fQ.text {s:List UInt8}{q:Rat}(h:fQ s q):cO q=s:=by
 have:=(DH h.1).text
 rwa [h.2] at this
theorem fQ.fit {s:List UInt8}{q:Rat}(h:fQ s q):e3 q=true:=by
 have:=(DH h.1).fit
 rwa [h.2] at this
theorem yZ {q:Rat}(h:e3 q=true):fQ (cO q) q:=adH h
theorem fQ.out {s:List UInt8}{q:Rat}(h:fQ s q):sV q=(s,0):=by unfold sV;rw [aG h.fit,h.text]
theorem fQ.Wf {a b:List UInt8}{x y:Rat}(a1:fQ a x)(ak:fQ b y):kc [a,b]=0:=by
 refine U7 (fun s ax=> ?_);simp at ax;rcases ax with rfl|rfl
 ·exact a1.1
 ·exact ak.1
theorem fQ.two {a b:List UInt8}{x y:Rat}(F:Rat→Rat→Rat)(a1:fQ a x)(ak:fQ b y):pZ F a b=sV (F x y):=by unfold pZ;rw [aG (a1.Wf ak),a1.2,ak.2]
theorem fQ.one {a:List UInt8}{x:Rat}(F:Rat→Rat)(a1:fQ a x):yp F a=sV (F x):=by unfold yp;rw [aG a1.1,a1.2]
def D (k:Nat)(q:Rat):Prop:=q.num.natAbs<10^k∧q.den<10^k
theorem D.mono {j k:Nat}{q:Rat}(h:D j q)(ao:j≤k):D k q:=
 ⟨hE h.1 (gp a6 ao),hE h.2 (gp a6 ao)⟩
theorem D.fit {k:Nat}{q:Rat}(h:D k q)(ao:k≤2000):e3 q=true:=by unfold e3;rw [ei,eX,eX];exact ⟨NQ (Qf h.1 ao),NQ (Qf h.2 ao)⟩
theorem fQ.nH {s:List UInt8}{q:Rat}(h:fQ s q){k:Nat}(ao:s.length≤k)(U:1≤k):D k q:=by
 have bs:=h.text;have au:(cO q).length≤k:=by rw [bs];exact ao
 unfold cO at au;rw [c2,c2] at au;refine ⟨hE (A2 _) (gp a6 J),?_⟩;by_cases hd:q.den=1
 ·rw [hd];exact hE (show 1<10^1 by decide) (gp a6 U)
 ·rw [az hd,fZ] at au;exact hE (A2 _) (gp a6 J)
theorem xj {n d:Int}{k:Nat}(hd:d≠0)(U:n.natAbs<10^k)(ab:d.natAbs<10^k):D k (Rat.divInt n d):=by
 obtain ⟨aD,aE,_⟩:=LP n d hd;refine ⟨?_,?_⟩
 ·rw [aD];exact rX (uz _ _) U
 ·rw [aE];exact rX (uz _ _) ab
theorem D.neg {q:Rat}{k:Nat}(h:D k q):D k (-q):=by refine ⟨?_,h.2⟩;show (-q.num).natAbs<_;rw [p7];exact h.1
theorem D.mul {p q:Rat}{j k:Nat}(aJ:D j p)(aB:D k q):D (j+k) (p*q):=by
 rw [←ML];refine xj (by have:=B3 p.den_nz q.den_nz;omega) ?_ ?_
 ·rw [kf];exact HY aJ.1 aB.1
 ·rw [k1];exact HY aJ.2 aB.2
theorem D.div {p q:Rat}{j k:Nat}(aJ:D j p)(aB:D k q)(aO:q≠0):D (j+k) (p/q):=by
 have aF:q.num≠0:=fun h=>aO (Rat.num_eq_zero.1 h);rw [←Ue p q aO];refine xj (Int.mul_ne_zero aF (by have:=p.den_nz;omega)) ?_ ?_
 ·rw [kf,k1];exact HY aJ.1 aB.2
 ·rw [kf,k1,oE];exact HY aB.1 aJ.2
theorem ajO {s:List UInt8}(h:gv s=0):iF s=false↔0≤b4 s:=by
 have aJ:=DH h;have U:=M1 (iF s) (dQ 0 (jO s));rw [←aJ.num] at U;rw [←Rat.num_nonneg];cases e:iF s
 ·rw [e] at U;simp at U;simpa using U
 ·have ab:(b4 s).num<0:=by have aw:=aJ.wF e;rw [e] at U;simpa [aw] using U
  exact ⟨fun q=>absurd q a6,fun q=>absurd ab J⟩
def b1 (f:Nat→Rat):Nat→Rat
 |0=>0
 |n+1=>b1 f n+f n
theorem fJ {f g:Nat→Rat}: ∀{n:Nat},(∀i,i<n→f i=g i)→b1 f n=b1 g n
 |0,_=>rfl
 |n+1,h=>by rw [b1,b1,fJ (fun i aa=>h i J),h n J]
theorem qz: ∀n:Nat,b1 (fun _=>0) n=0
 |0=>rfl
 |n+1=>by rw [b1,qz n,mN]
theorem Bo (f g:Nat→Rat): ∀n:Nat,b1 (fun i=>f i+g i) n=b1 f n+b1 g n
 |0=>by rw [b1,b1,b1,mN]
 |n+1=>by rw [b1,b1,b1,Bo f g n];rw [xH,xH,←xH (b1 g n),Rat.add_comm (b1 g n) (f n),xH]
theorem tQ (c:Rat)(f:Nat→Rat): ∀n:Nat,b1 (fun i=>c*f i) n=c*b1 f n
 |0=>by rw [b1,b1,vX]
 |n+1=>by rw [b1,b1,tQ c f n,Rat.mul_add]
theorem DK (c:Rat)(f:Nat→Rat): ∀n:Nat,b1 (fun i=>f i*c) n=b1 f n*c
 |0=>by rw [b1,b1,oF]
 |n+1=>by rw [b1,b1,DK c f n,Rat.add_mul]
theorem Mm (f:Nat→Nat→Rat)(m:Nat): ∀n:Nat,b1 (fun i=>b1 (fun j=>f i j) m) n=b1 (fun j=>b1 (fun i=>f i j) n) m
 |0=>by show (0:Rat)=b1 (fun j=>0) m;rw [qz]
 |n+1=>by rw [b1,Mm f m n,←Bo];exact fJ (fun i _=>rfl)
theorem Lw {f:Nat→Rat}: ∀{n:Nat},(∀i,i<n→0≤f i)→0≤b1 f n
 |0,_=>Rat.le_refl
 |n+1,h=>by rw [b1];exact Rat.add_nonneg (Lw (fun i aa=>h i J)) (h n J)
def h2 (a b:List Rat):Rat:=b1 (fun i=>a.getD i 0*b.getD i 0) a.length
def rM (m:List (List Rat))(k:Nat):List Rat:=m.map (fun row=>row.getD k 0)
def Oc (m:List (List Rat))(w:Nat):List (List Rat):=(List.range w).map (rM m)
def Qh (a b:List (List Rat))(w:Nat):List (List Rat):=a.map (fun row=>(Oc b w).map (h2 row))
theorem Ms (m:List (List Rat))(k i:Nat):(rM m k).getD i 0=(m.getD i []).getD k 0:=by
 unfold rM;by_cases h:i<m.length
 ·simp [List.getD,h]
 ·simp [List.getD,h]
theorem TS (m:List (List Rat))(k:Nat):(rM m k).length=m.length:=by simp [rM]
theorem qA {α β:Type}(f:α→β)(l:List α)(d:α)(e:β)(i:Nat)(aa:i<l.length):(l.map f).getD i e=f (l.getD i d):=by simp [List.getD,aa]
theorem tN {a b:List Rat}{n:Nat}(h:a.length=n):h2 a b=b1 (fun i=>a.getD i 0*b.getD i 0) n:=by unfold h2;rw [h]
abbrev dI:=List UInt8
def Re (v:List dI):Int:=if 40<v.length then 2 else kc v
def QU (w:Nat):List (List dI)→Int
 |[]=>0
 |r::rs=>if r.length=w then (if Re r=0 then QU w rs else Re r) else 3
def qU (m:List (List dI)):Nat:=(m.getD 0 []).length
def Av (m:List (List dI)):Int:=if 40<m.length then 2 else QU (qU m) m
def qj (m:List (List dI)):List (List Rat):=m.map (fun r=>r.map b4)
def acw (q:List (List Rat)):List (List dI)×Int:=if q.all (fun r=>r.all e3) then (q.map (fun r=>r.map cO),0) else ([],2)
def mulR (a b:List (List dI)):List (List dI)×Int:=if Av a≠0 then ([],Av a) else if Av b≠0 then ([],Av b) else if qU a=b.length then acw (Qh (qj a) (qj b) (qU b)) else ([],3)
structure V2 (m:List (List dI))(p q:Nat):Prop where
 rows:m.length=p
 pt: ∀r∈m,r.length=q
 sp:p≤40
 bj:m≠[]→q≤40
 ok: ∀r∈m,∀s∈r,gv s=0
structure Prod (a b:List (List dI))(t:List (List dI))(p q r K:Nat):Prop where
 res:mulR a b=(t,0)
 ok:V2 t p r
 val:qj t=Qh (qj a) (qj b) r
 nH: ∀x∈qj t,∀y∈x,D K y
end Go.ai.cz
namespace Go.ai.dL
def bX (f:Nat→Int):Nat→Int
 |0=>0
 |n+1=>bX f n+f n
theorem fW {f g:Nat→Int}: ∀{n:Nat},(∀i,i<n→f i=g i)→bX f n=bX g n
 |0,_=>rfl
 |n+1,h=>by rw [bX,bX,fW (fun i aa=>h i J),h n J]
theorem ry {f:Nat→Int}: ∀{n:Nat},(∀i,i<n→f i=0)→bX f n=0
 |0,_=>rfl
 |n+1,h=>by rw [bX,ry (fun i aa=>h i J),h n J];rfl
theorem tR (f g:Nat→Int): ∀n,bX (fun i=>f i+g i) n=bX f n+bX g n
 |0=>rfl
 |n+1=>by rw [bX,bX,bX,tR f g n];omega
theorem l3 (c:Int)(f:Nat→Int): ∀n,bX (fun i=>c*f i) n=c*bX f n
 |0=>by rw [bX,bX,gd]
 |n+1=>by rw [bX,bX,l3 c f n,xI]
theorem w7 {f:Nat→Int}{n:Nat}(k:Nat)(ao:k<n)(h: ∀i,i<n→i≠k→f i=0):bX f n=f k:=by
 induction n with
 |zero=>omega
 |succ n a8=>
  rw [bX];by_cases JY:k=n
  ·subst JY;rw [ry (fun i aa=>h i J J)];omega
  ·rw [a8 J (fun i aa b2=>h i J b2),h n J (fun e=>JY e.symm)];omega
theorem UP {f:Nat→Int}{n:Nat}(k l:Nat)(ao:k<n)(au:l<n)(ZR:k≠l)(h: ∀i,i<n→i≠k→i≠l→f i=0):bX f n=f k+f l:=by
 have e:bX f n=bX (fun i=>(if i=k then f k else 0)+(if i=k then 0 else f i)) n:=by
  refine fW (fun i aa=> ?_);by_cases qf:i=k
  ·subst qf;simp
  ·simp [qf]
 rw [e,tR];rw [w7 k ao (fun i aa b2=>by simp [b2]),w7 l au (fun i aa b2=>by
  by_cases qf:i=k
  ·simp [qf]
  ·simp [qf];exact h i aa qf b2)]
 have: ¬l=k:=fun e=>ZR e.symm;simp [this]
abbrev V:=Nat→Int
abbrev hO:=Nat→V
def nf:Nat→Int
 |0=>1
 |n+1=> -nf n
def skip (i:Nat)(D:hO):hO:=fun a c=>D (if a<i then a else a+1) (c+1)
def dU:Nat→hO→Int
 |0,_=>1
 |n+1,D=>bX (fun i=>nf i*(D i 0*dU n (skip i D))) (n+1)
def put (D:hO)(r:Nat)(v:V):hO:=fun a=>if a=r then v else D a
theorem wW: ∀{n:Nat} {D E:hO},(∀a c,a<n→c<n→D a c=E a c)→dU n D=dU n E
 |0,_,_,_=>rfl
 |n+1,D,E,h=>by rw [dU,dU];refine fW (fun i aa=> ?_);rw [h i 0 aa J,wW (D:=skip i D) (E:=skip i E) (fun a c a1 av=> ?_)];unfold skip;exact h _ _ (by split<;>omega) J
theorem Ds (D:hO)(r:Nat)(v:V):skip r (put D r v)=skip r D:=by
 funext a c;unfold skip put;have: ¬(if a<r then a else a+1)=r:=by split<;>omega
 rw [az this]
theorem DO {D:hO}{i r:Nat}{v:V}(h:i≠r):skip i (put D r v)=put (skip i D) (if r<i then r else r-1) (fun c=>v (c+1)):=by
 funext a c;unfold skip put;by_cases u1:r<i
 ·rw [aG u1];by_cases a1:a=r
  ·subst a1;rw [aG u1];simp
  ·by_cases Cu:a<i
   ·simp [Cu,a1]
   ·have: ¬a+1=r:=J;simp [Cu,a1,this]
 ·rw [az u1];by_cases a1:a=r-1
  ·subst a1;have U: ¬r-1<i:=J;have ab:r-1+1=r:=J;simp [U,ab]
  ·by_cases Cu:a<i
   ·have: ¬a=r:=J;simp [Cu,a1,this]
   ·have: ¬a+1=r:=J;simp [Cu,a1,this]
theorem HW: ∀(n:Nat) (D:hO) (r:Nat) (u v:V),r<n→dU n (put D r (fun c=>u c+v c))=dU n (put D r u)+dU n (put D r v)
 |0,_,_,_,_,h=>absurd h (gy _)
 |n+1,D,r,u,v,h=>by
  rw [dU,dU,dU,←tR];refine fW (fun i aa=> ?_);by_cases k3:i=r
  ·subst k3;rw [Ds,Ds,Ds];have e: ∀w:V,put D i w i 0=w 0:=fun w=>by simp [put]
   rw [e,e,e,Int.add_mul,xI]
  ·have e: ∀w:V,put D r w i 0=D i 0:=fun w=>by simp [put,k3]
   rw [DO k3,DO k3,DO k3,e,e,e,HW n _ _ _ _ (by split<;>omega),xI,xI]
theorem DV: ∀(n:Nat) (D:hO) (r:Nat) (k:Int) (v:V),r<n→dU n (put D r (fun c=>k*v c))=k*dU n (put D r v)
 |0,_,_,_,_,h=>absurd h (gy _)
 |n+1,D,r,k,v,h=>by
  rw [dU,dU,←l3];refine fW (fun i aa=> ?_);by_cases k3:i=r
  ·subst k3;rw [Ds,Ds];have e: ∀w:V,put D i w i 0=w 0:=fun w=>by simp [put]
   rw [e,e,oG k,jW]
  ·have e: ∀w:V,put D r w i 0=D i 0:=fun w=>by simp [put,k3]
   rw [DO k3,DO k3,e,e,DV n _ _ _ _ (by split<;>omega),oG k,oG k]
theorem RH (n:Nat)(D:hO)(r:Nat)(h:r<n):dU n (put D r (fun _=>0))=0:=by have:=DV n D r 0 (fun _=>0) h;simpa using this
theorem Na: ∀(n:Nat) (D:hO) (r:Nat),r+1<n→(∀c,c<n→D r c=D (r+1) c)→dU n D=0
 |0,_,_,h,_=>absurd h (gy _)
 |n+1,D,r,h,he=>by
  rw [dU,UP r (r+1) J h J (fun i aa U ab=> ?_)]
  ·have e:dU n (skip r D)=dU n (skip (r+1) D):=wW (fun a c a1 av=>by
    unfold skip;by_cases U:a<r
    ·rw [aG U,aG J]
    ·rw [az U];by_cases ab:a<r+1
     ·have:a=r:=J;subst this;rw [aG ab];exact (he _ J).symm
     ·rw [az ab])
   rw [e,he 0 J,nf,p9];omega
  ·have:=Na n (skip i D) (if r<i then r else r-1) (by split<;>omega) (fun c av=>by
    unfold skip;by_cases u1:r<i
    ·rw [aG u1,aG (show r<i from u1),aG (show r+1<i by omega)];exact he _ J
    ·have aD: ¬r-1<i:=J;have aE: ¬r-1+1<i:=J;rw [az u1,az aD,az aE,show r-1+1=r by omega];exact he _ J)
   rw [this,gd,gd]
theorem MS (D:hO){r s:Nat}(u v:V)(h:r≠s):put (put D r u) s v=put (put D s v) r u:=by
 funext a;unfold put;by_cases U:a=s
 ·have: ¬a=r:=fun e=>h (e.symm.trans U);simp [U];intro e;exact absurd e.symm h
 ·simp [U]
theorem MT (D:hO)(r:Nat):put D r (D r)=D:=by
 funext a;unfold put;split
 ·rename_i h;rw [h]
 ·rfl
theorem Xn (n:Nat)(D:hO)(r:Nat)(u v:V)(h:r+1<n):dU n (put (put D r u) (r+1) v)= -dU n (put (put D r v) (r+1) u):=by
 have key: ∀w:V,dU n (put (put D r w) (r+1) w)=0:=fun w=>Na n _ r h (fun c _=>by unfold put;simp);have aO:=key (fun c=>u c+v c);have NR: ∀w:V,dU n (put (put D r (fun c=>u c+v c)) (r+1) w)=dU n (put (put D r u) (r+1) w)+dU n (put (put D r v) (r+1) w):=fun w=>by rw [MS D _ w J,HW n _ _ _ _ J,MS D u w J,MS D v w J]
 rw [HW n _ _ _ _ h,NR,NR] at aO;have U:=key u;have ab:=key v;omega
theorem Nu: ∀(k:Nat) (n:Nat) (D:hO) (r:Nat),r+(k+1)<n→(∀c,c<n→D r c=D (r+(k+1)) c)→dU n D=0
 |0,n,D,r,h,he=>Na n D r h he
 |k+1,n,D,r,h,he=>by
  have e:D=put (put D (r+(k+1)) (D (r+(k+1)))) (r+(k+1)+1) (D (r+(k+1)+1)):=by rw [MT,MT]
  rw [e,Xn n D (r+(k+1)) _ _ J,Nu k n _ r J (fun c av=> ?_)]
  ·rfl
  ·have U: ¬r=r+(k+1)+1:=J;have ab: ¬r=r+(k+1):=J;have aw: ¬r+(k+1)=r+(k+1)+1:=J;unfold put;rw [az U,az ab,az aw,aG rfl];exact he c av
theorem Xm (n:Nat)(D:hO){r s:Nat}(ad:r<n)(ax:s<n)(b2:r≠s):dU n (put D r (D s))=0:=by
 rcases Nat.lt_or_gt_of_ne b2 with h|h
 ·refine Nu (s-r-1) n _ r J (fun c _=> ?_);rw [show r+(s-r-1+1)=s by omega];have: ¬s=r:=fun e=>b2 e.symm;simp [put,this]
 ·refine Nu (r-s-1) n _ s J (fun c _=> ?_);rw [show s+(r-s-1+1)=r by omega];have: ¬s=r:=fun e=>b2 e.symm;simp [put,this]
theorem Uc (n:Nat)(D:hO)(r:Nat)(ad:r<n)(t:V): ∀k,k≤n→dU n (put D r (fun c=>bX (fun i=>t i*D i c) k))=if r<k then t r*dU n D else 0
 |0,_=>by rw [az (gy _)];exact RH n D r ad
 |k+1,ao=>by
  have a8:=Uc n D r ad t k J;have e:(fun c=>bX (fun i=>t i*D i c) (k+1))=(fun c=>(fun c=>bX (fun i=>t i*D i c) k) c+(fun c=>t k*D k c) c):=rfl;rw [e,HW n D r _ _ ad,a8,DV n D r _ _ ad];by_cases Ps:k=r
  ·subst Ps;rw [az J,aG J,MT];omega
  ·rw [Xm n D ad J (fun e=>Ps e.symm),gd,s6];by_cases U:r<k
   ·rw [aG U,aG J]
   ·rw [az U,az J]
theorem GO {n:Nat}{D:hO}{r:Nat}(ad:r<n){t w:V}(h: ∀c,c<n→w c=bX (fun i=>t i*D i c) n):dU n (put D r w)=t r*dU n D:=by
 have:=Uc n D r ad t n (bR _);rw [aG ad] at this;rw [←this];refine wW (fun a c _ av=> ?_);unfold put;split
 ·exact h c av
 ·rfl
def zf:hO:=fun a c=>if a=c then 1 else 0
theorem Ud: ∀n:Nat,dU n zf=1
 |0=>rfl
 |n+1=>by rw [dU,w7 0 J (fun i aa b2=>by simp [zf,b2])];have:dU n (skip 0 zf)=dU n zf:=wW (fun a c _ _=>by simp [skip,zf]);rw [this,Ud n];simp [nf,zf]
theorem R3 {f:Nat→Int}{B:Nat}: ∀{n:Nat},(∀i,i<n→(f i).natAbs≤B)→(bX f n).natAbs≤n*B
 |0,_=>by simp [bX]
 |n+1,h=>by rw [bX];have U:=R3 (n:=n) (fun i aa=>h i J);have ab:=h n J;have aw:=Int.natAbs_add_le (bX f n) (f n);rw [ef];omega
theorem Q1: ∀n,(nf n).natAbs=1
 |0=>rfl
 |n+1=>by rw [nf,p7,Q1 n]
def pw:Nat→Nat
 |0=>1
 |n+1=>(n+1)*pw n
theorem L7 {B:Nat}: ∀{n:Nat} {D:hO},(∀a c,a<n→c<n→(D a c).natAbs≤B)→(dU n D).natAbs≤pw n*B^n
 |0,_,_=>by simp [dU,pw]
 |n+1,D,h=>by
  rw [dU];have:=R3 (f:=fun i=>nf i*(D i 0*dU n (skip i D))) (B:=B*(pw n*B^n)) (n:=n+1) (fun i aa=>by
   rw [kf,kf,Q1,rZ];refine jB (h i 0 aa J) (L7 (fun a c a1 av=> ?_));unfold skip;exact h _ _ (by split<;>omega) J)
  refine dT this ?_;rw [pw,h4];have e:(n+1)*(B*(pw n*B^n))=(n+1)*pw n*(B^n*B):=by rw [Nat.mul_left_comm B,gM B,ke]
  omega
def rU (n:Nat)(D:hO)(d:Int)(t0 t:V):Prop:= ∀c,c<n→bX (fun i=>t i*D i c) n=d*t0 c
theorem VK {n:Nat}{D:hO}{d s:Int}{t0 t:V}(hd:d≠0)(ax:s*s=1)(e0:dU n D=s*d)(h:rU n D d t0 t){i:Nat}(aa:i<n):t i=s*dU n (put D i t0):=by
 have U:=GO (w:=fun c=>d*t0 c) aa (fun c av=>(h c av).symm);rw [DV n D i d t0 aa,e0] at U;have ab:d*dU n (put D i t0)=d*(s*t i):=by rw [U,oG,lp (t i) d,oG]
 have aw:=Int.eq_of_mul_eq_mul_left hd ab;rw [aw,←jW,ax,lq]
theorem Tk {n:Nat}{D:hO}{d s:Int}{t0 t:V}(hd:d≠0)(ax:s*s=1)(e0:dU n D=s*d)(h:rU n D d t0 t){r:Nat}(ad:r<n):dU n (put D r t0)=s*t r:=by rw [VK hd ax e0 h ad,←jW,ax,lq]
theorem afo {n:Nat}{D:hO}{r:Nat}(ad:r<n)(v:V)(t:V)(c:Nat):bX (fun i=>t i*put D r v i c) n=bX (fun i=>t i*D i c) n-t r*D r c+t r*v c:=by
 have e: ∀i,i<n→t i*put D r v i c=t i*D i c+(if i=r then t r*v c-t r*D r c else 0):=by
  intro i aa;by_cases k3:i=r
  ·subst k3;simp [put];omega
  ·simp [put,k3]
 rw [fW e,tR,w7 (f:=fun i=>if i=r then t r*v c-t r*D r c else 0) r ad (fun i aa b2=>by simp [b2])];simp;omega
theorem Tl {n:Nat}{D:hO}{d s:Int}{rm hz sz jL:V}(hd:d≠0)(ax:s*s=1)(e0:dU n D=s*d)(av:rU n D d rm hz)(ae:rU n D d sz jL){r:Nat}(ad:r<n)(aJ:hz r≠0):
 (∀i,i<n→i≠r→d∣jL i*hz r-hz i*jL r)∧rU n (put D r rm) (hz r) sz (fun i=>if i=r then jL r else (jL i*hz r-hz i*jL r)/d):=by
 have Yk:=Tk hd ax e0 av ad
 --the numerators are a solution of d times the new equation
 let N:V:=fun i=>if i=r then d*jL r else jL i*hz r-hz i*jL r
 have jX: ∀c,c<n→bX (fun i=>N i*put D r rm i c) n=d*hz r*sz c:=by
  intro c tf;rw [afo ad];have e: ∀i,i<n→N i*D i c=(hz r*(jL i*D i c)+(-(jL r))*(hz i*D i c))+(if i=r then d*jL r*D r c else 0):=by
   intro i aa;by_cases k3:i=r
   ·subst k3;simp only [N,fS];have:hz i*(jL i*D i c)+ -jL i*(hz i*D i c)=0:=by rw [p9,oG];omega
    omega
   ·simp only [N,k3,gW,s6];rw [Int.sub_mul,p9,lp (jL i) (hz r),jW,lp (hz i) (jL r),jW];omega
  rw [fW e,tR,tR,l3,l3,ae c tf,av c tf,w7 (f:=fun i=>if i=r then d*jL r*D r c else 0) r ad (fun i aa b2=>by simp [b2])];simp only [N,fS];have aD:hz r*(d*sz c)=d*hz r*sz c:=by rw [←jW,lp (hz r) d]
  have aE: -jL r*(d*rm c)= -(d*jL r*rm c):=by rw [p9,←jW,lp (jL r) d]
  rw [aD,aE];omega
 have hex: ∀i,i<n→N i=d*(s*dU n (put (put D r rm) i sz)):=by
  intro i aa;have U:=GO (D:=put D r rm) (w:=fun c=>d*hz r*sz c) aa (fun c tf=>(jX c tf).symm);rw [DV n _ i (d*hz r) sz aa,Yk] at U;have ab:hz r*(d*(s*dU n (put (put D r rm) i sz)))=hz r*N i:=by
   have aw:s*(d*hz r*dU n (put (put D r rm) i sz))=s*(N i*(s*hz r)):=by rw [U]
   have bg:s*(N i*(s*hz r))=hz r*N i:=by rw [oG,←jW s s,ax,lq,lp]
   rw [bg] at aw;rw [←aw];rw [jW d,oG s d,oG s (hz r),oG d (hz r)]
  exact (Int.eq_of_mul_eq_mul_left aJ ab).symm
 refine ⟨fun i aa b2=> ?_,?_⟩
 ·have:=hex i aa;simp only [N,b2,gW] at this;exact ⟨_,this⟩
 ·intro c tf;have U:=jX c tf;have ab: ∀i,i<n→N i*put D r rm i c=d*((fun i=>if i=r then jL r else (jL i*hz r-hz i*jL r)/d) i*put D r rm i c):=by
   intro i aa;by_cases k3:i=r
   ·subst k3;simp only [N,fS];rw [jW]
   ·have aw:=hex i aa;simp only [N,k3,gW] at aw⊢;have bg:(jL i*hz r-hz i*jL r)/d=s*dU n (put (put D r rm) i sz):=by rw [aw,EL _ hd]
    rw [bg,←jW,←aw]
  rw [fW ab,l3,jW d] at U;exact Int.eq_of_mul_eq_mul_left hd U
def pR (x d:Int):Int:=if (decide (x<0) !=decide (d<0))=true then-((x.natAbs/d.natAbs:Nat):Int) else ((x.natAbs/d.natAbs:Nat):Int)
theorem Hj {q d:Int}(hd:d≠0):pR (d*q) d=q:=by
 have aF:(d*q).natAbs/d.natAbs=q.natAbs:=by rw [kf,Nat.mul_div_cancel_left _ J]
 unfold pR;rw [aF];rcases xF q 0 with aB|aB|aB
 ·rcases Int.lt_or_gt_of_ne hd with h|h
  ·have U: ¬d*q<0:=Int.not_lt.2 (vY (Int.mul_pos_of_neg_of_neg h aB));simp [h,U];omega
  ·have U:d*q<0:=Int.mul_neg_of_pos_of_neg h aB;have ab: ¬d<0:=J;simp [U,ab];omega
 ·subst aB;simp
 ·rcases Int.lt_or_gt_of_ne hd with h|h
  ·have U:d*q<0:=Int.mul_neg_of_neg_of_pos h aB;simp [h,U];omega
  ·have U: ¬d*q<0:=Int.not_lt.2 (vY (vZ h aB));have ab: ¬d<0:=J;simp [U,ab];omega
theorem SC {x d:Int}(hd:d≠0)(h:d∣x):pR x d=x/d:=by obtain ⟨q,rfl⟩:=h;rw [Hj hd,EL _ hd]
abbrev ck:=List (List Int)
def aq (T:ck)(i j:Nat):Int:=(T.getD i []).getD j 0
def xa (R K:List Int)(p f d:Int):List Int:=(List.range R.length).map (fun j=>pR (R.getD j 0*p-f*K.getD j 0) d)
def n9 (T:ck)(k c:Nat)(d:Int):ck:=(List.range T.length).map (fun i=>if i=k then T.getD k [] else xa (T.getD i []) (T.getD k []) (aq T k c) (aq T i c) d)
theorem fG {α:Type}(l:List α)(d x:α)(i j:Nat):(l.set i x).getD j d=if j=i∧i<l.length then x else l.getD j d:=by
 by_cases h:j=i
 ·subst h;by_cases ab:j<l.length
  ·simp [List.getD,ab]
  ·have:l.length≤j:=J;simp [List.getD,ab,this]
 ·have: ¬i=j:=fun e=>h e.symm;simp [List.getD,h,B0,this]
theorem L8 (T:ck)(k c:Nat)(d:Int):(n9 T k c d).length=T.length:=by simp [n9]
theorem ajt (T:ck)(k c:Nat)(d:Int){i:Nat}(aa:i<T.length):(n9 T k c d).getD i []=if i=k then T.getD k [] else xa (T.getD i []) (T.getD k []) (aq T k c) (aq T i c) d:=by unfold n9;simp [List.getD,aa]
theorem TY (T:ck)(k c:Nat)(d:Int){L:Nat}(cc: ∀x∈T,x.length=L){i j:Nat}(aa:i<T.length)(ae:j<L):aq (n9 T k c d) i j=if i=k then aq T k j else pR (aq T i j*aq T k c-aq T i c*aq T k j) d:=by
 unfold aq;rw [ajt T k c d aa];have au:(T.getD i []).length=L:=cc _ (by simp [List.getD,aa]);by_cases h:i=k
 ·rw [aG h,aG h]
 ·rw [az h,az h];unfold xa;rw [au];have: ∀f:Nat→Int,((List.range L).map f).getD j 0=f j:=fun f=>by simp [List.getD,ae]
  rw [this];rfl
theorem ahn (R K:List Int)(p f d:Int):(xa R K p f d).length=R.length:=by simp [xa]
theorem L9 (T:ck)(k c:Nat)(d:Int){L:Nat}(ao:k<T.length)(cc: ∀x∈T,x.length=L): ∀x∈n9 T k c d,x.length=L:=by
 intro x ar;obtain ⟨i,aa,rfl⟩:=da.1 ar;have aa:i<T.length:=by simpa using aa
 split
 ·exact cc _ (by simp [List.getD,ao])
 ·rw [ahn];exact cc _ (by simp [List.getD,aa])
end Go.ai.dL
namespace Go.ai.cz
open Go.ai.c8 Go.ai.dL
theorem e9 {α:Type}{l:List α}{j:Nat}(d:α)(h:j<l.length):l.getD j d=l[j]:=by simp [List.getD,h]
theorem dx {α:Type}{l:List α}{j:Nat}(d:α)(h:j<l.length):l.getD j d∈l:=by rw [e9 d h];exact List.getElem_mem h
theorem tU {α:Type}{l r:List α}{j:Nat}(d:α)(h:j<l.length):(l++r).getD j d=l.getD j d:=by simp [List.getD,hQ h]
theorem Nd {α:Type}{l:List α}{x d:α}:(l++[x]).getD l.length d=x:=by simp [List.getD]
theorem Vp (q:Rat):q*(q.den:Rat)=(q.num:Rat):=by
 have h:((q.den:Int):Rat)≠0:=fun e=>q.den_nz (by
  have:=congrArg Rat.num e;simpa using this)
 have ab:=Rat.num_divInt_den q;rw [Rat.divInt_eq_div] at ab
 conv=>lhs;lhs;rw [←ab]
 rw [←v7,Rat.div_mul_cancel h]
def hp:Nat→List Rat→Nat
 |f,[]=>f
 |f,q::r=>hp (f*(q.den/Nat.gcd f q.den)) r
theorem XX (f d:Nat):f∣f*(d/Nat.gcd f d)∧d∣f*(d/Nat.gcd f d):=by refine ⟨Nat.dvd_mul_right _ _,?_⟩;obtain ⟨a,a1⟩:=Nat.gcd_dvd_left f d;have ab:Nat.gcd f d*(d/Nat.gcd f d)=d:=Nat.mul_div_cancel' (B4 f d);refine ⟨a,?_⟩;generalize d/Nat.gcd f d=b at*;generalize Nat.gcd f d=g at*;rw [a1,←ab];rw [ke,ke,gM a b]
theorem Uj: ∀(l:List Rat) (f:Nat),f∣hp f l∧ ∀q∈l,q.den∣hp f l
 |[],f=>⟨Nat.dvd_refl _,fun q aB=>by simp at aB⟩
 |a::r,f=>by
  rw [hp];obtain ⟨U,ab⟩:=Uj r (f*(a.den/Nat.gcd f a.den));obtain ⟨s1,s2⟩:=XX f a.den;refine ⟨Nat.dvd_trans s1 U,fun q aB=> ?_⟩;rcases fT.1 aB with rfl|aB
  ·exact Nat.dvd_trans s2 U
  ·exact ab q aB
theorem HK: ∀(l:List Rat) (f:Nat),0<f→0<hp f l
 |[],f,h=>h
 |a::r,f,h=>by
  rw [hp];refine HK r _ (Nat.mul_pos h ?_);have ab:Nat.gcd f a.den*(a.den/Nat.gcd f a.den)=a.den:=Nat.mul_div_cancel' (B4 f a.den);have:=a.den_pos;rcases nD (a.den/Nat.gcd f a.den) with e|e
  ·rw [e,rY] at ab;omega
  ·exact e
theorem Vh {k:Nat}: ∀(l:List Rat) (f:Nat),(∀q∈l,q.den<10^k)→hp f l≤f*10^(k*l.length)
 |[],f,_=>by rw [hp,kd,rY,xD,q3];exact bR _
 |a::r,f,h=>by rw [hp];refine dT (Vh r _ (fun q aB=>h q (by simp [aB]))) ?_;have U:a.den/Nat.gcd f a.den≤10^k:=dT (uz _ _) (q5 (h a bZ));rw [fZ,gN,q3,oE,jm,←ke];exact fo _ (h5 _ U)
def hn (l:List Rat):List Int:=l.map (fun q=>q.num*((hp 1 l/q.den:Nat):Int))
theorem He (l:List Rat):(hn l).length=l.length:=by simp [hn]
theorem TN {l:List Rat}{q:Rat}(h:q∈l):((q.num*((hp 1 l/q.den:Nat):Int):Int):Rat)=((hp 1 l:Nat):Rat)*q:=by obtain ⟨k,ao⟩:=(Uj l 1).2 q h;rw [ao,Nat.mul_div_cancel_left _ q.den_pos,oH,Rat.natCast_mul];have U:q*(q.den:Rat)=(q.num:Rat):=Vp q;have ab:((k:Int):Rat)=(k:Rat):=v7 k;rw [ab,←U];grind
theorem Oo: ∀{n:Nat},n≤40→pw n≤100^n
 |0,_=>bR _
 |n+1,h=>by rw [pw,h4,gM];exact jB (Oo J) J
theorem Xo {n k:Nat}(h:n≤40):pw n*(10^k)^n≤10^((k+2)*n):=by refine dT (fo _ (Oo h)) ?_;rw [←Nat.mul_pow,Nat.pow_mul,jm];refine vW ?_ n;rw [gM];exact bR _
theorem aiz {a x y:Rat}(a1:a≠0)(h:a*x=a*y):x=y:=by
 have U:a⁻¹ *(a*x)=a⁻¹ *(a*y):=by rw [h]
 rwa [←zw,←zw,Rat.inv_mul_cancel a a1,r0,r0] at U
theorem DL (f:Nat→Int): ∀n,((bX f n:Int):Rat)=b1 (fun i=>((f i:Int):Rat)) n
 |0=>rfl
 |n+1=>by rw [bX,b1,B5,DL f n]
theorem Vo {x:Int}(h:x≠0):(x:Rat)≠0:=fun e=>h (by
 have:=congrArg Rat.num e;simpa using this)
theorem Xr {k:Nat}{q:Rat}(U:(Lib.decDigits q.num.natAbs).length≤k)(ab:(Lib.decDigits q.den).length≤k):D k q:=
 ⟨hE (A2 _) (gp a6 U),hE (A2 _) (gp a6 ab)⟩
end Go.ai.cz
namespace Go.ai.cz
open Go.ai.c8
structure cW where
 kind:Int
 eI:Int
 info:Int
 next:List Int
 eH:List dI
 dC:dI
 deriving DecidableEq
def aK:cW:=⟨0,0,0,[],[],[]⟩
abbrev aT:=List cW
def yM (N i:Nat)(k:Int):Bool:=decide (k≤(i:Int))||decide ((N:Int)≤k)
def xi (N i:Nat)(l:List Int):Int:=if l.length=0 then 3 else if 6<l.length then 2 else if l.any (yM N i)=true then 3 else 0
def lG (N i:Nat)(n:cW):Int:=
 if n.kind=0 then (if n.eI≠0∨n.info≠0∨n.next≠[]∨n.eH≠[] then 3 else gv n.dC)
 else if n.kind=1 then (if n.eI≠0∨n.info≠0∨n.dC≠[] then 3 else if xi N i n.next≠0 then xi N i n.next else if n.eH.length≠n.next.length then 3 else sS n.eH)
 else if n.kind=2 then (if n.eH≠[]∨n.dC≠[] then 3 else if (n.eI≠0∧n.eI≠1)∨n.info<0∨10≤n.info then 4 else xi N i n.next)
 else 1
def qF (N:Nat):Nat→aT→Int
 |_,[]=>0
 |i,n::r=>if lG N i n=0 then qF N (i+1) r else lG N i n
def named (t:aT)(k:Nat):Nat:=((t.flatMap cW.next).filter (fun x=>decide (x=(k:Int)))).length
def rH (a b:cW):Bool:=decide (a.kind=2) && (decide (b.kind=2) && (decide (a.eI=b.eI) && (decide (a.info=b.info) && decide (a.next.length≠b.next.length))))
def vK (t:aT):Int:=
 if 120<t.length then 2 else if t.length=0 then 8 else if qF t.length 0 t≠0 then qF t.length 0 t
 else if (List.range t.length).any (fun k=>decide (k≠0) && decide (named t k≠1))=true then 3
 else if t.any (fun a=>t.any (rH a))=true then 3 else 0
def own (p:Int)(n:cW):Bool:=decide (n.kind=2) && decide (n.eI=p)
def e7 (p i:Int)(n:cW):Bool:=own p n && decide (n.info=i)
def Bt (t:aT)(p i:Int):Nat:=t.findIdx (e7 p i)
def di (t:aT)(p:Int):List Int:=((List.range 10).map (fun i:Nat=>(i:Int))).filter (fun i=>t.any (e7 p i))
def cD (t:aT)(p i:Int):Nat:=(t.getD (Bt t p i) aK).next.length
def tZ (t:aT)(p:Int):List Int:=(di t p).map (fun i=>((cD t p i:Nat):Int))
structure Valid (t:aT):Prop where
 le:t.length≤120
 ne:t.length≠0
 nodes: ∀i,i<t.length→lG t.length i (t.getD i aK)=0
 once: ∀k,k<t.length→k≠0→named t k=1
 same: ∀a∈t,∀b∈t,rH a b=false
theorem Tb (N:Nat): ∀(t:aT) (i:Nat),qF N i t=0→ ∀j,j<t.length→lG N (i+j) (t.getD j aK)=0
 |[],i,_,j,ae=>absurd ae (gy _)
 |n::r,i,h,j,ae=>by
  rw [qF] at h;split at h
  ·rename_i aO;cases j with
   |zero=>exact aO
   |succ j=>
    have:=Tb N r (i+1) h j (by simpa using ae);rw [show i+(j+1)=i+1+j by omega];exact this
  ·rename_i aO;exact absurd h aO
theorem US {t:aT}(h:vK t=0):Valid t:=by
 unfold vK at h;split at h
 ·cases h
 split at h
 ·cases h
 split at h
 ·rename_i aw;exact absurd h aw
 split at h
 ·cases h
 split at h
 ·cases h
 rename_i U ab aw bg bF;refine ⟨J,ab,fun i aa=> ?_,fun k ao aO=> ?_,fun a a1 b ak=> ?_⟩
 ·have:=Tb t.length t 0 (jV.1 aw) i aa
  rwa [c1] at this
 ·rw [pn,r1] at bg;have:=bg k (by simpa using ao);simp only [ei,eX,not_and] at this;exact jV.1 (this aO)
 ·rw [pn,r1] at bF;have:=bF a a1;rw [nC] at this;cases av:rH a b
  ·rfl
  ·exact absurd ⟨b,ak,av⟩ this
theorem wQ {N i:Nat}{l:List Int}(h:xi N i l=0):1≤l.length∧l.length≤6∧ ∀k∈l,(i:Int)<k∧k<N:=by
 unfold xi at h;split at h
 ·cases h
 split at h
 ·cases h
 split at h
 ·cases h
 rename_i U ab aw;refine ⟨J,J,fun k ao=> ?_⟩;rw [pn,r1] at aw;have:=aw k ao;unfold yM at this;simp only [uE,eX,not_or] at this;omega
theorem Valid.child {t:aT}(h:Valid t){i:Nat}(aa:i<t.length):((t.getD i aK).kind=0∧(t.getD i aK).next=[])∨(((t.getD i aK).kind=1∨(t.getD i aK).kind=2)∧xi t.length i (t.getD i aK).next=0):=by
 have aF:=h.nodes i aa;unfold lG at aF;split at aF
 ·rename_i aO;split at aF
  ·cases aF
  ·rename_i U;simp only [not_or] at U;exact .inl ⟨aO,jV.1 U.2.2.1⟩
 ·split at aF
  ·rename_i U;split at aF
   ·cases aF
   split at aF
   ·rename_i ab;exact absurd aF ab
   rename_i ab aw;exact .inr ⟨.inl U,jV.1 aw⟩
  ·split at aF
   ·rename_i ab;split at aF
    ·cases aF
    split at aF
    ·cases aF
    exact .inr ⟨.inr ab,aF⟩
   ·cases aF
theorem Valid.behind {t:aT}(h:Valid t){i:Nat}(aa:i<t.length): ∀k∈(t.getD i aK).next,(i:Int)<k∧k<t.length:=by
 rcases h.child aa with ⟨_,ab⟩|⟨_,ab⟩
 ·rw [ab];intro k ao;simp at ao
 ·exact (wQ ab).2.2
theorem Valid.Ou {t:aT}(h:Valid t){i:Nat}(aa:i<t.length):(t.getD i aK).next.length≤6:=by
 rcases h.child aa with ⟨_,ab⟩|⟨_,ab⟩
 ·rw [ab];exact cf _
 ·exact (wQ ab).2.1
theorem Valid.Gg {t:aT}(h:Valid t){i:Nat}(aa:i<t.length){p:Int}(aj:own p (t.getD i aK)=true):0≤(t.getD i aK).info∧(t.getD i aK).info<10∧1≤(t.getD i aK).next.length:=by
 unfold own at aj;rw [ei,eX,eX] at aj;have aF:=h.nodes i aa;unfold lG at aF;rw [az (by rw [aj.1];decide),az (by rw [aj.1];decide),aG aj.1] at aF;split at aF
 ·cases aF
 split at aF
 ·cases aF
 rename_i U ab;simp only [not_or] at ab;have:=wQ aF;exact ⟨J,J,this.1⟩
theorem Valid.width {t:aT}(h:Valid t){i j:Nat}(aa:i<t.length)(ae:j<t.length){p:Int}(Fx:own p (t.getD i aK)=true)(Fz:own p (t.getD j aK)=true)(he:(t.getD i aK).info=(t.getD j aK).info):(t.getD i aK).next.length=(t.getD j aK).next.length:=by have av:=h.same _ (dx aK aa) _ (dx aK ae);unfold own at Fx Fz;rw [ei,eX,eX] at Fx Fz;unfold rH at av;rw [fv Fx.1,fv Fz.1,fv (by rw [Fx.2,Fz.2]),fv he,lO,lO,lO,lO,zx] at av;exact jV.1 av
def jy (N:Nat)(l:List Int):List Int:=(List.range N).map (fun k:Nat=>(((l.filter (fun x=>decide (x=(k:Int)))).length:Nat):Int))
theorem yN (N:Nat)(l:List Int):(jy N l).length=N:=by simp [jy]
theorem Mr {N:Nat}{l:List Int}{k:Nat}(ao:k<N):(jy N l).getD k 0=(((l.filter (fun x=>decide (x=(k:Int)))).length:Nat):Int):=by simp [jy,List.getD,ao]
theorem Xb (N:Nat):jy N []=List.replicate N 0:=by apply lo (by simp [jy]);intro i U ab;simp [jy]
theorem aiW {N:Nat}(l:List Int){x:Int}(aO:0≤x)(U:x<N):jy N (l++[x])=(jy N l).set x.toNat ((jy N l).getD x.toNat 0+1):=by
 rw [Mr J];apply lo (by simp [jy]);intro i i1 i2;rw [xJ];have aa:i<N:=by simpa [jy] using i1
 simp only [jy,mf,zy,List.filter_append,c2];by_cases h:x.toNat=i
 ·rw [aG h,h];have:x=(i:Int):=J;simp [this]
 ·rw [az h];have: ¬x=(i:Int):=J;simp [this]
theorem Xa (N:Nat)(l:List Int)(k:Nat):0≤(jy N l).getD k 0∧(jy N l).getD k 0≤l.length:=by
 by_cases ao:k<N
 ·rw [Mr ao];have:=xK (fun x=>decide (x=(k:Int))) l;omega
 ·have:(jy N l).getD k 0=0:=by simp [jy,List.getD,ao]
  rw [this];omega
theorem R0 (t:aT){k:Nat}(ao:k<t.length):(jy t.length (t.flatMap cW.next)).getD k 0=((named t k:Nat):Int):=Mr ao
theorem ajL {t:aT}(aO:t.length≠0):((jy t.length (t.flatMap cW.next)).drop 1).any (fun n=>decide (n≠1))=(List.range t.length).any (fun k=>decide (k≠0) && decide (named t k≠1)):=by
 rw [s3,nC,nC];constructor
 ·rintro ⟨x,ar,h⟩;obtain ⟨i,aa,rfl⟩:=B6.1 ar;rw [uB,yN] at aa;refine ⟨1+i,by simp;omega,?_⟩;rw [List.getElem_drop] at h;have e:=R0 t (k:=1+i) J;rw [e9 0 (by rw [yN];omega)] at e;rw [e] at h;simp only [ei,eX] at h⊢;exact ⟨J,J⟩
 ·rintro ⟨k,ao,h⟩;have ao:k<t.length:=by simpa using ao
  simp only [ei,eX] at h;have e:=R0 t ao;refine ⟨_,B6.2 ⟨k-1,by rw [uB,yN];omega,I⟩,?_⟩;rw [List.getElem_drop];rw [e9 0 (by rw [yN];omega)] at e;have aE:(jy t.length (t.flatMap cW.next))[1+(k-1)]'(by rw [yN];omega)=((named t k:Nat):Int):=by rw [←e];congr 1;omega
  rw [aE,eX];omega
abbrev uu:=List (Int×Int×Nat)
def HZ (t:aT):Prop:= ∀a∈t,∀b∈t,rH a b=false
structure lL (t:aT)(S:uu):Prop where
 free:HZ t
 from_: ∀e∈S,∃b∈t,b.kind=2∧b.eI=e.1∧b.info=e.2.1∧b.next.length=e.2.2
 all: ∀a∈t,a.kind=2→ ∃e∈S,e.1=a.eI∧e.2.1=a.info
theorem TQ {a b:cW}:rH a b=true↔a.kind=2∧b.kind=2∧a.eI=b.eI∧a.info=b.info∧a.next.length≠b.next.length:=by unfold rH;simp only [ei,eX]
theorem Mq {a b:cW}:rH a b=false↔(a.kind=2→b.kind=2→a.eI=b.eI→a.info=b.info→a.next.length=b.next.length):=by
 rw [←pn,TQ];constructor
 ·intro h U ab aw bg;exact jV.1 (fun bF=>h ⟨U,ab,aw,bg,bF⟩)
 ·rintro h ⟨U,ab,aw,bg,bF⟩;exact bF (h U ab aw bg)
theorem lL.nil:lL [] []:=⟨fun a a1=>by simp at a1,fun e he=>by simp at he,fun a a1=>by simp at a1⟩
theorem Lv {t:aT}{n:cW}(h:HZ t)(aF: ∀a∈t,n.kind=2→a.kind=2→a.eI=n.eI→a.info=n.info→a.next.length=n.next.length):HZ (t++[n]):=by
 intro a zP b sj;rw [Mq];intro eF eG gB ql;rcases gz.1 zP with a1|a1<;>rcases gz.1 sj with ak|ak
 ·exact Mq.1 (h a a1 b ak) eF eG gB ql
 ·have e:=hR.1 ak;rw [e] at eG gB ql⊢;exact aF a a1 eG eF gB ql
 ·have e:=hR.1 a1;rw [e] at eF gB ql⊢;exact (aF b ak eF eG gB.symm ql.symm).symm
 ·rw [hR.1 a1,hR.1 ak]
theorem lL.skip {t:aT}{S:uu}{n:cW}(h:lL t S)(ao:n.kind≠2):lL (t++[n]) S:=
 ⟨Lv h.free (fun a _ U=>absurd U ao),fun e he=>by
  obtain ⟨b,ak,q⟩:=h.from_ e he;exact ⟨b,ux _ ak,q⟩,fun a a1 U=>by
  rcases gz.1 a1 with a1|a1
  ·exact h.all a a1 U
  ·rw [hR.1 a1] at U;exact absurd U ao⟩
theorem lL.JS {t:aT}{S:uu}{n:cW}{e:Int×Int×Nat}(h:lL t S)(he:e∈S)(U:e.1=n.eI)(ab:e.2.1=n.info)(aw:e.2.2=n.next.length):lL (t++[n]) S:=
 ⟨Lv h.free (fun a a1 bO bW dq dZ=>by
  obtain ⟨b,ak,cY,eT,lz,l0⟩:=h.from_ e he;have:=Mq.1 (h.free a a1 b ak) bW cY (by rw [dq,eT,U]) (by rw [dZ,lz,ab]);rw [this,l0,aw]),fun e he=>by
  obtain ⟨b,ak,q⟩:=h.from_ e he;exact ⟨b,ux _ ak,q⟩,fun a a1 bO=>by
  rcases gz.1 a1 with a1|a1
  ·exact h.all a a1 bO
  ·rw [hR.1 a1];exact ⟨e,he,U,ab⟩⟩
theorem lL.abS {t:aT}{S:uu}{n:cW}(h:lL t S)(ao:n.kind=2)(hm: ∀e∈S,¬(e.1=n.eI∧e.2.1=n.info)):lL (t++[n]) (S++[(n.eI,n.info,n.next.length)]):=
 ⟨Lv h.free (fun a a1 bO bW dq dZ=>by
  obtain ⟨e,he,cY,eT⟩:=h.all a a1 bW;exact absurd ⟨by rw [cY,dq],by rw [eT,dZ]⟩ (hm e he)),fun e he=>by
  rcases gz.1 he with he|he
  ·obtain ⟨b,ak,q⟩:=h.from_ e he;exact ⟨b,ux _ ak,q⟩
  ·rw [hR.1 he];exact ⟨n,bZ,ao,I,I,I⟩,fun a a1 bO=>by
  rcases gz.1 a1 with a1|a1
  ·obtain ⟨e,he,q⟩:=h.all a a1 bO;exact ⟨e,ux _ he,q⟩
  ·rw [hR.1 a1];exact ⟨_,List.mem_append_right _ (hR.2 rfl),rfl,rfl⟩⟩
theorem lL.bad {t T:aT}{S:uu}{n:cW}{e:Int×Int×Nat}(h:lL t S)(cc: ∀a∈t,a∈T)(aF:n∈T)(ao:n.kind=2)(he:e∈S)(U:e.1=n.eI)(ab:e.2.1=n.info)(aw:e.2.2≠n.next.length):T.any (fun a=>T.any (rH a))=true:=by obtain ⟨b,ak,cY,eT,lz,l0⟩:=h.from_ e he;rw [nC];refine ⟨b,cc b ak,?_⟩;rw [nC];exact ⟨n,aF,TQ.2 ⟨cY,ao,by rw [eT,U],by rw [lz,ab],by rw [l0];exact aw⟩⟩
theorem ahu {t:aT}(h:HZ t):t.any (fun a=>t.any (rH a))=false:=by rw [r1];intro a a1 U;obtain ⟨b,ak,ab⟩:=nC.1 U;rw [h a a1 b ak] at ab;cases ab
theorem ahx {N i:Nat}{t:aT}(aa:i<t.length):qF N i (t.drop i)=if lG N i (t.getD i aK)=0 then qF N (i+1) (t.drop (i+1)) else lG N i (t.getD i aK):=by rw [List.drop_eq_getElem_cons aa,←e9 aK aa,qF]
theorem Sp {N i:Nat}{n:cW}(h:lG N i n=0):(∀k∈n.next,(i:Int)<k∧k<N)∧n.next.length≤6:=by
 unfold lG at h;split at h
 ·split at h
  ·cases h
  ·rename_i U;simp only [not_or] at U;have:=jV.1 U.2.2.1;rw [this];exact ⟨fun k ao=>by simp at ao,cf _⟩
 ·split at h
  ·split at h
   ·cases h
   split at h
   ·rename_i ab;exact absurd h ab
   rename_i ab aw;obtain ⟨bO,bW,dq⟩:=wQ (jV.1 aw);exact ⟨dq,bW⟩
  ·split at h
   ·split at h
    ·cases h
    split at h
    ·cases h
    obtain ⟨bO,bW,dq⟩:=wQ h;exact ⟨dq,bW⟩
   ·cases h
def o8 (t:aT)(i:Nat):List Int:=(t.take i).flatMap cW.next
theorem ahF {t:aT}{i:Nat}(aa:i<t.length):o8 t (i+1)=o8 t i++(t.getD i aK).next:=by unfold o8;rw [p6 aa,List.flatMap_append,e9 aK aa];simp
theorem yJ {l:List Int}{j:Nat}(ae:j<l.length):l.take (j+1)=l.take j++[l.getD j 0]:=by rw [p6 ae,e9 0 ae]
theorem aiN {l:aT}{j:Nat}(ae:j<l.length):l.take (j+1)=l.take j++[l.getD j aK]:=by rw [p6 ae,e9 aK ae]
structure fa where
 info:Int
 choice:Int
 before:Int
 deriving DecidableEq
def c3:fa:=⟨-1,-1,-1⟩
structure lM where
 cx:List fa
 pos:List Int
 first:List (Int×Nat)
def gE (m:List (Int×Nat))(k:Int):Option Nat:=(m.find? (fun x=>decide (x.1=k))).map Prod.snd
def pQ (n:cW)(b:Int):List fa:=(List.range n.next.length).map (fun k:Nat=>⟨n.info,(k:Int),b⟩)
def fL (p:Int)(n:cW)(i:Nat)(f:lM):lM:=
 if own p n=true∧gE f.first n.info=none then ⟨f.cx++pQ n (f.pos.getD i 0),f.pos,f.first++[(n.info,f.cx.length)]⟩ else f
def tY (v:Nat→Int):List Int→Nat→List Int→List Int
 |[],_,a=>a
 |c::r,k,a=>tY v r (k+1) (a.set c.toNat (v k))
def pV (p:Int)(n:cW)(i:Nat)(f:lM)(k:Nat):Int:=if own p n=true then (((gE f.first n.info).getD 0:Nat):Int)+(k:Int) else f.pos.getD i 0
def qN (p:Int)(n:cW)(i:Nat)(f:lM):lM:=⟨(fL p n i f).cx,tY (pV p n i (fL p n i f)) n.next 0 (fL p n i f).pos,(fL p n i f).first⟩
def dE (t:aT)(p:Int):Nat→lM
 |0=>⟨[c3],List.replicate t.length 0,[]⟩
 |i+1=>qN p (t.getD i aK) i (dE t p i)
theorem G9 {m:List (Int×Nat)}{k:Int}(h:gE m k=none):k∉m.map Prod.fst:=by unfold gE at h;rw [Option.map_eq_none_iff,List.find?_eq_none] at h;intro ao;obtain ⟨x,ar,rfl⟩:=da.1 ao;exact h x ar bZ
theorem yI {m:List (Int×Nat)}{k:Int}{s:Nat}(h:gE m k=some s):(k,s)∈m:=by
 unfold gE at h;obtain ⟨x,ar,rfl⟩:=Option.map_eq_some_iff.1 h;have U:=List.mem_of_find?_eq_some ar;have ab:=List.find?_some ar;have aw:x.1=k:=by simpa using ab
 rw [←aw];exact U
theorem R9 (v:Nat→Int): ∀(l:List Int) (k:Nat) (a:List Int),(tY v l k a).length=a.length
 |[],_,a=>rfl
 |c::r,k,a=>by rw [tY,R9 v r];simp
theorem Sa {v:Nat→Int}{P:Int→Prop}: ∀(l:List Int) (k:Nat) (a:List Int),(∀x∈a,P x)→(∀j,k≤j→j<k+l.length→P (v j))→ ∀x∈tY v l k a,P x
 |[],_,a,h,_=>h
 |c::r,k,a,h,ah=>by
  rw [tY];refine Sa r (k+1) _ (fun x ar=> ?_) (fun j U ab=>ah j J (by simp;omega));rcases xE ar with q|q
  ·exact h x q
  ·rw [q];exact ah k (bR _) bZ
theorem w8 {t:aT}(h:Valid t){p x:Int}{i:Nat}(aa:i<t.length)(ax:e7 p x (t.getD i aK)=true):cD t p x=(t.getD i aK).next.length:=by
 have hex: ∃y∈t,e7 p x y=true:=⟨_,dx aK aa,ax⟩
 have bC:Bt t p x<t.length:=List.findIdx_lt_length_of_exists hex;have dO:e7 p x (t.getD (Bt t p x) aK)=true:=by rw [e9 aK bC];exact List.findIdx_getElem
 unfold e7 at ax dO;rw [ei,eX] at ax dO;exact h.width bC aa dO.1 ax.1 (by rw [dO.2,ax.2])
structure hP (t:aT)(p:Int)(i:Nat)(f:lM):Prop where
 j1:f.cx.getD 0 c3=c3∧0<f.cx.length
 pl:f.pos.length=t.length
 kI: ∀x∈f.pos,0≤x∧x<f.cx.length
 keys: ∀x,x∈f.first.map Prod.fst↔ ∃j,j<i∧e7 p x (t.getD j aK)=true
 eP:(f.first.map Prod.fst).Nodup
 aA:f.cx.length=1+(f.first.map (fun x=>cD t p x.1)).sum
 fst: ∀x∈f.first,1≤x.2∧x.2+cD t p x.1≤f.cx.length∧ ∃b:Int,0≤b∧b<x.2∧ ∀k,k<cD t p x.1→f.cx.getD (x.2+k) c3=⟨x.1,k,b⟩
 all: ∀k,1≤k→k<f.cx.length→ ∃x∈f.first,x.2≤k∧k<x.2+cD t p x.1
theorem hP.init (t:aT)(p:Int):hP t p 0 (dE t p 0) where
 j1:=⟨rfl,fp⟩
 pl:=fw
 kI:=fun x ar=>by obtain ⟨_,rfl⟩:=zq.1 ar;exact ⟨a6,by show (0:Int)<((1:Nat):Int);decide⟩
 keys:=fun x=>⟨fun h=>by simp [dE] at h,fun ⟨j,ae,_⟩=>absurd ae (gy _)⟩
 eP:=List.nodup_nil
 aA:=rfl
 fst:=fun x ar=>by simp [dE] at ar
 all:=fun k U ab=>by have:(dE t p 0).cx.length=1:=rfl;omega
theorem hP.add {t:aT}(ah:Valid t){p:Int}{i:Nat}{f:lM}(h:hP t p i f)(aa:i<t.length):
 hP t p i f→(f.cx.getD 0 c3=c3)→let n:=t.getD i aK;let g:=fL p n i f
 g.cx.getD 0 c3=c3∧0<g.cx.length∧g.pos=f.pos∧f.cx.length≤g.cx.length∧(∀x,x∈g.first.map Prod.fst↔ ∃j,j<i+1∧e7 p x (t.getD j aK)=true)∧(g.first.map Prod.fst).Nodup∧
 g.cx.length=1+(g.first.map (fun x=>cD t p x.1)).sum∧
 (∀x∈g.first,1≤x.2∧x.2+cD t p x.1≤g.cx.length∧ ∃b:Int,0≤b∧b<x.2∧ ∀k,k<cD t p x.1→g.cx.getD (x.2+k) c3=⟨x.1,k,b⟩)∧
 (∀k,1≤k→k<g.cx.length→ ∃x∈g.first,x.2≤k∧k<x.2+cD t p x.1)∧(own p n=true→ ∃s,gE g.first n.info=some s):=by
 intro _ _;obtain ⟨aO,I9⟩:=h.j1;intro n g;have CI: ∀x,(∃j,j<i+1∧e7 p x (t.getD j aK)=true)↔((∃j,j<i∧e7 p x (t.getD j aK)=true)∨e7 p x n=true):=by
  intro x;constructor
  ·rintro ⟨j,U,ab⟩;by_cases e:j=i
   ·subst e;exact .inr ab
   ·exact .inl ⟨j,J,ab⟩
  ·rintro (⟨j,U,ab⟩|ab)
   ·exact ⟨j,J,ab⟩
   ·exact ⟨i,J,ab⟩
 by_cases av:own p n=true∧gE f.first n.info=none
 ·have wc:g=⟨f.cx++pQ n (f.pos.getD i 0),f.pos,f.first++[(n.info,f.cx.length)]⟩:=by show fL p n i f=_;unfold fL;rw [aG av]
  have dO:e7 p n.info n=true:=by unfold e7;rw [av.1];simp
  have hw:cD t p n.info=n.next.length:=w8 ah aa dO
  have jo:(pQ n (f.pos.getD i 0)).length=n.next.length:=by simp [pQ]
  have eO:=G9 av.2;have ak:=h.kI (f.pos.getD i 0) (dx 0 (by rw [h.pl];exact aa));rw [wc];refine ⟨by rw [tU _ I9];exact aO,by rw [c2];omega,I,by rw [c2];omega,fun x=> ?_,?_,?_,fun x ar=> ?_,fun k U ab=> ?_,fun _=> ?_⟩
  ·rw [CI,hS,gz,h.keys x];constructor
   ·rintro (q|q)
    ·exact .inl q
    ·right;have:x=n.info:=by simpa using q
     rw [this];exact dO
   ·rintro (q|q)
    ·exact .inl q
    ·right;unfold e7 at q;rw [ei,eX] at q;simp [q.2]
  ·rw [hS,List.nodup_append];refine ⟨h.eP,bZ,fun a a1 b ak e=> ?_⟩;have:b=n.info:=by simpa using ak
   rw [←this,←e] at eO;exact eO a1
  ·rw [c2,jo,hS,List.sum_append,h.aA];simp [hw];omega
  ·rcases gz.1 ar with q|q
   ·obtain ⟨gx,a2,b,dX,eu,mi⟩:=h.fst x q;refine ⟨gx,by rw [c2];omega,b,dX,eu,fun k ao=> ?_⟩;rw [tU _ J];exact mi k ao
   ·have wz:x=(n.info,f.cx.length):=by simpa using q
    subst wz;refine ⟨I9,by rw [c2,jo];show _+cD t p n.info≤_;omega,f.pos.getD i 0,ak.1,ak.2,fun k ao=> ?_⟩;have ao:k<n.next.length:=by have:k<cD t p n.info:=ao;omega
    show (f.cx++pQ n (f.pos.getD i 0)).getD (f.cx.length+k) c3=_;have e:(f.cx++pQ n (f.pos.getD i 0)).getD (f.cx.length+k) c3=(pQ n (f.pos.getD i 0)).getD k c3:=by simp only [List.getD];rw [jA J,xA]
    rw [e];unfold pQ;rw [qA _ _ 0 _ _ (by simpa using ao)];simp [List.getD,ao]
  ·rw [c2,jo] at ab;by_cases ao:k<f.cx.length
   ·obtain ⟨x,hA,ih,pL⟩:=h.all k U ao;exact ⟨x,ux _ hA,ih,pL⟩
   ·refine ⟨(n.info,f.cx.length),bZ,by show f.cx.length≤k;omega,by show k<f.cx.length+cD t p n.info;omega⟩
  ·refine ⟨f.cx.length,?_⟩;unfold gE at av⊢;rw [Option.map_eq_none_iff] at av;rw [List.find?_append,av.2];simp
 ·have wc:g=f:=by show fL p n i f=_;unfold fL;rw [az av]
  rw [wc];have hold:own p n=true→ ∃s,gE f.first n.info=some s:=by
   intro aj;cases e:gE f.first n.info with
   |none=>exact absurd ⟨aj,e⟩ av
   |some s=>exact ⟨s,rfl⟩
  refine ⟨aO,I9,I,bR _,fun x=> ?_,h.eP,h.aA,h.fst,h.all,hold⟩;rw [CI,h.keys x];constructor
  ·exact .inl
  ·rintro (q|q)
   ·exact q
   ·unfold e7 at q;rw [ei,eX] at q;obtain ⟨s,ax⟩:=hold q.1;refine (h.keys x).1 ?_;rw [←q.2];exact da.2 ⟨_,yI ax,I⟩
theorem hP.step {t:aT}(ah:Valid t){p:Int}{i:Nat}{f:lM}(h:hP t p i f)(aa:i<t.length):hP t p (i+1) (qN p (t.getD i aK) i f):=by
 obtain ⟨gx,a2,a3,a4,a5,V5,V6,EH,a9,IK⟩:=hP.add ah h aa h h.j1.1;generalize aF:t.getD i aK=n at*;generalize cX:fL p n i f=g at*;have I6:qN p n i f=⟨g.cx,tY (pV p n i g) n.next 0 g.pos,g.first⟩:=by unfold qN;rw [cX]
 rw [I6];refine ⟨⟨gx,a2⟩,by rw [R9,a3];exact h.pl,Sa _ _ _ (fun x ar=> ?_) (fun j U ab=> ?_),a5,V5,V6,EH,a9⟩
 ·rw [a3] at ar;have:=h.kI x ar;show 0≤x∧x<((g.cx.length:Nat):Int);omega
 ·show 0≤pV p n i g j∧pV p n i g j<((g.cx.length:Nat):Int);unfold pV;split
  ·rename_i aj;obtain ⟨s,ax⟩:=IK aj;obtain ⟨dX,eu,_⟩:=EH _ (yI ax);have hw:cD t p n.info=n.next.length:=by rw [←aF];refine w8 ah aa ?_;unfold e7;rw [aF,aj];simp
   rw [ax];simp only [oy] at*;omega
  ·rw [a3];have:=h.kI (f.pos.getD i 0) (dx 0 (by rw [h.pl];exact aa));omega
theorem hP.mg {t:aT}(ah:Valid t)(p:Int): ∀i,i≤t.length→hP t p i (dE t p i)
 |0,_=>hP.init t p
 |i+1,aa=>(hP.mg ah p i J).step ah J
def cp (t:aT)(p:Int):List fa:=(dE t p t.length).cx
theorem qx {t:aT}(ah:Valid t){p x:Int}:x∈di t p↔ ∃j,j<t.length∧e7 p x (t.getD j aK)=true:=by
 unfold di;rw [xB,nC];constructor
 ·rintro ⟨_,y,aY,ab⟩;obtain ⟨j,ae,rfl⟩:=ln aY;exact ⟨j,ae,by rw [e9 aK ae];exact ab⟩
 ·rintro ⟨j,ae,ab⟩;refine ⟨?_,t.getD j aK,dx aK ae,ab⟩;unfold e7 at ab;rw [ei,eX] at ab;have hm:=ah.Gg ae ab.1;rw [ab.2] at hm;refine da.2 ⟨x.toNat,q2.2 J,J⟩
theorem R2 (t:aT)(p:Int):(di t p).Nodup:=by unfold di;refine List.Nodup.sublist List.filter_sublist ?_;rw [B7,List.pairwise_map];exact (B7.1 List.nodup_range).imp (fun h=>by omega)
theorem sF {t:aT}(ah:Valid t)(p:Int):
 (cp t p).length=1+((di t p).map (cD t p)).sum∧(cp t p).getD 0 c3=c3∧0<(cp t p).length∧
 ∀k,k+1<(cp t p).length→((cp t p).getD (k+1) c3).info∈di t p∧0≤((cp t p).getD (k+1) c3).before∧((cp t p).getD (k+1) c3).before≤k∧
  (0<((cp t p).getD (k+1) c3).choice→(cp t p).getD k c3=⟨((cp t p).getD (k+1) c3).info,((cp t p).getD (k+1) c3).choice-1,((cp t p).getD (k+1) c3).before⟩):=by
 have h:=hP.mg ah p t.length (bR _);have FO:((dE t p t.length).first.map Prod.fst).Perm (di t p):=
  (List.perm_ext_iff_of_nodup h.eP (R2 t p)).2 (fun x=>by rw [h.keys x,qx ah])
 refine ⟨?_,h.j1.1,h.j1.2,fun k ao=> ?_⟩
 ·show (dE t p t.length).cx.length=_;rw [h.aA,←(FO.map (cD t p)).sum_nat,List.map_map];rfl
 ·obtain ⟨x,hA,ih,pL⟩:=h.all (k+1) J ao;obtain ⟨iA,jb,b,dX,eu,mi⟩:=h.fst x hA;have aD:=mi (k+1-x.2) J;rw [show x.2+(k+1-x.2)=k+1 by omega] at aD;have XB:(cp t p).getD (k+1) c3=⟨x.1,((k+1-x.2:Nat):Int),b⟩:=aD;rw [XB];refine ⟨FO.mem_iff.1 (da.2 ⟨x,hA,I⟩),dX,by show b≤(k:Int);omega,fun av=> ?_⟩;have av:(0:Int)<((k+1-x.2:Nat):Int):=av;have aE:=mi (k-x.2) J;rw [show x.2+(k-x.2)=k by omega] at aE;have XC:(cp t p).getD k c3=⟨x.1,((k-x.2:Nat):Int),b⟩:=aE;rw [XC];show (⟨x.1,_,b⟩:fa)=⟨x.1,((k+1-x.2:Nat):Int)-1,b⟩
  congr 1;omega
def gj:Rat→List Rat→Rat
 |acc,[]=>acc
 |acc,q::r=>gj (acc+q) r
theorem VP: ∀(hV:List Rat) (acc:Rat),(∀q∈hV,0≤q)→acc≤gj acc hV
 |[],acc,_=>Rat.le_refl
 |q::r,acc,h=>by
  rw [gj];refine q6 ?_ (VP r _ (fun x ar=>h x (by simp [ar])));have:=(Rat.add_le_add_left (c:=acc)).2 (h q bZ)
  rwa [mN] at this
abbrev im:=List (Int×Int)
def OC (m:List (List dI)):Int:=if 12<m.length then 2 else if Av m≠0 then Av m else if qU m=0 then 8 else if 12<qU m then 2 else 0
def outside (m:List (List dI))(x:Int×Int):Bool:=decide (x.1<0)||(decide ((m.length:Int)≤x.1)||(decide (x.2<0)||decide ((qU m:Int)≤x.2)))
def Fy (m:List (List dI))(l:im):Int:=if OC m≠0 then OC m else if 200<l.length then 2 else if l.any (outside m)=true then 4 else 0
def Oa (f:Int×Int→Int)(l:im)(i:Nat):Nat:=(l.filter (fun x=>decide (f x=(i:Int)))).length
def Ob (f:Int×Int→Int)(l:im)(n:Nat):List Rat:=(List.range n).map (fun i=>((Oa f l i:Nat):Rat))
def K4 (m:List (List Rat))(l:im)(w:Nat):List Rat:=m.map (fun r=>h2 r (Ob Prod.snd l w))
def IX (m:List (List Rat))(l:im)(w:Nat):List Rat:=(Oc m w).map (fun c=>h2 c (Ob Prod.fst l m.length))
def XL (m:List (List Rat))(x:Int×Int):Rat:=(m.getD x.1.toNat []).getD x.2.toNat 0
def OF (m:List (List Rat))(l:im):Rat:=gj 0 (l.map (XL m))
def adP (m:List (List Rat))(l:im)(w:Nat):List Rat:=(K4 m l w).map (fun q=>q-OF m l)
def adQ (m:List (List Rat))(l:im)(w:Nat):List Rat:=(IX m l w).map (fun q=>OF m l-q)
def WL (a b:List Rat):(List dI×List dI)×Int:=if (vC a).2≠0 then (([],[]),2) else if (vC b).2≠0 then (([],[]),2) else ((a.map cO,b.map cO),0)
def adR (m:List (List dI))(l:im):(List dI×List dI)×Int:=if Fy m l≠0 then (([],[]),Fy m l) else WL (adP (qj m) l (qU m)) (adQ (qj m) l (qU m))
def ET (nf:Int)(x:List Rat):Nat→Nat
 |0=>0
 |k+1=>if 0<wb (x.getD k 0) (x.getD (ET nf x k) 0)*nf then k else ET nf x k
def Qe (m:List (List Rat))(l:im)(w:Nat):Rat:=(IX m l w).getD (ET (-1) (IX m l w) w) 0
def Pq (m:List (List Rat))(l:im)(w:Nat):Rat:=(K4 m l w).getD (ET 1 (K4 m l w) m.length) 0
def WM (m:List (List dI))(l:im):(dI×dI)×Int:=
 if Fy m l≠0 then (([],[]),Fy m l) else if l=[] then (([],[]),8)
 else if e3 (Qe (qj m) l (qU m)/(l.length:Nat)) && e3 (Pq (qj m) l (qU m)/(l.length:Nat)) then ((cO (Qe (qj m) l (qU m)/(l.length:Nat)),cO (Pq (qj m) l (qU m)/(l.length:Nat))),0) else (([],[]),2)
structure Zero (m:List (List dI))(l:im)(a b:List dI)(ja aa:dI):Prop where
 alX:adR m l=((a,b),0)
 N2:WM m l=((ja,aa),0)
 akG: ∀s∈a,gv s=0
 I8: ∀s∈b,gv s=0
 P9:a.length=m.length
 Qd:b.length=qU m
 IN: ∃i k s q,N0 a=(((i:Nat):Int),0)∧N0 b=(((k:Nat):Int),0)∧i<a.length∧k<b.length∧pZ (fun x y=>x+y) (a.getD i []) (b.getD k [])=(s,0)∧Xu s (cO ((l.length:Nat):Rat))=(q,0)∧pZ (fun x y=>x-y) aa ja=(q,0)
theorem TE (q:Rat): ∀(l:List Rat) (acc:Rat),gj acc (l++[q])=gj acc l+q
 |[],acc=>rfl
 |a::r,acc=>by rw [oC,gj,gj,TE q r]
theorem Ml: ∀(m:Nat) (l:List Rat),m≤l.length→b1 (fun c=>l.getD c 0) m=gj 0 (l.take m)
 |0,l,_=>rfl
 |m+1,l,h=>by rw [b1,Ml m l J,p6 J,TE,e9 0 J]
def yP (o:Int→List Rat)(s:fa)(P:List Rat):Rat:=if s.before<0 then 1 else P.getD s.before.toNat 0*(o s.info).getD s.choice.toNat 0
def o9 (l:List fa)(o:Int→List Rat):Nat→List Rat
 |0=>[]
 |k+1=>o9 l o k++[yP o (l.getD k c3) (o9 l o k)]
theorem Mc (l:List fa)(o:Int→List Rat): ∀k,(o9 l o k).length=k
 |0=>rfl
 |k+1=>by rw [o9,c2,Mc l o k];rfl
theorem A8 (l:List fa)(o:Int→List Rat){j:Nat}: ∀{k:Nat},j<k→(o9 l o k).getD j 0=yP o (l.getD j c3) (o9 l o j)
 |0,h=>absurd h (gy _)
 |k+1,h=>by
  rw [o9];by_cases e:j=k
  ·subst e;have:(o9 l o j++[yP o (l.getD j c3) (o9 l o j)]).getD j 0=yP o (l.getD j c3) (o9 l o j):=by
    have ab:=Nd (l:=o9 l o j) (x:=yP o (l.getD j c3) (o9 l o j)) (d:=0)
    rwa [Mc] at ab
   exact this
  ·rw [tU 0 (by rw [Mc];omega)];exact A8 l o J
theorem Sq (l:List fa)(o:Int→List Rat){j k n:Nat}(U:j<k)(ab:j<n):(o9 l o k).getD j 0=(o9 l o n).getD j 0:=by rw [A8 l o U,A8 l o ab]
theorem Nj {m:List (Int×Nat)}(h:(m.map Prod.fst).Nodup){x y:Int×Nat}(ar:x∈m)(aY:y∈m)(e:x.1=y.1):x=y:=by
 obtain ⟨i,aa,rfl⟩:=ln ar;obtain ⟨j,ae,rfl⟩:=ln aY;have aJ:=xC.1 h;rcases B1 i j with q|q|q
 ·exact absurd (by rw [mf,mf];exact e) (aJ i j (by simpa using aa) (by simpa using ae) q)
 ·subst q;rfl
 ·exact absurd (by rw [mf,mf];exact e.symm) (aJ j i (by simpa using ae) (by simpa using aa) q)
theorem D7 {t:aT}(ah:Valid t)(p:Int):(cp t p).length≤61:=by
 have h:=(sF ah p).1;rw [h];have U:(di t p).length≤10:=by unfold di;refine dT (xK _ _) bZ
 have ab: ∀x∈di t p,cD t p x≤6:=by intro x ar;obtain ⟨j,ae,ax⟩:=(qx ah).1 ar;rw [w8 ah ae ax];exact ah.Ou ae
 have key: ∀l:List Int,(∀x∈l,cD t p x≤6)→(l.map (cD t p)).sum≤6*l.length:=by
  intro l;induction l with
  |nil=>intro _;exact bR _
  |cons a r a8=>
   intro au;have aw:=au a bZ;have bg:=a8 (fun x ar=>au x (by simp [ar]));simp only [nE,List.sum_cons,fZ];omega
 have:=key _ ab;omega
structure IG (t:aT)(p:Int)(o:Int→List Rat)(k:Nat):Prop where
 len: ∀x∈di t p,(o x).length=cD t p x
 sum: ∀x∈di t p,gj 0 (o x)=1
 qo: ∀x∈di t p,∀q∈o x,0≤q
 nH: ∀x∈di t p,∀q∈o x,D k q
def ud (t:aT)(p:Int)(o:Int→List Rat):List Rat:=o9 (cp t p) o (cp t p).length
theorem Ir {t:aT}(ah:Valid t){p:Int}{k:Nat}(U:1≤k)(ao:k<(cp t p).length): ∃(x:Int×Nat) (b:Nat),x∈(dE t p t.length).first∧x.1∈di t p∧x.2≤k∧k<x.2+cD t p x.1∧b<x.2∧1≤x.2∧x.2+cD t p x.1≤(cp t p).length∧
 ∀c,c<cD t p x.1→(cp t p).getD (x.2+c) c3=⟨x.1,(c:Int),(b:Int)⟩:=by have h:=hP.mg ah p t.length (bR _);obtain ⟨x,hA,ih,pL⟩:=h.all k U ao;obtain ⟨iA,jb,b,dX,eu,mi⟩:=h.fst x hA;obtain ⟨n,rfl⟩:=oo dX;exact ⟨x,n,hA,(qx ah).2 ((h.keys x.1).1 (da.2 ⟨x,hA,I⟩)),ih,pL,J,iA,jb,mi⟩
abbrev Way:=List (Int×Int)
def xd (v:Nat→Way):List Int→Nat→List Way→List Way
 |[],_,a=>a
 |c::r,k,a=>xd v r (k+1) (a.set c.toNat (v k))
theorem Sb (v:Nat→Way): ∀(l:List Int) (k:Nat) (a:List Way),(xd v l k a).length=a.length
 |[],_,a=>rfl
 |c::r,k,a=>by rw [xd,Sb v r];simp
def pe (p:Int)(n:cW)(w:Way)(k:Nat):Way:=if own p n=true then w++[(n.info,(k:Int))] else w
def jg (t:aT)(p:Int):Nat→List Way
 |0=>List.replicate t.length []
 |i+1=>xd (pe p (t.getD i aK) ((jg t p i).getD i [])) (t.getD i aK).next 0 (jg t p i)
theorem Ht (t:aT)(p:Int): ∀i,(jg t p i).length=t.length
 |0=>fw
 |i+1=>by rw [jg,Sb,Ht t p i]
def iM (t:aT)(p:Int):Nat→List (Int×Nat)
 |0=>[]
 |i+1=>if own p (t.getD i aK)=true∧gE (iM t p i) (t.getD i aK).info=none then iM t p i++[((t.getD i aK).info,i)] else iM t p i
def kJ (t:aT)(p:Int)(W:List Way):Nat→Bool
 |0=>true
 |i+1=>kJ t p W i && (if own p (t.getD i aK)=true then (match gE (iM t p i) (t.getD i aK).info with|none=>true|some k=>decide (W.getD i []=W.getD k [])) else true)
def nt (t:aT)(p:Int):Bool:=kJ t p (jg t p t.length) t.length
theorem LA {t:aT}{p:Int}: ∀{i:Nat} {x:Int×Nat},x∈iM t p i→x.2<i∧own p (t.getD x.2 aK)=true∧(t.getD x.2 aK).info=x.1
 |0,x,h=>by simp [iM] at h
 |i+1,x,h=>by
  rw [iM] at h;split at h
  ·rename_i av;rcases gz.1 h with q|q
   ·obtain ⟨U,ab⟩:=LA q;exact ⟨J,ab⟩
   ·have:x=((t.getD i aK).info,i):=by simpa using q
    subst this;exact ⟨gH _,av.1,I⟩
  ·obtain ⟨U,ab⟩:=LA h;exact ⟨J,ab⟩
abbrev hC:=Nat→Option (List Rat)
def tz (v:Nat→Rat):List Int→Nat→List Rat→List Rat
 |[],_,a=>a
 |c::r,k,a=>tz v r (k+1) (a.set c.toNat (v k))
theorem UE (v:Nat→Rat): ∀(l:List Int) (k:Nat) (a:List Rat),(tz v l k a).length=a.length
 |[],_,a=>rfl
 |c::r,k,a=>by rw [tz,UE v r];simp
def BA (o:Option (List Rat))(q:Rat)(k:Nat):Rat:=match o with|none=>q|some l=>q*l.getD k 0
def j7 (t:aT)(o:hC):Nat→List Rat
 |0=>(List.replicate t.length 0).set 0 1
 |i+1=>tz (BA (o i) ((j7 t o i).getD i 0)) (t.getD i aK).next 0 (j7 t o i)
def eK (t:aT)(o:hC):List Rat:=j7 t o t.length
theorem DC (t:aT)(o:hC): ∀i,(j7 t o i).length=t.length
 |0=>by simp [j7]
 |i+1=>by rw [j7,UE,DC t o i]
theorem G3 (v:Nat→Rat){j:Nat}: ∀(l:List Int) (k:Nat) (a:List Rat),(∀c∈l,c.toNat≠j)→(tz v l k a).getD j 0=a.getD j 0
 |[],_,a,_=>rfl
 |c::r,k,a,h=>by rw [tz,G3 v r (k+1) _ (fun c av=>h c (by simp [av])),Go.ai.dL.fG,az];exact fun q=>h c bZ q.1.symm
theorem VF (v:Nat→Rat): ∀(l:List Int) (k:Nat) (a:List Rat) (m:Nat),m<l.length→(l.map Int.toNat).Nodup→(∀c∈l,c.toNat<a.length)→(tz v l k a).getD (l.getD m 0).toNat 0=v (k+m)
 |[],_,a,m,h,_,_=>absurd h (gy _)
 |c::r,k,a,m,h,aF,au=>by
  rw [nE,zz] at aF;rw [tz];cases m with
  |zero=>
   have:(c::r).getD 0 0=c:=rfl;rw [this,G3,Go.ai.dL.fG,aG ⟨rfl,au c bZ⟩,eQ];intro x ar e;exact aF.1 (da.2 ⟨x,ar,e⟩)
  |succ m=>
   have:(c::r).getD (m+1) 0=r.getD m 0:=rfl;rw [this,VF v r (k+1) _ m (by simpa using h) aF.2 (fun x ar=>by rw [dj];exact au x (by simp [ar]))];congr 1;omega
def qm (t:aT)(i:Nat)(c:Nat):Prop:=(c:Int)∈(t.getD i aK).next
theorem Sl (l:List Int)(k:Int):(l.filter (fun x=>decide (x=k))).length=l.count k:=by rw [List.count_eq_length_filter];congr 1
theorem S9 (t:aT)(k:Nat):named t k=(t.map (fun n=>n.next.count (k:Int))).sum:=by
 unfold named;rw [Sl];induction t with
 |nil=>rfl
 |cons n r a8=>rw [List.flatMap_cons,List.count_append,nE,List.sum_cons,a8]
theorem afq {l:List Nat}(h:l.sum=1){i j:Nat}(aa:i<l.length)(ae:j<l.length)(uX:i≠j)(U:1≤l[i])(ab:1≤l[j]):False:=by
 induction l generalizing i j with
 |nil=>simp at aa
 |cons a r a8=>
  have C3: ∀(r:List Nat) (k:Nat) (ao:k<r.length),r[k]≤r.sum:=by
   intro r;induction r with
   |nil=>intro k ao;simp at ao
   |cons b q KG=>
    intro k ao;cases k with
    |zero=>simp
    |succ k=>
     have:=KG k (by simpa using ao);simp only [B8,List.sum_cons];omega
  rw [List.sum_cons] at h;cases i with
  |zero=>
   cases j with
   |zero=>exact uX rfl
   |succ j=>
    have:=C3 r j (by simpa using ae);simp only [List.getElem_cons_zero,B8] at U ab;omega
  |succ i=>
   cases j with
   |zero=>
    have:=C3 r i (by simpa using aa);simp only [List.getElem_cons_zero,B8] at U ab;omega
   |succ j=>
    simp only [B8] at U ab;have:=C3 r i (by simpa using aa);refine a8 J (by simpa using aa) (by simpa using ae) J U ab
theorem Valid.parent {t:aT}(h:Valid t){c i j:Nat}(av:c<t.length)(aO:c≠0)(aa:i<t.length)(ae:j<t.length)(eF:qm t i c)(eG:qm t j c):i=j:=by
 have aF:=h.once c av aO;rw [S9] at aF;apply xL;intro uX;refine afq aF (i:=i) (j:=j) (by simpa using aa) (by simpa using ae) uX ?_ ?_
 ·rw [mf,←e9 aK aa];exact List.count_pos_iff.2 eF
 ·rw [mf,←e9 aK ae];exact List.count_pos_iff.2 eG
theorem Valid.has {t:aT}(h:Valid t){c:Nat}(av:c<t.length)(aO:c≠0): ∃i,i<t.length∧qm t i c:=by
 have aF:=h.once c av aO;unfold named at aF;have b2:(t.flatMap cW.next).filter (fun x=>decide (x=(c:Int)))≠[]:=by intro e;rw [e] at aF;cases aF
 obtain ⟨x,ar⟩:=List.exists_mem_of_ne_nil _ b2;obtain ⟨U,ab⟩:=xB.1 ar;obtain ⟨n,Ae,J8⟩:=List.mem_flatMap.1 U;obtain ⟨i,aa,rfl⟩:=ln Ae;refine ⟨i,aa,?_⟩;unfold qm;rw [e9 aK aa];have:x=(c:Int):=by simpa using ab
 rw [←this];exact J8
theorem Valid.P6 {t:aT}(h:Valid t){c i:Nat}(aa:i<t.length)(k:qm t i c):i<c∧c<t.length:=by have:=h.behind aa _ k;omega
theorem Valid.P7 {t:aT}(h:Valid t){i:Nat}(aa:i<t.length):((t.getD i aK).next.map Int.toNat).Nodup:=by
 rw [B7,List.pairwise_map,xC];intro a b a1 ak mT e;have abN:=List.getElem_mem a1;have abP:=List.getElem_mem ak;have dX:=h.behind aa _ abN;have eu:=h.behind aa _ abP;have aE:(t.getD i aK).next[a]=(t.getD i aK).next[b]:=J
 obtain ⟨c,av⟩:=oo (show 0≤(t.getD i aK).next[a] by omega);have aF:=h.once c J J;rw [S9] at aF;have ab:2≤(t.getD i aK).next.count (c:Int):=by
  have ax:[(c:Int),(c:Int)].Sublist (t.getD i aK).next:=by
   have aw:(t.getD i aK).next=(t.getD i aK).next.take b++(t.getD i aK).next.drop b:=(rV b _).symm
   rw [aw];have bg:(c:Int)∈(t.getD i aK).next.take b:=by rw [List.mem_take_iff_getElem];exact ⟨a,J,av⟩
   have bF:(c:Int)∈(t.getD i aK).next.drop b:=by rw [List.mem_drop_iff_getElem];exact ⟨0,by simpa using ak,by simp only [eQ];rw [←aE];exact av⟩
   have:=List.Sublist.append (List.singleton_sublist.2 bg) (List.singleton_sublist.2 bF);simpa using this
  have:=ax.count_le (c:Int);simpa using this
 have dm:(t.map (fun n=>n.next.count (c:Int)))[i]'(by simpa using aa)≤(t.map (fun n=>n.next.count (c:Int))).sum:=by
  have C3: ∀(r:List Nat) (k:Nat) (ao:k<r.length),r[k]≤r.sum:=by
   intro r;induction r with
   |nil=>intro k ao;simp at ao
   |cons b q KG=>
    intro k ao;cases k with
    |zero=>simp
    |succ k=>
     have:=KG k (by simpa using ao);simp only [B8,List.sum_cons];omega
  exact C3 _ _ _
 rw [mf,←e9 aK aa] at dm;omega
theorem LR {t:aT}(h:Valid t)(o:hC){j:Nat}(ae:j<t.length): ∀d i,j≤i→i+d≤t.length→(j7 t o (i+d)).getD j 0=(j7 t o i).getD j 0
 |0,i,_,_=>rfl
 |d+1,i,U,ab=>by rw [←kC,j7,G3,LR h o ae d i U J];intro c av e;have:=h.behind (show i+d<t.length by omega) c av;omega
theorem Ss {t:aT}(h:Valid t)(o:hC):(eK t o).getD 0 0=1:=by have aF:=h.ne;have:=LR h o (j:=0) J t.length 0 (bR _) J;rw [c1] at this;unfold eK;rw [this,j7,Go.ai.dL.fG,aG ⟨rfl,by simp;omega⟩]
theorem Tr {t:aT}(h:Valid t)(o:hC){i m:Nat}(aa:i<t.length)(hm:m<(t.getD i aK).next.length):(eK t o).getD ((t.getD i aK).next.getD m 0).toNat 0=BA (o i) ((eK t o).getD i 0) m:=by
 have ak:=h.behind aa _ (dx 0 hm);have av:((t.getD i aK).next.getD m 0).toNat<t.length:=J;have U:(j7 t o (i+1)).getD ((t.getD i aK).next.getD m 0).toNat 0=BA (o i) ((j7 t o i).getD i 0) m:=by rw [j7,VF _ _ _ _ m hm (h.P7 aa) (fun c av=>by rw [DC];have:=h.behind aa c av;omega),c1]
 have ab:=LR h o (j:=i) aa (t.length-i) i (bR _) J;rw [show i+(t.length-i)=t.length by omega] at ab
 --the child is not touched again
 have key: ∀d,i+1+d≤t.length→(j7 t o (i+1+d)).getD ((t.getD i aK).next.getD m 0).toNat 0=(j7 t o (i+1)).getD ((t.getD i aK).next.getD m 0).toNat 0:=by
  intro d;induction d with
  |zero=>intro _;rfl
  |succ d a8=>
   intro hd;rw [←kC,j7,G3,a8 J];intro c Jy e;have ali:=h.behind (show i+1+d<t.length by omega) c Jy;have eF:qm t i ((t.getD i aK).next.getD m 0).toNat:=by unfold qm;rw [show ((((t.getD i aK).next.getD m 0).toNat:Nat):Int)=(t.getD i aK).next.getD m 0 by omega];exact dx 0 hm
   have eG:qm t (i+1+d) ((t.getD i aK).next.getD m 0).toNat:=by unfold qm;rw [←e,show ((c.toNat:Nat):Int)=c by omega];exact Jy
   have:=h.parent av J aa J eF eG;omega
 have aw:=key (t.length-(i+1)) J;rw [show i+1+(t.length-(i+1))=t.length by omega] at aw;unfold eK;rw [aw,U,ab]
theorem TC {f:Nat→Rat}{a:Nat}: ∀{n:Nat},a<n→b1 (fun j=>if j=a then f j else 0) n=f a
 |0,h=>absurd h (gy _)
 |n+1,h=>by
  rw [b1];by_cases e:n=a
  ·subst e;have:b1 (fun j=>if j=n then f j else 0) n=0:=by rw [fJ (g:=fun _=>0) (fun i aa=>by rw [az J]),qz]
   rw [this,aG rfl,oq]
  ·rw [TC (n:=n) J,az e,mN]
theorem w6: ∀(l:List Rat) (a:Rat),gj a l=a+gj 0 l
 |[],a=>by rw [gj,gj,mN]
 |q::r,a=>by rw [gj,gj,w6 r (a+q),w6 r (0+q),oq,xH]
def ee (t:aT):List Nat:=(List.range t.length).filter (fun i=>decide ((t.getD i aK).kind=0))
theorem MO: ∀(N:Nat) (l:List Nat),l.Nodup→(∀x∈l,x<N)→l.length≤N
 |0,[],_,_=>bR _
 |0,a::r,_,h=>absurd (h a bZ) (gy _)
 |N+1,l,aF,h=>by
  by_cases jX:N∈l
  ·have U:=MO N (l.erase N) (aF.erase N) (fun x ar=>by
    have ab:=(aF.mem_erase_iff).1 ar;have:=h x ab.2;omega)
   rw [List.length_erase_of_mem jX] at U;omega
  ·have U:=MO N l aF (fun x ar=>by
    have:=h x ar;have:x≠N:=fun e=>jX (e▸ar);omega)
   omega
theorem Ui {t:aT}(h:Valid t):(t.flatMap cW.next).length≤t.length:=by
 have ak: ∀x∈t.flatMap cW.next,0<x∧x<t.length:=by intro x ar;obtain ⟨n,Ae,J8⟩:=List.mem_flatMap.1 ar;obtain ⟨i,aa,rfl⟩:=ln Ae;have:=h.behind aa x (by rw [e9 aK aa];exact J8);omega
 have k6:(t.flatMap cW.next).Nodup:=by
  rw [List.nodup_iff_count];intro a;by_cases a1:a∈t.flatMap cW.next
  ·have eg:=ak a a1;have U:=h.once a.toNat J J;unfold named at U;rw [Sl,show ((a.toNat:Nat):Int)=a by omega] at U;omega
  ·rw [List.count_eq_zero_of_not_mem a1];omega
 have au:=MO t.length ((t.flatMap cW.next).map Int.toNat) (by
  rw [B7,List.pairwise_map];refine List.Pairwise.imp_of_mem ?_ (B7.1 k6);intro a b a1 zQ mT e;have:=ak a a1;have:=ak b zQ;omega) (fun x ar=>by
  obtain ⟨y,aY,rfl⟩:=da.1 ar;have:=ak y aY;omega)
 simpa using au
def hM (B:Nat)(q:Rat):Prop:= ∃z:Int,q*(B:Rat)=(z:Rat)
theorem hM.den {B:Nat}{q:Rat}(h:hM B q)(cZ:B≠0):q.den∣B:=by
 obtain ⟨z,bw⟩:=h;have ta:((B:Int):Rat)≠0:=Vo J;have e:q=Rat.divInt z B:=by rw [Rat.divInt_eq_div,←bw,←v7];have U:=Rat.div_mul_cancel (a:=q*((B:Int):Rat)) ta;refine aiz ta ?_;rw [mO _ (q*((B:Int):Rat)/((B:Int):Rat)),U,mO]
 rw [e,(HN z B cZ).2.1];exact Nat.div_dvd_of_dvd (B4 _ _)
theorem hM.Qo {q:Rat}:hM q.den q:=⟨q.num,Vp q⟩
theorem hM.mono {A B:Nat}{q:Rat}(h:hM A q)(hd:A∣B):hM B q:=by obtain ⟨z,bw⟩:=h;obtain ⟨k,rfl⟩:=hd;refine ⟨z*k,?_⟩;rw [Rat.natCast_mul,←zw,bw,oH,v7]
theorem hM.add {B:Nat}{a b:Rat}(a1:hM B a)(ak:hM B b):hM B (a+b):=by obtain ⟨x,ar⟩:=a1;obtain ⟨y,aY⟩:=ak;exact ⟨x+y,by rw [Rat.add_mul,ar,aY,B5]⟩
theorem hM.mul {A B:Nat}{a b:Rat}(a1:hM A a)(ak:hM B b):hM (A*B) (a*b):=by obtain ⟨x,ar⟩:=a1;obtain ⟨y,aY⟩:=ak;refine ⟨x*y,?_⟩;rw [oH,←ar,←aY,Rat.natCast_mul];grind
theorem hM.zero (B:Nat):hM B 0:=⟨0,by rw [oF];rfl⟩
theorem hM.one (B:Nat):hM B 1:=⟨B,by rw [r0,v7]⟩
theorem afK {B K:Nat}{q:Rat}(h:hM B q)(cZ:B≠0)(aO:0≤q)(U:q≤1)(dn:B<10^K):D K q:=by
 have hd:=zA J (h.den cZ);refine ⟨?_,J⟩;have aF:q.num≤q.den:=by have ab:=Rat.not_lt.2 U;rw [Rat.lt_iff] at ab;have aw: ¬((1:Int)*(q.den:Int)<q.num*1):=ab;omega
 have:=Rat.num_nonneg.2 aO;omega
def uh:List Nat→Nat
 |[]=>1
 |a::r=>a*uh r
theorem To {l:List Nat}(h: ∀x∈l,0<x):0<uh l:=by
 induction l with
 |nil=>exact Nat.one_pos
 |cons a r a8=>rw [uh];exact Nat.mul_pos (h a bZ) (a8 (fun x ar=>h x (by simp [ar])))
theorem Tn {l:List Nat}{x:Nat}(h:x∈l):x∣uh l:=by
 induction l with
 |nil=>simp at h
 |cons a r a8=>
  rw [uh];rcases fT.1 h with rfl|q
  ·exact Nat.dvd_mul_right _ _
  ·exact Nat.dvd_trans (a8 q) (Nat.dvd_mul_left _ _)
theorem UA {l:List Nat}{d:Nat}(h: ∀x∈l,x≤10^d):uh l≤10^(d*l.length):=by
 induction l with
 |nil=>rw [uh,kd,rY,xD];exact bR _
 |cons a r a8=>
  rw [uh,fZ,gN,q3,oE,jm];exact jB (h a bZ) (a8 (fun x ar=>h x (by simp [ar])))
def Gm (o:Option (List Rat)):Nat:=match o with|none=>1|some l=>uh (l.map Rat.den)
theorem acS (o:Option (List Rat)):0<Gm o:=by
 cases o with
 |none=>exact Nat.one_pos
 |some l=>exact To (fun x ar=>by obtain ⟨q,_,rfl⟩:=da.1 ar;exact q.den_pos)
def rN (o:hC):Nat→Nat
 |0=>1
 |i+1=>rN o i*Gm (o i)
theorem Nt (o:hC): ∀i,0<rN o i
 |0=>Nat.one_pos
 |i+1=>Nat.mul_pos (Nt o i) (acS _)
theorem Ek (o:hC){i:Nat}: ∀d,rN o i∣rN o (i+d)
 |0=>Nat.dvd_refl _
 |d+1=>Nat.dvd_trans (Ek o d) (Nat.dvd_mul_right _ _)
theorem P5 {t:aT}{i j:Nat}(h:Valid t)(aa:i<t.length)(ao:qm t i j): ∃m,m<(t.getD i aK).next.length∧((t.getD i aK).next.getD m 0).toNat=j:=by obtain ⟨m,hm,he⟩:=ln ao;exact ⟨m,hm,by rw [e9 0 hm,he];exact cA j⟩
def dF {α:Type}(v:Nat→α):List Int→Nat→List α→List α
 |[],_,a=>a
 |c::r,k,a=>dF v r (k+1) (a.set c.toNat (v k))
theorem vz {α:Type}(v:Nat→α): ∀(l:List Int) (k:Nat) (a:List α),(dF v l k a).length=a.length
 |[],_,a=>rfl
 |c::r,k,a=>by rw [dF,vz v r];simp
theorem yF {α:Type}(v:Nat→α)(x:Int): ∀(l:List Int) (k:Nat) (a:List α),dF v (l++[x]) k a=(dF v l k a).set x.toNat (v (k+l.length))
 |[],k,a=>rfl
 |c::r,k,a=>by rw [oC,dF,dF,yF v x r (k+1)];congr 2;rw [fZ];omega
theorem vq {α:Type}(v:Nat→α)(d:α){j:Nat}: ∀(l:List Int) (k:Nat) (a:List α),(∀c∈l,c.toNat≠j)→(dF v l k a).getD j d=a.getD j d
 |[],_,a,_=>rfl
 |c::r,k,a,h=>by rw [dF,vq v d r (k+1) _ (fun c av=>h c (by simp [av])),Go.ai.dL.fG,az];exact fun q=>h c bZ q.1.symm
theorem VE {α:Type}(v:Nat→α)(d:α): ∀(l:List Int) (k:Nat) (a:List α) (m:Nat),m<l.length→(l.map Int.toNat).Nodup→(∀c∈l,c.toNat<a.length)→(dF v l k a).getD (l.getD m 0).toNat d=v (k+m)
 |[],_,a,m,h,_,_=>absurd h (gy _)
 |c::r,k,a,m,h,aF,au=>by
  rw [nE,zz] at aF;rw [dF];cases m with
  |zero=>
   have:(c::r).getD 0 0=c:=rfl;rw [this,vq,Go.ai.dL.fG,aG ⟨rfl,au c bZ⟩,eQ];intro x ar e;exact aF.1 (da.2 ⟨x,ar,e⟩)
  |succ m=>
   have:(c::r).getD (m+1) 0=r.getD m 0:=rfl;rw [this,VE v d r (k+1) _ m (by simpa using h) aF.2 (fun x ar=>by rw [dj];exact au x (by simp [ar]))];congr 1;omega
theorem Mf (v:Nat→Int): ∀(l:List Int) (k:Nat) (a:List Int),tY v l k a=dF v l k a
 |[],_,a=>rfl
 |c::r,k,a=>by rw [tY,dF,Mf v r]
theorem Mg (v:Nat→Way): ∀(l:List Int) (k:Nat) (a:List Way),xd v l k a=dF v l k a
 |[],_,a=>rfl
 |c::r,k,a=>by rw [xd,dF,Mg v r]
def kt (t:aT)(p:Int):List Int:=(dE t p t.length).pos
def y6 (t:aT)(p:Int):List Way:=jg t p t.length
abbrev jv (t:aT)(p:Int):List (Int×Nat):=(dE t p t.length).first
theorem RY (p:Int)(n:cW)(i:Nat)(f:lM):(fL p n i f).pos=f.pos:=by unfold fL;split<;>rfl
theorem X3 (t:aT)(p:Int)(i:Nat):(dE t p (i+1)).pos=dF (pV p (t.getD i aK) i (fL p (t.getD i aK) i (dE t p i))) (t.getD i aK).next 0 (dE t p i).pos:=by rw [dE,qN];show tY _ _ _ (fL _ _ _ _).pos=_;rw [Mf,RY]
theorem Bg (t:aT)(p:Int): ∀i,(dE t p i).pos.length=t.length
 |0=>fw
 |i+1=>by rw [X3,vz,Bg t p i]
abbrev qE (t:aT)(p x:Int):Nat:=(gE (jv t p) x).getD 0
theorem Tm {t:aT}(ah:Valid t)(p:Int)(u:Int→List Rat):(ud t p u).getD 0 0=1:=by obtain ⟨_,U,ab,_⟩:=sF ah p;unfold ud;rw [A8 _ _ ab,U];rfl
def kT (t:aT)(r:List Rat)(i:Nat):Rat:=r.getD i 0*b4 (t.getD i aK).dC
def afR (t:aT)(o:hC):Rat:=gj 0 ((ee t).map (kT t (eK t o)))
def I5 (t:aT)(p:Int)(r:List Rat)(i:Nat):Rat:=if p=1 then-(kT t r i) else kT t r i
def Q6 (g:Nat→Rat)(pos:List Int):List Nat→List Rat→List Rat
 |[],S=>S
 |i::r,S=>Q6 g pos r (S.set (pos.getD i 0).toNat (S.getD (pos.getD i 0).toNat 0+g i))
theorem UN (f:Nat→Rat): ∀ks:List Nat,gj 0 (ks.map (fun i=> -(f i)))= -(gj 0 (ks.map f))
 |[]=>by rw [v8,v8,gj];rfl
 |a::r=>by rw [nE,nE,gj,gj,w6,w6 (r.map f),UN f r,oq,oq,Rat.neg_add]
theorem xk {t:aT}(ah:Valid t)(p:Int){j:Nat}(ae:j<t.length):0≤(kt t p).getD j 0∧((kt t p).getD j 0).toNat<(cp t p).length:=by have h:=hP.mg ah p t.length (bR _);have:=h.kI ((kt t p).getD j 0) (dx 0 (by show j<(dE t p t.length).pos.length;rw [Bg];exact ae));have e:(cp t p).length=(dE t p t.length).cx.length:=rfl;omega
theorem rA {t:aT}{i:Nat}(h:i∈ee t):i<t.length∧(t.getD i aK).kind=0:=by have:=xB.1 h;exact ⟨by simpa using this.1,by simpa using this.2⟩
def afr (t:aT)(p:Int)(o:hC):List Rat:=Q6 (I5 t p (eK t o)) (kt t p) (ee t) (List.replicate (cp t p).length 0)
def rF (S:List Rat)(s:Nat):Nat→Nat
 |0=>s
 |m+1=>if S.getD (rF S s m) 0<S.getD (s+m) 0 then s+m else rF S s m
theorem L0 (S:List Rat)(s:Nat): ∀m,s≤rF S s m∧rF S s m<s+m+1∧(1≤m→rF S s m<s+m)
 |0=>⟨bR _,gH _,fun h=>absurd h a6⟩
 |m+1=>by
  obtain ⟨U,ab,aw⟩:=L0 S s m;rw [rF];split
  ·exact ⟨J,J,fun _=>by omega⟩
  ·exact ⟨U,J,fun _=>by omega⟩
abbrev BQ:=Nat×List Rat×List (Int×Int)
def Mw (l:List fa)(st:BQ):BQ:=
 let s:=st.1-1-(l.getD (st.1-1) c3).choice.toNat
 let b:=rF st.2.1 s (st.1-s)
 let q:=l.getD b c3
 (s,st.2.1.set q.before.toNat (st.2.1.getD q.before.toNat 0+st.2.1.getD b 0),st.2.2++[(q.info,q.choice)])
def ES (l:List fa):Nat→BQ→BQ
 |0,st=>st
 |f+1,st=>if 1<st.1 then ES l f (Mw l st) else st
theorem w5 (f:Nat→Rat)(a:Nat): ∀w,b1 f (a+w)=b1 f a+b1 (fun c=>f (a+c)) w
 |0=>by rw [eQ,b1,mN]
 |w+1=>by rw [←kC,b1,w5 f a w,b1,xH]
structure xr (t:aT)(p:Int)(e:Nat):Prop where
 one:1≤e
 le:e≤(cp t p).length
 whole: ∀x∈jv t p,x.2<e→x.2+cD t p x.1≤e
theorem xr.top {t:aT}(ah:Valid t)(p:Int):xr t p (cp t p).length:=
 ⟨(sF ah p).2.2.1,bR _,fun x ar _=>((hP.mg ah p t.length (bR _)).fst x ar).2.1⟩
structure bQ (t:aT)(p:Int)(e:Nat)(x:Int×Nat)(b:Nat):Prop where
 mem:x∈jv t p
 info:x.1∈di t p
 one:1≤x.2
 lB:1≤cD t p x.1
 fin:x.2+cD t p x.1=e
 lt:b<x.2
 N2:xr t p x.2
 cx: ∀c,c<cD t p x.1→(cp t p).getD (x.2+c) c3=⟨x.1,(c:Int),(b:Int)⟩
theorem xr.s7 {t:aT}(ah:Valid t){p:Int}{e:Nat}(h:xr t p e)(he:1<e): ∃x b,bQ t p e x b:=by
 have au:=h.le;obtain ⟨x,b,wM,hA,ih,pL,sD,AK,Di,AL⟩:=Ir ah (p:=p) (k:=e-1) J J;have hw:=h.whole x wM J;refine ⟨x,b,wM,hA,AK,J,J,sD,⟨AK,J,fun y aY bC=> ?_⟩,AL⟩;rcases ga x.2 (y.2+cD t p y.1) with q|q
 ·obtain ⟨iA,jb,b',dX,eu,mi⟩:=(hP.mg ah p t.length (bR _)).fst y aY;have aD:=mi (x.2-y.2) J;rw [show y.2+(x.2-y.2)=x.2 by omega] at aD;have aE:=AL 0 J;rw [eQ] at aE;have aD:(cp t p).getD x.2 c3=⟨y.1,((x.2-y.2:Nat):Int),b'⟩:=aD;rw [aE] at aD;have:=congrArg fa.choice aD;have:((0:Nat):Int)=((x.2-y.2:Nat):Int):=this;omega
 ·exact q
theorem bQ.step {t:aT}{p:Int}{e:Nat}{x:Int×Nat}{b:Nat}(h:bQ t p e x b)(S:List Rat)(C:List (Int×Int)):
 Mw (cp t p) (e,S,C)=(x.2,S.set b (S.getD b 0+S.getD (rF S x.2 (cD t p x.1)) 0),C++[(x.1,((rF S x.2 (cD t p x.1)-x.2:Nat):Int))]):=by have U:=h.fin;have ab:=h.lB;have ax:=h.cx (cD t p x.1-1) J;rw [show x.2+(cD t p x.1-1)=e-1 by omega] at ax;obtain ⟨bO,_,dq⟩:=L0 S x.2 (cD t p x.1);have dq:=dq ab;have ak:=h.cx (rF S x.2 (cD t p x.1)-x.2) J;rw [show x.2+(rF S x.2 (cD t p x.1)-x.2)=rF S x.2 (cD t p x.1) by omega] at ak;have aD:e-1-((cD t p x.1-1:Nat):Int).toNat=x.2:=J;unfold Mw;simp only [ax];rw [aD,show e-x.2=cD t p x.1 by omega,ak];simp only [cA]
structure BS (t:aT)(p:Int)(u:Int→List Rat):Prop where
 len: ∀x∈di t p,(u x).length=cD t p x
 sum: ∀x∈di t p,gj 0 (u x)=1
 qo: ∀x∈di t p,∀q∈u x,0≤q
theorem ade {t:aT}(ah:Valid t){p:Int}{u:Int→List Rat}(hu:BS t p u): ∀k,k<(cp t p).length→0≤(ud t p u).getD k 0:=by
 intro k;induction k using Nat.strongRecOn with
 |ind k a8=>
  intro ao;rcases nD k with e|e
  ·subst e;rw [Tm ah];decide+kernel
  ·obtain ⟨x,b,wM,hA,ih,pL,sD,AK,Di,AL⟩:=Ir ah e ao;have ax:=AL (k-x.2) J;rw [show x.2+(k-x.2)=k by omega] at ax;have ab:=a8 b J J;unfold ud at ab⊢;rw [A8 _ _ ao,ax];unfold yP;simp only;rw [az J,cA,cA];rw [Sq _ _ (show b<(cp t p).length by omega) (show b<k by omega)] at ab;exact xM ab (hu.qo x.1 hA _ (dx 0 (by rw [hu.len x.1 hA];omega)))
theorem abT {t:aT}{p:Int}{u:Int→List Rat}(hu:BS t p u){x:Int}(ar:x∈di t p):b1 (fun c=>(u x).getD c 0) (cD t p x)=1:=by rw [Ml _ _ (by rw [hu.len x ar];exact bR _),jU (by rw [hu.len x ar];exact bR _),hu.sum x ar]
def iQ (w c:Nat):List Rat:=(List.replicate w 0).set c 1
theorem afM {w c:Nat}(av:c<w)(M:Nat→Rat):b1 (fun j=>(iQ w c).getD j 0*M j) w=M c:=by
 rw [←TC (f:=M) av];refine fJ (fun j ae=> ?_);unfold iQ;rw [Go.ai.dL.fG,fw];by_cases h:j=c
 ·subst h;rw [aG ⟨rfl,av⟩,aG rfl,r0]
 ·have:(List.replicate w (0:Rat)).getD j 0=0:=by simp only [List.getD,s4];split<;>rfl
  rw [az (fun q=>h q.1),az h,this,oF]
structure um (t:aT)(p:Int)(e:Nat)(C:List (Int×Int)):Prop where
 eP:(C.map Prod.fst).Nodup
 yo: ∀y∈C,∃x∈jv t p,x.1=y.1∧e≤x.2
 all: ∀x∈jv t p,e≤x.2→x.1∈C.map Prod.fst
 QL: ∀y∈C,0≤y.2∧y.2.toNat<cD t p y.1
theorem um.top {t:aT}(ah:Valid t)(p:Int):um t p (cp t p).length []:=
 ⟨List.nodup_nil,fun y aY=>by simp at aY,fun x ar h=>by
  obtain ⟨U,ab,_⟩:=(hP.mg ah p t.length (bR _)).fst x ar;have ao:x.1∈di t p:=(qx ah).2 (((hP.mg ah p t.length (bR _)).keys x.1).1 (da.2 ⟨x,ar,rfl⟩));obtain ⟨j,ae,ax⟩:=(qx ah).1 ao;have hw:=w8 ah ae ax;unfold e7 at ax;rw [ei] at ax;have:=(ah.Gg ae ax.1).2.2;have e:(cp t p).length=(dE t p t.length).cx.length:=rfl;omega,fun y aY=>by simp at aY⟩
theorem bQ.new {t:aT}(ah:Valid t){p:Int}{e:Nat}{x:Int×Nat}{b:Nat}(h:bQ t p e x b){C:List (Int×Int)}(dR:um t p e C):x.1∉C.map Prod.fst:=by intro hm;obtain ⟨y,aY,ym⟩:=da.1 hm;obtain ⟨z,bw,lY,alR⟩:=dR.yo y aY;have:=Nj (hP.mg ah p t.length (bR _)).eP bw h.mem (by rw [lY,ym]);subst this;have:=h.fin;have:=h.lB;omega
theorem bQ.W1 {t:aT}(ah:Valid t){p:Int}{e:Nat}{x:Int×Nat}{b c:Nat}(h:bQ t p e x b){C:List (Int×Int)}(dR:um t p e C)(av:c<cD t p x.1):um t p x.2 (C++[(x.1,(c:Int))]):=by
 have U:=h.fin;have ab:=h.lB;refine ⟨?_,fun y aY=> ?_,fun z bw hle=> ?_,fun y aY=> ?_⟩
 ·rw [hS,List.nodup_append];refine ⟨dR.eP,bZ,fun a a1 b' eg gY=> ?_⟩;have:b'=x.1:=by simpa using eg
  rw [gY,this] at a1;exact h.new ah dR a1
 ·rcases gz.1 aY with q|q
  ·obtain ⟨z,l2,z2,z3⟩:=dR.yo y q;exact ⟨z,l2,z2,J⟩
  ·rw [hR.1 q];exact ⟨x,h.mem,I,bR _⟩
 ·rw [hS,gz];by_cases he:e≤z.2
  ·exact .inl (dR.all z bw he)
  ·right
   --a set that begins in the block of x is x itself
   obtain ⟨l2,z2,b',dX,eu,mi⟩:=(hP.mg ah p t.length (bR _)).fst z bw;have aaW:z.1∈di t p:=(qx ah).2 (((hP.mg ah p t.length (bR _)).keys z.1).1 (da.2 ⟨z,bw,rfl⟩));obtain ⟨j,ae,ax⟩:=(qx ah).1 aaW;have hw:=w8 ah ae ax;unfold e7 at ax;rw [ei] at ax;have F3:=(ah.Gg ae ax.1).2.2;have aD:(cp t p).getD z.2 c3=⟨z.1,((0:Nat):Int),b'⟩:=mi 0 J;have aE:=h.cx (z.2-x.2) J;rw [show x.2+(z.2-x.2)=z.2 by omega,aD] at aE;have:=congrArg fa.info aE;have:z.1=x.1:=this;simp [this]
 ·rcases gz.1 aY with q|q
  ·exact dR.QL y q
  ·rw [hR.1 q];exact ⟨B9 _,by rw [cA];exact av⟩
theorem RO {t:aT}(ah:Valid t){p:Int}: ∀(f e:Nat) (S:List Rat) (C:List (Int×Int)),xr t p e→e≤f+1→um t p e C→um t p 1 (ES (cp t p) f (e,S,C)).2.2
 |0,e,S,C,ak,aN,dR=>by have:=ak.one;obtain rfl:e=1:=J;exact dR
 |f+1,e,S,C,ak,aN,dR=>by
  rw [ES];split
  ·rename_i he;have he:1<e:=he;obtain ⟨x,b,cZ⟩:=ak.s7 ah he;have U:=cZ.fin;have ab:=cZ.lB;rw [cZ.step S C];obtain ⟨bO,_,dq⟩:=L0 S x.2 (cD t p x.1);have dq:=dq ab;exact RO ah f x.2 _ _ cZ.N2 J (cZ.W1 ah dR J)
  ·rename_i he;have he: ¬1<e:=he;have:=ak.one;obtain rfl:e=1:=J;exact dR
def Ii (t:aT)(p:Int)(o:hC):BQ:=ES (cp t p) (cp t p).length ((cp t p).length,afr t p o,[])
def Ge (C:List (Int×Int))(x:Int):Option Int:=(C.find? (fun y=>decide (y.1=x))).map Prod.snd
theorem ajI {C:List (Int×Int)}(aF:(C.map Prod.fst).Nodup){y:Int×Int}(aY:y∈C):Ge C y.1=some y.2:=by
 unfold Ge;induction C with
 |nil=>simp at aY
 |cons a r a8=>
  rw [nE,zz] at aF;rw [List.find?_cons];rcases fT.1 aY with e|q
  ·subst e;simp
  ·have: ¬a.1=y.1:=fun e=>aF.1 (da.2 ⟨y,q,e.symm⟩);rw [fq this];exact a8 aF.2 q
def BJ (t:aT)(p:Int)(o:hC)(x:Int):List Rat:=iQ (cD t p x) ((Ge (Ii t p o).2.2 x).getD 0).toNat
theorem agP {t:aT}(ah:Valid t)(p:Int)(o:hC):um t p 1 (Ii t p o).2.2:=
 RO ah _ _ _ _ (xr.top ah p) J (um.top ah p)
theorem SU {t:aT}(ah:Valid t){p:Int}(o:hC){x:Int}(ar:x∈di t p): ∃c:Nat,Ge (Ii t p o).2.2 x=some (c:Int)∧c<cD t p x∧(x,(c:Int))∈(Ii t p o).2.2:=by
 have dR:=agP ah p o;obtain ⟨j,ae,ax⟩:=(qx ah).1 ar;have h:=hP.mg ah p t.length (bR _);obtain ⟨z,bw,F6⟩:=da.1 ((h.keys x).2 ⟨j,ae,ax⟩);have hm:=dR.all z bw (h.fst z bw).1;obtain ⟨y,aY,ym⟩:=da.1 hm;have ym:y.1=x:=by rw [ym,F6]
 have au:=ajI dR.eP aY;obtain ⟨gq,gJ⟩:=dR.QL y aY;obtain ⟨c,av⟩:=oo gq;rw [ym,av] at au;rw [av,cA,ym] at gJ;refine ⟨c,au,gJ,?_⟩;have:y=(x,(c:Int)):=by rw [←ym,←av]
 rwa [←this]
theorem AY {w c:Nat}(av:c<w):(iQ w c).length=w∧gj 0 (iQ w c)=1∧(∀q∈iQ w c,0≤q∧D 1 q):=by
 have au:(iQ w c).length=w:=by unfold iQ;rw [dj,fw]
 refine ⟨au,?_,fun q aB=> ?_⟩
 ·have U:=afM av (fun _=>1);rw [fJ (g:=fun j=>(iQ w c).getD j 0) (fun j _=>Rat.mul_one _),Ml _ _ (by rw [au];exact bR _),jU (by rw [au];exact bR _)] at U;exact U
 ·unfold iQ at aB;rcases xE aB with h|h
  ·rw [(zq.1 h).2];exact ⟨Rat.le_refl,a6,a6⟩
  ·rw [h];exact ⟨by decide+kernel,a6,a6⟩
theorem WG {t:aT}(ah:Valid t)(p:Int)(o:hC):BS t p (BJ t p o):=by
 have key: ∀x∈di t p,∃c,c<cD t p x∧BJ t p o x=iQ (cD t p x) c:=fun x ar=>by obtain ⟨c,U,ab,_⟩:=SU ah o ar;refine ⟨c,ab,?_⟩;unfold BJ;rw [U];rfl
 refine ⟨fun x ar=> ?_,fun x ar=> ?_,fun x ar=> ?_⟩<;>obtain ⟨c,eY,h8⟩:=key x ar<;>obtain ⟨f1,f2,f3⟩:=AY eY<;>rw [h8]
 ·exact f1
 ·exact f2
 ·exact fun q aB=>(f3 q aB).1
end Go.ai.cz
namespace Go.ai.cz
open Go.ai.c8 Go.ai.kz
theorem SG {α:Type}(p:α→Bool): ∀l:List α,l.any p=true→iy p l=(l.findIdx p:Nat)
 |[],h=>by simp at h
 |x::r,h=>by
  rw [iy,List.findIdx_cons];cases ar:p x
  ·have ad:r.any p=true:=by simpa [ar] using h
   rw [SG p r ad];simp only [nA,q0,gW];rw [az J];omega
  ·rfl
theorem ajD {α:Type}(p:α→Bool)(l:List α)(h:l.any p=false):iy p l= -1:=by have:=DY p l;rw [h,zx] at this;exact Uo p l J
def kP (t:aT)(p:Int)(k:Nat):List Int:=((List.range k).map (fun i:Nat=>(i:Int))).filter (fun i=>t.any (e7 p i))
def qH (t:aT)(p:Int)(k:Nat):List Int:=(kP t p k).map (fun i=>((cD t p i:Nat):Int))
theorem RW (t:aT)(p:Int)(k:Nat):kP t p (k+1)=if t.any (e7 p (k:Int))=true then kP t p k++[(k:Int)] else kP t p k:=by
 unfold kP;rw [r2,hS,List.filter_append];split
 ·rename_i h;simp [h]
 ·rename_i h;simp [h]
theorem ahK (t:aT)(p:Int)(k:Nat):qH t p (k+1)=if t.any (e7 p (k:Int))=true then qH t p k++[((cD t p (k:Int):Nat):Int)] else qH t p k:=by
 unfold qH;rw [RW];split
 ·simp
 ·rfl
theorem aio (t:aT)(p:Int)(k:Nat):(kP t p k).length≤k:=by unfold kP;refine dT (xK _ _) bZ
theorem Sx (t:aT)(p:Int)(k:Nat):(qH t p k).length=(kP t p k).length:=by unfold qH;simp
theorem ain (t:aT)(p:Int):kP t p 10=di t p:=rfl
theorem aiI (t:aT)(p:Int):qH t p 10=tZ t p:=rfl
theorem ahD {t:aT}{p i:Int}(h:t.any (e7 p i)=true):Bt t p i<t.length:=by obtain ⟨x,ar,ab⟩:=nC.1 h;exact List.findIdx_lt_length_of_exists ⟨x,ar,ab⟩
end Go.ai.cz
namespace Go.ai.cz
open Go.ai.c8
def l5 (o:Option (List Rat))(q:Option Rat)(k:Nat):Option Rat:=some (BA o (q.getD 0) k)
def o5 (t:aT)(o:hC):Nat→List (Option Rat)
 |0=>(List.replicate t.length none).set 0 (some 1)
 |i+1=>dF (l5 (o i) ((o5 t o i).getD i none)) (t.getD i aK).next 0 (o5 t o i)
theorem AV (t:aT)(o:hC): ∀i,(o5 t o i).length=t.length
 |0=>by simp [o5]
 |i+1=>by rw [o5,vz,AV t o i]
theorem Valid.known {t:aT}(h:Valid t){i:Nat}(aa:i<t.length):i=0∨ ∃a,a<i∧qm t a i:=by
 by_cases aO:i=0
 ·exact .inl aO
 ·obtain ⟨a,a1,ao⟩:=h.has aa aO;exact .inr ⟨a,(h.P6 a1 ao).1,ao⟩
theorem Me {t:aT}(h:Valid t)(o:hC): ∀i,i≤t.length→ ∀j,j<t.length→(j=0∨ ∃a,a<i∧qm t a j)→(o5 t o i).getD j none=some ((eK t o).getD j 0)
 |0,_,j,ae,ao=>by
  rcases ao with rfl|⟨a,a1,_⟩
  ·rw [Ss h,o5,Go.ai.dL.fG,aG ⟨rfl,by simpa using ae⟩]
  ·omega
 |i+1,aa,j,ae,ao=>by
  have aP:i<t.length:=J;have a8:=Me h o i J;rw [o5];by_cases JW:qm t i j
  ·obtain ⟨m,hm,rfl⟩:=P5 h aP JW;rw [VE _ _ _ _ _ _ hm (h.P7 aP) (fun c av=>by rw [AV];have:=h.behind aP c av;omega),c1,Tr h o aP hm];unfold l5;rw [a8 i aP (h.known aP)];rfl
  ·have b2: ∀c∈(t.getD i aK).next,c.toNat≠j:=fun c av e=>by have:=h.behind aP c av;apply JW;show (j:Int)∈_;rw [←e,Int.toNat_of_nonneg J];exact av
   rw [vq _ _ _ _ _ b2];refine a8 j ae ?_;rcases ao with rfl|⟨a,a1,z7⟩
   ·exact .inl I
   ·refine .inr ⟨a,?_,z7⟩;have:a≠i:=fun e=>JW (e▸z7);omega
theorem aiA {t:aT}(h:Valid t)(o:hC):o5 t o t.length=(eK t o).map some:=by
 have au:(eK t o).length=t.length:=DC t o _;apply lo
 ·rw [AV,cL,au]
 ·intro j U ab;rw [AV] at U;have:=Me h o t.length (bR _) j U (by
   rcases h.known U with e|⟨a,a1,ao⟩
   ·exact .inl e
   ·exact .inr ⟨a,J,ao⟩)
  rw [mf];rw [uF,mL (by rw [AV];exact U),uF,mL J] at this;exact this
end Go.ai.cz
namespace Go.ai.cz
open Go.ai.c8 Go.ai.kz
structure qX where
 info:Int
 eH:List dI
 deriving DecidableEq
def xR:qX:=⟨0,[]⟩
abbrev rL:=List qX
def It (b8 Z:List Int):Nat→rL→Int
 |_,[]=>0
 |k,c::r=>if c.info≠b8.getD k 0∨((c.eH.length:Nat):Int)≠Z.getD k 0 then 3 else if sS c.eH≠0 then sS c.eH else It b8 Z (k+1) r
def Q3 (t:aT)(p:Int)(s:rL):Int:=if s.length≠(di t p).length then 3 else It (di t p) (tZ t p) 0 s
theorem UM: ∀(hV:List Rat) (acc:Rat),(sT acc hV).2=0→(sT acc hV).1=gj acc hV
 |[],acc,_=>rfl
 |q::r,acc,h=>by
  rw [sT] at h⊢;rw [gj];split at h
  ·rename_i aN;rw [aG aN];exact UM r _ h
  ·cases h
theorem Td {l:List dI}(h:sS l=0):l.length≤256∧(∀s∈l,gv s=0)∧gj 0 (l.map b4)=1∧ ∀q∈l.map b4,0≤q∧D 2000 q:=by
 unfold sS at h;split at h
 case isFalse U=>exact absurd h U
 rename_i U;split at h
 case isFalse=>cases h
 rename_i ab;unfold AB at U;split at U
 ·cases U
 rename_i aw;have bg:l.any iF=false:=by
  cases ak:l.any iF
  ·rfl
  ·exact absurd ⟨U,ak⟩ aw
 unfold qR at U ab;split at U
 ·cases U
 rename_i bF;split at U
 case isFalse dm=>exact absurd U dm
 rename_i dm;rw [az bF,aG dm] at ab;have fi:=vv dm;refine ⟨J,fi,?_,fun q aB=> ?_⟩
 ·have:=UM _ _ U;rw [this] at ab;unfold wb at ab;split at ab
  ·cases ab
  ·split at ab
   ·rename_i e;exact e
   ·cases ab
 ·obtain ⟨s,ax,rfl⟩:=da.1 aB;have aF:=(ajO (fi s ax)).1 (by rw [r1] at bg;simpa using bg s ax);refine ⟨aF,?_⟩;have aN:=(fQ.self (fi s ax)).fit;unfold e3 at aN;rw [ei,eX,eX] at aN;exact Xr aN.1 aN.2
def Qn (s:rL)(x:Int):List Rat:=((s.find? (fun c=>decide (c.info=x))).map (fun c=>c.eH.map b4)).getD []
end Go.ai.cz
namespace Go.ai
variable [bq]
open Go.RowKit
def Iu (all:Array Oper)(idx:List Nat):Nat→Nat→Nat→Bool
 |0,_,_=>false
 |n+1,j,i=>match all[j]? with
  |some o=>o.after.toList.any (fun e=>Region.binds .any e && Nat.beq e.on i)||o.after.toList.any (fun e=>Region.binds .any e && (idx.contains e.on && Iu all idx n e.on i))
  |none=>false
theorem SF {cur:Array Bool}{i:Nat}(h:cur.getD i false=true):cur.getD i true=true:=by
 have bT:= ‹bq›;unfold Array.getD at h⊢;split at h
 ·rename_i q;rw [dif_pos q];exact h
 ·cases h
theorem Rx {all:Array Oper}{idx:List Nat}{cur:Array Bool}(gZ: ∀lZ∈idx,cur.getD lZ true=true→ ∀o,all[lZ]? =some o→ ∀e∈o.after,Region.binds .any e=true→cur.getD e.on false=true):
 ∀(n j i:Nat),Iu all idx n j i=true→(∀o,all[j]? =some o→ ∀e∈o.after,Region.binds .any e=true→cur.getD e.on false=true)→cur.getD i true=true
 |0,_,_,h,_=>by cases h
 |n+1,j,i,h,hd=>by
  have bT:= ‹bq›;rw [Iu] at h;split at h
  ·rename_i o aj;rw [uE] at h;rcases h with h|h
   ·obtain ⟨e,CC,jG⟩:=nC.1 h;rw [ei] at jG;have aw:=hd o aj e (zr.1 CC) jG.1;rw [ot jG.2] at aw;exact SF aw
   ·obtain ⟨e,CC,jG⟩:=nC.1 h;simp only [ei] at jG;have aw:=SF (hd o aj e (zr.1 CC) jG.1);have hm:e.on∈idx:=by simpa using jG.2.1
    exact Rx gZ n e.on i jG.2.2 (gZ e.on hm aw)
  ·cases h
theorem UF {cur:Array Bool}{i j:Nat}(h:cur.getD j false=true):(cur.setIfInBounds i true).getD j false=true:=by
 have bT:= ‹bq›;simp only [xN,zl] at h⊢;split
 ·split
  ·rfl
  ·rename_i U ab;subst U;rw [Array.getElem?_eq_none J] at h;cases h
 ·exact h
theorem agI {all:Array Oper}{idx:List Nat}{cur:Array Bool}{i:Nat}(akB:i∈idx)(gZ: ∀lZ∈idx,cur.getD lZ true=true→ ∀o,all[lZ]? =some o→ ∀e∈o.after,Region.binds .any e=true→cur.getD e.on false=true)(hd: ∀o,all[i]? =some o→ ∀e∈o.after,Region.binds .any e=true→cur.getD e.on false=true):
 ∀lZ∈idx,(cur.setIfInBounds i true).getD lZ true=true→ ∀o,all[lZ]? =some o→ ∀e∈o.after,Region.binds .any e=true→(cur.setIfInBounds i true).getD e.on false=true:=by
 have bT:= ‹bq›;intro lZ yb hu o aj e he ak;by_cases h:lZ=i
 ·subst h;exact UF (hd o aj e he ak)
 ·refine UF (gZ lZ yb ?_ o aj e he ak);have aL: ¬i=lZ:=fun q=>h q.symm;simpa [xN,zl,aL] using hu
section
variable {P:Program}{fn:Func}{c:Ctx}{fr:Fr}{H:aX}{k:List eh}
end
end Go.ai
namespace Go.ai
open Go
variable [bq]
theorem Rn {P:Program}(w:World){t e:TypeId}(a:Option Addr)(n c:Nat)(h:P.underlying t=some (.slice e)):(binOp .neq t (.slice a n c) (.slice none 0 0)).run P w= .ok (.bool (!a.isNone)) w:=by
 have bT:= ‹bq›;have U: ∀d:Nat,(Op.equalIn (d+1) t (.slice a n c) (.slice none 0 0)).run P w= .ok a.isNone w:=fun d=>by
  cases a with
  |none=>simp [Op.equalIn,run_underlying h]
  |some a=>simp [Op.equalIn,run_underlying h]
 simp only [binOp];simp [Op.equal,Op.maxDepth,U 9999]
section
variable {P:Program}{fn:Func}{c:Ctx}{fr:Fr}{H:aX}{k:List eh}{ind:Bool}{d:Option Nat}{ty:TypeId}{pos:String}{after:Array Edge}{g:Option (Nat×Bool)}
theorem ahi {x y:Operand}{t cr e:TypeId}(bs:P.underlying t=some (.slice e))(ar:bA fr x=some .nil)(aY:bA fr y=some .nil):bV ind P fn c fr H ⟨d,.binOp .neq t x y cr,ty,pos,after,g⟩ (.bool false):=by intro w a σ S ad;have U:=ad.dN ar;have ab:=ad.dN aY;generalize bw:a.eval x=z at U;generalize lY:a.eval y=ND at ab;cases U;cases ab;refine ⟨_,.bool _ _,fun w' _=> ?_⟩;have ak:=Rn (P:=P) w' none 0 0 bs;simp only [execOp,bw,lY,Sem.run_bind,GC,Result.andThen_ok,ak];rfl
theorem adr {x y:Operand}{t cr e:TypeId}{dG:Cells}{i n:Nat}(bs:P.underlying t=some (.slice e))(ar:bA fr x=some (.ro dG i n))(aY:bA fr y=some .nil)(aF:0<n):bV ind P fn c fr H ⟨d,.binOp .neq t x y cr,ty,pos,after,g⟩ (.bool true):=by
 intro w a σ S ad;have U:=ad.dN ar;have ab:=ad.dN aY;generalize bw:a.eval x=z at U;generalize lY:a.eval y=ND at ab;cases ab;cases U with
 |jJ _ _ _ iV cap=>exact absurd aF (ov _)
 |ro _ _ _ _ b o cap val dp hlen av ah gf=>
  refine ⟨_,.bool _ _,fun w' _=> ?_⟩;have ak:=Rn (P:=P) w' (some ⟨b,o,none⟩) n cap bs;simp only [execOp,bw,lY,Sem.run_bind,GC,Result.andThen_ok,ak];rfl
end
end Go.ai
namespace Go.ai
variable [bq]
open Go.RowKit
def Ci (P:Program)(e:TypeId)(L M:List al):List Nat→Option Bool
 |[]=>some true
 |i::is=>match Ci P e L M is,L[i]?,M[i]? with
  |some r,some x,some y=>(K5 P e x y).map (· && r)
  |_,_,_=>none
theorem UC {P:Program}{w w':World}{S:Nat→Prop}{σ:Nat→Option bQ}{L M:List al}{xs AM:Array Value}{d:Nat}{e:TypeId}(U:xs.size=L.length)(ab: ∀i,i<L.length→bp w S σ (L.getD i .any) (xs.getD i undef))(aw:AM.size=M.length)(bg: ∀i,i<M.length→bp w S σ (M.getD i .any) (AM.getD i undef)):
 ∀(is:List Nat) (b:Bool),Ci P e L M is=some b→(Op.eqItems (d+1) e 1 xs AM is).run P w'= .ok b w'
 |[],b,h=>by simp [Ci] at h;subst h;simp [Op.eqItems]
 |i::is,b,h=>by
  simp only [Ci] at h;split at h
  ·rename_i r x y ad cv hj;have a8:=UC (d:=d) (w':=w') U ab aw bg is r ad;obtain ⟨v1,aD,gq⟩:=VS U ab cv;obtain ⟨v2,aE,gJ⟩:=VS aw bg hj;obtain ⟨q,aB,ak⟩:=Option.map_eq_some_iff.1 h;obtain ⟨aJ,ez⟩:=ajd (w':=w') aB gq gJ d;simp only [Op.eqItems,q3];simp only [Sem.run_bind,run_part_plain w' aJ aD,Result.andThen_ok,run_part_plain w' aJ aE,ez];subst ak;cases q with
   |false=>simp
   |true=>simpa using a8
  ·cases h
section
variable {P:Program}{fn:Func}{c:Ctx}{fr:Fr}{H:aX}{k:List eh}{ind:Bool}{d:Option Nat}{ty:TypeId}{pos:String}{after:Array Edge}{g:Option (Nat×Bool)}
theorem adn {x y:Operand}{t cr e:TypeId}{n:Nat}{inf:TypeInfo}{L M:List al}{b:Bool}(ar:bA fr x=some (.agg L))(aY:bA fr y=some (.agg M))(bs:P.underlying t=some (.array n e))(aa:P.info? e=some inf)(av:P.cellsOf e=1)(cX:P.eqGuardType P.depth t=false)(he:Ci P e L M (List.range n)=some b):bV ind P fn c fr H ⟨d,.binOp .neq t x y cr,ty,pos,after,g⟩ (.bool (!b)):=by
 intro w a σ S ad;have U:=ad.dN ar;have ab:=ad.dN aY;generalize bw:a.eval x=z at U;generalize lY:a.eval y=ND at ab;cases U with
 |agg _ _ xs gx a2 a3=>
  cases ab with
  |agg _ _ AM dX eu mi=>
   refine ⟨_,.bool _ _,fun w' _=> ?_⟩;have ad:=UC (d:=9998) (w':=w') gx a2 dX eu _ b he;simp only [execOp,bw,lY,Sem.run_bind,run_eqGuard_agg w' _ _ _ _ _ _ cX,Result.andThen_ok,run_neq_struct,show (10000:Nat)=9999+1 from rfl,run_equalIn_array w' 9999 _ _ bs aa,av,ad];rfl
end
end Go.ai
namespace Go.ai.cz
open Go.ai.c8
theorem Im {q:Rat}{M:Nat}(h:q≤(M:Rat)):q.num≤M*q.den:=by have ab:=Rat.not_lt.2 h;rw [Rat.lt_iff] at ab;rw [Rat.num_natCast,Rat.den_natCast] at ab;have: ¬((M:Int)*(q.den:Int)<q.num*1):=ab;omega
theorem Ql {q:Rat}{M:Nat}(h:q.num≤M*q.den):q≤(M:Rat):=by refine Rat.not_lt.1 (fun ab=> ?_);rw [Rat.lt_iff,Rat.num_natCast,Rat.den_natCast] at ab;have:(M:Int)*(q.den:Int)<q.num*1:=ab;omega
theorem V0 {k:Nat}{q:Rat}(h:D k q):q≤((10^k:Nat):Rat)∧ -q≤((10^k:Nat):Rat):=by have U:=h.1;have ab:=q.den_pos;generalize 10^k=T at*;have aw:(T:Int)*1≤T*q.den:=Int.mul_le_mul_of_nonneg_left J J;refine ⟨Ql J,Ql ?_⟩;show-q.num≤(T:Int)*(q.den:Int);omega
theorem WJ {B K M:Nat}{q:Rat}(h:hM B q)(cZ:B≠0)(U:q≤(M:Rat))(ab: -q≤(M:Rat))(hj:M*B<10^K)(dn:B<10^K):D K q:=by have hd:=zA J (h.den cZ);refine ⟨?_,J⟩;have gx:=Im U;have a2:=Im ab;have a2: -q.num≤(M:Int)*(q.den:Int):=a2;have a3:M*q.den≤M*B:=h5 _ hd;have a4:((M*q.den:Nat):Int)=(M:Int)*(q.den:Int):=Int.natCast_mul _ _;omega
def Gl (t:aT):Nat:=uh (t.map (fun n=>if n.kind=0 then (b4 n.dC).den else 1))
theorem acQ (t:aT):0<Gl t:=by
 refine To (fun x ar=> ?_);obtain ⟨n,_,rfl⟩:=da.1 ar;split
 ·exact Rat.den_pos _
 ·exact Nat.one_pos
structure EF (t:aT)(d:Nat):Prop where
 nH: ∀i,i<t.length→(t.getD i aK).kind=0→D d (b4 (t.getD i aK).dC)
theorem acP {t:aT}{d:Nat}(h:EF t d):Gl t≤10^(d*t.length):=by
 have U:=UA (l:=t.map (fun n=>if n.kind=0 then (b4 n.dC).den else 1)) (d:=d) (fun x ar=>by
  obtain ⟨n,aF,rfl⟩:=da.1 ar;obtain ⟨i,aa,rfl⟩:=ln aF;split
  ·rename_i ab;have:=h.nH i aa (by rw [e9 aK aa];exact ab);rw [e9 aK aa] at this;exact q5 this.2
  ·exact mM a6)
 rwa [cL] at U
theorem acO {t:aT}{i:Nat}(aa:i<t.length)(ao:(t.getD i aK).kind=0):(b4 (t.getD i aK).dC).den∣Gl t:=by refine Tn (da.2 ⟨t.getD i aK,dx aK aa,?_⟩);rw [aG ao]
def eJ (t:aT):hC:=fun i=>if (t.getD i aK).kind=1 then some ((t.getD i aK).eH.map b4) else none
def adf (t:aT)(a b:Int→List Rat):hC:=fun i=>
 if (t.getD i aK).kind=1 then some ((t.getD i aK).eH.map b4)
 else if (t.getD i aK).kind=2 then some (if (t.getD i aK).eI=0 then a (t.getD i aK).info else b (t.getD i aK).info) else none
theorem amf {t:aT}(ah:Valid t){i:Nat}(aa:i<t.length)(ao:(t.getD i aK).kind=2):(t.getD i aK).eI=0∨(t.getD i aK).eI=1:=by
 have h:=ah.nodes i aa;unfold lG at h;rw [az J,az J,aG ao] at h;split at h
 ·cases h
 split at h
 ·cases h
 rename_i U;omega
theorem acz {p:Int}{n:cW}:own p n=true↔n.kind=2∧n.eI=p:=by unfold own;rw [ei,eX,eX]
structure Modest (t:aT):Prop where
 len:t.length≤40
 dC: ∀n∈t,n.dC.length≤12
 eH: ∀n∈t,∀r∈n.eH,r.length≤12
theorem yL {t:aT}(ah:Valid t){i:Nat}(aa:i<t.length)(ao:(t.getD i aK).kind=0):gv (t.getD i aK).dC=0:=by
 have h:=ah.nodes i aa;unfold lG at h;rw [aG ao] at h;split at h
 ·cases h
 ·exact h
theorem ahd {t:aT}(ah:Valid t){i:Nat}(aa:i<t.length)(ao:(t.getD i aK).kind=1):(t.getD i aK).eH.length=(t.getD i aK).next.length∧sS (t.getD i aK).eH=0:=by
 have h:=ah.nodes i aa;unfold lG at h;rw [az J,aG ao] at h;split at h
 ·cases h
 split at h
 ·rename_i U;exact absurd h U
 split at h
 ·cases h
 ·rename_i U;exact ⟨jV.1 U,h⟩
theorem Modest.Az {t:aT}(hm:Modest t)(ah:Valid t):EF t 12:=
 ⟨fun i aa ao=>(fQ.self (yL ah aa ao)).nH (hm.dC _ (dx aK aa)) a6⟩
theorem IG.mix {t:aT}{p:Int}{u:Int→List Rat}{d:Nat}(h:IG t p u d):BS t p u:=⟨h.len,h.sum,h.qo⟩
theorem ahT {t:aT}(ah:Valid t)(p:Int)(o:hC):IG t p (BJ t p o) 12:=by
 have hm:=WG ah p o;refine ⟨hm.len,hm.sum,hm.qo,fun x ar q aB=> ?_⟩;obtain ⟨c,U,ab,_⟩:=SU ah o ar;have e:BJ t p o x=iQ (cD t p x) c:=by unfold BJ;rw [U];rfl
 rw [e] at aB;exact ((AY ab).2.2 q aB).2.mono a6
structure zh (t:aT)(o:hC)(d:Nat):Prop where
 some: ∀i,i<t.length→ ∀l,o i=some l→l.length=(t.getD i aK).next.length∧ ∀q∈l,0≤q∧q≤1∧D d q
theorem Vy {t:aT}(h:Valid t){o:hC}{d:Nat}(aj:zh t o d): ∀j,j<t.length→hM (rN o j) ((eK t o).getD j 0)∧0≤(eK t o).getD j 0∧(eK t o).getD j 0≤1:=by
 intro j;induction j using Nat.strongRecOn with
 |ind j a8=>
  intro ae;by_cases aO:j=0
  ·subst aO;rw [Ss h];exact ⟨hM.one _,by decide+kernel,Rat.le_refl⟩
  ·obtain ⟨i,aa,ao⟩:=h.has ae aO;have bC:=h.P6 aa ao;obtain ⟨m,hm,he⟩:=P5 h aa ao;have ad:=Tr h o aa hm;rw [he] at ad;obtain ⟨g1,g2,g3⟩:=a8 i J aa;cases yd:o i with
   |none=>
    rw [yd] at ad;have ad:(eK t o).getD j 0=(eK t o).getD i 0:=ad;rw [ad];have dm:=Ek o (i:=i) (j-i);rw [show i+(j-i)=j by omega] at dm;exact ⟨g1.mono dm,g2,g3⟩
   |some l=>
    obtain ⟨fB,At⟩:=aj.some i aa l yd;rw [yd] at ad;have ad:(eK t o).getD j 0=(eK t o).getD i 0*l.getD m 0:=ad;obtain ⟨bO,bW,dq⟩:=At (l.getD m 0) (dx 0 J);rw [ad];refine ⟨?_,xM g2 bO,?_⟩
    ·have bF:hM (rN o (i+1)) ((eK t o).getD i 0*l.getD m 0):=by refine (g1.mul (hM.Qo (q:=l.getD m 0))).mono ?_;show _∣rN o i*Gm (o i);rw [yd];exact Nat.mul_dvd_mul (Nat.dvd_refl _) (Tn (da.2 ⟨_,dx 0 J,I⟩))
     have dm:=Ek o (i:=i+1) (j-(i+1));rw [show i+1+(j-(i+1))=j by omega] at dm;exact bF.mono dm
    ·have fi:=Rat.mul_le_mul_of_nonneg_left bW g2;rw [Rat.mul_one] at fi;exact q6 fi g3
theorem Iy {t:aT}{o:hC}{d:Nat}(aj:zh t o d): ∀i,i≤t.length→rN o i≤10^(d*((t.take i).flatMap cW.next).length)
 |0,_=>by simp [rN]
 |i+1,aa=>by
  have a8:=Iy aj i J;have aP:i<t.length:=J;have aJ:Gm (o i)≤10^(d*(t.getD i aK).next.length):=by
   cases yd:o i with
   |none=>exact mM a6
   |some l=>
    obtain ⟨fB,At⟩:=aj.some i aP l yd;rw [←fB];have:=UA (l:=l.map Rat.den) (d:=d) (fun x ar=>by
     obtain ⟨q,aB,rfl⟩:=da.1 ar;exact q5 (At q aB).2.2.2)
    rwa [cL] at this
  rw [rN,p6 aP,List.flatMap_append,c2,gN,jm];refine jB a8 ?_;rw [e9 aK aP] at aJ;simpa using aJ
theorem Tq {t:aT}(h:Valid t){o:hC}{d:Nat}(aj:zh t o d)(aF:t.length≤40){j:Nat}(ae:j<t.length):D (d*40+1) ((eK t o).getD j 0):=by obtain ⟨g1,g2,g3⟩:=Vy h aj j ae;have dm:=Ek o (i:=j) (t.length-j);rw [show j+(t.length-j)=t.length by omega] at dm;have fi:=Iy aj t.length (bR _);rw [gb] at fi;have py:=Ui h;have lv:d*(t.flatMap cW.next).length≤d*40:=h5 _ J;have E8:10^(d*(t.flatMap cW.next).length)≤10^(d*40):=gp a6 lv;have E9:0<10^(d*40):=mM a6;have eE:=Nt o t.length;refine afK (g1.mono dm) J g2 g3 ?_;rw [h4];omega
theorem afL {l:List Rat}(ax:gj 0 l=1)(aO: ∀q∈l,0≤q): ∀q∈l,q≤1:=by
 have key: ∀(l:List Rat) (x:Rat),(∀q∈l,0≤q)→x∈l→x≤gj 0 l:=by
  intro l;induction l with
  |nil=>intro x _ ar;simp at ar
  |cons a r abb=>
   intro x aB ar;rw [gj,w6,oq];have a1:=aB a bZ;have ad:=VP r 0 (fun y aY=>aB y (by simp [aY]));rcases fT.1 ar with rfl|ar
   ·have:=(Rat.add_le_add_left (c:=x)).2 ad
    rwa [mN] at this
   ·have U:=abb x (fun q Ai=>aB q (by simp [Ai])) ar;have:=(Rat.add_le_add_right (c:=gj 0 r)).2 a1;rw [oq] at this;exact q6 U this
 intro q aB;rw [←ax];exact key l q aO aB
def ji (t:aT)(i:Nat):List Int:=((List.range i).filter (fun j=>decide ((t.getD j aK).kind=0))).map (fun j:Nat=>(j:Int))
theorem Sk (t:aT)(i:Nat):ji t (i+1)=if (t.getD i aK).kind=0 then ji t i++[(i:Int)] else ji t i:=by
 unfold ji;rw [r2,List.filter_append,hS];by_cases h:(t.getD i aK).kind=0
 ·rw [aG h,List.filter_cons_of_pos (by simpa using h)];rfl
 ·rw [az h,List.filter_cons_of_neg (by simpa using h)];simp
theorem SB (t:aT): ∀i,(ji t i).length≤i
 |0=>bR _
 |i+1=>by
  have:=SB t i;rw [Sk];split
  ·rw [c2];show _+1≤_;omega
  ·omega
theorem SA (t:aT):ji t t.length=(ee t).map (fun j:Nat=>(j:Int)):=rfl
theorem ajv (t:aT){k:Nat}(ao:k<(ee t).length):(ji t t.length).getD k 0=(((ee t).getD k 0:Nat):Int):=by rw [SA,qA _ _ 0 _ _ ao]
end Go.ai.cz
namespace Go.ai
variable [bq]
open Go.RowKit
section
variable {P:Program}{fn:Func}{c:Ctx}{fr:Fr}{H:aX}{k:List eh}
end
end Go.ai
namespace Go.ai
variable [bq]
open Go.RowKit
structure V1 (gw b7 bE:aX)(cH dk:al):Prop where
 sub:vi gw b7
 alY: ∀(h:Nat) (o:bk),gw[h]? =some (some o)→eV o.c
 len:bE.length=b7.length
 new: ∀(h:Nat) (o':bk),bE[h]? =some (some o')→(∀o:bk,gw[h]? ≠some (some o))∧ ∃o:bk,b7[h]? =some (some o)∧o'.ty=o.ty∧o'.c.len=o.c.len∧o'.c.bU=o.c.bU∧ ∀i j,i<o.c.len→j<o.c.aC→uq gw (o.c.at i j) (o'.c.at i j)
 res:uq gw cH dk
theorem cg.Oy {P:Program}{f:FuncId}{args:List al}{K gm:al→aX→Prop}(av:cg P f args [] (fun _=>False) K)(dn: ∀cH b7,K cH b7→ ∃gw bE dk,V1 gw b7 bE cH dk∧gm dk bE):cg P f args [] (fun _=>False) gm:=by
 refine ⟨av.1,fun w pf S ds aJ jI aN ah=> ?_⟩;refine (av.2 w pf S ds aJ jI aN ah).mono ?_;rintro e w' ⟨v,cH,σ,vQ,b7,rfl,g1,g2,g3,g4⟩;obtain ⟨gw,bE,dk,⟨iw,e6,hlen,lS,FT⟩,b5⟩:=dn cH b7 g4;have J3:zb w' vQ σ gw:=fun h o aj=>g1.live h o (iw h o aj)
 let bY:Nat→Prop:=fun b=>vQ b∨ ∃h o s C,gw[h]? =some (some o)∧σ h=some (.at b s C)
 have j0: ∀{lJ:Nat→Option bQ} {x v},bp w' vQ lJ x v→bp w' bY lJ x v:=fun h=>h.mono (fun _ h=> .inl h) (fun _ _=>rfl) _ (fun _ _ h=>h);have zX: ∀{x y v},uq gw x y→bp w' vQ σ x v→bp w' bY σ y v:=by
  intro x y v h ah;rcases h with rfl|rfl|⟨rfl,dO⟩
  ·exact j0 ah
  ·exact .any _ _
  ·exact bp.freeze J3 e6 (fun _ h=> .inl h) (fun h o b s C U ab=> .inr ⟨h,o,s,C,U,ab⟩) ah σ dO
 refine ⟨v,dk,σ,bY,bE,I,⟨fun h o' cU=> ?_,fun U ab o1 o2 b s C cl cF bO bW aD aE=> ?_,fun b ak=> ?_,fun h au=>g1.hG h J⟩,zX FT g2,⟨g3.os,g3.output,g3.tape,g3.size,g3.block,fun b ak=> .inl (g3.hD b ak),fun b ak=> ?_,fun _ h=>h.elim,fun _ h=>h.elim,fun h o b s C q e=> ?_⟩,b5⟩
 ·obtain ⟨eO,o,U,ab,aw,bg,bF⟩:=lS h o' cU;rw [aw,zc bg];rcases g1.live h o U with g|⟨b,C,cur,bO,bW,dq,dZ,gR,iz,sy⟩
  ·exact .inl g
  ·refine .inr ⟨b,C,cur,bO,(bW.mono I j0).bU ab bg,dq,dZ,gR,?_,fun i j aa ae=> ?_⟩
   ·rintro (ax|⟨aL,o2,s2,fY,hX,u2⟩)
    ·exact iz ax
    ·have:=g1.hi h aL o o2 b _ C s2 fY U (iw aL o2 hX) bO u2;subst this;exact eO o2 hX
   ·obtain ⟨v,aD,aE,bM⟩:=sy i j aa ae;exact ⟨v,aD,zX (bF i j aa ae) aE,bM⟩
 ·obtain ⟨_,p,cY,_⟩:=lS U o1 bO;obtain ⟨_,oQ,yq,_⟩:=lS ab o2 bW;exact g1.hi U ab p oQ b s C cl cF cY yq aD aE
 ·rcases ak with ax|⟨h,o,s,C,bO,bW⟩
  ·exact g1.small b ax
  ·rcases g1.live h o (iw h o bO) with ⟨hs,_⟩|⟨b',cF,cur,bG,g,_⟩
   ·rw [bW] at hs;cases hs
   ·rw [bW] at bG;simp only [dy,bQ.at.injEq] at bG;rw [bG.1];exact g.lt
 ·rcases ak with ax|⟨h,o,s,C,bO,bW⟩
  ·exact g3.e4 b ax
  ·rcases g3.own h o b s C (iw h o bO) bW with g|g
   ·exact .inr (.inl g)
   ·exact .inr (.inr g)
 ·obtain ⟨_,p,cY,_⟩:=lS h o q;exact g3.own h p b s C cY e
end Go.ai
namespace Go.ai.cz
open Go.ai.c8
structure lK (B M:Nat)(q:Rat):Prop where
 zH:hM B q
 le:q≤(M:Rat)
 ge: -q≤(M:Rat)
theorem Ha {M N:Nat}(h:M≤N):(M:Rat)≤(N:Rat):=by
 have U:((M:Int):Rat)≤((N:Int):Rat):=EM.2 J
 rwa [v7,v7] at U
theorem lK.mono {B M N:Nat}{q:Rat}(h:lK B M q)(hm:M≤N):lK B N q:=
 ⟨h.zH,q6 h.le (Ha hm),q6 h.ge (Ha hm)⟩
theorem lK.zero (B M:Nat):lK B M 0:=by have h:(0:Rat)≤(M:Rat):=Ha (cf M);exact ⟨hM.zero B,h,by rw [Rat.neg_zero];exact h⟩
theorem lK.add {B M N:Nat}{a b:Rat}(a1:lK B M a)(ak:lK B N b):lK B (M+N) (a+b):=by
 refine ⟨a1.zH.add ak.zH,?_,?_⟩
 ·rw [Rat.natCast_add];exact q6 ((Rat.add_le_add_right (c:=b)).2 a1.le) ((Rat.add_le_add_left (c:=(M:Rat))).2 ak.le)
 ·rw [Rat.natCast_add,Rat.neg_add];exact q6 ((Rat.add_le_add_right (c:= -b)).2 a1.ge) ((Rat.add_le_add_left (c:=(M:Rat))).2 ak.ge)
theorem hM.neg {B:Nat}{q:Rat}(h:hM B q):hM B (-q):=by obtain ⟨z,bw⟩:=h;exact ⟨-z,by rw [Rat.neg_mul,bw,Rat.intCast_neg]⟩
theorem lK.neg {B M:Nat}{q:Rat}(h:lK B M q):lK B M (-q):=⟨h.zH.neg,h.ge,by rw [Rat.neg_neg];exact h.le⟩
theorem lK.D {B M K:Nat}{q:Rat}(h:lK B M q)(cZ:B≠0)(hj:M*B<10^K)(dn:B<10^K):D K q:=WJ h.zH cZ h.le h.ge hj dn
def AG (t:aT)(o:hC):Nat:=rN o t.length*Gl t
theorem UL (t:aT)(o:hC):0<AG t o:=Nat.mul_pos (Nt o _) (acQ t)
theorem XN {t:aT}(h:Valid t){o:hC}{d e:Nat}(aj:zh t o d)(aJ:EF t e){p:Int}{i:Nat}(aa:i<t.length)(ao:(t.getD i aK).kind=0):lK (AG t o) (10^e) (I5 t p (eK t o) i):=by
 obtain ⟨g1,g2,g3⟩:=Vy h aj i aa;have dm:=Ek o (i:=i) (t.length-i);rw [show i+(t.length-i)=t.length by omega] at dm;obtain ⟨cY,eT⟩:=V0 (aJ.nH i aa ao);have key: ∀x:Rat,x≤((10^e:Nat):Rat)→(eK t o).getD i 0*x≤((10^e:Nat):Rat):=by intro x ar;have aO:(0:Rat)≤((10^e:Nat):Rat):=Ha (cf _);have U:=Rat.mul_le_mul_of_nonneg_left ar g2;have ab:=Rat.mul_le_mul_of_nonneg_right g3 aO;rw [r0] at ab;exact q6 U ab
 have aN:lK (AG t o) (10^e) (kT t (eK t o) i):=by refine ⟨(g1.mono dm).mul (hM.Qo.mono (acO aa ao)),key _ cY,?_⟩;unfold kT;rw [←Rat.mul_neg];exact key _ eT
 unfold I5;split
 ·exact aN.neg
 ·exact aN
theorem abM {a b x y n:Nat}(U:a≤10^x)(ab:b≤10^y)(h:x+y<n):a*b<10^n:=by have OH:=jB U ab;rw [←jm] at OH;exact rX OH (Nat.pow_lt_pow_right a6 h)
end Go.ai.cz
namespace Go.ai.cI
open Go.ai.dL
structure b9 where
 rows:ck
 den:Int
 basis:List Nat
def pc (T:ck)(j:Nat):V:=fun i=>aq T i j
def hK (M:ck)(m:Nat)(β:List Nat):hO:=fun a=>if a<m then pc M (β.getD a 0) else fun c=>if c=a then 1 else 0
structure Inv (m N:Nat)(M:ck)(s:b9):Prop where
 n:s.rows.length=m+1
 row: ∀x∈s.rows,x.length=N+1
 b:s.basis.length=m
 pr: ∀i,i<m→s.basis.getD i 0<N
 fU:0<s.den
 unit: ∀i k,i<m+1→k<m→aq s.rows i (s.basis.getD k 0)=if i=k then s.den else 0
 nf: ∃σ:Int,σ*σ=1∧dU (m+1) (hK M m s.basis)=σ*s.den
 wK: ∀j,j<N+1→rU (m+1) (hK M m s.basis) s.den (pc M j) (pc s.rows j)
def l1 (p:Int):Int:=if p<0 then-1 else 1
theorem Q0 (p:Int):l1 p*l1 p=1:=by unfold l1;split<;>rfl
theorem VI {p:Int}(h:p≠0):0<l1 p*p:=by
 unfold l1;split
 ·omega
 ·omega
def ka (T:ck)(r c:Nat)(d:Int):ck:=if aq T r c<0 then (n9 T r c d).map (fun l=>l.map (fun x=> -x)) else n9 T r c d
def ie (s:b9)(r c:Nat):b9:=⟨ka s.rows r c s.den,if aq s.rows r c<0 then-(aq s.rows r c) else aq s.rows r c,s.basis.set r c⟩
theorem Ei (s:b9)(r c:Nat):(ie s r c).den=l1 (aq s.rows r c)*aq s.rows r c:=by show (if aq s.rows r c<0 then-(aq s.rows r c) else aq s.rows r c)=_;unfold l1;split<;>omega
theorem Wr (T:ck)(i j:Nat):aq (T.map (fun l=>l.map (fun x=> -x))) i j= -(aq T i j):=by
 unfold aq;simp only [List.getD,me];cases h:T[i]? with
 |none=>rfl
 |some l=>
  show ((l.map (fun x=> -x))[j]?).getD 0= -((l[j]?).getD 0);rw [me];cases l[j]? <;>rfl
theorem Vb (T:ck)(r c:Nat)(d:Int){L:Nat}(cc: ∀x∈T,x.length=L){i j:Nat}(aa:i<T.length)(ae:j<L):
 aq (ka T r c d) i j=l1 (aq T r c)*(if i=r then aq T r j else pR (aq T i j*aq T r c-aq T i c*aq T r j) d):=by
 unfold ka l1;split
 ·rw [Wr,TY T r c d cc aa ae];omega
 ·rw [TY T r c d cc aa ae,lq]
theorem MR (T:ck)(r c:Nat)(d:Int):(ka T r c d).length=T.length:=by
 unfold ka;split
 ·rw [cL,L8]
 ·rw [L8]
theorem acX (T:ck)(r c:Nat)(d:Int){L:Nat}(ad:r<T.length)(cc: ∀x∈T,x.length=L): ∀x∈ka T r c d,x.length=L:=by
 unfold ka;split
 ·intro x ar;obtain ⟨y,aY,rfl⟩:=da.1 ar;rw [cL];exact L9 T r c d ad cc y aY
 ·exact L9 T r c d ad cc
theorem Wy {M:ck}{m:Nat}{β:List Nat}(ak:β.length=m){r:Nat}(ad:r<m)(c:Nat):hK M m (β.set r c)=put (hK M m β) r (pc M c):=by
 funext a;show (if a<m then pc M ((β.set r c).getD a 0) else _)=if a=r then pc M c else (if a<m then pc M (β.getD a 0) else _)
 by_cases a1:a<m
 ·rw [aG a1,aG a1,fG];by_cases h:a=r
  ·rw [aG ⟨h.symm▸rfl,J⟩,aG h]
  ·rw [az (fun q=>h q.1),az h]
 ·rw [az a1,az a1,az J]
theorem ajf {n:Nat}{D:hO}{d:Int}{t0 t cr:V}(h:rU n D d t0 t)(he: ∀i,i<n→cr i=t i):rU n D d t0 cr:=by intro c av;rw [←h c av];exact fW (fun i aa=>by rw [he i aa])
theorem aeV {n:Nat}{D:hO}{d:Int}{t0 t:V}(k:Int)(h:rU n D d t0 t):rU n D (k*d) t0 (fun i=>k*t i):=by intro c av;rw [jW,←h c av,←l3];exact fW (fun i aa=>jW _ _ _)
theorem Inv.ie {m N:Nat}{M:ck}{s:b9}(h:Inv m N M s){r c:Nat}(ad:r<m)(av:c<N)(aJ:aq s.rows r c≠0):Inv m N M (ie s r c):=by
 obtain ⟨σ,ax,e0⟩:=h.nf;have hd:s.den≠0:=by have:=h.fU;omega
 have yg:r<m+1:=J;have e6:r<s.rows.length:=by rw [h.n];omega
 have ak:=Wy (M:=M) h.b ad c;have Kg:=VI aJ;have hk: ∀i j,i<m+1→j<N+1→aq (cI.ie s r c).rows i j=l1 (aq s.rows r c)*(if i=r then aq s.rows r j else pR (aq s.rows i j*aq s.rows r c-aq s.rows i c*aq s.rows r j) s.den):=fun i j aa ae=>Vb s.rows r c s.den h.row (by rw [h.n];exact aa) ae;refine ⟨?_,?_,?_,?_,?_,?_,?_,?_⟩
 ·show (ka _ _ _ _).length=_;rw [MR,h.n]
 ·exact acX s.rows r c s.den e6 h.row
 ·show (s.basis.set r c).length=m;rw [dj,h.b]
 ·intro i aa;show (s.basis.set r c).getD i 0<N;rw [fG];split
  ·exact av
  ·exact h.pr i aa
 ·rw [Ei];exact Kg
 ·intro i k aa ao;have Jw:(cI.ie s r c).basis.getD k 0=if k=r then c else s.basis.getD k 0:=by
   show (s.basis.set r c).getD k 0=_;rw [fG];by_cases e:k=r
   ·rw [aG ⟨e,by rw [h.b];exact ad⟩,aG e]
   ·rw [az (fun q=>e q.1),az e]
  rw [Jw,Ei];by_cases e:k=r
  ·subst e;rw [aG rfl,hk i c aa J];by_cases aE:i=k
   ·rw [aG aE,aG aE]
   ·rw [az aE,az aE];have:aq s.rows i c*aq s.rows k c-aq s.rows i c*aq s.rows k c=s.den*0:=J;rw [this,Hj hd,gd]
  ·have aam:aq s.rows r (s.basis.getD k 0)=0:=by rw [h.unit r k yg ao,az (fun q=>e q.symm)]
   have qf:=h.unit i k aa ao;rw [az e,hk i _ aa (by have:=h.pr k ao;omega),aam,qf];by_cases aE:i=k
   ·have EZ: ¬i=r:=fun q=>e (aE▸q);rw [az EZ,aG aE,aG aE,gd,xO,Hj hd]
   ·rw [az aE,az aE];by_cases bM:i=r
    ·rw [aG bM,gd]
    ·rw [az bM,gd,xO];have:(0:Int)*aq s.rows r c=s.den*0:=J;rw [this,Hj hd,gd]
 ·refine ⟨l1 (aq s.rows r c)*σ,?_,?_⟩
  ·have:=Q0 (aq s.rows r c);rw [jW,oG σ,ax,Int.mul_one,this]
  ·show dU (m+1) (hK M m (s.basis.set r c))=_;rw [ak,Tk hd ax e0 (h.wK c J) yg,Ei];have:=Q0 (aq s.rows r c);show σ*aq s.rows r c=_;rw [jW,oG σ,←jW,this,lq]
 ·intro j ae;show rU (m+1) (hK M m (s.basis.set r c)) _ _ _;rw [ak,Ei];obtain ⟨cY,eT⟩:=Tl hd ax e0 (h.wK c J) (h.wK j ae) yg aJ;refine ajf (aeV (l1 (aq s.rows r c)) eT) (fun i aa=> ?_);show aq (cI.ie s r c).rows i j=_;rw [hk i j aa ae];by_cases e:i=r
  ·rw [aG e,aG e];rfl
  ·rw [az e,az e];have:=SC hd (cY i aa e);show _*pR (pc s.rows j i*pc s.rows c r-pc s.rows c i*pc s.rows j r) s.den=_;rw [this]
theorem Inv.bound {m N B:Nat}{M:ck}{s:b9}(h:Inv m N M s)(U:1≤B)(cZ: ∀i j,i<m+1→j<N+1→(aq M i j).natAbs≤B):
 (∀i j,i<m+1→j<N+1→(aq s.rows i j).natAbs≤pw (m+1)*B^(m+1))∧s.den.natAbs≤pw (m+1)*B^(m+1):=by
 obtain ⟨σ,ax,e0⟩:=h.nf;have bG:σ.natAbs=1:=by have:=congrArg Int.natAbs ax;rw [kf] at this;exact Nat.eq_one_of_mul_eq_one_right (by simpa using this)
 have hd:s.den≠0:=by have:=h.fU;omega
 have td: ∀a c,a<m+1→c<m+1→(hK M m s.basis a c).natAbs≤B:=by
  intro a c a1 av;unfold hK;split
  ·rename_i ab;exact cZ c _ av (by have:=h.pr a ab;omega)
  ·show (if c=a then (1:Int) else 0).natAbs≤B;split
   ·exact U
   ·exact cf _
 refine ⟨fun i j aa ae=> ?_,?_⟩
 ·have ab:=VK hd ax e0 (h.wK j ae) aa;have aw:aq s.rows i j=σ*dU (m+1) (put (hK M m s.basis) i (pc M j)):=ab;rw [aw,kf,bG,rZ];refine L7 (fun a c a1 av=> ?_);unfold put;split
  ·exact cZ c j av ae
  ·exact td a c a1 av
 ·have ab:(dU (m+1) (hK M m s.basis)).natAbs=s.den.natAbs:=by rw [e0,kf,bG,rZ]
  rw [←ab];exact L7 td
theorem Hd (f:Nat→Nat→Int)(m:Nat): ∀n:Nat,bX (fun i=>bX (fun j=>f i j) m) n=bX (fun j=>bX (fun i=>f i j) n) m
 |0=>by show (0:Int)=_;rw [ry (f:=fun j=>bX (fun i=>f i j) 0) (fun i _=>rfl)]
 |n+1=>by show bX (fun i=>bX (fun j=>f i j) m) n+bX (fun j=>f n j) m=_;rw [Hd f m n,←tR];exact fW (fun i _=>rfl)
theorem akk (c:Int)(f:Nat→Int)(n:Nat):bX (fun i=>f i*c) n=bX f n*c:=by rw [lp,←l3];exact fW (fun i _=>lp _ _)
theorem sJ {f:Nat→Int}{n k:Nat}(ao:k<n):bX (fun j=>if j=k then f j else 0) n=f k:=by rw [w7 k ao (fun i aa b2=>by rw [az b2]),aG rfl]
theorem UO: ∀{n:Nat} {f:Nat→Int},0<bX f n→ ∃i,i<n∧0<f i
 |0,f,h=>absurd h (by show¬(0:Int)<0;omega)
 |n+1,f,h=>by
  have h:0<bX f n+f n:=h;by_cases U:0<f n
  ·exact ⟨n,gH n,U⟩
  ·obtain ⟨i,aa,ab⟩:=UO (n:=n) (f:=f) J;exact ⟨i,J,ab⟩
def kq (T:ck)(N:Nat)(x:Nat→Int)(i:Nat):Int:=bX (fun j=>aq T i j*x j) (N+1)
theorem Inv.F9 {m N:Nat}{M:ck}{s:b9}(h:Inv m N M s)(x:Nat→Int)(z:Int):
 (∀i,i<m+1→kq M N x i+(if i=m then z else 0)=0)↔(∀i,i<m+1→kq s.rows N x i+(if i=m then s.den*z else 0)=0):=by
 obtain ⟨σ,ax,e0⟩:=h.nf;have hd:s.den≠0:=by have:=h.fU;omega
 let t:V:=fun i=>kq s.rows N x i+(if i=m then s.den*z else 0)
 have key: ∀c,c<m+1→bX (fun i=>t i*hK M m s.basis i c) (m+1)=s.den*(kq M N x c+(if c=m then z else 0)):=by
  intro c av;have aD: ∀i,i<m+1→t i*hK M m s.basis i c=bX (fun j=>x j*(aq s.rows i j*hK M m s.basis i c)) (N+1)+(if i=m then s.den*z*(if c=m then 1 else 0) else 0):=by
   intro i aa;show (kq s.rows N x i+_)*_=_;rw [Int.add_mul];congr 1
   ·unfold kq;rw [←akk];exact fW (fun j _=>by rw [lp (aq s.rows i j),jW])
   ·by_cases e:i=m
    ·subst e;rw [aG rfl,aG rfl];congr 1;unfold hK;rw [az J]
    ·rw [az e,az e,iW]
  rw [fW aD,tR,Hd,sJ (f:=fun i=>s.den*z*(if c=m then 1 else 0)) (gH m)];have aE: ∀j,j<N+1→bX (fun i=>x j*(aq s.rows i j*hK M m s.basis i c)) (m+1)=s.den*(aq M c j*x j):=by intro j ae;rw [l3];have:=h.wK j ae c av;have:bX (fun i=>aq s.rows i j*hK M m s.basis i c) (m+1)=s.den*aq M c j:=this;rw [this,oG,lp (x j)]
  rw [fW aE,l3,xI];congr 1;split
  ·rw [Int.mul_one]
  ·rw [gd,gd]
 constructor
 ·intro aO i aa;have U:=GO (D:=hK M m s.basis) (t:=t) (w:=fun _=>0) aa (fun c av=>by rw [key c av,aO c av,gd]);rw [RH (m+1) _ i aa,e0] at U;have bG:σ≠0:=fun e=>by rw [e] at ax;exact absurd ax a6
  rcases wa.1 U.symm with ab|ab
  ·exact ab
  ·rcases wa.1 ab with aw|aw
   ·exact absurd aw bG
   ·exact absurd aw hd
 ·intro aO c av;have U:=key c av;rw [ry (fun i aa=>by show t i*_=0;rw [show t i=0 from aO i aa,iW])] at U;rcases wa.1 U.symm with ab|ab
  ·exact absurd ab hd
  ·exact ab
theorem Inv.Oe {m N:Nat}{M:ck}{s cl:b9}(h:Inv m N M s)(aL:Inv m N M cl){i c:Nat}(aa:i<m+1)(av:c<N+1):
 s.den*aq cl.rows i c=bX (fun k=>aq cl.rows i (s.basis.getD k 0)*aq s.rows k c) m+(if i=m then cl.den*aq s.rows m c else 0):=by
 let x:Nat→Int:=fun j=>(if j=c then s.den else 0)-bX (fun k=>if j=s.basis.getD k 0 then aq s.rows k c else 0) m
 have ar: ∀(T:ck) (i:Nat),kq T N x i=aq T i c*s.den-bX (fun k=>aq T i (s.basis.getD k 0)*aq s.rows k c) m:=by
  intro T i;unfold kq;have aD: ∀j,j<N+1→aq T i j*x j=(if j=c then aq T i j*s.den else 0)+bX (fun k=>if j=s.basis.getD k 0 then-(aq T i j*aq s.rows k c) else 0) m:=by
   intro j ae;show _*((if j=c then s.den else 0)-_)=_;rw [Int.mul_sub,Int.sub_eq_add_neg];congr 1
   ·split
    ·rfl
    ·rw [gd]
   ·rw [←po,show-(bX (fun k=>if j=s.basis.getD k 0 then aq s.rows k c else 0) m)=bX (fun k=> -1*(if j=s.basis.getD k 0 then aq s.rows k c else 0)) m from by rw [l3];omega,←l3];exact fW (fun k _=>by
     split
     ·rw [p9,lq,po]
     ·rw [gd,gd])
  rw [fW aD,tR,sJ (f:=fun j=>aq T i j*s.den) av,Hd,Int.sub_eq_add_neg];congr 1;have aE: ∀k,k<m→bX (fun j=>if j=s.basis.getD k 0 then-(aq T i j*aq s.rows k c) else 0) (N+1)= -1*(aq T i (s.basis.getD k 0)*aq s.rows k c):=by intro k ao;rw [sJ (f:=fun j=> -(aq T i j*aq s.rows k c)) (by have:=h.pr k ao;omega)];omega
  rw [fW aE,l3];omega
 have U: ∀i,i<m+1→kq s.rows N x i+(if i=m then s.den*(-(aq s.rows m c)) else 0)=0:=by
  intro i aa;rw [ar];by_cases e:i=m
  ·subst e;rw [aG rfl,ry (fun k ao=>by rw [h.unit i k J ao,az J,iW]),po,lp];omega
  ·rw [az e];have bM: ∀k,k<m→aq s.rows i (s.basis.getD k 0)*aq s.rows k c=if k=i then s.den*aq s.rows k c else 0:=by
    intro k ao;rw [h.unit i k aa ao];by_cases h9:i=k
    ·rw [aG h9,aG h9.symm]
    ·rw [az h9,az (fun q=>h9 q.symm),iW]
   rw [fW bM,sJ (f:=fun k=>s.den*aq s.rows k c) J,lp];omega
 have ab:=(aL.F9 x (-(aq s.rows m c))).1 ((h.F9 x (-(aq s.rows m c))).2 U) i aa;rw [ar,lp] at ab;by_cases e:i=m
 ·rw [aG e] at ab⊢;rw [po] at ab;omega
 ·rw [az e] at ab⊢;omega
def l7 (T:ck)(m:Nat):Nat→Nat→Nat
 |0,c=>c
 |f+1,c=>if aq T m c<0 then c else l7 T m f (c+1)
theorem Dz (T:ck)(m:Nat): ∀f c,c≤l7 T m f c∧l7 T m f c≤c+f∧(∀a,c≤a→a<l7 T m f c→0≤aq T m a)∧(l7 T m f c<c+f→aq T m (l7 T m f c)<0)
 |0,c=>⟨bR _,bR _,fun a U ab=>absurd ab (by rw [l7];omega),fun h=>absurd h (by rw [l7];omega)⟩
 |f+1,c=>by
  rw [l7];by_cases h:aq T m c<0
  ·rw [aG h];exact ⟨bR _,J,fun a U ab=>absurd ab J,fun _=>h⟩
  ·rw [az h];obtain ⟨U,ab,aw,bg⟩:=Dz T m f (c+1);refine ⟨J,J,fun a a1 ak=> ?_,fun ak=>bg J⟩;by_cases e:a=c
   ·subst e;omega
   ·exact aw a J ak
def yY (T:ck)(β:List Nat)(c e k b:Nat):Prop:=aq T k e*aq T b c<aq T b e*aq T k c∨aq T k e*aq T b c=aq T b e*aq T k c∧β.getD k 0<β.getD b 0
instance (T:ck)(β:List Nat)(c e k b:Nat):Decidable (yY T β c e k b):=by unfold yY;infer_instance
def jd (T:ck)(β:List Nat)(c e:Nat):Nat→Option Nat
 |0=>none
 |k+1=>match jd T β c e k with
  |none=>if aq T k c≤0 then none else some k
  |some b=>if aq T k c≤0 then some b else if yY T β c e k b then some k else some b
theorem LG (T:ck)(β:List Nat)(c e:Nat): ∀n,jd T β c e n=none→ ∀i,i<n→aq T i c≤0
 |0,_,i,aa=>absurd aa (gy _)
 |n+1,h,i,aa=>by
  rw [jd] at h;cases au:jd T β c e n with
  |none=>
   rw [au] at h;simp only at h;split at h
   ·rename_i U;by_cases aE:i=n
    ·rw [aE];exact U
    ·exact LG T β c e n au i J
   ·cases h
  |some b=>
   rw [au] at h;simp only at h;split at h
   ·cases h
   ·split at h<;>cases h
theorem ago {a x y:Int}(a1:0<a)(h:a*x≤a*y):x≤y:=Int.le_of_mul_le_mul_left h a1
structure zg (T:ck)(β:List Nat)(c e n b:Nat):Prop where
 lt:b<n
 pos:0<aq T b c
 le: ∀i,i<n→0<aq T i c→aq T b e*aq T i c≤aq T i e*aq T b c∧(aq T b e*aq T i c=aq T i e*aq T b c→β.getD b 0≤β.getD i 0)
theorem G8 (T:ck)(β:List Nat)(c e:Nat): ∀n b,jd T β c e n=some b→zg T β c e n b
 |0,b,h=>by rw [jd] at h;cases h
 |n+1,b,h=>by
  rw [jd] at h;cases au:jd T β c e n with
  |none=>
   have aF:=LG T β c e n au;rw [au] at h;simp only at h;split at h
   ·cases h
   ·rename_i U;obtain rfl:n=b:=by simpa using h
    refine ⟨gH _,J,fun i aa aJ=> ?_⟩;by_cases aE:i=n
    ·subst aE;exact ⟨Int.le_refl _,fun _=>bR _⟩
    ·exact absurd (aF i J) J
  |some d=>
   have hd:=G8 T β c e n d au;rw [au] at h;simp only at h;split at h
   ·rename_i U;obtain rfl:d=b:=by simpa using h
    refine ⟨by have:=hd.lt;omega,hd.pos,fun i aa aJ=> ?_⟩;by_cases aE:i=n
    ·subst aE;omega
    ·exact hd.le i J aJ
   ·rename_i U;have U:0<aq T n c:=J;split at h
    ·rename_i ab;obtain rfl:n=b:=by simpa using h
     refine ⟨gH _,U,fun i aa aJ=> ?_⟩;by_cases aE:i=n
     ·subst aE;exact ⟨Int.le_refl _,fun _=>bR _⟩
     ·obtain ⟨g1,g2⟩:=hd.le i J aJ;have pB:=hd.pos
      --n against d,d against i
      have gx:aq T n e*aq T d c≤aq T d e*aq T n c:=by
       rcases ab with ab|ab
       ·omega
       ·omega
      have dX:=Int.mul_le_mul_of_nonneg_right gx (vY aJ);have eu:=Int.mul_le_mul_of_nonneg_right g1 (vY U);have eY:aq T d c*(aq T n e*aq T i c)=aq T n e*aq T d c*aq T i c:=by grind
      have h8:aq T d c*(aq T i e*aq T n c)=aq T i e*aq T d c*aq T n c:=by grind
      have q8:aq T d e*aq T n c*aq T i c=aq T d e*aq T i c*aq T n c:=by grind
      refine ⟨ago pB J,fun he=> ?_⟩;have d1:aq T d c*(aq T n e*aq T i c)=aq T d c*(aq T i e*aq T n c):=by rw [he]
      --all equal
      have d2:aq T n e*aq T d c*aq T i c=aq T d e*aq T n c*aq T i c:=J;have d3:aq T n e*aq T d c=aq T d e*aq T n c:=Int.eq_of_mul_eq_mul_right J d2;have d4:aq T d e*aq T i c*aq T n c=aq T i e*aq T d c*aq T n c:=J;have d5:aq T d e*aq T i c=aq T i e*aq T d c:=Int.eq_of_mul_eq_mul_right J d4;rcases ab with ab|ab
      ·omega
      ·have:=g2 d5;omega
    ·rename_i ab;obtain rfl:d=b:=by simpa using h
     refine ⟨by have:=hd.lt;omega,hd.pos,fun i aa aJ=> ?_⟩;by_cases aE:i=n
     ·subst aE;unfold yY at ab;refine ⟨J,fun he=> ?_⟩;omega
     ·exact hd.le i J aJ
def il (m N w:Nat)(s:b9):Option b9:=
 if l7 s.rows m w 0=w then none
 else match jd s.rows s.basis (l7 s.rows m w 0) N m with
  |none=>none
  |some r=>some (ie s r (l7 s.rows m w 0))
def eB (m N w:Nat)(s:b9):Nat→b9
 |0=>s
 |k+1=>(il m N w (eB m N w s k)).getD (eB m N w s k)
def iE (m N:Nat)(s:b9):Prop:= ∀i,i<m→0≤aq s.rows i N
theorem Mk {m N w:Nat}{s cl:b9}(h:il m N w s=some cl): ∃c r,c<w∧aq s.rows m c<0∧(∀a,a<c→0≤aq s.rows m a)∧zg s.rows s.basis c N m r∧cl=ie s r c:=by
 unfold il at h;obtain ⟨aD,aE,bM,h9⟩:=Dz s.rows m w 0;split at h
 ·cases h
 ·rename_i U;split at h
  ·cases h
  ·rename_i r ad;refine ⟨_,r,J,h9 J,fun a a1=>bM a (cf _) a1,G8 _ _ _ _ _ _ ad,?_⟩;exact (p3 h).symm
theorem Inv.entry {m N:Nat}{M:ck}{s:b9}(h:Inv m N M s){r c:Nat}(ad:r<m)(av:c<N)(aJ:aq s.rows r c≠0){i j:Nat}(aa:i<m+1)(ae:j<N+1):
 s.den*aq (cI.ie s r c).rows i j=l1 (aq s.rows r c)*(if i=r then s.den*aq s.rows r j else aq s.rows i j*aq s.rows r c-aq s.rows i c*aq s.rows r j):=by
 obtain ⟨σ,ax,e0⟩:=h.nf;have hd:s.den≠0:=by have:=h.fU;omega
 obtain ⟨cY,_⟩:=Tl hd ax e0 (h.wK c J) (h.wK j ae) (show r<m+1 by omega) aJ;have:=Vb s.rows r c s.den h.row (i:=i) (j:=j) (by rw [h.n];exact aa) ae;have e:aq (cI.ie s r c).rows i j=aq (ka s.rows r c s.den) i j:=rfl;rw [e,this,oG];congr 1;by_cases e:i=r
 ·rw [aG e,aG e]
 ·have bM:=SC hd (cY i aa e);have h9:=Int.mul_ediv_cancel' (cY i aa e);rw [←bM] at h9;rw [az e,az e];exact h9
theorem Inv.Ot {m N:Nat}{M:ck}{s:b9}(h:Inv m N M s)(aN:iE m N s){r c:Nat}(av:c<N)(au:zg s.rows s.basis c N m r):iE m N (cI.ie s r c):=by
 intro i aa;have aJ:=au.pos;have U:=h.entry au.lt av J (i:=i) (j:=N) J J;have hd:=h.fU;have FX:l1 (aq s.rows r c)=1:=by unfold l1;rw [az J]
 rw [FX,lq] at U;have:0≤s.den*aq (cI.ie s r c).rows i N:=by
  rw [U];split
  ·exact q4 (vY hd) (aN r au.lt)
  ·by_cases aae:0<aq s.rows i c
   ·have:=(au.le i aa aae).1;rw [lp (aq s.rows i c)];omega
   ·have ab:=q4 (aN i aa) (vY aJ);have aw:=q4 (show 0≤ -(aq s.rows i c) by omega) (aN r au.lt);rw [p9] at aw;omega
 exact Int.le_of_mul_le_mul_left (by rw [gd];exact this) hd
theorem Qy: ∀(K:Nat) (f:Nat→Nat),(∀i,i≤K→f i<K)→ ∃a b,a<b∧b≤K∧f a=f b
 |0,f,h=>absurd (h 0 (bR _)) (gy _)
 |K+1,f,h=>by
  by_cases ar: ∃a,a≤K∧f a=f (K+1)
  ·obtain ⟨a,U,ab⟩:=ar;exact ⟨a,K+1,J,bR _,ab⟩
  ·have b2: ∀a,a≤K→f a≠f (K+1):=fun a a1 e=>ar ⟨a,a1,e⟩;obtain ⟨a,b,U,ab,aw⟩:=Qy K (fun i=>if f i<f (K+1) then f i else f i-1) (fun i aa=>by
    have aD:=h i J;have aE:=h (K+1) (bR _);have bM:=b2 i aa;show (if f i<f (K+1) then f i else f i-1)<K;split<;>omega)
   refine ⟨a,b,U,J,?_⟩;have aD:=b2 a J;have aE:=b2 b ab;have aw:(if f a<f (K+1) then f a else f a-1)=(if f b<f (K+1) then f b else f b-1):=aw;split at aw<;>split at aw<;>omega
def pU (N:Nat):List Nat→Nat
 |[]=>0
 |x::r=>x+N*pU N r
theorem U1 {N:Nat}: ∀(l:List Nat),(∀x∈l,x<N)→pU N l<N^l.length
 |[],_=>by rw [pU,kd,xD];exact Nat.one_pos
 |x::r,h=>by have U:=U1 r (fun y aY=>h y (by simp [aY]));have ab:=h x bZ;rw [pU,fZ,h4];have aw:N*(pU N r+1)≤N*N^r.length:=h5 _ U;rw [gN,q3] at aw;rw [gM (N^r.length)];omega
theorem TR {N:Nat}: ∀(l fV:List Nat),l.length=fV.length→(∀x∈l,x<N)→(∀x∈fV,x<N)→pU N l=pU N fV→l=fV
 |[],[],_,_,_,_=>rfl
 |[],_::_,h,_,_,_=>by simp at h
 |_::_,[],h,_,_,_=>by simp at h
 |x::r,y::q,au,h,aL,e=>by have U:=h x bZ;have ab:=aL y bZ;rw [pU,pU] at e;have aD:=congrArg (fun n=>n%N) e;simp only [EJ,mK U,mK ab] at aD;subst aD;have aE:pU N r=pU N q:=Nat.eq_of_mul_eq_mul_left J (show N*pU N r=N*pU N q by omega);rw [TR r q (by simpa using au) (fun z bw=>h z (by simp [bw])) (fun z bw=>aL z (by simp [bw])) aE]
structure jz (m N:Nat)(M:ck)(s:Nat→b9)(c r:Nat→Nat):Prop where
 inv: ∀k,Inv m N M (s k)
 Oq: ∀k,iE m N (s k)
 IU: ∀k,c k<N
 neg: ∀k,aq (s k).rows m (c k)<0
 low: ∀k a,a<c k→0≤aq (s k).rows m a
 qn: ∀k,zg (s k).rows (s k).basis (c k) N m (r k)
 ba: ∀k,s (k+1)=ie (s k) (r k) (c k)
def jM (m:Nat)(s:b9)(v:Nat):Prop:= ∃i,i<m∧s.basis.getD i 0=v
theorem Inv.nodup {m N:Nat}{M:ck}{s:b9}(h:Inv m N M s){i k:Nat}(aa:i<m)(ao:k<m)(he:s.basis.getD i 0=s.basis.getD k 0):i=k:=by
 by_cases e:i=k
 ·exact e
 ·have U:=h.unit i k J ao;have ab:=h.unit i i J aa;rw [az e] at U;rw [aG rfl,he] at ab;have:=h.fU;omega
theorem Inv.IY {m N:Nat}{M:ck}{s:b9}(h:Inv m N M s){v:Nat}(ak:jM m s v):aq s.rows m v=0:=by obtain ⟨i,aa,rfl⟩:=ak;rw [h.unit m i J aa,az J]
theorem A7 {m N:Nat}{M:ck}{s:b9}(h:Inv m N M s){r c:Nat}(ad:r<m)(i:Nat):(cI.ie s r c).basis.getD i 0=if i=r then c else s.basis.getD i 0:=by
 show (s.basis.set r c).getD i 0=_;rw [fG];by_cases e:i=r
 ·rw [aG ⟨e,by rw [h.b];exact ad⟩,aG e]
 ·rw [az (fun q=>e q.1),az e]
section
variable {m N:Nat}{M:ck}{s:Nat→b9}{c r:Nat→Nat}
theorem jz.den (h:jz m N M s c r)(k:Nat):(s (k+1)).den=aq (s k).rows (r k) (c k):=by rw [h.ba,Ei];have:=(h.qn k).pos;unfold l1;rw [az J];omega
theorem jz.entry (h:jz m N M s c r)(k:Nat){i j:Nat}(aa:i<m+1)(ae:j<N+1):
 (s k).den*aq (s (k+1)).rows i j=if i=r k then (s k).den*aq (s k).rows (r k) j else aq (s k).rows i j*aq (s k).rows (r k) (c k)-aq (s k).rows i (c k)*aq (s k).rows (r k) j:=by
 have aJ:=(h.qn k).pos;rw [h.ba,(h.inv k).entry (h.qn k).lt (h.IU k) J aa ae];have FX:l1 (aq (s k).rows (r k) (c k))=1:=by unfold l1;rw [az J]
 rw [FX,lq]
def p0 (N m:Nat)(s:b9):Rat:=(aq s.rows m N:Rat)*(s.den:Rat)⁻¹
theorem tX {x:Int}(h:0<x):(0:Rat)<(x:Rat):=by have:=(Rat.intCast_lt_intCast (a:=0) (b:=x)).2 h;exact this
theorem HS {m N:Nat}{s:b9}(hd:0<s.den):p0 N m s*(s.den:Rat)=(aq s.rows m N:Rat):=by
 unfold p0;have:(s.den:Rat)≠0:=fun e=>by have:=tX hd;rw [e] at this;exact absurd this (by decide+kernel)
 rw [zw,Rat.inv_mul_cancel _ this,Rat.mul_one]
theorem jz.value (h:jz m N M s c r)(k:Nat):p0 N m (s k)≤p0 N m (s (k+1))∧(p0 N m (s k)=p0 N m (s (k+1))→aq (s k).rows (r k) N=0):=by
 have hd:=(h.inv k).fU;have Pc:=(h.inv (k+1)).fU;have aJ:=(h.qn k).pos;have U:=h.entry k (i:=m) (j:=N) J J;have CQ:=(h.qn k).lt;rw [az J,←h.den] at U;have ab:=HS (m:=m) (N:=N) hd;have aw:=HS (m:=m) (N:=N) Pc;have bg:=congrArg (fun x:Int=>(x:Rat)) U;simp only [oH,Rat.intCast_sub] at bg;rw [←ab,←aw] at bg;have iv:aq (s k).rows m (c k)*aq (s k).rows (r k) N≤0:=by have:=q4 (show 0≤ -(aq (s k).rows m (c k)) by have:=h.neg k;omega) (h.Oq k (r k) CQ);rw [p9] at this;omega
 have Jq:((aq (s k).rows m (c k):Int):Rat)*((aq (s k).rows (r k) N:Int):Rat)≤0:=by rw [←oH];exact (EM (a:=_) (b:=0)).2 iv
 have FN:(0:Rat)<((s k).den:Rat)*((s (k+1)).den:Rat):=Rat.mul_pos (tX hd) (tX Pc);constructor
 ·refine r3 ?_ FN;grind
 ·intro e;rw [←e] at bg;have bF:((aq (s k).rows m (c k):Int):Rat)*((aq (s k).rows (r k) N:Int):Rat)=0:=by grind
  rw [←oH] at bF;have dm:aq (s k).rows m (c k)*aq (s k).rows (r k) N=0:=Rat.intCast_inj.1 bF;rcases wa.1 dm with fi|fi
  ·have:=h.neg k;omega
  ·exact fi
theorem jz.mono (h:jz m N M s c r)(a:Nat): ∀d,p0 N m (s a)≤p0 N m (s (a+d))
 |0=>Rat.le_refl
 |d+1=>q6 (h.mono a d) (h.value (a+d)).1
theorem jz.same (h:jz m N M s c r){a b:Nat}(he:(s a).basis=(s b).basis):p0 N m (s a)=p0 N m (s b):=by have U:=(h.inv a).Oe (h.inv b) (i:=m) (c:=N) J J;rw [aG rfl,ry (fun k ao=>by rw [he,(h.inv b).unit m k J ao,az J,iW])] at U;have Oi:=(h.inv a).fU;have xS:=(h.inv b).fU;have ab:=HS (m:=m) (N:=N) Oi;have aw:=HS (m:=m) (N:=N) xS;have bg:=congrArg (fun x:Int=>(x:Rat)) U;simp only [oH,B5,Rat.intCast_zero] at bg;rw [←ab,←aw] at bg;have FN:(0:Rat)<((s a).den:Rat)*((s b).den:Rat):=Rat.mul_pos (tX Oi) (tX xS);have aby:p0 N m (s a)≤p0 N m (s b):=r3 (by grind) FN;have abz:p0 N m (s b)≤p0 N m (s a):=r3 (by grind) FN;exact r4 aby abz
theorem jz.still (h:jz m N M s c r){a b:Nat}(he:(s a).basis=(s b).basis){k:Nat}(U:a≤k)(ab:k<b):aq (s k).rows (r k) N=0:=by refine (h.value k).2 (r4 (h.value k).1 ?_);have g1:=h.mono (k+1) (b-(k+1));rw [show k+1+(b-(k+1))=b by omega] at g1;have g2:=h.mono a (k-a);rw [show a+(k-a)=k by omega] at g2;rw [←h.same he] at g1;exact q6 g1 g2
def Zero (m N:Nat)(s:b9)(v:Nat):Prop:= ∀i,i<m→s.basis.getD i 0=v→aq s.rows i N=0
theorem jz.zero (h:jz m N M s c r){k:Nat}(aO:aq (s k).rows (r k) N=0)(v:Nat):Zero m N (s k) v↔Zero m N (s (k+1)) v:=by
 have aJ:=(h.qn k).pos;have ad:=(h.qn k).lt;have hd:=(h.inv k).fU;have td: ∀i,(s (k+1)).basis.getD i 0=if i=r k then c k else (s k).basis.getD i 0:=fun i=>by rw [h.ba];exact A7 (h.inv k) ad i
 have Pg: ∀i,i<m→i≠r k→(aq (s (k+1)).rows i N=0↔aq (s k).rows i N=0):=by
  intro i aa b2;have U:=h.entry k (i:=i) (j:=N) J J;rw [az b2,aO,gd,xO] at U;constructor
  ·intro e;rw [e,gd] at U;rcases wa.1 U.symm with ab|ab
   ·exact ab
   ·omega
  ·intro e;rw [e,iW] at U;rcases wa.1 U with ab|ab
   ·omega
   ·exact ab
 constructor
 ·intro bw i aa he;rw [td] at he;by_cases e:i=r k
  ·have U:=h.entry k (i:=i) (j:=N) J J;rw [aG e,aO,gd] at U;rcases wa.1 U with ab|ab
   ·omega
   ·exact ab
  ·rw [az e] at he;exact (Pg i aa e).2 (bw i aa he)
 ·intro bw i aa he;by_cases e:i=r k
  ·rw [e];exact aO
  ·exact (Pg i aa e).1 (bw i aa (by rw [td,az e];exact he))
theorem jz.xn (h:jz m N M s c r){a b:Nat}(he:(s a).basis=(s b).basis)(v:Nat): ∀d,a+d≤b→(Zero m N (s a) v↔Zero m N (s (a+d)) v)
 |0,_=>Iff.rfl
 |d+1,hd=>(h.xn he v d J).trans (h.zero (h.still he J J) v)
theorem jz.stays (h:jz m N M s c r){k v:Nat}(ak:jM m (s k) v)(ah:v≠(s k).basis.getD (r k) 0):jM m (s (k+1)) v:=by obtain ⟨i,aa,rfl⟩:=ak;refine ⟨i,aa,?_⟩;rw [h.ba,A7 (h.inv k) (h.qn k).lt,az];intro e;rw [e] at ah;exact ah rfl
theorem jz.afX (h:jz m N M s c r){k v:Nat}(ak:jM m (s (k+1)) v)(ah:v≠c k):jM m (s k) v:=by
 obtain ⟨i,aa,rfl⟩:=ak;have U:=A7 (c:=c k) (h.inv k) (h.qn k).lt i;rw [←h.ba] at U;rw [U] at ah⊢;by_cases e:i=r k
 ·rw [aG e] at ah;exact absurd rfl ah
 ·rw [az e];exact ⟨i,aa,rfl⟩
theorem jz.enters (h:jz m N M s c r)(k:Nat): ¬jM m (s k) (c k)∧jM m (s (k+1)) (c k):=by
 constructor
 ·intro ak;have:=(h.inv k).IY ak;have:=h.neg k;omega
 ·refine ⟨r k,(h.qn k).lt,?_⟩;rw [h.ba,A7 (h.inv k) (h.qn k).lt,aG rfl]
theorem jz.false (h:jz m N M s c r):False:=by
 --a basis comes twice
 obtain ⟨a,b,mT,he⟩: ∃a b,a<b∧(s a).basis=(s b).basis:=by
  have bC: ∀k,∀x∈(s k).basis,x<N:=by intro k x ar;obtain ⟨i,aa,rfl⟩:=ln ar;have:=(h.inv k).pr i (by rw [←(h.inv k).b];exact aa);simpa [List.getD,aa] using this
  obtain ⟨a,b,U,ab,aw⟩:=Qy (N^m) (fun k=>pU N (s k).basis) (fun k _=>by
   have:=U1 (s k).basis (bC k)
   rwa [(h.inv k).b] at this)
  exact ⟨a,b,U,TR _ _ (by rw [(h.inv a).b,(h.inv b).b]) (bC a) (bC b) aw⟩
 --who is in some basis between,and not in another one,enters
 have XY: ∀v,(∃k,a≤k∧k≤b∧jM m (s k) v)→(∃k,a≤k∧k≤b∧ ¬jM m (s k) v)→ ∃k,a≤k∧k<b∧c k=v:=by
  rintro v ⟨eF,gh,fB,ak⟩ ⟨eG,As,At,aF⟩;apply xL;intro eO;have eO: ∀k,a≤k→k<b→v≠c k:=fun k bO bW e=>eO ⟨k,bO,bW,e.symm⟩;have back: ∀d k,a≤k→k+d≤b→jM m (s (k+d)) v→jM m (s k) v:=by
   intro d;induction d with
   |zero=>intro k _ _ ak;exact ak
   |succ d a8=>intro k bO bW ak;exact a8 k bO J (h.afX ak (eO (k+d) J J))
  have a1:jM m (s a) v:=back (eF-a) a (bR _) J (by rw [show a+(eF-a)=eF by omega];exact ak);have sl:jM m (s b) v:=by unfold jM at a1⊢;rw [←he];exact a1
  exact aF (back (b-eG) eG As J (by rw [show eG+(b-eG)=b by omega];exact sl))
 --the greatest one that enters
 obtain ⟨cP,bO,bW,wo⟩: ∃cP,a≤cP∧cP<b∧ ∀k,a≤k→k<b→c k≤c cP:=by
  have: ∀d,a+d<b+0→ ∃cP,a≤cP∧cP≤a+d∧ ∀k,a≤k→k≤a+d→c k≤c cP:=by
   intro d;induction d with
   |zero=>intro _;exact ⟨a,bR _,bR _,fun k U ab=>by rw [show k=a by omega];exact bR _⟩
   |succ d a8=>
    intro hd;obtain ⟨cP,g1,g2,g3⟩:=a8 J;by_cases av:c cP≤c (a+(d+1))
    ·refine ⟨a+(d+1),J,bR _,fun k U ab=> ?_⟩;by_cases e:k=a+(d+1)
     ·rw [e];exact bR _
     ·exact dT (g3 k U J) av
    ·refine ⟨cP,g1,J,fun k U ab=> ?_⟩;by_cases e:k=a+(d+1)
     ·rw [e];omega
     ·exact g3 k U J
  obtain ⟨cP,g1,g2,g3⟩:=this (b-1-a) J;exact ⟨cP,g1,J,fun k U ab=>g3 k U J⟩
 obtain ⟨t1,t2⟩:=h.enters cP
 --it leaves,too
 obtain ⟨k,gh,fB,As⟩: ∃k,a≤k∧k<b∧(s k).basis.getD (r k) 0=c cP:=by
  apply xL;intro eO;have eO: ∀k,a≤k→k<b→c cP≠(s k).basis.getD (r k) 0:=fun k bO bW e=>eO ⟨k,bO,bW,e.symm⟩;have fwd: ∀d k,a≤k→k+d≤b→jM m (s k) (c cP)→jM m (s (k+d)) (c cP):=by
   intro d;induction d with
   |zero=>intro k _ _ ak;exact ak
   |succ d a8=>intro k bO bW ak;exact h.stays (a8 k bO J ak) (eO (k+d) J J)
  have ak:=fwd (b-(cP+1)) (cP+1) J J t2;rw [show cP+1+(b-(cP+1))=b by omega] at ak;have a1:jM m (s a) (c cP):=by unfold jM at ak⊢;rw [he];exact ak
  have:=fwd (cP-a) a (bR _) J a1;rw [show a+(cP-a)=cP by omega] at this;exact t1 this
 have Fm:=wo k gh fB;have FE:=h.qn k;have Jy:c k≠c cP:=by intro e;exact (h.enters k).1 ⟨r k,FE.lt,by rw [As,e]⟩
 have Ac:=h.low cP (c k) J;have iv:=(h.inv k).Oe (h.inv cP) (i:=m) (c:=c k) J (by have:=h.IU k;omega);rw [aG rfl] at iv;have d1:=(h.inv k).fU;have d2:=(h.inv cP).fU;have mr:=h.neg k;have cY:=q4 (vY d1) Ac;have eT:=vZ d2 (show 0< -(aq (s k).rows m (c k)) by omega);rw [po] at eT;obtain ⟨i,aa,eE⟩:=UO (n:=m) (f:=fun i=>aq (s cP).rows m ((s k).basis.getD i 0)*aq (s k).rows i (c k)) J;have eE:0<aq (s cP).rows m ((s k).basis.getD i 0)*aq (s k).rows i (c k):=eE;have wq: ¬jM m (s cP) ((s k).basis.getD i 0):=by intro ak;rw [(h.inv cP).IY ak,iW] at eE;omega
 obtain ⟨eG,g1,g2,g3⟩:=XY ((s k).basis.getD i 0) ⟨k,gh,J,i,aa,rfl⟩ ⟨cP,bO,J,wq⟩;have hle:=wo eG g1 g2;rw [g3] at hle;have ZZ: ∀x y:Int,0<x*y→0≤x→0<x∧0<y:=by
  intro x y CZ ar;by_cases aaM:x=0
  ·rw [aaM,iW] at CZ;omega
  ·refine ⟨J,?_⟩;apply xL;intro aY;have:=q4 ar (show 0≤ -y by omega);rw [po] at this;omega
 by_cases bs:(s k).basis.getD i 0=c cP
 ·have k3:i=r k:=(h.inv k).nodup aa FE.lt (by rw [bs,As]);rw [bs,k3] at eE;have U:=h.neg cP;have ab:=vZ (show 0< -(aq (s cP).rows m (c cP)) by omega) FE.pos;rw [p9] at ab;omega
 ·have Pw:=h.low cP ((s k).basis.getD i 0) J;obtain ⟨lB,mw⟩:=ZZ _ _ eE Pw;have agf:Zero m N (s cP) ((s k).basis.getD i 0):=fun j ae e=>absurd ⟨j,ae,e⟩ wq;have BO:=(h.xn he ((s k).basis.getD i 0) (cP-a) J).2 (by rw [show a+(cP-a)=cP by omega];exact agf);have VW:=(h.xn he ((s k).basis.getD i 0) (k-a) J).1 BO;rw [show a+(k-a)=k by omega] at VW;have aO:=VW i aa rfl;have dH:=h.still he gh fB;have:=(FE.le i aa mw).2 (by rw [aO,dH,iW,iW]);rw [As] at this;omega
end
theorem ends {m N w:Nat}{M:ck}{s:b9}(aa:Inv m N M s)(aN:iE m N s)(hw:w≤N): ∃K,il m N w (eB m N w s K)=none:=by
 apply xL;intro eO;have eO: ∀k,il m N w (eB m N w s k)≠none:=fun k e=>eO ⟨k,e⟩;have hex: ∀k,∃c r,c<w∧aq (eB m N w s k).rows m c<0∧(∀a,a<c→0≤aq (eB m N w s k).rows m a)∧zg (eB m N w s k).rows (eB m N w s k).basis c N m r∧eB m N w s (k+1)=ie (eB m N w s k) r c:=by
  intro k;cases ax:il m N w (eB m N w s k) with
  |none=>exact absurd ax (eO k)
  |some cl=>
   obtain ⟨c,r,U,ab,aw,bg,bF⟩:=Mk ax;refine ⟨c,r,U,ab,aw,bg,?_⟩;show (il m N w (eB m N w s k)).getD _=_;rw [ax,←bF];rfl
 have both: ∀k,Inv m N M (eB m N w s k)∧iE m N (eB m N w s k):=by
  intro k;induction k with
  |zero=>exact ⟨aa,aN⟩
  |succ k a8=>
   obtain ⟨c,r,U,ab,aw,bg,bF⟩:=hex k;rw [bF];have:=bg.pos;exact ⟨a8.1.ie bg.lt J J,a8.1.Ot a8.2 J bg⟩
 exact jz.false (m:=m) (N:=N) (M:=M) (s:=eB m N w s) (c:=fun k=>Classical.choose (hex k)) (r:=fun k=>Classical.choose (q1 (hex k)))
  { inv:=fun k=>(both k).1
    Oq:=fun k=>(both k).2
    IU:=fun k=>by have:=(q1 (q1 (hex k))).1;omega
    neg:=fun k=>(q1 (q1 (hex k))).2.1
    low:=fun k=>(q1 (q1 (hex k))).2.2.1
    qn:=fun k=>(q1 (q1 (hex k))).2.2.2.1
    ba:=fun k=>(q1 (q1 (hex k))).2.2.2.2}
end Go.ai.cI
namespace Go.ai.cI
open Go.ai.dL
def j5 (T:ck)(m:Nat)(L:List Int):ck:=T.take m++[L]
theorem R8 {T:ck}{m:Nat}(h:m≤T.length)(L:List Int):(j5 T m L).length=m+1:=by unfold j5;rw [c2,ff];show min m T.length+1=m+1;omega
theorem R7 {T:ck}{m:Nat}(h:m≤T.length)(L:List Int)(i:Nat):(j5 T m L).getD i []=if i<m then T.getD i [] else if i=m then L else []:=by
 unfold j5;simp only [List.getD,oz,ff,hF h];by_cases U:i<m
 ·rw [aG U,aG U,pj,aG U]
 ·rw [az U,az U];by_cases ab:i=m
  ·subst ab;simp
  ·rw [az ab];have:[L][i-m]? =none:=jT (by simp;omega);rw [this];rfl
theorem yV {T:ck}{m:Nat}(h:m≤T.length)(L:List Int){i:Nat}(aa:i<m)(j:Nat):aq (j5 T m L) i j=aq T i j:=by unfold aq;rw [R7 h,aG aa]
theorem HB {T:ck}{m:Nat}(h:m≤T.length)(L:List Int)(j:Nat):aq (j5 T m L) m j=L.getD j 0:=by unfold aq;rw [R7 h,az (ov _),aG rfl]
theorem oV {f:Nat→Int}{n j:Nat}(ae:j<n):((List.range n).map f).getD j 0=f j:=by simp [List.getD,ae]
theorem ahm {m:Nat}{D E:hO}(e0: ∀c,c<m+1→D m c=if c=m then 1 else 0)(cR: ∀c,c<m+1→E m c=if c=m then 1 else 0)(h: ∀a c,a<m→c<m→D a c=E a c):dU (m+1) E=dU (m+1) D:=by
 let F:Nat→hO:=fun k a=>if a<k then E a else D a
 have step: ∀k,k≤m→dU (m+1) (F k)=dU (m+1) D:=by
  intro k;induction k with
  |zero=>
   intro _;exact wW (fun a c _ _=>by show (if a<0 then E a else D a) c=D a c;rw [az (gy _)])
  |succ k a8=>
   intro ao;have e:dU (m+1) (F (k+1))=dU (m+1) (put (F k) k (E k)):=by
    refine wW (fun a c _ _=> ?_);show (if a<k+1 then E a else D a) c=(if a=k then E k else (if a<k then E a else D a)) c;by_cases aD:a=k
    ·subst aD;rw [aG (gH _),aG rfl]
    ·rw [az aD];by_cases aE:a<k
     ·rw [aG J,aG aE]
     ·rw [az J,az aE]
   rw [e,GO (t:=fun i=>if i=k then 1 else if i=m then E k m-D k m else 0) (show k<m+1 by omega),aG rfl,lq]
   ·exact a8 J
   ·intro c av;rw [UP k m J J J (fun i aa U ab=>by rw [az U,az ab,iW])];rw [aG rfl,az J,aG rfl,lq];show E k c=(if k<k then E k else D k) c+_*(if m<k then E m else D m) c;rw [az (ov _),az J,e0 c av];by_cases bM:c=m
    ·subst bM;rw [aG rfl];omega
    ·rw [az bM,gd,s6];exact (h k c J J).symm
 have ab:=step m (bR _);rw [←ab];refine wW (fun a c a1 av=> ?_);show E a c=(if a<m then E a else D a) c;by_cases e:a<m
 ·rw [aG e]
 ·rw [az e];obtain rfl:a=m:=J;rw [e0 c av,cR c av]
def Br (k:Nat→Int)(m N:Nat)(s:b9):List Int:=(List.range (N+1)).map (fun j=>s.den*k j-bX (fun i=>k (s.basis.getD i 0)*aq s.rows i j) m)
def oT (k:Nat→Int)(m N:Nat)(s:b9):b9:=⟨j5 s.rows m (Br k m N s),s.den,s.basis⟩
def jr (k:Nat→Int)(m N:Nat)(M:ck):ck:=j5 M m ((List.range (N+1)).map k)
theorem Inv.oT {m N:Nat}{M:ck}{s:b9}(h:Inv m N M s)(k:Nat→Int)(hj:m≤M.length):Inv m N (jr k m N M) (oT k m N s):=by
 have cc:m≤s.rows.length:=by rw [h.n];omega
 have gq: ∀i j,i<m→aq (cI.oT k m N s).rows i j=aq s.rows i j:=fun i j aa=>yV cc _ aa j;have gJ: ∀j,j<N+1→aq (cI.oT k m N s).rows m j=s.den*k j-bX (fun i=>k (s.basis.getD i 0)*aq s.rows i j) m:=fun j ae=>by show aq (j5 _ _ _) _ _=_;rw [HB cc];exact oV ae
 have m1: ∀i j,i<m→aq (jr k m N M) i j=aq M i j:=fun i j aa=>yV hj _ aa j;have m2: ∀j,j<N+1→aq (jr k m N M) m j=k j:=fun j ae=>by show aq (j5 _ _ _) _ _=_;rw [HB hj];exact oV ae
 have ER: ∀(M:ck) c,c<m+1→hK M m s.basis m c=if c=m then 1 else 0:=fun M c av=>by show (if m<m then pc M _ else fun c=>if c=m then (1:Int) else 0) c=_;rw [az (ov _)]
 have Cc: ∀(M:ck) a c,a<m→hK M m s.basis a c=aq M c (s.basis.getD a 0):=fun M a c a1=>by show (if a<m then pc M _ else fun c=>if c=a then (1:Int) else 0) c=_;rw [aG a1];rfl
 have Zi:=ahm (D:=hK M m s.basis) (E:=hK (jr k m N M) m s.basis) (ER M) (ER _) (fun a c a1 av=>by rw [Cc _ _ _ a1,Cc _ _ _ a1,m1 c _ av]);refine ⟨R8 cc _,fun x ar=> ?_,h.b,h.pr,h.fU,fun i a aa a1=> ?_,?_,fun j ae c av=> ?_⟩
 ·rcases gz.1 ar with U|U
  ·exact h.row x (oB U)
  ·rw [hR.1 U];unfold Br;rw [cL,gX]
 ·show aq (cI.oT k m N s).rows i (s.basis.getD a 0)=if i=a then s.den else 0
  by_cases e:i<m
  ·rw [gq i _ e,h.unit i a aa a1]
  ·obtain rfl:i=m:=J;rw [gJ _ (by have:=h.pr a a1;omega),az J];have aE: ∀q,q<i→k (s.basis.getD q 0)*aq s.rows q (s.basis.getD a 0)=if q=a then k (s.basis.getD q 0)*s.den else 0:=by
    intro q aB;rw [h.unit q a J a1];split
    ·rfl
    ·rw [gd]
   rw [fW aE,sJ (f:=fun q=>k (s.basis.getD q 0)*s.den) a1,lp];omega
 ·obtain ⟨σ,U,ab⟩:=h.nf;exact ⟨σ,U,by show dU (m+1) (hK (jr k m N M) m s.basis)=σ*s.den;rw [Zi,ab]⟩
 ·show bX (fun i=>aq (cI.oT k m N s).rows i j*hK (jr k m N M) m s.basis i c) (m+1)=s.den*aq (jr k m N M) c j;show bX (fun i=>aq (cI.oT k m N s).rows i j*hK (jr k m N M) m s.basis i c) m+aq (cI.oT k m N s).rows m j*hK (jr k m N M) m s.basis m c=_;rw [ER _ c av];have yo:=h.wK j ae c av;have yo:bX (fun i=>aq s.rows i j*hK M m s.basis i c) m+aq s.rows m j*hK M m s.basis m c=s.den*aq M c j:=yo;rw [ER _ c av] at yo;by_cases e:c=m
  ·subst e;rw [aG rfl,m2 j ae,gJ j ae];have aE: ∀i,i<c→aq (cI.oT k c N s).rows i j*hK (jr k c N M) c s.basis i c=k (s.basis.getD i 0)*aq s.rows i j:=by intro i aa;rw [gq i j aa,Cc _ _ _ aa,m2 _ (by have:=h.pr i aa;omega),lp]
   rw [fW aE];omega
  ·rw [az e,gd,s6] at*;rw [m1 c j J,←yo];exact fW (fun i aa=>by rw [gq i j aa,Cc _ _ _ aa,Cc _ _ _ aa,m1 c _ J])
theorem M0 {T:ck}{N m i c:Nat}{d:Int}{p:Nat→Nat}{y:Nat→Int}(av:c<N+1)(aJ: ∀k,k<m→p k<N+1):
 kq T N (fun j=>(if j=c then d else 0)-bX (fun k=>if j=p k then y k else 0) m) i=aq T i c*d-bX (fun k=>aq T i (p k)*y k) m:=by
 unfold kq;have aD: ∀j,j<N+1→aq T i j*((if j=c then d else 0)-bX (fun k=>if j=p k then y k else 0) m)=(if j=c then aq T i j*d else 0)+bX (fun k=>if j=p k then-(aq T i j*y k) else 0) m:=by
  intro j ae;rw [Int.mul_sub,Int.sub_eq_add_neg];congr 1
  ·split
   ·rfl
   ·rw [gd]
  ·rw [←po,show-(bX (fun k=>if j=p k then y k else 0) m)=bX (fun k=> -1*(if j=p k then y k else 0)) m from by rw [l3];omega,←l3];exact fW (fun k _=>by
    split
    ·rw [p9,lq,po]
    ·rw [gd,gd])
 rw [fW aD,tR,sJ (f:=fun j=>aq T i j*d) av,Hd,Int.sub_eq_add_neg];congr 1;have aE: ∀k,k<m→bX (fun j=>if j=p k then-(aq T i j*y k) else 0) (N+1)= -1*(aq T i (p k)*y k):=by intro k ao;rw [sJ (f:=fun j=> -(aq T i j*y k)) (aJ k ao)];omega
 rw [fW aE,l3];omega
structure IF (m N n:Nat)(M:ck)(e:Nat→Int):Prop where
 lt:n+m<N+1
 bj: ∀i,i<m→e i*e i=1
 at': ∀i k,i<m→k<m→aq M i (n+k)=if i=k then e i else 0
 cost: ∀k,k<m→aq M m (n+k)=0
theorem Inv.combo {m N n:Nat}{M:ck}{s:b9}{e:Nat→Int}(h:Inv m N M s)(ax:IF m N n M e){q j:Nat}(aB:q<m+1)(ae:j<N+1):
 aq s.rows q j=bX (fun k=>aq s.rows q (n+k)*(e k*aq M k j)) m+(if q=m then s.den*aq M m j else 0):=by
 have bC:=ax.lt;have aJ: ∀k,k<m→n+k<N+1:=fun k ao=>by omega
 have FA:=(h.F9 (fun v=>(if v=j then 1 else 0)-bX (fun k=>if v=n+k then e k*aq M k j else 0) m) (-(aq M m j))).1 (fun i aa=>by
  rw [M0 ae aJ,Int.mul_one];by_cases aD:i=m
  ·subst aD;rw [aG rfl,ry (fun k ao=>by rw [ax.cost k ao,iW])];omega
  ·rw [az aD];have aE: ∀k,k<m→aq M i (n+k)*(e k*aq M k j)=if k=i then e k*(e k*aq M k j) else 0:=by
    intro k ao;rw [ax.at' i k J ao];by_cases bM:i=k
    ·rw [aG bM,aG bM.symm,bM]
    ·rw [az bM,az (fun q=>bM q.symm),iW]
   rw [fW aE,sJ (f:=fun k=>e k*(e k*aq M k j)) J,←jW,ax.bj i J,lq];omega) q aB
 rw [M0 ae aJ,Int.mul_one] at FA;by_cases aD:q=m
 ·rw [aG aD] at FA⊢;rw [po] at FA;omega
 ·rw [az aD] at FA⊢;omega
theorem Inv.init {T:ck}{β:List Nat}{m N:Nat}(U:T.length=m+1)(ab: ∀x∈T,x.length=N+1)(aw:β.length=m)(bg: ∀i,i<m→β.getD i 0<N)(bF: ∀i k,i<m+1→k<m→aq T i (β.getD k 0)=if i=k then 1 else 0):Inv m N T ⟨T,1,β⟩:=by
 have hu: ∀a c,a<m+1→c<m+1→hK T m β a c=zf a c:=by
  intro a c a1 av;show (if a<m then pc T _ else fun c=>if c=a then (1:Int) else 0) c=if a=c then 1 else 0
  by_cases e:a<m
  ·rw [aG e];show aq T c _=_;rw [bF c a av e];by_cases aE:c=a
   ·rw [aG aE,aG aE.symm]
   ·rw [az aE,az (fun q=>aE q.symm)]
  ·rw [az e];by_cases aE:c=a
   ·rw [aG aE];exact (aG aE.symm).symm
   ·rw [az aE];exact (az (fun q=>aE q.symm)).symm
 refine ⟨U,ab,aw,bg,by show (0:Int)<1;omega,bF,⟨1,I,?_⟩,fun j ae c av=> ?_⟩
 ·show dU (m+1) (hK T m β)=1*1;rw [wW hu,Ud];rfl
 ·show bX (fun i=>aq T i j*hK T m β i c) (m+1)=1*aq T c j;have e: ∀i,i<m+1→aq T i j*hK T m β i c=if i=c then aq T i j else 0:=by
   intro i aa;rw [hu i c aa av];show _*(if i=c then (1:Int) else 0)=_;split
   ·rw [Int.mul_one]
   ·rw [gd]
  rw [fW e,sJ (f:=fun i=>aq T i j) av,lq]
end Go.ai.cI
namespace Go.ai.cI
open Go.ai.dL Go.ai.cz Go.ai.c8
def eb (B:List Rat):Nat→List Nat
 |0=>[]
 |k+1=>if (B.getD k 0).num<0 then eb B k++[k] else eb B k
abbrev eL (B:List Rat)(i:Nat):Nat:=(eb B i).length
abbrev mD (B:List Rat):Nat:=eL B B.length
theorem HP {B:List Rat}: ∀{n k:Nat},k∈eb B n↔k<n∧(B.getD k 0).num<0
 |0,k=>by simp [eb]
 |n+1,k=>by
  rw [eb];split
  ·rename_i h;rw [gz,HP,hR];constructor
   ·rintro (U|U)
    ·exact ⟨J,U.2⟩
    ·rw [U];exact ⟨J,h⟩
   ·rintro ⟨U,ab⟩;by_cases e:k=n
    ·exact .inr e
    ·exact .inl ⟨J,ab⟩
  ·rename_i h;rw [HP];constructor
   ·rintro ⟨U,ab⟩;exact ⟨J,ab⟩
   ·rintro ⟨U,ab⟩;refine ⟨?_,ab⟩;by_cases e:k=n
    ·rw [e] at ab;exact absurd ab h
    ·omega
theorem TW (B:List Rat)(i:Nat): ∀d,eL B i≤eL B (i+d)
 |0=>bR _
 |d+1=>by
  refine dT (TW B i d) ?_;show _≤(eb B (i+d+1)).length;rw [eb];split
  ·rw [c2];exact pk _ _
  ·exact bR _
theorem TX {B:List Rat}{i:Nat}(h:(B.getD i 0).num<0):eL B (i+1)=eL B i+1:=by show (eb B (i+1)).length=_;rw [eb,aG h,c2];rfl
theorem Bz {B:List Rat}{i k:Nat}(h:(B.getD i 0).num<0)(ao:i<k):eL B i<eL B k:=by have U:=TW B (i+1) (k-(i+1));rw [show i+1+(k-(i+1))=k by omega,TX h] at U;omega
theorem Wp {B:List Rat}{i k:Nat}(h:(B.getD i 0).num<0)(aL:(B.getD k 0).num<0)(e:eL B i=eL B k):i=k:=by
 by_cases U:i<k
 ·have:=Bz h U;omega
 ·by_cases ab:k<i
  ·have:=Bz aL ab;omega
  ·omega
theorem El (B:List Rat): ∀i,eL B i≤i
 |0=>bR _
 |i+1=>by
  show (eb B (i+1)).length≤_;rw [eb];have:=El B i;split
  ·rw [c2];show eL B i+1≤_;omega
  ·show eL B i≤_;omega
def vI (n m a:Nat)(l:List Int)(i j:Nat):Int:=if j<n then l.getD j 0 else if j=n+i then 1 else if j=n+m+a then l.getD n 0 else 0
def xe (n m a:Nat)(l:List Int)(i:Nat)(neg:Bool)(k j:Nat):Int:=if neg then (if j=n+m+k then 1 else-(vI n m a l i j)) else vI n m a l i j
def tP (n m a:Nat)(l:List Int)(i:Nat)(neg:Bool)(k:Nat):List Int:=(List.range (n+m+a+1)).map (xe n m a l i neg k)
structure Prog where
 A:List (List Rat)
 B:List Rat
 C:List Rat
abbrev Prog.n (p:Prog):Nat:=p.C.length
abbrev Prog.m (p:Prog):Nat:=p.B.length
abbrev Prog.a (p:Prog):Nat:=mD p.B
abbrev Prog.N (p:Prog):Nat:=p.C.length+p.B.length+mD p.B
abbrev Prog.neg (p:Prog)(i:Nat):Bool:=decide ((p.B.getD i 0).num<0)
def Prog.full (p:Prog)(i:Nat):List Rat:=p.A.getD i []++[p.B.getD i 0]
def Prog.whole (p:Prog)(i:Nat):List Int:=hn (p.full i)
def Prog.dV (p:Prog)(i:Nat):Nat:=hp 1 (p.full i)
structure Prog.hg (p:Prog):Prop where
 rows:p.A.length=p.B.length
 pt: ∀r∈p.A,r.length=p.C.length
def h0 (p:Prog):ck:=(List.range p.m).map (fun i=>tP p.n p.m p.a (p.whole i) i (p.neg i) (eL p.B i))
def je (p:Prog):List Nat:=(List.range p.m).map (fun i=>if p.neg i then p.n+p.m+eL p.B i else p.n+i)
def fs (p:Prog):b9:=⟨h0 p++[List.replicate (p.N+1) 0],1,je p⟩
def Prog.kg (p:Prog)(i:Nat):Int:=if p.neg i then-1 else 1
theorem Il (p:Prog)(i:Nat):p.kg i*p.kg i=1:=by unfold Prog.kg;split<;>rfl
theorem vr (p:Prog):(h0 p).length=p.m:=by simp [h0]
theorem Hc (p:Prog):(je p).length=p.m:=by simp [je]
theorem ru {α:Type}{f:Nat→α}{n j:Nat}{d:α}(ae:j<n):((List.range n).map f).getD j d=f j:=by simp [List.getD,ae]
theorem Hb (p:Prog){i j:Nat}(aa:i<p.m)(ae:j<p.N+1):aq (fs p).rows i j=xe p.n p.m p.a (p.whole i) i (p.neg i) (eL p.B i) j:=by
 unfold aq;have e:(fs p).rows.getD i []=tP p.n p.m p.a (p.whole i) i (p.neg i) (eL p.B i):=by show (h0 p++_).getD i []=_;rw [tU [] (by rw [vr];exact aa)];exact ru aa
 rw [e];exact ru ae
theorem Rt (p:Prog)(j:Nat):aq (fs p).rows p.m j=0:=by
 unfold aq;have e:(fs p).rows.getD p.m []=List.replicate (p.N+1) 0:=by show (h0 p++[_]).getD p.m []=_;rw [←vr p];exact Nd
 rw [e];simp only [List.getD,s4];split<;>rfl
theorem G4 (p:Prog){i:Nat}(aa:i<p.m):(je p).getD i 0=if p.neg i then p.n+p.m+eL p.B i else p.n+i:=ru aa
theorem Np (p:Prog){i j:Nat}(aa:i<p.m)(ae:j<p.n):aq (fs p).rows i j=p.kg i*(p.whole i).getD j 0:=by
 have JT:j<p.C.length:=ae;have uW:i<p.B.length:=aa;rw [Hb p aa (by show j<p.C.length+p.B.length+mD p.B+1;omega)];unfold xe Prog.kg vI;by_cases e:p.neg i=true
 ·rw [aG e,aG e,aG ae,az (by show¬j=p.C.length+p.B.length+eL p.B i;omega)];omega
 ·rw [az e,az e,aG ae];omega
theorem Ia (p:Prog){i k:Nat}(aa:i<p.m)(ao:k<p.m):aq (fs p).rows i (p.n+k)=if i=k then p.kg i else 0:=by
 have uW:i<p.B.length:=aa;have FB:k<p.B.length:=ao;rw [Hb p aa (by show p.C.length+k<p.C.length+p.B.length+mD p.B+1;omega)];unfold xe Prog.kg vI;have U: ¬p.n+k<p.n:=J;have ab: ¬p.n+k=p.n+p.m+eL p.B i:=by show¬p.C.length+k=p.C.length+p.B.length+eL p.B i;omega
 have aw: ¬p.n+k=p.n+p.m+p.a:=by show¬p.C.length+k=p.C.length+p.B.length+mD p.B;omega
 rw [az ab,az U,az aw];by_cases e:i=k
 ·subst e;rw [aG rfl,aG rfl]
 ·rw [az (show¬p.n+k=p.n+i by omega),az e];split<;>rfl
theorem VM (p:Prog){i k:Nat}(aa:i<p.m)(ao:k<p.a):aq (fs p).rows i (p.n+p.m+k)=if p.neg i=true∧k=eL p.B i then 1 else 0:=by
 have uW:i<p.B.length:=aa;have FB:k<mD p.B:=ao;rw [Hb p aa (by show p.C.length+p.B.length+k<p.C.length+p.B.length+mD p.B+1;omega)];unfold xe vI;have U: ¬p.n+p.m+k<p.n:=J;have ab: ¬p.n+p.m+k=p.n+i:=by show¬p.C.length+p.B.length+k=p.C.length+i;omega
 have aw: ¬p.n+p.m+k=p.n+p.m+p.a:=by show¬p.C.length+p.B.length+k=p.C.length+p.B.length+mD p.B;omega
 rw [az U,az ab,az aw];by_cases e:p.neg i=true
 ·rw [aG e];by_cases aE:k=eL p.B i
  ·rw [aG J,aG ⟨e,aE⟩]
  ·rw [az J,az (fun q=>aE q.2)];rfl
 ·rw [az e,az (fun q=>e q.1)]
theorem H9 (p:Prog){i:Nat}(aa:i<p.m):aq (fs p).rows i p.N=p.kg i*(p.whole i).getD p.n 0:=by
 have uW:i<p.B.length:=aa;rw [Hb p aa (by show p.C.length+p.B.length+mD p.B<p.C.length+p.B.length+mD p.B+1;omega)];unfold xe Prog.kg vI;have U: ¬p.N<p.n:=by show¬p.C.length+p.B.length+mD p.B<p.C.length;omega
 have ab: ¬p.N=p.n+i:=by show¬p.C.length+p.B.length+mD p.B=p.C.length+i;omega
 have aw:p.N=p.n+p.m+p.a:=rfl;rw [az U,az ab,aG aw];by_cases e:p.neg i=true
 ·have aE:(p.B.getD i 0).num<0:=by simpa using e
  have bg:eL p.B i<mD p.B:=Bz aE uW;rw [aG e,aG e,az (by show¬p.C.length+p.B.length+mD p.B=p.C.length+p.B.length+eL p.B i;omega)];omega
 ·rw [az e,az e];omega
theorem ahL (p:Prog):IF p.m p.N p.n (fs p).rows p.kg:=by refine ⟨by show p.C.length+p.B.length<p.C.length+p.B.length+mD p.B+1;omega,fun i _=>Il p i,fun i k aa ao=>Ia p aa ao,fun k _=>Rt p _⟩
theorem A9 (p:Prog):Inv p.m p.N (fs p).rows (fs p):=by
 refine Inv.init ?_ ?_ (Hc p) ?_ ?_
 ·show (h0 p++[_]).length=_;rw [c2,vr];rfl
 ·intro x ar;rcases gz.1 ar with h|h
  ·obtain ⟨i,_,rfl⟩:=da.1 h;unfold tP;rw [cL,gX]
  ·rw [hR.1 h,fw]
 ·intro i aa;have uW:i<p.B.length:=aa;rw [G4 p aa];show (if p.neg i=true then p.C.length+p.B.length+eL p.B i else p.C.length+i)<p.C.length+p.B.length+mD p.B;by_cases e:p.neg i=true
  ·have aw:eL p.B i<mD p.B:=Bz (by simpa using e) uW;rw [aG e];exact Nat.add_lt_add_left aw _
  ·rw [az e];omega
 ·intro i k aa ao;have FB:k<p.B.length:=ao;rw [G4 p ao];by_cases lW:i=p.m
  ·rw [lW,Rt,az (by show¬p.B.length=k;omega)]
  ·have aP:i<p.m:=Nat.lt_of_le_of_ne (Nat.le_of_lt_succ aa) lW;by_cases e:p.neg k=true
   ·have aE:(p.B.getD k 0).num<0:=by simpa using e
    rw [aG e,VM p aP (Bz aE FB)];by_cases bM:i=k
    ·subst bM;rw [aG ⟨e,rfl⟩,aG rfl]
    ·rw [az bM,az];rintro ⟨bO,bW⟩;exact bM (Wp (by simpa using bO) aE bW.symm)
   ·rw [az e,Ia p aP ao];by_cases bM:i=k
    ·subst bM;rw [aG rfl,aG rfl];unfold Prog.kg;rw [az e]
    ·rw [az bM,az bM]
theorem Hu (p:Prog)(aJ:p.hg){i:Nat}(aa:i<p.m):(p.full i).length=p.n+1:=by unfold Prog.full;rw [c2,aJ.pt _ (dx [] (by rw [aJ.rows];exact aa))];rfl
theorem TM (p:Prog)(aJ:p.hg){i j:Nat}(aa:i<p.m)(ae:j<p.n+1):(p.whole i).getD j 0=((p.full i).getD j 0).num*((p.dV i/((p.full i).getD j 0).den:Nat):Int):=by unfold Prog.whole hn;rw [qA _ _ 0 _ _ (by rw [Hu p aJ aa];exact ae)];rfl
theorem Hv (p:Prog)(aJ:p.hg){i j:Nat}(aa:i<p.m)(ae:j<p.n+1):(((p.whole i).getD j 0:Int):Rat)=((p.dV i:Nat):Rat)*(p.full i).getD j 0:=by rw [TM p aJ aa ae];exact TN (dx 0 (by rw [Hu p aJ aa];exact ae))
theorem Oz (p:Prog)(aJ:p.hg){i j:Nat}(aa:i<p.m)(ae:j<p.n):(p.full i).getD j 0=(p.A.getD i []).getD j 0:=by unfold Prog.full;rw [tU 0 (by rw [aJ.pt _ (dx [] (by rw [aJ.rows];exact aa))];exact ae)]
theorem Nr (p:Prog)(aJ:p.hg){i:Nat}(aa:i<p.m):(p.full i).getD p.n 0=p.B.getD i 0:=by unfold Prog.full;have:=aJ.pt _ (dx [] (show i<p.A.length by rw [aJ.rows];exact aa));show (p.A.getD i []++[_]).getD p.C.length 0=_;rw [←this];exact Nd
theorem Sz (p:Prog)(aJ:p.hg):iE p.m p.N (fs p):=by
 intro i aa;rw [H9 p aa,TM p aJ aa (gH _),Nr p aJ aa];have ab:(0:Int)≤((p.dV i/(p.B.getD i 0).den:Nat):Int):=B9 _;unfold Prog.kg;split
 ·rename_i e;have aE:(p.B.getD i 0).num<0:=by simpa using e
  have:=q4 (show 0≤ -(p.B.getD i 0).num by omega) ab;rw [p9] at this;omega
 ·rename_i e;have aE: ¬(p.B.getD i 0).num<0:=by simpa using e
  have:=q4 (show 0≤(p.B.getD i 0).num by omega) ab;omega
end Go.ai.cI
