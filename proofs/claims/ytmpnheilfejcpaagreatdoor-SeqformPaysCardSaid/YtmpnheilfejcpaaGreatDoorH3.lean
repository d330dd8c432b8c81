import Derived.Lib.Bytealg
import Derived.Laws.Externs
import Derived.Laws.CopyRow
import Derived.OpenShut
import Derived.SizedLaws
import Derived.Laws.StructEq
import Derived.ChangeKeysEq
import Derived.WideLaws
import Derived.Laws.Bits64
import Derived.Laws.BitsLemmas
import Derived.Lib.AppendStr
import Derived.Lib.UnsafeStr
import Derived.Lib.Builder
import Derived.Laws.Small
import Derived.MapKept
import Derived.Laws.IdiomStrings
import Derived.Lib.ItoaNum
import Derived.Lib.AtoiAll
import Derived.Test.YtmpnheilfejcpaaGreatDoorH2
set_option linter.unusedVariables false
set_option linter.unusedSimpArgs false
namespace Go.aj
variable [bA]
open Go.RowKit
theorem cc.ahq {c:Ctx} {w:World} {a:Act} {σ:Nat→Option bQ} {S:Nat→Prop} {n:Nat} {fr:Fr} {H:aZ} (ad:cc c w a σ S n fr H) {o:bl} (ah:o.c.len=0):cc c w a (cN σ H.length .l5) S n fr (H++[some o]):=by
 have ob: ∀h B,σ h=some B→cN σ H.length .l5 h=some B:=by
  intro h B ck;unfold cN;split
  ·rename_i he;rw [he,ad.ad.ie _ (bT _)] at ck;cases ck
  ·exact ck
 have ai: ∀{x v},bz w S σ x v→bz w S (cN σ H.length .l5) x v:=fun h=>h.mono (fun _ h=>h) (fun _ _=>rfl) _ ob;have c9: ∀(aS:Nat) (o':bl),(H++[some o])[aS]? =some (some o')→(aS=H.length∧o'=o)∨(aS<H.length∧H[aS]? =some (some o')):=by
  intro aS o' ah;by_cases he:aS<H.length
  ·rw [hQ he] at ah;exact .inr ⟨he,ah⟩
  ·by_cases km:aS=H.length
   ·subst km;simp at ah;exact .inl ⟨rfl,ah.symm⟩
   ·have:(H++[some o]).length≤aS:=by simp;omega
    rw [kG this] at ah;cases ah
 have oU: ∀h,h<H.length→cN σ H.length .l5 h=σ h:=fun h au=>by simp [cN,pw au]
 have hB:cN σ H.length .l5 H.length=some .l5:=by simp [cN]
 refine ⟨⟨?_,?_,ad.ad.small,fun h au=> ?_⟩,⟨ad.bj.os,ad.bj.output,ad.bj.tape,ad.bj.size,ad.bj.block,ad.bj.hX,ad.bj.e5,fun h aQ=>by rw [oU h (ad.bj.jx h aQ)];exact ad.bj.fixed h aQ,fun h aQ=>by have:=ad.bj.jx h aQ;simp;omega,?_⟩,ad.defers,ad.size,fun t v au=>⟨(ad.fl t v au).1,ai (ad.fl t v au).2⟩⟩
 ·intro aS o' cP;rcases c9 aS o' cP with ⟨rfl,rfl⟩|⟨bD,cP⟩
  ·exact .inl ⟨hB,ah⟩
  ·rcases ad.ad.live aS o' cP with ⟨aI,jA⟩|⟨b',cL,iV,g1,g2,g3,g4,g5,g6,g7⟩
   ·exact .inl ⟨ob _ _ aI,jA⟩
   ·right;refine ⟨b',cL,iV,ob _ _ g1,g2.mono I ai,g3,g4,g5,g6,fun i j aa ae=> ?_⟩;obtain ⟨v,aH,aJ,bR⟩:=g7 i j aa ae;exact ⟨v,aH,ai aJ,bR⟩
 ·intro U ab o1 o2 b s1 gI s2 gx bS bY aH aJ;rcases c9 U o1 bS with ⟨rfl,rfl⟩|⟨fW,Cj⟩
  ·rw [hB] at aH;cases aH
  ·rcases c9 ab o2 bY with ⟨rfl,rfl⟩|⟨fK,Ck⟩
   ·rw [hB] at aJ;cases aJ
   ·rw [oU U fW] at aH;rw [oU ab fK] at aJ;exact ad.ad.hJ U ab o1 o2 b s1 gI s2 gx Cj Ck aH aJ
 ·simp only [c8,gK,lv] at au;have: ¬h=H.length:=J;simp only [cN,this,hH];exact ad.ad.ie h J
 ·intro aS o' b s C ah al;rcases c9 aS o' ah with ⟨rfl,rfl⟩|⟨bD,cP⟩
  ·rw [hB] at al;cases al
  ·rw [oU aS bD] at al;exact ad.bj.own aS o' b s C cP al
theorem cc.aiM {c:Ctx}{w:World}{a:Act}{σ:Nat→Option bQ}{S:Nat→Prop}{n:Nat}{fr:Fr}{H:aZ}(ad:cc c w a σ S n fr H){h:Nat}{o:bl}(aV:H[h]? =some (some o)){c':Cells}(U:c'.len=o.c.len)(ab:c'.b8=o.c.b8)(ay: ∀i j v,i<o.c.len→j<o.c.aD→bz w S σ (o.c.at i j) v→bz w S σ (c'.at i j) v):cc c w a σ S n fr (H.set h (some ⟨o.ty,c'⟩)):=by
 have bD:h<H.length:=(hi.1 aV).1;have c9: ∀(aS:Nat) (o':bl),(H.set h (some ⟨o.ty,c'⟩))[aS]? =some (some o')→ ∃dp:bl,H[aS]? =some (some dp)∧o'.ty=dp.ty∧o'.c.len=dp.c.len∧o'.c.b8=dp.c.b8∧ ∀i j v,i<dp.c.len→j<dp.c.aD→bz w S σ (dp.c.at i j) v→bz w S σ (o'.c.at i j) v:=by
  intro aS o' ah;by_cases he:aS=h
  ·subst he;simp only [oH bD,dC] at ah;subst ah;exact ⟨o,aV,I,U,ab,ay⟩
  ·rw [lV (q3 he)] at ah;exact ⟨o',ah,I,I,I,fun _ _ _ _ _ h=>h⟩
 refine ⟨⟨fun aS o' ah=> ?_,fun U ab o1 o2 b s C cy cL bS bY aH aJ=> ?_,ad.ad.small,fun aS au=>ad.ad.ie aS (by simpa using au)⟩,⟨ad.bj.os,ad.bj.output,ad.bj.tape,ad.bj.size,ad.bj.block,ad.bj.hX,ad.bj.e5,ad.bj.fixed,fun aS aQ=>by simpa using ad.bj.jx aS aQ,fun aS o' b s C q e=> ?_⟩,ad.defers,ad.size,ad.fl⟩
 ·obtain ⟨dp,U,ab,ay,bf,bL⟩:=c9 aS o' ah;rw [ay,A8 bf];rcases ad.ad.live aS dp U with g|⟨b,C,cur,g1,g2,g3,g4,g5,g6,g7⟩
  ·exact .inl g
  ·exact .inr ⟨b,C,cur,g1,g2.b8 ab bf,g3,g4,g5,g6,fun i j aa ae=>by
    obtain ⟨v,aH,aJ,bR⟩:=g7 i j aa ae;exact ⟨v,aH,bL i j v aa ae aJ,bR⟩⟩
 ·obtain ⟨p,c6,_⟩:=c9 U o1 bS;obtain ⟨pQ,Ai,_⟩:=c9 ab o2 bY;exact ad.ad.hJ U ab p pQ b s C cy cL c6 Ai aH aJ
 ·obtain ⟨p,c6,_⟩:=c9 aS o' q;exact ad.bj.own aS p b s C c6 e
section
variable {P:Program}{fn:Func}{c:Ctx}{fr:Fr}{H:aZ}{k:List eF}
end
def vI (gU:aZ)(x y:ak):Prop:=y=x∨y= .any∨(y=x.kL gU∧lG gU x)
def Ec (gU:aZ)(fr:Fr):Fr→Prop
 |[]=>True
 |(t,y)::r=>(∃x,look t fr=some x∧vI gU x y)∧Ec gU fr r
theorem agN {gU:aZ}{fr L:Fr}{t:Nat}{y:ak}(h:Ec gU fr L)(au:look t L=some y): ∃x,look t fr=some x∧vI gU x y:=by
 have bZ:= ‹bA›;induction L with
 |nil=>simp [look] at au
 |cons p r ba=>
  obtain ⟨u,x⟩:=p;obtain ⟨U,ab⟩:=h;simp only [look] at au;by_cases he:t=u
  ·subst he;simp at au;subst au;exact U
  ·have al:Nat.beq t u=false:=dv he;simp [al] at au;exact ba ab au
theorem cc.freeze {c:Ctx}{w:World}{a:Act}{σ:Nat→Option bQ}{S:Nat→Prop}{n:Nat}{fr L:Fr}{H:aZ}(ad:cc c w a σ S n fr H)(gU bK:aZ)(iW:wN gU H)(fa: ∀(h:Nat) (o:bl),gU[h]? =some (some o)→eZ o.c)(hlen:bK.length=H.length)(k9: ∀(h:Nat) (o':bl),bK[h]? =some (some o')→(∀o:bl,gU[h]? ≠some (some o))∧ ∃o:bl,H[h]? =some (some o)∧o'.ty=o.ty∧o'.c.len=o.c.len∧o'.c.b8=o.c.b8∧ ∀i j,i<o.c.len→j<o.c.aD→vI gU (o.c.at i j) (o'.c.at i j))(cH:Ec gU fr L): ∃ca,cc c w a σ ca n L bK:=by
 have Mh:A3 w S σ gU:=fun h o ah=>ad.ad.live h o (iW h o ah)
 let ca:Nat→Prop:=fun b=>S b∨ ∃h o s C,gU[h]? =some (some o)∧σ h=some (.at b s C)
 have kO: ∀{mI:Nat→Option bQ} {x v},bz w S mI x v→bz w ca mI x v:=fun h=>h.mono (fun _ h=> .inl h) (fun _ _=>rfl) _ (fun _ _ h=>h);have BP: ∀{x y v},vI gU x y→bz w S σ x v→bz w ca σ y v:=by
  intro x y v h ai;rcases h with rfl|rfl|⟨rfl,dV⟩
  ·exact kO ai
  ·exact .any _ _
  ·exact bz.freeze Mh fa (fun _ h=> .inl h) (fun h o b s C U ab=> .inr ⟨h,o,s,C,U,ab⟩) ai σ dV
 refine ⟨ca,⟨fun h o' cP=> ?_,fun U ab o1 o2 b s C cy cL bS bY aH aJ=> ?_,fun b al=> ?_,fun h au=>ad.ad.ie h J⟩,⟨ad.bj.os,ad.bj.output,ad.bj.tape,ad.bj.size,ad.bj.block,fun b al=> .inl (ad.bj.hX b al),fun b al=> ?_,ad.bj.fixed,fun h aQ=>by rw [hlen];exact ad.bj.jx h aQ,fun h o b s C q e=> ?_⟩,ad.defers,ad.size,fun t y a1=> ?_⟩
 ·obtain ⟨fU,o,U,ab,ay,bf,bL⟩:=k9 h o' cP;rw [ay,A8 bf];rcases ad.ad.live h o U with g|⟨b,C,cur,g1,g2,g3,g4,g5,g6,g7⟩
  ·exact .inl g
  ·refine .inr ⟨b,C,cur,g1,(g2.mono I kO).b8 ab bf,g3,g4,g5,?_,fun i j aa ae=> ?_⟩
   ·rintro (av|⟨aS,o2,s2,gx,bS,bY⟩)
    ·exact g6 av
    ·have:=ad.ad.hJ h aS o o2 b _ C s2 gx U (iW aS o2 bS) g1 bY;subst this;exact fU o2 bS
   ·obtain ⟨v,aH,aJ,bR⟩:=g7 i j aa ae;exact ⟨v,aH,BP (bL i j aa ae) aJ,bR⟩
 ·obtain ⟨_,p,c6,_⟩:=k9 U o1 bS;obtain ⟨_,pQ,Ai,_⟩:=k9 ab o2 bY;exact ad.ad.hJ U ab p pQ b s C cy cL c6 Ai aH aJ
 ·rcases al with av|⟨h,o,s,C,bS,bY⟩
  ·exact ad.ad.small b av
  ·obtain ⟨_,iV,g,_⟩:=ad.obj (iW h o bS) bY;exact g.lt
 ·rcases al with av|⟨h,o,s,C,bS,bY⟩
  ·exact ad.bj.e5 b av
  ·rcases ad.bj.own h o b s C (iW h o bS) bY with g|g
   ·exact .inr (.inl g)
   ·exact .inr (.inr g)
 ·obtain ⟨_,p,c6,_⟩:=k9 h o q;exact ad.bj.own h p b s C c6 e
 ·obtain ⟨x,ar,aQ⟩:=agN cH a1;exact ⟨(ad.fl t x ar).1,BP aQ (ad.fl t x ar).2⟩
section
variable {P:Program}{fn:Func}{c:Ctx}{fr:Fr}{H:aZ}{k:List eF}
theorem Jo {x:Code}(gU bK:aZ)(L:Fr)(iW:wN gU H)(fa: ∀(h:Nat) (o:bl),gU[h]? =some (some o)→eZ o.c)(hlen:bK.length=H.length)(k9: ∀(h:Nat) (o':bl),bK[h]? =some (some o')→(∀o:bl,gU[h]? ≠some (some o))∧ ∃o:bl,H[h]? =some (some o)∧o'.ty=o.ty∧o'.c.len=o.c.len∧o'.c.b8=o.c.b8∧ ∀i j,i<o.c.len→j<o.c.aD→vI gU (o.c.at i j) (o'.c.at i j))(cH:Ec gU fr L)(an:aj P fn c (.code x k) L bK):aj P fn c (.code x k) fr H:=by intro w a σ S ad;obtain ⟨ca,fV⟩:=ad.freeze gU bK iW fa hlen k9 cH;exact an w a σ ca fV
theorem jk {x:Code}(bK:aZ)(he:H=bK)(an:aj P fn c (.code x k) fr bK):aj P fn c (.code x k) fr H:=he▸an
theorem NY {all:Array Oper}{fuel:Nat}{listed:Array Bool}(bK:aZ)(av:aM H bK)(h:aj P fn c (.any all fuel listed k) fr bK):aj P fn c (.any all fuel listed k) fr H:=
 fun w a σ S ad=>h w a σ S (ad.heap av)
theorem tM {all:Array Oper}{fuel:Nat}{listed:Array Bool}(t:Nat){v:ak}(y:ak)(au:look t fr=some v)(h:aR v y)(an:aj P fn c (.any all fuel listed k) ((t,y)::fr) H):aj P fn c (.any all fuel listed k) fr H:=
 fun w a σ S ad=>an w a σ S (ad.slot au h)
end
end Go.aj
namespace Go.aj
variable [bA]
open Go.RowKit
section
variable {ind:Bool}{P:Program}{fn:Func}{c:Ctx}{fr:Fr}{H:aZ}{k:List eF}
variable {d:Option Nat}{ty:TypeId}{pos:String}{after:Array Edge}{RE:Option (Nat×Bool)}
theorem aip {g:Operand}{args:List Operand}{iJ:Array TypeId}{f:FuncId}{qq:Func}{e:Array Value→Sem Value}{eh:List ak}{r:ak}(c2:bG fr g=some (.fn f []))(a8:lD fr args=some eh)(aQ:P.funcs[f]? =some qq)(Mn:(qq.name== "runtime.NumGoroutine")=false)(al:qq.body.isNone=true)(aI:Extern.findNext qq=none)(he:Extern.find qq=some e)(dR: ∀w S σ dD,pv w S σ eh dD→ ∃x,bz w S σ r x∧ ∀w',(e dD).run P w'= .ok x w'):
 b1 ind P fn c fr H ⟨d,.call {callee:= .value g,args:=args.toArray,argTypes:=iJ},ty,pos,after,RE⟩ r:=by
 intro w a σ S ad;have U:=ad.dL c2;obtain ⟨aH,aJ⟩:=F0 ad args eh a8;generalize bw:a.eval g=z at U;cases U with
 |fn _ _ _ vs au ai=>
  have E1:vs= #[]:=by
   have:vs.size=0:=by simpa using au
   exact Array.eq_empty_of_size_eq_zero this
  subst E1;have mX:pv w S σ eh (args.map a.eval).toArray:=by
   refine ⟨by simp [aH],fun i aa=> ?_⟩;have:=aJ i aa;have bD:i<args.length:=J;have lC:(args.map a.eval).toArray.getD i undef=(args.map a.eval).getD i undef:=by simp [List.getD,bD]
   rw [lC];exact this
  obtain ⟨x,Ab,gO⟩:=dR w S σ _ mX;refine ⟨x,Ab,fun w' _=> ?_⟩;have aw:=run_callFunc_extern (P:=P) aQ Mn al aI he (args.map a.eval).toArray w';rw [gO w'] at aw;simp only [execOp,resolve,bw,Deferred.ofValue,Sem.run_bind,Sem.run_pure,Result.andThen_ok,invoke,List.map_toArray,Array.empty_append,Array.append_empty] at aw⊢;exact aw
theorem pv.akg {w:World}{S:Nat→Prop}{σ:Nat→Option bQ}{s:List UInt8}{b:Int}{dD:Array Value}(h:pv w S σ [.str s,.int .u8 b] dD):dD= #[pr s,.int .u8 b]:=by
 have bZ:= ‹bA›;obtain ⟨U,ab⟩:=h;have a:=ab 0 bX;have b':=ab 1 bX;apply Array.ext
 ·simpa using U
 ·intro i wh ko;have bD:i<2:=by simpa using ko
  match i,bD with
  |0,_=>
   simp only [Bl,Array.getD,wh,vL] at a;generalize ai:dD[0]=v at*;have rk:dD.getInternal 0 wh=v:=ai;rw [rk] at a;cases a;rfl
  |1,_=>
   simp only [List.getD_cons_succ,Bl,Array.getD,wh,vL] at b';generalize ai:dD[1]=v at*;have rk:dD.getInternal 1 wh=v:=ai;rw [rk] at b';cases b';rfl
theorem amu {g x y:Operand}{iJ:Array TypeId}{f:FuncId}{qq:Func}{s:List UInt8}{b:Int}(c2:bG fr g=some (.fn f []))(ar:bG fr x=some (.str s))(a1:bG fr y=some (.int .u8 b))(aQ:P.funcs[f]? =some qq)(Mn:(qq.name== "runtime.NumGoroutine")=false)(al:qq.body.isNone=true)(aI:Extern.findNext qq=none)(he:Extern.find qq=some Extern.BytealgIndexByte.indexByte):
 b1 ind P fn c fr H ⟨d,.call {callee:= .value g,args:= #[x,y],argTypes:=iJ},ty,pos,after,RE⟩ (.int .i64 (Lib.indexByte s b.toNat.toUInt8)):=
 aip (args:=[x,y]) (eh:=[.str s,.int .u8 b]) c2 (by simp [lD,ar,a1]) aQ Mn al aI he (fun w S σ dD ai=>⟨_,.int _ _ _,fun w'=>by rw [ai.akg];exact Lib.run_indexByteString _ _ _⟩)
end
theorem aR.akG {x x' y:ak}(h:aR x x'):aR (.cn [x,y]) (.cn [x',y]):=by
 have bZ:= ‹bA›;intro w S σ v ai;cases ai with
 |cn _ _ vs au ai=>
  refine .cn _ _ _ au (fun i aa=> ?_);have:=ai i aa
  match i,aa with
  |0,_=>exact h _ _ _ _ this
  |1,_=>exact this
theorem ch.res {P:Program}{f:FuncId}{args:List ak}{H:aZ}{fix:Nat→Prop}{K kE:ak→aZ→Prop}(aw:ch P f args H fix K)(dH: ∀r bK,K r bK→ ∃dB,aR r dB∧kE dB bK):ch P f args H fix kE:=by refine ⟨aw.1,fun w σ S dD aU U ab ay=>Calls.mono (aw.2 w σ S dD aU U ab ay) fun e w' he=> ?_⟩;obtain ⟨v,r,bC,ca,bK,g1,g2,g3,g4,g5⟩:=he;obtain ⟨dB,wy,B3⟩:=dH _ _ g5;exact ⟨v,dB,bC,ca,bK,g1,g2,wy _ _ _ _ g3,⟨g4.os,g4.output,g4.tape,g4.size,g4.block,g4.hX,g4.e5,g4.fixed,g4.jx,g4.own⟩,B3⟩
def xl:List ak→List ak→Prop
 |[],[]=>True
 |x::r,y::q=>aR x y∧xl r q
 |_,_=>False
theorem xl.length: ∀{a b:List ak},xl a b→a.length=b.length
 |[],[],_=>have bZ:= ‹bA›;rfl
 |_::r,_::q,h=>by simp [xl.length h.2]
 |[],_::_,h=>h.elim
 |_::_,[],h=>h.elim
theorem xl.get: ∀{a b:List ak},xl a b→ ∀i,i<a.length→aR (a.getD i .any) (b.getD i .any)
 |[],[],_,i,aa=>by have bZ:= ‹bA›;simp at aa
 |x::r,y::q,h,0,_=>h.1
 |x::r,y::q,h,i+1,aa=>by simpa using xl.get h.2 i (by simpa using aa)
 |[],_::_,h,_,_=>h.elim
 |_::_,[],h,_,_=>h.elim
theorem bs.res {P:Program}{f:FuncId}{args:List ak}{r dB:ak}(aw:bs P f args r)(h:aR r dB):bs P f args dB:=
 fun H=>(aw H).res fun _ _ ⟨U,ab⟩=>⟨dB,U▸h,rfl,ab⟩
end Go.aj
namespace Go.aj
variable [bA]
open Go.RowKit
section
variable {ind:Bool}{P:Program}{fn:Func}{c:Ctx}{fr:Fr}{H:aZ}{k:List eF}
variable {d:Option Nat}{ty:TypeId}{pos:String}{after:Array Edge}{g:Option (Nat×Bool)}
theorem UM {x ix:Operand}{t e:TypeId}{n h i j rn:Nat}{ey:IntKind}{m:Int}(bu:P.underlying t=some (.array n e))(av:(P.info? e).map (·.size)=some 1)(ar:bG fr x=some (.ptr h i j))(aa:bG fr ix=some (.int ey m))(ae:j+m.toNat=rn)(al:0≤m∧m<n):
 b1 ind P fn c fr H ⟨d,.indexAddr t x ix,ty,pos,after,g⟩ (.ptr h i rn):=by
 intro w a σ S ad;have U:=ad.dL ar;have ab:=ad.ff aa;subst ae;generalize bw:a.eval x=z at U;cases U with
 |ptr _ _ _ _ b s C bJ=>
  refine ⟨_,.ptr _ h i (j+m.toNat) b s C bJ,fun w' _=> ?_⟩;cases aB:P.info? e with
  |none=>simp [aB] at av
  |some inf=>
   have cz:inf.size=1:=by simpa [aB] using av
   simp [execOp,bw,ab,Instr.indexAt,Instr.sureAddr,asIntOf,run_underlying bu,al,sizeOf,typeInfo,aB,cz,Addr.add_lit,ju]
theorem Jn {x ix:Operand}{t e:TypeId}{n i j rn:Nat}{dY:Cells}{ey:IntKind}{m:Int}(bu:P.underlying t=some (.array n e))(av:(P.info? e).map (·.size)=some 1)(ar:bG fr x=some (.cK dY i j))(aa:bG fr ix=some (.int ey m))(ae:j+m.toNat=rn)(al:0≤m∧m<n):
 b1 ind P fn c fr H ⟨d,.indexAddr t x ix,ty,pos,after,g⟩ (.cK dY i rn):=by
 intro w a σ S ad;have U:=ad.dL ar;have ab:=ad.ff aa;subst ae;generalize bw:a.eval x=z at U;cases U with
 |cK _ _ _ _ b o val dq aw iy gB=>
  refine ⟨.pointer (some ⟨b,o+m.toNat,none⟩),.cK _ _ _ _ _ _ (fun e=>val (m.toNat+e)) dq (fun e he=> ?_) (fun e he=> ?_) (fun e he=>gB _ J),fun w' _=> ?_⟩
  ·have:=aw (m.toNat+e) J
   rwa [←ju] at this
  ·have:=iy (m.toNat+e) J
   rwa [←ju] at this
  ·cases aB:P.info? e with
   |none=>simp [aB] at av
   |some inf=>
    have cz:inf.size=1:=by simpa [aB] using av
    simp [execOp,bw,ab,Instr.indexAt,Instr.sureAddr,asIntOf,run_underlying bu,al,sizeOf,typeInfo,aB,cz,Addr.add_lit]
theorem UA {x:Operand}{t:TypeId}{u:TypeDesc}{h i:Nat}{bg:bl}{inf:TypeInfo}{L:List ak}(bu:P.underlying t=some u)(hu:jn u=true)(iO:P.info? t=some inf)(cz:inf.size=bg.c.aD)(ar:bG fr x=some (.ptr h i 0))(aV:H[h]? =some (some bg))(cH:(List.range bg.c.aD).map (bg.c.at i)=L)(aa:i<bg.c.len):b1 false P fn c fr H ⟨d,.load t x,ty,pos,after,g⟩ (.agg L):=by
 intro w a σ S ad;have U:=ad.dL ar;subst cH;generalize bw:a.eval x=z at U;cases U with
 |ptr _ _ _ _ b s C bJ=>
  obtain ⟨gY,cur,g1,g2,g3,g4,g5,g6⟩:=ad.obj aV bJ;subst gY;have oa: ∀w':World,w'.heap=w.heap→ ∀j,j<bg.c.aD→ ∃y,w'.cell? ⟨b,i*bg.c.aD+j,none⟩=some y∧bz w S σ (bg.c.at i j) y∧y.oneCell'=true:=by intro w' hw j ae;obtain ⟨y,aH,aJ,bR⟩:=g6 i j aa ae;obtain ⟨mk,g1,_,_⟩:=g1.cells J;exact ⟨y,by simp [World.cell?,hw,g1,aH],aJ,bR⟩
  let cs:List Value:=(List.range bg.c.aD).map (fun j=>(w.cell? ⟨b,i*bg.c.aD+j,none⟩).getD undef)
  refine ⟨.agg cs.toArray,.agg _ _ _ (by simp [cs]) (fun j ae=> ?_) (fun j ae=> ?_),fun w' hw=> ?_⟩
  ·have bd:j<bg.c.aD:=by simpa using ae
   obtain ⟨y,aH,aJ,_⟩:=oa w rfl j bd;simpa [cs,Array.getD,bd,aH,List.getD] using aJ
  ·have bd:j<bg.c.aD:=by simpa using ae
   obtain ⟨y,aH,_,bR⟩:=oa w rfl j bd;simpa [cs,Array.getD,bd,aH] using bR
  ·have hw:=hw.resolve_left aT;have au:=run_loadCells_list (P:=P) w' ⟨b,i*bg.c.aD,none⟩ cs (fun j v ai=>by
    have ae:j<bg.c.aD:=by simpa [cs] using (hi.1 ai).1
    obtain ⟨y,aH,_,_⟩:=oa w rfl j ae;simp only [cs,ly,vM ae,ta,dC] at ai;subst ai;rw [aH,Addr.add_lit];have:=World.cell?_of_block (w:=w) (w':=w') (a:=⟨b,i*bg.c.aD+j,none⟩) (by rw [hw]);rw [this,aH];rfl)
   have hn:cs.length=inf.size:=by simp [cs,cz]
   rw [hn] at au;have MO:a.eval x= .pointer (some ⟨b,i*bg.c.aD,none⟩):=by rw [bw];simp
   simp [execOp,MO,Instr.loadAt,Instr.sureAddr,loadVar,yH bu,hu,sizeOf,typeInfo,iO,au]
theorem wS {x:Operand}{t:TypeId}{u:TypeDesc}{i:Nat}{dY:Cells}{inf:TypeInfo}{L:List ak}(bu:P.underlying t=some u)(hu:jn u=true)(iO:P.info? t=some inf)(cz:inf.size=dY.aD)(ar:bG fr x=some (.cK dY i 0))(cH:(List.range dY.aD).map (dY.at i)=L):b1 false P fn c fr H ⟨d,.load t x,ty,pos,after,g⟩ (.agg L):=by
 intro w a σ S ad;have U:=ad.dL ar;subst cH;generalize bw:a.eval x=z at U;cases U with
 |cK _ _ _ _ b o val dq aw iy gB=>
  let cs:List Value:=(List.range dY.aD).map val
  refine ⟨.agg cs.toArray,.agg _ _ _ (by simp [cs]) (fun j ae=> ?_) (fun j ae=> ?_),fun w' hw=> ?_⟩
  ·have bd:j<dY.aD:=by simpa using ae
   have:=(iy j J).mono (w':=w) (fun _ h=>h) (fun _ _=>rfl) σ (fun _ _ h=>by cases h);simpa [cs,Array.getD,bd,List.getD] using this
  ·have bd:j<dY.aD:=by simpa using ae
   have:=gB j J;simpa [cs,Array.getD,bd] using this
  ·have hw:=hw.resolve_left aT;have au:=run_loadCells_list (P:=P) w' ⟨b,o,none⟩ cs (fun j v ai=>by
    have ae:j<dY.aD:=by simpa [cs] using (hi.1 ai).1
    simp only [cs,ly,vM ae,ta,dC] at ai;subst ai;rw [Addr.add_lit];have:=World.cell?_of_block (w:=w) (w':=w') (a:=⟨b,o+j,none⟩) (by rw [hw]);rw [this];exact aw j J)
   have hn:cs.length=inf.size:=by simp [cs,cz]
   rw [hn] at au;simp [execOp,bw,Instr.loadAt,Instr.sureAddr,loadVar,yH bu,hu,sizeOf,typeInfo,iO,au]
theorem PJ {x ix:Operand}{t e:TypeId}{u:TypeDesc}{n:Nat}{L:List ak}{v:ak}{ey:IntKind}{m:Int}(bu:P.underlying t=some (.array n e))(av:(P.info? e).map (·.size)=some 1)(hu:P.underlying e=some u)(afE:jn u=false)(ar:bG fr x=some (.agg L))(aa:bG fr ix=some (.int ey m))(ai:L.getD m.toNat .any=v)(al:0≤m∧m<n∧m<L.length):b1 ind P fn c fr H ⟨d,.index t x ix,ty,pos,after,g⟩ v:=by
 intro w a σ S ad;have U:=ad.dL ar;have ab:=ad.ff aa;subst ai;generalize bw:a.eval x=z at U;cases U with
 |agg _ _ vs au ai gB=>
  have bD:m.toNat<L.length:=J;have ay:=ai m.toNat bD;have bf:vs[m.toNat]? =some (vs.getD m.toNat undef):=by simp [Array.getD,au,bD]
  generalize vs.getD m.toNat undef=y at ay bf;refine ⟨y,ay,fun w' _=> ?_⟩;cases aB:P.info? e with
  |none=>simp [aB] at av
  |some inf=>
   have cz:inf.size=1:=by simpa [aB] using av
   simp [execOp,bw,ab,Instr.index,asIntOf,run_underlying bu,al.1,al.2.1,sizeOf,typeInfo,aB,cz,part,yH hu,afE,bf]
theorem de {x:Operand}{s:TypeId}{eW:Array Field}{f h i j rn:Nat}{fd:Field}{inf:TypeInfo}(bu:P.underlying s=some (.struct eW))(aQ:eW[f]? =some fd)(aa:P.info? fd.type=some inf)(cd:Nat.beq inf.size 0=false)(ar:bG fr x=some (.ptr h i j))(ae:j+fd.offset=rn):
 b1 ind P fn c fr H ⟨d,.fieldAddr s x f,ty,pos,after,g⟩ (.ptr h i rn):=by
 intro w a σ S ad;have U:=ad.dL ar;subst ae;have Mq: ¬inf.size=0:=fun e=>by rw [e] at cd;cases cd
 generalize bw:a.eval x=z at U;cases U with
 |ptr _ _ _ _ b aD C bJ=>
  refine ⟨_,.ptr _ h i (j+fd.offset) b aD C bJ,fun w' _=> ?_⟩;simp [execOp,bw,Instr.fieldAt,run_underlying bu,aQ,Instr.sureAddr,fieldPlace,sizeOf,typeInfo,aa,Mq,Addr.add_lit,ju]
theorem ln {x:Operand}{s:TypeId}{eW:Array Field}{f i j rn:Nat}{dY:Cells}{fd:Field}{inf:TypeInfo}(bu:P.underlying s=some (.struct eW))(aQ:eW[f]? =some fd)(aa:P.info? fd.type=some inf)(cd:Nat.beq inf.size 0=false)(ar:bG fr x=some (.cK dY i j))(ae:j+fd.offset=rn):
 b1 ind P fn c fr H ⟨d,.fieldAddr s x f,ty,pos,after,g⟩ (.cK dY i rn):=by
 intro w a σ S ad;have U:=ad.dL ar;subst ae;have Mq: ¬inf.size=0:=fun e=>by rw [e] at cd;cases cd
 generalize bw:a.eval x=z at U;cases U with
 |cK _ _ _ _ b o val dq aw iy gB=>
  refine ⟨.pointer (some ⟨b,o+fd.offset,none⟩),.cK _ _ _ _ _ _ (fun e=>val (fd.offset+e)) dq (fun e he=> ?_) (fun e he=> ?_) (fun e he=>gB _ J),fun w' _=> ?_⟩
  ·have:=aw (fd.offset+e) J
   rwa [←ju] at this
  ·have:=iy (fd.offset+e) J
   rwa [←ju] at this
  ·simp [execOp,bw,Instr.fieldAt,run_underlying bu,aQ,Instr.sureAddr,fieldPlace,sizeOf,typeInfo,aa,Mq,Addr.add_lit]
theorem kC {x:Operand}{h i j:Nat}(ar:bG fr x=some (.ptr h i j)):b1 ind P fn c fr H ⟨d,.nilCheck x,ty,pos,after,g⟩ (.ptr h i j):=by
 intro w a σ S ad;have U:=ad.dL ar;generalize bw:a.eval x=z at U;cases U with
 |ptr _ _ _ _ b s C bJ=>exact ⟨_,.ptr _ h i j b s C bJ,fun w' _=>by simp [execOp,bw]⟩
theorem o4 {x:Operand}{dY:Cells}{i j:Nat}(ar:bG fr x=some (.cK dY i j)):b1 ind P fn c fr H ⟨d,.nilCheck x,ty,pos,after,g⟩ (.cK dY i j):=by
 intro w a σ S ad;have U:=ad.dL ar;generalize bw:a.eval x=z at U;cases U with
 |cK _ _ _ _ b o val dq aw iy gB=>exact ⟨_,.cK _ _ _ _ _ _ val dq aw iy gB,fun w' _=>by simp [execOp,bw]⟩
theorem eE {all:Array Oper}{t:TypeId}{x y:Operand}{ty:TypeId}{pos:String}{after:Array Edge}{rest:List Oper}{h i:Nat}{bg:bl}{L:List ak}{c':Cells}(ar:bG fr x=some (.ptr h i 0))(a1:bG fr y=some (.agg L))(av:(P.info? t).map (·.size)=some bg.c.aD)(aV:H[h]? =some (some bg))(au:L.length=bg.c.aD)(aa:i<bg.c.len)(U:c'.len=bg.c.len)(ab:c'.aD=bg.c.aD)(ay: ∀aG a7,aG<bg.c.len→a7<bg.c.aD→c'.at aG a7=if aG=i then L.getD a7 .any else bg.c.at aG a7)(an:aj P fn c (.ops false all rest k) fr (H.set h (some ⟨bg.ty,c'⟩)))(oe:bg.c.aD≠0:=by (intro aV;cases aV)):aj P fn c (.ops false all (⟨none,.store t x y,ty,pos,after,none⟩::rest) k) fr H:=by
 refine GD (fun w a σ S ad=> ?_) an;have aH:=ad.dL ar;have aJ:=ad.dL a1;generalize bw:a.eval x=z at aH;generalize mu:a.eval y=u at aJ;cases aJ with
 |agg _ _ vs tB iy z8=>
  cases aH with
  |ptr _ _ _ _ b s C bJ=>
   obtain ⟨gY,cur,g1,g2,g3,g4,g5,g6⟩:=ad.obj aV bJ;subst gY;obtain ⟨mk,g1,lF,jB⟩:=g1.cells oe;have su:i*bg.c.aD+bg.c.aD≤cur.size:=by rw [g2];have:(i+1)*bg.c.aD≤C*bg.c.aD:=er _ J;rw [dK] at this;omega
   have rl:vs.size=bg.c.aD:=by rw [tB,au]
   have dS:=Fm P b (i*bg.c.aD) bg.ty mk vs.toList 0 cur w g1 lF (by simp [rl];exact su) (fun v ai=>by
    obtain ⟨j,ae,rfl⟩:=k3 ai;have bd:j<vs.size:=by simpa using ae
    have:=z8 j (by rw [←tB];exact bd);simpa [Array.getD,bd] using this)
   simp only [e6] at dS;generalize jf:(cur.toList.take (i*bg.c.aD)++vs.toList++cur.toList.drop (i*bg.c.aD+vs.toList.length)).toArray=cur' at dS;have Me:cur'.size=cur.size:=by rw [←jf];simp [rl];omega
   have hB: ∀p,p<cur.size→cur'[p]? =if i*bg.c.aD≤p∧p<i*bg.c.aD+bg.c.aD then vs[p-i*bg.c.aD]? else cur[p]? :=by
    intro p aF;rw [←jf];simp only [xt,lz];by_cases dk:p<i*bg.c.aD
    ·rw [hQ (by simp;omega),py,aA dk,ax J];simp
    ·rw [ib (by simp;omega)];have bu:(cur.toList.take (i*bg.c.aD)).length=i*bg.c.aD:=by simp;omega
     rw [bu];by_cases dO:p<i*bg.c.aD+bg.c.aD
     ·rw [hQ (by simp [rl];omega),aA ⟨J,dO⟩];simp
     ·rw [ib (by simp [rl];omega),ax J];simp only [Array.length_toList,rl,Bk,Array.getElem?_toList];congr 1;omega
   refine ⟨w.setRow b cur',σ,S,?_,ad.setRow aV bJ jB ab J (by rw [Me,g2]) (fun aG a7 aL bd=> ?_)⟩
   ·simp only [e6] at bw;simp only [execOp,bw,mu,Instr.storeAt,Instr.sureAddr,storeVar,Sem.run_bind,Sem.run_pure,Result.andThen_ok,AN av,Value.cells,rl];simp [dS]
   ·rw [U] at aL;rw [ab] at bd⊢;rw [ay aG a7 aL bd];have aF:aG*bg.c.aD+a7<cur.size:=by rw [g2];have:(aG+1)*bg.c.aD≤C*bg.c.aD:=er _ J;rw [dK] at this;omega
    rw [hB _ aF];by_cases he:aG=i
    ·subst he;rw [aA rfl,aA ⟨J,J⟩];have L9:a7<vs.size:=J;refine ⟨vs.getD a7 undef,by simp [Array.getD,L9],iy a7 J,z8 a7 J⟩
    ·rw [ax he];have cd: ¬(i*bg.c.aD≤aG*bg.c.aD+a7∧aG*bg.c.aD+a7<i*bg.c.aD+bg.c.aD):=by
      rintro ⟨bS,bY⟩;rcases Nat.lt_or_gt_of_ne he with bD|bD
      ·have:(aG+1)*bg.c.aD≤i*bg.c.aD:=er _ bD;rw [dK] at this;omega
      ·have:(i+1)*bg.c.aD≤aG*bg.c.aD:=er _ bD;rw [dK] at this;omega
     rw [ax cd];exact g6 aG a7 aL bd
end
end Go.aj
namespace Go.aj
variable [bA]
open Go.RowKit
section
variable {P:Program}{fn:Func}{c:Ctx}{fr:Fr}{H:aZ}{k:List eF}
theorem UQ {w:World}{a:Act}{σ:Nat→Option bQ}{S:Nat→Prop}{n:Nat}(ad:cc c w a σ S n fr H){all:Array Oper}{d:Option Nat}{op:Op}{ty:TypeId}{pos:String}{after:Array Edge}{j t:Nat}{p:Bool}(a1:qW all j=some t)(al:look t fr=some (.cn [])):Region.wanted ⟨d,op,ty,pos,after,some (j,p)⟩ (yielded all a.tmps)=false:=by
 obtain ⟨U,ab⟩:=ad.fl t _ al;have ay:t<a.tmps.size:=by rw [ad.size];exact U
 generalize bw:a.tmps.getD t undef=z at ab;cases ab;rename_i vs au ai;have bf:a.tmps[t]? =some (.tuple vs):=by simp only [Array.getD,ay,vL] at bw;simp only [Array.getElem?_eq_getElem ay];exact congrArg some bw
 unfold qW at a1;simp only [Region.wanted,yielded,a1,Option.bind_some,bf];cases p<;>rfl
theorem Kb {w:World}{S:Nat→Prop}{σ:Nat→Option bQ}:bz w S σ (.cn []) undef:=have bZ:= ‹bA›;.cn _ _ _ rfl (fun i aa=>absurd aa (gg _))
theorem sI {q:Bool}{all:Array Oper}{d:Nat}{op:Op}{ty:TypeId}{pos:String}{after:Array Edge}{rest:List Oper}{j t:Nat}{p b:Bool}(a1:qW all j=some t)(al:look t fr=some (.bool b))(cd:(b==p)=false)(h:aj P fn c (.ops q all rest k) ((d,.cn [])::fr) H):aj P fn c (.ops q all (⟨some d,op,ty,pos,after,some (j,p)⟩::rest) k) fr H:=by
 cases q with
 |false=>
  intro hd w a σ S ad;obtain ⟨jg,kl⟩:=tR hd;simp only [wpList,JH ad a1 al,cd,r9,hH];exact h kl w _ σ S (ad.put Kb (jg d I))
 |true=>
  intro hd w a σ S ad;obtain ⟨jg,kl⟩:=tR hd;simp only [wpQuiet,JH ad a1 al,cd,r9,hH];exact h kl w _ σ S (ad.put Kb (jg d I))
theorem NI {q:Bool}{all:Array Oper}{d:Nat}{op:Op}{ty:TypeId}{pos:String}{after:Array Edge}{rest:List Oper}{j t:Nat}{p:Bool}(a1:qW all j=some t)(al:look t fr=some (.cn []))(h:aj P fn c (.ops q all rest k) ((d,.cn [])::fr) H):aj P fn c (.ops q all (⟨some d,op,ty,pos,after,some (j,p)⟩::rest) k) fr H:=by
 cases q with
 |false=>
  intro hd w a σ S ad;obtain ⟨jg,kl⟩:=tR hd;simp only [wpList,UQ ad a1 al,r9,hH];exact h kl w _ σ S (ad.put Kb (jg d I))
 |true=>
  intro hd w a σ S ad;obtain ⟨jg,kl⟩:=tR hd;simp only [wpQuiet,UQ ad a1 al,r9,hH];exact h kl w _ σ S (ad.put Kb (jg d I))
end
end Go.aj
namespace Go.aj
variable [bA]
open Go.RowKit
section
variable {P:Program}{fn:Func}{c:Ctx}{fr:Fr}{H:aZ}{k:List eF}
end
end Go.aj
namespace Go.aj
variable [bA]
mutual
def hf (n:Nat):ak→Bool
 | .aC h _ _=>Nat.blt h n
 | .ptr h _ _=>Nat.blt h n
 | .fn _ l=>mB n l
 | .agg l=>mB n l
 | .cn l=>mB n l
 | .mp h=>Nat.blt h n
 |_=>true
def mB (n:Nat):List ak→Bool
 |[]=>true
 |v::r=>hf n v && mB n r
end
theorem CC {n:Nat}{l:List ak}(h:mB n l=true)(i:Nat)(aa:i<l.length):hf n (l.getD i .any)=true:=by
 have bZ:= ‹bA›;induction l generalizing i with
 |nil=>simp at aa
 |cons v r ba=>
  simp only [mB,eb] at h;cases i with
  |zero=>exact h.1
  |succ i=>simpa using ba h.2 i (by simpa using aa)
theorem bz.sj {w:World}{S:Nat→Prop}{σ:Nat→Option bQ}{n:Nat}{x:ak}{v:Value}(h:bz w S σ x v):hf n x=true→ ∀bC:Nat→Option bQ,(∀h,h<n→bC h=σ h)→bz w S bC x v:=by
 induction h with
 |int=>intros;constructor
 |bool=>intros;constructor
 |str=>intros;constructor
 |nil=>intros;constructor
 |kq=>intros;constructor
 |ro σ c i len b o cap val e9 hlen aw ai U ba=>intro _ bC _;exact .ro _ _ _ _ _ _ _ val e9 hlen aw ai U
 |aC σ h i len b s C cap bJ hlen jX=>intro al bC av;exact .aC _ _ _ _ _ _ _ _ (by rw [av h (iv al)];exact bJ) hlen jX
 |ih σ h bJ=>intro al bC av;exact .ih _ _ (by rw [av h (iv al)];exact bJ)
 |cK σ c i j b o val e9 aw ai U ba=>intro _ bC _;exact .cK _ _ _ _ _ _ val e9 aw ai U
 |ptr σ h i j b s C bJ=>intro al bC av;exact .ptr _ _ _ _ _ _ _ (by rw [av h (iv al)];exact bJ)
 |pP=>intros;constructor
 |fn σ f cap vs au ai ba=>intro aI bC av;exact .fn _ _ _ _ au (fun i aa=>ba i aa (CC aI i aa) _ av)
 |pO=>intros;constructor
 |iface=>intros;constructor
 |oh=>intros;constructor
 |agg σ l vs au ai U ba=>intro aI bC av;exact .agg _ _ _ au (fun i aa=>ba i aa (CC aI i aa) _ av) U
 |cn σ l vs au ai ba=>intro aI bC av;exact .cn _ _ _ au (fun i aa=>ba i aa (CC aI i aa) _ av)
 |mp σ h b bJ=>intro al bC av;exact .mp _ _ _ (by rw [av h (iv al)];exact bJ)
 |hr σ ks vs b es clock e e9 al aI au hd he an ai=>intro _ bC _;exact .hr _ _ _ b es clock e e9 al aI au hd he an ai
 |any=>intros;constructor
theorem Lays.sj {w:World}{S:Nat→Prop}{σ bC:Nat→Option bQ}{o:bl}{b:Nat}{cur:Array Value}{C n:Nat}(h:Lays w S σ o b cur C)(aw: ∀ks vs,o.c= .mp ks vs→mB n ks=true∧mB n vs=true)(av: ∀h,h<n→bC h=σ h):Lays w S bC o b cur C:=by
 have bZ:= ‹bA›;cases h with
 |row mk h hm ed=>exact .row mk h hm ed
 |map ks vs es clock zI ed h aI au hd he=>
  obtain ⟨ei,ew⟩:=aw ks vs zI;exact .map ks vs es clock zI ed h aI au hd (fun i aa=>let ⟨e,aH,aJ,bR⟩:=he i aa;⟨e,aH,aJ.sj (CC ei i aa) _ av,bR.sj (CC ew i J) _ av⟩)
def KI (n:Nat):Cells→Bool
 | .ints _ _=>true
 | .strs _=>true
 | .box l=>mB n l
 | .fn _ _ _=>false
 | .mp ks vs=>mB n ks && mB n vs
theorem aod {n:Nat}{c:Cells}(h:KI n c=true)(i j:Nat)(ae:j<c.aD):hf n (c.at i j)=true:=by
 cases c with
 |ints=>rfl
 |strs=>rfl
 |box l=>exact CC h j ae
 |fn=>cases h
 |mp=>exact absurd ae (gg _)
def aad (n:Nat):Option bl→Bool
 |none=>true
 |some o=>KI n o.c
def Gr (n:Nat):aZ→Bool
 |[]=>true
 |x::r=>aad n x && Gr n r
theorem Vr {n:Nat}{H:aZ}(al:Gr n H=true){h:Nat}{o:bl}(ah:H[h]? =some (some o)):KI n o.c=true:=by
 have bZ:= ‹bA›;induction H generalizing h with
 |nil=>simp at ah
 |cons x r ba=>
  simp only [Gr,eb] at al;cases h with
  |zero=>simp at ah;subst ah;exact al.1
  |succ h=>exact ba al.2 (by simpa using ah)
def kx (n:Nat):Fr→Bool
 |[]=>true
 |(_,v)::r=>hf n v && kx n r
theorem Vq {n:Nat}{fr:Fr}(al:kx n fr=true){t:Nat}{v:ak}(au:look t fr=some v):hf n v=true:=by
 have bZ:= ‹bA›;induction fr with
 |nil=>simp [look] at au
 |cons p r ba=>
  obtain ⟨u,x⟩:=p;simp only [kx,eb] at al;simp only [look] at au;cases aB:Nat.beq t u with
  |true=>rw [aB] at au;simp at au;subst au;exact al.1
  |false=>rw [aB] at au;exact ba al.2 (by simpa using au)
def By (n:Nat)(σ:Nat→Option bQ)(h:Nat):Option bQ:=if h<n then σ h else none
theorem cc.cut {c:Ctx}{w:World}{a:Act}{σ:Nat→Option bQ}{S:Nat→Prop}{n:Nat}{fr:Fr}{H b5 H1:aZ}(ad:cc c w a σ S n fr H)(k9:H=b5++H1)(aQ: ∀h,c.fix h→h<b5.length)(sq:Gr b5.length b5=true)(zF:kx b5.length fr=true):cc c w a (By b5.length σ) S n fr b5:=by
 subst k9;have av: ∀h,h<b5.length→By b5.length σ h=σ h:=fun h au=>aA au;have lZ: ∀{h:Nat} {o:bl},b5[h]? =some (some o)→h<b5.length∧(b5++H1)[h]? =some (some o):=by intro h o ah;have au:h<b5.length:=(hi.1 ah).1;exact ⟨au,by rw [hQ au];exact ah⟩
 refine ⟨⟨fun h o ah=> ?_,fun h aS o o' b s C cy cL bS bY aH aJ=> ?_,ad.ad.small,fun h au=>ax J⟩,⟨ad.bj.os,ad.bj.output,ad.bj.tape,ad.bj.size,ad.bj.block,ad.bj.hX,ad.bj.e5,fun h aV=>by rw [av h (aQ h aV)];exact ad.bj.fixed h aV,aQ,fun h o b s C q e=> ?_⟩,ad.defers,ad.size,fun t v au=>⟨(ad.fl t v au).1,(ad.fl t v au).2.sj (Vq zF au) _ av⟩⟩
 ·obtain ⟨au,cP⟩:=lZ ah;rw [av h au];rcases ad.ad.live h o cP with g|⟨b,C,cur,g1,g2,g3,g4,g5,g6,g7⟩
  ·exact .inl g
  ·refine .inr ⟨b,C,cur,g1,g2.sj (fun ks vs aw=>by have:=Vr sq ah;rw [aw] at this;simpa [KI] using this) av,g3,g4,g5,g6,fun i j aa ae=> ?_⟩;obtain ⟨v,ee,fg,gC⟩:=g7 i j aa ae;exact ⟨v,ee,fg.sj (aod (Vr sq ah) i j ae) _ av,gC⟩
 ·obtain ⟨au,ah⟩:=lZ bS;obtain ⟨ld,cP⟩:=lZ bY;rw [av h au] at aH;rw [av aS ld] at aJ;exact ad.ad.hJ h aS o o' b s C cy cL ah cP aH aJ
 ·obtain ⟨au,ah⟩:=lZ q;rw [av h au] at e;exact ad.bj.own h o b s C ah e
section
variable {P:Program}{fn:Func}{c:Ctx}{fr:Fr}{H:aZ}{k:List eF}
theorem ZZ {x:Code}(b5 H1:aZ)(L:Fr)(k9:H=b5++H1)(cH:jb fr L)(aQ: ∀h,c.fix h→h<b5.length)(sq:Gr b5.length b5=true)(zF:kx b5.length L=true)(an:aj P fn c (.code x k) L b5):aj P fn c (.code x k) fr H:=
 fun w a σ S ad=>an w a _ S ((ad.weaken cH).cut k9 aQ sq zF)
theorem cc.adU {w:World}{a:Act}{σ:Nat→Option bQ}{S:Nat→Prop}{n:Nat}{bK:aZ}(ad:cc c w a σ S n fr H)(hlen:bK.length=H.length)(av: ∀(h:Nat) (o':bl),bK[h]? =some (some o')→ ∃o:bl,H[h]? =some (some o)∧o'.ty=o.ty∧o'.c.len=o.c.len∧o'.c.b8=o.c.b8∧ ∀i j,i<o.c.len→j<o.c.aD→aR (o.c.at i j) (o'.c.at i j)):cc c w a σ S n fr bK:=by
 refine ⟨⟨fun h o' ah=> ?_,fun h aS o o' b s C cy cL bS bY aH aJ=> ?_,ad.ad.small,fun h au=>ad.ad.ie h (by rw [←hlen];exact au)⟩,⟨ad.bj.os,ad.bj.output,ad.bj.tape,ad.bj.size,ad.bj.block,ad.bj.hX,ad.bj.e5,ad.bj.fixed,fun h aQ=>by rw [hlen];exact ad.bj.jx h aQ,fun h o b s C q e=> ?_⟩,ad.defers,ad.size,ad.fl⟩
 ·obtain ⟨o,U,ab,ay,bf,bL⟩:=av h o' ah;rw [ay,A8 bf];rcases ad.ad.live h o U with g|⟨b,C,cur,g1,g2,g3,g4,g5,g6,g7⟩
  ·exact .inl g
  ·refine .inr ⟨b,C,cur,g1,g2.b8 ab bf,g3,g4,g5,g6,fun i j aa ae=> ?_⟩;obtain ⟨v,ee,fg,gC⟩:=g7 i j aa ae;exact ⟨v,ee,bL i j aa ae _ _ _ _ fg,gC⟩
 ·obtain ⟨p,U,_⟩:=av h o bS;obtain ⟨pQ,gB,_⟩:=av aS o' bY;exact ad.ad.hJ h aS p pQ b s C cy cL U gB aH aJ
 ·obtain ⟨p,U,_⟩:=av h o q;exact ad.bj.own h p b s C U e
theorem yw {all:Array Oper}{rest:List Oper}(bK:aZ)(hlen:bK.length=H.length)(av: ∀(h:Nat) (o':bl),bK[h]? =some (some o')→ ∃o:bl,H[h]? =some (some o)∧o'.ty=o.ty∧o'.c.len=o.c.len∧o'.c.b8=o.c.b8∧ ∀i j,i<o.c.len→j<o.c.aD→aR (o.c.at i j) (o'.c.at i j))(an:aj P fn c (.ops false all rest k) fr bK):aj P fn c (.ops false all rest k) fr H:=fun hd w a σ S ad=>an hd w a σ S (ad.adU hlen av)
end
theorem ch.args {P:Program}{f:FuncId}{eh hh:List ak}{H:aZ}{fix:Nat→Prop}{K:ak→aZ→Prop}(aw:ch P f hh H fix K)(h:xl eh hh):ch P f eh H fix K:=by unfold ch at aw⊢;refine ⟨aw.1,fun w σ S dD aF ad aQ ai=>aw.2 w σ S dD aF ad aQ ⟨ai.1.trans h.length,fun j ae=> ?_⟩⟩;rw [←h.length] at ae;exact h.get j ae _ _ _ _ (ai.2 j ae)
end Go.aj
namespace Go.aj
variable [bA]
theorem bs.agJ {P:Program}{f:FuncId}{args sf:List ak}{r:ak}{H js:aZ}(aw:bs P f args r)(iW:wN js H)(fa: ∀(h:Nat) (o:bl),js[h]? =some (some o)→eZ o.c)(EH:ak.qp js sf=args)(dV:mG js sf)(aI:cM.eM args=true)(ad:cM r=true)(gP:flat r=true):
 ch P f sf H (fun h=>h<H.length) (fun dB bK=>dB=r∧bK=H):=by refine ch.over (aw []) (fun h aV=>by simp at aV) iW fa EH dV aI ?_;rintro cV b5 ⟨rfl,rfl⟩;have an:cV.l4 [] 0 H.length=cV:=bs.M3.MY ad;refine ⟨bs.M3.MW ad,fun h o ah=>by simp at ah,0,⟨0,.ints .i64 []⟩,.inl ⟨bT _,⟨an,I⟩,.inr (by rw [an];exact gP)⟩⟩
def fz (n:Nat):Cells→Prop
 | .mp ks vs=>mB n ks=true∧mB n vs=true
 |c=> ∀i j,i<c.len→j<c.aD→hf n (c.at i j)=true
theorem fz.row {n:Nat}{c:Cells}(h:fz n c): ∀i j,i<c.len→j<c.aD→hf n (c.at i j)=true:=by have bZ:= ‹bA›;cases c<;>first|exact h|exact fun i j aa=>absurd aa (gg _)
theorem fz.mp {n:Nat}{c:Cells}(h:fz n c){ks vs:List ak}(aw:c= .mp ks vs):mB n ks=true∧mB n vs=true:=by have bZ:= ‹bA›;subst aw;exact h
theorem cc.Lf {c:Ctx}{w:World}{a:Act}{σ:Nat→Option bQ}{S:Nat→Prop}{n:Nat}{fr:Fr}{H b5 H1:aZ}(ad:cc c w a σ S n fr H)(k9:H=b5++H1)(aQ: ∀h,c.fix h→h<b5.length)(sq: ∀(h:Nat) (o:bl),b5[h]? =some (some o)→fz b5.length o.c)(zF:kx b5.length fr=true):cc c w a (By b5.length σ) S n fr b5:=by
 subst k9;have av: ∀h,h<b5.length→By b5.length σ h=σ h:=fun h au=>aA au;have lZ: ∀{h:Nat} {o:bl},b5[h]? =some (some o)→h<b5.length∧(b5++H1)[h]? =some (some o):=by intro h o ah;have au:h<b5.length:=(hi.1 ah).1;exact ⟨au,by rw [hQ au];exact ah⟩
 refine ⟨⟨fun h o ah=> ?_,fun h aS o o' b s C cy cL bS bY aH aJ=> ?_,ad.ad.small,fun h au=>ax J⟩,⟨ad.bj.os,ad.bj.output,ad.bj.tape,ad.bj.size,ad.bj.block,ad.bj.hX,ad.bj.e5,fun h aV=>by rw [av h (aQ h aV)];exact ad.bj.fixed h aV,aQ,fun h o b s C q e=> ?_⟩,ad.defers,ad.size,fun t v au=>⟨(ad.fl t v au).1,(ad.fl t v au).2.sj (Vq zF au) _ av⟩⟩
 ·obtain ⟨au,cP⟩:=lZ ah;rw [av h au];rcases ad.ad.live h o cP with g|⟨b,C,cur,g1,g2,g3,g4,g5,g6,g7⟩
  ·exact .inl g
  ·refine .inr ⟨b,C,cur,g1,g2.sj (fun ks vs aw=>(sq h o ah).mp aw) av,g3,g4,g5,g6,fun i j aa ae=> ?_⟩;obtain ⟨v,ee,fg,gC⟩:=g7 i j aa ae;exact ⟨v,ee,fg.sj ((sq h o ah).row i j aa ae) _ av,gC⟩
 ·obtain ⟨au,ah⟩:=lZ bS;obtain ⟨ld,cP⟩:=lZ bY;rw [av h au] at aH;rw [av aS ld] at aJ;exact ad.ad.hJ h aS o o' b s C cy cL ah cP aH aJ
 ·obtain ⟨au,ah⟩:=lZ q;rw [av h au] at e;exact ad.bj.own h o b s C ah e
section
variable {P:Program}{fn:Func}{c:Ctx}{fr:Fr}{H:aZ}{k:List eF}
theorem fm {x:Code}(b5 H1:aZ)(L:Fr)(k9:H=b5++H1)(cH:jb fr L)(aQ: ∀h,c.fix h→h<b5.length)(sq: ∀(h:Nat) (o:bl),b5[h]? =some (some o)→fz b5.length o.c)(zF:kx b5.length L=true)(an:aj P fn c (.code x k) L b5):aj P fn c (.code x k) fr H:=
 fun w a σ S ad=>an w a _ S ((ad.weaken cH).Lf k9 aQ sq zF)
theorem aoa {all:Array Oper}{d:Nat}{g:Operand}{f:FuncId}{args:List Operand}{iJ:Array TypeId}{ty:TypeId}{pos:String}{after:Array Edge}{rest:List Oper}{cw eh hh zg:List ak}{r:ak}(js:aZ)(c2:bG fr g=some (.fn f cw))(a8:lD fr args=some eh)(has:eh++cw=hh)(au:ak.qp js hh=zg)(lY:bs P f zg r)(iW:wN js H)(fa: ∀(h:Nat) (o:bl),js[h]? =some (some o)→eZ o.c)(dV:mG js hh)(aI:cM.eM zg=true)(ad:cM r=true)(gP:flat r=true)(an:aj P fn c (.ops false all rest k) ((d,r)::fr) H):aj P fn c (.ops false all (⟨some d,.call {callee:= .value g,args:=args.toArray,argTypes:=iJ},ty,pos,after,none⟩::rest) k) fr H:=
 De c2 a8 has (bs.agJ lY iW fa au dV aI ad gP) (fun _ h=>h) (fun _ h=>h) (fun dB bK h=>by obtain ⟨rfl,rfl⟩:=h;exact an)
variable {ind:Bool}{d:Option Nat}{t cF ty:TypeId}{pos:String}{after:Array Edge}{g:Option (Nat×Bool)}
def K8 (k:IntKind)(m n:Int):Int:=k.wrap ((BitVec.ofInt k.bits m &&& BitVec.ofInt k.bits n).toNat:Int)
def Nd (k:IntKind)(m n:Int):Int:=k.wrap ((BitVec.ofInt k.bits m|||BitVec.ofInt k.bits n).toNat:Int)
def Np (k:IntKind)(m n:Int):Int:=m.fdiv (2^(min n.toNat k.bits))
def IB (k:IntKind)(m n:Int):Int:=k.wrap (m*2^(min n.toNat k.bits))
theorem aim {x y:Operand}{k:IntKind}{m n:Int}(ar:bG fr x=some (.int k m))(a1:bG fr y=some (.int k n)):
 b1 ind P fn c fr H ⟨d,.binOp .and t x y cF,ty,pos,after,g⟩ (.int k (K8 k m n)):=by intro w a σ S ad;have U:=ad.ff ar;have ab:=ad.ff a1;refine ⟨_,.int _ _ _,fun w' _=> ?_⟩;simp [execOp,U,ab,oq,binOp,Op.intBits,K8]
theorem ais {x y:Operand}{k:IntKind}{m n:Int}(ar:bG fr x=some (.int k m))(a1:bG fr y=some (.int k n)):
 b1 ind P fn c fr H ⟨d,.binOp .or t x y cF,ty,pos,after,g⟩ (.int k (Nd k m n)):=by intro w a σ S ad;have U:=ad.ff ar;have ab:=ad.ff a1;refine ⟨_,.int _ _ _,fun w' _=> ?_⟩;simp [execOp,U,ab,oq,binOp,Op.intBits,Nd]
theorem aiw {x y:Operand}{k fJ:IntKind}{m n:Int}(ar:bG fr x=some (.int k m))(a1:bG fr y=some (.int fJ n))(aI:0≤n):
 b1 ind P fn c fr H ⟨d,.binOp .shr t x y cF,ty,pos,after,g⟩ (.int k (Np k m n)):=by intro w a σ S ad;have U:=ad.ff ar;have ab:=ad.ff a1;refine ⟨_,.int _ _ _,fun w' _=> ?_⟩;have ay: ¬n<0:=J;simp [execOp,U,ab,oq,binOp,Op.shift,Np,ay]
theorem TL {x y:Operand}{k fJ:IntKind}{m n:Int}(ar:bG fr x=some (.int k m))(a1:bG fr y=some (.int fJ n))(aI:0≤n):
 b1 ind P fn c fr H ⟨d,.binOp .shl t x y cF,ty,pos,after,g⟩ (.int k (IB k m n)):=by intro w a σ S ad;have U:=ad.ff ar;have ab:=ad.ff a1;refine ⟨_,.int _ _ _,fun w' _=> ?_⟩;have ay: ¬n<0:=J;simp [execOp,U,ab,oq,binOp,Op.shift,IB,ay]
end
end Go.aj
namespace Go.aj
variable [bA]
open Go.RowKit
section
variable {P:Program}{fn:Func}{c:Ctx}{fr:Fr}{H:aZ}{k:List eF}{ind:Bool}{d:Option Nat}{ty:TypeId}{pos:String}{after:Array Edge}{g:Option (Nat×Bool)}
end
end Go.aj
namespace Go.aj
variable [bA]
open Go.ChangeShapes Go.WideShapes Go.ChangeAt Go.RowKit
section
variable {H:Type}{enc:TypeId×Value→H}{P:Program}{W:World}
abbrev G3 (W:World):Nat→Prop:=fun b=>b<W.heap.size
def sN (W:World)(l:List ak)(cs:List Value):Prop:=
 l.length=cs.length∧ ∀i,i<cs.length→bz W (G3 W) (fun _=>none) (l.getD i .any) (cs.getD i undef)∧(cs.getD i undef).oneCell'=true
def gm {α:Type}(enc:TypeId×Value→H)(P:Program)(W:World)(t:TypeId)(n:Nat)(e:α→List ak)(ok:α→Prop):Prop:=
 ∀fuel cs x,DataW.trod enc P W 0 (fun _=>true) true fuel t cs=some x→ ∃a,ok a∧cs.length=n∧sN W (e a) cs
theorem Gs {W:World}{v:ak}{c:Value}(h:bz W (G3 W) (fun _=>none) v c)(U:c.oneCell'=true):sN W [v] [c]:=by
 have bZ:= ‹bA›;refine ⟨I,fun i aa=> ?_⟩;have:i=0:=by simpa using aa
 subst this;exact ⟨h,U⟩
theorem gm.int {t:TypeId}{k:IntKind}(bu:P.underlying t=some (.int k)):gm enc P W t 1 (fun n:Int=>[ak.int k n]) (fun n=>(Lit.int k n).wf=true):=by intro fuel cs x h;obtain ⟨n,rfl,_,hw⟩:=DataW.trod_int bu h;exact ⟨n,hw,I,Gs (.int _ _ _) I⟩
theorem gm.str {t:TypeId}(bu:P.underlying t=some .string):gm enc P W t 1 (fun s:List UInt8=>[ak.str s]) (fun s=>s.length≤9223372036854775807):=by
 intro fuel cs x h;obtain ⟨s,rfl,_,av⟩:=DataW.trod_string bu h;have e:Value.string s=pr s.data.toList:=by show Value.string s=Value.string ⟨s.data.toList.toArray⟩;rw [DS]
 refine ⟨s.data.toList,?_,I,?_⟩
 ·unfold maxLen at av;simpa using av
 ·rw [e];exact Gs (.str _ _) rfl
def fi {α:Type}(d:α)(n:Nat)(e:α→List ak)(l:List α):Cells:= .fn l.length n (fun i j=>(e (l.getD i d)).getD j .any)
theorem gm.slice {α:Type}{t cF:TypeId}{n:Nat}{e:α→List ak}{ok:α→Prop}(d:α)(bu:P.underlying t=some (.slice cF))(aw:P.cellsOf cF=n)(aI:Nat.blt 0 n=true)(h:gm enc P W cF n e ok):
 gm enc P W t 1 (fun l:List α=>[ak.ro (fi d n e l) 0 l.length]) (fun l=>l.length≤9223372036854775807∧ ∀a∈l,ok a):=by
 have aI:=iv aI;intro fuel cs x ar;rcases DataW.trod_slice bu ar with ⟨rfl,_⟩|⟨a,len,cap,elems,rest,m,_,rfl,_,_,au,hm,hlen,BM,_,_⟩
 ·exact ⟨[],⟨b7 _,fun a a8=>by simp at a8⟩,I,Gs (.kq _ _ _ _ _) I⟩
 subst aw;have each: ∀i,i<len→ ∃z:α×List Value,ok z.1∧W.cells? 0 (a.add (i*P.cellsOf cF)) (P.cellsOf cF)=some z.2∧sN W (e z.1) z.2:=by intro i aa;have U:=BM i aa;have ab:elems[i]? =some (elems[i]'J):=nY _;rw [ab,Option.bind_eq_some_iff] at U;obtain ⟨mn,pH,a1⟩:=U;obtain ⟨z,bw,H9,MQ⟩:=h _ _ _ a1;exact ⟨(z,mn),bw,pH,MQ⟩
 cases len with
 |zero=>exact ⟨[],⟨b7 _,fun a a8=>by simp at a8⟩,rfl,Gs (.kq _ _ _ _ _) rfl⟩
 |succ len=>
  have a8:a=⟨a.block,a.off,none⟩∧a.block<W.heap.size:=by
   obtain ⟨z,_,pH,_⟩:=each 0 (Nat.succ_pos _);obtain ⟨_,wk,zJ⟩:=World.cells?_some pH;have aU:=zJ 0 aI;have oe:z.2[0]? =some (z.2[0]'J):=nY _;rw [oe] at aU;simp only [sb] at aU;have jW: ∀q:Addr,q.add 0=q:=by intro q;simp [Addr.add]
   rw [jW,jW] at aU;have B7:a=⟨a.block,a.off,none⟩:=by
    have al:=aU;unfold World.cell? at al;split at al
    ·cases B7:a.spot with
     |none=>cases a;simp_all
     |some s=>simp [B7] at al
    ·cases al
   refine ⟨B7,?_⟩;rcases gz a.block W.heap.size with aV|aV
   ·exact aV
   ·rw [B7] at aU;unfold World.cell? at aU;have:W.heap[a.block]? =none:=by simp [aV]
    simp [this] at aU
  let f:Nat→α×List Value:=fun i=>if aa:i<len+1 then Classical.choose (each i aa) else (d,[])
  have aQ: ∀i,i<len+1→ok (f i).1∧W.cells? 0 (a.add (i*P.cellsOf cF)) (P.cellsOf cF)=some (f i).2∧sN W (e (f i).1) (f i).2:=by intro i aa;have:=Classical.choose_spec (each i aa);simp only [f,aa,vL];exact this
  let l:List α:=(List.range (len+1)).map (fun i=>(f i).1)
  have wo:l.length=len+1:=by simp [l]
  have aeG: ∀i,i<len+1→l.getD i d=(f i).1:=by intro i aa;simp [l,List.getD,aa]
  refine ⟨l,⟨by unfold maxLen at hm;omega,fun b al=> ?_⟩,I,?_⟩
  ·obtain ⟨i,aa,rfl⟩:=cO.1 al;exact (aQ i (xw.1 aa)).1
  ·refine Gs ?_ I;rw [a8.1,wo];refine .ro _ _ _ _ _ _ _ (fun i j=>(f i).2.getD j undef) a8.2 au (fun i j aa ae=> ?_) (fun i j aa ae=> ?_) (fun i j aa ae=> ?_);all_goals
    obtain ⟨g1,g2,g3,g4⟩:=aQ i aa;obtain ⟨_,bY,db⟩:=World.cells?_some g2;have bd:j<(f i).2.length:=by rw [bY];exact ae
   ·have ay:=db j ae;rw [nY bd] at ay;rw [a8.1,add_plain,add_plain] at ay;show W.cell? ⟨a.block,a.off+i*P.cellsOf cF+j,none⟩=some ((f i).2.getD j undef);rw [ay,List.getD,nY bd];rfl
   ·show bz W (G3 W) (fun _=>none) ((e (l.getD (0+i) d)).getD j .any) _;rw [cT,aeG i aa];exact (g4 j bd).1
   ·exact (g4 j bd).2
theorem sN.append {l hq:List ak}{cs mn:List Value}(h:sN W l cs)(aS:sN W hq mn):sN W (l++hq) (cs++mn):=by
 have bZ:= ‹bA›;refine ⟨by simp [h.1,aS.1],fun i aa=> ?_⟩;by_cases bD:i<cs.length
 ·have aH:(l++hq).getD i .any=l.getD i .any:=by simp [List.getD,oK,h.1,bD]
  have aJ:(cs++mn).getD i undef=cs.getD i undef:=by simp [List.getD,oK,bD]
  rw [aH,aJ];exact h.2 i bD
 ·have aH:(l++hq).getD i .any=hq.getD (i-cs.length) .any:=by simp [List.getD,oK,h.1,bD]
  have aJ:(cs++mn).getD i undef=mn.getD (i-cs.length) undef:=by simp [List.getD,oK,bD]
  rw [aH,aJ];exact aS.2 _ (by simp at aa;omega)
def oE {α:Type}(enc:TypeId×Value→H)(P:Program)(W:World)(eW:List Field)(o n:Nat)(e:α→List ak)(ok:α→Prop):Prop:=
 ∀fuel (cs:List Value) (m:Nat),cs.length=m→o+n=m→(∀f∈eW,∃x,DataW.trod enc P W 0 (fun _=>true) true fuel f.type ((cs.drop f.offset).take (P.cellsOf f.type))=some x)→ ∃a,ok a∧sN W (e a) (cs.drop o)
theorem oE.nil {o:Nat}:oE enc P W [] o 0 (fun _:Unit=>[]) (fun _=>True):=by have bZ:= ‹bA›;intro fuel cs m U ab _;refine ⟨(),trivial,?_⟩;rw [Bm J];exact ⟨I,fun i aa=>by simp at aa⟩
theorem oE.cons {α β:Type}{f:Field}{eW:List Field}{o n m:Nat}{e:α→List ak}{ok:α→Prop}{gA:β→List ak}{Fa:β→Prop}(ah:f.offset=o)(aw:P.cellsOf f.type=n)(h:gm enc P W f.type n e ok)(aS:oE enc P W eW (o+n) m gA Fa):
 oE enc P W (f::eW) o (n+m) (fun a:α×β=>e a.1++gA a.2) (fun a=>ok a.1∧Fa a.2):=by
 intro fuel cs k U ab ay;obtain ⟨x,ar⟩:=ay f bX;obtain ⟨a,a8,au,ad⟩:=h _ _ _ ar;obtain ⟨b,al,fV⟩:=aS fuel cs k U J (fun g c2=>ay g (by simp [c2]));refine ⟨(a,b),⟨a8,al⟩,?_⟩;rw [ah,aw] at ad;have aH:cs.drop o=(cs.drop o).take n++cs.drop (o+n):=by rw [←List.drop_drop,sa]
 rw [aH];exact ad.append fV
theorem gm.struct {α:Type}{t:TypeId}{eW:Array Field}{n:Nat}{e:α→List ak}{ok:α→Prop}(bu:P.underlying t=some (.struct eW))(aw:P.cellsOf t=n)(h:oE enc P W eW.toList 0 n e ok):gm enc P W t n e ok:=by
 have bZ:= ‹bA›;intro fuel cs x ar;obtain ⟨xs,m,_,_,au,od,aQ⟩:=DataW.trod_struct bu ar;obtain ⟨a,a8,ad⟩:=h m cs n J J (fun f Sf=>by
  obtain ⟨i,aa,rfl⟩:=k3 Sf;have U:=aQ i eW.toList[i] (by simp at aa;simp [aa]);have ab:xs[i]? =some (xs[i]'(by simp at aa;omega)):=nY _;rw [ab] at U;exact ⟨_,U⟩)
 exact ⟨a,a8,J,by simpa using ad⟩
theorem sN.conv {l hq:List ak}{cs:List Value}(h:sN W l cs)(au:hq.length=l.length)(he: ∀i,i<l.length→aR (l.getD i .any) (hq.getD i .any)):sN W hq cs:=
 have bZ:= ‹bA›;⟨au.trans h.1,fun i aa=>⟨he i (by rw [h.1];exact aa) _ _ _ _ (h.2 i aa).1,(h.2 i aa).2⟩⟩
theorem gm.map {α β:Type}{t:TypeId}{n:Nat}{e:α→List ak}{ok:α→Prop}{gA:β→List ak}{Fa:β→Prop}(h:gm enc P W t n e ok)(f:α→β)(EN: ∀a,ok a→Fa (f a))(au: ∀a,(gA (f a)).length=(e a).length)(he: ∀a i,i<(e a).length→aR ((e a).getD i .any) ((gA (f a)).getD i .any)):gm enc P W t n gA Fa:=by intro fuel cs x ar;obtain ⟨a,a8,U,ab⟩:=h fuel cs x ar;exact ⟨f a,EN a a8,U,ab.conv (au a) (he a)⟩
theorem apm (k:IntKind)(l:List Int):aR (.ro (fi 0 1 (fun n:Int=>[ak.int k n]) l) 0 l.length) (.ro (.ints k l) 0 l.length):=by refine aR.ro I (fun d j hd ae=> ?_);have EC:j=0:=fw.1 ae;subst EC;rfl
theorem apn (l:List (List UInt8)):aR (.ro (fi [] 1 (fun s:List UInt8=>[ak.str s]) l) 0 l.length) (.ro (.strs l) 0 l.length):=by refine aR.ro I (fun d j hd ae=> ?_);have EC:j=0:=fw.1 ae;subst EC;rfl
theorem gm.ints {t cF:TypeId}{k:IntKind}(bu:P.underlying t=some (.slice cF))(aw:P.cellsOf cF=1)(an:P.underlying cF=some (.int k)):
 gm enc P W t 1 (fun l:List Int=>[ak.ro (.ints k l) 0 l.length]) (fun l=>l.length≤9223372036854775807∧ ∀n∈l,(Lit.int k n).wf=true):=
 (gm.slice 0 bu aw rfl (gm.int an)).map id (fun _ h=>h) (fun _=>rfl) (fun l i aa=>by
  have:i=0:=by simpa using aa
  subst this;exact apm k l)
theorem gm.strs {t cF:TypeId}(bu:P.underlying t=some (.slice cF))(aw:P.cellsOf cF=1)(an:P.underlying cF=some .string):
 gm enc P W t 1 (fun l:List (List UInt8)=>[ak.ro (.strs l) 0 l.length]) (fun l=>l.length≤9223372036854775807∧ ∀s∈l,s.length≤9223372036854775807):=
 (gm.slice [] bu aw rfl (gm.str an)).map id (fun _ h=>h) (fun _=>rfl) (fun l i aa=>by
  have:i=0:=by simpa using aa
  subst this;exact apn l)
theorem gm.one {α:Type}{t:TypeId}{e:α→List ak}{ok:α→Prop}{v:Value}{d:DataW H}{p:List MemPlace}(h:gm enc P W t 1 e ok)(ai:v.cells= #[v])(hd:DataW.Trod enc P W 0 (fun _=>true) true t v d p):
 ∃a,ok a∧bz W (G3 W) (fun _=>none) ((e a).getD 0 .any) v:=by have bZ:= ‹bA›;obtain ⟨fuel,ar⟩:=hd;rw [ai] at ar;obtain ⟨a,a8,_,ad⟩:=h _ _ _ ar;exact ⟨a,a8,(ad.2 0 fA).1⟩
end
end Go.aj
namespace Go.aj
variable [bA]
open Go.RowKit
section
variable {H:Type}{enc:TypeId×Value→H}{P:Program}{W:World}
end
end Go.aj
namespace Go.aj
open Go.ChangeShapes Go.WideShapes Go.ChangeAt Go.RowKit
theorem WZ [bA]{H:Type}{enc:TypeId×Value→H}{P:Program}{W:World}{An:List TypeId}{sk:List (DataW H)}{sp:Nat→Bool}{held:Bool}{j b:Nat}{t e:TypeId}{ia:Option Addr}{Nq TZ:Nat}{d:DataW H}{p:List MemPlace}{S:Nat→Prop}{σ:Nat→Option bQ}{c:Cells}{i n:Nat}(bw:(DataW.weightsEach P An sk).all (· ≤reachBytes)=true)(MF:An[j]? =some t)(xN:sk[j]? =some d)(bu:P.underlying t=some (.slice e))(al:P.bytesOf e=b)(h:DataW.Trod enc P W 0 sp held t (.slice ia Nq TZ) d p)(ai:bz W S σ (.ro c i n) (.slice ia Nq TZ)):n*b≤reachBytes:=by
 have aI:n=Nq:=by cases ai<;>rfl
 subst aI;obtain ⟨fuel,ar⟩:=h;rcases DataW.trod_slice bu ar with ⟨pH,_⟩|⟨a,len,cap,elems,rest,m,_,pH,hd,_,au,hm,hlen,_⟩
 ·simp only [Value.cells] at pH;have:n=0:=by have:=congrArg (fun l:List Value=>match l with|[.slice _ k _]=>k|_=>0) pH;simpa using this
  rw [this,sb];exact b7 _
 ·have aI:n=len:=by simp only [Value.cells] at pH;have:=congrArg (fun l:List Value=>match l with|[.slice _ k _]=>k|_=>0) pH;simpa using this
  have hd:d= .slice (elems.map (·.1)) (rest.map (·.1)):=congrArg Prod.fst hd;rw [hd] at xN;have:=sized_slice bw MF xN bu;rw [al,cr,cr,hlen,←aI] at this;exact dN (er _ (n0 _ _)) this
end Go.aj
namespace Go.aj
variable [bA]
open Go.RowKit
section
variable {P:Program}{fn:Func}{c:Ctx}{fr:Fr}{H b5:aZ}{k:List eF}{M:M}
theorem tN {all:Array Oper}{fuel:Nat}{listed:Array Bool}(L:Fr)(U:(∀fr,jb fr L→aj P fn c (.any all fuel listed k) fr H)→aj P fn c M fr b5)(ab:aj P fn c (.any all fuel listed k) L H):aj P fn c M fr b5:=
 U (fun _ an w a σ S ad=>ab w a σ S (ad.weaken an))
theorem kQ {x:Code}(L:Fr)(U:(∀fr,jb fr L→aj P fn c (.code x k) fr H)→aj P fn c M fr b5)(ab:aj P fn c (.code x k) L H):aj P fn c M fr b5:=
 U (fun _ an w a σ S ad=>ab w a σ S (ad.weaken an))
end
theorem O6 {gU:aZ}{fr:Fr}: ∀{L:Fr},jb fr L→Ec gU fr L
 |[],_=>have bZ:= ‹bA›;trivial
 |(t,v)::r,h=>⟨⟨v,h.1,.inl rfl⟩,O6 h.2⟩
theorem US (t:Nat)(v:ak)(L:Fr):look t ((t,v)::L)=some v:=by have bZ:= ‹bA›;show (bif Nat.beq t t then some v else _)=_;rw [pD];rfl
theorem Wt {t:Nat}{p q:ak}{L:Fr}(aF:hf 0 p=false): ∀(M:Fr),jb ((t,p)::L) M→kx 0 M=true→jb ((t,q)::L) M
 |[],_,_=>have bZ:= ‹bA›;trivial
 |(u,v)::r,h,al=>by
  simp only [kx,eb] at al;refine ⟨?_,Wt aF r h.2 al.2⟩;have U:(bif Nat.beq u t then some p else look u L)=some v:=h.1;show (bif Nat.beq u t then _ else look u L)=some v;cases aB:Nat.beq u t with
  |true=>rw [aB] at U;simp at U;subst U;rw [aF] at al;exact absurd al.1 aT
  |false=>rw [aB] at U;simpa using U
theorem Z0 {P:Program}{fn:Func}{c:Ctx}{fr:Fr}{k:List eF}{x:Code}{o:bl}{v:ak}(t:Nat)(L:Fr)(qF:ak)(aI:eZ o.c)(ai:hf 0 v=false)(rk:qF=v.kL [some o])(aa:lG [some o] v)(eA:hf 0 qF=true)(pK:jb fr ((t,v)::L))(l0:jb ((t,v)::L) L)(al:kx 0 L=true)(kn: ∀h,¬c.fix h)(h:aj P fn c (.code x k) ((t,qF)::L) []):aj P fn c (.code x k) fr [some o]:=by
 refine Jo [some o] [none] ((t,qF)::L) (fun _ _ h=>h) (p8 aI) I ?_ ⟨⟨v,pK.1,.inr (.inr ⟨rk,aa⟩)⟩,O6 pK.2⟩ ?_
 ·intro h o' cP
  match h,cP with
  |0,cP=>simp at cP
  |_+1,cP=>simp at cP
 exact ZZ [] [none] ((t,qF)::L) I ⟨US _ _ _,Wt (p:=v) ai L l0 al⟩ (fun h aV=>(kn h aV).elim) I (by simp only [kx,eb];exact ⟨eA,al⟩) h
end Go.aj
namespace Go.aj
variable [bA]
open Go.RowKit
def Nl (P:Program)(t:TypeId)(x y:ak):Option Bool:=match P.underlying t,x,y with
 |some (.int _),.int k a,.int fJ b=>if k=fJ then some (decide (a=b)) else none
 |some .string,.str a,.str b=>some (decide (a=b))
 |some .bool,.bool a,.bool b=>some (a==b)
 |_,_,_=>none
theorem apt {P:Program}{w w':World}{S:Nat→Prop}{σ:Nat→Option bQ}{t:TypeId}{x y:ak}{b:Bool}{v qF:Value}(h:Nl P t x y=some b)(ai:bz w S σ x v)(rk:bz w S σ y qF)(d:Nat):
 P.plainKey t=true∧(Op.equalIn (d+1) t v qF).run P w'= .ok b w':=by
 unfold Nl at h;split at h
 ·rename_i hu;split at h
  ·rename_i an;subst an;simp only [dC] at h;subst h;cases ai;cases rk;refine ⟨by simp [Program.plainKey,hu],?_⟩;rw [run_equalIn_int w' d t _ _ _ _ hu];rfl
  ·cases h
 ·rename_i hu;simp only [dC] at h;subst h;cases ai;cases rk;refine ⟨by simp [Program.plainKey,hu],?_⟩;simp only [pr];rw [run_equalIn_string w' d t _ _ hu,Vi,Vi];congr 1;rw [xv];simp
 ·rename_i hu;simp only [dC] at h;subst h;cases ai;cases rk;exact ⟨by simp [Program.plainKey,hu],run_equalIn_bool' w' d t _ _ hu⟩
 ·cases h
theorem Zo {w:World}{S:Nat→Prop}{σ:Nat→Option bQ}{L:List ak}{vs:Array Value}(au:vs.size=L.length)(ai: ∀i,i<L.length→bz w S σ (L.getD i .any) (vs.getD i undef)){o:Nat}{x:ak}(h:L[o]? =some x): ∃v,vs[o]? =some v∧bz w S σ x v:=by
 have bZ:= ‹bA›;have bD:o<L.length:=(hi.1 h).1;have ay:=ai o bD;have e:L.getD o .any=x:=by simp [List.getD,h]
 rw [e] at ay;exact ⟨_,by simp [Array.getD,au,bD],ay⟩
section
variable {P:Program}{fn:Func}{c:Ctx}{fr:Fr}{H:aZ}{k:List eF}{ind:Bool}{d:Option Nat}{ty:TypeId}{pos:String}{after:Array Edge}{g:Option (Nat×Bool)}
end
end Go.aj
namespace Go.aj
variable [bA]
open Go.RowKit
def nX (k:IntKind)(M:Nat):Prop:= ∀n:Int,k.wrap n=n%(M:Int)
theorem eO:nX .u64 18446744073709551616:=have bZ:= ‹bA›;fun n=>IntKind.wrap_u64 n
theorem lr:nX .u32 4294967296:=have bZ:= ‹bA›;fun n=>IntKind.wrap_u32 n
theorem nX.in {k:IntKind}{M:Nat}(h:nX k M){m:Nat}(hm:m<M):k.wrap (m:Int)=(m:Int):=by have bZ:= ‹bA›;rw [h];exact Int.emod_eq_of_lt J J
theorem nX.low {k:IntKind}{M:Nat}(h:nX k M)(m:Nat):k.wrap (m:Int)=((m%M:Nat):Int):=by have bZ:= ‹bA›;rw [h];simp
section
variable {P:Program}{fn:Func}{c:Ctx}{fr:Fr}{H:aZ}{k:List eF}{ind:Bool}{d:Option Nat}{ty:TypeId}{pos:String}{after:Array Edge}{g:Option (Nat×Bool)}
theorem b1.res {o:Oper}{v qF:ak}(h:b1 ind P fn c fr H o v)(e:v=qF):b1 ind P fn c fr H o qF:=e▸h
theorem hb {x:Operand}{src dst:TypeId}{ey fJ:IntKind}{u:TypeDesc}{m M:Nat}(av:P.underlying src=some u)(hd:P.underlying dst=some (.int fJ))(ar:bG fr x=some (.int ey (m:Nat)))(an:nX fJ M)(hm:m<M):
 b1 ind P fn c fr H ⟨d,.convert src dst x,ty,pos,after,g⟩ (.int fJ (m:Nat)):=(Qr av hd ar).res (congrArg (ak.int fJ) (an.in hm))
theorem xe {x:Operand}{src dst:TypeId}{ey fJ:IntKind}{u:TypeDesc}{m M:Nat}(av:P.underlying src=some u)(hd:P.underlying dst=some (.int fJ))(ar:bG fr x=some (.int ey (m:Nat)))(an:nX fJ M):
 b1 ind P fn c fr H ⟨d,.convert src dst x,ty,pos,after,g⟩ (.int fJ (m%M:Nat)):=(Qr av hd ar).res (congrArg (ak.int fJ) (an.low m))
theorem xf {x y:Operand}{t cF:TypeId}{k fJ:IntKind}{m s:Nat}(ar:bG fr x=some (.int k (m:Nat)))(a1:bG fr y=some (.int fJ (s:Nat)))(al:Nat.ble s k.bits=true):
 b1 ind P fn c fr H ⟨d,.binOp .shr t x y cF,ty,pos,after,g⟩ (.int k (m/2^s:Nat)):=by refine (aiw ar a1 J).res (congrArg (ak.int k) ?_);have av:s≤k.bits:=iv al;unfold Np;rw [cg,hY av,Int.fdiv_eq_ediv_of_nonneg _ (Int.pow_nonneg aT)];simp
theorem Gx {x y:Operand}{t cF:TypeId}{k fJ:IntKind}{m s M:Nat}(ar:bG fr x=some (.int k (m:Nat)))(a1:bG fr y=some (.int fJ (s:Nat)))(al:s≤k.bits)(an:nX k M)(hm:m*2^s<M):
 b1 ind P fn c fr H ⟨d,.binOp .shl t x y cF,ty,pos,after,g⟩ (.int k (m*2^s:Nat)):=by refine (TL ar a1 J).res (congrArg (ak.int k) ?_);unfold IB;rw [cg,hY al];have:((m:Int)*2^s)=((m*2^s:Nat):Int):=bX;rw [this];exact an.in hm
theorem Hb {k:IntKind}{M:Nat}(an:nX k M)(gq:M=2^k.bits){m:Nat}(hm:m<M):(BitVec.ofInt k.bits (m:Int)).toNat=m:=by have bZ:= ‹bA›;subst gq;simp [BitVec.toNat_ofInt,np hm]
theorem GJ {x y:Operand}{t cF:TypeId}{k:IntKind}{m n M:Nat}(ar:bG fr x=some (.int k (m:Nat)))(a1:bG fr y=some (.int k (n:Nat)))(an:nX k M)(gq:M=2^k.bits)(hm:m<M)(aI:n<M):
 b1 ind P fn c fr H ⟨d,.binOp .or t x y cF,ty,pos,after,g⟩ (.int k (m|||n:Nat)):=by refine (ais ar a1).res (congrArg (ak.int k) ?_);unfold Nd;rw [BitVec.toNat_or,Hb an gq hm,Hb an gq aI];exact an.in (by subst gq;exact Nat.or_lt_two_pow hm aI)
theorem aix {x y:Operand}{t cF:TypeId}{k:IntKind}{m n M:Nat}(ar:bG fr x=some (.int k (m:Nat)))(a1:bG fr y=some (.int k (n:Nat)))(an:nX k M)(gq:M=2^k.bits)(hm:m<M)(aI:n<M):
 b1 ind P fn c fr H ⟨d,.binOp .and t x y cF,ty,pos,after,g⟩ (.int k (m &&& n:Nat)):=by refine (aim ar a1).res (congrArg (ak.int k) ?_);unfold K8;rw [BitVec.toNat_and,Hb an gq hm,Hb an gq aI];exact an.in (by subst gq;exact Nat.and_lt_two_pow m aI)
theorem vx {x y:Operand}{t cF:TypeId}{k:IntKind}{m n M:Nat}(ar:bG fr x=some (.int k (m:Nat)))(a1:bG fr y=some (.int k (n:Nat)))(an:nX k M)(hm:m+n<M):
 b1 ind P fn c fr H ⟨d,.binOp .add t x y cF,ty,pos,after,g⟩ (.int k (m+n:Nat)):=by refine (Qj ar a1 I).res (congrArg (ak.int k) ?_);have:(m:Int)+(n:Int)=((m+n:Nat):Int):=bX;rw [this];exact an.in hm
theorem Dn {x y:Operand}{t cF:TypeId}{k:IntKind}{m n M:Nat}(ar:bG fr x=some (.int k (m:Nat)))(a1:bG fr y=some (.int k (n:Nat)))(an:nX k M)(hm:m*n<M):
 b1 ind P fn c fr H ⟨d,.binOp .mul t x y cF,ty,pos,after,g⟩ (.int k (m*n:Nat)):=by refine (Qj ar a1 I).res (congrArg (ak.int k) ?_);have:(m:Int)*(n:Int)=((m*n:Nat):Int):=bX;rw [this];exact an.in hm
theorem Qs {x y:Operand}{t cF:TypeId}{k:IntKind}{m n M:Nat}(ar:bG fr x=some (.int k (m:Nat)))(a1:bG fr y=some (.int k (n:Nat)))(an:nX k M)(hm:m<M)(aI:n≤m):
 b1 ind P fn c fr H ⟨d,.binOp .sub t x y cF,ty,pos,after,g⟩ (.int k (m-n:Nat)):=by refine (Qj ar a1 I).res (congrArg (ak.int k) ?_);have:(m:Int)-(n:Int)=((m-n:Nat):Int):=J;rw [this];exact an.in J
theorem aiy {x y:Operand}{t cF:TypeId}{k:IntKind}{m n:Nat}(ar:bG fr x=some (.int k (m:Nat)))(a1:bG fr y=some (.int k (n:Nat)))(aI:0<n):
 b1 ind P fn c fr H ⟨d,.binOp .rem t x y cF,ty,pos,after,g⟩ (.int k (m%n:Nat)):=
 (aiv ar a1 ⟨J,J⟩).res (congrArg (ak.int k) bX)
theorem TM {x y:Operand}{t cF:TypeId}{k:IntKind}{m n M:Nat}(ar:bG fr x=some (.int k (m:Nat)))(a1:bG fr y=some (.int k (n:Nat)))(an:nX k M)(hm:m<M)(aI:0<n):
 b1 ind P fn c fr H ⟨d,.binOp .quo t x y cF,ty,pos,after,g⟩ (.int k (m/n:Nat)):=by refine (aiu ar a1 J).res (congrArg (ak.int k) ?_);have:(m:Int).tdiv (n:Int)=((m/n:Nat):Int):=bX;rw [this];exact an.in (q5 (vO _ _) hm)
end
end Go.aj
namespace Go.aj
variable [bA]
open Go.RowKit
section
variable {P:Program}{fn:Func}{c:Ctx}{fr:Fr}{H:aZ}{k:List eF}
end
end Go.aj
namespace Go.aj
variable [bA]
open Go.RowKit
section
variable {P:Program}{fn:Func}{c:Ctx}{fr:Fr}{H:aZ}{k:List eF}
theorem P3 {all:Array Oper}{d:Nat}{t wP e:TypeId}{x y:Operand}{ty:TypeId}{pos:String}{after:Array Edge}{rest:List Oper}{inf:TypeInfo}{h i n:Nat}{o:bl}{v:ak}{ec c':Cells}{i2 m q:Nat}(bu:P.underlying t=some (.slice e))(aa:P.info? e=some inf)(rj:inf.size=o.c.aD)(ar:bG fr x=some (.aC h i n))(aV:H[h]? =some (some o))(a1:bG fr y=some v)(av:A6 H v=some (ec,i2,m))(aep:i+n≤o.c.len)(aI:0<n)(dV:i2+m≤ec.len)(hm:0<m)(aB:Nat.min m n=q)(c6:c'.aD=o.c.aD)(fs:ec.aD=o.c.aD)(lh:c'.len=o.c.len)(lH: ∀aG j,aG<o.c.len→j<o.c.aD→c'.at aG j=if i≤aG∧aG<i+q then ec.at (i2+(aG-i)) j else o.c.at aG j)(an:aj P fn c (.ops false all rest k) ((d,.int .i64 (q:Nat))::fr) (H.set h (some ⟨o.ty,c'⟩)))(bw:o.c.aD≠0:=by (intro aV;cases aV)):aj P fn c (.ops false all (⟨some d,.call {callee:= .builtin .copy,args:= #[x,y],argTypes:= #[t,wP]},ty,pos,after,none⟩::rest) k) fr H:=by
 refine rZ (fun w a σ S ad=> ?_) an;have U:=ad.dL ar;have ab:=ad.dL a1;have pN:=ad.src ab av (fun _ _=>dV);have iN: ∀r w',(Builtin.copy_ #[t,wP] ty #[a.eval x,a.eval y]).run P w= .ok r w'→(execOp a.eval ⟨some d,.call {callee:= .builtin .copy,args:= #[x,y],argTypes:= #[t,wP]},ty,pos,after,none⟩).run P w= .ok (.value r) w':=by intro r w' h;simp [execOp,resolve,invoke,builtin,h]
 generalize wG:a.eval x=Fh at U iN;generalize mu:a.eval y=Nz at ab pN iN;unfold Src at pN;rw [fs] at pN;have SI:q≤m∧q≤n:=by subst aB;exact ⟨Nat.min_le_left _ _,Nat.min_le_right _ _⟩
 cases U with
 |ih _ _ bJ=>omega
 |aC _ _ _ _ b s C cap bJ hlen jX=>
  obtain ⟨gY,cur,g1,g2,g3,g4,g5,g6⟩:=ad.obj aV bJ;subst gY;obtain ⟨mk,g1,lF,jB⟩:=g1.cells bw;rcases pN with ⟨rfl,lX,n8,rfl⟩|⟨ia,n8,news,rfl,bS,bY,db,dP⟩
  ·omega
  ·have hle:q*o.c.aD≤news.length:=by rw [bS];exact er _ SI.1
   have wB:(news.take (q*o.c.aD)).length=q*o.c.aD:=by rw [fc];omega
   have aqD:i*o.c.aD+q*o.c.aD≤cur.size:=by rw [g2,←dK];exact er _ J
   have aQ:=run_firstCells_some (P:=P) w o.c.aD q ia m n8 (news.take (q*o.c.aD)) wB (fun j u hu=>by
    rw [py] at hu;split at hu
    ·exact bY j u hu
    ·cases hu)
   have dS:=Fm P b (i*o.c.aD) o.ty mk (news.take (q*o.c.aD)) 0 cur w g1 lF (by rw [wB];omega) (fun u hu=>db u (pz hu));simp only [e6,wB] at dS;have dR:(Builtin.copy_ #[t,wP] ty #[.slice (some ⟨b,i*o.c.aD,none⟩) n cap,.slice (some ia) m n8]).run P w= .ok (.int .i64 (q:Nat)) (w.setRow b (cur.toList.take (i*o.c.aD)++news.take (q*o.c.aD)++cur.toList.drop (i*o.c.aD+q*o.c.aD)).toArray):=by simp [Builtin.copy_,run_underlying bu,sizeOf,typeInfo,aa,rj,Builtin.lenOf,aB,aQ,dS,goInt]
   have nw:(cur.toList.take (i*o.c.aD)).length=i*o.c.aD:=by rw [fc];simp;omega
   refine ⟨_,_,σ,S,iN _ _ dR,ad.setRow aV bJ jB c6 J ?_ (fun aG j aL ae=> ?_),.int _ _ _⟩
   ·rw [←g2];simp;omega
   ·rw [lh] at aL;rw [c6] at ae⊢;rw [lH aG j aL ae];split
    ·rename_i wy;obtain ⟨u,aH,aJ⟩:=dP (aG-i) j J ae;refine ⟨u,?_,aJ,db u (oL aH)⟩;have sv:aG*o.c.aD+j=i*o.c.aD+((aG-i)*o.c.aD+j):=by rw [←ju,←dK];congr 2;omega
     have bD:(aG-i)*o.c.aD+j<q*o.c.aD:=by have:(aG-i+1)*o.c.aD≤q*o.c.aD:=er _ J;rw [dK] at this;omega
     simp only [xt,lz];rw [sv,ib J,nw,vN,hQ J,py,aA bD];exact aH
    ·rename_i wy;obtain ⟨u,aH,aJ,bR⟩:=g6 aG j aL ae;refine ⟨u,?_,aJ,bR⟩;simp only [xt,lz];by_cases xV:aG<i
     ·have bD:aG*o.c.aD+j<i*o.c.aD:=by have:(aG+1)*o.c.aD≤i*o.c.aD:=er _ J;rw [dK] at this;omega
      rw [hQ J,py,aA bD];simpa using aH
     ·have lb:i+q≤aG:=J;have aqH:i*o.c.aD+q*o.c.aD≤aG*o.c.aD+j:=by have:(i+q)*o.c.aD≤aG*o.c.aD:=er _ lb;rw [dK] at this;omega
      rw [ib J,nw,ib J,wB,Bk];rw [show i*o.c.aD+q*o.c.aD+(aG*o.c.aD+j-i*o.c.aD-q*o.c.aD)=aG*o.c.aD+j by omega];simpa using aH
theorem cc.aax {w w':World}{a:Act}{σ bC:Nat→Option bQ}{S ca:Nat→Prop}{n m:Nat}{bK:aZ}{fix:Nat→Prop}{K:ak→aZ→Prop}(ad:cc c w a σ S n fr H)(gO: ∀h,h<H.length→h≠m→fix h)(pG: ¬c.fix m)(tw:lT w' ca bC bK){aF:p7 w S σ H}(hlen:H.length≤bK.length)(jY:xo (ov w S σ H fix K aF) w' ca bC bK):
 cc c w' a bC ca n (ou m fr) bK:=by
 have cd: ∀h,h≠m→ ∀B,σ h=some B→bC h=some B:=by
  intro h hm B ck;have bD:h<H.length:=by
   rcases gz h H.length with au|au
   ·exact au
   ·rw [ad.ad.ie h au] at ck;cases ck
  rw [jY.fixed h (gO h bD hm)];exact ck
 have Lx: ∀b,S b→ ¬rO σ H b:=by rintro b av ⟨h,o,s,C,U,ab⟩;exact (ad.obj U ab).2.choose_spec.2.2.2.2.1 av
 have dq: ∀b,S b→w'.heap[b]? =w.heap[b]? :=fun b av=>jY.block b (ad.ad.small b av) (Lx b av);refine ⟨tw,?_,ad.defers,ad.size,fun t v au=> ?_⟩
 ·refine ⟨jY.os.trans ad.bj.os,jY.output.trans ad.bj.output,jY.tape.trans ad.bj.tape,dN ad.bj.size jY.size,fun b al ah=> ?_,fun b al=>jY.hX b (ad.bj.hX b al),fun b al=> ?_,fun h aQ=> ?_,fun h aQ=>gL (ad.bj.jx h aQ) hlen,fun h o b s C U ab=> ?_⟩
  ·rw [←ad.bj.block b al ah];have pM:=ad.bj.size;refine jY.block b (by simp only [ov];omega) ?_;rintro ⟨h,o,s,C,U,ab⟩;rcases ad.bj.own h o b s C U ab with ay|ay
   ·exact ah ay
   ·omega
  ·rcases jY.e5 b al with U|U|U
   ·exact ad.bj.e5 b U
   ·obtain ⟨h,o,s,C,g1,g2⟩:=U;rcases ad.bj.own h o b s C g1 g2 with g3|g3
    ·exact .inr (.inl g3)
    ·exact .inr (.inr g3)
   ·right;right;have:=ad.bj.size;simp only [ov] at U;omega
  ·have hm:h≠m:=fun e=>pG (e▸aQ);rw [jY.fixed h (gO h (ad.bj.jx h aQ) hm)];exact ad.bj.fixed h aQ
  ·rcases jY.own h o b s C U ab with ⟨aS,o',cy,cL,g1,g2⟩|ay
   ·exact ad.bj.own aS o' b cy cL g1 g2
   ·right;have:=ad.bj.size;simp only [ov] at ay;omega
 ·rw [Fv] at au;cases aB:look t fr with
  |none=>simp [aB] at au
  |some v0=>
   simp [aB] at au;subst au;obtain ⟨s1,s2⟩:=ad.fl t v0 aB;refine ⟨s1,?_⟩;have u3:=s2.forget (h:=m) (fun h=>if h=m then bC m else σ h) (fun aS aV=>by simp [aV]);exact u3.mono jY.hX dq _ (fun h B ck=>by
    by_cases aV:h=m
    ·subst aV;simpa using ck
    ·simp only [aV,hH] at ck;exact cd h aV B ck)
theorem Xi {all:Array Oper}{d:Option Nat}{g:Operand}{args:List Operand}{iJ:Array TypeId}{ty:TypeId}{pos:String}{after:Array Edge}{rest:List Oper}{f:FuncId}{cw eh hh:List ak}{fix:Nat→Prop}{K:ak→aZ→Prop}(m:Nat)(c2:bG fr g=some (.fn f cw))(a8:lD fr args=some eh)(has:eh++cw=hh)(lY:ch P f hh H fix K)(gO: ∀h,h<H.length→h≠m→fix h)(gP: ∀h,fix h→h<H.length)(pG: ¬c.fix m)(an: ∀r bK,K r bK→H.length≤bK.length∧aj P fn c (.ops false all rest k) (match d with|some d=>(d,r)::ou m fr|none=>ou m fr) bK):aj P fn c (.ops false all (⟨d,.call {callee:= .value g,args:=args.toArray,argTypes:=iJ},ty,pos,after,none⟩::rest) k) fr H:=by
 intro hd w a σ S ad;obtain ⟨jg,kl⟩:=tR hd;obtain ⟨⟨acv,BQ,L4,HG⟩,aw⟩:=lY;subst has;have U:=ad.dL c2;obtain ⟨aH,aJ⟩:=F0 ad args eh a8;generalize bw:a.eval g=z at U;refine wpList_step (fun kE Lt=> ?_);simp only [Region.wanted,gf];unfold Oper.wp;cases U with
 |fn _ _ _ vs au ai=>
  have dR:(execOp a.eval ⟨d,.call {callee:= .value g,args:=args.toArray,argTypes:=iJ},ty,pos,after,none⟩).run P w= .ok (.enter f ((args.map a.eval).toArray++vs)) w:=by simp only [execOp,resolve,bw,Deferred.ofValue,Sem.run_bind,Sem.run_pure,Result.andThen_ok,invoke,callFunc,List.map_toArray,Array.empty_append,program,Sem.run,BQ];simp [L4,HG]
  rw [dR];have Hx:pv w S σ (eh++cw) ((args.map a.eval).toArray++vs):=by
   refine ⟨by simp [aH,au],fun i aa=> ?_⟩;simp only [c8] at aa;by_cases bD:i<eh.length
   ·have:=aJ i bD;have xW:i<args.length:=J;have lB:(eh++cw).getD i .any=eh.getD i .any:=by simp [List.getD,oK,bD]
    have lC:((args.map a.eval).toArray++vs).getD i undef=(args.map a.eval).getD i undef:=by simp [DT,xW,List.getD]
    rw [lB,lC];exact this
   ·have:=ai (i-eh.length) J;have jZ: ¬i<args.length:=J;have lB:(eh++cw).getD i .any=cw.getD (i-eh.length) .any:=by simp [List.getD,oK,bD]
    have lC:((args.map a.eval).toArray++vs).getD i undef=vs.getD (i-eh.length) undef:=by simp [DT,aH,bD]
    rw [lB,lC];exact this
  refine Calls.mono (aw w σ S _ ad.TC ad.ad gP Hx) ?_;rintro e w' ⟨v,r,bC,ca,bK,rfl,g1,g2,g3,g4⟩;obtain ⟨hlen,l0⟩:=an r bK g4;have jh:=ad.aax gO pG g1 hlen g3;refine Lt _ _ ?_;cases d with
  |none=>exact l0 kl w' _ bC ca jh
  |some d=>exact l0 kl w' _ bC ca (jh.put g2 (jg d rfl))
end
end Go.aj
namespace Go.aj
variable [bA]
open Go.RowKit
section
variable {ind:Bool}{P:Program}{fn:Func}{c:Ctx}{fr:Fr}{H:aZ}{k:List eF}{d:Option Nat}{ty:TypeId}{pos:String}{after:Array Edge}{g:Option (Nat×Bool)}
end
end Go.aj
namespace Go.aj
variable [bA]
open Go.RowKit
section
variable {P:Program}{fn:Func}{c:Ctx}{fr:Fr}{H:aZ}{k:List eF}
theorem acw {h:Nat}{o:bl}(aV:H[h]? =some (some o)):wN (List.replicate h none++[some o]) H:=by
 have bZ:= ‹bA›;intro aS o' ah;rcases DV aS h with q|q|q
 ·rw [hQ (by simpa using q)] at ah;simp [oM,q] at ah
 ·subst q;rw [ib bX] at ah;simp at ah;subst ah;exact aV
 ·rw [kG (by simp;omega)] at ah;cases ah
theorem aoG {h:Nat}{o:bl}(fa:eZ o.c): ∀(aS:Nat) (o':bl),(List.replicate h none++[some o]:aZ)[aS]? =some (some o')→eZ o'.c:=by
 have bZ:= ‹bA›;intro aS o' ah;have hm:=oL ah;rcases gM.1 hm with q|q
 ·have:=(Bn.1 q).2;cases this
 ·simp at q;subst q;exact fa
theorem YU {h:Nat}{o:bl}:(List.replicate h none++[some o]:aZ)[h]? =some (some o):=by have bZ:= ‹bA›;rw [ib bX];simp
theorem cc.RC {w:World}{a:Act}{σ:Nat→Option bQ}{S:Nat→Prop}{N:Nat}(ad:cc c w a σ S N fr H)(h t n:Nat){o:bl}(L:Fr)(aV:H[h]? =some (some o))(fa:eZ o.c)(au:look t fr=some (.aC h 0 n))(aI:n≤o.c.len)(cH:jb fr L):
 ∃ca,cc c w a σ ca N ((t,.ro o.c 0 n)::L) (H.set h none):=by
 have bD:h<H.length:=(hi.1 aV).1;refine ad.freeze (List.replicate h none++[some o]) (H.set h none) (acw aV) (aoG fa) bX ?_ ⟨⟨_,au,.inr (.inr ⟨?_,?_⟩)⟩,O6 cH⟩
 ·intro aS o' ah;have cd:aS≠h:=by rintro rfl;rw [oH bD] at ah;cases ah
  rw [lV (q3 cd)] at ah;refine ⟨fun o2 ab=> ?_,o',ah,I,I,I,fun i j _ _=> .inl I⟩;rcases gz aS h with q|q
  ·rw [hQ (by simpa using q)] at ab;simp [oM,q] at ab
  ·rw [kG (by simp;omega)] at ab;cases ab
 ·simp only [ak.kL,YU]
 ·intro o2 ab;rw [YU] at ab;cases ab;omega
theorem sM {all:Array Oper}{rest:List Oper}(h t n:Nat){o:bl}(L:Fr)(aV:H[h]? =some (some o))(fa:eZ o.c)(au:look t fr=some (.aC h 0 n))(aI:n≤o.c.len)(cH:jb fr L)(an:aj P fn c (.ops false all rest k) ((t,.ro o.c 0 n)::L) (H.set h none)):aj P fn c (.ops false all rest k) fr H:=by intro hd w a σ S ad;obtain ⟨ca,fV⟩:=ad.RC h t n L aV fa au aI cH;exact an hd w a σ ca fV
theorem kv {x:Code}(h t n:Nat){o:bl}(L:Fr)(aV:H[h]? =some (some o))(fa:eZ o.c)(au:look t fr=some (.aC h 0 n))(aI:n≤o.c.len)(cH:jb fr L)(an:aj P fn c (.code x k) ((t,.ro o.c 0 n)::L) (H.set h none)):aj P fn c (.code x k) fr H:=by intro w a σ S ad;obtain ⟨ca,fV⟩:=ad.RC h t n L aV fa au aI cH;exact an w a σ ca fV
theorem dw {q:Bool}{all:Array Oper}{rest:List Oper}(bK:aZ)(he:H=bK)(an:aj P fn c (.ops q all rest k) fr bK):aj P fn c (.ops q all rest k) fr H:=by subst he;exact an
variable {ind:Bool}{d:Option Nat}{ty:TypeId}{pos:String}{after:Array Edge}{g:Option (Nat×Bool)}
theorem Uq {op:BinOp}{t:TypeId}{x y:Operand}{a b:Bool}{w:World}:(eqGuard op t x y (.bool a) (.bool b)).run P w= .ok () w:=by have bZ:= ‹bA›;unfold eqGuard;split<;>rfl
theorem Oy {x y:Operand}{t cF:TypeId}{a b:Bool}(bu:P.underlying t=some .bool)(ar:bG fr x=some (.bool a))(a1:bG fr y=some (.bool b)):b1 ind P fn c fr H ⟨d,.binOp .neq t x y cF,ty,pos,after,g⟩ (.bool (!(a==b))):=by intro w ac σ S ad;refine ⟨_,.bool _ _,fun w' _=> ?_⟩;have U:=ad.BA ar;have ab:=ad.BA a1;have ay:=run_neq_bool (P:=P) w' t a b bu;simp [execOp,U,ab,Uq,ay];try (cases a<;>cases b<;>rfl)
theorem PI {x y:Operand}{t cF:TypeId}{a b:Bool}(bu:P.underlying t=some .bool)(ar:bG fr x=some (.bool a))(a1:bG fr y=some (.bool b)):b1 ind P fn c fr H ⟨d,.binOp .eql t x y cF,ty,pos,after,g⟩ (.bool (a==b)):=by intro w ac σ S ad;refine ⟨_,.bool _ _,fun w' _=> ?_⟩;have U:=ad.BA ar;have ab:=ad.BA a1;have ay:=run_eql_bool (P:=P) w' t a b bu;simp [execOp,U,ab,Uq,ay]
theorem Y4 {x y:Operand}{t cF:TypeId}{ey fJ:IntKind}{m s M:Nat}(ar:bG fr x=some (.int ey (m:Nat)))(a1:bG fr y=some (.int fJ (s:Nat)))(al:s≤ey.bits)(an:nX ey M):
 b1 ind P fn c fr H ⟨d,.binOp .shl t x y cF,ty,pos,after,g⟩ (.int ey (m*2^s%M:Nat)):=by refine (TL ar a1 J).res (congrArg (ak.int ey) ?_);unfold IB;rw [cg,hY al];have:((m:Int)*2^s)=((m*2^s:Nat):Int):=bX;rw [this];exact an.low _
end
end Go.aj
namespace Go.aj
variable [bA]
open Go.RowKit
theorem IL {fr:Fr}: ∀{K:Fr},(∀p∈K,look p.1 fr=some p.2)→jb fr K
 |[],_=>have bZ:= ‹bA›;trivial
 |(t,v)::r,h=>⟨h (t,v) bX,IL (fun p aF=>h p (by simp [aF]))⟩
theorem IM {fr:Fr}: ∀{K:Fr},jb fr K→ ∀p∈K,look p.1 fr=some p.2
 |[],_,p,aF=>have bZ:= ‹bA›;by simp at aF
 |(t,v)::r,h,p,aF=>by
  rcases fS.1 aF with rfl|aF
  ·exact h.1
  ·exact IM h.2 p aF
theorem JZ {fr K:Fr}(h:jb fr K){o:Operand}{v:ak}(he:bG K o=some v):bG fr o=some v:=by
 have bZ:= ‹bA›;cases o with
 |tmp t=>exact Fz h he
 |const x=>exact he
 | «global» g=>cases he
 |func f=>exact he
theorem OQ {fr K:Fr}(h:jb fr K): ∀{xs:List Operand} {l:List ak},lD K xs=some l→lD fr xs=some l
 |[],l,he=>have bZ:= ‹bA›;he
 |x::r,l,he=>by
  simp only [lD] at he⊢;split at he
  ·rename_i v ai;split at he
   ·rename_i q aB;rw [JZ h ai,OQ h aB];exact he
   ·cases he
  ·cases he
section
variable {P:Program}{fn:Func}{c:Ctx}{fr:Fr}{H:aZ}{k:List eF}
def hc (P:Program)(fn:Func)(c:Ctx)(H:aZ)(all:Array Oper)(K:Fr)(o:Oper)(d:Nat)(v:ak):Prop:=
 ∀(k:List eF) (fr:Fr),jb fr K→aj P fn c (.ops false all [] k) ((d,v)::fr) H→aj P fn c (.ops false all [o] k) fr H
theorem TF {all:Array Oper}{K:Fr}{d:Nat}{op:Op}{ty:TypeId}{pos:String}{after:Array Edge}{v:ak}(h:b1 false P fn c K H ⟨some d,op,ty,pos,after,none⟩ v):hc P fn c H all K ⟨some d,op,ty,pos,after,none⟩ d v:=
 fun k fr an ab=>ao (fun w a σ S ad=>h w a σ S (ad.weaken an)) ab
theorem aih {all:Array Oper}{K:Fr}{d:Nat}{g:Operand}{args:List Operand}{iJ:Array TypeId}{ty:TypeId}{pos:String}{after:Array Edge}{f:FuncId}{cw eh hh:List ak}{r:ak}(c2:bG K g=some (.fn f cw))(a8:lD K args=some eh)(has:eh++cw=hh)(lY:bs P f hh r):
 hc P fn c H all K ⟨some d,.call {callee:= .value g,args:=args.toArray,argTypes:=iJ},ty,pos,after,none⟩ d r:=
 fun k fr an ab=>aO (JZ an c2) (OQ an a8) has lY ab
theorem apf {all:Array Oper}{K:Fr}{d:Nat}{op:Op}{ty:TypeId}{pos:String}{after:Array Edge}{v:ak}{j t:Nat}{p:Bool}(a1:qW all j=some t)(al:look t K=some (.bool p))(h:hc P fn c H all K ⟨some d,op,ty,pos,after,none⟩ d v):hc P fn c H all K ⟨some d,op,ty,pos,after,some (j,p)⟩ d v:=
 fun k fr an ab=>kR a1 (Fz an al) (h k fr an ab)
theorem aif {all:Array Oper}{K:Fr}{d:Nat}{op:Op}{ty:TypeId}{pos:String}{after:Array Edge}{j t:Nat}{p b:Bool}(a1:qW all j=some t)(al:look t K=some (.bool b))(cd:(b==p)=false):hc P fn c H all K ⟨some d,op,ty,pos,after,some (j,p)⟩ d (.cn []):=
 fun k fr an ab=>sI a1 (Fz an al) cd ab
theorem ape {all:Array Oper}{K:Fr}{d:Nat}{op:Op}{ty:TypeId}{pos:String}{after:Array Edge}{j t:Nat}{p:Bool}(a1:qW all j=some t)(al:look t K=some (.cn [])):hc P fn c H all K ⟨some d,op,ty,pos,after,some (j,p)⟩ d (.cn []):=
 fun k fr an ab=>NI a1 (Fz an al) ab
abbrev Steps:=List (Nat×Nat×ak)
def ug (st:Steps)(eV:Fr)(o:Oper):Fr:=((st.filter (fun s=>o.after.toList.any (fun e=>Nat.beq e.on s.1 && Region.binds .any e))).map (fun s=>s.2))++eV
def mF (P:Program)(fn:Func)(c:Ctx)(H:aZ)(all:Array Oper)(eV:Fr):List Nat→Steps→(Steps→Prop)→Prop
 |[],st,G=>G st
 |i::r,st,G=> ∃o d v,all[i]? =some o∧o.dst=some d∧hc P fn c H all (ug st eV o) o d v∧mF P fn c H all eV r ((i,d,v)::st) G
theorem Ko {all:Array Oper}{eV:Fr}{i:Nat}{r:List Nat}{st:Steps}{G:Steps→Prop}{d:Nat}{op:Op}{ty:TypeId}{pos:String}{after:Array Edge}{v:ak}(aa:all[i]? =some ⟨some d,op,ty,pos,after,none⟩)(qv:hc P fn c H all (ug st eV ⟨some d,op,ty,pos,after,none⟩) ⟨some d,op,ty,pos,after,none⟩ d v)(h:mF P fn c H all eV r ((i,d,v)::st) G):mF P fn c H all eV (i::r) st G:=
 ⟨_,_,_,aa,rfl,qv,h⟩
theorem bU {all:Array Oper}{eV:Fr}{i:Nat}{r:List Nat}{st:Steps}{G:Steps→Prop}{d:Nat}{op:Op}{ty:TypeId}{pos:String}{after:Array Edge}{v:ak}{K:Fr}(aa:all[i]? =some ⟨some d,op,ty,pos,after,none⟩)(dH:ug st eV ⟨some d,op,ty,pos,after,none⟩=K)(qv:b1 false P fn c K H ⟨some d,op,ty,pos,after,none⟩ v)(h:mF P fn c H all eV r ((i,d,v)::st) G):mF P fn c H all eV (i::r) st G:=
 Ko aa (dH▸TF qv) h
theorem dW {all:Array Oper}{eV:Fr}{i:Nat}{r:List Nat}{st:Steps}{G:Steps→Prop}{d:Nat}{g:Operand}{args:List Operand}{iJ:Array TypeId}{ty:TypeId}{pos:String}{after:Array Edge}{f:FuncId}{cw eh hh:List ak}{v:ak}{K:Fr}(aa:all[i]? =some ⟨some d,.call {callee:= .value g,args:=args.toArray,argTypes:=iJ},ty,pos,after,none⟩)(dH:ug st eV ⟨some d,.call {callee:= .value g,args:=args.toArray,argTypes:=iJ},ty,pos,after,none⟩=K)(c2:bG K g=some (.fn f cw))(a8:lD K args=some eh)(has:eh++cw=hh)(lY:bs P f hh v)(h:mF P fn c H all eV r ((i,d,v)::st) G):mF P fn c H all eV (i::r) st G:=
 Ko aa (dH▸aih c2 a8 has lY) h
theorem iF {all:Array Oper}{eV:Fr}{i:Nat}{r:List Nat}{st:Steps}{G:Steps→Prop}{d:Nat}{op:Op}{ty:TypeId}{pos:String}{after:Array Edge}{v:ak}{K:Fr}{j t:Nat}{p:Bool}(aa:all[i]? =some ⟨some d,op,ty,pos,after,some (j,p)⟩)(dH:ug st eV ⟨some d,op,ty,pos,after,some (j,p)⟩=K)(a1:qW all j=some t)(al:look t K=some (.bool p))(qv:b1 false P fn c K H ⟨some d,op,ty,pos,after,none⟩ v)(h:mF P fn c H all eV r ((i,d,v)::st) G):mF P fn c H all eV (i::r) st G:=
 ⟨_,_,_,aa,rfl,dH▸apf a1 al (TF qv),h⟩
theorem jK {all:Array Oper}{eV:Fr}{i:Nat}{r:List Nat}{st:Steps}{G:Steps→Prop}{d:Nat}{op:Op}{ty:TypeId}{pos:String}{after:Array Edge}{K:Fr}{j t:Nat}{p b:Bool}(aa:all[i]? =some ⟨some d,op,ty,pos,after,some (j,p)⟩)(dH:ug st eV ⟨some d,op,ty,pos,after,some (j,p)⟩=K)(a1:qW all j=some t)(al:look t K=some (.bool b))(cd:(b==p)=false)(h:mF P fn c H all eV r ((i,d,.cn [])::st) G):mF P fn c H all eV (i::r) st G:=
 ⟨_,_,_,aa,rfl,dH▸aif a1 al cd,h⟩
theorem pZ {all:Array Oper}{eV:Fr}{i:Nat}{r:List Nat}{st:Steps}{G:Steps→Prop}{d:Nat}{op:Op}{ty:TypeId}{pos:String}{after:Array Edge}{K:Fr}{j t:Nat}{p:Bool}(aa:all[i]? =some ⟨some d,op,ty,pos,after,some (j,p)⟩)(dH:ug st eV ⟨some d,op,ty,pos,after,some (j,p)⟩=K)(a1:qW all j=some t)(al:look t K=some (.cn []))(h:mF P fn c H all eV r ((i,d,.cn [])::st) G):mF P fn c H all eV (i::r) st G:=
 ⟨_,_,_,aa,rfl,dH▸ape a1 al,h⟩
theorem eI {all:Array Oper}{eV:Fr}{st:Steps}{G:Steps→Prop}(h:G st):mF P fn c H all eV [] st G:=h
def Dq (P:Program)(fn:Func)(c:Ctx)(H:aZ)(all:Array Oper)(eV:Fr)(st:Steps)(s:Nat×Nat×ak):Prop:=
 ∃o K,all[s.1]? =some o∧o.dst=some s.2.1∧hc P fn c H all K o s.2.1 s.2.2∧ ∀p∈K,p∈eV∨ ∃cy∈st,(∃e∈o.after,Region.binds .any e=true∧e.on=cy.1)∧cy.2=p
theorem Dq.mono {all:Array Oper}{eV:Fr}{st wL:Steps}{s:Nat×Nat×ak}(av: ∀x∈st,x∈wL)(h:Dq P fn c H all eV st s):Dq P fn c H all eV wL s:=by
 obtain ⟨o,K,U,ab,ay,bf⟩:=h;refine ⟨o,K,U,ab,ay,fun p aF=> ?_⟩;rcases bf p aF with q|⟨cy,bS,bY⟩
 ·exact .inl q
 ·exact .inr ⟨cy,av _ bS,bY⟩
theorem Ur {all:Array Oper}{eV:Fr}{G:Steps→Prop}: ∀{idx:List Nat} {st:Steps},mF P fn c H all eV idx st G→(∀s∈st,Dq P fn c H all eV st s)→ ∃wL,G wL∧wL.map (·.1)=idx.reverse++st.map (·.1)∧(∀s∈wL,Dq P fn c H all eV wL s)
 |[],st,h,av=>⟨st,h,bX,av⟩
 |i::r,st,h,av=>by
  obtain ⟨o,d,v,U,ab,ay,bf⟩:=h;have iW: ∀x∈st,x∈(i,d,v)::st:=fun x ar=>vP _ ar;have z7:Dq P fn c H all eV ((i,d,v)::st) (i,d,v):=by
   refine ⟨o,ug st eV o,U,ab,ay,fun p aF=> ?_⟩;unfold ug at aF;rcases gM.1 aF with q|q
   ·obtain ⟨s,bS,bY⟩:=cO.1 q;obtain ⟨db,dP⟩:=vQ.1 bS;obtain ⟨e,gZ,iY⟩:=sc.1 dP;rw [eb] at iY;exact .inr ⟨s,iW _ db,⟨e,Bo.1 gZ,iY.2,pC iY.1⟩,bY⟩
   ·exact .inl q
  obtain ⟨wL,g1,g2,g3⟩:=Ur bf (fun s gY=>by
   rcases fS.1 gY with rfl|q
   ·exact z7
   ·exact (av s q).mono iW)
  exact ⟨wL,g1,by rw [g2];simp,g3⟩
theorem UR {all:Array Oper}{fuel:Nat}{listed:Array Bool}: ∀{is:List Nat},(∀i∈is,∀o,all[i]? =some o→aj P fn c (.ops false all [o] (.any all fuel (listed.setIfInBounds i true)::k)) fr H)→GM P fn c all fuel listed k fr H is
 |[],_=>trivial
 |i::r,h=>⟨h i bX,UR (fun j ae=>h j (by simp [ae]))⟩
def AM (listed:Array Bool)(idx:List Nat):Array Bool:=idx.foldl (fun a i=>a.setIfInBounds i true) listed
theorem Uo: ∀(idx:List Nat) (listed:Array Bool),(AM listed idx).size=listed.size
 |[],_=>have bZ:= ‹bA›;rfl
 |i::r,listed=>by have:=Uo r (listed.setIfInBounds i true);simpa [AM] using this
theorem Up: ∀(idx:List Nat) (listed:Array Bool) (j:Nat),j<listed.size→(AM listed idx)[j]? =if j∈idx then some true else listed[j]?
 |[],_,j,_=>have bZ:= ‹bA›;by simp [AM]
 |i::r,listed,j,ae=>by
  have h:=Up r (listed.setIfInBounds i true) j (by simpa using ae);have e:AM listed (i::r)=AM (listed.setIfInBounds i true) r:=rfl;rw [e,h];by_cases U:j∈r
  ·simp [U]
  ·by_cases ab:i=j
   ·subst ab;simp [U,ae]
   ·have ay: ¬j=i:=fun e=>ab e.symm;simp [U,ab,ay,Bh]
def Fg (cur:Array Bool)(st:Steps):Nat:=(st.filter (fun s=> !cur.getD s.1 true)).length
variable {ind:Bool}{d:Option Nat}{ty:TypeId}{pos:String}{after:Array Edge}{g:Option (Nat×Bool)}
theorem IN {x:Operand}{t:TypeId}{u:TypeDesc}{h i j:Nat}{bg:bl}{inf:TypeInfo}{L:List ak}(bu:P.underlying t=some u)(hu:jn u=true)(iO:P.info? t=some inf)(cz:Nat.ble (j+inf.size) bg.c.aD=true)(ar:bG fr x=some (.ptr h i j))(aV:H[h]? =some (some bg))(cH:(List.range inf.size).map (fun e=>bg.c.at i (j+e))=L)(aa:i<bg.c.len):b1 false P fn c fr H ⟨d,.load t x,ty,pos,after,g⟩ (.agg L):=by
 intro w a σ S ad;have U:=ad.dL ar;subst cH;have afw:=iv cz;generalize bw:a.eval x=z at U;cases U with
 |ptr _ _ _ _ b s C bJ=>
  obtain ⟨gY,cur,g1,g2,g3,g4,g5,g6⟩:=ad.obj aV bJ;subst gY;have oa: ∀w':World,w'.heap=w.heap→ ∀e,e<inf.size→ ∃y,w'.cell? ⟨b,i*bg.c.aD+j+e,none⟩=some y∧bz w S σ (bg.c.at i (j+e)) y∧y.oneCell'=true:=by intro w' hw e he;obtain ⟨y,aH,aJ,bR⟩:=g6 i (j+e) aa J;obtain ⟨mk,g1,_,_⟩:=g1.cells J;exact ⟨y,by simp [World.cell?,hw,g1,ju,aH],aJ,bR⟩
  let cs:List Value:=(List.range inf.size).map (fun e=>(w.cell? ⟨b,i*bg.c.aD+j+e,none⟩).getD undef)
  refine ⟨.agg cs.toArray,.agg _ _ _ (by simp [cs]) (fun e he=> ?_) (fun e he=> ?_),fun w' hw=> ?_⟩
  ·have Ev:e<inf.size:=by simpa using he
   obtain ⟨y,aH,aJ,_⟩:=oa w rfl e Ev;simpa [cs,Array.getD,Ev,aH,List.getD] using aJ
  ·have Ev:e<inf.size:=by simpa using he
   obtain ⟨y,aH,_,bR⟩:=oa w rfl e Ev;simpa [cs,Array.getD,Ev,aH] using bR
  ·have hw:=hw.resolve_left aT;have au:=run_loadCells_list (P:=P) w' ⟨b,i*bg.c.aD+j,none⟩ cs (fun e v ai=>by
    have he:e<inf.size:=by simpa [cs] using (hi.1 ai).1
    obtain ⟨y,aH,_,_⟩:=oa w rfl e he;simp only [cs,ly,vM he,ta,dC] at ai;subst ai;rw [aH,Addr.add_lit];have:=World.cell?_of_block (w:=w) (w':=w') (a:=⟨b,i*bg.c.aD+j+e,none⟩) (by rw [hw]);rw [this,aH];rfl)
   have hn:cs.length=inf.size:=by simp [cs]
   rw [hn] at au;have MO:a.eval x= .pointer (some ⟨b,i*bg.c.aD+j,none⟩):=by rw [bw]
   simp [execOp,MO,Instr.loadAt,Instr.sureAddr,loadVar,yH bu,hu,sizeOf,typeInfo,iO,au]
end
end Go.aj
namespace Go.aj
variable [bA]
open Go.RowKit
section
variable {ind:Bool}{P:Program}{fn:Func}{c:Ctx}{fr:Fr}{H:aZ}{k:List eF}
variable {d:Option Nat}{ty:TypeId}{pos:String}{after:Array Edge}{g:Option (Nat×Bool)}
theorem alH {all:Array Oper}{t:TypeId}{x y:Operand}{ty:TypeId}{pos:String}{after:Array Edge}{rest:List Oper}{h i j s:Nat}{bg:bl}{L:List ak}{c':Cells}(ar:bG fr x=some (.ptr h i j))(a1:bG fr y=some (.agg L))(av:(P.info? t).map (·.size)=some s)(aV:H[h]? =some (some bg))(au:L.length=s)(ae:j+s≤bg.c.aD)(aa:i<bg.c.len)(U:c'.len=bg.c.len)(ab:c'.aD=bg.c.aD)(ay: ∀aG a7,aG<bg.c.len→a7<bg.c.aD→c'.at aG a7=if aG=i∧j≤a7∧a7<j+s then L.getD (a7-j) .any else bg.c.at aG a7)(an:aj P fn c (.ops false all rest k) fr (H.set h (some ⟨bg.ty,c'⟩)))(oe:bg.c.aD≠0:=by (intro aV;cases aV)):aj P fn c (.ops false all (⟨none,.store t x y,ty,pos,after,none⟩::rest) k) fr H:=by
 refine GD (fun w a σ S ad=> ?_) an;have aH:=ad.dL ar;have aJ:=ad.dL a1;generalize bw:a.eval x=z at aH;generalize mu:a.eval y=u at aJ;cases aJ with
 |agg _ _ vs tB iy z8=>
  cases aH with
  |ptr _ _ _ _ b cy C bJ=>
   obtain ⟨gY,cur,g1,g2,g3,g4,g5,g6⟩:=ad.obj aV bJ;subst gY;obtain ⟨mk,g1,lF,jB⟩:=g1.cells oe;have su:i*bg.c.aD+bg.c.aD≤cur.size:=by rw [g2];have:(i+1)*bg.c.aD≤C*bg.c.aD:=er _ J;rw [dK] at this;omega
   have rl:vs.size=s:=by rw [tB,au]
   have dS:=Fm P b (i*bg.c.aD+j) bg.ty mk vs.toList 0 cur w g1 lF (by simp [rl];omega) (fun v ai=>by
    obtain ⟨j,ae,rfl⟩:=k3 ai;have bd:j<vs.size:=by simpa using ae
    have:=z8 j (by rw [←tB];exact bd);simpa [Array.getD,bd] using this)
   simp only [e6] at dS;generalize jf:(cur.toList.take (i*bg.c.aD+j)++vs.toList++cur.toList.drop (i*bg.c.aD+j+vs.toList.length)).toArray=cur' at dS;have Me:cur'.size=cur.size:=by rw [←jf];simp [rl];omega
   have hB: ∀p,p<cur.size→cur'[p]? =if i*bg.c.aD+j≤p∧p<i*bg.c.aD+j+s then vs[p-(i*bg.c.aD+j)]? else cur[p]? :=by
    intro p aF;rw [←jf];simp only [xt,lz];by_cases dk:p<i*bg.c.aD+j
    ·rw [hQ (by simp;omega),py,aA dk,ax J];simp
    ·rw [ib (by simp;omega)];have bu:(cur.toList.take (i*bg.c.aD+j)).length=i*bg.c.aD+j:=by simp;omega
     rw [bu];by_cases dO:p<i*bg.c.aD+j+s
     ·rw [hQ (by simp [rl];omega),aA ⟨J,dO⟩];simp
     ·rw [ib (by simp [rl];omega),ax J];simp only [Array.length_toList,rl,Bk,Array.getElem?_toList];congr 1;omega
   refine ⟨w.setRow b cur',σ,S,?_,ad.setRow aV bJ jB ab J (by rw [Me,g2]) (fun aG a7 aL bd=> ?_)⟩
   ·simp only [execOp,bw,mu,Instr.storeAt,Instr.sureAddr,storeVar,Sem.run_bind,Sem.run_pure,Result.andThen_ok,AN av,Value.cells,rl];simp [dS]
   ·rw [U] at aL;rw [ab] at bd⊢;rw [ay aG a7 aL bd];have aF:aG*bg.c.aD+a7<cur.size:=by rw [g2];have:(aG+1)*bg.c.aD≤C*bg.c.aD:=er _ J;rw [dK] at this;omega
    rw [hB _ aF];by_cases he:aG=i∧j≤a7∧a7<j+s
    ·obtain ⟨he,bS,bY⟩:=he;subst he;rw [aA (show aG*bg.c.aD+j≤aG*bg.c.aD+a7∧aG*bg.c.aD+a7<aG*bg.c.aD+j+s from ⟨J,J⟩),aA ⟨rfl,bS,bY⟩];have L9:a7-j<vs.size:=J;have bR:aG*bg.c.aD+a7-(aG*bg.c.aD+j)=a7-j:=J;rw [bR];refine ⟨vs.getD (a7-j) undef,by simp [Array.getD,L9],iy (a7-j) J,z8 (a7-j) J⟩
    ·rw [ax he];have cd: ¬(i*bg.c.aD+j≤aG*bg.c.aD+a7∧aG*bg.c.aD+a7<i*bg.c.aD+j+s):=by
      rintro ⟨bS,bY⟩;by_cases wi:aG=i
      ·subst wi;exact he ⟨rfl,J,J⟩
      rcases Nat.lt_or_gt_of_ne wi with bD|bD
      ·have:(aG+1)*bg.c.aD≤i*bg.c.aD:=er _ bD;rw [dK] at this;omega
      ·have:(i+1)*bg.c.aD≤aG*bg.c.aD:=er _ bD;rw [dK] at this;omega
     rw [ax cd];exact g6 aG a7 aL bd
def gk {α:Type}(t:TypeId)(f:α→Cells)(l:List α):aZ:=l.map (fun a=>some ⟨t,f a⟩)
theorem vg {α:Type}(t:TypeId)(f:α→Cells)(l:List α):(gk t f l).length=l.length:=by have bZ:= ‹bA›;simp [gk]
theorem Wv {α:Type}(t:TypeId)(f:α→Cells)(l:List α)(d:α){i:Nat}(aa:i<l.length):(gk t f l)[i]? =some (some ⟨t,f (l.getD i d)⟩):=by have bZ:= ‹bA›;simp [gk,List.getD,aa]
theorem Ww {α:Type}(t:TypeId)(f:α→Cells)(l:List α)(i:Nat)(x:α):(gk t f l).set i (some ⟨t,f x⟩)=gk t f (l.set i x):=by have bZ:= ‹bA›;simp [gk,List.map_set]
theorem VA {α:Type}(t:TypeId)(f:α→Cells)(l:List α)(x:α):gk t f l++[some ⟨t,f x⟩]=gk t f (l++[x]):=by have bZ:= ‹bA›;simp [gk]
theorem Xd {A B:aZ}{h:Nat}(aV:h<A.length):(A++B)[h]? =A[h]? :=by have bZ:= ‹bA›;exact hQ aV
theorem tU {A B:aZ}{h i:Nat}(aV:h=A.length+i):(A++B)[h]? =B[i]? :=by have bZ:= ‹bA›;subst aV;rw [ib J];congr 1;omega
theorem pX {A B:aZ}{h i:Nat}(x:Option bl)(aV:h=A.length+i):(A++B).set h x=A++B.set i x:=by have bZ:= ‹bA›;subst aV;rw [Bp _ _ J];congr 2;omega
theorem WX {A B:aZ}{h:Nat}(x:Option bl)(aV:h<A.length):(A++B).set h x=A.set h x++B:=by have bZ:= ‹bA›;rw [List.set_append_left _ _ aV]
end
end Go.aj
namespace Go.aj
variable [bA]
open Go.RowKit
mutual
def ak.shift (N:Nat):ak→ak
 | .aC h i n=> .aC (h+N) i n
 | .ptr h i j=> .ptr (h+N) i j
 | .fn f l=> .fn f (ak.rr N l)
 | .agg l=> .agg (ak.rr N l)
 | .cn l=> .cn (ak.rr N l)
 | .mp h=> .mp (h+N)
 |v=>v
def ak.rr (N:Nat):List ak→List ak
 |[]=>[]
 |v::r=>v.shift N::ak.rr N r
end
theorem sG (N:Nat)(l:List ak):(ak.rr N l).length=l.length:=by
 have bZ:= ‹bA›;induction l with
 |nil=>rfl
 |cons v r ba=>simp [ak.rr,ba]
theorem Cv (N:Nat)(l:List ak)(i:Nat)(aa:i<l.length):(ak.rr N l).getD i .any=(l.getD i .any).shift N:=by
 have bZ:= ‹bA›;induction l generalizing i with
 |nil=>simp at aa
 |cons v r ba=>cases i with
  |zero=>rfl
  |succ i=>simpa [ak.rr] using ba i (by simpa using aa)
theorem bz.shift {w:World}{S:Nat→Prop}{σ:Nat→Option bQ}{x:ak}{v:Value}{N:Nat}(ai:bz w S σ x v): ∀bC:Nat→Option bQ,(∀h B,σ h=some B→bC (h+N)=some B)→bz w S bC (x.shift N) v:=by
 induction ai with
 |int=>intros;constructor
 |bool=>intros;constructor
 |str=>intros;constructor
 |nil=>intros;constructor
 |kq=>intros;constructor
 |ro σ c i len b o cap val e9 hlen aw ai U ba=>intro bC _;exact .ro _ _ _ _ _ _ _ val e9 hlen aw ai U
 |aC σ aS i len b s C cap bJ hlen jX=>intro bC av;exact .aC _ _ _ _ _ _ _ _ (av _ _ bJ) hlen jX
 |ih σ aS bJ=>intro bC av;exact .ih _ _ (av _ _ bJ)
 |cK σ c i j b o val e9 aw ai U ba=>intro bC _;exact .cK _ _ _ _ _ _ val e9 aw ai U
 |ptr σ aS i j b s C bJ=>intro bC av;exact .ptr _ _ _ _ _ _ _ (av _ _ bJ)
 |pP=>intros;constructor
 |fn σ f cap vs au ai ba=>intro bC av;exact .fn _ _ _ _ (by rw [sG];exact au) (fun i aa=>by rw [sG] at aa;rw [Cv N cap i aa];exact ba i aa bC av)
 |pO=>intros;constructor
 |iface=>intros;constructor
 |oh=>intros;constructor
 |agg σ l vs au ai U ba=>intro bC av;exact .agg _ _ _ (by rw [sG];exact au) (fun i aa=>by rw [sG] at aa;rw [Cv N l i aa];exact ba i aa bC av) (fun i aa=>U i (by rwa [sG] at aa))
 |cn σ l vs au ai ba=>intro bC av;exact .cn _ _ _ (by rw [sG];exact au) (fun i aa=>by rw [sG] at aa;rw [Cv N l i aa];exact ba i aa bC av)
 |mp σ aS b bJ=>intro bC av;exact .mp _ _ _ (av _ _ bJ)
 |hr σ ks vs b es clock e e9 al aI au hd he an ai=>intro bC av;exact .hr _ _ _ b es clock e e9 al aI au hd he an ai
 |any=>intros;constructor
def Cells.shift (N:Nat):Cells→Cells
 | .ints k l=> .ints k l
 | .strs l=> .strs l
 | .box l=> .box (ak.rr N l)
 | .mp ks vs=> .mp (ak.rr N ks) (ak.rr N vs)
 | .fn n s f=> .fn n s (fun i j=>(f i j).shift N)
theorem Cells.Nn (N:Nat)(c:Cells):(c.shift N).len=c.len:=by have bZ:= ‹bA›;cases c<;>rfl
theorem Cells.No (N:Nat)(c:Cells):(c.shift N).aD=c.aD:=by cases c<;>first|rfl|exact sG _ _
theorem Cells.ajO (N:Nat)(c:Cells)(i j:Nat)(ae:j<c.aD):(c.shift N).at i j=(c.at i j).shift N:=by
 cases c with
 |box l=>exact Cv N l j ae
 |_=>rfl
def Gy (N:Nat):Option bl→Option bl
 |some o=>some ⟨o.ty,o.c.shift N⟩
 |none=>none
def pb (N:Nat):aZ→aZ
 |[]=>[]
 |o::r=>Gy N o::pb N r
theorem VJ (N:Nat)(H:aZ)(i:Nat):(pb N H)[i]? =(H[i]?).map (Gy N):=by
 have bZ:= ‹bA›;induction H generalizing i with
 |nil=>simp [pb]
 |cons o r ba=>cases i with
  |zero=>simp [pb]
  |succ i=>simpa [pb] using ba i
theorem alC (N:Nat)(H:aZ):(pb N H).length=H.length:=by
 have bZ:= ‹bA›;induction H with
 |nil=>rfl
 |cons o r ba=>simp [pb,ba]
theorem Lays.shift {w:World}{S:Nat→Prop}{σ bC:Nat→Option bQ}{t:TypeId}{c:Cells}{b:Nat}{cur:Array Value}{C:Nat}{N:Nat}(av: ∀h B,σ h=some B→bC (h+N)=some B)(cH:Lays w S σ ⟨t,c⟩ b cur C):Lays w S bC ⟨t,c.shift N⟩ b cur C:=by
 have bZ:= ‹bA›;cases cH with
 |row mk h hm ed=>exact .row mk h hm ed
 |map ks vs es clock aw ed h aI au hd he=>
  simp only at aw;subst aw;exact .map _ _ es clock I ed h (by rw [sG];exact aI) (by rw [sG,sG];exact au) hd (fun i aa=>by
   rw [sG] at aa;obtain ⟨e,aH,aJ,bR⟩:=he i aa;exact ⟨e,aH,by rw [Cv _ _ _ aa];exact aJ.shift bC av,by rw [Cv _ _ _ J];exact bR.shift bC av⟩)
def ph (N:Nat)(σ qd:Nat→Option bQ)(h:Nat):Option bQ:=if h<N then σ h else qd (h-N)
theorem Ob {N:Nat}{σ qd:Nat→Option bQ}: ∀h B,qd h=some B→ph N σ qd (h+N)=some B:=by have bZ:= ‹bA›;intro h B ck;unfold ph;rw [ax J,Nat.add_sub_cancel];exact ck
theorem lT.join {w:World}{S:Nat→Prop}{σ qd:Nat→Option bQ}{H b5:aZ}(h:lT w S σ H)(aU:lT w S qd b5)(hd: ∀h aS o o' b s C cy cL,H[h]? =some (some o)→b5[aS]? =some (some o')→σ h=some (.at b s C)→qd aS=some (.at b cy cL)→False):
 lT w S (ph H.length σ qd) (H++pb H.length b5):=by
 have HD: ∀h B,σ h=some B→ph H.length σ qd h=some B:=by
  intro aS B ck;unfold ph;split
  ·exact ck
  ·rename_i au;rw [h.ie aS J] at ck;cases ck
 have LO: ∀aS o',(H++pb H.length b5)[aS]? =some (some o')→(aS<H.length∧H[aS]? =some (some o'))∨(H.length≤aS∧ ∃o,b5[aS-H.length]? =some (some o)∧o'=⟨o.ty,o.c.shift H.length⟩):=by
  intro aS o' ah;by_cases he:aS<H.length
  ·rw [hQ he] at ah;exact .inl ⟨he,ah⟩
  ·rw [ib J,VJ] at ah;cases e:b5[aS-H.length]? with
   |none=>rw [e] at ah;cases ah
   |some x=>
    rw [e] at ah;cases x with
    |none=>simp [Gy] at ah
    |some o=>simp [Gy] at ah;exact .inr ⟨J,o,rfl,ah.symm⟩
 refine ⟨fun aS o' ah=> ?_,fun U ab o1 o2 b s C cy cL bS bY aH aJ=> ?_,h.small,fun aS au=> ?_⟩
 ·rcases LO aS o' ah with ⟨au,cP⟩|⟨au,o,cP,rfl⟩
  ·rcases h.live aS o' cP with ⟨U,ab⟩|⟨b,C,cur,U,ab,ay,bf,bL,dz,fx⟩
   ·exact .inl ⟨HD _ _ U,ab⟩
   ·refine .inr ⟨b,C,cur,HD _ _ U,ab.mono I (fun ai=>ai.mono (fun _ h=>h) (fun _ _=>rfl) _ HD),ay,bf,bL,dz,fun i j aa ae=> ?_⟩;obtain ⟨v,aH,aJ,bR⟩:=fx i j aa ae;exact ⟨v,aH,aJ.mono (fun _ h=>h) (fun _ _=>rfl) _ HD,bR⟩
  ·have ae:ph H.length σ qd aS=qd (aS-H.length):=by unfold ph;rw [ax J]
   rw [ae];rcases aU.live _ o cP with ⟨U,ab⟩|⟨b,C,cur,U,ab,ay,bf,bL,dz,fx⟩
   ·exact .inl ⟨U,by rw [Cells.Nn];exact ab⟩
   ·refine .inr ⟨b,C,cur,by rw [Cells.No];exact U,Lays.shift Ob ab,by rw [Cells.No];exact ay,bf,by rw [Cells.Nn];exact bL,dz,fun i j aa ae=> ?_⟩;rw [Cells.Nn] at aa;rw [Cells.No] at ae⊢;obtain ⟨v,aH,aJ,bR⟩:=fx i j aa ae;exact ⟨v,aH,by rw [Cells.ajO _ _ _ _ ae];exact aJ.shift _ Ob,bR⟩
 ·rcases LO U o1 bS with ⟨fW,h4⟩|⟨fW,hE,h4,rfl⟩<;>rcases LO ab o2 bY with ⟨fK,h5⟩|⟨fK,iQ,h5,rfl⟩
  ·unfold ph at aH aJ;rw [aA fW] at aH;rw [aA fK] at aJ;exact h.hJ U ab o1 o2 b s C cy cL h4 h5 aH aJ
  ·unfold ph at aH aJ;rw [aA fW] at aH;rw [ax J] at aJ;exact (hd _ _ _ _ _ _ _ _ _ h4 h5 aH aJ).elim
  ·unfold ph at aH aJ;rw [ax J] at aH;rw [aA fK] at aJ;exact (hd _ _ _ _ _ _ _ _ _ h5 h4 aJ aH).elim
  ·unfold ph at aH aJ;rw [ax J] at aH aJ;have:=aU.hJ _ _ hE iQ b s C cy cL h4 h5 aH aJ;omega
 ·rw [c8,alC] at au;unfold ph;rw [ax J];exact aU.ie _ J
theorem ch.lift {P:Program}{f:FuncId}{args:List ak}{fix:Nat→Prop}{K kE:ak→aZ→Prop}{H:aZ}(aw:ch P f args [] fix K)(kn: ∀h,¬fix h)(aI:cM.eM args=true)(dH: ∀(cV:ak) (b5:aZ),K cV b5→kE (cV.shift H.length) (H++pb H.length b5)):ch P f args H (fun h=>h<H.length) kE:=by
 refine ⟨aw.1,fun w σ S dD aF ad aQ ai=> ?_⟩;have xY:p7 w S (fun _=>none) []:=aF.less (fun _ h=>h) (fun _ h=>h.nil);refine (aw.2 w (fun _=>none) S dD xY ad.empty (fun h aV=>absurd aV (kn h)) (ai.closed aI _)).mono ?_;rintro e w' ⟨v,cV,bC,ca,b5,rfl,g1,g2,g3,g4⟩;obtain ⟨gy,a2⟩:=lT.after ad g1 g3;have a3:=a2 kE aF;have fU: ∀b,¬rO (fun _=>none) [] b:=by rintro b ⟨h,o,s,C,U,_⟩;simp at U
 have HP: ∀h o b s C,H[h]? =some (some o)→σ h=some (.at b s C)→b<w.heap.size:=by
  intro h o b s C ah al;rcases ad.live h o ah with ⟨aI,_⟩|⟨b',cL,cur,fq,g,_⟩
  ·rw [al] at aI;cases aI
  ·rw [al] at fq;simp only [dC,bQ.at.injEq] at fq;rw [fq.1];exact g.lt
 have ny: ∀h o b s C,b5[h]? =some (some o)→bC h=some (.at b s C)→w.heap.size≤b:=by
  intro h o b s C ah al;rcases g3.own h o b s C ah al with ay|ay
  ·exact absurd ay (fU b)
  ·exact ay
 have ae:=gy.join g1 (fun h aS o o' b s C cy cL bS bY aH aJ=>by
  have:=HP h o b s C bS aH;have:=ny aS o' b cy cL bY aJ;omega)
 refine ⟨v,_,_,ca,_,I,ae,g2.shift _ Ob,⟨a3.os,a3.output,a3.tape,a3.size,a3.block,a3.hX,a3.e5,fun h au=> ?_,fun h au=> ?_,fun h o b s C ah al=> ?_⟩,dH cV b5 g4⟩
 ·have au:h<H.length:=au;show ph H.length σ bC h=σ h;unfold ph;rw [aA au]
 ·have au:h<H.length:=au;rw [c8];omega
 ·by_cases he:h<H.length
  ·rw [hQ he] at ah;unfold ph at al;rw [aA he] at al;exact .inl ⟨h,o,s,C,ah,al⟩
  ·rw [ib J,VJ] at ah;unfold ph at al;rw [ax he] at al;cases e:b5[h-H.length]? with
   |none=>rw [e] at ah;cases ah
   |some x=>
    rw [e] at ah;cases x with
    |none=>simp [Gy] at ah
    |some o'=>exact .inr (ny _ o' b s C e al)
def GR (P:Program)(f:FuncId)(args:List ak)(r:ak)(b5:aZ):Prop:= ∀H,ch P f args H (fun h=>h<H.length) (fun dB bK=>dB=r.shift H.length∧bK=H++pb H.length b5)
theorem ch.many {P:Program}{f:FuncId}{args:List ak}{fix:Nat→Prop}{r:ak}{b5:aZ}(aw:ch P f args [] fix (fun dB bK=>dB=r∧bK=b5))(kn: ∀h,¬fix h)(aI:cM.eM args=true):GR P f args r b5:=fun H=>
 aw.lift kn aI (fun cV H1 h=>by obtain ⟨rfl,rfl⟩:=h;exact ⟨rfl,rfl⟩)
section
variable {P:Program}{fn:Func}{c:Ctx}{fr:Fr}{H:aZ}{k:List eF}{all:Array Oper}{d:Nat}{g:Operand}{args:List Operand}{iJ:Array TypeId}{ty:TypeId}{pos:String}{after:Array Edge}{rest:List Oper}{f:FuncId}
theorem JR {cw eh hh:List ak}{r:ak}{b5:aZ}(dB:ak)(bK:aZ)(c2:bG fr g=some (.fn f cw))(a8:lD fr args=some eh)(has:eh++cw=hh)(lY:GR P f hh r b5)(ad:r.shift H.length=dB)(k9:H++pb H.length b5=bK)(an:aj P fn c (.ops false all rest k) ((d,dB)::fr) bK):aj P fn c (.ops false all (⟨some d,.call {callee:= .value g,args:=args.toArray,argTypes:=iJ},ty,pos,after,none⟩::rest) k) fr H:=
 De c2 a8 has (lY H) (fun _ h=>h) (fun _ h=>h) (fun h4 H1 h=>by obtain ⟨rfl,rfl⟩:=h;subst ad;subst k9;exact an)
end
mutual
theorem alW: ∀(x:ak),cM x=true→ ∀N,x.shift N=x
 | .int _ _,_,_=>rfl
 | .bool _,_,_=>rfl
 | .str _,_,_=>rfl
 | .nil,_,_=>rfl
 | .ro _ _ _,_,_=>rfl
 | .aC _ _ _,h,_=>by simp [cM] at h
 | .cK _ _ _,_,_=>rfl
 | .ptr _ _ _,h,_=>by simp [cM] at h
 | .pP,_,_=>rfl
 | .fn f l,h,N=>by have bZ:= ‹bA›;simp only [ak.shift];rw [IY l (by simpa [cM] using h) N]
 | .pO,_,_=>rfl
 | .iface,_,_=>rfl
 | .oh,_,_=>rfl
 | .agg l,h,N=>by simp only [ak.shift];rw [IY l (by simpa [cM] using h) N]
 | .cn l,h,N=>by simp only [ak.shift];rw [IY l (by simpa [cM] using h) N]
 | .mp _,h,_=>by simp [cM] at h
 | .hr _ _,_,_=>rfl
 | .any,_,_=>rfl
theorem IY: ∀(l:List ak),cM.eM l=true→ ∀N,ak.rr N l=l
 |[],_,_=>rfl
 |v::r,h,N=>by have bZ:= ‹bA›;simp only [cM.eM,eb] at h;simp only [ak.rr];rw [alW v h.1 N,IY r h.2 N]
end
end Go.aj
namespace Go.aj
variable [bA]
open Go.RowKit
def fp {α:Type}(O:bl)(t:TypeId)(f:α→Cells)(X:List α)(L:aZ):aZ:=some O::(gk t f X++L)
section
variable {α:Type}{O:bl}{t:TypeId}{f:α→Cells}{X:List α}{L:aZ}
theorem F6:(fp O t f X L).length=X.length+1+L.length:=by have bZ:= ‹bA›;unfold fp;rw [gK,c8,vg];omega
theorem Pw (d:α){a:Nat}(a8:a<X.length):(fp O t f X L)[a+1]? =some (some ⟨t,f (X.getD a d)⟩):=by have bZ:= ‹bA›;show (gk t f X++L)[a]? =_;rw [Xd (by rw [vg];exact a8),Wv t f X d a8]
theorem Pv {j:Nat}:(fp O t f X L)[X.length+1+j]? =L[j]? :=by have bZ:= ‹bA›;rw [show X.length+1+j=(X.length+j)+1 by omega];show (gk t f X++L)[X.length+j]? =_;exact tU (by rw [vg])
theorem UF {a:Nat}(x:α)(a8:a<X.length):(fp O t f X L).set (a+1) (some ⟨t,f x⟩)=fp O t f (X.set a x) L:=by have bZ:= ‹bA›;show some O::(gk t f X++L).set a _=_;rw [WX _ (by rw [vg];exact a8),Ww];rfl
theorem UE {j:Nat}(x:Option bl):(fp O t f X L).set (X.length+1+j) x=fp O t f X (L.set j x):=by have bZ:= ‹bA›;rw [show X.length+1+j=(X.length+j)+1 by omega];show some O::(gk t f X++L).set (X.length+j) x=_;rw [pX x (by rw [vg])];rfl
theorem JN (M:aZ):fp O t f X L++M=fp O t f X (L++M):=by have bZ:= ‹bA›;unfold fp;rw [oN,lz]
theorem aM.append {A KW B y8:aZ}(U:aM A KW)(ab:aM B y8):aM (A++B) (KW++y8):=by
 have bZ:= ‹bA›;refine ⟨by rw [c8,c8,U.1,ab.1],fun h o' ah=> ?_⟩;by_cases au:h<KW.length
 ·rw [hQ au] at ah;rw [hQ (by rw [←U.1];exact au)];exact U.2 h o' ah
 ·rw [ib J] at ah;rw [ib (by have:=U.1;omega),←U.1];exact ab.2 _ o' ah
theorem yO {zb:bl}{oB:aZ}(aU:zb.ty=O.ty∧cu O.c zb.c)(cH:aM L oB):aM (fp O t f X L) (fp zb t f X oB):=by have bZ:= ‹bA›;exact aM.cons (fun o ah=>by cases ah;exact ⟨O,rfl,aU.1,aU.2⟩) (aM.append (aM.refl _) cH)
theorem I4 (h:Nat)(aQ: ∀a,(f a).forget h=f a): ∀X:List α,c7 h (gk t f X)=gk t f X
 |[]=>have bZ:= ‹bA›;rfl
 |a::r=>by have bZ:= ‹bA›;show some ⟨t,(f a).forget h⟩::c7 h (gk t f r)=some ⟨t,f a⟩::gk t f r;rw [aQ a,I4 h aQ r]
theorem wV (h:Nat): ∀A B:aZ,c7 h (A++B)=c7 h A++c7 h B
 |[],B=>have bZ:= ‹bA›;rfl
 |a::r,B=>by have bZ:= ‹bA›;show ja h a::c7 h (r++B)=ja h a::(c7 h r++c7 h B);rw [wV h r B]
theorem Au (h:Nat)(aQ: ∀a,(f a).forget h=f a):c7 h (fp O t f X L)=fp ⟨O.ty,O.c.forget h⟩ t f X (c7 h L):=by have bZ:= ‹bA›;show some ⟨O.ty,O.c.forget h⟩::c7 h (gk t f X++L)=_;rw [wV,I4 h aQ];rfl
end
section
variable {ind:Bool}{P:Program}{fn:Func}{c:Ctx}{fr:Fr}{H:aZ}{k:List eF}
variable {d:Option Nat}{ty:TypeId}{pos:String}{after:Array Edge}{g:Option (Nat×Bool)}
theorem Av {x i:Operand}{t e:TypeId}{h o len ix:Nat}{bg:bl}{k:IntKind}{m:Int}(bu:P.underlying t=some (.slice e))(ar:bG fr x=some (.aC h o len))(aa:bG fr i=some (.int k m))(aV:H[h]? =some (some bg))(av:(P.info? e).map (·.size)=some bg.c.aD)(zP:o+m.toNat=ix)(al:0≤m∧m<len):
 b1 ind P fn c fr H ⟨d,.indexAddr t x i,ty,pos,after,g⟩ (.ptr h ix 0):=gd bu ar aV av aa zP al
theorem NN {x:Operand}{t:TypeId}{u:TypeDesc}{h i:Nat}{bg:bl}{inf:TypeInfo}{L:List ak}(bu:P.underlying t=some u)(hu:jn u=true)(iO:P.info? t=some inf)(ar:bG fr x=some (.ptr h i 0))(aV:H[h]? =some (some bg))(cz:inf.size=bg.c.aD)(cH:(List.range bg.c.aD).map (bg.c.at i)=L)(aa:i<bg.c.len):b1 false P fn c fr H ⟨d,.load t x,ty,pos,after,g⟩ (.agg L):=UA bu hu iO cz ar aV cH aa
theorem alo {x:Operand}{t:TypeId}{u:TypeDesc}{h i j:Nat}{bg:bl}{inf:TypeInfo}{L:List ak}(bu:P.underlying t=some u)(hu:jn u=true)(iO:P.info? t=some inf)(ar:bG fr x=some (.ptr h i j))(aV:H[h]? =some (some bg))(cz:Nat.ble (j+inf.size) bg.c.aD=true)(cH:(List.range inf.size).map (fun e=>bg.c.at i (j+e))=L)(aa:i<bg.c.len):b1 false P fn c fr H ⟨d,.load t x,ty,pos,after,g⟩ (.agg L):=IN bu hu iO cz ar aV cH aa
theorem o5 {x:Operand}{t:TypeId}{u:TypeDesc}{h j:Nat}{oX:TypeId}{l:List ak}{v:ak}(bu:P.underlying t=some u)(hu:jn u=false)(ar:bG fr x=some (.ptr h 0 j))(aV:H[h]? =some (some ⟨oX,.box l⟩))(ai:l[j]? =some v):
 b1 false P fn c fr H ⟨d,.load t x,ty,pos,after,g⟩ v:=hO bu hu ar aV ai
end
end Go.aj
namespace Go.aj
variable [bA]
open Go.RowKit
inductive s4 where
 |int (k:IntKind)
 |str
 |pair (k:IntKind)
inductive qg:s4→Value→Prop
 |int (k n):qg (.int k) (.int k n)
 |str (s):qg .str (.string s)
 |pair (k a b):qg (.pair k) (.agg #[.int k a,.int k b])
inductive vJ (P:Program)(h2:TypeId):s4→Prop
 |int {k} (h:P.underlying h2=some (.int k)):vJ P h2 (.int k)
 |str (h:P.underlying h2=some .string):vJ P h2 .str
 |pair {k e} (h:P.underlying h2=some (.array 2 e)) (he:P.underlying e=some (.int k)) (U:(P.info? e).map (·.size)=some 1):vJ P h2 (.pair k)
theorem qg.isKey {s:s4}{v:Value}(ai:qg s v):(∀k,s= .int k→MapKept.IsKey (.int k) v)∧(s= .str→MapKept.IsKey .string v):=by
 have bZ:= ‹bA›;cases ai
 ·refine ⟨fun k h=> ?_,fun h=> ?_⟩
  ·cases h;trivial
  ·cases h
 ·refine ⟨fun k h=> ?_,fun h=> ?_⟩
  ·cases h
  ·trivial
 ·refine ⟨fun k h=> ?_,fun h=> ?_⟩
  ·cases h
  ·cases h
section
variable {P:Program}{h2:TypeId}{s:s4}
theorem Ja {e:TypeId}{q:IntKind}(he:P.underlying e=some (.int q))(w:World)(cs:Array Value)(o:Nat){v:Value}(ai:cs[o]? =some v):(part e cs o).run P w= .ok v w:=by have bZ:= ‹bA›;simp [part,isAgg,Sem.run_bind,run_underlying he,ai]
theorem alz {e:TypeId}{q:IntKind}(h:P.underlying h2=some (.array 2 e))(he:P.underlying e=some (.int q))(U:(P.info? e).map (·.size)=some 1)(w:World)(a b c d:Int):
 (Op.equal h2 (.agg #[.int q a,.int q b]) (.agg #[.int q c,.int q d])).run P w= .ok (decide (a=c∧b=d)) w:=by have bZ:= ‹bA›;have oY: ∀x y:Int,(part e #[.int q x,.int q y] 0).run P w= .ok (.int q x) w:=fun x y=>Ja he w _ 0 rfl;have c6: ∀x y:Int,(part e #[.int q x,.int q y] 1).run P w= .ok (.int q y) w:=fun x y=>Ja he w _ 1 rfl;have z0:(sizeOf e).run P w= .ok 1 w:=AN U;have jW: ∀x y:Int,(Op.equalIn 9999 e (.int q x) (.int q y)).run P w= .ok (x==y) w:=fun x y=>run_equalIn_int w 9998 e q q x y he;unfold Op.equal Op.maxDepth;rw [show (10000:Nat)=9999+1 from rfl,Op.equalIn];simp only [Sem.run_bind,run_underlying h,Result.andThen_ok,AN U];simp only [Std.Legacy.Range.forIn_eq_forIn_range',Std.Legacy.Range.size,xu,Nat.add_sub_cancel,Nat.div_one,List.range'_succ,List.range'_zero,List.forIn_cons,List.forIn_nil];simp [Sem.run_bind,Result.andThen,oY,c6,z0,jW];by_cases g1:a=c<;>by_cases g2:b=d<;>simp [g1,g2,Sem.run_bind,Result.andThen,oY,c6,z0,jW]
theorem IS (aQ:vJ P h2 s){v:Value}(ai:qg s v)(w:World)(em:Bool):(Instr.checkKey em 10000 h2 v).run P w= .ok () w:=by
 have bZ:= ‹bA›;cases ai with
 |int k n=>cases aQ with|int h=>exact MapKept.run_checkKey h (by trivial) em 9999
 |str x=>cases aQ with|str h=>exact MapKept.run_checkKey h (by trivial) em 9999
 |pair k a b=>
  cases aQ with
  |pair h he U=>
   rename_i e;have oY: ∀x y:Int,(part e #[.int k x,.int k y] 0).run P w= .ok (.int k x) w:=fun x y=>Ja he w _ 0 rfl;have c6: ∀x y:Int,(part e #[.int k x,.int k y] 1).run P w= .ok (.int k y) w:=fun x y=>Ja he w _ 1 rfl;have z0:(sizeOf e).run P w= .ok 1 w:=AN U;have n6: ∀x:Int,(Instr.checkKey em 9999 e (.int k x)).run P w= .ok () w:=fun x=>MapKept.run_checkKey he (by trivial) em 9998;rw [show (10000:Nat)=9999+1 from rfl,Instr.checkKey];simp only [Sem.run_bind,run_underlying h,Result.andThen_ok,AN U];simp only [Std.Legacy.Range.forIn_eq_forIn_range',Std.Legacy.Range.size,xu,Nat.add_sub_cancel,Nat.div_one,List.range'_succ,List.range'_zero,List.forIn_cons,List.forIn_nil];simp [Sem.run_bind,Result.andThen,oY,c6,z0,n6]
theorem I0 (aQ:vJ P h2 s){x:Value}(ar:qg s x)(w:World)(es:List MapEntry)(L0: ∀e∈es,qg s e.key):
 ((Instr.findKey h2 x es).run P w= .ok none w∧ ∀e∈es,e.key≠x)∨ ∃j e,(Instr.findKey h2 x es).run P w= .ok (some (j,e.val)) w∧es[j]? =some e∧e.key=x:=by
 have bZ:= ‹bA›;have flat: ∀d,P.underlying h2=some d→MapKept.IsKey d x→(∀e∈es,MapKept.IsKey d e.key)→((Instr.findKey h2 x es).run P w= .ok none w∧ ∀e∈es,e.key≠x)∨ ∃j e,(Instr.findKey h2 x es).run P w= .ok (some (j,e.val)) w∧es[j]? =some e∧e.key=x:=by
  intro d hd an nx;rcases MapKept.findNow_spec an es 0 nx with ⟨U,ab⟩|⟨j,e,U,ab,ay⟩
  ·exact .inl ⟨MapKept.run_findKey hd U,ab⟩
  ·exact .inr ⟨j,e,by rw [cT] at U;exact MapKept.run_findKey hd U,ab,ay⟩
 cases aQ with
 |int h=>exact flat _ h (ar.isKey.1 _ rfl) (fun e he=>(L0 e he).isKey.1 _ rfl)
 |str h=>exact flat _ h (ar.isKey.2 rfl) (fun e he=>(L0 e he).isKey.2 rfl)
 |pair h he U=>
  rename_i k e;have aeV: ∀(l:List MapEntry),Instr.findNow (.array 2 e) x l 0=none∨l=[]:=by
   intro l;cases l with
   |nil=>exact .inr rfl
   |cons a r=>left;cases ar;simp [Instr.findNow,Instr.sameNow]
  have adq: ∀(l:List MapEntry) (i:Nat),(∀e∈l,qg (.pair k) e.key)→((Instr.findAsking h2 x l i).run P w= .ok none w∧ ∀e∈l,e.key≠x)∨ ∃j e,(Instr.findAsking h2 x l i).run P w= .ok (some (i+j,e.val)) w∧l[j]? =some e∧e.key=x:=by
   intro l;induction l with
   |nil=>intro i _;exact .inl ⟨rfl,fun e he=>by cases he⟩
   |cons y r ba=>
    intro i au;obtain ⟨alf,yv,yu⟩:=y;have a1:qg (.pair k) alf:=au _ (xx ..);cases ar with
    |pair _ a b=>
     cases a1 with
     |pair _ c d=>
      have heq:=alz (P:=P) h he U w a b c d;by_cases Hv:a=c∧b=d
      ·obtain ⟨rfl,rfl⟩:=Hv;exact .inr ⟨0,_,by simp [Instr.findAsking,Sem.run_bind,heq,Result.andThen],I,I⟩
      ·have cd:(Value.agg #[.int k c,.int k d])≠ .agg #[.int k a,.int k b]:=by intro q;simp at q;exact Hv ⟨q.1.symm,q.2.symm⟩
       rcases ba (i+1) (fun e he=>au e (vP _ he)) with ⟨g1,g2⟩|⟨j,gA,g1,g2,g3⟩
       ·refine .inl ⟨by simp [Instr.findAsking,Sem.run_bind,heq,Result.andThen,Hv,g1],fun e he=> ?_⟩;rcases fS.1 he with rfl|he
        ·exact cd
        ·exact g2 e he
       ·exact .inr ⟨j+1,gA,by simp [Instr.findAsking,Sem.run_bind,heq,Result.andThen,Hv,g1];omega,by simpa using g2,g3⟩
  have dR:(Instr.findKey h2 x es).run P w=(Instr.findAsking h2 x es 0).run P w:=by
   rcases aeV es with aI|rfl
   ·simp [Instr.findKey,Sem.run_bind,run_underlying h,Result.andThen,aI]
   ·simp [Instr.findKey,Sem.run_bind,run_underlying h,Result.andThen,Instr.findNow,Instr.findAsking]
  rw [dR];rcases adq es 0 L0 with ab|⟨j,gA,g1,g2,g3⟩
  ·exact .inl ab
  ·exact .inr ⟨j,gA,by rw [cT] at g1;exact g1,g2,g3⟩
theorem aps {v:Value}(ai:qg s v):Instr.sameBits 10000 v v=true:=by
 have bZ:= ‹bA›;cases ai with
 |int=>simp [Instr.sameBits]
 |str=>simp [Instr.sameBits];exact (MapKept.bytes_beq _ _).2 rfl
 |pair=>rw [show (10000:Nat)=9998+1+1 from rfl];simp [Instr.sameBits]
theorem anF {v:Value}(ai:qg s v)(w:World):(Instr.keyThatStays v v).run P w= .ok v w:=by have bZ:= ‹bA›;simp [Instr.keyThatStays,aps ai]
end
def nf:s4→ak→Bool
 | .int .i64,.int .i64 _=>true
 | .str,.str _=>true
 | .pair .i64,.agg [.int .i64 _,.int .i64 _]=>true
 |_,_=>false
theorem F3 {s:s4}{x:ak}(h:nf s x=true): ∃u:Value,qg s u∧(∀(w:World) (S:Nat→Prop) (σ:Nat→Option bQ) (v:Value),bz w S σ x v→v=u)∧(∀y:ak,nf s y=true→ ∀(w:World) (S:Nat→Prop) (σ:Nat→Option bQ),bz w S σ y u→y=x):=by
 have bZ:= ‹bA›;unfold nf at h;split at h
 ·rename_i n;refine ⟨.int .i64 n,.int _ _,fun w S σ v ai=>by cases ai;rfl,fun y a1 w S σ ai=> ?_⟩;unfold nf at a1;split at a1<;>first|(cases a1;done)|(cases ai;rfl)|(rename_i q _;cases q;done)|(rename_i q;cases q;done)|skip
 ·rename_i n;refine ⟨pr n,.str _,fun w S σ v ai=>by cases ai;rfl,fun y a1 w S σ ai=> ?_⟩;unfold nf at a1;split at a1<;>first|(cases a1;done)|(rename_i q _;cases q;done)|(rename_i q;cases q;done)|skip
  rename_i m _;generalize bw:pr n=z at ai;cases ai;unfold pr at bw;simp at bw;rw [bw]
 ·rename_i a b;refine ⟨.agg #[.int .i64 a,.int .i64 b],.pair _ _ _,fun w S σ v ai=> ?_,fun y a1 w S σ ai=> ?_⟩
  ·cases ai with
   |agg _ _ vs au ai U=>
    obtain ⟨l⟩:=vs;have ld:l.length=2:=by simpa using au
    match l,ld with
    |[x,y],_=>
     have eY:=ai 0 bX;have bS:=ai 1 bX;simp at eY bS;cases eY;cases bS;rfl
  ·unfold nf at a1;split at a1<;>first|(cases a1;done)|(rename_i q _;cases q;done)|(rename_i q;cases q;done)|skip
   cases ai with
   |agg _ _ vs au ai U=>
    have eY:=ai 0 bX;have bS:=ai 1 bX;simp at eY bS;cases eY;cases bS;rfl
 ·cases h
def GI (H:aZ):ak→Option (List ak×List ak)
 | .mp h=>match H[h]? with
  |some (some o)=>match o.c with
   | .mp ks vs=>some (ks,vs)
   |_=>none
  |_=>none
 | .hr ks vs=>some (ks,vs)
 |_=>none
theorem cc.map {c:Ctx}{w:World}{a:Act}{σ:Nat→Option bQ}{S:Nat→Prop}{n:Nat}{fr:Fr}{H:aZ}(ad:cc c w a σ S n fr H){x:ak}{v:Value}{ks vs:List ak}(ai:bz w S σ x v)(hm:GI H x=some (ks,vs)):
 ∃b es clock,v= .map (some b)∧w.heap[b]? =some (.map es clock)∧es.size=ks.length∧vs.length=ks.length∧es.toList.Pairwise (fun x y=>x.key≠y.key)∧ ∀i,i<ks.length→ ∃e,es[i]? =some e∧bz w S σ (ks.getD i .any) e.key∧bz w S σ (vs.getD i .any) e.val:=by
 cases ai<;>simp only [GI] at hm<;>try (cases hm;done)
 case mp h b bJ=>
  cases aB:H[h]? with
  |none=>simp [aB] at hm
  |some l6=>cases l6 with
   |none=>simp [aB] at hm
   |some o=>
    simp only [aB] at hm;rcases ad.ad.live h o aB with ⟨aI,_⟩|⟨b',cL,cur,fq,g1,g2,g3,g4,g5,g6⟩
    ·rw [bJ] at aI;cases aI
    ·rw [bJ] at fq;simp only [dC,bQ.at.injEq] at fq;obtain ⟨rfl,cz,rfl⟩:=fq;cases g1 with
     |row mk _ _ ed=>omega
     |map agu Ny es clock aw _ al aI au hd he=>
      rw [aw] at hm;simp only [dC,zh] at hm;obtain ⟨rfl,rfl⟩:=hm;exact ⟨b,es,clock,I,al,aI,au,hd,he⟩
 case hr agu Ny b es clock e dq al aI au hd he an ai=>
  simp only [dC,zh] at hm;obtain ⟨rfl,rfl⟩:=hm;exact ⟨b,es,clock,rfl,al,aI,au,hd,fun i aa=>⟨e i,he i aa,(an i aa).mono (fun _ h=>h) (fun _ _=>rfl) _ (fun _ _ h=>by cases h),(ai i aa).mono (fun _ h=>h) (fun _ _=>rfl) _ (fun _ _ h=>by cases h)⟩⟩
section
variable {ind:Bool}{P:Program}{fn:Func}{c:Ctx}{fr:Fr}{H:aZ}{k:List eF}{d:Option Nat}{ty:TypeId}{pos:String}{after:Array Edge}{g:Option (Nat×Bool)}
theorem J4 {w:World}{S:Nat→Prop}{σ:Nat→Option bQ}{s:s4}{ks:List ak}{es:Array MapEntry}(nx: ∀x∈ks,nf s x=true)(aI:es.size=ks.length)(he: ∀i,i<ks.length→ ∃e,es[i]? =some e∧bz w S σ (ks.getD i .any) e.key): ∀e∈es.toList,qg s e.key:=by
 have bZ:= ‹bA›;intro e hm;obtain ⟨i,aa,rfl⟩:=k3 hm;have aL:i<ks.length:=by simpa [aI] using aa
 obtain ⟨gA,aH,aJ⟩:=he i aL;have eH:ks.getD i .any∈ks:=by simp [List.getD,aL]
 obtain ⟨u,iA,u2,_⟩:=F3 (nx _ eH);have:es.toList[i]=gA:=by
  have ay:es.toList[i]? =some gA:=by simpa using aH
  rw [nY aa] at ay;exact oG ay
 rw [this,u2 _ _ _ _ aJ];exact iA
theorem tK {t h2 tq:TypeId}{x ix:Operand}{ok:Bool}{m ey v:ak}{ks vs:List ak}{s:s4}(bu:P.underlying t=some (.map h2 tq))(aQ:vJ P h2 s)(ar:bG fr x=some m)(hm:GI H m=some (ks,vs))(aa:bG fr ix=some ey)(an:nf s ey=true)(nx: ∀x∈ks,nf s x=true)(i:Nat)(U:ks[i]? =some ey)(ab:vs[i]? =some v):b1 false P fn c fr H ⟨d,.lookup t x ix ok,ty,pos,after,g⟩ (bif ok then .cn [v,.bool true] else v):=by
 intro w a σ S ad;have aH:=ad.dL ar;have aJ:=ad.dL aa;obtain ⟨b,es,clock,bS,bY,db,dP,gZ,iY⟩:=ad.map aH hm;obtain ⟨u,iA,u2,Ff⟩:=F3 an;have tF:=u2 _ _ _ _ aJ;have mT:i<ks.length:=(hi.1 U).1;obtain ⟨jW,c6,fs,lh⟩:=iY i mT;have g1:ks.getD i .any=ey:=by simp [List.getD,U]
 have g2:vs.getD i .any=v:=by simp [List.getD,ab]
 rw [g1] at fs;rw [g2] at lh;have lH:=u2 _ _ _ _ fs;have zR:=J4 nx db (fun i aa=>let ⟨e,a,b,_⟩:=iY i aa;⟨e,a,b⟩);have sx: ∀w':World,w'.heap=w.heap→(Instr.lookup t (a.eval x) (a.eval ix) ok).run P w'= .ok (if ok then .tuple #[jW.val,.bool true] else jW.val) w':=by
  intro w' hw;have eA:w'.heap[b]? =some (.map es clock):=by rw [hw];exact bY
  rw [bS,tF];rcases I0 aQ iA w' es.toList zR with ⟨h4,h5⟩|⟨j,gA,h4,h5,sD⟩
  ·exact absurd lH (h5 jW (by have:=oL (l:=es.toList) (by simpa using c6);exact this))
  ·have:gA=jW:=by
    have ae:=hi.1 h5;have aem:=hi.1 (show es.toList[i]? =some jW by simpa using c6);obtain ⟨oW,rm⟩:=ae;obtain ⟨i1,i2⟩:=aem;rcases DV i j with bD|rfl|bD
    ·exact absurd (by rw [i2,rm,lH,sD]) (xy.1 gZ i j i1 oW bD)
    ·rw [←i2,←rm]
    ·exact absurd (by rw [i2,rm,lH,sD]) (xy.1 gZ j i oW i1 bD)
   subst this;simp [Instr.lookup,Sem.run_bind,run_underlying bu,Result.andThen,MapKept.run_getObj_map eA,IS aQ iA,h4]
 refine ⟨if ok then .tuple #[jW.val,.bool true] else jW.val,?_,fun w' hw=> ?_⟩
 ·cases ok with
  |false=>exact lh
  |true=>
   refine .cn _ _ _ I (fun j ae=> ?_)
   match j,ae with
   |0,_=>exact lh
   |1,_=>exact .bool _ _
 ·have hw:=hw.resolve_left aT;simp only [execOp,Sem.run_bind,sx w' hw];rfl
theorem IQ {t h2 tq:TypeId}{x ix:Operand}{ok:Bool}{m ey KU:ak}{ks vs:List ak}{s:s4}{inf:TypeInfo}{z:Value}(bu:P.underlying t=some (.map h2 tq))(aQ:vJ P h2 s)(iO:P.info? tq=some inf)(bw:inf.zero=some z)(agb:sY z=some [KU])(MP:z.cells= #[z])(ar:bG fr x=some m)(hm:GI H m=some (ks,vs))(aa:bG fr ix=some ey)(an:nf s ey=true)(nx: ∀x∈ks,nf s x=true)(U:ey∉ks):b1 false P fn c fr H ⟨d,.lookup t x ix ok,ty,pos,after,g⟩ (bif ok then .cn [KU,.bool false] else KU):=by
 intro w a σ S ad;have aH:=ad.dL ar;have aJ:=ad.dL aa;obtain ⟨b,es,clock,bS,bY,db,dP,gZ,iY⟩:=ad.map aH hm;obtain ⟨u,iA,u2,Ff⟩:=F3 an;have tF:=u2 _ _ _ _ aJ;have zR:=J4 nx db (fun i aa=>let ⟨e,a,b,_⟩:=iY i aa;⟨e,a,b⟩);have fU: ∀e∈es.toList,e.key≠u:=by
  intro e xX he;obtain ⟨i,aL,rfl⟩:=k3 xX;have mT:i<ks.length:=by simpa [db] using aL
  obtain ⟨gA,c6,fs,_⟩:=iY i mT;have:es.toList[i]=gA:=by
   have ay:es.toList[i]? =some gA:=by simpa using c6
   rw [nY aL] at ay;exact oG ay
  rw [this] at he;rw [he] at fs;have eH:ks.getD i .any∈ks:=by simp [List.getD,mT]
  have:=Ff _ (nx _ eH) _ _ _ fs;rw [this] at eH;exact U eH
 have sx: ∀w':World,w'.heap=w.heap→(Instr.lookup t (a.eval x) (a.eval ix) ok).run P w'= .ok (if ok then .tuple #[z,.bool false] else z) w':=by
  intro w' hw;have eA:w'.heap[b]? =some (.map es clock):=by rw [hw];exact bY
  have MQ:(zeroValue tq).run P w'= .ok z w':=by simp [zeroValue,Sem.run_bind,typeInfo,iO,bw]
  rw [bS,tF];rcases I0 aQ iA w' es.toList zR with ⟨h4,h5⟩|⟨j,gA,h4,h5,sD⟩
  ·simp [Instr.lookup,Sem.run_bind,run_underlying bu,Result.andThen,MapKept.run_getObj_map eA,IS aQ iA,h4,MQ]
  ·exact absurd sD (fU gA (oL h5))
 have MR:bz w S σ KU z:=by have:=(AL (w:=w) (S:=S) (σ:=σ) agb).2 0 bX;rw [MP] at this;simpa using this.1
 refine ⟨if ok then .tuple #[z,.bool false] else z,?_,fun w' hw=> ?_⟩
 ·cases ok with
  |false=>exact MR
  |true=>
   refine .cn _ _ _ I (fun j ae=> ?_)
   match j,ae with
   |0,_=>exact MR
   |1,_=>exact .bool _ _
 ·have hw:=hw.resolve_left aT;simp only [execOp,Sem.run_bind,sx w' hw];rfl
end
theorem cc.ZN {c:Ctx}{w:World}{a:Act}{σ:Nat→Option bQ}{S:Nat→Prop}{n:Nat}{fr:Fr}{H:aZ}(ad:cc c w a σ S n fr H){o:bl}{C:Nat}{cur:Array Value}(bg:Obj)(hlen:o.c.len≤C)(ed:C≤maxLen+1)(jf:cur.size=C*o.c.aD)(cH:Lays (w.alloc bg) S (cN σ H.length (.at w.heap.size o.c.aD C)) o w.heap.size cur C)(aw: ∀i j,i<o.c.len→j<o.c.aD→ ∃v,cur[i*o.c.aD+j]? =some v∧bz w S σ (o.c.at i j) v∧v.oneCell'=true):
 cc c (w.alloc bg) a (cN σ H.length (.at w.heap.size o.c.aD C)) S n fr (H++[some o]):=by
 have hold: ∀b,b<w.heap.size→(w.alloc bg).heap[b]? =w.heap[b]? :=fun b al=>Below.heap_alloc _ _ b al;have ob: ∀h B,σ h=some B→cN σ H.length (.at w.heap.size o.c.aD C) h=some B:=by
  intro h B ck;unfold cN;split
  ·rename_i he;rw [he,ad.ad.ie _ (bT _)] at ck;cases ck
  ·exact ck
 have ai: ∀{x v},bz w S σ x v→bz (w.alloc bg) S (cN σ H.length (.at w.heap.size o.c.aD C)) x v:=
  fun h=>h.mono (fun _ h=>h) (fun b al=>hold b (ad.ad.small b al)) _ ob
 have c9: ∀aS o',(H++[some o])[aS]? =some (some o')→(aS=H.length∧o'=o)∨(aS<H.length∧H[aS]? =some (some o')):=by
  intro aS o' ah;by_cases he:aS<H.length
  ·rw [hQ he] at ah;exact .inr ⟨he,ah⟩
  ·by_cases km:aS=H.length
   ·subst km;simp at ah;exact .inl ⟨rfl,ah.symm⟩
   ·have:(H++[some o]).length≤aS:=by simp;omega
    rw [kG this] at ah;cases ah
 have E2: ∀h o' b s cL,h<H.length→H[h]? =some (some o')→σ h=some (.at b s cL)→b<w.heap.size:=by intro h o' b s cL _ ah al;obtain ⟨_,iV,g,_⟩:=ad.obj ah al;exact g.lt
 refine ⟨⟨?_,?_,fun b al=>by have:=ad.ad.small b al;simp;omega,fun h au=> ?_⟩,?_,ad.defers,ad.size,fun t v au=>⟨(ad.fl t v au).1,ai (ad.fl t v au).2⟩⟩
 ·intro aS o' ah;rcases c9 aS o' ah with ⟨rfl,rfl⟩|⟨bD,cP⟩
  ·right;refine ⟨w.heap.size,C,cur,by simp [cN],cH,jf,ed,hlen,fun av=>oI _ (ad.ad.small _ av),fun i j aa ae=> ?_⟩;obtain ⟨v,aH,aJ,bR⟩:=aw i j aa ae;exact ⟨v,aH,ai aJ,bR⟩
  ·rcases ad.ad.live aS o' cP with ⟨aI,jA⟩|⟨b',cL,iV,g1,g2,g3,g4,g5,g6,g7⟩
   ·exact .inl ⟨ob _ _ aI,jA⟩
   ·right;refine ⟨b',cL,iV,ob _ _ g1,g2.mono (hold b' g2.lt) ai,g3,g4,g5,g6,fun i j aa ae=> ?_⟩;obtain ⟨v,aH,aJ,bR⟩:=g7 i j aa ae;exact ⟨v,aH,ai aJ,bR⟩
 ·intro U ab o1 o2 b s1 gI s2 gx g1 g2 aH aJ;rcases c9 U o1 g1 with ⟨rfl,rfl⟩|⟨fW,wa⟩<;>rcases c9 ab o2 g2 with ⟨rfl,rfl⟩|⟨fK,Ed⟩
  ·rfl
  ·simp only [cN,gf,dC,bQ.at.injEq] at aH;simp only [cN,pw fK,hH] at aJ;have:=E2 ab o2 b s2 gx fK Ed aJ;omega
  ·simp only [cN,gf,dC,bQ.at.injEq] at aJ;simp only [cN,pw fW,hH] at aH;have:=E2 U o1 b s1 gI fW wa aH;omega
  ·simp only [cN,pw fW,pw fK,hH] at aH aJ;exact ad.ad.hJ U ab o1 o2 b s1 gI s2 gx wa Ed aH aJ
 ·simp only [c8,gK,lv] at au;have: ¬h=H.length:=J;simp only [cN,this,hH];exact ad.ad.ie h J
 ·refine ⟨ad.bj.os,ad.bj.output,ad.bj.tape,by have:=ad.bj.size;simp;omega,fun b al ah=> ?_,ad.bj.hX,ad.bj.e5,fun h aQ=> ?_,fun h aQ=>by have:=ad.bj.jx h aQ;simp;omega,?_⟩
  ·rw [hold b (by have:=ad.bj.size;omega)];exact ad.bj.block b al ah
  ·have:=ad.bj.jx h aQ;have ab: ¬h=H.length:=J;simp only [cN,ab,hH];exact ad.bj.fixed h aQ
  ·intro aS o' b s cL ah al;rcases c9 aS o' ah with ⟨rfl,rfl⟩|⟨bD,cP⟩
   ·simp only [cN,gf,dC,bQ.at.injEq] at al;have:=ad.bj.size;omega
   ·simp only [cN,pw bD,hH] at al;exact ad.bj.own aS o' b s cL cP al
theorem cc.TO {c:Ctx}{w:World}{a:Act}{σ:Nat→Option bQ}{S:Nat→Prop}{n:Nat}{fr:Fr}{H:aZ}(ad:cc c w a σ S n fr H){h b s C:Nat}{o:bl}(aV:H[h]? =some (some o))(bJ:σ h=some (.at b s C)){c':Cells}{cur':Array Value}(w':World)(EO:w'.os=w.os)(EP:w'.output=w.output)(EX:w'.tape=w.tape)(z6:w'.heap.size=w.heap.size)(nz: ∀b',b'≠b→w'.heap[b']? =w.heap[b']?)(cz:c'.aD=o.c.aD)(hlen:c'.len≤C)(jf:cur'.size=C*o.c.aD)(aw: ∀i j,i<c'.len→j<c'.aD→ ∃v,cur'[i*c'.aD+j]? =some v∧bz w S σ (c'.at i j) v∧v.oneCell'=true)(cH:Lays w' S σ ⟨o.ty,c'⟩ b cur' C):
 cc c w' a σ S n fr (H.set h (some ⟨o.ty,c'⟩)):=by
 obtain ⟨av,cur,U,ab,ay,bf,bL,dz⟩:=ad.obj aV bJ;have bD:h<H.length:=(hi.1 aV).1;have dq: ∀b',S b'→w'.heap[b']? =w.heap[b']? :=fun b' al=>nz b' (fun e=>bL (e▸al));have ai: ∀{bC:Nat→Option bQ} {x v},bz w S bC x v→bz w' S bC x v:=fun h=>h.mono (fun _ h=>h) dq _ (fun _ _ h=>h);have c9: ∀aS o',(H.set h (some ⟨o.ty,c'⟩))[aS]? =some (some o')→(aS=h∧o'=⟨o.ty,c'⟩)∨(aS≠h∧H[aS]? =some (some o')):=by
  intro aS o' ah;by_cases he:aS=h
  ·subst he;simp only [oH bD,dC] at ah;exact .inl ⟨I,ah.symm⟩
  ·rw [lV (q3 he)] at ah;exact .inr ⟨he,ah⟩
 have tA:=ad.bj.own h o b s C aV bJ;refine ⟨⟨?_,?_,fun b' al=>by rw [z6];exact ad.ad.small b' al,fun aS au=>ad.ad.ie aS (by simpa using au)⟩,?_,ad.defers,ad.size,fun t v au=>⟨(ad.fl t v au).1,ai (ad.fl t v au).2⟩⟩
 ·intro aS o' ah;rcases c9 aS o' ah with ⟨rfl,rfl⟩|⟨cd,cP⟩
  ·right;refine ⟨b,C,cur',?_,cH,by simpa [cz] using jf,ay,hlen,bL,fun i j aa ae=> ?_⟩
   ·rw [bJ,av,cz]
   ·obtain ⟨v,aH,aJ,bR⟩:=aw i j aa ae;exact ⟨v,aH,ai aJ,bR⟩
  ·rcases ad.ad.live aS o' cP with aI|⟨b',cL,iV,g1,g2,g3,g4,g5,g6,g7⟩
   ·exact .inl aI
   ·right;have tu:b'≠b:=fun e=>cd (ad.ad.hJ aS h o' o b' o'.c.aD cL s C cP aV g1 (by rw [bJ,e]));refine ⟨b',cL,iV,g1,g2.mono (nz b' tu) ai,g3,g4,g5,g6,fun i j aa ae=> ?_⟩;obtain ⟨v,aH,aJ,bR⟩:=g7 i j aa ae;exact ⟨v,aH,ai aJ,bR⟩
 ·intro gB wc o1 o2 b' s1 gI s2 gx g1 g2 aH aJ;have t1: ∃o,H[gB]? =some (some o):=by
   rcases c9 gB o1 g1 with ⟨rfl,_⟩|⟨_,g⟩
   ·exact ⟨_,aV⟩
   ·exact ⟨_,g⟩
  have t2: ∃o,H[wc]? =some (some o):=by
   rcases c9 wc o2 g2 with ⟨rfl,_⟩|⟨_,g⟩
   ·exact ⟨_,aV⟩
   ·exact ⟨_,g⟩
  obtain ⟨_,t1⟩:=t1;obtain ⟨_,t2⟩:=t2;exact ad.ad.hJ gB wc _ _ b' s1 gI s2 gx t1 t2 aH aJ
 ·refine ⟨EO.trans ad.bj.os,EP.trans ad.bj.output,EX.trans ad.bj.tape,by rw [z6];exact ad.bj.size,fun b' al ah=> ?_,ad.bj.hX,ad.bj.e5,ad.bj.fixed,fun aS aQ=>by simpa using ad.bj.jx aS aQ,?_⟩
  ·have tu:b'≠b:=by
    rintro rfl;rcases tA with h|h
    ·exact ah h
    ·omega
   rw [nz b' tu];exact ad.bj.block b' al ah
  ·intro aS o' b' cy cL ah al;rcases c9 aS o' ah with ⟨rfl,_⟩|⟨_,g⟩
   ·exact ad.bj.own _ _ b' cy cL aV al
   ·exact ad.bj.own aS o' b' cy cL g al
section
variable {ind:Bool}{P:Program}{fn:Func}{c:Ctx}{fr:Fr}{H:aZ}{k:List eF}{d:Option Nat}{ty:TypeId}{pos:String}{after:Array Edge}{g:Option (Nat×Bool)}
theorem CB {all:Array Oper}{d:Nat}{t:TypeId}{rest:List Oper}(an:aj P fn c (.ops false all rest k) ((d,.mp H.length)::fr) (H++[some ⟨t,.mp [] []⟩])):aj P fn c (.ops false all (⟨some d,.makeMap t none,ty,pos,after,none⟩::rest) k) fr H:=by
 refine rZ (fun w a σ S ad=> ?_) an;have dR:(execOp a.eval ⟨some d,.makeMap t none,ty,pos,after,none⟩).run P w= .ok (.value (.map (some w.heap.size))) (w.alloc (.map #[] 0)):=by simp [execOp,Instr.makeMap,Sem.run_bind,newObj,Sem.run,Result.andThen]
 refine ⟨_,_,_,S,dR,ad.ZN (o:=⟨t,.mp [] []⟩) (C:=maxLen+1) (cur:= #[]) (.map #[] 0) (b7 _) (bT _) I (.map [] [] #[] 0 I I (MapKept.heap_alloc w _).1 I I bX (fun i aa=>absurd aa (gg _))) (fun i j aa=>absurd aa (gg _)),?_⟩;exact .mp _ _ _ (by simp [cN,Cells.aD])
theorem cc.TA {w:World}{a:Act}{σ:Nat→Option bQ}{S:Nat→Prop}{n:Nat}(ad:cc c w a σ S n fr H){h:Nat}{x:Value}{t:TypeId}{ks vs:List ak}(ai:bz w S σ (.mp h) x)(aV:H[h]? =some (some ⟨t,.mp ks vs⟩)):
 ∃b es clock,x= .map (some b)∧σ h=some (.at b 0 (maxLen+1))∧w.heap[b]? =some (.map es clock)∧es.size=ks.length∧vs.length=ks.length∧es.toList.Pairwise (fun x y=>x.key≠y.key)∧ ∀i,i<ks.length→ ∃e,es[i]? =some e∧bz w S σ (ks.getD i .any) e.key∧bz w S σ (vs.getD i .any) e.val:=by
 have bJ: ∃b,x= .map (some b)∧σ h=some (.at b 0 (maxLen+1)):=by cases ai with|mp _ _ b bJ=>exact ⟨b,rfl,bJ⟩
 obtain ⟨b,rfl,bJ⟩:=bJ;obtain ⟨ew,es,clock,bS,bY⟩:=ad.map (ks:=ks) (vs:=vs) ai (by simp only [GI,aV]);simp at bS;subst bS;exact ⟨_,es,clock,I,bJ,bY⟩
theorem aca {es:Array MapEntry}{u:Value}{i j:Nat}{e gA:MapEntry}(hd:es.toList.Pairwise (fun x y=>x.key≠y.key))(U:es[i]? =some e)(ab:e.key=u)(ay:es.toList[j]? =some gA)(bf:gA.key=u):i=j:=by
 have bZ:= ‹bA›;obtain ⟨oW,rm⟩:=hi.1 ay;obtain ⟨i1,i2⟩:=hi.1 (show es.toList[i]? =some e by simpa using U);rcases DV i j with bD|rfl|bD
 ·exact absurd (by rw [i2,rm,ab,bf]) (xy.1 hd i j i1 oW bD)
 ·rfl
 ·exact absurd (by rw [i2,rm,ab,bf]) (xy.1 hd j i oW i1 bD)
theorem alv {all:Array Oper}{t h2 tq cF:TypeId}{x ix y:Operand}{rest:List Oper}{h:Nat}{ey v:ak}{ks vs:List ak}{s:s4}(bu:P.underlying t=some (.map h2 tq))(aQ:vJ P h2 s)(ar:bG fr x=some (.mp h))(aV:H[h]? =some (some ⟨cF,.mp ks vs⟩))(aa:bG fr ix=some ey)(a1:bG fr y=some v)(an:nf s ey=true)(nx: ∀x∈ks,nf s x=true)(i:Nat)(U:ks[i]? =some ey)(bO:aj P fn c (.ops false all rest k) fr (H.set h (some ⟨cF,.mp ks (vs.set i v)⟩))):aj P fn c (.ops false all (⟨none,.mapUpdate t x ix y,ty,pos,after,none⟩::rest) k) fr H:=by
 refine GD (fun w a σ S ad=> ?_) bO;have aH:=ad.dL ar;have aJ:=ad.dL aa;have bR:=ad.dL a1;obtain ⟨b,es,clock,bS,bJ,bY,db,dP,gZ,iY⟩:=ad.TA aH aV;obtain ⟨u,iA,u2,Ff⟩:=F3 an;have tF:=u2 _ _ _ _ aJ;have mT:i<ks.length:=(hi.1 U).1;obtain ⟨jW,c6,fs,lh⟩:=iY i mT;have g1:ks.getD i .any=ey:=by simp [List.getD,U]
 rw [g1] at fs;have lH:=u2 _ _ _ _ fs;have zR:=J4 nx db (fun i aa=>let ⟨e,a,b,_⟩:=iY i aa;⟨e,a,b⟩);have df:i<es.size:=J;have dR:(Instr.mapUpdate t (a.eval x) (a.eval ix) (a.eval y)).run P w= .ok () {w with heap:=w.heap.setIfInBounds b (.map (es.modify i fun e=>{e with key:=u,val:=a.eval y}) clock)}:=by
  rw [bS,tF];rcases I0 aQ iA w es.toList zR with ⟨h4,h5⟩|⟨j,gA,h4,h5,sD⟩
  ·exact absurd lH (h5 jW (oL (l:=es.toList) (by simpa using c6)))
  ·have wj:=aca gZ c6 lH h5 sD;subst wj;have:((es[i]?).map (·.key)).getD u=u:=by rw [c6];simpa using lH
   simp only [Instr.mapUpdate,Sem.run_bind,run_underlying bu,Result.andThen_ok,MapKept.run_getObj_map bY,IS aQ iA,h4,this,anF iA,MapKept.run_setObj_map _ bY]
 have c9:=MapKept.heap_set (o':= .map (es.modify i fun e=>{e with key:=u,val:=a.eval y}) clock) bY;generalize wE:({w with heap:=w.heap.setIfInBounds b (.map (es.modify i fun e=>{e with key:=u,val:=a.eval y}) clock)}:World)=w' at dR;have Aa:w'.heap=w.heap.setIfInBounds b (.map (es.modify i fun e=>{e with key:=u,val:=a.eval y}) clock):=by rw [←wE]
 have Mm: ¬S b:=(ad.obj aV bJ).2.choose_spec.2.2.2.2.1;have nz: ∀b',b'≠b→w'.heap[b']? =w.heap[b']? :=fun b' al=>by rw [Aa];exact c9.2 b' al
 have ai: ∀{x v},bz w S σ x v→bz w' S σ x v:=fun ai=>ai.mono (fun _ h=>h) (fun b' al=>nz b' (fun e=>Mm (e▸al))) _ (fun _ _ h=>h);have EF: ∀(j:Nat) (e:MapEntry),es[j]? =some e→(if j=i then ({e with key:=u,val:=a.eval y}:MapEntry) else e).key=e.key:=by
  intro j e ae;split
  ·rename_i ED;subst ED;rw [c6] at ae;cases ae;exact lH.symm
  ·rfl
 have Sv: ∀j:Nat,(es.modify i fun e=>{e with key:=u,val:=a.eval y})[j]? =(es[j]?).map (fun e=>if j=i then ({e with key:=u,val:=a.eval y}:MapEntry) else e):=by
  intro j;rw [Array.getElem?_modify];by_cases wj:i=j
  ·subst wj;simp
  ·have: ¬j=i:=fun e=>wj e.symm;simp [wj,this]
 refine ⟨w',σ,S,by simp only [execOp,Sem.run_bind,dR];rfl,ad.TO (o:=⟨cF,.mp ks vs⟩) aV bJ (c':= .mp ks (vs.set i v)) (cur':= #[]) w' (by rw [←wE]) (by rw [←wE]) (by rw [←wE]) (by rw [Aa];simp) nz I (b7 _) I (fun i j aa=>absurd aa (gg _))
  (.map ks (vs.set i v) _ clock rfl rfl (by rw [Aa];exact c9.1) (by simpa using db) (by simpa using dP) ?_ (fun j ae=> ?_))⟩
 ·rw [xy] at gZ⊢;intro gy ei a8 al nv;have cz:(es.modify i fun e=>{e with key:=u,val:=a.eval y}).toList.length=es.toList.length:=bX;have Ta: ∀(j:Nat) (ae:j<(es.modify i fun e=>{e with key:=u,val:=a.eval y}).toList.length) (lE:j<es.toList.length),((es.modify i fun e=>{e with key:=u,val:=a.eval y}).toList[j]).key=(es.toList[j]).key:=by
   intro j ae lE;have bL:=Sv j;have uL:es[j]? =some (es.toList[j]):=by have oR:es.toList[j]? =some (es.toList[j]):=nY lE;rw [Array.getElem?_toList] at oR;exact oR
   rw [uL] at bL;simp only [ta] at bL;have dz:(es.modify i fun e=>{e with key:=u,val:=a.eval y}).toList[j]? =some ((es.modify i fun e=>{e with key:=u,val:=a.eval y}).toList[j]):=nY ae;have fx:(es.modify i fun e=>{e with key:=u,val:=a.eval y}).toList[j]? =some (if j=i then ({es.toList[j] with key:=u,val:=a.eval y}:MapEntry) else es.toList[j]):=by rw [Array.getElem?_toList];exact bL
   rw [dz] at fx;rw [oG fx];exact EF j _ uL
  rw [Ta gy a8 J,Ta ei al J];exact gZ gy ei J J nv
 ·obtain ⟨e,h4,h5,sD⟩:=iY j ae;refine ⟨if j=i then ({e with key:=u,val:=a.eval y}:MapEntry) else e,by rw [Sv j,h4];rfl,?_,?_⟩
  ·rw [EF j e h4];exact ai h5
  ·by_cases ED:j=i
   ·subst ED;simp only [gf];have:(vs.set j v).getD j .any=v:=by simp [List.getD,show j<vs.length by omega]
    rw [this];exact ai bR
   ·simp only [ED,hH];have:(vs.set i v).getD j .any=vs.getD j .any:=by simp [List.getD,lV (q3 ED)]
    rw [this];exact ai sD
theorem Ct {all:Array Oper}{t h2 tq cF:TypeId}{x ix y:Operand}{rest:List Oper}{h:Nat}{ey v:ak}{ks vs:List ak}{s:s4}(bu:P.underlying t=some (.map h2 tq))(aQ:vJ P h2 s)(ar:bG fr x=some (.mp h))(aV:H[h]? =some (some ⟨cF,.mp ks vs⟩))(aa:bG fr ix=some ey)(a1:bG fr y=some v)(an:nf s ey=true)(nx: ∀x∈ks,nf s x=true)(U:ey∉ks)(bO:aj P fn c (.ops false all rest k) fr (H.set h (some ⟨cF,.mp (ks++[ey]) (vs++[v])⟩))):aj P fn c (.ops false all (⟨none,.mapUpdate t x ix y,ty,pos,after,none⟩::rest) k) fr H:=by
 refine GD (fun w a σ S ad=> ?_) bO;have aH:=ad.dL ar;have aJ:=ad.dL aa;have bR:=ad.dL a1;obtain ⟨b,es,clock,bS,bJ,bY,db,dP,gZ,iY⟩:=ad.TA aH aV;obtain ⟨u,iA,u2,Ff⟩:=F3 an;have tF:=u2 _ _ _ _ aJ;have zR:=J4 nx db (fun i aa=>let ⟨e,a,b,_⟩:=iY i aa;⟨e,a,b⟩);have fU: ∀e∈es.toList,e.key≠u:=by
  intro e xX he;obtain ⟨i,aL,rfl⟩:=k3 xX;have mT:i<ks.length:=by simpa [db] using aL
  obtain ⟨gA,c6,fs,_⟩:=iY i mT;have:es.toList[i]=gA:=by
   have ay:es.toList[i]? =some gA:=by simpa using c6
   rw [nY aL] at ay;exact oG ay
  rw [this] at he;rw [he] at fs;have eH:ks.getD i .any∈ks:=by simp [List.getD,mT]
  have:=Ff _ (nx _ eH) _ _ _ fs;rw [this] at eH;exact U eH
 have dR:(Instr.mapUpdate t (a.eval x) (a.eval ix) (a.eval y)).run P w= .ok () {w with heap:=w.heap.setIfInBounds b (.map (es.push {key:=u,val:=a.eval y,born:=clock}) (clock+1))}:=by
  rw [bS,tF];rcases I0 aQ iA w es.toList zR with ⟨h4,h5⟩|⟨j,gA,h4,h5,sD⟩
  ·simp only [Instr.mapUpdate,Sem.run_bind,run_underlying bu,Result.andThen_ok,MapKept.run_getObj_map bY,IS aQ iA,h4,MapKept.run_setObj_map _ bY]
  ·exact absurd sD (fU gA (oL h5))
 have c9:=MapKept.heap_set (o':= .map (es.push {key:=u,val:=a.eval y,born:=clock}) (clock+1)) bY;generalize wE:({w with heap:=w.heap.setIfInBounds b (.map (es.push {key:=u,val:=a.eval y,born:=clock}) (clock+1))}:World)=w' at dR;have Aa:w'.heap=w.heap.setIfInBounds b (.map (es.push {key:=u,val:=a.eval y,born:=clock}) (clock+1)):=by rw [←wE]
 have Mm: ¬S b:=(ad.obj aV bJ).2.choose_spec.2.2.2.2.1;have nz: ∀b',b'≠b→w'.heap[b']? =w.heap[b']? :=fun b' al=>by rw [Aa];exact c9.2 b' al
 have ai: ∀{x v},bz w S σ x v→bz w' S σ x v:=fun ai=>ai.mono (fun _ h=>h) (fun b' al=>nz b' (fun e=>Mm (e▸al))) _ (fun _ _ h=>h);refine ⟨w',σ,S,by simp only [execOp,Sem.run_bind,dR];rfl,ad.TO (o:=⟨cF,.mp ks vs⟩) aV bJ (c':= .mp (ks++[ey]) (vs++[v])) (cur':= #[]) w' (by rw [←wE]) (by rw [←wE]) (by rw [←wE]) (by rw [Aa];simp) nz I (b7 _) I (fun i j aa=>absurd aa (gg _))
  (.map _ _ _ (clock+1) rfl rfl (by rw [Aa];exact c9.1) (by simp [db]) (by simp [dP]) ?_ (fun j ae=> ?_))⟩
 ·rw [Array.toList_push,List.pairwise_append];exact ⟨gZ,bX,fun x ar y a1=>by simp at a1;subst a1;exact fU x ar⟩
 ·simp only [c8,gK,lv] at ae;by_cases au:j<ks.length
  ·obtain ⟨e,h4,h5,sD⟩:=iY j au;refine ⟨e,by rw [Array.getElem?_push,ax J];exact h4,?_,?_⟩
   ·have:(ks++[ey]).getD j .any=ks.getD j .any:=by simp [List.getD,hQ au]
    rw [this];exact ai h5
   ·have:(vs++[v]).getD j .any=vs.getD j .any:=by simp [List.getD,hQ (show j<vs.length by omega)]
    rw [this];exact ai sD
  ·have ho:j=es.size:=J;refine ⟨{key:=u,val:=a.eval y,born:=clock},by rw [Array.getElem?_push,aA ho],?_,?_⟩
   ·have:(ks++[ey]).getD j .any=ey:=by simp [List.getD,ho,db]
    rw [this];have:=ai aJ;rw [tF] at this;exact this
   ·have:(vs++[v]).getD j .any=v:=by simp [List.getD,ho,db,←dP]
    rw [this];exact ai bR
end
end Go.aj
namespace Go.aj
variable [bA]
open Go.RowKit
section
variable {ind:Bool}{P:Program}{fn:Func}{c:Ctx}{fr:Fr}{H:aZ}{k:List eF}
variable {d:Option Nat}{ty:TypeId}{pos:String}{after:Array Edge}{g:Option (Nat×Bool)}
end
end Go.aj
namespace Go.aj
variable [bA]
open Go.RowKit
abbrev ag (n:Nat):ak:= .int .i64 (n:Int)
section
variable {P:Program}{fn:Func}{c:Ctx}{fr:Fr}{H:aZ}{k:List eF}
theorem dA {all:Array Oper}{t:TypeId}{x y:Operand}{ty:TypeId}{pos:String}{after:Array Edge}{rest:List Oper}{h:Nat}{bg:bl}{L:List ak}{c':Cells}(ar:bG fr x=some (.ptr h 0 0))(a1:bG fr y=some (.agg L))(av:(P.info? t).map (·.size)=some bg.c.aD)(aV:H[h]? =some (some bg))(au:L.length=bg.c.aD)(U:c'.len=bg.c.len)(ab:c'.aD=bg.c.aD)(an:aj P fn c (.ops false all rest k) fr (H.set h (some ⟨bg.ty,c'⟩)))(aa:0<bg.c.len:=by exact fA)(ay: ∀aG a7,aG<bg.c.len→a7<bg.c.aD→c'.at aG a7=if aG=0 then L.getD a7 .any else bg.c.at aG a7:=by (intro aG a7 aL bd;rw [aA (fw.1 aL)];rfl))(oe:bg.c.aD≠0:=by (intro aV;cases aV)):
 aj P fn c (.ops false all (⟨none,.store t x y,ty,pos,after,none⟩::rest) k) fr H:=eE ar a1 av aV au aa U ab ay an oe
variable {ind:Bool}{d:Option Nat}{ty:TypeId}{pos:String}{after:Array Edge}{g:Option (Nat×Bool)}
theorem mw {x i:Operand}{t e:TypeId}{h o len ix:Nat}{bg:bl}{k:IntKind}{m:Int}(bu:P.underlying t=some (.slice e))(ar:bG fr x=some (.aC h o len))(aa:bG fr i=some (.int k m))(aV:H[h]? =some (some bg):=by assumption)(av:(P.info? e).map (·.size)=some bg.c.aD:=by rfl)(zP:o+m.toNat=ix:=by first|(simp only [cT,cg,fE];exact rfl)|exact rfl)(al:0≤m∧m<len:=by omega):
 b1 ind P fn c fr H ⟨d,.indexAddr t x i,ty,pos,after,g⟩ (.ptr h ix 0):=Av bu ar aa aV av zP al
theorem aiA {x:Operand}{t:TypeId}{u:TypeDesc}{h i j:Nat}{bg:bl}{inf:TypeInfo}{L:List ak}(bu:P.underlying t=some u)(hu:jn u=true)(iO:P.info? t=some inf)(ar:bG fr x=some (.ptr h i j))(aV:H[h]? =some (some bg):=by assumption)(cz:Nat.ble (j+inf.size) bg.c.aD=true:=by rfl)(cH:(List.range inf.size).map (fun e=>bg.c.at i (j+e))=L:=by rfl)(aa:i<bg.c.len:=by first|exact fA|assumption|omega):b1 false P fn c fr H ⟨d,.load t x,ty,pos,after,g⟩ (.agg L):=alo bu hu iO ar aV cz cH aa
theorem Iw {x:Operand}{t:TypeId}{u:TypeDesc}{h i:Nat}{bg:bl}{inf:TypeInfo}{L:List ak}(bu:P.underlying t=some u)(hu:jn u=true)(iO:P.info? t=some inf)(ar:bG fr x=some (.ptr h i 0))(aV:H[h]? =some (some bg):=by assumption)(cz:inf.size=bg.c.aD:=by rfl)(cH:(List.range bg.c.aD).map (bg.c.at i)=L:=by rfl)(aa:i<bg.c.len:=by first|exact fA|assumption|omega):b1 false P fn c fr H ⟨d,.load t x,ty,pos,after,g⟩ (.agg L):=NN bu hu iO ar aV cz cH aa
theorem Ix {x:Operand}{t:TypeId}{u:TypeDesc}{h i j:Nat}{bg:bl}{inf:TypeInfo}{L:List ak}(bu:P.underlying t=some u)(hu:jn u=true)(iO:P.info? t=some inf)(cz:Nat.ble (j+inf.size) bg.c.aD=true)(ar:bG fr x=some (.ptr h i j))(aV:H[h]? =some (some bg))(cH:(List.range inf.size).map (fun e=>bg.c.at i (j+e))=L)(aa:i<bg.c.len:=by first|exact fA|assumption|omega):b1 false P fn c fr H ⟨d,.load t x,ty,pos,after,g⟩ (.agg L):=IN bu hu iO cz ar aV cH aa
end
end Go.aj
namespace Go.aj
open Go.RowKit
structure lu (p:Prop):Prop where
 out:p
theorem bF {G ea:Prop}(k:ea)(h:lu ea→G:=by intro k;(repeat (first|refine ao (bE rfl) ?_|refine ao (du rfl) ?_|refine cR ?_|refine b0 ?_|refine dh ?_|refine c5 rfl ?_|refine mb ?_));exact k.out):G:=h ⟨k⟩
theorem bn {G ea:Prop}(k:ea)(h:lu ea→G:=by intro k;(repeat (first|refine ao (bE rfl) ?_|refine ao (du rfl) ?_|refine cR ?_|refine b0 ?_|refine dh ?_|refine c5 rfl ?_|refine lJ ?_|refine fD ?_|refine iC ?_|refine mb ?_));exact k.out):G:=h ⟨k⟩
theorem c4 {G ea:Prop}(k:ea)(h:lu ea→G:=by intro k;(repeat (first|refine ao (bE rfl) ?_|refine ao (du rfl) ?_|refine cR ?_|refine b0 ?_|refine dh ?_|refine c5 rfl ?_|refine kR rfl rfl ?_|refine lJ ?_|refine fD ?_|refine iC ?_|refine mb ?_|refine Cz ?_|refine ao (lO rfl rfl) ?_|refine ao (nG rfl rfl) ?_));exact k.out):G:=h ⟨k⟩
theorem bq {G ea:Prop}(k:ea)(h:lu ea→G:=by intro k;(repeat (first|refine ao (bE rfl) ?_|refine ao (du rfl) ?_|refine cR ?_|refine b0 ?_|refine dh ?_|refine c5 rfl ?_|refine kR rfl rfl ?_|refine lJ ?_|refine fD ?_|refine iC ?_|refine mb ?_|refine Cz ?_|refine ao (rR rfl rfl) ?_|refine ao (lO rfl rfl) ?_|refine ao (nG rfl rfl) ?_|refine ao (fP rfl rfl rfl) ?_|refine ao (hK rfl rfl J) ?_|refine h9 rfl rfl rfl rfl rfl rfl rfl rfl rfl rfl rfl ?_));exact k.out):G:=h ⟨k⟩
theorem bh {G ea:Prop}(k:ea)(h:lu ea→G:=by intro k;(repeat (first|refine ao (bE rfl) ?_|refine ao (du rfl) ?_|refine cR ?_|refine b0 ?_|refine dh ?_|refine c5 rfl ?_|refine kR rfl rfl ?_|refine ot rfl ?_|refine lJ ?_|refine fD ?_|refine iC ?_|refine mb ?_|refine Cz ?_|refine ao (hO rfl rfl rfl rfl rfl) ?_|refine ao (qU rfl rfl) ?_|refine ao (pk rfl rfl) ?_|refine ao (rR rfl rfl) ?_|refine ao (lO rfl rfl) ?_|refine ao (nG rfl rfl) ?_|refine ao (fP rfl rfl rfl) ?_|refine ao (hK rfl rfl J) ?_|refine ao (h8 rfl rfl rfl rfl hC J) ?_|refine h9 rfl rfl rfl rfl rfl rfl rfl rfl rfl rfl rfl ?_|refine mc rfl rfl rfl ?_));exact k.out):G:=h ⟨k⟩
theorem bo {G ea:Prop}(k:ea)(h:lu ea→G:=by intro k;(repeat (first|refine ao (bE rfl) ?_|refine ao (du rfl) ?_|refine cR ?_|refine b0 ?_|refine dh ?_|refine c5 rfl ?_|refine kR rfl rfl ?_|refine rv rfl ?_|refine ot rfl ?_|refine j2 ?_|refine lJ ?_|refine fD ?_|refine iC ?_|refine qO ?_|refine qK ?_|refine qJ ?_|refine rz ?_|refine mb ?_|refine Cz ?_|refine ao (hO rfl rfl rfl rfl rfl) ?_|refine ao (qU rfl rfl) ?_|refine ao (pk rfl rfl) ?_|refine ao (rR rfl rfl) ?_|refine ao (vF rfl) ?_|refine ao (lO rfl rfl) ?_|refine ao (nG rfl rfl) ?_|refine ao (fP rfl rfl rfl) ?_|refine ao (hK rfl rfl J) ?_|refine ao (h8 rfl rfl rfl rfl hC J) ?_|refine ao (de rfl rfl rfl rfl rfl rfl) ?_|refine h9 rfl rfl rfl rfl rfl rfl rfl rfl rfl rfl rfl ?_|refine mc rfl rfl rfl ?_));exact k.out):G:=h ⟨k⟩
theorem bc {G ea:Prop}(k:ea)(h:lu ea→G:=by intro k;(repeat (first|refine ao (bE rfl) ?_|refine ao (du rfl) ?_|refine ao (vc rfl rfl rfl) ?_|refine cR ?_|refine b0 ?_|refine dh ?_|refine c5 rfl ?_|refine kR rfl rfl ?_|refine sI rfl rfl rfl ?_|refine rv rfl ?_|refine ot rfl ?_|refine j2 ?_|refine lJ ?_|refine fD ?_|refine iC ?_|refine qO ?_|refine qK ?_|refine qJ ?_|refine rz ?_|refine mb ?_|refine Cz ?_|refine amL ?_|refine amM ?_|refine ao (tL rfl rfl rfl rfl) ?_|refine ao (hO rfl rfl rfl rfl rfl) ?_|refine ao (qU rfl rfl) ?_|refine ao (pk rfl rfl) ?_|refine ao (rR rfl rfl) ?_|refine ao (xi rfl rfl) ?_|refine ao (vF rfl) ?_|refine ao (lO rfl rfl) ?_|refine ao (nG rfl rfl) ?_|refine ao (fP rfl rfl rfl) ?_|refine ao (C7 rfl rfl) ?_|refine ao (hK rfl rfl J) ?_|refine ao (h8 rfl rfl rfl rfl hC J) ?_|refine ao (gd rfl rfl rfl rfl rfl hC J) ?_|refine ao (C8 rfl rfl) ?_|refine ao (de rfl rfl rfl rfl rfl rfl) ?_|refine ao (wS rfl rfl rfl rfl rfl rfl) ?_|refine ao (IN rfl rfl rfl rfl rfl rfl rfl Ic) ?_|refine h9 rfl rfl rfl rfl rfl rfl rfl rfl rfl rfl rfl ?_|refine vt rfl rfl ?_|refine mc rfl rfl rfl ?_));exact k.out):G:=h ⟨k⟩
theorem cJ {G ea:Prop}(k:ea)(h:lu ea→G:=by intro k;(repeat (first|refine ao (bE rfl) ?_|refine ao (du rfl) ?_|refine cR ?_|refine b0 ?_|refine dh ?_|refine c5 rfl ?_|refine j2 ?_|refine lJ ?_|refine fD ?_|refine iC ?_|refine ao (qU rfl rfl) ?_|refine ao (A9 rfl rfl) ?_|refine ao (fP rfl rfl rfl) ?_|refine ao (hK rfl rfl J) ?_|refine ao (pc rfl rfl J) ?_|refine ao (gd rfl rfl rfl rfl rfl hC J) ?_|refine ao (Fo rfl rfl rfl rfl nC) ?_|refine ao (kC rfl) ?_|refine ao (de rfl rfl rfl rfl rfl rfl) ?_|refine ao (Av rfl rfl rfl h1 lg hC J) ?_|refine ao (NN rfl rfl rfl rfl h1 lg lg Ic) ?_|refine ao (o5 rfl rfl rfl h1 lg) ?_|refine ao (N4 rfl rfl rfl h1 nC) ?_|refine ao (Fl rfl rfl rfl h1 rfl nC) ?_|refine lK rfl rfl rfl rfl rfl rfl rfl (by first|assumption|(show _<List.length _;first|assumption|omega)) ?_|refine mc rfl rfl rfl ?_));exact k.out):G:=h ⟨k⟩
theorem fb {G ea:Prop}(k:ea)(h:lu ea→G:=by intro k;(repeat (first|refine ao (bE rfl) ?_|refine ao (du rfl) ?_|refine cR ?_|refine b0 ?_|refine dh ?_|refine c5 rfl ?_|refine kR rfl rfl ?_|refine ot rfl ?_|refine iC ?_|refine mb ?_|refine ao (hO rfl rfl rfl rfl rfl) ?_|refine ao (pk rfl rfl) ?_|refine ao (TI rfl rfl) ?_|refine ao (A9 rfl rfl) ?_|refine ao (lO rfl rfl) ?_|refine ao (fP rfl rfl rfl) ?_|refine ao (C7 rfl rfl) ?_|refine ao (pc rfl rfl J) ?_|refine ao (iZ rfl rfl rfl rfl rfl rfl) ?_|refine ao (PK rfl rfl) ?_|refine ao (lo rfl rfl rfl rfl) ?_|refine ao (kC rfl) ?_|refine ao (de rfl rfl rfl rfl rfl rfl) ?_|refine lK rfl rfl rfl rfl rfl rfl rfl fA ?_|refine h9 rfl rfl rfl rfl rfl rfl rfl rfl rfl rfl rfl ?_|refine mc rfl rfl rfl ?_));exact k.out):G:=h ⟨k⟩
theorem oi {G ea:Prop}(k:ea)(h:lu ea→G:=by intro k;(repeat (first|refine ao (bE rfl) ?_|refine ao (du rfl) ?_|refine cR ?_|refine b0 ?_|refine dh ?_|refine c5 rfl ?_|refine rv rfl ?_|refine ot rfl ?_|refine j2 ?_|refine lJ ?_|refine fD ?_|refine iC ?_|refine ao (Oh rfl rfl rfl) ?_|refine ao (hO rfl rfl rfl rfl rfl) ?_|refine ao (pk rfl rfl) ?_|refine ao (vF rfl) ?_|refine ao (nG rfl rfl) ?_|refine ao (fP rfl rfl rfl) ?_|refine ao (hK rfl rfl J) ?_|refine ao (h8 rfl rfl rfl rfl hC J) ?_|refine ao (iZ rfl rfl rfl rfl rfl rfl) ?_|refine ao (C8 rfl rfl) ?_|refine ao (de rfl rfl rfl rfl rfl rfl) ?_|refine ao (IN rfl rfl rfl rfl rfl rfl rfl Ic) ?_|refine lK rfl rfl rfl rfl rfl rfl rfl fA ?_|refine mc rfl rfl rfl ?_));exact k.out):G:=h ⟨k⟩
theorem fu {G ea:Prop}(k:ea)(h:lu ea→G:=by intro k;(repeat (first|refine ao (bE rfl) ?_|refine ao (du rfl) ?_|refine cR ?_|refine dh ?_|refine c5 rfl ?_|refine kR rfl rfl ?_|refine ot rfl ?_|refine j2 ?_|refine lJ ?_|refine iC ?_|refine qO ?_|refine qK ?_|refine qJ ?_|refine rz ?_|refine ao (hO rfl rfl rfl rfl rfl) ?_|refine ao (vF rfl) ?_|refine ao (hK rfl rfl J) ?_|refine ao (gd rfl rfl rfl rfl rfl hC J) ?_|refine ao (Fo rfl rfl rfl rfl nC) ?_|refine ao (amv rfl rfl rfl rfl nC) ?_|refine ao (Cx rfl rfl rfl rfl rfl nC) ?_|refine ao (J6 rfl) ?_|refine ao (UM rfl rfl rfl rfl (by first|(simp only [cT,cg];exact rfl)|exact rfl) J) ?_|refine ao (Av rfl rfl rfl h1 lg hC J) ?_|refine ao (NN rfl rfl rfl rfl h1 lg lg Ic) ?_|refine lK rfl rfl rfl rfl rfl rfl rfl (by first|assumption|(show _<List.length _;first|assumption|omega)) ?_));exact k.out):G:=h ⟨k⟩
theorem hx {G ea:Prop}(k:ea)(h:lu ea→G:=by intro k;(repeat (first|refine ao (bE rfl) ?_|refine ao (du rfl) ?_|refine ao (vc rfl rfl rfl) ?_|refine cR ?_|refine b0 ?_|refine dh ?_|refine kR rfl rfl ?_|refine sI rfl rfl rfl ?_|refine qO ?_|refine qK ?_|refine qJ ?_|refine rz ?_|refine mb ?_|refine ao (tL rfl rfl rfl rfl) ?_|refine ao (pk rfl rfl) ?_|refine ao (xi rfl rfl) ?_|refine ao (lO rfl rfl) ?_|refine ao (nG rfl rfl) ?_|refine ao (fP rfl rfl rfl) ?_|refine ao (C7 rfl rfl) ?_|refine ao (pc rfl rfl J) ?_|refine ao (h8 rfl rfl rfl rfl hC J) ?_|refine ao (C8 rfl rfl) ?_|refine ao (lo rfl rfl rfl rfl) ?_|refine ao (CH rfl rfl rfl rfl rfl rfl J) ?_|refine ao (ln rfl rfl rfl rfl rfl rfl) ?_));exact k.out):G:=h ⟨k⟩
theorem uX {G ea:Prop}(k:ea)(h:lu ea→G:=by intro k;(repeat (first|refine ao (bE rfl) ?_|refine ao (du rfl) ?_|refine cR ?_|refine b0 ?_|refine dh ?_|refine c5 rfl ?_|refine rv rfl ?_|refine ot rfl ?_|refine j2 ?_|refine fD ?_|refine iC ?_|refine ao (tL rfl rfl rfl rfl) ?_|refine ao (pk rfl rfl) ?_|refine ao (rR rfl rfl) ?_|refine ao (TI rfl rfl) ?_|refine ao (A9 rfl rfl) ?_|refine ao (fP rfl rfl rfl) ?_|refine ao (C7 rfl rfl) ?_|refine ao (hK rfl rfl J) ?_|refine ao (h8 rfl rfl rfl rfl hC J) ?_|refine ao (lo rfl rfl rfl rfl) ?_|refine ao (TJ rfl rfl) ?_|refine ao (J6 rfl) ?_|refine ao (XZ rfl rfl rfl (by first|assumption|omega|simp)) ?_|refine ao (CH rfl rfl rfl rfl rfl rfl J) ?_|refine ao (ln rfl rfl rfl rfl rfl rfl) ?_));exact k.out):G:=h ⟨k⟩
theorem eD {G ea:Prop}(k:ea)(h:lu ea→G:=by intro k;(repeat (first|refine ao (bE rfl) ?_|refine ao (du rfl) ?_|refine cR ?_|refine b0 ?_|refine kR rfl rfl ?_|refine sI rfl rfl rfl ?_|refine ot rfl ?_|refine j2 ?_|refine iC ?_|refine qO ?_|refine qK ?_|refine qJ ?_|refine rz ?_|refine Vp rfl ?_|refine ao (hO rfl rfl rfl rfl rfl) ?_|refine ao (qU rfl rfl) ?_|refine ao (xi rfl rfl) ?_|refine ao (A9 rfl rfl) ?_|refine ao (vF rfl) ?_|refine ao (lO rfl rfl) ?_|refine ao (nG rfl rfl) ?_|refine ao (hK rfl rfl J) ?_|refine ao (pc rfl rfl J) ?_|refine ao (C8 rfl rfl) ?_|refine ao (kC rfl) ?_|refine ao (de rfl rfl rfl rfl rfl rfl) ?_));exact k.out):G:=h ⟨k⟩
theorem uY {G ea:Prop}(k:ea)(h:lu ea→G:=by intro k;(repeat (first|refine ao (bE rfl) ?_|refine ao (du rfl) ?_|refine cR ?_|refine b0 ?_|refine dh ?_|refine c5 rfl ?_|refine kR rfl rfl ?_|refine NI rfl rfl ?_|refine sI rfl rfl rfl ?_|refine ot rfl ?_|refine j2 ?_|refine iC ?_|refine qO ?_|refine qK ?_|refine qJ ?_|refine rz ?_|refine Vp rfl ?_|refine mb ?_|refine ao (xi rfl rfl) ?_|refine ao (lO rfl rfl) ?_|refine ao (fP rfl rfl rfl) ?_|refine ao (hK rfl rfl J) ?_|refine ao (Oi rfl rfl rfl rfl rfl rfl rfl J) ?_|refine ao (iZ rfl rfl rfl rfl rfl rfl) ?_|refine vt rfl rfl ?_|refine mc rfl rfl rfl ?_));exact k.out):G:=h ⟨k⟩
theorem uZ {G ea:Prop}(k:ea)(h:lu ea→G:=by intro k;(repeat (first|refine ao (bE rfl) ?_|refine ao (du rfl) ?_|refine cR ?_|refine b0 ?_|refine dh ?_|refine c5 rfl ?_|refine fD ?_|refine qO ?_|refine qK ?_|refine qJ ?_|refine rz ?_|refine ao (hO rfl rfl rfl rfl rfl) ?_|refine ao (pk rfl rfl) ?_|refine ao (xi rfl rfl) ?_|refine ao (fP rfl rfl rfl) ?_|refine ao (hK rfl rfl J) ?_|refine ao (ait rfl rfl J) ?_|refine ao (iZ rfl rfl rfl rfl rfl rfl) ?_|refine ao (lo rfl rfl rfl rfl) ?_|refine ao (aiq rfl rfl) ?_|refine ao (kC rfl) ?_|refine ao (o4 rfl) ?_|refine ao (de rfl rfl rfl rfl rfl rfl) ?_|refine ao (o5 rfl rfl rfl h1 lg) ?_|refine h9 rfl rfl rfl rfl rfl rfl rfl rfl rfl rfl rfl ?_|refine vt rfl rfl ?_));exact k.out):G:=h ⟨k⟩
theorem Cm {G ea:Prop}(k:ea)(h:lu ea→G:=by intro k;(repeat (first|refine ao (bE rfl) ?_|refine ao (du rfl) ?_|refine cR ?_|refine b0 ?_|refine dh ?_|refine c5 rfl ?_|refine kR rfl rfl ?_|refine NI rfl rfl ?_|refine sI rfl rfl rfl ?_|refine rv rfl ?_|refine ot rfl ?_|refine iC ?_|refine mb ?_|refine Cz ?_|refine ao (vF rfl) ?_|refine ao (lO rfl rfl) ?_|refine ao (fP rfl rfl rfl) ?_|refine ao (C7 rfl rfl) ?_|refine ao (hK rfl rfl J) ?_|refine ao (pc rfl rfl J) ?_|refine ao (gd rfl rfl rfl rfl rfl hC J) ?_|refine ao (PK rfl rfl) ?_|refine ao (lo rfl rfl rfl rfl) ?_|refine ao (CH rfl rfl rfl rfl rfl rfl J) ?_|refine ao (ln rfl rfl rfl rfl rfl rfl) ?_|refine lK rfl rfl rfl rfl rfl rfl rfl (by first|assumption|(show _<List.length _;first|assumption|omega)) ?_));exact k.out):G:=h ⟨k⟩
theorem Nj {G ea:Prop}(k:ea)(h:lu ea→G:=by intro k;(repeat (first|refine ao (bE rfl) ?_|refine ao (du rfl) ?_|refine ao (vc rfl rfl rfl) ?_|refine cR ?_|refine b0 ?_|refine dh ?_|refine c5 rfl ?_|refine j2 ?_|refine fD ?_|refine iC ?_|refine qO ?_|refine qK ?_|refine qJ ?_|refine rz ?_|refine mb ?_|refine ao (hO rfl rfl rfl rfl rfl) ?_|refine ao (pk rfl rfl) ?_|refine ao (hK rfl rfl J) ?_|refine ao (h8 rfl rfl rfl rfl hC J) ?_|refine ao (gd rfl rfl rfl rfl rfl hC J) ?_|refine ao (Fo rfl rfl rfl rfl nC) ?_|refine ao (Cx rfl rfl rfl rfl rfl nC) ?_|refine ao (Oj rfl rfl rfl rfl rfl rfl rfl rfl J) ?_|refine ao (de rfl rfl rfl rfl rfl rfl) ?_|refine lK rfl rfl rfl rfl rfl rfl rfl (by first|assumption|(show _<List.length _;first|assumption|omega)) ?_));exact k.out):G:=h ⟨k⟩
theorem u0 {G ea:Prop}(k:ea)(h:lu ea→G:=by intro k;(repeat (first|refine ao (bE rfl) ?_|refine ao (du rfl) ?_|refine cR ?_|refine b0 ?_|refine dh ?_|refine c5 rfl ?_|refine sI rfl rfl rfl ?_|refine rv rfl ?_|refine fD ?_|refine iC ?_|refine ao (Oh rfl rfl rfl) ?_|refine ao (tL rfl rfl rfl rfl) ?_|refine ao (pk rfl rfl) ?_|refine ao (rR rfl rfl) ?_|refine ao (vF rfl) ?_|refine ao (lO rfl rfl) ?_|refine ao (nG rfl rfl) ?_|refine ao (h8 rfl rfl rfl rfl hC J) ?_|refine ao (iZ rfl rfl rfl rfl rfl rfl) ?_|refine ao (PK rfl rfl) ?_|refine ao (J6 rfl) ?_|refine ao (Av rfl rfl rfl h1 lg hC J) ?_|refine ao (Fl rfl rfl rfl h1 rfl nC) ?_|refine lK rfl rfl rfl rfl rfl rfl rfl fA ?_|refine h9 rfl rfl rfl rfl rfl rfl rfl rfl rfl rfl rfl ?_|refine mc rfl rfl rfl ?_));exact k.out):G:=h ⟨k⟩
theorem Nk {G ea:Prop}(k:ea)(h:lu ea→G:=by intro k;(repeat (first|refine ao (bE rfl) ?_|refine ao (du rfl) ?_|refine cR ?_|refine b0 ?_|refine dh ?_|refine c5 rfl ?_|refine kR rfl rfl ?_|refine j2 ?_|refine fD ?_|refine iC ?_|refine ao (tL rfl rfl rfl rfl) ?_|refine ao (rR rfl rfl) ?_|refine ao (fP rfl rfl rfl) ?_|refine ao (C7 rfl rfl) ?_|refine ao (pc rfl rfl J) ?_|refine ao (h8 rfl rfl rfl rfl hC J) ?_|refine ao (Oi rfl rfl rfl rfl rfl rfl rfl J) ?_|refine ao (XZ rfl rfl rfl (by first|assumption|omega|simp)) ?_|refine ao (wS rfl rfl rfl rfl rfl rfl) ?_));exact k.out):G:=h ⟨k⟩
theorem yj {G ea:Prop}(k:ea)(h:lu ea→G:=by intro k;(repeat (first|refine cR ?_|refine b0 ?_|refine dh ?_|refine fD ?_|refine iC ?_|refine ao (J6 rfl) ?_|refine lK rfl rfl rfl rfl rfl rfl rfl fA ?_|refine mc rfl rfl rfl ?_));exact k.out):G:=h ⟨k⟩
end Go.aj
namespace Go.aj.dn
abbrev B:Nat:=4294967296
def bx:List Int→Nat
 |[]=>0
 |x::r=>x.toNat+B*bx r
def a6 (n:Nat):List Int:=if h:n=0 then [] else ((n%B:Nat):Int)::a6 (n/B)
termination_by n
decreasing_by exact DW (zi h) aT
def cS (l:List Int):Prop:= ∀x∈l,0≤x∧x<4294967296
theorem rA:a6 0=[]:=by rw [a6,dif_pos rfl]
theorem F5 {n:Nat}(h:n≠0):a6 n=((n%B:Nat):Int)::a6 (n/B):=by rw [a6,dif_neg h]
theorem hG (n:Nat):bx (a6 n)=n:=by
 induction n using Nat.strongRecOn with
 |_ n ba=>
  by_cases h:n=0
  ·subst h;rw [rA];rfl
  ·rw [F5 h,bx,ba _ (DW (zi h) aT),cg];exact Nat.mod_add_div n B
theorem cS.cons {x:Int}{r:List Int}:cS (x::r)↔(0≤x∧x<4294967296)∧cS r:=by simp [cS]
theorem cS.append {l m:List Int}:cS (l++m)↔cS l∧cS m:=by
 constructor
 ·exact fun h=>⟨fun x ar=>h x (tb _ ar),fun x ar=>h x (List.mem_append_right _ ar)⟩
 ·rintro ⟨U,ab⟩ x ar;rcases gM.1 ar with h|h
  ·exact U x h
  ·exact ab x h
theorem cS.nil:cS []:=fun x ar=>by simp at ar
theorem cS.one {x:Int}(h:0≤x∧x<4294967296):cS [x]:=by rw [cS.cons];exact ⟨h,cS.nil⟩
theorem iS (n:Nat):cS (a6 n):=by
 induction n using Nat.strongRecOn with
 |_ n ba=>
  by_cases h:n=0
  ·subst h;rw [rA];exact cS.nil
  ·rw [F5 h,cS.cons];refine ⟨?_,ba _ (DW (zi h) aT)⟩;have:=lx n (show 0<B by decide);unfold B at this⊢;omega
theorem cS.get {l:List Int}(h:cS l){i:Nat}(aa:i<l.length):0≤l.getD i 0∧l.getD i 0<4294967296:=h _ (iR 0 aa)
theorem cS.take {l:List Int}(h:cS l)(k:Nat):cS (l.take k):=fun x ar=>h x (pz ar)
theorem Aw (l m:List Int):bx (l++m)=bx l+B^l.length*bx m:=by
 induction l with
 |nil=>simp [bx]
 |cons x r ba=>
  rw [oN,bx,bx,ba,gK,ic];rw [hk,ju,hj (B^r.length) B,kH]
theorem jH {l:List Int}(h:cS l):bx l<B^l.length:=by
 induction l with
 |nil=>simp [bx]
 |cons x r ba=>
  rw [cS.cons] at h;have i:=ba h.2;rw [bx,gK,ic];have ar:x.toNat<B:=by unfold B;omega
  have:bx r+1≤B^r.length:=i;calc x.toNat+B*bx r<B+B*bx r:=J
   _=B*(bx r+1):=by rw [hk,q6];omega
   _≤B*B^r.length:=hz _ this
   _=B^r.length*B:=hj _ _
theorem Ou (k:Nat):bx (List.replicate k 0)=0:=by
 induction k with
 |zero=>rfl
 |succ k ba=>rw [List.replicate_succ,bx,ba];rfl
theorem Xe {l:List Int}(h:cS l)(bw:l=[]∨l.getD (l.length-1) 0≠0):a6 (bx l)=l:=by
 induction l with
 |nil=>exact rA
 |cons x r ba=>
  rw [cS.cons] at h;have ar:x.toNat<B:=by unfold B;omega
  have afS:((x.toNat:Nat):Int)=x:=J;have ad:r=[]∨r.getD (r.length-1) 0≠0:=by
   cases r with
   |nil=>exact .inl rfl
   |cons y q=>
    right;rcases bw with bw|bw
    ·cases bw
    ·simpa using bw
  have i:=ba h.2 ad;have cd:bx (x::r)≠0:=by
   rw [bx];cases r with
   |nil=>
    rcases bw with bw|bw
    ·cases bw
    ·simp at bw;simp [bx];omega
   |cons y q=>
    intro aU;have U:bx (y::q)=0:=by
     have:B*bx (y::q)=0:=J;rcases Nat.mul_eq_zero.1 this with h|h
     ·exact absurd h aT
     ·exact h
    rw [U,rA] at i;cases i
  rw [F5 cd];have aH:bx (x::r)%B=x.toNat:=by rw [bx,Nat.add_mul_mod_self_left,np ar]
  have aJ:bx (x::r)/B=bx r:=by rw [bx,Nat.add_mul_div_left _ _ aT,oJ ar,cT]
  rw [aH,aJ,i,afS]
theorem Wz {n:Nat}:a6 n=[]∨(a6 n).getD ((a6 n).length-1) 0≠0:=by
 induction n using Nat.strongRecOn with
 |_ n ba=>
  by_cases h:n=0
  ·subst h;exact .inl rA
  ·right;rw [F5 h];have bD:=DW (zi h) (show 1<B by decide);rcases ba (n/B) bD with U|U
   ·rw [U];have:n/B=0:=by have:=hG (n/B);rw [U] at this;exact this.symm
    have aI:n<B:=by
     rcases gz n B with q|q
     ·exact q
     ·have:=Nat.div_pos q (show 0<B by decide);omega
    simp only [gK,lv,cT,n1,Bl];rw [np aI];omega
   ·cases aB:a6 (n/B) with
    |nil=>rw [aB] at U;simp at U
    |cons y q=>
     rw [aB] at U;simpa using U
theorem aoX {l:List Int}(h:cS l){k:Nat}(an:k≤l.length)(aU: ∀i,k≤i→i<l.length→l.getD i 0=0)(bw:k=0∨l.getD (k-1) 0≠0):l.take k=a6 (bx l):=by
 have e:l.drop k=List.replicate (l.length-k) 0:=by
  apply jS
  ·simp
  ·intro i U ab;simp only [vR] at U;have:=aU (k+i) J J;rw [tX 0 J] at this;simpa using this
 have ai:bx l=bx (l.take k):=by
  conv=>lhs;rw [←sa k l]
  rw [Aw,e,Ou,tc,e6]
 rw [ai,Xe (h.take k)];rcases bw with bw|bw
 ·subst bw;exact .inl bX
 ·right;rw [fc,hY an];have pJ:k≠0:=fun e=>by
   subst e;cases l with
   |nil=>simp at bw
   |cons x r=>exact bw (aU 0 (bT _) bX)
  simp only [List.getD,py,show k-1<k by omega,gf];exact bw
theorem oo {n k:Nat}(h:n<B^k):(a6 n).length≤k:=by
 rcases Wz (n:=n) with U|U
 ·rw [U];exact b7 _
 ·rcases gz k (a6 n).length with au|au
  ·exfalso;have ai:=hG n;have B8:=Aw ((a6 n).take ((a6 n).length-1)) ((a6 n).drop ((a6 n).length-1));rw [sa,ai] at B8;have hd:(a6 n).drop ((a6 n).length-1)=[(a6 n).getD ((a6 n).length-1) 0]:=by rw [tQ (a6 n) 0 _ J,Bm J]
   have c2:=(iS n).get (i:=(a6 n).length-1) J;rw [hd] at B8;simp only [bx,tc,e6,fc] at B8;rw [hY J] at B8;have ar:1≤((a6 n).getD ((a6 n).length-1) 0).toNat:=J;have aF:B^k≤B^((a6 n).length-1):=fF aT J;have:B^((a6 n).length-1)*1≤B^((a6 n).length-1)*((a6 n).getD ((a6 n).length-1) 0).toNat:=hz _ ar;omega
  ·exact au
theorem alU {n k:Nat}(h:B^k≤n):k<(a6 n).length:=by have U:=jH (iS n);rw [hG] at U;exact (Nat.pow_lt_pow_iff_right (show 1<B by decide)).1 (q5 h U)
theorem ahf {a b:Nat}(h:a6 a=a6 b):a=b:=by rw [←hG a,←hG b,h]
theorem ahg {n:Nat}:a6 n=[]↔n=0:=by
 constructor
 ·intro h;rw [←hG n,h];rfl
 ·rintro rfl;exact rA
theorem NH {l:List Int}(i:Nat)(aa:i<l.length):bx (l.take (i+1))=bx (l.take i)+B^i*(l.getD i 0).toNat:=by rw [pT l 0 i aa,Aw];simp only [bx,tc,e6,fc];rw [hY J]
theorem AB {l:List Int}(x:Int):bx (l++[x])=bx l+B^l.length*x.toNat:=by rw [Aw];simp only [bx,tc,e6]
theorem VM {a b:List Int}(i:Nat)(a8:cS a)(al:cS b)(au:a.length=b.length)(aa:i<a.length)(he: ∀j,i<j→j<a.length→a.getD j 0=b.getD j 0)(bD:a.getD i 0<b.getD i 0):bx a<bx b:=by
 have hd:a.drop (i+1)=b.drop (i+1):=by
  apply jS
  ·simp [au]
  ·intro j U ab;simp only [vR] at U ab;have:=he (i+1+j) J J;rw [tX 0 J,tX 0 J] at this;simpa using this
 have lB:bx a=bx (a.take (i+1))+B^(i+1)*bx (a.drop (i+1)):=by
  conv=>lhs;rw [←sa (i+1) a]
  rw [Aw,fc,hY J]
 have lC:bx b=bx (b.take (i+1))+B^(i+1)*bx (b.drop (i+1)):=by
  conv=>lhs;rw [←sa (i+1) b]
  rw [Aw,fc,hY J]
 rw [lB,lC,hd,NH i aa,NH i J];have U:=jH (a8.take i);rw [fc,hY J] at U;have aqG:=a8.get aa;have HG:=al.get (i:=i) J;have ab:B^i*((a.getD i 0).toNat+1)≤B^i*(b.getD i 0).toNat:=hz _ J;rw [hk,q6] at ab;omega
theorem PV {l:List Int}{i:Nat}{x:Int}(aa:i<l.length):bx (l.set i x)+B^i*(l.getD i 0).toNat=bx l+B^i*x.toNat:=by
 induction l generalizing i with
 |nil=>simp at aa
 |cons y r ba=>
  cases i with
  |zero=>simp only [List.set_cons_zero,bx,zj,qi,Bl];omega
  |succ i=>
   have h:=ba (i:=i) (by simpa using aa);simp only [List.set_cons_succ,bx,List.getD_cons_succ,ic];have aH:B^i*B*(r.getD i 0).toNat=B*(B^i*(r.getD i 0).toNat):=by rw [hj (B^i) B,kH]
   have aJ:B^i*B*x.toNat=B*(B^i*x.toNat):=by rw [hj (B^i) B,kH]
   rw [aH,aJ];have bR:B*(bx (r.set i x)+B^i*(r.getD i 0).toNat)=B*(bx r+B^i*x.toNat):=by rw [h]
   rw [hk,hk] at bR;omega
theorem cS.set {l:List Int}(h:cS l){i:Nat}{x:Int}(ar:0≤x∧x<4294967296):cS (l.set i x):=fun y a1=>by
 rcases zk a1 with U|U
 ·exact h y U
 ·subst U;exact ar
theorem cS.KT (k:Nat):cS (List.replicate k 0):=fun x ar=>by rw [(Bn.1 ar).2];omega
theorem Oe (c:Nat)(p:Nat):p*(c%B)+p*B*(c/B)=p*c:=by rw [kH,←hk,Nat.mod_add_div]
theorem On {out:List Int}{i c t u:Nat}(au:out.length=i)(h:bx out+B^i*t=u){d:Nat}(aw:c=t+d):bx (out++[((c%B:Nat):Int)])+B^(i+1)*(c/B)=u+B^i*d:=by
 rw [AB,au,cg,ic];have:=Oe c (B^i);have e:B^i*c=B^i*t+B^i*d:=by rw [aw,hk]
 omega
theorem vo (c:Nat):0≤((c%B:Nat):Int)∧((c%B:Nat):Int)<4294967296:=by have:=lx c (show 0<B by decide);unfold B at this⊢;omega
theorem abU {u v dE V P q:Nat}(la:0<P)(hu:u<(dE+1)*P)(ai:V*P≤v)(aB:q*v≤u):q*V≤dE:=by
 have U:q*V*P≤q*v:=by rw [kH];exact hz _ ai
 have ab:q*V*P<(dE+1)*P:=q5 (dN U aB) hu;have:=Nat.lt_of_mul_lt_mul_right ab;omega
theorem abV {u v dE V P g:Nat}(la:0<P)(hu:dE*P≤u)(ai:v≤(V+1)*P)(c2:g*V≤dE)(HF:g≤V+1)(U:1≤g):(g-1)*v≤u:=by
 have a:(g-1)*v≤(g-1)*((V+1)*P):=hz _ ai;have b:(g-1)*((V+1)*P)=(g-1)*(V+1)*P:=by rw [kH]
 have c:(g-1)*(V+1)≤g*V:=by
  obtain ⟨k,rfl⟩: ∃k,g=k+1:=⟨g-1,J⟩
  simp only [Nat.add_sub_cancel];rw [hk,dK];omega
 have d:(g-1)*(V+1)*P≤dE*P:=er _ (dN c c2);omega
theorem my (l:List Int)(i:Nat):bx (l.take (i+1))=bx (l.take i)+B^i*(l.getD i 0).toNat:=by
 rcases gz i l.length with h|h
 ·exact NH i h
 ·rw [kI h,kI J];have:l.getD i 0=0:=by simp [List.getD,kG h]
  rw [this];simp
theorem cS.get' {l:List Int}(h:cS l)(i:Nat):0≤l.getD i 0∧l.getD i 0<4294967296:=by
 rcases gz i l.length with aa|aa
 ·exact h.get aa
 ·have:l.getD i 0=0:=by simp [List.getD,kG aa]
  omega
theorem cS.nat {l:List Int}(h:cS l)(i:Nat): ∃d:Nat,l.getD i 0=(d:Int)∧d<4294967296:=by have:=h.get' i;exact ⟨(l.getD i 0).toNat,J,J⟩
theorem apH (l:List Int)(i:Nat):bx l=bx (l.take i)+B^(min i l.length)*bx (l.drop i):=by
 conv=>lhs;rw [←sa i l]
 rw [Aw,fc]
theorem alu (l:List Int)(i:Nat):bx (l.drop i)=(l.getD i 0).toNat+B*bx (l.drop (i+1)):=by
 rcases gz i l.length with h|h
 ·rw [tQ l 0 i h,bx]
 ·rw [Bm h,Bm J];have:l.getD i 0=0:=by simp [List.getD,kG h]
  rw [this];simp [bx]
theorem alg {l:List Int}(h:cS l){k:Nat}(ai:bx l<B^k):bx (l.take k)=bx l:=by
 rcases gz k l.length with au|au
 ·have e:=apH l k;rw [hY J] at e;have:bx (l.drop k)=0:=by
   rcases n2 (bx (l.drop k)) with aU|aU
   ·exact aU
   ·exfalso;have:B^k*1≤B^k*bx (l.drop k):=hz _ aU;omega
  rw [this] at e;omega
 ·rw [kI au]
theorem aoF {l:List Int}{k i:Nat}(h:i<k):(l.take k).getD i 0=l.getD i 0:=by simp only [List.getD,py,h,gf]
theorem apB {l:List Int}(au:cS l):l.take (a6 (bx l)).length=a6 (bx l):=by
 have h:=oo (jH au);have kN:=jH (iS (bx l));rw [hG] at kN;have ai:=alg au kN;obtain ⟨n,aI⟩: ∃n,(a6 (bx l)).length=n:=⟨_,rfl⟩
 rw [aI] at h kN ai⊢;rcases n2 n with q|q
 ·subst q;rw [List.take_zero,uu.1 aI]
 ·have e:=Xe (au.take n) (.inr (fun k8=> ?_))
  ·rw [ai] at e;exact e.symm
  ·rw [fc,hY h,aoF J] at k8;have xT:=my l (n-1);rw [show n-1+1=n by omega,ai,k8] at xT;have bL:=jH (au.take (n-1));rw [fc,hY J] at bL;have dz:bx l<B^(n-1):=by rw [xT];simpa using bL
   have:=oo dz;omega
theorem XO (n i:Nat):(List.replicate n (0:Int)).getD i 0=0:=by simp only [List.getD,oM];split<;>rfl
theorem Ha (i:Nat):0<B^i:=lW aT
theorem W9 {out x y:List Int}{i dx d e:Nat}(au:out.length=i)(h:bx out+B^i*dx=bx (x.take i)+bx (y.take i))(hd:x.getD i 0=(d:Int))(he:y.getD i 0=(e:Int)):
 bx (out++[(((dx+d+e)%4294967296:Nat):Int)])+B^(i+1)*((dx+d+e)/4294967296)=bx (x.take (i+1))+bx (y.take (i+1)):=by have:=On au h (c:=dx+d+e) (d:=d+e) J;rw [my,my,hd,he,cg,cg];rw [hk] at this;unfold B at*;omega
theorem aoz {out x y:List Int}{i iK d e yv tl:Nat}(au:out.length=i)(h:bx out+bx (y.take i)=bx (x.take i)+B^i*iK)(hd:x.getD i 0=(d:Int))(he:y.getD i 0=(e:Int))(a1:yv+iK+e=d+4294967296*tl):
 bx (out++[(yv:Int)])+bx (y.take (i+1))=bx (x.take (i+1))+B^(i+1)*tl:=by
 rw [my,my,hd,he,cg,cg,AB,au,cg,ic,kH];have ay:B^i*yv+B^i*iK+B^i*e=B^i*d+B^i*(B*tl):=by rw [←hk,←hk,←hk];exact congrArg _ a1
 omega
theorem ahe {out:List Int}{p dx a b o u:Nat}(aF:p<out.length)(h:bx out+B^p*dx=u)(ah:out.getD p 0=(o:Int)):
 bx (out.set p (((dx+(a*b+o))%4294967296:Nat):Int))+B^(p+1)*((dx+(a*b+o))/4294967296)=u+B^p*(a*b):=by
 have U:=PV (x:=(((dx+(a*b+o))%4294967296:Nat):Int)) aF;rw [ah,cg,cg] at U;have ab:=Oe (dx+(a*b+o)) (B^p);rw [ic];have e:B^p*(dx+(a*b+o))=B^p*dx+(B^p*(a*b)+B^p*o):=by rw [hk,hk]
 rw [e] at ab;unfold B at*;omega
theorem Fu {l:List Int}{i j:Nat}{x:Int}(h:i≠j):(l.set i x).getD j 0=l.getD j 0:=by simp only [List.getD,lV h]
theorem alO {l:List Int}{i:Nat}{x:Int}(h:i<l.length):(l.set i x).drop i=x::l.drop (i+1):=by
 have ab:i<(l.set i x).length:=by simpa using h
 rw [tQ (l.set i x) 0 i ab];congr 1
 ·simp [List.getD,h]
 ·rw [List.drop_set_of_lt J]
theorem TB:(2:Nat)^32=4294967296:=aT
theorem Dy {a:Nat}(h:a<4294967296):a*2^32<18446744073709551616:=by have e:a*2^32=a*4294967296:=congrArg (a* ·) TB;rw [e];omega
theorem Qz {a b:Nat}(h:b<4294967296):a*2^32|||b=a*4294967296+b:=by have:=Nat.two_pow_add_eq_or_of_lt (i:=32) (b:=b) (by simpa using h) a;rw [hj (2^32) a] at this;rw [←this]
def kc (x y:Int):Int:=if x<y then-1 else if y<x then 1 else 0
theorem Gh {x y:Int}(h:x<y):kc x y= -1:=aA h
theorem Gg {x y:Int}(h:y<x):kc x y=1:=by unfold kc;rw [ax J,aA h]
theorem YC {x y:Int}(h:x=y):kc x y=0:=by unfold kc;rw [ax J,ax J]
theorem aaG (a b:Nat)(h:(a6 a).length≠(a6 b).length):kc a b=kc (a6 a).length (a6 b).length:=by
 have key: ∀u v:Nat,(a6 u).length<(a6 v).length→u<v:=by
  intro u v aqZ;rcases gz u v with q|q
  ·exact q
  ·exfalso;have U:=jH (iS u);rw [hG] at U;have ab:v<B^(a6 u).length:=q5 q U;have:=oo ab;omega
 rcases gz (a6 a).length (a6 b).length with q|q
 ·rw [Gh (vS.2 q),Gh (vS.2 (key a b q))]
 ·have TH:(a6 b).length<(a6 a).length:=J;rw [Gg (vS.2 TH),Gg (vS.2 (key b a TH))]
theorem aaH {a b:Nat}(a8:cS (a6 a))(al:cS (a6 b))(au:(a6 a).length=(a6 b).length){i:Nat}(aa:i<(a6 a).length)(he: ∀j,i<j→j<(a6 a).length→(a6 a).getD j 0=(a6 b).getD j 0)(cd:(a6 a).getD i 0≠(a6 b).getD i 0):
 kc a b=kc ((a6 a).getD i 0) ((a6 b).getD i 0):=by
 rcases zl ((a6 a).getD i 0) ((a6 b).getD i 0) with q|q|q
 ·have:=VM i a8 al au aa he q;rw [hG,hG] at this;rw [Gh q,Gh (vS.2 this)]
 ·exact absurd q cd
 ·have:=VM i al a8 au.symm J (fun j U ab=>(he j U J).symm) q;rw [hG,hG] at this;rw [Gg q,Gg (vS.2 this)]
theorem aaI {a b:Nat}(au:(a6 a).length=(a6 b).length)(he: ∀j,j<(a6 a).length→(a6 a).getD j 0=(a6 b).getD j 0):kc a b=0:=by
 have:a6 a=a6 b:=by apply jS au;intro i U ab;have:=he i U;rw [tX 0 U,tX 0 ab] at this;exact this
 rw [YC (by rw [ahf this])]
theorem acz {B top v1 v2 u2 g:Nat}(z8:0<v1)(ab:u2<B)(c2:g*(v1*B+v2)≤top*B+u2):g≤top/v1:=by
 rw [Nat.le_div_iff_mul_le z8];have:g*v1*B≤top*B+u2:=by refine dN ?_ c2;rw [hk,kH];exact n0 _ _
 have:g*v1*B<(top+1)*B:=by rw [dK];omega
 have:=Nat.lt_of_mul_lt_mul_right this;omega
theorem ank {B top v1 v2 u2 g rest:Nat}(ad:rest+g*v1=top)(c2:g<B)(ab:v2<B):(rest<B∧rest*B+u2<g*v2)↔top*B+u2<g*(v1*B+v2):=by
 have e:g*(v1*B+v2)=g*v1*B+g*v2:=by rw [hk,kH]
 have aJ:top*B=rest*B+g*v1*B:=by rw [←ad,dK]
 rw [e,aJ];constructor
 ·rintro ⟨_,h⟩;omega
 ·intro h;refine ⟨?_,J⟩;rcases gz rest B with q|q
  ·exact q
  ·exfalso;have ay:B*B≤rest*B:=er _ q;have bf:g*v2≤B*B:=jT J J;omega
theorem aki {P w g IF oj c b t y:Nat}(h:w+g*IF=oj+P*(c+b)){ui:Nat}(b':Nat)(ar:(y:Int)=(ui:Int)-((c+t)%B:Nat)-b+B*b'):
 w+P*y+(g*IF+P*t)=oj+P*ui+P*B*((c+t)/B+b'):=by
 have e:P*((c+t)%B)+P*B*((c+t)/B)=P*(c+t):=Oe (c+t) P;have U:(y:Int)+((c+t)%B:Nat)+b=ui+B*b':=J;have ab:y+(c+t)%B+b=ui+B*b':=J;have ay:P*y+P*((c+t)%B)+P*b=P*ui+P*(B*b'):=by rw [←hk,←hk,ab,hk]
 rw [hk (P*B),kH P B b'];rw [hk] at e h;omega
theorem anc {u v g w:Nat}{n b:Nat}(hw:w<B^n)(ai:v<B^n)(hu:u<B^n)(al:b≤1)(h:w+g*v=u+B^n*b)(U:u/v≤g)(ab:g≤u/v+1)(mX:0<v):
 (b=0→g=u/v∧w=u%v)∧(b=1→g=u/v+1∧(w+v)=u%v+B^n):=by
 have hd:=zm u v;have hm:=lx u mX;have aw:v*(u/v)=(u/v)*v:=hj _ _;constructor
 ·intro aU;subst aU;rw [tc,e6] at h;have lb:g≤u/v:=by rw [Nat.le_div_iff_mul_le mX];omega
  have:g=u/v:=J;subst this;exact ⟨I,J⟩
 ·intro aU;subst aU;rw [q6] at h;have c2:g=u/v+1:=by
   rcases gz g (u/v+1) with q|q
   ·exfalso;have:g=u/v:=J;subst this;omega
   ·omega
  subst c2;rw [dK,qi] at h;exact ⟨I,J⟩
end Go.aj.dn
namespace Go.aj.r7
def iq (b:UInt8):List UInt8→List UInt8×List UInt8×Bool
 |[]=>([],[],false)
 |c::r=>if c=b then ([],r,true) else (c::(iq b r).1,(iq b r).2.1,(iq b r).2.2)
theorem YJ {b:UInt8}{s:List UInt8}(h:b∉s):iq b s=(s,[],false):=by
 induction s with
 |nil=>rfl
 |cons c r ba=>
  simp only [fS,not_or] at h;rw [iq,ax (fun e=>h.1 e.symm),ba h.2]
theorem YI {b:UInt8}{l r:List UInt8}(h:b∉l):iq b (l++b::r)=(l,r,true):=by
 induction l with
 |nil=>rw [List.nil_append,iq,aA rfl]
 |cons c q ba=>
  simp only [fS,not_or] at h;rw [oN,iq,ax (fun e=>h.1 e.symm),ba h.2]
theorem Xu (b:UInt8)(s:List UInt8):(iq b s).1.length+(iq b s).2.1.length+(if (iq b s).2.2 then 1 else 0)=s.length:=by
 induction s with
 |nil=>rfl
 |cons c r ba=>
  rw [iq];split
  ·simp
  ·simp only [gK];omega
theorem Ph (b:UInt8)(s:List UInt8):iq b s=if 0≤Lib.indexByte s b then (s.take (Lib.indexByte s b).toNat,s.drop ((Lib.indexByte s b).toNat+1),true) else (s,[],false):=by
 induction s with
 |nil=>rfl
 |cons c r ba=>
  rw [iq,Lib.indexByte];by_cases aw:c=b
  ·subst aw;simp
  ·have al:(c==b)=false:=by simpa using aw
   simp only [al,r9,hH,aw];rw [ba];have lb:=Lib.indexByte_ge r b;by_cases U:Lib.indexByte r b= -1
   ·simp [U]
   ·have ab:(Lib.indexByte r b== -1)=false:=by simpa using U
    simp only [ab,r9,hH];rw [aA J,aA J];have e:(Lib.indexByte r b+1).toNat=(Lib.indexByte r b).toNat+1:=J;rw [e];rfl
def jM (c:UInt8):Prop:=48≤c.toNat∧c.toNat≤57
theorem yM {d:Nat}(h:d<10):jM (UInt8.ofNat (48+d))∧(UInt8.ofNat (48+d)).toNat=48+d:=by
 have e:(UInt8.ofNat (48+d)).toNat=48+d:=by simp;omega
 exact ⟨⟨J,J⟩,e⟩
theorem yx (u:Nat): ∀c∈Lib.decDigits u,jM c:=by
 induction u using Nat.strongRecOn with
 |_ u ba=>
  intro c aw;rw [Lib.decDigits] at aw;split at aw
  ·rename_i h;simp only [hI] at aw;subst aw;exact (yM h).1
  ·rw [gM] at aw;rcases aw with aw|aw
   ·exact ba _ J c aw
   ·simp only [hI] at aw;subst aw;exact (yM (lx _ aT)).1
theorem vf (u:Nat):Lib.decDigits u≠[]:=by rw [Lib.decDigits];split<;>simp
theorem agm (u:Nat):Lib.itoa (u:Int)=Lib.decDigits u:=by unfold Lib.itoa;rw [ax J];simp
def same (v:Int):List Int→Nat
 |[]=>0
 |x::r=>if x=v then same v r+1 else 0
theorem abk {c:UInt8}(h:jM c)(b:UInt8)(al:b.toNat<48∨57<b.toNat):b≠c:=fun e=>by subst e;unfold jM at h;omega
theorem IZ (u:Nat)(b:UInt8)(al:b.toNat<48∨57<b.toNat):b∉Lib.decDigits u:=fun h=>abk (yx u b h) b al rfl
end Go.aj.r7
namespace Go.aj.dn
open Go.aj.r7 (jM yM yx vf)
def Rp (a:Nat)(c:UInt8):Nat:=a*10+(c.toNat-48)
def ej (acc:Nat)(l:List UInt8):Nat:=l.foldl Rp acc
theorem CZ (acc:Nat):ej acc []=acc:=rfl
theorem yC (acc:Nat)(c:UInt8)(r:List UInt8):ej acc (c::r)=ej (acc*10+(c.toNat-48)) r:=by unfold ej;rw [List.foldl_cons,Rp]
theorem N0 (l m:List UInt8)(acc:Nat):ej acc (l++m)=ej (ej acc l) m:=by unfold ej;rw [List.foldl_append]
theorem FY (l:List UInt8)(acc:Nat):ej acc l=acc*10^l.length+ej 0 l:=by
 induction l generalizing acc with
 |nil=>rw [CZ,CZ];simp
 |cons c r ba=>
  rw [yC,yC,ba,ba (0*10+_),gK,ic];generalize c.toNat-48=d;generalize 10^r.length=e;generalize ej 0 r=v;rw [dK,sb,cT,kH,hj 10 e];omega
theorem VT (l:List UInt8)(c:UInt8)(acc:Nat):ej acc (l++[c])=ej acc l*10+(c.toNat-48):=by rw [N0,yC,CZ]
theorem tO (u:Nat):ej 0 (Lib.decDigits u)=u:=by
 induction u using Nat.strongRecOn with
 |_ u ba=>
  rw [Lib.decDigits];split
  ·rename_i h;have:=(yM h).2;rw [yC,CZ,this];omega
  ·have:=(yM (lx u (show 0<10 by decide))).2;rw [VT,ba _ J,this];omega
theorem Kd {l:List UInt8}(h: ∀c∈l,jM c):ej 0 l<10^l.length:=by
 induction l with
 |nil=>rw [CZ];simp
 |cons c r ba=>
  have aw:=h c bX;have i:=ba (fun x ar=>h x (by simp [ar]));unfold jM at aw;rw [yC,FY,gK,ic];have:(c.toNat-48)*10^r.length≤9*10^r.length:=er _ J;rw [sb,cT];generalize 10^r.length=e at*;generalize (c.toNat-48)*e=q at*;omega
theorem YK {c:UInt8}{r:List UInt8}(h:jM c)(aU:c≠48):10^r.length≤ej 0 (c::r):=by unfold jM at h;have aw:c.toNat≠48:=fun e=>aU (UInt8.toNat_inj.1 e);rw [yC,FY];have:1*10^r.length≤(0*10+(c.toNat-48))*10^r.length:=er _ J;generalize (0*10+(c.toNat-48))*10^r.length=q at*;omega
theorem ajQ {α:Type}{p:List α→Prop}(aU:p [])(U: ∀l x,p l→p (l++[x])): ∀l,p l:=by
 intro l;have key: ∀(n:Nat) (l:List α),l.length=n→p l:=by
  intro n;induction n with
  |zero=>intro l au;rw [uu.1 au];exact aU
  |succ n ba=>
   intro l au;have cd:l≠[]:=by intro e;subst e;simp at au
   rw [←List.dropLast_concat_getLast cd];exact U _ _ (ba _ (by simp [au]))
 exact key _ l I
def vA (s:List UInt8):Prop:=s≠[]∧(∀c∈s,jM c)∧(s.getD 0 0≠48∨s.length=1)
theorem IT (u:Nat):vA (Lib.decDigits u):=by
 refine ⟨vf u,yx u,?_⟩;induction u using Nat.strongRecOn with
 |_ u ba=>
  rw [Lib.decDigits];split
  ·exact .inr I
  ·left;rename_i h;have cd:=vf (u/10);rcases ba (u/10) J with U|U
   ·cases aB:Lib.decDigits (u/10) with
    |nil=>exact absurd aB cd
    |cons c r=>rw [aB] at U;simpa using U
   ·have bD:u/10<10:=by have au:=Lib.decDigits_length (u/10);rw [U] at au;have:=Lib.lt_pow_nDigits (u/10);rw [←au] at this;simpa using this
    rw [Lib.decDigits_one bD];simp only [oN,Bl];intro e;have:=congrArg UInt8.toNat e;rw [(yM bD).2] at this;have:(48:UInt8).toNat=48:=rfl;omega
theorem CY {s:List UInt8}(h:vA s):Lib.decDigits (ej 0 s)=s:=by
 obtain ⟨U,ab,ay⟩:=h
 revert U ab ay
 refine ajQ (p:=fun s=>s≠[]→(∀c∈s,jM c)→(s.getD 0 0≠48∨s.length=1)→Lib.decDigits (ej 0 s)=s) ?_ ?_ s
 ·intro h;exact absurd rfl h
 ·intro l c ba _ hd ay;have aw:=hd c bX;have Sc:UInt8.ofNat (48+(c.toNat-48))=c:=by unfold jM at aw;rw [show 48+(c.toNat-48)=c.toNat by omega];simp
  rw [VT];cases l with
  |nil=>
   rw [CZ,List.nil_append,sb,cT];rw [Lib.decDigits,dif_pos (by unfold jM at aw;omega),Sc]
  |cons x r=>
   have ar:x≠48:=by
    rcases ay with ay|ay
    ·simpa using ay
    ·simp at ay
   have afR:=hd x bX;have lb:=YK (r:=r) afR ar;have e1:1≤10^r.length:=Nat.one_le_pow _ _ aT;have i:=ba bX (fun c aw=>hd c (by simp at aw⊢;rcases aw with rfl|aw;exact .inl rfl;exact .inr (.inl aw))) (.inl (by simpa using ar));generalize ej 0 (x::r)=v at*;unfold jM at aw;rw [Lib.decDigits,dif_neg J];rw [show (v*10+(c.toNat-48))/10=v by omega,show (v*10+(c.toNat-48))%10=c.toNat-48 by omega,i,Sc]
theorem NK {a b:Nat}(h:Lib.decDigits a=Lib.decDigits b):a=b:=by rw [←tO a,←tO b,h]
theorem Fp {n k:Nat}(an:1≤k)(h:n<10^k):(Lib.decDigits n).length≤k:=by
 have au:=Lib.decDigits_length n;rcases gz k (Lib.decDigits n).length with bD|lb
 ·exfalso;have aw:=IT n;have ai:=tO n;cases aB:Lib.decDigits n with
  |nil=>exact vf n aB
  |cons c r=>
   rw [aB] at aw ai bD;simp only [gK] at bD;have cd:c≠48:=by
    rcases aw.2.2 with h|h
    ·simpa using h
    ·simp at h;subst h;simp at bD;omega
   have:=YK (r:=r) (aw.2.1 c bX) cd;rw [ai] at this;have:10^k≤10^r.length:=fF aT J;omega
 ·exact lb
theorem yE (n:Nat):n<10^(Lib.decDigits n).length:=by
 have:=Kd (yx n)
 rwa [tO] at this
def pad (k m:Nat):List UInt8:=List.replicate (k-(Lib.decDigits m).length) 48++Lib.decDigits m
theorem ana (k:Nat)(l:List UInt8):ej 0 (List.replicate k 48++l)=ej 0 l:=by
 induction k with
 |zero=>rfl
 |succ k ba=>rw [List.replicate_succ,oN,yC];exact ba
theorem ahK {k m:Nat}(an:1≤k)(h:m<10^k):(pad k m).length=k:=by have:=Fp an h;unfold pad;simp;omega
theorem aoZ (k m:Nat): ∀c∈pad k m,jM c:=by
 intro c aw;unfold pad at aw;rcases gM.1 aw with h|h
 ·rw [(Bn.1 h).2];exact ⟨aT,aT⟩
 ·exact yx m c h
theorem alN {n k:Nat}(an:1≤k)(h:10^k≤n):Lib.decDigits n=Lib.decDigits (n/10^k)++pad k (n%10^k):=by
 have aF:0<10^k:=lW aT;have hm:=lx n aF;have hd:n/10^k≠0:=by have:=Nat.div_pos h aF;omega
 have aw:=IT (n/10^k);have adH:vA (Lib.decDigits (n/10^k)++pad k (n%10^k)):=by
  refine ⟨by simp [aw.1],fun c pG=> ?_,.inl ?_⟩
  ·rcases gM.1 pG with h|h
   ·exact aw.2.1 c h
   ·exact aoZ _ _ c h
  ·cases aB:Lib.decDigits (n/10^k) with
   |nil=>exact absurd aB aw.1
   |cons c r=>
    rw [aB] at aw;simp only [oN,Bl];rcases aw.2.2 with h|h
    ·simpa using h
    ·simp only [gK,Nat.add_eq_right,uu] at h;subst h;intro e;subst e;have:=tO (n/10^k);rw [aB] at this;exact hd (this.symm.trans aT)
 have ai:ej 0 (Lib.decDigits (n/10^k)++pad k (n%10^k))=n:=by
  rw [N0,tO,FY,ahK an hm];have:ej 0 (pad k (n%10^k))=n%10^k:=by unfold pad;rw [ana,tO]
  rw [this,hj];exact zm n _
 have:=CY adH;rw [ai] at this;exact this
end Go.aj.dn
namespace Go.aj
open Go.aj.dn
variable [bA]
def nh (l:List Int):ak:= .ro (.ints .u32 l) 0 l.length
def bB (n:Nat):ak:= .ro (.ints .u32 (a6 n)) 0 (a6 n).length
theorem aR.agM {l:List Int}{k n:Nat}(h:l.take k=a6 n)(an:k≤l.length):aR (.ro (.ints .u32 l) 0 k) (bB n):=by
 have au:(a6 n).length=k:=by rw [←h,fc,hY an]
 refine aR.trans aR.take ?_;rw [h];unfold bB;rw [au];exact aR.uW
theorem aR.M7:aR .nil (bB 0):=by
 have:bB 0= .ro (.ints .u32 []) 0 0:=by unfold bB;rw [rA];rfl
 rw [this];exact aR.nil
theorem As {n:Nat}:0<(a6 n).length↔n≠0:=by
 have bZ:= ‹bA›;constructor
 ·rintro h rfl;rw [rA] at h;simp at h
 ·intro h;rcases n2 (a6 n).length with q|q
  ·exact absurd (ahg.1 (uu.1 q)) h
  ·exact q
end Go.aj
namespace Go.aj.dn
def fZ:Nat→Nat→List Int
 |0,_=>[]
 |k+1,v=>((v%4294967296:Nat):Int)::fZ k (v/4294967296)
theorem qN: ∀(k v:Nat),(fZ k v).length=k
 |0,_=>rfl
 |k+1,v=>by rw [fZ,gK,qN]
theorem C2: ∀(k v:Nat),cS (fZ k v)
 |0,_=>cS.nil
 |k+1,v=>by rw [fZ,cS.cons];exact ⟨vo v,C2 k _⟩
theorem J1: ∀(k v:Nat),v<B^k→bx (fZ k v)=v
 |0,v,h=>by simp at h;subst h;rfl
 |k+1,v,h=>by
  rw [fZ,bx,cg,J1 k]
  ·unfold B;omega
  ·rw [ic,hj] at h;exact xz h
theorem Dh: ∀{l:List Int} {k v:Nat},cS l→l.length=k→bx l=v→l=fZ k v
 |[],k,v,_,an,_=>by simp at an;subst an;rfl
 |x::r,k,v,h,an,ai=>by
  rw [cS.cons] at h;obtain ⟨m,rfl⟩: ∃m,k=m+1:=⟨r.length,by simpa using an.symm⟩
  rw [bx] at ai;subst ai;have ar:x.toNat<4294967296:=J;rw [fZ,Nat.add_mul_mod_self_left,np ar,Nat.add_mul_div_left _ _ aT,oJ ar,cT];rw [←Dh h.2 (by simpa using an) rfl];congr 1;omega
theorem F2 {A dE C:List Int}{j i:Nat}(ae:A.length=j)(h:i<dE.length):(A++(dE++C)).getD (j+i) 0=dE.getD i 0:=by subst ae;simp only [List.getD];rw [ib J,vN,hQ h]
theorem Ze {A dE C:List Int}{j i:Nat}{x:Int}(ae:A.length=j)(h:i<dE.length):(A++(dE++C)).set (j+i) x=A++(dE.set i x++C):=by subst ae;rw [Bp _ _ J,vN,List.set_append_left _ _ h]
theorem NO {l:List Int}{i:Nat}{x:Int}(h:i<l.length):(l.set i x).take (i+1)=l.take i++[x]:=by
 have ab:i<(l.set i x).length:=by simpa using h
 rw [pT (l.set i x) 0 i ab];congr 1
 ·rw [List.take_set_of_le (bT _)]
 ·simp [List.getD,h]
theorem aky {dE:List Int}{s oj iA u2:Nat}(av:2≤s)(au:dE.length=s+1)(h:cS dE)(aU:dE.getD s 0=(oj:Int))(U:dE.getD (s-1) 0=(iA:Int))(ab:dE.getD (s-2) 0=(u2:Int)):
 ∃low,low<B^(s-2)∧bx dE=low+((oj*4294967296+iA)*4294967296+u2)*B^(s-2):=by
 refine ⟨bx (dE.take (s-2)),?_,?_⟩
 ·have:=jH (h.take (s-2))
  rwa [fc,hY J] at this
 ·have e:bx dE=bx (dE.take (s-2+1+1+1)):=by rw [kI J]
  rw [e,my,my,my,show s-2+1+1=s by omega,show s-2+1=s-1 by omega,aU,U,ab];simp only [cg];have c6:B^(s-1)=B^(s-2)*4294967296:=by rw [show s-1=s-2+1 by omega,ic]
  have oY:B^s=B^(s-2)*4294967296*4294967296:=by rw [show s=s-2+1+1 by omega,ic,ic];rfl
  rw [c6,oY];generalize B^(s-2)=p;rw [dK,dK,dK];rw [show p*4294967296*4294967296*oj=oj*4294967296*4294967296*p by ac_rfl,show p*4294967296*iA=iA*4294967296*p by ac_rfl,hj p u2];omega
theorem akx {V:List Int}{s v1 v2:Nat}(av:2≤s)(au:V.length=s)(h:cS V)(U:V.getD (s-1) 0=(v1:Int))(ab:V.getD (s-2) 0=(v2:Int)):
 ∃low,low<B^(s-2)∧bx V=low+(v1*4294967296+v2)*B^(s-2):=by
 refine ⟨bx (V.take (s-2)),?_,?_⟩
 ·have:=jH (h.take (s-2))
  rwa [fc,hY J] at this
 ·have e:bx V=bx (V.take (s-2+1+1)):=by rw [kI J]
  rw [e,my,my,show s-2+1=s-1 by omega,U,ab];simp only [cg];have c6:B^(s-1)=B^(s-2)*4294967296:=by rw [show s-1=s-2+1 by omega,ic]
  rw [c6];generalize B^(s-2)=p;rw [dK,show p*4294967296*v1=v1*4294967296*p by ac_rfl,hj p v2];omega
theorem abT {u v K6 zf P g M4 yb:Nat}(la:0<P)(Ss:M4<P)(Rt:u=M4+K6*P)(BW:yb<P)(bG:v=yb+zf*P)(RT:4294967296≤zf)(bD:u<4294967296*v)(c2:g≤4294967295)(HF:g*zf≤K6)(EJ: ∀mP,mP≤4294967295→mP*zf≤K6→mP≤g):u/v≤g∧g≤u/v+1:=by
 have mX:0<v:=by have:1*P≤zf*P:=er _ J;omega
 have aB:u/v≤4294967295:=by have:=xz (n:=v) (k:=4294967296) (m:=u) (by rw [hj];exact bD);omega
 constructor
 ·refine EJ _ aB (abU (u:=u) (v:=v) la ?_ ?_ (Nat.div_mul_le_self u v))
  ·rw [dK];omega
  ·omega
 ·rcases n2 g with q|q
  ·rw [q];exact b7 _
  ·have:=abV (u:=u) (v:=v) (P:=P) la J (by rw [dK];omega) HF J q;have ay:g-1≤u/v:=by rw [Nat.le_div_iff_mul_le mX];exact this
   omega
theorem Lk {dE V:List Int}{s oj iA u2 v1 v2 g:Nat}(av:2≤s)(au:dE.length=s+1)(BW:V.length=s)(h:cS dE)(ai:cS V)(aU:dE.getD s 0=(oj:Int))(U:dE.getD (s-1) 0=(iA:Int))(ab:dE.getD (s-2) 0=(u2:Int))(ee:V.getD (s-1) 0=(v1:Int))(fg:V.getD (s-2) 0=(v2:Int))(ME:2147483648≤v1)(bD:bx dE<4294967296*bx V)(c2:g≤4294967295)(HF:g*(v1*4294967296+v2)≤(oj*4294967296+iA)*4294967296+u2)(EJ: ∀mP,mP≤4294967295→mP*(v1*4294967296+v2)≤(oj*4294967296+iA)*4294967296+u2→mP≤g):bx dE/bx V≤g∧g≤bx dE/bx V+1:=by obtain ⟨M4,Ss,Rt⟩:=aky av au h aU U ab;obtain ⟨yb,aeJ,bG⟩:=akx av BW ai ee fg;exact abT (Ha _) Ss Rt aeJ bG J bD c2 HF EJ
theorem ZQ (m:Nat):m &&& 4294967295=m%4294967296:=by have:=Nat.and_two_pow_sub_one_eq_mod m 32;have e:2^32-1=4294967295:=aT;rw [e,TB] at this;exact this
theorem ane {ml dE V:List Int}{i g dx iK ui iB yv b':Nat}(aa:i<ml.length)(h:bx (ml.take i)+g*bx (V.take i)=bx (dE.take i)+B^i*(dx+iK))(hu:dE.getD i 0=(ui:Int))(ai:V.getD i 0=(iB:Int))(a1:yv+((dx+g*iB)%4294967296+iK)=ui+4294967296*b'):
 bx ((ml.set i (yv:Int)).take (i+1))+g*bx (V.take (i+1))=bx (dE.take (i+1))+B^(i+1)*((dx+g*iB)/4294967296+b'):=by rw [NO aa,AB,fc,hY J,my,my,hu,ai,cg,cg,cg,ic];have:=aki (P:=B^i) h b' (t:=g*iB) (y:=yv) (ui:=ui) (by unfold B;omega);rw [hk,Nat.mul_left_comm g (B^i) iB];exact this
theorem aoj {a iK e:Nat}(a8:a<4294967296)(he:e<4294967296)(al:iK≤1): ∃yv b':Nat,yv+(e+iK)=a+4294967296*b'∧b'≤1∧yv<4294967296∧((a:Int)-e-iK<0→b'=1∧(yv:Int)=a-e-iK+4294967296)∧(¬(a:Int)-e-iK<0→b'=0∧(yv:Int)=a-e-iK):=by
 rcases gz a (e+iK) with q|q
 ·exact ⟨a+4294967296-(e+iK),1,J,J,J,fun h=>⟨I,J⟩,fun h=>by omega⟩
 ·exact ⟨a-(e+iK),0,J,J,J,fun h=>by omega,fun h=>⟨I,J⟩⟩
theorem aoc {ml dE V:List Int}{i sm ui iB:Nat}(aa:i<ml.length)(h:bx (ml.take i)+B^i*sm=bx (dE.take i)+bx (V.take i))(hu:dE.getD i 0=(ui:Int))(ai:V.getD i 0=(iB:Int)):
 bx ((ml.set i (((sm+ui+iB)%4294967296:Nat):Int)).take (i+1))+B^(i+1)*((sm+ui+iB)/4294967296)=bx (dE.take (i+1))+bx (V.take (i+1)):=by rw [NO aa];exact W9 (by simp;omega) h hu ai
end Go.aj.dn
