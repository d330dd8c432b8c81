import Derived.Lib.Bytealg
import Derived.Laws.Externs
import Derived.Laws.CopyRow
import Derived.OpenShut
import Derived.Laws.StructEq
import Derived.ChangeKeysEq
import Derived.WideLaws
import Derived.Laws.Bits64
import Derived.Laws.BitsLemmas
import Derived.Lib.AppendStr
import Derived.Lib.UnsafeStr
import Derived.Lib.Builder
import Derived.Laws.Small
import Derived.MapKept
import Derived.Laws.IdiomStrings
import Derived.Lib.ItoaNum
import Derived.Lib.AtoiAll
import Derived.Test.YtmpnheilfejcpaaGreatDoorP2
set_option linter.unusedVariables false
set_option linter.unusedSimpArgs false
namespace Go.aj
variable [bx]
open Go.RowKit
theorem cd.ahS {c:Ctx} {w:World} {a:Act} {σ:Nat→Option bP} {S:Nat→Prop} {n:Nat} {fr:Fr} {H:aY} (ad:cd c w a σ S n fr H) {o:bm} (ai:o.c.len=0):cd c w a (cZ σ H.length .l9) S n fr (H++[some o]):=by
 have oj: ∀h B,σ h=some B→cZ σ H.length .l9 h=some B:=by
  intro h B cf;unfold cZ;split
  ·rename_i he;rw [he,ad.ad.ie _ (bN _)] at cf;cases cf
  ·exact cf
 have af: ∀{x v},bz w S σ x v→bz w S (cZ σ H.length .l9) x v:=fun h=>h.mono (fun _ h=>h) (fun _ _=>rfl) _ oj;have c7: ∀(aS:Nat) (o':bm),(H++[some o])[aS]? =some (some o')→(aS=H.length∧o'=o)∨(aS<H.length∧H[aS]? =some (some o')):=by
  intro aS o' ai;by_cases he:aS<H.length
  ·rw [ic he] at ai;exact .inr ⟨he,ai⟩
  ·by_cases ki:aS=H.length
   ·subst ki;simp at ai;exact .inl ⟨rfl,ai.symm⟩
   ·have:(H++[some o]).length≤aS:=by simp;omega
    rw [kD this] at ai;cases ai
 have o4: ∀h,h<H.length→cZ σ H.length .l9 h=σ h:=fun h au=>by simp [cZ,pQ au]
 have hN:cZ σ H.length .l9 H.length=some .l9:=by simp [cZ]
 refine ⟨⟨?_,?_,ad.ad.small,fun h au=> ?_⟩,⟨ad.bk.os,ad.bk.output,ad.bk.tape,ad.bk.size,ad.bk.block,ad.bk.hV,ad.bk.fb,fun h aR=>by rw [o4 h (ad.bk.jF h aR)];exact ad.bk.fixed h aR,fun h aR=>by have:=ad.bk.jF h aR;simp;omega,?_⟩,ad.defers,ad.size,fun t v au=>⟨(ad.fl t v au).1,af (ad.fl t v au).2⟩⟩
 ·intro aS o' cN;rcases c7 aS o' cN with ⟨rfl,rfl⟩|⟨bG,cN⟩
  ·exact .inl ⟨hN,ai⟩
  ·rcases ad.ad.live aS o' cN with ⟨aG,jH⟩|⟨b',cM,ja,g1,g2,g3,g4,g5,g6,g7⟩
   ·exact .inl ⟨oj _ _ aG,jH⟩
   ·right;refine ⟨b',cM,ja,oj _ _ g1,g2.mono I af,g3,g4,g5,g6,fun i j aa ae=> ?_⟩;obtain ⟨v,aE,aF,bO⟩:=g7 i j aa ae;exact ⟨v,aE,af aF,bO⟩
 ·intro U ab o1 o2 b s1 gL s2 gx bQ bX aE aF;rcases c7 U o1 bQ with ⟨rfl,rfl⟩|⟨fH,Cf⟩
  ·rw [hN] at aE;cases aE
  ·rcases c7 ab o2 bX with ⟨rfl,rfl⟩|⟨fu,Cg⟩
   ·rw [hN] at aF;cases aF
   ·rw [o4 U fH] at aE;rw [o4 ab fu] at aF;exact ad.ad.hB U ab o1 o2 b s1 gL s2 gx Cf Cg aE aF
 ·simp only [di,gu,k6] at au;have: ¬h=H.length:=J;simp only [cZ,this,hA];exact ad.ad.ie h J
 ·intro aS o' b s C ai ak;rcases c7 aS o' ai with ⟨rfl,rfl⟩|⟨bG,cN⟩
  ·rw [hN] at ak;cases ak
  ·rw [o4 aS bG] at ak;exact ad.bk.own aS o' b s C cN ak
theorem cd.ajq {c:Ctx}{w:World}{a:Act}{σ:Nat→Option bP}{S:Nat→Prop}{n:Nat}{fr:Fr}{H:aY}(ad:cd c w a σ S n fr H){h:Nat}{o:bm}(aX:H[h]? =some (some o)){c':Cells}(U:c'.len=o.c.len)(ab:c'.b7=o.c.b7)(ay: ∀i j v,i<o.c.len→j<o.c.aI→bz w S σ (o.c.at i j) v→bz w S σ (c'.at i j) v):cd c w a σ S n fr (H.set h (some ⟨o.ty,c'⟩)):=by
 have bG:h<H.length:=(gZ.1 aX).1;have c7: ∀(aS:Nat) (o':bm),(H.set h (some ⟨o.ty,c'⟩))[aS]? =some (some o')→ ∃dt:bm,H[aS]? =some (some dt)∧o'.ty=dt.ty∧o'.c.len=dt.c.len∧o'.c.b7=dt.c.b7∧ ∀i j v,i<dt.c.len→j<dt.c.aI→bz w S σ (dt.c.at i j) v→bz w S σ (o'.c.at i j) v:=by
  intro aS o' ai;by_cases he:aS=h
  ·subst he;simp only [oP bG,dG] at ai;subst ai;exact ⟨o,aX,I,U,ab,ay⟩
  ·rw [lW (ra he)] at ai;exact ⟨o',ai,I,I,I,fun _ _ _ _ _ h=>h⟩
 refine ⟨⟨fun aS o' ai=> ?_,fun U ab o1 o2 b s C ct cM bQ bX aE aF=> ?_,ad.ad.small,fun aS au=>ad.ad.ie aS (by simpa using au)⟩,⟨ad.bk.os,ad.bk.output,ad.bk.tape,ad.bk.size,ad.bk.block,ad.bk.hV,ad.bk.fb,ad.bk.fixed,fun aS aR=>by simpa using ad.bk.jF aS aR,fun aS o' b s C q e=> ?_⟩,ad.defers,ad.size,ad.fl⟩
 ·obtain ⟨dt,U,ab,ay,bc,bI⟩:=c7 aS o' ai;rw [ay,A1 bc];rcases ad.ad.live aS dt U with g|⟨b,C,cur,g1,g2,g3,g4,g5,g6,g7⟩
  ·exact .inl g
  ·exact .inr ⟨b,C,cur,g1,g2.b7 ab bc,g3,g4,g5,g6,fun i j aa ae=>by
    obtain ⟨v,aE,aF,bO⟩:=g7 i j aa ae;exact ⟨v,aE,bI i j v aa ae aF,bO⟩⟩
 ·obtain ⟨p,c4,_⟩:=c7 U o1 bQ;obtain ⟨p1,Ak,_⟩:=c7 ab o2 bX;exact ad.ad.hB U ab p p1 b s C ct cM c4 Ak aE aF
 ·obtain ⟨p,c4,_⟩:=c7 aS o' q;exact ad.bk.own aS p b s C c4 e
section
variable {P:Program}{fn:Func}{c:Ctx}{fr:Fr}{H:aY}{k:List eO}
end
def vR (gR:aY)(x y:ao):Prop:=y=x∨y= .any∨(y=x.kL gR∧nL gR x)
def D7 (gR:aY)(fr:Fr):Fr→Prop
 |[]=>True
 |(t,y)::r=>(∃x,look t fr=some x∧vR gR x y)∧D7 gR fr r
theorem aht {gR:aY}{fr L:Fr}{t:Nat}{y:ao}(h:D7 gR fr L)(au:look t L=some y): ∃x,look t fr=some x∧vR gR x y:=by
 have bY:= ‹bx›;induction L with
 |nil=>simp [look] at au
 |cons p r a6=>
  obtain ⟨u,x⟩:=p;obtain ⟨U,ab⟩:=h;simp only [look] at au;by_cases he:t=u
  ·subst he;simp at au;subst au;exact U
  ·have ak:Nat.beq t u=false:=dz he;simp [ak] at au;exact a6 ab au
theorem cd.freeze {c:Ctx}{w:World}{a:Act}{σ:Nat→Option bP}{S:Nat→Prop}{n:Nat}{fr L:Fr}{H:aY}(ad:cd c w a σ S n fr H)(gR bK:aY)(je:w0 gR H)(fk: ∀(h:Nat) (o:bm),gR[h]? =some (some o)→e5 o.c)(hlen:bK.length=H.length)(lf: ∀(h:Nat) (o':bm),bK[h]? =some (some o')→(∀o:bm,gR[h]? ≠some (some o))∧ ∃o:bm,H[h]? =some (some o)∧o'.ty=o.ty∧o'.c.len=o.c.len∧o'.c.b7=o.c.b7∧ ∀i j,i<o.c.len→j<o.c.aI→vR gR (o.c.at i j) (o'.c.at i j))(cB:D7 gR fr L): ∃cb,cd c w a σ cb n L bK:=by
 have Mk:A3 w S σ gR:=fun h o ai=>ad.ad.live h o (je h o ai)
 let cb:Nat→Prop:=fun b=>S b∨ ∃h o s C,gR[h]? =some (some o)∧σ h=some (.at b s C)
 have kM: ∀{mR:Nat→Option bP} {x v},bz w S mR x v→bz w cb mR x v:=fun h=>h.mono (fun _ h=> .inl h) (fun _ _=>rfl) _ (fun _ _ h=>h);have BJ: ∀{x y v},vR gR x y→bz w S σ x v→bz w cb σ y v:=by
  intro x y v h af;rcases h with rfl|rfl|⟨rfl,ei⟩
  ·exact kM af
  ·exact .any _ _
  ·exact bz.freeze Mk fk (fun _ h=> .inl h) (fun h o b s C U ab=> .inr ⟨h,o,s,C,U,ab⟩) af σ ei
 refine ⟨cb,⟨fun h o' cN=> ?_,fun U ab o1 o2 b s C ct cM bQ bX aE aF=> ?_,fun b ak=> ?_,fun h au=>ad.ad.ie h J⟩,⟨ad.bk.os,ad.bk.output,ad.bk.tape,ad.bk.size,ad.bk.block,fun b ak=> .inl (ad.bk.hV b ak),fun b ak=> ?_,ad.bk.fixed,fun h aR=>by rw [hlen];exact ad.bk.jF h aR,fun h o b s C q e=> ?_⟩,ad.defers,ad.size,fun t y a1=> ?_⟩
 ·obtain ⟨e2,o,U,ab,ay,bc,bI⟩:=lf h o' cN;rw [ay,A1 bc];rcases ad.ad.live h o U with g|⟨b,C,cur,g1,g2,g3,g4,g5,g6,g7⟩
  ·exact .inl g
  ·refine .inr ⟨b,C,cur,g1,(g2.mono I kM).b7 ab bc,g3,g4,g5,?_,fun i j aa ae=> ?_⟩
   ·rintro (az|⟨aS,o2,s2,gx,bQ,bX⟩)
    ·exact g6 az
    ·have:=ad.ad.hB h aS o o2 b _ C s2 gx U (je aS o2 bQ) g1 bX;subst this;exact e2 o2 bQ
   ·obtain ⟨v,aE,aF,bO⟩:=g7 i j aa ae;exact ⟨v,aE,BJ (bI i j aa ae) aF,bO⟩
 ·obtain ⟨_,p,c4,_⟩:=lf U o1 bQ;obtain ⟨_,p1,Ak,_⟩:=lf ab o2 bX;exact ad.ad.hB U ab p p1 b s C ct cM c4 Ak aE aF
 ·rcases ak with az|⟨h,o,s,C,bQ,bX⟩
  ·exact ad.ad.small b az
  ·obtain ⟨_,ja,g,_⟩:=ad.obj (je h o bQ) bX;exact g.lt
 ·rcases ak with az|⟨h,o,s,C,bQ,bX⟩
  ·exact ad.bk.fb b az
  ·rcases ad.bk.own h o b s C (je h o bQ) bX with g|g
   ·exact .inr (.inl g)
   ·exact .inr (.inr g)
 ·obtain ⟨_,p,c4,_⟩:=lf h o q;exact ad.bk.own h p b s C c4 e
 ·obtain ⟨x,al,aR⟩:=aht cB a1;exact ⟨(ad.fl t x al).1,BJ aR (ad.fl t x al).2⟩
section
variable {P:Program}{fn:Func}{c:Ctx}{fr:Fr}{H:aY}{k:List eO}
theorem Jq {x:Code}(gR bK:aY)(L:Fr)(je:w0 gR H)(fk: ∀(h:Nat) (o:bm),gR[h]? =some (some o)→e5 o.c)(hlen:bK.length=H.length)(lf: ∀(h:Nat) (o':bm),bK[h]? =some (some o')→(∀o:bm,gR[h]? ≠some (some o))∧ ∃o:bm,H[h]? =some (some o)∧o'.ty=o.ty∧o'.c.len=o.c.len∧o'.c.b7=o.c.b7∧ ∀i j,i<o.c.len→j<o.c.aI→vR gR (o.c.at i j) (o'.c.at i j))(cB:D7 gR fr L)(an:aj P fn c (.code x k) L bK):aj P fn c (.code x k) fr H:=by intro w a σ S ad;obtain ⟨cb,fU⟩:=ad.freeze gR bK je fk hlen lf cB;exact an w a σ cb fU
theorem jv {x:Code}(bK:aY)(he:H=bK)(an:aj P fn c (.code x k) fr bK):aj P fn c (.code x k) fr H:=he▸an
theorem NU {all:Array Oper}{fuel:Nat}{listed:Array Bool}(bK:aY)(az:aP H bK)(h:aj P fn c (.any all fuel listed k) fr bK):aj P fn c (.any all fuel listed k) fr H:=
 fun w a σ S ad=>h w a σ S (ad.heap az)
theorem tR {all:Array Oper}{fuel:Nat}{listed:Array Bool}(t:Nat){v:ao}(y:ao)(au:look t fr=some v)(h:aU v y)(an:aj P fn c (.any all fuel listed k) ((t,y)::fr) H):aj P fn c (.any all fuel listed k) fr H:=
 fun w a σ S ad=>an w a σ S (ad.slot au h)
end
end Go.aj
namespace Go.aj
variable [bx]
open Go.RowKit
section
variable {ind:Bool}{P:Program}{fn:Func}{c:Ctx}{fr:Fr}{H:aY}{k:List eO}
variable {d:Option Nat}{ty:TypeId}{pos:String}{after:Array Edge}{RK:Option (Nat×Bool)}
theorem aiS {g:Operand}{args:List Operand}{hZ:Array TypeId}{f:FuncId}{mx:Func}{e:Array Value→Sem Value}{dZ:List ao}{r:ao}(c9:bH fr g=some (.fn f []))(aW:lb fr args=some dZ)(aR:P.funcs[f]? =some mx)(Ms:(mx.name== "runtime.NumGoroutine")=false)(ak:mx.body.isNone=true)(aG:Extern.findNext mx=none)(he:Extern.find mx=some e)(eR: ∀w S σ dH,pH w S σ dZ dH→ ∃x,bz w S σ r x∧ ∀w',(e dH).run P w'= .ok x w'):
 bZ ind P fn c fr H ⟨d,.call {callee:= .value g,args:=args.toArray,argTypes:=hZ},ty,pos,after,RK⟩ r:=by
 intro w a σ S ad;have U:=ad.ek c9;obtain ⟨aE,aF⟩:=FT ad args dZ aW;generalize bB:a.eval g=z at U;cases U with
 |fn _ _ _ vs au af=>
  have EV:vs= #[]:=by
   have:vs.size=0:=by simpa using au
   exact Array.eq_empty_of_size_eq_zero this
  subst EV;have nd:pH w S σ dZ (args.map a.eval).toArray:=by
   refine ⟨by simp [aE],fun i aa=> ?_⟩;have:=aF i aa;have bG:i<args.length:=J;have kK:(args.map a.eval).toArray.getD i undef=(args.map a.eval).getD i undef:=by simp [List.getD,bG]
   rw [kK];exact this
  obtain ⟨x,Af,hp⟩:=eR w S σ _ nd;refine ⟨x,Af,fun w' _=> ?_⟩;have av:=run_callFunc_extern (P:=P) aR Ms ak aG he (args.map a.eval).toArray w';rw [hp w'] at av;simp only [execOp,resolve,bB,Deferred.ofValue,Sem.run_bind,Sem.run_pure,Result.andThen_ok,invoke,List.map_toArray,Array.empty_append,Array.append_empty] at av⊢;exact av
theorem pH.aky {w:World}{S:Nat→Prop}{σ:Nat→Option bP}{s:List UInt8}{b:Int}{dH:Array Value}(h:pH w S σ [.str s,.int .u8 b] dH):dH= #[pD s,.int .u8 b]:=by
 have bY:= ‹bx›;obtain ⟨U,ab⟩:=h;have a:=ab 0 b1;have b':=ab 1 b1;apply Array.ext
 ·simpa using U
 ·intro i wE mA;have bG:i<2:=by simpa using mA
  match i,bG with
  |0,_=>
   simp only [Bi,Array.getD,wE,vV] at a;generalize af:dH[0]=v at*;have ry:dH.getInternal 0 wE=v:=af;rw [ry] at a;cases a;rfl
  |1,_=>
   simp only [List.getD_cons_succ,Bi,Array.getD,wE,vV] at b';generalize af:dH[1]=v at*;have ry:dH.getInternal 1 wE=v:=af;rw [ry] at b';cases b';rfl
theorem amV {g x y:Operand}{hZ:Array TypeId}{f:FuncId}{mx:Func}{s:List UInt8}{b:Int}(c9:bH fr g=some (.fn f []))(al:bH fr x=some (.str s))(a1:bH fr y=some (.int .u8 b))(aR:P.funcs[f]? =some mx)(Ms:(mx.name== "runtime.NumGoroutine")=false)(ak:mx.body.isNone=true)(aG:Extern.findNext mx=none)(he:Extern.find mx=some Extern.BytealgIndexByte.indexByte):
 bZ ind P fn c fr H ⟨d,.call {callee:= .value g,args:= #[x,y],argTypes:=hZ},ty,pos,after,RK⟩ (.int .i64 (Lib.indexByte s b.toNat.toUInt8)):=
 aiS (args:=[x,y]) (dZ:=[.str s,.int .u8 b]) c9 (by simp [lb,al,a1]) aR Ms ak aG he (fun w S σ dH af=>⟨_,.int _ _ _,fun w'=>by rw [af.aky];exact Lib.run_indexByteString _ _ _⟩)
end
theorem aU.akZ {x x' y:ao}(h:aU x x'):aU (.ck [x,y]) (.ck [x',y]):=by
 have bY:= ‹bx›;intro w S σ v af;cases af with
 |ck _ _ vs au af=>
  refine .ck _ _ _ au (fun i aa=> ?_);have:=af i aa
  match i,aa with
  |0,_=>exact h _ _ _ _ this
  |1,_=>exact this
theorem cm.res {P:Program}{f:FuncId}{args:List ao}{H:aY}{fix:Nat→Prop}{K kB:ao→aY→Prop}(av:cm P f args H fix K)(dE: ∀r bK,K r bK→ ∃dF,aU r dF∧kB dF bK):cm P f args H fix kB:=by refine ⟨av.1,fun w σ S dH aM U ab ay=>Calls.mono (av.2 w σ S dH aM U ab ay) fun e w' he=> ?_⟩;obtain ⟨v,r,bC,cb,bK,g1,g2,g3,g4,g5⟩:=he;obtain ⟨dF,Aa,BZ⟩:=dE _ _ g5;exact ⟨v,dF,bC,cb,bK,g1,g2,Aa _ _ _ _ g3,⟨g4.os,g4.output,g4.tape,g4.size,g4.block,g4.hV,g4.fb,g4.fixed,g4.jF,g4.own⟩,BZ⟩
def xy:List ao→List ao→Prop
 |[],[]=>True
 |x::r,y::q=>aU x y∧xy r q
 |_,_=>False
theorem xy.length: ∀{a b:List ao},xy a b→a.length=b.length
 |[],[],_=>have bY:= ‹bx›;rfl
 |_::r,_::q,h=>by simp [xy.length h.2]
 |[],_::_,h=>h.elim
 |_::_,[],h=>h.elim
theorem xy.get: ∀{a b:List ao},xy a b→ ∀i,i<a.length→aU (a.getD i .any) (b.getD i .any)
 |[],[],_,i,aa=>by have bY:= ‹bx›;simp at aa
 |x::r,y::q,h,0,_=>h.1
 |x::r,y::q,h,i+1,aa=>by simpa using xy.get h.2 i (by simpa using aa)
 |[],_::_,h,_,_=>h.elim
 |_::_,[],h,_,_=>h.elim
theorem br.res {P:Program}{f:FuncId}{args:List ao}{r dF:ao}(av:br P f args r)(h:aU r dF):br P f args dF:=
 fun H=>(av H).res fun _ _ ⟨U,ab⟩=>⟨dF,U▸h,rfl,ab⟩
end Go.aj
namespace Go.aj
variable [bx]
open Go.RowKit
section
variable {ind:Bool}{P:Program}{fn:Func}{c:Ctx}{fr:Fr}{H:aY}{k:List eO}
variable {d:Option Nat}{ty:TypeId}{pos:String}{after:Array Edge}{g:Option (Nat×Bool)}
theorem U2 {x ix:Operand}{t e:TypeId}{n h i j rD:Nat}{eC:IntKind}{m:Int}(bu:P.underlying t=some (.array n e))(az:(P.info? e).map (·.size)=some 1)(al:bH fr x=some (.ptr h i j))(aa:bH fr ix=some (.int eC m))(ae:j+m.toNat=rD)(ak:0≤m∧m<n):
 bZ ind P fn c fr H ⟨d,.indexAddr t x ix,ty,pos,after,g⟩ (.ptr h i rD):=by
 intro w a σ S ad;have U:=ad.ek al;have ab:=ad.fq aa;subst ae;generalize bB:a.eval x=z at U;cases U with
 |ptr _ _ _ _ b s C bL=>
  refine ⟨_,.ptr _ h i (j+m.toNat) b s C bL,fun w' _=> ?_⟩;cases aA:P.info? e with
  |none=>simp [aA] at az
  |some inf=>
   have cy:inf.size=1:=by simpa [aA] using az
   simp [execOp,bB,ab,Instr.indexAt,Instr.sureAddr,asIntOf,run_underlying bu,ak,sizeOf,typeInfo,aA,cy,Addr.add_lit,jU]
theorem Jo {x ix:Operand}{t e:TypeId}{n i j rD:Nat}{eb:Cells}{eC:IntKind}{m:Int}(bu:P.underlying t=some (.array n e))(az:(P.info? e).map (·.size)=some 1)(al:bH fr x=some (.cK eb i j))(aa:bH fr ix=some (.int eC m))(ae:j+m.toNat=rD)(ak:0≤m∧m<n):
 bZ ind P fn c fr H ⟨d,.indexAddr t x ix,ty,pos,after,g⟩ (.cK eb i rD):=by
 intro w a σ S ad;have U:=ad.ek al;have ab:=ad.fq aa;subst ae;generalize bB:a.eval x=z at U;cases U with
 |cK _ _ _ _ b o val dm av iy gF=>
  refine ⟨.pointer (some ⟨b,o+m.toNat,none⟩),.cK _ _ _ _ _ _ (fun e=>val (m.toNat+e)) dm (fun e he=> ?_) (fun e he=> ?_) (fun e he=>gF _ J),fun w' _=> ?_⟩
  ·have:=av (m.toNat+e) J
   rwa [←jU] at this
  ·have:=iy (m.toNat+e) J
   rwa [←jU] at this
  ·cases aA:P.info? e with
   |none=>simp [aA] at az
   |some inf=>
    have cy:inf.size=1:=by simpa [aA] using az
    simp [execOp,bB,ab,Instr.indexAt,Instr.sureAddr,asIntOf,run_underlying bu,ak,sizeOf,typeInfo,aA,cy,Addr.add_lit]
theorem UT {x:Operand}{t:TypeId}{u:TypeDesc}{h i:Nat}{bg:bm}{inf:TypeInfo}{L:List ao}(bu:P.underlying t=some u)(hu:jy u=true)(iR:P.info? t=some inf)(cy:inf.size=bg.c.aI)(al:bH fr x=some (.ptr h i 0))(aX:H[h]? =some (some bg))(cB:(List.range bg.c.aI).map (bg.c.at i)=L)(aa:i<bg.c.len):bZ false P fn c fr H ⟨d,.load t x,ty,pos,after,g⟩ (.agg L):=by
 intro w a σ S ad;have U:=ad.ek al;subst cB;generalize bB:a.eval x=z at U;cases U with
 |ptr _ _ _ _ b s C bL=>
  obtain ⟨hf,cur,g1,g2,g3,g4,g5,g6⟩:=ad.obj aX bL;subst hf;have oi: ∀w':World,w'.heap=w.heap→ ∀j,j<bg.c.aI→ ∃y,w'.cell? ⟨b,i*bg.c.aI+j,none⟩=some y∧bz w S σ (bg.c.at i j) y∧y.oneCell'=true:=by intro w' hw j ae;obtain ⟨y,aE,aF,bO⟩:=g6 i j aa ae;obtain ⟨mk,g1,_,_⟩:=g1.cells J;exact ⟨y,by simp [World.cell?,hw,g1,aE],aF,bO⟩
  let cs:List Value:=(List.range bg.c.aI).map (fun j=>(w.cell? ⟨b,i*bg.c.aI+j,none⟩).getD undef)
  refine ⟨.agg cs.toArray,.agg _ _ _ (by simp [cs]) (fun j ae=> ?_) (fun j ae=> ?_),fun w' hw=> ?_⟩
  ·have bd:j<bg.c.aI:=by simpa using ae
   obtain ⟨y,aE,aF,_⟩:=oi w rfl j bd;simpa [cs,Array.getD,bd,aE,List.getD] using aF
  ·have bd:j<bg.c.aI:=by simpa using ae
   obtain ⟨y,aE,_,bO⟩:=oi w rfl j bd;simpa [cs,Array.getD,bd,aE] using bO
  ·have hw:=hw.resolve_left aT;have au:=run_loadCells_list (P:=P) w' ⟨b,i*bg.c.aI,none⟩ cs (fun j v af=>by
    have ae:j<bg.c.aI:=by simpa [cs] using (gZ.1 af).1
    obtain ⟨y,aE,_,_⟩:=oi w rfl j ae;simp only [cs,lB,vW ae,s8,dG] at af;subst af;rw [aE,Addr.add_lit];have:=World.cell?_of_block (w:=w) (w':=w') (a:=⟨b,i*bg.c.aI+j,none⟩) (by rw [hw]);rw [this,aE];rfl)
   have hC:cs.length=inf.size:=by simp [cs,cy]
   rw [hC] at au;have MR:a.eval x= .pointer (some ⟨b,i*bg.c.aI,none⟩):=by rw [bB];simp
   simp [execOp,MR,Instr.loadAt,Instr.sureAddr,loadVar,yR bu,hu,sizeOf,typeInfo,iR,au]
theorem w6 {x:Operand}{t:TypeId}{u:TypeDesc}{i:Nat}{eb:Cells}{inf:TypeInfo}{L:List ao}(bu:P.underlying t=some u)(hu:jy u=true)(iR:P.info? t=some inf)(cy:inf.size=eb.aI)(al:bH fr x=some (.cK eb i 0))(cB:(List.range eb.aI).map (eb.at i)=L):bZ false P fn c fr H ⟨d,.load t x,ty,pos,after,g⟩ (.agg L):=by
 intro w a σ S ad;have U:=ad.ek al;subst cB;generalize bB:a.eval x=z at U;cases U with
 |cK _ _ _ _ b o val dm av iy gF=>
  let cs:List Value:=(List.range eb.aI).map val
  refine ⟨.agg cs.toArray,.agg _ _ _ (by simp [cs]) (fun j ae=> ?_) (fun j ae=> ?_),fun w' hw=> ?_⟩
  ·have bd:j<eb.aI:=by simpa using ae
   have:=(iy j J).mono (w':=w) (fun _ h=>h) (fun _ _=>rfl) σ (fun _ _ h=>by cases h);simpa [cs,Array.getD,bd,List.getD] using this
  ·have bd:j<eb.aI:=by simpa using ae
   have:=gF j J;simpa [cs,Array.getD,bd] using this
  ·have hw:=hw.resolve_left aT;have au:=run_loadCells_list (P:=P) w' ⟨b,o,none⟩ cs (fun j v af=>by
    have ae:j<eb.aI:=by simpa [cs] using (gZ.1 af).1
    simp only [cs,lB,vW ae,s8,dG] at af;subst af;rw [Addr.add_lit];have:=World.cell?_of_block (w:=w) (w':=w') (a:=⟨b,o+j,none⟩) (by rw [hw]);rw [this];exact av j J)
   have hC:cs.length=inf.size:=by simp [cs,cy]
   rw [hC] at au;simp [execOp,bB,Instr.loadAt,Instr.sureAddr,loadVar,yR bu,hu,sizeOf,typeInfo,iR,au]
theorem aiT {x ix:Operand}{t e:TypeId}{u:TypeDesc}{n:Nat}{L:List ao}{v:ao}{eC:IntKind}{m:Int}(bu:P.underlying t=some (.array n e))(az:(P.info? e).map (·.size)=some 1)(hu:P.underlying e=some u)(agj:jy u=false)(al:bH fr x=some (.agg L))(aa:bH fr ix=some (.int eC m))(af:L.getD m.toNat .any=v)(ak:0≤m∧m<n∧m<L.length):bZ ind P fn c fr H ⟨d,.index t x ix,ty,pos,after,g⟩ v:=by
 intro w a σ S ad;have U:=ad.ek al;have ab:=ad.fq aa;subst af;generalize bB:a.eval x=z at U;cases U with
 |agg _ _ vs au af gF=>
  have bG:m.toNat<L.length:=J;have ay:=af m.toNat bG;have bc:vs[m.toNat]? =some (vs.getD m.toNat undef):=by simp [Array.getD,au,bG]
  generalize vs.getD m.toNat undef=y at ay bc;refine ⟨y,ay,fun w' _=> ?_⟩;cases aA:P.info? e with
  |none=>simp [aA] at az
  |some inf=>
   have cy:inf.size=1:=by simpa [aA] using az
   simp [execOp,bB,ab,Instr.index,asIntOf,run_underlying bu,ak.1,ak.2.1,sizeOf,typeInfo,aA,cy,part,yR hu,agj,bc]
theorem ds {x:Operand}{s:TypeId}{e1:Array Field}{f h i j rD:Nat}{fd:Field}{inf:TypeInfo}(bu:P.underlying s=some (.struct e1))(aR:e1[f]? =some fd)(aa:P.info? fd.type=some inf)(ch:Nat.beq inf.size 0=false)(al:bH fr x=some (.ptr h i j))(ae:j+fd.offset=rD):
 bZ ind P fn c fr H ⟨d,.fieldAddr s x f,ty,pos,after,g⟩ (.ptr h i rD):=by
 intro w a σ S ad;have U:=ad.ek al;subst ae;have Mu: ¬inf.size=0:=fun e=>by rw [e] at ch;cases ch
 generalize bB:a.eval x=z at U;cases U with
 |ptr _ _ _ _ b aI C bL=>
  refine ⟨_,.ptr _ h i (j+fd.offset) b aI C bL,fun w' _=> ?_⟩;simp [execOp,bB,Instr.fieldAt,run_underlying bu,aR,Instr.sureAddr,fieldPlace,sizeOf,typeInfo,aa,Mu,Addr.add_lit,jU]
theorem lJ {x:Operand}{s:TypeId}{e1:Array Field}{f i j rD:Nat}{eb:Cells}{fd:Field}{inf:TypeInfo}(bu:P.underlying s=some (.struct e1))(aR:e1[f]? =some fd)(aa:P.info? fd.type=some inf)(ch:Nat.beq inf.size 0=false)(al:bH fr x=some (.cK eb i j))(ae:j+fd.offset=rD):
 bZ ind P fn c fr H ⟨d,.fieldAddr s x f,ty,pos,after,g⟩ (.cK eb i rD):=by
 intro w a σ S ad;have U:=ad.ek al;subst ae;have Mu: ¬inf.size=0:=fun e=>by rw [e] at ch;cases ch
 generalize bB:a.eval x=z at U;cases U with
 |cK _ _ _ _ b o val dm av iy gF=>
  refine ⟨.pointer (some ⟨b,o+fd.offset,none⟩),.cK _ _ _ _ _ _ (fun e=>val (fd.offset+e)) dm (fun e he=> ?_) (fun e he=> ?_) (fun e he=>gF _ J),fun w' _=> ?_⟩
  ·have:=av (fd.offset+e) J
   rwa [←jU] at this
  ·have:=iy (fd.offset+e) J
   rwa [←jU] at this
  ·simp [execOp,bB,Instr.fieldAt,run_underlying bu,aR,Instr.sureAddr,fieldPlace,sizeOf,typeInfo,aa,Mu,Addr.add_lit]
theorem kA {x:Operand}{h i j:Nat}(al:bH fr x=some (.ptr h i j)):bZ ind P fn c fr H ⟨d,.nilCheck x,ty,pos,after,g⟩ (.ptr h i j):=by
 intro w a σ S ad;have U:=ad.ek al;generalize bB:a.eval x=z at U;cases U with
 |ptr _ _ _ _ b s C bL=>exact ⟨_,.ptr _ h i j b s C bL,fun w' _=>by simp [execOp,bB]⟩
theorem pe {x:Operand}{eb:Cells}{i j:Nat}(al:bH fr x=some (.cK eb i j)):bZ ind P fn c fr H ⟨d,.nilCheck x,ty,pos,after,g⟩ (.cK eb i j):=by
 intro w a σ S ad;have U:=ad.ek al;generalize bB:a.eval x=z at U;cases U with
 |cK _ _ _ _ b o val dm av iy gF=>exact ⟨_,.cK _ _ _ _ _ _ val dm av iy gF,fun w' _=>by simp [execOp,bB]⟩
theorem eN {all:Array Oper}{t:TypeId}{x y:Operand}{ty:TypeId}{pos:String}{after:Array Edge}{rest:List Oper}{h i:Nat}{bg:bm}{L:List ao}{c':Cells}(al:bH fr x=some (.ptr h i 0))(a1:bH fr y=some (.agg L))(az:(P.info? t).map (·.size)=some bg.c.aI)(aX:H[h]? =some (some bg))(au:L.length=bg.c.aI)(aa:i<bg.c.len)(U:c'.len=bg.c.len)(ab:c'.aI=bg.c.aI)(ay: ∀aK ba,aK<bg.c.len→ba<bg.c.aI→c'.at aK ba=if aK=i then L.getD ba .any else bg.c.at aK ba)(an:aj P fn c (.ops false all rest k) fr (H.set h (some ⟨bg.ty,c'⟩)))(oq:bg.c.aI≠0:=by (intro aX;cases aX)):aj P fn c (.ops false all (⟨none,.store t x y,ty,pos,after,none⟩::rest) k) fr H:=by
 refine Gx (fun w a σ S ad=> ?_) an;have aE:=ad.ek al;have aF:=ad.ek a1;generalize bB:a.eval x=z at aE;generalize nf:a.eval y=u at aF;cases aF with
 |agg _ _ vs rz iy Ad=>
  cases aE with
  |ptr _ _ _ _ b s C bL=>
   obtain ⟨hf,cur,g1,g2,g3,g4,g5,g6⟩:=ad.obj aX bL;subst hf;obtain ⟨mk,g1,lj,lD⟩:=g1.cells oq;have ss:i*bg.c.aI+bg.c.aI≤cur.size:=by rw [g2];have:(i+1)*bg.c.aI≤C*bg.c.aI:=fp _ J;rw [eF] at this;omega
   have rA:vs.size=bg.c.aI:=by rw [rz,au]
   have dT:=Fh P b (i*bg.c.aI) bg.ty mk vs.toList 0 cur w g1 lj (by simp [rA];exact ss) (fun v af=>by
    obtain ⟨j,ae,rfl⟩:=kE af;have bd:j<vs.size:=by simpa using ae
    have:=Ad j (by rw [←rz];exact bd);simpa [Array.getD,bd] using this)
   simp only [fg] at dT;generalize jq:(cur.toList.take (i*bg.c.aI)++vs.toList++cur.toList.drop (i*bg.c.aI+vs.toList.length)).toArray=cur' at dT;have Mh:cur'.size=cur.size:=by rw [←jq];simp [rA];omega
   have hN: ∀p,p<cur.size→cur'[p]? =if i*bg.c.aI≤p∧p<i*bg.c.aI+bg.c.aI then vs[p-i*bg.c.aI]? else cur[p]? :=by
    intro p aD;rw [←jq];simp only [Bh,mr];by_cases cJ:p<i*bg.c.aI
    ·rw [ic (by simp;omega),qs,aB cJ,aw J];simp
    ·rw [jV (by simp;omega)];have bu:(cur.toList.take (i*bg.c.aI)).length=i*bg.c.aI:=by simp;omega
     rw [bu];by_cases dD:p<i*bg.c.aI+bg.c.aI
     ·rw [ic (by simp [rA];omega),aB ⟨J,dD⟩];simp
     ·rw [jV (by simp [rA];omega),aw J];simp only [Array.length_toList,rA,List.getElem?_drop,Array.getElem?_toList];congr 1;omega
   refine ⟨w.setRow b cur',σ,S,?_,ad.setRow aX bL lD ab J (by rw [Mh,g2]) (fun aK ba aQ bd=> ?_)⟩
   ·simp only [fg] at bB;simp only [execOp,bB,nf,Instr.storeAt,Instr.sureAddr,storeVar,Sem.run_bind,Sem.run_pure,Result.andThen_ok,AO az,Value.cells,rA];simp [dT]
   ·rw [U] at aQ;rw [ab] at bd⊢;rw [ay aK ba aQ bd];have aD:aK*bg.c.aI+ba<cur.size:=by rw [g2];have:(aK+1)*bg.c.aI≤C*bg.c.aI:=fp _ J;rw [eF] at this;omega
    rw [hN _ aD];by_cases he:aK=i
    ·subst he;rw [aB rfl,aB ⟨J,J⟩];have Mc:ba<vs.size:=J;refine ⟨vs.getD ba undef,by simp [Array.getD,Mc],iy ba J,Ad ba J⟩
    ·rw [aw he];have ch: ¬(i*bg.c.aI≤aK*bg.c.aI+ba∧aK*bg.c.aI+ba<i*bg.c.aI+bg.c.aI):=by
      rintro ⟨bQ,bX⟩;rcases Nat.lt_or_gt_of_ne he with bG|bG
      ·have:(aK+1)*bg.c.aI≤i*bg.c.aI:=fp _ bG;rw [eF] at this;omega
      ·have:(i+1)*bg.c.aI≤aK*bg.c.aI:=fp _ bG;rw [eF] at this;omega
     rw [aw ch];exact g6 aK ba aQ bd
end
end Go.aj
namespace Go.aj
variable [bx]
open Go.RowKit
section
variable {P:Program}{fn:Func}{c:Ctx}{fr:Fr}{H:aY}{k:List eO}
theorem U5 {w:World}{a:Act}{σ:Nat→Option bP}{S:Nat→Prop}{n:Nat}(ad:cd c w a σ S n fr H){all:Array Oper}{d:Option Nat}{op:Op}{ty:TypeId}{pos:String}{after:Array Edge}{j t:Nat}{p:Bool}(a1:qi all j=some t)(ak:look t fr=some (.ck [])):Region.wanted ⟨d,op,ty,pos,after,some (j,p)⟩ (yielded all a.tmps)=false:=by
 obtain ⟨U,ab⟩:=ad.fl t _ ak;have ay:t<a.tmps.size:=by rw [ad.size];exact U
 generalize bB:a.tmps.getD t undef=z at ab;cases ab;rename_i vs au af;have bc:a.tmps[t]? =some (.tuple vs):=by simp only [Array.getD,ay,vV] at bB;simp only [Array.getElem?_eq_getElem ay];exact congrArg some bB
 unfold qi at a1;simp only [Region.wanted,yielded,a1,Option.bind_some,bc];cases p<;>rfl
theorem Kf {w:World}{S:Nat→Prop}{σ:Nat→Option bP}:bz w S σ (.ck []) undef:=have bY:= ‹bx›;.ck _ _ _ rfl (fun i aa=>absurd aa (gh _))
theorem tQ {q:Bool}{all:Array Oper}{d:Nat}{op:Op}{ty:TypeId}{pos:String}{after:Array Edge}{rest:List Oper}{j t:Nat}{p b:Bool}(a1:qi all j=some t)(ak:look t fr=some (.bool b))(ch:(b==p)=false)(h:aj P fn c (.ops q all rest k) ((d,.ck [])::fr) H):aj P fn c (.ops q all (⟨some d,op,ty,pos,after,some (j,p)⟩::rest) k) fr H:=by
 cases q with
 |false=>
  intro hd w a σ S ad;obtain ⟨jr,jG⟩:=tW hd;simp only [wpList,JM ad a1 ak,ch,sd,hA];exact h jG w _ σ S (ad.put Kf (jr d I))
 |true=>
  intro hd w a σ S ad;obtain ⟨jr,jG⟩:=tW hd;simp only [wpQuiet,JM ad a1 ak,ch,sd,hA];exact h jG w _ σ S (ad.put Kf (jr d I))
theorem NG {q:Bool}{all:Array Oper}{d:Nat}{op:Op}{ty:TypeId}{pos:String}{after:Array Edge}{rest:List Oper}{j t:Nat}{p:Bool}(a1:qi all j=some t)(ak:look t fr=some (.ck []))(h:aj P fn c (.ops q all rest k) ((d,.ck [])::fr) H):aj P fn c (.ops q all (⟨some d,op,ty,pos,after,some (j,p)⟩::rest) k) fr H:=by
 cases q with
 |false=>
  intro hd w a σ S ad;obtain ⟨jr,jG⟩:=tW hd;simp only [wpList,U5 ad a1 ak,sd,hA];exact h jG w _ σ S (ad.put Kf (jr d I))
 |true=>
  intro hd w a σ S ad;obtain ⟨jr,jG⟩:=tW hd;simp only [wpQuiet,U5 ad a1 ak,sd,hA];exact h jG w _ σ S (ad.put Kf (jr d I))
end
end Go.aj
namespace Go.aj
variable [bx]
open Go.RowKit
section
variable {P:Program}{fn:Func}{c:Ctx}{fr:Fr}{H:aY}{k:List eO}
end
end Go.aj
namespace Go.aj
variable [bx]
mutual
def gV (n:Nat):ao→Bool
 | .aC h _ _=>Nat.blt h n
 | .ptr h _ _=>Nat.blt h n
 | .fn _ l=>mL n l
 | .agg l=>mL n l
 | .ck l=>mL n l
 | .mp h=>Nat.blt h n
 |_=>true
def mL (n:Nat):List ao→Bool
 |[]=>true
 |v::r=>gV n v && mL n r
end
theorem CB {n:Nat}{l:List ao}(h:mL n l=true)(i:Nat)(aa:i<l.length):gV n (l.getD i .any)=true:=by
 have bY:= ‹bx›;induction l generalizing i with
 |nil=>simp at aa
 |cons v r a6=>
  simp only [mL,er] at h;cases i with
  |zero=>exact h.1
  |succ i=>simpa using a6 h.2 i (by simpa using aa)
theorem bz.sl {w:World}{S:Nat→Prop}{σ:Nat→Option bP}{n:Nat}{x:ao}{v:Value}(h:bz w S σ x v):gV n x=true→ ∀bC:Nat→Option bP,(∀h,h<n→bC h=σ h)→bz w S bC x v:=by
 induction h with
 |int=>intros;constructor
 |bool=>intros;constructor
 |str=>intros;constructor
 |nil=>intros;constructor
 |ko=>intros;constructor
 |ro σ c i len b o cap val fs hlen av af U a6=>intro _ bC _;exact .ro _ _ _ _ _ _ _ val fs hlen av af U
 |aC σ h i len b s C cap bL hlen kh=>intro ak bC az;exact .aC _ _ _ _ _ _ _ _ (by rw [az h (iZ ak)];exact bL) hlen kh
 |iD σ h bL=>intro ak bC az;exact .iD _ _ (by rw [az h (iZ ak)];exact bL)
 |cK σ c i j b o val fs av af U a6=>intro _ bC _;exact .cK _ _ _ _ _ _ val fs av af U
 |ptr σ h i j b s C bL=>intro ak bC az;exact .ptr _ _ _ _ _ _ _ (by rw [az h (iZ ak)];exact bL)
 |p0=>intros;constructor
 |fn σ f cap vs au af a6=>intro aG bC az;exact .fn _ _ _ _ au (fun i aa=>a6 i aa (CB aG i aa) _ az)
 |pZ=>intros;constructor
 |iface=>intros;constructor
 |ov=>intros;constructor
 |agg σ l vs au af U a6=>intro aG bC az;exact .agg _ _ _ au (fun i aa=>a6 i aa (CB aG i aa) _ az) U
 |ck σ l vs au af a6=>intro aG bC az;exact .ck _ _ _ au (fun i aa=>a6 i aa (CB aG i aa) _ az)
 |mp σ h b bL=>intro ak bC az;exact .mp _ _ _ (by rw [az h (iZ ak)];exact bL)
 |iC σ ks vs b es clock e fs ak aG au hd he an af=>intro _ bC _;exact .iC _ _ _ b es clock e fs ak aG au hd he an af
 |any=>intros;constructor
theorem Lays.sl {w:World}{S:Nat→Prop}{σ bC:Nat→Option bP}{o:bm}{b:Nat}{cur:Array Value}{C n:Nat}(h:Lays w S σ o b cur C)(av: ∀ks vs,o.c= .mp ks vs→mL n ks=true∧mL n vs=true)(az: ∀h,h<n→bC h=σ h):Lays w S bC o b cur C:=by
 have bY:= ‹bx›;cases h with
 |row mk h hm eh=>exact .row mk h hm eh
 |map ks vs es clock zN eh h aG au hd he=>
  obtain ⟨dS,eP⟩:=av ks vs zN;exact .map ks vs es clock zN eh h aG au hd (fun i aa=>let ⟨e,aE,aF,bO⟩:=he i aa;⟨e,aE,aF.sl (CB dS i aa) _ az,bO.sl (CB eP i J) _ az⟩)
def KJ (n:Nat):Cells→Bool
 | .ints _ _=>true
 | .strs _=>true
 | .box l=>mL n l
 | .fn _ _ _=>false
 | .mp ks vs=>mL n ks && mL n vs
theorem aoB {n:Nat}{c:Cells}(h:KJ n c=true)(i j:Nat)(ae:j<c.aI):gV n (c.at i j)=true:=by
 cases c with
 |ints=>rfl
 |strs=>rfl
 |box l=>exact CB h j ae
 |fn=>cases h
 |mp=>exact absurd ae (gh _)
def aaD (n:Nat):Option bm→Bool
 |none=>true
 |some o=>KJ n o.c
def Gn (n:Nat):aY→Bool
 |[]=>true
 |x::r=>aaD n x && Gn n r
theorem VF {n:Nat}{H:aY}(ak:Gn n H=true){h:Nat}{o:bm}(ai:H[h]? =some (some o)):KJ n o.c=true:=by
 have bY:= ‹bx›;induction H generalizing h with
 |nil=>simp at ai
 |cons x r a6=>
  simp only [Gn,er] at ak;cases h with
  |zero=>simp at ai;subst ai;exact ak.1
  |succ h=>exact a6 ak.2 (by simpa using ai)
def kr (n:Nat):Fr→Bool
 |[]=>true
 |(_,v)::r=>gV n v && kr n r
theorem VE {n:Nat}{fr:Fr}(ak:kr n fr=true){t:Nat}{v:ao}(au:look t fr=some v):gV n v=true:=by
 have bY:= ‹bx›;induction fr with
 |nil=>simp [look] at au
 |cons p r a6=>
  obtain ⟨u,x⟩:=p;simp only [kr,er] at ak;simp only [look] at au;cases aA:Nat.beq t u with
  |true=>rw [aA] at au;simp at au;subst au;exact ak.1
  |false=>rw [aA] at au;exact a6 ak.2 (by simpa using au)
def Bu (n:Nat)(σ:Nat→Option bP)(h:Nat):Option bP:=if h<n then σ h else none
theorem cd.cut {c:Ctx}{w:World}{a:Act}{σ:Nat→Option bP}{S:Nat→Prop}{n:Nat}{fr:Fr}{H b3 H1:aY}(ad:cd c w a σ S n fr H)(lf:H=b3++H1)(aR: ∀h,c.fix h→h<b3.length)(so:Gn b3.length b3=true)(zK:kr b3.length fr=true):cd c w a (Bu b3.length σ) S n fr b3:=by
 subst lf;have az: ∀h,h<b3.length→Bu b3.length σ h=σ h:=fun h au=>aB au;have l2: ∀{h:Nat} {o:bm},b3[h]? =some (some o)→h<b3.length∧(b3++H1)[h]? =some (some o):=by intro h o ai;have au:h<b3.length:=(gZ.1 ai).1;exact ⟨au,by rw [ic au];exact ai⟩
 refine ⟨⟨fun h o ai=> ?_,fun h aS o o' b s C ct cM bQ bX aE aF=> ?_,ad.ad.small,fun h au=>aw J⟩,⟨ad.bk.os,ad.bk.output,ad.bk.tape,ad.bk.size,ad.bk.block,ad.bk.hV,ad.bk.fb,fun h aX=>by rw [az h (aR h aX)];exact ad.bk.fixed h aX,aR,fun h o b s C q e=> ?_⟩,ad.defers,ad.size,fun t v au=>⟨(ad.fl t v au).1,(ad.fl t v au).2.sl (VE zK au) _ az⟩⟩
 ·obtain ⟨au,cN⟩:=l2 ai;rw [az h au];rcases ad.ad.live h o cN with g|⟨b,C,cur,g1,g2,g3,g4,g5,g6,g7⟩
  ·exact .inl g
  ·refine .inr ⟨b,C,cur,g1,g2.sl (fun ks vs av=>by have:=VF so ai;rw [av] at this;simpa [KJ] using this) az,g3,g4,g5,g6,fun i j aa ae=> ?_⟩;obtain ⟨v,et,eS,gG⟩:=g7 i j aa ae;exact ⟨v,et,eS.sl (aoB (VF so ai) i j ae) _ az,gG⟩
 ·obtain ⟨au,ai⟩:=l2 bQ;obtain ⟨lh,cN⟩:=l2 bX;rw [az h au] at aE;rw [az aS lh] at aF;exact ad.ad.hB h aS o o' b s C ct cM ai cN aE aF
 ·obtain ⟨au,ai⟩:=l2 q;rw [az h au] at e;exact ad.bk.own h o b s C ai e
section
variable {P:Program}{fn:Func}{c:Ctx}{fr:Fr}{H:aY}{k:List eO}
theorem aas {x:Code}(b3 H1:aY)(L:Fr)(lf:H=b3++H1)(cB:jm fr L)(aR: ∀h,c.fix h→h<b3.length)(so:Gn b3.length b3=true)(zK:kr b3.length L=true)(an:aj P fn c (.code x k) L b3):aj P fn c (.code x k) fr H:=
 fun w a σ S ad=>an w a _ S ((ad.weaken cB).cut lf aR so zK)
theorem cd.aeH {w:World}{a:Act}{σ:Nat→Option bP}{S:Nat→Prop}{n:Nat}{bK:aY}(ad:cd c w a σ S n fr H)(hlen:bK.length=H.length)(az: ∀(h:Nat) (o':bm),bK[h]? =some (some o')→ ∃o:bm,H[h]? =some (some o)∧o'.ty=o.ty∧o'.c.len=o.c.len∧o'.c.b7=o.c.b7∧ ∀i j,i<o.c.len→j<o.c.aI→aU (o.c.at i j) (o'.c.at i j)):cd c w a σ S n fr bK:=by
 refine ⟨⟨fun h o' ai=> ?_,fun h aS o o' b s C ct cM bQ bX aE aF=> ?_,ad.ad.small,fun h au=>ad.ad.ie h (by rw [←hlen];exact au)⟩,⟨ad.bk.os,ad.bk.output,ad.bk.tape,ad.bk.size,ad.bk.block,ad.bk.hV,ad.bk.fb,ad.bk.fixed,fun h aR=>by rw [hlen];exact ad.bk.jF h aR,fun h o b s C q e=> ?_⟩,ad.defers,ad.size,ad.fl⟩
 ·obtain ⟨o,U,ab,ay,bc,bI⟩:=az h o' ai;rw [ay,A1 bc];rcases ad.ad.live h o U with g|⟨b,C,cur,g1,g2,g3,g4,g5,g6,g7⟩
  ·exact .inl g
  ·refine .inr ⟨b,C,cur,g1,g2.b7 ab bc,g3,g4,g5,g6,fun i j aa ae=> ?_⟩;obtain ⟨v,et,eS,gG⟩:=g7 i j aa ae;exact ⟨v,et,bI i j aa ae _ _ _ _ eS,gG⟩
 ·obtain ⟨p,U,_⟩:=az h o bQ;obtain ⟨p1,gF,_⟩:=az aS o' bX;exact ad.ad.hB h aS p p1 b s C ct cM U gF aE aF
 ·obtain ⟨p,U,_⟩:=az h o q;exact ad.bk.own h p b s C U e
theorem yB {all:Array Oper}{rest:List Oper}(bK:aY)(hlen:bK.length=H.length)(az: ∀(h:Nat) (o':bm),bK[h]? =some (some o')→ ∃o:bm,H[h]? =some (some o)∧o'.ty=o.ty∧o'.c.len=o.c.len∧o'.c.b7=o.c.b7∧ ∀i j,i<o.c.len→j<o.c.aI→aU (o.c.at i j) (o'.c.at i j))(an:aj P fn c (.ops false all rest k) fr bK):aj P fn c (.ops false all rest k) fr H:=fun hd w a σ S ad=>an hd w a σ S (ad.aeH hlen az)
end
theorem cm.args {P:Program}{f:FuncId}{dZ gz:List ao}{H:aY}{fix:Nat→Prop}{K:ao→aY→Prop}(av:cm P f gz H fix K)(h:xy dZ gz):cm P f dZ H fix K:=by unfold cm at av⊢;refine ⟨av.1,fun w σ S dH aD ad aR af=>av.2 w σ S dH aD ad aR ⟨af.1.trans h.length,fun j ae=> ?_⟩⟩;rw [←h.length] at ae;exact h.get j ae _ _ _ _ (af.2 j ae)
end Go.aj
namespace Go.aj
variable [bx]
theorem br.ahp {P:Program}{f:FuncId}{args si:List ao}{r:ao}{H jB:aY}(av:br P f args r)(je:w0 jB H)(fk: ∀(h:Nat) (o:bm),jB[h]? =some (some o)→e5 o.c)(ED:ao.qC jB si=args)(ei:pA jB si)(aG:c2.e9 args=true)(ad:c2 r=true)(hD:flat r=true):
 cm P f si H (fun h=>h<H.length) (fun dF bK=>dF=r∧bK=H):=by refine cm.over (av []) (fun h aX=>by simp at aX) je fk ED ei aG ?_;rintro cU b3 ⟨rfl,rfl⟩;have an:cU.l7 [] 0 H.length=cU:=br.M5.M0 ad;refine ⟨br.M5.MY ad,fun h o ai=>by simp at ai,0,⟨0,.ints .i64 []⟩,.inl ⟨bN _,⟨an,I⟩,.inr (by rw [an];exact hD)⟩⟩
def fw (n:Nat):Cells→Prop
 | .mp ks vs=>mL n ks=true∧mL n vs=true
 |c=> ∀i j,i<c.len→j<c.aI→gV n (c.at i j)=true
theorem fw.row {n:Nat}{c:Cells}(h:fw n c): ∀i j,i<c.len→j<c.aI→gV n (c.at i j)=true:=by have bY:= ‹bx›;cases c<;>first|exact h|exact fun i j aa=>absurd aa (gh _)
theorem fw.mp {n:Nat}{c:Cells}(h:fw n c){ks vs:List ao}(av:c= .mp ks vs):mL n ks=true∧mL n vs=true:=by have bY:= ‹bx›;subst av;exact h
theorem cd.Ll {c:Ctx}{w:World}{a:Act}{σ:Nat→Option bP}{S:Nat→Prop}{n:Nat}{fr:Fr}{H b3 H1:aY}(ad:cd c w a σ S n fr H)(lf:H=b3++H1)(aR: ∀h,c.fix h→h<b3.length)(so: ∀(h:Nat) (o:bm),b3[h]? =some (some o)→fw b3.length o.c)(zK:kr b3.length fr=true):cd c w a (Bu b3.length σ) S n fr b3:=by
 subst lf;have az: ∀h,h<b3.length→Bu b3.length σ h=σ h:=fun h au=>aB au;have l2: ∀{h:Nat} {o:bm},b3[h]? =some (some o)→h<b3.length∧(b3++H1)[h]? =some (some o):=by intro h o ai;have au:h<b3.length:=(gZ.1 ai).1;exact ⟨au,by rw [ic au];exact ai⟩
 refine ⟨⟨fun h o ai=> ?_,fun h aS o o' b s C ct cM bQ bX aE aF=> ?_,ad.ad.small,fun h au=>aw J⟩,⟨ad.bk.os,ad.bk.output,ad.bk.tape,ad.bk.size,ad.bk.block,ad.bk.hV,ad.bk.fb,fun h aX=>by rw [az h (aR h aX)];exact ad.bk.fixed h aX,aR,fun h o b s C q e=> ?_⟩,ad.defers,ad.size,fun t v au=>⟨(ad.fl t v au).1,(ad.fl t v au).2.sl (VE zK au) _ az⟩⟩
 ·obtain ⟨au,cN⟩:=l2 ai;rw [az h au];rcases ad.ad.live h o cN with g|⟨b,C,cur,g1,g2,g3,g4,g5,g6,g7⟩
  ·exact .inl g
  ·refine .inr ⟨b,C,cur,g1,g2.sl (fun ks vs av=>(so h o ai).mp av) az,g3,g4,g5,g6,fun i j aa ae=> ?_⟩;obtain ⟨v,et,eS,gG⟩:=g7 i j aa ae;exact ⟨v,et,eS.sl ((so h o ai).row i j aa ae) _ az,gG⟩
 ·obtain ⟨au,ai⟩:=l2 bQ;obtain ⟨lh,cN⟩:=l2 bX;rw [az h au] at aE;rw [az aS lh] at aF;exact ad.ad.hB h aS o o' b s C ct cM ai cN aE aF
 ·obtain ⟨au,ai⟩:=l2 q;rw [az h au] at e;exact ad.bk.own h o b s C ai e
section
variable {P:Program}{fn:Func}{c:Ctx}{fr:Fr}{H:aY}{k:List eO}
theorem fB {x:Code}(b3 H1:aY)(L:Fr)(lf:H=b3++H1)(cB:jm fr L)(aR: ∀h,c.fix h→h<b3.length)(so: ∀(h:Nat) (o:bm),b3[h]? =some (some o)→fw b3.length o.c)(zK:kr b3.length L=true)(an:aj P fn c (.code x k) L b3):aj P fn c (.code x k) fr H:=
 fun w a σ S ad=>an w a _ S ((ad.weaken cB).Ll lf aR so zK)
theorem aoy {all:Array Oper}{d:Nat}{g:Operand}{f:FuncId}{args:List Operand}{hZ:Array TypeId}{ty:TypeId}{pos:String}{after:Array Edge}{rest:List Oper}{cD dZ gz zj:List ao}{r:ao}(jB:aY)(c9:bH fr g=some (.fn f cD))(aW:lb fr args=some dZ)(has:dZ++cD=gz)(au:ao.qC jB gz=zj)(lg:br P f zj r)(je:w0 jB H)(fk: ∀(h:Nat) (o:bm),jB[h]? =some (some o)→e5 o.c)(ei:pA jB gz)(aG:c2.e9 zj=true)(ad:c2 r=true)(hD:flat r=true)(an:aj P fn c (.ops false all rest k) ((d,r)::fr) H):aj P fn c (.ops false all (⟨some d,.call {callee:= .value g,args:=args.toArray,argTypes:=hZ},ty,pos,after,none⟩::rest) k) fr H:=
 Db c9 aW has (br.ahp lg je fk au ei aG ad hD) (fun _ h=>h) (fun _ h=>h) (fun dF bK h=>by obtain ⟨rfl,rfl⟩:=h;exact an)
variable {ind:Bool}{d:Option Nat}{t cC ty:TypeId}{pos:String}{after:Array Edge}{g:Option (Nat×Bool)}
def Lb (k:IntKind)(m n:Int):Int:=k.wrap ((BitVec.ofInt k.bits m &&& BitVec.ofInt k.bits n).toNat:Int)
def Nf (k:IntKind)(m n:Int):Int:=k.wrap ((BitVec.ofInt k.bits m|||BitVec.ofInt k.bits n).toNat:Int)
def Nq (k:IntKind)(m n:Int):Int:=m.fdiv (2^(min n.toNat k.bits))
def ID (k:IntKind)(m n:Int):Int:=k.wrap (m*2^(min n.toNat k.bits))
theorem aiP {x y:Operand}{k:IntKind}{m n:Int}(al:bH fr x=some (.int k m))(a1:bH fr y=some (.int k n)):
 bZ ind P fn c fr H ⟨d,.binOp .and t x y cC,ty,pos,after,g⟩ (.int k (Lb k m n)):=by intro w a σ S ad;have U:=ad.fq al;have ab:=ad.fq a1;refine ⟨_,.int _ _ _,fun w' _=> ?_⟩;simp [execOp,U,ab,oz,binOp,Op.intBits,Lb]
theorem aiW {x y:Operand}{k:IntKind}{m n:Int}(al:bH fr x=some (.int k m))(a1:bH fr y=some (.int k n)):
 bZ ind P fn c fr H ⟨d,.binOp .or t x y cC,ty,pos,after,g⟩ (.int k (Nf k m n)):=by intro w a σ S ad;have U:=ad.fq al;have ab:=ad.fq a1;refine ⟨_,.int _ _ _,fun w' _=> ?_⟩;simp [execOp,U,ab,oz,binOp,Op.intBits,Nf]
theorem aja {x y:Operand}{k c1:IntKind}{m n:Int}(al:bH fr x=some (.int k m))(a1:bH fr y=some (.int c1 n))(aG:0≤n):
 bZ ind P fn c fr H ⟨d,.binOp .shr t x y cC,ty,pos,after,g⟩ (.int k (Nq k m n)):=by intro w a σ S ad;have U:=ad.fq al;have ab:=ad.fq a1;refine ⟨_,.int _ _ _,fun w' _=> ?_⟩;have ay: ¬n<0:=J;simp [execOp,U,ab,oz,binOp,Op.shift,Nq,ay]
theorem TW {x y:Operand}{k c1:IntKind}{m n:Int}(al:bH fr x=some (.int k m))(a1:bH fr y=some (.int c1 n))(aG:0≤n):
 bZ ind P fn c fr H ⟨d,.binOp .shl t x y cC,ty,pos,after,g⟩ (.int k (ID k m n)):=by intro w a σ S ad;have U:=ad.fq al;have ab:=ad.fq a1;refine ⟨_,.int _ _ _,fun w' _=> ?_⟩;have ay: ¬n<0:=J;simp [execOp,U,ab,oz,binOp,Op.shift,ID,ay]
end
end Go.aj
namespace Go.aj
variable [bx]
open Go.RowKit
section
variable {P:Program}{fn:Func}{c:Ctx}{fr:Fr}{H:aY}{k:List eO}{ind:Bool}{d:Option Nat}{ty:TypeId}{pos:String}{after:Array Edge}{g:Option (Nat×Bool)}
end
end Go.aj
namespace Go.aj
variable [bx]
open Go.ChangeShapes Go.WideShapes Go.ChangeAt Go.RowKit
section
variable {H:Type}{enc:TypeId×Value→H}{P:Program}{W:World}
abbrev GX (W:World):Nat→Prop:=fun b=>b<W.heap.size
def sQ (W:World)(l:List ao)(cs:List Value):Prop:=
 l.length=cs.length∧ ∀i,i<cs.length→bz W (GX W) (fun _=>none) (l.getD i .any) (cs.getD i undef)∧(cs.getD i undef).oneCell'=true
def hU {α:Type}(enc:TypeId×Value→H)(P:Program)(W:World)(t:TypeId)(n:Nat)(e:α→List ao)(ok:α→Prop):Prop:=
 ∀fuel cs x,DataW.trod enc P W 0 (fun _=>true) true fuel t cs=some x→ ∃a,ok a∧cs.length=n∧sQ W (e a) cs
theorem Gp {W:World}{v:ao}{c:Value}(h:bz W (GX W) (fun _=>none) v c)(U:c.oneCell'=true):sQ W [v] [c]:=by
 have bY:= ‹bx›;refine ⟨I,fun i aa=> ?_⟩;have:i=0:=by simpa using aa
 subst this;exact ⟨h,U⟩
theorem hU.int {t:TypeId}{k:IntKind}(bu:P.underlying t=some (.int k)):hU enc P W t 1 (fun n:Int=>[ao.int k n]) (fun n=>(Lit.int k n).wf=true):=by intro fuel cs x h;obtain ⟨n,rfl,_,hw⟩:=DataW.trod_int bu h;exact ⟨n,hw,I,Gp (.int _ _ _) I⟩
theorem hU.str {t:TypeId}(bu:P.underlying t=some .string):hU enc P W t 1 (fun s:List UInt8=>[ao.str s]) (fun s=>s.length≤9223372036854775807):=by
 intro fuel cs x h;obtain ⟨s,rfl,_,az⟩:=DataW.trod_string bu h;have e:Value.string s=pD s.data.toList:=by show Value.string s=Value.string ⟨s.data.toList.toArray⟩;rw [DL]
 refine ⟨s.data.toList,?_,I,?_⟩
 ·unfold maxLen at az;simpa using az
 ·rw [e];exact Gp (.str _ _) rfl
def fI {α:Type}(d:α)(n:Nat)(e:α→List ao)(l:List α):Cells:= .fn l.length n (fun i j=>(e (l.getD i d)).getD j .any)
theorem hU.slice {α:Type}{t cC:TypeId}{n:Nat}{e:α→List ao}{ok:α→Prop}(d:α)(bu:P.underlying t=some (.slice cC))(av:P.cellsOf cC=n)(aG:Nat.blt 0 n=true)(h:hU enc P W cC n e ok):
 hU enc P W t 1 (fun l:List α=>[ao.ro (fI d n e l) 0 l.length]) (fun l=>l.length≤9223372036854775807∧ ∀a∈l,ok a):=by
 have aG:=iZ aG;intro fuel cs x al;rcases DataW.trod_slice bu al with ⟨rfl,_⟩|⟨a,len,cap,elems,rest,m,_,rfl,_,_,au,hm,hlen,BG,_,_⟩
 ·exact ⟨[],⟨cj _,fun a aW=>by simp at aW⟩,I,Gp (.ko _ _ _ _ _) I⟩
 subst av;have each: ∀i,i<len→ ∃z:α×List Value,ok z.1∧W.cells? 0 (a.add (i*P.cellsOf cC)) (P.cellsOf cC)=some z.2∧sQ W (e z.1) z.2:=by intro i aa;have U:=BG i aa;have ab:elems[i]? =some (elems[i]'J):=n8 _;rw [ab,Option.bind_eq_some_iff] at U;obtain ⟨mw,pW,a1⟩:=U;obtain ⟨z,bB,Ia,MS⟩:=h _ _ _ a1;exact ⟨(z,mw),bB,pW,MS⟩
 cases len with
 |zero=>exact ⟨[],⟨cj _,fun a aW=>by simp at aW⟩,rfl,Gp (.ko _ _ _ _ _) rfl⟩
 |succ len=>
  have aW:a=⟨a.block,a.off,none⟩∧a.block<W.heap.size:=by
   obtain ⟨z,_,pW,_⟩:=each 0 (Nat.succ_pos _);obtain ⟨_,BO,zO⟩:=World.cells?_some pW;have aM:=zO 0 aG;have oq:z.2[0]? =some (z.2[0]'J):=n8 _;rw [oq] at aM;simp only [ux] at aM;have jY: ∀q:Addr,q.add 0=q:=by intro q;simp [Addr.add]
   rw [jY,jY] at aM;have B1:a=⟨a.block,a.off,none⟩:=by
    have ak:=aM;unfold World.cell? at ak;split at ak
    ·cases B1:a.spot with
     |none=>cases a;simp_all
     |some s=>simp [B1] at ak
    ·cases ak
   refine ⟨B1,?_⟩;rcases gA a.block W.heap.size with aX|aX
   ·exact aX
   ·rw [B1] at aM;unfold World.cell? at aM;have:W.heap[a.block]? =none:=by simp [aX]
    simp [this] at aM
  let f:Nat→α×List Value:=fun i=>if aa:i<len+1 then Classical.choose (each i aa) else (d,[])
  have aR: ∀i,i<len+1→ok (f i).1∧W.cells? 0 (a.add (i*P.cellsOf cC)) (P.cellsOf cC)=some (f i).2∧sQ W (e (f i).1) (f i).2:=by intro i aa;have:=sf (each i aa);simp only [f,aa,vV];exact this
  let l:List α:=(List.range (len+1)).map (fun i=>(f i).1)
  have wI:l.length=len+1:=by simp [l]
  have afp: ∀i,i<len+1→l.getD i d=(f i).1:=by intro i aa;simp [l,List.getD,aa]
  refine ⟨l,⟨by unfold maxLen at hm;omega,fun b ak=> ?_⟩,I,?_⟩
  ·obtain ⟨i,aa,rfl⟩:=cS.1 ak;exact (aR i (xI.1 aa)).1
  ·refine Gp ?_ I;rw [aW.1,wI];refine .ro _ _ _ _ _ _ _ (fun i j=>(f i).2.getD j undef) aW.2 au (fun i j aa ae=> ?_) (fun i j aa ae=> ?_) (fun i j aa ae=> ?_);all_goals
    obtain ⟨g1,g2,g3,g4⟩:=aR i aa;obtain ⟨_,bX,dr⟩:=World.cells?_some g2;have bd:j<(f i).2.length:=by rw [bX];exact ae
   ·have ay:=dr j ae;rw [n8 bd] at ay;rw [aW.1,add_plain,add_plain] at ay;show W.cell? ⟨a.block,a.off+i*P.cellsOf cC+j,none⟩=some ((f i).2.getD j undef);rw [ay,List.getD,n8 bd];rfl
   ·show bz W (GX W) (fun _=>none) ((e (l.getD (0+i) d)).getD j .any) _;rw [cR,afp i aa];exact (g4 j bd).1
   ·exact (g4 j bd).2
theorem sQ.append {l gi:List ao}{cs mw:List Value}(h:sQ W l cs)(aS:sQ W gi mw):sQ W (l++gi) (cs++mw):=by
 have bY:= ‹bx›;refine ⟨by simp [h.1,aS.1],fun i aa=> ?_⟩;by_cases bG:i<cs.length
 ·have aE:(l++gi).getD i .any=l.getD i .any:=by simp [List.getD,oS,h.1,bG]
  have aF:(cs++mw).getD i undef=cs.getD i undef:=by simp [List.getD,oS,bG]
  rw [aE,aF];exact h.2 i bG
 ·have aE:(l++gi).getD i .any=gi.getD (i-cs.length) .any:=by simp [List.getD,oS,h.1,bG]
  have aF:(cs++mw).getD i undef=mw.getD (i-cs.length) undef:=by simp [List.getD,oS,bG]
  rw [aE,aF];exact aS.2 _ (by simp at aa;omega)
def q9 {α:Type}(enc:TypeId×Value→H)(P:Program)(W:World)(e1:List Field)(o n:Nat)(e:α→List ao)(ok:α→Prop):Prop:=
 ∀fuel (cs:List Value) (m:Nat),cs.length=m→o+n=m→(∀f∈e1,∃x,DataW.trod enc P W 0 (fun _=>true) true fuel f.type ((cs.drop f.offset).take (P.cellsOf f.type))=some x)→ ∃a,ok a∧sQ W (e a) (cs.drop o)
theorem q9.nil {o:Nat}:q9 enc P W [] o 0 (fun _:Unit=>[]) (fun _=>True):=by have bY:= ‹bx›;intro fuel cs m U ab _;refine ⟨(),trivial,?_⟩;rw [Bj J];exact ⟨I,fun i aa=>by simp at aa⟩
theorem q9.cons {α β:Type}{f:Field}{e1:List Field}{o n m:Nat}{e:α→List ao}{ok:α→Prop}{gE:β→List ao}{E4:β→Prop}(ai:f.offset=o)(av:P.cellsOf f.type=n)(h:hU enc P W f.type n e ok)(aS:q9 enc P W e1 (o+n) m gE E4):
 q9 enc P W (f::e1) o (n+m) (fun a:α×β=>e a.1++gE a.2) (fun a=>ok a.1∧E4 a.2):=by
 intro fuel cs k U ab ay;obtain ⟨x,al⟩:=ay f b1;obtain ⟨a,aW,au,ad⟩:=h _ _ _ al;obtain ⟨b,ak,fU⟩:=aS fuel cs k U J (fun g c9=>ay g (by simp [c9]));refine ⟨(a,b),⟨aW,ak⟩,?_⟩;rw [ai,av] at ad;have aE:cs.drop o=(cs.drop o).take n++cs.drop (o+n):=by rw [←List.drop_drop,s7]
 rw [aE];exact ad.append fU
theorem hU.struct {α:Type}{t:TypeId}{e1:Array Field}{n:Nat}{e:α→List ao}{ok:α→Prop}(bu:P.underlying t=some (.struct e1))(av:P.cellsOf t=n)(h:q9 enc P W e1.toList 0 n e ok):hU enc P W t n e ok:=by
 have bY:= ‹bx›;intro fuel cs x al;obtain ⟨xs,m,_,_,au,oo,aR⟩:=DataW.trod_struct bu al;obtain ⟨a,aW,ad⟩:=h m cs n J J (fun f Sm=>by
  obtain ⟨i,aa,rfl⟩:=kE Sm;have U:=aR i e1.toList[i] (by simp at aa;simp [aa]);have ab:xs[i]? =some (xs[i]'(by simp at aa;omega)):=n8 _;rw [ab] at U;exact ⟨_,U⟩)
 exact ⟨a,aW,J,by simpa using ad⟩
theorem sQ.conv {l gi:List ao}{cs:List Value}(h:sQ W l cs)(au:gi.length=l.length)(he: ∀i,i<l.length→aU (l.getD i .any) (gi.getD i .any)):sQ W gi cs:=
 have bY:= ‹bx›;⟨au.trans h.1,fun i aa=>⟨he i (by rw [h.1];exact aa) _ _ _ _ (h.2 i aa).1,(h.2 i aa).2⟩⟩
theorem hU.map {α β:Type}{t:TypeId}{n:Nat}{e:α→List ao}{ok:α→Prop}{gE:β→List ao}{E4:β→Prop}(h:hU enc P W t n e ok)(f:α→β)(EG: ∀a,ok a→E4 (f a))(au: ∀a,(gE (f a)).length=(e a).length)(he: ∀a i,i<(e a).length→aU ((e a).getD i .any) ((gE (f a)).getD i .any)):hU enc P W t n gE E4:=by intro fuel cs x al;obtain ⟨a,aW,U,ab⟩:=h fuel cs x al;exact ⟨f a,EG a aW,U,ab.conv (au a) (he a)⟩
theorem apC (k:IntKind)(l:List Int):aU (.ro (fI 0 1 (fun n:Int=>[ao.int k n]) l) 0 l.length) (.ro (.ints k l) 0 l.length):=by refine aU.ro I (fun d j hd ae=> ?_);have Ey:j=0:=ft.1 ae;subst Ey;rfl
theorem apD (l:List (List UInt8)):aU (.ro (fI [] 1 (fun s:List UInt8=>[ao.str s]) l) 0 l.length) (.ro (.strs l) 0 l.length):=by refine aU.ro I (fun d j hd ae=> ?_);have Ey:j=0:=ft.1 ae;subst Ey;rfl
theorem hU.ints {t cC:TypeId}{k:IntKind}(bu:P.underlying t=some (.slice cC))(av:P.cellsOf cC=1)(an:P.underlying cC=some (.int k)):
 hU enc P W t 1 (fun l:List Int=>[ao.ro (.ints k l) 0 l.length]) (fun l=>l.length≤9223372036854775807∧ ∀n∈l,(Lit.int k n).wf=true):=
 (hU.slice 0 bu av rfl (hU.int an)).map id (fun _ h=>h) (fun _=>rfl) (fun l i aa=>by
  have:i=0:=by simpa using aa
  subst this;exact apC k l)
theorem hU.strs {t cC:TypeId}(bu:P.underlying t=some (.slice cC))(av:P.cellsOf cC=1)(an:P.underlying cC=some .string):
 hU enc P W t 1 (fun l:List (List UInt8)=>[ao.ro (.strs l) 0 l.length]) (fun l=>l.length≤9223372036854775807∧ ∀s∈l,s.length≤9223372036854775807):=
 (hU.slice [] bu av rfl (hU.str an)).map id (fun _ h=>h) (fun _=>rfl) (fun l i aa=>by
  have:i=0:=by simpa using aa
  subst this;exact apD l)
theorem hU.one {α:Type}{t:TypeId}{e:α→List ao}{ok:α→Prop}{v:Value}{d:DataW H}{p:List MemPlace}(h:hU enc P W t 1 e ok)(af:v.cells= #[v])(hd:DataW.Trod enc P W 0 (fun _=>true) true t v d p):
 ∃a,ok a∧bz W (GX W) (fun _=>none) ((e a).getD 0 .any) v:=by have bY:= ‹bx›;obtain ⟨fuel,al⟩:=hd;rw [af] at al;obtain ⟨a,aW,_,ad⟩:=h _ _ _ al;exact ⟨a,aW,(ad.2 0 fx).1⟩
end
end Go.aj
namespace Go.aj
variable [bx]
open Go.RowKit
section
variable {H:Type}{enc:TypeId×Value→H}{P:Program}{W:World}
end
end Go.aj
namespace Go.aj
variable [bx]
open Go.RowKit
section
variable {P:Program}{fn:Func}{c:Ctx}{fr:Fr}{H b3:aY}{k:List eO}{M:M}
theorem tS {all:Array Oper}{fuel:Nat}{listed:Array Bool}(L:Fr)(U:(∀fr,jm fr L→aj P fn c (.any all fuel listed k) fr H)→aj P fn c M fr b3)(ab:aj P fn c (.any all fuel listed k) L H):aj P fn c M fr b3:=
 U (fun _ an w a σ S ad=>ab w a σ S (ad.weaken an))
theorem kP {x:Code}(L:Fr)(U:(∀fr,jm fr L→aj P fn c (.code x k) fr H)→aj P fn c M fr b3)(ab:aj P fn c (.code x k) L H):aj P fn c M fr b3:=
 U (fun _ an w a σ S ad=>ab w a σ S (ad.weaken an))
end
theorem O5 {gR:aY}{fr:Fr}: ∀{L:Fr},jm fr L→D7 gR fr L
 |[],_=>have bY:= ‹bx›;trivial
 |(t,v)::r,h=>⟨⟨v,h.1,.inl rfl⟩,O5 h.2⟩
theorem U7 (t:Nat)(v:ao)(L:Fr):look t ((t,v)::L)=some v:=by have bY:= ‹bx›;show (bif Nat.beq t t then some v else _)=_;rw [pP];rfl
theorem Wd {t:Nat}{p q:ao}{L:Fr}(aD:gV 0 p=false): ∀(M:Fr),jm ((t,p)::L) M→kr 0 M=true→jm ((t,q)::L) M
 |[],_,_=>have bY:= ‹bx›;trivial
 |(u,v)::r,h,ak=>by
  simp only [kr,er] at ak;refine ⟨?_,Wd aD r h.2 ak.2⟩;have U:(bif Nat.beq u t then some p else look u L)=some v:=h.1;show (bif Nat.beq u t then _ else look u L)=some v;cases aA:Nat.beq u t with
  |true=>rw [aA] at U;simp at U;subst U;rw [aD] at ak;exact absurd ak.1 aT
  |false=>rw [aA] at U;simpa using U
theorem aat {P:Program}{fn:Func}{c:Ctx}{fr:Fr}{k:List eO}{x:Code}{o:bm}{v:ao}(t:Nat)(L:Fr)(qP:ao)(aG:e5 o.c)(af:gV 0 v=false)(ry:qP=v.kL [some o])(aa:nL [some o] v)(ez:gV 0 qP=true)(pY:jm fr ((t,v)::L))(l4:jm ((t,v)::L) L)(ak:kr 0 L=true)(kj: ∀h,¬c.fix h)(h:aj P fn c (.code x k) ((t,qP)::L) []):aj P fn c (.code x k) fr [some o]:=by
 refine Jq [some o] [none] ((t,qP)::L) (fun _ _ h=>h) (vG aG) I ?_ ⟨⟨v,pY.1,.inr (.inr ⟨ry,aa⟩)⟩,O5 pY.2⟩ ?_
 ·intro h o' cN
  match h,cN with
  |0,cN=>simp at cN
  |_+1,cN=>simp at cN
 exact aas [] [none] ((t,qP)::L) I ⟨U7 _ _ _,Wd (p:=v) af L l4 ak⟩ (fun h aX=>(kj h aX).elim) I (by simp only [kr,er];exact ⟨ez,ak⟩) h
end Go.aj
namespace Go.aj
variable [bx]
open Go.RowKit
def Nn (P:Program)(t:TypeId)(x y:ao):Option Bool:=match P.underlying t,x,y with
 |some (.int _),.int k a,.int c1 b=>if k=c1 then some (decide (a=b)) else none
 |some .string,.str a,.str b=>some (decide (a=b))
 |some .bool,.bool a,.bool b=>some (a==b)
 |_,_,_=>none
theorem apK {P:Program}{w w':World}{S:Nat→Prop}{σ:Nat→Option bP}{t:TypeId}{x y:ao}{b:Bool}{v qP:Value}(h:Nn P t x y=some b)(af:bz w S σ x v)(ry:bz w S σ y qP)(d:Nat):
 P.plainKey t=true∧(Op.equalIn (d+1) t v qP).run P w'= .ok b w':=by
 unfold Nn at h;split at h
 ·rename_i hu;split at h
  ·rename_i an;subst an;simp only [dG] at h;subst h;cases af;cases ry;refine ⟨by simp [Program.plainKey,hu],?_⟩;rw [run_equalIn_int w' d t _ _ _ _ hu];rfl
  ·cases h
 ·rename_i hu;simp only [dG] at h;subst h;cases af;cases ry;refine ⟨by simp [Program.plainKey,hu],?_⟩;simp only [pD];rw [run_equalIn_string w' d t _ _ hu,Vw,Vw];congr 1;rw [xH];simp
 ·rename_i hu;simp only [dG] at h;subst h;cases af;cases ry;exact ⟨by simp [Program.plainKey,hu],run_equalIn_bool' w' d t _ _ hu⟩
 ·cases h
theorem ZK {w:World}{S:Nat→Prop}{σ:Nat→Option bP}{L:List ao}{vs:Array Value}(au:vs.size=L.length)(af: ∀i,i<L.length→bz w S σ (L.getD i .any) (vs.getD i undef)){o:Nat}{x:ao}(h:L[o]? =some x): ∃v,vs[o]? =some v∧bz w S σ x v:=by
 have bY:= ‹bx›;have bG:o<L.length:=(gZ.1 h).1;have ay:=af o bG;have e:L.getD o .any=x:=by simp [List.getD,h]
 rw [e] at ay;exact ⟨_,by simp [Array.getD,au,bG],ay⟩
section
variable {P:Program}{fn:Func}{c:Ctx}{fr:Fr}{H:aY}{k:List eO}{ind:Bool}{d:Option Nat}{ty:TypeId}{pos:String}{after:Array Edge}{g:Option (Nat×Bool)}
end
end Go.aj
namespace Go.aj
variable [bx]
open Go.RowKit
def n7 (k:IntKind)(M:Nat):Prop:= ∀n:Int,k.wrap n=n%(M:Int)
theorem eW:n7 .u64 18446744073709551616:=have bY:= ‹bx›;fun n=>IntKind.wrap_u64 n
theorem lv:n7 .u32 4294967296:=have bY:= ‹bx›;fun n=>IntKind.wrap_u32 n
theorem n7.in {k:IntKind}{M:Nat}(h:n7 k M){m:Nat}(hm:m<M):k.wrap (m:Int)=(m:Int):=by have bY:= ‹bx›;rw [h];exact Int.emod_eq_of_lt J J
theorem n7.low {k:IntKind}{M:Nat}(h:n7 k M)(m:Nat):k.wrap (m:Int)=((m%M:Nat):Int):=by have bY:= ‹bx›;rw [h];simp
section
variable {P:Program}{fn:Func}{c:Ctx}{fr:Fr}{H:aY}{k:List eO}{ind:Bool}{d:Option Nat}{ty:TypeId}{pos:String}{after:Array Edge}{g:Option (Nat×Bool)}
theorem bZ.res {o:Oper}{v qP:ao}(h:bZ ind P fn c fr H o v)(e:v=qP):bZ ind P fn c fr H o qP:=e▸h
theorem gU {x:Operand}{src dst:TypeId}{eC c1:IntKind}{u:TypeDesc}{m M:Nat}(az:P.underlying src=some u)(hd:P.underlying dst=some (.int c1))(al:bH fr x=some (.int eC (m:Nat)))(an:n7 c1 M)(hm:m<M):
 bZ ind P fn c fr H ⟨d,.convert src dst x,ty,pos,after,g⟩ (.int c1 (m:Nat)):=(Qy az hd al).res (congrArg (ao.int c1) (an.in hm))
theorem xu {x:Operand}{src dst:TypeId}{eC c1:IntKind}{u:TypeDesc}{m M:Nat}(az:P.underlying src=some u)(hd:P.underlying dst=some (.int c1))(al:bH fr x=some (.int eC (m:Nat)))(an:n7 c1 M):
 bZ ind P fn c fr H ⟨d,.convert src dst x,ty,pos,after,g⟩ (.int c1 (m%M:Nat)):=(Qy az hd al).res (congrArg (ao.int c1) (an.low m))
theorem xv {x y:Operand}{t cC:TypeId}{k c1:IntKind}{m s:Nat}(al:bH fr x=some (.int k (m:Nat)))(a1:bH fr y=some (.int c1 (s:Nat)))(ak:Nat.ble s k.bits=true):
 bZ ind P fn c fr H ⟨d,.binOp .shr t x y cC,ty,pos,after,g⟩ (.int k (m/2^s:Nat)):=by refine (aja al a1 J).res (congrArg (ao.int k) ?_);have az:s≤k.bits:=iZ ak;unfold Nq;rw [cn,hX az,Int.fdiv_eq_ediv_of_nonneg _ (Int.pow_nonneg aT)];simp
theorem Gu {x y:Operand}{t cC:TypeId}{k c1:IntKind}{m s M:Nat}(al:bH fr x=some (.int k (m:Nat)))(a1:bH fr y=some (.int c1 (s:Nat)))(ak:s≤k.bits)(an:n7 k M)(hm:m*2^s<M):
 bZ ind P fn c fr H ⟨d,.binOp .shl t x y cC,ty,pos,after,g⟩ (.int k (m*2^s:Nat)):=by refine (TW al a1 J).res (congrArg (ao.int k) ?_);unfold ID;rw [cn,hX ak];have:((m:Int)*2^s)=((m*2^s:Nat):Int):=b1;rw [this];exact an.in hm
theorem G4 {k:IntKind}{M:Nat}(an:n7 k M)(ho:M=2^k.bits){m:Nat}(hm:m<M):(BitVec.ofInt k.bits (m:Int)).toNat=m:=by have bY:= ‹bx›;subst ho;simp [BitVec.toNat_ofInt,ny hm]
theorem GA {x y:Operand}{t cC:TypeId}{k:IntKind}{m n M:Nat}(al:bH fr x=some (.int k (m:Nat)))(a1:bH fr y=some (.int k (n:Nat)))(an:n7 k M)(ho:M=2^k.bits)(hm:m<M)(aG:n<M):
 bZ ind P fn c fr H ⟨d,.binOp .or t x y cC,ty,pos,after,g⟩ (.int k (m|||n:Nat)):=by refine (aiW al a1).res (congrArg (ao.int k) ?_);unfold Nf;rw [BitVec.toNat_or,G4 an ho hm,G4 an ho aG];exact an.in (by subst ho;exact Nat.or_lt_two_pow hm aG)
theorem ajb {x y:Operand}{t cC:TypeId}{k:IntKind}{m n M:Nat}(al:bH fr x=some (.int k (m:Nat)))(a1:bH fr y=some (.int k (n:Nat)))(an:n7 k M)(ho:M=2^k.bits)(hm:m<M)(aG:n<M):
 bZ ind P fn c fr H ⟨d,.binOp .and t x y cC,ty,pos,after,g⟩ (.int k (m &&& n:Nat)):=by refine (aiP al a1).res (congrArg (ao.int k) ?_);unfold Lb;rw [BitVec.toNat_and,G4 an ho hm,G4 an ho aG];exact an.in (by subst ho;exact Nat.and_lt_two_pow m aG)
theorem vB {x y:Operand}{t cC:TypeId}{k:IntKind}{m n M:Nat}(al:bH fr x=some (.int k (m:Nat)))(a1:bH fr y=some (.int k (n:Nat)))(an:n7 k M)(hm:m+n<M):
 bZ ind P fn c fr H ⟨d,.binOp .add t x y cC,ty,pos,after,g⟩ (.int k (m+n:Nat)):=by refine (Qi al a1 I).res (congrArg (ao.int k) ?_);have:(m:Int)+(n:Int)=((m+n:Nat):Int):=b1;rw [this];exact an.in hm
theorem Dj {x y:Operand}{t cC:TypeId}{k:IntKind}{m n M:Nat}(al:bH fr x=some (.int k (m:Nat)))(a1:bH fr y=some (.int k (n:Nat)))(an:n7 k M)(hm:m*n<M):
 bZ ind P fn c fr H ⟨d,.binOp .mul t x y cC,ty,pos,after,g⟩ (.int k (m*n:Nat)):=by refine (Qi al a1 I).res (congrArg (ao.int k) ?_);have:(m:Int)*(n:Int)=((m*n:Nat):Int):=b1;rw [this];exact an.in hm
theorem Qz {x y:Operand}{t cC:TypeId}{k:IntKind}{m n M:Nat}(al:bH fr x=some (.int k (m:Nat)))(a1:bH fr y=some (.int k (n:Nat)))(an:n7 k M)(hm:m<M)(aG:n≤m):
 bZ ind P fn c fr H ⟨d,.binOp .sub t x y cC,ty,pos,after,g⟩ (.int k (m-n:Nat)):=by refine (Qi al a1 I).res (congrArg (ao.int k) ?_);have:(m:Int)-(n:Int)=((m-n:Nat):Int):=J;rw [this];exact an.in J
theorem ajc {x y:Operand}{t cC:TypeId}{k:IntKind}{m n:Nat}(al:bH fr x=some (.int k (m:Nat)))(a1:bH fr y=some (.int k (n:Nat)))(aG:0<n):
 bZ ind P fn c fr H ⟨d,.binOp .rem t x y cC,ty,pos,after,g⟩ (.int k (m%n:Nat)):=
 (aiZ al a1 ⟨J,J⟩).res (congrArg (ao.int k) b1)
theorem TX {x y:Operand}{t cC:TypeId}{k:IntKind}{m n M:Nat}(al:bH fr x=some (.int k (m:Nat)))(a1:bH fr y=some (.int k (n:Nat)))(an:n7 k M)(hm:m<M)(aG:0<n):
 bZ ind P fn c fr H ⟨d,.binOp .quo t x y cC,ty,pos,after,g⟩ (.int k (m/n:Nat)):=by refine (aiY al a1 J).res (congrArg (ao.int k) ?_);have:(m:Int).tdiv (n:Int)=((m/n:Nat):Int):=b1;rw [this];exact an.in (re (vX _ _) hm)
end
end Go.aj
namespace Go.aj
variable [bx]
open Go.RowKit
section
variable {P:Program}{fn:Func}{c:Ctx}{fr:Fr}{H:aY}{k:List eO}
end
end Go.aj
namespace Go.aj
variable [bx]
open Go.RowKit
section
variable {P:Program}{fn:Func}{c:Ctx}{fr:Fr}{H:aY}{k:List eO}
theorem PY {all:Array Oper}{d:Nat}{t w1 e:TypeId}{x y:Operand}{ty:TypeId}{pos:String}{after:Array Edge}{rest:List Oper}{inf:TypeInfo}{h i n:Nat}{o:bm}{v:ao}{eH c':Cells}{i2 m q:Nat}(bu:P.underlying t=some (.slice e))(aa:P.info? e=some inf)(wO:inf.size=o.c.aI)(al:bH fr x=some (.aC h i n))(aX:H[h]? =some (some o))(a1:bH fr y=some v)(az:DC H v=some (eH,i2,m))(aqW:i+n≤o.c.len)(aG:0<n)(ei:i2+m≤eH.len)(hm:0<m)(aA:Nat.min m n=q)(c4:c'.aI=o.c.aI)(fv:eH.aI=o.c.aI)(mD:c'.len=o.c.len)(nh: ∀aK j,aK<o.c.len→j<o.c.aI→c'.at aK j=if i≤aK∧aK<i+q then eH.at (i2+(aK-i)) j else o.c.at aK j)(an:aj P fn c (.ops false all rest k) ((d,.int .i64 (q:Nat))::fr) (H.set h (some ⟨o.ty,c'⟩)))(bB:o.c.aI≠0:=by (intro aX;cases aX)):aj P fn c (.ops false all (⟨some d,.call {callee:= .builtin .copy,args:= #[x,y],argTypes:= #[t,w1]},ty,pos,after,none⟩::rest) k) fr H:=by
 refine uD (fun w a σ S ad=> ?_) an;have U:=ad.ek al;have ab:=ad.ek a1;have uU:=ad.src ab az (fun _ _=>ei);have mY: ∀r w',(Builtin.copy_ #[t,w1] ty #[a.eval x,a.eval y]).run P w= .ok r w'→(execOp a.eval ⟨some d,.call {callee:= .builtin .copy,args:= #[x,y],argTypes:= #[t,w1]},ty,pos,after,none⟩).run P w= .ok (.value r) w':=by intro r w' h;simp [execOp,resolve,invoke,builtin,h]
 generalize Ib:a.eval x=Ux at U mY;generalize nf:a.eval y=Uy at ab uU mY;unfold Src at uU;rw [fv] at uU;have SR:q≤m∧q≤n:=by subst aA;exact ⟨Nat.min_le_left _ _,Nat.min_le_right _ _⟩
 cases U with
 |iD _ _ bL=>omega
 |aC _ _ _ _ b s C cap bL hlen kh=>
  obtain ⟨hf,cur,g1,g2,g3,g4,g5,g6⟩:=ad.obj aX bL;subst hf;obtain ⟨mk,g1,lj,lD⟩:=g1.cells bB;rcases uU with ⟨rfl,nC,rl,rfl⟩|⟨jD,rl,news,rfl,bQ,bX,dr,en⟩
  ·omega
  ·have hle:q*o.c.aI≤news.length:=by rw [bQ];exact fp _ SR.1
   have wP:(news.take (q*o.c.aI)).length=q*o.c.aI:=by rw [fy];omega
   have aqQ:i*o.c.aI+q*o.c.aI≤cur.size:=by rw [g2,←eF];exact fp _ J
   have aR:=run_firstCells_some (P:=P) w o.c.aI q jD m rl (news.take (q*o.c.aI)) wP (fun j u hu=>by
    rw [qs] at hu;split at hu
    ·exact bX j u hu
    ·cases hu)
   have dT:=Fh P b (i*o.c.aI) o.ty mk (news.take (q*o.c.aI)) 0 cur w g1 lj (by rw [wP];omega) (fun u hu=>dr u (pI hu));simp only [fg,wP] at dT;have eR:(Builtin.copy_ #[t,w1] ty #[.slice (some ⟨b,i*o.c.aI,none⟩) n cap,.slice (some jD) m rl]).run P w= .ok (.int .i64 (q:Nat)) (w.setRow b (cur.toList.take (i*o.c.aI)++news.take (q*o.c.aI)++cur.toList.drop (i*o.c.aI+q*o.c.aI)).toArray):=by simp [Builtin.copy_,run_underlying bu,sizeOf,typeInfo,aa,wO,Builtin.lenOf,aA,aR,dT,goInt]
   have tw:(cur.toList.take (i*o.c.aI)).length=i*o.c.aI:=by rw [fy];simp;omega
   refine ⟨_,_,σ,S,mY _ _ eR,ad.setRow aX bL lD c4 J ?_ (fun aK j aQ ae=> ?_),.int _ _ _⟩
   ·rw [←g2];simp;omega
   ·rw [mD] at aQ;rw [c4] at ae⊢;rw [nh aK j aQ ae];split
    ·rename_i Aa;obtain ⟨u,aE,aF⟩:=en (aK-i) j J ae;refine ⟨u,?_,aF,dr u (pS aE)⟩;have uQ:aK*o.c.aI+j=i*o.c.aI+((aK-i)*o.c.aI+j):=by rw [←jU,←eF];congr 2;omega
     have bG:(aK-i)*o.c.aI+j<q*o.c.aI:=by have:(aK-i+1)*o.c.aI≤q*o.c.aI:=fp _ J;rw [eF] at this;omega
     simp only [Bh,mr];rw [uQ,jV J,tw,xF,ic J,qs,aB bG];exact aE
    ·rename_i Aa;obtain ⟨u,aE,aF,bO⟩:=g6 aK j aQ ae;refine ⟨u,?_,aF,bO⟩;simp only [Bh,mr];by_cases zY:aK<i
     ·have bG:aK*o.c.aI+j<i*o.c.aI:=by have:(aK+1)*o.c.aI≤i*o.c.aI:=fp _ J;rw [eF] at this;omega
      rw [ic J,qs,aB bG];simpa using aE
     ·have pX:i+q≤aK:=J;have aqT:i*o.c.aI+q*o.c.aI≤aK*o.c.aI+j:=by have:(i+q)*o.c.aI≤aK*o.c.aI:=fp _ pX;rw [eF] at this;omega
      rw [jV J,tw,jV J,wP,List.getElem?_drop];rw [show i*o.c.aI+q*o.c.aI+(aK*o.c.aI+j-i*o.c.aI-q*o.c.aI)=aK*o.c.aI+j by omega];simpa using aE
theorem cd.aaW {w w':World}{a:Act}{σ bC:Nat→Option bP}{S cb:Nat→Prop}{n m:Nat}{bK:aY}{fix:Nat→Prop}{K:ao→aY→Prop}(ad:cd c w a σ S n fr H)(hp: ∀h,h<H.length→h≠m→fix h)(pV: ¬c.fix m)(tz:lU w' cb bC bK){aD:qf w S σ H}(hlen:H.length≤bK.length)(jZ:xB (oD w S σ H fix K aD) w' cb bC bK):
 cd c w' a bC cb n (oC m fr) bK:=by
 have ch: ∀h,h≠m→ ∀B,σ h=some B→bC h=some B:=by
  intro h hm B cf;have bG:h<H.length:=by
   rcases gA h H.length with au|au
   ·exact au
   ·rw [ad.ad.ie h au] at cf;cases cf
  rw [jZ.fixed h (hp h bG hm)];exact cf
 have LB: ∀b,S b→ ¬rW σ H b:=by rintro b az ⟨h,o,s,C,U,ab⟩;exact (ad.obj U ab).2.choose_spec.2.2.2.2.1 az
 have dm: ∀b,S b→w'.heap[b]? =w.heap[b]? :=fun b az=>jZ.block b (ad.ad.small b az) (LB b az);refine ⟨tz,?_,ad.defers,ad.size,fun t v au=> ?_⟩
 ·refine ⟨jZ.os.trans ad.bk.os,jZ.output.trans ad.bk.output,jZ.tape.trans ad.bk.tape,dU ad.bk.size jZ.size,fun b ak ai=> ?_,fun b ak=>jZ.hV b (ad.bk.hV b ak),fun b ak=> ?_,fun h aR=> ?_,fun h aR=>ha (ad.bk.jF h aR) hlen,fun h o b s C U ab=> ?_⟩
  ·rw [←ad.bk.block b ak ai];have tC:=ad.bk.size;refine jZ.block b (by simp only [oD];omega) ?_;rintro ⟨h,o,s,C,U,ab⟩;rcases ad.bk.own h o b s C U ab with ay|ay
   ·exact ai ay
   ·omega
  ·rcases jZ.fb b ak with U|U|U
   ·exact ad.bk.fb b U
   ·obtain ⟨h,o,s,C,g1,g2⟩:=U;rcases ad.bk.own h o b s C g1 g2 with g3|g3
    ·exact .inr (.inl g3)
    ·exact .inr (.inr g3)
   ·right;right;have:=ad.bk.size;simp only [oD] at U;omega
  ·have hm:h≠m:=fun e=>pV (e▸aR);rw [jZ.fixed h (hp h (ad.bk.jF h aR) hm)];exact ad.bk.fixed h aR
  ·rcases jZ.own h o b s C U ab with ⟨aS,o',ct,cM,g1,g2⟩|ay
   ·exact ad.bk.own aS o' b ct cM g1 g2
   ·right;have:=ad.bk.size;simp only [oD] at ay;omega
 ·rw [Fp] at au;cases aA:look t fr with
  |none=>simp [aA] at au
  |some v0=>
   simp [aA] at au;subst au;obtain ⟨s1,s2⟩:=ad.fl t v0 aA;refine ⟨s1,?_⟩;have vb:=s2.forget (h:=m) (fun h=>if h=m then bC m else σ h) (fun aS aX=>by simp [aX]);exact vb.mono jZ.hV dm _ (fun h B cf=>by
    by_cases aX:h=m
    ·subst aX;simpa using cf
    ·simp only [aX,hA] at cf;exact ch h aX B cf)
theorem Xt {all:Array Oper}{d:Option Nat}{g:Operand}{args:List Operand}{hZ:Array TypeId}{ty:TypeId}{pos:String}{after:Array Edge}{rest:List Oper}{f:FuncId}{cD dZ gz:List ao}{fix:Nat→Prop}{K:ao→aY→Prop}(m:Nat)(c9:bH fr g=some (.fn f cD))(aW:lb fr args=some dZ)(has:dZ++cD=gz)(lg:cm P f gz H fix K)(hp: ∀h,h<H.length→h≠m→fix h)(hD: ∀h,fix h→h<H.length)(pV: ¬c.fix m)(an: ∀r bK,K r bK→H.length≤bK.length∧aj P fn c (.ops false all rest k) (match d with|some d=>(d,r)::oC m fr|none=>oC m fr) bK):aj P fn c (.ops false all (⟨d,.call {callee:= .value g,args:=args.toArray,argTypes:=hZ},ty,pos,after,none⟩::rest) k) fr H:=by
 intro hd w a σ S ad;obtain ⟨jr,jG⟩:=tW hd;obtain ⟨⟨ade,BK,L7,HB⟩,av⟩:=lg;subst has;have U:=ad.ek c9;obtain ⟨aE,aF⟩:=FT ad args dZ aW;generalize bB:a.eval g=z at U;refine wpList_step (fun kB Lx=> ?_);simp only [Region.wanted,gg];unfold Oper.wp;cases U with
 |fn _ _ _ vs au af=>
  have eR:(execOp a.eval ⟨d,.call {callee:= .value g,args:=args.toArray,argTypes:=hZ},ty,pos,after,none⟩).run P w= .ok (.enter f ((args.map a.eval).toArray++vs)) w:=by simp only [execOp,resolve,bB,Deferred.ofValue,Sem.run_bind,Sem.run_pure,Result.andThen_ok,invoke,callFunc,List.map_toArray,Array.empty_append,program,Sem.run,BK];simp [L7,HB]
  rw [eR];have Hs:pH w S σ (dZ++cD) ((args.map a.eval).toArray++vs):=by
   refine ⟨by simp [aE,au],fun i aa=> ?_⟩;simp only [di] at aa;by_cases bG:i<dZ.length
   ·have:=aF i bG;have x6:i<args.length:=J;have l0:(dZ++cD).getD i .any=dZ.getD i .any:=by simp [List.getD,oS,bG]
    have kK:((args.map a.eval).toArray++vs).getD i undef=(args.map a.eval).getD i undef:=by simp [DM,x6,List.getD]
    rw [l0,kK];exact this
   ·have:=af (i-dZ.length) J;have j0: ¬i<args.length:=J;have l0:(dZ++cD).getD i .any=cD.getD (i-dZ.length) .any:=by simp [List.getD,oS,bG]
    have kK:((args.map a.eval).toArray++vs).getD i undef=vs.getD (i-dZ.length) undef:=by simp [DM,aE,bG]
    rw [l0,kK];exact this
  refine Calls.mono (av w σ S _ ad.TL ad.ad hD Hs) ?_;rintro e w' ⟨v,r,bC,cb,bK,rfl,g1,g2,g3,g4⟩;obtain ⟨hlen,l4⟩:=an r bK g4;have kl:=ad.aaW hp pV g1 hlen g3;refine Lx _ _ ?_;cases d with
  |none=>exact l4 jG w' _ bC cb kl
  |some d=>exact l4 jG w' _ bC cb (kl.put g2 (jr d rfl))
end
end Go.aj
namespace Go.aj
variable [bx]
open Go.RowKit
section
variable {ind:Bool}{P:Program}{fn:Func}{c:Ctx}{fr:Fr}{H:aY}{k:List eO}{d:Option Nat}{ty:TypeId}{pos:String}{after:Array Edge}{g:Option (Nat×Bool)}
end
end Go.aj
namespace Go.aj
variable [bx]
open Go.RowKit
section
variable {P:Program}{fn:Func}{c:Ctx}{fr:Fr}{H:aY}{k:List eO}
theorem adf {h:Nat}{o:bm}(aX:H[h]? =some (some o)):w0 (List.replicate h none++[some o]) H:=by
 have bY:= ‹bx›;intro aS o' ai;rcases DO aS h with q|q|q
 ·rw [ic (by simpa using q)] at ai;simp [pJ,q] at ai
 ·subst q;rw [jV b1] at ai;simp at ai;subst ai;exact aX
 ·rw [kD (by simp;omega)] at ai;cases ai
theorem apb {h:Nat}{o:bm}(fk:e5 o.c): ∀(aS:Nat) (o':bm),(List.replicate h none++[some o]:aY)[aS]? =some (some o')→e5 o'.c:=by
 have bY:= ‹bx›;intro aS o' ai;have hm:=pS ai;rcases gM.1 hm with q|q
 ·have:=(zm.1 q).2;cases this
 ·simp at q;subst q;exact fk
theorem Ze {h:Nat}{o:bm}:(List.replicate h none++[some o]:aY)[h]? =some (some o):=by have bY:= ‹bx›;rw [jV b1];simp
theorem cd.RI {w:World}{a:Act}{σ:Nat→Option bP}{S:Nat→Prop}{N:Nat}(ad:cd c w a σ S N fr H)(h t n:Nat){o:bm}(L:Fr)(aX:H[h]? =some (some o))(fk:e5 o.c)(au:look t fr=some (.aC h 0 n))(aG:n≤o.c.len)(cB:jm fr L):
 ∃cb,cd c w a σ cb N ((t,.ro o.c 0 n)::L) (H.set h none):=by
 have bG:h<H.length:=(gZ.1 aX).1;refine ad.freeze (List.replicate h none++[some o]) (H.set h none) (adf aX) (apb fk) b1 ?_ ⟨⟨_,au,.inr (.inr ⟨?_,?_⟩)⟩,O5 cB⟩
 ·intro aS o' ai;have ch:aS≠h:=by rintro rfl;rw [oP bG] at ai;cases ai
  rw [lW (ra ch)] at ai;refine ⟨fun o2 ab=> ?_,o',ai,I,I,I,fun i j _ _=> .inl I⟩;rcases gA aS h with q|q
  ·rw [ic (by simpa using q)] at ab;simp [pJ,q] at ab
  ·rw [kD (by simp;omega)] at ab;cases ab
 ·simp only [ao.kL,Ze]
 ·intro o2 ab;rw [Ze] at ab;cases ab;omega
theorem sO {all:Array Oper}{rest:List Oper}(h t n:Nat){o:bm}(L:Fr)(aX:H[h]? =some (some o))(fk:e5 o.c)(au:look t fr=some (.aC h 0 n))(aG:n≤o.c.len)(cB:jm fr L)(an:aj P fn c (.ops false all rest k) ((t,.ro o.c 0 n)::L) (H.set h none)):aj P fn c (.ops false all rest k) fr H:=by intro hd w a σ S ad;obtain ⟨cb,fU⟩:=ad.RI h t n L aX fk au aG cB;exact an hd w a σ cb fU
theorem mG {x:Code}(h t n:Nat){o:bm}(L:Fr)(aX:H[h]? =some (some o))(fk:e5 o.c)(au:look t fr=some (.aC h 0 n))(aG:n≤o.c.len)(cB:jm fr L)(an:aj P fn c (.code x k) ((t,.ro o.c 0 n)::L) (H.set h none)):aj P fn c (.code x k) fr H:=by intro w a σ S ad;obtain ⟨cb,fU⟩:=ad.RI h t n L aX fk au aG cB;exact an w a σ cb fU
theorem dA {q:Bool}{all:Array Oper}{rest:List Oper}(bK:aY)(he:H=bK)(an:aj P fn c (.ops q all rest k) fr bK):aj P fn c (.ops q all rest k) fr H:=by subst he;exact an
variable {ind:Bool}{d:Option Nat}{ty:TypeId}{pos:String}{after:Array Edge}{g:Option (Nat×Bool)}
theorem UH {op:BinOp}{t:TypeId}{x y:Operand}{a b:Bool}{w:World}:(eqGuard op t x y (.bool a) (.bool b)).run P w= .ok () w:=by have bY:= ‹bx›;unfold eqGuard;split<;>rfl
theorem Ow {x y:Operand}{t cC:TypeId}{a b:Bool}(bu:P.underlying t=some .bool)(al:bH fr x=some (.bool a))(a1:bH fr y=some (.bool b)):bZ ind P fn c fr H ⟨d,.binOp .neq t x y cC,ty,pos,after,g⟩ (.bool (!(a==b))):=by intro w ac σ S ad;refine ⟨_,.bool _ _,fun w' _=> ?_⟩;have U:=ad.Bw al;have ab:=ad.Bw a1;have ay:=run_neq_bool (P:=P) w' t a b bu;simp [execOp,U,ab,UH,ay];try (cases a<;>cases b<;>rfl)
theorem PH {x y:Operand}{t cC:TypeId}{a b:Bool}(bu:P.underlying t=some .bool)(al:bH fr x=some (.bool a))(a1:bH fr y=some (.bool b)):bZ ind P fn c fr H ⟨d,.binOp .eql t x y cC,ty,pos,after,g⟩ (.bool (a==b)):=by intro w ac σ S ad;refine ⟨_,.bool _ _,fun w' _=> ?_⟩;have U:=ad.Bw al;have ab:=ad.Bw a1;have ay:=run_eql_bool (P:=P) w' t a b bu;simp [execOp,U,ab,UH,ay]
theorem Zp {x y:Operand}{t cC:TypeId}{eC c1:IntKind}{m s M:Nat}(al:bH fr x=some (.int eC (m:Nat)))(a1:bH fr y=some (.int c1 (s:Nat)))(ak:s≤eC.bits)(an:n7 eC M):
 bZ ind P fn c fr H ⟨d,.binOp .shl t x y cC,ty,pos,after,g⟩ (.int eC (m*2^s%M:Nat)):=by refine (TW al a1 J).res (congrArg (ao.int eC) ?_);unfold ID;rw [cn,hX ak];have:((m:Int)*2^s)=((m*2^s:Nat):Int):=b1;rw [this];exact an.low _
end
end Go.aj
namespace Go.aj
variable [bx]
open Go.RowKit
theorem IL {fr:Fr}: ∀{K:Fr},(∀p∈K,look p.1 fr=some p.2)→jm fr K
 |[],_=>have bY:= ‹bx›;trivial
 |(t,v)::r,h=>⟨h (t,v) b1,IL (fun p aD=>h p (by simp [aD]))⟩
theorem IM {fr:Fr}: ∀{K:Fr},jm fr K→ ∀p∈K,look p.1 fr=some p.2
 |[],_,p,aD=>have bY:= ‹bx›;by simp at aD
 |(t,v)::r,h,p,aD=>by
  rcases gb.1 aD with rfl|aD
  ·exact h.1
  ·exact IM h.2 p aD
theorem J4 {fr K:Fr}(h:jm fr K){o:Operand}{v:ao}(he:bH K o=some v):bH fr o=some v:=by
 have bY:= ‹bx›;cases o with
 |tmp t=>exact Fw h he
 |const x=>exact he
 | «global» g=>cases he
 |func f=>exact he
theorem OP {fr K:Fr}(h:jm fr K): ∀{xs:List Operand} {l:List ao},lb K xs=some l→lb fr xs=some l
 |[],l,he=>have bY:= ‹bx›;he
 |x::r,l,he=>by
  simp only [lb] at he⊢;split at he
  ·rename_i v af;split at he
   ·rename_i q aA;rw [J4 h af,OP h aA];exact he
   ·cases he
  ·cases he
section
variable {P:Program}{fn:Func}{c:Ctx}{fr:Fr}{H:aY}{k:List eO}
def gK (P:Program)(fn:Func)(c:Ctx)(H:aY)(all:Array Oper)(K:Fr)(o:Oper)(d:Nat)(v:ao):Prop:=
 ∀(k:List eO) (fr:Fr),jm fr K→aj P fn c (.ops false all [] k) ((d,v)::fr) H→aj P fn c (.ops false all [o] k) fr H
theorem TP {all:Array Oper}{K:Fr}{d:Nat}{op:Op}{ty:TypeId}{pos:String}{after:Array Edge}{v:ao}(h:bZ false P fn c K H ⟨some d,op,ty,pos,after,none⟩ v):gK P fn c H all K ⟨some d,op,ty,pos,after,none⟩ d v:=
 fun k fr an ab=>aq (fun w a σ S ad=>h w a σ S (ad.weaken an)) ab
theorem TQ {all:Array Oper}{K:Fr}{d:Nat}{g:Operand}{args:List Operand}{hZ:Array TypeId}{ty:TypeId}{pos:String}{after:Array Edge}{f:FuncId}{cD dZ gz:List ao}{r:ao}(c9:bH K g=some (.fn f cD))(aW:lb K args=some dZ)(has:dZ++cD=gz)(lg:br P f gz r):
 gK P fn c H all K ⟨some d,.call {callee:= .value g,args:=args.toArray,argTypes:=hZ},ty,pos,after,none⟩ d r:=
 fun k fr an ab=>aL (J4 an c9) (OP an aW) has lg ab
theorem WT {all:Array Oper}{K:Fr}{d:Nat}{op:Op}{ty:TypeId}{pos:String}{after:Array Edge}{v:ao}{j t:Nat}{p:Bool}(a1:qi all j=some t)(ak:look t K=some (.bool p))(h:gK P fn c H all K ⟨some d,op,ty,pos,after,none⟩ d v):gK P fn c H all K ⟨some d,op,ty,pos,after,some (j,p)⟩ d v:=
 fun k fr an ab=>mg a1 (Fw an ak) (h k fr an ab)
theorem aiK {all:Array Oper}{K:Fr}{d:Nat}{op:Op}{ty:TypeId}{pos:String}{after:Array Edge}{j t:Nat}{p b:Bool}(a1:qi all j=some t)(ak:look t K=some (.bool b))(ch:(b==p)=false):gK P fn c H all K ⟨some d,op,ty,pos,after,some (j,p)⟩ d (.ck []):=
 fun k fr an ab=>tQ a1 (Fw an ak) ch ab
theorem apw {all:Array Oper}{K:Fr}{d:Nat}{op:Op}{ty:TypeId}{pos:String}{after:Array Edge}{j t:Nat}{p:Bool}(a1:qi all j=some t)(ak:look t K=some (.ck [])):gK P fn c H all K ⟨some d,op,ty,pos,after,some (j,p)⟩ d (.ck []):=
 fun k fr an ab=>NG a1 (Fw an ak) ab
abbrev Steps:=List (Nat×Nat×ao)
def sT (st:Steps)(eE:Fr)(o:Oper):Fr:=((st.filter (fun s=>o.after.toList.any (fun e=>Nat.beq e.on s.1 && Region.binds .any e))).map (fun s=>s.2))++eE
def lR (P:Program)(fn:Func)(c:Ctx)(H:aY)(all:Array Oper)(eE:Fr):List Nat→Steps→(Steps→Prop)→Prop
 |[],st,G=>G st
 |i::r,st,G=> ∃o d v,all[i]? =some o∧o.dst=some d∧gK P fn c H all (sT st eE o) o d v∧lR P fn c H all eE r ((i,d,v)::st) G
theorem Kq {all:Array Oper}{eE:Fr}{i:Nat}{r:List Nat}{st:Steps}{G:Steps→Prop}{d:Nat}{op:Op}{ty:TypeId}{pos:String}{after:Array Edge}{v:ao}(aa:all[i]? =some ⟨some d,op,ty,pos,after,none⟩)(qH:gK P fn c H all (sT st eE ⟨some d,op,ty,pos,after,none⟩) ⟨some d,op,ty,pos,after,none⟩ d v)(h:lR P fn c H all eE r ((i,d,v)::st) G):lR P fn c H all eE (i::r) st G:=
 ⟨_,_,_,aa,rfl,qH,h⟩
theorem bT {all:Array Oper}{eE:Fr}{i:Nat}{r:List Nat}{st:Steps}{G:Steps→Prop}{d:Nat}{op:Op}{ty:TypeId}{pos:String}{after:Array Edge}{v:ao}{K:Fr}(aa:all[i]? =some ⟨some d,op,ty,pos,after,none⟩)(dE:sT st eE ⟨some d,op,ty,pos,after,none⟩=K)(qH:bZ false P fn c K H ⟨some d,op,ty,pos,after,none⟩ v)(h:lR P fn c H all eE r ((i,d,v)::st) G):lR P fn c H all eE (i::r) st G:=
 Kq aa (dE▸TP qH) h
theorem dW {all:Array Oper}{eE:Fr}{i:Nat}{r:List Nat}{st:Steps}{G:Steps→Prop}{d:Nat}{g:Operand}{args:List Operand}{hZ:Array TypeId}{ty:TypeId}{pos:String}{after:Array Edge}{f:FuncId}{cD dZ gz:List ao}{v:ao}{K:Fr}(aa:all[i]? =some ⟨some d,.call {callee:= .value g,args:=args.toArray,argTypes:=hZ},ty,pos,after,none⟩)(dE:sT st eE ⟨some d,.call {callee:= .value g,args:=args.toArray,argTypes:=hZ},ty,pos,after,none⟩=K)(c9:bH K g=some (.fn f cD))(aW:lb K args=some dZ)(has:dZ++cD=gz)(lg:br P f gz v)(h:lR P fn c H all eE r ((i,d,v)::st) G):lR P fn c H all eE (i::r) st G:=
 Kq aa (dE▸TQ c9 aW has lg) h
theorem gp {all:Array Oper}{eE:Fr}{i:Nat}{r:List Nat}{st:Steps}{G:Steps→Prop}{d:Nat}{op:Op}{ty:TypeId}{pos:String}{after:Array Edge}{v:ao}{K:Fr}{j t:Nat}{p:Bool}(aa:all[i]? =some ⟨some d,op,ty,pos,after,some (j,p)⟩)(dE:sT st eE ⟨some d,op,ty,pos,after,some (j,p)⟩=K)(a1:qi all j=some t)(ak:look t K=some (.bool p))(qH:bZ false P fn c K H ⟨some d,op,ty,pos,after,none⟩ v)(h:lR P fn c H all eE r ((i,d,v)::st) G):lR P fn c H all eE (i::r) st G:=
 ⟨_,_,_,aa,rfl,dE▸WT a1 ak (TP qH),h⟩
theorem jN {all:Array Oper}{eE:Fr}{i:Nat}{r:List Nat}{st:Steps}{G:Steps→Prop}{d:Nat}{op:Op}{ty:TypeId}{pos:String}{after:Array Edge}{K:Fr}{j t:Nat}{p b:Bool}(aa:all[i]? =some ⟨some d,op,ty,pos,after,some (j,p)⟩)(dE:sT st eE ⟨some d,op,ty,pos,after,some (j,p)⟩=K)(a1:qi all j=some t)(ak:look t K=some (.bool b))(ch:(b==p)=false)(h:lR P fn c H all eE r ((i,d,.ck [])::st) G):lR P fn c H all eE (i::r) st G:=
 ⟨_,_,_,aa,rfl,dE▸aiK a1 ak ch,h⟩
theorem p8 {all:Array Oper}{eE:Fr}{i:Nat}{r:List Nat}{st:Steps}{G:Steps→Prop}{d:Nat}{op:Op}{ty:TypeId}{pos:String}{after:Array Edge}{K:Fr}{j t:Nat}{p:Bool}(aa:all[i]? =some ⟨some d,op,ty,pos,after,some (j,p)⟩)(dE:sT st eE ⟨some d,op,ty,pos,after,some (j,p)⟩=K)(a1:qi all j=some t)(ak:look t K=some (.ck []))(h:lR P fn c H all eE r ((i,d,.ck [])::st) G):lR P fn c H all eE (i::r) st G:=
 ⟨_,_,_,aa,rfl,dE▸apw a1 ak,h⟩
theorem eI {all:Array Oper}{eE:Fr}{st:Steps}{G:Steps→Prop}(h:G st):lR P fn c H all eE [] st G:=h
def Dn (P:Program)(fn:Func)(c:Ctx)(H:aY)(all:Array Oper)(eE:Fr)(st:Steps)(s:Nat×Nat×ao):Prop:=
 ∃o K,all[s.1]? =some o∧o.dst=some s.2.1∧gK P fn c H all K o s.2.1 s.2.2∧ ∀p∈K,p∈eE∨ ∃ct∈st,(∃e∈o.after,Region.binds .any e=true∧e.on=ct.1)∧ct.2=p
theorem Dn.mono {all:Array Oper}{eE:Fr}{st wY:Steps}{s:Nat×Nat×ao}(az: ∀x∈st,x∈wY)(h:Dn P fn c H all eE st s):Dn P fn c H all eE wY s:=by
 obtain ⟨o,K,U,ab,ay,bc⟩:=h;refine ⟨o,K,U,ab,ay,fun p aD=> ?_⟩;rcases bc p aD with q|⟨ct,bQ,bX⟩
 ·exact .inl q
 ·exact .inr ⟨ct,az _ bQ,bX⟩
theorem UI {all:Array Oper}{eE:Fr}{G:Steps→Prop}: ∀{idx:List Nat} {st:Steps},lR P fn c H all eE idx st G→(∀s∈st,Dn P fn c H all eE st s)→ ∃wY,G wY∧wY.map (·.1)=idx.reverse++st.map (·.1)∧(∀s∈wY,Dn P fn c H all eE wY s)
 |[],st,h,az=>⟨st,h,b1,az⟩
 |i::r,st,h,az=>by
  obtain ⟨o,d,v,U,ab,ay,bc⟩:=h;have je: ∀x∈st,x∈(i,d,v)::st:=fun x al=>uy _ al;have Ac:Dn P fn c H all eE ((i,d,v)::st) (i,d,v):=by
   refine ⟨o,sT st eE o,U,ab,ay,fun p aD=> ?_⟩;unfold sT at aD;rcases gM.1 aD with q|q
   ·obtain ⟨s,bQ,bX⟩:=cS.1 q;obtain ⟨dr,en⟩:=vY.1 bQ;obtain ⟨e,gT,jg⟩:=sg.1 en;rw [er] at jg;exact .inr ⟨s,je _ dr,⟨e,Bk.1 gT,jg.2,pO jg.1⟩,bX⟩
   ·exact .inl q
  obtain ⟨wY,g1,g2,g3⟩:=UI bc (fun s hf=>by
   rcases gb.1 hf with rfl|q
   ·exact Ac
   ·exact (az s q).mono je)
  exact ⟨wY,g1,by rw [g2];simp,g3⟩
theorem U6 {all:Array Oper}{fuel:Nat}{listed:Array Bool}: ∀{is:List Nat},(∀i∈is,∀o,all[i]? =some o→aj P fn c (.ops false all [o] (.any all fuel (listed.setIfInBounds i true)::k)) fr H)→GD P fn c all fuel listed k fr H is
 |[],_=>trivial
 |i::r,h=>⟨h i b1,U6 (fun j ae=>h j (by simp [ae]))⟩
def AU (listed:Array Bool)(idx:List Nat):Array Bool:=idx.foldl (fun a i=>a.setIfInBounds i true) listed
theorem UG: ∀(idx:List Nat) (listed:Array Bool),(AU listed idx).size=listed.size
 |[],_=>have bY:= ‹bx›;rfl
 |i::r,listed=>by have:=UG r (listed.setIfInBounds i true);simpa [AU] using this
theorem UJ: ∀(idx:List Nat) (listed:Array Bool) (j:Nat),j<listed.size→(AU listed idx)[j]? =if j∈idx then some true else listed[j]?
 |[],_,j,_=>have bY:= ‹bx›;by simp [AU]
 |i::r,listed,j,ae=>by
  have h:=UJ r (listed.setIfInBounds i true) j (by simpa using ae);have e:AU listed (i::r)=AU (listed.setIfInBounds i true) r:=rfl;rw [e,h];by_cases U:j∈r
  ·simp [U]
  ·by_cases ab:i=j
   ·subst ab;simp [U,ae]
   ·have ay: ¬j=i:=fun e=>ab e.symm;simp [U,ab,ay,Bg]
def E9 (cur:Array Bool)(st:Steps):Nat:=(st.filter (fun s=> !cur.getD s.1 true)).length
variable {ind:Bool}{d:Option Nat}{ty:TypeId}{pos:String}{after:Array Edge}{g:Option (Nat×Bool)}
theorem IQ {x:Operand}{t:TypeId}{u:TypeDesc}{h i j:Nat}{bg:bm}{inf:TypeInfo}{L:List ao}(bu:P.underlying t=some u)(hu:jy u=true)(iR:P.info? t=some inf)(cy:Nat.ble (j+inf.size) bg.c.aI=true)(al:bH fr x=some (.ptr h i j))(aX:H[h]? =some (some bg))(cB:(List.range inf.size).map (fun e=>bg.c.at i (j+e))=L)(aa:i<bg.c.len):bZ false P fn c fr H ⟨d,.load t x,ty,pos,after,g⟩ (.agg L):=by
 intro w a σ S ad;have U:=ad.ek al;subst cB;have agd:=iZ cy;generalize bB:a.eval x=z at U;cases U with
 |ptr _ _ _ _ b s C bL=>
  obtain ⟨hf,cur,g1,g2,g3,g4,g5,g6⟩:=ad.obj aX bL;subst hf;have oi: ∀w':World,w'.heap=w.heap→ ∀e,e<inf.size→ ∃y,w'.cell? ⟨b,i*bg.c.aI+j+e,none⟩=some y∧bz w S σ (bg.c.at i (j+e)) y∧y.oneCell'=true:=by intro w' hw e he;obtain ⟨y,aE,aF,bO⟩:=g6 i (j+e) aa J;obtain ⟨mk,g1,_,_⟩:=g1.cells J;exact ⟨y,by simp [World.cell?,hw,g1,jU,aE],aF,bO⟩
  let cs:List Value:=(List.range inf.size).map (fun e=>(w.cell? ⟨b,i*bg.c.aI+j+e,none⟩).getD undef)
  refine ⟨.agg cs.toArray,.agg _ _ _ (by simp [cs]) (fun e he=> ?_) (fun e he=> ?_),fun w' hw=> ?_⟩
  ·have Es:e<inf.size:=by simpa using he
   obtain ⟨y,aE,aF,_⟩:=oi w rfl e Es;simpa [cs,Array.getD,Es,aE,List.getD] using aF
  ·have Es:e<inf.size:=by simpa using he
   obtain ⟨y,aE,_,bO⟩:=oi w rfl e Es;simpa [cs,Array.getD,Es,aE] using bO
  ·have hw:=hw.resolve_left aT;have au:=run_loadCells_list (P:=P) w' ⟨b,i*bg.c.aI+j,none⟩ cs (fun e v af=>by
    have he:e<inf.size:=by simpa [cs] using (gZ.1 af).1
    obtain ⟨y,aE,_,_⟩:=oi w rfl e he;simp only [cs,lB,vW he,s8,dG] at af;subst af;rw [aE,Addr.add_lit];have:=World.cell?_of_block (w:=w) (w':=w') (a:=⟨b,i*bg.c.aI+j+e,none⟩) (by rw [hw]);rw [this,aE];rfl)
   have hC:cs.length=inf.size:=by simp [cs]
   rw [hC] at au;have MR:a.eval x= .pointer (some ⟨b,i*bg.c.aI+j,none⟩):=by rw [bB]
   simp [execOp,MR,Instr.loadAt,Instr.sureAddr,loadVar,yR bu,hu,sizeOf,typeInfo,iR,au]
end
end Go.aj
namespace Go.aj
variable [bx]
open Go.RowKit
section
variable {ind:Bool}{P:Program}{fn:Func}{c:Ctx}{fr:Fr}{H:aY}{k:List eO}
variable {d:Option Nat}{ty:TypeId}{pos:String}{after:Array Edge}{g:Option (Nat×Bool)}
theorem amd {all:Array Oper}{t:TypeId}{x y:Operand}{ty:TypeId}{pos:String}{after:Array Edge}{rest:List Oper}{h i j s:Nat}{bg:bm}{L:List ao}{c':Cells}(al:bH fr x=some (.ptr h i j))(a1:bH fr y=some (.agg L))(az:(P.info? t).map (·.size)=some s)(aX:H[h]? =some (some bg))(au:L.length=s)(ae:j+s≤bg.c.aI)(aa:i<bg.c.len)(U:c'.len=bg.c.len)(ab:c'.aI=bg.c.aI)(ay: ∀aK ba,aK<bg.c.len→ba<bg.c.aI→c'.at aK ba=if aK=i∧j≤ba∧ba<j+s then L.getD (ba-j) .any else bg.c.at aK ba)(an:aj P fn c (.ops false all rest k) fr (H.set h (some ⟨bg.ty,c'⟩)))(oq:bg.c.aI≠0:=by (intro aX;cases aX)):aj P fn c (.ops false all (⟨none,.store t x y,ty,pos,after,none⟩::rest) k) fr H:=by
 refine Gx (fun w a σ S ad=> ?_) an;have aE:=ad.ek al;have aF:=ad.ek a1;generalize bB:a.eval x=z at aE;generalize nf:a.eval y=u at aF;cases aF with
 |agg _ _ vs rz iy Ad=>
  cases aE with
  |ptr _ _ _ _ b ct C bL=>
   obtain ⟨hf,cur,g1,g2,g3,g4,g5,g6⟩:=ad.obj aX bL;subst hf;obtain ⟨mk,g1,lj,lD⟩:=g1.cells oq;have ss:i*bg.c.aI+bg.c.aI≤cur.size:=by rw [g2];have:(i+1)*bg.c.aI≤C*bg.c.aI:=fp _ J;rw [eF] at this;omega
   have rA:vs.size=s:=by rw [rz,au]
   have dT:=Fh P b (i*bg.c.aI+j) bg.ty mk vs.toList 0 cur w g1 lj (by simp [rA];omega) (fun v af=>by
    obtain ⟨j,ae,rfl⟩:=kE af;have bd:j<vs.size:=by simpa using ae
    have:=Ad j (by rw [←rz];exact bd);simpa [Array.getD,bd] using this)
   simp only [fg] at dT;generalize jq:(cur.toList.take (i*bg.c.aI+j)++vs.toList++cur.toList.drop (i*bg.c.aI+j+vs.toList.length)).toArray=cur' at dT;have Mh:cur'.size=cur.size:=by rw [←jq];simp [rA];omega
   have hN: ∀p,p<cur.size→cur'[p]? =if i*bg.c.aI+j≤p∧p<i*bg.c.aI+j+s then vs[p-(i*bg.c.aI+j)]? else cur[p]? :=by
    intro p aD;rw [←jq];simp only [Bh,mr];by_cases cJ:p<i*bg.c.aI+j
    ·rw [ic (by simp;omega),qs,aB cJ,aw J];simp
    ·rw [jV (by simp;omega)];have bu:(cur.toList.take (i*bg.c.aI+j)).length=i*bg.c.aI+j:=by simp;omega
     rw [bu];by_cases dD:p<i*bg.c.aI+j+s
     ·rw [ic (by simp [rA];omega),aB ⟨J,dD⟩];simp
     ·rw [jV (by simp [rA];omega),aw J];simp only [Array.length_toList,rA,List.getElem?_drop,Array.getElem?_toList];congr 1;omega
   refine ⟨w.setRow b cur',σ,S,?_,ad.setRow aX bL lD ab J (by rw [Mh,g2]) (fun aK ba aQ bd=> ?_)⟩
   ·simp only [execOp,bB,nf,Instr.storeAt,Instr.sureAddr,storeVar,Sem.run_bind,Sem.run_pure,Result.andThen_ok,AO az,Value.cells,rA];simp [dT]
   ·rw [U] at aQ;rw [ab] at bd⊢;rw [ay aK ba aQ bd];have aD:aK*bg.c.aI+ba<cur.size:=by rw [g2];have:(aK+1)*bg.c.aI≤C*bg.c.aI:=fp _ J;rw [eF] at this;omega
    rw [hN _ aD];by_cases he:aK=i∧j≤ba∧ba<j+s
    ·obtain ⟨he,bQ,bX⟩:=he;subst he;rw [aB (show aK*bg.c.aI+j≤aK*bg.c.aI+ba∧aK*bg.c.aI+ba<aK*bg.c.aI+j+s from ⟨J,J⟩),aB ⟨rfl,bQ,bX⟩];have Mc:ba-j<vs.size:=J;have bO:aK*bg.c.aI+ba-(aK*bg.c.aI+j)=ba-j:=J;rw [bO];refine ⟨vs.getD (ba-j) undef,by simp [Array.getD,Mc],iy (ba-j) J,Ad (ba-j) J⟩
    ·rw [aw he];have ch: ¬(i*bg.c.aI+j≤aK*bg.c.aI+ba∧aK*bg.c.aI+ba<i*bg.c.aI+j+s):=by
      rintro ⟨bQ,bX⟩;by_cases wF:aK=i
      ·subst wF;exact he ⟨rfl,J,J⟩
      rcases Nat.lt_or_gt_of_ne wF with bG|bG
      ·have:(aK+1)*bg.c.aI≤i*bg.c.aI:=fp _ bG;rw [eF] at this;omega
      ·have:(i+1)*bg.c.aI≤aK*bg.c.aI:=fp _ bG;rw [eF] at this;omega
     rw [aw ch];exact g6 aK ba aQ bd
def gn {α:Type}(t:TypeId)(f:α→Cells)(l:List α):aY:=l.map (fun a=>some ⟨t,f a⟩)
theorem vn {α:Type}(t:TypeId)(f:α→Cells)(l:List α):(gn t f l).length=l.length:=by have bY:= ‹bx›;simp [gn]
theorem WD {α:Type}(t:TypeId)(f:α→Cells)(l:List α)(d:α){i:Nat}(aa:i<l.length):(gn t f l)[i]? =some (some ⟨t,f (l.getD i d)⟩):=by have bY:= ‹bx›;simp [gn,List.getD,aa]
theorem WE {α:Type}(t:TypeId)(f:α→Cells)(l:List α)(i:Nat)(x:α):(gn t f l).set i (some ⟨t,f x⟩)=gn t f (l.set i x):=by have bY:= ‹bx›;simp [gn,List.map_set]
theorem VQ {α:Type}(t:TypeId)(f:α→Cells)(l:List α)(x:α):gn t f l++[some ⟨t,f x⟩]=gn t f (l++[x]):=by have bY:= ‹bx›;simp [gn]
theorem Xs {A B:aY}{h:Nat}(aX:h<A.length):(A++B)[h]? =A[h]? :=by have bY:= ‹bx›;exact ic aX
theorem tZ {A B:aY}{h i:Nat}(aX:h=A.length+i):(A++B)[h]? =B[i]? :=by have bY:= ‹bx›;subst aX;rw [jV J];congr 1;omega
theorem p5 {A B:aY}{h i:Nat}(x:Option bm)(aX:h=A.length+i):(A++B).set h x=A++B.set i x:=by have bY:= ‹bx›;subst aX;rw [Bl _ _ J];congr 2;omega
theorem W0 {A B:aY}{h:Nat}(x:Option bm)(aX:h<A.length):(A++B).set h x=A.set h x++B:=by have bY:= ‹bx›;rw [List.set_append_left _ _ aX]
end
end Go.aj
namespace Go.aj
variable [bx]
open Go.RowKit
mutual
def ao.shift (N:Nat):ao→ao
 | .aC h i n=> .aC (h+N) i n
 | .ptr h i j=> .ptr (h+N) i j
 | .fn f l=> .fn f (ao.rK N l)
 | .agg l=> .agg (ao.rK N l)
 | .ck l=> .ck (ao.rK N l)
 | .mp h=> .mp (h+N)
 |v=>v
def ao.rK (N:Nat):List ao→List ao
 |[]=>[]
 |v::r=>v.shift N::ao.rK N r
end
theorem sH (N:Nat)(l:List ao):(ao.rK N l).length=l.length:=by
 have bY:= ‹bx›;induction l with
 |nil=>rfl
 |cons v r a6=>simp [ao.rK,a6]
theorem Cx (N:Nat)(l:List ao)(i:Nat)(aa:i<l.length):(ao.rK N l).getD i .any=(l.getD i .any).shift N:=by
 have bY:= ‹bx›;induction l generalizing i with
 |nil=>simp at aa
 |cons v r a6=>cases i with
  |zero=>rfl
  |succ i=>simpa [ao.rK] using a6 i (by simpa using aa)
theorem bz.shift {w:World}{S:Nat→Prop}{σ:Nat→Option bP}{x:ao}{v:Value}{N:Nat}(af:bz w S σ x v): ∀bC:Nat→Option bP,(∀h B,σ h=some B→bC (h+N)=some B)→bz w S bC (x.shift N) v:=by
 induction af with
 |int=>intros;constructor
 |bool=>intros;constructor
 |str=>intros;constructor
 |nil=>intros;constructor
 |ko=>intros;constructor
 |ro σ c i len b o cap val fs hlen av af U a6=>intro bC _;exact .ro _ _ _ _ _ _ _ val fs hlen av af U
 |aC σ aS i len b s C cap bL hlen kh=>intro bC az;exact .aC _ _ _ _ _ _ _ _ (az _ _ bL) hlen kh
 |iD σ aS bL=>intro bC az;exact .iD _ _ (az _ _ bL)
 |cK σ c i j b o val fs av af U a6=>intro bC _;exact .cK _ _ _ _ _ _ val fs av af U
 |ptr σ aS i j b s C bL=>intro bC az;exact .ptr _ _ _ _ _ _ _ (az _ _ bL)
 |p0=>intros;constructor
 |fn σ f cap vs au af a6=>intro bC az;exact .fn _ _ _ _ (by rw [sH];exact au) (fun i aa=>by rw [sH] at aa;rw [Cx N cap i aa];exact a6 i aa bC az)
 |pZ=>intros;constructor
 |iface=>intros;constructor
 |ov=>intros;constructor
 |agg σ l vs au af U a6=>intro bC az;exact .agg _ _ _ (by rw [sH];exact au) (fun i aa=>by rw [sH] at aa;rw [Cx N l i aa];exact a6 i aa bC az) (fun i aa=>U i (by rwa [sH] at aa))
 |ck σ l vs au af a6=>intro bC az;exact .ck _ _ _ (by rw [sH];exact au) (fun i aa=>by rw [sH] at aa;rw [Cx N l i aa];exact a6 i aa bC az)
 |mp σ aS b bL=>intro bC az;exact .mp _ _ _ (az _ _ bL)
 |iC σ ks vs b es clock e fs ak aG au hd he an af=>intro bC az;exact .iC _ _ _ b es clock e fs ak aG au hd he an af
 |any=>intros;constructor
def Cells.shift (N:Nat):Cells→Cells
 | .ints k l=> .ints k l
 | .strs l=> .strs l
 | .box l=> .box (ao.rK N l)
 | .mp ks vs=> .mp (ao.rK N ks) (ao.rK N vs)
 | .fn n s f=> .fn n s (fun i j=>(f i j).shift N)
theorem Cells.No (N:Nat)(c:Cells):(c.shift N).len=c.len:=by have bY:= ‹bx›;cases c<;>rfl
theorem Cells.Np (N:Nat)(c:Cells):(c.shift N).aI=c.aI:=by cases c<;>first|rfl|exact sH _ _
theorem Cells.akf (N:Nat)(c:Cells)(i j:Nat)(ae:j<c.aI):(c.shift N).at i j=(c.at i j).shift N:=by
 cases c with
 |box l=>exact Cx N l j ae
 |_=>rfl
def Gv (N:Nat):Option bm→Option bm
 |some o=>some ⟨o.ty,o.c.shift N⟩
 |none=>none
def pn (N:Nat):aY→aY
 |[]=>[]
 |o::r=>Gv N o::pn N r
theorem VY (N:Nat)(H:aY)(i:Nat):(pn N H)[i]? =(H[i]?).map (Gv N):=by
 have bY:= ‹bx›;induction H generalizing i with
 |nil=>simp [pn]
 |cons o r a6=>cases i with
  |zero=>simp [pn]
  |succ i=>simpa [pn] using a6 i
theorem alY (N:Nat)(H:aY):(pn N H).length=H.length:=by
 have bY:= ‹bx›;induction H with
 |nil=>rfl
 |cons o r a6=>simp [pn,a6]
theorem Lays.shift {w:World}{S:Nat→Prop}{σ bC:Nat→Option bP}{t:TypeId}{c:Cells}{b:Nat}{cur:Array Value}{C:Nat}{N:Nat}(az: ∀h B,σ h=some B→bC (h+N)=some B)(cB:Lays w S σ ⟨t,c⟩ b cur C):Lays w S bC ⟨t,c.shift N⟩ b cur C:=by
 have bY:= ‹bx›;cases cB with
 |row mk h hm eh=>exact .row mk h hm eh
 |map ks vs es clock av eh h aG au hd he=>
  simp only at av;subst av;exact .map _ _ es clock I eh h (by rw [sH];exact aG) (by rw [sH,sH];exact au) hd (fun i aa=>by
   rw [sH] at aa;obtain ⟨e,aE,aF,bO⟩:=he i aa;exact ⟨e,aE,by rw [Cx _ _ _ aa];exact aF.shift bC az,by rw [Cx _ _ _ J];exact bO.shift bC az⟩)
def px (N:Nat)(σ qm:Nat→Option bP)(h:Nat):Option bP:=if h<N then σ h else qm (h-N)
theorem N8 {N:Nat}{σ qm:Nat→Option bP}: ∀h B,qm h=some B→px N σ qm (h+N)=some B:=by have bY:= ‹bx›;intro h B cf;unfold px;rw [aw J,Nat.add_sub_cancel];exact cf
theorem lU.join {w:World}{S:Nat→Prop}{σ qm:Nat→Option bP}{H b3:aY}(h:lU w S σ H)(aM:lU w S qm b3)(hd: ∀h aS o o' b s C ct cM,H[h]? =some (some o)→b3[aS]? =some (some o')→σ h=some (.at b s C)→qm aS=some (.at b ct cM)→False):
 lU w S (px H.length σ qm) (H++pn H.length b3):=by
 have Hy: ∀h B,σ h=some B→px H.length σ qm h=some B:=by
  intro aS B cf;unfold px;split
  ·exact cf
  ·rename_i au;rw [h.ie aS J] at cf;cases cf
 have LS: ∀aS o',(H++pn H.length b3)[aS]? =some (some o')→(aS<H.length∧H[aS]? =some (some o'))∨(H.length≤aS∧ ∃o,b3[aS-H.length]? =some (some o)∧o'=⟨o.ty,o.c.shift H.length⟩):=by
  intro aS o' ai;by_cases he:aS<H.length
  ·rw [ic he] at ai;exact .inl ⟨he,ai⟩
  ·rw [jV J,VY] at ai;cases e:b3[aS-H.length]? with
   |none=>rw [e] at ai;cases ai
   |some x=>
    rw [e] at ai;cases x with
    |none=>simp [Gv] at ai
    |some o=>simp [Gv] at ai;exact .inr ⟨J,o,rfl,ai.symm⟩
 refine ⟨fun aS o' ai=> ?_,fun U ab o1 o2 b s C ct cM bQ bX aE aF=> ?_,h.small,fun aS au=> ?_⟩
 ·rcases LS aS o' ai with ⟨au,cN⟩|⟨au,o,cN,rfl⟩
  ·rcases h.live aS o' cN with ⟨U,ab⟩|⟨b,C,cur,U,ab,ay,bc,bI,db,fh⟩
   ·exact .inl ⟨Hy _ _ U,ab⟩
   ·refine .inr ⟨b,C,cur,Hy _ _ U,ab.mono I (fun af=>af.mono (fun _ h=>h) (fun _ _=>rfl) _ Hy),ay,bc,bI,db,fun i j aa ae=> ?_⟩;obtain ⟨v,aE,aF,bO⟩:=fh i j aa ae;exact ⟨v,aE,aF.mono (fun _ h=>h) (fun _ _=>rfl) _ Hy,bO⟩
  ·have ae:px H.length σ qm aS=qm (aS-H.length):=by unfold px;rw [aw J]
   rw [ae];rcases aM.live _ o cN with ⟨U,ab⟩|⟨b,C,cur,U,ab,ay,bc,bI,db,fh⟩
   ·exact .inl ⟨U,by rw [Cells.No];exact ab⟩
   ·refine .inr ⟨b,C,cur,by rw [Cells.Np];exact U,Lays.shift N8 ab,by rw [Cells.Np];exact ay,bc,by rw [Cells.No];exact bI,db,fun i j aa ae=> ?_⟩;rw [Cells.No] at aa;rw [Cells.Np] at ae⊢;obtain ⟨v,aE,aF,bO⟩:=fh i j aa ae;exact ⟨v,aE,by rw [Cells.akf _ _ _ _ ae];exact aF.shift _ N8,bO⟩
 ·rcases LS U o1 bQ with ⟨fH,iA⟩|⟨fH,jJ,iA,rfl⟩<;>rcases LS ab o2 bX with ⟨fu,iB⟩|⟨fu,kq,iB,rfl⟩
  ·unfold px at aE aF;rw [aB fH] at aE;rw [aB fu] at aF;exact h.hB U ab o1 o2 b s C ct cM iA iB aE aF
  ·unfold px at aE aF;rw [aB fH] at aE;rw [aw J] at aF;exact (hd _ _ _ _ _ _ _ _ _ iA iB aE aF).elim
  ·unfold px at aE aF;rw [aw J] at aE;rw [aB fu] at aF;exact (hd _ _ _ _ _ _ _ _ _ iB iA aF aE).elim
  ·unfold px at aE aF;rw [aw J] at aE aF;have:=aM.hB _ _ jJ kq b s C ct cM iA iB aE aF;omega
 ·rw [di,alY] at au;unfold px;rw [aw J];exact aM.ie _ J
theorem cm.lift {P:Program}{f:FuncId}{args:List ao}{fix:Nat→Prop}{K kB:ao→aY→Prop}{H:aY}(av:cm P f args [] fix K)(kj: ∀h,¬fix h)(aG:c2.e9 args=true)(dE: ∀(cU:ao) (b3:aY),K cU b3→kB (cU.shift H.length) (H++pn H.length b3)):cm P f args H (fun h=>h<H.length) kB:=by
 refine ⟨av.1,fun w σ S dH aD ad aR af=> ?_⟩;have ya:qf w S (fun _=>none) []:=aD.less (fun _ h=>h) (fun _ h=>h.nil);refine (av.2 w (fun _=>none) S dH ya ad.empty (fun h aX=>absurd aX (kj h)) (af.closed aG _)).mono ?_;rintro e w' ⟨v,cU,bC,cb,b3,rfl,g1,g2,g3,g4⟩;obtain ⟨gy,a2⟩:=lU.after ad g1 g3;have a3:=a2 kB aD;have e2: ∀b,¬rW (fun _=>none) [] b:=by rintro b ⟨h,o,s,C,U,_⟩;simp at U
 have HM: ∀h o b s C,H[h]? =some (some o)→σ h=some (.at b s C)→b<w.heap.size:=by
  intro h o b s C ai ak;rcases ad.live h o ai with ⟨aG,_⟩|⟨b',cM,cur,fG,g,_⟩
  ·rw [ak] at aG;cases aG
  ·rw [ak] at fG;simp only [dG,bP.at.injEq] at fG;rw [fG.1];exact g.lt
 have nH: ∀h o b s C,b3[h]? =some (some o)→bC h=some (.at b s C)→w.heap.size≤b:=by
  intro h o b s C ai ak;rcases g3.own h o b s C ai ak with ay|ay
  ·exact absurd ay (e2 b)
  ·exact ay
 have ae:=gy.join g1 (fun h aS o o' b s C ct cM bQ bX aE aF=>by
  have:=HM h o b s C bQ aE;have:=nH aS o' b ct cM bX aF;omega)
 refine ⟨v,_,_,cb,_,I,ae,g2.shift _ N8,⟨a3.os,a3.output,a3.tape,a3.size,a3.block,a3.hV,a3.fb,fun h au=> ?_,fun h au=> ?_,fun h o b s C ai ak=> ?_⟩,dE cU b3 g4⟩
 ·have au:h<H.length:=au;show px H.length σ bC h=σ h;unfold px;rw [aB au]
 ·have au:h<H.length:=au;rw [di];omega
 ·by_cases he:h<H.length
  ·rw [ic he] at ai;unfold px at ak;rw [aB he] at ak;exact .inl ⟨h,o,s,C,ai,ak⟩
  ·rw [jV J,VY] at ai;unfold px at ak;rw [aw he] at ak;cases e:b3[h-H.length]? with
   |none=>rw [e] at ai;cases ai
   |some x=>
    rw [e] at ai;cases x with
    |none=>simp [Gv] at ai
    |some o'=>exact .inr (nH _ o' b s C e ak)
def GK (P:Program)(f:FuncId)(args:List ao)(r:ao)(b3:aY):Prop:= ∀H,cm P f args H (fun h=>h<H.length) (fun dF bK=>dF=r.shift H.length∧bK=H++pn H.length b3)
theorem cm.many {P:Program}{f:FuncId}{args:List ao}{fix:Nat→Prop}{r:ao}{b3:aY}(av:cm P f args [] fix (fun dF bK=>dF=r∧bK=b3))(kj: ∀h,¬fix h)(aG:c2.e9 args=true):GK P f args r b3:=fun H=>
 av.lift kj aG (fun cU H1 h=>by obtain ⟨rfl,rfl⟩:=h;exact ⟨rfl,rfl⟩)
section
variable {P:Program}{fn:Func}{c:Ctx}{fr:Fr}{H:aY}{k:List eO}{all:Array Oper}{d:Nat}{g:Operand}{args:List Operand}{hZ:Array TypeId}{ty:TypeId}{pos:String}{after:Array Edge}{rest:List Oper}{f:FuncId}
theorem JV {cD dZ gz:List ao}{r:ao}{b3:aY}(dF:ao)(bK:aY)(c9:bH fr g=some (.fn f cD))(aW:lb fr args=some dZ)(has:dZ++cD=gz)(lg:GK P f gz r b3)(ad:r.shift H.length=dF)(lf:H++pn H.length b3=bK)(an:aj P fn c (.ops false all rest k) ((d,dF)::fr) bK):aj P fn c (.ops false all (⟨some d,.call {callee:= .value g,args:=args.toArray,argTypes:=hZ},ty,pos,after,none⟩::rest) k) fr H:=
 Db c9 aW has (lg H) (fun _ h=>h) (fun _ h=>h) (fun iA H1 h=>by obtain ⟨rfl,rfl⟩:=h;subst ad;subst lf;exact an)
end
mutual
theorem amv: ∀(x:ao),c2 x=true→ ∀N,x.shift N=x
 | .int _ _,_,_=>rfl
 | .bool _,_,_=>rfl
 | .str _,_,_=>rfl
 | .nil,_,_=>rfl
 | .ro _ _ _,_,_=>rfl
 | .aC _ _ _,h,_=>by simp [c2] at h
 | .cK _ _ _,_,_=>rfl
 | .ptr _ _ _,h,_=>by simp [c2] at h
 | .p0,_,_=>rfl
 | .fn f l,h,N=>by have bY:= ‹bx›;simp only [ao.shift];rw [IY l (by simpa [c2] using h) N]
 | .pZ,_,_=>rfl
 | .iface,_,_=>rfl
 | .ov,_,_=>rfl
 | .agg l,h,N=>by simp only [ao.shift];rw [IY l (by simpa [c2] using h) N]
 | .ck l,h,N=>by simp only [ao.shift];rw [IY l (by simpa [c2] using h) N]
 | .mp _,h,_=>by simp [c2] at h
 | .iC _ _,_,_=>rfl
 | .any,_,_=>rfl
theorem IY: ∀(l:List ao),c2.e9 l=true→ ∀N,ao.rK N l=l
 |[],_,_=>rfl
 |v::r,h,N=>by have bY:= ‹bx›;simp only [c2.e9,er] at h;simp only [ao.rK];rw [amv v h.1 N,IY r h.2 N]
end
end Go.aj
namespace Go.aj
variable [bx]
open Go.RowKit
def fo {α:Type}(O:bm)(t:TypeId)(f:α→Cells)(X:List α)(L:aY):aY:=some O::(gn t f X++L)
section
variable {α:Type}{O:bm}{t:TypeId}{f:α→Cells}{X:List α}{L:aY}
theorem FZ:(fo O t f X L).length=X.length+1+L.length:=by have bY:= ‹bx›;unfold fo;rw [gu,di,vn];omega
theorem Pt (d:α){a:Nat}(aW:a<X.length):(fo O t f X L)[a+1]? =some (some ⟨t,f (X.getD a d)⟩):=by have bY:= ‹bx›;show (gn t f X++L)[a]? =_;rw [Xs (by rw [vn];exact aW),WD t f X d aW]
theorem Ps {j:Nat}:(fo O t f X L)[X.length+1+j]? =L[j]? :=by have bY:= ‹bx›;rw [show X.length+1+j=(X.length+j)+1 by omega];show (gn t f X++L)[X.length+j]? =_;exact tZ (by rw [vn])
theorem UW {a:Nat}(x:α)(aW:a<X.length):(fo O t f X L).set (a+1) (some ⟨t,f x⟩)=fo O t f (X.set a x) L:=by have bY:= ‹bx›;show some O::(gn t f X++L).set a _=_;rw [W0 _ (by rw [vn];exact aW),WE];rfl
theorem UU {j:Nat}(x:Option bm):(fo O t f X L).set (X.length+1+j) x=fo O t f X (L.set j x):=by have bY:= ‹bx›;rw [show X.length+1+j=(X.length+j)+1 by omega];show some O::(gn t f X++L).set (X.length+j) x=_;rw [p5 x (by rw [vn])];rfl
theorem JS (M:aY):fo O t f X L++M=fo O t f X (L++M):=by have bY:= ‹bx›;unfold fo;rw [oT,mr]
theorem aP.append {A KX B zd:aY}(U:aP A KX)(ab:aP B zd):aP (A++B) (KX++zd):=by
 have bY:= ‹bx›;refine ⟨by rw [di,di,U.1,ab.1],fun h o' ai=> ?_⟩;by_cases au:h<KX.length
 ·rw [ic au] at ai;rw [ic (by rw [←U.1];exact au)];exact U.2 h o' ai
 ·rw [jV J] at ai;rw [jV (by have:=U.1;omega),←U.1];exact ab.2 _ o' ai
theorem yS {zg:bm}{oK:aY}(aM:zg.ty=O.ty∧cG O.c zg.c)(cB:aP L oK):aP (fo O t f X L) (fo zg t f X oK):=by have bY:= ‹bx›;exact aP.cons (fun o ai=>by cases ai;exact ⟨O,rfl,aM.1,aM.2⟩) (aP.append (aP.refl _) cB)
theorem I5 (h:Nat)(aR: ∀a,(f a).forget h=f a): ∀X:List α,c6 h (gn t f X)=gn t f X
 |[]=>have bY:= ‹bx›;rfl
 |a::r=>by have bY:= ‹bx›;show some ⟨t,(f a).forget h⟩::c6 h (gn t f r)=some ⟨t,f a⟩::gn t f r;rw [aR a,I5 h aR r]
theorem w9 (h:Nat): ∀A B:aY,c6 h (A++B)=c6 h A++c6 h B
 |[],B=>have bY:= ‹bx›;rfl
 |a::r,B=>by have bY:= ‹bx›;show jl h a::c6 h (r++B)=jl h a::(c6 h r++c6 h B);rw [w9 h r B]
theorem Av (h:Nat)(aR: ∀a,(f a).forget h=f a):c6 h (fo O t f X L)=fo ⟨O.ty,O.c.forget h⟩ t f X (c6 h L):=by have bY:= ‹bx›;show some ⟨O.ty,O.c.forget h⟩::c6 h (gn t f X++L)=_;rw [w9,I5 h aR];rfl
end
section
variable {ind:Bool}{P:Program}{fn:Func}{c:Ctx}{fr:Fr}{H:aY}{k:List eO}
variable {d:Option Nat}{ty:TypeId}{pos:String}{after:Array Edge}{g:Option (Nat×Bool)}
theorem Aw {x i:Operand}{t e:TypeId}{h o len ix:Nat}{bg:bm}{k:IntKind}{m:Int}(bu:P.underlying t=some (.slice e))(al:bH fr x=some (.aC h o len))(aa:bH fr i=some (.int k m))(aX:H[h]? =some (some bg))(az:(P.info? e).map (·.size)=some bg.c.aI)(zU:o+m.toNat=ix)(ak:0≤m∧m<len):
 bZ ind P fn c fr H ⟨d,.indexAddr t x i,ty,pos,after,g⟩ (.ptr h ix 0):=gr bu al aX az aa zU ak
theorem NC {x:Operand}{t:TypeId}{u:TypeDesc}{h i:Nat}{bg:bm}{inf:TypeInfo}{L:List ao}(bu:P.underlying t=some u)(hu:jy u=true)(iR:P.info? t=some inf)(al:bH fr x=some (.ptr h i 0))(aX:H[h]? =some (some bg))(cy:inf.size=bg.c.aI)(cB:(List.range bg.c.aI).map (bg.c.at i)=L)(aa:i<bg.c.len):bZ false P fn c fr H ⟨d,.load t x,ty,pos,after,g⟩ (.agg L):=UT bu hu iR cy al aX cB aa
theorem alK {x:Operand}{t:TypeId}{u:TypeDesc}{h i j:Nat}{bg:bm}{inf:TypeInfo}{L:List ao}(bu:P.underlying t=some u)(hu:jy u=true)(iR:P.info? t=some inf)(al:bH fr x=some (.ptr h i j))(aX:H[h]? =some (some bg))(cy:Nat.ble (j+inf.size) bg.c.aI=true)(cB:(List.range inf.size).map (fun e=>bg.c.at i (j+e))=L)(aa:i<bg.c.len):bZ false P fn c fr H ⟨d,.load t x,ty,pos,after,g⟩ (.agg L):=IQ bu hu iR cy al aX cB aa
theorem pc {x:Operand}{t:TypeId}{u:TypeDesc}{h j:Nat}{o7:TypeId}{l:List ao}{v:ao}(bu:P.underlying t=some u)(hu:jy u=false)(al:bH fr x=some (.ptr h 0 j))(aX:H[h]? =some (some ⟨o7,.box l⟩))(af:l[j]? =some v):
 bZ false P fn c fr H ⟨d,.load t x,ty,pos,after,g⟩ v:=ia bu hu al aX af
end
end Go.aj
namespace Go.aj
variable [bx]
open Go.RowKit
inductive s3 where
 |int (k:IntKind)
 |str
 |pair (k:IntKind)
inductive qp:s3→Value→Prop
 |int (k n):qp (.int k) (.int k n)
 |str (s):qp .str (.string s)
 |pair (k a b):qp (.pair k) (.agg #[.int k a,.int k b])
inductive vS (P:Program)(h3:TypeId):s3→Prop
 |int {k} (h:P.underlying h3=some (.int k)):vS P h3 (.int k)
 |str (h:P.underlying h3=some .string):vS P h3 .str
 |pair {k e} (h:P.underlying h3=some (.array 2 e)) (he:P.underlying e=some (.int k)) (U:(P.info? e).map (·.size)=some 1):vS P h3 (.pair k)
theorem qp.isKey {s:s3}{v:Value}(af:qp s v):(∀k,s= .int k→MapKept.IsKey (.int k) v)∧(s= .str→MapKept.IsKey .string v):=by
 have bY:= ‹bx›;cases af
 ·refine ⟨fun k h=> ?_,fun h=> ?_⟩
  ·cases h;trivial
  ·cases h
 ·refine ⟨fun k h=> ?_,fun h=> ?_⟩
  ·cases h
  ·trivial
 ·refine ⟨fun k h=> ?_,fun h=> ?_⟩
  ·cases h
  ·cases h
section
variable {P:Program}{h3:TypeId}{s:s3}
theorem Jb {e:TypeId}{q:IntKind}(he:P.underlying e=some (.int q))(w:World)(cs:Array Value)(o:Nat){v:Value}(af:cs[o]? =some v):(part e cs o).run P w= .ok v w:=by have bY:= ‹bx›;simp [part,isAgg,Sem.run_bind,run_underlying he,af]
theorem alV {e:TypeId}{q:IntKind}(h:P.underlying h3=some (.array 2 e))(he:P.underlying e=some (.int q))(U:(P.info? e).map (·.size)=some 1)(w:World)(a b c d:Int):
 (Op.equal h3 (.agg #[.int q a,.int q b]) (.agg #[.int q c,.int q d])).run P w= .ok (decide (a=c∧b=d)) w:=by have bY:= ‹bx›;have kn: ∀x y:Int,(part e #[.int q x,.int q y] 0).run P w= .ok (.int q x) w:=fun x y=>Jb he w _ 0 rfl;have c4: ∀x y:Int,(part e #[.int q x,.int q y] 1).run P w= .ok (.int q y) w:=fun x y=>Jb he w _ 1 rfl;have z0:(sizeOf e).run P w= .ok 1 w:=AO U;have jY: ∀x y:Int,(Op.equalIn 9999 e (.int q x) (.int q y)).run P w= .ok (x==y) w:=fun x y=>run_equalIn_int w 9998 e q q x y he;unfold Op.equal Op.maxDepth;rw [show (10000:Nat)=9999+1 from rfl,Op.equalIn];simp only [Sem.run_bind,run_underlying h,Result.andThen_ok,AO U];simp only [Std.Legacy.Range.forIn_eq_forIn_range',Std.Legacy.Range.size,xG,Nat.add_sub_cancel,Nat.div_one,List.range'_succ,List.range'_zero,List.forIn_cons,List.forIn_nil];simp [Sem.run_bind,Result.andThen,kn,c4,z0,jY];by_cases g1:a=c<;>by_cases g2:b=d<;>simp [g1,g2,Sem.run_bind,Result.andThen,kn,c4,z0,jY]
theorem IP (aR:vS P h3 s){v:Value}(af:qp s v)(w:World)(em:Bool):(Instr.checkKey em 10000 h3 v).run P w= .ok () w:=by
 have bY:= ‹bx›;cases af with
 |int k n=>cases aR with|int h=>exact MapKept.run_checkKey h (by trivial) em 9999
 |str x=>cases aR with|str h=>exact MapKept.run_checkKey h (by trivial) em 9999
 |pair k a b=>
  cases aR with
  |pair h he U=>
   rename_i e;have kn: ∀x y:Int,(part e #[.int k x,.int k y] 0).run P w= .ok (.int k x) w:=fun x y=>Jb he w _ 0 rfl;have c4: ∀x y:Int,(part e #[.int k x,.int k y] 1).run P w= .ok (.int k y) w:=fun x y=>Jb he w _ 1 rfl;have z0:(sizeOf e).run P w= .ok 1 w:=AO U;have oc: ∀x:Int,(Instr.checkKey em 9999 e (.int k x)).run P w= .ok () w:=fun x=>MapKept.run_checkKey he (by trivial) em 9998;rw [show (10000:Nat)=9999+1 from rfl,Instr.checkKey];simp only [Sem.run_bind,run_underlying h,Result.andThen_ok,AO U];simp only [Std.Legacy.Range.forIn_eq_forIn_range',Std.Legacy.Range.size,xG,Nat.add_sub_cancel,Nat.div_one,List.range'_succ,List.range'_zero,List.forIn_cons,List.forIn_nil];simp [Sem.run_bind,Result.andThen,kn,c4,z0,oc]
theorem I0 (aR:vS P h3 s){x:Value}(al:qp s x)(w:World)(es:List MapEntry)(L3: ∀e∈es,qp s e.key):
 ((Instr.findKey h3 x es).run P w= .ok none w∧ ∀e∈es,e.key≠x)∨ ∃j e,(Instr.findKey h3 x es).run P w= .ok (some (j,e.val)) w∧es[j]? =some e∧e.key=x:=by
 have bY:= ‹bx›;have flat: ∀d,P.underlying h3=some d→MapKept.IsKey d x→(∀e∈es,MapKept.IsKey d e.key)→((Instr.findKey h3 x es).run P w= .ok none w∧ ∀e∈es,e.key≠x)∨ ∃j e,(Instr.findKey h3 x es).run P w= .ok (some (j,e.val)) w∧es[j]? =some e∧e.key=x:=by
  intro d hd an mB;rcases MapKept.findNow_spec an es 0 mB with ⟨U,ab⟩|⟨j,e,U,ab,ay⟩
  ·exact .inl ⟨MapKept.run_findKey hd U,ab⟩
  ·exact .inr ⟨j,e,by rw [cR] at U;exact MapKept.run_findKey hd U,ab,ay⟩
 cases aR with
 |int h=>exact flat _ h (al.isKey.1 _ rfl) (fun e he=>(L3 e he).isKey.1 _ rfl)
 |str h=>exact flat _ h (al.isKey.2 rfl) (fun e he=>(L3 e he).isKey.2 rfl)
 |pair h he U=>
  rename_i k e;have afC: ∀(l:List MapEntry),Instr.findNow (.array 2 e) x l 0=none∨l=[]:=by
   intro l;cases l with
   |nil=>exact .inr rfl
   |cons a r=>left;cases al;simp [Instr.findNow,Instr.sameNow]
  have aed: ∀(l:List MapEntry) (i:Nat),(∀e∈l,qp (.pair k) e.key)→((Instr.findAsking h3 x l i).run P w= .ok none w∧ ∀e∈l,e.key≠x)∨ ∃j e,(Instr.findAsking h3 x l i).run P w= .ok (some (i+j,e.val)) w∧l[j]? =some e∧e.key=x:=by
   intro l;induction l with
   |nil=>intro i _;exact .inl ⟨rfl,fun e he=>by cases he⟩
   |cons y r a6=>
    intro i au;obtain ⟨alB,yv,yA⟩:=y;have a1:qp (.pair k) alB:=au _ (vZ ..);cases al with
    |pair _ a b=>
     cases a1 with
     |pair _ c d=>
      have heq:=alV (P:=P) h he U w a b c d;by_cases Hq:a=c∧b=d
      ·obtain ⟨rfl,rfl⟩:=Hq;exact .inr ⟨0,_,by simp [Instr.findAsking,Sem.run_bind,heq,Result.andThen],I,I⟩
      ·have ch:(Value.agg #[.int k c,.int k d])≠ .agg #[.int k a,.int k b]:=by intro q;simp at q;exact Hq ⟨q.1.symm,q.2.symm⟩
       rcases a6 (i+1) (fun e he=>au e (uy _ he)) with ⟨g1,g2⟩|⟨j,gE,g1,g2,g3⟩
       ·refine .inl ⟨by simp [Instr.findAsking,Sem.run_bind,heq,Result.andThen,Hq,g1],fun e he=> ?_⟩;rcases gb.1 he with rfl|he
        ·exact ch
        ·exact g2 e he
       ·exact .inr ⟨j+1,gE,by simp [Instr.findAsking,Sem.run_bind,heq,Result.andThen,Hq,g1];omega,by simpa using g2,g3⟩
  have eR:(Instr.findKey h3 x es).run P w=(Instr.findAsking h3 x es 0).run P w:=by
   rcases afC es with aG|rfl
   ·simp [Instr.findKey,Sem.run_bind,run_underlying h,Result.andThen,aG]
   ·simp [Instr.findKey,Sem.run_bind,run_underlying h,Result.andThen,Instr.findNow,Instr.findAsking]
  rw [eR];rcases aed es 0 L3 with ab|⟨j,gE,g1,g2,g3⟩
  ·exact .inl ab
  ·exact .inr ⟨j,gE,by rw [cR] at g1;exact g1,g2,g3⟩
theorem apJ {v:Value}(af:qp s v):Instr.sameBits 10000 v v=true:=by
 have bY:= ‹bx›;cases af with
 |int=>simp [Instr.sameBits]
 |str=>simp [Instr.sameBits];exact (MapKept.bytes_beq _ _).2 rfl
 |pair=>rw [show (10000:Nat)=9998+1+1 from rfl];simp [Instr.sameBits]
theorem anm {v:Value}(af:qp s v)(w:World):(Instr.keyThatStays v v).run P w= .ok v w:=by have bY:= ‹bx›;simp [Instr.keyThatStays,apJ af]
end
def nt:s3→ao→Bool
 | .int .i64,.int .i64 _=>true
 | .str,.str _=>true
 | .pair .i64,.agg [.int .i64 _,.int .i64 _]=>true
 |_,_=>false
theorem FW {s:s3}{x:ao}(h:nt s x=true): ∃u:Value,qp s u∧(∀(w:World) (S:Nat→Prop) (σ:Nat→Option bP) (v:Value),bz w S σ x v→v=u)∧(∀y:ao,nt s y=true→ ∀(w:World) (S:Nat→Prop) (σ:Nat→Option bP),bz w S σ y u→y=x):=by
 have bY:= ‹bx›;unfold nt at h;split at h
 ·rename_i n;refine ⟨.int .i64 n,.int _ _,fun w S σ v af=>by cases af;rfl,fun y a1 w S σ af=> ?_⟩;unfold nt at a1;split at a1<;>first|(cases a1;done)|(cases af;rfl)|(rename_i q _;cases q;done)|(rename_i q;cases q;done)|skip
 ·rename_i n;refine ⟨pD n,.str _,fun w S σ v af=>by cases af;rfl,fun y a1 w S σ af=> ?_⟩;unfold nt at a1;split at a1<;>first|(cases a1;done)|(rename_i q _;cases q;done)|(rename_i q;cases q;done)|skip
  rename_i m _;generalize bB:pD n=z at af;cases af;unfold pD at bB;simp at bB;rw [bB]
 ·rename_i a b;refine ⟨.agg #[.int .i64 a,.int .i64 b],.pair _ _ _,fun w S σ v af=> ?_,fun y a1 w S σ af=> ?_⟩
  ·cases af with
   |agg _ _ vs au af U=>
    obtain ⟨l⟩:=vs;have lh:l.length=2:=by simpa using au
    match l,lh with
    |[x,y],_=>
     have eU:=af 0 b1;have bQ:=af 1 b1;simp at eU bQ;cases eU;cases bQ;rfl
  ·unfold nt at a1;split at a1<;>first|(cases a1;done)|(rename_i q _;cases q;done)|(rename_i q;cases q;done)|skip
   cases af with
   |agg _ _ vs au af U=>
    have eU:=af 0 b1;have bQ:=af 1 b1;simp at eU bQ;cases eU;cases bQ;rfl
 ·cases h
def Gz (H:aY):ao→Option (List ao×List ao)
 | .mp h=>match H[h]? with
  |some (some o)=>match o.c with
   | .mp ks vs=>some (ks,vs)
   |_=>none
  |_=>none
 | .iC ks vs=>some (ks,vs)
 |_=>none
theorem cd.map {c:Ctx}{w:World}{a:Act}{σ:Nat→Option bP}{S:Nat→Prop}{n:Nat}{fr:Fr}{H:aY}(ad:cd c w a σ S n fr H){x:ao}{v:Value}{ks vs:List ao}(af:bz w S σ x v)(hm:Gz H x=some (ks,vs)):
 ∃b es clock,v= .map (some b)∧w.heap[b]? =some (.map es clock)∧es.size=ks.length∧vs.length=ks.length∧es.toList.Pairwise (fun x y=>x.key≠y.key)∧ ∀i,i<ks.length→ ∃e,es[i]? =some e∧bz w S σ (ks.getD i .any) e.key∧bz w S σ (vs.getD i .any) e.val:=by
 cases af<;>simp only [Gz] at hm<;>try (cases hm;done)
 case mp h b bL=>
  cases aA:H[h]? with
  |none=>simp [aA] at hm
  |some ma=>cases ma with
   |none=>simp [aA] at hm
   |some o=>
    simp only [aA] at hm;rcases ad.ad.live h o aA with ⟨aG,_⟩|⟨b',cM,cur,fG,g1,g2,g3,g4,g5,g6⟩
    ·rw [bL] at aG;cases aG
    ·rw [bL] at fG;simp only [dG,bP.at.injEq] at fG;obtain ⟨rfl,cy,rfl⟩:=fG;cases g1 with
     |row mk _ _ eh=>omega
     |map agZ Nx es clock av _ ak aG au hd he=>
      rw [av] at hm;simp only [dG,zk] at hm;obtain ⟨rfl,rfl⟩:=hm;exact ⟨b,es,clock,I,ak,aG,au,hd,he⟩
 case iC agZ Nx b es clock e dm ak aG au hd he an af=>
  simp only [dG,zk] at hm;obtain ⟨rfl,rfl⟩:=hm;exact ⟨b,es,clock,rfl,ak,aG,au,hd,fun i aa=>⟨e i,he i aa,(an i aa).mono (fun _ h=>h) (fun _ _=>rfl) _ (fun _ _ h=>by cases h),(af i aa).mono (fun _ h=>h) (fun _ _=>rfl) _ (fun _ _ h=>by cases h)⟩⟩
section
variable {ind:Bool}{P:Program}{fn:Func}{c:Ctx}{fr:Fr}{H:aY}{k:List eO}{d:Option Nat}{ty:TypeId}{pos:String}{after:Array Edge}{g:Option (Nat×Bool)}
theorem JQ {w:World}{S:Nat→Prop}{σ:Nat→Option bP}{s:s3}{ks:List ao}{es:Array MapEntry}(mB: ∀x∈ks,nt s x=true)(aG:es.size=ks.length)(he: ∀i,i<ks.length→ ∃e,es[i]? =some e∧bz w S σ (ks.getD i .any) e.key): ∀e∈es.toList,qp s e.key:=by
 have bY:= ‹bx›;intro e hm;obtain ⟨i,aa,rfl⟩:=kE hm;have aQ:i<ks.length:=by simpa [aG] using aa
 obtain ⟨gE,aE,aF⟩:=he i aQ;have eQ:ks.getD i .any∈ks:=by simp [List.getD,aQ]
 obtain ⟨u,h6,u2,_⟩:=FW (mB _ eQ);have:es.toList[i]=gE:=by
  have ay:es.toList[i]? =some gE:=by simpa using aE
  rw [n8 aa] at ay;exact oO ay
 rw [this,u2 _ _ _ _ aF];exact h6
theorem vi {t h3 tr:TypeId}{x ix:Operand}{ok:Bool}{m eC v:ao}{ks vs:List ao}{s:s3}(bu:P.underlying t=some (.map h3 tr))(aR:vS P h3 s)(al:bH fr x=some m)(hm:Gz H m=some (ks,vs))(aa:bH fr ix=some eC)(an:nt s eC=true)(mB: ∀x∈ks,nt s x=true)(i:Nat)(U:ks[i]? =some eC)(ab:vs[i]? =some v):bZ false P fn c fr H ⟨d,.lookup t x ix ok,ty,pos,after,g⟩ (bif ok then .ck [v,.bool true] else v):=by
 intro w a σ S ad;have aE:=ad.ek al;have aF:=ad.ek aa;obtain ⟨b,es,clock,bQ,bX,dr,en,gT,jg⟩:=ad.map aE hm;obtain ⟨u,h6,u2,Ap⟩:=FW an;have tK:=u2 _ _ _ _ aF;have na:i<ks.length:=(gZ.1 U).1;obtain ⟨jY,c4,fv,mD⟩:=jg i na;have g1:ks.getD i .any=eC:=by simp [List.getD,U]
 have g2:vs.getD i .any=v:=by simp [List.getD,ab]
 rw [g1] at fv;rw [g2] at mD;have nh:=u2 _ _ _ _ fv;have zW:=JQ mB dr (fun i aa=>let ⟨e,a,b,_⟩:=jg i aa;⟨e,a,b⟩);have wR: ∀w':World,w'.heap=w.heap→(Instr.lookup t (a.eval x) (a.eval ix) ok).run P w'= .ok (if ok then .tuple #[jY.val,.bool true] else jY.val) w':=by
  intro w' hw;have ez:w'.heap[b]? =some (.map es clock):=by rw [hw];exact bX
  rw [bQ,tK];rcases I0 aR h6 w' es.toList zW with ⟨iA,iB⟩|⟨j,gE,iA,iB,sA⟩
  ·exact absurd nh (iB jY (by have:=pS (l:=es.toList) (by simpa using c4);exact this))
  ·have:gE=jY:=by
    have ae:=gZ.1 iB;have aeY:=gZ.1 (show es.toList[i]? =some jY by simpa using c4);obtain ⟨o6,rC⟩:=ae;obtain ⟨i1,i2⟩:=aeY;rcases DO i j with bG|rfl|bG
    ·exact absurd (by rw [i2,rC,nh,sA]) (xJ.1 gT i j i1 o6 bG)
    ·rw [←i2,←rC]
    ·exact absurd (by rw [i2,rC,nh,sA]) (xJ.1 gT j i o6 i1 bG)
   subst this;simp [Instr.lookup,Sem.run_bind,run_underlying bu,Result.andThen,MapKept.run_getObj_map ez,IP aR h6,iA]
 refine ⟨if ok then .tuple #[jY.val,.bool true] else jY.val,?_,fun w' hw=> ?_⟩
 ·cases ok with
  |false=>exact mD
  |true=>
   refine .ck _ _ _ I (fun j ae=> ?_)
   match j,ae with
   |0,_=>exact mD
   |1,_=>exact .bool _ _
 ·have hw:=hw.resolve_left aT;simp only [execOp,Sem.run_bind,wR w' hw];rfl
theorem IN {t h3 tr:TypeId}{x ix:Operand}{ok:Bool}{m eC KV:ao}{ks vs:List ao}{s:s3}{inf:TypeInfo}{z:Value}(bu:P.underlying t=some (.map h3 tr))(aR:vS P h3 s)(iR:P.info? tr=some inf)(bB:inf.zero=some z)(agH:vN z=some [KV])(agE:z.cells= #[z])(al:bH fr x=some m)(hm:Gz H m=some (ks,vs))(aa:bH fr ix=some eC)(an:nt s eC=true)(mB: ∀x∈ks,nt s x=true)(U:eC∉ks):bZ false P fn c fr H ⟨d,.lookup t x ix ok,ty,pos,after,g⟩ (bif ok then .ck [KV,.bool false] else KV):=by
 intro w a σ S ad;have aE:=ad.ek al;have aF:=ad.ek aa;obtain ⟨b,es,clock,bQ,bX,dr,en,gT,jg⟩:=ad.map aE hm;obtain ⟨u,h6,u2,Ap⟩:=FW an;have tK:=u2 _ _ _ _ aF;have zW:=JQ mB dr (fun i aa=>let ⟨e,a,b,_⟩:=jg i aa;⟨e,a,b⟩);have e2: ∀e∈es.toList,e.key≠u:=by
  intro e x7 he;obtain ⟨i,aQ,rfl⟩:=kE x7;have na:i<ks.length:=by simpa [dr] using aQ
  obtain ⟨gE,c4,fv,_⟩:=jg i na;have:es.toList[i]=gE:=by
   have ay:es.toList[i]? =some gE:=by simpa using c4
   rw [n8 aQ] at ay;exact oO ay
  rw [this] at he;rw [he] at fv;have eQ:ks.getD i .any∈ks:=by simp [List.getD,na]
  have:=Ap _ (mB _ eQ) _ _ _ fv;rw [this] at eQ;exact U eQ
 have wR: ∀w':World,w'.heap=w.heap→(Instr.lookup t (a.eval x) (a.eval ix) ok).run P w'= .ok (if ok then .tuple #[z,.bool false] else z) w':=by
  intro w' hw;have ez:w'.heap[b]? =some (.map es clock):=by rw [hw];exact bX
  have MS:(zeroValue tr).run P w'= .ok z w':=by simp [zeroValue,Sem.run_bind,typeInfo,iR,bB]
  rw [bQ,tK];rcases I0 aR h6 w' es.toList zW with ⟨iA,iB⟩|⟨j,gE,iA,iB,sA⟩
  ·simp [Instr.lookup,Sem.run_bind,run_underlying bu,Result.andThen,MapKept.run_getObj_map ez,IP aR h6,iA,MS]
  ·exact absurd sA (e2 gE (pS iB))
 have MT:bz w S σ KV z:=by have:=(FM (w:=w) (S:=S) (σ:=σ) agH).2 0 b1;rw [agE] at this;simpa using this.1
 refine ⟨if ok then .tuple #[z,.bool false] else z,?_,fun w' hw=> ?_⟩
 ·cases ok with
  |false=>exact MT
  |true=>
   refine .ck _ _ _ I (fun j ae=> ?_)
   match j,ae with
   |0,_=>exact MT
   |1,_=>exact .bool _ _
 ·have hw:=hw.resolve_left aT;simp only [execOp,Sem.run_bind,wR w' hw];rfl
end
theorem cd.aag {c:Ctx}{w:World}{a:Act}{σ:Nat→Option bP}{S:Nat→Prop}{n:Nat}{fr:Fr}{H:aY}(ad:cd c w a σ S n fr H){o:bm}{C:Nat}{cur:Array Value}(bg:Obj)(hlen:o.c.len≤C)(eh:C≤maxLen+1)(jq:cur.size=C*o.c.aI)(cB:Lays (w.alloc bg) S (cZ σ H.length (.at w.heap.size o.c.aI C)) o w.heap.size cur C)(av: ∀i j,i<o.c.len→j<o.c.aI→ ∃v,cur[i*o.c.aI+j]? =some v∧bz w S σ (o.c.at i j) v∧v.oneCell'=true):
 cd c (w.alloc bg) a (cZ σ H.length (.at w.heap.size o.c.aI C)) S n fr (H++[some o]):=by
 have hold: ∀b,b<w.heap.size→(w.alloc bg).heap[b]? =w.heap[b]? :=fun b ak=>Below.heap_alloc _ _ b ak;have oj: ∀h B,σ h=some B→cZ σ H.length (.at w.heap.size o.c.aI C) h=some B:=by
  intro h B cf;unfold cZ;split
  ·rename_i he;rw [he,ad.ad.ie _ (bN _)] at cf;cases cf
  ·exact cf
 have af: ∀{x v},bz w S σ x v→bz (w.alloc bg) S (cZ σ H.length (.at w.heap.size o.c.aI C)) x v:=
  fun h=>h.mono (fun _ h=>h) (fun b ak=>hold b (ad.ad.small b ak)) _ oj
 have c7: ∀aS o',(H++[some o])[aS]? =some (some o')→(aS=H.length∧o'=o)∨(aS<H.length∧H[aS]? =some (some o')):=by
  intro aS o' ai;by_cases he:aS<H.length
  ·rw [ic he] at ai;exact .inr ⟨he,ai⟩
  ·by_cases ki:aS=H.length
   ·subst ki;simp at ai;exact .inl ⟨rfl,ai.symm⟩
   ·have:(H++[some o]).length≤aS:=by simp;omega
    rw [kD this] at ai;cases ai
 have EX: ∀h o' b s cM,h<H.length→H[h]? =some (some o')→σ h=some (.at b s cM)→b<w.heap.size:=by intro h o' b s cM _ ai ak;obtain ⟨_,ja,g,_⟩:=ad.obj ai ak;exact g.lt
 refine ⟨⟨?_,?_,fun b ak=>by have:=ad.ad.small b ak;simp;omega,fun h au=> ?_⟩,?_,ad.defers,ad.size,fun t v au=>⟨(ad.fl t v au).1,af (ad.fl t v au).2⟩⟩
 ·intro aS o' ai;rcases c7 aS o' ai with ⟨rfl,rfl⟩|⟨bG,cN⟩
  ·right;refine ⟨w.heap.size,C,cur,by simp [cZ],cB,jq,eh,hlen,fun az=>oQ _ (ad.ad.small _ az),fun i j aa ae=> ?_⟩;obtain ⟨v,aE,aF,bO⟩:=av i j aa ae;exact ⟨v,aE,af aF,bO⟩
  ·rcases ad.ad.live aS o' cN with ⟨aG,jH⟩|⟨b',cM,ja,g1,g2,g3,g4,g5,g6,g7⟩
   ·exact .inl ⟨oj _ _ aG,jH⟩
   ·right;refine ⟨b',cM,ja,oj _ _ g1,g2.mono (hold b' g2.lt) af,g3,g4,g5,g6,fun i j aa ae=> ?_⟩;obtain ⟨v,aE,aF,bO⟩:=g7 i j aa ae;exact ⟨v,aE,af aF,bO⟩
 ·intro U ab o1 o2 b s1 gL s2 gx g1 g2 aE aF;rcases c7 U o1 g1 with ⟨rfl,rfl⟩|⟨fH,wx⟩<;>rcases c7 ab o2 g2 with ⟨rfl,rfl⟩|⟨fu,D8⟩
  ·rfl
  ·simp only [cZ,gg,dG,bP.at.injEq] at aE;simp only [cZ,pQ fu,hA] at aF;have:=EX ab o2 b s2 gx fu D8 aF;omega
  ·simp only [cZ,gg,dG,bP.at.injEq] at aF;simp only [cZ,pQ fH,hA] at aE;have:=EX U o1 b s1 gL fH wx aE;omega
  ·simp only [cZ,pQ fH,pQ fu,hA] at aE aF;exact ad.ad.hB U ab o1 o2 b s1 gL s2 gx wx D8 aE aF
 ·simp only [di,gu,k6] at au;have: ¬h=H.length:=J;simp only [cZ,this,hA];exact ad.ad.ie h J
 ·refine ⟨ad.bk.os,ad.bk.output,ad.bk.tape,by have:=ad.bk.size;simp;omega,fun b ak ai=> ?_,ad.bk.hV,ad.bk.fb,fun h aR=> ?_,fun h aR=>by have:=ad.bk.jF h aR;simp;omega,?_⟩
  ·rw [hold b (by have:=ad.bk.size;omega)];exact ad.bk.block b ak ai
  ·have:=ad.bk.jF h aR;have ab: ¬h=H.length:=J;simp only [cZ,ab,hA];exact ad.bk.fixed h aR
  ·intro aS o' b s cM ai ak;rcases c7 aS o' ai with ⟨rfl,rfl⟩|⟨bG,cN⟩
   ·simp only [cZ,gg,dG,bP.at.injEq] at ak;have:=ad.bk.size;omega
   ·simp only [cZ,pQ bG,hA] at ak;exact ad.bk.own aS o' b s cM cN ak
theorem cd.TZ {c:Ctx}{w:World}{a:Act}{σ:Nat→Option bP}{S:Nat→Prop}{n:Nat}{fr:Fr}{H:aY}(ad:cd c w a σ S n fr H){h b s C:Nat}{o:bm}(aX:H[h]? =some (some o))(bL:σ h=some (.at b s C)){c':Cells}{cur':Array Value}(w':World)(EH:w'.os=w.os)(EI:w'.output=w.output)(ER:w'.tape=w.tape)(Ab:w'.heap.size=w.heap.size)(nI: ∀b',b'≠b→w'.heap[b']? =w.heap[b']?)(cy:c'.aI=o.c.aI)(hlen:c'.len≤C)(jq:cur'.size=C*o.c.aI)(av: ∀i j,i<c'.len→j<c'.aI→ ∃v,cur'[i*c'.aI+j]? =some v∧bz w S σ (c'.at i j) v∧v.oneCell'=true)(cB:Lays w' S σ ⟨o.ty,c'⟩ b cur' C):
 cd c w' a σ S n fr (H.set h (some ⟨o.ty,c'⟩)):=by
 obtain ⟨az,cur,U,ab,ay,bc,bI,db⟩:=ad.obj aX bL;have bG:h<H.length:=(gZ.1 aX).1;have dm: ∀b',S b'→w'.heap[b']? =w.heap[b']? :=fun b' ak=>nI b' (fun e=>bI (e▸ak));have af: ∀{bC:Nat→Option bP} {x v},bz w S bC x v→bz w' S bC x v:=fun h=>h.mono (fun _ h=>h) dm _ (fun _ _ h=>h);have c7: ∀aS o',(H.set h (some ⟨o.ty,c'⟩))[aS]? =some (some o')→(aS=h∧o'=⟨o.ty,c'⟩)∨(aS≠h∧H[aS]? =some (some o')):=by
  intro aS o' ai;by_cases he:aS=h
  ·subst he;simp only [oP bG,dG] at ai;exact .inl ⟨I,ai.symm⟩
  ·rw [lW (ra he)] at ai;exact .inr ⟨he,ai⟩
 have tB:=ad.bk.own h o b s C aX bL;refine ⟨⟨?_,?_,fun b' ak=>by rw [Ab];exact ad.ad.small b' ak,fun aS au=>ad.ad.ie aS (by simpa using au)⟩,?_,ad.defers,ad.size,fun t v au=>⟨(ad.fl t v au).1,af (ad.fl t v au).2⟩⟩
 ·intro aS o' ai;rcases c7 aS o' ai with ⟨rfl,rfl⟩|⟨ch,cN⟩
  ·right;refine ⟨b,C,cur',?_,cB,by simpa [cy] using jq,ay,hlen,bI,fun i j aa ae=> ?_⟩
   ·rw [bL,az,cy]
   ·obtain ⟨v,aE,aF,bO⟩:=av i j aa ae;exact ⟨v,aE,af aF,bO⟩
  ·rcases ad.ad.live aS o' cN with aG|⟨b',cM,ja,g1,g2,g3,g4,g5,g6,g7⟩
   ·exact .inl aG
   ·right;have rq:b'≠b:=fun e=>ch (ad.ad.hB aS h o' o b' o'.c.aI cM s C cN aX g1 (by rw [bL,e]));refine ⟨b',cM,ja,g1,g2.mono (nI b' rq) af,g3,g4,g5,g6,fun i j aa ae=> ?_⟩;obtain ⟨v,aE,aF,bO⟩:=g7 i j aa ae;exact ⟨v,aE,af aF,bO⟩
 ·intro gF wA o1 o2 b' s1 gL s2 gx g1 g2 aE aF;have t1: ∃o,H[gF]? =some (some o):=by
   rcases c7 gF o1 g1 with ⟨rfl,_⟩|⟨_,g⟩
   ·exact ⟨_,aX⟩
   ·exact ⟨_,g⟩
  have t2: ∃o,H[wA]? =some (some o):=by
   rcases c7 wA o2 g2 with ⟨rfl,_⟩|⟨_,g⟩
   ·exact ⟨_,aX⟩
   ·exact ⟨_,g⟩
  obtain ⟨_,t1⟩:=t1;obtain ⟨_,t2⟩:=t2;exact ad.ad.hB gF wA _ _ b' s1 gL s2 gx t1 t2 aE aF
 ·refine ⟨EH.trans ad.bk.os,EI.trans ad.bk.output,ER.trans ad.bk.tape,by rw [Ab];exact ad.bk.size,fun b' ak ai=> ?_,ad.bk.hV,ad.bk.fb,ad.bk.fixed,fun aS aR=>by simpa using ad.bk.jF aS aR,?_⟩
  ·have rq:b'≠b:=by
    rintro rfl;rcases tB with h|h
    ·exact ai h
    ·omega
   rw [nI b' rq];exact ad.bk.block b' ak ai
  ·intro aS o' b' ct cM ai ak;rcases c7 aS o' ai with ⟨rfl,_⟩|⟨_,g⟩
   ·exact ad.bk.own _ _ b' ct cM aX ak
   ·exact ad.bk.own aS o' b' ct cM g ak
section
variable {ind:Bool}{P:Program}{fn:Func}{c:Ctx}{fr:Fr}{H:aY}{k:List eO}{d:Option Nat}{ty:TypeId}{pos:String}{after:Array Edge}{g:Option (Nat×Bool)}
theorem CA {all:Array Oper}{d:Nat}{t:TypeId}{rest:List Oper}(an:aj P fn c (.ops false all rest k) ((d,.mp H.length)::fr) (H++[some ⟨t,.mp [] []⟩])):aj P fn c (.ops false all (⟨some d,.makeMap t none,ty,pos,after,none⟩::rest) k) fr H:=by
 refine uD (fun w a σ S ad=> ?_) an;have eR:(execOp a.eval ⟨some d,.makeMap t none,ty,pos,after,none⟩).run P w= .ok (.value (.map (some w.heap.size))) (w.alloc (.map #[] 0)):=by simp [execOp,Instr.makeMap,Sem.run_bind,newObj,Sem.run,Result.andThen]
 refine ⟨_,_,_,S,eR,ad.aag (o:=⟨t,.mp [] []⟩) (C:=maxLen+1) (cur:= #[]) (.map #[] 0) (cj _) (bN _) I (.map [] [] #[] 0 I I (MapKept.heap_alloc w _).1 I I b1 (fun i aa=>absurd aa (gh _))) (fun i j aa=>absurd aa (gh _)),?_⟩;exact .mp _ _ _ (by simp [cZ,Cells.aI])
theorem cd.TI {w:World}{a:Act}{σ:Nat→Option bP}{S:Nat→Prop}{n:Nat}(ad:cd c w a σ S n fr H){h:Nat}{x:Value}{t:TypeId}{ks vs:List ao}(af:bz w S σ (.mp h) x)(aX:H[h]? =some (some ⟨t,.mp ks vs⟩)):
 ∃b es clock,x= .map (some b)∧σ h=some (.at b 0 (maxLen+1))∧w.heap[b]? =some (.map es clock)∧es.size=ks.length∧vs.length=ks.length∧es.toList.Pairwise (fun x y=>x.key≠y.key)∧ ∀i,i<ks.length→ ∃e,es[i]? =some e∧bz w S σ (ks.getD i .any) e.key∧bz w S σ (vs.getD i .any) e.val:=by
 have bL: ∃b,x= .map (some b)∧σ h=some (.at b 0 (maxLen+1)):=by cases af with|mp _ _ b bL=>exact ⟨b,rfl,bL⟩
 obtain ⟨b,rfl,bL⟩:=bL;obtain ⟨eP,es,clock,bQ,bX⟩:=ad.map (ks:=ks) (vs:=vs) af (by simp only [Gz,aX]);simp at bQ;subst bQ;exact ⟨_,es,clock,I,bL,bX⟩
theorem acK {es:Array MapEntry}{u:Value}{i j:Nat}{e gE:MapEntry}(hd:es.toList.Pairwise (fun x y=>x.key≠y.key))(U:es[i]? =some e)(ab:e.key=u)(ay:es.toList[j]? =some gE)(bc:gE.key=u):i=j:=by
 have bY:= ‹bx›;obtain ⟨o6,rC⟩:=gZ.1 ay;obtain ⟨i1,i2⟩:=gZ.1 (show es.toList[i]? =some e by simpa using U);rcases DO i j with bG|rfl|bG
 ·exact absurd (by rw [i2,rC,ab,bc]) (xJ.1 hd i j i1 o6 bG)
 ·rfl
 ·exact absurd (by rw [i2,rC,ab,bc]) (xJ.1 hd j i o6 i1 bG)
theorem alQ {all:Array Oper}{t h3 tr cC:TypeId}{x ix y:Operand}{rest:List Oper}{h:Nat}{eC v:ao}{ks vs:List ao}{s:s3}(bu:P.underlying t=some (.map h3 tr))(aR:vS P h3 s)(al:bH fr x=some (.mp h))(aX:H[h]? =some (some ⟨cC,.mp ks vs⟩))(aa:bH fr ix=some eC)(a1:bH fr y=some v)(an:nt s eC=true)(mB: ∀x∈ks,nt s x=true)(i:Nat)(U:ks[i]? =some eC)(b0:aj P fn c (.ops false all rest k) fr (H.set h (some ⟨cC,.mp ks (vs.set i v)⟩))):aj P fn c (.ops false all (⟨none,.mapUpdate t x ix y,ty,pos,after,none⟩::rest) k) fr H:=by
 refine Gx (fun w a σ S ad=> ?_) b0;have aE:=ad.ek al;have aF:=ad.ek aa;have bO:=ad.ek a1;obtain ⟨b,es,clock,bQ,bL,bX,dr,en,gT,jg⟩:=ad.TI aE aX;obtain ⟨u,h6,u2,Ap⟩:=FW an;have tK:=u2 _ _ _ _ aF;have na:i<ks.length:=(gZ.1 U).1;obtain ⟨jY,c4,fv,mD⟩:=jg i na;have g1:ks.getD i .any=eC:=by simp [List.getD,U]
 rw [g1] at fv;have nh:=u2 _ _ _ _ fv;have zW:=JQ mB dr (fun i aa=>let ⟨e,a,b,_⟩:=jg i aa;⟨e,a,b⟩);have dn:i<es.size:=J;have eR:(Instr.mapUpdate t (a.eval x) (a.eval ix) (a.eval y)).run P w= .ok () {w with heap:=w.heap.setIfInBounds b (.map (es.modify i fun e=>{e with key:=u,val:=a.eval y}) clock)}:=by
  rw [bQ,tK];rcases I0 aR h6 w es.toList zW with ⟨iA,iB⟩|⟨j,gE,iA,iB,sA⟩
  ·exact absurd nh (iB jY (pS (l:=es.toList) (by simpa using c4)))
  ·have wG:=acK gT c4 nh iB sA;subst wG;have:((es[i]?).map (·.key)).getD u=u:=by rw [c4];simpa using nh
   simp only [Instr.mapUpdate,Sem.run_bind,run_underlying bu,Result.andThen_ok,MapKept.run_getObj_map bX,IP aR h6,iA,this,anm h6,MapKept.run_setObj_map _ bX]
 have c7:=MapKept.heap_set (o':= .map (es.modify i fun e=>{e with key:=u,val:=a.eval y}) clock) bX;generalize wT:({w with heap:=w.heap.setIfInBounds b (.map (es.modify i fun e=>{e with key:=u,val:=a.eval y}) clock)}:World)=w' at eR;have Ae:w'.heap=w.heap.setIfInBounds b (.map (es.modify i fun e=>{e with key:=u,val:=a.eval y}) clock):=by rw [←wT]
 have Mr: ¬S b:=(ad.obj aX bL).2.choose_spec.2.2.2.2.1;have nI: ∀b',b'≠b→w'.heap[b']? =w.heap[b']? :=fun b' ak=>by rw [Ae];exact c7.2 b' ak
 have af: ∀{x v},bz w S σ x v→bz w' S σ x v:=fun af=>af.mono (fun _ h=>h) (fun b' ak=>nI b' (fun e=>Mr (e▸ak))) _ (fun _ _ h=>h);have EB: ∀(j:Nat) (e:MapEntry),es[j]? =some e→(if j=i then ({e with key:=u,val:=a.eval y}:MapEntry) else e).key=e.key:=by
  intro j e ae;split
  ·rename_i Ez;subst Ez;rw [c4] at ae;cases ae;exact nh.symm
  ·rfl
 have SF: ∀j:Nat,(es.modify i fun e=>{e with key:=u,val:=a.eval y})[j]? =(es[j]?).map (fun e=>if j=i then ({e with key:=u,val:=a.eval y}:MapEntry) else e):=by
  intro j;rw [Array.getElem?_modify];by_cases wG:i=j
  ·subst wG;simp
  ·have: ¬j=i:=fun e=>wG e.symm;simp [wG,this]
 refine ⟨w',σ,S,by simp only [execOp,Sem.run_bind,eR];rfl,ad.TZ (o:=⟨cC,.mp ks vs⟩) aX bL (c':= .mp ks (vs.set i v)) (cur':= #[]) w' (by rw [←wT]) (by rw [←wT]) (by rw [←wT]) (by rw [Ae];simp) nI I (cj _) I (fun i j aa=>absurd aa (gh _))
  (.map ks (vs.set i v) _ clock rfl rfl (by rw [Ae];exact c7.1) (by simpa using dr) (by simpa using en) ?_ (fun j ae=> ?_))⟩
 ·rw [xJ] at gT⊢;intro gy dS aW ak mX;have cy:(es.modify i fun e=>{e with key:=u,val:=a.eval y}).toList.length=es.toList.length:=b1;have Tj: ∀(j:Nat) (ae:j<(es.modify i fun e=>{e with key:=u,val:=a.eval y}).toList.length) (lC:j<es.toList.length),((es.modify i fun e=>{e with key:=u,val:=a.eval y}).toList[j]).key=(es.toList[j]).key:=by
   intro j ae lC;have bI:=SF j;have su:es[j]? =some (es.toList[j]):=by have oZ:es.toList[j]? =some (es.toList[j]):=n8 lC;rw [Array.getElem?_toList] at oZ;exact oZ
   rw [su] at bI;simp only [s8] at bI;have db:(es.modify i fun e=>{e with key:=u,val:=a.eval y}).toList[j]? =some ((es.modify i fun e=>{e with key:=u,val:=a.eval y}).toList[j]):=n8 ae;have fh:(es.modify i fun e=>{e with key:=u,val:=a.eval y}).toList[j]? =some (if j=i then ({es.toList[j] with key:=u,val:=a.eval y}:MapEntry) else es.toList[j]):=by rw [Array.getElem?_toList];exact bI
   rw [db] at fh;rw [oO fh];exact EB j _ su
  rw [Tj gy aW J,Tj dS ak J];exact gT gy dS J J mX
 ·obtain ⟨e,iA,iB,sA⟩:=jg j ae;refine ⟨if j=i then ({e with key:=u,val:=a.eval y}:MapEntry) else e,by rw [SF j,iA];rfl,?_,?_⟩
  ·rw [EB j e iA];exact af iB
  ·by_cases Ez:j=i
   ·subst Ez;simp only [gg];have:(vs.set j v).getD j .any=v:=by simp [List.getD,show j<vs.length by omega]
    rw [this];exact af bO
   ·simp only [Ez,hA];have:(vs.set i v).getD j .any=vs.getD j .any:=by simp [List.getD,lW (ra Ez)]
    rw [this];exact af sA
theorem Cs {all:Array Oper}{t h3 tr cC:TypeId}{x ix y:Operand}{rest:List Oper}{h:Nat}{eC v:ao}{ks vs:List ao}{s:s3}(bu:P.underlying t=some (.map h3 tr))(aR:vS P h3 s)(al:bH fr x=some (.mp h))(aX:H[h]? =some (some ⟨cC,.mp ks vs⟩))(aa:bH fr ix=some eC)(a1:bH fr y=some v)(an:nt s eC=true)(mB: ∀x∈ks,nt s x=true)(U:eC∉ks)(b0:aj P fn c (.ops false all rest k) fr (H.set h (some ⟨cC,.mp (ks++[eC]) (vs++[v])⟩))):aj P fn c (.ops false all (⟨none,.mapUpdate t x ix y,ty,pos,after,none⟩::rest) k) fr H:=by
 refine Gx (fun w a σ S ad=> ?_) b0;have aE:=ad.ek al;have aF:=ad.ek aa;have bO:=ad.ek a1;obtain ⟨b,es,clock,bQ,bL,bX,dr,en,gT,jg⟩:=ad.TI aE aX;obtain ⟨u,h6,u2,Ap⟩:=FW an;have tK:=u2 _ _ _ _ aF;have zW:=JQ mB dr (fun i aa=>let ⟨e,a,b,_⟩:=jg i aa;⟨e,a,b⟩);have e2: ∀e∈es.toList,e.key≠u:=by
  intro e x7 he;obtain ⟨i,aQ,rfl⟩:=kE x7;have na:i<ks.length:=by simpa [dr] using aQ
  obtain ⟨gE,c4,fv,_⟩:=jg i na;have:es.toList[i]=gE:=by
   have ay:es.toList[i]? =some gE:=by simpa using c4
   rw [n8 aQ] at ay;exact oO ay
  rw [this] at he;rw [he] at fv;have eQ:ks.getD i .any∈ks:=by simp [List.getD,na]
  have:=Ap _ (mB _ eQ) _ _ _ fv;rw [this] at eQ;exact U eQ
 have eR:(Instr.mapUpdate t (a.eval x) (a.eval ix) (a.eval y)).run P w= .ok () {w with heap:=w.heap.setIfInBounds b (.map (es.push {key:=u,val:=a.eval y,born:=clock}) (clock+1))}:=by
  rw [bQ,tK];rcases I0 aR h6 w es.toList zW with ⟨iA,iB⟩|⟨j,gE,iA,iB,sA⟩
  ·simp only [Instr.mapUpdate,Sem.run_bind,run_underlying bu,Result.andThen_ok,MapKept.run_getObj_map bX,IP aR h6,iA,MapKept.run_setObj_map _ bX]
  ·exact absurd sA (e2 gE (pS iB))
 have c7:=MapKept.heap_set (o':= .map (es.push {key:=u,val:=a.eval y,born:=clock}) (clock+1)) bX;generalize wT:({w with heap:=w.heap.setIfInBounds b (.map (es.push {key:=u,val:=a.eval y,born:=clock}) (clock+1))}:World)=w' at eR;have Ae:w'.heap=w.heap.setIfInBounds b (.map (es.push {key:=u,val:=a.eval y,born:=clock}) (clock+1)):=by rw [←wT]
 have Mr: ¬S b:=(ad.obj aX bL).2.choose_spec.2.2.2.2.1;have nI: ∀b',b'≠b→w'.heap[b']? =w.heap[b']? :=fun b' ak=>by rw [Ae];exact c7.2 b' ak
 have af: ∀{x v},bz w S σ x v→bz w' S σ x v:=fun af=>af.mono (fun _ h=>h) (fun b' ak=>nI b' (fun e=>Mr (e▸ak))) _ (fun _ _ h=>h);refine ⟨w',σ,S,by simp only [execOp,Sem.run_bind,eR];rfl,ad.TZ (o:=⟨cC,.mp ks vs⟩) aX bL (c':= .mp (ks++[eC]) (vs++[v])) (cur':= #[]) w' (by rw [←wT]) (by rw [←wT]) (by rw [←wT]) (by rw [Ae];simp) nI I (cj _) I (fun i j aa=>absurd aa (gh _))
  (.map _ _ _ (clock+1) rfl rfl (by rw [Ae];exact c7.1) (by simp [dr]) (by simp [en]) ?_ (fun j ae=> ?_))⟩
 ·rw [Array.toList_push,List.pairwise_append];exact ⟨gT,b1,fun x al y a1=>by simp at a1;subst a1;exact e2 x al⟩
 ·simp only [di,gu,k6] at ae;by_cases au:j<ks.length
  ·obtain ⟨e,iA,iB,sA⟩:=jg j au;refine ⟨e,by rw [Array.getElem?_push,aw J];exact iA,?_,?_⟩
   ·have:(ks++[eC]).getD j .any=ks.getD j .any:=by simp [List.getD,ic au]
    rw [this];exact af iB
   ·have:(vs++[v]).getD j .any=vs.getD j .any:=by simp [List.getD,ic (show j<vs.length by omega)]
    rw [this];exact af sA
  ·have hc:j=es.size:=J;refine ⟨{key:=u,val:=a.eval y,born:=clock},by rw [Array.getElem?_push,aB hc],?_,?_⟩
   ·have:(ks++[eC]).getD j .any=eC:=by simp [List.getD,hc,dr]
    rw [this];have:=af aF;rw [tK] at this;exact this
   ·have:(vs++[v]).getD j .any=v:=by simp [List.getD,hc,dr,←en]
    rw [this];exact af bO
end
end Go.aj
namespace Go.aj
variable [bx]
open Go.RowKit
section
variable {ind:Bool}{P:Program}{fn:Func}{c:Ctx}{fr:Fr}{H:aY}{k:List eO}
variable {d:Option Nat}{ty:TypeId}{pos:String}{after:Array Edge}{g:Option (Nat×Bool)}
end
end Go.aj
namespace Go.aj
variable [bx]
open Go.RowKit
abbrev ah (n:Nat):ao:= .int .i64 (n:Int)
section
variable {P:Program}{fn:Func}{c:Ctx}{fr:Fr}{H:aY}{k:List eO}
theorem dj {all:Array Oper}{t:TypeId}{x y:Operand}{ty:TypeId}{pos:String}{after:Array Edge}{rest:List Oper}{h:Nat}{bg:bm}{L:List ao}{c':Cells}(al:bH fr x=some (.ptr h 0 0))(a1:bH fr y=some (.agg L))(az:(P.info? t).map (·.size)=some bg.c.aI)(aX:H[h]? =some (some bg))(au:L.length=bg.c.aI)(U:c'.len=bg.c.len)(ab:c'.aI=bg.c.aI)(an:aj P fn c (.ops false all rest k) fr (H.set h (some ⟨bg.ty,c'⟩)))(aa:0<bg.c.len:=by exact fx)(ay: ∀aK ba,aK<bg.c.len→ba<bg.c.aI→c'.at aK ba=if aK=0 then L.getD ba .any else bg.c.at aK ba:=by (intro aK ba aQ bd;rw [aB (ft.1 aQ)];rfl))(oq:bg.c.aI≠0:=by (intro aX;cases aX)):
 aj P fn c (.ops false all (⟨none,.store t x y,ty,pos,after,none⟩::rest) k) fr H:=eN al a1 az aX au aa U ab ay an oq
variable {ind:Bool}{d:Option Nat}{ty:TypeId}{pos:String}{after:Array Edge}{g:Option (Nat×Bool)}
theorem mE {x i:Operand}{t e:TypeId}{h o len ix:Nat}{bg:bm}{k:IntKind}{m:Int}(bu:P.underlying t=some (.slice e))(al:bH fr x=some (.aC h o len))(aa:bH fr i=some (.int k m))(aX:H[h]? =some (some bg):=by assumption)(az:(P.info? e).map (·.size)=some bg.c.aI:=by rfl)(zU:o+m.toNat=ix:=by first|(simp only [cR,cn,fJ];exact rfl)|exact rfl)(ak:0≤m∧m<len:=by omega):
 bZ ind P fn c fr H ⟨d,.indexAddr t x i,ty,pos,after,g⟩ (.ptr h ix 0):=Aw bu al aa aX az zU ak
theorem aje {x:Operand}{t:TypeId}{u:TypeDesc}{h i j:Nat}{bg:bm}{inf:TypeInfo}{L:List ao}(bu:P.underlying t=some u)(hu:jy u=true)(iR:P.info? t=some inf)(al:bH fr x=some (.ptr h i j))(aX:H[h]? =some (some bg):=by assumption)(cy:Nat.ble (j+inf.size) bg.c.aI=true:=by rfl)(cB:(List.range inf.size).map (fun e=>bg.c.at i (j+e))=L:=by rfl)(aa:i<bg.c.len:=by first|exact fx|assumption|omega):bZ false P fn c fr H ⟨d,.load t x,ty,pos,after,g⟩ (.agg L):=alK bu hu iR al aX cy cB aa
theorem IA {x:Operand}{t:TypeId}{u:TypeDesc}{h i:Nat}{bg:bm}{inf:TypeInfo}{L:List ao}(bu:P.underlying t=some u)(hu:jy u=true)(iR:P.info? t=some inf)(al:bH fr x=some (.ptr h i 0))(aX:H[h]? =some (some bg):=by assumption)(cy:inf.size=bg.c.aI:=by rfl)(cB:(List.range bg.c.aI).map (bg.c.at i)=L:=by rfl)(aa:i<bg.c.len:=by first|exact fx|assumption|omega):bZ false P fn c fr H ⟨d,.load t x,ty,pos,after,g⟩ (.agg L):=NC bu hu iR al aX cy cB aa
theorem E7 {x:Operand}{t:TypeId}{u:TypeDesc}{h i j:Nat}{bg:bm}{inf:TypeInfo}{L:List ao}(bu:P.underlying t=some u)(hu:jy u=true)(iR:P.info? t=some inf)(cy:Nat.ble (j+inf.size) bg.c.aI=true)(al:bH fr x=some (.ptr h i j))(aX:H[h]? =some (some bg))(cB:(List.range inf.size).map (fun e=>bg.c.at i (j+e))=L)(aa:i<bg.c.len:=by first|exact fx|assumption|omega):bZ false P fn c fr H ⟨d,.load t x,ty,pos,after,g⟩ (.agg L):=IQ bu hu iR cy al aX cB aa
end
end Go.aj
namespace Go.aj
open Go.RowKit
structure lx (p:Prop):Prop where
 out:p
theorem bE {G ef:Prop}(k:ef)(h:lx ef→G:=by intro k;(repeat (first|refine aq (bD rfl) ?_|refine aq (dC rfl) ?_|refine cY ?_|refine b6 ?_|refine du ?_|refine dc rfl ?_|refine oB ?_));exact k.out):G:=h ⟨k⟩
theorem bp {G ef:Prop}(k:ef)(h:lx ef→G:=by intro k;(repeat (first|refine aq (bD rfl) ?_|refine aq (dC rfl) ?_|refine cY ?_|refine b6 ?_|refine du ?_|refine dc rfl ?_|refine lI ?_|refine fV ?_|refine jk ?_|refine oB ?_));exact k.out):G:=h ⟨k⟩
theorem dy {G ef:Prop}(k:ef)(h:lx ef→G:=by intro k;(repeat (first|refine aq (bD rfl) ?_|refine aq (dC rfl) ?_|refine cY ?_|refine b6 ?_|refine du ?_|refine dc rfl ?_|refine mg rfl rfl ?_|refine lI ?_|refine fV ?_|refine jk ?_|refine oB ?_|refine Ct ?_|refine aq (mH rfl rfl) ?_|refine aq (nP rfl rfl) ?_));exact k.out):G:=h ⟨k⟩
theorem bt {G ef:Prop}(k:ef)(h:lx ef→G:=by intro k;(repeat (first|refine aq (bD rfl) ?_|refine aq (dC rfl) ?_|refine cY ?_|refine b6 ?_|refine du ?_|refine dc rfl ?_|refine mg rfl rfl ?_|refine lI ?_|refine fV ?_|refine jk ?_|refine oB ?_|refine Ct ?_|refine aq (rZ rfl rfl) ?_|refine aq (mH rfl rfl) ?_|refine aq (nP rfl rfl) ?_|refine aq (gm rfl rfl rfl) ?_|refine aq (hE rfl rfl J) ?_|refine ju rfl rfl rfl rfl rfl rfl rfl rfl rfl rfl rfl ?_));exact k.out):G:=h ⟨k⟩
theorem bh {G ef:Prop}(k:ef)(h:lx ef→G:=by intro k;(repeat (first|refine aq (bD rfl) ?_|refine aq (dC rfl) ?_|refine cY ?_|refine b6 ?_|refine du ?_|refine dc rfl ?_|refine mg rfl rfl ?_|refine pd rfl ?_|refine lI ?_|refine fV ?_|refine jk ?_|refine oB ?_|refine Ct ?_|refine aq (ia rfl rfl rfl rfl rfl) ?_|refine aq (rY rfl rfl) ?_|refine aq (nV rfl rfl) ?_|refine aq (rZ rfl rfl) ?_|refine aq (mH rfl rfl) ?_|refine aq (nP rfl rfl) ?_|refine aq (gm rfl rfl rfl) ?_|refine aq (hE rfl rfl J) ?_|refine aq (ib rfl rfl rfl rfl hq J) ?_|refine ju rfl rfl rfl rfl rfl rfl rfl rfl rfl rfl rfl ?_|refine mf rfl rfl rfl ?_));exact k.out):G:=h ⟨k⟩
theorem bl {G ef:Prop}(k:ef)(h:lx ef→G:=by intro k;(repeat (first|refine aq (bD rfl) ?_|refine aq (dC rfl) ?_|refine cY ?_|refine b6 ?_|refine du ?_|refine dc rfl ?_|refine mg rfl rfl ?_|refine rM rfl ?_|refine pd rfl ?_|refine kQ ?_|refine lI ?_|refine fV ?_|refine jk ?_|refine qU ?_|refine qS ?_|refine qR ?_|refine rO ?_|refine oB ?_|refine Ct ?_|refine aq (ia rfl rfl rfl rfl rfl) ?_|refine aq (rY rfl rfl) ?_|refine aq (nV rfl rfl) ?_|refine aq (rZ rfl rfl) ?_|refine aq (vM rfl) ?_|refine aq (mH rfl rfl) ?_|refine aq (nP rfl rfl) ?_|refine aq (gm rfl rfl rfl) ?_|refine aq (hE rfl rfl J) ?_|refine aq (ib rfl rfl rfl rfl hq J) ?_|refine aq (ds rfl rfl rfl rfl rfl rfl) ?_|refine ju rfl rfl rfl rfl rfl rfl rfl rfl rfl rfl rfl ?_|refine mf rfl rfl rfl ?_));exact k.out):G:=h ⟨k⟩
theorem bf {G ef:Prop}(k:ef)(h:lx ef→G:=by intro k;(repeat (first|refine aq (bD rfl) ?_|refine aq (dC rfl) ?_|refine aq (vk rfl rfl rfl) ?_|refine cY ?_|refine b6 ?_|refine du ?_|refine dc rfl ?_|refine mg rfl rfl ?_|refine tQ rfl rfl rfl ?_|refine rM rfl ?_|refine pd rfl ?_|refine kQ ?_|refine lI ?_|refine fV ?_|refine jk ?_|refine qU ?_|refine qS ?_|refine qR ?_|refine rO ?_|refine oB ?_|refine Ct ?_|refine amQ ?_|refine amR ?_|refine aq (vf rfl rfl rfl rfl) ?_|refine aq (ia rfl rfl rfl rfl rfl) ?_|refine aq (rY rfl rfl) ?_|refine aq (nV rfl rfl) ?_|refine aq (rZ rfl rfl) ?_|refine aq (A7 rfl rfl) ?_|refine aq (vM rfl) ?_|refine aq (mH rfl rfl) ?_|refine aq (nP rfl rfl) ?_|refine aq (gm rfl rfl rfl) ?_|refine aq (C3 rfl rfl) ?_|refine aq (hE rfl rfl J) ?_|refine aq (ib rfl rfl rfl rfl hq J) ?_|refine aq (gr rfl rfl rfl rfl rfl hq J) ?_|refine aq (yT rfl rfl) ?_|refine aq (ds rfl rfl rfl rfl rfl rfl) ?_|refine aq (w6 rfl rfl rfl rfl rfl rfl) ?_|refine aq (IQ rfl rfl rfl rfl rfl rfl rfl Ig) ?_|refine ju rfl rfl rfl rfl rfl rfl rfl rfl rfl rfl rfl ?_|refine vD rfl rfl ?_|refine mf rfl rfl rfl ?_));exact k.out):G:=h ⟨k⟩
theorem cX {G ef:Prop}(k:ef)(h:lx ef→G:=by intro k;(repeat (first|refine aq (bD rfl) ?_|refine aq (dC rfl) ?_|refine cY ?_|refine b6 ?_|refine du ?_|refine dc rfl ?_|refine kQ ?_|refine lI ?_|refine fV ?_|refine jk ?_|refine aq (rY rfl rfl) ?_|refine aq (A6 rfl rfl) ?_|refine aq (gm rfl rfl rfl) ?_|refine aq (hE rfl rfl J) ?_|refine aq (q0 rfl rfl J) ?_|refine aq (gr rfl rfl rfl rfl rfl hq J) ?_|refine aq (Fi rfl rfl rfl rfl nM) ?_|refine aq (kA rfl) ?_|refine aq (ds rfl rfl rfl rfl rfl rfl) ?_|refine aq (Aw rfl rfl rfl h2 ll hq J) ?_|refine aq (NC rfl rfl rfl rfl h2 ll ll Ig) ?_|refine aq (pc rfl rfl rfl h2 ll) ?_|refine aq (N0 rfl rfl rfl h2 nM) ?_|refine aq (Fg rfl rfl rfl h2 rfl nM) ?_|refine lL rfl rfl rfl rfl rfl rfl rfl (by first|assumption|(show _<List.length _;first|assumption|omega)) ?_|refine mf rfl rfl rfl ?_));exact k.out):G:=h ⟨k⟩
theorem fe {G ef:Prop}(k:ef)(h:lx ef→G:=by intro k;(repeat (first|refine aq (bD rfl) ?_|refine aq (dC rfl) ?_|refine cY ?_|refine b6 ?_|refine du ?_|refine dc rfl ?_|refine mg rfl rfl ?_|refine pd rfl ?_|refine jk ?_|refine oB ?_|refine aq (ia rfl rfl rfl rfl rfl) ?_|refine aq (nV rfl rfl) ?_|refine aq (TT rfl rfl) ?_|refine aq (A6 rfl rfl) ?_|refine aq (mH rfl rfl) ?_|refine aq (gm rfl rfl rfl) ?_|refine aq (C3 rfl rfl) ?_|refine aq (q0 rfl rfl J) ?_|refine aq (ji rfl rfl rfl rfl rfl rfl) ?_|refine aq (PI rfl rfl) ?_|refine aq (lq rfl rfl rfl rfl) ?_|refine aq (kA rfl) ?_|refine aq (ds rfl rfl rfl rfl rfl rfl) ?_|refine lL rfl rfl rfl rfl rfl rfl rfl fx ?_|refine ju rfl rfl rfl rfl rfl rfl rfl rfl rfl rfl rfl ?_|refine mf rfl rfl rfl ?_));exact k.out):G:=h ⟨k⟩
theorem sB {G ef:Prop}(k:ef)(h:lx ef→G:=by intro k;(repeat (first|refine aq (bD rfl) ?_|refine aq (dC rfl) ?_|refine cY ?_|refine b6 ?_|refine du ?_|refine dc rfl ?_|refine rM rfl ?_|refine pd rfl ?_|refine kQ ?_|refine lI ?_|refine fV ?_|refine jk ?_|refine aq (Of rfl rfl rfl) ?_|refine aq (ia rfl rfl rfl rfl rfl) ?_|refine aq (nV rfl rfl) ?_|refine aq (vM rfl) ?_|refine aq (nP rfl rfl) ?_|refine aq (gm rfl rfl rfl) ?_|refine aq (hE rfl rfl J) ?_|refine aq (ib rfl rfl rfl rfl hq J) ?_|refine aq (ji rfl rfl rfl rfl rfl rfl) ?_|refine aq (yT rfl rfl) ?_|refine aq (ds rfl rfl rfl rfl rfl rfl) ?_|refine aq (IQ rfl rfl rfl rfl rfl rfl rfl Ig) ?_|refine lL rfl rfl rfl rfl rfl rfl rfl fx ?_|refine mf rfl rfl rfl ?_));exact k.out):G:=h ⟨k⟩
theorem fS {G ef:Prop}(k:ef)(h:lx ef→G:=by intro k;(repeat (first|refine aq (bD rfl) ?_|refine aq (dC rfl) ?_|refine cY ?_|refine du ?_|refine dc rfl ?_|refine mg rfl rfl ?_|refine pd rfl ?_|refine kQ ?_|refine lI ?_|refine jk ?_|refine qU ?_|refine qS ?_|refine qR ?_|refine rO ?_|refine aq (ia rfl rfl rfl rfl rfl) ?_|refine aq (vM rfl) ?_|refine aq (hE rfl rfl J) ?_|refine aq (gr rfl rfl rfl rfl rfl hq J) ?_|refine aq (Fi rfl rfl rfl rfl nM) ?_|refine aq (amW rfl rfl rfl rfl nM) ?_|refine aq (Cu rfl rfl rfl rfl rfl nM) ?_|refine aq (Kb rfl) ?_|refine aq (U2 rfl rfl rfl rfl (by first|(simp only [cR,cn];exact rfl)|exact rfl) J) ?_|refine aq (Aw rfl rfl rfl h2 ll hq J) ?_|refine aq (NC rfl rfl rfl rfl h2 ll ll Ig) ?_|refine lL rfl rfl rfl rfl rfl rfl rfl (by first|assumption|(show _<List.length _;first|assumption|omega)) ?_));exact k.out):G:=h ⟨k⟩
theorem iq {G ef:Prop}(k:ef)(h:lx ef→G:=by intro k;(repeat (first|refine aq (bD rfl) ?_|refine aq (dC rfl) ?_|refine aq (vk rfl rfl rfl) ?_|refine cY ?_|refine b6 ?_|refine du ?_|refine mg rfl rfl ?_|refine tQ rfl rfl rfl ?_|refine qU ?_|refine qS ?_|refine qR ?_|refine rO ?_|refine oB ?_|refine aq (vf rfl rfl rfl rfl) ?_|refine aq (nV rfl rfl) ?_|refine aq (A7 rfl rfl) ?_|refine aq (mH rfl rfl) ?_|refine aq (nP rfl rfl) ?_|refine aq (gm rfl rfl rfl) ?_|refine aq (C3 rfl rfl) ?_|refine aq (q0 rfl rfl J) ?_|refine aq (ib rfl rfl rfl rfl hq J) ?_|refine aq (yT rfl rfl) ?_|refine aq (lq rfl rfl rfl rfl) ?_|refine aq (CF rfl rfl rfl rfl rfl rfl J) ?_|refine aq (lJ rfl rfl rfl rfl rfl rfl) ?_));exact k.out):G:=h ⟨k⟩
theorem u5 {G ef:Prop}(k:ef)(h:lx ef→G:=by intro k;(repeat (first|refine aq (bD rfl) ?_|refine aq (dC rfl) ?_|refine cY ?_|refine b6 ?_|refine du ?_|refine dc rfl ?_|refine rM rfl ?_|refine pd rfl ?_|refine kQ ?_|refine fV ?_|refine jk ?_|refine aq (vf rfl rfl rfl rfl) ?_|refine aq (nV rfl rfl) ?_|refine aq (rZ rfl rfl) ?_|refine aq (TT rfl rfl) ?_|refine aq (A6 rfl rfl) ?_|refine aq (gm rfl rfl rfl) ?_|refine aq (C3 rfl rfl) ?_|refine aq (hE rfl rfl J) ?_|refine aq (ib rfl rfl rfl rfl hq J) ?_|refine aq (lq rfl rfl rfl rfl) ?_|refine aq (TU rfl rfl) ?_|refine aq (Kb rfl) ?_|refine aq (Yf rfl rfl rfl (by first|assumption|omega|simp)) ?_|refine aq (CF rfl rfl rfl rfl rfl rfl J) ?_|refine aq (lJ rfl rfl rfl rfl rfl rfl) ?_));exact k.out):G:=h ⟨k⟩
theorem eL {G ef:Prop}(k:ef)(h:lx ef→G:=by intro k;(repeat (first|refine aq (bD rfl) ?_|refine aq (dC rfl) ?_|refine cY ?_|refine b6 ?_|refine mg rfl rfl ?_|refine tQ rfl rfl rfl ?_|refine pd rfl ?_|refine kQ ?_|refine jk ?_|refine qU ?_|refine qS ?_|refine qR ?_|refine rO ?_|refine VD rfl ?_|refine aq (ia rfl rfl rfl rfl rfl) ?_|refine aq (rY rfl rfl) ?_|refine aq (A7 rfl rfl) ?_|refine aq (A6 rfl rfl) ?_|refine aq (vM rfl) ?_|refine aq (mH rfl rfl) ?_|refine aq (nP rfl rfl) ?_|refine aq (hE rfl rfl J) ?_|refine aq (q0 rfl rfl J) ?_|refine aq (yT rfl rfl) ?_|refine aq (kA rfl) ?_|refine aq (ds rfl rfl rfl rfl rfl rfl) ?_));exact k.out):G:=h ⟨k⟩
theorem u6 {G ef:Prop}(k:ef)(h:lx ef→G:=by intro k;(repeat (first|refine aq (bD rfl) ?_|refine aq (dC rfl) ?_|refine cY ?_|refine b6 ?_|refine du ?_|refine dc rfl ?_|refine mg rfl rfl ?_|refine NG rfl rfl ?_|refine tQ rfl rfl rfl ?_|refine pd rfl ?_|refine kQ ?_|refine jk ?_|refine qU ?_|refine qS ?_|refine qR ?_|refine rO ?_|refine VD rfl ?_|refine oB ?_|refine aq (A7 rfl rfl) ?_|refine aq (mH rfl rfl) ?_|refine aq (gm rfl rfl rfl) ?_|refine aq (hE rfl rfl J) ?_|refine aq (Og rfl rfl rfl rfl rfl rfl rfl J) ?_|refine aq (ji rfl rfl rfl rfl rfl rfl) ?_|refine vD rfl rfl ?_|refine mf rfl rfl rfl ?_));exact k.out):G:=h ⟨k⟩
theorem u7 {G ef:Prop}(k:ef)(h:lx ef→G:=by intro k;(repeat (first|refine aq (bD rfl) ?_|refine aq (dC rfl) ?_|refine cY ?_|refine b6 ?_|refine du ?_|refine dc rfl ?_|refine fV ?_|refine qU ?_|refine qS ?_|refine qR ?_|refine rO ?_|refine aq (ia rfl rfl rfl rfl rfl) ?_|refine aq (nV rfl rfl) ?_|refine aq (A7 rfl rfl) ?_|refine aq (gm rfl rfl rfl) ?_|refine aq (hE rfl rfl J) ?_|refine aq (aiX rfl rfl J) ?_|refine aq (ji rfl rfl rfl rfl rfl rfl) ?_|refine aq (lq rfl rfl rfl rfl) ?_|refine aq (aiU rfl rfl) ?_|refine aq (kA rfl) ?_|refine aq (pe rfl) ?_|refine aq (ds rfl rfl rfl rfl rfl rfl) ?_|refine aq (pc rfl rfl rfl h2 ll) ?_|refine ju rfl rfl rfl rfl rfl rfl rfl rfl rfl rfl rfl ?_|refine vD rfl rfl ?_));exact k.out):G:=h ⟨k⟩
theorem Ci {G ef:Prop}(k:ef)(h:lx ef→G:=by intro k;(repeat (first|refine aq (bD rfl) ?_|refine aq (dC rfl) ?_|refine cY ?_|refine b6 ?_|refine du ?_|refine dc rfl ?_|refine mg rfl rfl ?_|refine NG rfl rfl ?_|refine tQ rfl rfl rfl ?_|refine rM rfl ?_|refine pd rfl ?_|refine jk ?_|refine oB ?_|refine Ct ?_|refine aq (vM rfl) ?_|refine aq (mH rfl rfl) ?_|refine aq (gm rfl rfl rfl) ?_|refine aq (C3 rfl rfl) ?_|refine aq (hE rfl rfl J) ?_|refine aq (q0 rfl rfl J) ?_|refine aq (gr rfl rfl rfl rfl rfl hq J) ?_|refine aq (PI rfl rfl) ?_|refine aq (lq rfl rfl rfl rfl) ?_|refine aq (CF rfl rfl rfl rfl rfl rfl J) ?_|refine aq (lJ rfl rfl rfl rfl rfl rfl) ?_|refine lL rfl rfl rfl rfl rfl rfl rfl (by first|assumption|(show _<List.length _;first|assumption|omega)) ?_));exact k.out):G:=h ⟨k⟩
theorem Nj {G ef:Prop}(k:ef)(h:lx ef→G:=by intro k;(repeat (first|refine aq (bD rfl) ?_|refine aq (dC rfl) ?_|refine aq (vk rfl rfl rfl) ?_|refine cY ?_|refine b6 ?_|refine du ?_|refine dc rfl ?_|refine kQ ?_|refine fV ?_|refine jk ?_|refine qU ?_|refine qS ?_|refine qR ?_|refine rO ?_|refine oB ?_|refine aq (ia rfl rfl rfl rfl rfl) ?_|refine aq (nV rfl rfl) ?_|refine aq (hE rfl rfl J) ?_|refine aq (ib rfl rfl rfl rfl hq J) ?_|refine aq (gr rfl rfl rfl rfl rfl hq J) ?_|refine aq (Fi rfl rfl rfl rfl nM) ?_|refine aq (Cu rfl rfl rfl rfl rfl nM) ?_|refine aq (Oh rfl rfl rfl rfl rfl rfl rfl rfl J) ?_|refine aq (ds rfl rfl rfl rfl rfl rfl) ?_|refine lL rfl rfl rfl rfl rfl rfl rfl (by first|assumption|(show _<List.length _;first|assumption|omega)) ?_));exact k.out):G:=h ⟨k⟩
theorem u9 {G ef:Prop}(k:ef)(h:lx ef→G:=by intro k;(repeat (first|refine aq (bD rfl) ?_|refine aq (dC rfl) ?_|refine cY ?_|refine b6 ?_|refine du ?_|refine dc rfl ?_|refine tQ rfl rfl rfl ?_|refine rM rfl ?_|refine fV ?_|refine jk ?_|refine aq (Of rfl rfl rfl) ?_|refine aq (vf rfl rfl rfl rfl) ?_|refine aq (nV rfl rfl) ?_|refine aq (rZ rfl rfl) ?_|refine aq (vM rfl) ?_|refine aq (mH rfl rfl) ?_|refine aq (nP rfl rfl) ?_|refine aq (ib rfl rfl rfl rfl hq J) ?_|refine aq (ji rfl rfl rfl rfl rfl rfl) ?_|refine aq (PI rfl rfl) ?_|refine aq (Kb rfl) ?_|refine aq (Aw rfl rfl rfl h2 ll hq J) ?_|refine aq (Fg rfl rfl rfl h2 rfl nM) ?_|refine lL rfl rfl rfl rfl rfl rfl rfl fx ?_|refine ju rfl rfl rfl rfl rfl rfl rfl rfl rfl rfl rfl ?_|refine mf rfl rfl rfl ?_));exact k.out):G:=h ⟨k⟩
theorem Nk {G ef:Prop}(k:ef)(h:lx ef→G:=by intro k;(repeat (first|refine aq (bD rfl) ?_|refine aq (dC rfl) ?_|refine cY ?_|refine b6 ?_|refine du ?_|refine dc rfl ?_|refine mg rfl rfl ?_|refine kQ ?_|refine fV ?_|refine jk ?_|refine aq (vf rfl rfl rfl rfl) ?_|refine aq (rZ rfl rfl) ?_|refine aq (gm rfl rfl rfl) ?_|refine aq (C3 rfl rfl) ?_|refine aq (q0 rfl rfl J) ?_|refine aq (ib rfl rfl rfl rfl hq J) ?_|refine aq (Og rfl rfl rfl rfl rfl rfl rfl J) ?_|refine aq (Yf rfl rfl rfl (by first|assumption|omega|simp)) ?_|refine aq (w6 rfl rfl rfl rfl rfl rfl) ?_));exact k.out):G:=h ⟨k⟩
theorem yp {G ef:Prop}(k:ef)(h:lx ef→G:=by intro k;(repeat (first|refine cY ?_|refine b6 ?_|refine du ?_|refine fV ?_|refine jk ?_|refine aq (Kb rfl) ?_|refine lL rfl rfl rfl rfl rfl rfl rfl fx ?_|refine mf rfl rfl rfl ?_));exact k.out):G:=h ⟨k⟩
end Go.aj
namespace Go.aj.dh
abbrev B:Nat:=4294967296
def bq:List Int→Nat
 |[]=>0
 |x::r=>x.toNat+B*bq r
def a7 (n:Nat):List Int:=if h:n=0 then [] else ((n%B:Nat):Int)::a7 (n/B)
termination_by n
decreasing_by exact DP (zl h) aT
def cP (l:List Int):Prop:= ∀x∈l,0≤x∧x<4294967296
theorem rP:a7 0=[]:=by rw [a7,dif_pos rfl]
theorem FY {n:Nat}(h:n≠0):a7 n=((n%B:Nat):Int)::a7 (n/B):=by rw [a7,dif_neg h]
theorem hs (n:Nat):bq (a7 n)=n:=by
 induction n using Nat.strongRecOn with
 |_ n a6=>
  by_cases h:n=0
  ·subst h;rw [rP];rfl
  ·rw [FY h,bq,a6 _ (DP (zl h) aT),cn];exact Nat.mod_add_div n B
theorem cP.cons {x:Int}{r:List Int}:cP (x::r)↔(0≤x∧x<4294967296)∧cP r:=by simp [cP]
theorem cP.append {l m:List Int}:cP (l++m)↔cP l∧cP m:=by
 constructor
 ·exact fun h=>⟨fun x al=>h x (s9 _ al),fun x al=>h x (List.mem_append_right _ al)⟩
 ·rintro ⟨U,ab⟩ x al;rcases gM.1 al with h|h
  ·exact U x h
  ·exact ab x h
theorem cP.nil:cP []:=fun x al=>by simp at al
theorem cP.one {x:Int}(h:0≤x∧x<4294967296):cP [x]:=by rw [cP.cons];exact ⟨h,cP.nil⟩
theorem iV (n:Nat):cP (a7 n):=by
 induction n using Nat.strongRecOn with
 |_ n a6=>
  by_cases h:n=0
  ·subst h;rw [rP];exact cP.nil
  ·rw [FY h,cP.cons];refine ⟨?_,a6 _ (DP (zl h) aT)⟩;have:=lz n (show 0<B by decide);unfold B at this⊢;omega
theorem cP.get {l:List Int}(h:cP l){i:Nat}(aa:i<l.length):0≤l.getD i 0∧l.getD i 0<4294967296:=h _ (mI 0 aa)
theorem cP.take {l:List Int}(h:cP l)(k:Nat):cP (l.take k):=fun x al=>h x (pI al)
theorem Ax (l m:List Int):bq (l++m)=bq l+B^l.length*bq m:=by
 induction l with
 |nil=>simp [bq]
 |cons x r a6=>
  rw [oT,bq,bq,a6,gu,hY];rw [gS,jU,hj (B^r.length) B,kF]
theorem jK {l:List Int}(h:cP l):bq l<B^l.length:=by
 induction l with
 |nil=>simp [bq]
 |cons x r a6=>
  rw [cP.cons] at h;have i:=a6 h.2;rw [bq,gu,hY];have al:x.toNat<B:=by unfold B;omega
  have:bq r+1≤B^r.length:=i;calc x.toNat+B*bq r<B+B*bq r:=J
   _=B*(bq r+1):=by rw [gS,rf];omega
   _≤B*B^r.length:=hK _ this
   _=B^r.length*B:=hj _ _
theorem Oo (k:Nat):bq (List.replicate k 0)=0:=by
 induction k with
 |zero=>rfl
 |succ k a6=>rw [List.replicate_succ,bq,a6];rfl
theorem Xx {l:List Int}(h:cP l)(bB:l=[]∨l.getD (l.length-1) 0≠0):a7 (bq l)=l:=by
 induction l with
 |nil=>exact rP
 |cons x r a6=>
  rw [cP.cons] at h;have al:x.toNat<B:=by unfold B;omega
  have agy:((x.toNat:Nat):Int)=x:=J;have ad:r=[]∨r.getD (r.length-1) 0≠0:=by
   cases r with
   |nil=>exact .inl rfl
   |cons y q=>
    right;rcases bB with bB|bB
    ·cases bB
    ·simpa using bB
  have i:=a6 h.2 ad;have ch:bq (x::r)≠0:=by
   rw [bq];cases r with
   |nil=>
    rcases bB with bB|bB
    ·cases bB
    ·simp at bB;simp [bq];omega
   |cons y q=>
    intro aM;have U:bq (y::q)=0:=by
     have:B*bq (y::q)=0:=J;rcases Nat.mul_eq_zero.1 this with h|h
     ·exact absurd h aT
     ·exact h
    rw [U,rP] at i;cases i
  rw [FY ch];have aE:bq (x::r)%B=x.toNat:=by rw [bq,GP,ny al]
  have aF:bq (x::r)/B=bq r:=by rw [bq,Nat.add_mul_div_left _ _ aT,oR al,cR]
  rw [aE,aF,i,agy]
theorem WH {n:Nat}:a7 n=[]∨(a7 n).getD ((a7 n).length-1) 0≠0:=by
 induction n using Nat.strongRecOn with
 |_ n a6=>
  by_cases h:n=0
  ·subst h;exact .inl rP
  ·right;rw [FY h];have bG:=DP (zl h) (show 1<B by decide);rcases a6 (n/B) bG with U|U
   ·rw [U];have:n/B=0:=by have:=hs (n/B);rw [U] at this;exact this.symm
    have aG:n<B:=by
     rcases gA n B with q|q
     ·exact q
     ·have:=Nat.div_pos q (show 0<B by decide);omega
    simp only [gu,k6,cR,pK,Bi];rw [ny aG];omega
   ·cases aA:a7 (n/B) with
    |nil=>rw [aA] at U;simp at U
    |cons y q=>
     rw [aA] at U;simpa using U
theorem apo {l:List Int}(h:cP l){k:Nat}(an:k≤l.length)(aM: ∀i,k≤i→i<l.length→l.getD i 0=0)(bB:k=0∨l.getD (k-1) 0≠0):l.take k=a7 (bq l):=by
 have e:l.drop k=List.replicate (l.length-k) 0:=by
  apply kc
  ·simp
  ·intro i U ab;simp only [v7] at U;have:=aM (k+i) J J;rw [ub 0 J] at this;simpa using this
 have af:bq l=bq (l.take k):=by
  conv=>lhs;rw [←s7 k l]
  rw [Ax,e,Oo,ta,fg]
 rw [af,Xx (h.take k)];rcases bB with bB|bB
 ·subst bB;exact .inl b1
 ·right;rw [fy,hX an];have ru:k≠0:=fun e=>by
   subst e;cases l with
   |nil=>simp at bB
   |cons x r=>exact bB (aM 0 (bN _) b1)
  simp only [List.getD,qs,show k-1<k by omega,gg];exact bB
theorem oy {n k:Nat}(h:n<B^k):(a7 n).length≤k:=by
 rcases WH (n:=n) with U|U
 ·rw [U];exact cj _
 ·rcases gA k (a7 n).length with au|au
  ·exfalso;have af:=hs n;have B2:=Ax ((a7 n).take ((a7 n).length-1)) ((a7 n).drop ((a7 n).length-1));rw [s7,af] at B2;have hd:(a7 n).drop ((a7 n).length-1)=[(a7 n).getD ((a7 n).length-1) 0]:=by rw [tV (a7 n) 0 _ J,Bj J]
   have c9:=(iV n).get (i:=(a7 n).length-1) J;rw [hd] at B2;simp only [bq,ta,fg,fy] at B2;rw [hX J] at B2;have al:1≤((a7 n).getD ((a7 n).length-1) 0).toNat:=J;have aD:B^k≤B^((a7 n).length-1):=fN aT J;have:B^((a7 n).length-1)*1≤B^((a7 n).length-1)*((a7 n).getD ((a7 n).length-1) 0).toNat:=hK _ al;omega
  ·exact au
theorem amt {n k:Nat}(h:B^k≤n):k<(a7 n).length:=by have U:=jK (iV n);rw [hs] at U;exact (Nat.pow_lt_pow_iff_right (show 1<B by decide)).1 (re h U)
theorem ahH {a b:Nat}(h:a7 a=a7 b):a=b:=by rw [←hs a,←hs b,h]
theorem ahI {n:Nat}:a7 n=[]↔n=0:=by
 constructor
 ·intro h;rw [←hs n,h];rfl
 ·rintro rfl;exact rP
theorem NF {l:List Int}(i:Nat)(aa:i<l.length):bq (l.take (i+1))=bq (l.take i)+B^i*(l.getD i 0).toNat:=by rw [rL l 0 i aa,Ax];simp only [bq,ta,fg,fy];rw [hX J]
theorem AD {l:List Int}(x:Int):bq (l++[x])=bq l+B^l.length*x.toNat:=by rw [Ax];simp only [bq,ta,fg]
theorem Wr {a b:List Int}(i:Nat)(aW:cP a)(ak:cP b)(au:a.length=b.length)(aa:i<a.length)(he: ∀j,i<j→j<a.length→a.getD j 0=b.getD j 0)(bG:a.getD i 0<b.getD i 0):bq a<bq b:=by
 have hd:a.drop (i+1)=b.drop (i+1):=by
  apply kc
  ·simp [au]
  ·intro j U ab;simp only [v7] at U ab;have:=he (i+1+j) J J;rw [ub 0 J,ub 0 J] at this;simpa using this
 have l0:bq a=bq (a.take (i+1))+B^(i+1)*bq (a.drop (i+1)):=by
  conv=>lhs;rw [←s7 (i+1) a]
  rw [Ax,fy,hX J]
 have kK:bq b=bq (b.take (i+1))+B^(i+1)*bq (b.drop (i+1)):=by
  conv=>lhs;rw [←s7 (i+1) b]
  rw [Ax,fy,hX J]
 rw [l0,kK,hd,NF i aa,NF i J];have U:=jK (aW.take i);rw [fy,hX J] at U;have aqS:=aW.get aa;have HB:=ak.get (i:=i) J;have ab:B^i*((a.getD i 0).toNat+1)≤B^i*(b.getD i 0).toNat:=hK _ J;rw [gS,rf] at ab;omega
theorem PU {l:List Int}{i:Nat}{x:Int}(aa:i<l.length):bq (l.set i x)+B^i*(l.getD i 0).toNat=bq l+B^i*x.toNat:=by
 induction l generalizing i with
 |nil=>simp at aa
 |cons y r a6=>
  cases i with
  |zero=>simp only [List.set_cons_zero,bq,xK,qt,Bi];omega
  |succ i=>
   have h:=a6 (i:=i) (by simpa using aa);simp only [List.set_cons_succ,bq,List.getD_cons_succ,hY];have aE:B^i*B*(r.getD i 0).toNat=B*(B^i*(r.getD i 0).toNat):=by rw [hj (B^i) B,kF]
   have aF:B^i*B*x.toNat=B*(B^i*x.toNat):=by rw [hj (B^i) B,kF]
   rw [aE,aF];have bO:B*(bq (r.set i x)+B^i*(r.getD i 0).toNat)=B*(bq r+B^i*x.toNat):=by rw [h]
   rw [gS,gS] at bO;omega
theorem cP.set {l:List Int}(h:cP l){i:Nat}{x:Int}(al:0≤x∧x<4294967296):cP (l.set i x):=fun y a1=>by
 rcases xL a1 with U|U
 ·exact h y U
 ·subst U;exact al
theorem cP.za (k:Nat):cP (List.replicate k 0):=fun x al=>by rw [(zm.1 al).2];omega
theorem Oc (c:Nat)(p:Nat):p*(c%B)+p*B*(c/B)=p*c:=by rw [kF,←gS,Nat.mod_add_div]
theorem Ok {out:List Int}{i c t u:Nat}(au:out.length=i)(h:bq out+B^i*t=u){d:Nat}(av:c=t+d):bq (out++[((c%B:Nat):Int)])+B^(i+1)*(c/B)=u+B^i*d:=by
 rw [AD,au,cn,hY];have:=Oc c (B^i);have e:B^i*c=B^i*t+B^i*d:=by rw [av,gS]
 omega
theorem vy (c:Nat):0≤((c%B:Nat):Int)∧((c%B:Nat):Int)<4294967296:=by have:=lz c (show 0<B by decide);unfold B at this⊢;omega
theorem aco {u v dJ V P q:Nat}(nG:0<P)(hu:u<(dJ+1)*P)(af:V*P≤v)(aA:q*v≤u):q*V≤dJ:=by
 have U:q*V*P≤q*v:=by rw [kF];exact hK _ af
 have ab:q*V*P<(dJ+1)*P:=re (dU U aA) hu;have:=Nat.lt_of_mul_lt_mul_right ab;omega
theorem acp {u v dJ V P g:Nat}(nG:0<P)(hu:dJ*P≤u)(af:v≤(V+1)*P)(c9:g*V≤dJ)(HA:g≤V+1)(U:1≤g):(g-1)*v≤u:=by
 have a:(g-1)*v≤(g-1)*((V+1)*P):=hK _ af;have b:(g-1)*((V+1)*P)=(g-1)*(V+1)*P:=by rw [kF]
 have c:(g-1)*(V+1)≤g*V:=by
  obtain ⟨k,rfl⟩: ∃k,g=k+1:=⟨g-1,J⟩
  simp only [Nat.add_sub_cancel];rw [gS,eF];omega
 have d:(g-1)*(V+1)*P≤dJ*P:=fp _ (dU c c9);omega
theorem mF (l:List Int)(i:Nat):bq (l.take (i+1))=bq (l.take i)+B^i*(l.getD i 0).toNat:=by
 rcases gA i l.length with h|h
 ·exact NF i h
 ·rw [kd h,kd J];have:l.getD i 0=0:=by simp [List.getD,kD h]
  rw [this];simp
theorem cP.get' {l:List Int}(h:cP l)(i:Nat):0≤l.getD i 0∧l.getD i 0<4294967296:=by
 rcases gA i l.length with aa|aa
 ·exact h.get aa
 ·have:l.getD i 0=0:=by simp [List.getD,kD aa]
  omega
theorem cP.nat {l:List Int}(h:cP l)(i:Nat): ∃d:Nat,l.getD i 0=(d:Int)∧d<4294967296:=by have:=h.get' i;exact ⟨(l.getD i 0).toNat,J,J⟩
theorem apX (l:List Int)(i:Nat):bq l=bq (l.take i)+B^(min i l.length)*bq (l.drop i):=by
 conv=>lhs;rw [←s7 i l]
 rw [Ax,fy]
theorem alP (l:List Int)(i:Nat):bq (l.drop i)=(l.getD i 0).toNat+B*bq (l.drop (i+1)):=by
 rcases gA i l.length with h|h
 ·rw [tV l 0 i h,bq]
 ·rw [Bj h,Bj J];have:l.getD i 0=0:=by simp [List.getD,kD h]
  rw [this];simp [bq]
theorem alE {l:List Int}(h:cP l){k:Nat}(af:bq l<B^k):bq (l.take k)=bq l:=by
 rcases gA k l.length with au|au
 ·have e:=apX l k;rw [hX J] at e;have:bq (l.drop k)=0:=by
   rcases nz (bq (l.drop k)) with aM|aM
   ·exact aM
   ·exfalso;have:B^k*1≤B^k*bq (l.drop k):=hK _ aM;omega
  rw [this] at e;omega
 ·rw [kd au]
theorem apa {l:List Int}{k i:Nat}(h:i<k):(l.take k).getD i 0=l.getD i 0:=by simp only [List.getD,qs,h,gg]
theorem apQ {l:List Int}(au:cP l):l.take (a7 (bq l)).length=a7 (bq l):=by
 have h:=oy (jK au);have lE:=jK (iV (bq l));rw [hs] at lE;have af:=alE au lE;obtain ⟨n,aG⟩: ∃n,(a7 (bq l)).length=n:=⟨_,rfl⟩
 rw [aG] at h lE af⊢;rcases nz n with q|q
 ·subst q;rw [List.take_zero,v8.1 aG]
 ·have e:=Xx (au.take n) (.inr (fun ld=> ?_))
  ·rw [af] at e;exact e.symm
  ·rw [fy,hX h,apa J] at ld;have x5:=mF l (n-1);rw [show n-1+1=n by omega,af,ld] at x5;have bI:=jK (au.take (n-1));rw [fy,hX J] at bI;have db:bq l<B^(n-1):=by rw [x5];simpa using bI
   have:=oy db;omega
theorem X6 (n i:Nat):(List.replicate n (0:Int)).getD i 0=0:=by simp only [List.getD,pJ];split<;>rfl
theorem G3 (i:Nat):0<B^i:=lX aT
theorem Xo {out x y:List Int}{i dB d e:Nat}(au:out.length=i)(h:bq out+B^i*dB=bq (x.take i)+bq (y.take i))(hd:x.getD i 0=(d:Int))(he:y.getD i 0=(e:Int)):
 bq (out++[(((dB+d+e)%4294967296:Nat):Int)])+B^(i+1)*((dB+d+e)/4294967296)=bq (x.take (i+1))+bq (y.take (i+1)):=by have:=Ok au h (c:=dB+d+e) (d:=d+e) J;rw [mF,mF,hd,he,cn,cn];rw [gS] at this;unfold B at*;omega
theorem aoQ {out x y:List Int}{i iO d e yv tm:Nat}(au:out.length=i)(h:bq out+bq (y.take i)=bq (x.take i)+B^i*iO)(hd:x.getD i 0=(d:Int))(he:y.getD i 0=(e:Int))(a1:yv+iO+e=d+4294967296*tm):
 bq (out++[(yv:Int)])+bq (y.take (i+1))=bq (x.take (i+1))+B^(i+1)*tm:=by
 rw [mF,mF,hd,he,cn,cn,AD,au,cn,hY,kF];have ay:B^i*yv+B^i*iO+B^i*e=B^i*d+B^i*(B*tm):=by rw [←gS,←gS,←gS];exact congrArg _ a1
 omega
theorem ahG {out:List Int}{p dB a b o u:Nat}(aD:p<out.length)(h:bq out+B^p*dB=u)(ai:out.getD p 0=(o:Int)):
 bq (out.set p (((dB+(a*b+o))%4294967296:Nat):Int))+B^(p+1)*((dB+(a*b+o))/4294967296)=u+B^p*(a*b):=by
 have U:=PU (x:=(((dB+(a*b+o))%4294967296:Nat):Int)) aD;rw [ai,cn,cn] at U;have ab:=Oc (dB+(a*b+o)) (B^p);rw [hY];have e:B^p*(dB+(a*b+o))=B^p*dB+(B^p*(a*b)+B^p*o):=by rw [gS,gS]
 rw [e] at ab;unfold B at*;omega
theorem Fo {l:List Int}{i j:Nat}{x:Int}(h:i≠j):(l.set i x).getD j 0=l.getD j 0:=by simp only [List.getD,lW h]
theorem aml {l:List Int}{i:Nat}{x:Int}(h:i<l.length):(l.set i x).drop i=x::l.drop (i+1):=by
 have ab:i<(l.set i x).length:=by simpa using h
 rw [tV (l.set i x) 0 i ab];congr 1
 ·simp [List.getD,h]
 ·rw [List.drop_set_of_lt J]
theorem TJ:(2:Nat)^32=4294967296:=aT
theorem Dl {a:Nat}(h:a<4294967296):a*2^32<18446744073709551616:=by have e:a*2^32=a*4294967296:=congrArg (a* ·) TJ;rw [e];omega
theorem Qu {a b:Nat}(h:b<4294967296):a*2^32|||b=a*4294967296+b:=by have:=Nat.two_pow_add_eq_or_of_lt (i:=32) (b:=b) (by simpa using h) a;rw [hj (2^32) a] at this;rw [←this]
def j7 (x y:Int):Int:=if x<y then-1 else if y<x then 1 else 0
theorem Gc {x y:Int}(h:x<y):j7 x y= -1:=aB h
theorem Gb {x y:Int}(h:y<x):j7 x y=1:=by unfold j7;rw [aw J,aB h]
theorem YU {x y:Int}(h:x=y):j7 x y=0:=by unfold j7;rw [aw J,aw J]
theorem abf (a b:Nat)(h:(a7 a).length≠(a7 b).length):j7 a b=j7 (a7 a).length (a7 b).length:=by
 have key: ∀u v:Nat,(a7 u).length<(a7 v).length→u<v:=by
  intro u v arn;rcases gA u v with q|q
  ·exact q
  ·exfalso;have U:=jK (iV u);rw [hs] at U;have ab:v<B^(a7 u).length:=re q U;have:=oy ab;omega
 rcases gA (a7 a).length (a7 b).length with q|q
 ·rw [Gc (wa.2 q),Gc (wa.2 (key a b q))]
 ·have TS:(a7 b).length<(a7 a).length:=J;rw [Gb (wa.2 TS),Gb (wa.2 (key b a TS))]
theorem abg {a b:Nat}(aW:cP (a7 a))(ak:cP (a7 b))(au:(a7 a).length=(a7 b).length){i:Nat}(aa:i<(a7 a).length)(he: ∀j,i<j→j<(a7 a).length→(a7 a).getD j 0=(a7 b).getD j 0)(ch:(a7 a).getD i 0≠(a7 b).getD i 0):
 j7 a b=j7 ((a7 a).getD i 0) ((a7 b).getD i 0):=by
 rcases zn ((a7 a).getD i 0) ((a7 b).getD i 0) with q|q|q
 ·have:=Wr i aW ak au aa he q;rw [hs,hs] at this;rw [Gc q,Gc (wa.2 this)]
 ·exact absurd q ch
 ·have:=Wr i ak aW au.symm J (fun j U ab=>(he j U J).symm) q;rw [hs,hs] at this;rw [Gb q,Gb (wa.2 this)]
theorem abh {a b:Nat}(au:(a7 a).length=(a7 b).length)(he: ∀j,j<(a7 a).length→(a7 a).getD j 0=(a7 b).getD j 0):j7 a b=0:=by
 have:a7 a=a7 b:=by apply kc au;intro i U ab;have:=he i U;rw [ub 0 U,ub 0 ab] at this;exact this
 rw [YU (by rw [ahH this])]
theorem adg {B top v1 v2 u2 g:Nat}(Ad:0<v1)(ab:u2<B)(c9:g*(v1*B+v2)≤top*B+u2):g≤top/v1:=by
 rw [Nat.le_div_iff_mul_le Ad];have:g*v1*B≤top*B+u2:=by refine dU ?_ c9;rw [gS,kF];exact oU _ _
 have:g*v1*B<(top+1)*B:=by rw [eF];omega
 have:=Nat.lt_of_mul_lt_mul_right this;omega
theorem anK {B top v1 v2 u2 g rest:Nat}(ad:rest+g*v1=top)(c9:g<B)(ab:v2<B):(rest<B∧rest*B+u2<g*v2)↔top*B+u2<g*(v1*B+v2):=by
 have e:g*(v1*B+v2)=g*v1*B+g*v2:=by rw [gS,kF]
 have aF:top*B=rest*B+g*v1*B:=by rw [←ad,eF]
 rw [e,aF];constructor
 ·rintro ⟨_,h⟩;omega
 ·intro h;refine ⟨?_,J⟩;rcases gA rest B with q|q
  ·exact q
  ·exfalso;have ay:B*B≤rest*B:=fp _ q;have bc:g*v2≤B*B:=jW J J;omega
theorem akC {P w g Uu ox c b t y:Nat}(h:w+g*Uu=ox+P*(c+b)){ui:Nat}(b':Nat)(al:(y:Int)=(ui:Int)-((c+t)%B:Nat)-b+B*b'):
 w+P*y+(g*Uu+P*t)=ox+P*ui+P*B*((c+t)/B+b'):=by
 have e:P*((c+t)%B)+P*B*((c+t)/B)=P*(c+t):=Oc (c+t) P;have U:(y:Int)+((c+t)%B:Nat)+b=ui+B*b':=J;have ab:y+(c+t)%B+b=ui+B*b':=J;have ay:P*y+P*((c+t)%B)+P*b=P*ui+P*(B*b'):=by rw [←gS,←gS,ab,gS]
 rw [gS (P*B),kF P B b'];rw [gS] at e h;omega
theorem anC {u v g w:Nat}{n b:Nat}(hw:w<B^n)(af:v<B^n)(hu:u<B^n)(ak:b≤1)(h:w+g*v=u+B^n*b)(U:u/v≤g)(ab:g≤u/v+1)(nd:0<v):
 (b=0→g=u/v∧w=u%v)∧(b=1→g=u/v+1∧(w+v)=u%v+B^n):=by
 have hd:=zo u v;have hm:=lz u nd;have av:v*(u/v)=(u/v)*v:=hj _ _;constructor
 ·intro aM;subst aM;rw [ta,fg] at h;have pX:g≤u/v:=by rw [Nat.le_div_iff_mul_le nd];omega
  have:g=u/v:=J;subst this;exact ⟨I,J⟩
 ·intro aM;subst aM;rw [rf] at h;have c9:g=u/v+1:=by
   rcases gA g (u/v+1) with q|q
   ·exfalso;have:g=u/v:=J;subst this;omega
   ·omega
  subst c9;rw [eF,qt] at h;exact ⟨I,J⟩
end Go.aj.dh
namespace Go.aj.sb
def im (b:UInt8):List UInt8→List UInt8×List UInt8×Bool
 |[]=>([],[],false)
 |c::r=>if c=b then ([],r,true) else (c::(im b r).1,(im b r).2.1,(im b r).2.2)
theorem Y2 {b:UInt8}{s:List UInt8}(h:b∉s):im b s=(s,[],false):=by
 induction s with
 |nil=>rfl
 |cons c r a6=>
  simp only [gb,not_or] at h;rw [im,aw (fun e=>h.1 e.symm),a6 h.2]
theorem Y1 {b:UInt8}{l r:List UInt8}(h:b∉l):im b (l++b::r)=(l,r,true):=by
 induction l with
 |nil=>rw [List.nil_append,im,aB rfl]
 |cons c q a6=>
  simp only [gb,not_or] at h;rw [oT,im,aw (fun e=>h.1 e.symm),a6 h.2]
theorem XN (b:UInt8)(s:List UInt8):(im b s).1.length+(im b s).2.1.length+(if (im b s).2.2 then 1 else 0)=s.length:=by
 induction s with
 |nil=>rfl
 |cons c r a6=>
  rw [im];split
  ·simp
  ·simp only [gu];omega
theorem Pg (b:UInt8)(s:List UInt8):im b s=if 0≤Lib.indexByte s b then (s.take (Lib.indexByte s b).toNat,s.drop ((Lib.indexByte s b).toNat+1),true) else (s,[],false):=by
 induction s with
 |nil=>rfl
 |cons c r a6=>
  rw [im,Lib.indexByte];by_cases av:c=b
  ·subst av;simp
  ·have ak:(c==b)=false:=by simpa using av
   simp only [ak,sd,hA,av];rw [a6];have pX:=Lib.indexByte_ge r b;by_cases U:Lib.indexByte r b= -1
   ·simp [U]
   ·have ab:(Lib.indexByte r b== -1)=false:=by simpa using U
    simp only [ab,sd,hA];rw [aB J,aB J];have e:(Lib.indexByte r b+1).toNat=(Lib.indexByte r b).toNat+1:=J;rw [e];rfl
def jP (c:UInt8):Prop:=48≤c.toNat∧c.toNat≤57
theorem yL {d:Nat}(h:d<10):jP (UInt8.ofNat (48+d))∧(UInt8.ofNat (48+d)).toNat=48+d:=by
 have e:(UInt8.ofNat (48+d)).toNat=48+d:=by simp;omega
 exact ⟨⟨J,J⟩,e⟩
theorem yC (u:Nat): ∀c∈Lib.decDigits u,jP c:=by
 induction u using Nat.strongRecOn with
 |_ u a6=>
  intro c av;rw [Lib.decDigits] at av;split at av
  ·rename_i h;simp only [hk] at av;subst av;exact (yL h).1
  ·rw [gM] at av;rcases av with av|av
   ·exact a6 _ J c av
   ·simp only [hk] at av;subst av;exact (yL (lz _ aT)).1
theorem vm (u:Nat):Lib.decDigits u≠[]:=by rw [Lib.decDigits];split<;>simp
theorem agR (u:Nat):Lib.itoa (u:Int)=Lib.decDigits u:=by unfold Lib.itoa;rw [aw J];simp
def same (v:Int):List Int→Nat
 |[]=>0
 |x::r=>if x=v then same v r+1 else 0
theorem abH {c:UInt8}(h:jP c)(b:UInt8)(ak:b.toNat<48∨57<b.toNat):b≠c:=fun e=>by subst e;unfold jP at h;omega
theorem IZ (u:Nat)(b:UInt8)(ak:b.toNat<48∨57<b.toNat):b∉Lib.decDigits u:=fun h=>abH (yC u b h) b ak rfl
end Go.aj.sb
namespace Go.aj.dh
open Go.aj.sb (jP yL yC vm)
def Rq (a:Nat)(c:UInt8):Nat:=a*10+(c.toNat-48)
def ep (acc:Nat)(l:List UInt8):Nat:=l.foldl Rq acc
theorem CX (acc:Nat):ep acc []=acc:=rfl
theorem yG (acc:Nat)(c:UInt8)(r:List UInt8):ep acc (c::r)=ep (acc*10+(c.toNat-48)) r:=by unfold ep;rw [List.foldl_cons,Rq]
theorem NW (l m:List UInt8)(acc:Nat):ep acc (l++m)=ep (ep acc l) m:=by unfold ep;rw [List.foldl_append]
theorem FQ (l:List UInt8)(acc:Nat):ep acc l=acc*10^l.length+ep 0 l:=by
 induction l generalizing acc with
 |nil=>rw [CX,CX];simp
 |cons c r a6=>
  rw [yG,yG,a6,a6 (0*10+_),gu,hY];generalize c.toNat-48=d;generalize 10^r.length=e;generalize ep 0 r=v;rw [eF,ux,cR,kF,hj 10 e];omega
theorem Wz (l:List UInt8)(c:UInt8)(acc:Nat):ep acc (l++[c])=ep acc l*10+(c.toNat-48):=by rw [NW,yG,CX]
theorem tT (u:Nat):ep 0 (Lib.decDigits u)=u:=by
 induction u using Nat.strongRecOn with
 |_ u a6=>
  rw [Lib.decDigits];split
  ·rename_i h;have:=(yL h).2;rw [yG,CX,this];omega
  ·have:=(yL (lz u (show 0<10 by decide))).2;rw [Wz,a6 _ J,this];omega
theorem Ki {l:List UInt8}(h: ∀c∈l,jP c):ep 0 l<10^l.length:=by
 induction l with
 |nil=>rw [CX];simp
 |cons c r a6=>
  have av:=h c b1;have i:=a6 (fun x al=>h x (by simp [al]));unfold jP at av;rw [yG,FQ,gu,hY];have:(c.toNat-48)*10^r.length≤9*10^r.length:=fp _ J;rw [ux,cR];generalize 10^r.length=e at*;generalize (c.toNat-48)*e=q at*;omega
theorem Y3 {c:UInt8}{r:List UInt8}(h:jP c)(aM:c≠48):10^r.length≤ep 0 (c::r):=by unfold jP at h;have av:c.toNat≠48:=fun e=>aM (UInt8.toNat_inj.1 e);rw [yG,FQ];have:1*10^r.length≤(0*10+(c.toNat-48))*10^r.length:=fp _ J;generalize (0*10+(c.toNat-48))*10^r.length=q at*;omega
theorem akh {α:Type}{p:List α→Prop}(aM:p [])(U: ∀l x,p l→p (l++[x])): ∀l,p l:=by
 intro l;have key: ∀(n:Nat) (l:List α),l.length=n→p l:=by
  intro n;induction n with
  |zero=>intro l au;rw [v8.1 au];exact aM
  |succ n a6=>
   intro l au;have ch:l≠[]:=by intro e;subst e;simp at au
   rw [←List.dropLast_concat_getLast ch];exact U _ _ (a6 _ (by simp [au]))
 exact key _ l I
def vH (s:List UInt8):Prop:=s≠[]∧(∀c∈s,jP c)∧(s.getD 0 0≠48∨s.length=1)
theorem IT (u:Nat):vH (Lib.decDigits u):=by
 refine ⟨vm u,yC u,?_⟩;induction u using Nat.strongRecOn with
 |_ u a6=>
  rw [Lib.decDigits];split
  ·exact .inr I
  ·left;rename_i h;have ch:=vm (u/10);rcases a6 (u/10) J with U|U
   ·cases aA:Lib.decDigits (u/10) with
    |nil=>exact absurd aA ch
    |cons c r=>rw [aA] at U;simpa using U
   ·have bG:u/10<10:=by have au:=Lib.decDigits_length (u/10);rw [U] at au;have:=Lib.lt_pow_nDigits (u/10);rw [←au] at this;simpa using this
    rw [Lib.decDigits_one bG];simp only [oT,Bi];intro e;have:=congrArg UInt8.toNat e;rw [(yL bG).2] at this;have:(48:UInt8).toNat=48:=rfl;omega
theorem CW {s:List UInt8}(h:vH s):Lib.decDigits (ep 0 s)=s:=by
 obtain ⟨U,ab,ay⟩:=h
 revert U ab ay
 refine akh (p:=fun s=>s≠[]→(∀c∈s,jP c)→(s.getD 0 0≠48∨s.length=1)→Lib.decDigits (ep 0 s)=s) ?_ ?_ s
 ·intro h;exact absurd rfl h
 ·intro l c a6 _ hd ay;have av:=hd c b1;have Sh:UInt8.ofNat (48+(c.toNat-48))=c:=by unfold jP at av;rw [show 48+(c.toNat-48)=c.toNat by omega];simp
  rw [Wz];cases l with
  |nil=>
   rw [CX,List.nil_append,ux,cR];rw [Lib.decDigits,dif_pos (by unfold jP at av;omega),Sh]
  |cons x r=>
   have al:x≠48:=by
    rcases ay with ay|ay
    ·simpa using ay
    ·simp at ay
   have agx:=hd x b1;have pX:=Y3 (r:=r) agx al;have e3:1≤10^r.length:=Nat.one_le_pow _ _ aT;have i:=a6 b1 (fun c av=>hd c (by simp at av⊢;rcases av with rfl|av;exact .inl rfl;exact .inr (.inl av))) (.inl (by simpa using al));generalize ep 0 (x::r)=v at*;unfold jP at av;rw [Lib.decDigits,dif_neg J];rw [show (v*10+(c.toNat-48))/10=v by omega,show (v*10+(c.toNat-48))%10=c.toNat-48 by omega,i,Sh]
theorem NI {a b:Nat}(h:Lib.decDigits a=Lib.decDigits b):a=b:=by rw [←tT a,←tT b,h]
theorem Fj {n k:Nat}(an:1≤k)(h:n<10^k):(Lib.decDigits n).length≤k:=by
 have au:=Lib.decDigits_length n;rcases gA k (Lib.decDigits n).length with bG|pX
 ·exfalso;have av:=IT n;have af:=tT n;cases aA:Lib.decDigits n with
  |nil=>exact vm n aA
  |cons c r=>
   rw [aA] at av af bG;simp only [gu] at bG;have ch:c≠48:=by
    rcases av.2.2 with h|h
    ·simpa using h
    ·simp at h;subst h;simp at bG;omega
   have:=Y3 (r:=r) (av.2.1 c b1) ch;rw [af] at this;have:10^k≤10^r.length:=fN aT J;omega
 ·exact pX
theorem CM (n:Nat):n<10^(Lib.decDigits n).length:=by
 have:=Ki (yC n)
 rwa [tT] at this
def pad (k m:Nat):List UInt8:=List.replicate (k-(Lib.decDigits m).length) 48++Lib.decDigits m
theorem anA (k:Nat)(l:List UInt8):ep 0 (List.replicate k 48++l)=ep 0 l:=by
 induction k with
 |zero=>rfl
 |succ k a6=>rw [List.replicate_succ,oT,yG];exact a6
theorem aiv {k m:Nat}(an:1≤k)(h:m<10^k):(pad k m).length=k:=by have:=Fj an h;unfold pad;simp;omega
theorem aps (k m:Nat): ∀c∈pad k m,jP c:=by
 intro c av;unfold pad at av;rcases gM.1 av with h|h
 ·rw [(zm.1 h).2];exact ⟨aT,aT⟩
 ·exact yC m c h
theorem amk {n k:Nat}(an:1≤k)(h:10^k≤n):Lib.decDigits n=Lib.decDigits (n/10^k)++pad k (n%10^k):=by
 have aD:0<10^k:=lX aT;have hm:=lz n aD;have hd:n/10^k≠0:=by have:=Nat.div_pos h aD;omega
 have av:=IT (n/10^k);have aeu:vH (Lib.decDigits (n/10^k)++pad k (n%10^k)):=by
  refine ⟨by simp [av.1],fun c pV=> ?_,.inl ?_⟩
  ·rcases gM.1 pV with h|h
   ·exact av.2.1 c h
   ·exact aps _ _ c h
  ·cases aA:Lib.decDigits (n/10^k) with
   |nil=>exact absurd aA av.1
   |cons c r=>
    rw [aA] at av;simp only [oT,Bi];rcases av.2.2 with h|h
    ·simpa using h
    ·simp only [gu,Nat.add_eq_right,v8] at h;subst h;intro e;subst e;have:=tT (n/10^k);rw [aA] at this;exact hd (this.symm.trans aT)
 have af:ep 0 (Lib.decDigits (n/10^k)++pad k (n%10^k))=n:=by
  rw [NW,tT,FQ,aiv an hm];have:ep 0 (pad k (n%10^k))=n%10^k:=by unfold pad;rw [anA,tT]
  rw [this,hj];exact zo n _
 have:=CW aeu;rw [af] at this;exact this
end Go.aj.dh
namespace Go.aj
open Go.aj.dh
variable [bx]
def nw (l:List Int):ao:= .ro (.ints .u32 l) 0 l.length
def bA (n:Nat):ao:= .ro (.ints .u32 (a7 n)) 0 (a7 n).length
theorem aU.ahs {l:List Int}{k n:Nat}(h:l.take k=a7 n)(an:k≤l.length):aU (.ro (.ints .u32 l) 0 k) (bA n):=by
 have au:(a7 n).length=k:=by rw [←h,fy,hX an]
 refine aU.trans aU.take ?_;rw [h];unfold bA;rw [au];exact aU.yo
theorem aU.Nb:aU .nil (bA 0):=by
 have:bA 0= .ro (.ints .u32 []) 0 0:=by unfold bA;rw [rP];rfl
 rw [this];exact aU.nil
theorem As {n:Nat}:0<(a7 n).length↔n≠0:=by
 have bY:= ‹bx›;constructor
 ·rintro h rfl;rw [rP] at h;simp at h
 ·intro h;rcases nz (a7 n).length with q|q
  ·exact absurd (ahI.1 (v8.1 q)) h
  ·exact q
end Go.aj
namespace Go.aj.dh
def fZ:Nat→Nat→List Int
 |0,_=>[]
 |k+1,v=>((v%4294967296:Nat):Int)::fZ k (v/4294967296)
theorem qX: ∀(k v:Nat),(fZ k v).length=k
 |0,_=>rfl
 |k+1,v=>by rw [fZ,gu,qX]
theorem C0: ∀(k v:Nat),cP (fZ k v)
 |0,_=>cP.nil
 |k+1,v=>by rw [fZ,cP.cons];exact ⟨vy v,C0 k _⟩
theorem J6: ∀(k v:Nat),v<B^k→bq (fZ k v)=v
 |0,v,h=>by simp at h;subst h;rfl
 |k+1,v,h=>by
  rw [fZ,bq,cn,J6 k]
  ·unfold B;omega
  ·rw [hY,hj] at h;exact xM h
theorem De: ∀{l:List Int} {k v:Nat},cP l→l.length=k→bq l=v→l=fZ k v
 |[],k,v,_,an,_=>by simp at an;subst an;rfl
 |x::r,k,v,h,an,af=>by
  rw [cP.cons] at h;obtain ⟨m,rfl⟩: ∃m,k=m+1:=⟨r.length,by simpa using an.symm⟩
  rw [bq] at af;subst af;have al:x.toNat<4294967296:=J;rw [fZ,GP,ny al,Nat.add_mul_div_left _ _ aT,oR al,cR];rw [←De h.2 (by simpa using an) rfl];congr 1;omega
theorem FV {A dJ C:List Int}{j i:Nat}(ae:A.length=j)(h:i<dJ.length):(A++(dJ++C)).getD (j+i) 0=dJ.getD i 0:=by subst ae;simp only [List.getD];rw [jV J,xF,ic h]
theorem Zz {A dJ C:List Int}{j i:Nat}{x:Int}(ae:A.length=j)(h:i<dJ.length):(A++(dJ++C)).set (j+i) x=A++(dJ.set i x++C):=by subst ae;rw [Bl _ _ J,xF,List.set_append_left _ _ h]
theorem ND {l:List Int}{i:Nat}{x:Int}(h:i<l.length):(l.set i x).take (i+1)=l.take i++[x]:=by
 have ab:i<(l.set i x).length:=by simpa using h
 rw [rL (l.set i x) 0 i ab];congr 1
 ·rw [List.take_set_of_le (bN _)]
 ·simp [List.getD,h]
theorem akR {dJ:List Int}{s ox h6 u2:Nat}(az:2≤s)(au:dJ.length=s+1)(h:cP dJ)(aM:dJ.getD s 0=(ox:Int))(U:dJ.getD (s-1) 0=(h6:Int))(ab:dJ.getD (s-2) 0=(u2:Int)):
 ∃low,low<B^(s-2)∧bq dJ=low+((ox*4294967296+h6)*4294967296+u2)*B^(s-2):=by
 refine ⟨bq (dJ.take (s-2)),?_,?_⟩
 ·have:=jK (h.take (s-2))
  rwa [fy,hX J] at this
 ·have e:bq dJ=bq (dJ.take (s-2+1+1+1)):=by rw [kd J]
  rw [e,mF,mF,mF,show s-2+1+1=s by omega,show s-2+1=s-1 by omega,aM,U,ab];simp only [cn];have c4:B^(s-1)=B^(s-2)*4294967296:=by rw [show s-1=s-2+1 by omega,hY]
  have kn:B^s=B^(s-2)*4294967296*4294967296:=by rw [show s=s-2+1+1 by omega,hY,hY];rfl
  rw [c4,kn];generalize B^(s-2)=p;rw [eF,eF,eF];rw [show p*4294967296*4294967296*ox=ox*4294967296*4294967296*p by ac_rfl,show p*4294967296*h6=h6*4294967296*p by ac_rfl,hj p u2];omega
theorem akQ {V:List Int}{s v1 v2:Nat}(az:2≤s)(au:V.length=s)(h:cP V)(U:V.getD (s-1) 0=(v1:Int))(ab:V.getD (s-2) 0=(v2:Int)):
 ∃low,low<B^(s-2)∧bq V=low+(v1*4294967296+v2)*B^(s-2):=by
 refine ⟨bq (V.take (s-2)),?_,?_⟩
 ·have:=jK (h.take (s-2))
  rwa [fy,hX J] at this
 ·have e:bq V=bq (V.take (s-2+1+1)):=by rw [kd J]
  rw [e,mF,mF,show s-2+1=s-1 by omega,U,ab];simp only [cn];have c4:B^(s-1)=B^(s-2)*4294967296:=by rw [show s-1=s-2+1 by omega,hY]
  rw [c4];generalize B^(s-2)=p;rw [eF,show p*4294967296*v1=v1*4294967296*p by ac_rfl,hj p v2];omega
theorem acn {u v K9 zi P g M6 M7:Nat}(nG:0<P)(SC:M6<P)(Ru:u=M6+K9*P)(HN:M7<P)(bH:v=M7+zi*P)(R1:4294967296≤zi)(bG:u<4294967296*v)(c9:g≤4294967295)(HA:g*zi≤K9)(x8: ∀mV,mV≤4294967295→mV*zi≤K9→mV≤g):u/v≤g∧g≤u/v+1:=by
 have nd:0<v:=by have:1*P≤zi*P:=fp _ J;omega
 have aA:u/v≤4294967295:=by have:=xM (n:=v) (k:=4294967296) (m:=u) (by rw [hj];exact bG);omega
 constructor
 ·refine x8 _ aA (aco (u:=u) (v:=v) nG ?_ ?_ (Nat.div_mul_le_self u v))
  ·rw [eF];omega
  ·omega
 ·rcases nz g with q|q
  ·rw [q];exact cj _
  ·have:=acp (u:=u) (v:=v) (P:=P) nG J (by rw [eF];omega) HA J q;have ay:g-1≤u/v:=by rw [Nat.le_div_iff_mul_le nd];exact this
   omega
theorem Lq {dJ V:List Int}{s ox h6 u2 v1 v2 g:Nat}(az:2≤s)(au:dJ.length=s+1)(HN:V.length=s)(h:cP dJ)(af:cP V)(aM:dJ.getD s 0=(ox:Int))(U:dJ.getD (s-1) 0=(h6:Int))(ab:dJ.getD (s-2) 0=(u2:Int))(et:V.getD (s-1) 0=(v1:Int))(eS:V.getD (s-2) 0=(v2:Int))(MJ:2147483648≤v1)(bG:bq dJ<4294967296*bq V)(c9:g≤4294967295)(HA:g*(v1*4294967296+v2)≤(ox*4294967296+h6)*4294967296+u2)(x8: ∀mV,mV≤4294967295→mV*(v1*4294967296+v2)≤(ox*4294967296+h6)*4294967296+u2→mV≤g):bq dJ/bq V≤g∧g≤bq dJ/bq V+1:=by obtain ⟨M6,SC,Ru⟩:=akR az au h aM U ab;obtain ⟨M7,afr,bH⟩:=akQ az HN af et eS;exact acn (G3 _) SC Ru afr bH J bG c9 HA x8
theorem aaj (m:Nat):m &&& 4294967295=m%4294967296:=by have:=Nat.and_two_pow_sub_one_eq_mod m 32;have e:2^32-1=4294967295:=aT;rw [e,TJ] at this;exact this
theorem anD {mq dJ V:List Int}{i g dB iO ui iE yv b':Nat}(aa:i<mq.length)(h:bq (mq.take i)+g*bq (V.take i)=bq (dJ.take i)+B^i*(dB+iO))(hu:dJ.getD i 0=(ui:Int))(af:V.getD i 0=(iE:Int))(a1:yv+((dB+g*iE)%4294967296+iO)=ui+4294967296*b'):
 bq ((mq.set i (yv:Int)).take (i+1))+g*bq (V.take (i+1))=bq (dJ.take (i+1))+B^(i+1)*((dB+g*iE)/4294967296+b'):=by rw [ND aa,AD,fy,hX J,mF,mF,hu,af,cn,cn,cn,hY];have:=akC (P:=B^i) h b' (t:=g*iE) (y:=yv) (ui:=ui) (by unfold B;omega);rw [gS,Nat.mul_left_comm g (B^i) iE];exact this
theorem aoE {a iO e:Nat}(aW:a<4294967296)(he:e<4294967296)(ak:iO≤1): ∃yv b':Nat,yv+(e+iO)=a+4294967296*b'∧b'≤1∧yv<4294967296∧((a:Int)-e-iO<0→b'=1∧(yv:Int)=a-e-iO+4294967296)∧(¬(a:Int)-e-iO<0→b'=0∧(yv:Int)=a-e-iO):=by
 rcases gA a (e+iO) with q|q
 ·exact ⟨a+4294967296-(e+iO),1,J,J,J,fun h=>⟨I,J⟩,fun h=>by omega⟩
 ·exact ⟨a-(e+iO),0,J,J,J,fun h=>by omega,fun h=>⟨I,J⟩⟩
theorem aoA {mq dJ V:List Int}{i sm ui iE:Nat}(aa:i<mq.length)(h:bq (mq.take i)+B^i*sm=bq (dJ.take i)+bq (V.take i))(hu:dJ.getD i 0=(ui:Int))(af:V.getD i 0=(iE:Int)):
 bq ((mq.set i (((sm+ui+iE)%4294967296:Nat):Int)).take (i+1))+B^(i+1)*((sm+ui+iE)/4294967296)=bq (dJ.take (i+1))+bq (V.take (i+1)):=by rw [ND aa];exact Xo (by simp;omega) h hu af
theorem CZ: ∀(a b v:Nat),fZ (a+b) v=fZ a v++fZ b (v/B^a)
 |0,b,v=>by simp [fZ]
 |a+1,b,v=>by rw [show a+1+b=a+b+1 by omega,fZ,fZ,CZ a b,oT,hY,hj (B^a),←Nat.div_div_eq_div_mul]
theorem NM: ∀(k v:Nat),bq (fZ k v)=v%B^k
 |0,v=>by simp [fZ,bq,Nat.mod_one]
 |k+1,v=>by rw [fZ,bq,cn,NM k,hY,hj (B^k),Nat.mod_mul]
theorem anH {k v w:Nat}(h:v%B^k=w%B^k):fZ k v=fZ k w:=by have U:=De (C0 k v) (qX k v) (NM k v);have ab:=De (C0 k w) (qX k w) (NM k w);rw [U,ab,h]
theorem FK {v s:Nat}(az:1≤s)(h:(a7 v).length=s): ∃t low:Nat,(a7 v).getD (s-1) 0=(t:Int)∧t<4294967296∧0<t∧v=low+B^(s-1)*t∧low<B^(s-1):=by
 obtain ⟨t,bu,ak⟩:=(iV v).nat (s-1);refine ⟨t,bq ((a7 v).take (s-1)),bu,ak,?_,?_,?_⟩
 ·rcases WH (n:=v) with q|q
  ·rw [q] at h;simp at h;omega
  ·rw [h,bu] at q;omega
 ·have:=mF (a7 v) (s-1);rw [show s-1+1=(a7 v).length by omega,fO,hs,bu,cn] at this;exact this
 ·have:=jK ((iV v).take (s-1))
  rwa [fy,hX J] at this
theorem aaL {s:Nat}(az:1≤s):B^s=B^(s-1)*4294967296:=by rw [show s=s-1+1 by omega,hY];rfl
theorem ahR {m k s t:Nat}(az:1≤s)(h:(a7 m).length=s)(bu:(a7 m).getD (s-1) 0=(t:Int))(U:2147483648≤t*2^k)(ab:t*2^k<4294967296)(an:k≤31):
 (a7 (m*2^k)).length=s∧2147483648≤(a7 (m*2^k)).getD (s-1) 0:=by
 obtain ⟨cC,low,e,ak,aD,af,BR⟩:=FK az h;have:cC=t:=J;subst this;have nG:=G3 (s-1);have EL:0<2^k:=lX aT;have hd: ∃q,4294967296=q*2^k:=⟨2^(32-k),by rw [←iN,show 32-k+k=32 by omega]⟩
 obtain ⟨q,aA⟩:=hd;have ay:cC+1≤q:=by have:cC*2^k<q*2^k:=J;exact Nat.lt_of_mul_lt_mul_right this
 have bc:(cC+1)*2^k≤4294967296:=by rw [aA];exact fp _ ay
 have kM:m*2^k<B^s:=by
  rw [aaL az];have bI:m<B^(s-1)*(cC+1):=by rw [gS];omega
  have db:m*2^k<B^(s-1)*(cC+1)*2^k:=Nat.mul_lt_mul_of_pos_right bI EL;have fh:B^(s-1)*((cC+1)*2^k)≤B^(s-1)*4294967296:=hK _ bc;rw [kF] at db;omega
 have zY:B^(s-1)*2147483648≤m*2^k:=by
  have bI:B^(s-1)*(cC*2^k)≤m*2^k:=by rw [←kF];exact fp _ J
  exact dU (hK _ U) bI
 have hlen:(a7 (m*2^k)).length=s:=by
  have a:=oy kM;have b:B^(s-1)≤m*2^k:=by have:B^(s-1)*1≤B^(s-1)*2147483648:=hK _ aT;omega
  have c:=amt b;omega
 refine ⟨hlen,?_⟩;obtain ⟨t2,arx,aF,_,_,S2,SB⟩:=FK az hlen;rw [aF];rcases gA t2 2147483648 with z|z
 ·exfalso;have:B^(s-1)*(t2+1)≤B^(s-1)*2147483648:=hK _ J;rw [gS] at this;omega
 ·omega
theorem agS {t k:Nat}(bu:0<t)(h:t*2^k<4294967296)(an:k≤31)(aM:t*2^k/2^31=0):t*2^(k+1)<4294967296∧k+1≤31:=by
 have U:t*2^k<2147483648:=by
  rcases gA (t*2^k) 2147483648 with q|q
  ·exact q
  ·have:=Nat.div_le_div_right (c:=2^31) q;rw [aM] at this;exact absurd this aT
 refine ⟨by rw [hY,←kF];omega,?_⟩;rcases gA k 31 with q|q
 ·exact q
 ·exfalso;have:k=31:=J;subst this;have:1*2^31≤t*2^31:=fp _ bu;have e:(2:Nat)^31=2147483648:=aT;rw [e] at this U;omega
theorem agT {t k:Nat}(aM: ¬t*2^k/2^31=0):2147483648≤t*2^k:=by
 rcases gA (t*2^k) 2147483648 with q|q
 ·exact absurd (oR (by rw [show (2:Nat)^31=2147483648 by decide];exact q)) aM
 ·exact q
theorem apx {n h4 v s k:Nat}(aG:n<B^h4)(an:k≤31)(az:1≤s)(km:s≤h4)(af:B^(s-1)*2147483648≤v):n*2^k<v*B^(h4+1-s):=by
 have aD:2^k≤2147483648:=dU (fN (show 0<2 by decide) an) aT;have U:n*2^k≤n*2147483648:=hK _ aD;have ab:B^(s-1)*2147483648*B^(h4+1-s)≤v*B^(h4+1-s):=fp _ af;have ay:B^(s-1)*2147483648*B^(h4+1-s)=B^h4*2147483648:=by
  have e:B^h4=B^(s-1)*B^(h4+1-s):=by rw [←iN];congr 1;omega
  rw [e];ac_rfl
 omega
theorem akS {v s:Nat}(az:1≤s)(au:(a7 v).length=s)(h:2147483648≤(a7 v).getD (s-1) 0):B^(s-1)*2147483648≤v:=by obtain ⟨t,low,e,_,_,af,_⟩:=FK az au;have:B^(s-1)*2147483648≤B^(s-1)*t:=hK _ J;omega
theorem aji {W v s j N:Nat}(nd:0<v)(af:v<B^s)(gO:W<v*B^(j+1))(jc:j+(s+1)≤N):
 fZ N W=fZ j W++(fZ (s+1) (W/B^j)++fZ (N-(j+(s+1))) (W/B^j/B^(s+1)))∧bq (fZ (s+1) (W/B^j))=W/B^j∧W/B^j<4294967296*v∧
  ∃W',fZ j W++(fZ (s+1) (W/B^j%v)++fZ (N-(j+(s+1))) (W/B^j/B^(s+1)))=fZ N W'∧W'<v*B^j∧W'+B^j*(v*(W/B^j/v))=W:=by
 have nG:=G3 j;have U:W/B^j<4294967296*v:=by
  refine xM ?_;have:v*B^(j+1)=B^j*(4294967296*v):=by rw [hY];unfold B;ac_rfl
  rw [←this];exact gO
 have ab:W/B^j<B^(s+1):=by have:4294967296*v≤4294967296*B^s:=hK _ J;rw [hY,hj (B^s)];exact ha U this
 have ay:W/B^j/B^(s+1)=0:=oR ab;have ad:W/B^j%v<v:=lz _ nd;have EV:v<B^(s+1):=ha af (fN aT J);refine ⟨?_,J6 _ _ ab,U,W%B^j+B^j*(W/B^j%v),?_,?_,?_⟩
 ·rw [←CZ,←CZ];congr 1;omega
 ·have aE:(W%B^j+B^j*(W/B^j%v))/B^j=W/B^j%v:=by rw [Nat.add_mul_div_left _ _ nG,oR (lz _ nG),cR]
  have aF:(W%B^j+B^j*(W/B^j%v))%B^j=W%B^j:=by rw [GP,Nat.mod_mod]
  rw [show N=j+((s+1)+(N-(j+(s+1)))) by omega,CZ j,CZ (s+1),aE,ay,anH aF.symm];rw [show j+(s+1+(N-(j+(s+1))))-(j+(s+1))=N-(j+(s+1)) by omega,oR (Nat.lt_trans ad EV)]
 ·have bI:B^j*(W/B^j%v+1)≤B^j*v:=hK _ ad;have db:=lz W nG;rw [gS] at bI;rw [hj v];omega
 ·have a:=zo W (B^j);have b:=zo (W/B^j) v;have c:B^j*(v*(W/B^j/v))+B^j*(W/B^j%v)=B^j*(W/B^j):=by rw [←gS,b]
  omega
theorem ajh {n m k W Q:Nat}(hm:0<m)(h:Q*(m*2^k)+W=n*2^k)(gO:W<m*2^k):Q=n/m∧W=n%m*2^k:=by have an:0<2^k:=lX aT;have aM:0<m*2^k:=zp hm an;have aE:n*2^k/(m*2^k)=n/m:=Nat.mul_div_mul_right _ _ an;have aF:n*2^k%(m*2^k)=n%m*2^k:=Nat.mul_mod_mul_right ..;rw [←h] at aE aF;rw [oV,Nat.add_mul_div_right _ _ aM,oR gO,cR] at aE;rw [oV,Nat.add_mul_mod_self_right,ny gO] at aF;exact ⟨aE,aF⟩
theorem aoz {d e k:Nat}(hd:d<4294967296)(an:k≤31):d/2^k|||e*2^(32-k)%4294967296=d/2^k+e%2^k*2^(32-k):=by
 have aD:0<2^(32-k):=lX aT;have aE:(4294967296:Nat)=2^k*2^(32-k):=by rw [←iN,show k+(32-k)=32 by omega]
 have aF:e*2^(32-k)%4294967296=e%2^k*2^(32-k):=by rw [aE];exact Nat.mul_mod_mul_right ..
 have U:d/2^k<2^(32-k):=by refine xM ?_;rw [←aE];exact hd
 rw [aF];have:=Nat.two_pow_add_eq_or_of_lt U (e%2^k);rw [Nat.or_comm,hj (e%2^k),←this,oV]
theorem aaw {d e k:Nat}(hd:d<4294967296)(an:k≤31):d/2^k+e%2^k*2^(32-k)<4294967296:=by
 have aE:(4294967296:Nat)=2^k*2^(32-k):=by rw [←iN,show k+(32-k)=32 by omega]
 have U:d/2^k<2^(32-k):=by refine xM ?_;rw [←aE];exact hd
 have ab:(e%2^k+1)*2^(32-k)≤2^k*2^(32-k):=fp _ (lz _ (lX aT));rw [eF,←aE] at ab;omega
theorem aax {out r:List Int}{i k d e:Nat}(an:k≤31)(au:out.length=i)(hd:r.getD i 0=(d:Int)){d0:Nat}(h:bq out*2^k+d0=bq (r.take i)+(d%2^k)*B^i):
 bq (out++[((d/2^k+e%2^k*2^(32-k):Nat):Int)])*2^k+d0=bq (r.take (i+1))+(e%2^k)*B^(i+1):=by
 rw [AD,au,cn,mF,hd,cn,hY];have aE:(4294967296:Nat)=2^(32-k)*2^k:=by rw [←iN,show 32-k+k=32 by omega]
 have aF:=zo d (2^k);have bO:B^i*(d/2^k+e%2^k*2^(32-k))*2^k=B^i*(2^k*(d/2^k))+e%2^k*(B^i*B):=by rw [show B=2^(32-k)*2^k from aE];generalize (2^(32-k)*2^k)^i=p;rw [gS,eF];congr 1<;>ac_rfl
 have hM:B^i*(2^k*(d/2^k))+(d%2^k)*B^i=B^i*d:=by rw [hj (d%2^k),←gS,aF]
 rw [eF,bO];omega
end Go.aj.dh
