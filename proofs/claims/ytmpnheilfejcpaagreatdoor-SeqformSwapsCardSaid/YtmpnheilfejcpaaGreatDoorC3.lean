import Derived.Lib.Bytealg
import Derived.Laws.Externs
import Derived.Laws.CopyRow
import Derived.OpenShut
import Derived.Laws.StructEq
import Derived.ChangeKeysEq
import Derived.WideLaws
import Derived.Laws.Bits64
import Derived.Laws.BitsLemmas
import Derived.Lib.AppendStr
import Derived.Lib.UnsafeStr
import Derived.Lib.Builder
import Derived.Laws.Small
import Derived.MapKept
import Derived.Laws.IdiomStrings
import Derived.Lib.ItoaNum
import Derived.Lib.AtoiAll
import Derived.Test.YtmpnheilfejcpaaGreatDoorC2
set_option linter.unusedVariables false
set_option linter.unusedSimpArgs false
namespace Go.ai
variable [bq]
open Go.RowKit
theorem b6.acm {c:Ctx} {w:World} {a:Act} {σ:Nat→Option bQ} {S:Nat→Prop} {n:Nat} {fr:Fr} {H:aX} (ad:b6 c w a σ S n fr H) {o:bk} (aj:o.c.len=0):b6 c w a (cN σ H.length .k8) S n fr (H++[some o]):=by
 have mV: ∀h B,σ h=some B→cN σ H.length .k8 h=some B:=by
  intro h B cZ;unfold cN;split
  ·rename_i he;rw [he,ad.ad.hG _ (bR _)] at cZ;cases cZ
  ·exact cZ
 have ah: ∀{x v},bp w S σ x v→bp w S (cN σ H.length .k8) x v:=fun h=>h.mono (fun _ h=>h) (fun _ _=>rfl) _ mV;have cS: ∀(aL:Nat) (o':bk),(H++[some o])[aL]? =some (some o')→(aL=H.length∧o'=o)∨(aL<H.length∧H[aL]? =some (some o')):=by
  intro aL o' aj;by_cases he:aL<H.length
  ·rw [hQ he] at aj;exact .inr ⟨he,aj⟩
  ·by_cases jG:aL=H.length
   ·subst jG;simp at aj;exact .inl ⟨rfl,aj.symm⟩
   ·have:(H++[some o]).length≤aL:=by simp;omega
    rw [jT this] at aj;cases aj
 have nO: ∀h,h<H.length→cN σ H.length .k8 h=σ h:=fun h au=>by simp [cN,ow au]
 have hk:cN σ H.length .k8 H.length=some .k8:=by simp [cN]
 refine ⟨⟨?_,?_,ad.ad.small,fun h au=> ?_⟩,⟨ad.bh.os,ad.bh.output,ad.bh.tape,ad.bh.size,ad.bh.block,ad.bh.hD,ad.bh.e4,fun h aN=>by rw [nO h (ad.bh.iY h aN)];exact ad.bh.fixed h aN,fun h aN=>by have:=ad.bh.iY h aN;simp;omega,?_⟩,ad.defers,ad.size,fun t v au=>⟨(ad.e8 t v au).1,ah (ad.e8 t v au).2⟩⟩
 ·intro aL o' cU;rcases cS aL o' cU with ⟨rfl,rfl⟩|⟨bC,cU⟩
  ·exact .inl ⟨hk,aj⟩
  ·rcases ad.ad.live aL o' cU with ⟨aF,iZ⟩|⟨b',cF,iu,g1,g2,g3,g4,g5,g6,g7⟩
   ·exact .inl ⟨mV _ _ aF,iZ⟩
   ·right;refine ⟨b',cF,iu,mV _ _ g1,g2.mono I ah,g3,g4,g5,g6,fun i j aa ae=> ?_⟩;obtain ⟨v,aD,aE,bM⟩:=g7 i j aa ae;exact ⟨v,aD,ah aE,bM⟩
 ·intro U ab o1 o2 b s1 gl s2 fY bO bW aD aE;rcases cS U o1 bO with ⟨rfl,rfl⟩|⟨gh,AD⟩
  ·rw [hk] at aD;cases aD
  ·rcases cS ab o2 bW with ⟨rfl,rfl⟩|⟨fB,AE⟩
   ·rw [hk] at aE;cases aE
   ·rw [nO U gh] at aD;rw [nO ab fB] at aE;exact ad.ad.hi U ab o1 o2 b s1 gl s2 fY AD AE aD aE
 ·simp only [c2,fZ,kd] at au;have: ¬h=H.length:=J;simp only [cN,this,gW];exact ad.ad.hG h J
 ·intro aL o' b s C aj ak;rcases cS aL o' aj with ⟨rfl,rfl⟩|⟨bC,cU⟩
  ·rw [hk] at ak;cases ak
  ·rw [nO aL bC] at ak;exact ad.bh.own aL o' b s C cU ak
theorem b6.adN {c:Ctx}{w:World}{a:Act}{σ:Nat→Option bQ}{S:Nat→Prop}{n:Nat}{fr:Fr}{H:aX}(ad:b6 c w a σ S n fr H){h:Nat}{o:bk}(aU:H[h]? =some (some o)){c':Cells}(U:c'.len=o.c.len)(ab:c'.bU=o.c.bU)(aw: ∀i j v,i<o.c.len→j<o.c.aC→bp w S σ (o.c.at i j) v→bp w S σ (c'.at i j) v):b6 c w a σ S n fr (H.set h (some ⟨o.ty,c'⟩)):=by
 have bC:h<H.length:=(gL.1 aU).1;have cS: ∀(aL:Nat) (o':bk),(H.set h (some ⟨o.ty,c'⟩))[aL]? =some (some o')→ ∃c5:bk,H[aL]? =some (some c5)∧o'.ty=c5.ty∧o'.c.len=c5.c.len∧o'.c.bU=c5.c.bU∧ ∀i j v,i<c5.c.len→j<c5.c.aC→bp w S σ (c5.c.at i j) v→bp w S σ (o'.c.at i j) v:=by
  intro aL o' aj;by_cases he:aL=h
  ·subst he;simp only [nB bC,dy] at aj;subst aj;exact ⟨o,aU,I,U,ab,aw⟩
  ·rw [k0 (p4 he)] at aj;exact ⟨o',aj,I,I,I,fun _ _ _ _ _ h=>h⟩
 refine ⟨⟨fun aL o' aj=> ?_,fun U ab o1 o2 b s C cl cF bO bW aD aE=> ?_,ad.ad.small,fun aL au=>ad.ad.hG aL (by simpa using au)⟩,⟨ad.bh.os,ad.bh.output,ad.bh.tape,ad.bh.size,ad.bh.block,ad.bh.hD,ad.bh.e4,ad.bh.fixed,fun aL aN=>by simpa using ad.bh.iY aL aN,fun aL o' b s C q e=> ?_⟩,ad.defers,ad.size,ad.e8⟩
 ·obtain ⟨c5,U,ab,aw,bg,bF⟩:=cS aL o' aj;rw [aw,zc bg];rcases ad.ad.live aL c5 U with g|⟨b,C,cur,g1,g2,g3,g4,g5,g6,g7⟩
  ·exact .inl g
  ·exact .inr ⟨b,C,cur,g1,g2.bU ab bg,g3,g4,g5,g6,fun i j aa ae=>by
    obtain ⟨v,aD,aE,bM⟩:=g7 i j aa ae;exact ⟨v,aD,bF i j v aa ae aE,bM⟩⟩
 ·obtain ⟨p,cY,_⟩:=cS U o1 bO;obtain ⟨oQ,yq,_⟩:=cS ab o2 bW;exact ad.ad.hi U ab p oQ b s C cl cF cY yq aD aE
 ·obtain ⟨p,cY,_⟩:=cS aL o' q;exact ad.bh.own aL p b s C cY e
section
variable {P:Program}{fn:Func}{c:Ctx}{fr:Fr}{H:aX}{k:List eh}
end
def uq (gw:aX)(x y:al):Prop:=y=x∨y= .any∨(y=x.kh gw∧na gw x)
def Ck (gw:aX)(fr:Fr):Fr→Prop
 |[]=>True
 |(t,y)::r=>(∃x,look t fr=some x∧uq gw x y)∧Ck gw fr r
theorem abJ {gw:aX}{fr L:Fr}{t:Nat}{y:al}(h:Ck gw fr L)(au:look t L=some y): ∃x,look t fr=some x∧uq gw x y:=by
 have bT:= ‹bq›;induction L with
 |nil=>simp [look] at au
 |cons p r a8=>
  obtain ⟨u,x⟩:=p;obtain ⟨U,ab⟩:=h;simp only [look] at au;by_cases he:t=u
  ·subst he;simp at au;subst au;exact U
  ·have ak:Nat.beq t u=false:=db he;simp [ak] at au;exact a8 ab au
theorem b6.freeze {c:Ctx}{w:World}{a:Act}{σ:Nat→Option bQ}{S:Nat→Prop}{n:Nat}{fr L:Fr}{H:aX}(ad:b6 c w a σ S n fr H)(gw bE:aX)(iw:vi gw H)(e6: ∀(h:Nat) (o:bk),gw[h]? =some (some o)→eV o.c)(hlen:bE.length=H.length)(lS: ∀(h:Nat) (o':bk),bE[h]? =some (some o')→(∀o:bk,gw[h]? ≠some (some o))∧ ∃o:bk,H[h]? =some (some o)∧o'.ty=o.ty∧o'.c.len=o.c.len∧o'.c.bU=o.c.bU∧ ∀i j,i<o.c.len→j<o.c.aC→uq gw (o.c.at i j) (o'.c.at i j))(cv:Ck gw fr L): ∃bY,b6 c w a σ bY n L bE:=by
 have J3:zb w S σ gw:=fun h o aj=>ad.ad.live h o (iw h o aj)
 let bY:Nat→Prop:=fun b=>S b∨ ∃h o s C,gw[h]? =some (some o)∧σ h=some (.at b s C)
 have j0: ∀{lJ:Nat→Option bQ} {x v},bp w S lJ x v→bp w bY lJ x v:=fun h=>h.mono (fun _ h=> .inl h) (fun _ _=>rfl) _ (fun _ _ h=>h);have zX: ∀{x y v},uq gw x y→bp w S σ x v→bp w bY σ y v:=by
  intro x y v h ah;rcases h with rfl|rfl|⟨rfl,dO⟩
  ·exact j0 ah
  ·exact .any _ _
  ·exact bp.freeze J3 e6 (fun _ h=> .inl h) (fun h o b s C U ab=> .inr ⟨h,o,s,C,U,ab⟩) ah σ dO
 refine ⟨bY,⟨fun h o' cU=> ?_,fun U ab o1 o2 b s C cl cF bO bW aD aE=> ?_,fun b ak=> ?_,fun h au=>ad.ad.hG h J⟩,⟨ad.bh.os,ad.bh.output,ad.bh.tape,ad.bh.size,ad.bh.block,fun b ak=> .inl (ad.bh.hD b ak),fun b ak=> ?_,ad.bh.fixed,fun h aN=>by rw [hlen];exact ad.bh.iY h aN,fun h o b s C q e=> ?_⟩,ad.defers,ad.size,fun t y aY=> ?_⟩
 ·obtain ⟨eO,o,U,ab,aw,bg,bF⟩:=lS h o' cU;rw [aw,zc bg];rcases ad.ad.live h o U with g|⟨b,C,cur,g1,g2,g3,g4,g5,g6,g7⟩
  ·exact .inl g
  ·refine .inr ⟨b,C,cur,g1,(g2.mono I j0).bU ab bg,g3,g4,g5,?_,fun i j aa ae=> ?_⟩
   ·rintro (ax|⟨aL,o2,s2,fY,bO,bW⟩)
    ·exact g6 ax
    ·have:=ad.ad.hi h aL o o2 b _ C s2 fY U (iw aL o2 bO) g1 bW;subst this;exact eO o2 bO
   ·obtain ⟨v,aD,aE,bM⟩:=g7 i j aa ae;exact ⟨v,aD,zX (bF i j aa ae) aE,bM⟩
 ·obtain ⟨_,p,cY,_⟩:=lS U o1 bO;obtain ⟨_,oQ,yq,_⟩:=lS ab o2 bW;exact ad.ad.hi U ab p oQ b s C cl cF cY yq aD aE
 ·rcases ak with ax|⟨h,o,s,C,bO,bW⟩
  ·exact ad.ad.small b ax
  ·obtain ⟨_,iu,g,_⟩:=ad.obj (iw h o bO) bW;exact g.lt
 ·rcases ak with ax|⟨h,o,s,C,bO,bW⟩
  ·exact ad.bh.e4 b ax
  ·rcases ad.bh.own h o b s C (iw h o bO) bW with g|g
   ·exact .inr (.inl g)
   ·exact .inr (.inr g)
 ·obtain ⟨_,p,cY,_⟩:=lS h o q;exact ad.bh.own h p b s C cY e
 ·obtain ⟨x,ar,aN⟩:=abJ cv aY;exact ⟨(ad.e8 t x ar).1,zX aN (ad.e8 t x ar).2⟩
section
variable {P:Program}{fn:Func}{c:Ctx}{fr:Fr}{H:aX}{k:List eh}
theorem aiQ {x:Code}(gw bE:aX)(L:Fr)(iw:vi gw H)(e6: ∀(h:Nat) (o:bk),gw[h]? =some (some o)→eV o.c)(hlen:bE.length=H.length)(lS: ∀(h:Nat) (o':bk),bE[h]? =some (some o')→(∀o:bk,gw[h]? ≠some (some o))∧ ∃o:bk,H[h]? =some (some o)∧o'.ty=o.ty∧o'.c.len=o.c.len∧o'.c.bU=o.c.bU∧ ∀i j,i<o.c.len→j<o.c.aC→uq gw (o.c.at i j) (o'.c.at i j))(cv:Ck gw fr L)(ao:ai P fn c (.code x k) L bE):ai P fn c (.code x k) fr H:=by intro w a σ S ad;obtain ⟨bY,fA⟩:=ad.freeze gw bE iw e6 hlen lS cv;exact ao w a σ bY fA
theorem ko {x:Code}(bE:aX)(he:H=bE)(ao:ai P fn c (.code x k) fr bE):ai P fn c (.code x k) fr H:=he▸ao
theorem Lx {all:Array Oper}{fuel:Nat}{listed:Array Bool}(bE:aX)(ax:aM H bE)(h:ai P fn c (.any all fuel listed k) fr bE):ai P fn c (.any all fuel listed k) fr H:=
 fun w a σ S ad=>h w a σ S (ad.heap ax)
theorem vm {all:Array Oper}{fuel:Nat}{listed:Array Bool}(t:Nat){v:al}(y:al)(au:look t fr=some v)(h:aV v y)(ao:ai P fn c (.any all fuel listed k) ((t,y)::fr) H):ai P fn c (.any all fuel listed k) fr H:=
 fun w a σ S ad=>ao w a σ S (ad.slot au h)
end
end Go.ai
namespace Go.ai
variable [bq]
open Go.RowKit
section
variable {ind:Bool}{P:Program}{fn:Func}{c:Ctx}{fr:Fr}{H:aX}{k:List eh}
variable {d:Option Nat}{ty:TypeId}{pos:String}{after:Array Edge}{OG:Option (Nat×Bool)}
theorem ado {g:Operand}{args:List Operand}{h6:Array TypeId}{f:FuncId}{mj:Func}{e:Array Value→Sem Value}{dM:List al}{r:al}(cX:bA fr g=some (.fn f []))(a1:kD fr args=some dM)(aN:P.funcs[f]? =some mj)(Ka:(mj.name== "runtime.NumGoroutine")=false)(ak:mj.body.isNone=true)(aF:Extern.findNext mj=none)(he:Extern.find mj=some e)(ez: ∀w S σ ds,om w S σ dM ds→ ∃x,bp w S σ r x∧ ∀w',(e ds).run P w'= .ok x w'):
 bV ind P fn c fr H ⟨d,.call {callee:= .value g,args:=args.toArray,argTypes:=h6},ty,pos,after,OG⟩ r:=by
 intro w a σ S ad;have U:=ad.dN cX;obtain ⟨aD,aE⟩:=DW ad args dM a1;generalize bw:a.eval g=z at U;cases U with
 |fn _ _ _ vs au ah=>
  have CX:vs= #[]:=by
   have:vs.size=0:=by simpa using au
   exact Array.eq_empty_of_size_eq_zero this
  subst CX;have lX:om w S σ dM (args.map a.eval).toArray:=by
   refine ⟨by simp [aD],fun i aa=> ?_⟩;have:=aE i aa;have bC:i<args.length:=J;have nI:(args.map a.eval).toArray.getD i undef=(args.map a.eval).getD i undef:=by simp [List.getD,bC]
   rw [nI];exact this
  obtain ⟨x,CY,gP⟩:=ez w S σ _ lX;refine ⟨x,CY,fun w' _=> ?_⟩;have av:=run_callFunc_extern (P:=P) aN Ka ak aF he (args.map a.eval).toArray w';rw [gP w'] at av;simp only [execOp,resolve,bw,Deferred.ofValue,Sem.run_bind,Sem.run_pure,Result.andThen_ok,invoke,List.map_toArray,Array.empty_append,Array.append_empty] at av⊢;exact av
theorem om.afi {w:World}{S:Nat→Prop}{σ:Nat→Option bQ}{s:List UInt8}{b:Int}{ds:Array Value}(h:om w S σ [.str s,.int .u8 b] ds):ds= #[oh s,.int .u8 b]:=by
 have bT:= ‹bq›;obtain ⟨U,ab⟩:=h;have a:=ab 0 bZ;have b':=ab 1 bZ;apply Array.ext
 ·simpa using U
 ·intro i wi pD;have bC:i<2:=by simpa using pD
  match i,bC with
  |0,_=>
   simp only [zo,Array.getD,wi,uv] at a;generalize ah:ds[0]=v at*;have oN:ds.getInternal 0 wi=v:=ah;rw [oN] at a;cases a;rfl
  |1,_=>
   simp only [List.getD_cons_succ,zo,Array.getD,wi,uv] at b';generalize ah:ds[1]=v at*;have oN:ds.getInternal 1 wi=v:=ah;rw [oN] at b';cases b';rfl
theorem ahB {g x y:Operand}{h6:Array TypeId}{f:FuncId}{mj:Func}{s:List UInt8}{b:Int}(cX:bA fr g=some (.fn f []))(ar:bA fr x=some (.str s))(aY:bA fr y=some (.int .u8 b))(aN:P.funcs[f]? =some mj)(Ka:(mj.name== "runtime.NumGoroutine")=false)(ak:mj.body.isNone=true)(aF:Extern.findNext mj=none)(he:Extern.find mj=some Extern.BytealgIndexByte.indexByte):
 bV ind P fn c fr H ⟨d,.call {callee:= .value g,args:= #[x,y],argTypes:=h6},ty,pos,after,OG⟩ (.int .i64 (Lib.indexByte s b.toNat.toUInt8)):=
 ado (args:=[x,y]) (dM:=[.str s,.int .u8 b]) cX (by simp [kD,ar,aY]) aN Ka ak aF he (fun w S σ ds ah=>⟨_,.int _ _ _,fun w'=>by rw [ah.afi];exact Lib.run_indexByteString _ _ _⟩)
end
theorem aV.afJ {x x' y:al}(h:aV x x'):aV (.cd [x,y]) (.cd [x',y]):=by
 have bT:= ‹bq›;intro w S σ v ah;cases ah with
 |cd _ _ vs au ah=>
  refine .cd _ _ _ au (fun i aa=> ?_);have:=ah i aa
  match i,aa with
  |0,_=>exact h _ _ _ _ this
  |1,_=>exact this
theorem cg.res {P:Program}{f:FuncId}{args:List al}{H:aX}{fix:Nat→Prop}{K gm:al→aX→Prop}(av:cg P f args H fix K)(dn: ∀r bE,K r bE→ ∃dk,aV r dk∧gm dk bE):cg P f args H fix gm:=by refine ⟨av.1,fun w σ S ds aO U ab aw=>Calls.mono (av.2 w σ S ds aO U ab aw) fun e w' he=> ?_⟩;obtain ⟨v,r,bu,bY,bE,g1,g2,g3,g4,g5⟩:=he;obtain ⟨dk,yg,Aj⟩:=dn _ _ g5;exact ⟨v,dk,bu,bY,bE,g1,g2,yg _ _ _ _ g3,⟨g4.os,g4.output,g4.tape,g4.size,g4.block,g4.hD,g4.e4,g4.fixed,g4.iY,g4.own⟩,Aj⟩
def vM:List al→List al→Prop
 |[],[]=>True
 |x::r,y::q=>aV x y∧vM r q
 |_,_=>False
theorem vM.length: ∀{a b:List al},vM a b→a.length=b.length
 |[],[],_=>have bT:= ‹bq›;rfl
 |_::r,_::q,h=>by simp [vM.length h.2]
 |[],_::_,h=>h.elim
 |_::_,[],h=>h.elim
theorem vM.get: ∀{a b:List al},vM a b→ ∀i,i<a.length→aV (a.getD i .any) (b.getD i .any)
 |[],[],_,i,aa=>by have bT:= ‹bq›;simp at aa
 |x::r,y::q,h,0,_=>h.1
 |x::r,y::q,h,i+1,aa=>by simpa using vM.get h.2 i (by simpa using aa)
 |[],_::_,h,_,_=>h.elim
 |_::_,[],h,_,_=>h.elim
theorem bD.res {P:Program}{f:FuncId}{args:List al}{r dk:al}(av:bD P f args r)(h:aV r dk):bD P f args dk:=
 fun H=>(av H).res fun _ _ ⟨U,ab⟩=>⟨dk,U▸h,rfl,ab⟩
end Go.ai
namespace Go.ai
variable [bq]
open Go.RowKit
section
variable {ind:Bool}{P:Program}{fn:Func}{c:Ctx}{fr:Fr}{H:aX}{k:List eh}
variable {d:Option Nat}{ty:TypeId}{pos:String}{after:Array Edge}{g:Option (Nat×Bool)}
theorem RM {x ix:Operand}{t e:TypeId}{n h i j qk:Nat}{dY:IntKind}{m:Int}(bs:P.underlying t=some (.array n e))(ax:(P.info? e).map (·.size)=some 1)(ar:bA fr x=some (.ptr h i j))(aa:bA fr ix=some (.int dY m))(ae:j+m.toNat=qk)(ak:0≤m∧m<n):
 bV ind P fn c fr H ⟨d,.indexAddr t x ix,ty,pos,after,g⟩ (.ptr h i qk):=by
 intro w a σ S ad;have U:=ad.dN ar;have ab:=ad.eZ aa;subst ae;generalize bw:a.eval x=z at U;cases U with
 |ptr _ _ _ _ b s C bG=>
  refine ⟨_,.ptr _ h i (j+m.toNat) b s C bG,fun w' _=> ?_⟩;cases aB:P.info? e with
  |none=>simp [aB] at ax
  |some inf=>
   have cq:inf.size=1:=by simpa [aB] using ax
   simp [execOp,bw,ab,Instr.indexAt,Instr.sureAddr,asIntOf,run_underlying bs,ak,sizeOf,typeInfo,aB,cq,Addr.add_lit,kC]
theorem ahA {x ix:Operand}{t e:TypeId}{n i j qk:Nat}{dG:Cells}{dY:IntKind}{m:Int}(bs:P.underlying t=some (.array n e))(ax:(P.info? e).map (·.size)=some 1)(ar:bA fr x=some (.de dG i j))(aa:bA fr ix=some (.int dY m))(ae:j+m.toNat=qk)(ak:0≤m∧m<n):
 bV ind P fn c fr H ⟨d,.indexAddr t x ix,ty,pos,after,g⟩ (.de dG i qk):=by
 intro w a σ S ad;have U:=ad.dN ar;have ab:=ad.eZ aa;subst ae;generalize bw:a.eval x=z at U;cases U with
 |de _ _ _ _ b o val dp av hU gf=>
  refine ⟨.pointer (some ⟨b,o+m.toNat,none⟩),.de _ _ _ _ _ _ (fun e=>val (m.toNat+e)) dp (fun e he=> ?_) (fun e he=> ?_) (fun e he=>gf _ J),fun w' _=> ?_⟩
  ·have:=av (m.toNat+e) J
   rwa [←kC] at this
  ·have:=hU (m.toNat+e) J
   rwa [←kC] at this
  ·cases aB:P.info? e with
   |none=>simp [aB] at ax
   |some inf=>
    have cq:inf.size=1:=by simpa [aB] using ax
    simp [execOp,bw,ab,Instr.indexAt,Instr.sureAddr,asIntOf,run_underlying bs,ak,sizeOf,typeInfo,aB,cq,Addr.add_lit]
theorem RA {x:Operand}{t:TypeId}{u:TypeDesc}{h i:Nat}{bc:bk}{inf:TypeInfo}{L:List al}(bs:P.underlying t=some u)(hu:iP u=true)(ib:P.info? t=some inf)(cq:inf.size=bc.c.aC)(ar:bA fr x=some (.ptr h i 0))(aU:H[h]? =some (some bc))(cv:(List.range bc.c.aC).map (bc.c.at i)=L)(aa:i<bc.c.len):bV false P fn c fr H ⟨d,.load t x,ty,pos,after,g⟩ (.agg L):=by
 intro w a σ S ad;have U:=ad.dN ar;subst cv;generalize bw:a.eval x=z at U;cases U with
 |ptr _ _ _ _ b s C bG=>
  obtain ⟨gA,cur,g1,g2,g3,g4,g5,g6⟩:=ad.obj aU bG;subst gA;have mU: ∀w':World,w'.heap=w.heap→ ∀j,j<bc.c.aC→ ∃y,w'.cell? ⟨b,i*bc.c.aC+j,none⟩=some y∧bp w S σ (bc.c.at i j) y∧y.oneCell'=true:=by intro w' hw j ae;obtain ⟨y,aD,aE,bM⟩:=g6 i j aa ae;obtain ⟨mk,g1,_,_⟩:=g1.cells J;exact ⟨y,by simp [World.cell?,hw,g1,aD],aE,bM⟩
  let cs:List Value:=(List.range bc.c.aC).map (fun j=>(w.cell? ⟨b,i*bc.c.aC+j,none⟩).getD undef)
  refine ⟨.agg cs.toArray,.agg _ _ _ (by simp [cs]) (fun j ae=> ?_) (fun j ae=> ?_),fun w' hw=> ?_⟩
  ·have bf:j<bc.c.aC:=by simpa using ae
   obtain ⟨y,aD,aE,_⟩:=mU w rfl j bf;simpa [cs,Array.getD,bf,aD,List.getD] using aE
  ·have bf:j<bc.c.aC:=by simpa using ae
   obtain ⟨y,aD,_,bM⟩:=mU w rfl j bf;simpa [cs,Array.getD,bf,aD] using bM
  ·have hw:=hw.resolve_left a6;have au:=run_loadCells_list (P:=P) w' ⟨b,i*bc.c.aC,none⟩ cs (fun j v ah=>by
    have ae:j<bc.c.aC:=by simpa [cs] using (gL.1 ah).1
    obtain ⟨y,aD,_,_⟩:=mU w rfl j ae;simp only [cs,me,uw ae,rW,dy] at ah;subst ah;rw [aD,Addr.add_lit];have:=World.cell?_of_block (w:=w) (w':=w') (a:=⟨b,i*bc.c.aC+j,none⟩) (by rw [hw]);rw [this,aD];rfl)
   have gZ:cs.length=inf.size:=by simp [cs,cq]
   rw [gZ] at au;have KA:a.eval x= .pointer (some ⟨b,i*bc.c.aC,none⟩):=by rw [bw];simp
   simp [execOp,KA,Instr.loadAt,Instr.sureAddr,loadVar,wZ bs,hu,sizeOf,typeInfo,ib,au]
theorem wP {x:Operand}{t:TypeId}{u:TypeDesc}{i:Nat}{dG:Cells}{inf:TypeInfo}{L:List al}(bs:P.underlying t=some u)(hu:iP u=true)(ib:P.info? t=some inf)(cq:inf.size=dG.aC)(ar:bA fr x=some (.de dG i 0))(cv:(List.range dG.aC).map (dG.at i)=L):bV false P fn c fr H ⟨d,.load t x,ty,pos,after,g⟩ (.agg L):=by
 intro w a σ S ad;have U:=ad.dN ar;subst cv;generalize bw:a.eval x=z at U;cases U with
 |de _ _ _ _ b o val dp av hU gf=>
  let cs:List Value:=(List.range dG.aC).map val
  refine ⟨.agg cs.toArray,.agg _ _ _ (by simp [cs]) (fun j ae=> ?_) (fun j ae=> ?_),fun w' hw=> ?_⟩
  ·have bf:j<dG.aC:=by simpa using ae
   have:=(hU j J).mono (w':=w) (fun _ h=>h) (fun _ _=>rfl) σ (fun _ _ h=>by cases h);simpa [cs,Array.getD,bf,List.getD] using this
  ·have bf:j<dG.aC:=by simpa using ae
   have:=gf j J;simpa [cs,Array.getD,bf] using this
  ·have hw:=hw.resolve_left a6;have au:=run_loadCells_list (P:=P) w' ⟨b,o,none⟩ cs (fun j v ah=>by
    have ae:j<dG.aC:=by simpa [cs] using (gL.1 ah).1
    simp only [cs,me,uw ae,rW,dy] at ah;subst ah;rw [Addr.add_lit];have:=World.cell?_of_block (w:=w) (w':=w') (a:=⟨b,o+j,none⟩) (by rw [hw]);rw [this];exact av j J)
   have gZ:cs.length=inf.size:=by simp [cs,cq]
   rw [gZ] at au;simp [execOp,bw,Instr.loadAt,Instr.sureAddr,loadVar,wZ bs,hu,sizeOf,typeInfo,ib,au]
theorem adp {x ix:Operand}{t e:TypeId}{u:TypeDesc}{n:Nat}{L:List al}{v:al}{dY:IntKind}{m:Int}(bs:P.underlying t=some (.array n e))(ax:(P.info? e).map (·.size)=some 1)(hu:P.underlying e=some u)(aaA:iP u=false)(ar:bA fr x=some (.agg L))(aa:bA fr ix=some (.int dY m))(ah:L.getD m.toNat .any=v)(ak:0≤m∧m<n∧m<L.length):bV ind P fn c fr H ⟨d,.index t x ix,ty,pos,after,g⟩ v:=by
 intro w a σ S ad;have U:=ad.dN ar;have ab:=ad.eZ aa;subst ah;generalize bw:a.eval x=z at U;cases U with
 |agg _ _ vs au ah gf=>
  have bC:m.toNat<L.length:=J;have aw:=ah m.toNat bC;have bg:vs[m.toNat]? =some (vs.getD m.toNat undef):=by simp [Array.getD,au,bC]
  generalize vs.getD m.toNat undef=y at aw bg;refine ⟨y,aw,fun w' _=> ?_⟩;cases aB:P.info? e with
  |none=>simp [aB] at ax
  |some inf=>
   have cq:inf.size=1:=by simpa [aB] using ax
   simp [execOp,bw,ab,Instr.index,asIntOf,run_underlying bs,ak.1,ak.2.1,sizeOf,typeInfo,aB,cq,part,wZ hu,aaA,bg]
theorem dh {x:Operand}{s:TypeId}{ev:Array Field}{f h i j qk:Nat}{fd:Field}{inf:TypeInfo}(bs:P.underlying s=some (.struct ev))(aN:ev[f]? =some fd)(aa:P.info? fd.type=some inf)(b2:Nat.beq inf.size 0=false)(ar:bA fr x=some (.ptr h i j))(ae:j+fd.offset=qk):
 bV ind P fn c fr H ⟨d,.fieldAddr s x f,ty,pos,after,g⟩ (.ptr h i qk):=by
 intro w a σ S ad;have U:=ad.dN ar;subst ae;have Kc: ¬inf.size=0:=fun e=>by rw [e] at b2;cases b2
 generalize bw:a.eval x=z at U;cases U with
 |ptr _ _ _ _ b aC C bG=>
  refine ⟨_,.ptr _ h i (j+fd.offset) b aC C bG,fun w' _=> ?_⟩;simp [execOp,bw,Instr.fieldAt,run_underlying bs,aN,Instr.sureAddr,fieldPlace,sizeOf,typeInfo,aa,Kc,Addr.add_lit,kC]
theorem oW {x:Operand}{s:TypeId}{ev:Array Field}{f i j qk:Nat}{dG:Cells}{fd:Field}{inf:TypeInfo}(bs:P.underlying s=some (.struct ev))(aN:ev[f]? =some fd)(aa:P.info? fd.type=some inf)(b2:Nat.beq inf.size 0=false)(ar:bA fr x=some (.de dG i j))(ae:j+fd.offset=qk):
 bV ind P fn c fr H ⟨d,.fieldAddr s x f,ty,pos,after,g⟩ (.de dG i qk):=by
 intro w a σ S ad;have U:=ad.dN ar;subst ae;have Kc: ¬inf.size=0:=fun e=>by rw [e] at b2;cases b2
 generalize bw:a.eval x=z at U;cases U with
 |de _ _ _ _ b o val dp av hU gf=>
  refine ⟨.pointer (some ⟨b,o+fd.offset,none⟩),.de _ _ _ _ _ _ (fun e=>val (fd.offset+e)) dp (fun e he=> ?_) (fun e he=> ?_) (fun e he=>gf _ J),fun w' _=> ?_⟩
  ·have:=av (fd.offset+e) J
   rwa [←kC] at this
  ·have:=hU (fd.offset+e) J
   rwa [←kC] at this
  ·simp [execOp,bw,Instr.fieldAt,run_underlying bs,aN,Instr.sureAddr,fieldPlace,sizeOf,typeInfo,aa,Kc,Addr.add_lit]
theorem jQ {x:Operand}{h i j:Nat}(ar:bA fr x=some (.ptr h i j)):bV ind P fn c fr H ⟨d,.nilCheck x,ty,pos,after,g⟩ (.ptr h i j):=by
 intro w a σ S ad;have U:=ad.dN ar;generalize bw:a.eval x=z at U;cases U with
 |ptr _ _ _ _ b s C bG=>exact ⟨_,.ptr _ h i j b s C bG,fun w' _=>by simp [execOp,bw]⟩
theorem vl {x:Operand}{dG:Cells}{i j:Nat}(ar:bA fr x=some (.de dG i j)):bV ind P fn c fr H ⟨d,.nilCheck x,ty,pos,after,g⟩ (.de dG i j):=by
 intro w a σ S ad;have U:=ad.dN ar;generalize bw:a.eval x=z at U;cases U with
 |de _ _ _ _ b o val dp av hU gf=>exact ⟨_,.de _ _ _ _ _ _ val dp av hU gf,fun w' _=>by simp [execOp,bw]⟩
theorem er {all:Array Oper}{t:TypeId}{x y:Operand}{ty:TypeId}{pos:String}{after:Array Edge}{rest:List Oper}{h i:Nat}{bc:bk}{L:List al}{c':Cells}(ar:bA fr x=some (.ptr h i 0))(aY:bA fr y=some (.agg L))(ax:(P.info? t).map (·.size)=some bc.c.aC)(aU:H[h]? =some (some bc))(au:L.length=bc.c.aC)(aa:i<bc.c.len)(U:c'.len=bc.c.len)(ab:c'.aC=bc.c.aC)(aw: ∀aI a7,aI<bc.c.len→a7<bc.c.aC→c'.at aI a7=if aI=i then L.getD a7 .any else bc.c.at aI a7)(ao:ai P fn c (.ops false all rest k) fr (H.set h (some ⟨bc.ty,c'⟩)))(mZ:bc.c.aC≠0:=by (intro aU;cases aU)):ai P fn c (.ops false all (⟨none,.store t x y,ty,pos,after,none⟩::rest) k) fr H:=by
 refine Ev (fun w a σ S ad=> ?_) ao;have aD:=ad.dN ar;have aE:=ad.dN aY;generalize bw:a.eval x=z at aD;generalize lY:a.eval y=u at aE;cases aE with
 |agg _ _ vs u6 hU yj=>
  cases aD with
  |ptr _ _ _ _ b s C bG=>
   obtain ⟨gA,cur,g1,g2,g3,g4,g5,g6⟩:=ad.obj aU bG;subst gA;obtain ⟨mk,g1,nN,kF⟩:=g1.cells mZ;have th:i*bc.c.aC+bc.c.aC≤cur.size:=by rw [g2];have:(i+1)*bc.c.aC≤C*bc.c.aC:=fo _ J;rw [ef] at this;omega
   have qi:vs.size=bc.c.aC:=by rw [u6,au]
   have dH:=Dl P b (i*bc.c.aC) bc.ty mk vs.toList 0 cur w g1 nN (by simp [qi];exact th) (fun v ah=>by
    obtain ⟨j,ae,rfl⟩:=ln ah;have bf:j<vs.size:=by simpa using ae
    have:=yj j (by rw [←u6];exact bf);simpa [Array.getD,bf] using this)
   simp only [eQ] at dH;generalize iJ:(cur.toList.take (i*bc.c.aC)++vs.toList++cur.toList.drop (i*bc.c.aC+vs.toList.length)).toArray=cur' at dH;have J0:cur'.size=cur.size:=by rw [←iJ];simp [qi];omega
   have hk: ∀p,p<cur.size→cur'[p]? =if i*bc.c.aC≤p∧p<i*bc.c.aC+bc.c.aC then vs[p-i*bc.c.aC]? else cur[p]? :=by
    intro p aJ;rw [←iJ];simp only [zn,ll];by_cases eY:p<i*bc.c.aC
    ·rw [hQ (by simp;omega),pj,aG eY,az J];simp
    ·rw [jA (by simp;omega)];have bs:(cur.toList.take (i*bc.c.aC)).length=i*bc.c.aC:=by simp;omega
     rw [bs];by_cases h8:p<i*bc.c.aC+bc.c.aC
     ·rw [hQ (by simp [qi];omega),aG ⟨J,h8⟩];simp
     ·rw [jA (by simp [qi];omega),az J];simp only [Array.length_toList,qi,List.getElem?_drop,Array.getElem?_toList];congr 1;omega
   refine ⟨w.setRow b cur',σ,S,?_,ad.setRow aU bG kF ab J (by rw [J0,g2]) (fun aI a7 aP bf=> ?_)⟩
   ·simp only [eQ] at bw;simp only [execOp,bw,lY,Instr.storeAt,Instr.sureAddr,storeVar,Sem.run_bind,Sem.run_pure,Result.andThen_ok,yU ax,Value.cells,qi];simp [dH]
   ·rw [U] at aP;rw [ab] at bf⊢;rw [aw aI a7 aP bf];have aJ:aI*bc.c.aC+a7<cur.size:=by rw [g2];have:(aI+1)*bc.c.aC≤C*bc.c.aC:=fo _ J;rw [ef] at this;omega
    rw [hk _ aJ];by_cases he:aI=i
    ·subst he;rw [aG rfl,aG ⟨J,J⟩];have JU:a7<vs.size:=J;refine ⟨vs.getD a7 undef,by simp [Array.getD,JU],hU a7 J,yj a7 J⟩
    ·rw [az he];have b2: ¬(i*bc.c.aC≤aI*bc.c.aC+a7∧aI*bc.c.aC+a7<i*bc.c.aC+bc.c.aC):=by
      rintro ⟨bO,bW⟩;rcases Nat.lt_or_gt_of_ne he with bC|bC
      ·have:(aI+1)*bc.c.aC≤i*bc.c.aC:=fo _ bC;rw [ef] at this;omega
      ·have:(i+1)*bc.c.aC≤aI*bc.c.aC:=fo _ bC;rw [ef] at this;omega
     rw [az b2];exact g6 aI a7 aP bf
end
end Go.ai
namespace Go.ai
variable [bq]
open Go.RowKit
section
variable {P:Program}{fn:Func}{c:Ctx}{fr:Fr}{H:aX}{k:List eh}
theorem RX {w:World}{a:Act}{σ:Nat→Option bQ}{S:Nat→Prop}{n:Nat}(ad:b6 c w a σ S n fr H){all:Array Oper}{d:Option Nat}{op:Op}{ty:TypeId}{pos:String}{after:Array Edge}{j t:Nat}{p:Bool}(aY:pS all j=some t)(ak:look t fr=some (.cd [])):Region.wanted ⟨d,op,ty,pos,after,some (j,p)⟩ (yielded all a.tmps)=false:=by
 obtain ⟨U,ab⟩:=ad.e8 t _ ak;have aw:t<a.tmps.size:=by rw [ad.size];exact U
 generalize bw:a.tmps.getD t undef=z at ab;cases ab;rename_i vs au ah;have bg:a.tmps[t]? =some (.tuple vs):=by simp only [Array.getD,aw,uv] at bw;simp only [Array.getElem?_eq_getElem aw];exact congrArg some bw
 unfold pS at aY;simp only [Region.wanted,yielded,aY,Option.bind_some,bg];cases p<;>rfl
theorem HT {w:World}{S:Nat→Prop}{σ:Nat→Option bQ}:bp w S σ (.cd []) undef:=have bT:= ‹bq›;.cd _ _ _ rfl (fun i aa=>absurd aa (gy _))
theorem sG {q:Bool}{all:Array Oper}{d:Nat}{op:Op}{ty:TypeId}{pos:String}{after:Array Edge}{rest:List Oper}{j t:Nat}{p b:Bool}(aY:pS all j=some t)(ak:look t fr=some (.bool b))(b2:(b==p)=false)(h:ai P fn c (.ops q all rest k) ((d,.cd [])::fr) H):ai P fn c (.ops q all (⟨some d,op,ty,pos,after,some (j,p)⟩::rest) k) fr H:=by
 cases q with
 |false=>
  intro hd w a σ S ad;obtain ⟨iK,jF⟩:=sI hd;simp only [wpList,Hs ad aY ak,b2,q0,gW];exact h jF w _ σ S (ad.put HT (iK d I))
 |true=>
  intro hd w a σ S ad;obtain ⟨iK,jF⟩:=sI hd;simp only [wpQuiet,Hs ad aY ak,b2,q0,gW];exact h jF w _ σ S (ad.put HT (iK d I))
theorem Lj {q:Bool}{all:Array Oper}{d:Nat}{op:Op}{ty:TypeId}{pos:String}{after:Array Edge}{rest:List Oper}{j t:Nat}{p:Bool}(aY:pS all j=some t)(ak:look t fr=some (.cd []))(h:ai P fn c (.ops q all rest k) ((d,.cd [])::fr) H):ai P fn c (.ops q all (⟨some d,op,ty,pos,after,some (j,p)⟩::rest) k) fr H:=by
 cases q with
 |false=>
  intro hd w a σ S ad;obtain ⟨iK,jF⟩:=sI hd;simp only [wpList,RX ad aY ak,q0,gW];exact h jF w _ σ S (ad.put HT (iK d I))
 |true=>
  intro hd w a σ S ad;obtain ⟨iK,jF⟩:=sI hd;simp only [wpQuiet,RX ad aY ak,q0,gW];exact h jF w _ σ S (ad.put HT (iK d I))
end
end Go.ai
namespace Go.ai
variable [bq]
open Go.RowKit
section
variable {P:Program}{fn:Func}{c:Ctx}{fr:Fr}{H:aX}{k:List eh}
end
end Go.ai
namespace Go.ai
variable [bq]
mutual
def hc (n:Nat):al→Bool
 | .aA h _ _=>Nat.blt h n
 | .ptr h _ _=>Nat.blt h n
 | .fn _ l=>nr n l
 | .agg l=>nr n l
 | .cd l=>nr n l
 | .mp h=>Nat.blt h n
 |_=>true
def nr (n:Nat):List al→Bool
 |[]=>true
 |v::r=>hc n v && nr n r
end
theorem Dw {n:Nat}{l:List al}(h:nr n l=true)(i:Nat)(aa:i<l.length):hc n (l.getD i .any)=true:=by
 have bT:= ‹bq›;induction l generalizing i with
 |nil=>simp at aa
 |cons v r a8=>
  simp only [nr,ei] at h;cases i with
  |zero=>exact h.1
  |succ i=>simpa using a8 h.2 i (by simpa using aa)
theorem bp.uK {w:World}{S:Nat→Prop}{σ:Nat→Option bQ}{n:Nat}{x:al}{v:Value}(h:bp w S σ x v):hc n x=true→ ∀bu:Nat→Option bQ,(∀h,h<n→bu h=σ h)→bp w S bu x v:=by
 induction h with
 |int=>intros;constructor
 |bool=>intros;constructor
 |str=>intros;constructor
 |nil=>intros;constructor
 |jJ=>intros;constructor
 |ro σ c i len b o cap val e1 hlen av ah U a8=>intro _ bu _;exact .ro _ _ _ _ _ _ _ val e1 hlen av ah U
 |aA σ h i len b s C cap bG hlen jE=>intro ak bu ax;exact .aA _ _ _ _ _ _ _ _ (by rw [ax h (ir ak)];exact bG) hlen jE
 |hW σ h bG=>intro ak bu ax;exact .hW _ _ (by rw [ax h (ir ak)];exact bG)
 |de σ c i j b o val e1 av ah U a8=>intro _ bu _;exact .de _ _ _ _ _ _ val e1 av ah U
 |ptr σ h i j b s C bG=>intro ak bu ax;exact .ptr _ _ _ _ _ _ _ (by rw [ax h (ir ak)];exact bG)
 |oP=>intros;constructor
 |fn σ f cap vs au ah a8=>intro aF bu ax;exact .fn _ _ _ _ au (fun i aa=>a8 i aa (Dw aF i aa) _ ax)
 |oO=>intros;constructor
 |iface=>intros;constructor
 |nd=>intros;constructor
 |agg σ l vs au ah U a8=>intro aF bu ax;exact .agg _ _ _ au (fun i aa=>a8 i aa (Dw aF i aa) _ ax) U
 |cd σ l vs au ah a8=>intro aF bu ax;exact .cd _ _ _ au (fun i aa=>a8 i aa (Dw aF i aa) _ ax)
 |mp σ h b bG=>intro ak bu ax;exact .mp _ _ _ (by rw [ax h (ir ak)];exact bG)
 |jK σ ks vs b es clock e e1 ak aF au hd he ao ah=>intro _ bu _;exact .jK _ _ _ b es clock e e1 ak aF au hd he ao ah
 |any=>intros;constructor
theorem Lays.uK {w:World}{S:Nat→Prop}{σ bu:Nat→Option bQ}{o:bk}{b:Nat}{cur:Array Value}{C n:Nat}(h:Lays w S σ o b cur C)(av: ∀ks vs,o.c= .mp ks vs→nr n ks=true∧nr n vs=true)(ax: ∀h,h<n→bu h=σ h):Lays w S bu o b cur C:=by
 have bT:= ‹bq›;cases h with
 |row mk h hm dR=>exact .row mk h hm dR
 |map ks vs es clock xZ dR h aF au hd he=>
  obtain ⟨dX,eu⟩:=av ks vs xZ;exact .map ks vs es clock xZ dR h aF au hd (fun i aa=>let ⟨e,aD,aE,bM⟩:=he i aa;⟨e,aD,aE.uK (Dw dX i aa) _ ax,bM.uK (Dw eu i J) _ ax⟩)
def l4 (n:Nat):Fr→Bool
 |[]=>true
 |(_,v)::r=>hc n v && l4 n r
theorem ahQ {n:Nat}{fr:Fr}(ak:l4 n fr=true){t:Nat}{v:al}(au:look t fr=some v):hc n v=true:=by
 have bT:= ‹bq›;induction fr with
 |nil=>simp [look] at au
 |cons p r a8=>
  obtain ⟨u,x⟩:=p;simp only [l4,ei] at ak;simp only [look] at au;cases aB:Nat.beq t u with
  |true=>rw [aB] at au;simp at au;subst au;exact ak.1
  |false=>rw [aB] at au;exact a8 ak.2 (by simpa using au)
def EY (n:Nat)(σ:Nat→Option bQ)(h:Nat):Option bQ:=if h<n then σ h else none
section
variable {P:Program}{fn:Func}{c:Ctx}{fr:Fr}{H:aX}{k:List eh}
theorem b6.Zm {w:World}{a:Act}{σ:Nat→Option bQ}{S:Nat→Prop}{n:Nat}{bE:aX}(ad:b6 c w a σ S n fr H)(hlen:bE.length=H.length)(ax: ∀(h:Nat) (o':bk),bE[h]? =some (some o')→ ∃o:bk,H[h]? =some (some o)∧o'.ty=o.ty∧o'.c.len=o.c.len∧o'.c.bU=o.c.bU∧ ∀i j,i<o.c.len→j<o.c.aC→aV (o.c.at i j) (o'.c.at i j)):b6 c w a σ S n fr bE:=by
 refine ⟨⟨fun h o' aj=> ?_,fun h aL o o' b s C cl cF bO bW aD aE=> ?_,ad.ad.small,fun h au=>ad.ad.hG h (by rw [←hlen];exact au)⟩,⟨ad.bh.os,ad.bh.output,ad.bh.tape,ad.bh.size,ad.bh.block,ad.bh.hD,ad.bh.e4,ad.bh.fixed,fun h aN=>by rw [hlen];exact ad.bh.iY h aN,fun h o b s C q e=> ?_⟩,ad.defers,ad.size,ad.e8⟩
 ·obtain ⟨o,U,ab,aw,bg,bF⟩:=ax h o' aj;rw [aw,zc bg];rcases ad.ad.live h o U with g|⟨b,C,cur,g1,g2,g3,g4,g5,g6,g7⟩
  ·exact .inl g
  ·refine .inr ⟨b,C,cur,g1,g2.bU ab bg,g3,g4,g5,g6,fun i j aa ae=> ?_⟩;obtain ⟨v,eF,eG,gB⟩:=g7 i j aa ae;exact ⟨v,eF,bF i j aa ae _ _ _ _ eG,gB⟩
 ·obtain ⟨p,U,_⟩:=ax h o bO;obtain ⟨oQ,gf,_⟩:=ax aL o' bW;exact ad.ad.hi h aL p oQ b s C cl cF U gf aD aE
 ·obtain ⟨p,U,_⟩:=ax h o q;exact ad.bh.own h p b s C U e
theorem wR {all:Array Oper}{rest:List Oper}(bE:aX)(hlen:bE.length=H.length)(ax: ∀(h:Nat) (o':bk),bE[h]? =some (some o')→ ∃o:bk,H[h]? =some (some o)∧o'.ty=o.ty∧o'.c.len=o.c.len∧o'.c.bU=o.c.bU∧ ∀i j,i<o.c.len→j<o.c.aC→aV (o.c.at i j) (o'.c.at i j))(ao:ai P fn c (.ops false all rest k) fr bE):ai P fn c (.ops false all rest k) fr H:=fun hd w a σ S ad=>ao hd w a σ S (ad.Zm hlen ax)
end
theorem cg.args {P:Program}{f:FuncId}{dM gG:List al}{H:aX}{fix:Nat→Prop}{K:al→aX→Prop}(av:cg P f gG H fix K)(h:vM dM gG):cg P f dM H fix K:=by unfold cg at av⊢;refine ⟨av.1,fun w σ S ds aJ ad aN ah=>av.2 w σ S ds aJ ad aN ⟨ah.1.trans h.length,fun j ae=> ?_⟩⟩;rw [←h.length] at ae;exact h.get j ae _ _ _ _ (ah.2 j ae)
end Go.ai
namespace Go.ai
variable [bq]
theorem bD.abE {P:Program}{f:FuncId}{args q7:List al}{r:al}{H iT:aX}(av:bD P f args r)(iw:vi iT H)(e6: ∀(h:Nat) (o:bk),iT[h]? =some (some o)→eV o.c)(CJ:al.px iT q7=args)(dO:oe iT q7)(aF:cV.eR args=true)(ad:cV r=true)(ha:flat r=true):
 cg P f q7 H (fun h=>h<H.length) (fun dk bE=>dk=r∧bE=H):=by refine cg.over (av []) (fun h aU=>by simp at aU) iw e6 CJ dO aF ?_;rintro cH b7 ⟨rfl,rfl⟩;have ao:cH.k7 [] 0 H.length=cH:=bD.KP.KL ad;refine ⟨bD.KP.KI ad,fun h o aj=>by simp at aj,0,⟨0,.ints .i64 []⟩,.inl ⟨bR _,⟨ao,I⟩,.inr (by rw [ao];exact ha)⟩⟩
def fy (n:Nat):Cells→Prop
 | .mp ks vs=>nr n ks=true∧nr n vs=true
 |c=> ∀i j,i<c.len→j<c.aC→hc n (c.at i j)=true
theorem fy.row {n:Nat}{c:Cells}(h:fy n c): ∀i j,i<c.len→j<c.aC→hc n (c.at i j)=true:=by have bT:= ‹bq›;cases c<;>first|exact h|exact fun i j aa=>absurd aa (gy _)
theorem fy.mp {n:Nat}{c:Cells}(h:fy n c){ks vs:List al}(av:c= .mp ks vs):nr n ks=true∧nr n vs=true:=by have bT:= ‹bq›;subst av;exact h
theorem b6.IZ {c:Ctx}{w:World}{a:Act}{σ:Nat→Option bQ}{S:Nat→Prop}{n:Nat}{fr:Fr}{H b7 H1:aX}(ad:b6 c w a σ S n fr H)(lS:H=b7++H1)(aN: ∀h,c.fix h→h<b7.length)(xY: ∀(h:Nat) (o:bk),b7[h]? =some (some o)→fy b7.length o.c)(Jt:l4 b7.length fr=true):b6 c w a (EY b7.length σ) S n fr b7:=by
 subst lS;have ax: ∀h,h<b7.length→EY b7.length σ h=σ h:=fun h au=>aG au;have nL: ∀{h:Nat} {o:bk},b7[h]? =some (some o)→h<b7.length∧(b7++H1)[h]? =some (some o):=by intro h o aj;have au:h<b7.length:=(gL.1 aj).1;exact ⟨au,by rw [hQ au];exact aj⟩
 refine ⟨⟨fun h o aj=> ?_,fun h aL o o' b s C cl cF bO bW aD aE=> ?_,ad.ad.small,fun h au=>az J⟩,⟨ad.bh.os,ad.bh.output,ad.bh.tape,ad.bh.size,ad.bh.block,ad.bh.hD,ad.bh.e4,fun h aU=>by rw [ax h (aN h aU)];exact ad.bh.fixed h aU,aN,fun h o b s C q e=> ?_⟩,ad.defers,ad.size,fun t v au=>⟨(ad.e8 t v au).1,(ad.e8 t v au).2.uK (ahQ Jt au) _ ax⟩⟩
 ·obtain ⟨au,cU⟩:=nL aj;rw [ax h au];rcases ad.ad.live h o cU with g|⟨b,C,cur,g1,g2,g3,g4,g5,g6,g7⟩
  ·exact .inl g
  ·refine .inr ⟨b,C,cur,g1,g2.uK (fun ks vs av=>(xY h o aj).mp av) ax,g3,g4,g5,g6,fun i j aa ae=> ?_⟩;obtain ⟨v,eF,eG,gB⟩:=g7 i j aa ae;exact ⟨v,eF,eG.uK ((xY h o aj).row i j aa ae) _ ax,gB⟩
 ·obtain ⟨au,aj⟩:=nL bO;obtain ⟨k5,cU⟩:=nL bW;rw [ax h au] at aD;rw [ax aL k5] at aE;exact ad.ad.hi h aL o o' b s C cl cF aj cU aD aE
 ·obtain ⟨au,aj⟩:=nL q;rw [ax h au] at e;exact ad.bh.own h o b s C aj e
section
variable {P:Program}{fn:Func}{c:Ctx}{fr:Fr}{H:aX}{k:List eh}
theorem fC {x:Code}(b7 H1:aX)(L:Fr)(lS:H=b7++H1)(cv:j8 fr L)(aN: ∀h,c.fix h→h<b7.length)(xY: ∀(h:Nat) (o:bk),b7[h]? =some (some o)→fy b7.length o.c)(Jt:l4 b7.length L=true)(ao:ai P fn c (.code x k) L b7):ai P fn c (.code x k) fr H:=
 fun w a σ S ad=>ao w a _ S ((ad.weaken cv).IZ lS aN xY Jt)
theorem ajb {all:Array Oper}{d:Nat}{g:Operand}{f:FuncId}{args:List Operand}{h6:Array TypeId}{ty:TypeId}{pos:String}{after:Array Edge}{rest:List Oper}{cB dM gG xx:List al}{r:al}(iT:aX)(cX:bA fr g=some (.fn f cB))(a1:kD fr args=some dM)(has:dM++cB=gG)(au:al.px iT gG=xx)(k2:bD P f xx r)(iw:vi iT H)(e6: ∀(h:Nat) (o:bk),iT[h]? =some (some o)→eV o.c)(dO:oe iT gG)(aF:cV.eR xx=true)(ad:cV r=true)(ha:flat r=true)(ao:ai P fn c (.ops false all rest k) ((d,r)::fr) H):ai P fn c (.ops false all (⟨some d,.call {callee:= .value g,args:=args.toArray,argTypes:=h6},ty,pos,after,none⟩::rest) k) fr H:=
 Bp cX a1 has (bD.abE k2 iw e6 au dO aF ad ha) (fun _ h=>h) (fun _ h=>h) (fun dk bE h=>by obtain ⟨rfl,rfl⟩:=h;exact ao)
variable {ind:Bool}{d:Option Nat}{t cr ty:TypeId}{pos:String}{after:Array Edge}{g:Option (Nat×Bool)}
def IL (k:IntKind)(m n:Int):Int:=k.wrap ((BitVec.ofInt k.bits m &&& BitVec.ofInt k.bits n).toNat:Int)
def KX (k:IntKind)(m n:Int):Int:=k.wrap ((BitVec.ofInt k.bits m|||BitVec.ofInt k.bits n).toNat:Int)
def K8 (k:IntKind)(m n:Int):Int:=m.fdiv (2^(min n.toNat k.bits))
def Gu (k:IntKind)(m n:Int):Int:=k.wrap (m*2^(min n.toNat k.bits))
theorem adm {x y:Operand}{k:IntKind}{m n:Int}(ar:bA fr x=some (.int k m))(aY:bA fr y=some (.int k n)):
 bV ind P fn c fr H ⟨d,.binOp .and t x y cr,ty,pos,after,g⟩ (.int k (IL k m n)):=by intro w a σ S ad;have U:=ad.eZ ar;have ab:=ad.eZ aY;refine ⟨_,.int _ _ _,fun w' _=> ?_⟩;simp [execOp,U,ab,nh,binOp,Op.intBits,IL]
theorem ads {x y:Operand}{k:IntKind}{m n:Int}(ar:bA fr x=some (.int k m))(aY:bA fr y=some (.int k n)):
 bV ind P fn c fr H ⟨d,.binOp .or t x y cr,ty,pos,after,g⟩ (.int k (KX k m n)):=by intro w a σ S ad;have U:=ad.eZ ar;have ab:=ad.eZ aY;refine ⟨_,.int _ _ _,fun w' _=> ?_⟩;simp [execOp,U,ab,nh,binOp,Op.intBits,KX]
theorem adw {x y:Operand}{k cP:IntKind}{m n:Int}(ar:bA fr x=some (.int k m))(aY:bA fr y=some (.int cP n))(aF:0≤n):
 bV ind P fn c fr H ⟨d,.binOp .shr t x y cr,ty,pos,after,g⟩ (.int k (K8 k m n)):=by intro w a σ S ad;have U:=ad.eZ ar;have ab:=ad.eZ aY;refine ⟨_,.int _ _ _,fun w' _=> ?_⟩;have aw: ¬n<0:=J;simp [execOp,U,ab,nh,binOp,Op.shift,K8,aw]
theorem QH {x y:Operand}{k cP:IntKind}{m n:Int}(ar:bA fr x=some (.int k m))(aY:bA fr y=some (.int cP n))(aF:0≤n):
 bV ind P fn c fr H ⟨d,.binOp .shl t x y cr,ty,pos,after,g⟩ (.int k (Gu k m n)):=by intro w a σ S ad;have U:=ad.eZ ar;have ab:=ad.eZ aY;refine ⟨_,.int _ _ _,fun w' _=> ?_⟩;have aw: ¬n<0:=J;simp [execOp,U,ab,nh,binOp,Op.shift,Gu,aw]
end
end Go.ai
namespace Go.ai
variable [bq]
open Go.RowKit
section
variable {P:Program}{fn:Func}{c:Ctx}{fr:Fr}{H:aX}{k:List eh}{ind:Bool}{d:Option Nat}{ty:TypeId}{pos:String}{after:Array Edge}{g:Option (Nat×Bool)}
end
end Go.ai
namespace Go.ai
variable [bq]
open Go.ChangeShapes Go.WideShapes Go.ChangeAt Go.RowKit
section
variable {H:Type}{enc:TypeId×Value→H}{P:Program}{W:World}
abbrev EO (W:World):Nat→Prop:=fun b=>b<W.heap.size
def rD (W:World)(l:List al)(cs:List Value):Prop:=
 l.length=cs.length∧ ∀i,i<cs.length→bp W (EO W) (fun _=>none) (l.getD i .any) (cs.getD i undef)∧(cs.getD i undef).oneCell'=true
def hr {α:Type}(enc:TypeId×Value→H)(P:Program)(W:World)(t:TypeId)(n:Nat)(e:α→List al)(ok:α→Prop):Prop:=
 ∀fuel cs x,DataW.trod enc P W 0 (fun _=>true) true fuel t cs=some x→ ∃a,ok a∧cs.length=n∧rD W (e a) cs
theorem Ej {W:World}{v:al}{c:Value}(h:bp W (EO W) (fun _=>none) v c)(U:c.oneCell'=true):rD W [v] [c]:=by
 have bT:= ‹bq›;refine ⟨I,fun i aa=> ?_⟩;have:i=0:=by simpa using aa
 subst this;exact ⟨h,U⟩
theorem hr.int {t:TypeId}{k:IntKind}(bs:P.underlying t=some (.int k)):hr enc P W t 1 (fun n:Int=>[al.int k n]) (fun n=>(Lit.int k n).wf=true):=by intro fuel cs x h;obtain ⟨n,rfl,_,hw⟩:=DataW.trod_int bs h;exact ⟨n,hw,I,Ej (.int _ _ _) I⟩
theorem hr.str {t:TypeId}(bs:P.underlying t=some .string):hr enc P W t 1 (fun s:List UInt8=>[al.str s]) (fun s=>s.length≤9223372036854775807):=by
 intro fuel cs x h;obtain ⟨s,rfl,_,ax⟩:=DataW.trod_string bs h;have e:Value.string s=oh s.data.toList:=by show Value.string s=Value.string ⟨s.data.toList.toArray⟩;rw [BY]
 refine ⟨s.data.toList,?_,I,?_⟩
 ·unfold maxLen at ax;simpa using ax
 ·rw [e];exact Ej (.str _ _) rfl
def fl {α:Type}(d:α)(n:Nat)(e:α→List al)(l:List α):Cells:= .fn l.length n (fun i j=>(e (l.getD i d)).getD j .any)
theorem hr.slice {α:Type}{t cr:TypeId}{n:Nat}{e:α→List al}{ok:α→Prop}(d:α)(bs:P.underlying t=some (.slice cr))(av:P.cellsOf cr=n)(aF:Nat.blt 0 n=true)(h:hr enc P W cr n e ok):
 hr enc P W t 1 (fun l:List α=>[al.ro (fl d n e l) 0 l.length]) (fun l=>l.length≤9223372036854775807∧ ∀a∈l,ok a):=by
 have aF:=ir aF;intro fuel cs x ar;rcases DataW.trod_slice bs ar with ⟨rfl,_⟩|⟨a,len,cap,elems,rest,m,_,rfl,_,_,au,hm,hlen,Fs,_,_⟩
 ·exact ⟨[],⟨cf _,fun a a1=>by simp at a1⟩,I,Ej (.jJ _ _ _ _ _) I⟩
 subst av;have each: ∀i,i<len→ ∃z:α×List Value,ok z.1∧W.cells? 0 (a.add (i*P.cellsOf cr)) (P.cellsOf cr)=some z.2∧rD W (e z.1) z.2:=by intro i aa;have U:=Fs i aa;have ab:elems[i]? =some (elems[i]'J):=mL _;rw [ab,Option.bind_eq_some_iff] at U;obtain ⟨nG,uT,aY⟩:=U;obtain ⟨z,bw,aaX,KB⟩:=h _ _ _ aY;exact ⟨(z,nG),bw,uT,KB⟩
 cases len with
 |zero=>exact ⟨[],⟨cf _,fun a a1=>by simp at a1⟩,rfl,Ej (.jJ _ _ _ _ _) rfl⟩
 |succ len=>
  have a1:a=⟨a.block,a.off,none⟩∧a.block<W.heap.size:=by
   obtain ⟨z,_,uT,_⟩:=each 0 (Nat.succ_pos _);obtain ⟨_,z8,x0⟩:=World.cells?_some uT;have aO:=x0 0 aF;have mZ:z.2[0]? =some (z.2[0]'J):=mL _;rw [mZ] at aO;simp only [s0] at aO;have iX: ∀q:Addr,q.add 0=q:=by intro q;simp [Addr.add]
   rw [iX,iX] at aO;have FZ:a=⟨a.block,a.off,none⟩:=by
    have ak:=aO;unfold World.cell? at ak;split at ak
    ·cases FZ:a.spot with
     |none=>cases a;simp_all
     |some s=>simp [FZ] at ak
    ·cases ak
   refine ⟨FZ,?_⟩;rcases ga a.block W.heap.size with aU|aU
   ·exact aU
   ·rw [FZ] at aO;unfold World.cell? at aO;have:W.heap[a.block]? =none:=by simp [aU]
    simp [this] at aO
  let f:Nat→α×List Value:=fun i=>if aa:i<len+1 then Classical.choose (each i aa) else (d,[])
  have aN: ∀i,i<len+1→ok (f i).1∧W.cells? 0 (a.add (i*P.cellsOf cr)) (P.cellsOf cr)=some (f i).2∧rD W (e (f i).1) (f i).2:=by intro i aa;have:=q1 (each i aa);simp only [f,aa,uv];exact this
  let l:List α:=(List.range (len+1)).map (fun i=>(f i).1)
  have uY:l.length=len+1:=by simp [l]
  have ZU: ∀i,i<len+1→l.getD i d=(f i).1:=by intro i aa;simp [l,List.getD,aa]
  refine ⟨l,⟨by unfold maxLen at hm;omega,fun b ak=> ?_⟩,I,?_⟩
  ·obtain ⟨i,aa,rfl⟩:=da.1 ak;exact (aN i (q2.1 aa)).1
  ·refine Ej ?_ I;rw [a1.1,uY];refine .ro _ _ _ _ _ _ _ (fun i j=>(f i).2.getD j undef) a1.2 au (fun i j aa ae=> ?_) (fun i j aa ae=> ?_) (fun i j aa ae=> ?_);all_goals
    obtain ⟨g1,g2,g3,g4⟩:=aN i aa;obtain ⟨_,bW,dq⟩:=World.cells?_some g2;have bf:j<(f i).2.length:=by rw [bW];exact ae
   ·have aw:=dq j ae;rw [mL bf] at aw;rw [a1.1,add_plain,add_plain] at aw;show W.cell? ⟨a.block,a.off+i*P.cellsOf cr+j,none⟩=some ((f i).2.getD j undef);rw [aw,List.getD,mL bf];rfl
   ·show bp W (EO W) (fun _=>none) ((e (l.getD (0+i) d)).getD j .any) _;rw [c1,ZU i aa];exact (g4 j bf).1
   ·exact (g4 j bf).2
theorem rD.append {l fV:List al}{cs nG:List Value}(h:rD W l cs)(aL:rD W fV nG):rD W (l++fV) (cs++nG):=by
 have bT:= ‹bq›;refine ⟨by simp [h.1,aL.1],fun i aa=> ?_⟩;by_cases bC:i<cs.length
 ·have aD:(l++fV).getD i .any=l.getD i .any:=by simp [List.getD,oz,h.1,bC]
  have aE:(cs++nG).getD i undef=cs.getD i undef:=by simp [List.getD,oz,bC]
  rw [aD,aE];exact h.2 i bC
 ·have aD:(l++fV).getD i .any=fV.getD (i-cs.length) .any:=by simp [List.getD,oz,h.1,bC]
  have aE:(cs++nG).getD i undef=nG.getD (i-cs.length) undef:=by simp [List.getD,oz,bC]
  rw [aD,aE];exact aL.2 _ (by simp at aa;omega)
def p2 {α:Type}(enc:TypeId×Value→H)(P:Program)(W:World)(ev:List Field)(o n:Nat)(e:α→List al)(ok:α→Prop):Prop:=
 ∀fuel (cs:List Value) (m:Nat),cs.length=m→o+n=m→(∀f∈ev,∃x,DataW.trod enc P W 0 (fun _=>true) true fuel f.type ((cs.drop f.offset).take (P.cellsOf f.type))=some x)→ ∃a,ok a∧rD W (e a) (cs.drop o)
theorem p2.nil {o:Nat}:p2 enc P W [] o 0 (fun _:Unit=>[]) (fun _=>True):=by have bT:= ‹bq›;intro fuel cs m U ab _;refine ⟨(),trivial,?_⟩;rw [zp J];exact ⟨I,fun i aa=>by simp at aa⟩
theorem p2.cons {α β:Type}{f:Field}{ev:List Field}{o n m:Nat}{e:α→List al}{ok:α→Prop}{gY:β→List al}{C6:β→Prop}(aj:f.offset=o)(av:P.cellsOf f.type=n)(h:hr enc P W f.type n e ok)(aL:p2 enc P W ev (o+n) m gY C6):
 p2 enc P W (f::ev) o (n+m) (fun a:α×β=>e a.1++gY a.2) (fun a=>ok a.1∧C6 a.2):=by
 intro fuel cs k U ab aw;obtain ⟨x,ar⟩:=aw f bZ;obtain ⟨a,a1,au,ad⟩:=h _ _ _ ar;obtain ⟨b,ak,fA⟩:=aL fuel cs k U J (fun g cX=>aw g (by simp [cX]));refine ⟨(a,b),⟨a1,ak⟩,?_⟩;rw [aj,av] at ad;have aD:cs.drop o=(cs.drop o).take n++cs.drop (o+n):=by rw [←List.drop_drop,rV]
 rw [aD];exact ad.append fA
theorem hr.struct {α:Type}{t:TypeId}{ev:Array Field}{n:Nat}{e:α→List al}{ok:α→Prop}(bs:P.underlying t=some (.struct ev))(av:P.cellsOf t=n)(h:p2 enc P W ev.toList 0 n e ok):hr enc P W t n e ok:=by
 have bT:= ‹bq›;intro fuel cs x ar;obtain ⟨xs,m,_,_,au,mY,aN⟩:=DataW.trod_struct bs ar;obtain ⟨a,a1,ad⟩:=h m cs n J J (fun f Ph=>by
  obtain ⟨i,aa,rfl⟩:=ln Ph;have U:=aN i ev.toList[i] (by simp at aa;simp [aa]);have ab:xs[i]? =some (xs[i]'(by simp at aa;omega)):=mL _;rw [ab] at U;exact ⟨_,U⟩)
 exact ⟨a,a1,J,by simpa using ad⟩
theorem rD.conv {l fV:List al}{cs:List Value}(h:rD W l cs)(au:fV.length=l.length)(he: ∀i,i<l.length→aV (l.getD i .any) (fV.getD i .any)):rD W fV cs:=
 have bT:= ‹bq›;⟨au.trans h.1,fun i aa=>⟨he i (by rw [h.1];exact aa) _ _ _ _ (h.2 i aa).1,(h.2 i aa).2⟩⟩
theorem hr.map {α β:Type}{t:TypeId}{n:Nat}{e:α→List al}{ok:α→Prop}{gY:β→List al}{C6:β→Prop}(h:hr enc P W t n e ok)(f:α→β)(CL: ∀a,ok a→C6 (f a))(au: ∀a,(gY (f a)).length=(e a).length)(he: ∀a i,i<(e a).length→aV ((e a).getD i .any) ((gY (f a)).getD i .any)):hr enc P W t n gY C6:=by intro fuel cs x ar;obtain ⟨a,a1,U,ab⟩:=h fuel cs x ar;exact ⟨f a,CL a a1,U,ab.conv (au a) (he a)⟩
theorem akc (k:IntKind)(l:List Int):aV (.ro (fl 0 1 (fun n:Int=>[al.int k n]) l) 0 l.length) (.ro (.ints k l) 0 l.length):=by refine aV.ro I (fun d j hd ae=> ?_);have CF:j=0:=e5.1 ae;subst CF;rfl
theorem akd (l:List (List UInt8)):aV (.ro (fl [] 1 (fun s:List UInt8=>[al.str s]) l) 0 l.length) (.ro (.strs l) 0 l.length):=by refine aV.ro I (fun d j hd ae=> ?_);have CF:j=0:=e5.1 ae;subst CF;rfl
theorem hr.ints {t cr:TypeId}{k:IntKind}(bs:P.underlying t=some (.slice cr))(av:P.cellsOf cr=1)(ao:P.underlying cr=some (.int k)):
 hr enc P W t 1 (fun l:List Int=>[al.ro (.ints k l) 0 l.length]) (fun l=>l.length≤9223372036854775807∧ ∀n∈l,(Lit.int k n).wf=true):=
 (hr.slice 0 bs av rfl (hr.int ao)).map id (fun _ h=>h) (fun _=>rfl) (fun l i aa=>by
  have:i=0:=by simpa using aa
  subst this;exact akc k l)
theorem hr.strs {t cr:TypeId}(bs:P.underlying t=some (.slice cr))(av:P.cellsOf cr=1)(ao:P.underlying cr=some .string):
 hr enc P W t 1 (fun l:List (List UInt8)=>[al.ro (.strs l) 0 l.length]) (fun l=>l.length≤9223372036854775807∧ ∀s∈l,s.length≤9223372036854775807):=
 (hr.slice [] bs av rfl (hr.str ao)).map id (fun _ h=>h) (fun _=>rfl) (fun l i aa=>by
  have:i=0:=by simpa using aa
  subst this;exact akd l)
theorem hr.one {α:Type}{t:TypeId}{e:α→List al}{ok:α→Prop}{v:Value}{d:DataW H}{p:List MemPlace}(h:hr enc P W t 1 e ok)(ah:v.cells= #[v])(hd:DataW.Trod enc P W 0 (fun _=>true) true t v d p):
 ∃a,ok a∧bp W (EO W) (fun _=>none) ((e a).getD 0 .any) v:=by have bT:= ‹bq›;obtain ⟨fuel,ar⟩:=hd;rw [ah] at ar;obtain ⟨a,a1,_,ad⟩:=h _ _ _ ar;exact ⟨a,a1,(ad.2 0 fp).1⟩
end
end Go.ai
namespace Go.ai
variable [bq]
open Go.RowKit
section
variable {H:Type}{enc:TypeId×Value→H}{P:Program}{W:World}
end
end Go.ai
namespace Go.ai
variable [bq]
open Go.RowKit
section
variable {P:Program}{fn:Func}{c:Ctx}{fr:Fr}{H b7:aX}{k:List eh}{M:M}
theorem tH {all:Array Oper}{fuel:Nat}{listed:Array Bool}(L:Fr)(U:(∀fr,j8 fr L→ai P fn c (.any all fuel listed k) fr H)→ai P fn c M fr b7)(ab:ai P fn c (.any all fuel listed k) L H):ai P fn c M fr b7:=
 U (fun _ ao w a σ S ad=>ab w a σ S (ad.weaken ao))
theorem j4 {x:Code}(L:Fr)(U:(∀fr,j8 fr L→ai P fn c (.code x k) fr H)→ai P fn c M fr b7)(ab:ai P fn c (.code x k) L H):ai P fn c M fr b7:=
 U (fun _ ao w a σ S ad=>ab w a σ S (ad.weaken ao))
end
theorem Ul {gw:aX}{fr:Fr}: ∀{L:Fr},j8 fr L→Ck gw fr L
 |[],_=>have bT:= ‹bq›;trivial
 |(t,v)::r,h=>⟨⟨v,h.1,.inl rfl⟩,Ul h.2⟩
theorem agX (t:Nat)(v:al)(L:Fr):look t ((t,v)::L)=some v:=by have bT:= ‹bq›;show (bif Nat.beq t t then some v else _)=_;rw [ou];rfl
end Go.ai
namespace Go.ai
variable [bq]
open Go.RowKit
def K5 (P:Program)(t:TypeId)(x y:al):Option Bool:=match P.underlying t,x,y with
 |some (.int _),.int k a,.int cP b=>if k=cP then some (decide (a=b)) else none
 |some .string,.str a,.str b=>some (decide (a=b))
 |some .bool,.bool a,.bool b=>some (a==b)
 |_,_,_=>none
theorem ajd {P:Program}{w w':World}{S:Nat→Prop}{σ:Nat→Option bQ}{t:TypeId}{x y:al}{b:Bool}{v sB:Value}(h:K5 P t x y=some b)(ah:bp w S σ x v)(oN:bp w S σ y sB)(d:Nat):
 P.plainKey t=true∧(Op.equalIn (d+1) t v sB).run P w'= .ok b w':=by
 unfold K5 at h;split at h
 ·rename_i hu;split at h
  ·rename_i ao;subst ao;simp only [dy] at h;subst h;cases ah;cases oN;refine ⟨by simp [Program.plainKey,hu],?_⟩;rw [run_equalIn_int w' d t _ _ _ _ hu];rfl
  ·cases h
 ·rename_i hu;simp only [dy] at h;subst h;cases ah;cases oN;refine ⟨by simp [Program.plainKey,hu],?_⟩;simp only [oh];rw [run_equalIn_string w' d t _ _ hu,Sc,Sc];congr 1;rw [s3];simp
 ·rename_i hu;simp only [dy] at h;subst h;cases ah;cases oN;exact ⟨by simp [Program.plainKey,hu],run_equalIn_bool' w' d t _ _ hu⟩
 ·cases h
theorem VS {w:World}{S:Nat→Prop}{σ:Nat→Option bQ}{L:List al}{vs:Array Value}(au:vs.size=L.length)(ah: ∀i,i<L.length→bp w S σ (L.getD i .any) (vs.getD i undef)){o:Nat}{x:al}(h:L[o]? =some x): ∃v,vs[o]? =some v∧bp w S σ x v:=by
 have bT:= ‹bq›;have bC:o<L.length:=(gL.1 h).1;have aw:=ah o bC;have e:L.getD o .any=x:=by simp [List.getD,h]
 rw [e] at aw;exact ⟨_,by simp [Array.getD,au,bC],aw⟩
section
variable {P:Program}{fn:Func}{c:Ctx}{fr:Fr}{H:aX}{k:List eh}{ind:Bool}{d:Option Nat}{ty:TypeId}{pos:String}{after:Array Edge}{g:Option (Nat×Bool)}
end
end Go.ai
namespace Go.ai
variable [bq]
open Go.RowKit
def mJ (k:IntKind)(M:Nat):Prop:= ∀n:Int,k.wrap n=n%(M:Int)
theorem ey:mJ .u64 18446744073709551616:=have bT:= ‹bq›;fun n=>IntKind.wrap_u64 n
theorem kx:mJ .u32 4294967296:=have bT:= ‹bq›;fun n=>IntKind.wrap_u32 n
theorem mJ.in {k:IntKind}{M:Nat}(h:mJ k M){m:Nat}(hm:m<M):k.wrap (m:Int)=(m:Int):=by have bT:= ‹bq›;rw [h];exact Int.emod_eq_of_lt J J
theorem mJ.low {k:IntKind}{M:Nat}(h:mJ k M)(m:Nat):k.wrap (m:Int)=((m%M:Nat):Int):=by have bT:= ‹bq›;rw [h];simp
section
variable {P:Program}{fn:Func}{c:Ctx}{fr:Fr}{H:aX}{k:List eh}{ind:Bool}{d:Option Nat}{ty:TypeId}{pos:String}{after:Array Edge}{g:Option (Nat×Bool)}
theorem bV.res {o:Oper}{v sB:al}(h:bV ind P fn c fr H o v)(e:v=sB):bV ind P fn c fr H o sB:=e▸h
theorem gU {x:Operand}{src dst:TypeId}{dY cP:IntKind}{u:TypeDesc}{m M:Nat}(ax:P.underlying src=some u)(hd:P.underlying dst=some (.int cP))(ar:bA fr x=some (.int dY (m:Nat)))(ao:mJ cP M)(hm:m<M):
 bV ind P fn c fr H ⟨d,.convert src dst x,ty,pos,after,g⟩ (.int cP (m:Nat)):=(Nz ax hd ar).res (congrArg (al.int cP) (ao.in hm))
theorem vD {x:Operand}{src dst:TypeId}{dY cP:IntKind}{u:TypeDesc}{m M:Nat}(ax:P.underlying src=some u)(hd:P.underlying dst=some (.int cP))(ar:bA fr x=some (.int dY (m:Nat)))(ao:mJ cP M):
 bV ind P fn c fr H ⟨d,.convert src dst x,ty,pos,after,g⟩ (.int cP (m%M:Nat)):=(Nz ax hd ar).res (congrArg (al.int cP) (ao.low m))
theorem vE {x y:Operand}{t cr:TypeId}{k cP:IntKind}{m s:Nat}(ar:bA fr x=some (.int k (m:Nat)))(aY:bA fr y=some (.int cP (s:Nat)))(ak:Nat.ble s k.bits=true):
 bV ind P fn c fr H ⟨d,.binOp .shr t x y cr,ty,pos,after,g⟩ (.int k (m/2^s:Nat)):=by refine (adw ar aY J).res (congrArg (al.int k) ?_);have ax:s≤k.bits:=ir ak;unfold K8;rw [cA,hF ax,Int.fdiv_eq_ediv_of_nonneg _ (Int.pow_nonneg a6)];simp
theorem Er {x y:Operand}{t cr:TypeId}{k cP:IntKind}{m s M:Nat}(ar:bA fr x=some (.int k (m:Nat)))(aY:bA fr y=some (.int cP (s:Nat)))(ak:s≤k.bits)(ao:mJ k M)(hm:m*2^s<M):
 bV ind P fn c fr H ⟨d,.binOp .shl t x y cr,ty,pos,after,g⟩ (.int k (m*2^s:Nat)):=by refine (QH ar aY J).res (congrArg (al.int k) ?_);unfold Gu;rw [cA,hF ak];have:((m:Int)*2^s)=((m*2^s:Nat):Int):=bZ;rw [this];exact ao.in hm
theorem EV {k:IntKind}{M:Nat}(ao:mJ k M)(hj:M=2^k.bits){m:Nat}(hm:m<M):(BitVec.ofInt k.bits (m:Int)).toNat=m:=by have bT:= ‹bq›;subst hj;simp [BitVec.toNat_ofInt,mK hm]
theorem Ew {x y:Operand}{t cr:TypeId}{k:IntKind}{m n M:Nat}(ar:bA fr x=some (.int k (m:Nat)))(aY:bA fr y=some (.int k (n:Nat)))(ao:mJ k M)(hj:M=2^k.bits)(hm:m<M)(aF:n<M):
 bV ind P fn c fr H ⟨d,.binOp .or t x y cr,ty,pos,after,g⟩ (.int k (m|||n:Nat)):=by refine (ads ar aY).res (congrArg (al.int k) ?_);unfold KX;rw [BitVec.toNat_or,EV ao hj hm,EV ao hj aF];exact ao.in (by subst hj;exact Nat.or_lt_two_pow hm aF)
theorem adx {x y:Operand}{t cr:TypeId}{k:IntKind}{m n M:Nat}(ar:bA fr x=some (.int k (m:Nat)))(aY:bA fr y=some (.int k (n:Nat)))(ao:mJ k M)(hj:M=2^k.bits)(hm:m<M)(aF:n<M):
 bV ind P fn c fr H ⟨d,.binOp .and t x y cr,ty,pos,after,g⟩ (.int k (m &&& n:Nat)):=by refine (adm ar aY).res (congrArg (al.int k) ?_);unfold IL;rw [BitVec.toNat_and,EV ao hj hm,EV ao hj aF];exact ao.in (by subst hj;exact Nat.and_lt_two_pow m aF)
theorem ue {x y:Operand}{t cr:TypeId}{k:IntKind}{m n M:Nat}(ar:bA fr x=some (.int k (m:Nat)))(aY:bA fr y=some (.int k (n:Nat)))(ao:mJ k M)(hm:m+n<M):
 bV ind P fn c fr H ⟨d,.binOp .add t x y cr,ty,pos,after,g⟩ (.int k (m+n:Nat)):=by refine (Nn ar aY I).res (congrArg (al.int k) ?_);have:(m:Int)+(n:Int)=((m+n:Nat):Int):=bZ;rw [this];exact ao.in hm
theorem BF {x y:Operand}{t cr:TypeId}{k:IntKind}{m n M:Nat}(ar:bA fr x=some (.int k (m:Nat)))(aY:bA fr y=some (.int k (n:Nat)))(ao:mJ k M)(hm:m*n<M):
 bV ind P fn c fr H ⟨d,.binOp .mul t x y cr,ty,pos,after,g⟩ (.int k (m*n:Nat)):=by refine (Nn ar aY I).res (congrArg (al.int k) ?_);have:(m:Int)*(n:Int)=((m*n:Nat):Int):=bZ;rw [this];exact ao.in hm
theorem NA {x y:Operand}{t cr:TypeId}{k:IntKind}{m n M:Nat}(ar:bA fr x=some (.int k (m:Nat)))(aY:bA fr y=some (.int k (n:Nat)))(ao:mJ k M)(hm:m<M)(aF:n≤m):
 bV ind P fn c fr H ⟨d,.binOp .sub t x y cr,ty,pos,after,g⟩ (.int k (m-n:Nat)):=by refine (Nn ar aY I).res (congrArg (al.int k) ?_);have:(m:Int)-(n:Int)=((m-n:Nat):Int):=J;rw [this];exact ao.in J
theorem ady {x y:Operand}{t cr:TypeId}{k:IntKind}{m n:Nat}(ar:bA fr x=some (.int k (m:Nat)))(aY:bA fr y=some (.int k (n:Nat)))(aF:0<n):
 bV ind P fn c fr H ⟨d,.binOp .rem t x y cr,ty,pos,after,g⟩ (.int k (m%n:Nat)):=
 (adv ar aY ⟨J,J⟩).res (congrArg (al.int k) bZ)
theorem QI {x y:Operand}{t cr:TypeId}{k:IntKind}{m n M:Nat}(ar:bA fr x=some (.int k (m:Nat)))(aY:bA fr y=some (.int k (n:Nat)))(ao:mJ k M)(hm:m<M)(aF:0<n):
 bV ind P fn c fr H ⟨d,.binOp .quo t x y cr,ty,pos,after,g⟩ (.int k (m/n:Nat)):=by refine (adu ar aY J).res (congrArg (al.int k) ?_);have:(m:Int).tdiv (n:Int)=((m/n:Nat):Int):=bZ;rw [this];exact ao.in (rX (uz _ _) hm)
end
end Go.ai
namespace Go.ai
variable [bq]
open Go.RowKit
section
variable {P:Program}{fn:Func}{c:Ctx}{fr:Fr}{H:aX}{k:List eh}
end
end Go.ai
namespace Go.ai
variable [bq]
open Go.RowKit
section
variable {P:Program}{fn:Func}{c:Ctx}{fr:Fr}{H:aX}{k:List eh}
theorem Ws {all:Array Oper}{d:Nat}{t vj e:TypeId}{x y:Operand}{ty:TypeId}{pos:String}{after:Array Edge}{rest:List Oper}{inf:TypeInfo}{h i n:Nat}{o:bk}{v:al}{ea c':Cells}{i2 m q:Nat}(bs:P.underlying t=some (.slice e))(aa:P.info? e=some inf)(u3:inf.size=o.c.aC)(ar:bA fr x=some (.aA h i n))(aU:H[h]? =some (some o))(aY:bA fr y=some v)(ax:BN H v=some (ea,i2,m))(alv:i+n≤o.c.len)(aF:0<n)(dO:i2+m≤ea.len)(hm:0<m)(aB:Nat.min m n=q)(cY:c'.aC=o.c.aC)(eT:ea.aC=o.c.aC)(lz:c'.len=o.c.len)(l0: ∀aI j,aI<o.c.len→j<o.c.aC→c'.at aI j=if i≤aI∧aI<i+q then ea.at (i2+(aI-i)) j else o.c.at aI j)(ao:ai P fn c (.ops false all rest k) ((d,.int .i64 (q:Nat))::fr) (H.set h (some ⟨o.ty,c'⟩)))(bw:o.c.aC≠0:=by (intro aU;cases aU)):ai P fn c (.ops false all (⟨some d,.call {callee:= .builtin .copy,args:= #[x,y],argTypes:= #[t,vj]},ty,pos,after,none⟩::rest) k) fr H:=by
 refine uG (fun w a σ S ad=> ?_) ao;have U:=ad.dN ar;have ab:=ad.dN aY;have tn:=ad.src ab ax (fun _ _=>dO);have lT: ∀r w',(Builtin.copy_ #[t,vj] ty #[a.eval x,a.eval y]).run P w= .ok r w'→(execOp a.eval ⟨some d,.call {callee:= .builtin .copy,args:= #[x,y],argTypes:= #[t,vj]},ty,pos,after,none⟩).run P w= .ok (.value r) w':=by intro r w' h;simp [execOp,resolve,invoke,builtin,h]
 generalize F6:a.eval x=Rf at U lT;generalize lY:a.eval y=Rg at ab tn lT;unfold Src at tn;rw [eT] at tn;have aai:q≤m∧q≤n:=by subst aB;exact ⟨Nat.min_le_left _ _,Nat.min_le_right _ _⟩
 cases U with
 |hW _ _ bG=>omega
 |aA _ _ _ _ b s C cap bG hlen jE=>
  obtain ⟨gA,cur,g1,g2,g3,g4,g5,g6⟩:=ad.obj aU bG;subst gA;obtain ⟨mk,g1,nN,kF⟩:=g1.cells bw;rcases tn with ⟨rfl,mh,qa,rfl⟩|⟨iV,qa,news,rfl,bO,bW,dq,dZ⟩
  ·omega
  ·have hle:q*o.c.aC≤news.length:=by rw [bO];exact fo _ aai.1
   have su:(news.take (q*o.c.aC)).length=q*o.c.aC:=by rw [ff];omega
   have alq:i*o.c.aC+q*o.c.aC≤cur.size:=by rw [g2,←ef];exact fo _ J
   have aN:=run_firstCells_some (P:=P) w o.c.aC q iV m qa (news.take (q*o.c.aC)) su (fun j u hu=>by
    rw [pj] at hu;split at hu
    ·exact bW j u hu
    ·cases hu)
   have dH:=Dl P b (i*o.c.aC) o.ty mk (news.take (q*o.c.aC)) 0 cur w g1 nN (by rw [su];omega) (fun u hu=>dq u (oB hu));simp only [eQ,su] at dH;have ez:(Builtin.copy_ #[t,vj] ty #[.slice (some ⟨b,i*o.c.aC,none⟩) n cap,.slice (some iV) m qa]).run P w= .ok (.int .i64 (q:Nat)) (w.setRow b (cur.toList.take (i*o.c.aC)++news.take (q*o.c.aC)++cur.toList.drop (i*o.c.aC+q*o.c.aC)).toArray):=by simp [Builtin.copy_,run_underlying bs,sizeOf,typeInfo,aa,u3,Builtin.lenOf,aB,aN,dH,goInt]
   have sj:(cur.toList.take (i*o.c.aC)).length=i*o.c.aC:=by rw [ff];simp;omega
   refine ⟨_,_,σ,S,lT _ _ ez,ad.setRow aU bG kF cY J ?_ (fun aI j aP ae=> ?_),.int _ _ _⟩
   ·rw [←g2];simp;omega
   ·rw [lz] at aP;rw [cY] at ae⊢;rw [l0 aI j aP ae];split
    ·rename_i yg;obtain ⟨u,aD,aE⟩:=dZ (aI-i) j J ae;refine ⟨u,?_,aE,dq u (oA aD)⟩;have tj:aI*o.c.aC+j=i*o.c.aC+((aI-i)*o.c.aC+j):=by rw [←kC,←ef];congr 2;omega
     have bC:(aI-i)*o.c.aC+j<q*o.c.aC:=by have:(aI-i+1)*o.c.aC≤q*o.c.aC:=fo _ J;rw [ef] at this;omega
     simp only [zn,ll];rw [tj,jA J,sj,xA,hQ J,pj,aG bC];exact aD
    ·rename_i yg;obtain ⟨u,aD,aE,bM⟩:=g6 aI j aP ae;refine ⟨u,?_,aE,bM⟩;simp only [zn,ll];by_cases ya:aI<i
     ·have bC:aI*o.c.aC+j<i*o.c.aC:=by have:(aI+1)*o.c.aC≤i*o.c.aC:=fo _ J;rw [ef] at this;omega
      rw [hQ J,pj,aG bC];simpa using aD
     ·have oL:i+q≤aI:=J;have alu:i*o.c.aC+q*o.c.aC≤aI*o.c.aC+j:=by have:(i+q)*o.c.aC≤aI*o.c.aC:=fo _ oL;rw [ef] at this;omega
      rw [jA J,sj,jA J,su,List.getElem?_drop];rw [show i*o.c.aC+q*o.c.aC+(aI*o.c.aC+j-i*o.c.aC-q*o.c.aC)=aI*o.c.aC+j by omega];simpa using aD
theorem b6.WU {w w':World}{a:Act}{σ bu:Nat→Option bQ}{S bY:Nat→Prop}{n m:Nat}{bE:aX}{fix:Nat→Prop}{K:al→aX→Prop}(ad:b6 c w a σ S n fr H)(gP: ∀h,h<H.length→h≠m→fix h)(oK: ¬c.fix m)(sn:kX w' bY bu bE){aJ:o7 w S σ H}(hlen:H.length≤bE.length)(jn:vP (nv w S σ H fix K aJ) w' bY bu bE):
 b6 c w' a bu bY n (np m fr) bE:=by
 have b2: ∀h,h≠m→ ∀B,σ h=some B→bu h=some B:=by
  intro h hm B cZ;have bC:h<H.length:=by
   rcases ga h H.length with au|au
   ·exact au
   ·rw [ad.ad.hG h au] at cZ;cases cZ
  rw [jn.fixed h (gP h bC hm)];exact cZ
 have Ji: ∀b,S b→ ¬qK σ H b:=by rintro b ax ⟨h,o,s,C,U,ab⟩;exact (ad.obj U ab).2.choose_spec.2.2.2.2.1 ax
 have dp: ∀b,S b→w'.heap[b]? =w.heap[b]? :=fun b ax=>jn.block b (ad.ad.small b ax) (Ji b ax);refine ⟨sn,?_,ad.defers,ad.size,fun t v au=> ?_⟩
 ·refine ⟨jn.os.trans ad.bh.os,jn.output.trans ad.bh.output,jn.tape.trans ad.bh.tape,dT ad.bh.size jn.size,fun b ak aj=> ?_,fun b ak=>jn.hD b (ad.bh.hD b ak),fun b ak=> ?_,fun h aN=> ?_,fun h aN=>hE (ad.bh.iY h aN) hlen,fun h o b s C U ab=> ?_⟩
  ·rw [←ad.bh.block b ak aj];have qh:=ad.bh.size;refine jn.block b (by simp only [nv];omega) ?_;rintro ⟨h,o,s,C,U,ab⟩;rcases ad.bh.own h o b s C U ab with aw|aw
   ·exact aj aw
   ·omega
  ·rcases jn.e4 b ak with U|U|U
   ·exact ad.bh.e4 b U
   ·obtain ⟨h,o,s,C,g1,g2⟩:=U;rcases ad.bh.own h o b s C g1 g2 with g3|g3
    ·exact .inr (.inl g3)
    ·exact .inr (.inr g3)
   ·right;right;have:=ad.bh.size;simp only [nv] at U;omega
  ·have hm:h≠m:=fun e=>oK (e▸aN);rw [jn.fixed h (gP h (ad.bh.iY h aN) hm)];exact ad.bh.fixed h aN
  ·rcases jn.own h o b s C U ab with ⟨aL,o',cl,cF,g1,g2⟩|aw
   ·exact ad.bh.own aL o' b cl cF g1 g2
   ·right;have:=ad.bh.size;simp only [nv] at aw;omega
 ·rw [Dv] at au;cases aB:look t fr with
  |none=>simp [aB] at au
  |some v0=>
   simp [aB] at au;subst au;obtain ⟨s1,s2⟩:=ad.e8 t v0 aB;refine ⟨s1,?_⟩;have tx:=s2.forget (h:=m) (fun h=>if h=m then bu m else σ h) (fun aL aU=>by simp [aU]);exact tx.mono jn.hD dp _ (fun h B cZ=>by
    by_cases aU:h=m
    ·subst aU;simpa using cZ
    ·simp only [aU,gW] at cZ;exact b2 h aU B cZ)
theorem T0 {all:Array Oper}{d:Option Nat}{g:Operand}{args:List Operand}{h6:Array TypeId}{ty:TypeId}{pos:String}{after:Array Edge}{rest:List Oper}{f:FuncId}{cB dM gG:List al}{fix:Nat→Prop}{K:al→aX→Prop}(m:Nat)(cX:bA fr g=some (.fn f cB))(a1:kD fr args=some dM)(has:dM++cB=gG)(k2:cg P f gG H fix K)(gP: ∀h,h<H.length→h≠m→fix h)(ha: ∀h,fix h→h<H.length)(oK: ¬c.fix m)(ao: ∀r bE,K r bE→H.length≤bE.length∧ai P fn c (.ops false all rest k) (match d with|some d=>(d,r)::np m fr|none=>np m fr) bE):ai P fn c (.ops false all (⟨d,.call {callee:= .value g,args:=args.toArray,argTypes:=h6},ty,pos,after,none⟩::rest) k) fr H:=by
 intro hd w a σ S ad;obtain ⟨iK,jF⟩:=sI hd;obtain ⟨⟨Yb,zY,JP,Fw⟩,av⟩:=k2;subst has;have U:=ad.dN cX;obtain ⟨aD,aE⟩:=DW ad args dM a1;generalize bw:a.eval g=z at U;refine wpList_step (fun gm Je=> ?_);simp only [Region.wanted,fS];unfold Oper.wp;cases U with
 |fn _ _ _ vs au ah=>
  have ez:(execOp a.eval ⟨d,.call {callee:= .value g,args:=args.toArray,argTypes:=h6},ty,pos,after,none⟩).run P w= .ok (.enter f ((args.map a.eval).toArray++vs)) w:=by simp only [execOp,resolve,bw,Deferred.ofValue,Sem.run_bind,Sem.run_pure,Result.andThen_ok,invoke,callFunc,List.map_toArray,Array.empty_append,program,Sem.run,zY];simp [JP,Fw]
  rw [ez];have Fk:om w S σ (dM++cB) ((args.map a.eval).toArray++vs):=by
   refine ⟨by simp [aD,au],fun i aa=> ?_⟩;simp only [c2] at aa;by_cases bC:i<dM.length
   ·have:=aE i bC;have wm:i<args.length:=J;have sc:(dM++cB).getD i .any=dM.getD i .any:=by simp [List.getD,oz,bC]
    have nI:((args.map a.eval).toArray++vs).getD i undef=(args.map a.eval).getD i undef:=by simp [BZ,wm,List.getD]
    rw [sc,nI];exact this
   ·have:=ah (i-dM.length) J;have jo: ¬i<args.length:=J;have sc:(dM++cB).getD i .any=cB.getD (i-dM.length) .any:=by simp [List.getD,oz,bC]
    have nI:((args.map a.eval).toArray++vs).getD i undef=vs.getD (i-dM.length) undef:=by simp [BZ,aD,bC]
    rw [sc,nI];exact this
  refine Calls.mono (av w σ S _ ad.Qz ad.ad ha Fk) ?_;rintro e w' ⟨v,r,bu,bY,bE,rfl,g1,g2,g3,g4⟩;obtain ⟨hlen,mW⟩:=ao r bE g4;have jI:=ad.WU gP oK g1 hlen g3;refine Je _ _ ?_;cases d with
  |none=>exact mW jF w' _ bu bY jI
  |some d=>exact mW jF w' _ bu bY (jI.put g2 (iK d rfl))
end
end Go.ai
namespace Go.ai
variable [bq]
open Go.RowKit
section
variable {ind:Bool}{P:Program}{fn:Func}{c:Ctx}{fr:Fr}{H:aX}{k:List eh}{d:Option Nat}{ty:TypeId}{pos:String}{after:Array Edge}{g:Option (Nat×Bool)}
end
end Go.ai
namespace Go.ai
variable [bq]
open Go.RowKit
section
variable {P:Program}{fn:Func}{c:Ctx}{fr:Fr}{H:aX}{k:List eh}
theorem Yc {h:Nat}{o:bk}(aU:H[h]? =some (some o)):vi (List.replicate h none++[some o]) H:=by
 have bT:= ‹bq›;intro aL o' aj;rcases B1 aL h with q|q|q
 ·rw [hQ (by simpa using q)] at aj;simp [s4,q] at aj
 ·subst q;rw [jA bZ] at aj;simp at aj;subst aj;exact aU
 ·rw [jT (by simp;omega)] at aj;cases aj
theorem ajB {h:Nat}{o:bk}(e6:eV o.c): ∀(aL:Nat) (o':bk),(List.replicate h none++[some o]:aX)[aL]? =some (some o')→eV o'.c:=by
 have bT:= ‹bq›;intro aL o' aj;have hm:=oA aj;rcases gz.1 hm with q|q
 ·have:=(zq.1 q).2;cases this
 ·simp at q;subst q;exact e6
theorem Vl {h:Nat}{o:bk}:(List.replicate h none++[some o]:aX)[h]? =some (some o):=by have bT:= ‹bq›;rw [jA bZ];simp
theorem b6.OE {w:World}{a:Act}{σ:Nat→Option bQ}{S:Nat→Prop}{N:Nat}(ad:b6 c w a σ S N fr H)(h t n:Nat){o:bk}(L:Fr)(aU:H[h]? =some (some o))(e6:eV o.c)(au:look t fr=some (.aA h 0 n))(aF:n≤o.c.len)(cv:j8 fr L):
 ∃bY,b6 c w a σ bY N ((t,.ro o.c 0 n)::L) (H.set h none):=by
 have bC:h<H.length:=(gL.1 aU).1;refine ad.freeze (List.replicate h none++[some o]) (H.set h none) (Yc aU) (ajB e6) bZ ?_ ⟨⟨_,au,.inr (.inr ⟨?_,?_⟩)⟩,Ul cv⟩
 ·intro aL o' aj;have b2:aL≠h:=by rintro rfl;rw [nB bC] at aj;cases aj
  rw [k0 (p4 b2)] at aj;refine ⟨fun o2 ab=> ?_,o',aj,I,I,I,fun i j _ _=> .inl I⟩;rcases ga aL h with q|q
  ·rw [hQ (by simpa using q)] at ab;simp [s4,q] at ab
  ·rw [jT (by simp;omega)] at ab;cases ab
 ·simp only [al.kh,Vl]
 ·intro o2 ab;rw [Vl] at ab;cases ab;omega
theorem rC {all:Array Oper}{rest:List Oper}(h t n:Nat){o:bk}(L:Fr)(aU:H[h]? =some (some o))(e6:eV o.c)(au:look t fr=some (.aA h 0 n))(aF:n≤o.c.len)(cv:j8 fr L)(ao:ai P fn c (.ops false all rest k) ((t,.ro o.c 0 n)::L) (H.set h none)):ai P fn c (.ops false all rest k) fr H:=by intro hd w a σ S ad;obtain ⟨bY,fA⟩:=ad.OE h t n L aU e6 au aF cv;exact ao hd w a σ bY fA
theorem mx {x:Code}(h t n:Nat){o:bk}(L:Fr)(aU:H[h]? =some (some o))(e6:eV o.c)(au:look t fr=some (.aA h 0 n))(aF:n≤o.c.len)(cv:j8 fr L)(ao:ai P fn c (.code x k) ((t,.ro o.c 0 n)::L) (H.set h none)):ai P fn c (.code x k) fr H:=by intro w a σ S ad;obtain ⟨bY,fA⟩:=ad.OE h t n L aU e6 au aF cv;exact ao w a σ bY fA
theorem c7 {q:Bool}{all:Array Oper}{rest:List Oper}(bE:aX)(he:H=bE)(ao:ai P fn c (.ops q all rest k) fr bE):ai P fn c (.ops q all rest k) fr H:=by subst he;exact ao
variable {ind:Bool}{d:Option Nat}{ty:TypeId}{pos:String}{after:Array Edge}{g:Option (Nat×Bool)}
theorem Rr {op:BinOp}{t:TypeId}{x y:Operand}{a b:Bool}{w:World}:(eqGuard op t x y (.bool a) (.bool b)).run P w= .ok () w:=by have bT:= ‹bq›;unfold eqGuard;split<;>rfl
theorem Md {x y:Operand}{t cr:TypeId}{a b:Bool}(bs:P.underlying t=some .bool)(ar:bA fr x=some (.bool a))(aY:bA fr y=some (.bool b)):bV ind P fn c fr H ⟨d,.binOp .neq t x y cr,ty,pos,after,g⟩ (.bool (!(a==b))):=by intro w ac σ S ad;refine ⟨_,.bool _ _,fun w' _=> ?_⟩;have U:=ad.zJ ar;have ab:=ad.zJ aY;have aw:=run_neq_bool (P:=P) w' t a b bs;simp [execOp,U,ab,Rr,aw];try (cases a<;>cases b<;>rfl)
theorem MW {x y:Operand}{t cr:TypeId}{a b:Bool}(bs:P.underlying t=some .bool)(ar:bA fr x=some (.bool a))(aY:bA fr y=some (.bool b)):bV ind P fn c fr H ⟨d,.binOp .eql t x y cr,ty,pos,after,g⟩ (.bool (a==b)):=by intro w ac σ S ad;refine ⟨_,.bool _ _,fun w' _=> ?_⟩;have U:=ad.zJ ar;have ab:=ad.zJ aY;have aw:=run_eql_bool (P:=P) w' t a b bs;simp [execOp,U,ab,Rr,aw]
theorem Vv {x y:Operand}{t cr:TypeId}{dY cP:IntKind}{m s M:Nat}(ar:bA fr x=some (.int dY (m:Nat)))(aY:bA fr y=some (.int cP (s:Nat)))(ak:s≤dY.bits)(ao:mJ dY M):
 bV ind P fn c fr H ⟨d,.binOp .shl t x y cr,ty,pos,after,g⟩ (.int dY (m*2^s%M:Nat)):=by refine (QH ar aY J).res (congrArg (al.int dY) ?_);unfold Gu;rw [cA,hF ak];have:((m:Int)*2^s)=((m*2^s:Nat):Int):=bZ;rw [this];exact ao.low _
end
end Go.ai
namespace Go.ai
variable [bq]
open Go.RowKit
theorem GD {fr:Fr}: ∀{K:Fr},(∀p∈K,look p.1 fr=some p.2)→j8 fr K
 |[],_=>have bT:= ‹bq›;trivial
 |(t,v)::r,h=>⟨h (t,v) bZ,GD (fun p aJ=>h p (by simp [aJ]))⟩
theorem GF {fr:Fr}: ∀{K:Fr},j8 fr K→ ∀p∈K,look p.1 fr=some p.2
 |[],_,p,aJ=>have bT:= ‹bq›;by simp at aJ
 |(t,v)::r,h,p,aJ=>by
  rcases fT.1 aJ with rfl|aJ
  ·exact h.1
  ·exact GF h.2 p aJ
theorem HJ {fr K:Fr}(h:j8 fr K){o:Operand}{v:al}(he:bA K o=some v):bA fr o=some v:=by
 have bT:= ‹bq›;cases o with
 |tmp t=>exact DA h he
 |const x=>exact he
 | «global» g=>cases he
 |func f=>exact he
theorem Ma {fr K:Fr}(h:j8 fr K): ∀{xs:List Operand} {l:List al},kD K xs=some l→kD fr xs=some l
 |[],l,he=>have bT:= ‹bq›;he
 |x::r,l,he=>by
  simp only [kD] at he⊢;split at he
  ·rename_i v ah;split at he
   ·rename_i q aB;rw [HJ h ah,Ma h aB];exact he
   ·cases he
  ·cases he
section
variable {P:Program}{fn:Func}{c:Ctx}{fr:Fr}{H:aX}{k:List eh}
def hb (P:Program)(fn:Func)(c:Ctx)(H:aX)(all:Array Oper)(K:Fr)(o:Oper)(d:Nat)(v:al):Prop:=
 ∀(k:List eh) (fr:Fr),j8 fr K→ai P fn c (.ops false all [] k) ((d,v)::fr) H→ai P fn c (.ops false all [o] k) fr H
theorem QB {all:Array Oper}{K:Fr}{d:Nat}{op:Op}{ty:TypeId}{pos:String}{after:Array Edge}{v:al}(h:bV false P fn c K H ⟨some d,op,ty,pos,after,none⟩ v):hb P fn c H all K ⟨some d,op,ty,pos,after,none⟩ d v:=
 fun k fr ao ab=>an (fun w a σ S ad=>h w a σ S (ad.weaken ao)) ab
theorem adh {all:Array Oper}{K:Fr}{d:Nat}{g:Operand}{args:List Operand}{h6:Array TypeId}{ty:TypeId}{pos:String}{after:Array Edge}{f:FuncId}{cB dM gG:List al}{r:al}(cX:bA K g=some (.fn f cB))(a1:kD K args=some dM)(has:dM++cB=gG)(k2:bD P f gG r):
 hb P fn c H all K ⟨some d,.call {callee:= .value g,args:=args.toArray,argTypes:=h6},ty,pos,after,none⟩ d r:=
 fun k fr ao ab=>aZ (HJ ao cX) (Ma ao a1) has k2 ab
theorem ajX {all:Array Oper}{K:Fr}{d:Nat}{op:Op}{ty:TypeId}{pos:String}{after:Array Edge}{v:al}{j t:Nat}{p:Bool}(aY:pS all j=some t)(ak:look t K=some (.bool p))(h:hb P fn c H all K ⟨some d,op,ty,pos,after,none⟩ d v):hb P fn c H all K ⟨some d,op,ty,pos,after,some (j,p)⟩ d v:=
 fun k fr ao ab=>lf aY (DA ao ak) (h k fr ao ab)
theorem adg {all:Array Oper}{K:Fr}{d:Nat}{op:Op}{ty:TypeId}{pos:String}{after:Array Edge}{j t:Nat}{p b:Bool}(aY:pS all j=some t)(ak:look t K=some (.bool b))(b2:(b==p)=false):hb P fn c H all K ⟨some d,op,ty,pos,after,some (j,p)⟩ d (.cd []):=
 fun k fr ao ab=>sG aY (DA ao ak) b2 ab
theorem ajW {all:Array Oper}{K:Fr}{d:Nat}{op:Op}{ty:TypeId}{pos:String}{after:Array Edge}{j t:Nat}{p:Bool}(aY:pS all j=some t)(ak:look t K=some (.cd [])):hb P fn c H all K ⟨some d,op,ty,pos,after,some (j,p)⟩ d (.cd []):=
 fun k fr ao ab=>Lj aY (DA ao ak) ab
abbrev Steps:=List (Nat×Nat×al)
def sQ (st:Steps)(et:Fr)(o:Oper):Fr:=((st.filter (fun s=>o.after.toList.any (fun e=>Nat.beq e.on s.1 && Region.binds .any e))).map (fun s=>s.2))++et
def lH (P:Program)(fn:Func)(c:Ctx)(H:aX)(all:Array Oper)(et:Fr):List Nat→Steps→(Steps→Prop)→Prop
 |[],st,G=>G st
 |i::r,st,G=> ∃o d v,all[i]? =some o∧o.dst=some d∧hb P fn c H all (sQ st et o) o d v∧lH P fn c H all et r ((i,d,v)::st) G
theorem H3 {all:Array Oper}{et:Fr}{i:Nat}{r:List Nat}{st:Steps}{G:Steps→Prop}{d:Nat}{op:Op}{ty:TypeId}{pos:String}{after:Array Edge}{v:al}(aa:all[i]? =some ⟨some d,op,ty,pos,after,none⟩)(pF:hb P fn c H all (sQ st et ⟨some d,op,ty,pos,after,none⟩) ⟨some d,op,ty,pos,after,none⟩ d v)(h:lH P fn c H all et r ((i,d,v)::st) G):lH P fn c H all et (i::r) st G:=
 ⟨_,_,_,aa,rfl,pF,h⟩
theorem cy {all:Array Oper}{et:Fr}{i:Nat}{r:List Nat}{st:Steps}{G:Steps→Prop}{d:Nat}{op:Op}{ty:TypeId}{pos:String}{after:Array Edge}{v:al}{K:Fr}(aa:all[i]? =some ⟨some d,op,ty,pos,after,none⟩)(dn:sQ st et ⟨some d,op,ty,pos,after,none⟩=K)(pF:bV false P fn c K H ⟨some d,op,ty,pos,after,none⟩ v)(h:lH P fn c H all et r ((i,d,v)::st) G):lH P fn c H all et (i::r) st G:=
 H3 aa (dn▸QB pF) h
theorem en {all:Array Oper}{et:Fr}{i:Nat}{r:List Nat}{st:Steps}{G:Steps→Prop}{d:Nat}{g:Operand}{args:List Operand}{h6:Array TypeId}{ty:TypeId}{pos:String}{after:Array Edge}{f:FuncId}{cB dM gG:List al}{v:al}{K:Fr}(aa:all[i]? =some ⟨some d,.call {callee:= .value g,args:=args.toArray,argTypes:=h6},ty,pos,after,none⟩)(dn:sQ st et ⟨some d,.call {callee:= .value g,args:=args.toArray,argTypes:=h6},ty,pos,after,none⟩=K)(cX:bA K g=some (.fn f cB))(a1:kD K args=some dM)(has:dM++cB=gG)(k2:bD P f gG v)(h:lH P fn c H all et r ((i,d,v)::st) G):lH P fn c H all et (i::r) st G:=
 H3 aa (dn▸adh cX a1 has k2) h
theorem ku {all:Array Oper}{et:Fr}{i:Nat}{r:List Nat}{st:Steps}{G:Steps→Prop}{d:Nat}{op:Op}{ty:TypeId}{pos:String}{after:Array Edge}{v:al}{K:Fr}{j t:Nat}{p:Bool}(aa:all[i]? =some ⟨some d,op,ty,pos,after,some (j,p)⟩)(dn:sQ st et ⟨some d,op,ty,pos,after,some (j,p)⟩=K)(aY:pS all j=some t)(ak:look t K=some (.bool p))(pF:bV false P fn c K H ⟨some d,op,ty,pos,after,none⟩ v)(h:lH P fn c H all et r ((i,d,v)::st) G):lH P fn c H all et (i::r) st G:=
 ⟨_,_,_,aa,rfl,dn▸ajX aY ak (QB pF),h⟩
theorem l9 {all:Array Oper}{et:Fr}{i:Nat}{r:List Nat}{st:Steps}{G:Steps→Prop}{d:Nat}{op:Op}{ty:TypeId}{pos:String}{after:Array Edge}{K:Fr}{j t:Nat}{p b:Bool}(aa:all[i]? =some ⟨some d,op,ty,pos,after,some (j,p)⟩)(dn:sQ st et ⟨some d,op,ty,pos,after,some (j,p)⟩=K)(aY:pS all j=some t)(ak:look t K=some (.bool b))(b2:(b==p)=false)(h:lH P fn c H all et r ((i,d,.cd [])::st) G):lH P fn c H all et (i::r) st G:=
 ⟨_,_,_,aa,rfl,dn▸adg aY ak b2,h⟩
theorem o0 {all:Array Oper}{et:Fr}{i:Nat}{r:List Nat}{st:Steps}{G:Steps→Prop}{d:Nat}{op:Op}{ty:TypeId}{pos:String}{after:Array Edge}{K:Fr}{j t:Nat}{p:Bool}(aa:all[i]? =some ⟨some d,op,ty,pos,after,some (j,p)⟩)(dn:sQ st et ⟨some d,op,ty,pos,after,some (j,p)⟩=K)(aY:pS all j=some t)(ak:look t K=some (.cd []))(h:lH P fn c H all et r ((i,d,.cd [])::st) G):lH P fn c H all et (i::r) st G:=
 ⟨_,_,_,aa,rfl,dn▸ajW aY ak,h⟩
theorem fc {all:Array Oper}{et:Fr}{st:Steps}{G:Steps→Prop}(h:G st):lH P fn c H all et [] st G:=h
def By (P:Program)(fn:Func)(c:Ctx)(H:aX)(all:Array Oper)(et:Fr)(st:Steps)(s:Nat×Nat×al):Prop:=
 ∃o K,all[s.1]? =some o∧o.dst=some s.2.1∧hb P fn c H all K o s.2.1 s.2.2∧ ∀p∈K,p∈et∨ ∃cl∈st,(∃e∈o.after,Region.binds .any e=true∧e.on=cl.1)∧cl.2=p
theorem By.mono {all:Array Oper}{et:Fr}{st vg:Steps}{s:Nat×Nat×al}(ax: ∀x∈st,x∈vg)(h:By P fn c H all et st s):By P fn c H all et vg s:=by
 obtain ⟨o,K,U,ab,aw,bg⟩:=h;refine ⟨o,K,U,ab,aw,fun p aJ=> ?_⟩;rcases bg p aJ with q|⟨cl,bO,bW⟩
 ·exact .inl q
 ·exact .inr ⟨cl,ax _ bO,bW⟩
theorem Rp {all:Array Oper}{et:Fr}{G:Steps→Prop}: ∀{idx:List Nat} {st:Steps},lH P fn c H all et idx st G→(∀s∈st,By P fn c H all et st s)→ ∃vg,G vg∧vg.map (·.1)=idx.reverse++st.map (·.1)∧(∀s∈vg,By P fn c H all et vg s)
 |[],st,h,ax=>⟨st,h,bZ,ax⟩
 |i::r,st,h,ax=>by
  obtain ⟨o,d,v,U,ab,aw,bg⟩:=h;have iw: ∀x∈st,x∈(i,d,v)::st:=fun x ar=>uA _ ar;have yi:By P fn c H all et ((i,d,v)::st) (i,d,v):=by
   refine ⟨o,sQ st et o,U,ab,aw,fun p aJ=> ?_⟩;unfold sQ at aJ;rcases gz.1 aJ with q|q
   ·obtain ⟨s,bO,bW⟩:=da.1 q;obtain ⟨dq,dZ⟩:=xB.1 bO;obtain ⟨e,gR,iz⟩:=nC.1 dZ;rw [ei] at iz;exact .inr ⟨s,iw _ dq,⟨e,zr.1 gR,iz.2,ot iz.1⟩,bW⟩
   ·exact .inl q
  obtain ⟨vg,g1,g2,g3⟩:=Rp bg (fun s gA=>by
   rcases fT.1 gA with rfl|q
   ·exact yi
   ·exact (ax s q).mono iw)
  exact ⟨vg,g1,by rw [g2];simp,g3⟩
theorem Sd {all:Array Oper}{fuel:Nat}{listed:Array Bool}: ∀{is:List Nat},(∀i∈is,∀o,all[i]? =some o→ai P fn c (.ops false all [o] (.any all fuel (listed.setIfInBounds i true)::k)) fr H)→EB P fn c all fuel listed k fr H is
 |[],_=>trivial
 |i::r,h=>⟨h i bZ,Sd (fun j ae=>h j (by simp [ae]))⟩
def yT (listed:Array Bool)(idx:List Nat):Array Bool:=idx.foldl (fun a i=>a.setIfInBounds i true) listed
theorem Ro: ∀(idx:List Nat) (listed:Array Bool),(yT listed idx).size=listed.size
 |[],_=>have bT:= ‹bq›;rfl
 |i::r,listed=>by have:=Ro r (listed.setIfInBounds i true);simpa [yT] using this
theorem Rq: ∀(idx:List Nat) (listed:Array Bool) (j:Nat),j<listed.size→(yT listed idx)[j]? =if j∈idx then some true else listed[j]?
 |[],_,j,_=>have bT:= ‹bq›;by simp [yT]
 |i::r,listed,j,ae=>by
  have h:=Rq r (listed.setIfInBounds i true) j (by simpa using ae);have e:yT listed (i::r)=yT (listed.setIfInBounds i true) r:=rfl;rw [e,h];by_cases U:j∈r
  ·simp [U]
  ·by_cases ab:i=j
   ·subst ab;simp [U,ae]
   ·have aw: ¬j=i:=fun e=>ab e.symm;simp [U,ab,aw,zl]
def Df (cur:Array Bool)(st:Steps):Nat:=(st.filter (fun s=> !cur.getD s.1 true)).length
variable {ind:Bool}{d:Option Nat}{ty:TypeId}{pos:String}{after:Array Edge}{g:Option (Nat×Bool)}
theorem GH {x:Operand}{t:TypeId}{u:TypeDesc}{h i j:Nat}{bc:bk}{inf:TypeInfo}{L:List al}(bs:P.underlying t=some u)(hu:iP u=true)(ib:P.info? t=some inf)(cq:Nat.ble (j+inf.size) bc.c.aC=true)(ar:bA fr x=some (.ptr h i j))(aU:H[h]? =some (some bc))(cv:(List.range inf.size).map (fun e=>bc.c.at i (j+e))=L)(aa:i<bc.c.len):bV false P fn c fr H ⟨d,.load t x,ty,pos,after,g⟩ (.agg L):=by
 intro w a σ S ad;have U:=ad.dN ar;subst cv;have aau:=ir cq;generalize bw:a.eval x=z at U;cases U with
 |ptr _ _ _ _ b s C bG=>
  obtain ⟨gA,cur,g1,g2,g3,g4,g5,g6⟩:=ad.obj aU bG;subst gA;have mU: ∀w':World,w'.heap=w.heap→ ∀e,e<inf.size→ ∃y,w'.cell? ⟨b,i*bc.c.aC+j+e,none⟩=some y∧bp w S σ (bc.c.at i (j+e)) y∧y.oneCell'=true:=by intro w' hw e he;obtain ⟨y,aD,aE,bM⟩:=g6 i (j+e) aa J;obtain ⟨mk,g1,_,_⟩:=g1.cells J;exact ⟨y,by simp [World.cell?,hw,g1,kC,aD],aE,bM⟩
  let cs:List Value:=(List.range inf.size).map (fun e=>(w.cell? ⟨b,i*bc.c.aC+j+e,none⟩).getD undef)
  refine ⟨.agg cs.toArray,.agg _ _ _ (by simp [cs]) (fun e he=> ?_) (fun e he=> ?_),fun w' hw=> ?_⟩
  ·have CB:e<inf.size:=by simpa using he
   obtain ⟨y,aD,aE,_⟩:=mU w rfl e CB;simpa [cs,Array.getD,CB,aD,List.getD] using aE
  ·have CB:e<inf.size:=by simpa using he
   obtain ⟨y,aD,_,bM⟩:=mU w rfl e CB;simpa [cs,Array.getD,CB,aD] using bM
  ·have hw:=hw.resolve_left a6;have au:=run_loadCells_list (P:=P) w' ⟨b,i*bc.c.aC+j,none⟩ cs (fun e v ah=>by
    have he:e<inf.size:=by simpa [cs] using (gL.1 ah).1
    obtain ⟨y,aD,_,_⟩:=mU w rfl e he;simp only [cs,me,uw he,rW,dy] at ah;subst ah;rw [aD,Addr.add_lit];have:=World.cell?_of_block (w:=w) (w':=w') (a:=⟨b,i*bc.c.aC+j+e,none⟩) (by rw [hw]);rw [this,aD];rfl)
   have gZ:cs.length=inf.size:=by simp [cs]
   rw [gZ] at au;have KA:a.eval x= .pointer (some ⟨b,i*bc.c.aC+j,none⟩):=by rw [bw]
   simp [execOp,KA,Instr.loadAt,Instr.sureAddr,loadVar,wZ bs,hu,sizeOf,typeInfo,ib,au]
end
end Go.ai
namespace Go.ai
variable [bq]
open Go.RowKit
section
variable {ind:Bool}{P:Program}{fn:Func}{c:Ctx}{fr:Fr}{H:aX}{k:List eh}
variable {d:Option Nat}{ty:TypeId}{pos:String}{after:Array Edge}{g:Option (Nat×Bool)}
theorem agK {all:Array Oper}{t:TypeId}{x y:Operand}{ty:TypeId}{pos:String}{after:Array Edge}{rest:List Oper}{h i j s:Nat}{bc:bk}{L:List al}{c':Cells}(ar:bA fr x=some (.ptr h i j))(aY:bA fr y=some (.agg L))(ax:(P.info? t).map (·.size)=some s)(aU:H[h]? =some (some bc))(au:L.length=s)(ae:j+s≤bc.c.aC)(aa:i<bc.c.len)(U:c'.len=bc.c.len)(ab:c'.aC=bc.c.aC)(aw: ∀aI a7,aI<bc.c.len→a7<bc.c.aC→c'.at aI a7=if aI=i∧j≤a7∧a7<j+s then L.getD (a7-j) .any else bc.c.at aI a7)(ao:ai P fn c (.ops false all rest k) fr (H.set h (some ⟨bc.ty,c'⟩)))(mZ:bc.c.aC≠0:=by (intro aU;cases aU)):ai P fn c (.ops false all (⟨none,.store t x y,ty,pos,after,none⟩::rest) k) fr H:=by
 refine Ev (fun w a σ S ad=> ?_) ao;have aD:=ad.dN ar;have aE:=ad.dN aY;generalize bw:a.eval x=z at aD;generalize lY:a.eval y=u at aE;cases aE with
 |agg _ _ vs u6 hU yj=>
  cases aD with
  |ptr _ _ _ _ b cl C bG=>
   obtain ⟨gA,cur,g1,g2,g3,g4,g5,g6⟩:=ad.obj aU bG;subst gA;obtain ⟨mk,g1,nN,kF⟩:=g1.cells mZ;have th:i*bc.c.aC+bc.c.aC≤cur.size:=by rw [g2];have:(i+1)*bc.c.aC≤C*bc.c.aC:=fo _ J;rw [ef] at this;omega
   have qi:vs.size=s:=by rw [u6,au]
   have dH:=Dl P b (i*bc.c.aC+j) bc.ty mk vs.toList 0 cur w g1 nN (by simp [qi];omega) (fun v ah=>by
    obtain ⟨j,ae,rfl⟩:=ln ah;have bf:j<vs.size:=by simpa using ae
    have:=yj j (by rw [←u6];exact bf);simpa [Array.getD,bf] using this)
   simp only [eQ] at dH;generalize iJ:(cur.toList.take (i*bc.c.aC+j)++vs.toList++cur.toList.drop (i*bc.c.aC+j+vs.toList.length)).toArray=cur' at dH;have J0:cur'.size=cur.size:=by rw [←iJ];simp [qi];omega
   have hk: ∀p,p<cur.size→cur'[p]? =if i*bc.c.aC+j≤p∧p<i*bc.c.aC+j+s then vs[p-(i*bc.c.aC+j)]? else cur[p]? :=by
    intro p aJ;rw [←iJ];simp only [zn,ll];by_cases eY:p<i*bc.c.aC+j
    ·rw [hQ (by simp;omega),pj,aG eY,az J];simp
    ·rw [jA (by simp;omega)];have bs:(cur.toList.take (i*bc.c.aC+j)).length=i*bc.c.aC+j:=by simp;omega
     rw [bs];by_cases h8:p<i*bc.c.aC+j+s
     ·rw [hQ (by simp [qi];omega),aG ⟨J,h8⟩];simp
     ·rw [jA (by simp [qi];omega),az J];simp only [Array.length_toList,qi,List.getElem?_drop,Array.getElem?_toList];congr 1;omega
   refine ⟨w.setRow b cur',σ,S,?_,ad.setRow aU bG kF ab J (by rw [J0,g2]) (fun aI a7 aP bf=> ?_)⟩
   ·simp only [execOp,bw,lY,Instr.storeAt,Instr.sureAddr,storeVar,Sem.run_bind,Sem.run_pure,Result.andThen_ok,yU ax,Value.cells,qi];simp [dH]
   ·rw [U] at aP;rw [ab] at bf⊢;rw [aw aI a7 aP bf];have aJ:aI*bc.c.aC+a7<cur.size:=by rw [g2];have:(aI+1)*bc.c.aC≤C*bc.c.aC:=fo _ J;rw [ef] at this;omega
    rw [hk _ aJ];by_cases he:aI=i∧j≤a7∧a7<j+s
    ·obtain ⟨he,bO,bW⟩:=he;subst he;rw [aG (show aI*bc.c.aC+j≤aI*bc.c.aC+a7∧aI*bc.c.aC+a7<aI*bc.c.aC+j+s from ⟨J,J⟩),aG ⟨rfl,bO,bW⟩];have JU:a7-j<vs.size:=J;have bM:aI*bc.c.aC+a7-(aI*bc.c.aC+j)=a7-j:=J;rw [bM];refine ⟨vs.getD (a7-j) undef,by simp [Array.getD,JU],hU (a7-j) J,yj (a7-j) J⟩
    ·rw [az he];have b2: ¬(i*bc.c.aC+j≤aI*bc.c.aC+a7∧aI*bc.c.aC+a7<i*bc.c.aC+j+s):=by
      rintro ⟨bO,bW⟩;by_cases uW:aI=i
      ·subst uW;exact he ⟨rfl,J,J⟩
      rcases Nat.lt_or_gt_of_ne uW with bC|bC
      ·have:(aI+1)*bc.c.aC≤i*bc.c.aC:=fo _ bC;rw [ef] at this;omega
      ·have:(i+1)*bc.c.aC≤aI*bc.c.aC:=fo _ bC;rw [ef] at this;omega
     rw [az b2];exact g6 aI a7 aP bf
def fO {α:Type}(t:TypeId)(f:α→Cells)(l:List α):aX:=l.map (fun a=>some ⟨t,f a⟩)
theorem tM {α:Type}(t:TypeId)(f:α→Cells)(l:List α):(fO t f l).length=l.length:=by have bT:= ‹bq›;simp [fO]
theorem S6 {α:Type}(t:TypeId)(f:α→Cells)(l:List α)(d:α){i:Nat}(aa:i<l.length):(fO t f l)[i]? =some (some ⟨t,f (l.getD i d)⟩):=by have bT:= ‹bq›;simp [fO,List.getD,aa]
theorem S7 {α:Type}(t:TypeId)(f:α→Cells)(l:List α)(i:Nat)(x:α):(fO t f l).set i (some ⟨t,f x⟩)=fO t f (l.set i x):=by have bT:= ‹bq›;simp [fO,List.map_set]
theorem Sn {α:Type}(t:TypeId)(f:α→Cells)(l:List α)(x:α):fO t f l++[some ⟨t,f x⟩]=fO t f (l++[x]):=by have bT:= ‹bq›;simp [fO]
theorem TZ {A B:aX}{h:Nat}(aU:h<A.length):(A++B)[h]? =A[h]? :=by have bT:= ‹bq›;exact hQ aU
theorem sK {A B:aX}{h i:Nat}(aU:h=A.length+i):(A++B)[h]? =B[i]? :=by have bT:= ‹bq›;subst aU;rw [jA J];congr 1;omega
theorem oY {A B:aX}{h i:Nat}(x:Option bk)(aU:h=A.length+i):(A++B).set h x=A++B.set i x:=by have bT:= ‹bq›;subst aU;rw [zt _ _ J];congr 2;omega
theorem Tw {A B:aX}{h:Nat}(x:Option bk)(aU:h<A.length):(A++B).set h x=A.set h x++B:=by have bT:= ‹bq›;rw [List.set_append_left _ _ aU]
end
end Go.ai
namespace Go.ai
variable [bq]
open Go.RowKit
mutual
def al.shift (N:Nat):al→al
 | .aA h i n=> .aA (h+N) i n
 | .ptr h i j=> .ptr (h+N) i j
 | .fn f l=> .fn f (al.qp N l)
 | .agg l=> .agg (al.qp N l)
 | .cd l=> .cd (al.qp N l)
 | .mp h=> .mp (h+N)
 |v=>v
def al.qp (N:Nat):List al→List al
 |[]=>[]
 |v::r=>v.shift N::al.qp N r
end
theorem rq (N:Nat)(l:List al):(al.qp N l).length=l.length:=by
 have bT:= ‹bq›;induction l with
 |nil=>rfl
 |cons v r a8=>simp [al.qp,a8]
theorem AX (N:Nat)(l:List al)(i:Nat)(aa:i<l.length):(al.qp N l).getD i .any=(l.getD i .any).shift N:=by
 have bT:= ‹bq›;induction l generalizing i with
 |nil=>simp at aa
 |cons v r a8=>cases i with
  |zero=>rfl
  |succ i=>simpa [al.qp] using a8 i (by simpa using aa)
theorem bp.shift {w:World}{S:Nat→Prop}{σ:Nat→Option bQ}{x:al}{v:Value}{N:Nat}(ah:bp w S σ x v): ∀bu:Nat→Option bQ,(∀h B,σ h=some B→bu (h+N)=some B)→bp w S bu (x.shift N) v:=by
 induction ah with
 |int=>intros;constructor
 |bool=>intros;constructor
 |str=>intros;constructor
 |nil=>intros;constructor
 |jJ=>intros;constructor
 |ro σ c i len b o cap val e1 hlen av ah U a8=>intro bu _;exact .ro _ _ _ _ _ _ _ val e1 hlen av ah U
 |aA σ aL i len b s C cap bG hlen jE=>intro bu ax;exact .aA _ _ _ _ _ _ _ _ (ax _ _ bG) hlen jE
 |hW σ aL bG=>intro bu ax;exact .hW _ _ (ax _ _ bG)
 |de σ c i j b o val e1 av ah U a8=>intro bu _;exact .de _ _ _ _ _ _ val e1 av ah U
 |ptr σ aL i j b s C bG=>intro bu ax;exact .ptr _ _ _ _ _ _ _ (ax _ _ bG)
 |oP=>intros;constructor
 |fn σ f cap vs au ah a8=>intro bu ax;exact .fn _ _ _ _ (by rw [rq];exact au) (fun i aa=>by rw [rq] at aa;rw [AX N cap i aa];exact a8 i aa bu ax)
 |oO=>intros;constructor
 |iface=>intros;constructor
 |nd=>intros;constructor
 |agg σ l vs au ah U a8=>intro bu ax;exact .agg _ _ _ (by rw [rq];exact au) (fun i aa=>by rw [rq] at aa;rw [AX N l i aa];exact a8 i aa bu ax) (fun i aa=>U i (by rwa [rq] at aa))
 |cd σ l vs au ah a8=>intro bu ax;exact .cd _ _ _ (by rw [rq];exact au) (fun i aa=>by rw [rq] at aa;rw [AX N l i aa];exact a8 i aa bu ax)
 |mp σ aL b bG=>intro bu ax;exact .mp _ _ _ (ax _ _ bG)
 |jK σ ks vs b es clock e e1 ak aF au hd he ao ah=>intro bu ax;exact .jK _ _ _ b es clock e e1 ak aF au hd he ao ah
 |any=>intros;constructor
def Cells.shift (N:Nat):Cells→Cells
 | .ints k l=> .ints k l
 | .strs l=> .strs l
 | .box l=> .box (al.qp N l)
 | .mp ks vs=> .mp (al.qp N ks) (al.qp N vs)
 | .fn n s f=> .fn n s (fun i j=>(f i j).shift N)
theorem Cells.K6 (N:Nat)(c:Cells):(c.shift N).len=c.len:=by have bT:= ‹bq›;cases c<;>rfl
theorem Cells.K7 (N:Nat)(c:Cells):(c.shift N).aC=c.aC:=by cases c<;>first|rfl|exact rq _ _
theorem Cells.aeR (N:Nat)(c:Cells)(i j:Nat)(ae:j<c.aC):(c.shift N).at i j=(c.at i j).shift N:=by
 cases c with
 |box l=>exact AX N l j ae
 |_=>rfl
def Es (N:Nat):Option bk→Option bk
 |some o=>some ⟨o.ty,o.c.shift N⟩
 |none=>none
def n4 (N:Nat):aX→aX
 |[]=>[]
 |o::r=>Es N o::n4 N r
theorem Sv (N:Nat)(H:aX)(i:Nat):(n4 N H)[i]? =(H[i]?).map (Es N):=by
 have bT:= ‹bq›;induction H generalizing i with
 |nil=>simp [n4]
 |cons o r a8=>cases i with
  |zero=>simp [n4]
  |succ i=>simpa [n4] using a8 i
theorem agE (N:Nat)(H:aX):(n4 N H).length=H.length:=by
 have bT:= ‹bq›;induction H with
 |nil=>rfl
 |cons o r a8=>simp [n4,a8]
theorem Lays.shift {w:World}{S:Nat→Prop}{σ bu:Nat→Option bQ}{t:TypeId}{c:Cells}{b:Nat}{cur:Array Value}{C:Nat}{N:Nat}(ax: ∀h B,σ h=some B→bu (h+N)=some B)(cv:Lays w S σ ⟨t,c⟩ b cur C):Lays w S bu ⟨t,c.shift N⟩ b cur C:=by
 have bT:= ‹bq›;cases cv with
 |row mk h hm dR=>exact .row mk h hm dR
 |map ks vs es clock av dR h aF au hd he=>
  simp only at av;subst av;exact .map _ _ es clock I dR h (by rw [rq];exact aF) (by rw [rq,rq];exact au) hd (fun i aa=>by
   rw [rq] at aa;obtain ⟨e,aD,aE,bM⟩:=he i aa;exact ⟨e,aD,by rw [AX _ _ _ aa];exact aE.shift bu ax,by rw [AX _ _ _ J];exact bM.shift bu ax⟩)
def oa (N:Nat)(σ pf:Nat→Option bQ)(h:Nat):Option bQ:=if h<N then σ h else pf (h-N)
theorem LF {N:Nat}{σ pf:Nat→Option bQ}: ∀h B,pf h=some B→oa N σ pf (h+N)=some B:=by have bT:= ‹bq›;intro h B cZ;unfold oa;rw [az J,Nat.add_sub_cancel];exact cZ
theorem kX.join {w:World}{S:Nat→Prop}{σ pf:Nat→Option bQ}{H b7:aX}(h:kX w S σ H)(aO:kX w S pf b7)(hd: ∀h aL o o' b s C cl cF,H[h]? =some (some o)→b7[aL]? =some (some o')→σ h=some (.at b s C)→pf aL=some (.at b cl cF)→False):
 kX w S (oa H.length σ pf) (H++n4 H.length b7):=by
 have Ft: ∀h B,σ h=some B→oa H.length σ pf h=some B:=by
  intro aL B cZ;unfold oa;split
  ·exact cZ
  ·rename_i au;rw [h.hG aL J] at cZ;cases cZ
 have JA: ∀aL o',(H++n4 H.length b7)[aL]? =some (some o')→(aL<H.length∧H[aL]? =some (some o'))∨(H.length≤aL∧ ∃o,b7[aL-H.length]? =some (some o)∧o'=⟨o.ty,o.c.shift H.length⟩):=by
  intro aL o' aj;by_cases he:aL<H.length
  ·rw [hQ he] at aj;exact .inl ⟨he,aj⟩
  ·rw [jA J,Sv] at aj;cases e:b7[aL-H.length]? with
   |none=>rw [e] at aj;cases aj
   |some x=>
    rw [e] at aj;cases x with
    |none=>simp [Es] at aj
    |some o=>simp [Es] at aj;exact .inr ⟨J,o,rfl,aj.symm⟩
 refine ⟨fun aL o' aj=> ?_,fun U ab o1 o2 b s C cl cF bO bW aD aE=> ?_,h.small,fun aL au=> ?_⟩
 ·rcases JA aL o' aj with ⟨au,cU⟩|⟨au,o,cU,rfl⟩
  ·rcases h.live aL o' cU with ⟨U,ab⟩|⟨b,C,cur,U,ab,aw,bg,bF,dm,fi⟩
   ·exact .inl ⟨Ft _ _ U,ab⟩
   ·refine .inr ⟨b,C,cur,Ft _ _ U,ab.mono I (fun ah=>ah.mono (fun _ h=>h) (fun _ _=>rfl) _ Ft),aw,bg,bF,dm,fun i j aa ae=> ?_⟩;obtain ⟨v,aD,aE,bM⟩:=fi i j aa ae;exact ⟨v,aD,aE.mono (fun _ h=>h) (fun _ _=>rfl) _ Ft,bM⟩
  ·have ae:oa H.length σ pf aL=pf (aL-H.length):=by unfold oa;rw [az J]
   rw [ae];rcases aO.live _ o cU with ⟨U,ab⟩|⟨b,C,cur,U,ab,aw,bg,bF,dm,fi⟩
   ·exact .inl ⟨U,by rw [Cells.K6];exact ab⟩
   ·refine .inr ⟨b,C,cur,by rw [Cells.K7];exact U,Lays.shift LF ab,by rw [Cells.K7];exact aw,bg,by rw [Cells.K6];exact bF,dm,fun i j aa ae=> ?_⟩;rw [Cells.K6] at aa;rw [Cells.K7] at ae⊢;obtain ⟨v,aD,aE,bM⟩:=fi i j aa ae;exact ⟨v,aD,by rw [Cells.aeR _ _ _ _ ae];exact aE.shift _ LF,bM⟩
 ·rcases JA U o1 bO with ⟨gh,gq⟩|⟨gh,hA,gq,rfl⟩<;>rcases JA ab o2 bW with ⟨fB,gJ⟩|⟨fB,ih,gJ,rfl⟩
  ·unfold oa at aD aE;rw [aG gh] at aD;rw [aG fB] at aE;exact h.hi U ab o1 o2 b s C cl cF gq gJ aD aE
  ·unfold oa at aD aE;rw [aG gh] at aD;rw [az J] at aE;exact (hd _ _ _ _ _ _ _ _ _ gq gJ aD aE).elim
  ·unfold oa at aD aE;rw [az J] at aD;rw [aG fB] at aE;exact (hd _ _ _ _ _ _ _ _ _ gJ gq aE aD).elim
  ·unfold oa at aD aE;rw [az J] at aD aE;have:=aO.hi _ _ hA ih b s C cl cF gq gJ aD aE;omega
 ·rw [c2,agE] at au;unfold oa;rw [az J];exact aO.hG _ J
theorem cg.lift {P:Program}{f:FuncId}{args:List al}{fix:Nat→Prop}{K gm:al→aX→Prop}{H:aX}(av:cg P f args [] fix K)(kj: ∀h,¬fix h)(aF:cV.eR args=true)(dn: ∀(cH:al) (b7:aX),K cH b7→gm (cH.shift H.length) (H++n4 H.length b7)):cg P f args H (fun h=>h<H.length) gm:=by
 refine ⟨av.1,fun w σ S ds aJ ad aN ah=> ?_⟩;have wu:o7 w S (fun _=>none) []:=aJ.less (fun _ h=>h) (fun _ h=>h.nil);refine (av.2 w (fun _=>none) S ds wu ad.empty (fun h aU=>absurd aU (kj h)) (ah.closed aF _)).mono ?_;rintro e w' ⟨v,cH,bu,bY,b7,rfl,g1,g2,g3,g4⟩;obtain ⟨gx,a2⟩:=kX.after ad g1 g3;have a3:=a2 gm aJ;have eO: ∀b,¬qK (fun _=>none) [] b:=by rintro b ⟨h,o,s,C,U,_⟩;simp at U
 have FH: ∀h o b s C,H[h]? =some (some o)→σ h=some (.at b s C)→b<w.heap.size:=by
  intro h o b s C aj ak;rcases ad.live h o aj with ⟨aF,_⟩|⟨b',cF,cur,fj,g,_⟩
  ·rw [ak] at aF;cases aF
  ·rw [ak] at fj;simp only [dy,bQ.at.injEq] at fj;rw [fj.1];exact g.lt
 have pE: ∀h o b s C,b7[h]? =some (some o)→bu h=some (.at b s C)→w.heap.size≤b:=by
  intro h o b s C aj ak;rcases g3.own h o b s C aj ak with aw|aw
  ·exact absurd aw (eO b)
  ·exact aw
 have ae:=gx.join g1 (fun h aL o o' b s C cl cF bO bW aD aE=>by
  have:=FH h o b s C bO aD;have:=pE aL o' b cl cF bW aE;omega)
 refine ⟨v,_,_,bY,_,I,ae,g2.shift _ LF,⟨a3.os,a3.output,a3.tape,a3.size,a3.block,a3.hD,a3.e4,fun h au=> ?_,fun h au=> ?_,fun h o b s C aj ak=> ?_⟩,dn cH b7 g4⟩
 ·have au:h<H.length:=au;show oa H.length σ bu h=σ h;unfold oa;rw [aG au]
 ·have au:h<H.length:=au;rw [c2];omega
 ·by_cases he:h<H.length
  ·rw [hQ he] at aj;unfold oa at ak;rw [aG he] at ak;exact .inl ⟨h,o,s,C,aj,ak⟩
  ·rw [jA J,Sv] at aj;unfold oa at ak;rw [az he] at ak;cases e:b7[h-H.length]? with
   |none=>rw [e] at aj;cases aj
   |some x=>
    rw [e] at aj;cases x with
    |none=>simp [Es] at aj
    |some o'=>exact .inr (pE _ o' b s C e ak)
def EE (P:Program)(f:FuncId)(args:List al)(r:al)(b7:aX):Prop:= ∀H,cg P f args H (fun h=>h<H.length) (fun dk bE=>dk=r.shift H.length∧bE=H++n4 H.length b7)
theorem cg.many {P:Program}{f:FuncId}{args:List al}{fix:Nat→Prop}{r:al}{b7:aX}(av:cg P f args [] fix (fun dk bE=>dk=r∧bE=b7))(kj: ∀h,¬fix h)(aF:cV.eR args=true):EE P f args r b7:=fun H=>
 av.lift kj aF (fun cH H1 h=>by obtain ⟨rfl,rfl⟩:=h;exact ⟨rfl,rfl⟩)
section
variable {P:Program}{fn:Func}{c:Ctx}{fr:Fr}{H:aX}{k:List eh}{all:Array Oper}{d:Nat}{g:Operand}{args:List Operand}{h6:Array TypeId}{ty:TypeId}{pos:String}{after:Array Edge}{rest:List Oper}{f:FuncId}
theorem HD {cB dM gG:List al}{r:al}{b7:aX}(dk:al)(bE:aX)(cX:bA fr g=some (.fn f cB))(a1:kD fr args=some dM)(has:dM++cB=gG)(k2:EE P f gG r b7)(ad:r.shift H.length=dk)(lS:H++n4 H.length b7=bE)(ao:ai P fn c (.ops false all rest k) ((d,dk)::fr) bE):ai P fn c (.ops false all (⟨some d,.call {callee:= .value g,args:=args.toArray,argTypes:=h6},ty,pos,after,none⟩::rest) k) fr H:=
 Bp cX a1 has (k2 H) (fun _ h=>h) (fun _ h=>h) (fun gq H1 h=>by obtain ⟨rfl,rfl⟩:=h;subst ad;subst lS;exact ao)
end
mutual
theorem ahv: ∀(x:al),cV x=true→ ∀N,x.shift N=x
 | .int _ _,_,_=>rfl
 | .bool _,_,_=>rfl
 | .str _,_,_=>rfl
 | .nil,_,_=>rfl
 | .ro _ _ _,_,_=>rfl
 | .aA _ _ _,h,_=>by simp [cV] at h
 | .de _ _ _,_,_=>rfl
 | .ptr _ _ _,h,_=>by simp [cV] at h
 | .oP,_,_=>rfl
 | .fn f l,h,N=>by have bT:= ‹bq›;simp only [al.shift];rw [GQ l (by simpa [cV] using h) N]
 | .oO,_,_=>rfl
 | .iface,_,_=>rfl
 | .nd,_,_=>rfl
 | .agg l,h,N=>by simp only [al.shift];rw [GQ l (by simpa [cV] using h) N]
 | .cd l,h,N=>by simp only [al.shift];rw [GQ l (by simpa [cV] using h) N]
 | .mp _,h,_=>by simp [cV] at h
 | .jK _ _,_,_=>rfl
 | .any,_,_=>rfl
theorem GQ: ∀(l:List al),cV.eR l=true→ ∀N,al.qp N l=l
 |[],_,_=>rfl
 |v::r,h,N=>by have bT:= ‹bq›;simp only [cV.eR,ei] at h;simp only [al.qp];rw [ahv v h.1 N,GQ r h.2 N]
end
end Go.ai
namespace Go.ai
variable [bq]
open Go.RowKit
def eU {α:Type}(O:bk)(t:TypeId)(f:α→Cells)(X:List α)(L:aX):aX:=some O::(fO t f X++L)
section
variable {α:Type}{O:bk}{t:TypeId}{f:α→Cells}{X:List α}{L:aX}
theorem D3:(eU O t f X L).length=X.length+1+L.length:=by have bT:= ‹bq›;unfold eU;rw [fZ,c2,tM];omega
theorem MN (d:α){a:Nat}(a1:a<X.length):(eU O t f X L)[a+1]? =some (some ⟨t,f (X.getD a d)⟩):=by have bT:= ‹bq›;show (fO t f X++L)[a]? =_;rw [TZ (by rw [tM];exact a1),S6 t f X d a1]
theorem MM {j:Nat}:(eU O t f X L)[X.length+1+j]? =L[j]? :=by have bT:= ‹bq›;rw [show X.length+1+j=(X.length+j)+1 by omega];show (fO t f X++L)[X.length+j]? =_;exact sK (by rw [tM])
theorem RJ {a:Nat}(x:α)(a1:a<X.length):(eU O t f X L).set (a+1) (some ⟨t,f x⟩)=eU O t f (X.set a x) L:=by have bT:= ‹bq›;show some O::(fO t f X++L).set a _=_;rw [Tw _ (by rw [tM];exact a1),S7];rfl
theorem RI {j:Nat}(x:Option bk):(eU O t f X L).set (X.length+1+j) x=eU O t f X (L.set j x):=by have bT:= ‹bq›;rw [show X.length+1+j=(X.length+j)+1 by omega];show some O::(fO t f X++L).set (X.length+j) x=_;rw [oY x (by rw [tM])];rfl
theorem HQ (M:aX):eU O t f X L++M=eU O t f X (L++M):=by have bT:= ‹bq›;unfold eU;rw [oC,ll]
theorem aM.append {A Ix B xq:aX}(U:aM A Ix)(ab:aM B xq):aM (A++B) (Ix++xq):=by
 have bT:= ‹bq›;refine ⟨by rw [c2,c2,U.1,ab.1],fun h o' aj=> ?_⟩;by_cases au:h<Ix.length
 ·rw [hQ au] at aj;rw [hQ (by rw [←U.1];exact au)];exact U.2 h o' aj
 ·rw [jA J] at aj;rw [jA (by have:=U.1;omega),←U.1];exact ab.2 _ o' aj
theorem w3 {xw:bk}{hN:aX}(aO:xw.ty=O.ty∧cC O.c xw.c)(cv:aM L hN):aM (eU O t f X L) (eU xw t f X hN):=by have bT:= ‹bq›;exact aM.cons (fun o aj=>by cases aj;exact ⟨O,rfl,aO.1,aO.2⟩) (aM.append (aM.refl _) cv)
theorem GW (h:Nat)(aN: ∀a,(f a).forget h=f a): ∀X:List α,cQ h (fO t f X)=fO t f X
 |[]=>have bT:= ‹bq›;rfl
 |a::r=>by have bT:= ‹bq›;show some ⟨t,(f a).forget h⟩::cQ h (fO t f r)=some ⟨t,f a⟩::fO t f r;rw [aN a,GW h aN r]
theorem vo (h:Nat): ∀A B:aX,cQ h (A++B)=cQ h A++cQ h B
 |[],B=>have bT:= ‹bq›;rfl
 |a::r,B=>by have bT:= ‹bq›;show iC h a::cQ h (r++B)=iC h a::(cQ h r++cQ h B);rw [vo h r B]
theorem yB (h:Nat)(aN: ∀a,(f a).forget h=f a):cQ h (eU O t f X L)=eU ⟨O.ty,O.c.forget h⟩ t f X (cQ h L):=by have bT:= ‹bq›;show some ⟨O.ty,O.c.forget h⟩::cQ h (fO t f X++L)=_;rw [vo,GW h aN];rfl
end
section
variable {ind:Bool}{P:Program}{fn:Func}{c:Ctx}{fr:Fr}{H:aX}{k:List eh}
variable {d:Option Nat}{ty:TypeId}{pos:String}{after:Array Edge}{g:Option (Nat×Bool)}
theorem yC {x i:Operand}{t e:TypeId}{h o len ix:Nat}{bc:bk}{k:IntKind}{m:Int}(bs:P.underlying t=some (.slice e))(ar:bA fr x=some (.aA h o len))(aa:bA fr i=some (.int k m))(aU:H[h]? =some (some bc))(ax:(P.info? e).map (·.size)=some bc.c.aC)(x6:o+m.toNat=ix)(ak:0≤m∧m<len):
 bV ind P fn c fr H ⟨d,.indexAddr t x i,ty,pos,after,g⟩ (.ptr h ix 0):=gk bs ar aU ax aa x6 ak
theorem Lr {x:Operand}{t:TypeId}{u:TypeDesc}{h i:Nat}{bc:bk}{inf:TypeInfo}{L:List al}(bs:P.underlying t=some u)(hu:iP u=true)(ib:P.info? t=some inf)(ar:bA fr x=some (.ptr h i 0))(aU:H[h]? =some (some bc))(cq:inf.size=bc.c.aC)(cv:(List.range bc.c.aC).map (bc.c.at i)=L)(aa:i<bc.c.len):bV false P fn c fr H ⟨d,.load t x,ty,pos,after,g⟩ (.agg L):=RA bs hu ib cq ar aU cv aa
theorem agp {x:Operand}{t:TypeId}{u:TypeDesc}{h i j:Nat}{bc:bk}{inf:TypeInfo}{L:List al}(bs:P.underlying t=some u)(hu:iP u=true)(ib:P.info? t=some inf)(ar:bA fr x=some (.ptr h i j))(aU:H[h]? =some (some bc))(cq:Nat.ble (j+inf.size) bc.c.aC=true)(cv:(List.range inf.size).map (fun e=>bc.c.at i (j+e))=L)(aa:i<bc.c.len):bV false P fn c fr H ⟨d,.load t x,ty,pos,after,g⟩ (.agg L):=GH bs hu ib cq ar aU cv aa
theorem n0 {x:Operand}{t:TypeId}{u:TypeDesc}{h j:Nat}{nU:TypeId}{l:List al}{v:al}(bs:P.underlying t=some u)(hu:iP u=false)(ar:bA fr x=some (.ptr h 0 j))(aU:H[h]? =some (some ⟨nU,.box l⟩))(ah:l[j]? =some v):
 bV false P fn c fr H ⟨d,.load t x,ty,pos,after,g⟩ v:=jl bs hu ar aU ah
end
end Go.ai
namespace Go.ai
variable [bq]
open Go.RowKit
inductive rQ where
 |int (k:IntKind)
 |str
 |pair (k:IntKind)
inductive ph:rQ→Value→Prop
 |int (k n):ph (.int k) (.int k n)
 |str (s):ph .str (.string s)
 |pair (k a b):ph (.pair k) (.agg #[.int k a,.int k b])
inductive ur (P:Program)(hx:TypeId):rQ→Prop
 |int {k} (h:P.underlying hx=some (.int k)):ur P hx (.int k)
 |str (h:P.underlying hx=some .string):ur P hx .str
 |pair {k e} (h:P.underlying hx=some (.array 2 e)) (he:P.underlying e=some (.int k)) (U:(P.info? e).map (·.size)=some 1):ur P hx (.pair k)
theorem ph.isKey {s:rQ}{v:Value}(ah:ph s v):(∀k,s= .int k→MapKept.IsKey (.int k) v)∧(s= .str→MapKept.IsKey .string v):=by
 have bT:= ‹bq›;cases ah
 ·refine ⟨fun k h=> ?_,fun h=> ?_⟩
  ·cases h;trivial
  ·cases h
 ·refine ⟨fun k h=> ?_,fun h=> ?_⟩
  ·cases h
  ·trivial
 ·refine ⟨fun k h=> ?_,fun h=> ?_⟩
  ·cases h
  ·cases h
section
variable {P:Program}{hx:TypeId}{s:rQ}
theorem G1 {e:TypeId}{q:IntKind}(he:P.underlying e=some (.int q))(w:World)(cs:Array Value)(o:Nat){v:Value}(ah:cs[o]? =some v):(part e cs o).run P w= .ok v w:=by have bT:= ‹bq›;simp [part,isAgg,Sem.run_bind,run_underlying he,ah]
theorem agB {e:TypeId}{q:IntKind}(h:P.underlying hx=some (.array 2 e))(he:P.underlying e=some (.int q))(U:(P.info? e).map (·.size)=some 1)(w:World)(a b c d:Int):
 (Op.equal hx (.agg #[.int q a,.int q b]) (.agg #[.int q c,.int q d])).run P w= .ok (decide (a=c∧b=d)) w:=by have bT:= ‹bq›;have oR: ∀x y:Int,(part e #[.int q x,.int q y] 0).run P w= .ok (.int q x) w:=fun x y=>G1 he w _ 0 rfl;have cY: ∀x y:Int,(part e #[.int q x,.int q y] 1).run P w= .ok (.int q y) w:=fun x y=>G1 he w _ 1 rfl;have z0:(sizeOf e).run P w= .ok 1 w:=yU U;have iX: ∀x y:Int,(Op.equalIn 9999 e (.int q x) (.int q y)).run P w= .ok (x==y) w:=fun x y=>run_equalIn_int w 9998 e q q x y he;unfold Op.equal Op.maxDepth;rw [show (10000:Nat)=9999+1 from rfl,Op.equalIn];simp only [Sem.run_bind,run_underlying h,Result.andThen_ok,yU U];simp only [Std.Legacy.Range.forIn_eq_forIn_range',Std.Legacy.Range.size,vS,Nat.add_sub_cancel,Nat.div_one,List.range'_succ,List.range'_zero,List.forIn_cons,List.forIn_nil];simp [Sem.run_bind,Result.andThen,oR,cY,z0,iX];by_cases g1:a=c<;>by_cases g2:b=d<;>simp [g1,g2,Sem.run_bind,Result.andThen,oR,cY,z0,iX]
theorem GL (aN:ur P hx s){v:Value}(ah:ph s v)(w:World)(em:Bool):(Instr.checkKey em 10000 hx v).run P w= .ok () w:=by
 have bT:= ‹bq›;cases ah with
 |int k n=>cases aN with|int h=>exact MapKept.run_checkKey h (by trivial) em 9999
 |str x=>cases aN with|str h=>exact MapKept.run_checkKey h (by trivial) em 9999
 |pair k a b=>
  cases aN with
  |pair h he U=>
   rename_i e;have oR: ∀x y:Int,(part e #[.int k x,.int k y] 0).run P w= .ok (.int k x) w:=fun x y=>G1 he w _ 0 rfl;have cY: ∀x y:Int,(part e #[.int k x,.int k y] 1).run P w= .ok (.int k y) w:=fun x y=>G1 he w _ 1 rfl;have z0:(sizeOf e).run P w= .ok 1 w:=yU U;have lP: ∀x:Int,(Instr.checkKey em 9999 e (.int k x)).run P w= .ok () w:=fun x=>MapKept.run_checkKey he (by trivial) em 9998;rw [show (10000:Nat)=9999+1 from rfl,Instr.checkKey];simp only [Sem.run_bind,run_underlying h,Result.andThen_ok,yU U];simp only [Std.Legacy.Range.forIn_eq_forIn_range',Std.Legacy.Range.size,vS,Nat.add_sub_cancel,Nat.div_one,List.range'_succ,List.range'_zero,List.forIn_cons,List.forIn_nil];simp [Sem.run_bind,Result.andThen,oR,cY,z0,lP]
theorem GJ (aN:ur P hx s){x:Value}(ar:ph s x)(w:World)(es:List MapEntry)(JK: ∀e∈es,ph s e.key):
 ((Instr.findKey hx x es).run P w= .ok none w∧ ∀e∈es,e.key≠x)∨ ∃j e,(Instr.findKey hx x es).run P w= .ok (some (j,e.val)) w∧es[j]? =some e∧e.key=x:=by
 have bT:= ‹bq›;have flat: ∀d,P.underlying hx=some d→MapKept.IsKey d x→(∀e∈es,MapKept.IsKey d e.key)→((Instr.findKey hx x es).run P w= .ok none w∧ ∀e∈es,e.key≠x)∨ ∃j e,(Instr.findKey hx x es).run P w= .ok (some (j,e.val)) w∧es[j]? =some e∧e.key=x:=by
  intro d hd ao mm;rcases MapKept.findNow_spec ao es 0 mm with ⟨U,ab⟩|⟨j,e,U,ab,aw⟩
  ·exact .inl ⟨MapKept.run_findKey hd U,ab⟩
  ·exact .inr ⟨j,e,by rw [c1] at U;exact MapKept.run_findKey hd U,ab,aw⟩
 cases aN with
 |int h=>exact flat _ h (ar.isKey.1 _ rfl) (fun e he=>(JK e he).isKey.1 _ rfl)
 |str h=>exact flat _ h (ar.isKey.2 rfl) (fun e he=>(JK e he).isKey.2 rfl)
 |pair h he U=>
  rename_i k e;have Z7: ∀(l:List MapEntry),Instr.findNow (.array 2 e) x l 0=none∨l=[]:=by
   intro l;cases l with
   |nil=>exact .inr rfl
   |cons a r=>left;cases ar;simp [Instr.findNow,Instr.sameNow]
  have YU: ∀(l:List MapEntry) (i:Nat),(∀e∈l,ph (.pair k) e.key)→((Instr.findAsking hx x l i).run P w= .ok none w∧ ∀e∈l,e.key≠x)∨ ∃j e,(Instr.findAsking hx x l i).run P w= .ok (some (i+j,e.val)) w∧l[j]? =some e∧e.key=x:=by
   intro l;induction l with
   |nil=>intro i _;exact .inl ⟨rfl,fun e he=>by cases he⟩
   |cons y r a8=>
    intro i au;obtain ⟨age,yv,wO⟩:=y;have aY:ph (.pair k) age:=au _ (vT ..);cases ar with
    |pair _ a b=>
     cases aY with
     |pair _ c d=>
      have heq:=agB (P:=P) h he U w a b c d;by_cases Fi:a=c∧b=d
      ·obtain ⟨rfl,rfl⟩:=Fi;exact .inr ⟨0,_,by simp [Instr.findAsking,Sem.run_bind,heq,Result.andThen],I,I⟩
      ·have b2:(Value.agg #[.int k c,.int k d])≠ .agg #[.int k a,.int k b]:=by intro q;simp at q;exact Fi ⟨q.1.symm,q.2.symm⟩
       rcases a8 (i+1) (fun e he=>au e (uA _ he)) with ⟨g1,g2⟩|⟨j,gY,g1,g2,g3⟩
       ·refine .inl ⟨by simp [Instr.findAsking,Sem.run_bind,heq,Result.andThen,Fi,g1],fun e he=> ?_⟩;rcases fT.1 he with rfl|he
        ·exact b2
        ·exact g2 e he
       ·exact .inr ⟨j+1,gY,by simp [Instr.findAsking,Sem.run_bind,heq,Result.andThen,Fi,g1];omega,by simpa using g2,g3⟩
  have ez:(Instr.findKey hx x es).run P w=(Instr.findAsking hx x es 0).run P w:=by
   rcases Z7 es with aF|rfl
   ·simp [Instr.findKey,Sem.run_bind,run_underlying h,Result.andThen,aF]
   ·simp [Instr.findKey,Sem.run_bind,run_underlying h,Result.andThen,Instr.findNow,Instr.findAsking]
  rw [ez];rcases YU es 0 JK with ab|⟨j,gY,g1,g2,g3⟩
  ·exact .inl ab
  ·exact .inr ⟨j,gY,by rw [c1] at g1;exact g1,g2,g3⟩
theorem ajc {v:Value}(ah:ph s v):Instr.sameBits 10000 v v=true:=by
 have bT:= ‹bq›;cases ah with
 |int=>simp [Instr.sameBits]
 |str=>simp [Instr.sameBits];exact (MapKept.bytes_beq _ _).2 rfl
 |pair=>rw [show (10000:Nat)=9998+1+1 from rfl];simp [Instr.sameBits]
theorem aiG {v:Value}(ah:ph s v)(w:World):(Instr.keyThatStays v v).run P w= .ok v w:=by have bT:= ‹bq›;simp [Instr.keyThatStays,ajc ah]
end
def nu:rQ→al→Bool
 | .int .i64,.int .i64 _=>true
 | .str,.str _=>true
 | .pair .i64,.agg [.int .i64 _,.int .i64 _]=>true
 |_,_=>false
theorem DZ {s:rQ}{x:al}(h:nu s x=true): ∃u:Value,ph s u∧(∀(w:World) (S:Nat→Prop) (σ:Nat→Option bQ) (v:Value),bp w S σ x v→v=u)∧(∀y:al,nu s y=true→ ∀(w:World) (S:Nat→Prop) (σ:Nat→Option bQ),bp w S σ y u→y=x):=by
 have bT:= ‹bq›;unfold nu at h;split at h
 ·rename_i n;refine ⟨.int .i64 n,.int _ _,fun w S σ v ah=>by cases ah;rfl,fun y aY w S σ ah=> ?_⟩;unfold nu at aY;split at aY<;>first|(cases aY;done)|(cases ah;rfl)|(rename_i q _;cases q;done)|(rename_i q;cases q;done)|skip
 ·rename_i n;refine ⟨oh n,.str _,fun w S σ v ah=>by cases ah;rfl,fun y aY w S σ ah=> ?_⟩;unfold nu at aY;split at aY<;>first|(cases aY;done)|(rename_i q _;cases q;done)|(rename_i q;cases q;done)|skip
  rename_i m _;generalize bw:oh n=z at ah;cases ah;unfold oh at bw;simp at bw;rw [bw]
 ·rename_i a b;refine ⟨.agg #[.int .i64 a,.int .i64 b],.pair _ _ _,fun w S σ v ah=> ?_,fun y aY w S σ ah=> ?_⟩
  ·cases ah with
   |agg _ _ vs au ah U=>
    obtain ⟨l⟩:=vs;have k5:l.length=2:=by simpa using au
    match l,k5 with
    |[x,y],_=>
     have ew:=ah 0 bZ;have bO:=ah 1 bZ;simp at ew bO;cases ew;cases bO;rfl
  ·unfold nu at aY;split at aY<;>first|(cases aY;done)|(rename_i q _;cases q;done)|(rename_i q;cases q;done)|skip
   cases ah with
   |agg _ _ vs au ah U=>
    have ew:=ah 0 bZ;have bO:=ah 1 bZ;simp at ew bO;cases ew;cases bO;rfl
 ·cases h
def Ex (H:aX):al→Option (List al×List al)
 | .mp h=>match H[h]? with
  |some (some o)=>match o.c with
   | .mp ks vs=>some (ks,vs)
   |_=>none
  |_=>none
 | .jK ks vs=>some (ks,vs)
 |_=>none
theorem b6.map {c:Ctx}{w:World}{a:Act}{σ:Nat→Option bQ}{S:Nat→Prop}{n:Nat}{fr:Fr}{H:aX}(ad:b6 c w a σ S n fr H){x:al}{v:Value}{ks vs:List al}(ah:bp w S σ x v)(hm:Ex H x=some (ks,vs)):
 ∃b es clock,v= .map (some b)∧w.heap[b]? =some (.map es clock)∧es.size=ks.length∧vs.length=ks.length∧es.toList.Pairwise (fun x y=>x.key≠y.key)∧ ∀i,i<ks.length→ ∃e,es[i]? =some e∧bp w S σ (ks.getD i .any) e.key∧bp w S σ (vs.getD i .any) e.val:=by
 cases ah<;>simp only [Ex] at hm<;>try (cases hm;done)
 case mp h b bG=>
  cases aB:H[h]? with
  |none=>simp [aB] at hm
  |some k9=>cases k9 with
   |none=>simp [aB] at hm
   |some o=>
    simp only [aB] at hm;rcases ad.ad.live h o aB with ⟨aF,_⟩|⟨b',cF,cur,fj,g1,g2,g3,g4,g5,g6⟩
    ·rw [bG] at aF;cases aF
    ·rw [bG] at fj;simp only [dy,bQ.at.injEq] at fj;obtain ⟨rfl,cq,rfl⟩:=fj;cases g1 with
     |row mk _ _ dR=>omega
     |map abp Ld es clock av _ ak aF au hd he=>
      rw [av] at hm;simp only [dy,xy] at hm;obtain ⟨rfl,rfl⟩:=hm;exact ⟨b,es,clock,I,ak,aF,au,hd,he⟩
 case jK abp Ld b es clock e dp ak aF au hd he ao ah=>
  simp only [dy,xy] at hm;obtain ⟨rfl,rfl⟩:=hm;exact ⟨b,es,clock,rfl,ak,aF,au,hd,fun i aa=>⟨e i,he i aa,(ao i aa).mono (fun _ h=>h) (fun _ _=>rfl) _ (fun _ _ h=>by cases h),(ah i aa).mono (fun _ h=>h) (fun _ _=>rfl) _ (fun _ _ h=>by cases h)⟩⟩
section
variable {ind:Bool}{P:Program}{fn:Func}{c:Ctx}{fr:Fr}{H:aX}{k:List eh}{d:Option Nat}{ty:TypeId}{pos:String}{after:Array Edge}{g:Option (Nat×Bool)}
theorem HO {w:World}{S:Nat→Prop}{σ:Nat→Option bQ}{s:rQ}{ks:List al}{es:Array MapEntry}(mm: ∀x∈ks,nu s x=true)(aF:es.size=ks.length)(he: ∀i,i<ks.length→ ∃e,es[i]? =some e∧bp w S σ (ks.getD i .any) e.key): ∀e∈es.toList,ph s e.key:=by
 have bT:= ‹bq›;intro e hm;obtain ⟨i,aa,rfl⟩:=ln hm;have aP:i<ks.length:=by simpa [aF] using aa
 obtain ⟨gY,aD,aE⟩:=he i aP;have ej:ks.getD i .any∈ks:=by simp [List.getD,aP]
 obtain ⟨u,hX,u2,_⟩:=DZ (mm _ ej);have:es.toList[i]=gY:=by
  have aw:es.toList[i]? =some gY:=by simpa using aD
  rw [mL aa] at aw;exact p3 aw
 rw [this,u2 _ _ _ _ aE];exact hX
theorem AQ {t hx se:TypeId}{x ix:Operand}{ok:Bool}{m dY v:al}{ks vs:List al}{s:rQ}(bs:P.underlying t=some (.map hx se))(aN:ur P hx s)(ar:bA fr x=some m)(hm:Ex H m=some (ks,vs))(aa:bA fr ix=some dY)(ao:nu s dY=true)(mm: ∀x∈ks,nu s x=true)(i:Nat)(U:ks[i]? =some dY)(ab:vs[i]? =some v):bV false P fn c fr H ⟨d,.lookup t x ix ok,ty,pos,after,g⟩ (bif ok then .cd [v,.bool true] else v):=by
 intro w a σ S ad;have aD:=ad.dN ar;have aE:=ad.dN aa;obtain ⟨b,es,clock,bO,bW,dq,dZ,gR,iz⟩:=ad.map aD hm;obtain ⟨u,hX,u2,De⟩:=DZ ao;have sy:=u2 _ _ _ _ aE;have lV:i<ks.length:=(gL.1 U).1;obtain ⟨iX,cY,eT,lz⟩:=iz i lV;have g1:ks.getD i .any=dY:=by simp [List.getD,U]
 have g2:vs.getD i .any=v:=by simp [List.getD,ab]
 rw [g1] at eT;rw [g2] at lz;have l0:=u2 _ _ _ _ eT;have x8:=HO mm dq (fun i aa=>let ⟨e,a,b,_⟩:=iz i aa;⟨e,a,b⟩);have yk: ∀w':World,w'.heap=w.heap→(Instr.lookup t (a.eval x) (a.eval ix) ok).run P w'= .ok (if ok then .tuple #[iX.val,.bool true] else iX.val) w':=by
  intro w' hw;have eg:w'.heap[b]? =some (.map es clock):=by rw [hw];exact bW
  rw [bO,sy];rcases GJ aN hX w' es.toList x8 with ⟨gq,gJ⟩|⟨j,gY,gq,gJ,nW⟩
  ·exact absurd l0 (gJ iX (by have:=oA (l:=es.toList) (by simpa using cY);exact this))
  ·have:gY=iX:=by
    have ae:=gL.1 gJ;have ZF:=gL.1 (show es.toList[i]? =some iX by simpa using cY);obtain ⟨vb,Ar⟩:=ae;obtain ⟨i1,i2⟩:=ZF;rcases B1 i j with bC|rfl|bC
    ·exact absurd (by rw [i2,Ar,l0,nW]) (xC.1 gR i j i1 vb bC)
    ·rw [←i2,←Ar]
    ·exact absurd (by rw [i2,Ar,l0,nW]) (xC.1 gR j i vb i1 bC)
   subst this;simp [Instr.lookup,Sem.run_bind,run_underlying bs,Result.andThen,MapKept.run_getObj_map eg,GL aN hX,gq]
 refine ⟨if ok then .tuple #[iX.val,.bool true] else iX.val,?_,fun w' hw=> ?_⟩
 ·cases ok with
  |false=>exact lz
  |true=>
   refine .cd _ _ _ I (fun j ae=> ?_)
   match j,ae with
   |0,_=>exact lz
   |1,_=>exact .bool _ _
 ·have hw:=hw.resolve_left a6;simp only [execOp,Sem.run_bind,yk w' hw];rfl
theorem GK {t hx se:TypeId}{x ix:Operand}{ok:Bool}{m dY Iv:al}{ks vs:List al}{s:rQ}{inf:TypeInfo}{z:Value}(bs:P.underlying t=some (.map hx se))(aN:ur P hx s)(ib:P.info? se=some inf)(bw:inf.zero=some z)(aaZ:uk z=some [Iv])(aaV:z.cells= #[z])(ar:bA fr x=some m)(hm:Ex H m=some (ks,vs))(aa:bA fr ix=some dY)(ao:nu s dY=true)(mm: ∀x∈ks,nu s x=true)(U:dY∉ks):bV false P fn c fr H ⟨d,.lookup t x ix ok,ty,pos,after,g⟩ (bif ok then .cd [Iv,.bool false] else Iv):=by
 intro w a σ S ad;have aD:=ad.dN ar;have aE:=ad.dN aa;obtain ⟨b,es,clock,bO,bW,dq,dZ,gR,iz⟩:=ad.map aD hm;obtain ⟨u,hX,u2,De⟩:=DZ ao;have sy:=u2 _ _ _ _ aE;have x8:=HO mm dq (fun i aa=>let ⟨e,a,b,_⟩:=iz i aa;⟨e,a,b⟩);have eO: ∀e∈es.toList,e.key≠u:=by
  intro e yb he;obtain ⟨i,aP,rfl⟩:=ln yb;have lV:i<ks.length:=by simpa [dq] using aP
  obtain ⟨gY,cY,eT,_⟩:=iz i lV;have:es.toList[i]=gY:=by
   have aw:es.toList[i]? =some gY:=by simpa using cY
   rw [mL aP] at aw;exact p3 aw
  rw [this] at he;rw [he] at eT;have ej:ks.getD i .any∈ks:=by simp [List.getD,lV]
  have:=De _ (mm _ ej) _ _ _ eT;rw [this] at ej;exact U ej
 have yk: ∀w':World,w'.heap=w.heap→(Instr.lookup t (a.eval x) (a.eval ix) ok).run P w'= .ok (if ok then .tuple #[z,.bool false] else z) w':=by
  intro w' hw;have eg:w'.heap[b]? =some (.map es clock):=by rw [hw];exact bW
  have KB:(zeroValue se).run P w'= .ok z w':=by simp [zeroValue,Sem.run_bind,typeInfo,ib,bw]
  rw [bO,sy];rcases GJ aN hX w' es.toList x8 with ⟨gq,gJ⟩|⟨j,gY,gq,gJ,nW⟩
  ·simp [Instr.lookup,Sem.run_bind,run_underlying bs,Result.andThen,MapKept.run_getObj_map eg,GL aN hX,gq,KB]
  ·exact absurd nW (eO gY (oA gJ))
 have KC:bp w S σ Iv z:=by have:=(DR (w:=w) (S:=S) (σ:=σ) aaZ).2 0 bZ;rw [aaV] at this;simpa using this.1
 refine ⟨if ok then .tuple #[z,.bool false] else z,?_,fun w' hw=> ?_⟩
 ·cases ok with
  |false=>exact KC
  |true=>
   refine .cd _ _ _ I (fun j ae=> ?_)
   match j,ae with
   |0,_=>exact KC
   |1,_=>exact .bool _ _
 ·have hw:=hw.resolve_left a6;simp only [execOp,Sem.run_bind,yk w' hw];rfl
end
theorem b6.Wh {c:Ctx}{w:World}{a:Act}{σ:Nat→Option bQ}{S:Nat→Prop}{n:Nat}{fr:Fr}{H:aX}(ad:b6 c w a σ S n fr H){o:bk}{C:Nat}{cur:Array Value}(bc:Obj)(hlen:o.c.len≤C)(dR:C≤maxLen+1)(iJ:cur.size=C*o.c.aC)(cv:Lays (w.alloc bc) S (cN σ H.length (.at w.heap.size o.c.aC C)) o w.heap.size cur C)(av: ∀i j,i<o.c.len→j<o.c.aC→ ∃v,cur[i*o.c.aC+j]? =some v∧bp w S σ (o.c.at i j) v∧v.oneCell'=true):
 b6 c (w.alloc bc) a (cN σ H.length (.at w.heap.size o.c.aC C)) S n fr (H++[some o]):=by
 have hold: ∀b,b<w.heap.size→(w.alloc bc).heap[b]? =w.heap[b]? :=fun b ak=>Below.heap_alloc _ _ b ak;have mV: ∀h B,σ h=some B→cN σ H.length (.at w.heap.size o.c.aC C) h=some B:=by
  intro h B cZ;unfold cN;split
  ·rename_i he;rw [he,ad.ad.hG _ (bR _)] at cZ;cases cZ
  ·exact cZ
 have ah: ∀{x v},bp w S σ x v→bp (w.alloc bc) S (cN σ H.length (.at w.heap.size o.c.aC C)) x v:=
  fun h=>h.mono (fun _ h=>h) (fun b ak=>hold b (ad.ad.small b ak)) _ mV
 have cS: ∀aL o',(H++[some o])[aL]? =some (some o')→(aL=H.length∧o'=o)∨(aL<H.length∧H[aL]? =some (some o')):=by
  intro aL o' aj;by_cases he:aL<H.length
  ·rw [hQ he] at aj;exact .inr ⟨he,aj⟩
  ·by_cases jG:aL=H.length
   ·subst jG;simp at aj;exact .inl ⟨rfl,aj.symm⟩
   ·have:(H++[some o]).length≤aL:=by simp;omega
    rw [jT this] at aj;cases aj
 have C0: ∀h o' b s cF,h<H.length→H[h]? =some (some o')→σ h=some (.at b s cF)→b<w.heap.size:=by intro h o' b s cF _ aj ak;obtain ⟨_,iu,g,_⟩:=ad.obj aj ak;exact g.lt
 refine ⟨⟨?_,?_,fun b ak=>by have:=ad.ad.small b ak;simp;omega,fun h au=> ?_⟩,?_,ad.defers,ad.size,fun t v au=>⟨(ad.e8 t v au).1,ah (ad.e8 t v au).2⟩⟩
 ·intro aL o' aj;rcases cS aL o' aj with ⟨rfl,rfl⟩|⟨bC,cU⟩
  ·right;refine ⟨w.heap.size,C,cur,by simp [cN],cv,iJ,dR,hlen,fun ax=>ov _ (ad.ad.small _ ax),fun i j aa ae=> ?_⟩;obtain ⟨v,aD,aE,bM⟩:=av i j aa ae;exact ⟨v,aD,ah aE,bM⟩
  ·rcases ad.ad.live aL o' cU with ⟨aF,iZ⟩|⟨b',cF,iu,g1,g2,g3,g4,g5,g6,g7⟩
   ·exact .inl ⟨mV _ _ aF,iZ⟩
   ·right;refine ⟨b',cF,iu,mV _ _ g1,g2.mono (hold b' g2.lt) ah,g3,g4,g5,g6,fun i j aa ae=> ?_⟩;obtain ⟨v,aD,aE,bM⟩:=g7 i j aa ae;exact ⟨v,aD,ah aE,bM⟩
 ·intro U ab o1 o2 b s1 gl s2 fY g1 g2 aD aE;rcases cS U o1 g1 with ⟨rfl,rfl⟩|⟨gh,uP⟩<;>rcases cS ab o2 g2 with ⟨rfl,rfl⟩|⟨fB,Cl⟩
  ·rfl
  ·simp only [cN,fS,dy,bQ.at.injEq] at aD;simp only [cN,ow fB,gW] at aE;have:=C0 ab o2 b s2 fY fB Cl aE;omega
  ·simp only [cN,fS,dy,bQ.at.injEq] at aE;simp only [cN,ow gh,gW] at aD;have:=C0 U o1 b s1 gl gh uP aD;omega
  ·simp only [cN,ow gh,ow fB,gW] at aD aE;exact ad.ad.hi U ab o1 o2 b s1 gl s2 fY uP Cl aD aE
 ·simp only [c2,fZ,kd] at au;have: ¬h=H.length:=J;simp only [cN,this,gW];exact ad.ad.hG h J
 ·refine ⟨ad.bh.os,ad.bh.output,ad.bh.tape,by have:=ad.bh.size;simp;omega,fun b ak aj=> ?_,ad.bh.hD,ad.bh.e4,fun h aN=> ?_,fun h aN=>by have:=ad.bh.iY h aN;simp;omega,?_⟩
  ·rw [hold b (by have:=ad.bh.size;omega)];exact ad.bh.block b ak aj
  ·have:=ad.bh.iY h aN;have ab: ¬h=H.length:=J;simp only [cN,ab,gW];exact ad.bh.fixed h aN
  ·intro aL o' b s cF aj ak;rcases cS aL o' aj with ⟨rfl,rfl⟩|⟨bC,cU⟩
   ·simp only [cN,fS,dy,bQ.at.injEq] at ak;have:=ad.bh.size;omega
   ·simp only [cN,ow bC,gW] at ak;exact ad.bh.own aL o' b s cF cU ak
theorem b6.QK {c:Ctx}{w:World}{a:Act}{σ:Nat→Option bQ}{S:Nat→Prop}{n:Nat}{fr:Fr}{H:aX}(ad:b6 c w a σ S n fr H){h b s C:Nat}{o:bk}(aU:H[h]? =some (some o))(bG:σ h=some (.at b s C)){c':Cells}{cur':Array Value}(w':World)(CM:w'.os=w.os)(CN:w'.output=w.output)(CU:w'.tape=w.tape)(yh:w'.heap.size=w.heap.size)(mn: ∀b',b'≠b→w'.heap[b']? =w.heap[b']?)(cq:c'.aC=o.c.aC)(hlen:c'.len≤C)(iJ:cur'.size=C*o.c.aC)(av: ∀i j,i<c'.len→j<c'.aC→ ∃v,cur'[i*c'.aC+j]? =some v∧bp w S σ (c'.at i j) v∧v.oneCell'=true)(cv:Lays w' S σ ⟨o.ty,c'⟩ b cur' C):
 b6 c w' a σ S n fr (H.set h (some ⟨o.ty,c'⟩)):=by
 obtain ⟨ax,cur,U,ab,aw,bg,bF,dm⟩:=ad.obj aU bG;have bC:h<H.length:=(gL.1 aU).1;have dp: ∀b',S b'→w'.heap[b']? =w.heap[b']? :=fun b' ak=>mn b' (fun e=>bF (e▸ak));have ah: ∀{bu:Nat→Option bQ} {x v},bp w S bu x v→bp w' S bu x v:=fun h=>h.mono (fun _ h=>h) dp _ (fun _ _ h=>h);have cS: ∀aL o',(H.set h (some ⟨o.ty,c'⟩))[aL]? =some (some o')→(aL=h∧o'=⟨o.ty,c'⟩)∨(aL≠h∧H[aL]? =some (some o')):=by
  intro aL o' aj;by_cases he:aL=h
  ·subst he;simp only [nB bC,dy] at aj;exact .inl ⟨I,aj.symm⟩
  ·rw [k0 (p4 he)] at aj;exact .inr ⟨he,aj⟩
 have ss:=ad.bh.own h o b s C aU bG;refine ⟨⟨?_,?_,fun b' ak=>by rw [yh];exact ad.ad.small b' ak,fun aL au=>ad.ad.hG aL (by simpa using au)⟩,?_,ad.defers,ad.size,fun t v au=>⟨(ad.e8 t v au).1,ah (ad.e8 t v au).2⟩⟩
 ·intro aL o' aj;rcases cS aL o' aj with ⟨rfl,rfl⟩|⟨b2,cU⟩
  ·right;refine ⟨b,C,cur',?_,cv,by simpa [cq] using iJ,aw,hlen,bF,fun i j aa ae=> ?_⟩
   ·rw [bG,ax,cq]
   ·obtain ⟨v,aD,aE,bM⟩:=av i j aa ae;exact ⟨v,aD,ah aE,bM⟩
  ·rcases ad.ad.live aL o' cU with aF|⟨b',cF,iu,g1,g2,g3,g4,g5,g6,g7⟩
   ·exact .inl aF
   ·right;have sl:b'≠b:=fun e=>b2 (ad.ad.hi aL h o' o b' o'.c.aC cF s C cU aU g1 (by rw [bG,e]));refine ⟨b',cF,iu,g1,g2.mono (mn b' sl) ah,g3,g4,g5,g6,fun i j aa ae=> ?_⟩;obtain ⟨v,aD,aE,bM⟩:=g7 i j aa ae;exact ⟨v,aD,ah aE,bM⟩
 ·intro gf uR o1 o2 b' s1 gl s2 fY g1 g2 aD aE;have t1: ∃o,H[gf]? =some (some o):=by
   rcases cS gf o1 g1 with ⟨rfl,_⟩|⟨_,g⟩
   ·exact ⟨_,aU⟩
   ·exact ⟨_,g⟩
  have t2: ∃o,H[uR]? =some (some o):=by
   rcases cS uR o2 g2 with ⟨rfl,_⟩|⟨_,g⟩
   ·exact ⟨_,aU⟩
   ·exact ⟨_,g⟩
  obtain ⟨_,t1⟩:=t1;obtain ⟨_,t2⟩:=t2;exact ad.ad.hi gf uR _ _ b' s1 gl s2 fY t1 t2 aD aE
 ·refine ⟨CM.trans ad.bh.os,CN.trans ad.bh.output,CU.trans ad.bh.tape,by rw [yh];exact ad.bh.size,fun b' ak aj=> ?_,ad.bh.hD,ad.bh.e4,ad.bh.fixed,fun aL aN=>by simpa using ad.bh.iY aL aN,?_⟩
  ·have sl:b'≠b:=by
    rintro rfl;rcases ss with h|h
    ·exact aj h
    ·omega
   rw [mn b' sl];exact ad.bh.block b' ak aj
  ·intro aL o' b' cl cF aj ak;rcases cS aL o' aj with ⟨rfl,_⟩|⟨_,g⟩
   ·exact ad.bh.own _ _ b' cl cF aU ak
   ·exact ad.bh.own aL o' b' cl cF g ak
section
variable {ind:Bool}{P:Program}{fn:Func}{c:Ctx}{fr:Fr}{H:aX}{k:List eh}{d:Option Nat}{ty:TypeId}{pos:String}{after:Array Edge}{g:Option (Nat×Bool)}
theorem G6 {all:Array Oper}{d:Nat}{t:TypeId}{rest:List Oper}(ao:ai P fn c (.ops false all rest k) ((d,.mp H.length)::fr) (H++[some ⟨t,.mp [] []⟩])):ai P fn c (.ops false all (⟨some d,.makeMap t none,ty,pos,after,none⟩::rest) k) fr H:=by
 refine uG (fun w a σ S ad=> ?_) ao;have ez:(execOp a.eval ⟨some d,.makeMap t none,ty,pos,after,none⟩).run P w= .ok (.value (.map (some w.heap.size))) (w.alloc (.map #[] 0)):=by simp [execOp,Instr.makeMap,Sem.run_bind,newObj,Sem.run,Result.andThen]
 refine ⟨_,_,_,S,ez,ad.Wh (o:=⟨t,.mp [] []⟩) (C:=maxLen+1) (cur:= #[]) (.map #[] 0) (cf _) (bR _) I (.map [] [] #[] 0 I I (MapKept.heap_alloc w _).1 I I bZ (fun i aa=>absurd aa (gy _))) (fun i j aa=>absurd aa (gy _)),?_⟩;exact .mp _ _ _ (by simp [cN,Cells.aC])
theorem b6.Qv {w:World}{a:Act}{σ:Nat→Option bQ}{S:Nat→Prop}{n:Nat}(ad:b6 c w a σ S n fr H){h:Nat}{x:Value}{t:TypeId}{ks vs:List al}(ah:bp w S σ (.mp h) x)(aU:H[h]? =some (some ⟨t,.mp ks vs⟩)):
 ∃b es clock,x= .map (some b)∧σ h=some (.at b 0 (maxLen+1))∧w.heap[b]? =some (.map es clock)∧es.size=ks.length∧vs.length=ks.length∧es.toList.Pairwise (fun x y=>x.key≠y.key)∧ ∀i,i<ks.length→ ∃e,es[i]? =some e∧bp w S σ (ks.getD i .any) e.key∧bp w S σ (vs.getD i .any) e.val:=by
 have bG: ∃b,x= .map (some b)∧σ h=some (.at b 0 (maxLen+1)):=by cases ah with|mp _ _ b bG=>exact ⟨b,rfl,bG⟩
 obtain ⟨b,rfl,bG⟩:=bG;obtain ⟨eu,es,clock,bO,bW⟩:=ad.map (ks:=ks) (vs:=vs) ah (by simp only [Ex,aU]);simp at bO;subst bO;exact ⟨_,es,clock,I,bG,bW⟩
theorem XZ {es:Array MapEntry}{u:Value}{i j:Nat}{e gY:MapEntry}(hd:es.toList.Pairwise (fun x y=>x.key≠y.key))(U:es[i]? =some e)(ab:e.key=u)(aw:es.toList[j]? =some gY)(bg:gY.key=u):i=j:=by
 have bT:= ‹bq›;obtain ⟨vb,Ar⟩:=gL.1 aw;obtain ⟨i1,i2⟩:=gL.1 (show es.toList[i]? =some e by simpa using U);rcases B1 i j with bC|rfl|bC
 ·exact absurd (by rw [i2,Ar,ab,bg]) (xC.1 hd i j i1 vb bC)
 ·rfl
 ·exact absurd (by rw [i2,Ar,ab,bg]) (xC.1 hd j i vb i1 bC)
theorem agv {all:Array Oper}{t hx se cr:TypeId}{x ix y:Operand}{rest:List Oper}{h:Nat}{dY v:al}{ks vs:List al}{s:rQ}(bs:P.underlying t=some (.map hx se))(aN:ur P hx s)(ar:bA fr x=some (.mp h))(aU:H[h]? =some (some ⟨cr,.mp ks vs⟩))(aa:bA fr ix=some dY)(aY:bA fr y=some v)(ao:nu s dY=true)(mm: ∀x∈ks,nu s x=true)(i:Nat)(U:ks[i]? =some dY)(b5:ai P fn c (.ops false all rest k) fr (H.set h (some ⟨cr,.mp ks (vs.set i v)⟩))):ai P fn c (.ops false all (⟨none,.mapUpdate t x ix y,ty,pos,after,none⟩::rest) k) fr H:=by
 refine Ev (fun w a σ S ad=> ?_) b5;have aD:=ad.dN ar;have aE:=ad.dN aa;have bM:=ad.dN aY;obtain ⟨b,es,clock,bO,bG,bW,dq,dZ,gR,iz⟩:=ad.Qv aD aU;obtain ⟨u,hX,u2,De⟩:=DZ ao;have sy:=u2 _ _ _ _ aE;have lV:i<ks.length:=(gL.1 U).1;obtain ⟨iX,cY,eT,lz⟩:=iz i lV;have g1:ks.getD i .any=dY:=by simp [List.getD,U]
 rw [g1] at eT;have l0:=u2 _ _ _ _ eT;have x8:=HO mm dq (fun i aa=>let ⟨e,a,b,_⟩:=iz i aa;⟨e,a,b⟩);have df:i<es.size:=J;have ez:(Instr.mapUpdate t (a.eval x) (a.eval ix) (a.eval y)).run P w= .ok () {w with heap:=w.heap.setIfInBounds b (.map (es.modify i fun e=>{e with key:=u,val:=a.eval y}) clock)}:=by
  rw [bO,sy];rcases GJ aN hX w es.toList x8 with ⟨gq,gJ⟩|⟨j,gY,gq,gJ,nW⟩
  ·exact absurd l0 (gJ iX (oA (l:=es.toList) (by simpa using cY)))
  ·have uX:=XZ gR cY l0 gJ nW;subst uX;have:((es[i]?).map (·.key)).getD u=u:=by rw [cY];simpa using l0
   simp only [Instr.mapUpdate,Sem.run_bind,run_underlying bs,Result.andThen_ok,MapKept.run_getObj_map bW,GL aN hX,gq,this,aiG hX,MapKept.run_setObj_map _ bW]
 have cS:=MapKept.heap_set (o':= .map (es.modify i fun e=>{e with key:=u,val:=a.eval y}) clock) bW;generalize u7:({w with heap:=w.heap.setIfInBounds b (.map (es.modify i fun e=>{e with key:=u,val:=a.eval y}) clock)}:World)=w' at ez;have yl:w'.heap=w.heap.setIfInBounds b (.map (es.modify i fun e=>{e with key:=u,val:=a.eval y}) clock):=by rw [←u7]
 have J9: ¬S b:=(ad.obj aU bG).2.choose_spec.2.2.2.2.1;have mn: ∀b',b'≠b→w'.heap[b']? =w.heap[b']? :=fun b' ak=>by rw [yl];exact cS.2 b' ak
 have ah: ∀{x v},bp w S σ x v→bp w' S σ x v:=fun ah=>ah.mono (fun _ h=>h) (fun b' ak=>mn b' (fun e=>J9 (e▸ak))) _ (fun _ _ h=>h);have CI: ∀(j:Nat) (e:MapEntry),es[j]? =some e→(if j=i then ({e with key:=u,val:=a.eval y}:MapEntry) else e).key=e.key:=by
  intro j e ae;split
  ·rename_i CG;subst CG;rw [cY] at ae;cases ae;exact l0.symm
  ·rfl
 have Pz: ∀j:Nat,(es.modify i fun e=>{e with key:=u,val:=a.eval y})[j]? =(es[j]?).map (fun e=>if j=i then ({e with key:=u,val:=a.eval y}:MapEntry) else e):=by
  intro j;rw [Array.getElem?_modify];by_cases uX:i=j
  ·subst uX;simp
  ·have: ¬j=i:=fun e=>uX e.symm;simp [uX,this]
 refine ⟨w',σ,S,by simp only [execOp,Sem.run_bind,ez];rfl,ad.QK (o:=⟨cr,.mp ks vs⟩) aU bG (c':= .mp ks (vs.set i v)) (cur':= #[]) w' (by rw [←u7]) (by rw [←u7]) (by rw [←u7]) (by rw [yl];simp) mn I (cf _) I (fun i j aa=>absurd aa (gy _))
  (.map ks (vs.set i v) _ clock rfl rfl (by rw [yl];exact cS.1) (by simpa using dq) (by simpa using dZ) ?_ (fun j ae=> ?_))⟩
 ·rw [xC] at gR⊢;intro gx dX a1 ak mT;have cq:(es.modify i fun e=>{e with key:=u,val:=a.eval y}).toList.length=es.toList.length:=bZ;have P4: ∀(j:Nat) (ae:j<(es.modify i fun e=>{e with key:=u,val:=a.eval y}).toList.length) (so:j<es.toList.length),((es.modify i fun e=>{e with key:=u,val:=a.eval y}).toList[j]).key=(es.toList[j]).key:=by
   intro j ae so;have bF:=Pz j;have z6:es[j]? =some (es.toList[j]):=by have py:es.toList[j]? =some (es.toList[j]):=mL so;rw [Array.getElem?_toList] at py;exact py
   rw [z6] at bF;simp only [rW] at bF;have dm:(es.modify i fun e=>{e with key:=u,val:=a.eval y}).toList[j]? =some ((es.modify i fun e=>{e with key:=u,val:=a.eval y}).toList[j]):=mL ae;have fi:(es.modify i fun e=>{e with key:=u,val:=a.eval y}).toList[j]? =some (if j=i then ({es.toList[j] with key:=u,val:=a.eval y}:MapEntry) else es.toList[j]):=by rw [Array.getElem?_toList];exact bF
   rw [dm] at fi;rw [p3 fi];exact CI j _ z6
  rw [P4 gx a1 J,P4 dX ak J];exact gR gx dX J J mT
 ·obtain ⟨e,gq,gJ,nW⟩:=iz j ae;refine ⟨if j=i then ({e with key:=u,val:=a.eval y}:MapEntry) else e,by rw [Pz j,gq];rfl,?_,?_⟩
  ·rw [CI j e gq];exact ah gJ
  ·by_cases CG:j=i
   ·subst CG;simp only [fS];have:(vs.set j v).getD j .any=v:=by simp [List.getD,show j<vs.length by omega]
    rw [this];exact ah bM
   ·simp only [CG,gW];have:(vs.set i v).getD j .any=vs.getD j .any:=by simp [List.getD,k0 (p4 CG)]
    rw [this];exact ah nW
theorem GG {all:Array Oper}{t hx se cr:TypeId}{x ix y:Operand}{rest:List Oper}{h:Nat}{dY v:al}{ks vs:List al}{s:rQ}(bs:P.underlying t=some (.map hx se))(aN:ur P hx s)(ar:bA fr x=some (.mp h))(aU:H[h]? =some (some ⟨cr,.mp ks vs⟩))(aa:bA fr ix=some dY)(aY:bA fr y=some v)(ao:nu s dY=true)(mm: ∀x∈ks,nu s x=true)(U:dY∉ks)(b5:ai P fn c (.ops false all rest k) fr (H.set h (some ⟨cr,.mp (ks++[dY]) (vs++[v])⟩))):ai P fn c (.ops false all (⟨none,.mapUpdate t x ix y,ty,pos,after,none⟩::rest) k) fr H:=by
 refine Ev (fun w a σ S ad=> ?_) b5;have aD:=ad.dN ar;have aE:=ad.dN aa;have bM:=ad.dN aY;obtain ⟨b,es,clock,bO,bG,bW,dq,dZ,gR,iz⟩:=ad.Qv aD aU;obtain ⟨u,hX,u2,De⟩:=DZ ao;have sy:=u2 _ _ _ _ aE;have x8:=HO mm dq (fun i aa=>let ⟨e,a,b,_⟩:=iz i aa;⟨e,a,b⟩);have eO: ∀e∈es.toList,e.key≠u:=by
  intro e yb he;obtain ⟨i,aP,rfl⟩:=ln yb;have lV:i<ks.length:=by simpa [dq] using aP
  obtain ⟨gY,cY,eT,_⟩:=iz i lV;have:es.toList[i]=gY:=by
   have aw:es.toList[i]? =some gY:=by simpa using cY
   rw [mL aP] at aw;exact p3 aw
  rw [this] at he;rw [he] at eT;have ej:ks.getD i .any∈ks:=by simp [List.getD,lV]
  have:=De _ (mm _ ej) _ _ _ eT;rw [this] at ej;exact U ej
 have ez:(Instr.mapUpdate t (a.eval x) (a.eval ix) (a.eval y)).run P w= .ok () {w with heap:=w.heap.setIfInBounds b (.map (es.push {key:=u,val:=a.eval y,born:=clock}) (clock+1))}:=by
  rw [bO,sy];rcases GJ aN hX w es.toList x8 with ⟨gq,gJ⟩|⟨j,gY,gq,gJ,nW⟩
  ·simp only [Instr.mapUpdate,Sem.run_bind,run_underlying bs,Result.andThen_ok,MapKept.run_getObj_map bW,GL aN hX,gq,MapKept.run_setObj_map _ bW]
  ·exact absurd nW (eO gY (oA gJ))
 have cS:=MapKept.heap_set (o':= .map (es.push {key:=u,val:=a.eval y,born:=clock}) (clock+1)) bW;generalize u7:({w with heap:=w.heap.setIfInBounds b (.map (es.push {key:=u,val:=a.eval y,born:=clock}) (clock+1))}:World)=w' at ez;have yl:w'.heap=w.heap.setIfInBounds b (.map (es.push {key:=u,val:=a.eval y,born:=clock}) (clock+1)):=by rw [←u7]
 have J9: ¬S b:=(ad.obj aU bG).2.choose_spec.2.2.2.2.1;have mn: ∀b',b'≠b→w'.heap[b']? =w.heap[b']? :=fun b' ak=>by rw [yl];exact cS.2 b' ak
 have ah: ∀{x v},bp w S σ x v→bp w' S σ x v:=fun ah=>ah.mono (fun _ h=>h) (fun b' ak=>mn b' (fun e=>J9 (e▸ak))) _ (fun _ _ h=>h);refine ⟨w',σ,S,by simp only [execOp,Sem.run_bind,ez];rfl,ad.QK (o:=⟨cr,.mp ks vs⟩) aU bG (c':= .mp (ks++[dY]) (vs++[v])) (cur':= #[]) w' (by rw [←u7]) (by rw [←u7]) (by rw [←u7]) (by rw [yl];simp) mn I (cf _) I (fun i j aa=>absurd aa (gy _))
  (.map _ _ _ (clock+1) rfl rfl (by rw [yl];exact cS.1) (by simp [dq]) (by simp [dZ]) ?_ (fun j ae=> ?_))⟩
 ·rw [Array.toList_push,List.pairwise_append];exact ⟨gR,bZ,fun x ar y aY=>by simp at aY;subst aY;exact eO x ar⟩
 ·simp only [c2,fZ,kd] at ae;by_cases au:j<ks.length
  ·obtain ⟨e,gq,gJ,nW⟩:=iz j au;refine ⟨e,by rw [Array.getElem?_push,az J];exact gq,?_,?_⟩
   ·have:(ks++[dY]).getD j .any=ks.getD j .any:=by simp [List.getD,hQ au]
    rw [this];exact ah gJ
   ·have:(vs++[v]).getD j .any=vs.getD j .any:=by simp [List.getD,hQ (show j<vs.length by omega)]
    rw [this];exact ah nW
  ·have gI:j=es.size:=J;refine ⟨{key:=u,val:=a.eval y,born:=clock},by rw [Array.getElem?_push,aG gI],?_,?_⟩
   ·have:(ks++[dY]).getD j .any=dY:=by simp [List.getD,gI,dq]
    rw [this];have:=ah aE;rw [sy] at this;exact this
   ·have:(vs++[v]).getD j .any=v:=by simp [List.getD,gI,dq,←dZ]
    rw [this];exact ah bM
end
end Go.ai
namespace Go.ai
variable [bq]
open Go.RowKit
section
variable {ind:Bool}{P:Program}{fn:Func}{c:Ctx}{fr:Fr}{H:aX}{k:List eh}
variable {d:Option Nat}{ty:TypeId}{pos:String}{after:Array Edge}{g:Option (Nat×Bool)}
end
end Go.ai
namespace Go.ai
variable [bq]
open Go.RowKit
abbrev ag (n:Nat):al:= .int .i64 (n:Int)
section
variable {P:Program}{fn:Func}{c:Ctx}{fr:Fr}{H:aX}{k:List eh}
theorem dP {all:Array Oper}{t:TypeId}{x y:Operand}{ty:TypeId}{pos:String}{after:Array Edge}{rest:List Oper}{h:Nat}{bc:bk}{L:List al}{c':Cells}(ar:bA fr x=some (.ptr h 0 0))(aY:bA fr y=some (.agg L))(ax:(P.info? t).map (·.size)=some bc.c.aC)(aU:H[h]? =some (some bc))(au:L.length=bc.c.aC)(U:c'.len=bc.c.len)(ab:c'.aC=bc.c.aC)(ao:ai P fn c (.ops false all rest k) fr (H.set h (some ⟨bc.ty,c'⟩)))(aa:0<bc.c.len:=by exact fp)(aw: ∀aI a7,aI<bc.c.len→a7<bc.c.aC→c'.at aI a7=if aI=0 then L.getD a7 .any else bc.c.at aI a7:=by (intro aI a7 aP bf;rw [aG (e5.1 aP)];rfl))(mZ:bc.c.aC≠0:=by (intro aU;cases aU)):
 ai P fn c (.ops false all (⟨none,.store t x y,ty,pos,after,none⟩::rest) k) fr H:=er ar aY ax aU au aa U ab aw ao mZ
variable {ind:Bool}{d:Option Nat}{ty:TypeId}{pos:String}{after:Array Edge}{g:Option (Nat×Bool)}
theorem lA {x i:Operand}{t e:TypeId}{h o len ix:Nat}{bc:bk}{k:IntKind}{m:Int}(bs:P.underlying t=some (.slice e))(ar:bA fr x=some (.aA h o len))(aa:bA fr i=some (.int k m))(aU:H[h]? =some (some bc):=by assumption)(ax:(P.info? e).map (·.size)=some bc.c.aC:=by rfl)(x6:o+m.toNat=ix:=by first|(simp only [c1,cA,gn];exact rfl)|exact rfl)(ak:0≤m∧m<len:=by omega):
 bV ind P fn c fr H ⟨d,.indexAddr t x i,ty,pos,after,g⟩ (.ptr h ix 0):=yC bs ar aa aU ax x6 ak
theorem adB {x:Operand}{t:TypeId}{u:TypeDesc}{h i j:Nat}{bc:bk}{inf:TypeInfo}{L:List al}(bs:P.underlying t=some u)(hu:iP u=true)(ib:P.info? t=some inf)(ar:bA fr x=some (.ptr h i j))(aU:H[h]? =some (some bc):=by assumption)(cq:Nat.ble (j+inf.size) bc.c.aC=true:=by rfl)(cv:(List.range inf.size).map (fun e=>bc.c.at i (j+e))=L:=by rfl)(aa:i<bc.c.len:=by first|exact fp|assumption|omega):bV false P fn c fr H ⟨d,.load t x,ty,pos,after,g⟩ (.agg L):=agp bs hu ib ar aU cq cv aa
theorem Gr {x:Operand}{t:TypeId}{u:TypeDesc}{h i:Nat}{bc:bk}{inf:TypeInfo}{L:List al}(bs:P.underlying t=some u)(hu:iP u=true)(ib:P.info? t=some inf)(ar:bA fr x=some (.ptr h i 0))(aU:H[h]? =some (some bc):=by assumption)(cq:inf.size=bc.c.aC:=by rfl)(cv:(List.range bc.c.aC).map (bc.c.at i)=L:=by rfl)(aa:i<bc.c.len:=by first|exact fp|assumption|omega):bV false P fn c fr H ⟨d,.load t x,ty,pos,after,g⟩ (.agg L):=Lr bs hu ib ar aU cq cv aa
theorem K0 {x:Operand}{t:TypeId}{u:TypeDesc}{h i j:Nat}{bc:bk}{inf:TypeInfo}{L:List al}(bs:P.underlying t=some u)(hu:iP u=true)(ib:P.info? t=some inf)(cq:Nat.ble (j+inf.size) bc.c.aC=true)(ar:bA fr x=some (.ptr h i j))(aU:H[h]? =some (some bc))(cv:(List.range inf.size).map (fun e=>bc.c.at i (j+e))=L)(aa:i<bc.c.len:=by first|exact fp|assumption|omega):bV false P fn c fr H ⟨d,.load t x,ty,pos,after,g⟩ (.agg L):=GH bs hu ib cq ar aU cv aa
end
end Go.ai
namespace Go.ai
open Go.RowKit
structure ky (p:Prop):Prop where
 out:p
theorem bN {G dJ:Prop}(k:dJ)(h:ky dJ→G:=by intro k;(repeat (first|refine an (bL rfl) ?_|refine an (dr rfl) ?_|refine cK ?_|refine b0 ?_|refine c6 ?_|refine c0 rfl ?_|refine oX ?_));exact k.out):G:=h ⟨k⟩
theorem bI {G dJ:Prop}(k:dJ)(h:ky dJ→G:=by intro k;(repeat (first|refine an (bL rfl) ?_|refine an (dr rfl) ?_|refine cK ?_|refine b0 ?_|refine c6 ?_|refine c0 rfl ?_|refine kL ?_|refine fK ?_|refine iB ?_|refine oX ?_));exact k.out):G:=h ⟨k⟩
theorem dw {G dJ:Prop}(k:dJ)(h:ky dJ→G:=by intro k;(repeat (first|refine an (bL rfl) ?_|refine an (dr rfl) ?_|refine cK ?_|refine b0 ?_|refine c6 ?_|refine c0 rfl ?_|refine lf rfl rfl ?_|refine kL ?_|refine fK ?_|refine iB ?_|refine oX ?_|refine AW ?_|refine an (lF rfl rfl) ?_|refine an (nm rfl rfl) ?_));exact k.out):G:=h ⟨k⟩
theorem bz {G dJ:Prop}(k:dJ)(h:ky dJ→G:=by intro k;(repeat (first|refine an (bL rfl) ?_|refine an (dr rfl) ?_|refine cK ?_|refine b0 ?_|refine c6 ?_|refine c0 rfl ?_|refine lf rfl rfl ?_|refine kL ?_|refine fK ?_|refine iB ?_|refine oX ?_|refine AW ?_|refine an (sN rfl rfl) ?_|refine an (lF rfl rfl) ?_|refine an (nm rfl rfl) ?_|refine an (gC rfl rfl rfl) ?_|refine an (hl rfl rfl J) ?_|refine iG rfl rfl rfl rfl rfl rfl rfl rfl rfl rfl rfl ?_));exact k.out):G:=h ⟨k⟩
theorem bl {G dJ:Prop}(k:dJ)(h:ky dJ→G:=by intro k;(repeat (first|refine an (bL rfl) ?_|refine an (dr rfl) ?_|refine cK ?_|refine b0 ?_|refine c6 ?_|refine c0 rfl ?_|refine lf rfl rfl ?_|refine ni rfl ?_|refine kL ?_|refine fK ?_|refine iB ?_|refine oX ?_|refine AW ?_|refine an (jl rfl rfl rfl rfl rfl) ?_|refine an (qI rfl rfl) ?_|refine an (ob rfl rfl) ?_|refine an (sN rfl rfl) ?_|refine an (lF rfl rfl) ?_|refine an (nm rfl rfl) ?_|refine an (gC rfl rfl rfl) ?_|refine an (hl rfl rfl J) ?_|refine an (j3 rfl rfl rfl rfl hH J) ?_|refine iG rfl rfl rfl rfl rfl rfl rfl rfl rfl rfl rfl ?_|refine my rfl rfl rfl ?_));exact k.out):G:=h ⟨k⟩
theorem bt {G dJ:Prop}(k:dJ)(h:ky dJ→G:=by intro k;(repeat (first|refine an (bL rfl) ?_|refine an (dr rfl) ?_|refine cK ?_|refine b0 ?_|refine c6 ?_|refine c0 rfl ?_|refine lf rfl rfl ?_|refine qs rfl ?_|refine ni rfl ?_|refine ld ?_|refine kL ?_|refine fK ?_|refine iB ?_|refine qB ?_|refine qu ?_|refine qt ?_|refine rr ?_|refine oX ?_|refine AW ?_|refine an (jl rfl rfl rfl rfl rfl) ?_|refine an (qI rfl rfl) ?_|refine an (ob rfl rfl) ?_|refine an (sN rfl rfl) ?_|refine an (uj rfl) ?_|refine an (lF rfl rfl) ?_|refine an (nm rfl rfl) ?_|refine an (gC rfl rfl rfl) ?_|refine an (hl rfl rfl J) ?_|refine an (j3 rfl rfl rfl rfl hH J) ?_|refine an (dh rfl rfl rfl rfl rfl rfl) ?_|refine iG rfl rfl rfl rfl rfl rfl rfl rfl rfl rfl rfl ?_|refine my rfl rfl rfl ?_));exact k.out):G:=h ⟨k⟩
theorem bm {G dJ:Prop}(k:dJ)(h:ky dJ→G:=by intro k;(repeat (first|refine an (bL rfl) ?_|refine an (dr rfl) ?_|refine an (Dp rfl rfl rfl) ?_|refine cK ?_|refine b0 ?_|refine c6 ?_|refine c0 rfl ?_|refine lf rfl rfl ?_|refine sG rfl rfl rfl ?_|refine qs rfl ?_|refine ni rfl ?_|refine ld ?_|refine kL ?_|refine fK ?_|refine iB ?_|refine qB ?_|refine qu ?_|refine qt ?_|refine rr ?_|refine oX ?_|refine AW ?_|refine ahO ?_|refine ahP ?_|refine an (tE rfl rfl rfl rfl) ?_|refine an (jl rfl rfl rfl rfl rfl) ?_|refine an (qI rfl rfl) ?_|refine an (ob rfl rfl) ?_|refine an (sN rfl rfl) ?_|refine an (BM rfl rfl) ?_|refine an (uj rfl) ?_|refine an (lF rfl rfl) ?_|refine an (nm rfl rfl) ?_|refine an (gC rfl rfl rfl) ?_|refine an (Bj rfl rfl) ?_|refine an (hl rfl rfl J) ?_|refine an (j3 rfl rfl rfl rfl hH J) ?_|refine an (gk rfl rfl rfl rfl rfl hH J) ?_|refine an (D4 rfl rfl) ?_|refine an (dh rfl rfl rfl rfl rfl rfl) ?_|refine an (wP rfl rfl rfl rfl rfl rfl) ?_|refine an (GH rfl rfl rfl rfl rfl rfl rfl F8) ?_|refine iG rfl rfl rfl rfl rfl rfl rfl rfl rfl rfl rfl ?_|refine ua rfl rfl ?_|refine my rfl rfl rfl ?_));exact k.out):G:=h ⟨k⟩
theorem cM {G dJ:Prop}(k:dJ)(h:ky dJ→G:=by intro k;(repeat (first|refine an (bL rfl) ?_|refine an (dr rfl) ?_|refine cK ?_|refine b0 ?_|refine c6 ?_|refine c0 rfl ?_|refine ld ?_|refine kL ?_|refine fK ?_|refine iB ?_|refine an (qI rfl rfl) ?_|refine an (zd rfl rfl) ?_|refine an (gC rfl rfl rfl) ?_|refine an (hl rfl rfl J) ?_|refine an (qJ rfl rfl J) ?_|refine an (gk rfl rfl rfl rfl rfl hH J) ?_|refine an (Dn rfl rfl rfl rfl mq) ?_|refine an (jQ rfl) ?_|refine an (dh rfl rfl rfl rfl rfl rfl) ?_|refine an (yC rfl rfl rfl hv kl hH J) ?_|refine an (Lr rfl rfl rfl rfl hv kl kl F8) ?_|refine an (n0 rfl rfl rfl hv kl) ?_|refine an (LD rfl rfl rfl hv mq) ?_|refine an (Dk rfl rfl rfl hv rfl mq) ?_|refine kN rfl rfl rfl rfl rfl rfl rfl (by first|assumption|(show _<List.length _;first|assumption|omega)) ?_|refine my rfl rfl rfl ?_));exact k.out):G:=h ⟨k⟩
theorem fx {G dJ:Prop}(k:dJ)(h:ky dJ→G:=by intro k;(repeat (first|refine an (bL rfl) ?_|refine an (dr rfl) ?_|refine cK ?_|refine b0 ?_|refine c6 ?_|refine c0 rfl ?_|refine lf rfl rfl ?_|refine ni rfl ?_|refine iB ?_|refine oX ?_|refine an (jl rfl rfl rfl rfl rfl) ?_|refine an (ob rfl rfl) ?_|refine an (QE rfl rfl) ?_|refine an (zd rfl rfl) ?_|refine an (lF rfl rfl) ?_|refine an (gC rfl rfl rfl) ?_|refine an (Bj rfl rfl) ?_|refine an (qJ rfl rfl J) ?_|refine an (iD rfl rfl rfl rfl rfl rfl) ?_|refine an (MX rfl rfl) ?_|refine an (pN rfl rfl rfl rfl) ?_|refine an (jQ rfl) ?_|refine an (dh rfl rfl rfl rfl rfl rfl) ?_|refine kN rfl rfl rfl rfl rfl rfl rfl fp ?_|refine iG rfl rfl rfl rfl rfl rfl rfl rfl rfl rfl rfl ?_|refine my rfl rfl rfl ?_));exact k.out):G:=h ⟨k⟩
theorem rl {G dJ:Prop}(k:dJ)(h:ky dJ→G:=by intro k;(repeat (first|refine an (bL rfl) ?_|refine an (dr rfl) ?_|refine cK ?_|refine b0 ?_|refine c6 ?_|refine c0 rfl ?_|refine qs rfl ?_|refine ni rfl ?_|refine ld ?_|refine kL ?_|refine fK ?_|refine iB ?_|refine an (Sr rfl rfl rfl) ?_|refine an (jl rfl rfl rfl rfl rfl) ?_|refine an (ob rfl rfl) ?_|refine an (uj rfl) ?_|refine an (nm rfl rfl) ?_|refine an (gC rfl rfl rfl) ?_|refine an (hl rfl rfl J) ?_|refine an (j3 rfl rfl rfl rfl hH J) ?_|refine an (iD rfl rfl rfl rfl rfl rfl) ?_|refine an (D4 rfl rfl) ?_|refine an (dh rfl rfl rfl rfl rfl rfl) ?_|refine an (GH rfl rfl rfl rfl rfl rfl rfl F8) ?_|refine kN rfl rfl rfl rfl rfl rfl rfl fp ?_|refine my rfl rfl rfl ?_));exact k.out):G:=h ⟨k⟩
theorem fX {G dJ:Prop}(k:dJ)(h:ky dJ→G:=by intro k;(repeat (first|refine an (bL rfl) ?_|refine an (dr rfl) ?_|refine cK ?_|refine c6 ?_|refine c0 rfl ?_|refine lf rfl rfl ?_|refine ni rfl ?_|refine ld ?_|refine kL ?_|refine iB ?_|refine qB ?_|refine qu ?_|refine qt ?_|refine rr ?_|refine an (jl rfl rfl rfl rfl rfl) ?_|refine an (uj rfl) ?_|refine an (hl rfl rfl J) ?_|refine an (gk rfl rfl rfl rfl rfl hH J) ?_|refine an (Dn rfl rfl rfl rfl mq) ?_|refine an (ahh rfl rfl rfl rfl mq) ?_|refine an (AO rfl rfl rfl rfl rfl mq) ?_|refine an (Hx rfl) ?_|refine an (RM rfl rfl rfl rfl (by first|(simp only [c1,cA];exact rfl)|exact rfl) J) ?_|refine an (yC rfl rfl rfl hv kl hH J) ?_|refine an (Lr rfl rfl rfl rfl hv kl kl F8) ?_|refine kN rfl rfl rfl rfl rfl rfl rfl (by first|assumption|(show _<List.length _;first|assumption|omega)) ?_));exact k.out):G:=h ⟨k⟩
theorem kv {G dJ:Prop}(k:dJ)(h:ky dJ→G:=by intro k;(repeat (first|refine an (bL rfl) ?_|refine an (dr rfl) ?_|refine an (Dp rfl rfl rfl) ?_|refine cK ?_|refine b0 ?_|refine c6 ?_|refine lf rfl rfl ?_|refine sG rfl rfl rfl ?_|refine qB ?_|refine qu ?_|refine qt ?_|refine rr ?_|refine oX ?_|refine an (tE rfl rfl rfl rfl) ?_|refine an (ob rfl rfl) ?_|refine an (BM rfl rfl) ?_|refine an (lF rfl rfl) ?_|refine an (nm rfl rfl) ?_|refine an (gC rfl rfl rfl) ?_|refine an (Bj rfl rfl) ?_|refine an (qJ rfl rfl J) ?_|refine an (j3 rfl rfl rfl rfl hH J) ?_|refine an (D4 rfl rfl) ?_|refine an (pN rfl rfl rfl rfl) ?_|refine an (AU rfl rfl rfl rfl rfl rfl J) ?_|refine an (oW rfl rfl rfl rfl rfl rfl) ?_));exact k.out):G:=h ⟨k⟩
theorem vf {G dJ:Prop}(k:dJ)(h:ky dJ→G:=by intro k;(repeat (first|refine an (bL rfl) ?_|refine an (dr rfl) ?_|refine cK ?_|refine b0 ?_|refine c6 ?_|refine c0 rfl ?_|refine qs rfl ?_|refine ni rfl ?_|refine ld ?_|refine fK ?_|refine iB ?_|refine an (tE rfl rfl rfl rfl) ?_|refine an (ob rfl rfl) ?_|refine an (sN rfl rfl) ?_|refine an (QE rfl rfl) ?_|refine an (zd rfl rfl) ?_|refine an (gC rfl rfl rfl) ?_|refine an (Bj rfl rfl) ?_|refine an (hl rfl rfl J) ?_|refine an (j3 rfl rfl rfl rfl hH J) ?_|refine an (pN rfl rfl rfl rfl) ?_|refine an (QF rfl rfl) ?_|refine an (Hx rfl) ?_|refine an (T3 rfl rfl rfl (by first|assumption|omega|simp)) ?_|refine an (AU rfl rfl rfl rfl rfl rfl J) ?_|refine an (oW rfl rfl rfl rfl rfl rfl) ?_));exact k.out):G:=h ⟨k⟩
theorem dS {G dJ:Prop}(k:dJ)(h:ky dJ→G:=by intro k;(repeat (first|refine an (bL rfl) ?_|refine an (dr rfl) ?_|refine cK ?_|refine b0 ?_|refine lf rfl rfl ?_|refine sG rfl rfl rfl ?_|refine ni rfl ?_|refine ld ?_|refine iB ?_|refine qB ?_|refine qu ?_|refine qt ?_|refine rr ?_|refine Sf rfl ?_|refine an (jl rfl rfl rfl rfl rfl) ?_|refine an (qI rfl rfl) ?_|refine an (BM rfl rfl) ?_|refine an (zd rfl rfl) ?_|refine an (uj rfl) ?_|refine an (lF rfl rfl) ?_|refine an (nm rfl rfl) ?_|refine an (hl rfl rfl J) ?_|refine an (qJ rfl rfl J) ?_|refine an (D4 rfl rfl) ?_|refine an (jQ rfl) ?_|refine an (dh rfl rfl rfl rfl rfl rfl) ?_));exact k.out):G:=h ⟨k⟩
theorem tu {G dJ:Prop}(k:dJ)(h:ky dJ→G:=by intro k;(repeat (first|refine an (bL rfl) ?_|refine an (dr rfl) ?_|refine cK ?_|refine b0 ?_|refine c6 ?_|refine c0 rfl ?_|refine lf rfl rfl ?_|refine Lj rfl rfl ?_|refine sG rfl rfl rfl ?_|refine ni rfl ?_|refine ld ?_|refine iB ?_|refine qB ?_|refine qu ?_|refine qt ?_|refine rr ?_|refine Sf rfl ?_|refine oX ?_|refine an (BM rfl rfl) ?_|refine an (lF rfl rfl) ?_|refine an (gC rfl rfl rfl) ?_|refine an (hl rfl rfl J) ?_|refine an (LL rfl rfl rfl rfl rfl rfl rfl J) ?_|refine an (iD rfl rfl rfl rfl rfl rfl) ?_|refine ua rfl rfl ?_|refine my rfl rfl rfl ?_));exact k.out):G:=h ⟨k⟩
theorem yu {G dJ:Prop}(k:dJ)(h:ky dJ→G:=by intro k;(repeat (first|refine an (bL rfl) ?_|refine an (dr rfl) ?_|refine cK ?_|refine b0 ?_|refine c6 ?_|refine c0 rfl ?_|refine fK ?_|refine qB ?_|refine qu ?_|refine qt ?_|refine rr ?_|refine an (jl rfl rfl rfl rfl rfl) ?_|refine an (ob rfl rfl) ?_|refine an (BM rfl rfl) ?_|refine an (gC rfl rfl rfl) ?_|refine an (hl rfl rfl J) ?_|refine an (adt rfl rfl J) ?_|refine an (iD rfl rfl rfl rfl rfl rfl) ?_|refine an (pN rfl rfl rfl rfl) ?_|refine an (adq rfl rfl) ?_|refine an (jQ rfl) ?_|refine an (vl rfl) ?_|refine an (dh rfl rfl rfl rfl rfl rfl) ?_|refine an (n0 rfl rfl rfl hv kl) ?_|refine iG rfl rfl rfl rfl rfl rfl rfl rfl rfl rfl rfl ?_|refine ua rfl rfl ?_));exact k.out):G:=h ⟨k⟩
theorem Da {G dJ:Prop}(k:dJ)(h:ky dJ→G:=by intro k;(repeat (first|refine an (bL rfl) ?_|refine an (dr rfl) ?_|refine cK ?_|refine b0 ?_|refine c6 ?_|refine c0 rfl ?_|refine lf rfl rfl ?_|refine Lj rfl rfl ?_|refine sG rfl rfl rfl ?_|refine qs rfl ?_|refine ni rfl ?_|refine iB ?_|refine oX ?_|refine AW ?_|refine an (uj rfl) ?_|refine an (lF rfl rfl) ?_|refine an (gC rfl rfl rfl) ?_|refine an (Bj rfl rfl) ?_|refine an (hl rfl rfl J) ?_|refine an (qJ rfl rfl J) ?_|refine an (gk rfl rfl rfl rfl rfl hH J) ?_|refine an (MX rfl rfl) ?_|refine an (pN rfl rfl rfl rfl) ?_|refine an (AU rfl rfl rfl rfl rfl rfl J) ?_|refine an (oW rfl rfl rfl rfl rfl rfl) ?_|refine kN rfl rfl rfl rfl rfl rfl rfl (by first|assumption|(show _<List.length _;first|assumption|omega)) ?_));exact k.out):G:=h ⟨k⟩
theorem K2 {G dJ:Prop}(k:dJ)(h:ky dJ→G:=by intro k;(repeat (first|refine an (bL rfl) ?_|refine an (dr rfl) ?_|refine an (Dp rfl rfl rfl) ?_|refine cK ?_|refine b0 ?_|refine c6 ?_|refine c0 rfl ?_|refine ld ?_|refine fK ?_|refine iB ?_|refine qB ?_|refine qu ?_|refine qt ?_|refine rr ?_|refine oX ?_|refine an (jl rfl rfl rfl rfl rfl) ?_|refine an (ob rfl rfl) ?_|refine an (hl rfl rfl J) ?_|refine an (j3 rfl rfl rfl rfl hH J) ?_|refine an (gk rfl rfl rfl rfl rfl hH J) ?_|refine an (Dn rfl rfl rfl rfl mq) ?_|refine an (AO rfl rfl rfl rfl rfl mq) ?_|refine an (aiy rfl rfl rfl rfl rfl rfl rfl rfl J) ?_|refine an (dh rfl rfl rfl rfl rfl rfl) ?_|refine kN rfl rfl rfl rfl rfl rfl rfl (by first|assumption|(show _<List.length _;first|assumption|omega)) ?_));exact k.out):G:=h ⟨k⟩
theorem tv {G dJ:Prop}(k:dJ)(h:ky dJ→G:=by intro k;(repeat (first|refine an (bL rfl) ?_|refine an (dr rfl) ?_|refine cK ?_|refine b0 ?_|refine c6 ?_|refine c0 rfl ?_|refine sG rfl rfl rfl ?_|refine qs rfl ?_|refine fK ?_|refine iB ?_|refine an (Sr rfl rfl rfl) ?_|refine an (tE rfl rfl rfl rfl) ?_|refine an (ob rfl rfl) ?_|refine an (sN rfl rfl) ?_|refine an (uj rfl) ?_|refine an (lF rfl rfl) ?_|refine an (nm rfl rfl) ?_|refine an (j3 rfl rfl rfl rfl hH J) ?_|refine an (iD rfl rfl rfl rfl rfl rfl) ?_|refine an (MX rfl rfl) ?_|refine an (Hx rfl) ?_|refine an (yC rfl rfl rfl hv kl hH J) ?_|refine an (Dk rfl rfl rfl hv rfl mq) ?_|refine kN rfl rfl rfl rfl rfl rfl rfl fp ?_|refine iG rfl rfl rfl rfl rfl rfl rfl rfl rfl rfl rfl ?_|refine my rfl rfl rfl ?_));exact k.out):G:=h ⟨k⟩
theorem K3 {G dJ:Prop}(k:dJ)(h:ky dJ→G:=by intro k;(repeat (first|refine an (bL rfl) ?_|refine an (dr rfl) ?_|refine cK ?_|refine b0 ?_|refine c6 ?_|refine c0 rfl ?_|refine lf rfl rfl ?_|refine ld ?_|refine fK ?_|refine iB ?_|refine an (tE rfl rfl rfl rfl) ?_|refine an (sN rfl rfl) ?_|refine an (gC rfl rfl rfl) ?_|refine an (Bj rfl rfl) ?_|refine an (qJ rfl rfl J) ?_|refine an (j3 rfl rfl rfl rfl hH J) ?_|refine an (LL rfl rfl rfl rfl rfl rfl rfl J) ?_|refine an (T3 rfl rfl rfl (by first|assumption|omega|simp)) ?_|refine an (wP rfl rfl rfl rfl rfl rfl) ?_));exact k.out):G:=h ⟨k⟩
theorem Db {G dJ:Prop}(k:dJ)(h:ky dJ→G:=by intro k;(repeat (first|refine cK ?_|refine b0 ?_|refine c6 ?_|refine fK ?_|refine iB ?_|refine an (Hx rfl) ?_|refine kN rfl rfl rfl rfl rfl rfl rfl fp ?_|refine my rfl rfl rfl ?_));exact k.out):G:=h ⟨k⟩
end Go.ai
namespace Go.ai.c8
abbrev B:Nat:=4294967296
def bo:List Int→Nat
 |[]=>0
 |x::r=>x.toNat+B*bo r
def aW (n:Nat):List Int:=if h:n=0 then [] else ((n%B:Nat):Int)::aW (n/B)
termination_by n
decreasing_by exact B2 (xz h) a6
def cG (l:List Int):Prop:= ∀x∈l,0≤x∧x<4294967296
theorem qy:aW 0=[]:=by rw [aW,dif_pos rfl]
theorem D2 {n:Nat}(h:n≠0):aW n=((n%B:Nat):Int)::aW (n/B):=by rw [aW,dif_neg h]
theorem gT (n:Nat):bo (aW n)=n:=by
 induction n using Nat.strongRecOn with
 |_ n a8=>
  by_cases h:n=0
  ·subst h;rw [qy];rfl
  ·rw [D2 h,bo,a8 _ (B2 (xz h) a6),cA];exact Nat.mod_add_div n B
theorem cG.cons {x:Int}{r:List Int}:cG (x::r)↔(0≤x∧x<4294967296)∧cG r:=by simp [cG]
theorem cG.append {l m:List Int}:cG (l++m)↔cG l∧cG m:=by
 constructor
 ·exact fun h=>⟨fun x ar=>h x (ux _ ar),fun x ar=>h x (List.mem_append_right _ ar)⟩
 ·rintro ⟨U,ab⟩ x ar;rcases gz.1 ar with h|h
  ·exact U x h
  ·exact ab x h
theorem cG.nil:cG []:=fun x ar=>by simp at ar
theorem cG.one {x:Int}(h:0≤x∧x<4294967296):cG [x]:=by rw [cG.cons];exact ⟨h,cG.nil⟩
theorem ij (n:Nat):cG (aW n):=by
 induction n using Nat.strongRecOn with
 |_ n a8=>
  by_cases h:n=0
  ·subst h;rw [qy];exact cG.nil
  ·rw [D2 h,cG.cons];refine ⟨?_,a8 _ (B2 (xz h) a6)⟩;have:=kA n (show 0<B by decide);unfold B at this⊢;omega
theorem cG.get {l:List Int}(h:cG l){i:Nat}(aa:i<l.length):0≤l.getD i 0∧l.getD i 0<4294967296:=h _ (mz 0 aa)
theorem cG.take {l:List Int}(h:cG l)(k:Nat):cG (l.take k):=fun x ar=>h x (oB ar)
theorem yD (l m:List Int):bo (l++m)=bo l+B^l.length*bo m:=by
 induction l with
 |nil=>simp [bo]
 |cons x r a8=>
  rw [oC,bo,bo,a8,fZ,h4];rw [gN,kC,gM (B^r.length) B,ke]
theorem jf {l:List Int}(h:cG l):bo l<B^l.length:=by
 induction l with
 |nil=>simp [bo]
 |cons x r a8=>
  rw [cG.cons] at h;have i:=a8 h.2;rw [bo,fZ,h4];have ar:x.toNat<B:=by unfold B;omega
  have:bo r+1≤B^r.length:=i;calc x.toNat+B*bo r<B+B*bo r:=J
   _=B*(bo r+1):=by rw [gN,q3];omega
   _≤B*B^r.length:=h5 _ this
   _=B^r.length*B:=gM _ _
theorem LW (k:Nat):bo (List.replicate k 0)=0:=by
 induction k with
 |zero=>rfl
 |succ k a8=>rw [List.replicate_succ,bo,a8];rfl
theorem Ut {l:List Int}(h:cG l)(bw:l=[]∨l.getD (l.length-1) 0≠0):aW (bo l)=l:=by
 induction l with
 |nil=>exact qy
 |cons x r a8=>
  rw [cG.cons] at h;have ar:x.toNat<B:=by unfold B;omega
  have aaP:((x.toNat:Nat):Int)=x:=J;have ad:r=[]∨r.getD (r.length-1) 0≠0:=by
   cases r with
   |nil=>exact .inl rfl
   |cons y q=>
    right;rcases bw with bw|bw
    ·cases bw
    ·simpa using bw
  have i:=a8 h.2 ad;have b2:bo (x::r)≠0:=by
   rw [bo];cases r with
   |nil=>
    rcases bw with bw|bw
    ·cases bw
    ·simp at bw;simp [bo];omega
   |cons y q=>
    intro aO;have U:bo (y::q)=0:=by
     have:B*bo (y::q)=0:=J;rcases Nat.mul_eq_zero.1 this with h|h
     ·exact absurd h a6
     ·exact h
    rw [U,qy] at i;cases i
  rw [D2 b2];have aD:bo (x::r)%B=x.toNat:=by rw [bo,EJ,mK ar]
  have aE:bo (x::r)/B=bo r:=by rw [bo,Nat.add_mul_div_left _ _ a6,ox ar,c1]
  rw [aD,aE,i,aaP]
theorem Ta {n:Nat}:aW n=[]∨(aW n).getD ((aW n).length-1) 0≠0:=by
 induction n using Nat.strongRecOn with
 |_ n a8=>
  by_cases h:n=0
  ·subst h;exact .inl qy
  ·right;rw [D2 h];have bC:=B2 (xz h) (show 1<B by decide);rcases a8 (n/B) bC with U|U
   ·rw [U];have:n/B=0:=by have:=gT (n/B);rw [U] at this;exact this.symm
    have aF:n<B:=by
     rcases ga n B with q|q
     ·exact q
     ·have:=Nat.div_pos q (show 0<B by decide);omega
    simp only [fZ,kd,c1,oD,zo];rw [mK aF];omega
   ·cases aB:aW (n/B) with
    |nil=>rw [aB] at U;simp at U
    |cons y q=>
     rw [aB] at U;simpa using U
theorem ajP {l:List Int}(h:cG l){k:Nat}(ao:k≤l.length)(aO: ∀i,k≤i→i<l.length→l.getD i 0=0)(bw:k=0∨l.getD (k-1) 0≠0):l.take k=aW (bo l):=by
 have e:l.drop k=List.replicate (l.length-k) 0:=by
  apply lo
  ·simp
  ·intro i U ab;simp only [uB] at U;have:=aO (k+i) J J;rw [sM 0 J] at this;simpa using this
 have ah:bo l=bo (l.take k):=by
  conv=>lhs;rw [←rV k l]
  rw [yD,e,LW,rY,eQ]
 rw [ah,Ut (h.take k)];rcases bw with bw|bw
 ·subst bw;exact .inl bZ
 ·right;rw [ff,hF ao];have nM:k≠0:=fun e=>by
   subst e;cases l with
   |nil=>simp at bw
   |cons x r=>exact bw (aO 0 (bR _) bZ)
  simp only [List.getD,pj,show k-1<k by omega,fS];exact bw
theorem nj {n k:Nat}(h:n<B^k):(aW n).length≤k:=by
 rcases Ta (n:=n) with U|U
 ·rw [U];exact cf _
 ·rcases ga k (aW n).length with au|au
  ·exfalso;have ah:=gT n;have Ak:=yD ((aW n).take ((aW n).length-1)) ((aW n).drop ((aW n).length-1));rw [rV,ah] at Ak;have hd:(aW n).drop ((aW n).length-1)=[(aW n).getD ((aW n).length-1) 0]:=by rw [tL (aW n) 0 _ J,zp J]
   have cX:=(ij n).get (i:=(aW n).length-1) J;rw [hd] at Ak;simp only [bo,rY,eQ,ff] at Ak;rw [hF J] at Ak;have ar:1≤((aW n).getD ((aW n).length-1) 0).toNat:=J;have aJ:B^k≤B^((aW n).length-1):=gp a6 J;have:B^((aW n).length-1)*1≤B^((aW n).length-1)*((aW n).getD ((aW n).length-1) 0).toNat:=h5 _ ar;omega
  ·exact au
theorem aht {n k:Nat}(h:B^k≤n):k<(aW n).length:=by have U:=jf (ij n);rw [gT] at U;exact (Nat.pow_lt_pow_iff_right (show 1<B by decide)).1 (rX h U)
theorem aca {a b:Nat}(h:aW a=aW b):a=b:=by rw [←gT a,←gT b,h]
theorem acb {n:Nat}:aW n=[]↔n=0:=by
 constructor
 ·intro h;rw [←gT n,h];rfl
 ·rintro rfl;exact qy
theorem Lo {l:List Int}(i:Nat)(aa:i<l.length):bo (l.take (i+1))=bo (l.take i)+B^i*(l.getD i 0).toNat:=by rw [qq l 0 i aa,yD];simp only [bo,rY,eQ,ff];rw [hF J]
theorem yK {l:List Int}(x:Int):bo (l++[x])=bo l+B^l.length*x.toNat:=by rw [yD];simp only [bo,rY,eQ]
theorem SW {a b:List Int}(i:Nat)(a1:cG a)(ak:cG b)(au:a.length=b.length)(aa:i<a.length)(he: ∀j,i<j→j<a.length→a.getD j 0=b.getD j 0)(bC:a.getD i 0<b.getD i 0):bo a<bo b:=by
 have hd:a.drop (i+1)=b.drop (i+1):=by
  apply lo
  ·simp [au]
  ·intro j U ab;simp only [uB] at U ab;have:=he (i+1+j) J J;rw [sM 0 J,sM 0 J] at this;simpa using this
 have sc:bo a=bo (a.take (i+1))+B^(i+1)*bo (a.drop (i+1)):=by
  conv=>lhs;rw [←rV (i+1) a]
  rw [yD,ff,hF J]
 have nI:bo b=bo (b.take (i+1))+B^(i+1)*bo (b.drop (i+1)):=by
  conv=>lhs;rw [←rV (i+1) b]
  rw [yD,ff,hF J]
 rw [sc,nI,hd,Lo i aa,Lo i J];have U:=jf (a1.take i);rw [ff,hF J] at U;have als:=a1.get aa;have Fw:=ak.get (i:=i) J;have ab:B^i*((a.getD i 0).toNat+1)≤B^i*(b.getD i 0).toNat:=h5 _ J;rw [gN,q3] at ab;omega
theorem M3 {l:List Int}{i:Nat}{x:Int}(aa:i<l.length):bo (l.set i x)+B^i*(l.getD i 0).toNat=bo l+B^i*x.toNat:=by
 induction l generalizing i with
 |nil=>simp at aa
 |cons y r a8=>
  cases i with
  |zero=>simp only [List.set_cons_zero,bo,xD,rZ,zo];omega
  |succ i=>
   have h:=a8 (i:=i) (by simpa using aa);simp only [List.set_cons_succ,bo,List.getD_cons_succ,h4];have aD:B^i*B*(r.getD i 0).toNat=B*(B^i*(r.getD i 0).toNat):=by rw [gM (B^i) B,ke]
   have aE:B^i*B*x.toNat=B*(B^i*x.toNat):=by rw [gM (B^i) B,ke]
   rw [aD,aE];have bM:B*(bo (r.set i x)+B^i*(r.getD i 0).toNat)=B*(bo r+B^i*x.toNat):=by rw [h]
   rw [gN,gN] at bM;omega
theorem cG.set {l:List Int}(h:cG l){i:Nat}{x:Int}(ar:0≤x∧x<4294967296):cG (l.set i x):=fun y aY=>by
 rcases xE aY with U|U
 ·exact h y U
 ·subst U;exact ar
theorem cG.xn (k:Nat):cG (List.replicate k 0):=fun x ar=>by rw [(zq.1 ar).2];omega
theorem LI (c:Nat)(p:Nat):p*(c%B)+p*B*(c/B)=p*c:=by rw [ke,←gN,Nat.mod_add_div]
theorem LS {out:List Int}{i c t u:Nat}(au:out.length=i)(h:bo out+B^i*t=u){d:Nat}(av:c=t+d):bo (out++[((c%B:Nat):Int)])+B^(i+1)*(c/B)=u+B^i*d:=by
 rw [yK,au,cA,h4];have:=LI c (B^i);have e:B^i*c=B^i*t+B^i*d:=by rw [av,gN]
 omega
theorem tV (c:Nat):0≤((c%B:Nat):Int)∧((c%B:Nat):Int)<4294967296:=by have:=kA c (show 0<B by decide);unfold B at this⊢;omega
theorem XU {u v du V P q:Nat}(pz:0<P)(hu:u<(du+1)*P)(ah:V*P≤v)(aB:q*v≤u):q*V≤du:=by
 have U:q*V*P≤q*v:=by rw [ke];exact h5 _ ah
 have ab:q*V*P<(du+1)*P:=rX (dT U aB) hu;have:=Nat.lt_of_mul_lt_mul_right ab;omega
theorem XV {u v du V P g:Nat}(pz:0<P)(hu:du*P≤u)(ah:v≤(V+1)*P)(cX:g*V≤du)(Fv:g≤V+1)(U:1≤g):(g-1)*v≤u:=by
 have a:(g-1)*v≤(g-1)*((V+1)*P):=h5 _ ah;have b:(g-1)*((V+1)*P)=(g-1)*(V+1)*P:=by rw [ke]
 have c:(g-1)*(V+1)≤g*V:=by
  obtain ⟨k,rfl⟩: ∃k,g=k+1:=⟨g-1,J⟩
  simp only [Nat.add_sub_cancel];rw [gN,ef];omega
 have d:(g-1)*(V+1)*P≤du*P:=fo _ (dT c cX);omega
theorem lC (l:List Int)(i:Nat):bo (l.take (i+1))=bo (l.take i)+B^i*(l.getD i 0).toNat:=by
 rcases ga i l.length with h|h
 ·exact Lo i h
 ·rw [jU h,jU J];have:l.getD i 0=0:=by simp [List.getD,jT h]
  rw [this];simp
theorem cG.get' {l:List Int}(h:cG l)(i:Nat):0≤l.getD i 0∧l.getD i 0<4294967296:=by
 rcases ga i l.length with aa|aa
 ·exact h.get aa
 ·have:l.getD i 0=0:=by simp [List.getD,jT aa]
  omega
theorem cG.nat {l:List Int}(h:cG l)(i:Nat): ∃d:Nat,l.getD i 0=(d:Int)∧d<4294967296:=by have:=h.get' i;exact ⟨(l.getD i 0).toNat,J,J⟩
theorem aku (l:List Int)(i:Nat):bo l=bo (l.take i)+B^(min i l.length)*bo (l.drop i):=by
 conv=>lhs;rw [←rV i l]
 rw [yD,ff]
theorem agu (l:List Int)(i:Nat):bo (l.drop i)=(l.getD i 0).toNat+B*bo (l.drop (i+1)):=by
 rcases ga i l.length with h|h
 ·rw [tL l 0 i h,bo]
 ·rw [zp h,zp J];have:l.getD i 0=0:=by simp [List.getD,jT h]
  rw [this];simp [bo]
theorem agi {l:List Int}(h:cG l){k:Nat}(ah:bo l<B^k):bo (l.take k)=bo l:=by
 rcases ga k l.length with au|au
 ·have e:=aku l k;rw [hF J] at e;have:bo (l.drop k)=0:=by
   rcases nD (bo (l.drop k)) with aO|aO
   ·exact aO
   ·exfalso;have:B^k*1≤B^k*bo (l.drop k):=h5 _ aO;omega
  rw [this] at e;omega
 ·rw [jU au]
theorem ajA {l:List Int}{k i:Nat}(h:i<k):(l.take k).getD i 0=l.getD i 0:=by simp only [List.getD,pj,h,fS]
theorem akn {l:List Int}(au:cG l):l.take (aW (bo l)).length=aW (bo l):=by
 have h:=nj (jf au);have kG:=jf (ij (bo l));rw [gT] at kG;have ah:=agi au kG;obtain ⟨n,aF⟩: ∃n,(aW (bo l)).length=n:=⟨_,rfl⟩
 rw [aF] at h kG ah⊢;rcases nD n with q|q
 ·subst q;rw [List.take_zero,uC.1 aF]
 ·have e:=Ut (au.take n) (.inr (fun lv=> ?_))
  ·rw [ah] at e;exact e.symm
  ·rw [ff,hF h,ajA J] at lv;have wk:=lC l (n-1);rw [show n-1+1=n by omega,ah,lv] at wk;have bF:=jf (au.take (n-1));rw [ff,hF J] at bF;have dm:bo l<B^(n-1):=by rw [wk];simpa using bF
   have:=nj dm;omega
theorem UU (n i:Nat):(List.replicate n (0:Int)).getD i 0=0:=by simp only [List.getD,s4];split<;>rfl
theorem EU (i:Nat):0<B^i:=mM a6
theorem TV {out x y:List Int}{i dc d e:Nat}(au:out.length=i)(h:bo out+B^i*dc=bo (x.take i)+bo (y.take i))(hd:x.getD i 0=(d:Int))(he:y.getD i 0=(e:Int)):
 bo (out++[(((dc+d+e)%4294967296:Nat):Int)])+B^(i+1)*((dc+d+e)/4294967296)=bo (x.take (i+1))+bo (y.take (i+1)):=by have:=LS au h (c:=dc+d+e) (d:=d+e) J;rw [lC,lC,hd,he,cA,cA];rw [gN] at this;unfold B at*;omega
theorem aki {out x y:List Int}{i h7 d e yv r9:Nat}(au:out.length=i)(h:bo out+bo (y.take i)=bo (x.take i)+B^i*h7)(hd:x.getD i 0=(d:Int))(he:y.getD i 0=(e:Int))(aY:yv+h7+e=d+4294967296*r9):
 bo (out++[(yv:Int)])+bo (y.take (i+1))=bo (x.take (i+1))+B^(i+1)*r9:=by
 rw [lC,lC,hd,he,cA,cA,yK,au,cA,h4,ke];have aw:B^i*yv+B^i*h7+B^i*e=B^i*d+B^i*(B*r9):=by rw [←gN,←gN,←gN];exact congrArg _ aY
 omega
theorem abZ {out:List Int}{p dc a b o u:Nat}(aJ:p<out.length)(h:bo out+B^p*dc=u)(aj:out.getD p 0=(o:Int)):
 bo (out.set p (((dc+(a*b+o))%4294967296:Nat):Int))+B^(p+1)*((dc+(a*b+o))/4294967296)=u+B^p*(a*b):=by
 have U:=M3 (x:=(((dc+(a*b+o))%4294967296:Nat):Int)) aJ;rw [aj,cA,cA] at U;have ab:=LI (dc+(a*b+o)) (B^p);rw [h4];have e:B^p*(dc+(a*b+o))=B^p*dc+(B^p*(a*b)+B^p*o):=by rw [gN,gN]
 rw [e] at ab;unfold B at*;omega
theorem Du {l:List Int}{i j:Nat}{x:Int}(h:i≠j):(l.set i x).getD j 0=l.getD j 0:=by simp only [List.getD,k0 h]
theorem agV {l:List Int}{i:Nat}{x:Int}(h:i<l.length):(l.set i x).drop i=x::l.drop (i+1):=by
 have ab:i<(l.set i x).length:=by simpa using h
 rw [tL (l.set i x) 0 i ab];congr 1
 ·simp [List.getD,h]
 ·rw [List.drop_set_of_lt J]
theorem Qw:(2:Nat)^32=4294967296:=a6
theorem BG {a:Nat}(h:a<4294967296):a*2^32<18446744073709551616:=by have e:a*2^32=a*4294967296:=congrArg (a* ·) Qw;rw [e];omega
theorem Nv {a b:Nat}(h:b<4294967296):a*2^32|||b=a*4294967296+b:=by have:=Nat.two_pow_add_eq_or_of_lt (i:=32) (b:=b) (by simpa using h) a;rw [gM (2^32) a] at this;rw [←this]
def jx (x y:Int):Int:=if x<y then-1 else if y<x then 1 else 0
theorem Ec {x y:Int}(h:x<y):jx x y= -1:=aG h
theorem Eb {x y:Int}(h:y<x):jx x y=1:=by unfold jx;rw [az J,aG h]
theorem UY {x y:Int}(h:x=y):jx x y=0:=by unfold jx;rw [az J,az J]
theorem W4 (a b:Nat)(h:(aW a).length≠(aW b).length):jx a b=jx (aW a).length (aW b).length:=by
 have key: ∀u v:Nat,(aW u).length<(aW v).length→u<v:=by
  intro u v alK;rcases ga u v with q|q
  ·exact q
  ·exfalso;have U:=jf (ij u);rw [gT] at U;have ab:v<B^(aW u).length:=rX q U;have:=nj ab;omega
 rcases ga (aW a).length (aW b).length with q|q
 ·rw [Ec (uD.2 q),Ec (uD.2 (key a b q))]
 ·have QD:(aW b).length<(aW a).length:=J;rw [Eb (uD.2 QD),Eb (uD.2 (key b a QD))]
theorem W5 {a b:Nat}(a1:cG (aW a))(ak:cG (aW b))(au:(aW a).length=(aW b).length){i:Nat}(aa:i<(aW a).length)(he: ∀j,i<j→j<(aW a).length→(aW a).getD j 0=(aW b).getD j 0)(b2:(aW a).getD i 0≠(aW b).getD i 0):
 jx a b=jx ((aW a).getD i 0) ((aW b).getD i 0):=by
 rcases xF ((aW a).getD i 0) ((aW b).getD i 0) with q|q|q
 ·have:=SW i a1 ak au aa he q;rw [gT,gT] at this;rw [Ec q,Ec (uD.2 this)]
 ·exact absurd q b2
 ·have:=SW i ak a1 au.symm J (fun j U ab=>(he j U J).symm) q;rw [gT,gT] at this;rw [Eb q,Eb (uD.2 this)]
theorem W6 {a b:Nat}(au:(aW a).length=(aW b).length)(he: ∀j,j<(aW a).length→(aW a).getD j 0=(aW b).getD j 0):jx a b=0:=by
 have:aW a=aW b:=by apply lo au;intro i U ab;have:=he i U;rw [sM 0 U,sM 0 ab] at this;exact this
 rw [UY (by rw [aca this])]
theorem Yd {B top v1 v2 u2 g:Nat}(yj:0<v1)(ab:u2<B)(cX:g*(v1*B+v2)≤top*B+u2):g≤top/v1:=by
 rw [Nat.le_div_iff_mul_le yj];have:g*v1*B≤top*B+u2:=by refine dT ?_ cX;rw [gN,ke];exact pk _ _
 have:g*v1*B<(top+1)*B:=by rw [ef];omega
 have:=Nat.lt_of_mul_lt_mul_right this;omega
theorem ahG {B top v1 v2 u2 g rest:Nat}(ad:rest+g*v1=top)(cX:g<B)(ab:v2<B):(rest<B∧rest*B+u2<g*v2)↔top*B+u2<g*(v1*B+v2):=by
 have e:g*(v1*B+v2)=g*v1*B+g*v2:=by rw [gN,ke]
 have aE:top*B=rest*B+g*v1*B:=by rw [←ad,ef]
 rw [e,aE];constructor
 ·rintro ⟨_,h⟩;omega
 ·intro h;refine ⟨?_,J⟩;rcases ga rest B with q|q
  ·exact q
  ·exfalso;have aw:B*B≤rest*B:=fo _ q;have bg:g*v2≤B*B:=jB J J;omega
theorem afk {P w g Rc ng c b t y:Nat}(h:w+g*Rc=ng+P*(c+b)){ui:Nat}(b':Nat)(ar:(y:Int)=(ui:Int)-((c+t)%B:Nat)-b+B*b'):
 w+P*y+(g*Rc+P*t)=ng+P*ui+P*B*((c+t)/B+b'):=by
 have e:P*((c+t)%B)+P*B*((c+t)/B)=P*(c+t):=LI (c+t) P;have U:(y:Int)+((c+t)%B:Nat)+b=ui+B*b':=J;have ab:y+(c+t)%B+b=ui+B*b':=J;have aw:P*y+P*((c+t)%B)+P*b=P*ui+P*(B*b'):=by rw [←gN,←gN,ab,gN]
 rw [gN (P*B),ke P B b'];rw [gN] at e h;omega
theorem aii {u v g w:Nat}{n b:Nat}(hw:w<B^n)(ah:v<B^n)(hu:u<B^n)(ak:b≤1)(h:w+g*v=u+B^n*b)(U:u/v≤g)(ab:g≤u/v+1)(lX:0<v):
 (b=0→g=u/v∧w=u%v)∧(b=1→g=u/v+1∧(w+v)=u%v+B^n):=by
 have hd:=xG u v;have hm:=kA u lX;have av:v*(u/v)=(u/v)*v:=gM _ _;constructor
 ·intro aO;subst aO;rw [rY,eQ] at h;have oL:g≤u/v:=by rw [Nat.le_div_iff_mul_le lX];omega
  have:g=u/v:=J;subst this;exact ⟨I,J⟩
 ·intro aO;subst aO;rw [q3] at h;have cX:g=u/v+1:=by
   rcases ga g (u/v+1) with q|q
   ·exfalso;have:g=u/v:=J;subst this;omega
   ·omega
  subst cX;rw [ef,rZ] at h;exact ⟨I,J⟩
end Go.ai.c8
namespace Go.ai.qY
def hL (b:UInt8):List UInt8→List UInt8×List UInt8×Bool
 |[]=>([],[],false)
 |c::r=>if c=b then ([],r,true) else (c::(hL b r).1,(hL b r).2.1,(hL b r).2.2)
theorem U6 {b:UInt8}{s:List UInt8}(h:b∉s):hL b s=(s,[],false):=by
 induction s with
 |nil=>rfl
 |cons c r a8=>
  simp only [fT,not_or] at h;rw [hL,az (fun e=>h.1 e.symm),a8 h.2]
theorem U5 {b:UInt8}{l r:List UInt8}(h:b∉l):hL b (l++b::r)=(l,r,true):=by
 induction l with
 |nil=>rw [List.nil_append,hL,aG rfl]
 |cons c q a8=>
  simp only [fT,not_or] at h;rw [oC,hL,az (fun e=>h.1 e.symm),a8 h.2]
theorem Ub (b:UInt8)(s:List UInt8):(hL b s).1.length+(hL b s).2.1.length+(if (hL b s).2.2 then 1 else 0)=s.length:=by
 induction s with
 |nil=>rfl
 |cons c r a8=>
  rw [hL];split
  ·simp
  ·simp only [fZ];omega
theorem MF (b:UInt8)(s:List UInt8):hL b s=if 0≤Lib.indexByte s b then (s.take (Lib.indexByte s b).toNat,s.drop ((Lib.indexByte s b).toNat+1),true) else (s,[],false):=by
 induction s with
 |nil=>rfl
 |cons c r a8=>
  rw [hL,Lib.indexByte];by_cases av:c=b
  ·subst av;simp
  ·have ak:(c==b)=false:=by simpa using av
   simp only [ak,q0,gW,av];rw [a8];have oL:=Lib.indexByte_ge r b;by_cases U:Lib.indexByte r b= -1
   ·simp [U]
   ·have ab:(Lib.indexByte r b== -1)=false:=by simpa using U
    simp only [ab,q0,gW];rw [aG J,aG J];have e:(Lib.indexByte r b+1).toNat=(Lib.indexByte r b).toNat+1:=J;rw [e];rfl
def jh (c:UInt8):Prop:=48≤c.toNat∧c.toNat≤57
theorem w1 {d:Nat}(h:d<10):jh (UInt8.ofNat (48+d))∧(UInt8.ofNat (48+d)).toNat=48+d:=by
 have e:(UInt8.ofNat (48+d)).toNat=48+d:=by simp;omega
 exact ⟨⟨J,J⟩,e⟩
theorem wS (u:Nat): ∀c∈Lib.decDigits u,jh c:=by
 induction u using Nat.strongRecOn with
 |_ u a8=>
  intro c av;rw [Lib.decDigits] at av;split at av
  ·rename_i h;simp only [hR] at av;subst av;exact (w1 h).1
  ·rw [gz] at av;rcases av with av|av
   ·exact a8 _ J c av
   ·simp only [hR] at av;subst av;exact (w1 (kA _ a6)).1
theorem tK (u:Nat):Lib.decDigits u≠[]:=by rw [Lib.decDigits];split<;>simp
theorem abj (u:Nat):Lib.itoa (u:Int)=Lib.decDigits u:=by unfold Lib.itoa;rw [az J];simp
def same (v:Int):List Int→Nat
 |[]=>0
 |x::r=>if x=v then same v r+1 else 0
theorem Xs {c:UInt8}(h:jh c)(b:UInt8)(ak:b.toNat<48∨57<b.toNat):b≠c:=fun e=>by subst e;unfold jh at h;omega
theorem GR (u:Nat)(b:UInt8)(ak:b.toNat<48∨57<b.toNat):b∉Lib.decDigits u:=fun h=>Xs (wS u b h) b ak rfl
end Go.ai.qY
namespace Go.ai.c8
open Go.ai.qY (jh w1 wS tK)
def Oj (a:Nat)(c:UInt8):Nat:=a*10+(c.toNat-48)
def dQ (acc:Nat)(l:List UInt8):Nat:=l.foldl Oj acc
theorem Bc (acc:Nat):dQ acc []=acc:=rfl
theorem wV (acc:Nat)(c:UInt8)(r:List UInt8):dQ acc (c::r)=dQ (acc*10+(c.toNat-48)) r:=by unfold dQ;rw [List.foldl_cons,Oj]
theorem Lz (l m:List UInt8)(acc:Nat):dQ acc (l++m)=dQ (dQ acc l) m:=by unfold dQ;rw [List.foldl_append]
theorem DU (l:List UInt8)(acc:Nat):dQ acc l=acc*10^l.length+dQ 0 l:=by
 induction l generalizing acc with
 |nil=>rw [Bc,Bc];simp
 |cons c r a8=>
  rw [wV,wV,a8,a8 (0*10+_),fZ,h4];generalize c.toNat-48=d;generalize 10^r.length=e;generalize dQ 0 r=v;rw [ef,s0,c1,ke,gM 10 e];omega
theorem S4 (l:List UInt8)(c:UInt8)(acc:Nat):dQ acc (l++[c])=dQ acc l*10+(c.toNat-48):=by rw [Lz,wV,Bc]
theorem sH (u:Nat):dQ 0 (Lib.decDigits u)=u:=by
 induction u using Nat.strongRecOn with
 |_ u a8=>
  rw [Lib.decDigits];split
  ·rename_i h;have:=(w1 h).2;rw [wV,Bc,this];omega
  ·have:=(w1 (kA u (show 0<10 by decide))).2;rw [S4,a8 _ J,this];omega
theorem HV {l:List UInt8}(h: ∀c∈l,jh c):dQ 0 l<10^l.length:=by
 induction l with
 |nil=>rw [Bc];simp
 |cons c r a8=>
  have av:=h c bZ;have i:=a8 (fun x ar=>h x (by simp [ar]));unfold jh at av;rw [wV,DU,fZ,h4];have:(c.toNat-48)*10^r.length≤9*10^r.length:=fo _ J;rw [s0,c1];generalize 10^r.length=e at*;generalize (c.toNat-48)*e=q at*;omega
theorem Vf {c:UInt8}{r:List UInt8}(h:jh c)(aO:c≠48):10^r.length≤dQ 0 (c::r):=by unfold jh at h;have av:c.toNat≠48:=fun e=>aO (UInt8.toNat_inj.1 e);rw [wV,DU];have:1*10^r.length≤(0*10+(c.toNat-48))*10^r.length:=fo _ J;generalize (0*10+(c.toNat-48))*10^r.length=q at*;omega
theorem aeT {α:Type}{p:List α→Prop}(aO:p [])(U: ∀l x,p l→p (l++[x])): ∀l,p l:=by
 intro l;have key: ∀(n:Nat) (l:List α),l.length=n→p l:=by
  intro n;induction n with
  |zero=>intro l au;rw [uC.1 au];exact aO
  |succ n a8=>
   intro l au;have b2:l≠[]:=by intro e;subst e;simp at au
   rw [←List.dropLast_concat_getLast b2];exact U _ _ (a8 _ (by simp [au]))
 exact key _ l I
def ug (s:List UInt8):Prop:=s≠[]∧(∀c∈s,jh c)∧(s.getD 0 0≠48∨s.length=1)
theorem GM (u:Nat):ug (Lib.decDigits u):=by
 refine ⟨tK u,wS u,?_⟩;induction u using Nat.strongRecOn with
 |_ u a8=>
  rw [Lib.decDigits];split
  ·exact .inr I
  ·left;rename_i h;have b2:=tK (u/10);rcases a8 (u/10) J with U|U
   ·cases aB:Lib.decDigits (u/10) with
    |nil=>exact absurd aB b2
    |cons c r=>rw [aB] at U;simpa using U
   ·have bC:u/10<10:=by have au:=Lib.decDigits_length (u/10);rw [U] at au;have:=Lib.lt_pow_nDigits (u/10);rw [←au] at this;simpa using this
    rw [Lib.decDigits_one bC];simp only [oC,zo];intro e;have:=congrArg UInt8.toNat e;rw [(w1 bC).2] at this;have:(48:UInt8).toNat=48:=rfl;omega
theorem Bb {s:List UInt8}(h:ug s):Lib.decDigits (dQ 0 s)=s:=by
 obtain ⟨U,ab,aw⟩:=h
 revert U ab aw
 refine aeT (p:=fun s=>s≠[]→(∀c∈s,jh c)→(s.getD 0 0≠48∨s.length=1)→Lib.decDigits (dQ 0 s)=s) ?_ ?_ s
 ·intro h;exact absurd rfl h
 ·intro l c a8 _ hd aw;have av:=hd c bZ;have Pb:UInt8.ofNat (48+(c.toNat-48))=c:=by unfold jh at av;rw [show 48+(c.toNat-48)=c.toNat by omega];simp
  rw [S4];cases l with
  |nil=>
   rw [Bc,List.nil_append,s0,c1];rw [Lib.decDigits,dif_pos (by unfold jh at av;omega),Pb]
  |cons x r=>
   have ar:x≠48:=by
    rcases aw with aw|aw
    ·simpa using aw
    ·simp at aw
   have aaO:=hd x bZ;have oL:=Vf (r:=r) aaO ar;have eE:1≤10^r.length:=Nat.one_le_pow _ _ a6;have i:=a8 bZ (fun c av=>hd c (by simp at av⊢;rcases av with rfl|av;exact .inl rfl;exact .inr (.inl av))) (.inl (by simpa using ar));generalize dQ 0 (x::r)=v at*;unfold jh at av;rw [Lib.decDigits,dif_neg J];rw [show (v*10+(c.toNat-48))/10=v by omega,show (v*10+(c.toNat-48))%10=c.toNat-48 by omega,i,Pb]
theorem Ll {a b:Nat}(h:Lib.decDigits a=Lib.decDigits b):a=b:=by rw [←sH a,←sH b,h]
theorem Dq {n k:Nat}(ao:1≤k)(h:n<10^k):(Lib.decDigits n).length≤k:=by
 have au:=Lib.decDigits_length n;rcases ga k (Lib.decDigits n).length with bC|oL
 ·exfalso;have av:=GM n;have ah:=sH n;cases aB:Lib.decDigits n with
  |nil=>exact tK n aB
  |cons c r=>
   rw [aB] at av ah bC;simp only [fZ] at bC;have b2:c≠48:=by
    rcases av.2.2 with h|h
    ·simpa using h
    ·simp at h;subst h;simp at bC;omega
   have:=Vf (r:=r) (av.2.1 c bZ) b2;rw [ah] at this;have:10^k≤10^r.length:=gp a6 J;omega
 ·exact oL
theorem A2 (n:Nat):n<10^(Lib.decDigits n).length:=by
 have:=HV (wS n)
 rwa [sH] at this
def pad (k m:Nat):List UInt8:=List.replicate (k-(Lib.decDigits m).length) 48++Lib.decDigits m
theorem aif (k:Nat)(l:List UInt8):dQ 0 (List.replicate k 48++l)=dQ 0 l:=by
 induction k with
 |zero=>rfl
 |succ k a8=>rw [List.replicate_succ,oC,wV];exact a8
theorem acK {k m:Nat}(ao:1≤k)(h:m<10^k):(pad k m).length=k:=by have:=Dq ao h;unfold pad;simp;omega
theorem ajS (k m:Nat): ∀c∈pad k m,jh c:=by
 intro c av;unfold pad at av;rcases gz.1 av with h|h
 ·rw [(zq.1 h).2];exact ⟨a6,a6⟩
 ·exact wS m c h
theorem agU {n k:Nat}(ao:1≤k)(h:10^k≤n):Lib.decDigits n=Lib.decDigits (n/10^k)++pad k (n%10^k):=by
 have aJ:0<10^k:=mM a6;have hm:=kA n aJ;have hd:n/10^k≠0:=by have:=Nat.div_pos h aJ;omega
 have av:=GM (n/10^k);have Y9:ug (Lib.decDigits (n/10^k)++pad k (n%10^k)):=by
  refine ⟨by simp [av.1],fun c oK=> ?_,.inl ?_⟩
  ·rcases gz.1 oK with h|h
   ·exact av.2.1 c h
   ·exact ajS _ _ c h
  ·cases aB:Lib.decDigits (n/10^k) with
   |nil=>exact absurd aB av.1
   |cons c r=>
    rw [aB] at av;simp only [oC,zo];rcases av.2.2 with h|h
    ·simpa using h
    ·simp only [fZ,Nat.add_eq_right,uC] at h;subst h;intro e;subst e;have:=sH (n/10^k);rw [aB] at this;exact hd (this.symm.trans a6)
 have ah:dQ 0 (Lib.decDigits (n/10^k)++pad k (n%10^k))=n:=by
  rw [Lz,sH,DU,acK ao hm];have:dQ 0 (pad k (n%10^k))=n%10^k:=by unfold pad;rw [aif,sH]
  rw [this,gM];exact xG n _
 have:=Bb Y9;rw [ah] at this;exact this
end Go.ai.c8
namespace Go.ai
open Go.ai.c8
variable [bq]
def mb (l:List Int):al:= .ro (.ints .u32 l) 0 l.length
def br (n:Nat):al:= .ro (.ints .u32 (aW n)) 0 (aW n).length
theorem aV.abH {l:List Int}{k n:Nat}(h:l.take k=aW n)(ao:k≤l.length):aV (.ro (.ints .u32 l) 0 k) (br n):=by
 have au:(aW n).length=k:=by rw [←h,ff,hF ao]
 refine aV.trans aV.take ?_;rw [h];unfold br;rw [au];exact aV.Gs
theorem aV.KU:aV .nil (br 0):=by
 have:br 0= .ro (.ints .u32 []) 0 0:=by unfold br;rw [qy];rfl
 rw [this];exact aV.nil
theorem yA {n:Nat}:0<(aW n).length↔n≠0:=by
 have bT:= ‹bq›;constructor
 ·rintro h rfl;rw [qy] at h;simp at h
 ·intro h;rcases nD (aW n).length with q|q
  ·exact absurd (acb.1 (uC.1 q)) h
  ·exact q
end Go.ai
namespace Go.ai.c8
def fD:Nat→Nat→List Int
 |0,_=>[]
 |k+1,v=>((v%4294967296:Nat):Int)::fD k (v/4294967296)
theorem pO: ∀(k v:Nat),(fD k v).length=k
 |0,_=>rfl
 |k+1,v=>by rw [fD,fZ,pO]
theorem Bf: ∀(k v:Nat),cG (fD k v)
 |0,_=>cG.nil
 |k+1,v=>by rw [fD,cG.cons];exact ⟨tV v,Bf k _⟩
theorem HL: ∀(k v:Nat),v<B^k→bo (fD k v)=v
 |0,v,h=>by simp at h;subst h;rfl
 |k+1,v,h=>by
  rw [fD,bo,cA,HL k]
  ·unfold B;omega
  ·rw [h4,gM] at h;exact vU h
theorem Bu: ∀{l:List Int} {k v:Nat},cG l→l.length=k→bo l=v→l=fD k v
 |[],k,v,_,ao,_=>by simp at ao;subst ao;rfl
 |x::r,k,v,h,ao,ah=>by
  rw [cG.cons] at h;obtain ⟨m,rfl⟩: ∃m,k=m+1:=⟨r.length,by simpa using ao.symm⟩
  rw [bo] at ah;subst ah;have ar:x.toNat<4294967296:=J;rw [fD,EJ,mK ar,Nat.add_mul_div_left _ _ a6,ox ar,c1];rw [←Bu h.2 (by simpa using ao) rfl];congr 1;omega
theorem DX {A du C:List Int}{j i:Nat}(ae:A.length=j)(h:i<du.length):(A++(du++C)).getD (j+i) 0=du.getD i 0:=by subst ae;simp only [List.getD];rw [jA J,xA,hQ h]
theorem VG {A du C:List Int}{j i:Nat}{x:Int}(ae:A.length=j)(h:i<du.length):(A++(du++C)).set (j+i) x=A++(du.set i x++C):=by subst ae;rw [zt _ _ J,xA,List.set_append_left _ _ h]
theorem Ls {l:List Int}{i:Nat}{x:Int}(h:i<l.length):(l.set i x).take (i+1)=l.take i++[x]:=by
 have ab:i<(l.set i x).length:=by simpa using h
 rw [qq (l.set i x) 0 i ab];congr 1
 ·rw [List.take_set_of_le (bR _)]
 ·simp [List.getD,h]
theorem afB {du:List Int}{s ng hX u2:Nat}(ax:2≤s)(au:du.length=s+1)(h:cG du)(aO:du.getD s 0=(ng:Int))(U:du.getD (s-1) 0=(hX:Int))(ab:du.getD (s-2) 0=(u2:Int)):
 ∃low,low<B^(s-2)∧bo du=low+((ng*4294967296+hX)*4294967296+u2)*B^(s-2):=by
 refine ⟨bo (du.take (s-2)),?_,?_⟩
 ·have:=jf (h.take (s-2))
  rwa [ff,hF J] at this
 ·have e:bo du=bo (du.take (s-2+1+1+1)):=by rw [jU J]
  rw [e,lC,lC,lC,show s-2+1+1=s by omega,show s-2+1=s-1 by omega,aO,U,ab];simp only [cA];have cY:B^(s-1)=B^(s-2)*4294967296:=by rw [show s-1=s-2+1 by omega,h4]
  have oR:B^s=B^(s-2)*4294967296*4294967296:=by rw [show s=s-2+1+1 by omega,h4,h4];rfl
  rw [cY,oR];generalize B^(s-2)=p;rw [ef,ef,ef];rw [show p*4294967296*4294967296*ng=ng*4294967296*4294967296*p by ac_rfl,show p*4294967296*hX=hX*4294967296*p by ac_rfl,gM p u2];omega
theorem afA {V:List Int}{s v1 v2:Nat}(ax:2≤s)(au:V.length=s)(h:cG V)(U:V.getD (s-1) 0=(v1:Int))(ab:V.getD (s-2) 0=(v2:Int)):
 ∃low,low<B^(s-2)∧bo V=low+(v1*4294967296+v2)*B^(s-2):=by
 refine ⟨bo (V.take (s-2)),?_,?_⟩
 ·have:=jf (h.take (s-2))
  rwa [ff,hF J] at this
 ·have e:bo V=bo (V.take (s-2+1+1)):=by rw [jU J]
  rw [e,lC,lC,show s-2+1=s-1 by omega,U,ab];simp only [cA];have cY:B^(s-1)=B^(s-2)*4294967296:=by rw [show s-1=s-2+1 by omega,h4]
  rw [cY];generalize B^(s-2)=p;rw [ef,show p*4294967296*v1=v1*4294967296*p by ac_rfl,gM p v2];omega
theorem XT {u v IJ BW P g KQ KR:Nat}(pz:0<P)(Px:KQ<P)(zI:u=KQ+IJ*P)(FI:KR<P)(bA:v=KR+BW*P)(ala:4294967296≤BW)(bC:u<4294967296*v)(cX:g≤4294967295)(Fv:g*BW≤IJ)(wo: ∀lQ,lQ≤4294967295→lQ*BW≤IJ→lQ≤g):u/v≤g∧g≤u/v+1:=by
 have lX:0<v:=by have:1*P≤BW*P:=fo _ J;omega
 have aB:u/v≤4294967295:=by have:=vU (n:=v) (k:=4294967296) (m:=u) (by rw [gM];exact bC);omega
 constructor
 ·refine wo _ aB (XU (u:=u) (v:=v) pz ?_ ?_ (Nat.div_mul_le_self u v))
  ·rw [ef];omega
  ·omega
 ·rcases nD g with q|q
  ·rw [q];exact cf _
  ·have:=XV (u:=u) (v:=v) (P:=P) pz J (by rw [ef];omega) Fv J q;have aw:g-1≤u/v:=by rw [Nat.le_div_iff_mul_le lX];exact this
   omega
theorem I6 {du V:List Int}{s ng hX u2 v1 v2 g:Nat}(ax:2≤s)(au:du.length=s+1)(FI:V.length=s)(h:cG du)(ah:cG V)(aO:du.getD s 0=(ng:Int))(U:du.getD (s-1) 0=(hX:Int))(ab:du.getD (s-2) 0=(u2:Int))(eF:V.getD (s-1) 0=(v1:Int))(eG:V.getD (s-2) 0=(v2:Int))(Ku:2147483648≤v1)(bC:bo du<4294967296*bo V)(cX:g≤4294967295)(Fv:g*(v1*4294967296+v2)≤(ng*4294967296+hX)*4294967296+u2)(wo: ∀lQ,lQ≤4294967295→lQ*(v1*4294967296+v2)≤(ng*4294967296+hX)*4294967296+u2→lQ≤g):bo du/bo V≤g∧g≤bo du/bo V+1:=by obtain ⟨KQ,Px,zI⟩:=afB ax au h aO U ab;obtain ⟨KR,ZV,bA⟩:=afA ax FI ah eF eG;exact XT (EU _) Px zI ZV bA J bC cX Fv wo
theorem Wk (m:Nat):m &&& 4294967295=m%4294967296:=by have:=Nat.and_two_pow_sub_one_eq_mod m 32;have e:2^32-1=4294967295:=a6;rw [e,Qw] at this;exact this
theorem aij {lk du V:List Int}{i g dc h7 ui hY yv b':Nat}(aa:i<lk.length)(h:bo (lk.take i)+g*bo (V.take i)=bo (du.take i)+B^i*(dc+h7))(hu:du.getD i 0=(ui:Int))(ah:V.getD i 0=(hY:Int))(aY:yv+((dc+g*hY)%4294967296+h7)=ui+4294967296*b'):
 bo ((lk.set i (yv:Int)).take (i+1))+g*bo (V.take (i+1))=bo (du.take (i+1))+B^(i+1)*((dc+g*hY)/4294967296+b'):=by rw [Ls aa,yK,ff,hF J,lC,lC,hu,ah,cA,cA,cA,h4];have:=afk (P:=B^i) h b' (t:=g*hY) (y:=yv) (ui:=ui) (by unfold B;omega);rw [gN,Nat.mul_left_comm g (B^i) hY];exact this
theorem aiU {a h7 e:Nat}(a1:a<4294967296)(he:e<4294967296)(ak:h7≤1): ∃yv b':Nat,yv+(e+h7)=a+4294967296*b'∧b'≤1∧yv<4294967296∧((a:Int)-e-h7<0→b'=1∧(yv:Int)=a-e-h7+4294967296)∧(¬(a:Int)-e-h7<0→b'=0∧(yv:Int)=a-e-h7):=by
 rcases ga a (e+h7) with q|q
 ·exact ⟨a+4294967296-(e+h7),1,J,J,J,fun h=>⟨I,J⟩,fun h=>by omega⟩
 ·exact ⟨a-(e+h7),0,J,J,J,fun h=>by omega,fun h=>⟨I,J⟩⟩
theorem aiS {lk du V:List Int}{i sm ui hY:Nat}(aa:i<lk.length)(h:bo (lk.take i)+B^i*sm=bo (du.take i)+bo (V.take i))(hu:du.getD i 0=(ui:Int))(ah:V.getD i 0=(hY:Int)):
 bo ((lk.set i (((sm+ui+hY)%4294967296:Nat):Int)).take (i+1))+B^(i+1)*((sm+ui+hY)/4294967296)=bo (du.take (i+1))+bo (V.take (i+1)):=by rw [Ls aa];exact TV (by simp;omega) h hu ah
theorem Be: ∀(a b v:Nat),fD (a+b) v=fD a v++fD b (v/B^a)
 |0,b,v=>by simp [fD]
 |a+1,b,v=>by rw [show a+1+b=a+b+1 by omega,fD,fD,Be a b,oC,h4,gM (B^a),←Nat.div_div_eq_div_mul]
theorem Lu: ∀(k v:Nat),bo (fD k v)=v%B^k
 |0,v=>by simp [fD,bo,Nat.mod_one]
 |k+1,v=>by rw [fD,bo,cA,Lu k,h4,gM (B^k),Nat.mod_mul]
theorem ahE {k v w:Nat}(h:v%B^k=w%B^k):fD k v=fD k w:=by have U:=Bu (Bf k v) (pO k v) (Lu k v);have ab:=Bu (Bf k w) (pO k w) (Lu k w);rw [U,ab,h]
theorem DQ {v s:Nat}(ax:1≤s)(h:(aW v).length=s): ∃t low:Nat,(aW v).getD (s-1) 0=(t:Int)∧t<4294967296∧0<t∧v=low+B^(s-1)*t∧low<B^(s-1):=by
 obtain ⟨t,bs,ak⟩:=(ij v).nat (s-1);refine ⟨t,bo ((aW v).take (s-1)),bs,ak,?_,?_,?_⟩
 ·rcases Ta (n:=v) with q|q
  ·rw [q] at h;simp at h;omega
  ·rw [h,bs] at q;omega
 ·have:=lC (aW v) (s-1);rw [show s-1+1=(aW v).length by omega,gb,gT,bs,cA] at this;exact this
 ·have:=jf ((ij v).take (s-1))
  rwa [ff,hF J] at this
theorem WH {s:Nat}(ax:1≤s):B^s=B^(s-1)*4294967296:=by rw [show s=s-1+1 by omega,h4];rfl
theorem ack {m k s t:Nat}(ax:1≤s)(h:(aW m).length=s)(bs:(aW m).getD (s-1) 0=(t:Int))(U:2147483648≤t*2^k)(ab:t*2^k<4294967296)(ao:k≤31):
 (aW (m*2^k)).length=s∧2147483648≤(aW (m*2^k)).getD (s-1) 0:=by
 obtain ⟨cr,low,e,ak,aJ,ah,Ac⟩:=DQ ax h;have:cr=t:=J;subst this;have pz:=EU (s-1);have u0:0<2^k:=mM a6;have hd: ∃q,4294967296=q*2^k:=⟨2^(32-k),by rw [←jm,show 32-k+k=32 by omega]⟩
 obtain ⟨q,aB⟩:=hd;have aw:cr+1≤q:=by have:cr*2^k<q*2^k:=J;exact Nat.lt_of_mul_lt_mul_right this
 have bg:(cr+1)*2^k≤4294967296:=by rw [aB];exact fo _ aw
 have j0:m*2^k<B^s:=by
  rw [WH ax];have bF:m<B^(s-1)*(cr+1):=by rw [gN];omega
  have dm:m*2^k<B^(s-1)*(cr+1)*2^k:=Nat.mul_lt_mul_of_pos_right bF u0;have fi:B^(s-1)*((cr+1)*2^k)≤B^(s-1)*4294967296:=h5 _ bg;rw [ke] at dm;omega
 have ya:B^(s-1)*2147483648≤m*2^k:=by
  have bF:B^(s-1)*(cr*2^k)≤m*2^k:=by rw [←ke];exact fo _ J
  exact dT (h5 _ U) bF
 have hlen:(aW (m*2^k)).length=s:=by
  have a:=nj j0;have b:B^(s-1)≤m*2^k:=by have:B^(s-1)*1≤B^(s-1)*2147483648:=h5 _ a6;omega
  have c:=aht b;omega
 refine ⟨hlen,?_⟩;obtain ⟨t2,alU,aE,_,_,PT,Pw⟩:=DQ ax hlen;rw [aE];rcases ga t2 2147483648 with z|z
 ·exfalso;have:B^(s-1)*(t2+1)≤B^(s-1)*2147483648:=h5 _ J;rw [gN] at this;omega
 ·omega
theorem abk {t k:Nat}(bs:0<t)(h:t*2^k<4294967296)(ao:k≤31)(aO:t*2^k/2^31=0):t*2^(k+1)<4294967296∧k+1≤31:=by
 have U:t*2^k<2147483648:=by
  rcases ga (t*2^k) 2147483648 with q|q
  ·exact q
  ·have:=Nat.div_le_div_right (c:=2^31) q;rw [aO] at this;exact absurd this a6
 refine ⟨by rw [h4,←ke];omega,?_⟩;rcases ga k 31 with q|q
 ·exact q
 ·exfalso;have:k=31:=J;subst this;have:1*2^31≤t*2^31:=fo _ bs;have e:(2:Nat)^31=2147483648:=a6;rw [e] at this U;omega
theorem abl {t k:Nat}(aO: ¬t*2^k/2^31=0):2147483648≤t*2^k:=by
 rcases ga (t*2^k) 2147483648 with q|q
 ·exact absurd (ox (by rw [show (2:Nat)^31=2147483648 by decide];exact q)) aO
 ·exact q
theorem ajY {n hy v s k:Nat}(aF:n<B^hy)(ao:k≤31)(ax:1≤s)(kk:s≤hy)(ah:B^(s-1)*2147483648≤v):n*2^k<v*B^(hy+1-s):=by
 have aJ:2^k≤2147483648:=dT (gp (show 0<2 by decide) ao) a6;have U:n*2^k≤n*2147483648:=h5 _ aJ;have ab:B^(s-1)*2147483648*B^(hy+1-s)≤v*B^(hy+1-s):=fo _ ah;have aw:B^(s-1)*2147483648*B^(hy+1-s)=B^hy*2147483648:=by
  have e:B^hy=B^(s-1)*B^(hy+1-s):=by rw [←jm];congr 1;omega
  rw [e];ac_rfl
 omega
theorem afC {v s:Nat}(ax:1≤s)(au:(aW v).length=s)(h:2147483648≤(aW v).getD (s-1) 0):B^(s-1)*2147483648≤v:=by obtain ⟨t,low,e,_,_,ah,_⟩:=DQ ax au;have:B^(s-1)*2147483648≤B^(s-1)*t:=h5 _ J;omega
theorem adE {W v s j N:Nat}(lX:0<v)(ah:v<B^s)(jY:W<v*B^(j+1))(jX:j+(s+1)≤N):
 fD N W=fD j W++(fD (s+1) (W/B^j)++fD (N-(j+(s+1))) (W/B^j/B^(s+1)))∧bo (fD (s+1) (W/B^j))=W/B^j∧W/B^j<4294967296*v∧
  ∃W',fD j W++(fD (s+1) (W/B^j%v)++fD (N-(j+(s+1))) (W/B^j/B^(s+1)))=fD N W'∧W'<v*B^j∧W'+B^j*(v*(W/B^j/v))=W:=by
 have pz:=EU j;have U:W/B^j<4294967296*v:=by
  refine vU ?_;have:v*B^(j+1)=B^j*(4294967296*v):=by rw [h4];unfold B;ac_rfl
  rw [←this];exact jY
 have ab:W/B^j<B^(s+1):=by have:4294967296*v≤4294967296*B^s:=h5 _ J;rw [h4,gM (B^s)];exact hE U this
 have aw:W/B^j/B^(s+1)=0:=ox ab;have ad:W/B^j%v<v:=kA _ lX;have CX:v<B^(s+1):=hE ah (gp a6 J);refine ⟨?_,HL _ _ ab,U,W%B^j+B^j*(W/B^j%v),?_,?_,?_⟩
 ·rw [←Be,←Be];congr 1;omega
 ·have aD:(W%B^j+B^j*(W/B^j%v))/B^j=W/B^j%v:=by rw [Nat.add_mul_div_left _ _ pz,ox (kA _ pz),c1]
  have aE:(W%B^j+B^j*(W/B^j%v))%B^j=W%B^j:=by rw [EJ,Nat.mod_mod]
  rw [show N=j+((s+1)+(N-(j+(s+1)))) by omega,Be j,Be (s+1),aD,aw,ahE aE.symm];rw [show j+(s+1+(N-(j+(s+1))))-(j+(s+1))=N-(j+(s+1)) by omega,ox (Nat.lt_trans ad CX)]
 ·have bF:B^j*(W/B^j%v+1)≤B^j*v:=h5 _ ad;have dm:=kA W pz;rw [gN] at bF;rw [gM v];omega
 ·have a:=xG W (B^j);have b:=xG (W/B^j) v;have c:B^j*(v*(W/B^j/v))+B^j*(W/B^j%v)=B^j*(W/B^j):=by rw [←gN,b]
  omega
theorem adD {n m k W Q:Nat}(hm:0<m)(h:Q*(m*2^k)+W=n*2^k)(jY:W<m*2^k):Q=n/m∧W=n%m*2^k:=by have ao:0<2^k:=mM a6;have aO:0<m*2^k:=Nat.mul_pos hm ao;have aD:n*2^k/(m*2^k)=n/m:=Nat.mul_div_mul_right _ _ ao;have aE:n*2^k%(m*2^k)=n%m*2^k:=Nat.mul_mod_mul_right ..;rw [←h] at aD aE;rw [oE,Nat.add_mul_div_right _ _ aO,ox jY,c1] at aD;rw [oE,Nat.add_mul_mod_self_right,mK jY] at aE;exact ⟨aD,aE⟩
theorem aiR {d e k:Nat}(hd:d<4294967296)(ao:k≤31):d/2^k|||e*2^(32-k)%4294967296=d/2^k+e%2^k*2^(32-k):=by
 have aJ:0<2^(32-k):=mM a6;have aD:(4294967296:Nat)=2^k*2^(32-k):=by rw [←jm,show k+(32-k)=32 by omega]
 have aE:e*2^(32-k)%4294967296=e%2^k*2^(32-k):=by rw [aD];exact Nat.mul_mod_mul_right ..
 have U:d/2^k<2^(32-k):=by refine vU ?_;rw [←aD];exact hd
 rw [aE];have:=Nat.two_pow_add_eq_or_of_lt U (e%2^k);rw [Nat.or_comm,gM (e%2^k),←this,oE]
theorem Ww {d e k:Nat}(hd:d<4294967296)(ao:k≤31):d/2^k+e%2^k*2^(32-k)<4294967296:=by
 have aD:(4294967296:Nat)=2^k*2^(32-k):=by rw [←jm,show k+(32-k)=32 by omega]
 have U:d/2^k<2^(32-k):=by refine vU ?_;rw [←aD];exact hd
 have ab:(e%2^k+1)*2^(32-k)≤2^k*2^(32-k):=fo _ (kA _ (mM a6));rw [ef,←aD] at ab;omega
theorem Wx {out r:List Int}{i k d e:Nat}(ao:k≤31)(au:out.length=i)(hd:r.getD i 0=(d:Int)){d0:Nat}(h:bo out*2^k+d0=bo (r.take i)+(d%2^k)*B^i):
 bo (out++[((d/2^k+e%2^k*2^(32-k):Nat):Int)])*2^k+d0=bo (r.take (i+1))+(e%2^k)*B^(i+1):=by
 rw [yK,au,cA,lC,hd,cA,h4];have aD:(4294967296:Nat)=2^(32-k)*2^k:=by rw [←jm,show 32-k+k=32 by omega]
 have aE:=xG d (2^k);have bM:B^i*(d/2^k+e%2^k*2^(32-k))*2^k=B^i*(2^k*(d/2^k))+e%2^k*(B^i*B):=by rw [show B=2^(32-k)*2^k from aD];generalize (2^(32-k)*2^k)^i=p;rw [gN,ef];congr 1<;>ac_rfl
 have h9:B^i*(2^k*(d/2^k))+(d%2^k)*B^i=B^i*d:=by rw [gM (d%2^k),←gN,aE]
 rw [ef,bM];omega
theorem Lq {a b k:Nat}(h:a<b)(ak:(aW b).length≤k):(aW a).length≤k:=by have U:=jf (ij b);rw [gT] at U;have:=nj (Nat.lt_trans h U);omega
theorem GX {a b k:Nat}(h:a≤b)(ak:(aW b).length≤k):(aW a).length≤k:=by
 rcases ga a b with q|q
 ·exact Lq q ak
 ·have:a=b:=J;subst this;exact ak
theorem D1:aW 1=[1]:=by rw [D2 a6];have:1/B=0:=a6;rw [this,qy];rfl
theorem ajQ {n:Nat}:n=1↔(aW n).length=1∧(aW n).getD 0 0=1:=by
 constructor
 ·rintro rfl;rw [D1];exact ⟨rfl,rfl⟩
 ·rintro ⟨U,ab⟩;have aw:=lC (aW n) 0;rw [jU J,gT,ab] at aw;simpa [bo] using aw
def mF (l:List (List UInt8))(k:Nat):List (List UInt8):=(List.range l.length).map fun i=>if i<k∨l.length-k≤i then l.getD (l.length-1-i) [] else l.getD i []
theorem vy (l:List (List UInt8))(k:Nat):(mF l k).length=l.length:=by unfold mF;simp
theorem Bx (l:List (List UInt8))(k i:Nat)(aa:i<l.length):(mF l k).getD i []=if i<k∨l.length-k≤i then l.getD (l.length-1-i) [] else l.getD i []:=by unfold mF;simp only [List.getD,me,uw aa,rW,oy]
theorem MJ {l m:List (List UInt8)}(h:l.length=m.length)(he: ∀i,i<l.length→l.getD i []=m.getD i []):l=m:=by apply lo h;intro i U ab;have:=he i U;rw [sM [] U,sM [] ab] at this;exact this
theorem akb (l:List (List UInt8)):mF l 0=l:=by refine MJ (vy l 0) (fun i aa=> ?_);rw [vy] at aa;rw [Bx l 0 i aa,az J]
theorem ajZ (l:List (List UInt8)){k:Nat}(h:l.length≤2*k+1):mF l k=l.reverse:=by
 refine MJ (by rw [vy,List.length_reverse]) (fun i aa=> ?_);rw [vy] at aa;have ad:l.reverse.getD i []=l.getD (l.length-1-i) []:=by simp only [List.getD];rw [List.getElem?_reverse aa]
 rw [Bx l k i aa,ad];split
 ·rfl
 ·congr 1;omega
theorem aka (l:List (List UInt8)){k:Nat}(h:k+1+k<l.length):((mF l k).set k ((mF l k).getD (l.length-1-k) [])).set (l.length-1-k) ((mF l k).getD k [])=mF l (k+1):=by
 refine MJ (by simp [vy]) (fun i aa=> ?_);simp only [dj,vy] at aa;rw [Bx l (k+1) i aa,Bx l k (l.length-1-k) J,az J,Bx l k k J,az J];simp only [List.getD];by_cases U:i=l.length-1-k
 ·subst U;rw [nB (by simp [vy];omega),aG J];simp only [oy];congr 2;omega
 ·rw [k0 (p4 U)];by_cases ab:i=k
  ·subst ab;rw [nB (by rw [vy];omega),aG J];simp only [oy]
  ·rw [k0 (p4 ab)];have:=Bx l k i aa;simp only [List.getD] at this;rw [this];by_cases aw:i<k∨l.length-k≤i
   ·rw [aG aw,aG J]
   ·rw [az aw,az J]
end Go.ai.c8
