import Derived.Lib.Bytealg
import Derived.Laws.Externs
import Derived.Laws.CopyRow
import Derived.OpenShut
import Derived.Laws.StructEq
import Derived.ChangeKeysEq
import Derived.WideLaws
import Derived.Laws.Bits64
import Derived.Laws.BitsLemmas
import Derived.Lib.AppendStr
import Derived.Lib.UnsafeStr
import Derived.Lib.Builder
import Derived.Laws.Small
import Derived.MapKept
import Derived.Laws.IdiomStrings
import Derived.Lib.ItoaNum
import Derived.Lib.AtoiAll
import Derived.Lib.ParseIntB
import Derived.Lib.Join
import Derived.Test.YtmpnheilfejcpaaGreatDoorB2
set_option linter.unusedVariables false
set_option linter.unusedSimpArgs false
namespace Go.Ax
variable [Pins]
open Go.RowKit
theorem Rep.nowhere1 {c:Ctx} {w:World} {a:Act} {σ:Nat→Option Blk} {S:Nat→Prop} {n:Nat} {fr:Fr} {H:zO} (hr:Rep c w a σ S n fr H) {o:AObj} (ho:o.c.len=0):Rep c w a (upσ σ H.length .nowhere) S n fr (H++[some o]):=by
 have hext: ∀h B,σ h=some B→upσ σ H.length .nowhere h=some B:=by
  intro h B hB
  unfold upσ
  split
  ·rename_i he;rw [he,hr.hr.dom _ (Nat.le_refl _)] at hB;cases hB
  ·exact hB
 have hv: ∀{x v},VR w S σ x v→VR w S (upσ σ H.length .nowhere) x v:=fun h=>h.mono (fun _ h=>h) (fun _ _=>rfl) _ hext
 have hset: ∀(h':Nat) (o':AObj),(H++[some o])[h']? =some (some o')→(h'=H.length∧o'=o)∨(h'<H.length∧H[h']? =some (some o')):=by
  intro h' o' ho
  by_cases he:h'<H.length
  ·rw [List.getElem?_append_left he] at ho;exact .inr ⟨he,ho⟩
  ·by_cases he2:h'=H.length
   ·subst he2;simp at ho;exact .inl ⟨rfl,ho.symm⟩
   ·have:(H++[some o]).length≤h':=by simp;omega
    rw [List.getElem?_eq_none this] at ho;cases ho
 have hnone: ∀h,h<H.length→upσ σ H.length .nowhere h=σ h:=fun h hl=>by simp [upσ,Nat.ne_of_lt hl]
 have hat:upσ σ H.length .nowhere H.length=some .nowhere:=by simp [upσ]
 refine ⟨⟨?_,?_,hr.hr.small,fun h hl=> ?_⟩,⟨hr.kp.os,hr.kp.output,hr.kp.tape,hr.kp.size,hr.kp.block,hr.kp.S1,hr.kp.S2,fun h hf=>by rw [hnone h (hr.kp.fixlt h hf)];exact hr.kp.fixed h hf,fun h hf=>by have:=hr.kp.fixlt h hf;simp;omega,?_⟩,hr.defers,hr.size,fun t v hl=>⟨(hr.slots t v hl).1,hv (hr.slots t v hl).2⟩⟩
 ·intro h' o' ho'
  rcases hset h' o' ho' with ⟨rfl,rfl⟩|⟨hlt,ho'⟩
  ·exact .inl ⟨hat,ho⟩
  ·rcases hr.hr.live h' o' ho' with ⟨hn,hl0⟩|⟨b',C',cu,g1,g2,g3,g4,g5,g6,g7⟩
   ·exact .inl ⟨hext _ _ hn,hl0⟩
   ·right
    refine ⟨b',C',cu,hext _ _ g1,g2.mono Z hv,g3,g4,g5,g6,fun i j hi hj=> ?_⟩
    obtain ⟨v,e1,e2,e3⟩:=g7 i j hi hj
    exact ⟨v,e1,hv e2,e3⟩
 ·intro h1 h2 o1 o2 b s1 C1 s2 C2 q1 q2 e1 e2
  rcases hset h1 o1 q1 with ⟨rfl,rfl⟩|⟨l1,q1'⟩
  ·rw [hat] at e1;cases e1
  ·rcases hset h2 o2 q2 with ⟨rfl,rfl⟩|⟨l2,q2'⟩
   ·rw [hat] at e2;cases e2
   ·rw [hnone h1 l1] at e1
    rw [hnone h2 l2] at e2
    exact hr.hr.dist h1 h2 o1 o2 b s1 C1 s2 C2 q1' q2' e1 e2
 ·simp only [List.length_append,List.length_cons,List.length_nil] at hl
  have: ¬h=H.length:=kK
  simp only [upσ,this,if_false]
  exact hr.hr.dom h kK
 ·intro h' o' b s C ho hb
  rcases hset h' o' ho with ⟨rfl,rfl⟩|⟨hlt,ho'⟩
  ·rw [hat] at hb;cases hb
  ·rw [hnone h' hlt] at hb
   exact hr.kp.own h' o' b s C ho' hb
theorem Rep.recell {c:Ctx}{w:World}{a:Act}{σ:Nat→Option Blk}{S:Nat→Prop}{n:Nat}{fr:Fr}{H:zO}(hr:Rep c w a σ S n fr H){h:Nat}{o:AObj}(hh:H[h]? =some (some o)){c':Cells}(h1:c'.len=o.c.len)(h2:c'.kd=o.c.kd)(h3: ∀i j v,i<o.c.len→j<o.c.sz→VR w S σ (o.c.at i j) v→VR w S σ (c'.at i j) v):Rep c w a σ S n fr (H.set h (some ⟨o.ty,c'⟩)):=by
 have hlt:h<H.length:=(List.getElem?_eq_some_iff.1 hh).1
 have hset: ∀(h':Nat) (o':AObj),(H.set h (some ⟨o.ty,c'⟩))[h']? =some (some o')→ ∃o0:AObj,H[h']? =some (some o0)∧o'.ty=o0.ty∧o'.c.len=o0.c.len∧o'.c.kd=o0.c.kd∧ ∀i j v,i<o0.c.len→j<o0.c.sz→VR w S σ (o0.c.at i j) v→VR w S σ (o'.c.at i j) v:=by
  intro h' o' ho
  by_cases he:h'=h
  ·subst he
   simp only [List.getElem?_set_self hlt,Option.some.injEq] at ho
   subst ho
   exact ⟨o,hh,Z,h1,h2,h3⟩
  ·rw [List.getElem?_set_ne (Ne.symm he)] at ho
   exact ⟨o',ho,Z,Z,Z,fun _ _ _ _ _ h=>h⟩
 refine ⟨⟨fun h' o' ho=> ?_,fun h1 h2 o1 o2 b s C s' C' q1 q2 e1 e2=> ?_,hr.hr.small,fun h' hl=>hr.hr.dom h' (by simpa using hl)⟩,⟨hr.kp.os,hr.kp.output,hr.kp.tape,hr.kp.size,hr.kp.block,hr.kp.S1,hr.kp.S2,hr.kp.fixed,fun h' hf=>by simpa using hr.kp.fixlt h' hf,fun h' o' b s C q e=> ?_⟩,hr.defers,hr.size,hr.slots⟩
 ·obtain ⟨o0,h1,h2,h3,h4,h5⟩:=hset h' o' ho
  rw [h3,zMe h4]
  rcases hr.hr.live h' o0 h1 with g|⟨b,C,cur,g1,g2,g3,g4,g5,g6,g7⟩
  ·exact .inl g
  ·exact .inr ⟨b,C,cur,g1,g2.kd h2 h4,g3,g4,g5,g6,fun i j hi hj=>by
    obtain ⟨v,e1,e2,e3⟩:=g7 i j hi hj
    exact ⟨v,e1,h5 i j v hi hj e2,e3⟩⟩
 ·obtain ⟨p,p1,_⟩:=hset h1 o1 q1
  obtain ⟨p',p1',_⟩:=hset h2 o2 q2
  exact hr.hr.dist h1 h2 p p' b s C s' C' p1 p1' e1 e2
 ·obtain ⟨p,p1,_⟩:=hset h' o' q
  exact hr.kp.own h' p b s C p1 e
section
variable {P:Program}{fn:Func}{c:Ctx}{fr:Fr}{H:zO}{k:List It}
end
def FzTo (HF:zO)(x y:AV):Prop:=y=x∨y= .any∨(y=x.frz HF∧inB HF x)
def fzk (HF:zO)(fr:Fr):Fr→Prop
 |[]=>True
 |(t,y)::r=>(∃x,look t fr=some x∧FzTo HF x y)∧fzk HF fr r
theorem look_fzk {HF:zO}{fr L:Fr}{t:Nat}{y:AV}(h:fzk HF fr L)(hl:look t L=some y): ∃x,look t fr=some x∧FzTo HF x y:=by
 have _p:= ‹Pins›
 induction L with
 |nil=>simp [look] at hl
 |cons p r ih=>
  obtain ⟨u,x⟩:=p
  obtain ⟨h1,h2⟩:=h
  simp only [look] at hl
  by_cases he:t=u
  ·subst he;simp at hl;subst hl;exact h1
  ·have hb:Nat.beq t u=false:=z7 he
   simp [hb] at hl
   exact ih h2 hl
theorem Rep.freeze {c:Ctx}{w:World}{a:Act}{σ:Nat→Option Blk}{S:Nat→Prop}{n:Nat}{fr L:Fr}{H:zO}(hr:Rep c w a σ S n fr H)(HF H':zO)(hsub:subH HF H)(hrl: ∀(h:Nat) (o:AObj),HF[h]? =some (some o)→zAY o.c)(hlen:H'.length=H.length)(hH: ∀(h:Nat) (o':AObj),H'[h]? =some (some o')→(∀o:AObj,HF[h]? ≠some (some o))∧ ∃o:AObj,H[h]? =some (some o)∧o'.ty=o.ty∧o'.c.len=o.c.len∧o'.c.kd=o.c.kd∧ ∀i j,i<o.c.len→j<o.c.sz→FzTo HF (o.c.at i j) (o'.c.at i j))(hL:fzk HF fr L): ∃S',Rep c w a σ S' n L H':=by
 have hlive:zMD w S σ HF:=fun h o ho=>hr.hr.live h o (hsub h o ho)
 let S':Nat→Prop:=fun b=>S b∨ ∃h o s C,HF[h]? =some (some o)∧σ h=some (.at b s C)
 have hup: ∀{σ1:Nat→Option Blk} {x v},VR w S σ1 x v→VR w S' σ1 x v:=fun h=>h.mono (fun _ h=> .inl h) (fun _ _=>rfl) _ (fun _ _ h=>h)
 have hfz: ∀{x y v},FzTo HF x y→VR w S σ x v→VR w S' σ y v:=by
  intro x y v h hv
  rcases h with rfl|rfl|⟨rfl,hin⟩
  ·exact hup hv
  ·exact .any _ _
  ·exact VR.freeze hlive hrl (fun _ h=> .inl h) (fun h o b s C h1 h2=> .inr ⟨h,o,s,C,h1,h2⟩) hv σ hin
 refine ⟨S',⟨fun h o' ho'=> ?_,fun h1 h2 o1 o2 b s C s' C' q1 q2 e1 e2=> ?_,fun b hb=> ?_,fun h hl=>hr.hr.dom h kK⟩,⟨hr.kp.os,hr.kp.output,hr.kp.tape,hr.kp.size,hr.kp.block,fun b hb=> .inl (hr.kp.S1 b hb),fun b hb=> ?_,hr.kp.fixed,fun h hf=>by rw [hlen];exact hr.kp.fixlt h hf,fun h o b s C q e=> ?_⟩,hr.defers,hr.size,fun t y hy=> ?_⟩
 ·obtain ⟨hno,o,h1,h2,h3,h4,h5⟩:=hH h o' ho'
  rw [h3,zMe h4]
  rcases hr.hr.live h o h1 with g|⟨b,C,cur,g1,g2,g3,g4,g5,g6,g7⟩
  ·exact .inl g
  ·refine .inr ⟨b,C,cur,g1,(g2.mono Z hup).kd h2 h4,g3,g4,g5,?_,fun i j hi hj=> ?_⟩
   ·rintro (hs|⟨h',o2,s2,C2,q1,q2⟩)
    ·exact g6 hs
    ·have:=hr.hr.dist h h' o o2 b _ C s2 C2 h1 (hsub h' o2 q1) g1 q2
     subst this
     exact hno o2 q1
   ·obtain ⟨v,e1,e2,e3⟩:=g7 i j hi hj
    exact ⟨v,e1,hfz (h5 i j hi hj) e2,e3⟩
 ·obtain ⟨_,p,p1,_⟩:=hH h1 o1 q1
  obtain ⟨_,p',p1',_⟩:=hH h2 o2 q2
  exact hr.hr.dist h1 h2 p p' b s C s' C' p1 p1' e1 e2
 ·rcases hb with hs|⟨h,o,s,C,q1,q2⟩
  ·exact hr.hr.small b hs
  ·obtain ⟨_,cu,g,_⟩:=hr.obj (hsub h o q1) q2
   exact g.lt
 ·rcases hb with hs|⟨h,o,s,C,q1,q2⟩
  ·exact hr.kp.S2 b hs
  ·rcases hr.kp.own h o b s C (hsub h o q1) q2 with g|g
   ·exact .inr (.inl g)
   ·exact .inr (.inr g)
 ·obtain ⟨_,p,p1,_⟩:=hH h o q
  exact hr.kp.own h p b s C p1 e
 ·obtain ⟨x,hx,hf⟩:=look_fzk hL hy
  exact ⟨(hr.slots t x hx).1,hfz hf (hr.slots t x hx).2⟩
section
variable {P:Program}{fn:Func}{c:Ctx}{fr:Fr}{H:zO}{k:List It}
theorem zRp {x:Code}(HF H':zO)(L:Fr)(hsub:subH HF H)(hrl: ∀(h:Nat) (o:AObj),HF[h]? =some (some o)→zAY o.c)(hlen:H'.length=H.length)(hH: ∀(h:Nat) (o':AObj),H'[h]? =some (some o')→(∀o:AObj,HF[h]? ≠some (some o))∧ ∃o:AObj,H[h]? =some (some o)∧o'.ty=o.ty∧o'.c.len=o.c.len∧o'.c.kd=o.c.kd∧ ∀i j,i<o.c.len→j<o.c.sz→FzTo HF (o.c.at i j) (o'.c.at i j))(hL:fzk HF fr L)(hk:Ax P fn c (.code x k) L H'):Ax P fn c (.code x k) fr H:=by
 intro w a σ S hr
 obtain ⟨S',hr'⟩:=hr.freeze HF H' hsub hrl hlen hH hL
 exact hk w a σ S' hr'
theorem zAs {x:Code}(H':zO)(he:H=H')(hk:Ax P fn c (.code x k) fr H'):Ax P fn c (.code x k) fr H:=he▸hk
theorem zAB {all:Array Oper}{fuel:Nat}{listed:Array Bool}(t:Nat){v:AV}(y:AV)(hl:look t fr=some v)(h:AEq v y)(hk:Ax P fn c (.any all fuel listed k) ((t,y)::fr) H):Ax P fn c (.any all fuel listed k) fr H:=
 fun w a σ S hr=>hk w a σ S (hr.slot hl h)
end
end Go.Ax
namespace Go.Ax
variable [Pins]
open Go.RowKit
section
variable {ind:Bool}{P:Program}{fn:Func}{c:Ctx}{fr:Fr}{H:zO}{k:List It}
variable {d:Option Nat}{ty:TypeId}{pos:String}{after:Array Edge}{gu:Option (Nat×Bool)}
theorem q_extern {g:Operand}{args:List Operand}{ats:Array TypeId}{f:FuncId}{fx:Func}{e:Array Value→Sem Value}{ags:List AV}{r:AV}(hg:ev fr g=some (.fn f []))(ha:evs fr args=some ags)(hf:P.funcs[f]? =some fx)(hname:(fx.name== "runtime.NumGoroutine")=false)(hb:fx.body.isNone=true)(hn:Extern.findNext fx=none)(he:Extern.find fx=some e)(hrun: ∀w S σ vals,VRs w S σ ags vals→ ∃x,VR w S σ r x∧ ∀w',(e vals).run P w'= .ok x w'):
 QOp ind P fn c fr H ⟨d,.call {callee:= .value g,args:=args.toArray,argTypes:=ats},ty,pos,after,gu⟩ r:=by
 intro w a σ S hr
 have h1:=hr.evAt hg
 obtain ⟨e1,e2⟩:=zHc hr args ags ha
 generalize hz:a.eval g=z at h1
 cases h1 with
 |fn _ _ _ vs hl hv=>
  have hvs:vs= #[]:=by
   have:vs.size=0:=by simpa using hl
   exact Array.eq_empty_of_size_eq_zero this
  subst hvs
  have hv0:VRs w S σ ags (args.map a.eval).toArray:=by
   refine ⟨by simp [e1],fun i hi=> ?_⟩
   have:=e2 i hi
   have hlt:i<args.length:=kK
   have eb:(args.map a.eval).toArray.getD i undef=(args.map a.eval).getD i undef:=by simp [List.getD,hlt]
   rw [eb];exact this
  obtain ⟨x,hx2,hall⟩:=hrun w S σ _ hv0
  refine ⟨x,hx2,fun w' _=> ?_⟩
  have hc:=run_callFunc_extern (P:=P) hf hname hb hn he (args.map a.eval).toArray w'
  rw [hall w'] at hc
  simp only [execOp,resolve,hz,Deferred.ofValue,Sem.run_bind,Sem.run_pure,Result.andThen_ok,invoke,List.map_toArray,Array.empty_append,Array.append_empty] at hc⊢
  exact hc
theorem VRs.strByte {w:World}{S:Nat→Prop}{σ:Nat→Option Blk}{s:List UInt8}{b:Int}{vals:Array Value}(h:VRs w S σ [.str s,.int .u8 b] vals):vals= #[zKC s,.int .u8 b]:=by
 have _p:= ‹Pins›
 obtain ⟨h1,h2⟩:=h
 have a:=h2 0 kJ
 have b':=h2 1 kJ
 apply Array.ext
 ·simpa using h1
 ·intro i hi1 hi2
  have hlt:i<2:=by simpa using hi2
  match i,hlt with
  |0,_=>
   simp only [List.getD_cons_zero,Array.getD,hi1,dite_true] at a
   generalize hv:vals[0]=v at*
   have hv':vals.getInternal 0 hi1=v:=hv
   rw [hv'] at a
   cases a;rfl
  |1,_=>
   simp only [List.getD_cons_succ,List.getD_cons_zero,Array.getD,hi1,dite_true] at b'
   generalize hv:vals[1]=v at*
   have hv':vals.getInternal 1 hi1=v:=hv
   rw [hv'] at b'
   cases b';rfl
theorem zOx {g x y:Operand}{ats:Array TypeId}{f:FuncId}{fx:Func}{s:List UInt8}{b:Int}(hg:ev fr g=some (.fn f []))(hx:ev fr x=some (.str s))(hy:ev fr y=some (.int .u8 b))(hf:P.funcs[f]? =some fx)(hname:(fx.name== "runtime.NumGoroutine")=false)(hb:fx.body.isNone=true)(hn:Extern.findNext fx=none)(he:Extern.find fx=some Extern.BytealgIndexByte.indexByte):
 QOp ind P fn c fr H ⟨d,.call {callee:= .value g,args:= #[x,y],argTypes:=ats},ty,pos,after,gu⟩ (.int .i64 (Lib.indexByte s b.toNat.toUInt8)):=
 q_extern (args:=[x,y]) (ags:=[.str s,.int .u8 b]) hg (by simp [evs,hx,hy]) hf hname hb hn he (fun w S σ vals hv=>⟨_,.int _ _ _,fun w'=>by rw [hv.strByte];exact Lib.run_indexByteString _ _ _⟩)
end
theorem AEq.tup2 {x x' y:AV}(h:AEq x x'):AEq (.tup [x,y]) (.tup [x',y]):=by
 have _p:= ‹Pins›
 intro w S σ v hv
 cases hv with
 |tup _ _ vs hl hv=>
  refine .tup _ _ _ hl (fun i hi=> ?_)
  have:=hv i hi
  match i,hi with
  |0,_=>exact h _ _ _ _ this
  |1,_=>exact this
theorem zU.res {P:Program}{f:FuncId}{args:List AV}{H:zO}{fix:Nat→Prop}{K K':AV→zO→Prop}(hc:zU P f args H fix K)(hK: ∀r H',K r H'→ ∃r',AEq r r'∧K' r' H'):zU P f args H fix K':=by
 refine ⟨hc.1,fun w σ S vals h0 h1 h2 h3=>Calls.mono (hc.2 w σ S vals h0 h1 h2 h3) fun e w' he=> ?_⟩
 obtain ⟨v,r,σ',S',H',g1,g2,g3,g4,g5⟩:=he
 obtain ⟨r',hr1,hr2⟩:=hK _ _ g5
 exact ⟨v,r',σ',S',H',g1,g2,hr1 _ _ _ _ g3,⟨g4.os,g4.output,g4.tape,g4.size,g4.block,g4.S1,g4.S2,g4.fixed,g4.fixlt,g4.own⟩,hr2⟩
def AEqs:List AV→List AV→Prop
 |[],[]=>True
 |x::r,y::q=>AEq x y∧AEqs r q
 |_,_=>False
theorem AEqs.length: ∀{a b:List AV},AEqs a b→a.length=b.length
 |[],[],_=>have _p:= ‹Pins›;rfl
 |_::r,_::q,h=>by simp [AEqs.length h.2]
 |[],_::_,h=>h.elim
 |_::_,[],h=>h.elim
theorem AEqs.get: ∀{a b:List AV},AEqs a b→ ∀i,i<a.length→AEq (a.getD i .any) (b.getD i .any)
 |[],[],_,i,hi=>by have _p:= ‹Pins›;simp at hi
 |x::r,y::q,h,0,_=>h.1
 |x::r,y::q,h,i+1,hi=>by simpa using AEqs.get h.2 i (by simpa using hi)
 |[],_::_,h,_,_=>h.elim
 |_::_,[],h,_,_=>h.elim
theorem zX.res {P:Program}{f:FuncId}{args:List AV}{r r':AV}(hc:zX P f args r)(h:AEq r r'):zX P f args r':=
 fun H=>(hc H).res fun _ _ ⟨h1,h2⟩=>⟨r',h1▸h,rfl,h2⟩
end Go.Ax
namespace Go.Ax
variable [Pins]
open Go.RowKit
section
variable {ind:Bool}{P:Program}{fn:Func}{c:Ctx}{fr:Fr}{H:zO}{k:List It}
variable {d:Option Nat}{ty:TypeId}{pos:String}{after:Array Edge}{g:Option (Nat×Bool)}
theorem zAw {x ix:Operand}{t e:TypeId}{n h i j jx:Nat}{kk:IntKind}{m:Int}(ht:P.underlying t=some (.array n e))(hs:(P.info? e).map (·.size)=some 1)(hx:ev fr x=some (.ptr h i j))(hi:ev fr ix=some (.int kk m))(hj:j+m.toNat=jx)(hb:0≤m∧m<n):
 QOp ind P fn c fr H ⟨d,.indexAddr t x ix,ty,pos,after,g⟩ (.ptr h i jx):=by
 intro w a σ S hr
 have h1:=hr.evAt hx
 have h2:=hr.evInt hi
 subst hj
 generalize hz:a.eval x=z at h1
 cases h1 with
 |ptr _ _ _ _ b s C hσ=>
  refine ⟨_,.ptr _ h i (j+m.toNat) b s C hσ,fun w' _=> ?_⟩
  cases hq:P.info? e with
  |none=>simp [hq] at hs
  |some inf=>
   have hsz:inf.size=1:=by simpa [hq] using hs
   simp [execOp,hz,h2,Instr.indexAt,Instr.sureAddr,asIntOf,run_underlying ht,hb,sizeOf,typeInfo,hq,hsz,Addr.add_lit,Nat.add_assoc]
theorem zOw {x ix:Operand}{t e:TypeId}{n i j jx:Nat}{cl:Cells}{kk:IntKind}{m:Int}(ht:P.underlying t=some (.array n e))(hs:(P.info? e).map (·.size)=some 1)(hx:ev fr x=some (.rp cl i j))(hi:ev fr ix=some (.int kk m))(hj:j+m.toNat=jx)(hb:0≤m∧m<n):
 QOp ind P fn c fr H ⟨d,.indexAddr t x ix,ty,pos,after,g⟩ (.rp cl i jx):=by
 intro w a σ S hr
 have h1:=hr.evAt hx
 have h2:=hr.evInt hi
 subst hj
 generalize hz:a.eval x=z at h1
 cases h1 with
 |rp _ _ _ _ b o val hS hc hvv h1'=>
  refine ⟨.pointer (some ⟨b,o+m.toNat,none⟩),.rp _ _ _ _ _ _ (fun e=>val (m.toNat+e)) hS (fun e he=> ?_) (fun e he=> ?_) (fun e he=>h1' _ kK),fun w' _=> ?_⟩
  ·have:=hc (m.toNat+e) kK
   rwa [←Nat.add_assoc] at this
  ·have:=hvv (m.toNat+e) kK
   rwa [←Nat.add_assoc] at this
  ·cases hq:P.info? e with
   |none=>simp [hq] at hs
   |some inf=>
    have hsz:inf.size=1:=by simpa [hq] using hs
    simp [execOp,hz,h2,Instr.indexAt,Instr.sureAddr,asIntOf,run_underlying ht,hb,sizeOf,typeInfo,hq,hsz,Addr.add_lit]
theorem zIZ {x:Operand}{t:TypeId}{u:TypeDesc}{h i:Nat}{ob:AObj}{inf:TypeInfo}{L:List AV}(ht:P.underlying t=some u)(hu:zBn u=true)(hinf:P.info? t=some inf)(hsz:inf.size=ob.c.sz)(hx:ev fr x=some (.ptr h i 0))(hh:H[h]? =some (some ob))(hL:(List.range ob.c.sz).map (ob.c.at i)=L)(hi:i<ob.c.len):QOp false P fn c fr H ⟨d,.load t x,ty,pos,after,g⟩ (.agg L):=by
 intro w a σ S hr
 have h1:=hr.evAt hx
 subst hL
 generalize hz:a.eval x=z at h1
 cases h1 with
 |ptr _ _ _ _ b s C hσ=>
  obtain ⟨hs',cur,g1,g2,g3,g4,g5,g6⟩:=hr.obj hh hσ
  subst hs'
  have hcell: ∀w':World,w'.heap=w.heap→ ∀j,j<ob.c.sz→ ∃y,w'.cell? ⟨b,i*ob.c.sz+j,none⟩=some y∧VR w S σ (ob.c.at i j) y∧y.oneCell'=true:=by
   intro w' hw j hj
   obtain ⟨y,e1,e2,e3⟩:=g6 i j hi hj
   obtain ⟨mk,g1,_,_⟩:=g1.cells kK
   exact ⟨y,by simp [World.cell?,hw,g1,e1],e2,e3⟩
  let cs:List Value:=(List.range ob.c.sz).map (fun j=>(w.cell? ⟨b,i*ob.c.sz+j,none⟩).getD undef)
  refine ⟨.agg cs.toArray,.agg _ _ _ (by simp [cs]) (fun j hj=> ?_) (fun j hj=> ?_),fun w' hw=> ?_⟩
  ·have hj':j<ob.c.sz:=by simpa using hj
   obtain ⟨y,e1,e2,_⟩:=hcell w rfl j hj'
   simpa [cs,Array.getD,hj',e1,List.getD] using e2
  ·have hj':j<ob.c.sz:=by simpa using hj
   obtain ⟨y,e1,_,e3⟩:=hcell w rfl j hj'
   simpa [cs,Array.getD,hj',e1] using e3
  ·have hw:=hw.resolve_left kV
   have hl:=run_loadCells_list (P:=P) w' ⟨b,i*ob.c.sz,none⟩ cs (fun j v hv=>by
    have hj:j<ob.c.sz:=by simpa [cs] using (List.getElem?_eq_some_iff.1 hv).1
    obtain ⟨y,e1,_,_⟩:=hcell w rfl j hj
    simp only [cs,List.getElem?_map,List.getElem?_range hj,Option.map_some,Option.some.injEq] at hv
    subst hv
    rw [e1,Addr.add_lit]
    have:=World.cell?_of_block (w:=w) (w':=w') (a:=⟨b,i*ob.c.sz+j,none⟩) (by rw [hw])
    rw [this,e1];rfl)
   have hcl:cs.length=inf.size:=by simp [cs,hsz]
   rw [hcl] at hl
   have hz':a.eval x= .pointer (some ⟨b,i*ob.c.sz,none⟩):=by rw [hz];simp
   simp [execOp,hz',Instr.loadAt,Instr.sureAddr,loadVar,zEX ht,hu,sizeOf,typeInfo,hinf,hl]
theorem zAc {x:Operand}{t:TypeId}{u:TypeDesc}{i:Nat}{cl:Cells}{inf:TypeInfo}{L:List AV}(ht:P.underlying t=some u)(hu:zBn u=true)(hinf:P.info? t=some inf)(hsz:inf.size=cl.sz)(hx:ev fr x=some (.rp cl i 0))(hL:(List.range cl.sz).map (cl.at i)=L):QOp false P fn c fr H ⟨d,.load t x,ty,pos,after,g⟩ (.agg L):=by
 intro w a σ S hr
 have h1:=hr.evAt hx
 subst hL
 generalize hz:a.eval x=z at h1
 cases h1 with
 |rp _ _ _ _ b o val hS hc hvv h1'=>
  let cs:List Value:=(List.range cl.sz).map val
  refine ⟨.agg cs.toArray,.agg _ _ _ (by simp [cs]) (fun j hj=> ?_) (fun j hj=> ?_),fun w' hw=> ?_⟩
  ·have hj':j<cl.sz:=by simpa using hj
   have:=(hvv j kK).mono (w':=w) (fun _ h=>h) (fun _ _=>rfl) σ (fun _ _ h=>by cases h)
   simpa [cs,Array.getD,hj',List.getD] using this
  ·have hj':j<cl.sz:=by simpa using hj
   have:=h1' j kK
   simpa [cs,Array.getD,hj'] using this
  ·have hw:=hw.resolve_left kV
   have hl:=run_loadCells_list (P:=P) w' ⟨b,o,none⟩ cs (fun j v hv=>by
    have hj:j<cl.sz:=by simpa [cs] using (List.getElem?_eq_some_iff.1 hv).1
    simp only [cs,List.getElem?_map,List.getElem?_range hj,Option.map_some,Option.some.injEq] at hv
    subst hv
    rw [Addr.add_lit]
    have:=World.cell?_of_block (w:=w) (w':=w') (a:=⟨b,o+j,none⟩) (by rw [hw])
    rw [this];exact hc j kK)
   have hcl:cs.length=inf.size:=by simp [cs,hsz]
   rw [hcl] at hl
   simp [execOp,hz,Instr.loadAt,Instr.sureAddr,loadVar,zEX ht,hu,sizeOf,typeInfo,hinf,hl]
theorem zN {x:Operand}{s:TypeId}{fs:Array Field}{f h i j jx:Nat}{fd:Field}{inf:TypeInfo}(ht:P.underlying s=some (.struct fs))(hf:fs[f]? =some fd)(hi:P.info? fd.type=some inf)(hne:Nat.beq inf.size 0=false)(hx:ev fr x=some (.ptr h i j))(hj:j+fd.offset=jx):
 QOp ind P fn c fr H ⟨d,.fieldAddr s x f,ty,pos,after,g⟩ (.ptr h i jx):=by
 intro w a σ S hr
 have h1:=hr.evAt hx
 subst hj
 have hne': ¬inf.size=0:=fun e=>by rw [e] at hne;cases hne
 generalize hz:a.eval x=z at h1
 cases h1 with
 |ptr _ _ _ _ b sz C hσ=>
  refine ⟨_,.ptr _ h i (j+fd.offset) b sz C hσ,fun w' _=> ?_⟩
  simp [execOp,hz,Instr.fieldAt,run_underlying ht,hf,Instr.sureAddr,fieldPlace,sizeOf,typeInfo,hi,hne',Addr.add_lit,Nat.add_assoc]
theorem zIr {x:Operand}{s:TypeId}{fs:Array Field}{f i j jx:Nat}{cl:Cells}{fd:Field}{inf:TypeInfo}(ht:P.underlying s=some (.struct fs))(hf:fs[f]? =some fd)(hi:P.info? fd.type=some inf)(hne:Nat.beq inf.size 0=false)(hx:ev fr x=some (.rp cl i j))(hj:j+fd.offset=jx):
 QOp ind P fn c fr H ⟨d,.fieldAddr s x f,ty,pos,after,g⟩ (.rp cl i jx):=by
 intro w a σ S hr
 have h1:=hr.evAt hx
 subst hj
 have hne': ¬inf.size=0:=fun e=>by rw [e] at hne;cases hne
 generalize hz:a.eval x=z at h1
 cases h1 with
 |rp _ _ _ _ b o val hS hc hvv h1'=>
  refine ⟨.pointer (some ⟨b,o+fd.offset,none⟩),.rp _ _ _ _ _ _ (fun e=>val (fd.offset+e)) hS (fun e he=> ?_) (fun e he=> ?_) (fun e he=>h1' _ kK),fun w' _=> ?_⟩
  ·have:=hc (fd.offset+e) kK
   rwa [←Nat.add_assoc] at this
  ·have:=hvv (fd.offset+e) kK
   rwa [←Nat.add_assoc] at this
  ·simp [execOp,hz,Instr.fieldAt,run_underlying ht,hf,Instr.sureAddr,fieldPlace,sizeOf,typeInfo,hi,hne',Addr.add_lit]
theorem zh {x:Operand}{h i j:Nat}(hx:ev fr x=some (.ptr h i j)):QOp ind P fn c fr H ⟨d,.nilCheck x,ty,pos,after,g⟩ (.ptr h i j):=by
 intro w a σ S hr
 have h1:=hr.evAt hx
 generalize hz:a.eval x=z at h1
 cases h1 with
 |ptr _ _ _ _ b s C hσ=>exact ⟨_,.ptr _ h i j b s C hσ,fun w' _=>by simp [execOp,hz]⟩
theorem zL5 {x:Operand}{cl:Cells}{i j:Nat}(hx:ev fr x=some (.rp cl i j)):QOp ind P fn c fr H ⟨d,.nilCheck x,ty,pos,after,g⟩ (.rp cl i j):=by
 intro w a σ S hr
 have h1:=hr.evAt hx
 generalize hz:a.eval x=z at h1
 cases h1 with
 |rp _ _ _ _ b o val hS hc hvv h1'=>exact ⟨_,.rp _ _ _ _ _ _ val hS hc hvv h1',fun w' _=>by simp [execOp,hz]⟩
theorem zt {all:Array Oper}{t:TypeId}{x y:Operand}{ty:TypeId}{pos:String}{after:Array Edge}{rest:List Oper}{h i:Nat}{ob:AObj}{L:List AV}{c':Cells}(hx:ev fr x=some (.ptr h i 0))(hy:ev fr y=some (.agg L))(hs:(P.info? t).map (·.size)=some ob.c.sz)(hh:H[h]? =some (some ob))(hl:L.length=ob.c.sz)(hi:i<ob.c.len)(h1:c'.len=ob.c.len)(h2:c'.sz=ob.c.sz)(h3: ∀i' j',i'<ob.c.len→j'<ob.c.sz→c'.at i' j'=if i'=i then L.getD j' .any else ob.c.at i' j')(hk:Ax P fn c (.ops false all rest k) fr (H.set h (some ⟨ob.ty,c'⟩)))(hz0:ob.c.sz≠0:=by (intro hh;cases hh)):Ax P fn c (.ops false all (⟨none,.store t x y,ty,pos,after,none⟩::rest) k) fr H:=by
 refine ax_w0 (fun w a σ S hr=> ?_) hk
 have e1:=hr.evAt hx
 have e2:=hr.evAt hy
 generalize hz:a.eval x=z at e1
 generalize hzy:a.eval y=u at e2
 cases e2 with
 |agg _ _ vs hvl hvv hv1=>
  cases e1 with
  |ptr _ _ _ _ b s C hσ=>
   obtain ⟨hs',cur,g1,g2,g3,g4,g5,g6⟩:=hr.obj hh hσ
   subst hs'
   obtain ⟨mk,g1,hmk,hrow⟩:=g1.cells hz0
   have hfit:i*ob.c.sz+ob.c.sz≤cur.size:=by
    rw [g2]
    have:(i+1)*ob.c.sz≤C*ob.c.sz:=Nat.mul_le_mul_right _ kK
    rw [Nat.add_mul] at this;omega
   have hvsz:vs.size=ob.c.sz:=by rw [hvl,hl]
   have hst:=zCT P b (i*ob.c.sz) ob.ty mk vs.toList 0 cur w g1 hmk (by simp [hvsz];exact hfit) (fun v hv=>by
    obtain ⟨j,hj,rfl⟩:=List.getElem_of_mem hv
    have hj':j<vs.size:=by simpa using hj
    have:=hv1 j (by rw [←hvl];exact hj')
    simpa [Array.getD,hj'] using this)
   simp only [Nat.add_zero] at hst
   generalize hcur:(cur.toList.take (i*ob.c.sz)++vs.toList++cur.toList.drop (i*ob.c.sz+vs.toList.length)).toArray=cur' at hst
   have hlen':cur'.size=cur.size:=by rw [←hcur];simp [hvsz];omega
   have hat: ∀p,p<cur.size→cur'[p]? =if i*ob.c.sz≤p∧p<i*ob.c.sz+ob.c.sz then vs[p-i*ob.c.sz]? else cur[p]? :=by
    intro p hp
    rw [←hcur]
    simp only [List.getElem?_toArray,List.append_assoc]
    by_cases c1:p<i*ob.c.sz
    ·rw [List.getElem?_append_left (by simp;omega),List.getElem?_take,if_pos c1,if_neg kK];simp
    ·rw [List.getElem?_append_right (by simp;omega)]
     have ht:(cur.toList.take (i*ob.c.sz)).length=i*ob.c.sz:=by simp;omega
     rw [ht]
     by_cases c2:p<i*ob.c.sz+ob.c.sz
     ·rw [List.getElem?_append_left (by simp [hvsz];omega),if_pos ⟨kK,c2⟩];simp
     ·rw [List.getElem?_append_right (by simp [hvsz];omega),if_neg kK]
      simp only [Array.length_toList,hvsz,List.getElem?_drop,Array.getElem?_toList]
      congr 1;omega
   refine ⟨w.setRow b cur',σ,S,?_,hr.setRow hh hσ hrow h2 kK (by rw [hlen',g2]) (fun i' j' hi' hj'=> ?_)⟩
   ·simp only [Nat.add_zero] at hz
    simp only [execOp,hz,hzy,Instr.storeAt,Instr.sureAddr,storeVar,Sem.run_bind,Sem.run_pure,Result.andThen_ok,zNs hs,Value.cells,hvsz]
    simp [hst]
   ·rw [h1] at hi'
    rw [h2] at hj'⊢
    rw [h3 i' j' hi' hj']
    have hp:i'*ob.c.sz+j'<cur.size:=by
     rw [g2]
     have:(i'+1)*ob.c.sz≤C*ob.c.sz:=Nat.mul_le_mul_right _ kK
     rw [Nat.add_mul] at this;omega
    rw [hat _ hp]
    by_cases he:i'=i
    ·subst he
     rw [if_pos rfl,if_pos ⟨kK,kK⟩]
     have hjv:j'<vs.size:=kK
     refine ⟨vs.getD j' undef,by simp [Array.getD,hjv],hvv j' kK,hv1 j' kK⟩
    ·rw [if_neg he]
     have hne: ¬(i*ob.c.sz≤i'*ob.c.sz+j'∧i'*ob.c.sz+j'<i*ob.c.sz+ob.c.sz):=by
      rintro ⟨q1,q2⟩
      rcases Nat.lt_or_gt_of_ne he with hlt|hlt
      ·have:(i'+1)*ob.c.sz≤i*ob.c.sz:=Nat.mul_le_mul_right _ hlt
       rw [Nat.add_mul] at this;omega
      ·have:(i+1)*ob.c.sz≤i'*ob.c.sz:=Nat.mul_le_mul_right _ hlt
       rw [Nat.add_mul] at this;omega
     rw [if_neg hne]
     exact g6 i' j' hi' hj'
end
end Go.Ax
namespace Go.Ax
variable [Pins]
open Go.RowKit
section
variable {P:Program}{fn:Func}{c:Ctx}{fr:Fr}{H:zO}{k:List It}
theorem zJm {w:World}{a:Act}{σ:Nat→Option Blk}{S:Nat→Prop}{n:Nat}(hr:Rep c w a σ S n fr H){all:Array Oper}{d:Option Nat}{op:Op}{ty:TypeId}{pos:String}{after:Array Edge}{j t:Nat}{p:Bool}(hy:zFC all j=some t)(hb:look t fr=some (.tup [])):Region.wanted ⟨d,op,ty,pos,after,some (j,p)⟩ (yielded all a.tmps)=false:=by
 obtain ⟨h1,h2⟩:=hr.slots t _ hb
 have h3:t<a.tmps.size:=by rw [hr.size];exact h1
 generalize hz:a.tmps.getD t undef=z at h2
 cases h2
 rename_i vs hl hv
 have h4:a.tmps[t]? =some (.tuple vs):=by
  simp only [Array.getD,h3,dite_true] at hz
  simp only [Array.getElem?_eq_getElem h3]
  exact congrArg some hz
 unfold zFC at hy
 simp only [Region.wanted,yielded,hy,Option.bind_some,h4]
 cases p<;>rfl
theorem zJl {w:World}{S:Nat→Prop}{σ:Nat→Option Blk}:VR w S σ (.tup []) undef:=have _p:= ‹Pins›;.tup _ _ _ rfl (fun i hi=>absurd hi (Nat.not_lt_zero _))
theorem zCj {q:Bool}{all:Array Oper}{d:Nat}{op:Op}{ty:TypeId}{pos:String}{after:Array Edge}{rest:List Oper}{j t:Nat}{p b:Bool}(hy:zFC all j=some t)(hb:look t fr=some (.bool b))(hne:(b==p)=false)(h:Ax P fn c (.ops q all rest k) ((d,.tup [])::fr) H):Ax P fn c (.ops q all (⟨some d,op,ty,pos,after,some (j,p)⟩::rest) k) fr H:=by
 cases q with
 |false=>
  intro hd w a σ S hr
  obtain ⟨hd1,hd2⟩:=zCd hd
  simp only [wpList,zIP hr hy hb,hne,Bool.false_eq_true,if_false]
  exact h hd2 w _ σ S (hr.put zJl (hd1 d Z))
 |true=>
  intro hd w a σ S hr
  obtain ⟨hd1,hd2⟩:=zCd hd
  simp only [wpQuiet,zIP hr hy hb,hne,Bool.false_eq_true,if_false]
  exact h hd2 w _ σ S (hr.put zJl (hd1 d Z))
theorem zF9 {q:Bool}{all:Array Oper}{d:Nat}{op:Op}{ty:TypeId}{pos:String}{after:Array Edge}{rest:List Oper}{j t:Nat}{p:Bool}(hy:zFC all j=some t)(hb:look t fr=some (.tup []))(h:Ax P fn c (.ops q all rest k) ((d,.tup [])::fr) H):Ax P fn c (.ops q all (⟨some d,op,ty,pos,after,some (j,p)⟩::rest) k) fr H:=by
 cases q with
 |false=>
  intro hd w a σ S hr
  obtain ⟨hd1,hd2⟩:=zCd hd
  simp only [wpList,zJm hr hy hb,Bool.false_eq_true,if_false]
  exact h hd2 w _ σ S (hr.put zJl (hd1 d Z))
 |true=>
  intro hd w a σ S hr
  obtain ⟨hd1,hd2⟩:=zCd hd
  simp only [wpQuiet,zJm hr hy hb,Bool.false_eq_true,if_false]
  exact h hd2 w _ σ S (hr.put zJl (hd1 d Z))
end
end Go.Ax
namespace Go.Ax
variable [Pins]
open Go.RowKit
section
variable {P:Program}{fn:Func}{c:Ctx}{fr:Fr}{H:zO}{k:List It}
end
end Go.Ax
namespace Go.Ax
variable [Pins]
mutual
def zCV (n:Nat):AV→Bool
 | .sl h _ _=>Nat.blt h n
 | .ptr h _ _=>Nat.blt h n
 | .fn _ l=>zEy n l
 | .agg l=>zEy n l
 | .tup l=>zEy n l
 | .mp h=>Nat.blt h n
 |_=>true
def zEy (n:Nat):List AV→Bool
 |[]=>true
 |v::r=>zCV n v && zEy n r
end
theorem zFd {n:Nat}{l:List AV}(h:zEy n l=true)(i:Nat)(hi:i<l.length):zCV n (l.getD i .any)=true:=by
 have _p:= ‹Pins›
 induction l generalizing i with
 |nil=>simp at hi
 |cons v r ih=>
  simp only [zEy,Bool.and_eq_true] at h
  cases i with
  |zero=>exact h.1
  |succ i=>simpa using ih h.2 i (by simpa using hi)
theorem VR.cutv {w:World}{S:Nat→Prop}{σ:Nat→Option Blk}{n:Nat}{x:AV}{v:Value}(h:VR w S σ x v):zCV n x=true→ ∀σ':Nat→Option Blk,(∀h,h<n→σ' h=σ h)→VR w S σ' x v:=by
 induction h with
 |int=>intros;constructor
 |bool=>intros;constructor
 |str=>intros;constructor
 |nil=>intros;constructor
 |ro0=>intros;constructor
 |ro σ c i len b o cap val hSb hlen hc hv h1 ih=>intro _ σ' _;exact .ro _ _ _ _ _ _ _ val hSb hlen hc hv h1
 |sl σ h i len b s C cap hσ hlen hcap=>intro hb σ' hs;exact .sl _ _ _ _ _ _ _ _ (by rw [hs h (Nat.le_of_ble_eq_true hb)];exact hσ) hlen hcap
 |sl0 σ h hσ=>intro hb σ' hs;exact .sl0 _ _ (by rw [hs h (Nat.le_of_ble_eq_true hb)];exact hσ)
 |rp σ c i j b o val hSb hc hv h1 ih=>intro _ σ' _;exact .rp _ _ _ _ _ _ val hSb hc hv h1
 |ptr σ h i j b s C hσ=>intro hb σ' hs;exact .ptr _ _ _ _ _ _ _ (by rw [hs h (Nat.le_of_ble_eq_true hb)];exact hσ)
 |nilp=>intros;constructor
 |fn σ f cap vs hl hv ih=>intro hn σ' hs;exact .fn _ _ _ _ hl (fun i hi=>ih i hi (zFd hn i hi) _ hs)
 |nilfn=>intros;constructor
 |iface=>intros;constructor
 |nilif=>intros;constructor
 |agg σ l vs hl hv h1 ih=>intro hn σ' hs;exact .agg _ _ _ hl (fun i hi=>ih i hi (zFd hn i hi) _ hs) h1
 |tup σ l vs hl hv ih=>intro hn σ' hs;exact .tup _ _ _ hl (fun i hi=>ih i hi (zFd hn i hi) _ hs)
 |mp σ h b hσ=>intro hb σ' hs;exact .mp _ _ _ (by rw [hs h (Nat.le_of_ble_eq_true hb)];exact hσ)
 |rom σ ks vs b es clock e hSb hb hn hl hd he hk hv=>intro _ σ' _;exact .rom _ _ _ b es clock e hSb hb hn hl hd he hk hv
 |any=>intros;constructor
theorem Lays.cutv {w:World}{S:Nat→Prop}{σ σ':Nat→Option Blk}{o:AObj}{b:Nat}{cur:Array Value}{C n:Nat}(h:Lays w S σ o b cur C)(hc: ∀ks vs,o.c= .mp ks vs→zEy n ks=true∧zEy n vs=true)(hs: ∀h,h<n→σ' h=σ h):Lays w S σ' o b cur C:=by
 have _p:= ‹Pins›
 cases h with
 |row mk h hm hC=>exact .row mk h hm hC
 |map ks vs es clock hc' hC h hn hl hd he=>
  obtain ⟨b1,b2⟩:=hc ks vs hc'
  exact .map ks vs es clock hc' hC h hn hl hd (fun i hi=>let ⟨e,e1,e2,e3⟩:=he i hi;⟨e,e1,e2.cutv (zFd b1 i hi) _ hs,e3.cutv (zFd b2 i kK) _ hs⟩)
def zDj (n:Nat):Fr→Bool
 |[]=>true
 |(_,v)::r=>zCV n v && zDj n r
theorem zPc {n:Nat}{fr:Fr}(hb:zDj n fr=true){t:Nat}{v:AV}(hl:look t fr=some v):zCV n v=true:=by
 have _p:= ‹Pins›
 induction fr with
 |nil=>simp [look] at hl
 |cons p r ih=>
  obtain ⟨u,x⟩:=p
  simp only [zDj,Bool.and_eq_true] at hb
  simp only [look] at hl
  cases hq:Nat.beq t u with
  |true=>rw [hq] at hl;simp at hl;subst hl;exact hb.1
  |false=>rw [hq] at hl;exact ih hb.2 (by simpa using hl)
def cutσ (n:Nat)(σ:Nat→Option Blk)(h:Nat):Option Blk:=if h<n then σ h else none
section
variable {P:Program}{fn:Func}{c:Ctx}{fr:Fr}{H:zO}{k:List It}
theorem Rep.heapA {w:World}{a:Act}{σ:Nat→Option Blk}{S:Nat→Prop}{n:Nat}{H':zO}(hr:Rep c w a σ S n fr H)(hlen:H'.length=H.length)(hs: ∀(h:Nat) (o':AObj),H'[h]? =some (some o')→ ∃o:AObj,H[h]? =some (some o)∧o'.ty=o.ty∧o'.c.len=o.c.len∧o'.c.kd=o.c.kd∧ ∀i j,i<o.c.len→j<o.c.sz→AEq (o.c.at i j) (o'.c.at i j)):Rep c w a σ S n fr H':=by
 refine ⟨⟨fun h o' ho=> ?_,fun h h' o o' b s C s' C' q1 q2 e1 e2=> ?_,hr.hr.small,fun h hl=>hr.hr.dom h (by rw [←hlen];exact hl)⟩,⟨hr.kp.os,hr.kp.output,hr.kp.tape,hr.kp.size,hr.kp.block,hr.kp.S1,hr.kp.S2,hr.kp.fixed,fun h hf=>by rw [hlen];exact hr.kp.fixlt h hf,fun h o b s C q e=> ?_⟩,hr.defers,hr.size,hr.slots⟩
 ·obtain ⟨o,h1,h2,h3,h4,h5⟩:=hs h o' ho
  rw [h3,zMe h4]
  rcases hr.hr.live h o h1 with g|⟨b,C,cur,g1,g2,g3,g4,g5,g6,g7⟩
  ·exact .inl g
  ·refine .inr ⟨b,C,cur,g1,g2.kd h2 h4,g3,g4,g5,g6,fun i j hi hj=> ?_⟩
   obtain ⟨v,k1,k2,k3⟩:=g7 i j hi hj
   exact ⟨v,k1,h5 i j hi hj _ _ _ _ k2,k3⟩
 ·obtain ⟨p,h1,_⟩:=hs h o q1
  obtain ⟨p',h1',_⟩:=hs h' o' q2
  exact hr.hr.dist h h' p p' b s C s' C' h1 h1' e1 e2
 ·obtain ⟨p,h1,_⟩:=hs h o q
  exact hr.kp.own h p b s C h1 e
theorem zGw {all:Array Oper}{rest:List Oper}(H':zO)(hlen:H'.length=H.length)(hs: ∀(h:Nat) (o':AObj),H'[h]? =some (some o')→ ∃o:AObj,H[h]? =some (some o)∧o'.ty=o.ty∧o'.c.len=o.c.len∧o'.c.kd=o.c.kd∧ ∀i j,i<o.c.len→j<o.c.sz→AEq (o.c.at i j) (o'.c.at i j))(hk:Ax P fn c (.ops false all rest k) fr H'):Ax P fn c (.ops false all rest k) fr H:=fun hd w a σ S hr=>hk hd w a σ S (hr.heapA hlen hs)
end
theorem zU.args {P:Program}{f:FuncId}{ags ags':List AV}{H:zO}{fix:Nat→Prop}{K:AV→zO→Prop}(hc:zU P f ags' H fix K)(h:AEqs ags ags'):zU P f ags H fix K:=by
 unfold zU at hc⊢
 refine ⟨hc.1,fun w σ S vals hp hr hf hv=>hc.2 w σ S vals hp hr hf ⟨hv.1.trans h.length,fun j hj=> ?_⟩⟩
 rw [←h.length] at hj
 exact h.get j hj _ _ _ _ (hv.2 j hj)
end Go.Ax
namespace Go.Ax
variable [Pins]
theorem zX.lendS {P:Program}{f:FuncId}{args args':List AV}{r:AV}{H HL:zO}(hc:zX P f args r)(hsub:subH HL H)(hrl: ∀(h:Nat) (o:AObj),HL[h]? =some (some o)→zAY o.c)(hlend:AV.frzs HL args'=args)(hin:zJO HL args')(hn:noRef.noRefs args=true)(hr:noRef r=true)(hfl:flat r=true):
 zU P f args' H (fun h=>h<H.length) (fun r' H'=>r'=r∧H'=H):=by
 refine zU.over (hc []) (fun h hh=>by simp at hh) hsub hrl hlend hin hn ?_
 rintro r0 H0 ⟨rfl,rfl⟩
 have hk:r0.keep [] 0 H.length=r0:=zX.lend.keep_noRef hr
 refine ⟨zX.lend.inB_noRef hr,fun h o ho=>by simp at ho,0,⟨0,.ints .i64 []⟩,.inl ⟨Nat.le_refl _,⟨hk,Z⟩,.inr (by rw [hk];exact hfl)⟩⟩
def zBM (n:Nat):Cells→Prop
 | .mp ks vs=>zEy n ks=true∧zEy n vs=true
 |c=> ∀i j,i<c.len→j<c.sz→zCV n (c.at i j)=true
theorem zBM.row {n:Nat}{c:Cells}(h:zBM n c): ∀i j,i<c.len→j<c.sz→zCV n (c.at i j)=true:=by
 have _p:= ‹Pins›
 cases c<;>first|exact h|exact fun i j hi=>absurd hi (Nat.not_lt_zero _)
theorem zBM.mp {n:Nat}{c:Cells}(h:zBM n c){ks vs:List AV}(hc:c= .mp ks vs):zEy n ks=true∧zEy n vs=true:=by have _p:= ‹Pins›;subst hc;exact h
theorem Rep.cutP {c:Ctx}{w:World}{a:Act}{σ:Nat→Option Blk}{S:Nat→Prop}{n:Nat}{fr:Fr}{H H0 H1:zO}(hr:Rep c w a σ S n fr H)(hH:H=H0++H1)(hf: ∀h,c.fix h→h<H0.length)(hbH: ∀(h:Nat) (o:AObj),H0[h]? =some (some o)→zBM H0.length o.c)(hbF:zDj H0.length fr=true):Rep c w a (cutσ H0.length σ) S n fr H0:=by
 subst hH
 have hs: ∀h,h<H0.length→cutσ H0.length σ h=σ h:=fun h hl=>if_pos hl
 have hget: ∀{h:Nat} {o:AObj},H0[h]? =some (some o)→h<H0.length∧(H0++H1)[h]? =some (some o):=by
  intro h o ho
  have hl:h<H0.length:=(List.getElem?_eq_some_iff.1 ho).1
  exact ⟨hl,by rw [List.getElem?_append_left hl];exact ho⟩
 refine ⟨⟨fun h o ho=> ?_,fun h h' o o' b s C s' C' q1 q2 e1 e2=> ?_,hr.hr.small,fun h hl=>if_neg kK⟩,⟨hr.kp.os,hr.kp.output,hr.kp.tape,hr.kp.size,hr.kp.block,hr.kp.S1,hr.kp.S2,fun h hh=>by rw [hs h (hf h hh)];exact hr.kp.fixed h hh,hf,fun h o b s C q e=> ?_⟩,hr.defers,hr.size,fun t v hl=>⟨(hr.slots t v hl).1,(hr.slots t v hl).2.cutv (zPc hbF hl) _ hs⟩⟩
 ·obtain ⟨hl,ho'⟩:=hget ho
  rw [hs h hl]
  rcases hr.hr.live h o ho' with g|⟨b,C,cur,g1,g2,g3,g4,g5,g6,g7⟩
  ·exact .inl g
  ·refine .inr ⟨b,C,cur,g1,g2.cutv (fun ks vs hc=>(hbH h o ho).mp hc) hs,g3,g4,g5,g6,fun i j hi hj=> ?_⟩
   obtain ⟨v,k1,k2,k3⟩:=g7 i j hi hj
   exact ⟨v,k1,k2.cutv ((hbH h o ho).row i j hi hj) _ hs,k3⟩
 ·obtain ⟨hl,ho⟩:=hget q1
  obtain ⟨hl',ho'⟩:=hget q2
  rw [hs h hl] at e1
  rw [hs h' hl'] at e2
  exact hr.hr.dist h h' o o' b s C s' C' ho ho' e1 e2
 ·obtain ⟨hl,ho⟩:=hget q
  rw [hs h hl] at e
  exact hr.kp.own h o b s C ho e
section
variable {P:Program}{fn:Func}{c:Ctx}{fr:Fr}{H:zO}{k:List It}
theorem zBS {x:Code}(H0 H1:zO)(L:Fr)(hH:H=H0++H1)(hL:zCY fr L)(hf: ∀h,c.fix h→h<H0.length)(hbH: ∀(h:Nat) (o:AObj),H0[h]? =some (some o)→zBM H0.length o.c)(hbF:zDj H0.length L=true)(hk:Ax P fn c (.code x k) L H0):Ax P fn c (.code x k) fr H:=
 fun w a σ S hr=>hk w a _ S ((hr.weaken hL).cutP hH hf hbH hbF)
theorem zRo {all:Array Oper}{d:Nat}{g:Operand}{f:FuncId}{args:List Operand}{ats:Array TypeId}{ty:TypeId}{pos:String}{after:Array Edge}{rest:List Oper}{caps ags ags' ags'':List AV}{r:AV}(HL:zO)(hg:ev fr g=some (.fn f caps))(ha:evs fr args=some ags)(has:ags++caps=ags')(hl:AV.frzs HL ags'=ags'')(hcall:zX P f ags'' r)(hsub:subH HL H)(hrl: ∀(h:Nat) (o:AObj),HL[h]? =some (some o)→zAY o.c)(hin:zJO HL ags')(hn:noRef.noRefs ags''=true)(hr:noRef r=true)(hfl:flat r=true)(hk:Ax P fn c (.ops false all rest k) ((d,r)::fr) H):Ax P fn c (.ops false all (⟨some d,.call {callee:= .value g,args:=args.toArray,argTypes:=ats},ty,pos,after,none⟩::rest) k) fr H:=
 zH2 hg ha has (zX.lendS hcall hsub hrl hl hin hn hr hfl) (fun _ h=>h) (fun _ h=>h) (fun r' H' h=>by obtain ⟨rfl,rfl⟩:=h;exact hk)
variable {ind:Bool}{d:Option Nat}{t t' ty:TypeId}{pos:String}{after:Array Edge}{g:Option (Nat×Bool)}
def andB (k:IntKind)(m n:Int):Int:=k.wrap ((BitVec.ofInt k.bits m &&& BitVec.ofInt k.bits n).toNat:Int)
def orB (k:IntKind)(m n:Int):Int:=k.wrap ((BitVec.ofInt k.bits m|||BitVec.ofInt k.bits n).toNat:Int)
def shrB (k:IntKind)(m n:Int):Int:=m.fdiv (2^(min n.toNat k.bits))
def shlB (k:IntKind)(m n:Int):Int:=k.wrap (m*2^(min n.toNat k.bits))
theorem q_and {x y:Operand}{k:IntKind}{m n:Int}(hx:ev fr x=some (.int k m))(hy:ev fr y=some (.int k n)):
 QOp ind P fn c fr H ⟨d,.binOp .and t x y t',ty,pos,after,g⟩ (.int k (andB k m n)):=by
 intro w a σ S hr
 have h1:=hr.evInt hx
 have h2:=hr.evInt hy
 refine ⟨_,.int _ _ _,fun w' _=> ?_⟩
 simp [execOp,h1,h2,zAS,binOp,Op.intBits,andB]
theorem q_or {x y:Operand}{k:IntKind}{m n:Int}(hx:ev fr x=some (.int k m))(hy:ev fr y=some (.int k n)):
 QOp ind P fn c fr H ⟨d,.binOp .or t x y t',ty,pos,after,g⟩ (.int k (orB k m n)):=by
 intro w a σ S hr
 have h1:=hr.evInt hx
 have h2:=hr.evInt hy
 refine ⟨_,.int _ _ _,fun w' _=> ?_⟩
 simp [execOp,h1,h2,zAS,binOp,Op.intBits,orB]
theorem q_shr {x y:Operand}{k k':IntKind}{m n:Int}(hx:ev fr x=some (.int k m))(hy:ev fr y=some (.int k' n))(hn:0≤n):
 QOp ind P fn c fr H ⟨d,.binOp .shr t x y t',ty,pos,after,g⟩ (.int k (shrB k m n)):=by
 intro w a σ S hr
 have h1:=hr.evInt hx
 have h2:=hr.evInt hy
 refine ⟨_,.int _ _ _,fun w' _=> ?_⟩
 have h3: ¬n<0:=kK
 simp [execOp,h1,h2,zAS,binOp,Op.shift,shrB,h3]
theorem q_shl {x y:Operand}{k k':IntKind}{m n:Int}(hx:ev fr x=some (.int k m))(hy:ev fr y=some (.int k' n))(hn:0≤n):
 QOp ind P fn c fr H ⟨d,.binOp .shl t x y t',ty,pos,after,g⟩ (.int k (shlB k m n)):=by
 intro w a σ S hr
 have h1:=hr.evInt hx
 have h2:=hr.evInt hy
 refine ⟨_,.int _ _ _,fun w' _=> ?_⟩
 have h3: ¬n<0:=kK
 simp [execOp,h1,h2,zAS,binOp,Op.shift,shlB,h3]
end
end Go.Ax
namespace Go.Ax
variable [Pins]
open Go.RowKit
section
variable {P:Program}{fn:Func}{c:Ctx}{fr:Fr}{H:zO}{k:List It}{ind:Bool}{d:Option Nat}{ty:TypeId}{pos:String}{after:Array Edge}{g:Option (Nat×Bool)}
end
end Go.Ax
namespace Go.Ax
variable [Pins]
open Go.ChangeShapes Go.WideShapes Go.ChangeAt Go.RowKit
section
variable {H:Type}{enc:TypeId×Value→H}{P:Program}{W:World}
abbrev allS (W:World):Nat→Prop:=fun b=>b<W.heap.size
def zEx (W:World)(l:List AV)(cs:List Value):Prop:=
 l.length=cs.length∧ ∀i,i<cs.length→VR W (allS W) (fun _=>none) (l.getD i .any) (cs.getD i undef)∧(cs.getD i undef).oneCell'=true
def Rd {α:Type}(enc:TypeId×Value→H)(P:Program)(W:World)(t:TypeId)(n:Nat)(e:α→List AV)(ok:α→Prop):Prop:=
 ∀fuel cs x,DataW.trod enc P W 0 (fun _=>true) true fuel t cs=some x→ ∃a,ok a∧cs.length=n∧zEx W (e a) cs
theorem zK2 {W:World}{v:AV}{c:Value}(h:VR W (allS W) (fun _=>none) v c)(h1:c.oneCell'=true):zEx W [v] [c]:=by
 have _p:= ‹Pins›
 refine ⟨Z,fun i hi=> ?_⟩
 have:i=0:=by simpa using hi
 subst this
 exact ⟨h,h1⟩
theorem Rd.int {t:TypeId}{k:IntKind}(ht:P.underlying t=some (.int k)):Rd enc P W t 1 (fun n:Int=>[AV.int k n]) (fun n=>(Lit.int k n).wf=true):=by
 intro fuel cs x h
 obtain ⟨n,rfl,_,hw⟩:=DataW.trod_int ht h
 exact ⟨n,hw,Z,zK2 (.int _ _ _) Z⟩
theorem Rd.str {t:TypeId}(ht:P.underlying t=some .string):Rd enc P W t 1 (fun s:List UInt8=>[AV.str s]) (fun s=>s.length≤9223372036854775807):=by
 intro fuel cs x h
 obtain ⟨s,rfl,_,hs⟩:=DataW.trod_string ht h
 have e:Value.string s=zKC s.data.toList:=by
  show Value.string s=Value.string ⟨s.data.toList.toArray⟩
  rw [Array.toArray_toList]
 refine ⟨s.data.toList,?_,Z,?_⟩
 ·unfold maxLen at hs;simpa using hs
 ·rw [e];exact zK2 (.str _ _) rfl
def zC9 {α:Type}(d:α)(n:Nat)(e:α→List AV)(l:List α):Cells:= .fn l.length n (fun i j=>(e (l.getD i d)).getD j .any)
theorem Rd.slice {α:Type}{t t':TypeId}{n:Nat}{e:α→List AV}{ok:α→Prop}(d:α)(ht:P.underlying t=some (.slice t'))(hc:P.cellsOf t'=n)(hn:Nat.blt 0 n=true)(h:Rd enc P W t' n e ok):
 Rd enc P W t 1 (fun l:List α=>[AV.ro (zC9 d n e l) 0 l.length]) (fun l=>l.length≤9223372036854775807∧ ∀a∈l,ok a):=by
 have hn:=Nat.le_of_ble_eq_true hn
 intro fuel cs x hx
 rcases DataW.trod_slice ht hx with ⟨rfl,_⟩|⟨a,len,cap,elems,rest,m,_,rfl,_,_,hl,hm,hlen,hel,_,_⟩
 ·exact ⟨[],⟨Nat.zero_le _,fun a ha=>by simp at ha⟩,Z,zK2 (.ro0 _ _ _ _ _) Z⟩
 subst hc
 have each: ∀i,i<len→ ∃z:α×List Value,ok z.1∧W.cells? 0 (a.add (i*P.cellsOf t')) (P.cellsOf t')=some z.2∧zEx W (e z.1) z.2:=by
  intro i hi
  have h1:=hel i hi
  have h2:elems[i]? =some (elems[i]'kK):=List.getElem?_eq_getElem _
  rw [h2,Option.bind_eq_some_iff] at h1
  obtain ⟨cs',hcs,hy⟩:=h1
  obtain ⟨z,hz,hzl,hzr⟩:=h _ _ _ hy
  exact ⟨(z,cs'),hz,hcs,hzr⟩
 cases len with
 |zero=>exact ⟨[],⟨Nat.zero_le _,fun a ha=>by simp at ha⟩,rfl,zK2 (.ro0 _ _ _ _ _) rfl⟩
 |succ len=>
  have ha:a=⟨a.block,a.off,none⟩∧a.block<W.heap.size:=by
   obtain ⟨z,_,hcs,_⟩:=each 0 (Nat.succ_pos _)
   obtain ⟨_,hl2,hce⟩:=World.cells?_some hcs
   have h0:=hce 0 hn
   have hz0:z.2[0]? =some (z.2[0]'kK):=List.getElem?_eq_getElem _
   rw [hz0] at h0
   simp only [Nat.zero_mul] at h0
   have e0: ∀q:Addr,q.add 0=q:=by intro q;simp [Addr.add]
   rw [e0,e0] at h0
   have hsp:a=⟨a.block,a.off,none⟩:=by
    have hb:=h0
    unfold World.cell? at hb
    split at hb
    ·cases hsp:a.spot with
     |none=>cases a;simp_all
     |some s=>simp [hsp] at hb
    ·cases hb
   refine ⟨hsp,?_⟩
   rcases Nat.lt_or_ge a.block W.heap.size with hh|hh
   ·exact hh
   ·rw [hsp] at h0
    unfold World.cell? at h0
    have:W.heap[a.block]? =none:=by simp [hh]
    simp [this] at h0
  let f:Nat→α×List Value:=fun i=>if hi:i<len+1 then Classical.choose (each i hi) else (d,[])
  have hf: ∀i,i<len+1→ok (f i).1∧W.cells? 0 (a.add (i*P.cellsOf t')) (P.cellsOf t')=some (f i).2∧zEx W (e (f i).1) (f i).2:=by
   intro i hi
   have:=Classical.choose_spec (each i hi)
   simp only [f,hi,dite_true]
   exact this
  let l:List α:=(List.range (len+1)).map (fun i=>(f i).1)
  have hll:l.length=len+1:=by simp [l]
  have hlg: ∀i,i<len+1→l.getD i d=(f i).1:=by intro i hi;simp [l,List.getD,hi]
  refine ⟨l,⟨by unfold maxLen at hm;omega,fun b hb=> ?_⟩,Z,?_⟩
  ·obtain ⟨i,hi,rfl⟩:=List.mem_map.1 hb
   exact (hf i (List.mem_range.1 hi)).1
  ·refine zK2 ?_ Z
   rw [ha.1,hll]
   refine .ro _ _ _ _ _ _ _ (fun i j=>(f i).2.getD j undef) ha.2 hl (fun i j hi hj=> ?_) (fun i j hi hj=> ?_) (fun i j hi hj=> ?_)
   all_goals
    obtain ⟨g1,g2,g3,g4⟩:=hf i hi
    obtain ⟨_,q2,q3⟩:=World.cells?_some g2
    have hj':j<(f i).2.length:=by rw [q2];exact hj
   ·have h3:=q3 j hj
    rw [List.getElem?_eq_getElem hj'] at h3
    rw [ha.1,add_plain,add_plain] at h3
    show W.cell? ⟨a.block,a.off+i*P.cellsOf t'+j,none⟩=some ((f i).2.getD j undef)
    rw [h3,List.getD,List.getElem?_eq_getElem hj'];rfl
   ·show VR W (allS W) (fun _=>none) ((e (l.getD (0+i) d)).getD j .any) _
    rw [Nat.zero_add,hlg i hi]
    exact (g4 j hj').1
   ·exact (g4 j hj').2
theorem zEx.append {l l':List AV}{cs cs':List Value}(h:zEx W l cs)(h':zEx W l' cs'):zEx W (l++l') (cs++cs'):=by
 have _p:= ‹Pins›
 refine ⟨by simp [h.1,h'.1],fun i hi=> ?_⟩
 by_cases hlt:i<cs.length
 ·have e1:(l++l').getD i .any=l.getD i .any:=by simp [List.getD,List.getElem?_append,h.1,hlt]
  have e2:(cs++cs').getD i undef=cs.getD i undef:=by simp [List.getD,List.getElem?_append,hlt]
  rw [e1,e2];exact h.2 i hlt
 ·have e1:(l++l').getD i .any=l'.getD (i-cs.length) .any:=by simp [List.getD,List.getElem?_append,h.1,hlt]
  have e2:(cs++cs').getD i undef=cs'.getD (i-cs.length) undef:=by simp [List.getD,List.getElem?_append,hlt]
  rw [e1,e2];exact h'.2 _ (by simp at hi;omega)
theorem zEx.conv {l l':List AV}{cs:List Value}(h:zEx W l cs)(hl:l'.length=l.length)(he: ∀i,i<l.length→AEq (l.getD i .any) (l'.getD i .any)):zEx W l' cs:=
 have _p:= ‹Pins›;⟨hl.trans h.1,fun i hi=>⟨he i (by rw [h.1];exact hi) _ _ _ _ (h.2 i hi).1,(h.2 i hi).2⟩⟩
theorem Rd.map {α β:Type}{t:TypeId}{n:Nat}{e:α→List AV}{ok:α→Prop}{e':β→List AV}{ok':β→Prop}(h:Rd enc P W t n e ok)(f:α→β)(hok: ∀a,ok a→ok' (f a))(hl: ∀a,(e' (f a)).length=(e a).length)(he: ∀a i,i<(e a).length→AEq ((e a).getD i .any) ((e' (f a)).getD i .any)):Rd enc P W t n e' ok':=by
 intro fuel cs x hx
 obtain ⟨a,ha,h1,h2⟩:=h fuel cs x hx
 exact ⟨f a,hok a ha,h1,h2.conv (hl a) (he a)⟩
theorem zSl (l:List (List UInt8)):AEq (.ro (zC9 [] 1 (fun s:List UInt8=>[AV.str s]) l) 0 l.length) (.ro (.strs l) 0 l.length):=by
 refine AEq.ro Z (fun d j hd hj=> ?_)
 have hj0:j=0:=Nat.lt_one_iff.1 hj
 subst hj0
 rfl
theorem Rd.strs {t t':TypeId}(ht:P.underlying t=some (.slice t'))(hc:P.cellsOf t'=1)(hk:P.underlying t'=some .string):
 Rd enc P W t 1 (fun l:List (List UInt8)=>[AV.ro (.strs l) 0 l.length]) (fun l=>l.length≤9223372036854775807∧ ∀s∈l,s.length≤9223372036854775807):=
 (Rd.slice [] ht hc rfl (Rd.str hk)).map id (fun _ h=>h) (fun _=>rfl) (fun l i hi=>by
  have:i=0:=by simpa using hi
  subst this
  exact zSl l)
theorem Rd.one {α:Type}{t:TypeId}{e:α→List AV}{ok:α→Prop}{v:Value}{d:DataW H}{p:List MemPlace}(h:Rd enc P W t 1 e ok)(hv:v.cells= #[v])(hd:DataW.Trod enc P W 0 (fun _=>true) true t v d p):
 ∃a,ok a∧VR W (allS W) (fun _=>none) ((e a).getD 0 .any) v:=by
 have _p:= ‹Pins›
 obtain ⟨fuel,hx⟩:=hd
 rw [hv] at hx
 obtain ⟨a,ha,_,hr⟩:=h _ _ _ hx
 exact ⟨a,ha,(hr.2 0 Nat.zero_lt_one).1⟩
end
end Go.Ax
namespace Go.Ax
variable [Pins]
open Go.RowKit
section
variable {H:Type}{enc:TypeId×Value→H}{P:Program}{W:World}
theorem Rd.pair {t e:TypeId}(ht:P.underlying t=some (.array 2 e))(hc:P.cellsOf e=1)(hc2:P.cellsOf t=2)(hk:P.underlying e=some (.int .i64)):
 Rd enc P W t 2 (fun x:Int×Int=>[AV.int .i64 x.1,AV.int .i64 x.2]) (fun _=>True):=by
 have _p:= ‹Pins›
 intro fuel cs x hx
 obtain ⟨xs,m,_,_,hl,hxl,hf⟩:=DataW.trod_array ht hx
 rw [hc2] at hl
 rw [hc] at hf
 have each: ∀i,i<2→ ∃n:Int,zEx W [AV.int .i64 n] ((cs.drop (i*1)).take 1):=by
  intro i hi
  have h1:=hf i hi
  have h2:xs[i]? =some (xs[i]'kK):=List.getElem?_eq_getElem _
  rw [h2] at h1
  obtain ⟨n,_,_,hr⟩:=Rd.int hk _ _ _ h1
  exact ⟨n,hr⟩
 obtain ⟨a,ha⟩:=each 0 kV
 obtain ⟨b,hb⟩:=each 1 kV
 refine ⟨(a,b),trivial,hl,?_⟩
 have e1:cs=(cs.drop (0*1)).take 1++(cs.drop (1*1)).take 1:=by
  match cs,hl with
  |[c0,c1],_=>rfl
 rw [e1]
 exact ha.append hb
end
end Go.Ax
namespace Go.Ax
variable [Pins]
open Go.RowKit
section
variable {P:Program}{fn:Func}{c:Ctx}{fr:Fr}{H H0:zO}{k:List It}{M:M}
theorem zn {all:Array Oper}{fuel:Nat}{listed:Array Bool}(L:Fr)(h1:(∀fr,zCY fr L→Ax P fn c (.any all fuel listed k) fr H)→Ax P fn c M fr H0)(h2:Ax P fn c (.any all fuel listed k) L H):Ax P fn c M fr H0:=
 h1 (fun _ hk w a σ S hr=>h2 w a σ S (hr.weaken hk))
theorem zAX {x:Code}(L:Fr)(h1:(∀fr,zCY fr L→Ax P fn c (.code x k) fr H)→Ax P fn c M fr H0)(h2:Ax P fn c (.code x k) L H):Ax P fn c M fr H0:=
 h1 (fun _ hk w a σ S hr=>h2 w a σ S (hr.weaken hk))
end
theorem zOT {HF:zO}{fr:Fr}: ∀{L:Fr},zCY fr L→fzk HF fr L
 |[],_=>have _p:= ‹Pins›;trivial
 |(t,v)::r,h=>⟨⟨v,h.1,.inl rfl⟩,zOT h.2⟩
theorem zNa (t:Nat)(v:AV)(L:Fr):look t ((t,v)::L)=some v:=by
 have _p:= ‹Pins›
 show (bif Nat.beq t t then some v else _)=_
 rw [Nat.beq_refl];rfl
end Go.Ax
namespace Go.Ax
variable [Pins]
open Go.RowKit
def sclEq (P:Program)(t:TypeId)(x y:AV):Option Bool:=match P.underlying t,x,y with
 |some (.int _),.int k a,.int k' b=>if k=k' then some (decide (a=b)) else none
 |some .string,.str a,.str b=>some (decide (a=b))
 |some .bool,.bool a,.bool b=>some (a==b)
 |_,_,_=>none
theorem zSp {P:Program}{w w':World}{S:Nat→Prop}{σ:Nat→Option Blk}{t:TypeId}{x y:AV}{b:Bool}{v v':Value}(h:sclEq P t x y=some b)(hv:VR w S σ x v)(hv':VR w S σ y v')(d:Nat):
 P.plainKey t=true∧(Op.equalIn (d+1) t v v').run P w'= .ok b w':=by
 unfold sclEq at h
 split at h
 ·rename_i hu
  split at h
  ·rename_i hk
   subst hk
   simp only [Option.some.injEq] at h
   subst h
   cases hv;cases hv'
   refine ⟨by simp [Program.plainKey,hu],?_⟩
   rw [run_equalIn_int w' d t _ _ _ _ hu];rfl
  ·cases h
 ·rename_i hu
  simp only [Option.some.injEq] at h
  subst h
  cases hv;cases hv'
  refine ⟨by simp [Program.plainKey,hu],?_⟩
  simp only [zKC]
  rw [run_equalIn_string w' d t _ _ hu,zKU,zKU]
  congr 1
  rw [Bool.eq_iff_iff];simp
 ·rename_i hu
  simp only [Option.some.injEq] at h
  subst h
  cases hv;cases hv'
  exact ⟨by simp [Program.plainKey,hu],run_equalIn_bool' w' d t _ _ hu⟩
 ·cases h
theorem zRg {w:World}{S:Nat→Prop}{σ:Nat→Option Blk}{L:List AV}{vs:Array Value}(hl:vs.size=L.length)(hv: ∀i,i<L.length→VR w S σ (L.getD i .any) (vs.getD i undef)){o:Nat}{x:AV}(h:L[o]? =some x): ∃v,vs[o]? =some v∧VR w S σ x v:=by
 have _p:= ‹Pins›
 have hlt:o<L.length:=(List.getElem?_eq_some_iff.1 h).1
 have h3:=hv o hlt
 have e:L.getD o .any=x:=by simp [List.getD,h]
 rw [e] at h3
 exact ⟨_,by simp [Array.getD,hl,hlt],h3⟩
section
variable {P:Program}{fn:Func}{c:Ctx}{fr:Fr}{H:zO}{k:List It}{ind:Bool}{d:Option Nat}{ty:TypeId}{pos:String}{after:Array Edge}{g:Option (Nat×Bool)}
end
end Go.Ax
namespace Go.Ax
variable [Pins]
open Go.RowKit
def UK (k:IntKind)(M:Nat):Prop:= ∀n:Int,k.wrap n=n%(M:Int)
theorem zBk:UK .u64 18446744073709551616:=have _p:= ‹Pins›;fun n=>IntKind.wrap_u64 n
theorem zFp:UK .u32 4294967296:=have _p:= ‹Pins›;fun n=>IntKind.wrap_u32 n
theorem UK.in {k:IntKind}{M:Nat}(h:UK k M){m:Nat}(hm:m<M):k.wrap (m:Int)=(m:Int):=by have _p:= ‹Pins›;rw [h];exact Int.emod_eq_of_lt kK kK
theorem UK.low {k:IntKind}{M:Nat}(h:UK k M)(m:Nat):k.wrap (m:Int)=((m%M:Nat):Int):=by have _p:= ‹Pins›;rw [h];simp
section
variable {P:Program}{fn:Func}{c:Ctx}{fr:Fr}{H:zO}{k:List It}{ind:Bool}{d:Option Nat}{ty:TypeId}{pos:String}{after:Array Edge}{g:Option (Nat×Bool)}
theorem QOp.res {o:Oper}{v v':AV}(h:QOp ind P fn c fr H o v)(e:v=v'):QOp ind P fn c fr H o v':=e▸h
theorem zAe {x:Operand}{src dst:TypeId}{kk k':IntKind}{u:TypeDesc}{m M:Nat}(hs:P.underlying src=some u)(hd:P.underlying dst=some (.int k'))(hx:ev fr x=some (.int kk (m:Nat)))(hk:UK k' M)(hm:m<M):
 QOp ind P fn c fr H ⟨d,.convert src dst x,ty,pos,after,g⟩ (.int k' (m:Nat)):=(zQK hs hd hx).res (congrArg (AV.int k') (hk.in hm))
theorem zHA {x:Operand}{src dst:TypeId}{kk k':IntKind}{u:TypeDesc}{m M:Nat}(hs:P.underlying src=some u)(hd:P.underlying dst=some (.int k'))(hx:ev fr x=some (.int kk (m:Nat)))(hk:UK k' M):
 QOp ind P fn c fr H ⟨d,.convert src dst x,ty,pos,after,g⟩ (.int k' (m%M:Nat)):=(zQK hs hd hx).res (congrArg (AV.int k') (hk.low m))
theorem zHB {x y:Operand}{t t':TypeId}{k k':IntKind}{m s:Nat}(hx:ev fr x=some (.int k (m:Nat)))(hy:ev fr y=some (.int k' (s:Nat)))(hb:Nat.ble s k.bits=true):
 QOp ind P fn c fr H ⟨d,.binOp .shr t x y t',ty,pos,after,g⟩ (.int k (m/2^s:Nat)):=by
 refine (q_shr hx hy kK).res (congrArg (AV.int k) ?_)
 have hs:s≤k.bits:=Nat.le_of_ble_eq_true hb
 unfold shrB
 rw [Int.toNat_natCast,Nat.min_eq_left hs,Int.fdiv_eq_ediv_of_nonneg _ (Int.pow_nonneg kV)]
 simp
theorem zLZ {x y:Operand}{t t':TypeId}{k k':IntKind}{m s M:Nat}(hx:ev fr x=some (.int k (m:Nat)))(hy:ev fr y=some (.int k' (s:Nat)))(hb:s≤k.bits)(hk:UK k M)(hm:m*2^s<M):
 QOp ind P fn c fr H ⟨d,.binOp .shl t x y t',ty,pos,after,g⟩ (.int k (m*2^s:Nat)):=by
 refine (q_shl hx hy kK).res (congrArg (AV.int k) ?_)
 unfold shlB
 rw [Int.toNat_natCast,Nat.min_eq_left hb]
 have:((m:Int)*2^s)=((m*2^s:Nat):Int):=kJ
 rw [this];exact hk.in hm
theorem bvu {k:IntKind}{M:Nat}(hk:UK k M)(hM:M=2^k.bits){m:Nat}(hm:m<M):(BitVec.ofInt k.bits (m:Int)).toNat=m:=by
 have _p:= ‹Pins›
 subst hM
 simp [BitVec.toNat_ofInt,Nat.mod_eq_of_lt hm]
theorem zO1 {x y:Operand}{t t':TypeId}{k:IntKind}{m n M:Nat}(hx:ev fr x=some (.int k (m:Nat)))(hy:ev fr y=some (.int k (n:Nat)))(hk:UK k M)(hM:M=2^k.bits)(hm:m<M)(hn:n<M):
 QOp ind P fn c fr H ⟨d,.binOp .or t x y t',ty,pos,after,g⟩ (.int k (m|||n:Nat)):=by
 refine (q_or hx hy).res (congrArg (AV.int k) ?_)
 unfold orB
 rw [BitVec.toNat_or,bvu hk hM hm,bvu hk hM hn]
 exact hk.in (by subst hM;exact Nat.or_lt_two_pow hm hn)
theorem q_uand {x y:Operand}{t t':TypeId}{k:IntKind}{m n M:Nat}(hx:ev fr x=some (.int k (m:Nat)))(hy:ev fr y=some (.int k (n:Nat)))(hk:UK k M)(hM:M=2^k.bits)(hm:m<M)(hn:n<M):
 QOp ind P fn c fr H ⟨d,.binOp .and t x y t',ty,pos,after,g⟩ (.int k (m &&& n:Nat)):=by
 refine (q_and hx hy).res (congrArg (AV.int k) ?_)
 unfold andB
 rw [BitVec.toNat_and,bvu hk hM hm,bvu hk hM hn]
 exact hk.in (by subst hM;exact Nat.and_lt_two_pow m hn)
theorem zGJ {x y:Operand}{t t':TypeId}{k:IntKind}{m n M:Nat}(hx:ev fr x=some (.int k (m:Nat)))(hy:ev fr y=some (.int k (n:Nat)))(hk:UK k M)(hm:m+n<M):
 QOp ind P fn c fr H ⟨d,.binOp .add t x y t',ty,pos,after,g⟩ (.int k (m+n:Nat)):=by
 refine (zNl hx hy Z).res (congrArg (AV.int k) ?_)
 have:(m:Int)+(n:Int)=((m+n:Nat):Int):=kJ
 rw [this];exact hk.in hm
theorem zJ7 {x y:Operand}{t t':TypeId}{k:IntKind}{m n M:Nat}(hx:ev fr x=some (.int k (m:Nat)))(hy:ev fr y=some (.int k (n:Nat)))(hk:UK k M)(hm:m*n<M):
 QOp ind P fn c fr H ⟨d,.binOp .mul t x y t',ty,pos,after,g⟩ (.int k (m*n:Nat)):=by
 refine (zNl hx hy Z).res (congrArg (AV.int k) ?_)
 have:(m:Int)*(n:Int)=((m*n:Nat):Int):=kJ
 rw [this];exact hk.in hm
theorem zQO {x y:Operand}{t t':TypeId}{k:IntKind}{m n M:Nat}(hx:ev fr x=some (.int k (m:Nat)))(hy:ev fr y=some (.int k (n:Nat)))(hk:UK k M)(hm:m<M)(hn:n≤m):
 QOp ind P fn c fr H ⟨d,.binOp .sub t x y t',ty,pos,after,g⟩ (.int k (m-n:Nat)):=by
 refine (zNl hx hy Z).res (congrArg (AV.int k) ?_)
 have:(m:Int)-(n:Int)=((m-n:Nat):Int):=kK
 rw [this];exact hk.in kK
theorem q_urem {x y:Operand}{t t':TypeId}{k:IntKind}{m n:Nat}(hx:ev fr x=some (.int k (m:Nat)))(hy:ev fr y=some (.int k (n:Nat)))(hn:0<n):
 QOp ind P fn c fr H ⟨d,.binOp .rem t x y t',ty,pos,after,g⟩ (.int k (m%n:Nat)):=
 (q_rem hx hy ⟨kK,kK⟩).res (congrArg (AV.int k) kJ)
theorem q_uquo {x y:Operand}{t t':TypeId}{k:IntKind}{m n M:Nat}(hx:ev fr x=some (.int k (m:Nat)))(hy:ev fr y=some (.int k (n:Nat)))(hk:UK k M)(hm:m<M)(hn:0<n):
 QOp ind P fn c fr H ⟨d,.binOp .quo t x y t',ty,pos,after,g⟩ (.int k (m/n:Nat)):=by
 refine (q_quok hx hy kK).res (congrArg (AV.int k) ?_)
 have:(m:Int).tdiv (n:Int)=((m/n:Nat):Int):=kJ
 rw [this];exact hk.in (Nat.lt_of_le_of_lt (Nat.div_le_self _ _) hm)
end
end Go.Ax
namespace Go.Ax
variable [Pins]
open Go.RowKit
section
variable {P:Program}{fn:Func}{c:Ctx}{fr:Fr}{H:zO}{k:List It}
end
end Go.Ax
namespace Go.Ax
variable [Pins]
open Go.RowKit
section
variable {P:Program}{fn:Func}{c:Ctx}{fr:Fr}{H:zO}{k:List It}
theorem ax_copy {all:Array Oper}{d:Nat}{t tx e:TypeId}{x y:Operand}{ty:TypeId}{pos:String}{after:Array Edge}{rest:List Oper}{inf:TypeInfo}{h i n:Nat}{o:AObj}{v:AV}{cx c':Cells}{i2 m q:Nat}(ht:P.underlying t=some (.slice e))(hi:P.info? e=some inf)(hszz:inf.size=o.c.sz)(hx:ev fr x=some (.sl h i n))(hh:H[h]? =some (some o))(hy:ev fr y=some v)(hs:zMy H v=some (cx,i2,m))(hin0:i+n≤o.c.len)(hn:0<n)(hin:i2+m≤cx.len)(hm:0<m)(hq:Nat.min m n=q)(p1:c'.sz=o.c.sz)(p2:cx.sz=o.c.sz)(p3:c'.len=o.c.len)(p4: ∀i' j,i'<o.c.len→j<o.c.sz→c'.at i' j=if i≤i'∧i'<i+q then cx.at (i2+(i'-i)) j else o.c.at i' j)(hk:Ax P fn c (.ops false all rest k) ((d,.int .i64 (q:Nat))::fr) (H.set h (some ⟨o.ty,c'⟩)))(hz:o.c.sz≠0:=by (intro hh;cases hh)):Ax P fn c (.ops false all (⟨some d,.call {callee:= .builtin .copy,args:= #[x,y],argTypes:= #[t,tx]},ty,pos,after,none⟩::rest) k) fr H:=by
 refine ax_w (fun w a σ S hr=> ?_) hk
 have h1:=hr.evAt hx
 have h2:=hr.evAt hy
 have hsrc:=hr.src h2 hs (fun _ _=>hin)
 have hexec: ∀r w',(Builtin.copy_ #[t,tx] ty #[a.eval x,a.eval y]).run P w= .ok r w'→(execOp a.eval ⟨some d,.call {callee:= .builtin .copy,args:= #[x,y],argTypes:= #[t,tx]},ty,pos,after,none⟩).run P w= .ok (.value r) w':=by
  intro r w' h
  simp [execOp,resolve,invoke,builtin,h]
 generalize hzx:a.eval x=vx at h1 hexec
 generalize hzy:a.eval y=vy at h2 hsrc hexec
 unfold Src at hsrc
 rw [p2] at hsrc
 have hq1:q≤m∧q≤n:=by subst hq;exact ⟨Nat.min_le_left _ _,Nat.min_le_right _ _⟩
 cases h1 with
 |sl0 _ _ hσ=>omega
 |sl _ _ _ _ b s C cap hσ hlen hcap=>
  obtain ⟨hs',cur,g1,g2,g3,g4,g5,g6⟩:=hr.obj hh hσ
  subst hs'
  obtain ⟨mk,g1,hmk,hrow⟩:=g1.cells hz
  rcases hsrc with ⟨rfl,ax,capx,rfl⟩|⟨ad,capx,news,rfl,q1,q2,q3,q4⟩
  ·omega
  ·have hle:q*o.c.sz≤news.length:=by rw [q1];exact Nat.mul_le_mul_right _ hq1.1
   have htl:(news.take (q*o.c.sz)).length=q*o.c.sz:=by rw [List.length_take];omega
   have hfits:i*o.c.sz+q*o.c.sz≤cur.size:=by
    rw [g2,←Nat.add_mul];exact Nat.mul_le_mul_right _ kK
   have hf:=run_firstCells_some (P:=P) w o.c.sz q ad m capx (news.take (q*o.c.sz)) htl (fun j u hu=>by
    rw [List.getElem?_take] at hu
    split at hu
    ·exact q2 j u hu
    ·cases hu)
   have hst:=zCT P b (i*o.c.sz) o.ty mk (news.take (q*o.c.sz)) 0 cur w g1 hmk (by rw [htl];omega) (fun u hu=>q3 u (List.mem_of_mem_take hu))
   simp only [Nat.add_zero,htl] at hst
   have hrun:(Builtin.copy_ #[t,tx] ty #[.slice (some ⟨b,i*o.c.sz,none⟩) n cap,.slice (some ad) m capx]).run P w= .ok (.int .i64 (q:Nat)) (w.setRow b (cur.toList.take (i*o.c.sz)++news.take (q*o.c.sz)++cur.toList.drop (i*o.c.sz+q*o.c.sz)).toArray):=by
    simp [Builtin.copy_,run_underlying ht,sizeOf,typeInfo,hi,hszz,Builtin.lenOf,hq,hf,hst,goInt]
   have hb0:(cur.toList.take (i*o.c.sz)).length=i*o.c.sz:=by rw [List.length_take];simp;omega
   refine ⟨_,_,σ,S,hexec _ _ hrun,hr.setRow hh hσ hrow p1 kK ?_ (fun i' j hi' hj=> ?_),.int _ _ _⟩
   ·rw [←g2];simp;omega
   ·rw [p3] at hi'
    rw [p1] at hj⊢
    rw [p4 i' j hi' hj]
    split
    ·rename_i hr1
     obtain ⟨u,e1,e2⟩:=q4 (i'-i) j kK hj
     refine ⟨u,?_,e2,q3 u (List.mem_of_getElem? e1)⟩
     have hidx:i'*o.c.sz+j=i*o.c.sz+((i'-i)*o.c.sz+j):=by
      rw [←Nat.add_assoc,←Nat.add_mul];congr 2;omega
     have hlt:(i'-i)*o.c.sz+j<q*o.c.sz:=by
      have:(i'-i+1)*o.c.sz≤q*o.c.sz:=Nat.mul_le_mul_right _ kK
      rw [Nat.add_mul] at this;omega
     simp only [List.getElem?_toArray,List.append_assoc]
     rw [hidx,List.getElem?_append_right kK,hb0,Nat.add_sub_cancel_left,List.getElem?_append_left kK,List.getElem?_take,if_pos hlt]
     exact e1
    ·rename_i hr1
     obtain ⟨u,e1,e2,e3⟩:=g6 i' j hi' hj
     refine ⟨u,?_,e2,e3⟩
     simp only [List.getElem?_toArray,List.append_assoc]
     by_cases hlo:i'<i
     ·have hlt:i'*o.c.sz+j<i*o.c.sz:=by
       have:(i'+1)*o.c.sz≤i*o.c.sz:=Nat.mul_le_mul_right _ kK
       rw [Nat.add_mul] at this;omega
      rw [List.getElem?_append_left kK,List.getElem?_take,if_pos hlt]
      simpa using e1
     ·have hge:i+q≤i':=kK
      have hge2:i*o.c.sz+q*o.c.sz≤i'*o.c.sz+j:=by
       have:(i+q)*o.c.sz≤i'*o.c.sz:=Nat.mul_le_mul_right _ hge
       rw [Nat.add_mul] at this;omega
      rw [List.getElem?_append_right kK,hb0,List.getElem?_append_right kK,htl,List.getElem?_drop]
      rw [show i*o.c.sz+q*o.c.sz+(i'*o.c.sz+j-i*o.c.sz-q*o.c.sz)=i'*o.c.sz+j by omega]
      simpa using e1
theorem Rep.calledM {w w':World}{a:Act}{σ σ':Nat→Option Blk}{S S':Nat→Prop}{n m:Nat}{H':zO}{fix:Nat→Prop}{K:AV→zO→Prop}(hr:Rep c w a σ S n fr H)(hall: ∀h,h<H.length→h≠m→fix h)(hcm: ¬c.fix m)(hhr:HR w' S' σ' H'){hp:zFZ w S σ H}(hlen:H.length≤H'.length)(hkp:Kp (zEq w S σ H fix K hp) w' S' σ' H'):
 Rep c w' a σ' S' n (zCQ m fr) H':=by
 have hne: ∀h,h≠m→ ∀B,σ h=some B→σ' h=some B:=by
  intro h hm B hB
  have hlt:h<H.length:=by
   rcases Nat.lt_or_ge h H.length with hl|hl
   ·exact hl
   ·rw [hr.hr.dom h hl] at hB;cases hB
  rw [hkp.fixed h (hall h hlt hm)];exact hB
 have hSO: ∀b,S b→ ¬zGP σ H b:=by
  rintro b hs ⟨h,o,s,C,h1,h2⟩
  exact (hr.obj h1 h2).2.choose_spec.2.2.2.2.1 hs
 have hS: ∀b,S b→w'.heap[b]? =w.heap[b]? :=fun b hs=>hkp.block b (hr.hr.small b hs) (hSO b hs)
 refine ⟨hhr,?_,hr.defers,hr.size,fun t v hl=> ?_⟩
 ·refine ⟨hkp.os.trans hr.kp.os,hkp.output.trans hr.kp.output,hkp.tape.trans hr.kp.tape,Nat.le_trans hr.kp.size hkp.size,fun b hb ho=> ?_,fun b hb=>hkp.S1 b (hr.kp.S1 b hb),fun b hb=> ?_,fun h hf=> ?_,fun h hf=>Nat.lt_of_lt_of_le (hr.kp.fixlt h hf) hlen,fun h o b s C h1 h2=> ?_⟩
  ·rw [←hr.kp.block b hb ho]
   have hs1:=hr.kp.size
   refine hkp.block b (by simp only [zEq];omega) ?_
   rintro ⟨h,o,s,C,h1,h2⟩
   rcases hr.kp.own h o b s C h1 h2 with h3|h3
   ·exact ho h3
   ·omega
  ·rcases hkp.S2 b hb with h1|h1|h1
   ·exact hr.kp.S2 b h1
   ·obtain ⟨h,o,s,C,g1,g2⟩:=h1
    rcases hr.kp.own h o b s C g1 g2 with g3|g3
    ·exact .inr (.inl g3)
    ·exact .inr (.inr g3)
   ·right;right;have:=hr.kp.size;simp only [zEq] at h1;omega
  ·have hm:h≠m:=fun e=>hcm (e▸hf)
   rw [hkp.fixed h (hall h (hr.kp.fixlt h hf) hm)]
   exact hr.kp.fixed h hf
  ·rcases hkp.own h o b s C h1 h2 with ⟨h',o',s',C',g1,g2⟩|h3
   ·exact hr.kp.own h' o' b s' C' g1 g2
   ·right;have:=hr.kp.size;simp only [zEq] at h3;omega
 ·rw [zED] at hl
  cases hq:look t fr with
  |none=>simp [hq] at hl
  |some v0=>
   simp [hq] at hl
   subst hl
   obtain ⟨s1,s2⟩:=hr.slots t v0 hq
   refine ⟨s1,?_⟩
   have s3:=s2.forget (h:=m) (fun h=>if h=m then σ' m else σ h) (fun h' hh=>by simp [hh])
   exact s3.mono hkp.S1 hS _ (fun h B hB=>by
    by_cases hh:h=m
    ·subst hh;simpa using hB
    ·simp only [hh,if_false] at hB;exact hne h hh B hB)
theorem zN6 {all:Array Oper}{d:Option Nat}{g:Operand}{args:List Operand}{ats:Array TypeId}{ty:TypeId}{pos:String}{after:Array Edge}{rest:List Oper}{f:FuncId}{caps ags ags':List AV}{fix:Nat→Prop}{K:AV→zO→Prop}(m:Nat)(hg:ev fr g=some (.fn f caps))(ha:evs fr args=some ags)(has:ags++caps=ags')(hcall:zU P f ags' H fix K)(hall: ∀h,h<H.length→h≠m→fix h)(hfl: ∀h,fix h→h<H.length)(hcm: ¬c.fix m)(hk: ∀r H',K r H'→H.length≤H'.length∧Ax P fn c (.ops false all rest k) (match d with|some d=>(d,r)::zCQ m fr|none=>zCQ m fr) H'):Ax P fn c (.ops false all (⟨d,.call {callee:= .value g,args:=args.toArray,argTypes:=ats},ty,pos,after,none⟩::rest) k) fr H:=by
 intro hd w a σ S hr
 obtain ⟨hd1,hd2⟩:=zCd hd
 obtain ⟨⟨gfn,hgf,hgn,hgb⟩,hc⟩:=hcall
 subst has
 have h1:=hr.evAt hg
 obtain ⟨e1,e2⟩:=zHc hr args ags ha
 generalize hz:a.eval g=z at h1
 refine wpList_step (fun K' hK'=> ?_)
 simp only [Region.wanted,if_true]
 unfold Oper.wp
 cases h1 with
 |fn _ _ _ vs hl hv=>
  have hrun:(execOp a.eval ⟨d,.call {callee:= .value g,args:=args.toArray,argTypes:=ats},ty,pos,after,none⟩).run P w= .ok (.enter f ((args.map a.eval).toArray++vs)) w:=by
   simp only [execOp,resolve,hz,Deferred.ofValue,Sem.run_bind,Sem.run_pure,Result.andThen_ok,invoke,callFunc,List.map_toArray,Array.empty_append,program,Sem.run,hgf]
   simp [hgn,hgb]
  rw [hrun]
  have hargs:VRs w S σ (ags++caps) ((args.map a.eval).toArray++vs):=by
   refine ⟨by simp [e1,hl],fun i hi=> ?_⟩
   simp only [List.length_append] at hi
   by_cases hlt:i<ags.length
   ·have:=e2 i hlt
    have hlt':i<args.length:=kK
    have ea:(ags++caps).getD i .any=ags.getD i .any:=by simp [List.getD,List.getElem?_append,hlt]
    have eb:((args.map a.eval).toArray++vs).getD i undef=(args.map a.eval).getD i undef:=by simp [Array.getElem?_append,hlt',List.getD]
    rw [ea,eb];exact this
   ·have:=hv (i-ags.length) kK
    have hnl: ¬i<args.length:=kK
    have ea:(ags++caps).getD i .any=caps.getD (i-ags.length) .any:=by simp [List.getD,List.getElem?_append,hlt]
    have eb:((args.map a.eval).toArray++vs).getD i undef=vs.getD (i-ags.length) undef:=by simp [Array.getElem?_append,e1,hlt]
    rw [ea,eb];exact this
  refine Calls.mono (hc w σ S _ hr.pinUp hr.hr hfl hargs) ?_
  rintro e w' ⟨v,r,σ',S',H',rfl,g1,g2,g3,g4⟩
  obtain ⟨hlen,hk2⟩:=hk r H' g4
  have hrep:=hr.calledM hall hcm g1 hlen g3
  refine hK' _ _ ?_
  cases d with
  |none=>exact hk2 hd2 w' _ σ' S' hrep
  |some d=>exact hk2 hd2 w' _ σ' S' (hrep.put g2 (hd1 d rfl))
end
end Go.Ax
namespace Go.Ax
variable [Pins]
open Go.RowKit
section
variable {ind:Bool}{P:Program}{fn:Func}{c:Ctx}{fr:Fr}{H:zO}{k:List It}{d:Option Nat}{ty:TypeId}{pos:String}{after:Array Edge}{g:Option (Nat×Bool)}
end
end Go.Ax
namespace Go.Ax
variable [Pins]
open Go.RowKit
section
variable {P:Program}{fn:Func}{c:Ctx}{fr:Fr}{H:zO}{k:List It}
theorem give_sub {h:Nat}{o:AObj}(hh:H[h]? =some (some o)):subH (List.replicate h none++[some o]) H:=by
 have _p:= ‹Pins›
 intro h' o' ho
 rcases Nat.lt_trichotomy h' h with q|q|q
 ·rw [List.getElem?_append_left (by simpa using q)] at ho
  simp [List.getElem?_replicate,q] at ho
 ·subst q
  rw [List.getElem?_append_right kJ] at ho
  simp at ho;subst ho;exact hh
 ·rw [List.getElem?_eq_none (by simp;omega)] at ho;cases ho
theorem zSG {h:Nat}{o:AObj}(hrl:zAY o.c): ∀(h':Nat) (o':AObj),(List.replicate h none++[some o]:zO)[h']? =some (some o')→zAY o'.c:=by
 have _p:= ‹Pins›
 intro h' o' ho
 have hm:=List.mem_of_getElem? ho
 rcases List.mem_append.1 hm with q|q
 ·have:=(List.mem_replicate.1 q).2;cases this
 ·simp at q;subst q;exact hrl
theorem zQ8 {h:Nat}{o:AObj}:(List.replicate h none++[some o]:zO)[h]? =some (some o):=by
 have _p:= ‹Pins›
 rw [List.getElem?_append_right kJ];simp
theorem Rep.give {w:World}{a:Act}{σ:Nat→Option Blk}{S:Nat→Prop}{N:Nat}(hr:Rep c w a σ S N fr H)(h t n:Nat){o:AObj}(L:Fr)(hh:H[h]? =some (some o))(hrl:zAY o.c)(hl:look t fr=some (.sl h 0 n))(hn:n≤o.c.len)(hL:zCY fr L):
 ∃S',Rep c w a σ S' N ((t,.ro o.c 0 n)::L) (H.set h none):=by
 have hlt:h<H.length:=(List.getElem?_eq_some_iff.1 hh).1
 refine hr.freeze (List.replicate h none++[some o]) (H.set h none) (give_sub hh) (zSG hrl) kJ ?_ ⟨⟨_,hl,.inr (.inr ⟨?_,?_⟩)⟩,zOT hL⟩
 ·intro h' o' ho
  have hne:h'≠h:=by
   rintro rfl
   rw [List.getElem?_set_self hlt] at ho;cases ho
  rw [List.getElem?_set_ne (Ne.symm hne)] at ho
  refine ⟨fun o2 h2=> ?_,o',ho,Z,Z,Z,fun i j _ _=> .inl Z⟩
  rcases Nat.lt_or_ge h' h with q|q
  ·rw [List.getElem?_append_left (by simpa using q)] at h2
   simp [List.getElem?_replicate,q] at h2
  ·rw [List.getElem?_eq_none (by simp;omega)] at h2;cases h2
 ·simp only [AV.frz,zQ8]
 ·intro o2 h2
  rw [zQ8] at h2
  cases h2
  omega
theorem zDg {all:Array Oper}{rest:List Oper}(h t n:Nat){o:AObj}(L:Fr)(hh:H[h]? =some (some o))(hrl:zAY o.c)(hl:look t fr=some (.sl h 0 n))(hn:n≤o.c.len)(hL:zCY fr L)(hk:Ax P fn c (.ops false all rest k) ((t,.ro o.c 0 n)::L) (H.set h none)):Ax P fn c (.ops false all rest k) fr H:=by
 intro hd w a σ S hr
 obtain ⟨S',hr'⟩:=hr.give h t n L hh hrl hl hn hL
 exact hk hd w a σ S' hr'
theorem zAC {x:Code}(h t n:Nat){o:AObj}(L:Fr)(hh:H[h]? =some (some o))(hrl:zAY o.c)(hl:look t fr=some (.sl h 0 n))(hn:n≤o.c.len)(hL:zCY fr L)(hk:Ax P fn c (.code x k) ((t,.ro o.c 0 n)::L) (H.set h none)):Ax P fn c (.code x k) fr H:=by
 intro w a σ S hr
 obtain ⟨S',hr'⟩:=hr.give h t n L hh hrl hl hn hL
 exact hk w a σ S' hr'
theorem zQ {q:Bool}{all:Array Oper}{rest:List Oper}(H':zO)(he:H=H')(hk:Ax P fn c (.ops q all rest k) fr H'):Ax P fn c (.ops q all rest k) fr H:=by
 subst he;exact hk
variable {ind:Bool}{d:Option Nat}{ty:TypeId}{pos:String}{after:Array Edge}{g:Option (Nat×Bool)}
theorem zGo {op:BinOp}{t:TypeId}{x y:Operand}{a b:Bool}{w:World}:(eqGuard op t x y (.bool a) (.bool b)).run P w= .ok () w:=by
 have _p:= ‹Pins›
 unfold eqGuard
 split<;>rfl
theorem zJ6 {x y:Operand}{t t':TypeId}{a b:Bool}(ht:P.underlying t=some .bool)(hx:ev fr x=some (.bool a))(hy:ev fr y=some (.bool b)):QOp ind P fn c fr H ⟨d,.binOp .neq t x y t',ty,pos,after,g⟩ (.bool (!(a==b))):=by
 intro w ac σ S hr
 refine ⟨_,.bool _ _,fun w' _=> ?_⟩
 have h1:=hr.evBool hx
 have h2:=hr.evBool hy
 have h3:=run_neq_bool (P:=P) w' t a b ht
 simp [execOp,h1,h2,zGo,h3]
 try (cases a<;>cases b<;>rfl)
theorem zLV {x y:Operand}{t t':TypeId}{a b:Bool}(ht:P.underlying t=some .bool)(hx:ev fr x=some (.bool a))(hy:ev fr y=some (.bool b)):QOp ind P fn c fr H ⟨d,.binOp .eql t x y t',ty,pos,after,g⟩ (.bool (a==b)):=by
 intro w ac σ S hr
 refine ⟨_,.bool _ _,fun w' _=> ?_⟩
 have h1:=hr.evBool hx
 have h2:=hr.evBool hy
 have h3:=run_eql_bool (P:=P) w' t a b ht
 simp [execOp,h1,h2,zGo,h3]
theorem zRO {x y:Operand}{t t':TypeId}{kk k':IntKind}{m s M:Nat}(hx:ev fr x=some (.int kk (m:Nat)))(hy:ev fr y=some (.int k' (s:Nat)))(hb:s≤kk.bits)(hk:UK kk M):
 QOp ind P fn c fr H ⟨d,.binOp .shl t x y t',ty,pos,after,g⟩ (.int kk (m*2^s%M:Nat)):=by
 refine (q_shl hx hy kK).res (congrArg (AV.int kk) ?_)
 unfold shlB
 rw [Int.toNat_natCast,Nat.min_eq_left hb]
 have:((m:Int)*2^s)=((m*2^s:Nat):Int):=kJ
 rw [this];exact hk.low _
end
end Go.Ax
namespace Go.Ax
variable [Pins]
open Go.RowKit
theorem zDY {fr:Fr}: ∀{K:Fr},(∀p∈K,look p.1 fr=some p.2)→zCY fr K
 |[],_=>have _p:= ‹Pins›;trivial
 |(t,v)::r,h=>⟨h (t,v) kJ,zDY (fun p hp=>h p (by simp [hp]))⟩
theorem zDZ {fr:Fr}: ∀{K:Fr},zCY fr K→ ∀p∈K,look p.1 fr=some p.2
 |[],_,p,hp=>have _p:= ‹Pins›;by simp at hp
 |(t,v)::r,h,p,hp=>by
  rcases List.mem_cons.1 hp with rfl|hp
  ·exact h.1
  ·exact zDZ h.2 p hp
theorem zJK {fr K:Fr}(h:zCY fr K){o:Operand}{v:AV}(he:ev K o=some v):ev fr o=some v:=by
 have _p:= ‹Pins›
 cases o with
 |tmp t=>exact zFh h he
 |const x=>exact he
 | «global» g=>cases he
 |func f=>exact he
theorem zJy {fr K:Fr}(h:zCY fr K): ∀{xs:List Operand} {l:List AV},evs K xs=some l→evs fr xs=some l
 |[],l,he=>have _p:= ‹Pins›;he
 |x::r,l,he=>by
  simp only [evs] at he⊢
  split at he
  ·rename_i v hv
   split at he
   ·rename_i q hq
    rw [zJK h hv,zJy h hq]
    exact he
   ·cases he
  ·cases he
section
variable {P:Program}{fn:Func}{c:Ctx}{fr:Fr}{H:zO}{k:List It}
def zBV (P:Program)(fn:Func)(c:Ctx)(H:zO)(all:Array Oper)(K:Fr)(o:Oper)(d:Nat)(v:AV):Prop:=
 ∀(k:List It) (fr:Fr),zCY fr K→Ax P fn c (.ops false all [] k) ((d,v)::fr) H→Ax P fn c (.ops false all [o] k) fr H
theorem pure_q {all:Array Oper}{K:Fr}{d:Nat}{op:Op}{ty:TypeId}{pos:String}{after:Array Edge}{v:AV}(h:QOp false P fn c K H ⟨some d,op,ty,pos,after,none⟩ v):zBV P fn c H all K ⟨some d,op,ty,pos,after,none⟩ d v:=
 fun k fr hk h2=>zL (fun w a σ S hr=>h w a σ S (hr.weaken hk)) h2
theorem pure_v {all:Array Oper}{K:Fr}{d:Nat}{g:Operand}{args:List Operand}{ats:Array TypeId}{ty:TypeId}{pos:String}{after:Array Edge}{f:FuncId}{caps ags ags':List AV}{r:AV}(hg:ev K g=some (.fn f caps))(ha:evs K args=some ags)(has:ags++caps=ags')(hcall:zX P f ags' r):
 zBV P fn c H all K ⟨some d,.call {callee:= .value g,args:=args.toArray,argTypes:=ats},ty,pos,after,none⟩ d r:=
 fun k fr hk h2=>zA (zJK hk hg) (zJy hk ha) has hcall h2
theorem zJ5 {all:Array Oper}{K:Fr}{d:Nat}{op:Op}{ty:TypeId}{pos:String}{after:Array Edge}{v:AV}{j t:Nat}{p:Bool}(hy:zFC all j=some t)(hb:look t K=some (.bool p))(h:zBV P fn c H all K ⟨some d,op,ty,pos,after,none⟩ d v):zBV P fn c H all K ⟨some d,op,ty,pos,after,some (j,p)⟩ d v:=
 fun k fr hk h2=>zBX hy (zFh hk hb) (h k fr hk h2)
theorem pure_gno {all:Array Oper}{K:Fr}{d:Nat}{op:Op}{ty:TypeId}{pos:String}{after:Array Edge}{j t:Nat}{p b:Bool}(hy:zFC all j=some t)(hb:look t K=some (.bool b))(hne:(b==p)=false):zBV P fn c H all K ⟨some d,op,ty,pos,after,some (j,p)⟩ d (.tup []):=
 fun k fr hk h2=>zCj hy (zFh hk hb) hne h2
theorem zSe {all:Array Oper}{K:Fr}{d:Nat}{op:Op}{ty:TypeId}{pos:String}{after:Array Edge}{j t:Nat}{p:Bool}(hy:zFC all j=some t)(hb:look t K=some (.tup [])):zBV P fn c H all K ⟨some d,op,ty,pos,after,some (j,p)⟩ d (.tup []):=
 fun k fr hk h2=>zF9 hy (zFh hk hb) h2
abbrev Steps:=List (Nat×Nat×AV)
def zGf (st:Steps)(K0:Fr)(o:Oper):Fr:=((st.filter (fun s=>o.after.toList.any (fun e=>Nat.beq e.on s.1 && Region.binds .any e))).map (fun s=>s.2))++K0
def zEi (P:Program)(fn:Func)(c:Ctx)(H:zO)(all:Array Oper)(K0:Fr):List Nat→Steps→(Steps→Prop)→Prop
 |[],st,G=>G st
 |i::r,st,G=> ∃o d v,all[i]? =some o∧o.dst=some d∧zBV P fn c H all (zGf st K0 o) o d v∧zEi P fn c H all K0 r ((i,d,v)::st) G
theorem zKm {all:Array Oper}{K0:Fr}{i:Nat}{r:List Nat}{st:Steps}{G:Steps→Prop}{d:Nat}{op:Op}{ty:TypeId}{pos:String}{after:Array Edge}{v:AV}(hi:all[i]? =some ⟨some d,op,ty,pos,after,none⟩)(hop:zBV P fn c H all (zGf st K0 ⟨some d,op,ty,pos,after,none⟩) ⟨some d,op,ty,pos,after,none⟩ d v)(h:zEi P fn c H all K0 r ((i,d,v)::st) G):zEi P fn c H all K0 (i::r) st G:=
 ⟨_,_,_,hi,rfl,hop,h⟩
theorem zK {all:Array Oper}{K0:Fr}{i:Nat}{r:List Nat}{st:Steps}{G:Steps→Prop}{d:Nat}{op:Op}{ty:TypeId}{pos:String}{after:Array Edge}{v:AV}{K:Fr}(hi:all[i]? =some ⟨some d,op,ty,pos,after,none⟩)(hK:zGf st K0 ⟨some d,op,ty,pos,after,none⟩=K)(hop:QOp false P fn c K H ⟨some d,op,ty,pos,after,none⟩ v)(h:zEi P fn c H all K0 r ((i,d,v)::st) G):zEi P fn c H all K0 (i::r) st G:=
 zKm hi (hK▸pure_q hop) h
theorem zAy {all:Array Oper}{K0:Fr}{i:Nat}{r:List Nat}{st:Steps}{G:Steps→Prop}{d:Nat}{g:Operand}{args:List Operand}{ats:Array TypeId}{ty:TypeId}{pos:String}{after:Array Edge}{f:FuncId}{caps ags ags':List AV}{v:AV}{K:Fr}(hi:all[i]? =some ⟨some d,.call {callee:= .value g,args:=args.toArray,argTypes:=ats},ty,pos,after,none⟩)(hK:zGf st K0 ⟨some d,.call {callee:= .value g,args:=args.toArray,argTypes:=ats},ty,pos,after,none⟩=K)(hg:ev K g=some (.fn f caps))(ha:evs K args=some ags)(has:ags++caps=ags')(hcall:zX P f ags' v)(h:zEi P fn c H all K0 r ((i,d,v)::st) G):zEi P fn c H all K0 (i::r) st G:=
 zKm hi (hK▸pure_v hg ha has hcall) h
theorem zAH {all:Array Oper}{K0:Fr}{i:Nat}{r:List Nat}{st:Steps}{G:Steps→Prop}{d:Nat}{op:Op}{ty:TypeId}{pos:String}{after:Array Edge}{v:AV}{K:Fr}{j t:Nat}{p:Bool}(hi:all[i]? =some ⟨some d,op,ty,pos,after,some (j,p)⟩)(hK:zGf st K0 ⟨some d,op,ty,pos,after,some (j,p)⟩=K)(hy:zFC all j=some t)(hb:look t K=some (.bool p))(hop:QOp false P fn c K H ⟨some d,op,ty,pos,after,none⟩ v)(h:zEi P fn c H all K0 r ((i,d,v)::st) G):zEi P fn c H all K0 (i::r) st G:=
 ⟨_,_,_,hi,rfl,hK▸zJ5 hy hb (pure_q hop),h⟩
theorem zAO {all:Array Oper}{K0:Fr}{i:Nat}{r:List Nat}{st:Steps}{G:Steps→Prop}{d:Nat}{op:Op}{ty:TypeId}{pos:String}{after:Array Edge}{K:Fr}{j t:Nat}{p b:Bool}(hi:all[i]? =some ⟨some d,op,ty,pos,after,some (j,p)⟩)(hK:zGf st K0 ⟨some d,op,ty,pos,after,some (j,p)⟩=K)(hy:zFC all j=some t)(hb:look t K=some (.bool b))(hne:(b==p)=false)(h:zEi P fn c H all K0 r ((i,d,.tup [])::st) G):zEi P fn c H all K0 (i::r) st G:=
 ⟨_,_,_,hi,rfl,hK▸pure_gno hy hb hne,h⟩
theorem zCs {all:Array Oper}{K0:Fr}{i:Nat}{r:List Nat}{st:Steps}{G:Steps→Prop}{d:Nat}{op:Op}{ty:TypeId}{pos:String}{after:Array Edge}{K:Fr}{j t:Nat}{p:Bool}(hi:all[i]? =some ⟨some d,op,ty,pos,after,some (j,p)⟩)(hK:zGf st K0 ⟨some d,op,ty,pos,after,some (j,p)⟩=K)(hy:zFC all j=some t)(hb:look t K=some (.tup []))(h:zEi P fn c H all K0 r ((i,d,.tup [])::st) G):zEi P fn c H all K0 (i::r) st G:=
 ⟨_,_,_,hi,rfl,hK▸zSe hy hb,h⟩
theorem zz {all:Array Oper}{K0:Fr}{st:Steps}{G:Steps→Prop}(h:G st):zEi P fn c H all K0 [] st G:=h
def zJp (P:Program)(fn:Func)(c:Ctx)(H:zO)(all:Array Oper)(K0:Fr)(st:Steps)(s:Nat×Nat×AV):Prop:=
 ∃o K,all[s.1]? =some o∧o.dst=some s.2.1∧zBV P fn c H all K o s.2.1 s.2.2∧ ∀p∈K,p∈K0∨ ∃s'∈st,(∃e∈o.after,Region.binds .any e=true∧e.on=s'.1)∧s'.2=p
theorem zJp.mono {all:Array Oper}{K0:Fr}{st st':Steps}{s:Nat×Nat×AV}(hs: ∀x∈st,x∈st')(h:zJp P fn c H all K0 st s):zJp P fn c H all K0 st' s:=by
 obtain ⟨o,K,h1,h2,h3,h4⟩:=h
 refine ⟨o,K,h1,h2,h3,fun p hp=> ?_⟩
 rcases h4 p hp with q|⟨s',q1,q2⟩
 ·exact .inl q
 ·exact .inr ⟨s',hs _ q1,q2⟩
theorem zG8 {all:Array Oper}{K0:Fr}{G:Steps→Prop}: ∀{idx:List Nat} {st:Steps},zEi P fn c H all K0 idx st G→(∀s∈st,zJp P fn c H all K0 st s)→ ∃st',G st'∧st'.map (·.1)=idx.reverse++st.map (·.1)∧(∀s∈st',zJp P fn c H all K0 st' s)
 |[],st,h,hs=>⟨st,h,kJ,hs⟩
 |i::r,st,h,hs=>by
  obtain ⟨o,d,v,h1,h2,h3,h4⟩:=h
  have hsub: ∀x∈st,x∈(i,d,v)::st:=fun x hx=>List.mem_cons_of_mem _ hx
  have hstep:zJp P fn c H all K0 ((i,d,v)::st) (i,d,v):=by
   refine ⟨o,zGf st K0 o,h1,h2,h3,fun p hp=> ?_⟩
   unfold zGf at hp
   rcases List.mem_append.1 hp with q|q
   ·obtain ⟨s,q1,q2⟩:=List.mem_map.1 q
    obtain ⟨q3,q4⟩:=List.mem_filter.1 q1
    obtain ⟨e,q5,q6⟩:=List.any_eq_true.1 q4
    rw [Bool.and_eq_true] at q6
    exact .inr ⟨s,hsub _ q3,⟨e,Array.mem_toList_iff.1 q5,q6.2,Nat.eq_of_beq_eq_true q6.1⟩,q2⟩
   ·exact .inl q
  obtain ⟨st',g1,g2,g3⟩:=zG8 h4 (fun s hs'=>by
   rcases List.mem_cons.1 hs' with rfl|q
   ·exact hstep
   ·exact (hs s q).mono hsub)
  exact ⟨st',g1,by rw [g2];simp,g3⟩
theorem zKa {all:Array Oper}{fuel:Nat}{listed:Array Bool}: ∀{is:List Nat},(∀i∈is,∀o,all[i]? =some o→Ax P fn c (.ops false all [o] (.any all fuel (listed.setIfInBounds i true)::k)) fr H)→AllR P fn c all fuel listed k fr H is
 |[],_=>trivial
 |i::r,h=>⟨h i kJ,zKa (fun j hj=>h j (by simp [hj]))⟩
def okRun (all:Array Oper)(listed:Array Bool)(idx:List Nat)(k0:List Nat):Bool:=
 (idx.all fun i=> !listed.getD i true && (match all[i]? with
  |some o=>(match o.dst with|some d=> !k0.contains d|none=>false) && o.after.toList.all (fun e=> !Region.binds .any e||(Nat.blt e.on i && (idx.contains e.on||listed.getD e.on false)))
  |none=>false)) &&
 ((List.range all.size).all fun j=>idx.contains j||listed.getD j true||(match all[j]? with
   |some o=>idx.all (fun i=>o.after.toList.any (fun e=>Nat.beq e.on i && Region.binds .any e))
   |none=>true)) &&
 (idx.all fun i=>idx.all fun j=>Nat.beq i j|| !(match all[i]?,all[j]? with|some o,some o'=>o.dst==o'.dst|_,_=>false))
def zHC (listed:Array Bool)(idx:List Nat):Array Bool:=idx.foldl (fun a i=>a.setIfInBounds i true) listed
theorem zF5: ∀(idx:List Nat) (listed:Array Bool),(zHC listed idx).size=listed.size
 |[],_=>have _p:= ‹Pins›;rfl
 |i::r,listed=>by
  have:=zF5 r (listed.setIfInBounds i true)
  simpa [zHC] using this
theorem zHD: ∀(idx:List Nat) (listed:Array Bool) (j:Nat),j<listed.size→(zHC listed idx)[j]? =if j∈idx then some true else listed[j]?
 |[],_,j,_=>have _p:= ‹Pins›;by simp [zHC]
 |i::r,listed,j,hj=>by
  have h:=zHD r (listed.setIfInBounds i true) j (by simpa using hj)
  have e:zHC listed (i::r)=zHC (listed.setIfInBounds i true) r:=rfl
  rw [e,h]
  by_cases h1:j∈r
  ·simp [h1]
  ·by_cases h2:i=j
   ·subst h2;simp [h1,hj]
   ·have h3: ¬j=i:=fun e=>h2 e.symm
    simp [h1,h2,h3,Array.getElem?_setIfInBounds]
def unl (cur:Array Bool)(st:Steps):Nat:=(st.filter (fun s=> !cur.getD s.1 true)).length
theorem zj {all:Array Oper}{fuel:Nat}{listed listed':Array Bool}(idx:List Nat)(K0:Fr)(hK:zCY fr K0)(hok:okRun all listed idx (K0.map (·.1))=true)(hnd:idx.Nodup)(hd:zDm fn.ntmps all.toList=true)(hl:zHC listed idx=listed')(h:zEi P fn c H all K0 idx [] (fun st=>Ax P fn c (.any all fuel listed' k) (st.map (·.2)++K0) H)):Ax P fn c (.any all (fuel+idx.length) listed k) fr H:=by
 obtain ⟨st,hG,hidx,hst⟩:=zG8 h (fun s hs=>by simp at hs)
 rw [List.map_nil,List.append_nil] at hidx
 clear h
 unfold okRun at hok
 simp only [Bool.and_eq_true] at hok
 obtain ⟨⟨ok1,ok2⟩,ok3⟩:=hok
 rw [List.all_eq_true] at ok1 ok2 ok3
 have hmem: ∀i,i∈idx↔ ∃s∈st,s.1=i:=fun i=>by
  have:i∈idx.reverse↔ ∃s∈st,s.1=i:=by rw [←hidx];simp
  rw [←this,List.mem_reverse]
 have hlen:st.length=idx.length:=by
  have:=congrArg List.length hidx
  simpa using this
 have hnd':(st.map (·.1)).Nodup:=by rw [hidx];exact (List.reverse_perm idx).nodup_iff.2 hnd
 have hlt: ∀i∈idx,i<listed.size:=fun i hi=>by
  have:=ok1 i hi
  simp only [Bool.and_eq_true,Bool.not_eq_true'] at this
  rcases Nat.lt_or_ge i listed.size with q|q
  ·exact q
  ·have h1:=this.1
   simp only [Array.getD,show¬i<listed.size by omega,dite_false] at h1
   cases h1
 --the induction
 have key: ∀(m:Nat) (cur:Array Bool) (fr:Fr),cur.size=listed.size→(∀j,j∉idx→cur[j]? =listed[j]?)→unl cur st=m→(∀s∈st,cur.getD s.1 true=true→look s.2.1 fr=some s.2.2)→zCY fr K0→Ax P fn c (.any all (fuel+m) cur k) fr H:=by
  intro m
  induction m with
  |zero=>
   intro cur fr hcs hco hcm hck hk0
   have hall: ∀s∈st,cur.getD s.1 true=true:=fun s hs=>by
    cases hq:cur.getD s.1 true with
    |true=>rfl
    |false=>
     exfalso
     have h0:st.filter (fun s=> !cur.getD s.1 true)=[]:=List.length_eq_zero_iff.1 hcm
     have:s∈st.filter (fun s=> !cur.getD s.1 true):=List.mem_filter.2 ⟨hs,by rw [hq];rfl⟩
     rw [h0] at this;simp at this
   have hcur:cur=listed':=by
    rw [←hl]
    apply Array.ext_getElem?
    intro j
    rcases Nat.lt_or_ge j listed.size with q|q
    ·rw [zHD idx listed j q]
     by_cases hj:j∈idx
     ·rw [if_pos hj]
      obtain ⟨s,hs1,hs2⟩:=(hmem j).1 hj
      have:=hall s hs1
      rw [hs2] at this
      simp only [Array.getD,show j<cur.size by omega,dite_true] at this
      rw [Array.getElem?_eq_getElem kK]
      exact congrArg some this
     ·rw [if_neg hj];exact hco j hj
    ·rw [Array.getElem?_eq_none kK,Array.getElem?_eq_none (by rw [zF5];omega)]
   subst hcur
   intro w a σ S hr
   refine hG w a σ S (hr.weaken (zDY fun p hp=> ?_))
   rcases List.mem_append.1 hp with q|q
   ·obtain ⟨s,q1,q2⟩:=List.mem_map.1 q
    rw [←q2];exact hck s q1 (hall s q1)
   ·exact zDZ hk0 p q
  |succ m ih=>
   intro cur fr hcs hco hcm hck hk0
   --some step is left
   obtain ⟨s0,hs0,hs0u⟩: ∃s∈st,cur.getD s.1 true=false:=by
    rcases hq:st.filter (fun s=> !cur.getD s.1 true) with _|⟨s,r⟩
    ·unfold unl at hcm;rw [hq] at hcm;simp at hcm
    ·have:s∈st.filter (fun s=> !cur.getD s.1 true):=by rw [hq];simp
     obtain ⟨h1,h2⟩:=List.mem_filter.1 this
     exact ⟨s,h1,by simpa using h2⟩
   have hsub: ∀i∈Region.ready .any all cur,i∈idx∧cur.getD i true=false:=by
    intro i hi
    obtain ⟨h1,o,ho,hdeps⟩:=mem_ready.1 hi
    refine ⟨?_,h1⟩
    apply Classical.byContradiction
    intro hni
    have hjs:i<all.size:=(Array.getElem?_eq_some_iff.1 ho).1
    have:=ok2 i (List.mem_range.2 hjs)
    simp only [Bool.or_eq_true,ho] at this
    rcases this with (q|q)|q
    ·exact hni (by simpa using q)
    ·have hco':=hco i hni
     have h2:listed.getD i true=cur.getD i true:=by
      simp only [Array.getD_eq_getD_getElem?,hco']
     rw [h2,h1] at q;cases q
    ·rw [List.all_eq_true] at q
     have:=q s0.1 ((hmem s0.1).2 ⟨s0,hs0,rfl⟩)
     obtain ⟨e,he1,he2⟩:=List.any_eq_true.1 this
     rw [Bool.and_eq_true] at he2
     have h3:=hdeps e (Array.mem_toList_iff.1 he1) he2.2
     rw [Nat.eq_of_beq_eq_true he2.1] at h3
     have hsz:=hlt s0.1 ((hmem s0.1).2 ⟨s0,hs0,rfl⟩)
     simp only [Array.getD,show s0.1<cur.size by omega,dite_true] at h3 hs0u
     rw [h3] at hs0u;cases hs0u
   have hne:Region.ready .any all cur≠[]:=by
    intro h0
    --the least one that is left
    have hex: ∃i,i∈idx∧cur.getD i true=false:=⟨s0.1,(hmem s0.1).2 ⟨s0,hs0,rfl⟩,hs0u⟩
    have least: ∀n i,i≤n→i∈idx→cur.getD i true=false→False:=by
     intro n
     induction n with
     |zero=>
      intro i hi him hiu
      have h1:=ok1 i him
      simp only [Bool.and_eq_true] at h1
      cases hoo:all[i]? with
      |none=>rw [hoo] at h1;exact absurd h1.2 kJ
      |some o=>
       rw [hoo] at h1
       simp only [Bool.and_eq_true] at h1
       have h2:=List.all_eq_true.1 h1.2.2
       have:i∈Region.ready .any all cur:=mem_ready.2 ⟨hiu,o,hoo,fun e he hb=>by
        have:=h2 e (Array.mem_toList_iff.2 he)
        rw [hb] at this
        simp only [Bool.not_true,Bool.false_or,Bool.and_eq_true] at this
        have:=Nat.le_of_ble_eq_true this.1
        omega⟩
       rw [h0] at this;simp at this
     |succ n ihn=>
      intro i hi him hiu
      have h1:=ok1 i him
      simp only [Bool.and_eq_true] at h1
      cases hoo:all[i]? with
      |none=>rw [hoo] at h1;exact absurd h1.2 kJ
      |some o=>
       rw [hoo] at h1
       simp only [Bool.and_eq_true] at h1
       have h2:=List.all_eq_true.1 h1.2.2
       have:i∈Region.ready .any all cur:=mem_ready.2 ⟨hiu,o,hoo,fun e he hb=>by
        have h3:=h2 e (Array.mem_toList_iff.2 he)
        rw [hb] at h3
        simp only [Bool.not_true,Bool.false_or,Bool.and_eq_true,Bool.or_eq_true] at h3
        have hlt':e.on<i:=Nat.le_of_ble_eq_true h3.1
        by_cases hei:e.on∈idx
        ·cases hq:cur.getD e.on true with
         |false=>exact (ihn e.on kK hei hq).elim
         |true=>
          have hsz:=hlt e.on hei
          simp only [Array.getD,show e.on<cur.size by omega,dite_true] at hq⊢
          exact hq
        ·rcases h3.2 with q|q
         ·exact absurd (by simpa using q) hei
         ·have h2:cur.getD e.on false=listed.getD e.on false:=by simp only [Array.getD_eq_getD_getElem?,hco e.on hei]
          rw [h2];exact q⟩
       rw [h0] at this;simp at this
    obtain ⟨i,hi1,hi2⟩:=hex
    exact least i i (Nat.le_refl _) hi1 hi2
   refine zD Z hne hd (zKa (fun i hi o ho=> ?_))
   obtain ⟨him,hiu⟩:=hsub i hi
   obtain ⟨s,hs1,hs2⟩:=(hmem i).1 him
   obtain ⟨o',K,g1,g2,g3,g4⟩:=hst s hs1
   rw [hs2,ho] at g1
   obtain rfl:=Option.some.inj g1
   obtain ⟨_,o2,ho2,hdeps⟩:=mem_ready.1 hi
   rw [ho] at ho2
   obtain rfl:=Option.some.inj ho2
   refine g3 _ fr (zDY fun p hp=> ?_) (zV (zAU ?_))
   ·rcases g4 p hp with q|⟨s',q1,⟨e,q2,q3,q4⟩,q5⟩
    ·exact zDZ hk0 p q
    ·have h1:=hdeps e q2 q3
     rw [q4] at h1
     rw [←q5]
     refine hck s' q1 ?_
     have hsz:=hlt s'.1 ((hmem s'.1).2 ⟨s',q1,rfl⟩)
     simp only [Array.getD,show s'.1<cur.size by omega,dite_true] at h1⊢
     exact h1
   ·have hisz:=hlt i him
    refine ih (cur.setIfInBounds i true) _ (by simpa using hcs) (fun j hj=> ?_) ?_ (fun s' hs' hu=> ?_) ?_
    ·rw [Array.getElem?_setIfInBounds_ne (show i≠j from fun e=>hj (e▸him))];exact hco j hj
    ·--one less
     have hf:st.filter (fun s'=> !(cur.setIfInBounds i true).getD s'.1 true)=(st.filter (fun s'=> !cur.getD s'.1 true)).filter (fun s'=>decide (s'.1≠i)):=by
      rw [List.filter_filter]
      congr 1
      funext s'
      by_cases hq:s'.1=i
      ·rw [hq];simp [Array.getD,show i<cur.size by omega]
      ·have hq': ¬i=s'.1:=fun e=>hq e.symm
       simp [Array.getD_eq_getD_getElem?,Array.getElem?_setIfInBounds,hq,hq']
     unfold unl at hcm⊢
     rw [hf]
     have hmemf:s∈st.filter (fun s'=> !cur.getD s'.1 true):=List.mem_filter.2 ⟨hs1,by rw [hs2,hiu];rfl⟩
     have hndf:((st.filter (fun s'=> !cur.getD s'.1 true)).map (·.1)).Nodup:=List.Nodup.sublist (List.Sublist.map _ List.filter_sublist) hnd'
     revert hcm hmemf hndf
     generalize st.filter (fun s'=> !cur.getD s'.1 true)=L
     intro hcm hmemf hndf
     have gen: ∀(L:Steps) (n:Nat),L.length=n+1→s∈L→(L.map (·.1)).Nodup→(L.filter (fun s'=>decide (s'.1≠i))).length=n:=by
      intro L
      induction L with
      |nil=>intro n h;simp at h
      |cons x r ihL=>
       intro n hn hm hnd
       simp only [List.map_cons,List.nodup_cons] at hnd
       rcases List.mem_cons.1 hm with rfl|hm
       ·have hno: ∀y∈r,y.1≠i:=fun y hy e=>hnd.1 (List.mem_map.2 ⟨y,hy,by rw [e,hs2]⟩)
        have:(r.filter (fun s'=>decide (s'.1≠i)))=r:=List.filter_eq_self.2 (fun y hy=>by simpa using hno y hy)
        rw [List.filter_cons_of_neg (by simp [hs2]),this]
        simpa using hn
       ·have hx:x.1≠i:=fun e=>hnd.1 (List.mem_map.2 ⟨s,hm,by rw [hs2,e]⟩)
        have hr0:0<r.length:=List.length_pos_iff.2 (by rintro rfl;simp at hm)
        obtain ⟨n',rfl⟩: ∃n',n=n'+1:=⟨n-1,by simp at hn;omega⟩
        rw [List.filter_cons_of_pos (by simpa using hx),List.length_cons,ihL n' (by simpa using hn) hm hnd.2]
     exact gen L m hcm hmemf hndf
    ·by_cases hq:s'.1=i
     ·have:s'=s:=by
       have h1:s∈st:=hs1
       have hinj: ∀(L:Steps),(L.map (·.1)).Nodup→ ∀x∈L,∀y∈L,x.1=y.1→x=y:=by
        intro L
        induction L with
        |nil=>intro _ x hx;simp at hx
        |cons z r ihL=>
         intro hnd x hx y hy hxy
         simp only [List.map_cons,List.nodup_cons] at hnd
         rcases List.mem_cons.1 hx with hx|hx<;>rcases List.mem_cons.1 hy with hy|hy
         ·rw [hx,hy]
         ·exact absurd (List.mem_map.2 ⟨y,hy,by rw [←hxy,hx]⟩) hnd.1
         ·exact absurd (List.mem_map.2 ⟨x,hx,by rw [hxy,hy]⟩) hnd.1
         ·exact ihL hnd.2 x hx y hy hxy
       exact hinj st hnd' s' hs' s hs1 (by rw [hq,hs2])
      rw [this]
      exact zNa _ _ _
     ·have h1:cur.getD s'.1 true=true:=by
       have hq': ¬i=s'.1:=fun e=>hq e.symm
       simpa [Array.getD_eq_getD_getElem?,Array.getElem?_setIfInBounds,hq'] using hu
      have h2:=hck s' hs' h1
      --another slot
      have hne2:s'.2.1≠s.2.1:=by
       intro e
       obtain ⟨o3,_,f1,f2,_,_⟩:=hst s' hs'
       have h3:=List.all_eq_true.1 (ok3 s'.1 ((hmem s'.1).2 ⟨s',hs',rfl⟩)) i him
       rw [f1,ho] at h3
       simp only [Bool.or_eq_true,Bool.not_eq_true',f2,g2] at h3
       rcases h3 with h3|h3
       ·exact hq (Nat.eq_of_beq_eq_true h3)
       ·rw [e] at h3;simp at h3
      show (bif Nat.beq s'.2.1 s.2.1 then some s.2.2 else look s'.2.1 fr)=_
      rw [z7 hne2];exact h2
    ·refine zDY fun p hp=> ?_
     have h1:=ok1 i him
     simp only [Bool.and_eq_true] at h1
     rw [ho] at h1
     simp only [g2,Bool.and_eq_true,Bool.not_eq_true'] at h1
     have hne3:p.1≠s.2.1:=by
      intro e
      have:(K0.map (·.1)).contains s.2.1=true:=by
       rw [List.contains_iff_mem]
       exact List.mem_map.2 ⟨p,hp,e⟩
      rw [h1.2.1] at this;cases this
     show (bif Nat.beq p.1 s.2.1 then some s.2.2 else look p.1 fr)=_
     rw [z7 hne3];exact zDZ hk0 p hp
 have hm0:unl listed st=idx.length:=by
  unfold unl
  rw [List.filter_eq_self.2 (fun s hs=> ?_),hlen]
  have:=ok1 s.1 ((hmem s.1).2 ⟨s,hs,rfl⟩)
  simp only [Bool.and_eq_true] at this
  exact this.1
 have:=key idx.length listed fr rfl (fun _ _=>rfl) hm0 (fun s hs hu=>by
  have h1:=ok1 s.1 ((hmem s.1).2 ⟨s,hs,rfl⟩)
  simp only [Bool.and_eq_true,Bool.not_eq_true'] at h1
  rw [h1.1] at hu;cases hu) hK
 exact this
variable {ind:Bool}{d:Option Nat}{ty:TypeId}{pos:String}{after:Array Edge}{g:Option (Nat×Bool)}
theorem zEH {x:Operand}{t:TypeId}{u:TypeDesc}{h i j:Nat}{ob:AObj}{inf:TypeInfo}{L:List AV}(ht:P.underlying t=some u)(hu:zBn u=true)(hinf:P.info? t=some inf)(hsz:Nat.ble (j+inf.size) ob.c.sz=true)(hx:ev fr x=some (.ptr h i j))(hh:H[h]? =some (some ob))(hL:(List.range inf.size).map (fun e=>ob.c.at i (j+e))=L)(hi:i<ob.c.len):QOp false P fn c fr H ⟨d,.load t x,ty,pos,after,g⟩ (.agg L):=by
 intro w a σ S hr
 have h1:=hr.evAt hx
 subst hL
 have hsz':=Nat.le_of_ble_eq_true hsz
 generalize hz:a.eval x=z at h1
 cases h1 with
 |ptr _ _ _ _ b s C hσ=>
  obtain ⟨hs',cur,g1,g2,g3,g4,g5,g6⟩:=hr.obj hh hσ
  subst hs'
  have hcell: ∀w':World,w'.heap=w.heap→ ∀e,e<inf.size→ ∃y,w'.cell? ⟨b,i*ob.c.sz+j+e,none⟩=some y∧VR w S σ (ob.c.at i (j+e)) y∧y.oneCell'=true:=by
   intro w' hw e he
   obtain ⟨y,e1,e2,e3⟩:=g6 i (j+e) hi kK
   obtain ⟨mk,g1,_,_⟩:=g1.cells kK
   exact ⟨y,by simp [World.cell?,hw,g1,Nat.add_assoc,e1],e2,e3⟩
  let cs:List Value:=(List.range inf.size).map (fun e=>(w.cell? ⟨b,i*ob.c.sz+j+e,none⟩).getD undef)
  refine ⟨.agg cs.toArray,.agg _ _ _ (by simp [cs]) (fun e he=> ?_) (fun e he=> ?_),fun w' hw=> ?_⟩
  ·have he':e<inf.size:=by simpa using he
   obtain ⟨y,e1,e2,_⟩:=hcell w rfl e he'
   simpa [cs,Array.getD,he',e1,List.getD] using e2
  ·have he':e<inf.size:=by simpa using he
   obtain ⟨y,e1,_,e3⟩:=hcell w rfl e he'
   simpa [cs,Array.getD,he',e1] using e3
  ·have hw:=hw.resolve_left kV
   have hl:=run_loadCells_list (P:=P) w' ⟨b,i*ob.c.sz+j,none⟩ cs (fun e v hv=>by
    have he:e<inf.size:=by simpa [cs] using (List.getElem?_eq_some_iff.1 hv).1
    obtain ⟨y,e1,_,_⟩:=hcell w rfl e he
    simp only [cs,List.getElem?_map,List.getElem?_range he,Option.map_some,Option.some.injEq] at hv
    subst hv
    rw [e1,Addr.add_lit]
    have:=World.cell?_of_block (w:=w) (w':=w') (a:=⟨b,i*ob.c.sz+j+e,none⟩) (by rw [hw])
    rw [this,e1];rfl)
   have hcl:cs.length=inf.size:=by simp [cs]
   rw [hcl] at hl
   have hz':a.eval x= .pointer (some ⟨b,i*ob.c.sz+j,none⟩):=by rw [hz]
   simp [execOp,hz',Instr.loadAt,Instr.sureAddr,loadVar,zEX ht,hu,sizeOf,typeInfo,hinf,hl]
end
end Go.Ax
namespace Go.Ax
variable [Pins]
open Go.RowKit
section
variable {ind:Bool}{P:Program}{fn:Func}{c:Ctx}{fr:Fr}{H:zO}{k:List It}
variable {d:Option Nat}{ty:TypeId}{pos:String}{after:Array Edge}{g:Option (Nat×Bool)}
theorem zNH {all:Array Oper}{t:TypeId}{x y:Operand}{ty:TypeId}{pos:String}{after:Array Edge}{rest:List Oper}{h i j s:Nat}{ob:AObj}{L:List AV}{c':Cells}(hx:ev fr x=some (.ptr h i j))(hy:ev fr y=some (.agg L))(hs:(P.info? t).map (·.size)=some s)(hh:H[h]? =some (some ob))(hl:L.length=s)(hj:j+s≤ob.c.sz)(hi:i<ob.c.len)(h1:c'.len=ob.c.len)(h2:c'.sz=ob.c.sz)(h3: ∀i' j',i'<ob.c.len→j'<ob.c.sz→c'.at i' j'=if i'=i∧j≤j'∧j'<j+s then L.getD (j'-j) .any else ob.c.at i' j')(hk:Ax P fn c (.ops false all rest k) fr (H.set h (some ⟨ob.ty,c'⟩)))(hz0:ob.c.sz≠0:=by (intro hh;cases hh)):Ax P fn c (.ops false all (⟨none,.store t x y,ty,pos,after,none⟩::rest) k) fr H:=by
 refine ax_w0 (fun w a σ S hr=> ?_) hk
 have e1:=hr.evAt hx
 have e2:=hr.evAt hy
 generalize hz:a.eval x=z at e1
 generalize hzy:a.eval y=u at e2
 cases e2 with
 |agg _ _ vs hvl hvv hv1=>
  cases e1 with
  |ptr _ _ _ _ b s' C hσ=>
   obtain ⟨hs',cur,g1,g2,g3,g4,g5,g6⟩:=hr.obj hh hσ
   subst hs'
   obtain ⟨mk,g1,hmk,hrow⟩:=g1.cells hz0
   have hfit:i*ob.c.sz+ob.c.sz≤cur.size:=by
    rw [g2]
    have:(i+1)*ob.c.sz≤C*ob.c.sz:=Nat.mul_le_mul_right _ kK
    rw [Nat.add_mul] at this;omega
   have hvsz:vs.size=s:=by rw [hvl,hl]
   have hst:=zCT P b (i*ob.c.sz+j) ob.ty mk vs.toList 0 cur w g1 hmk (by simp [hvsz];omega) (fun v hv=>by
    obtain ⟨j,hj,rfl⟩:=List.getElem_of_mem hv
    have hj':j<vs.size:=by simpa using hj
    have:=hv1 j (by rw [←hvl];exact hj')
    simpa [Array.getD,hj'] using this)
   simp only [Nat.add_zero] at hst
   generalize hcur:(cur.toList.take (i*ob.c.sz+j)++vs.toList++cur.toList.drop (i*ob.c.sz+j+vs.toList.length)).toArray=cur' at hst
   have hlen':cur'.size=cur.size:=by rw [←hcur];simp [hvsz];omega
   have hat: ∀p,p<cur.size→cur'[p]? =if i*ob.c.sz+j≤p∧p<i*ob.c.sz+j+s then vs[p-(i*ob.c.sz+j)]? else cur[p]? :=by
    intro p hp
    rw [←hcur]
    simp only [List.getElem?_toArray,List.append_assoc]
    by_cases c1:p<i*ob.c.sz+j
    ·rw [List.getElem?_append_left (by simp;omega),List.getElem?_take,if_pos c1,if_neg kK];simp
    ·rw [List.getElem?_append_right (by simp;omega)]
     have ht:(cur.toList.take (i*ob.c.sz+j)).length=i*ob.c.sz+j:=by simp;omega
     rw [ht]
     by_cases c2:p<i*ob.c.sz+j+s
     ·rw [List.getElem?_append_left (by simp [hvsz];omega),if_pos ⟨kK,c2⟩];simp
     ·rw [List.getElem?_append_right (by simp [hvsz];omega),if_neg kK]
      simp only [Array.length_toList,hvsz,List.getElem?_drop,Array.getElem?_toList]
      congr 1;omega
   refine ⟨w.setRow b cur',σ,S,?_,hr.setRow hh hσ hrow h2 kK (by rw [hlen',g2]) (fun i' j' hi' hj'=> ?_)⟩
   ·simp only [execOp,hz,hzy,Instr.storeAt,Instr.sureAddr,storeVar,Sem.run_bind,Sem.run_pure,Result.andThen_ok,zNs hs,Value.cells,hvsz]
    simp [hst]
   ·rw [h1] at hi'
    rw [h2] at hj'⊢
    rw [h3 i' j' hi' hj']
    have hp:i'*ob.c.sz+j'<cur.size:=by
     rw [g2]
     have:(i'+1)*ob.c.sz≤C*ob.c.sz:=Nat.mul_le_mul_right _ kK
     rw [Nat.add_mul] at this;omega
    rw [hat _ hp]
    by_cases he:i'=i∧j≤j'∧j'<j+s
    ·obtain ⟨he,q1,q2⟩:=he
     subst he
     rw [if_pos (show i'*ob.c.sz+j≤i'*ob.c.sz+j'∧i'*ob.c.sz+j'<i'*ob.c.sz+j+s from ⟨kK,kK⟩),if_pos ⟨rfl,q1,q2⟩]
     have hjv:j'-j<vs.size:=kK
     have e3:i'*ob.c.sz+j'-(i'*ob.c.sz+j)=j'-j:=kK
     rw [e3]
     refine ⟨vs.getD (j'-j) undef,by simp [Array.getD,hjv],hvv (j'-j) kK,hv1 (j'-j) kK⟩
    ·rw [if_neg he]
     have hne: ¬(i*ob.c.sz+j≤i'*ob.c.sz+j'∧i'*ob.c.sz+j'<i*ob.c.sz+j+s):=by
      rintro ⟨q1,q2⟩
      by_cases hii:i'=i
      ·subst hii;exact he ⟨rfl,kK,kK⟩
      rcases Nat.lt_or_gt_of_ne hii with hlt|hlt
      ·have:(i'+1)*ob.c.sz≤i*ob.c.sz:=Nat.mul_le_mul_right _ hlt
       rw [Nat.add_mul] at this;omega
      ·have:(i+1)*ob.c.sz≤i'*ob.c.sz:=Nat.mul_le_mul_right _ hlt
       rw [Nat.add_mul] at this;omega
     rw [if_neg hne]
     exact g6 i' j' hi' hj'
def zCe {α:Type}(t:TypeId)(f:α→Cells)(l:List α):zO:=l.map (fun a=>some ⟨t,f a⟩)
theorem zGh {α:Type}(t:TypeId)(f:α→Cells)(l:List α):(zCe t f l).length=l.length:=by have _p:= ‹Pins›;simp [zCe]
theorem zSO {α:Type}(t:TypeId)(f:α→Cells)(l:List α)(d:α){i:Nat}(hi:i<l.length):(zCe t f l)[i]? =some (some ⟨t,f (l.getD i d)⟩):=by
 have _p:= ‹Pins›
 simp [zCe,List.getD,hi]
theorem zSP {α:Type}(t:TypeId)(f:α→Cells)(l:List α)(i:Nat)(x:α):(zCe t f l).set i (some ⟨t,f x⟩)=zCe t f (l.set i x):=by
 have _p:= ‹Pins›
 simp [zCe,List.map_set]
theorem zQB {α:Type}(t:TypeId)(f:α→Cells)(l:List α)(x:α):zCe t f l++[some ⟨t,f x⟩]=zCe t f (l++[x]):=by
 have _p:= ‹Pins›
 simp [zCe]
theorem at_front {A B:zO}{h:Nat}(hh:h<A.length):(A++B)[h]? =A[h]? :=by
 have _p:= ‹Pins›
 exact List.getElem?_append_left hh
theorem zEc {A B:zO}{h i:Nat}(hh:h=A.length+i):(A++B)[h]? =B[i]? :=by
 have _p:= ‹Pins›
 subst hh
 rw [List.getElem?_append_right kK]
 congr 1;omega
theorem zCU {A B:zO}{h i:Nat}(x:Option AObj)(hh:h=A.length+i):(A++B).set h x=A++B.set i x:=by
 have _p:= ‹Pins›
 subst hh
 rw [List.set_append_right _ _ kK]
 congr 2;omega
theorem zSq {A B:zO}{h:Nat}(x:Option AObj)(hh:h<A.length):(A++B).set h x=A.set h x++B:=by
 have _p:= ‹Pins›
 rw [List.set_append_left _ _ hh]
end
end Go.Ax
namespace Go.Ax
variable [Pins]
open Go.RowKit
mutual
def AV.shift (N:Nat):AV→AV
 | .sl h i n=> .sl (h+N) i n
 | .ptr h i j=> .ptr (h+N) i j
 | .fn f l=> .fn f (AV.shifts N l)
 | .agg l=> .agg (AV.shifts N l)
 | .tup l=> .tup (AV.shifts N l)
 | .mp h=> .mp (h+N)
 |v=>v
def AV.shifts (N:Nat):List AV→List AV
 |[]=>[]
 |v::r=>v.shift N::AV.shifts N r
end
theorem zA1 (N:Nat)(l:List AV):(AV.shifts N l).length=l.length:=by
 have _p:= ‹Pins›
 induction l with
 |nil=>rfl
 |cons v r ih=>simp [AV.shifts,ih]
theorem zDv (N:Nat)(l:List AV)(i:Nat)(hi:i<l.length):(AV.shifts N l).getD i .any=(l.getD i .any).shift N:=by
 have _p:= ‹Pins›
 induction l generalizing i with
 |nil=>simp at hi
 |cons v r ih=>cases i with
  |zero=>rfl
  |succ i=>simpa [AV.shifts] using ih i (by simpa using hi)
theorem VR.shift {w:World}{S:Nat→Prop}{σ:Nat→Option Blk}{x:AV}{v:Value}{N:Nat}(hv:VR w S σ x v): ∀σ':Nat→Option Blk,(∀h B,σ h=some B→σ' (h+N)=some B)→VR w S σ' (x.shift N) v:=by
 induction hv with
 |int=>intros;constructor
 |bool=>intros;constructor
 |str=>intros;constructor
 |nil=>intros;constructor
 |ro0=>intros;constructor
 |ro σ c i len b o cap val hSb hlen hc hv h1 ih=>intro σ' _;exact .ro _ _ _ _ _ _ _ val hSb hlen hc hv h1
 |sl σ h' i len b s C cap hσ hlen hcap=>intro σ' hs;exact .sl _ _ _ _ _ _ _ _ (hs _ _ hσ) hlen hcap
 |sl0 σ h' hσ=>intro σ' hs;exact .sl0 _ _ (hs _ _ hσ)
 |rp σ c i j b o val hSb hc hv h1 ih=>intro σ' _;exact .rp _ _ _ _ _ _ val hSb hc hv h1
 |ptr σ h' i j b s C hσ=>intro σ' hs;exact .ptr _ _ _ _ _ _ _ (hs _ _ hσ)
 |nilp=>intros;constructor
 |fn σ f cap vs hl hv ih=>intro σ' hs;exact .fn _ _ _ _ (by rw [zA1];exact hl) (fun i hi=>by rw [zA1] at hi;rw [zDv N cap i hi];exact ih i hi σ' hs)
 |nilfn=>intros;constructor
 |iface=>intros;constructor
 |nilif=>intros;constructor
 |agg σ l vs hl hv h1 ih=>intro σ' hs;exact .agg _ _ _ (by rw [zA1];exact hl) (fun i hi=>by rw [zA1] at hi;rw [zDv N l i hi];exact ih i hi σ' hs) (fun i hi=>h1 i (by rwa [zA1] at hi))
 |tup σ l vs hl hv ih=>intro σ' hs;exact .tup _ _ _ (by rw [zA1];exact hl) (fun i hi=>by rw [zA1] at hi;rw [zDv N l i hi];exact ih i hi σ' hs)
 |mp σ h' b hσ=>intro σ' hs;exact .mp _ _ _ (hs _ _ hσ)
 |rom σ ks vs b es clock e hSb hb hn hl hd he hk hv=>intro σ' hs;exact .rom _ _ _ b es clock e hSb hb hn hl hd he hk hv
 |any=>intros;constructor
def Cells.shift (N:Nat):Cells→Cells
 | .ints k l=> .ints k l
 | .strs l=> .strs l
 | .box l=> .box (AV.shifts N l)
 | .mp ks vs=> .mp (AV.shifts N ks) (AV.shifts N vs)
 | .fn n s f=> .fn n s (fun i j=>(f i j).shift N)
theorem Cells.shift_len (N:Nat)(c:Cells):(c.shift N).len=c.len:=by have _p:= ‹Pins›;cases c<;>rfl
theorem Cells.shift_sz (N:Nat)(c:Cells):(c.shift N).sz=c.sz:=by
 cases c<;>first|rfl|exact zA1 _ _
theorem Cells.shift_at (N:Nat)(c:Cells)(i j:Nat)(hj:j<c.sz):(c.shift N).at i j=(c.at i j).shift N:=by
 cases c with
 |box l=>exact zDv N l j hj
 |_=>rfl
def zIx (N:Nat):Option AObj→Option AObj
 |some o=>some ⟨o.ty,o.c.shift N⟩
 |none=>none
def zC5 (N:Nat):zO→zO
 |[]=>[]
 |o::r=>zIx N o::zC5 N r
theorem zLh (N:Nat)(H:zO)(i:Nat):(zC5 N H)[i]? =(H[i]?).map (zIx N):=by
 have _p:= ‹Pins›
 induction H generalizing i with
 |nil=>simp [zC5]
 |cons o r ih=>cases i with
  |zero=>simp [zC5]
  |succ i=>simpa [zC5] using ih i
theorem zL9 (N:Nat)(H:zO):(zC5 N H).length=H.length:=by
 have _p:= ‹Pins›
 induction H with
 |nil=>rfl
 |cons o r ih=>simp [zC5,ih]
theorem Lays.shift {w:World}{S:Nat→Prop}{σ σ':Nat→Option Blk}{t:TypeId}{c:Cells}{b:Nat}{cur:Array Value}{C:Nat}{N:Nat}(hs: ∀h B,σ h=some B→σ' (h+N)=some B)(hL:Lays w S σ ⟨t,c⟩ b cur C):Lays w S σ' ⟨t,c.shift N⟩ b cur C:=by
 have _p:= ‹Pins›
 cases hL with
 |row mk h hm hC=>exact .row mk h hm hC
 |map ks vs es clock hc hC h hn hl hd he=>
  simp only at hc
  subst hc
  exact .map _ _ es clock Z hC h (by rw [zA1];exact hn) (by rw [zA1,zA1];exact hl) hd (fun i hi=>by
   rw [zA1] at hi
   obtain ⟨e,e1,e2,e3⟩:=he i hi
   exact ⟨e,e1,by rw [zDv _ _ _ hi];exact e2.shift σ' hs,by rw [zDv _ _ _ kK];exact e3.shift σ' hs⟩)
def zE9 (N:Nat)(σ σ0:Nat→Option Blk)(h:Nat):Option Blk:=if h<N then σ h else σ0 (h-N)
theorem zIk {N:Nat}{σ σ0:Nat→Option Blk}: ∀h B,σ0 h=some B→zE9 N σ σ0 (h+N)=some B:=by
 have _p:= ‹Pins›
 intro h B hB
 unfold zE9
 rw [if_neg kK,Nat.add_sub_cancel];exact hB
theorem HR.join {w:World}{S:Nat→Prop}{σ σ0:Nat→Option Blk}{H H0:zO}(h:HR w S σ H)(h0:HR w S σ0 H0)(hd: ∀h h' o o' b s C s' C',H[h]? =some (some o)→H0[h']? =some (some o')→σ h=some (.at b s C)→σ0 h'=some (.at b s' C')→False):
 HR w S (zE9 H.length σ σ0) (H++zC5 H.length H0):=by
 have hfr: ∀h B,σ h=some B→zE9 H.length σ σ0 h=some B:=by
  intro h' B hB
  unfold zE9
  split
  ·exact hB
  ·rename_i hl;rw [h.dom h' kK] at hB;cases hB
 have hcase: ∀h' o',(H++zC5 H.length H0)[h']? =some (some o')→(h'<H.length∧H[h']? =some (some o'))∨(H.length≤h'∧ ∃o,H0[h'-H.length]? =some (some o)∧o'=⟨o.ty,o.c.shift H.length⟩):=by
  intro h' o' ho
  by_cases he:h'<H.length
  ·rw [List.getElem?_append_left he] at ho;exact .inl ⟨he,ho⟩
  ·rw [List.getElem?_append_right kK,zLh] at ho
   cases e:H0[h'-H.length]? with
   |none=>rw [e] at ho;cases ho
   |some x=>
    rw [e] at ho
    cases x with
    |none=>simp [zIx] at ho
    |some o=>simp [zIx] at ho;exact .inr ⟨kK,o,rfl,ho.symm⟩
 refine ⟨fun h' o' ho=> ?_,fun h1 h2 o1 o2 b s C s' C' q1 q2 e1 e2=> ?_,h.small,fun h' hl=> ?_⟩
 ·rcases hcase h' o' ho with ⟨hl,ho'⟩|⟨hl,o,ho',rfl⟩
  ·rcases h.live h' o' ho' with ⟨h1,h2⟩|⟨b,C,cur,h1,h2,h3,h4,h5,h6,h7⟩
   ·exact .inl ⟨hfr _ _ h1,h2⟩
   ·refine .inr ⟨b,C,cur,hfr _ _ h1,h2.mono Z (fun hv=>hv.mono (fun _ h=>h) (fun _ _=>rfl) _ hfr),h3,h4,h5,h6,fun i j hi hj=> ?_⟩
    obtain ⟨v,e1,e2,e3⟩:=h7 i j hi hj
    exact ⟨v,e1,e2.mono (fun _ h=>h) (fun _ _=>rfl) _ hfr,e3⟩
  ·have hj:zE9 H.length σ σ0 h'=σ0 (h'-H.length):=by unfold zE9;rw [if_neg kK]
   rw [hj]
   rcases h0.live _ o ho' with ⟨h1,h2⟩|⟨b,C,cur,h1,h2,h3,h4,h5,h6,h7⟩
   ·exact .inl ⟨h1,by rw [Cells.shift_len];exact h2⟩
   ·refine .inr ⟨b,C,cur,by rw [Cells.shift_sz];exact h1,Lays.shift zIk h2,by rw [Cells.shift_sz];exact h3,h4,by rw [Cells.shift_len];exact h5,h6,fun i j hi hj=> ?_⟩
    rw [Cells.shift_len] at hi
    rw [Cells.shift_sz] at hj⊢
    obtain ⟨v,e1,e2,e3⟩:=h7 i j hi hj
    exact ⟨v,e1,by rw [Cells.shift_at _ _ _ _ hj];exact e2.shift _ zIk,e3⟩
 ·rcases hcase h1 o1 q1 with ⟨l1,r1⟩|⟨l1,x1,r1,rfl⟩<;>rcases hcase h2 o2 q2 with ⟨l2,r2⟩|⟨l2,x2,r2,rfl⟩
  ·unfold zE9 at e1 e2
   rw [if_pos l1] at e1
   rw [if_pos l2] at e2
   exact h.dist h1 h2 o1 o2 b s C s' C' r1 r2 e1 e2
  ·unfold zE9 at e1 e2
   rw [if_pos l1] at e1
   rw [if_neg kK] at e2
   exact (hd _ _ _ _ _ _ _ _ _ r1 r2 e1 e2).elim
  ·unfold zE9 at e1 e2
   rw [if_neg kK] at e1
   rw [if_pos l2] at e2
   exact (hd _ _ _ _ _ _ _ _ _ r2 r1 e2 e1).elim
  ·unfold zE9 at e1 e2
   rw [if_neg kK] at e1 e2
   have:=h0.dist _ _ x1 x2 b s C s' C' r1 r2 e1 e2
   omega
 ·rw [List.length_append,zL9] at hl
  unfold zE9
  rw [if_neg kK]
  exact h0.dom _ kK
theorem zU.lift {P:Program}{f:FuncId}{args:List AV}{fix:Nat→Prop}{K K':AV→zO→Prop}{H:zO}(hc:zU P f args [] fix K)(hfx: ∀h,¬fix h)(hn:noRef.noRefs args=true)(hK: ∀(r0:AV) (H0:zO),K r0 H0→K' (r0.shift H.length) (H++zC5 H.length H0)):zU P f args H (fun h=>h<H.length) K':=by
 refine ⟨hc.1,fun w σ S vals hp hr hf hv=> ?_⟩
 have hp0:zFZ w S (fun _=>none) []:=hp.less (fun _ h=>h) (fun _ h=>h.nil)
 refine (hc.2 w (fun _=>none) S vals hp0 hr.empty (fun h hh=>absurd hh (hfx h)) (hv.closed hn _)).mono ?_
 rintro e w' ⟨v,r0,σ',S',H0,rfl,g1,g2,g3,g4⟩
 obtain ⟨a1,a2⟩:=HR.after hr g1 g3
 have a3:=a2 K' hp
 have hno: ∀b,¬zGP (fun _=>none) [] b:=by rintro b ⟨h,o,s,C,h1,_⟩;simp at h1
 have hlto: ∀h o b s C,H[h]? =some (some o)→σ h=some (.at b s C)→b<w.heap.size:=by
  intro h o b s C ho hb
  rcases hr.live h o ho with ⟨hn,_⟩|⟨b',C',cur,hσ',g,_⟩
  ·rw [hb] at hn;cases hn
  ·rw [hb] at hσ'
   simp only [Option.some.injEq,Blk.at.injEq] at hσ'
   rw [hσ'.1]
   exact g.lt
 have hnew: ∀h o b s C,H0[h]? =some (some o)→σ' h=some (.at b s C)→w.heap.size≤b:=by
  intro h o b s C ho hb
  rcases g3.own h o b s C ho hb with h3|h3
  ·exact absurd h3 (hno b)
  ·exact h3
 have hj:=a1.join g1 (fun h h' o o' b s C s' C' q1 q2 e1 e2=>by
  have:=hlto h o b s C q1 e1
  have:=hnew h' o' b s' C' q2 e2
  omega)
 refine ⟨v,_,_,S',_,Z,hj,g2.shift _ zIk,⟨a3.os,a3.output,a3.tape,a3.size,a3.block,a3.S1,a3.S2,fun h hl=> ?_,fun h hl=> ?_,fun h o b s C ho hb=> ?_⟩,hK r0 H0 g4⟩
 ·have hl:h<H.length:=hl
  show zE9 H.length σ σ' h=σ h
  unfold zE9;rw [if_pos hl]
 ·have hl:h<H.length:=hl
  rw [List.length_append];omega
 ·by_cases he:h<H.length
  ·rw [List.getElem?_append_left he] at ho
   unfold zE9 at hb
   rw [if_pos he] at hb
   exact .inl ⟨h,o,s,C,ho,hb⟩
  ·rw [List.getElem?_append_right kK,zLh] at ho
   unfold zE9 at hb
   rw [if_neg he] at hb
   cases e:H0[h-H.length]? with
   |none=>rw [e] at ho;cases ho
   |some x=>
    rw [e] at ho
    cases x with
    |none=>simp [zIx] at ho
    |some o'=>exact .inr (hnew _ o' b s C e hb)
def zNx (P:Program)(f:FuncId)(args:List AV)(r:AV)(H0:zO):Prop:= ∀H,zU P f args H (fun h=>h<H.length) (fun r' H'=>r'=r.shift H.length∧H'=H++zC5 H.length H0)
theorem zU.many {P:Program}{f:FuncId}{args:List AV}{fix:Nat→Prop}{r:AV}{H0:zO}(hc:zU P f args [] fix (fun r' H'=>r'=r∧H'=H0))(hfx: ∀h,¬fix h)(hn:noRef.noRefs args=true):zNx P f args r H0:=fun H=>
 hc.lift hfx hn (fun r0 H1 h=>by obtain ⟨rfl,rfl⟩:=h;exact ⟨rfl,rfl⟩)
section
variable {P:Program}{fn:Func}{c:Ctx}{fr:Fr}{H:zO}{k:List It}{all:Array Oper}{d:Nat}{g:Operand}{args:List Operand}{ats:Array TypeId}{ty:TypeId}{pos:String}{after:Array Edge}{rest:List Oper}{f:FuncId}
theorem zGQ {caps ags ags':List AV}{r:AV}{H0:zO}(r':AV)(H':zO)(hg:ev fr g=some (.fn f caps))(ha:evs fr args=some ags)(has:ags++caps=ags')(hcall:zNx P f ags' r H0)(hr:r.shift H.length=r')(hH:H++zC5 H.length H0=H')(hk:Ax P fn c (.ops false all rest k) ((d,r')::fr) H'):Ax P fn c (.ops false all (⟨some d,.call {callee:= .value g,args:=args.toArray,argTypes:=ats},ty,pos,after,none⟩::rest) k) fr H:=
 zH2 hg ha has (hcall H) (fun _ h=>h) (fun _ h=>h) (fun r1 H1 h=>by obtain ⟨rfl,rfl⟩:=h;subst hr;subst hH;exact hk)
end
mutual
theorem zKQ: ∀(x:AV),noRef x=true→ ∀N,x.shift N=x
 | .int _ _,_,_=>rfl
 | .bool _,_,_=>rfl
 | .str _,_,_=>rfl
 | .nil,_,_=>rfl
 | .ro _ _ _,_,_=>rfl
 | .sl _ _ _,h,_=>by simp [noRef] at h
 | .rp _ _ _,_,_=>rfl
 | .ptr _ _ _,h,_=>by simp [noRef] at h
 | .nilp,_,_=>rfl
 | .fn f l,h,N=>by
  have _p:= ‹Pins›
  simp only [AV.shift];rw [zFJ l (by simpa [noRef] using h) N]
 | .nilfn,_,_=>rfl
 | .iface,_,_=>rfl
 | .nilif,_,_=>rfl
 | .agg l,h,N=>by simp only [AV.shift];rw [zFJ l (by simpa [noRef] using h) N]
 | .tup l,h,N=>by simp only [AV.shift];rw [zFJ l (by simpa [noRef] using h) N]
 | .mp _,h,_=>by simp [noRef] at h
 | .rom _ _,_,_=>rfl
 | .any,_,_=>rfl
theorem zFJ: ∀(l:List AV),noRef.noRefs l=true→ ∀N,AV.shifts N l=l
 |[],_,_=>rfl
 |v::r,h,N=>by
  have _p:= ‹Pins›
  simp only [noRef.noRefs,Bool.and_eq_true] at h
  simp only [AV.shifts]
  rw [zKQ v h.1 N,zFJ r h.2 N]
end
end Go.Ax
namespace Go.Ax
variable [Pins]
open Go.RowKit
def zAx {α:Type}(O:AObj)(t:TypeId)(f:α→Cells)(X:List α)(L:zO):zO:=some O::(zCe t f X++L)
section
variable {α:Type}{O:AObj}{t:TypeId}{f:α→Cells}{X:List α}{L:zO}
theorem nest_len:(zAx O t f X L).length=X.length+1+L.length:=by
 have _p:= ‹Pins›
 unfold zAx
 rw [List.length_cons,List.length_append,zGh];omega
theorem nest_row (d:α){a:Nat}(ha:a<X.length):(zAx O t f X L)[a+1]? =some (some ⟨t,f (X.getD a d)⟩):=by
 have _p:= ‹Pins›
 show (zCe t f X++L)[a]? =_
 rw [at_front (by rw [zGh];exact ha),zSO t f X d ha]
theorem nest_loc {j:Nat}:(zAx O t f X L)[X.length+1+j]? =L[j]? :=by
 have _p:= ‹Pins›
 rw [show X.length+1+j=(X.length+j)+1 by omega]
 show (zCe t f X++L)[X.length+j]? =_
 exact zEc (by rw [zGh])
theorem zNg {a:Nat}(x:α)(ha:a<X.length):(zAx O t f X L).set (a+1) (some ⟨t,f x⟩)=zAx O t f (X.set a x) L:=by
 have _p:= ‹Pins›
 show some O::(zCe t f X++L).set a _=_
 rw [zSq _ (by rw [zGh];exact ha),zSP];rfl
theorem zNf {j:Nat}(x:Option AObj):(zAx O t f X L).set (X.length+1+j) x=zAx O t f X (L.set j x):=by
 have _p:= ‹Pins›
 rw [show X.length+1+j=(X.length+j)+1 by omega]
 show some O::(zCe t f X++L).set (X.length+j) x=_
 rw [zCU x (by rw [zGh])];rfl
theorem nest_app (M:zO):zAx O t f X L++M=zAx O t f X (L++M):=by
 have _p:= ‹Pins›
 unfold zAx
 rw [List.cons_append,List.append_assoc]
theorem zP.append {A A' B B':zO}(h1:zP A A')(h2:zP B B'):zP (A++B) (A'++B'):=by
 have _p:= ‹Pins›
 refine ⟨by rw [List.length_append,List.length_append,h1.1,h2.1],fun h o' ho=> ?_⟩
 by_cases hl:h<A'.length
 ·rw [List.getElem?_append_left hl] at ho
  rw [List.getElem?_append_left (by rw [←h1.1];exact hl)]
  exact h1.2 h o' ho
 ·rw [List.getElem?_append_right kK] at ho
  rw [List.getElem?_append_right (by have:=h1.1;omega),←h1.1]
  exact h2.2 _ o' ho
theorem zHl {O':AObj}{L':zO}(h0:O'.ty=O.ty∧CEq O.c O'.c)(hL:zP L L'):zP (zAx O t f X L) (zAx O' t f X L'):=by
 have _p:= ‹Pins›
 exact zP.cons (fun o ho=>by cases ho;exact ⟨O,rfl,h0.1,h0.2⟩) (zP.append (zP.refl _) hL)
theorem zKN (h:Nat)(hf: ∀a,(f a).forget h=f a): ∀X:List α,zp h (zCe t f X)=zCe t f X
 |[]=>have _p:= ‹Pins›;rfl
 |a::r=>by
  have _p:= ‹Pins›
  show some ⟨t,(f a).forget h⟩::zp h (zCe t f r)=some ⟨t,f a⟩::zCe t f r
  rw [hf a,zKN h hf r]
theorem zDn (h:Nat): ∀A B:zO,zp h (A++B)=zp h A++zp h B
 |[],B=>have _p:= ‹Pins›;rfl
 |a::r,B=>by
  have _p:= ‹Pins›
  show zA3 h a::zp h (r++B)=zA3 h a::(zp h r++zp h B)
  rw [zDn h r B]
theorem zEo (h:Nat)(hf: ∀a,(f a).forget h=f a):zp h (zAx O t f X L)=zAx ⟨O.ty,O.c.forget h⟩ t f X (zp h L):=by
 have _p:= ‹Pins›
 show some ⟨O.ty,O.c.forget h⟩::zp h (zCe t f X++L)=_
 rw [zDn,zKN h hf];rfl
end
section
variable {ind:Bool}{P:Program}{fn:Func}{c:Ctx}{fr:Fr}{H:zO}{k:List It}
variable {d:Option Nat}{ty:TypeId}{pos:String}{after:Array Edge}{g:Option (Nat×Bool)}
theorem zDF {x i:Operand}{t e:TypeId}{h o len ix:Nat}{ob:AObj}{k:IntKind}{m:Int}(ht:P.underlying t=some (.slice e))(hx:ev fr x=some (.sl h o len))(hi:ev fr i=some (.int k m))(hh:H[h]? =some (some ob))(hs:(P.info? e).map (·.size)=some ob.c.sz)(hix:o+m.toNat=ix)(hb:0≤m∧m<len):
 QOp ind P fn c fr H ⟨d,.indexAddr t x i,ty,pos,after,g⟩ (.ptr h ix 0):=zAR ht hx hh hs hi hix hb
theorem zGI {x:Operand}{t:TypeId}{u:TypeDesc}{h i:Nat}{ob:AObj}{inf:TypeInfo}{L:List AV}(ht:P.underlying t=some u)(hu:zBn u=true)(hinf:P.info? t=some inf)(hx:ev fr x=some (.ptr h i 0))(hh:H[h]? =some (some ob))(hsz:inf.size=ob.c.sz)(hL:(List.range ob.c.sz).map (ob.c.at i)=L)(hi:i<ob.c.len):QOp false P fn c fr H ⟨d,.load t x,ty,pos,after,g⟩ (.agg L):=zIZ ht hu hinf hsz hx hh hL hi
theorem zLW {x:Operand}{t:TypeId}{u:TypeDesc}{h i j:Nat}{ob:AObj}{inf:TypeInfo}{L:List AV}(ht:P.underlying t=some u)(hu:zBn u=true)(hinf:P.info? t=some inf)(hx:ev fr x=some (.ptr h i j))(hh:H[h]? =some (some ob))(hsz:Nat.ble (j+inf.size) ob.c.sz=true)(hL:(List.range inf.size).map (fun e=>ob.c.at i (j+e))=L)(hi:i<ob.c.len):QOp false P fn c fr H ⟨d,.load t x,ty,pos,after,g⟩ (.agg L):=zEH ht hu hinf hsz hx hh hL hi
theorem zAN {x:Operand}{t:TypeId}{u:TypeDesc}{h j:Nat}{oty:TypeId}{l:List AV}{v:AV}(ht:P.underlying t=some u)(hu:zBn u=false)(hx:ev fr x=some (.ptr h 0 j))(hh:H[h]? =some (some ⟨oty,.box l⟩))(hv:l[j]? =some v):
 QOp false P fn c fr H ⟨d,.load t x,ty,pos,after,g⟩ v:=zY ht hu hx hh hv
end
end Go.Ax
namespace Go.Ax
variable [Pins]
open Go.RowKit
inductive KSort where
 |int (k:IntKind)
 |str
 |pair (k:IntKind)
section
variable {P:Program}{kt:TypeId}{s:KSort}
end
def mapOf (H:zO):AV→Option (List AV×List AV)
 | .mp h=>match H[h]? with
  |some (some o)=>match o.c with
   | .mp ks vs=>some (ks,vs)
   |_=>none
  |_=>none
 | .rom ks vs=>some (ks,vs)
 |_=>none
theorem Rep.map {c:Ctx}{w:World}{a:Act}{σ:Nat→Option Blk}{S:Nat→Prop}{n:Nat}{fr:Fr}{H:zO}(hr:Rep c w a σ S n fr H){x:AV}{v:Value}{ks vs:List AV}(hv:VR w S σ x v)(hm:mapOf H x=some (ks,vs)):
 ∃b es clock,v= .map (some b)∧w.heap[b]? =some (.map es clock)∧es.size=ks.length∧vs.length=ks.length∧es.toList.Pairwise (fun x y=>x.key≠y.key)∧ ∀i,i<ks.length→ ∃e,es[i]? =some e∧VR w S σ (ks.getD i .any) e.key∧VR w S σ (vs.getD i .any) e.val:=by
 cases hv<;>simp only [mapOf] at hm<;>try (cases hm;done)
 case mp h b hσ=>
  cases hq:H[h]? with
  |none=>simp [hq] at hm
  |some oo=>cases oo with
   |none=>simp [hq] at hm
   |some o=>
    simp only [hq] at hm
    rcases hr.hr.live h o hq with ⟨hn,_⟩|⟨b',C',cur,hσ',g1,g2,g3,g4,g5,g6⟩
    ·rw [hσ] at hn;cases hn
    ·rw [hσ] at hσ'
     simp only [Option.some.injEq,Blk.at.injEq] at hσ'
     obtain ⟨rfl,hsz,rfl⟩:=hσ'
     cases g1 with
     |row mk _ _ hC=>omega
     |map ks' vs' es clock hc _ hb hn hl hd he=>
      rw [hc] at hm
      simp only [Option.some.injEq,Prod.mk.injEq] at hm
      obtain ⟨rfl,rfl⟩:=hm
      exact ⟨b,es,clock,Z,hb,hn,hl,hd,he⟩
 case rom ks' vs' b es clock e hS hb hn hl hd he hk hv=>
  simp only [Option.some.injEq,Prod.mk.injEq] at hm
  obtain ⟨rfl,rfl⟩:=hm
  exact ⟨b,es,clock,rfl,hb,hn,hl,hd,fun i hi=>⟨e i,he i hi,(hk i hi).mono (fun _ h=>h) (fun _ _=>rfl) _ (fun _ _ h=>by cases h),(hv i hi).mono (fun _ h=>h) (fun _ _=>rfl) _ (fun _ _ h=>by cases h)⟩⟩
section
variable {ind:Bool}{P:Program}{fn:Func}{c:Ctx}{fr:Fr}{H:zO}{k:List It}{d:Option Nat}{ty:TypeId}{pos:String}{after:Array Edge}{g:Option (Nat×Bool)}
end
section
variable {ind:Bool}{P:Program}{fn:Func}{c:Ctx}{fr:Fr}{H:zO}{k:List It}{d:Option Nat}{ty:TypeId}{pos:String}{after:Array Edge}{g:Option (Nat×Bool)}
end
end Go.Ax
namespace Go.Ax
variable [Pins]
open Go.RowKit
section
variable {ind:Bool}{P:Program}{fn:Func}{c:Ctx}{fr:Fr}{H:zO}{k:List It}
variable {d:Option Nat}{ty:TypeId}{pos:String}{after:Array Edge}{g:Option (Nat×Bool)}
end
end Go.Ax
namespace Go.Ax
variable [Pins]
open Go.RowKit
abbrev iN (n:Nat):AV:= .int .i64 (n:Int)
section
variable {P:Program}{fn:Func}{c:Ctx}{fr:Fr}{H:zO}{k:List It}
theorem sa1 {all:Array Oper}{t:TypeId}{x y:Operand}{ty:TypeId}{pos:String}{after:Array Edge}{rest:List Oper}{h:Nat}{ob:AObj}{L:List AV}{c':Cells}(hx:ev fr x=some (.ptr h 0 0))(hy:ev fr y=some (.agg L))(hs:(P.info? t).map (·.size)=some ob.c.sz)(hh:H[h]? =some (some ob))(hl:L.length=ob.c.sz)(h1:c'.len=ob.c.len)(h2:c'.sz=ob.c.sz)(hk:Ax P fn c (.ops false all rest k) fr (H.set h (some ⟨ob.ty,c'⟩)))(hi:0<ob.c.len:=by exact Nat.zero_lt_one)(h3: ∀i' j',i'<ob.c.len→j'<ob.c.sz→c'.at i' j'=if i'=0 then L.getD j' .any else ob.c.at i' j':=by (intro i' j' hi' hj';rw [if_pos (Nat.lt_one_iff.1 hi')];rfl))(hz0:ob.c.sz≠0:=by (intro hh;cases hh)):
 Ax P fn c (.ops false all (⟨none,.store t x y,ty,pos,after,none⟩::rest) k) fr H:=zt hx hy hs hh hl hi h1 h2 h3 hk hz0
variable {ind:Bool}{d:Option Nat}{ty:TypeId}{pos:String}{after:Array Edge}{g:Option (Nat×Bool)}
theorem qis {x i:Operand}{t e:TypeId}{h o len ix:Nat}{ob:AObj}{k:IntKind}{m:Int}(ht:P.underlying t=some (.slice e))(hx:ev fr x=some (.sl h o len))(hi:ev fr i=some (.int k m))(hh:H[h]? =some (some ob):=by assumption)(hs:(P.info? e).map (·.size)=some ob.c.sz:=by rfl)(hix:o+m.toNat=ix:=by first|(simp only [Nat.zero_add,Int.toNat_natCast,Int.toNat_zero];exact rfl)|exact rfl)(hb:0≤m∧m<len:=by omega):
 QOp ind P fn c fr H ⟨d,.indexAddr t x i,ty,pos,after,g⟩ (.ptr h ix 0):=zDF ht hx hi hh hs hix hb
theorem qps {x:Operand}{t:TypeId}{u:TypeDesc}{h i j:Nat}{ob:AObj}{inf:TypeInfo}{L:List AV}(ht:P.underlying t=some u)(hu:zBn u=true)(hinf:P.info? t=some inf)(hx:ev fr x=some (.ptr h i j))(hh:H[h]? =some (some ob):=by assumption)(hsz:Nat.ble (j+inf.size) ob.c.sz=true:=by rfl)(hL:(List.range inf.size).map (fun e=>ob.c.at i (j+e))=L:=by rfl)(hi:i<ob.c.len:=by first|exact Nat.zero_lt_one|assumption|omega):QOp false P fn c fr H ⟨d,.load t x,ty,pos,after,g⟩ (.agg L):=zLW ht hu hinf hx hh hsz hL hi
theorem qas {x:Operand}{t:TypeId}{u:TypeDesc}{h i:Nat}{ob:AObj}{inf:TypeInfo}{L:List AV}(ht:P.underlying t=some u)(hu:zBn u=true)(hinf:P.info? t=some inf)(hx:ev fr x=some (.ptr h i 0))(hh:H[h]? =some (some ob):=by assumption)(hsz:inf.size=ob.c.sz:=by rfl)(hL:(List.range ob.c.sz).map (ob.c.at i)=L:=by rfl)(hi:i<ob.c.len:=by first|exact Nat.zero_lt_one|assumption|omega):QOp false P fn c fr H ⟨d,.load t x,ty,pos,after,g⟩ (.agg L):=zGI ht hu hinf hx hh hsz hL hi
theorem qpp {x:Operand}{t:TypeId}{u:TypeDesc}{h i j:Nat}{ob:AObj}{inf:TypeInfo}{L:List AV}(ht:P.underlying t=some u)(hu:zBn u=true)(hinf:P.info? t=some inf)(hsz:Nat.ble (j+inf.size) ob.c.sz=true)(hx:ev fr x=some (.ptr h i j))(hh:H[h]? =some (some ob))(hL:(List.range inf.size).map (fun e=>ob.c.at i (j+e))=L)(hi:i<ob.c.len:=by first|exact Nat.zero_lt_one|assumption|omega):QOp false P fn c fr H ⟨d,.load t x,ty,pos,after,g⟩ (.agg L):=zEH ht hu hinf hsz hx hh hL hi
end
end Go.Ax
namespace Go.Ax
open Go.RowKit
structure Hold (p:Prop):Prop where
 out:p
theorem rn0 {G G':Prop}(k:G')(h:Hold G'→G:=by intro k;(repeat (first|refine zL (zH rfl) ?_|refine zL (zf rfl) ?_|refine zV ?_|refine zG ?_|refine zAL ?_|refine zl rfl ?_|refine zBQ ?_));exact k.out):G:=h ⟨k⟩
theorem rn1 {G G':Prop}(k:G')(h:Hold G'→G:=by intro k;(repeat (first|refine zL (zH rfl) ?_|refine zL (zf rfl) ?_|refine zV ?_|refine zG ?_|refine zAL ?_|refine zl rfl ?_|refine zAU ?_|refine zAJ ?_|refine zBK ?_|refine zBQ ?_));exact k.out):G:=h ⟨k⟩
theorem rn2 {G G':Prop}(k:G')(h:Hold G'→G:=by intro k;(repeat (first|refine zL (zH rfl) ?_|refine zL (zf rfl) ?_|refine zV ?_|refine zG ?_|refine zAL ?_|refine zl rfl ?_|refine zBX rfl rfl ?_|refine zAU ?_|refine zAJ ?_|refine zBK ?_|refine zBQ ?_|refine zDq ?_|refine zL (zAj rfl rfl) ?_|refine zL (zCB rfl rfl) ?_));exact k.out):G:=h ⟨k⟩
theorem rn3 {G G':Prop}(k:G')(h:Hold G'→G:=by intro k;(repeat (first|refine zL (zH rfl) ?_|refine zL (zf rfl) ?_|refine zV ?_|refine zG ?_|refine zAL ?_|refine zl rfl ?_|refine zBX rfl rfl ?_|refine zAU ?_|refine zAJ ?_|refine zBK ?_|refine zBQ ?_|refine zDq ?_|refine zL (zJY rfl rfl) ?_|refine zL (zAj rfl rfl) ?_|refine zL (zCB rfl rfl) ?_|refine zL (zBh rfl rfl rfl) ?_|refine zL (zCZ rfl rfl kK) ?_|refine ze rfl rfl rfl rfl rfl rfl rfl rfl rfl rfl rfl ?_));exact k.out):G:=h ⟨k⟩
theorem rn4 {G G':Prop}(k:G')(h:Hold G'→G:=by intro k;(repeat (first|refine zL (zH rfl) ?_|refine zL (zf rfl) ?_|refine zV ?_|refine zG ?_|refine zAL ?_|refine zl rfl ?_|refine zBX rfl rfl ?_|refine zAq rfl ?_|refine zAU ?_|refine zAJ ?_|refine zBK ?_|refine zBQ ?_|refine zDq ?_|refine zL (zY rfl rfl rfl rfl rfl) ?_|refine zL (zDS rfl rfl) ?_|refine zL (zEu rfl rfl) ?_|refine zL (zJY rfl rfl) ?_|refine zL (zAj rfl rfl) ?_|refine zL (zCB rfl rfl) ?_|refine zL (zBh rfl rfl rfl) ?_|refine zL (zCZ rfl rfl kK) ?_|refine zL (zc rfl rfl rfl rfl (by first|(simp only [Nat.zero_add,Int.toNat_natCast,Int.toNat_zero];exact rfl)|exact rfl) kK) ?_|refine ze rfl rfl rfl rfl rfl rfl rfl rfl rfl rfl rfl ?_|refine zA7 rfl rfl rfl ?_));exact k.out):G:=h ⟨k⟩
theorem rn5 {G G':Prop}(k:G')(h:Hold G'→G:=by intro k;(repeat (first|refine zL (zH rfl) ?_|refine zL (zf rfl) ?_|refine zV ?_|refine zG ?_|refine zAL ?_|refine zl rfl ?_|refine zBX rfl rfl ?_|refine zBu rfl ?_|refine zAq rfl ?_|refine zAP ?_|refine zAU ?_|refine zAJ ?_|refine zBK ?_|refine zDf ?_|refine zBJ ?_|refine zBI ?_|refine zBa ?_|refine zBQ ?_|refine zDq ?_|refine zL (zY rfl rfl rfl rfl rfl) ?_|refine zL (zDS rfl rfl) ?_|refine zL (zEu rfl rfl) ?_|refine zL (zJY rfl rfl) ?_|refine zL (zLX rfl) ?_|refine zL (zAj rfl rfl) ?_|refine zL (zCB rfl rfl) ?_|refine zL (zBh rfl rfl rfl) ?_|refine zL (zCZ rfl rfl kK) ?_|refine zL (zc rfl rfl rfl rfl (by first|(simp only [Nat.zero_add,Int.toNat_natCast,Int.toNat_zero];exact rfl)|exact rfl) kK) ?_|refine zL (zN rfl rfl rfl rfl rfl rfl) ?_|refine ze rfl rfl rfl rfl rfl rfl rfl rfl rfl rfl rfl ?_|refine zA7 rfl rfl rfl ?_));exact k.out):G:=h ⟨k⟩
theorem rn6 {G G':Prop}(k:G')(h:Hold G'→G:=by intro k;(repeat (first|refine zL (zH rfl) ?_|refine zL (zf rfl) ?_|refine zL (zIs rfl rfl rfl) ?_|refine zV ?_|refine zG ?_|refine zAL ?_|refine zl rfl ?_|refine zBX rfl rfl ?_|refine zCj rfl rfl rfl ?_|refine zBu rfl ?_|refine zAq rfl ?_|refine zAP ?_|refine zAU ?_|refine zAJ ?_|refine zBK ?_|refine zDf ?_|refine zBJ ?_|refine zBI ?_|refine zBa ?_|refine zBQ ?_|refine zDq ?_|refine zPa ?_|refine zPb ?_|refine zL (zBp rfl rfl rfl rfl) ?_|refine zL (zY rfl rfl rfl rfl rfl) ?_|refine zL (zDS rfl rfl) ?_|refine zL (zEu rfl rfl) ?_|refine zL (zJY rfl rfl) ?_|refine zL (zJW rfl rfl) ?_|refine zL (zLX rfl) ?_|refine zL (zAj rfl rfl) ?_|refine zL (zCB rfl rfl) ?_|refine zL (zBh rfl rfl rfl) ?_|refine zL (zGl rfl rfl) ?_|refine zL (zCZ rfl rfl kK) ?_|refine zL (zc rfl rfl rfl rfl (by first|(simp only [Nat.zero_add,Int.toNat_natCast,Int.toNat_zero];exact rfl)|exact rfl) kK) ?_|refine zL (zAR rfl rfl rfl rfl rfl (by first|(simp only [Nat.zero_add,Int.toNat_natCast,Int.toNat_zero];exact rfl)|exact rfl) kK) ?_|refine zL (zGm rfl rfl) ?_|refine zL (zN rfl rfl rfl rfl rfl rfl) ?_|refine zL (zAc rfl rfl rfl rfl rfl rfl) ?_|refine zL (zEH rfl rfl rfl rfl rfl rfl rfl kH) ?_|refine ze rfl rfl rfl rfl rfl rfl rfl rfl rfl rfl rfl ?_|refine zGv rfl rfl ?_|refine zA7 rfl rfl rfl ?_));exact k.out):G:=h ⟨k⟩
theorem rn7 {G G':Prop}(k:G')(h:Hold G'→G:=by intro k;(repeat (first|refine zL (zH rfl) ?_|refine zL (zf rfl) ?_|refine zV ?_|refine zG ?_|refine zAL ?_|refine zl rfl ?_|refine zAP ?_|refine zAU ?_|refine zAJ ?_|refine zBK ?_|refine zL (zDS rfl rfl) ?_|refine zL (zHL rfl rfl) ?_|refine zL (zBh rfl rfl rfl) ?_|refine zL (zCZ rfl rfl kK) ?_|refine zL (zFl rfl rfl kK) ?_|refine zL (zAR rfl rfl rfl rfl rfl (by first|(simp only [Nat.zero_add,Int.toNat_natCast,Int.toNat_zero];exact rfl)|exact rfl) kK) ?_|refine zL (zF2 rfl rfl rfl rfl kU) ?_|refine zL (zh rfl) ?_|refine zL (zN rfl rfl rfl rfl rfl rfl) ?_|refine zL (zDF rfl rfl rfl kW kY (by first|(simp only [Nat.zero_add,Int.toNat_natCast,Int.toNat_zero];exact rfl)|exact rfl) kK) ?_|refine zL (zGI rfl rfl rfl rfl kW kY kY kH) ?_|refine zL (zAN rfl rfl rfl kW kY) ?_|refine zL (zHo rfl rfl rfl kW kU) ?_|refine zL (zBD rfl rfl rfl kW rfl kU) ?_|refine zBw rfl rfl rfl rfl rfl rfl rfl (by first|assumption|(show _<List.length _;first|assumption|omega)) ?_|refine zA7 rfl rfl rfl ?_));exact k.out):G:=h ⟨k⟩
theorem rn8 {G G':Prop}(k:G')(h:Hold G'→G:=by intro k;(repeat (first|refine zL (zH rfl) ?_|refine zL (zf rfl) ?_|refine zV ?_|refine zG ?_|refine zAL ?_|refine zl rfl ?_|refine zBX rfl rfl ?_|refine zAq rfl ?_|refine zBK ?_|refine zBQ ?_|refine zL (zY rfl rfl rfl rfl rfl) ?_|refine zL (zEu rfl rfl) ?_|refine zL (q_leq rfl rfl) ?_|refine zL (zHL rfl rfl) ?_|refine zL (zAj rfl rfl) ?_|refine zL (zBh rfl rfl rfl) ?_|refine zL (zGl rfl rfl) ?_|refine zL (zFl rfl rfl kK) ?_|refine zL (zBT rfl rfl rfl rfl rfl rfl) ?_|refine zL (zLY rfl rfl) ?_|refine zL (zCX rfl rfl rfl rfl) ?_|refine zL (zh rfl) ?_|refine zL (zN rfl rfl rfl rfl rfl rfl) ?_|refine zBw rfl rfl rfl rfl rfl rfl rfl Nat.zero_lt_one ?_|refine ze rfl rfl rfl rfl rfl rfl rfl rfl rfl rfl rfl ?_|refine zA7 rfl rfl rfl ?_));exact k.out):G:=h ⟨k⟩
theorem rn9 {G G':Prop}(k:G')(h:Hold G'→G:=by intro k;(repeat (first|refine zL (zH rfl) ?_|refine zL (zf rfl) ?_|refine zV ?_|refine zG ?_|refine zAL ?_|refine zl rfl ?_|refine zBu rfl ?_|refine zAq rfl ?_|refine zAP ?_|refine zAU ?_|refine zAJ ?_|refine zBK ?_|refine zL (zDG rfl rfl rfl) ?_|refine zL (zY rfl rfl rfl rfl rfl) ?_|refine zL (zEu rfl rfl) ?_|refine zL (zLX rfl) ?_|refine zL (zCB rfl rfl) ?_|refine zL (zBh rfl rfl rfl) ?_|refine zL (zCZ rfl rfl kK) ?_|refine zL (zc rfl rfl rfl rfl (by first|(simp only [Nat.zero_add,Int.toNat_natCast,Int.toNat_zero];exact rfl)|exact rfl) kK) ?_|refine zL (zBT rfl rfl rfl rfl rfl rfl) ?_|refine zL (zGm rfl rfl) ?_|refine zL (zN rfl rfl rfl rfl rfl rfl) ?_|refine zL (zEH rfl rfl rfl rfl rfl rfl rfl kH) ?_|refine zBw rfl rfl rfl rfl rfl rfl rfl Nat.zero_lt_one ?_|refine zA7 rfl rfl rfl ?_));exact k.out):G:=h ⟨k⟩
theorem zCS {G G':Prop}(k:G')(h:Hold G'→G:=by intro k;(repeat (first|refine zL (zH rfl) ?_|refine zL (zf rfl) ?_|refine zV ?_|refine zAL ?_|refine zl rfl ?_|refine zBX rfl rfl ?_|refine zAq rfl ?_|refine zAP ?_|refine zAU ?_|refine zBK ?_|refine zDf ?_|refine zBJ ?_|refine zBI ?_|refine zBa ?_|refine zL (zY rfl rfl rfl rfl rfl) ?_|refine zL (zLX rfl) ?_|refine zL (zCZ rfl rfl kK) ?_|refine zL (zAR rfl rfl rfl rfl rfl (by first|(simp only [Nat.zero_add,Int.toNat_natCast,Int.toNat_zero];exact rfl)|exact rfl) kK) ?_|refine zL (zF2 rfl rfl rfl rfl kU) ?_|refine zL (zOy rfl rfl rfl rfl kU) ?_|refine zL (zHn rfl rfl rfl rfl rfl kU) ?_|refine zL (zJX rfl) ?_|refine zL (zAw rfl rfl rfl rfl (by first|(simp only [Nat.zero_add,Int.toNat_natCast];exact rfl)|exact rfl) kK) ?_|refine zL (zDF rfl rfl rfl kW kY (by first|(simp only [Nat.zero_add,Int.toNat_natCast,Int.toNat_zero];exact rfl)|exact rfl) kK) ?_|refine zL (zGI rfl rfl rfl rfl kW kY kY kH) ?_|refine zBw rfl rfl rfl rfl rfl rfl rfl (by first|assumption|(show _<List.length _;first|assumption|omega)) ?_));exact k.out):G:=h ⟨k⟩
theorem zEW {G G':Prop}(k:G')(h:Hold G'→G:=by intro k;(repeat (first|refine zL (zH rfl) ?_|refine zL (zf rfl) ?_|refine zL (zIs rfl rfl rfl) ?_|refine zV ?_|refine zG ?_|refine zAL ?_|refine zBX rfl rfl ?_|refine zCj rfl rfl rfl ?_|refine zDf ?_|refine zBJ ?_|refine zBI ?_|refine zBa ?_|refine zBQ ?_|refine zL (zBp rfl rfl rfl rfl) ?_|refine zL (zEu rfl rfl) ?_|refine zL (zJW rfl rfl) ?_|refine zL (zAj rfl rfl) ?_|refine zL (zCB rfl rfl) ?_|refine zL (zBh rfl rfl rfl) ?_|refine zL (zGl rfl rfl) ?_|refine zL (zFl rfl rfl kK) ?_|refine zL (zc rfl rfl rfl rfl (by first|(simp only [Nat.zero_add,Int.toNat_natCast,Int.toNat_zero];exact rfl)|exact rfl) kK) ?_|refine zL (zGm rfl rfl) ?_|refine zL (zCX rfl rfl rfl rfl) ?_|refine zL (zEV rfl rfl rfl rfl rfl rfl kK) ?_|refine zL (zIr rfl rfl rfl rfl rfl rfl) ?_));exact k.out):G:=h ⟨k⟩
theorem rn12 {G G':Prop}(k:G')(h:Hold G'→G:=by intro k;(repeat (first|refine zL (zH rfl) ?_|refine zL (zf rfl) ?_|refine zV ?_|refine zG ?_|refine zAL ?_|refine zl rfl ?_|refine zBu rfl ?_|refine zAq rfl ?_|refine zAP ?_|refine zAJ ?_|refine zBK ?_|refine zL (zBp rfl rfl rfl rfl) ?_|refine zL (zEu rfl rfl) ?_|refine zL (zJY rfl rfl) ?_|refine zL (q_leq rfl rfl) ?_|refine zL (zHL rfl rfl) ?_|refine zL (zBh rfl rfl rfl) ?_|refine zL (zGl rfl rfl) ?_|refine zL (zCZ rfl rfl kK) ?_|refine zL (zc rfl rfl rfl rfl (by first|(simp only [Nat.zero_add,Int.toNat_natCast,Int.toNat_zero];exact rfl)|exact rfl) kK) ?_|refine zL (zCX rfl rfl rfl rfl) ?_|refine zL (q_min rfl rfl) ?_|refine zL (zJX rfl) ?_|refine zL (zO0 rfl rfl rfl (by first|assumption|omega|simp)) ?_|refine zL (zEV rfl rfl rfl rfl rfl rfl kK) ?_|refine zL (zIr rfl rfl rfl rfl rfl rfl) ?_));exact k.out):G:=h ⟨k⟩
theorem zBq {G G':Prop}(k:G')(h:Hold G'→G:=by intro k;(repeat (first|refine zL (zH rfl) ?_|refine zL (zf rfl) ?_|refine zV ?_|refine zG ?_|refine zBX rfl rfl ?_|refine zCj rfl rfl rfl ?_|refine zAq rfl ?_|refine zAP ?_|refine zBK ?_|refine zDf ?_|refine zBJ ?_|refine zBI ?_|refine zBa ?_|refine zK0 rfl ?_|refine zL (zY rfl rfl rfl rfl rfl) ?_|refine zL (zDS rfl rfl) ?_|refine zL (zJW rfl rfl) ?_|refine zL (zHL rfl rfl) ?_|refine zL (zLX rfl) ?_|refine zL (zAj rfl rfl) ?_|refine zL (zCB rfl rfl) ?_|refine zL (zCZ rfl rfl kK) ?_|refine zL (zFl rfl rfl kK) ?_|refine zL (zGm rfl rfl) ?_|refine zL (zh rfl) ?_|refine zL (zN rfl rfl rfl rfl rfl rfl) ?_));exact k.out):G:=h ⟨k⟩
theorem rn14 {G G':Prop}(k:G')(h:Hold G'→G:=by intro k;(repeat (first|refine zL (zH rfl) ?_|refine zL (zf rfl) ?_|refine zV ?_|refine zG ?_|refine zAL ?_|refine zl rfl ?_|refine zBX rfl rfl ?_|refine zF9 rfl rfl ?_|refine zCj rfl rfl rfl ?_|refine zAq rfl ?_|refine zAP ?_|refine zBK ?_|refine zDf ?_|refine zBJ ?_|refine zBI ?_|refine zBa ?_|refine zK0 rfl ?_|refine zBQ ?_|refine zL (zJW rfl rfl) ?_|refine zL (zAj rfl rfl) ?_|refine zL (zBh rfl rfl rfl) ?_|refine zL (zCZ rfl rfl kK) ?_|refine zL (zIt rfl rfl rfl rfl rfl rfl rfl kK) ?_|refine zL (zBT rfl rfl rfl rfl rfl rfl) ?_|refine zGv rfl rfl ?_|refine zA7 rfl rfl rfl ?_));exact k.out):G:=h ⟨k⟩
theorem rn15 {G G':Prop}(k:G')(h:Hold G'→G:=by intro k;(repeat (first|refine zL (zH rfl) ?_|refine zL (zf rfl) ?_|refine zV ?_|refine zG ?_|refine zAL ?_|refine zl rfl ?_|refine zAJ ?_|refine zDf ?_|refine zBJ ?_|refine zBI ?_|refine zBa ?_|refine zL (zY rfl rfl rfl rfl rfl) ?_|refine zL (zEu rfl rfl) ?_|refine zL (zJW rfl rfl) ?_|refine zL (zBh rfl rfl rfl) ?_|refine zL (zCZ rfl rfl kK) ?_|refine zL (q_quo rfl rfl kK) ?_|refine zL (zBT rfl rfl rfl rfl rfl rfl) ?_|refine zL (zCX rfl rfl rfl rfl) ?_|refine zL (q_max rfl rfl) ?_|refine zL (zh rfl) ?_|refine zL (zL5 rfl) ?_|refine zL (zN rfl rfl rfl rfl rfl rfl) ?_|refine zL (zAN rfl rfl rfl kW kY) ?_|refine ze rfl rfl rfl rfl rfl rfl rfl rfl rfl rfl rfl ?_|refine zGv rfl rfl ?_));exact k.out):G:=h ⟨k⟩
theorem rn16 {G G':Prop}(k:G')(h:Hold G'→G:=by intro k;(repeat (first|refine zL (zH rfl) ?_|refine zL (zf rfl) ?_|refine zV ?_|refine zG ?_|refine zAL ?_|refine zl rfl ?_|refine zBX rfl rfl ?_|refine zF9 rfl rfl ?_|refine zCj rfl rfl rfl ?_|refine zBu rfl ?_|refine zAq rfl ?_|refine zBK ?_|refine zBQ ?_|refine zDq ?_|refine zL (zLX rfl) ?_|refine zL (zAj rfl rfl) ?_|refine zL (zBh rfl rfl rfl) ?_|refine zL (zGl rfl rfl) ?_|refine zL (zCZ rfl rfl kK) ?_|refine zL (zFl rfl rfl kK) ?_|refine zL (zAR rfl rfl rfl rfl rfl (by first|(simp only [Nat.zero_add,Int.toNat_natCast,Int.toNat_zero];exact rfl)|exact rfl) kK) ?_|refine zL (zLY rfl rfl) ?_|refine zL (zCX rfl rfl rfl rfl) ?_|refine zL (zEV rfl rfl rfl rfl rfl rfl kK) ?_|refine zL (zIr rfl rfl rfl rfl rfl rfl) ?_|refine zBw rfl rfl rfl rfl rfl rfl rfl (by first|assumption|(show _<List.length _;first|assumption|omega)) ?_));exact k.out):G:=h ⟨k⟩
theorem rn17 {G G':Prop}(k:G')(h:Hold G'→G:=by intro k;(repeat (first|refine zL (zH rfl) ?_|refine zL (zf rfl) ?_|refine zL (zIs rfl rfl rfl) ?_|refine zV ?_|refine zG ?_|refine zAL ?_|refine zl rfl ?_|refine zAP ?_|refine zAJ ?_|refine zBK ?_|refine zDf ?_|refine zBJ ?_|refine zBI ?_|refine zBa ?_|refine zBQ ?_|refine zL (zY rfl rfl rfl rfl rfl) ?_|refine zL (zEu rfl rfl) ?_|refine zL (zCZ rfl rfl kK) ?_|refine zL (zc rfl rfl rfl rfl (by first|(simp only [Nat.zero_add,Int.toNat_natCast,Int.toNat_zero];exact rfl)|exact rfl) kK) ?_|refine zL (zAR rfl rfl rfl rfl rfl (by first|(simp only [Nat.zero_add,Int.toNat_natCast,Int.toNat_zero];exact rfl)|exact rfl) kK) ?_|refine zL (zF2 rfl rfl rfl rfl kU) ?_|refine zL (zHn rfl rfl rfl rfl rfl kU) ?_|refine zL (zQN rfl rfl rfl rfl rfl rfl rfl rfl kK) ?_|refine zL (zN rfl rfl rfl rfl rfl rfl) ?_|refine zBw rfl rfl rfl rfl rfl rfl rfl (by first|assumption|(show _<List.length _;first|assumption|omega)) ?_));exact k.out):G:=h ⟨k⟩
theorem rn18 {G G':Prop}(k:G')(h:Hold G'→G:=by intro k;(repeat (first|refine zL (zH rfl) ?_|refine zL (zf rfl) ?_|refine zV ?_|refine zG ?_|refine zAL ?_|refine zl rfl ?_|refine zCj rfl rfl rfl ?_|refine zBu rfl ?_|refine zAJ ?_|refine zBK ?_|refine zL (zDG rfl rfl rfl) ?_|refine zL (zBp rfl rfl rfl rfl) ?_|refine zL (zEu rfl rfl) ?_|refine zL (zJY rfl rfl) ?_|refine zL (zLX rfl) ?_|refine zL (zAj rfl rfl) ?_|refine zL (zCB rfl rfl) ?_|refine zL (zc rfl rfl rfl rfl (by first|(simp only [Nat.zero_add,Int.toNat_natCast,Int.toNat_zero];exact rfl)|exact rfl) kK) ?_|refine zL (zBT rfl rfl rfl rfl rfl rfl) ?_|refine zL (zLY rfl rfl) ?_|refine zL (zJX rfl) ?_|refine zL (zDF rfl rfl rfl kW kY (by first|(simp only [Nat.zero_add,Int.toNat_natCast,Int.toNat_zero];exact rfl)|exact rfl) kK) ?_|refine zL (zBD rfl rfl rfl kW rfl kU) ?_|refine zBw rfl rfl rfl rfl rfl rfl rfl Nat.zero_lt_one ?_|refine ze rfl rfl rfl rfl rfl rfl rfl rfl rfl rfl rfl ?_|refine zA7 rfl rfl rfl ?_));exact k.out):G:=h ⟨k⟩
theorem rn19 {G G':Prop}(k:G')(h:Hold G'→G:=by intro k;(repeat (first|refine zL (zH rfl) ?_|refine zL (zf rfl) ?_|refine zV ?_|refine zG ?_|refine zAL ?_|refine zl rfl ?_|refine zBX rfl rfl ?_|refine zAP ?_|refine zAJ ?_|refine zBK ?_|refine zL (zBp rfl rfl rfl rfl) ?_|refine zL (zJY rfl rfl) ?_|refine zL (zBh rfl rfl rfl) ?_|refine zL (zGl rfl rfl) ?_|refine zL (zFl rfl rfl kK) ?_|refine zL (zc rfl rfl rfl rfl (by first|(simp only [Nat.zero_add,Int.toNat_natCast,Int.toNat_zero];exact rfl)|exact rfl) kK) ?_|refine zL (zIt rfl rfl rfl rfl rfl rfl rfl kK) ?_|refine zL (zO0 rfl rfl rfl (by first|assumption|omega|simp)) ?_|refine zL (zAc rfl rfl rfl rfl rfl rfl) ?_));exact k.out):G:=h ⟨k⟩
theorem rn20 {G G':Prop}(k:G')(h:Hold G'→G:=by intro k;(repeat (first|refine zV ?_|refine zG ?_|refine zAL ?_|refine zAJ ?_|refine zBK ?_|refine zL (zJX rfl) ?_|refine zBw rfl rfl rfl rfl rfl rfl rfl Nat.zero_lt_one ?_|refine zA7 rfl rfl rfl ?_));exact k.out):G:=h ⟨k⟩
end Go.Ax
namespace Go.Ax.Bg
abbrev B:Nat:=4294967296
def zi:List Int→Nat
 |[]=>0
 |x::r=>x.toNat+B*zi r
def zW (n:Nat):List Int:=if h:n=0 then [] else ((n%B:Nat):Int)::zW (n/B)
termination_by n
decreasing_by exact Nat.div_lt_self (Nat.pos_of_ne_zero h) kV
def Lim (l:List Int):Prop:= ∀x∈l,0≤x∧x<4294967296
theorem zCA:zW 0=[]:=by rw [zW,dif_pos rfl]
theorem zHk {n:Nat}(h:n≠0):zW n=((n%B:Nat):Int)::zW (n/B):=by rw [zW,dif_neg h]
theorem zAK (n:Nat):zi (zW n)=n:=by
 induction n using Nat.strongRecOn with
 |_ n ih=>
  by_cases h:n=0
  ·subst h;rw [zCA];rfl
  ·rw [zHk h,zi,ih _ (Nat.div_lt_self (Nat.pos_of_ne_zero h) kV),Int.toNat_natCast]
   exact Nat.mod_add_div n B
theorem Lim.cons {x:Int}{r:List Int}:Lim (x::r)↔(0≤x∧x<4294967296)∧Lim r:=by simp [Lim]
theorem Lim.append {l m:List Int}:Lim (l++m)↔Lim l∧Lim m:=by
 constructor
 ·exact fun h=>⟨fun x hx=>h x (List.mem_append_left _ hx),fun x hx=>h x (List.mem_append_right _ hx)⟩
 ·rintro ⟨h1,h2⟩ x hx
  rcases List.mem_append.1 hx with h|h
  ·exact h1 x h
  ·exact h2 x h
theorem Lim.nil:Lim []:=fun x hx=>by simp at hx
theorem Lim.one {x:Int}(h:0≤x∧x<4294967296):Lim [x]:=by rw [Lim.cons];exact ⟨h,Lim.nil⟩
theorem zAd (n:Nat):Lim (zW n):=by
 induction n using Nat.strongRecOn with
 |_ n ih=>
  by_cases h:n=0
  ·subst h;rw [zCA];exact Lim.nil
  ·rw [zHk h,Lim.cons]
   refine ⟨?_,ih _ (Nat.div_lt_self (Nat.pos_of_ne_zero h) kV)⟩
   have:=Nat.mod_lt n (show 0<B by decide)
   unfold B at this⊢;omega
theorem Lim.get {l:List Int}(h:Lim l){i:Nat}(hi:i<l.length):0≤l.getD i 0∧l.getD i 0<4294967296:=h _ (z6 0 hi)
theorem Lim.take {l:List Int}(h:Lim l)(k:Nat):Lim (l.take k):=fun x hx=>h x (List.mem_of_mem_take hx)
theorem zDK (l m:List Int):zi (l++m)=zi l+B^l.length*zi m:=by
 induction l with
 |nil=>simp [zi]
 |cons x r ih=>
  rw [List.cons_append,zi,zi,ih,List.length_cons,Nat.pow_succ]
  rw [Nat.mul_add,Nat.add_assoc,Nat.mul_comm (B^r.length) B,Nat.mul_assoc]
theorem zA6 {l:List Int}(h:Lim l):zi l<B^l.length:=by
 induction l with
 |nil=>simp [zi]
 |cons x r ih=>
  rw [Lim.cons] at h
  have i:=ih h.2
  rw [zi,List.length_cons,Nat.pow_succ]
  have hx:x.toNat<B:=by unfold B;omega
  have:zi r+1≤B^r.length:=i
  calc x.toNat+B*zi r<B+B*zi r:=kK
   _=B*(zi r+1):=by rw [Nat.mul_add,Nat.mul_one];omega
   _≤B*B^r.length:=Nat.mul_le_mul_left _ this
   _=B^r.length*B:=Nat.mul_comm _ _
theorem zI3 (k:Nat):zi (List.replicate k 0)=0:=by
 induction k with
 |zero=>rfl
 |succ k ih=>rw [List.replicate_succ,zi,ih];rfl
theorem zOj {l:List Int}(h:Lim l)(hz:l=[]∨l.getD (l.length-1) 0≠0):zW (zi l)=l:=by
 induction l with
 |nil=>exact zCA
 |cons x r ih=>
  rw [Lim.cons] at h
  have hx:x.toNat<B:=by unfold B;omega
  have hxe:((x.toNat:Nat):Int)=x:=kK
  have hr:r=[]∨r.getD (r.length-1) 0≠0:=by
   cases r with
   |nil=>exact .inl rfl
   |cons y q=>
    right
    rcases hz with hz|hz
    ·cases hz
    ·simpa using hz
  have i:=ih h.2 hr
  have hne:zi (x::r)≠0:=by
   rw [zi]
   cases r with
   |nil=>
    rcases hz with hz|hz
    ·cases hz
    ·simp at hz;simp [zi];omega
   |cons y q=>
    intro h0
    have h1:zi (y::q)=0:=by
     have:B*zi (y::q)=0:=kK
     rcases Nat.mul_eq_zero.1 this with h|h
     ·exact absurd h kV
     ·exact h
    rw [h1,zCA] at i
    cases i
  rw [zHk hne]
  have e1:zi (x::r)%B=x.toNat:=by rw [zi,Nat.add_mul_mod_self_left,Nat.mod_eq_of_lt hx]
  have e2:zi (x::r)/B=zi r:=by
   rw [zi,Nat.add_mul_div_left _ _ kV,Nat.div_eq_of_lt hx,Nat.zero_add]
  rw [e1,e2,i,hxe]
theorem zMk {n:Nat}:zW n=[]∨(zW n).getD ((zW n).length-1) 0≠0:=by
 induction n using Nat.strongRecOn with
 |_ n ih=>
  by_cases h:n=0
  ·subst h;exact .inl zCA
  ·right
   rw [zHk h]
   have hlt:=Nat.div_lt_self (Nat.pos_of_ne_zero h) (show 1<B by decide)
   rcases ih (n/B) hlt with h1|h1
   ·rw [h1]
    have:n/B=0:=by
     have:=zAK (n/B)
     rw [h1] at this;exact this.symm
    have hn:n<B:=by
     rcases Nat.lt_or_ge n B with q|q
     ·exact q
     ·have:=Nat.div_pos q (show 0<B by decide);omega
    simp only [List.length_cons,List.length_nil,Nat.zero_add,Nat.sub_self,List.getD_cons_zero]
    rw [Nat.mod_eq_of_lt hn];omega
   ·cases hq:zW (n/B) with
    |nil=>rw [hq] at h1;simp at h1
    |cons y q=>
     rw [hq] at h1
     simpa using h1
theorem zSV {l:List Int}(h:Lim l){k:Nat}(hk:k≤l.length)(h0: ∀i,k≤i→i<l.length→l.getD i 0=0)(hz:k=0∨l.getD (k-1) 0≠0):l.take k=zW (zi l):=by
 have e:l.drop k=List.replicate (l.length-k) 0:=by
  apply List.ext_getElem
  ·simp
  ·intro i h1 h2
   simp only [List.length_drop] at h1
   have:=h0 (k+i) kK kK
   rw [zDP 0 kK] at this
   simpa using this
 have hv:zi l=zi (l.take k):=by
  conv=>lhs;rw [←List.take_append_drop k l]
  rw [zDK,e,zI3,Nat.mul_zero,Nat.add_zero]
 rw [hv,zOj (h.take k)]
 rcases hz with hz|hz
 ·subst hz;exact .inl kJ
 ·right
  rw [List.length_take,Nat.min_eq_left hk]
  have hk0:k≠0:=fun e=>by
   subst e
   cases l with
   |nil=>simp at hz
   |cons x r=>exact hz (h0 0 (Nat.le_refl _) kJ)
  simp only [List.getD,List.getElem?_take,show k-1<k by omega,if_true]
  exact hz
theorem zAh {n k:Nat}(h:n<B^k):(zW n).length≤k:=by
 rcases zMk (n:=n) with h1|h1
 ·rw [h1];exact Nat.zero_le _
 ·rcases Nat.lt_or_ge k (zW n).length with hl|hl
  ·exfalso
   have hv:=zAK n
   have hsplit:=zDK ((zW n).take ((zW n).length-1)) ((zW n).drop ((zW n).length-1))
   rw [List.take_append_drop,hv] at hsplit
   have hd:(zW n).drop ((zW n).length-1)=[(zW n).getD ((zW n).length-1) 0]:=by
    rw [zCc (zW n) 0 _ kK,List.drop_of_length_le kK]
   have hg:=(zAd n).get (i:=(zW n).length-1) kK
   rw [hd] at hsplit
   simp only [zi,Nat.mul_zero,Nat.add_zero,List.length_take] at hsplit
   rw [Nat.min_eq_left kK] at hsplit
   have hx:1≤((zW n).getD ((zW n).length-1) 0).toNat:=kK
   have hp:B^k≤B^((zW n).length-1):=Nat.pow_le_pow_right kV kK
   have:B^((zW n).length-1)*1≤B^((zW n).length-1)*((zW n).getD ((zW n).length-1) 0).toNat:=Nat.mul_le_mul_left _ hx
   omega
  ·exact hl
theorem zOi {n k:Nat}(h:B^k≤n):k<(zW n).length:=by
 have h1:=zA6 (zAd n)
 rw [zAK] at h1
 exact (Nat.pow_lt_pow_iff_right (show 1<B by decide)).1 (Nat.lt_of_le_of_lt h h1)
theorem natL_inj {a b:Nat}(h:zW a=zW b):a=b:=by rw [←zAK a,←zAK b,h]
theorem natL_nil {n:Nat}:zW n=[]↔n=0:=by
 constructor
 ·intro h;rw [←zAK n,h];rfl
 ·rintro rfl;exact zCA
theorem zFq {l:List Int}(i:Nat)(hi:i<l.length):zi (l.take (i+1))=zi (l.take i)+B^i*(l.getD i 0).toNat:=by
 rw [zA0 l 0 i hi,zDK]
 simp only [zi,Nat.mul_zero,Nat.add_zero,List.length_take]
 rw [Nat.min_eq_left kK]
theorem zEa {l:List Int}(x:Int):zi (l++[x])=zi l+B^l.length*x.toNat:=by
 rw [zDK];simp only [zi,Nat.mul_zero,Nat.add_zero]
theorem zMM {a b:List Int}(i:Nat)(ha:Lim a)(hb:Lim b)(hl:a.length=b.length)(hi:i<a.length)(he: ∀j,i<j→j<a.length→a.getD j 0=b.getD j 0)(hlt:a.getD i 0<b.getD i 0):zi a<zi b:=by
 have hd:a.drop (i+1)=b.drop (i+1):=by
  apply List.ext_getElem
  ·simp [hl]
  ·intro j h1 h2
   simp only [List.length_drop] at h1 h2
   have:=he (i+1+j) kK kK
   rw [zDP 0 kK,zDP 0 kK] at this
   simpa using this
 have ea:zi a=zi (a.take (i+1))+B^(i+1)*zi (a.drop (i+1)):=by
  conv=>lhs;rw [←List.take_append_drop (i+1) a]
  rw [zDK,List.length_take,Nat.min_eq_left kK]
 have eb:zi b=zi (b.take (i+1))+B^(i+1)*zi (b.drop (i+1)):=by
  conv=>lhs;rw [←List.take_append_drop (i+1) b]
  rw [zDK,List.length_take,Nat.min_eq_left kK]
 rw [ea,eb,hd,zFq i hi,zFq i kK]
 have h1:=zA6 (ha.take i)
 rw [List.length_take,Nat.min_eq_left kK] at h1
 have hga:=ha.get hi
 have hgb:=hb.get (i:=i) kK
 have h2:B^i*((a.getD i 0).toNat+1)≤B^i*(b.getD i 0).toNat:=Nat.mul_le_mul_left _ kK
 rw [Nat.mul_add,Nat.mul_one] at h2
 omega
theorem zL0 {l:List Int}{i:Nat}{x:Int}(hi:i<l.length):zi (l.set i x)+B^i*(l.getD i 0).toNat=zi l+B^i*x.toNat:=by
 induction l generalizing i with
 |nil=>simp at hi
 |cons y r ih=>
  cases i with
  |zero=>simp only [List.set_cons_zero,zi,Nat.pow_zero,Nat.one_mul,List.getD_cons_zero];omega
  |succ i=>
   have h:=ih (i:=i) (by simpa using hi)
   simp only [List.set_cons_succ,zi,List.getD_cons_succ,Nat.pow_succ]
   have e1:B^i*B*(r.getD i 0).toNat=B*(B^i*(r.getD i 0).toNat):=by rw [Nat.mul_comm (B^i) B,Nat.mul_assoc]
   have e2:B^i*B*x.toNat=B*(B^i*x.toNat):=by rw [Nat.mul_comm (B^i) B,Nat.mul_assoc]
   rw [e1,e2]
   have e3:B*(zi (r.set i x)+B^i*(r.getD i 0).toNat)=B*(zi r+B^i*x.toNat):=by rw [h]
   rw [Nat.mul_add,Nat.mul_add] at e3
   omega
theorem Lim.set {l:List Int}(h:Lim l){i:Nat}{x:Int}(hx:0≤x∧x<4294967296):Lim (l.set i x):=fun y hy=>by
 rcases List.mem_or_eq_of_mem_set hy with h1|h1
 ·exact h y h1
 ·subst h1;exact hx
theorem Lim.zeros (k:Nat):Lim (List.replicate k 0):=fun x hx=>by rw [(List.mem_replicate.1 hx).2];omega
theorem zIo (c:Nat)(p:Nat):p*(c%B)+p*B*(c/B)=p*c:=by
 rw [Nat.mul_assoc,←Nat.mul_add,Nat.mod_add_div]
theorem zIy {out:List Int}{i c t u:Nat}(hl:out.length=i)(h:zi out+B^i*t=u){d:Nat}(hc:c=t+d):zi (out++[((c%B:Nat):Int)])+B^(i+1)*(c/B)=u+B^i*d:=by
 rw [zEa,hl,Int.toNat_natCast,Nat.pow_succ]
 have:=zIo c (B^i)
 have e:B^i*c=B^i*t+B^i*d:=by rw [hc,Nat.mul_add]
 omega
theorem zEd (c:Nat):0≤((c%B:Nat):Int)∧((c%B:Nat):Int)<4294967296:=by
 have:=Nat.mod_lt c (show 0<B by decide)
 unfold B at this⊢;omega
theorem est_ge {u v U V P q:Nat}(hP:0<P)(hu:u<(U+1)*P)(hv:V*P≤v)(hq:q*v≤u):q*V≤U:=by
 have h1:q*V*P≤q*v:=by rw [Nat.mul_assoc];exact Nat.mul_le_mul_left _ hv
 have h2:q*V*P<(U+1)*P:=Nat.lt_of_le_of_lt (Nat.le_trans h1 hq) hu
 have:=Nat.lt_of_mul_lt_mul_right h2
 omega
theorem est_le {u v U V P g:Nat}(hP:0<P)(hu:U*P≤u)(hv:v≤(V+1)*P)(hg:g*V≤U)(hgV:g≤V+1)(h1:1≤g):(g-1)*v≤u:=by
 have a:(g-1)*v≤(g-1)*((V+1)*P):=Nat.mul_le_mul_left _ hv
 have b:(g-1)*((V+1)*P)=(g-1)*(V+1)*P:=by rw [Nat.mul_assoc]
 have c:(g-1)*(V+1)≤g*V:=by
  obtain ⟨k,rfl⟩: ∃k,g=k+1:=⟨g-1,kK⟩
  simp only [Nat.add_sub_cancel]
  rw [Nat.mul_add,Nat.add_mul]
  omega
 have d:(g-1)*(V+1)*P≤U*P:=Nat.mul_le_mul_right _ (Nat.le_trans c hg)
 omega
theorem zAF (l:List Int)(i:Nat):zi (l.take (i+1))=zi (l.take i)+B^i*(l.getD i 0).toNat:=by
 rcases Nat.lt_or_ge i l.length with h|h
 ·exact zFq i h
 ·rw [List.take_of_length_le h,List.take_of_length_le kK]
  have:l.getD i 0=0:=by simp [List.getD,List.getElem?_eq_none h]
  rw [this];simp
theorem Lim.get' {l:List Int}(h:Lim l)(i:Nat):0≤l.getD i 0∧l.getD i 0<4294967296:=by
 rcases Nat.lt_or_ge i l.length with hi|hi
 ·exact h.get hi
 ·have:l.getD i 0=0:=by simp [List.getD,List.getElem?_eq_none hi]
  omega
theorem Lim.nat {l:List Int}(h:Lim l)(i:Nat): ∃d:Nat,l.getD i 0=(d:Int)∧d<4294967296:=by
 have:=h.get' i
 exact ⟨(l.getD i 0).toNat,kK,kK⟩
theorem zS8 (l:List Int)(i:Nat):zi l=zi (l.take i)+B^(min i l.length)*zi (l.drop i):=by
 conv=>lhs;rw [←List.take_append_drop i l]
 rw [zDK,List.length_take]
theorem zLz (l:List Int)(i:Nat):zi (l.drop i)=(l.getD i 0).toNat+B*zi (l.drop (i+1)):=by
 rcases Nat.lt_or_ge i l.length with h|h
 ·rw [zCc l 0 i h,zi]
 ·rw [List.drop_of_length_le h,List.drop_of_length_le kK]
  have:l.getD i 0=0:=by simp [List.getD,List.getElem?_eq_none h]
  rw [this];simp [zi]
theorem zI2 {l:List Int}(h:Lim l){k:Nat}(hv:zi l<B^k):zi (l.take k)=zi l:=by
 rcases Nat.lt_or_ge k l.length with hl|hl
 ·have e:=zS8 l k
  rw [Nat.min_eq_left kK] at e
  have:zi (l.drop k)=0:=by
   rcases Nat.eq_zero_or_pos (zi (l.drop k)) with h0|h0
   ·exact h0
   ·exfalso
    have:B^k*1≤B^k*zi (l.drop k):=Nat.mul_le_mul_left _ h0
    omega
  rw [this] at e
  omega
 ·rw [List.take_of_length_le hl]
theorem zSF {l:List Int}{k i:Nat}(h:i<k):(l.take k).getD i 0=l.getD i 0:=by
 simp only [List.getD,List.getElem?_take,h,if_true]
theorem zS3 {l:List Int}(hl:Lim l):l.take (zW (zi l)).length=zW (zi l):=by
 have h:=zAh (zA6 hl)
 have hsm:=zA6 (zAd (zi l))
 rw [zAK] at hsm
 have hv:=zI2 hl hsm
 obtain ⟨n,hn⟩: ∃n,(zW (zi l)).length=n:=⟨_,rfl⟩
 rw [hn] at h hsm hv⊢
 rcases Nat.eq_zero_or_pos n with q|q
 ·subst q
  rw [List.take_zero,List.length_eq_zero_iff.1 hn]
 ·have e:=zOj (hl.take n) (.inr (fun h9=> ?_))
  ·rw [hv] at e;exact e.symm
  ·rw [List.length_take,Nat.min_eq_left h,zSF kK] at h9
   have hlast:=zAF l (n-1)
   rw [show n-1+1=n by omega,hv,h9] at hlast
   have h5:=zA6 (hl.take (n-1))
   rw [List.length_take,Nat.min_eq_left kK] at h5
   have h6:zi l<B^(n-1):=by rw [hlast];simpa using h5
   have:=zAh h6
   omega
theorem zPU (n i:Nat):(List.replicate n (0:Int)).getD i 0=0:=by
 simp only [List.getD,List.getElem?_replicate]
 split<;>rfl
theorem bpos (i:Nat):0<B^i:=Nat.pow_pos kV
theorem zN0 {out x y:List Int}{i cr d e:Nat}(hl:out.length=i)(h:zi out+B^i*cr=zi (x.take i)+zi (y.take i))(hd:x.getD i 0=(d:Int))(he:y.getD i 0=(e:Int)):
 zi (out++[(((cr+d+e)%4294967296:Nat):Int)])+B^(i+1)*((cr+d+e)/4294967296)=zi (x.take (i+1))+zi (y.take (i+1)):=by
 have:=zIy hl h (c:=cr+d+e) (d:=d+e) kK
 rw [zAF,zAF,hd,he,Int.toNat_natCast,Int.toNat_natCast]
 rw [Nat.mul_add] at this
 unfold B at*
 omega
theorem zSz {out x y:List Int}{i br d e yv br':Nat}(hl:out.length=i)(h:zi out+zi (y.take i)=zi (x.take i)+B^i*br)(hd:x.getD i 0=(d:Int))(he:y.getD i 0=(e:Int))(hy:yv+br+e=d+4294967296*br'):
 zi (out++[(yv:Int)])+zi (y.take (i+1))=zi (x.take (i+1))+B^(i+1)*br':=by
 rw [zAF,zAF,hd,he,Int.toNat_natCast,Int.toNat_natCast,zEa,hl,Int.toNat_natCast,Nat.pow_succ,Nat.mul_assoc]
 have h3:B^i*yv+B^i*br+B^i*e=B^i*d+B^i*(B*br'):=by rw [←Nat.mul_add,←Nat.mul_add,←Nat.mul_add];exact congrArg _ hy
 omega
theorem mul_step {out:List Int}{p cr a b o u:Nat}(hp:p<out.length)(h:zi out+B^p*cr=u)(ho:out.getD p 0=(o:Int)):
 zi (out.set p (((cr+(a*b+o))%4294967296:Nat):Int))+B^(p+1)*((cr+(a*b+o))/4294967296)=u+B^p*(a*b):=by
 have h1:=zL0 (x:=(((cr+(a*b+o))%4294967296:Nat):Int)) hp
 rw [ho,Int.toNat_natCast,Int.toNat_natCast] at h1
 have h2:=zIo (cr+(a*b+o)) (B^p)
 rw [Nat.pow_succ]
 have e:B^p*(cr+(a*b+o))=B^p*cr+(B^p*(a*b)+B^p*o):=by rw [Nat.mul_add,Nat.mul_add]
 rw [e] at h2
 unfold B at*
 omega
theorem zEC {l:List Int}{i j:Nat}{x:Int}(h:i≠j):(l.set i x).getD j 0=l.getD j 0:=by
 simp only [List.getD,List.getElem?_set_ne h]
theorem zNR {l:List Int}{i:Nat}{x:Int}(h:i<l.length):(l.set i x).drop i=x::l.drop (i+1):=by
 have h2:i<(l.set i x).length:=by simpa using h
 rw [zCc (l.set i x) 0 i h2]
 congr 1
 ·simp [List.getD,h]
 ·rw [List.drop_set_of_lt kK]
theorem p32:(2:Nat)^32=4294967296:=kV
theorem zJ9 {a:Nat}(h:a<4294967296):a*2^32<18446744073709551616:=by
 have e:a*2^32=a*4294967296:=congrArg (a* ·) p32
 rw [e];omega
theorem zQE {a b:Nat}(h:b<4294967296):a*2^32|||b=a*4294967296+b:=by
 have:=Nat.two_pow_add_eq_or_of_lt (i:=32) (b:=b) (by simpa using h) a
 rw [Nat.mul_comm (2^32) a] at this
 rw [←this]
def zEl (x y:Int):Int:=if x<y then-1 else if y<x then 1 else 0
theorem zJE {x y:Int}(h:x<y):zEl x y= -1:=if_pos h
theorem zJD {x y:Int}(h:y<x):zEl x y=1:=by unfold zEl;rw [if_neg kK,if_pos h]
theorem zQl {x y:Int}(h:x=y):zEl x y=0:=by unfold zEl;rw [if_neg kK,if_neg kK]
theorem cmp_len (a b:Nat)(h:(zW a).length≠(zW b).length):zEl a b=zEl (zW a).length (zW b).length:=by
 have key: ∀u v:Nat,(zW u).length<(zW v).length→u<v:=by
  intro u v huv
  rcases Nat.lt_or_ge u v with q|q
  ·exact q
  ·exfalso
   have h1:=zA6 (zAd u)
   rw [zAK] at h1
   have h2:v<B^(zW u).length:=Nat.lt_of_le_of_lt q h1
   have:=zAh h2
   omega
 rcases Nat.lt_or_ge (zW a).length (zW b).length with q|q
 ·rw [zJE (Int.ofNat_lt.2 q),zJE (Int.ofNat_lt.2 (key a b q))]
 ·have q':(zW b).length<(zW a).length:=kK
  rw [zJD (Int.ofNat_lt.2 q'),zJD (Int.ofNat_lt.2 (key b a q'))]
theorem cmp_limb {a b:Nat}(ha:Lim (zW a))(hb:Lim (zW b))(hl:(zW a).length=(zW b).length){i:Nat}(hi:i<(zW a).length)(he: ∀j,i<j→j<(zW a).length→(zW a).getD j 0=(zW b).getD j 0)(hne:(zW a).getD i 0≠(zW b).getD i 0):
 zEl a b=zEl ((zW a).getD i 0) ((zW b).getD i 0):=by
 rcases Int.lt_trichotomy ((zW a).getD i 0) ((zW b).getD i 0) with q|q|q
 ·have:=zMM i ha hb hl hi he q
  rw [zAK,zAK] at this
  rw [zJE q,zJE (Int.ofNat_lt.2 this)]
 ·exact absurd q hne
 ·have:=zMM i hb ha hl.symm kK (fun j h1 h2=>(he j h1 kK).symm) q
  rw [zAK,zAK] at this
  rw [zJD q,zJD (Int.ofNat_lt.2 this)]
theorem cmp_same {a b:Nat}(hl:(zW a).length=(zW b).length)(he: ∀j,j<(zW a).length→(zW a).getD j 0=(zW b).getD j 0):zEl a b=0:=by
 have:zW a=zW b:=by
  apply List.ext_getElem hl
  intro i h1 h2
  have:=he i h1
  rw [zDP 0 h1,zDP 0 h2] at this
  exact this
 rw [zQl (by rw [natL_inj this])]
theorem guess_ge {B top v1 v2 u2 g:Nat}(hv1:0<v1)(h2:u2<B)(hg:g*(v1*B+v2)≤top*B+u2):g≤top/v1:=by
 rw [Nat.le_div_iff_mul_le hv1]
 have:g*v1*B≤top*B+u2:=by
  refine Nat.le_trans ?_ hg
  rw [Nat.mul_add,Nat.mul_assoc]
  exact Nat.le_add_right _ _
 have:g*v1*B<(top+1)*B:=by rw [Nat.add_mul];omega
 have:=Nat.lt_of_mul_lt_mul_right this
 omega
theorem zP1 {B top v1 v2 u2 g rest:Nat}(hr:rest+g*v1=top)(hg:g<B)(h2:v2<B):(rest<B∧rest*B+u2<g*v2)↔top*B+u2<g*(v1*B+v2):=by
 have e:g*(v1*B+v2)=g*v1*B+g*v2:=by rw [Nat.mul_add,Nat.mul_assoc]
 have e2:top*B=rest*B+g*v1*B:=by rw [←hr,Nat.add_mul]
 rw [e,e2]
 constructor
 ·rintro ⟨_,h⟩;omega
 ·intro h
  refine ⟨?_,kK⟩
  rcases Nat.lt_or_ge rest B with q|q
  ·exact q
  ·exfalso
   have h3:B*B≤rest*B:=Nat.mul_le_mul_right _ q
   have h4:g*v2≤B*B:=Nat.mul_le_mul kK kK
   omega
theorem sub_step {P w g va u0 c b t y:Nat}(h:w+g*va=u0+P*(c+b)){ui:Nat}(b':Nat)(hx:(y:Int)=(ui:Int)-((c+t)%B:Nat)-b+B*b'):
 w+P*y+(g*va+P*t)=u0+P*ui+P*B*((c+t)/B+b'):=by
 have e:P*((c+t)%B)+P*B*((c+t)/B)=P*(c+t):=zIo (c+t) P
 have h1:(y:Int)+((c+t)%B:Nat)+b=ui+B*b':=kK
 have h2:y+(c+t)%B+b=ui+B*b':=kK
 have h3:P*y+P*((c+t)%B)+P*b=P*ui+P*(B*b'):=by rw [←Nat.mul_add,←Nat.mul_add,h2,Nat.mul_add]
 rw [Nat.mul_add (P*B),Nat.mul_assoc P B b']
 rw [Nat.mul_add] at e h
 omega
theorem zPo {u v g w:Nat}{n b:Nat}(hw:w<B^n)(hv:v<B^n)(hu:u<B^n)(hb:b≤1)(h:w+g*v=u+B^n*b)(h1:u/v≤g)(h2:g≤u/v+1)(hv0:0<v):
 (b=0→g=u/v∧w=u%v)∧(b=1→g=u/v+1∧(w+v)=u%v+B^n):=by
 have hd:=Nat.div_add_mod u v
 have hm:=Nat.mod_lt u hv0
 have hc:v*(u/v)=(u/v)*v:=Nat.mul_comm _ _
 constructor
 ·intro h0
  subst h0
  rw [Nat.mul_zero,Nat.add_zero] at h
  have hge:g≤u/v:=by rw [Nat.le_div_iff_mul_le hv0];omega
  have:g=u/v:=kK
  subst this
  exact ⟨Z,kK⟩
 ·intro h0
  subst h0
  rw [Nat.mul_one] at h
  have hg:g=u/v+1:=by
   rcases Nat.lt_or_ge g (u/v+1) with q|q
   ·exfalso
    have:g=u/v:=kK
    subst this
    omega
   ·omega
  subst hg
  rw [Nat.add_mul,Nat.one_mul] at h
  exact ⟨Z,kK⟩
end Go.Ax.Bg
namespace Go.Ax.Tb
def zDW (b:UInt8):List UInt8→List UInt8×List UInt8×Bool
 |[]=>([],[],false)
 |c::r=>if c=b then ([],r,true) else (c::(zDW b r).1,(zDW b r).2.1,(zDW b r).2.2)
theorem zQy {b:UInt8}{s:List UInt8}(h:b∉s):zDW b s=(s,[],false):=by
 induction s with
 |nil=>rfl
 |cons c r ih=>
  simp only [List.mem_cons,not_or] at h
  rw [zDW,if_neg (fun e=>h.1 e.symm),ih h.2]
theorem zQx {b:UInt8}{l r:List UInt8}(h:b∉l):zDW b (l++b::r)=(l,r,true):=by
 induction l with
 |nil=>rw [List.nil_append,zDW,if_pos rfl]
 |cons c q ih=>
  simp only [List.mem_cons,not_or] at h
  rw [List.cons_append,zDW,if_neg (fun e=>h.1 e.symm),ih h.2]
theorem zOL (b:UInt8)(s:List UInt8):(zDW b s).1.length+(zDW b s).2.1.length+(if (zDW b s).2.2 then 1 else 0)=s.length:=by
 induction s with
 |nil=>rfl
 |cons c r ih=>
  rw [zDW]
  split
  ·simp
  ·simp only [List.length_cons];omega
theorem zK6 (b:UInt8)(s:List UInt8):zDW b s=if 0≤Lib.indexByte s b then (s.take (Lib.indexByte s b).toNat,s.drop ((Lib.indexByte s b).toNat+1),true) else (s,[],false):=by
 induction s with
 |nil=>rfl
 |cons c r ih=>
  rw [zDW,Lib.indexByte]
  by_cases hc:c=b
  ·subst hc;simp
  ·have hb:(c==b)=false:=by simpa using hc
   simp only [hb,Bool.false_eq_true,if_false,hc]
   rw [ih]
   have hge:=Lib.indexByte_ge r b
   by_cases h1:Lib.indexByte r b= -1
   ·simp [h1]
   ·have h2:(Lib.indexByte r b== -1)=false:=by simpa using h1
    simp only [h2,Bool.false_eq_true,if_false]
    rw [if_pos kK,if_pos kK]
    have e:(Lib.indexByte r b+1).toNat=(Lib.indexByte r b).toNat+1:=kK
    rw [e];rfl
def zB9 (c:UInt8):Prop:=48≤c.toNat∧c.toNat≤57
theorem zEn {d:Nat}(h:d<10):zB9 (UInt8.ofNat (48+d))∧(UInt8.ofNat (48+d)).toNat=48+d:=by
 have e:(UInt8.ofNat (48+d)).toNat=48+d:=by simp;omega
 exact ⟨⟨kK,kK⟩,e⟩
theorem zCN (u:Nat): ∀c∈Lib.decDigits u,zB9 c:=by
 induction u using Nat.strongRecOn with
 |_ u ih=>
  intro c hc
  rw [Lib.decDigits] at hc
  split at hc
  ·rename_i h
   simp only [List.mem_singleton] at hc
   subst hc;exact (zEn h).1
  ·rw [List.mem_append] at hc
   rcases hc with hc|hc
   ·exact ih _ kK c hc
   ·simp only [List.mem_singleton] at hc
    subst hc;exact (zEn (Nat.mod_lt _ kV)).1
theorem zC3 (u:Nat):Lib.decDigits u≠[]:=by
 rw [Lib.decDigits]
 split<;>simp
theorem itoa_nat (u:Nat):Lib.itoa (u:Int)=Lib.decDigits u:=by
 unfold Lib.itoa
 rw [if_neg kK];simp
def same (v:Int):List Int→Nat
 |[]=>0
 |x::r=>if x=v then same v r+1 else 0
theorem digit_ne {c:UInt8}(h:zB9 c)(b:UInt8)(hb:b.toNat<48∨57<b.toNat):b≠c:=fun e=>by
 subst e;unfold zB9 at h;omega
theorem zFK (u:Nat)(b:UInt8)(hb:b.toNat<48∨57<b.toNat):b∉Lib.decDigits u:=fun h=>digit_ne (zCN u b h) b hb rfl
end Go.Ax.Tb
namespace Go.Ax.Bg
open Go.Ax.Tb (zB9 zEn zCN zC3)
def decS (a:Nat)(c:UInt8):Nat:=a*10+(c.toNat-48)
def zBL (acc:Nat)(l:List UInt8):Nat:=l.foldl decS acc
theorem zGZ (acc:Nat):zBL acc []=acc:=rfl
theorem zDs (acc:Nat)(c:UInt8)(r:List UInt8):zBL acc (c::r)=zBL (acc*10+(c.toNat-48)) r:=by
 unfold zBL;rw [List.foldl_cons,decS]
theorem zHZ (l m:List UInt8)(acc:Nat):zBL acc (l++m)=zBL (zBL acc l) m:=by
 unfold zBL;rw [List.foldl_append]
theorem zHY (l:List UInt8)(acc:Nat):zBL acc l=acc*10^l.length+zBL 0 l:=by
 induction l generalizing acc with
 |nil=>rw [zGZ,zGZ];simp
 |cons c r ih=>
  rw [zDs,zDs,ih,ih (0*10+_),List.length_cons,Nat.pow_succ]
  generalize c.toNat-48=d
  generalize 10^r.length=e
  generalize zBL 0 r=v
  rw [Nat.add_mul,Nat.zero_mul,Nat.zero_add,Nat.mul_assoc,Nat.mul_comm 10 e]
  omega
theorem zMR (l:List UInt8)(c:UInt8)(acc:Nat):zBL acc (l++[c])=zBL acc l*10+(c.toNat-48):=by rw [zHZ,zDs,zGZ]
theorem zBx (u:Nat):zBL 0 (Lib.decDigits u)=u:=by
 induction u using Nat.strongRecOn with
 |_ u ih=>
  rw [Lib.decDigits]
  split
  ·rename_i h
   have:=(zEn h).2
   rw [zDs,zGZ,this];omega
  ·have:=(zEn (Nat.mod_lt u (show 0<10 by decide))).2
   rw [zMR,ih _ kK,this]
   omega
theorem zKc {l:List UInt8}(h: ∀c∈l,zB9 c):zBL 0 l<10^l.length:=by
 induction l with
 |nil=>rw [zGZ];simp
 |cons c r ih=>
  have hc:=h c kJ
  have i:=ih (fun x hx=>h x (by simp [hx]))
  unfold zB9 at hc
  rw [zDs,zHY,List.length_cons,Nat.pow_succ]
  have:(c.toNat-48)*10^r.length≤9*10^r.length:=Nat.mul_le_mul_right _ kK
  rw [Nat.zero_mul,Nat.zero_add]
  generalize 10^r.length=e at*
  generalize (c.toNat-48)*e=q at*
  omega
theorem zQz {c:UInt8}{r:List UInt8}(h:zB9 c)(h0:c≠48):10^r.length≤zBL 0 (c::r):=by
 unfold zB9 at h
 have hc:c.toNat≠48:=fun e=>h0 (UInt8.toNat_inj.1 e)
 rw [zDs,zHY]
 have:1*10^r.length≤(0*10+(c.toNat-48))*10^r.length:=Nat.mul_le_mul_right _ kK
 generalize (0*10+(c.toNat-48))*10^r.length=q at*
 omega
theorem snocInd {α:Type}{p:List α→Prop}(h0:p [])(h1: ∀l x,p l→p (l++[x])): ∀l,p l:=by
 intro l
 have key: ∀(n:Nat) (l:List α),l.length=n→p l:=by
  intro n
  induction n with
  |zero=>intro l hl;rw [List.length_eq_zero_iff.1 hl];exact h0
  |succ n ih=>
   intro l hl
   have hne:l≠[]:=by intro e;subst e;simp at hl
   rw [←List.dropLast_concat_getLast hne]
   exact h1 _ _ (ih _ (by simp [hl]))
 exact key _ l Z
def zIU (s:List UInt8):Prop:=s≠[]∧(∀c∈s,zB9 c)∧(s.getD 0 0≠48∨s.length=1)
theorem zFE (u:Nat):zIU (Lib.decDigits u):=by
 refine ⟨zC3 u,zCN u,?_⟩
 induction u using Nat.strongRecOn with
 |_ u ih=>
  rw [Lib.decDigits]
  split
  ·exact .inr Z
  ·left
   rename_i h
   have hne:=zC3 (u/10)
   rcases ih (u/10) kK with h1|h1
   ·cases hq:Lib.decDigits (u/10) with
    |nil=>exact absurd hq hne
    |cons c r=>rw [hq] at h1;simpa using h1
   ·have hlt:u/10<10:=by
     have hl:=Lib.decDigits_length (u/10)
     rw [h1] at hl
     have:=Lib.lt_pow_nDigits (u/10)
     rw [←hl] at this
     simpa using this
    rw [Lib.decDigits_one hlt]
    simp only [List.cons_append,List.getD_cons_zero]
    intro e
    have:=congrArg UInt8.toNat e
    rw [(zEn hlt).2] at this
    have:(48:UInt8).toNat=48:=rfl
    omega
theorem zGS {s:List UInt8}(h:zIU s):Lib.decDigits (zBL 0 s)=s:=by
 obtain ⟨h1,h2,h3⟩:=h
 revert h1 h2 h3
 refine snocInd (p:=fun s=>s≠[]→(∀c∈s,zB9 c)→(s.getD 0 0≠48∨s.length=1)→Lib.decDigits (zBL 0 s)=s) ?_ ?_ s
 ·intro h;exact absurd rfl h
 ·intro l c ih _ hd h3
  have hc:=hd c kJ
  have hcv:UInt8.ofNat (48+(c.toNat-48))=c:=by
   unfold zB9 at hc
   rw [show 48+(c.toNat-48)=c.toNat by omega]
   simp
  rw [zMR]
  cases l with
  |nil=>
   rw [zGZ,List.nil_append,Nat.zero_mul,Nat.zero_add]
   rw [Lib.decDigits,dif_pos (by unfold zB9 at hc;omega),hcv]
  |cons x r=>
   have hx:x≠48:=by
    rcases h3 with h3|h3
    ·simpa using h3
    ·simp at h3
   have hxd:=hd x kJ
   have hge:=zQz (r:=r) hxd hx
   have hpos:1≤10^r.length:=Nat.one_le_pow _ _ kV
   have i:=ih kJ (fun c hc=>hd c (by simp at hc⊢;rcases hc with rfl|hc;exact .inl rfl;exact .inr (.inl hc))) (.inl (by simpa using hx))
   generalize zBL 0 (x::r)=v at*
   unfold zB9 at hc
   rw [Lib.decDigits,dif_neg kK]
   rw [show (v*10+(c.toNat-48))/10=v by omega,show (v*10+(c.toNat-48))%10=c.toNat-48 by omega,i,hcv]
theorem zGC {a b:Nat}(h:Lib.decDigits a=Lib.decDigits b):a=b:=by rw [←zBx a,←zBx b,h]
theorem zDX {n k:Nat}(hk:1≤k)(h:n<10^k):(Lib.decDigits n).length≤k:=by
 have hl:=Lib.decDigits_length n
 rcases Nat.lt_or_ge k (Lib.decDigits n).length with hlt|hge
 ·exfalso
  have hc:=zFE n
  have hv:=zBx n
  cases hq:Lib.decDigits n with
  |nil=>exact zC3 n hq
  |cons c r=>
   rw [hq] at hc hv hlt
   simp only [List.length_cons] at hlt
   have hne:c≠48:=by
    rcases hc.2.2 with h|h
    ·simpa using h
    ·simp at h;subst h;simp at hlt;omega
   have:=zQz (r:=r) (hc.2.1 c kJ) hne
   rw [hv] at this
   have:10^k≤10^r.length:=Nat.pow_le_pow_right kV kK
   omega
 ·exact hge
theorem zDu (n:Nat):n<10^(Lib.decDigits n).length:=by
 have:=zKc (zCN n)
 rwa [zBx] at this
def pad (k m:Nat):List UInt8:=List.replicate (k-(Lib.decDigits m).length) 48++Lib.decDigits m
theorem zPl (k:Nat)(l:List UInt8):zBL 0 (List.replicate k 48++l)=zBL 0 l:=by
 induction k with
 |zero=>rfl
 |succ k ih=>rw [List.replicate_succ,List.cons_append,zDs];exact ih
theorem pad_len {k m:Nat}(hk:1≤k)(h:m<10^k):(pad k m).length=k:=by
 have:=zDX hk h
 unfold pad;simp;omega
theorem zSY (k m:Nat): ∀c∈pad k m,zB9 c:=by
 intro c hc
 unfold pad at hc
 rcases List.mem_append.1 hc with h|h
 ·rw [(List.mem_replicate.1 h).2];exact ⟨kV,kV⟩
 ·exact zCN m c h
theorem zNP {n k:Nat}(hk:1≤k)(h:10^k≤n):Lib.decDigits n=Lib.decDigits (n/10^k)++pad k (n%10^k):=by
 have hp:0<10^k:=Nat.pow_pos kV
 have hm:=Nat.mod_lt n hp
 have hd:n/10^k≠0:=by have:=Nat.div_pos h hp;omega
 have hc:=zFE (n/10^k)
 have hcan:zIU (Lib.decDigits (n/10^k)++pad k (n%10^k)):=by
  refine ⟨by simp [hc.1],fun c hcm=> ?_,.inl ?_⟩
  ·rcases List.mem_append.1 hcm with h|h
   ·exact hc.2.1 c h
   ·exact zSY _ _ c h
  ·cases hq:Lib.decDigits (n/10^k) with
   |nil=>exact absurd hq hc.1
   |cons c r=>
    rw [hq] at hc
    simp only [List.cons_append,List.getD_cons_zero]
    rcases hc.2.2 with h|h
    ·simpa using h
    ·simp only [List.length_cons,Nat.add_eq_right,List.length_eq_zero_iff] at h
     subst h
     intro e
     subst e
     have:=zBx (n/10^k)
     rw [hq] at this
     exact hd (this.symm.trans kV)
 have hv:zBL 0 (Lib.decDigits (n/10^k)++pad k (n%10^k))=n:=by
  rw [zHZ,zBx,zHY,pad_len hk hm]
  have:zBL 0 (pad k (n%10^k))=n%10^k:=by unfold pad;rw [zPl,zBx]
  rw [this,Nat.mul_comm]
  exact Nat.div_add_mod n _
 have:=zGS hcan
 rw [hv] at this
 exact this
end Go.Ax.Bg
namespace Go.Ax
open Go.Ax.Bg
variable [Pins]
def zG6 (l:List Int):AV:= .ro (.ints .u32 l) 0 l.length
def zm (n:Nat):AV:= .ro (.ints .u32 (zW n)) 0 (zW n).length
theorem AEq.lim {l:List Int}{k n:Nat}(h:l.take k=zW n)(hk:k≤l.length):AEq (.ro (.ints .u32 l) 0 k) (zm n):=by
 have hl:(zW n).length=k:=by rw [←h,List.length_take,Nat.min_eq_left hk]
 refine AEq.trans AEq.take ?_
 rw [h]
 unfold zm
 rw [hl]
 exact AEq.rfl'
theorem AEq.natNil:AEq .nil (zm 0):=by
 have:zm 0= .ro (.ints .u32 []) 0 0:=by unfold zm;rw [zCA];rfl
 rw [this]
 exact AEq.nil
theorem zCp {n:Nat}:0<(zW n).length↔n≠0:=by
 have _p:= ‹Pins›
 constructor
 ·rintro h rfl;rw [zCA] at h;simp at h
 ·intro h;rcases Nat.eq_zero_or_pos (zW n).length with q|q
  ·exact absurd (natL_nil.1 (List.length_eq_zero_iff.1 q)) h
  ·exact q
end Go.Ax
namespace Go.Ax.Bg
def zCO:Nat→Nat→List Int
 |0,_=>[]
 |k+1,v=>((v%4294967296:Nat):Int)::zCO k (v/4294967296)
theorem zCP: ∀(k v:Nat),(zCO k v).length=k
 |0,_=>rfl
 |k+1,v=>by rw [zCO,List.length_cons,zCP]
theorem zGd: ∀(k v:Nat),Lim (zCO k v)
 |0,_=>Lim.nil
 |k+1,v=>by rw [zCO,Lim.cons];exact ⟨zEd v,zGd k _⟩
theorem zJN: ∀(k v:Nat),v<B^k→zi (zCO k v)=v
 |0,v,h=>by simp at h;subst h;rfl
 |k+1,v,h=>by
  rw [zCO,zi,Int.toNat_natCast,zJN k]
  ·unfold B;omega
  ·rw [Nat.pow_succ,Nat.mul_comm] at h
   exact Nat.div_lt_of_lt_mul h
theorem zIC: ∀{l:List Int} {k v:Nat},Lim l→l.length=k→zi l=v→l=zCO k v
 |[],k,v,_,hk,_=>by simp at hk;subst hk;rfl
 |x::r,k,v,h,hk,hv=>by
  rw [Lim.cons] at h
  obtain ⟨m,rfl⟩: ∃m,k=m+1:=⟨r.length,by simpa using hk.symm⟩
  rw [zi] at hv
  subst hv
  have hx:x.toNat<4294967296:=kK
  rw [zCO,Nat.add_mul_mod_self_left,Nat.mod_eq_of_lt hx,Nat.add_mul_div_left _ _ kV,Nat.div_eq_of_lt hx,Nat.zero_add]
  rw [←zIC h.2 (by simpa using hk) rfl]
  congr 1
  omega
theorem zHe {A U C:List Int}{j i:Nat}(hj:A.length=j)(h:i<U.length):(A++(U++C)).getD (j+i) 0=U.getD i 0:=by
 subst hj
 simp only [List.getD]
 rw [List.getElem?_append_right kK,Nat.add_sub_cancel_left,List.getElem?_append_left h]
theorem zRX {A U C:List Int}{j i:Nat}{x:Int}(hj:A.length=j)(h:i<U.length):(A++(U++C)).set (j+i) x=A++(U.set i x++C):=by
 subst hj
 rw [List.set_append_right _ _ kK,Nat.add_sub_cancel_left,List.set_append_left _ _ h]
theorem zGM {l:List Int}{i:Nat}{x:Int}(h:i<l.length):(l.set i x).take (i+1)=l.take i++[x]:=by
 have h2:i<(l.set i x).length:=by simpa using h
 rw [zA0 (l.set i x) 0 i h2]
 congr 1
 ·rw [List.take_set_of_le (Nat.le_refl _)]
 ·simp [List.getD,h]
theorem top3 {U:List Int}{s u0 u1 u2:Nat}(hs:2≤s)(hl:U.length=s+1)(h:Lim U)(h0:U.getD s 0=(u0:Int))(h1:U.getD (s-1) 0=(u1:Int))(h2:U.getD (s-2) 0=(u2:Int)):
 ∃low,low<B^(s-2)∧zi U=low+((u0*4294967296+u1)*4294967296+u2)*B^(s-2):=by
 refine ⟨zi (U.take (s-2)),?_,?_⟩
 ·have:=zA6 (h.take (s-2))
  rwa [List.length_take,Nat.min_eq_left kK] at this
 ·have e:zi U=zi (U.take (s-2+1+1+1)):=by rw [List.take_of_length_le kK]
  rw [e,zAF,zAF,zAF,show s-2+1+1=s by omega,show s-2+1=s-1 by omega,h0,h1,h2]
  simp only [Int.toNat_natCast]
  have p1:B^(s-1)=B^(s-2)*4294967296:=by rw [show s-1=s-2+1 by omega,Nat.pow_succ]
  have p0:B^s=B^(s-2)*4294967296*4294967296:=by rw [show s=s-2+1+1 by omega,Nat.pow_succ,Nat.pow_succ];rfl
  rw [p1,p0]
  generalize B^(s-2)=p
  rw [Nat.add_mul,Nat.add_mul,Nat.add_mul]
  rw [show p*4294967296*4294967296*u0=u0*4294967296*4294967296*p by ac_rfl,show p*4294967296*u1=u1*4294967296*p by ac_rfl,Nat.mul_comm p u2]
  omega
theorem top2 {V:List Int}{s v1 v2:Nat}(hs:2≤s)(hl:V.length=s)(h:Lim V)(h1:V.getD (s-1) 0=(v1:Int))(h2:V.getD (s-2) 0=(v2:Int)):
 ∃low,low<B^(s-2)∧zi V=low+(v1*4294967296+v2)*B^(s-2):=by
 refine ⟨zi (V.take (s-2)),?_,?_⟩
 ·have:=zA6 (h.take (s-2))
  rwa [List.length_take,Nat.min_eq_left kK] at this
 ·have e:zi V=zi (V.take (s-2+1+1)):=by rw [List.take_of_length_le kK]
  rw [e,zAF,zAF,show s-2+1=s-1 by omega,h1,h2]
  simp only [Int.toNat_natCast]
  have p1:B^(s-1)=B^(s-2)*4294967296:=by rw [show s-1=s-2+1 by omega,Nat.pow_succ]
  rw [p1]
  generalize B^(s-2)=p
  rw [Nat.add_mul,show p*4294967296*v1=v1*4294967296*p by ac_rfl,Nat.mul_comm p v2]
  omega
theorem est0 {u v U3 V2 P g lu lv:Nat}(hP:0<P)(hlu:lu<P)(eu:u=lu+U3*P)(hlv:lv<P)(ev:v=lv+V2*P)(hV2:4294967296≤V2)(hlt:u<4294967296*v)(hg:g≤4294967295)(hgV:g*V2≤U3)(hmax: ∀g',g'≤4294967295→g'*V2≤U3→g'≤g):u/v≤g∧g≤u/v+1:=by
 have hv0:0<v:=by
  have:1*P≤V2*P:=Nat.mul_le_mul_right _ kK
  omega
 have hq:u/v≤4294967295:=by
  have:=Nat.div_lt_of_lt_mul (n:=v) (k:=4294967296) (m:=u) (by rw [Nat.mul_comm];exact hlt)
  omega
 constructor
 ·refine hmax _ hq (est_ge (u:=u) (v:=v) hP ?_ ?_ (Nat.div_mul_le_self u v))
  ·rw [Nat.add_mul];omega
  ·omega
 ·rcases Nat.eq_zero_or_pos g with q|q
  ·rw [q];exact Nat.zero_le _
  ·have:=est_le (u:=u) (v:=v) (P:=P) hP kK (by rw [Nat.add_mul];omega) hgV kK q
   have h3:g-1≤u/v:=by rw [Nat.le_div_iff_mul_le hv0];exact this
   omega
theorem est {U V:List Int}{s u0 u1 u2 v1 v2 g:Nat}(hs:2≤s)(hl:U.length=s+1)(hlv:V.length=s)(h:Lim U)(hv:Lim V)(h0:U.getD s 0=(u0:Int))(h1:U.getD (s-1) 0=(u1:Int))(h2:U.getD (s-2) 0=(u2:Int))(k1:V.getD (s-1) 0=(v1:Int))(k2:V.getD (s-2) 0=(v2:Int))(htop:2147483648≤v1)(hlt:zi U<4294967296*zi V)(hg:g≤4294967295)(hgV:g*(v1*4294967296+v2)≤(u0*4294967296+u1)*4294967296+u2)(hmax: ∀g',g'≤4294967295→g'*(v1*4294967296+v2)≤(u0*4294967296+u1)*4294967296+u2→g'≤g):zi U/zi V≤g∧g≤zi U/zi V+1:=by
 obtain ⟨lu,hlu,eu⟩:=top3 hs hl h h0 h1 h2
 obtain ⟨lv,hlv',ev⟩:=top2 hs hlv hv k1 k2
 exact est0 (bpos _) hlu eu hlv' ev kK hlt hg hgV hmax
theorem and_low (m:Nat):m &&& 4294967295=m%4294967296:=by
 have:=Nat.and_two_pow_sub_one_eq_mod m 32
 have e:2^32-1=4294967295:=kV
 rw [e,p32] at this
 exact this
theorem zPp {Uc U V:List Int}{i g cr br ui vi yv b':Nat}(hi:i<Uc.length)(h:zi (Uc.take i)+g*zi (V.take i)=zi (U.take i)+B^i*(cr+br))(hu:U.getD i 0=(ui:Int))(hv:V.getD i 0=(vi:Int))(hy:yv+((cr+g*vi)%4294967296+br)=ui+4294967296*b'):
 zi ((Uc.set i (yv:Int)).take (i+1))+g*zi (V.take (i+1))=zi (U.take (i+1))+B^(i+1)*((cr+g*vi)/4294967296+b'):=by
 rw [zGM hi,zEa,List.length_take,Nat.min_eq_left kK,zAF,zAF,hu,hv,Int.toNat_natCast,Int.toNat_natCast,Int.toNat_natCast,Nat.pow_succ]
 have:=sub_step (P:=B^i) h b' (t:=g*vi) (y:=yv) (ui:=ui) (by unfold B;omega)
 rw [Nat.mul_add,Nat.mul_left_comm g (B^i) vi]
 exact this
theorem zRt {a br e:Nat}(ha:a<4294967296)(he:e<4294967296)(hb:br≤1): ∃yv b':Nat,yv+(e+br)=a+4294967296*b'∧b'≤1∧yv<4294967296∧((a:Int)-e-br<0→b'=1∧(yv:Int)=a-e-br+4294967296)∧(¬(a:Int)-e-br<0→b'=0∧(yv:Int)=a-e-br):=by
 rcases Nat.lt_or_ge a (e+br) with q|q
 ·exact ⟨a+4294967296-(e+br),1,kK,kK,kK,fun h=>⟨Z,kK⟩,fun h=>by omega⟩
 ·exact ⟨a-(e+br),0,kK,kK,kK,fun h=>by omega,fun h=>⟨Z,kK⟩⟩
theorem zRr {Uc U V:List Int}{i sm ui vi:Nat}(hi:i<Uc.length)(h:zi (Uc.take i)+B^i*sm=zi (U.take i)+zi (V.take i))(hu:U.getD i 0=(ui:Int))(hv:V.getD i 0=(vi:Int)):
 zi ((Uc.set i (((sm+ui+vi)%4294967296:Nat):Int)).take (i+1))+B^(i+1)*((sm+ui+vi)/4294967296)=zi (U.take (i+1))+zi (V.take (i+1)):=by
 rw [zGM hi]
 exact zN0 (by simp;omega) h hu hv
theorem zGc: ∀(a b v:Nat),zCO (a+b) v=zCO a v++zCO b (v/B^a)
 |0,b,v=>by simp [zCO]
 |a+1,b,v=>by
  rw [show a+1+b=a+b+1 by omega,zCO,zCO,zGc a b,List.cons_append,Nat.pow_succ,Nat.mul_comm (B^a),←Nat.div_div_eq_div_mul]
theorem zGz: ∀(k v:Nat),zi (zCO k v)=v%B^k
 |0,v=>by simp [zCO,zi,Nat.mod_one]
 |k+1,v=>by
  rw [zCO,zi,Int.toNat_natCast,zGz k,Nat.pow_succ,Nat.mul_comm (B^k),Nat.mod_mul]
theorem zPw {k v w:Nat}(h:v%B^k=w%B^k):zCO k v=zCO k w:=by
 have h1:=zIC (zGd k v) (zCP k v) (zGz k v)
 have h2:=zIC (zGd k w) (zCP k w) (zGz k w)
 rw [h1,h2,h]
theorem zHz {v s:Nat}(hs:1≤s)(h:(zW v).length=s): ∃t low:Nat,(zW v).getD (s-1) 0=(t:Int)∧t<4294967296∧0<t∧v=low+B^(s-1)*t∧low<B^(s-1):=by
 obtain ⟨t,ht,hb⟩:=(zAd v).nat (s-1)
 refine ⟨t,zi ((zW v).take (s-1)),ht,hb,?_,?_,?_⟩
 ·rcases zMk (n:=v) with q|q
  ·rw [q] at h;simp at h;omega
  ·rw [h,ht] at q;omega
 ·have:=zAF (zW v) (s-1)
  rw [show s-1+1=(zW v).length by omega,List.take_length,zAK,ht,Int.toNat_natCast] at this
  exact this
 ·have:=zA6 ((zAd v).take (s-1))
  rwa [List.length_take,Nat.min_eq_left kK] at this
theorem bexp {s:Nat}(hs:1≤s):B^s=B^(s-1)*4294967296:=by
 rw [show s=s-1+1 by omega,Nat.pow_succ];rfl
theorem norm_top {m k s t:Nat}(hs:1≤s)(h:(zW m).length=s)(ht:(zW m).getD (s-1) 0=(t:Int))(h1:2147483648≤t*2^k)(h2:t*2^k<4294967296)(hk:k≤31):
 (zW (m*2^k)).length=s∧2147483648≤(zW (m*2^k)).getD (s-1) 0:=by
 obtain ⟨t',low,e,hb,hp,hv,hlow⟩:=zHz hs h
 have:t'=t:=kK
 subst this
 have hP:=bpos (s-1)
 have hpk:0<2^k:=Nat.pow_pos kV
 have hd: ∃q,4294967296=q*2^k:=⟨2^(32-k),by rw [←Nat.pow_add,show 32-k+k=32 by omega]⟩
 obtain ⟨q,hq⟩:=hd
 have h3:t'+1≤q:=by
  have:t'*2^k<q*2^k:=kK
  exact Nat.lt_of_mul_lt_mul_right this
 have h4:(t'+1)*2^k≤4294967296:=by rw [hq];exact Nat.mul_le_mul_right _ h3
 have hup:m*2^k<B^s:=by
  rw [bexp hs]
  have h5:m<B^(s-1)*(t'+1):=by rw [Nat.mul_add];omega
  have h6:m*2^k<B^(s-1)*(t'+1)*2^k:=Nat.mul_lt_mul_of_pos_right h5 hpk
  have h7:B^(s-1)*((t'+1)*2^k)≤B^(s-1)*4294967296:=Nat.mul_le_mul_left _ h4
  rw [Nat.mul_assoc] at h6
  omega
 have hlo:B^(s-1)*2147483648≤m*2^k:=by
  have h5:B^(s-1)*(t'*2^k)≤m*2^k:=by
   rw [←Nat.mul_assoc];exact Nat.mul_le_mul_right _ kK
  exact Nat.le_trans (Nat.mul_le_mul_left _ h1) h5
 have hlen:(zW (m*2^k)).length=s:=by
  have a:=zAh hup
  have b:B^(s-1)≤m*2^k:=by
   have:B^(s-1)*1≤B^(s-1)*2147483648:=Nat.mul_le_mul_left _ kV
   omega
  have c:=zOi b
  omega
 refine ⟨hlen,?_⟩
 obtain ⟨t2,low2,e2,_,_,hv2,hlow2⟩:=zHz hs hlen
 rw [e2]
 rcases Nat.lt_or_ge t2 2147483648 with z|z
 ·exfalso
  have:B^(s-1)*(t2+1)≤B^(s-1)*2147483648:=Nat.mul_le_mul_left _ kK
  rw [Nat.mul_add] at this
  omega
 ·omega
theorem k_more {t k:Nat}(ht:0<t)(h:t*2^k<4294967296)(hk:k≤31)(h0:t*2^k/2^31=0):t*2^(k+1)<4294967296∧k+1≤31:=by
 have h1:t*2^k<2147483648:=by
  rcases Nat.lt_or_ge (t*2^k) 2147483648 with q|q
  ·exact q
  ·have:=Nat.div_le_div_right (c:=2^31) q
   rw [h0] at this
   exact absurd this kV
 refine ⟨by rw [Nat.pow_succ,←Nat.mul_assoc];omega,?_⟩
 rcases Nat.lt_or_ge k 31 with q|q
 ·exact q
 ·exfalso
  have:k=31:=kK
  subst this
  have:1*2^31≤t*2^31:=Nat.mul_le_mul_right _ ht
  have e:(2:Nat)^31=2147483648:=kV
  rw [e] at this h1
  omega
theorem k_stop {t k:Nat}(h0: ¬t*2^k/2^31=0):2147483648≤t*2^k:=by
 rcases Nat.lt_or_ge (t*2^k) 2147483648 with q|q
 ·exact absurd (Nat.div_eq_of_lt (by rw [show (2:Nat)^31=2147483648 by decide];exact q)) h0
 ·exact q
theorem zSg {n ln v s k:Nat}(hn:n<B^ln)(hk:k≤31)(hs:1≤s)(hsl:s≤ln)(hv:B^(s-1)*2147483648≤v):n*2^k<v*B^(ln+1-s):=by
 have hp:2^k≤2147483648:=Nat.le_trans (Nat.pow_le_pow_right (show 0<2 by decide) hk) kV
 have h1:n*2^k≤n*2147483648:=Nat.mul_le_mul_left _ hp
 have h2:B^(s-1)*2147483648*B^(ln+1-s)≤v*B^(ln+1-s):=Nat.mul_le_mul_right _ hv
 have h3:B^(s-1)*2147483648*B^(ln+1-s)=B^ln*2147483648:=by
  have e:B^ln=B^(s-1)*B^(ln+1-s):=by rw [←Nat.pow_add];congr 1;omega
  rw [e];ac_rfl
 omega
theorem top_ge {v s:Nat}(hs:1≤s)(hl:(zW v).length=s)(h:2147483648≤(zW v).getD (s-1) 0):B^(s-1)*2147483648≤v:=by
 obtain ⟨t,low,e,_,_,hv,_⟩:=zHz hs hl
 have:B^(s-1)*2147483648≤B^(s-1)*t:=Nat.mul_le_mul_left _ kK
 omega
theorem quo_step {W v s j N:Nat}(hv0:0<v)(hv:v<B^s)(hW:W<v*B^(j+1))(hN:j+(s+1)≤N):
 zCO N W=zCO j W++(zCO (s+1) (W/B^j)++zCO (N-(j+(s+1))) (W/B^j/B^(s+1)))∧zi (zCO (s+1) (W/B^j))=W/B^j∧W/B^j<4294967296*v∧
  ∃W',zCO j W++(zCO (s+1) (W/B^j%v)++zCO (N-(j+(s+1))) (W/B^j/B^(s+1)))=zCO N W'∧W'<v*B^j∧W'+B^j*(v*(W/B^j/v))=W:=by
 have hP:=bpos j
 have h1:W/B^j<4294967296*v:=by
  refine Nat.div_lt_of_lt_mul ?_
  have:v*B^(j+1)=B^j*(4294967296*v):=by rw [Nat.pow_succ];unfold B;ac_rfl
  rw [←this];exact hW
 have h2:W/B^j<B^(s+1):=by
  have:4294967296*v≤4294967296*B^s:=Nat.mul_le_mul_left _ kK
  rw [Nat.pow_succ,Nat.mul_comm (B^s)]
  exact Nat.lt_of_lt_of_le h1 this
 have h3:W/B^j/B^(s+1)=0:=Nat.div_eq_of_lt h2
 have hr:W/B^j%v<v:=Nat.mod_lt _ hv0
 have hvs:v<B^(s+1):=Nat.lt_of_lt_of_le hv (Nat.pow_le_pow_right kV kK)
 refine ⟨?_,zJN _ _ h2,h1,W%B^j+B^j*(W/B^j%v),?_,?_,?_⟩
 ·rw [←zGc,←zGc]
  congr 1;omega
 ·have e1:(W%B^j+B^j*(W/B^j%v))/B^j=W/B^j%v:=by
   rw [Nat.add_mul_div_left _ _ hP,Nat.div_eq_of_lt (Nat.mod_lt _ hP),Nat.zero_add]
  have e2:(W%B^j+B^j*(W/B^j%v))%B^j=W%B^j:=by
   rw [Nat.add_mul_mod_self_left,Nat.mod_mod]
  rw [show N=j+((s+1)+(N-(j+(s+1)))) by omega,zGc j,zGc (s+1),e1,h3,zPw e2.symm]
  rw [show j+(s+1+(N-(j+(s+1))))-(j+(s+1))=N-(j+(s+1)) by omega,Nat.div_eq_of_lt (Nat.lt_trans hr hvs)]
 ·have h5:B^j*(W/B^j%v+1)≤B^j*v:=Nat.mul_le_mul_left _ hr
  have h6:=Nat.mod_lt W hP
  rw [Nat.mul_add] at h5
  rw [Nat.mul_comm v]
  omega
 ·have a:=Nat.div_add_mod W (B^j)
  have b:=Nat.div_add_mod (W/B^j) v
  have c:B^j*(v*(W/B^j/v))+B^j*(W/B^j%v)=B^j*(W/B^j):=by rw [←Nat.mul_add,b]
  omega
theorem quo_end {n m k W Q:Nat}(hm:0<m)(h:Q*(m*2^k)+W=n*2^k)(hW:W<m*2^k):Q=n/m∧W=n%m*2^k:=by
 have hk:0<2^k:=Nat.pow_pos kV
 have h0:0<m*2^k:=Nat.mul_pos hm hk
 have e1:n*2^k/(m*2^k)=n/m:=Nat.mul_div_mul_right _ _ hk
 have e2:n*2^k%(m*2^k)=n%m*2^k:=Nat.mul_mod_mul_right ..
 rw [←h] at e1 e2
 rw [Nat.add_comm,Nat.add_mul_div_right _ _ h0,Nat.div_eq_of_lt hW,Nat.zero_add] at e1
 rw [Nat.add_comm,Nat.add_mul_mod_self_right,Nat.mod_eq_of_lt hW] at e2
 exact ⟨e1,e2⟩
theorem zRq {d e k:Nat}(hd:d<4294967296)(hk:k≤31):d/2^k|||e*2^(32-k)%4294967296=d/2^k+e%2^k*2^(32-k):=by
 have hp:0<2^(32-k):=Nat.pow_pos kV
 have e1:(4294967296:Nat)=2^k*2^(32-k):=by rw [←Nat.pow_add,show k+(32-k)=32 by omega]
 have e2:e*2^(32-k)%4294967296=e%2^k*2^(32-k):=by
  rw [e1];exact Nat.mul_mod_mul_right ..
 have h1:d/2^k<2^(32-k):=by
  refine Nat.div_lt_of_lt_mul ?_
  rw [←e1];exact hd
 rw [e2]
 have:=Nat.two_pow_add_eq_or_of_lt h1 (e%2^k)
 rw [Nat.or_comm,Nat.mul_comm (e%2^k),←this,Nat.add_comm]
theorem back_lim {d e k:Nat}(hd:d<4294967296)(hk:k≤31):d/2^k+e%2^k*2^(32-k)<4294967296:=by
 have e1:(4294967296:Nat)=2^k*2^(32-k):=by rw [←Nat.pow_add,show k+(32-k)=32 by omega]
 have h1:d/2^k<2^(32-k):=by
  refine Nat.div_lt_of_lt_mul ?_
  rw [←e1];exact hd
 have h2:(e%2^k+1)*2^(32-k)≤2^k*2^(32-k):=Nat.mul_le_mul_right _ (Nat.mod_lt _ (Nat.pow_pos kV))
 rw [Nat.add_mul,←e1] at h2
 omega
theorem back_val {out r:List Int}{i k d e:Nat}(hk:k≤31)(hl:out.length=i)(hd:r.getD i 0=(d:Int)){d0:Nat}(h:zi out*2^k+d0=zi (r.take i)+(d%2^k)*B^i):
 zi (out++[((d/2^k+e%2^k*2^(32-k):Nat):Int)])*2^k+d0=zi (r.take (i+1))+(e%2^k)*B^(i+1):=by
 rw [zEa,hl,Int.toNat_natCast,zAF,hd,Int.toNat_natCast,Nat.pow_succ]
 have e1:(4294967296:Nat)=2^(32-k)*2^k:=by rw [←Nat.pow_add,show 32-k+k=32 by omega]
 have e2:=Nat.div_add_mod d (2^k)
 have e3:B^i*(d/2^k+e%2^k*2^(32-k))*2^k=B^i*(2^k*(d/2^k))+e%2^k*(B^i*B):=by
  rw [show B=2^(32-k)*2^k from e1]
  generalize (2^(32-k)*2^k)^i=p
  rw [Nat.mul_add,Nat.add_mul]
  congr 1<;>ac_rfl
 have e4:B^i*(2^k*(d/2^k))+(d%2^k)*B^i=B^i*d:=by
  rw [Nat.mul_comm (d%2^k),←Nat.mul_add,e2]
 rw [Nat.add_mul,e3]
 omega
theorem zGH {a b k:Nat}(h:a<b)(hb:(zW b).length≤k):(zW a).length≤k:=by
 have h1:=zA6 (zAd b)
 rw [zAK] at h1
 have:=zAh (Nat.lt_trans h h1)
 omega
theorem zF0 {a b k:Nat}(h:a≤b)(hb:(zW b).length≤k):(zW a).length≤k:=by
 rcases Nat.lt_or_ge a b with q|q
 ·exact zGH q hb
 ·have:a=b:=kK
  subst this;exact hb
theorem zHj:zW 1=[1]:=by
 rw [zHk kV]
 have:1/B=0:=kV
 rw [this,zCA];rfl
theorem zSW {n:Nat}:n=1↔(zW n).length=1∧(zW n).getD 0 0=1:=by
 constructor
 ·rintro rfl;rw [zHj];exact ⟨rfl,rfl⟩
 ·rintro ⟨h1,h2⟩
  have h3:=zAF (zW n) 0
  rw [List.take_of_length_le kK,zAK,h2] at h3
  simpa [zi] using h3
def zHO (l:List (List UInt8))(k:Nat):List (List UInt8):=(List.range l.length).map fun i=>if i<k∨l.length-k≤i then l.getD (l.length-1-i) [] else l.getD i []
theorem zEJ (l:List (List UInt8))(k:Nat):(zHO l k).length=l.length:=by unfold zHO;simp
theorem zIM (l:List (List UInt8))(k i:Nat)(hi:i<l.length):(zHO l k).getD i []=if i<k∨l.length-k≤i then l.getD (l.length-1-i) [] else l.getD i []:=by
 unfold zHO
 simp only [List.getD,List.getElem?_map,List.getElem?_range hi,Option.map_some,Option.getD_some]
theorem zLE {l m:List (List UInt8)}(h:l.length=m.length)(he: ∀i,i<l.length→l.getD i []=m.getD i []):l=m:=by
 apply List.ext_getElem h
 intro i h1 h2
 have:=he i h1
 rw [zDP [] h1,zDP [] h2] at this
 exact this
theorem zSk (l:List (List UInt8)):zHO l 0=l:=by
 refine zLE (zEJ l 0) (fun i hi=> ?_)
 rw [zEJ] at hi
 rw [zIM l 0 i hi,if_neg kK]
theorem zSi (l:List (List UInt8)){k:Nat}(h:l.length≤2*k+1):zHO l k=l.reverse:=by
 refine zLE (by rw [zEJ,List.length_reverse]) (fun i hi=> ?_)
 rw [zEJ] at hi
 have hr:l.reverse.getD i []=l.getD (l.length-1-i) []:=by
  simp only [List.getD]
  rw [List.getElem?_reverse hi]
 rw [zIM l k i hi,hr]
 split
 ·rfl
 ·congr 1;omega
theorem zSj (l:List (List UInt8)){k:Nat}(h:k+1+k<l.length):((zHO l k).set k ((zHO l k).getD (l.length-1-k) [])).set (l.length-1-k) ((zHO l k).getD k [])=zHO l (k+1):=by
 refine zLE (by simp [zEJ]) (fun i hi=> ?_)
 simp only [List.length_set,zEJ] at hi
 rw [zIM l (k+1) i hi,zIM l k (l.length-1-k) kK,if_neg kK,zIM l k k kK,if_neg kK]
 simp only [List.getD]
 by_cases h1:i=l.length-1-k
 ·subst h1
  rw [List.getElem?_set_self (by simp [zEJ];omega),if_pos kK]
  simp only [Option.getD_some]
  congr 2;omega
 ·rw [List.getElem?_set_ne (Ne.symm h1)]
  by_cases h2:i=k
  ·subst h2
   rw [List.getElem?_set_self (by rw [zEJ];omega),if_pos kK]
   simp only [Option.getD_some]
  ·rw [List.getElem?_set_ne (Ne.symm h2)]
   have:=zIM l k i hi
   simp only [List.getD] at this
   rw [this]
   by_cases h3:i<k∨l.length-k≤i
   ·rw [if_pos h3,if_pos kK]
   ·rw [if_neg h3,if_neg kK]
end Go.Ax.Bg
namespace Go.Ax.Bg
open Go.Ax.Tb (zB9)
def dg (c:UInt8):Bool:=decide (48≤c.toNat∧c.toNat<58)
theorem dg_iff {c:UInt8}:dg c=true↔zB9 c:=by
 unfold dg zB9
 simp only [decide_eq_true_eq]
 constructor<;>intro h<;>exact ⟨kK,kK⟩
def trR (s:List UInt8):List UInt8:=(s.reverse.dropWhile dg).reverse
def trL (s:List UInt8):List UInt8:=s.dropWhile dg
theorem zHb {l m:List UInt8}(h:l.all dg=true):(l++m).dropWhile dg=m.dropWhile dg:=by
 induction l with
 |nil=>rfl
 |cons x r ih=>
  simp only [List.all_cons,Bool.and_eq_true] at h
  rw [List.cons_append,List.dropWhile_cons_of_pos h.1,ih h.2]
theorem trR_of {s:List UInt8}{k:Nat}(hk:k≤s.length)(h:(s.drop k).all dg=true)(h2:k=0∨dg (s.getD (k-1) 0)=false):trR s=s.take k:=by
 unfold trR
 conv=>lhs;rw [←List.take_append_drop k s]
 rw [List.reverse_append,zHb (by rw [List.all_reverse];exact h)]
 rcases h2 with h2|h2
 ·subst h2;rfl
 ·rcases Nat.eq_zero_or_pos k with q|q
  ·subst q;rfl
  ·have e:s.take k=s.take (k-1)++[s.getD (k-1) 0]:=by
    have:=zA0 s 0 (k-1) kK
    rwa [show k-1+1=k by omega] at this
   rw [e,List.reverse_append,List.reverse_singleton,List.singleton_append,List.dropWhile_cons_of_neg (by rw [h2];decide)]
   simp
theorem trL_of {s:List UInt8}{k:Nat}(h:(s.take k).all dg=true)(h2:s.length≤k∨dg (s.getD k 0)=false):trL s=s.drop k:=by
 unfold trL
 conv=>lhs;rw [←List.take_append_drop k s]
 rw [zHb h]
 rcases h2 with h2|h2
 ·rw [List.drop_of_length_le h2];rfl
 ·rcases Nat.lt_or_ge k s.length with q|q
  ·rw [zCc s 0 k q,List.dropWhile_cons_of_neg (by rw [h2];decide)]
  ·rw [List.drop_of_length_le q];rfl
theorem zPs {l:List UInt8}:l.dropWhile dg=[]↔l.all dg=true:=by
 induction l with
 |nil=>simp
 |cons x r ih=>
  cases h:dg x with
  |true=>rw [List.dropWhile_cons_of_pos h,ih];simp [h]
  |false=>rw [List.dropWhile_cons_of_neg (by rw [h];decide)];simp [h]
theorem dw_head {l:List UInt8}{x:UInt8}{r:List UInt8}(h:l.dropWhile dg=x::r):dg x=false:=by
 induction l with
 |nil=>cases h
 |cons y q ih=>
  cases hy:dg y with
  |true=>rw [List.dropWhile_cons_of_pos hy] at h;exact ih h
  |false=>
   rw [List.dropWhile_cons_of_neg (by rw [hy];decide)] at h
   cases h;exact hy
theorem trR_nil {s:List UInt8}:trL (trR s)=[]↔s.all dg=true:=by
 unfold trL trR
 rw [zPs,List.all_reverse]
 constructor
 ·intro h
  cases hq:s.reverse.dropWhile dg with
  |nil=>rw [zPs,List.all_reverse] at hq;exact hq
  |cons x r=>
   rw [hq] at h
   have:=dw_head hq
   simp [this] at h
 ·intro h
  have:s.reverse.dropWhile dg=[]:=by rw [zPs,List.all_reverse];exact h
  rw [this];rfl
theorem parse_go {l:List UInt8}(hd: ∀c∈l,zB9 c): ∀(a:Nat),zBL a l≤4294967295→Lib.parseUintM 4294967295 a l= .ok (zBL a l):=by
 induction l with
 |nil=>intro a _;rfl
 |cons c r ih=>
  intro a h
  have hc:=hd c kJ
  unfold zB9 at hc
  rw [zDs] at h⊢
  have h1:a*10+(c.toNat-48)≤4294967295:=by
   refine Nat.le_trans ?_ h
   rw [zHY r]
   have:(a*10+(c.toNat-48))*1≤(a*10+(c.toNat-48))*10^r.length:=Nat.mul_le_mul_left _ (Nat.one_le_pow _ _ kV)
   omega
  have i:=ih (fun x hx=>hd x (by simp [hx])) _ h
  unfold Lib.parseUintM
  rw [if_pos kK,if_neg kK,if_neg kK]
  exact i
theorem zEt {l:List UInt8}(h0:l≠[])(hd: ∀c∈l,zB9 c)(h9:l.length≤9):Lib.parseUintB 32 l= .ok (zBL 0 l)∧zBL 0 l<1000000000:=by
 have hlt:=zKc hd
 have hp:10^l.length≤10^9:=Nat.pow_le_pow_right kV h9
 have e9:(10:Nat)^9=1000000000:=kV
 rw [e9] at hp
 unfold Lib.parseUintB
 rw [if_neg h0]
 have e32:(2:Nat)^32-1=4294967295:=kV
 rw [e32]
 exact ⟨parse_go hd 0 kK,kK⟩
theorem zMd: ∀(ls:List (List UInt8)),Lib.join ls []=ls.flatten
 |[]=>rfl
 |x::r=>by
  rw [Lib.join_cons,List.flatten_cons]
  congr 1
  unfold Lib.joinTail
  congr 1
  simp
end Go.Ax.Bg
namespace Go.Ax.Idx
def wstep (s:Int×Int)(k:Nat):Int×Int:=(s.1*(s.2+1)/(k+1),s.2+1)
def fct:Nat→Int
 |0=>1
 |n+1=>(n+1)*fct n
structure WOk (s:Int×Int)(n:Nat):Prop where
 num:s.2=n
 lo:0≤s.1
 hi:s.1≤fct n
theorem WOk.step {s:Int×Int}{n:Nat}(h:WOk s n)(k:Nat):WOk (wstep s k) (n+1):=by
 obtain ⟨h1,h2,h3⟩:=h
 have hm:0≤s.1*(s.2+1):=Int.mul_nonneg h2 kK
 refine ⟨by simp only [wstep];omega,Int.ediv_nonneg hm kK,?_⟩
 simp only [wstep,fct]
 refine Int.le_trans (Int.ediv_le_self _ hm) ?_
 rw [h1,Int.mul_comm]
 exact Int.mul_le_mul_of_nonneg_left h3 kK
theorem WOk.range {s:Int×Int}{n:Nat}(h:WOk s n)(j:Nat):WOk ((List.range j).foldl wstep s) (n+j):=by
 induction j with
 |zero=>exact h
 |succ j ih=>rw [List.range_succ,List.foldl_append];exact ih.step j
def idxF {α:Type}(p:α→Bool):List α→Int
 |[]=> -1
 |x::r=>if p x then 0 else if idxF p r<0 then-1 else idxF p r+1
theorem idxF_neg {α:Type}(p:α→Bool)(l:List α)(h:idxF p l<0):idxF p l= -1:=by
 cases l with
 |nil=>rfl
 |cons x r=>
  simp only [idxF] at h⊢
  by_cases h1:p x=true
  ·simp [h1] at h
  ·by_cases h2:idxF p r<0
   ·simp [h1,h2]
   ·simp only [h1,h2,if_false,Bool.false_eq_true] at h
    omega
theorem idxF_take {α:Type}(p:α→Bool)(l:List α)(k:Nat)(h:(l.take k).any p=false)(hk:k≤l.length):idxF p l=if idxF p (l.drop k)<0 then-1 else idxF p (l.drop k)+k:=by
 induction k generalizing l with
 |zero=>
  simp only [List.drop_zero]
  split
  ·exact idxF_neg p l kW
  ·omega
 |succ k ih=>cases l with
  |nil=>simp at hk
  |cons x r=>
   simp only [List.take_succ_cons,List.any_cons,Bool.or_eq_false_iff] at h
   have:=ih r h.2 (by simpa using hk)
   simp only [idxF,h.1,List.drop_succ_cons,Bool.false_eq_true,if_false]
   rw [this]
   split<;>split<;>omega
theorem zHf {α:Type}(p:α→Bool)(l:List α):decide (0≤idxF p l)=l.any p:=by
 induction l with
 |nil=>rfl
 |cons x r ih=>
  simp only [idxF,List.any_cons]
  by_cases h1:p x=true
  ·simp [h1]
  ·simp only [Bool.not_eq_true] at h1
   simp only [h1,Bool.false_eq_true,if_false,Bool.false_or]
   rw [←ih]
   by_cases h2:idxF p r<0
   ·rw [if_pos h2];simp;omega
   ·rw [if_neg h2];congr 1;simp;omega
def cnt (m:List Int):List Int:=(List.range 7).map fun (i:Nat)=>((m.count (i:Int):Nat):Int)
theorem zDk (m:List Int):(cnt m).length=7:=by simp [cnt]
theorem zGW (m:List Int)(i:Nat)(hi:i<7):(cnt m).getD i 0=((m.count (i:Int):Nat):Int):=by
 simp [cnt,List.getD,hi]
theorem zMi {l m:List Int}(hl:l.length=7)(hm:m.length=7)(h: ∀i,i<7→l.getD i 0=m.getD i 0):l=m:=by
 apply List.ext_getElem?
 intro i
 by_cases hi:i<7
 ·have:=h i hi
  rw [zDP 0 kK,zDP 0 kK] at this
  rw [List.getElem?_eq_getElem kK,List.getElem?_eq_getElem kK,this]
 ·rw [List.getElem?_eq_none kK,List.getElem?_eq_none kK]
theorem getD_set {l:List Int}{i j:Nat}{v:Int}(hi:i<l.length):(l.set i v).getD j 0=if j=i then v else l.getD j 0:=by
 by_cases h:j=i
 ·subst h;simp [List.getD,hi]
 ·simp only [List.getD,h,if_false]
  rw [List.getElem?_set_ne (fun e=>h e.symm)]
theorem zOG (m:List Int)(x:Int)(h0:0≤x)(h6:x≤6):cnt (m++[x])=(cnt m).set x.toNat ((cnt m).getD x.toNat 0+1):=by
 refine zMi (zDk _) (by simp [zDk]) (fun i hi=> ?_)
 rw [getD_set (by rw [zDk];omega),zGW _ i hi,List.count_append]
 split
 ·rename_i h
  subst h
  rw [zGW _ _ hi]
  have:((x.toNat:Nat):Int)=x:=kK
  rw [this];simp
 ·rename_i h
  rw [zGW _ i hi]
  have:List.count (i:Int) [x]=0:=by
   rw [List.count_eq_zero];simp;omega
  rw [this];rfl
theorem zK4 (m:List Int)(x:Int)(h0:0≤x)(h6:x≤6):cnt m=(cnt (x::m)).set x.toNat ((cnt (x::m)).getD x.toNat 0-1):=by
 refine zMi (zDk _) (by simp [zDk]) (fun i hi=> ?_)
 rw [getD_set (by rw [zDk];omega),zGW _ i hi]
 split
 ·rename_i h
  subst h
  rw [zGW _ _ hi]
  have:((x.toNat:Nat):Int)=x:=kK
  rw [this];simp
 ·rename_i h
  rw [zGW _ i hi]
  have: ¬x=(i:Int):=kK
  simp [List.count_cons,this]
theorem sum_set (l:List Int)(i:Nat)(v:Int)(hi:i<l.length):(l.set i v).sum=l.sum-l.getD i 0+v:=by
 induction l generalizing i with
 |nil=>simp at hi
 |cons x r ih=>
  cases i with
  |zero=>simp only [List.set_cons_zero,List.sum_cons,List.getD_cons_zero];omega
  |succ i=>
   simp only [List.set_cons_succ,List.sum_cons,List.getD_cons_succ]
   rw [ih i (by simpa using hi)];omega
theorem cnt_nil:cnt []=List.replicate 7 0:=by simp [cnt,List.range,List.range.loop,List.replicate]
theorem zNN (m:List Int)(h: ∀x∈m,0≤x∧x≤6):(cnt m).sum=m.length:=by
 induction m with
 |nil=>rw [cnt_nil];rfl
 |cons x r ih=>
  have hx:=h x kJ
  have h1:=ih (fun y hy=>h y (by simp [hy]))
  rw [zK4 r x hx.1 hx.2,sum_set _ _ _ (by rw [zDk];omega)] at h1
  simp only [List.length_cons]
  omega
def less (l:List Int)(i:Nat):List Int:=l.set i (l.getD i 0-1)
theorem zCU {l:List Int}{i:Nat}(hi:i<l.length):(less l i).set i ((less l i).getD i 0+1)=l:=by
 unfold less
 rw [getD_set hi,if_pos rfl,List.set_set]
 have:l.getD i 0-1+1=l[i]:=by rw [zDP 0 hi];omega
 rw [this,List.set_getElem_self]
end Go.Ax.Idx
namespace Go.Ax.Cd
open Go.Ax.Idx
def eqp (v y:Int):Bool:=decide (v=y)
end Go.Ax.Cd
namespace Go.Ax.Cd
open Go.Ax.Idx
end Go.Ax.Cd
namespace Go.Ax.Cd
open Go.Ax.Idx
end Go.Ax.Cd
namespace Go.Ax.Bg
open Go.Ax.Tb (zB9)
def zGA (s:List UInt8):Bool:=decide (s≠[]) && s.all dg && (decide (s.getD 0 0≠48)||decide (s.length=1))
theorem zEQ {s:List UInt8}:zGA s=true↔zIU s:=by
 unfold zGA zIU
 simp only [Bool.and_eq_true,Bool.or_eq_true,decide_eq_true_eq,List.all_eq_true,dg_iff]
 constructor
 ·rintro ⟨⟨h1,h2⟩,h3⟩;exact ⟨h1,h2,h3⟩
 ·rintro ⟨h1,h2,h3⟩;exact ⟨⟨h1,h2⟩,h3⟩
theorem zKu {s:List UInt8}(h:zIU s){k:Nat}(hl:s.length≤k):(zW (zBL 0 s)).length≤k:=by
 refine zAh (Nat.lt_of_lt_of_le (zKc h.2.1) ?_)
 exact Nat.le_trans (Nat.pow_le_pow_right kV hl) (Nat.pow_le_pow_left kV k)
def powT:Nat→Nat
 |0=>1
 |k+1=>10*powT k
theorem zRK: ∀k,powT k=10^k
 |0=>rfl
 |k+1=>by rw [powT,zRK k,Nat.pow_succ,Nat.mul_comm]
def TB:Nat:=powT 2000
theorem TB_eq:TB=10^2000:=zRK 2000
theorem TB_len {n:Nat}(h:n<TB):(Lib.decDigits n).length≤2000:=by
 rw [TB_eq] at h
 revert h
 generalize hk:2000=k
 intro h
 exact zDX kK h
theorem lt_big {n k:Nat}(h:n<10^k)(hk:k≤2000):n<TB:=by
 rw [TB_eq]
 revert hk
 generalize 2000=j
 intro hk
 exact Nat.lt_of_lt_of_le h (Nat.pow_le_pow_right kV hk)
theorem zG7 {m n j k:Nat}(hm:m<10^j)(hn:n<10^k):m*n<10^(j+k):=by
 rw [Nat.pow_add];exact Nat.mul_lt_mul'' hm hn
theorem add_big {m n k:Nat}(hm:m<10^k)(hn:n<10^k):m+n<10^(k+1):=by
 rw [Nat.pow_succ];omega
def ch:Nat→Nat→Nat
 |_,0=>1
 |0,_+1=>0
 |n+1,k+1=>ch n k+ch n (k+1)
end Go.Ax.Bg
namespace Go.Ax.Rt
open Go.Ax.Bg
theorem zLF (n:Int)(d:Nat)(hd:d≠0):(Rat.divInt n d).num.natAbs=n.natAbs/Nat.gcd n.natAbs d∧(Rat.divInt n d).den=d/Nat.gcd n.natAbs d∧((Rat.divInt n d).num<0↔n<0):=by
 have e:Rat.divInt n d=Rat.normalize n d hd:=by rw [Rat.divInt_ofNat,←Rat.normalize_eq_mkRat]
 have hg:0<Nat.gcd n.natAbs d:=Nat.gcd_pos_of_pos_right _ kK
 have hdv:(Nat.gcd n.natAbs d:Int)∣n:=by
  rw [Int.ofNat_dvd_left];exact Nat.gcd_dvd_left _ _
 rw [e,Rat.num_normalize,Rat.den_normalize]
 obtain ⟨q,hq⟩:=hdv
 generalize Nat.gcd n.natAbs d=g at*
 refine ⟨?_,Z,?_⟩
 ·rw [hq,Int.mul_ediv_cancel_left _ kK,Int.natAbs_mul,Int.natAbs_natCast,Nat.mul_div_cancel_left _ hg]
 ·rw [hq,Int.mul_ediv_cancel_left _ kK]
  constructor
  ·intro h;exact Int.mul_neg_of_pos_of_neg kK h
  ·intro h
   rcases Int.lt_or_le q 0 with z|z
   ·exact z
   ·exact absurd h (Int.not_lt.2 (Int.mul_nonneg kK z))
theorem zG1 (n d:Int)(hd:d≠0):(Rat.divInt n d).num.natAbs=n.natAbs/Nat.gcd n.natAbs d.natAbs∧(Rat.divInt n d).den=d.natAbs/Nat.gcd n.natAbs d.natAbs∧((Rat.divInt n d).num<0↔n≠0∧((n<0∧ ¬d<0)∨(¬n<0∧d<0))):=by
 rcases Int.lt_or_le d 0 with h|h
 ·obtain ⟨m,rfl⟩: ∃m:Nat,d= -(m:Int):=⟨d.natAbs,kK⟩
  have e:Rat.divInt n (-(m:Int))=Rat.divInt (-n) m:=Rat.divInt_neg' n m
  obtain ⟨h1,h2,h3⟩:=zLF (-n) m kK
  rw [e]
  rw [Int.natAbs_neg] at h1 h2
  rw [Int.natAbs_neg,Int.natAbs_natCast]
  exact ⟨h1,h2,h3.trans kK⟩
 ·obtain ⟨m,rfl⟩: ∃m:Nat,d=(m:Int):=⟨d.natAbs,kK⟩
  obtain ⟨h1,h2,h3⟩:=zLF n m kK
  rw [Int.natAbs_natCast]
  exact ⟨h1,h2,h3.trans kK⟩
theorem zKw (p q:Rat):Rat.divInt (p.num*q.den+q.num*p.den) ((p.den*q.den:Nat):Int)=p+q:=by
 rw [Rat.add_def',Rat.divInt_ofNat]
theorem zOg (p q:Rat):Rat.divInt (p.num*q.num) ((p.den*q.den:Nat):Int)=p*q:=by
 rw [Rat.mul_def',Rat.divInt_ofNat]
theorem zOP (p q:Rat)(hq:q≠0):Rat.divInt (p.num*q.den) (q.num*p.den)=p/q:=by
 have hn:q.num≠0:=fun h=>hq (Rat.num_eq_zero.1 h)
 have hp:(p.den:Int)≠0:=by have:=p.den_nz;omega
 have hqd:(q.den:Int)≠0:=by have:=q.den_nz;omega
 have h1:Rat.divInt (p.num*q.den) (q.num*p.den)*q=p:=by
  conv=>lhs;rhs;rw [←Rat.num_divInt_den q]
  rw [Rat.divInt_mul_divInt]
  conv=>rhs;rw [←Rat.num_divInt_den p]
  rw [Rat.divInt_eq_divInt_iff (Int.mul_ne_zero (Int.mul_ne_zero hn hp) hqd) hp]
  ac_rfl
 rw [←h1,Rat.mul_div_cancel hq]
 rw [h1]
def sgn (x:Int):Int:=if x<0 then-1 else if x=0 then 0 else 1
def zBl (p q:Rat):Int:=if p<q then-1 else if p=q then 0 else 1
theorem sgn_cmp (p q:Rat):sgn (p.num*q.den-q.num*p.den)=zBl p q:=by
 unfold sgn zBl
 have h1:p<q↔p.num*q.den-q.num*p.den<0:=by rw [Rat.lt_iff];omega
 have h2:p=q↔p.num*q.den-q.num*p.den=0:=by rw [Rat.eq_iff_mul_eq_mul];omega
 simp only [h1,h2]
def zFN (b:Bool)(n:Nat):Int:=if b then-(n:Int) else n
theorem zFm (b:Bool)(n:Nat):(zFN b n).natAbs=n:=by unfold zFN;split<;>omega
theorem zLf (b:Bool)(n:Nat):decide (zFN b n<0)=(b && decide (n≠0)):=by
 unfold zFN
 cases b
 ·simp<;>try omega
 ·simp only [if_true,Bool.true_and]
  rw [decide_eq_decide];omega
theorem zSr (x:Int):zFN (decide (x<0)) x.natAbs=x:=by
 unfold zFN
 by_cases h:x<0
 ·simp [h];omega
 ·simp [h];omega
end Go.Ax.Rt
namespace Go.Ax.Rt
open Go.Ax.Bg
open Go.Ax.Tb (zB9 zCN zC3 zDW zQy zQx zFK)
def zD0:List UInt8→Bool
 |c::_=>decide (c=45)
 |[]=>false
def zE7 (s:List UInt8):List UInt8:=if zD0 s then s.drop 1 else s
def zE1 (s:List UInt8):List UInt8:=(zDW 47 (zE7 s)).1
def zEz (s:List UInt8):List UInt8:=(zDW 47 (zE7 s)).2.1
def zHN (s:List UInt8):Bool:=(zDW 47 (zE7 s)).2.2
def zDH (s:List UInt8):Int:=
 if zGA (zE1 s)=false∨(zHN s=true∧zGA (zEz s)=false)∨(zD0 s=true∧zE1 s=[48]) then 5
 else if 2000<(zE1 s).length∨2000<(zEz s).length then 2
 else if zHN s=true∧(zEz s=[48]∨zEz s=[49]∨Nat.gcd (zBL 0 (zE1 s)) (zBL 0 (zEz s))≠1) then 3 else 0
def zK8 (s:List UInt8):Nat:=if zHN s then zBL 0 (zEz s) else 1
def zAG (s:List UInt8):Rat:=Rat.divInt (zFN (zD0 s) (zBL 0 (zE1 s))) (zK8 s:Nat)
def zr (q:Rat):List UInt8:=(if q.num<0 then [45] else [])++(Lib.decDigits q.num.natAbs++(if q.den=1 then [] else 47::Lib.decDigits q.den))
def zBd (q:Rat):Bool:=decide ((Lib.decDigits q.num.natAbs).length≤2000) && decide ((Lib.decDigits q.den).length≤2000)
def outF (q:Rat):List UInt8×Int:=if zBd q then (zr q,0) else ([],2)
theorem zMQ (b:UInt8): ∀l:List UInt8,l=(zDW b l).1++(if (zDW b l).2.2 then b::(zDW b l).2.1 else [])
 |[]=>rfl
 |c::r=>by
  rw [zDW]
  split
  ·rename_i h;subst h;simp
  ·have:=zMQ b r
   simp only [List.cons_append,List.cons.injEq,true_and]
   exact this
structure Parts (s:List UInt8)(q:Rat):Prop where
 num:q.num=zFN (zD0 s) (zBL 0 (zE1 s))
 den:q.den=zK8 s
 cn:zIU (zE1 s)
 cd:zHN s=true→zIU (zEz s)∧zBL 0 (zEz s)≠0∧zBL 0 (zEz s)≠1
 ln:(zE1 s).length≤2000
 ld:(zEz s).length≤2000
 ng:zD0 s=true→zBL 0 (zE1 s)≠0
theorem zNh {s:List UInt8}{n:Nat}(hc:zIU s)(hn:n<10)(h:zBL 0 s=n):s=[UInt8.ofNat (48+n)]:=by
 rw [←zGS hc,h,Lib.decDigits_one hn]
theorem zH8 {s:List UInt8}(h:zHN s=false):zK8 s=1:=by unfold zK8;rw [h];rfl
theorem zGa {s:List UInt8}(h:zHN s=true):zK8 s=zBL 0 (zEz s):=by unfold zK8;rw [h];rfl
theorem zGn {s:List UInt8}(h:zDH s=0):Parts s (zAG s):=by
 unfold zDH at h
 split at h
 ·omega
 split at h
 ·omega
 split at h
 ·omega
 rename_i h1 h2 h3
 simp only [not_or,not_and,Bool.not_eq_false] at h1 h2 h3
 obtain ⟨a1,a2,a3⟩:=h1
 have cn:=zEQ.1 a1
 have cd:zHN s=true→zIU (zEz s)∧zBL 0 (zEz s)≠0∧zBL 0 (zEz s)≠1:=fun hd=>by
  have c:=zEQ.1 (a2 hd)
  exact ⟨c,fun e=>(h3 hd).1 (zNh c kV e),fun e=>(h3 hd).2.1 (zNh c kV e)⟩
 have hd0:zK8 s≠0:=by
  cases e:zHN s
  ·rw [zH8 e];decide
  ·rw [zGa e];exact (cd e).2.1
 have hg:Nat.gcd (zBL 0 (zE1 s)) (zK8 s)=1:=by
  cases e:zHN s
  ·rw [zH8 e];exact Nat.gcd_one_right _
  ·rw [zGa e];exact Classical.not_not.1 (h3 e).2.2
 obtain ⟨e1,e2,e3⟩:=zLF (zFN (zD0 s) (zBL 0 (zE1 s))) (zK8 s) hd0
 rw [zFm,hg,Nat.div_one] at e1
 rw [zFm,hg,Nat.div_one] at e2
 refine ⟨?_,e2,cn,cd,kK,kK,fun hn e=>a3 hn (zNh cn kV e)⟩
 show (Rat.divInt _ _).num=_
 have:=zFm (zD0 s) (zBL 0 (zE1 s))
 omega
theorem neg_body {s:List UInt8}:s=(if zD0 s then [45] else [])++zE7 s:=by
 unfold zE7
 cases s with
 |nil=>rfl
 |cons c r=>
  unfold zD0
  by_cases h:c=45
  ·subst h;rfl
  ·simp [h]
theorem Parts.text {s:List UInt8}{q:Rat}(h:Parts s q):zr q=s:=by
 conv=>rhs;rw [neg_body (s:=s),zMQ 47 (zE7 s)]
 change zr q=_++(zE1 s++if zHN s then 47::zEz s else [])
 unfold zr
 rw [h.num,h.den,zFm,zGS h.cn]
 congr 1
 ·have:=zLf (zD0 s) (zBL 0 (zE1 s))
  cases e:zD0 s
  ·rw [e] at this;simp at this
   rw [if_neg (by simpa [e] using this)];rfl
  ·rw [e] at this
   have hn:=h.ng e
   simp [hn] at this
   rw [if_pos this];rfl
 ·congr 1
  cases e:zHN s
  ·rw [zH8 e];rfl
  ·obtain ⟨c,c0,c1⟩:=h.cd e
   rw [zGa e,if_neg c1,zGS c];rfl
theorem zOl (q:Rat):zD0 (zr q)=decide (q.num<0)∧zE7 (zr q)=Lib.decDigits q.num.natAbs++(if q.den=1 then [] else 47::Lib.decDigits q.den):=by
 have hne:=zC3 q.num.natAbs
 have h45:=zFK q.num.natAbs 45 kV
 unfold zE7 zr
 by_cases h:q.num<0
 ·simp [h,zD0]
 ·have:zD0 (Lib.decDigits q.num.natAbs++(if q.den=1 then [] else 47::Lib.decDigits q.den))=false:=by
   cases e:Lib.decDigits q.num.natAbs with
   |nil=>exact absurd e hne
   |cons c r=>
    rw [e] at h45
    have:c≠45:=fun e=>h45 (by simp [e])
    simp [zD0,this]
  simp [h,this]
theorem zK7 (q:Rat):zDW 47 (zE7 (zr q))=(Lib.decDigits q.num.natAbs,(if q.den=1 then [] else Lib.decDigits q.den),decide (q.den≠1)):=by
 rw [(zOl q).2]
 by_cases h:q.den=1
 ·rw [if_pos h,if_pos h,List.append_nil,zQy (zFK _ 47 kV)]
  simp [h]
 ·rw [if_neg h,if_neg h,zQx (zFK _ 47 kV)]
  simp [h]
theorem rat_of {q:Rat}(h:zBd q=true):zDH (zr q)=0∧zAG (zr q)=q:=by
 have e1:zE1 (zr q)=Lib.decDigits q.num.natAbs:=by unfold zE1;rw [zK7]
 have e2:zEz (zr q)=if q.den=1 then [] else Lib.decDigits q.den:=by unfold zEz;rw [zK7]
 have e3:zHN (zr q)=decide (q.den≠1):=by unfold zHN;rw [zK7]
 have e4:=(zOl q).1
 unfold zBd at h
 rw [Bool.and_eq_true,decide_eq_true_eq,decide_eq_true_eq] at h
 constructor
 ·unfold zDH
  rw [e1,e2,e3,e4,zBx,zEQ.2 (zFE _)]
  have g1: ¬(true=false∨(decide (q.den≠1)=true∧zGA (if q.den=1 then [] else Lib.decDigits q.den)=false)∨(decide (q.num<0)=true∧Lib.decDigits q.num.natAbs=[48])):=by
   rintro (g|⟨g1,g2⟩|⟨g1,g2⟩)
   ·cases g
   ·rw [decide_eq_true_eq] at g1
    rw [if_neg g1,zEQ.2 (zFE _)] at g2
    cases g2
   ·rw [decide_eq_true_eq] at g1
    have:q.num.natAbs=0:=zGC (by rw [g2,Lib.decDigits_one kV];rfl)
    omega
  have g2: ¬(2000<(Lib.decDigits q.num.natAbs).length∨2000<(if q.den=1 then [] else Lib.decDigits q.den:List UInt8).length):=by
   rintro (g|g)
   ·omega
   ·split at g
    ·simp at g
    ·omega
  have g3: ¬(decide (q.den≠1)=true∧((if q.den=1 then [] else Lib.decDigits q.den)=[48]∨(if q.den=1 then [] else Lib.decDigits q.den)=[49]∨Nat.gcd q.num.natAbs (zBL 0 (if q.den=1 then [] else Lib.decDigits q.den))≠1)):=by
   rintro ⟨g,g3⟩
   rw [decide_eq_true_eq] at g
   rw [if_neg g] at g3
   rw [zBx] at g3
   rcases g3 with g3|g3|g3
   ·have:q.den=0:=zGC (by rw [g3,Lib.decDigits_one kV];rfl)
    exact q.den_nz this
   ·exact g (zGC (by rw [g3,Lib.decDigits_one kV];rfl))
   ·exact g3 q.reduced
  rw [if_neg g1,if_neg g2,if_neg g3]
 ·unfold zAG
  have e5:zK8 (zr q)=q.den:=by
   unfold zK8
   rw [e3,e2]
   by_cases g:q.den=1
   ·simp [g]
   ·simp [g,zBx]
  rw [e1,e4,e5,zBx,zSr]
  exact Rat.num_divInt_den q
def zEL:List (List UInt8)→Int
 |[]=>0
 |s::r=>if zDH s=0 then zEL r else zDH s
theorem zD5: ∀{l:List (List UInt8)},zEL l=0→ ∀s∈l,zDH s=0
 |[],_,s,h=>by simp at h
 |a::r,h,s,hs=>by
  rw [zEL] at h
  split at h
  ·rename_i h1
   rcases List.mem_cons.1 hs with e|e
   ·rw [e];exact h1
   ·exact zD5 h s e
  ·contradiction
theorem zQa: ∀{l:List (List UInt8)},(∀s∈l,zDH s=0)→zEL l=0
 |[],_=>rfl
 |a::r,h=>by
  rw [zEL,if_pos (h a kJ)]
  exact zQa (fun s hs=>h s (by simp [hs]))
def twoR (F:Rat→Rat→Rat)(a b:List UInt8):List UInt8×Int:=if zEL [a,b]=0 then outF (F (zAG a) (zAG b)) else ([],zEL [a,b])
def divR (a b:List UInt8):List UInt8×Int:=if zEL [a,b]=0 then (if b=[48] then ([],18) else outF (zAG a/zAG b)) else ([],zEL [a,b])
def cmpR (a b:List UInt8):Int×Int:=if zEL [a,b]=0 then (zBl (zAG a) (zAG b),0) else (0,zEL [a,b])
def zBC (l:List Rat):List (List UInt8)×Int:=if l.all zBd then (l.map zr,0) else ([],2)
def zHw:Rat→List Rat→Rat×Int
 |acc,[]=>(acc,0)
 |acc,q::r=>if zBd (acc+q) then zHw (acc+q) r else (acc+q,2)
def zHy (l:List (List UInt8)):Rat×Int:=if 256<l.length then (0,2) else if zEL l=0 then zHw 0 (l.map zAG) else (0,zEL l)
def posE (l:List (List UInt8)):Int:=if (zHy l).2=0∧l.any zD0=true then 4 else (zHy l).2
def zFA (l:List (List UInt8)):Int:=if posE l=0 then (if zBl (zHy l).1 1=0 then 0 else 3) else posE l
def bestK (x:List Rat):Nat→Nat
 |0=>0
 |k+1=>if 0<zBl (x.getD k 0) (x.getD (bestK x k) 0) then k else bestK x k
def bestR (l:List (List UInt8)):Int×Int:=if 256<l.length then (0,2) else if l=[] then (0,8) else if zEL l=0 then ((bestK (l.map zAG) l.length:Nat),0) else (0,zEL l)
theorem zQ5 {q:Rat}(h:zBd q=true):(zW q.num.natAbs).length≤2000∧(zW q.den).length≤2000:=by
 unfold zBd at h
 rw [Bool.and_eq_true,decide_eq_true_eq,decide_eq_true_eq] at h
 have key: ∀(n m:Nat),(Lib.decDigits n).length≤m→(zW n).length≤m:=fun n m hl=>by
  refine zAh (Nat.lt_of_lt_of_le (zDu n) ?_)
  exact Nat.le_trans (Nat.pow_le_pow_right kV hl) (Nat.pow_le_pow_left kV m)
 exact ⟨key _ _ h.1,key _ _ h.2⟩
end Go.Ax.Rt
namespace Go.Ax.Rt
open Go.Ax.Bg
theorem Parts.fit {s:List UInt8}{q:Rat}(h:Parts s q):zBd q=true:=by
 unfold zBd
 rw [Bool.and_eq_true,decide_eq_true_eq,decide_eq_true_eq,h.num,h.den,zFm,zGS h.cn]
 refine ⟨h.ln,?_⟩
 cases e:zHN s
 ·rw [zH8 e,Lib.decDigits_one kV];decide
 ·rw [zGa e,zGS (h.cd e).1];exact h.ld
def IsQ (s:List UInt8)(q:Rat):Prop:=zDH s=0∧zAG s=q
instance (s:List UInt8)(q:Rat):Decidable (IsQ s q):=inferInstanceAs (Decidable (_∧_))
theorem IsQ.self {s:List UInt8}(h:zDH s=0):IsQ s (zAG s):=⟨h,rfl⟩
theorem IsQ.text {s:List UInt8}{q:Rat}(h:IsQ s q):zr q=s:=by
 have:=(zGn h.1).text
 rwa [h.2] at this
theorem IsQ.fit {s:List UInt8}{q:Rat}(h:IsQ s q):zBd q=true:=by
 have:=(zGn h.1).fit
 rwa [h.2] at this
theorem zHg {q:Rat}(h:zBd q=true):IsQ (zr q) q:=rat_of h
theorem IsQ.out {s:List UInt8}{q:Rat}(h:IsQ s q):outF q=(s,0):=by
 unfold outF
 rw [if_pos h.fit,h.text]
def D (k:Nat)(q:Rat):Prop:=q.num.natAbs<10^k∧q.den<10^k
theorem D.mono {j k:Nat}{q:Rat}(h:D j q)(hk:j≤k):D k q:=
 ⟨Nat.lt_of_lt_of_le h.1 (Nat.pow_le_pow_right kV hk),Nat.lt_of_lt_of_le h.2 (Nat.pow_le_pow_right kV hk)⟩
theorem D.fit {k:Nat}{q:Rat}(h:D k q)(hk:k≤2000):zBd q=true:=by
 unfold zBd
 rw [Bool.and_eq_true,decide_eq_true_eq,decide_eq_true_eq]
 exact ⟨TB_len (lt_big h.1 hk),TB_len (lt_big h.2 hk)⟩
theorem IsQ.dig {s:List UInt8}{q:Rat}(h:IsQ s q){k:Nat}(hk:s.length≤k)(h1:1≤k):D k q:=by
 have ht:=h.text
 have hl:(zr q).length≤k:=by rw [ht];exact hk
 unfold zr at hl
 rw [List.length_append,List.length_append] at hl
 refine ⟨Nat.lt_of_lt_of_le (zDu _) (Nat.pow_le_pow_right kV kK),?_⟩
 by_cases hd:q.den=1
 ·rw [hd]
  exact Nat.lt_of_lt_of_le (show 1<10^1 by decide) (Nat.pow_le_pow_right kV h1)
 ·rw [if_neg hd,List.length_cons] at hl
  exact Nat.lt_of_lt_of_le (zDu _) (Nat.pow_le_pow_right kV kK)
theorem zET {n d:Int}{k:Nat}(hd:d≠0)(h1:n.natAbs<10^k)(h2:d.natAbs<10^k):D k (Rat.divInt n d):=by
 obtain ⟨e1,e2,_⟩:=zG1 n d hd
 refine ⟨?_,?_⟩
 ·rw [e1];exact Nat.lt_of_le_of_lt (Nat.div_le_self _ _) h1
 ·rw [e2];exact Nat.lt_of_le_of_lt (Nat.div_le_self _ _) h2
theorem D.add {p q:Rat}{j k:Nat}(hp:D j p)(hq:D k q):D (j+k+1) (p+q):=by
 rw [←zKw]
 have a1:=zG7 hp.1 hq.2
 have a2:=zG7 hq.1 hp.2
 rw [Nat.add_comm k j] at a2
 have a3:=zG7 hp.2 hq.2
 refine zET (by have:=Nat.mul_ne_zero p.den_nz q.den_nz;omega) ?_ ?_
 ·have h:=Int.natAbs_add_le (p.num*q.den) (q.num*p.den)
  rw [Int.natAbs_mul,Int.natAbs_mul,Int.natAbs_natCast,Int.natAbs_natCast] at h
  exact Nat.lt_of_le_of_lt h (add_big a1 a2)
 ·rw [Int.natAbs_natCast]
  exact Nat.lt_of_lt_of_le a3 (Nat.pow_le_pow_right kV kK)
theorem D.neg {q:Rat}{k:Nat}(h:D k q):D k (-q):=by
 refine ⟨?_,h.2⟩
 show (-q.num).natAbs<_
 rw [Int.natAbs_neg];exact h.1
theorem D.sub {p q:Rat}{j k:Nat}(hp:D j p)(hq:D k q):D (j+k+1) (p-q):=by
 rw [Rat.sub_eq_add_neg];exact hp.add hq.neg
theorem D.mul {p q:Rat}{j k:Nat}(hp:D j p)(hq:D k q):D (j+k) (p*q):=by
 rw [←zOg]
 refine zET (by have:=Nat.mul_ne_zero p.den_nz q.den_nz;omega) ?_ ?_
 ·rw [Int.natAbs_mul];exact zG7 hp.1 hq.1
 ·rw [Int.natAbs_natCast];exact zG7 hp.2 hq.2
theorem D.div {p q:Rat}{j k:Nat}(hp:D j p)(hq:D k q)(h0:q≠0):D (j+k) (p/q):=by
 have hn:q.num≠0:=fun h=>h0 (Rat.num_eq_zero.1 h)
 rw [←zOP p q h0]
 refine zET (Int.mul_ne_zero hn (by have:=p.den_nz;omega)) ?_ ?_
 ·rw [Int.natAbs_mul,Int.natAbs_natCast];exact zG7 hp.1 hq.2
 ·rw [Int.natAbs_mul,Int.natAbs_natCast,Nat.add_comm];exact zG7 hq.1 hp.2
theorem zJ4 {s:List UInt8}(h:zDH s=0):zD0 s=false↔0≤zAG s:=by
 have hp:=zGn h
 have h1:=zLf (zD0 s) (zBL 0 (zE1 s))
 rw [←hp.num] at h1
 rw [←Rat.num_nonneg]
 cases e:zD0 s
 ·rw [e] at h1;simp at h1;simpa using h1
 ·have h2:(zAG s).num<0:=by
   have h3:=hp.ng e
   rw [e] at h1
   simpa [h3] using h1
  exact ⟨fun q=>absurd q kV,fun q=>absurd h2 kK⟩
def zAa (f:Nat→Rat):Nat→Rat
 |0=>0
 |n+1=>zAa f n+f n
theorem zAo {f g:Nat→Rat}: ∀{n:Nat},(∀i,i<n→f i=g i)→zAa f n=zAa g n
 |0,_=>rfl
 |n+1,h=>by rw [zAa,zAa,zAo (fun i hi=>h i kK),h n kK]
theorem zFY: ∀n:Nat,zAa (fun _=>0) n=0
 |0=>rfl
 |n+1=>by rw [zAa,zFY n,Rat.add_zero]
theorem zHx (f g:Nat→Rat): ∀n:Nat,zAa (fun i=>f i+g i) n=zAa f n+zAa g n
 |0=>by rw [zAa,zAa,zAa,Rat.add_zero]
 |n+1=>by
  rw [zAa,zAa,zAa,zHx f g n]
  rw [Rat.add_assoc,Rat.add_assoc,←Rat.add_assoc (zAa g n),Rat.add_comm (zAa g n) (f n),Rat.add_assoc]
theorem zDc (c:Rat)(f:Nat→Rat): ∀n:Nat,zAa (fun i=>c*f i) n=c*zAa f n
 |0=>by rw [zAa,zAa,Rat.mul_zero]
 |n+1=>by rw [zAa,zAa,zDc c f n,Rat.mul_add]
theorem zC4 (c:Rat)(f:Nat→Rat): ∀n:Nat,zAa (fun i=>f i*c) n=zAa f n*c
 |0=>by rw [zAa,zAa,Rat.zero_mul]
 |n+1=>by rw [zAa,zAa,zC4 c f n,Rat.add_mul]
theorem zM4 (f:Nat→Nat→Rat)(m:Nat): ∀n:Nat,zAa (fun i=>zAa (fun j=>f i j) m) n=zAa (fun j=>zAa (fun i=>f i j) n) m
 |0=>by
  show (0:Rat)=zAa (fun j=>0) m
  rw [zFY]
 |n+1=>by
  rw [zAa,zM4 f m n,←zHx]
  exact zAo (fun i _=>rfl)
theorem zF6 {f:Nat→Rat}: ∀{n:Nat},(∀i,i<n→0≤f i)→0≤zAa f n
 |0,_=>Rat.le_refl
 |n+1,h=>by rw [zAa];exact Rat.add_nonneg (zF6 (fun i hi=>h i kK)) (h n kK)
theorem zQX {j:Nat}{f:Nat→Rat}: ∀{n:Nat},(∀i,i<n→D j (f i))→D (1+n*(j+1)) (zAa f n)
 |0,_=>by
  rw [Nat.zero_mul]
  exact ⟨by show (0:Rat).num.natAbs<_;decide,by show (0:Rat).den<_;decide⟩
 |n+1,h=>by
  rw [zAa]
  have:=(zQX (n:=n) (fun i hi=>h i kK)).add (h n kK)
  refine this.mono ?_
  rw [Nat.add_mul];omega
def zAQ (a b:List Rat):Rat:=zAa (fun i=>a.getD i 0*b.getD i 0) a.length
def zB4 (m:List (List Rat))(k:Nat):List Rat:=m.map (fun row=>row.getD k 0)
def zEO (m:List (List Rat))(w:Nat):List (List Rat):=(List.range w).map (zB4 m)
def mulQ (a b:List (List Rat))(w:Nat):List (List Rat):=a.map (fun row=>(zEO b w).map (zAQ row))
theorem zGX (m:List (List Rat))(k i:Nat):(zB4 m k).getD i 0=(m.getD i []).getD k 0:=by
 unfold zB4
 by_cases h:i<m.length
 ·simp [List.getD,h]
 ·simp [List.getD,h]
theorem zDC (m:List (List Rat))(k:Nat):(zB4 m k).length=m.length:=by simp [zB4]
theorem zRu (m:List (List Rat)){w k:Nat}(hk:k<w):(zEO m w).getD k []=zB4 m k:=by
 simp [zEO,List.getD,hk]
theorem zMN (m:List (List Rat))(w:Nat):(zEO m w).length=w:=by simp [zEO]
theorem zBg {α β:Type}(f:α→β)(l:List α)(d:α)(e:β)(i:Nat)(hi:i<l.length):(l.map f).getD i e=f (l.getD i d):=by simp [List.getD,hi]
theorem zB5 {a b:List Rat}{n:Nat}(h:a.length=n):zAQ a b=zAa (fun i=>a.getD i 0*b.getD i 0) n:=by unfold zAQ;rw [h]
theorem zLA {a b:List Rat}{j k:Nat}(ha: ∀x∈a,D j x)(hb: ∀x∈b,D k x)(hl:a.length≤b.length):D (1+a.length*(j+k+1)) (zAQ a b):=by
 refine zQX (fun i hi=>(ha _ (by simp [List.getD,hi])).mul (hb _ (by simp [List.getD,show i<b.length by omega])))
end Go.Ax.Rt
