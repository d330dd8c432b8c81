import Derived.Lib.LaidTab
import Derived.Lib.ItoaNum
import Derived.Stop.LaidErr
import Derived.Test.YtmpnheilfejcpaaGreatDoorProg
import Derived.Shelf.Strconv.Itoa3
import Derived.Shelf.Pu.ParseUintPublic10
import Derived.Shelf.Bits.Mul64
import Derived.Shelf.Strings.OnBuilder
import Derived.Test.YtmpnheilfejcpaaGreatDoorH5
set_option linter.unusedVariables false
set_option linter.unusedSimpArgs false
set_option maxRecDepth 100000
set_option maxHeartbeats 4000000
namespace Go.aj
variable [bA]
open Go.RowKit
section
variable {P:Program}{fn:Func}{c:Ctx}{fr:Fr}{H:aZ}{k:List eF}
theorem amK {all:Array Oper}{d:Nat}{t wO e:TypeId}{x y:Operand}{ty:TypeId}{pos:String}{after:Array Edge}{rest:List Oper}{inf:TypeInfo}{z:Value}{zs:List ak}{n:Int}{ee uS:IntKind}(bu:P.underlying t=some (.slice e))(B9:P.underlying wO=some (.int uS))(aa:P.info? e=some inf)(bw:inf.zero=some z)(cz:inf.size=zs.length)(j1:sY z=some zs)(e1:Nat.blt 0 zs.length=true)(ar:bG fr x=some .nil)(a1:bG fr y=some (.int ee n))(al:0<n∧(n:Int)*inf.bytes≤281474976710656∧n≤9223372036854775807)(an:aj P fn c (.ops false all rest k) ((d,.aC H.length 0 n.toNat)::fr) (H++[some ⟨e,jE n.toNat zs⟩])):aj P fn c (.ops false all (⟨some d,.call {callee:= .builtin .append,args:= #[x,y],argTypes:= #[t,wO]},ty,pos,after,none⟩::rest) k) fr H:=by
 refine rZ (fun w a σ S ad=> ?_) an;obtain ⟨ku,z2,z3⟩:=NF n.toNat zs;obtain ⟨gu,h7⟩:=AL (w:=w) (S:=S) (σ:=σ) j1;have B2:0<zs.length:=iv e1;have U:=ad.dL ar;have ab:=ad.ff a1;generalize wG:a.eval x=Fh at U;cases U;obtain ⟨m,rfl⟩: ∃m:Nat,n=m:=⟨n.toNat,J⟩
 simp only [cg] at*;have tu:m*inf.bytes≤281474976710656:=by have:=al.2.1;rw [←Int.natCast_mul] at this;omega
 have dR:=Lib.run_append_nil_zeros (P:=P) w t wO ty e inf z ee uS bu B9 aa bw m J J J J;have iN:(execOp a.eval ⟨some d,.call {callee:= .builtin .append,args:= #[x,y],argTypes:= #[t,wO]},ty,pos,after,none⟩).run P w= .ok (.value (.slice (some ⟨w.heap.size,0,none⟩) m (grownCap w m 0 e))) (w.drew.alloc (.cells (Builtin.zeroCells z.cells m++Builtin.zeroCells z.cells (grownCap w m 0 e-m)) e)):=by simp [execOp,resolve,wG,ab,invoke,builtin,dR]
 have lb:=grownCap_ge w m 0 e;have hle:=grownCap_le_maxLen w m 0 e (by unfold maxLen;omega);generalize grownCap w m 0 e=G at iN lb hle;have hd:cc c w.drew a σ S fn.ntmps fr H:=ad.drewN (m:=1);refine ⟨_,_,_,S,iN,hd.alloc (o:=⟨e,jE m zs⟩) (C:=G) (cur:=Builtin.zeroCells z.cells m++Builtin.zeroCells z.cells (G-m)) (by rw [ku];exact lb) hle (by
  simp only [Array.size_append,size_zeroCells,z2,gu,←dK];congr 1;omega) (fun i j aa ae=> ?_),?_⟩
 ·simp only [ku] at aa;simp only [z2] at ae⊢;rw [z3 i j aa ae];have bD:i*zs.length+j<m*zs.length:=by have:(i+1)*zs.length≤m*zs.length:=er _ J;rw [dK] at this;omega
  have hm:(i*zs.length+j)%zs.length=j:=by rw [hj,Bi];exact np ae
  refine ⟨z.cells.getD j undef,?_,?_,(h7 j ae).2⟩
  ·rw [Bj (by simp [size_zeroCells,gu];exact bD)];have aeI:i*zs.length+j<m*z.cells.size:=by rw [gu];exact bD
   have aeu:j<z.cells.size:=by rw [gu];exact ae
   simp [Builtin.zeroCells,gu,hm,Array.getD,bD,ae]
  ·exact bz.mono (w:=w) (w':=w.drew) (S:=S) (ca:=S) (σ:=σ) (fun _ h=>h) (fun _ _=>rfl) (h7 j ae).1 _ (fun _ _ h=>h)
 ·have:=bz.aC (w:=w.drew.alloc (.cells (Builtin.zeroCells z.cells m++Builtin.zeroCells z.cells (G-m)) e)) (S:=S) (cN σ H.length (.at w.heap.size (jE m zs).aD G)) H.length 0 m w.heap.size (jE m zs).aD G G (by simp [cN]) J J;simpa using this
theorem alm {all:Array Oper}{d:Nat}{t e:TypeId}{x y:Operand}{ty:TypeId}{pos:String}{after:Array Edge}{rest:List Oper}{inf:TypeInfo}{h n:Nat}{o:bl}{v:ak}{ec c':Cells}{i2 m:Nat}(bu:P.underlying t=some (.slice e))(aa:P.info? e=some inf)(rj:inf.size=o.c.aD)(ar:bG fr x=some (.aC h 0 n))(aV:H[h]? =some (some o))(Ms:o.ty=e)(a1:bG fr y=some v)(av:A6 H v=some (ec,i2,m))(aep:n+m≤o.c.len)(e1:0<o.c.len)(dV:i2+m≤ec.len)(c6:c'.aD=o.c.aD)(fs:ec.aD=o.c.aD)(lh:c'.len=o.c.len)(lH: ∀aG j,aG<o.c.len→j<o.c.aD→c'.at aG j=if n≤aG∧aG<n+m then ec.at (i2+(aG-n)) j else o.c.at aG j)(an:aj P fn c (.ops false all rest k) ((d,.aC h 0 (n+m))::fr) (H.set h (some ⟨o.ty,c'⟩)))(bw:o.c.aD≠0:=by (intro aV;cases aV)):aj P fn c (.ops false all (⟨some d,.call {callee:= .builtin .append,args:= #[x,y],argTypes:= #[t,t]},ty,pos,after,none⟩::rest) k) fr H:=by
 refine rZ (fun w a σ S ad=> ?_) an;subst Ms;have U:=ad.dL ar;have ab:=ad.dL a1;have pN:=ad.src ab av (fun _ _=>dV);have iN: ∀r w',(Builtin.append_ #[t,t] ty #[a.eval x,a.eval y]).run P w= .ok r w'→(execOp a.eval ⟨some d,.call {callee:= .builtin .append,args:= #[x,y],argTypes:= #[t,t]},ty,pos,after,none⟩).run P w= .ok (.value r) w':=by intro r w' h;simp [execOp,resolve,invoke,builtin,h]
 generalize wG:a.eval x=Fh at U iN;generalize mu:a.eval y=Nz at ab pN iN;unfold Src at pN;rw [fs] at pN;cases U with
 |ih _ _ bJ=>
  rcases ad.ad.live h o aV with ⟨_,au⟩|⟨b,C,cur,fq,_⟩
  ·omega
  ·rw [bJ] at fq;cases fq
 |aC _ _ _ _ b s C cap bJ hlen jX=>
  obtain ⟨gY,cur,g1,g2,g3,g4,g5,g6⟩:=ad.obj aV bJ;subst gY;have LN:cap=C:=J;subst LN;obtain ⟨mk,g1,lF,jB⟩:=g1.cells bw;rcases pN with ⟨rfl,lX,n8,rfl⟩|⟨ia,n8,news,rfl,bS,bY,db,dP⟩
  ·have dR:(Builtin.append_ #[t,t] ty #[.slice (some ⟨b,0*o.c.aD,none⟩) n cap,.slice lX 0 n8]).run P w= .ok (.slice (some ⟨b,0*o.c.aD,none⟩) n cap) w:=by have hle:n≤cap:=J;cases lX<;>simp [Builtin.append_,run_underlying bu,sizeOf,typeInfo,aa,Builtin.lenOf,hle,Builtin.firstCells,loadCells,loadCellsFrom,storeCells]
   have afq:=setRow_self w b cur o.ty mk g1;have jh:=ad.setRow (cur':=cur) aV bJ jB c6 J g2 (fun aG j aL ae=>by
    rw [lh] at aL;rw [c6] at ae⊢;rw [lH aG j aL ae,ax J];exact g6 aG j aL ae)
   rw [afq] at jh;exact ⟨_,w,σ,S,iN _ _ dR,jh,.aC _ _ _ _ _ _ _ _ bJ J J⟩
  ·have x4:n+m≤cap:=J;have su:n*o.c.aD+news.length≤cur.size:=by rw [bS,g2,←dK];exact er _ x4
   have dR:=Um (P:=P) w t ty o.ty inf bu aa b n cap cur g1 lF ia m n8 news (by rw [rj];exact bS) bY db x4 (by rw [rj];exact su);rw [rj] at dR;have nw:(cur.toList.take (n*o.c.aD)).length=n*o.c.aD:=by rw [fc];simp;omega
   refine ⟨_,_,σ,S,iN _ _ (by simpa using dR),ad.setRow aV bJ jB c6 J ?_ (fun aG j aL ae=> ?_),.aC _ _ _ _ _ _ _ _ bJ J J⟩
   ·rw [←g2];simp;omega
   ·rw [lh] at aL;rw [c6] at ae⊢;rw [lH aG j aL ae];split
    ·rename_i wy;obtain ⟨u,aH,aJ⟩:=dP (aG-n) j J ae;refine ⟨u,?_,aJ,db u (oL aH)⟩;have sv:aG*o.c.aD+j=n*o.c.aD+((aG-n)*o.c.aD+j):=by rw [←ju,←dK];congr 2;omega
     have bD:(aG-n)*o.c.aD+j<news.length:=by rw [bS];have:(aG-n+1)*o.c.aD≤m*o.c.aD:=er _ J;rw [dK] at this;omega
     simp only [xt,lz];rw [sv,ib J,nw,vN,hQ bD];exact aH
    ·rename_i wy;obtain ⟨u,aH,aJ,bR⟩:=g6 aG j aL ae;refine ⟨u,?_,aJ,bR⟩;simp only [xt,lz];by_cases xV:aG<n
     ·have bD:aG*o.c.aD+j<n*o.c.aD:=by have:(aG+1)*o.c.aD≤n*o.c.aD:=er _ J;rw [dK] at this;omega
      rw [hQ J,py,aA bD];simpa using aH
     ·have aek:n+m≤aG:=J;have lb:(n+m)*o.c.aD≤aG*o.c.aD:=er _ aek;rw [dK,←bS] at lb;rw [ib J,nw,ib J,Bk];have:n*o.c.aD+news.length+(aG*o.c.aD+j-n*o.c.aD-news.length)=aG*o.c.aD+j:=J;rw [this];simpa using aH
end
end Go.aj
namespace Go.Proofs.YtmpnheilfejcpaaGreatDoor
open Go.aj
def Ch (w:World):Prop:=True
 ∧Lib.TabIs Tryz.prog w "internal/strconv.uint64pow10" .u64 Lib.pow10Tab
 ∧True
instance:bA:=⟨fun w _=>Ch w⟩
theorem apI {n:String}{w w':World}(h: ∀b,b<w.heap.size→w'.heap[b]? =w.heap[b]?){cs:Array Value}(ai:w.var? Tryz.prog n=some cs):w'.var? Tryz.prog n=some cs:=by
 unfold World.var? at ai⊢;cases c2:Tryz.prog.globalNamed n with
 |none=>simp [c2] at ai
 |some g=>
  simp only [c2,Option.bind_some] at ai⊢;have bD:g<w.heap.size:=by
   rcases gz g w.heap.size with q|q
   ·exact q
   ·have:w.heap[g]? =none:=by simp [q]
    simp [this] at ai
  rw [h g bD];exact ai
theorem ahT {W:World}{S:Nat→Prop}(h:Ch W):p7 W S (fun _=>none) []:=by intro w' ca _ _ al;have eA: ∀b,b<W.heap.size→w'.heap[b]? =W.heap[b]? :=fun b au=>al b au (by rintro ⟨h,o,s,C,U,_⟩;simp at U);show Ch w';unfold Ch at h⊢;obtain ⟨_,h⟩:=h;obtain ⟨U,h⟩:=h;refine ⟨trivial,?_⟩;refine ⟨apI eA U,?_⟩;trivial
end Go.Proofs.YtmpnheilfejcpaaGreatDoor
namespace Go.aj
open Go.RowKit
variable [bA]
theorem cf {P:Program}{f:FuncId}{args:List ak}{r:ak}{code:Code}(fn:Func)(h: ∀c:Ctx,c.R=(fun dB _=>dB=r)→c.fix=(fun _=>False)→aj P fn c (.code code []) (A1 0 args) [])(aQ:P.funcs[f]? =some fn:=by exact rfl)(al:fn.body=some code:=by exact rfl)(aI:(fn.name== "runtime.NumGoroutine")=false:=by kernel_rfl)(cz:Nat.ble args.length fn.ntmps=true:=by exact rfl)(U:cM.eM args=true:=by exact rfl)(ab:cM r=true:=by exact rfl):bs P f args r:=ch.qG (gl (P:=P) (fn:=fn) aQ al aI cz h) (fix:=fun _=>False) (fun _ h=>h) U ab
end Go.aj
namespace Go.aj
open Go.RowKit
variable [bA]
theorem br {P:Program}{fn:Func}{c:Ctx}{fr:Fr}{H:aZ}{k:List eF}{all:Array Oper}{fuel:Nat}{listed:Array Bool}(i:Nat){uT:Oper}(h:aj P fn c (.ops false all [uT] (.any all fuel (listed.setIfInBounds i true)::k)) fr H)(ad:Region.ready .any all listed=[i]:=by kernel_rfl)(hd:p2 fn.ntmps all.toList=true:=by exact rfl)(ah:all[i]? =some uT:=by exact rfl):aj P fn c (.any all (fuel+1) listed k) fr H:=tJ ad bX hd ⟨fun o' cP=>by rw [ah] at cP;cases cP;exact h,trivial⟩
end Go.aj
namespace Go.aj
open Go.RowKit
variable [bA]
theorem dQ {P:Program}{fn:Func}{c:Ctx}{fr:Fr}{H:aZ}{k:List eF}{all:Array Oper}{fuel:Nat}{listed:Array Bool}(i j:Nat){uT Ir:Oper}(h:aj P fn c (.ops false all [uT] (.any all fuel (listed.setIfInBounds i true)::k)) fr H)(aS:aj P fn c (.ops false all [Ir] (.any all fuel (listed.setIfInBounds j true)::k)) fr H)(ad:Region.ready .any all listed=[i,j]:=by kernel_rfl)(hd:p2 fn.ntmps all.toList=true:=by exact rfl)(ah:all[i]? =some uT:=by exact rfl)(HS:all[j]? =some Ir:=by exact rfl):aj P fn c (.any all (fuel+1) listed k) fr H:=tJ ad bX hd ⟨fun o' cP=>by rw [ah] at cP;cases cP;exact h,fun o' cP=>by rw [HS] at cP;cases cP;exact aS,trivial⟩
end Go.aj
namespace Go.Proofs.YtmpnheilfejcpaaGreatDoor
open Go.aj Go.aj.dn Go.RowKit
attribute [local irreducible] aj eJ b1 ch
theorem aho (l:List Int)(au:cS l)(hlen:l.length≤1000000000):bs Tryz.prog 215 [.ro (.ints .u32 l) 0 l.length] (.ro (.ints .u32 l) 0 (a6 (bx l)).length):=by
 refine cf Tryz.f215 fun c aq bI=> ?_;refine bn ?_;refine cp (ι:=Nat) (fun k=>[(0,.ro (.ints .u32 l) 0 k)]) (fun _=>[]) (fun k=>k≤l.length∧ ∀i,k≤i→i<l.length→l.getD i 0=0) (fun k=>k) l.length ⟨⟨I,trivial⟩,I,bT _,fun i U ab=>by omega⟩ ?_;rintro k ⟨an,bw⟩;have fin:(k=0∨l.getD (k-1) 0≠0)→(a6 (bx l)).length=k:=fun h=>by rw [←aoX au an bw h,fc,hY an]
 refine bc ?_;refine gQ I I (fun aU=> ?_) (fun aU=> ?_)
 ·have pK:0<k:=J;have aH:((k:Int)-1).toNat=k-1:=J;refine hx ?_;refine bm I (fun U=> ?_) (fun U=> ?_)
  ·rw [aH] at U;refine Nk ?_;refine b4 ⟨k-1,⟨J,fun i ab ay=> ?_⟩,J,⟨?_,trivial⟩,I⟩
   ·by_cases bf:i=k-1
    ·subst bf;exact U
    ·exact bw i J ay
   ·show some (ak.ro (.ints .u32 l) (0+0) _)=_;congr 2;omega
  ·rw [aH] at U;refine bo ?_;exact aX aq I (by rw [fin (.inr U)];rfl)
 ·refine bc ?_;exact aX aq I (by rw [fin (.inl J)];rfl)
theorem vp (l:List Int)(au:cS l)(hlen:l.length≤1000000000):bs Tryz.prog 215 [nh l] (bB (bx l)):=by refine bs.res (aho l au hlen) ?_;exact aR.agM (apB au) (oo (jH au))
theorem FQ (m:Nat)(hm:m<18446744073709551616):bs Tryz.prog 195 [.int .u64 (m:Nat)] (bB m):=by
 have aw:=vp [((m%4294967296:Nat):Int),((m/2^32%4294967296:Nat):Int)] (by
  rw [cS.cons];exact ⟨vo m,cS.one (vo _)⟩) bX
 have ai:bx [((m%4294967296:Nat):Int),((m/2^32%4294967296:Nat):Int)]=m:=by simp only [bx,cg];unfold B;omega
 rw [ai] at aw;refine cf Tryz.f195 fun c aq bI=> ?_;refine bF ?_;refine ao (xe (m:=m) I I I lr) ?_;repeat (refine ao (bE rfl) ?_)
 refine ao (xf (m:=m) (s:=32) I I I) ?_;refine ao (xe I I I lr) ?_;repeat (refine h9 rfl rfl rfl rfl rfl rfl rfl rfl rfl rfl rfl ?_)
 refine aO I I I aw (bF ?_);exact aX aq I I
theorem KN {a b c:Nat}(a8:a<4294967296)(al:b<4294967296)(aw:c<4294967296):a*b<18446744073709551616∧c+a*b<18446744073709551616:=by have:a*b≤4294967295*4294967295:=jT J J;omega
theorem aoS (n:List Int)(x y:Nat)(aI:cS n)(hlen:n.length≤100000000)(ar:x<4294967296)(a1:y<4294967296):
 bs Tryz.prog 200 [nh n,.int .u32 (x:Nat),.int .u32 (y:Nat)] (bB (bx n*x+y)):=by
 refine cf Tryz.f200 fun c aq bI=> ?_;refine bq ?_;refine mf I I I I I I I I (by show (0:Int)≤0∧_≤_∧(4:Int)*_≤_∧_;omega) (bF ?_);refine ao (hb (m:=y) I I I eO J) ?_;refine UI 0 (.ints .u32 []) I ⟨b7 _,I,fun i j aa _=>absurd aa (gg _)⟩ (bq ?_);refine cp (ι:=Nat×List Int×Nat) (fun p=>[(0,nh n),(1,.int .u32 (x:Nat)),(7,.aC 0 0 p.1),(8,.int .u64 (p.2.2:Nat)),(17,nh n),(18,ag n.length),(19,ag p.1)]) (fun p=>[some ⟨218,.ints .u32 p.2.1⟩])
  (fun p=>p.1≤n.length∧p.2.1.length=p.1∧cS p.2.1∧p.2.2<4294967296∧bx p.2.1+B^p.1*p.2.2=bx (n.take p.1)*x+y) (fun p=>n.length-p.1) (0,[],y) ⟨aE,rfl,b7 _,rfl,cS.nil,a1,by simp [bx]⟩ ?_
 rintro ⟨i,out,dx⟩ ⟨U,ab,ay,bf,bL⟩;simp only at*;refine bh ?_;refine bm I (fun dz=> ?_) (fun dz=> ?_)
 ·have mT:i<n.length:=J;obtain ⟨d,hd,zM⟩:=aI.nat i;have al:=KN (a:=d) (b:=x) (c:=dx) zM ar bf;have aB:(dx+d*x)/4294967296<4294967296:=J;refine bc ?_;refine bP 24 (.int .u32 (d:Nat)) I (aR.of_eq (by rw [hd])) ?_;refine ao (hb (m:=d) I I I eO J) ?_;repeat (refine ao (bE rfl) ?_)
  refine ao (hb (m:=x) I I I eO J) ?_;refine ao (Dn I I eO al.1) ?_;refine ao (vx I I eO al.2) (bF ?_);refine ao (xe I I I lr) ?_;repeat (refine h9 rfl rfl rfl rfl rfl rfl rfl rfl rfl rfl rfl ?_)
  refine dy I I I I I I I I I ab I I (bT 1) I (by show (i+1)*4≤_∧_;omega) (fun i j _ _=>rfl) c3 (bF ?_);refine ao (xf (s:=32) I I I) (bo ?_);refine b4 ⟨(i+1,out++[(((dx+d*x)%4294967296:Nat):Int)],(dx+d*x)/4294967296),⟨by simp only;omega,by simp [ab],cS.append.2 ⟨ay,cS.one (vo _)⟩,aB,?_⟩,by simp only;omega,aE,I⟩;have:=On ab bL (c:=dx+d*x) (d:=d*x) rfl;rw [my n i,hd,cg,dK,kH];simp only at this⊢;rw [this];omega
 ·have df:i=n.length:=J;subst df;rw [e7] at bL;refine bo ?_;refine ao (xe (m:=dx) I I I lr) ?_;repeat (refine h9 rfl rfl rfl rfl rfl rfl rfl rfl rfl rfl rfl ?_)
  refine dy I I I I I I I I I ab I I (bT 1) I (by show (n.length+1)*4≤_∧_;omega) (fun i j _ _=>rfl) c3 ?_;have au:cS (out++[((dx%4294967296:Nat):Int)]):=cS.append.2 ⟨ay,cS.one (vo _)⟩;have aw:=vp _ au (by simp;omega);have ai:bx (out++[((dx%4294967296:Nat):Int)])=bx n*x+y:=by rw [AB,ab,cg,np bf];exact bL
  rw [ai] at aw;refine sM 0 42 (n.length+1) [] I ma I (by show _≤(out++[((dx%4294967296:Nat):Int)]).length;simp;omega) trivial ?_;refine aO I I (by show [ak.ro _ 0 (n.length+1)]++[]=[nh (out++[((dx%4294967296:Nat):Int)])];simp only [nh,c8,ab];rfl) aw (bF ?_);exact aX aq I I
theorem S7 (n:Int):bs Tryz.prog 246 [.int .i64 n] (.bool false):=by refine cf Tryz.f246 fun c aq bI=> ?_;refine bq ?_;refine aX aq I ?_;simp [gS]
theorem S8 (n:Int):bs Tryz.prog 261 [.int .u32 n] (.bool false):=by refine cf Tryz.f261 fun c aq bI=> ?_;refine bq ?_;refine aX aq I ?_;simp [gS]
theorem aaJ (x y:Int):bs Tryz.prog 220 [.int .i64 x,.int .i64 y] (.int .i64 (kc x y)):=by
 refine cf Tryz.f220 fun c aq bI=> ?_;refine bF ?_;refine aO I I I (S7 x) (bF ?_);refine aO I I I (S7 y) (bh ?_);refine bm I (fun h=> ?_) (fun h=> ?_)
 ·refine c4 ?_;refine aX aq I ?_;unfold kc;rw [aA h];rfl
 ·refine bc ?_;refine bm I (fun ab=> ?_) (fun ab=> ?_)
  ·refine c4 ?_;refine aX aq I ?_;unfold kc;rw [ax h,aA ab];rfl
  ·refine bn ?_;refine aX aq I ?_;unfold kc;rw [ax h,ax ab];rfl
theorem aaK (x y:Int):bs Tryz.prog 238 [.int .u32 x,.int .u32 y] (.int .i64 (kc x y)):=by
 refine cf Tryz.f238 fun c aq bI=> ?_;refine bF ?_;refine aO I I I (S8 x) (bF ?_);refine aO I I I (S8 y) (bh ?_);refine bm I (fun h=> ?_) (fun h=> ?_)
 ·refine c4 ?_;refine aX aq I ?_;unfold kc;rw [aA h];rfl
 ·refine bc ?_;refine bm I (fun ab=> ?_) (fun ab=> ?_)
  ·refine c4 ?_;refine aX aq I ?_;unfold kc;rw [ax h,aA ab];rfl
  ·refine bn ?_;refine aX aq I ?_;unfold kc;rw [ax h,ax ab];rfl
theorem KK (a b:Nat)(a8:(a6 a).length≤1000000000)(al:(a6 b).length≤1000000000):bs Tryz.prog 211 [bB a,bB b] (.int .i64 (kc a b)):=by
 have dk:=aaJ (a6 a).length (a6 b).length;refine cf Tryz.f211 fun c aq bI=> ?_;have Ii:=iS a;have Th:=iS b;have aH:=aaG a b;have aJ: ∀i,i<(a6 a).length→(a6 a).length=(a6 b).length→(∀j,i<j→j<(a6 a).length→(a6 a).getD j 0=(a6 b).getD j 0)→(a6 a).getD i 0≠(a6 b).getD i 0→kc a b=kc ((a6 a).getD i 0) ((a6 b).getD i 0):=fun i aa au ae cd=>aaH Ii Th au aa ae cd;have bR:(a6 a).length=(a6 b).length→(∀j,j<(a6 a).length→(a6 a).getD j 0=(a6 b).getD j 0)→kc a b=0:=aaI;unfold bB;generalize a6 a=x at*;generalize a6 b=y at*;generalize kc (a:Int) (b:Int)=r at*;refine bq ?_;refine bm I (fun aU=> ?_) (fun aU=> ?_)
 ·refine bq ?_;refine aO I I I dk (c4 ?_);refine aX aq I ?_;rw [aH J];rfl
 ·have au:x.length=y.length:=J;refine cJ ?_;refine cp (ι:=Nat) (fun k=>[(0,.ro (.ints .u32 x) 0 x.length),(1,.ro (.ints .u32 y) 0 y.length),(5,.int .i64 ((k:Int)-1))]) (fun _=>[]) (fun k=>k≤x.length∧ ∀j,k≤j→j<x.length→x.getD j 0=y.getD j 0) (fun k=>k) x.length ⟨aE,I,bT _,fun j U ab=>by omega⟩ ?_;rintro k ⟨an,bw⟩;refine cJ ?_;refine bm I (fun U=> ?_) (fun U=> ?_)
  ·have Lj:((k:Int)-1).toNat=k-1:=J;refine bn ?_;refine Ax af af I (bc ?_);refine bm I (fun ab=> ?_) (fun ab=> ?_)
   ·rw [Lj] at ab;have dO:=aaK (x.getD (k-1) 0) (y.getD (k-1) 0);repeat (refine dh ?_)
    refine eg af ?_;refine bH 0 I af af af I (bE I) I ?_;refine bH 1 I af af af I (bE I) I ?_;refine bH 2 I af af af I (h8 I I I I (by first|(simp only [cT,cg,fE];exact I)|exact I) J) I ?_;refine bH 4 I af af af I (bE I) I ?_;refine bH 5 I af af af I (bE I) I ?_;refine bH 6 I af af af I (h8 I I I I (by first|(simp only [cT,cg,fE];exact I)|exact I) J) I ?_;apply tN [(35,.int .u32 (x.getD ((k:Int)-1).toNat 0)),(39,.int .u32 (y.getD ((k:Int)-1).toNat 0))]
    ·intro fin;refine dQ 3 7 ?_ ?_
     ·refine bc ?_;refine br 7 ?_;refine bc ?_;exact fin _ aE
     ·refine bc ?_;refine br 3 ?_;refine bc ?_;exact fin _ aE
    refine br 8 ?_;skip
    refine aO I I I (by rw [Lj];exact dO) (bn ?_);refine bH 9 I af af af I (du I) I ?_;refine dX af (bc ?_);refine aX aq I ?_;rw [aJ (k-1) J au (fun j ay bf=>bw j J bf) ab];rfl
   ·rw [Lj] at ab;refine cJ ?_;refine b4 ⟨k-1,⟨J,fun j ay bf=> ?_⟩,J,⟨I,I,?_,trivial⟩,I⟩
    ·by_cases bL:j=k-1
     ·subst bL;exact e0.1 ab
     ·exact bw j J bf
    ·show some (ak.int .i64 _)=_;congr 2;omega
  ·refine bo ?_;refine aX aq I ?_;rw [bR au (fun j ay=>bw j J ay)];rfl
theorem yF {out:List Int}{m:Nat}(h:out.length=m):[ak.ro (.ints .u32 out) 0 m]++[]=[nh out]:=by subst h;rfl
theorem ZF (a b:Nat)(a8:(a6 a).length≤100000000)(al:(a6 b).length≤100000000):bs Tryz.prog 210 [bB a,bB b] (bB (a+b)):=by
 refine cf Tryz.f210 fun c aq bI=> ?_;obtain ⟨p,q,HU,hlen,cH⟩: ∃p q:Nat,p+q=a+b∧(a6 q).length≤(a6 p).length∧(((a6 a).length<(a6 b).length∧p=b∧q=a)∨(¬(a6 a).length<(a6 b).length∧p=a∧q=b)):=by
  rcases gz (a6 a).length (a6 b).length with h|h
  ·exact ⟨b,a,J,J,.inl ⟨h,I,I⟩⟩
  ·exact ⟨a,b,I,h,.inr ⟨J,I,I⟩⟩
 have gX:(a6 p).length≤100000000:=by rcases cH with ⟨_,rfl,rfl⟩|⟨_,rfl,rfl⟩<;>assumption
 apply kQ (H:=[]) [(0,bB p),(1,bB q)]
 ·intro fin;unfold bB at fin⊢;refine bh ?_;refine bm I (fun aU=> ?_) (fun aU=> ?_)
  ·have:p=b∧q=a:=by
    rcases cH with h|h
    ·exact h.2
    ·exact absurd J h.1
   obtain ⟨rfl,rfl⟩:=this;skip
   refine c5 I ?_;refine eD ?_;exact fin _ aE
  ·have:p=a∧q=b:=by
    rcases cH with h|h
    ·exact absurd J aU
    ·exact h.2
   obtain ⟨rfl,rfl⟩:=this;refine eD ?_;exact fin _ aE
 have ar:=iS p;have a1:=iS q;have ai:bx (a6 p)+bx (a6 q)=a+b:=by rw [hG,hG,HU]
 unfold bB;rw [←ai] at aq;generalize a6 p=x at*;generalize a6 q=y at*;refine bq ?_;refine mf I I I I I I I I (by show (0:Int)≤0∧_≤_∧(4:Int)*_≤_∧_;omega) (bq ?_);refine JS 0 (.ints .u32 []) I ⟨b7 _,I,fun i j aa _=>absurd aa (gg _)⟩ ?_;refine cp (ι:=Nat×List Int×Nat) (fun p=>[(1,.ro (.ints .u32 y) 0 y.length),(5,.aC 0 0 p.1),(6,.int .u64 (p.2.2:Nat)),(20,.ro (.ints .u32 x) 0 x.length),(21,ag x.length),(22,ag p.1)]) (fun p=>[some ⟨218,.ints .u32 p.2.1⟩])
  (fun p=>p.1≤x.length∧p.2.1.length=p.1∧cS p.2.1∧p.2.2<4294967296∧bx p.2.1+B^p.1*p.2.2=bx (x.take p.1)+bx (y.take p.1)) (fun p=>x.length-p.1) (0,[],0) ⟨aE,rfl,b7 _,rfl,cS.nil,aT,by simp [bx]⟩ ?_
 rintro ⟨i,out,dx⟩ ⟨U,ab,ay,bf,bL⟩;simp only at*;refine bh ?_;refine bm I (fun dz=> ?_) (fun dz=> ?_)
 ·have mT:i<x.length:=J;obtain ⟨d,hd,zM⟩:=ar.nat i;obtain ⟨e,he,Sd⟩:=a1.nat i;refine bc ?_;refine bP 28 (.int .u32 (d:Nat)) I (aR.of_eq (by rw [hd])) ?_;refine ao (hb (m:=d) I I I eO J) ?_;refine ao (vx I I eO J) (bh ?_);apply kQ (H:=[some ⟨218,.ints .u32 out⟩]) [(1,.ro (.ints .u32 y) 0 y.length),(5,.aC 0 0 i),(6,.int .u64 (dx+d+e:Nat)),(20,.ro (.ints .u32 x) 0 x.length),(21,ag x.length),(22,ag i)]
  ·intro fin;refine bm I (fun fx=> ?_) (fun fx=> ?_)
   ·refine bc ?_;refine bP 39 (.int .u32 (e:Nat)) I (aR.of_eq (by rw [he])) ?_;refine ao (hb (m:=e) I I I eO J) ?_;refine ao (vx I I eO J) ?_;refine eD ?_;exact fin _ aE
   ·have LZ:e=0:=by
     have:y.getD i 0=0:=by simp [List.getD,kG (show y.length≤i by omega)]
     omega
    subst LZ;refine eD ?_;exact fin _ aE
  refine bF ?_;refine ao (xe I I I lr) ?_;repeat (refine h9 rfl rfl rfl rfl rfl rfl rfl rfl rfl rfl rfl ?_)
  refine dy I I I I I I I I I ab I I (bT 1) I (by show (i+1)*4≤_∧_;omega) (fun i j _ _=>rfl) c3 (bF ?_);refine ao (xf (s:=32) I I I) (bo ?_);exact b4 ⟨(i+1,out++[(((dx+d+e)%4294967296:Nat):Int)],(dx+d+e)/4294967296),⟨by simp only;omega,by simp [ab],cS.append.2 ⟨ay,cS.one (vo _)⟩,by simp only;omega,W9 ab bL hd he⟩,by simp only;omega,aE,I⟩
 ·have df:i=x.length:=J;subst df;rw [e7,kI hlen] at bL;refine bo ?_;refine ao (xe (m:=dx) I I I lr) ?_;repeat (refine h9 rfl rfl rfl rfl rfl rfl rfl rfl rfl rfl rfl ?_)
  refine dy I I I I I I I I I ab I I (bT 1) I (by show (x.length+1)*4≤_∧_;omega) (fun i j _ _=>rfl) c3 ?_;have au:cS (out++[((dx%4294967296:Nat):Int)]):=cS.append.2 ⟨ay,cS.one (vo _)⟩;have aw:=vp _ au (by simp;omega);have ai:bx (out++[((dx%4294967296:Nat):Int)])=bx x+bx y:=by rw [AB,ab,cg,np bf];exact bL
  rw [ai] at aw;refine sM 0 54 (x.length+1) [] I ma I (by show _≤(out++[((dx%4294967296:Nat):Int)]).length;simp;omega) trivial ?_;refine aO I I (yF (by simp [ab])) aw (bF ?_);exact aX aq I I
theorem T7 (a b:Nat)(nv:b≤a)(a8:(a6 a).length≤100000000):bs Tryz.prog 212 [bB a,bB b] (bB (a-b)):=by
 refine cf Tryz.f212 fun c aq bI=> ?_;have ar:=iS a;have a1:=iS b;have hlen:(a6 b).length≤(a6 a).length:=oo (by have:=jH ar;rw [hG] at this;omega);have afH:bx (a6 a)=a:=hG a;have H5:bx (a6 b)=b:=hG b;have aqr:a<B^(a6 a).length:=by have:=jH ar;rwa [hG] at this
 unfold bB;generalize a6 a=x at*;generalize a6 b=y at*;refine bq ?_;refine mf I I I I I I I I (by show (0:Int)≤0∧_≤_∧(4:Int)*_≤_∧_;omega) (bq ?_);refine JS 0 (.ints .u32 []) I ⟨b7 _,I,fun i j aa _=>absurd aa (gg _)⟩ ?_;refine cp (ι:=Nat×List Int×Nat) (fun p=>[(1,.ro (.ints .u32 y) 0 y.length),(5,.aC 0 0 p.1),(6,ag p.2.2),(13,.ro (.ints .u32 x) 0 x.length),(14,ag x.length),(15,ag p.1)]) (fun p=>[some ⟨218,.ints .u32 p.2.1⟩])
  (fun p=>p.1≤x.length∧p.2.1.length=p.1∧cS p.2.1∧p.2.2≤1∧bx p.2.1+bx (y.take p.1)=bx (x.take p.1)+B^p.1*p.2.2) (fun p=>x.length-p.1) (0,[],0) ⟨aE,rfl,b7 _,rfl,cS.nil,aT,by simp [bx]⟩ ?_
 rintro ⟨i,out,iK⟩ ⟨U,ab,ay,bf,bL⟩;simp only at*;refine bh ?_;refine bm I (fun dz=> ?_) (fun dz=> ?_)
 ·have mT:i<x.length:=J;obtain ⟨d,hd,zM⟩:=ar.nat i;obtain ⟨e,he,Sd⟩:=a1.nat i;refine bc ?_;refine bP 20 (.int .u32 (d:Nat)) I (aR.of_eq (by rw [hd])) ?_;refine ao (AH (m:=d) I I I J) (cJ ?_);apply kQ (H:=[some ⟨218,.ints .u32 out⟩]) [(1,.ro (.ints .u32 y) 0 y.length),(5,.aC 0 0 i),(9,.int .i64 ((d:Int)-(iK:Int)-(e:Int))),(13,.ro (.ints .u32 x) 0 x.length),(14,ag x.length),(15,ag i)]
  ·intro fin;refine bm I (fun fx=> ?_) (fun fx=> ?_)
   ·refine bc ?_;refine bP 32 (.int .u32 (e:Nat)) I (aR.of_eq (by rw [he])) ?_;refine ao (AH (m:=e) I I I J) ?_;refine eD ?_;exact fin _ aE
   ·have LZ:e=0:=by
     have:y.getD i 0=0:=by simp [List.getD,kG (show y.length≤i by omega)]
     omega
    subst LZ;refine eD ?_;exact fin _ ⟨I,I,by show some (ak.int .i64 ((d:Int)-(iK:Int)))=_;simp,I,I,I,trivial⟩
  obtain ⟨yv,tl,afX,LL,afV⟩: ∃yv tl:Nat,yv+iK+e=d+4294967296*tl∧tl≤1∧yv<4294967296:=by
   rcases gz d (iK+e) with q|q
   ·exact ⟨d+4294967296-iK-e,1,J,J,J⟩
   ·exact ⟨d-iK-e,0,J,J,J⟩
  refine bh ?_;apply kQ (H:=[some ⟨218,.ints .u32 out⟩]) [(1,.ro (.ints .u32 y) 0 y.length),(5,.aC 0 0 i),(6,ag tl),(9,ag yv),(13,.ro (.ints .u32 x) 0 x.length),(14,ag x.length),(15,ag i)]
  ·intro fin;refine bm I (fun fx=> ?_) (fun fx=> ?_)
   ·have:tl=1:=J;skip
    refine c5 I ?_;refine eD ?_;subst this;exact fin _ ⟨I,I,I,by show some (ak.int .i64 ((d:Int)-(iK:Int)-(e:Int)+4294967296))=_;congr 2;omega,I,I,I,trivial⟩
   ·have:tl=0:=J;subst this;refine eD ?_;exact fin _ ⟨I,I,I,by show some (ak.int .i64 ((d:Int)-(iK:Int)-(e:Int)))=_;congr 2;omega,I,I,I,trivial⟩
  refine bF ?_;refine ao (hb (m:=yv) I I I lr afV) ?_;repeat (refine h9 rfl rfl rfl rfl rfl rfl rfl rfl rfl rfl rfl ?_)
  refine dy I I I I I I I I I ab I I (bT 1) I (by show (i+1)*4≤_∧_;omega) (fun i j _ _=>rfl) c3 (bo ?_);exact b4 ⟨(i+1,out++[(yv:Int)],tl),⟨by simp only;omega,by simp [ab],cS.append.2 ⟨ay,cS.one J⟩,LL,aoz ab bL hd he afX⟩,by simp only;omega,aE,I⟩
 ·have df:i=x.length:=J;subst df;rw [e7,kI hlen,afH,H5] at bL;have aw:=vp _ ay J;have ai:bx out=a-b:=by
   have aeX:=jH ay;rw [ab] at aeX;have:iK=0∨iK=1:=J;rcases this with rfl|rfl
   ·rw [tc] at bL;omega
   ·rw [q6] at bL;omega
  rw [ai] at aw;refine bo ?_;refine sM 0 45 x.length [] I ma I (by show _≤out.length;omega) trivial ?_;refine aO I I (yF ab) aw (bF ?_);exact aX aq I I
theorem U3 (n:List Int)(x:Nat)(aI:cS n)(hlen:n.length≤100000000)(ar:0<x∧x<4294967296):
 bs Tryz.prog 222 [nh n,.int .u32 (x:Nat)] (.cn [bB (bx n/x),.int .u32 (bx n%x:Nat)]):=by
 refine cf Tryz.f222 fun c aq bI=> ?_;unfold nh;refine bq ?_;refine mf I I I I I I I I (by show (0:Int)≤_∧_≤_∧(4:Int)*_≤_∧_;omega) (cJ ?_);refine cp (ι:=Nat×List Int×Nat) (fun p=>[(0,.ro (.ints .u32 n) 0 n.length),(1,.int .u32 (x:Nat)),(6,.aC 0 0 n.length),(7,.int .u64 (p.2.2:Nat)),(8,.int .i64 ((p.1:Int)-1))]) (fun p=>[some ⟨218,.ints .u32 p.2.1⟩])
  (fun p=>p.1≤n.length∧p.2.1.length=n.length∧cS p.2.1∧p.2.2<x∧bx (n.drop p.1)=x*bx (p.2.1.drop p.1)+p.2.2) (fun p=>p.1) (n.length,List.replicate n.length 0,0) ⟨aE,rfl,bT _,bX,cS.KT _,ar.1,by simp [bx]⟩ ?_
 rintro ⟨i,out,rs⟩ ⟨U,ab,ay,bf,bL⟩;simp only at*;refine cJ ?_;refine bm I (fun dz=> ?_) (fun dz=> ?_)
 ·obtain ⟨j,rfl⟩: ∃j,i=j+1:=⟨i-1,J⟩
  obtain ⟨d,hd,zM⟩:=aI.nat j;have Hg:(((j+1:Nat):Int)-1)=(j:Nat):=J;have abK:(((j+1:Nat):Int)-1).toNat=j:=J;have ME:rs*4294967296+d<x*4294967296:=by have:(rs+1)*4294967296≤x*4294967296:=er _ bf;omega
  have aB:(rs*4294967296+d)/x<4294967296:=xz ME;have hm:(rs*4294967296+d)%x<x:=lx _ ar.1;have adS:=zm (rs*4294967296+d) x;generalize x2:(rs*4294967296+d)/x=q at*;generalize BX:(rs*4294967296+d)%x=r at*;refine bn ?_;refine ao (Gx (m:=rs) (s:=32) I I aT eO (Dy J)) (bc ?_);refine bP 24 (.int .u32 (d:Nat)) I (aR.of_eq (by rw [abK,hd])) ?_;refine ao (hb (m:=d) I I I eO J) ?_;refine ao (b1.res (GJ I I eO I (Dy J) J) (by rw [Qz zM])) (bF ?_);refine ao (hb (m:=x) I I I eO J) ?_;refine ao (b1.res (TM I I eO J ar.1) (by rw [x2])) ?_;refine ao (hb (m:=q) I I I lr aB) ?_;refine bP 28 (ag j) I (aR.of_eq (by rw [Hg])) (cJ ?_);refine ao (hb (m:=x) I I I eO J) ?_;refine ao (b1.res (aiy I I ar.1) (by rw [BX])) (cJ ?_);refine b4 ⟨(j,out.set j (q:Int),r),⟨by simp only;omega,by simp [ab],ay.set J,hm,?_⟩,by simp only;omega,⟨I,I,I,I,?_,trivial⟩,I⟩
  rotate_left
  ·show some (ak.int .i64 _)=_;congr 2;omega
  simp only;rw [alO J,alu,hd,cg,bL];simp only [bx,cg];have aH:x*(q+B*bx (out.drop (j+1)))=x*q+B*(x*bx (out.drop (j+1))):=by rw [hk,Nat.mul_left_comm]
  rw [aH,hk];generalize x*bx (out.drop (j+1))=w at*;generalize x*q=qH at*;show d+(4294967296*w+4294967296*rs)=qH+4294967296*w+r;omega
 ·have df:i=0:=J;subst df;rw [sd,sd] at bL;have ai:bx out=bx n/x∧rs=bx n%x:=by
   rw [bL,hj];constructor
   ·rw [oO,Nat.add_mul_div_right _ _ ar.1,oJ bf,cT]
   ·rw [oO,Nat.add_mul_mod_self_right,np bf]
  have aw:=vp _ ay J;rw [ai.1] at aw;obtain ⟨_,SU⟩:=ai;refine bo ?_;refine sM 0 39 n.length [(7,.int .u64 (rs:Nat))] I ma I (by show _≤out.length;omega) ⟨I,trivial⟩ ?_;refine aO I I (yF ab) aw ?_;repeat (refine ao (bE rfl) ?_)
  refine ao (hb (m:=rs) I I I lr J) (bF ?_);refine aX aq I ?_;rw [SU];rfl
theorem KO (a b:Nat)(a8:(a6 a).length≤100000000)(al:(a6 b).length≤100000000):bs Tryz.prog 183 [bB a,bB b] (bB (a*b)):=by
 refine cf Tryz.f183 fun c aq bI=> ?_;have ar:=iS a;have a1:=iS b;have ai:bx (a6 a)*bx (a6 b)=a*b:=by rw [hG,hG]
 unfold bB;rw [←ai] at aq;generalize a6 a=x at*;generalize a6 b=y at*;refine bq ?_;refine mf I I I I I I I I (by show (0:Int)≤_∧_≤_∧(4:Int)*_≤_∧_;omega) ?_;rw [show ((x.length:Int)+(y.length:Int)).toNat=x.length+y.length by omega];refine bq ?_;refine cp (ι:=Nat×List Int) (fun p=>[(1,.ro (.ints .u32 y) 0 y.length),(5,.aC 0 0 (x.length+y.length)),(17,.ro (.ints .u32 x) 0 x.length),(18,.int .i64 (x.length:Nat)),(19,.int .i64 (p.1:Nat))]) (fun p=>[some ⟨218,.ints .u32 p.2⟩])
  (fun p=>p.1≤x.length∧p.2.length=x.length+y.length∧cS p.2∧bx p.2=bx (x.take p.1)*bx y∧ ∀q,p.1+y.length≤q→p.2.getD q 0=0) (fun p=>x.length-p.1) (0,List.replicate (x.length+y.length) 0) ⟨aE,rfl,b7 _,bX,cS.KT _,by simp [bx,Ou],fun q _=>XO _ _⟩ ?_
 rintro ⟨i,out⟩ ⟨U,ab,ay,bf,bL⟩;simp only at*;refine bh ?_;refine bm I (fun dz=> ?_) (fun dz=> ?_)
 ·have mT:i<x.length:=J;obtain ⟨d,hd,zM⟩:=ar.nat i;refine bc ?_;refine ds 7 (.int .u32 (d:Nat)) I (aR.of_eq (by rw [hd])) ?_;refine cp (ι:=Nat×List Int×Nat) (fun p=>[(1,.ro (.ints .u32 y) 0 y.length),(5,.aC 0 0 (x.length+y.length)),(6,.int .i64 (i:Nat)),(7,.int .u32 (d:Nat)),(8,.int .u64 (p.2.2:Nat)),(17,.ro (.ints .u32 x) 0 x.length),(18,.int .i64 (x.length:Nat)),(19,.int .i64 (i:Nat)),(24,.ro (.ints .u32 y) 0 y.length),(25,.int .i64 (y.length:Nat)),(26,.int .i64 (p.1:Nat))]) (fun p=>[some ⟨218,.ints .u32 p.2.1⟩])
   (fun p=>p.1≤y.length∧p.2.1.length=x.length+y.length∧cS p.2.1∧p.2.2<4294967296∧bx p.2.1+B^(i+p.1)*p.2.2=bx (x.take i)*bx y+B^i*(d*bx (y.take p.1))∧ ∀q,i+y.length≤q→p.2.1.getD q 0=0) (fun p=>y.length-p.1) (0,out,0) ⟨aE,rfl,b7 _,ab,ay,Nat.zero_lt_succ _,by simp [bx,bf],bL⟩ ?_
  rintro ⟨j,o2,dx⟩ ⟨ee,fg,gC,rp,tD,E6⟩;simp only at*;refine bh ?_;refine bm I (fun MX=> ?_) (fun MX=> ?_)
  ·have zQ:j<y.length:=J;obtain ⟨e,he,Sd⟩:=a1.nat j;obtain ⟨f,aQ,aqB⟩:=gC.nat (i+j);have so:d*e≤4294967295*4294967295:=jT J J;refine bc ?_;refine ao (hb (m:=d) I I I eO J) ?_;repeat (refine ao (bE rfl) ?_)
   refine bP 34 (.int .u32 (e:Nat)) I (aR.of_eq (by rw [he])) ?_;refine ao (hb (m:=e) I I I eO J) ?_;refine ao (Dn I I eO J) (bq ?_);refine bP 40 (.int .i64 (i+j:Nat)) I (aR.of_eq (by rw [Int.natCast_add])) (cJ ?_);refine bP 42 (.int .u32 (f:Nat)) I (aR.of_eq (by rw [aQ])) ?_;refine ao (hb (m:=f) I I I eO J) ?_;refine ao (vx I I eO J) ?_;refine ao (vx I I eO J) (bq ?_);refine ao (xe I I I lr) ?_;refine bP 49 (.int .i64 (i+j:Nat)) I (aR.of_eq (by rw [Int.natCast_add])) (cJ ?_);refine ao (xf (s:=32) I I I) (bo ?_);refine b4 ⟨(j+1,o2.set (i+j) (((dx+(d*e+f))%4294967296:Nat):Int),(dx+(d*e+f))/4294967296),⟨by simp only;omega,by simp [fg],gC.set (vo _),by simp only;omega,?_,fun q aB=> ?_⟩,by simp only;omega,aE,I⟩
   ·have:=ahe (dx:=dx) (a:=d) (b:=e) (p:=i+j) J tD aQ;simp only;rw [show i+(j+1)=i+j+1 from rfl,this,my y j,he,cg,ju];congr 1;rw [hk,hk,iI];congr 1
    ac_rfl
   ·simp only;rw [Fu J];exact E6 q aB
  ·have ho:j=y.length:=J;subst ho;rw [e7] at tD;have bw:=E6 (i+y.length) (bT _);have c9:=PV (x:=(dx:Int)) (show i+y.length<o2.length by omega);rw [bw,cg] at c9;refine bo ?_;refine ao (hb (m:=dx) I I I lr rp) ?_;refine bP 60 (.int .i64 (i+y.length:Nat)) I (aR.of_eq (by rw [Int.natCast_add])) (cJ ?_);refine b4 ⟨(i+1,o2.set (i+y.length) (dx:Int)),⟨by simp only;omega,by simp [fg],gC.set J,?_,fun q aB=> ?_⟩,by simp only;omega,aE,I⟩
   ·simp only;rw [my x i,hd,cg,dK,kH,←tD];have:(0:Int).toNat=0:=rfl;rw [this] at c9;omega
   ·simp only at aB⊢;rw [Fu J];exact E6 q J
 ·have df:i=x.length:=J;subst df;rw [e7] at bf;have aw:=vp _ ay J;rw [bf] at aw;refine bo ?_;refine sM 0 65 (x.length+y.length) [] I ma I (by show _≤out.length;omega) trivial ?_;refine aO I I (yF ab) aw (bF ?_);exact aX aq I I
theorem Ye (n:List Int)(s:Nat)(aI:cS n)(hlen:n.length≤100000000)(av:s<32):
 ud Tryz.prog 223 [nh n,.int .i64 (s:Nat)] (fun h=> .aC h 0 (n.length+1)) ⟨218,.ints .u32 (fZ (n.length+1) (bx n*2^s))⟩:=by
 refine ch.fresh (K:=fun r H=>r= .aC 0 0 (n.length+1)∧H=[some ⟨218,.ints .u32 (fZ (n.length+1) (bx n*2^s))⟩]) (gl (P:=Tryz.prog) (fn:=Tryz.f223) I I af I (fun c aq bI=> ?_)) (fix:=fun _=>False) (fun _ h=>h) I (fun H=>⟨I,trivial,trivial,trivial⟩) ?_
 ·have aF:2^s≤2147483648:=by have:=fF (show 0<2 by decide) (show s≤31 by omega);exact dN this aT
  have wv:0<2^s:=lW aT;unfold nh;refine bq ?_;refine mf I I I I I I I I (by show (0:Int)≤0∧_≤_∧(4:Int)*_≤_∧_;omega) (bq ?_);refine JS 0 (.ints .u32 []) I ⟨b7 _,I,fun i j aa _=>absurd aa (gg _)⟩ ?_;refine cp (ι:=Nat×List Int×Nat) (fun p=>[(1,.int .i64 (s:Nat)),(5,.aC 0 0 p.1),(6,.int .u64 (p.2.2:Nat)),(13,.ro (.ints .u32 n) 0 n.length),(14,.int .i64 (n.length:Nat)),(15,.int .i64 (p.1:Nat))]) (fun p=>[some ⟨218,.ints .u32 p.2.1⟩])
   (fun p=>p.1≤n.length∧p.2.1.length=p.1∧cS p.2.1∧p.2.2<2^s∧bx p.2.1+B^p.1*p.2.2=bx (n.take p.1)*2^s) (fun p=>n.length-p.1) (0,[],0) ⟨aE,rfl,b7 _,rfl,cS.nil,wv,by simp [bx]⟩ ?_
  rintro ⟨i,out,dx⟩ ⟨U,ab,ay,bf,bL⟩;simp only at*;refine bh ?_;refine bm I (fun dz=> ?_) (fun dz=> ?_)
  ·have mT:i<n.length:=J;obtain ⟨d,hd,zM⟩:=aI.nat i;have aeY:dx|||d*2^s=dx+d*2^s:=by have:=Nat.two_pow_add_eq_or_of_lt bf d;rw [Nat.or_comm,hj d,←this,oO]
   have adS:d*2^s≤4294967295*2147483648:=jT J aF;have aB:(dx+d*2^s)/4294967296<2^s:=by refine xz ?_;have:(d+1)*2^s≤4294967296*2^s:=er _ J;rw [dK] at this;omega
   refine bc ?_;refine bP 20 (.int .u32 (d:Nat)) I (aR.of_eq (by rw [hd])) ?_;refine ao (hb (m:=d) I I I eO J) ?_;repeat (refine ao (bE rfl) ?_)
   refine ao (Gx (m:=d) (s:=s) I I (by show s≤64;omega) eO J) ?_;refine ao (b1.res (GJ I I eO I J J) (by rw [aeY])) (bF ?_);refine ao (xe I I I lr) ?_;repeat (refine h9 rfl rfl rfl rfl rfl rfl rfl rfl rfl rfl rfl ?_)
   refine dy I I I I I I I I I ab I I (bT 1) I (by show (i+1)*4≤_∧_;omega) (fun i j _ _=>rfl) c3 (bF ?_);refine ao (xf (s:=32) I I I) (bo ?_);refine b4 ⟨(i+1,out++[(((dx+d*2^s)%4294967296:Nat):Int)],(dx+d*2^s)/4294967296),⟨by simp only;omega,by simp [ab],cS.append.2 ⟨ay,cS.one (vo _)⟩,aB,?_⟩,by simp only;omega,aE,I⟩;have:=On ab bL (c:=dx+d*2^s) (d:=d*2^s) rfl;simp only at this⊢;rw [this,my n i,hd,cg,dK,kH]
  ·have df:i=n.length:=J;subst df;rw [e7] at bL;refine bo ?_;refine ao (hb (m:=dx) I I I lr J) ?_;repeat (refine h9 rfl rfl rfl rfl rfl rfl rfl rfl rfl rfl rfl ?_)
   refine dy I I I I I I I I I ab I I (bT 1) I (by show (n.length+1)*4≤_∧_;omega) (fun i j _ _=>rfl) c3 ?_;have au:cS (out++[(dx:Int)]):=cS.append.2 ⟨ay,cS.one J⟩;have ai:bx (out++[(dx:Int)])=bx n*2^s:=by rw [AB,ab,cg];exact bL
   have kn:=Dh au (k:=n.length+1) (by simp [ab]) ai;refine bF ?_;refine aX aq I ⟨I,?_⟩;show ([some ⟨218,.ints .u32 (out++[(dx:Int)])⟩]:aZ)=_;rw [kn]
 ·rintro r H ⟨rfl,rfl⟩;refine ⟨fun o ah=>by simp at ah;subst ah;show 0+(n.length+1)≤(fZ _ _).length;rw [qN];omega,p8 ma,0,rfl,fun k=>rfl⟩
theorem abl (A dE C V:List Int)(j s:Nat)(qf:aZ)(ae:A.length=j)(av:2≤s)(au:dE.length=s+1)(BW:V.length=s)(rb:cS dE)(re:cS V)(ME:2147483648≤V.getD (s-1) 0)(bD:bx dE<4294967296*bx V)(cz:(A++(dE++C)).length≤1000000000):
 ch Tryz.prog 224 [.aC 0 j (s+1),nh V] (some ⟨218,.ints .u32 (A++(dE++C))⟩::qf) (fun h=>h<qf.length+1)
  (fun r H=>r= .int .u32 (bx dE/bx V:Nat)∧H=some ⟨218,.ints .u32 (A++(fZ (s+1) (bx dE%bx V)++C))⟩::qf):=by
 refine gl (P:=Tryz.prog) (fn:=Tryz.f224) I I af I (fun c aq bI=> ?_);have Mw:=BW;obtain ⟨oj,aU,QX⟩:=rb.nat s;obtain ⟨iA,U,ei⟩:=rb.nat (s-1);obtain ⟨u2,ab,ew⟩:=rb.nat (s-2);obtain ⟨v1,ee,dk⟩:=re.nat (s-1);obtain ⟨v2,fg,dO⟩:=re.nat (s-2);have afC:2147483648≤v1:=J;have L1:=fun g=>Lk (g:=g) av au Mw rb re aU U ab ee fg afC bD;have g0:=F2 (C:=C) ae (show s<dE.length by omega);have g1:=F2 (C:=C) ae (show s-1<dE.length by omega);have g2:=F2 (C:=C) ae (show s-2<dE.length by omega);rw [aU] at g0;rw [U] at g1;rw [ab] at g2;have hlen:(A++(dE++C)).length=j+(s+1)+C.length:=by simp [ae,au];omega
 have mX:0<bx V:=by have:=my V (s-1);rw [show s-1+1=V.length by omega,e7,ee,cg] at this;have ay:B^(s-1)*1≤B^(s-1)*v1:=hz _ J;have:=Ha (s-1);omega
 unfold nh;rw [Mw];refine bq ?_;refine Ax af af I (cJ ?_);refine bP 20 (.int .u32 (oj:Nat)) I (aR.of_eq (by rw [g0])) ?_;refine ao (hb (m:=oj) I I I eO J) ?_;refine ao (Gx (m:=oj) (s:=32) I I aT eO (Dy QX)) (fb ?_);refine bP 25 (.int .i64 (s-1:Nat)) I (aR.of_eq (by congr 1;omega)) (cJ ?_);refine bP 27 (.int .u32 (iA:Nat)) I (aR.of_eq (by rw [g1])) ?_;refine ao (hb (m:=iA) I I I eO J) ?_;refine ao (b1.res (GJ I I eO I (Dy QX) J) (by rw [Qz ei])) ?_;have qx:oj*4294967296+iA<18446744073709551616:=J;obtain ⟨top,wC⟩: ∃top,oj*4294967296+iA=top:=⟨_,rfl⟩
 rw [wC] at L1 qx⊢;refine cJ ?_;refine bP 33 (.int .i64 (s-1:Nat)) I (aR.of_eq (by congr 1;omega)) (bc ?_);refine bP 35 (.int .u32 (v1:Nat)) I (aR.of_eq (by rw [ee])) ?_;refine ao (hb (m:=v1) I I I eO J) ?_;refine ao (TM I I eO qx J) ?_;obtain ⟨gs,BR,uK,L3⟩: ∃gs:Nat,(if ((4294967295:Int)<((top/v1:Nat):Int)) then (4294967295:Int) else ((top/v1:Nat):Int))=(gs:Int)∧gs≤4294967295∧(gs=4294967295∨gs=top/v1)∧gs≤top/v1:=by
  generalize top/v1=z;by_cases bw:(4294967295:Int)<(z:Int)
  ·exact ⟨4294967295,by rw [aA bw];rfl,J,J,J⟩
  ·exact ⟨z,by rw [ax bw],J,J,J⟩
 obtain ⟨L3,aee⟩:=L3;have aeh:gs*v1≤top:=dN (er _ aee) (Nat.div_mul_le_self top v1);have nw:=KN (a:=gs) (b:=v1) (c:=0) J dk aT;refine ao (TJ I I) ?_;refine bP 38 (.int .u64 (gs:Nat)) I (aR.of_eq (by rw [←BR])) (cJ ?_);refine bP 43 (.int .i64 (s-1:Nat)) I (aR.of_eq (by congr 1;omega)) (bc ?_);refine bP 45 (.int .u32 (v1:Nat)) I (aR.of_eq (by rw [ee])) ?_;refine ao (hb (m:=v1) I I I eO J) ?_;refine ao (Dn I I eO nw.1) ?_;refine ao (Qs I I eO qx aeh) (bn ?_);refine cp (ι:=Nat×Nat) (fun p=>[(0,.aC 0 j (s+1)),(1,.ro (.ints .u32 V) 0 s),(5,.int .i64 (s:Nat)),(7,.int .u64 (p.1:Nat)),(8,.int .u64 (p.2:Nat))]) (fun _=>some ⟨218,.ints .u32 (A++(dE++C))⟩::qf)
  (fun p=>p.1≤4294967295∧p.2+p.1*v1=top∧ ∀mP,mP≤4294967295→mP*(v1*4294967296+v2)≤top*4294967296+u2→mP≤p.1) (fun p=>p.1) (gs,top-gs*v1) ⟨aE,rfl,uK,by simp only;omega,fun mP bS bY=> ?_⟩ ?_
 ·have:=acz J ew bY;rcases L3 with h|h
  ·show mP≤gs;omega
  ·show mP≤gs;rw [h];exact this
 rintro ⟨g,r⟩ ⟨i1,i2,i3⟩;simp only at*;have MC:=ank (B:=4294967296) (u2:=u2) (v2:=v2) i2 J dO;have adA:=KN (a:=g) (b:=v2) (c:=0) J dO aT;apply kQ (H:=some ⟨218,.ints .u32 (A++(dE++C))⟩::qf) [(0,.aC 0 j (s+1)),(1,.ro (.ints .u32 V) 0 s),(5,.int .i64 (s:Nat)),(7,.int .u64 (g:Nat)),(8,.int .u64 (r:Nat)),(70,.bool (decide (r<4294967296∧r*4294967296+u2<g*v2)))]
 ·intro fin;repeat (refine dh ?_)
  refine Ax af af I ?_;repeat (first|refine ao (bE rfl) ?_|refine ao (qU rfl rfl) ?_)
  refine gQ I I (fun eY=> ?_) (fun eY=> ?_)
  ·have Ng:r<4294967296:=J;refine fb ?_;refine bP 55 (.int .i64 (s-2:Nat)) I (aR.of_eq (by congr 1;omega)) (bc ?_);refine bP 57 (.int .u32 (v2:Nat)) I (aR.of_eq (by rw [fg])) ?_;refine ao (hb (m:=v2) I I I eO J) ?_;refine kR I I ?_;refine ao (Dn I I eO adA.1) (c4 ?_);refine ao (Gx (m:=r) (s:=32) I I aT eO (Dy Ng)) (fb ?_);refine bP 64 (.int .i64 (s-2:Nat)) I (aR.of_eq (by congr 1;omega)) ?_;refine fu ?_;refine bP 66 (.int .u32 (u2:Nat)) I (aR.of_eq (by rw [g2])) ?_;refine ao (hb (m:=u2) I I I eO J) ?_;refine kR I I ?_;refine ao (b1.res (GJ I I eO I (Dy Ng) J) (by rw [Qz ew])) ?_;refine hx ?_;refine fin _ ⟨I,I,I,I,I,?_,trivial⟩;show some (ak.bool (decide (((r*4294967296+u2:Nat):Int)<((g*v2:Nat):Int))))=_;congr 2;rw [te];constructor
   ·intro h;exact ⟨Ng,J⟩
   ·intro h;exact vS.2 h.2
  ·refine hx ?_;refine fin _ ⟨I,I,I,I,I,?_,trivial⟩;show some (ak.bool false)=_;rw [fT];intro h;exact eY J
 refine bm I (fun eY=> ?_) (fun eY=> ?_)
 ·have bS:=MC.1 eY;have Ez:0<g:=by
   rcases n2 g with z|z
   ·subst z;rw [sb] at bS;omega
   ·exact z
  obtain ⟨g,rfl⟩: ∃m,g=m+1:=⟨g-1,J⟩
  rw [dK,qi] at i2;refine bn ?_;refine ao (Qs (m:=g+1) (n:=1) I I eO J J) (cJ ?_);refine bP 74 (.int .i64 (s-1:Nat)) I (aR.of_eq (by congr 1;omega)) (bc ?_);refine bP 76 (.int .u32 (v1:Nat)) I (aR.of_eq (by rw [ee])) ?_;refine ao (hb (m:=v1) I I I eO J) ?_;refine ao (vx I I eO J) (bF ?_);refine b4 ⟨(g,r+v1),⟨by simp only;omega,by simp only;omega,fun mP ku z2=> ?_⟩,by simp only;omega,aE,I⟩;have z3:=i3 mP ku z2;show mP≤g;rcases gz g mP with z|z
  ·exfalso;have:mP=g+1:=J;subst this;omega
  ·exact z
 ·have bS:g*(v1*4294967296+v2)≤top*4294967296+u2:=by
   rcases gz (top*4294967296+u2) (g*(v1*4294967296+v2)) with z|z
   ·exact absurd (MC.2 z) eY
   ·exact z
  obtain ⟨aH,aJ⟩:=L1 g i1 bS i3;clear L1 MC i3 eY;have aqR:bx dE%bx V<B^(s+1):=q5 (Nat.mod_le _ _) (by have:=jH rb;rwa [au] at this);have adT:=fun (w b:Nat) (hw:w<B^(s+1))=>anc (u:=bx dE) (v:=bx V) (g:=g) (w:=w) (n:=s+1) (b:=b) hw (by have:=jH re;rw [Mw] at this;exact gL this (fF aT J)) (by have:=jH rb;rwa [au] at this);generalize bx dE/bx V=q at*;generalize BX:bx dE%bx V=m at*;refine bo ?_;have iL: ∀W:List Int,W.length=s+1→ ∀i,i<s+1→i+j<(A++(W++C)).length:=fun W iM i aa=>by simp [ae,iM];omega
  refine cp (ι:=Nat×List Int×Nat×Nat) (fun p=>[(0,.aC 0 j (s+1)),(1,.ro (.ints .u32 V) 0 s),(5,.int .i64 (s:Nat)),(7,.int .u64 (g:Nat)),(9,.int .u64 (p.2.2.1:Nat)),(10,.int .i64 (p.2.2.2:Nat)),(82,.int .i64 (s+1:Nat)),(83,.int .i64 (p.1:Nat))]) (fun p=>some ⟨218,.ints .u32 (A++(p.2.1++C))⟩::qf)
   (fun p=>p.1≤s+1∧p.2.1.length=s+1∧cS p.2.1∧(∀x,p.1≤x→p.2.1.getD x 0=dE.getD x 0)∧p.2.2.1<4294967296∧p.2.2.2≤1∧(p.1=s+1→p.2.2.1=0)∧bx (p.2.1.take p.1)+g*bx (V.take p.1)=bx (dE.take p.1)+B^p.1*(p.2.2.1+p.2.2.2)) (fun p=>s+1-p.1) (0,dE,0,0)
   ⟨aE,rfl,b7 _,au,rb,fun _ _=>rfl,Nat.zero_lt_succ _,b7 _,fun _=>rfl,by simp [bx]⟩ ?_
  rintro ⟨i,ml,dx,iK⟩ ⟨l9,qH,ys,Fi,Fj,IH,akV,NA⟩;simp only at*;refine bh ?_;refine bm I (fun akW=> ?_) (fun akW=> ?_)
  ·have L6:i<s+1:=J;obtain ⟨ui,EY,H2⟩:=rb.nat i;obtain ⟨iB,sz,H5⟩:=re.nat i;have Mi:=KN (a:=g) (b:=iB) (c:=dx) J H5 Fj;have j0:=iL ml qH i L6;have jf:=F2 (C:=C) ae (show i<ml.length by omega);rw [Fi i (bT _),EY] at jf;have xU:(dx+g*iB)%4294967296<4294967296:=lx _ aT;have tv:(dx+g*iB)/4294967296<4294967296:=J;obtain ⟨yv,b',gu,h7,Cs,II,IJ⟩:=aoj H2 xU IH;have z7:=ane (g:=g) (dx:=dx) (yv:=yv) (b':=b') (show i<ml.length by omega) NA EY sz gu;have xT:i+1=s+1→(dx+g*iB)/4294967296=0:=fun h=>by
    have:V.getD i 0=0:=by simp [List.getD,kG (show V.length≤i by omega)]
    have:iB=0:=J;subst this;rw [tc,e6];exact oJ Fj
   refine bh ?_;apply kQ (H:=some ⟨218,.ints .u32 (A++(ml++C))⟩::qf) [(0,.aC 0 j (s+1)),(1,.ro (.ints .u32 V) 0 s),(5,.int .i64 (s:Nat)),(7,.int .u64 (g:Nat)),(9,.int .u64 (dx+g*iB:Nat)),(10,.int .i64 (iK:Nat)),(11,.int .i64 (i:Nat)),(82,.int .i64 (s+1:Nat)),(83,.int .i64 (i:Nat))]
   ·intro fin;refine bm I (fun eY=> ?_) (fun eY=> ?_)
    ·refine bc ?_;refine bP 94 (.int .u32 (iB:Nat)) I (aR.of_eq (by rw [sz])) ?_;refine ao (hb (m:=iB) I I I eO J) ?_;refine ao (Dn I I eO Mi.1) ?_;refine ao (vx I I eO Mi.2) ?_;refine eD ?_;exact fin _ aE
    ·have mX:iB=0:=by
      have:V.getD i 0=0:=by simp [List.getD,kG (show V.length≤i by omega)]
      omega
     subst mX;refine eD ?_;exact fin _ aE
   refine cJ ?_;refine bP 101 (.int .u32 (ui:Nat)) I (aR.of_eq (by rw [jf])) ?_;refine ao (AH (m:=ui) I I I J) ?_;repeat (refine ao (bE rfl) ?_)
   refine ao (b1.res (aix (n:=4294967295) I I eO I Mi.2 aT) (by rw [ZQ])) ?_;obtain ⟨ji,xV⟩: ∃ji,(dx+g*iB)%4294967296=ji:=⟨_,rfl⟩
   rw [xV] at xU gu II IJ⊢;refine ao (AH (m:=ji) I I I J) (cJ ?_);refine ao (xf (s:=32) I I I) (bh ?_);apply kQ (H:=some ⟨218,.ints .u32 (A++(ml++C))⟩::qf) [(0,.aC 0 j (s+1)),(1,.ro (.ints .u32 V) 0 s),(5,.int .i64 (s:Nat)),(7,.int .u64 (g:Nat)),(9,.int .u64 ((dx+g*iB)/4294967296:Nat)),(10,.int .i64 (b':Nat)),(11,.int .i64 (i:Nat)),(12,.int .i64 (yv:Nat)),(82,.int .i64 (s+1:Nat)),(83,.int .i64 (i:Nat))]
   ·intro fin;refine bm I (fun eY=> ?_) (fun eY=> ?_)
    ·obtain ⟨ku,z2⟩:=II eY;subst ku;skip
     refine c5 I ?_;refine eD ?_;exact fin _ ⟨I,I,I,I,I,I,I,by rw [z2];rfl,I,I,trivial⟩
    ·obtain ⟨ku,z2⟩:=IJ eY;subst ku;refine eD ?_;exact fin _ ⟨I,I,I,I,I,I,I,by rw [z2];rfl,I,I,trivial⟩
   refine bF ?_;refine ao (hb (m:=yv) I I I lr Cs) ?_;have c9:=Ze (x:=(yv:Int)) (C:=C) ae (show i<ml.length by omega);refine cJ ?_;refine b4 ⟨(i+1,ml.set i (yv:Int),(dx+g*iB)/4294967296,b'),⟨by simp only;omega,by simp [qH],ys.set J,fun x ar=> ?_,tv,h7,xT,z7⟩,by simp only;omega,aE,?_⟩
   ·simp only at ar⊢;rw [Fu J];exact Fi x J
   ·show some (⟨_,.ints .u32 ((A++(ml++C)).set (j+i) (yv:Int))⟩:bl)::qf=_;rw [c9]
  ·have df:i=s+1:=J;subst df;have adL:=akV rfl;subst adL;rw [kI J,kI J,kI J,cT] at NA;have RS:=jH ys;rw [qH] at RS;obtain ⟨d0,d1⟩:=adT (bx ml) iK RS IH NA aH aJ mX;refine bo ?_;refine bm I (fun eY=> ?_) (fun eY=> ?_)
   ·obtain ⟨ku,z2⟩:=d0 J;subst ku;have kn:=Dh ys qH z2;refine bF ?_;refine ao (hb (m:=g) I I I lr J) (c4 ?_);refine aX aq I ⟨I,?_⟩;rw [kn]
   ·obtain ⟨ku,z2⟩:=d1 J;refine bq ?_;refine cp (ι:=Nat×List Int×Nat) (fun p=>[(0,.aC 0 j (s+1)),(1,.ro (.ints .u32 V) 0 s),(5,.int .i64 (s:Nat)),(7,.int .u64 (g:Nat)),(13,.int .u64 (p.2.2:Nat)),(126,.int .i64 (s+1:Nat)),(127,.int .i64 (p.1:Nat))]) (fun p=>some ⟨218,.ints .u32 (A++(p.2.1++C))⟩::qf)
     (fun p=>p.1≤s+1∧p.2.1.length=s+1∧cS p.2.1∧(∀x,p.1≤x→p.2.1.getD x 0=ml.getD x 0)∧p.2.2<4294967296∧bx (p.2.1.take p.1)+B^p.1*p.2.2=bx (ml.take p.1)+bx (V.take p.1)) (fun p=>s+1-p.1) (0,ml,0)
     ⟨aE,rfl,b7 _,qH,ys,fun _ _=>rfl,Nat.zero_lt_succ _,by simp [bx]⟩ ?_
    rintro ⟨i,xr,sm⟩ ⟨hE,iQ,nF,ru,yt,Ap⟩;simp only at*;refine bh ?_;refine bm I (fun ald=> ?_) (fun ald=> ?_)
    ·have L6:i<s+1:=J;obtain ⟨ui,EY,H2⟩:=ys.nat i;obtain ⟨iB,sz,H5⟩:=re.nat i;have jf:=F2 (C:=C) ae (show i<xr.length by omega);rw [ru i (bT _),EY] at jf;have j0:=iL xr iQ i L6;have z7:=aoc (sm:=sm) (show i<xr.length by omega) Ap EY sz;refine cJ ?_;refine bP 134 (.int .u32 (ui:Nat)) I (aR.of_eq (by rw [jf])) ?_;refine ao (hb (m:=ui) I I I eO J) ?_;refine ao (vx I I eO J) (bh ?_);apply kQ (H:=some ⟨218,.ints .u32 (A++(xr++C))⟩::qf) [(0,.aC 0 j (s+1)),(1,.ro (.ints .u32 V) 0 s),(5,.int .i64 (s:Nat)),(7,.int .u64 (g:Nat)),(13,.int .u64 (sm+ui+iB:Nat)),(14,.int .i64 (i:Nat)),(126,.int .i64 (s+1:Nat)),(127,.int .i64 (i:Nat))]
     ·intro fin;refine bm I (fun bS=> ?_) (fun bS=> ?_)
      ·refine bc ?_;refine bP 144 (.int .u32 (iB:Nat)) I (aR.of_eq (by rw [sz])) ?_;refine ao (hb (m:=iB) I I I eO J) ?_;refine ao (vx I I eO J) ?_;refine eD ?_;exact fin _ aE
      ·have mX:iB=0:=by
        have:V.getD i 0=0:=by simp [List.getD,kG (show V.length≤i by omega)]
        omega
       subst mX;refine eD ?_;exact fin _ aE
     refine bF ?_;refine ao (xe I I I lr) ?_;have c9:=Ze (x:=(((sm+ui+iB)%4294967296:Nat):Int)) (C:=C) ae (show i<xr.length by omega);refine cJ ?_;refine ao (xf (s:=32) I I I) (bo ?_);refine b4 ⟨(i+1,xr.set i (((sm+ui+iB)%4294967296:Nat):Int),(sm+ui+iB)/4294967296),⟨by simp only;omega,by simp [iQ],nF.set (vo _),fun x ar=> ?_,by simp only;omega,z7⟩,by simp only;omega,aE,?_⟩
     ·simp only at ar⊢;rw [Fu J];exact ru x J
     ·show some (⟨_,.ints .u32 ((A++(xr++C)).set (j+i) (((sm+ui+iB)%4294967296:Nat):Int))⟩:bl)::qf=_;rw [c9]
    ·have df:i=s+1:=J;subst df;rw [kI J,kI J,kI J,z2] at Ap;have adi:=jH nF;rw [iQ] at adi;have ai:bx xr=m:=by
      rcases DV sm 1 with z|z|z
      ·have:sm=0:=J;subst this;omega
      ·subst z;omega
      ·have:B^(s+1)*2≤B^(s+1)*sm:=hz _ z;omega
     have kn:=Dh nF iQ ai;refine bo ?_;refine ao (Qs (m:=g) (n:=1) I I eO J J) ?_;refine ao (hb (m:=g-1) I I I lr J) (bF ?_);refine aX aq I ⟨?_,?_⟩
     ·rw [show g-1=q by omega];rfl
     ·rw [kn]
theorem aaF (n:Nat)(h:(a6 n).length≤1000000):bs Tryz.prog 221 [bB n] (bB n):=by
 unfold bB;generalize a6 n=l at*;refine ch.value (K:=fun r H=>r= .aC 0 0 l.length∧H=[some ⟨218,.ints .u32 l⟩]) (gl (P:=Tryz.prog) (fn:=Tryz.f221) I I af I (fun c aq bI=> ?_)) (fix:=fun _=>False) (fun _ h=>h) I ?_
 ·refine bF ?_;refine O9 I I I (fun b al=> ?_);refine bF ?_;refine tV I (fun h=> ?_) (fun h=> ?_)
  ·have:=al h;have aI:l=[]:=uu.mp this;subst aI;refine cJ ?_;refine jF 2 ⟨218,.ints .u32 []⟩ I I (c4 ?_);exact aX aq I ⟨I,I⟩
  ·refine bn ?_;refine u9 I I I I I I I I I I ?_;refine fj [some ⟨218,.ints .u32 []⟩] (aM.eqv ⟨I,I,fun i j aa=>absurd aa (gg _)⟩ aM.nil) ?_;repeat (refine ao (bE rfl) ?_)
   refine dy I I I I I I I I I I I I (by show 0+l.length≤l.length;omega) I (by show (0+l.length)*4≤_∧_;omega) (fun i j _ _=>rfl) c3 (bF ?_);refine aX aq I ⟨?_,?_⟩
   ·show ak.aC 0 0 (0+l.length)=_;rw [cT]
   ·show ([some ⟨218,.ints .u32 ([]++List.take l.length (List.drop 0 l))⟩]:aZ)=_;simp
 ·rintro r H ⟨rfl,rfl⟩;exact ⟨rfl,fun o ah=>by simp at ah;subst ah;exact Nat.le_of_eq (by simp [Cells.len]),p8 ma⟩
theorem abm (n m:Nat)(h:n<m)(aI:(a6 n).length≤1000000)(hm:(a6 m).length≤1000000):bs Tryz.prog 194 [bB n,bB m] (.cn [.nil,bB n]):=by have aw:=KK n m J J;rw [Gh (vS.2 h)] at aw;have hn:=aaF n aI;refine cf Tryz.f194 fun c aq bI=> ?_;refine bF ?_;refine aO I I I aw (bo ?_);refine aO I I I hn (c4 ?_);exact aX aq I I
theorem YE {n m:Nat}(h:m≤n): ¬kc n m<0:=by
 rcases gz m n with q|q
 ·rw [Gg (vS.2 q)];decide
 ·rw [YC J];decide
theorem div_one (n m:Nat)(h:m≤n)(aI:(a6 n).length≤1000000)(hm:(a6 m).length=1):bs Tryz.prog 194 [bB n,bB m] (.cn [bB (n/m),bB (n%m)]):=by
 have aw:=KK n m J J;have uI:=YE h;obtain ⟨t,low,bu,qx,wC,ai,HO⟩:=FT (bT 1) hm;have HQ:m=t:=by simp at ai HO;subst HO;rw [ai];simp
 subst HQ;have xN:=U3 (a6 n) m (iS n) J ⟨wC,qx⟩;rw [hG] at xN;have ad:n%m<4294967296:=Nat.lt_trans (lx _ wC) qx;have kN:=FQ (n%m) J;refine cf Tryz.f194 fun c aq bI=> ?_;refine bF ?_;refine aO I I I aw (bh ?_);refine bm I (fun q=>absurd q uI) (fun q=> ?_);unfold bB;refine bh ?_;rw [hm];refine bc ?_;refine bP 31 (.int .u32 (m:Nat)) I (aR.of_eq (by congr 1)) ?_;refine aO I I I xN (c4 ?_);refine ao (hb (m:=n%m) I I I eO J) ?_;refine aO I I I kN (c4 ?_);exact aX aq I I
theorem abn (n m:Nat)(h:m≤n)(aI:(a6 n).length≤1000000)(zS:2≤(a6 m).length):bs Tryz.prog 194 [bB n,bB m] (.cn [bB (n/m),bB (n%m)]):=by
 have xU:(a6 m).length≤(a6 n).length:=oo (by have:=jH (iS n);rw [hG] at this;omega);have aw:=KK n m J J;have uI:=YE h;have tx:0<m:=by
  rcases n2 m with q|q
  ·subst q;rw [rA] at zS;simp at zS
  ·exact q
 have Sx:n<B^(a6 n).length:=by have:=jH (iS n);rwa [hG] at this
 obtain ⟨s,av⟩: ∃s,(a6 m).length=s:=⟨_,rfl⟩
 obtain ⟨h3,HN⟩: ∃h3,(a6 n).length=h3:=⟨_,rfl⟩
 rw [av] at zS xU;rw [HN] at aI Sx xU;obtain ⟨t,low,bu,qx,wC,ai,HO⟩:=FT (show 1≤s by omega) av;refine cf Tryz.f194 fun c aq bI=> ?_;refine bF ?_;refine aO I I I aw (bh ?_);refine bm I (fun q=>absurd q uI) (fun q=> ?_);have tp:bB n= .ro (.ints .u32 (a6 n)) 0 h3:=by unfold bB;rw [HN]
 have em:bB m= .ro (.ints .u32 (a6 m)) 0 s:=by unfold bB;rw [av]
 rw [tp,em];refine bh ?_;refine bm I (fun q=>absurd q J) (fun q=> ?_);refine bn ?_;refine cp (ι:=Nat) (fun k=>[(0,.ro (.ints .u32 (a6 n)) 0 h3),(1,.ro (.ints .u32 (a6 m)) 0 s),(8,ag k)]) (fun _=>[]) (fun k=>k≤31∧t*2^k<4294967296) (fun k=>32-k) 0 ⟨aE,I,J,by rw [zj,q6];exact qx⟩ ?_;rintro k ⟨pK,l0⟩;refine cJ ?_;refine bP 42 (ag (s-1)) I (aR.of_eq (by congr 1;omega)) (bc ?_);refine bP 44 (.int .u32 (t:Nat)) I (aR.of_eq (by rw [bu])) ?_;skip
 refine ao (Gx (m:=t) (s:=k) I I (by show k≤32;omega) lr l0) ?_;refine ao (xf (s:=31) I I I) (bh ?_);refine bm I (fun bS=> ?_) (fun bS=> ?_)
 ·have Sw:=agn wC l0 pK J;refine bo ?_;exact b4 ⟨k+1,⟨Sw.2,Sw.1⟩,J,aE,I⟩
 have afv:=ago (t:=t) (k:=k) J;obtain ⟨jZ,SA⟩:=ahp (show 1≤s by omega) av bu afv l0 pK;have mW:=Ye (a6 n) k (iS n) J J;have kN:=Ye (a6 m) k (iS m) J J;rw [hG,HN] at mW;rw [hG,av] at kN;have H4:m*2^k<B^s:=by have:=jH (iS (m*2^k));rwa [hG,jZ] at this
 have SV:m*2^k<B^(s+1):=gL H4 (fF aT J);have B0:=vp (fZ (s+1) (m*2^k)) (C2 _ _) (by rw [qN];omega);rw [J1 _ _ SV] at B0;have My:=apg Sx pK (show 1≤s by omega) xU (akz (show 1≤s by omega) jZ SA);have mX:0<m*2^k:=zn tx (lW aT);have bG:bB (m*2^k)= .ro (.ints .u32 (a6 (m*2^k))) 0 s:=by unfold bB;rw [jZ]
 have LX:=fun (A dE C:List Int) (j:Nat) (qf:aZ) (ae:A.length=j) (au:dE.length=s+1) (rb:cS dE)=>abl A dE C (a6 (m*2^k)) j s qf ae zS au jZ rb (iS _) SA;rw [hG] at LX;have xO:=fun Q W=>aiC (n:=n) (m:=m) (k:=k) (W:=W) (Q:=Q) tx;obtain ⟨v,afJ⟩: ∃v,m*2^k=v:=⟨_,rfl⟩
 rw [afJ] at kN H4 SV B0 My mX bG LX xO jZ;refine bo ?_;have dk:[ak.ro (.ints .u32 (a6 n)) 0 h3,ag k]++[]=[nh (a6 n),ag k]:=by unfold nh;rw [HN];rfl
 have dO:[ak.ro (.ints .u32 (a6 m)) 0 s,ag k]++[]=[nh (a6 m),ag k]:=by unfold nh;rw [av];rfl
 refine me I I dk mW ?_;repeat (refine ao (bE rfl) ?_)
 refine me I I dO kN ?_;refine sM 1 56 (s+1) [(0,.ro (.ints .u32 (a6 n)) 0 h3),(8,ag k),(53,.aC 0 0 (h3+1))] I ma I (by show _≤(fZ _ _).length;rw [qN];omega) aE ?_;refine aO I I (yF (qN _ _)) B0 ?_;rw [bG];refine cJ ?_;refine mf I I I I I I I I (by show (0:Int)≤_∧_≤_∧(4:Int)*_≤_∧_;omega) ?_;obtain ⟨pt,aqd⟩: ∃pt,pt+s=h3+1:=⟨h3+1-s,J⟩
 rw [show (((h3+1:Nat):Int)-(s:Nat)).toNat=pt by omega];rw [show h3+1-s=pt by omega] at My;refine cJ ?_;refine cp (ι:=Nat×Nat×List Int) (fun p=>[(8,ag k),(9,.aC 0 0 (h3+1)),(10,.ro (.ints .u32 (a6 v)) 0 s),(11,ag s),(12,.aC 2 0 pt),(13,.int .i64 ((p.1:Int)-1))]) (fun p=>[some ⟨218,.ints .u32 (fZ (h3+1) p.2.1)⟩,none,some ⟨218,.ints .u32 p.2.2⟩])
  (fun p=>p.1≤pt∧p.2.1<v*B^p.1∧p.2.2.length=pt∧cS p.2.2∧(∀x,x<p.1→p.2.2.getD x 0=0)∧bx p.2.2*v+p.2.1=n*2^k) (fun p=>p.1) (pt,n*2^k,List.replicate pt 0)
  ⟨⟨rfl,rfl,rfl,rfl,rfl,?_,trivial⟩,rfl,bT _,My,bX,cS.KT _,fun x _=>XO _ _,by simp [Ou]⟩ ?_
 ·show some (ak.int .i64 _)=_;congr 2;omega
 rintro ⟨oW,W,Q⟩ ⟨l9,qH,ys,Fi,Fj,IH⟩;simp only at*;refine cJ ?_;refine bm I (fun bY=> ?_) (fun bY=> ?_)
 ·obtain ⟨j,rfl⟩: ∃j,oW=j+1:=⟨oW-1,J⟩
  obtain ⟨c6,fs,lh,W',lH,Fc,ahE⟩:=aiD (N:=h3+1) mX H4 qH (show j+(s+1)≤h3+1 by omega);have hd:=LX (fZ j W) (fZ (s+1) (W/B^j)) (fZ (h3+1-(j+(s+1))) (W/B^j/B^(s+1))) j [none,some ⟨218,.ints .u32 Q⟩] (qN _ _) (qN _ _) (C2 _ _) (by rw [fs];exact lh) (by rw [←c6,qN];omega);rw [fs,lH,←c6] at hd;have aB:W/B^j/v<4294967296:=xz (by rw [hj];exact lh);obtain ⟨dg,adR⟩: ∃dg,W/B^j/v=dg:=⟨_,rfl⟩
  rw [adR] at hd aB ahE;refine Nj ?_;refine bP 82 (.aC 0 j (s+1)) I (aR.of_eq (by congr 1<;>omega)) ?_;skip
  have eG:[ak.aC 0 j (s+1),.ro (.ints .u32 (a6 v)) 0 s]++[]=[.aC 0 j (s+1),nh (a6 v)]:=by unfold nh;rw [jZ];rfl
  refine rC I I eG hd (fun h aV=>aV) (fun h aV=>aV) ?_;rintro r H ⟨rfl,rfl⟩;refine bP 75 (ag j) I (aR.of_eq (by congr 1;omega)) (cJ ?_);have bw:=Fj j J;have c9:=PV (x:=(dg:Int)) (show j<Q.length by omega);rw [bw,cg] at c9;have z0:(0:Int).toNat=0:=rfl;rw [z0,tc,e6] at c9;refine b4 ⟨(j,W',Q.set j (dg:Int)),⟨by simp only;omega,Fc,by simp [ys],Fi.set J,fun x ar=> ?_,?_⟩,by simp only;omega,⟨I,I,I,I,I,?_,trivial⟩,I⟩
  ·simp only at ar⊢;rw [Fu J];exact Fj x J
  ·simp only;rw [c9,dK,kH,hj dg v];omega
  ·show some (ak.int .i64 _)=_;congr 2;omega
 ·have EC:oW=0:=J;subst EC;rw [zj,q6] at qH;have he:=xO (bx Q) W;obtain ⟨aB,iM⟩:=he IH qH;clear he xO;have RV:W<B^s:=Nat.lt_trans qH H4;have jC:(fZ (h3+1) W).take s=fZ s W:=by rw [show h3+1=s+pt by omega,C1,List.take_left' (qN _ _)]
  have BY:=vp (fZ s W) (C2 _ _) (by rw [qN];omega);rw [J1 _ _ RV] at BY;refine bo ?_;refine ao (Cw I I I I I I I I ⟨I,J,J⟩) ?_;refine bP 88 (.aC 0 0 s) I (aR.of_eq (by rw [cg])) ?_;refine sM 0 88 s [(8,ag k),(12,.aC 2 0 pt)] I ma I (by show _≤(fZ _ _).length;rw [qN];omega) aE ?_;refine bP 88 (.ro (.ints .u32 (fZ s W)) 0 s) I (aR.trans aR.take (aR.of_eq (by rw [jC]))) ?_;refine aO I I (yF (qN _ _)) BY ?_;have HL:=iS W;have RX:=hG W;have aeF:(a6 W).length≤s:=oo RV;unfold bB;obtain ⟨r,ad⟩: ∃r,a6 W=r:=⟨_,rfl⟩
  rw [ad] at HL RX aeF⊢;refine bq ?_;refine mf I I I I I I I I (by show (0:Int)≤_∧_≤_∧(4:Int)*_≤_∧_;omega) (bq ?_);have wg: ∃d0:Nat,r.getD 0 0=(d0:Int)∧d0<4294967296:=HL.nat 0;obtain ⟨d0,wg,aqz⟩:=wg;refine cp (ι:=Nat×List Int) (fun p=>[(8,ag k),(12,.aC 2 0 pt),(14,.ro (.ints .u32 r) 0 r.length),(15,.aC 3 0 r.length),(93,.ro (.ints .u32 r) 0 r.length),(94,ag r.length),(95,ag p.1)]) (fun p=>[none,none,some ⟨218,.ints .u32 Q⟩,some ⟨218,.ints .u32 p.2⟩])
   (fun p=>p.1≤r.length∧p.2.length=r.length∧cS p.2∧bx (p.2.take p.1)*2^k+d0%2^k=bx (r.take p.1)+(r.getD p.1 0).toNat%2^k*B^p.1) (fun p=>r.length-p.1) (0,List.replicate r.length 0)
   ⟨aE,rfl,b7 _,bX,cS.KT _,by simp [bx];rw [show r[0]?.getD 0=(d0:Int) from wg];simp⟩ ?_
  rintro ⟨i,O⟩ ⟨hE,iQ,nF,ru⟩;simp only at*;refine bh ?_;refine bm I (fun yt=> ?_) (fun yt=> ?_)
  ·have mT:i<r.length:=J;obtain ⟨d,hd,tv⟩:=HL.nat i;obtain ⟨e,he,aqA⟩:=HL.nat (i+1);have zH:=aob (e:=e) tv pK;have sr:=Z4 (e:=e) tv pK;have HA:d/2^k<4294967296:=q5 (vO _ _) tv;rw [hd,cg] at ru;have z7:=Z6 (e:=e) (out:=O.take i) (i:=i) pK (by simp;omega) hd ru;refine bc ?_;refine bP 102 (.int .u32 (d:Nat)) I (aR.of_eq (by rw [hd])) ?_;skip
   refine ao (xf (m:=d) (s:=k) I I (by rw [Nat.ble_eq];show k≤32;omega)) (cJ ?_);apply kQ (H:=[none,none,some ⟨218,.ints .u32 Q⟩,some ⟨218,.ints .u32 (O.set i ((d/2^k+e%2^k*2^(32-k):Nat):Int))⟩]) [(8,ag k),(12,.aC 2 0 pt),(14,.ro (.ints .u32 r) 0 r.length),(15,.aC 3 0 r.length),(93,.ro (.ints .u32 r) 0 r.length),(94,ag r.length),(95,ag i)]
   ·intro fin;have Tp:(i+1=r.length∨k=0)→e%2^k*2^(32-k)=0:=by
     rintro (h|h)
     ·have:r.getD (i+1) 0=0:=by simp [List.getD,kG (show r.length≤i+1 by omega)]
      have:e=0:=J;subst this;simp
     ·subst h;rw [zj,Nat.mod_one];try simp
    refine gQ I I (fun gu=> ?_) (fun gu=> ?_)
    ·refine bc ?_;refine bm I (fun h7=> ?_) (fun h7=> ?_)
     ·skip
      refine eg af ?_;refine bH 0 I af af af I (bE I) I ?_;refine bH 1 I af af af I (bE I) I ?_;refine bH 2 I af af af I (gd I I I I I (by first|(simp only [cT,cg,fE];exact I)|exact I) J) I ?_;refine bH 4 I af af af I (bE I) I ?_;refine bH 5 I af af af I (bE I) I ?_;refine bH 6 I af af af I (hK I I J) I ?_;refine bH 7 I af af af I (h8 I I I I (by first|(simp only [cT,cg,fE];exact I)|exact I) J) I ?_;refine bH 9 I af af af I (bE I) I ?_;refine bH 10 I af af af I (pc I I J) I ?_;apply tN [(8,ag k),(12,.aC 2 0 pt),(14,.ro (.ints .u32 r) 0 r.length),(15,.aC 3 0 r.length),(93,.ro (.ints .u32 r) 0 r.length),(94,ag r.length),(95,ag i),(118,.int .u32 (d/2^k:Nat)),(126,.int .u32 (e*2^(32-k)%4294967296:Nat)),(115,.aC 3 0 r.length),(116,ag i)]
      ·intro hA;have j0:(O.set i ((d/2^k:Nat):Int)).getD i 0=((d/2^k:Nat):Int):=by simp [List.getD,show i<O.length by omega]
       have aeo:i<(O.set i ((d/2^k:Nat):Int)).length:=by simp;omega
       refine dQ 3 8 ?_ ?_
       ·refine cJ ?_;refine br 8 ?_;refine bc ?_;refine tM 123 (.int .u32 (e:Nat)) I (aR.of_eq (by rw [show ((i:Int)+1).toNat=i+1 by omega,he])) ?_;refine tM 125 (ag (32-k)) I (aR.of_eq (by congr 1;omega)) ?_;refine bH 11 I af af af I (Y4 (m:=e) (s:=32-k) I I (by show 32-k≤32;omega) lr) I ?_;refine hA _ ⟨I,I,I,I,I,I,I,?_,I,I,I,trivial⟩;show some (ak.int .u32 ((O.set i ((d/2^k:Nat):Int)).getD i 0))=_;rw [j0]
       ·refine bc ?_;refine tM 123 (.int .u32 (e:Nat)) I (aR.of_eq (by rw [show ((i:Int)+1).toNat=i+1 by omega,he])) ?_;refine tM 125 (ag (32-k)) I (aR.of_eq (by congr 1;omega)) ?_;refine bH 11 I af af af I (Y4 (m:=e) (s:=32-k) I I (by show 32-k≤32;omega) lr) I ?_;refine br 3 ?_;refine cJ ?_;refine hA _ ⟨I,I,I,I,I,I,I,?_,I,I,I,trivial⟩;show some (ak.int .u32 ((O.set i ((d/2^k:Nat):Int)).getD i 0))=_;rw [j0]
      refine bH 12 I af af af I (b1.res (GJ I I lr I HA (lx _ aT)) (by rw [zH])) I ?_;have aeo:i<(O.set i ((d/2^k:Nat):Int)).length:=by simp;omega
      refine bH 13 I af af af I (gd I I I I I (by first|(simp only [cT,cg,fE];exact I)|exact I) J) I ?_;refine br 14 ?_;refine cJ ?_;refine dX af ?_;refine eD ?_;refine jk _ (by show [none,none,_,some (⟨_,.ints .u32 ((O.set i _).set i _)⟩:bl)]=_;rw [xA]) ?_;exact fin _ aE
     ·have bw:=Tp (.inr J);rw [bw,e6] at fin;refine eD ?_;exact fin _ aE
    ·have bw:=Tp (.inl J);rw [bw,e6] at fin;refine eD ?_;exact fin _ aE
   refine bq ?_;refine b4 ⟨(i+1,O.set i ((d/2^k+e%2^k*2^(32-k):Nat):Int)),⟨by simp only;omega,by simp [iQ],nF.set J,?_⟩,by simp only;omega,aE,I⟩;simp only;rw [NO J,he,cg];exact z7
  ·have df:i=r.length:=J;subst df;have bw:r.getD r.length 0=0:=by simp [List.getD]
   have z0:(0:Int).toNat=0:=rfl;rw [bw,z0,Nat.zero_mod,sb,e6,kI J,e7,RX,iM] at ru;have ES:0<2^k:=lW aT;have acW:bx O=n%m:=by
    have U:d0%2^k<2^k:=lx _ ES;have ab:(bx O*2^k+d0%2^k)/2^k=bx O:=by rw [oO,Nat.add_mul_div_right _ _ ES,oJ U,cT]
    rw [ru,Nat.mul_div_cancel _ ES] at ab;exact ab.symm
   have Tq:=vp Q Fi J;have no:=vp O nF J;rw [aB] at Tq;rw [acW] at no;refine bo ?_;refine sM 2 130 pt [(15,.aC 3 0 r.length)] I ma I (by show _≤Q.length;omega) ⟨I,trivial⟩ ?_;refine aO I I (yF ys) Tq ?_;repeat (refine ao (bE rfl) ?_)
   refine sM 3 132 r.length [(131,bB (n/m))] I ma I (by show _≤O.length;omega) ⟨I,trivial⟩ ?_;refine aO I I (yF iQ) no (bF ?_);exact aX aq I I
theorem Du (n m:Nat)(hm:0<m)(aI:(a6 n).length≤1000000)(fL:(a6 m).length≤1000000):bs Tryz.prog 194 [bB n,bB m] (.cn [bB (n/m),bB (n%m)]):=by
 rcases gz n m with h|h
 ·rw [oJ h,np h];exact bs.res (abm n m h aI fL) (aR.akG aR.M7)
 ·have U:(a6 m).length≠0:=by have:=As.2 (show m≠0 by omega);omega
  rcases gz (a6 m).length 2 with q|q
  ·exact div_one n m h aI J
  ·exact abn n m h aI q
theorem Qy (n m:Nat)(aI:(a6 n).length≤1000000)(hm:(a6 m).length≤1000000):bs Tryz.prog 158 [bB n,bB m] (bB (Nat.gcd n m)):=by
 refine cf Tryz.f158 fun c aq bI=> ?_;refine bn ?_;refine cp (ι:=Nat×Nat) (fun p=>[(0,bB p.1),(1,bB p.2)]) (fun _=>[]) (fun p=>(a6 p.1).length≤1000000∧(a6 p.2).length≤1000000∧Nat.gcd p.1 p.2=Nat.gcd n m) (fun p=>p.2) (n,m) ⟨aE,I,aI,hm,I⟩ ?_;rintro ⟨a,b⟩ ⟨U,ab,ay⟩;simp only at*;have hd:=fun h=>Du a b h U ab;have e1:0<(a6 b).length↔b≠0:=As;have tp:bB b= .ro (.ints .u32 (a6 b)) 0 (a6 b).length:=rfl;rw [tp] at hd⊢;refine bc ?_;refine bm I (fun bf=> ?_) (fun bf=> ?_)
 ·have al:b≠0:=e1.1 J;refine bn ?_;refine aO I I I (hd J) (bo ?_);refine b4 ⟨(b,a%b),⟨ab,NM (lx a J) ab,?_⟩,lx a J,aE,I⟩;show Nat.gcd b (a%b)=Nat.gcd n m;rw [←ay,Nat.gcd_comm a b,Nat.gcd_rec b a,Nat.gcd_comm]
 ·have al:b=0:=by
   rcases n2 b with q|q
   ·exact q
   ·have:=e1.2 J;omega
  rw [al,Nat.gcd_zero_right] at ay;refine bo ?_;refine aX aq I ?_;rw [←ay];rfl
theorem Tz (n:Nat):bs Tryz.prog 159 [bB n] (.bool (decide (n=1))):=by
 refine cf Tryz.f159 fun c aq bI=> ?_;have U:n=1↔(a6 n).length=1∧(a6 n).getD 0 0=1:=aoY;unfold bB;refine bh ?_;refine gQ I I (fun ab=> ?_) (fun ab=> ?_)
 ·refine bc ?_;refine aX aq I ?_;show ak.bool (decide ((a6 n).getD _ 0=1))=_;congr 1;rw [te,U];exact ⟨fun h=>⟨J,h⟩,fun h=>h.2⟩
 ·refine bc ?_;refine aX aq I ?_;show ak.bool false=_;rw [fT];intro h;exact ab (by have:=(U.1 h).1;omega)
theorem anB (l:List (List UInt8))(au:l.length≤1000000000):
 ch Tryz.prog 241 [.aC 0 0 l.length] [some ⟨9,.strs l⟩] (fun h=>h<1) (fun _ H=>H=[some ⟨9,.strs l.reverse⟩]):=by
 refine gl (P:=Tryz.prog) (fn:=Tryz.f241) I I af I (fun c aq bI=> ?_);refine cJ ?_;refine cp (ι:=Nat) (fun k=>[(0,.aC 0 0 l.length),(2,ag k),(3,.int .i64 ((l.length:Int)-1-k))]) (fun k=>[some ⟨9,.strs (nP l k)⟩]) (fun k=>2*k≤l.length+1) (fun k=>l.length+1-k) 0 ⟨⟨I,I,?_,trivial⟩,by rw [apl],J⟩ ?_
 ·show some (ak.int .i64 _)=_;congr 2;omega
 rintro k an;have fa:=w5 l k;refine bh ?_;refine bm I (fun U=> ?_) (fun U=> ?_)
 ·have l0:k+1+k<l.length:=J;have aH:((l.length:Int)-1-(k:Nat)).toNat=l.length-1-k:=J;refine bn ?_;refine eg af ?_;refine bH 0 I af af af I (bE I) I ?_;refine bH 1 I af af af I (bE I) I ?_;refine bH 2 I af af af I (bE I) I ?_;refine bH 3 I af af af I (bE I) I ?_;refine bH 4 I af af af I (bE I) I ?_;refine bH 5 I af af af I (bE I) I ?_;refine bH 6 I af af af I (gd I I I I I (by first|(simp only [cT,cg,fE];exact I)|exact I) J) I ?_;refine bH 8 I af af af I (bE I) I ?_;refine bH 9 I af af af I (bE I) I ?_;refine bH 10 I af af af I (gd I I I I I (by first|(simp only [cT,cg,fE];exact I)|exact I) J) I ?_;refine tM 20 (.ptr 0 (l.length-1-k) 0) I (aR.of_eq (by rw [aH])) ?_;have ei:l.length-1-k<(nP l k).length:=J;have ew:k<(nP l k).length:=J;apply tN [(0,.aC 0 0 l.length),(2,ag k),(3,.int .i64 ((l.length:Int)-1-k)),(14,.aC 0 0 l.length),(15,ag k),(16,.aC 0 0 l.length),(17,.int .i64 ((l.length:Int)-1-k)),(21,.str ((nP l k).getD (l.length-1-k) [])),(25,.str ((nP l k).getD k []))]
  ·intro fin;refine dQ 7 11 ?_ ?_
   ·refine fu ?_;refine br 11 ?_;refine fu ?_;exact fin _ aE
   ·refine fu ?_;refine br 7 ?_;refine fu ?_;exact fin _ aE
  refine bH 12 I af af af I (gd I I I I I (by first|(simp only [cT,cg,fE];exact I)|exact I) J) I ?_;refine br 13 ?_;refine cJ ?_;refine bH 14 I af af af I (gd I I I I I (by first|(simp only [cT,cg,fE];exact I)|exact I) J) I ?_;refine tM 27 (.ptr 0 (l.length-1-k) 0) I (aR.of_eq (by rw [aH])) ?_;have nt:l.length-1-k<((nP l k).set k ((nP l k).getD (l.length-1-k) [])).length:=by simp;omega
  refine br 15 ?_;refine cJ ?_;refine dX af (cJ ?_);refine b4 ⟨k+1,J,J,⟨I,I,?_,trivial⟩,?_⟩
  ·show some (ak.int .i64 _)=_;congr 2;omega
  ·show ([some ⟨_,.strs (((nP l k).set k _).set (l.length-1-k) _)⟩]:aZ)=_;rw [apk l l0]
 ·refine bo ?_;refine QW aq I ?_;rw [apj l J]
end Go.Proofs.YtmpnheilfejcpaaGreatDoor
namespace Go.Proofs
open Go.Shelf
def Tryz.Tg:Go.Shelf.Ren:=⟨fun|156=>242|165=>263|166=>264|169=>266|240=>275|241=>276|276=>283|277=>284|n=>n,fun|31=>302|9=>9|3=>3|4=>4|0=>0|20=>20|72=>321|76=>323|70=>319|37=>310|75=>268|127=>332|164=>346|5=>5|80=>252|n=>n,fun|n=>n⟩
theorem Tryz.Tf:Go.Proofs.Lays.n156 Tryz.prog Tryz.Tg:={
 mixed:=af
 f156:=Tryz.func242.trans (congrArg some af)
 f165:=Tryz.func263.trans (congrArg some af)
 f166:=Tryz.func264.trans (congrArg some af)
 f169:=Tryz.func266.trans (congrArg some af)
 f240:=Tryz.func275.trans (congrArg some af)
 f241:=Tryz.func276.trans (congrArg some af)
 f276:=Tryz.func283.trans (congrArg some af)
 f277:=Tryz.func284.trans (congrArg some af)
 t0:=Tryz.underlying0
 a0:=Tryz.isAgg0
 z0:=Tryz.sizeOf0
 v0:=Tryz.zeroValue0
 t3:=Tryz.underlying3
 a3:=Tryz.isAgg3
 z3:=Tryz.sizeOf3
 v3:=Tryz.zeroValue3
 t4:=Tryz.underlying4
 a4:=Tryz.isAgg4
 z4:=Tryz.sizeOf4
 v4:=Tryz.zeroValue4
 t9:=Tryz.underlying9
 a9:=Tryz.isAgg9
 z9:=Tryz.sizeOf9
 v9:=Tryz.zeroValue9
 t20:=Tryz.underlying20
 a20:=Tryz.isAgg20
 z20:=Tryz.sizeOf20
 v20:=Tryz.zeroValue20
 t31:=Tryz.underlying302
 a31:=Tryz.isAgg302
 z31:=Tryz.sizeOf302
 v31:=Tryz.zeroValue302
 t37:=Tryz.underlying310
 a37:=Tryz.isAgg310
 z37:=Tryz.sizeOf310
 v37:=Tryz.zeroValue310
 t70:=Tryz.underlying319
 a70:=Tryz.isAgg319
 z70:=Tryz.sizeOf319
 v70:=Tryz.zeroValue319
 t72:=Tryz.underlying321
 a72:=Tryz.isAgg321
 z72:=Tryz.sizeOf321
 v72:=Tryz.zeroValue321
 t75:=Tryz.underlying268
 a75:=Tryz.isAgg268
 z75:=Tryz.sizeOf268
 v75:=Tryz.zeroValue268
 t76:=Tryz.underlying323
 a76:=Tryz.isAgg323
 z76:=Tryz.sizeOf323
 v76:=Tryz.zeroValue323
 t127:=Tryz.underlying332
 a127:=Tryz.isAgg332
 z127:=Tryz.sizeOf332
 v127:=Tryz.zeroValue332
 t164:=Tryz.underlying346
 a164:=Tryz.isAgg346
 z164:=Tryz.sizeOf346
 v164:=Tryz.zeroValue346}
theorem Tryz.QK:Builder.Extra Tryz.prog Tryz.Tg:={
 sizeBuilder:=af
 liesBuilder:=af
 t5:=Tryz.underlying5
 a5:=Tryz.isAgg5
 z5:=Tryz.sizeOf5
 v5:=Tryz.zeroValue5
 infoByte:=af
 cellsByte:=af
 sizeByte:=af
 neB5:=by decide}
open Go.RowKit in
theorem Tryz.strings_Join_none (a:Option Addr)(c:Nat)(sep:ByteArray)(w:World):
 Calls Tryz.prog 242 #[.slice a 0 c,.string sep] w fun e w'=>e= .returned (.string ⟨#[]⟩)∧w'=w:=Any.strings_Join_none Tryz.Tf Tryz.QK a c sep w
open Go.RowKit in
theorem Tryz.strings_Join (Bw o c:Nat)(xs:List ByteArray)(sep:ByteArray)(w:World)(Es: ∀(j:Nat) x,xs[j]? =some x→w.cell? ⟨Bw,o+j,none⟩=some (.string x))(Hy:Bw<w.heap.size)(jy:xs.length≤140737488355328)(jX:xs.length≤c)(hlen:(Lib.join (xs.map (·.data.toList)) sep.data.toList).length≤140737488355328):
 Calls Tryz.prog 242 #[.slice (some ⟨Bw,o,none⟩) xs.length c,.string sep] w fun e w'=>e= .returned (.string ⟨(Lib.join (xs.map (·.data.toList)) sep.data.toList).toArray⟩)∧Below w.heap.size w w':=Any.strings_Join Tryz.Tf Tryz.QK Bw o c xs sep w Es Hy jy jX hlen
def Tryz.agz:Go.Shelf.Ren:=⟨fun|171=>239|243=>262|246=>274|283=>279|284=>280|285=>281|286=>282|129=>286|317=>285|318=>287|319=>288|320=>289|337=>290|338=>291|n=>n,fun|3=>3|9=>9|2=>2|4=>4|171=>341|0=>0|53=>265|37=>310|5=>5|173=>344|212=>350|51=>218|20=>20|213=>351|46=>200|232=>354|233=>355|n=>n,fun|17=>5|18=>6|19=>7|n=>n⟩
theorem Tryz.agy:Go.Proofs.LaysM.n171 Tryz.prog Tryz.agz:={
 mixed:=af
 f129:=Tryz.func286.trans (congrArg some af)
 f171:=Tryz.func239.trans (congrArg some af)
 f243:=Tryz.func262.trans (congrArg some af)
 f246:=Tryz.func274.trans (congrArg some af)
 f283:=Tryz.func279.trans (congrArg some af)
 f284:=Tryz.func280.trans (congrArg some af)
 f285:=Tryz.func281.trans (congrArg some af)
 f286:=Tryz.func282.trans (congrArg some af)
 f317:=Tryz.func285.trans (congrArg some af)
 f318:=Tryz.func287.trans (congrArg some af)
 f319:=Tryz.func288.trans (congrArg some af)
 f320:=Tryz.func289.trans (congrArg some af)
 f337:=Tryz.func290.trans (congrArg some af)
 f338:=Tryz.func291.trans (congrArg some af)
 t0:=Tryz.underlying0
 a0:=Tryz.isAgg0
 z0:=Tryz.sizeOf0
 v0:=Tryz.zeroValue0
 t2:=Tryz.underlying2
 a2:=Tryz.isAgg2
 z2:=Tryz.sizeOf2
 v2:=Tryz.zeroValue2
 t3:=Tryz.underlying3
 a3:=Tryz.isAgg3
 z3:=Tryz.sizeOf3
 v3:=Tryz.zeroValue3
 t4:=Tryz.underlying4
 a4:=Tryz.isAgg4
 z4:=Tryz.sizeOf4
 v4:=Tryz.zeroValue4
 t5:=Tryz.underlying5
 a5:=Tryz.isAgg5
 z5:=Tryz.sizeOf5
 v5:=Tryz.zeroValue5
 t9:=Tryz.underlying9
 a9:=Tryz.isAgg9
 z9:=Tryz.sizeOf9
 v9:=Tryz.zeroValue9
 t20:=Tryz.underlying20
 a20:=Tryz.isAgg20
 z20:=Tryz.sizeOf20
 v20:=Tryz.zeroValue20
 t37:=Tryz.underlying310
 a37:=Tryz.isAgg310
 z37:=Tryz.sizeOf310
 v37:=Tryz.zeroValue310
 t46:=Tryz.underlying200
 a46:=Tryz.isAgg200
 z46:=Tryz.sizeOf200
 v46:=Tryz.zeroValue200
 t51:=Tryz.underlying218
 a51:=Tryz.isAgg218
 z51:=Tryz.sizeOf218
 v51:=Tryz.zeroValue218
 t53:=Tryz.underlying265
 a53:=Tryz.isAgg265
 z53:=Tryz.sizeOf265
 v53:=Tryz.zeroValue265
 t171:=Tryz.underlying341
 a171:=Tryz.isAgg341
 z171:=Tryz.sizeOf341
 v171:=Tryz.zeroValue341
 t173:=Tryz.underlying344
 a173:=Tryz.isAgg344
 z173:=Tryz.sizeOf344
 v173:=Tryz.zeroValue344
 t212:=Tryz.underlying350
 a212:=Tryz.isAgg350
 z212:=Tryz.sizeOf350
 v212:=Tryz.zeroValue350
 t213:=Tryz.underlying351
 a213:=Tryz.isAgg351
 z213:=Tryz.sizeOf351
 t232:=Tryz.underlying354
 a232:=Tryz.isAgg354
 z232:=Tryz.sizeOf354
 v232:=Tryz.zeroValue354
 t233:=Tryz.underlying355
 a233:=Tryz.isAgg355
 z233:=Tryz.sizeOf355
 v233:=Tryz.zeroValue355
 g17:=af
 g18:=af
 g19:=af
 i0:=af
 i2:=af
 i3:=af
 i4:=af
 i5:=af
 i9:=af
 i20:=af
 i37:=af
 i46:=af
 i51:=af
 i53:=af
 i171:=af
 i173:=af
 i212:=af
 i232:=af
 i233:=af
 m17:=af
 m18:=af
 m19:=by kernel_rfl}
open Go.RowKit Go.Sort Go.Lib in
theorem Tryz.strconv_Itoa (n:Int)(aU: -9223372036854775808≤n)(U:n≤9223372036854775807)(w:World)(MB:Lib.TabIs Tryz.prog w "internal/strconv.uint64pow10" .u64 Lib.pow10Tab):
 Calls Tryz.prog 239 #[.int .i64 n] w fun e w'=>e= .returned (.string ⟨(Lib.itoa n).toArray⟩)∧ ∃k os,w'=grow (w.drewN k) os:=Any.strconv_Itoa Tryz.agy n aU U w MB
def Tryz.agB:Go.Shelf.Ren:=⟨fun|14=>199|16=>227|17=>228|19=>251|20=>252|21=>253|22=>254|23=>255|24=>256|25=>269|27=>239|26=>270|28=>262|29=>274|30=>279|31=>280|32=>281|33=>282|35=>286|34=>285|36=>287|37=>288|38=>289|39=>290|40=>291|n=>n,fun|9=>9|3=>3|22=>265|24=>268|25=>269|4=>4|34=>308|5=>5|36=>200|37=>310|0=>0|39=>311|21=>21|44=>328|47=>332|50=>335|48=>333|2=>2|52=>341|55=>344|59=>350|60=>218|20=>20|61=>351|65=>354|66=>355|67=>252|n=>n,fun|0=>1|1=>2|2=>5|3=>6|4=>7|n=>n⟩
theorem Tryz.agA:Go.Proofs.LaysPu.n14 Tryz.prog Tryz.agB:={
 mixed:=af
 f14:=Tryz.func199.trans (congrArg some af)
 f16:=Tryz.func227.trans (congrArg some af)
 f17:=Tryz.func228.trans (congrArg some af)
 f19:=Tryz.func251.trans (congrArg some af)
 f20:=Tryz.func252.trans (congrArg some af)
 f21:=Tryz.func253.trans (congrArg some af)
 f22:=Tryz.func254.trans (congrArg some af)
 f23:=Tryz.func255.trans (congrArg some af)
 f24:=Tryz.func256.trans (congrArg some af)
 f25:=Tryz.func269.trans (congrArg some af)
 f26:=Tryz.func270.trans (congrArg some af)
 f27:=Tryz.func239.trans (congrArg some af)
 f28:=Tryz.func262.trans (congrArg some af)
 f29:=Tryz.func274.trans (congrArg some af)
 f30:=Tryz.func279.trans (congrArg some af)
 f31:=Tryz.func280.trans (congrArg some af)
 f32:=Tryz.func281.trans (congrArg some af)
 f33:=Tryz.func282.trans (congrArg some af)
 f34:=Tryz.func285.trans (congrArg some af)
 f35:=Tryz.func286.trans (congrArg some af)
 f36:=Tryz.func287.trans (congrArg some af)
 f37:=Tryz.func288.trans (congrArg some af)
 f38:=Tryz.func289.trans (congrArg some af)
 f39:=Tryz.func290.trans (congrArg some af)
 f40:=Tryz.func291.trans (congrArg some af)
 t0:=Tryz.underlying0
 a0:=Tryz.isAgg0
 z0:=Tryz.sizeOf0
 v0:=Tryz.zeroValue0
 i0:=af
 t2:=Tryz.underlying2
 a2:=Tryz.isAgg2
 z2:=Tryz.sizeOf2
 v2:=Tryz.zeroValue2
 i2:=af
 t3:=Tryz.underlying3
 a3:=Tryz.isAgg3
 z3:=Tryz.sizeOf3
 v3:=Tryz.zeroValue3
 i3:=af
 t4:=Tryz.underlying4
 a4:=Tryz.isAgg4
 z4:=Tryz.sizeOf4
 v4:=Tryz.zeroValue4
 i4:=af
 t5:=Tryz.underlying5
 a5:=Tryz.isAgg5
 z5:=Tryz.sizeOf5
 v5:=Tryz.zeroValue5
 i5:=af
 t9:=Tryz.underlying9
 a9:=Tryz.isAgg9
 z9:=Tryz.sizeOf9
 v9:=Tryz.zeroValue9
 i9:=af
 t20:=Tryz.underlying20
 a20:=Tryz.isAgg20
 z20:=Tryz.sizeOf20
 v20:=Tryz.zeroValue20
 i20:=af
 t21:=Tryz.underlying21
 a21:=Tryz.isAgg21
 z21:=Tryz.sizeOf21
 v21:=Tryz.zeroValue21
 i21:=af
 t22:=Tryz.underlying265
 a22:=Tryz.isAgg265
 z22:=Tryz.sizeOf265
 v22:=Tryz.zeroValue265
 i22:=af
 t24:=Tryz.underlying268
 a24:=Tryz.isAgg268
 z24:=Tryz.sizeOf268
 v24:=Tryz.zeroValue268
 i24:=af
 t25:=Tryz.underlying269
 a25:=Tryz.isAgg269
 z25:=Tryz.sizeOf269
 v25:=Tryz.zeroValue269
 i25:=af
 t34:=Tryz.underlying308
 a34:=Tryz.isAgg308
 z34:=Tryz.sizeOf308
 v34:=Tryz.zeroValue308
 i34:=af
 c34:=af
 t36:=Tryz.underlying200
 a36:=Tryz.isAgg200
 z36:=Tryz.sizeOf200
 v36:=Tryz.zeroValue200
 i36:=af
 t37:=Tryz.underlying310
 a37:=Tryz.isAgg310
 z37:=Tryz.sizeOf310
 v37:=Tryz.zeroValue310
 i37:=af
 t39:=Tryz.underlying311
 a39:=Tryz.isAgg311
 z39:=Tryz.sizeOf311
 v39:=Tryz.zeroValue311
 i39:=af
 t44:=Tryz.underlying328
 a44:=Tryz.isAgg328
 z44:=Tryz.sizeOf328
 v44:=Tryz.zeroValue328
 i44:=af
 t47:=Tryz.underlying332
 a47:=Tryz.isAgg332
 z47:=Tryz.sizeOf332
 v47:=Tryz.zeroValue332
 i47:=af
 t48:=Tryz.underlying333
 a48:=Tryz.isAgg333
 z48:=Tryz.sizeOf333
 v48:=Tryz.zeroValue333
 i48:=af
 t50:=Tryz.underlying335
 a50:=Tryz.isAgg335
 z50:=Tryz.sizeOf335
 v50:=Tryz.zeroValue335
 i50:=af
 t52:=Tryz.underlying341
 a52:=Tryz.isAgg341
 z52:=Tryz.sizeOf341
 v52:=Tryz.zeroValue341
 i52:=af
 t55:=Tryz.underlying344
 a55:=Tryz.isAgg344
 z55:=Tryz.sizeOf344
 v55:=Tryz.zeroValue344
 i55:=af
 t59:=Tryz.underlying350
 a59:=Tryz.isAgg350
 z59:=Tryz.sizeOf350
 v59:=Tryz.zeroValue350
 i59:=af
 t60:=Tryz.underlying218
 a60:=Tryz.isAgg218
 z60:=Tryz.sizeOf218
 v60:=Tryz.zeroValue218
 i60:=af
 t61:=Tryz.underlying351
 a61:=Tryz.isAgg351
 z61:=Tryz.sizeOf351
 t65:=Tryz.underlying354
 a65:=Tryz.isAgg354
 z65:=Tryz.sizeOf354
 v65:=Tryz.zeroValue354
 i65:=af
 t66:=Tryz.underlying355
 a66:=Tryz.isAgg355
 z66:=Tryz.sizeOf355
 v66:=Tryz.zeroValue355
 i66:=af
 t67:=Tryz.underlying252
 a67:=Tryz.isAgg252
 z67:=Tryz.sizeOf252
 v67:=Tryz.zeroValue252
 i67:=af
 g0:=af
 m0:=af
 g1:=af
 m1:=af
 g2:=af
 m2:=af
 g3:=af
 m3:=af
 g4:=af
 m4:=by kernel_rfl}
open Go.RowKit in
theorem Tryz.strconv_ParseUint_10_at32_ok (s:ByteArray)(EJ:s.size≤9223372036854775806)(u:Nat)(h:Lib.parseUintB 32 s.data.toList= .ok u)(w:World):
 Calls Tryz.prog 199 #[.string s,.int .i64 10,.int .i64 32] w fun e w'=>e= .returned (.tuple #[.int .u64 u,.nilIface])∧(w'=w∨w'=Lib.bytesWorld w 5 s):=Any.strconv_ParseUint_10_at32_ok Tryz.agA s EJ u h w
def Tryz.agx:Go.Shelf.Ren:=⟨fun|212=>189|263=>218|264=>219|n=>n,fun|46=>200|51=>218|146=>283|53=>265|148=>285|n=>n,fun|n=>n⟩
theorem Tryz.agw:Go.Proofs.Lays.n212 Tryz.prog Tryz.agx:={
 mixed:=af
 f212:=Tryz.func189.trans (congrArg some af)
 f263:=Tryz.func218.trans (congrArg some af)
 f264:=Tryz.func219.trans (congrArg some af)
 t46:=Tryz.underlying200
 a46:=Tryz.isAgg200
 z46:=Tryz.sizeOf200
 v46:=Tryz.zeroValue200
 t51:=Tryz.underlying218
 a51:=Tryz.isAgg218
 z51:=Tryz.sizeOf218
 v51:=Tryz.zeroValue218
 t53:=Tryz.underlying265
 a53:=Tryz.isAgg265
 z53:=Tryz.sizeOf265
 v53:=Tryz.zeroValue265
 t146:=Tryz.underlying283
 a146:=Tryz.isAgg283
 z146:=Tryz.sizeOf283
 v146:=Tryz.zeroValue283
 t148:=Tryz.underlying285
 a148:=Tryz.isAgg285
 z148:=Tryz.sizeOf285
 v148:=Tryz.zeroValue285}
open Go.RowKit Go.Lib in
theorem Tryz.bits_Mul (x y:Nat)(ar:x<18446744073709551616)(a1:y<18446744073709551616)(w:World):
 Calls Tryz.prog 189 #[.int .u64 x,.int .u64 y] w fun e w'=>e= .returned (.tuple #[.int .u64 ((x*y/18446744073709551616:Nat):Int),.int .u64 ((x*y%18446744073709551616:Nat):Int)])∧w'=w:=Any.bits_Mul Tryz.agw x y ar a1 w
end Go.Proofs
namespace Go.Proofs.YtmpnheilfejcpaaGreatDoor
open Go.aj Go.aj.dn Go.RowKit
theorem alY (w:World)(q:Nat)(os:Array Obj):Below w.heap.size w (Go.Sort.grow (w.drewN q) os):=by
 refine ⟨I,I,I,?_,fun k an=> ?_⟩
 ·show w.heap.size≤(w.heap++os).size;simp
 ·show (w.heap++os)[k]? =w.heap[k]?;rw [Bj an]
theorem akL {w:World}{S:Nat→Prop}{σ:Nat→Option bQ}{a:ak}{dD:Array Value}(ai:pv w S σ [a] dD): ∃x,dD= #[x]∧bz w S σ a x:=by
 obtain ⟨U,ab⟩:=ai;have q:=ab 0 bX;have au:dD.toList.length=1:=by simpa using U
 match aB:dD.toList,au with
 |[x],_=>
  have e:dD= #[x]:=by rw [←DS (xs:=dD),aB]
  subst e;exact ⟨x,I,by simpa using q⟩
theorem Uf {w:World}{S:Nat→Prop}{σ:Nat→Option bQ}{a b:ak}{dD:Array Value}(ai:pv w S σ [a,b] dD): ∃x y,dD= #[x,y]∧bz w S σ a x∧bz w S σ b y:=by
 obtain ⟨U,ab⟩:=ai;have q:=ab 0 bX;have bS:=ab 1 bX;have au:dD.toList.length=2:=by simpa using U
 match aB:dD.toList,au with
 |[x,y],_=>
  have e:dD= #[x,y]:=by rw [←DS (xs:=dD),aB]
  subst e;exact ⟨x,y,I,by simpa using q,by simpa using bS⟩
theorem akM {w:World}{S:Nat→Prop}{σ:Nat→Option bQ}{a b c:ak}{dD:Array Value}(ai:pv w S σ [a,b,c] dD): ∃x y z,dD= #[x,y,z]∧bz w S σ a x∧bz w S σ b y∧bz w S σ c z:=by
 obtain ⟨U,ab⟩:=ai;have q:=ab 0 bX;have bS:=ab 1 bX;have bY:=ab 2 bX;have au:dD.toList.length=3:=by simpa using U
 match aB:dD.toList,au with
 |[x,y,z],_=>
  have e:dD= #[x,y,z]:=by rw [←DS (xs:=dD),aB]
  subst e;exact ⟨x,y,z,I,by simpa using q,by simpa using bS,by simpa using bY⟩
theorem itoa (n:Int)(h: -9223372036854775808≤n∧n≤9223372036854775807):bs Tryz.prog 239 [.int .i64 n] (.str (Lib.itoa n)):=by
 refine bs.Ip ⟨Tryz.f239,I,af,I⟩ I I (fun w S dD dG dq ai=> ?_);obtain ⟨x,rfl,a⟩:=akL ai;have ar:x= .int .i64 n:=by cases a;rfl
 subst ar;have aF:Ch w:=dG;refine (Tryz.strconv_Itoa n h.1 h.2 w aF.2.1).mono ?_;rintro e w' ⟨rfl,k,os,rfl⟩;exact ⟨_,I,alY w k os,.str _ _⟩
theorem agl (n:Nat)(h:n≤9223372036854775807):bs Tryz.prog 239 [ag n] (.str (Lib.decDigits n)):=by
 have:=itoa n ⟨J,J⟩
 rwa [Go.aj.r7.agm] at this
theorem Tn (a b:Nat)(a8:a<18446744073709551616)(al:b<18446744073709551616):bs Tryz.prog 189 [.int .u64 (a:Nat),.int .u64 (b:Nat)] (.cn [.int .u64 (a*b/18446744073709551616:Nat),.int .u64 (a*b%18446744073709551616:Nat)]):=by
 refine bs.Ip ⟨Tryz.f189,I,af,I⟩ I I (fun w S dD dG dq ai=> ?_);obtain ⟨x,y,rfl,p,q⟩:=Uf ai;have ar:x= .int .u64 (a:Nat):=by cases p;rfl
 have a1:y= .int .u64 (b:Nat):=by cases q;rfl
 subst ar a1;refine (Tryz.bits_Mul a b a8 al w).mono ?_;rintro e w' ⟨rfl,rfl⟩;refine ⟨_,I,Below.refl _ _,.cn _ _ _ I (fun i aa=> ?_)⟩
 match i,aa with
 |0,_=>exact .int _ _ _
 |1,_=>exact .int _ _ _
theorem ahL (s:List UInt8)(u:Nat)(au:s.length≤1000)(h:Lib.parseUintB 32 s= .ok u):bs Tryz.prog 199 [.str s,.int .i64 10,.int .i64 32] (.cn [.int .u64 (u:Nat),.oh]):=by
 refine bs.Ip ⟨Tryz.f199,I,af,I⟩ I I (fun w S dD dG dq ai=> ?_);obtain ⟨x,y,z,rfl,p,q,r⟩:=akM ai;have ar:x=pr s:=by cases p;rfl
 have a1:y= .int .i64 10:=by cases q;rfl
 have bw:z= .int .i64 32:=by cases r;rfl
 subst ar a1 bw;have hd:(⟨s.toArray⟩:ByteArray).data.toList=s:=bX;have cz:(⟨s.toArray⟩:ByteArray).size=s.length:=by simp [ByteArray.size]
 refine (Tryz.strconv_ParseUint_10_at32_ok ⟨s.toArray⟩ (by rw [cz];omega) u (by rw [hd];exact h) w).mono ?_;rintro e w' ⟨rfl,hw⟩;refine ⟨_,I,?_,.cn _ _ _ I (fun i aa=> ?_)⟩
 ·rcases hw with rfl|rfl
  ·exact Below.refl _ _
  ·exact Lib.bytesWorld_below _ _ _
 ·match i,aa with
  |0,_=>exact .int _ _ _
  |1,_=>exact .oh _
theorem join (ls:List (List UInt8))(sep:List UInt8)(jy:ls.length≤140737488355328)(ae:(Lib.join ls sep).length≤140737488355328):bs Tryz.prog 242 [.ro (.strs ls) 0 ls.length,.str sep] (.str (Lib.join ls sep)):=by
 refine bs.Ip ⟨Tryz.f242,I,af,I⟩ I I (fun w S dD dG dq ai=> ?_);obtain ⟨x,y,rfl,a,b⟩:=Uf ai;have a1:y=pr sep:=by cases b;rfl
 subst a1;have SL:(⟨sep.toArray⟩:ByteArray).data.toList=sep:=bX;have aqw: ∀l:List UInt8,(⟨l.toArray⟩:ByteArray).data.toList=l:=fun l=>by simp
 generalize aI:ls.length=n at a;cases a with
 |kq _ _ _ ia cap=>
  have:ls=[]:=uu.mp aI;subst this;refine (Tryz.strings_Join_none ia cap ⟨sep.toArray⟩ w).mono ?_;rintro e w' ⟨rfl,rfl⟩;exact ⟨_,I,Below.refl _ _,.str _ []⟩
 |ro _ _ _ _ Bw o cap val e9 hlen aw iy gB=>
  subst aI;have wF:(ls.map (fun l=>(⟨l.toArray⟩:ByteArray))).length=ls.length:=bX;have c:=Tryz.strings_Join Bw o cap (ls.map (fun l=>(⟨l.toArray⟩:ByteArray))) ⟨sep.toArray⟩ w (fun j x ar=> ?_) (dq _ e9) (by simpa using jy) (by simpa using hlen) ?_
  ·rw [wF] at c;refine c.mono ?_;rintro e w' ⟨rfl,al⟩;have aJ:((ls.map (fun l=>(⟨l.toArray⟩:ByteArray))).map (fun x=>x.data.toList))=ls:=by rw [xD];exact (k5 (fun x _=>rfl)).trans (List.map_id _)
   rw [aJ,SL];exact ⟨_,I,al,.str _ _⟩
  ·simp only [ly,GZ] at ar;obtain ⟨l,au,rfl⟩:=ar;have bD:j<ls.length:=(hi.1 au).1;have q:=aw j 0 bD (by simp [Cells.aD]);have v:=iy j 0 bD (by simp [Cells.aD]);simp only [Cells.aD,q6,e6] at q;simp only [Cells.at,cT,List.getD,au,px] at v;rw [q];generalize val j 0=z at v;cases v;rfl
  ·have aJ:((ls.map (fun l=>(⟨l.toArray⟩:ByteArray))).map (fun x=>x.data.toList))=ls:=by rw [xD];exact (k5 (fun x _=>rfl)).trans (List.map_id _)
   rw [aJ,SL];exact ae
end Go.Proofs.YtmpnheilfejcpaaGreatDoor
namespace Go.Proofs.YtmpnheilfejcpaaGreatDoor
open Go.aj Go.aj.dn Go.RowKit
attribute [local irreducible] aj eJ b1 ch
def qY (s p:List UInt8):Bool:=decide (p.length≤s.length∧s.take p.length=p)
theorem Y3 (s p:List UInt8)(av:s.length≤9223372036854775807)(aF:p.length≤9223372036854775807):bs Tryz.prog 225 [.str s,.str p] (.bool (qY s p)):=by
 refine cf Tryz.f225 fun c aq bI=> ?_;refine fb ?_;refine gQ I I (fun aU=> ?_) (fun aU=> ?_)
 ·refine hx ?_;refine aX aq I ?_;show ak.bool (decide ((List.drop _ s).take _=p))=_;unfold qY;congr 1;rw [te];simp only [fE,sd,cg,xu];exact ⟨fun h=>⟨J,h⟩,fun h=>h.2⟩
 ·refine bc ?_;refine aX aq I ?_;show ak.bool false=_;unfold qY;rw [fT];exact fun h=>aU J
theorem Kn (s p:List UInt8)(av:s.length≤9223372036854775807)(aF:p.length≤9223372036854775807):bs Tryz.prog 245 [.str s,.str p] (.bool (qY s p)):=by have aw:=Y3 s p av aF;refine cf Tryz.f245 fun c aq bI=> ?_;generalize qY s p=b at*;refine bF ?_;refine aO I I I aw (bF ?_);exact aX aq I I
theorem aiO (n:Nat)(aI:n≤60):bs Tryz.prog 240 [.str [48],ag n] (.str (List.replicate n 48)):=by
 refine cf Tryz.f240 fun c aq bI=> ?_;refine bh ?_;refine bm I (fun aU=> ?_) (fun aU=> ?_)
 ·have:n=0:=J;subst this;refine bc ?_;exact aX aq I I
 refine bh ?_;refine bm I (fun U=> ?_) (fun U=> ?_)
 ·have:n=1:=J;subst this;refine bc ?_;exact aX aq I I
 refine bc ?_;have hm:=Tn 1 n J J;rw [qi,oJ J,np J] at hm;have c6:bs Tryz.prog 245 [.str (List.replicate 128 32),.str [48]] (.bool false):=Kn _ _ aT aT;have fs:bs Tryz.prog 245 [.str (List.replicate 128 45),.str [48]] (.bool false):=Kn _ _ aT aT;have lh:bs Tryz.prog 245 [.str (List.replicate 64 48),.str [48]] (.bool true):=Kn _ _ aT aT;refine ao (hb (m:=1) I I I eO aT) ?_;repeat (refine ao (bE rfl) ?_)
 refine ao (hb (m:=n) I I I eO J) ?_;refine aO I I I hm (bc ?_);refine bm I (fun h=>absurd h J) (fun h=> ?_);refine bn ?_;refine ao (AH (m:=n) I I I J) (uX ?_);refine gQ I I (fun ay=> ?_) (fun ay=>absurd (show (n:Int)≤128 by omega) ay);refine c4 ?_;refine aO I I I c6 (fb ?_);refine gQ I I (fun bf=> ?_) (fun bf=>absurd (show (n:Int)≤128 by omega) bf);refine c4 ?_;refine aO I I I fs (fb ?_);refine gQ I I (fun bL=> ?_) (fun bL=>absurd (show (n:Int)≤64 by omega) bL);refine c4 ?_;refine aO I I I lh (bo ?_);refine ao (CH I I I I I I (by show (0:Int)≤0∧(0:Int)≤(n:Nat)∧((n:Nat):Int)≤((64:Nat):Int);omega)) (bc ?_);refine aX aq I ?_;show ak.str ((List.drop 0 (List.replicate 64 48)).take (n-0))=_;rw [sd,xu,List.take_replicate,hY J]
def kB (k:Nat):List ak:=(List.range 256).map fun j=>ak.bool (decide (48≤j∧j<48+k))
theorem sK (k:Nat):(kB k).length=256:=by unfold kB;simp
theorem Kr (k j:Nat)(ae:j<256):(kB k)[j]? =some (ak.bool (decide (48≤j∧j<48+k))):=by unfold kB;rw [ly,vM ae];rfl
theorem ajt (k:Nat)(an:k<10):(kB k).set (48+k) (.bool true)=kB (k+1):=by
 apply List.ext_getElem?;intro i;rcases gz i 256 with aa|aa
 ·rw [Kr (k+1) i aa];by_cases h:i=48+k
  ·subst h;rw [oH (by rw [sK];exact aa)];congr 2;exact (fG J).symm
  ·rw [lV (q3 h),Kr k i aa];congr 2;rw [te];omega
 ·rw [kG (by rw [dd,sK];exact aa),kG (by rw [sK];exact aa)]
def D8:List UInt8:=[48,49,50,51,52,53,54,55,56,57]
theorem YL (k:Nat)(an:k<10):(D8.getD k 0).toNat=48+k:=by have:k=0∨k=1∨k=2∨k=3∨k=4∨k=5∨k=6∨k=7∨k=8∨k=9:=J;rcases this with rfl|rfl|rfl|rfl|rfl|rfl|rfl|rfl|rfl|rfl<;>rfl
theorem aat (l:List ak):(List.range (Cells.box l).aD).map ((Cells.box l).at 0)=l:=by
 apply List.ext_getElem?;intro i;rcases gz i l.length with h|h
 ·rw [ly,vM (by exact h)];show some (l.getD i .any)=_;rw [List.getD,nY h];rfl
 ·rw [kG (by simpa [Cells.aD] using h),kG h]
theorem aju:bs Tryz.prog 231 [.str D8] (.cn [.agg (kB 10),.bool true]):=by
 refine ch.qG (gl (P:=Tryz.prog) (fn:=Tryz.f231) I I af I (fun c aq bI=> ?_)) (fix:=fun _=>False) (fun _ h=>h) I af;refine bh ?_;refine jk [some ⟨296,.box (kB 0)⟩] af ?_;refine cp (ι:=Nat) (fun k=>[(0,.str D8),(2,.ptr 0 0 0),(4,ag k)]) (fun k=>[some ⟨296,.box (kB k)⟩]) (fun k=>k≤10) (fun k=>10-k) 0 ⟨aE,I,J⟩ ?_;rintro k an;have oT:D8.length=10:=rfl;refine bc ?_;refine bm I (fun U=> ?_) (fun U=> ?_)
 ·have l0:k<10:=J;refine uX ?_;refine bm I (fun ab=>absurd ab (by rw [cg,YL k l0];omega)) (fun ab=> ?_);refine bn ?_;refine bP 18 (.int .u8 (48+k:Nat)) I (aR.of_eq (by rw [cg,YL k l0])) ?_;refine ao (UM (m:=((48+k:Nat):Int)) (rn:=48+k) I I I I (by rw [cg,cT]) J) ?_;refine lK I I I I I (by rw [show (Cells.box (kB k)).aD=256 from sK k];exact Nat.ble_eq.symm▸(by omega:48+k+1≤256)) I fA (bo ?_);refine b4 ⟨k+1,J,J,aE,?_⟩;show ([some ⟨_,.box ((kB k).set (48+k) (.bool true))⟩]:aZ)=_;rw [ajt k l0]
 ·have jz:k=10:=J;subst jz;refine bo ?_;refine ao (UA (bg:=⟨296,.box (kB 10)⟩) I I I (sK 10).symm I I (aat _) fA) ?_;refine eE (c':= .box (kB 10)) I I (by rw [show (Cells.box (kB 10)).aD=256 from sK 10];rfl) I (by rw [show (Cells.box (kB 10)).aD=256 from sK 10];exact sK 10) fA I I (fun aG a7 aL bd=> ?_) ?_
  ·rw [aA (fw.1 aL)];rfl
  refine bF ?_;exact aX aq I I
theorem U2 (fB:UInt8):bs Tryz.prog 257 [.cK (.box (kB 10)) 0 0,.int .u8 (fB.toNat:Nat)] (.bool (dg fB)):=by have bD:=fB.toNat_lt;have hB:=Kr 10 fB.toNat (by simpa using bD);refine cf Tryz.f257 fun c aq bI=> ?_;refine uZ ?_;refine ao (Jn (m:=((fB.toNat:Nat):Int)) (rn:=fB.toNat) I I I I (by rw [cg,cT]) J) ?_;refine ao (lo I I I hB) (bF ?_);exact aX aq I I
theorem aiQ (s:List UInt8)(av:s.length≤9223372036854775807):bs Tryz.prog 233 [.str s,.cK (.box (kB 10)) 0 0] (.str (u5 s)):=by
 refine cf Tryz.f233 fun c aq bI=> ?_;refine bn ?_;refine cp (ι:=Nat) (fun k=>[(0,.str (s.take k)),(1,.cK (.box (kB 10)) 0 0)]) (fun _=>[]) (fun k=>k≤s.length∧(s.drop k).all dg=true) (fun k=>k) s.length ⟨⟨by rw [e7];rfl,I,trivial⟩,I,bT _,bX⟩ ?_;rintro k ⟨an,hd⟩;have hlen:(s.take k).length=k:=by simp;omega
 have EM:=akE an hd;refine bc ?_;refine bm I (fun U=> ?_) (fun U=> ?_)
 ·have pK:0<k:=J;have c2:(s.take k).getD (k-1) 0=s.getD (k-1) 0:=by simp only [List.getD,py,show k-1<k by omega,gf]
  have aH:((k:Int)-1).toNat=k-1:=J;have aw:=U2 (s.getD (k-1) 0);refine Nk ?_;refine bP 13 (.int .u8 ((s.getD (k-1) 0).toNat:Nat)) I (aR.of_eq (by rw [hlen,aH,c2])) ?_;refine aO I I I aw (bo ?_);refine tV I (fun ab=> ?_) (fun ab=> ?_)
  ·have ay:dg (s.getD (k-1) 0)=false:=by simpa using ab
   refine uY ?_;refine aX aq I ?_;rw [EM (.inr ay)];rfl
  ·have ay:dg (s.getD (k-1) 0)=true:=by simpa using ab
   refine fb ?_;refine ao (CH I I I I I I J) (bo ?_);refine b4 ⟨k-1,⟨J,?_⟩,J,⟨?_,I,trivial⟩,I⟩
   ·rw [tQ s 0 (k-1) J,show k-1+1=k by omega,zo,ay,hd];rfl
   ·show some (ak.str ((List.drop 0 (s.take k)).take ((((s.take k).length:Int)-1).toNat-0)))=_;rw [sd,hlen,aH,xu,List.take_take,hY J]
 ·have pJ:k=0:=J;subst pJ;refine bo ?_;refine aX aq I ?_;rw [EM (.inl rfl)];rfl
theorem agF (s:List UInt8)(av:s.length≤9223372036854775807):bs Tryz.prog 232 [.str s,.cK (.box (kB 10)) 0 0] (.str (Am s)):=by
 refine cf Tryz.f232 fun c aq bI=> ?_;refine bn ?_;refine cp (ι:=Nat) (fun k=>[(0,.str (s.drop k)),(1,.cK (.box (kB 10)) 0 0)]) (fun _=>[]) (fun k=>k≤s.length∧(s.take k).all dg=true) (fun k=>s.length-k) 0 ⟨⟨by rw [sd];rfl,I,trivial⟩,I,b7 _,bX⟩ ?_;rintro k ⟨an,hd⟩;have hlen:(s.drop k).length=s.length-k:=bX;have EM:=akC hd;refine bc ?_;refine bm I (fun U=> ?_) (fun U=> ?_)
 ·have pK:k<s.length:=J;have c2:(s.drop k).getD 0 0=s.getD k 0:=by simp [List.getD]
  have aw:=U2 (s.getD k 0);refine uX ?_;refine bP 10 (.int .u8 ((s.getD k 0).toNat:Nat)) I (aR.of_eq (by rw [fE,c2])) ?_;refine aO I I I aw (bo ?_);refine tV I (fun ab=> ?_) (fun ab=> ?_)
  ·have ay:dg (s.getD k 0)=false:=by simpa using ab
   refine uY ?_;refine aX aq I ?_;rw [EM (.inr ay)];rfl
  ·have ay:dg (s.getD k 0)=true:=by simpa using ab
   refine bn ?_;refine ao (CH I I I I I I J) (bo ?_);refine b4 ⟨k+1,⟨J,?_⟩,J,⟨?_,I,trivial⟩,I⟩
   ·rw [pT s 0 k pK,List.all_append,hd];simp only [zo,List.all_nil,ay,Bool.and_true]
   ·show some (ak.str ((List.drop 1 (s.drop k)).take ((s.drop k).length-1)))=_;rw [List.drop_drop,kI (by simp;omega)]
 ·have pJ:s.length≤k:=J;refine bo ?_;refine aX aq I ?_;rw [EM (.inl pJ)];rfl
theorem akF (s:List UInt8)(av:s.length≤9223372036854775807):bs Tryz.prog 202 [.str s,.str D8] (.str (Am (u5 s))):=by
 have U:=aju;have ab:=aiQ s av;have hle:(u5 s).length≤s.length:=by unfold u5;rw [List.length_reverse];have:=(List.dropWhile_sublist (p:=dg) (l:=s.reverse)).length_le;simpa using this
 have ay:=agF (u5 s) J;refine cf Tryz.f202 fun c aq bI=> ?_;have au:=sK 10;refine bc ?_;by_cases aU:s=[]
 ·subst aU;refine bc ?_;exact aX aq I I
 rw [show decide (s=_)=false from fT aU];refine bc ?_;refine aO I I I U (bh ?_);refine eE (c':= .box (kB 10)) I I I I (sK 10) fA I (sK 10) (fun aG a7 aL bd=> ?_) ?_
 ·rw [aA (fw.1 aL)];rfl
 refine bo ?_;have fa: ∀(h:Nat) (o:bl),([some ⟨296,.box (kB 10)⟩]:aZ)[h]? =some (some o)→eZ o.c:=p8 (fun i j aa ae=>by
  show cM ((kB 10).getD j .any)=true;rw [List.getD,Kr 10 j (by have:j<(kB 10).length:=ae;rwa [sK] at this)];rfl)
 refine dw [some ⟨296,.box (kB 10)⟩] I ?_;refine FV rfl rfl rfl rfl ab fa ⟨trivial,fun o ah=>by simp at ah;subst ah;exact fA,trivial⟩ rfl rfl rfl ?_;skip
 refine FV rfl rfl rfl rfl ay fa ⟨trivial,fun o ah=>by simp at ah;subst ah;exact fA,trivial⟩ rfl rfl rfl (c4 ?_);exact aX aq I I
end Go.Proofs.YtmpnheilfejcpaaGreatDoor
namespace Go.Proofs.YtmpnheilfejcpaaGreatDoor
open Go.aj Go.aj.dn Go.RowKit
open Go.aj.r7 (jM yM yx vf)
attribute [local irreducible] aj eJ b1 ch
theorem Y1 {i:Nat}(h:i≤9):10^i≤1000000000:=by have:=fF (show 0<10 by decide) h;exact dN this aT
theorem Kp (S:List UInt8)(hd: ∀c∈S,jM c)(au:S.length≤1000000):bs Tryz.prog 151 [.str S] (bB (ej 0 S)):=by
 refine cf Tryz.f151 fun c aq bI=> ?_;refine bF ?_;refine ds 3 (bB 0) I aR.M7 ?_;refine fD ?_;refine cp (ι:=Nat×List UInt8) (fun p=>[(0,.str p.2),(3,bB p.1)]) (fun _=>[]) (fun p=>p.2.length≤S.length∧(∀c∈p.2,jM c)∧ej p.1 p.2=ej 0 S∧p.1<10^(S.length-p.2.length)) (fun p=>p.2.length) (0,S) ⟨aE,I,bT _,hd,I,bX⟩ ?_;rintro ⟨v,s⟩ ⟨U,ab,ay,bf⟩;simp only at*;refine bc ?_;refine bm I (fun bL=> ?_) (fun bL=> ?_)
 ·have B6:s≠[]:=by rintro rfl;simp at bL
  obtain ⟨k,an,pK,aew,nx⟩: ∃k:Nat,(if (9:Int)<(s.length:Nat) then (9:Int) else (s.length:Nat))=(k:Int)∧1≤k∧k≤9∧k≤s.length:=by
   have:0<s.length:=zu.2 B6;by_cases bw:(9:Int)<(s.length:Nat)
   ·exact ⟨9,by rw [aA bw];rfl,J,J,J⟩
   ·exact ⟨s.length,by rw [ax bw],J,J,bT _⟩
  have MA:s.take k≠[]:=by intro e;have:=congrArg List.length e;rw [fc,hY nx] at this;simp at this;omega
  have wB:(s.take k).length=k:=by rw [fc,hY nx]
  obtain ⟨aF,afc⟩:=C6 MA (fun c aw=>ab c (pz aw)) J;have SE:=ahL (s.take k) _ J aF;have HB:ej (v*10^k+ej 0 (s.take k)) (s.drop k)=ej 0 S:=by
   rw [←ay]
   conv=>rhs;rw [←sa k s]
   rw [N0,FY (s.take k) v,wB]
  have afT:=Kd (l:=s.take k) (fun c aw=>ab c (pz aw));rw [wB] at afT;have SW:v*10^k+ej 0 (s.take k)<10^(S.length-(s.drop k).length):=by rw [vR,show S.length-(s.length-k)=(S.length-s.length)+k by omega,iI];have:(v+1)*10^k≤10^(S.length-s.length)*10^k:=er _ bf;rw [dK] at this;omega
  obtain ⟨x,ar⟩: ∃x,ej 0 (s.take k)=x:=⟨_,rfl⟩
  rw [ar] at afc SE HB SW;have tB:(a6 v).length≤S.length-s.length:=oo (gL bf (xB aT _));have Su:=aoS (a6 v) (10^k) x (iS v) J (by have:=Y1 aew;omega) J;rw [hG] at Su;refine uX ?_;rw [an];refine bP 17 (.str (s.take k)) I (aR.of_eq (by
   show ak.str ((List.drop 0 s).take (k-0))=_;rw [sd,xu])) ?_
  refine aO I I I SE (c4 ?_);refine cp (ι:=Nat) (fun i=>[(0,.str s),(3,bB v),(4,ag k),(5,.int .u64 (x:Nat)),(7,.int .u32 (10^i:Nat)),(21,ag k),(22,ag i)]) (fun _=>[]) (fun i=>i≤k) (fun i=>k-i) 0 ⟨aE,I,b7 _⟩ ?_;rintro i aa;refine bh ?_;refine bm I (fun dz=> ?_) (fun dz=> ?_)
  ·have aff:=Y1 (show i+1≤9 by omega);rw [ic] at aff;refine bn ?_;refine ao (Dn (m:=10^i) (n:=10) I I lr J) (bo ?_);exact b4 ⟨i+1,J,J,aE,I⟩
  ·have df:i=k:=J;subst df;refine bo ?_;refine ao (hb (m:=x) I I I lr J) ?_;refine aO I I I Su (uX ?_);refine b4 ⟨(v*10^i+x,s.drop i),⟨by simp only [vR];omega,fun c aw=>ab c (List.mem_of_mem_drop aw),HB,SW⟩,by simp only [vR];omega,⟨?_,I,trivial⟩,I⟩;show some (ak.str ((List.drop i s).take (s.length-i)))=_;rw [kI bX]
 ·have B6:s=[]:=by
   rcases s with _|⟨x,r⟩
   ·rfl
   ·exact absurd bX bL
  subst B6;refine bo ?_;refine aX aq I ?_;rw [←ay];rfl
theorem apC:bs Tryz.prog 214 [bB 0] (.str (Lib.decDigits 0)):=by
 refine cf Tryz.f214 fun c aq bI=> ?_;have tp:bB 0= .ro (.ints .u32 []) 0 0:=by unfold bB;rw [rA];rfl
 rw [tp];refine bo ?_;refine aX aq I ?_;rw [Lib.decDigits_one aT];rfl
theorem Ft {n L:Nat}(h:(a6 n).length≤L)(cH:1≤L):(Lib.decDigits n).length≤10*L:=by have U:=jH (iS n);rw [hG] at U;have ab:B^(a6 n).length≤B^L:=fF aT h;have ay:B^L≤(10^10)^L:=xB aT L;rw [←Nat.pow_mul] at ay;exact Fp J J
theorem KA (n:Nat)(h:(a6 n).length≤1000000):bs Tryz.prog 214 [bB n] (.str (Lib.decDigits n)):=by
 rcases n2 n with aU|aU
 ·subst aU;exact apC
 have oT:=Ft h aT;have uM:0<(a6 n).length:=As.2 J;refine cf Tryz.f214 fun c aq bI=> ?_;unfold bB;refine bh ?_;refine bm I (fun q=>absurd q J) (fun q=> ?_);refine fb ?_;refine jF 3 ⟨9,.strs []⟩ I I ?_;refine fD ?_;refine cp (ι:=Nat×List (List UInt8)) (fun p=>[(0,bB p.1),(3,.aC 0 0 p.2.length)]) (fun p=>[some ⟨9,.strs p.2⟩]) (fun p=>(a6 p.1).length≤1000000∧p.2.length≤p.2.reverse.flatten.length∧(if p.1=0 then Lib.decDigits n=p.2.reverse.flatten else Lib.decDigits n=Lib.decDigits p.1++p.2.reverse.flatten)) (fun p=>p.1) (n,[])
  ⟨aE,rfl,h,bX,by rw [ax (by simp only;omega)];simp⟩ ?_
 rintro ⟨m,iP⟩ ⟨U,ab,ay⟩;simp only at*;have e1:0<(a6 m).length↔m≠0:=As;have xN:=U3 (a6 m) 1000000000 (iS m) J aT;rw [hG] at xN;have aqF:iP.reverse.flatten.length≤10000000:=by
  have e:iP.reverse.flatten.length≤(Lib.decDigits n).length:=by
   split at ay
   ·rw [ay];exact bT _
   ·rw [ay,c8];omega
  omega
 have tp:bB m= .ro (.ints .u32 (a6 m)) 0 (a6 m).length:=rfl;rw [tp];refine bc ?_;refine bm I (fun bf=> ?_) (fun bf=> ?_)
 ·have tx:m≠0:=e1.1 J;rw [ax tx] at ay;have ad:m%1000000000<1000000000:=lx _ aT;have bD:m/1000000000<m:=DW J aT;have L7:=agl (m%1000000000) J;have SG:0<(a6 (m/1000000000)).length↔m/1000000000≠0:=As;have Mf:=NM bD U;have fa:(Lib.decDigits (m%1000000000)).length≤9:=Fp aT (by rw [show (10:Nat)^9=1000000000 by decide];exact ad);have HX:=aiO (9-(Lib.decDigits (m%1000000000)).length) J;obtain ⟨t,MA,wB,wC,B9⟩: ∃t:List UInt8,t≠[]∧t.length≤9∧(m/1000000000≠0→t=List.replicate (9-(Lib.decDigits (m%1000000000)).length) 48++Lib.decDigits (m%1000000000))∧(m/1000000000=0→t=Lib.decDigits (m%1000000000)):=by
   by_cases z:m/1000000000=0
   ·exact ⟨_,vf _,fa,fun h=>absurd z h,fun _=>rfl⟩
   ·refine ⟨_,?_,?_,fun _=>rfl,fun h=>absurd h z⟩
    ·simp [vf]
    ·simp;omega
  have B8:m/1000000000≠0→Lib.decDigits m=Lib.decDigits (m/1000000000)++t:=fun z=>by have Hf:(10:Nat)^9=1000000000:=aT;have av:=alN (n:=m) (k:=9) aT (by rw [Hf];omega);rw [Hf] at av;rw [av,wC z];rfl
  have zV:m/1000000000=0→Lib.decDigits m=t:=fun z=>by rw [B9 z];congr 1;have:=zm m 1000000000;omega
  have ny:(if m/1000000000=0 then Lib.decDigits n=(iP++[t]).reverse.flatten else Lib.decDigits n=Lib.decDigits (m/1000000000)++(iP++[t]).reverse.flatten):=by
   rw [List.reverse_append,List.reverse_singleton,List.singleton_append,List.flatten_cons];split
   ·rename_i z;rw [ay,zV z]
   ·rename_i z;rw [ay,B8 z,lz]
  obtain ⟨r,SK⟩: ∃r,m%1000000000=r:=⟨_,rfl⟩
  obtain ⟨d,adO⟩: ∃d,m/1000000000=d:=⟨_,rfl⟩
  simp only [SK,adO] at*;refine bn ?_;refine aO I I I xN (c4 ?_);refine ao (AH (m:=r) I I I J) ?_;refine aO I I I L7 ?_;have abL:bB d= .ro (.ints .u32 (a6 d)) 0 (a6 d).length:=rfl;rw [abL];refine bc ?_;apply kQ (H:=[some ⟨9,.strs iP⟩]) [(0,bB d),(3,.aC 0 0 iP.length),(5,.str t)]
  ·intro fin;refine bm I (fun bY=> ?_) (fun bY=> ?_)
   ·have wg:d≠0:=SG.1 J;refine fb ?_;refine bP 25 (ag (9-(Lib.decDigits r).length)) I (aR.of_eq (by congr 1;omega)) ?_;refine aO I I I HX ?_;repeat (refine ao (bE rfl) ?_)
    refine ao (AE I I (by simp;omega)) ?_;refine eD ?_;exact fin _ ⟨I,I,by rw [wC wg];rfl,trivial⟩
   ·have wg:d=0:=by
     rcases n2 d with z|z
     ·exact z
     ·exact absurd (by have:=SG.2 J;omega) bY
    refine eD ?_;exact fin _ ⟨I,I,by rw [B9 wg];rfl,trivial⟩
  refine bq ?_;refine dy I I I I I I I I I I I I (bT 1) I (by show (iP.length+1)*16≤_∧_;omega) (fun i j _ _=>rfl) c3 (bo ?_);refine b4 ⟨(d,iP++[t]),⟨Mf,?_,ny⟩,bD,⟨I,?_,trivial⟩,I⟩
  ·simp only [List.reverse_append,List.reverse_singleton,List.singleton_append,List.flatten_cons,c8,List.length_singleton];have:=zu.2 MA;omega
  ·show some (ak.aC 0 0 (iP.length+1))=_;simp
 ·have tx:m=0:=by
   rcases n2 m with q|q
   ·exact q
   ·exact absurd (by have:=e1.2 J;omega) bf
  rw [aA tx] at ay;have EU:=anB iP J;have zQ:(Lib.join iP.reverse []).length≤140737488355328:=by rw [Ws];omega
  have L8:=join iP.reverse [] (by rw [List.length_reverse];omega) zQ;rw [Ws,←ay,List.length_reverse] at L8;refine bo ?_;refine rC (fix:=fun h=>h<1) I I I EU (fun h aV=>aV) (fun h aV=>aV) ?_;rintro r H rfl;refine bF ?_;refine sM 0 35 iP.length [] I NU I (by show _≤iP.reverse.length;simp) trivial ?_;refine aO I I I L8 (bF ?_);exact aX aq I I
end Go.Proofs.YtmpnheilfejcpaaGreatDoor
namespace Go.Proofs.YtmpnheilfejcpaaGreatDoor
open Go.aj Go.aj.kD Go.aj.eP
attribute [local irreducible] aj eJ b1 ch
theorem agf (l:List Int)(v:Int)(hlen:l.length≤9223372036854775807):
 bs Tryz.prog 192 [.ro (.ints .i64 l) 0 l.length,.int .i64 v] (.int .i64 (iz (qn v) l)):=by
 refine cf Tryz.f192 fun c aq bI=> ?_;refine bq ?_;refine cp (ι:=Nat) (fun k=>[(0,.ro (.ints .i64 l) 0 l.length),(1,.int .i64 v),(7,ag l.length),(8,ag k)]) (fun _=>[])
  (fun k=>k≤l.length∧(l.take k).any (qn v)=false) (fun k=>l.length-k) 0 ⟨aE,rfl,b7 _,rfl⟩ ?_
 intro k ⟨an,ig⟩;refine bh ?_;refine bm I (fun h=> ?_) (fun h=> ?_)
 ·have bO:k<l.length:=J;have tt:=Cu (qn v) l 0 k bO;refine bc ?_;refine bm I (fun ab=> ?_) (fun ab=> ?_)
  ·refine bc ?_;refine aX aq I ?_;have:=qz (qn v) l k ig an;rw [tQ l 0 k bO] at this;have ay:qn v (l.getD k 0)=true:=by simpa [qn] using ab
   simp only [iz,ay,gf] at this;rw [this];simp [gS]
  ·refine bo ?_;have ay:qn v (l.getD k 0)=false:=by simpa [qn] using ab
   refine b4 ⟨k+1,⟨J,by rw [tt,ig,ay];rfl⟩,J,aE,I⟩
 ·have bO:k=l.length:=J;subst bO;refine bo ?_;refine aX aq I ?_;have:=qz (qn v) l l.length ig an;rw [qj] at this;rw [this];rfl
theorem ano (l:List Int)(g:FuncId)(cw:List ak)(p:Int→Bool)(aw:cM.eM cw=true)(hlen:l.length≤9223372036854775807)(aF: ∀x∈l,bs Tryz.prog g ([.int .i64 x]++cw) (.bool (p x))):
 bs Tryz.prog 204 [.ro (.ints .i64 l) 0 l.length,.fn g cw] (.int .i64 (iz p l)):=by
 refine ch.qG (gl (P:=Tryz.prog) (fn:=Tryz.f204) I I af I (fun c aq bI=> ?_)) (fix:=fun _=>False) (fun _ h=>h) (by simp [cM.eM,cM,aw]) I;refine bq ?_;refine cp (ι:=Nat) (fun k=>[(0,.ro (.ints .i64 l) 0 l.length),(1,.fn g cw),(7,ag l.length),(8,ag k)]) (fun _=>[])
  (fun k=>k≤l.length∧(l.take k).any p=false) (fun k=>l.length-k) 0 ⟨aE,rfl,b7 _,rfl⟩ ?_
 intro k ⟨an,ig⟩;refine bh ?_;refine bm I (fun h=> ?_) (fun h=> ?_)
 ·have bO:k<l.length:=J;have tt:=Cu p l 0 k bO;refine bc ?_;refine aO I I I (aF _ (iR 0 bO)) (bF ?_);refine tV I (fun ab=> ?_) (fun ab=> ?_)
  ·refine bc ?_;refine aX aq I ?_;have:=qz p l k ig an;rw [tQ l 0 k bO] at this;simp only [iz,ab,gf] at this;rw [this];simp [gS]
  ·refine bo ?_;refine b4 ⟨k+1,⟨J,by rw [tt,ig,ab];rfl⟩,J,aE,I⟩
 ·have bO:k=l.length:=J;subst bO;refine bo ?_;refine aX aq I ?_;have:=qz p l l.length ig an;rw [qj] at this;rw [this];rfl
theorem VQ (l:List Int)(g:FuncId)(cw:List ak)(p:Int→Bool)(aw:cM.eM cw=true)(hlen:l.length≤9223372036854775807)(aF: ∀x∈l,bs Tryz.prog g ([.int .i64 x]++cw) (.bool (p x))):
 bs Tryz.prog 164 [.ro (.ints .i64 l) 0 l.length,.fn g cw] (.bool (l.any p)):=by refine ch.qG (gl (P:=Tryz.prog) (fn:=Tryz.f164) I I af I (fun c aq bI=> ?_)) (fix:=fun _=>False) (fun _ h=>h) (by simp [cM.eM,cM,aw]) I;refine bF ?_;refine aO I I I (ano l g cw p aw hlen aF) (fb ?_);refine aX aq I ?_;simp only [gS,C4]
theorem ann (l:List Int)(g:FuncId)(cw:List ak)(p:Int→Bool)(aw:cM.eM cw=true)(hlen:l.length≤9223372036854775807)(aF: ∀x∈l,bs Tryz.prog g ([.int .i64 x]++cw) (.bool (p x))):
 bs Tryz.prog 154 [.ro (.ints .i64 l) 0 l.length,.fn g cw] (.int .i64 (iz p l)):=by
 refine ch.qG (gl (P:=Tryz.prog) (fn:=Tryz.f154) I I af I (fun c aq bI=> ?_)) (fix:=fun _=>False) (fun _ h=>h) (by simp [cM.eM,cM,aw]) I;refine bq ?_;refine cp (ι:=Nat) (fun k=>[(0,.ro (.ints .i64 l) 0 l.length),(1,.fn g cw),(7,ag l.length),(8,ag k)]) (fun _=>[])
  (fun k=>k≤l.length∧(l.take k).any p=false) (fun k=>l.length-k) 0 ⟨aE,rfl,b7 _,rfl⟩ ?_
 intro k ⟨an,ig⟩;refine bh ?_;refine bm I (fun h=> ?_) (fun h=> ?_)
 ·have bO:k<l.length:=J;have tt:=Cu p l 0 k bO;refine bc ?_;refine aO I I I (aF _ (iR 0 bO)) (bF ?_);refine tV I (fun ab=> ?_) (fun ab=> ?_)
  ·refine bc ?_;refine aX aq I ?_;have:=qz p l k ig an;rw [tQ l 0 k bO] at this;simp only [iz,ab,gf] at this;rw [this];simp [gS]
  ·refine bo ?_;refine b4 ⟨k+1,⟨J,by rw [tt,ig,ab];rfl⟩,J,aE,I⟩
 ·have bO:k=l.length:=J;subst bO;refine bo ?_;refine aX aq I ?_;have:=qz p l l.length ig an;rw [qj] at this;rw [this];rfl
theorem aoq (l:List Int)(g:FuncId)(cw:List ak)(p:Int→Bool)(aw:cM.eM cw=true)(hlen:l.length≤9223372036854775807)(aF: ∀x∈l,bs Tryz.prog g ([.int .i64 x]++cw) (.bool (p x))):
 bs Tryz.prog 77 [.ro (.ints .i64 l) 0 l.length,.fn g cw] (.bool (l.any p)):=by refine ch.qG (gl (P:=Tryz.prog) (fn:=Tryz.f77) I I af I (fun c aq bI=> ?_)) (fix:=fun _=>False) (fun _ h=>h) (by simp [cM.eM,cM,aw]) I;refine bF ?_;refine aO I I I (ann l g cw p aw hlen aF) (fb ?_);refine aX aq I ?_;simp only [gS,C4]
def Io (e:Int):Bool:=decide (e≠0)
theorem acb (n:Int):bs Tryz.prog 78 [.int .i64 n] (.bool (Io n)):=by refine cf Tryz.f78 fun c aq bI=> ?_;refine bq ?_;refine aX aq I ?_;simp [gS,Io]
theorem Ln (l:List Int)(hlen:l.length≤1000):bs Tryz.prog 19 [.ro (.ints .i64 l) 0 l.length] (.bool (!(l.any Io))):=by refine cf Tryz.f19 fun c aq bI=> ?_;refine bF ?_;refine aO I I I (aoq l 78 [] Io I J (fun x _=>acb x)) (bo ?_);exact aX aq I I
end Go.Proofs.YtmpnheilfejcpaaGreatDoor
namespace Go.Proofs.YtmpnheilfejcpaaGreatDoor
open Go.aj Go.aj.dn Go.RowKit
open Go.aj.r7 (jM yM yx vf)
attribute [local irreducible] aj eJ b1 ch
theorem VU (s:List UInt8)(av:s.length≤9223372036854775807):bs Tryz.prog 157 [.str s] (.bool (vu s)):=by
 have bu:=akF s av;have aI:=akD (s:=s);have aw:vu s=(decide (s≠[]) && s.all dg && (decide (s.getD 0 0≠48)||decide (s.length=1))):=rfl;refine cf Tryz.f157 fun c aq bI=> ?_;generalize Am (u5 s)=u at*;generalize vu s=b at*;by_cases aU:s=[]
 ·subst aU;refine Cm ?_;refine aX aq I ?_;rw [aw];rfl
 have hlen:0<s.length:=zu.2 aU;refine fb ?_;refine gQ I I (fun U=> ?_) (fun U=>absurd aU U);refine c4 ?_;refine aO I I I bu (bc ?_);refine gQ I I (fun ab=> ?_) (fun ab=> ?_)
 ·have a8:s.all dg=true:=aI.1 ab;rw [fG aU,a8,mM,mM] at aw;refine Nk ?_;refine gQ I I (fun ay=> ?_) (fun ay=> ?_)
  ·have bf:decide (s.getD 0 0≠48)=true:=fG (fun e=>ay (by simp only [fE];rw [e];rfl));rw [bf,Bool.true_or] at aw;refine bc ?_;refine aX aq I ?_;rw [aw];rfl
  ·have bL:s.getD 0 0=48:=by simp only [fE] at ay;apply UInt8.toNat_inj.1;have:((s.getD 0 0).toNat:Int)=48:=J;show (s.getD 0 0).toNat=48;omega
   have bf:decide (s.getD 0 0≠48)=false:=fT (fun e=>e bL);rw [bf,Bq] at aw;refine bc ?_;refine aX aq I ?_;rw [aw];show ak.bool (decide ((s.length:Int)=1))=_;congr 1;rw [te];omega
 ·have a8:s.all dg=false:=by
   cases aB:s.all dg with
   |false=>rfl
   |true=>exact absurd (aI.2 aB) ab
  rw [a8,Bool.and_false,uA] at aw;refine uY ?_;refine aX aq I ?_;rw [aw];rfl
def DG (p:List UInt8×Int):ak:= .cn [.str p.1,.int .i64 p.2]
theorem Kh {a b k:Nat}(a8:(a6 a).length≤k)(al:(a6 b).length≤k):(a6 (a*b)).length≤k+k:=by have U:=jH (iS a);have ab:=jH (iS b);rw [hG] at U ab;refine oo ?_;rw [iI];refine Nat.mul_lt_mul'' (gL U (fF aT a8)) (gL ab (fF aT al))
theorem agH {a b k:Nat}(a8:(a6 a).length≤k)(al:(a6 b).length≤k):(a6 (a+b)).length≤k+1:=by have U:=jH (iS a);have ab:=jH (iS b);rw [hG] at U ab;refine oo ?_;have ay:B^(a6 a).length≤B^k:=fF aT a8;have bf:B^(a6 b).length≤B^k:=fF aT al;rw [ic];have:B^k*2≤B^k*B:=hz _ aT;omega
end Go.Proofs.YtmpnheilfejcpaaGreatDoor
namespace Go.aj
open Go.RowKit
theorem cY {G ea:Prop}(k:ea)(h:lu ea→G:=by intro k;(repeat (first|refine bU rfl rfl (bE rfl) ?_|refine bU rfl rfl (du rfl) ?_|refine bU rfl rfl (vc rfl rfl rfl) ?_|refine bU rfl rfl (tL rfl rfl rfl rfl) ?_|refine bU rfl rfl (hO rfl rfl rfl rfl rfl) ?_|refine bU rfl rfl (qU rfl rfl) ?_|refine bU rfl rfl (rR rfl rfl) ?_|refine bU rfl rfl (xi rfl rfl) ?_|refine bU rfl rfl (vF rfl) ?_|refine bU rfl rfl (lO rfl rfl) ?_|refine bU rfl rfl (fP rfl rfl rfl) ?_|refine bU rfl rfl (hK rfl rfl J) ?_|refine bU rfl rfl (pc rfl rfl J) ?_|refine bU rfl rfl (h8 rfl rfl rfl rfl hC J) ?_|refine bU rfl rfl (gd rfl rfl rfl rfl rfl hC J) ?_|refine bU rfl rfl (Fo rfl rfl rfl rfl nC) ?_|refine bU rfl rfl (Cx rfl rfl rfl rfl rfl nC) ?_|refine bU rfl rfl (iZ rfl rfl rfl rfl rfl rfl) ?_|refine bU rfl rfl (lo rfl rfl rfl rfl) ?_|refine bU rfl rfl (kC rfl) ?_|refine bU rfl rfl (o4 rfl) ?_|refine bU rfl rfl (de rfl rfl rfl rfl rfl rfl) ?_|refine bU rfl rfl (ln rfl rfl rfl rfl rfl rfl) ?_|refine bU rfl rfl (Jn rfl rfl rfl rfl (by first|(simp only [cT,cg];exact rfl)|exact rfl) J) ?_|refine bU rfl rfl (wS rfl rfl rfl rfl rfl rfl) ?_|refine bU rfl rfl (Ix rfl rfl rfl rfl rfl rfl rfl) ?_|refine bU rfl rfl (Oy rfl rfl rfl) ?_|refine bU rfl rfl (mw rfl rfl rfl) ?_|refine bU rfl rfl (Iw rfl rfl rfl rfl) ?_|refine bU rfl rfl (aiA rfl rfl rfl rfl) ?_|refine bU rfl rfl (o5 rfl rfl rfl h1 lg) ?_|refine bU rfl rfl (Fl rfl rfl rfl h1 rfl nC) ?_|refine bU rfl rfl (TK rfl J) ?_));exact k.out):G:=h ⟨k⟩
end Go.aj
namespace Go.Proofs.YtmpnheilfejcpaaGreatDoor
open Go.aj Go.aj.dn Go.aj.cX Go.RowKit
attribute [local irreducible] aj eJ b1 ch hc
def ef (x:Int):ak:= .agg [.bool (decide (x<0)),bB x.natAbs]
theorem yV (b:Bool)(n:Nat):bs Tryz.prog 150 [.bool b,bB n] (ef (k0 b n)):=by
 have aF:0<(a6 n).length↔n≠0:=As;have ad:ef (k0 b n)= .agg [.bool (b && decide (n≠0)),bB n]:=by unfold ef;rw [AK,PQ]
 rw [ad];refine cf Tryz.f150 fun c aq bI=> ?_;unfold bB at aq⊢;cases b
 ·refine uY ?_;refine dA (c':= .box [.bool false,.ro (.ints .u32 (a6 n)) 0 (a6 n).length]) I I I I I I I (bF ?_);exact aX aq I I
 ·refine uY ?_;have e:decide (0<((a6 n).length:Int))=decide (n≠0):=by rw [te,←aF];omega
  refine eE (c':= .box [.bool (decide (n≠0)),.ro (.ints .u32 (a6 n)) 0 (a6 n).length]) I I I I I fA I I (fun aG a7 aL bd=> ?_) ?_
  ·rw [aA (fw.1 aL),←e];rfl
  refine bF ?_;exact aX aq I I
theorem ahd (x y:Int):k0 (!(decide (x<0)==decide (y<0))) (x.natAbs*y.natAbs)=x*y:=by
 have h:(x*y).natAbs=x.natAbs*y.natAbs:=kh x y;unfold k0;rcases zl x 0 with ar|ar|ar<;>rcases zl y 0 with a1|a1|a1
 ·have:=Int.mul_pos_of_neg_of_neg ar a1;simp only [ar,a1];simp;omega
 ·subst a1;simp
 ·have:=Int.mul_neg_of_neg_of_pos ar a1;simp only [ar,show¬y<0 by omega];simp;omega
 ·subst ar;simp
 ·subst ar;simp
 ·subst ar;simp
 ·have:=Int.mul_neg_of_pos_of_neg ar a1;simp only [a1,show¬x<0 by omega];simp;omega
 ·subst a1;simp
 ·have:=Int.mul_pos ar a1;simp only [show¬x<0 by omega,show¬y<0 by omega];simp;omega
theorem pY (x y:Int)(ar:(a6 x.natAbs).length≤1000000)(a1:(a6 y.natAbs).length≤1000000):bs Tryz.prog 152 [ef x,ef y] (ef (x*y)):=by
 have U:=KO x.natAbs y.natAbs J J;have ab:=yV (!(decide (x<0)==decide (y<0))) (x.natAbs*y.natAbs);rw [ahd] at ab;refine cf Tryz.f152 fun c aq bI=> ?_;refine bc ?_;refine eg af ?_;refine eK (fuel:=1) [0,1,2,3,4,5,6,7,8,9,10] [(2,.ptr 0 0 0),(3,.ptr 1 0 0),(4,.ptr 2 0 0)] aE af aT I I ?_;refine cY ?_;refine dW I I I I I U ?_;refine dW I I I I I ab ?_;refine eI ?_;refine br 11 ?_;skip
 unfold ef bB;refine dA (c':= .box [.bool (decide (x*y<0)),.ro (.ints .u32 (a6 (x*y).natAbs)) 0 (a6 (x*y).natAbs).length]) I I I I I I I (bn ?_);refine dX af (bF ?_);exact aX aq I I
theorem ahx (x:Int):k0 (!decide (x<0)) x.natAbs= -x:=by
 unfold k0;by_cases h:x<0
 ·simp [h];omega
 ·simp [h];omega
theorem AR (x:Int):bs Tryz.prog 175 [ef x] (ef (-x)):=by
 have ab:=yV (!decide (x<0)) x.natAbs;rw [ahx] at ab;refine cf Tryz.f175 fun c aq bI=> ?_;refine bc ?_;refine aO I I I ab ?_;skip
 unfold ef;refine dA (c':= .box [.bool (decide (-x<0)),bB (-x).natAbs]) I I I I I I I (bF ?_);exact aX aq I I
theorem yN (x:Int):bs Tryz.prog 160 [ef x] (.int .i64 (kr x)):=by
 have aF:0<(a6 x.natAbs).length↔x.natAbs≠0:=As;unfold kr;refine cf Tryz.f160 fun c aq bI=> ?_;unfold ef bB;rcases zl x 0 with h|h|h
 ·have e:decide (x<0)=true:=fG h;rw [e];rw [aA h] at aq;refine bc ?_;refine bm I (fun aU=>absurd aU J) (fun aU=> ?_);refine bc ?_;exact aX aq I I
 ·subst h;rw [ax J,aA rfl] at aq;have jW:a6 (0:Int).natAbs=[]:=rA;rw [jW];refine bc ?_;exact aX aq I I
 ·have e:decide (x<0)=false:=fT J;rw [e];rw [ax J,ax J] at aq;refine bc ?_;refine bm I (fun aU=>absurd aU J) (fun aU=> ?_);refine bo ?_;exact aX aq I I
theorem ZH (x y:Int)(h:decide (x<0)=decide (y<0)):k0 (decide (x<0)) (x.natAbs+y.natAbs)=x+y:=by
 unfold k0;rw [te] at h;by_cases U:x<0
 ·simp [U];omega
 ·simp [U];omega
theorem ZI (x y:Int)(h: ¬decide (x<0)=decide (y<0))(ab:y.natAbs≤x.natAbs):k0 (decide (x<0)) (x.natAbs-y.natAbs)=x+y:=by
 unfold k0;rw [te] at h;by_cases U:x<0
 ·simp [U];omega
 ·simp [U];omega
theorem ZJ (x y:Int)(h: ¬decide (x<0)=decide (y<0))(ab: ¬y.natAbs≤x.natAbs):k0 (decide (y<0)) (y.natAbs-x.natAbs)=x+y:=by
 unfold k0;rw [te] at h;by_cases U:y<0
 ·simp [U];omega
 ·simp [U];omega
theorem YD {x y:Int}:0≤kc x y↔y≤x:=by
 unfold kc;split
 ·omega
 ·split<;>omega
theorem Qc (x y:Int)(ar:(a6 x.natAbs).length≤1000000)(a1:(a6 y.natAbs).length≤1000000):bs Tryz.prog 176 [ef x,ef y] (ef (x+y)):=by
 by_cases h:decide (x<0)=decide (y<0)
 ·have U:=ZF x.natAbs y.natAbs J J;have ab:=yV (decide (x<0)) (x.natAbs+y.natAbs);rw [ZH x y h] at ab;refine cf Tryz.f176 fun c aq bI=> ?_;unfold ef at aq⊢;repeat (first|refine cR ?_|refine b0 ?_|refine dh ?_|refine c5 rfl ?_|refine ao (hO rfl rfl rfl rfl rfl) ?_|refine ao (de rfl rfl rfl rfl rfl rfl) ?_|refine ao (PI rfl rfl rfl) ?_|refine vt rfl rfl ?_|refine mc rfl rfl rfl ?_)
  refine ds 9 (.bool true) I (aR.of_eq (by rw [h];simp)) (bo ?_);refine eg af ?_;refine eK (fuel:=1) [0,1,2,3,4,5,6,7] [(2,.ptr 0 0 0),(3,.ptr 1 0 0),(4,.ptr 2 0 0)] aE af aT I I ?_;refine cY ?_;refine dW I I I I I U ?_;refine dW I I I I I ab ?_;refine eI ?_;refine br 8 ?_;skip
  unfold ef;refine dA (c':= .box [.bool (decide (x+y<0)),bB (x+y).natAbs]) I I I I I I I (bn ?_);refine dX af (c4 ?_);exact aX aq I I
 ·have aU:=KK x.natAbs y.natAbs J J;by_cases aw:y.natAbs≤x.natAbs
  ·have U:=T7 x.natAbs y.natAbs aw J;have ab:=yV (decide (x<0)) (x.natAbs-y.natAbs);rw [ZI x y h aw] at ab;refine cf Tryz.f176 fun c aq bI=> ?_;unfold ef at aq⊢;repeat (first|refine cR ?_|refine b0 ?_|refine dh ?_|refine c5 rfl ?_|refine ao (hO rfl rfl rfl rfl rfl) ?_|refine ao (de rfl rfl rfl rfl rfl rfl) ?_|refine ao (PI rfl rfl rfl) ?_|refine vt rfl rfl ?_|refine mc rfl rfl rfl ?_)
   refine ds 9 (.bool false) I (aR.of_eq (by rw [beq_eq_false_iff_ne.2 h])) (bo ?_);refine aO I I I aU (cJ ?_);refine bm I (fun bL=> ?_) (fun bL=>absurd (YD.2 (Int.ofNat_le.2 aw)) bL);repeat (refine dh ?_)
   refine eg af ?_;refine eK (fuel:=1) [0,1,2,3,4,5,6,7] [(2,.ptr 0 0 0),(3,.ptr 1 0 0),(4,.ptr 2 0 0)] aE af aT I I ?_;refine cY ?_;refine dW I I I I I U ?_;refine dW I I I I I ab ?_;refine eI ?_;refine br 8 ?_;skip
   unfold ef;refine dA (c':= .box [.bool (decide (x+y<0)),bB (x+y).natAbs]) I I I I I I I (bn ?_);refine dX af (c4 ?_);exact aX aq I I
  ·have U:=T7 y.natAbs x.natAbs J J;have ab:=yV (decide (y<0)) (y.natAbs-x.natAbs);rw [ZJ x y h aw] at ab;refine cf Tryz.f176 fun c aq bI=> ?_;unfold ef at aq⊢;repeat (first|refine cR ?_|refine b0 ?_|refine dh ?_|refine c5 rfl ?_|refine ao (hO rfl rfl rfl rfl rfl) ?_|refine ao (de rfl rfl rfl rfl rfl rfl) ?_|refine ao (PI rfl rfl rfl) ?_|refine vt rfl rfl ?_|refine mc rfl rfl rfl ?_)
   refine ds 9 (.bool false) I (aR.of_eq (by rw [beq_eq_false_iff_ne.2 h])) (bo ?_);refine aO I I I aU (cJ ?_);refine bm I (fun bL=>absurd (Int.ofNat_le.1 (YD.1 bL)) aw) (fun bL=> ?_);refine bn ?_;refine eg af ?_;refine eK (fuel:=1) [0,1,2,3,4,5,6,7] [(2,.ptr 0 0 0),(3,.ptr 1 0 0),(4,.ptr 2 0 0)] aE af aT I I ?_;refine cY ?_;refine dW I I I I I U ?_;refine dW I I I I I ab ?_;refine eI ?_;refine br 8 ?_;skip
   unfold ef;refine dA (c':= .box [.bool (decide (x+y<0)),bB (x+y).natAbs]) I I I I I I I (bn ?_);refine dX af (bF ?_);exact aX aq I I
theorem agI {x:Int}{k:Nat}(h:(a6 x.natAbs).length≤k):(a6 (-x).natAbs).length≤k:=by rw [se];exact h
theorem Qe (x y:Int)(ar:(a6 x.natAbs).length≤1000000)(a1:(a6 y.natAbs).length≤1000000):bs Tryz.prog 201 [ef x,ef y] (ef (x-y)):=by
 have U:=AR y;have ab:=Qc x (-y) ar (agI a1);rw [show x+ -y=x-y from rfl] at ab;refine cf Tryz.f201 fun c aq bI=> ?_;refine bc ?_;refine eg af ?_;refine eK (fuel:=1) [0,1,2,3] [(2,.ptr 0 0 0),(3,.ptr 1 0 0),(4,.ptr 2 0 0)] aE af aT I I ?_;refine cY ?_;refine dW I I I I I U ?_;refine dW I I I I I ab ?_;refine eI ?_;refine br 4 ?_;skip
 unfold ef;refine dA (c':= .box [.bool (decide (x-y<0)),bB (x-y).natAbs]) I I I I I I I (bn ?_);refine dX af (bF ?_);exact aX aq I I
theorem YV (x y:Int)(ar:(a6 x.natAbs).length≤1000000)(a1:(a6 y.natAbs).length≤1000000):bs Tryz.prog 153 [ef x,ef y] (.int .i64 (kr (x-y))):=by
 have U:=Qe x y ar a1;have ab:=yN (x-y);refine cf Tryz.f153 fun c aq bI=> ?_;refine bc ?_;refine aO I I I U ?_;skip
 refine aO I I I ab (bF ?_);exact aX aq I I
theorem P0 (n:Int)(h: -9223372036854775808≤n∧n<9223372036854775808):bs Tryz.prog 142 [.int .i64 n] (ef n):=by
 refine cf Tryz.f142 fun c aq bI=> ?_;rcases Int.lt_or_le n 0 with aI|aI
 ·have U:=FQ n.natAbs J;refine bh ?_;refine bm I (fun _=> ?_) (fun aU=>absurd aI aU);refine bq ?_;refine ao (TK I J) ?_;refine bP 7 (.int .i64 ((n.natAbs-1:Nat):Int)) I (aR.of_eq (congrArg _ J)) ?_;refine ao (hb (m:=n.natAbs-1) I I I eO J) ?_;refine ao (vx (m:=n.natAbs-1) (n:=1) I I eO J) ?_;refine bP 9 (.int .u64 ((n.natAbs:Nat):Int)) I (aR.of_eq (congrArg _ J)) ?_;skip
  refine aO I I I U ?_;repeat (refine ao (iZ rfl rfl rfl rfl rfl rfl) ?_)
  refine dA (c':= .box [.bool true,bB n.natAbs]) I I I I I I I (c4 ?_);refine aX aq I ?_;unfold ef;rw [show decide (n<0)=true from fG aI];rfl
 ·have U:=FQ n.natAbs J;refine bh ?_;refine bm I (fun aU=>absurd aU J) (fun aU=> ?_);refine bn ?_;refine bP 12 (.int .i64 ((n.natAbs:Nat):Int)) I (aR.of_eq (congrArg _ J)) ?_;refine ao (hb (m:=n.natAbs) I I I eO J) ?_;skip
  refine aO I I I U ?_;repeat (refine ao (iZ rfl rfl rfl rfl rfl rfl) ?_)
  refine dA (c':= .box [.bool false,bB n.natAbs]) I I I I I I I (bF ?_);refine aX aq I ?_;unfold ef;rw [show decide (n<0)=false from fT J];rfl
def b9 (q:Rat):ak:= .agg [.bool (decide (q.num<0)),bB q.num.natAbs,bB q.den]
theorem Gj (n:Nat):ef (n:Int)= .agg [.bool false,bB n]:=by unfold ef;rw [show decide ((n:Int)<0)=false from fT J,k4]
theorem aaq {x y z:Int}(h:z<0↔x≠0∧((x<0∧ ¬y<0)∨(¬x<0∧y<0)))(bw:x=0→z=0):k0 (!(decide (x<0)==decide (y<0))) z.natAbs=z:=by
 unfold k0;by_cases U:x<0<;>by_cases ab:y<0
 ·simp [U,ab];have: ¬z<0:=fun q=>by have:=h.1 q;omega
  omega
 ·simp [U,ab];have:z<0:=h.2 J;omega
 ·simp [U,ab];rcases Int.lt_or_le z 0 with q|q
  ·omega
  ·have:x=0:=by
    rcases zl x 0 with w|w|w
    ·exact absurd w U
    ·exact w
    ·exact absurd (h.2 ⟨J,.inr ⟨U,ab⟩⟩) J
   have:=bw this;omega
 ·simp [U,ab];have: ¬z<0:=fun q=>by have:=h.1 q;omega
  omega
theorem acs {a b k:Nat}(a8:(a6 a).length≤k)(al:(a6 b).length≤k):(a6 (Nat.gcd a b)).length≤k:=by
 rcases n2 a with h|h
 ·subst h;rw [Nat.gcd_zero_left];exact al
 ·exact I5 (Nat.gcd_le_left b h) a8
theorem Di (n d:Int)(hd:d≠0)(aI:(a6 n.natAbs).length≤1000000)(oT:(a6 d.natAbs).length≤1000000):bs Tryz.prog 141 [ef n,ef d] (b9 (Rat.divInt n d)):=by
 obtain ⟨aH,aJ,bR⟩:=N9 n d hd;have c2:=Qy n.natAbs d.natAbs aI oT;have xQ:=acs aI oT;have Sl:0<Nat.gcd n.natAbs d.natAbs:=Nat.gcd_pos_of_pos_right _ J;have U:=Du n.natAbs _ Sl aI xQ;have ab:=Du d.natAbs _ Sl oT xQ;have ay:=yV (!(decide (n<0)==decide (d<0))) (Rat.divInt n d).num.natAbs;rw [aaq bR (fun aU=>by rw [aU,Rat.zero_divInt];rfl)] at ay;rw [←aH] at U;rw [←aJ] at ab;refine cf Tryz.f141 fun c aq bI=> ?_;refine bc ?_;refine aO I I I c2 (bo ?_);refine aO I I I U (bo ?_);refine aO I I I ab ?_;repeat (first|refine ao (bE rfl) ?_|refine ao (du rfl) ?_|refine cR ?_|refine b0 ?_|refine dh ?_|refine c5 rfl ?_|refine ao (hO rfl rfl rfl rfl rfl) ?_|refine ao (nG rfl rfl) ?_|refine ao (de rfl rfl rfl rfl rfl rfl) ?_|refine ao (Oy rfl rfl rfl) ?_)
 refine aO I I I ay (fb ?_);refine dA (c':= .box [.bool (decide ((Rat.divInt n d).num<0)),bB (Rat.divInt n d).num.natAbs,bB (Rat.divInt n d).den]) I I I I I I I (bF ?_);exact aX aq I I
def ga (k:Nat)(q:Rat):Prop:=(a6 q.num.natAbs).length≤k∧(a6 q.den).length≤k
theorem w3 {x y:Int}{k:Nat}(ar:(a6 x.natAbs).length≤k)(a1:(a6 y.natAbs).length≤k):(a6 (x*y).natAbs).length≤k+k:=by rw [kh];exact Kh ar a1
theorem XF {x y:Int}{k:Nat}(ar:(a6 x.natAbs).length≤k)(a1:(a6 y.natAbs).length≤k):(a6 (x+y).natAbs).length≤k+1:=
 I5 (Int.natAbs_add_le x y) (agH ar a1)
theorem abd (q:Rat):(q.den:Int)≠0:=by have:=q.den_nz;omega
theorem Dk (p q:Rat)(aF:ga 100000 p)(aB:ga 100000 q):bs Tryz.prog 132 [b9 p,b9 q] (b9 (p+q)):=by
 have fW:(a6 (q.den:Int).natAbs).length≤100000:=aB.2;have fK:(a6 (p.den:Int).natAbs).length≤100000:=aF.2;have U:=pY p.num q.den (by have:=aF.1;omega) J;have ab:=pY q.num p.den (by have:=aB.1;omega) J;have m1:=w3 aF.1 fW;have m2:=w3 aB.1 fK;have ay:=Qc (p.num*q.den) (q.num*p.den) J J;have bf:=KO p.den q.den (by have:=aF.2;omega) (by have:=aB.2;omega);have m3:=XF m1 m2;have m4:=Kh aF.2 aB.2;have bL:=Di (p.num*q.den+q.num*p.den) ((p.den*q.den:Nat):Int) (by have:=DX p.den_nz q.den_nz;omega) J (by rw [k4];omega);rw [Gj,O7] at bL;rw [Gj] at U ab;refine cf Tryz.f132 fun c aq bI=> ?_;refine bc ?_;refine eg af ?_;refine eK (fuel:=1) [0,1,2,3,4,5,6,7,8,9,10,11,12,13,14,15,16,17,18,19] [(2,.ptr 0 0 0),(3,.ptr 1 0 0),(4,.ptr 2 0 0)] aE af aT I I ?_;refine cY ?_;refine dW I I I I I U ?_;refine cY ?_;refine dW I I I I I ab ?_;refine dW I I I I I ay ?_;refine cY ?_;refine dW I I I I I bf ?_;refine cY ?_;refine dW I I I I I bL ?_;refine eI ?_;refine br 20 ?_;skip
 unfold b9;refine dA (c':= .box [.bool (decide ((p+q).num<0)),bB (p+q).num.natAbs,bB (p+q).den]) I I I I I I I (bn ?_);refine dX af (bF ?_);exact aX aq I I
theorem AT (p q:Rat)(aF:ga 100000 p)(aB:ga 100000 q):bs Tryz.prog 99 [b9 p,b9 q] (b9 (p*q)):=by
 have U:=pY p.num q.num (by have:=aF.1;omega) (by have:=aB.1;omega);have m1:=w3 aF.1 aB.1;have bf:=KO p.den q.den (by have:=aF.2;omega) (by have:=aB.2;omega);have m4:=Kh aF.2 aB.2;have bL:=Di (p.num*q.num) ((p.den*q.den:Nat):Int) (by have:=DX p.den_nz q.den_nz;omega) J (by rw [k4];omega);rw [Gj,XL] at bL;refine cf Tryz.f99 fun c aq bI=> ?_;refine bc ?_;refine eg af ?_;refine eK (fuel:=1) [0,1,2,3,4,5,6,7,8,9,10,11] [(2,.ptr 0 0 0),(3,.ptr 1 0 0),(4,.ptr 2 0 0)] aE af aT I I ?_;refine cY ?_;refine dW I I I I I U ?_;refine cY ?_;refine dW I I I I I bf ?_;refine cY ?_;refine dW I I I I I bL ?_;refine eI ?_;refine br 12 ?_;skip
 unfold b9;refine dA (c':= .box [.bool (decide ((p*q).num<0)),bB (p*q).num.natAbs,bB (p*q).den]) I I I I I I I (bn ?_);refine dX af (bF ?_);exact aX aq I I
theorem aiz (p q:Rat)(aF:ga 100000 p)(aB:ga 100000 q)(aU:q≠0):bs Tryz.prog 133 [b9 p,b9 q] (b9 (p/q)):=by
 have fW:(a6 (q.den:Int).natAbs).length≤100000:=aB.2;have fK:(a6 (p.den:Int).natAbs).length≤100000:=aF.2;have U:=pY p.num q.den (by have:=aF.1;omega) J;have ab:=pY q.num p.den (by have:=aB.1;omega) J;have m1:=w3 aF.1 fW;have m2:=w3 aB.1 fK;have aI:q.num≠0:=fun h=>aU (Rat.num_eq_zero.1 h);have bL:=Di (p.num*q.den) (q.num*p.den) (Int.mul_ne_zero aI (abd p)) J J;rw [Xx p q aU] at bL;rw [Gj] at U ab;refine cf Tryz.f133 fun c aq bI=> ?_;refine bc ?_;refine eg af ?_;refine eK (fuel:=1) [0,1,2,3,4,5,6,7,8,9,10,11,12] [(2,.ptr 0 0 0),(3,.ptr 1 0 0),(4,.ptr 2 0 0)] aE af aT I I ?_;refine cY ?_;refine dW I I I I I U ?_;refine cY ?_;refine dW I I I I I ab ?_;refine dW I I I I I bL ?_;refine eI ?_;refine br 13 ?_;skip
 unfold b9;refine dA (c':= .box [.bool (decide ((p/q).num<0)),bB (p/q).num.natAbs,bB (p/q).den]) I I I I I I I (bn ?_);refine dX af (bF ?_);exact aX aq I I
theorem Y5 (p q:Rat)(aF:ga 100000 p)(aB:ga 100000 q):bs Tryz.prog 76 [b9 p,b9 q] (.int .i64 (uC p q)):=by have fW:(a6 (q.den:Int).natAbs).length≤100000:=aB.2;have fK:(a6 (p.den:Int).natAbs).length≤100000:=aF.2;have U:=pY p.num q.den (by have:=aF.1;omega) J;have ab:=pY q.num p.den (by have:=aB.1;omega) J;have m1:=w3 aF.1 fW;have m2:=w3 aB.1 fK;have bL:=YV (p.num*q.den) (q.num*p.den) J J;rw [ajI p q] at bL;rw [Gj] at U ab;refine cf Tryz.f76 fun c aq bI=> ?_;refine bc ?_;refine eg af ?_;refine eK (fuel:=0) [0,1,2,3,4,5,6,7,8,9,10,11,12,13] [(2,.ptr 0 0 0),(3,.ptr 1 0 0)] aE af aT I I ?_;refine cY ?_;refine dW I I I I I U ?_;refine cY ?_;refine dW I I I I I ab ?_;refine dW I I I I I bL ?_;refine cY ?_;refine eI ?_;refine dX af (bF ?_);exact aX aq I I
theorem J7 (p:Rat):bs Tryz.prog 83 [b9 p] (.int .i64 (kr p.num)):=by have U:=yN p.num;refine cf Tryz.f83 fun c aq bI=> ?_;refine bc ?_;refine aO I I I U (bF ?_);exact aX aq I I
theorem Y6 (p:Rat):bs Tryz.prog 101 [b9 p] (b9 (-p)):=by
 have U:=AR p.num;refine cf Tryz.f101 fun c aq bI=> ?_;refine bc ?_;refine eg af ?_;refine eK (fuel:=1) [0,1,2,3,4,5] [(1,.ptr 0 0 0),(2,.ptr 1 0 0)] aE af aT I I ?_;refine cY ?_;refine dW I I I I I U ?_;refine cY ?_;refine eI ?_;refine br 6 ?_;skip
 refine dA (c':= .box [.bool (decide ((-p).num<0)),bB (-p).num.natAbs,bB (-p).den]) I I I I I I I (bn ?_);refine dX af (bF ?_);exact aX aq I I
end Go.Proofs.YtmpnheilfejcpaaGreatDoor
namespace Go.Proofs.YtmpnheilfejcpaaGreatDoor
open Go.aj Go.aj.dn Go.aj.cX Go.RowKit
attribute [local irreducible] aj eJ b1 ch hc
open Go.aj.r7 (iq Ph)
theorem XM:bB 1= .ro (.ints .u32 [1]) 0 1:=by unfold bB;rw [F4];rfl
theorem aik (z:Int):b9 (z:Rat)= .agg [.bool (decide (z<0)),bB z.natAbs,bB 1]:=rfl
theorem AZ (n:Int)(h: -9223372036854775808≤n∧n<9223372036854775808):bs Tryz.prog 113 [.int .i64 n] (b9 (n:Rat)):=by have U:=P0 n h;refine cf Tryz.f113 fun c aq bI=> ?_;refine bh ?_;refine aO I I I U ?_;unfold ef;refine fb ?_;refine dA (c':= .box [.bool (decide (n<0)),bB n.natAbs,.ro (.ints .u32 [1]) 0 1]) I I I I I I I (bF ?_);refine aX aq I ?_;rw [aik,XM];rfl
theorem anl (s:List UInt8)(b:Int):bs Tryz.prog 247 [.str s,.int .u8 b] (.int .i64 (Lib.indexByte s b.toNat.toUInt8)):=by refine cf Tryz.f247 fun c aq bI=> ?_;refine bF ?_;refine ao (amu I I I I af af af af) (bF ?_);exact aX aq I I
theorem agh (s:List UInt8)(b:UInt8):bs Tryz.prog 226 [.str s,.str [b]] (.int .i64 (Lib.indexByte s b)):=by
 refine cf Tryz.f226 fun c aq bI=> ?_;refine bc ?_;refine bm I (fun h=> ?_) (fun h=> ?_)
 ·refine bc ?_;refine aX aq I ?_;subst h;simp [gS,Lib.indexByte]
 refine uX ?_;refine aO I I I (anl s b.toNat) (bc ?_);refine aX aq I ?_;simp [gS]
theorem alP (l:List UInt8)(b:UInt8):Lib.indexByte l b<l.length:=by
 induction l with
 |nil=>simp [Lib.indexByte]
 |cons c r ba=>
  rw [Lib.indexByte];simp only [gK];split
  ·omega
  ·split
   ·omega
   ·omega
theorem aaY (s:List UInt8)(b:UInt8)(h:s.length≤9223372036854775807):bs Tryz.prog 198 [.str s,.str [b]] (.cn [.str (iq b s).1,.str (iq b s).2.1,.bool (iq b s).2.2]):=by
 have aw:=Ph b s;have bD:=alP s b;have lb:=Lib.indexByte_ge s b;have ci:=agh s b;refine cf Tryz.f198 fun c aq bI=> ?_;generalize Lib.indexByte s b=i at*;refine bF ?_;refine aO I I I ci (cJ ?_);refine bm I (fun aU=> ?_) (fun aU=> ?_)
 ·rw [aA aU] at aw;rw [aw] at aq;have so:([b]:List UInt8).length=1:=rfl;have wh:(i+1).toNat=i.toNat+1:=J;repeat (refine dh ?_)
  refine Ax af af I (Cm ?_);refine aX aq I ?_;simp [gS,wh];exact kI bX
 ·rw [ax aU] at aw;rw [aw] at aq;refine bn ?_;exact aX aq I I
theorem fH (s:List UInt8)(b:UInt8)(h:s.length≤9223372036854775807):bs Tryz.prog 149 [.str s,.str [b]] (.cn [.str (iq b s).1,.str (iq b s).2.1,.bool (iq b s).2.2]):=by have ci:=aaY s b h;refine cf Tryz.f149 fun c aq bI=> ?_;generalize iq b s=q at*;refine bF ?_;refine aO I I I ci (c4 ?_);exact aX aq I I
theorem aaZ (s p:List UInt8)(av:s.length≤9223372036854775807)(aF:p.length≤9223372036854775807):bs Tryz.prog 197 [.str s,.str p] (.cn [.str (if qY s p then s.drop p.length else s),.bool (qY s p)]):=by
 have U:=Y3 s p av aF;refine cf Tryz.f197 fun c aq bI=> ?_;by_cases h:qY s p=true
 ·have hle:p.length≤s.length:=by unfold qY at h;exact (DR h).1
  rw [h] at U aq;refine bF ?_;refine aO I I I U (Cm ?_);refine aX aq I ?_;simp only [gS,cg];rw [kI bX];rfl
 ·rw [td] at h;rw [h] at U aq;refine bF ?_;refine aO I I I U (bo ?_);exact aX aq I I
theorem Lf (s p:List UInt8)(av:s.length≤9223372036854775807)(aF:p.length≤9223372036854775807):bs Tryz.prog 148 [.str s,.str p] (.cn [.str (if qY s p then s.drop p.length else s),.bool (qY s p)]):=by have U:=aaZ s p av aF;refine cf Tryz.f148 fun c aq bI=> ?_;generalize qY s p=b at*;refine bF ?_;refine aO I I I U (c4 ?_);exact aX aq I I
end Go.Proofs.YtmpnheilfejcpaaGreatDoor
namespace Go.Proofs.YtmpnheilfejcpaaGreatDoor
open Go.aj Go.aj.dn Go.aj.cX Go.RowKit
attribute [local irreducible] aj eJ b1 ch hc
open Go.aj.r7 (iq Ph Xu)
theorem Y2 (s:List UInt8):qY s [45]=jc s:=by
 unfold qY jc;cases s with
 |nil=>rfl
 |cons c r=>simp
theorem Xp (s:List UInt8):(pe s).length≤s.length:=by
 unfold pe;split
 ·simp
 ·exact bT _
theorem apa (s:List UInt8):(kA s).length≤s.length∧(kz s).length≤s.length:=by have h:=Xu 47 (pe s);have ab:=Xp s;unfold kA kz;omega
theorem Rl (s:List UInt8)(av:s.length≤9223372036854775807):bs Tryz.prog 148 [.str s,.str [45]] (.cn [.str (pe s),.bool (jc s)]):=by have h:=Lf s [45] av aT;rw [Y2] at h;exact h
theorem Rk (s:List UInt8)(av:s.length≤9223372036854775807):bs Tryz.prog 149 [.str (pe s),.str [47]] (.cn [.str (kA s),.str (kz s),.bool (nO s)]):=
 fH (pe s) 47 (dN (Xp s) av)
theorem C6 (s:List UInt8)(av:s.length≤9223372036854775807)(h:jO s=0):bs Tryz.prog 75 [.str s] (b9 (cE s)):=by
 have aF:=FJ h;have U:=Rl s J;have ab:=Rk s av;have ay:=Kp (kA s) aF.tm.2.1 (by have:=aF.h3;omega);have bf:=yV (jc s) (ej 0 (kA s));rw [←aF.num] at bf;unfold b9;rw [aF.den];cases e:nO s
 ·rw [e] at ab;rw [Dg e,XM];refine cf Tryz.f75 fun c aq bI=> ?_;refine bh ?_;refine aO I I I U (c4 ?_);refine aO I I I ab (c4 ?_);refine aO I I I ay ?_;skip
  refine aO I I I bf ?_;unfold ef;refine fb ?_;refine dA (c':= .box [.bool (decide ((cE s).num<0)),bB (cE s).num.natAbs,.ro (.ints .u32 [1]) 0 1]) I I I I I I I (bc ?_);refine dA (c':= .box [.bool (decide ((cE s).num<0)),bB (cE s).num.natAbs,.ro (.ints .u32 [1]) 0 1]) I I I I I I I (bF ?_);exact aX aq I I
 ·rw [e] at ab;rw [C0 e];have bL:=Kp (kz s) (aF.q9 e).1.2.1 (by have:=aF.Ij;omega);refine cf Tryz.f75 fun c aq bI=> ?_;refine bh ?_;refine aO I I I U (c4 ?_);refine aO I I I ab (c4 ?_);refine aO I I I ay ?_;skip
  refine aO I I I bf ?_;unfold ef;refine fb ?_;refine dA (c':= .box [.bool (decide ((cE s).num<0)),bB (cE s).num.natAbs,.ro (.ints .u32 [1]) 0 1]) I I I I I I I (bo ?_);refine aO I I I bL (oi ?_);refine dA (c':= .box [.bool (decide ((cE s).num<0)),bB (cE s).num.natAbs,bB (ej 0 (kz s))]) I I I I I I I (bF ?_);exact aX aq I I
theorem aiB (q:Rat)(aB:ga 100000 q):bs Tryz.prog 182 [b9 q] (.str (dm q)):=by
 have U:=KA q.num.natAbs (by have:=aB.1;omega);have ab:=Tz q.den;have ay:=KA q.den (by have:=aB.2;omega);unfold dm;have fW:=Ft aB.1 aT;have fK:=Ft aB.2 aT;refine cf Tryz.f182 fun c aq bI=> ?_;by_cases aI:q.num<0<;>by_cases hd:q.den=1
 ·rw [aA aI,aA hd] at aq;rw [fG hd] at ab;unfold b9;rw [fG aI];refine bc ?_;refine aO I I I U (bo ?_);refine ao (AE I I (by show ([45]:List UInt8).length+_≤_;simp only [gK,lv,c8];omega)) (bo ?_);refine aO I I I ab (bo ?_);refine aX aq I ?_;simp [gS]
 ·rw [aA aI,ax hd] at aq;rw [fT hd] at ab;unfold b9;rw [fG aI];refine bc ?_;refine aO I I I U (bo ?_);refine ao (AE I I (by show ([45]:List UInt8).length+_≤_;simp only [gK,lv,c8];omega)) (bo ?_);refine aO I I I ab (bo ?_);refine aO I I I ay ?_;skip
  refine ao (AE I I (by show ([47]:List UInt8).length+_≤_;simp only [gK,lv,c8];omega)) ?_;refine ao (AE (b:=47::Lib.decDigits q.den) I I (by simp only [gK,lv,c8];omega)) (bF ?_);refine aX aq I ?_;simp [gS]
 ·rw [ax aI,aA hd] at aq;rw [fG hd] at ab;unfold b9;rw [fT aI];refine bc ?_;refine aO I I I U (bo ?_);refine aO I I I ab (bo ?_);refine aX aq I ?_;simp [gS]
 ·rw [ax aI,ax hd] at aq;rw [fT hd] at ab;unfold b9;rw [fT aI];refine bc ?_;refine aO I I I U (bo ?_);refine aO I I I ab (bo ?_);refine aO I I I ay ?_;skip
  refine ao (AE I I (by show ([47]:List UInt8).length+_≤_;simp only [gK,lv,c8];omega)) ?_;refine ao (AE (b:=47::Lib.decDigits q.den) I I (by simp only [gK,lv,c8];omega)) (bF ?_);refine aX aq I ?_;simp [gS]
end Go.Proofs.YtmpnheilfejcpaaGreatDoor
namespace Go.Proofs.YtmpnheilfejcpaaGreatDoor
open Go.aj Go.aj.dn Go.aj.cX Go.RowKit
attribute [local irreducible] aj eJ b1 ch hc
theorem YA {n k m:Nat}(h:k<(a6 n).length)(hm:m≤9*k):m<(Lib.decDigits n).length:=by
 rcases gz m (Lib.decDigits n).length with q|q
 ·exact q
 exfalso;have U:=yE n;have ab:10^(Lib.decDigits n).length≤10^(9*k):=fF aT J;have ay:10^(9*k)≤B^k:=by rw [Nat.pow_mul];exact xB aT k
 have bf: ¬n<B^k:=fun bL=>by have:=oo bL;omega
 omega
theorem P9 (q:Rat)(aB:ga 100000 q):bs Tryz.prog 181 [b9 q,.int .i64 2000] (.bool (eS q)):=by
 have U:=KA q.num.natAbs (by have:=aB.1;omega);have ay:=KA q.den (by have:=aB.2;omega);have fW:=Ft aB.1 aT;have fK:=Ft aB.2 aT;have g1:=aB.1;have g2:=aB.2;have ei:= @YA q.num.natAbs 224 2000;have ew:= @YA q.den 224 2000;unfold eS;refine cf Tryz.f181 fun c aq bI=> ?_;unfold b9;unfold bB at U ay⊢;refine uZ ?_;refine bm I (fun aU=> ?_) (fun aU=> ?_)
 ·refine c4 ?_;refine aX aq I ?_;have bL:224<(a6 q.num.natAbs).length∨224<(a6 q.den).length:=by
   split at aU<;>omega
  have dz: ¬((Lib.decDigits q.num.natAbs).length≤2000∧(Lib.decDigits q.den).length≤2000):=by
   rcases bL with bL|bL
   ·have:=ei bL aT;omega
   ·have:=ew bL aT;omega
  rw [←Bool.decide_and,fT dz];rfl
 ·refine bo ?_;refine aO I I I U (fb ?_);refine gQ I I (fun bL=> ?_) (fun bL=> ?_)
  ·refine bo ?_;refine aO I I I ay (fb ?_);refine aX aq I ?_;rw [show decide ((Lib.decDigits q.num.natAbs).length≤2000)=true from fG J,mM];show ak.bool _=ak.bool _;rw [show decide (((Lib.decDigits q.den).length:Int)≤2000)=decide ((Lib.decDigits q.den).length≤2000) from by rw [te];omega]
  ·refine bc ?_;refine aX aq I ?_;rw [show decide ((Lib.decDigits q.num.natAbs).length≤2000)=false from fT J,uA];rfl
theorem Kk (q:Rat)(aB:ga 100000 q)(h:eS q=true):bs Tryz.prog 96 [b9 q] (.cn [.str (dm q),.int .i64 0]):=by have U:=P9 q aB;have ab:=aiB q aB;rw [h] at U;refine cf Tryz.f96 fun c aq bI=> ?_;refine bc ?_;refine aO I I I U (bc ?_);refine aO I I I ab (bF ?_);exact aX aq I I
theorem QA (q:Rat)(aB:ga 100000 q)(h:eS q=false):bs Tryz.prog 96 [b9 q] (.cn [.str [],.int .i64 2]):=by have U:=P9 q aB;rw [h] at U;refine cf Tryz.f96 fun c aq bI=> ?_;refine bc ?_;refine aO I I I U (bo ?_);exact aX aq I I
theorem QB (q:Rat)(aB:ga 100000 q):bs Tryz.prog 96 [b9 q] (DG (qb q)):=by
 unfold qb;cases h:eS q
 ·exact QA q aB h
 ·exact Kk q aB h
theorem WN (s:List UInt8)(av:s.length≤9223372036854775807):bs Tryz.prog 82 [.str s] (.int .i64 (jO s)):=by
 have U:=Rl s J;have ab:=Rk s av;obtain ⟨h3,Ij⟩:=apa s;have ay:=VU (kA s) J;have bf:=VU (kz s) J;have tm:= @CD (kA s);have q9:= @CD (kz s);unfold jO;generalize kA s=n at*;generalize kz s=d at*;generalize nO s=ok at*;generalize jc s=ye at*;generalize pe s=b at*;generalize vu n=p at*;generalize vu d=q at*;refine cf Tryz.f82 fun c aq bI=> ?_;refine bF ?_;refine aO I I I U (c4 ?_);refine aO I I I ab ?_;refine eD ?_;by_cases uO:p=false∨(ok=true∧q=false)∨(ye=true∧n=[48])
 ·rw [aA uO] at aq;cases p
  ·refine bF ?_;refine aO I I I ay (Cm ?_);exact aX aq I I
  ·cases ok
   ·obtain ⟨tz,aI⟩:ye=true∧n=[48]:=by simpa using uO
    subst tz;subst aI;refine bF ?_;refine aO I I I ay (bc ?_);exact aX aq I I
   ·cases q
    ·refine bF ?_;refine aO I I I ay (bo ?_);refine aO I I I bf (Cm ?_);exact aX aq I I
    ·obtain ⟨tz,aI⟩:ye=true∧n=[48]:=by simpa using uO
     subst tz;subst aI;refine bF ?_;refine aO I I I ay (bo ?_);refine aO I I I bf (bc ?_);exact aX aq I I
 rw [ax uO] at aq;apply kQ (H:=[]) [(5,.str n),(6,.str d),(7,.bool ok)]
 ·intro fin;cases p
  ·exact absurd (.inl I) uO
  cases ok
  ·cases ye
   ·refine bF ?_;refine aO I I I ay ?_;refine eD ?_;exact fin _ aE
   ·refine bF ?_;refine aO I I I ay ?_;refine eD ?_;refine bm I (fun aU=>absurd (.inr (.inr ⟨I,aU⟩)) uO) (fun aU=> ?_);refine eD ?_;exact fin _ aE
  ·cases q
   ·exact absurd (.inr (.inl ⟨I,I⟩)) uO
   cases ye
   ·refine bF ?_;refine aO I I I ay (bo ?_);refine aO I I I bf ?_;refine eD ?_;exact fin _ aE
   ·refine bF ?_;refine aO I I I ay (bo ?_);refine aO I I I bf ?_;refine eD ?_;refine bm I (fun aU=>absurd (.inr (.inr ⟨I,aU⟩)) uO) (fun aU=> ?_);refine eD ?_;exact fin _ aE
 by_cases au:2000<n.length∨2000<d.length
 ·rw [aA au] at aq;refine bc ?_;refine gQ I I (fun bL=> ?_) (fun bL=> ?_)
  ·refine bc ?_;exact aX aq I I
  ·refine bc ?_;refine bm I (fun aU=> ?_) (fun aU=>absurd au J);refine c4 ?_;exact aX aq I I
 rw [ax au] at aq;refine bc ?_;refine gQ I I (fun bL=>absurd au J) (fun bL=> ?_);refine bc ?_;refine bm I (fun aU=>absurd au J) (fun aU=> ?_);cases ok
 ·rw [ax (fun h=>tk h.1)] at aq;refine uY ?_;exact aX aq I I
 have aF:p=true:=by cases p;exact absurd (.inl rfl) uO;rfl
 have aB:q=true:=by cases q;exact absurd (.inr (.inl ⟨rfl,rfl⟩)) uO;rfl
 have dk:=tm.1 aF;have dO:=q9.1 aB;have dz:=Kp n dk.2.1 J;have fx:=Kp d dO.2.1 J;have v1:(a6 (ej 0 n)).length≤2000:=KC dk J;have v2:(a6 (ej 0 d)).length≤2000:=KC dO J;have oR:=Qy (ej 0 n) (ej 0 d) J J;have k8:=Tz (Nat.gcd (ej 0 n) (ej 0 d));refine bc ?_;refine gQ I I (fun Eg=> ?_) (fun Eg=> ?_)
 ·rw [aA ⟨rfl,.inl Eg⟩] at aq;refine bc ?_;exact aX aq I I
 ·refine bc ?_;refine gQ I I (fun Hm=> ?_) (fun Hm=> ?_)
  ·rw [aA ⟨rfl,.inr (.inl Hm)⟩] at aq;refine bc ?_;exact aX aq I I
  ·by_cases c2:Nat.gcd (ej 0 n) (ej 0 d)=1
   ·rw [fG c2] at k8;rw [ax (fun h=>by rcases h.2 with e|e|e;exact Eg e;exact Hm e;exact e c2)] at aq;refine c4 ?_;refine aO I I I dz (c4 ?_);refine aO I I I fx ?_;repeat (refine kR rfl rfl ?_)
    refine aO I I I oR ?_;repeat (refine kR rfl rfl ?_)
    refine aO I I I k8 (bo ?_);exact aX aq I I
   ·rw [fT c2] at k8;rw [aA ⟨rfl,.inr (.inr c2)⟩] at aq;refine c4 ?_;refine aO I I I dz (c4 ?_);refine aO I I I fx ?_;repeat (refine kR rfl rfl ?_)
    refine aO I I I oR ?_;repeat (refine kR rfl rfl ?_)
    refine aO I I I k8 (bo ?_);exact aX aq I I
theorem CO {α:Type}{l:List α}{d:α}{k:Nat}(h:k<l.length):l.drop k=l.getD k d::l.drop (k+1):=by rw [GV h];simp [List.getD,h]
theorem UY (l:List (List UInt8))(hlen:l.length≤9223372036854775807)(av: ∀s∈l,s.length≤9223372036854775807):bs Tryz.prog 74 [.ro (.strs l) 0 l.length] (.int .i64 (oz l)):=by
 refine cf Tryz.f74 fun c aq bI=> ?_;refine bq ?_;refine cp (ι:=Nat) (fun k=>[(0,.ro (.strs l) 0 l.length),(6,.ro (.strs l) 0 l.length),(7,ag l.length),(8,ag k)]) (fun _=>[])
  (fun k=>k≤l.length∧oz l=oz (l.drop k)) (fun k=>l.length-k) 0 ⟨aE,rfl,b7 _,by rw [sd]⟩ ?_
 intro k ⟨an,dJ⟩;refine bh ?_;refine bm I (fun h=> ?_) (fun h=> ?_)
 ·have bO:k<l.length:=J;have hd:=CO (d:=[]) bO;have aw:=WN (l.getD k []) (av _ (iR [] bO));rw [hd,oz] at dJ;refine oi ?_;refine aO I I I aw (bq ?_);refine bm I (fun ab=> ?_) (fun ab=> ?_)
  ·rw [ax ab] at dJ;refine bc ?_;refine aX aq I ?_;rw [dJ];rfl
  ·rw [aA (e0.1 ab)] at dJ;refine bo ?_;refine b4 ⟨k+1,⟨J,dJ⟩,J,aE,I⟩
 ·have bO:k=l.length:=J;subst bO;rw [qj] at dJ;refine bo ?_;refine aX aq I ?_;rw [dJ];rfl
theorem Ua {s:List UInt8}(h:jO s=0):ga 2000 (cE s):=by
 have aF:=FJ h;refine ⟨?_,?_⟩
 ·rw [aF.num,AK];exact KC aF.tm aF.h3
 ·rw [aF.den];cases e:nO s
  ·rw [Dg e,F4];decide
  ·rw [C0 e];exact KC (aF.q9 e).1 aF.Ij
theorem ga.mono {j k:Nat}{q:Rat}(h:ga j q)(an:j≤k):ga k q:=⟨dN h.1 an,dN h.2 an⟩
theorem akq {n d:Int}{k:Nat}(hd:d≠0)(U:(a6 n.natAbs).length≤k)(ab:(a6 d.natAbs).length≤k):ga k (Rat.divInt n d):=by
 obtain ⟨aH,aJ,_⟩:=N9 n d hd;refine ⟨?_,?_⟩
 ·rw [aH];exact I5 (vO _ _) U
 ·rw [aJ];exact I5 (vO _ _) ab
theorem T9 {p q:Rat}{k:Nat}(aF:ga k p)(aB:ga k q):ga (k+k+1) (p+q):=by have fW:(a6 (q.den:Int).natAbs).length≤k:=aB.2;have fK:(a6 (p.den:Int).natAbs).length≤k:=aF.2;rw [←O7];refine akq (by have:=DX p.den_nz q.den_nz;omega) (XF (w3 aF.1 fW) (w3 aB.1 fK)) ?_;rw [k4];have:=Kh aF.2 aB.2;omega
section
variable {α:Type}
theorem X2 (d:α)(n:Nat)(e:α→List ak)(ls:List α)(s:α)(ec:Cells)(aU: ∀j,j<n→ec.at 0 j=(e s).getD j .any)(i j:Nat)(aa:i<ls.length+1)(ae:j<n):
 (bif Nat.blt i ls.length then (fi d n e ls).at i j else ec.at (0+(i-ls.length)) j)=(fi d n e (ls++[s])).at i j:=by
 rcases gz i ls.length with h|h
 ·have aH:Nat.blt i ls.length=true:=by rw [Nat.blt_eq];exact h
  rw [aH];simp only [fi,Cells.at,lU,List.getD,hQ h]
 ·have df:i=ls.length:=J;have aH:Nat.blt i ls.length=false:=by rw [←td,Nat.blt_eq];omega
  subst df;rw [aH];simp only [oF,n1,cT];rw [aU j ae];simp [fi,Cells.at,List.getD]
theorem ha (d:α)(n:Nat)(e:α→List ak)(ls:List α)(s:α)(ec:Cells)(aU: ∀j,j<n→ec.at 0 j=(e s).getD j .any):
 cu (.fn (ls.length+1) n (fun i j=>bif Nat.blt i ls.length then (fi d n e ls).at i j else ec.at (0+(i-ls.length)) j)) (fi d n e (ls++[s])):=by refine ⟨by simp [fi,Cells.len],I,fun i j aa ae=> ?_⟩;exact (X2 d n e ls s ec aU i j aa ae).symm
theorem hF (d:α)(n:Nat)(e:α→List ak)(aI: ∀a j h,j<n→((e a).getD j .any).forget h=(e a).getD j .any)(ls:List α)(s:α)(ec:Cells)(aU: ∀j,j<n→ec.at 0 j=(e s).getD j .any)(h i j:Nat)(aa:i<ls.length+1)(ae:j<n):
 (bif Nat.blt i ls.length then (fi d n e ls).at i j else ec.at (0+(i-ls.length)) j).forget h=(bif Nat.blt i ls.length then (fi d n e ls).at i j else ec.at (0+(i-ls.length)) j):=by rw [X2 d n e ls s ec aU i j aa ae];exact aI _ _ _ ae
theorem yz {β:Type}(f:α→β)(l:List α)(d:α)(k:Nat)(an:k<l.length):(l.take (k+1)).map f=(l.take k).map f++[f (l.getD k d)]:=by rw [nZ an,gV];simp [List.getD,an]
end
def bW (q:Rat):List ak:=[.bool (decide (q.num<0)),bB q.num.natAbs,bB q.den]
abbrev aN (l:List Rat):Cells:=fi 0 3 bW l
theorem qL (q:Rat)(j h:Nat)(ae:j<3):((bW q).getD j .any).forget h=(bW q).getD j .any:=by
 match j,ae with
 |0,_=>rfl
 |1,_=>rfl
 |2,_=>rfl
theorem mx (l:List Rat):eZ (aN l):=by
 intro i j _ ae;show cM ((bW (l.getD i 0)).getD j .any)=true;have ae:j<3:=ae
 match j,ae with
 |0,_=>rfl
 |1,_=>rfl
 |2,_=>rfl
theorem j8 (q:Rat)(j:Nat)(ae:j<3):(fN 1 3 [.bool (decide (q.num<0)),bB q.num.natAbs,bB q.den]).at 0 j=(bW q).getD j .any:=by
 match j,ae with
 |0,_=>rfl
 |1,_=>rfl
 |2,_=>rfl
theorem S6 (l:List (List UInt8))(hlen:l.length≤1000000)(av: ∀s∈l,s.length≤9223372036854775807∧jO s=0):bs Tryz.prog 116 [.ro (.strs l) 0 l.length] (.ro (aN (l.map cE)) 0 l.length):=by
 refine cf Tryz.f116 fun c aq bI=> ?_;refine fb ?_;refine jF 3 ⟨118,aN []⟩ I I ?_;repeat (refine fD ?_)
 refine cp (ι:=Nat) (fun k=>[(0,.ro (.strs l) 0 l.length),(3,.aC 0 0 k),(6,.ro (.strs l) 0 l.length),(7,ag l.length),(8,ag k)]) (fun k=>[some ⟨118,aN ((l.take k).map cE)⟩])
  (fun k=>k≤l.length) (fun k=>l.length-k) 0 ⟨aE,rfl,b7 _⟩ ?_
 intro k an;refine bh ?_;refine bm I (fun h=> ?_) (fun h=> ?_)
 ·have bO:k<l.length:=J;obtain ⟨ei,ew⟩:=av _ (iR [] bO);have aw:=C6 (l.getD k []) ei ew;have jC:=yz cE l [] k bO;have fL:((l.take k).map cE).length=k:=by rw [cr,fc];omega
  generalize (l.take k).map cE=gE at*;refine oi ?_;refine aO I I I aw ?_;unfold b9;repeat (refine h9 rfl rfl rfl rfl rfl rfl rfl rfl rfl rfl rfl ?_)
  refine dy I I I I I I I I I fL I I dT I (by show (k+1)*56≤_∧_;omega) ?_ c3 ?_
  ·intro aG j aa ae;exact hF 0 3 bW qL gE (cE (l.getD k [])) _ (j8 _) 0 aG j aa ae
  refine fu ?_;refine b0 ?_;refine jG [some ⟨118,aN ((l.take (k+1)).map cE)⟩] ?_ ?_
  ·rw [jC];exact aM.eqv (ha 0 3 bW gE (cE (l.getD k [])) _ (j8 _)) aM.nil
  refine bq ?_;exact b4 ⟨k+1,J,J,aE,I⟩
 ·have bO:k=l.length:=J;subst bO;rw [e7];refine hx ?_;refine kv 0 3 l.length [] I (mx _) I (by show _≤(l.map cE).length;rw [cr];exact bT _) trivial (bF ?_);exact aX aq I I
end Go.Proofs.YtmpnheilfejcpaaGreatDoor
namespace Go.Proofs.YtmpnheilfejcpaaGreatDoor
open Go.aj Go.aj.dn Go.aj.cX Go.RowKit
attribute [local irreducible] aj eJ b1 ch hc
open Go.aj.kD Go.aj.eP
theorem anp (l:List (List UInt8))(g:FuncId)(cw:List ak)(p:List UInt8→Bool)(aw:cM.eM cw=true)(hlen:l.length≤9223372036854775807)(aF: ∀x∈l,bs Tryz.prog g ([.str x]++cw) (.bool (p x))):
 bs Tryz.prog 162 [.ro (.strs l) 0 l.length,.fn g cw] (.int .i64 (iz p l)):=by
 refine ch.qG (gl (P:=Tryz.prog) (fn:=Tryz.f162) I I af I (fun c aq bI=> ?_)) (fix:=fun _=>False) (fun _ h=>h) (by simp [cM.eM,cM,aw]) I;refine bq ?_;refine cp (ι:=Nat) (fun k=>[(0,.ro (.strs l) 0 l.length),(1,.fn g cw),(7,ag l.length),(8,ag k)]) (fun _=>[])
  (fun k=>k≤l.length∧(l.take k).any p=false) (fun k=>l.length-k) 0 ⟨aE,rfl,b7 _,rfl⟩ ?_
 intro k ⟨an,ig⟩;refine bh ?_;refine bm I (fun h=> ?_) (fun h=> ?_)
 ·have bO:k<l.length:=J;have tt:=Cu p l [] k bO;refine oi ?_;refine aO I I I (aF _ (iR [] bO)) (bF ?_);refine tV I (fun ab=> ?_) (fun ab=> ?_)
  ·refine bc ?_;refine aX aq I ?_;have:=qz p l k ig an;rw [tQ l [] k bO] at this;simp only [iz,ab,gf] at this;rw [this];simp [gS]
  ·refine bo ?_;refine b4 ⟨k+1,⟨J,by rw [tt,ig,ab];rfl⟩,J,aE,I⟩
 ·have bO:k=l.length:=J;subst bO;refine bo ?_;refine aX aq I ?_;have:=qz p l l.length ig an;rw [qj] at this;rw [this];rfl
theorem OL (l:List (List UInt8))(g:FuncId)(cw:List ak)(p:List UInt8→Bool)(aw:cM.eM cw=true)(hlen:l.length≤9223372036854775807)(aF: ∀x∈l,bs Tryz.prog g ([.str x]++cw) (.bool (p x))):
 bs Tryz.prog 86 [.ro (.strs l) 0 l.length,.fn g cw] (.bool (l.any p)):=by refine ch.qG (gl (P:=Tryz.prog) (fn:=Tryz.f86) I I af I (fun c aq bI=> ?_)) (fix:=fun _=>False) (fun _ h=>h) (by simp [cM.eM,cM,aw]) I;refine bF ?_;refine aO I I I (anp l g cw p aw hlen aF) (fb ?_);refine aX aq I ?_;simp only [gS,C4]
theorem aiF (s:List UInt8)(av:s.length≤9223372036854775807):bs Tryz.prog 244 [.str s] (.bool (jc s)):=by have U:=Kn s [45] av aT;rw [Y2] at U;refine cf Tryz.f244 fun c aq bI=> ?_;refine bF ?_;refine aO I I I U (bF ?_);exact aX aq I I
theorem anw (l:List Rat)(hlen:l.length≤1000000)(av: ∀q∈l,ga 100000 q)(gO:l.all eS=true):bs Tryz.prog 70 [.ro (aN l) 0 l.length] (.cn [.ro (.strs (l.map dm)) 0 l.length,.int .i64 0]):=by
 refine cf Tryz.f70 fun c aq bI=> ?_;refine fb ?_;refine jF 4 ⟨27,.strs []⟩ I I ?_;repeat (refine fD ?_)
 refine cp (ι:=Nat) (fun k=>[(0,.ro (aN l) 0 l.length),(4,.aC 0 0 k),(9,.ro (aN l) 0 l.length),(10,ag l.length),(11,ag k)]) (fun k=>[some ⟨27,.strs ((l.take k).map dm)⟩])
  (fun k=>k≤l.length∧(l.drop k).all eS=true) (fun k=>l.length-k) 0 ⟨aE,rfl,b7 _,gO⟩ ?_
 rintro k ⟨an,hl⟩;refine bh ?_;refine bm I (fun h=> ?_) (fun h=> ?_)
 ·have bO:k<l.length:=J;have bw:=av _ (iR 0 bO);have hd:=CO (d:=(0:Rat)) bO;rw [hd,zo] at hl;have jC:=yz dm l 0 k bO;have fL:((l.take k).map dm).length=k:=by rw [cr,fc];omega
  generalize kk:(l.take k).map dm=An at*;refine bc ?_;refine bP 14 (.agg (bW (l.getD k 0))) I (aR.of_eq I) ?_;generalize l.getD k 0=q at*;refine dA (c':= .box (bW q)) I I I I I I I ?_;rw [eb] at hl;have aw:=Kk q bw hl.1;refine bc ?_;refine aO I I I aw (bh ?_);refine dy I I I I I I I I I fL I I dT I (by show (k+1)*16≤_∧_;omega) (fun i j _ _=>rfl) c3 ?_;refine fu ?_;refine b0 ?_;refine jG ([some ⟨27,.strs ((l.take (k+1)).map dm)⟩]++[none]) ?_ ?_
  ·rw [jC];exact aM.eqv (cu.refl _) (aM.drop aM.nil)
  refine vn (H1:=[some ⟨27,.strs ((l.take (k+1)).map dm)⟩]) I c3 (bq ?_);exact b4 ⟨k+1,⟨J,hl.2⟩,J,aE,I⟩
 ·have bO:k=l.length:=J;subst bO;rw [e7];refine hx ?_;refine kv 0 4 l.length [] I (fun _ _ _ _=>rfl) I (by show _≤(l.map dm).length;rw [cr];exact bT _) trivial (bF ?_);exact aX aq I I
theorem WC (l:List Rat)(hlen:l.length≤1000000)(av: ∀q∈l,ga 100000 q)(gO:l.all eS=false):bs Tryz.prog 70 [.ro (aN l) 0 l.length] (.cn [.nil,.int .i64 2]):=by
 refine cf Tryz.f70 fun c aq bI=> ?_;refine fb ?_;refine jF 4 ⟨27,.strs []⟩ I I ?_;repeat (refine fD ?_)
 refine cp (ι:=Nat) (fun k=>[(0,.ro (aN l) 0 l.length),(4,.aC 0 0 k),(9,.ro (aN l) 0 l.length),(10,ag l.length),(11,ag k)]) (fun k=>[some ⟨27,.strs ((l.take k).map dm)⟩])
  (fun k=>k≤l.length∧(l.drop k).all eS=false) (fun k=>l.length-k) 0 ⟨aE,rfl,b7 _,gO⟩ ?_
 rintro k ⟨an,hl⟩;refine bh ?_;refine bm I (fun h=> ?_) (fun h=> ?_)
 ·have bO:k<l.length:=J;have bw:=av _ (iR 0 bO);have hd:=CO (d:=(0:Rat)) bO;rw [hd,zo] at hl;have jC:=yz dm l 0 k bO;have fL:((l.take k).map dm).length=k:=by rw [cr,fc];omega
  generalize kk:(l.take k).map dm=An at*;refine bc ?_;refine bP 14 (.agg (bW (l.getD k 0))) I (aR.of_eq I) ?_;generalize l.getD k 0=q at*;refine dA (c':= .box (bW q)) I I I I I I I ?_;cases aQ:eS q
  ·have aw:=QA q bw aQ;refine bc ?_;refine aO I I I aw (bc ?_);exact aX aq I I
  ·have aw:=Kk q bw aQ;rw [aQ,mM] at hl;refine bc ?_;refine aO I I I aw (bh ?_);refine dy I I I I I I I I I fL I I dT I (by show (k+1)*16≤_∧_;omega) (fun i j _ _=>rfl) c3 ?_;refine fu ?_;refine b0 ?_;refine jG ([some ⟨27,.strs ((l.take (k+1)).map dm)⟩]++[none]) ?_ ?_
   ·rw [jC];exact aM.eqv (cu.refl _) (aM.drop aM.nil)
   refine vn (H1:=[some ⟨27,.strs ((l.take (k+1)).map dm)⟩]) I c3 (bq ?_);exact b4 ⟨k+1,⟨J,hl⟩,J,aE,I⟩
 ·have bO:k=l.length:=J;subst bO;rw [qj] at hl;exact absurd hl aT
end Go.Proofs.YtmpnheilfejcpaaGreatDoor
namespace Go.Proofs.YtmpnheilfejcpaaGreatDoor
open Go.aj Go.aj.dn Go.aj.cX Go.RowKit
attribute [local irreducible] aj eJ b1 ch hc
theorem mz:bs Tryz.prog 113 [.int .i64 0] (b9 0):=AZ 0 aT
theorem tZ:bs Tryz.prog 113 [.int .i64 1] (b9 1):=AZ 1 aT
theorem IE:ga 2000 0:=by
 refine ⟨?_,?_⟩
 ·show (a6 0).length≤2000;rw [rA];decide
 ·show (a6 1).length≤2000;rw [F4];decide
theorem akn (l:List (List UInt8))(hlen:l.length≤9223372036854775807)(av: ∀s∈l,s.length≤9223372036854775807):bs Tryz.prog 243 [.ro (.strs l) 0 l.length] (.cn [b9 (r4 l).1,.int .i64 (r4 l).2]):=by
 unfold r4;have U:=UY l hlen av;by_cases au:256<l.length
 ·rw [aA au];refine cf Tryz.f243 fun c aq bI=> ?_;refine bh ?_;refine aO I I I mz ?_;repeat (refine mc rfl rfl rfl ?_)
  refine dA (c':= .box (bW 0)) I I I I I I I (bc ?_);refine bm I (fun aU=> ?_) (fun aU=>absurd au J);refine bc ?_;refine dA (c':= .box (bW 0)) I I I I I I I (c4 ?_);exact aX aq I I
 rw [ax au];by_cases dJ:oz l=0
 ·rw [aA dJ];rw [dJ] at U;have ab:=S6 l J (fun s hm=>⟨av s hm,rB dJ s hm⟩);have bw: ∀q∈l.map cE,ga 2000 q:=fun q aB=>by obtain ⟨s,ay,rfl⟩:=cO.1 aB;exact Ua (rB dJ s ay)
  have fL:(l.map cE).length=l.length:=cr _;generalize l.map cE=gE at*;refine cf Tryz.f243 fun c aq bI=> ?_;refine bh ?_;refine aO I I I mz ?_;repeat (refine mc rfl rfl rfl ?_)
  refine dA (c':= .box (bW 0)) I I I I I I I (bc ?_);refine bm I (fun aU=>absurd au J) (fun aU=> ?_);refine bn ?_;refine aO I I I U (bh ?_);refine aO I I I ab (bq ?_);refine cp (ι:=Nat×Rat) (fun p=>[(2,.ptr 0 0 0),(4,.ptr 1 0 0),(20,.ro (aN gE) 0 l.length),(21,ag l.length),(22,ag p.1)]) (fun p=>[some ⟨118,.box [.bool false,.nil,.nil]⟩,some ⟨118,.box (bW p.2)⟩])
   (fun p=>p.1≤l.length∧uk 0 gE=uk p.2 (gE.drop p.1)∧ga 2000 p.2) (fun p=>l.length-p.1) (0,0) ⟨aE,rfl,b7 _,rfl,IE⟩ ?_
  rintro ⟨k,acc⟩ ⟨an,dq,hl⟩;simp only at*;refine bh ?_;refine bm I (fun h=> ?_) (fun h=> ?_)
  ·have bO:k<gE.length:=J;have aB:=bw _ (iR 0 bO);have hd:=CO (d:=(0:Rat)) bO;rw [hd,uk] at dq;refine bc ?_;refine bP 25 (.agg (bW (gE.getD k 0))) I (aR.of_eq I) ?_;generalize gE.getD k 0=q at*;have aw:=Dk acc q (hl.mono aT) (aB.mono aT);have aQ:=P9 (acc+q) ((T9 hl aB).mono aT);refine dA (c':= .box (bW q)) I I I I I I I (bc ?_);refine aO I I I aw ?_;skip
   refine dA (c':= .box (bW (acc+q))) I I I I I I I (bc ?_);refine aO I I I aQ ?_;cases al:eS (acc+q)
   ·rw [al,ax tk] at dq;rw [dq] at aq;refine bc ?_;refine dA (c':= .box (bW (acc+q))) I I I I I I I (bc ?_);exact aX aq I I
   ·rw [al,aA rfl] at dq;refine fu ?_;refine b0 ?_;refine jG ([some ⟨118,.box [.bool false,.nil,.nil]⟩,some ⟨118,.box (bW (acc+q))⟩]++[none]) ?_ ?_
    ·exact aM.eqv (cu.refl _) (aM.eqv (cu.refl _) (aM.drop aM.nil))
    refine vn (H1:=[some ⟨118,.box [.bool false,.nil,.nil]⟩,some ⟨118,.box (bW (acc+q))⟩]) I c3 (bo ?_);exact b4 ⟨(k+1,acc+q),⟨by simp only;omega,dq,YP al⟩,by simp only;omega,aE,I⟩
  ·have bO:k=l.length:=J;subst bO;rw [←fL,qj,uk] at dq;rw [dq] at aq;refine bc ?_;refine dA (c':= .box (bW acc)) I I I I I I I (bF ?_);exact aX aq I I
 ·rw [ax dJ];generalize oz l=e at*;refine cf Tryz.f243 fun c aq bI=> ?_;refine bh ?_;refine aO I I I mz ?_;repeat (refine mc rfl rfl rfl ?_)
  refine dA (c':= .box (bW 0)) I I I I I I I (bc ?_);refine bm I (fun aU=>absurd au J) (fun aU=> ?_);refine bn ?_;refine aO I I I U (bq ?_);refine bm I (fun ab=> ?_) (fun ab=>absurd dJ ab);refine bc ?_;refine dA (c':= .box (bW 0)) I I I I I I I (c4 ?_);exact aX aq I I
theorem Zj: ∀(gE:List Rat) (acc:Rat),ga 2000 acc→(∀q∈gE,ga 2000 q)→ga 4001 (uk acc gE).1
 |[],acc,h,_=>h.mono aT
 |q::r,acc,h,av=>by
  rw [uk];split
  ·rename_i al;exact Zj r _ (YP al) (fun x ar=>av x (by simp [ar]))
  ·exact T9 h (av q bX)
theorem akl (l:List (List UInt8)):ga 4001 (r4 l).1:=by
 unfold r4;split
 ·exact IE.mono aT
 ·split
  ·rename_i dJ;refine Zj _ _ IE (fun q aB=> ?_);obtain ⟨s,ay,rfl⟩:=cO.1 aB;exact Ua (rB dJ s ay)
  ·exact IE.mono aT
theorem amt (l:List (List UInt8))(hlen:l.length≤9223372036854775807)(av: ∀s∈l,s.length≤9223372036854775807):bs Tryz.prog 217 [.ro (.strs l) 0 l.length] (.cn [b9 (r4 l).1,.int .i64 (Ci l)]):=by
 have U:=akn l hlen av;have ab:=OL l 244 [] jc rfl hlen (fun s hm=>aiF s (av s hm));unfold Ci;generalize (r4 l).1=q at*;generalize (r4 l).2=e at*;generalize l.any jc=b at*;by_cases he:e=0
 ·subst he;cases b
  ·rw [ax (fun h=>tk h.2)];refine cf Tryz.f217 fun c aq bI=> ?_;refine bh ?_;refine aO I I I U ?_;unfold b9;refine bh ?_;refine dA (c':= .box (bW q)) I I I I I I I (bh ?_);refine aO I I I ab (bc ?_);refine dA (c':= .box (bW q)) I I I I I I I (bF ?_);exact aX aq I I
  ·rw [aA ⟨rfl,rfl⟩];refine cf Tryz.f217 fun c aq bI=> ?_;refine bh ?_;refine aO I I I U ?_;unfold b9;refine bh ?_;refine dA (c':= .box (bW q)) I I I I I I I (bh ?_);refine aO I I I ab (bc ?_);refine dA (c':= .box (bW q)) I I I I I I I (bF ?_);exact aX aq I I
 ·rw [ax (fun h=>he h.1)];refine cf Tryz.f217 fun c aq bI=> ?_;refine bh ?_;refine aO I I I U ?_;unfold b9;refine bh ?_;refine dA (c':= .box (bW q)) I I I I I I I (bh ?_);refine gQ I I (fun aU=>absurd aU he) (fun aU=> ?_);refine bc ?_;refine dA (c':= .box (bW q)) I I I I I I I (bF ?_);exact aX aq I I
theorem Ys (l:List (List UInt8))(hlen:l.length≤9223372036854775807)(av: ∀s∈l,s.length≤9223372036854775807):bs Tryz.prog 187 [.ro (.strs l) 0 l.length] (.int .i64 (nL l)):=by
 have U:=amt l hlen av;have bw:=akl l;unfold nL;generalize (r4 l).1=q at*;generalize Ci l=e at*;have ab:=Y5 q 1 (bw.mono aT) (by refine ⟨?_,?_⟩<;>(show (a6 1).length≤100000;rw [F4];decide));by_cases he:e=0
 ·rw [aA he];subst he;generalize uC q 1=t at*;by_cases bu:t=0
  ·rw [aA bu];subst bu;refine cf Tryz.f187 fun c aq bI=> ?_;refine bF ?_;refine aO I I I U ?_;unfold b9;refine bh ?_;refine dA (c':= .box (bW q)) I I I I I I I (bh ?_);refine eg af ?_;refine eK (fuel:=0) [0,1,2,3] [(3,.ptr 0 0 0)] ⟨I,trivial⟩ af aT I I ?_;refine cY ?_;refine dW I I I I I tZ ?_;refine dW I I I I I ab ?_;refine cY ?_;refine eI ?_;refine dX af (bh ?_);exact aX aq I I
  ·rw [ax bu];refine cf Tryz.f187 fun c aq bI=> ?_;refine bF ?_;refine aO I I I U ?_;unfold b9;refine bh ?_;refine dA (c':= .box (bW q)) I I I I I I I (bh ?_);refine eg af ?_;refine eK (fuel:=0) [0,1,2,3] [(3,.ptr 0 0 0)] ⟨I,trivial⟩ af aT I I ?_;refine cY ?_;refine dW I I I I I tZ ?_;refine dW I I I I I ab ?_;refine cY ?_;refine eI ?_;refine dX af ?_;repeat (refine b0 ?_)
   refine bm I (fun aU=> ?_) (fun aU=>absurd bu aU);refine c4 ?_;exact aX aq I I
 ·rw [ax he];refine cf Tryz.f187 fun c aq bI=> ?_;refine bF ?_;refine aO I I I U ?_;unfold b9;refine bh ?_;refine dA (c':= .box (bW q)) I I I I I I I (bq ?_);refine bm I (fun aU=> ?_) (fun aU=>absurd he aU);refine c4 ?_;exact aX aq I I
theorem ajN {q:Rat}:kr q.num=0↔q=0:=by
 rw [←Rat.num_eq_zero];unfold kr;split
 ·omega
 ·split<;>omega
end Go.Proofs.YtmpnheilfejcpaaGreatDoor
namespace Go.aj
open Go.RowKit
abbrev eQ (b8 pl bM:Int)(bk:List Int)(cx:List (List UInt8))(cU:List UInt8):List ak:=[.int .i64 b8,.int .i64 pl,.int .i64 bM,.ro (.ints .i64 bk) 0 bk.length,.ro (.strs cx) 0 cx.length,.str cU]
end Go.aj
namespace Go.Proofs.YtmpnheilfejcpaaGreatDoor
open Go.aj Go.aj.dn Go.aj.cX Go.RowKit Go.aj.kD Go.aj.eP
attribute [local irreducible] aj eJ b1 ch hc
def kU (n:ep):List ak:=[.int .i64 n.kind,.int .i64 n.gr,.int .i64 n.info,.ro (.ints .i64 n.next) 0 n.next.length,.ro (.strs n.c1) 0 n.c1.length,.str n.iX]
abbrev bV (t:aK):Cells:=fi aP 6 kU t
structure DP (n:ep):Prop where
 next:n.next.length≤9223372036854775807
 c1:n.c1.length≤9223372036854775807
 each: ∀s∈n.c1,s.length≤9223372036854775807
 iX:n.iX.length≤9223372036854775807
structure jR (t:aK):Prop where
 len:t.length≤9223372036854775807
 node: ∀n∈t,DP n
theorem aol (t:aK)(i:Nat)(k:Int)(aa:i≤9223372036854775807)(hlen:t.length≤9223372036854775807):bs Tryz.prog 236 [.int .i64 k,.cK (.box [ag i]) 0 0,.cK (.box [.ro (bV t) 0 t.length]) 0 0] (.bool (AF t.length i k)):=by
 refine cf Tryz.f236 fun c aq bI=> ?_;refine fb ?_;refine gQ I I (fun h=> ?_) (fun h=> ?_)
 ·refine bc ?_;refine aX aq I ?_;unfold AF;rw [fG h];rfl
 ·refine fb ?_;refine aX aq I ?_;unfold AF;rw [fT h,Bq];rfl
theorem aas (t:aK):eZ (.box [.ro (bV t) 0 t.length]):=by
 intro i j _ ae;obtain rfl:j=0:=by have ae:j<1:=ae;omega
 rfl
theorem G9 (n:Int):eZ (.box [.int .i64 n]):=by
 intro i j _ ae;obtain rfl:j=0:=by have ae:j<1:=ae;omega
 rfl
theorem TN {o1 o2:bl}(U:eZ o1.c)(ab:eZ o2.c): ∀(h:Nat) (o:bl),([some o1,some o2]:aZ)[h]? =some (some o)→eZ o.c:=by
 intro h o ah
 match h,ah with
 |0,ah=>cases ah;exact U
 |1,ah=>cases ah;exact ab
 |_+2,ah=>simp at ah
theorem amc (t:aK)(i:Nat)(aa:i<t.length)(hlen:t.length≤9223372036854775807)(aI:(t.getD i aP).next.length≤9223372036854775807):bs Tryz.prog 203 [.ro (bV t) 0 t.length,ag i] (.int .i64 (y0 t.length i (t.getD i aP).next)):=by
 have aw:=VQ (t.getD i aP).next 236 [.cK (.box [ag i]) 0 0,.cK (.box [.ro (bV t) 0 t.length]) 0 0] (AF t.length i) rfl aI (fun k _=>aol t i k J hlen)
 refine cf Tryz.f203 fun c aq bI=> ?_;repeat (first|refine ao (du rfl) ?_|refine cR ?_|refine b0 ?_|refine dh ?_|refine c5 rfl ?_|refine ao (tL rfl rfl rfl rfl) ?_|refine ao (hO rfl rfl rfl rfl rfl) ?_|refine ao (h8 rfl rfl rfl rfl hC J) ?_|refine ao (ln rfl rfl rfl rfl rfl rfl) ?_|refine vt rfl rfl ?_)
 refine ds 5 (.ro (.ints .i64 (t.getD i aP).next) 0 (t.getD i aP).next.length) I (aR.of_eq I) ?_;generalize (t.getD i aP).next=l at*
 unfold y0 at aq;refine bh ?_;refine bm I (fun U=> ?_) (fun U=> ?_)
 ·rw [aA J] at aq;refine bc ?_;exact aX aq I I
 rw [ax J] at aq;refine bc ?_;refine bm I (fun ab=> ?_) (fun ab=> ?_)
 ·rw [aA J] at aq;refine bc ?_;exact aX aq I I
 rw [ax J] at aq;refine fu ?_;refine FV rfl rfl rfl rfl aw (TN (o1:=⟨41,.box [.ro (bV t) 0 t.length]⟩) (o2:=⟨3,.box [ag i]⟩) (aas _) (G9 _)) ⟨trivial,⟨fun o ah=>by simp at ah;subst ah;exact fA,fun o ah=>by simp at ah;subst ah;exact fA,trivial⟩,trivial⟩ rfl rfl rfl ?_;generalize l.any (AF t.length i)=b at*;cases b
 ·rw [ax aT] at aq;refine bo ?_;exact aX aq I I
 ·rw [aA rfl] at aq;refine bc ?_;exact aX aq I I
theorem ahn (t:aK)(i:Nat)(aa:i<t.length)(hlen:t.length≤9223372036854775807)(av:DP (t.getD i aP)):bs Tryz.prog 163 [.ro (bV t) 0 t.length,ag i] (.int .i64 (pj t.length i (t.getD i aP))):=by
 have bb:=amc t i aa hlen av.next
 have jV:=WN (t.getD i aP).iX av.iX;have co:=Ys (t.getD i aP).c1 av.c1 av.each;obtain ⟨s1,s2,u3,IA⟩:=av;refine cf Tryz.f163 fun c aq bI=> ?_;refine bc ?_;refine bP 10 (.agg (kU (t.getD i aP))) I (aR.of_eq I) ?_;generalize t.getD i aP=n at*;obtain ⟨b8,pl,bM,bk,cx,cU⟩:=n;simp only at*;unfold pj at aq;refine dA (c':= .box (eQ b8 pl bM bk cx cU)) I I I I I I I ?_;simp only at aq;refine bo ?_;refine bm I (fun aU=> ?_) (fun aU=> ?_)
 ·rw [aA aU] at aq;refine bo ?_;refine gQ I I (fun g1=> ?_) (fun g1=> ?_)
  ·rw [aA (.inl g1)] at aq;refine bc ?_;exact aX aq I I
  refine bo ?_;refine gQ I I (fun g2=> ?_) (fun g2=> ?_)
  ·rw [aA (.inr (.inl g2))] at aq;refine bc ?_;exact aX aq I I
  refine bc ?_;refine gQ I I (fun g3=> ?_) (fun g3=> ?_)
  ·rw [aA (.inr (.inr (.inl (by rintro rfl;simp at g3))))] at aq;refine bc ?_;exact aX aq I I
  refine bc ?_;refine bm I (fun g4=> ?_) (fun g4=> ?_)
  ·rw [aA (.inr (.inr (.inr (by rintro rfl;simp at g4))))] at aq;refine bc ?_;exact aX aq I I
  rw [ax (by
   rintro (q|q|q|q)
   ·exact g1 q
   ·exact g2 q
   ·have:=zu.2 q;omega
   ·have:=zu.2 q;omega)] at aq
  refine bo ?_;refine aO I I I jV (bc ?_);exact aX aq I I
 rw [ax aU] at aq;refine bh ?_;refine bm I (fun U=> ?_) (fun U=> ?_)
 ·rw [aA U] at aq;refine bo ?_;refine gQ I I (fun g1=> ?_) (fun g1=> ?_)
  ·rw [aA (.inl g1)] at aq;refine bc ?_;exact aX aq I I
  refine bo ?_;refine gQ I I (fun g2=> ?_) (fun g2=> ?_)
  ·rw [aA (.inr (.inl g2))] at aq;refine bc ?_;exact aX aq I I
  refine fb ?_;refine bm I (fun g3=> ?_) (fun g3=> ?_)
  ·rw [aA (.inr (.inr g3))] at aq;refine bc ?_;exact aX aq I I
  rw [ax (by
   rintro (q|q|q)
   ·exact g1 q
   ·exact g2 q
   ·exact g3 q)] at aq
  refine bn ?_;refine aO I I I bb (bq ?_);refine bm I (fun ay=> ?_) (fun ay=> ?_)
  ·rw [aA ay] at aq;refine bc ?_;exact aX aq I I
  rw [ax ay] at aq;refine bo ?_;refine bm I (fun bf=> ?_) (fun bf=> ?_)
  ·rw [aA J] at aq;refine bc ?_;exact aX aq I I
  rw [ax J] at aq;refine bo ?_;refine aO I I I co (bc ?_);exact aX aq I I
 rw [ax U] at aq;refine bh ?_;refine bm I (fun ab=> ?_) (fun ab=> ?_)
 ·rw [aA ab] at aq;refine bc ?_;refine gQ I I (fun g1=> ?_) (fun g1=> ?_)
  ·rw [aA (.inl (by rintro rfl;simp at g1))] at aq;refine bc ?_;exact aX aq I I
  refine fb ?_;refine bm I (fun g2=> ?_) (fun g2=> ?_)
  ·rw [aA (.inr g2)] at aq;refine bc ?_;exact aX aq I I
  rw [ax (by
   rintro (q|q)
   ·have:=zu.2 q;omega
   ·exact g2 q)] at aq
  refine bo ?_;refine gQ I I (fun g3=> ?_) (fun g3=> ?_)
  ·refine bo ?_;refine gQ I I (fun g4=> ?_) (fun g4=> ?_)
   ·rw [aA (.inl ⟨g3,g4⟩)] at aq;refine bc ?_;exact aX aq I I
   refine bo ?_;refine gQ I I (fun g5=> ?_) (fun g5=> ?_)
   ·rw [aA (.inr (.inl g5))] at aq;refine bc ?_;exact aX aq I I
   refine fb ?_;refine bm I (fun g6=> ?_) (fun g6=> ?_)
   ·rw [aA (.inr (.inr g6))] at aq;refine bc ?_;exact aX aq I I
   rw [ax (by
    rintro (q|q|q)
    ·exact g4 q.2
    ·exact g5 q
    ·exact g6 q)] at aq
   refine bn ?_;refine aO I I I bb (bc ?_);exact aX aq I I
  ·refine bc ?_;refine gQ I I (fun g5=> ?_) (fun g5=> ?_)
   ·rw [aA (.inr (.inl g5))] at aq;refine bc ?_;exact aX aq I I
   refine fb ?_;refine bm I (fun g6=> ?_) (fun g6=> ?_)
   ·rw [aA (.inr (.inr g6))] at aq;refine bc ?_;exact aX aq I I
   rw [ax (by
    rintro (q|q|q)
    ·exact g3 q.1
    ·exact g5 q
    ·exact g6 q)] at aq
   refine bn ?_;refine aO I I I bb (bc ?_);exact aX aq I I
 ·rw [ax ab] at aq;refine bo ?_;exact aX aq I I
theorem aaD (n:Int):bs Tryz.prog 165 [.int .i64 n] (.bool (decide (n≠1))):=by refine cf Tryz.f165 fun c aq bI=> ?_;refine bq ?_;exact aX aq I I
def r3 (e:Int×Int×Nat):ak:= .agg [.int .i64 e.1,.int .i64 e.2.1]
def Ik (e:Int×Int×Nat):ak:=ag e.2.2
abbrev yq (S:vK):Cells:= .mp (S.map r3) (S.map Ik)
theorem Ie (S:vK): ∀x∈S.map r3,nf (.pair .i64) x=true:=by intro x ar;obtain ⟨e,_,rfl⟩:=cO.1 ar;rfl
theorem ajv {l:List ak}{j:Nat}{v:ak}(h:l[j]? =some v):l.set j v=l:=by
 apply List.ext_getElem?;intro i;by_cases e:j=i
 ·subst e;obtain ⟨ae,_⟩:=hi.1 h;rw [oH ae,h]
 ·rw [lV e]
theorem wU {α:Type}{n:Nat}{f:α→ak}(aQ: ∀x,hf n (f x)=true): ∀l:List α,mB n (l.map f)=true
 |[]=>rfl
 |a::r=>by show (hf n (f a) && mB n (r.map f))=true;rw [aQ a,wU aQ r];rfl
theorem FA {α:Type}{f:α→ak}(aQ: ∀x,cM (f x)=true): ∀l:List α,cM.eM (l.map f)=true
 |[]=>rfl
 |a::r=>by show (cM (f a) && cM.eM (r.map f))=true;rw [aQ a,FA aQ r];rfl
theorem p1 {n:Nat}{t:TypeId}{c:Cells}(aw:fz n c): ∀(h:Nat) (o:bl),([some ⟨t,c⟩]:aZ)[h]? =some (some o)→fz n o.c:=by
 intro h o ah
 match h,ah with
 |0,ah=>cases ah;exact aw
 |_+1,ah=>simp at ah
theorem Pb (S:vK)(n:Nat):fz n (yq S):=⟨wU (fun _=>rfl) S,wU (fun _=>rfl) S⟩
theorem OZ (t:aK)(b2:jR t):bs Tryz.prog 88 [.ro (bV t) 0 t.length] (.int .i64 (qV t)):=by
 have hlen:=b2.len;refine cf Tryz.f88 fun c aq bI=> ?_;unfold qV at aq;refine bc ?_;refine bm I (fun U=> ?_) (fun U=> ?_)
 ·rw [aA J] at aq;refine c4 ?_;exact aX aq I I
 rw [ax J] at aq;refine bh ?_;refine bm I (fun ab=> ?_) (fun ab=> ?_)
 ·rw [aA J] at aq;refine c4 ?_;exact aX aq I I
 rw [ax J] at aq;have jy:t.length≤120:=J;have RJ:t.length≠0:=J;refine bq ?_;refine mf I I I I I I I I (by show 0≤_∧_≤_∧(8:Int)*_≤_∧_;omega) (bq ?_);refine cp (ι:=Nat) (fun i=>[(0,.ro (bV t) 0 t.length),(3,.aC 0 0 t.length),(23,.ro (bV t) 0 t.length),(24,ag t.length),(25,ag i)]) (fun i=>[some ⟨3,.ints .i64 (kd t.length (p6 t i))⟩])
  (fun i=>i≤t.length∧tY t.length 0 t=tY t.length i (t.drop i)∧(p6 t i).length≤6*i) (fun i=>t.length-i) 0 ⟨aE,by show [some (⟨3,.ints .i64 (List.replicate _ 0)⟩:bl)]=[some ⟨3,.ints .i64 (kd t.length [])⟩];rw [aaM];rfl,b7 _,by rw [sd],by simp [p6]⟩ ?_
 rintro i ⟨aa,dJ,mR⟩;refine bh ?_;refine bm I (fun ay=> ?_) (fun ay=> ?_)
 ·have aL:i<t.length:=J;have eH:=iR aP aL;have tm:=ahn t i aL hlen (b2.node _ eH);rw [alX aL] at dJ;have mr:=anj aL;refine bn ?_;refine aO I I I tm (bq ?_);refine bm I (fun bf=> ?_) (fun bf=> ?_)
  ·rw [ax bf] at dJ;rw [aA (by rw [dJ];exact bf),dJ] at aq;refine bc ?_;exact aX aq I I
  rw [aA (e0.1 bf)] at dJ;obtain ⟨bS,bY⟩:=VC (e0.1 bf);have Sq:(t.getD i aP).next.length≤9223372036854775807:=J
  refine yj ?_;refine c5 I ?_;refine hx ?_;refine ds 38 (.ro (.ints .i64 (t.getD i aP).next) 0 (t.getD i aP).next.length) I (aR.of_eq I) ?_;generalize (t.getD i aP).next=l at*
  repeat (refine fD ?_)
  refine cp (ι:=Nat) (fun j=>[(0,.ro (bV t) 0 t.length),(3,.aC 0 0 t.length),(23,.ro (bV t) 0 t.length),(24,ag t.length),(25,ag i),(38,.ro (.ints .i64 l) 0 l.length),(39,ag l.length),(40,ag j)]) (fun j=>[some ⟨3,.ints .i64 (kd t.length (p6 t i++l.take j))⟩])
   (fun j=>j≤l.length) (fun j=>l.length-j) 0 ⟨aE,by rw [List.take_zero,k2],b7 _⟩ ?_
  intro j ae;refine bh ?_;refine bm I (fun bL=> ?_) (fun bL=> ?_)
  ·have bd:j<l.length:=J;obtain ⟨ei,ew⟩:=bS _ (dt 0 bd);have av:=aom (p6 t i++l.take j) (x:=l.getD j 0) J ew;rw [lz,←Az bd] at av;have al:=aaL t.length (p6 t i++l.take j) (l.getD j 0).toNat;have wo:(p6 t i++l.take j).length≤6*i+6:=by rw [c8,fc];omega
   have hn:=AG t.length (p6 t i++l.take j);have bD:(l.getD j 0).toNat<(kd t.length (p6 t i++l.take j)).length:=J;generalize kd t.length (p6 t i++l.take j)=C at*;refine Nj ?_;exact b4 ⟨j+1,J,J,aE,by rw [av];rfl⟩
  ·have ho:j=l.length:=J;subst ho;rw [e7,←mr];refine bo ?_;exact b4 ⟨i+1,⟨J,dJ,by rw [mr,c8];omega⟩,J,aE,I⟩
 have df:i=t.length:=J;subst df;rw [qj] at dJ;have acJ:tY t.length 0 t=0:=dJ;rw [ax (by rw [acJ];exact fun q=>q rfl)] at aq;have gP:p6 t t.length=t.flatMap ep.next:=by unfold p6;rw [e7]
 rw [gP];have gO:=aoT RJ;rw [←gO] at aq;have hn:=AG t.length (t.flatMap ep.next);generalize kd t.length (t.flatMap ep.next)=C at*;have bb:=VQ (C.drop 1) 165 [] (fun n=>decide (n≠1)) rfl (by rw [vR];omega) (fun n _=>aaD n);refine hx ?_;refine kv 0 3 t.length [(0,.ro (bV t) 0 t.length)] I ma I (by show t.length≤C.length;omega) ⟨I,trivial⟩ ?_;refine fm [] [none] [(0,.ro (bV t) 0 t.length),(3,.ro (.ints .i64 C) 0 t.length)] I aE hp (fun h o ah=>by simp at ah) I (uY ?_);refine bP 53 (.ro (.ints .i64 (C.drop 1)) 0 (C.drop 1).length) I (aR.trans (aR.drop (k:= .i64) (l:=C) (i:=1) (n:=((t.length:Int)-1).toNat)) (aR.of_eq (by rw [vR,hn];congr 1;omega))) ?_;refine aO I I I bb ?_;generalize (C.drop 1).any (fun n=>decide (n≠1))=b at*;cases b
 case true=>
  rw [aA rfl] at aq;refine bo ?_;exact aX aq I I
 rw [ax aT] at aq;refine bh ?_;refine CB (bq ?_);refine cp (ι:=Nat×vK) (fun x=>[(0,.ro (bV t) 0 t.length),(8,.mp 0),(56,.ro (bV t) 0 t.length),(57,ag t.length),(58,ag x.1)]) (fun x=>[some ⟨229,yq x.2⟩])
  (fun x=>x.1≤t.length∧mJ (t.take x.1) x.2) (fun x=>t.length-x.1) (0,[]) ⟨aE,rfl,b7 _,mJ.nil⟩ ?_
 rintro ⟨k,S⟩ ⟨an,dH⟩;simp only at an dH;refine bh ?_;refine bm I (fun bL=> ?_) (fun bL=> ?_)
 ·have bO:k<t.length:=J;have eH:=iR aP bO;have mW:=b2.node _ eH;have jC:=anI bO;have afe: ∀a∈t.take k,a∈t:=fun a a8=>pz a8;have SO:= @mJ.skip (t.take k) S (t.getD k aP) dH;have xR:=fun e=> @mJ.L7 (t.take k) S (t.getD k aP) e dH;have wq:= @mJ.agW (t.take k) S (t.getD k aP) dH;have LJ:=fun e=> @mJ.bad (t.take k) t S (t.getD k aP) e dH afe eH;rw [←jC] at SO xR wq;obtain ⟨s1,s2,u3,IA⟩:=mW;refine bc ?_;refine bP 61 (.agg (kU (t.getD k aP))) I (aR.of_eq I) ?_;generalize t.getD k aP=n at*;obtain ⟨b8,pl,bM,bk,cx,cU⟩:=n;simp only at*;refine dA (c':= .box (eQ b8 pl bM bk cx cU)) I I I I I I I (bo ?_);refine bm I (fun g1=> ?_) (fun g1=> ?_)
  ·refine fu ?_;refine b0 ?_;refine fm [some ⟨229,yq S⟩] [some ⟨57,.box (eQ b8 pl bM bk cx cU)⟩] [(0,.ro (bV t) 0 t.length),(8,.mp 0),(56,.ro (bV t) 0 t.length),(57,ag t.length),(58,ag k)] I aE hp (p1 (Pb S 1)) I (bq ?_);exact b4 ⟨(k+1,S),⟨by simp only;omega,SO g1⟩,by simp only;omega,aE,I⟩
  ·have l0:b8=2:=e0.1 g1;refine fb ?_;refine bP 69 (.agg [.int .i64 pl,.int .i64 bM]) I (aR.of_eq I) ?_;refine dA (c':= .box [.int .i64 pl,.int .i64 bM]) I I I I I I I (bc ?_);refine bP 72 (r3 (pl,bM,0)) I (aR.of_eq I) ?_;by_cases hm: ∃e∈S,e.1=pl∧e.2.1=bM
   ·obtain ⟨e,he,aH,aJ⟩:=hm;obtain ⟨j,ae,ho⟩:=k3 he;have i1:(S.map r3)[j]? =some (r3 (pl,bM,0)):=by rw [ly,nY ae,ho];show some (r3 e)=_;unfold r3;rw [aH,aJ]
    have i2:(S.map Ik)[j]? =some (ag e.2.2):=by rw [ly,nY ae,ho];rfl
    refine ao (tK I (.pair I I I) I I I I (Ie S) j i1 i2) (bo ?_);refine bm I (fun fx=> ?_) (fun fx=> ?_)
    ·rw [aA (LJ e l0 he aH aJ J)] at aq;refine bc ?_;exact aX aq I I
    ·have oR:e.2.2=bk.length:=J;have c9:(S.map Ik).set j (ag bk.length)=S.map Ik:=ajv (by rw [i2,oR]);refine bc ?_;refine bP 85 (r3 (pl,bM,0)) I (aR.of_eq I) ?_;refine alv I (.pair I I I) I I I I I (Ie S) j i1 ?_;refine dw [some ⟨229,yq (S)⟩,some ⟨57,.box (eQ b8 pl bM bk cx cU)⟩,some ⟨94,.box [.int .i64 pl,.int .i64 bM]⟩] (by rw [←c9];rw [c9];exact (congrArg (fun l=>[some (⟨229,.mp (S.map r3) l⟩:bl),some ⟨57,.box (eQ b8 pl bM bk cx cU)⟩,some ⟨94,.box [.int .i64 pl,.int .i64 bM]⟩]) c9)) ?_;refine fu ?_;refine b0 ?_;refine fm [some ⟨229,yq (S)⟩] [some ⟨57,.box (eQ b8 pl bM bk cx cU)⟩,some ⟨94,.box [.int .i64 pl,.int .i64 bM]⟩] [(0,.ro (bV t) 0 t.length),(8,.mp 0),(56,.ro (bV t) 0 t.length),(57,ag t.length),(58,ag k)] I aE hp (p1 (Pb _ 1)) I (bq ?_);exact b4 ⟨(k+1,S),⟨by simp only;omega,xR e he aH aJ oR⟩,by simp only;omega,aE,I⟩
   ·have ny:r3 (pl,bM,0)∉S.map r3:=by intro q;obtain ⟨e,he,Li⟩:=cO.1 q;simp only [r3,ak.agg.injEq,List.cons.injEq,ak.int.injEq,true_and,and_true] at Li;exact hm ⟨e,he,Li.1,Li.2⟩
    refine ao (IQ I (.pair I I I) I I I I I I I I (Ie S) ny) (bc ?_);refine bP 85 (r3 (pl,bM,0)) I (aR.of_eq I) ?_;refine Ct I (.pair I I I) I I I I I (Ie S) ny ?_;refine dw [some ⟨229,yq (S++[(pl,bM,bk.length)])⟩,some ⟨57,.box (eQ b8 pl bM bk cx cU)⟩,some ⟨94,.box [.int .i64 pl,.int .i64 bM]⟩] (by unfold yq;rw [gV,gV];rfl) ?_;refine fu ?_;refine b0 ?_;refine fm [some ⟨229,yq (S++[(pl,bM,bk.length)])⟩] [some ⟨57,.box (eQ b8 pl bM bk cx cU)⟩,some ⟨94,.box [.int .i64 pl,.int .i64 bM]⟩] [(0,.ro (bV t) 0 t.length),(8,.mp 0),(56,.ro (bV t) 0 t.length),(57,ag t.length),(58,ag k)] I aE hp (p1 (Pb _ 1)) I (bq ?_);exact b4 ⟨(k+1,S++[(pl,bM,bk.length)]),⟨by simp only;omega,wq l0 (fun e he q=>hm ⟨e,he,q⟩)⟩,by simp only;omega,aE,I⟩
 ·have jz:k=t.length:=J;subst jz;rw [e7] at dH;rw [alV dH.free,ax aT] at aq;refine bo ?_;exact aX aq I I
end Go.Proofs.YtmpnheilfejcpaaGreatDoor
