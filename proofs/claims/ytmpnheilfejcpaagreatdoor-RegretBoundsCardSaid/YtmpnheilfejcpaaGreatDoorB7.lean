import Derived.Test.YtmpnheilfejcpaaGreatDoorB6
set_option linter.unusedVariables false
set_option linter.unusedSimpArgs false
set_option maxRecDepth 100000
set_option maxHeartbeats 40000000
namespace Go.Proofs.YtmpnheilfejcpaaGreatDoor
open Go.Ax Go.Ax.Bg Go.Ax.Rt Go.RowKit Go.Ax.Dt Go.Ax.Sx
attribute [local irreducible] Ax zB2 QOp zU zBV
theorem rowN1 (n:Nat)(j:Nat)(hj:j<1):(zCE 1 1 [zm n]).at 0 j=([zm n]:List AV).getD j .any:=by
 obtain rfl:=Nat.lt_one_iff.1 hj
 rfl
theorem zQD (n:Nat)(j h:Nat)(hj:j<1):(([zm n]:List AV).getD j .any).forget h=([zm n]:List AV).getD j .any:=by
 obtain rfl:=Nat.lt_one_iff.1 hj
 rfl
theorem zOA (l:List Nat)(n:Nat):zBM n (nsC l):=by
 intro i j _ hj
 obtain rfl:=Nat.lt_one_iff.1 (show j<1 from hj)
 rfl
theorem zGB (m:Nat)(x:Int)(j:Nat)(hj:j<2):zCV m ((zo x).getD j .any)=true:=by
 match j,hj with
 |0,_=>rfl
 |1,_=>rfl
theorem zIp (p:Prog)(m:Nat):zBM m (.box [.ro (zd p.A) 0 p.A.length,.ro (qsC p.B) 0 p.B.length,.ro (qsC p.C) 0 p.C.length]):=by
 intro i j hi hj
 obtain rfl:=Nat.lt_one_iff.1 (show i<1 from hi)
 match j,(show j<3 from hj) with
 |0,_=>rfl
 |1,_=>rfl
 |2,_=>rfl
theorem start_ok (p:Prog)(N k:Nat)(hp:p.Ok)(hk:p.Dig k)(hN:N=p.C.length+p.B.length+(zAf p.B p.B.length).length)(hm:p.B.length≤40)(hn:p.C.length≤40)(hk40:k≤10000):
 zU Tryz.prog 171 [.agg [.ro (zd p.A) 0 p.A.length,.ro (qsC p.B) 0 p.B.length,.ro (qsC p.C) 0 p.C.length]] [] (fun _=>False)
  (fun r' H'=>r'= .tup [.ptr 2 0 0,.ro (nsC ((List.range p.B.length).map p.fac)) 0 p.B.length,iN ((zAf p.B p.B.length).length)]∧H'=zg [none,none] none (N+1) (p.C.length+p.B.length) p.B.length (zBO p) 1 (zBr p) []):=by
 refine zF (P:=Tryz.prog) (fn:=Tryz.f171) Z Z kQ Z (fun c hR hfix=> ?_)
 have hal:(zAf p.B p.B.length).length≤p.B.length:=zKy p.B p.B.length
 repeat (first|refine zL (zf rfl) ?_|refine zV ?_|refine zG ?_|refine zAL ?_|refine zl rfl ?_|refine zGv rfl rfl ?_)
 refine zZ kQ ?_
 refine zj (fuel:=0) [0,1,2,3,4,5,6,7] [(1,.ptr 0 0 0),(3,.nil)] ⟨Z,Z,trivial⟩ kQ kV Z Z ?_
 refine zK Z Z (zN Z Z Z Z Z Z) ?_
 refine zK Z Z (zY Z Z Z Z Z) ?_
 refine zK Z Z (zBh Z Z Z) ?_
 refine zK Z Z (zN Z Z Z Z Z Z) ?_
 refine zK Z Z (zY Z Z Z Z Z) ?_
 refine zK Z Z (zBh Z Z Z) ?_
 refine zK Z Z (zf Z) ?_
 refine zK Z Z (zf Z) ?_
 refine zz ?_
 refine zT kQ ?_
 repeat (first|refine zL (zH rfl) ?_|refine zL (zf rfl) ?_|refine zV ?_|refine zG ?_|refine zAL ?_|refine zl rfl ?_|refine zL (zY rfl rfl rfl rfl rfl) ?_|refine zL (zBh rfl rfl rfl) ?_|refine zL (zN rfl rfl rfl rfl rfl rfl) ?_)
 refine zAg 7 ⟨3,zCJ (zAf p.B 0)⟩ Z Z ?_
 repeat (refine zAJ ?_)
 refine zb (ι:=Nat) (fun i=>[(1,.ptr 0 0 0),(3,.nil),(5,iN p.C.length),(6,iN p.B.length),(7,.sl 1 0 (zAf p.B i).length),(24,.ro (qsC p.B) 0 p.B.length),(25,iN p.B.length),(26,iN i)]) (fun i=>[some ⟨155,.box [.ro (zd p.A) 0 p.A.length,.ro (qsC p.B) 0 p.B.length,.ro (qsC p.C) 0 p.C.length]⟩,some ⟨3,zCJ (zAf p.B i)⟩]) (fun i=>i≤p.B.length) (fun i=>p.B.length-i) 0 ⟨⟨Z,Z,Z,Z,Z,Z,Z,Z,trivial⟩,Z,Nat.zero_le _⟩ ?_
 intro i hi
 repeat (first|refine zV ?_|refine zG ?_|refine zAL ?_|refine zl rfl ?_|refine zL (zDS rfl rfl) ?_)
 refine zB Z (fun h=> ?_) (fun h=> ?_)
 ·have hi':i<p.B.length:=kK
  have hle:=zKy p.B i
  repeat (first|refine zL (zH rfl) ?_|refine zL (zf rfl) ?_|refine zG ?_|refine zAL ?_|refine zl rfl ?_|refine zAJ ?_|refine zBK ?_|refine zL (zc rfl rfl rfl rfl (by first|(simp only [Nat.zero_add,Int.toNat_natCast,Int.toNat_zero];exact rfl)|exact rfl) kK) ?_|refine zL (zAc rfl rfl rfl rfl rfl rfl) ?_|refine zA7 rfl rfl rfl ?_)
  refine zQ [some ⟨155,.box [.ro (zd p.A) 0 p.A.length,.ro (qsC p.B) 0 p.B.length,.ro (qsC p.C) 0 p.C.length]⟩,some ⟨3,zCJ (zAf p.B i)⟩,some ⟨118,.box [.bool false,.nil,.nil]⟩] Z ?_
  refine zE 9 (.ptr 2 0 0) Z (AEq.of_eq Z) ?_
  refine zE 30 (.agg (zJ (p.B.getD i 0))) Z (AEq.of_eq Z) ?_
  refine sa1 (c':= .box (zJ (p.B.getD i 0))) Z Z Z Z Z Z Z ?_
  refine zQ [some ⟨155,.box [.ro (zd p.A) 0 p.A.length,.ro (qsC p.B) 0 p.B.length,.ro (qsC p.C) 0 p.C.length]⟩,some ⟨3,zCJ (zAf p.B i)⟩,some ⟨118,.box (zJ (p.B.getD i 0))⟩] Z ?_
  have cs:=zHp (p.B.getD i 0)
  have hs:zAf p.B (i+1)=if (p.B.getD i 0).num<0 then zAf p.B i++[i] else zAf p.B i:=by rw [zAf]
  apply zAX (H:=[some ⟨155,.box [.ro (zd p.A) 0 p.A.length,.ro (qsC p.B) 0 p.B.length,.ro (qsC p.C) 0 p.C.length]⟩,some ⟨3,zCJ (zAf p.B (i+1))⟩,some ⟨118,.box (zJ (p.B.getD i 0))⟩]) [(1,.ptr 0 0 0),(3,.nil),(5,iN p.C.length),(6,iN p.B.length),(7,.sl 1 0 (zAf p.B (i+1)).length),(24,.ro (qsC p.B) 0 p.B.length),(25,iN p.B.length),(26,iN i)]
  ·intro fin
   repeat (first|refine zV ?_|refine zG ?_|refine zAL ?_|refine zl rfl ?_|refine zL (qpp rfl rfl rfl rfl rfl rfl rfl) ?_)
   refine zE 31 (qA (p.B.getD i 0)) Z (AEq.of_eq Z) ?_
   refine zA Z Z Z cs ?_
   repeat (first|refine zV ?_|refine zG ?_|refine zL (zDS rfl rfl) ?_)
   refine zB Z (fun h1=> ?_) (fun h1=> ?_)
   ·rw [zGq] at h1
    rw [if_pos h1] at hs
    rw [hs] at fin
    have hll:(zAf p.B i++[i]).length=(zAf p.B i).length+1:=by rw [List.length_append];rfl
    have hol:(zCJ (zAf p.B i)).len=(zAf p.B i).length:=List.length_map ..
    repeat (first|refine zL (zH rfl) ?_|refine zl rfl ?_|refine ze rfl rfl rfl rfl rfl rfl rfl rfl rfl rfl rfl ?_)
    refine zq Z Z Z Z Z Z Z Z Z hol Z Z (by show 0+1≤1;omega) Z (by show ((zAf p.B i).length+1)*8≤_∧_;have:(zAf p.B i).length≤i:=hle;omega) (fun _ _ _ _=>rfl) (by rw [hfix];exact fun h=>h) ?_
    refine zAD [some ⟨155,.box [.ro (zd p.A) 0 p.A.length,.ro (qsC p.B) 0 p.B.length,.ro (qsC p.C) 0 p.C.length]⟩,some ⟨3,zCJ (zAf p.B i++[i])⟩,some ⟨118,.box (zJ (p.B.getD i 0))⟩] (zP.same (zP.eqv (zMm (zAf p.B i) i) (zP.same zP.nil))) ?_
    refine zE 37 (.sl 1 0 (zAf p.B i++[i]).length) Z (AEq.of_eq (by rw [hll])) ?_
    repeat (first|refine zL (zf rfl) ?_|refine zV ?_|refine zG ?_|refine zAP ?_)
    exact fin _ ⟨Z,Z,Z,Z,Z,Z,Z,Z,trivial⟩
   ·rw [zGq] at h1
    rw [if_neg h1] at hs
    rw [hs] at fin
    repeat (first|refine zG ?_|refine zAP ?_|refine zBK ?_)
    exact fin _ ⟨Z,Z,Z,Z,Z,Z,Z,Z,trivial⟩
  ·refine zBS [some ⟨155,.box [.ro (zd p.A) 0 p.A.length,.ro (qsC p.B) 0 p.B.length,.ro (qsC p.C) 0 p.C.length]⟩,some ⟨3,zCJ (zAf p.B (i+1))⟩] [some ⟨118,.box (zJ (p.B.getD i 0))⟩] [(1,.ptr 0 0 0),(3,.nil),(5,iN p.C.length),(6,iN p.B.length),(7,.sl 1 0 (zAf p.B (i+1)).length),(24,.ro (qsC p.B) 0 p.B.length),(25,iN p.B.length),(26,iN i)] Z ⟨Z,Z,Z,Z,Z,Z,Z,Z,trivial⟩ (fun h hh=>by rw [hfix] at hh;exact hh.elim) (fun h o ho=>by
    match h,ho with
    |0,ho=>cases ho;exact zIp p _
    |1,ho=>cases ho;exact fun i j _ _=>rfl) rfl ?_
   repeat (first|refine zL (zH rfl) ?_|refine zV ?_|refine zl rfl ?_|refine zL (zCZ rfl rfl kK) ?_)
   exact zI ⟨i+1,kK,kK,⟨Z,Z,Z,Z,Z,Z,Z,Z,trivial⟩,Z⟩
 have hie:i=p.B.length:=kK
 rw [hie]
 clear hi h hie
 clear i
 have cw:=zH0 1 kV
 unfold zBF at cw
 repeat (first|refine zG ?_|refine zAL ?_|refine zl rfl ?_|refine zDf ?_|refine zBJ ?_|refine zBI ?_|refine zBa ?_)
 refine zA Z Z Z cw ?_
 repeat (first|refine zL (zH rfl) ?_|refine zL (zCZ rfl rfl kK) ?_)
 refine zE 42 (.int .i64 ((p.C.length+p.B.length:Nat))) Z (AEq.of_eq (by show AV.int _ _=AV.int _ _;congr 1)) ?_
 repeat (first|refine zL (zH rfl) ?_|refine zL (zf rfl) ?_|refine zV ?_|refine zG ?_|refine zAL ?_|refine zl rfl ?_|refine zL (zY rfl rfl rfl rfl rfl) ?_|refine zL (zBh rfl rfl rfl) ?_|refine zL (zBT rfl rfl rfl rfl rfl rfl) ?_|refine zL (zN rfl rfl rfl rfl rfl rfl) ?_|refine zGv rfl rfl ?_)
 refine zAg 3 ⟨114,nsC []⟩ Z Z ?_
 refine zFb 2 ⟨3,zCJ []⟩ (.box [.nil,.bool (decide ((1:Int)<0)),zm (1:Int).natAbs,.sl 4 0 0,.int .i64 ((p.C.length+p.B.length:Nat))]) Z Z Z Z (fun i j hi hj=> ?_) ?_
 ·obtain rfl:=Nat.lt_one_iff.1 hi
  match j,hj with
  |0,_=>exact .inl rfl
  |1,_=>exact .inl rfl
  |2,_=>exact .inl rfl
  |3,_=>exact .inr ⟨rfl,rfl⟩
  |4,_=>exact .inl rfl
 refine zFb 2 ⟨243,zBz 2 0 (N+1)⟩ (zEN 2 0 0 (p.C.length+p.B.length) 1) Z Z Z Z (fun i j hi hj=> ?_) ?_
 ·obtain rfl:=Nat.lt_one_iff.1 hi
  match j,hj with
  |0,_=>exact .inr ⟨rfl,rfl⟩
  |1,_=>exact .inl rfl
  |2,_=>exact .inl rfl
  |3,_=>exact .inl rfl
  |4,_=>exact .inl rfl
 generalize hGG:([some ⟨155,.box [.ro (zd p.A) 0 p.A.length,.ro (qsC p.B) 0 p.B.length,.ro (qsC p.C) 0 p.C.length]⟩,some ⟨3,zCJ (zAf p.B p.B.length)⟩]:zO)=G
 refine zAs (zg G (some ⟨114,nsC []⟩) (N+1) (p.C.length+p.B.length) 0 [] 1 [] []) (by subst hGG;rfl) ?_
 refine zv 2 (.ptr G.length 0 0) rfl (AEq.of_eq (by subst hGG;rfl)) ?_
 refine zv 3 (.sl (G.length+1) 0 0) rfl (AEq.of_eq (by subst hGG;rfl)) ?_
 have hG2:G.length=2:=by subst hGG;rfl
 have hG:OkG G:=by
  rw [←hGG]
  intro m hm o ho
  rcases List.mem_cons.1 ho with e|e
  ·cases e;exact zIp p _
  ·cases List.mem_singleton.1 e;exact fun i j _ _=>rfl
 have hFG: ∀h,zp h G=G:=fun h=>by subst hGG;rfl
 have hg0: ∀F kk X β T,(zg G F (N+1) (p.C.length+p.B.length) kk X 1 β T)[0]? =some (some ⟨155,.box [.ro (zd p.A) 0 p.A.length,.ro (qsC p.B) 0 p.B.length,.ro (qsC p.C) 0 p.C.length]⟩):=fun F kk X β T=>by subst hGG;rfl
 generalize hnd:zAf p.B p.B.length=nd at*
 have hg1: ∀F kk X β T,(zg G F (N+1) (p.C.length+p.B.length) kk X 1 β T)[1]? =some (some ⟨3,zCJ nd⟩):=fun F kk X β T=>by subst hGG;rfl
 have hAB:p.A.length=p.B.length:=hp.rows
 repeat (refine zAJ ?_)
 refine zb (ι:=Nat) (fun i=>[(1,.ptr 0 0 0),(2,.ptr G.length 0 0),(3,.sl (G.length+1) 0 i),(5,iN p.C.length),(6,iN p.B.length),(7,.sl 1 0 nd.length),(46,.ro (zd p.A) 0 p.A.length),(47,iN p.A.length),(48,iN i)]) (fun i=>zg G (some ⟨114,nsC ((List.range i).map p.fac)⟩) (N+1) (p.C.length+p.B.length) i ((zBO p).take i) 1 ((zBr p).take i) []) (fun i=>i≤p.B.length) (fun i=>p.B.length-i) 0 ⟨⟨Z,Z,Z,Z,Z,Z,Z,Z,Z,trivial⟩,Z,Nat.zero_le _⟩ ?_
 intro i hi
 repeat (first|refine zV ?_|refine zG ?_|refine zAL ?_|refine zl rfl ?_|refine zL (zDS rfl rfl) ?_)
 refine zB Z (fun h=> ?_) (fun h=> ?_)
 ·have hi':i<p.B.length:=kK
  have hTl:(zBO p).length=p.B.length:=zCt p
  have hBl:(zBr p).length=p.B.length:=zHF p
  have hX1:=zLp (zBO p) [] (i:=i) kK
  have hβ1:=zLp (zBr p) 0 (i:=i) kK
  have hXl:((zBO p).take i).length=i:=by rw [List.length_take,hTl];omega
  have hβl:((zBr p).take i).length=i:=by rw [List.length_take,hBl];omega
  have hf1:(List.range (i+1)).map p.fac=(List.range i).map p.fac++[p.fac i]:=by rw [List.range_succ,List.map_append];rfl
  have hfl:((List.range i).map p.fac).length=i:=kJ
  have hXv:(zBO p).getD i []=zDb p.C.length p.B.length nd.length (p.whole i) i (p.neg i) (zBt p.B i):=by rw [←hnd];exact zDp hi'
  have hβv:(zBr p).getD i 0=if p.neg i then p.C.length+p.B.length+zBt p.B i else p.C.length+i:=zHE p hi'
  rw [hXv] at hX1
  rw [hβv] at hβ1
  generalize hX2:(zBO p).take (i+1)=X2 at*
  generalize (zBO p).take i=X at*
  generalize hβ2:(zBr p).take (i+1)=β2 at*
  generalize (zBr p).take i=β at*
  generalize hfs2:(List.range (i+1)).map p.fac=fs2 at*
  generalize (List.range i).map p.fac=fs at*
  have hlen: ∀T,(zg G (some ⟨114,nsC fs⟩) (N+1) (p.C.length+p.B.length) i X 1 β T).length=G.length+4+i+T.length:=fun T=>by rw [zBP,hXl]
  have hFf: ∀h (l:List Nat),zA3 h (some (⟨114,nsC l⟩:AObj))=some ⟨114,nsC l⟩:=fun h l=>by show some (⟨_,(nsC l).forget h⟩:AObj)=_;rw [nsC_fg]
  have hlen0:(zg G (some ⟨114,nsC fs⟩) (N+1) (p.C.length+p.B.length) i X 1 β []).length=G.length+4+i:=by rw [zBP,hXl];rfl
  have hrl:(p.A.getD i []).length=p.C.length:=hp.cols _ (z8 [] kK)
  have hful:p.full i=p.A.getD i []++[p.B.getD i 0]:=rfl
  have hfull:(p.full i).length=p.C.length+1:=zEb p hp hi'
  have hfD:=zPx hp hk hi'
  have hWl:(p.whole i).length=p.C.length+1:=by unfold Prog.whole;rw [zHJ];exact hfull
  have hWe:zAt (p.full i)=p.whole i:=rfl
  have hFe:zDD 1 (p.full i)=p.fac i:=rfl
  have cl:=cloneQ (p.A.getD i []) kK
  rw [hrl] at cl
  have cW:=zNy (p.full i) k hfD kK (by rw [hfull];have:k*(p.C.length+1)≤10000*41:=Nat.mul_le_mul hk40 kK;omega)
  rw [hfull,hWe,hFe] at cW
  rw [hful] at cW
  repeat (first|refine zL (zH rfl) ?_|refine zL (zf rfl) ?_|refine zV ?_|refine zG ?_|refine zAL ?_|refine zl rfl ?_|refine zAJ ?_|refine zBK ?_|refine zL (zBp rfl rfl rfl rfl) ?_|refine zL (zc rfl rfl rfl rfl (by first|(simp only [Nat.zero_add,Int.toNat_natCast,Int.toNat_zero];exact rfl)|exact rfl) kK) ?_)
  refine zv 11 (.ro (qsC (p.A.getD i [])) 0 p.C.length) Z (AEq.of_eq (by rw [←hrl];rfl)) ?_
  generalize p.A.getD i []=row at*
  have gB:=hg0 (some ⟨114,nsC fs⟩) i X β [some ⟨118,qsC row⟩]
  have gA:=hg0 (some ⟨114,nsC fs⟩) i X β []
  repeat (first|refine zL (zH rfl) ?_|refine zL (zf rfl) ?_|refine zV ?_|refine zG ?_|refine zAL ?_|refine zl rfl ?_|refine zBu rfl ?_|refine zAq rfl ?_|refine zAP ?_|refine zAU ?_|refine zAJ ?_|refine zBK ?_|refine zDf ?_|refine zBJ ?_|refine zBI ?_|refine zBa ?_|refine zBQ ?_|refine zL (zBp rfl rfl rfl rfl) ?_|refine zL (zY rfl rfl rfl rfl rfl) ?_|refine zL (zDS rfl rfl) ?_|refine zL (zHL rfl rfl) ?_|refine zL (zBh rfl rfl rfl) ?_|refine zL (zCZ rfl rfl kK) ?_|refine zL (zFl rfl rfl kK) ?_|refine zL (zc rfl rfl rfl rfl (by first|(simp only [Nat.zero_add,Int.toNat_natCast,Int.toNat_zero];exact rfl)|exact rfl) kK) ?_|refine zL (zBT rfl rfl rfl rfl rfl rfl) ?_|refine zL (zh rfl) ?_|refine zL (zN rfl rfl rfl rfl rfl rfl) ?_|refine zL (zAc rfl rfl rfl rfl rfl rfl) ?_|refine zL (qpp rfl rfl rfl rfl rfl rfl rfl) ?_|refine zL (qis rfl rfl rfl) ?_|refine zL (qas rfl rfl rfl rfl) ?_|refine zL (zAN rfl rfl rfl kW kY) ?_|refine ze rfl rfl rfl rfl rfl rfl rfl rfl rfl rfl rfl ?_|refine zGv rfl rfl ?_|refine zA7 rfl rfl rfl ?_)
  refine zZ kQ ?_
  refine zR 0 Z kQ kQ kQ Z (zH Z) Z ?_
  refine zR 2 Z kQ kQ kQ Z (zN Z Z Z Z Z Z) Z ?_
  refine zR 4 Z kQ kQ kQ Z (zH Z) Z ?_
  apply zn (H:=zg G (some ⟨114,nsC fs⟩) (N+1) (p.C.length+p.B.length) i X 1 β [some ⟨118,qsC row⟩]) [(1,.ptr 0 0 0),(2,.ptr G.length 0 0),(3,.sl (G.length+1) 0 i),(5,iN p.C.length),(6,iN p.B.length),(7,.sl 1 0 nd.length),(46,.ro (zd p.A) 0 p.A.length),(47,iN p.A.length),(48,iN i),(10,iN i),(55,.sl (G.length+4+i) 0 p.C.length),(61,.ro (zCE 1 3 (zJ (p.B.getD i 0))) 0 1)]
  ·intro fin
   refine zD (is:=[1,3]) kQ kJ Z ⟨fun o ho=> ?_,fun o ho=> ?_,trivial⟩
   all_goals (cases ho)
   ·refine zEk Z Z Z cl ?_
    refine zQ (zg G (some ⟨114,nsC fs⟩) (N+1) (p.C.length+p.B.length) i X 1 β [some ⟨118,qsC row⟩]) (by rw [zAk];rfl) ?_
    refine zE 55 (.sl (G.length+4+i) 0 p.C.length) Z (AEq.of_eq (by rw [hlen];rfl)) ?_
    repeat (first|refine zV ?_|refine zAU ?_)
    refine zFt (fuel:=7) [3,5,6,7] [(1,.ptr 0 0 0),(2,.ptr G.length 0 0),(3,.sl (G.length+1) 0 i),(5,iN p.C.length),(6,iN p.B.length),(7,.sl 1 0 nd.length),(46,.ro (zd p.A) 0 p.A.length),(47,iN p.A.length),(48,iN i),(10,iN i),(56,.ptr 0 0 1),(58,iN i),(55,.sl (G.length+4+i) 0 p.C.length)] ⟨Z,Z,Z,Z,Z,Z,Z,Z,Z,Z,Z,Z,Z,trivial⟩ kQ kV Z Z ?_
    refine zK Z Z (zAN Z Z Z kW kY) ?_
    refine zK Z Z (zc Z Z Z Z (by first|(simp only [Nat.zero_add,Int.toNat_natCast,Int.toNat_zero];exact Z)|exact Z) kK) ?_
    refine zK Z Z (zAc Z Z Z Z Z Z) ?_
    refine px_b Z Z Z Z Z Z Z Z Z Z Z Z Z ?_
    refine zz ?_
    exact fin _ ⟨Z,Z,Z,Z,Z,Z,Z,Z,Z,Z,Z,Z,trivial⟩
   ·repeat (first|refine zV ?_|refine zAU ?_|refine zL (zAN rfl rfl rfl kW kY) ?_)
    refine zD (is:=[1,5]) kQ kJ Z ⟨fun o ho=> ?_,fun o ho=> ?_,trivial⟩
    all_goals (cases ho)
    ·refine zEk Z Z Z cl ?_
     refine zQ (zg G (some ⟨114,nsC fs⟩) (N+1) (p.C.length+p.B.length) i X 1 β [some ⟨118,qsC row⟩]) (by rw [zAk];rfl) ?_
     refine zE 55 (.sl (G.length+4+i) 0 p.C.length) Z (AEq.of_eq (by rw [hlen];rfl)) ?_
     repeat (first|refine zV ?_|refine zAU ?_)
     refine zFt (fuel:=7) [5,6,7] [(1,.ptr 0 0 0),(2,.ptr G.length 0 0),(3,.sl (G.length+1) 0 i),(5,iN p.C.length),(6,iN p.B.length),(7,.sl 1 0 nd.length),(46,.ro (zd p.A) 0 p.A.length),(47,iN p.A.length),(48,iN i),(10,iN i),(56,.ptr 0 0 1),(58,iN i),(55,.sl (G.length+4+i) 0 p.C.length),(57,.ro (qsC p.B) 0 p.B.length)] ⟨Z,Z,Z,Z,Z,Z,Z,Z,Z,Z,Z,Z,Z,Z,trivial⟩ kQ kV Z Z ?_
     refine zK Z Z (zc Z Z Z Z (by first|(simp only [Nat.zero_add,Int.toNat_natCast,Int.toNat_zero];exact Z)|exact Z) kK) ?_
     refine zK Z Z (zAc Z Z Z Z Z Z) ?_
     refine px_b Z Z Z Z Z Z Z Z Z Z Z Z Z ?_
     refine zz ?_
     exact fin _ ⟨Z,Z,Z,Z,Z,Z,Z,Z,Z,Z,Z,Z,trivial⟩
    ·repeat (first|refine zV ?_|refine zAU ?_|refine zL (zc rfl rfl rfl rfl (by first|(simp only [Nat.zero_add,Int.toNat_natCast,Int.toNat_zero];exact rfl)|exact rfl) kK) ?_)
     refine zD (is:=[1,6]) kQ kJ Z ⟨fun o ho=> ?_,fun o ho=> ?_,trivial⟩
     all_goals (cases ho)
     ·refine zEk Z Z Z cl ?_
      refine zQ (zg G (some ⟨114,nsC fs⟩) (N+1) (p.C.length+p.B.length) i X 1 β [some ⟨118,qsC row⟩]) (by rw [zAk];rfl) ?_
      refine zE 55 (.sl (G.length+4+i) 0 p.C.length) Z (AEq.of_eq (by rw [hlen];rfl)) ?_
      repeat (first|refine zV ?_|refine zAU ?_)
      refine zFt (fuel:=7) [6,7] [(1,.ptr 0 0 0),(2,.ptr G.length 0 0),(3,.sl (G.length+1) 0 i),(5,iN p.C.length),(6,iN p.B.length),(7,.sl 1 0 nd.length),(46,.ro (zd p.A) 0 p.A.length),(47,iN p.A.length),(48,iN i),(10,iN i),(56,.ptr 0 0 1),(58,iN i),(55,.sl (G.length+4+i) 0 p.C.length),(59,.rp (qsC p.B) i 0)] ⟨Z,Z,Z,Z,Z,Z,Z,Z,Z,Z,Z,Z,Z,Z,trivial⟩ kQ kV Z Z ?_
      refine zK Z Z (zAc Z Z Z Z Z Z) ?_
      refine px_b Z Z Z Z Z Z Z Z Z Z Z Z Z ?_
      refine zz ?_
      exact fin _ ⟨Z,Z,Z,Z,Z,Z,Z,Z,Z,Z,Z,Z,trivial⟩
     ·repeat (first|refine zV ?_|refine zAU ?_|refine zL (zAc rfl rfl rfl rfl rfl rfl) ?_)
      refine zD (is:=[1,7]) kQ kJ Z ⟨fun o ho=> ?_,fun o ho=> ?_,trivial⟩
      all_goals (cases ho)
      ·refine zEk Z Z Z cl ?_
       refine zQ (zg G (some ⟨114,nsC fs⟩) (N+1) (p.C.length+p.B.length) i X 1 β [some ⟨118,qsC row⟩]) (by rw [zAk];rfl) ?_
       refine zE 55 (.sl (G.length+4+i) 0 p.C.length) Z (AEq.of_eq (by rw [hlen];rfl)) ?_
       repeat (first|refine zV ?_|refine zAU ?_)
       refine zFt (fuel:=7) [7] [(1,.ptr 0 0 0),(2,.ptr G.length 0 0),(3,.sl (G.length+1) 0 i),(5,iN p.C.length),(6,iN p.B.length),(7,.sl 1 0 nd.length),(46,.ro (zd p.A) 0 p.A.length),(47,iN p.A.length),(48,iN i),(10,iN i),(56,.ptr 0 0 1),(58,iN i),(55,.sl (G.length+4+i) 0 p.C.length),(60,.agg (zJ (p.B.getD i 0)))] ⟨Z,Z,Z,Z,Z,Z,Z,Z,Z,Z,Z,Z,Z,Z,trivial⟩ kQ kV Z Z ?_
       refine px_b Z Z Z Z Z Z Z Z Z Z Z Z Z ?_
       refine zz ?_
       exact fin _ ⟨Z,Z,Z,Z,Z,Z,Z,Z,Z,Z,Z,Z,trivial⟩
      ·repeat (first|refine zV ?_|refine zAU ?_|refine ze rfl rfl rfl rfl rfl rfl rfl rfl rfl rfl rfl ?_)
       refine zD (is:=[1]) kQ kJ Z ⟨fun o ho=> ?_,trivial⟩
       all_goals (cases ho)
       refine zEk Z Z Z cl ?_
       refine zQ (zg G (some ⟨114,nsC fs⟩) (N+1) (p.C.length+p.B.length) i X 1 β [some ⟨118,qsC row⟩]) (by rw [zAk];rfl) ?_
       refine zE 55 (.sl (G.length+4+i) 0 p.C.length) Z (AEq.of_eq (by rw [hlen];rfl)) ?_
       repeat (first|refine zV ?_|refine zAU ?_)
       exact fin _ ⟨Z,Z,Z,Z,Z,Z,Z,Z,Z,Z,Z,Z,trivial⟩
  refine zD (is:=[8]) kQ kJ Z ⟨fun o ho=> ?_,trivial⟩
  all_goals (cases ho)
  have q0:=zAl (G:=G) (F:=(some ⟨114,nsC fs⟩)) (L:=N+1) (w:=p.C.length+p.B.length) (k:=i) (X:=X) (d:=1) (β:=β) (T:=[some ⟨118,qsC row⟩]) 0
  rw [hXl,Nat.add_zero] at q0
  have hol:(qsC row).len=p.C.length:=hrl
  refine zq Z Z Z Z Z Z Z q0 Z hol Z Z (by show 0+1≤1;omega) Z (by show (p.C.length+1)*56≤_∧_;omega) ?_ (by rw [hfix];exact fun h=>h) ?_
  ·intro i' j' hi' hj'
   exact zAM 0 3 zJ zu row _ _ (zBi _) _ i' j' hi' hj'
  refine zB8 ((62,.sl (G.length+4+i) 0 (p.C.length+1))::[(1,.ptr 0 0 0),(2,.ptr G.length 0 0),(3,.sl (G.length+1) 0 i),(5,iN p.C.length),(6,iN p.B.length),(7,.sl 1 0 nd.length),(46,.ro (zd p.A) 0 p.A.length),(47,iN p.A.length),(48,iN i),(10,iN i)]) ⟨Z,zA4 (h:=G.length+4+i) (L:=[(1,.ptr 0 0 0),(2,.ptr G.length 0 0),(3,.sl (G.length+1) 0 i),(5,iN p.C.length),(6,iN p.B.length),(7,.sl 1 0 nd.length),(46,.ro (zd p.A) 0 p.A.length),(47,iN p.A.length),(48,iN i),(10,iN i)]) ⟨Z,Z,Z,Z,Z,Z,Z,Z,Z,Z,trivial⟩ (by
   intro q hq
   simp only [List.mem_cons,List.mem_nil_iff,or_false] at hq
   rcases hq with rfl|rfl|rfl|rfl|rfl|rfl|rfl|rfl|rfl|rfl<;>simp [AV.forget,z7 (show G.length≠G.length+4+i by omega),z7 (show G.length+1≠G.length+4+i by omega),z7 (show 0≠G.length+4+i by omega),z7 (show 1≠G.length+4+i by omega)])⟩ ?_
  refine zAD (zg G (some ⟨114,nsC fs⟩) (N+1) (p.C.length+p.B.length) i X 1 β [some ⟨118,qsC (row++[p.B.getD i 0])⟩]) (by
   have q:=zLs (G:=G) (F:=some ⟨114,nsC fs⟩) (L:=N+1) (w:=p.C.length+p.B.length) (k:=i) (X:=X) (d:=1) (β:=β) (y:=some ⟨118,qsC row⟩) (t:=118) (hFG _) (hFf _ _) (zAV 0 3 zJ row (p.B.getD i 0) _ (zBi (p.B.getD i 0)))
   rw [hXl] at q
   exact q) ?_
  repeat (first|refine zV ?_|refine zAU ?_)
  refine zD (is:=[9]) kQ kJ Z ⟨fun o ho=> ?_,trivial⟩
  all_goals (cases ho)
  have q1:=zAl (G:=G) (F:=(some ⟨114,nsC fs⟩)) (L:=N+1) (w:=p.C.length+p.B.length) (k:=i) (X:=X) (d:=1) (β:=β) (T:=[some ⟨118,qsC (row++[p.B.getD i 0])⟩]) 0
  rw [hXl,Nat.add_zero] at q1
  refine zDg (G.length+4+i) 62 (p.C.length+1) [(1,.ptr 0 0 0),(2,.ptr G.length 0 0),(3,.sl (G.length+1) 0 i),(5,iN p.C.length),(6,iN p.B.length),(7,.sl 1 0 nd.length),(46,.ro (zd p.A) 0 p.A.length),(47,iN p.A.length),(48,iN i),(10,iN i)] q1 (zAT _) Z (by show p.C.length+1≤(row++[p.B.getD i 0]).length;rw [List.length_append,hrl];exact Nat.le_refl _) ⟨Z,Z,Z,Z,Z,Z,Z,Z,Z,Z,trivial⟩ ?_
  refine zQ (zg G (some ⟨114,nsC fs⟩) (N+1) (p.C.length+p.B.length) i X 1 β [none]) (by have q:=zAW (G:=G) (F:=(some ⟨114,nsC fs⟩)) (L:=N+1) (w:=p.C.length+p.B.length) (k:=i) (X:=X) (d:=1) (β:=β) (T:=[some ⟨118,qsC (row++[p.B.getD i 0])⟩]) 0 none;rw [hXl,Nat.add_zero] at q;exact q) ?_
  refine zGQ (.tup [.sl (G.length+4+i+1) 0 (p.C.length+1),zm (p.fac i)]) (zg G (some ⟨114,nsC fs⟩) (N+1) (p.C.length+p.B.length) i X 1 β [none,some ⟨116,zC (p.whole i)⟩]) Z Z Z cW (by rw [hlen];show AV.tup [AV.sl (0+(G.length+4+i+1)) 0 _,_]=_;rw [Nat.zero_add];rfl) (by show _++[some (⟨_,(zC (p.whole i)).shift _⟩:AObj)]=_;rw [zIR,zAk];rfl) ?_
  repeat (first|refine zV ?_|refine zAU ?_)
  refine zR 10 Z kQ kQ kQ Z (zH Z) Z ?_
  refine zR 11 Z kQ kQ kQ Z (zCB Z Z) Z ?_
  refine zR 12 Z kQ kQ kQ Z (zCB Z Z) Z ?_
  refine zR 13 Z kQ kQ kQ Z (zf Z) Z ?_
  refine zR 14 Z kQ kQ kQ Z (zf Z) Z ?_
  refine zT kQ ?_
  repeat (refine zG ?_)
  clear q0 q1 cl cW gB gA
  generalize p.whole i=W at*
  generalize p.fac i=fc at*
  have q2:=tb_fac (G:=G) (F:=(some ⟨114,nsC fs⟩)) (L:=N+1) (w:=p.C.length+p.B.length) (k:=i) (X:=X) (d:=1) (β:=β) (T:=[none,some ⟨116,zC W⟩])
  have hol2:(nsC fs).len=i:=hfl
  repeat (first|refine zL (zH rfl) ?_|refine zAL ?_|refine zl rfl ?_|refine ze rfl rfl rfl rfl rfl rfl rfl rfl rfl rfl rfl ?_)
  refine zq Z Z Z Z Z Z Z q2 Z hol2 Z Z (by show 0+1≤1;omega) Z (by show (i+1)*24≤_∧_;omega) ?_ (by rw [hfix];exact fun h=>h) ?_
  ·intro i' j' hi' hj'
   exact zAM 0 1 (fun n:Nat=>[zm n]) zQD fs fc _ (rowN1 fc) _ i' j' hi' hj'
  refine zB8 ((69,.sl (G.length+1) 0 (i+1))::[(1,.ptr 0 0 0),(2,.ptr G.length 0 0),(5,iN p.C.length),(6,iN p.B.length),(7,.sl 1 0 nd.length),(46,.ro (zd p.A) 0 p.A.length),(47,iN p.A.length),(48,iN i),(10,iN i),(12,.sl (G.length+4+i+1) 0 (p.C.length+1)),(13,zm fc)]) ⟨Z,zA4 (h:=G.length+1) (L:=[(1,.ptr 0 0 0),(2,.ptr G.length 0 0),(5,iN p.C.length),(6,iN p.B.length),(7,.sl 1 0 nd.length),(46,.ro (zd p.A) 0 p.A.length),(47,iN p.A.length),(48,iN i),(10,iN i),(12,.sl (G.length+4+i+1) 0 (p.C.length+1)),(13,zm fc)]) ⟨Z,Z,Z,Z,Z,Z,Z,Z,Z,Z,Z,trivial⟩ (by
   intro q hq
   simp only [List.mem_cons,List.mem_nil_iff,or_false] at hq
   rcases hq with rfl|rfl|rfl|rfl|rfl|rfl|rfl|rfl|rfl|rfl|rfl<;>simp [AV.forget,zm,z7 (show 0≠G.length+1 by omega),z7 (show 1≠G.length+1 by omega),z7 (show G.length≠G.length+1 by omega),z7 (show G.length+4+i+1≠G.length+1 by omega)])⟩ ?_
  refine zAD (zg G (some ⟨114,nsC fs2⟩) (N+1) (p.C.length+p.B.length) i X 1 β [none,some ⟨116,zC W⟩]) (by
   rw [hf1]
   exact zLr (hFG _) (zAV 0 1 (fun n:Nat=>[zm n]) fs fc _ (rowN1 fc)) (by show zP [none,some (⟨_,(zC W).forget _⟩:AObj)] _;rw [zBZ];exact zP.refl _)) ?_
  clear hf1 hol2 q2
  have hfs2':=hfs2
  clear hfs2
  have hlen2: ∀T,(zg G (some ⟨114,nsC fs2⟩) (N+1) (p.C.length+p.B.length) i X 1 β T).length=G.length+4+i+T.length:=fun T=>by rw [zBP,hXl]
  repeat (first|refine zL (zH rfl) ?_|refine zL (zf rfl) ?_|refine zV ?_|refine zG ?_|refine zAL ?_|refine zl rfl ?_|refine zL (zBh rfl rfl rfl) ?_|refine zL (zCZ rfl rfl kK) ?_)
  refine zE 76 (.int .i64 ((N+1:Nat))) Z (AEq.of_eq (by show AV.int _ _=AV.int _ _;congr 1;omega)) ?_
  refine zBv Z Z Z Z Z Z Z Z (by show (0:Int)≤_∧_≤_∧(32:Int)*_≤_∧_;omega) ?_
  refine zGw (zg G (some ⟨114,nsC fs2⟩) (N+1) (p.C.length+p.B.length) i X 1 β [none,some ⟨116,zC W⟩]++[some ⟨116,zC (List.replicate (N+1) 0)⟩]) (by simp only [List.length_append,List.length_cons,List.length_nil]) zI5 ?_
  refine zQ (zg G (some ⟨114,nsC fs2⟩) (N+1) (p.C.length+p.B.length) i X 1 β [none,some ⟨116,zC W⟩,some ⟨116,zC (List.replicate (N+1) 0)⟩]) (by rw [zAk];rfl) ?_
  refine zE 77 (.sl (G.length+4+i+2) 0 (N+1)) Z (AEq.of_eq (by rw [hlen2];rfl)) ?_
  repeat (first|refine zL (zf rfl) ?_|refine zV ?_|refine zG ?_|refine zAL ?_)
  apply zAX (H:=zg G (some ⟨114,nsC fs2⟩) (N+1) (p.C.length+p.B.length) i X 1 β [none,some ⟨116,zC W⟩,some ⟨116,zC (zEs p.C.length N W)⟩]) [(1,.ptr 0 0 0),(2,.ptr G.length 0 0),(3,.sl (G.length+1) 0 (i+1)),(5,iN p.C.length),(6,iN p.B.length),(7,.sl 1 0 nd.length),(46,.ro (zd p.A) 0 p.A.length),(47,iN p.A.length),(48,iN i),(10,iN i),(12,.sl (G.length+4+i+1) 0 (p.C.length+1)),(14,.sl (G.length+4+i+2) 0 (N+1))]
  ·intro fin
   have q3:=zAl (G:=G) (F:=(some ⟨114,nsC fs2⟩)) (L:=N+1) (w:=p.C.length+p.B.length) (k:=i) (X:=X) (d:=1) (β:=β) (T:=[none,some ⟨116,zC W⟩,some ⟨116,zC (List.replicate (N+1) 0)⟩]) 1
   have q4:=zAl (G:=G) (F:=(some ⟨114,nsC fs2⟩)) (L:=N+1) (w:=p.C.length+p.B.length) (k:=i) (X:=X) (d:=1) (β:=β) (T:=[none,some ⟨116,zC W⟩,some ⟨116,zC (List.replicate (N+1) 0)⟩]) 2
   rw [hXl] at q3 q4
   repeat (first|refine zL (zH rfl) ?_|refine zl rfl ?_)
   refine zL (zF3 Z Z q3 Z Z Z Z Z ⟨Z,kK,kK⟩) ?_
   by_cases hn0:p.C.length=0
   ·rw [show zEs p.C.length N W=List.replicate (N+1) 0 by rw [hn0];exact zQH] at fin
    refine zE 81 (.sl (G.length+4+i+1) 0 0) Z (AEq.of_eq (by show AV.sl _ 0 p.C.length=_;rw [hn0])) ?_
    refine ax_copy0 Z Z Z Z ?_
    repeat (first|refine zV ?_|refine zG ?_)
    exact fin _ ⟨Z,Z,Z,Z,Z,Z,Z,Z,Z,Z,Z,Z,trivial⟩
   ·refine zE 81 (.sl (G.length+4+i+1) 0 p.C.length) Z (AEq.of_eq Z) ?_
    refine ax_copy (c':=zC (zEs p.C.length N W)) (q:=p.C.length) Z Z Z Z q4 Z (zJd q3) (by show 0+(N+1)≤(List.replicate (N+1) (0:Int)).length;simp) kK (by show 0+p.C.length≤W.length;omega) kK (Nat.min_eq_left kK) Z Z (by show (zEs _ _ _).length=(List.replicate (N+1) (0:Int)).length;simp [zEs]) (fun i' j' hi' hj'=> ?_) ?_
    ·have hi2:i'<N+1:=by have hi':i'<(List.replicate (N+1) (0:Int)).length:=hi';simpa using hi'
     show (zo ((zEs p.C.length N W).getD i' 0)).getD j' .any=if 0≤i'∧i'<0+p.C.length then (zo (W.getD (0+(i'-0)) 0)).getD j' .any else (zo ((List.replicate (N+1) (0:Int)).getD i' 0)).getD j' .any
     rw [show (zEs p.C.length N W).getD i' 0=(if i'<p.C.length then W.getD i' 0 else 0) from zBN hi2,show (List.replicate (N+1) (0:Int)).getD i' 0=0 by simp [List.getD,hi2]]
     by_cases hh:i'<p.C.length
     ·rw [if_pos hh,if_pos ⟨Nat.zero_le _,kK⟩,Nat.zero_add,Nat.sub_zero]
     ·rw [if_neg hh,if_neg (fun q=>hh kK)]
    refine zQ (zg G (some ⟨114,nsC fs2⟩) (N+1) (p.C.length+p.B.length) i X 1 β [none,some ⟨116,zC W⟩,some ⟨116,zC (zEs p.C.length N W)⟩]) (by have q:=zAW (G:=G) (F:=(some ⟨114,nsC fs2⟩)) (L:=N+1) (w:=p.C.length+p.B.length) (k:=i) (X:=X) (d:=1) (β:=β) (T:=[none,some ⟨116,zC W⟩,some ⟨116,zC (List.replicate (N+1) 0)⟩]) 2 (some ⟨116,zC (zEs p.C.length N W)⟩);rw [hXl] at q;exact q) ?_
    repeat (first|refine zV ?_|refine zG ?_)
    exact fin _ ⟨Z,Z,Z,Z,Z,Z,Z,Z,Z,Z,Z,Z,trivial⟩
  have hO1:=zIJ p.C.length N W
  have hOb:((zEs p.C.length N W).set (p.C.length+i) 1).set N (W.getD p.C.length 0)=zE6 p.C.length p.B.length nd.length W i:=by rw [hN];exact out_base hi'
  have hbl:=zDr p.C.length p.B.length nd.length W i
  have hnb:=neg_base (n:=p.C.length) (m:=p.B.length) (a:=nd.length) (i:=i) (W:=W)
  have hrn:=fun hk=>row_neg (n:=p.C.length) (m:=p.B.length) (a:=nd.length) (i:=i) (k:=zBt p.B i) (W:=W) hk
  have hrp:=row_pos (n:=p.C.length) (m:=p.B.length) (a:=nd.length) (i:=i) (k:=zBt p.B i) (W:=W)
  rw [←hN] at hbl hnb
  generalize zEs p.C.length N W=O at*
  have q3:=zAl (G:=G) (F:=(some ⟨114,nsC fs2⟩)) (L:=N+1) (w:=p.C.length+p.B.length) (k:=i) (X:=X) (d:=1) (β:=β) (T:=[none,some ⟨116,zC W⟩,some ⟨116,zC O⟩]) 1
  have q4:=zAl (G:=G) (F:=(some ⟨114,nsC fs2⟩)) (L:=N+1) (w:=p.C.length+p.B.length) (k:=i) (X:=X) (d:=1) (β:=β) (T:=[none,some ⟨116,zC W⟩,some ⟨116,zC O⟩]) 2
  rw [hXl] at q3 q4
  have g1:p.C.length+i<(zC O).len:=by show _<O.length;omega
  repeat (first|refine zL (zH rfl) ?_|refine zAL ?_|refine zl rfl ?_|refine zL (zCZ rfl rfl kK) ?_)
  refine zE 86 (.int .i64 ((p.C.length+i:Nat))) Z (AEq.of_eq (by show AV.int _ _=AV.int _ _;congr 1)) ?_
  refine zA Z Z Z cw ?_
  repeat (refine zL (qis rfl rfl rfl) ?_)
  refine zt (c':=zC (O.set (p.C.length+i) 1)) Z Z Z q4 Z g1 (List.length_set ..) Z (zDe O (p.C.length+i) _) ?_
  refine zQ (zg G (some ⟨114,nsC fs2⟩) (N+1) (p.C.length+p.B.length) i X 1 β [none,some ⟨116,zC W⟩,some ⟨116,zC (O.set (p.C.length+i) 1)⟩]) (by have q:=zAW (G:=G) (F:=(some ⟨114,nsC fs2⟩)) (L:=N+1) (w:=p.C.length+p.B.length) (k:=i) (X:=X) (d:=1) (β:=β) (T:=[none,some ⟨116,zC W⟩,some ⟨116,zC O⟩]) 2 (some ⟨116,zC (O.set (p.C.length+i) 1)⟩);rw [hXl] at q;exact q) ?_
  clear q3 q4 g1
  have hO2:(O.set (p.C.length+i) 1).length=N+1:=by rw [List.length_set];exact hO1
  generalize O.set (p.C.length+i) 1=O2 at*
  have q3:=zAl (G:=G) (F:=(some ⟨114,nsC fs2⟩)) (L:=N+1) (w:=p.C.length+p.B.length) (k:=i) (X:=X) (d:=1) (β:=β) (T:=[none,some ⟨116,zC W⟩,some ⟨116,zC O2⟩]) 1
  have q4:=zAl (G:=G) (F:=(some ⟨114,nsC fs2⟩)) (L:=N+1) (w:=p.C.length+p.B.length) (k:=i) (X:=X) (d:=1) (β:=β) (T:=[none,some ⟨116,zC W⟩,some ⟨116,zC O2⟩]) 2
  rw [hXl] at q3 q4
  have g1:N<(zC O2).len:=by show _<O2.length;omega
  have g2:p.C.length<(zC W).len:=by show _<W.length;omega
  repeat (first|refine zL (zH rfl) ?_|refine zV ?_|refine zG ?_|refine zAL ?_|refine zl rfl ?_|refine zL (zBh rfl rfl rfl) ?_|refine zL (zFl rfl rfl kK) ?_)
  refine zE 92 (iN N) Z (AEq.of_eq (by show AV.int _ (((N+1:Nat):Int)-1)=AV.int _ _;congr 1;omega)) ?_
  repeat (first|refine zL (qis rfl rfl rfl) ?_|refine zL (qas rfl rfl rfl rfl) ?_)
  refine zE 96 (.agg (zo (W.getD p.C.length 0))) Z (AEq.of_eq Z) ?_
  refine zt (c':=zC (O2.set N (W.getD p.C.length 0))) Z Z Z q4 Z g1 (List.length_set ..) Z (zDe O2 N _) ?_
  refine zQ (zg G (some ⟨114,nsC fs2⟩) (N+1) (p.C.length+p.B.length) i X 1 β [none,some ⟨116,zC W⟩,some ⟨116,zC (zE6 p.C.length p.B.length nd.length W i)⟩]) (by have q:=zAW (G:=G) (F:=(some ⟨114,nsC fs2⟩)) (L:=N+1) (w:=p.C.length+p.B.length) (k:=i) (X:=X) (d:=1) (β:=β) (T:=[none,some ⟨116,zC W⟩,some ⟨116,zC O2⟩]) 2 (some ⟨116,zC (O2.set N (W.getD p.C.length 0))⟩);rw [hXl,hOb] at q;rw [hOb];exact q) ?_
  clear q3 q4 g1 g2 hOb
  generalize zE6 p.C.length p.B.length nd.length W i=Bs at*
  have f1:=zBH (G:=G) (F:=(some ⟨114,nsC fs2⟩)) (L:=N+1) (w:=p.C.length+p.B.length) (k:=i) (X:=X) (d:=1) (β:=β) (T:=[none,some ⟨116,zC W⟩,some ⟨116,zC Bs⟩])
  repeat (first|refine zL (zH rfl) ?_|refine zV ?_|refine zG ?_|refine zAL ?_|refine zl rfl ?_|refine zL (zCZ rfl rfl kK) ?_|refine zL (zh rfl) ?_|refine zL (zN rfl rfl rfl rfl rfl rfl) ?_|refine zL (zAN rfl rfl rfl kW kY) ?_)
  refine zE 105 (.int .i64 ((p.C.length+i:Nat))) Z (AEq.of_eq (by show AV.int _ _=AV.int _ _;congr 1)) ?_
  have q5:=zGN (G:=G) (F:=(some ⟨114,nsC fs2⟩)) (L:=N+1) (w:=p.C.length+p.B.length) (k:=i) (X:=X) (d:=1) (β:=β) (T:=[none,some ⟨116,zC W⟩,some ⟨116,zC Bs⟩])
  have hol5:(zCJ β).len=β.length:=List.length_map ..
  repeat (refine ze rfl rfl rfl rfl rfl rfl rfl rfl rfl rfl rfl ?_)
  refine zq Z Z Z Z Z Z Z q5 Z hol5 Z Z (by show 0+1≤1;omega) Z (by show (β.length+1)*8≤_∧_;omega) (fun _ _ _ _=>rfl) (by rw [hfix];exact fun h=>h) ?_
  refine zB8 ((107,.sl (G.length+2) 0 (β.length+1))::(98,.ptr G.length 0 0)::[(1,.ptr 0 0 0),(2,.ptr G.length 0 0),(3,.sl (G.length+1) 0 (i+1)),(5,iN p.C.length),(6,iN p.B.length),(7,.sl 1 0 nd.length),(46,.ro (zd p.A) 0 p.A.length),(47,iN p.A.length),(48,iN i),(10,iN i),(14,.sl (G.length+4+i+2) 0 (N+1))]) ⟨Z,zA4 (h:=G.length+2) (L:=(98,.ptr G.length 0 0)::[(1,.ptr 0 0 0),(2,.ptr G.length 0 0),(3,.sl (G.length+1) 0 (i+1)),(5,iN p.C.length),(6,iN p.B.length),(7,.sl 1 0 nd.length),(46,.ro (zd p.A) 0 p.A.length),(47,iN p.A.length),(48,iN i),(10,iN i),(14,.sl (G.length+4+i+2) 0 (N+1))]) ⟨Z,Z,Z,Z,Z,Z,Z,Z,Z,Z,Z,Z,trivial⟩ (by
   intro q hq
   simp only [List.mem_cons,List.mem_nil_iff,or_false] at hq
   rcases hq with rfl|rfl|rfl|rfl|rfl|rfl|rfl|rfl|rfl|rfl|rfl|rfl<;>simp [AV.forget,z7 (show 0≠G.length+2 by omega),z7 (show 1≠G.length+2 by omega),z7 (show G.length≠G.length+2 by omega),z7 (show G.length+1≠G.length+2 by omega),z7 (show G.length+4+i+2≠G.length+2 by omega)])⟩ ?_
  refine zAD (zLo G (some ⟨114,nsC fs2⟩) (N+1) (p.C.length+p.B.length) i X 1 (β++[p.C.length+i]) [none,some ⟨116,zC W⟩,some ⟨116,zC Bs⟩]) (zLq (hFG _) (hFf _ _) (zMm β (p.C.length+i)) (by show zP [none,some (⟨_,(zC W).forget _⟩:AObj),some (⟨_,(zC Bs).forget _⟩:AObj)] _;rw [zBZ,zBZ];exact zP.refl _)) ?_
  refine zE 107 (.sl (G.length+2) 0 (β++[p.C.length+i]).length) Z (AEq.of_eq (by rw [List.length_append];rfl)) ?_
  repeat (first|refine zL (zh rfl) ?_|refine zL (zN rfl rfl rfl rfl rfl rfl) ?_)
  refine zBw Z Z Z Z bas_box Z Z Nat.zero_lt_one ?_
  refine zQ (zg G (some ⟨114,nsC fs2⟩) (N+1) (p.C.length+p.B.length) i X 1 (β++[p.C.length+i]) [none,some ⟨116,zC W⟩,some ⟨116,zC Bs⟩]) bas_set ?_
  clear f1 q5 hol5
  have ci:=indexI (nd.map (fun a:Nat=>(a:Int))) (i:Nat) (by rw [List.length_map];omega)
  have hid:=need_idx p.B hi'
  rw [hnd] at hid
  rw [hid,List.length_map] at ci
  repeat (first|refine zL (zH rfl) ?_|refine zV ?_|refine zG ?_|refine zAL ?_|refine zl rfl ?_)
  refine zRo [none,some ⟨3,zCJ nd⟩] Z Z Z Z ci (fun h o ho=>by
   match h,ho with
   |1,ho=>cases ho;exact hg1 _ _ _ _ _) (fun h o ho=>by
   match h,ho with
   |1,ho=>cases ho;exact zAZ) ⟨fun o ho=>by cases ho;show 0+nd.length≤(nd.map _).length;rw [List.length_map];omega,trivial,trivial⟩ rfl rfl rfl ?_
  repeat (first|refine zL (zf rfl) ?_|refine zV ?_|refine zG ?_)
  clear hid ci hβv hXv
  have hneg:p.neg i=decide ((p.B.getD i 0).num<0):=rfl
  apply zAX (H:=zg G (some ⟨114,nsC fs2⟩) (N+1) (p.C.length+p.B.length) i X 1 β2 [none,some ⟨116,zC W⟩,some ⟨116,zC (zDb p.C.length p.B.length nd.length W i (p.neg i) (zBt p.B i))⟩]) [(1,.ptr 0 0 0),(2,.ptr G.length 0 0),(3,.sl (G.length+1) 0 (i+1)),(5,iN p.C.length),(6,iN p.B.length),(7,.sl 1 0 nd.length),(46,.ro (zd p.A) 0 p.A.length),(47,iN p.A.length),(48,iN i),(10,iN i),(14,.sl (G.length+4+i+2) 0 (N+1))]
  ·intro fin
   by_cases hng:(p.B.getD i 0).num<0
   ·have hka:zBt p.B i<nd.length:=by rw [←hnd];exact zJr hng hi'
    rw [hneg,decide_eq_true hng] at fin
    rw [hneg,decide_eq_true hng,if_pos rfl] at hβ1
    rw [←hrn hka] at fin
    refine zv 15 (iN (zBt p.B i)) Z (AEq.of_eq (by rw [if_pos hng])) ?_
    repeat (first|refine zL (zH rfl) ?_|refine zV ?_|refine zG ?_|refine zAL ?_|refine zl rfl ?_|refine zBu rfl ?_|refine zAJ ?_|refine zL (zHL rfl rfl) ?_|refine zL (zBh rfl rfl rfl) ?_)
    refine zb (ι:=Nat) (fun j=>[(1,.ptr 0 0 0),(2,.ptr G.length 0 0),(3,.sl (G.length+1) 0 (i+1)),(5,iN p.C.length),(6,iN p.B.length),(7,.sl 1 0 nd.length),(46,.ro (zd p.A) 0 p.A.length),(47,iN p.A.length),(48,iN i),(10,iN i),(14,.sl (G.length+4+i+2) 0 (N+1)),(15,iN (zBt p.B i)),(116,.int .i64 ((N+1:Nat))),(117,iN j)]) (fun j=>zg G (some ⟨114,nsC fs2⟩) (N+1) (p.C.length+p.B.length) i X 1 (β++[p.C.length+i]) [none,some ⟨116,zC W⟩,some ⟨116,zC (chg (fun j=> -(Bs.getD j 0)) 0 Bs j)⟩]) (fun j=>j≤N+1) (fun j=>N+1-j) 0 ⟨⟨Z,Z,Z,Z,Z,Z,Z,Z,Z,Z,Z,Z,Z,Z,trivial⟩,by rw [zDU],Nat.zero_le _⟩ ?_
    intro j hj
    repeat (first|refine zV ?_|refine zG ?_|refine zAL ?_|refine zl rfl ?_|refine zL (zDS rfl rfl) ?_)
    refine zB Z (fun h9=> ?_) (fun h9=> ?_)
    ·have hj':j<N+1:=kK
     have hgj:=zDN (fun j=> -(Bs.getD j 0)) 0 Bs (k:=j) (i:=j) kK
     rw [if_neg (Nat.lt_irrefl j)] at hgj
     have hsj:=zD8 (fun j=> -(Bs.getD j 0)) 0 Bs (k:=j) kK
     have hlj:=zC7 (fun j=> -(Bs.getD j 0)) 0 Bs j
     rw [←hgj] at hsj
     generalize chg (fun j=> -(Bs.getD j 0)) 0 Bs j=Y at*
     have q4:=zAl (G:=G) (F:=(some ⟨114,nsC fs2⟩)) (L:=N+1) (w:=p.C.length+p.B.length) (k:=i) (X:=X) (d:=1) (β:=(β++[p.C.length+i])) (T:=[none,some ⟨116,zC W⟩,some ⟨116,zC Y⟩]) 2
     rw [hXl] at q4
     have g1:j<(zC Y).len:=by show j<Y.length;omega
     have co:=zG3 (Y.getD j 0)
     repeat (first|refine zL (zH rfl) ?_|refine zL (zf rfl) ?_|refine zV ?_|refine zG ?_|refine zAL ?_|refine zl rfl ?_|refine zAJ ?_|refine zBK ?_|refine zL (qis rfl rfl rfl) ?_|refine zL (qas rfl rfl rfl rfl) ?_)
     refine zE 125 (zBF (Y.getD j 0)) Z (AEq.of_eq Z) ?_
     refine zA Z Z Z co ?_
     repeat (refine zL (qis rfl rfl rfl) ?_)
     refine zt (c':=zC (Y.set j (-(Y.getD j 0)))) Z Z Z q4 Z g1 (List.length_set ..) Z (zDe Y j _) ?_
     refine zQ (zg G (some ⟨114,nsC fs2⟩) (N+1) (p.C.length+p.B.length) i X 1 (β++[p.C.length+i]) [none,some ⟨116,zC W⟩,some ⟨116,zC (Y.set j (-(Y.getD j 0)))⟩]) (by have q:=zAW (G:=G) (F:=(some ⟨114,nsC fs2⟩)) (L:=N+1) (w:=p.C.length+p.B.length) (k:=i) (X:=X) (d:=1) (β:=(β++[p.C.length+i])) (T:=[none,some ⟨116,zC W⟩,some ⟨116,zC Y⟩]) 2 (some ⟨116,zC (Y.set j (-(Y.getD j 0)))⟩);rw [hXl] at q;exact q) ?_
     repeat (first|refine zL (zH rfl) ?_|refine zV ?_|refine zG ?_|refine zl rfl ?_|refine zAP ?_|refine zL (zCZ rfl rfl kK) ?_)
     exact zI ⟨j+1,kK,kK,⟨Z,Z,Z,Z,Z,Z,Z,Z,Z,Z,Z,Z,Z,Z,trivial⟩,by rw [←hsj]⟩
    ·have hje:j=N+1:=kK
     rw [hje,hnb]
     have hNl:(Bs.map (fun x=> -x)).length=N+1:=by rw [List.length_map];omega
     have q4:=zAl (G:=G) (F:=(some ⟨114,nsC fs2⟩)) (L:=N+1) (w:=p.C.length+p.B.length) (k:=i) (X:=X) (d:=1) (β:=(β++[p.C.length+i])) (T:=[none,some ⟨116,zC W⟩,some ⟨116,zC (Bs.map (fun x=> -x))⟩]) 2
     rw [hXl] at q4
     have g1:p.C.length+p.B.length+zBt p.B i<(zC (Bs.map (fun x=> -x))).len:=by show _<(Bs.map (fun x=> -x)).length;omega
     repeat (first|refine zL (zH rfl) ?_|refine zV ?_|refine zG ?_|refine zAL ?_|refine zl rfl ?_|refine zBK ?_|refine zDf ?_|refine zBJ ?_|refine zBI ?_|refine zBa ?_|refine zL (zCZ rfl rfl kK) ?_)
     refine zE 134 (.int .i64 ((p.C.length+p.B.length+zBt p.B i:Nat))) Z (AEq.of_eq (by show AV.int _ _=AV.int _ _;congr 1)) ?_
     refine zA Z Z Z cw ?_
     repeat (refine zL (qis rfl rfl rfl) ?_)
     refine zt (c':=zC ((Bs.map (fun x=> -x)).set (p.C.length+p.B.length+zBt p.B i) 1)) Z Z Z q4 Z g1 (List.length_set ..) Z (zDe (Bs.map (fun x=> -x)) (p.C.length+p.B.length+zBt p.B i) _) ?_
     refine zQ (zg G (some ⟨114,nsC fs2⟩) (N+1) (p.C.length+p.B.length) i X 1 (β++[p.C.length+i]) [none,some ⟨116,zC W⟩,some ⟨116,zC ((Bs.map (fun x=> -x)).set (p.C.length+p.B.length+zBt p.B i) 1)⟩]) (by have q:=zAW (G:=G) (F:=(some ⟨114,nsC fs2⟩)) (L:=N+1) (w:=p.C.length+p.B.length) (k:=i) (X:=X) (d:=1) (β:=(β++[p.C.length+i])) (T:=[none,some ⟨116,zC W⟩,some ⟨116,zC (Bs.map (fun x=> -x))⟩]) 2 (some ⟨116,zC ((Bs.map (fun x=> -x)).set (p.C.length+p.B.length+zBt p.B i) 1)⟩);rw [hXl] at q;exact q) ?_
     have f1:=zBH (G:=G) (F:=(some ⟨114,nsC fs2⟩)) (L:=N+1) (w:=p.C.length+p.B.length) (k:=i) (X:=X) (d:=1) (β:=(β++[p.C.length+i])) (T:=[none,some ⟨116,zC W⟩,some ⟨116,zC ((Bs.map (fun x=> -x)).set (p.C.length+p.B.length+zBt p.B i) 1)⟩])
     have q5:=zGN (G:=G) (F:=(some ⟨114,nsC fs2⟩)) (L:=N+1) (w:=p.C.length+p.B.length) (k:=i) (X:=X) (d:=1) (β:=(β++[p.C.length+i])) (T:=[none,some ⟨116,zC W⟩,some ⟨116,zC ((Bs.map (fun x=> -x)).set (p.C.length+p.B.length+zBt p.B i) 1)⟩])
     have g5:(β++[p.C.length+i]).length=i+1:=by rw [List.length_append,hβl];rfl
     repeat (first|refine zL (zH rfl) ?_|refine zV ?_|refine zG ?_|refine zAL ?_|refine zl rfl ?_|refine zL (zCZ rfl rfl kK) ?_|refine zL (zh rfl) ?_|refine zL (zN rfl rfl rfl rfl rfl rfl) ?_|refine zL (qis rfl rfl rfl) ?_|refine zL (zAN rfl rfl rfl kW kY) ?_)
     refine zE 146 (.int .i64 ((p.C.length+p.B.length+zBt p.B i:Nat))) Z (AEq.of_eq (by show AV.int _ _=AV.int _ _;congr 1)) ?_
     refine zBw Z Z Z Z q5 Z Z (by show i<(List.map _ _).length;rw [List.length_map,List.length_append];show i<β.length+1;omega) ?_
     have hset:(β++[p.C.length+i]).set i (p.C.length+p.B.length+zBt p.B i)=β2:=by
      rw [hβ1,List.set_append_right _ _ kK,hβl,Nat.sub_self];rfl
     refine zQ (zg G (some ⟨114,nsC fs2⟩) (N+1) (p.C.length+p.B.length) i X 1 β2 [none,some ⟨116,zC W⟩,some ⟨116,zC ((Bs.map (fun x=> -x)).set (p.C.length+p.B.length+zBt p.B i) 1)⟩]) (by
      rw [←hset]
      rw [←zLu (β:=β++[p.C.length+i]) (List.length_set ..)]
      show _=List.set _ _ (some (⟨3,.ints .i64 (((β++[p.C.length+i]).set i (p.C.length+p.B.length+zBt p.B i)).map (fun a:Nat=>(a:Int)))⟩:AObj))
      rw [List.map_set]) ?_
     repeat (first|refine zV ?_|refine zG ?_)
     exact fin _ ⟨Z,Z,Z,Z,Z,Z,Z,Z,Z,Z,Z,trivial⟩
   ·rw [hneg,decide_eq_false hng] at fin
    rw [hneg,decide_eq_false hng,if_neg Bool.false_ne_true] at hβ1
    rw [←hrp,hβ1] at fin
    refine zv 15 (.int .i64 (-1)) Z (AEq.of_eq (by rw [if_neg hng])) ?_
    repeat (first|refine zV ?_|refine zG ?_)
    refine zAL ?_
    refine zl Z ?_
    repeat (first|refine zL (zH rfl) ?_|refine zV ?_|refine zG ?_|refine zAq rfl ?_|refine zBK ?_|refine zL (zHL rfl rfl) ?_)
    exact fin _ ⟨Z,Z,Z,Z,Z,Z,Z,Z,Z,Z,Z,trivial⟩
  clear hneg hβ1 hnb hrn hrp hbl cw hnd
  generalize hRW:(zDb p.C.length p.B.length nd.length W i (p.neg i) (zBt p.B i))=R at*
  have q6:=zAl (G:=G) (F:=(some ⟨114,nsC fs2⟩)) (L:=N+1) (w:=p.C.length+p.B.length) (k:=i) (X:=X) (d:=1) (β:=β2) (T:=[none,some ⟨116,zC W⟩,some ⟨116,zC R⟩]) 2
  rw [hXl] at q6
  refine zQh (G.length+4+i) (G.length+4+i+2) 14 (N+1) kK (by rw [zBP,hXl];show G.length+4+i<G.length+4+i+3;omega) q6 (by rw [hfix];exact fun h=>h) Z ?_
  refine zQg ((14,.sl (G.length+4+i) 0 (N+1))::[(1,.ptr 0 0 0),(2,.ptr G.length 0 0),(3,.sl (G.length+1) 0 (i+1)),(5,iN p.C.length),(6,iN p.B.length),(7,.sl 1 0 nd.length),(46,.ro (zd p.A) 0 p.A.length),(47,iN p.A.length),(48,iN i),(10,iN i)]) ⟨Z,zA4 (h:=G.length+4+i) (L:=[(1,.ptr 0 0 0),(2,.ptr G.length 0 0),(3,.sl (G.length+1) 0 (i+1)),(5,iN p.C.length),(6,iN p.B.length),(7,.sl 1 0 nd.length),(46,.ro (zd p.A) 0 p.A.length),(47,iN p.A.length),(48,iN i),(10,iN i)]) ⟨Z,Z,Z,Z,Z,Z,Z,Z,Z,Z,trivial⟩ (by
   intro q hq
   simp only [List.mem_cons,List.mem_nil_iff,or_false] at hq
   rcases hq with rfl|rfl|rfl|rfl|rfl|rfl|rfl|rfl|rfl|rfl<;>simp [AV.forget,z7 (show G.length≠G.length+4+i by omega),z7 (show G.length+1≠G.length+4+i by omega),z7 (show 0≠G.length+4+i by omega),z7 (show 1≠G.length+4+i by omega)])⟩ ?_
  refine zAI (zg G (some ⟨114,nsC fs2⟩) (N+1) (p.C.length+p.B.length) i X 1 β2 [some ⟨116,zC R⟩,some ⟨116,zC W⟩,none]) (by
   have q:=zP.set (zP.set (zLt (G:=G) (F:=some ⟨114,nsC fs2⟩) (L:=N+1) (w:=p.C.length+p.B.length) (k:=i) (X:=X) (d:=1) (β:=β2) (T:=[none,some ⟨116,zC W⟩,some ⟨116,zC R⟩]) (T':=[none,some ⟨116,zC W⟩,some ⟨116,zC R⟩]) (G.length+4+i) (.inl kK) (hFG _) (hFf _ _) (by show zP [none,some (⟨_,(zC W).forget _⟩:AObj),some (⟨_,(zC R).forget _⟩:AObj)] _;rw [zBZ,zBZ];exact zP.refl _)) (G.length+4+i) (x:=some ⟨116,(zC R).forget (G.length+4+i)⟩) (x':=some ⟨116,zC R⟩) (fun o ho=>by cases ho;exact ⟨_,rfl,rfl,by rw [zBZ];exact CEq.refl _⟩)) (G.length+4+i+2) (x:=none) (x':=none) (fun o ho=>by cases ho)
   have e1:(zg G (some ⟨114,nsC fs2⟩) (N+1) (p.C.length+p.B.length) i X 1 β2 [none,some ⟨116,zC W⟩,some ⟨116,zC R⟩]).set (G.length+4+i) (some ⟨116,zC R⟩)=zg G (some ⟨114,nsC fs2⟩) (N+1) (p.C.length+p.B.length) i X 1 β2 [some ⟨116,zC R⟩,some ⟨116,zC W⟩,some ⟨116,zC R⟩]:=by
    have q:=zAW (G:=G) (F:=(some ⟨114,nsC fs2⟩)) (L:=N+1) (w:=p.C.length+p.B.length) (k:=i) (X:=X) (d:=1) (β:=β2) (T:=[none,some ⟨116,zC W⟩,some ⟨116,zC R⟩]) 0 (some ⟨116,zC R⟩)
    rw [hXl] at q
    exact q
   have e2:=zAW (G:=G) (F:=(some ⟨114,nsC fs2⟩)) (L:=N+1) (w:=p.C.length+p.B.length) (k:=i) (X:=X) (d:=1) (β:=β2) (T:=[some ⟨116,zC R⟩,some ⟨116,zC W⟩,some ⟨116,zC R⟩]) 2 none
   rw [hXl] at e2
   rw [e1] at q
   exact (show zP _ _ from e2▸q)) ?_
  refine zBS (zg G (some ⟨114,nsC fs2⟩) (N+1) (p.C.length+p.B.length) i X 1 β2 [some ⟨116,zC R⟩]) [some ⟨116,zC W⟩,none] ((14,.sl (G.length+4+i) 0 (N+1))::[(1,.ptr 0 0 0),(2,.ptr G.length 0 0),(3,.sl (G.length+1) 0 (i+1)),(5,iN p.C.length),(6,iN p.B.length),(7,.sl 1 0 nd.length),(46,.ro (zd p.A) 0 p.A.length),(47,iN p.A.length),(48,iN i),(10,iN i)]) (by rw [zAk];rfl) ⟨Z,Z,Z,Z,Z,Z,Z,Z,Z,Z,Z,trivial⟩ (fun h hh=>by rw [hfix] at hh;exact hh.elim)
   (zCi hG _ (by rw [zBP];exact Nat.le_add_right _ _) (fun o ho=>by cases ho;exact zOA _ _) (fun o ho=>by cases List.mem_singleton.1 ho;exact fun i' j' hi' hj'=>zGB _ _ _ hj')) (by rw [zBP,hXl];simp [zDj,zCV];omega) ?_
  clear q6
  have f1:=zBH (G:=G) (F:=(some ⟨114,nsC fs2⟩)) (L:=N+1) (w:=p.C.length+p.B.length) (k:=i) (X:=X) (d:=1) (β:=β2) (T:=[some ⟨116,zC R⟩])
  repeat (first|refine zL (zH rfl) ?_|refine zl rfl ?_|refine zL (zh rfl) ?_|refine zL (zN rfl rfl rfl rfl rfl rfl) ?_|refine zL (zAN rfl rfl rfl kW kY) ?_)
  refine zC2 Z Z Z Z Z Z Z Z Z Z ?_
  refine zQ (zg G (some ⟨114,nsC fs2⟩) (N+1) (p.C.length+p.B.length) i X 1 β2 [some ⟨116,zC R⟩,some ⟨243,zCE 1 1 [.sl (G.length+4+i) 0 (N+1)]⟩]) (by rw [zAk];rfl) ?_
  refine zE 154 (.sl (G.length+4+i+1) 0 1) Z (AEq.of_eq (by rw [zBP,hXl];rfl)) ?_
  have f2:=zC6 (G:=G) (F:=(some ⟨114,nsC fs2⟩)) (L:=N+1) (w:=p.C.length+p.B.length) (k:=i) (X:=X) (d:=1) (β:=β2) (T:=[some ⟨116,zC R⟩,some ⟨243,zCE 1 1 [.sl (G.length+4+i) 0 (N+1)]⟩])
  have f3:=zAl (G:=G) (F:=(some ⟨114,nsC fs2⟩)) (L:=N+1) (w:=p.C.length+p.B.length) (k:=i) (X:=X) (d:=1) (β:=β2) (T:=[some ⟨116,zC R⟩,some ⟨243,zCE 1 1 [.sl (G.length+4+i) 0 (N+1)]⟩]) 1
  rw [hXl] at f3
  have hol:(zBz G.length X.length (N+1)).len=i:=hXl
  repeat (refine zV ?_)
  refine zq Z Z Z Z Z Z Z f2 Z hol Z (zJd f3) (by show 0+1≤1;omega) Z (by show (i+1)*24≤_∧_;omega) ?_ (by rw [hfix];exact fun h=>h) ?_
  ·intro i' j' hi' hj'
   obtain rfl:=Nat.lt_one_iff.1 (show j'<1 from hj')
   have q:=(zFU G.length X.length (N+1) (zCE 1 1 [AV.sl (G.length+4+i) 0 (N+1)]) (by rw [hXl];rfl)).2.2 i' 0 hi' Nat.zero_lt_one
   refine Eq.trans (congrArg (AV.forget _) q.symm) (Eq.trans ?_ q)
   show AV.forget _ (AV.sl (G.length+4+i') 0 (N+1))=_
   unfold AV.forget
   rw [z7 (show G.length+4+i'≠G.length+3 by omega)];rfl
  refine zB8 ((155,.sl (G.length+3) 0 (i+1))::(148,.ptr G.length 0 0)::[(1,.ptr 0 0 0),(2,.ptr G.length 0 0),(3,.sl (G.length+1) 0 (i+1)),(5,iN p.C.length),(6,iN p.B.length),(7,.sl 1 0 nd.length),(46,.ro (zd p.A) 0 p.A.length),(47,iN p.A.length),(48,iN i),(10,iN i)]) ⟨Z,zA4 (h:=G.length+3) (L:=(148,.ptr G.length 0 0)::[(1,.ptr 0 0 0),(2,.ptr G.length 0 0),(3,.sl (G.length+1) 0 (i+1)),(5,iN p.C.length),(6,iN p.B.length),(7,.sl 1 0 nd.length),(46,.ro (zd p.A) 0 p.A.length),(47,iN p.A.length),(48,iN i),(10,iN i)]) ⟨Z,Z,Z,Z,Z,Z,Z,Z,Z,Z,Z,trivial⟩ (by
   intro q hq
   simp only [List.mem_cons,List.mem_nil_iff,or_false] at hq
   rcases hq with rfl|rfl|rfl|rfl|rfl|rfl|rfl|rfl|rfl|rfl|rfl<;>simp [AV.forget,z7 (show 0≠G.length+3 by omega),z7 (show 1≠G.length+3 by omega),z7 (show G.length≠G.length+3 by omega),z7 (show G.length+1≠G.length+3 by omega)])⟩ ?_
  refine zAD (zKs G (some ⟨114,nsC fs2⟩) (N+1) (p.C.length+p.B.length) (X++[R]) 1 β2 [none]) (zQY (hFG _) (hFf _ _) (zFU G.length X.length (N+1) _ (by rw [hXl];rfl))) ?_
  repeat (first|refine zL (zh rfl) ?_|refine zL (zN rfl rfl rfl rfl rfl rfl) ?_)
  refine zBw Z Z Z Z anyF_box Z Z Nat.zero_lt_one ?_
  refine zQ (zg G (some ⟨114,nsC fs2⟩) (N+1) (p.C.length+p.B.length) (i+1) (X++[R]) 1 β2 [none]) anyF_set ?_
  repeat (first|refine zV ?_|refine zG ?_|refine zAP ?_)
  have hl1:(X++[R]).length=i+1:=by rw [List.length_append,hXl];rfl
  refine zBS (zg G (some ⟨114,nsC fs2⟩) (N+1) (p.C.length+p.B.length) (i+1) (X++[R]) 1 β2 []) [none] [(1,.ptr 0 0 0),(2,.ptr G.length 0 0),(3,.sl (G.length+1) 0 (i+1)),(5,iN p.C.length),(6,iN p.B.length),(7,.sl 1 0 nd.length),(46,.ro (zd p.A) 0 p.A.length),(47,iN p.A.length),(48,iN i),(10,iN i)] (by rw [zAk];rfl) ⟨Z,Z,Z,Z,Z,Z,Z,Z,Z,Z,trivial⟩ (fun h hh=>by rw [hfix] at hh;exact hh.elim)
   (zCi hG _ (by rw [zBP];exact Nat.le_add_right _ _) (fun o ho=>by cases ho;exact zOA _ _) (fun o ho=>by cases ho)) (by rw [zBP,hl1];simp [zDj,zCV];omega) ?_
  repeat (first|refine zL (zH rfl) ?_|refine zV ?_|refine zl rfl ?_|refine zL (zCZ rfl rfl kK) ?_)
  exact zI ⟨i+1,kK,kK,⟨Z,Z,Z,Z,Z,Z,Z,Z,Z,trivial⟩,by rw [hfs2',hX2,hβ2,hX1]⟩
 have hie:i=p.B.length:=kK
 rw [hie]
 clear hi h hie
 clear i
 have hT1:(zBO p).take p.B.length=zBO p:=List.take_of_length_le (by rw [show (zBO p).length=p.B.length from zCt p];exact Nat.le_refl _)
 have hB1:(zBr p).take p.B.length=zBr p:=List.take_of_length_le (by rw [show (zBr p).length=p.B.length from zHF p];exact Nat.le_refl _)
 rw [hT1,hB1]
 have hfl:((List.range p.B.length).map p.fac).length=p.B.length:=kJ
 generalize (List.range p.B.length).map p.fac=fs at*
 have q2:=tb_fac (G:=G) (F:=(some ⟨114,nsC fs⟩)) (L:=N+1) (w:=p.C.length+p.B.length) (k:=p.B.length) (X:=(zBO p)) (d:=1) (β:=(zBr p)) (T:=[])
 repeat (first|refine zG ?_|refine zDf ?_|refine zBJ ?_|refine zBI ?_|refine zBa ?_)
 refine zAC (G.length+1) 3 p.B.length [(2,.ptr G.length 0 0),(7,.sl 1 0 nd.length)] q2 (zQP _) Z (by show _≤fs.length;omega) ⟨Z,Z,trivial⟩ ?_
 refine zAI (zg [none,none] none (N+1) (p.C.length+p.B.length) p.B.length (zBO p) 1 (zBr p) []) (by
  subst hGG
  exact zP.drop (zP.drop (zP.same (zP.drop (zP.refl _))))) ?_
 repeat (first|refine zL (zH rfl) ?_|refine zL (zf rfl) ?_|refine zV ?_|refine zG ?_|refine zAL ?_|refine zl rfl ?_|refine zBQ ?_|refine zL (zBh rfl rfl rfl) ?_)
 exact zM hR Z ⟨by rw [←hGG];rfl,Z⟩
end Go.Proofs.YtmpnheilfejcpaaGreatDoor
namespace Go.Proofs.YtmpnheilfejcpaaGreatDoor
open Go.Ax Go.Ax.Bg Go.Ax.Rt Go.RowKit Go.Ax.Dt Go.Ax.Sx
attribute [local irreducible] Ax zB2 QOp zU zBV
def zJC:Option Rat→List AV
 |some q=>zJ q
 |none=>[.bool false,.nil,.nil]
abbrev zIT (l:List (Option Rat)):Cells:=zC9 none 3 zJC l
theorem zPV (n:Nat):CEq (zAr n [.bool false,.nil,.nil]) (zIT (List.replicate n none)):=by
 refine ⟨by simp [zC9,Cells.len,zAr],Z,fun i j hi hj=> ?_⟩
 have hi:i<n:=by simpa [Cells.len,zAr] using hi
 show (zJC ((List.replicate n (none:Option Rat)).getD i none)).getD j .any=_
 rw [zCC none (by simpa using hi),List.getElem_replicate]
 rfl
theorem zRj (l:List Rat):CEq (zIT (l.map some)) (qsC l):=by
 refine ⟨by simp [zC9,Cells.len],Z,fun i j hi hj=> ?_⟩
 have hi:i<l.length:=by simpa [zC9,Cells.len] using hi
 show (zJ (l.getD i 0)).getD j .any=(zJC ((l.map some).getD i none)).getD j .any
 rw [zBg some l 0 none i hi]
 rfl
theorem zDM (l:List Rat)(n:Nat):zBM n (qsC l):=by
 intro i j _ hj
 show zCV n ((zJ (l.getD i 0)).getD j .any)=true
 have hj:j<3:=hj
 match j,hj with
 |0,_=>rfl
 |1,_=>rfl
 |2,_=>rfl
theorem zGp {α:Type}(d:α)(n:Nat)(e:α→List AV)(zs:List α)(k:Nat)(a:α)(hk:k<zs.length)(i' j':Nat)(hi':i'<zs.length)(hj':j'<n):(zC9 d n e (zs.set k a)).at i' j'=if i'=k then (e a).getD j' .any else (zC9 d n e zs).at i' j':=by
 show (e ((zs.set k a).getD i' d)).getD j' .any=if i'=k then (e a).getD j' .any else (e (zs.getD i' d)).getD j' .any
 rw [Go.Ax.Dt.getD_set]
 by_cases h:i'=k
 ·rw [if_pos h,if_pos ⟨h,hk⟩]
 ·rw [if_neg h,if_neg (fun q=>h q.1)]
theorem zRR (n:Nat):chg (fun _=>some (0:Rat)) none (List.replicate n none) n=(List.replicate n (0:Rat)).map some:=by
 have:=zFF (fun _=>some (0:Rat)) none (List.replicate n none)
 rw [List.length_replicate] at this
 rw [this,List.map_replicate]
 apply List.ext_getElem kJ
 intro i h1 h2
 simp
theorem zA5 (β:List Nat)(i:Nat):(β.map (fun a:Nat=>(a:Int))).getD i 0=((β.getD i 0:Nat):Int):=by
 simp only [List.getD,List.getElem?_map]
 cases β[i]? <;>rfl
theorem zGs (G:zO)(hG:OkG G)(N w k:Nat)(X:Tab)(d:Int)(β:List Nat)(T:zO)(hT: ∀m,G.length+4+X.length≤m→ ∀o:AObj,some o∈T→zBM m o.c)(n0:Nat)(hn0:n0≤1000000)(hkX:k≤X.length)(hβ:β.length≤k)(hk40:k≤1000000)(hL: ∀x∈X,x.length=N+1)(hL40:N+1≤1000000)(hd:d≠0)(hX: ∀i,i<β.length→(zW (at2 X i N).natAbs).length≤1000000)(hdl:(zW d.natAbs).length≤1000000):
 zU Tryz.prog 178 [.ptr G.length 0 0,iN n0] (zg G none (N+1) w k X d β T) (fun h=>h<(zg G none (N+1) w k X d β T).length)
  (fun r' H'=>r'= .ro (qsC (zCH n0 β (fun i=>Rat.divInt (at2 X i N) d) (List.replicate n0 0) β.length)) 0 n0∧H'=zg G none (N+1) w k X d β T):=by
 have hlen: ∀T,(zg G none (N+1) w k X d β T).length=G.length+4+X.length+T.length:=fun T=>zBP
 refine zF (P:=Tryz.prog) (fn:=Tryz.f178) Z Z kQ Z (fun c hR hfix=> ?_)
 refine rn0 ?_
 refine zBv Z Z Z Z Z Z Z Z (by show (0:Int)≤_∧_≤_∧(56:Int)*_≤_∧_;omega) ?_
 refine zAD (zg G none (N+1) w k X d β T++[some ⟨118,zIT (List.replicate n0 none)⟩]) (zP.append (zP.refl _) (zP.eqv (zPV _) zP.nil)) ?_
 refine zQ (zg G none (N+1) w k X d β (T++[some ⟨118,zIT (chg (fun _=>some (0:Rat)) none (List.replicate n0 none) 0)⟩])) (by rw [zAk,zDU]) ?_
 refine zE 10 (.sl (G.length+4+X.length+T.length) 0 n0) Z (AEq.of_eq (by rw [hlen];rfl)) (rn3 ?_)
 refine zb (ι:=Nat) (fun i=>[(0,.ptr G.length 0 0),(1,iN n0),(5,.sl (G.length+4+X.length+T.length) 0 n0),(12,iN n0),(13,iN i)]) (fun i=>zg G none (N+1) w k X d β (T++[some ⟨118,zIT (chg (fun _=>some (0:Rat)) none (List.replicate n0 none) i)⟩]))
  (fun i=>i≤n0) (fun i=>n0-i) 0 ⟨⟨rfl,rfl,rfl,rfl,rfl,trivial⟩,rfl,Nat.zero_le _⟩ ?_
 intro i hi
 refine rn4 ?_
 refine zB Z (fun h=> ?_) (fun h=> ?_)
 ·have hi':i<n0:=kK
  have hst:=zD8 (fun _=>some (0:Rat)) none (List.replicate n0 none) (k:=i) (by simpa using hi')
  have hAl:(chg (fun _=>some (0:Rat)) none (List.replicate n0 none) i).length=n0:=by rw [zC7];simp
  generalize chg (fun _=>some (0:Rat)) none (List.replicate n0 none) i=A at*
  have f1:=zHH (G:=G) (F:=none) (L:=N+1) (w:=w) (k:=k) (X:=X) (d:=d) (β:=β) (T:=T) (some ⟨118,zIT A⟩)
  have hiA:i<(zIT A).len:=by show i<A.length;omega
  refine rn1 ?_
  refine zA Z Z Z zEE ?_
  unfold qA
  repeat (refine zL (qis rfl rfl rfl) ?_)
  refine zt (c':=zIT (A.set i (some 0))) Z Z Z f1 Z hiA (List.length_set ..) Z (fun i' j' hi' hj'=>zGp none 3 zJC A i (some 0) hiA i' j' hi' hj') ?_
  refine zQ (zg G none (N+1) w k X d β (T++[some ⟨118,zIT (A.set i (some 0))⟩])) (zDI _ _) (rn5 ?_)
  exact zI ⟨i+1,kK,kK,⟨Z,Z,Z,Z,Z,trivial⟩,by rw [hst]⟩
 have hie:i=n0:=kK
 rw [hie,zRR]
 clear hi h hie
 clear i
 have f2:=zBH (G:=G) (F:=none) (L:=N+1) (w:=w) (k:=k) (X:=X) (d:=d) (β:=β) (T:=T++[some ⟨118,qsC (zCH n0 β (fun i=>Rat.divInt (at2 X i N) d) (List.replicate n0 0) 0)⟩])
 refine zAI (zg G none (N+1) w k X d β T++[some ⟨118,qsC (List.replicate n0 0)⟩]) (by rw [←zAk];exact zP.append (zP.refl _) (zP.eqv (zRj _) zP.nil)) ?_
 refine zAs (zg G none (N+1) w k X d β (T++[some ⟨118,qsC (zCH n0 β (fun i=>Rat.divInt (at2 X i N) d) (List.replicate n0 0) 0)⟩])) (by rw [zAk];rfl) (rn15 ?_)
 refine zb (ι:=Nat) (fun i=>[(0,.ptr G.length 0 0),(1,iN n0),(5,.sl (G.length+4+X.length+T.length) 0 n0),(24,.sl (G.length+2) 0 β.length),(25,iN β.length),(26,iN i)]) (fun i=>zg G none (N+1) w k X d β (T++[some ⟨118,qsC (zCH n0 β (fun i=>Rat.divInt (at2 X i N) d) (List.replicate n0 0) i)⟩]))
  (fun i=>i≤β.length) (fun i=>β.length-i) 0 ⟨⟨rfl,rfl,rfl,rfl,rfl,rfl,trivial⟩,rfl,Nat.zero_le _⟩ ?_
 clear f2
 intro i hi
 have hVl:=zEG n0 β (fun i=>Rat.divInt (at2 X i N) d) (List.replicate n0 0) i
 rw [List.length_replicate] at hVl
 refine rn4 ?_
 refine zB Z (fun h=> ?_) (fun h=> ?_)
 ·have hi':i<β.length:=kK
  have hst:zCH n0 β (fun i=>Rat.divInt (at2 X i N) d) (List.replicate n0 0) (i+1)=if β.getD i 0<n0 then (zCH n0 β (fun i=>Rat.divInt (at2 X i N) d) (List.replicate n0 0) i).set (β.getD i 0) (Rat.divInt (at2 X i N) d) else zCH n0 β (fun i=>Rat.divInt (at2 X i N) d) (List.replicate n0 0) i:=rfl
  generalize zCH n0 β (fun i=>Rat.divInt (at2 X i N) d) (List.replicate n0 0) i=V at*
  have f1:=zBH (G:=G) (F:=none) (L:=N+1) (w:=w) (k:=k) (X:=X) (d:=d) (β:=β) (T:=T++[some ⟨118,qsC V⟩])
  have f2:=zGN (G:=G) (F:=none) (L:=N+1) (w:=w) (k:=k) (X:=X) (d:=d) (β:=β) (T:=T++[some ⟨118,qsC V⟩])
  have g2:i<(β.map (fun a:Nat=>(a:Int))).length:=by rw [List.length_map];exact hi'
  refine rn7 ?_
  refine zB Z (fun h1=> ?_) (fun h1=> ?_)
  ·rw [zA5] at h1
   have hb:β.getD i 0<n0:=kK
   rw [if_pos hb] at hst
   refine zv 8 (iN (β.getD i 0)) Z (AEq.of_eq (by rw [zA5])) ?_
   have lI:(X.getD i []).length=N+1:=hL _ (z8 [] kK)
   have f3:=zC6 (G:=G) (F:=none) (L:=N+1) (w:=w) (k:=k) (X:=X) (d:=d) (β:=β) (T:=T++[some ⟨118,qsC V⟩])
   have f4:=zCu (G:=G) (F:=none) (L:=N+1) (w:=w) (k:=k) (X:=X) (d:=d) (β:=β) (T:=T++[some ⟨118,qsC V⟩]) (a:=i) kK
   have f5:=zHH (G:=G) (F:=none) (L:=N+1) (w:=w) (k:=k) (X:=X) (d:=d) (β:=β) (T:=T) (some ⟨118,qsC V⟩)
   have g3:i<(zBz G.length X.length (N+1)).len:=by show i<X.length;omega
   have g4:N<(zC (X.getD i [])).len:=by show N<(X.getD i []).length;omega
   have g5:β.getD i 0<(qsC V).len:=by show _<V.length;omega
   have hlT:=hlen T
   have cq:=q_ok G hG (N+1) w k X d β (T++[some ⟨118,qsC V⟩]) (fun o ho=>by
    rw [hlen]
    rcases List.mem_append.1 ho with q|q
    ·exact hT _ kK o q
    ·cases List.mem_singleton.1 q;exact zDM V _) (at2 X i N) hd (hX i hi') hdl
   skip
   refine zZ kQ ?_
   refine zj (fuel:=1) [0,1,2,3,4,5,6,7,8,9,10,11,12,13,14,15,16,17,18,19,20,21,22] [(0,.ptr G.length 0 0),(1,iN n0),(5,.sl (G.length+4+X.length+T.length) 0 n0),(7,iN i),(8,iN (β.getD i 0)),(24,.sl (G.length+2) 0 β.length),(25,iN β.length),(26,iN i)] ⟨Z,Z,Z,Z,Z,Z,Z,Z,trivial⟩ kQ kV Z Z ?_
   refine zK Z Z (zH Z) ?_
   refine zK Z Z (zH Z) ?_
   refine zK Z Z (zH Z) ?_
   refine zK Z Z (zH Z) ?_
   refine zK Z Z (zh Z) ?_
   refine zK Z Z (zN Z Z Z Z Z Z) ?_
   refine zK Z Z (zAN Z Z Z kW kY) ?_
   refine zK Z Z (zH Z) ?_
   refine zK Z Z (qis Z Z Z) ?_
   refine zK Z Z (zBD Z Z Z kW Z kU) ?_
   refine zK Z Z (zH Z) ?_
   refine zK Z Z (zh Z) ?_
   refine zK Z Z (zN Z Z Z Z Z Z) ?_
   refine zK Z Z (zAN Z Z Z kW kY) ?_
   refine zK Z Z (zH Z) ?_
   refine zK Z Z (qis Z Z Z) ?_
   refine zK Z Z (zBD Z Z Z kW Z kU) ?_
   refine zK Z Z (zBh Z Z Z) ?_
   refine zK Z Z (zFl Z Z kK) ?_
   refine zK Z Z (zDF (ix:=N) Z Z Z f4 Z (by show 0+(((N+1:Nat):Int)-1).toNat=N;omega) kK) ?_
   refine zK Z Z (qas Z Z Z Z) ?_
   refine px_c Z Z Z Z Z cq ?_
   refine zK Z Z (qis Z Z Z) ?_
   refine zz ?_
   unfold qA
   refine zD (is:=[23]) kQ kJ Z ⟨fun o ho=> ?_,trivial⟩
   all_goals (cases ho)
   refine zt (c':=qsC (V.set (β.getD i 0) (Rat.divInt (at2 X i N) d))) Z Z Z f5 Z g5 (List.length_set ..) Z (fun i' j' hi' hj'=>zGp 0 3 zJ V (β.getD i 0) _ g5 i' j' hi' hj') ?_
   refine zQ (zg G none (N+1) w k X d β (T++[some ⟨118,qsC (V.set (β.getD i 0) (Rat.divInt (at2 X i N) d))⟩])) (zDI _ _) (rn1 ?_)
   refine zT kQ (rn5 ?_)
   exact zI ⟨i+1,kK,kK,⟨Z,Z,Z,Z,Z,Z,trivial⟩,by rw [hst]⟩
  ·rw [zA5] at h1
   rw [if_neg kK] at hst
   refine rn5 ?_
   exact zI ⟨i+1,kK,kK,⟨Z,Z,Z,Z,Z,Z,trivial⟩,by rw [hst]⟩
 have hie:i=β.length:=kK
 subst hie
 refine zBq ?_
 generalize zCH n0 β (fun i=>Rat.divInt (at2 X i N) d) (List.replicate n0 0) β.length=V at*
 have f5:=zHH (G:=G) (F:=none) (L:=N+1) (w:=w) (k:=k) (X:=X) (d:=d) (β:=β) (T:=T) (some ⟨118,qsC V⟩)
 refine zAC (G.length+4+X.length+T.length) 5 n0 [] f5 (zAT _) Z (by show n0≤V.length;omega) trivial ?_
 refine zAs (zg G none (N+1) w k X d β T++[none]) (by rw [zDI,zAk]) ?_
 refine zBS (zg G none (N+1) w k X d β T) [none] [(5,.ro (qsC V) 0 n0)] rfl ⟨rfl,trivial⟩ (fun h hh=>by rw [hfix] at hh;exact hh) (zCi hG _ (by rw [hlen];omega) (fun o ho=>by cases ho) (hT _ (by rw [hlen];omega))) rfl (rn0 ?_)
 exact zM hR Z ⟨Z,Z⟩
theorem zOS (G:zO)(hG:OkG G)(hFG: ∀h,G.length≤h→zp h G=G)(n m a N:Nat)(X:Tab)(β:List Nat)(M:Tab)(K E:Nat)(hN:N=n+m+a)(hm:m≤100)(hN40:N+1≤1000000)(hXl:X.length=m)(hβ:β.length=m)(hL: ∀x∈X,x.length=N+1)(hX: ∀i j,i<m→j<N+1→(at2 X i j).natAbs≤10^E)(hE:E≤3500000)(hi:Inv m N M ⟨X++[zBm (n+m) a N ⟨X,1,β⟩ m a],1,β⟩)(hf:zD3 m N ⟨X++[zBm (n+m) a N ⟨X,1,β⟩ m a],1,β⟩)(hK:zCI m N (n+m) (zAn m N (n+m) ⟨X++[zBm (n+m) a N ⟨X,1,β⟩ m a],1,β⟩ K)=none)(hB: ∀t,Inv m N M t→(∀i j,i<m+1→j<N+1→(at2 t.rows i j).natAbs≤10^E)∧t.den.natAbs≤10^E)(hz: ∀t,Inv m N M t→zD3 m N t→ ¬at2 t.rows m N<0→ ∀i,i<m→n+m≤t.basis.getD i 0→at2 t.rows i N=0):
 zU Tryz.prog 172 [.ptr G.length 0 0,iN n,iN m,iN a] (zg G none (N+1) (n+m) m X 1 β []) (fun h=>h<(zg G none (N+1) (n+m) m X 1 β []).length∧h≠G.length+3)
  (fun r' H'=>(at2 (zAn m N (n+m) ⟨X++[zBm (n+m) a N ⟨X,1,β⟩ m a],1,β⟩ K).rows m N<0∧r'= .tup [.ro (qsC ((List.range m).map (fun i=>Rat.divInt (at2 (zAn m N (n+m) ⟨X++[zBm (n+m) a N ⟨X,1,β⟩ m a],1,β⟩ K).rows m (n+i)) (zAn m N (n+m) ⟨X++[zBm (n+m) a N ⟨X,1,β⟩ m a],1,β⟩ K).den))) 0 m,.bool false]∧H'=zg G none (N+1) (n+m) (m+1) (zAn m N (n+m) ⟨X++[zBm (n+m) a N ⟨X,1,β⟩ m a],1,β⟩ K).rows (zAn m N (n+m) ⟨X++[zBm (n+m) a N ⟨X,1,β⟩ m a],1,β⟩ K).den (zAn m N (n+m) ⟨X++[zBm (n+m) a N ⟨X,1,β⟩ m a],1,β⟩ K).basis [none])∨
   (¬at2 (zAn m N (n+m) ⟨X++[zBm (n+m) a N ⟨X,1,β⟩ m a],1,β⟩ K).rows m N<0∧r'= .tup [.nil,.bool true]∧H'=stH G N (n+m) m (zBc (n+m) (Sx.cutS m (zAn m N (n+m) ⟨X++[zBm (n+m) a N ⟨X,1,β⟩ m a],1,β⟩ K)) m))):=by
 refine zF (P:=Tryz.prog) (fn:=Tryz.f172) Z Z kQ Z (fun c hR hfix=> ?_)
 have hlen:(zg G none (N+1) (n+m) m X 1 β []).length=G.length+4+m:=by rw [zBP,hXl];rfl
 rw [hlen] at hfix
 have hsz: ∀x:Int,∀e,e≤3599990→x.natAbs≤10^e→(zW x.natAbs).length≤400001:=fun x e he hx=>zFy hx kK
 refine rn3 ?_
 refine zE 28 (.int .i64 ((N+1:Nat))) Z (AEq.of_eq (by show AV.int _ _=AV.int _ _;congr 1;omega)) ?_
 refine zE 10 (.int .i64 ((N+1:Nat))) Z (AEq.of_eq (by show AV.int _ _=AV.int _ _;congr 1;omega)) ?_
 refine zBv Z Z Z Z Z Z Z Z (by show (0:Int)≤_∧_≤_∧(32:Int)*_≤_∧_;omega) ?_
 refine zGw (zg G none (N+1) (n+m) m X 1 β []++[some ⟨116,zC (List.replicate (N+1) 0)⟩]) (by simp only [List.length_append,List.length_cons,List.length_nil]) zI5 ?_
 refine zQ (zg G none (N+1) (n+m) m X 1 β [some ⟨116,zC (zDR (n+m) N (⟨X,1,β⟩:St) 0)⟩]) (by rw [zAk,zPi];rfl) ?_
 refine zE 29 (.sl (G.length+4+m) 0 (N+1)) Z (AEq.of_eq (by rw [hlen];rfl)) ?_
 have f1:=zBH (G:=G) (F:=none) (L:=N+1) (w:=n+m) (k:=m) (X:=X) (d:=1) (β:=β) (T:=[some ⟨116,zC (zDR (n+m) N (⟨X,1,β⟩:St) 0)⟩])
 rw [hβ] at f1
 refine rn7 ?_
 refine zb (ι:=Nat) (fun i=>[(0,.ptr G.length 0 0),(1,iN n),(2,iN m),(3,iN a),(10,.int .i64 ((N+1:Nat))),(11,.sl (G.length+4+m) 0 (N+1)),(33,.sl (G.length+2) 0 m),(34,iN m),(35,iN i)]) (fun i=>zg G none (N+1) (n+m) m X 1 β [some ⟨116,zC (zDR (n+m) N (⟨X,1,β⟩:St) i)⟩]) (fun i=>i≤m) (fun i=>m-i) 0 ⟨⟨Z,Z,Z,Z,Z,Z,Z,Z,Z,trivial⟩,Z,Nat.zero_le _⟩ ?_
 clear f1
 intro i him
 refine rn4 ?_
 refine zB Z (fun h=> ?_) (fun h=> ?_)
 ·have hi':i<m:=kK
  have f2:=zGN (G:=G) (F:=none) (L:=N+1) (w:=n+m) (k:=m) (X:=X) (d:=1) (β:=β) (T:=[some ⟨116,zC (zDR (n+m) N (⟨X,1,β⟩:St) i)⟩])
  have g2:i<(β.map (fun a:Nat=>(a:Int))).length:=by rw [List.length_map,hβ];exact hi'
  refine rn7 ?_
  refine zB Z (fun h1=> ?_) (fun h1=> ?_)
  ·rw [zA5] at h1
   have hb:n+m≤β.getD i 0:=kK
   have hcl:=zH4 (n+m) N (⟨X,1,β⟩:St) i
   have hcl2:=zH4 (n+m) N (⟨X,1,β⟩:St) (i+1)
   have hnx:=fun j (hj:j<N+1)=>zPg (w:=n+m) (N:=N) (s:=(⟨X,1,β⟩:St)) (i:=i) hb hj
   have hab:=fun j (hj:j<N+1)=>zR0 (w:=n+m) (N:=N) (E:=E) (s:=(⟨X,1,β⟩:St)) (i:=i) (j:=j) kK (fun q hq=>hX q j kK hj) hj
   have lI:(X.getD i []).length=N+1:=hL _ (z8 [] kK)
   generalize hC2:(zDR (n+m) N (⟨X,1,β⟩:St) (i+1))=C2 at*
   generalize (zDR (n+m) N (⟨X,1,β⟩:St) i)=C1 at*
   have f6:=zBH (G:=G) (F:=none) (L:=N+1) (w:=n+m) (k:=m) (X:=X) (d:=1) (β:=β) (T:=[some ⟨116,zC C1⟩])
   have f7:=zAl (G:=G) (F:=none) (L:=N+1) (w:=n+m) (k:=m) (X:=X) (d:=1) (β:=β) (T:=[some ⟨116,zC C1⟩]) 0
   rw [hXl,Nat.add_zero] at f7
   clear f2
   refine rn3 ?_
   refine zb (ι:=Nat) (fun j=>[(0,.ptr G.length 0 0),(1,iN n),(2,iN m),(3,iN a),(10,.int .i64 ((N+1:Nat))),(11,.sl (G.length+4+m) 0 (N+1)),(33,.sl (G.length+2) 0 m),(34,iN m),(35,iN i),(12,iN i),(46,.int .i64 ((N+1:Nat))),(47,iN j)]) (fun j=>zg G none (N+1) (n+m) m X 1 β [some ⟨116,zC (chg (fun j=>C2.getD j 0) 0 C1 j)⟩]) (fun j=>j≤N+1) (fun j=>N+1-j) 0 ⟨⟨Z,Z,Z,Z,Z,Z,Z,Z,Z,Z,Z,Z,trivial⟩,by rw [zDU],Nat.zero_le _⟩ ?_
   intro j hj
   refine rn4 ?_
   refine zB Z (fun h2=> ?_) (fun h2=> ?_)
   ·have hj':j<N+1:=kK
    have hgj:=zDN (fun j=>C2.getD j 0) 0 C1 (k:=j) (i:=j) kK
    rw [if_neg (Nat.lt_irrefl j)] at hgj
    have hsj:=zD8 (fun j=>C2.getD j 0) 0 C1 (k:=j) kK
    have hlj:=zC7 (fun j=>C2.getD j 0) 0 C1 j
    rw [hnx j hj',←hgj] at hsj
    have ab:=hab j hj'
    rw [←hgj] at ab
    generalize chg (fun j=>C2.getD j 0) 0 C1 j=Y at*
    have q1:=zBH (G:=G) (F:=none) (L:=N+1) (w:=n+m) (k:=m) (X:=X) (d:=1) (β:=β) (T:=[some ⟨116,zC Y⟩])
    have q2:=zC6 (G:=G) (F:=none) (L:=N+1) (w:=n+m) (k:=m) (X:=X) (d:=1) (β:=β) (T:=[some ⟨116,zC Y⟩])
    have q3:=zCu (G:=G) (F:=none) (L:=N+1) (w:=n+m) (k:=m) (X:=X) (d:=1) (β:=β) (T:=[some ⟨116,zC Y⟩]) (a:=i) kK
    have q4:=zAl (G:=G) (F:=none) (L:=N+1) (w:=n+m) (k:=m) (X:=X) (d:=1) (β:=β) (T:=[some ⟨116,zC Y⟩]) 0
    rw [hXl,Nat.add_zero] at q4
    have g3:i<(zBz G.length X.length (N+1)).len:=by show i<X.length;omega
    have g4:j<(zC (X.getD i [])).len:=by show j<(X.getD i []).length;omega
    have g5:j<(zC Y).len:=by show j<Y.length;omega
    have cs:=zNZ (Y.getD j 0) (at2 X i j) (by have:=hsz _ _ kK ab;omega) (by have:=hsz _ _ kK (hX i j hi' hj');omega)
    refine rn1 ?_
    refine zZ kQ ?_
    refine zj (fuel:=1) [0,1,2,3,4,5,6,7,8,9,10,11,12,13,14,15,16,17] [(0,.ptr G.length 0 0),(1,iN n),(2,iN m),(3,iN a),(10,.int .i64 ((N+1:Nat))),(11,.sl (G.length+4+m) 0 (N+1)),(33,.sl (G.length+2) 0 m),(34,iN m),(35,iN i),(12,iN i),(46,.int .i64 ((N+1:Nat))),(47,iN j),(14,iN j)] ⟨Z,Z,Z,Z,Z,Z,Z,Z,Z,Z,Z,Z,Z,trivial⟩ kQ kV Z Z ?_
    refine zK Z Z (zH Z) ?_
    refine zK Z Z (zH Z) ?_
    refine zK Z Z (zH Z) ?_
    refine zK Z Z (zH Z) ?_
    refine zK Z Z (qis Z Z Z) ?_
    refine zK Z Z (qas Z Z Z Z) ?_
    refine zK Z Z (zH Z) ?_
    refine zK Z Z (zh Z) ?_
    refine zK Z Z (zN Z Z Z Z Z Z) ?_
    refine zK Z Z (zAN Z Z Z kW kY) ?_
    refine zK Z Z (zH Z) ?_
    refine zK Z Z (qis Z Z Z) ?_
    refine zK Z Z (zBD Z Z Z kW Z kU) ?_
    refine zK Z Z (zH Z) ?_
    refine zK Z Z (qis Z Z Z) ?_
    refine zK Z Z (qas Z Z Z Z) ?_
    refine zAy Z Z Z Z Z cs ?_
    refine zK Z Z (qis Z Z Z) ?_
    refine zz ?_
    unfold at2
    refine zD (is:=[18]) kQ kJ Z ⟨fun o ho=> ?_,trivial⟩
    all_goals (cases ho)
    refine zt (c':=zC (Y.set j (Y.getD j 0-(X.getD i []).getD j 0))) Z Z Z q4 Z g5 (List.length_set ..) Z (zDe Y j _) ?_
    refine zQ (zg G none (N+1) (n+m) m X 1 β [some ⟨116,zC (Y.set j (Y.getD j 0-(X.getD i []).getD j 0))⟩]) (by have q:=zAW (G:=G) (F:=none) (L:=N+1) (w:=n+m) (k:=m) (X:=X) (d:=1) (β:=β) (T:=[some ⟨116,zC Y⟩]) 0 (some ⟨116,zC (Y.set j (Y.getD j 0-(X.getD i []).getD j 0))⟩);rw [hXl,Nat.add_zero] at q;exact q) (rn1 ?_)
    refine zT kQ (rn5 ?_)
    exact zI ⟨j+1,kK,kK,⟨Z,Z,Z,Z,Z,Z,Z,Z,Z,Z,Z,Z,trivial⟩,by rw [←hsj];rfl⟩
   ·have hje:j=N+1:=kK
    subst hje
    rw [chg_to hcl hcl2]
    refine rn5 ?_
    exact zI ⟨i+1,kK,kK,⟨Z,Z,Z,Z,Z,Z,Z,Z,Z,trivial⟩,by rw [hC2]⟩
  ·rw [zA5] at h1
   have hsk:=zPh (w:=n+m) (N:=N) (s:=(⟨X,1,β⟩:St)) (i:=i) (by show¬n+m≤β.getD i 0;omega)
   refine rn5 ?_
   exact zI ⟨i+1,kK,kK,⟨Z,Z,Z,Z,Z,Z,Z,Z,Z,trivial⟩,by rw [hsk]⟩
 have hie:m=i:=kK
 subst hie
 clear him h
 rw [←zOJ (n+m) a N ⟨X,1,β⟩ m]
 refine rn5 ?_
 refine zb (ι:=Nat) (fun q=>[(0,.ptr G.length 0 0),(1,iN n),(2,iN m),(3,iN a),(10,.int .i64 ((N+1:Nat))),(11,.sl (G.length+4+m) 0 (N+1)),(70,iN a),(71,iN q)]) (fun q=>zg G none (N+1) (n+m) m X 1 β [some ⟨116,zC (zBm (n+m) a N (⟨X,1,β⟩:St) m q)⟩]) (fun q=>q≤a) (fun q=>a-q) 0 ⟨⟨Z,Z,Z,Z,Z,Z,Z,Z,trivial⟩,Z,Nat.zero_le _⟩ ?_
 intro q hq
 refine rn4 ?_
 refine zB Z (fun h=> ?_) (fun h=> ?_)
 ·have hq':q<a:=kK
  have hst:=zPf (w:=n+m) (a:=a) (N:=N) (s:=(⟨X,1,β⟩:St)) (m:=m) (k:=q) kK
  have hFl:=zER (n+m) a N (⟨X,1,β⟩:St) m q
  generalize (zBm (n+m) a N (⟨X,1,β⟩:St) m q)=Y at*
  have q4:=zAl (G:=G) (F:=none) (L:=N+1) (w:=n+m) (k:=m) (X:=X) (d:=1) (β:=β) (T:=[some ⟨116,zC Y⟩]) 0
  rw [hXl,Nat.add_zero] at q4
  have g5:n+m+q<(zC Y).len:=by show n+m+q<Y.length;omega
  have cw:=zH0 0 kV
  refine rn3 ?_
  refine zE 79 (.int .i64 ((n+m+q:Nat))) Z (AEq.of_eq (by show AV.int _ _=AV.int _ _;congr 1)) ?_
  refine zA Z Z Z cw ?_
  unfold zBF
  repeat (refine zL (qis rfl rfl rfl) ?_)
  refine zt (c':=zC (Y.set (n+m+q) 0)) Z Z Z q4 Z g5 (List.length_set ..) Z (zDe Y (n+m+q) _) ?_
  refine zQ (zg G none (N+1) (n+m) m X 1 β [some ⟨116,zC (Y.set (n+m+q) 0)⟩]) (by have q:=zAW (G:=G) (F:=none) (L:=N+1) (w:=n+m) (k:=m) (X:=X) (d:=1) (β:=β) (T:=[some ⟨116,zC Y⟩]) 0 (some ⟨116,zC (Y.set (n+m+q) 0)⟩);rw [hXl,Nat.add_zero] at q;exact q) (rn5 ?_)
  exact zI ⟨q+1,kK,kK,⟨Z,Z,Z,Z,Z,Z,Z,Z,trivial⟩,by rw [hst]⟩
 have hqe:q=a:=kK
 rw [hqe]
 clear hq h hqe
 clear q
 have hCl:=zER (n+m) a N (⟨X,1,β⟩:St) m a
 generalize (zBm (n+m) a N (⟨X,1,β⟩:St) m a)=C at*
 have f1:=zBH (G:=G) (F:=none) (L:=N+1) (w:=n+m) (k:=m) (X:=X) (d:=1) (β:=β) (T:=[some ⟨116,zC C⟩])
 refine rn15 ?_
 refine zC2 Z Z Z Z Z Z Z Z Z Z ?_
 refine zQ (zg G none (N+1) (n+m) m X 1 β [some ⟨116,zC C⟩,some ⟨243,zCE 1 1 [.sl (G.length+4+m) 0 (N+1)]⟩]) (by rw [zAk];rfl) ?_
 refine zE 89 (.sl (G.length+4+m+1) 0 1) Z (AEq.of_eq (by rw [zBP,hXl];rfl)) ?_
 have f2:=zC6 (G:=G) (F:=none) (L:=N+1) (w:=n+m) (k:=m) (X:=X) (d:=1) (β:=β) (T:=[some ⟨116,zC C⟩,some ⟨243,zCE 1 1 [.sl (G.length+4+m) 0 (N+1)]⟩])
 have f3:=zAl (G:=G) (F:=none) (L:=N+1) (w:=n+m) (k:=m) (X:=X) (d:=1) (β:=β) (T:=[some ⟨116,zC C⟩,some ⟨243,zCE 1 1 [.sl (G.length+4+m) 0 (N+1)]⟩]) 1
 rw [hXl] at f3
 have hol:(zBz G.length X.length (N+1)).len=m:=hXl
 skip
 refine zq Z Z Z Z Z Z Z f2 Z hol Z (zJd f3) (by show 0+1≤1;omega) Z (by show (m+1)*24≤_∧_;omega) ?_ (by rw [hfix];exact fun q=>q.2 Z) ?_
 ·intro i' j' hi' hj'
  obtain rfl:=Nat.lt_one_iff.1 (show j'<1 from hj')
  have q:=(zFU G.length X.length (N+1) (zCE 1 1 [AV.sl (G.length+4+m) 0 (N+1)]) (by rw [hXl];rfl)).2.2 i' 0 hi' Nat.zero_lt_one
  refine Eq.trans (congrArg (AV.forget _) q.symm) (Eq.trans ?_ q)
  show AV.forget _ (AV.sl (G.length+4+i') 0 (N+1))=_
  unfold AV.forget
  rw [z7 (show G.length+4+i'≠G.length+3 by omega)];rfl
 refine zB8 ((90,.sl (G.length+3) 0 (m+1))::(83,.ptr G.length 0 0)::[(0,.ptr G.length 0 0),(1,iN n),(2,iN m),(3,iN a),(10,.int .i64 ((N+1:Nat)))]) ⟨Z,zA4 (h:=G.length+3) (L:=(83,.ptr G.length 0 0)::[(0,.ptr G.length 0 0),(1,iN n),(2,iN m),(3,iN a),(10,.int .i64 ((N+1:Nat)))]) ⟨Z,Z,Z,Z,Z,Z,trivial⟩ (by
  intro p hp
  simp only [List.mem_cons,List.mem_nil_iff,or_false] at hp
  rcases hp with rfl|rfl|rfl|rfl|rfl|rfl<;>simp [AV.forget,z7])⟩ ?_
 refine zAD (zLn G (N+1) (n+m) (X++[C]) 1 β [none]) (zM8 (hFG _ kK) (zFU G.length X.length (N+1) _ (by rw [hXl];rfl))) (rn7 ?_)
 refine zBw Z Z Z Z zQb Z Z Nat.zero_lt_one ?_
 refine zQ (zg G none (N+1) (n+m) (m+1) (X++[C]) 1 β [none]) zQd ?_
 refine zBq ?_
 have hl1:(X++[C]).length=m+1:=by rw [List.length_append,hXl];rfl
 have hlen1: ∀t:St,t.rows.length=m+1→(stH G N (n+m) (m+1) t).length=G.length+4+(m+1):=fun t ht=>by rw [zBP,ht];rfl
 refine zBS (stH G N (n+m) (m+1) ⟨X++[C],1,β⟩) [none] [(0,.ptr G.length 0 0),(1,iN n),(2,iN m),(3,iN a),(10,.int .i64 ((N+1:Nat)))] (by rw [zAk];rfl) ⟨Z,Z,Z,Z,Z,trivial⟩ (fun h hh=>by rw [hfix] at hh;rw [hlen1 _ hl1];exact Nat.lt_of_lt_of_le hh.1 (Nat.add_le_add_left (Nat.le_succ m) _))
  (zCi hG _ (by rw [hlen1 _ hl1,hl1];exact Nat.le_refl _) (fun o ho=>by cases ho) (fun o ho=>by cases ho)) (by rw [hlen1 _ hl1];simp [zDj,zCV];omega) ?_
 have cr:=run_ok G hG m N (n+m) M ⟨X++[C],1,β⟩ hi hf kK K hK E kK hN40 hB kK
 obtain ⟨hti,htf⟩:=zFR hi hf (w:=n+m) kK K
 obtain ⟨hb1,hb2⟩:=hB _ hti
 have hzt:=hz _ hti htf
 refine rn0 ?_
 refine zCw Z Z Z cr (fun _ h=>h) (fun _ h=>h) ?_
 rintro r' H' ⟨rfl,rfl⟩
 clear cr hK hi hf hz f1 f2 f3 hol
 generalize zAn m N (n+m) ⟨X++[C],1,β⟩ K=t at*
 have hn:=hti.n
 have htb:=hti.b
 have hrow:=hti.row
 have hd:t.den≠0:=by have:=hti.dp;omega
 have lm:(t.rows.getD m []).length=N+1:=hrow _ (z8 [] kK)
 have f1:=zBH (G:=G) (F:=none) (L:=N+1) (w:=n+m) (k:=(m+1)) (X:=t.rows) (d:=t.den) (β:=t.basis) (T:=[])
 have f2:=zC6 (G:=G) (F:=none) (L:=N+1) (w:=n+m) (k:=(m+1)) (X:=t.rows) (d:=t.den) (β:=t.basis) (T:=[])
 have f3:=zCu (G:=G) (F:=none) (L:=N+1) (w:=n+m) (k:=(m+1)) (X:=t.rows) (d:=t.den) (β:=t.basis) (T:=[]) (a:=m) kK
 have g6:N<(zC (t.rows.getD m [])).len:=by show N<(t.rows.getD m []).length;omega
 refine rn0 ?_
 refine zZ kQ ?_
 refine zj (fuel:=0) [0,1,2,3,4,5,6,7,8,9,10,11,12] [(0,.ptr G.length 0 0),(1,iN n),(2,iN m),(3,iN a),(10,.int .i64 ((N+1:Nat)))] ⟨Z,Z,Z,Z,Z,trivial⟩ kQ kV Z Z ?_
 refine zK Z Z (zH Z) ?_
 refine zK Z Z (zh Z) ?_
 refine zK Z Z (zN Z Z Z Z Z Z) ?_
 refine zK Z Z (zAN Z Z Z kW kY) ?_
 refine zK Z Z (zH Z) ?_
 refine zK Z Z (zh Z) ?_
 refine zK Z Z (zN Z Z Z Z Z Z) ?_
 refine zK Z Z (zAN Z Z Z kW kY) ?_
 refine zK Z Z (zBh Z Z Z) ?_
 refine zK Z Z (zFl Z Z kK) ?_
 refine zK Z Z (qis Z Z Z) ?_
 refine zK Z Z (zBD Z Z Z kW Z kU) ?_
 refine zK Z Z (zf Z) ?_
 refine zz ?_
 refine zT kQ ?_
 repeat (refine zG ?_)
 refine zv 16 (.sl (G.length+4+m) 0 (N+1)) Z (AEq.of_eq (by show AV.sl (G.length+4+(((m+1:Nat):Int)-1).toNat) 0 (N+1)=_;rw [show (((m+1:Nat):Int)-1).toNat=m by omega])) ?_
 have cs:=zEp (at2 t.rows m N)
 refine rn8 ?_
 refine zE 109 (iN N) Z (AEq.of_eq (by show AV.int _ (((N+1:Nat):Int)-1)=AV.int _ _;congr 1;omega)) (rn7 ?_)
 refine zE 111 (zBF (at2 t.rows m N)) Z (AEq.of_eq Z) ?_
 refine zA Z Z Z cs (rn4 ?_)
 refine zB Z (fun h1=> ?_) (fun h1=> ?_)
 ·rw [zGq] at h1
  have hyl: ∀i,((List.range i).map (fun i=>Rat.divInt (at2 t.rows m (n+i)) t.den)).length=i:=fun i=>by simp
  refine rn0 ?_
  refine zAg 17 ⟨118,qsC ((List.range 0).map (fun i=>Rat.divInt (at2 t.rows m (n+i)) t.den))⟩ Z Z ?_
  refine zAs (zg G none (N+1) (n+m) (m+1) t.rows t.den t.basis [some ⟨118,qsC ((List.range 0).map (fun i=>Rat.divInt (at2 t.rows m (n+i)) t.den))⟩]) (by rw [zAk];rfl) ?_
  refine zv 17 (.sl (G.length+4+(m+1)) 0 0) Z (AEq.of_eq (by rw [hlen1 _ hn])) ?_
  repeat (refine zAJ ?_)
  refine zb (ι:=Nat) (fun i=>[(0,.ptr G.length 0 0),(1,iN n),(2,iN m),(3,iN a),(10,.int .i64 ((N+1:Nat))),(16,.sl (G.length+4+m) 0 (N+1)),(17,.sl (G.length+4+(m+1)) 0 i),(114,iN m),(115,iN i)]) (fun i=>zg G none (N+1) (n+m) (m+1) t.rows t.den t.basis [some ⟨118,qsC ((List.range i).map (fun i=>Rat.divInt (at2 t.rows m (n+i)) t.den))⟩]) (fun i=>i≤m) (fun i=>m-i) 0 ⟨⟨Z,Z,Z,Z,Z,Z,Z,Z,Z,trivial⟩,Z,Nat.zero_le _⟩ ?_
  intro i him
  refine rn4 ?_
  refine zB Z (fun h=> ?_) (fun h=> ?_)
  ·have hi':i<m:=kK
   have hys:(List.range (i+1)).map (fun i=>Rat.divInt (at2 t.rows m (n+i)) t.den)=(List.range i).map (fun i=>Rat.divInt (at2 t.rows m (n+i)) t.den)++[Rat.divInt (at2 t.rows m (n+i)) t.den]:=by rw [List.range_succ,List.map_append];rfl
   have hyi:=hyl i
   generalize (List.range i).map (fun i=>Rat.divInt (at2 t.rows m (n+i)) t.den)=Y at*
   have q3:=zCu (G:=G) (F:=none) (L:=N+1) (w:=n+m) (k:=(m+1)) (X:=t.rows) (d:=t.den) (β:=t.basis) (T:=[some ⟨118,qsC Y⟩]) (a:=m) kK
   have q4:=zAl (G:=G) (F:=none) (L:=N+1) (w:=n+m) (k:=(m+1)) (X:=t.rows) (d:=t.den) (β:=t.basis) (T:=[some ⟨118,qsC Y⟩]) 0
   rw [hn,Nat.add_zero] at q4
   have g7:n+i<(zC (t.rows.getD m [])).len:=by show n+i<(t.rows.getD m []).length;omega
   have cq:=q_ok G hG (N+1) (n+m) (m+1) t.rows t.den t.basis [some ⟨118,qsC Y⟩] (fun o ho=>by cases List.mem_singleton.1 ho;exact zDM Y _) (at2 t.rows m (n+i)) hd (by have:=hsz _ _ kK (hb1 m (n+i) kK kK);omega) (by have:=hsz _ _ kK hb2;omega)
   refine rn3 ?_
   refine zE 123 (.int .i64 ((n+i:Nat))) Z (AEq.of_eq (by show AV.int _ _=AV.int _ _;congr 1)) (rn7 ?_)
   refine zE 125 (zBF (at2 t.rows m (n+i))) Z (AEq.of_eq Z) ?_
   refine zCw Z Z Z cq (fun _ h=>h) (fun _ h=>h) ?_
   rintro r' H' ⟨rfl,rfl⟩
   unfold qA
   repeat (refine ze rfl rfl rfl rfl rfl rfl rfl rfl rfl rfl rfl ?_)
   refine zq rfl rfl rfl rfl rfl rfl rfl q4 rfl hyi rfl rfl (by show 0+1≤1;omega) rfl (by show (i+1)*56≤_∧_;omega) ?_ (by rw [hfix];intro q;have:=q.1;omega) ?_
   ·intro i' j' hi' hj'
    exact zAM 0 3 zJ zu Y _ _ (zBi _) _ i' j' hi' hj'
   refine zB8 ((128,.sl (G.length+4+(m+1)) 0 (i+1))::[(0,.ptr G.length 0 0),(1,iN n),(2,iN m),(3,iN a),(10,.int .i64 ((N+1:Nat))),(16,.sl (G.length+4+m) 0 (N+1)),(114,iN m),(115,iN i)]) ⟨Z,zA4 (h:=G.length+4+(m+1)) (L:=[(0,.ptr G.length 0 0),(1,iN n),(2,iN m),(3,iN a),(10,.int .i64 ((N+1:Nat))),(16,.sl (G.length+4+m) 0 (N+1)),(114,iN m),(115,iN i)]) ⟨Z,Z,Z,Z,Z,Z,Z,Z,trivial⟩ (by
    intro p hp
    simp only [List.mem_cons,List.mem_nil_iff,or_false] at hp
    rcases hp with rfl|rfl|rfl|rfl|rfl|rfl|rfl|rfl<;>simp [AV.forget,z7 (show G.length≠G.length+4+(m+1) by omega),z7 (show G.length+4+m≠G.length+4+(m+1) by omega)])⟩ ?_
   refine zAD (zg G none (N+1) (n+m) (m+1) t.rows t.den t.basis [some ⟨118,qsC ((List.range (i+1)).map (fun i=>Rat.divInt (at2 t.rows m (n+i)) t.den))⟩]) (by
    rw [hys]
    have q:=zMA (G:=G) (L:=N+1) (w:=n+m) (k:=m+1) (X:=t.rows) (d:=t.den) (β:=t.basis) (y:=some ⟨118,qsC Y⟩) (t:=118) (by rw [hn];exact hFG _ kK) (zAV 0 3 zJ Y _ _ (zBi (Rat.divInt (at2 t.rows m (n+i)) t.den)))
    rw [hn] at q
    exact q) ?_
   refine rn5 ?_
   exact zI ⟨i+1,kK,kK,⟨Z,Z,Z,Z,Z,Z,Z,Z,Z,trivial⟩,Z⟩
  ·have hie:m=i:=kK
   subst hie
   have q4:=zAl (G:=G) (F:=none) (L:=N+1) (w:=n+m) (k:=(m+1)) (X:=t.rows) (d:=t.den) (β:=t.basis) (T:=[some ⟨118,qsC ((List.range m).map (fun i=>Rat.divInt (at2 t.rows m (n+i)) t.den))⟩]) 0
   rw [hn,Nat.add_zero] at q4
   refine zBq ?_
   refine zAC (G.length+4+(m+1)) 17 m [] q4 (zAT _) Z (by show m≤(List.map _ _).length;rw [hyl m];exact Nat.le_refl _) trivial (rn2 ?_)
   refine zM hR Z (.inl ⟨h1,Z,?_⟩)
   have q:=zAW (G:=G) (F:=none) (L:=N+1) (w:=n+m) (k:=(m+1)) (X:=t.rows) (d:=t.den) (β:=t.basis) (T:=[some ⟨118,qsC ((List.range m).map (fun i=>Rat.divInt (at2 t.rows m (n+i)) t.den))⟩]) 0 none
   rw [hn,Nat.add_zero] at q
   exact q
 ·rw [zGq] at h1
  refine rn1 ?_
  refine zZ kQ ?_
  refine zj (fuel:=3) [0,1,2,3,4,5,6,7,8,9,10,11] [(0,.ptr G.length 0 0),(1,iN n),(2,iN m),(3,iN a),(10,.int .i64 ((N+1:Nat)))] ⟨Z,Z,Z,Z,Z,trivial⟩ kQ kV Z Z ?_
  refine zK Z Z (zH Z) ?_
  refine zK Z Z (zH Z) ?_
  refine zK Z Z (zh Z) ?_
  refine zK Z Z (zN Z Z Z Z Z Z) ?_
  refine zK Z Z (zAN Z Z Z kW kY) ?_
  refine zK Z Z (zH Z) ?_
  refine zK Z Z (zh Z) ?_
  refine zK Z Z (zN Z Z Z Z Z Z) ?_
  refine zK Z Z (zAN Z Z Z kW kY) ?_
  refine zK Z Z (zBh Z Z Z) ?_
  refine zK Z Z (zFl Z Z kK) ?_
  refine zK Z Z (zF3 Z Z f2 Z Z Z Z Z ⟨Z,kK,kK⟩) ?_
  refine zz ?_
  refine zR 12 Z kQ kQ kQ Z (zh Z) Z ?_
  refine zR 13 Z kQ kQ kQ Z (zN Z Z Z Z Z Z) Z ?_
  refine zD (is:=[14]) kQ kJ Z ⟨fun o ho=> ?_,trivial⟩
  all_goals (cases ho)
  refine zE 142 (.sl (G.length+3) 0 m) Z (AEq.of_eq (by show AV.sl (G.length+3) 0 (((m+1:Nat):Int)-1).toNat=_;rw [show (((m+1:Nat):Int)-1).toNat=m by omega])) ?_
  refine zBw Z Z Z Z f1 Z Z Nat.zero_lt_one ?_
  refine zQ (zg G none (N+1) (n+m) m t.rows t.den t.basis []) (zIz m (n+m) t.den) (rn1 ?_)
  refine zT kQ ?_
  repeat (refine zG ?_)
  have hXm:(t.rows.take m).length=m:=by rw [List.length_take,hn];omega
  have hlenm: ∀u:St,u.rows.length=m→(stH G N (n+m) m u).length=G.length+4+m:=fun u hu=>by rw [zBP,hu];rfl
  refine zI7 (G.length+3) (zBz G.length m (N+1)) zC6 ⟨by show m≤t.rows.length;omega,Z,fun i j hi hj=>rfl⟩ ?_
  refine zAs (zg G none (N+1) (n+m) m (t.rows.take m) t.den t.basis [some ⟨116,zC (t.rows.getD m [])⟩]) (tb_trunc hn) ?_
  refine zBS (stH G N (n+m) m (Sx.cutS m t)) [some ⟨116,zC (t.rows.getD m [])⟩] [(0,.ptr G.length 0 0),(1,iN n),(2,iN m),(3,iN a),(10,.int .i64 ((N+1:Nat)))] (by rw [zAk];rfl) ⟨Z,Z,Z,Z,Z,trivial⟩ (fun h hh=>by rw [hfix] at hh;rw [hlenm _ hXm];exact hh.1)
   (zCi hG _ (by rw [hlenm _ hXm];show G.length+4+(t.rows.take m).length≤_;rw [hXm];exact Nat.le_refl _) (fun o ho=>by cases ho) (fun o ho=>by cases ho)) (by rw [hlenm _ hXm];simp [zDj,zCV];omega) ?_
  clear f1 f2 f3 g6
  have f1:=zBH (G:=G) (F:=none) (L:=N+1) (w:=n+m) (k:=m) (X:=(t.rows.take m)) (d:=t.den) (β:=t.basis) (T:=[])
  refine rn7 ?_
  refine zv 148 (.sl (G.length+2) 0 m) Z (AEq.of_eq (by show AV.sl _ 0 t.basis.length=_;rw [htb])) ?_
  refine zv 149 (iN m) Z (AEq.of_eq (by show AV.int _ ((t.basis.length:Nat):Int)=_;rw [htb])) ?_
  refine zb (ι:=Nat) (fun i=>[(0,.ptr G.length 0 0),(1,iN n),(2,iN m),(3,iN a),(10,.int .i64 ((N+1:Nat))),(148,.sl (G.length+2) 0 m),(149,iN m),(150,iN i)]) (fun i=>stH G N (n+m) m (zBc (n+m) (Sx.cutS m t) i)) (fun i=>i≤m) (fun i=>m-i) 0 ⟨⟨Z,Z,Z,Z,Z,Z,Z,Z,trivial⟩,Z,Nat.zero_le _⟩ ?_
  clear f1
  intro i him
  refine rn4 ?_
  refine zB Z (fun h=> ?_) (fun h=> ?_)
  ·have hi':i<m:=kK
   have hdc:=zIg (w:=n+m) (show m≤t.rows.length by omega) i him
   obtain ⟨hvi,_,_⟩:=hti.drives htf (hzt h1) (w:=n+m) kK i him
   obtain ⟨hb3,hb4⟩:=hB _ hvi
   have hnx:zBc (n+m) (Sx.cutS m t) (i+1)=zCK (n+m) (zBc (n+m) (Sx.cutS m t) i) i:=rfl
   have hul:(zBc (n+m) (Sx.cutS m t) i).rows.length=m:=by rw [hdc];show ((zBc (n+m) t i).rows.take m).length=m;rw [List.length_take,hvi.n];omega
   have hub:(zBc (n+m) (Sx.cutS m t) i).basis.length=m:=by rw [hdc];exact hvi.b
   have hur: ∀x∈(zBc (n+m) (Sx.cutS m t) i).rows,x.length=N+1:=by rw [hdc];exact fun x hx=>hvi.row x (List.mem_of_mem_take hx)
   have hud:(zBc (n+m) (Sx.cutS m t) i).den≠0:=by rw [hdc];have:=hvi.dp;show (zBc (n+m) t i).den≠0;omega
   have hu1: ∀q j,q<m→j<N+1→(at2 (zBc (n+m) (Sx.cutS m t) i).rows q j).natAbs≤10^E:=by rw [hdc];intro q j hq hj;show (at2 ((zBc (n+m) t i).rows.take m) q j).natAbs≤_;rw [zEj hq];exact hb3 q j kK hj
   have hu2:(zBc (n+m) (Sx.cutS m t) i).den.natAbs≤10^E:=by rw [hdc];exact hb4
   clear hdc hvi hb3 hb4
   generalize hU:zBc (n+m) (Sx.cutS m t) (i+1)=u' at*
   generalize zBc (n+m) (Sx.cutS m t) i=u at*
   have f2:=zGN (G:=G) (F:=none) (L:=N+1) (w:=n+m) (k:=m) (X:=u.rows) (d:=u.den) (β:=u.basis) (T:=[])
   have g2:i<(u.basis.map (fun a:Nat=>(a:Int))).length:=by rw [List.length_map,hub];exact hi'
   refine rn7 ?_
   refine zB Z (fun h2=> ?_) (fun h2=> ?_)
   ·rw [zA5] at h2
    have e:u'=u:=by rw [hnx];unfold zCK;rw [if_pos kK]
    refine rn5 ?_
    exact zI ⟨i+1,kK,kK,⟨Z,Z,Z,Z,Z,Z,Z,Z,trivial⟩,by rw [hU,e]⟩
   ·rw [zA5] at h2
    have e1:u'=if nzN u.rows i (n+m) 0=n+m then u else piv u i (nzN u.rows i (n+m) 0):=by rw [hnx];unfold zCK;rw [if_neg kK]
    clear f2 g2
    apply zAX (H:=stH G N (n+m) m u') [(0,.ptr G.length 0 0),(1,iN n),(2,iN m),(3,iN a),(10,.int .i64 ((N+1:Nat))),(148,.sl (G.length+2) 0 m),(149,iN m),(150,iN i)]
    ·intro fin
     refine rn3 ?_
     refine zv 162 (.int .i64 ((n+m:Nat))) Z (AEq.of_eq (by show AV.int _ _=AV.int _ _;congr 1)) ?_
     refine zb (ι:=Nat) (fun j=>[(0,.ptr G.length 0 0),(1,iN n),(2,iN m),(3,iN a),(10,.int .i64 ((N+1:Nat))),(148,.sl (G.length+2) 0 m),(149,iN m),(150,iN i),(19,iN i),(162,.int .i64 ((n+m:Nat))),(163,iN j)]) (fun _=>stH G N (n+m) m u) (fun j=>j≤n+m∧nzN u.rows i (n+m-j) j=nzN u.rows i (n+m) 0) (fun j=>n+m-j) 0 ⟨⟨Z,Z,Z,Z,Z,Z,Z,Z,Z,Z,Z,trivial⟩,Z,Nat.zero_le _,Z⟩ ?_
     rintro j ⟨hj,hnz⟩
     refine rn4 ?_
     refine zB Z (fun h3=> ?_) (fun h3=> ?_)
     ·have hj':j<n+m:=kK
      have lI:(u.rows.getD i []).length=N+1:=hur _ (z8 [] kK)
      have f1:=zBH (G:=G) (F:=none) (L:=N+1) (w:=n+m) (k:=m) (X:=u.rows) (d:=u.den) (β:=u.basis) (T:=[])
      have f2:=zC6 (G:=G) (F:=none) (L:=N+1) (w:=n+m) (k:=m) (X:=u.rows) (d:=u.den) (β:=u.basis) (T:=[])
      have f3:=zCu (G:=G) (F:=none) (L:=N+1) (w:=n+m) (k:=m) (X:=u.rows) (d:=u.den) (β:=u.basis) (T:=[]) (a:=i) kK
      have g3:i<(zBz G.length u.rows.length (N+1)).len:=by show i<u.rows.length;omega
      have g4:j<(zC (u.rows.getD i [])).len:=by show j<(u.rows.getD i []).length;omega
      have cs:=zEp (at2 u.rows i j)
      refine rn7 ?_
      refine zE 175 (zBF (at2 u.rows i j)) Z (AEq.of_eq Z) ?_
      refine zA Z Z Z cs (rn3 ?_)
      refine zB Z (fun h4=> ?_) (fun h4=> ?_)
      ·rw [zJ8] at h4
       rw [nz_stop h4] at hnz
       rw [←hnz,if_neg kK] at e1
       have cp:=zOs G hG (N+1) (n+m) m u.rows u.den u.basis i j E hul kK hur hN40 kK kK kK hud hu1 hu2 kK
       refine rn0 ?_
       refine zCw Z Z Z cp (fun _ h=>h) (fun _ h=>h) ?_
       rintro r' H' ⟨rfl,rfl⟩
       rw [e1] at fin
       refine zBq ?_
       exact fin _ ⟨Z,Z,Z,Z,Z,Z,Z,Z,trivial⟩
      ·rw [zJ8] at h4
       refine rn5 ?_
       exact zI ⟨j+1,⟨kK,by rw [←hnz,show n+m-j=(n+m-(j+1))+1 by omega,nz_go h4]⟩,kK,⟨Z,Z,Z,Z,Z,Z,Z,Z,Z,Z,Z,trivial⟩,Z⟩
     ·have hje:j=n+m:=kK
      rw [hje,Nat.sub_self] at hnz
      have hnz:n+m=nzN u.rows i (n+m) 0:=hnz
      rw [if_pos hnz.symm] at e1
      rw [e1] at fin
      refine zBq ?_
      exact fin _ ⟨Z,Z,Z,Z,Z,Z,Z,Z,trivial⟩
    ·refine rn3 ?_
     exact zI ⟨i+1,kK,kK,⟨Z,Z,Z,Z,Z,Z,Z,Z,trivial⟩,by rw [hU]⟩
  ·have hie:m=i:=kK
   subst hie
   refine rn5 ?_
   exact zM hR Z (.inr ⟨h1,Z,Z⟩)
theorem zHq (n c:Nat):(zFs n c).length=n:=by
 unfold zFs
 split
 ·simp
 ·simp
theorem ray_ok (G:zO)(hG:OkG G)(N w k:Nat)(X:Tab)(d:Int)(β:List Nat)(T:zO)(hT: ∀m,G.length+4+X.length≤m→ ∀o:AObj,some o∈T→zBM m o.c)(n0 cc:Nat)(hn0:n0≤1000000)(hc:cc<N+1)(hkX:k≤X.length)(hβ:β.length≤k)(hk40:k≤1000000)(hL: ∀x∈X,x.length=N+1)(hL40:N+1≤1000000)(hd:d≠0)(hX: ∀i,i<β.length→(zW (at2 X i cc).natAbs).length≤1000000)(hdl:(zW d.natAbs).length≤1000000):
 zU Tryz.prog 179 [.ptr G.length 0 0,iN n0,iN cc] (zg G none (N+1) w k X d β T) (fun h=>h<(zg G none (N+1) w k X d β T).length)
  (fun r' H'=>r'= .ro (qsC (zCH n0 β (fun i=>Rat.divInt (-(at2 X i cc)) d) (zFs n0 cc) β.length)) 0 n0∧H'=zg G none (N+1) w k X d β T):=by
 have hlen: ∀T,(zg G none (N+1) w k X d β T).length=G.length+4+X.length+T.length:=fun T=>zBP
 refine zF (P:=Tryz.prog) (fn:=Tryz.f179) Z Z kQ Z (fun c hR hfix=> ?_)
 refine rn0 ?_
 refine zBv Z Z Z Z Z Z Z Z (by show (0:Int)≤_∧_≤_∧(56:Int)*_≤_∧_;omega) ?_
 refine zAD (zg G none (N+1) w k X d β T++[some ⟨118,zIT (List.replicate n0 none)⟩]) (zP.append (zP.refl _) (zP.eqv (zPV _) zP.nil)) ?_
 refine zQ (zg G none (N+1) w k X d β (T++[some ⟨118,zIT (chg (fun _=>some (0:Rat)) none (List.replicate n0 none) 0)⟩])) (by rw [zAk,zDU]) ?_
 refine zE 12 (.sl (G.length+4+X.length+T.length) 0 n0) Z (AEq.of_eq (by rw [hlen];rfl)) (rn3 ?_)
 refine zb (ι:=Nat) (fun i=>[(0,.ptr G.length 0 0),(1,iN n0),(2,iN cc),(7,.sl (G.length+4+X.length+T.length) 0 n0),(14,iN n0),(15,iN i)]) (fun i=>zg G none (N+1) w k X d β (T++[some ⟨118,zIT (chg (fun _=>some (0:Rat)) none (List.replicate n0 none) i)⟩]))
  (fun i=>i≤n0) (fun i=>n0-i) 0 ⟨⟨rfl,rfl,rfl,rfl,rfl,rfl,trivial⟩,rfl,Nat.zero_le _⟩ ?_
 intro i hi
 refine rn4 ?_
 refine zB Z (fun h=> ?_) (fun h=> ?_)
 ·have hi':i<n0:=kK
  have hst:=zD8 (fun _=>some (0:Rat)) none (List.replicate n0 none) (k:=i) (by simpa using hi')
  have hAl:(chg (fun _=>some (0:Rat)) none (List.replicate n0 none) i).length=n0:=by rw [zC7];simp
  generalize chg (fun _=>some (0:Rat)) none (List.replicate n0 none) i=A at*
  have f1:=zHH (G:=G) (F:=none) (L:=N+1) (w:=w) (k:=k) (X:=X) (d:=d) (β:=β) (T:=T) (some ⟨118,zIT A⟩)
  have hiA:i<(zIT A).len:=by show i<A.length;omega
  refine rn1 ?_
  refine zA Z Z Z zEE ?_
  unfold qA
  repeat (refine zL (qis rfl rfl rfl) ?_)
  refine zt (c':=zIT (A.set i (some 0))) Z Z Z f1 Z hiA (List.length_set ..) Z (fun i' j' hi' hj'=>zGp none 3 zJC A i (some 0) hiA i' j' hi' hj') ?_
  refine zQ (zg G none (N+1) w k X d β (T++[some ⟨118,zIT (A.set i (some 0))⟩])) (zDI _ _) (rn5 ?_)
  exact zI ⟨i+1,kK,kK,⟨Z,Z,Z,Z,Z,Z,trivial⟩,by rw [hst]⟩
 have hie:i=n0:=kK
 rw [hie,zRR]
 clear hi h hie
 clear i
 refine zAI (zg G none (N+1) w k X d β T++[some ⟨118,qsC (List.replicate n0 0)⟩]) (by rw [←zAk];exact zP.append (zP.refl _) (zP.eqv (zRj _) zP.nil)) ?_
 refine zAs (zg G none (N+1) w k X d β (T++[some ⟨118,qsC (List.replicate n0 0)⟩])) (by rw [zAk]) ?_
 apply zAX (H:=zg G none (N+1) w k X d β (T++[some ⟨118,qsC (zFs n0 cc)⟩])) [(0,.ptr G.length 0 0),(1,iN n0),(2,iN cc),(7,.sl (G.length+4+X.length+T.length) 0 n0)]
 ·intro fin
  have f1:=zHH (G:=G) (F:=none) (L:=N+1) (w:=w) (k:=k) (X:=X) (d:=d) (β:=β) (T:=T) (some ⟨118,qsC (List.replicate n0 0)⟩)
  refine rn5 ?_
  refine zB Z (fun h1=> ?_) (fun h1=> ?_)
  ·have h1':cc<n0:=kK
   have hiA:cc<(qsC (List.replicate n0 0)).len:=by show cc<(List.replicate n0 (0:Rat)).length;rw [List.length_replicate];exact h1'
   rw [show zFs n0 cc=(List.replicate n0 (0:Rat)).set cc 1 by unfold zFs;rw [if_pos h1']] at fin
   generalize List.replicate n0 (0:Rat)=A at*
   refine rn0 ?_
   refine zA Z Z Z zCg ?_
   unfold qA
   repeat (refine zL (qis rfl rfl rfl) ?_)
   refine zt (c':=qsC (A.set cc 1)) Z Z Z f1 Z hiA (List.length_set ..) Z (fun i' j' hi' hj'=>zGp 0 3 zJ A cc 1 hiA i' j' hi' hj') ?_
   refine zQ (zg G none (N+1) w k X d β (T++[some ⟨118,qsC (A.set cc 1)⟩])) (zDI _ _) ?_
   refine zBq ?_
   exact fin _ ⟨Z,Z,Z,Z,trivial⟩
  ·have h1': ¬cc<n0:=kK
   rw [show zFs n0 cc=List.replicate n0 (0:Rat) by unfold zFs;rw [if_neg h1']] at fin
   refine zBq ?_
   exact fin _ ⟨Z,Z,Z,Z,trivial⟩
 have f2:=zBH (G:=G) (F:=none) (L:=N+1) (w:=w) (k:=k) (X:=X) (d:=d) (β:=β) (T:=T++[some ⟨118,qsC (zCH n0 β (fun i=>Rat.divInt (-(at2 X i cc)) d) (zFs n0 cc) 0)⟩])
 refine zAs (zg G none (N+1) w k X d β (T++[some ⟨118,qsC (zCH n0 β (fun i=>Rat.divInt (-(at2 X i cc)) d) (zFs n0 cc) 0)⟩])) Z (rn7 ?_)
 refine zb (ι:=Nat) (fun i=>[(0,.ptr G.length 0 0),(1,iN n0),(2,iN cc),(7,.sl (G.length+4+X.length+T.length) 0 n0),(33,.sl (G.length+2) 0 β.length),(34,iN β.length),(35,iN i)]) (fun i=>zg G none (N+1) w k X d β (T++[some ⟨118,qsC (zCH n0 β (fun i=>Rat.divInt (-(at2 X i cc)) d) (zFs n0 cc) i)⟩]))
  (fun i=>i≤β.length) (fun i=>β.length-i) 0 ⟨⟨rfl,rfl,rfl,rfl,rfl,rfl,rfl,trivial⟩,rfl,Nat.zero_le _⟩ ?_
 clear f2
 intro i hi
 have hVl:=zEG n0 β (fun i=>Rat.divInt (-(at2 X i cc)) d) (zFs n0 cc) i
 rw [zHq] at hVl
 refine rn4 ?_
 refine zB Z (fun h=> ?_) (fun h=> ?_)
 ·have hi':i<β.length:=kK
  have hst:zCH n0 β (fun i=>Rat.divInt (-(at2 X i cc)) d) (zFs n0 cc) (i+1)=if β.getD i 0<n0 then (zCH n0 β (fun i=>Rat.divInt (-(at2 X i cc)) d) (zFs n0 cc) i).set (β.getD i 0) (Rat.divInt (-(at2 X i cc)) d) else zCH n0 β (fun i=>Rat.divInt (-(at2 X i cc)) d) (zFs n0 cc) i:=rfl
  generalize zCH n0 β (fun i=>Rat.divInt (-(at2 X i cc)) d) (zFs n0 cc) i=V at*
  have f1:=zBH (G:=G) (F:=none) (L:=N+1) (w:=w) (k:=k) (X:=X) (d:=d) (β:=β) (T:=T++[some ⟨118,qsC V⟩])
  have f2:=zGN (G:=G) (F:=none) (L:=N+1) (w:=w) (k:=k) (X:=X) (d:=d) (β:=β) (T:=T++[some ⟨118,qsC V⟩])
  have g2:i<(β.map (fun a:Nat=>(a:Int))).length:=by rw [List.length_map];exact hi'
  refine rn7 ?_
  refine zB Z (fun h1=> ?_) (fun h1=> ?_)
  ·rw [zA5] at h1
   have hb:β.getD i 0<n0:=kK
   rw [if_pos hb] at hst
   refine zv 10 (iN (β.getD i 0)) Z (AEq.of_eq (by rw [zA5])) ?_
   have lI:(X.getD i []).length=N+1:=hL _ (z8 [] kK)
   have f3:=zC6 (G:=G) (F:=none) (L:=N+1) (w:=w) (k:=k) (X:=X) (d:=d) (β:=β) (T:=T++[some ⟨118,qsC V⟩])
   have f4:=zCu (G:=G) (F:=none) (L:=N+1) (w:=w) (k:=k) (X:=X) (d:=d) (β:=β) (T:=T++[some ⟨118,qsC V⟩]) (a:=i) kK
   have f5:=zHH (G:=G) (F:=none) (L:=N+1) (w:=w) (k:=k) (X:=X) (d:=d) (β:=β) (T:=T) (some ⟨118,qsC V⟩)
   have g3:i<(zBz G.length X.length (N+1)).len:=by show i<X.length;omega
   have g4:cc<(zC (X.getD i [])).len:=by show cc<(X.getD i []).length;omega
   have g5:β.getD i 0<(qsC V).len:=by show _<V.length;omega
   have hlT:=hlen T
   have cq:=q_ok G hG (N+1) w k X d β (T++[some ⟨118,qsC V⟩]) (fun o ho=>by
    rw [hlen]
    rcases List.mem_append.1 ho with q|q
    ·exact hT _ kK o q
    ·cases List.mem_singleton.1 q;exact zDM V _) (-(at2 X i cc)) hd (by rw [Int.natAbs_neg];exact hX i hi') hdl
   have co:=zG3 (at2 X i cc)
   refine rn7 ?_
   refine zE 55 (zBF (at2 X i cc)) Z (AEq.of_eq Z) ?_
   refine zA Z Z Z co ?_
   refine zCw Z Z Z cq (fun _ h=>h) (fun _ h=>h) ?_
   rintro r' H' ⟨rfl,rfl⟩
   repeat (refine zL (qis rfl rfl rfl) ?_)
   unfold qA
   refine zt (c':=qsC (V.set (β.getD i 0) (Rat.divInt (-(at2 X i cc)) d))) Z Z Z f5 Z g5 (List.length_set ..) Z (fun i' j' hi' hj'=>zGp 0 3 zJ V (β.getD i 0) _ g5 i' j' hi' hj') ?_
   refine zQ (zg G none (N+1) w k X d β (T++[some ⟨118,qsC (V.set (β.getD i 0) (Rat.divInt (-(at2 X i cc)) d))⟩])) (zDI _ _) (rn5 ?_)
   exact zI ⟨i+1,kK,kK,⟨Z,Z,Z,Z,Z,Z,Z,trivial⟩,by rw [hst]⟩
  ·rw [zA5] at h1
   rw [if_neg kK] at hst
   refine rn5 ?_
   exact zI ⟨i+1,kK,kK,⟨Z,Z,Z,Z,Z,Z,Z,trivial⟩,by rw [hst]⟩
 have hie:i=β.length:=kK
 subst hie
 refine zBq ?_
 generalize zCH n0 β (fun i=>Rat.divInt (-(at2 X i cc)) d) (zFs n0 cc) β.length=V at*
 have f5:=zHH (G:=G) (F:=none) (L:=N+1) (w:=w) (k:=k) (X:=X) (d:=d) (β:=β) (T:=T) (some ⟨118,qsC V⟩)
 refine zAC (G.length+4+X.length+T.length) 7 n0 [] f5 (zAT _) Z (by show n0≤V.length;omega) trivial ?_
 refine zAs (zg G none (N+1) w k X d β T++[none]) (by rw [zDI,zAk]) ?_
 refine zBS (zg G none (N+1) w k X d β T) [none] [(7,.ro (qsC V) 0 n0)] rfl ⟨rfl,trivial⟩ (fun h hh=>by rw [hfix] at hh;exact hh) (zCi hG _ (by rw [hlen];omega) (fun o ho=>by cases ho) (hT _ (by rw [hlen];omega))) rfl (rn0 ?_)
 exact zM hR Z ⟨Z,Z⟩
end Go.Proofs.YtmpnheilfejcpaaGreatDoor
