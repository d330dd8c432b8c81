import Derived.Test.YtmpnheilfejcpaaGreatDoorB7
set_option linter.unusedVariables false
set_option linter.unusedSimpArgs false
set_option maxRecDepth 100000
set_option maxHeartbeats 40000000
namespace Go.Proofs.YtmpnheilfejcpaaGreatDoor
open Go.Ax Go.Ax.Bg Go.Ax.Rt Go.RowKit Go.Ax.Dt Go.Ax.Sx
attribute [local irreducible] Ax zB2 QOp zU zBV
def runA (r:Res):AV:= .agg ([iN r.kind,if r.kind=1 then .nil else .ro (qsC r.X) 0 r.X.length,if r.kind=2 then .nil else .ro (qsC r.Y) 0 r.Y.length,if r.kind=2 then .ro (qsC r.R) 0 r.R.length else .nil]++(if r.kind=0 then zJ r.V else [.bool false,.nil,.nil]))
theorem zQT (r:Res):noRef (runA r)=true:=by
 obtain ⟨k,X,Y,R,V⟩:=r
 by_cases h0:k=0
 ·subst h0;rfl
 ·by_cases h1:k=1
  ·subst h1;rfl
  ·by_cases h2:k=2
   ·subst h2;rfl
   ·show noRef (.agg ([_,if k=1 then _ else _,if k=2 then _ else _,if k=2 then _ else _]++(if k=0 then _ else _)))=true
    rw [if_neg h0,if_neg h1,if_neg h2,if_neg h2];rfl
theorem intA_nat (n:Nat):zBF ((n:Nat):Int)= .agg [.bool false,zm n]:=by
 unfold zBF
 rw [Int.natAbs_natCast,decide_eq_false kK]
theorem zLi (s:Nat)(t:TypeId): ∀X:Tab,zC5 s (zCe t zC X)=zCe t zC X
 |[]=>rfl
 |a::r=>by
  show some ⟨t,(zC a).shift s⟩::zC5 s (zCe t zC r)=some ⟨t,zC a⟩::zCe t zC r
  rw [zIR,zLi s t r]
theorem zQG (b n L s:Nat):(zBz b n L).shift s=zBz (s+b) n L:=by
 show Cells.fn _ _ _=Cells.fn _ _ _
 congr 1
 funext i j
 show AV.sl (b+4+i+s) 0 L=AV.sl (s+b+4+i) 0 L
 rw [show b+4+i+s=s+b+4+i by omega]
theorem tb_shift (A B:Option AObj)(L w k:Nat)(X:Tab)(d:Int)(β:List Nat):[A,B]++zC5 2 (zg [none,none] none L w k X d β [])=zg [A,B,none,none] none L w k X d β []:=by
 show A::B::none::none::some (⟨249,zEN 4 k β.length w d⟩:AObj)::none::some (⟨3,zCJ β⟩:AObj)::some (⟨243,(zBz 2 X.length L).shift 2⟩:AObj)::zC5 2 (zCe 116 zC X++[])=_
 rw [List.append_nil,zLi,zQG]
 show _=A::B::none::none::some (⟨249,zEN 4 k β.length w d⟩:AObj)::none::some (⟨3,zCJ β⟩:AObj)::some (⟨243,zBz 4 X.length L⟩:AObj)::(zCe 116 zC X++[])
 rw [List.append_nil]
theorem zQV {H:zO}{x:Option AObj}{h:Nat}{o:Option AObj}(hh:H[h]? =some o):(H.set h x)[h]? =some x:=List.getElem?_set_self (List.getElem?_eq_some_iff.1 hh).1
theorem T_small {p:Prog}{k:Nat}(hm:p.m≤30)(hn:p.n≤30)(hk:k≤100):p.T k≤850000:=by
 have hE:p.E k≤3200:=by
  unfold Prog.E
  have:k*(p.n+1)≤100*31:=Nat.mul_le_mul hk kK
  omega
 unfold Prog.T
 exact Nat.le_trans (Nat.mul_le_mul (show p.E k+2≤3202 by omega) (show p.m+1≤31 by omega)) kV
theorem Run_ok (p:Prog)(k K L:Nat)(hp:p.Ok)(hk:p.Dig k)(hm:p.m≤30)(hn:p.n≤30)(hk40:k≤1000)(hT:p.T k≤850000)(hs:Stops p K L):
 zX Tryz.prog 93 [.agg [.ro (zd p.A) 0 p.A.length,.ro (qsC p.B) 0 p.B.length,.ro (qsC p.C) 0 p.C.length]] (runA (zD1 p K L)):=by
 have hNe:p.N=p.n+p.m+p.a:=rfl
 have hal:p.a≤p.m:=zKy p.B p.B.length
 have hE:p.E k≤32000:=by
  unfold Prog.E
  have:k*(p.n+1)≤1000*31:=Nat.mul_le_mul hk40 kK
  omega
 have hET:p.E k≤p.T k:=by
  unfold Prog.T
  have:(p.E k+2)*1≤(p.E k+2)*(p.m+1):=Nat.mul_le_mul_left _ kK
  omega
 have cst:=zU.many (start_ok p p.N k hp hk hNe (show p.m≤40 by omega) (show p.n≤40 by omega) kK) (fun _ h=>h) rfl
 have hph1:(⟨zBO p++[zBm (p.n+p.m) p.a p.N ⟨zBO p,1,zBr p⟩ p.m p.a],1,zBr p⟩:St)=ph1 p:=by
  have e:zBm (p.n+p.m) p.a p.N ⟨zBO p,1,zBr p⟩ p.m p.a=zH7 (zDL p) p.m p.N (zAb p):=by
   rw [←zKA p,zPe];exact zPd p p.a rfl
  rw [e,←ph1_rows];rfl
 have htk:(zAb p).rows.take p.m=zBO p:=congrArg St.rows (zKA p)
 have hcf: ∀(G:zO),OkG G→(∀h,G.length≤h→zp h G=G)→0<p.a→_:=fun G hG hFG ha=>zOS G hG hFG p.n p.m p.a p.N (zBO p) (zBr p) (M1 p) K (p.T k) hNe kK kK (zCt p) (zHF p) (fun x hx=>(zFX p).row x (List.mem_append_left _ hx))
  (fun i j hi hj=>by rw [←htk,zEj hi];exact Nat.le_trans (zMz hp hk hi hj) (Nat.pow_le_pow_right kV hET)) kK (by rw [hph1];exact zNk p) (by rw [hph1];exact zLO p hp) (by rw [hph1];exact hs.one ha)
  (fun t ht=>zFP ht kK (zPW hp hk)) (fun t ht hf h0 i hi hb=>(zIK ht hf).2 (by have:=(zIK ht hf).1;omega) i hi hb)
 rw [hph1] at hcf
 refine zU.value0 (zF (P:=Tryz.prog) (fn:=Tryz.f93) Z Z kQ Z (fun c hR hfix=> ?_)) (fix:=fun _=>False) (fun _ h=>h) Z (zQT _)
 refine rn6 ?_
 refine zZ kQ ?_
 refine zj (fuel:=0) [0,1,2,3,4,5,6,7] [(1,.ptr 0 0 0),(2,.ptr 1 0 0)] ⟨Z,Z,trivial⟩ kQ kV Z Z ?_
 refine zK Z Z (zN Z Z Z Z Z Z) ?_
 refine zK Z Z (zY Z Z Z Z Z) ?_
 refine zK Z Z (zBh Z Z Z) ?_
 refine zK Z Z (zN Z Z Z Z Z Z) ?_
 refine zK Z Z (zY Z Z Z Z Z) ?_
 refine zK Z Z (zBh Z Z Z) ?_
 refine zK Z Z (zf Z) ?_
 refine zK Z Z (zf Z) ?_
 refine zz ?_
 refine zT kQ (rn6 ?_)
 refine zE 29 (.agg [.ro (zd p.A) 0 p.A.length,.ro (qsC p.B) 0 p.B.length,.ro (qsC p.C) 0 p.C.length]) Z (AEq.of_eq Z) ?_
 refine zGQ (.tup [.ptr 4 0 0,.ro (nsC ((List.range p.m).map p.fac)) 0 p.m,iN p.a]) (zg [some ⟨155,.box [.ro (zd p.A) 0 p.A.length,.ro (qsC p.B) 0 p.B.length,.ro (qsC p.C) 0 p.C.length]⟩,some ⟨152,.box [.int .i64 0,.nil,.nil,.nil,.bool false,.nil,.nil]⟩,none,none] none (p.N+1) (p.n+p.m) p.m (zBO p) 1 (zBr p) []) Z Z Z cst Z (tb_shift _ _ _ _ _ _ _ _) ?_
 generalize hGG:([some ⟨155,.box [.ro (zd p.A) 0 p.A.length,.ro (qsC p.B) 0 p.B.length,.ro (qsC p.C) 0 p.C.length]⟩,some ⟨152,.box [.int .i64 0,.nil,.nil,.nil,.bool false,.nil,.nil]⟩,none,none]:zO)=G
 have hG4:G.length=4:=by subst hGG;rfl
 have hG:OkG G:=by
  rw [←hGG]
  intro m hm o ho
  simp only [List.mem_cons,List.mem_nil_iff,or_false] at ho
  rcases ho with e|e|e|e
  ·cases e;exact zIp p _
  ·cases e
   intro i j hi hj
   obtain rfl:=Nat.lt_one_iff.1 (show i<1 from hi)
   match j,(show j<7 from hj) with
   |0,_=>rfl
   |1,_=>rfl
   |2,_=>rfl
   |3,_=>rfl
   |4,_=>rfl
   |5,_=>rfl
   |6,_=>rfl
  ·cases e
  ·cases e
 have hFG: ∀h,zp h G=G:=fun h=>by subst hGG;rfl
 have hg0: ∀kk X d β T,(zg G none (p.N+1) (p.n+p.m) kk X d β T)[0]? =some (some ⟨155,.box [.ro (zd p.A) 0 p.A.length,.ro (qsC p.B) 0 p.B.length,.ro (qsC p.C) 0 p.C.length]⟩):=fun kk X d β T=>by subst hGG;rfl
 have hg1: ∀kk X d β T,(zg G none (p.N+1) (p.n+p.m) kk X d β T)[1]? =some (some ⟨152,.box [.int .i64 0,.nil,.nil,.nil,.bool false,.nil,.nil]⟩):=fun kk X d β T=>by subst hGG;rfl
 refine zE 30 (.tup [.ptr G.length 0 0,.ro (nsC ((List.range p.m).map p.fac)) 0 p.m,iN p.a]) Z (AEq.of_eq (by rw [hG4])) ?_
 have hcf:=hcf G hG (fun h _=>hFG h)
 have hslen:(zg G none (p.N+1) (p.n+p.m) p.m (zBO p) 1 (zBr p) []).length=G.length+4+p.m:=by rw [zBP,zCt];rfl
 have hfl:((List.range p.m).map p.fac).length=p.m:=kJ
 clear cst
 by_cases hneg:0<p.a∧at2 (zCW p K).rows p.m p.N<0
 ·rw [zSo hneg] at hR
  have cf:=hcf hneg.1
  obtain ⟨o1,o2⟩:=zFT p hp K
  obtain ⟨b1,b2⟩:=zFP o1 kK (zPW hp hk)
  have hD:=o1.dp
  obtain ⟨KK,hKK⟩: ∃KK,KK=890000:=⟨_,rfl⟩
  have cu:=zLy ((List.range p.m).map (fun i=>Rat.divInt (at2 (zCW p K).rows p.m (p.n+i)) (zCW p K).den)) ((List.range p.m).map p.fac) KK kJ (by simp;omega) (fun q hq=>by
   obtain ⟨i,hi,rfl⟩:=List.mem_map.1 hq
   have hi:i<p.m:=by simpa using hi
   exact (zET kK (zDJ (b1 p.m (p.n+i) kK kK)) (zDJ b2)).mono kK) (fun q hq=>by
   obtain ⟨i,hi,rfl⟩:=List.mem_map.1 hq
   have hi:i<p.m:=by simpa using hi
   refine Nat.lt_of_lt_of_le (zDJ (zPv hp hk hi)) (Nat.pow_le_pow_right kV ?_)
   have:k*(p.n+1)≤1000*31:=Nat.mul_le_mul hk40 kK
   omega) kK
  rw [show ((List.range p.m).map (fun i=>Rat.divInt (at2 (zCW p K).rows p.m (p.n+i)) (zCW p K).den)).length=p.m by simp,hfl] at cu
  have hy:zKE ((List.range p.m).map (fun i=>Rat.divInt (at2 (zCW p K).rows p.m (p.n+i)) (zCW p K).den)) ((List.range p.m).map p.fac) p.m=yL p (zCW p K) (zCW p K).den:=(yL_as p (zCW p K) (zCW p K).den).symm
  rw [hy] at cu
  have hyl:(yL p (zCW p K) (zCW p K).den).length=p.m:=by simp [yL]
  refine rn6 ?_
  refine zB Z (fun _=> ?_) (fun hx=>absurd hneg.1 kK)
  refine rn0 ?_
  refine zN6 (G.length+3) Z Z Z cf (fun h q1 q2=>⟨q1,q2⟩) (fun h q=>q.1) (by rw [hfix];exact fun h=>h) ?_
  intro r' H' hr'
  rcases hr' with ⟨h1,rfl,rfl⟩|⟨h1,rfl,rfl⟩
  ·refine ⟨by rw [hslen,zBP,show (zAn p.m p.N (p.n+p.m) (ph1 p) K).rows.length=p.m+1 from o1.n];omega,?_⟩
   refine zB8 ((41,.tup [.ro (qsC ((List.range p.m).map (fun i=>Rat.divInt (at2 (zCW p K).rows p.m (p.n+i)) (zCW p K).den))) 0 p.m,.bool false])::[(1,.ptr 0 0 0),(2,.ptr 1 0 0),(3,iN p.n),(4,iN p.m),(5,.ptr G.length 0 0),(6,.ro (nsC ((List.range p.m).map p.fac)) 0 p.m),(7,iN p.a)]) ⟨Z,zA4 (h:=G.length+3) (L:=[(1,.ptr 0 0 0),(2,.ptr 1 0 0),(3,iN p.n),(4,iN p.m),(5,.ptr G.length 0 0),(6,.ro (nsC ((List.range p.m).map p.fac)) 0 p.m),(7,iN p.a)]) ⟨Z,Z,Z,Z,Z,Z,Z,trivial⟩ (by
   intro q hq
   simp only [List.mem_cons,List.mem_nil_iff,or_false] at hq
   rcases hq with rfl|rfl|rfl|rfl|rfl|rfl|rfl<;>simp [AV.forget,zm,z7 (show G.length≠G.length+3 by omega),z7 (show 0≠G.length+3 by omega),z7 (show 1≠G.length+3 by omega)])⟩ ?_
   refine rn5 ?_
   refine zA Z Z Z cu ?_
   repeat (refine zL (zBT rfl rfl rfl rfl rfl rfl) ?_)
   refine zt (c':= .box [.int .i64 1,.nil,.ro (qsC (yL p (zCW p K) (zCW p K).den)) 0 p.m,.nil,.bool false,.nil,.nil]) Z Z Z (hg1 _ _ _ _ _) Z Nat.zero_lt_one Z Z (fun i' j' hi' hj'=> ?_) ?_
   ·rw [if_pos (Nat.lt_one_iff.1 hi')];rfl
   refine rn2 ?_
   refine zM hR (zGt Z (zQV (hg1 _ _ _ _ _)) Z Z Z) ?_
   show AV.agg _=runA _
   unfold runA
   simp only [hyl]
   rfl
  ·exact absurd hneg.2 h1
 have h0:=zHm hp hneg
 have hph:=zLP p hp K h0
 obtain ⟨b1,b2⟩:=zFP hph.1 kK (zHP hp hk)
 have hrows:=ph2_rows p K
 have hXl:(Sx.cutS p.m (mid p K)).rows.length=p.m:=by
  have e:=hph.1.n
  rw [hrows,List.length_append] at e
  exact Nat.succ.inj e
 have hXr: ∀x∈(Sx.cutS p.m (mid p K)).rows,x.length=p.N+1:=fun x hx=>hph.1.row x (by rw [hrows];exact List.mem_append_left _ hx)
 have hXb: ∀i j,i<p.m→j<p.N+1→(at2 (Sx.cutS p.m (mid p K)).rows i j).natAbs≤10^p.T k:=fun i j hi hj=>by
  have e:at2 (ph2 p K).rows i j=at2 (Sx.cutS p.m (mid p K)).rows i j:=by
   unfold at2
   rw [hrows,zKg [] (by rw [hXl];exact hi)]
  rw [←e];exact b1 i j kK hj
 have hβl:(mid p K).basis.length=p.m:=hph.1.b
 have hdb:(mid p K).den.natAbs≤10^p.T k:=b2
 have hlast:(ph2 p K)=⟨(Sx.cutS p.m (mid p K)).rows++[zDV (zBf p) p.N (Sx.cutS p.m (mid p K)) p.m],(mid p K).den,(mid p K).basis⟩:=by
  rw [zR3 (Nat.le_refl _),←hrows];rfl
 have hl0:=last0 p (Sx.cutS p.m (mid p K))
 have hcab:=fun i j (hi:i≤p.m) (hj:j<p.N+1)=>zR2 (p:=p) (k:=k) (E:=p.T k) (s:=Sx.cutS p.m (mid p K)) (i:=i) (j:=j) hk kK (fun q hq=>hXb q j kK hj) hdb hj
 apply zAX (H:=stH G p.N (p.n+p.m) p.m (Sx.cutS p.m (mid p K))) [(1,.ptr 0 0 0),(2,.ptr 1 0 0),(3,iN p.n),(4,iN p.m),(5,.ptr G.length 0 0),(6,.ro (nsC ((List.range p.m).map p.fac)) 0 p.m),(7,iN p.a)]
 ·intro fin
  by_cases ha:0<p.a
  ·have cf:=hcf ha
   rw [zOf p hp K kK] at fin
   refine rn6 ?_
   refine zB Z (fun _=> ?_) (fun hx=>absurd ha kK)
   refine rn0 ?_
   refine zN6 (G.length+3) Z Z Z cf (fun h q1 q2=>⟨q1,q2⟩) (fun h q=>q.1) (by rw [hfix];exact fun h=>h) ?_
   intro r' H' hr'
   rcases hr' with ⟨h1,rfl,rfl⟩|⟨h1,rfl,rfl⟩
   ·exact absurd ⟨ha,h1⟩ hneg
   ·have hdl:(zBc (p.n+p.m) (Sx.cutS p.m (zAn p.m p.N (p.n+p.m) (ph1 p) K)) p.m).rows.length=p.m:=by
     rw [zOf p hp K kK] at hXl;exact hXl
    refine ⟨by rw [hslen,zBP,hdl];omega,?_⟩
    refine zB8 ((41,.tup [.nil,.bool true])::[(1,.ptr 0 0 0),(2,.ptr 1 0 0),(3,iN p.n),(4,iN p.m),(5,.ptr G.length 0 0),(6,.ro (nsC ((List.range p.m).map p.fac)) 0 p.m),(7,iN p.a)]) ⟨Z,zA4 (h:=G.length+3) (L:=[(1,.ptr 0 0 0),(2,.ptr 1 0 0),(3,iN p.n),(4,iN p.m),(5,.ptr G.length 0 0),(6,.ro (nsC ((List.range p.m).map p.fac)) 0 p.m),(7,iN p.a)]) ⟨Z,Z,Z,Z,Z,Z,Z,trivial⟩ (by
   intro q hq
   simp only [List.mem_cons,List.mem_nil_iff,or_false] at hq
   rcases hq with rfl|rfl|rfl|rfl|rfl|rfl|rfl<;>simp [AV.forget,zm,z7 (show G.length≠G.length+3 by omega),z7 (show 0≠G.length+3 by omega),z7 (show 1≠G.length+3 by omega)])⟩ ?_
    refine zBq ?_
    refine zAL ?_
    refine zl Z ?_
    refine zBq ?_
    exact fin _ ⟨Z,Z,Z,Z,Z,Z,Z,trivial⟩
  ·have ha0:p.a=0:=kK
   rw [mid_cut0 p K ha0] at fin
   refine zBq ?_
   refine zAL ?_
   refine zAL ?_
   refine zl Z ?_
   refine zBq ?_
   refine zB Z (fun hx=>absurd hx kK) (fun _=> ?_)
   refine zBq ?_
   exact fin _ ⟨Z,Z,Z,Z,Z,Z,Z,trivial⟩
 generalize hX:(Sx.cutS p.m (mid p K)).rows=X at*
 have hde:(Sx.cutS p.m (mid p K)).den=(mid p K).den:=rfl
 have hbe:(Sx.cutS p.m (mid p K)).basis=(mid p K).basis:=rfl
 have hme:Sx.cutS p.m (mid p K)=⟨X,(mid p K).den,(mid p K).basis⟩:=by rw [←hX];rfl
 rw [hme] at hlast hl0 hcab
 generalize (mid p K).den=d at*
 generalize (mid p K).basis=β at*
 have hstE:stH G p.N (p.n+p.m) p.m (Sx.cutS p.m (mid p K))=zg G none (p.N+1) (p.n+p.m) p.m X d β []:=by rw [hme]
 refine zAs (zg G none (p.N+1) (p.n+p.m) p.m X d β []) hstE ?_
 clear hcf hph1 hslen hX hde hbe hme hstE hrows b1 b2
 have cWC:=zNy p.C k hk.c (show p.n≤1000 by omega) (by show k*p.n+k≤_;have:k*p.n≤1000*30:=Nat.mul_le_mul hk40 hn;omega)
 have hlen: ∀T,(zg G none (p.N+1) (p.n+p.m) p.m X d β T).length=G.length+4+p.m+T.length:=fun T=>by rw [zBP,hXl]
 have gC:=hg0 p.m X d β []
 refine rn7 ?_
 refine zGQ (.tup [.sl (G.length+4+p.m) 0 p.n,zm p.fc]) (zg G none (p.N+1) (p.n+p.m) p.m X d β [some ⟨116,zC (zAt p.C)⟩]) Z Z Z cWC (by rw [hlen];show AV.tup [AV.sl (0+(G.length+4+p.m)) 0 _,_]=_;rw [Nat.zero_add];rfl) (by show _++[some (⟨_,(zC _).shift _⟩:AObj)]=_;rw [zIR,zAk];rfl) ?_
 have hWl:(zAt p.C).length=p.n:=zHJ _
 have hWb: ∀j,j<p.n→((zAt p.C).getD j 0).natAbs≤10^p.E k:=fun j hj=>zKG hk hj
 have hcs: ∀j,j<p.n→ -(zBf p j)=(zAt p.C).getD j 0:=fun j hj=>cosK_neg hj
 have hcz: ∀j,¬(j<p.n∧(zAt p.C).getD j 0≠0)→zBf p j=0:=fun j hj=>zRz hj
 generalize zAt p.C=WC at*
 clear gC cWC
 refine rn3 ?_
 refine zE 61 (.int .i64 ((p.N+1:Nat))) Z (AEq.of_eq (by show AV.int _ _=AV.int _ _;congr 1)) ?_
 refine zBv Z Z Z Z Z Z Z Z (by show (0:Int)≤_∧_≤_∧(32:Int)*_≤_∧_;omega) ?_
 refine zGw (zg G none (p.N+1) (p.n+p.m) p.m X d β [some ⟨116,zC WC⟩]++[some ⟨116,zC (List.replicate (p.N+1) 0)⟩]) (by simp only [List.length_append,List.length_cons,List.length_nil]) zI5 ?_
 refine zQ (zg G none (p.N+1) (p.n+p.m) p.m X d β [some ⟨116,zC WC⟩,some ⟨116,zC (chg (fun q=> -(WC.getD q 0)*d) 0 (List.replicate (p.N+1) 0) 0)⟩]) (by rw [zAk,zDU];rfl) ?_
 refine zE 62 (.sl (G.length+4+p.m+1) 0 (p.N+1)) Z (AEq.of_eq (by rw [hlen];rfl)) ?_
 have hdD: ∀x:Int,∀e,e≤3599990→x.natAbs≤10^e→(zW x.natAbs).length≤400001:=fun x e he hx=>zFy hx kK
 refine rn3 ?_
 refine zb (ι:=Nat) (fun j=>[(1,.ptr 0 0 0),(2,.ptr 1 0 0),(3,iN p.n),(4,iN p.m),(5,.ptr G.length 0 0),(6,.ro (nsC ((List.range p.m).map p.fac)) 0 p.m),(7,iN p.a),(10,.sl (G.length+4+p.m) 0 p.n),(11,zm p.fc),(12,.sl (G.length+4+p.m+1) 0 (p.N+1)),(63,.sl (G.length+4+p.m) 0 p.n),(64,iN p.n),(65,iN j)]) (fun j=>zg G none (p.N+1) (p.n+p.m) p.m X d β [some ⟨116,zC WC⟩,some ⟨116,zC (chg (fun q=> -(WC.getD q 0)*d) 0 (List.replicate (p.N+1) 0) j)⟩]) (fun j=>j≤p.n) (fun j=>p.n-j) 0 ⟨⟨Z,Z,Z,Z,Z,Z,Z,Z,Z,Z,Z,Z,Z,trivial⟩,Z,Nat.zero_le _⟩ ?_
 intro j hj
 refine rn4 ?_
 refine zB Z (fun h=> ?_) (fun h=> ?_)
 ·have hj':j<p.n:=kK
  have hgj:=zDN (fun q=> -(WC.getD q 0)*d) 0 (List.replicate (p.N+1) 0) (k:=j) (i:=j) (by simp;omega)
  have hsj:=zD8 (fun q=> -(WC.getD q 0)*d) 0 (List.replicate (p.N+1) 0) (k:=j) (by simp;omega)
  have hlj:=zC7 (fun q=> -(WC.getD q 0)*d) 0 (List.replicate (p.N+1) 0) j
  rw [List.length_replicate] at hlj
  generalize hYY:chg (fun q=> -(WC.getD q 0)*d) 0 (List.replicate (p.N+1) 0) j=Y at*
  have q0:=zAl (G:=G) (F:=none) (L:=p.N+1) (w:=p.n+p.m) (k:=p.m) (X:=X) (d:=d) (β:=β) (T:=[some ⟨116,zC WC⟩,some ⟨116,zC Y⟩]) 0
  rw [hXl,Nat.add_zero] at q0
  have g0:j<(zC WC).len:=by show j<WC.length;omega
  refine rn7 ?_
  refine zQ (zg G none (p.N+1) (p.n+p.m) p.m X d β [some ⟨116,zC WC⟩,some ⟨116,zC Y⟩,some ⟨116,.box [.bool false,.nil]⟩]) (by rw [zAk];rfl) ?_
  refine zE 14 (.ptr (G.length+4+p.m+2) 0 0) Z (AEq.of_eq (by rw [hlen];rfl)) ?_
  refine zE 69 (zBF (WC.getD j 0)) Z (AEq.of_eq Z) ?_
  have q2:=zAl (G:=G) (F:=none) (L:=p.N+1) (w:=p.n+p.m) (k:=p.m) (X:=X) (d:=d) (β:=β) (T:=[some ⟨116,zC WC⟩,some ⟨116,zC Y⟩,some ⟨116,.box [.bool false,.nil]⟩]) 2
  rw [hXl] at q2
  refine zt (c':= .box (zo (WC.getD j 0))) Z Z Z q2 Z Nat.zero_lt_one Z Z (fun i' j' hi' hj'=> ?_) ?_
  ·rw [if_pos (Nat.lt_one_iff.1 hi')];rfl
  refine zQ (zg G none (p.N+1) (p.n+p.m) p.m X d β [some ⟨116,zC WC⟩,some ⟨116,zC Y⟩,some ⟨116,.box (zo (WC.getD j 0))⟩]) (by have q:=zAW (G:=G) (F:=none) (L:=p.N+1) (w:=p.n+p.m) (k:=p.m) (X:=X) (d:=d) (β:=β) (T:=[some ⟨116,zC WC⟩,some ⟨116,zC Y⟩,some ⟨116,.box [.bool false,.nil]⟩]) 2 (some ⟨116,.box (zo (WC.getD j 0))⟩);rw [hXl] at q;exact q) ?_
  clear q0 q2
  have f1:=zBH (G:=G) (F:=none) (L:=p.N+1) (w:=p.n+p.m) (k:=p.m) (X:=X) (d:=d) (β:=β) (T:=[some ⟨116,zC WC⟩,some ⟨116,zC Y⟩,some ⟨116,.box (zo (WC.getD j 0))⟩])
  have q1:=zAl (G:=G) (F:=none) (L:=p.N+1) (w:=p.n+p.m) (k:=p.m) (X:=X) (d:=d) (β:=β) (T:=[some ⟨116,zC WC⟩,some ⟨116,zC Y⟩,some ⟨116,.box (zo (WC.getD j 0))⟩]) 1
  have q2:=zAl (G:=G) (F:=none) (L:=p.N+1) (w:=p.n+p.m) (k:=p.m) (X:=X) (d:=d) (β:=β) (T:=[some ⟨116,zC WC⟩,some ⟨116,zC Y⟩,some ⟨116,.box (zo (WC.getD j 0))⟩]) 2
  rw [hXl] at q1 q2
  have g1:j<(zC Y).len:=by show j<Y.length;omega
  have co:=zG3 (WC.getD j 0)
  have cm:=zCn (-(WC.getD j 0)) d (by rw [Int.natAbs_neg];have:=hdD _ _ kK (hWb j hj');omega) (by have:=hdD _ _ kK hdb;omega)
  refine rn0 ?_
  refine zZ kQ ?_
  refine zj (fuel:=1) [0,1,2,3,4,5,6,7,8,9] [(1,.ptr 0 0 0),(2,.ptr 1 0 0),(3,iN p.n),(4,iN p.m),(5,.ptr G.length 0 0),(6,.ro (nsC ((List.range p.m).map p.fac)) 0 p.m),(7,iN p.a),(10,.sl (G.length+4+p.m) 0 p.n),(11,zm p.fc),(12,.sl (G.length+4+p.m+1) 0 (p.N+1)),(63,.sl (G.length+4+p.m) 0 p.n),(64,iN p.n),(65,iN j),(13,iN j),(14,.ptr (G.length+4+p.m+2) 0 0)] ⟨Z,Z,Z,Z,Z,Z,Z,Z,Z,Z,Z,Z,Z,Z,Z,trivial⟩ kQ kV Z Z ?_
  refine zK Z Z (zH Z) ?_
  refine zK Z Z (zH Z) ?_
  refine zK Z Z (qas Z Z Z Z) ?_
  refine zAy Z Z Z Z Z co ?_
  refine zK Z Z (zH Z) ?_
  refine zK Z Z (zh Z) ?_
  refine zK Z Z (zN Z Z Z Z Z Z) ?_
  refine zK Z Z (qps Z Z Z Z) ?_
  refine zAy Z Z Z Z Z cm ?_
  refine zK Z Z (qis Z Z Z) ?_
  refine zz ?_
  refine zD (is:=[10]) kQ kJ Z ⟨fun o ho=> ?_,trivial⟩
  all_goals (cases ho)
  refine zt (c':=zC (Y.set j (-(WC.getD j 0)*d))) Z Z Z q1 Z g1 (List.length_set ..) Z (zDe Y j _) ?_
  refine zQ (zg G none (p.N+1) (p.n+p.m) p.m X d β [some ⟨116,zC WC⟩,some ⟨116,zC (Y.set j (-(WC.getD j 0)*d))⟩,some ⟨116,.box (zo (WC.getD j 0))⟩]) (by have q:=zAW (G:=G) (F:=none) (L:=p.N+1) (w:=p.n+p.m) (k:=p.m) (X:=X) (d:=d) (β:=β) (T:=[some ⟨116,zC WC⟩,some ⟨116,zC Y⟩,some ⟨116,.box (zo (WC.getD j 0))⟩]) 1 (some ⟨116,zC (Y.set j (-(WC.getD j 0)*d))⟩);rw [hXl] at q;exact q) (rn1 ?_)
  refine zT kQ ?_
  repeat (refine zAP ?_)
  refine zG ?_
  refine zBS (zg G none (p.N+1) (p.n+p.m) p.m X d β [some ⟨116,zC WC⟩,some ⟨116,zC (Y.set j (-(WC.getD j 0)*d))⟩]) [some ⟨116,.box (zo (WC.getD j 0))⟩] [(1,.ptr 0 0 0),(2,.ptr 1 0 0),(3,iN p.n),(4,iN p.m),(5,.ptr G.length 0 0),(6,.ro (nsC ((List.range p.m).map p.fac)) 0 p.m),(7,iN p.a),(10,.sl (G.length+4+p.m) 0 p.n),(11,zm p.fc),(12,.sl (G.length+4+p.m+1) 0 (p.N+1)),(63,.sl (G.length+4+p.m) 0 p.n),(64,iN p.n),(65,iN j)] (by rw [zAk];rfl) ⟨Z,Z,Z,Z,Z,Z,Z,Z,Z,Z,Z,Z,Z,trivial⟩ (fun h hh=>by rw [hfix] at hh;exact hh.elim)
   (zCi hG _ (by rw [hlen,hXl];exact Nat.le_add_right _ _) (fun o ho=>by cases ho) (fun o ho=>by
    simp only [List.mem_cons,List.mem_nil_iff,or_false] at ho
    rcases ho with e|e<;>cases e<;>exact fun i' j' hi' hj'=>zGB _ _ _ hj')) (by rw [hlen];simp [zDj,zCV,zm];omega) ?_
  refine rn3 ?_
  exact zI ⟨j+1,kK,kK,⟨Z,Z,Z,Z,Z,Z,Z,Z,Z,Z,Z,Z,Z,trivial⟩,by rw [←hsj]⟩
 have hje:j=p.n:=kK
 rw [hje,hl0]
 clear hj h hje
 clear j
 have f1:=zBH (G:=G) (F:=none) (L:=p.N+1) (w:=p.n+p.m) (k:=p.m) (X:=X) (d:=d) (β:=β) (T:=[some ⟨116,zC WC⟩,some ⟨116,zC (zDV (zBf p) p.N ⟨X,d,β⟩ 0)⟩])
 rw [hβl] at f1
 refine rn15 ?_
 refine zb (ι:=Nat) (fun i=>[(1,.ptr 0 0 0),(2,.ptr 1 0 0),(3,iN p.n),(4,iN p.m),(5,.ptr G.length 0 0),(6,.ro (nsC ((List.range p.m).map p.fac)) 0 p.m),(7,iN p.a),(10,.sl (G.length+4+p.m) 0 p.n),(11,zm p.fc),(12,.sl (G.length+4+p.m+1) 0 (p.N+1)),(84,.sl (G.length+2) 0 p.m),(85,iN p.m),(86,iN i)]) (fun i=>zg G none (p.N+1) (p.n+p.m) p.m X d β [some ⟨116,zC WC⟩,some ⟨116,zC (zDV (zBf p) p.N ⟨X,d,β⟩ i)⟩]) (fun i=>i≤p.m) (fun i=>p.m-i) 0 ⟨⟨Z,Z,Z,Z,Z,Z,Z,Z,Z,Z,Z,Z,Z,trivial⟩,Z,Nat.zero_le _⟩ ?_
 clear f1
 intro i hi
 refine rn4 ?_
 refine zB Z (fun h=> ?_) (fun h=> ?_)
 ·have hi':i<p.m:=kK
  have f2:=zGN (G:=G) (F:=none) (L:=p.N+1) (w:=p.n+p.m) (k:=p.m) (X:=X) (d:=d) (β:=β) (T:=[some ⟨116,zC WC⟩,some ⟨116,zC (zDV (zBf p) p.N ⟨X,d,β⟩ i)⟩])
  have g2:i<(β.map (fun a:Nat=>(a:Int))).length:=by rw [List.length_map,hβl];exact hi'
  have hcl:=zH6 (zBf p) p.N ⟨X,d,β⟩ i
  have hcl2:=zH6 (zBf p) p.N ⟨X,d,β⟩ (i+1)
  have hnx:=fun j (hj:j<p.N+1)=>zPj (k:=zBf p) (N:=p.N) (s:=⟨X,d,β⟩) (i:=i) hj
  have hsk:=fun h=>zPk (k:=zBf p) (N:=p.N) (s:=⟨X,d,β⟩) (i:=i) h
  have hab:=fun j (hj:j<p.N+1)=>hcab i j kK hj
  have lI:(X.getD i []).length=p.N+1:=hXr _ (z8 [] kK)
  generalize hC2:(zDV (zBf p) p.N ⟨X,d,β⟩ (i+1))=C2 at*
  generalize hC1:(zDV (zBf p) p.N ⟨X,d,β⟩ i)=C1 at*
  have q0:=zAl (G:=G) (F:=none) (L:=p.N+1) (w:=p.n+p.m) (k:=p.m) (X:=X) (d:=d) (β:=β) (T:=[some ⟨116,zC WC⟩,some ⟨116,zC C1⟩]) 0
  rw [hXl,Nat.add_zero] at q0
  by_cases hb:β.getD i 0<p.n
  ·have g0:β.getD i 0<(zC WC).len:=by show _<WC.length;omega
   have cs:=zEp (WC.getD (β.getD i 0) 0)
   refine rn7 ?_
   refine zE 16 (iN (β.getD i 0)) Z (AEq.of_eq (by rw [zA5])) ?_
   refine zE 94 (.bool true) Z (AEq.of_eq (by rw [zA5,decide_eq_true (by show ((β.getD i 0:Nat):Int)<((p.n:Nat):Int);omega)])) ?_
   refine zCS ?_
   refine zE 98 (zBF (WC.getD (β.getD i 0) 0)) Z (AEq.of_eq Z) ?_
   refine zA Z Z Z cs (rn3 ?_)
   refine zB Z (fun h1=> ?_) (fun h1=> ?_)
   ·have hcc:=hcs _ hb
    have bW:=hWb _ hb
    clear f2 g2 q0
    refine rn3 ?_
    refine zb (ι:=Nat) (fun j=>[(1,.ptr 0 0 0),(2,.ptr 1 0 0),(3,iN p.n),(4,iN p.m),(5,.ptr G.length 0 0),(6,.ro (nsC ((List.range p.m).map p.fac)) 0 p.m),(7,iN p.a),(10,.sl (G.length+4+p.m) 0 p.n),(11,zm p.fc),(12,.sl (G.length+4+p.m+1) 0 (p.N+1)),(84,.sl (G.length+2) 0 p.m),(85,iN p.m),(86,iN i),(15,iN i),(16,iN (β.getD i 0)),(103,.int .i64 ((p.N+1:Nat))),(104,iN j)]) (fun j=>zg G none (p.N+1) (p.n+p.m) p.m X d β [some ⟨116,zC WC⟩,some ⟨116,zC (chg (fun j=>C2.getD j 0) 0 C1 j)⟩]) (fun j=>j≤p.N+1) (fun j=>p.N+1-j) 0 ⟨⟨Z,Z,Z,Z,Z,Z,Z,Z,Z,Z,Z,Z,Z,Z,Z,Z,Z,trivial⟩,by rw [zDU],Nat.zero_le _⟩ ?_
    intro j hj
    refine rn4 ?_
    refine zB Z (fun h2=> ?_) (fun h2=> ?_)
    ·have hj':j<p.N+1:=kK
     have hgj:=zDN (fun j=>C2.getD j 0) 0 C1 (k:=j) (i:=j) kK
     rw [if_neg (Nat.lt_irrefl j)] at hgj
     have hsj:=zD8 (fun j=>C2.getD j 0) 0 C1 (k:=j) kK
     have hlj:=zC7 (fun j=>C2.getD j 0) 0 C1 j
     have hnj:=hnx j hj'
     rw [hcc,←hgj] at hnj
     rw [hnj] at hsj
     have ab:=hab j hj'
     rw [←hgj] at ab
     generalize chg (fun j=>C2.getD j 0) 0 C1 j=Y at*
     have q1:=zBH (G:=G) (F:=none) (L:=p.N+1) (w:=p.n+p.m) (k:=p.m) (X:=X) (d:=d) (β:=β) (T:=[some ⟨116,zC WC⟩,some ⟨116,zC Y⟩])
     have q2:=zC6 (G:=G) (F:=none) (L:=p.N+1) (w:=p.n+p.m) (k:=p.m) (X:=X) (d:=d) (β:=β) (T:=[some ⟨116,zC WC⟩,some ⟨116,zC Y⟩])
     have q3:=zCu (G:=G) (F:=none) (L:=p.N+1) (w:=p.n+p.m) (k:=p.m) (X:=X) (d:=d) (β:=β) (T:=[some ⟨116,zC WC⟩,some ⟨116,zC Y⟩]) (a:=i) kK
     have q4:=zAl (G:=G) (F:=none) (L:=p.N+1) (w:=p.n+p.m) (k:=p.m) (X:=X) (d:=d) (β:=β) (T:=[some ⟨116,zC WC⟩,some ⟨116,zC Y⟩]) 0
     have q5:=zAl (G:=G) (F:=none) (L:=p.N+1) (w:=p.n+p.m) (k:=p.m) (X:=X) (d:=d) (β:=β) (T:=[some ⟨116,zC WC⟩,some ⟨116,zC Y⟩]) 1
     rw [hXl] at q4 q5
     rw [Nat.add_zero] at q4
     have g3:i<(zBz G.length X.length (p.N+1)).len:=by show i<X.length;omega
     have g4:j<(zC (X.getD i [])).len:=by show j<(X.getD i []).length;omega
     have g5:j<(zC Y).len:=by show j<Y.length;omega
     have bX:=hXb i j hi' hj'
     have hp10:(WC.getD (β.getD i 0) 0*at2 X i j).natAbs≤10^(p.E k+p.T k):=by rw [Int.natAbs_mul,Nat.pow_add];exact Nat.mul_le_mul bW bX
     have cm:=zCn (WC.getD (β.getD i 0) 0) (at2 X i j) (by have:=hdD _ _ kK bW;omega) (by have:=hdD _ _ kK bX;omega)
     have ca:=zNW (Y.getD j 0) (WC.getD (β.getD i 0) 0*at2 X i j) (by have:=hdD _ _ kK ab;omega) (by have:=hdD _ _ kK hp10;omega)
     refine rn1 ?_
     refine zZ kQ ?_
     refine zj (fuel:=1) [0,1,2,3,4,5,6,7,8,9,10,11,12,13,14,15,16,17,18,19,20,21,22] [(1,.ptr 0 0 0),(2,.ptr 1 0 0),(3,iN p.n),(4,iN p.m),(5,.ptr G.length 0 0),(6,.ro (nsC ((List.range p.m).map p.fac)) 0 p.m),(7,iN p.a),(10,.sl (G.length+4+p.m) 0 p.n),(11,zm p.fc),(12,.sl (G.length+4+p.m+1) 0 (p.N+1)),(84,.sl (G.length+2) 0 p.m),(85,iN p.m),(86,iN i),(15,iN i),(16,iN (β.getD i 0)),(103,.int .i64 ((p.N+1:Nat))),(104,iN j),(17,iN j)] ⟨Z,Z,Z,Z,Z,Z,Z,Z,Z,Z,Z,Z,Z,Z,Z,Z,Z,Z,trivial⟩ kQ kV Z Z ?_
     refine zK Z Z (zH Z) ?_
     refine zK Z Z (zH Z) ?_
     refine zK Z Z (zH Z) ?_
     refine zK Z Z (zH Z) ?_
     refine zK Z Z (qis Z Z Z) ?_
     refine zK Z Z (qas Z Z Z Z) ?_
     refine zK Z Z (zH Z) ?_
     refine zK Z Z (zH Z) ?_
     refine zK Z Z (qis Z Z Z) ?_
     refine zK Z Z (qas Z Z Z Z) ?_
     refine zK Z Z (zH Z) ?_
     refine zK Z Z (zh Z) ?_
     refine zK Z Z (zN Z Z Z Z Z Z) ?_
     refine zK Z Z (zAN Z Z Z kW kY) ?_
     refine zK Z Z (zH Z) ?_
     refine zK Z Z (qis Z Z Z) ?_
     refine zK Z Z (zBD Z Z Z kW Z kU) ?_
     refine zK Z Z (zH Z) ?_
     refine zK Z Z (qis Z Z Z) ?_
     refine zK Z Z (qas Z Z Z Z) ?_
     refine zAy Z Z Z Z Z cm ?_
     refine zAy Z Z Z Z Z ca ?_
     refine zK Z Z (qis Z Z Z) ?_
     refine zz ?_
     refine zD (is:=[23]) kQ kJ Z ⟨fun o ho=> ?_,trivial⟩
     all_goals (cases ho)
     refine zt (c':=zC (Y.set j (Y.getD j 0+WC.getD (β.getD i 0) 0*at2 X i j))) Z Z Z q5 Z g5 (List.length_set ..) Z (zDe Y j _) ?_
     refine zQ (zg G none (p.N+1) (p.n+p.m) p.m X d β [some ⟨116,zC WC⟩,some ⟨116,zC (Y.set j (Y.getD j 0+WC.getD (β.getD i 0) 0*at2 X i j))⟩]) (by have q:=zAW (G:=G) (F:=none) (L:=p.N+1) (w:=p.n+p.m) (k:=p.m) (X:=X) (d:=d) (β:=β) (T:=[some ⟨116,zC WC⟩,some ⟨116,zC Y⟩]) 1 (some ⟨116,zC (Y.set j (Y.getD j 0+WC.getD (β.getD i 0) 0*at2 X i j))⟩);rw [hXl] at q;exact q) (rn1 ?_)
     refine zT kQ (rn5 ?_)
     exact zI ⟨j+1,kK,kK,⟨Z,Z,Z,Z,Z,Z,Z,Z,Z,Z,Z,Z,Z,Z,Z,Z,Z,trivial⟩,by rw [←hsj]⟩
    ·have hje:j=p.N+1:=kK
     subst hje
     rw [chg_to hcl hcl2]
     refine rn5 ?_
     exact zI ⟨i+1,kK,kK,⟨Z,Z,Z,Z,Z,Z,Z,Z,Z,Z,Z,Z,Z,trivial⟩,by rw [hC2]⟩
   ·have hz:WC.getD (β.getD i 0) 0=0:=Decidable.byContradiction (fun q=>h1 (fun e=>q (by rw [zJ8] at e;exact e)))
    have e:=hsk (hcz _ (fun q=>q.2 hz))
    refine rn5 ?_
    exact zI ⟨i+1,kK,kK,⟨Z,Z,Z,Z,Z,Z,Z,Z,Z,Z,Z,Z,Z,trivial⟩,by rw [hC2,e]⟩
  ·have e:=hsk (hcz _ (fun q=>hb q.1))
   refine rn7 ?_
   refine zE 94 (.bool false) Z (AEq.of_eq (by rw [zA5,decide_eq_false (by show¬((β.getD i 0:Nat):Int)<((p.n:Nat):Int);omega)])) (rn6 ?_)
   exact zI ⟨i+1,kK,kK,⟨Z,Z,Z,Z,Z,Z,Z,Z,Z,Z,Z,Z,Z,trivial⟩,by rw [hC2,e]⟩
 have hie:i=p.m:=kK
 rw [hie]
 clear hi h hie
 clear i
 have hLl:=zH6 (zBf p) p.N ⟨X,d,β⟩ p.m
 generalize (zDV (zBf p) p.N ⟨X,d,β⟩ p.m)=LC at*
 clear hcab hcs hcz hl0
 have q6:=zAl (G:=G) (F:=none) (L:=p.N+1) (w:=p.n+p.m) (k:=p.m) (X:=X) (d:=d) (β:=β) (T:=[some ⟨116,zC WC⟩,some ⟨116,zC LC⟩]) 1
 rw [hXl] at q6
 refine zBq ?_
 refine zQh (G.length+4+p.m) (G.length+4+p.m+1) 12 (p.N+1) kK (by rw [hlen];show G.length+4+p.m<G.length+4+p.m+2;omega) q6 (by rw [hfix];exact fun h=>h) Z ?_
 refine zQg ((12,.sl (G.length+4+p.m) 0 (p.N+1))::[(1,.ptr 0 0 0),(2,.ptr 1 0 0),(3,iN p.n),(4,iN p.m),(5,.ptr G.length 0 0),(6,.ro (nsC ((List.range p.m).map p.fac)) 0 p.m),(7,iN p.a),(11,zm p.fc)]) ⟨Z,zA4 (h:=G.length+4+p.m) (L:=[(1,.ptr 0 0 0),(2,.ptr 1 0 0),(3,iN p.n),(4,iN p.m),(5,.ptr G.length 0 0),(6,.ro (nsC ((List.range p.m).map p.fac)) 0 p.m),(7,iN p.a),(11,zm p.fc)]) ⟨Z,Z,Z,Z,Z,Z,Z,Z,trivial⟩ (by
  intro q hq
  simp only [List.mem_cons,List.mem_nil_iff,or_false] at hq
  rcases hq with rfl|rfl|rfl|rfl|rfl|rfl|rfl|rfl<;>simp [AV.forget,zm,z7 (show G.length≠G.length+4+p.m by omega),z7 (show 0≠G.length+4+p.m by omega),z7 (show 1≠G.length+4+p.m by omega)])⟩ ?_
 refine zAI (zg G none (p.N+1) (p.n+p.m) p.m X d β [some ⟨116,zC LC⟩,none]) (by
  have q:=zP.set (zP.set (zKD (G:=G) (L:=p.N+1) (w:=p.n+p.m) (k:=p.m) (X:=X) (d:=d) (β:=β) (T:=[some ⟨116,zC WC⟩,some ⟨116,zC LC⟩]) (T':=[some ⟨116,zC WC⟩,some ⟨116,zC LC⟩]) (G.length+4+p.m) (hFG _) kK (by show zP [some (⟨_,(zC WC).forget _⟩:AObj),some (⟨_,(zC LC).forget _⟩:AObj)] _;rw [zBZ,zBZ];exact zP.refl _)) (G.length+4+p.m) (x:=some ⟨116,(zC LC).forget (G.length+4+p.m)⟩) (x':=some ⟨116,zC LC⟩) (fun o ho=>by cases ho;exact ⟨_,rfl,rfl,by rw [zBZ];exact CEq.refl _⟩)) (G.length+4+p.m+1) (x:=none) (x':=none) (fun o ho=>by cases ho)
  have e1:(zg G none (p.N+1) (p.n+p.m) p.m X d β [some ⟨116,zC WC⟩,some ⟨116,zC LC⟩]).set (G.length+4+p.m) (some ⟨116,zC LC⟩)=zg G none (p.N+1) (p.n+p.m) p.m X d β [some ⟨116,zC LC⟩,some ⟨116,zC LC⟩]:=by
   have q:=zAW (G:=G) (F:=none) (L:=p.N+1) (w:=p.n+p.m) (k:=p.m) (X:=X) (d:=d) (β:=β) (T:=[some ⟨116,zC WC⟩,some ⟨116,zC LC⟩]) 0 (some ⟨116,zC LC⟩)
   rw [hXl] at q
   exact q
  have e2:=zAW (G:=G) (F:=none) (L:=p.N+1) (w:=p.n+p.m) (k:=p.m) (X:=X) (d:=d) (β:=β) (T:=[some ⟨116,zC LC⟩,some ⟨116,zC LC⟩]) 1 none
  rw [hXl] at e2
  rw [e1] at q
  exact (show zP _ _ from e2▸q)) ?_
 refine zBS (zg G none (p.N+1) (p.n+p.m) p.m X d β [some ⟨116,zC LC⟩]) [none] ((12,.sl (G.length+4+p.m) 0 (p.N+1))::[(1,.ptr 0 0 0),(2,.ptr 1 0 0),(3,iN p.n),(4,iN p.m),(5,.ptr G.length 0 0),(6,.ro (nsC ((List.range p.m).map p.fac)) 0 p.m),(7,iN p.a),(11,zm p.fc)]) (by rw [zAk];rfl) ⟨Z,Z,Z,Z,Z,Z,Z,Z,Z,trivial⟩ (fun h hh=>by rw [hfix] at hh;exact hh.elim)
  (zCi hG _ (by rw [hlen,hXl];exact Nat.le_add_right _ _) (fun o ho=>by cases ho) (fun o ho=>by cases List.mem_singleton.1 ho;exact fun i' j' hi' hj'=>zGB _ _ _ hj')) (by rw [hlen];simp [zDj,zCV,zm];omega) ?_
 clear q6
 have f1:=zBH (G:=G) (F:=none) (L:=p.N+1) (w:=p.n+p.m) (k:=p.m) (X:=X) (d:=d) (β:=β) (T:=[some ⟨116,zC LC⟩])
 refine rn7 ?_
 refine zC2 Z Z Z Z Z Z Z Z Z Z ?_
 refine zQ (zg G none (p.N+1) (p.n+p.m) p.m X d β [some ⟨116,zC LC⟩,some ⟨243,zCE 1 1 [.sl (G.length+4+p.m) 0 (p.N+1)]⟩]) (by rw [zAk];rfl) ?_
 refine zE 138 (.sl (G.length+4+p.m+1) 0 1) Z (AEq.of_eq (by rw [hlen];rfl)) ?_
 have f2:=zC6 (G:=G) (F:=none) (L:=p.N+1) (w:=p.n+p.m) (k:=p.m) (X:=X) (d:=d) (β:=β) (T:=[some ⟨116,zC LC⟩,some ⟨243,zCE 1 1 [.sl (G.length+4+p.m) 0 (p.N+1)]⟩])
 have f3:=zAl (G:=G) (F:=none) (L:=p.N+1) (w:=p.n+p.m) (k:=p.m) (X:=X) (d:=d) (β:=β) (T:=[some ⟨116,zC LC⟩,some ⟨243,zCE 1 1 [.sl (G.length+4+p.m) 0 (p.N+1)]⟩]) 1
 rw [hXl] at f3
 have hol:(zBz G.length X.length (p.N+1)).len=p.m:=hXl
 skip
 refine zq Z Z Z Z Z Z Z f2 Z hol Z (zJd f3) (by show 0+1≤1;omega) Z (by show (p.m+1)*24≤_∧_;omega) ?_ (by rw [hfix];exact fun h=>h) ?_
 ·intro i' j' hi' hj'
  obtain rfl:=Nat.lt_one_iff.1 (show j'<1 from hj')
  have q:=(zFU G.length X.length (p.N+1) (zCE 1 1 [AV.sl (G.length+4+p.m) 0 (p.N+1)]) (by rw [hXl];rfl)).2.2 i' 0 hi' Nat.zero_lt_one
  refine Eq.trans (congrArg (AV.forget _) q.symm) (Eq.trans ?_ q)
  show AV.forget _ (AV.sl (G.length+4+i') 0 (p.N+1))=_
  unfold AV.forget
  rw [z7 (show G.length+4+i'≠G.length+3 by omega)];rfl
 refine zB8 ((139,.sl (G.length+3) 0 (p.m+1))::(132,.ptr G.length 0 0)::[(1,.ptr 0 0 0),(2,.ptr 1 0 0),(3,iN p.n),(4,iN p.m),(5,.ptr G.length 0 0),(6,.ro (nsC ((List.range p.m).map p.fac)) 0 p.m),(7,iN p.a),(11,zm p.fc)]) ⟨Z,zA4 (h:=G.length+3) (L:=(132,.ptr G.length 0 0)::[(1,.ptr 0 0 0),(2,.ptr 1 0 0),(3,iN p.n),(4,iN p.m),(5,.ptr G.length 0 0),(6,.ro (nsC ((List.range p.m).map p.fac)) 0 p.m),(7,iN p.a),(11,zm p.fc)]) ⟨Z,Z,Z,Z,Z,Z,Z,Z,Z,trivial⟩ (by
  intro q hq
  simp only [List.mem_cons,List.mem_nil_iff,or_false] at hq
  rcases hq with rfl|rfl|rfl|rfl|rfl|rfl|rfl|rfl|rfl<;>simp [AV.forget,zm,z7 (show G.length≠G.length+3 by omega),z7 (show 0≠G.length+3 by omega),z7 (show 1≠G.length+3 by omega)])⟩ ?_
 refine zAD (zLn G (p.N+1) (p.n+p.m) (X++[LC]) d β [none]) (zM8 (hFG _) (zFU G.length X.length (p.N+1) _ (by rw [hXl];rfl))) (rn7 ?_)
 refine zBw Z Z Z Z zQb Z Z Nat.zero_lt_one ?_
 refine zQ (zg G none (p.N+1) (p.n+p.m) (p.m+1) (X++[LC]) d β [none]) zQd ?_
 refine zBq ?_
 have hl1:(X++[LC]).length=p.m+1:=by rw [List.length_append,hXl];rfl
 refine zBS (zg G none (p.N+1) (p.n+p.m) (p.m+1) (X++[LC]) d β []) [none] [(1,.ptr 0 0 0),(2,.ptr 1 0 0),(3,iN p.n),(4,iN p.m),(5,.ptr G.length 0 0),(6,.ro (nsC ((List.range p.m).map p.fac)) 0 p.m),(7,iN p.a),(11,zm p.fc)] (by rw [zAk];rfl) ⟨Z,Z,Z,Z,Z,Z,Z,Z,trivial⟩ (fun h hh=>by rw [hfix] at hh;exact hh.elim)
  (zCi hG _ (by rw [zBP];exact Nat.le_add_right _ _) (fun o ho=>by cases ho) (fun o ho=>by cases ho)) (by rw [zBP,hl1];simp [zDj,zCV,zm];omega) ?_
 refine zAs (stH G p.N (p.n+p.m) (p.m+1) (ph2 p K)) (by rw [hlast]) ?_
 have cr:=run_ok G hG p.m p.N (p.n+p.m) (M2 p) (ph2 p K) hph.1 hph.2.1 (zGO p) L (hs.two hneg) (p.T k) kK kK (fun u hu=>zFP hu kK (zHP hp hk)) kK
 obtain ⟨hti,htf,_⟩:=zIO p hp K L h0
 have hfree:=fun h=>zSn (K:=K) (L:=L) hneg h
 have hbest:=fun h=>zSm (K:=K) (L:=L) hneg h
 obtain ⟨b1,b2⟩:=zFP hti kK (zHP hp hk)
 have hcle:=col_le p (zD2 p K L)
 refine rn0 ?_
 refine zCw Z Z Z cr (fun _ h=>h) (fun _ h=>h) ?_
 rintro r' H' ⟨rfl,rfl⟩
 clear cr f1 f2 f3 hol hlast hXl hXr hXb hβl hdb hlen hl1 hph hs
 have e2:zAn p.m p.N (p.n+p.m) (ph2 p K) L=zD2 p K L:=rfl
 rw [e2]
 clear e2
 generalize zD2 p K L=t at*
 have hn':=hti.n
 have htb:=hti.b
 have hrow:=hti.row
 have hd:t.den≠0:=by have:=hti.dp;omega
 have f1:=zBH (G:=G) (F:=none) (L:=p.N+1) (w:=p.n+p.m) (k:=(p.m+1)) (X:=t.rows) (d:=t.den) (β:=t.basis) (T:=[])
 have f2:=zC6 (G:=G) (F:=none) (L:=p.N+1) (w:=p.n+p.m) (k:=(p.m+1)) (X:=t.rows) (d:=t.den) (β:=t.basis) (T:=[])
 refine rn0 ?_
 refine zZ kQ ?_
 refine zDB (fuel:=4) [0,1,2,3,4,5,6,7,8,9,10,11,12,13] [(1,.ptr 0 0 0),(2,.ptr 1 0 0),(3,iN p.n),(4,iN p.m),(5,.ptr G.length 0 0),(6,.ro (nsC ((List.range p.m).map p.fac)) 0 p.m),(7,iN p.a),(11,zm p.fc),(18,.int .i64 (resZ p.m (p.n+p.m) t))] ⟨Z,Z,Z,Z,Z,Z,Z,Z,Z,trivial⟩ kQ kV Z Z ?_
 refine zK Z Z (zH Z) ?_
 refine zK Z Z (zH Z) ?_
 refine zK Z Z (zh Z) ?_
 refine zK Z Z (zN Z Z Z Z Z Z) ?_
 refine zK Z Z (zAN Z Z Z kW kY) ?_
 refine zK Z Z (zH Z) ?_
 refine zK Z Z (zF3 Z Z f2 Z Z Z Z Z ⟨Z,kK,kK⟩) ?_
 refine zK Z Z (zH Z) ?_
 refine zK Z Z (zh Z) ?_
 refine zK Z Z (zN Z Z Z Z Z Z) ?_
 refine zK Z Z (zAN Z Z Z kW kY) ?_
 refine zK Z Z (zH Z) ?_
 refine zK Z Z (qis Z Z Z) ?_
 refine zK Z Z (zBD Z Z Z kW Z kU) ?_
 refine zz ?_
 refine zR 14 Z kQ kQ kQ Z (zh Z) Z ?_
 refine zR 15 Z kQ kQ kQ Z (zN Z Z Z Z Z Z) Z ?_
 refine zD (is:=[16]) kQ kJ Z ⟨fun o ho=> ?_,trivial⟩
 all_goals (cases ho)
 refine zE 150 (.sl (G.length+3) 0 p.m) Z (AEq.of_eq Z) ?_
 refine zBw Z Z Z Z f1 Z Z Nat.zero_lt_one ?_
 refine zQ (zg G none (p.N+1) (p.n+p.m) p.m t.rows t.den t.basis []) (zIz p.m (p.n+p.m) t.den) (rn1 ?_)
 refine zR 17 Z kQ kQ kQ Z (zf Z) Z ?_
 refine zT kQ ?_
 repeat (refine zG ?_)
 refine zv 12 (.sl (G.length+4+p.m) 0 (p.N+1)) Z (AEq.of_eq Z) ?_
 clear f1 f2
 have hvl:(zB0 p t).length=p.n:=by unfold zB0;rw [zEG];simp
 have hsb: ∀i j,i<p.m+1→j<p.N+1→(zW (at2 t.rows i j).natAbs).length≤400001:=fun i j hi hj=>hdD _ _ kK (b1 i j hi hj)
 have hdl:(zW t.den.natAbs).length≤400001:=hdD _ _ kK b2
 by_cases hc:zCb p.m (p.n+p.m) t<p.n+p.m
 ·rw [hfree hc] at hR
  have hw:=zGO p
  have cv:=zGs G hG p.N (p.n+p.m) p.m t.rows t.den t.basis [] (fun m _ o ho=>by cases ho) p.n kK kK kK kK hrow kK hd (fun i hi=>by have:=hsb i p.N kK kK;omega) kK
  have cy:=ray_ok G hG p.N (p.n+p.m) p.m t.rows t.den t.basis [] (fun m _ o ho=>by cases ho) p.n (zCb p.m (p.n+p.m) t) kK kK kK kK kK hrow kK hd (fun i hi=>by have:=hsb i (zCb p.m (p.n+p.m) t) kK kK;omega) kK
  rw [htb] at cv cy
  have hrl:(zIS p t (zCb p.m (p.n+p.m) t)).length=p.n:=by unfold zIS;rw [zEG];exact zHq _ _
  refine zv 18 (iN (zCb p.m (p.n+p.m) t)) Z (AEq.of_eq (by unfold resZ;rw [if_neg kK])) (rn12 ?_)
  refine zCw Z Z Z cv (fun _ h=>h) (fun _ h=>h) ?_
  rintro r' H' ⟨rfl,rfl⟩
  repeat (refine zL (zH rfl) ?_)
  refine zCw Z Z Z cy (fun _ h=>h) (fun _ h=>h) ?_
  rintro r' H' ⟨rfl,rfl⟩
  repeat (refine zL (zBT rfl rfl rfl rfl rfl rfl) ?_)
  refine zt (c':= .box [.int .i64 2,.ro (qsC (zB0 p t)) 0 p.n,.nil,.ro (qsC (zIS p t (zCb p.m (p.n+p.m) t))) 0 p.n,.bool false,.nil,.nil]) Z Z Z (hg1 _ _ _ _ _) Z Nat.zero_lt_one Z Z (fun i' j' hi' hj'=> ?_) ?_
  ·rw [if_pos (Nat.lt_one_iff.1 hi')];rfl
  refine rn2 ?_
  refine zM hR (zGt Z (zQV (hg1 _ _ _ _ _)) Z Z Z) ?_
  show AV.agg _=runA _
  unfold runA
  simp only [hvl,hrl]
  rfl
 ·rw [hbest hc] at hR
  have hce:zCb p.m (p.n+p.m) t=p.n+p.m:=kK
  refine zv 18 (.int .i64 (-1)) Z (AEq.of_eq (by unfold resZ;rw [if_pos hce])) ?_
  have hfc:(zW ((p.fc:Nat):Int).natAbs).length≤400001:=hdD _ (k*p.n) (by have:k*p.n≤1000*30:=Nat.mul_le_mul hk40 hn;omega) (by rw [Int.natAbs_natCast];exact fc_le hk)
  have hfp:=zIh p
  have hD:t.den*(p.fc:Nat)≠0:=by
   have:=Int.mul_pos hti.dp (show (0:Int)<((p.fc:Nat):Int) by omega)
   omega
  have hkn:k*p.n≤30000:=Nat.mul_le_mul hk40 hn
  have hpr:(t.den*(p.fc:Nat)).natAbs≤10^(p.T k+k*p.n):=by
   rw [Int.natAbs_mul,Int.natAbs_natCast,Nat.pow_add]
   exact Nat.mul_le_mul b2 (fc_le hk)
  have hpl:=hdD _ _ kK hpr
  have cm:=zCn t.den ((p.fc:Nat):Int) kK kK
  rw [intA_nat] at cm
  have hw:=zGO p
  have q3:=zCu (G:=G) (F:=none) (L:=p.N+1) (w:=p.n+p.m) (k:=p.m) (X:=t.rows) (d:=t.den) (β:=t.basis) (T:=[]) (a:=p.m) kK
  clear q3
  refine rn8 ?_
  refine zQ (zg G none (p.N+1) (p.n+p.m) p.m t.rows t.den t.basis [some ⟨116,.box [.bool false,.nil]⟩]) (by rw [zAk];rfl) ?_
  refine zE 19 (.ptr (G.length+4+(p.m+1)) 0 0) Z (AEq.of_eq (by rw [zBP,hn'];rfl)) ?_
  refine zE 171 (.agg [.bool false,zm p.fc]) Z (AEq.of_eq Z) ?_
  have q0:=zAl (G:=G) (F:=none) (L:=p.N+1) (w:=p.n+p.m) (k:=p.m) (X:=t.rows) (d:=t.den) (β:=t.basis) (T:=[some ⟨116,.box [.bool false,.nil]⟩]) 0
  rw [hn',Nat.add_zero] at q0
  refine zt (c':= .box [.bool false,zm p.fc]) Z Z Z q0 Z Nat.zero_lt_one Z Z (fun i' j' hi' hj'=> ?_) ?_
  ·rw [if_pos (Nat.lt_one_iff.1 hi')];rfl
  refine zQ (zg G none (p.N+1) (p.n+p.m) p.m t.rows t.den t.basis [some ⟨116,.box [.bool false,zm p.fc]⟩]) (by have q:=zAW (G:=G) (F:=none) (L:=p.N+1) (w:=p.n+p.m) (k:=p.m) (X:=t.rows) (d:=t.den) (β:=t.basis) (T:=[some ⟨116,.box [.bool false,.nil]⟩]) 0 (some ⟨116,.box [.bool false,zm p.fc]⟩);rw [hn',Nat.add_zero] at q;exact q) ?_
  clear q0
  refine rn0 ?_
  refine zAg 20 ⟨118,qsC ((List.range 0).map (fun i=>Rat.divInt (at2 t.rows p.m (p.n+i)) (t.den*(p.fc:Nat))))⟩ Z Z ?_
  refine zAs (zg G none (p.N+1) (p.n+p.m) p.m t.rows t.den t.basis [some ⟨116,.box [.bool false,zm p.fc]⟩,some ⟨118,qsC ((List.range 0).map (fun i=>Rat.divInt (at2 t.rows p.m (p.n+i)) (t.den*(p.fc:Nat))))⟩]) (by rw [zAk];rfl) ?_
  refine zv 20 (.sl (G.length+4+(p.m+1)+1) 0 0) Z (AEq.of_eq (by rw [zBP,hn'];rfl)) ?_
  have hyl: ∀i,((List.range i).map (fun i=>Rat.divInt (at2 t.rows p.m (p.n+i)) (t.den*(p.fc:Nat)))).length=i:=fun i=>by simp
  repeat (refine zAJ ?_)
  refine zb (ι:=Nat) (fun i=>[(1,.ptr 0 0 0),(2,.ptr 1 0 0),(3,iN p.n),(4,iN p.m),(5,.ptr G.length 0 0),(6,.ro (nsC ((List.range p.m).map p.fac)) 0 p.m),(7,iN p.a),(11,zm p.fc),(12,.sl (G.length+4+p.m) 0 (p.N+1)),(19,.ptr (G.length+4+(p.m+1)) 0 0),(20,.sl (G.length+4+(p.m+1)+1) 0 i),(172,iN p.m),(173,iN i)]) (fun i=>zg G none (p.N+1) (p.n+p.m) p.m t.rows t.den t.basis [some ⟨116,.box [.bool false,zm p.fc]⟩,some ⟨118,qsC ((List.range i).map (fun i=>Rat.divInt (at2 t.rows p.m (p.n+i)) (t.den*(p.fc:Nat))))⟩]) (fun i=>i≤p.m) (fun i=>p.m-i) 0 ⟨⟨Z,Z,Z,Z,Z,Z,Z,Z,Z,Z,Z,Z,Z,trivial⟩,Z,Nat.zero_le _⟩ ?_
  intro i hi
  refine rn4 ?_
  refine zB Z (fun h=> ?_) (fun h=> ?_)
  ·have hi':i<p.m:=kK
   have hys:((List.range (i+1)).map (fun i=>Rat.divInt (at2 t.rows p.m (p.n+i)) (t.den*(p.fc:Nat))))=((List.range i).map (fun i=>Rat.divInt (at2 t.rows p.m (p.n+i)) (t.den*(p.fc:Nat))))++[Rat.divInt (at2 t.rows p.m (p.n+i)) (t.den*(p.fc:Nat))]:=by rw [List.range_succ,List.map_append];rfl
   have hyi:=hyl i
   generalize ((List.range i).map (fun i=>Rat.divInt (at2 t.rows p.m (p.n+i)) (t.den*(p.fc:Nat))))=Y at*
   have q1:=zBH (G:=G) (F:=none) (L:=p.N+1) (w:=p.n+p.m) (k:=p.m) (X:=t.rows) (d:=t.den) (β:=t.basis) (T:=[some ⟨116,.box [.bool false,zm p.fc]⟩,some ⟨118,qsC Y⟩])
   have q3:=zCu (G:=G) (F:=none) (L:=p.N+1) (w:=p.n+p.m) (k:=p.m) (X:=t.rows) (d:=t.den) (β:=t.basis) (T:=[some ⟨116,.box [.bool false,zm p.fc]⟩,some ⟨118,qsC Y⟩]) (a:=p.m) kK
   have q4:=zAl (G:=G) (F:=none) (L:=p.N+1) (w:=p.n+p.m) (k:=p.m) (X:=t.rows) (d:=t.den) (β:=t.basis) (T:=[some ⟨116,.box [.bool false,zm p.fc]⟩,some ⟨118,qsC Y⟩]) 0
   have q5:=zAl (G:=G) (F:=none) (L:=p.N+1) (w:=p.n+p.m) (k:=p.m) (X:=t.rows) (d:=t.den) (β:=t.basis) (T:=[some ⟨116,.box [.bool false,zm p.fc]⟩,some ⟨118,qsC Y⟩]) 1
   rw [hn'] at q4 q5
   rw [Nat.add_zero] at q4
   have lm:(t.rows.getD p.m []).length=p.N+1:=hrow _ (z8 [] kK)
   have g7:p.n+i<(zC (t.rows.getD p.m [])).len:=by show p.n+i<(t.rows.getD p.m []).length;omega
   have cfr:=zG0 (at2 t.rows p.m (p.n+i)) (t.den*(p.fc:Nat)) hD (by have:=hsb p.m (p.n+i) kK kK;omega) kK
   refine rn1 ?_
   refine zZ kQ ?_
   refine zR 0 Z kQ kQ kQ Z (zH Z) Z ?_
   refine zDB (fuel:=3) [1,2,3,4,5,6,7,8,9,10,11,12,13] [(1,.ptr 0 0 0),(2,.ptr 1 0 0),(3,iN p.n),(4,iN p.m),(5,.ptr G.length 0 0),(6,.ro (nsC ((List.range p.m).map p.fac)) 0 p.m),(7,iN p.a),(11,zm p.fc),(12,.sl (G.length+4+p.m) 0 (p.N+1)),(19,.ptr (G.length+4+(p.m+1)) 0 0),(20,.sl (G.length+4+(p.m+1)+1) 0 i),(172,iN p.m),(173,iN i),(21,iN i),(176,.sl (G.length+4+(p.m+1)+1) 0 i)] ⟨Z,Z,Z,Z,Z,Z,Z,Z,Z,Z,Z,Z,Z,Z,Z,trivial⟩ kQ kV Z Z ?_
   refine zK Z Z (zH Z) ?_
   refine zK Z Z (zH Z) ?_
   refine zK Z Z (zH Z) ?_
   refine zK Z Z (zCZ Z Z kK) ?_
   refine zK Z Z (zDF (ix:=p.n+i) Z Z Z q3 Z (by show 0+((p.n:Nat)+(i:Nat):Int).toNat=p.n+i;omega) kK) ?_
   refine zK Z Z (qas Z Z Z Z) ?_
   refine zK Z Z (zH Z) ?_
   refine zK Z Z (zh Z) ?_
   refine zK Z Z (zN Z Z Z Z Z Z) ?_
   refine zK Z Z (qps Z Z Z Z) ?_
   refine zK Z Z (qas Z Z Z Z) ?_
   refine zAy Z Z Z Z Z cm ?_
   refine zAy Z Z Z Z Z cfr ?_
   refine zz ?_
   unfold qA
   refine zD (is:=[14]) kQ kJ Z ⟨fun o ho=> ?_,trivial⟩
   all_goals (cases ho)
   refine rn3 ?_
   refine zD (is:=[15]) kQ kJ Z ⟨fun o ho=> ?_,trivial⟩
   all_goals (cases ho)
   refine zq Z Z Z Z Z Z Z q5 Z hyi Z Z (by show 0+1≤1;omega) Z (by show (i+1)*56≤_∧_;omega) ?_ (by rw [hfix];exact fun h=>h) ?_
   ·intro i' j' hi' hj'
    exact zAM 0 3 zJ zu Y _ _ (zBi _) _ i' j' hi' hj'
   refine zB8 ((191,.sl (G.length+4+(p.m+1)+1) 0 (i+1))::[(1,.ptr 0 0 0),(2,.ptr 1 0 0),(3,iN p.n),(4,iN p.m),(5,.ptr G.length 0 0),(6,.ro (nsC ((List.range p.m).map p.fac)) 0 p.m),(7,iN p.a),(11,zm p.fc),(12,.sl (G.length+4+p.m) 0 (p.N+1)),(19,.ptr (G.length+4+(p.m+1)) 0 0),(172,iN p.m),(173,iN i)]) ⟨Z,zA4 (h:=G.length+4+(p.m+1)+1) (L:=[(1,.ptr 0 0 0),(2,.ptr 1 0 0),(3,iN p.n),(4,iN p.m),(5,.ptr G.length 0 0),(6,.ro (nsC ((List.range p.m).map p.fac)) 0 p.m),(7,iN p.a),(11,zm p.fc),(12,.sl (G.length+4+p.m) 0 (p.N+1)),(19,.ptr (G.length+4+(p.m+1)) 0 0),(172,iN p.m),(173,iN i)]) ⟨Z,Z,Z,Z,Z,Z,Z,Z,Z,Z,Z,Z,trivial⟩ (by
   intro q hq
   simp only [List.mem_cons,List.mem_nil_iff,or_false] at hq
   rcases hq with rfl|rfl|rfl|rfl|rfl|rfl|rfl|rfl|rfl|rfl|rfl|rfl<;>simp [AV.forget,zm,z7 (show G.length≠G.length+4+(p.m+1)+1 by omega),z7 (show 0≠G.length+4+(p.m+1)+1 by omega),z7 (show 1≠G.length+4+(p.m+1)+1 by omega),z7 (show G.length+4+p.m≠G.length+4+(p.m+1)+1 by omega),z7 (show G.length+4+(p.m+1)≠G.length+4+(p.m+1)+1 by omega)])⟩ ?_
   refine zAD (zg G none (p.N+1) (p.n+p.m) p.m t.rows t.den t.basis [some ⟨116,.box [.bool false,zm p.fc]⟩,some ⟨118,qsC ((List.range (i+1)).map (fun i=>Rat.divInt (at2 t.rows p.m (p.n+i)) (t.den*(p.fc:Nat))))⟩]) (by
    rw [hys]
    have e:zg G none (p.N+1) (p.n+p.m) p.m t.rows t.den t.basis [some ⟨116,.box [.bool false,zm p.fc]⟩,some ⟨118,qsC (Y++[Rat.divInt (at2 t.rows p.m (p.n+i)) (t.den*(p.fc:Nat))])⟩]=(zg G none (p.N+1) (p.n+p.m) p.m t.rows t.den t.basis [some ⟨116,.box [.bool false,zm p.fc]⟩,none]).set (G.length+4+(p.m+1)+1) (some ⟨118,qsC (Y++[Rat.divInt (at2 t.rows p.m (p.n+i)) (t.den*(p.fc:Nat))])⟩):=by
     have q:=zAW (G:=G) (F:=none) (L:=p.N+1) (w:=p.n+p.m) (k:=p.m) (X:=t.rows) (d:=t.den) (β:=t.basis) (T:=[some ⟨116,.box [.bool false,zm p.fc]⟩,none]) 1 (some ⟨118,qsC (Y++[Rat.divInt (at2 t.rows p.m (p.n+i)) (t.den*(p.fc:Nat))])⟩)
     rw [hn'] at q
     exact q.symm
    rw [e]
    exact zP.set (zKD (T:=[some ⟨116,.box [.bool false,zm p.fc]⟩,some ⟨118,qsC Y⟩]) (T':=[some ⟨116,.box [.bool false,zm p.fc]⟩,none]) _ (hFG _) kK (zP.same (zP.drop zP.nil))) _ (fun o ho=>by cases ho;exact ⟨_,rfl,rfl,zAV 0 3 zJ Y _ _ (zBi (Rat.divInt (at2 t.rows p.m (p.n+i)) (t.den*(p.fc:Nat))))⟩)) ?_
   refine rn1 ?_
   refine zR 16 Z kQ kQ kQ Z (zf Z) Z ?_
   refine zT kQ (rn5 ?_)
   exact zI ⟨i+1,kK,kK,⟨Z,Z,Z,Z,Z,Z,Z,Z,Z,Z,Z,Z,Z,trivial⟩,Z⟩
  have hie:i=p.m:=kK
  rw [hie]
  clear hi h hie
  clear i
  obtain ⟨KK,hKK⟩: ∃KK,KK=890000:=⟨_,rfl⟩
  have cu:=zLy ((List.range p.m).map (fun i=>Rat.divInt (at2 t.rows p.m (p.n+i)) (t.den*(p.fc:Nat)))) ((List.range p.m).map p.fac) KK kJ (by simp;omega) (fun q hq=>by
   obtain ⟨i,hi,rfl⟩:=List.mem_map.1 hq
   have hi:i<p.m:=by simpa using hi
   exact (zET hD (zDJ (Nat.le_trans (b1 p.m (p.n+i) kK kK) (Nat.pow_le_pow_right kV (Nat.le_add_right _ (k*p.n))))) (zDJ hpr)).mono kK) (fun q hq=>by
   obtain ⟨i,hi,rfl⟩:=List.mem_map.1 hq
   have hi:i<p.m:=by simpa using hi
   refine Nat.lt_of_lt_of_le (zDJ (zPv hp hk hi)) (Nat.pow_le_pow_right kV ?_)
   have:k*(p.n+1)≤1000*31:=Nat.mul_le_mul hk40 kK
   omega) kK
  rw [hyl p.m,hfl] at cu
  have hy:zKE ((List.range p.m).map (fun i=>Rat.divInt (at2 t.rows p.m (p.n+i)) (t.den*(p.fc:Nat)))) ((List.range p.m).map p.fac) p.m=yL p t (t.den*(p.fc:Nat)):=(yL_as p t (t.den*(p.fc:Nat))).symm
  rw [hy] at cu
  have hyl2:(yL p t (t.den*(p.fc:Nat))).length=p.m:=by simp [yL]
  have hym:=hyl p.m
  generalize ((List.range p.m).map (fun i=>Rat.divInt (at2 t.rows p.m (p.n+i)) (t.den*(p.fc:Nat))))=Y at*
  have q5:=zAl (G:=G) (F:=none) (L:=p.N+1) (w:=p.n+p.m) (k:=p.m) (X:=t.rows) (d:=t.den) (β:=t.basis) (T:=[some ⟨116,.box [.bool false,zm p.fc]⟩,some ⟨118,qsC Y⟩]) 1
  rw [hn'] at q5
  refine zBq ?_
  refine zAC (G.length+4+(p.m+1)+1) 20 p.m [(1,.ptr 0 0 0),(2,.ptr 1 0 0),(3,iN p.n),(4,iN p.m),(5,.ptr G.length 0 0),(6,.ro (nsC ((List.range p.m).map p.fac)) 0 p.m),(7,iN p.a),(11,zm p.fc),(12,.sl (G.length+4+p.m) 0 (p.N+1)),(19,.ptr (G.length+4+(p.m+1)) 0 0)] q5 (zAT _) Z (by show p.m≤Y.length;omega) ⟨Z,Z,Z,Z,Z,Z,Z,Z,Z,Z,trivial⟩ ?_
  refine zAs (zg G none (p.N+1) (p.n+p.m) p.m t.rows t.den t.basis [some ⟨116,.box [.bool false,zm p.fc]⟩,none]) (by have q:=zAW (G:=G) (F:=none) (L:=p.N+1) (w:=p.n+p.m) (k:=p.m) (X:=t.rows) (d:=t.den) (β:=t.basis) (T:=[some ⟨116,.box [.bool false,zm p.fc]⟩,some ⟨118,qsC Y⟩]) 1 none;rw [hn'] at q;exact q) ?_
  clear q5
  have q1:=zBH (G:=G) (F:=none) (L:=p.N+1) (w:=p.n+p.m) (k:=p.m) (X:=t.rows) (d:=t.den) (β:=t.basis) (T:=[some ⟨116,.box [.bool false,zm p.fc]⟩,none])
  have q3:=zCu (G:=G) (F:=none) (L:=p.N+1) (w:=p.n+p.m) (k:=p.m) (X:=t.rows) (d:=t.den) (β:=t.basis) (T:=[some ⟨116,.box [.bool false,zm p.fc]⟩,none]) (a:=p.m) kK
  have q4:=zAl (G:=G) (F:=none) (L:=p.N+1) (w:=p.n+p.m) (k:=p.m) (X:=t.rows) (d:=t.den) (β:=t.basis) (T:=[some ⟨116,.box [.bool false,zm p.fc]⟩,none]) 0
  rw [hn',Nat.add_zero] at q4
  have lm:(t.rows.getD p.m []).length=p.N+1:=hrow _ (z8 [] kK)
  have g7:p.N<(zC (t.rows.getD p.m [])).len:=by show p.N<(t.rows.getD p.m []).length;omega
  have cfr:=zG0 (at2 t.rows p.m p.N) (t.den*(p.fc:Nat)) hD (by have:=hsb p.m p.N kK kK;omega) kK
  have cv:=zGs G hG p.N (p.n+p.m) p.m t.rows t.den t.basis [some ⟨116,.box [.bool false,zm p.fc]⟩,none] (fun m _ o ho=>by
   simp only [List.mem_cons,List.mem_nil_iff,or_false] at ho
   rcases ho with e|e
   ·cases e
    intro i' j' hi' hj'
    match j',(show j'<2 from hj') with
    |0,_=>rfl
    |1,_=>rfl
   ·cases e) p.n kK kK kK kK hrow kK hd (fun i hi=>by have:=hsb i p.N kK kK;omega) kK
  rw [htb] at cv
  repeat (refine zAL ?_)
  refine zZ kQ ?_
  refine zj (fuel:=1) [0,1,2,3,4,5,6,7,8,9,10,11,12,13,14,15,16,17,18,19] ((20,.ro (qsC Y) 0 p.m)::[(1,.ptr 0 0 0),(2,.ptr 1 0 0),(3,iN p.n),(4,iN p.m),(5,.ptr G.length 0 0),(6,.ro (nsC ((List.range p.m).map p.fac)) 0 p.m),(7,iN p.a),(11,zm p.fc),(12,.sl (G.length+4+p.m) 0 (p.N+1)),(19,.ptr (G.length+4+(p.m+1)) 0 0)]) ⟨Z,Z,Z,Z,Z,Z,Z,Z,Z,Z,Z,trivial⟩ kQ kV Z Z ?_
  refine zK Z Z (zH Z) ?_
  refine zK Z Z (zH Z) ?_
  refine px_c Z Z Z Z Z cv ?_
  refine zK Z Z (zH Z) ?_
  refine zK Z Z (zH Z) ?_
  refine zAy Z Z Z Z Z cu ?_
  refine zK Z Z (zH Z) ?_
  refine zK Z Z (zH Z) ?_
  refine zK Z Z (zBh Z Z Z) ?_
  refine zK Z Z (zFl Z Z kK) ?_
  refine zK Z Z (zDF (ix:=p.N) Z Z Z q3 Z (by show 0+(((p.N+1:Nat):Int)-1).toNat=p.N;omega) kK) ?_
  refine zK Z Z (qas Z Z Z Z) ?_
  refine zK Z Z (zH Z) ?_
  refine zK Z Z (zh Z) ?_
  refine zK Z Z (zN Z Z Z Z Z Z) ?_
  refine zK Z Z (qps Z Z Z Z) ?_
  refine zK Z Z (qas Z Z Z Z) ?_
  refine zAy Z Z Z Z Z cm ?_
  refine zAy Z Z Z Z Z cfr ?_
  unfold qA
  refine zK Z Z (zBT Z Z Z Z Z Z) ?_
  refine zz ?_
  refine zD (is:=[20]) kQ kJ Z ⟨fun o ho=> ?_,trivial⟩
  all_goals (cases ho)
  refine zt (c':= .box ([.int .i64 0,.ro (qsC (zB0 p t)) 0 p.n,.ro (qsC (yL p t (t.den*(p.fc:Nat)))) 0 p.m,.nil]++zJ (Rat.divInt (at2 t.rows p.m p.N) (t.den*(p.fc:Nat))))) Z Z Z (hg1 _ _ _ _ _) Z Nat.zero_lt_one Z Z (fun i' j' hi' hj'=> ?_) ?_
  ·rw [if_pos (Nat.lt_one_iff.1 hi')];rfl
  refine rn1 ?_
  refine zT kQ (rn0 ?_)
  refine zM hR (zGt Z (zQV (hg1 _ _ _ _ _)) Z Z Z) ?_
  show AV.agg _=runA _
  unfold runA
  simp only [hvl,hyl2]
  rfl
end Go.Proofs.YtmpnheilfejcpaaGreatDoor
namespace Go.Proofs.YtmpnheilfejcpaaGreatDoor
open Go.Ax Go.Ax.Bg Go.Ax.Rt Go.RowKit Go.Ax.Dt Go.Ax.Sx Go.Ax.Mg
attribute [local irreducible] Ax zB2 QOp zU zBV
abbrev oQ (q:Rat):Option AObj:=some ⟨118,.box (zJ q)⟩
abbrev oZ:Option AObj:=some ⟨118,.box [.bool false,.nil,.nil]⟩
abbrev gmH (x y:Rat)(a b k:Nat)(A:List (List Rat))(B C:List Rat)(L:zO):zO:=oZ::oQ x::oQ y::some ⟨155,.box [.sl 4 0 a,.sl 5 0 b,.sl 6 0 k]⟩::some ⟨110,zd A⟩::some ⟨118,qsC B⟩::some ⟨118,qsC C⟩::L
theorem zCx (n:Nat)(q:Rat):zBM n (.box (zJ q)):=by
 intro i j _ hj
 have hj:j<3:=hj
 match j,hj with
 |0,_=>rfl
 |1,_=>rfl
 |2,_=>rfl
theorem zFc (n:Nat):zBM n (.box [.bool false,.nil,.nil]):=by
 intro i j _ hj
 have hj:j<3:=hj
 match j,hj with
 |0,_=>rfl
 |1,_=>rfl
 |2,_=>rfl
theorem zMb {n:Nat}{o1 o2:AObj}(h1:zBM n o1.c)(h2:zBM n o2.c): ∀(h:Nat) (o:AObj),([some o1,some o2]:zO)[h]? =some (some o)→zBM n o.c:=by
 intro h o ho
 match h,ho with
 |0,ho=>cases ho;exact h1
 |1,ho=>cases ho;exact h2
 |_+2,ho=>simp at ho
theorem gm_b4 {x y:Rat}{A:List (List Rat)}{B C:List Rat}{a b:Nat}: ∀(h:Nat) (o:AObj),([oZ,oQ x,oQ y,some ⟨155,.box [.ro (zd A) 0 a,.ro (qsC B) 0 a,.ro (qsC C) 0 b]⟩]:zO)[h]? =some (some o)→zBM 4 o.c:=by
 intro h o ho
 match h,ho with
 |0,ho=>
  cases ho
  exact zFc _
 |1,ho=>
  cases ho
  exact zCx _ _
 |2,ho=>
  cases ho
  exact zCx _ _
 |3,ho=>
  cases ho
  intro i j _ hj
  have hj:j<3:=hj
  match j,hj with
  |0,_=>rfl
  |1,_=>rfl
  |2,_=>rfl
 |_+4,ho=>simp at ho
theorem gm_b5 {x y:Rat}{A:List (List Rat)}{B C X Y:List Rat}{a b:Nat}{V:Rat}: ∀(h:Nat) (o:AObj),([oZ,oQ x,oQ y,some ⟨155,.box [.ro (zd A) 0 a,.ro (qsC B) 0 a,.ro (qsC C) 0 b]⟩,some ⟨152,.box ([.int .i64 0,.ro (qsC X) 0 b,.ro (qsC Y) 0 a,.nil]++zJ V)⟩]:zO)[h]? =some (some o)→zBM 5 o.c:=by
 intro h o ho
 match h,ho with
 |0,ho=>
  cases ho
  exact zFc _
 |1,ho=>
  cases ho
  exact zCx _ _
 |2,ho=>
  cases ho
  exact zCx _ _
 |3,ho=>
  cases ho
  intro i j _ hj
  have hj:j<3:=hj
  match j,hj with
  |0,_=>rfl
  |1,_=>rfl
  |2,_=>rfl
 |4,ho=>
  cases ho
  intro i j _ hj
  have hj:j<7:=hj
  match j,hj with
  |0,_=>rfl
  |1,_=>rfl
  |2,_=>rfl
  |3,_=>rfl
  |4,_=>rfl
  |5,_=>rfl
  |6,_=>rfl
 |_+5,ho=>simp at ho
theorem gm_b6 {x y:Rat}{A:List (List Rat)}{B C X Y l:List Rat}{a b:Nat}{V:Rat}: ∀(h:Nat) (o:AObj),([oZ,oQ x,oQ y,some ⟨155,.box [.ro (zd A) 0 a,.ro (qsC B) 0 a,.ro (qsC C) 0 b]⟩,some ⟨152,.box ([.int .i64 0,.ro (qsC X) 0 b,.ro (qsC Y) 0 a,.nil]++zJ V)⟩,some ⟨118,qsC l⟩]:zO)[h]? =some (some o)→zBM 6 o.c:=by
 intro h o ho
 match h,ho with
 |0,ho=>
  cases ho
  exact zFc _
 |1,ho=>
  cases ho
  exact zCx _ _
 |2,ho=>
  cases ho
  exact zCx _ _
 |3,ho=>
  cases ho
  intro i j _ hj
  have hj:j<3:=hj
  match j,hj with
  |0,_=>rfl
  |1,_=>rfl
  |2,_=>rfl
 |4,ho=>
  cases ho
  intro i j _ hj
  have hj:j<7:=hj
  match j,hj with
  |0,_=>rfl
  |1,_=>rfl
  |2,_=>rfl
  |3,_=>rfl
  |4,_=>rfl
  |5,_=>rfl
  |6,_=>rfl
 |5,ho=>
  cases ho
  exact zDM _ _
 |_+6,ho=>simp at ho
theorem zDx (h:Nat)(a:List Rat):CEq ((qsC a).forget h) (qsC a):=by
 have e:(qsC a).forget h=qsC a:=by
  show Cells.fn _ _ _=Cells.fn _ _ _
  congr 1
  funext i j
  match j with
  |0=>rfl
  |1=>rfl
  |2=>rfl
  |_+3=>rfl
 rw [e];exact CEq.refl _
theorem zNV (h:Nat)(a:List (List Rat)):CEq ((zd a).forget h) (zd a):=by
 have e:(zd a).forget h=zd a:=by
  show Cells.fn _ _ _=Cells.fn _ _ _
  congr 1
  funext i j
  match j with
  |0=>rfl
  |_+1=>rfl
 rw [e];exact CEq.refl _
theorem gm_below (x y:Rat)(a b k:Nat)(A:List (List Rat))(B C:List Rat): ∀(h:Nat) (o:AObj),(gmH x y a b k A B C [])[h]? =some (some o)→zBM 7 o.c:=by
 intro h o ho
 match h,ho with
 |0,ho=>cases ho;exact zFc _
 |1,ho=>cases ho;exact zCx _ _
 |2,ho=>cases ho;exact zCx _ _
 |3,ho=>
  cases ho
  intro i j _ hj
  have hj:j<3:=hj
  match j,hj with
  |0,_=>rfl
  |1,_=>rfl
  |2,_=>rfl
 |4,ho=>
  cases ho
  intro i j _ hj
  have hj:j<1:=hj
  match j,hj with
  |0,_=>rfl
 |5,ho=>cases ho;exact zDM _ _
 |6,ho=>cases ho;exact zDM _ _
 |_+7,ho=>simp at ho
theorem zSH (x y:Rat)(a b k:Nat)(A:List (List Rat))(B C l:List Rat): ∀(h:Nat) (o:AObj),(gmH x y a b k A B C [some ⟨118,qsC l⟩])[h]? =some (some o)→zBM 8 o.c:=by
 intro h o ho
 match h,ho with
 |0,ho=>cases ho;exact zFc _
 |1,ho=>cases ho;exact zCx _ _
 |2,ho=>cases ho;exact zCx _ _
 |3,ho=>
  cases ho
  intro i j _ hj
  have hj:j<3:=hj
  match j,hj with
  |0,_=>rfl
  |1,_=>rfl
  |2,_=>rfl
 |4,ho=>
  cases ho
  intro i j _ hj
  have hj:j<1:=hj
  match j,hj with
  |0,_=>rfl
 |5,ho=>cases ho;exact zDM _ _
 |6,ho=>cases ho;exact zDM _ _
 |7,ho=>cases ho;exact zDM _ _
 |_+8,ho=>simp at ho
theorem gameq_ok (M:List (List Rat))(w k K L:Nat)(hw:0<w)(hw12:w≤12)(hm:0<M.length)(hm12:M.length≤12)(hM: ∀r∈M,r.length=w)(hD: ∀r∈M,∀q∈r,D k q)(hk:k≤48)(hs:Stops (zAi M w) K L):
 zX Tryz.prog 72 [.ro (zd M) 0 M.length] (.tup [qA (zAu M w K L).1,.ro (qsC (zAu M w K L).2.1) 0 M.length,.ro (qsC (zAu M w K L).2.2) 0 w]):=by
 have hel: ∀i j,i<M.length→j<w→Sz 100000 ((M.getD i []).getD j 0):=fun i j hi hj=>by
  have hr:=z6 [] hi
  exact zBj ((hD _ hr _ (z8 0 (by rw [hM _ hr];exact hj))).mono kK)
 have hrow: ∀i,i<M.length→(M.getD i []).length=w:=fun i hi=>hM _ (z6 [] hi)
 have hq0:D k ((M.getD 0 []).getD 0 0):=hD _ (z8 [] hm) _ (z8 0 (by rw [hM _ (z8 [] hm)];exact hw))
 have hF: ∀i,D k ((M.take i).foldl zBA ((M.getD 0 []).getD 0 0)):=fun i=>zIH (P:=fun q=>D k q) (M.take i) _ hq0 (fun r hr=>hD r (List.mem_of_mem_take hr))
 have hFj: ∀i j,i<M.length→Sz 100000 (zBA ((M.take i).foldl zBA ((M.getD 0 []).getD 0 0)) ((M.getD i []).take j)):=fun i j hi=>
  zBj ((zJ1 (P:=fun q=>D k q) _ _ (hF i) (fun q hq=>hD _ (z6 [] hi) q (List.mem_of_mem_take hq))).mono kK)
 have hFsn: ∀i,i<M.length→(M.take (i+1)).foldl zBA ((M.getD 0 []).getD 0 0)=zBA ((M.take i).foldl zBA ((M.getD 0 []).getD 0 0)) ((M.getD i []).take w):=fun i hi=>by
  rw [zOa _ M hi,List.take_of_length_le (l:=M.getD i []) (by rw [hrow i hi];exact Nat.le_refl w)]
 have hend:(M.take M.length).foldl zBA ((M.getD 0 []).getD 0 0)=zG4 M:=by rw [List.take_length];rfl
 have hLs:Sz 100000 (zG4 M):=zBj ((zRB hw hm hM hD).mono kK)
 have hAs:Sz 100000 (zEK M):=zBj ((addM_D hw hm hM hD).mono kK)
 have s1:zX Tryz.prog 140 [qA 1,qA (zG4 M)] (qA (zEK M)):=zKn 1 (zG4 M) (zBj ((zIW 0).mono kK)) hLs
 have hadd: ∀i j,i<M.length→j<w→zX Tryz.prog 132 [qA ((M.getD i []).getD j 0),qA (zEK M)] (qA ((M.getD i []).getD j 0+zEK M)):=fun i j hi hj=>zFM _ _ (hel i j hi hj) hAs
 have R:=ran hw hw12 hm hm12 hM hD hk hs
 have hcR:=Run_ok (zAi M w) (2*k+3) K L (zGg hM) (zMY hw hm hM hD) (by rw [zID];omega) (by rw [zIE];omega) kK (T_small (by rw [zID];omega) (by rw [zIE];omega) kK) hs
 obtain ⟨r,hr⟩: ∃r,r=zD1 (zAi M w) K L:=⟨_,rfl⟩
 have eQ:zAu M w K L=(1/r.V-zEK M,zGD r.V r.Y,zGD r.V r.X):=by rw [hr];rfl
 have hA0:(zAi M w).A=M.map (zFr (zEK M)):=rfl
 have hB0:(zAi M w).B=List.replicate M.length 1:=rfl
 have hC0:(zAi M w).C=List.replicate w 1:=rfl
 obtain ⟨rk,rp,rx,ry,rxd,ryd,rvd⟩:=R
 rw [←hr] at hcR rk rp rx ry rxd ryd rvd
 rw [hA0,hB0,hC0,List.length_map,List.length_replicate,List.length_replicate] at hcR
 have eA:runA r= .agg ([.int .i64 0,.ro (qsC r.X) 0 w,.ro (qsC r.Y) 0 M.length,.nil]++zJ r.V):=by
  unfold runA
  rw [rk,if_neg kV,if_neg kV,if_neg kV,if_pos rfl,rx,ry]
  rfl
 rw [eA] at hcR
 have hVs:Sz 100000 r.V:=zBj (rvd.mono kK)
 have dX: ∀j,j<w→zX Tryz.prog 133 [qA (r.X.getD j 0),qA r.V] (qA (r.X.getD j 0/r.V)):=fun j hj=>zJZ _ _ (zBj ((rxd _ (z8 0 kK)).mono kK)) hVs rp
 have dY: ∀j,j<M.length→zX Tryz.prog 133 [qA (r.Y.getD j 0),qA r.V] (qA (r.Y.getD j 0/r.V)):=fun j hj=>zJZ _ _ (zBj ((ryd _ (z8 0 kK)).mono kK)) hVs rp
 have d1:=zJZ 1 r.V (zBj ((zIW 0).mono kK)) hVs rp
 have s2:=zKn (1/r.V) (zEK M) (zBj (((zIW 0).div rvd rp).mono kK)) hAs
 rw [eQ]
 clear hr eQ hA0 hB0 hC0 eA rk hs hD hM rxd ryd rvd hq0 hF
 refine zU.value0 (zF (P:=Tryz.prog) (fn:=Tryz.f72) Z Z kQ Z (fun c hR hfix=> ?_)) (fix:=fun _=>False) (fun _ h=>h) Z Z
 have hr0:=hrow 0 hm
 have hr1:0<(M.getD 0 []).length:=kK
 refine rn6 ?_
 refine zE 26 (.agg (zJ ((M.getD 0 []).getD 0 0))) Z (AEq.of_eq Z) ?_
 generalize hg0:(M.getD 0 []).getD 0 0=q0 at*
 refine sa1 (c':= .box (zJ q0)) Z Z Z Z Z Z Z (rn3 ?_)
 generalize hn:M.length=n at*
 refine zb (ι:=Nat) (fun i=>[(0,.ro (zd M) 0 n),(2,.ptr 0 0 0),(3,.nil),(4,.nil),(5,.ptr 1 0 0),(27,.ro (zd M) 0 n),(28,iN n),(29,iN i)]) (fun i=>[oZ,oQ ((M.take i).foldl zBA q0)])
  (fun i=>i≤n) (fun i=>n-i) 0 ⟨⟨rfl,rfl,rfl,rfl,rfl,rfl,rfl,rfl,trivial⟩,rfl,Nat.zero_le _⟩ ?_
 intro i hi
 refine rn4 ?_
 refine zB Z (fun h=> ?_) (fun h=> ?_)
 ·have hi':i<n:=kK
  have hrl:=hrow i hi'
  have hfs:=hFsn i hi'
  have hfj:=fun j=>hFj i j hi'
  have helj:=fun j=>hel i j hi'
  generalize hF2:(M.take (i+1)).foldl zBA q0=F2 at*
  generalize hF0:(M.take i).foldl zBA q0=F at*
  refine rn6 ?_
  refine zv 7 (.ro (qsC (M.getD i [])) 0 w) Z (AEq.of_eq (by show AV.ro (qsC (M.getD i [])) 0 (M.getD i []).length=_;rw [hrl])) ?_
  refine zv 33 (.ro (qsC (M.getD i [])) 0 w) Z (AEq.of_eq (by show AV.ro (qsC (M.getD i [])) 0 (M.getD i []).length=_;rw [hrl])) ?_
  refine zv 34 (iN w) Z (AEq.of_eq (by rw [hrl])) ?_
  skip
  refine zb (ι:=Nat) (fun j=>[(0,.ro (zd M) 0 n),(2,.ptr 0 0 0),(3,.nil),(4,.nil),(5,.ptr 1 0 0),(27,.ro (zd M) 0 n),(28,iN n),(29,iN i),(33,.ro (qsC (M.getD i [])) 0 w),(34,iN w),(35,iN j)]) (fun j=>[oZ,oQ (zBA F ((M.getD i []).take j))])
   (fun j=>j≤w) (fun j=>w-j) 0 ⟨⟨rfl,rfl,rfl,rfl,rfl,rfl,rfl,rfl,rfl,rfl,rfl,trivial⟩,rfl,Nat.zero_le _⟩ ?_
  intro j hj
  refine rn4 ?_
  refine zB Z (fun h=> ?_) (fun h=> ?_)
  ·have hj':j<w:=kK
   have hls:=zOb F (M.getD i []) (show j<(M.getD i []).length by omega)
   have cq:=zEf ((M.getD i []).getD j 0) (zBA F ((M.getD i []).take j)) (helj j hj') (hfj j)
   generalize hG2:zBA F ((M.getD i []).take (j+1))=G2 at*
   generalize zBA F ((M.getD i []).take j)=G at*
   refine rn6 ?_
   refine zE 38 (.agg (zJ ((M.getD i []).getD j 0))) Z (AEq.of_eq Z) ?_
   generalize hqj:(M.getD i []).getD j 0=q at*
   refine sa1 (c':= .box (zJ q)) Z Z Z Z Z Z Z (rn6 ?_)
   refine zA Z Z Z cq (rn4 ?_)
   refine zB Z (fun h4=> ?_) (fun h4=> ?_)
   ·rw [if_pos h4] at hls
    subst hls
    refine rn6 ?_
    refine sa1 (c':= .box (zJ G2)) Z Z Z Z Z Z Z ?_
    refine zCS ?_
    refine zG ?_
    refine zBS [oZ,oQ G2] [oQ G2] [(0,.ro (zd M) 0 n),(2,.ptr 0 0 0),(3,.nil),(4,.nil),(5,.ptr 1 0 0),(27,.ro (zd M) 0 n),(28,iN n),(29,iN i),(33,.ro (qsC (M.getD i [])) 0 w),(34,iN w),(35,iN j)] Z ⟨Z,Z,Z,Z,Z,Z,Z,Z,Z,Z,Z,trivial⟩ (fun h hh=>by rw [hfix] at hh;exact absurd hh id) (zMb (zFc _) (zCx _ _)) Z (rn3 ?_)
    exact zI ⟨j+1,kK,kK,⟨Z,Z,Z,Z,Z,Z,Z,Z,Z,Z,Z,trivial⟩,by rw [hG2]⟩
   ·rw [if_neg h4] at hls
    subst hls
    refine zCS ?_
    refine zG ?_
    refine zBS [oZ,oQ G2] [oQ q] [(0,.ro (zd M) 0 n),(2,.ptr 0 0 0),(3,.nil),(4,.nil),(5,.ptr 1 0 0),(27,.ro (zd M) 0 n),(28,iN n),(29,iN i),(33,.ro (qsC (M.getD i [])) 0 w),(34,iN w),(35,iN j)] Z ⟨Z,Z,Z,Z,Z,Z,Z,Z,Z,Z,Z,trivial⟩ (fun h hh=>by rw [hfix] at hh;exact absurd hh id) (zMb (zFc _) (zCx _ _)) Z (rn3 ?_)
    exact zI ⟨j+1,kK,kK,⟨Z,Z,Z,Z,Z,Z,Z,Z,Z,Z,Z,trivial⟩,by rw [hG2]⟩
  ·have hje:j=w:=kK
   subst hje
   rw [←hfs]
   refine rn5 ?_
   exact zI ⟨i+1,kK,kK,⟨Z,Z,Z,Z,Z,Z,Z,Z,trivial⟩,by rw [hF2]⟩
 have hie:i=n:=kK
 subst hie
 rw [hend]
 generalize zG4 M=LM at*
 generalize hAA:zEK M=AA at*
 refine rn5 ?_
 refine zZ kQ ?_
 apply zn (H:=[oZ,oQ LM,oZ]) [(0,.ro (zd M) 0 i),(2,.ptr 0 0 0),(3,.nil),(4,.nil),(10,.ptr 2 0 0),(48,qA AA)]
 ·intro fin
  refine zD (is:=[0,1,3]) kQ kJ Z ⟨fun o ho=> ?_,fun o ho=> ?_,fun o ho=> ?_,trivial⟩
  all_goals (cases ho)
  ·refine zA Z Z Z zCg (rn1 ?_)
   refine zD (is:=[1,3]) kQ kJ Z ⟨fun o ho=> ?_,fun o ho=> ?_,trivial⟩
   all_goals (cases ho)
   ·refine rn6 ?_
    refine zD (is:=[2,3]) kQ kJ Z ⟨fun o ho=> ?_,fun o ho=> ?_,trivial⟩
    all_goals (cases ho)
    ·refine zA Z Z Z s1 (rn1 ?_)
     refine zD (is:=[3]) kQ kJ Z ⟨fun o ho=> ?_,trivial⟩
     all_goals (cases ho)
     refine rn4 ?_
     exact fin _ ⟨Z,Z,Z,Z,Z,Z,trivial⟩
    ·refine rn4 ?_
     refine zD (is:=[2]) kQ kJ Z ⟨fun o ho=> ?_,trivial⟩
     all_goals (cases ho)
     refine zA Z Z Z s1 (rn1 ?_)
     exact fin _ ⟨Z,Z,Z,Z,Z,Z,trivial⟩
   ·refine rn4 ?_
    refine zD (is:=[1]) kQ kJ Z ⟨fun o ho=> ?_,trivial⟩
    all_goals (cases ho)
    refine rn6 ?_
    refine zD (is:=[2]) kQ kJ Z ⟨fun o ho=> ?_,trivial⟩
    all_goals (cases ho)
    refine zA Z Z Z s1 (rn1 ?_)
    exact fin _ ⟨Z,Z,Z,Z,Z,Z,trivial⟩
  ·refine rn6 ?_
   refine zD (is:=[0,3]) kQ kJ Z ⟨fun o ho=> ?_,fun o ho=> ?_,trivial⟩
   all_goals (cases ho)
   ·refine zA Z Z Z zCg (rn1 ?_)
    refine zD (is:=[2,3]) kQ kJ Z ⟨fun o ho=> ?_,fun o ho=> ?_,trivial⟩
    all_goals (cases ho)
    ·refine zA Z Z Z s1 (rn1 ?_)
     refine zD (is:=[3]) kQ kJ Z ⟨fun o ho=> ?_,trivial⟩
     all_goals (cases ho)
     refine rn4 ?_
     exact fin _ ⟨Z,Z,Z,Z,Z,Z,trivial⟩
    ·refine rn4 ?_
     refine zD (is:=[2]) kQ kJ Z ⟨fun o ho=> ?_,trivial⟩
     all_goals (cases ho)
     refine zA Z Z Z s1 (rn1 ?_)
     exact fin _ ⟨Z,Z,Z,Z,Z,Z,trivial⟩
   ·refine rn4 ?_
    refine zD (is:=[0]) kQ kJ Z ⟨fun o ho=> ?_,trivial⟩
    all_goals (cases ho)
    refine zA Z Z Z zCg (rn1 ?_)
    refine zD (is:=[2]) kQ kJ Z ⟨fun o ho=> ?_,trivial⟩
    all_goals (cases ho)
    refine zA Z Z Z s1 (rn1 ?_)
    exact fin _ ⟨Z,Z,Z,Z,Z,Z,trivial⟩
  ·refine rn4 ?_
   refine zD (is:=[0,1]) kQ kJ Z ⟨fun o ho=> ?_,fun o ho=> ?_,trivial⟩
   all_goals (cases ho)
   ·refine zA Z Z Z zCg (rn1 ?_)
    refine zD (is:=[1]) kQ kJ Z ⟨fun o ho=> ?_,trivial⟩
    all_goals (cases ho)
    refine rn6 ?_
    refine zD (is:=[2]) kQ kJ Z ⟨fun o ho=> ?_,trivial⟩
    all_goals (cases ho)
    refine zA Z Z Z s1 (rn1 ?_)
    exact fin _ ⟨Z,Z,Z,Z,Z,Z,trivial⟩
   ·refine rn6 ?_
    refine zD (is:=[0]) kQ kJ Z ⟨fun o ho=> ?_,trivial⟩
    all_goals (cases ho)
    refine zA Z Z Z zCg (rn1 ?_)
    refine zD (is:=[2]) kQ kJ Z ⟨fun o ho=> ?_,trivial⟩
    all_goals (cases ho)
    refine zA Z Z Z s1 (rn1 ?_)
    exact fin _ ⟨Z,Z,Z,Z,Z,Z,trivial⟩
 refine zD (is:=[4]) kQ kJ Z ⟨fun o ho=> ?_,trivial⟩
 all_goals (cases ho)
 skip
 unfold qA
 refine sa1 (c':= .box (zJ AA)) Z Z Z Z Z Z Z (rn1 ?_)
 refine zT kQ (rn4 ?_)
 refine zFb 3 ⟨110,zd []⟩ (.box [.sl 4 0 0,.nil,.nil]) Z Z Z Z (fun i' j' _ hj'=> ?_) ?_
 ·have hj':j'<3:=hj'
  match j',hj' with
  |0,_=>exact .inr ⟨rfl,rfl⟩
  |1,_=>exact .inl rfl
  |2,_=>exact .inl rfl
 refine zFb 3 ⟨118,qsC []⟩ (.box [.sl 4 0 0,.sl 5 0 0,.nil]) Z Z Z Z (fun i' j' _ hj'=> ?_) ?_
 ·have hj':j'<3:=hj'
  match j',hj' with
  |0,_=>exact .inl rfl
  |1,_=>exact .inr ⟨rfl,rfl⟩
  |2,_=>exact .inl rfl
 refine zFb 3 ⟨118,qsC []⟩ (.box [.sl 4 0 0,.sl 5 0 0,.sl 6 0 0]) Z Z Z Z (fun i' j' _ hj'=> ?_) ?_
 ·have hj':j'<3:=hj'
  match j',hj' with
  |0,_=>exact .inl rfl
  |1,_=>exact .inl rfl
  |2,_=>exact .inr ⟨rfl,rfl⟩
 refine zAs (gmH LM AA 0 0 0 [] [] [] []) Z ?_
 skip
 refine zb (ι:=Nat) (fun a=>[(0,.ro (zd M) 0 i),(2,.ptr 0 0 0),(3,.nil),(4,.nil),(10,.ptr 2 0 0),(11,.ptr 3 0 0),(49,.ro (zd M) 0 i),(50,iN i),(51,iN a)]) (fun a=>gmH LM AA a a 0 ((M.take a).map (zFr AA)) (List.replicate a 1) [] [])
  (fun a=>a≤i) (fun a=>i-a) 0 ⟨⟨rfl,rfl,rfl,rfl,rfl,rfl,rfl,rfl,rfl,trivial⟩,rfl,Nat.zero_le _⟩ ?_
 intro a ha
 refine rn4 ?_
 refine zB Z (fun h=> ?_) (fun h=> ?_)
 ·have ha':a<i:=kK
  have hrl:=hrow a ha'
  have hadj:=fun j hj=>hadd a j ha' hj
  have hsn:=zRm AA M (i:=a) kK
  have hon:=zMl a
  have hAl:((M.take a).map (zFr AA)).length=a:=by rw [List.length_map,List.length_take];omega
  have hBl:(List.replicate a (1:Rat)).length=a:=List.length_replicate
  generalize hA2:(M.take (a+1)).map (zFr AA)=A2 at*
  generalize (M.take a).map (zFr AA)=A at*
  generalize hB2:List.replicate (a+1) (1:Rat)=B2 at*
  generalize List.replicate a (1:Rat)=B at*
  refine rn6 ?_
  refine zv 13 (.ro (qsC (M.getD a [])) 0 w) Z (AEq.of_eq (by show AV.ro (qsC (M.getD a [])) 0 (M.getD a []).length=_;rw [hrl])) ?_
  generalize hrow':M.getD a []=row at*
  skip
  refine zAg 14 ⟨118,qsC []⟩ Z Z ?_
  skip
  refine zv 55 (.ro (qsC row) 0 w) Z (AEq.of_eq (by show AV.ro (qsC row) 0 row.length=_;rw [hrl])) ?_
  refine zv 56 (iN w) Z (AEq.of_eq (by rw [hrl])) ?_
  refine zb (ι:=Nat) (fun j=>[(0,.ro (zd M) 0 i),(2,.ptr 0 0 0),(3,.nil),(4,.nil),(10,.ptr 2 0 0),(11,.ptr 3 0 0),(49,.ro (zd M) 0 i),(50,iN i),(51,iN a),(13,.ro (qsC row) 0 w),(14,.sl 7 0 j),(55,.ro (qsC row) 0 w),(56,iN w),(57,iN j)]) (fun j=>gmH LM AA a a 0 A B [] [some ⟨118,qsC (zFr AA (row.take j))⟩])
   (fun j=>j≤w) (fun j=>w-j) 0 ⟨⟨rfl,rfl,rfl,rfl,rfl,rfl,rfl,rfl,rfl,rfl,rfl,rfl,rfl,rfl,trivial⟩,rfl,Nat.zero_le _⟩ ?_
  intro j hj
  refine rn4 ?_
  refine zB Z (fun h=> ?_) (fun h=> ?_)
  ·have hj':j<w:=kK
   have hls:=zRl AA row (j:=j) kK
   have hll:(zFr AA (row.take j)).length=j:=by rw [zNz,List.length_take];omega
   have ca:=hadj j hj'
   generalize hl2:zFr AA (row.take (j+1))=l2 at*
   generalize zFr AA (row.take j)=l at*
   refine rn6 ?_
   refine zE 60 (.agg (zJ (row.getD j 0))) Z (AEq.of_eq Z) ?_
   generalize hqj:row.getD j 0=q at*
   refine sa1 (c':= .box (zJ q)) Z Z Z Z Z Z Z ?_
   refine zQ (gmH LM AA a a 0 A B [] [some ⟨118,qsC l⟩,oQ q]) Z (rn6 ?_)
   refine zA Z Z Z ca ?_
   generalize q+AA=s at*
   unfold qA
   repeat (refine ze rfl rfl rfl rfl rfl rfl rfl rfl rfl rfl rfl ?_)
   refine zq Z Z Z Z Z Z Z Z Z hll Z Z (by show 0+1≤1;omega) Z (by show (j+1)*56≤_∧_;omega) ?_ (by rw [hfix];exact fun h=>h) ?_
   ·intro i' j' hi' hj'
    exact zAM 0 3 zJ zu l s _ (zBi _) 7 i' j' hi' hj'
   refine zAD (gmH LM AA a a 0 A B [] [some ⟨118,qsC (l++[s])⟩,oQ q]) (zP.eqv (CEq.refl _) (zP.eqv (CEq.refl _) (zP.eqv (CEq.refl _) (zP.eqv (CEq.refl _) (zP.eqv (zNV _ _) (zP.eqv (zDx _ _) (zP.eqv (zDx _ _) (zP.eqv (zAV 0 3 zJ l s _ (zBi _)) (zP.eqv (CEq.refl _) zP.nil))))))))) ?_
   refine zCS ?_
   refine zG ?_
   refine zBS (gmH LM AA a a 0 A B [] [some ⟨118,qsC (l++[s])⟩]) [oQ q] [(0,.ro (zd M) 0 i),(2,.ptr 0 0 0),(3,.nil),(4,.nil),(10,.ptr 2 0 0),(11,.ptr 3 0 0),(49,.ro (zd M) 0 i),(50,iN i),(51,iN a),(13,.ro (qsC row) 0 w),(14,.sl 7 0 (j+1)),(55,.ro (qsC row) 0 w),(56,iN w),(57,iN j)] Z ⟨Z,Z,Z,Z,Z,Z,Z,Z,Z,Z,Z,Z,Z,Z,trivial⟩ (fun h hh=>by rw [hfix] at hh;exact absurd hh id) (zSH _ _ _ _ _ _ _ _ _) Z (rn3 ?_)
   exact zI ⟨j+1,kK,kK,⟨Z,Z,Z,Z,Z,Z,Z,Z,Z,Z,Z,Z,Z,Z,trivial⟩,by rw [hl2,hls]⟩
  ·have hje:j=w:=kK
   have hfull:row.take j=row:=List.take_of_length_le kK
   subst hje
   rw [hfull]
   have hl0:(zFr AA row).length=j:=by rw [zNz];exact hrl
   generalize zFr AA row=l at*
   refine zEW ?_
   refine zAC 7 14 j [(0,.ro (zd M) 0 i),(2,.ptr 0 0 0),(3,.nil),(4,.nil),(10,.ptr 2 0 0),(11,.ptr 3 0 0),(49,.ro (zd M) 0 i),(50,iN i),(51,iN a)] Z (zAT _) Z (by show j≤l.length;omega) ⟨Z,Z,Z,Z,Z,Z,Z,Z,Z,trivial⟩ ?_
   refine zBS (gmH LM AA a a 0 A B [] []) [none] [(0,.ro (zd M) 0 i),(2,.ptr 0 0 0),(3,.nil),(4,.nil),(10,.ptr 2 0 0),(11,.ptr 3 0 0),(49,.ro (zd M) 0 i),(50,iN i),(51,iN a),(14,.ro (qsC l) 0 j)] Z ⟨Z,Z,Z,Z,Z,Z,Z,Z,Z,Z,trivial⟩ (fun h hh=>by rw [hfix] at hh;exact absurd hh id) (gm_below _ _ _ _ _ _ _ _) Z ?_
   skip
   refine zZ kQ ?_
   have hR1: ∀j',j'<1→(zCE 1 1 [.ro (qsC l) 0 j]).at 0 j'=(zCy l).getD j' .any:=fun j' hj'=>by rw [←hl0];exact zO5 l j' hj'
   refine zR 0 Z kQ kQ kQ Z (zN Z Z Z Z Z Z) Z ?_
   refine zR 2 Z kQ kQ kQ Z (zH Z) Z ?_
   refine zR 5 Z kQ kQ kQ Z (zN Z Z Z Z Z Z) Z ?_
   apply zn (H:=[oZ,oQ LM,oQ AA,some ⟨155,.box [.any,.sl 5 0 a,.sl 6 0 0]⟩,some ⟨110,zd (A++[l])⟩,some ⟨118,qsC B⟩,some ⟨118,qsC []⟩]) [(0,.ro (zd M) 0 i),(2,.ptr 0 0 0),(3,.nil),(4,.nil),(10,.ptr 2 0 0),(11,.ptr 3 0 0),(49,.ro (zd M) 0 i),(50,iN i),(51,iN a),(72,.sl 4 0 (a+1)),(74,.sl 5 0 a),(76,.ro (zCE 1 3 (zJ 1)) 0 1),(78,.ptr 3 0 0)]
   ·intro fin
    refine zD (is:=[1,3,6]) kQ kJ Z ⟨fun o ho=> ?_,fun o ho=> ?_,fun o ho=> ?_,trivial⟩
    all_goals (cases ho)
    ·refine rn4 ?_
     refine zD (is:=[3,6]) kQ kJ Z ⟨fun o ho=> ?_,fun o ho=> ?_,trivial⟩
     all_goals (cases ho)
     ·refine rn3 ?_
      refine zD (is:=[4,6]) kQ kJ Z ⟨fun o ho=> ?_,fun o ho=> ?_,trivial⟩
      all_goals (cases ho)
      ·refine zq Z Z Z Z Z Z Z Z Z hAl Z Z (by show 0+1≤1;omega) Z (by show (a+1)*24≤_∧_;omega) ?_ (by rw [hfix];exact fun h=>h) ?_
       ·intro i' j' hi' hj'
        exact zAM [] 1 zCy zBb A l _ hR1 4 i' j' hi' hj'
       refine zAD [oZ,oQ LM,oQ AA,some ⟨155,.box [.any,.sl 5 0 a,.sl 6 0 0]⟩,some ⟨110,zd (A++[l])⟩,some ⟨118,qsC B⟩,some ⟨118,qsC []⟩] (zP.eqv (CEq.refl _) (zP.eqv (CEq.refl _) (zP.eqv (CEq.refl _) (zP.eqv (CEq.refl _) (zP.eqv (zAV [] 1 zCy A l _ hR1) (zP.eqv (zDx _ _) (zP.eqv (zDx _ _) zP.nil))))))) (rn1 ?_)
       refine zD (is:=[6,7]) kQ kJ Z ⟨fun o ho=> ?_,fun o ho=> ?_,trivial⟩
       all_goals (cases ho)
       ·refine rn4 ?_
        refine zR 10 Z kQ kQ kQ Z (zN Z Z Z Z Z Z) Z ?_
        refine zD (is:=[7]) kQ kJ Z ⟨fun o ho=> ?_,trivial⟩
        all_goals (cases ho)
        refine zA Z Z Z zCg ?_
        unfold qA
        refine rn1 ?_
        refine zD (is:=[8]) kQ kJ Z ⟨fun o ho=> ?_,trivial⟩
        all_goals (cases ho)
        refine rn3 ?_
        exact fin _ ⟨Z,Z,Z,Z,Z,Z,Z,Z,Z,Z,Z,Z,Z,trivial⟩
       ·refine zA Z Z Z zCg ?_
        unfold qA
        refine rn1 ?_
        refine zD (is:=[6,8]) kQ kJ Z ⟨fun o ho=> ?_,fun o ho=> ?_,trivial⟩
        all_goals (cases ho)
        ·refine rn4 ?_
         refine zR 10 Z kQ kQ kQ Z (zN Z Z Z Z Z Z) Z ?_
         refine zD (is:=[8]) kQ kJ Z ⟨fun o ho=> ?_,trivial⟩
         all_goals (cases ho)
         refine rn3 ?_
         exact fin _ ⟨Z,Z,Z,Z,Z,Z,Z,Z,Z,Z,Z,Z,Z,trivial⟩
        ·refine rn3 ?_
         refine zD (is:=[6]) kQ kJ Z ⟨fun o ho=> ?_,trivial⟩
         all_goals (cases ho)
         refine rn4 ?_
         refine zR 10 Z kQ kQ kQ Z (zN Z Z Z Z Z Z) Z ?_
         exact fin _ ⟨Z,Z,Z,Z,Z,Z,Z,Z,Z,Z,Z,Z,Z,trivial⟩
      ·refine rn4 ?_
       refine zD (is:=[4]) kQ kJ Z ⟨fun o ho=> ?_,trivial⟩
       all_goals (cases ho)
       refine zq Z Z Z Z Z Z Z Z Z hAl Z Z (by show 0+1≤1;omega) Z (by show (a+1)*24≤_∧_;omega) ?_ (by rw [hfix];exact fun h=>h) ?_
       ·intro i' j' hi' hj'
        exact zAM [] 1 zCy zBb A l _ hR1 4 i' j' hi' hj'
       refine zAD [oZ,oQ LM,oQ AA,some ⟨155,.box [.any,.sl 5 0 a,.sl 6 0 0]⟩,some ⟨110,zd (A++[l])⟩,some ⟨118,qsC B⟩,some ⟨118,qsC []⟩] (zP.eqv (CEq.refl _) (zP.eqv (CEq.refl _) (zP.eqv (CEq.refl _) (zP.eqv (CEq.refl _) (zP.eqv (zAV [] 1 zCy A l _ hR1) (zP.eqv (zDx _ _) (zP.eqv (zDx _ _) zP.nil))))))) (rn1 ?_)
       refine zR 10 Z kQ kQ kQ Z (zN Z Z Z Z Z Z) Z ?_
       refine zD (is:=[7]) kQ kJ Z ⟨fun o ho=> ?_,trivial⟩
       all_goals (cases ho)
       refine zA Z Z Z zCg ?_
       unfold qA
       refine rn1 ?_
       refine zD (is:=[8]) kQ kJ Z ⟨fun o ho=> ?_,trivial⟩
       all_goals (cases ho)
       refine rn3 ?_
       exact fin _ ⟨Z,Z,Z,Z,Z,Z,Z,Z,Z,Z,Z,Z,Z,trivial⟩
     ·refine rn4 ?_
      refine zD (is:=[3]) kQ kJ Z ⟨fun o ho=> ?_,trivial⟩
      all_goals (cases ho)
      refine rn3 ?_
      refine zD (is:=[4]) kQ kJ Z ⟨fun o ho=> ?_,trivial⟩
      all_goals (cases ho)
      refine zq Z Z Z Z Z Z Z Z Z hAl Z Z (by show 0+1≤1;omega) Z (by show (a+1)*24≤_∧_;omega) ?_ (by rw [hfix];exact fun h=>h) ?_
      ·intro i' j' hi' hj'
       exact zAM [] 1 zCy zBb A l _ hR1 4 i' j' hi' hj'
      refine zAD [oZ,oQ LM,oQ AA,some ⟨155,.box [.any,.sl 5 0 a,.sl 6 0 0]⟩,some ⟨110,zd (A++[l])⟩,some ⟨118,qsC B⟩,some ⟨118,qsC []⟩] (zP.eqv (CEq.refl _) (zP.eqv (CEq.refl _) (zP.eqv (CEq.refl _) (zP.eqv (CEq.refl _) (zP.eqv (zAV [] 1 zCy A l _ hR1) (zP.eqv (zDx _ _) (zP.eqv (zDx _ _) zP.nil))))))) (rn1 ?_)
      refine zR 10 Z kQ kQ kQ Z (zN Z Z Z Z Z Z) Z ?_
      refine zD (is:=[7]) kQ kJ Z ⟨fun o ho=> ?_,trivial⟩
      all_goals (cases ho)
      refine zA Z Z Z zCg ?_
      unfold qA
      refine rn1 ?_
      refine zD (is:=[8]) kQ kJ Z ⟨fun o ho=> ?_,trivial⟩
      all_goals (cases ho)
      refine rn3 ?_
      exact fin _ ⟨Z,Z,Z,Z,Z,Z,Z,Z,Z,Z,Z,Z,Z,trivial⟩
    ·refine rn3 ?_
     refine zD (is:=[1,6]) kQ kJ Z ⟨fun o ho=> ?_,fun o ho=> ?_,trivial⟩
     all_goals (cases ho)
     ·refine rn4 ?_
      refine zD (is:=[4,6]) kQ kJ Z ⟨fun o ho=> ?_,fun o ho=> ?_,trivial⟩
      all_goals (cases ho)
      ·refine zq Z Z Z Z Z Z Z Z Z hAl Z Z (by show 0+1≤1;omega) Z (by show (a+1)*24≤_∧_;omega) ?_ (by rw [hfix];exact fun h=>h) ?_
       ·intro i' j' hi' hj'
        exact zAM [] 1 zCy zBb A l _ hR1 4 i' j' hi' hj'
       refine zAD [oZ,oQ LM,oQ AA,some ⟨155,.box [.any,.sl 5 0 a,.sl 6 0 0]⟩,some ⟨110,zd (A++[l])⟩,some ⟨118,qsC B⟩,some ⟨118,qsC []⟩] (zP.eqv (CEq.refl _) (zP.eqv (CEq.refl _) (zP.eqv (CEq.refl _) (zP.eqv (CEq.refl _) (zP.eqv (zAV [] 1 zCy A l _ hR1) (zP.eqv (zDx _ _) (zP.eqv (zDx _ _) zP.nil))))))) (rn1 ?_)
       refine zD (is:=[6,7]) kQ kJ Z ⟨fun o ho=> ?_,fun o ho=> ?_,trivial⟩
       all_goals (cases ho)
       ·refine rn4 ?_
        refine zR 10 Z kQ kQ kQ Z (zN Z Z Z Z Z Z) Z ?_
        refine zD (is:=[7]) kQ kJ Z ⟨fun o ho=> ?_,trivial⟩
        all_goals (cases ho)
        refine zA Z Z Z zCg ?_
        unfold qA
        refine rn1 ?_
        refine zD (is:=[8]) kQ kJ Z ⟨fun o ho=> ?_,trivial⟩
        all_goals (cases ho)
        refine rn3 ?_
        exact fin _ ⟨Z,Z,Z,Z,Z,Z,Z,Z,Z,Z,Z,Z,Z,trivial⟩
       ·refine zA Z Z Z zCg ?_
        unfold qA
        refine rn1 ?_
        refine zD (is:=[6,8]) kQ kJ Z ⟨fun o ho=> ?_,fun o ho=> ?_,trivial⟩
        all_goals (cases ho)
        ·refine rn4 ?_
         refine zR 10 Z kQ kQ kQ Z (zN Z Z Z Z Z Z) Z ?_
         refine zD (is:=[8]) kQ kJ Z ⟨fun o ho=> ?_,trivial⟩
         all_goals (cases ho)
         refine rn3 ?_
         exact fin _ ⟨Z,Z,Z,Z,Z,Z,Z,Z,Z,Z,Z,Z,Z,trivial⟩
        ·refine rn3 ?_
         refine zD (is:=[6]) kQ kJ Z ⟨fun o ho=> ?_,trivial⟩
         all_goals (cases ho)
         refine rn4 ?_
         refine zR 10 Z kQ kQ kQ Z (zN Z Z Z Z Z Z) Z ?_
         exact fin _ ⟨Z,Z,Z,Z,Z,Z,Z,Z,Z,Z,Z,Z,Z,trivial⟩
      ·refine rn4 ?_
       refine zD (is:=[4]) kQ kJ Z ⟨fun o ho=> ?_,trivial⟩
       all_goals (cases ho)
       refine zq Z Z Z Z Z Z Z Z Z hAl Z Z (by show 0+1≤1;omega) Z (by show (a+1)*24≤_∧_;omega) ?_ (by rw [hfix];exact fun h=>h) ?_
       ·intro i' j' hi' hj'
        exact zAM [] 1 zCy zBb A l _ hR1 4 i' j' hi' hj'
       refine zAD [oZ,oQ LM,oQ AA,some ⟨155,.box [.any,.sl 5 0 a,.sl 6 0 0]⟩,some ⟨110,zd (A++[l])⟩,some ⟨118,qsC B⟩,some ⟨118,qsC []⟩] (zP.eqv (CEq.refl _) (zP.eqv (CEq.refl _) (zP.eqv (CEq.refl _) (zP.eqv (CEq.refl _) (zP.eqv (zAV [] 1 zCy A l _ hR1) (zP.eqv (zDx _ _) (zP.eqv (zDx _ _) zP.nil))))))) (rn1 ?_)
       refine zR 10 Z kQ kQ kQ Z (zN Z Z Z Z Z Z) Z ?_
       refine zD (is:=[7]) kQ kJ Z ⟨fun o ho=> ?_,trivial⟩
       all_goals (cases ho)
       refine zA Z Z Z zCg ?_
       unfold qA
       refine rn1 ?_
       refine zD (is:=[8]) kQ kJ Z ⟨fun o ho=> ?_,trivial⟩
       all_goals (cases ho)
       refine rn3 ?_
       exact fin _ ⟨Z,Z,Z,Z,Z,Z,Z,Z,Z,Z,Z,Z,Z,trivial⟩
     ·refine rn4 ?_
      refine zD (is:=[1]) kQ kJ Z ⟨fun o ho=> ?_,trivial⟩
      all_goals (cases ho)
      refine rn4 ?_
      refine zD (is:=[4]) kQ kJ Z ⟨fun o ho=> ?_,trivial⟩
      all_goals (cases ho)
      refine zq Z Z Z Z Z Z Z Z Z hAl Z Z (by show 0+1≤1;omega) Z (by show (a+1)*24≤_∧_;omega) ?_ (by rw [hfix];exact fun h=>h) ?_
      ·intro i' j' hi' hj'
       exact zAM [] 1 zCy zBb A l _ hR1 4 i' j' hi' hj'
      refine zAD [oZ,oQ LM,oQ AA,some ⟨155,.box [.any,.sl 5 0 a,.sl 6 0 0]⟩,some ⟨110,zd (A++[l])⟩,some ⟨118,qsC B⟩,some ⟨118,qsC []⟩] (zP.eqv (CEq.refl _) (zP.eqv (CEq.refl _) (zP.eqv (CEq.refl _) (zP.eqv (CEq.refl _) (zP.eqv (zAV [] 1 zCy A l _ hR1) (zP.eqv (zDx _ _) (zP.eqv (zDx _ _) zP.nil))))))) (rn1 ?_)
      refine zR 10 Z kQ kQ kQ Z (zN Z Z Z Z Z Z) Z ?_
      refine zD (is:=[7]) kQ kJ Z ⟨fun o ho=> ?_,trivial⟩
      all_goals (cases ho)
      refine zA Z Z Z zCg ?_
      unfold qA
      refine rn1 ?_
      refine zD (is:=[8]) kQ kJ Z ⟨fun o ho=> ?_,trivial⟩
      all_goals (cases ho)
      refine rn3 ?_
      exact fin _ ⟨Z,Z,Z,Z,Z,Z,Z,Z,Z,Z,Z,Z,Z,trivial⟩
    ·refine rn4 ?_
     refine zD (is:=[1,3]) kQ kJ Z ⟨fun o ho=> ?_,fun o ho=> ?_,trivial⟩
     all_goals (cases ho)
     ·refine rn4 ?_
      refine zD (is:=[3]) kQ kJ Z ⟨fun o ho=> ?_,trivial⟩
      all_goals (cases ho)
      refine rn3 ?_
      refine zD (is:=[4]) kQ kJ Z ⟨fun o ho=> ?_,trivial⟩
      all_goals (cases ho)
      refine zq Z Z Z Z Z Z Z Z Z hAl Z Z (by show 0+1≤1;omega) Z (by show (a+1)*24≤_∧_;omega) ?_ (by rw [hfix];exact fun h=>h) ?_
      ·intro i' j' hi' hj'
       exact zAM [] 1 zCy zBb A l _ hR1 4 i' j' hi' hj'
      refine zAD [oZ,oQ LM,oQ AA,some ⟨155,.box [.any,.sl 5 0 a,.sl 6 0 0]⟩,some ⟨110,zd (A++[l])⟩,some ⟨118,qsC B⟩,some ⟨118,qsC []⟩] (zP.eqv (CEq.refl _) (zP.eqv (CEq.refl _) (zP.eqv (CEq.refl _) (zP.eqv (CEq.refl _) (zP.eqv (zAV [] 1 zCy A l _ hR1) (zP.eqv (zDx _ _) (zP.eqv (zDx _ _) zP.nil))))))) (rn1 ?_)
      refine zR 10 Z kQ kQ kQ Z (zN Z Z Z Z Z Z) Z ?_
      refine zD (is:=[7]) kQ kJ Z ⟨fun o ho=> ?_,trivial⟩
      all_goals (cases ho)
      refine zA Z Z Z zCg ?_
      unfold qA
      refine rn1 ?_
      refine zD (is:=[8]) kQ kJ Z ⟨fun o ho=> ?_,trivial⟩
      all_goals (cases ho)
      refine rn3 ?_
      exact fin _ ⟨Z,Z,Z,Z,Z,Z,Z,Z,Z,Z,Z,Z,Z,trivial⟩
     ·refine rn3 ?_
      refine zD (is:=[1]) kQ kJ Z ⟨fun o ho=> ?_,trivial⟩
      all_goals (cases ho)
      refine rn4 ?_
      refine zD (is:=[4]) kQ kJ Z ⟨fun o ho=> ?_,trivial⟩
      all_goals (cases ho)
      refine zq Z Z Z Z Z Z Z Z Z hAl Z Z (by show 0+1≤1;omega) Z (by show (a+1)*24≤_∧_;omega) ?_ (by rw [hfix];exact fun h=>h) ?_
      ·intro i' j' hi' hj'
       exact zAM [] 1 zCy zBb A l _ hR1 4 i' j' hi' hj'
      refine zAD [oZ,oQ LM,oQ AA,some ⟨155,.box [.any,.sl 5 0 a,.sl 6 0 0]⟩,some ⟨110,zd (A++[l])⟩,some ⟨118,qsC B⟩,some ⟨118,qsC []⟩] (zP.eqv (CEq.refl _) (zP.eqv (CEq.refl _) (zP.eqv (CEq.refl _) (zP.eqv (CEq.refl _) (zP.eqv (zAV [] 1 zCy A l _ hR1) (zP.eqv (zDx _ _) (zP.eqv (zDx _ _) zP.nil))))))) (rn1 ?_)
      refine zR 10 Z kQ kQ kQ Z (zN Z Z Z Z Z Z) Z ?_
      refine zD (is:=[7]) kQ kJ Z ⟨fun o ho=> ?_,trivial⟩
      all_goals (cases ho)
      refine zA Z Z Z zCg ?_
      unfold qA
      refine rn1 ?_
      refine zD (is:=[8]) kQ kJ Z ⟨fun o ho=> ?_,trivial⟩
      all_goals (cases ho)
      refine rn3 ?_
      exact fin _ ⟨Z,Z,Z,Z,Z,Z,Z,Z,Z,Z,Z,Z,Z,trivial⟩
   refine zD (is:=[9]) kQ kJ Z ⟨fun o ho=> ?_,trivial⟩
   all_goals (cases ho)
   refine zq Z Z Z Z Z Z Z Z Z hBl Z Z (by show 0+1≤1;omega) Z (by show (a+1)*56≤_∧_;omega) ?_ (by rw [hfix];exact fun h=>h) ?_
   ·intro i' j' hi' hj'
    exact zAM 0 3 zJ zu B 1 _ (zBi _) 5 i' j' hi' hj'
   refine zAD [oZ,oQ LM,oQ AA,some ⟨155,.box [.any,.any,.sl 6 0 0]⟩,some ⟨110,zd (A++[l])⟩,some ⟨118,qsC (B++[1])⟩,some ⟨118,qsC []⟩] (zP.eqv (CEq.refl _) (zP.eqv (CEq.refl _) (zP.eqv (CEq.refl _) (zP.eqv (CEq.refl _) (zP.eqv (zNV _ _) (zP.eqv (zAV 0 3 zJ B 1 _ (zBi _)) (zP.eqv (zDx _ _) zP.nil))))))) (rn1 ?_)
   refine zD (is:=[11]) kQ kJ Z ⟨fun o ho=> ?_,trivial⟩
   all_goals (cases ho)
   refine rn9 ?_
   refine zR 12 Z kQ kQ kQ Z (zN Z Z Z Z Z Z) Z ?_
   refine zD (is:=[13]) kQ kJ Z ⟨fun o ho=> ?_,trivial⟩
   all_goals (cases ho)
   refine rn9 ?_
   refine zT kQ (rn5 ?_)
   exact zI ⟨a+1,kK,kK,⟨Z,Z,Z,Z,Z,Z,Z,Z,Z,trivial⟩,by rw [hA2,hsn,hB2,hon];rfl⟩
 ·have hae:a=i:=kK
  subst hae
  have hAe:(M.take a).map (zFr AA)=M.map (zFr AA):=by rw [List.take_of_length_le kK]
  have hMl:(M.map (zFr AA)).length=a:=by rw [List.length_map];omega
  have hRl:(List.replicate a (1:Rat)).length=a:=List.length_replicate
  rw [hAe]
  generalize M.map (zFr AA)=A at*
  generalize List.replicate a (1:Rat)=B at*
  refine rn6 ?_
  refine zv 84 (iN w) Z (AEq.of_eq (by rw [hr0])) ?_
  refine zb (ι:=Nat) (fun b=>[(0,.ro (zd M) 0 a),(2,.ptr 0 0 0),(3,.nil),(4,.nil),(10,.ptr 2 0 0),(11,.ptr 3 0 0),(84,iN w),(85,iN b)]) (fun b=>gmH LM AA a a b A B (List.replicate b 1) [])
   (fun b=>b≤w) (fun b=>w-b) 0 ⟨⟨rfl,rfl,rfl,rfl,rfl,rfl,rfl,rfl,trivial⟩,rfl,Nat.zero_le _⟩ ?_
  intro b hb
  refine rn4 ?_
  refine zB Z (fun h=> ?_) (fun h=> ?_)
  ·have hb':b<w:=kK
   have hon:=zMl b
   have hBl:(List.replicate b (1:Rat)).length=b:=List.length_replicate
   generalize hC2:List.replicate (b+1) (1:Rat)=C2 at*
   generalize List.replicate b (1:Rat)=C at*
   refine rn1 ?_
   refine zZ kQ ?_
   refine zDB (fuel:=3) [0,1,2,3] [(0,.ro (zd M) 0 a),(2,.ptr 0 0 0),(3,.nil),(4,.nil),(10,.ptr 2 0 0),(11,.ptr 3 0 0),(84,iN w),(85,iN b)] ⟨Z,Z,Z,Z,Z,Z,Z,Z,trivial⟩ kQ kV Z Z ?_
   refine zK Z Z (zN Z Z Z Z Z Z) ?_
   refine zK Z Z (zY Z Z Z Z Z) ?_
   refine zAy Z Z Z Z Z zCg ?_
   refine px_b Z Z Z Z Z Z Z Z Z Z Z Z Z ?_
   refine zz ?_
   refine zD (is:=[4]) kQ kJ Z ⟨fun o ho=> ?_,trivial⟩
   all_goals (cases ho)
   refine zq Z Z Z Z Z Z Z Z Z hBl Z Z (by show 0+1≤1;omega) Z (by show (b+1)*56≤_∧_;omega) ?_ (by rw [hfix];exact fun h=>h) ?_
   ·intro i' j' hi' hj'
    exact zAM 0 3 zJ zu C 1 _ (zBi _) 6 i' j' hi' hj'
   refine zAD [oZ,oQ LM,oQ AA,some ⟨155,.box [.sl 4 0 a,.sl 5 0 a,.any]⟩,some ⟨110,zd A⟩,some ⟨118,qsC B⟩,some ⟨118,qsC (C++[1])⟩] (zP.eqv (CEq.refl _) (zP.eqv (CEq.refl _) (zP.eqv (CEq.refl _) (zP.eqv (CEq.refl _) (zP.eqv (zNV _ _) (zP.eqv (zDx _ _) (zP.eqv (zAV 0 3 zJ C 1 _ (zBi _)) zP.nil))))))) (rn1 ?_)
   refine zR 5 Z kQ kQ kQ Z (zN Z Z Z Z Z Z) Z ?_
   refine zD (is:=[6]) kQ kJ Z ⟨fun o ho=> ?_,trivial⟩
   all_goals (cases ho)
   refine rn9 ?_
   refine zT kQ (rn5 ?_)
   exact zI ⟨b+1,kK,kK,⟨Z,Z,Z,Z,Z,Z,Z,Z,trivial⟩,by rw [hC2,hon];rfl⟩
  have hbe:b=w:=kK
  subst hbe
  have hCl:(List.replicate b (1:Rat)).length=b:=List.length_replicate
  generalize List.replicate b (1:Rat)=C at*
  refine zEW ?_
  refine zRp [none,none,none,none,some ⟨110,zd A⟩,some ⟨118,qsC B⟩,some ⟨118,qsC C⟩] [oZ,oQ LM,oQ AA,some ⟨155,.box [.ro (zd A) 0 a,.ro (qsC B) 0 a,.ro (qsC C) 0 b]⟩,none,none,none] [(2,.ptr 0 0 0),(3,.nil),(4,.nil),(10,.ptr 2 0 0),(11,.ptr 3 0 0)] ?_ ?_ Z ?_ ⟨⟨_,Z,.inl Z⟩,⟨_,Z,.inl Z⟩,⟨_,Z,.inl Z⟩,⟨_,Z,.inl Z⟩,⟨_,Z,.inl Z⟩,trivial⟩ ?_
  ·intro h o ho
   match h,ho with
   |0,ho=>simp at ho
   |1,ho=>simp at ho
   |2,ho=>simp at ho
   |3,ho=>simp at ho
   |4,ho=>exact ho
   |5,ho=>exact ho
   |6,ho=>exact ho
   |_+7,ho=>simp at ho
  ·intro h o ho
   match h,ho with
   |0,ho=>simp at ho
   |1,ho=>simp at ho
   |2,ho=>simp at ho
   |3,ho=>simp at ho
   |4,ho=>cases ho;exact zGL _
   |5,ho=>cases ho;exact zAT _
   |6,ho=>cases ho;exact zAT _
   |_+7,ho=>simp at ho
  ·intro h o ho
   match h,ho with
   |0,ho=>cases ho;exact ⟨fun o h=>by simp at h,_,rfl,rfl,rfl,rfl,fun i j _ _=> .inl rfl⟩
   |1,ho=>cases ho;exact ⟨fun o h=>by simp at h,_,rfl,rfl,rfl,rfl,fun i j _ _=> .inl rfl⟩
   |2,ho=>cases ho;exact ⟨fun o h=>by simp at h,_,rfl,rfl,rfl,rfl,fun i j _ _=> .inl rfl⟩
   |3,ho=>
    cases ho
    refine ⟨fun o h=>by simp at h,_,Z,Z,Z,Z,fun i j _ hj=> ?_⟩
    have hj:j<3:=hj
    match j,hj with
    |0,_=>exact .inr (.inr ⟨rfl,fun o ho=>by cases ho;show 0+a≤A.length;omega⟩)
    |1,_=>exact .inr (.inr ⟨rfl,fun o ho=>by cases ho;show 0+a≤B.length;omega⟩)
    |2,_=>exact .inr (.inr ⟨rfl,fun o ho=>by cases ho;show 0+b≤C.length;omega⟩)
   |4,ho=>simp at ho
   |5,ho=>simp at ho
   |6,ho=>simp at ho
   |_+7,ho=>simp at ho
  refine zBS [oZ,oQ LM,oQ AA,some ⟨155,.box [.ro (zd A) 0 a,.ro (qsC B) 0 a,.ro (qsC C) 0 b]⟩] [none,none,none] [(2,.ptr 0 0 0),(3,.nil),(4,.nil),(10,.ptr 2 0 0),(11,.ptr 3 0 0)] Z ⟨Z,Z,Z,Z,Z,trivial⟩ (fun h hh=>by rw [hfix] at hh;exact absurd hh id) gm_b4 Z (rn6 ?_)
  refine zA Z Z Z hcR ?_
  repeat (refine zA7 rfl rfl rfl ?_)
  refine sa1 (c':= .box ([.int .i64 0,.ro (qsC r.X) 0 b,.ro (qsC r.Y) 0 a,.nil]++zJ r.V)) Z Z Z Z Z Z Z ?_
  refine zQ (oZ::oQ LM::oQ AA::some ⟨155,.box [.ro (zd A) 0 a,.ro (qsC B) 0 a,.ro (qsC C) 0 b]⟩::some ⟨152,.box ([.int .i64 0,.ro (qsC r.X) 0 b,.ro (qsC r.Y) 0 a,.nil]++zJ r.V)⟩::[]) Z (rn8 ?_)
  refine zAg 4 ⟨118,qsC []⟩ Z Z ?_
  repeat (refine zAJ ?_)
  refine zb (ι:=Nat) (fun j=>[(2,.ptr 0 0 0),(3,.nil),(10,.ptr 2 0 0),(17,.ptr 4 0 0),(4,.sl 5 0 j),(97,.ro (qsC r.X) 0 b),(98,iN b),(99,iN j)]) (fun j=>oZ::oQ LM::oQ AA::some ⟨155,.box [.ro (zd A) 0 a,.ro (qsC B) 0 a,.ro (qsC C) 0 b]⟩::some ⟨152,.box ([.int .i64 0,.ro (qsC r.X) 0 b,.ro (qsC r.Y) 0 a,.nil]++zJ r.V)⟩::[some ⟨118,qsC (zGD r.V (r.X.take j))⟩])
   (fun j=>j≤b) (fun j=>b-j) 0 ⟨⟨rfl,rfl,rfl,rfl,rfl,rfl,rfl,rfl,trivial⟩,rfl,Nat.zero_le _⟩ ?_
  intro j hj
  refine rn4 ?_
  refine zB Z (fun h=> ?_) (fun h=> ?_)
  ·have hj':j<b:=kK
   have hls:=zMT r.V r.X (j:=j) kK
   have hll:(zGD r.V (r.X.take j)).length=j:=by unfold zGD;rw [List.length_map,List.length_take];omega
   have ca:=dX j hj'
   generalize hl2:zGD r.V (r.X.take (j+1))=l2 at*
   generalize zGD r.V (r.X.take j)=l at*
   refine rn6 ?_
   refine zE 102 (.agg (zJ (r.X.getD j 0))) Z (AEq.of_eq Z) ?_
   generalize hqj:r.X.getD j 0=q at*
   refine sa1 (c':= .box (zJ q)) Z Z Z Z Z Z Z ?_
   refine zQ (oZ::oQ LM::oQ AA::some ⟨155,.box [.ro (zd A) 0 a,.ro (qsC B) 0 a,.ro (qsC C) 0 b]⟩::some ⟨152,.box ([.int .i64 0,.ro (qsC r.X) 0 b,.ro (qsC r.Y) 0 a,.nil]++zJ r.V)⟩::[some ⟨118,qsC l⟩,oQ q]) Z (rn6 ?_)
   refine zA Z Z Z ca ?_
   generalize q/r.V=s at*
   unfold qA
   repeat (refine ze rfl rfl rfl rfl rfl rfl rfl rfl rfl rfl rfl ?_)
   refine zq Z Z Z Z Z Z Z Z Z hll Z Z (by show 0+1≤1;omega) Z (by show (j+1)*56≤_∧_;omega) ?_ (by rw [hfix];exact fun h=>h) ?_
   ·intro i' j' hi' hj'
    exact zAM 0 3 zJ zu l s _ (zBi _) 5 i' j' hi' hj'
   refine zAD (oZ::oQ LM::oQ AA::some ⟨155,.box [.ro (zd A) 0 a,.ro (qsC B) 0 a,.ro (qsC C) 0 b]⟩::some ⟨152,.box ([.int .i64 0,.ro (qsC r.X) 0 b,.ro (qsC r.Y) 0 a,.nil]++zJ r.V)⟩::[some ⟨118,qsC (l++[s])⟩,oQ q]) (zP.eqv (CEq.refl _) (zP.eqv (CEq.refl _) (zP.eqv (CEq.refl _) (zP.eqv (CEq.refl _) (zP.eqv (CEq.refl _) (zP.eqv (zAV 0 3 zJ l s _ (zBi _)) (zP.eqv (CEq.refl _) zP.nil))))))) ?_
   refine zCS ?_
   refine zG ?_
   refine zBS (oZ::oQ LM::oQ AA::some ⟨155,.box [.ro (zd A) 0 a,.ro (qsC B) 0 a,.ro (qsC C) 0 b]⟩::some ⟨152,.box ([.int .i64 0,.ro (qsC r.X) 0 b,.ro (qsC r.Y) 0 a,.nil]++zJ r.V)⟩::[some ⟨118,qsC (l++[s])⟩]) [oQ q] [(2,.ptr 0 0 0),(3,.nil),(10,.ptr 2 0 0),(17,.ptr 4 0 0),(4,.sl 5 0 (j+1)),(97,.ro (qsC r.X) 0 b),(98,iN b),(99,iN j)] Z ⟨Z,Z,Z,Z,Z,Z,Z,Z,trivial⟩ (fun h hh=>by rw [hfix] at hh;exact absurd hh id) gm_b6 Z (rn3 ?_)
   exact zI ⟨j+1,kK,kK,⟨Z,Z,Z,Z,Z,Z,Z,Z,trivial⟩,by rw [hl2,hls]⟩
  have hje:b=j:=kK
  subst hje
  rw [show r.X.take b=r.X from List.take_of_length_le kK]
  have hl0:(zGD r.V r.X).length=b:=by unfold zGD;rw [List.length_map];exact rx
  generalize zGD r.V r.X=DX at*
  refine zEW ?_
  refine zAC 5 4 b [(2,.ptr 0 0 0),(3,.nil),(10,.ptr 2 0 0),(17,.ptr 4 0 0)] Z (zAT _) Z (by show b≤DX.length;omega) ⟨Z,Z,Z,Z,trivial⟩ ?_
  refine zBS (oZ::oQ LM::oQ AA::some ⟨155,.box [.ro (zd A) 0 a,.ro (qsC B) 0 a,.ro (qsC C) 0 b]⟩::some ⟨152,.box ([.int .i64 0,.ro (qsC r.X) 0 b,.ro (qsC r.Y) 0 a,.nil]++zJ r.V)⟩::[]) [none] [(2,.ptr 0 0 0),(3,.nil),(10,.ptr 2 0 0),(17,.ptr 4 0 0),(4,.ro (qsC DX) 0 b)] Z ⟨Z,Z,Z,Z,Z,trivial⟩ (fun h hh=>by rw [hfix] at hh;exact absurd hh id) gm_b5 Z (rn8 ?_)
  refine zAg 3 ⟨118,qsC []⟩ Z Z ?_
  repeat (refine zAJ ?_)
  refine zb (ι:=Nat) (fun j=>[(2,.ptr 0 0 0),(4,.ro (qsC DX) 0 b),(10,.ptr 2 0 0),(17,.ptr 4 0 0),(3,.sl 5 0 j),(112,.ro (qsC r.Y) 0 a),(113,iN a),(114,iN j)]) (fun j=>oZ::oQ LM::oQ AA::some ⟨155,.box [.ro (zd A) 0 a,.ro (qsC B) 0 a,.ro (qsC C) 0 b]⟩::some ⟨152,.box ([.int .i64 0,.ro (qsC r.X) 0 b,.ro (qsC r.Y) 0 a,.nil]++zJ r.V)⟩::[some ⟨118,qsC (zGD r.V (r.Y.take j))⟩])
   (fun j=>j≤a) (fun j=>a-j) 0 ⟨⟨rfl,rfl,rfl,rfl,rfl,rfl,rfl,rfl,trivial⟩,rfl,Nat.zero_le _⟩ ?_
  intro j hj
  refine rn4 ?_
  refine zB Z (fun h=> ?_) (fun h=> ?_)
  ·have hj':j<a:=kK
   have hls:=zMT r.V r.Y (j:=j) kK
   have hll:(zGD r.V (r.Y.take j)).length=j:=by unfold zGD;rw [List.length_map,List.length_take];omega
   have ca:=dY j hj'
   generalize hl2:zGD r.V (r.Y.take (j+1))=l2 at*
   generalize zGD r.V (r.Y.take j)=l at*
   refine rn6 ?_
   refine zE 117 (.agg (zJ (r.Y.getD j 0))) Z (AEq.of_eq Z) ?_
   generalize hqj:r.Y.getD j 0=q at*
   refine sa1 (c':= .box (zJ q)) Z Z Z Z Z Z Z ?_
   refine zQ (oZ::oQ LM::oQ AA::some ⟨155,.box [.ro (zd A) 0 a,.ro (qsC B) 0 a,.ro (qsC C) 0 b]⟩::some ⟨152,.box ([.int .i64 0,.ro (qsC r.X) 0 b,.ro (qsC r.Y) 0 a,.nil]++zJ r.V)⟩::[some ⟨118,qsC l⟩,oQ q]) Z (rn6 ?_)
   refine zA Z Z Z ca ?_
   generalize q/r.V=s at*
   unfold qA
   repeat (refine ze rfl rfl rfl rfl rfl rfl rfl rfl rfl rfl rfl ?_)
   refine zq Z Z Z Z Z Z Z Z Z hll Z Z (by show 0+1≤1;omega) Z (by show (j+1)*56≤_∧_;omega) ?_ (by rw [hfix];exact fun h=>h) ?_
   ·intro i' j' hi' hj'
    exact zAM 0 3 zJ zu l s _ (zBi _) 5 i' j' hi' hj'
   refine zAD (oZ::oQ LM::oQ AA::some ⟨155,.box [.ro (zd A) 0 a,.ro (qsC B) 0 a,.ro (qsC C) 0 b]⟩::some ⟨152,.box ([.int .i64 0,.ro (qsC r.X) 0 b,.ro (qsC r.Y) 0 a,.nil]++zJ r.V)⟩::[some ⟨118,qsC (l++[s])⟩,oQ q]) (zP.eqv (CEq.refl _) (zP.eqv (CEq.refl _) (zP.eqv (CEq.refl _) (zP.eqv (CEq.refl _) (zP.eqv (CEq.refl _) (zP.eqv (zAV 0 3 zJ l s _ (zBi _)) (zP.eqv (CEq.refl _) zP.nil))))))) ?_
   refine zCS ?_
   refine zG ?_
   refine zBS (oZ::oQ LM::oQ AA::some ⟨155,.box [.ro (zd A) 0 a,.ro (qsC B) 0 a,.ro (qsC C) 0 b]⟩::some ⟨152,.box ([.int .i64 0,.ro (qsC r.X) 0 b,.ro (qsC r.Y) 0 a,.nil]++zJ r.V)⟩::[some ⟨118,qsC (l++[s])⟩]) [oQ q] [(2,.ptr 0 0 0),(4,.ro (qsC DX) 0 b),(10,.ptr 2 0 0),(17,.ptr 4 0 0),(3,.sl 5 0 (j+1)),(112,.ro (qsC r.Y) 0 a),(113,iN a),(114,iN j)] Z ⟨Z,Z,Z,Z,Z,Z,Z,Z,trivial⟩ (fun h hh=>by rw [hfix] at hh;exact absurd hh id) gm_b6 Z (rn3 ?_)
   exact zI ⟨j+1,kK,kK,⟨Z,Z,Z,Z,Z,Z,Z,Z,trivial⟩,by rw [hl2,hls]⟩
  have hje:a=j:=kK
  subst hje
  rw [show r.Y.take a=r.Y from List.take_of_length_le kK]
  have hl1:(zGD r.V r.Y).length=a:=by unfold zGD;rw [List.length_map];exact ry
  generalize zGD r.V r.Y=DY at*
  refine zEW ?_
  refine zAC 5 3 a [(2,.ptr 0 0 0),(10,.ptr 2 0 0),(17,.ptr 4 0 0),(4,.ro (qsC DX) 0 b)] Z (zAT _) Z (by show a≤DY.length;omega) ⟨Z,Z,Z,Z,trivial⟩ ?_
  skip
  refine zZ kQ ?_
  refine zR 6 Z kQ kQ kQ Z (zH Z) Z ?_
  refine zR 7 Z kQ kQ kQ Z (zH Z) Z ?_
  refine zDB (fuel:=3) [0,1,2,3,4,5] [(2,.ptr 0 0 0),(10,.ptr 2 0 0),(17,.ptr 4 0 0),(132,.ro (qsC DY) 0 a),(133,.ro (qsC DX) 0 b)] ⟨Z,Z,Z,Z,Z,trivial⟩ kQ kV Z Z ?_
  refine zAy Z Z Z Z Z zCg ?_
  refine zK Z Z (zN Z Z Z Z Z Z) ?_
  refine zK Z Z (qpp Z Z Z Z Z Z Z) ?_
  refine zAy Z Z Z Z Z d1 ?_
  refine zK Z Z (qpp Z Z Z Z Z Z Z) ?_
  refine zAy Z Z Z Z Z s2 ?_
  refine zz ?_
  refine zD (is:=[8]) kQ kJ Z ⟨fun o ho=> ?_,trivial⟩
  all_goals (cases ho)
  skip
  generalize 1/r.V-AA=val at*
  unfold qA
  refine sa1 (c':= .box (zJ val)) Z Z Z Z Z Z Z (rn1 ?_)
  refine zR 9 Z kQ kQ kQ Z (zf Z) Z ?_
  refine zR 10 Z kQ kQ kQ Z (zf Z) Z ?_
  refine zT kQ (rn0 ?_)
  exact zM hR Z Z
abbrev solA (t:ResG):AV:= .agg [.str t.1,.ro (.strs t.2.1) 0 t.2.1.length,.ro (.strs t.2.2) 0 t.2.2.length]
theorem outAllG (l:List Rat)(hl:l.length≤1000000)(hs: ∀q∈l,Sz 100000 q)(hf: ∀q∈l,zBd q=true): ∃r:AV,zX Tryz.prog 70 [.ro (qsC l) 0 l.length] (.tup [r,.int .i64 0])∧AEq r (.ro (.strs (l.map zr)) 0 (l.map zr).length):=by
 obtain ⟨r,h1,h2⟩:=zGj l hl hs
 have e:zBC l=(l.map zr,0):=by unfold zBC;rw [if_pos (List.all_eq_true.2 hf)]
 rw [e] at h1 h2
 exact ⟨r,h1,h2⟩
theorem one_row (v:Rat):CEq (zCE 1 3 (zJ v)) (qsC [v]):=⟨rfl,rfl,fun i j hi hj=>by
 obtain rfl:i=0:=Nat.lt_one_iff.1 hi
 exact (zBi v j hj).symm⟩
theorem zM2 (l a b r:List zAA)(h:l=a++(b++r)){i n:Nat}(hi:i=a.length)(hn:n=b.length):AEq (.ro (.strs l) i n) (.ro (.strs b) 0 b.length):=by
 subst hn
 refine AEq.ro Z (fun d j hd hj=> ?_)
 show AV.str (b.getD (0+d) [])=AV.str (l.getD (i+d) [])
 rw [h,hi]
 simp only [List.getD]
 rw [List.getElem?_append_right kK,List.getElem?_append_left kK,Nat.add_sub_cancel_left,Nat.zero_add]
theorem zLH (m:List (List zAA))(K L k:Nat)(hm:zD4 m)(hg:zBW m=0)(hk:k≤48)(hD: ∀r∈inM m,∀q∈r,D k q)(hs:Stops (zAi (inM m) (zS m)) K L)(hf:zMX (zAu (inM m) (zS m) K L)=true)(hl:(zAu (inM m) (zS m) K L).2.1.length=m.length∧(zAu (inM m) (zS m) K L).2.2.length=zS m):
 zX Tryz.prog 17 [.ro (zA9 m) 0 m.length] (.tup [solA (zNu (zAu (inM m) (zS m) K L)),.int .i64 0]):=by
 have c0:=zFx m hm.1 hm.2
 rw [hg] at c0
 have hI:=zIj hg
 have hml:(inM m).length=m.length:=zB7 m
 have hml0:=hI.l
 have hml1:=hI.l12
 have hw0:=hI.w
 have hw1:=hI.w12
 have nm:=zIm m kK (fun r h=>⟨by have:=hI.is.cols r h;omega,fun s hs=>⟨(hm.2 r h).2 s hs,hI.is.ok r h s hs⟩⟩)
 have cG:=gameq_ok (inM m) (zS m) k K L hI.w hI.w12 kK kK hI.rows hD hk hs
 rw [hml] at cG
 generalize zAu (inM m) (zS m) K L=G at*
 obtain ⟨v,rs,cs⟩:=G
 simp only at hl cG
 obtain ⟨l1,l2⟩:=hl
 rw [←l1,←l2] at cG
 have hfa: ∀q∈v::(rs++cs),zBd q=true:=List.all_eq_true.1 hf
 obtain ⟨rO,oO,aO⟩:=outAllG ([v]++rs++cs) (by rw [List.length_append,List.length_append,List.length_singleton];omega) (fun q hq=>by
  have hq':q∈v::(rs++cs):=by simpa using hq
  have h1:=hfa q hq'
  unfold zBd at h1
  rw [Bool.and_eq_true,decide_eq_true_eq,decide_eq_true_eq] at h1
  exact zBj ((dig_D h1.1 h1.2).mono kK)) (fun q hq=>hfa q (by simpa using hq))
 have eL:([v]++rs++cs).length=1+rs.length+cs.length:=by rw [List.length_append,List.length_append];rfl
 have eT:([v]++rs++cs).map zr=[zr v]++(rs.map zr++cs.map zr):=by rw [List.map_append,List.map_append,List.append_assoc];rfl
 have hr1:(rs.map zr).length=rs.length:=List.length_map ..
 have hr2:(cs.map zr).length=cs.length:=List.length_map ..
 refine zU.value0 (zF (P:=Tryz.prog) (fn:=Tryz.f17) Z Z kQ Z (fun c hR hfix=> ?_)) (fix:=fun _=>False) (fun _ h=>h) Z Z
 refine rn4 ?_
 refine zA Z Z Z c0 (rn4 ?_)
 refine zA Z Z Z nm ?_
 refine zE 19 (.ro (zd (inM m)) 0 rs.length) Z (AEq.of_eq (by rw [l1])) ?_
 refine zA Z Z Z cG ?_
 unfold qA
 refine rn4 ?_
 refine sa1 (c':= .box (zJ v)) Z Z Z Z Z Z Z (rn9 ?_)
 refine zC2 Z Z Z Z Z Z Z Z Z Z ?_
 refine zAD [some ⟨34,.box [.str [],.nil,.nil]⟩,oQ v,some ⟨118,qsC [v]⟩] (zP.eqv (CEq.refl _) (zP.eqv (CEq.refl _) (zP.eqv (one_row v) zP.nil))) ?_
 repeat (refine zL (zH rfl) ?_)
 refine zq Z Z Z Z Z Z Z Z Z Z Z Z (by show 0+rs.length≤rs.length;omega) Z (by show (1+rs.length)*56≤_∧_;omega) ?_ (by rw [hfix];exact fun h=>h) ?_
 ·intro i' j' hi' hj'
  have q:=(zFW 0 3 zJ [v] rs).2.2 i' j' hi' hj'
  refine (congrArg (AV.forget 2) q.symm).trans (Eq.trans ?_ q)
  exact zu _ j' 2 hj'
 refine zAD [some ⟨34,.box [.str [],.nil,.nil]⟩,oQ v,some ⟨118,qsC ([v]++rs)⟩] (zP.eqv (CEq.refl _) (zP.eqv (CEq.refl _) (zP.eqv (zFW 0 3 zJ [v] rs) zP.nil))) ?_
 have hL1:(qsC ([v]++rs)).len=1+rs.length:=by show ([v]++rs).length=_;rw [List.length_append];rfl
 repeat (refine zL (zH rfl) ?_)
 refine zq Z Z Z Z Z Z Z Z Z hL1 Z Z (by show 0+cs.length≤cs.length;omega) Z (by show (1+rs.length+cs.length)*56≤_∧_;omega) ?_ (by rw [hfix];exact fun h=>h) ?_
 ·intro i' j' hi' hj'
  have q:=(zFW 0 3 zJ ([v]++rs) cs).2.2 i' j' hi' hj'
  refine (congrArg (AV.forget 2) q.symm).trans (Eq.trans ?_ q)
  exact zu _ j' 2 hj'
 refine zAD [some ⟨34,.box [.str [],.nil,.nil]⟩,oQ v,some ⟨118,qsC ([v]++rs++cs)⟩] (zP.eqv (CEq.refl _) (zP.eqv (CEq.refl _) (zP.eqv (zFW 0 3 zJ ([v]++rs) cs) zP.nil))) ?_
 clear hL1
 refine zDg 2 30 (1+rs.length+cs.length) [(2,.ptr 0 0 0),(6,.ro (qsC rs) 0 rs.length),(7,.ro (qsC cs) 0 cs.length)] Z (zAT _) Z (by show 1+rs.length+cs.length≤([v]++rs++cs).length;omega) ⟨Z,Z,Z,trivial⟩ ?_
 refine zE 30 (.ro (qsC ([v]++rs++cs)) 0 ([v]++rs++cs).length) Z (AEq.of_eq (by rw [eL])) ?_
 refine zA Z Z Z oO ?_
 refine zE 31 (.tup [.ro (.strs (([v]++rs++cs).map zr)) 0 (([v]++rs++cs).map zr).length,.int .i64 0]) Z (AEq.tup2 aO) ?_
 have eTl:(([v]++rs++cs).map zr).length=1+rs.length+cs.length:=by rw [List.length_map];exact eL
 have e0:(([v]++rs++cs).map zr).getD 0 []=zr v:=rfl
 generalize ([v]++rs++cs).map zr=LT at*
 refine rn4 ?_
 refine zZ kQ ?_
 refine zDB (fuel:=2) [0,1,2,3,4,5,6,7,8,9,10,11,12,13] [(2,.ptr 0 0 0),(8,.ro (.strs LT) 0 LT.length),(10,iN rs.length)] ⟨Z,Z,Z,trivial⟩ kQ kV Z Z ?_
 refine zK Z Z (zH Z) ?_
 refine zK Z Z (zc Z Z Z Z (by first|(simp only [Nat.zero_add,Int.toNat_natCast,Int.toNat_zero];exact Z)|exact Z) kK) ?_
 refine zK Z Z (zDG Z Z Z) ?_
 refine zK Z Z (zH Z) ?_
 refine zK Z Z (zH Z) ?_
 refine zK Z Z (zCZ Z Z kK) ?_
 refine zK Z Z (zH Z) ?_
 refine zK Z Z (zCZ Z Z kK) ?_
 refine zK Z Z (zOz Z Z Z Z Z Z ⟨kK,kK,kK,kK⟩) ?_
 refine zK Z Z (zH Z) ?_
 refine zK Z Z (zH Z) ?_
 refine zK Z Z (zCZ Z Z kK) ?_
 refine zK Z Z (zIt Z Z Z Z Z Z Z kK) ?_
 refine zK Z Z (zBT Z Z Z Z Z Z) ?_
 refine zz ?_
 refine zD (is:=[14]) kQ kJ Z ⟨fun o ho=> ?_,trivial⟩
 all_goals (cases ho)
 skip
 refine zE 53 (.agg [.str (zr v),.ro (.strs (rs.map zr)) 0 (rs.map zr).length,.ro (.strs (cs.map zr)) 0 (cs.map zr).length]) Z (AEq_agg ⟨AEq.of_eq (by show AV.str _=AV.str _;rw [←e0]),zM2 _ _ _ _ eT Z kK,zM2 _ ([zr v]++rs.map zr) _ [] (by rw [eT];simp) (by rw [List.length_append,List.length_singleton];omega) kK,trivial⟩) ?_
 refine sa1 (c':= .box [.str (zr v),.ro (.strs (rs.map zr)) 0 (rs.map zr).length,.ro (.strs (cs.map zr)) 0 (cs.map zr).length]) Z Z Z Z Z Z Z (rn1 ?_)
 refine zR 15 Z kQ kQ kQ Z (zf Z) Z ?_
 refine zT kQ (rn0 ?_)
 exact zM hR Z Z
end Go.Proofs.YtmpnheilfejcpaaGreatDoor
namespace Go.Proofs.YtmpnheilfejcpaaGreatDoor
open Go.Ax Go.Ax.Bg Go.Ax.Rt Go.RowKit Go.Ax.Idx Go.Ax.Cd
attribute [local irreducible] Ax zB2 QOp zU zBV
def zCa (x:Int×Int):List AV:=[.int .i64 x.1,.int .i64 x.2]
abbrev zx (l:zB1):Cells:=zC9 (0,0) 2 zCa l
theorem zP6 (l:zB1)(g:FuncId)(caps:List AV)(p:Int×Int→Bool)(hc:noRef.noRefs caps=true)(hlen:l.length≤9223372036854775807)(hp: ∀x∈l,zX Tryz.prog g ([.agg (zCa x)]++caps) (.bool (p x))):
 zX Tryz.prog 196 [.ro (zx l) 0 l.length,.fn g caps] (.int .i64 (idxF p l)):=by
 refine zU.value0 (zF (P:=Tryz.prog) (fn:=Tryz.f196) Z Z kQ Z (fun c hR hfix=> ?_)) (fix:=fun _=>False) (fun _ h=>h) (by simp [noRef.noRefs,noRef,hc]) Z
 refine rn3 ?_
 refine zb (ι:=Nat) (fun k=>[(0,.ro (zx l) 0 l.length),(1,.fn g caps),(7,iN l.length),(8,iN k)]) (fun _=>[])
  (fun k=>k≤l.length∧(l.take k).any p=false) (fun k=>l.length-k) 0 ⟨⟨rfl,rfl,rfl,rfl,trivial⟩,rfl,Nat.zero_le _,rfl⟩ ?_
 intro k ⟨hk,hany⟩
 refine rn4 ?_
 refine zB Z (fun h=> ?_) (fun h=> ?_)
 ·have hk':k<l.length:=kK
  have hanys:=zC1 p l (0,0) k hk'
  refine rn6 ?_
  refine zE 15 (.agg (zCa (l.getD k (0,0)))) Z (AEq.of_eq Z) ?_
  refine zA Z Z Z (hp _ (z6 (0,0) hk')) (rn0 ?_)
  refine zD7 Z (fun h2=> ?_) (fun h2=> ?_)
  ·refine rn6 ?_
   refine zM hR Z ?_
   have:=idxF_take p l k hany hk
   rw [zCc l (0,0) k hk'] at this
   simp only [idxF,h2,if_true] at this
   rw [this];simp [zBs]
  ·refine rn5 ?_
   refine zI ⟨k+1,⟨kK,by rw [hanys,hany,h2];rfl⟩,kK,⟨Z,Z,Z,Z,trivial⟩,Z⟩
 ·have hk':k=l.length:=kK
  subst hk'
  refine rn5 ?_
  refine zM hR Z ?_
  have:=idxF_take p l l.length hany hk
  rw [List.drop_length] at this
  rw [this];rfl
theorem zRx (l:zB1)(g:FuncId)(caps:List AV)(p:Int×Int→Bool)(hc:noRef.noRefs caps=true)(hlen:l.length≤9223372036854775807)(hp: ∀x∈l,zX Tryz.prog g ([.agg (zCa x)]++caps) (.bool (p x))):
 zX Tryz.prog 143 [.ro (zx l) 0 l.length,.fn g caps] (.bool (l.any p)):=by
 refine zU.value0 (zF (P:=Tryz.prog) (fn:=Tryz.f143) Z Z kQ Z (fun c hR hfix=> ?_)) (fix:=fun _=>False) (fun _ h=>h) (by simp [noRef.noRefs,noRef,hc]) Z
 refine rn0 ?_
 refine zA Z Z Z (zP6 l g caps p hc hlen hp) (rn8 ?_)
 refine zM hR Z ?_
 simp only [zBs,zHf]
theorem out1_ok (m:List (List zAA))(x:Int×Int)(hm:m≠[])(hw:zS m≠0)(hlen:m.length≤9223372036854775807)(hr: ∀r∈m,r.length≤9223372036854775807):zX Tryz.prog 144 [.agg (zCa x),.rp (.box [.ro (zA9 m) 0 m.length]) 0 0] (.bool (zDi m x)):=by
 have hm0:0<m.length:=by cases m with|nil=>exact absurd rfl hm|cons _ _=>exact Nat.succ_pos _
 have hw9:zS m≤9223372036854775807:=by unfold zS;exact hr _ (z6 [] hm0)
 refine zU.value0 (zF (P:=Tryz.prog) (fn:=Tryz.f144) Z Z kQ Z (fun c hR hfix=> ?_)) (fix:=fun _=>False) (fun _ h=>h) Z Z
 by_cases h1:x.1<0
 ·rw [show zDi m x=true by unfold zDi;rw [decide_eq_true h1,Bool.true_or]] at hR
  refine rn6 ?_
  refine zZ kQ ?_
  refine zj (fuel:=0) [0,1,2,3,4,5,6,7,8,9,10,11,12,13,14,15,16,17,18,19,20,21,22,23,24] [(2,.ptr 0 0 0),(1,.rp (.box [.ro (zA9 m) 0 m.length]) 0 0)] ⟨Z,Z,trivial⟩ kQ kV Z Z ?_
  refine zK Z Z (zAw Z Z Z Z (by first|(simp only [Nat.zero_add,Int.toNat_natCast];exact Z)|exact Z) kK) ?_
  refine zK Z Z (zY Z Z Z Z Z) ?_
  refine zK Z Z (zDS Z Z) ?_
  rw [decide_eq_true h1]
  refine zK Z Z (zH Z) ?_
  refine zAO Z Z Z Z Z ?_
  refine zAO Z Z Z Z Z ?_
  refine zAO Z Z Z Z Z ?_
  refine zAO Z Z Z Z Z ?_
  refine zAO Z Z Z Z Z ?_
  refine zK Z Z (zAj Z Z) ?_
  refine zK Z Z (zH Z) ?_
  refine zAO Z Z Z Z Z ?_
  refine zAO Z Z Z Z Z ?_
  refine zAO Z Z Z Z Z ?_
  refine zK Z Z (zAj Z Z) ?_
  refine zK Z Z (zH Z) ?_
  refine zAO Z Z Z Z Z ?_
  refine zAO Z Z Z Z Z ?_
  refine zAO Z Z Z Z Z ?_
  refine zAO Z Z Z Z Z ?_
  refine zAO Z Z Z Z Z ?_
  refine zAO Z Z Z Z Z ?_
  refine zAO Z Z Z Z Z ?_
  refine zK Z Z (zAj Z Z) ?_
  refine zK Z Z (zf Z) ?_
  refine zz ?_
  refine zT kQ (rn0 ?_)
  exact zM hR Z Z
 by_cases h2:(m.length:Int)≤x.1
 ·rw [show zDi m x=true by unfold zDi;rw [decide_eq_true h2,Bool.true_or,Bool.or_true]] at hR
  refine rn6 ?_
  refine zZ kQ ?_
  refine zj (fuel:=0) [0,1,2,3,4,5,6,7,8,9,10,11,12,13,14,15,16,17,18,19,20,21,22,23,24] [(2,.ptr 0 0 0),(1,.rp (.box [.ro (zA9 m) 0 m.length]) 0 0)] ⟨Z,Z,trivial⟩ kQ kV Z Z ?_
  refine zK Z Z (zAw Z Z Z Z (by first|(simp only [Nat.zero_add,Int.toNat_natCast];exact Z)|exact Z) kK) ?_
  refine zK Z Z (zY Z Z Z Z Z) ?_
  refine zK Z Z (zDS Z Z) ?_
  rw [decide_eq_false h1]
  refine zK Z Z (zH Z) ?_
  refine zAH Z Z Z Z (zAw Z Z Z Z (by first|(simp only [Nat.zero_add,Int.toNat_natCast];exact Z)|exact Z) kK) ?_
  refine zAH Z Z Z Z (zY Z Z Z Z Z) ?_
  refine zAH Z Z Z Z (zCX Z Z Z Z) ?_
  refine zAH Z Z Z Z (zBh Z Z Z) ?_
  refine zAH Z Z Z Z (zHL Z Z) ?_
  rw [decide_eq_true h2]
  refine zK Z Z (zAj Z Z) ?_
  refine zK Z Z (zH Z) ?_
  refine zAO Z Z Z Z Z ?_
  refine zAO Z Z Z Z Z ?_
  refine zAO Z Z Z Z Z ?_
  refine zK Z Z (zAj Z Z) ?_
  refine zK Z Z (zH Z) ?_
  refine zAO Z Z Z Z Z ?_
  refine zAO Z Z Z Z Z ?_
  refine zAO Z Z Z Z Z ?_
  refine zAO Z Z Z Z Z ?_
  refine zAO Z Z Z Z Z ?_
  refine zAO Z Z Z Z Z ?_
  refine zAO Z Z Z Z Z ?_
  refine zK Z Z (zAj Z Z) ?_
  refine zK Z Z (zf Z) ?_
  refine zz ?_
  refine zT kQ (rn0 ?_)
  exact zM hR Z Z
 by_cases h3:x.2<0
 ·rw [show zDi m x=true by unfold zDi;rw [decide_eq_true h3,Bool.true_or,Bool.or_true,Bool.or_true]] at hR
  refine rn6 ?_
  refine zZ kQ ?_
  refine zj (fuel:=0) [0,1,2,3,4,5,6,7,8,9,10,11,12,13,14,15,16,17,18,19,20,21,22,23,24] [(2,.ptr 0 0 0),(1,.rp (.box [.ro (zA9 m) 0 m.length]) 0 0)] ⟨Z,Z,trivial⟩ kQ kV Z Z ?_
  refine zK Z Z (zAw Z Z Z Z (by first|(simp only [Nat.zero_add,Int.toNat_natCast];exact Z)|exact Z) kK) ?_
  refine zK Z Z (zY Z Z Z Z Z) ?_
  refine zK Z Z (zDS Z Z) ?_
  rw [decide_eq_false h1]
  refine zK Z Z (zH Z) ?_
  refine zAH Z Z Z Z (zAw Z Z Z Z (by first|(simp only [Nat.zero_add,Int.toNat_natCast];exact Z)|exact Z) kK) ?_
  refine zAH Z Z Z Z (zY Z Z Z Z Z) ?_
  refine zAH Z Z Z Z (zCX Z Z Z Z) ?_
  refine zAH Z Z Z Z (zBh Z Z Z) ?_
  refine zAH Z Z Z Z (zHL Z Z) ?_
  rw [decide_eq_false h2]
  refine zK Z Z (zAj Z Z) ?_
  refine zK Z Z (zH Z) ?_
  refine zAH Z Z Z Z (zAw Z Z Z Z (by first|(simp only [Nat.zero_add,Int.toNat_natCast];exact Z)|exact Z) kK) ?_
  refine zAH Z Z Z Z (zY Z Z Z Z Z) ?_
  refine zAH Z Z Z Z (zDS Z Z) ?_
  rw [decide_eq_true h3]
  refine zK Z Z (zAj Z Z) ?_
  refine zK Z Z (zH Z) ?_
  refine zAO Z Z Z Z Z ?_
  refine zAO Z Z Z Z Z ?_
  refine zAO Z Z Z Z Z ?_
  refine zAO Z Z Z Z Z ?_
  refine zAO Z Z Z Z Z ?_
  refine zAO Z Z Z Z Z ?_
  refine zAO Z Z Z Z Z ?_
  refine zK Z Z (zAj Z Z) ?_
  refine zK Z Z (zf Z) ?_
  refine zz ?_
  refine zT kQ (rn0 ?_)
  exact zM hR Z Z
 ·rw [show zDi m x=decide ((zS m:Int)≤x.2) by unfold zDi;rw [decide_eq_false h1,decide_eq_false h2,decide_eq_false h3,Bool.false_or,Bool.false_or,Bool.false_or]] at hR
  refine rn6 ?_
  refine zZ kQ ?_
  refine zj (fuel:=0) [0,1,2,3,4,5,6,7,8,9,10,11,12,13,14,15,16,17,18,19,20,21,22,23,24] [(2,.ptr 0 0 0),(1,.rp (.box [.ro (zA9 m) 0 m.length]) 0 0)] ⟨Z,Z,trivial⟩ kQ kV Z Z ?_
  refine zK Z Z (zAw Z Z Z Z (by first|(simp only [Nat.zero_add,Int.toNat_natCast];exact Z)|exact Z) kK) ?_
  refine zK Z Z (zY Z Z Z Z Z) ?_
  refine zK Z Z (zDS Z Z) ?_
  rw [decide_eq_false h1]
  refine zK Z Z (zH Z) ?_
  refine zAH Z Z Z Z (zAw Z Z Z Z (by first|(simp only [Nat.zero_add,Int.toNat_natCast];exact Z)|exact Z) kK) ?_
  refine zAH Z Z Z Z (zY Z Z Z Z Z) ?_
  refine zAH Z Z Z Z (zCX Z Z Z Z) ?_
  refine zAH Z Z Z Z (zBh Z Z Z) ?_
  refine zAH Z Z Z Z (zHL Z Z) ?_
  rw [decide_eq_false h2]
  refine zK Z Z (zAj Z Z) ?_
  refine zK Z Z (zH Z) ?_
  refine zAH Z Z Z Z (zAw Z Z Z Z (by first|(simp only [Nat.zero_add,Int.toNat_natCast];exact Z)|exact Z) kK) ?_
  refine zAH Z Z Z Z (zY Z Z Z Z Z) ?_
  refine zAH Z Z Z Z (zDS Z Z) ?_
  rw [decide_eq_false h3]
  refine zK Z Z (zAj Z Z) ?_
  refine zK Z Z (zH Z) ?_
  refine zAH Z Z Z Z (zAw Z Z Z Z (by first|(simp only [Nat.zero_add,Int.toNat_natCast];exact Z)|exact Z) kK) ?_
  refine zAH Z Z Z Z (zY Z Z Z Z Z) ?_
  refine zAH Z Z Z Z (zCX Z Z Z Z) ?_
  refine zAH Z Z Z Z (zc Z Z Z Z (by first|(simp only [Nat.zero_add,Int.toNat_natCast,Int.toNat_zero];exact Z)|exact Z) kK) ?_
  refine zAH Z Z Z Z (zBp Z Z Z Z) ?_
  refine zAH Z Z Z Z (zBh Z Z Z) ?_
  refine zAH Z Z Z Z (zHL Z Z) ?_
  refine zK Z Z (zAj Z Z) ?_
  refine zK Z Z (zf Z) ?_
  refine zz ?_
  refine zT kQ (rn0 ?_)
  exact zM hR Z Z
theorem boxM1 (m:List (List zAA)):zAY (.box [.ro (zA9 m) 0 m.length]):=by
 intro i j _ hj
 obtain rfl:j=0:=by have hj:j<1:=hj;omega
 rfl
theorem zKi (m:List (List zAA))(l:zB1)(hll:l.length≤9223372036854775807)(hlen:m.length≤9223372036854775807)(hr: ∀r∈m,r.length≤9223372036854775807∧ ∀s∈r,s.length≤9223372036854775807):zX Tryz.prog 59 [.ro (zA9 m) 0 m.length,.ro (zx l) 0 l.length] (.int .i64 (zDE m l)):=by
 have cm:=zFx m hlen hr
 refine zU.value0 (zF (P:=Tryz.prog) (fn:=Tryz.f59) Z Z kQ Z (fun c hR hfix=> ?_)) (fix:=fun _=>False) (fun _ h=>h) Z Z
 refine rn6 ?_
 refine zA Z Z Z cm (rn3 ?_)
 refine zB Z (fun h1=> ?_) (fun h1=> ?_)
 ·have e:zDE m l=zBW m:=by unfold zDE;rw [if_pos h1]
  rw [e] at hR
  refine rn2 ?_
  exact zM hR Z Z
 have h1':=Classical.not_not.1 h1
 obtain ⟨g1,g2,g3,g4,g5⟩:=zB3 h1'
 refine rn6 ?_
 refine zB Z (fun h2=> ?_) (fun h2=> ?_)
 ·have e:zDE m l=2:=by unfold zDE;rw [if_neg h1,if_pos kK]
  rw [e] at hR
  refine rn2 ?_
  exact zM hR Z Z
 have hc:=zRx l 144 [.rp (.box [.ro (zA9 m) 0 m.length]) 0 0] (zDi m) rfl hll (fun x _=>out1_ok m x g5 g3 hlen (fun r h=>(hr r h).1))
 refine rn12 ?_
 refine zFa rfl rfl rfl rfl hc (zJb (o1:=⟨23,.box [.ro (zA9 m) 0 m.length]⟩) (boxM1 _)) ⟨trivial,⟨fun o ho=>by simp at ho;subst ho;exact Nat.zero_lt_one,trivial⟩,trivial⟩ rfl rfl rfl (rn0 ?_)
 refine zD7 Z (fun h3=> ?_) (fun h3=> ?_)
 ·have e:zDE m l=4:=by unfold zDE;rw [if_neg h1,if_neg kK,if_pos h3]
  rw [e] at hR
  refine rn2 ?_
  exact zM hR Z Z
 ·have e:zDE m l=0:=by unfold zDE;rw [if_neg h1,if_neg kK,if_neg (by rw [h3];decide)]
  rw [e] at hR
  refine rn1 ?_
  exact zM hR Z Z
theorem inF_ok (l:List (List UInt8))(hlen:l.length≤1000000)(hs: ∀s∈l,s.length≤9223372036854775807∧zDH s=0):zNw Tryz.prog 116 [.ro (.strs l) 0 l.length] (fun h=> .sl h 0 l.length) ⟨118,qsC (l.map zAG)⟩:=by
 refine zU.fresh (K:=fun r H=>r= .sl 0 0 l.length∧H=[some ⟨118,qsC (l.map zAG)⟩]) (zF (P:=Tryz.prog) (fn:=Tryz.f116) Z Z kQ Z (fun c hR hfix=> ?_)) (fix:=fun _=>False) (fun _ h=>h) Z (fun H=>⟨Z,by simp [zJO,inB]⟩) ?_
 ·refine rn8 ?_
  refine zAg 3 ⟨118,qsC []⟩ Z Z ?_
  repeat (refine zAJ ?_)
  refine zb (ι:=Nat) (fun k=>[(0,.ro (.strs l) 0 l.length),(3,.sl 0 0 k),(6,.ro (.strs l) 0 l.length),(7,iN l.length),(8,iN k)]) (fun k=>[some ⟨118,qsC ((l.take k).map zAG)⟩])
   (fun k=>k≤l.length) (fun k=>l.length-k) 0 ⟨⟨rfl,rfl,rfl,rfl,rfl,trivial⟩,rfl,Nat.zero_le _⟩ ?_
  intro k hk
  refine rn4 ?_
  refine zB Z (fun h=> ?_) (fun h=> ?_)
  ·have hk':k<l.length:=kK
   obtain ⟨b1,b2⟩:=hs _ (z6 [] hk')
   have hc:=zEt (l.getD k []) b1 b2
   have htk:=zBG zAG l [] k hk'
   have hml:((l.take k).map zAG).length=k:=by rw [List.length_map,List.length_take];omega
   generalize (l.take k).map zAG=qs at*
   refine rn9 ?_
   refine zA Z Z Z hc ?_
   unfold qA
   repeat (refine ze rfl rfl rfl rfl rfl rfl rfl rfl rfl rfl rfl ?_)
   refine zq Z Z Z Z Z Z Z Z Z hml Z Z (by show 0+1≤1;omega) Z (by show (k+1)*56≤_∧_;omega) ?_ (by rw [hfix];exact fun h=>h) ?_
   ·intro i' j hi hj
    exact zAM 0 3 zJ zu qs (zAG (l.getD k [])) _ (zBi _) 0 i' j hi hj
   refine zCS ?_
   refine zG ?_
   refine zAI [some ⟨118,qsC ((l.take (k+1)).map zAG)⟩] ?_ ?_
   ·rw [htk]
    exact zP.eqv (zAV 0 3 zJ qs (zAG (l.getD k [])) _ (zBi _)) zP.nil
   refine rn3 ?_
   exact zI ⟨k+1,kK,kK,⟨Z,Z,Z,Z,Z,trivial⟩,Z⟩
  ·have hk':k=l.length:=kK
   subst hk'
   rw [List.take_length]
   refine rn5 ?_
   exact zM hR Z ⟨Z,Z⟩
 ·rintro r H ⟨rfl,rfl⟩
  refine ⟨?_,fun h o ho=>zJb (zAT _) h o ho,0,Z,fun n=>rfl⟩
  intro o ho;simp at ho;subst ho
  show 0+l.length≤(l.map zAG).length
  rw [List.length_map,Nat.zero_add];exact Nat.le_refl _
theorem zIw (zs:List Rat)(k:Nat)(q:Rat)(hk:k<zs.length)(i' j':Nat)(hi':i'<zs.length)(hj':j'<3):(qsC (zs.set k q)).at i' j'=if i'=k then (zJ q).getD j' .any else (qsC zs).at i' j':=by
 show (zJ ((zs.set k q).getD i' 0)).getD j' .any=if i'=k then (zJ q).getD j' .any else (zJ (zs.getD i' 0)).getD j' .any
 rw [Go.Ax.Dt.getD_set]
 by_cases h:i'=k
 ·rw [if_pos h,if_pos ⟨h,hk⟩]
 ·rw [if_neg h,if_neg (fun q=>h q.1)]
theorem sgn_lt {z:Int}:sgn z<0↔z<0:=by
 unfold sgn
 split
 ·rename_i h;simp;omega
 ·split
  ·rename_i h;simp;omega
  ·rename_i h1 h2;simp;omega
theorem match_ok (v:List zAA)(hlen:v.length≤9223372036854775807)(hs: ∀s∈v,s.length≤9223372036854775807):zX Tryz.prog 55 [.ro (.strs v) 0 v.length] (vecP (zGG v)):=by
 have cv:=vec_ok v hlen hs
 refine zU.value0 (zF (P:=Tryz.prog) (fn:=Tryz.f55) Z Z kQ Z (fun c hR hfix=> ?_)) (fix:=fun _=>False) (fun _ h=>h) Z Z
 refine rn4 ?_
 refine zB Z (fun h1=> ?_) (fun h1=> ?_)
 ·have e:zGG v=([],8):=by
   obtain rfl:v=[]:=List.length_eq_zero_iff.1 kK
   rfl
  rw [e] at hR
  refine rn7 ?_
  refine zv 2 (.ro (.strs []) 0 0) Z AEq.nil (rn2 ?_)
  exact zM hR Z Z
 have n1: ¬v=[]:=by rintro rfl;exact h1 rfl
 refine rn6 ?_
 refine zB Z (fun h2=> ?_) (fun h2=> ?_)
 ·have e:zGG v=([],2):=by unfold zGG;rw [if_neg n1,if_pos kK]
  rw [e] at hR
  refine rn7 ?_
  refine zv 2 (.ro (.strs []) 0 0) Z AEq.nil (rn2 ?_)
  exact zM hR Z Z
 have hv12:v.length≤12:=kK
 refine rn1 ?_
 refine zA Z Z Z cv (rn3 ?_)
 refine zB Z (fun h3=> ?_) (fun h3=> ?_)
 ·have e:zGG v=([],vecE v):=by unfold zGG;rw [if_neg n1,if_neg kK,if_pos h3]
  rw [e] at hR
  refine rn7 ?_
  refine zv 2 (.ro (.strs []) 0 0) Z AEq.nil (rn2 ?_)
  exact zM hR Z Z
 have h3':=Classical.not_not.1 h3
 have e:zGG v=zBC (zNc (v.map zAG)):=by unfold zGG;rw [if_neg n1,if_neg kK,if_neg h3]
 rw [e] at hR
 have hok:=zD5 (zKF h3').2
 have nv:=inF_ok v kK (fun s h=>⟨hs s h,hok s h⟩)
 have dv: ∀q∈v.map zAG,D 2000 q:=zRf hok
 have hxl:(v.map zAG).length=v.length:=List.length_map _
 generalize v.map zAG=x at*
 have hx0:0<x.length:=by
  rw [hxl];exact Nat.pos_of_ne_zero (fun q=>n1 (List.length_eq_zero_iff.1 q))
 rw [←hxl] at hv12 nv
 refine rn1 ?_
 refine zEk Z Z Z (by rw [←hxl];exact nv) (rn0 ?_)
 refine zA Z Z Z zEE ?_
 repeat (refine zA7 rfl rfl rfl ?_)
 refine sa1 (c':= .box (zJ 0)) Z Z Z Z Z Z Z (rn3 ?_)
 have hD1: ∀k,k≤x.length→D (1+x.length*2001) (zDA 0 ((x.take k).map zCr)):=by
  intro k hk
  have hz:D 1 (0:Rat):=⟨kV,kV⟩
  refine (zRb (k:=2000) (l:=(x.take k).map zCr) (fun q hq=> ?_) hz).mono ?_
  ·obtain ⟨y,hy,rfl⟩:=List.mem_map.1 hq
   exact posQ_D (dv y (List.mem_of_mem_take hy)) kV
  ·rw [List.length_map,List.length_take]
   have:min k x.length≤x.length:=Nat.min_le_right _ _
   have:=Nat.mul_le_mul_right 2001 this
   omega
 refine zb (ι:=Nat) (fun k=>[(5,.sl 0 0 x.length),(6,.ptr 1 0 0),(25,.sl 0 0 x.length),(26,iN x.length),(27,iN k)]) (fun k=>[some ⟨118,qsC (zB6 zCr x k)⟩,some ⟨118,.box (zJ (zDA 0 ((x.take k).map zCr)))⟩])
  (fun k=>k≤x.length) (fun k=>x.length-k) 0 ⟨⟨rfl,rfl,rfl,rfl,rfl,trivial⟩,by rw [zFS];rfl,Nat.zero_le _⟩ ?_
 intro k hk
 refine rn4 ?_
 refine zB Z (fun h=> ?_) (fun h=> ?_)
 ·have hk':k<x.length:=kK
  have hq:=dv _ (z6 0 hk')
  have hset:=zFi zCr x 0 hk'
  have hsame:=zSS zCr x 0 hk'
  have hget:=zHi zCr x 0 hk'
  have hml:=zGi zCr x k
  have hsn:zDA 0 ((x.take (k+1)).map zCr)=zDA 0 ((x.take k).map zCr)+zCr (x.getD k 0):=by rw [zIb zCr x 0 k hk',zIN]
  have hDa:=hD1 k hk
  have hb:1+x.length*2001≤25000:=kK
  generalize zB6 zCr x k=zs at*
  generalize zDA 0 ((x.take k).map zCr)=acc at*
  generalize x.getD k 0=q at*
  have hkz:k<zs.length:=kK
  have hp:zCr q=if q.num<0 then 0 else q:=rfl
  refine rn6 ?_
  refine zE 31 (.agg (zJ q)) Z (AEq.of_eq (by rw [←hget];rfl)) ?_
  refine sa1 (c':= .box (zJ q)) Z Z Z Z Z Z Z (rn6 ?_)
  refine zA Z Z Z (zHp q) (rn4 ?_)
  refine zB Z (fun h1=> ?_) (fun h1=> ?_)
  ·have hneg:q.num<0:=sgn_lt.1 h1
   have hkz2:k<(zs.set k 0).length:=by simpa using hkz
   have hp0:zCr q=0:=by rw [hp,if_pos hneg]
   rw [hp0] at hset hsn
   have hnew:zB6 zCr x (k+1)=zs.set k 0:=hset.symm
   have hadd:zX Tryz.prog 132 [qA acc,qA ((zs.set k 0).getD k 0)] (qA (acc+0)):=by
    rw [Go.Ax.Dt.getD_set,if_pos ⟨rfl,hkz⟩]
    exact zFM acc 0 (zBj (hDa.mono kK)) (zBj (D.mono (j:=1) ⟨kV,kV⟩ kV))
   refine rn0 ?_
   refine zA Z Z Z zEE ?_
   repeat (refine zL (zAR rfl rfl rfl rfl rfl (by first|(simp only [Nat.zero_add,Int.toNat_natCast,Int.toNat_zero];exact rfl)|exact rfl) kK) ?_)
   unfold qA
   refine zt (c':=qsC (zs.set k 0)) Z Z Z Z Z hkz (by show (zs.set k 0).length=zs.length;simp) Z (fun i' j' hi' hj'=>zIw zs k 0 hkz i' j' hi' hj') (rn0 ?_)
   refine zZ kQ ?_
   refine zj (fuel:=1) [0,1,2,3,4,5] [(5,.sl 0 0 x.length),(6,.ptr 1 0 0),(7,iN k),(25,.sl 0 0 x.length),(26,iN x.length),(27,iN k)] ⟨Z,Z,Z,Z,Z,Z,trivial⟩ kQ kV Z Z ?_
   refine zK Z Z (qpp Z Z Z Z Z Z Z) ?_
   refine zK Z Z (zH Z) ?_
   refine zK Z Z (zH Z) ?_
   refine zK Z Z (zAR Z Z Z Z Z (by first|(simp only [Nat.zero_add,Int.toNat_natCast,Int.toNat_zero];exact Z)|exact Z) kK) ?_
   refine zK Z Z (qpp Z Z Z Z Z Z Z) ?_
   refine zAy Z Z Z Z Z hadd ?_
   refine zz ?_
   refine zD (is:=[6]) kQ kJ Z ⟨fun o ho=> ?_,trivial⟩
   all_goals (cases ho)
   skip
   unfold qA
   refine sa1 (c':= .box (zJ (acc+0))) Z Z Z Z Z Z Z (rn1 ?_)
   refine zT kQ ?_
   repeat (refine zAP ?_)
   refine zG ?_
   refine zAI ([some ⟨118,qsC (zB6 zCr x (k+1))⟩,some ⟨118,.box (zJ (acc+0))⟩]++[none]) ?_ ?_
   ·rw [hnew]
    exact zP.eqv (CEq.refl _) (zP.eqv (CEq.refl _) (zP.drop zP.nil))
   refine zA2 (H1:=[some ⟨118,qsC (zB6 zCr x (k+1))⟩,some ⟨118,.box (zJ (acc+0))⟩]) Z (by rw [hfix];exact fun h=>h) ?_
   refine zAI [some ⟨118,qsC (zB6 zCr x (k+1))⟩,some ⟨118,.box (zJ (zDA 0 ((x.take (k+1)).map zCr)))⟩] ?_ ?_
   ·rw [hsn]
    exact zP.eqv ⟨Z,Z,fun i j _ hj=>(zu _ j _ hj).symm⟩ (zP.eqv ⟨Z,Z,fun i j _ hj=>rfl⟩ zP.nil)
   refine rn3 ?_
   exact zI ⟨k+1,kK,kK,⟨Z,Z,Z,Z,Z,trivial⟩,Z⟩
  ·have hneg: ¬q.num<0:=fun e=>h1 (sgn_lt.2 e)
   have hp0:zCr q=q:=by rw [hp,if_neg hneg]
   have hnew:zB6 zCr x (k+1)=zs:=(hsame hp0).symm
   rw [hp0] at hsn
   have hadd:zX Tryz.prog 132 [qA acc,qA (zs.getD k 0)] (qA (acc+q)):=by
    rw [hget]
    exact zFM acc q (zBj (hDa.mono kK)) (zBj (hq.mono kK))
   refine rn1 ?_
   refine zZ kQ ?_
   refine zj (fuel:=1) [0,1,2,3,4,5] [(5,.sl 0 0 x.length),(6,.ptr 1 0 0),(7,iN k),(25,.sl 0 0 x.length),(26,iN x.length),(27,iN k)] ⟨Z,Z,Z,Z,Z,Z,trivial⟩ kQ kV Z Z ?_
   refine zK Z Z (qpp Z Z Z Z Z Z Z) ?_
   refine zK Z Z (zH Z) ?_
   refine zK Z Z (zH Z) ?_
   refine zK Z Z (zAR Z Z Z Z Z (by first|(simp only [Nat.zero_add,Int.toNat_natCast,Int.toNat_zero];exact Z)|exact Z) kK) ?_
   refine zK Z Z (qpp Z Z Z Z Z Z Z) ?_
   refine zAy Z Z Z Z Z hadd ?_
   refine zz ?_
   refine zD (is:=[6]) kQ kJ Z ⟨fun o ho=> ?_,trivial⟩
   all_goals (cases ho)
   skip
   unfold qA
   refine sa1 (c':= .box (zJ (acc+q))) Z Z Z Z Z Z Z (rn1 ?_)
   refine zT kQ ?_
   repeat (refine zAP ?_)
   refine zG ?_
   refine zAI ([some ⟨118,qsC (zB6 zCr x (k+1))⟩,some ⟨118,.box (zJ (acc+q))⟩]++[none]) ?_ ?_
   ·rw [hnew]
    exact zP.eqv (CEq.refl _) (zP.eqv (CEq.refl _) (zP.drop zP.nil))
   refine zA2 (H1:=[some ⟨118,qsC (zB6 zCr x (k+1))⟩,some ⟨118,.box (zJ (acc+q))⟩]) Z (by rw [hfix];exact fun h=>h) ?_
   refine zAI [some ⟨118,qsC (zB6 zCr x (k+1))⟩,some ⟨118,.box (zJ (zDA 0 ((x.take (k+1)).map zCr)))⟩] ?_ ?_
   ·rw [hsn]
    exact zP.eqv ⟨Z,Z,fun i j _ hj=>(zu _ j _ hj).symm⟩ (zP.eqv ⟨Z,Z,fun i j _ hj=>rfl⟩ zP.nil)
   refine rn3 ?_
   exact zI ⟨k+1,kK,kK,⟨Z,Z,Z,Z,Z,trivial⟩,Z⟩
 ·have hke:k=x.length:=kK
  subst hke
  rw [zHh,List.take_length]
  have hDs:=hD1 _ (Nat.le_refl x.length)
  rw [List.take_length] at hDs
  have hyl:(x.map zCr).length=x.length:=List.length_map _
  have hyD: ∀q∈x.map zCr,D 2000 q:=fun q hq=>by
   obtain ⟨y,hy,rfl⟩:=List.mem_map.1 hq
   exact posQ_D (dv y hy) kV
  have hb:1+x.length*2001≤25000:=kK
  have hmm:zNc x=(x.map zCr).map (fun q=>if zDA 0 (x.map zCr)=0 then Rat.divInt 1 x.length else q/zDA 0 (x.map zCr)):=by
   unfold zNc
   split
   ·refine List.map_congr_left (fun q _=> ?_);rfl
   ·refine List.map_congr_left (fun q _=> ?_);rfl
  rw [hmm] at hR
  generalize x.map zCr=y at*
  generalize zDA 0 y=S at*
  have hgq: ∃gq:Rat→Rat,gq=(fun q=>if S=0 then Rat.divInt 1 x.length else q/S):=⟨_,rfl⟩
  obtain ⟨gq,hgq⟩:=hgq
  rw [←hgq] at hR
  have hSS:=zHp S
  have hSz:=zBj (m:=2778) (hDs.mono kK)
  refine rn5 ?_
  refine zb (ι:=Nat) (fun k=>[(5,.sl 0 0 x.length),(6,.ptr 1 0 0),(46,.sl 0 0 x.length),(47,iN x.length),(48,iN k)]) (fun k=>[some ⟨118,qsC (zB6 gq y k)⟩,some ⟨118,.box (zJ S)⟩])
   (fun k=>k≤y.length) (fun k=>y.length-k) 0 ⟨⟨rfl,rfl,rfl,rfl,rfl,trivial⟩,by rw [zFS],Nat.zero_le _⟩ ?_
  intro k hk
  refine rn4 ?_
  refine zB Z (fun h=> ?_) (fun h=> ?_)
  ·have hk':k<y.length:=kK
   have hq:=hyD _ (z6 0 hk')
   have hset:=zFi gq y 0 hk'
   have hget:=zHi gq y 0 hk'
   have hml:=zGi gq y k
   generalize zB6 gq y k=zs at*
   generalize y.getD k 0=q at*
   have hkz:k<zs.length:=kK
   have hnew:zB6 gq y (k+1)=zs.set k (gq q):=hset.symm
   refine rn6 ?_
   refine zE 52 (.agg (zJ q)) Z (AEq.of_eq (by rw [←hget];rfl)) ?_
   refine sa1 (c':= .box (zJ q)) Z Z Z Z Z Z Z (rn6 ?_)
   refine zA Z Z Z hSS (rn4 ?_)
   refine zB Z (fun h4=> ?_) (fun h4=> ?_)
   ·have hS0:S=0:=zLg.1 h4
    have hv:gq q=Rat.divInt 1 x.length:=by rw [hgq];show (if S=0 then _ else _)=_;rw [if_pos hS0]
    rw [hv] at hnew
    have w1:=zH0 1 kV
    have w2:=zH0 (x.length:Nat) kK
    have f1:=zG0 1 (x.length:Nat) kK (Nat.le_trans (zAh (k:=1) (by have:Go.Ax.Bg.B^1=4294967296:=rfl;show 1<_;omega)) kV) (by rw [Int.natAbs_natCast];exact Nat.le_trans (zAh (k:=1) (by have:Go.Ax.Bg.B^1=4294967296:=rfl;omega)) kV)
    refine rn0 ?_
    refine zA Z Z Z w1 (rn3 ?_)
    refine zA Z Z Z w2 ?_
    skip
    refine zA Z Z Z f1 ?_
    repeat (refine zL (zAR rfl rfl rfl rfl rfl (by first|(simp only [Nat.zero_add,Int.toNat_natCast,Int.toNat_zero];exact rfl)|exact rfl) kK) ?_)
    unfold qA
    refine zt (c':=qsC (zs.set k (Rat.divInt 1 x.length))) Z Z Z Z Z hkz (by show (zs.set k ((Rat.divInt 1 x.length))).length=zs.length;simp) Z (fun i' j' hi' hj'=>zIw zs k (Rat.divInt 1 x.length) hkz i' j' hi' hj') ?_
    refine zCS ?_
    refine zG ?_
    refine zAI ([some ⟨118,qsC (zB6 gq y (k+1))⟩,some ⟨118,.box (zJ S)⟩]++[none]) ?_ ?_
    ·rw [hnew]
     exact zP.eqv (CEq.refl _) (zP.eqv (CEq.refl _) (zP.drop zP.nil))
    refine zA2 (H1:=[some ⟨118,qsC (zB6 gq y (k+1))⟩,some ⟨118,.box (zJ S)⟩]) Z (by rw [hfix];exact fun h=>h) ?_
    refine zAI [some ⟨118,qsC (zB6 gq y (k+1))⟩,some ⟨118,.box (zJ S)⟩] ?_ ?_
    ·exact zP.eqv ⟨Z,Z,fun i j _ hj=>(zu _ j _ hj).symm⟩ (zP.eqv ⟨Z,Z,fun i j _ hj=>rfl⟩ zP.nil)
    refine rn3 ?_
    exact zI ⟨k+1,kK,kK,⟨Z,Z,Z,Z,Z,trivial⟩,Z⟩
   ·have hS0: ¬S=0:=fun e=>h4 (zLg.2 e)
    have hv:gq q=q/S:=by rw [hgq];show (if S=0 then _ else _)=_;rw [if_neg hS0]
    rw [hv] at hnew
    have d1:=zJZ q S (zBj (hq.mono kK)) (zBj (hDs.mono kK)) hS0
    refine rn6 ?_
    refine zA Z Z Z d1 ?_
    repeat (refine zL (zAR rfl rfl rfl rfl rfl (by first|(simp only [Nat.zero_add,Int.toNat_natCast,Int.toNat_zero];exact rfl)|exact rfl) kK) ?_)
    unfold qA
    refine zt (c':=qsC (zs.set k (q/S))) Z Z Z Z Z hkz (by show (zs.set k ((q/S))).length=zs.length;simp) Z (fun i' j' hi' hj'=>zIw zs k (q/S) hkz i' j' hi' hj') ?_
    refine zCS ?_
    refine zG ?_
    refine zAI ([some ⟨118,qsC (zB6 gq y (k+1))⟩,some ⟨118,.box (zJ S)⟩]++[none]) ?_ ?_
    ·rw [hnew]
     exact zP.eqv (CEq.refl _) (zP.eqv (CEq.refl _) (zP.drop zP.nil))
    refine zA2 (H1:=[some ⟨118,qsC (zB6 gq y (k+1))⟩,some ⟨118,.box (zJ S)⟩]) Z (by rw [hfix];exact fun h=>h) ?_
    refine zAI [some ⟨118,qsC (zB6 gq y (k+1))⟩,some ⟨118,.box (zJ S)⟩] ?_ ?_
    ·exact zP.eqv ⟨Z,Z,fun i j _ hj=>(zu _ j _ hj).symm⟩ (zP.eqv ⟨Z,Z,fun i j _ hj=>rfl⟩ zP.nil)
    refine rn3 ?_
    exact zI ⟨k+1,kK,kK,⟨Z,Z,Z,Z,Z,trivial⟩,Z⟩
  ·have hke2:k=y.length:=kK
   subst hke2
   rw [zHh]
   have hrl:(y.map gq).length=y.length:=List.length_map _
   obtain ⟨r,hfin,hrq⟩:=zGj (y.map gq) kK (fun q hq=>by
    obtain ⟨z,hz,rfl⟩:=List.mem_map.1 hq
    rw [hgq]
    show Sz 100000 (if S=0 then _ else _)
    split
    ·refine zBj (m:=100000) ((zET (k:=2) kK kV (by rw [Int.natAbs_natCast];omega)).mono kK)
    ·rename_i hS0
     exact zBj (((hyD z hz).div hDs hS0).mono kK))
   generalize y.map gq=R at*
   refine zEW ?_
   refine zAC 0 5 x.length [] Z (zAT _) Z (by show _≤R.length;omega) trivial ?_
   refine zv 5 (.ro (qsC R) 0 R.length) Z (AEq.of_eq (by rw [hrl,hyl])) (rn0 ?_)
   refine zA Z Z Z hfin (rn9 ?_)
   refine zv 2 (.ro (.strs (zBC R).1) 0 (zBC R).1.length) Z hrq ?_
   repeat (refine zBQ ?_)
   exact zM hR Z Z
theorem zES (l:List Int)(hlen:l.length≤1000000)(hb: ∀z∈l,0≤z∧z≤1000000):zX Tryz.prog 193 [.ro (.ints .i64 l) 0 l.length] (.ro (qsC (l.map (fun z:Int=>(z:Rat)))) 0 l.length):=by
 refine zU.value0 (zF (P:=Tryz.prog) (fn:=Tryz.f193) Z Z kQ Z (fun c hR hfix=> ?_)) (fix:=fun _=>False) (fun _ h=>h) Z Z
 refine rn8 ?_
 refine zAg 3 ⟨118,qsC []⟩ Z Z ?_
 repeat (refine zAJ ?_)
 refine zb (ι:=Nat) (fun k=>[(0,.ro (.ints .i64 l) 0 l.length),(3,.sl 0 0 k),(6,.ro (.ints .i64 l) 0 l.length),(7,iN l.length),(8,iN k)]) (fun k=>[some ⟨118,qsC ((l.take k).map (fun z:Int=>(z:Rat)))⟩])
  (fun k=>k≤l.length) (fun k=>l.length-k) 0 ⟨⟨rfl,rfl,rfl,rfl,rfl,trivial⟩,rfl,Nat.zero_le _⟩ ?_
 intro k hk
 refine rn4 ?_
 refine zB Z (fun h=> ?_) (fun h=> ?_)
 ·have hk':k<l.length:=kK
  have hz:=hb _ (z6 0 hk')
  have hc:=zNm (l.getD k 0) kK
  have htk:=zBG (fun z:Int=>(z:Rat)) l 0 k hk'
  have hml:((l.take k).map (fun z:Int=>(z:Rat))).length=k:=by rw [List.length_map,List.length_take];omega
  generalize (l.take k).map (fun z:Int=>(z:Rat))=qs at*
  refine rn6 ?_
  refine zA Z Z Z hc ?_
  unfold qA
  repeat (refine ze rfl rfl rfl rfl rfl rfl rfl rfl rfl rfl rfl ?_)
  refine zq Z Z Z Z Z Z Z Z Z hml Z Z (by show 0+1≤1;omega) Z (by show (k+1)*56≤_∧_;omega) ?_ (by rw [hfix];exact fun h=>h) ?_
  ·intro i' j hi hj
   exact zAM 0 3 zJ zu qs ((l.getD k 0:Int):Rat) _ (zBi _) 0 i' j hi hj
  refine zCS ?_
  refine zG ?_
  refine zAI [some ⟨118,qsC ((l.take (k+1)).map (fun z:Int=>(z:Rat)))⟩] ?_ ?_
  ·rw [htk]
   exact zP.eqv (zAV 0 3 zJ qs ((l.getD k 0:Int):Rat) _ (zBi _)) zP.nil
  refine rn3 ?_
  exact zI ⟨k+1,kK,kK,⟨Z,Z,Z,Z,Z,trivial⟩,Z⟩
 ·have hk':k=l.length:=kK
  subst hk'
  rw [List.take_length]
  refine zEW ?_
  refine zAC 0 3 l.length [] Z (zAT _) Z (by show _≤(l.map _).length;rw [List.length_map];exact Nat.le_refl _) trivial (rn0 ?_)
  exact zM hR Z Z
theorem zMP (m:List (List zAA))(l:zB1)(hm:m.length≤12)(hm0:m≠[])(hw:zS m≤12)(hl:l.length≤200)(hin: ∀x∈l,0≤x.1∧x.1<m.length∧0≤x.2∧x.2<zS m):
 zX Tryz.prog 137 [.ro (zA9 m) 0 m.length,.ro (zx l) 0 l.length] (.tup [.ro (qsC (zFG Prod.fst l m.length)) 0 m.length,.ro (qsC (zFG Prod.snd l (zS m))) 0 (zS m)]):=by
 have hm1:0<m.length:=by cases m with|nil=>exact absurd rfl hm0|cons _ _=>exact Nat.succ_pos _
 refine zU.value0 (zF (P:=Tryz.prog) (fn:=Tryz.f137) Z Z kQ Z (fun c hR hfix=> ?_)) (fix:=fun _=>False) (fun _ h=>h) Z Z
 have hwd:(m.getD 0 []).length=zS m:=rfl
 have hwd:(m.getD 0 []).length=zS m:=rfl
 have hwd:(m.getD 0 []).length=zS m:=rfl
 have hwd:(m.getD 0 []).length=zS m:=rfl
 refine rn0 ?_
 refine zZ kQ ?_
 refine zR 0 Z kQ kQ kQ Z (zH Z) Z ?_
 refine zR 1 Z kQ kQ kQ Z (zBh Z Z Z) Z ?_
 refine zR 3 Z kQ kQ kQ Z (zH Z) Z ?_
 refine zR 4 Z kQ kQ kQ Z (zc Z Z Z Z (by first|(simp only [Nat.zero_add,Int.toNat_natCast,Int.toNat_zero];exact Z)|exact Z) kK) Z ?_
 refine zD (is:=[2,5]) kQ kJ Z ⟨fun o ho=> ?_,fun o ho=> ?_,trivial⟩
 all_goals (cases ho)
 ·skip
  refine zBv Z Z Z Z Z Z Z Z (by show (0:Int)≤_∧_≤_∧(8:Int)*_≤_∧_;omega) (rn1 ?_)
  refine zR 8 Z kQ kQ kQ Z (zf Z) Z ?_
  refine zD (is:=[5]) kQ kJ Z ⟨fun o ho=> ?_,trivial⟩
  all_goals (cases ho)
  refine rn6 ?_
  refine zR 6 Z kQ kQ kQ Z (zBh Z Z Z) Z ?_
  refine zD (is:=[7]) kQ kJ Z ⟨fun o ho=> ?_,trivial⟩
  all_goals (cases ho)
  skip
  refine zBv Z Z Z Z Z Z Z Z (by show (0:Int)≤_∧_≤_∧(8:Int)*_≤_∧_;omega) (rn1 ?_)
  refine zR 9 Z kQ kQ kQ Z (zf Z) Z ?_
  refine zT kQ (rn3 ?_)
  refine zb (ι:=Nat) (fun k=>[(6,.sl 0 0 m.length),(7,.sl 1 0 (zS m)),(19,.ro (zx l) 0 l.length),(20,iN l.length),(21,iN k)]) (fun k=>[some ⟨3,.ints .i64 (zBy Prod.fst (l.take k) m.length)⟩,some ⟨3,.ints .i64 (zBy Prod.snd (l.take k) (zS m))⟩])
   (fun k=>k≤l.length) (fun k=>l.length-k) 0 ⟨⟨rfl,rfl,rfl,rfl,rfl,trivial⟩,by rw [List.take_zero,zGT,zGT];rfl,Nat.zero_le _⟩ ?_
  intro k hk
  refine rn4 ?_
  refine zB Z (fun h=> ?_) (fun h=> ?_)
  ·have hk':k<l.length:=kK
   have hx:=hin _ (z6 (0,0) hk')
   have s1:=zGU Prod.fst l m.length k hk'
   have s2:=zGU Prod.snd l (zS m) k hk'
   have b1:=zDh Prod.fst (l.take k) m.length
   have b2:=zDh Prod.snd (l.take k) (zS m)
   have l1:=zA8 Prod.fst (l.take k) m.length
   have l2:=zA8 Prod.snd (l.take k) (zS m)
   have tl:(l.take k).length≤200:=by rw [List.length_take];omega
   generalize zBy Prod.fst (l.take k) m.length=A at*
   generalize zBy Prod.snd (l.take k) (zS m)=B at*
   generalize hxe:l.getD k (0,0)=x at*
   obtain ⟨x1,x2⟩:=x
   simp only at hx s1 s2
   obtain ⟨i,rfl⟩:=Int.eq_ofNat_of_zero_le hx.1
   obtain ⟨j,rfl⟩:=Int.eq_ofNat_of_zero_le hx.2.2.1
   have hi:i<A.length:=kK
   have hj:j<B.length:=kK
   have s1:=s1 i rfl kK
   have s2:=s2 j rfl kK
   have b1:=b1 _ (z6 0 hi)
   have b2:=b2 _ (z6 0 hj)
   refine rn6 ?_
   refine zE 24 (.agg (zCa ((i:Int),(j:Int)))) Z (AEq.of_eq (by rw [←hxe];rfl)) ?_
   refine sa1 (c':= .box (zCa ((i:Int),(j:Int)))) Z Z Z Z Z Z Z ?_
   repeat (refine zV ?_)
   refine zG ?_
   refine zCS ?_
   refine zG ?_
   refine zCS ?_
   refine zG ?_
   refine zAI ([some ⟨3,.ints .i64 (zBy Prod.fst (l.take (k+1)) m.length)⟩,some ⟨3,.ints .i64 (zBy Prod.snd (l.take (k+1)) (zS m))⟩]++[none]) ?_ ?_
   ·rw [←s1,←s2]
    exact zP.eqv (CEq.refl _) (zP.eqv (CEq.refl _) (zP.drop zP.nil))
   refine zA2 (H1:=[some ⟨3,.ints .i64 (zBy Prod.fst (l.take (k+1)) m.length)⟩,some ⟨3,.ints .i64 (zBy Prod.snd (l.take (k+1)) (zS m))⟩]) Z (by rw [hfix];exact fun h=>h) (rn3 ?_)
   exact zI ⟨k+1,kK,kK,⟨Z,Z,Z,Z,Z,trivial⟩,Z⟩
  ·have hke:k=l.length:=kK
   subst hke
   rw [List.take_length]
   have c1:=zES (zBy Prod.fst l m.length) (by rw [zA8];omega) (fun z hz=>by have:=zDh _ _ _ z hz;omega)
   have c2:=zES (zBy Prod.snd l (zS m)) (by rw [zA8];omega) (fun z hz=>by have:=zDh _ _ _ z hz;omega)
   rw [zJs,zA8] at c1 c2
   have l1:=zA8 Prod.fst l m.length
   have l2:=zA8 Prod.snd l (zS m)
   generalize zBy Prod.fst l m.length=A at*
   generalize zBy Prod.snd l (zS m)=B at*
   refine zEW ?_
   refine zAC 0 6 m.length [(7,.sl 1 0 (zS m))] Z zAZ Z (by show _≤A.length;omega) ⟨Z,trivial⟩ ?_
   refine zAC 1 7 (zS m) [(6,.ro (.ints .i64 A) 0 m.length)] Z zAZ Z (by show _≤B.length;omega) ⟨Z,trivial⟩ (rn0 ?_)
   refine zA Z Z Z c1 ?_
   repeat (refine zL (zH rfl) ?_)
   refine zA Z Z Z c2 (rn0 ?_)
   exact zM hR Z Z
 ·refine rn6 ?_
  refine zR 6 Z kQ kQ kQ Z (zBh Z Z Z) Z ?_
  refine zD (is:=[2,7]) kQ kJ Z ⟨fun o ho=> ?_,fun o ho=> ?_,trivial⟩
  all_goals (cases ho)
  ·skip
   refine zBv Z Z Z Z Z Z Z Z (by show (0:Int)≤_∧_≤_∧(8:Int)*_≤_∧_;omega) (rn1 ?_)
   refine zR 8 Z kQ kQ kQ Z (zf Z) Z ?_
   refine zD (is:=[7]) kQ kJ Z ⟨fun o ho=> ?_,trivial⟩
   all_goals (cases ho)
   skip
   refine zBv Z Z Z Z Z Z Z Z (by show (0:Int)≤_∧_≤_∧(8:Int)*_≤_∧_;omega) (rn1 ?_)
   refine zR 9 Z kQ kQ kQ Z (zf Z) Z ?_
   refine zT kQ (rn3 ?_)
   refine zb (ι:=Nat) (fun k=>[(6,.sl 0 0 m.length),(7,.sl 1 0 (zS m)),(19,.ro (zx l) 0 l.length),(20,iN l.length),(21,iN k)]) (fun k=>[some ⟨3,.ints .i64 (zBy Prod.fst (l.take k) m.length)⟩,some ⟨3,.ints .i64 (zBy Prod.snd (l.take k) (zS m))⟩])
    (fun k=>k≤l.length) (fun k=>l.length-k) 0 ⟨⟨rfl,rfl,rfl,rfl,rfl,trivial⟩,by rw [List.take_zero,zGT,zGT];rfl,Nat.zero_le _⟩ ?_
   intro k hk
   refine rn4 ?_
   refine zB Z (fun h=> ?_) (fun h=> ?_)
   ·have hk':k<l.length:=kK
    have hx:=hin _ (z6 (0,0) hk')
    have s1:=zGU Prod.fst l m.length k hk'
    have s2:=zGU Prod.snd l (zS m) k hk'
    have b1:=zDh Prod.fst (l.take k) m.length
    have b2:=zDh Prod.snd (l.take k) (zS m)
    have l1:=zA8 Prod.fst (l.take k) m.length
    have l2:=zA8 Prod.snd (l.take k) (zS m)
    have tl:(l.take k).length≤200:=by rw [List.length_take];omega
    generalize zBy Prod.fst (l.take k) m.length=A at*
    generalize zBy Prod.snd (l.take k) (zS m)=B at*
    generalize hxe:l.getD k (0,0)=x at*
    obtain ⟨x1,x2⟩:=x
    simp only at hx s1 s2
    obtain ⟨i,rfl⟩:=Int.eq_ofNat_of_zero_le hx.1
    obtain ⟨j,rfl⟩:=Int.eq_ofNat_of_zero_le hx.2.2.1
    have hi:i<A.length:=kK
    have hj:j<B.length:=kK
    have s1:=s1 i rfl kK
    have s2:=s2 j rfl kK
    have b1:=b1 _ (z6 0 hi)
    have b2:=b2 _ (z6 0 hj)
    refine rn6 ?_
    refine zE 24 (.agg (zCa ((i:Int),(j:Int)))) Z (AEq.of_eq (by rw [←hxe];rfl)) ?_
    refine sa1 (c':= .box (zCa ((i:Int),(j:Int)))) Z Z Z Z Z Z Z ?_
    repeat (refine zV ?_)
    refine zG ?_
    refine zCS ?_
    refine zG ?_
    refine zCS ?_
    refine zG ?_
    refine zAI ([some ⟨3,.ints .i64 (zBy Prod.fst (l.take (k+1)) m.length)⟩,some ⟨3,.ints .i64 (zBy Prod.snd (l.take (k+1)) (zS m))⟩]++[none]) ?_ ?_
    ·rw [←s1,←s2]
     exact zP.eqv (CEq.refl _) (zP.eqv (CEq.refl _) (zP.drop zP.nil))
    refine zA2 (H1:=[some ⟨3,.ints .i64 (zBy Prod.fst (l.take (k+1)) m.length)⟩,some ⟨3,.ints .i64 (zBy Prod.snd (l.take (k+1)) (zS m))⟩]) Z (by rw [hfix];exact fun h=>h) (rn3 ?_)
    exact zI ⟨k+1,kK,kK,⟨Z,Z,Z,Z,Z,trivial⟩,Z⟩
   ·have hke:k=l.length:=kK
    subst hke
    rw [List.take_length]
    have c1:=zES (zBy Prod.fst l m.length) (by rw [zA8];omega) (fun z hz=>by have:=zDh _ _ _ z hz;omega)
    have c2:=zES (zBy Prod.snd l (zS m)) (by rw [zA8];omega) (fun z hz=>by have:=zDh _ _ _ z hz;omega)
    rw [zJs,zA8] at c1 c2
    have l1:=zA8 Prod.fst l m.length
    have l2:=zA8 Prod.snd l (zS m)
    generalize zBy Prod.fst l m.length=A at*
    generalize zBy Prod.snd l (zS m)=B at*
    refine zEW ?_
    refine zAC 0 6 m.length [(7,.sl 1 0 (zS m))] Z zAZ Z (by show _≤A.length;omega) ⟨Z,trivial⟩ ?_
    refine zAC 1 7 (zS m) [(6,.ro (.ints .i64 A) 0 m.length)] Z zAZ Z (by show _≤B.length;omega) ⟨Z,trivial⟩ (rn0 ?_)
    refine zA Z Z Z c1 ?_
    repeat (refine zL (zH rfl) ?_)
    refine zA Z Z Z c2 (rn0 ?_)
    exact zM hR Z Z
  ·skip
   refine zBv Z Z Z Z Z Z Z Z (by show (0:Int)≤_∧_≤_∧(8:Int)*_≤_∧_;omega) (rn1 ?_)
   refine zD (is:=[2]) kQ kJ Z ⟨fun o ho=> ?_,trivial⟩
   all_goals (cases ho)
   skip
   refine zBv Z Z Z Z Z Z Z Z (by show (0:Int)≤_∧_≤_∧(8:Int)*_≤_∧_;omega) (rn1 ?_)
   refine zR 8 Z kQ kQ kQ Z (zf Z) Z ?_
   refine zR 9 Z kQ kQ kQ Z (zf Z) Z ?_
   refine zT kQ (rn3 ?_)
   refine zb (ι:=Nat) (fun k=>[(6,.sl 1 0 m.length),(7,.sl 0 0 (zS m)),(19,.ro (zx l) 0 l.length),(20,iN l.length),(21,iN k)]) (fun k=>[some ⟨3,.ints .i64 (zBy Prod.snd (l.take k) (zS m))⟩,some ⟨3,.ints .i64 (zBy Prod.fst (l.take k) m.length)⟩])
    (fun k=>k≤l.length) (fun k=>l.length-k) 0 ⟨⟨rfl,rfl,rfl,rfl,rfl,trivial⟩,by rw [List.take_zero,zGT,zGT];rfl,Nat.zero_le _⟩ ?_
   intro k hk
   refine rn4 ?_
   refine zB Z (fun h=> ?_) (fun h=> ?_)
   ·have hk':k<l.length:=kK
    have hx:=hin _ (z6 (0,0) hk')
    have s1:=zGU Prod.fst l m.length k hk'
    have s2:=zGU Prod.snd l (zS m) k hk'
    have b1:=zDh Prod.fst (l.take k) m.length
    have b2:=zDh Prod.snd (l.take k) (zS m)
    have l1:=zA8 Prod.fst (l.take k) m.length
    have l2:=zA8 Prod.snd (l.take k) (zS m)
    have tl:(l.take k).length≤200:=by rw [List.length_take];omega
    generalize zBy Prod.fst (l.take k) m.length=A at*
    generalize zBy Prod.snd (l.take k) (zS m)=B at*
    generalize hxe:l.getD k (0,0)=x at*
    obtain ⟨x1,x2⟩:=x
    simp only at hx s1 s2
    obtain ⟨i,rfl⟩:=Int.eq_ofNat_of_zero_le hx.1
    obtain ⟨j,rfl⟩:=Int.eq_ofNat_of_zero_le hx.2.2.1
    have hi:i<A.length:=kK
    have hj:j<B.length:=kK
    have s1:=s1 i rfl kK
    have s2:=s2 j rfl kK
    have b1:=b1 _ (z6 0 hi)
    have b2:=b2 _ (z6 0 hj)
    refine rn6 ?_
    refine zE 24 (.agg (zCa ((i:Int),(j:Int)))) Z (AEq.of_eq (by rw [←hxe];rfl)) ?_
    refine sa1 (c':= .box (zCa ((i:Int),(j:Int)))) Z Z Z Z Z Z Z ?_
    repeat (refine zV ?_)
    refine zG ?_
    refine zCS ?_
    refine zG ?_
    refine zCS ?_
    refine zG ?_
    refine zAI ([some ⟨3,.ints .i64 (zBy Prod.snd (l.take (k+1)) (zS m))⟩,some ⟨3,.ints .i64 (zBy Prod.fst (l.take (k+1)) m.length)⟩]++[none]) ?_ ?_
    ·rw [←s1,←s2]
     exact zP.eqv (CEq.refl _) (zP.eqv (CEq.refl _) (zP.drop zP.nil))
    refine zA2 (H1:=[some ⟨3,.ints .i64 (zBy Prod.snd (l.take (k+1)) (zS m))⟩,some ⟨3,.ints .i64 (zBy Prod.fst (l.take (k+1)) m.length)⟩]) Z (by rw [hfix];exact fun h=>h) (rn3 ?_)
    exact zI ⟨k+1,kK,kK,⟨Z,Z,Z,Z,Z,trivial⟩,Z⟩
   ·have hke:k=l.length:=kK
    subst hke
    rw [List.take_length]
    have c1:=zES (zBy Prod.fst l m.length) (by rw [zA8];omega) (fun z hz=>by have:=zDh _ _ _ z hz;omega)
    have c2:=zES (zBy Prod.snd l (zS m)) (by rw [zA8];omega) (fun z hz=>by have:=zDh _ _ _ z hz;omega)
    rw [zJs,zA8] at c1 c2
    have l1:=zA8 Prod.fst l m.length
    have l2:=zA8 Prod.snd l (zS m)
    generalize zBy Prod.fst l m.length=A at*
    generalize zBy Prod.snd l (zS m)=B at*
    refine zEW ?_
    refine zAC 1 6 m.length [(7,.sl 0 0 (zS m))] Z zAZ Z (by show _≤A.length;omega) ⟨Z,trivial⟩ ?_
    refine zAC 0 7 (zS m) [(6,.ro (.ints .i64 A) 0 m.length)] Z zAZ Z (by show _≤B.length;omega) ⟨Z,trivial⟩ (rn0 ?_)
    refine zA Z Z Z c1 ?_
    repeat (refine zL (zH rfl) ?_)
    refine zA Z Z Z c2 (rn0 ?_)
    exact zM hR Z Z
theorem zQk (a b:Rat): -1≤zBl a b∧zBl a b≤1:=by
 unfold zBl
 split
 ·decide
 ·split
  ·decide
  ·decide
theorem zJa (x:List Rat)(sg:Int)(hsg:sg=1∨sg= -1)(hlen:x.length≤1000000)(hD: ∀q∈x,Sz 100000 q):zX Tryz.prog 69 [.ro (qsC x) 0 x.length,.int .i64 sg] (iN (zAz sg x x.length)):=by
 rcases hsg with rfl|rfl
 ·refine zU.value0 (zF (P:=Tryz.prog) (fn:=Tryz.f69) Z Z kQ Z (fun c hR hfix=> ?_)) (fix:=fun _=>False) (fun _ h=>h) Z Z
  refine rn3 ?_
  refine zb (ι:=Nat) (fun k=>[(0,.ro (qsC x) 0 x.length),(1,.int .i64 (1)),(5,iN (zAz (1) x k)),(8,.ro (qsC x) 0 x.length),(9,iN x.length),(10,iN k)]) (fun k=>[])
   (fun k=>k≤x.length) (fun k=>x.length-k) 0 ⟨⟨rfl,rfl,rfl,rfl,rfl,rfl,trivial⟩,rfl,Nat.zero_le _⟩ ?_
  intro k hk
  refine rn4 ?_
  refine zB Z (fun h=> ?_) (fun h=> ?_)
  ·have hk':k<x.length:=kK
   have hle:=zI9 (1) x k
   have hbl:zAz (1) x k<x.length:=kK
   have hc:=zEf (x.getD k 0) (x.getD (zAz (1) x k) 0) (hD _ (z6 0 hk')) (hD _ (z6 0 hbl))
   have hcb:=zQk (x.getD k 0) (x.getD (zAz (1) x k) 0)
   have hs:zAz (1) x (k+1)=if 0<zBl (x.getD k 0) (x.getD (zAz (1) x k) 0)*(1) then k else zAz (1) x k:=rfl
   generalize zAz (1) x k=b at*
   generalize zBl (x.getD k 0) (x.getD b 0)=z at*
   refine rn6 ?_
   refine zE 14 (.agg (zJ (x.getD k 0))) Z (AEq.of_eq Z) ?_
   refine sa1 (c':= .box (zJ (x.getD k 0))) Z Z Z Z Z Z Z (rn0 ?_)
   refine zZ kQ ?_
   refine zj (fuel:=0) [0,1,2,3,4,5,6,7,8] [(0,.ro (qsC x) 0 x.length),(1,.int .i64 (1)),(5,iN b),(7,.ptr 0 0 0),(6,iN k),(8,.ro (qsC x) 0 x.length),(9,iN x.length),(10,iN k)] ⟨Z,Z,Z,Z,Z,Z,Z,Z,trivial⟩ kQ kV Z Z ?_
   refine zK Z Z (qpp Z Z Z Z Z Z Z) ?_
   refine zK Z Z (zH Z) ?_
   refine zK Z Z (zH Z) ?_
   refine zK Z Z (zc Z Z Z Z (by first|(simp only [Nat.zero_add,Int.toNat_natCast,Int.toNat_zero];exact Z)|exact Z) kK) ?_
   refine zK Z Z (zAc Z Z Z Z Z Z) ?_
   refine zAy Z Z Z Z Z hc ?_
   refine zK Z Z (zH Z) ?_
   refine zK Z Z (q_mul Z Z kK) ?_
   refine zK Z Z (zJW Z Z) ?_
   refine zz ?_
   refine zT kQ ?_
   repeat (refine zG ?_)
   refine zB Z (fun h1=> ?_) (fun h1=> ?_)
   ·rw [if_pos h1] at hs
    refine zCS ?_
    refine zG ?_
    refine zAI [none] (zP.drop zP.nil) ?_
    refine zA2 (H1:=[]) Z (by rw [hfix];exact fun h=>h) (rn3 ?_)
    exact zI ⟨k+1,kK,kK,⟨Z,Z,by show some (AV.int _ _)=some _;rw [hs],Z,Z,Z,trivial⟩,Z⟩
   ·rw [if_neg h1] at hs
    refine zCS ?_
    refine zG ?_
    refine zAI [none] (zP.drop zP.nil) ?_
    refine zA2 (H1:=[]) Z (by rw [hfix];exact fun h=>h) (rn3 ?_)
    exact zI ⟨k+1,kK,kK,⟨Z,Z,by show some (AV.int _ _)=some _;rw [hs],Z,Z,Z,trivial⟩,Z⟩
  ·have hk':k=x.length:=kK
   subst hk'
   refine rn5 ?_
   exact zM hR Z Z
 ·refine zU.value0 (zF (P:=Tryz.prog) (fn:=Tryz.f69) Z Z kQ Z (fun c hR hfix=> ?_)) (fix:=fun _=>False) (fun _ h=>h) Z Z
  refine rn3 ?_
  refine zb (ι:=Nat) (fun k=>[(0,.ro (qsC x) 0 x.length),(1,.int .i64 (-1)),(5,iN (zAz (-1) x k)),(8,.ro (qsC x) 0 x.length),(9,iN x.length),(10,iN k)]) (fun k=>[])
   (fun k=>k≤x.length) (fun k=>x.length-k) 0 ⟨⟨rfl,rfl,rfl,rfl,rfl,rfl,trivial⟩,rfl,Nat.zero_le _⟩ ?_
  intro k hk
  refine rn4 ?_
  refine zB Z (fun h=> ?_) (fun h=> ?_)
  ·have hk':k<x.length:=kK
   have hle:=zI9 (-1) x k
   have hbl:zAz (-1) x k<x.length:=kK
   have hc:=zEf (x.getD k 0) (x.getD (zAz (-1) x k) 0) (hD _ (z6 0 hk')) (hD _ (z6 0 hbl))
   have hcb:=zQk (x.getD k 0) (x.getD (zAz (-1) x k) 0)
   have hs:zAz (-1) x (k+1)=if 0<zBl (x.getD k 0) (x.getD (zAz (-1) x k) 0)*(-1) then k else zAz (-1) x k:=rfl
   generalize zAz (-1) x k=b at*
   generalize zBl (x.getD k 0) (x.getD b 0)=z at*
   refine rn6 ?_
   refine zE 14 (.agg (zJ (x.getD k 0))) Z (AEq.of_eq Z) ?_
   refine sa1 (c':= .box (zJ (x.getD k 0))) Z Z Z Z Z Z Z (rn0 ?_)
   refine zZ kQ ?_
   refine zj (fuel:=0) [0,1,2,3,4,5,6,7,8] [(0,.ro (qsC x) 0 x.length),(1,.int .i64 (-1)),(5,iN b),(7,.ptr 0 0 0),(6,iN k),(8,.ro (qsC x) 0 x.length),(9,iN x.length),(10,iN k)] ⟨Z,Z,Z,Z,Z,Z,Z,Z,trivial⟩ kQ kV Z Z ?_
   refine zK Z Z (qpp Z Z Z Z Z Z Z) ?_
   refine zK Z Z (zH Z) ?_
   refine zK Z Z (zH Z) ?_
   refine zK Z Z (zc Z Z Z Z (by first|(simp only [Nat.zero_add,Int.toNat_natCast,Int.toNat_zero];exact Z)|exact Z) kK) ?_
   refine zK Z Z (zAc Z Z Z Z Z Z) ?_
   refine zAy Z Z Z Z Z hc ?_
   refine zK Z Z (zH Z) ?_
   refine zK Z Z (q_mul Z Z kK) ?_
   refine zK Z Z (zJW Z Z) ?_
   refine zz ?_
   refine zT kQ ?_
   repeat (refine zG ?_)
   refine zB Z (fun h1=> ?_) (fun h1=> ?_)
   ·rw [if_pos h1] at hs
    refine zCS ?_
    refine zG ?_
    refine zAI [none] (zP.drop zP.nil) ?_
    refine zA2 (H1:=[]) Z (by rw [hfix];exact fun h=>h) (rn3 ?_)
    exact zI ⟨k+1,kK,kK,⟨Z,Z,by show some (AV.int _ _)=some _;rw [hs],Z,Z,Z,trivial⟩,Z⟩
   ·rw [if_neg h1] at hs
    refine zCS ?_
    refine zG ?_
    refine zAI [none] (zP.drop zP.nil) ?_
    refine zA2 (H1:=[]) Z (by rw [hfix];exact fun h=>h) (rn3 ?_)
    exact zI ⟨k+1,kK,kK,⟨Z,Z,by show some (AV.int _ _)=some _;rw [hs],Z,Z,Z,trivial⟩,Z⟩
  ·have hk':k=x.length:=kK
   subst hk'
   refine rn5 ?_
   exact zM hR Z Z
theorem zLM (x:List Rat)(n:Nat)(hn:0<n∧n≤1000000)(hlen:x.length≤1000000)(hD: ∀q∈x,Sz 100000 q):zX Tryz.prog 71 [.ro (qsC x) 0 x.length,iN n] (.ro (qsC (x.map (fun q=>q/(n:Rat)))) 0 x.length):=by
 have hof:=zNm (n:Int) kK
 rw [Rat.intCast_natCast] at hof
 have hn0:(n:Rat)≠0:=by
  rw [←Rat.intCast_natCast]
  exact zG2 kK
 have hszn:Sz 100000 (n:Rat):=by
  refine zBj (m:=100000) (D.mono (j:=7) ⟨?_,?_⟩ kK)
  ·show (n:Rat).num.natAbs<_
   rw [←Rat.intCast_natCast]
   show (n:Int).natAbs<_
   rw [Int.natAbs_natCast];omega
  ·rw [←Rat.intCast_natCast]
   show 1<_
   decide
 refine zU.value0 (zF (P:=Tryz.prog) (fn:=Tryz.f71) Z Z kQ Z (fun c hR hfix=> ?_)) (fix:=fun _=>False) (fun _ h=>h) Z Z
 refine rn8 ?_
 refine zAg 5 ⟨118,qsC []⟩ Z Z ?_
 repeat (refine zAJ ?_)
 refine zb (ι:=Nat) (fun k=>[(0,.ro (qsC x) 0 x.length),(1,iN n),(5,.sl 0 0 k),(8,.ro (qsC x) 0 x.length),(9,iN x.length),(10,iN k)]) (fun k=>[some ⟨118,qsC ((x.take k).map (fun q=>q/(n:Rat)))⟩])
  (fun k=>k≤x.length) (fun k=>x.length-k) 0 ⟨⟨rfl,rfl,rfl,rfl,rfl,rfl,trivial⟩,rfl,Nat.zero_le _⟩ ?_
 intro k hk
 refine rn4 ?_
 refine zB Z (fun h=> ?_) (fun h=> ?_)
 ·have hk':k<x.length:=kK
  have hc:=zJZ (x.getD k 0) (n:Rat) (hD _ (z6 0 hk')) hszn hn0
  have htk:=zBG (fun q:Rat=>q/(n:Rat)) x 0 k hk'
  have hml:((x.take k).map (fun q:Rat=>q/(n:Rat))).length=k:=by rw [List.length_map,List.length_take];omega
  generalize (x.take k).map (fun q:Rat=>q/(n:Rat))=qs at*
  generalize hqe:x.getD k 0=q at*
  refine rn6 ?_
  refine zE 13 (.agg (zJ q)) Z (AEq.of_eq (by rw [←hqe];rfl)) ?_
  refine sa1 (c':= .box (zJ q)) Z Z Z Z Z Z Z (rn0 ?_)
  refine zZ kQ ?_
  refine zR 0 Z kQ kQ kQ Z (zH Z) Z ?_
  refine zR 2 Z kQ kQ kQ Z (zH Z) Z ?_
  refine zD (is:=[1,3]) kQ kJ Z ⟨fun o ho=> ?_,fun o ho=> ?_,trivial⟩
  all_goals (cases ho)
  ·refine rn6 ?_
   refine zD (is:=[3]) kQ kJ Z ⟨fun o ho=> ?_,trivial⟩
   all_goals (cases ho)
   skip
   refine zA Z Z Z hof (rn1 ?_)
   refine zD (is:=[4]) kQ kJ Z ⟨fun o ho=> ?_,trivial⟩
   all_goals (cases ho)
   skip
   refine zA Z Z Z hc (rn1 ?_)
   refine zD (is:=[5]) kQ kJ Z ⟨fun o ho=> ?_,trivial⟩
   all_goals (cases ho)
   refine rn3 ?_
   unfold qA
   skip
   refine zD (is:=[6]) kQ kJ Z ⟨fun o ho=> ?_,trivial⟩
   all_goals (cases ho)
   skip
   refine zq Z Z Z Z Z Z Z Z Z hml Z Z (by show 0+1≤1;omega) Z (by show (k+1)*56≤_∧_;omega) ?_ (by rw [hfix];exact fun h=>h) ?_
   ·intro i' j hi hj
    exact zAM 0 3 zJ zu qs (q/(n:Rat)) _ (zBi _) 0 i' j hi hj
   refine rn1 ?_
   refine zR 7 Z kQ kQ kQ Z (zf Z) Z ?_
   refine zT kQ ?_
   repeat (refine zAP ?_)
   refine zG ?_
   refine zAI ([some ⟨118,qsC ((x.take (k+1)).map (fun q=>q/(n:Rat)))⟩]++[none]) ?_ ?_
   ·rw [htk]
    exact zP.eqv (zAV 0 3 zJ qs (q/(n:Rat)) _ (zBi _)) (zP.drop zP.nil)
   refine zA2 (H1:=[some ⟨118,qsC ((x.take (k+1)).map (fun q=>q/(n:Rat)))⟩]) Z (by rw [hfix];exact fun h=>h) ?_
   refine zAI [some ⟨118,qsC ((x.take (k+1)).map (fun q=>q/(n:Rat)))⟩] ?_ ?_
   ·exact zP.eqv ⟨Z,Z,fun i j _ hj=>(zu _ j _ hj).symm⟩ zP.nil
   refine rn3 ?_
   exact zI ⟨k+1,kK,kK,⟨Z,Z,Z,Z,Z,Z,trivial⟩,Z⟩
  ·skip
   refine zA Z Z Z hof (rn1 ?_)
   refine zD (is:=[1]) kQ kJ Z ⟨fun o ho=> ?_,trivial⟩
   all_goals (cases ho)
   refine rn6 ?_
   refine zD (is:=[4]) kQ kJ Z ⟨fun o ho=> ?_,trivial⟩
   all_goals (cases ho)
   skip
   refine zA Z Z Z hc (rn1 ?_)
   refine zD (is:=[5]) kQ kJ Z ⟨fun o ho=> ?_,trivial⟩
   all_goals (cases ho)
   refine rn3 ?_
   unfold qA
   skip
   refine zD (is:=[6]) kQ kJ Z ⟨fun o ho=> ?_,trivial⟩
   all_goals (cases ho)
   skip
   refine zq Z Z Z Z Z Z Z Z Z hml Z Z (by show 0+1≤1;omega) Z (by show (k+1)*56≤_∧_;omega) ?_ (by rw [hfix];exact fun h=>h) ?_
   ·intro i' j hi hj
    exact zAM 0 3 zJ zu qs (q/(n:Rat)) _ (zBi _) 0 i' j hi hj
   refine rn1 ?_
   refine zR 7 Z kQ kQ kQ Z (zf Z) Z ?_
   refine zT kQ ?_
   repeat (refine zAP ?_)
   refine zG ?_
   refine zAI ([some ⟨118,qsC ((x.take (k+1)).map (fun q=>q/(n:Rat)))⟩]++[none]) ?_ ?_
   ·rw [htk]
    exact zP.eqv (zAV 0 3 zJ qs (q/(n:Rat)) _ (zBi _)) (zP.drop zP.nil)
   refine zA2 (H1:=[some ⟨118,qsC ((x.take (k+1)).map (fun q=>q/(n:Rat)))⟩]) Z (by rw [hfix];exact fun h=>h) ?_
   refine zAI [some ⟨118,qsC ((x.take (k+1)).map (fun q=>q/(n:Rat)))⟩] ?_ ?_
   ·exact zP.eqv ⟨Z,Z,fun i j _ hj=>(zu _ j _ hj).symm⟩ zP.nil
   refine rn3 ?_
   exact zI ⟨k+1,kK,kK,⟨Z,Z,Z,Z,Z,Z,trivial⟩,Z⟩
 ·have hk':k=x.length:=kK
  subst hk'
  rw [List.take_length]
  refine zEW ?_
  refine zAC 0 5 x.length [] Z (zAT _) Z (by show _≤(x.map _).length;rw [List.length_map];exact Nat.le_refl _) trivial (rn0 ?_)
  exact zM hR Z Z
def zK1 (p:(List zAA×List zAA)×Int):AV:= .tup [.ro (.strs p.1.1) 0 p.1.1.length,.ro (.strs p.1.2) 0 p.1.2.length,.int .i64 p.2]
theorem zQj (a b:List Rat)(hla:a.length≤1000000)(hlb:b.length≤1000000)(ha: ∀q∈a,Sz 100000 q)(hb: ∀q∈b,Sz 100000 q):zX Tryz.prog 138 [.ro (qsC a) 0 a.length,.ro (qsC b) 0 b.length] (zK1 (zGR a b)):=by
 have two: ∀x:List Rat,¬(zBC x).2=0→(zBC x).2=2:=fun x h=>by
  unfold zBC at h⊢
  split at h
  ·exact absurd Z h
  ·rename_i g;rw [if_neg g]
 have yes: ∀x:List Rat,(zBC x).2=0→(zBC x).1=x.map zr:=fun x h=>by
  unfold zBC at h⊢
  split at h
  ·rename_i g;rw [if_pos g]
  ·cases h
 obtain ⟨r1,c1,e1⟩:=zGj a hla ha
 obtain ⟨r2,c2,e2⟩:=zGj b hlb hb
 refine zU.value0 (zF (P:=Tryz.prog) (fn:=Tryz.f138) Z Z kQ Z (fun c hR hfix=> ?_)) (fix:=fun _=>False) (fun _ h=>h) Z Z
 refine rn0 ?_
 refine zA Z Z Z c1 (rn3 ?_)
 refine zB Z (fun h1=> ?_) (fun h1=> ?_)
 ·have e:zGR a b=(([],[]),(zBC a).2):=by unfold zGR;rw [if_pos h1,two a h1]
  rw [e] at hR
  refine rn7 ?_
  refine zv 4 (.ro (.strs []) 0 0) Z AEq.nil ?_
  refine zv 5 (.ro (.strs []) 0 0) Z AEq.nil (rn2 ?_)
  exact zM hR Z Z
 have h1':=Classical.not_not.1 h1
 refine rn1 ?_
 refine zA Z Z Z c2 (rn3 ?_)
 refine zB Z (fun h2=> ?_) (fun h2=> ?_)
 ·have e:zGR a b=(([],[]),(zBC b).2):=by unfold zGR;rw [if_neg h1,if_pos h2,two b h2]
  rw [e] at hR
  refine rn7 ?_
  refine zv 4 (.ro (.strs []) 0 0) Z AEq.nil ?_
  refine zv 5 (.ro (.strs []) 0 0) Z AEq.nil (rn2 ?_)
  exact zM hR Z Z
 have h2':=Classical.not_not.1 h2
 have e:zGR a b=((a.map zr,b.map zr),0):=by unfold zGR;rw [if_neg h1,if_neg h2]
 rw [e] at hR
 rw [yes a h1'] at e1
 rw [yes b h2'] at e2
 refine rn7 ?_
 refine zv 4 (.ro (.strs (a.map zr)) 0 (a.map zr).length) Z e1 ?_
 refine zv 5 (.ro (.strs (b.map zr)) 0 (b.map zr).length) Z e2 ?_
 repeat (refine zBQ ?_)
 exact zM hR Z Z
theorem zH3 (f:Int×Int→Int)(l:zB1)(n:Nat)(hl:l.length≤200): ∀q∈zFG f l n,D 3 q:=by
 intro q hq
 obtain ⟨i,_,rfl⟩:=List.mem_map.1 hq
 have h:=zK5 f l i
 refine ⟨?_,?_⟩
 ·show ((cnt f l i:Nat):Rat).num.natAbs<_
  rw [←Rat.intCast_natCast]
  show ((cnt f l i:Nat):Int).natAbs<_
  rw [Int.natAbs_natCast];omega
 ·rw [←Rat.intCast_natCast]
  show 1<_
  decide
theorem zRd (m:List (List zAA))(l:zB1)(hE:zDE m l=0)(hr: ∀r∈m,r.length≤9223372036854775807∧ ∀s∈r,s.length≤9223372036854775807):
 zNx Tryz.prog 68 [.ro (zA9 m) 0 m.length,.ro (zx l) 0 l.length] (.tup [.sl 0 0 m.length,.sl 1 0 (zS m)]) [some ⟨118,qsC (zFB (inM m) l (zS m))⟩,some ⟨118,qsC (zEm (inM m) l (zS m))⟩]:=by
 obtain ⟨hg,hl,hin⟩:=zDo hE
 obtain ⟨g1,g2,g3,g4,g5⟩:=zB3 hg
 have cc:=zMP m l g2 g5 g4 hl hin
 have hM:=zDy g1
 have hv:=zEw g1
 have nm:=zIm m kK (fun r h=>⟨by have:=hM.cols r h;omega,fun s hs=>⟨(hr r h).2 s hs,hM.ok r h s hs⟩⟩)
 have nc:=zQu (inM m) (zS m) (by rw [zB7];omega) kK (fun r h=>(hv r h).1)
 rw [zB7] at nc
 have hm1:0<m.length:=by cases m with|nil=>exact absurd rfl g5|cons _ _=>exact Nat.succ_pos _
 have hwd:(m.getD 0 []).length=zS m:=rfl
 have hcl:=zMN (inM m) (zS m)
 have hml0:=zB7 m
 have hcd: ∀c∈zEO (inM m) (zS m),c.length=m.length∧ ∀q∈c,D 2000 q:=fun c hc=>by
  obtain ⟨k,hk,rfl⟩:=List.mem_map.1 hc
  refine ⟨by rw [zDC,hml0],fun q hq=> ?_⟩
  obtain ⟨r,hr,rfl⟩:=List.mem_map.1 hq
  have hk':k<r.length:=by rw [(hv r hr).1];simpa using hk
  exact (hv r hr).2 _ (z8 0 hk')
 have d1:=zH3 Prod.fst l m.length hl
 have d2:=zH3 Prod.snd l (zS m) hl
 have n1:=zGV Prod.fst l m.length
 have n2:=zGV Prod.snd l (zS m)
 have er:zFB (inM m) l (zS m)=(inM m).map (fun r=>zAQ r (zFG Prod.snd l (zS m))):=rfl
 have ec:zEm (inM m) l (zS m)=(zEO (inM m) (zS m)).map (fun c=>zAQ c (zFG Prod.fst l m.length)):=by unfold zEm;rw [hml0]
 rw [er,ec]
 refine zU.many (zF (P:=Tryz.prog) (fn:=Tryz.f68) Z Z kQ Z (fun c hR hfix=> ?_)) (fix:=fun _=>False) (fun _ h=>h) Z
 generalize zFG Prod.fst l m.length=A at*
 generalize zFG Prod.snd l (zS m)=B at*
 generalize zEO (inM m) (zS m)=C at*
 generalize inM m=M at*
 refine rn0 ?_
 refine zA Z Z Z cc (rn2 ?_)
 refine zA Z Z Z nm (rn8 ?_)
 refine zAg 9 ⟨118,qsC []⟩ Z Z ?_
 repeat (refine zAJ ?_)
 refine zb (ι:=Nat) (fun k=>[(0,.ro (zA9 m) 0 m.length),(6,.ro (qsC A) 0 m.length),(7,.ro (qsC B) 0 (zS m)),(8,.ro (zd M) 0 m.length),(9,.sl 0 0 k),(10,.nil),(23,.ro (zd M) 0 m.length),(24,iN m.length),(25,iN k)]) (fun k=>[some ⟨118,qsC ((M.take k).map (fun r=>zAQ r B))⟩])
  (fun k=>k≤M.length) (fun k=>M.length-k) 0 ⟨⟨rfl,rfl,rfl,rfl,rfl,rfl,rfl,rfl,rfl,trivial⟩,rfl,Nat.zero_le _⟩ ?_
 intro k hk
 refine rn4 ?_
 refine zB Z (fun h=> ?_) (fun h=> ?_)
 ·have hk':k<M.length:=kK
  obtain ⟨rl,rd⟩:=hv _ (z8 [] hk')
  have hdot:=zLB (M.getD k []) B 2000 3 rd d2 kK kK (by rw [rl];have:=Nat.mul_le_mul_right 2004 g4;omega)
  rw [n2] at hdot
  have htk:=zBG (fun r:List Rat=>zAQ r B) M [] k hk'
  have hml:((M.take k).map (fun r:List Rat=>zAQ r B)).length=k:=by rw [List.length_map,List.length_take];omega
  generalize (M.take k).map (fun r:List Rat=>zAQ r B)=qs at*
  generalize zAQ (M.getD k []) B=q at*
  refine rn6 ?_
  refine zA Z Z Z hdot ?_
  unfold qA
  repeat (refine ze rfl rfl rfl rfl rfl rfl rfl rfl rfl rfl rfl ?_)
  refine zq Z Z Z Z Z Z Z Z Z hml Z Z (by show 0+1≤1;omega) Z (by show (k+1)*56≤_∧_;omega) ?_ (by rw [hfix];exact fun h=>h) ?_
  ·intro i' j hi hj
   exact zAM 0 3 zJ zu qs q _ (zBi _) 0 i' j hi hj
  refine zCS ?_
  refine zG ?_
  refine zAI [some ⟨118,qsC ((M.take (k+1)).map (fun r=>zAQ r B))⟩] ?_ ?_
  ·rw [htk]
   exact zP.eqv (zAV 0 3 zJ qs q _ (zBi _)) zP.nil
  refine rn3 ?_
  exact zI ⟨k+1,kK,kK,⟨Z,Z,Z,Z,Z,Z,Z,Z,Z,trivial⟩,Z⟩
 ·have hk':k=M.length:=kK
  subst hk'
  rw [List.take_length]
  have hl1:(M.map (fun r:List Rat=>zAQ r B)).length=M.length:=List.length_map _
  generalize M.map (fun r:List Rat=>zAQ r B)=R at*
  refine rn6 ?_
  refine zA Z Z Z nc (rn8 ?_)
  refine zAg 10 ⟨118,qsC []⟩ Z Z ?_
  repeat (refine zAJ ?_)
  refine zb (ι:=Nat) (fun k=>[(6,.ro (qsC A) 0 m.length),(9,.sl 0 0 M.length),(10,.sl 1 0 k),(41,.ro (zd C) 0 (zS m)),(42,iN (zS m)),(43,iN k)]) (fun k=>[some ⟨118,qsC R⟩,some ⟨118,qsC ((C.take k).map (fun r=>zAQ r A))⟩])
   (fun k=>k≤C.length) (fun k=>C.length-k) 0 ⟨⟨rfl,rfl,rfl,rfl,rfl,rfl,trivial⟩,rfl,Nat.zero_le _⟩ ?_
  intro k hk
  refine rn4 ?_
  refine zB Z (fun h=> ?_) (fun h=> ?_)
  ·have hk':k<C.length:=kK
   obtain ⟨rl,rd⟩:=hcd _ (z8 [] hk')
   have hdot:=zLB (C.getD k []) A 2000 3 rd d1 kK kK (by rw [rl];have:=Nat.mul_le_mul_right 2004 g2;omega)
   rw [n1] at hdot
   have htk:=zBG (fun r:List Rat=>zAQ r A) C [] k hk'
   have hml:((C.take k).map (fun r:List Rat=>zAQ r A)).length=k:=by rw [List.length_map,List.length_take];omega
   generalize (C.take k).map (fun r:List Rat=>zAQ r A)=qs at*
   generalize zAQ (C.getD k []) A=q at*
   refine rn6 ?_
   refine zA Z Z Z hdot ?_
   unfold qA
   repeat (refine ze rfl rfl rfl rfl rfl rfl rfl rfl rfl rfl rfl ?_)
   refine zq Z Z Z Z Z Z Z Z Z hml Z Z (by show 0+1≤1;omega) Z (by show (k+1)*56≤_∧_;omega) ?_ (by rw [hfix];exact fun h=>h) ?_
   ·intro i' j hi hj
    exact zAM 0 3 zJ zu qs q _ (zBi _) 1 i' j hi hj
   refine zCS ?_
   refine zG ?_
   refine zAI [some ⟨118,qsC R⟩,some ⟨118,qsC ((C.take (k+1)).map (fun r=>zAQ r A))⟩] ?_ ?_
   ·rw [htk]
    exact zP.eqv ⟨Z,Z,fun i j _ hj=>(zu _ j _ hj).symm⟩ (zP.eqv (zAV 0 3 zJ qs q _ (zBi _)) zP.nil)
   refine rn3 ?_
   exact zI ⟨k+1,kK,kK,⟨Z,Z,Z,Z,Z,Z,trivial⟩,Z⟩
  ·have hk':k=C.length:=kK
   subst hk'
   rw [List.take_length]
   refine rn5 ?_
   exact zM hR Z ⟨by rw [hml0,hcl];rfl,Z⟩
theorem zNL (q:Rat)(j:Nat):noRef ((zJ q).getD j .any)=true:=by
 match j with
 |0=>rfl
 |1=>rfl
 |2=>rfl
 |n+3=>rfl
theorem zPG (N:Nat)(l:List Rat):Cells.shift N (qsC l)=qsC l:=by
 show Cells.fn _ _ _=Cells.fn _ _ _
 congr 1
 funext i j
 exact zKQ _ (zNL _ j) N
theorem zRV {m:List (List zAA)}{l:zB1}(hE:zDE m l=0):(∀q∈zFB (inM m) l (zS m),D 24049 q)∧ ∀q∈zEm (inM m) l (zS m),D 24049 q:=by
 obtain ⟨hg,hl,hin⟩:=zDo hE
 obtain ⟨g1,g2,g3,g4,g5⟩:=zB3 hg
 have hv:=zEw g1
 have hml0:=zB7 m
 have d1:=zH3 Prod.fst l m.length hl
 have d2:=zH3 Prod.snd l (zS m) hl
 have n1:=zGV Prod.fst l m.length
 have n2:=zGV Prod.snd l (zS m)
 constructor
 ·intro q hq
  obtain ⟨r,hr,rfl⟩:=List.mem_map.1 hq
  have h:=zLA (hv r hr).2 d2 (by rw [(hv r hr).1,n2];exact Nat.le_refl _)
  refine h.mono ?_
  rw [(hv r hr).1]
  have:=Nat.mul_le_mul_right (2000+3+1) g4
  omega
 ·intro q hq
  obtain ⟨c,hc,rfl⟩:=List.mem_map.1 hq
  obtain ⟨k,hk,rfl⟩:=List.mem_map.1 hc
  have hcl:(zB4 (inM m) k).length=m.length:=by rw [zDC,hml0]
  rw [hml0]
  have h:=zLA (j:=2000) (a:=zB4 (inM m) k) (fun q hq=>by
   obtain ⟨r,hr,rfl⟩:=List.mem_map.1 hq
   have hk':k<r.length:=by rw [(hv r hr).1];simpa using hk
   exact (hv r hr).2 _ (z8 0 hk')) d1 (by rw [hcl,n1];exact Nat.le_refl _)
  refine h.mono ?_
  rw [hcl]
  have:=Nat.mul_le_mul_right (2000+3+1) g2
  omega
theorem elQ_at {m:List (List zAA)}{i j:Nat}(hi:i<m.length)(hj:j<(m.getD i []).length):elQ (inM m) ((i:Int),(j:Int))=zAG ((m.getD i []).getD j []):=by
 show ((inM m).getD i []).getD j 0=_
 unfold inM
 rw [zBg _ _ [] _ _ hi,zBg _ _ [] _ _ hj]
theorem zQR (m:List (List zAA))(l:zB1)(hll:l.length≤9223372036854775807)(hlen:m.length≤9223372036854775807)(hr: ∀r∈m,r.length≤9223372036854775807∧ ∀s∈r,s.length≤9223372036854775807):zX Tryz.prog 54 [.ro (zA9 m) 0 m.length,.ro (zx l) 0 l.length] (zK1 (zEI m l)):=by
 have ch:=zKi m l hll hlen hr
 refine zU.value0 (zF (P:=Tryz.prog) (fn:=Tryz.f54) Z Z kQ Z (fun c hR hfix=> ?_)) (fix:=fun _=>False) (fun _ h=>h) Z Z
 refine rn0 ?_
 refine zA Z Z Z ch (rn3 ?_)
 refine zB Z (fun hE=> ?_) (fun hE=> ?_)
 ·have e:zEI m l=(([],[]),zDE m l):=by unfold zEI;rw [if_pos hE]
  rw [e] at hR
  refine rn7 ?_
  refine zv 4 (.ro (.strs []) 0 0) Z AEq.nil ?_
  refine zv 5 (.ro (.strs []) 0 0) Z AEq.nil (rn2 ?_)
  exact zM hR Z Z
 have hE':=Classical.not_not.1 hE
 have e:zEI m l=zGR (regA (inM m) l (zS m)) (regB (inM m) l (zS m)):=by unfold zEI;rw [if_neg hE]
 rw [e] at hR
 obtain ⟨hg,hl,hin⟩:=zDo hE'
 obtain ⟨g1,g2,g3,g4,g5⟩:=zB3 hg
 have hM:=zDy g1
 have cs:=zRd m l hE' hr
 obtain ⟨dr,dc⟩:=zRV hE'
 have lr:=zMx (inM m) l (zS m)
 have lc:=zMO (inM m) l (zS m)
 rw [zB7] at lr
 have hgd: ∀k,D (1+k*2001) (zDA 0 ((l.take k).map (elQ (inM m)))):=fun k=>by
  refine (zRb (k:=2000) (l:=(l.take k).map (elQ (inM m))) (fun q hq=> ?_) (j:=1) ⟨kV,kV⟩).mono ?_
  ·obtain ⟨x,hx,rfl⟩:=List.mem_map.1 hq
   exact elQ_D (fun r hr=>(zEw g1 r hr).2) kV x
  ·rw [List.length_map,List.length_take]
   have:=Nat.mul_le_mul_right 2001 (Nat.min_le_left k l.length)
   omega
 refine rn1 ?_
 refine zA Z Z Z zEE ?_
 repeat (refine zA7 rfl rfl rfl ?_)
 unfold qA
 refine sa1 (c':= .box (zJ 0)) Z Z Z Z Z Z Z (rn3 ?_)
 refine zb (ι:=Nat) (fun k=>[(0,.ro (zA9 m) 0 m.length),(1,.ro (zx l) 0 l.length),(8,.ptr 0 0 0),(24,.ro (zx l) 0 l.length),(25,iN l.length),(26,iN k)]) (fun k=>[some ⟨118,.box (zJ (zDA 0 ((l.take k).map (elQ (inM m)))))⟩])
  (fun k=>k≤l.length) (fun k=>l.length-k) 0 ⟨⟨rfl,rfl,rfl,rfl,rfl,rfl,trivial⟩,rfl,Nat.zero_le _⟩ ?_
 intro k hk
 refine rn4 ?_
 refine zB Z (fun h=> ?_) (fun h=> ?_)
 ·have hk':k<l.length:=kK
  have hx:=hin _ (z6 (0,0) hk')
  have hsn:zDA 0 ((l.take (k+1)).map (elQ (inM m)))=zDA 0 ((l.take k).map (elQ (inM m)))+elQ (inM m) (l.getD k (0,0)):=by rw [zIb (elQ (inM m)) l (0,0) k hk',zIN]
  have hDa:=hgd k
  generalize zDA 0 ((l.take k).map (elQ (inM m)))=acc at*
  generalize hxe:l.getD k (0,0)=x at*
  obtain ⟨x1,x2⟩:=x
  simp only at hx
  obtain ⟨i,rfl⟩:=Int.eq_ofNat_of_zero_le hx.1
  obtain ⟨j,rfl⟩:=Int.eq_ofNat_of_zero_le hx.2.2.1
  have hi:i<m.length:=kK
  have hrl:(m.getD i []).length=zS m:=hM.cols _ (z8 [] hi)
  have hj:j<(m.getD i []).length:=kK
  have hs:=(hr _ (z8 [] hi)).2 _ (z8 [] hj)
  have ho:=hM.ok _ (z8 [] hi) _ (z8 [] hj)
  have cp:=zEt _ hs ho
  rw [elQ_at hi hj] at hsn
  have hb:k*2001≤200*2001:=Nat.mul_le_mul_right _ kK
  have ca:=zFM acc (zAG ((m.getD i []).getD j [])) (zBj (hDa.mono kK)) (zBj ((zRf (r:=[(m.getD i []).getD j []]) (fun s h=>by simp at h;rw [h];exact ho) _ kJ).mono kK))
  refine rn6 ?_
  refine zE 29 (.agg (zCa ((i:Int),(j:Int)))) Z (AEq.of_eq (by rw [←hxe];rfl)) ?_
  refine sa1 (c':= .box (zCa ((i:Int),(j:Int)))) Z Z Z Z Z Z Z (rn0 ?_)
  refine zZ kQ ?_
  refine zj (fuel:=1) [0,1,2,3,4,5,6,7,8,9,10,11] [(0,.ro (zA9 m) 0 m.length),(8,.ptr 0 0 0),(10,.ptr 1 0 0),(24,.ro (zx l) 0 l.length),(25,iN l.length),(26,iN k),(1,.ro (zx l) 0 l.length)] ⟨Z,Z,Z,Z,Z,Z,Z,trivial⟩ kQ kV Z Z ?_
  refine zK Z Z (qpp Z Z Z Z Z Z Z) ?_
  refine zK Z Z (zH Z) ?_
  refine zK Z Z (zAw Z Z Z Z (by first|(simp only [Nat.zero_add,Int.toNat_natCast];exact Z)|exact Z) kK) ?_
  refine zK Z Z (zY Z Z Z Z Z) ?_
  refine zK Z Z (zc Z Z Z Z (by first|(simp only [Nat.zero_add,Int.toNat_natCast,Int.toNat_zero];exact Z)|exact Z) kK) ?_
  refine zK Z Z (zBp Z Z Z Z) ?_
  refine zK Z Z (zAw Z Z Z Z (by first|(simp only [Nat.zero_add,Int.toNat_natCast];exact Z)|exact Z) kK) ?_
  refine zK Z Z (zY Z Z Z Z Z) ?_
  refine zK Z Z (zc Z Z Z Z (by first|(simp only [Nat.zero_add,Int.toNat_natCast,Int.toNat_zero];exact Z)|exact Z) kK) ?_
  refine zK Z Z (zDG Z Z Z) ?_
  refine zAy Z Z Z Z Z cp ?_
  refine zAy Z Z Z Z Z ca ?_
  refine zz ?_
  refine zD (is:=[12]) kQ kJ Z ⟨fun o ho=> ?_,trivial⟩
  all_goals (cases ho)
  skip
  unfold qA
  refine sa1 (c':= .box (zJ (acc+zAG ((m.getD i []).getD j [])))) Z Z Z Z Z Z Z (rn1 ?_)
  refine zT kQ ?_
  repeat (refine zAP ?_)
  refine zG ?_
  refine zAI ([some ⟨118,.box (zJ (zDA 0 ((l.take (k+1)).map (elQ (inM m)))))⟩]++[none]) ?_ ?_
  ·rw [hsn]
   exact zP.eqv (CEq.refl _) (zP.drop zP.nil)
  refine zA2 (H1:=[some ⟨118,.box (zJ (zDA 0 ((l.take (k+1)).map (elQ (inM m)))))⟩]) Z (by rw [hfix];exact fun h=>h) (rn3 ?_)
  exact zI ⟨k+1,kK,kK,⟨Z,Z,Z,Z,Z,Z,trivial⟩,Z⟩
 have hke:k=l.length:=kK
 subst hke
 rw [List.take_length]
 have hgl:=hgd l.length
 rw [List.take_length] at hgl
 have egot:gotQ (inM m) l=zDA 0 (l.map (elQ (inM m))):=rfl
 have eA:regA (inM m) l (zS m)=(zFB (inM m) l (zS m)).map (fun q=>q-gotQ (inM m) l):=rfl
 have eB:regB (inM m) l (zS m)=(zEm (inM m) l (zS m)).map (fun q=>gotQ (inM m) l-q):=rfl
 rw [eA,eB] at hR
 rw [←egot] at hgl
 rw [←egot]
 have hb:l.length*2001≤200*2001:=Nat.mul_le_mul_right _ hl
 generalize gotQ (inM m) l=G at*
 generalize zFB (inM m) l (zS m)=R at*
 generalize zEm (inM m) l (zS m)=C at*
 refine rn5 ?_
 refine zGQ (.tup [.sl 1 0 m.length,.sl 2 0 (zS m)]) [some ⟨118,.box (zJ G)⟩,some ⟨118,qsC R⟩,some ⟨118,qsC C⟩] Z Z Z cs Z (by simp only [zC5,zIx,zPG];rfl) (rn3 ?_)
 have ef: ∃f:Rat→Rat,f=(fun q=>q-G):=⟨_,rfl⟩
 obtain ⟨f,ef⟩:=ef
 rw [←ef] at hR
 have lR:=lr
 refine zb (ι:=Nat) (fun k=>[(8,.ptr 0 0 0),(11,.sl 1 0 m.length),(12,.sl 2 0 (zS m)),(49,.sl 1 0 m.length),(50,iN m.length),(51,iN k)]) (fun k=>[some ⟨118,.box (zJ G)⟩,some ⟨118,qsC (zB6 f R k)⟩,some ⟨118,qsC C⟩])
  (fun k=>k≤R.length) (fun k=>R.length-k) 0 ⟨⟨rfl,rfl,rfl,rfl,rfl,rfl,trivial⟩,by rw [zFS],Nat.zero_le _⟩ ?_
 intro k hk
 refine rn4 ?_
 refine zB Z (fun h=> ?_) (fun h=> ?_)
 ·have hk':k<R.length:=kK
  have hq:=dr _ (z8 0 hk')
  have hset:=zFi f R 0 hk'
  have hget:=zHi f R 0 hk'
  have hml:=zGi f R k
  generalize zB6 f R k=zs at*
  generalize R.getD k 0=q at*
  have hkz:k<zs.length:=kK
  have hv:f q=q-G:=by rw [ef]
  rw [hv] at hset
  have hnew:zB6 f R (k+1)=zs.set k (q-G):=hset.symm
  have cq:=zKn q G (zBj (hq.mono kK)) (zBj (hgl.mono kK))
  refine rn6 ?_
  refine zE 55 (.agg (zJ q)) Z (AEq.of_eq (by rw [←hget];rfl)) ?_
  refine sa1 (c':= .box (zJ q)) Z Z Z Z Z Z Z (rn6 ?_)
  refine zA Z Z Z cq ?_
  repeat (refine zL (zAR rfl rfl rfl rfl rfl (by first|(simp only [Nat.zero_add,Int.toNat_natCast,Int.toNat_zero];exact rfl)|exact rfl) kK) ?_)
  unfold qA
  refine zt (c':=qsC (zs.set k (q-G))) Z Z Z Z Z hkz (by show (zs.set k (q-G)).length=zs.length;simp) Z (fun i' j' hi' hj'=>zIw zs k (q-G) hkz i' j' hi' hj') ?_
  refine zCS ?_
  refine zG ?_
  refine zAI ([some ⟨118,.box (zJ G)⟩,some ⟨118,qsC (zB6 f R (k+1))⟩,some ⟨118,qsC C⟩]++[none]) ?_ ?_
  ·rw [hnew]
   exact zP.eqv (CEq.refl _) (zP.eqv (CEq.refl _) (zP.eqv (CEq.refl _) (zP.drop zP.nil)))
  refine zA2 (H1:=[some ⟨118,.box (zJ G)⟩,some ⟨118,qsC (zB6 f R (k+1))⟩,some ⟨118,qsC C⟩]) Z (by rw [hfix];exact fun h=>h) ?_
  refine zAI [some ⟨118,.box (zJ G)⟩,some ⟨118,qsC (zB6 f R (k+1))⟩,some ⟨118,qsC C⟩] ?_ ?_
  ·exact zP.eqv ⟨Z,Z,fun i j _ hj=>rfl⟩ (zP.eqv ⟨Z,Z,fun i j _ hj=>(zu _ j _ hj).symm⟩ (zP.eqv ⟨Z,Z,fun i j _ hj=>(zu _ j _ hj).symm⟩ zP.nil))
  refine rn3 ?_
  exact zI ⟨k+1,kK,kK,⟨Z,Z,Z,Z,Z,Z,trivial⟩,Z⟩
 have hke:k=R.length:=kK
 subst hke
 rw [zHh]
 have dA: ∀q∈R.map f,Sz 100000 q:=fun q hq=>by
  obtain ⟨z,hz,rfl⟩:=List.mem_map.1 hq
  rw [ef]
  exact zBj ((D.sub (dr z hz) hgl).mono kK)
 have lA:(R.map f).length=m.length:=by rw [List.length_map,lr]
 generalize R.map f=A at*
 refine rn5 ?_
 have ef2: ∃f2:Rat→Rat,f2=(fun q=>G-q):=⟨_,rfl⟩
 obtain ⟨f2,ef2⟩:=ef2
 rw [←ef2] at hR
 have lC:=lc
 refine zb (ι:=Nat) (fun k=>[(8,.ptr 0 0 0),(11,.sl 1 0 m.length),(12,.sl 2 0 (zS m)),(63,.sl 2 0 (zS m)),(64,iN (zS m)),(65,iN k)]) (fun k=>[some ⟨118,.box (zJ G)⟩,some ⟨118,qsC A⟩,some ⟨118,qsC (zB6 f2 C k)⟩])
  (fun k=>k≤C.length) (fun k=>C.length-k) 0 ⟨⟨rfl,rfl,rfl,rfl,rfl,rfl,trivial⟩,by rw [zFS],Nat.zero_le _⟩ ?_
 intro k hk
 refine rn4 ?_
 refine zB Z (fun h=> ?_) (fun h=> ?_)
 ·have hk':k<C.length:=kK
  have hq:=dc _ (z8 0 hk')
  have hset:=zFi f2 C 0 hk'
  have hget:=zHi f2 C 0 hk'
  have hml:=zGi f2 C k
  generalize zB6 f2 C k=zs at*
  generalize C.getD k 0=q at*
  have hkz:k<zs.length:=kK
  have hv:f2 q=G-q:=by rw [ef2]
  rw [hv] at hset
  have hnew:zB6 f2 C (k+1)=zs.set k (G-q):=hset.symm
  have cq:=zKn G q (zBj (hgl.mono kK)) (zBj (hq.mono kK))
  refine rn6 ?_
  refine zE 69 (.agg (zJ q)) Z (AEq.of_eq (by rw [←hget];rfl)) ?_
  refine sa1 (c':= .box (zJ q)) Z Z Z Z Z Z Z (rn6 ?_)
  refine zA Z Z Z cq ?_
  repeat (refine zL (zAR rfl rfl rfl rfl rfl (by first|(simp only [Nat.zero_add,Int.toNat_natCast,Int.toNat_zero];exact rfl)|exact rfl) kK) ?_)
  unfold qA
  refine zt (c':=qsC (zs.set k (G-q))) Z Z Z Z Z hkz (by show (zs.set k (G-q)).length=zs.length;simp) Z (fun i' j' hi' hj'=>zIw zs k (G-q) hkz i' j' hi' hj') ?_
  refine zCS ?_
  refine zG ?_
  refine zAI ([some ⟨118,.box (zJ G)⟩,some ⟨118,qsC A⟩,some ⟨118,qsC (zB6 f2 C (k+1))⟩]++[none]) ?_ ?_
  ·rw [hnew]
   exact zP.eqv (CEq.refl _) (zP.eqv (CEq.refl _) (zP.eqv (CEq.refl _) (zP.drop zP.nil)))
  refine zA2 (H1:=[some ⟨118,.box (zJ G)⟩,some ⟨118,qsC A⟩,some ⟨118,qsC (zB6 f2 C (k+1))⟩]) Z (by rw [hfix];exact fun h=>h) ?_
  refine zAI [some ⟨118,.box (zJ G)⟩,some ⟨118,qsC A⟩,some ⟨118,qsC (zB6 f2 C (k+1))⟩] ?_ ?_
  ·exact zP.eqv ⟨Z,Z,fun i j _ hj=>rfl⟩ (zP.eqv ⟨Z,Z,fun i j _ hj=>(zu _ j _ hj).symm⟩ (zP.eqv ⟨Z,Z,fun i j _ hj=>(zu _ j _ hj).symm⟩ zP.nil))
  refine rn3 ?_
  exact zI ⟨k+1,kK,kK,⟨Z,Z,Z,Z,Z,Z,trivial⟩,Z⟩
 have hke:k=C.length:=kK
 subst hke
 rw [zHh]
 have dB: ∀q∈C.map f2,Sz 100000 q:=fun q hq=>by
  obtain ⟨z,hz,rfl⟩:=List.mem_map.1 hq
  rw [ef2]
  exact zBj ((D.sub hgl (dc z hz)).mono kK)
 have lB:(C.map f2).length=zS m:=by rw [List.length_map,lc]
 generalize C.map f2=B at*
 refine zEW ?_
 refine zAC 1 11 m.length [(12,.sl 2 0 (zS m))] Z (zAT _) Z (by show _≤A.length;omega) ⟨Z,trivial⟩ ?_
 refine zAC 2 12 (zS m) [(11,.ro (qsC A) 0 m.length)] Z (zAT _) Z (by show _≤B.length;omega) ⟨Z,trivial⟩ ?_
 have cb:=zQj A B kK kK dA dB
 rw [lA,lB] at cb
 refine rn0 ?_
 refine zA Z Z Z cb ?_
 unfold zK1
 refine rn2 ?_
 exact zM hR Z Z
end Go.Proofs.YtmpnheilfejcpaaGreatDoor
