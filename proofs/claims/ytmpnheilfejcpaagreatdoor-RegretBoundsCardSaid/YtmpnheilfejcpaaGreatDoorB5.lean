import Derived.Lib.LaidTab
import Derived.Lib.ItoaNum
import Derived.Stop.LaidErr
import Derived.Test.YtmpnheilfejcpaaGreatDoorProg
import Derived.Shelf.Strconv.Itoa3
import Derived.Shelf.Pu.ParseUintPublic10
import Derived.Shelf.Bits.Mul64
import Derived.Shelf.Strings.OnBuilder
import Derived.Test.YtmpnheilfejcpaaGreatDoorB4
set_option linter.unusedVariables false
set_option linter.unusedSimpArgs false
set_option maxRecDepth 100000
set_option maxHeartbeats 4000000
namespace Go.Ax
variable [Pins]
open Go.RowKit
def waitsU (all:Array Oper)(listed:Array Bool)(idx:List Nat)(j:Nat):Bool:=match all[j]? with
 |some o=>o.after.toList.any (fun e=>Region.binds .any e && (!idx.contains e.on && !listed.getD e.on true))
 |none=>false
def okRunU (all:Array Oper)(listed:Array Bool)(idx:List Nat)(k0:List Nat):Bool:=
 (idx.all fun i=> !listed.getD i true && (match all[i]? with
  |some o=>(match o.dst with|some d=> !k0.contains d|none=>false) && o.after.toList.all (fun e=> !Region.binds .any e||(Nat.blt e.on i && (idx.contains e.on||listed.getD e.on false)))
  |none=>false)) &&
 ((List.range all.size).all fun j=>idx.contains j||listed.getD j true||idx.all (fun i=>zOk all idx (idx.length+1) j i)||waitsU all listed idx j) &&
 (idx.all fun i=>idx.all fun j=>Nat.beq i j|| !(match all[i]?,all[j]? with|some o,some o'=>o.dst==o'.dst|_,_=>false))
section
variable {P:Program}{fn:Func}{c:Ctx}{fr:Fr}{H:zO}{k:List It}
theorem zFt {all:Array Oper}{fuel:Nat}{listed listed':Array Bool}(idx:List Nat)(K0:Fr)(hK:zCY fr K0)(hok:okRunU all listed idx (K0.map (·.1))=true)(hnd:idx.Nodup)(hd:zDm fn.ntmps all.toList=true)(hl:zHC listed idx=listed')(h:zEi P fn c H all K0 idx [] (fun st=>Ax P fn c (.any all fuel listed' k) (st.map (·.2)++K0) H)):Ax P fn c (.any all (fuel+idx.length) listed k) fr H:=by
 obtain ⟨st,hG,hidx,hst⟩:=zG8 h (fun s hs=>by simp at hs)
 rw [List.map_nil,List.append_nil] at hidx
 clear h
 unfold okRunU at hok
 simp only [Bool.and_eq_true] at hok
 obtain ⟨⟨ok1,ok2⟩,ok3⟩:=hok
 rw [List.all_eq_true] at ok1 ok2 ok3
 have hmem: ∀i,i∈idx↔ ∃s∈st,s.1=i:=fun i=>by
  have:i∈idx.reverse↔ ∃s∈st,s.1=i:=by rw [←hidx];simp
  rw [←this,List.mem_reverse]
 have hlen:st.length=idx.length:=by
  have:=congrArg List.length hidx
  simpa using this
 have hnd':(st.map (·.1)).Nodup:=by rw [hidx];exact (List.reverse_perm idx).nodup_iff.2 hnd
 have hlt: ∀i∈idx,i<listed.size:=fun i hi=>by
  have:=ok1 i hi
  simp only [Bool.and_eq_true,Bool.not_eq_true'] at this
  rcases Nat.lt_or_ge i listed.size with q|q
  ·exact q
  ·have h1:=this.1
   simp only [Array.getD,show¬i<listed.size by omega,dite_false] at h1
   cases h1
 --the induction
 have key: ∀(m:Nat) (cur:Array Bool) (fr:Fr),cur.size=listed.size→(∀j,j∉idx→cur[j]? =listed[j]?)→unl cur st=m→(∀s∈st,cur.getD s.1 true=true→look s.2.1 fr=some s.2.2)→zCY fr K0→(∀m'∈idx,cur.getD m' true=true→ ∀o,all[m']? =some o→ ∀e∈o.after,Region.binds .any e=true→cur.getD e.on false=true)→Ax P fn c (.any all (fuel+m) cur k) fr H:=by
  intro m
  induction m with
  |zero=>
   intro cur fr hcs hco hcm hck hk0 hcl
   have hall: ∀s∈st,cur.getD s.1 true=true:=fun s hs=>by
    cases hq:cur.getD s.1 true with
    |true=>rfl
    |false=>
     exfalso
     have h0:st.filter (fun s=> !cur.getD s.1 true)=[]:=List.length_eq_zero_iff.1 hcm
     have:s∈st.filter (fun s=> !cur.getD s.1 true):=List.mem_filter.2 ⟨hs,by rw [hq];rfl⟩
     rw [h0] at this;simp at this
   have hcur:cur=listed':=by
    rw [←hl]
    apply Array.ext_getElem?
    intro j
    rcases Nat.lt_or_ge j listed.size with q|q
    ·rw [zHD idx listed j q]
     by_cases hj:j∈idx
     ·rw [if_pos hj]
      obtain ⟨s,hs1,hs2⟩:=(hmem j).1 hj
      have:=hall s hs1
      rw [hs2] at this
      simp only [Array.getD,show j<cur.size by omega,dite_true] at this
      rw [Array.getElem?_eq_getElem kK]
      exact congrArg some this
     ·rw [if_neg hj];exact hco j hj
    ·rw [Array.getElem?_eq_none kK,Array.getElem?_eq_none (by rw [zF5];omega)]
   subst hcur
   intro w a σ S hr
   refine hG w a σ S (hr.weaken (zDY fun p hp=> ?_))
   rcases List.mem_append.1 hp with q|q
   ·obtain ⟨s,q1,q2⟩:=List.mem_map.1 q
    rw [←q2];exact hck s q1 (hall s q1)
   ·exact zDZ hk0 p q
  |succ m ih=>
   intro cur fr hcs hco hcm hck hk0 hcl
   --some step is left
   obtain ⟨s0,hs0,hs0u⟩: ∃s∈st,cur.getD s.1 true=false:=by
    rcases hq:st.filter (fun s=> !cur.getD s.1 true) with _|⟨s,r⟩
    ·unfold unl at hcm;rw [hq] at hcm;simp at hcm
    ·have:s∈st.filter (fun s=> !cur.getD s.1 true):=by rw [hq];simp
     obtain ⟨h1,h2⟩:=List.mem_filter.1 this
     exact ⟨s,h1,by simpa using h2⟩
   have hsub: ∀i∈Region.ready .any all cur,i∈idx∧cur.getD i true=false:=by
    intro i hi
    obtain ⟨h1,o,ho,hdeps⟩:=mem_ready.1 hi
    refine ⟨?_,h1⟩
    apply Classical.byContradiction
    intro hni
    have hjs:i<all.size:=(Array.getElem?_eq_some_iff.1 ho).1
    have:=ok2 i (List.mem_range.2 hjs)
    simp only [Bool.or_eq_true,ho] at this
    rcases this with ((q|q)|q)|q
    ·exact hni (by simpa using q)
    ·have hco':=hco i hni
     have h2:listed.getD i true=cur.getD i true:=by
      simp only [Array.getD_eq_getD_getElem?,hco']
     rw [h2,h1] at q;cases q
    ·rw [List.all_eq_true] at q
     have h3:=zIn hcl _ i s0.1 (q s0.1 ((hmem s0.1).2 ⟨s0,hs0,rfl⟩)) (fun o' ho' e he hb=>by
      rw [ho] at ho'
      obtain rfl:=Option.some.inj ho'
      exact hdeps e he hb)
     rw [h3] at hs0u;cases hs0u
    ·unfold waitsU at q
     rw [ho] at q
     obtain ⟨e,he1,he2⟩:=List.any_eq_true.1 q
     simp only [Bool.and_eq_true,Bool.not_eq_true'] at he2
     obtain ⟨hb,hne,hnl⟩:=he2
     have hni':e.on∉idx:=fun q=>by
      have:idx.contains e.on=true:=by simpa using q
      rw [this] at hne;cases hne
     have hd1:=hdeps e (Array.mem_toList_iff.1 he1) hb
     have hco':=hco e.on hni'
     rw [Array.getD_eq_getD_getElem?] at hd1 hnl
     rw [hco'] at hd1
     cases hx:listed[e.on]? with
     |none=>rw [hx] at hd1;cases hd1
     |some b=>
      rw [hx] at hd1 hnl
      have e1:b=true:=hd1
      have e2:b=false:=hnl
      rw [e1] at e2;cases e2
   have hne:Region.ready .any all cur≠[]:=by
    intro h0
    --the least one that is left
    have hex: ∃i,i∈idx∧cur.getD i true=false:=⟨s0.1,(hmem s0.1).2 ⟨s0,hs0,rfl⟩,hs0u⟩
    have least: ∀n i,i≤n→i∈idx→cur.getD i true=false→False:=by
     intro n
     induction n with
     |zero=>
      intro i hi him hiu
      have h1:=ok1 i him
      simp only [Bool.and_eq_true] at h1
      cases hoo:all[i]? with
      |none=>rw [hoo] at h1;exact absurd h1.2 kJ
      |some o=>
       rw [hoo] at h1
       simp only [Bool.and_eq_true] at h1
       have h2:=List.all_eq_true.1 h1.2.2
       have:i∈Region.ready .any all cur:=mem_ready.2 ⟨hiu,o,hoo,fun e he hb=>by
        have:=h2 e (Array.mem_toList_iff.2 he)
        rw [hb] at this
        simp only [Bool.not_true,Bool.false_or,Bool.and_eq_true] at this
        have:=Nat.le_of_ble_eq_true this.1
        omega⟩
       rw [h0] at this;simp at this
     |succ n ihn=>
      intro i hi him hiu
      have h1:=ok1 i him
      simp only [Bool.and_eq_true] at h1
      cases hoo:all[i]? with
      |none=>rw [hoo] at h1;exact absurd h1.2 kJ
      |some o=>
       rw [hoo] at h1
       simp only [Bool.and_eq_true] at h1
       have h2:=List.all_eq_true.1 h1.2.2
       have:i∈Region.ready .any all cur:=mem_ready.2 ⟨hiu,o,hoo,fun e he hb=>by
        have h3:=h2 e (Array.mem_toList_iff.2 he)
        rw [hb] at h3
        simp only [Bool.not_true,Bool.false_or,Bool.and_eq_true,Bool.or_eq_true] at h3
        have hlt':e.on<i:=Nat.le_of_ble_eq_true h3.1
        by_cases hei:e.on∈idx
        ·cases hq:cur.getD e.on true with
         |false=>exact (ihn e.on kK hei hq).elim
         |true=>
          have hsz:=hlt e.on hei
          simp only [Array.getD,show e.on<cur.size by omega,dite_true] at hq⊢
          exact hq
        ·rcases h3.2 with q|q
         ·exact absurd (by simpa using q) hei
         ·have h2:cur.getD e.on false=listed.getD e.on false:=by simp only [Array.getD_eq_getD_getElem?,hco e.on hei]
          rw [h2];exact q⟩
       rw [h0] at this;simp at this
    obtain ⟨i,hi1,hi2⟩:=hex
    exact least i i (Nat.le_refl _) hi1 hi2
   refine zD Z hne hd (zKa (fun i hi o ho=> ?_))
   obtain ⟨him,hiu⟩:=hsub i hi
   obtain ⟨s,hs1,hs2⟩:=(hmem i).1 him
   obtain ⟨o',K,g1,g2,g3,g4⟩:=hst s hs1
   rw [hs2,ho] at g1
   obtain rfl:=Option.some.inj g1
   obtain ⟨_,o2,ho2,hdeps⟩:=mem_ready.1 hi
   rw [ho] at ho2
   obtain rfl:=Option.some.inj ho2
   refine g3 _ fr (zDY fun p hp=> ?_) (zV (zAU ?_))
   ·rcases g4 p hp with q|⟨s',q1,⟨e,q2,q3,q4⟩,q5⟩
    ·exact zDZ hk0 p q
    ·have h1:=hdeps e q2 q3
     rw [q4] at h1
     rw [←q5]
     refine hck s' q1 ?_
     have hsz:=hlt s'.1 ((hmem s'.1).2 ⟨s',q1,rfl⟩)
     simp only [Array.getD,show s'.1<cur.size by omega,dite_true] at h1⊢
     exact h1
   ·have hisz:=hlt i him
    refine ih (cur.setIfInBounds i true) _ (by simpa using hcs) (fun j hj=> ?_) ?_ (fun s' hs' hu=> ?_) ?_ (zML him hcl (fun o' ho' e he hb=>by rw [ho] at ho';obtain rfl:=Option.some.inj ho';exact hdeps e he hb))
    ·rw [Array.getElem?_setIfInBounds_ne (show i≠j from fun e=>hj (e▸him))];exact hco j hj
    ·--one less
     have hf:st.filter (fun s'=> !(cur.setIfInBounds i true).getD s'.1 true)=(st.filter (fun s'=> !cur.getD s'.1 true)).filter (fun s'=>decide (s'.1≠i)):=by
      rw [List.filter_filter]
      congr 1
      funext s'
      by_cases hq:s'.1=i
      ·rw [hq];simp [Array.getD,show i<cur.size by omega]
      ·have hq': ¬i=s'.1:=fun e=>hq e.symm
       simp [Array.getD_eq_getD_getElem?,Array.getElem?_setIfInBounds,hq,hq']
     unfold unl at hcm⊢
     rw [hf]
     have hmemf:s∈st.filter (fun s'=> !cur.getD s'.1 true):=List.mem_filter.2 ⟨hs1,by rw [hs2,hiu];rfl⟩
     have hndf:((st.filter (fun s'=> !cur.getD s'.1 true)).map (·.1)).Nodup:=List.Nodup.sublist (List.Sublist.map _ List.filter_sublist) hnd'
     revert hcm hmemf hndf
     generalize st.filter (fun s'=> !cur.getD s'.1 true)=L
     intro hcm hmemf hndf
     have gen: ∀(L:Steps) (n:Nat),L.length=n+1→s∈L→(L.map (·.1)).Nodup→(L.filter (fun s'=>decide (s'.1≠i))).length=n:=by
      intro L
      induction L with
      |nil=>intro n h;simp at h
      |cons x r ihL=>
       intro n hn hm hnd
       simp only [List.map_cons,List.nodup_cons] at hnd
       rcases List.mem_cons.1 hm with rfl|hm
       ·have hno: ∀y∈r,y.1≠i:=fun y hy e=>hnd.1 (List.mem_map.2 ⟨y,hy,by rw [e,hs2]⟩)
        have:(r.filter (fun s'=>decide (s'.1≠i)))=r:=List.filter_eq_self.2 (fun y hy=>by simpa using hno y hy)
        rw [List.filter_cons_of_neg (by simp [hs2]),this]
        simpa using hn
       ·have hx:x.1≠i:=fun e=>hnd.1 (List.mem_map.2 ⟨s,hm,by rw [hs2,e]⟩)
        have hr0:0<r.length:=List.length_pos_iff.2 (by rintro rfl;simp at hm)
        obtain ⟨n',rfl⟩: ∃n',n=n'+1:=⟨n-1,by simp at hn;omega⟩
        rw [List.filter_cons_of_pos (by simpa using hx),List.length_cons,ihL n' (by simpa using hn) hm hnd.2]
     exact gen L m hcm hmemf hndf
    ·by_cases hq:s'.1=i
     ·have:s'=s:=by
       have h1:s∈st:=hs1
       have hinj: ∀(L:Steps),(L.map (·.1)).Nodup→ ∀x∈L,∀y∈L,x.1=y.1→x=y:=by
        intro L
        induction L with
        |nil=>intro _ x hx;simp at hx
        |cons z r ihL=>
         intro hnd x hx y hy hxy
         simp only [List.map_cons,List.nodup_cons] at hnd
         rcases List.mem_cons.1 hx with hx|hx<;>rcases List.mem_cons.1 hy with hy|hy
         ·rw [hx,hy]
         ·exact absurd (List.mem_map.2 ⟨y,hy,by rw [←hxy,hx]⟩) hnd.1
         ·exact absurd (List.mem_map.2 ⟨x,hx,by rw [hxy,hy]⟩) hnd.1
         ·exact ihL hnd.2 x hx y hy hxy
       exact hinj st hnd' s' hs' s hs1 (by rw [hq,hs2])
      rw [this]
      exact zNa _ _ _
     ·have h1:cur.getD s'.1 true=true:=by
       have hq': ¬i=s'.1:=fun e=>hq e.symm
       simpa [Array.getD_eq_getD_getElem?,Array.getElem?_setIfInBounds,hq'] using hu
      have h2:=hck s' hs' h1
      --another slot
      have hne2:s'.2.1≠s.2.1:=by
       intro e
       obtain ⟨o3,_,f1,f2,_,_⟩:=hst s' hs'
       have h3:=List.all_eq_true.1 (ok3 s'.1 ((hmem s'.1).2 ⟨s',hs',rfl⟩)) i him
       rw [f1,ho] at h3
       simp only [Bool.or_eq_true,Bool.not_eq_true',f2,g2] at h3
       rcases h3 with h3|h3
       ·exact hq (Nat.eq_of_beq_eq_true h3)
       ·rw [e] at h3;simp at h3
      show (bif Nat.beq s'.2.1 s.2.1 then some s.2.2 else look s'.2.1 fr)=_
      rw [z7 hne2];exact h2
    ·refine zDY fun p hp=> ?_
     have h1:=ok1 i him
     simp only [Bool.and_eq_true] at h1
     rw [ho] at h1
     simp only [g2,Bool.and_eq_true,Bool.not_eq_true'] at h1
     have hne3:p.1≠s.2.1:=by
      intro e
      have:(K0.map (·.1)).contains s.2.1=true:=by
       rw [List.contains_iff_mem]
       exact List.mem_map.2 ⟨p,hp,e⟩
      rw [h1.2.1] at this;cases this
     show (bif Nat.beq p.1 s.2.1 then some s.2.2 else look p.1 fr)=_
     rw [z7 hne3];exact zDZ hk0 p hp
 have hm0:unl listed st=idx.length:=by
  unfold unl
  rw [List.filter_eq_self.2 (fun s hs=> ?_),hlen]
  have:=ok1 s.1 ((hmem s.1).2 ⟨s,hs,rfl⟩)
  simp only [Bool.and_eq_true] at this
  exact this.1
 have:=key idx.length listed fr rfl (fun _ _=>rfl) hm0 (fun s hs hu=>by
  have h1:=ok1 s.1 ((hmem s.1).2 ⟨s,hs,rfl⟩)
  simp only [Bool.and_eq_true,Bool.not_eq_true'] at h1
  rw [h1.1] at hu;cases hu) hK (fun m' hm' hu=>by
  have h1:=ok1 m' hm'
  simp only [Bool.and_eq_true,Bool.not_eq_true'] at h1
  rw [h1.1] at hu;cases hu)
 exact this
end
end Go.Ax
namespace Go.Ax.Rt
open Go.Ax.Bg Go.Ax.Dt
def chg {α:Type}(g:Nat→α)(d:α)(x:List α)(k:Nat):List α:=(List.range x.length).map (fun j=>if j<k then g j else x.getD j d)
theorem zC7 {α:Type}(g:Nat→α)(d:α)(x:List α)(k:Nat):(chg g d x k).length=x.length:=by simp [chg]
theorem zDU {α:Type}(g:Nat→α)(d:α)(x:List α):chg g d x 0=x:=by
 apply List.ext_getElem (zC7 _ _ _ _)
 intro i h1 h2
 simp [chg,List.getD,h2]
theorem zDN {α:Type}(g:Nat→α)(d:α)(x:List α){k i:Nat}(hi:i<x.length):(chg g d x k).getD i d=if i<k then g i else x.getD i d:=by
 unfold chg
 rw [zBg _ _ 0 _ _ (by simpa using hi)]
 simp [List.getD,hi]
theorem zD8 {α:Type}(g:Nat→α)(d:α)(x:List α){k:Nat}(hk:k<x.length):(chg g d x k).set k (g k)=chg g d x (k+1):=by
 apply List.ext_getElem (by simp [chg])
 intro i h1 h2
 have hi:i<x.length:=by simpa [chg] using h2
 have e1:=zDN g d x (k:=k+1) hi
 rw [zCC d h2] at e1
 rw [e1,List.getElem_set]
 by_cases hik:k=i
 ·subst hik;simp
 ·have e2:=zDN g d x (k:=k) hi
  rw [zCC d (by rw [zC7];exact hi)] at e2
  rw [if_neg hik,e2]
  by_cases h3:i<k
  ·rw [if_pos h3,if_pos kK]
  ·rw [if_neg h3,if_neg kK]
theorem zFF {α:Type}(g:Nat→α)(d:α)(x:List α):chg g d x x.length=(List.range x.length).map g:=by
 unfold chg
 refine List.map_congr_left (fun j hj=> ?_)
 rw [if_pos (by simpa using hj)]
theorem chg_same {α:Type}(g:Nat→α)(d:α)(x:List α){k:Nat}(hk:k<x.length)(h:g k=x.getD k d):chg g d x (k+1)=chg g d x k:=by
 rw [←zD8 g d x hk,h]
 apply List.ext_getElem (by simp [chg])
 intro i h1 h2
 rw [List.getElem_set]
 split
 ·rename_i e;subst e
  have e2:=zDN g d x (k:=k) hk
  rw [if_neg (Nat.lt_irrefl k)] at e2
  rw [←zCC d h2,e2]
 ·rfl
def zCl (T:Tab)(k c:Nat)(d:Int)(i:Nat):List Int:=if i=k then T.getD k [] else zFv (T.getD i []) (T.getD k []) (at2 T k c) (at2 T i c) d
theorem zLC (T:Tab)(k c:Nat)(d:Int):zE8 T k c d=chg (zCl T k c d) [] T T.length:=by rw [zFF];rfl
def rowG (R K:List Int)(p f d:Int)(j:Nat):Int:=zEA (R.getD j 0*p-f*K.getD j 0) d
theorem row_chg (R K:List Int)(p f d:Int):zFv R K p f d=chg (rowG R K p f d) 0 R R.length:=by rw [zFF];rfl
end Go.Ax.Rt
namespace Go.Ax.Tb
open Go.Ax.Bg (zDX)
end Go.Ax.Tb
namespace Go.Ax
variable [Pins]
section
variable {P:Program}{fn:Func}{c:Ctx}{fr:Fr}{H:zO}{k:List It}
theorem zFb {x:Code}(h:Nat)(o:AObj){ob:AObj}(c':Cells)(hh:H[h]? =some (some ob))(ho:o.c.len=0)(h1:c'.len=ob.c.len)(h2:c'.kd=ob.c.kd)(h3: ∀i j,i<ob.c.len→j<ob.c.sz→c'.at i j=ob.c.at i j∨(ob.c.at i j= .nil∧c'.at i j= .sl H.length 0 0))(hk:Ax P fn c (.code x k) fr ((H++[some o]).set h (some ⟨ob.ty,c'⟩))):Ax P fn c (.code x k) fr H:=by
 intro w a σ S hr
 have g1:=hr.nowhere1 ho
 have hlt:h<H.length:=(List.getElem?_eq_some_iff.1 hh).1
 have hh':(H++[some o])[h]? =some (some ob):=by rw [List.getElem?_append_left hlt];exact hh
 refine hk w a _ S (g1.recell hh' h1 h2 (fun i j v hi hj hv=> ?_))
 rcases h3 i j hi hj with e|⟨e1,e2⟩
 ·rw [e];exact hv
 ·rw [e1] at hv
  rw [e2]
  cases hv
  exact .sl0 _ _ (by simp [upσ])
end
end Go.Ax
namespace Go.Ax
variable [Pins]
open Go.RowKit
section
variable {ind:Bool}{P:Program}{fn:Func}{c:Ctx}{fr:Fr}{H:zO}{k:List It}
variable {d:Option Nat}{ty:TypeId}{pos:String}{after:Array Edge}{g:Option (Nat×Bool)}
theorem zHo {x:Operand}{t:TypeId}{u:TypeDesc}{h i:Nat}{oty:TypeId}{kk:IntKind}{l:List Int}(ht:P.underlying t=some u)(hu:zBn u=false)(hx:ev fr x=some (.ptr h i 0))(hh:H[h]? =some (some ⟨oty,.ints kk l⟩))(hi:i<l.length):
 QOp false P fn c fr H ⟨d,.load t x,ty,pos,after,g⟩ (.int kk (l.getD i 0)):=zF2 ht hu hx hh hi
theorem zBD {x:Operand}{t:TypeId}{u:TypeDesc}{h i j:Nat}{oty:TypeId}{n s:Nat}{f:Nat→Nat→AV}(ht:P.underlying t=some u)(hu:zBn u=false)(hx:ev fr x=some (.ptr h i j))(hh:H[h]? =some (some ⟨oty,.fn n s f⟩))(hj:Nat.blt j s=true)(hi:i<n):
 QOp false P fn c fr H ⟨d,.load t x,ty,pos,after,g⟩ (f i j):=zHn ht hu hx hh hj hi
end
end Go.Ax
namespace Go.Ax.Sx
open Go.Ax.Dt Go.Ax.Rt Go.Ax.Bg
def optZ:Option Nat→Int
 |none=> -1
 |some b=>(b:Int)
section
variable {T:Tab}{β:List Nat}{c e k b:Nat}
theorem zQA (h:at2 T k c≤0):zBo T β c e (k+1)=zBo T β c e k:=by
 rw [zBo]
 cases zBo T β c e k with
 |none=>show (if _ then _ else _)=_;rw [if_pos h]
 |some b=>show (if _ then _ else _)=_;rw [if_pos h]
theorem zOc (h: ¬at2 T k c≤0)(hl:zBo T β c e k=none):zBo T β c e (k+1)=some k:=by
 rw [zBo,hl]
 show (if _ then _ else _)=_
 rw [if_neg h]
theorem zP9 (h: ¬at2 T k c≤0)(hl:zBo T β c e k=some b):zBo T β c e (k+1)=if zId T β c e k b then some k else some b:=by
 rw [zBo,hl]
 show (if _ then _ else _)=_
 rw [if_neg h]
end
theorem zOn (o:Option Nat):(optZ o<0)=(o=none):=by
 apply propext
 cases o with
 |none=>exact ⟨fun _=>rfl,fun _=>by show (-1:Int)<0;omega⟩
 |some b=>exact ⟨fun h=>absurd h (by show¬(b:Int)<0;omega),fun h=>by cases h⟩
section
variable {m N w:Nat}{s:St}
theorem zMc {k:Nat}(h:zCI m N w (zAn m N w s k)=none): ∀j,zAn m N w s (k+j)=zAn m N w s k
 |0=>rfl
 |j+1=>by
  have e:=zMc h j
  show (zCI m N w (zAn m N w s (k+j))).getD (zAn m N w s (k+j))=_
  rw [e,h];rfl
theorem iter_end {k K:Nat}(h:zCI m N w (zAn m N w s k)=none)(hk:k≤K):zAn m N w s K=zAn m N w s k:=by
 obtain ⟨j,rfl⟩: ∃j,K=k+j:=⟨K-k,kK⟩
 exact zMc h j
theorem zSM {k:Nat}{s':St}(h:zCI m N w (zAn m N w s k)=some s'):zAn m N w s (k+1)=s':=by
 show (zCI m N w (zAn m N w s k)).getD _=_
 rw [h];rfl
def resZ (m w:Nat)(s:St):Int:=if zCb m w s=w then-1 else (zCb m w s:Int)
theorem zSy (h:zCb m w s=w):zCI m N w s=none:=by
 unfold zCI;unfold zCb at h;rw [if_pos h]
theorem zSx (h:zCb m w s≠w)(hl:zBo s.rows s.basis (zCb m w s) N m=none):zCI m N w s=none:=by
 unfold zCI;unfold zCb at h hl;rw [if_neg h,hl]
theorem step_go (h:zCb m w s≠w){r:Nat}(hl:zBo s.rows s.basis (zCb m w s) N m=some r):zCI m N w s=some (piv s r (zCb m w s)):=by
 unfold zCI;unfold zCb at h hl⊢;rw [if_neg h,hl]
end
theorem zPu {T:Tab}{m f c:Nat}(h:at2 T m c<0):zCm T m f c=c:=by
 cases f with
 |zero=>rfl
 |succ f=>rw [zCm,if_pos h]
theorem enter_go {T:Tab}{m f c:Nat}(h: ¬at2 T m c<0):zCm T m (f+1) c=zCm T m f (c+1):=by rw [zCm,if_neg h]
theorem nz_stop {T:Tab}{i f c:Nat}(h:at2 T i c≠0):nzN T i f c=c:=by
 cases f with
 |zero=>rfl
 |succ f=>rw [nzN,if_pos h]
theorem nz_go {T:Tab}{i f c:Nat}(h: ¬at2 T i c≠0):nzN T i (f+1) c=nzN T i f (c+1):=by rw [nzN,if_neg h]
def cutS (m:Nat)(s:St):St:=⟨s.rows.take m,s.den,s.basis⟩
theorem zEj {T:Tab}{m i:Nat}(hi:i<m)(j:Nat):at2 (T.take m) i j=at2 T i j:=by
 unfold at2
 simp only [List.getD,List.getElem?_take,if_pos hi]
theorem zM7 {T:Tab}{m i:Nat}(hi:i<m):(T.take m).getD i []=T.getD i []:=by
 simp only [List.getD,List.getElem?_take,if_pos hi]
theorem zR8 {T:Tab}{m r c:Nat}{d:Int}(hr:r<m)(hm:m≤T.length):zE8 (T.take m) r c d=(zE8 T r c d).take m:=by
 rw [zLC,zLC,zFF,zFF,←List.map_take,List.take_range,List.length_take,Nat.min_eq_left hm]
 refine List.map_congr_left (fun i hi=> ?_)
 have hi:i<m:=by simpa using hi
 unfold zCl
 rw [zM7 hr,zM7 hi,zEj hr,zEj hi]
theorem piv_cut {s:St}{m r c:Nat}(hr:r<m)(hm:m≤s.rows.length):piv (cutS m s) r c=cutS m (piv s r c):=by
 unfold piv cutS zFL
 simp only [zEj hr,zR8 hr hm]
 split
 ·rw [List.map_take]
 ·rfl
theorem nz_cut {T:Tab}{m i:Nat}(hi:i<m): ∀f c,nzN (T.take m) i f c=nzN T i f c
 |0,c=>rfl
 |f+1,c=>by rw [nzN,nzN,zEj hi,nz_cut hi f (c+1)]
theorem zR6 {s:St}{m w k:Nat}(hk:k<m)(hm:m≤s.rows.length):zCK w (cutS m s) k=cutS m (zCK w s k):=by
 unfold zCK
 rw [show (cutS m s).basis=s.basis from rfl,show (cutS m s).rows=s.rows.take m from rfl,nz_cut hk]
 split
 ·rfl
 ·split
  ·rfl
  ·exact piv_cut hk hm
theorem zH9 {s:St}{w:Nat}: ∀k,(zBc w s k).rows.length=s.rows.length
 |0=>rfl
 |k+1=>by
  rw [zBc]
  unfold zCK
  split
  ·exact zH9 k
  ·split
   ·exact zH9 k
   ·show (zFL _ _ _ _).length=_
    rw [zLQ];exact zH9 k
theorem zIg {s:St}{m w:Nat}(hm:m≤s.rows.length): ∀k,k≤m→zBc w (cutS m s) k=cutS m (zBc w s k)
 |0,_=>rfl
 |k+1,hk=>by
  rw [zBc,zBc,zIg hm k kK]
  exact zR6 kK (by rw [zH9];exact hm)
def zDR (w N:Nat)(s:St)(i:Nat):List Int:=(List.range (N+1)).map (fun j=> -(zAE (fun q=>if w≤s.basis.getD q 0 then at2 s.rows q j else 0) i))
def zBm (w a N:Nat)(s:St)(m k:Nat):List Int:=(List.range (N+1)).map (fun j=>if w≤j∧j<w+k then 0 else (zDR w N s m).getD j 0)
def zDV (k:Nat→Int)(N:Nat)(s:St)(i:Nat):List Int:=(List.range (N+1)).map (fun j=>s.den*k j-zAE (fun q=>k (s.basis.getD q 0)*at2 s.rows q j) i)
theorem zH4 (w N:Nat)(s:St)(i:Nat):(zDR w N s i).length=N+1:=by simp [zDR]
theorem zH6 (k:Nat→Int)(N:Nat)(s:St)(i:Nat):(zDV k N s i).length=N+1:=by simp [zDV]
theorem zGY {w N:Nat}{s:St}{i j:Nat}(hj:j<N+1):(zDR w N s i).getD j 0= -(zAE (fun q=>if w≤s.basis.getD q 0 then at2 s.rows q j else 0) i):=zBN hj
theorem zH5 {k:Nat→Int}{N:Nat}{s:St}{i j:Nat}(hj:j<N+1):(zDV k N s i).getD j 0=s.den*k j-zAE (fun q=>k (s.basis.getD q 0)*at2 s.rows q j) i:=zBN hj
theorem zPh {w N:Nat}{s:St}{i:Nat}(h: ¬w≤s.basis.getD i 0):zDR w N s (i+1)=zDR w N s i:=by
 unfold zDR
 refine List.map_congr_left (fun j _=> ?_)
 show-(zAE _ i+(if w≤s.basis.getD i 0 then at2 s.rows i j else 0))=_
 rw [if_neg h];omega
theorem zPg {w N:Nat}{s:St}{i j:Nat}(h:w≤s.basis.getD i 0)(hj:j<N+1):(zDR w N s (i+1)).getD j 0=(zDR w N s i).getD j 0-at2 s.rows i j:=by
 rw [zGY hj,zGY hj]
 show-(zAE _ i+(if w≤s.basis.getD i 0 then at2 s.rows i j else 0))=_
 rw [if_pos h];omega
theorem zPk {k:Nat→Int}{N:Nat}{s:St}{i:Nat}(h:k (s.basis.getD i 0)=0):zDV k N s (i+1)=zDV k N s i:=by
 unfold zDV
 refine List.map_congr_left (fun j _=> ?_)
 show _-(zAE _ i+k (s.basis.getD i 0)*at2 s.rows i j)=_
 rw [h,Int.zero_mul];omega
theorem zPj {k:Nat→Int}{N:Nat}{s:St}{i j:Nat}(hj:j<N+1):(zDV k N s (i+1)).getD j 0=(zDV k N s i).getD j 0+ -(k (s.basis.getD i 0))*at2 s.rows i j:=by
 rw [zH5 hj,zH5 hj]
 show _-(zAE _ i+k (s.basis.getD i 0)*at2 s.rows i j)=_
 rw [Int.neg_mul];omega
theorem zDQ {l l':List Int}{n:Nat}(h1:l.length=n)(h2:l'.length=n)(h: ∀j,j<n→l.getD j 0=l'.getD j 0):l=l':=by
 apply List.ext_getElem kK
 intro j g1 g2
 have:=h j kK
 rw [zCC 0 g1,zCC 0 g2] at this
 exact this
theorem zPi (w N:Nat)(s:St):zDR w N s 0=List.replicate (N+1) 0:=by
 refine zDQ (zH4 ..) kJ (fun j hj=> ?_)
 rw [zGY hj]
 show-(0:Int)=_
 simp [List.getD,hj]
theorem chg_to {l l':List Int}{n:Nat}(h1:l.length=n)(h2:l'.length=n):chg (fun j=>l'.getD j 0) 0 l n=l':=by
 rw [←h1,zFF]
 refine zDQ (n:=n) (by simp [h1]) h2 (fun j hj=> ?_)
 exact zBN kK
theorem zLl {B:Nat}: ∀{n:Nat} {f:Nat→Int},(∀i,i<n→(f i).natAbs≤B)→(zAE f n).natAbs≤n*B
 |0,f,_=>by rw [Nat.zero_mul];exact Nat.le_refl 0
 |n+1,f,h=>by
  have h1:=zLl (n:=n) (f:=f) (fun i hi=>h i kK)
  have h2:=h n (Nat.lt_succ_self n)
  show (zAE f n+f n).natAbs≤_
  have h3:=Int.natAbs_add_le (zAE f n) (f n)
  rw [Nat.succ_mul];omega
theorem art_row (p:Prog){k:Nat}(hk:k<p.a): ∃i,i<p.m∧p.neg i=true∧zBt p.B i=k:=by
 have key: ∀n,k<zBt p.B n→ ∃i,i<n∧p.neg i=true∧zBt p.B i=k:=by
  intro n
  induction n with
  |zero=>intro h;exact absurd h (Nat.not_lt_zero k)
  |succ n ih=>
   intro h
   by_cases hn:(p.B.getD n 0).num<0
   ·rw [zN4 hn] at h
    by_cases e:zBt p.B n=k
    ·exact ⟨n,kK,by simpa using hn,e⟩
    ·obtain ⟨i,h1,h2⟩:=ih kK
     exact ⟨i,kK,h2⟩
   ·have e:zBt p.B (n+1)=zBt p.B n:=by
     show (zAf _ _).length=_
     rw [zAf,if_neg hn]
    rw [e] at h
    obtain ⟨i,h1,h2⟩:=ih h
    exact ⟨i,kK,h2⟩
 exact key _ hk
theorem zPd (p:Prog)(i:Nat)(hi:i=p.a):zBm (p.n+p.m) p.a p.N (zAb p) p.m i=zH7 (zDL p) p.m p.N (zAb p):=by
 subst hi
 have hN:p.N=p.n+p.m+p.a:=rfl
 have hinv:=zFX p
 have hd:(zAb p).den=1:=rfl
 unfold zBm zH7
 refine List.map_congr_left (fun j hj=> ?_)
 have hj:j<p.N+1:=by simpa using hj
 rw [zGY hj,hd,Int.one_mul]
 have hk: ∀q,q<p.m→(if p.n+p.m≤(zAb p).basis.getD q 0 then at2 (zAb p).rows q j else 0)=zDL p ((zAb p).basis.getD q 0)*at2 (zAb p).rows q j:=by
  intro q hq
  have:=hinv.bc q hq
  unfold zDL
  by_cases h:p.n+p.m≤(zAb p).basis.getD q 0
  ·rw [if_pos h,if_pos ⟨h,this⟩,Int.one_mul]
  ·rw [if_neg h,if_neg (fun e=>h e.1),Int.zero_mul]
 rw [zw hk]
 by_cases h:p.n+p.m≤j∧j<p.n+p.m+p.a
 ·rw [if_pos h]
  obtain ⟨k,rfl⟩: ∃k,j=p.n+p.m+k:=⟨j-(p.n+p.m),kK⟩
  have hka:k<p.a:=kK
  have h1:zDL p (p.n+p.m+k)=1:=by unfold zDL;rw [if_pos kK]
  rw [h1]
  --the row of this artificial unknown
  obtain ⟨i,hi,hneg,hik⟩:=art_row p hka
  have hb:(zAb p).basis.getD i 0=p.n+p.m+k:=by
   show (zBr p).getD i 0=_
   rw [zHE p hi,if_pos hneg,hik]
  have hu: ∀q,q<p.m→at2 (zAb p).rows q (p.n+p.m+k)=if q=i then 1 else 0:=by
   intro q hq
   have:=hinv.unit q i kK hi
   rw [hb,hd] at this
   exact this
  rw [zEv i hi (fun q hq hne=>by rw [hu q hq,if_neg hne,Int.mul_zero]),hu i hi,if_pos rfl,hb,h1];rfl
 ·rw [if_neg h]
  have:zDL p j=0:=by unfold zDL;rw [if_neg kK]
  rw [this];omega
theorem zO9 (T:Tab)(L L':List Int):zBU (T++[L]) T.length L'=T++[L']:=by
 unfold zBU
 rw [List.take_left]
theorem ph1_rows (p:Prog):(ph1 p).rows=zBO p++[zH7 (zDL p) p.m p.N (zAb p)]:=by
 show zBU (zBO p++[_]) p.m _=_
 rw [←zCt p]
 exact zO9 _ _ _
theorem zKA (p:Prog):cutS p.m (zAb p)=⟨zBO p,1,zBr p⟩:=by
 show (⟨(zBO p++[_]).take p.m,1,zBr p⟩:St)=_
 rw [←zCt p,List.take_left]
theorem mid_cut0 (p:Prog)(K:Nat)(h:p.a=0):cutS p.m (mid p K)=⟨zBO p,1,zBr p⟩:=by
 unfold mid
 rw [if_pos h];exact zKA p
theorem zOf (p:Prog)(hp:p.Ok)(K:Nat)(h:p.a≠0):cutS p.m (mid p K)=zBc (p.n+p.m) (cutS p.m (zCW p K)) p.m:=by
 unfold mid
 rw [if_neg h]
 refine (zIg ?_ p.m (Nat.le_refl _)).symm
 rw [(zFT p hp K).1.n];exact Nat.le_succ _
theorem ph2_rows (p:Prog)(K:Nat):(ph2 p K).rows=(cutS p.m (mid p K)).rows++[zDV (zBf p) p.N (mid p K) p.m]:=rfl
theorem zR3 {k:Nat→Int}{N m i:Nat}{s:St}(hi:i≤m):zDV k N (cutS m s) i=zDV k N s i:=by
 unfold zDV
 refine List.map_congr_left (fun j _=> ?_)
 show s.den*k j-zAE (fun q=>k (s.basis.getD q 0)*at2 (s.rows.take m) q j) i=_
 congr 1
 refine zw (fun q hq=> ?_)
 rw [zEj kK]
theorem zER (w a N:Nat)(s:St)(m k:Nat):(zBm w a N s m k).length=N+1:=by simp [zBm]
theorem zIf {w a N:Nat}{s:St}{m k j:Nat}(hj:j<N+1):(zBm w a N s m k).getD j 0=if w≤j∧j<w+k then 0 else (zDR w N s m).getD j 0:=zBN hj
theorem zOJ (w a N:Nat)(s:St)(m:Nat):zBm w a N s m 0=zDR w N s m:=by
 refine zDQ (zER ..) (zH4 ..) (fun j hj=> ?_)
 rw [zIf hj,if_neg kK]
theorem zPf {w a N:Nat}{s:St}{m k:Nat}(hk:w+k<N+1):(zBm w a N s m k).set (w+k) 0=zBm w a N s m (k+1):=by
 refine zDQ (by rw [List.length_set];exact zER ..) (zER ..) (fun j hj=> ?_)
 rw [Go.Ax.Dt.getD_set,zIf hj,zIf hj,zER]
 by_cases h1:j=w+k
 ·rw [if_pos ⟨h1,hk⟩,if_pos kK]
 ·rw [if_neg (fun q=>h1 q.1)]
  by_cases h2:w≤j∧j<w+k
  ·rw [if_pos h2,if_pos kK]
  ·rw [if_neg h2,if_neg kK]
theorem zR0 {w N E:Nat}{s:St}{i j:Nat}(hi:i≤100)(h: ∀q,q<i→(at2 s.rows q j).natAbs≤10^E)(hj:j<N+1):((zDR w N s i).getD j 0).natAbs≤10^(E+2):=by
 rw [zGY hj,Int.natAbs_neg]
 have h1:=zLl (B:=10^E) (n:=i) (f:=fun q=>if w≤s.basis.getD q 0 then at2 s.rows q j else 0) (fun q hq=>by
  show (if w≤s.basis.getD q 0 then at2 s.rows q j else 0).natAbs≤_
  split
  ·exact h q hq
  ·exact Nat.zero_le _)
 refine Nat.le_trans h1 ?_
 rw [Nat.pow_add,Nat.mul_comm]
 exact Nat.mul_le_mul_left _ hi
theorem zR1 {w N m i:Nat}{s:St}(hi:i≤m):zDR w N (cutS m s) i=zDR w N s i:=by
 unfold zDR
 refine List.map_congr_left (fun j _=> ?_)
 congr 1
 refine zw (fun q hq=> ?_)
 show (if w≤s.basis.getD q 0 then at2 (s.rows.take m) q j else 0)=_
 rw [zEj kK]
theorem zPe {w a N m k:Nat}{s:St}:zBm w a N (cutS m s) m k=zBm w a N s m k:=by
 unfold zBm
 rw [zR1 (Nat.le_refl _)]
def zEs (n N:Nat)(W:List Int):List Int:=(List.range (N+1)).map (fun j=>if j<n then W.getD j 0 else 0)
def zE6 (n m a:Nat)(W:List Int)(i:Nat):List Int:=(List.range (n+m+a+1)).map (zI8 n m a W i)
theorem zIJ (n N:Nat)(W:List Int):(zEs n N W).length=N+1:=by simp [zEs]
theorem zDr (n m a:Nat)(W:List Int)(i:Nat):(zE6 n m a W i).length=n+m+a+1:=by simp [zE6]
theorem zQH {N:Nat}{W:List Int}:zEs 0 N W=List.replicate (N+1) 0:=by
 refine zDQ (zIJ ..) kJ (fun j hj=> ?_)
 rw [show (zEs 0 N W).getD j 0=0 from (zBN hj).trans (if_neg (Nat.not_lt_zero j))]
 simp [List.getD,hj]
theorem out_base {n m a i:Nat}{W:List Int}(hi:i<m):((zEs n (n+m+a) W).set (n+i) 1).set (n+m+a) (W.getD n 0)=zE6 n m a W i:=by
 refine zDQ (n:=n+m+a+1) (by rw [List.length_set,List.length_set];exact zIJ ..) (zDr ..) (fun j hj=> ?_)
 rw [Go.Ax.Dt.getD_set,Go.Ax.Dt.getD_set,List.length_set,zIJ,show (zE6 n m a W i).getD j 0=zI8 n m a W i j from zBN hj,show (zEs n (n+m+a) W).getD j 0=(if j<n then W.getD j 0 else 0) from zBN hj]
 unfold zI8
 by_cases h1:j=n+m+a
 ·rw [if_pos ⟨h1,kK⟩,if_neg kK,if_neg kK,if_pos h1]
 ·rw [if_neg (fun q=>h1 q.1)]
  by_cases h2:j=n+i
  ·rw [if_pos ⟨h2,kK⟩,if_neg kK,if_pos h2]
  ·rw [if_neg (fun q=>h2 q.1)]
   by_cases h3:j<n
   ·rw [if_pos h3,if_pos h3]
   ·rw [if_neg h3,if_neg h3,if_neg h2,if_neg h1]
theorem neg_base {n m a i:Nat}{W:List Int}:chg (fun j=> -((zE6 n m a W i).getD j 0)) 0 (zE6 n m a W i) (n+m+a+1)=(zE6 n m a W i).map (fun x=> -x):=by
 have e:=zFF (fun j=> -((zE6 n m a W i).getD j 0)) 0 (zE6 n m a W i)
 rw [zDr] at e
 rw [e]
 refine zDQ (n:=n+m+a+1) kJ (by rw [List.length_map];exact zDr ..) (fun j hj=> ?_)
 rw [show ((List.range (n+m+a+1)).map (fun j=> -((zE6 n m a W i).getD j 0))).getD j 0= -((zE6 n m a W i).getD j 0) from zBN hj,zBg _ _ 0 _ _ (by rw [zDr];exact hj)]
theorem row_neg {n m a i k:Nat}{W:List Int}(hk:k<a):((zE6 n m a W i).map (fun x=> -x)).set (n+m+k) 1=zDb n m a W i true k:=by
 refine zDQ (n:=n+m+a+1) (by rw [List.length_set,List.length_map];exact zDr ..) (by simp [zDb]) (fun j hj=> ?_)
 rw [Go.Ax.Dt.getD_set,List.length_map,zDr,show (zDb n m a W i true k).getD j 0=zHv n m a W i true k j from zBN hj]
 unfold zHv
 rw [if_pos rfl]
 by_cases h:j=n+m+k
 ·rw [if_pos ⟨h,kK⟩,if_pos h]
 ·rw [if_neg (fun q=>h q.1),if_neg h,zBg _ _ 0 _ _ (by rw [zDr];exact hj)]
  exact congrArg (fun x:Int=> -x) (zBN hj)
theorem row_pos {n m a i k:Nat}{W:List Int}:zE6 n m a W i=zDb n m a W i false k:=rfl
theorem zLp {α:Type}(l:List α)(d:α){i:Nat}(hi:i<l.length):l.take (i+1)=l.take i++[l.getD i d]:=by
 rw [List.take_add_one,zCC d hi]
 simp [hi]
end Go.Ax.Sx
namespace Go.Ax
variable [Pins]
open Go.RowKit
theorem zU.cutR {P:Program}{f:FuncId}{args:List AV}{H:zO}{fix:Nat→Prop}{K K':AV→zO→Prop}(hc:zU P f args H fix K)(hK: ∀r H',K r H'→ ∃H0 H1,H'=H0++H1∧(∀h,fix h→h<H0.length)∧(∀(h:Nat) (o:AObj),H0[h]? =some (some o)→zBM H0.length o.c)∧zCV H0.length r=true∧K' r H0):zU P f args H fix K':=by
 refine ⟨hc.1,fun w σ S vals h0 h1 h2 h3=>Calls.mono (hc.2 w σ S vals h0 h1 h2 h3) fun e w' he=> ?_⟩
 obtain ⟨v,r,σ',S',H',g1,g2,g3,g4,g5⟩:=he
 obtain ⟨H0,H1,rfl,hf,hbH,hbr,hk⟩:=hK _ _ g5
 have hs: ∀h,h<H0.length→cutσ H0.length σ' h=σ' h:=fun h hl=>if_pos hl
 have hget: ∀{h:Nat} {o:AObj},H0[h]? =some (some o)→h<H0.length∧(H0++H1)[h]? =some (some o):=by
  intro h o ho
  have hl:h<H0.length:=(List.getElem?_eq_some_iff.1 ho).1
  exact ⟨hl,by rw [List.getElem?_append_left hl];exact ho⟩
 refine ⟨v,r,cutσ H0.length σ',S',H0,g1,⟨fun h o ho=> ?_,fun h h' o o' b s C s' C' q1 q2 e1 e2=> ?_,g2.small,fun h hl=>if_neg kK⟩,g3.cutv hbr _ hs,⟨g4.os,g4.output,g4.tape,g4.size,g4.block,g4.S1,g4.S2,fun h hh=>by rw [hs h (hf h hh)];exact g4.fixed h hh,hf,fun h o b s C q e=> ?_⟩,hk⟩
 ·obtain ⟨hl,ho'⟩:=hget ho
  rw [hs h hl]
  rcases g2.live h o ho' with g|⟨b,C,cur,k1,k2,k3,k4,k5,k6,k7⟩
  ·exact .inl g
  ·refine .inr ⟨b,C,cur,k1,k2.cutv (fun ks vs hc=>(hbH h o ho).mp hc) hs,k3,k4,k5,k6,fun i j hi hj=> ?_⟩
   obtain ⟨v,m1,m2,m3⟩:=k7 i j hi hj
   exact ⟨v,m1,m2.cutv ((hbH h o ho).row i j hi hj) _ hs,m3⟩
 ·obtain ⟨hl,ho⟩:=hget q1
  obtain ⟨hl',ho'⟩:=hget q2
  rw [hs h hl] at e1
  rw [hs h' hl'] at e2
  exact g2.dist h h' o o' b s C s' C' ho ho' e1 e2
 ·obtain ⟨hl,ho⟩:=hget q
  rw [hs h hl] at e
  exact g4.own h o b s C ho e
theorem zGt {P:Program}{fr:Fr}{H:zO}{t h:Nat}{ty oty:TypeId}{l:List AV}{fs:Array Field}{i:TypeInfo}(hl:look t fr=some (.ptr h 0 0))(hh:H[h]? =some (some ⟨oty,.box l⟩))(hu:P.underlying ty=some (.struct fs))(hi:P.info? ty=some i)(hsz:Nat.beq i.size l.length=true):
 zHR P fr H [.cell t ty]=some [.agg l]:=by
 have _p:= ‹Pins›
 simp only [zHR,zN2,hl,hh,hu,hi,hsz]
 rfl
theorem px_c {P:Program}{fn:Func}{c:Ctx}{H:zO}{all:Array Oper}{K0:Fr}{i:Nat}{r:List Nat}{st:Steps}{G:Steps→Prop}{d:Nat}{g:Operand}{args:List Operand}{ats:Array TypeId}{ty:TypeId}{pos:String}{after:Array Edge}{f:FuncId}{caps ags ags':List AV}{v:AV}{K:Fr}(hi:all[i]? =some ⟨some d,.call {callee:= .value g,args:=args.toArray,argTypes:=ats},ty,pos,after,none⟩)(hK:zGf st K0 ⟨some d,.call {callee:= .value g,args:=args.toArray,argTypes:=ats},ty,pos,after,none⟩=K)(hg:ev K g=some (.fn f caps))(ha:evs K args=some ags)(has:ags++caps=ags')(hcall:zU P f ags' H (fun h=>h<H.length) (fun r' H'=>r'=v∧H'=H))(h:zEi P fn c H all K0 r ((i,d,v)::st) G):zEi P fn c H all K0 (i::r) st G:=
 zKm hi (hK▸fun k fr hk h2=>zCw (zJK hk hg) (zJy hk ha) has hcall (fun _ h=>h) (fun _ h=>h) (fun r H' e=>by obtain ⟨rfl,rfl⟩:=e;exact h2)) h
end Go.Ax
namespace Go.Ax
variable [Pins]
open Go.RowKit
def mvσ (σ:Nat→Option Blk)(h1 h2:Nat):Nat→Option Blk:=fun h=>if h=h1 then σ h2 else σ h
def mvH (H:zO)(h1 h2:Nat)(o:AObj):zO:=((zp h1 H).set h1 (some ⟨o.ty,o.c.forget h1⟩)).set h2 none
theorem zJR {H:zO}{h1 h2:Nat}{o:AObj}(hne:h1≠h2)(h1H:h1<H.length){h:Nat}{o':AObj}(hh:(mvH H h1 h2 o)[h]? =some (some o')):
 (h=h1∧o'=⟨o.ty,o.c.forget h1⟩)∨(h≠h1∧h≠h2∧ ∃o0:AObj,H[h]? =some (some o0)∧o'=⟨o0.ty,o0.c.forget h1⟩):=by
 unfold mvH at hh
 by_cases e2:h=h2
 ·exfalso
  subst e2
  rw [List.getElem?_set] at hh
  rw [if_pos rfl] at hh
  split at hh<;>cases hh
 rw [List.getElem?_set_ne (fun q=>e2 q.symm)] at hh
 by_cases e1:h=h1
 ·subst e1
  rw [List.getElem?_set_self (by rw [zBE];exact h1H)] at hh
  cases hh
  exact .inl ⟨Z,Z⟩
 ·rw [List.getElem?_set_ne (fun q=>e1 q.symm),zFw] at hh
  cases hx:H[h]? with
  |none=>rw [hx] at hh;cases hh
  |some x=>
   rw [hx] at hh
   cases x with
   |none=>cases hh
   |some o0=>cases hh;exact .inr ⟨e1,e2,o0,rfl,rfl⟩
theorem Rep.move {c:Ctx}{w:World}{a:Act}{σ:Nat→Option Blk}{S:Nat→Prop}{n:Nat}{fr:Fr}{H:zO}(hr:Rep c w a σ S n fr H)(h1 h2 t len:Nat){o:AObj}(hne:h1≠h2)(h1H:h1<H.length)(h2o:H[h2]? =some (some o))(hf1: ¬c.fix h1)(hl:look t fr=some (.sl h2 0 len)):Rep c w a (mvσ σ h1 h2) S n ((t,.sl h1 0 len)::zCQ h1 fr) (mvH H h1 h2 o):=by
 have hv: ∀{x v},VR w S σ x v→VR w S (mvσ σ h1 h2) (x.forget h1) v:=fun h=>h.forget _ (fun h' q=>if_neg q)
 have s1:mvσ σ h1 h2 h1=σ h2:=if_pos rfl
 have s2: ∀h,h≠h1→mvσ σ h1 h2 h=σ h:=fun h q=>if_neg q
 have hlen:(mvH H h1 h2 o).length=H.length:=by unfold mvH;rw [List.length_set,List.length_set,zBE]
 have key: ∀(h:Nat) (o0:AObj),H[h]? =some (some o0)→((σ h=some .nowhere∧(o0.c.forget h1).len=0)∨
  ∃b C cur,σ h=some (.at b (o0.c.forget h1).sz C)∧Lays w S (mvσ σ h1 h2) ⟨o0.ty,o0.c.forget h1⟩ b cur C∧cur.size=C*(o0.c.forget h1).sz∧C≤maxLen+1∧(o0.c.forget h1).len≤C∧ ¬S b∧
  ∀i j,i<(o0.c.forget h1).len→j<(o0.c.forget h1).sz→ ∃v,cur[i*(o0.c.forget h1).sz+j]? =some v∧VR w S (mvσ σ h1 h2) ((o0.c.forget h1).at i j) v∧v.oneCell'=true):=by
  intro h o0 ho0
  rw [Cells.forget_len,Cells.forget_sz]
  rcases hr.hr.live h o0 ho0 with g|⟨b,C,cur,g1,g2,g3,g4,g5,g6,g7⟩
  ·exact .inl g
  ·refine .inr ⟨b,C,cur,g1,g2.forget Z hv,g3,g4,g5,g6,fun i j hi hj=> ?_⟩
   obtain ⟨v,k1,k2,k3⟩:=g7 i j hi hj
   exact ⟨v,k1,by rw [Cells.forget_at _ _ _ _ hj];exact hv k2,k3⟩
 refine ⟨⟨fun h o' ho=> ?_,fun h h' o1 o1' b s C s' C' q1 q2 e1 e2=> ?_,hr.hr.small,fun h hl'=> ?_⟩,⟨hr.kp.os,hr.kp.output,hr.kp.tape,hr.kp.size,hr.kp.block,hr.kp.S1,hr.kp.S2,fun h hh=> ?_,fun h hh=> ?_,fun h o' b s C q e=> ?_⟩,hr.defers,hr.size,fun t' v hl'=> ?_⟩
 ·rcases zJR hne h1H ho with ⟨rfl,rfl⟩|⟨g1,g2,o0,g3,rfl⟩
  ·rw [s1];exact key h2 o h2o
  ·rw [s2 h g1];exact key h o0 g3
 ·rcases zJR hne h1H q1 with ⟨rfl,rfl⟩|⟨g1,g2,o0,g3,rfl⟩
  ·rcases zJR hne h1H q2 with ⟨rfl,rfl⟩|⟨k1,k2,o0',k3,rfl⟩
   ·rfl
   ·rw [s1] at e1
    rw [s2 h' k1] at e2
    exact absurd (hr.hr.dist h2 h' o o0' b s C s' C' h2o k3 e1 e2) (fun q=>k2 q.symm)
  ·rcases zJR hne h1H q2 with ⟨rfl,rfl⟩|⟨k1,k2,o0',k3,rfl⟩
   ·rw [s1] at e2
    rw [s2 h g1] at e1
    exact absurd (hr.hr.dist h h2 o0 o b s C s' C' g3 h2o e1 e2) g2
   ·rw [s2 h g1] at e1
    rw [s2 h' k1] at e2
    exact hr.hr.dist h h' o0 o0' b s C s' C' g3 k3 e1 e2
 ·rw [hlen] at hl'
  rw [s2 h kK];exact hr.hr.dom h hl'
 ·rw [s2 h (fun q=>hf1 (q▸hh))];exact hr.kp.fixed h hh
 ·rw [hlen];exact hr.kp.fixlt h hh
 ·rcases zJR hne h1H q with ⟨rfl,rfl⟩|⟨g1,g2,o0,g3,rfl⟩
  ·rw [s1] at e;exact hr.kp.own h2 o b s C h2o e
  ·rw [s2 h g1] at e;exact hr.kp.own h o0 b s C g3 e
 ·have hsl:=hr.slots t _ hl
  simp only [look] at hl'
  cases hb:Nat.beq t' t with
  |true=>
   rw [hb] at hl'
   have et:=Nat.eq_of_beq_eq_true hb
   subst et
   cases hl'
   refine ⟨hsl.1,?_⟩
   have h2:=hsl.2
   generalize a.tmps.getD t' undef=x at h2
   cases h2 with
   |sl _ _ _ _ b s C cap e1 e2 e3=>exact .sl _ _ _ _ _ _ _ _ (by rw [s1];exact e1) e2 e3
   |sl0 _ _ e=>exact .sl0 _ _ (by rw [s1];exact e)
  |false=>
   rw [hb] at hl'
   have hl':look t' (zCQ h1 fr)=some v:=hl'
   rw [zED] at hl'
   cases hx:look t' fr with
   |none=>rw [hx] at hl';cases hl'
   |some v0=>
    rw [hx] at hl'
    cases hl'
    have hs:=hr.slots t' v0 hx
    exact ⟨hs.1,hv hs.2⟩
section
variable {P:Program}{fn:Func}{c:Ctx}{fr:Fr}{H:zO}{k:List It}
theorem zQh {x:Code}(h1 h2 t len:Nat){o:AObj}(hne:h1≠h2)(h1H:h1<H.length)(h2o:H[h2]? =some (some o))(hf1: ¬c.fix h1)(hl:look t fr=some (.sl h2 0 len))(hk:Ax P fn c (.code x k) ((t,.sl h1 0 len)::zCQ h1 fr) (mvH H h1 h2 o)):Ax P fn c (.code x k) fr H:=
 fun w a σ S hr=>hk w a _ S (hr.move h1 h2 t len hne h1H h2o hf1 hl)
end
theorem zGE {fr K:Fr}(h:zCY fr K): ∀{xs:List (Nat×Operand)} {l:List (Nat×AV)},zC8 K xs=some l→zC8 fr xs=some l
 |[],l,he=>he
 |(n,x)::r,l,he=>by
  simp only [zC8] at he⊢
  split at he
  ·rename_i v hv
   split at he
   ·rename_i q hq
    rw [zJK h hv,zGE h hq]
    exact he
   ·cases he
  ·cases he
theorem px_b {P:Program}{fn:Func}{c:Ctx}{H:zO}{all:Array Oper}{K0:Fr}{i:Nat}{r:List Nat}{st:Go.Ax.Steps}{G:Go.Ax.Steps→Prop}{d:Nat}{t e:TypeId}{n:Nat}{parts:List (Nat×Operand)}{ty:TypeId}{pos:String}{after:Array Edge}{it:TypeInfo}{z:Value}{zs L:List AV}{l:List (Nat×AV)}{cl:Cells}{K:Fr}(hi:all[i]? =some ⟨some d,.buildSlice t n parts.toArray,ty,pos,after,none⟩)(hK:zGf st K0 ⟨some d,.buildSlice t n parts.toArray,ty,pos,after,none⟩=K)(ht:P.underlying t=some (.slice e))(hinf:P.info? e=some it)(hz:it.zero=some z)(hzs:zav z=some zs)(hsz:it.size=zs.length)(hpos:Nat.blt 0 zs.length=true)(hsmall:Nat.ble (n*zs.length) 16777216=true)(hl:zC8 K parts=some l)(hf:zGb (fun i=>some (i*zs.length,zs.length)) (zDl zs n) l=some L)(hcl:zCE n zs.length L=cl)(hn:noRef.noRefs L=true)(h:zEi P fn c H all K0 r ((i,d,.ro cl 0 n)::st) G):zEi P fn c H all K0 (i::r) st G:=
 zKm hi (hK▸fun k fr hk h2=>ze ht hinf hz hzs hsz hpos hsmall (zGE hk hl) hf hcl hn h2) h
end Go.Ax
namespace Go.Ax
variable [Pins]
open Go.RowKit
section
variable {P:Program}{fn:Func}{c:Ctx}{fr:Fr}{H:zO}{k:List It}
theorem zKW {w:World}{size:Nat}{a:Option Addr}{m cap:Nat}:(Builtin.firstCells size 0 (.slice a m cap)).run P w= .ok #[] w:=by
 have _p:= ‹Pins›
 cases a with
 |none=>rfl
 |some a=>
  show (loadCells a (0*size)).run P w=_
  rw [Nat.zero_mul];rfl
theorem ax_copy0 {all:Array Oper}{d:Nat}{t tx e:TypeId}{x y:Operand}{ty:TypeId}{pos:String}{after:Array Edge}{rest:List Oper}{inf:TypeInfo}{h i n:Nat}{h2 i2:Nat}(ht:P.underlying t=some (.slice e))(hi:P.info? e=some inf)(hx:ev fr x=some (.sl h i n))(hy:ev fr y=some (.sl h2 i2 0))(hk:Ax P fn c (.ops false all rest k) ((d,.int .i64 0)::fr) H):Ax P fn c (.ops false all (⟨some d,.call {callee:= .builtin .copy,args:= #[x,y],argTypes:= #[t,tx]},ty,pos,after,none⟩::rest) k) fr H:=by
 refine ax_w (fun w a σ S hr=> ?_) hk
 have h1:=hr.evAt hx
 have h2:=hr.evAt hy
 have hexec: ∀r w',(Builtin.copy_ #[t,tx] ty #[a.eval x,a.eval y]).run P w= .ok r w'→(execOp a.eval ⟨some d,.call {callee:= .builtin .copy,args:= #[x,y],argTypes:= #[t,tx]},ty,pos,after,none⟩).run P w= .ok (.value r) w':=by
  intro r w' h
  simp [execOp,resolve,invoke,builtin,h]
 generalize hzx:a.eval x=vx at h1 hexec
 generalize hzy:a.eval y=vy at h2 hexec
 have key: ∀(ax ay:Option Addr) (lx cx cy:Nat),(Builtin.copy_ #[t,tx] ty #[.slice ax lx cx,.slice ay 0 cy]).run P w= .ok (.int .i64 (0:Nat)) w:=by
  intro ax ay lx cx cy
  have hf:=zKW (P:=P) (w:=w) (size:=inf.size) (a:=ay) (m:=0) (cap:=cy)
  have hm:Nat.min 0 lx=0:=Nat.zero_min lx
  cases ax with
  |none=>simp [Builtin.copy_,run_underlying ht,sizeOf,typeInfo,hi,Builtin.lenOf,hm,hf,goInt]
  |some ad=>simp [Builtin.copy_,run_underlying ht,sizeOf,typeInfo,hi,Builtin.lenOf,hm,hf,goInt,storeCells]
 cases h1 with
 |sl0 _ _ hσ=>
  cases h2 with
  |sl0 _ _ hσ2=>exact ⟨_,_,σ,S,hexec _ _ (key _ _ _ _ _),hr,.int _ _ _⟩
  |sl _ _ _ _ b s C cap hσ2 hlen hcap=>exact ⟨_,_,σ,S,hexec _ _ (key _ _ _ _ _),hr,.int _ _ _⟩
 |sl _ _ _ _ b s C cap hσ hlen hcap=>
  cases h2 with
  |sl0 _ _ hσ2=>exact ⟨_,_,σ,S,hexec _ _ (key _ _ _ _ _),hr,.int _ _ _⟩
  |sl _ _ _ _ b s C cap hσ2 hlen hcap=>exact ⟨_,_,σ,S,hexec _ _ (key _ _ _ _ _),hr,.int _ _ _⟩
end
end Go.Ax
namespace Go.Ax.Sx
open Go.Ax.Dt Go.Ax.Rt Go.Ax.Bg
theorem last0 (p:Prog)(s:St):chg (fun q=> -((zAt p.C).getD q 0)*s.den) 0 (List.replicate (p.N+1) 0) p.n=zDV (zBf p) p.N s 0:=by
 have hw:=zGO p
 refine zDQ (n:=p.N+1) (by rw [zC7];simp) (zH6 ..) (fun j hj=> ?_)
 rw [zDN _ _ _ (by simpa using hj),zH5 hj]
 show _=s.den*zBf p j-0
 unfold zBf
 by_cases h:j<p.n
 ·rw [if_pos h,if_pos h,Int.sub_zero,Int.mul_comm]
 ·rw [if_neg h,if_neg h,Int.mul_zero,Int.sub_zero]
  simp [List.getD,hj]
theorem zQv {p:Prog}{k:Nat}(hk:p.Dig k)(j:Nat):(zBf p j).natAbs≤10^p.E k:=by
 unfold zBf
 split
 ·rename_i h
  rw [Int.natAbs_neg];exact zKG hk h
 ·exact Nat.zero_le _
theorem zR2 {p:Prog}{k E:Nat}{s:St}{i j:Nat}(hk:p.Dig k)(hi:i≤98)(h: ∀q,q<i→(at2 s.rows q j).natAbs≤10^E)(hd:s.den.natAbs≤10^E)(hj:j<p.N+1):((zDV (zBf p) p.N s i).getD j 0).natAbs≤10^(p.E k+E+2):=by
 rw [zH5 hj]
 have h1:=zLl (B:=10^(p.E k+E)) (n:=i) (f:=fun q=>zBf p (s.basis.getD q 0)*at2 s.rows q j) (fun q hq=>by
  show (zBf p (s.basis.getD q 0)*at2 s.rows q j).natAbs≤_
  rw [Int.natAbs_mul,Nat.pow_add]
  exact Nat.mul_le_mul (zQv hk _) (h q hq))
 have h2:(s.den*zBf p j).natAbs≤10^(p.E k+E):=by
  rw [Int.natAbs_mul,Nat.pow_add,Nat.mul_comm]
  exact Nat.mul_le_mul (zQv hk _) hd
 have h3:=Int.natAbs_sub_le (s.den*zBf p j) (zAE (fun q=>zBf p (s.basis.getD q 0)*at2 s.rows q j) i)
 have h4:i*10^(p.E k+E)≤98*10^(p.E k+E):=Nat.mul_le_mul_right _ hi
 rw [Nat.pow_add]
 generalize 10^(p.E k+E)=B at*
 omega
theorem zRz {p:Prog}{j:Nat}(h: ¬(j<p.n∧(zAt p.C).getD j 0≠0)):zBf p j=0:=by
 unfold zBf
 split
 ·rename_i h1
  have:(zAt p.C).getD j 0=0:=Decidable.byContradiction (fun q=>h ⟨h1,q⟩)
  rw [this];rfl
 ·rfl
theorem cosK_neg {p:Prog}{j:Nat}(h:j<p.n): -(zBf p j)=(zAt p.C).getD j 0:=by
 unfold zBf
 rw [if_pos h,Int.neg_neg]
theorem yL_as (p:Prog)(s:St)(d:Int):yL p s d=(List.range p.m).map (fun i=>((List.range p.m).map (fun i=>Rat.divInt (at2 s.rows p.m (p.n+i)) d)).getD i 0*(((((List.range p.m).map p.fac).getD i 0:Nat)):Rat)):=by
 unfold yL
 refine List.map_congr_left (fun i hi=> ?_)
 have hi:i<p.m:=by simpa using hi
 rw [show ((List.range p.m).map (fun i=>Rat.divInt (at2 s.rows p.m (p.n+i)) d)).getD i 0=Rat.divInt (at2 s.rows p.m (p.n+i)) d from zDp hi,show ((List.range p.m).map p.fac).getD i 0=p.fac i from zDp hi]
theorem zSo {p:Prog}{K L:Nat}(h:0<p.a∧at2 (zCW p K).rows p.m p.N<0):zD1 p K L=⟨1,[],yL p (zCW p K) (zCW p K).den,[],0⟩:=by unfold zD1;rw [if_pos h]
theorem zSn {p:Prog}{K L:Nat}(h: ¬(0<p.a∧at2 (zCW p K).rows p.m p.N<0))(h2:zCb p.m (p.n+p.m) (zD2 p K L)<p.n+p.m):zD1 p K L=⟨2,zB0 p (zD2 p K L),[],zIS p (zD2 p K L) (zCb p.m (p.n+p.m) (zD2 p K L)),0⟩:=by unfold zD1;rw [if_neg h,if_pos h2]
theorem zSm {p:Prog}{K L:Nat}(h: ¬(0<p.a∧at2 (zCW p K).rows p.m p.N<0))(h2: ¬zCb p.m (p.n+p.m) (zD2 p K L)<p.n+p.m):zD1 p K L=⟨0,zB0 p (zD2 p K L),yL p (zD2 p K L) ((zD2 p K L).den*(p.fc:Nat)),[],Rat.divInt (at2 (zD2 p K L).rows p.m p.N) ((zD2 p K L).den*(p.fc:Nat))⟩:=by unfold zD1;rw [if_neg h,if_neg h2]
theorem col_le (p:Prog)(s:St):zCb p.m (p.n+p.m) s≤p.n+p.m:=Nat.le_trans (zFf s.rows p.m (p.n+p.m) 0).2.1 kK
end Go.Ax.Sx
namespace Go.Ax
variable [Pins]
open Go.RowKit
section
variable {ind:Bool}{P:Program}{fn:Func}{c:Ctx}{fr:Fr}{H:zO}{k:List It}
variable {d:Option Nat}{ty:TypeId}{pos:String}{after:Array Edge}{g:Option (Nat×Bool)}
theorem zOz {x x1 x2 x3:Operand}{t e:TypeId}{cl:Cells}{i n:Nat}{k1 k2 k3:IntKind}{l h m:Int}(ht:P.underlying t=some (.slice e))(hs:(P.info? e).map (·.size)=some cl.sz)(hx:ev fr x=some (.ro cl i n))(h1:ev fr x1=some (.int k1 l))(h2:ev fr x2=some (.int k2 h))(h3:ev fr x3=some (.int k3 m))(hb:0≤l∧l≤h∧h≤m∧m≤n):
 QOp ind P fn c fr H ⟨d,.slice t x (some x1) (some x2) (some x3),ty,pos,after,g⟩ (.ro cl (i+l.toNat) (h-l).toNat):=by
 intro w a σ S hr
 have hxv:=hr.evAt hx
 have e1:=hr.evInt h1
 have e2:=hr.evInt h2
 have e3:=hr.evInt h3
 generalize hz:a.eval x=z at hxv
 have hsub:h.toNat-l.toNat=(h-l).toNat:=kK
 have hbs: ∀(w':World) (len cap:Nat),m≤cap→(Instr.sliceBounds true len cap (some (a.eval x1)) (some (a.eval x2)) (some (a.eval x3))).run P w'= .ok (l.toNat,h.toNat,m.toNat) w':=by
  intro w' len cap hc
  simp only [Instr.sliceBounds,Sem.run_bind,Sem.run_pure,Result.andThen_ok,zCG (P:=P) e3 (show 0≤m∧m≤cap by omega),zCG (P:=P) (w:=w') (y:=m.toNat) e2 (show 0≤h∧h≤((m.toNat:Nat):Int) by omega),zCG (P:=P) (w:=w') (y:=h.toNat) e1 (show 0≤l∧l≤((h.toNat:Nat):Int) by omega)]
 cases hxv with
 |ro0 _ _ _ ad cap=>
  have hm:m=0:=kK
  have hn:h=0:=kK
  have hl:l=0:=kK
  subst hm hn hl
  refine ⟨.slice ad 0 0,.ro0 _ _ _ _ _,fun w' _=> ?_⟩
  have hb':=hbs w' 0 cap kK
  cases hq:P.info? e with
  |none=>simp [hq] at hs
  |some inf=>simp [execOp,hz,Instr.sliceAt,Instr.slice,run_underlying ht,hb',sizeOf,typeInfo,hq]
 |ro _ _ _ _ b o cap val hS hlen hc hv h1'=>
  have hget: ∀w',(execOp a.eval ⟨d,.slice t x (some x1) (some x2) (some x3),ty,pos,after,g⟩).run P w'= .ok (.value (.slice (if m.toNat=l.toNat then some ⟨b,o,none⟩ else some ⟨b,o+l.toNat*cl.sz,none⟩) (h-l).toNat (m.toNat-l.toNat))) w':=by
   intro w'
   have hb':=hbs w' n cap kK
   cases hq:P.info? e with
   |none=>simp [hq] at hs
   |some inf=>
    have hsz:inf.size=cl.sz:=by simpa [hq] using hs
    simp [execOp,hz,Instr.sliceAt,Instr.slice,run_underlying ht,hb',sizeOf,typeInfo,hq,hsub,hsz,Addr.add_lit]
  refine ⟨_,?_,fun w' _=>hget w'⟩
  by_cases h0:(h-l).toNat=0
  ·rw [h0];exact .ro0 _ _ _ _ _
  ·have hne: ¬m.toNat=l.toNat:=kK
   rw [if_neg hne]
   refine .ro _ _ _ _ _ _ _ (fun d j=>val (l.toNat+d) j) hS kK (fun d j hd hj=> ?_) (fun d j hd hj=> ?_) (fun d j hd hj=> ?_)
   ·have:=hc (l.toNat+d) j kK hj
    rw [Nat.add_mul,←Nat.add_assoc] at this
    exact this
   ·have:=hv (l.toNat+d) j kK hj
    rw [←Nat.add_assoc] at this
    exact this
   ·exact h1' (l.toNat+d) j kK hj
end
end Go.Ax
namespace Go.Ax
variable [Pins]
open Go.RowKit
section
variable {ind:Bool}{P:Program}{fn:Func}{c:Ctx}{fr:Fr}{H:zO}{k:List It}
variable {d:Option Nat}{ty:TypeId}{pos:String}{after:Array Edge}{g:Option (Nat×Bool)}
end
theorem AEq_agg {l l':List AV}(h:AEqs l l'):AEq (.agg l) (.agg l'):=by
 intro w S σ v hv
 have hl:=h.length
 cases hv with
 |agg _ _ vs h1 h2 h3=>exact .agg _ _ _ (h1.trans hl) (fun i hi=>h.get i kK _ _ _ _ (h2 i kK)) (fun i hi=>h3 i kK)
end Go.Ax
namespace Go.Ax
variable [Pins]
open Go.RowKit
theorem px_gb {P:Program}{fn:Func}{c:Ctx}{H:zO}{all:Array Oper}{K0:Fr}{i:Nat}{r:List Nat}{st:Go.Ax.Steps}{G:Go.Ax.Steps→Prop}{d:Nat}{t e:TypeId}{n:Nat}{parts:List (Nat×Operand)}{ty:TypeId}{pos:String}{after:Array Edge}{it:TypeInfo}{z:Value}{zs L:List AV}{l:List (Nat×AV)}{cl:Cells}{K:Fr}{j u:Nat}{p:Bool}(hi:all[i]? =some ⟨some d,.buildSlice t n parts.toArray,ty,pos,after,some (j,p)⟩)(hK:zGf st K0 ⟨some d,.buildSlice t n parts.toArray,ty,pos,after,some (j,p)⟩=K)(hy:zFC all j=some u)(hb:look u K=some (.bool p))(ht:P.underlying t=some (.slice e))(hinf:P.info? e=some it)(hz:it.zero=some z)(hzs:zav z=some zs)(hsz:it.size=zs.length)(hpos:Nat.blt 0 zs.length=true)(hsmall:Nat.ble (n*zs.length) 16777216=true)(hl:zC8 K parts=some l)(hf:zGb (fun i=>some (i*zs.length,zs.length)) (zDl zs n) l=some L)(hcl:zCE n zs.length L=cl)(hn:noRef.noRefs L=true)(h:zEi P fn c H all K0 r ((i,d,.ro cl 0 n)::st) G):zEi P fn c H all K0 (i::r) st G:=
 ⟨_,_,_,hi,rfl,hK▸zJ5 hy hb (fun k fr hk h2=>ze ht hinf hz hzs hsz hpos hsmall (zGE hk hl) hf hcl hn h2),h⟩
end Go.Ax
namespace Go.Ax.Mg
open Go.Ax.Dt Go.Ax.Rt Go.Ax.Bg Go.Ax.Sx
section
variable {M:List (List Rat)}{w:Nat}{v:Rat}{x y:List Rat}
theorem Sad.from_low (h:Sad M w v x y)(hM: ∀r∈M,r.length=w){z:List Rat}(z0: ∀i,i<M.length→0≤z.getD i 0)(zs:zAa (fun i=>z.getD i 0) M.length=1){a:Rat}(ha: ∀j,j<w→a≤zAQ (zB4 M j) z):a≤v:=by
 refine Rat.le_trans ?_ (h.high z0 zs)
 rw [←zOq hM]
 have h1:zAa (fun j=>a*y.getD j 0) w≤zAa (fun j=>zAQ (zB4 M j) z*y.getD j 0) w:=zEh (fun j hj=>zCf (h.y0 j hj) (ha j hj))
 rw [zDc,h.ys,Rat.mul_one] at h1
 exact h1
theorem Sad.from_high (h:Sad M w v x y)(hM: ∀r∈M,r.length=w){z:List Rat}(z0: ∀j,j<w→0≤z.getD j 0)(zs:zAa (fun j=>z.getD j 0) w=1){a:Rat}(ha: ∀i,i<M.length→zAQ (M.getD i []) z≤a):v≤a:=by
 refine Rat.le_trans (h.low hM z0 zs) ?_
 have h1:payN M x z≤zAa (fun i=>a*x.getD i 0) M.length:=zEh (fun i hi=>by
  rw [Rat.mul_comm];exact zCf (h.x0 i hi) (ha i hi))
 rw [zDc,h.xs,Rat.mul_one] at h1
 exact h1
end
theorem zRc (k:Nat): ∀{n:Nat},zAa (fun i=>if i=k then (1:Rat) else 0) n=if k<n then 1 else 0
 |0=>rfl
 |n+1=>by
  show zAa _ n+(if n=k then (1:Rat) else 0)=_
  rw [zRc k]
  by_cases h1:n=k
  ·rw [if_neg kK,if_pos h1,if_pos kK];exact Rat.zero_add 1
  ·rw [if_neg h1,Rat.add_zero]
   by_cases h2:k<n
   ·rw [if_pos h2,if_pos kK]
   ·rw [if_neg h2,if_neg kK]
theorem zK4 (f:Int×Int→Int)(x:Int×Int)(l:zB1)(i:Nat):cnt f (x::l) i=cnt f l i+(if f x=(i:Int) then 1 else 0):=by
 unfold cnt
 rw [List.filter_cons]
 by_cases h:f x=(i:Int)
 ·rw [if_pos (decide_eq_true h),if_pos h,List.length_cons]
 ·rw [if_neg (by rw [decide_eq_true_eq];exact h),if_neg h,Nat.add_zero]
theorem zNN (f:Int×Int→Int)(n:Nat): ∀(l:zB1),(∀x∈l,0≤f x∧f x<(n:Int))→zAa (fun i=>((cnt f l i:Nat):Rat)) n=((l.length:Nat):Rat)
 |[],_=>zFY n
 |x::l,h=>by
  have ih:=zNN f n l (fun y hy=>h y (List.mem_cons_of_mem _ hy))
  obtain ⟨h1,h2⟩:=h x (List.mem_cons_self ..)
  have e: ∀i,i<n→((cnt f (x::l) i:Nat):Rat)=((cnt f l i:Nat):Rat)+(if i=(f x).toNat then (1:Rat) else 0):=fun i _=>by
   rw [zK4]
   by_cases c:f x=(i:Int)
   ·rw [if_pos c,if_pos kK,Rat.natCast_add];rfl
   ·rw [if_neg c,if_neg kK,Rat.add_zero];rfl
  rw [zAo e,zHx,ih,zRc,if_pos kK,List.length_cons,Rat.natCast_add]
  rfl
theorem zOE (f:Int×Int→Int)(l:zB1){n i:Nat}(hi:i<n):(zFG f l n).getD i 0=((cnt f l i:Nat):Rat):=zDp hi
theorem zOF (f:Int×Int→Int)(l:zB1){n:Nat}(hl:l≠[])(h: ∀x∈l,0≤f x∧f x<(n:Int)):
 (∀i,i<n→0≤((zFG f l n).map (fun q=>q/((l.length:Nat):Rat))).getD i 0)∧zAa (fun i=>((zFG f l n).map (fun q=>q/((l.length:Nat):Rat))).getD i 0) n=1:=by
 have hpos:(0:Rat)<((l.length:Nat):Rat):=zEr (List.length_pos_iff.2 hl)
 have hne:((l.length:Nat):Rat)≠0:=fun e=>by rw [e] at hpos;exact Rat.lt_irrefl hpos
 have hi0:0≤(((l.length:Nat):Rat))⁻¹ :=Rat.le_of_lt (Rat.inv_pos.2 hpos)
 refine ⟨fun i hi=> ?_,?_⟩
 ·rw [zGx,zOE f l hi]
  refine Rat.mul_nonneg ?_ hi0
  exact (Rat.intCast_le_intCast (a:=0) (b:=((cnt f l i:Nat):Int))).2 (Int.natCast_nonneg _)
 ·rw [zAo (g:=fun i=>((cnt f l i:Nat):Rat)*(((l.length:Nat):Rat))⁻¹) (fun i hi=>by rw [zGx,zOE f l hi]),zC4,zNN f n l h]
  exact Rat.mul_inv_cancel _ hne
theorem zSR {m:List (List zAA)}{l:zB1}{K L:Nat}(S:Solv m K L)(h:(zBB m l).2=0):
 zDH (zBB m l).1.1=0∧zDH (zBB m l).1.2=0∧zDH (zE4 m K L).1.1=0∧zBl (zAG (zBB m l).1.1) (zAG (zE4 m K L).1.1)≤0∧zBl (zAG (zE4 m K L).1.1) (zAG (zBB m l).1.2)≤0:=by
 unfold zBB at h⊢
 split at h
 ·rename_i h1;exact absurd h h1
 split at h
 ·cases h
 rename_i h1 h2
 have h3:(zBd (lowQ (inM m) l (zS m)/(l.length:Nat)) && zBd (zIV (inM m) l (zS m)/(l.length:Nat)))=true:=by
  split at h
  ·assumption
  ·cases h
 rw [if_neg h1,if_neg h2,if_pos h3]
 obtain ⟨f1,f2⟩:=Bool.and_eq_true _ _▸h3
 have i1:=zHg f1
 have i2:=zHg f2
 obtain ⟨_,_,hx⟩:=zDo (Classical.not_not.1 h1)
 have eV:zAG (zE4 m K L).1.1=(zAu (inM m) (zS m) K L).1:=by rw [S.eq];exact S.v.2
 have eE:zDH (zE4 m K L).1.1=0:=by rw [S.eq];exact S.v.1
 have hpos:(0:Rat)<((l.length:Nat):Rat):=zEr (List.length_pos_iff.2 h2)
 have hi0:0≤(((l.length:Nat):Rat))⁻¹ :=Rat.le_of_lt (Rat.inv_pos.2 hpos)
 obtain ⟨p1,p2⟩:=zOF Prod.fst l (n:=(inM m).length) h2 (fun x hx'=>by rw [zB7];exact ⟨(hx x hx').1,(hx x hx').2.1⟩)
 obtain ⟨q1,q2⟩:=zOF Prod.snd l (n:=zS m) h2 (fun x hx'=>⟨(hx x hx').2.2.1,(hx x hx').2.2.2⟩)
 refine ⟨i1.1,i2.1,eE,?_,?_⟩
 ·show zBl (zAG (zr _)) _≤0
  rw [i1.2,eV]
  refine cmp_of (S.sad.from_low S.g.rows p1 p2 (fun j hj=> ?_))
  rw [zKe,Rat.div_def]
  refine zCf hi0 ?_
  have hb:=zMI (zEm (inM m) l (zS m)) (zS m) j hj
  unfold lowQ
  refine Rat.le_trans hb ?_
  have e:(zEm (inM m) l (zS m)).getD j 0=zAQ (zB4 (inM m) j) (zFG Prod.fst l (inM m).length):=by
   unfold zEm
   rw [zBg _ _ [] 0 j (by rw [zMN];exact hj),zRu _ hj]
  rw [e];exact Rat.le_refl
 ·show zBl _ (zAG (zr _))≤0
  rw [i2.2,eV]
  refine cmp_of (S.sad.from_high S.g.rows q1 q2 (fun i hi=> ?_))
  rw [zKe,Rat.div_def]
  refine zCf hi0 ?_
  have hb:=zMH (zFB (inM m) l (zS m)) m.length i (by rw [←zB7];exact hi)
  unfold zIV
  rw [zB7]
  refine Rat.le_trans ?_ hb
  have e:(zFB (inM m) l (zS m)).getD i 0=zAQ ((inM m).getD i []) (zFG Prod.snd l (zS m)):=by
   unfold zFB
   rw [zBg _ _ [] 0 i hi]
  rw [e];exact Rat.le_refl
end Go.Ax.Mg
namespace Go.Proofs.YtmpnheilfejcpaaGreatDoor
open Go.Ax
def pinG (w:World):Prop:=True
 ∧Lib.TabIs Tryz.prog w "internal/strconv.uint64pow10" .u64 Lib.pow10Tab
 ∧True
instance:Pins:=⟨fun w _=>pinG w⟩
theorem zS9 {n:String}{w w':World}(h: ∀b,b<w.heap.size→w'.heap[b]? =w.heap[b]?){cs:Array Value}(hv:w.var? Tryz.prog n=some cs):w'.var? Tryz.prog n=some cs:=by
 unfold World.var? at hv⊢
 cases hg:Tryz.prog.globalNamed n with
 |none=>simp [hg] at hv
 |some g=>
  simp only [hg,Option.bind_some] at hv⊢
  have hlt:g<w.heap.size:=by
   rcases Nat.lt_or_ge g w.heap.size with q|q
   ·exact q
   ·have:w.heap[g]? =none:=by simp [q]
    simp [this] at hv
  rw [h g hlt];exact hv
theorem pin_up {W:World}{S:Nat→Prop}(h:pinG W):zFZ W S (fun _=>none) []:=by
 intro w' S' _ _ hb
 have hb': ∀b,b<W.heap.size→w'.heap[b]? =W.heap[b]? :=fun b hl=>hb b hl (by rintro ⟨h,o,s,C,h1,_⟩;simp at h1)
 show pinG w'
 unfold pinG at h⊢
 obtain ⟨_,h⟩:=h
 obtain ⟨h1,h⟩:=h
 refine ⟨trivial,?_⟩
 refine ⟨zS9 hb' h1,?_⟩
 trivial
end Go.Proofs.YtmpnheilfejcpaaGreatDoor
namespace Go.Proofs.YtmpnheilfejcpaaGreatDoor
open Go.Ax Go.Ax.Bg Go.RowKit
attribute [local irreducible] Ax zB2 QOp zU
theorem norm_raw (l:List Int)(hl:Lim l)(hlen:l.length≤1000000000):zX Tryz.prog 215 [.ro (.ints .u32 l) 0 l.length] (.ro (.ints .u32 l) 0 (zW (zi l)).length):=by
 refine zU.value0 (zF (P:=Tryz.prog) (fn:=Tryz.f215) Z Z kQ Z (fun c hR hfix=> ?_)) (fix:=fun _=>False) (fun _ h=>h) Z Z
 refine rn1 ?_
 refine zb (ι:=Nat) (fun k=>[(0,.ro (.ints .u32 l) 0 k)]) (fun _=>[]) (fun k=>k≤l.length∧ ∀i,k≤i→i<l.length→l.getD i 0=0) (fun k=>k) l.length ⟨⟨Z,trivial⟩,Z,Nat.le_refl _,fun i h1 h2=>by omega⟩ ?_
 rintro k ⟨hk,hz⟩
 have fin:(k=0∨l.getD (k-1) 0≠0)→(zW (zi l)).length=k:=fun h=>by
  rw [←zSV hl hk hz h,List.length_take,Nat.min_eq_left hk]
 refine rn6 ?_
 refine zAm Z Z (fun h0=> ?_) (fun h0=> ?_)
 ·have hk1:0<k:=kK
  have e1:((k:Int)-1).toNat=k-1:=kK
  refine zEW ?_
  refine zB Z (fun h1=> ?_) (fun h1=> ?_)
  ·rw [e1] at h1
   refine rn19 ?_
   refine zI ⟨k-1,⟨kK,fun i h2 h3=> ?_⟩,kK,⟨?_,trivial⟩,Z⟩
   ·by_cases h4:i=k-1
    ·subst h4;exact h1
    ·exact hz i kK h3
   ·show some (AV.ro (.ints .u32 l) (0+0) _)=_
    congr 2
    omega
  ·rw [e1] at h1
   refine rn5 ?_
   exact zM hR Z (by rw [fin (.inr h1)];rfl)
 ·refine rn6 ?_
  exact zM hR Z (by rw [fin (.inl kK)];rfl)
theorem zEe (l:List Int)(hl:Lim l)(hlen:l.length≤1000000000):zX Tryz.prog 215 [zG6 l] (zm (zi l)):=by
 refine zX.res (norm_raw l hl hlen) ?_
 exact AEq.lim (zS3 hl) (zAh (zA6 hl))
theorem zHu (m:Nat)(hm:m<18446744073709551616):zX Tryz.prog 195 [.int .u64 (m:Nat)] (zm m):=by
 have hc:=zEe [((m%4294967296:Nat):Int),((m/2^32%4294967296:Nat):Int)] (by
  rw [Lim.cons];exact ⟨zEd m,Lim.one (zEd _)⟩) kJ
 have hv:zi [((m%4294967296:Nat):Int),((m/2^32%4294967296:Nat):Int)]=m:=by
  simp only [zi,Int.toNat_natCast]
  unfold B
  omega
 rw [hv] at hc
 refine zU.value0 (zF (P:=Tryz.prog) (fn:=Tryz.f195) Z Z kQ Z (fun c hR hfix=> ?_)) (fix:=fun _=>False) (fun _ h=>h) Z Z
 refine rn0 ?_
 refine zL (zHA (m:=m) Z Z Z zFp) ?_
 repeat (refine zL (zH rfl) ?_)
 refine zL (zHB (m:=m) (s:=32) Z Z Z) ?_
 refine zL (zHA Z Z Z zFp) ?_
 repeat (refine ze rfl rfl rfl rfl rfl rfl rfl rfl rfl rfl rfl ?_)
 refine zA Z Z Z hc (rn0 ?_)
 exact zM hR Z Z
theorem zNd {a b c:Nat}(ha:a<4294967296)(hb:b<4294967296)(hc:c<4294967296):a*b<18446744073709551616∧c+a*b<18446744073709551616:=by
 have:a*b≤4294967295*4294967295:=Nat.mul_le_mul kK kK
 omega
theorem zST (n:List Int)(x y:Nat)(hn:Lim n)(hlen:n.length≤100000000)(hx:x<4294967296)(hy:y<4294967296):
 zX Tryz.prog 200 [zG6 n,.int .u32 (x:Nat),.int .u32 (y:Nat)] (zm (zi n*x+y)):=by
 refine zU.value0 (zF (P:=Tryz.prog) (fn:=Tryz.f200) Z Z kQ Z (fun c hR hfix=> ?_)) (fix:=fun _=>False) (fun _ h=>h) Z Z
 refine rn3 ?_
 refine zBv Z Z Z Z Z Z Z Z (by show (0:Int)≤0∧_≤_∧(4:Int)*_≤_∧_;omega) (rn0 ?_)
 refine zL (zAe (m:=y) Z Z Z zBk kK) ?_
 refine zNI 0 (.ints .u32 []) Z ⟨Nat.zero_le _,Z,fun i j hi _=>absurd hi (Nat.not_lt_zero _)⟩ (rn3 ?_)
 refine zb (ι:=Nat×List Int×Nat) (fun p=>[(0,zG6 n),(1,.int .u32 (x:Nat)),(7,.sl 0 0 p.1),(8,.int .u64 (p.2.2:Nat)),(17,zG6 n),(18,iN n.length),(19,iN p.1)]) (fun p=>[some ⟨218,.ints .u32 p.2.1⟩])
  (fun p=>p.1≤n.length∧p.2.1.length=p.1∧Lim p.2.1∧p.2.2<4294967296∧zi p.2.1+B^p.1*p.2.2=zi (n.take p.1)*x+y) (fun p=>n.length-p.1) (0,[],y) ⟨⟨rfl,rfl,rfl,rfl,rfl,rfl,rfl,trivial⟩,rfl,Nat.zero_le _,rfl,Lim.nil,hy,by simp [zi]⟩ ?_
 rintro ⟨i,out,cr⟩ ⟨h1,h2,h3,h4,h5⟩
 simp only at*
 refine rn4 ?_
 refine zB Z (fun h6=> ?_) (fun h6=> ?_)
 ·have hil:i<n.length:=kK
  obtain ⟨d,hd,hdB⟩:=hn.nat i
  have hb:=zNd (a:=d) (b:=x) (c:=cr) hdB hx h4
  have hq:(cr+d*x)/4294967296<4294967296:=kK
  refine rn6 ?_
  refine zE 24 (.int .u32 (d:Nat)) Z (AEq.of_eq (by rw [hd])) ?_
  refine zL (zAe (m:=d) Z Z Z zBk kK) ?_
  repeat (refine zL (zH rfl) ?_)
  refine zL (zAe (m:=x) Z Z Z zBk kK) ?_
  refine zL (zJ7 Z Z zBk hb.1) ?_
  refine zL (zGJ Z Z zBk hb.2) (rn0 ?_)
  refine zL (zHA Z Z Z zFp) ?_
  repeat (refine ze rfl rfl rfl rfl rfl rfl rfl rfl rfl rfl rfl ?_)
  refine zq Z Z Z Z Z Z Z Z Z h2 Z Z (Nat.le_refl 1) Z (by show (i+1)*4≤_∧_;omega) (fun i j _ _=>rfl) (by rw [hfix];exact fun h=>h) (rn0 ?_)
  refine zL (zHB (s:=32) Z Z Z) (rn5 ?_)
  refine zI ⟨(i+1,out++[(((cr+d*x)%4294967296:Nat):Int)],(cr+d*x)/4294967296),⟨by simp only;omega,by simp [h2],Lim.append.2 ⟨h3,Lim.one (zEd _)⟩,hq,?_⟩,by simp only;omega,⟨Z,Z,Z,Z,Z,Z,Z,trivial⟩,Z⟩
  have:=zIy h2 h5 (c:=cr+d*x) (d:=d*x) rfl
  rw [zAF n i,hd,Int.toNat_natCast,Nat.add_mul,Nat.mul_assoc]
  simp only at this⊢
  rw [this]
  omega
 ·have hie:i=n.length:=kK
  subst hie
  rw [List.take_length] at h5
  refine rn5 ?_
  refine zL (zHA (m:=cr) Z Z Z zFp) ?_
  repeat (refine ze rfl rfl rfl rfl rfl rfl rfl rfl rfl rfl rfl ?_)
  refine zq Z Z Z Z Z Z Z Z Z h2 Z Z (Nat.le_refl 1) Z (by show (n.length+1)*4≤_∧_;omega) (fun i j _ _=>rfl) (by rw [hfix];exact fun h=>h) ?_
  have hl:Lim (out++[((cr%4294967296:Nat):Int)]):=Lim.append.2 ⟨h3,Lim.one (zEd _)⟩
  have hc:=zEe _ hl (by simp;omega)
  have hv:zi (out++[((cr%4294967296:Nat):Int)])=zi n*x+y:=by
   rw [zEa,h2,Int.toNat_natCast,Nat.mod_eq_of_lt h4];exact h5
  rw [hv] at hc
  refine zDg 0 42 (n.length+1) [] Z zAZ Z (by show _≤(out++[((cr%4294967296:Nat):Int)]).length;simp;omega) trivial ?_
  refine zA Z Z (by show [AV.ro _ 0 (n.length+1)]++[]=[zG6 (out++[((cr%4294967296:Nat):Int)])];simp only [zG6,List.length_append,h2];rfl) hc (rn0 ?_)
  exact zM hR Z Z
theorem isNaNi (n:Int):zX Tryz.prog 246 [.int .i64 n] (.bool false):=by
 refine zU.value0 (zF (P:=Tryz.prog) (fn:=Tryz.f246) Z Z kQ Z (fun c hR hfix=> ?_)) (fix:=fun _=>False) (fun _ h=>h) Z Z
 refine rn3 ?_
 refine zM hR Z ?_
 simp [zBs]
theorem isNaNu (n:Int):zX Tryz.prog 261 [.int .u32 n] (.bool false):=by
 refine zU.value0 (zF (P:=Tryz.prog) (fn:=Tryz.f261) Z Z kQ Z (fun c hR hfix=> ?_)) (fix:=fun _=>False) (fun _ h=>h) Z Z
 refine rn3 ?_
 refine zM hR Z ?_
 simp [zBs]
theorem cmpi (x y:Int):zX Tryz.prog 220 [.int .i64 x,.int .i64 y] (.int .i64 (zEl x y)):=by
 refine zU.value0 (zF (P:=Tryz.prog) (fn:=Tryz.f220) Z Z kQ Z (fun c hR hfix=> ?_)) (fix:=fun _=>False) (fun _ h=>h) Z Z
 refine rn0 ?_
 refine zA Z Z Z (isNaNi x) (rn0 ?_)
 refine zA Z Z Z (isNaNi y) (rn4 ?_)
 refine zB Z (fun h=> ?_) (fun h=> ?_)
 ·refine rn2 ?_
  refine zM hR Z ?_
  unfold zEl;rw [if_pos h];rfl
 ·refine rn6 ?_
  refine zB Z (fun h2=> ?_) (fun h2=> ?_)
  ·refine rn2 ?_
   refine zM hR Z ?_
   unfold zEl;rw [if_neg h,if_pos h2];rfl
  ·refine rn1 ?_
   refine zM hR Z ?_
   unfold zEl;rw [if_neg h,if_neg h2];rfl
theorem cmpu (x y:Int):zX Tryz.prog 238 [.int .u32 x,.int .u32 y] (.int .i64 (zEl x y)):=by
 refine zU.value0 (zF (P:=Tryz.prog) (fn:=Tryz.f238) Z Z kQ Z (fun c hR hfix=> ?_)) (fix:=fun _=>False) (fun _ h=>h) Z Z
 refine rn0 ?_
 refine zA Z Z Z (isNaNu x) (rn0 ?_)
 refine zA Z Z Z (isNaNu y) (rn4 ?_)
 refine zB Z (fun h=> ?_) (fun h=> ?_)
 ·refine rn2 ?_
  refine zM hR Z ?_
  unfold zEl;rw [if_pos h];rfl
 ·refine rn6 ?_
  refine zB Z (fun h2=> ?_) (fun h2=> ?_)
  ·refine rn2 ?_
   refine zM hR Z ?_
   unfold zEl;rw [if_neg h,if_pos h2];rfl
  ·refine rn1 ?_
   refine zM hR Z ?_
   unfold zEl;rw [if_neg h,if_neg h2];rfl
theorem zNM (a b:Nat)(ha:(zW a).length≤1000000000)(hb:(zW b).length≤1000000000):zX Tryz.prog 211 [zm a,zm b] (.int .i64 (zEl a b)):=by
 have c1:=cmpi (zW a).length (zW b).length
 refine zU.value0 (zF (P:=Tryz.prog) (fn:=Tryz.f211) Z Z kQ Z (fun c hR hfix=> ?_)) (fix:=fun _=>False) (fun _ h=>h) Z Z
 have la:=zAd a
 have lb:=zAd b
 have e1:=cmp_len a b
 have e2: ∀i,i<(zW a).length→(zW a).length=(zW b).length→(∀j,i<j→j<(zW a).length→(zW a).getD j 0=(zW b).getD j 0)→(zW a).getD i 0≠(zW b).getD i 0→zEl a b=zEl ((zW a).getD i 0) ((zW b).getD i 0):=fun i hi hl hj hne=>cmp_limb la lb hl hi hj hne
 have e3:(zW a).length=(zW b).length→(∀j,j<(zW a).length→(zW a).getD j 0=(zW b).getD j 0)→zEl a b=0:=cmp_same
 unfold zm
 generalize zW a=x at*
 generalize zW b=y at*
 generalize zEl (a:Int) (b:Int)=r at*
 refine rn3 ?_
 refine zB Z (fun h0=> ?_) (fun h0=> ?_)
 ·refine rn3 ?_
  refine zA Z Z Z c1 (rn2 ?_)
  refine zM hR Z ?_
  rw [e1 kK];rfl
 ·have hl:x.length=y.length:=kK
  refine rn7 ?_
  refine zb (ι:=Nat) (fun k=>[(0,.ro (.ints .u32 x) 0 x.length),(1,.ro (.ints .u32 y) 0 y.length),(5,.int .i64 ((k:Int)-1))]) (fun _=>[]) (fun k=>k≤x.length∧ ∀j,k≤j→j<x.length→x.getD j 0=y.getD j 0) (fun k=>k) x.length ⟨⟨Z,Z,Z,trivial⟩,Z,Nat.le_refl _,fun j h1 h2=>by omega⟩ ?_
  rintro k ⟨hk,hz⟩
  refine rn7 ?_
  refine zB Z (fun h1=> ?_) (fun h1=> ?_)
  ·have ek:((k:Int)-1).toNat=k-1:=kK
   refine rn1 ?_
   refine zEP kQ kQ Z (rn6 ?_)
   refine zB Z (fun h2=> ?_) (fun h2=> ?_)
   ·rw [ek] at h2
    have c2:=cmpu (x.getD (k-1) 0) (y.getD (k-1) 0)
    repeat (refine zAL ?_)
    refine zZ kQ ?_
    refine zR 0 Z kQ kQ kQ Z (zH Z) Z ?_
    refine zR 1 Z kQ kQ kQ Z (zH Z) Z ?_
    refine zR 2 Z kQ kQ kQ Z (zc Z Z Z Z (by first|(simp only [Nat.zero_add,Int.toNat_natCast,Int.toNat_zero];exact Z)|exact Z) kK) Z ?_
    refine zR 4 Z kQ kQ kQ Z (zH Z) Z ?_
    refine zR 5 Z kQ kQ kQ Z (zH Z) Z ?_
    refine zR 6 Z kQ kQ kQ Z (zc Z Z Z Z (by first|(simp only [Nat.zero_add,Int.toNat_natCast,Int.toNat_zero];exact Z)|exact Z) kK) Z ?_
    apply zn [(35,.int .u32 (x.getD ((k:Int)-1).toNat 0)),(39,.int .u32 (y.getD ((k:Int)-1).toNat 0))]
    ·intro fin
     refine zD (is:=[3,7]) kQ kJ Z ⟨fun o ho=> ?_,fun o ho=> ?_,trivial⟩
     all_goals (cases ho)
     ·refine rn6 ?_
      refine zD (is:=[7]) kQ kJ Z ⟨fun o ho=> ?_,trivial⟩
      all_goals (cases ho)
      refine rn6 ?_
      exact fin _ ⟨Z,Z,trivial⟩
     ·refine rn6 ?_
      refine zD (is:=[3]) kQ kJ Z ⟨fun o ho=> ?_,trivial⟩
      all_goals (cases ho)
      refine rn6 ?_
      exact fin _ ⟨Z,Z,trivial⟩
    refine zD (is:=[8]) kQ kJ Z ⟨fun o ho=> ?_,trivial⟩
    all_goals (cases ho)
    skip
    refine zA Z Z Z (by rw [ek];exact c2) (rn1 ?_)
    refine zR 9 Z kQ kQ kQ Z (zf Z) Z ?_
    refine zT kQ (rn6 ?_)
    refine zM hR Z ?_
    rw [e2 (k-1) kK hl (fun j h3 h4=>hz j kK h4) h2];rfl
   ·rw [ek] at h2
    refine rn7 ?_
    refine zI ⟨k-1,⟨kK,fun j h3 h4=> ?_⟩,kK,⟨Z,Z,?_,trivial⟩,Z⟩
    ·by_cases h5:j=k-1
     ·subst h5;exact Classical.not_not.1 h2
     ·exact hz j kK h4
    ·show some (AV.int .i64 _)=_
     congr 2
     omega
  ·refine rn5 ?_
   refine zM hR Z ?_
   rw [e3 hl (fun j h3=>hz j kK h3)];rfl
theorem zDw {out:List Int}{m:Nat}(h:out.length=m):[AV.ro (.ints .u32 out) 0 m]++[]=[zG6 out]:=by
 subst h;rfl
theorem add_ok (a b:Nat)(ha:(zW a).length≤100000000)(hb:(zW b).length≤100000000):zX Tryz.prog 210 [zm a,zm b] (zm (a+b)):=by
 refine zU.value0 (zF (P:=Tryz.prog) (fn:=Tryz.f210) Z Z kQ Z (fun c hR hfix=> ?_)) (fix:=fun _=>False) (fun _ h=>h) Z Z
 obtain ⟨p,q,hpq,hlen,hL⟩: ∃p q:Nat,p+q=a+b∧(zW q).length≤(zW p).length∧(((zW a).length<(zW b).length∧p=b∧q=a)∨(¬(zW a).length<(zW b).length∧p=a∧q=b)):=by
  rcases Nat.lt_or_ge (zW a).length (zW b).length with h|h
  ·exact ⟨b,a,kK,kK,.inl ⟨h,Z,Z⟩⟩
  ·exact ⟨a,b,Z,h,.inr ⟨kK,Z,Z⟩⟩
 have hpl:(zW p).length≤100000000:=by rcases hL with ⟨_,rfl,rfl⟩|⟨_,rfl,rfl⟩<;>assumption
 apply zAX (H:=[]) [(0,zm p),(1,zm q)]
 ·intro fin
  unfold zm at fin⊢
  refine rn4 ?_
  refine zB Z (fun h0=> ?_) (fun h0=> ?_)
  ·have:p=b∧q=a:=by
    rcases hL with h|h
    ·exact h.2
    ·exact absurd kK h.1
   obtain ⟨rfl,rfl⟩:=this
   skip
   refine zl Z ?_
   refine zBq ?_
   exact fin _ ⟨Z,Z,trivial⟩
  ·have:p=a∧q=b:=by
    rcases hL with h|h
    ·exact absurd kK h0
    ·exact h.2
   obtain ⟨rfl,rfl⟩:=this
   refine zBq ?_
   exact fin _ ⟨Z,Z,trivial⟩
 have hx:=zAd p
 have hy:=zAd q
 have hv:zi (zW p)+zi (zW q)=a+b:=by rw [zAK,zAK,hpq]
 unfold zm
 rw [←hv] at hR
 generalize zW p=x at*
 generalize zW q=y at*
 refine rn3 ?_
 refine zBv Z Z Z Z Z Z Z Z (by show (0:Int)≤0∧_≤_∧(4:Int)*_≤_∧_;omega) (rn3 ?_)
 refine zI7 0 (.ints .u32 []) Z ⟨Nat.zero_le _,Z,fun i j hi _=>absurd hi (Nat.not_lt_zero _)⟩ ?_
 refine zb (ι:=Nat×List Int×Nat) (fun p=>[(1,.ro (.ints .u32 y) 0 y.length),(5,.sl 0 0 p.1),(6,.int .u64 (p.2.2:Nat)),(20,.ro (.ints .u32 x) 0 x.length),(21,iN x.length),(22,iN p.1)]) (fun p=>[some ⟨218,.ints .u32 p.2.1⟩])
  (fun p=>p.1≤x.length∧p.2.1.length=p.1∧Lim p.2.1∧p.2.2<4294967296∧zi p.2.1+B^p.1*p.2.2=zi (x.take p.1)+zi (y.take p.1)) (fun p=>x.length-p.1) (0,[],0) ⟨⟨rfl,rfl,rfl,rfl,rfl,rfl,trivial⟩,rfl,Nat.zero_le _,rfl,Lim.nil,kV,by simp [zi]⟩ ?_
 rintro ⟨i,out,cr⟩ ⟨h1,h2,h3,h4,h5⟩
 simp only at*
 refine rn4 ?_
 refine zB Z (fun h6=> ?_) (fun h6=> ?_)
 ·have hil:i<x.length:=kK
  obtain ⟨d,hd,hdB⟩:=hx.nat i
  obtain ⟨e,he,heB⟩:=hy.nat i
  refine rn6 ?_
  refine zE 28 (.int .u32 (d:Nat)) Z (AEq.of_eq (by rw [hd])) ?_
  refine zL (zAe (m:=d) Z Z Z zBk kK) ?_
  refine zL (zGJ Z Z zBk kK) (rn4 ?_)
  apply zAX (H:=[some ⟨218,.ints .u32 out⟩]) [(1,.ro (.ints .u32 y) 0 y.length),(5,.sl 0 0 i),(6,.int .u64 (cr+d+e:Nat)),(20,.ro (.ints .u32 x) 0 x.length),(21,iN x.length),(22,iN i)]
  ·intro fin
   refine zB Z (fun h7=> ?_) (fun h7=> ?_)
   ·refine rn6 ?_
    refine zE 39 (.int .u32 (e:Nat)) Z (AEq.of_eq (by rw [he])) ?_
    refine zL (zAe (m:=e) Z Z Z zBk kK) ?_
    refine zL (zGJ Z Z zBk kK) ?_
    refine zBq ?_
    exact fin _ ⟨Z,Z,Z,Z,Z,Z,trivial⟩
   ·have he0:e=0:=by
     have:y.getD i 0=0:=by simp [List.getD,List.getElem?_eq_none (show y.length≤i by omega)]
     omega
    subst he0
    refine zBq ?_
    exact fin _ ⟨Z,Z,Z,Z,Z,Z,trivial⟩
  refine rn0 ?_
  refine zL (zHA Z Z Z zFp) ?_
  repeat (refine ze rfl rfl rfl rfl rfl rfl rfl rfl rfl rfl rfl ?_)
  refine zq Z Z Z Z Z Z Z Z Z h2 Z Z (Nat.le_refl 1) Z (by show (i+1)*4≤_∧_;omega) (fun i j _ _=>rfl) (by rw [hfix];exact fun h=>h) (rn0 ?_)
  refine zL (zHB (s:=32) Z Z Z) (rn5 ?_)
  exact zI ⟨(i+1,out++[(((cr+d+e)%4294967296:Nat):Int)],(cr+d+e)/4294967296),⟨by simp only;omega,by simp [h2],Lim.append.2 ⟨h3,Lim.one (zEd _)⟩,by simp only;omega,zN0 h2 h5 hd he⟩,by simp only;omega,⟨Z,Z,Z,Z,Z,Z,trivial⟩,Z⟩
 ·have hie:i=x.length:=kK
  subst hie
  rw [List.take_length,List.take_of_length_le hlen] at h5
  refine rn5 ?_
  refine zL (zHA (m:=cr) Z Z Z zFp) ?_
  repeat (refine ze rfl rfl rfl rfl rfl rfl rfl rfl rfl rfl rfl ?_)
  refine zq Z Z Z Z Z Z Z Z Z h2 Z Z (Nat.le_refl 1) Z (by show (x.length+1)*4≤_∧_;omega) (fun i j _ _=>rfl) (by rw [hfix];exact fun h=>h) ?_
  have hl:Lim (out++[((cr%4294967296:Nat):Int)]):=Lim.append.2 ⟨h3,Lim.one (zEd _)⟩
  have hc:=zEe _ hl (by simp;omega)
  have hv:zi (out++[((cr%4294967296:Nat):Int)])=zi x+zi y:=by
   rw [zEa,h2,Int.toNat_natCast,Nat.mod_eq_of_lt h4];exact h5
  rw [hv] at hc
  refine zDg 0 54 (x.length+1) [] Z zAZ Z (by show _≤(out++[((cr%4294967296:Nat):Int)]).length;simp;omega) trivial ?_
  refine zA Z Z (zDw (by simp [h2])) hc (rn0 ?_)
  exact zM hR Z Z
theorem sub_ok (a b:Nat)(hab:b≤a)(ha:(zW a).length≤100000000):zX Tryz.prog 212 [zm a,zm b] (zm (a-b)):=by
 refine zU.value0 (zF (P:=Tryz.prog) (fn:=Tryz.f212) Z Z kQ Z (fun c hR hfix=> ?_)) (fix:=fun _=>False) (fun _ h=>h) Z Z
 have hx:=zAd a
 have hy:=zAd b
 have hlen:(zW b).length≤(zW a).length:=zAh (by have:=zA6 hx;rw [zAK] at this;omega)
 have hva:zi (zW a)=a:=zAK a
 have hvb:zi (zW b)=b:=zAK b
 have haB:a<B^(zW a).length:=by have:=zA6 hx;rwa [zAK] at this
 unfold zm
 generalize zW a=x at*
 generalize zW b=y at*
 refine rn3 ?_
 refine zBv Z Z Z Z Z Z Z Z (by show (0:Int)≤0∧_≤_∧(4:Int)*_≤_∧_;omega) (rn3 ?_)
 refine zI7 0 (.ints .u32 []) Z ⟨Nat.zero_le _,Z,fun i j hi _=>absurd hi (Nat.not_lt_zero _)⟩ ?_
 refine zb (ι:=Nat×List Int×Nat) (fun p=>[(1,.ro (.ints .u32 y) 0 y.length),(5,.sl 0 0 p.1),(6,iN p.2.2),(13,.ro (.ints .u32 x) 0 x.length),(14,iN x.length),(15,iN p.1)]) (fun p=>[some ⟨218,.ints .u32 p.2.1⟩])
  (fun p=>p.1≤x.length∧p.2.1.length=p.1∧Lim p.2.1∧p.2.2≤1∧zi p.2.1+zi (y.take p.1)=zi (x.take p.1)+B^p.1*p.2.2) (fun p=>x.length-p.1) (0,[],0) ⟨⟨rfl,rfl,rfl,rfl,rfl,rfl,trivial⟩,rfl,Nat.zero_le _,rfl,Lim.nil,kV,by simp [zi]⟩ ?_
 rintro ⟨i,out,br⟩ ⟨h1,h2,h3,h4,h5⟩
 simp only at*
 refine rn4 ?_
 refine zB Z (fun h6=> ?_) (fun h6=> ?_)
 ·have hil:i<x.length:=kK
  obtain ⟨d,hd,hdB⟩:=hx.nat i
  obtain ⟨e,he,heB⟩:=hy.nat i
  refine rn6 ?_
  refine zE 20 (.int .u32 (d:Nat)) Z (AEq.of_eq (by rw [hd])) ?_
  refine zL (zGk (m:=d) Z Z Z kK) (rn7 ?_)
  apply zAX (H:=[some ⟨218,.ints .u32 out⟩]) [(1,.ro (.ints .u32 y) 0 y.length),(5,.sl 0 0 i),(9,.int .i64 ((d:Int)-(br:Int)-(e:Int))),(13,.ro (.ints .u32 x) 0 x.length),(14,iN x.length),(15,iN i)]
  ·intro fin
   refine zB Z (fun h7=> ?_) (fun h7=> ?_)
   ·refine rn6 ?_
    refine zE 32 (.int .u32 (e:Nat)) Z (AEq.of_eq (by rw [he])) ?_
    refine zL (zGk (m:=e) Z Z Z kK) ?_
    refine zBq ?_
    exact fin _ ⟨Z,Z,Z,Z,Z,Z,trivial⟩
   ·have he0:e=0:=by
     have:y.getD i 0=0:=by simp [List.getD,List.getElem?_eq_none (show y.length≤i by omega)]
     omega
    subst he0
    refine zBq ?_
    exact fin _ ⟨Z,Z,by show some (AV.int .i64 ((d:Int)-(br:Int)))=_;simp,Z,Z,Z,trivial⟩
  obtain ⟨yv,br',hyv,hbr,hyB⟩: ∃yv br':Nat,yv+br+e=d+4294967296*br'∧br'≤1∧yv<4294967296:=by
   rcases Nat.lt_or_ge d (br+e) with q|q
   ·exact ⟨d+4294967296-br-e,1,kK,kK,kK⟩
   ·exact ⟨d-br-e,0,kK,kK,kK⟩
  refine rn4 ?_
  apply zAX (H:=[some ⟨218,.ints .u32 out⟩]) [(1,.ro (.ints .u32 y) 0 y.length),(5,.sl 0 0 i),(6,iN br'),(9,iN yv),(13,.ro (.ints .u32 x) 0 x.length),(14,iN x.length),(15,iN i)]
  ·intro fin
   refine zB Z (fun h7=> ?_) (fun h7=> ?_)
   ·have:br'=1:=kK
    skip
    refine zl Z ?_
    refine zBq ?_
    subst this
    exact fin _ ⟨Z,Z,Z,by show some (AV.int .i64 ((d:Int)-(br:Int)-(e:Int)+4294967296))=_;congr 2;omega,Z,Z,Z,trivial⟩
   ·have:br'=0:=kK
    subst this
    refine zBq ?_
    exact fin _ ⟨Z,Z,Z,by show some (AV.int .i64 ((d:Int)-(br:Int)-(e:Int)))=_;congr 2;omega,Z,Z,Z,trivial⟩
  refine rn0 ?_
  refine zL (zAe (m:=yv) Z Z Z zFp hyB) ?_
  repeat (refine ze rfl rfl rfl rfl rfl rfl rfl rfl rfl rfl rfl ?_)
  refine zq Z Z Z Z Z Z Z Z Z h2 Z Z (Nat.le_refl 1) Z (by show (i+1)*4≤_∧_;omega) (fun i j _ _=>rfl) (by rw [hfix];exact fun h=>h) (rn5 ?_)
  exact zI ⟨(i+1,out++[(yv:Int)],br'),⟨by simp only;omega,by simp [h2],Lim.append.2 ⟨h3,Lim.one kK⟩,hbr,zSz h2 h5 hd he hyv⟩,by simp only;omega,⟨Z,Z,Z,Z,Z,Z,trivial⟩,Z⟩
 ·have hie:i=x.length:=kK
  subst hie
  rw [List.take_length,List.take_of_length_le hlen,hva,hvb] at h5
  have hc:=zEe _ h3 kK
  have hv:zi out=a-b:=by
   have hob:=zA6 h3
   rw [h2] at hob
   have:br=0∨br=1:=kK
   rcases this with rfl|rfl
   ·rw [Nat.mul_zero] at h5;omega
   ·rw [Nat.mul_one] at h5;omega
  rw [hv] at hc
  refine rn5 ?_
  refine zDg 0 45 x.length [] Z zAZ Z (by show _≤out.length;omega) trivial ?_
  refine zA Z Z (zDw h2) hc (rn0 ?_)
  exact zM hR Z Z
theorem zKM (n:List Int)(x:Nat)(hn:Lim n)(hlen:n.length≤100000000)(hx:0<x∧x<4294967296):
 zX Tryz.prog 222 [zG6 n,.int .u32 (x:Nat)] (.tup [zm (zi n/x),.int .u32 (zi n%x:Nat)]):=by
 refine zU.value0 (zF (P:=Tryz.prog) (fn:=Tryz.f222) Z Z kQ Z (fun c hR hfix=> ?_)) (fix:=fun _=>False) (fun _ h=>h) Z Z
 unfold zG6
 refine rn3 ?_
 refine zBv Z Z Z Z Z Z Z Z (by show (0:Int)≤_∧_≤_∧(4:Int)*_≤_∧_;omega) (rn7 ?_)
 refine zb (ι:=Nat×List Int×Nat) (fun p=>[(0,.ro (.ints .u32 n) 0 n.length),(1,.int .u32 (x:Nat)),(6,.sl 0 0 n.length),(7,.int .u64 (p.2.2:Nat)),(8,.int .i64 ((p.1:Int)-1))]) (fun p=>[some ⟨218,.ints .u32 p.2.1⟩])
  (fun p=>p.1≤n.length∧p.2.1.length=n.length∧Lim p.2.1∧p.2.2<x∧zi (n.drop p.1)=x*zi (p.2.1.drop p.1)+p.2.2) (fun p=>p.1) (n.length,List.replicate n.length 0,0) ⟨⟨rfl,rfl,rfl,rfl,rfl,trivial⟩,rfl,Nat.le_refl _,kJ,Lim.zeros _,hx.1,by simp [zi]⟩ ?_
 rintro ⟨i,out,rs⟩ ⟨h1,h2,h3,h4,h5⟩
 simp only at*
 refine rn7 ?_
 refine zB Z (fun h6=> ?_) (fun h6=> ?_)
 ·obtain ⟨j,rfl⟩: ∃j,i=j+1:=⟨i-1,kK⟩
  obtain ⟨d,hd,hdB⟩:=hn.nat j
  have ej:(((j+1:Nat):Int)-1)=(j:Nat):=kK
  have ejt:(((j+1:Nat):Int)-1).toNat=j:=kK
  have htop:rs*4294967296+d<x*4294967296:=by
   have:(rs+1)*4294967296≤x*4294967296:=Nat.mul_le_mul_right _ h4
   omega
  have hq:(rs*4294967296+d)/x<4294967296:=Nat.div_lt_of_lt_mul htop
  have hm:(rs*4294967296+d)%x<x:=Nat.mod_lt _ hx.1
  have hdm:=Nat.div_add_mod (rs*4294967296+d) x
  generalize hqe:(rs*4294967296+d)/x=q at*
  generalize hme:(rs*4294967296+d)%x=r at*
  refine rn1 ?_
  refine zL (zLZ (m:=rs) (s:=32) Z Z kV zBk (zJ9 kK)) (rn6 ?_)
  refine zE 24 (.int .u32 (d:Nat)) Z (AEq.of_eq (by rw [ejt,hd])) ?_
  refine zL (zAe (m:=d) Z Z Z zBk kK) ?_
  refine zL (QOp.res (zO1 Z Z zBk Z (zJ9 kK) kK) (by rw [zQE hdB])) (rn0 ?_)
  refine zL (zAe (m:=x) Z Z Z zBk kK) ?_
  refine zL (QOp.res (q_uquo Z Z zBk kK hx.1) (by rw [hqe])) ?_
  refine zL (zAe (m:=q) Z Z Z zFp hq) ?_
  refine zE 28 (iN j) Z (AEq.of_eq (by rw [ej])) (rn7 ?_)
  refine zL (zAe (m:=x) Z Z Z zBk kK) ?_
  refine zL (QOp.res (q_urem Z Z hx.1) (by rw [hme])) (rn7 ?_)
  refine zI ⟨(j,out.set j (q:Int),r),⟨by simp only;omega,by simp [h2],h3.set kK,hm,?_⟩,by simp only;omega,⟨Z,Z,Z,Z,?_,trivial⟩,Z⟩
  rotate_left
  ·show some (AV.int .i64 _)=_
   congr 2
   omega
  simp only
  rw [zNR kK,zLz,hd,Int.toNat_natCast,h5]
  simp only [zi,Int.toNat_natCast]
  have e1:x*(q+B*zi (out.drop (j+1)))=x*q+B*(x*zi (out.drop (j+1))):=by rw [Nat.mul_add,Nat.mul_left_comm]
  rw [e1,Nat.mul_add]
  generalize x*zi (out.drop (j+1))=w at*
  generalize x*q=w2 at*
  show d+(4294967296*w+4294967296*rs)=w2+4294967296*w+r
  omega
 ·have hie:i=0:=kK
  subst hie
  rw [List.drop_zero,List.drop_zero] at h5
  have hv:zi out=zi n/x∧rs=zi n%x:=by
   rw [h5,Nat.mul_comm]
   constructor
   ·rw [Nat.add_comm,Nat.add_mul_div_right _ _ hx.1,Nat.div_eq_of_lt h4,Nat.zero_add]
   ·rw [Nat.add_comm,Nat.add_mul_mod_self_right,Nat.mod_eq_of_lt h4]
  have hc:=zEe _ h3 kK
  rw [hv.1] at hc
  obtain ⟨_,hv2⟩:=hv
  refine rn5 ?_
  refine zDg 0 39 n.length [(7,.int .u64 (rs:Nat))] Z zAZ Z (by show _≤out.length;omega) ⟨Z,trivial⟩ ?_
  refine zA Z Z (zDw h2) hc ?_
  repeat (refine zL (zH rfl) ?_)
  refine zL (zAe (m:=rs) Z Z Z zFp kK) (rn0 ?_)
  refine zM hR Z ?_
  rw [hv2];rfl
theorem zNe (a b:Nat)(ha:(zW a).length≤100000000)(hb:(zW b).length≤100000000):zX Tryz.prog 183 [zm a,zm b] (zm (a*b)):=by
 refine zU.value0 (zF (P:=Tryz.prog) (fn:=Tryz.f183) Z Z kQ Z (fun c hR hfix=> ?_)) (fix:=fun _=>False) (fun _ h=>h) Z Z
 have hx:=zAd a
 have hy:=zAd b
 have hv:zi (zW a)*zi (zW b)=a*b:=by rw [zAK,zAK]
 unfold zm
 rw [←hv] at hR
 generalize zW a=x at*
 generalize zW b=y at*
 refine rn3 ?_
 refine zBv Z Z Z Z Z Z Z Z (by show (0:Int)≤_∧_≤_∧(4:Int)*_≤_∧_;omega) ?_
 rw [show ((x.length:Int)+(y.length:Int)).toNat=x.length+y.length by omega]
 refine rn3 ?_
 refine zb (ι:=Nat×List Int) (fun p=>[(1,.ro (.ints .u32 y) 0 y.length),(5,.sl 0 0 (x.length+y.length)),(17,.ro (.ints .u32 x) 0 x.length),(18,.int .i64 (x.length:Nat)),(19,.int .i64 (p.1:Nat))]) (fun p=>[some ⟨218,.ints .u32 p.2⟩])
  (fun p=>p.1≤x.length∧p.2.length=x.length+y.length∧Lim p.2∧zi p.2=zi (x.take p.1)*zi y∧ ∀q,p.1+y.length≤q→p.2.getD q 0=0) (fun p=>x.length-p.1) (0,List.replicate (x.length+y.length) 0) ⟨⟨rfl,rfl,rfl,rfl,rfl,trivial⟩,rfl,Nat.zero_le _,kJ,Lim.zeros _,by simp [zi,zI3],fun q _=>zPU _ _⟩ ?_
 rintro ⟨i,out⟩ ⟨h1,h2,h3,h4,h5⟩
 simp only at*
 refine rn4 ?_
 refine zB Z (fun h6=> ?_) (fun h6=> ?_)
 ·have hil:i<x.length:=kK
  obtain ⟨d,hd,hdB⟩:=hx.nat i
  refine rn6 ?_
  refine zv 7 (.int .u32 (d:Nat)) Z (AEq.of_eq (by rw [hd])) ?_
  refine zb (ι:=Nat×List Int×Nat) (fun p=>[(1,.ro (.ints .u32 y) 0 y.length),(5,.sl 0 0 (x.length+y.length)),(6,.int .i64 (i:Nat)),(7,.int .u32 (d:Nat)),(8,.int .u64 (p.2.2:Nat)),(17,.ro (.ints .u32 x) 0 x.length),(18,.int .i64 (x.length:Nat)),(19,.int .i64 (i:Nat)),(24,.ro (.ints .u32 y) 0 y.length),(25,.int .i64 (y.length:Nat)),(26,.int .i64 (p.1:Nat))]) (fun p=>[some ⟨218,.ints .u32 p.2.1⟩])
   (fun p=>p.1≤y.length∧p.2.1.length=x.length+y.length∧Lim p.2.1∧p.2.2<4294967296∧zi p.2.1+B^(i+p.1)*p.2.2=zi (x.take i)*zi y+B^i*(d*zi (y.take p.1))∧ ∀q,i+y.length≤q→p.2.1.getD q 0=0) (fun p=>y.length-p.1) (0,out,0) ⟨⟨rfl,rfl,rfl,rfl,rfl,rfl,rfl,rfl,rfl,rfl,rfl,trivial⟩,rfl,Nat.zero_le _,h2,h3,Nat.zero_lt_succ _,by simp [zi,h4],h5⟩ ?_
  rintro ⟨j,o2,cr⟩ ⟨k1,k2,k3,k4,k5,k6⟩
  simp only at*
  refine rn4 ?_
  refine zB Z (fun k7=> ?_) (fun k7=> ?_)
  ·have hjl:j<y.length:=kK
   obtain ⟨e,he,heB⟩:=hy.nat j
   obtain ⟨f,hf,hfB⟩:=k3.nat (i+j)
   have hb1:d*e≤4294967295*4294967295:=Nat.mul_le_mul kK kK
   refine rn6 ?_
   refine zL (zAe (m:=d) Z Z Z zBk kK) ?_
   repeat (refine zL (zH rfl) ?_)
   refine zE 34 (.int .u32 (e:Nat)) Z (AEq.of_eq (by rw [he])) ?_
   refine zL (zAe (m:=e) Z Z Z zBk kK) ?_
   refine zL (zJ7 Z Z zBk kK) (rn3 ?_)
   refine zE 40 (.int .i64 (i+j:Nat)) Z (AEq.of_eq (by rw [Int.natCast_add])) (rn7 ?_)
   refine zE 42 (.int .u32 (f:Nat)) Z (AEq.of_eq (by rw [hf])) ?_
   refine zL (zAe (m:=f) Z Z Z zBk kK) ?_
   refine zL (zGJ Z Z zBk kK) ?_
   refine zL (zGJ Z Z zBk kK) (rn3 ?_)
   refine zL (zHA Z Z Z zFp) ?_
   refine zE 49 (.int .i64 (i+j:Nat)) Z (AEq.of_eq (by rw [Int.natCast_add])) (rn7 ?_)
   refine zL (zHB (s:=32) Z Z Z) (rn5 ?_)
   refine zI ⟨(j+1,o2.set (i+j) (((cr+(d*e+f))%4294967296:Nat):Int),(cr+(d*e+f))/4294967296),⟨by simp only;omega,by simp [k2],k3.set (zEd _),by simp only;omega,?_,fun q hq=> ?_⟩,by simp only;omega,⟨Z,Z,Z,Z,Z,Z,Z,Z,Z,Z,Z,trivial⟩,Z⟩
   ·have:=mul_step (cr:=cr) (a:=d) (b:=e) (p:=i+j) kK k5 hf
    simp only
    rw [show i+(j+1)=i+j+1 from rfl,this,zAF y j,he,Int.toNat_natCast,Nat.add_assoc]
    congr 1
    rw [Nat.mul_add,Nat.mul_add,Nat.pow_add]
    congr 1
    ac_rfl
   ·simp only
    rw [zEC kK];exact k6 q hq
  ·have hje:j=y.length:=kK
   subst hje
   rw [List.take_length] at k5
   have hz:=k6 (i+y.length) (Nat.le_refl _)
   have hset:=zL0 (x:=(cr:Int)) (show i+y.length<o2.length by omega)
   rw [hz,Int.toNat_natCast] at hset
   refine rn5 ?_
   refine zL (zAe (m:=cr) Z Z Z zFp k4) ?_
   refine zE 60 (.int .i64 (i+y.length:Nat)) Z (AEq.of_eq (by rw [Int.natCast_add])) (rn7 ?_)
   refine zI ⟨(i+1,o2.set (i+y.length) (cr:Int)),⟨by simp only;omega,by simp [k2],k3.set kK,?_,fun q hq=> ?_⟩,by simp only;omega,⟨Z,Z,Z,Z,Z,trivial⟩,Z⟩
   ·simp only
    rw [zAF x i,hd,Int.toNat_natCast,Nat.add_mul,Nat.mul_assoc,←k5]
    have:(0:Int).toNat=0:=rfl
    rw [this] at hset
    omega
   ·simp only at hq⊢
    rw [zEC kK];exact k6 q kK
 ·have hie:i=x.length:=kK
  subst hie
  rw [List.take_length] at h4
  have hc:=zEe _ h3 kK
  rw [h4] at hc
  refine rn5 ?_
  refine zDg 0 65 (x.length+y.length) [] Z zAZ Z (by show _≤out.length;omega) trivial ?_
  refine zA Z Z (zDw h2) hc (rn0 ?_)
  exact zM hR Z Z
theorem zPF (n:List Int)(s:Nat)(hn:Lim n)(hlen:n.length≤100000000)(hs:s<32):
 zNw Tryz.prog 223 [zG6 n,.int .i64 (s:Nat)] (fun h=> .sl h 0 (n.length+1)) ⟨218,.ints .u32 (zCO (n.length+1) (zi n*2^s))⟩:=by
 refine zU.fresh (K:=fun r H=>r= .sl 0 0 (n.length+1)∧H=[some ⟨218,.ints .u32 (zCO (n.length+1) (zi n*2^s))⟩]) (zF (P:=Tryz.prog) (fn:=Tryz.f223) Z Z kQ Z (fun c hR hfix=> ?_)) (fix:=fun _=>False) (fun _ h=>h) Z (fun H=>⟨Z,trivial,trivial,trivial⟩) ?_
 ·have hp:2^s≤2147483648:=by
   have:=Nat.pow_le_pow_right (show 0<2 by decide) (show s≤31 by omega)
   exact Nat.le_trans this kV
  have hp1:0<2^s:=Nat.pow_pos kV
  unfold zG6
  refine rn3 ?_
  refine zBv Z Z Z Z Z Z Z Z (by show (0:Int)≤0∧_≤_∧(4:Int)*_≤_∧_;omega) (rn3 ?_)
  refine zI7 0 (.ints .u32 []) Z ⟨Nat.zero_le _,Z,fun i j hi _=>absurd hi (Nat.not_lt_zero _)⟩ ?_
  refine zb (ι:=Nat×List Int×Nat) (fun p=>[(1,.int .i64 (s:Nat)),(5,.sl 0 0 p.1),(6,.int .u64 (p.2.2:Nat)),(13,.ro (.ints .u32 n) 0 n.length),(14,.int .i64 (n.length:Nat)),(15,.int .i64 (p.1:Nat))]) (fun p=>[some ⟨218,.ints .u32 p.2.1⟩])
   (fun p=>p.1≤n.length∧p.2.1.length=p.1∧Lim p.2.1∧p.2.2<2^s∧zi p.2.1+B^p.1*p.2.2=zi (n.take p.1)*2^s) (fun p=>n.length-p.1) (0,[],0) ⟨⟨rfl,rfl,rfl,rfl,rfl,rfl,trivial⟩,rfl,Nat.zero_le _,rfl,Lim.nil,hp1,by simp [zi]⟩ ?_
  rintro ⟨i,out,cr⟩ ⟨h1,h2,h3,h4,h5⟩
  simp only at*
  refine rn4 ?_
  refine zB Z (fun h6=> ?_) (fun h6=> ?_)
  ·have hil:i<n.length:=kK
   obtain ⟨d,hd,hdB⟩:=hn.nat i
   have hor:cr|||d*2^s=cr+d*2^s:=by
    have:=Nat.two_pow_add_eq_or_of_lt h4 d
    rw [Nat.or_comm,Nat.mul_comm d,←this,Nat.add_comm]
   have hdm:d*2^s≤4294967295*2147483648:=Nat.mul_le_mul kK hp
   have hq:(cr+d*2^s)/4294967296<2^s:=by
    refine Nat.div_lt_of_lt_mul ?_
    have:(d+1)*2^s≤4294967296*2^s:=Nat.mul_le_mul_right _ kK
    rw [Nat.add_mul] at this
    omega
   refine rn6 ?_
   refine zE 20 (.int .u32 (d:Nat)) Z (AEq.of_eq (by rw [hd])) ?_
   refine zL (zAe (m:=d) Z Z Z zBk kK) ?_
   repeat (refine zL (zH rfl) ?_)
   refine zL (zLZ (m:=d) (s:=s) Z Z (by show s≤64;omega) zBk kK) ?_
   refine zL (QOp.res (zO1 Z Z zBk Z kK kK) (by rw [hor])) (rn0 ?_)
   refine zL (zHA Z Z Z zFp) ?_
   repeat (refine ze rfl rfl rfl rfl rfl rfl rfl rfl rfl rfl rfl ?_)
   refine zq Z Z Z Z Z Z Z Z Z h2 Z Z (Nat.le_refl 1) Z (by show (i+1)*4≤_∧_;omega) (fun i j _ _=>rfl) (by rw [hfix];exact fun h=>h) (rn0 ?_)
   refine zL (zHB (s:=32) Z Z Z) (rn5 ?_)
   refine zI ⟨(i+1,out++[(((cr+d*2^s)%4294967296:Nat):Int)],(cr+d*2^s)/4294967296),⟨by simp only;omega,by simp [h2],Lim.append.2 ⟨h3,Lim.one (zEd _)⟩,hq,?_⟩,by simp only;omega,⟨Z,Z,Z,Z,Z,Z,trivial⟩,Z⟩
   have:=zIy h2 h5 (c:=cr+d*2^s) (d:=d*2^s) rfl
   simp only at this⊢
   rw [this,zAF n i,hd,Int.toNat_natCast,Nat.add_mul,Nat.mul_assoc]
  ·have hie:i=n.length:=kK
   subst hie
   rw [List.take_length] at h5
   refine rn5 ?_
   refine zL (zAe (m:=cr) Z Z Z zFp kK) ?_
   repeat (refine ze rfl rfl rfl rfl rfl rfl rfl rfl rfl rfl rfl ?_)
   refine zq Z Z Z Z Z Z Z Z Z h2 Z Z (Nat.le_refl 1) Z (by show (n.length+1)*4≤_∧_;omega) (fun i j _ _=>rfl) (by rw [hfix];exact fun h=>h) ?_
   have hl:Lim (out++[(cr:Int)]):=Lim.append.2 ⟨h3,Lim.one kK⟩
   have hv:zi (out++[(cr:Int)])=zi n*2^s:=by
    rw [zEa,h2,Int.toNat_natCast];exact h5
   have hfx:=zIC hl (k:=n.length+1) (by simp [h2]) hv
   refine rn0 ?_
   refine zM hR Z ⟨Z,?_⟩
   show ([some ⟨218,.ints .u32 (out++[(cr:Int)])⟩]:zO)=_
   rw [hfx]
 ·rintro r H ⟨rfl,rfl⟩
  refine ⟨fun o ho=>by simp at ho;subst ho;show 0+(n.length+1)≤(zCO _ _).length;rw [zCP];omega,zJb zAZ,0,rfl,fun k=>rfl⟩
theorem digit_ok (A U C V:List Int)(j s:Nat)(Hr:zO)(hj:A.length=j)(hs:2≤s)(hl:U.length=s+1)(hlv:V.length=s)(hU:Lim U)(hV:Lim V)(htop:2147483648≤V.getD (s-1) 0)(hlt:zi U<4294967296*zi V)(hsz:(A++(U++C)).length≤1000000000):
 zU Tryz.prog 224 [.sl 0 j (s+1),zG6 V] (some ⟨218,.ints .u32 (A++(U++C))⟩::Hr) (fun h=>h<Hr.length+1)
  (fun r H=>r= .int .u32 (zi U/zi V:Nat)∧H=some ⟨218,.ints .u32 (A++(zCO (s+1) (zi U%zi V)++C))⟩::Hr):=by
 refine zF (P:=Tryz.prog) (fn:=Tryz.f224) Z Z kQ Z (fun c hR hfix=> ?_)
 have hsd:=hlv
 obtain ⟨u0,h0,b0⟩:=hU.nat s
 obtain ⟨u1,h1,b1⟩:=hU.nat (s-1)
 obtain ⟨u2,h2,b2⟩:=hU.nat (s-2)
 obtain ⟨v1,k1,c1⟩:=hV.nat (s-1)
 obtain ⟨v2,k2,c2⟩:=hV.nat (s-2)
 have htop':2147483648≤v1:=kK
 have hest:=fun g=>est (g:=g) hs hl hsd hU hV h0 h1 h2 k1 k2 htop' hlt
 have g0:=zHe (C:=C) hj (show s<U.length by omega)
 have g1:=zHe (C:=C) hj (show s-1<U.length by omega)
 have g2:=zHe (C:=C) hj (show s-2<U.length by omega)
 rw [h0] at g0;rw [h1] at g1;rw [h2] at g2
 have hlen:(A++(U++C)).length=j+(s+1)+C.length:=by simp [hj,hl];omega
 have hv0:0<zi V:=by
  have:=zAF V (s-1)
  rw [show s-1+1=V.length by omega,List.take_length,k1,Int.toNat_natCast] at this
  have h3:B^(s-1)*1≤B^(s-1)*v1:=Nat.mul_le_mul_left _ kK
  have:=bpos (s-1)
  omega
 unfold zG6
 rw [hsd]
 refine rn3 ?_
 refine zEP kQ kQ Z (rn7 ?_)
 refine zE 20 (.int .u32 (u0:Nat)) Z (AEq.of_eq (by rw [g0])) ?_
 refine zL (zAe (m:=u0) Z Z Z zBk kK) ?_
 refine zL (zLZ (m:=u0) (s:=32) Z Z kV zBk (zJ9 b0)) (rn8 ?_)
 refine zE 25 (.int .i64 (s-1:Nat)) Z (AEq.of_eq (by congr 1;omega)) (rn7 ?_)
 refine zE 27 (.int .u32 (u1:Nat)) Z (AEq.of_eq (by rw [g1])) ?_
 refine zL (zAe (m:=u1) Z Z Z zBk kK) ?_
 refine zL (QOp.res (zO1 Z Z zBk Z (zJ9 b0) kK) (by rw [zQE b1])) ?_
 have htb:u0*4294967296+u1<18446744073709551616:=kK
 obtain ⟨top,htp⟩: ∃top,u0*4294967296+u1=top:=⟨_,rfl⟩
 rw [htp] at hest htb⊢
 refine rn7 ?_
 refine zE 33 (.int .i64 (s-1:Nat)) Z (AEq.of_eq (by congr 1;omega)) (rn6 ?_)
 refine zE 35 (.int .u32 (v1:Nat)) Z (AEq.of_eq (by rw [k1])) ?_
 refine zL (zAe (m:=v1) Z Z Z zBk kK) ?_
 refine zL (q_uquo Z Z zBk htb kK) ?_
 obtain ⟨gs,hgs,hg1,hg2⟩: ∃gs:Nat,(if ((4294967295:Int)<((top/v1:Nat):Int)) then (4294967295:Int) else ((top/v1:Nat):Int))=(gs:Int)∧gs≤4294967295∧(gs=4294967295∨gs=top/v1)∧gs≤top/v1:=by
  generalize top/v1=z
  by_cases hz:(4294967295:Int)<(z:Int)
  ·exact ⟨4294967295,by rw [if_pos hz];rfl,kK,kK,kK⟩
  ·exact ⟨z,by rw [if_neg hz],kK,kK,kK⟩
 obtain ⟨hg2,hg3⟩:=hg2
 have hgm:gs*v1≤top:=Nat.le_trans (Nat.mul_le_mul_right _ hg3) (Nat.div_mul_le_self top v1)
 have hb0:=zNd (a:=gs) (b:=v1) (c:=0) kK c1 kV
 refine zL (q_min Z Z) ?_
 refine zE 38 (.int .u64 (gs:Nat)) Z (AEq.of_eq (by rw [←hgs])) (rn7 ?_)
 refine zE 43 (.int .i64 (s-1:Nat)) Z (AEq.of_eq (by congr 1;omega)) (rn6 ?_)
 refine zE 45 (.int .u32 (v1:Nat)) Z (AEq.of_eq (by rw [k1])) ?_
 refine zL (zAe (m:=v1) Z Z Z zBk kK) ?_
 refine zL (zJ7 Z Z zBk hb0.1) ?_
 refine zL (zQO Z Z zBk htb hgm) (rn1 ?_)
 refine zb (ι:=Nat×Nat) (fun p=>[(0,.sl 0 j (s+1)),(1,.ro (.ints .u32 V) 0 s),(5,.int .i64 (s:Nat)),(7,.int .u64 (p.1:Nat)),(8,.int .u64 (p.2:Nat))]) (fun _=>some ⟨218,.ints .u32 (A++(U++C))⟩::Hr)
  (fun p=>p.1≤4294967295∧p.2+p.1*v1=top∧ ∀g',g'≤4294967295→g'*(v1*4294967296+v2)≤top*4294967296+u2→g'≤p.1) (fun p=>p.1) (gs,top-gs*v1) ⟨⟨rfl,rfl,rfl,rfl,rfl,trivial⟩,rfl,hg1,by simp only;omega,fun g' q1 q2=> ?_⟩ ?_
 ·have:=guess_ge kK b2 q2
  rcases hg2 with h|h
  ·show g'≤gs;omega
  ·show g'≤gs;rw [h];exact this
 rintro ⟨g,r⟩ ⟨i1,i2,i3⟩
 simp only at*
 have htest:=zP1 (B:=4294967296) (u2:=u2) (v2:=v2) i2 kK c2
 have hbg:=zNd (a:=g) (b:=v2) (c:=0) kK c2 kV
 apply zAX (H:=some ⟨218,.ints .u32 (A++(U++C))⟩::Hr) [(0,.sl 0 j (s+1)),(1,.ro (.ints .u32 V) 0 s),(5,.int .i64 (s:Nat)),(7,.int .u64 (g:Nat)),(8,.int .u64 (r:Nat)),(70,.bool (decide (r<4294967296∧r*4294967296+u2<g*v2)))]
 ·intro fin
  repeat (refine zAL ?_)
  refine zEP kQ kQ Z ?_
  repeat (first|refine zL (zH rfl) ?_|refine zL (zDS rfl rfl) ?_)
  refine zAm Z Z (fun q0=> ?_) (fun q0=> ?_)
  ·have q0':r<4294967296:=kK
   refine rn8 ?_
   refine zE 55 (.int .i64 (s-2:Nat)) Z (AEq.of_eq (by congr 1;omega)) (rn6 ?_)
   refine zE 57 (.int .u32 (v2:Nat)) Z (AEq.of_eq (by rw [k2])) ?_
   refine zL (zAe (m:=v2) Z Z Z zBk kK) ?_
   refine zBX Z Z ?_
   refine zL (zJ7 Z Z zBk hbg.1) (rn2 ?_)
   refine zL (zLZ (m:=r) (s:=32) Z Z kV zBk (zJ9 q0')) (rn8 ?_)
   refine zE 64 (.int .i64 (s-2:Nat)) Z (AEq.of_eq (by congr 1;omega)) ?_
   refine zCS ?_
   refine zE 66 (.int .u32 (u2:Nat)) Z (AEq.of_eq (by rw [g2])) ?_
   refine zL (zAe (m:=u2) Z Z Z zBk kK) ?_
   refine zBX Z Z ?_
   refine zL (QOp.res (zO1 Z Z zBk Z (zJ9 q0') kK) (by rw [zQE b2])) ?_
   refine zEW ?_
   refine fin _ ⟨Z,Z,Z,Z,Z,?_,trivial⟩
   show some (AV.bool (decide (((r*4294967296+u2:Nat):Int)<((g*v2:Nat):Int))))=_
   congr 2
   rw [decide_eq_decide]
   constructor
   ·intro h;exact ⟨q0',kK⟩
   ·intro h;exact Int.ofNat_lt.2 h.2
  ·refine zEW ?_
   refine fin _ ⟨Z,Z,Z,Z,Z,?_,trivial⟩
   show some (AV.bool false)=_
   rw [decide_eq_false]
   intro h
   exact q0 kK
 refine zB Z (fun q0=> ?_) (fun q0=> ?_)
 ·have q1:=htest.1 q0
  have hg0:0<g:=by
   rcases Nat.eq_zero_or_pos g with z|z
   ·subst z;rw [Nat.zero_mul] at q1;omega
   ·exact z
  obtain ⟨g,rfl⟩: ∃m,g=m+1:=⟨g-1,kK⟩
  rw [Nat.add_mul,Nat.one_mul] at i2
  refine rn1 ?_
  refine zL (zQO (m:=g+1) (n:=1) Z Z zBk kK kK) (rn7 ?_)
  refine zE 74 (.int .i64 (s-1:Nat)) Z (AEq.of_eq (by congr 1;omega)) (rn6 ?_)
  refine zE 76 (.int .u32 (v1:Nat)) Z (AEq.of_eq (by rw [k1])) ?_
  refine zL (zAe (m:=v1) Z Z Z zBk kK) ?_
  refine zL (zGJ Z Z zBk kK) (rn0 ?_)
  refine zI ⟨(g,r+v1),⟨by simp only;omega,by simp only;omega,fun g' z1 z2=> ?_⟩,by simp only;omega,⟨Z,Z,Z,Z,Z,trivial⟩,Z⟩
  have z3:=i3 g' z1 z2
  show g'≤g
  rcases Nat.lt_or_ge g g' with z|z
  ·exfalso
   have:g'=g+1:=kK
   subst this
   omega
  ·exact z
 ·have q1:g*(v1*4294967296+v2)≤top*4294967296+u2:=by
   rcases Nat.lt_or_ge (top*4294967296+u2) (g*(v1*4294967296+v2)) with z|z
   ·exact absurd (htest.2 z) q0
   ·exact z
  obtain ⟨e1,e2⟩:=hest g i1 q1 i3
  clear hest htest i3 q0
  have hmB:zi U%zi V<B^(s+1):=Nat.lt_of_le_of_lt (Nat.mod_le _ _) (by have:=zA6 hU;rwa [hl] at this)
  have hdone:=fun (w b:Nat) (hw:w<B^(s+1))=>zPo (u:=zi U) (v:=zi V) (g:=g) (w:=w) (n:=s+1) (b:=b) hw (by have:=zA6 hV;rw [hsd] at this;exact Nat.lt_of_lt_of_le this (Nat.pow_le_pow_right kV kK)) (by have:=zA6 hU;rwa [hl] at this)
  generalize zi U/zi V=q at*
  generalize hme:zi U%zi V=m at*
  refine rn5 ?_
  have hAl: ∀W:List Int,W.length=s+1→ ∀i,i<s+1→i+j<(A++(W++C)).length:=fun W hW i hi=>by simp [hj,hW];omega
  refine zb (ι:=Nat×List Int×Nat×Nat) (fun p=>[(0,.sl 0 j (s+1)),(1,.ro (.ints .u32 V) 0 s),(5,.int .i64 (s:Nat)),(7,.int .u64 (g:Nat)),(9,.int .u64 (p.2.2.1:Nat)),(10,.int .i64 (p.2.2.2:Nat)),(82,.int .i64 (s+1:Nat)),(83,.int .i64 (p.1:Nat))]) (fun p=>some ⟨218,.ints .u32 (A++(p.2.1++C))⟩::Hr)
   (fun p=>p.1≤s+1∧p.2.1.length=s+1∧Lim p.2.1∧(∀x,p.1≤x→p.2.1.getD x 0=U.getD x 0)∧p.2.2.1<4294967296∧p.2.2.2≤1∧(p.1=s+1→p.2.2.1=0)∧zi (p.2.1.take p.1)+g*zi (V.take p.1)=zi (U.take p.1)+B^p.1*(p.2.2.1+p.2.2.2)) (fun p=>s+1-p.1) (0,U,0,0)
   ⟨⟨rfl,rfl,rfl,rfl,rfl,rfl,rfl,rfl,trivial⟩,rfl,Nat.zero_le _,hl,hU,fun _ _=>rfl,Nat.zero_lt_succ _,Nat.zero_le _,fun _=>rfl,by simp [zi]⟩ ?_
  rintro ⟨i,Uc,cr,br⟩ ⟨w1,w2,w3,w4,w5,w6,w7,w8⟩
  simp only at*
  refine rn4 ?_
  refine zB Z (fun w9=> ?_) (fun w9=> ?_)
  ·have his:i<s+1:=kK
   obtain ⟨ui,hui,hub⟩:=hU.nat i
   obtain ⟨vi,hvi,hvb⟩:=hV.nat i
   have hmb:=zNd (a:=g) (b:=vi) (c:=cr) kK hvb w5
   have hsl:=hAl Uc w2 i his
   have hcur:=zHe (C:=C) hj (show i<Uc.length by omega)
   rw [w4 i (Nat.le_refl _),hui] at hcur
   have hlm:(cr+g*vi)%4294967296<4294967296:=Nat.mod_lt _ kV
   have hdb:(cr+g*vi)/4294967296<4294967296:=kK
   obtain ⟨yv,b',y1,y2,y3,y4,y5⟩:=zRt hub hlm w6
   have hstep:=zPp (g:=g) (cr:=cr) (yv:=yv) (b':=b') (show i<Uc.length by omega) w8 hui hvi y1
   have hlast:i+1=s+1→(cr+g*vi)/4294967296=0:=fun h=>by
    have:V.getD i 0=0:=by simp [List.getD,List.getElem?_eq_none (show V.length≤i by omega)]
    have:vi=0:=kK
    subst this
    rw [Nat.mul_zero,Nat.add_zero]
    exact Nat.div_eq_of_lt w5
   refine rn4 ?_
   apply zAX (H:=some ⟨218,.ints .u32 (A++(Uc++C))⟩::Hr) [(0,.sl 0 j (s+1)),(1,.ro (.ints .u32 V) 0 s),(5,.int .i64 (s:Nat)),(7,.int .u64 (g:Nat)),(9,.int .u64 (cr+g*vi:Nat)),(10,.int .i64 (br:Nat)),(11,.int .i64 (i:Nat)),(82,.int .i64 (s+1:Nat)),(83,.int .i64 (i:Nat))]
   ·intro fin
    refine zB Z (fun q0=> ?_) (fun q0=> ?_)
    ·refine rn6 ?_
     refine zE 94 (.int .u32 (vi:Nat)) Z (AEq.of_eq (by rw [hvi])) ?_
     refine zL (zAe (m:=vi) Z Z Z zBk kK) ?_
     refine zL (zJ7 Z Z zBk hmb.1) ?_
     refine zL (zGJ Z Z zBk hmb.2) ?_
     refine zBq ?_
     exact fin _ ⟨Z,Z,Z,Z,Z,Z,Z,Z,Z,trivial⟩
    ·have hv0:vi=0:=by
      have:V.getD i 0=0:=by simp [List.getD,List.getElem?_eq_none (show V.length≤i by omega)]
      omega
     subst hv0
     refine zBq ?_
     exact fin _ ⟨Z,Z,Z,Z,Z,Z,Z,Z,Z,trivial⟩
   refine rn7 ?_
   refine zE 101 (.int .u32 (ui:Nat)) Z (AEq.of_eq (by rw [hcur])) ?_
   refine zL (zGk (m:=ui) Z Z Z kK) ?_
   repeat (refine zL (zH rfl) ?_)
   refine zL (QOp.res (q_uand (n:=4294967295) Z Z zBk Z hmb.2 kV) (by rw [and_low])) ?_
   obtain ⟨lo,hlo⟩: ∃lo,(cr+g*vi)%4294967296=lo:=⟨_,rfl⟩
   rw [hlo] at hlm y1 y4 y5⊢
   refine zL (zGk (m:=lo) Z Z Z kK) (rn7 ?_)
   refine zL (zHB (s:=32) Z Z Z) (rn4 ?_)
   apply zAX (H:=some ⟨218,.ints .u32 (A++(Uc++C))⟩::Hr) [(0,.sl 0 j (s+1)),(1,.ro (.ints .u32 V) 0 s),(5,.int .i64 (s:Nat)),(7,.int .u64 (g:Nat)),(9,.int .u64 ((cr+g*vi)/4294967296:Nat)),(10,.int .i64 (b':Nat)),(11,.int .i64 (i:Nat)),(12,.int .i64 (yv:Nat)),(82,.int .i64 (s+1:Nat)),(83,.int .i64 (i:Nat))]
   ·intro fin
    refine zB Z (fun q0=> ?_) (fun q0=> ?_)
    ·obtain ⟨z1,z2⟩:=y4 q0
     subst z1
     skip
     refine zl Z ?_
     refine zBq ?_
     exact fin _ ⟨Z,Z,Z,Z,Z,Z,Z,by rw [z2];rfl,Z,Z,trivial⟩
    ·obtain ⟨z1,z2⟩:=y5 q0
     subst z1
     refine zBq ?_
     exact fin _ ⟨Z,Z,Z,Z,Z,Z,Z,by rw [z2];rfl,Z,Z,trivial⟩
   refine rn0 ?_
   refine zL (zAe (m:=yv) Z Z Z zFp y3) ?_
   have hset:=zRX (x:=(yv:Int)) (C:=C) hj (show i<Uc.length by omega)
   refine rn7 ?_
   refine zI ⟨(i+1,Uc.set i (yv:Int),(cr+g*vi)/4294967296,b'),⟨by simp only;omega,by simp [w2],w3.set kK,fun x hx=> ?_,hdb,y2,hlast,hstep⟩,by simp only;omega,⟨Z,Z,Z,Z,Z,Z,Z,Z,trivial⟩,?_⟩
   ·simp only at hx⊢
    rw [zEC kK];exact w4 x kK
   ·show some (⟨_,.ints .u32 ((A++(Uc++C)).set (j+i) (yv:Int))⟩:AObj)::Hr=_
    rw [hset]
  ·have hie:i=s+1:=kK
   subst hie
   have hcr:=w7 rfl
   subst hcr
   rw [List.take_of_length_le kK,List.take_of_length_le kK,List.take_of_length_le kK,Nat.zero_add] at w8
   have hUcb:=zA6 w3
   rw [w2] at hUcb
   obtain ⟨d0,d1⟩:=hdone (zi Uc) br hUcb w6 w8 e1 e2 hv0
   refine rn5 ?_
   refine zB Z (fun q0=> ?_) (fun q0=> ?_)
   ·obtain ⟨z1,z2⟩:=d0 kK
    subst z1
    have hfx:=zIC w3 w2 z2
    refine rn0 ?_
    refine zL (zAe (m:=g) Z Z Z zFp kK) (rn2 ?_)
    refine zM hR Z ⟨Z,?_⟩
    rw [hfx]
   ·obtain ⟨z1,z2⟩:=d1 kK
    refine rn3 ?_
    refine zb (ι:=Nat×List Int×Nat) (fun p=>[(0,.sl 0 j (s+1)),(1,.ro (.ints .u32 V) 0 s),(5,.int .i64 (s:Nat)),(7,.int .u64 (g:Nat)),(13,.int .u64 (p.2.2:Nat)),(126,.int .i64 (s+1:Nat)),(127,.int .i64 (p.1:Nat))]) (fun p=>some ⟨218,.ints .u32 (A++(p.2.1++C))⟩::Hr)
     (fun p=>p.1≤s+1∧p.2.1.length=s+1∧Lim p.2.1∧(∀x,p.1≤x→p.2.1.getD x 0=Uc.getD x 0)∧p.2.2<4294967296∧zi (p.2.1.take p.1)+B^p.1*p.2.2=zi (Uc.take p.1)+zi (V.take p.1)) (fun p=>s+1-p.1) (0,Uc,0)
     ⟨⟨rfl,rfl,rfl,rfl,rfl,rfl,rfl,trivial⟩,rfl,Nat.zero_le _,w2,w3,fun _ _=>rfl,Nat.zero_lt_succ _,by simp [zi]⟩ ?_
    rintro ⟨i,Ud,sm⟩ ⟨x1,x2,x3,x4,x5,x6⟩
    simp only at*
    refine rn4 ?_
    refine zB Z (fun x9=> ?_) (fun x9=> ?_)
    ·have his:i<s+1:=kK
     obtain ⟨ui,hui,hub⟩:=w3.nat i
     obtain ⟨vi,hvi,hvb⟩:=hV.nat i
     have hcur:=zHe (C:=C) hj (show i<Ud.length by omega)
     rw [x4 i (Nat.le_refl _),hui] at hcur
     have hsl:=hAl Ud x2 i his
     have hstep:=zRr (sm:=sm) (show i<Ud.length by omega) x6 hui hvi
     refine rn7 ?_
     refine zE 134 (.int .u32 (ui:Nat)) Z (AEq.of_eq (by rw [hcur])) ?_
     refine zL (zAe (m:=ui) Z Z Z zBk kK) ?_
     refine zL (zGJ Z Z zBk kK) (rn4 ?_)
     apply zAX (H:=some ⟨218,.ints .u32 (A++(Ud++C))⟩::Hr) [(0,.sl 0 j (s+1)),(1,.ro (.ints .u32 V) 0 s),(5,.int .i64 (s:Nat)),(7,.int .u64 (g:Nat)),(13,.int .u64 (sm+ui+vi:Nat)),(14,.int .i64 (i:Nat)),(126,.int .i64 (s+1:Nat)),(127,.int .i64 (i:Nat))]
     ·intro fin
      refine zB Z (fun q1=> ?_) (fun q1=> ?_)
      ·refine rn6 ?_
       refine zE 144 (.int .u32 (vi:Nat)) Z (AEq.of_eq (by rw [hvi])) ?_
       refine zL (zAe (m:=vi) Z Z Z zBk kK) ?_
       refine zL (zGJ Z Z zBk kK) ?_
       refine zBq ?_
       exact fin _ ⟨Z,Z,Z,Z,Z,Z,Z,Z,trivial⟩
      ·have hv0:vi=0:=by
        have:V.getD i 0=0:=by simp [List.getD,List.getElem?_eq_none (show V.length≤i by omega)]
        omega
       subst hv0
       refine zBq ?_
       exact fin _ ⟨Z,Z,Z,Z,Z,Z,Z,Z,trivial⟩
     refine rn0 ?_
     refine zL (zHA Z Z Z zFp) ?_
     have hset:=zRX (x:=(((sm+ui+vi)%4294967296:Nat):Int)) (C:=C) hj (show i<Ud.length by omega)
     refine rn7 ?_
     refine zL (zHB (s:=32) Z Z Z) (rn5 ?_)
     refine zI ⟨(i+1,Ud.set i (((sm+ui+vi)%4294967296:Nat):Int),(sm+ui+vi)/4294967296),⟨by simp only;omega,by simp [x2],x3.set (zEd _),fun x hx=> ?_,by simp only;omega,hstep⟩,by simp only;omega,⟨Z,Z,Z,Z,Z,Z,Z,trivial⟩,?_⟩
     ·simp only at hx⊢
      rw [zEC kK];exact x4 x kK
     ·show some (⟨_,.ints .u32 ((A++(Ud++C)).set (j+i) (((sm+ui+vi)%4294967296:Nat):Int))⟩:AObj)::Hr=_
      rw [hset]
    ·have hie:i=s+1:=kK
     subst hie
     rw [List.take_of_length_le kK,List.take_of_length_le kK,List.take_of_length_le kK,z2] at x6
     have hUdb:=zA6 x3
     rw [x2] at hUdb
     have hv:zi Ud=m:=by
      rcases Nat.lt_trichotomy sm 1 with z|z|z
      ·have:sm=0:=kK
       subst this
       omega
      ·subst z;omega
      ·have:B^(s+1)*2≤B^(s+1)*sm:=Nat.mul_le_mul_left _ z
       omega
     have hfx:=zIC x3 x2 hv
     refine rn5 ?_
     refine zL (zQO (m:=g) (n:=1) Z Z zBk kK kK) ?_
     refine zL (zAe (m:=g-1) Z Z Z zFp kK) (rn0 ?_)
     refine zM hR Z ⟨?_,?_⟩
     ·rw [show g-1=q by omega];rfl
     ·rw [hfx]
theorem clone_ok (n:Nat)(h:(zW n).length≤1000000):zX Tryz.prog 221 [zm n] (zm n):=by
 unfold zm
 generalize zW n=l at*
 refine zU.value (K:=fun r H=>r= .sl 0 0 l.length∧H=[some ⟨218,.ints .u32 l⟩]) (zF (P:=Tryz.prog) (fn:=Tryz.f221) Z Z kQ Z (fun c hR hfix=> ?_)) (fix:=fun _=>False) (fun _ h=>h) Z ?_
 ·refine rn0 ?_
  refine zN7 Z Z Z (fun b hb=> ?_)
  refine rn0 ?_
  refine zD7 Z (fun h=> ?_) (fun h=> ?_)
  ·have:=hb h
   have hn:l=[]:=List.length_eq_zero_iff.mp this
   subst hn
   refine rn7 ?_
   refine zAg 2 ⟨218,.ints .u32 []⟩ Z Z (rn2 ?_)
   exact zM hR Z ⟨Z,Z⟩
  ·refine rn1 ?_
   refine zC2 Z Z Z Z Z Z Z Z Z Z ?_
   refine zAD [some ⟨218,.ints .u32 []⟩] (zP.eqv ⟨Z,Z,fun i j hi=>absurd hi (Nat.not_lt_zero _)⟩ zP.nil) ?_
   repeat (refine zL (zH rfl) ?_)
   refine zq Z Z Z Z Z Z Z Z Z Z Z Z (by show 0+l.length≤l.length;omega) Z (by show (0+l.length)*4≤_∧_;omega) (fun i j _ _=>rfl) (by rw [hfix];exact fun h=>h) (rn0 ?_)
   refine zM hR Z ⟨?_,?_⟩
   ·show AV.sl 0 0 (0+l.length)=_;rw [Nat.zero_add]
   ·show ([some ⟨218,.ints .u32 ([]++List.take l.length (List.drop 0 l))⟩]:zO)=_
    simp
 ·rintro r H ⟨rfl,rfl⟩
  exact ⟨rfl,fun o ho=>by simp at ho;subst ho;exact Nat.le_of_eq (by simp [Cells.len]),zJb zAZ⟩
theorem div_less (n m:Nat)(h:n<m)(hn:(zW n).length≤1000000)(hm:(zW m).length≤1000000):zX Tryz.prog 194 [zm n,zm m] (.tup [.nil,zm n]):=by
 have hc:=zNM n m kK kK
 rw [zJE (Int.ofNat_lt.2 h)] at hc
 have hcl:=clone_ok n hn
 refine zU.value0 (zF (P:=Tryz.prog) (fn:=Tryz.f194) Z Z kQ Z (fun c hR hfix=> ?_)) (fix:=fun _=>False) (fun _ h=>h) Z Z
 refine rn0 ?_
 refine zA Z Z Z hc (rn5 ?_)
 refine zA Z Z Z hcl (rn2 ?_)
 exact zM hR Z Z
theorem zQp {n m:Nat}(h:m≤n): ¬zEl n m<0:=by
 rcases Nat.lt_or_ge m n with q|q
 ·rw [zJD (Int.ofNat_lt.2 q)];decide
 ·rw [zQl kK];decide
theorem div_one (n m:Nat)(h:m≤n)(hn:(zW n).length≤1000000)(hm:(zW m).length=1):zX Tryz.prog 194 [zm n,zm m] (.tup [zm (n/m),zm (n%m)]):=by
 have hc:=zNM n m kK kK
 have hcn:=zQp h
 obtain ⟨t,low,ht,htb,htp,hv,hlow⟩:=zHz (Nat.le_refl 1) hm
 have hmt:m=t:=by
  simp at hv hlow
  subst hlow
  rw [hv];simp
 subst hmt
 have hds:=zKM (zW n) m (zAd n) kK ⟨htp,htb⟩
 rw [zAK] at hds
 have hr:n%m<4294967296:=Nat.lt_trans (Nat.mod_lt _ htp) htb
 have hsm:=zHu (n%m) kK
 refine zU.value0 (zF (P:=Tryz.prog) (fn:=Tryz.f194) Z Z kQ Z (fun c hR hfix=> ?_)) (fix:=fun _=>False) (fun _ h=>h) Z Z
 refine rn0 ?_
 refine zA Z Z Z hc (rn4 ?_)
 refine zB Z (fun q=>absurd q hcn) (fun q=> ?_)
 unfold zm
 refine rn4 ?_
 rw [hm]
 refine rn6 ?_
 refine zE 31 (.int .u32 (m:Nat)) Z (AEq.of_eq (by congr 1)) ?_
 refine zA Z Z Z hds (rn2 ?_)
 refine zL (zAe (m:=n%m) Z Z Z zBk kK) ?_
 refine zA Z Z Z hsm (rn2 ?_)
 exact zM hR Z Z
theorem div_many (n m:Nat)(h:m≤n)(hn:(zW n).length≤1000000)(hm2:2≤(zW m).length):zX Tryz.prog 194 [zm n,zm m] (.tup [zm (n/m),zm (n%m)]):=by
 have hlm:(zW m).length≤(zW n).length:=zAh (by have:=zA6 (zAd n);rw [zAK] at this;omega)
 have hc:=zNM n m kK kK
 have hcn:=zQp h
 have hm0:0<m:=by
  rcases Nat.eq_zero_or_pos m with q|q
  ·subst q;rw [zCA] at hm2;simp at hm2
  ·exact q
 have hnB:n<B^(zW n).length:=by have:=zA6 (zAd n);rwa [zAK] at this
 obtain ⟨s,hs⟩: ∃s,(zW m).length=s:=⟨_,rfl⟩
 obtain ⟨ln,hln⟩: ∃ln,(zW n).length=ln:=⟨_,rfl⟩
 rw [hs] at hm2 hlm
 rw [hln] at hn hnB hlm
 obtain ⟨t,low,ht,htb,htp,hv,hlow⟩:=zHz (show 1≤s by omega) hs
 refine zU.value0 (zF (P:=Tryz.prog) (fn:=Tryz.f194) Z Z kQ Z (fun c hR hfix=> ?_)) (fix:=fun _=>False) (fun _ h=>h) Z Z
 refine rn0 ?_
 refine zA Z Z Z hc (rn4 ?_)
 refine zB Z (fun q=>absurd q hcn) (fun q=> ?_)
 have en:zm n= .ro (.ints .u32 (zW n)) 0 ln:=by unfold zm;rw [hln]
 have em:zm m= .ro (.ints .u32 (zW m)) 0 s:=by unfold zm;rw [hs]
 rw [en,em]
 refine rn4 ?_
 refine zB Z (fun q=>absurd q kK) (fun q=> ?_)
 refine rn1 ?_
 refine zb (ι:=Nat) (fun k=>[(0,.ro (.ints .u32 (zW n)) 0 ln),(1,.ro (.ints .u32 (zW m)) 0 s),(8,iN k)]) (fun _=>[]) (fun k=>k≤31∧t*2^k<4294967296) (fun k=>32-k) 0 ⟨⟨Z,Z,Z,trivial⟩,Z,kK,by rw [Nat.pow_zero,Nat.mul_one];exact htb⟩ ?_
 rintro k ⟨hk1,hk2⟩
 refine rn7 ?_
 refine zE 42 (iN (s-1)) Z (AEq.of_eq (by congr 1;omega)) (rn6 ?_)
 refine zE 44 (.int .u32 (t:Nat)) Z (AEq.of_eq (by rw [ht])) ?_
 skip
 refine zL (zLZ (m:=t) (s:=k) Z Z (by show k≤32;omega) zFp hk2) ?_
 refine zL (zHB (s:=31) Z Z Z) (rn4 ?_)
 refine zB Z (fun q1=> ?_) (fun q1=> ?_)
 ·have hmore:=k_more htp hk2 hk1 kK
  refine rn5 ?_
  exact zI ⟨k+1,⟨hmore.2,hmore.1⟩,kK,⟨Z,Z,Z,trivial⟩,Z⟩
 have hstop:=k_stop (t:=t) (k:=k) kK
 obtain ⟨hnl,hnt⟩:=norm_top (show 1≤s by omega) hs ht hstop hk2 hk1
 have hsn:=zPF (zW n) k (zAd n) kK kK
 have hsm:=zPF (zW m) k (zAd m) kK kK
 rw [zAK,hln] at hsn
 rw [zAK,hs] at hsm
 have hvB:m*2^k<B^s:=by have:=zA6 (zAd (m*2^k));rwa [zAK,hnl] at this
 have hvB1:m*2^k<B^(s+1):=Nat.lt_of_lt_of_le hvB (Nat.pow_le_pow_right kV kK)
 have hnorm:=zEe (zCO (s+1) (m*2^k)) (zGd _ _) (by rw [zCP];omega)
 rw [zJN _ _ hvB1] at hnorm
 have hstart:=zSg hnB hk1 (show 1≤s by omega) hlm (top_ge (show 1≤s by omega) hnl hnt)
 have hv0:0<m*2^k:=Nat.mul_pos hm0 (Nat.pow_pos kV)
 have ev:zm (m*2^k)= .ro (.ints .u32 (zW (m*2^k))) 0 s:=by unfold zm;rw [hnl]
 have hdig:=fun (A U C:List Int) (j:Nat) (Hr:zO) (hj:A.length=j) (hl:U.length=s+1) (hU:Lim U)=>digit_ok A U C (zW (m*2^k)) j s Hr hj hm2 hl hnl hU (zAd _) hnt
 rw [zAK] at hdig
 have hend:=fun Q W=>quo_end (n:=n) (m:=m) (k:=k) (W:=W) (Q:=Q) hm0
 obtain ⟨v,hve⟩: ∃v,m*2^k=v:=⟨_,rfl⟩
 rw [hve] at hsm hvB hvB1 hnorm hstart hv0 ev hdig hend hnl
 refine rn5 ?_
 have c1:[AV.ro (.ints .u32 (zW n)) 0 ln,iN k]++[]=[zG6 (zW n),iN k]:=by unfold zG6;rw [hln];rfl
 have c2:[AV.ro (.ints .u32 (zW m)) 0 s,iN k]++[]=[zG6 (zW m),iN k]:=by unfold zG6;rw [hs];rfl
 refine zEk Z Z c1 hsn ?_
 repeat (refine zL (zH rfl) ?_)
 refine zEk Z Z c2 hsm ?_
 refine zDg 1 56 (s+1) [(0,.ro (.ints .u32 (zW n)) 0 ln),(8,iN k),(53,.sl 0 0 (ln+1))] Z zAZ Z (by show _≤(zCO _ _).length;rw [zCP];omega) ⟨Z,Z,Z,trivial⟩ ?_
 refine zA Z Z (zDw (zCP _ _)) hnorm ?_
 rw [ev]
 refine rn7 ?_
 refine zBv Z Z Z Z Z Z Z Z (by show (0:Int)≤_∧_≤_∧(4:Int)*_≤_∧_;omega) ?_
 obtain ⟨J,hJ⟩: ∃J,J+s=ln+1:=⟨ln+1-s,kK⟩
 rw [show (((ln+1:Nat):Int)-(s:Nat)).toNat=J by omega]
 rw [show ln+1-s=J by omega] at hstart
 refine rn7 ?_
 refine zb (ι:=Nat×Nat×List Int) (fun p=>[(8,iN k),(9,.sl 0 0 (ln+1)),(10,.ro (.ints .u32 (zW v)) 0 s),(11,iN s),(12,.sl 2 0 J),(13,.int .i64 ((p.1:Int)-1))]) (fun p=>[some ⟨218,.ints .u32 (zCO (ln+1) p.2.1)⟩,none,some ⟨218,.ints .u32 p.2.2⟩])
  (fun p=>p.1≤J∧p.2.1<v*B^p.1∧p.2.2.length=J∧Lim p.2.2∧(∀x,x<p.1→p.2.2.getD x 0=0)∧zi p.2.2*v+p.2.1=n*2^k) (fun p=>p.1) (J,n*2^k,List.replicate J 0)
  ⟨⟨rfl,rfl,rfl,rfl,rfl,?_,trivial⟩,rfl,Nat.le_refl _,hstart,kJ,Lim.zeros _,fun x _=>zPU _ _,by simp [zI3]⟩ ?_
 ·show some (AV.int .i64 _)=_
  congr 2
  omega
 rintro ⟨j1,W,Q⟩ ⟨w1,w2,w3,w4,w5,w6⟩
 simp only at*
 refine rn7 ?_
 refine zB Z (fun q2=> ?_) (fun q2=> ?_)
 ·obtain ⟨j,rfl⟩: ∃j,j1=j+1:=⟨j1-1,kK⟩
  obtain ⟨p1,p2,p3,W',p4,p5,p6⟩:=quo_step (N:=ln+1) hv0 hvB w2 (show j+(s+1)≤ln+1 by omega)
  have hd:=hdig (zCO j W) (zCO (s+1) (W/B^j)) (zCO (ln+1-(j+(s+1))) (W/B^j/B^(s+1))) j [none,some ⟨218,.ints .u32 Q⟩] (zCP _ _) (zCP _ _) (zGd _ _) (by rw [p2];exact p3) (by rw [←p1,zCP];omega)
  rw [p2,p4,←p1] at hd
  have hq:W/B^j/v<4294967296:=Nat.div_lt_of_lt_mul (by rw [Nat.mul_comm];exact p3)
  obtain ⟨dg,hdg⟩: ∃dg,W/B^j/v=dg:=⟨_,rfl⟩
  rw [hdg] at hd hq p6
  refine rn17 ?_
  refine zE 82 (.sl 0 j (s+1)) Z (AEq.of_eq (by congr 1<;>omega)) ?_
  skip
  have c3:[AV.sl 0 j (s+1),.ro (.ints .u32 (zW v)) 0 s]++[]=[.sl 0 j (s+1),zG6 (zW v)]:=by unfold zG6;rw [hnl];rfl
  refine zCw Z Z c3 hd (fun h hh=>hh) (fun h hh=>hh) ?_
  rintro r H ⟨rfl,rfl⟩
  refine zE 75 (iN j) Z (AEq.of_eq (by congr 1;omega)) (rn7 ?_)
  have hz:=w5 j kK
  have hset:=zL0 (x:=(dg:Int)) (show j<Q.length by omega)
  rw [hz,Int.toNat_natCast] at hset
  have z0:(0:Int).toNat=0:=rfl
  rw [z0,Nat.mul_zero,Nat.add_zero] at hset
  refine zI ⟨(j,W',Q.set j (dg:Int)),⟨by simp only;omega,p5,by simp [w3],w4.set kK,fun x hx=> ?_,?_⟩,by simp only;omega,⟨Z,Z,Z,Z,Z,?_,trivial⟩,Z⟩
  ·simp only at hx⊢
   rw [zEC kK];exact w5 x kK
  ·simp only
   rw [hset,Nat.add_mul,Nat.mul_assoc,Nat.mul_comm dg v]
   omega
  ·show some (AV.int .i64 _)=_
   congr 2
   omega
 ·have hj0:j1=0:=kK
  subst hj0
  rw [Nat.pow_zero,Nat.mul_one] at w2
  have he:=hend (zi Q) W
  obtain ⟨hq,hW⟩:=he w6 w2
  clear he hend
  have hWB:W<B^s:=Nat.lt_trans w2 hvB
  have htk:(zCO (ln+1) W).take s=zCO s W:=by
   rw [show ln+1=s+J by omega,zGc,List.take_left' (zCP _ _)]
  have hn1:=zEe (zCO s W) (zGd _ _) (by rw [zCP];omega)
  rw [zJN _ _ hWB] at hn1
  refine rn5 ?_
  refine zL (zF3 Z Z Z Z Z Z Z Z ⟨Z,kK,kK⟩) ?_
  refine zE 88 (.sl 0 0 s) Z (AEq.of_eq (by rw [Int.toNat_natCast])) ?_
  refine zDg 0 88 s [(8,iN k),(12,.sl 2 0 J)] Z zAZ Z (by show _≤(zCO _ _).length;rw [zCP];omega) ⟨Z,Z,trivial⟩ ?_
  refine zE 88 (.ro (.ints .u32 (zCO s W)) 0 s) Z (AEq.trans AEq.take (AEq.of_eq (by rw [htk]))) ?_
  refine zA Z Z (zDw (zCP _ _)) hn1 ?_
  have hlW:=zAd W
  have hWv:=zAK W
  have hlWl:(zW W).length≤s:=zAh hWB
  unfold zm
  obtain ⟨r,hr⟩: ∃r,zW W=r:=⟨_,rfl⟩
  rw [hr] at hlW hWv hlWl⊢
  refine rn3 ?_
  refine zBv Z Z Z Z Z Z Z Z (by show (0:Int)≤_∧_≤_∧(4:Int)*_≤_∧_;omega) (rn3 ?_)
  have hd0: ∃d0:Nat,r.getD 0 0=(d0:Int)∧d0<4294967296:=hlW.nat 0
  obtain ⟨d0,hd0,hd0b⟩:=hd0
  refine zb (ι:=Nat×List Int) (fun p=>[(8,iN k),(12,.sl 2 0 J),(14,.ro (.ints .u32 r) 0 r.length),(15,.sl 3 0 r.length),(93,.ro (.ints .u32 r) 0 r.length),(94,iN r.length),(95,iN p.1)]) (fun p=>[none,none,some ⟨218,.ints .u32 Q⟩,some ⟨218,.ints .u32 p.2⟩])
   (fun p=>p.1≤r.length∧p.2.length=r.length∧Lim p.2∧zi (p.2.take p.1)*2^k+d0%2^k=zi (r.take p.1)+(r.getD p.1 0).toNat%2^k*B^p.1) (fun p=>r.length-p.1) (0,List.replicate r.length 0)
   ⟨⟨rfl,rfl,rfl,rfl,rfl,rfl,rfl,trivial⟩,rfl,Nat.zero_le _,kJ,Lim.zeros _,by simp [zi];rw [show r[0]?.getD 0=(d0:Int) from hd0];simp⟩ ?_
  rintro ⟨i,O⟩ ⟨x1,x2,x3,x4⟩
  simp only at*
  refine rn4 ?_
  refine zB Z (fun x5=> ?_) (fun x5=> ?_)
  ·have hil:i<r.length:=kK
   obtain ⟨d,hd,hdb⟩:=hlW.nat i
   obtain ⟨e,he,heb⟩:=hlW.nat (i+1)
   have hbl:=zRq (e:=e) hdb hk1
   have hbm:=back_lim (e:=e) hdb hk1
   have hdk:d/2^k<4294967296:=Nat.lt_of_le_of_lt (Nat.div_le_self _ _) hdb
   rw [hd,Int.toNat_natCast] at x4
   have hstep:=back_val (e:=e) (out:=O.take i) (i:=i) hk1 (by simp;omega) hd x4
   refine rn6 ?_
   refine zE 102 (.int .u32 (d:Nat)) Z (AEq.of_eq (by rw [hd])) ?_
   skip
   refine zL (zHB (m:=d) (s:=k) Z Z (by rw [Nat.ble_eq];show k≤32;omega)) (rn7 ?_)
   apply zAX (H:=[none,none,some ⟨218,.ints .u32 Q⟩,some ⟨218,.ints .u32 (O.set i ((d/2^k+e%2^k*2^(32-k):Nat):Int))⟩]) [(8,iN k),(12,.sl 2 0 J),(14,.ro (.ints .u32 r) 0 r.length),(15,.sl 3 0 r.length),(93,.ro (.ints .u32 r) 0 r.length),(94,iN r.length),(95,iN i)]
   ·intro fin
    have noFin:(i+1=r.length∨k=0)→e%2^k*2^(32-k)=0:=by
     rintro (h|h)
     ·have:r.getD (i+1) 0=0:=by simp [List.getD,List.getElem?_eq_none (show r.length≤i+1 by omega)]
      have:e=0:=kK
      subst this;simp
     ·subst h;rw [Nat.pow_zero,Nat.mod_one];try simp
    refine zAm Z Z (fun y1=> ?_) (fun y1=> ?_)
    ·refine rn6 ?_
     refine zB Z (fun y2=> ?_) (fun y2=> ?_)
     ·skip
      refine zZ kQ ?_
      refine zR 0 Z kQ kQ kQ Z (zH Z) Z ?_
      refine zR 1 Z kQ kQ kQ Z (zH Z) Z ?_
      refine zR 2 Z kQ kQ kQ Z (zAR Z Z Z Z Z (by first|(simp only [Nat.zero_add,Int.toNat_natCast,Int.toNat_zero];exact Z)|exact Z) kK) Z ?_
      refine zR 4 Z kQ kQ kQ Z (zH Z) Z ?_
      refine zR 5 Z kQ kQ kQ Z (zH Z) Z ?_
      refine zR 6 Z kQ kQ kQ Z (zCZ Z Z kK) Z ?_
      refine zR 7 Z kQ kQ kQ Z (zc Z Z Z Z (by first|(simp only [Nat.zero_add,Int.toNat_natCast,Int.toNat_zero];exact Z)|exact Z) kK) Z ?_
      refine zR 9 Z kQ kQ kQ Z (zH Z) Z ?_
      refine zR 10 Z kQ kQ kQ Z (zFl Z Z kK) Z ?_
      apply zn [(8,iN k),(12,.sl 2 0 J),(14,.ro (.ints .u32 r) 0 r.length),(15,.sl 3 0 r.length),(93,.ro (.ints .u32 r) 0 r.length),(94,iN r.length),(95,iN i),(118,.int .u32 (d/2^k:Nat)),(126,.int .u32 (e*2^(32-k)%4294967296:Nat)),(115,.sl 3 0 r.length),(116,iN i)]
      ·intro fin2
       have hsl:(O.set i ((d/2^k:Nat):Int)).getD i 0=((d/2^k:Nat):Int):=by simp [List.getD,show i<O.length by omega]
       have hil2:i<(O.set i ((d/2^k:Nat):Int)).length:=by simp;omega
       refine zD (is:=[3,8]) kQ kJ Z ⟨fun o ho=> ?_,fun o ho=> ?_,trivial⟩
       all_goals (cases ho)
       ·refine rn7 ?_
        refine zD (is:=[8]) kQ kJ Z ⟨fun o ho=> ?_,trivial⟩
        all_goals (cases ho)
        refine rn6 ?_
        refine zAB 123 (.int .u32 (e:Nat)) Z (AEq.of_eq (by rw [show ((i:Int)+1).toNat=i+1 by omega,he])) ?_
        refine zAB 125 (iN (32-k)) Z (AEq.of_eq (by congr 1;omega)) ?_
        refine zR 11 Z kQ kQ kQ Z (zRO (m:=e) (s:=32-k) Z Z (by show 32-k≤32;omega) zFp) Z ?_
        refine fin2 _ ⟨Z,Z,Z,Z,Z,Z,Z,?_,Z,Z,Z,trivial⟩
        show some (AV.int .u32 ((O.set i ((d/2^k:Nat):Int)).getD i 0))=_
        rw [hsl]
       ·refine rn6 ?_
        refine zAB 123 (.int .u32 (e:Nat)) Z (AEq.of_eq (by rw [show ((i:Int)+1).toNat=i+1 by omega,he])) ?_
        refine zAB 125 (iN (32-k)) Z (AEq.of_eq (by congr 1;omega)) ?_
        refine zR 11 Z kQ kQ kQ Z (zRO (m:=e) (s:=32-k) Z Z (by show 32-k≤32;omega) zFp) Z ?_
        refine zD (is:=[3]) kQ kJ Z ⟨fun o ho=> ?_,trivial⟩
        all_goals (cases ho)
        refine rn7 ?_
        refine fin2 _ ⟨Z,Z,Z,Z,Z,Z,Z,?_,Z,Z,Z,trivial⟩
        show some (AV.int .u32 ((O.set i ((d/2^k:Nat):Int)).getD i 0))=_
        rw [hsl]
      refine zR 12 Z kQ kQ kQ Z (QOp.res (zO1 Z Z zFp Z hdk (Nat.mod_lt _ kV)) (by rw [hbl])) Z ?_
      have hil2:i<(O.set i ((d/2^k:Nat):Int)).length:=by simp;omega
      refine zR 13 Z kQ kQ kQ Z (zAR Z Z Z Z Z (by first|(simp only [Nat.zero_add,Int.toNat_natCast,Int.toNat_zero];exact Z)|exact Z) kK) Z ?_
      refine zD (is:=[14]) kQ kJ Z ⟨fun o ho=> ?_,trivial⟩
      all_goals (cases ho)
      refine rn7 ?_
      refine zT kQ ?_
      refine zBq ?_
      refine zAs _ (by show [none,none,_,some (⟨_,.ints .u32 ((O.set i _).set i _)⟩:AObj)]=_;rw [List.set_set]) ?_
      exact fin _ ⟨Z,Z,Z,Z,Z,Z,Z,trivial⟩
     ·have hz:=noFin (.inr kK)
      rw [hz,Nat.add_zero] at fin
      refine zBq ?_
      exact fin _ ⟨Z,Z,Z,Z,Z,Z,Z,trivial⟩
    ·have hz:=noFin (.inl kK)
     rw [hz,Nat.add_zero] at fin
     refine zBq ?_
     exact fin _ ⟨Z,Z,Z,Z,Z,Z,Z,trivial⟩
   refine rn3 ?_
   refine zI ⟨(i+1,O.set i ((d/2^k+e%2^k*2^(32-k):Nat):Int)),⟨by simp only;omega,by simp [x2],x3.set kK,?_⟩,by simp only;omega,⟨Z,Z,Z,Z,Z,Z,Z,trivial⟩,Z⟩
   simp only
   rw [zGM kK,he,Int.toNat_natCast]
   exact hstep
  ·have hie:i=r.length:=kK
   subst hie
   have hz:r.getD r.length 0=0:=by simp [List.getD]
   have z0:(0:Int).toNat=0:=rfl
   rw [hz,z0,Nat.zero_mod,Nat.zero_mul,Nat.add_zero,List.take_of_length_le kK,List.take_length,hWv,hW] at x4
   have hpk:0<2^k:=Nat.pow_pos kV
   have hOv:zi O=n%m:=by
    have h1:d0%2^k<2^k:=Nat.mod_lt _ hpk
    have h2:(zi O*2^k+d0%2^k)/2^k=zi O:=by rw [Nat.add_comm,Nat.add_mul_div_right _ _ hpk,Nat.div_eq_of_lt h1,Nat.zero_add]
    rw [x4,Nat.mul_div_cancel _ hpk] at h2
    exact h2.symm
   have nq:=zEe Q w4 kK
   have no:=zEe O x3 kK
   rw [hq] at nq
   rw [hOv] at no
   refine rn5 ?_
   refine zDg 2 130 J [(15,.sl 3 0 r.length)] Z zAZ Z (by show _≤Q.length;omega) ⟨Z,trivial⟩ ?_
   refine zA Z Z (zDw w3) nq ?_
   repeat (refine zL (zH rfl) ?_)
   refine zDg 3 132 r.length [(131,zm (n/m))] Z zAZ Z (by show _≤O.length;omega) ⟨Z,trivial⟩ ?_
   refine zA Z Z (zDw x2) no (rn0 ?_)
   exact zM hR Z Z
theorem zJu (n m:Nat)(hm:0<m)(hn:(zW n).length≤1000000)(hml:(zW m).length≤1000000):zX Tryz.prog 194 [zm n,zm m] (.tup [zm (n/m),zm (n%m)]):=by
 rcases Nat.lt_or_ge n m with h|h
 ·rw [Nat.div_eq_of_lt h,Nat.mod_eq_of_lt h]
  exact zX.res (div_less n m h hn hml) (AEq.tup2 AEq.natNil)
 ·have h1:(zW m).length≠0:=by
   have:=zCp.2 (show m≠0 by omega)
   omega
  rcases Nat.lt_or_ge (zW m).length 2 with q|q
  ·exact div_one n m h hn kK
  ·exact div_many n m h hn q
theorem zP0 (n m:Nat)(hn:(zW n).length≤1000000)(hm:(zW m).length≤1000000):zX Tryz.prog 158 [zm n,zm m] (zm (Nat.gcd n m)):=by
 refine zU.value0 (zF (P:=Tryz.prog) (fn:=Tryz.f158) Z Z kQ Z (fun c hR hfix=> ?_)) (fix:=fun _=>False) (fun _ h=>h) Z Z
 refine rn1 ?_
 refine zb (ι:=Nat×Nat) (fun p=>[(0,zm p.1),(1,zm p.2)]) (fun _=>[]) (fun p=>(zW p.1).length≤1000000∧(zW p.2).length≤1000000∧Nat.gcd p.1 p.2=Nat.gcd n m) (fun p=>p.2) (n,m) ⟨⟨Z,Z,trivial⟩,Z,hn,hm,Z⟩ ?_
 rintro ⟨a,b⟩ ⟨h1,h2,h3⟩
 simp only at*
 have hd:=fun h=>zJu a b h h1 h2
 have hpos:0<(zW b).length↔b≠0:=zCp
 have en:zm b= .ro (.ints .u32 (zW b)) 0 (zW b).length:=rfl
 rw [en] at hd⊢
 refine rn6 ?_
 refine zB Z (fun h4=> ?_) (fun h4=> ?_)
 ·have hb:b≠0:=hpos.1 kK
  refine rn1 ?_
  refine zA Z Z Z (hd kK) (rn5 ?_)
  refine zI ⟨(b,a%b),⟨h2,zGH (Nat.mod_lt a kK) h2,?_⟩,Nat.mod_lt a kK,⟨Z,Z,trivial⟩,Z⟩
  show Nat.gcd b (a%b)=Nat.gcd n m
  rw [←h3,Nat.gcd_comm a b,Nat.gcd_rec b a,Nat.gcd_comm]
 ·have hb:b=0:=by
   rcases Nat.eq_zero_or_pos b with q|q
   ·exact q
   ·have:=hpos.2 kK;omega
  rw [hb,Nat.gcd_zero_right] at h3
  refine rn5 ?_
  refine zM hR Z ?_
  rw [←h3];rfl
theorem one_ok (n:Nat):zX Tryz.prog 159 [zm n] (.bool (decide (n=1))):=by
 refine zU.value0 (zF (P:=Tryz.prog) (fn:=Tryz.f159) Z Z kQ Z (fun c hR hfix=> ?_)) (fix:=fun _=>False) (fun _ h=>h) Z Z
 have h1:n=1↔(zW n).length=1∧(zW n).getD 0 0=1:=zSW
 unfold zm
 refine rn4 ?_
 refine zAm Z Z (fun h2=> ?_) (fun h2=> ?_)
 ·refine rn6 ?_
  refine zM hR Z ?_
  show AV.bool (decide ((zW n).getD _ 0=1))=_
  congr 1
  rw [decide_eq_decide,h1]
  exact ⟨fun h=>⟨kK,h⟩,fun h=>h.2⟩
 ·refine rn6 ?_
  refine zM hR Z ?_
  show AV.bool false=_
  rw [decide_eq_false]
  intro h
  exact h2 (by have:=(h1.1 h).1;omega)
theorem zQS (l:List (List UInt8))(hl:l.length≤1000000000):
 zU Tryz.prog 241 [.sl 0 0 l.length] [some ⟨9,.strs l⟩] (fun h=>h<1) (fun _ H=>H=[some ⟨9,.strs l.reverse⟩]):=by
 refine zF (P:=Tryz.prog) (fn:=Tryz.f241) Z Z kQ Z (fun c hR hfix=> ?_)
 refine rn7 ?_
 refine zb (ι:=Nat) (fun k=>[(0,.sl 0 0 l.length),(2,iN k),(3,.int .i64 ((l.length:Int)-1-k))]) (fun k=>[some ⟨9,.strs (zHO l k)⟩]) (fun k=>2*k≤l.length+1) (fun k=>l.length+1-k) 0 ⟨⟨Z,Z,?_,trivial⟩,by rw [zSk],kK⟩ ?_
 ·show some (AV.int .i64 _)=_
  congr 2;omega
 rintro k hk
 have hrl:=zEJ l k
 refine rn4 ?_
 refine zB Z (fun h1=> ?_) (fun h1=> ?_)
 ·have hk2:k+1+k<l.length:=kK
  have e1:((l.length:Int)-1-(k:Nat)).toNat=l.length-1-k:=kK
  refine rn1 ?_
  refine zZ kQ ?_
  refine zR 0 Z kQ kQ kQ Z (zH Z) Z ?_
  refine zR 1 Z kQ kQ kQ Z (zH Z) Z ?_
  refine zR 2 Z kQ kQ kQ Z (zH Z) Z ?_
  refine zR 3 Z kQ kQ kQ Z (zH Z) Z ?_
  refine zR 4 Z kQ kQ kQ Z (zH Z) Z ?_
  refine zR 5 Z kQ kQ kQ Z (zH Z) Z ?_
  refine zR 6 Z kQ kQ kQ Z (zAR Z Z Z Z Z (by first|(simp only [Nat.zero_add,Int.toNat_natCast,Int.toNat_zero];exact Z)|exact Z) kK) Z ?_
  refine zR 8 Z kQ kQ kQ Z (zH Z) Z ?_
  refine zR 9 Z kQ kQ kQ Z (zH Z) Z ?_
  refine zR 10 Z kQ kQ kQ Z (zAR Z Z Z Z Z (by first|(simp only [Nat.zero_add,Int.toNat_natCast,Int.toNat_zero];exact Z)|exact Z) kK) Z ?_
  refine zAB 20 (.ptr 0 (l.length-1-k) 0) Z (AEq.of_eq (by rw [e1])) ?_
  have b1:l.length-1-k<(zHO l k).length:=kK
  have b2:k<(zHO l k).length:=kK
  apply zn [(0,.sl 0 0 l.length),(2,iN k),(3,.int .i64 ((l.length:Int)-1-k)),(14,.sl 0 0 l.length),(15,iN k),(16,.sl 0 0 l.length),(17,.int .i64 ((l.length:Int)-1-k)),(21,.str ((zHO l k).getD (l.length-1-k) [])),(25,.str ((zHO l k).getD k []))]
  ·intro fin
   refine zD (is:=[7,11]) kQ kJ Z ⟨fun o ho=> ?_,fun o ho=> ?_,trivial⟩
   all_goals (cases ho)
   ·refine zCS ?_
    refine zD (is:=[11]) kQ kJ Z ⟨fun o ho=> ?_,trivial⟩
    all_goals (cases ho)
    refine zCS ?_
    exact fin _ ⟨Z,Z,Z,Z,Z,Z,Z,Z,Z,trivial⟩
   ·refine zCS ?_
    refine zD (is:=[7]) kQ kJ Z ⟨fun o ho=> ?_,trivial⟩
    all_goals (cases ho)
    refine zCS ?_
    exact fin _ ⟨Z,Z,Z,Z,Z,Z,Z,Z,Z,trivial⟩
  refine zR 12 Z kQ kQ kQ Z (zAR Z Z Z Z Z (by first|(simp only [Nat.zero_add,Int.toNat_natCast,Int.toNat_zero];exact Z)|exact Z) kK) Z ?_
  refine zD (is:=[13]) kQ kJ Z ⟨fun o ho=> ?_,trivial⟩
  all_goals (cases ho)
  refine rn7 ?_
  refine zR 14 Z kQ kQ kQ Z (zAR Z Z Z Z Z (by first|(simp only [Nat.zero_add,Int.toNat_natCast,Int.toNat_zero];exact Z)|exact Z) kK) Z ?_
  refine zAB 27 (.ptr 0 (l.length-1-k) 0) Z (AEq.of_eq (by rw [e1])) ?_
  have b3:l.length-1-k<((zHO l k).set k ((zHO l k).getD (l.length-1-k) [])).length:=by simp;omega
  refine zD (is:=[15]) kQ kJ Z ⟨fun o ho=> ?_,trivial⟩
  all_goals (cases ho)
  refine rn7 ?_
  refine zT kQ (rn7 ?_)
  refine zI ⟨k+1,kK,kK,⟨Z,Z,?_,trivial⟩,?_⟩
  ·show some (AV.int .i64 _)=_
   congr 2;omega
  ·show ([some ⟨_,.strs (((zHO l k).set k _).set (l.length-1-k) _)⟩]:zO)=_
   rw [zSj l hk2]
 ·refine rn5 ?_
  refine ax_end hR Z ?_
  rw [zSi l kK]
end Go.Proofs.YtmpnheilfejcpaaGreatDoor
namespace Go.Proofs
open Go.Shelf
def Tryz.lays156_ren:Go.Shelf.Ren:=⟨fun|156=>242|165=>263|166=>264|169=>266|240=>275|241=>276|276=>283|277=>284|n=>n,fun|31=>302|9=>9|3=>3|4=>4|0=>0|20=>20|72=>321|76=>323|70=>319|37=>310|75=>268|127=>332|164=>346|5=>5|80=>252|n=>n,fun|n=>n⟩
theorem Tryz.lays156:Go.Proofs.Lays.n156 Tryz.prog Tryz.lays156_ren:={
 mixed:=kQ
 f156:=Tryz.func242.trans (congrArg some kQ)
 f165:=Tryz.func263.trans (congrArg some kQ)
 f166:=Tryz.func264.trans (congrArg some kQ)
 f169:=Tryz.func266.trans (congrArg some kQ)
 f240:=Tryz.func275.trans (congrArg some kQ)
 f241:=Tryz.func276.trans (congrArg some kQ)
 f276:=Tryz.func283.trans (congrArg some kQ)
 f277:=Tryz.func284.trans (congrArg some kQ)
 t0:=Tryz.underlying0
 a0:=Tryz.isAgg0
 z0:=Tryz.sizeOf0
 v0:=Tryz.zeroValue0
 t3:=Tryz.underlying3
 a3:=Tryz.isAgg3
 z3:=Tryz.sizeOf3
 v3:=Tryz.zeroValue3
 t4:=Tryz.underlying4
 a4:=Tryz.isAgg4
 z4:=Tryz.sizeOf4
 v4:=Tryz.zeroValue4
 t9:=Tryz.underlying9
 a9:=Tryz.isAgg9
 z9:=Tryz.sizeOf9
 v9:=Tryz.zeroValue9
 t20:=Tryz.underlying20
 a20:=Tryz.isAgg20
 z20:=Tryz.sizeOf20
 v20:=Tryz.zeroValue20
 t31:=Tryz.underlying302
 a31:=Tryz.isAgg302
 z31:=Tryz.sizeOf302
 v31:=Tryz.zeroValue302
 t37:=Tryz.underlying310
 a37:=Tryz.isAgg310
 z37:=Tryz.sizeOf310
 v37:=Tryz.zeroValue310
 t70:=Tryz.underlying319
 a70:=Tryz.isAgg319
 z70:=Tryz.sizeOf319
 v70:=Tryz.zeroValue319
 t72:=Tryz.underlying321
 a72:=Tryz.isAgg321
 z72:=Tryz.sizeOf321
 v72:=Tryz.zeroValue321
 t75:=Tryz.underlying268
 a75:=Tryz.isAgg268
 z75:=Tryz.sizeOf268
 v75:=Tryz.zeroValue268
 t76:=Tryz.underlying323
 a76:=Tryz.isAgg323
 z76:=Tryz.sizeOf323
 v76:=Tryz.zeroValue323
 t127:=Tryz.underlying332
 a127:=Tryz.isAgg332
 z127:=Tryz.sizeOf332
 v127:=Tryz.zeroValue332
 t164:=Tryz.underlying346
 a164:=Tryz.isAgg346
 z164:=Tryz.sizeOf346
 v164:=Tryz.zeroValue346}
theorem Tryz.Builder_Extra_156:Builder.Extra Tryz.prog Tryz.lays156_ren:={
 sizeBuilder:=kQ
 liesBuilder:=kQ
 t5:=Tryz.underlying5
 a5:=Tryz.isAgg5
 z5:=Tryz.sizeOf5
 v5:=Tryz.zeroValue5
 infoByte:=kQ
 cellsByte:=kQ
 sizeByte:=kQ
 neB5:=by decide}
open Go.RowKit in
theorem Tryz.strings_Join_none (a:Option Addr)(c:Nat)(sep:ByteArray)(w:World):
 Calls Tryz.prog 242 #[.slice a 0 c,.string sep] w fun e w'=>e= .returned (.string ⟨#[]⟩)∧w'=w:=Any.strings_Join_none Tryz.lays156 Tryz.Builder_Extra_156 a c sep w
open Go.RowKit in
theorem Tryz.strings_Join (bk o c:Nat)(xs:List ByteArray)(sep:ByteArray)(w:World)(hcells: ∀(j:Nat) x,xs[j]? =some x→w.cell? ⟨bk,o+j,none⟩=some (.string x))(hbk:bk<w.heap.size)(hN:xs.length≤140737488355328)(hcap:xs.length≤c)(hlen:(Lib.join (xs.map (·.data.toList)) sep.data.toList).length≤140737488355328):
 Calls Tryz.prog 242 #[.slice (some ⟨bk,o,none⟩) xs.length c,.string sep] w fun e w'=>e= .returned (.string ⟨(Lib.join (xs.map (·.data.toList)) sep.data.toList).toArray⟩)∧Below w.heap.size w w':=Any.strings_Join Tryz.lays156 Tryz.Builder_Extra_156 bk o c xs sep w hcells hbk hN hcap hlen
def Tryz.laysM171_ren:Go.Shelf.Ren:=⟨fun|171=>239|243=>262|246=>274|283=>279|284=>280|285=>281|286=>282|129=>286|317=>285|318=>287|319=>288|320=>289|337=>290|338=>291|n=>n,fun|3=>3|9=>9|2=>2|4=>4|171=>341|0=>0|53=>265|37=>310|5=>5|173=>344|212=>350|51=>218|20=>20|213=>351|46=>200|232=>354|233=>355|n=>n,fun|17=>5|18=>6|19=>7|n=>n⟩
theorem Tryz.laysM171:Go.Proofs.LaysM.n171 Tryz.prog Tryz.laysM171_ren:={
 mixed:=kQ
 f129:=Tryz.func286.trans (congrArg some kQ)
 f171:=Tryz.func239.trans (congrArg some kQ)
 f243:=Tryz.func262.trans (congrArg some kQ)
 f246:=Tryz.func274.trans (congrArg some kQ)
 f283:=Tryz.func279.trans (congrArg some kQ)
 f284:=Tryz.func280.trans (congrArg some kQ)
 f285:=Tryz.func281.trans (congrArg some kQ)
 f286:=Tryz.func282.trans (congrArg some kQ)
 f317:=Tryz.func285.trans (congrArg some kQ)
 f318:=Tryz.func287.trans (congrArg some kQ)
 f319:=Tryz.func288.trans (congrArg some kQ)
 f320:=Tryz.func289.trans (congrArg some kQ)
 f337:=Tryz.func290.trans (congrArg some kQ)
 f338:=Tryz.func291.trans (congrArg some kQ)
 t0:=Tryz.underlying0
 a0:=Tryz.isAgg0
 z0:=Tryz.sizeOf0
 v0:=Tryz.zeroValue0
 t2:=Tryz.underlying2
 a2:=Tryz.isAgg2
 z2:=Tryz.sizeOf2
 v2:=Tryz.zeroValue2
 t3:=Tryz.underlying3
 a3:=Tryz.isAgg3
 z3:=Tryz.sizeOf3
 v3:=Tryz.zeroValue3
 t4:=Tryz.underlying4
 a4:=Tryz.isAgg4
 z4:=Tryz.sizeOf4
 v4:=Tryz.zeroValue4
 t5:=Tryz.underlying5
 a5:=Tryz.isAgg5
 z5:=Tryz.sizeOf5
 v5:=Tryz.zeroValue5
 t9:=Tryz.underlying9
 a9:=Tryz.isAgg9
 z9:=Tryz.sizeOf9
 v9:=Tryz.zeroValue9
 t20:=Tryz.underlying20
 a20:=Tryz.isAgg20
 z20:=Tryz.sizeOf20
 v20:=Tryz.zeroValue20
 t37:=Tryz.underlying310
 a37:=Tryz.isAgg310
 z37:=Tryz.sizeOf310
 v37:=Tryz.zeroValue310
 t46:=Tryz.underlying200
 a46:=Tryz.isAgg200
 z46:=Tryz.sizeOf200
 v46:=Tryz.zeroValue200
 t51:=Tryz.underlying218
 a51:=Tryz.isAgg218
 z51:=Tryz.sizeOf218
 v51:=Tryz.zeroValue218
 t53:=Tryz.underlying265
 a53:=Tryz.isAgg265
 z53:=Tryz.sizeOf265
 v53:=Tryz.zeroValue265
 t171:=Tryz.underlying341
 a171:=Tryz.isAgg341
 z171:=Tryz.sizeOf341
 v171:=Tryz.zeroValue341
 t173:=Tryz.underlying344
 a173:=Tryz.isAgg344
 z173:=Tryz.sizeOf344
 v173:=Tryz.zeroValue344
 t212:=Tryz.underlying350
 a212:=Tryz.isAgg350
 z212:=Tryz.sizeOf350
 v212:=Tryz.zeroValue350
 t213:=Tryz.underlying351
 a213:=Tryz.isAgg351
 z213:=Tryz.sizeOf351
 t232:=Tryz.underlying354
 a232:=Tryz.isAgg354
 z232:=Tryz.sizeOf354
 v232:=Tryz.zeroValue354
 t233:=Tryz.underlying355
 a233:=Tryz.isAgg355
 z233:=Tryz.sizeOf355
 v233:=Tryz.zeroValue355
 g17:=kQ
 g18:=kQ
 g19:=kQ
 i0:=kQ
 i2:=kQ
 i3:=kQ
 i4:=kQ
 i5:=kQ
 i9:=kQ
 i20:=kQ
 i37:=kQ
 i46:=kQ
 i51:=kQ
 i53:=kQ
 i171:=kQ
 i173:=kQ
 i212:=kQ
 i232:=kQ
 i233:=kQ
 m17:=kQ
 m18:=kQ
 m19:=by kernel_rfl}
open Go.RowKit Go.Sort Go.Lib in
theorem Tryz.strconv_Itoa (n:Int)(h0: -9223372036854775808≤n)(h1:n≤9223372036854775807)(w:World)(htab:Lib.TabIs Tryz.prog w "internal/strconv.uint64pow10" .u64 Lib.pow10Tab):
 Calls Tryz.prog 239 #[.int .i64 n] w fun e w'=>e= .returned (.string ⟨(Lib.itoa n).toArray⟩)∧ ∃k os,w'=grow (w.drewN k) os:=Any.strconv_Itoa Tryz.laysM171 n h0 h1 w htab
def Tryz.laysPu14_ren:Go.Shelf.Ren:=⟨fun|14=>199|16=>227|17=>228|19=>251|20=>252|21=>253|22=>254|23=>255|24=>256|25=>269|27=>239|26=>270|28=>262|29=>274|30=>279|31=>280|32=>281|33=>282|35=>286|34=>285|36=>287|37=>288|38=>289|39=>290|40=>291|n=>n,fun|9=>9|3=>3|22=>265|24=>268|25=>269|4=>4|34=>308|5=>5|36=>200|37=>310|0=>0|39=>311|21=>21|44=>328|47=>332|50=>335|48=>333|2=>2|52=>341|55=>344|59=>350|60=>218|20=>20|61=>351|65=>354|66=>355|67=>252|n=>n,fun|0=>1|1=>2|2=>5|3=>6|4=>7|n=>n⟩
theorem Tryz.laysPu14:Go.Proofs.LaysPu.n14 Tryz.prog Tryz.laysPu14_ren:={
 mixed:=kQ
 f14:=Tryz.func199.trans (congrArg some kQ)
 f16:=Tryz.func227.trans (congrArg some kQ)
 f17:=Tryz.func228.trans (congrArg some kQ)
 f19:=Tryz.func251.trans (congrArg some kQ)
 f20:=Tryz.func252.trans (congrArg some kQ)
 f21:=Tryz.func253.trans (congrArg some kQ)
 f22:=Tryz.func254.trans (congrArg some kQ)
 f23:=Tryz.func255.trans (congrArg some kQ)
 f24:=Tryz.func256.trans (congrArg some kQ)
 f25:=Tryz.func269.trans (congrArg some kQ)
 f26:=Tryz.func270.trans (congrArg some kQ)
 f27:=Tryz.func239.trans (congrArg some kQ)
 f28:=Tryz.func262.trans (congrArg some kQ)
 f29:=Tryz.func274.trans (congrArg some kQ)
 f30:=Tryz.func279.trans (congrArg some kQ)
 f31:=Tryz.func280.trans (congrArg some kQ)
 f32:=Tryz.func281.trans (congrArg some kQ)
 f33:=Tryz.func282.trans (congrArg some kQ)
 f34:=Tryz.func285.trans (congrArg some kQ)
 f35:=Tryz.func286.trans (congrArg some kQ)
 f36:=Tryz.func287.trans (congrArg some kQ)
 f37:=Tryz.func288.trans (congrArg some kQ)
 f38:=Tryz.func289.trans (congrArg some kQ)
 f39:=Tryz.func290.trans (congrArg some kQ)
 f40:=Tryz.func291.trans (congrArg some kQ)
 t0:=Tryz.underlying0
 a0:=Tryz.isAgg0
 z0:=Tryz.sizeOf0
 v0:=Tryz.zeroValue0
 i0:=kQ
 t2:=Tryz.underlying2
 a2:=Tryz.isAgg2
 z2:=Tryz.sizeOf2
 v2:=Tryz.zeroValue2
 i2:=kQ
 t3:=Tryz.underlying3
 a3:=Tryz.isAgg3
 z3:=Tryz.sizeOf3
 v3:=Tryz.zeroValue3
 i3:=kQ
 t4:=Tryz.underlying4
 a4:=Tryz.isAgg4
 z4:=Tryz.sizeOf4
 v4:=Tryz.zeroValue4
 i4:=kQ
 t5:=Tryz.underlying5
 a5:=Tryz.isAgg5
 z5:=Tryz.sizeOf5
 v5:=Tryz.zeroValue5
 i5:=kQ
 t9:=Tryz.underlying9
 a9:=Tryz.isAgg9
 z9:=Tryz.sizeOf9
 v9:=Tryz.zeroValue9
 i9:=kQ
 t20:=Tryz.underlying20
 a20:=Tryz.isAgg20
 z20:=Tryz.sizeOf20
 v20:=Tryz.zeroValue20
 i20:=kQ
 t21:=Tryz.underlying21
 a21:=Tryz.isAgg21
 z21:=Tryz.sizeOf21
 v21:=Tryz.zeroValue21
 i21:=kQ
 t22:=Tryz.underlying265
 a22:=Tryz.isAgg265
 z22:=Tryz.sizeOf265
 v22:=Tryz.zeroValue265
 i22:=kQ
 t24:=Tryz.underlying268
 a24:=Tryz.isAgg268
 z24:=Tryz.sizeOf268
 v24:=Tryz.zeroValue268
 i24:=kQ
 t25:=Tryz.underlying269
 a25:=Tryz.isAgg269
 z25:=Tryz.sizeOf269
 v25:=Tryz.zeroValue269
 i25:=kQ
 t34:=Tryz.underlying308
 a34:=Tryz.isAgg308
 z34:=Tryz.sizeOf308
 v34:=Tryz.zeroValue308
 i34:=kQ
 c34:=kQ
 t36:=Tryz.underlying200
 a36:=Tryz.isAgg200
 z36:=Tryz.sizeOf200
 v36:=Tryz.zeroValue200
 i36:=kQ
 t37:=Tryz.underlying310
 a37:=Tryz.isAgg310
 z37:=Tryz.sizeOf310
 v37:=Tryz.zeroValue310
 i37:=kQ
 t39:=Tryz.underlying311
 a39:=Tryz.isAgg311
 z39:=Tryz.sizeOf311
 v39:=Tryz.zeroValue311
 i39:=kQ
 t44:=Tryz.underlying328
 a44:=Tryz.isAgg328
 z44:=Tryz.sizeOf328
 v44:=Tryz.zeroValue328
 i44:=kQ
 t47:=Tryz.underlying332
 a47:=Tryz.isAgg332
 z47:=Tryz.sizeOf332
 v47:=Tryz.zeroValue332
 i47:=kQ
 t48:=Tryz.underlying333
 a48:=Tryz.isAgg333
 z48:=Tryz.sizeOf333
 v48:=Tryz.zeroValue333
 i48:=kQ
 t50:=Tryz.underlying335
 a50:=Tryz.isAgg335
 z50:=Tryz.sizeOf335
 v50:=Tryz.zeroValue335
 i50:=kQ
 t52:=Tryz.underlying341
 a52:=Tryz.isAgg341
 z52:=Tryz.sizeOf341
 v52:=Tryz.zeroValue341
 i52:=kQ
 t55:=Tryz.underlying344
 a55:=Tryz.isAgg344
 z55:=Tryz.sizeOf344
 v55:=Tryz.zeroValue344
 i55:=kQ
 t59:=Tryz.underlying350
 a59:=Tryz.isAgg350
 z59:=Tryz.sizeOf350
 v59:=Tryz.zeroValue350
 i59:=kQ
 t60:=Tryz.underlying218
 a60:=Tryz.isAgg218
 z60:=Tryz.sizeOf218
 v60:=Tryz.zeroValue218
 i60:=kQ
 t61:=Tryz.underlying351
 a61:=Tryz.isAgg351
 z61:=Tryz.sizeOf351
 t65:=Tryz.underlying354
 a65:=Tryz.isAgg354
 z65:=Tryz.sizeOf354
 v65:=Tryz.zeroValue354
 i65:=kQ
 t66:=Tryz.underlying355
 a66:=Tryz.isAgg355
 z66:=Tryz.sizeOf355
 v66:=Tryz.zeroValue355
 i66:=kQ
 t67:=Tryz.underlying252
 a67:=Tryz.isAgg252
 z67:=Tryz.sizeOf252
 v67:=Tryz.zeroValue252
 i67:=kQ
 g0:=kQ
 m0:=kQ
 g1:=kQ
 m1:=kQ
 g2:=kQ
 m2:=kQ
 g3:=kQ
 m3:=kQ
 g4:=kQ
 m4:=by kernel_rfl}
open Go.RowKit in
theorem Tryz.strconv_ParseUint_10_at32_ok (s:ByteArray)(hmax:s.size≤9223372036854775806)(u:Nat)(h:Lib.parseUintB 32 s.data.toList= .ok u)(w:World):
 Calls Tryz.prog 199 #[.string s,.int .i64 10,.int .i64 32] w fun e w'=>e= .returned (.tuple #[.int .u64 u,.nilIface])∧(w'=w∨w'=Lib.bytesWorld w 5 s):=Any.strconv_ParseUint_10_at32_ok Tryz.laysPu14 s hmax u h w
def Tryz.lays212_ren:Go.Shelf.Ren:=⟨fun|212=>189|263=>218|264=>219|n=>n,fun|46=>200|51=>218|146=>283|53=>265|148=>285|n=>n,fun|n=>n⟩
theorem Tryz.lays212:Go.Proofs.Lays.n212 Tryz.prog Tryz.lays212_ren:={
 mixed:=kQ
 f212:=Tryz.func189.trans (congrArg some kQ)
 f263:=Tryz.func218.trans (congrArg some kQ)
 f264:=Tryz.func219.trans (congrArg some kQ)
 t46:=Tryz.underlying200
 a46:=Tryz.isAgg200
 z46:=Tryz.sizeOf200
 v46:=Tryz.zeroValue200
 t51:=Tryz.underlying218
 a51:=Tryz.isAgg218
 z51:=Tryz.sizeOf218
 v51:=Tryz.zeroValue218
 t53:=Tryz.underlying265
 a53:=Tryz.isAgg265
 z53:=Tryz.sizeOf265
 v53:=Tryz.zeroValue265
 t146:=Tryz.underlying283
 a146:=Tryz.isAgg283
 z146:=Tryz.sizeOf283
 v146:=Tryz.zeroValue283
 t148:=Tryz.underlying285
 a148:=Tryz.isAgg285
 z148:=Tryz.sizeOf285
 v148:=Tryz.zeroValue285}
open Go.RowKit Go.Lib in
theorem Tryz.bits_Mul (x y:Nat)(hx:x<18446744073709551616)(hy:y<18446744073709551616)(w:World):
 Calls Tryz.prog 189 #[.int .u64 x,.int .u64 y] w fun e w'=>e= .returned (.tuple #[.int .u64 ((x*y/18446744073709551616:Nat):Int),.int .u64 ((x*y%18446744073709551616:Nat):Int)])∧w'=w:=Any.bits_Mul Tryz.lays212 x y hx hy w
end Go.Proofs
namespace Go.Proofs.YtmpnheilfejcpaaGreatDoor
open Go.Ax Go.Ax.Bg Go.RowKit
theorem zN9 (w:World)(q:Nat)(os:Array Obj):Below w.heap.size w (Go.Sort.grow (w.drewN q) os):=by
 refine ⟨Z,Z,Z,?_,fun k hk=> ?_⟩
 ·show w.heap.size≤(w.heap++os).size
  simp
 ·show (w.heap++os)[k]? =w.heap[k]?
  rw [Array.getElem?_append_left hk]
theorem vals1 {w:World}{S:Nat→Prop}{σ:Nat→Option Blk}{a:AV}{vals:Array Value}(hv:VRs w S σ [a] vals): ∃x,vals= #[x]∧VR w S σ a x:=by
 obtain ⟨h1,h2⟩:=hv
 have q:=h2 0 kJ
 have hl:vals.toList.length=1:=by simpa using h1
 match hq:vals.toList,hl with
 |[x],_=>
  have e:vals= #[x]:=by rw [←Array.toArray_toList (xs:=vals),hq]
  subst e
  exact ⟨x,Z,by simpa using q⟩
theorem vals2 {w:World}{S:Nat→Prop}{σ:Nat→Option Blk}{a b:AV}{vals:Array Value}(hv:VRs w S σ [a,b] vals): ∃x y,vals= #[x,y]∧VR w S σ a x∧VR w S σ b y:=by
 obtain ⟨h1,h2⟩:=hv
 have q:=h2 0 kJ
 have q1:=h2 1 kJ
 have hl:vals.toList.length=2:=by simpa using h1
 match hq:vals.toList,hl with
 |[x,y],_=>
  have e:vals= #[x,y]:=by rw [←Array.toArray_toList (xs:=vals),hq]
  subst e
  exact ⟨x,y,Z,by simpa using q,by simpa using q1⟩
theorem vals3 {w:World}{S:Nat→Prop}{σ:Nat→Option Blk}{a b c:AV}{vals:Array Value}(hv:VRs w S σ [a,b,c] vals): ∃x y z,vals= #[x,y,z]∧VR w S σ a x∧VR w S σ b y∧VR w S σ c z:=by
 obtain ⟨h1,h2⟩:=hv
 have q:=h2 0 kJ
 have q1:=h2 1 kJ
 have q2:=h2 2 kJ
 have hl:vals.toList.length=3:=by simpa using h1
 match hq:vals.toList,hl with
 |[x,y,z],_=>
  have e:vals= #[x,y,z]:=by rw [←Array.toArray_toList (xs:=vals),hq]
  subst e
  exact ⟨x,y,z,Z,by simpa using q,by simpa using q1,by simpa using q2⟩
theorem itoa (n:Int)(h: -9223372036854775808≤n∧n≤9223372036854775807):zX Tryz.prog 239 [.int .i64 n] (.str (Lib.itoa n)):=by
 refine zX.of_below ⟨Tryz.f239,Z,kQ,Z⟩ Z Z (fun w S vals hG hS hv=> ?_)
 obtain ⟨x,rfl,a⟩:=vals1 hv
 have hx:x= .int .i64 n:=by cases a;rfl
 subst hx
 have hp:pinG w:=hG
 refine (Tryz.strconv_Itoa n h.1 h.2 w hp.2.1).mono ?_
 rintro e w' ⟨rfl,k,os,rfl⟩
 exact ⟨_,Z,zN9 w k os,.str _ _⟩
theorem itoaN (n:Nat)(h:n≤9223372036854775807):zX Tryz.prog 239 [iN n] (.str (Lib.decDigits n)):=by
 have:=itoa n ⟨kK,kK⟩
 rwa [Go.Ax.Tb.itoa_nat] at this
theorem mulB (a b:Nat)(ha:a<18446744073709551616)(hb:b<18446744073709551616):zX Tryz.prog 189 [.int .u64 (a:Nat),.int .u64 (b:Nat)] (.tup [.int .u64 (a*b/18446744073709551616:Nat),.int .u64 (a*b%18446744073709551616:Nat)]):=by
 refine zX.of_below ⟨Tryz.f189,Z,kQ,Z⟩ Z Z (fun w S vals hG hS hv=> ?_)
 obtain ⟨x,y,rfl,p,q⟩:=vals2 hv
 have hx:x= .int .u64 (a:Nat):=by cases p;rfl
 have hy:y= .int .u64 (b:Nat):=by cases q;rfl
 subst hx hy
 refine (Tryz.bits_Mul a b ha hb w).mono ?_
 rintro e w' ⟨rfl,rfl⟩
 refine ⟨_,Z,Below.refl _ _,.tup _ _ _ Z (fun i hi=> ?_)⟩
 match i,hi with
 |0,_=>exact .int _ _ _
 |1,_=>exact .int _ _ _
theorem parse32 (s:List UInt8)(u:Nat)(hl:s.length≤1000)(h:Lib.parseUintB 32 s= .ok u):zX Tryz.prog 199 [.str s,.int .i64 10,.int .i64 32] (.tup [.int .u64 (u:Nat),.nilif]):=by
 refine zX.of_below ⟨Tryz.f199,Z,kQ,Z⟩ Z Z (fun w S vals hG hS hv=> ?_)
 obtain ⟨x,y,z,rfl,p,q,r⟩:=vals3 hv
 have hx:x=zKC s:=by cases p;rfl
 have hy:y= .int .i64 10:=by cases q;rfl
 have hz:z= .int .i64 32:=by cases r;rfl
 subst hx hy hz
 have hd:(⟨s.toArray⟩:ByteArray).data.toList=s:=kJ
 have hsz:(⟨s.toArray⟩:ByteArray).size=s.length:=by simp [ByteArray.size]
 refine (Tryz.strconv_ParseUint_10_at32_ok ⟨s.toArray⟩ (by rw [hsz];omega) u (by rw [hd];exact h) w).mono ?_
 rintro e w' ⟨rfl,hw⟩
 refine ⟨_,Z,?_,.tup _ _ _ Z (fun i hi=> ?_)⟩
 ·rcases hw with rfl|rfl
  ·exact Below.refl _ _
  ·exact Lib.bytesWorld_below _ _ _
 ·match i,hi with
  |0,_=>exact .int _ _ _
  |1,_=>exact .nilif _
theorem join (ls:List (List UInt8))(sep:List UInt8)(hN:ls.length≤140737488355328)(hj:(Lib.join ls sep).length≤140737488355328):zX Tryz.prog 242 [.ro (.strs ls) 0 ls.length,.str sep] (.str (Lib.join ls sep)):=by
 refine zX.of_below ⟨Tryz.f242,Z,kQ,Z⟩ Z Z (fun w S vals hG hS hv=> ?_)
 obtain ⟨x,y,rfl,a,b⟩:=vals2 hv
 have hy:y=zKC sep:=by cases b;rfl
 subst hy
 have hsep:(⟨sep.toArray⟩:ByteArray).data.toList=sep:=kJ
 have hbyte: ∀l:List UInt8,(⟨l.toArray⟩:ByteArray).data.toList=l:=fun l=>by simp
 generalize hn:ls.length=n at a
 cases a with
 |ro0 _ _ _ ad cap=>
  have:ls=[]:=List.length_eq_zero_iff.mp hn
  subst this
  refine (Tryz.strings_Join_none ad cap ⟨sep.toArray⟩ w).mono ?_
  rintro e w' ⟨rfl,rfl⟩
  exact ⟨_,Z,Below.refl _ _,.str _ []⟩
 |ro _ _ _ _ bk o cap val hSb hlen hc hvv h1'=>
  subst hn
  have hxs:(ls.map (fun l=>(⟨l.toArray⟩:ByteArray))).length=ls.length:=kJ
  have c:=Tryz.strings_Join bk o cap (ls.map (fun l=>(⟨l.toArray⟩:ByteArray))) ⟨sep.toArray⟩ w (fun j x hx=> ?_) (hS _ hSb) (by simpa using hN) (by simpa using hlen) ?_
  ·rw [hxs] at c
   refine c.mono ?_
   rintro e w' ⟨rfl,hb⟩
   have e2:((ls.map (fun l=>(⟨l.toArray⟩:ByteArray))).map (fun x=>x.data.toList))=ls:=by rw [List.map_map];exact (List.map_congr_left (fun x _=>rfl)).trans (List.map_id _)
   rw [e2,hsep]
   exact ⟨_,Z,hb,.str _ _⟩
  ·simp only [List.getElem?_map,Option.map_eq_some_iff] at hx
   obtain ⟨l,hl,rfl⟩:=hx
   have hlt:j<ls.length:=(List.getElem?_eq_some_iff.1 hl).1
   have q:=hc j 0 hlt (by simp [Cells.sz])
   have v:=hvv j 0 hlt (by simp [Cells.sz])
   simp only [Cells.sz,Nat.mul_one,Nat.add_zero] at q
   simp only [Cells.at,Nat.zero_add,List.getD,hl,Option.getD_some] at v
   rw [q]
   generalize val j 0=z at v
   cases v;rfl
  ·have e2:((ls.map (fun l=>(⟨l.toArray⟩:ByteArray))).map (fun x=>x.data.toList))=ls:=by rw [List.map_map];exact (List.map_congr_left (fun x _=>rfl)).trans (List.map_id _)
   rw [e2,hsep];exact hj
end Go.Proofs.YtmpnheilfejcpaaGreatDoor
namespace Go.Proofs.YtmpnheilfejcpaaGreatDoor
open Go.Ax Go.Ax.Bg Go.RowKit
attribute [local irreducible] Ax zB2 QOp zU
def zJU (s p:List UInt8):Bool:=decide (p.length≤s.length∧s.take p.length=p)
theorem zRN (s p:List UInt8)(hs:s.length≤9223372036854775807)(hp:p.length≤9223372036854775807):zX Tryz.prog 225 [.str s,.str p] (.bool (zJU s p)):=by
 refine zU.value0 (zF (P:=Tryz.prog) (fn:=Tryz.f225) Z Z kQ Z (fun c hR hfix=> ?_)) (fix:=fun _=>False) (fun _ h=>h) Z Z
 refine rn8 ?_
 refine zAm Z Z (fun h0=> ?_) (fun h0=> ?_)
 ·refine zEW ?_
  refine zM hR Z ?_
  show AV.bool (decide ((List.drop _ s).take _=p))=_
  unfold zJU
  congr 1
  rw [decide_eq_decide]
  simp only [Int.toNat_zero,List.drop_zero,Int.toNat_natCast,Nat.sub_zero]
  exact ⟨fun h=>⟨kK,h⟩,fun h=>h.2⟩
 ·refine rn6 ?_
  refine zM hR Z ?_
  show AV.bool false=_
  unfold zJU
  rw [decide_eq_false]
  exact fun h=>h0 kK
theorem zKl (s p:List UInt8)(hs:s.length≤9223372036854775807)(hp:p.length≤9223372036854775807):zX Tryz.prog 245 [.str s,.str p] (.bool (zJU s p)):=by
 have hc:=zRN s p hs hp
 refine zU.value0 (zF (P:=Tryz.prog) (fn:=Tryz.f245) Z Z kQ Z (fun c hR hfix=> ?_)) (fix:=fun _=>False) (fun _ h=>h) Z Z
 generalize zJU s p=b at*
 refine rn0 ?_
 refine zA Z Z Z hc (rn0 ?_)
 exact zM hR Z Z
theorem repeat0 (n:Nat)(hn:n≤60):zX Tryz.prog 240 [.str [48],iN n] (.str (List.replicate n 48)):=by
 refine zU.value0 (zF (P:=Tryz.prog) (fn:=Tryz.f240) Z Z kQ Z (fun c hR hfix=> ?_)) (fix:=fun _=>False) (fun _ h=>h) Z Z
 refine rn4 ?_
 refine zB Z (fun h0=> ?_) (fun h0=> ?_)
 ·have:n=0:=kK
  subst this
  refine rn6 ?_
  exact zM hR Z Z
 refine rn4 ?_
 refine zB Z (fun h1=> ?_) (fun h1=> ?_)
 ·have:n=1:=kK
  subst this
  refine rn6 ?_
  exact zM hR Z Z
 refine rn6 ?_
 have hm:=mulB 1 n kK kK
 rw [Nat.one_mul,Nat.div_eq_of_lt kK,Nat.mod_eq_of_lt kK] at hm
 have p1:zX Tryz.prog 245 [.str (List.replicate 128 32),.str [48]] (.bool false):=zKl _ _ kV kV
 have p2:zX Tryz.prog 245 [.str (List.replicate 128 45),.str [48]] (.bool false):=zKl _ _ kV kV
 have p3:zX Tryz.prog 245 [.str (List.replicate 64 48),.str [48]] (.bool true):=zKl _ _ kV kV
 refine zL (zAe (m:=1) Z Z Z zBk kV) ?_
 repeat (refine zL (zH rfl) ?_)
 refine zL (zAe (m:=n) Z Z Z zBk kK) ?_
 refine zA Z Z Z hm (rn6 ?_)
 refine zB Z (fun h=>absurd h kK) (fun h=> ?_)
 refine rn1 ?_
 refine zL (zGk (m:=n) Z Z Z kK) (rn12 ?_)
 refine zAm Z Z (fun h3=> ?_) (fun h3=>absurd (show (n:Int)≤128 by omega) h3)
 refine rn2 ?_
 refine zA Z Z Z p1 (rn8 ?_)
 refine zAm Z Z (fun h4=> ?_) (fun h4=>absurd (show (n:Int)≤128 by omega) h4)
 refine rn2 ?_
 refine zA Z Z Z p2 (rn8 ?_)
 refine zAm Z Z (fun h5=> ?_) (fun h5=>absurd (show (n:Int)≤64 by omega) h5)
 refine rn2 ?_
 refine zA Z Z Z p3 (rn5 ?_)
 refine zL (zEV Z Z Z Z Z Z (by show (0:Int)≤0∧(0:Int)≤(n:Nat)∧((n:Nat):Int)≤((64:Nat):Int);omega)) (rn6 ?_)
 refine zM hR Z ?_
 show AV.str ((List.drop 0 (List.replicate 64 48)).take (n-0))=_
 rw [List.drop_zero,Nat.sub_zero,List.take_replicate,Nat.min_eq_left kK]
def zE3 (k:Nat):List AV:=(List.range 256).map fun j=>AV.bool (decide (48≤j∧j<48+k))
theorem zC0 (k:Nat):(zE3 k).length=256:=by unfold zE3;simp
theorem zKq (k j:Nat)(hj:j<256):(zE3 k)[j]? =some (AV.bool (decide (48≤j∧j<48+k))):=by
 unfold zE3
 rw [List.getElem?_map,List.getElem?_range hj];rfl
theorem setL_set (k:Nat)(hk:k<10):(zE3 k).set (48+k) (.bool true)=zE3 (k+1):=by
 apply List.ext_getElem?
 intro i
 rcases Nat.lt_or_ge i 256 with hi|hi
 ·rw [zKq (k+1) i hi]
  by_cases h:i=48+k
  ·subst h
   rw [List.getElem?_set_self (by rw [zC0];exact hi)]
   congr 2
   exact (decide_eq_true kK).symm
  ·rw [List.getElem?_set_ne (Ne.symm h),zKq k i hi]
   congr 2
   rw [decide_eq_decide];omega
 ·rw [List.getElem?_eq_none (by rw [List.length_set,zC0];exact hi),List.getElem?_eq_none (by rw [zC0];exact hi)]
def digS:List UInt8:=[48,49,50,51,52,53,54,55,56,57]
theorem zQ1 (k:Nat)(hk:k<10):(digS.getD k 0).toNat=48+k:=by
 have:k=0∨k=1∨k=2∨k=3∨k=4∨k=5∨k=6∨k=7∨k=8∨k=9:=kK
 rcases this with rfl|rfl|rfl|rfl|rfl|rfl|rfl|rfl|rfl|rfl<;>rfl
theorem box_all (l:List AV):(List.range (Cells.box l).sz).map ((Cells.box l).at 0)=l:=by
 apply List.ext_getElem?
 intro i
 rcases Nat.lt_or_ge i l.length with h|h
 ·rw [List.getElem?_map,List.getElem?_range (by exact h)]
  show some (l.getD i .any)=_
  rw [List.getD,List.getElem?_eq_getElem h];rfl
 ·rw [List.getElem?_eq_none (by simpa [Cells.sz] using h),List.getElem?_eq_none h]
theorem set_ok:zX Tryz.prog 231 [.str digS] (.tup [.agg (zE3 10),.bool true]):=by
 refine zU.value0 (zF (P:=Tryz.prog) (fn:=Tryz.f231) Z Z kQ Z (fun c hR hfix=> ?_)) (fix:=fun _=>False) (fun _ h=>h) Z kQ
 refine rn4 ?_
 refine zAs [some ⟨296,.box (zE3 0)⟩] kQ ?_
 refine zb (ι:=Nat) (fun k=>[(0,.str digS),(2,.ptr 0 0 0),(4,iN k)]) (fun k=>[some ⟨296,.box (zE3 k)⟩]) (fun k=>k≤10) (fun k=>10-k) 0 ⟨⟨Z,Z,Z,trivial⟩,Z,kK⟩ ?_
 rintro k hk
 have hdl:digS.length=10:=rfl
 refine rn6 ?_
 refine zB Z (fun h1=> ?_) (fun h1=> ?_)
 ·have hk2:k<10:=kK
  refine rn12 ?_
  refine zB Z (fun h2=>absurd h2 (by rw [Int.toNat_natCast,zQ1 k hk2];omega)) (fun h2=> ?_)
  refine rn1 ?_
  refine zE 18 (.int .u8 (48+k:Nat)) Z (AEq.of_eq (by rw [Int.toNat_natCast,zQ1 k hk2])) ?_
  refine zL (zAw (m:=((48+k:Nat):Int)) (jx:=48+k) Z Z Z Z (by rw [Int.toNat_natCast,Nat.zero_add]) kK) ?_
  refine zBw Z Z Z Z Z (by rw [show (Cells.box (zE3 k)).sz=256 from zC0 k];exact Nat.ble_eq.symm▸(by omega:48+k+1≤256)) Z Nat.zero_lt_one (rn5 ?_)
  refine zI ⟨k+1,kK,kK,⟨Z,Z,Z,trivial⟩,?_⟩
  show ([some ⟨_,.box ((zE3 k).set (48+k) (.bool true))⟩]:zO)=_
  rw [setL_set k hk2]
 ·have hke:k=10:=kK
  subst hke
  refine rn5 ?_
  refine zL (zIZ (ob:=⟨296,.box (zE3 10)⟩) Z Z Z (zC0 10).symm Z Z (box_all _) Nat.zero_lt_one) ?_
  refine zt (c':= .box (zE3 10)) Z Z (by rw [show (Cells.box (zE3 10)).sz=256 from zC0 10];rfl) Z (by rw [show (Cells.box (zE3 10)).sz=256 from zC0 10];exact zC0 10) Nat.zero_lt_one Z Z (fun i' j' hi' hj'=> ?_) ?_
  ·rw [if_pos (Nat.lt_one_iff.1 hi')];rfl
  refine rn0 ?_
  exact zM hR Z Z
theorem zKL (ch:UInt8):zX Tryz.prog 257 [.rp (.box (zE3 10)) 0 0,.int .u8 (ch.toNat:Nat)] (.bool (dg ch)):=by
 have hlt:=ch.toNat_lt
 have hat:=zKq 10 ch.toNat (by simpa using hlt)
 refine zU.value0 (zF (P:=Tryz.prog) (fn:=Tryz.f257) Z Z kQ Z (fun c hR hfix=> ?_)) (fix:=fun _=>False) (fun _ h=>h) Z Z
 refine rn15 ?_
 refine zL (zOw (m:=((ch.toNat:Nat):Int)) (jx:=ch.toNat) Z Z Z Z (by rw [Int.toNat_natCast,Nat.zero_add]) kK) ?_
 refine zL (zCX Z Z Z hat) (rn0 ?_)
 exact zM hR Z Z
theorem right_ok (s:List UInt8)(hs:s.length≤9223372036854775807):zX Tryz.prog 233 [.str s,.rp (.box (zE3 10)) 0 0] (.str (trR s)):=by
 refine zU.value0 (zF (P:=Tryz.prog) (fn:=Tryz.f233) Z Z kQ Z (fun c hR hfix=> ?_)) (fix:=fun _=>False) (fun _ h=>h) Z Z
 refine rn1 ?_
 refine zb (ι:=Nat) (fun k=>[(0,.str (s.take k)),(1,.rp (.box (zE3 10)) 0 0)]) (fun _=>[]) (fun k=>k≤s.length∧(s.drop k).all dg=true) (fun k=>k) s.length ⟨⟨by rw [List.take_length];rfl,Z,trivial⟩,Z,Nat.le_refl _,kJ⟩ ?_
 rintro k ⟨hk,hd⟩
 have hlen:(s.take k).length=k:=by simp;omega
 have hof:=trR_of hk hd
 refine rn6 ?_
 refine zB Z (fun h1=> ?_) (fun h1=> ?_)
 ·have hk1:0<k:=kK
  have hg:(s.take k).getD (k-1) 0=s.getD (k-1) 0:=by
   simp only [List.getD,List.getElem?_take,show k-1<k by omega,if_true]
  have e1:((k:Int)-1).toNat=k-1:=kK
  have hc:=zKL (s.getD (k-1) 0)
  refine rn19 ?_
  refine zE 13 (.int .u8 ((s.getD (k-1) 0).toNat:Nat)) Z (AEq.of_eq (by rw [hlen,e1,hg])) ?_
  refine zA Z Z Z hc (rn5 ?_)
  refine zD7 Z (fun h2=> ?_) (fun h2=> ?_)
  ·have h3:dg (s.getD (k-1) 0)=false:=by simpa using h2
   refine rn14 ?_
   refine zM hR Z ?_
   rw [hof (.inr h3)];rfl
  ·have h3:dg (s.getD (k-1) 0)=true:=by simpa using h2
   refine rn8 ?_
   refine zL (zEV Z Z Z Z Z Z kK) (rn5 ?_)
   refine zI ⟨k-1,⟨kK,?_⟩,kK,⟨?_,Z,trivial⟩,Z⟩
   ·rw [zCc s 0 (k-1) kK,show k-1+1=k by omega,List.all_cons,h3,hd];rfl
   ·show some (AV.str ((List.drop 0 (s.take k)).take ((((s.take k).length:Int)-1).toNat-0)))=_
    rw [List.drop_zero,hlen,e1,Nat.sub_zero,List.take_take,Nat.min_eq_left kK]
 ·have hk0:k=0:=kK
  subst hk0
  refine rn5 ?_
  refine zM hR Z ?_
  rw [hof (.inl rfl)];rfl
theorem left_ok (s:List UInt8)(hs:s.length≤9223372036854775807):zX Tryz.prog 232 [.str s,.rp (.box (zE3 10)) 0 0] (.str (trL s)):=by
 refine zU.value0 (zF (P:=Tryz.prog) (fn:=Tryz.f232) Z Z kQ Z (fun c hR hfix=> ?_)) (fix:=fun _=>False) (fun _ h=>h) Z Z
 refine rn1 ?_
 refine zb (ι:=Nat) (fun k=>[(0,.str (s.drop k)),(1,.rp (.box (zE3 10)) 0 0)]) (fun _=>[]) (fun k=>k≤s.length∧(s.take k).all dg=true) (fun k=>s.length-k) 0 ⟨⟨by rw [List.drop_zero];rfl,Z,trivial⟩,Z,Nat.zero_le _,kJ⟩ ?_
 rintro k ⟨hk,hd⟩
 have hlen:(s.drop k).length=s.length-k:=kJ
 have hof:=trL_of hd
 refine rn6 ?_
 refine zB Z (fun h1=> ?_) (fun h1=> ?_)
 ·have hk1:k<s.length:=kK
  have hg:(s.drop k).getD 0 0=s.getD k 0:=by simp [List.getD]
  have hc:=zKL (s.getD k 0)
  refine rn12 ?_
  refine zE 10 (.int .u8 ((s.getD k 0).toNat:Nat)) Z (AEq.of_eq (by rw [Int.toNat_zero,hg])) ?_
  refine zA Z Z Z hc (rn5 ?_)
  refine zD7 Z (fun h2=> ?_) (fun h2=> ?_)
  ·have h3:dg (s.getD k 0)=false:=by simpa using h2
   refine rn14 ?_
   refine zM hR Z ?_
   rw [hof (.inr h3)];rfl
  ·have h3:dg (s.getD k 0)=true:=by simpa using h2
   refine rn1 ?_
   refine zL (zEV Z Z Z Z Z Z kK) (rn5 ?_)
   refine zI ⟨k+1,⟨kK,?_⟩,kK,⟨?_,Z,trivial⟩,Z⟩
   ·rw [zA0 s 0 k hk1,List.all_append,hd];simp only [List.all_cons,List.all_nil,h3,Bool.and_true]
   ·show some (AV.str ((List.drop 1 (s.drop k)).take ((s.drop k).length-1)))=_
    rw [List.drop_drop,List.take_of_length_le (by simp;omega)]
 ·have hk0:s.length≤k:=kK
  refine rn5 ?_
  refine zM hR Z ?_
  rw [hof (.inl hk0)];rfl
theorem trim_ok (s:List UInt8)(hs:s.length≤9223372036854775807):zX Tryz.prog 202 [.str s,.str digS] (.str (trL (trR s))):=by
 have h1:=set_ok
 have h2:=right_ok s hs
 have hle:(trR s).length≤s.length:=by
  unfold trR
  rw [List.length_reverse]
  have:=(List.dropWhile_sublist (p:=dg) (l:=s.reverse)).length_le
  simpa using this
 have h3:=left_ok (trR s) kK
 refine zU.value0 (zF (P:=Tryz.prog) (fn:=Tryz.f202) Z Z kQ Z (fun c hR hfix=> ?_)) (fix:=fun _=>False) (fun _ h=>h) Z Z
 have hl:=zC0 10
 refine rn6 ?_
 by_cases h0:s=[]
 ·subst h0
  refine rn6 ?_
  exact zM hR Z Z
 rw [show decide (s=_)=false from decide_eq_false h0]
 refine rn6 ?_
 refine zA Z Z Z h1 (rn4 ?_)
 refine zt (c':= .box (zE3 10)) Z Z Z Z (zC0 10) Nat.zero_lt_one Z (zC0 10) (fun i' j' hi' hj'=> ?_) ?_
 ·rw [if_pos (Nat.lt_one_iff.1 hi')];rfl
 refine rn5 ?_
 have hrl: ∀(h:Nat) (o:AObj),([some ⟨296,.box (zE3 10)⟩]:zO)[h]? =some (some o)→zAY o.c:=zJb (fun i j hi hj=>by
  show noRef ((zE3 10).getD j .any)=true
  rw [List.getD,zKq 10 j (by have:j<(zE3 10).length:=hj;rwa [zC0] at this)];rfl)
 refine zQ [some ⟨296,.box (zE3 10)⟩] Z ?_
 refine zFa rfl rfl rfl rfl h2 hrl ⟨trivial,fun o ho=>by simp at ho;subst ho;exact Nat.zero_lt_one,trivial⟩ rfl rfl rfl ?_
 skip
 refine zFa rfl rfl rfl rfl h3 hrl ⟨trivial,fun o ho=>by simp at ho;subst ho;exact Nat.zero_lt_one,trivial⟩ rfl rfl rfl (rn2 ?_)
 exact zM hR Z Z
end Go.Proofs.YtmpnheilfejcpaaGreatDoor
namespace Go.Proofs.YtmpnheilfejcpaaGreatDoor
open Go.Ax Go.Ax.Bg Go.RowKit
open Go.Ax.Tb (zB9 zEn zCN zC3)
attribute [local irreducible] Ax zB2 QOp zU
theorem zRL {i:Nat}(h:i≤9):10^i≤1000000000:=by
 have:=Nat.pow_le_pow_right (show 0<10 by decide) h
 exact Nat.le_trans this kV
theorem zKo (S:List UInt8)(hd: ∀c∈S,zB9 c)(hl:S.length≤1000000):zX Tryz.prog 151 [.str S] (zm (zBL 0 S)):=by
 refine zU.value0 (zF (P:=Tryz.prog) (fn:=Tryz.f151) Z Z kQ Z (fun c hR hfix=> ?_)) (fix:=fun _=>False) (fun _ h=>h) Z Z
 refine rn0 ?_
 refine zv 3 (zm 0) Z AEq.natNil ?_
 refine zAJ ?_
 refine zb (ι:=Nat×List UInt8) (fun p=>[(0,.str p.2),(3,zm p.1)]) (fun _=>[]) (fun p=>p.2.length≤S.length∧(∀c∈p.2,zB9 c)∧zBL p.1 p.2=zBL 0 S∧p.1<10^(S.length-p.2.length)) (fun p=>p.2.length) (0,S) ⟨⟨Z,Z,trivial⟩,Z,Nat.le_refl _,hd,Z,kJ⟩ ?_
 rintro ⟨v,s⟩ ⟨h1,h2,h3,h4⟩
 simp only at*
 refine rn6 ?_
 refine zB Z (fun h5=> ?_) (fun h5=> ?_)
 ·have hs0:s≠[]:=by rintro rfl;simp at h5
  obtain ⟨k,hk,hk1,hk9,hks⟩: ∃k:Nat,(if (9:Int)<(s.length:Nat) then (9:Int) else (s.length:Nat))=(k:Int)∧1≤k∧k≤9∧k≤s.length:=by
   have:0<s.length:=List.length_pos_iff.2 hs0
   by_cases hz:(9:Int)<(s.length:Nat)
   ·exact ⟨9,by rw [if_pos hz];rfl,kK,kK,kK⟩
   ·exact ⟨s.length,by rw [if_neg hz],kK,kK,Nat.le_refl _⟩
  have ht0:s.take k≠[]:=by
   intro e
   have:=congrArg List.length e
   rw [List.length_take,Nat.min_eq_left hks] at this
   simp at this;omega
  have htl:(s.take k).length=k:=by rw [List.length_take,Nat.min_eq_left hks]
  obtain ⟨hp,hplt⟩:=zEt ht0 (fun c hc=>h2 c (List.mem_of_mem_take hc)) kK
  have hp32:=parse32 (s.take k) _ kK hp
  have hdv:zBL (v*10^k+zBL 0 (s.take k)) (s.drop k)=zBL 0 S:=by
   rw [←h3]
   conv=>rhs;rw [←List.take_append_drop k s]
   rw [zHZ,zHY (s.take k) v,htl]
  have hxlt:=zKc (l:=s.take k) (fun c hc=>h2 c (List.mem_of_mem_take hc))
  rw [htl] at hxlt
  have hvn:v*10^k+zBL 0 (s.take k)<10^(S.length-(s.drop k).length):=by
   rw [List.length_drop,show S.length-(s.length-k)=(S.length-s.length)+k by omega,Nat.pow_add]
   have:(v+1)*10^k≤10^(S.length-s.length)*10^k:=Nat.mul_le_mul_right _ h4
   rw [Nat.add_mul] at this
   omega
  obtain ⟨x,hx⟩: ∃x,zBL 0 (s.take k)=x:=⟨_,rfl⟩
  rw [hx] at hplt hp32 hdv hvn
  have hvl:(zW v).length≤S.length-s.length:=zAh (Nat.lt_of_lt_of_le h4 (Nat.pow_le_pow_left kV _))
  have hma:=zST (zW v) (10^k) x (zAd v) kK (by have:=zRL hk9;omega) kK
  rw [zAK] at hma
  refine rn12 ?_
  rw [hk]
  refine zE 17 (.str (s.take k)) Z (AEq.of_eq (by
   show AV.str ((List.drop 0 s).take (k-0))=_
   rw [List.drop_zero,Nat.sub_zero])) ?_
  refine zA Z Z Z hp32 (rn2 ?_)
  refine zb (ι:=Nat) (fun i=>[(0,.str s),(3,zm v),(4,iN k),(5,.int .u64 (x:Nat)),(7,.int .u32 (10^i:Nat)),(21,iN k),(22,iN i)]) (fun _=>[]) (fun i=>i≤k) (fun i=>k-i) 0 ⟨⟨Z,Z,Z,Z,Z,Z,Z,trivial⟩,Z,Nat.zero_le _⟩ ?_
  rintro i hi
  refine rn4 ?_
  refine zB Z (fun h6=> ?_) (fun h6=> ?_)
  ·have hpw:=zRL (show i+1≤9 by omega)
   rw [Nat.pow_succ] at hpw
   refine rn1 ?_
   refine zL (zJ7 (m:=10^i) (n:=10) Z Z zFp kK) (rn5 ?_)
   exact zI ⟨i+1,kK,kK,⟨Z,Z,Z,Z,Z,Z,Z,trivial⟩,Z⟩
  ·have hie:i=k:=kK
   subst hie
   refine rn5 ?_
   refine zL (zAe (m:=x) Z Z Z zFp kK) ?_
   refine zA Z Z Z hma (rn12 ?_)
   refine zI ⟨(v*10^i+x,s.drop i),⟨by simp only [List.length_drop];omega,fun c hc=>h2 c (List.mem_of_mem_drop hc),hdv,hvn⟩,by simp only [List.length_drop];omega,⟨?_,Z,trivial⟩,Z⟩
   show some (AV.str ((List.drop i s).take (s.length-i)))=_
   rw [List.take_of_length_le kJ]
 ·have hs0:s=[]:=by
   rcases s with _|⟨x,r⟩
   ·rfl
   ·exact absurd kJ h5
  subst hs0
  refine rn5 ?_
  refine zM hR Z ?_
  rw [←h3];rfl
theorem zS4:zX Tryz.prog 214 [zm 0] (.str (Lib.decDigits 0)):=by
 refine zU.value0 (zF (P:=Tryz.prog) (fn:=Tryz.f214) Z Z kQ Z (fun c hR hfix=> ?_)) (fix:=fun _=>False) (fun _ h=>h) Z Z
 have en:zm 0= .ro (.ints .u32 []) 0 0:=by unfold zm;rw [zCA];rfl
 rw [en]
 refine rn5 ?_
 refine zM hR Z ?_
 rw [Lib.decDigits_one kV];rfl
theorem zD9 {n L:Nat}(h:(zW n).length≤L)(hL:1≤L):(Lib.decDigits n).length≤10*L:=by
 have h1:=zA6 (zAd n)
 rw [zAK] at h1
 have h2:B^(zW n).length≤B^L:=Nat.pow_le_pow_right kV h
 have h3:B^L≤(10^10)^L:=Nat.pow_le_pow_left kV L
 rw [←Nat.pow_mul] at h3
 exact zDX kK kK
theorem zKt (n:Nat)(h:(zW n).length≤1000000):zX Tryz.prog 214 [zm n] (.str (Lib.decDigits n)):=by
 rcases Nat.eq_zero_or_pos n with h0|h0
 ·subst h0;exact zS4
 have hdl:=zD9 h kV
 have hn0:0<(zW n).length:=zCp.2 kK
 refine zU.value0 (zF (P:=Tryz.prog) (fn:=Tryz.f214) Z Z kQ Z (fun c hR hfix=> ?_)) (fix:=fun _=>False) (fun _ h=>h) Z Z
 unfold zm
 refine rn4 ?_
 refine zB Z (fun q=>absurd q kK) (fun q=> ?_)
 refine rn8 ?_
 refine zAg 3 ⟨9,.strs []⟩ Z Z ?_
 refine zAJ ?_
 refine zb (ι:=Nat×List (List UInt8)) (fun p=>[(0,zm p.1),(3,.sl 0 0 p.2.length)]) (fun p=>[some ⟨9,.strs p.2⟩]) (fun p=>(zW p.1).length≤1000000∧p.2.length≤p.2.reverse.flatten.length∧(if p.1=0 then Lib.decDigits n=p.2.reverse.flatten else Lib.decDigits n=Lib.decDigits p.1++p.2.reverse.flatten)) (fun p=>p.1) (n,[])
  ⟨⟨rfl,rfl,trivial⟩,rfl,h,kJ,by rw [if_neg (by simp only;omega)];simp⟩ ?_
 rintro ⟨m,ps⟩ ⟨h1,h2,h3⟩
 simp only at*
 have hpos:0<(zW m).length↔m≠0:=zCp
 have hds:=zKM (zW m) 1000000000 (zAd m) kK kV
 rw [zAK] at hds
 have hflen:ps.reverse.flatten.length≤10000000:=by
  have e:ps.reverse.flatten.length≤(Lib.decDigits n).length:=by
   split at h3
   ·rw [h3];exact Nat.le_refl _
   ·rw [h3,List.length_append];omega
  omega
 have en:zm m= .ro (.ints .u32 (zW m)) 0 (zW m).length:=rfl
 rw [en]
 refine rn6 ?_
 refine zB Z (fun h4=> ?_) (fun h4=> ?_)
 ·have hm0:m≠0:=hpos.1 kK
  rw [if_neg hm0] at h3
  have hr:m%1000000000<1000000000:=Nat.mod_lt _ kV
  have hlt:m/1000000000<m:=Nat.div_lt_self kK kV
  have hit:=itoaN (m%1000000000) kK
  have hpos2:0<(zW (m/1000000000)).length↔m/1000000000≠0:=zCp
  have hlen2:=zGH hlt h1
  have hrl:(Lib.decDigits (m%1000000000)).length≤9:=zDX kV (by rw [show (10:Nat)^9=1000000000 by decide];exact hr)
  have hrp:=repeat0 (9-(Lib.decDigits (m%1000000000)).length) kK
  obtain ⟨t,ht0,htl,htp,htn⟩: ∃t:List UInt8,t≠[]∧t.length≤9∧(m/1000000000≠0→t=List.replicate (9-(Lib.decDigits (m%1000000000)).length) 48++Lib.decDigits (m%1000000000))∧(m/1000000000=0→t=Lib.decDigits (m%1000000000)):=by
   by_cases z:m/1000000000=0
   ·exact ⟨_,zC3 _,hrl,fun h=>absurd z h,fun _=>rfl⟩
   ·refine ⟨_,?_,?_,fun _=>rfl,fun h=>absurd h z⟩
    ·simp [zC3]
    ·simp;omega
  have hsplit:m/1000000000≠0→Lib.decDigits m=Lib.decDigits (m/1000000000)++t:=fun z=>by
   have e9:(10:Nat)^9=1000000000:=kV
   have hs:=zNP (n:=m) (k:=9) kV (by rw [e9];omega)
   rw [e9] at hs
   rw [hs,htp z];rfl
  have hone:m/1000000000=0→Lib.decDigits m=t:=fun z=>by
   rw [htn z]
   congr 1
   have:=Nat.div_add_mod m 1000000000
   omega
  have hnew:(if m/1000000000=0 then Lib.decDigits n=(ps++[t]).reverse.flatten else Lib.decDigits n=Lib.decDigits (m/1000000000)++(ps++[t]).reverse.flatten):=by
   rw [List.reverse_append,List.reverse_singleton,List.singleton_append,List.flatten_cons]
   split
   ·rename_i z;rw [h3,hone z]
   ·rename_i z;rw [h3,hsplit z,List.append_assoc]
  obtain ⟨r,hrr⟩: ∃r,m%1000000000=r:=⟨_,rfl⟩
  obtain ⟨d,hdd⟩: ∃d,m/1000000000=d:=⟨_,rfl⟩
  simp only [hrr,hdd] at*
  refine rn1 ?_
  refine zA Z Z Z hds (rn2 ?_)
  refine zL (zGk (m:=r) Z Z Z kK) ?_
  refine zA Z Z Z hit ?_
  have en2:zm d= .ro (.ints .u32 (zW d)) 0 (zW d).length:=rfl
  rw [en2]
  refine rn6 ?_
  apply zAX (H:=[some ⟨9,.strs ps⟩]) [(0,zm d),(3,.sl 0 0 ps.length),(5,.str t)]
  ·intro fin
   refine zB Z (fun q2=> ?_) (fun q2=> ?_)
   ·have hd0:d≠0:=hpos2.1 kK
    refine rn8 ?_
    refine zE 25 (iN (9-(Lib.decDigits r).length)) Z (AEq.of_eq (by congr 1;omega)) ?_
    refine zA Z Z Z hrp ?_
    repeat (refine zL (zH rfl) ?_)
    refine zL (zFk Z Z (by simp;omega)) ?_
    refine zBq ?_
    exact fin _ ⟨Z,Z,by rw [htp hd0];rfl,trivial⟩
   ·have hd0:d=0:=by
     rcases Nat.eq_zero_or_pos d with z|z
     ·exact z
     ·exact absurd (by have:=hpos2.2 kK;omega) q2
    refine zBq ?_
    exact fin _ ⟨Z,Z,by rw [htn hd0];rfl,trivial⟩
  refine rn3 ?_
  refine zq Z Z Z Z Z Z Z Z Z Z Z Z (Nat.le_refl 1) Z (by show (ps.length+1)*16≤_∧_;omega) (fun i j _ _=>rfl) (by rw [hfix];exact fun h=>h) (rn5 ?_)
  refine zI ⟨(d,ps++[t]),⟨hlen2,?_,hnew⟩,hlt,⟨Z,?_,trivial⟩,Z⟩
  ·simp only [List.reverse_append,List.reverse_singleton,List.singleton_append,List.flatten_cons,List.length_append,List.length_singleton]
   have:=List.length_pos_iff.2 ht0
   omega
  ·show some (AV.sl 0 0 (ps.length+1))=_
   simp
 ·have hm0:m=0:=by
   rcases Nat.eq_zero_or_pos m with q|q
   ·exact q
   ·exact absurd (by have:=hpos.2 kK;omega) h4
  rw [if_pos hm0] at h3
  have hrv:=zQS ps kK
  have hjl:(Lib.join ps.reverse []).length≤140737488355328:=by rw [zMd];omega
  have hjn:=join ps.reverse [] (by rw [List.length_reverse];omega) hjl
  rw [zMd,←h3,List.length_reverse] at hjn
  refine rn5 ?_
  refine zCw (fix:=fun h=>h<1) Z Z Z hrv (fun h hh=>hh) (fun h hh=>hh) ?_
  rintro r H rfl
  refine rn0 ?_
  refine zDg 0 35 ps.length [] Z zNo Z (by show _≤ps.reverse.length;simp) trivial ?_
  refine zA Z Z Z hjn (rn0 ?_)
  exact zM hR Z Z
end Go.Proofs.YtmpnheilfejcpaaGreatDoor
namespace Go.Proofs.YtmpnheilfejcpaaGreatDoor
open Go.Ax Go.Ax.Idx Go.Ax.Cd
attribute [local irreducible] Ax zB2 QOp zU
theorem indexI (l:List Int)(v:Int)(hlen:l.length≤9223372036854775807):
 zX Tryz.prog 192 [.ro (.ints .i64 l) 0 l.length,.int .i64 v] (.int .i64 (idxF (eqp v) l)):=by
 refine zU.value0 (zF (P:=Tryz.prog) (fn:=Tryz.f192) Z Z kQ Z (fun c hR hfix=> ?_)) (fix:=fun _=>False) (fun _ h=>h) Z Z
 refine rn3 ?_
 refine zb (ι:=Nat) (fun k=>[(0,.ro (.ints .i64 l) 0 l.length),(1,.int .i64 v),(7,iN l.length),(8,iN k)]) (fun _=>[])
  (fun k=>k≤l.length∧(l.take k).any (eqp v)=false) (fun k=>l.length-k) 0 ⟨⟨rfl,rfl,rfl,rfl,trivial⟩,rfl,Nat.zero_le _,rfl⟩ ?_
 intro k ⟨hk,hany⟩
 refine rn4 ?_
 refine zB Z (fun h=> ?_) (fun h=> ?_)
 ·have hk':k<l.length:=kK
  have hanys:=zC1 (eqp v) l 0 k hk'
  refine rn6 ?_
  refine zB Z (fun h2=> ?_) (fun h2=> ?_)
  ·refine rn6 ?_
   refine zM hR Z ?_
   have:=idxF_take (eqp v) l k hany hk
   rw [zCc l 0 k hk'] at this
   have h3:eqp v (l.getD k 0)=true:=by simpa [eqp] using h2
   simp only [idxF,h3,if_true] at this
   rw [this];simp [zBs]
  ·refine rn5 ?_
   have h3:eqp v (l.getD k 0)=false:=by simpa [eqp] using h2
   refine zI ⟨k+1,⟨kK,by rw [hanys,hany,h3];rfl⟩,kK,⟨Z,Z,Z,Z,trivial⟩,Z⟩
 ·have hk':k=l.length:=kK
  subst hk'
  refine rn5 ?_
  refine zM hR Z ?_
  have:=idxF_take (eqp v) l l.length hany hk
  rw [List.drop_length] at this
  rw [this];rfl
theorem equalI (a b:List Int)(hlen:a.length≤9223372036854775807)(hlb:b.length≤9223372036854775807):zX Tryz.prog 62 [.ro (.ints .i64 a) 0 a.length,.ro (.ints .i64 b) 0 b.length] (.bool (decide (a=b))):=by
 refine zU.value0 (zF (P:=Tryz.prog) (fn:=Tryz.f62) Z Z kQ Z (fun c hR hfix=> ?_)) (fix:=fun _=>False) (fun _ h=>h) Z Z
 refine rn3 ?_
 refine zB Z (fun h=> ?_) (fun h=> ?_)
 ·refine rn2 ?_
  refine zM hR Z ?_
  have: ¬a=b:=by rintro rfl;exact h rfl
  simp [zBs,this]
 have hab:a.length=b.length:=kK
 refine rn3 ?_
 refine zb (ι:=Nat) (fun k=>[(0,.ro (.ints .i64 a) 0 a.length),(1,.ro (.ints .i64 b) 0 b.length),(12,iN a.length),(13,iN k)]) (fun _=>[])
  (fun k=>k≤a.length∧a.take k=b.take k) (fun k=>a.length-k) 0 ⟨⟨rfl,rfl,rfl,rfl,trivial⟩,rfl,Nat.zero_le _,rfl⟩ ?_
 intro k ⟨hk,heq⟩
 refine rn4 ?_
 refine zB Z (fun h2=> ?_) (fun h2=> ?_)
 ·have hk':k<a.length:=kK
  have ha:=zA0 a 0 k hk'
  have hb:=zA0 b 0 k kK
  refine rn1 ?_
  refine zEP kQ kQ Z (rn6 ?_)
  refine zB Z (fun h3=> ?_) (fun h3=> ?_)
  ·refine rn6 ?_
   refine zM hR Z ?_
   have: ¬a=b:=by rintro rfl;exact h3 rfl
   simp [zBs,this]
  ·refine rn5 ?_
   have h4:a.getD k 0=b.getD k 0:=kK
   exact zI ⟨k+1,⟨kK,by rw [ha,hb,heq,h4]⟩,kK,⟨Z,Z,Z,Z,trivial⟩,Z⟩
 ·have hk':k=a.length:=kK
  subst hk'
  rw [List.take_length,hab,List.take_length] at heq
  refine rn5 ?_
  refine zM hR Z ?_
  simp [zBs,heq]
theorem zP4 (l:List Int)(g:FuncId)(caps:List AV)(p:Int→Bool)(hc:noRef.noRefs caps=true)(hlen:l.length≤9223372036854775807)(hp: ∀x∈l,zX Tryz.prog g ([.int .i64 x]++caps) (.bool (p x))):
 zX Tryz.prog 154 [.ro (.ints .i64 l) 0 l.length,.fn g caps] (.int .i64 (idxF p l)):=by
 refine zU.value0 (zF (P:=Tryz.prog) (fn:=Tryz.f154) Z Z kQ Z (fun c hR hfix=> ?_)) (fix:=fun _=>False) (fun _ h=>h) (by simp [noRef.noRefs,noRef,hc]) Z
 refine rn3 ?_
 refine zb (ι:=Nat) (fun k=>[(0,.ro (.ints .i64 l) 0 l.length),(1,.fn g caps),(7,iN l.length),(8,iN k)]) (fun _=>[])
  (fun k=>k≤l.length∧(l.take k).any p=false) (fun k=>l.length-k) 0 ⟨⟨rfl,rfl,rfl,rfl,trivial⟩,rfl,Nat.zero_le _,rfl⟩ ?_
 intro k ⟨hk,hany⟩
 refine rn4 ?_
 refine zB Z (fun h=> ?_) (fun h=> ?_)
 ·have hk':k<l.length:=kK
  have hanys:=zC1 p l 0 k hk'
  refine rn6 ?_
  refine zA Z Z Z (hp _ (z6 0 hk')) (rn0 ?_)
  refine zD7 Z (fun h2=> ?_) (fun h2=> ?_)
  ·refine rn6 ?_
   refine zM hR Z ?_
   have:=idxF_take p l k hany hk
   rw [zCc l 0 k hk'] at this
   simp only [idxF,h2,if_true] at this
   rw [this];simp [zBs]
  ·refine rn5 ?_
   refine zI ⟨k+1,⟨kK,by rw [hanys,hany,h2];rfl⟩,kK,⟨Z,Z,Z,Z,trivial⟩,Z⟩
 ·have hk':k=l.length:=kK
  subst hk'
  refine rn5 ?_
  refine zM hR Z ?_
  have:=idxF_take p l l.length hany hk
  rw [List.drop_length] at this
  rw [this];rfl
theorem zRv (l:List Int)(g:FuncId)(caps:List AV)(p:Int→Bool)(hc:noRef.noRefs caps=true)(hlen:l.length≤9223372036854775807)(hp: ∀x∈l,zX Tryz.prog g ([.int .i64 x]++caps) (.bool (p x))):
 zX Tryz.prog 77 [.ro (.ints .i64 l) 0 l.length,.fn g caps] (.bool (l.any p)):=by
 refine zU.value0 (zF (P:=Tryz.prog) (fn:=Tryz.f77) Z Z kQ Z (fun c hR hfix=> ?_)) (fix:=fun _=>False) (fun _ h=>h) (by simp [noRef.noRefs,noRef,hc]) Z
 refine rn0 ?_
 refine zA Z Z Z (zP4 l g caps p hc hlen hp) (rn8 ?_)
 refine zM hR Z ?_
 simp only [zBs,zHf]
def notOk (e:Int):Bool:=decide (e≠0)
theorem fine1 (n:Int):zX Tryz.prog 78 [.int .i64 n] (.bool (notOk n)):=by
 refine zU.value0 (zF (P:=Tryz.prog) (fn:=Tryz.f78) Z Z kQ Z (fun c hR hfix=> ?_)) (fix:=fun _=>False) (fun _ h=>h) Z Z
 refine rn3 ?_
 refine zM hR Z ?_
 simp [zBs,notOk]
theorem fineI (l:List Int)(hlen:l.length≤1000):zX Tryz.prog 19 [.ro (.ints .i64 l) 0 l.length] (.bool (!(l.any notOk))):=by
 refine zU.value0 (zF (P:=Tryz.prog) (fn:=Tryz.f19) Z Z kQ Z (fun c hR hfix=> ?_)) (fix:=fun _=>False) (fun _ h=>h) Z Z
 refine rn0 ?_
 refine zA Z Z Z (zRv l 78 [] notOk Z kK (fun x _=>fine1 x)) (rn5 ?_)
 exact zM hR Z Z
end Go.Proofs.YtmpnheilfejcpaaGreatDoor
namespace Go.Proofs.YtmpnheilfejcpaaGreatDoor
open Go.Ax Go.Ax.Bg Go.RowKit
open Go.Ax.Tb (zB9 zEn zCN zC3)
attribute [local irreducible] Ax zB2 QOp zU
theorem zMS (s:List UInt8)(hs:s.length≤9223372036854775807):zX Tryz.prog 157 [.str s] (.bool (zGA s)):=by
 have ht:=trim_ok s hs
 have hn:=trR_nil (s:=s)
 have hc:zGA s=(decide (s≠[]) && s.all dg && (decide (s.getD 0 0≠48)||decide (s.length=1))):=rfl
 refine zU.value0 (zF (P:=Tryz.prog) (fn:=Tryz.f157) Z Z kQ Z (fun c hR hfix=> ?_)) (fix:=fun _=>False) (fun _ h=>h) Z Z
 generalize trL (trR s)=u at*
 generalize zGA s=b at*
 by_cases h0:s=[]
 ·subst h0
  refine rn16 ?_
  refine zM hR Z ?_
  rw [hc];rfl
 have hlen:0<s.length:=List.length_pos_iff.2 h0
 refine rn8 ?_
 refine zAm Z Z (fun h1=> ?_) (fun h1=>absurd h0 h1)
 refine rn2 ?_
 refine zA Z Z Z ht (rn6 ?_)
 refine zAm Z Z (fun h2=> ?_) (fun h2=> ?_)
 ·have ha:s.all dg=true:=hn.1 h2
  rw [decide_eq_true h0,ha,Bool.true_and,Bool.true_and] at hc
  refine rn19 ?_
  refine zAm Z Z (fun h3=> ?_) (fun h3=> ?_)
  ·have h4:decide (s.getD 0 0≠48)=true:=decide_eq_true (fun e=>h3 (by simp only [Int.toNat_zero];rw [e];rfl))
   rw [h4,Bool.true_or] at hc
   refine rn6 ?_
   refine zM hR Z ?_
   rw [hc];rfl
  ·have h5:s.getD 0 0=48:=by
    simp only [Int.toNat_zero] at h3
    apply UInt8.toNat_inj.1
    have:((s.getD 0 0).toNat:Int)=48:=kK
    show (s.getD 0 0).toNat=48
    omega
   have h4:decide (s.getD 0 0≠48)=false:=decide_eq_false (fun e=>e h5)
   rw [h4,Bool.false_or] at hc
   refine rn6 ?_
   refine zM hR Z ?_
   rw [hc]
   show AV.bool (decide ((s.length:Int)=1))=_
   congr 1
   rw [decide_eq_decide];omega
 ·have ha:s.all dg=false:=by
   cases hq:s.all dg with
   |false=>rfl
   |true=>exact absurd (hn.2 hq) h2
  rw [ha,Bool.and_false,Bool.false_and] at hc
  refine rn14 ?_
  refine zM hR Z ?_
  rw [hc];rfl
def pairA (p:List UInt8×Int):AV:= .tup [.str p.1,.int .i64 p.2]
theorem zKj {a b k:Nat}(ha:(zW a).length≤k)(hb:(zW b).length≤k):(zW (a*b)).length≤k+k:=by
 have h1:=zA6 (zAd a)
 have h2:=zA6 (zAd b)
 rw [zAK] at h1 h2
 refine zAh ?_
 rw [Nat.pow_add]
 refine Nat.mul_lt_mul'' (Nat.lt_of_lt_of_le h1 (Nat.pow_le_pow_right kV ha)) (Nat.lt_of_lt_of_le h2 (Nat.pow_le_pow_right kV hb))
theorem len_add {a b k:Nat}(ha:(zW a).length≤k)(hb:(zW b).length≤k):(zW (a+b)).length≤k+1:=by
 have h1:=zA6 (zAd a)
 have h2:=zA6 (zAd b)
 rw [zAK] at h1 h2
 refine zAh ?_
 have h3:B^(zW a).length≤B^k:=Nat.pow_le_pow_right kV ha
 have h4:B^(zW b).length≤B^k:=Nat.pow_le_pow_right kV hb
 rw [Nat.pow_succ]
 have:B^k*2≤B^k*B:=Nat.mul_le_mul_left _ kV
 omega
end Go.Proofs.YtmpnheilfejcpaaGreatDoor
namespace Go.Proofs.YtmpnheilfejcpaaGreatDoor
open Go.Ax Go.Ax.Bg Go.Ax.Rt Go.RowKit
attribute [local irreducible] Ax zB2 QOp zU zBV
def zBF (x:Int):AV:= .agg [.bool (decide (x<0)),zm x.natAbs]
theorem zFz (b:Bool)(n:Nat):zX Tryz.prog 150 [.bool b,zm n] (zBF (zFN b n)):=by
 have hp:0<(zW n).length↔n≠0:=zCp
 have hr:zBF (zFN b n)= .agg [.bool (b && decide (n≠0)),zm n]:=by unfold zBF;rw [zFm,zLf]
 rw [hr]
 refine zU.value0 (zF (P:=Tryz.prog) (fn:=Tryz.f150) Z Z kQ Z (fun c hR hfix=> ?_)) (fix:=fun _=>False) (fun _ h=>h) Z Z
 unfold zm at hR⊢
 cases b
 ·refine rn14 ?_
  refine sa1 (c':= .box [.bool false,.ro (.ints .u32 (zW n)) 0 (zW n).length]) Z Z Z Z Z Z Z (rn0 ?_)
  exact zM hR Z Z
 ·refine rn14 ?_
  have e:decide (0<((zW n).length:Int))=decide (n≠0):=by rw [decide_eq_decide,←hp];omega
  refine zt (c':= .box [.bool (decide (n≠0)),.ro (.ints .u32 (zW n)) 0 (zW n).length]) Z Z Z Z Z Nat.zero_lt_one Z Z (fun i' j' hi' hj'=> ?_) ?_
  ·rw [if_pos (Nat.lt_one_iff.1 hi'),←e];rfl
  refine rn0 ?_
  exact zM hR Z Z
theorem mul_sgn (x y:Int):zFN (!(decide (x<0)==decide (y<0))) (x.natAbs*y.natAbs)=x*y:=by
 have h:(x*y).natAbs=x.natAbs*y.natAbs:=Int.natAbs_mul x y
 unfold zFN
 rcases Int.lt_trichotomy x 0 with hx|hx|hx<;>rcases Int.lt_trichotomy y 0 with hy|hy|hy
 ·have:=Int.mul_pos_of_neg_of_neg hx hy
  simp only [hx,hy];simp;omega
 ·subst hy;simp
 ·have:=Int.mul_neg_of_neg_of_pos hx hy
  simp only [hx,show¬y<0 by omega];simp;omega
 ·subst hx;simp
 ·subst hx;simp
 ·subst hx;simp
 ·have:=Int.mul_neg_of_pos_of_neg hx hy
  simp only [hy,show¬x<0 by omega];simp;omega
 ·subst hy;simp
 ·have:=Int.mul_pos hx hy
  simp only [show¬x<0 by omega,show¬y<0 by omega];simp;omega
theorem zCn (x y:Int)(hx:(zW x.natAbs).length≤1000000)(hy:(zW y.natAbs).length≤1000000):zX Tryz.prog 152 [zBF x,zBF y] (zBF (x*y)):=by
 have h1:=zNe x.natAbs y.natAbs kK kK
 have h2:=zFz (!(decide (x<0)==decide (y<0))) (x.natAbs*y.natAbs)
 rw [mul_sgn] at h2
 refine zU.value0 (zF (P:=Tryz.prog) (fn:=Tryz.f152) Z Z kQ Z (fun c hR hfix=> ?_)) (fix:=fun _=>False) (fun _ h=>h) Z Z
 refine rn6 ?_
 refine zZ kQ ?_
 refine zj (fuel:=1) [0,1,2,3,4,5,6,7,8,9,10] [(2,.ptr 0 0 0),(3,.ptr 1 0 0),(4,.ptr 2 0 0)] ⟨Z,Z,Z,trivial⟩ kQ kV Z Z ?_
 refine zK Z Z (zN Z Z Z Z Z Z) ?_
 refine zK Z Z (zY Z Z Z Z Z) ?_
 refine zK Z Z (zN Z Z Z Z Z Z) ?_
 refine zK Z Z (zY Z Z Z Z Z) ?_
 refine zK Z Z (zJ6 Z Z Z) ?_
 refine zK Z Z (zN Z Z Z Z Z Z) ?_
 refine zK Z Z (zY Z Z Z Z Z) ?_
 refine zK Z Z (zN Z Z Z Z Z Z) ?_
 refine zK Z Z (zY Z Z Z Z Z) ?_
 refine zAy Z Z Z Z Z h1 ?_
 refine zAy Z Z Z Z Z h2 ?_
 refine zz ?_
 refine zD (is:=[11]) kQ kJ Z ⟨fun o ho=> ?_,trivial⟩
 all_goals (cases ho)
 skip
 unfold zBF zm
 refine sa1 (c':= .box [.bool (decide (x*y<0)),.ro (.ints .u32 (zW (x*y).natAbs)) 0 (zW (x*y).natAbs).length]) Z Z Z Z Z Z Z (rn1 ?_)
 refine zT kQ (rn0 ?_)
 exact zM hR Z Z
theorem opp_sgn (x:Int):zFN (!decide (x<0)) x.natAbs= -x:=by
 unfold zFN
 by_cases h:x<0
 ·simp [h];omega
 ·simp [h];omega
theorem zG3 (x:Int):zX Tryz.prog 175 [zBF x] (zBF (-x)):=by
 have h2:=zFz (!decide (x<0)) x.natAbs
 rw [opp_sgn] at h2
 refine zU.value0 (zF (P:=Tryz.prog) (fn:=Tryz.f175) Z Z kQ Z (fun c hR hfix=> ?_)) (fix:=fun _=>False) (fun _ h=>h) Z Z
 refine rn6 ?_
 refine zA Z Z Z h2 ?_
 skip
 unfold zBF
 refine sa1 (c':= .box [.bool (decide (-x<0)),zm (-x).natAbs]) Z Z Z Z Z Z Z (rn0 ?_)
 exact zM hR Z Z
theorem zEp (x:Int):zX Tryz.prog 160 [zBF x] (.int .i64 (sgn x)):=by
 have hp:0<(zW x.natAbs).length↔x.natAbs≠0:=zCp
 unfold sgn
 refine zU.value0 (zF (P:=Tryz.prog) (fn:=Tryz.f160) Z Z kQ Z (fun c hR hfix=> ?_)) (fix:=fun _=>False) (fun _ h=>h) Z Z
 unfold zBF zm
 rcases Int.lt_trichotomy x 0 with h|h|h
 ·have e:decide (x<0)=true:=decide_eq_true h
  rw [e]
  rw [if_pos h] at hR
  refine rn6 ?_
  refine zB Z (fun h0=>absurd h0 kK) (fun h0=> ?_)
  refine rn6 ?_
  exact zM hR Z Z
 ·subst h
  rw [if_neg kK,if_pos rfl] at hR
  have e0:zW (0:Int).natAbs=[]:=zCA
  rw [e0]
  refine rn6 ?_
  exact zM hR Z Z
 ·have e:decide (x<0)=false:=decide_eq_false kK
  rw [e]
  rw [if_neg kK,if_neg kK] at hR
  refine rn6 ?_
  refine zB Z (fun h0=>absurd h0 kK) (fun h0=> ?_)
  refine rn5 ?_
  exact zM hR Z Z
theorem add_sgn1 (x y:Int)(h:decide (x<0)=decide (y<0)):zFN (decide (x<0)) (x.natAbs+y.natAbs)=x+y:=by
 unfold zFN
 rw [decide_eq_decide] at h
 by_cases h1:x<0
 ·simp [h1];omega
 ·simp [h1];omega
theorem add_sgn2 (x y:Int)(h: ¬decide (x<0)=decide (y<0))(h2:y.natAbs≤x.natAbs):zFN (decide (x<0)) (x.natAbs-y.natAbs)=x+y:=by
 unfold zFN
 rw [decide_eq_decide] at h
 by_cases h1:x<0
 ·simp [h1];omega
 ·simp [h1];omega
theorem add_sgn3 (x y:Int)(h: ¬decide (x<0)=decide (y<0))(h2: ¬y.natAbs≤x.natAbs):zFN (decide (y<0)) (y.natAbs-x.natAbs)=x+y:=by
 unfold zFN
 rw [decide_eq_decide] at h
 by_cases h1:y<0
 ·simp [h1];omega
 ·simp [h1];omega
theorem zQm {x y:Int}:0≤zEl x y↔y≤x:=by
 unfold zEl
 split
 ·omega
 ·split<;>omega
theorem zNW (x y:Int)(hx:(zW x.natAbs).length≤1000000)(hy:(zW y.natAbs).length≤1000000):zX Tryz.prog 176 [zBF x,zBF y] (zBF (x+y)):=by
 by_cases h:decide (x<0)=decide (y<0)
 ·have h1:=add_ok x.natAbs y.natAbs kK kK
  have h2:=zFz (decide (x<0)) (x.natAbs+y.natAbs)
  rw [add_sgn1 x y h] at h2
  refine zU.value0 (zF (P:=Tryz.prog) (fn:=Tryz.f176) Z Z kQ Z (fun c hR hfix=> ?_)) (fix:=fun _=>False) (fun _ h=>h) Z Z
  unfold zBF at hR⊢
  repeat (first|refine zV ?_|refine zG ?_|refine zAL ?_|refine zl rfl ?_|refine zL (zY rfl rfl rfl rfl rfl) ?_|refine zL (zN rfl rfl rfl rfl rfl rfl) ?_|refine zL (zLV rfl rfl rfl) ?_|refine zGv rfl rfl ?_|refine zA7 rfl rfl rfl ?_)
  refine zv 9 (.bool true) Z (AEq.of_eq (by rw [h];simp)) (rn5 ?_)
  refine zZ kQ ?_
  refine zj (fuel:=1) [0,1,2,3,4,5,6,7] [(2,.ptr 0 0 0),(3,.ptr 1 0 0),(4,.ptr 2 0 0)] ⟨Z,Z,Z,trivial⟩ kQ kV Z Z ?_
  refine zK Z Z (zN Z Z Z Z Z Z) ?_
  refine zK Z Z (zY Z Z Z Z Z) ?_
  refine zK Z Z (zN Z Z Z Z Z Z) ?_
  refine zK Z Z (zY Z Z Z Z Z) ?_
  refine zK Z Z (zN Z Z Z Z Z Z) ?_
  refine zK Z Z (zY Z Z Z Z Z) ?_
  refine zAy Z Z Z Z Z h1 ?_
  refine zAy Z Z Z Z Z h2 ?_
  refine zz ?_
  refine zD (is:=[8]) kQ kJ Z ⟨fun o ho=> ?_,trivial⟩
  all_goals (cases ho)
  skip
  unfold zBF
  refine sa1 (c':= .box [.bool (decide (x+y<0)),zm (x+y).natAbs]) Z Z Z Z Z Z Z (rn1 ?_)
  refine zT kQ (rn2 ?_)
  exact zM hR Z Z
 ·have h0:=zNM x.natAbs y.natAbs kK kK
  by_cases hc:y.natAbs≤x.natAbs
  ·have h1:=sub_ok x.natAbs y.natAbs hc kK
   have h2:=zFz (decide (x<0)) (x.natAbs-y.natAbs)
   rw [add_sgn2 x y h hc] at h2
   refine zU.value0 (zF (P:=Tryz.prog) (fn:=Tryz.f176) Z Z kQ Z (fun c hR hfix=> ?_)) (fix:=fun _=>False) (fun _ h=>h) Z Z
   unfold zBF at hR⊢
   repeat (first|refine zV ?_|refine zG ?_|refine zAL ?_|refine zl rfl ?_|refine zL (zY rfl rfl rfl rfl rfl) ?_|refine zL (zN rfl rfl rfl rfl rfl rfl) ?_|refine zL (zLV rfl rfl rfl) ?_|refine zGv rfl rfl ?_|refine zA7 rfl rfl rfl ?_)
   refine zv 9 (.bool false) Z (AEq.of_eq (by rw [beq_eq_false_iff_ne.2 h])) (rn5 ?_)
   refine zA Z Z Z h0 (rn7 ?_)
   refine zB Z (fun h5=> ?_) (fun h5=>absurd (zQm.2 (Int.ofNat_le.2 hc)) h5)
   repeat (refine zAL ?_)
   refine zZ kQ ?_
   refine zj (fuel:=1) [0,1,2,3,4,5,6,7] [(2,.ptr 0 0 0),(3,.ptr 1 0 0),(4,.ptr 2 0 0)] ⟨Z,Z,Z,trivial⟩ kQ kV Z Z ?_
   refine zK Z Z (zN Z Z Z Z Z Z) ?_
   refine zK Z Z (zY Z Z Z Z Z) ?_
   refine zK Z Z (zN Z Z Z Z Z Z) ?_
   refine zK Z Z (zY Z Z Z Z Z) ?_
   refine zK Z Z (zN Z Z Z Z Z Z) ?_
   refine zK Z Z (zY Z Z Z Z Z) ?_
   refine zAy Z Z Z Z Z h1 ?_
   refine zAy Z Z Z Z Z h2 ?_
   refine zz ?_
   refine zD (is:=[8]) kQ kJ Z ⟨fun o ho=> ?_,trivial⟩
   all_goals (cases ho)
   skip
   unfold zBF
   refine sa1 (c':= .box [.bool (decide (x+y<0)),zm (x+y).natAbs]) Z Z Z Z Z Z Z (rn1 ?_)
   refine zT kQ (rn2 ?_)
   exact zM hR Z Z
  ·have h1:=sub_ok y.natAbs x.natAbs kK kK
   have h2:=zFz (decide (y<0)) (y.natAbs-x.natAbs)
   rw [add_sgn3 x y h hc] at h2
   refine zU.value0 (zF (P:=Tryz.prog) (fn:=Tryz.f176) Z Z kQ Z (fun c hR hfix=> ?_)) (fix:=fun _=>False) (fun _ h=>h) Z Z
   unfold zBF at hR⊢
   repeat (first|refine zV ?_|refine zG ?_|refine zAL ?_|refine zl rfl ?_|refine zL (zY rfl rfl rfl rfl rfl) ?_|refine zL (zN rfl rfl rfl rfl rfl rfl) ?_|refine zL (zLV rfl rfl rfl) ?_|refine zGv rfl rfl ?_|refine zA7 rfl rfl rfl ?_)
   refine zv 9 (.bool false) Z (AEq.of_eq (by rw [beq_eq_false_iff_ne.2 h])) (rn5 ?_)
   refine zA Z Z Z h0 (rn7 ?_)
   refine zB Z (fun h5=>absurd (Int.ofNat_le.1 (zQm.1 h5)) hc) (fun h5=> ?_)
   refine rn1 ?_
   refine zZ kQ ?_
   refine zj (fuel:=1) [0,1,2,3,4,5,6,7] [(2,.ptr 0 0 0),(3,.ptr 1 0 0),(4,.ptr 2 0 0)] ⟨Z,Z,Z,trivial⟩ kQ kV Z Z ?_
   refine zK Z Z (zN Z Z Z Z Z Z) ?_
   refine zK Z Z (zY Z Z Z Z Z) ?_
   refine zK Z Z (zN Z Z Z Z Z Z) ?_
   refine zK Z Z (zY Z Z Z Z Z) ?_
   refine zK Z Z (zN Z Z Z Z Z Z) ?_
   refine zK Z Z (zY Z Z Z Z Z) ?_
   refine zAy Z Z Z Z Z h1 ?_
   refine zAy Z Z Z Z Z h2 ?_
   refine zz ?_
   refine zD (is:=[8]) kQ kJ Z ⟨fun o ho=> ?_,trivial⟩
   all_goals (cases ho)
   skip
   unfold zBF
   refine sa1 (c':= .box [.bool (decide (x+y<0)),zm (x+y).natAbs]) Z Z Z Z Z Z Z (rn1 ?_)
   refine zT kQ (rn0 ?_)
   exact zM hR Z Z
theorem len_neg {x:Int}{k:Nat}(h:(zW x.natAbs).length≤k):(zW (-x).natAbs).length≤k:=by rw [Int.natAbs_neg];exact h
theorem zNZ (x y:Int)(hx:(zW x.natAbs).length≤1000000)(hy:(zW y.natAbs).length≤1000000):zX Tryz.prog 201 [zBF x,zBF y] (zBF (x-y)):=by
 have h1:=zG3 y
 have h2:=zNW x (-y) hx (len_neg hy)
 rw [show x+ -y=x-y from rfl] at h2
 refine zU.value0 (zF (P:=Tryz.prog) (fn:=Tryz.f201) Z Z kQ Z (fun c hR hfix=> ?_)) (fix:=fun _=>False) (fun _ h=>h) Z Z
 refine rn6 ?_
 refine zZ kQ ?_
 refine zj (fuel:=1) [0,1,2,3] [(2,.ptr 0 0 0),(3,.ptr 1 0 0),(4,.ptr 2 0 0)] ⟨Z,Z,Z,trivial⟩ kQ kV Z Z ?_
 refine zK Z Z (qpp Z Z Z Z Z Z Z) ?_
 refine zK Z Z (qpp Z Z Z Z Z Z Z) ?_
 refine zAy Z Z Z Z Z h1 ?_
 refine zAy Z Z Z Z Z h2 ?_
 refine zz ?_
 refine zD (is:=[4]) kQ kJ Z ⟨fun o ho=> ?_,trivial⟩
 all_goals (cases ho)
 skip
 unfold zBF
 refine sa1 (c':= .box [.bool (decide (x-y<0)),zm (x-y).natAbs]) Z Z Z Z Z Z Z (rn1 ?_)
 refine zT kQ (rn0 ?_)
 exact zM hR Z Z
theorem zQ9 (x y:Int)(hx:(zW x.natAbs).length≤1000000)(hy:(zW y.natAbs).length≤1000000):zX Tryz.prog 153 [zBF x,zBF y] (.int .i64 (sgn (x-y))):=by
 have h1:=zNZ x y hx hy
 have h2:=zEp (x-y)
 refine zU.value0 (zF (P:=Tryz.prog) (fn:=Tryz.f153) Z Z kQ Z (fun c hR hfix=> ?_)) (fix:=fun _=>False) (fun _ h=>h) Z Z
 refine rn6 ?_
 refine zA Z Z Z h1 ?_
 skip
 refine zA Z Z Z h2 (rn0 ?_)
 exact zM hR Z Z
theorem zH0 (n:Int)(h: -9223372036854775808≤n∧n<9223372036854775808):zX Tryz.prog 142 [.int .i64 n] (zBF n):=by
 refine zU.value0 (zF (P:=Tryz.prog) (fn:=Tryz.f142) Z Z kQ Z (fun c hR hfix=> ?_)) (fix:=fun _=>False) (fun _ h=>h) Z Z
 rcases Int.lt_or_le n 0 with hn|hn
 ·have h1:=zHu n.natAbs kK
  refine rn4 ?_
  refine zB Z (fun _=> ?_) (fun h0=>absurd hn h0)
  refine rn3 ?_
  refine zL (q_neg Z kK) ?_
  refine zE 7 (.int .i64 ((n.natAbs-1:Nat):Int)) Z (AEq.of_eq (congrArg _ kK)) ?_
  refine zL (zAe (m:=n.natAbs-1) Z Z Z zBk kK) ?_
  refine zL (zGJ (m:=n.natAbs-1) (n:=1) Z Z zBk kK) ?_
  refine zE 9 (.int .u64 ((n.natAbs:Nat):Int)) Z (AEq.of_eq (congrArg _ kK)) ?_
  skip
  refine zA Z Z Z h1 ?_
  repeat (refine zL (zBT rfl rfl rfl rfl rfl rfl) ?_)
  refine sa1 (c':= .box [.bool true,zm n.natAbs]) Z Z Z Z Z Z Z (rn2 ?_)
  refine zM hR Z ?_
  unfold zBF
  rw [show decide (n<0)=true from decide_eq_true hn]
  rfl
 ·have h1:=zHu n.natAbs kK
  refine rn4 ?_
  refine zB Z (fun h0=>absurd h0 kK) (fun h0=> ?_)
  refine rn1 ?_
  refine zE 12 (.int .i64 ((n.natAbs:Nat):Int)) Z (AEq.of_eq (congrArg _ kK)) ?_
  refine zL (zAe (m:=n.natAbs) Z Z Z zBk kK) ?_
  skip
  refine zA Z Z Z h1 ?_
  repeat (refine zL (zBT rfl rfl rfl rfl rfl rfl) ?_)
  refine sa1 (c':= .box [.bool false,zm n.natAbs]) Z Z Z Z Z Z Z (rn0 ?_)
  refine zM hR Z ?_
  unfold zBF
  rw [show decide (n<0)=false from decide_eq_false kK]
  rfl
def qA (q:Rat):AV:= .agg [.bool (decide (q.num<0)),zm q.num.natAbs,zm q.den]
theorem zJP (n:Nat):zBF (n:Int)= .agg [.bool false,zm n]:=by
 unfold zBF
 rw [show decide ((n:Int)<0)=false from decide_eq_false kK,Int.natAbs_natCast]
theorem bne_iff {x y z:Int}(h:z<0↔x≠0∧((x<0∧ ¬y<0)∨(¬x<0∧y<0)))(hz:x=0→z=0):zFN (!(decide (x<0)==decide (y<0))) z.natAbs=z:=by
 unfold zFN
 by_cases h1:x<0<;>by_cases h2:y<0
 ·simp [h1,h2];have: ¬z<0:=fun q=>by have:=h.1 q;omega
  omega
 ·simp [h1,h2];have:z<0:=h.2 kK
  omega
 ·simp [h1,h2]
  rcases Int.lt_or_le z 0 with q|q
  ·omega
  ·have:x=0:=by
    rcases Int.lt_trichotomy x 0 with w|w|w
    ·exact absurd w h1
    ·exact w
    ·exact absurd (h.2 ⟨kK,.inr ⟨h1,h2⟩⟩) kK
   have:=hz this
   omega
 ·simp [h1,h2];have: ¬z<0:=fun q=>by have:=h.1 q;omega
  omega
theorem gcd_len {a b k:Nat}(ha:(zW a).length≤k)(hb:(zW b).length≤k):(zW (Nat.gcd a b)).length≤k:=by
 rcases Nat.eq_zero_or_pos a with h|h
 ·subst h;rw [Nat.gcd_zero_left];exact hb
 ·exact zF0 (Nat.gcd_le_left b h) ha
theorem zG0 (n d:Int)(hd:d≠0)(hn:(zW n.natAbs).length≤1000000)(hdl:(zW d.natAbs).length≤1000000):zX Tryz.prog 141 [zBF n,zBF d] (qA (Rat.divInt n d)):=by
 obtain ⟨e1,e2,e3⟩:=zG1 n d hd
 have hg:=zP0 n.natAbs d.natAbs hn hdl
 have hgl:=gcd_len hn hdl
 have hgp:0<Nat.gcd n.natAbs d.natAbs:=Nat.gcd_pos_of_pos_right _ kK
 have h1:=zJu n.natAbs _ hgp hn hgl
 have h2:=zJu d.natAbs _ hgp hdl hgl
 have h3:=zFz (!(decide (n<0)==decide (d<0))) (Rat.divInt n d).num.natAbs
 rw [bne_iff e3 (fun h0=>by rw [h0,Rat.zero_divInt];rfl)] at h3
 rw [←e1] at h1
 rw [←e2] at h2
 refine zU.value0 (zF (P:=Tryz.prog) (fn:=Tryz.f141) Z Z kQ Z (fun c hR hfix=> ?_)) (fix:=fun _=>False) (fun _ h=>h) Z Z
 refine rn6 ?_
 refine zA Z Z Z hg (rn5 ?_)
 refine zA Z Z Z h1 (rn5 ?_)
 refine zA Z Z Z h2 ?_
 repeat (first|refine zL (zH rfl) ?_|refine zL (zf rfl) ?_|refine zV ?_|refine zG ?_|refine zAL ?_|refine zl rfl ?_|refine zL (zY rfl rfl rfl rfl rfl) ?_|refine zL (zCB rfl rfl) ?_|refine zL (zN rfl rfl rfl rfl rfl rfl) ?_|refine zL (zJ6 rfl rfl rfl) ?_)
 refine zA Z Z Z h3 (rn8 ?_)
 refine sa1 (c':= .box [.bool (decide ((Rat.divInt n d).num<0)),zm (Rat.divInt n d).num.natAbs,zm (Rat.divInt n d).den]) Z Z Z Z Z Z Z (rn0 ?_)
 exact zM hR Z Z
def Sz (k:Nat)(q:Rat):Prop:=(zW q.num.natAbs).length≤k∧(zW q.den).length≤k
theorem zEB {x y:Int}{k:Nat}(hx:(zW x.natAbs).length≤k)(hy:(zW y.natAbs).length≤k):(zW (x*y).natAbs).length≤k+k:=by
 rw [Int.natAbs_mul];exact zKj hx hy
theorem zOX {x y:Int}{k:Nat}(hx:(zW x.natAbs).length≤k)(hy:(zW y.natAbs).length≤k):(zW (x+y).natAbs).length≤k+1:=
 zF0 (Int.natAbs_add_le x y) (len_add hx hy)
theorem den_ne (q:Rat):(q.den:Int)≠0:=by have:=q.den_nz;omega
theorem zFM (p q:Rat)(hp:Sz 100000 p)(hq:Sz 100000 q):zX Tryz.prog 132 [qA p,qA q] (qA (p+q)):=by
 have l1:(zW (q.den:Int).natAbs).length≤100000:=hq.2
 have l2:(zW (p.den:Int).natAbs).length≤100000:=hp.2
 have h1:=zCn p.num q.den (by have:=hp.1;omega) kK
 have h2:=zCn q.num p.den (by have:=hq.1;omega) kK
 have m1:=zEB hp.1 l1
 have m2:=zEB hq.1 l2
 have h3:=zNW (p.num*q.den) (q.num*p.den) kK kK
 have h4:=zNe p.den q.den (by have:=hp.2;omega) (by have:=hq.2;omega)
 have m3:=zOX m1 m2
 have m4:=zKj hp.2 hq.2
 have h5:=zG0 (p.num*q.den+q.num*p.den) ((p.den*q.den:Nat):Int) (by have:=Nat.mul_ne_zero p.den_nz q.den_nz;omega) kK (by rw [Int.natAbs_natCast];omega)
 rw [zJP,zKw] at h5
 rw [zJP] at h1 h2
 refine zU.value0 (zF (P:=Tryz.prog) (fn:=Tryz.f132) Z Z kQ Z (fun c hR hfix=> ?_)) (fix:=fun _=>False) (fun _ h=>h) Z Z
 refine rn6 ?_
 refine zZ kQ ?_
 refine zj (fuel:=1) [0,1,2,3,4,5,6,7,8,9,10,11,12,13,14,15,16,17,18,19] [(2,.ptr 0 0 0),(3,.ptr 1 0 0),(4,.ptr 2 0 0)] ⟨Z,Z,Z,trivial⟩ kQ kV Z Z ?_
 refine zK Z Z (zN Z Z Z Z Z Z) ?_
 refine zK Z Z (qpp Z Z Z Z Z Z Z) ?_
 refine zK Z Z (zN Z Z Z Z Z Z) ?_
 refine zK Z Z (zY Z Z Z Z Z) ?_
 refine zK Z Z (zBT Z Z Z Z Z Z) ?_
 refine zAy Z Z Z Z Z h1 ?_
 refine zK Z Z (zN Z Z Z Z Z Z) ?_
 refine zK Z Z (qpp Z Z Z Z Z Z Z) ?_
 refine zK Z Z (zN Z Z Z Z Z Z) ?_
 refine zK Z Z (zY Z Z Z Z Z) ?_
 refine zK Z Z (zBT Z Z Z Z Z Z) ?_
 refine zAy Z Z Z Z Z h2 ?_
 refine zAy Z Z Z Z Z h3 ?_
 refine zK Z Z (zN Z Z Z Z Z Z) ?_
 refine zK Z Z (zY Z Z Z Z Z) ?_
 refine zK Z Z (zN Z Z Z Z Z Z) ?_
 refine zK Z Z (zY Z Z Z Z Z) ?_
 refine zAy Z Z Z Z Z h4 ?_
 refine zK Z Z (zBT Z Z Z Z Z Z) ?_
 refine zAy Z Z Z Z Z h5 ?_
 refine zz ?_
 refine zD (is:=[20]) kQ kJ Z ⟨fun o ho=> ?_,trivial⟩
 all_goals (cases ho)
 skip
 unfold qA
 refine sa1 (c':= .box [.bool (decide ((p+q).num<0)),zm (p+q).num.natAbs,zm (p+q).den]) Z Z Z Z Z Z Z (rn1 ?_)
 refine zT kQ (rn0 ?_)
 exact zM hR Z Z
theorem zRP (p q:Rat)(hp:Sz 100000 p)(hq:Sz 100000 q):zX Tryz.prog 99 [qA p,qA q] (qA (p*q)):=by
 have h1:=zCn p.num q.num (by have:=hp.1;omega) (by have:=hq.1;omega)
 have m1:=zEB hp.1 hq.1
 have h4:=zNe p.den q.den (by have:=hp.2;omega) (by have:=hq.2;omega)
 have m4:=zKj hp.2 hq.2
 have h5:=zG0 (p.num*q.num) ((p.den*q.den:Nat):Int) (by have:=Nat.mul_ne_zero p.den_nz q.den_nz;omega) kK (by rw [Int.natAbs_natCast];omega)
 rw [zJP,zOg] at h5
 refine zU.value0 (zF (P:=Tryz.prog) (fn:=Tryz.f99) Z Z kQ Z (fun c hR hfix=> ?_)) (fix:=fun _=>False) (fun _ h=>h) Z Z
 refine rn6 ?_
 refine zZ kQ ?_
 refine zj (fuel:=1) [0,1,2,3,4,5,6,7,8,9,10,11] [(2,.ptr 0 0 0),(3,.ptr 1 0 0),(4,.ptr 2 0 0)] ⟨Z,Z,Z,trivial⟩ kQ kV Z Z ?_
 refine zK Z Z (zN Z Z Z Z Z Z) ?_
 refine zK Z Z (qpp Z Z Z Z Z Z Z) ?_
 refine zK Z Z (zN Z Z Z Z Z Z) ?_
 refine zK Z Z (qpp Z Z Z Z Z Z Z) ?_
 refine zAy Z Z Z Z Z h1 ?_
 refine zK Z Z (zN Z Z Z Z Z Z) ?_
 refine zK Z Z (zY Z Z Z Z Z) ?_
 refine zK Z Z (zN Z Z Z Z Z Z) ?_
 refine zK Z Z (zY Z Z Z Z Z) ?_
 refine zAy Z Z Z Z Z h4 ?_
 refine zK Z Z (zBT Z Z Z Z Z Z) ?_
 refine zAy Z Z Z Z Z h5 ?_
 refine zz ?_
 refine zD (is:=[12]) kQ kJ Z ⟨fun o ho=> ?_,trivial⟩
 all_goals (cases ho)
 skip
 unfold qA
 refine sa1 (c':= .box [.bool (decide ((p*q).num<0)),zm (p*q).num.natAbs,zm (p*q).den]) Z Z Z Z Z Z Z (rn1 ?_)
 refine zT kQ (rn0 ?_)
 exact zM hR Z Z
theorem zJZ (p q:Rat)(hp:Sz 100000 p)(hq:Sz 100000 q)(h0:q≠0):zX Tryz.prog 133 [qA p,qA q] (qA (p/q)):=by
 have l1:(zW (q.den:Int).natAbs).length≤100000:=hq.2
 have l2:(zW (p.den:Int).natAbs).length≤100000:=hp.2
 have h1:=zCn p.num q.den (by have:=hp.1;omega) kK
 have h2:=zCn q.num p.den (by have:=hq.1;omega) kK
 have m1:=zEB hp.1 l1
 have m2:=zEB hq.1 l2
 have hn:q.num≠0:=fun h=>h0 (Rat.num_eq_zero.1 h)
 have h5:=zG0 (p.num*q.den) (q.num*p.den) (Int.mul_ne_zero hn (den_ne p)) kK kK
 rw [zOP p q h0] at h5
 rw [zJP] at h1 h2
 refine zU.value0 (zF (P:=Tryz.prog) (fn:=Tryz.f133) Z Z kQ Z (fun c hR hfix=> ?_)) (fix:=fun _=>False) (fun _ h=>h) Z Z
 refine rn6 ?_
 refine zZ kQ ?_
 refine zj (fuel:=1) [0,1,2,3,4,5,6,7,8,9,10,11,12] [(2,.ptr 0 0 0),(3,.ptr 1 0 0),(4,.ptr 2 0 0)] ⟨Z,Z,Z,trivial⟩ kQ kV Z Z ?_
 refine zK Z Z (zN Z Z Z Z Z Z) ?_
 refine zK Z Z (qpp Z Z Z Z Z Z Z) ?_
 refine zK Z Z (zN Z Z Z Z Z Z) ?_
 refine zK Z Z (zY Z Z Z Z Z) ?_
 refine zK Z Z (zBT Z Z Z Z Z Z) ?_
 refine zAy Z Z Z Z Z h1 ?_
 refine zK Z Z (zN Z Z Z Z Z Z) ?_
 refine zK Z Z (qpp Z Z Z Z Z Z Z) ?_
 refine zK Z Z (zN Z Z Z Z Z Z) ?_
 refine zK Z Z (zY Z Z Z Z Z) ?_
 refine zK Z Z (zBT Z Z Z Z Z Z) ?_
 refine zAy Z Z Z Z Z h2 ?_
 refine zAy Z Z Z Z Z h5 ?_
 refine zz ?_
 refine zD (is:=[13]) kQ kJ Z ⟨fun o ho=> ?_,trivial⟩
 all_goals (cases ho)
 skip
 unfold qA
 refine sa1 (c':= .box [.bool (decide ((p/q).num<0)),zm (p/q).num.natAbs,zm (p/q).den]) Z Z Z Z Z Z Z (rn1 ?_)
 refine zT kQ (rn0 ?_)
 exact zM hR Z Z
theorem zEf (p q:Rat)(hp:Sz 100000 p)(hq:Sz 100000 q):zX Tryz.prog 76 [qA p,qA q] (.int .i64 (zBl p q)):=by
 have l1:(zW (q.den:Int).natAbs).length≤100000:=hq.2
 have l2:(zW (p.den:Int).natAbs).length≤100000:=hp.2
 have h1:=zCn p.num q.den (by have:=hp.1;omega) kK
 have h2:=zCn q.num p.den (by have:=hq.1;omega) kK
 have m1:=zEB hp.1 l1
 have m2:=zEB hq.1 l2
 have h5:=zQ9 (p.num*q.den) (q.num*p.den) kK kK
 rw [sgn_cmp p q] at h5
 rw [zJP] at h1 h2
 refine zU.value0 (zF (P:=Tryz.prog) (fn:=Tryz.f76) Z Z kQ Z (fun c hR hfix=> ?_)) (fix:=fun _=>False) (fun _ h=>h) Z Z
 refine rn6 ?_
 refine zZ kQ ?_
 refine zj (fuel:=0) [0,1,2,3,4,5,6,7,8,9,10,11,12,13] [(2,.ptr 0 0 0),(3,.ptr 1 0 0)] ⟨Z,Z,trivial⟩ kQ kV Z Z ?_
 refine zK Z Z (zN Z Z Z Z Z Z) ?_
 refine zK Z Z (qpp Z Z Z Z Z Z Z) ?_
 refine zK Z Z (zN Z Z Z Z Z Z) ?_
 refine zK Z Z (zY Z Z Z Z Z) ?_
 refine zK Z Z (zBT Z Z Z Z Z Z) ?_
 refine zAy Z Z Z Z Z h1 ?_
 refine zK Z Z (zN Z Z Z Z Z Z) ?_
 refine zK Z Z (qpp Z Z Z Z Z Z Z) ?_
 refine zK Z Z (zN Z Z Z Z Z Z) ?_
 refine zK Z Z (zY Z Z Z Z Z) ?_
 refine zK Z Z (zBT Z Z Z Z Z Z) ?_
 refine zAy Z Z Z Z Z h2 ?_
 refine zAy Z Z Z Z Z h5 ?_
 refine zK Z Z (zf Z) ?_
 refine zz ?_
 refine zT kQ (rn0 ?_)
 exact zM hR Z Z
theorem zHp (p:Rat):zX Tryz.prog 83 [qA p] (.int .i64 (sgn p.num)):=by
 have h1:=zEp p.num
 refine zU.value0 (zF (P:=Tryz.prog) (fn:=Tryz.f83) Z Z kQ Z (fun c hR hfix=> ?_)) (fix:=fun _=>False) (fun _ h=>h) Z Z
 refine rn6 ?_
 refine zA Z Z Z h1 (rn0 ?_)
 exact zM hR Z Z
theorem qopp_ok (p:Rat):zX Tryz.prog 101 [qA p] (qA (-p)):=by
 have h1:=zG3 p.num
 refine zU.value0 (zF (P:=Tryz.prog) (fn:=Tryz.f101) Z Z kQ Z (fun c hR hfix=> ?_)) (fix:=fun _=>False) (fun _ h=>h) Z Z
 refine rn6 ?_
 refine zZ kQ ?_
 refine zj (fuel:=1) [0,1,2,3,4,5] [(1,.ptr 0 0 0),(2,.ptr 1 0 0)] ⟨Z,Z,trivial⟩ kQ kV Z Z ?_
 refine zK Z Z (zN Z Z Z Z Z Z) ?_
 refine zK Z Z (qpp Z Z Z Z Z Z Z) ?_
 refine zAy Z Z Z Z Z h1 ?_
 refine zK Z Z (zN Z Z Z Z Z Z) ?_
 refine zK Z Z (zY Z Z Z Z Z) ?_
 refine zK Z Z (zBT Z Z Z Z Z Z) ?_
 refine zz ?_
 refine zD (is:=[6]) kQ kJ Z ⟨fun o ho=> ?_,trivial⟩
 all_goals (cases ho)
 skip
 refine sa1 (c':= .box [.bool (decide ((-p).num<0)),zm (-p).num.natAbs,zm (-p).den]) Z Z Z Z Z Z Z (rn1 ?_)
 refine zT kQ (rn0 ?_)
 exact zM hR Z Z
theorem sz_neg {k:Nat}{q:Rat}(h:Sz k q):Sz k (-q):=by
 refine ⟨?_,h.2⟩
 show (zW (-q.num).natAbs).length≤k
 rw [Int.natAbs_neg];exact h.1
theorem zKn (p q:Rat)(hp:Sz 100000 p)(hq:Sz 100000 q):zX Tryz.prog 140 [qA p,qA q] (qA (p-q)):=by
 have h1:=qopp_ok q
 have h2:=zFM p (-q) hp (sz_neg hq)
 rw [←Rat.sub_eq_add_neg] at h2
 refine zU.value0 (zF (P:=Tryz.prog) (fn:=Tryz.f140) Z Z kQ Z (fun c hR hfix=> ?_)) (fix:=fun _=>False) (fun _ h=>h) Z Z
 refine rn6 ?_
 refine zZ kQ ?_
 refine zj (fuel:=1) [0,1,2,3] [(2,.ptr 0 0 0),(3,.ptr 1 0 0),(4,.ptr 2 0 0)] ⟨Z,Z,Z,trivial⟩ kQ kV Z Z ?_
 refine zK Z Z (qpp Z Z Z Z Z Z Z) ?_
 refine zK Z Z (qpp Z Z Z Z Z Z Z) ?_
 refine zAy Z Z Z Z Z h1 ?_
 refine zAy Z Z Z Z Z h2 ?_
 refine zz ?_
 refine zD (is:=[4]) kQ kJ Z ⟨fun o ho=> ?_,trivial⟩
 all_goals (cases ho)
 skip
 unfold qA
 refine sa1 (c':= .box [.bool (decide ((p-q).num<0)),zm (p-q).num.natAbs,zm (p-q).den]) Z Z Z Z Z Z Z (rn1 ?_)
 refine zT kQ (rn0 ?_)
 exact zM hR Z Z
end Go.Proofs.YtmpnheilfejcpaaGreatDoor
namespace Go.Proofs.YtmpnheilfejcpaaGreatDoor
open Go.Ax Go.Ax.Bg Go.Ax.Rt Go.RowKit
attribute [local irreducible] Ax zB2 QOp zU zBV
open Go.Ax.Tb (zDW zK6)
theorem zOh:zm 1= .ro (.ints .u32 [1]) 0 1:=by unfold zm;rw [zHj];rfl
theorem qA_int (z:Int):qA (z:Rat)= .agg [.bool (decide (z<0)),zm z.natAbs,zm 1]:=rfl
theorem zNm (n:Int)(h: -9223372036854775808≤n∧n<9223372036854775808):zX Tryz.prog 113 [.int .i64 n] (qA (n:Rat)):=by
 have h1:=zH0 n h
 refine zU.value0 (zF (P:=Tryz.prog) (fn:=Tryz.f113) Z Z kQ Z (fun c hR hfix=> ?_)) (fix:=fun _=>False) (fun _ h=>h) Z Z
 refine rn4 ?_
 refine zA Z Z Z h1 ?_
 unfold zBF
 refine rn8 ?_
 refine sa1 (c':= .box [.bool (decide (n<0)),zm n.natAbs,.ro (.ints .u32 [1]) 0 1]) Z Z Z Z Z Z Z (rn0 ?_)
 refine zM hR Z ?_
 rw [qA_int,zOh]
 rfl
theorem zP3 (s:List UInt8)(b:Int):zX Tryz.prog 247 [.str s,.int .u8 b] (.int .i64 (Lib.indexByte s b.toNat.toUInt8)):=by
 refine zU.value0 (zF (P:=Tryz.prog) (fn:=Tryz.f247) Z Z kQ Z (fun c hR hfix=> ?_)) (fix:=fun _=>False) (fun _ h=>h) Z Z
 refine rn0 ?_
 refine zL (zOx Z Z Z Z kQ kQ kQ kQ) (rn0 ?_)
 exact zM hR Z Z
theorem indexI1 (s:List UInt8)(b:UInt8):zX Tryz.prog 226 [.str s,.str [b]] (.int .i64 (Lib.indexByte s b)):=by
 refine zU.value0 (zF (P:=Tryz.prog) (fn:=Tryz.f226) Z Z kQ Z (fun c hR hfix=> ?_)) (fix:=fun _=>False) (fun _ h=>h) Z Z
 refine rn6 ?_
 refine zB Z (fun h=> ?_) (fun h=> ?_)
 ·refine rn6 ?_
  refine zM hR Z ?_
  subst h
  simp [zBs,Lib.indexByte]
 refine rn12 ?_
 refine zA Z Z Z (zP3 s b.toNat) (rn6 ?_)
 refine zM hR Z ?_
 simp [zBs]
theorem zNX (l:List UInt8)(b:UInt8):Lib.indexByte l b<l.length:=by
 induction l with
 |nil=>simp [Lib.indexByte]
 |cons c r ih=>
  rw [Lib.indexByte]
  simp only [List.length_cons]
  split
  ·omega
  ·split
   ·omega
   ·omega
theorem cutI (s:List UInt8)(b:UInt8)(h:s.length≤9223372036854775807):zX Tryz.prog 198 [.str s,.str [b]] (.tup [.str (zDW b s).1,.str (zDW b s).2.1,.bool (zDW b s).2.2]):=by
 have hc:=zK6 b s
 have hlt:=zNX s b
 have hge:=Lib.indexByte_ge s b
 have ci:=indexI1 s b
 refine zU.value0 (zF (P:=Tryz.prog) (fn:=Tryz.f198) Z Z kQ Z (fun c hR hfix=> ?_)) (fix:=fun _=>False) (fun _ h=>h) Z Z
 generalize Lib.indexByte s b=i at*
 refine rn0 ?_
 refine zA Z Z Z ci (rn7 ?_)
 refine zB Z (fun h0=> ?_) (fun h0=> ?_)
 ·rw [if_pos h0] at hc
  rw [hc] at hR
  have hb1:([b]:List UInt8).length=1:=rfl
  have hi1:(i+1).toNat=i.toNat+1:=kK
  repeat (refine zAL ?_)
  refine zEP kQ kQ Z (rn16 ?_)
  refine zM hR Z ?_
  simp [zBs,hi1]
  exact List.take_of_length_le kJ
 ·rw [if_neg h0] at hc
  rw [hc] at hR
  refine rn1 ?_
  exact zM hR Z Z
theorem cutS (s:List UInt8)(b:UInt8)(h:s.length≤9223372036854775807):zX Tryz.prog 149 [.str s,.str [b]] (.tup [.str (zDW b s).1,.str (zDW b s).2.1,.bool (zDW b s).2.2]):=by
 have ci:=cutI s b h
 refine zU.value0 (zF (P:=Tryz.prog) (fn:=Tryz.f149) Z Z kQ Z (fun c hR hfix=> ?_)) (fix:=fun _=>False) (fun _ h=>h) Z Z
 generalize zDW b s=q at*
 refine rn0 ?_
 refine zA Z Z Z ci (rn2 ?_)
 exact zM hR Z Z
theorem cutP1 (s p:List UInt8)(hs:s.length≤9223372036854775807)(hp:p.length≤9223372036854775807):zX Tryz.prog 197 [.str s,.str p] (.tup [.str (if zJU s p then s.drop p.length else s),.bool (zJU s p)]):=by
 have h1:=zRN s p hs hp
 refine zU.value0 (zF (P:=Tryz.prog) (fn:=Tryz.f197) Z Z kQ Z (fun c hR hfix=> ?_)) (fix:=fun _=>False) (fun _ h=>h) Z Z
 by_cases h:zJU s p=true
 ·have hle:p.length≤s.length:=by unfold zJU at h;exact (of_decide_eq_true h).1
  rw [h] at h1 hR
  refine rn0 ?_
  refine zA Z Z Z h1 (rn16 ?_)
  refine zM hR Z ?_
  simp only [zBs,Int.toNat_natCast]
  rw [List.take_of_length_le kJ]
  rfl
 ·rw [Bool.not_eq_true] at h
  rw [h] at h1 hR
  refine rn0 ?_
  refine zA Z Z Z h1 (rn5 ?_)
  exact zM hR Z Z
theorem cutP (s p:List UInt8)(hs:s.length≤9223372036854775807)(hp:p.length≤9223372036854775807):zX Tryz.prog 148 [.str s,.str p] (.tup [.str (if zJU s p then s.drop p.length else s),.bool (zJU s p)]):=by
 have h1:=cutP1 s p hs hp
 refine zU.value0 (zF (P:=Tryz.prog) (fn:=Tryz.f148) Z Z kQ Z (fun c hR hfix=> ?_)) (fix:=fun _=>False) (fun _ h=>h) Z Z
 generalize zJU s p=b at*
 refine rn0 ?_
 refine zA Z Z Z h1 (rn2 ?_)
 exact zM hR Z Z
end Go.Proofs.YtmpnheilfejcpaaGreatDoor
namespace Go.Proofs.YtmpnheilfejcpaaGreatDoor
open Go.Ax Go.Ax.Bg Go.Ax.Rt Go.RowKit
attribute [local irreducible] Ax zB2 QOp zU zBV
open Go.Ax.Tb (zDW zK6 zOL)
theorem zRM (s:List UInt8):zJU s [45]=zD0 s:=by
 unfold zJU zD0
 cases s with
 |nil=>rfl
 |cons c r=>simp
theorem zOB (s:List UInt8):(zE7 s).length≤s.length:=by
 unfold zE7;split
 ·simp
 ·exact Nat.le_refl _
theorem zSZ (s:List UInt8):(zE1 s).length≤s.length∧(zEz s).length≤s.length:=by
 have h:=zOL 47 (zE7 s)
 have h2:=zOB s
 unfold zE1 zEz
 omega
theorem cutNeg (s:List UInt8)(hs:s.length≤9223372036854775807):zX Tryz.prog 148 [.str s,.str [45]] (.tup [.str (zE7 s),.bool (zD0 s)]):=by
 have h:=cutP s [45] hs kV
 rw [zRM] at h
 exact h
theorem cutBar (s:List UInt8)(hs:s.length≤9223372036854775807):zX Tryz.prog 149 [.str (zE7 s),.str [47]] (.tup [.str (zE1 s),.str (zEz s),.bool (zHN s)]):=
 cutS (zE7 s) 47 (Nat.le_trans (zOB s) hs)
theorem zEt (s:List UInt8)(hs:s.length≤9223372036854775807)(h:zDH s=0):zX Tryz.prog 75 [.str s] (qA (zAG s)):=by
 have hp:=zGn h
 have h1:=cutNeg s kK
 have h2:=cutBar s hs
 have h3:=zKo (zE1 s) hp.cn.2.1 (by have:=hp.ln;omega)
 have h4:=zFz (zD0 s) (zBL 0 (zE1 s))
 rw [←hp.num] at h4
 unfold qA
 rw [hp.den]
 cases e:zHN s
 ·rw [e] at h2
  rw [zH8 e,zOh]
  refine zU.value0 (zF (P:=Tryz.prog) (fn:=Tryz.f75) Z Z kQ Z (fun c hR hfix=> ?_)) (fix:=fun _=>False) (fun _ h=>h) Z Z
  refine rn4 ?_
  refine zA Z Z Z h1 (rn2 ?_)
  refine zA Z Z Z h2 (rn2 ?_)
  refine zA Z Z Z h3 ?_
  skip
  refine zA Z Z Z h4 ?_
  unfold zBF
  refine rn8 ?_
  refine sa1 (c':= .box [.bool (decide ((zAG s).num<0)),zm (zAG s).num.natAbs,.ro (.ints .u32 [1]) 0 1]) Z Z Z Z Z Z Z (rn6 ?_)
  refine sa1 (c':= .box [.bool (decide ((zAG s).num<0)),zm (zAG s).num.natAbs,.ro (.ints .u32 [1]) 0 1]) Z Z Z Z Z Z Z (rn0 ?_)
  exact zM hR Z Z
 ·rw [e] at h2
  rw [zGa e]
  have h5:=zKo (zEz s) (hp.cd e).1.2.1 (by have:=hp.ld;omega)
  refine zU.value0 (zF (P:=Tryz.prog) (fn:=Tryz.f75) Z Z kQ Z (fun c hR hfix=> ?_)) (fix:=fun _=>False) (fun _ h=>h) Z Z
  refine rn4 ?_
  refine zA Z Z Z h1 (rn2 ?_)
  refine zA Z Z Z h2 (rn2 ?_)
  refine zA Z Z Z h3 ?_
  skip
  refine zA Z Z Z h4 ?_
  unfold zBF
  refine rn8 ?_
  refine sa1 (c':= .box [.bool (decide ((zAG s).num<0)),zm (zAG s).num.natAbs,.ro (.ints .u32 [1]) 0 1]) Z Z Z Z Z Z Z (rn5 ?_)
  refine zA Z Z Z h5 (rn9 ?_)
  refine sa1 (c':= .box [.bool (decide ((zAG s).num<0)),zm (zAG s).num.natAbs,zm (zBL 0 (zEz s))]) Z Z Z Z Z Z Z (rn0 ?_)
  exact zM hR Z Z
theorem qtext_ok (q:Rat)(hq:Sz 100000 q):zX Tryz.prog 182 [qA q] (.str (zr q)):=by
 have h1:=zKt q.num.natAbs (by have:=hq.1;omega)
 have h2:=one_ok q.den
 have h3:=zKt q.den (by have:=hq.2;omega)
 unfold zr
 have l1:=zD9 hq.1 kV
 have l2:=zD9 hq.2 kV
 refine zU.value0 (zF (P:=Tryz.prog) (fn:=Tryz.f182) Z Z kQ Z (fun c hR hfix=> ?_)) (fix:=fun _=>False) (fun _ h=>h) Z Z
 by_cases hn:q.num<0<;>by_cases hd:q.den=1
 ·rw [if_pos hn,if_pos hd] at hR
  rw [decide_eq_true hd] at h2
  unfold qA
  rw [decide_eq_true hn]
  refine rn6 ?_
  refine zA Z Z Z h1 (rn5 ?_)
  refine zL (zFk Z Z (by show ([45]:List UInt8).length+_≤_;simp only [List.length_cons,List.length_nil,List.length_append];omega)) (rn5 ?_)
  refine zA Z Z Z h2 (rn5 ?_)
  refine zM hR Z ?_
  simp [zBs]
 ·rw [if_pos hn,if_neg hd] at hR
  rw [decide_eq_false hd] at h2
  unfold qA
  rw [decide_eq_true hn]
  refine rn6 ?_
  refine zA Z Z Z h1 (rn5 ?_)
  refine zL (zFk Z Z (by show ([45]:List UInt8).length+_≤_;simp only [List.length_cons,List.length_nil,List.length_append];omega)) (rn5 ?_)
  refine zA Z Z Z h2 (rn5 ?_)
  refine zA Z Z Z h3 ?_
  skip
  refine zL (zFk Z Z (by show ([47]:List UInt8).length+_≤_;simp only [List.length_cons,List.length_nil,List.length_append];omega)) ?_
  refine zL (zFk (b:=47::Lib.decDigits q.den) Z Z (by simp only [List.length_cons,List.length_nil,List.length_append];omega)) (rn0 ?_)
  refine zM hR Z ?_
  simp [zBs]
 ·rw [if_neg hn,if_pos hd] at hR
  rw [decide_eq_true hd] at h2
  unfold qA
  rw [decide_eq_false hn]
  refine rn6 ?_
  refine zA Z Z Z h1 (rn5 ?_)
  refine zA Z Z Z h2 (rn5 ?_)
  refine zM hR Z ?_
  simp [zBs]
 ·rw [if_neg hn,if_neg hd] at hR
  rw [decide_eq_false hd] at h2
  unfold qA
  rw [decide_eq_false hn]
  refine rn6 ?_
  refine zA Z Z Z h1 (rn5 ?_)
  refine zA Z Z Z h2 (rn5 ?_)
  refine zA Z Z Z h3 ?_
  skip
  refine zL (zFk Z Z (by show ([47]:List UInt8).length+_≤_;simp only [List.length_cons,List.length_nil,List.length_append];omega)) ?_
  refine zL (zFk (b:=47::Lib.decDigits q.den) Z Z (by simp only [List.length_cons,List.length_nil,List.length_append];omega)) (rn0 ?_)
  refine zM hR Z ?_
  simp [zBs]
end Go.Proofs.YtmpnheilfejcpaaGreatDoor
