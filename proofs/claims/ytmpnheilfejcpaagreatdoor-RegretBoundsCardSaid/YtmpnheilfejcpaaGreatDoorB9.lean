import Derived.Test.YtmpnheilfejcpaaGreatDoorB8
set_option linter.unusedVariables false
set_option linter.unusedSimpArgs false
set_option maxRecDepth 100000
set_option maxHeartbeats 4000000
namespace Go.Proofs.YtmpnheilfejcpaaGreatDoor
open Go.Ax Go.Ax.Bg Go.Ax.Rt Go.RowKit Go.Ax.Idx Go.Ax.Cd
attribute [local irreducible] Ax zB2 QOp zU zBV
def zD6 (m:List (List zAA))(l:zB1):(List zAA×List zAA)×Int:=
 if zDE m l≠0 then (([],[]),zDE m l) else if l=[] then (([],[]),8)
 else zGR ((zFG Prod.fst l m.length).map (fun q=>q/(l.length:Rat))) ((zFG Prod.snd l (zS m)).map (fun q=>q/(l.length:Rat)))
theorem nat_D3 {n:Nat}(h:n<1000):D 3 (n:Rat):=by
 refine ⟨?_,?_⟩
 ·rw [←Rat.intCast_natCast]
  show (n:Int).natAbs<_
  rw [Int.natAbs_natCast];exact h
 ·rw [←Rat.intCast_natCast]
  show 1<_
  decide
theorem zPZ (m:List (List zAA))(l:zB1)(hll:l.length≤9223372036854775807)(hlen:m.length≤9223372036854775807)(hr: ∀r∈m,r.length≤9223372036854775807∧ ∀s∈r,s.length≤9223372036854775807):zX Tryz.prog 52 [.ro (zA9 m) 0 m.length,.ro (zx l) 0 l.length] (zK1 (zD6 m l)):=by
 have ch:=zKi m l hll hlen hr
 refine zU.value0 (zF (P:=Tryz.prog) (fn:=Tryz.f52) Z Z kQ Z (fun c hR hfix=> ?_)) (fix:=fun _=>False) (fun _ h=>h) Z Z
 refine rn0 ?_
 refine zA Z Z Z ch (rn3 ?_)
 refine zB Z (fun hE=> ?_) (fun hE=> ?_)
 ·have e:zD6 m l=(([],[]),zDE m l):=by unfold zD6;rw [if_pos hE]
  rw [e] at hR
  refine rn7 ?_
  refine zv 4 (.ro (.strs []) 0 0) Z AEq.nil ?_
  refine zv 5 (.ro (.strs []) 0 0) Z AEq.nil (rn2 ?_)
  exact zM hR Z Z
 have hE':=Classical.not_not.1 hE
 refine rn4 ?_
 refine zB Z (fun h2=> ?_) (fun h2=> ?_)
 ·have hn:l=[]:=List.length_eq_zero_iff.1 kK
  have e:zD6 m l=(([],[]),8):=by unfold zD6;rw [if_neg hE,if_pos hn]
  rw [e] at hR
  refine rn7 ?_
  refine zv 4 (.ro (.strs []) 0 0) Z AEq.nil ?_
  refine zv 5 (.ro (.strs []) 0 0) Z AEq.nil (rn2 ?_)
  exact zM hR Z Z
 have hn: ¬l=[]:=by rintro rfl;exact h2 rfl
 have e:zD6 m l=zGR ((zFG Prod.fst l m.length).map (fun q=>q/(l.length:Rat))) ((zFG Prod.snd l (zS m)).map (fun q=>q/(l.length:Rat))):=by unfold zD6;rw [if_neg hE,if_neg hn]
 rw [e] at hR
 obtain ⟨hg,hl,hin⟩:=zDo hE'
 obtain ⟨g1,g2,g3,g4,g5⟩:=zB3 hg
 have cc:=zMP m l g2 g5 g4 hl hin
 have d1:=zH3 Prod.fst l m.length hl
 have d2:=zH3 Prod.snd l (zS m) hl
 have n1:=zGV Prod.fst l m.length
 have n2:=zGV Prod.snd l (zS m)
 have hlp:0<l.length:=List.length_pos_iff.2 hn
 generalize zFG Prod.fst l m.length=A at*
 generalize zFG Prod.snd l (zS m)=B at*
 have hnD:D 3 (l.length:Rat):=nat_D3 kK
 have hn0:(l.length:Rat)≠0:=by
  rw [←Rat.intCast_natCast]
  exact zG2 kK
 have p1:=zLM A l.length kK kK (fun q hq=>zBj (m:=100000) ((d1 q hq).mono kK))
 have p2:=zLM B l.length kK kK (fun q hq=>zBj (m:=100000) ((d2 q hq).mono kK))
 have cb:=zQj (A.map (fun q=>q/(l.length:Rat))) (B.map (fun q=>q/(l.length:Rat))) (by rw [List.length_map];omega) (by rw [List.length_map];omega)
  (fun q hq=>by obtain ⟨z,hz,rfl⟩:=List.mem_map.1 hq;exact zBj (m:=100000) (((d1 z hz).div hnD hn0).mono kK))
  (fun q hq=>by obtain ⟨z,hz,rfl⟩:=List.mem_map.1 hq;exact zBj (m:=100000) (((d2 z hz).div hnD hn0).mono kK))
 rw [List.length_map,List.length_map,n1,n2] at cb
 rw [n1] at p1
 rw [n2] at p2
 refine rn1 ?_
 refine zA Z Z Z cc (rn3 ?_)
 refine zA Z Z Z p1 (rn3 ?_)
 refine zA Z Z Z p2 ?_
 skip
 refine zA Z Z Z cb ?_
 unfold zK1
 refine rn2 ?_
 exact zM hR Z Z
def zKb (p:(zAA×zAA)×Int):AV:= .tup [.str p.1.1,.str p.1.2,.int .i64 p.2]
theorem zMJ (m:List (List zAA))(l:zB1)(hll:l.length≤9223372036854775807)(hlen:m.length≤9223372036854775807)(hr: ∀r∈m,r.length≤9223372036854775807∧ ∀s∈r,s.length≤9223372036854775807):zX Tryz.prog 16 [.ro (zA9 m) 0 m.length,.ro (zx l) 0 l.length] (zKb (zBB m l)):=by
 have ch:=zKi m l hll hlen hr
 refine zU.value0 (zF (P:=Tryz.prog) (fn:=Tryz.f16) Z Z kQ Z (fun c hR hfix=> ?_)) (fix:=fun _=>False) (fun _ h=>h) Z Z
 refine rn0 ?_
 refine zA Z Z Z ch (rn3 ?_)
 refine zB Z (fun hE=> ?_) (fun hE=> ?_)
 ·have e:zBB m l=(([],[]),zDE m l):=by unfold zBB;rw [if_pos hE]
  rw [e] at hR
  refine rn2 ?_
  exact zM hR Z Z
 have hE':=Classical.not_not.1 hE
 refine rn4 ?_
 refine zB Z (fun h2=> ?_) (fun h2=> ?_)
 ·have hn:l=[]:=List.length_eq_zero_iff.1 kK
  have e:zBB m l=(([],[]),8):=by unfold zBB;rw [if_neg hE,if_pos hn]
  rw [e] at hR
  refine rn2 ?_
  exact zM hR Z Z
 have hn: ¬l=[]:=by rintro rfl;exact h2 rfl
 have e:zBB m l=if zBd (lowQ (inM m) l (zS m)/(l.length:Nat)) && zBd (zIV (inM m) l (zS m)/(l.length:Nat)) then ((zr (lowQ (inM m) l (zS m)/(l.length:Nat)),zr (zIV (inM m) l (zS m)/(l.length:Nat))),0) else (([],[]),2):=by unfold zBB;rw [if_neg hE,if_neg hn]
 have eL:lowQ (inM m) l (zS m)=(zEm (inM m) l (zS m)).getD (zAz (-1) (zEm (inM m) l (zS m)) (zS m)) 0:=rfl
 have eH:zIV (inM m) l (zS m)=(zFB (inM m) l (zS m)).getD (zAz 1 (zFB (inM m) l (zS m)) m.length) 0:=by unfold zIV;rw [zB7]
 rw [e] at hR
 obtain ⟨hg,hl,hin⟩:=zDo hE'
 obtain ⟨g1,g2,g3,g4,g5⟩:=zB3 hg
 have hm1:0<m.length:=by cases m with|nil=>exact absurd rfl g5|cons _ _=>exact Nat.succ_pos _
 have cs:=zRd m l hE' hr
 obtain ⟨dr,dc⟩:=zRV hE'
 have lr:=zMx (inM m) l (zS m)
 have lc:=zMO (inM m) l (zS m)
 rw [zB7] at lr
 have hlp:0<l.length:=List.length_pos_iff.2 hn
 generalize lowQ (inM m) l (zS m)=low at*
 generalize zIV (inM m) l (zS m)=high at*
 generalize zFB (inM m) l (zS m)=R at*
 generalize zEm (inM m) l (zS m)=C at*
 have b1:=zJa C (-1) (.inr rfl) kK (fun q hq=>zBj (m:=100000) ((dc q hq).mono kK))
 have b2:=zJa R 1 (.inl rfl) kK (fun q hq=>zBj (m:=100000) ((dr q hq).mono kK))
 rw [lc] at b1
 rw [lr] at b2
 have k1:zAz (-1) C (zS m)<C.length:=by rw [lc];exact zJA _ _ _ g3
 have k2:zAz 1 R m.length<R.length:=by rw [lr];exact zJA _ _ _ kK
 have dL:D 24049 low:=by rw [eL];exact dc _ (z8 0 k1)
 have dH:D 24049 high:=by rw [eH];exact dr _ (z8 0 k2)
 generalize zAz (-1) C (zS m)=i1 at*
 generalize zAz 1 R m.length=i2 at*
 have hnD:D 3 (l.length:Rat):=nat_D3 kK
 have hn0:(l.length:Rat)≠0:=by
  rw [←Rat.intCast_natCast]
  exact zG2 kK
 have cp:=zLM [low,high] l.length kK (by show 2≤1000000;omega) (fun q hq=>by
  simp at hq
  rcases hq with rfl|rfl
  ·exact zBj (m:=100000) (dL.mono kK)
  ·exact zBj (m:=100000) (dH.mono kK))
 obtain ⟨r,co,er⟩:=zGj [low/(l.length:Rat),high/(l.length:Rat)] (by show 2≤1000000;omega) (fun q hq=>by
  simp at hq
  rcases hq with rfl|rfl
  ·exact zBj (m:=100000) ((dL.div hnD hn0).mono kK)
  ·exact zBj (m:=100000) ((dH.div hnD hn0).mono kK))
 have eO:zBC [low/(l.length:Rat),high/(l.length:Rat)]=if (zBd (low/(l.length:Rat)) && zBd (high/(l.length:Rat)))=true then ([zr (low/(l.length:Rat)),zr (high/(l.length:Rat))],0) else ([],2):=by
  unfold zBC
  simp only [List.all_cons,List.all_nil,Bool.and_true,List.map_cons,List.map_nil]
 refine rn1 ?_
 refine zGQ (.tup [.sl 0 0 m.length,.sl 1 0 (zS m)]) [some ⟨118,qsC R⟩,some ⟨118,qsC C⟩] Z Z Z cs Z (by simp only [zC5,zIx,zPG];rfl) ?_
 refine zEW ?_
 refine zAC 0 8 m.length [(1,.ro (zx l) 0 l.length),(9,.sl 1 0 (zS m))] Z (zAT _) Z (by show _≤R.length;omega) ⟨Z,Z,trivial⟩ ?_
 refine zAC 1 9 (zS m) [(1,.ro (zx l) 0 l.length),(8,.ro (qsC R) 0 m.length)] Z (zAT _) Z (by show _≤C.length;omega) ⟨Z,Z,trivial⟩ ?_
 refine zA2 (H1:=[none]) Z (by rw [hfix];exact fun h=>h) ?_
 refine zA2 (H1:=[]) Z (by rw [hfix];exact fun h=>h) ?_
 skip
 refine zZ kQ ?_
 refine zR 0 Z kQ kQ kQ Z (zH Z) Z ?_
 refine zR 1 Z kQ kQ kQ Z (zH Z) Z ?_
 refine zR 5 Z kQ kQ kQ Z (zH Z) Z ?_
 refine zR 6 Z kQ kQ kQ Z (zH Z) Z ?_
 apply zn [(1,.ro (zx l) 0 l.length),(11,.ptr 0 0 0),(10,.ptr 1 0 0)]
 ·intro fin40
  apply zn [(1,.ro (zx l) 0 l.length),(10,.ptr 0 0 0),(11,.ptr 1 0 0)]
  ·intro fin39
   apply zn [(1,.ro (zx l) 0 l.length),(29,.ro (qsC C) 0 (zS m)),(30,.ro (qsC C) 0 (zS m)),(34,.ro (qsC R) 0 m.length),(35,.ro (qsC R) 0 m.length),(32,.rp (qsC C) i1 0),(33,.agg (zJ low)),(37,.rp (qsC R) i2 0),(38,.agg (zJ high)),(11,.ptr 0 0 0),(10,.ptr 1 0 0)]
   ·intro fin38
    apply zn [(1,.ro (zx l) 0 l.length),(29,.ro (qsC C) 0 (zS m)),(30,.ro (qsC C) 0 (zS m)),(34,.ro (qsC R) 0 m.length),(35,.ro (qsC R) 0 m.length),(32,.rp (qsC C) i1 0),(33,.agg (zJ low)),(37,.rp (qsC R) i2 0),(38,.agg (zJ high)),(10,.ptr 0 0 0),(11,.ptr 1 0 0)]
    ·intro fin37
     apply zn [(1,.ro (zx l) 0 l.length),(29,.ro (qsC C) 0 (zS m)),(30,.ro (qsC C) 0 (zS m)),(34,.ro (qsC R) 0 m.length),(35,.ro (qsC R) 0 m.length),(32,.rp (qsC C) i1 0),(33,.agg (zJ low)),(37,.rp (qsC R) i2 0),(38,.agg (zJ high)),(11,.ptr 0 0 0),(10,.ptr 1 0 0)]
     ·intro fin36
      apply zn [(1,.ro (zx l) 0 l.length),(29,.ro (qsC C) 0 (zS m)),(30,.ro (qsC C) 0 (zS m)),(34,.ro (qsC R) 0 m.length),(35,.ro (qsC R) 0 m.length),(32,.rp (qsC C) i1 0),(33,.agg (zJ low)),(37,.rp (qsC R) i2 0),(38,.agg (zJ high)),(10,.ptr 0 0 0),(11,.ptr 1 0 0)]
      ·intro fin35
       apply zn [(1,.ro (zx l) 0 l.length),(29,.ro (qsC C) 0 (zS m)),(30,.ro (qsC C) 0 (zS m)),(34,.ro (qsC R) 0 m.length),(35,.ro (qsC R) 0 m.length),(32,.rp (qsC C) i1 0),(33,.agg (zJ low)),(37,.rp (qsC R) i2 0),(11,.ptr 0 0 0),(10,.ptr 1 0 0)]
       ·intro fin34
        apply zn [(1,.ro (zx l) 0 l.length),(29,.ro (qsC C) 0 (zS m)),(30,.ro (qsC C) 0 (zS m)),(34,.ro (qsC R) 0 m.length),(35,.ro (qsC R) 0 m.length),(32,.rp (qsC C) i1 0),(33,.agg (zJ low)),(37,.rp (qsC R) i2 0),(10,.ptr 0 0 0),(11,.ptr 1 0 0)]
        ·intro fin33
         apply zn [(1,.ro (zx l) 0 l.length),(29,.ro (qsC C) 0 (zS m)),(30,.ro (qsC C) 0 (zS m)),(34,.ro (qsC R) 0 m.length),(35,.ro (qsC R) 0 m.length),(32,.rp (qsC C) i1 0),(37,.rp (qsC R) i2 0),(38,.agg (zJ high)),(11,.ptr 0 0 0),(10,.ptr 1 0 0)]
         ·intro fin32
          apply zn [(1,.ro (zx l) 0 l.length),(29,.ro (qsC C) 0 (zS m)),(30,.ro (qsC C) 0 (zS m)),(34,.ro (qsC R) 0 m.length),(35,.ro (qsC R) 0 m.length),(32,.rp (qsC C) i1 0),(37,.rp (qsC R) i2 0),(38,.agg (zJ high)),(10,.ptr 0 0 0),(11,.ptr 1 0 0)]
          ·intro fin31
           apply zn [(1,.ro (zx l) 0 l.length),(29,.ro (qsC C) 0 (zS m)),(30,.ro (qsC C) 0 (zS m)),(34,.ro (qsC R) 0 m.length),(35,.ro (qsC R) 0 m.length),(32,.rp (qsC C) i1 0),(33,.agg (zJ low)),(37,.rp (qsC R) i2 0),(38,.agg (zJ high)),(11,.ptr 0 0 0)]
           ·intro fin30
            apply zn [(1,.ro (zx l) 0 l.length),(29,.ro (qsC C) 0 (zS m)),(30,.ro (qsC C) 0 (zS m)),(34,.ro (qsC R) 0 m.length),(35,.ro (qsC R) 0 m.length),(32,.rp (qsC C) i1 0),(33,.agg (zJ low)),(37,.rp (qsC R) i2 0),(38,.agg (zJ high)),(10,.ptr 0 0 0)]
            ·intro fin29
             apply zn [(1,.ro (zx l) 0 l.length),(29,.ro (qsC C) 0 (zS m)),(30,.ro (qsC C) 0 (zS m)),(34,.ro (qsC R) 0 m.length),(35,.ro (qsC R) 0 m.length),(32,.rp (qsC C) i1 0),(33,.agg (zJ low)),(37,.rp (qsC R) i2 0),(11,.ptr 0 0 0),(10,.ptr 1 0 0)]
             ·intro fin28
              apply zn [(1,.ro (zx l) 0 l.length),(29,.ro (qsC C) 0 (zS m)),(30,.ro (qsC C) 0 (zS m)),(34,.ro (qsC R) 0 m.length),(35,.ro (qsC R) 0 m.length),(32,.rp (qsC C) i1 0),(33,.agg (zJ low)),(37,.rp (qsC R) i2 0),(10,.ptr 0 0 0),(11,.ptr 1 0 0)]
              ·intro fin27
               apply zn [(1,.ro (zx l) 0 l.length),(29,.ro (qsC C) 0 (zS m)),(30,.ro (qsC C) 0 (zS m)),(34,.ro (qsC R) 0 m.length),(35,.ro (qsC R) 0 m.length),(32,.rp (qsC C) i1 0),(37,.rp (qsC R) i2 0),(38,.agg (zJ high)),(11,.ptr 0 0 0)]
               ·intro fin26
                apply zn [(1,.ro (zx l) 0 l.length),(29,.ro (qsC C) 0 (zS m)),(30,.ro (qsC C) 0 (zS m)),(34,.ro (qsC R) 0 m.length),(35,.ro (qsC R) 0 m.length),(32,.rp (qsC C) i1 0),(37,.rp (qsC R) i2 0),(38,.agg (zJ high)),(10,.ptr 0 0 0)]
                ·intro fin25
                 apply zn [(1,.ro (zx l) 0 l.length),(29,.ro (qsC C) 0 (zS m)),(30,.ro (qsC C) 0 (zS m)),(34,.ro (qsC R) 0 m.length),(35,.ro (qsC R) 0 m.length),(32,.rp (qsC C) i1 0),(37,.rp (qsC R) i2 0),(11,.ptr 0 0 0),(10,.ptr 1 0 0)]
                 ·intro fin24
                  apply zn [(1,.ro (zx l) 0 l.length),(29,.ro (qsC C) 0 (zS m)),(30,.ro (qsC C) 0 (zS m)),(34,.ro (qsC R) 0 m.length),(35,.ro (qsC R) 0 m.length),(32,.rp (qsC C) i1 0),(37,.rp (qsC R) i2 0),(10,.ptr 0 0 0),(11,.ptr 1 0 0)]
                  ·intro fin23
                   apply zn [(1,.ro (zx l) 0 l.length),(29,.ro (qsC C) 0 (zS m)),(30,.ro (qsC C) 0 (zS m)),(34,.ro (qsC R) 0 m.length),(35,.ro (qsC R) 0 m.length),(32,.rp (qsC C) i1 0),(33,.agg (zJ low)),(37,.rp (qsC R) i2 0),(38,.agg (zJ high))]
                   ·intro fin22
                    apply zn [(1,.ro (zx l) 0 l.length),(29,.ro (qsC C) 0 (zS m)),(30,.ro (qsC C) 0 (zS m)),(34,.ro (qsC R) 0 m.length),(35,.ro (qsC R) 0 m.length),(32,.rp (qsC C) i1 0),(33,.agg (zJ low)),(37,.rp (qsC R) i2 0),(11,.ptr 0 0 0)]
                    ·intro fin21
                     apply zn [(1,.ro (zx l) 0 l.length),(29,.ro (qsC C) 0 (zS m)),(30,.ro (qsC C) 0 (zS m)),(34,.ro (qsC R) 0 m.length),(35,.ro (qsC R) 0 m.length),(32,.rp (qsC C) i1 0),(33,.agg (zJ low)),(37,.rp (qsC R) i2 0),(10,.ptr 0 0 0)]
                     ·intro fin20
                      apply zn [(1,.ro (zx l) 0 l.length),(29,.ro (qsC C) 0 (zS m)),(30,.ro (qsC C) 0 (zS m)),(34,.ro (qsC R) 0 m.length),(35,.ro (qsC R) 0 m.length),(32,.rp (qsC C) i1 0),(33,.agg (zJ low)),(11,.ptr 0 0 0),(10,.ptr 1 0 0)]
                      ·intro fin19
                       apply zn [(1,.ro (zx l) 0 l.length),(29,.ro (qsC C) 0 (zS m)),(30,.ro (qsC C) 0 (zS m)),(34,.ro (qsC R) 0 m.length),(35,.ro (qsC R) 0 m.length),(32,.rp (qsC C) i1 0),(33,.agg (zJ low)),(10,.ptr 0 0 0),(11,.ptr 1 0 0)]
                       ·intro fin18
                        apply zn [(1,.ro (zx l) 0 l.length),(29,.ro (qsC C) 0 (zS m)),(30,.ro (qsC C) 0 (zS m)),(34,.ro (qsC R) 0 m.length),(35,.ro (qsC R) 0 m.length),(32,.rp (qsC C) i1 0),(11,.ptr 0 0 0),(10,.ptr 1 0 0)]
                        ·intro fin17
                         apply zn [(1,.ro (zx l) 0 l.length),(29,.ro (qsC C) 0 (zS m)),(30,.ro (qsC C) 0 (zS m)),(34,.ro (qsC R) 0 m.length),(35,.ro (qsC R) 0 m.length),(32,.rp (qsC C) i1 0),(10,.ptr 0 0 0),(11,.ptr 1 0 0)]
                         ·intro fin16
                          apply zn [(1,.ro (zx l) 0 l.length),(29,.ro (qsC C) 0 (zS m)),(30,.ro (qsC C) 0 (zS m)),(34,.ro (qsC R) 0 m.length),(35,.ro (qsC R) 0 m.length),(32,.rp (qsC C) i1 0),(37,.rp (qsC R) i2 0),(38,.agg (zJ high))]
                          ·intro fin15
                           apply zn [(1,.ro (zx l) 0 l.length),(29,.ro (qsC C) 0 (zS m)),(30,.ro (qsC C) 0 (zS m)),(34,.ro (qsC R) 0 m.length),(35,.ro (qsC R) 0 m.length),(32,.rp (qsC C) i1 0),(37,.rp (qsC R) i2 0),(11,.ptr 0 0 0)]
                           ·intro fin14
                            apply zn [(1,.ro (zx l) 0 l.length),(29,.ro (qsC C) 0 (zS m)),(30,.ro (qsC C) 0 (zS m)),(34,.ro (qsC R) 0 m.length),(35,.ro (qsC R) 0 m.length),(32,.rp (qsC C) i1 0),(37,.rp (qsC R) i2 0),(10,.ptr 0 0 0)]
                            ·intro fin13
                             apply zn [(1,.ro (zx l) 0 l.length),(29,.ro (qsC C) 0 (zS m)),(30,.ro (qsC C) 0 (zS m)),(34,.ro (qsC R) 0 m.length),(35,.ro (qsC R) 0 m.length),(32,.rp (qsC C) i1 0),(33,.agg (zJ low)),(37,.rp (qsC R) i2 0)]
                             ·intro fin12
                              apply zn [(1,.ro (zx l) 0 l.length),(29,.ro (qsC C) 0 (zS m)),(30,.ro (qsC C) 0 (zS m)),(34,.ro (qsC R) 0 m.length),(35,.ro (qsC R) 0 m.length),(32,.rp (qsC C) i1 0),(33,.agg (zJ low)),(11,.ptr 0 0 0)]
                              ·intro fin11
                               apply zn [(1,.ro (zx l) 0 l.length),(29,.ro (qsC C) 0 (zS m)),(30,.ro (qsC C) 0 (zS m)),(34,.ro (qsC R) 0 m.length),(35,.ro (qsC R) 0 m.length),(32,.rp (qsC C) i1 0),(33,.agg (zJ low)),(10,.ptr 0 0 0)]
                               ·intro fin10
                                apply zn [(1,.ro (zx l) 0 l.length),(29,.ro (qsC C) 0 (zS m)),(30,.ro (qsC C) 0 (zS m)),(34,.ro (qsC R) 0 m.length),(35,.ro (qsC R) 0 m.length),(32,.rp (qsC C) i1 0),(11,.ptr 0 0 0)]
                                ·intro fin9
                                 apply zn [(1,.ro (zx l) 0 l.length),(29,.ro (qsC C) 0 (zS m)),(30,.ro (qsC C) 0 (zS m)),(34,.ro (qsC R) 0 m.length),(35,.ro (qsC R) 0 m.length),(32,.rp (qsC C) i1 0),(10,.ptr 0 0 0)]
                                 ·intro fin8
                                  apply zn [(1,.ro (zx l) 0 l.length),(29,.ro (qsC C) 0 (zS m)),(30,.ro (qsC C) 0 (zS m)),(34,.ro (qsC R) 0 m.length),(35,.ro (qsC R) 0 m.length),(32,.rp (qsC C) i1 0),(37,.rp (qsC R) i2 0)]
                                  ·intro fin7
                                   apply zn [(1,.ro (zx l) 0 l.length),(29,.ro (qsC C) 0 (zS m)),(30,.ro (qsC C) 0 (zS m)),(34,.ro (qsC R) 0 m.length),(35,.ro (qsC R) 0 m.length),(32,.rp (qsC C) i1 0),(33,.agg (zJ low))]
                                   ·intro fin6
                                    apply zn [(1,.ro (zx l) 0 l.length),(29,.ro (qsC C) 0 (zS m)),(30,.ro (qsC C) 0 (zS m)),(34,.ro (qsC R) 0 m.length),(35,.ro (qsC R) 0 m.length),(11,.ptr 0 0 0),(10,.ptr 1 0 0)]
                                    ·intro fin5
                                     apply zn [(1,.ro (zx l) 0 l.length),(29,.ro (qsC C) 0 (zS m)),(30,.ro (qsC C) 0 (zS m)),(34,.ro (qsC R) 0 m.length),(35,.ro (qsC R) 0 m.length),(10,.ptr 0 0 0),(11,.ptr 1 0 0)]
                                     ·intro fin4
                                      apply zn [(1,.ro (zx l) 0 l.length),(29,.ro (qsC C) 0 (zS m)),(30,.ro (qsC C) 0 (zS m)),(34,.ro (qsC R) 0 m.length),(35,.ro (qsC R) 0 m.length),(32,.rp (qsC C) i1 0)]
                                      ·intro fin3
                                       apply zn [(1,.ro (zx l) 0 l.length),(29,.ro (qsC C) 0 (zS m)),(30,.ro (qsC C) 0 (zS m)),(34,.ro (qsC R) 0 m.length),(35,.ro (qsC R) 0 m.length),(11,.ptr 0 0 0)]
                                       ·intro fin2
                                        apply zn [(1,.ro (zx l) 0 l.length),(29,.ro (qsC C) 0 (zS m)),(30,.ro (qsC C) 0 (zS m)),(34,.ro (qsC R) 0 m.length),(35,.ro (qsC R) 0 m.length),(10,.ptr 0 0 0)]
                                        ·intro fin1
                                         refine zD (is:=[2,10,11]) kQ kJ Z ⟨fun o ho=> ?_,fun o ho=> ?_,fun o ho=> ?_,trivial⟩
                                         all_goals (cases ho)
                                         ·skip
                                          refine zA Z Z Z b1 (rn1 ?_)
                                          refine zR 3 Z kQ kQ kQ Z (zc Z Z Z Z (by first|(simp only [Nat.zero_add,Int.toNat_natCast,Int.toNat_zero];exact Z)|exact Z) kK) Z ?_
                                          exact fin3 _ ⟨Z,Z,Z,Z,Z,Z,trivial⟩
                                         ·refine rn4 ?_
                                          exact fin1 _ ⟨Z,Z,Z,Z,Z,Z,trivial⟩
                                         ·refine rn4 ?_
                                          exact fin2 _ ⟨Z,Z,Z,Z,Z,Z,trivial⟩
                                        ·refine zD (is:=[2,11]) kQ kJ Z ⟨fun o ho=> ?_,fun o ho=> ?_,trivial⟩
                                         all_goals (cases ho)
                                         ·skip
                                          refine zA Z Z Z b1 (rn1 ?_)
                                          refine zR 3 Z kQ kQ kQ Z (zc Z Z Z Z (by first|(simp only [Nat.zero_add,Int.toNat_natCast,Int.toNat_zero];exact Z)|exact Z) kK) Z ?_
                                          exact fin8 _ ⟨Z,Z,Z,Z,Z,Z,Z,trivial⟩
                                         ·refine rn4 ?_
                                          exact fin4 _ ⟨Z,Z,Z,Z,Z,Z,Z,trivial⟩
                                       ·refine zD (is:=[2,10]) kQ kJ Z ⟨fun o ho=> ?_,fun o ho=> ?_,trivial⟩
                                        all_goals (cases ho)
                                        ·skip
                                         refine zA Z Z Z b1 (rn1 ?_)
                                         refine zR 3 Z kQ kQ kQ Z (zc Z Z Z Z (by first|(simp only [Nat.zero_add,Int.toNat_natCast,Int.toNat_zero];exact Z)|exact Z) kK) Z ?_
                                         exact fin9 _ ⟨Z,Z,Z,Z,Z,Z,Z,trivial⟩
                                        ·refine rn4 ?_
                                         exact fin5 _ ⟨Z,Z,Z,Z,Z,Z,Z,trivial⟩
                                      ·refine zD (is:=[4,7,10,11]) kQ kJ Z ⟨fun o ho=> ?_,fun o ho=> ?_,fun o ho=> ?_,fun o ho=> ?_,trivial⟩
                                       all_goals (cases ho)
                                       ·refine rn6 ?_
                                        refine zAB 33 (.agg (zJ low)) Z (AEq.of_eq (by rw [eL];rfl)) ?_
                                        exact fin6 _ ⟨Z,Z,Z,Z,Z,Z,Z,trivial⟩
                                       ·skip
                                        refine zA Z Z Z b2 (rn1 ?_)
                                        refine zR 8 Z kQ kQ kQ Z (zc Z Z Z Z (by first|(simp only [Nat.zero_add,Int.toNat_natCast,Int.toNat_zero];exact Z)|exact Z) kK) Z ?_
                                        exact fin7 _ ⟨Z,Z,Z,Z,Z,Z,Z,trivial⟩
                                       ·refine rn4 ?_
                                        exact fin8 _ ⟨Z,Z,Z,Z,Z,Z,Z,trivial⟩
                                       ·refine rn4 ?_
                                        exact fin9 _ ⟨Z,Z,Z,Z,Z,Z,Z,trivial⟩
                                     ·refine zD (is:=[2]) kQ kJ Z ⟨fun o ho=> ?_,trivial⟩
                                      all_goals (cases ho)
                                      ·skip
                                       refine zA Z Z Z b1 (rn1 ?_)
                                       refine zR 3 Z kQ kQ kQ Z (zc Z Z Z Z (by first|(simp only [Nat.zero_add,Int.toNat_natCast,Int.toNat_zero];exact Z)|exact Z) kK) Z ?_
                                       exact fin16 _ ⟨Z,Z,Z,Z,Z,Z,Z,Z,trivial⟩
                                    ·refine zD (is:=[2]) kQ kJ Z ⟨fun o ho=> ?_,trivial⟩
                                     all_goals (cases ho)
                                     ·skip
                                      refine zA Z Z Z b1 (rn1 ?_)
                                      refine zR 3 Z kQ kQ kQ Z (zc Z Z Z Z (by first|(simp only [Nat.zero_add,Int.toNat_natCast,Int.toNat_zero];exact Z)|exact Z) kK) Z ?_
                                      exact fin17 _ ⟨Z,Z,Z,Z,Z,Z,Z,Z,trivial⟩
                                   ·refine zD (is:=[7,10,11]) kQ kJ Z ⟨fun o ho=> ?_,fun o ho=> ?_,fun o ho=> ?_,trivial⟩
                                    all_goals (cases ho)
                                    ·skip
                                     refine zA Z Z Z b2 (rn1 ?_)
                                     refine zR 8 Z kQ kQ kQ Z (zc Z Z Z Z (by first|(simp only [Nat.zero_add,Int.toNat_natCast,Int.toNat_zero];exact Z)|exact Z) kK) Z ?_
                                     exact fin12 _ ⟨Z,Z,Z,Z,Z,Z,Z,Z,trivial⟩
                                    ·refine rn4 ?_
                                     exact fin10 _ ⟨Z,Z,Z,Z,Z,Z,Z,Z,trivial⟩
                                    ·refine rn4 ?_
                                     exact fin11 _ ⟨Z,Z,Z,Z,Z,Z,Z,Z,trivial⟩
                                  ·refine zD (is:=[4,9,10,11]) kQ kJ Z ⟨fun o ho=> ?_,fun o ho=> ?_,fun o ho=> ?_,fun o ho=> ?_,trivial⟩
                                   all_goals (cases ho)
                                   ·refine rn6 ?_
                                    refine zAB 33 (.agg (zJ low)) Z (AEq.of_eq (by rw [eL];rfl)) ?_
                                    exact fin12 _ ⟨Z,Z,Z,Z,Z,Z,Z,Z,trivial⟩
                                   ·refine rn6 ?_
                                    refine zAB 38 (.agg (zJ high)) Z (AEq.of_eq (by rw [eH];rfl)) ?_
                                    exact fin15 _ ⟨Z,Z,Z,Z,Z,Z,Z,Z,trivial⟩
                                   ·refine rn4 ?_
                                    exact fin13 _ ⟨Z,Z,Z,Z,Z,Z,Z,Z,trivial⟩
                                   ·refine rn4 ?_
                                    exact fin14 _ ⟨Z,Z,Z,Z,Z,Z,Z,Z,trivial⟩
                                 ·refine zD (is:=[4,7,11]) kQ kJ Z ⟨fun o ho=> ?_,fun o ho=> ?_,fun o ho=> ?_,trivial⟩
                                  all_goals (cases ho)
                                  ·refine rn6 ?_
                                   refine zAB 33 (.agg (zJ low)) Z (AEq.of_eq (by rw [eL];rfl)) ?_
                                   exact fin10 _ ⟨Z,Z,Z,Z,Z,Z,Z,Z,trivial⟩
                                  ·skip
                                   refine zA Z Z Z b2 (rn1 ?_)
                                   refine zR 8 Z kQ kQ kQ Z (zc Z Z Z Z (by first|(simp only [Nat.zero_add,Int.toNat_natCast,Int.toNat_zero];exact Z)|exact Z) kK) Z ?_
                                   exact fin13 _ ⟨Z,Z,Z,Z,Z,Z,Z,Z,trivial⟩
                                  ·refine rn4 ?_
                                   exact fin16 _ ⟨Z,Z,Z,Z,Z,Z,Z,Z,trivial⟩
                                ·refine zD (is:=[4,7,10]) kQ kJ Z ⟨fun o ho=> ?_,fun o ho=> ?_,fun o ho=> ?_,trivial⟩
                                 all_goals (cases ho)
                                 ·refine rn6 ?_
                                  refine zAB 33 (.agg (zJ low)) Z (AEq.of_eq (by rw [eL];rfl)) ?_
                                  exact fin11 _ ⟨Z,Z,Z,Z,Z,Z,Z,Z,trivial⟩
                                 ·skip
                                  refine zA Z Z Z b2 (rn1 ?_)
                                  refine zR 8 Z kQ kQ kQ Z (zc Z Z Z Z (by first|(simp only [Nat.zero_add,Int.toNat_natCast,Int.toNat_zero];exact Z)|exact Z) kK) Z ?_
                                  exact fin14 _ ⟨Z,Z,Z,Z,Z,Z,Z,Z,trivial⟩
                                 ·refine rn4 ?_
                                  exact fin17 _ ⟨Z,Z,Z,Z,Z,Z,Z,Z,trivial⟩
                               ·refine zD (is:=[7,11]) kQ kJ Z ⟨fun o ho=> ?_,fun o ho=> ?_,trivial⟩
                                all_goals (cases ho)
                                ·skip
                                 refine zA Z Z Z b2 (rn1 ?_)
                                 refine zR 8 Z kQ kQ kQ Z (zc Z Z Z Z (by first|(simp only [Nat.zero_add,Int.toNat_natCast,Int.toNat_zero];exact Z)|exact Z) kK) Z ?_
                                 exact fin20 _ ⟨Z,Z,Z,Z,Z,Z,Z,Z,Z,trivial⟩
                                ·refine rn4 ?_
                                 exact fin18 _ ⟨Z,Z,Z,Z,Z,Z,Z,Z,Z,trivial⟩
                              ·refine zD (is:=[7,10]) kQ kJ Z ⟨fun o ho=> ?_,fun o ho=> ?_,trivial⟩
                               all_goals (cases ho)
                               ·skip
                                refine zA Z Z Z b2 (rn1 ?_)
                                refine zR 8 Z kQ kQ kQ Z (zc Z Z Z Z (by first|(simp only [Nat.zero_add,Int.toNat_natCast,Int.toNat_zero];exact Z)|exact Z) kK) Z ?_
                                exact fin21 _ ⟨Z,Z,Z,Z,Z,Z,Z,Z,Z,trivial⟩
                               ·refine rn4 ?_
                                exact fin19 _ ⟨Z,Z,Z,Z,Z,Z,Z,Z,Z,trivial⟩
                             ·refine zD (is:=[9,10,11]) kQ kJ Z ⟨fun o ho=> ?_,fun o ho=> ?_,fun o ho=> ?_,trivial⟩
                              all_goals (cases ho)
                              ·refine rn6 ?_
                               refine zAB 38 (.agg (zJ high)) Z (AEq.of_eq (by rw [eH];rfl)) ?_
                               exact fin22 _ ⟨Z,Z,Z,Z,Z,Z,Z,Z,Z,trivial⟩
                              ·refine rn4 ?_
                               exact fin20 _ ⟨Z,Z,Z,Z,Z,Z,Z,Z,Z,trivial⟩
                              ·refine rn4 ?_
                               exact fin21 _ ⟨Z,Z,Z,Z,Z,Z,Z,Z,Z,trivial⟩
                            ·refine zD (is:=[4,9,11]) kQ kJ Z ⟨fun o ho=> ?_,fun o ho=> ?_,fun o ho=> ?_,trivial⟩
                             all_goals (cases ho)
                             ·refine rn6 ?_
                              refine zAB 33 (.agg (zJ low)) Z (AEq.of_eq (by rw [eL];rfl)) ?_
                              exact fin20 _ ⟨Z,Z,Z,Z,Z,Z,Z,Z,Z,trivial⟩
                             ·refine rn6 ?_
                              refine zAB 38 (.agg (zJ high)) Z (AEq.of_eq (by rw [eH];rfl)) ?_
                              exact fin25 _ ⟨Z,Z,Z,Z,Z,Z,Z,Z,Z,trivial⟩
                             ·refine rn4 ?_
                              exact fin23 _ ⟨Z,Z,Z,Z,Z,Z,Z,Z,Z,trivial⟩
                           ·refine zD (is:=[4,9,10]) kQ kJ Z ⟨fun o ho=> ?_,fun o ho=> ?_,fun o ho=> ?_,trivial⟩
                            all_goals (cases ho)
                            ·refine rn6 ?_
                             refine zAB 33 (.agg (zJ low)) Z (AEq.of_eq (by rw [eL];rfl)) ?_
                             exact fin21 _ ⟨Z,Z,Z,Z,Z,Z,Z,Z,Z,trivial⟩
                            ·refine rn6 ?_
                             refine zAB 38 (.agg (zJ high)) Z (AEq.of_eq (by rw [eH];rfl)) ?_
                             exact fin26 _ ⟨Z,Z,Z,Z,Z,Z,Z,Z,Z,trivial⟩
                            ·refine rn4 ?_
                             exact fin24 _ ⟨Z,Z,Z,Z,Z,Z,Z,Z,Z,trivial⟩
                          ·refine zD (is:=[4,10,11]) kQ kJ Z ⟨fun o ho=> ?_,fun o ho=> ?_,fun o ho=> ?_,trivial⟩
                           all_goals (cases ho)
                           ·refine rn6 ?_
                            refine zAB 33 (.agg (zJ low)) Z (AEq.of_eq (by rw [eL];rfl)) ?_
                            exact fin22 _ ⟨Z,Z,Z,Z,Z,Z,Z,Z,Z,trivial⟩
                           ·refine rn4 ?_
                            exact fin25 _ ⟨Z,Z,Z,Z,Z,Z,Z,Z,Z,trivial⟩
                           ·refine rn4 ?_
                            exact fin26 _ ⟨Z,Z,Z,Z,Z,Z,Z,Z,Z,trivial⟩
                         ·refine zD (is:=[4,7]) kQ kJ Z ⟨fun o ho=> ?_,fun o ho=> ?_,trivial⟩
                          all_goals (cases ho)
                          ·refine rn6 ?_
                           refine zAB 33 (.agg (zJ low)) Z (AEq.of_eq (by rw [eL];rfl)) ?_
                           exact fin18 _ ⟨Z,Z,Z,Z,Z,Z,Z,Z,Z,trivial⟩
                          ·skip
                           refine zA Z Z Z b2 (rn1 ?_)
                           refine zR 8 Z kQ kQ kQ Z (zc Z Z Z Z (by first|(simp only [Nat.zero_add,Int.toNat_natCast,Int.toNat_zero];exact Z)|exact Z) kK) Z ?_
                           exact fin23 _ ⟨Z,Z,Z,Z,Z,Z,Z,Z,Z,trivial⟩
                        ·refine zD (is:=[4,7]) kQ kJ Z ⟨fun o ho=> ?_,fun o ho=> ?_,trivial⟩
                         all_goals (cases ho)
                         ·refine rn6 ?_
                          refine zAB 33 (.agg (zJ low)) Z (AEq.of_eq (by rw [eL];rfl)) ?_
                          exact fin19 _ ⟨Z,Z,Z,Z,Z,Z,Z,Z,Z,trivial⟩
                         ·skip
                          refine zA Z Z Z b2 (rn1 ?_)
                          refine zR 8 Z kQ kQ kQ Z (zc Z Z Z Z (by first|(simp only [Nat.zero_add,Int.toNat_natCast,Int.toNat_zero];exact Z)|exact Z) kK) Z ?_
                          exact fin24 _ ⟨Z,Z,Z,Z,Z,Z,Z,Z,Z,trivial⟩
                       ·refine zD (is:=[7]) kQ kJ Z ⟨fun o ho=> ?_,trivial⟩
                        all_goals (cases ho)
                        ·skip
                         refine zA Z Z Z b2 (rn1 ?_)
                         refine zR 8 Z kQ kQ kQ Z (zc Z Z Z Z (by first|(simp only [Nat.zero_add,Int.toNat_natCast,Int.toNat_zero];exact Z)|exact Z) kK) Z ?_
                         exact fin27 _ ⟨Z,Z,Z,Z,Z,Z,Z,Z,Z,Z,trivial⟩
                      ·refine zD (is:=[7]) kQ kJ Z ⟨fun o ho=> ?_,trivial⟩
                       all_goals (cases ho)
                       ·skip
                        refine zA Z Z Z b2 (rn1 ?_)
                        refine zR 8 Z kQ kQ kQ Z (zc Z Z Z Z (by first|(simp only [Nat.zero_add,Int.toNat_natCast,Int.toNat_zero];exact Z)|exact Z) kK) Z ?_
                        exact fin28 _ ⟨Z,Z,Z,Z,Z,Z,Z,Z,Z,Z,trivial⟩
                     ·refine zD (is:=[9,11]) kQ kJ Z ⟨fun o ho=> ?_,fun o ho=> ?_,trivial⟩
                      all_goals (cases ho)
                      ·refine rn6 ?_
                       refine zAB 38 (.agg (zJ high)) Z (AEq.of_eq (by rw [eH];rfl)) ?_
                       exact fin29 _ ⟨Z,Z,Z,Z,Z,Z,Z,Z,Z,Z,trivial⟩
                      ·refine rn4 ?_
                       exact fin27 _ ⟨Z,Z,Z,Z,Z,Z,Z,Z,Z,Z,trivial⟩
                    ·refine zD (is:=[9,10]) kQ kJ Z ⟨fun o ho=> ?_,fun o ho=> ?_,trivial⟩
                     all_goals (cases ho)
                     ·refine rn6 ?_
                      refine zAB 38 (.agg (zJ high)) Z (AEq.of_eq (by rw [eH];rfl)) ?_
                      exact fin30 _ ⟨Z,Z,Z,Z,Z,Z,Z,Z,Z,Z,trivial⟩
                     ·refine rn4 ?_
                      exact fin28 _ ⟨Z,Z,Z,Z,Z,Z,Z,Z,Z,Z,trivial⟩
                   ·refine zD (is:=[10,11]) kQ kJ Z ⟨fun o ho=> ?_,fun o ho=> ?_,trivial⟩
                    all_goals (cases ho)
                    ·refine rn4 ?_
                     exact fin29 _ ⟨Z,Z,Z,Z,Z,Z,Z,Z,Z,Z,trivial⟩
                    ·refine rn4 ?_
                     exact fin30 _ ⟨Z,Z,Z,Z,Z,Z,Z,Z,Z,Z,trivial⟩
                  ·refine zD (is:=[4,9]) kQ kJ Z ⟨fun o ho=> ?_,fun o ho=> ?_,trivial⟩
                   all_goals (cases ho)
                   ·refine rn6 ?_
                    refine zAB 33 (.agg (zJ low)) Z (AEq.of_eq (by rw [eL];rfl)) ?_
                    exact fin27 _ ⟨Z,Z,Z,Z,Z,Z,Z,Z,Z,Z,trivial⟩
                   ·refine rn6 ?_
                    refine zAB 38 (.agg (zJ high)) Z (AEq.of_eq (by rw [eH];rfl)) ?_
                    exact fin31 _ ⟨Z,Z,Z,Z,Z,Z,Z,Z,Z,Z,trivial⟩
                 ·refine zD (is:=[4,9]) kQ kJ Z ⟨fun o ho=> ?_,fun o ho=> ?_,trivial⟩
                  all_goals (cases ho)
                  ·refine rn6 ?_
                   refine zAB 33 (.agg (zJ low)) Z (AEq.of_eq (by rw [eL];rfl)) ?_
                   exact fin28 _ ⟨Z,Z,Z,Z,Z,Z,Z,Z,Z,Z,trivial⟩
                  ·refine rn6 ?_
                   refine zAB 38 (.agg (zJ high)) Z (AEq.of_eq (by rw [eH];rfl)) ?_
                   exact fin32 _ ⟨Z,Z,Z,Z,Z,Z,Z,Z,Z,Z,trivial⟩
                ·refine zD (is:=[4,11]) kQ kJ Z ⟨fun o ho=> ?_,fun o ho=> ?_,trivial⟩
                 all_goals (cases ho)
                 ·refine rn6 ?_
                  refine zAB 33 (.agg (zJ low)) Z (AEq.of_eq (by rw [eL];rfl)) ?_
                  exact fin29 _ ⟨Z,Z,Z,Z,Z,Z,Z,Z,Z,Z,trivial⟩
                 ·refine rn4 ?_
                  exact fin31 _ ⟨Z,Z,Z,Z,Z,Z,Z,Z,Z,Z,trivial⟩
               ·refine zD (is:=[4,10]) kQ kJ Z ⟨fun o ho=> ?_,fun o ho=> ?_,trivial⟩
                all_goals (cases ho)
                ·refine rn6 ?_
                 refine zAB 33 (.agg (zJ low)) Z (AEq.of_eq (by rw [eL];rfl)) ?_
                 exact fin30 _ ⟨Z,Z,Z,Z,Z,Z,Z,Z,Z,Z,trivial⟩
                ·refine rn4 ?_
                 exact fin32 _ ⟨Z,Z,Z,Z,Z,Z,Z,Z,Z,Z,trivial⟩
              ·refine zD (is:=[9,12]) kQ kJ Z ⟨fun o ho=> ?_,fun o ho=> ?_,trivial⟩
               all_goals (cases ho)
               ·refine rn6 ?_
                refine zAB 38 (.agg (zJ high)) Z (AEq.of_eq (by rw [eH];rfl)) ?_
                exact fin35 _ ⟨Z,Z,Z,Z,Z,Z,Z,Z,Z,Z,Z,trivial⟩
               ·skip
                refine sa1 (c':= .box (zJ low)) Z Z Z Z Z Z Z (rn1 ?_)
                exact fin33 _ ⟨Z,Z,Z,Z,Z,Z,Z,Z,Z,Z,trivial⟩
             ·refine zD (is:=[9,12]) kQ kJ Z ⟨fun o ho=> ?_,fun o ho=> ?_,trivial⟩
              all_goals (cases ho)
              ·refine rn6 ?_
               refine zAB 38 (.agg (zJ high)) Z (AEq.of_eq (by rw [eH];rfl)) ?_
               exact fin36 _ ⟨Z,Z,Z,Z,Z,Z,Z,Z,Z,Z,Z,trivial⟩
              ·skip
               refine sa1 (c':= .box (zJ low)) Z Z Z Z Z Z Z (rn1 ?_)
               exact fin34 _ ⟨Z,Z,Z,Z,Z,Z,Z,Z,Z,Z,trivial⟩
            ·refine zD (is:=[11]) kQ kJ Z ⟨fun o ho=> ?_,trivial⟩
             all_goals (cases ho)
             ·refine rn4 ?_
              exact fin35 _ ⟨Z,Z,Z,Z,Z,Z,Z,Z,Z,Z,Z,trivial⟩
           ·refine zD (is:=[10]) kQ kJ Z ⟨fun o ho=> ?_,trivial⟩
            all_goals (cases ho)
            ·refine rn4 ?_
             exact fin36 _ ⟨Z,Z,Z,Z,Z,Z,Z,Z,Z,Z,Z,trivial⟩
          ·refine zD (is:=[4]) kQ kJ Z ⟨fun o ho=> ?_,trivial⟩
           all_goals (cases ho)
           ·refine rn6 ?_
            refine zAB 33 (.agg (zJ low)) Z (AEq.of_eq (by rw [eL];rfl)) ?_
            exact fin35 _ ⟨Z,Z,Z,Z,Z,Z,Z,Z,Z,Z,Z,trivial⟩
         ·refine zD (is:=[4]) kQ kJ Z ⟨fun o ho=> ?_,trivial⟩
          all_goals (cases ho)
          ·refine rn6 ?_
           refine zAB 33 (.agg (zJ low)) Z (AEq.of_eq (by rw [eL];rfl)) ?_
           exact fin36 _ ⟨Z,Z,Z,Z,Z,Z,Z,Z,Z,Z,Z,trivial⟩
        ·refine zD (is:=[9]) kQ kJ Z ⟨fun o ho=> ?_,trivial⟩
         all_goals (cases ho)
         ·refine rn6 ?_
          refine zAB 38 (.agg (zJ high)) Z (AEq.of_eq (by rw [eH];rfl)) ?_
          exact fin37 _ ⟨Z,Z,Z,Z,Z,Z,Z,Z,Z,Z,Z,trivial⟩
       ·refine zD (is:=[9]) kQ kJ Z ⟨fun o ho=> ?_,trivial⟩
        all_goals (cases ho)
        ·refine rn6 ?_
         refine zAB 38 (.agg (zJ high)) Z (AEq.of_eq (by rw [eH];rfl)) ?_
         exact fin38 _ ⟨Z,Z,Z,Z,Z,Z,Z,Z,Z,Z,Z,trivial⟩
      ·refine zD (is:=[12]) kQ kJ Z ⟨fun o ho=> ?_,trivial⟩
       all_goals (cases ho)
       ·skip
        refine sa1 (c':= .box (zJ low)) Z Z Z Z Z Z Z (rn1 ?_)
        exact fin37 _ ⟨Z,Z,Z,Z,Z,Z,Z,Z,Z,Z,Z,trivial⟩
     ·refine zD (is:=[12]) kQ kJ Z ⟨fun o ho=> ?_,trivial⟩
      all_goals (cases ho)
      ·skip
       refine sa1 (c':= .box (zJ low)) Z Z Z Z Z Z Z (rn1 ?_)
       exact fin38 _ ⟨Z,Z,Z,Z,Z,Z,Z,Z,Z,Z,Z,trivial⟩
    ·refine zD (is:=[13]) kQ kJ Z ⟨fun o ho=> ?_,trivial⟩
     all_goals (cases ho)
     ·skip
      refine sa1 (c':= .box (zJ high)) Z Z Z Z Z Z Z (rn1 ?_)
      exact fin39 _ ⟨Z,Z,Z,trivial⟩
   ·refine zD (is:=[13]) kQ kJ Z ⟨fun o ho=> ?_,trivial⟩
    all_goals (cases ho)
    ·skip
     refine sa1 (c':= .box (zJ high)) Z Z Z Z Z Z Z (rn1 ?_)
     exact fin40 _ ⟨Z,Z,Z,trivial⟩
  ·refine zT kQ (rn6 ?_)
   refine zE 42 (.ro (qsC [low,high]) 0 2) Z (AEq.ro Z (fun d j hd hj=> ?_)) ?_
   ·have hd2:d=0∨d=1:=kK
    have hj3:j=0∨j=1∨j=2:=by have hj:j<3:=hj;omega
    rcases hd2 with rfl|rfl<;>rcases hj3 with rfl|rfl|rfl<;>rfl
   refine zA Z Z Z cp ?_
   skip
   refine zA Z Z Z co ?_
   cases hf:(zBd (low/(l.length:Rat)) && zBd (high/(l.length:Rat)))
   ·rw [hf] at hR eO
    rw [eO]
    refine rn5 ?_
    exact zM hR Z Z
   ·rw [hf] at hR eO
    rw [eO]
    rw [eO] at er
    refine zEW ?_
    refine zv 12 (.ro (.strs [zr (low/(l.length:Rat)),zr (high/(l.length:Rat))]) 0 2) Z er (rn4 ?_)
    refine zZ kQ ?_
    refine zj (fuel:=0) [0,1,2,3,4,5,6,7,8] [(12,.ro (.strs [zr (low/(l.length:Rat)),zr (high/(l.length:Rat))]) 0 2)] ⟨Z,trivial⟩ kQ kV Z Z ?_
    refine zK Z Z (zH Z) ?_
    refine zK Z Z (zc Z Z Z Z (by first|(simp only [Nat.zero_add,Int.toNat_natCast,Int.toNat_zero];exact Z)|exact Z) kK) ?_
    refine zK Z Z (zDG Z Z Z) ?_
    refine zK Z Z (zH Z) ?_
    refine zK Z Z (zc Z Z Z Z (by first|(simp only [Nat.zero_add,Int.toNat_natCast,Int.toNat_zero];exact Z)|exact Z) kK) ?_
    refine zK Z Z (zDG Z Z Z) ?_
    refine zK Z Z (zf Z) ?_
    refine zK Z Z (zf Z) ?_
    refine zK Z Z (zf Z) ?_
    refine zz ?_
    refine zT kQ (rn0 ?_)
    exact zM hR Z Z
 ·refine zT kQ (rn6 ?_)
  refine zE 42 (.ro (qsC [low,high]) 0 2) Z (AEq.ro Z (fun d j hd hj=> ?_)) ?_
  ·have hd2:d=0∨d=1:=kK
   have hj3:j=0∨j=1∨j=2:=by have hj:j<3:=hj;omega
   rcases hd2 with rfl|rfl<;>rcases hj3 with rfl|rfl|rfl<;>rfl
  refine zA Z Z Z cp ?_
  skip
  refine zA Z Z Z co ?_
  cases hf:(zBd (low/(l.length:Rat)) && zBd (high/(l.length:Rat)))
  ·rw [hf] at hR eO
   rw [eO]
   refine rn5 ?_
   exact zM hR Z Z
  ·rw [hf] at hR eO
   rw [eO]
   rw [eO] at er
   refine zEW ?_
   refine zv 12 (.ro (.strs [zr (low/(l.length:Rat)),zr (high/(l.length:Rat))]) 0 2) Z er (rn4 ?_)
   refine zZ kQ ?_
   refine zj (fuel:=0) [0,1,2,3,4,5,6,7,8] [(12,.ro (.strs [zr (low/(l.length:Rat)),zr (high/(l.length:Rat))]) 0 2)] ⟨Z,trivial⟩ kQ kV Z Z ?_
   refine zK Z Z (zH Z) ?_
   refine zK Z Z (zc Z Z Z Z (by first|(simp only [Nat.zero_add,Int.toNat_natCast,Int.toNat_zero];exact Z)|exact Z) kK) ?_
   refine zK Z Z (zDG Z Z Z) ?_
   refine zK Z Z (zH Z) ?_
   refine zK Z Z (zc Z Z Z Z (by first|(simp only [Nat.zero_add,Int.toNat_natCast,Int.toNat_zero];exact Z)|exact Z) kK) ?_
   refine zK Z Z (zDG Z Z Z) ?_
   refine zK Z Z (zf Z) ?_
   refine zK Z Z (zf Z) ?_
   refine zK Z Z (zf Z) ?_
   refine zz ?_
   refine zT kQ (rn0 ?_)
   exact zM hR Z Z
def zK3:Option Rat→List AV
 |some q=>zJ q
 |none=>[.bool false,.nil,.nil]
abbrev zsC (l:List (Option Rat)):Cells:=zC9 none 3 zK3 l
theorem zs_end (n:Nat):CEq (zsC (zB6 (fun _:Option Rat=>some (0:Rat)) (List.replicate n none) n)) (qsC (List.replicate n 0)):=by
 have e:zB6 (fun _:Option Rat=>some (0:Rat)) (List.replicate n none) n=List.replicate n (some 0):=by
  have:=zHh (fun _:Option Rat=>some (0:Rat)) (List.replicate n none)
  rw [List.length_replicate] at this
  rw [this,List.map_replicate]
 rw [e]
 refine ⟨by simp [zC9,Cells.len],Z,fun i j hi hj=> ?_⟩
 have hi:i<n:=by simpa [zC9,Cells.len] using hi
 show (zJ ((List.replicate n (0:Rat)).getD i 0)).getD j .any=(zK3 ((List.replicate n (some (0:Rat))).getD i none)).getD j .any
 rw [zCC 0 (by simpa using hi),zCC none (by simpa using hi),List.getElem_replicate,List.getElem_replicate]
 rfl
theorem zRk (n:Nat):CEq (zAr n [.bool false,.nil,.nil]) (zsC (List.replicate n none)):=by
 refine ⟨by simp [zC9,Cells.len,zAr],Z,fun i j hi hj=> ?_⟩
 have hi:i<n:=by simpa [Cells.len,zAr] using hi
 show (zK3 ((List.replicate n (none:Option Rat)).getD i none)).getD j .any=_
 rw [zCC none (by simpa using hi),List.getElem_replicate]
 rfl
theorem rowP1 (i k:Nat)(j:Nat)(hj:j<2):(zCE 1 2 [iN i,iN k]).at 0 j=(zCa ((i:Int),(k:Int))).getD j .any:=by
 match j,hj with
 |0,_=>rfl
 |1,_=>rfl
theorem zPB {α:Type}(d:α)(n:Nat)(e:α→List AV)(zs:List α)(k:Nat)(a:α)(hk:k<zs.length)(i' j':Nat)(hi':i'<zs.length)(hj':j'<n):(zC9 d n e (zs.set k a)).at i' j'=if i'=k then (e a).getD j' .any else (zC9 d n e zs).at i' j':=by
 show (e ((zs.set k a).getD i' d)).getD j' .any=if i'=k then (e a).getD j' .any else (e (zs.getD i' d)).getD j' .any
 rw [Go.Ax.Dt.getD_set]
 by_cases h:i'=k
 ·rw [if_pos h,if_pos ⟨h,hk⟩]
 ·rw [if_neg h,if_neg (fun q=>h q.1)]
theorem zKh {α:Type}{l:List α}{j:Nat}(d:α)(h:l.length≤j):l.getD j d=d:=by simp [List.getD,h]
theorem zRJ {m:List (List Rat)}{w:Nat}(hm: ∀r∈m,∀q∈r,D 2000 q): ∀n,(∀q∈(zEF m w n).rows,D (1+n*2001) q)∧ ∀q∈(zEF m w n).cols,D (1+n*2001) q
 |0=>by
  have hz:D 1 (0:Rat):=⟨kV,kV⟩
  refine ⟨fun q hq=> ?_,fun q hq=> ?_⟩
  ·obtain ⟨_,rfl⟩:=List.mem_replicate.1 hq;exact hz
  ·obtain ⟨_,rfl⟩:=List.mem_replicate.1 hq;exact hz
 |n+1=>by
  obtain ⟨h1,h2⟩:=zRJ hm n
  have hel: ∀i j,D 2000 ((m.getD i []).getD j 0):=by
   intro i j
   have hz:D 2000 (0:Rat):=D.mono (j:=1) ⟨kV,kV⟩ kK
   rcases Nat.lt_or_ge i m.length with hi|hi
   ·rcases Nat.lt_or_ge j (m.getD i []).length with hj|hj
    ·exact hm _ (z8 [] hi) _ (z8 0 hj)
    ·rw [zKh 0 hj];exact hz
   ·rw [zKh [] hi];exact hz
  refine ⟨fun q hq=> ?_,fun q hq=> ?_⟩
  ·obtain ⟨j,hj,rfl⟩:=List.mem_map.1 hq
   have hj:j<(zEF m w n).rows.length:=by simpa using hj
   exact ((h1 _ (z8 0 hj)).add (hel _ _)).mono kK
  ·obtain ⟨j,hj,rfl⟩:=List.mem_map.1 hq
   have hj:j<(zEF m w n).cols.length:=by simpa using hj
   exact ((h2 _ (z8 0 hj)).add (hel _ _)).mono kK
def histA (p:zB1×Int):AV:= .tup [.ro (zx p.1) 0 p.1.length,.int .i64 p.2]
theorem zGK (l:zB1):zAY (zx l):=by
 intro i j _ hj
 have hj:j<2:=hj
 match j,hj with
 |0,_=>rfl
 |1,_=>rfl
theorem zNK (x:Int×Int)(j h:Nat)(hj:j<2):((zCa x).getD j .any).forget h=(zCa x).getD j .any:=by
 match j,hj with
 |0,_=>rfl
 |1,_=>rfl
theorem play_ok (m:List (List zAA))(n:Int)(hlen:m.length≤9223372036854775807)(hr: ∀r∈m,r.length≤9223372036854775807∧ ∀s∈r,s.length≤9223372036854775807):zX Tryz.prog 48 [.ro (zA9 m) 0 m.length,.int .i64 n] (histA (zIX m n)):=by
 have cm:=zFx m hlen hr
 refine zU.value0 (zF (P:=Tryz.prog) (fn:=Tryz.f48) Z Z kQ Z (fun c hR hfix=> ?_)) (fix:=fun _=>False) (fun _ h=>h) Z Z
 refine rn0 ?_
 refine zA Z Z Z cm (rn3 ?_)
 refine zB Z (fun h1=> ?_) (fun h1=> ?_)
 ·have e:zIX m n=([],zBW m):=by unfold zIX;rw [if_pos h1]
  rw [e] at hR
  refine rn7 ?_
  refine zv 4 (.ro (zx []) 0 0) Z AEq.nil (rn2 ?_)
  exact zM hR Z Z
 have h1':=Classical.not_not.1 h1
 obtain ⟨g1,g2,g3,g4,g5⟩:=zB3 h1'
 have hM:=zDy g1
 have hv:=zEw g1
 have nm:=zIm m kK (fun r h=>⟨by have:=hM.cols r h;omega,fun s hs=>⟨(hr r h).2 s hs,hM.ok r h s hs⟩⟩)
 have hm1:0<m.length:=by cases m with|nil=>exact absurd rfl g5|cons _ _=>exact Nat.succ_pos _
 have hml0:=zB7 m
 refine rn4 ?_
 refine zAm Z Z (fun h2=> ?_) (fun h2=> ?_)
 ·have e:zIX m n=([],4):=by unfold zIX;rw [if_neg h1,if_pos (.inl h2)]
  rw [e] at hR
  refine rn18 ?_
  refine zv 4 (.ro (zx []) 0 0) Z AEq.nil (rn2 ?_)
  exact zM hR Z Z
 refine rn6 ?_
 refine zB Z (fun h3=> ?_) (fun h3=> ?_)
 ·have e:zIX m n=([],4):=by unfold zIX;rw [if_neg h1,if_pos (.inr h3)]
  rw [e] at hR
  refine rn7 ?_
  refine zv 4 (.ro (zx []) 0 0) Z AEq.nil (rn2 ?_)
  exact zM hR Z Z
 have e:zIX m n=(zE0 (zEF (inM m) (zS m) n.toNat).out,0):=by unfold zIX;rw [if_neg h1,if_neg kK]
 rw [e] at hR
 obtain ⟨N,rfl⟩:=Int.eq_ofNat_of_zero_le (show 0≤n by omega)
 rw [show ((N:Int)).toNat=N from Int.toNat_natCast N] at hR
 have hwd:(m.getD 0 []).length=zS m:=rfl
 refine rn1 ?_
 refine zA Z Z Z nm (rn3 ?_)
 refine zBv Z Z Z Z Z Z Z Z (by show (0:Int)≤_∧_≤_∧(56:Int)*_≤_∧_;omega) (rn6 ?_)
 refine zBv Z Z Z Z Z Z Z Z (by show (0:Int)≤_∧_≤_∧(56:Int)*_≤_∧_;omega) (rn3 ?_)
 refine zAI [some ⟨118,zsC (List.replicate m.length none)⟩,some ⟨118,zsC (List.replicate (zS m) none)⟩] ?_ ?_
 ·exact zP.eqv (zRk _) (zP.eqv (zRk _) zP.nil)
 have eM: ∃M,M=inM m:=⟨_,rfl⟩
 obtain ⟨M,eM⟩:=eM
 rw [←eM] at hR hml0 hv
 rw [←eM]
 refine zb (ι:=Nat) (fun k=>[(1,iN N),(7,.ro (zd M) 0 m.length),(8,.sl 0 0 m.length),(9,.sl 1 0 (zS m)),(38,.sl 0 0 m.length),(39,iN m.length),(40,iN k)]) (fun k=>[some ⟨118,zsC (zB6 (fun _:Option Rat=>some (0:Rat)) (List.replicate (m.length) none) k)⟩,some ⟨118,zsC (List.replicate (zS m) none)⟩])
  (fun k=>k≤m.length) (fun k=>m.length-k) 0 ⟨⟨rfl,rfl,rfl,rfl,rfl,rfl,rfl,trivial⟩,by rw [zFS],Nat.zero_le _⟩ ?_
 intro k hk
 refine rn4 ?_
 refine zB Z (fun h=> ?_) (fun h=> ?_)
 ·have hk':k<m.length:=kK
  have hset:=zFi (fun _:Option Rat=>some (0:Rat)) (List.replicate (m.length) none) none (k:=k) (by simpa using hk')
  have hml:=zGi (fun _:Option Rat=>some (0:Rat)) (List.replicate (m.length) none) k
  rw [List.length_replicate] at hml
  generalize zB6 (fun _:Option Rat=>some (0:Rat)) (List.replicate (m.length) none) k=zs at*
  have hkz:k<zs.length:=kK
  refine rn1 ?_
  refine zA Z Z Z zEE ?_
  repeat (refine zL (zAR rfl rfl rfl rfl rfl (by first|(simp only [Nat.zero_add,Int.toNat_natCast,Int.toNat_zero];exact rfl)|exact rfl) kK) ?_)
  unfold qA
  refine zt (c':=zsC (zs.set k (some 0))) Z Z Z Z Z hkz (by show (zs.set k (some 0)).length=zs.length;simp) Z (fun i' j' hi' hj'=>zPB none 3 zK3 zs k (some 0) hkz i' j' hi' hj') (rn5 ?_)
  exact zI ⟨k+1,kK,kK,⟨Z,Z,Z,Z,Z,Z,Z,trivial⟩,by rw [←hset];rfl⟩
 have hke:k=m.length:=kK
 subst hke
 refine rn5 ?_
 refine zAI [some ⟨118,qsC (List.replicate m.length 0)⟩,some ⟨118,zsC (List.replicate (zS m) none)⟩] ?_ ?_
 ·exact zP.eqv (zs_end _) (zP.eqv (CEq.refl _) zP.nil)
 refine zb (ι:=Nat) (fun k=>[(1,iN N),(7,.ro (zd M) 0 m.length),(8,.sl 0 0 m.length),(9,.sl 1 0 (zS m)),(48,.sl 1 0 (zS m)),(49,iN ((zS m))),(50,iN k)]) (fun k=>[some ⟨118,qsC (List.replicate m.length 0)⟩,some ⟨118,zsC (zB6 (fun _:Option Rat=>some (0:Rat)) (List.replicate (zS m) none) k)⟩])
  (fun k=>k≤(zS m)) (fun k=>(zS m)-k) 0 ⟨⟨rfl,rfl,rfl,rfl,rfl,rfl,rfl,trivial⟩,by rw [zFS],Nat.zero_le _⟩ ?_
 intro k hk
 refine rn4 ?_
 refine zB Z (fun h=> ?_) (fun h=> ?_)
 ·have hk':k<(zS m):=kK
  have hset:=zFi (fun _:Option Rat=>some (0:Rat)) (List.replicate ((zS m)) none) none (k:=k) (by simpa using hk')
  have hml:=zGi (fun _:Option Rat=>some (0:Rat)) (List.replicate ((zS m)) none) k
  rw [List.length_replicate] at hml
  generalize zB6 (fun _:Option Rat=>some (0:Rat)) (List.replicate ((zS m)) none) k=zs at*
  have hkz:k<zs.length:=kK
  refine rn1 ?_
  refine zA Z Z Z zEE ?_
  repeat (refine zL (zAR rfl rfl rfl rfl rfl (by first|(simp only [Nat.zero_add,Int.toNat_natCast,Int.toNat_zero];exact rfl)|exact rfl) kK) ?_)
  unfold qA
  refine zt (c':=zsC (zs.set k (some 0))) Z Z Z Z Z hkz (by show (zs.set k (some 0)).length=zs.length;simp) Z (fun i' j' hi' hj'=>zPB none 3 zK3 zs k (some 0) hkz i' j' hi' hj') (rn5 ?_)
  exact zI ⟨k+1,kK,kK,⟨Z,Z,Z,Z,Z,Z,Z,trivial⟩,by rw [←hset];rfl⟩
 have hke:k=zS m:=kK
 rw [hke]
 refine rn14 ?_
 refine zAI [some ⟨118,qsC (List.replicate m.length 0)⟩,some ⟨118,qsC (List.replicate (zS m) 0)⟩] ?_ ?_
 ·exact zP.eqv (CEq.refl _) (zP.eqv (zs_end _) zP.nil)
 refine zAg 12 ⟨94,zx []⟩ Z Z ?_
 repeat (refine zAJ ?_)
 refine zb (ι:=Nat) (fun r=>[(7,.ro (zd M) 0 m.length),(8,.sl 0 0 m.length),(9,.sl 1 0 (zS m)),(12,.sl 2 0 r),(58,iN N),(59,iN r)]) (fun r=>[some ⟨118,qsC (zEF M (zS m) r).rows⟩,some ⟨118,qsC (zEF M (zS m) r).cols⟩,some ⟨94,zx (zE0 (zEF M (zS m) r).out)⟩])
  (fun r=>r≤N) (fun r=>N-r) 0 ⟨⟨rfl,rfl,rfl,rfl,rfl,rfl,trivial⟩,by rw [←hml0];rfl,Nat.zero_le _⟩ ?_
 intro r hrN
 obtain ⟨l1,l2,l3⟩:=zMp M (zS m) r
 obtain ⟨d1,d2⟩:=zRJ (m:=M) (w:=zS m) (fun r h=>(hv r h).2) r
 have hb:r*2001≤200*2001:=Nat.mul_le_mul_right _ kK
 have hstep:zEF M (zS m) (r+1)=zLR M (zEF M (zS m) r):=rfl
 generalize hs:zEF M (zS m) r=s at*
 have hol:=zP2 s.out
 refine rn4 ?_
 refine zB Z (fun h=> ?_) (fun h=> ?_)
 ·have b1:=zJa s.rows 1 (.inl rfl) kK (fun q hq=>zBj (m:=100000) ((d1 q hq).mono kK))
  have b2:=zJa s.cols (-1) (.inr rfl) kK (fun q hq=>zBj (m:=100000) ((d2 q hq).mono kK))
  have k1:zAz 1 s.rows s.rows.length<s.rows.length:=zJA _ _ _ kK
  have k2:zAz (-1) s.cols s.cols.length<s.cols.length:=zJA _ _ _ kK
  have e1:zEF M (zS m) (r+1)=⟨zE5 (fun j=>(M.getD j []).getD (zAz (-1) s.cols s.cols.length) 0) s.rows s.rows.length,zE5 (fun j=>(M.getD (zAz 1 s.rows s.rows.length) []).getD j 0) s.cols s.cols.length,s.out++[(zAz 1 s.rows s.rows.length,zAz (-1) s.cols s.cols.length)]⟩:=by
   rw [hstep,zPQ,zPQ];rfl
  have hsn:=zOW s.out (zAz 1 s.rows s.rows.length) (zAz (-1) s.cols s.cols.length)
  generalize zAz 1 s.rows s.rows.length=i at*
  generalize zAz (-1) s.cols s.cols.length=k at*
  rw [l1,hml0] at b1 k1
  rw [l2] at b2 k2
  generalize s.rows=R at*
  generalize s.cols=C at*
  generalize s.out=O at*
  generalize zE0 O=HO at*
  have hel: ∀i j,D 2000 ((M.getD i []).getD j 0):=by
   intro i j
   have hz:D 2000 (0:Rat):=D.mono (j:=1) ⟨kV,kV⟩ kK
   rcases Nat.lt_or_ge i M.length with hi|hi
   ·rcases Nat.lt_or_ge j (M.getD i []).length with hj|hj
    ·exact (hv _ (z8 [] hi)).2 _ (z8 0 hj)
    ·rw [zKh 0 hj];exact hz
   ·rw [zKh [] hi];exact hz
  refine rn1 ?_
  refine zFa rfl rfl rfl rfl b1 (refl3 (zAT _) (zAT _) (zGK _)) ⟨fun o ho=>by simp at ho;subst ho;show 0+m.length≤R.length;omega,trivial,trivial⟩ rfl rfl rfl ?_
  repeat (refine zL (zH rfl) ?_)
  refine zFa rfl rfl rfl rfl b2 (refl3 (zAT _) (zAT _) (zGK _)) ⟨fun o ho=>by simp at ho;subst ho;show 0+zS m≤C.length;omega,trivial,trivial⟩ rfl rfl rfl (rn8 ?_)
  refine zq Z Z Z Z Z Z Z Z Z (hol.trans l3) Z Z (by show 0+1≤1;omega) Z (by show (r+1)*16≤_∧_;omega) ?_ (by rw [hfix];exact fun h=>h) ?_
  ·intro i' j hi hj
   exact zAM (0,0) 2 zCa zNK HO ((i:Int),(k:Int)) _ (rowP1 i k) 2 i' j hi hj
  refine rn3 ?_
  refine zAI [some ⟨118,qsC R⟩,some ⟨118,qsC C⟩,some ⟨94,zx (HO++[((i:Int),(k:Int))])⟩] ?_ ?_
  ·exact zP.eqv ⟨Z,Z,fun i j _ hj=>(zu _ j _ hj).symm⟩ (zP.eqv ⟨Z,Z,fun i j _ hj=>(zu _ j _ hj).symm⟩ (zP.eqv (zAV (0,0) 2 zCa HO ((i:Int),(k:Int)) _ (rowP1 i k)) zP.nil))
  generalize hHO:HO++[((i:Int),(k:Int))]=HO2 at*
  have hHL:HO2.length=r+1:=by rw [←hHO,List.length_append,hol,l3];rfl
  refine zb (ι:=Nat) (fun j=>[(7,.ro (zd M) 0 m.length),(8,.sl 0 0 m.length),(9,.sl 1 0 (zS m)),(12,.sl 2 0 (r+1)),(13,iN i),(14,iN k),(58,iN N),(59,iN r),(71,.sl 0 0 (m.length)),(72,iN m.length),(73,iN j)]) (fun j=>[some ⟨118,qsC (zE5 (fun j=>(M.getD j []).getD k 0) R j)⟩,some ⟨118,qsC C⟩,some ⟨94,zx HO2⟩])
   (fun j=>j≤m.length) (fun j=>m.length-j) 0 ⟨⟨rfl,rfl,rfl,rfl,rfl,rfl,rfl,rfl,rfl,rfl,rfl,trivial⟩,by rw [zNA],Nat.zero_le _⟩ ?_
  intro j hj
  refine rn4 ?_
  refine zB Z (fun h=> ?_) (fun h=> ?_)
  ·have hj':j<R.length:=kK
   have hrl:(M.getD j []).length=zS m:=(hv _ (z8 [] kK)).1
   have hkr:k<(M.getD j []).length:=kK
   have hset:=zPR (fun j=>(M.getD j []).getD k 0) R hj'
   have hget:(zE5 (fun j=>(M.getD j []).getD k 0) R j).getD j 0=R.getD j 0:=by rw [zJh (fun j=>(M.getD j []).getD k 0) R hj',if_neg (Nat.lt_irrefl j)]
   have hml:=zJi (fun j=>(M.getD j []).getD k 0) R j
   have hq:=d1 _ (z8 0 hj')
   generalize zE5 (fun j=>(M.getD j []).getD k 0) R j=zs at*
   have hjz:j<zs.length:=kK
   have cadd:zX Tryz.prog 132 [qA (zs.getD j 0),qA ((M.getD j []).getD k 0)] (qA (R.getD j 0+(M.getD j []).getD k 0)):=by
    rw [hget]
    exact zFM _ _ (zBj (m:=100000) (hq.mono kK)) (zBj (m:=100000) ((hel j k).mono kK))
   refine rn1 ?_
   refine zZ kQ ?_
   refine zj (fuel:=1) [0,1,2,3,4,5,6,7,8,9,10,11,12,13,14] [(7,.ro (zd M) 0 m.length),(8,.sl 0 0 m.length),(9,.sl 1 0 (zS m)),(12,.sl 2 0 (r+1)),(13,iN i),(14,iN k),(58,iN N),(59,iN r),(71,.sl 0 0 (m.length)),(72,iN m.length),(73,iN j),(15,iN j)] ⟨Z,Z,Z,Z,Z,Z,Z,Z,Z,Z,Z,Z,trivial⟩ kQ kV Z Z ?_
   refine zK Z Z (zH Z) ?_
   refine zK Z Z (zH Z) ?_
   refine zK Z Z (zH Z) ?_
   refine zK Z Z (zH Z) ?_
   refine zK Z Z (zAR Z Z Z Z Z (by first|(simp only [Nat.zero_add,Int.toNat_natCast,Int.toNat_zero];exact Z)|exact Z) kK) ?_
   refine zK Z Z (qpp Z Z Z Z Z Z Z) ?_
   refine zK Z Z (zH Z) ?_
   refine zK Z Z (zH Z) ?_
   refine zK Z Z (zc Z Z Z Z (by first|(simp only [Nat.zero_add,Int.toNat_natCast,Int.toNat_zero];exact Z)|exact Z) kK) ?_
   refine zK Z Z (zBp Z Z Z Z) ?_
   refine zK Z Z (zH Z) ?_
   refine zK Z Z (zc Z Z Z Z (by first|(simp only [Nat.zero_add,Int.toNat_natCast,Int.toNat_zero];exact Z)|exact Z) kK) ?_
   refine zK Z Z (zAc Z Z Z Z Z Z) ?_
   refine zAy Z Z Z Z Z cadd ?_
   refine zK Z Z (zAR Z Z Z Z Z (by first|(simp only [Nat.zero_add,Int.toNat_natCast,Int.toNat_zero];exact Z)|exact Z) kK) ?_
   refine zz ?_
   refine zD (is:=[15]) kQ kJ Z ⟨fun o ho=> ?_,trivial⟩
   all_goals (cases ho)
   skip
   unfold qA
   refine zt (c':=qsC (zs.set j (R.getD j 0+(M.getD j []).getD k 0))) Z Z Z Z Z hjz (by show (zs.set j _).length=zs.length;simp) Z (fun i' j' hi' hj'=>zIw zs j _ hjz i' j' hi' hj') (rn1 ?_)
   refine zT kQ (rn5 ?_)
   exact zI ⟨j+1,kK,kK,⟨Z,Z,Z,Z,Z,Z,Z,Z,Z,Z,Z,trivial⟩,by rw [←hset];rfl⟩
  have hje:j=m.length:=kK
  subst hje
  have eR:zE5 (fun j=>(M.getD j []).getD k 0) R m.length=zE5 (fun j=>(M.getD j []).getD k 0) R R.length:=by rw [l1,hml0]
  rw [eR]
  generalize zE5 (fun j=>(M.getD j []).getD k 0) R R.length=R2 at*
  refine rn5 ?_
  refine zb (ι:=Nat) (fun j=>[(7,.ro (zd M) 0 m.length),(8,.sl 0 0 m.length),(9,.sl 1 0 (zS m)),(12,.sl 2 0 (r+1)),(13,iN i),(14,iN k),(58,iN N),(59,iN r),(92,.sl 1 0 (zS m)),(93,iN (zS m)),(94,iN j)]) (fun j=>[some ⟨118,qsC R2⟩,some ⟨118,qsC (zE5 (fun j=>(M.getD i []).getD j 0) C j)⟩,some ⟨94,zx HO2⟩])
   (fun j=>j≤zS m) (fun j=>zS m-j) 0 ⟨⟨rfl,rfl,rfl,rfl,rfl,rfl,rfl,rfl,rfl,rfl,rfl,trivial⟩,by rw [zNA],Nat.zero_le _⟩ ?_
  intro j hj
  refine rn4 ?_
  refine zB Z (fun h=> ?_) (fun h=> ?_)
  ·have hj':j<C.length:=kK
   have hrl:(M.getD i []).length=zS m:=(hv _ (z8 [] kK)).1
   have hkr:j<(M.getD i []).length:=kK
   have hset:=zPR (fun j=>(M.getD i []).getD j 0) C hj'
   have hget:(zE5 (fun j=>(M.getD i []).getD j 0) C j).getD j 0=C.getD j 0:=by rw [zJh (fun j=>(M.getD i []).getD j 0) C hj',if_neg (Nat.lt_irrefl j)]
   have hml:=zJi (fun j=>(M.getD i []).getD j 0) C j
   have hq:=d2 _ (z8 0 hj')
   generalize zE5 (fun j=>(M.getD i []).getD j 0) C j=zs at*
   have hjz:j<zs.length:=kK
   have cadd:zX Tryz.prog 132 [qA (zs.getD j 0),qA ((M.getD i []).getD j 0)] (qA (C.getD j 0+(M.getD i []).getD j 0)):=by
    rw [hget]
    exact zFM _ _ (zBj (m:=100000) (hq.mono kK)) (zBj (m:=100000) ((hel i j).mono kK))
   refine rn1 ?_
   refine zZ kQ ?_
   refine zj (fuel:=1) [0,1,2,3,4,5,6,7,8,9,10,11,12,13,14] [(7,.ro (zd M) 0 m.length),(8,.sl 0 0 m.length),(9,.sl 1 0 (zS m)),(12,.sl 2 0 (r+1)),(13,iN i),(14,iN k),(58,iN N),(59,iN r),(92,.sl 1 0 (zS m)),(93,iN (zS m)),(94,iN j),(16,iN j)] ⟨Z,Z,Z,Z,Z,Z,Z,Z,Z,Z,Z,Z,trivial⟩ kQ kV Z Z ?_
   refine zK Z Z (zH Z) ?_
   refine zK Z Z (zH Z) ?_
   refine zK Z Z (zH Z) ?_
   refine zK Z Z (zH Z) ?_
   refine zK Z Z (zAR Z Z Z Z Z (by first|(simp only [Nat.zero_add,Int.toNat_natCast,Int.toNat_zero];exact Z)|exact Z) kK) ?_
   refine zK Z Z (qpp Z Z Z Z Z Z Z) ?_
   refine zK Z Z (zH Z) ?_
   refine zK Z Z (zH Z) ?_
   refine zK Z Z (zc Z Z Z Z (by first|(simp only [Nat.zero_add,Int.toNat_natCast,Int.toNat_zero];exact Z)|exact Z) kK) ?_
   refine zK Z Z (zBp Z Z Z Z) ?_
   refine zK Z Z (zH Z) ?_
   refine zK Z Z (zc Z Z Z Z (by first|(simp only [Nat.zero_add,Int.toNat_natCast,Int.toNat_zero];exact Z)|exact Z) kK) ?_
   refine zK Z Z (zAc Z Z Z Z Z Z) ?_
   refine zAy Z Z Z Z Z cadd ?_
   refine zK Z Z (zAR Z Z Z Z Z (by first|(simp only [Nat.zero_add,Int.toNat_natCast,Int.toNat_zero];exact Z)|exact Z) kK) ?_
   refine zz ?_
   refine zD (is:=[15]) kQ kJ Z ⟨fun o ho=> ?_,trivial⟩
   all_goals (cases ho)
   skip
   unfold qA
   refine zt (c':=qsC (zs.set j (C.getD j 0+(M.getD i []).getD j 0))) Z Z Z Z Z hjz (by show (zs.set j _).length=zs.length;simp) Z (fun i' j' hi' hj'=>zIw zs j _ hjz i' j' hi' hj') (rn1 ?_)
   refine zT kQ (rn5 ?_)
   exact zI ⟨j+1,kK,kK,⟨Z,Z,Z,Z,Z,Z,Z,Z,Z,Z,Z,trivial⟩,by rw [←hset];rfl⟩
  have hje:j=zS m:=kK
  rw [hje]
  have eC:zE5 (fun j=>(M.getD i []).getD j 0) C (zS m)=zE5 (fun j=>(M.getD i []).getD j 0) C C.length:=by rw [l2]
  rw [eC]
  refine rn5 ?_
  exact zI ⟨r+1,kK,kK,⟨Z,Z,Z,Z,Z,Z,trivial⟩,by rw [e1,hsn]⟩
 ·have hre:r=N:=kK
  subst hre
  rw [hs] at hR
  refine zEW ?_
  refine zAC 2 12 r [] Z (zGK _) Z (by show _≤(zE0 s.out).length;omega) trivial ?_
  refine zv 12 (.ro (zx (zE0 s.out)) 0 (zE0 s.out).length) Z (AEq.of_eq (by rw [hol,l3])) (rn0 ?_)
  exact zM hR Z Z
theorem equalP (a b:zB1)(hlen:a.length≤9223372036854775807)(hlb:b.length≤9223372036854775807):zX Tryz.prog 58 [.ro (zx a) 0 a.length,.ro (zx b) 0 b.length] (.bool (decide (a=b))):=by
 refine zU.value0 (zF (P:=Tryz.prog) (fn:=Tryz.f58) Z Z kQ Z (fun c hR hfix=> ?_)) (fix:=fun _=>False) (fun _ h=>h) Z Z
 refine rn3 ?_
 refine zB Z (fun h=> ?_) (fun h=> ?_)
 ·refine rn2 ?_
  refine zM hR Z ?_
  have: ¬a=b:=by rintro rfl;exact h rfl
  simp [zBs,this]
 have hab:a.length=b.length:=kK
 refine rn3 ?_
 refine zb (ι:=Nat) (fun k=>[(0,.ro (zx a) 0 a.length),(1,.ro (zx b) 0 b.length),(12,iN a.length),(13,iN k)]) (fun _=>[])
  (fun k=>k≤a.length∧a.take k=b.take k) (fun k=>a.length-k) 0 ⟨⟨rfl,rfl,rfl,rfl,trivial⟩,rfl,Nat.zero_le _,rfl⟩ ?_
 intro k ⟨hk,heq⟩
 refine rn4 ?_
 refine zB Z (fun h2=> ?_) (fun h2=> ?_)
 ·have hk':k<a.length:=kK
  have hkb:k<b.length:=kK
  have ha:=zA0 a (0,0) k hk'
  have hb:=zA0 b (0,0) k hkb
  refine rn1 ?_
  refine zZ kQ ?_
  refine zj (fuel:=0) [0,1,2,3,4,5,6,7,8] [(0,.ro (zx a) 0 a.length),(1,.ro (zx b) 0 b.length),(5,iN k),(12,iN a.length),(13,iN k)] ⟨Z,Z,Z,Z,Z,trivial⟩ kQ kV Z Z ?_
  refine zK Z Z (zH Z) ?_
  refine zK Z Z (zH Z) ?_
  refine zK Z Z (zc Z Z Z Z (by first|(simp only [Nat.zero_add,Int.toNat_natCast,Int.toNat_zero];exact Z)|exact Z) kK) ?_
  refine zK Z Z (zAc Z Z Z Z Z Z) ?_
  refine zK Z Z (zH Z) ?_
  refine zK Z Z (zH Z) ?_
  refine zK Z Z (zc Z Z Z Z (by first|(simp only [Nat.zero_add,Int.toNat_natCast,Int.toNat_zero];exact Z)|exact Z) kK) ?_
  refine zK Z Z (zAc Z Z Z Z Z Z) ?_
  refine zK Z Z (q_arrneq (L:=zCa (a.getD k (0,0))) (M:=zCa (b.getD k (0,0))) (b:=decide ((a.getD k (0,0)).1=(b.getD k (0,0)).1) && (decide ((a.getD k (0,0)).2=(b.getD k (0,0)).2) && true)) Z Z Z Z kQ kQ Z) ?_
  refine zz ?_
  refine zT kQ ?_
  repeat (refine zG ?_)
  by_cases h3:a.getD k (0,0)=b.getD k (0,0)
  ·rw [h3,decide_eq_true rfl,decide_eq_true rfl]
   refine rn5 ?_
   exact zI ⟨k+1,⟨kK,by rw [ha,hb,heq,h3]⟩,kK,⟨Z,Z,Z,Z,trivial⟩,Z⟩
  ·have h4:(decide ((a.getD k (0,0)).1=(b.getD k (0,0)).1) && (decide ((a.getD k (0,0)).2=(b.getD k (0,0)).2) && true))=false:=by
    rw [Bool.and_true,←Bool.not_eq_true,Bool.and_eq_true,decide_eq_true_eq,decide_eq_true_eq]
    rintro ⟨e1,e2⟩
    exact h3 (Prod.ext e1 e2)
   rw [h4]
   refine rn6 ?_
   refine zM hR Z ?_
   have: ¬a=b:=by rintro rfl;exact h3 rfl
   simp [zBs,this]
 ·have hk':k=a.length:=kK
  subst hk'
  rw [List.take_length,hab,List.take_length] at heq
  refine rn5 ?_
  refine zM hR Z ?_
  simp [zBs,heq]
def zF1:List (List zAA):=[[[49],[45,49]],[[45,49],[49]]]
theorem zFj:zX Tryz.prog 56 [] (.ro (zA9 zF1) 0 2):=by
 refine zU.value0 (zF (P:=Tryz.prog) (fn:=Tryz.f56) Z Z kQ Z (fun c hR hfix=> ?_)) (fix:=fun _=>False) (fun _ h=>h) Z Z
 refine rn15 ?_
 refine zv 0 (.ro (zA9 zF1) 0 2) Z (AEq.ro Z (fun d j hd hj=> ?_)) ?_
 ·have hd2:d=0∨d=1:=kK
  have hj3:j=0:=by have hj:j<1:=hj;omega
  subst hj3
  rcases hd2 with rfl|rfl<;>rfl
 repeat (refine zBQ ?_)
 exact zM hR Z Z
def allQ:List zAA→List Rat→Bool
 |[],[]=>true
 |s::r,q::t=>decide (IsQ s q) && allQ r t
 |_,_=>false
theorem zHQ: ∀{s:List zAA} {l:List Rat},allQ s l=true→l.map zr=s∧l.all zBd=true
 |[],[],_=>⟨rfl,rfl⟩
 |[],_::_,h=>by cases h
 |_::_,[],h=>by cases h
 |s::r,q::t,h=>by
  simp only [allQ,Bool.and_eq_true,decide_eq_true_eq] at h
  obtain ⟨h1,h2⟩:=zHQ h.2
  rw [List.map_cons,h1,h.1.text,List.all_cons,h2,h.1.fit]
  exact ⟨Z,Z⟩
theorem zPX {s:List zAA}{l:List Rat}(h:allQ s l=true):zBC l=(s,0):=by
 unfold zBC
 rw [if_pos (zHQ h).2,(zHQ h).1]
theorem zME {s t:List zAA}{a b:List Rat}(h1:allQ s a=true)(h2:allQ t b=true):zGR a b=((s,t),0):=by
 unfold zGR
 rw [zPX h1,zPX h2,if_neg kJ,if_neg kJ,(zHQ h1).1,(zHQ h2).1]
def histT:zB1:=[(0,0),(0,1)]
theorem zSA:zEI [[[49],[48]],[[51],[48]]] histT=(([[48],[50]],[[45,49],[49]]),0):=by
 unfold zEI
 rw [if_neg (by decide+kernel)]
 exact zME (by decide+kernel) (by decide+kernel)
theorem f_match:zGG [[51],[45,49],[49]]=([[51,47,52],[48],[49,47,52]],0):=by
 unfold zGG
 rw [if_neg kV,if_neg kV,if_neg (by decide+kernel)]
 exact zPX (by decide+kernel)
theorem zR9:zD6 zF1 histT=(([[49],[48]],[[49,47,50],[49,47,50]]),0):=by
 unfold zD6
 rw [if_neg (by decide+kernel),if_neg kV]
 exact zME (by decide+kernel) (by decide+kernel)
theorem f_bounds:zBB zF1 histT=(([45,49],[48]),0):=by
 have h1:IsQ [45,49] (lowQ (inM zF1) histT (zS zF1)/(histT.length:Nat)):=by decide+kernel
 have h2:IsQ [48] (zIV (inM zF1) histT (zS zF1)/(histT.length:Nat)):=by decide+kernel
 unfold zBB
 rw [if_neg (by decide+kernel),if_neg kV,h1.fit,h2.fit,h1.text,h2.text]
 rfl
theorem f_play:zIX zF1 2=(histT,0):=by decide+kernel
theorem f_hist:zDE zF1 [(2,0)]=4:=by decide+kernel
end Go.Proofs.YtmpnheilfejcpaaGreatDoor
namespace Go.Proofs.YtmpnheilfejcpaaGreatDoor
open Go.Ax Go.Ax.Bg Go.Ax.Rt Go.RowKit Go.Ax.Dt Go.Ax.Sx Go.Ax.Mg
attribute [local irreducible] Ax zB2 QOp zU zBV
theorem zQU (m:List (List zAA))(hm:zD4 m)(hg:zBW m=0)(h1: ∀j,j<zS m→zBl (((inM m).getD 0 []).getD 0 0) (((inM m).getD 0 []).getD j 0)≤0)(h2: ∀j,j<m.length→0≤zBl (((inM m).getD 0 []).getD 0 0) (((inM m).getD j []).getD 0 0)):
 zX Tryz.prog 60 [.ro (zA9 m) 0 m.length] (.tup [.int .i64 0,.int .i64 0,.int .i64 0]):=by
 have c0:=zFx m hm.1 hm.2
 rw [hg] at c0
 have hI:=zIj hg
 have hml:(inM m).length=m.length:=zB7 m
 have hml0:=hI.l
 have hml1:=hI.l12
 have hw0:=hI.w
 have hw1:=hI.w12
 have nm:=zIm m kK (fun r h=>⟨by have:=hI.is.cols r h;omega,fun s hs=>⟨(hm.2 r h).2 s hs,hI.is.ok r h s hs⟩⟩)
 have hv:=zEw (zB3 hg).1
 have hel: ∀i j,i<m.length→j<zS m→Sz 100000 (((inM m).getD i []).getD j 0):=fun i j hi hj=>by
  obtain ⟨v1,v2⟩:=hv _ (z6 [] (show i<(inM m).length by omega))
  exact zBj ((v2 _ (z8 0 kK)).mono kK)
 have hrow: ∀i,i<m.length→((inM m).getD i []).length=zS m:=fun i hi=>(hv _ (z6 [] (show i<(inM m).length by omega))).1
 clear hv
 refine zU.value0 (zF (P:=Tryz.prog) (fn:=Tryz.f60) Z Z kQ Z (fun c hR hfix=> ?_)) (fix:=fun _=>False) (fun _ h=>h) Z Z
 generalize inM m=M at*
 generalize zS m=w at*
 generalize m.length=n at*
 refine rn0 ?_
 refine zA Z Z Z c0 (rn4 ?_)
 refine zA Z Z Z nm (rn3 ?_)
 refine zb (ι:=Unit) (fun _=>[(6,.ro (zd M) 0 n),(21,.ro (zd M) 0 n),(22,iN n),(23,.int .i64 0)]) (fun _=>[]) (fun _=>True) (fun _=>0) () ⟨⟨Z,Z,Z,Z,trivial⟩,Z,trivial⟩ ?_
 rintro _ _
 refine rn4 ?_
 refine zB Z (fun h=> ?_) (fun h=>absurd (show (0:Int)<(n:Nat) by omega) h)
 have hr0:=hrow 0 hml0
 refine rn6 ?_
 refine zv 8 (.ro (qsC (M.getD 0 [])) 0 w) Z (AEq.of_eq (by show AV.ro (qsC (M.getD 0 [])) 0 (M.getD 0 []).length=_;rw [hr0])) ?_
 skip
 refine zv 28 (.ro (qsC (M.getD 0 [])) 0 w) Z (AEq.of_eq (by show AV.ro (qsC (M.getD 0 [])) 0 (M.getD 0 []).length=_;rw [hr0])) ?_
 refine zv 29 (iN w) Z (AEq.of_eq (by rw [hr0])) ?_
 refine zb (ι:=Unit) (fun _=>[(6,.ro (zd M) 0 n),(7,.int .i64 0),(8,.ro (qsC (M.getD 0 [])) 0 w),(28,.ro (qsC (M.getD 0 [])) 0 w),(29,iN w),(30,.int .i64 0)]) (fun _=>[]) (fun _=>True) (fun _=>0) () ⟨⟨Z,Z,Z,Z,Z,Z,trivial⟩,Z,trivial⟩ ?_
 rintro _ _
 refine rn4 ?_
 refine zB Z (fun h=> ?_) (fun h=>absurd (show (0:Int)<(w:Nat) by omega) h)
 refine rn6 ?_
 refine zE 34 (.agg (zJ ((M.getD 0 []).getD 0 0))) Z (AEq.of_eq Z) ?_
 skip
 refine sa1 (c':= .box (zJ ((M.getD 0 []).getD 0 0))) Z Z Z Z Z Z Z (rn3 ?_)
 refine zb (ι:=Nat) (fun j=>[(6,.ro (zd M) 0 n),(7,.int .i64 0),(8,.ro (qsC (M.getD 0 [])) 0 w),(9,.int .i64 0),(10,.ptr 0 0 0),(11,.bool true),(35,.ro (qsC (M.getD 0 [])) 0 w),(36,iN w),(37,iN j)]) (fun _=>[oQ ((M.getD 0 []).getD 0 0)]) (fun j=>j≤w) (fun j=>w-j) 0 ⟨⟨Z,Z,Z,Z,Z,Z,Z,Z,Z,trivial⟩,Z,Nat.zero_le _⟩ ?_
 intro j hj
 refine rn4 ?_
 refine zB Z (fun h=> ?_) (fun h=> ?_)
 ·have hj':j<w:=kK
  have cq:=zEf ((M.getD 0 []).getD 0 0) ((M.getD 0 []).getD j 0) (hel 0 0 hml0 hw0) (hel 0 j hml0 hj')
  have hc:=h1 j hj'
  refine rn1 ?_
  refine zZ kQ ?_
  refine zR 0 Z kQ kQ kQ Z (zH Z) Z ?_
  refine zR 1 Z kQ kQ kQ Z (zH Z) Z ?_
  refine zj (fuel:=0) [2,3,4,5,6,7,8,9,10] [(6,.ro (zd M) 0 n),(7,.int .i64 0),(8,.ro (qsC (M.getD 0 [])) 0 w),(9,.int .i64 0),(10,.ptr 0 0 0),(41,.bool true),(12,iN j),(35,.ro (qsC (M.getD 0 [])) 0 w),(36,iN w),(37,iN j)] ⟨Z,Z,Z,Z,Z,Z,Z,Z,Z,Z,trivial⟩ kQ kV Z Z ?_
  refine zAH Z Z Z Z (qpp Z Z Z Z Z Z Z) ?_
  refine zAH Z Z Z Z (zH Z) ?_
  refine zAH Z Z Z Z (zH Z) ?_
  refine zAH Z Z Z Z (zc Z Z Z Z (by first|(simp only [Nat.zero_add,Int.toNat_natCast,Int.toNat_zero];exact Z)|exact Z) kK) ?_
  refine zAH Z Z Z Z (zAc Z Z Z Z Z Z) ?_
  refine zIY Z Z Z Z Z Z Z cq ?_
  refine zAH Z Z Z Z (q_leq Z Z) ?_
  refine zK Z Z (zAj Z Z) ?_
  refine zK Z Z (zf Z) ?_
  refine zz ?_
  refine zT kQ (rn5 ?_)
  exact zI ⟨j+1,kK,kK,⟨Z,Z,Z,Z,Z,congrArg (fun b=>some (AV.bool b)) (decide_eq_true hc),Z,Z,Z,trivial⟩,Z⟩
 ·refine rn5 ?_
  refine zb (ι:=Nat) (fun j=>[(6,.ro (zd M) 0 n),(7,.int .i64 0),(8,.ro (qsC (M.getD 0 [])) 0 w),(9,.int .i64 0),(10,.ptr 0 0 0),(11,.bool true),(51,.ro (zd M) 0 n),(52,iN n),(53,iN j)]) (fun _=>[oQ ((M.getD 0 []).getD 0 0)]) (fun j=>j≤n) (fun j=>n-j) 0 ⟨⟨Z,Z,Z,Z,Z,Z,Z,Z,Z,trivial⟩,Z,Nat.zero_le _⟩ ?_
  intro j hj
  refine rn4 ?_
  refine zB Z (fun h=> ?_) (fun h=> ?_)
  ·have hj':j<n:=kK
   have cq:=zEf ((M.getD 0 []).getD 0 0) ((M.getD j []).getD 0 0) (hel 0 0 hml0 hw0) (hel j 0 hj' hw0)
   have hc:=h2 j hj'
   have hrj:=hrow j hj'
   have hpos:0<(M.getD j []).length:=kK
   refine rn1 ?_
   refine zZ kQ ?_
   refine zR 0 Z kQ kQ kQ Z (zH Z) Z ?_
   refine zR 1 Z kQ kQ kQ Z (zH Z) Z ?_
   refine zj (fuel:=0) [2,3,4,5,6,7,8,9,10,11,12,13] [(6,.ro (zd M) 0 n),(7,.int .i64 0),(8,.ro (qsC (M.getD 0 [])) 0 w),(9,.int .i64 0),(10,.ptr 0 0 0),(57,.bool true),(13,iN j),(51,.ro (zd M) 0 n),(52,iN n),(53,iN j)] ⟨Z,Z,Z,Z,Z,Z,Z,Z,Z,Z,trivial⟩ kQ kV Z Z ?_
   refine zAH Z Z Z Z (qpp Z Z Z Z Z Z Z) ?_
   refine zAH Z Z Z Z (zH Z) ?_
   refine zAH Z Z Z Z (zH Z) ?_
   refine zAH Z Z Z Z (zc Z Z Z Z (by first|(simp only [Nat.zero_add,Int.toNat_natCast,Int.toNat_zero];exact Z)|exact Z) kK) ?_
   refine zAH Z Z Z Z (zBp Z Z Z Z) ?_
   refine zAH Z Z Z Z (zH Z) ?_
   refine zAH Z Z Z Z (zc Z Z Z Z (by first|(simp only [Nat.zero_add,Int.toNat_natCast,Int.toNat_zero];exact Z)|exact Z) kK) ?_
   refine zAH Z Z Z Z (zAc Z Z Z Z Z Z) ?_
   refine zIY Z Z Z Z Z Z Z cq ?_
   refine zAH Z Z Z Z (zHL Z Z) ?_
   refine zK Z Z (zAj Z Z) ?_
   refine zK Z Z (zf Z) ?_
   refine zz ?_
   refine zT kQ (rn5 ?_)
   exact zI ⟨j+1,kK,kK,⟨Z,Z,Z,Z,Z,congrArg (fun b=>some (AV.bool b)) (decide_eq_true hc),Z,Z,Z,trivial⟩,Z⟩
  ·refine rn6 ?_
   exact zM hR Z Z
theorem fineI4:zX Tryz.prog 19 [.ro (.ints .i64 [0,0,0,0]) 0 4] (.bool true):=fineI [0,0,0,0] kV
theorem zLj {m:List (List zAA)}(h1:m.length≤1000)(h2:m.all (fun r=>decide (r.length≤1000) && r.all (fun s=>decide (s.length≤1000)))=true):zD4 m:=by
 refine ⟨kK,fun r hr=> ?_⟩
 have:=List.all_eq_true.1 h2 r hr
 rw [Bool.and_eq_true,decide_eq_true_eq,List.all_eq_true] at this
 exact ⟨kK,fun s hs=>by have:=this.2 s hs;rw [decide_eq_true_eq] at this;omega⟩
theorem zEY {r:List zAA}(h1:r.length≤1000)(h2:r.all (fun s=>decide (s.length≤1000))=true):zFD r:=
 ⟨kK,fun s hs=>by have:=List.all_eq_true.1 h2 s hs;rw [decide_eq_true_eq] at this;omega⟩
theorem pen_D: ∀r∈inM zEM,∀q∈r,D 48 q:=by
 have h:(inM zEM).all (fun r=>r.all (fun q=>decide (q.num.natAbs<10^48) && decide (q.den<10^48)))=true:=by decide+kernel
 intro r hr q hq
 have:=List.all_eq_true.1 (List.all_eq_true.1 h r hr) q hq
 rw [Bool.and_eq_true,decide_eq_true_eq,decide_eq_true_eq] at this
 exact ⟨this.1,this.2⟩
theorem zKO:zX Tryz.prog 14 [] (.bool true):=by
 have pk:zX Tryz.prog 56 [] (.ro (zA9 zEM) 0 2):=zFj
 have sp:zD4 zEM:=zLj kV kV
 have ss:zD4 sadT:=zLj kV kV
 have c1:=zLH zEM 0 2 48 sp zLN kV pen_D zSb (by rw [pen_q];decide+kernel) (by rw [pen_q];exact ⟨rfl,kV⟩)
 have e1:zNu (zAu (inM zEM) (zS zEM) 0 2)=([48],[zAv,zAv],[zAv,zAv]):=by
  have:=zSa
  unfold zE4 at this
  rw [if_neg (fun q=>q zLN),if_pos (by rw [pen_q];decide+kernel)] at this
  exact (Prod.mk.inj this).1
 rw [e1] at c1
 have c2:=pay_ok zEM [[49],[48]] [[49],[48]] sp (zEY kV kV) (zEY kV kV)
 rw [pen_pay] at c2
 have c3:=zQU sadT ss zO8 (by decide+kernel) (by decide+kernel)
 have c4:=zNQ sadT ss
 have e4:domR sadT=([1],0):=by
  unfold domR
  rw [if_neg (fun q=>q zO8),show sadT.length=(inM sadT).length from rfl,domI_all,sad_dom]
  rfl
 rw [e4] at c4
 have c5:=zLI zEM [48] [zAv,zAv] [zAv,zAv] sp kV (zEY kV kV) (zEY kV kV)
 rw [pen_ver] at c5
 have c6:=zLI zEM [49] [zAv,zAv] [zAv,zAv] sp kV (zEY kV kV) (zEY kV kV)
 rw [pen_bad] at c6
 have c7:=zFx [] kV (fun r h=>by cases h)
 rw [show zBW []=8 by decide] at c7
 have v1:=zJx [zAv,zAv] [zAv,zAv] kV kV
 have v2:=equalI [1] [1] kV kV
 rw [decide_eq_true rfl] at v1 v2
 refine zU.value0 (zF (P:=Tryz.prog) (fn:=Tryz.f14) Z Z kQ Z (fun c hR hfix=> ?_)) (fix:=fun _=>False) (fun _ h=>h) Z Z
 refine rn0 ?_
 refine zA Z Z Z pk ?_
 refine zA Z Z Z c1 (rn4 ?_)
 refine sa1 (c':= .box [.str [48],.ro (.strs [zAv,zAv]) 0 2,.ro (.strs [zAv,zAv]) 0 2]) Z Z Z Z Z Z Z (rn0 ?_)
 refine zA Z Z Z pk ?_
 repeat (refine ze rfl rfl rfl rfl rfl rfl rfl rfl rfl rfl rfl ?_)
 refine zA Z Z Z c2 ?_
 unfold pairA
 refine rn3 ?_
 refine zE 26 (.ro (zA9 sadT) 0 2) Z (AEq.ro Z (fun d j hd hj=> ?_)) ?_
 ·have hd2:d=0∨d=1:=kK
  have hj3:j=0:=by have hj:j<1:=hj;omega
  subst hj3
  rcases hd2 with rfl|rfl<;>rfl
 refine zA Z Z Z c3 (rn3 ?_)
 refine zE 34 (.ro (zA9 sadT) 0 2) Z (AEq.ro Z (fun d j hd hj=> ?_)) ?_
 ·have hd2:d=0∨d=1:=kK
  have hj3:j=0:=by have hj:j<1:=hj;omega
  subst hj3
  rcases hd2 with rfl|rfl<;>rfl
 refine zA Z Z Z c4 ?_
 unfold domA
 refine rn6 ?_
 refine sa1 (c':= .box [.str [48],.ro (.strs [zAv,zAv]) 0 2,.ro (.strs [zAv,zAv]) 0 2]) Z Z Z Z Z Z Z (rn8 ?_)
 refine zAs [some ⟨34,.box [.str [48],.ro (.strs [zAv,zAv]) 0 2,.ro (.strs [zAv,zAv]) 0 2]⟩,some ⟨34,.box [.str [49],.ro (.strs [zAv,zAv]) 0 2,.ro (.strs [zAv,zAv]) 0 2]⟩] Z ?_
 refine zZ kQ ?_
 refine zDB (fuel:=0) [0,1,2,3,4,5,6,7,8,9,10,11,12,13,14,15,16,17,18,19,20,21,22,23,24,25,26,27,28,29,30,31,32,33,34,35,36,37,38,39,40,41,42,43,44,45,46,47,48,49,50] [(1,.ptr 0 0 0),(2,.int .i64 0),(3,.str [49]),(4,.int .i64 0),(5,.int .i64 0),(6,.int .i64 0),(7,.int .i64 0),(8,.ro (.ints .i64 [1]) 0 1),(9,.int .i64 0),(10,.ptr 1 0 0)] ⟨Z,Z,Z,Z,Z,Z,Z,Z,Z,Z,trivial⟩ kQ kV Z Z ?_
 refine zK Z Z (zH Z) ?_
 refine zK Z Z (zH Z) ?_
 refine zK Z Z (zH Z) ?_
 refine zK Z Z (zH Z) ?_
 refine px_b Z Z Z Z Z Z Z Z Z Z Z Z Z ?_
 refine zAy Z Z Z Z Z fineI4 ?_
 refine zK Z Z (zH Z) ?_
 refine zAH Z Z Z Z (zN Z Z Z Z Z Z) ?_
 refine zAH Z Z Z Z (zY Z Z Z Z Z) ?_
 refine zAH Z Z Z Z (zGm Z Z) ?_
 refine zK Z Z (zAj Z Z) ?_
 refine zK Z Z (zH Z) ?_
 refine zAH Z Z Z Z (zN Z Z Z Z Z Z) ?_
 refine zAH Z Z Z Z (zY Z Z Z Z Z) ?_
 refine px_gb Z Z Z Z Z Z Z Z Z Z Z Z Z Z Z ?_
 refine zIY Z Z Z Z Z Z Z v1 ?_
 refine zK Z Z (zAj Z Z) ?_
 refine zK Z Z (zH Z) ?_
 refine zAH Z Z Z Z (zH Z) ?_
 refine zAH Z Z Z Z (zGm Z Z) ?_
 refine zK Z Z (zAj Z Z) ?_
 refine zK Z Z (zH Z) ?_
 refine zAH Z Z Z Z (zH Z) ?_
 refine zAH Z Z Z Z (zEu Z Z) ?_
 refine zK Z Z (zAj Z Z) ?_
 refine zK Z Z (zH Z) ?_
 refine zAH Z Z Z Z (zH Z) ?_
 refine zAH Z Z Z Z (zEu Z Z) ?_
 refine zK Z Z (zAj Z Z) ?_
 refine zK Z Z (zH Z) ?_
 refine zAH Z Z Z Z (zH Z) ?_
 refine px_gb Z Z Z Z Z Z Z Z Z Z Z Z Z Z Z ?_
 refine zIY Z Z Z Z Z Z Z v2 ?_
 refine zK Z Z (zAj Z Z) ?_
 refine zK Z Z (zH Z) ?_
 refine zIY Z Z Z Z Z Z Z pk ?_
 refine zAH Z Z Z Z (qpp Z Z Z Z Z Z Z) ?_
 refine zIY Z Z Z Z Z Z Z c5 ?_
 refine zAH Z Z Z Z (zEu Z Z) ?_
 refine zK Z Z (zAj Z Z) ?_
 refine zK Z Z (zH Z) ?_
 refine zIY Z Z Z Z Z Z Z pk ?_
 refine zAH Z Z Z Z (qpp Z Z Z Z Z Z Z) ?_
 refine zIY Z Z Z Z Z Z Z c6 ?_
 refine zAH Z Z Z Z (zEu Z Z) ?_
 refine zK Z Z (zAj Z Z) ?_
 refine zK Z Z (zH Z) ?_
 refine zIY Z Z Z Z Z Z Z (fun H=>zU.args (c7 H) ⟨AEq.nil,trivial⟩) ?_
 refine zAH Z Z Z Z (zEu Z Z) ?_
 refine zK Z Z (zAj Z Z) ?_
 refine zK Z Z (zf Z) ?_
 refine zz ?_
 refine zT kQ (rn0 ?_)
 exact zM hR Z Z
theorem zF8 {q:Rat}(h:zBd q=true):(zr q).length≤9223372036854775807:=by
 have hf:=h
 unfold zBd at hf
 rw [Bool.and_eq_true,decide_eq_true_eq,decide_eq_true_eq] at hf
 unfold zr
 rw [List.length_append,List.length_append]
 split<;>split<;>simp<;>omega
structure Gsol (m:List (List zAA))(K L:Nat)(v:zAA)(rs cs:List zAA):Prop where
 s:Solv m K L
 eq:zE4 m K L=((v,rs,cs),0)
 vl:v.length≤9223372036854775807
 rl:zFD rs
 cl:zFD cs
 call:zX Tryz.prog 17 [.ro (zA9 m) 0 m.length] (.tup [.agg [.str v,.ro (.strs rs) 0 rs.length,.ro (.strs cs) 0 cs.length],.int .i64 0])
theorem gsol (m:List (List zAA))(n k:Nat)(hn:n≤5)(hm:zD4 m)(hg:zBW m=0)(hk:k≤48)(hD: ∀r∈inM m,∀q∈r,D k q)(S: ∀K L,Stops (zAi (inM m) (zS m)) K L→Solv m K L): ∃K L v rs cs,Stops (zAi (inM m) (zS m)) K L∧Gsol m K L v rs cs:=by
 have hI:=zIj hg
 obtain ⟨K,L,hs⟩:=runs (zAi (inM m) (zS m)) (zGg hI.rows)
 have T:=S K L hs
 have hf:zMX (zAu (inM m) (zS m) K L)=true:=by
  have:=T.eq
  unfold zE4 at this
  rw [if_neg (fun q=>q hg)] at this
  split at this
  ·assumption
  ·cases (Prod.mk.inj this).2
 have hl1:=T.sad.xl
 have hl2:=T.sad.yl
 rw [zB7] at hl1
 have c:=zLH m K L k hm hg hk hD hs hf ⟨hl1,hl2⟩
 have hfa: ∀q∈(zAu (inM m) (zS m) K L).1::((zAu (inM m) (zS m) K L).2.1++(zAu (inM m) (zS m) K L).2.2),zBd q=true:=List.all_eq_true.1 hf
 refine ⟨K,L,_,_,_,hs,T,T.eq,zF8 (hfa _ (List.mem_cons_self ..)),⟨?_,fun s hs=> ?_⟩,⟨?_,fun s hs=> ?_⟩,c⟩
 ·show (List.map _ _).length≤_
  have:=hI.l12
  rw [List.length_map,hl1];omega
 ·obtain ⟨q,hq,rfl⟩:=List.mem_map.1 hs
  exact zF8 (hfa _ (List.mem_cons_of_mem _ (List.mem_append_left _ hq)))
 ·show (List.map _ _).length≤_
  have:=hI.w12
  rw [List.length_map,hl2];omega
 ·obtain ⟨q,hq,rfl⟩:=List.mem_map.1 hs
  exact zF8 (hfa _ (List.mem_cons_of_mem _ (List.mem_append_right _ hq)))
theorem zSJ (m:List (List zAA))(n:Nat)(hn:n≤5)(hm:zD4 m)(hg:zBW m=0)(ht:zLw n 12 m=true): ∃K L v rs cs,Stops (zAi (inM m) (zS m)) K L∧Gsol m K L v rs cs:=by
 obtain ⟨t1,t2⟩:=zM9 ht
 exact gsol m n 48 hn hm hg kV (fun r hr q hq=>(inM_D (zIj hg).is (fun v hv=>(t2 v hv).2) kV r hr q hq).mono kV) (fun K L hs=>zS5 hn hg ht hs)
theorem zMu {s:zAA}(h:zDH s=0):s.length≤9223372036854775807:=by
 have hi:=IsQ.self h
 rw [←hi.text]
 exact zF8 hi.fit
theorem zQr {a b:zAA}(h1:zDH a=0)(h2:zDH b=0):cmpR a b=(zBl (zAG a) (zAG b),0):=by
 unfold cmpR
 rw [if_pos (by simp [zEL,h1,h2])]
theorem mats1 (m:List (List zAA)):AEq (.ro (zCE 1 1 [.ro (zA9 m) 0 m.length]) 0 1) (.ro (zOe [m]) 0 1):=AEq.ro rfl (fun d j hd hj=>by
 obtain rfl:d=0:=kK
 have hj3:j=0:=by have hj:j<1:=hj;omega
 subst hj3
 rfl)
end Go.Proofs.YtmpnheilfejcpaaGreatDoor
namespace Go.Proofs.YtmpnheilfejcpaaGreatDoor
open Go.Ax Go.Ax.Bg Go.Ax.Rt Go.RowKit Go.Ax.Idx Go.Ax.Cd
attribute [local irreducible] Ax zB2 QOp zU zBV
def factT:List (List zAA):=[[[49],[48]],[[51],[48]]]
theorem zFn {m:List (List zAA)}(h:(m.all fun r=>decide (r.length≤100) && r.all fun s=>decide (s.length≤100))=true): ∀r∈m,r.length≤9223372036854775807∧ ∀s∈r,s.length≤9223372036854775807:=by
 intro r hr
 have h1:=List.all_eq_true.1 h r hr
 simp only [Bool.and_eq_true,decide_eq_true_eq,List.all_eq_true] at h1
 exact ⟨kK,fun s hs=>by have:=h1.2 s hs;omega⟩
theorem r_fine:zX Tryz.prog 19 [.ro (.ints .i64 [0,0,0,0,0]) 0 5] (.bool true):=fineI [0,0,0,0,0] kV
theorem zQQ:zX Tryz.prog 13 [] (.bool true):=by
 have c1:=zQR factT histT kV kV (zFn kV)
 rw [show zEI factT histT=_ from zSA] at c1
 have c2:=match_ok [[51],[45,49],[49]] kV kV
 rw [f_match] at c2
 have c3:=zPZ zF1 histT kV kV (zFn kV)
 rw [zR9] at c3
 have c4:=play_ok zF1 2 kV (zFn kV)
 rw [f_play] at c4
 have c5:=zMJ zF1 histT kV kV (zFn kV)
 rw [f_bounds] at c5
 have c6:=zKi zF1 [(2,0)] kV kV (zFn kV)
 rw [f_hist] at c6
 have v1:=zJx [[48],[50]] [[48],[50]] kV kV
 have v2:=zJx [[45,49],[49]] [[45,49],[49]] kV kV
 have v3:=zJx [[51,47,52],[48],[49,47,52]] [[51,47,52],[48],[49,47,52]] kV kV
 have v4:=zJx [[49],[48]] [[49],[48]] kV kV
 have v5:=zJx [[49,47,50],[49,47,50]] [[49,47,50],[49,47,50]] kV kV
 have v6:=equalP histT histT kV kV
 rw [decide_eq_true rfl] at v1 v2 v3 v4 v5 v6
 refine zU.value0 (zF (P:=Tryz.prog) (fn:=Tryz.f13) Z Z kQ Z (fun c hR hfix=> ?_)) (fix:=fun _=>False) (fun _ h=>h) Z Z
 refine rn8 ?_
 refine zE 1 (.ro (zx histT) 0 2) Z (AEq.ro Z (fun d j hd hj=> ?_)) ?_
 ·have hd2:d=0∨d=1:=kK
  have hj3:j=0∨j=1:=by have hj:j<2:=hj;omega
  rcases hd2 with rfl|rfl<;>rcases hj3 with rfl|rfl<;>rfl
 refine zE 22 (.ro (zx histT) 0 2) Z (AEq.ro Z (fun d j hd hj=> ?_)) ?_
 ·have hd2:d=0∨d=1:=kK
  have hj3:j=0∨j=1:=by have hj:j<2:=hj;omega
  rcases hd2 with rfl|rfl<;>rcases hj3 with rfl|rfl<;>rfl
 refine zE 21 (.ro (zA9 factT) 0 2) Z (AEq.ro Z (fun d j hd hj=> ?_)) ?_
 ·have hd2:d=0∨d=1:=kK
  have hj3:j=0:=by have hj:j<1:=hj;omega
  subst hj3
  rcases hd2 with rfl|rfl<;>rfl
 refine zA Z Z Z c1 ?_
 unfold zK1
 refine rn3 ?_
 refine zA Z Z Z c2 ?_
 unfold vecP
 refine rn2 ?_
 refine zA Z Z Z zFj ?_
 repeat (refine zL (zH rfl) ?_)
 refine zA Z Z Z c3 ?_
 unfold zK1
 refine rn2 ?_
 refine zA Z Z Z zFj ?_
 skip
 refine zA Z Z Z c4 ?_
 unfold histA
 refine rn2 ?_
 refine zA Z Z Z zFj ?_
 repeat (refine zL (zH rfl) ?_)
 refine zA Z Z Z c5 ?_
 unfold zKb
 refine rn3 ?_
 refine zA Z Z Z r_fine (rn3 ?_)
 refine zA Z Z Z v1 (rn3 ?_)
 refine zA Z Z Z v2 (rn3 ?_)
 refine zA Z Z Z v3 (rn3 ?_)
 refine zA Z Z Z v4 (rn3 ?_)
 refine zA Z Z Z v5 (rn8 ?_)
 refine zE 87 (.ro (zx histT) 0 2) Z (AEq.ro Z (fun d j hd hj=> ?_)) ?_
 ·have hd2:d=0∨d=1:=kK
  have hj3:j=0∨j=1:=by have hj:j<2:=hj;omega
  rcases hd2 with rfl|rfl<;>rcases hj3 with rfl|rfl<;>rfl
 refine zA Z Z Z v6 (rn6 ?_)
 refine zA Z Z Z zFj (rn8 ?_)
 refine zE 101 (.ro (zx [(2,0)]) 0 1) Z (AEq.ro Z (fun d j hd hj=> ?_)) ?_
 ·have hd2:d=0:=kK
  have hj3:j=0∨j=1:=by have hj:j<2:=hj;omega
  subst hd2
  rcases hj3 with rfl|rfl<;>rfl
 refine zA Z Z Z c6 (rn4 ?_)
 exact zM hR Z Z
end Go.Proofs.YtmpnheilfejcpaaGreatDoor
namespace Go.Proofs.YtmpnheilfejcpaaGreatDoor
open Go.Ax Go.Ax.Bg Go.Ax.Rt Go.RowKit Go.Ax.Dt Go.Ax.Sx Go.Ax.Mg
attribute [local irreducible] Ax zB2 QOp zU zBV
theorem fineI3:zX Tryz.prog 19 [.ro (.ints .i64 [0,0,0]) 0 3] (.bool true):=fineI [0,0,0] kV
theorem zOD {m:List (List zAA)}{l:zB1}(h:(zBB m l).2≠0):(zBB m l).1=([],[]):=by
 unfold zBB at h⊢
 split
 ·rfl
 ·split
  ·rfl
  ·split
   ·rename_i h1 h2 h3
    rw [if_neg h1,if_neg h2,if_pos h3] at h
    exact absurd Z h
   ·rfl
theorem zOC {m:List (List zAA)}{l:zB1}(h:(zBB m l).2=0):zBW m=0:=by
 unfold zBB at h
 split at h
 ·rename_i h1;exact absurd h h1
 rename_i h1
 exact (zDo (Classical.not_not.1 h1)).1
theorem zJo (m:List (List zAA))(l:zB1)(hm:zD4 m)(hl:l.length≤9223372036854775807):zX Tryz.prog 3 [.ro (zA9 m) 0 m.length,.ro (zx l) 0 l.length] (.bool true):=by
 have cs:=zSs 4 [m] kV (by show 1≤9223372036854775807;decide) (fun x hx=>by rw [List.mem_singleton.1 hx];exact hm)
 have cb:=zMJ m l hl hm.1 hm.2
 refine zU.value0 (zF (P:=Tryz.prog) (fn:=Tryz.f3) Z Z kQ Z (fun cx hR hfix=> ?_)) (fix:=fun _=>False) (fun _ h=>h) Z Z
 refine rn0 ?_
 refine zA Z Z Z zQQ (rn5 ?_)
 refine zA Z Z Z zKO (rn5 ?_)
 refine zE 21 (.ro (zOe [m]) 0 1) Z (mats1 m) ?_
 refine zA Z Z Z cs ?_
 cases hs:([m].all (zLw 4 12))
 ·refine rn6 ?_
  exact zM hR Z Z
 have ht:zLw 4 12 m=true:=by simpa using hs
 refine rn6 ?_
 refine zB Z (fun h40=> ?_) (fun h40=> ?_)
 ·refine rn2 ?_
  exact zM hR Z Z
 refine rn1 ?_
 refine zA Z Z Z cb ?_
 have hbn:=zOD (m:=m) (l:=l)
 have hbg:=zOC (m:=m) (l:=l)
 by_cases he:(zBB m l).2=0
 case neg=>
  have hbn:=hbn he
  generalize zBB m l=B at*
  obtain ⟨⟨lo,hi⟩,e⟩:=B
  obtain ⟨rfl,rfl⟩:=Prod.mk.inj hbn
  unfold zKb
  refine rn3 ?_
  refine zB Z (fun _=> ?_) (fun q=>absurd he (fun r=>q r))
  refine rn6 ?_
  exact zM hR Z Z
 have hg:=hbg he
 obtain ⟨K,L,v,rs,cs1,hst,G⟩:=zSJ m 4 kV hm hg ht
 obtain ⟨b1,b2,b3,b4,b5⟩:=zSR G.s he
 rw [G.eq] at b3 b4 b5
 have b3:zDH v=0:=b3
 have b4:zBl (zAG (zBB m l).1.1) (zAG v)≤0:=b4
 have b5:zBl (zAG v) (zAG (zBB m l).1.2)≤0:=b5
 have cz:=G.call
 generalize zBB m l=B at*
 obtain ⟨⟨lo,hi⟩,e⟩:=B
 simp only at b1 b2 b4 b5 he
 subst he
 have c1:=zRQ lo v (zMu b1) G.vl
 rw [zQr b1 b3] at c1
 have c2:=zRQ v hi G.vl (zMu b2)
 rw [zQr b3 b2] at c2
 unfold zKb
 refine rn4 ?_
 refine zA Z Z Z cz (rn4 ?_)
 refine sa1 (c':= .box [.str v,.ro (.strs rs) 0 rs.length,.ro (.strs cs1) 0 cs1.length]) Z Z Z Z Z Z Z (rn5 ?_)
 refine zA Z Z Z c1 (rn5 ?_)
 refine zA Z Z Z c2 (rn3 ?_)
 refine zA Z Z Z fineI3 (rn8 ?_)
 refine zAm Z Z (fun _=> ?_) (fun q=>absurd b4 q)
 refine rn8 ?_
 refine zM hR Z ?_
 show AV.bool (decide (zBl (zAG v) (zAG hi)≤0))=_
 rw [decide_eq_true b5]
end Go.Proofs.YtmpnheilfejcpaaGreatDoor
