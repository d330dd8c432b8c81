import Derived.Test.YtmpnheilfejcpaaGreatDoorB5
set_option linter.unusedVariables false
set_option linter.unusedSimpArgs false
set_option maxRecDepth 100000
set_option maxHeartbeats 4000000
namespace Go.Proofs.YtmpnheilfejcpaaGreatDoor
open Go.Ax Go.Ax.Bg Go.Ax.Rt Go.RowKit
attribute [local irreducible] Ax zB2 QOp zU zBV
theorem zQi {n k m:Nat}(h:k<(zW n).length)(hm:m≤9*k):m<(Lib.decDigits n).length:=by
 rcases Nat.lt_or_ge m (Lib.decDigits n).length with q|q
 ·exact q
 exfalso
 have h1:=zDu n
 have h2:10^(Lib.decDigits n).length≤10^(9*k):=Nat.pow_le_pow_right kV kK
 have h3:10^(9*k)≤B^k:=by rw [Nat.pow_mul];exact Nat.pow_le_pow_left kV k
 have h4: ¬n<B^k:=fun h5=>by have:=zAh h5;omega
 omega
theorem zNU (q:Rat)(hq:Sz 100000 q):zX Tryz.prog 181 [qA q,.int .i64 2000] (.bool (zBd q)):=by
 have h1:=zKt q.num.natAbs (by have:=hq.1;omega)
 have h3:=zKt q.den (by have:=hq.2;omega)
 have l1:=zD9 hq.1 kV
 have l2:=zD9 hq.2 kV
 have g1:=hq.1
 have g2:=hq.2
 have b1:= @zQi q.num.natAbs 224 2000
 have b2:= @zQi q.den 224 2000
 unfold zBd
 refine zU.value0 (zF (P:=Tryz.prog) (fn:=Tryz.f181) Z Z kQ Z (fun c hR hfix=> ?_)) (fix:=fun _=>False) (fun _ h=>h) Z Z
 unfold qA
 unfold zm at h1 h3⊢
 refine rn15 ?_
 refine zB Z (fun h0=> ?_) (fun h0=> ?_)
 ·refine rn2 ?_
  refine zM hR Z ?_
  have h5:224<(zW q.num.natAbs).length∨224<(zW q.den).length:=by
   split at h0<;>omega
  have h6: ¬((Lib.decDigits q.num.natAbs).length≤2000∧(Lib.decDigits q.den).length≤2000):=by
   rcases h5 with h5|h5
   ·have:=b1 h5 kV;omega
   ·have:=b2 h5 kV;omega
  rw [←Bool.decide_and,decide_eq_false h6]
  rfl
 ·refine rn5 ?_
  refine zA Z Z Z h1 (rn8 ?_)
  refine zAm Z Z (fun h5=> ?_) (fun h5=> ?_)
  ·refine rn5 ?_
   refine zA Z Z Z h3 (rn8 ?_)
   refine zM hR Z ?_
   rw [show decide ((Lib.decDigits q.num.natAbs).length≤2000)=true from decide_eq_true kK,Bool.true_and]
   show AV.bool _=AV.bool _
   rw [show decide (((Lib.decDigits q.den).length:Int)≤2000)=decide ((Lib.decDigits q.den).length≤2000) from by rw [decide_eq_decide];omega]
  ·refine rn6 ?_
   refine zM hR Z ?_
   rw [show decide ((Lib.decDigits q.num.natAbs).length≤2000)=false from decide_eq_false kK,Bool.false_and]
   rfl
theorem zNj (q:Rat)(hq:Sz 100000 q)(h:zBd q=true):zX Tryz.prog 96 [qA q] (.tup [.str (zr q),.int .i64 0]):=by
 have h1:=zNU q hq
 have h2:=qtext_ok q hq
 rw [h] at h1
 refine zU.value0 (zF (P:=Tryz.prog) (fn:=Tryz.f96) Z Z kQ Z (fun c hR hfix=> ?_)) (fix:=fun _=>False) (fun _ h=>h) Z Z
 refine rn6 ?_
 refine zA Z Z Z h1 (rn6 ?_)
 refine zA Z Z Z h2 (rn0 ?_)
 exact zM hR Z Z
theorem out_no (q:Rat)(hq:Sz 100000 q)(h:zBd q=false):zX Tryz.prog 96 [qA q] (.tup [.str [],.int .i64 2]):=by
 have h1:=zNU q hq
 rw [h] at h1
 refine zU.value0 (zF (P:=Tryz.prog) (fn:=Tryz.f96) Z Z kQ Z (fun c hR hfix=> ?_)) (fix:=fun _=>False) (fun _ h=>h) Z Z
 refine rn6 ?_
 refine zA Z Z Z h1 (rn5 ?_)
 exact zM hR Z Z
theorem out_ok (q:Rat)(hq:Sz 100000 q):zX Tryz.prog 96 [qA q] (pairA (outF q)):=by
 unfold outF
 cases h:zBd q
 ·exact out_no q hq h
 ·exact zNj q hq h
theorem zMv (s:List UInt8)(hs:s.length≤9223372036854775807):zX Tryz.prog 82 [.str s] (.int .i64 (zDH s)):=by
 have h1:=cutNeg s kK
 have h2:=cutBar s hs
 obtain ⟨ln,ld⟩:=zSZ s
 have h3:=zMS (zE1 s) kK
 have h4:=zMS (zEz s) kK
 have cn:= @zEQ (zE1 s)
 have cd:= @zEQ (zEz s)
 unfold zDH
 generalize zE1 s=n at*
 generalize zEz s=d at*
 generalize zHN s=ok at*
 generalize zD0 s=ng at*
 generalize zE7 s=b at*
 generalize zGA n=p at*
 generalize zGA d=q at*
 refine zU.value0 (zF (P:=Tryz.prog) (fn:=Tryz.f82) Z Z kQ Z (fun c hR hfix=> ?_)) (fix:=fun _=>False) (fun _ h=>h) Z Z
 refine rn0 ?_
 refine zA Z Z Z h1 (rn2 ?_)
 refine zA Z Z Z h2 ?_
 refine zBq ?_
 by_cases hsyn:p=false∨(ok=true∧q=false)∨(ng=true∧n=[48])
 ·rw [if_pos hsyn] at hR
  cases p
  ·refine rn0 ?_
   refine zA Z Z Z h3 (rn16 ?_)
   exact zM hR Z Z
  ·cases ok
   ·obtain ⟨hng,hn⟩:ng=true∧n=[48]:=by simpa using hsyn
    subst hng
    subst hn
    refine rn0 ?_
    refine zA Z Z Z h3 (rn6 ?_)
    exact zM hR Z Z
   ·cases q
    ·refine rn0 ?_
     refine zA Z Z Z h3 (rn5 ?_)
     refine zA Z Z Z h4 (rn16 ?_)
     exact zM hR Z Z
    ·obtain ⟨hng,hn⟩:ng=true∧n=[48]:=by simpa using hsyn
     subst hng
     subst hn
     refine rn0 ?_
     refine zA Z Z Z h3 (rn5 ?_)
     refine zA Z Z Z h4 (rn6 ?_)
     exact zM hR Z Z
 rw [if_neg hsyn] at hR
 apply zAX (H:=[]) [(5,.str n),(6,.str d),(7,.bool ok)]
 ·intro fin
  cases p
  ·exact absurd (.inl Z) hsyn
  cases ok
  ·cases ng
   ·refine rn0 ?_
    refine zA Z Z Z h3 ?_
    refine zBq ?_
    exact fin _ ⟨Z,Z,Z,trivial⟩
   ·refine rn0 ?_
    refine zA Z Z Z h3 ?_
    refine zBq ?_
    refine zB Z (fun h0=>absurd (.inr (.inr ⟨Z,h0⟩)) hsyn) (fun h0=> ?_)
    refine zBq ?_
    exact fin _ ⟨Z,Z,Z,trivial⟩
  ·cases q
   ·exact absurd (.inr (.inl ⟨Z,Z⟩)) hsyn
   cases ng
   ·refine rn0 ?_
    refine zA Z Z Z h3 (rn5 ?_)
    refine zA Z Z Z h4 ?_
    refine zBq ?_
    exact fin _ ⟨Z,Z,Z,trivial⟩
   ·refine rn0 ?_
    refine zA Z Z Z h3 (rn5 ?_)
    refine zA Z Z Z h4 ?_
    refine zBq ?_
    refine zB Z (fun h0=>absurd (.inr (.inr ⟨Z,h0⟩)) hsyn) (fun h0=> ?_)
    refine zBq ?_
    exact fin _ ⟨Z,Z,Z,trivial⟩
 by_cases hl:2000<n.length∨2000<d.length
 ·rw [if_pos hl] at hR
  refine rn6 ?_
  refine zAm Z Z (fun h5=> ?_) (fun h5=> ?_)
  ·refine rn6 ?_
   exact zM hR Z Z
  ·refine rn6 ?_
   refine zB Z (fun h0=> ?_) (fun h0=>absurd hl kK)
   refine rn2 ?_
   exact zM hR Z Z
 rw [if_neg hl] at hR
 refine rn6 ?_
 refine zAm Z Z (fun h5=>absurd hl kK) (fun h5=> ?_)
 refine rn6 ?_
 refine zB Z (fun h0=>absurd hl kK) (fun h0=> ?_)
 cases ok
 ·rw [if_neg (fun h=>Bool.false_ne_true h.1)] at hR
  refine rn14 ?_
  exact zM hR Z Z
 have hp:p=true:=by cases p;exact absurd (.inl rfl) hsyn;rfl
 have hq:q=true:=by cases q;exact absurd (.inr (.inl ⟨rfl,rfl⟩)) hsyn;rfl
 have c1:=cn.1 hp
 have c2:=cd.1 hq
 have h6:=zKo n c1.2.1 kK
 have h7:=zKo d c2.2.1 kK
 have v1:(zW (zBL 0 n)).length≤2000:=zKu c1 kK
 have v2:(zW (zBL 0 d)).length≤2000:=zKu c2 kK
 have h8:=zP0 (zBL 0 n) (zBL 0 d) kK kK
 have h9:=one_ok (Nat.gcd (zBL 0 n) (zBL 0 d))
 refine rn6 ?_
 refine zAm Z Z (fun h10=> ?_) (fun h10=> ?_)
 ·rw [if_pos ⟨rfl,.inl h10⟩] at hR
  refine rn6 ?_
  exact zM hR Z Z
 ·refine rn6 ?_
  refine zAm Z Z (fun h11=> ?_) (fun h11=> ?_)
  ·rw [if_pos ⟨rfl,.inr (.inl h11)⟩] at hR
   refine rn6 ?_
   exact zM hR Z Z
  ·by_cases hg:Nat.gcd (zBL 0 n) (zBL 0 d)=1
   ·rw [decide_eq_true hg] at h9
    rw [if_neg (fun h=>by rcases h.2 with e|e|e;exact h10 e;exact h11 e;exact e hg)] at hR
    refine rn2 ?_
    refine zA Z Z Z h6 (rn2 ?_)
    refine zA Z Z Z h7 ?_
    repeat (refine zBX rfl rfl ?_)
    refine zA Z Z Z h8 ?_
    repeat (refine zBX rfl rfl ?_)
    refine zA Z Z Z h9 (rn5 ?_)
    exact zM hR Z Z
   ·rw [decide_eq_false hg] at h9
    rw [if_pos ⟨rfl,.inr (.inr hg)⟩] at hR
    refine rn2 ?_
    refine zA Z Z Z h6 (rn2 ?_)
    refine zA Z Z Z h7 ?_
    repeat (refine zBX rfl rfl ?_)
    refine zA Z Z Z h8 ?_
    repeat (refine zBX rfl rfl ?_)
    refine zA Z Z Z h9 (rn5 ?_)
    exact zM hR Z Z
theorem zFQ {α:Type}{l:List α}{d:α}{k:Nat}(h:k<l.length):l.drop k=l.getD k d::l.drop (k+1):=by
 rw [List.drop_eq_getElem_cons h];simp [List.getD,h]
theorem zHW (l:List (List UInt8))(hlen:l.length≤9223372036854775807)(hs: ∀s∈l,s.length≤9223372036854775807):zX Tryz.prog 74 [.ro (.strs l) 0 l.length] (.int .i64 (zEL l)):=by
 refine zU.value0 (zF (P:=Tryz.prog) (fn:=Tryz.f74) Z Z kQ Z (fun c hR hfix=> ?_)) (fix:=fun _=>False) (fun _ h=>h) Z Z
 refine rn3 ?_
 refine zb (ι:=Nat) (fun k=>[(0,.ro (.strs l) 0 l.length),(6,.ro (.strs l) 0 l.length),(7,iN l.length),(8,iN k)]) (fun _=>[])
  (fun k=>k≤l.length∧zEL l=zEL (l.drop k)) (fun k=>l.length-k) 0 ⟨⟨rfl,rfl,rfl,rfl,trivial⟩,rfl,Nat.zero_le _,by rw [List.drop_zero]⟩ ?_
 intro k ⟨hk,hE⟩
 refine rn4 ?_
 refine zB Z (fun h=> ?_) (fun h=> ?_)
 ·have hk':k<l.length:=kK
  have hd:=zFQ (d:=[]) hk'
  have hc:=zMv (l.getD k []) (hs _ (z6 [] hk'))
  rw [hd,zEL] at hE
  refine rn9 ?_
  refine zA Z Z Z hc (rn3 ?_)
  refine zB Z (fun h2=> ?_) (fun h2=> ?_)
  ·rw [if_neg h2] at hE
   refine rn6 ?_
   refine zM hR Z ?_
   rw [hE];rfl
  ·rw [if_pos (Classical.not_not.1 h2)] at hE
   refine rn5 ?_
   refine zI ⟨k+1,⟨kK,hE⟩,kK,⟨Z,Z,Z,Z,trivial⟩,Z⟩
 ·have hk':k=l.length:=kK
  subst hk'
  rw [List.drop_length] at hE
  refine rn5 ?_
  refine zM hR Z ?_
  rw [hE];rfl
theorem sz_v {s:List UInt8}(h:zDH s=0):Sz 2000 (zAG s):=by
 have hp:=zGn h
 refine ⟨?_,?_⟩
 ·rw [hp.num,zFm];exact zKu hp.cn hp.ln
 ·rw [hp.den]
  cases e:zHN s
  ·rw [zH8 e,zHj];decide
  ·rw [zGa e];exact zKu (hp.cd e).1 hp.ld
theorem Sz.mono {j k:Nat}{q:Rat}(h:Sz j q)(hk:j≤k):Sz k q:=⟨Nat.le_trans h.1 hk,Nat.le_trans h.2 hk⟩
theorem sz_frac {n d:Int}{k:Nat}(hd:d≠0)(h1:(zW n.natAbs).length≤k)(h2:(zW d.natAbs).length≤k):Sz k (Rat.divInt n d):=by
 obtain ⟨e1,e2,_⟩:=zG1 n d hd
 refine ⟨?_,?_⟩
 ·rw [e1];exact zF0 (Nat.div_le_self _ _) h1
 ·rw [e2];exact zF0 (Nat.div_le_self _ _) h2
theorem sz_add {p q:Rat}{k:Nat}(hp:Sz k p)(hq:Sz k q):Sz (k+k+1) (p+q):=by
 have l1:(zW (q.den:Int).natAbs).length≤k:=hq.2
 have l2:(zW (p.den:Int).natAbs).length≤k:=hp.2
 rw [←zKw]
 refine sz_frac (by have:=Nat.mul_ne_zero p.den_nz q.den_nz;omega) (zOX (zEB hp.1 l1) (zEB hq.1 l2)) ?_
 rw [Int.natAbs_natCast]
 have:=zKj hp.2 hq.2
 omega
theorem zRQ (a b:List UInt8)(ha:a.length≤9223372036854775807)(hb:b.length≤9223372036854775807):zX Tryz.prog 18 [.str a,.str b] (.tup [.int .i64 (cmpR a b).1,.int .i64 (cmpR a b).2]):=by
 have h1:=zHW [a,b] (by show 2≤_;decide) (by intro s hs;simp at hs;rcases hs with rfl|rfl<;>assumption)
 unfold cmpR
 by_cases hE:zEL [a,b]=0
 ·rw [if_pos hE]
  rw [hE] at h1
  have ea:=zD5 hE a kJ
  have eb:=zD5 hE b kJ
  have h3:=zEt a ha ea
  have h4:=zEt b hb eb
  have h5:=zEf _ _ ((sz_v ea).mono kV) ((sz_v eb).mono kV)
  refine zU.value0 (zF (P:=Tryz.prog) (fn:=Tryz.f18) Z Z kQ Z (fun c hR hfix=> ?_)) (fix:=fun _=>False) (fun _ h=>h) Z Z
  refine rn3 ?_
  refine zA Z Z Z h1 (rn4 ?_)
  refine zA Z Z Z h3 ?_
  repeat (refine zL (zH rfl) ?_)
  refine zA Z Z Z h4 ?_
  skip
  refine zA Z Z Z h5 (rn0 ?_)
  exact zM hR Z Z
 ·rw [if_neg hE]
  generalize zEL [a,b]=e at*
  refine zU.value0 (zF (P:=Tryz.prog) (fn:=Tryz.f18) Z Z kQ Z (fun c hR hfix=> ?_)) (fix:=fun _=>False) (fun _ h=>h) Z Z
  refine rn3 ?_
  refine zA Z Z Z h1 (rn3 ?_)
  refine zB Z (fun h2=> ?_) (fun h2=>absurd hE h2)
  refine rn2 ?_
  exact zM hR Z Z
section
variable {α:Type}
theorem zO3 (d:α)(n:Nat)(e:α→List AV)(ls:List α)(s:α)(cx:Cells)(h0: ∀j,j<n→cx.at 0 j=(e s).getD j .any)(i j:Nat)(hi:i<ls.length+1)(hj:j<n):
 (bif Nat.blt i ls.length then (zC9 d n e ls).at i j else cx.at (0+(i-ls.length)) j)=(zC9 d n e (ls++[s])).at i j:=by
 rcases Nat.lt_or_ge i ls.length with h|h
 ·have e1:Nat.blt i ls.length=true:=by rw [Nat.blt_eq];exact h
  rw [e1]
  simp only [zC9,Cells.at,cond_true,List.getD,List.getElem?_append_left h]
 ·have hie:i=ls.length:=kK
  have e1:Nat.blt i ls.length=false:=by rw [←Bool.not_eq_true,Nat.blt_eq];omega
  subst hie
  rw [e1]
  simp only [cond_false,Nat.sub_self,Nat.zero_add]
  rw [h0 j hj]
  simp [zC9,Cells.at,List.getD]
theorem zAV (d:α)(n:Nat)(e:α→List AV)(ls:List α)(s:α)(cx:Cells)(h0: ∀j,j<n→cx.at 0 j=(e s).getD j .any):
 CEq (.fn (ls.length+1) n (fun i j=>bif Nat.blt i ls.length then (zC9 d n e ls).at i j else cx.at (0+(i-ls.length)) j)) (zC9 d n e (ls++[s])):=by
 refine ⟨by simp [zC9,Cells.len],Z,fun i j hi hj=> ?_⟩
 exact (zO3 d n e ls s cx h0 i j hi hj).symm
theorem zAM (d:α)(n:Nat)(e:α→List AV)(hn: ∀a j h,j<n→((e a).getD j .any).forget h=(e a).getD j .any)(ls:List α)(s:α)(cx:Cells)(h0: ∀j,j<n→cx.at 0 j=(e s).getD j .any)(h i j:Nat)(hi:i<ls.length+1)(hj:j<n):
 (bif Nat.blt i ls.length then (zC9 d n e ls).at i j else cx.at (0+(i-ls.length)) j).forget h=(bif Nat.blt i ls.length then (zC9 d n e ls).at i j else cx.at (0+(i-ls.length)) j):=by
 rw [zO3 d n e ls s cx h0 i j hi hj];exact hn _ _ _ hj
theorem zBG {β:Type}(f:α→β)(l:List α)(d:α)(k:Nat)(hk:k<l.length):(l.take (k+1)).map f=(l.take k).map f++[f (l.getD k d)]:=by
 rw [List.take_succ_eq_append_getElem hk,List.map_append];simp [List.getD,hk]
end
def zJ (q:Rat):List AV:=[.bool (decide (q.num<0)),zm q.num.natAbs,zm q.den]
abbrev qsC (l:List Rat):Cells:=zC9 0 3 zJ l
theorem zu (q:Rat)(j h:Nat)(hj:j<3):((zJ q).getD j .any).forget h=(zJ q).getD j .any:=by
 match j,hj with
 |0,_=>rfl
 |1,_=>rfl
 |2,_=>rfl
theorem zAT (l:List Rat):zAY (qsC l):=by
 intro i j _ hj
 show noRef ((zJ (l.getD i 0)).getD j .any)=true
 have hj:j<3:=hj
 match j,hj with
 |0,_=>rfl
 |1,_=>rfl
 |2,_=>rfl
theorem zBi (q:Rat)(j:Nat)(hj:j<3):(zCE 1 3 [.bool (decide (q.num<0)),zm q.num.natAbs,zm q.den]).at 0 j=(zJ q).getD j .any:=by
 match j,hj with
 |0,_=>rfl
 |1,_=>rfl
 |2,_=>rfl
theorem in_ok (l:List (List UInt8))(hlen:l.length≤1000000)(hs: ∀s∈l,s.length≤9223372036854775807∧zDH s=0):zX Tryz.prog 116 [.ro (.strs l) 0 l.length] (.ro (qsC (l.map zAG)) 0 l.length):=by
 refine zU.value0 (zF (P:=Tryz.prog) (fn:=Tryz.f116) Z Z kQ Z (fun c hR hfix=> ?_)) (fix:=fun _=>False) (fun _ h=>h) Z Z
 refine rn8 ?_
 refine zAg 3 ⟨118,qsC []⟩ Z Z ?_
 repeat (refine zAJ ?_)
 refine zb (ι:=Nat) (fun k=>[(0,.ro (.strs l) 0 l.length),(3,.sl 0 0 k),(6,.ro (.strs l) 0 l.length),(7,iN l.length),(8,iN k)]) (fun k=>[some ⟨118,qsC ((l.take k).map zAG)⟩])
  (fun k=>k≤l.length) (fun k=>l.length-k) 0 ⟨⟨rfl,rfl,rfl,rfl,rfl,trivial⟩,rfl,Nat.zero_le _⟩ ?_
 intro k hk
 refine rn4 ?_
 refine zB Z (fun h=> ?_) (fun h=> ?_)
 ·have hk':k<l.length:=kK
  obtain ⟨b1,b2⟩:=hs _ (z6 [] hk')
  have hc:=zEt (l.getD k []) b1 b2
  have htk:=zBG zAG l [] k hk'
  have hml:((l.take k).map zAG).length=k:=by rw [List.length_map,List.length_take];omega
  generalize (l.take k).map zAG=qs at*
  refine rn9 ?_
  refine zA Z Z Z hc ?_
  unfold qA
  repeat (refine ze rfl rfl rfl rfl rfl rfl rfl rfl rfl rfl rfl ?_)
  refine zq Z Z Z Z Z Z Z Z Z hml Z Z (by show 0+1≤1;omega) Z (by show (k+1)*56≤_∧_;omega) ?_ (by rw [hfix];exact fun h=>h) ?_
  ·intro i' j hi hj
   exact zAM 0 3 zJ zu qs (zAG (l.getD k [])) _ (zBi _) 0 i' j hi hj
  refine zCS ?_
  refine zG ?_
  refine zAI [some ⟨118,qsC ((l.take (k+1)).map zAG)⟩] ?_ ?_
  ·rw [htk]
   exact zP.eqv (zAV 0 3 zJ qs (zAG (l.getD k [])) _ (zBi _)) zP.nil
  refine rn3 ?_
  exact zI ⟨k+1,kK,kK,⟨Z,Z,Z,Z,Z,trivial⟩,Z⟩
 ·have hk':k=l.length:=kK
  subst hk'
  rw [List.take_length]
  refine zEW ?_
  refine zAC 0 3 l.length [] Z (zAT _) Z (by show _≤(l.map zAG).length;rw [List.length_map];exact Nat.le_refl _) trivial (rn0 ?_)
  exact zM hR Z Z
end Go.Proofs.YtmpnheilfejcpaaGreatDoor
namespace Go.Proofs.YtmpnheilfejcpaaGreatDoor
open Go.Ax Go.Ax.Bg Go.Ax.Rt Go.RowKit
attribute [local irreducible] Ax zB2 QOp zU zBV
open Go.Ax.Idx Go.Ax.Cd
theorem zP7 (l:List (List UInt8))(g:FuncId)(caps:List AV)(p:List UInt8→Bool)(hc:noRef.noRefs caps=true)(hlen:l.length≤9223372036854775807)(hp: ∀x∈l,zX Tryz.prog g ([.str x]++caps) (.bool (p x))):
 zX Tryz.prog 162 [.ro (.strs l) 0 l.length,.fn g caps] (.int .i64 (idxF p l)):=by
 refine zU.value0 (zF (P:=Tryz.prog) (fn:=Tryz.f162) Z Z kQ Z (fun c hR hfix=> ?_)) (fix:=fun _=>False) (fun _ h=>h) (by simp [noRef.noRefs,noRef,hc]) Z
 refine rn3 ?_
 refine zb (ι:=Nat) (fun k=>[(0,.ro (.strs l) 0 l.length),(1,.fn g caps),(7,iN l.length),(8,iN k)]) (fun _=>[])
  (fun k=>k≤l.length∧(l.take k).any p=false) (fun k=>l.length-k) 0 ⟨⟨rfl,rfl,rfl,rfl,trivial⟩,rfl,Nat.zero_le _,rfl⟩ ?_
 intro k ⟨hk,hany⟩
 refine rn4 ?_
 refine zB Z (fun h=> ?_) (fun h=> ?_)
 ·have hk':k<l.length:=kK
  have hanys:=zC1 p l [] k hk'
  refine rn9 ?_
  refine zA Z Z Z (hp _ (z6 [] hk')) (rn0 ?_)
  refine zD7 Z (fun h2=> ?_) (fun h2=> ?_)
  ·refine rn6 ?_
   refine zM hR Z ?_
   have:=idxF_take p l k hany hk
   rw [zCc l [] k hk'] at this
   simp only [idxF,h2,if_true] at this
   rw [this];simp [zBs]
  ·refine rn5 ?_
   refine zI ⟨k+1,⟨kK,by rw [hanys,hany,h2];rfl⟩,kK,⟨Z,Z,Z,Z,trivial⟩,Z⟩
 ·have hk':k=l.length:=kK
  subst hk'
  refine rn5 ?_
  refine zM hR Z ?_
  have:=idxF_take p l l.length hany hk
  rw [List.drop_length] at this
  rw [this];rfl
theorem zRy (l:List (List UInt8))(g:FuncId)(caps:List AV)(p:List UInt8→Bool)(hc:noRef.noRefs caps=true)(hlen:l.length≤9223372036854775807)(hp: ∀x∈l,zX Tryz.prog g ([.str x]++caps) (.bool (p x))):
 zX Tryz.prog 86 [.ro (.strs l) 0 l.length,.fn g caps] (.bool (l.any p)):=by
 refine zU.value0 (zF (P:=Tryz.prog) (fn:=Tryz.f86) Z Z kQ Z (fun c hR hfix=> ?_)) (fix:=fun _=>False) (fun _ h=>h) (by simp [noRef.noRefs,noRef,hc]) Z
 refine rn0 ?_
 refine zA Z Z Z (zP7 l g caps p hc hlen hp) (rn8 ?_)
 refine zM hR Z ?_
 simp only [zBs,zHf]
theorem ratNeg1 (s:List UInt8)(hs:s.length≤9223372036854775807):zX Tryz.prog 244 [.str s] (.bool (zD0 s)):=by
 have h1:=zKl s [45] hs kV
 rw [zRM] at h1
 refine zU.value0 (zF (P:=Tryz.prog) (fn:=Tryz.f244) Z Z kQ Z (fun c hR hfix=> ?_)) (fix:=fun _=>False) (fun _ h=>h) Z Z
 refine rn0 ?_
 refine zA Z Z Z h1 (rn0 ?_)
 exact zM hR Z Z
theorem zQF (l:List Rat)(hlen:l.length≤1000000)(hs: ∀q∈l,Sz 100000 q)(hall:l.all zBd=true):zX Tryz.prog 70 [.ro (qsC l) 0 l.length] (.tup [.ro (.strs (l.map zr)) 0 l.length,.int .i64 0]):=by
 refine zU.value0 (zF (P:=Tryz.prog) (fn:=Tryz.f70) Z Z kQ Z (fun c hR hfix=> ?_)) (fix:=fun _=>False) (fun _ h=>h) Z Z
 refine rn8 ?_
 refine zAg 4 ⟨27,.strs []⟩ Z Z ?_
 repeat (refine zAJ ?_)
 refine zb (ι:=Nat) (fun k=>[(0,.ro (qsC l) 0 l.length),(4,.sl 0 0 k),(9,.ro (qsC l) 0 l.length),(10,iN l.length),(11,iN k)]) (fun k=>[some ⟨27,.strs ((l.take k).map zr)⟩])
  (fun k=>k≤l.length∧(l.drop k).all zBd=true) (fun k=>l.length-k) 0 ⟨⟨rfl,rfl,rfl,rfl,rfl,trivial⟩,rfl,Nat.zero_le _,hall⟩ ?_
 rintro k ⟨hk,hA⟩
 refine rn4 ?_
 refine zB Z (fun h=> ?_) (fun h=> ?_)
 ·have hk':k<l.length:=kK
  have hz:=hs _ (z6 0 hk')
  have hd:=zFQ (d:=(0:Rat)) hk'
  rw [hd,List.all_cons] at hA
  have htk:=zBG zr l 0 k hk'
  have hml:((l.take k).map zr).length=k:=by rw [List.length_map,List.length_take];omega
  generalize hX:(l.take k).map zr=ts at*
  refine rn6 ?_
  refine zE 14 (.agg (zJ (l.getD k 0))) Z (AEq.of_eq Z) ?_
  generalize l.getD k 0=q at*
  refine sa1 (c':= .box (zJ q)) Z Z Z Z Z Z Z ?_
  rw [Bool.and_eq_true] at hA
  have hc:=zNj q hz hA.1
  refine rn6 ?_
  refine zA Z Z Z hc (rn4 ?_)
  refine zq Z Z Z Z Z Z Z Z Z hml Z Z (by show 0+1≤1;omega) Z (by show (k+1)*16≤_∧_;omega) (fun i j _ _=>rfl) (by rw [hfix];exact fun h=>h) ?_
  refine zCS ?_
  refine zG ?_
  refine zAI ([some ⟨27,.strs ((l.take (k+1)).map zr)⟩]++[none]) ?_ ?_
  ·rw [htk]
   exact zP.eqv (CEq.refl _) (zP.drop zP.nil)
  refine zA2 (H1:=[some ⟨27,.strs ((l.take (k+1)).map zr)⟩]) Z (by rw [hfix];exact fun h=>h) (rn3 ?_)
  exact zI ⟨k+1,⟨kK,hA.2⟩,kK,⟨Z,Z,Z,Z,Z,trivial⟩,Z⟩
 ·have hk':k=l.length:=kK
  subst hk'
  rw [List.take_length]
  refine zEW ?_
  refine zAC 0 4 l.length [] Z (fun _ _ _ _=>rfl) Z (by show _≤(l.map zr).length;rw [List.length_map];exact Nat.le_refl _) trivial (rn0 ?_)
  exact zM hR Z Z
theorem zSX (l:List Rat)(hlen:l.length≤1000000)(hs: ∀q∈l,Sz 100000 q)(hall:l.all zBd=false):zX Tryz.prog 70 [.ro (qsC l) 0 l.length] (.tup [.nil,.int .i64 2]):=by
 refine zU.value0 (zF (P:=Tryz.prog) (fn:=Tryz.f70) Z Z kQ Z (fun c hR hfix=> ?_)) (fix:=fun _=>False) (fun _ h=>h) Z Z
 refine rn8 ?_
 refine zAg 4 ⟨27,.strs []⟩ Z Z ?_
 repeat (refine zAJ ?_)
 refine zb (ι:=Nat) (fun k=>[(0,.ro (qsC l) 0 l.length),(4,.sl 0 0 k),(9,.ro (qsC l) 0 l.length),(10,iN l.length),(11,iN k)]) (fun k=>[some ⟨27,.strs ((l.take k).map zr)⟩])
  (fun k=>k≤l.length∧(l.drop k).all zBd=false) (fun k=>l.length-k) 0 ⟨⟨rfl,rfl,rfl,rfl,rfl,trivial⟩,rfl,Nat.zero_le _,hall⟩ ?_
 rintro k ⟨hk,hA⟩
 refine rn4 ?_
 refine zB Z (fun h=> ?_) (fun h=> ?_)
 ·have hk':k<l.length:=kK
  have hz:=hs _ (z6 0 hk')
  have hd:=zFQ (d:=(0:Rat)) hk'
  rw [hd,List.all_cons] at hA
  have htk:=zBG zr l 0 k hk'
  have hml:((l.take k).map zr).length=k:=by rw [List.length_map,List.length_take];omega
  generalize hX:(l.take k).map zr=ts at*
  refine rn6 ?_
  refine zE 14 (.agg (zJ (l.getD k 0))) Z (AEq.of_eq Z) ?_
  generalize l.getD k 0=q at*
  refine sa1 (c':= .box (zJ q)) Z Z Z Z Z Z Z ?_
  cases hf:zBd q
  ·have hc:=out_no q hz hf
   refine rn6 ?_
   refine zA Z Z Z hc (rn6 ?_)
   exact zM hR Z Z
  ·have hc:=zNj q hz hf
   rw [hf,Bool.true_and] at hA
   refine rn6 ?_
   refine zA Z Z Z hc (rn4 ?_)
   refine zq Z Z Z Z Z Z Z Z Z hml Z Z (by show 0+1≤1;omega) Z (by show (k+1)*16≤_∧_;omega) (fun i j _ _=>rfl) (by rw [hfix];exact fun h=>h) ?_
   refine zCS ?_
   refine zG ?_
   refine zAI ([some ⟨27,.strs ((l.take (k+1)).map zr)⟩]++[none]) ?_ ?_
   ·rw [htk]
    exact zP.eqv (CEq.refl _) (zP.drop zP.nil)
   refine zA2 (H1:=[some ⟨27,.strs ((l.take (k+1)).map zr)⟩]) Z (by rw [hfix];exact fun h=>h) (rn3 ?_)
   exact zI ⟨k+1,⟨kK,hA⟩,kK,⟨Z,Z,Z,Z,Z,trivial⟩,Z⟩
 ·have hk':k=l.length:=kK
  subst hk'
  rw [List.drop_length] at hA
  exact absurd hA kV
end Go.Proofs.YtmpnheilfejcpaaGreatDoor
namespace Go.Proofs.YtmpnheilfejcpaaGreatDoor
open Go.Ax Go.Ax.Bg Go.Ax.Rt Go.RowKit
attribute [local irreducible] Ax zB2 QOp zU zBV
theorem zEE:zX Tryz.prog 113 [.int .i64 0] (qA 0):=zNm 0 kV
theorem zCg:zX Tryz.prog 113 [.int .i64 1] (qA 1):=zNm 1 kV
theorem sz_zero:Sz 2000 0:=by
 refine ⟨?_,?_⟩
 ·show (zW 0).length≤2000;rw [zCA];decide
 ·show (zW 1).length≤2000;rw [zHj];decide
theorem sum_ok (l:List (List UInt8))(hlen:l.length≤9223372036854775807)(hs: ∀s∈l,s.length≤9223372036854775807):zX Tryz.prog 243 [.ro (.strs l) 0 l.length] (.tup [qA (zHy l).1,.int .i64 (zHy l).2]):=by
 unfold zHy
 have h1:=zHW l hlen hs
 by_cases hl:256<l.length
 ·rw [if_pos hl]
  refine zU.value0 (zF (P:=Tryz.prog) (fn:=Tryz.f243) Z Z kQ Z (fun c hR hfix=> ?_)) (fix:=fun _=>False) (fun _ h=>h) Z Z
  refine rn4 ?_
  refine zA Z Z Z zEE ?_
  repeat (refine zA7 rfl rfl rfl ?_)
  refine sa1 (c':= .box (zJ 0)) Z Z Z Z Z Z Z (rn6 ?_)
  refine zB Z (fun h0=> ?_) (fun h0=>absurd hl kK)
  refine rn6 ?_
  refine sa1 (c':= .box (zJ 0)) Z Z Z Z Z Z Z (rn2 ?_)
  exact zM hR Z Z
 rw [if_neg hl]
 by_cases hE:zEL l=0
 ·rw [if_pos hE]
  rw [hE] at h1
  have h2:=in_ok l kK (fun s hm=>⟨hs s hm,zD5 hE s hm⟩)
  have hz: ∀q∈l.map zAG,Sz 2000 q:=fun q hq=>by
   obtain ⟨s,h3,rfl⟩:=List.mem_map.1 hq
   exact sz_v (zD5 hE s h3)
  have hml:(l.map zAG).length=l.length:=List.length_map _
  generalize l.map zAG=qs at*
  refine zU.value0 (zF (P:=Tryz.prog) (fn:=Tryz.f243) Z Z kQ Z (fun c hR hfix=> ?_)) (fix:=fun _=>False) (fun _ h=>h) Z Z
  refine rn4 ?_
  refine zA Z Z Z zEE ?_
  repeat (refine zA7 rfl rfl rfl ?_)
  refine sa1 (c':= .box (zJ 0)) Z Z Z Z Z Z Z (rn6 ?_)
  refine zB Z (fun h0=>absurd hl kK) (fun h0=> ?_)
  refine rn1 ?_
  refine zA Z Z Z h1 (rn4 ?_)
  refine zA Z Z Z h2 (rn3 ?_)
  refine zb (ι:=Nat×Rat) (fun p=>[(2,.ptr 0 0 0),(4,.ptr 1 0 0),(20,.ro (qsC qs) 0 l.length),(21,iN l.length),(22,iN p.1)]) (fun p=>[some ⟨118,.box [.bool false,.nil,.nil]⟩,some ⟨118,.box (zJ p.2)⟩])
   (fun p=>p.1≤l.length∧zHw 0 qs=zHw p.2 (qs.drop p.1)∧Sz 2000 p.2) (fun p=>l.length-p.1) (0,0) ⟨⟨rfl,rfl,rfl,rfl,rfl,trivial⟩,rfl,Nat.zero_le _,rfl,sz_zero⟩ ?_
  rintro ⟨k,acc⟩ ⟨hk,hS,hA⟩
  simp only at*
  refine rn4 ?_
  refine zB Z (fun h=> ?_) (fun h=> ?_)
  ·have hk':k<qs.length:=kK
   have hq:=hz _ (z6 0 hk')
   have hd:=zFQ (d:=(0:Rat)) hk'
   rw [hd,zHw] at hS
   refine rn6 ?_
   refine zE 25 (.agg (zJ (qs.getD k 0))) Z (AEq.of_eq Z) ?_
   generalize qs.getD k 0=q at*
   have hc:=zFM acc q (hA.mono kV) (hq.mono kV)
   have hf:=zNU (acc+q) ((sz_add hA hq).mono kV)
   refine sa1 (c':= .box (zJ q)) Z Z Z Z Z Z Z (rn6 ?_)
   refine zA Z Z Z hc ?_
   skip
   refine sa1 (c':= .box (zJ (acc+q))) Z Z Z Z Z Z Z (rn6 ?_)
   refine zA Z Z Z hf ?_
   cases hb:zBd (acc+q)
   ·rw [hb,if_neg Bool.false_ne_true] at hS
    rw [hS] at hR
    refine rn6 ?_
    refine sa1 (c':= .box (zJ (acc+q))) Z Z Z Z Z Z Z (rn6 ?_)
    exact zM hR Z Z
   ·rw [hb,if_pos rfl] at hS
    refine zCS ?_
    refine zG ?_
    refine zAI ([some ⟨118,.box [.bool false,.nil,.nil]⟩,some ⟨118,.box (zJ (acc+q))⟩]++[none]) ?_ ?_
    ·exact zP.eqv (CEq.refl _) (zP.eqv (CEq.refl _) (zP.drop zP.nil))
    refine zA2 (H1:=[some ⟨118,.box [.bool false,.nil,.nil]⟩,some ⟨118,.box (zJ (acc+q))⟩]) Z (by rw [hfix];exact fun h=>h) (rn5 ?_)
    exact zI ⟨(k+1,acc+q),⟨by simp only;omega,hS,zQ5 hb⟩,by simp only;omega,⟨Z,Z,Z,Z,Z,trivial⟩,Z⟩
  ·have hk':k=l.length:=kK
   subst hk'
   rw [←hml,List.drop_length,zHw] at hS
   rw [hS] at hR
   refine rn6 ?_
   refine sa1 (c':= .box (zJ acc)) Z Z Z Z Z Z Z (rn0 ?_)
   exact zM hR Z Z
 ·rw [if_neg hE]
  generalize zEL l=e at*
  refine zU.value0 (zF (P:=Tryz.prog) (fn:=Tryz.f243) Z Z kQ Z (fun c hR hfix=> ?_)) (fix:=fun _=>False) (fun _ h=>h) Z Z
  refine rn4 ?_
  refine zA Z Z Z zEE ?_
  repeat (refine zA7 rfl rfl rfl ?_)
  refine sa1 (c':= .box (zJ 0)) Z Z Z Z Z Z Z (rn6 ?_)
  refine zB Z (fun h0=>absurd hl kK) (fun h0=> ?_)
  refine rn1 ?_
  refine zA Z Z Z h1 (rn3 ?_)
  refine zB Z (fun h2=> ?_) (fun h2=>absurd hE h2)
  refine rn6 ?_
  refine sa1 (c':= .box (zJ 0)) Z Z Z Z Z Z Z (rn2 ?_)
  exact zM hR Z Z
theorem zRa: ∀(qs:List Rat) (acc:Rat),Sz 2000 acc→(∀q∈qs,Sz 2000 q)→Sz 4001 (zHw acc qs).1
 |[],acc,h,_=>h.mono kV
 |q::r,acc,h,hs=>by
  rw [zHw]
  split
  ·rename_i hb
   exact zRa r _ (zQ5 hb) (fun x hx=>hs x (by simp [hx]))
  ·exact sz_add h (hs q kJ)
theorem sumR_sz (l:List (List UInt8)):Sz 4001 (zHy l).1:=by
 unfold zHy
 split
 ·exact sz_zero.mono kV
 ·split
  ·rename_i hE
   refine zRa _ _ sz_zero (fun q hq=> ?_)
   obtain ⟨s,h3,rfl⟩:=List.mem_map.1 hq
   exact sz_v (zD5 hE s h3)
  ·exact sz_zero.mono kV
theorem zOu (l:List (List UInt8))(hlen:l.length≤9223372036854775807)(hs: ∀s∈l,s.length≤9223372036854775807):zX Tryz.prog 217 [.ro (.strs l) 0 l.length] (.tup [qA (zHy l).1,.int .i64 (posE l)]):=by
 have h1:=sum_ok l hlen hs
 have h2:=zRy l 244 [] zD0 rfl hlen (fun s hm=>ratNeg1 s (hs s hm))
 unfold posE
 generalize (zHy l).1=q at*
 generalize (zHy l).2=e at*
 generalize l.any zD0=b at*
 by_cases he:e=0
 ·subst he
  cases b
  ·rw [if_neg (fun h=>Bool.false_ne_true h.2)]
   refine zU.value0 (zF (P:=Tryz.prog) (fn:=Tryz.f217) Z Z kQ Z (fun c hR hfix=> ?_)) (fix:=fun _=>False) (fun _ h=>h) Z Z
   refine rn4 ?_
   refine zA Z Z Z h1 ?_
   unfold qA
   refine rn4 ?_
   refine sa1 (c':= .box (zJ q)) Z Z Z Z Z Z Z (rn4 ?_)
   refine zA Z Z Z h2 (rn6 ?_)
   refine sa1 (c':= .box (zJ q)) Z Z Z Z Z Z Z (rn0 ?_)
   exact zM hR Z Z
  ·rw [if_pos ⟨rfl,rfl⟩]
   refine zU.value0 (zF (P:=Tryz.prog) (fn:=Tryz.f217) Z Z kQ Z (fun c hR hfix=> ?_)) (fix:=fun _=>False) (fun _ h=>h) Z Z
   refine rn4 ?_
   refine zA Z Z Z h1 ?_
   unfold qA
   refine rn4 ?_
   refine sa1 (c':= .box (zJ q)) Z Z Z Z Z Z Z (rn4 ?_)
   refine zA Z Z Z h2 (rn6 ?_)
   refine sa1 (c':= .box (zJ q)) Z Z Z Z Z Z Z (rn0 ?_)
   exact zM hR Z Z
 ·rw [if_neg (fun h=>he h.1)]
  refine zU.value0 (zF (P:=Tryz.prog) (fn:=Tryz.f217) Z Z kQ Z (fun c hR hfix=> ?_)) (fix:=fun _=>False) (fun _ h=>h) Z Z
  refine rn4 ?_
  refine zA Z Z Z h1 ?_
  unfold qA
  refine rn4 ?_
  refine sa1 (c':= .box (zJ q)) Z Z Z Z Z Z Z (rn4 ?_)
  refine zAm Z Z (fun h0=>absurd h0 he) (fun h0=> ?_)
  refine rn6 ?_
  refine sa1 (c':= .box (zJ q)) Z Z Z Z Z Z Z (rn0 ?_)
  exact zM hR Z Z
theorem zRG (l:List (List UInt8))(hlen:l.length≤9223372036854775807)(hs: ∀s∈l,s.length≤9223372036854775807):zX Tryz.prog 187 [.ro (.strs l) 0 l.length] (.int .i64 (zFA l)):=by
 have h1:=zOu l hlen hs
 have hz:=sumR_sz l
 unfold zFA
 generalize (zHy l).1=q at*
 generalize posE l=e at*
 have h2:=zEf q 1 (hz.mono kV) (by refine ⟨?_,?_⟩<;>(show (zW 1).length≤100000;rw [zHj];decide))
 by_cases he:e=0
 ·rw [if_pos he]
  subst he
  generalize zBl q 1=t at*
  by_cases ht:t=0
  ·rw [if_pos ht]
   subst ht
   refine zU.value0 (zF (P:=Tryz.prog) (fn:=Tryz.f187) Z Z kQ Z (fun c hR hfix=> ?_)) (fix:=fun _=>False) (fun _ h=>h) Z Z
   refine rn0 ?_
   refine zA Z Z Z h1 ?_
   unfold qA
   refine rn4 ?_
   refine sa1 (c':= .box (zJ q)) Z Z Z Z Z Z Z (rn4 ?_)
   refine zZ kQ ?_
   refine zj (fuel:=0) [0,1,2,3] [(3,.ptr 0 0 0)] ⟨Z,trivial⟩ kQ kV Z Z ?_
   refine zK Z Z (qpp Z Z Z Z Z Z Z) ?_
   refine zAy Z Z Z Z Z zCg ?_
   refine zAy Z Z Z Z Z h2 ?_
   refine zK Z Z (zJY Z Z) ?_
   refine zz ?_
   refine zT kQ (rn4 ?_)
   exact zM hR Z Z
  ·rw [if_neg ht]
   refine zU.value0 (zF (P:=Tryz.prog) (fn:=Tryz.f187) Z Z kQ Z (fun c hR hfix=> ?_)) (fix:=fun _=>False) (fun _ h=>h) Z Z
   refine rn0 ?_
   refine zA Z Z Z h1 ?_
   unfold qA
   refine rn4 ?_
   refine sa1 (c':= .box (zJ q)) Z Z Z Z Z Z Z (rn4 ?_)
   refine zZ kQ ?_
   refine zj (fuel:=0) [0,1,2,3] [(3,.ptr 0 0 0)] ⟨Z,trivial⟩ kQ kV Z Z ?_
   refine zK Z Z (qpp Z Z Z Z Z Z Z) ?_
   refine zAy Z Z Z Z Z zCg ?_
   refine zAy Z Z Z Z Z h2 ?_
   refine zK Z Z (zJY Z Z) ?_
   refine zz ?_
   refine zT kQ ?_
   repeat (refine zG ?_)
   refine zB Z (fun h0=> ?_) (fun h0=>absurd ht h0)
   refine rn2 ?_
   exact zM hR Z Z
 ·rw [if_neg he]
  refine zU.value0 (zF (P:=Tryz.prog) (fn:=Tryz.f187) Z Z kQ Z (fun c hR hfix=> ?_)) (fix:=fun _=>False) (fun _ h=>h) Z Z
  refine rn0 ?_
  refine zA Z Z Z h1 ?_
  unfold qA
  refine rn4 ?_
  refine sa1 (c':= .box (zJ q)) Z Z Z Z Z Z Z (rn3 ?_)
  refine zB Z (fun h0=> ?_) (fun h0=>absurd he h0)
  refine rn2 ?_
  exact zM hR Z Z
theorem zLm {l:List (List UInt8)}(h:(zHy l).2=0):l.length≤256∧zEL l=0:=by
 unfold zHy at h
 split at h
 ·exact absurd h kV
 ·split at h
  ·exact ⟨kK,kW⟩
  ·exact absurd h kW
theorem zLg {q:Rat}:sgn q.num=0↔q=0:=by
 rw [←Rat.num_eq_zero]
 unfold sgn
 split
 ·omega
 ·split<;>omega
def cellS (r:List zAA):List AV:=[.ro (.strs r) 0 r.length]
def zCy (r:List Rat):List AV:=[.ro (qsC r) 0 r.length]
abbrev zA9 (m:List (List zAA)):Cells:=zC9 [] 1 cellS m
abbrev zd (m:List (List Rat)):Cells:=zC9 [] 1 zCy m
theorem zBb (r:List Rat)(j h:Nat)(hj:j<1):((zCy r).getD j .any).forget h=(zCy r).getD j .any:=by
 obtain rfl:j=0:=kK
 rfl
theorem zGL (m:List (List Rat)):zAY (zd m):=by
 intro i j _ hj
 obtain rfl:j=0:=by have hj:j<1:=hj;omega
 rfl
theorem zO5 (q:List Rat)(j:Nat)(hj:j<1):(zCE 1 1 [.ro (qsC q) 0 q.length]).at 0 j=(zCy q).getD j .any:=by
 obtain rfl:j=0:=kK
 rfl
theorem vec_ok (v:List zAA)(hlen:v.length≤9223372036854775807)(hs: ∀s∈v,s.length≤9223372036854775807):zX Tryz.prog 115 [.ro (.strs v) 0 v.length] (.int .i64 (vecE v)):=by
 have h1:=zHW v hlen hs
 unfold vecE
 refine zU.value0 (zF (P:=Tryz.prog) (fn:=Tryz.f115) Z Z kQ Z (fun c hR hfix=> ?_)) (fix:=fun _=>False) (fun _ h=>h) Z Z
 refine rn6 ?_
 refine zB Z (fun h=> ?_) (fun h=> ?_)
 ·rw [if_pos kK] at hR
  refine rn2 ?_
  exact zM hR Z Z
 ·rw [if_neg kK] at hR
  refine rn1 ?_
  refine zA Z Z Z h1 (rn0 ?_)
  exact zM hR Z Z
theorem width_ok (m:List (List zAA))(hlen:m.length≤9223372036854775807):zX Tryz.prog 146 [.ro (zA9 m) 0 m.length] (iN (zS m)):=by
 refine zU.value0 (zF (P:=Tryz.prog) (fn:=Tryz.f146) Z Z kQ Z (fun c hR hfix=> ?_)) (fix:=fun _=>False) (fun _ h=>h) Z Z
 refine rn4 ?_
 refine zB Z (fun h=> ?_) (fun h=> ?_)
 ·obtain rfl:m=[]:=List.length_eq_zero_iff.1 kK
  refine rn2 ?_
  exact zM hR Z Z
 ·have hm:0<m.length:=kK
  refine rn6 ?_
  exact zM hR Z Z
theorem zSQ (m:List (List zAA))(hlen:m.length≤9223372036854775807)(hr: ∀r∈m,r.length≤9223372036854775807∧ ∀s∈r,s.length≤9223372036854775807):zX Tryz.prog 114 [.ro (zA9 m) 0 m.length] (.int .i64 (zJ2 m)):=by
 unfold zJ2
 refine zU.value0 (zF (P:=Tryz.prog) (fn:=Tryz.f114) Z Z kQ Z (fun c hR hfix=> ?_)) (fix:=fun _=>False) (fun _ h=>h) Z Z
 refine rn6 ?_
 refine zB Z (fun h=> ?_) (fun h=> ?_)
 ·rw [if_pos kK] at hR
  refine rn2 ?_
  exact zM hR Z Z
 rw [if_neg kK] at hR
 refine rn3 ?_
 refine zb (ι:=Nat) (fun k=>[(0,.ro (zA9 m) 0 m.length),(9,.ro (zA9 m) 0 m.length),(10,iN m.length),(11,iN k)]) (fun _=>[])
  (fun k=>k≤m.length∧zLc (zS m) m=zLc (zS m) (m.drop k)) (fun k=>m.length-k) 0 ⟨⟨rfl,rfl,rfl,rfl,trivial⟩,rfl,Nat.zero_le _,by rw [List.drop_zero]⟩ ?_
 intro k ⟨hk,hE⟩
 refine rn4 ?_
 refine zB Z (fun h=> ?_) (fun h=> ?_)
 ·have hk':k<m.length:=kK
  have hm:0<m.length:=kK
  have hd:=zFQ (d:=[]) hk'
  have hc:=vec_ok (m.getD k []) (hr _ (z6 [] hk')).1 (hr _ (z6 [] hk')).2
  rw [hd,zLc] at hE
  refine rn6 ?_
  refine zB Z (fun h2=> ?_) (fun h2=> ?_)
  ·have h3: ¬(m.getD k []).length=zS m:=fun e=>h2 (by show (((m.getD k []).length:Nat):Int)=((zS m:Nat):Int);omega)
   rw [if_neg h3] at hE
   rw [hE] at hR
   refine rn6 ?_
   exact zM hR Z Z
  ·have h3:(m.getD k []).length=zS m:=by
    have h4:(((m.getD k []).length:Nat):Int)=((zS m:Nat):Int):=Classical.not_not.1 h2
    omega
   rw [if_pos h3] at hE
   refine rn1 ?_
   refine zA Z Z Z hc (rn3 ?_)
   refine zB Z (fun h5=> ?_) (fun h5=> ?_)
   ·rw [if_neg h5] at hE
    rw [hE] at hR
    refine rn6 ?_
    exact zM hR Z Z
   ·rw [if_pos (Classical.not_not.1 h5)] at hE
    refine rn5 ?_
    exact zI ⟨k+1,⟨kK,hE⟩,kK,⟨Z,Z,Z,Z,trivial⟩,Z⟩
 ·have hk':k=m.length:=kK
  subst hk'
  rw [List.drop_length] at hE
  rw [hE] at hR
  refine rn5 ?_
  exact zM hR Z Z
theorem zLJ (l:List zAA)(hlen:l.length≤1000000)(hs: ∀s∈l,s.length≤9223372036854775807∧zDH s=0):zX Tryz.prog 116 [.ro (.strs l) 0 l.length] (.ro (qsC (l.map zAG)) 0 (l.map zAG).length):=by
 have:=in_ok l hlen hs
 rwa [List.length_map]
theorem zIm (m:List (List zAA))(hlen:m.length≤1000000)(hr: ∀r∈m,r.length≤1000000∧ ∀s∈r,s.length≤9223372036854775807∧zDH s=0):zX Tryz.prog 73 [.ro (zA9 m) 0 m.length] (.ro (zd (inM m)) 0 m.length):=by
 refine zU.value0 (zF (P:=Tryz.prog) (fn:=Tryz.f73) Z Z kQ Z (fun c hR hfix=> ?_)) (fix:=fun _=>False) (fun _ h=>h) Z Z
 refine rn8 ?_
 refine zAg 3 ⟨110,zd []⟩ Z Z ?_
 repeat (refine zAJ ?_)
 refine zb (ι:=Nat) (fun k=>[(0,.ro (zA9 m) 0 m.length),(3,.sl 0 0 k),(6,.ro (zA9 m) 0 m.length),(7,iN m.length),(8,iN k)]) (fun k=>[some ⟨110,zd ((m.take k).map (fun r=>r.map zAG))⟩])
  (fun k=>k≤m.length) (fun k=>m.length-k) 0 ⟨⟨rfl,rfl,rfl,rfl,rfl,trivial⟩,rfl,Nat.zero_le _⟩ ?_
 intro k hk
 refine rn4 ?_
 refine zB Z (fun h=> ?_) (fun h=> ?_)
 ·have hk':k<m.length:=kK
  obtain ⟨b1,b2⟩:=hr _ (z6 [] hk')
  have hc:=zLJ (m.getD k []) b1 b2
  have htk:=zBG (fun r:List zAA=>r.map zAG) m [] k hk'
  have hml:((m.take k).map (fun r:List zAA=>r.map zAG)).length=k:=by rw [List.length_map,List.length_take];omega
  generalize (m.take k).map (fun r:List zAA=>r.map zAG)=qs at*
  generalize (m.getD k []).map zAG=q at*
  refine rn6 ?_
  refine zA Z Z Z hc ?_
  repeat (refine ze rfl rfl rfl rfl rfl rfl rfl rfl rfl rfl rfl ?_)
  refine zq Z Z Z Z Z Z Z Z Z hml Z Z (by show 0+1≤1;omega) Z (by show (k+1)*24≤_∧_;omega) ?_ (by rw [hfix];exact fun h=>h) ?_
  ·intro i' j hi hj
   exact zAM [] 1 zCy zBb qs q _ (zO5 _) 0 i' j hi hj
  refine zCS ?_
  refine zG ?_
  refine zAI [some ⟨110,zd ((m.take (k+1)).map (fun r=>r.map zAG))⟩] ?_ ?_
  ·rw [htk]
   exact zP.eqv (zAV [] 1 zCy qs q _ (zO5 _)) zP.nil
  refine rn3 ?_
  exact zI ⟨k+1,kK,kK,⟨Z,Z,Z,Z,Z,trivial⟩,Z⟩
 ·have hk':k=m.length:=kK
  subst hk'
  rw [List.take_length]
  refine zEW ?_
  refine zAC 0 3 m.length [] Z (zGL _) Z (by show _≤(m.map _).length;rw [List.length_map];exact Nat.le_refl _) trivial (rn0 ?_)
  exact zM hR Z Z
theorem zBj {m:Nat}{q:Rat}(h:D (9*m) q):Sz m q:=by
 have key: ∀n:Nat,n<10^(9*m)→(zW n).length≤m:=fun n hn=>by
  refine zAh (Nat.lt_of_lt_of_le hn ?_)
  rw [Nat.pow_mul]
  exact Nat.pow_le_pow_left kV m
 exact ⟨key _ h.1,key _ h.2⟩
theorem zLB (a b:List Rat)(j k:Nat)(ha: ∀q∈a,D j q)(hb: ∀q∈b,D k q)(hl:a.length≤b.length)(hal:b.length≤1000000)(hK:1+a.length*(j+k+1)≤900000):zX Tryz.prog 117 [.ro (qsC a) 0 a.length,.ro (qsC b) 0 b.length] (qA (zAQ a b)):=by
 refine zU.value0 (zF (P:=Tryz.prog) (fn:=Tryz.f117) Z Z kQ Z (fun c hR hfix=> ?_)) (fix:=fun _=>False) (fun _ h=>h) Z Z
 refine rn4 ?_
 refine zA Z Z Z zEE ?_
 repeat (refine zA7 rfl rfl rfl ?_)
 refine sa1 (c':= .box (zJ 0)) Z Z Z Z Z Z Z (rn3 ?_)
 refine zb (ι:=Nat×Rat) (fun p=>[(0,.ro (qsC a) 0 a.length),(1,.ro (qsC b) 0 b.length),(4,.ptr 0 0 0),(5,.ptr 1 0 0),(9,.ro (qsC a) 0 a.length),(10,iN a.length),(11,iN p.1)]) (fun p=>[some ⟨118,.box [.bool false,.nil,.nil]⟩,some ⟨118,.box (zJ p.2)⟩])
  (fun p=>p.1≤a.length∧p.2=zAa (fun i=>a.getD i 0*b.getD i 0) p.1) (fun p=>a.length-p.1) (0,0) ⟨⟨rfl,rfl,rfl,rfl,rfl,rfl,rfl,trivial⟩,rfl,Nat.zero_le _,rfl⟩ ?_
 rintro ⟨i,acc⟩ ⟨hi,hA⟩
 simp only at*
 have hterm: ∀i',i'<a.length→D (j+k) (a.getD i' 0*b.getD i' 0):=fun i' h'=>(ha _ (z6 0 h')).mul (hb _ (z6 0 kK))
 have hDa:D (1+i*(j+k+1)) acc:=by rw [hA];exact zQX (fun i' h'=>hterm i' kK)
 have hb1:i*(j+k+1)≤a.length*(j+k+1):=Nat.mul_le_mul_right _ hi
 refine rn4 ?_
 refine zB Z (fun h=> ?_) (fun h=> ?_)
 ·have hi':i<a.length:=kK
  have hib:i<b.length:=kK
  have hm:=hterm i hi'
  have hx:=ha _ (z6 0 hi')
  have hy:=hb _ (z6 0 hib)
  have hsz1:Sz 100000 (a.getD i 0):=zBj (hx.mono (by have:=Nat.le_mul_of_pos_left (j+k+1) (show 0<a.length by omega);omega))
  have hsz2:Sz 100000 (b.getD i 0):=zBj (hy.mono (by have:=Nat.le_mul_of_pos_left (j+k+1) (show 0<a.length by omega);omega))
  have hsz3:Sz 100000 (a.getD i 0*b.getD i 0):=zBj (hm.mono (by have:=Nat.le_mul_of_pos_left (j+k+1) (show 0<a.length by omega);omega))
  have hsz4:Sz 100000 acc:=zBj (hDa.mono kK)
  have hnext:acc+a.getD i 0*b.getD i 0=zAa (fun i=>a.getD i 0*b.getD i 0) (i+1):=by rw [zAa,hA]
  refine rn6 ?_
  refine zE 15 (.agg (zJ (a.getD i 0))) Z (AEq.of_eq Z) ?_
  have e5:b.getD i 0=b.getD i 0:=rfl
  generalize hp:a.getD i 0=p at*
  have g1:=zHp p
  refine sa1 (c':= .box (zJ p)) Z Z Z Z Z Z Z (rn6 ?_)
  refine zA Z Z Z g1 (rn3 ?_)
  have hz: ∀x:Rat,sgn x.num=0→x=0:=fun x hx=>zLg.1 hx
  generalize hq:b.getD i 0=q at*
  have g2:=zHp q
  have g3:=zRP p q hsz1 hsz2
  have g4:=zFM acc (p*q) hsz4 hsz3
  have g3':zX Tryz.prog 99 [qA p,qA (b.getD i 0)] (qA (p*q)):=by rw [hq];exact g3
  refine zAm Z Z (fun h1=> ?_) (fun h1=> ?_)
  ·refine rn6 ?_
   refine zE 23 (.agg (zJ q)) Z (AEq.of_eq (by rw [←hq];rfl)) ?_
   refine zA Z Z Z g2 (rn3 ?_)
   refine zB Z (fun h2=> ?_) (fun h2=> ?_)
   ·skip
    refine zZ kQ ?_
    refine zj (fuel:=1) [0,1,2,3,4,5,6,7] [(0,.ro (qsC a) 0 a.length),(1,.ro (qsC b) 0 b.length),(5,.ptr 1 0 0),(7,.ptr 2 0 0),(6,iN i),(4,.ptr 0 0 0),(9,.ro (qsC a) 0 a.length),(10,iN a.length),(11,iN i)] ⟨Z,Z,Z,Z,Z,Z,Z,Z,Z,trivial⟩ kQ kV Z Z ?_
    refine zK Z Z (qpp Z Z Z Z Z Z Z) ?_
    refine zK Z Z (qpp Z Z Z Z Z Z Z) ?_
    refine zK Z Z (zH Z) ?_
    refine zK Z Z (zH Z) ?_
    refine zK Z Z (zc Z Z Z Z (by first|(simp only [Nat.zero_add,Int.toNat_natCast,Int.toNat_zero];exact Z)|exact Z) kK) ?_
    refine zK Z Z (zAc Z Z Z Z Z Z) ?_
    refine zAy Z Z Z Z Z g3' ?_
    refine zAy Z Z Z Z Z g4 ?_
    refine zz ?_
    refine zD (is:=[8]) kQ kJ Z ⟨fun o ho=> ?_,trivial⟩
    all_goals (cases ho)
    skip
    unfold qA
    refine sa1 (c':= .box (zJ (acc+p*q))) Z Z Z Z Z Z Z (rn1 ?_)
    refine zT kQ ?_
    repeat (refine zAP ?_)
    refine zG ?_
    refine zAI ([some ⟨118,.box [.bool false,.nil,.nil]⟩,some ⟨118,.box (zJ (acc+p*q))⟩]++[none]) ?_ ?_
    ·exact zP.eqv (CEq.refl _) (zP.eqv (CEq.refl _) (zP.drop zP.nil))
    refine zA2 (H1:=[some ⟨118,.box [.bool false,.nil,.nil]⟩,some ⟨118,.box (zJ (acc+p*q))⟩]) Z (by rw [hfix];exact fun h=>h) (rn3 ?_)
    exact zI ⟨(i+1,(acc+p*q)),⟨by simp only;omega,hnext⟩,by simp only;omega,⟨Z,Z,Z,Z,Z,Z,Z,trivial⟩,Z⟩
   ·have e0:q=0:=hz q (Classical.not_not.1 h2)
    rw [e0,Rat.mul_zero,Rat.add_zero] at hnext
    refine zCS ?_
    refine zG ?_
    refine zAI ([some ⟨118,.box [.bool false,.nil,.nil]⟩,some ⟨118,.box (zJ acc)⟩]++[none]) ?_ ?_
    ·exact zP.eqv (CEq.refl _) (zP.eqv (CEq.refl _) (zP.drop zP.nil))
    refine zA2 (H1:=[some ⟨118,.box [.bool false,.nil,.nil]⟩,some ⟨118,.box (zJ acc)⟩]) Z (by rw [hfix];exact fun h=>h) (rn3 ?_)
    exact zI ⟨(i+1,acc),⟨by simp only;omega,hnext⟩,by simp only;omega,⟨Z,Z,Z,Z,Z,Z,Z,trivial⟩,Z⟩
  ·have e0:p=0:=hz p (Classical.not_not.1 h1)
   rw [e0,Rat.zero_mul,Rat.add_zero] at hnext
   repeat (first|refine zV ?_|refine zCj rfl rfl rfl ?_|refine zL (zAj rfl rfl) ?_)
   refine zG ?_
   refine zAI ([some ⟨118,.box [.bool false,.nil,.nil]⟩,some ⟨118,.box (zJ acc)⟩]++[none]) ?_ ?_
   ·exact zP.eqv (CEq.refl _) (zP.eqv (CEq.refl _) (zP.drop zP.nil))
   refine zA2 (H1:=[some ⟨118,.box [.bool false,.nil,.nil]⟩,some ⟨118,.box (zJ acc)⟩]) Z (by rw [hfix];exact fun h=>h) (rn5 ?_)
   exact zI ⟨(i+1,acc),⟨by simp only;omega,hnext⟩,by simp only;omega,⟨Z,Z,Z,Z,Z,Z,Z,trivial⟩,Z⟩
 ·have hi':i=a.length:=kK
  subst hi'
  have e:zAQ a b=acc:=hA.symm
  rw [e] at hR
  refine rn6 ?_
  refine sa1 (c':= .box (zJ acc)) Z Z Z Z Z Z Z (rn0 ?_)
  exact zM hR Z Z
theorem zQu (m:List (List Rat))(w:Nat)(hlen:m.length≤1000000)(hw:w≤1000000)(hr: ∀r∈m,r.length=w):zX Tryz.prog 145 [.ro (zd m) 0 m.length,iN w] (.ro (zd (zEO m w)) 0 w):=by
 refine zU.value0 (zF (P:=Tryz.prog) (fn:=Tryz.f145) Z Z kQ Z (fun c hR hfix=> ?_)) (fix:=fun _=>False) (fun _ h=>h) Z Z
 refine rn0 ?_
 refine zAg 5 ⟨110,zd []⟩ Z Z ?_
 repeat (refine zAJ ?_)
 refine zb (ι:=Nat) (fun k=>[(0,.ro (zd m) 0 m.length),(5,.sl 0 0 k),(10,iN w),(11,iN k)]) (fun k=>[some ⟨110,zd ((List.range k).map (zB4 m))⟩])
  (fun k=>k≤w) (fun k=>w-k) 0 ⟨⟨rfl,rfl,rfl,rfl,trivial⟩,rfl,Nat.zero_le _⟩ ?_
 intro k hk
 refine rn4 ?_
 refine zB Z (fun h=> ?_) (fun h=> ?_)
 ·have hk':k<w:=kK
  refine rn8 ?_
  refine zAJ (rn8 ?_)
  refine zAg 7 ⟨118,qsC []⟩ Z Z ?_
  repeat (refine zAJ ?_)
  refine zb (ι:=Nat) (fun j=>[(0,.ro (zd m) 0 m.length),(5,.sl 0 0 k),(6,iN k),(7,.sl 1 0 j),(10,iN w),(11,iN k),(14,.ro (zd m) 0 m.length),(15,iN m.length),(16,iN j)]) (fun j=>[some ⟨110,zd ((List.range k).map (zB4 m))⟩,some ⟨118,qsC (zB4 (m.take j) k)⟩])
   (fun j=>j≤m.length) (fun j=>m.length-j) 0 ⟨⟨rfl,rfl,rfl,rfl,rfl,rfl,rfl,rfl,rfl,trivial⟩,rfl,Nat.zero_le _⟩ ?_
  intro j hj
  refine rn4 ?_
  refine zB Z (fun h2=> ?_) (fun h2=> ?_)
  ·have hj':j<m.length:=kK
   have hrl:=hr _ (z6 [] hj')
   have htk:zB4 (m.take (j+1)) k=zB4 (m.take j) k++[(m.getD j []).getD k 0]:=zBG (fun row:List Rat=>row.getD k 0) m [] j hj'
   have hml:(zB4 (m.take j) k).length=j:=by rw [zDC,List.length_take];omega
   generalize zB4 (m.take j) k=qs at*
   generalize (List.range k).map (zB4 m)=rs at*
   have hkr:k<(m.getD j []).length:=kK
   refine rn19 ?_
   refine zE 24 (.agg (zJ ((m.getD j []).getD k 0))) Z (AEq.of_eq Z) ?_
   generalize (m.getD j []).getD k 0=q at*
   repeat (refine ze rfl rfl rfl rfl rfl rfl rfl rfl rfl rfl rfl ?_)
   refine zq Z Z Z Z Z Z Z Z Z hml Z Z (by show 0+1≤1;omega) Z (by show (j+1)*56≤_∧_;omega) ?_ (by rw [hfix];exact fun h=>h) ?_
   ·intro i' j' hi hj'
    exact zAM 0 3 zJ zu qs q _ (zBi _) 1 i' j' hi hj'
   refine zCS ?_
   refine zG ?_
   refine zAI [some ⟨110,zd rs⟩,some ⟨118,qsC (zB4 (m.take (j+1)) k)⟩] ?_ ?_
   ·rw [htk]
    exact zP.eqv ⟨Z,Z,fun i j _ hj=>(zBb _ j _ hj).symm⟩ (zP.eqv (zAV 0 3 zJ qs q _ (zBi _)) zP.nil)
   refine rn3 ?_
   exact zI ⟨j+1,kK,kK,⟨Z,Z,Z,Z,Z,Z,Z,Z,Z,trivial⟩,Z⟩
  ·have hj':j=m.length:=kK
   subst hj'
   rw [List.take_length]
   have hcl:(zB4 m k).length=m.length:=zDC m k
   have hml:((List.range k).map (zB4 m)).length=k:=kJ
   have htk:(List.range (k+1)).map (zB4 m)=(List.range k).map (zB4 m)++[zB4 m k]:=by rw [List.range_succ,List.map_append];rfl
   generalize (List.range k).map (zB4 m)=rs at*
   generalize zB4 m k=col at*
   refine zEW ?_
   refine zAC 1 7 m.length [(0,.ro (zd m) 0 m.length),(5,.sl 0 0 k),(10,iN w),(11,iN k)] Z (zAT _) Z (by show _≤col.length;omega) ⟨Z,Z,Z,Z,trivial⟩ ?_
   refine zv 7 (.ro (qsC col) 0 col.length) Z (AEq.of_eq (by rw [hcl])) (rn3 ?_)
   refine zq Z Z Z Z Z Z Z Z Z hml Z Z (by show 0+1≤1;omega) Z (by show (k+1)*24≤_∧_;omega) ?_ (by rw [hfix];exact fun h=>h) ?_
   ·intro i' j hi hj
    exact zAM [] 1 zCy zBb rs col _ (zO5 _) 0 i' j hi hj
   refine zCS ?_
   refine zG ?_
   refine zAI ([some ⟨110,zd ((List.range (k+1)).map (zB4 m))⟩]++[none]) ?_ ?_
   ·rw [htk]
    exact zP.eqv (zAV [] 1 zCy rs col _ (zO5 _)) (zP.drop zP.nil)
   refine zA2 (H1:=[some ⟨110,zd ((List.range (k+1)).map (zB4 m))⟩]) Z (by rw [hfix];exact fun h=>h) ?_
   refine zAI [some ⟨110,zd ((List.range (k+1)).map (zB4 m))⟩] ?_ ?_
   ·exact zP.eqv ⟨Z,Z,fun i j _ hj=>(zBb _ j _ hj).symm⟩ zP.nil
   refine rn3 ?_
   exact zI ⟨k+1,kK,kK,⟨Z,Z,Z,Z,trivial⟩,Z⟩
 ·have hk':k=w:=kK
  subst hk'
  refine zEW ?_
  refine zAC 0 5 k [] Z (zGL _) Z (by show _≤(List.map _ _).length;simp) trivial (rn0 ?_)
  exact zM hR Z Z
theorem zOo (l:List Rat)(hlen:l.length≤1000000)(hs: ∀q∈l,Sz 100000 q)(hall:l.all zBd=true):zX Tryz.prog 70 [.ro (qsC l) 0 l.length] (.tup [.ro (.strs (l.map zr)) 0 (l.map zr).length,.int .i64 0]):=by
 have:=zQF l hlen hs hall
 rwa [List.length_map]
theorem len_D {k:Nat}{q:Rat}(h1:(Lib.decDigits q.num.natAbs).length≤k)(h2:(Lib.decDigits q.den).length≤k):D k q:=
 ⟨Nat.lt_of_lt_of_le (zDu _) (Nat.pow_le_pow_right kV h1),Nat.lt_of_lt_of_le (zDu _) (Nat.pow_le_pow_right kV h2)⟩
theorem zRf {r:List zAA}(h: ∀s∈r,zDH s=0): ∀q∈r.map zAG,D 2000 q:=by
 intro q hq
 obtain ⟨s,hs,rfl⟩:=List.mem_map.1 hq
 have hf:=(IsQ.self (h s hs)).fit
 unfold zBd at hf
 rw [Bool.and_eq_true,decide_eq_true_eq,decide_eq_true_eq] at hf
 exact len_D hf.1 hf.2
def vecP (p:List zAA×Int):AV:= .tup [.ro (.strs p.1) 0 p.1.length,.int .i64 p.2]
theorem zGj (l:List Rat)(hlen:l.length≤1000000)(hs: ∀q∈l,Sz 100000 q): ∃r:AV,zX Tryz.prog 70 [.ro (qsC l) 0 l.length] (.tup [r,.int .i64 (zBC l).2])∧AEq r (.ro (.strs (zBC l).1) 0 (zBC l).1.length):=by
 cases h:l.all zBd
 ·refine ⟨.nil,?_,?_⟩
  ·have:=zSX l hlen hs h
   unfold zBC;rw [h];exact this
  ·unfold zBC;rw [h];exact AEq.nil
 ·refine ⟨_,?_,AEq.rfl'⟩
  have:=zOo l hlen hs h
  unfold zBC;rw [h];exact this
end Go.Proofs.YtmpnheilfejcpaaGreatDoor
namespace Go.Proofs.YtmpnheilfejcpaaGreatDoor
open Go.Ax Go.Ax.Bg Go.Ax.Rt Go.RowKit Go.Ax.Idx Go.Ax.Cd
attribute [local irreducible] Ax zB2 QOp zU zBV
theorem zP8 (l:List (List UInt8))(g:FuncId)(caps:List AV)(p:List UInt8→Bool)(hc:noRef.noRefs caps=true)(hlen:l.length≤9223372036854775807)(hp: ∀x∈l,zX Tryz.prog g ([.str x]++caps) (.bool (p x))):
 zX Tryz.prog 135 [.ro (.strs l) 0 l.length,.fn g caps] (.int .i64 (idxF p l)):=by
 refine zU.value0 (zF (P:=Tryz.prog) (fn:=Tryz.f135) Z Z kQ Z (fun c hR hfix=> ?_)) (fix:=fun _=>False) (fun _ h=>h) (by simp [noRef.noRefs,noRef,hc]) Z
 refine rn3 ?_
 refine zb (ι:=Nat) (fun k=>[(0,.ro (.strs l) 0 l.length),(1,.fn g caps),(7,iN l.length),(8,iN k)]) (fun _=>[])
  (fun k=>k≤l.length∧(l.take k).any p=false) (fun k=>l.length-k) 0 ⟨⟨rfl,rfl,rfl,rfl,trivial⟩,rfl,Nat.zero_le _,rfl⟩ ?_
 intro k ⟨hk,hany⟩
 refine rn4 ?_
 refine zB Z (fun h=> ?_) (fun h=> ?_)
 ·have hk':k<l.length:=kK
  have hanys:=zC1 p l [] k hk'
  refine rn9 ?_
  refine zA Z Z Z (hp _ (z6 [] hk')) (rn0 ?_)
  refine zD7 Z (fun h2=> ?_) (fun h2=> ?_)
  ·refine rn6 ?_
   refine zM hR Z ?_
   have:=idxF_take p l k hany hk
   rw [zCc l [] k hk'] at this
   simp only [idxF,h2,if_true] at this
   rw [this];simp [zBs]
  ·refine rn5 ?_
   refine zI ⟨k+1,⟨kK,by rw [hanys,hany,h2];rfl⟩,kK,⟨Z,Z,Z,Z,trivial⟩,Z⟩
 ·have hk':k=l.length:=kK
  subst hk'
  refine rn5 ?_
  refine zM hR Z ?_
  have:=idxF_take p l l.length hany hk
  rw [List.drop_length] at this
  rw [this];rfl
theorem zOI (l:List (List UInt8))(g:FuncId)(caps:List AV)(p:List UInt8→Bool)(hc:noRef.noRefs caps=true)(hlen:l.length≤9223372036854775807)(hp: ∀x∈l,zX Tryz.prog g ([.str x]++caps) (.bool (p x))):
 zX Tryz.prog 49 [.ro (.strs l) 0 l.length,.fn g caps] (.bool (l.any p)):=by
 refine zU.value0 (zF (P:=Tryz.prog) (fn:=Tryz.f49) Z Z kQ Z (fun c hR hfix=> ?_)) (fix:=fun _=>False) (fun _ h=>h) (by simp [noRef.noRefs,noRef,hc]) Z
 refine rn0 ?_
 refine zA Z Z Z (zP8 l g caps p hc hlen hp) (rn8 ?_)
 refine zM hR Z ?_
 simp only [zBs,zHf]
theorem zJx (a b:List (List UInt8))(hlen:a.length≤9223372036854775807)(hlb:b.length≤9223372036854775807):zX Tryz.prog 57 [.ro (.strs a) 0 a.length,.ro (.strs b) 0 b.length] (.bool (decide (a=b))):=by
 refine zU.value0 (zF (P:=Tryz.prog) (fn:=Tryz.f57) Z Z kQ Z (fun c hR hfix=> ?_)) (fix:=fun _=>False) (fun _ h=>h) Z Z
 refine rn3 ?_
 refine zB Z (fun h=> ?_) (fun h=> ?_)
 ·refine rn2 ?_
  refine zM hR Z ?_
  have: ¬a=b:=by rintro rfl;exact h rfl
  simp [zBs,this]
 have hab:a.length=b.length:=kK
 refine rn3 ?_
 refine zb (ι:=Nat) (fun k=>[(0,.ro (.strs a) 0 a.length),(1,.ro (.strs b) 0 b.length),(12,iN a.length),(13,iN k)]) (fun _=>[])
  (fun k=>k≤a.length∧a.take k=b.take k) (fun k=>a.length-k) 0 ⟨⟨rfl,rfl,rfl,rfl,trivial⟩,rfl,Nat.zero_le _,rfl⟩ ?_
 intro k ⟨hk,heq⟩
 refine rn4 ?_
 refine zB Z (fun h2=> ?_) (fun h2=> ?_)
 ·have hk':k<a.length:=kK
  have ha:=zA0 a [] k hk'
  have hb:=zA0 b [] k kK
  refine rn1 ?_
  refine zEP kQ kQ Z (rn18 ?_)
  refine zB Z (fun h3=> ?_) (fun h3=> ?_)
  ·refine rn6 ?_
   refine zM hR Z ?_
   have: ¬a=b:=by rintro rfl;exact h3 rfl
   simp [zBs,this]
  ·refine rn5 ?_
   have h4:a.getD k []=b.getD k []:=Classical.not_not.1 h3
   exact zI ⟨k+1,⟨kK,by rw [ha,hb,heq,h4]⟩,kK,⟨Z,Z,Z,Z,trivial⟩,Z⟩
 ·have hk':k=a.length:=kK
  subst hk'
  rw [List.take_length,hab,List.take_length] at heq
  refine rn5 ?_
  refine zM hR Z ?_
  simp [zBs,heq]
theorem zP5 (l:List (List zAA))(g:FuncId)(caps:List AV)(p:List zAA→Bool)(hc:noRef.noRefs caps=true)(hlen:l.length≤9223372036854775807)(hp: ∀x∈l,zX Tryz.prog g ([.ro (.strs x) 0 x.length]++caps) (.bool (p x))):
 zX Tryz.prog 147 [.ro (zA9 l) 0 l.length,.fn g caps] (.int .i64 (idxF p l)):=by
 refine zU.value0 (zF (P:=Tryz.prog) (fn:=Tryz.f147) Z Z kQ Z (fun c hR hfix=> ?_)) (fix:=fun _=>False) (fun _ h=>h) (by simp [noRef.noRefs,noRef,hc]) Z
 refine rn3 ?_
 refine zb (ι:=Nat) (fun k=>[(0,.ro (zA9 l) 0 l.length),(1,.fn g caps),(7,iN l.length),(8,iN k)]) (fun _=>[])
  (fun k=>k≤l.length∧(l.take k).any p=false) (fun k=>l.length-k) 0 ⟨⟨rfl,rfl,rfl,rfl,trivial⟩,rfl,Nat.zero_le _,rfl⟩ ?_
 intro k ⟨hk,hany⟩
 refine rn4 ?_
 refine zB Z (fun h=> ?_) (fun h=> ?_)
 ·have hk':k<l.length:=kK
  have hanys:=zC1 p l [] k hk'
  refine rn6 ?_
  refine zA Z Z Z (hp _ (z6 [] hk')) (rn0 ?_)
  refine zD7 Z (fun h2=> ?_) (fun h2=> ?_)
  ·refine rn6 ?_
   refine zM hR Z ?_
   have:=idxF_take p l k hany hk
   rw [zCc l [] k hk'] at this
   simp only [idxF,h2,if_true] at this
   rw [this];simp [zBs]
  ·refine rn5 ?_
   refine zI ⟨k+1,⟨kK,by rw [hanys,hany,h2];rfl⟩,kK,⟨Z,Z,Z,Z,trivial⟩,Z⟩
 ·have hk':k=l.length:=kK
  subst hk'
  refine rn5 ?_
  refine zM hR Z ?_
  have:=idxF_take p l l.length hany hk
  rw [List.drop_length] at this
  rw [this];rfl
theorem zRw (l:List (List zAA))(g:FuncId)(caps:List AV)(p:List zAA→Bool)(hc:noRef.noRefs caps=true)(hlen:l.length≤9223372036854775807)(hp: ∀x∈l,zX Tryz.prog g ([.ro (.strs x) 0 x.length]++caps) (.bool (p x))):
 zX Tryz.prog 65 [.ro (zA9 l) 0 l.length,.fn g caps] (.bool (l.any p)):=by
 refine zU.value0 (zF (P:=Tryz.prog) (fn:=Tryz.f65) Z Z kQ Z (fun c hR hfix=> ?_)) (fix:=fun _=>False) (fun _ h=>h) (by simp [noRef.noRefs,noRef,hc]) Z
 refine rn0 ?_
 refine zA Z Z Z (zP5 l g caps p hc hlen hp) (rn8 ?_)
 refine zM hR Z ?_
 simp only [zBs,zHf]
theorem small11 (s:zAA)(hs:s.length≤9223372036854775807):zX Tryz.prog 67 [.str s] (.bool (decide (12<(s.length:Int)))):=by
 refine zU.value0 (zF (P:=Tryz.prog) (fn:=Tryz.f67) Z Z kQ Z (fun c hR hfix=> ?_)) (fix:=fun _=>False) (fun _ h=>h) Z Z
 refine rn6 ?_
 exact zM hR Z Z
def zMj (n:Int)(v:List zAA):Bool:=decide (n<(v.length:Int))||v.any (fun s=>decide (12<(s.length:Int)))
theorem small1 (n:Int)(v:List zAA)(hl:v.length≤9223372036854775807)(hs: ∀s∈v,s.length≤9223372036854775807):zX Tryz.prog 66 [.ro (.strs v) 0 v.length,.rp (.box [.int .i64 n]) 0 0] (.bool (zMj n v)):=by
 have hc:=zOI v 67 [] (fun s=>decide (12<(s.length:Int))) rfl hl (fun s hm=>small11 s (hs s hm))
 unfold zMj
 refine zU.value0 (zF (P:=Tryz.prog) (fn:=Tryz.f66) Z Z kQ Z (fun c hR hfix=> ?_)) (fix:=fun _=>False) (fun _ h=>h) Z Z
 refine rn15 ?_
 refine zAm Z Z (fun h=> ?_) (fun h=> ?_)
 ·rw [decide_eq_true h,Bool.true_or] at hR
  refine rn6 ?_
  exact zM hR Z Z
 ·rw [decide_eq_false h,Bool.false_or] at hR
  refine rn2 ?_
  refine zA Z Z Z hc (rn2 ?_)
  exact zM hR Z Z
theorem boxI1 (n:Int):zAY (.box [.int .i64 n]):=by
 intro i j _ hj
 obtain rfl:j=0:=by have hj:j<1:=hj;omega
 rfl
def cellM (m:List (List zAA)):List AV:=[.ro (zA9 m) 0 m.length]
abbrev zOe (l:List (List (List zAA))):Cells:=zC9 [] 1 cellM l
theorem zSs (n:Nat)(l:List (List (List zAA)))(hn:n≤1000)(hl:l.length≤9223372036854775807)(hm: ∀m∈l,m.length≤9223372036854775807∧ ∀r∈m,r.length≤9223372036854775807∧ ∀s∈r,s.length≤9223372036854775807):zX Tryz.prog 15 [iN n,.ro (zOe l) 0 l.length] (.bool (l.all (zLw n 12))):=by
 have hbad: ∀m:List (List zAA),zLw n 12 m= !(decide ((n:Int)<(m.length:Int))||m.any (zMj n)):=by
  intro m
  unfold zLw zMj
  rw [Bool.not_or,Bool.eq_iff_iff]
  simp only [Bool.and_eq_true,Bool.not_eq_true',decide_eq_true_eq,decide_eq_false_iff_not,List.all_eq_true,List.any_eq_false,Bool.or_eq_true,not_or,List.any_eq_true,not_exists]
  constructor
  ·rintro ⟨h1,h2⟩
   refine ⟨kK,fun v hv=> ?_⟩
   obtain ⟨h3,h4⟩:=h2 v hv
   refine ⟨kK,fun s hs=> ?_⟩
   have:=h4 s hs.1
   have:=hs.2
   omega
  ·rintro ⟨h1,h2⟩
   refine ⟨kK,fun v hv=> ?_⟩
   obtain ⟨h3,h4⟩:=h2 v hv
   refine ⟨kK,fun s hs=> ?_⟩
   have:=h4 s
   simp only [hs,true_and] at this
   omega
 refine zU.value0 (zF (P:=Tryz.prog) (fn:=Tryz.f15) Z Z kQ Z (fun c hR hfix=> ?_)) (fix:=fun _=>False) (fun _ h=>h) Z Z
 refine rn6 ?_
 refine zb (ι:=Nat) (fun k=>[(0,iN n),(1,.ro (zOe l) 0 l.length),(2,.ptr 0 0 0),(7,.ro (zOe l) 0 l.length),(8,iN l.length),(9,iN k)]) (fun _=>[some ⟨3,.box [iN n]⟩])
  (fun k=>k≤l.length∧l.all (zLw n 12)=(l.drop k).all (zLw n 12)) (fun k=>l.length-k) 0 ⟨⟨rfl,rfl,rfl,rfl,rfl,rfl,trivial⟩,rfl,Nat.zero_le _,by rw [List.drop_zero]⟩ ?_
 rintro k ⟨hk,hA⟩
 refine rn4 ?_
 refine zB Z (fun h=> ?_) (fun h=> ?_)
 ·have hk':k<l.length:=kK
  have hd:=zFQ (d:=[]) hk'
  rw [hd,List.all_cons,hbad] at hA
  obtain ⟨g1,g2⟩:=hm _ (z6 [] hk')
  have hc:=zRw (l.getD k []) 66 [.rp (.box [iN n]) 0 0] (zMj n) rfl g1 (fun v hv=>small1 n v (g2 v hv).1 (g2 v hv).2)
  refine rn6 ?_
  refine zAm Z Z (fun h2=> ?_) (fun h2=> ?_)
  ·rw [decide_eq_true h2,Bool.true_or,Bool.not_true,Bool.false_and] at hA
   rw [hA] at hR
   refine rn6 ?_
   exact zM hR Z Z
  ·rw [decide_eq_false h2,Bool.false_or] at hA
   cases hb:(l.getD k []).any (zMj (n:Nat))
   ·rw [hb] at hA hc
    refine zCS ?_
    refine zFa rfl rfl rfl rfl hc (zJb (o1:=⟨3,.box [iN n]⟩) (boxI1 _)) ⟨trivial,⟨fun o ho=>by simp at ho;subst ho;exact Nat.zero_lt_one,trivial⟩,trivial⟩ rfl rfl rfl (rn5 ?_)
    exact zI ⟨k+1,⟨kK,hA⟩,kK,⟨Z,Z,Z,Z,Z,Z,trivial⟩,Z⟩
   ·rw [hb] at hA hc
    rw [Bool.not_true,Bool.false_and] at hA
    rw [hA] at hR
    refine zCS ?_
    refine zFa rfl rfl rfl rfl hc (zJb (o1:=⟨3,.box [iN n]⟩) (boxI1 _)) ⟨trivial,⟨fun o ho=>by simp at ho;subst ho;exact Nat.zero_lt_one,trivial⟩,trivial⟩ rfl rfl rfl (rn6 ?_)
    exact zM hR Z Z
 ·have hk':k=l.length:=kK
  subst hk'
  rw [List.drop_length] at hA
  rw [hA] at hR
  refine rn5 ?_
  exact zM hR Z Z
theorem zFx (m:List (List zAA))(hlen:m.length≤9223372036854775807)(hr: ∀r∈m,r.length≤9223372036854775807∧ ∀s∈r,s.length≤9223372036854775807):zX Tryz.prog 64 [.ro (zA9 m) 0 m.length] (.int .i64 (zBW m)):=by
 have cm:=zSQ m hlen hr
 have wm:=width_ok m hlen
 refine zU.value0 (zF (P:=Tryz.prog) (fn:=Tryz.f64) Z Z kQ Z (fun c hR hfix=> ?_)) (fix:=fun _=>False) (fun _ h=>h) Z Z
 refine rn6 ?_
 refine zB Z (fun h1=> ?_) (fun h1=> ?_)
 ·have e:zBW m=2:=by unfold zBW;rw [if_pos kK]
  rw [e] at hR
  refine rn2 ?_
  exact zM hR Z Z
 have h1': ¬12<m.length:=kK
 refine rn1 ?_
 refine zA Z Z Z cm (rn3 ?_)
 refine zB Z (fun h2=> ?_) (fun h2=> ?_)
 ·have e:zBW m=zJ2 m:=by unfold zBW;rw [if_neg h1',if_pos h2]
  rw [e] at hR
  refine rn2 ?_
  exact zM hR Z Z
 refine rn1 ?_
 refine zA Z Z Z wm (rn4 ?_)
 refine zB Z (fun h3=> ?_) (fun h3=> ?_)
 ·have e:zBW m=8:=by unfold zBW;rw [if_neg h1',if_neg h2,if_pos kK]
  rw [e] at hR
  refine rn2 ?_
  exact zM hR Z Z
 refine rn1 ?_
 refine zA Z Z Z wm (rn6 ?_)
 refine zB Z (fun h4=> ?_) (fun h4=> ?_)
 ·have e:zBW m=2:=by unfold zBW;rw [if_neg h1',if_neg h2,if_neg kK,if_pos kK]
  rw [e] at hR
  refine rn2 ?_
  exact zM hR Z Z
 have e:zBW m=0:=by unfold zBW;rw [if_neg h1',if_neg h2,if_neg kK,if_neg kK]
 rw [e] at hR
 refine rn1 ?_
 exact zM hR Z Z
end Go.Proofs.YtmpnheilfejcpaaGreatDoor
namespace Go.Proofs.YtmpnheilfejcpaaGreatDoor
open Go.Ax Go.Ax.Bg Go.Ax.Rt Go.RowKit Go.Ax.Dt Go.Ax.Sx Go.Ax.Mg
attribute [local irreducible] Ax zB2 QOp zU zBV
abbrev zFD (l:List zAA):Prop:=l.length≤9223372036854775807∧ ∀s∈l,s.length≤9223372036854775807
abbrev zD4 (m:List (List zAA)):Prop:=m.length≤9223372036854775807∧ ∀r∈m,r.length≤9223372036854775807∧ ∀s∈r,s.length≤9223372036854775807
theorem rat_D2 {s:zAA}(h:zDH s=0):D 2000 (zAG s):=by
 have hf:=(IsQ.self h).fit
 unfold zBd at hf
 rw [Bool.and_eq_true,decide_eq_true_eq,decide_eq_true_eq] at hf
 exact dig_D hf.1 hf.2
theorem zIa (m:List (List zAA))(r y:List zAA)(hm:0<m.length)(hm2:m.length≤9223372036854775807)(hw:zS m≤9223372036854775807)(hr:zFD r)(hc:zFD y):
 zX Tryz.prog 139 [.ro (zA9 m) 0 m.length,.ro (.strs r) 0 r.length,.ro (.strs y) 0 y.length] (.int .i64 (zFO m r y)):=by
 have o1:=zRG r hr.1 hr.2
 have o2:=zRG y hc.1 hc.2
 have hwd:(m.getD 0 []).length=zS m:=rfl
 have hl1:=hr.1
 have hl2:=hc.1
 refine zU.value0 (zF (P:=Tryz.prog) (fn:=Tryz.f139) Z Z kQ Z (fun c hR hfix=> ?_)) (fix:=fun _=>False) (fun _ h=>h) Z Z
 unfold zFO at hR
 refine rn3 ?_
 refine zAm Z Z (fun h1=> ?_) (fun h1=> ?_)
 ·rw [if_pos (.inl kK)] at hR
  refine rn6 ?_
  exact zM hR Z Z
 refine rn6 ?_
 refine zB Z (fun h2=> ?_) (fun h2=> ?_)
 ·rw [if_pos (.inr kK)] at hR
  refine rn2 ?_
  exact zM hR Z Z
 rw [if_neg kK] at hR
 refine rn1 ?_
 refine zA Z Z Z o1 (rn3 ?_)
 refine zB Z (fun h3=> ?_) (fun h3=> ?_)
 ·rw [if_pos h3] at hR
  refine rn2 ?_
  exact zM hR Z Z
 rw [if_neg h3] at hR
 refine rn1 ?_
 refine zA Z Z Z o2 (rn0 ?_)
 exact zM hR Z Z
theorem pay_ok (m:List (List zAA))(r y:List zAA)(hm:zD4 m)(hr:zFD r)(hc:zFD y):
 zX Tryz.prog 53 [.ro (zA9 m) 0 m.length,.ro (.strs r) 0 r.length,.ro (.strs y) 0 y.length] (pairA (payG m r y)):=by
 have cg:=zFx m hm.1 hm.2
 refine zU.value0 (zF (P:=Tryz.prog) (fn:=Tryz.f53) Z Z kQ Z (fun c hR hfix=> ?_)) (fix:=fun _=>False) (fun _ h=>h) Z Z
 unfold payG at hR
 refine rn0 ?_
 refine zA Z Z Z cg (rn3 ?_)
 refine zB Z (fun h1=> ?_) (fun h1=> ?_)
 ·rw [if_pos h1] at hR
  refine rn2 ?_
  exact zM hR Z Z
 rw [if_neg h1] at hR
 obtain ⟨g1,g2,g3,g4,g5⟩:=zB3 (Classical.not_not.1 h1)
 have hM:=zDy g1
 have hv:=zEw g1
 have hml:(inM m).length=m.length:=zB7 m
 have hm0:0<m.length:=List.length_pos_iff.2 g5
 have cs:=zIa m r y hm0 hm.1 kK hr hc
 refine rn1 ?_
 refine zA Z Z Z cs (rn3 ?_)
 refine zB Z (fun h2=> ?_) (fun h2=> ?_)
 ·rw [if_pos h2] at hR
  refine rn2 ?_
  exact zM hR Z Z
 rw [if_neg h2] at hR
 obtain ⟨s1,s2,s3,s4⟩:=zM1 (Classical.not_not.1 h2)
 obtain ⟨p1,p2,_,p4⟩:=zII s3
 obtain ⟨q1,q2,_,q4⟩:=zII s4
 have nr:=zLJ r kK (fun s hs=>⟨hr.2 s hs,p2 s hs⟩)
 have nc:=zLJ y kK (fun s hs=>⟨hc.2 s hs,q2 s hs⟩)
 have nm:=zIm m kK (fun r h=>⟨by have:=hM.cols r h;omega,fun s hs=>⟨(hm.2 r h).2 s hs,hM.ok r h s hs⟩⟩)
 have hcl:(y.map zAG).length=zS m:=by rw [List.length_map];exact s2
 have hrl:(r.map zAG).length=m.length:=by rw [List.length_map];exact s1
 have hcD: ∀q∈y.map zAG,D 2000 q:=fun q hq=>(q4 q hq).2
 have hrD: ∀q∈r.map zAG,D 2000 q:=fun q hq=>(p4 q hq).2
 obtain ⟨L,hL⟩: ∃L,L=zJJ (y.map zAG) (inM m):=⟨_,rfl⟩
 have hLl:L.length=m.length:=by rw [hL];unfold zJJ;rw [List.length_map];exact hml
 have hLD: ∀q∈L,D 48100 q:=fun q hq=>by
  rw [hL] at hq
  obtain ⟨row,hrow,rfl⟩:=List.mem_map.1 hq
  obtain ⟨v1,v2⟩:=hv row hrow
  exact (zLA v2 hcD kK).mono (by rw [v1];have:zS m*4001≤12*4001:=Nat.mul_le_mul_right _ kK;omega)
 have dL:=zLB (r.map zAG) L 2000 48100 hrD hLD kK kK (by rw [hrl];have:m.length*50101≤12*50101:=Nat.mul_le_mul_right _ kK;omega)
 have oL:=out_ok (zAQ (r.map zAG) L) (zBj ((zLA hrD hLD kK).mono (by rw [hrl];have:m.length*50101≤12*50101:=Nat.mul_le_mul_right _ kK;omega)))
 have dR: ∀i,i<m.length→zX Tryz.prog 117 [.ro (qsC ((inM m).getD i [])) 0 ((inM m).getD i []).length,.ro (qsC (y.map zAG)) 0 (y.map zAG).length] (qA (zAQ ((inM m).getD i []) (y.map zAG))):=fun i hi=>by
  obtain ⟨v1,v2⟩:=hv _ (z6 [] (show i<(inM m).length by omega))
  exact zLB _ _ 2000 2000 v2 hcD kK kK (by rw [v1];have:zS m*4001≤12*4001:=Nat.mul_le_mul_right _ kK;omega)
 have hsn: ∀i,i<m.length→zJJ (y.map zAG) ((inM m).take (i+1))=zJJ (y.map zAG) ((inM m).take i)++[zAQ ((inM m).getD i []) (y.map zAG)]:=fun i hi=>zR5 _ _ kK
 have hd0:zJJ (y.map zAG) ((inM m).take m.length)=L:=by rw [hL,List.take_of_length_le kK]
 have hlk: ∀k,k≤m.length→(zJJ (y.map zAG) ((inM m).take k)).length=k:=fun k hk=>by unfold zJJ;rw [List.length_map,List.length_take];omega
 rw [show (inM m).map (fun row=>zAQ row (y.map zAG))=L from hL.symm] at hR
 have hs0:zJJ (y.map zAG) ((inM m).take 0)=[]:=rfl
 clear hv hM hL
 generalize inM m=M at*
 generalize y.map zAG=C at*
 generalize hn:m.length=n at*
 refine rn1 ?_
 refine zL3 10 ⟨118,qsC []⟩ Z Z ?_
 skip
 refine zA Z Z Z nc (rn0 ?_)
 refine zA Z Z Z nm (rn3 ?_)
 refine zb (ι:=Nat) (fun k=>[(1,.ro (.strs r) 0 r.length),(10,.sl 0 0 k),(11,.ro (qsC C) 0 C.length),(29,.ro (zd M) 0 n),(30,iN n),(31,iN k)]) (fun k=>[some ⟨118,qsC (zJJ C (M.take k))⟩])
  (fun k=>k≤n) (fun k=>n-k) 0 ⟨⟨rfl,rfl,rfl,rfl,rfl,rfl,trivial⟩,rfl,Nat.zero_le _⟩ ?_
 intro k hk
 refine rn4 ?_
 refine zB Z (fun h=> ?_) (fun h=> ?_)
 ·have hk':k<n:=kK
  have cd:=dR k hk'
  have hst:=hsn k hk'
  have hll:=hlk k hk
  have hrk:k<M.length:=kK
  generalize zJJ C (M.take k)=qs at*
  refine rn12 ?_
  refine zE 36 (.ro (qsC (M.getD k [])) 0 (M.getD k []).length) Z (AEq.of_eq Z) ?_
  refine zA Z Z Z cd ?_
  generalize zAQ (M.getD k []) C=q at*
  unfold qA
  repeat (refine ze rfl rfl rfl rfl rfl rfl rfl rfl rfl rfl rfl ?_)
  refine zq Z Z Z Z Z Z Z Z Z hll Z Z (by show 0+1≤1;omega) Z (by show (k+1)*56≤_∧_;omega) ?_ (by rw [hfix];exact fun h=>h) ?_
  ·intro i' j' hi hj'
   exact zAM 0 3 zJ zu qs q _ (zBi _) 0 i' j' hi hj'
  refine zCS ?_
  refine zG ?_
  refine zAI [some ⟨118,qsC (zJJ C (M.take (k+1)))⟩] ?_ ?_
  ·rw [hst]
   exact zP.eqv (zAV 0 3 zJ qs q _ (zBi _)) zP.nil
  refine rn3 ?_
  exact zI ⟨k+1,kK,kK,⟨Z,Z,Z,Z,Z,Z,trivial⟩,Z⟩
 ·have hke:k=n:=kK
  subst hke
  rw [hd0]
  refine zEW ?_
  refine zAC 0 10 k [(1,.ro (.strs r) 0 r.length)] Z (zAT _) Z (by show _≤L.length;omega) ⟨Z,trivial⟩ ?_
  refine zv 10 (.ro (qsC L) 0 L.length) Z (AEq.of_eq (by rw [hLl])) (rn0 ?_)
  refine zA Z Z Z nr ?_
  repeat (refine zL (zH rfl) ?_)
  refine zA Z Z Z dL ?_
  refine zA Z Z Z oL ?_
  unfold pairA
  refine rn2 ?_
  exact zM hR Z Z
theorem zLI (m:List (List zAA))(v:zAA)(r y:List zAA)(hm:zD4 m)(hvl:v.length≤9223372036854775807)(hr:zFD r)(hc:zFD y):
 zX Tryz.prog 63 [.ro (zA9 m) 0 m.length,.agg [.str v,.ro (.strs r) 0 r.length,.ro (.strs y) 0 y.length]] (.int .i64 (verG m v r y)):=by
 have cg:=zFx m hm.1 hm.2
 have cv:=zMv v hvl
 refine zU.value0 (zF (P:=Tryz.prog) (fn:=Tryz.f63) Z Z kQ Z (fun c hR hfix=> ?_)) (fix:=fun _=>False) (fun _ h=>h) Z Z
 unfold verG at hR
 refine rn6 ?_
 refine zA Z Z Z cg (rn3 ?_)
 refine zB Z (fun h1=> ?_) (fun h1=> ?_)
 ·rw [if_pos h1] at hR
  refine rn2 ?_
  exact zM hR Z Z
 rw [if_neg h1] at hR
 obtain ⟨g1,g2,g3,g4,g5⟩:=zB3 (Classical.not_not.1 h1)
 have hM:=zDy g1
 have hv:=zEw g1
 have hml:(inM m).length=m.length:=zB7 m
 have hm0:0<m.length:=List.length_pos_iff.2 g5
 have cs:=zIa m r y hm0 hm.1 kK hr hc
 refine rn5 ?_
 refine zA Z Z Z cs (rn3 ?_)
 refine zB Z (fun h2=> ?_) (fun h2=> ?_)
 ·rw [if_pos h2] at hR
  refine rn2 ?_
  exact zM hR Z Z
 rw [if_neg h2] at hR
 obtain ⟨s1,s2,s3,s4⟩:=zM1 (Classical.not_not.1 h2)
 refine rn5 ?_
 refine zA Z Z Z cv (rn3 ?_)
 refine zB Z (fun h3=> ?_) (fun h3=> ?_)
 ·rw [if_pos h3] at hR
  refine rn2 ?_
  exact zM hR Z Z
 rw [if_neg h3] at hR
 have e3:=Classical.not_not.1 h3
 have cp:=zEt v hvl e3
 obtain ⟨p1,p2,_,p4⟩:=zII s3
 obtain ⟨q1,q2,_,q4⟩:=zII s4
 have nr:=zLJ r kK (fun s hs=>⟨hr.2 s hs,p2 s hs⟩)
 have nc:=zLJ y kK (fun s hs=>⟨hc.2 s hs,q2 s hs⟩)
 have nm:=zIm m kK (fun r h=>⟨by have:=hM.cols r h;omega,fun s hs=>⟨(hm.2 r h).2 s hs,hM.ok r h s hs⟩⟩)
 have hcl:(y.map zAG).length=zS m:=by rw [List.length_map];exact s2
 have hrl:(r.map zAG).length=m.length:=by rw [List.length_map];exact s1
 have hcD: ∀q∈y.map zAG,D 2000 q:=fun q hq=>(q4 q hq).2
 have hrD: ∀q∈r.map zAG,D 2000 q:=fun q hq=>(p4 q hq).2
 have hVs:Sz 100000 (zAG v):=zBj ((rat_D2 e3).mono kK)
 have hcols: ∀col∈zEO (inM m) (y.map zAG).length,col.length=m.length∧ ∀q∈col,D 2000 q:=fun col hcol=>by
  obtain ⟨j,hj,rfl⟩:=List.mem_map.1 hcol
  refine ⟨by rw [zDC];exact hml,fun q hq=> ?_⟩
  obtain ⟨row,hrow,rfl⟩:=List.mem_map.1 hq
  exact (hv row hrow).2 _ (z8 0 (by rw [(hv row hrow).1];exact hcl▸(show j<(y.map zAG).length by simpa using hj)))
 have cc:=zQu (inM m) (y.map zAG).length kK kK (fun row h=>by rw [(hv row h).1];exact hcl.symm)
 rw [hml] at cc
 have hclen:(zEO (inM m) (y.map zAG).length).length=(y.map zAG).length:=by unfold zEO;rw [List.length_map,List.length_range]
 have dS: ∀(a b:List Rat),(∀q∈a,D 2000 q)→(∀q∈b,D 2000 q)→a.length≤b.length→b.length≤12→zX Tryz.prog 117 [.ro (qsC a) 0 a.length,.ro (qsC b) 0 b.length] (qA (zAQ a b))∧Sz 100000 (zAQ a b):=fun a b ha hb h1 h2=>by
  have h3:a.length*4001≤12*4001:=Nat.mul_le_mul_right _ kK
  exact ⟨zLB a b 2000 2000 ha hb h1 kK kK,zBj ((zLA ha hb h1).mono kK)⟩
 have dR:=fun (i:Nat) (hi:i<m.length)=>dS _ _ (hv _ (z6 [] (show i<(inM m).length by omega))).2 hcD (by rw [(hv _ (z6 [] (show i<(inM m).length by omega))).1];omega) kK
 have dC:=fun (i:Nat) (hi:i<(y.map zAG).length)=>dS _ _ (hcols _ (z6 [] (show i<(zEO (inM m) (y.map zAG).length).length by omega))).2 hrD (by rw [(hcols _ (z6 [] (show i<(zEO (inM m) (y.map zAG).length).length by omega))).1];omega) kK
 have ecl:y.length=(y.map zAG).length:=(List.length_map ..).symm
 rw [ecl] at hR
 clear hv hM
 generalize zEO (inM m) (y.map zAG).length=K at*
 generalize inM m=M at*
 generalize y.map zAG=C at*
 generalize r.map zAG=R at*
 generalize zAG v=V at*
 generalize m.length=n at*
 refine rn5 ?_
 refine zA Z Z Z cp ?_
 unfold qA
 repeat (refine zA7 rfl rfl rfl ?_)
 refine sa1 (c':= .box (zJ V)) Z Z Z Z Z Z Z (rn0 ?_)
 refine zA Z Z Z nm (rn0 ?_)
 refine zZ kQ ?_
 refine zj (fuel:=0) [0,1,2,3,4,5,6,7] [(3,.ptr 0 0 0),(8,.ptr 1 0 0),(9,.ro (zd M) 0 n)] ⟨Z,Z,Z,trivial⟩ kQ kV Z Z ?_
 refine zK Z Z (zN Z Z Z Z Z Z) ?_
 refine zK Z Z (zY Z Z Z Z Z) ?_
 refine zAy Z Z Z Z Z nr ?_
 refine zK Z Z (zN Z Z Z Z Z Z) ?_
 refine zK Z Z (zY Z Z Z Z Z) ?_
 refine zAy Z Z Z Z Z nc ?_
 refine zK Z Z (zf Z) ?_
 refine zK Z Z (zf Z) ?_
 refine zz ?_
 refine zT kQ (rn3 ?_)
 refine zb (ι:=Nat) (fun k=>[(8,.ptr 1 0 0),(9,.ro (zd M) 0 n),(10,.ro (qsC R) 0 R.length),(11,.ro (qsC C) 0 C.length),(47,.ro (zd M) 0 n),(48,iN n),(49,iN k)]) (fun k=>[some ⟨34,.box [.str v,.ro (.strs r) 0 r.length,.ro (.strs y) 0 y.length]⟩,some ⟨118,.box (zJ V)⟩])
  (fun k=>k≤n∧ ∀i,i<k→ ¬0<zBl (zAQ (M.getD i []) C) V) (fun k=>n-k) 0 ⟨⟨rfl,rfl,rfl,rfl,rfl,rfl,rfl,trivial⟩,rfl,Nat.zero_le _,fun i h=>absurd h (Nat.not_lt_zero _)⟩ ?_
 rintro k ⟨hk,hnk⟩
 refine rn4 ?_
 refine zB Z (fun h=> ?_) (fun h=> ?_)
 ·have hk':k<n:=kK
  obtain ⟨cd,ds⟩:=dR k hk'
  have cq:=zEf (zAQ (M.getD k []) C) V ds hVs
  have hrk:k<M.length:=kK
  have hyes:0<zBl (zAQ (M.getD k []) C) V→M.any (fun row=>decide (0<zBl (zAQ row C) V))=true:=fun q=>any_at _ [] M hrk (decide_eq_true q)
  generalize hqq:zAQ (M.getD k []) C=q at*
  refine rn6 ?_
  refine zZ kQ ?_
  refine zj (fuel:=0) [0,1,2,3,4,5] [(8,.ptr 1 0 0),(9,.ro (zd M) 0 n),(10,.ro (qsC R) 0 R.length),(11,.ro (qsC C) 0 C.length),(13,.ro (qsC (M.getD k [])) 0 (M.getD k []).length),(47,.ro (zd M) 0 n),(48,iN n),(49,iN k)] ⟨Z,Z,Z,Z,Z,Z,Z,Z,trivial⟩ kQ kV Z Z ?_
  refine zK Z Z (zH Z) ?_
  refine zK Z Z (zH Z) ?_
  refine zAy Z Z Z Z Z cd ?_
  refine zK Z Z (qpp Z Z Z Z Z Z Z) ?_
  refine zAy Z Z Z Z Z cq ?_
  refine zK Z Z (zJW Z Z) ?_
  refine zz ?_
  refine zT kQ ?_
  repeat (refine zG ?_)
  refine zB Z (fun h4=> ?_) (fun h4=> ?_)
  ·rw [if_pos (hyes h4)] at hR
   refine rn6 ?_
   exact zM hR Z Z
  ·refine rn5 ?_
   exact zI ⟨k+1,⟨kK,fun i hi=>by
    rcases Nat.lt_or_ge i k with q|q
    ·exact hnk i q
    ·obtain rfl:i=k:=kK
     exact fun z=>h4 (by rw [hqq] at z;exact z)⟩,kK,⟨Z,Z,Z,Z,Z,Z,Z,trivial⟩,Z⟩
 have hke:k=n:=kK
 subst hke
 have hno: ¬M.any (fun row=>decide (0<zBl (zAQ row C) V))=true:=by
  rw [zQc _ [] M (fun i hi=>decide_eq_false (hnk i kK))]
  exact fun z=>by cases z
 rw [if_neg hno] at hR
 refine rn5 ?_
 refine zA Z Z Z cc (rn3 ?_)
 refine zb (ι:=Nat) (fun j=>[(8,.ptr 1 0 0),(10,.ro (qsC R) 0 R.length),(63,.ro (zd K) 0 C.length),(64,iN C.length),(65,iN j)]) (fun j=>[some ⟨34,.box [.str v,.ro (.strs r) 0 r.length,.ro (.strs y) 0 y.length]⟩,some ⟨118,.box (zJ V)⟩])
  (fun j=>j≤C.length∧ ∀i,i<j→ ¬zBl (zAQ (K.getD i []) R) V<0) (fun j=>C.length-j) 0 ⟨⟨rfl,rfl,rfl,rfl,rfl,trivial⟩,rfl,Nat.zero_le _,fun i h=>absurd h (Nat.not_lt_zero _)⟩ ?_
 rintro j ⟨hj,hnj⟩
 refine rn4 ?_
 refine zB Z (fun h=> ?_) (fun h=> ?_)
 ·have hj':j<C.length:=kK
  obtain ⟨cd,ds⟩:=dC j hj'
  have cq:=zEf (zAQ (K.getD j []) R) V ds hVs
  have hrk:j<K.length:=kK
  have hyes:zBl (zAQ (K.getD j []) R) V<0→K.any (fun col=>decide (zBl (zAQ col R) V<0))=true:=fun q=>any_at _ [] K hrk (decide_eq_true q)
  generalize hqq:zAQ (K.getD j []) R=q at*
  refine rn6 ?_
  refine zZ kQ ?_
  refine zj (fuel:=0) [0,1,2,3,4,5] [(8,.ptr 1 0 0),(10,.ro (qsC R) 0 R.length),(15,.ro (qsC (K.getD j [])) 0 (K.getD j []).length),(63,.ro (zd K) 0 C.length),(64,iN C.length),(65,iN j)] ⟨Z,Z,Z,Z,Z,Z,trivial⟩ kQ kV Z Z ?_
  refine zK Z Z (zH Z) ?_
  refine zK Z Z (zH Z) ?_
  refine zAy Z Z Z Z Z cd ?_
  refine zK Z Z (qpp Z Z Z Z Z Z Z) ?_
  refine zAy Z Z Z Z Z cq ?_
  refine zK Z Z (zDS Z Z) ?_
  refine zz ?_
  refine zT kQ ?_
  repeat (refine zG ?_)
  refine zB Z (fun h4=> ?_) (fun h4=> ?_)
  ·rw [if_pos (hyes h4)] at hR
   refine rn6 ?_
   exact zM hR Z Z
  ·refine rn5 ?_
   exact zI ⟨j+1,⟨kK,fun i hi=>by
    rcases Nat.lt_or_ge i j with q|q
    ·exact hnj i q
    ·obtain rfl:i=j:=kK
     exact fun z=>h4 (by rw [hqq] at z;exact z)⟩,kK,⟨Z,Z,Z,Z,Z,trivial⟩,Z⟩
 ·have hje:j=C.length:=kK
  subst hje
  have hno2: ¬K.any (fun col=>decide (zBl (zAQ col R) V<0))=true:=by
   rw [zQc _ [] K (fun i hi=>decide_eq_false (hnj i kK))]
   exact fun z=>by cases z
  rw [if_neg hno2] at hR
  refine rn5 ?_
  exact zM hR Z Z
theorem belowI {n:Nat}{o1:AObj}(h1:zBM n o1.c): ∀(h:Nat) (o:AObj),([some o1]:zO)[h]? =some (some o)→zBM n o.c:=by
 intro h o ho
 match h,ho with
 |0,ho=>cases ho;exact h1
 |_+1,ho=>simp at ho
def domA (p:List Int×Int):AV:= .tup [.ro (.ints .i64 p.1) 0 p.1.length,.int .i64 p.2]
theorem zNQ (m:List (List zAA))(hm:zD4 m):zX Tryz.prog 61 [.ro (zA9 m) 0 m.length] (domA (domR m)):=by
 have cg:=zFx m hm.1 hm.2
 refine zU.value0 (zF (P:=Tryz.prog) (fn:=Tryz.f61) Z Z kQ Z (fun c hR hfix=> ?_)) (fix:=fun _=>False) (fun _ h=>h) Z Z
 unfold domR at hR
 refine rn0 ?_
 refine zA Z Z Z cg (rn3 ?_)
 refine zB Z (fun h1=> ?_) (fun h1=> ?_)
 ·rw [if_pos h1] at hR
  refine rn7 ?_
  refine zv 2 (.ro (.ints .i64 []) 0 0) Z AEq.nil (rn2 ?_)
  exact zM hR Z Z
 rw [if_neg h1] at hR
 obtain ⟨g1,g2,g3,g4,g5⟩:=zB3 (Classical.not_not.1 h1)
 have hM:=zDy g1
 have hv:=zEw g1
 have hml:(inM m).length=m.length:=zB7 m
 have nm:=zIm m kK (fun r h=>⟨by have:=hM.cols r h;omega,fun s hs=>⟨(hm.2 r h).2 s hs,hM.ok r h s hs⟩⟩)
 have hel: ∀i j,i<m.length→j<zS m→Sz 100000 (((inM m).getD i []).getD j 0):=fun i j hi hj=>by
  obtain ⟨v1,v2⟩:=hv _ (z6 [] (show i<(inM m).length by omega))
  exact zBj ((v2 _ (z8 0 kK)).mono kK)
 have hrow: ∀i,i<m.length→((inM m).getD i []).length=zS m:=fun i hi=>(hv _ (z6 [] (show i<(inM m).length by omega))).1
 clear hv hM
 generalize inM m=M at*
 generalize zS m=w at*
 generalize m.length=n at*
 refine rn1 ?_
 refine zA Z Z Z nm (rn8 ?_)
 refine zAg 6 ⟨3,.ints .i64 []⟩ Z Z ?_
 repeat (refine zAJ ?_)
 refine zb (ι:=Nat) (fun i=>[(5,.ro (zd M) 0 n),(6,.sl 0 0 (zJI M i).length),(21,.ro (zd M) 0 n),(22,iN n),(23,iN i)]) (fun i=>[some ⟨3,.ints .i64 (zJI M i)⟩])
  (fun i=>i≤n) (fun i=>n-i) 0 ⟨⟨rfl,rfl,rfl,rfl,rfl,trivial⟩,rfl,Nat.zero_le _⟩ ?_
 intro i hi
 refine rn4 ?_
 refine zB Z (fun h=> ?_) (fun h=> ?_)
 ·have hi':i<n:=kK
  have hiM:i<M.length:=kK
  have hsn:=zR4 M i
  have hdl:=domI_len M i
  have hrl:=hrow i hi'
  generalize hI2:zJI M (i+1)=I2 at*
  generalize zJI M i=I at*
  refine rn6 ?_
  refine zv 8 (.ro (qsC (M.getD i [])) 0 w) Z (AEq.of_eq (by show AV.ro (qsC (M.getD i [])) 0 (M.getD i []).length=_;rw [hrl])) ?_
  skip
  refine zb (ι:=Nat) (fun o=>[(5,.ro (zd M) 0 n),(6,.sl 0 0 I.length),(7,iN i),(8,.ro (qsC (M.getD i [])) 0 w),(21,.ro (zd M) 0 n),(22,iN n),(23,iN i),(28,.ro (zd M) 0 n),(29,iN n),(30,iN o)]) (fun o=>[some ⟨3,.ints .i64 I⟩])
   (fun o=>o≤n∧ ∀a,a<o→zI0 M i a=false) (fun o=>n-o) 0 ⟨⟨rfl,rfl,rfl,rfl,rfl,rfl,rfl,rfl,rfl,rfl,trivial⟩,rfl,Nat.zero_le _,fun a h=>absurd h (Nat.not_lt_zero _)⟩ ?_
  rintro o ⟨ho,hno⟩
  refine rn4 ?_
  refine zB Z (fun h=> ?_) (fun h=> ?_)
  ·have ho':o<n:=kK
   have hol:=hrow o ho'
   refine rn6 ?_
   refine zv 10 (.ro (qsC (M.getD o [])) 0 w) Z (AEq.of_eq (by show AV.ro (qsC (M.getD o [])) 0 (M.getD o []).length=_;rw [hol])) ?_
   skip
   refine zb (ι:=Nat) (fun k=>[(5,.ro (zd M) 0 n),(6,.sl 0 0 I.length),(7,iN i),(8,.ro (qsC (M.getD i [])) 0 w),(10,.ro (qsC (M.getD o [])) 0 w),(11,.bool (zI1 M i o k)),(21,.ro (zd M) 0 n),(22,iN n),(23,iN i),(28,.ro (zd M) 0 n),(29,iN n),(30,iN o),(34,.ro (qsC (M.getD i [])) 0 w),(35,iN w),(36,iN k)]) (fun k=>[some ⟨3,.ints .i64 I⟩])
    (fun k=>k≤w) (fun k=>w-k) 0 ⟨⟨rfl,rfl,rfl,rfl,rfl,rfl,rfl,rfl,rfl,rfl,rfl,rfl,rfl,rfl,rfl,trivial⟩,rfl,Nat.zero_le _⟩ ?_
   intro k hk
   refine rn4 ?_
   refine zB Z (fun h=> ?_) (fun h=> ?_)
   ·have hk':k<w:=kK
    have cq:=zEf ((M.getD o []).getD k 0) ((M.getD i []).getD k 0) (hel o k ho' hk') (hel i k hi' hk')
    have hsu:=zPO M i o k
    refine rn6 ?_
    refine zE 40 (.agg (zJ ((M.getD i []).getD k 0))) Z (AEq.of_eq Z) ?_
    skip
    refine sa1 (c':= .box (zJ ((M.getD i []).getD k 0))) Z Z Z Z Z Z Z ?_
    generalize hu2:zI1 M i o (k+1)=u2 at*
    generalize zI1 M i o k=u at*
    cases u
    ·rw [Bool.false_and] at hsu
     refine rn0 ?_
     refine zZ kQ ?_
     refine zR 0 Z kQ kQ kQ Z (zH Z) Z ?_
     refine zR 1 Z kQ kQ kQ Z (zH Z) Z ?_
     refine zj (fuel:=0) [2,3,4,5,6,7,8,9,10] [(5,.ro (zd M) 0 n),(6,.sl 0 0 I.length),(7,iN i),(8,.ro (qsC (M.getD i [])) 0 w),(10,.ro (qsC (M.getD o [])) 0 w),(42,.bool false),(12,iN k),(13,.ptr 1 0 0),(21,.ro (zd M) 0 n),(22,iN n),(23,iN i),(28,.ro (zd M) 0 n),(29,iN n),(30,iN o),(34,.ro (qsC (M.getD i [])) 0 w),(35,iN w),(36,iN k)] ⟨Z,Z,Z,Z,Z,Z,Z,Z,Z,Z,Z,Z,Z,Z,Z,Z,Z,trivial⟩ kQ kV Z Z ?_
     refine zAO Z Z Z Z Z ?_
     refine zAO Z Z Z Z Z ?_
     refine zAO Z Z Z Z Z ?_
     refine zAO Z Z Z Z Z ?_
     refine zAO Z Z Z Z Z ?_
     refine zAO Z Z Z Z Z ?_
     refine zAO Z Z Z Z Z ?_
     refine zK Z Z (zAj Z Z) ?_
     refine zK Z Z (zf Z) ?_
     refine zz ?_
     refine zT kQ ?_
     repeat (refine zAP ?_)
     refine zG ?_
     refine zBS [some ⟨3,.ints .i64 I⟩] [some ⟨118,.box (zJ ((M.getD i []).getD k 0))⟩] [(5,.ro (zd M) 0 n),(6,.sl 0 0 I.length),(7,iN i),(8,.ro (qsC (M.getD i [])) 0 w),(10,.ro (qsC (M.getD o [])) 0 w),(11,.bool false),(21,.ro (zd M) 0 n),(22,iN n),(23,iN i),(28,.ro (zd M) 0 n),(29,iN n),(30,iN o),(34,.ro (qsC (M.getD i [])) 0 w),(35,iN w),(36,iN k)] Z ⟨Z,Z,Z,Z,Z,Z,Z,Z,Z,Z,Z,Z,Z,Z,Z,trivial⟩ (fun h hh=>by rw [hfix] at hh;exact absurd hh id) (belowI (fun _ _ _ _=>rfl)) Z (rn3 ?_)
     exact zI ⟨k+1,kK,kK,⟨Z,Z,Z,Z,Z,by rw [hu2,hsu];rfl,Z,Z,Z,Z,Z,Z,Z,Z,Z,trivial⟩,Z⟩
    ·rw [Bool.true_and] at hsu
     refine rn0 ?_
     refine zZ kQ ?_
     refine zR 0 Z kQ kQ kQ Z (zH Z) Z ?_
     refine zR 1 Z kQ kQ kQ Z (zH Z) Z ?_
     refine zj (fuel:=0) [2,3,4,5,6,7,8,9,10] [(5,.ro (zd M) 0 n),(6,.sl 0 0 I.length),(7,iN i),(8,.ro (qsC (M.getD i [])) 0 w),(10,.ro (qsC (M.getD o [])) 0 w),(42,.bool true),(12,iN k),(13,.ptr 1 0 0),(21,.ro (zd M) 0 n),(22,iN n),(23,iN i),(28,.ro (zd M) 0 n),(29,iN n),(30,iN o),(34,.ro (qsC (M.getD i [])) 0 w),(35,iN w),(36,iN k)] ⟨Z,Z,Z,Z,Z,Z,Z,Z,Z,Z,Z,Z,Z,Z,Z,Z,Z,trivial⟩ kQ kV Z Z ?_
     refine zAH Z Z Z Z (zH Z) ?_
     refine zAH Z Z Z Z (zH Z) ?_
     refine zAH Z Z Z Z (zc Z Z Z Z (by first|(simp only [Nat.zero_add,Int.toNat_natCast,Int.toNat_zero];exact Z)|exact Z) kK) ?_
     refine zAH Z Z Z Z (zAc Z Z Z Z Z Z) ?_
     refine zAH Z Z Z Z (qpp Z Z Z Z Z Z Z) ?_
     refine zIY Z Z Z Z Z Z Z cq ?_
     refine zAH Z Z Z Z (zJW Z Z) ?_
     refine zK Z Z (zAj Z Z) ?_
     refine zK Z Z (zf Z) ?_
     refine zz ?_
     refine zT kQ ?_
     repeat (refine zAP ?_)
     refine zG ?_
     refine zBS [some ⟨3,.ints .i64 I⟩] [some ⟨118,.box (zJ ((M.getD i []).getD k 0))⟩] [(5,.ro (zd M) 0 n),(6,.sl 0 0 I.length),(7,iN i),(8,.ro (qsC (M.getD i [])) 0 w),(10,.ro (qsC (M.getD o [])) 0 w),(11,.bool (decide (0<zBl ((M.getD o []).getD k 0) ((M.getD i []).getD k 0)))),(21,.ro (zd M) 0 n),(22,iN n),(23,iN i),(28,.ro (zd M) 0 n),(29,iN n),(30,iN o),(34,.ro (qsC (M.getD i [])) 0 w),(35,iN w),(36,iN k)] Z ⟨Z,Z,Z,Z,Z,Z,Z,Z,Z,Z,Z,Z,Z,Z,Z,trivial⟩ (fun h hh=>by rw [hfix] at hh;exact absurd hh id) (belowI (fun _ _ _ _=>rfl)) Z (rn3 ?_)
     exact zI ⟨k+1,kK,kK,⟨Z,Z,Z,Z,Z,by rw [hu2,hsu];rfl,Z,Z,Z,Z,Z,Z,Z,Z,Z,trivial⟩,Z⟩
   ·have hke:k=w:=kK
    have hub:zI1 M i o k=zI0 M i o:=by rw [hke,←hrl];rfl
    rw [hub]
    cases hb:zI0 M i o
    ·refine rn5 ?_
     exact zI ⟨o+1,⟨kK,fun a ha=>by
      rcases Nat.lt_or_ge a o with q|q
      ·exact hno a q
      ·obtain rfl:a=o:=kK
       exact hb⟩,kK,⟨Z,Z,Z,Z,Z,Z,Z,Z,Z,Z,trivial⟩,Z⟩
    ·rw [if_pos (domB_yes M (show o<M.length by omega) hb)] at hsn
     refine rn5 ?_
     refine zq Z Z Z Z Z Z Z Z Z Z Z Z (by show 0+1≤1;omega) Z (by show (I.length+1)*8≤_∧_;omega) (fun i j _ _=>rfl) (by rw [hfix];exact fun h=>h) (rn14 ?_)
     exact zI ⟨i+1,kK,kK,⟨Z,by rw [hI2,hsn,List.length_append];rfl,Z,Z,Z,trivial⟩,by rw [hI2,hsn];rfl⟩
  ·have hoe:o=n:=kK
   rw [if_neg (by rw [domB_no M (fun a ha=>hno a kK)];exact fun z=>by cases z)] at hsn
   refine rn5 ?_
   exact zI ⟨i+1,kK,kK,⟨Z,by rw [hI2,hsn];rfl,Z,Z,Z,trivial⟩,by rw [hI2,hsn]⟩
 ·have hie:i=n:=kK
  subst hie
  refine zEW ?_
  refine zAC 0 6 (zJI M i).length [] Z (zAZ) Z (by show _≤(zJI M i).length;omega) trivial (rn0 ?_)
  exact zM hR Z Z
end Go.Proofs.YtmpnheilfejcpaaGreatDoor
namespace Go.Proofs.YtmpnheilfejcpaaGreatDoor
open Go.Ax Go.Ax.Bg Go.Ax.Rt Go.RowKit Go.Ax.Dt
attribute [local irreducible] Ax zB2 QOp zU zBV
theorem zFy {n m k:Nat}(h:n≤10^k)(hk:k+1≤9*m):(zW n).length≤m:=by
 refine zAh (Nat.lt_of_lt_of_le (m:=10^(9*m)) ?_ ?_)
 ·have h1:10^(k+1)≤10^(9*m):=Nat.pow_le_pow_right kV hk
  have h2:0<10^k:=Nat.pow_pos kV
  rw [Nat.pow_succ] at h1
  omega
 ·rw [Nat.pow_mul]
  exact Nat.pow_le_pow_left kV m
theorem zSL (x d:Int)(hd:d≠0)(hx:(zW x.natAbs).length≤1000000)(hdl:(zW d.natAbs).length≤1000000):zX Tryz.prog 237 [zBF x,zBF d] (zBF (zEA x d)):=by
 have c1:=zJu x.natAbs d.natAbs kK hx hdl
 have c2:=zFz (!(decide (x<0)==decide (d<0))) (x.natAbs/d.natAbs)
 have e:zFN (!(decide (x<0)==decide (d<0))) (x.natAbs/d.natAbs)=zEA x d:=rfl
 rw [e] at c2
 refine zU.value0 (zF (P:=Tryz.prog) (fn:=Tryz.f237) Z Z kQ Z (fun c hR hfix=> ?_)) (fix:=fun _=>False) (fun _ h=>h) Z Z
 unfold zBF at*
 generalize zEA x d=q at*
 refine rn6 ?_
 refine zA Z Z Z c1 ?_
 repeat (first|refine zL (zH rfl) ?_|refine zL (zf rfl) ?_|refine zV ?_|refine zG ?_|refine zAL ?_|refine zl rfl ?_|refine zL (zY rfl rfl rfl rfl rfl) ?_|refine zL (zCB rfl rfl) ?_|refine zL (zN rfl rfl rfl rfl rfl rfl) ?_|refine zL (zJ6 rfl rfl rfl) ?_)
 refine zA Z Z Z c2 ?_
 skip
 refine sa1 (c':= .box [.bool (decide (q<0)),zm q.natAbs]) Z Z Z Z Z Z Z (rn0 ?_)
 exact zM hR Z Z
def zo (x:Int):List AV:=[.bool (decide (x<0)),zm x.natAbs]
abbrev zC (l:List Int):Cells:=zC9 0 2 zo l
theorem zJB (x:Int)(j h:Nat)(hj:j<2):((zo x).getD j .any).forget h=(zo x).getD j .any:=by
 match j,hj with
 |0,_=>rfl
 |1,_=>rfl
theorem rowI1 (x:Int)(j:Nat)(hj:j<2):(zCE 1 2 [.bool (decide (x<0)),zm x.natAbs]).at 0 j=(zo x).getD j .any:=by
 match j,hj with
 |0,_=>rfl
 |1,_=>rfl
theorem zMV (q:Rat): ∀(l:List Rat) (f:Nat),zDD f (l++[q])=zDD f l*(q.den/Nat.gcd (zDD f l) q.den)
 |[],f=>rfl
 |a::r,f=>by rw [List.cons_append,zDD,zDD,zMV q r]
theorem zMW {l:List Rat}{K k:Nat}(h: ∀q∈l,D K q):zDD 1 (l.take k)≤10^(K*l.length):=by
 refine Nat.le_trans (zJL (k:=K) (l.take k) 1 (fun q hq=>(h q (List.mem_of_mem_take hq)).2)) ?_
 rw [Nat.one_mul]
 refine Nat.pow_le_pow_right kV (Nat.mul_le_mul_left _ ?_)
 rw [List.length_take];exact Nat.min_le_right _ _
theorem zTB (l:List Rat)(K:Nat)(hD: ∀q∈l,D K q)(hlen:l.length≤1000)(hK:K*l.length+K≤900000):
 zNx Tryz.prog 209 [.ro (qsC l) 0 l.length] (.tup [.sl 0 0 l.length,zm (zDD 1 l)]) [some ⟨116,zC (zAt l)⟩]:=by
 have hsz: ∀n k:Nat,n≤10^k→k≤900000→(zW n).length≤100001:=fun n k h hk=>zFy h kK
 have c0:=zHu 1 kV
 refine zU.many (zF (P:=Tryz.prog) (fn:=Tryz.f209) Z Z kQ Z (fun c hR hfix=> ?_)) (fix:=fun _=>False) (fun _ h=>h) Z
 refine rn0 ?_
 refine zA Z Z Z c0 (rn3 ?_)
 refine zb (ι:=Nat) (fun k=>[(0,.ro (qsC l) 0 l.length),(4,zm (zDD 1 (l.take k))),(16,.ro (qsC l) 0 l.length),(17,iN l.length),(18,iN k)]) (fun _=>[])
  (fun k=>k≤l.length) (fun k=>l.length-k) 0 ⟨⟨rfl,rfl,rfl,rfl,rfl,trivial⟩,rfl,Nat.zero_le _⟩ ?_
 intro k hk
 refine rn4 ?_
 refine zB Z (fun h=> ?_) (fun h=> ?_)
 ·have hk':k<l.length:=kK
  have hq:=hD _ (z8 0 hk')
  have hsn:zDD 1 (l.take (k+1))=zDD 1 (l.take k)*((l.getD k 0).den/Nat.gcd (zDD 1 (l.take k)) (l.getD k 0).den):=by
   rw [List.take_succ_eq_append_getElem hk',zMV,zCC 0 hk']
  have hF:=hsz _ _ (zMW (k:=k) hD) kK
  have hp:=zJM (l.take k) 1 kV
  generalize zDD 1 (l.take k)=F at*
  generalize hqe:l.getD k 0=q at*
  have hden:=hsz q.den K (Nat.le_of_lt hq.2) kK
  have hg:0<Nat.gcd F q.den:=Nat.gcd_pos_of_pos_left _ hp
  have hgl:Nat.gcd F q.den≤10^K:=Nat.le_trans (Nat.le_of_dvd q.den_pos (Nat.gcd_dvd_right F q.den)) (Nat.le_of_lt hq.2)
  have c1:=zP0 F q.den kK kK
  have c2:=zJu q.den (Nat.gcd F q.den) hg kK (Nat.le_trans (hsz (Nat.gcd F q.den) K hgl kK) kV)
  have c3:=zNe F (q.den/Nat.gcd F q.den) kK (Nat.le_trans (hsz (q.den/Nat.gcd F q.den) K (Nat.le_trans (Nat.div_le_self _ _) (Nat.le_of_lt hq.2)) kK) kV)
  refine rn6 ?_
  refine zE 21 (.agg (zJ q)) Z (AEq.of_eq (by rw [←hqe];rfl)) ?_
  refine sa1 (c':= .box (zJ q)) Z Z Z Z Z Z Z (rn5 ?_)
  refine zA Z Z Z c1 (rn5 ?_)
  refine zA Z Z Z c2 (rn2 ?_)
  refine zA Z Z Z c3 ?_
  refine zCS ?_
  refine zG ?_
  refine zAI [none] (zP.drop zP.nil) ?_
  refine zA2 (H1:=[]) Z (by rw [hfix];exact fun h=>h) (rn3 ?_)
  exact zI ⟨k+1,kK,kK,⟨Z,by rw [hsn];rfl,Z,Z,Z,trivial⟩,Z⟩
 have hke:k=l.length:=kK
 subst hke
 rw [List.take_length]
 have hFb:=zMW (k:=l.length) hD
 rw [List.take_length] at hFb
 have hF:=hsz _ _ hFb kK
 unfold zAt at hR
 generalize zDD 1 l=F at*
 have eg: ∃g:Rat→Int,g=(fun q=>q.num*((F/q.den:Nat):Int)):=⟨_,rfl⟩
 obtain ⟨g,eg⟩:=eg
 rw [←eg] at hR
 refine rn14 ?_
 refine zAg 10 ⟨116,zC []⟩ Z Z ?_
 repeat (refine zAJ ?_)
 refine zb (ι:=Nat) (fun k=>[(4,zm F),(10,.sl 0 0 k),(37,.ro (qsC l) 0 l.length),(38,iN l.length),(39,iN k)]) (fun k=>[some ⟨116,zC ((l.take k).map g)⟩])
  (fun k=>k≤l.length) (fun k=>l.length-k) 0 ⟨⟨rfl,rfl,rfl,rfl,rfl,trivial⟩,rfl,Nat.zero_le _⟩ ?_
 intro k hk
 refine rn4 ?_
 refine zB Z (fun h=> ?_) (fun h=> ?_)
 ·have hk':k<l.length:=kK
  have hq:=hD _ (z8 0 hk')
  have htk:=zBG g l 0 k hk'
  have hml:((l.take k).map g).length=k:=by rw [List.length_map,List.length_take];omega
  generalize (l.take k).map g=zs at*
  generalize hqe:l.getD k 0=q at*
  have hden:=hsz q.den K (Nat.le_of_lt hq.2) kK
  have hnum:=hsz q.num.natAbs K (Nat.le_of_lt hq.1) kK
  have hquo:=hsz _ _ (Nat.le_trans (Nat.div_le_self F q.den) hFb) kK
  have hgq:g q=q.num*((F/q.den:Nat):Int):=by rw [eg]
  have c1:=zJu F q.den q.den_pos kK kK
  have c2:=zCn q.num ((F/q.den:Nat):Int) kK (by rw [Int.natAbs_natCast];omega)
  rw [←hgq] at c2
  refine rn6 ?_
  refine zE 42 (.agg (zJ q)) Z (AEq.of_eq (by rw [←hqe];rfl)) ?_
  refine sa1 (c':= .box (zJ q)) Z Z Z Z Z Z Z (rn5 ?_)
  refine zA Z Z Z c1 (rn9 ?_)
  refine zE 54 (zBF ((F/q.den:Nat):Int)) Z (AEq.of_eq (by
   unfold zBF
   rw [decide_eq_false (Int.not_lt.2 (Int.natCast_nonneg (F/q.den))),Int.natAbs_natCast];rfl)) ?_
  refine zA Z Z Z c2 ?_
  unfold zBF
  repeat (refine ze rfl rfl rfl rfl rfl rfl rfl rfl rfl rfl rfl ?_)
  refine zq Z Z Z Z Z Z Z Z Z hml Z Z (by show 0+1≤1;omega) Z (by show (k+1)*32≤_∧_;omega) ?_ (by rw [hfix];exact fun h=>h) ?_
  ·intro i' j hi hj
   exact zAM 0 2 zo zJB zs (g q) _ (rowI1 _) 0 i' j hi hj
  refine zCS ?_
  refine zG ?_
  refine zAI ([some ⟨116,zC ((l.take (k+1)).map g)⟩]++[none]) ?_ ?_
  ·rw [htk]
   exact zP.eqv (zAV 0 2 zo zs (g q) _ (rowI1 _)) (zP.drop zP.nil)
  refine zA2 (H1:=[some ⟨116,zC ((l.take (k+1)).map g)⟩]) Z (by rw [hfix];exact fun h=>h) ?_
  refine zAI [some ⟨116,zC ((l.take (k+1)).map g)⟩] ?_ ?_
  ·exact zP.eqv ⟨Z,Z,fun i j _ hj=>(zJB _ j _ hj).symm⟩ zP.nil
  refine rn3 ?_
  exact zI ⟨k+1,kK,kK,⟨Z,Z,Z,Z,Z,trivial⟩,Z⟩
 ·have hke:k=l.length:=kK
  subst hke
  rw [List.take_length]
  refine rn5 ?_
  exact zM hR Z ⟨Z,Z⟩
end Go.Proofs.YtmpnheilfejcpaaGreatDoor
namespace Go.Proofs.YtmpnheilfejcpaaGreatDoor
open Go.Ax Go.Ax.Bg Go.Ax.Rt Go.RowKit Go.Ax.Idx Go.Ax.Cd Go.Ax.Sx
attribute [local irreducible] Ax zB2 QOp zU zBV
theorem refl3 {o1 o2 o3:AObj}(h1:zAY o1.c)(h2:zAY o2.c)(h3:zAY o3.c): ∀(h:Nat) (o:AObj),([some o1,some o2,some o3]:zO)[h]? =some (some o)→zAY o.c:=by
 intro h o ho
 match h,ho with
 |0,ho=>cases ho;exact h1
 |1,ho=>cases ho;exact h2
 |2,ho=>cases ho;exact h3
 |_+3,ho=>simp at ho
end Go.Proofs.YtmpnheilfejcpaaGreatDoor
namespace Go.Proofs.YtmpnheilfejcpaaGreatDoor
open Go.Ax Go.Ax.Bg Go.Ax.Rt Go.RowKit Go.Ax.Dt Go.Ax.Sx
theorem z7 {a b:Nat}(h:a≠b):Nat.beq a b=false:=by
 cases h':Nat.beq a b
 ·rfl
 ·exact absurd (Nat.eq_of_beq_eq_true h') h
theorem zA4 {h:Nat}{fr:Fr}: ∀{L:Fr},zCY fr L→(∀p∈L,p.2.forget h=p.2)→zCY (zCQ h fr) L
 |[],_,_=>trivial
 |(t,v)::r,hk,hp=>by
  refine ⟨?_,zA4 hk.2 (fun p hp'=>hp p (List.mem_cons_of_mem _ hp'))⟩
  have h1:=hk.1
  have hv:v.forget h=v:=hp (t,v) (List.mem_cons_self ..)
  clear hk hp
  induction fr with
  |nil=>cases h1
  |cons q s ih=>
   obtain ⟨u,x⟩:=q
   show Go.Ax.look t ((u,x.forget h)::zCQ h s)=some v
   simp only [Go.Ax.look] at h1⊢
   cases hq:Nat.beq t u with
   |true=>rw [hq] at h1;simp at h1;subst h1;rw [hv];rfl
   |false=>rw [hq] at h1;exact ih (by simpa using h1)
section
variable {P:Program}{fn:Func}{c:Ctx}{fr:Fr}{H:zO}{k:List It}
theorem zQg {x:Code}(L:Fr)(hL:zCY fr L)(hk:Ax P fn c (.code x k) L H):Ax P fn c (.code x k) fr H:=fun w a σ S hr=>hk w a σ S (hr.weaken hL)
theorem zB8 {q:Bool}{all:Array Oper}{rest:List Oper}(L:Fr)(hL:zCY fr L)(hk:Ax P fn c (.ops q all rest k) L H):Ax P fn c (.ops q all rest k) fr H:=by
 cases q with
 |true=>exact fun hd w a σ S hr=>hk hd w a σ S (hr.weaken hL)
 |false=>exact fun hd w a σ S hr=>hk hd w a σ S (hr.weaken hL)
end
abbrev zCJ (l:List Nat):Cells:= .ints .i64 (l.map (fun a:Nat=>(a:Int)))
theorem zJ8 (x:Int):(sgn x=0)=(x=0):=by
 apply propext
 unfold sgn
 constructor
 ·intro h;split at h
  ·exact absurd h kV
  ·split at h
   ·assumption
   ·exact absurd h kV
 ·intro h;subst h;rfl
theorem zBZ (h:Nat)(a:List Int):(zC a).forget h=zC a:=by
 show Cells.fn _ _ _=Cells.fn _ _ _
 congr 1
 funext i j
 match j with
 |0=>rfl
 |1=>rfl
 |_+2=>rfl
theorem zNJ (m:Nat)(x:Int):zBM m (.box (zo x)):=by
 intro i j hi hj
 have hj':j<2:=hj
 match j,hj' with
 |0,_=>rfl
 |1,_=>rfl
theorem zMm (l:List Nat)(a:Nat):CEq (.ints .i64 (l.map (fun a:Nat=>(a:Int))++[(a:Int)])) (zCJ (l++[a])):=by
 show CEq _ (.ints .i64 ((l++[a]).map (fun a:Nat=>(a:Int))))
 rw [List.map_append]
 exact CEq.refl _
theorem zDe (l:List Int)(j:Nat)(v:Int): ∀i' j',i'<(zC l).len→j'<2→(zC (l.set j v)).at i' j'=if i'=j then (zo v).getD j' .any else (zC l).at i' j':=by
 intro i' j' hi' hj'
 show (zo ((l.set j v).getD i' 0)).getD j' .any=if i'=j then _ else (zo (l.getD i' 0)).getD j' .any
 rw [getD_set]
 have hl:i'<l.length:=hi'
 by_cases h:i'=j
 ·rw [if_pos ⟨h,kK⟩,if_pos h]
 ·rw [if_neg (fun q=>h q.1),if_neg h]
theorem zPC {α:Type}(l:List α)(d:α)(i:Nat)(hi:i<l.length):l.set i (l.getD i d)=l:=by
 apply List.ext_getElem kJ
 intro a h1 h2
 rw [List.getElem_set]
 split
 ·rename_i e;subst e;rw [zCC d hi]
 ·rfl
theorem zLD {x p f y:Int}{E:Nat}(hx:x.natAbs≤10^E)(hp:p.natAbs≤10^E)(hf:f.natAbs≤10^E)(hy:y.natAbs≤10^E)(hE:E≤3600000):
 (zW (x*p).natAbs).length≤1000000∧(zW (f*y).natAbs).length≤1000000∧(zW (x*p-f*y).natAbs).length≤1000000:=by
 have e1:(x*p).natAbs≤10^(E+E):=by rw [Int.natAbs_mul,Nat.pow_add];exact Nat.mul_le_mul hx hp
 have e2:(f*y).natAbs≤10^(E+E):=by rw [Int.natAbs_mul,Nat.pow_add];exact Nat.mul_le_mul hf hy
 have e3:(x*p-f*y).natAbs≤10^(E+E+1):=by
  refine Nat.le_trans (Int.natAbs_sub_le _ _) ?_
  rw [Nat.pow_succ];omega
 exact ⟨zFy e1 kK,zFy e2 kK,zFy e3 kK⟩
abbrev zBz (b n L:Nat):Cells:= .fn n 1 (fun i _=> .sl (b+4+i) 0 L)
abbrev zEN (b k m w:Nat)(d:Int):Cells:= .box [.sl (b+3) 0 k,.bool (decide (d<0)),zm d.natAbs,.sl (b+2) 0 m,iN w]
abbrev zg (G:zO)(F:Option AObj)(L w k:Nat)(X:Tab)(d:Int)(β:List Nat)(T:zO):zO:=
 G++(some ⟨249,zEN G.length k β.length w d⟩::F::some ⟨3,zCJ β⟩::zAx ⟨243,zBz G.length X.length L⟩ 116 zC X T)
def OkG (G:zO):Prop:= ∀m,G.length≤m→ ∀o:AObj,some o∈G→zBM m o.c
section
variable {G:zO}{F:Option AObj}{L w k:Nat}{X:Tab}{d:Int}{β:List Nat}{T:zO}
theorem zBH:(zg G F L w k X d β T)[G.length]? =some (some ⟨249,zEN G.length k β.length w d⟩):=zEc (i:=0) rfl
theorem tb_fac:(zg G F L w k X d β T)[G.length+1]? =some F:=zEc (i:=1) rfl
theorem zGN:(zg G F L w k X d β T)[G.length+2]? =some (some ⟨3,zCJ β⟩):=zEc (i:=2) rfl
theorem zC6:(zg G F L w k X d β T)[G.length+3]? =some (some ⟨243,zBz G.length X.length L⟩):=zEc (i:=3) rfl
theorem zCu {a:Nat}(ha:a<X.length):(zg G F L w k X d β T)[G.length+4+a]? =some (some ⟨116,zC (X.getD a [])⟩):=by
 rw [show G.length+4+a=G.length+(3+(a+1)) by omega]
 refine (zEc (i:=3+(a+1)) Z).trans ?_
 rw [show 3+(a+1)=(a+1)+3 by omega]
 exact nest_row (O:=⟨243,zBz G.length X.length L⟩) (t:=116) (f:=zC) (X:=X) (L:=T) [] ha
theorem zAl (j:Nat):(zg G F L w k X d β T)[G.length+4+X.length+j]? =T[j]? :=by
 rw [show G.length+4+X.length+j=G.length+((X.length+1+j)+3) by omega]
 refine (zEc (i:=(X.length+1+j)+3) Z).trans ?_
 exact nest_loc (O:=⟨243,zBz G.length X.length L⟩) (t:=116) (f:=zC) (X:=X) (L:=T)
theorem zBP:(zg G F L w k X d β T).length=G.length+4+X.length+T.length:=by
 unfold zg
 rw [List.length_append,List.length_cons,List.length_cons,List.length_cons,nest_len];omega
theorem zAk (T':zO):zg G F L w k X d β T++T'=zg G F L w k X d β (T++T'):=by
 unfold zg
 rw [List.append_assoc,List.cons_append,List.cons_append,List.cons_append,nest_app]
theorem zIz (k' w':Nat)(d':Int):(zg G F L w k X d β T).set G.length (some ⟨249,zEN G.length k' β.length w' d'⟩)=zg G F L w' k' X d' β T:=zCU (i:=0) _ rfl
theorem zLu {β':List Nat}(hb:β'.length=β.length):(zg G F L w k X d β T).set (G.length+2) (some ⟨3,zCJ β'⟩)=zg G F L w k X d β' T:=by
 refine (zCU (i:=2) _ Z).trans ?_
 show G++(some ⟨_,zEN G.length k β.length w d⟩::F::some ⟨_,zCJ β'⟩::_)=_
 rw [←hb]
theorem zLv {a:Nat}(ha:a<X.length)(x:List Int):(zg G F L w k X d β T).set (G.length+4+a) (some ⟨116,zC x⟩)=zg G F L w k (X.set a x) d β T:=by
 rw [show G.length+4+a=G.length+((a+1)+3) by omega]
 refine (zCU (i:=(a+1)+3) _ Z).trans ?_
 have h:=zNg (O:=⟨243,zBz G.length X.length L⟩) (t:=116) (f:=zC) (X:=X) (L:=T) x ha
 show G++(_::F::_::(zAx _ _ _ X T).set (a+1) _)=_
 rw [h]
 unfold zg
 rw [List.length_set]
theorem zAW (j:Nat)(x:Option AObj):(zg G F L w k X d β T).set (G.length+4+X.length+j) x=zg G F L w k X d β (T.set j x):=by
 rw [show G.length+4+X.length+j=G.length+((X.length+1+j)+3) by omega]
 refine (zCU (i:=(X.length+1+j)+3) _ Z).trans ?_
 show G++(_::F::_::(zAx _ _ _ X T).set (X.length+1+j) _)=_
 rw [zNf]
theorem zCi (hG:OkG G)(m:Nat)(hm:G.length+4+X.length≤m)(hF: ∀o:AObj,F=some o→zBM m o.c)(hT: ∀o:AObj,some o∈T→zBM m o.c): ∀(h:Nat) (o:AObj),(zg G F L w k X d β T)[h]? =some (some o)→zBM m o.c:=by
 intro h o ho
 have hmem:=List.mem_of_getElem? ho
 unfold zg zAx at hmem
 rw [List.mem_append] at hmem
 rcases hmem with hmem|hmem
 ·exact hG m kK o hmem
 rw [List.mem_cons,List.mem_cons,List.mem_cons,List.mem_cons,List.mem_append] at hmem
 rcases hmem with e|e|e|e|hmem|hmem
 ·cases e
  intro i j hi hj
  have hj':j<5:=hj
  match j,hj' with
  |0,_=>exact Nat.ble_eq_true_of_le (show G.length+3+1≤m by omega)
  |1,_=>rfl
  |2,_=>rfl
  |3,_=>exact Nat.ble_eq_true_of_le (show G.length+2+1≤m by omega)
  |4,_=>rfl
 ·exact hF o e.symm
 ·cases e
  exact fun i j _ _=>rfl
 ·cases e
  intro i j hi hj
  have hi':i<X.length:=hi
  exact Nat.ble_eq_true_of_le (show G.length+4+i+1≤m by omega)
 ·obtain ⟨a,_,e⟩:=List.mem_map.1 hmem
  cases e
  intro i j hi hj
  have hj':j<2:=hj
  match j,hj' with
  |0,_=>rfl
  |1,_=>rfl
 ·exact hT o hmem
theorem tabB_den (b k m w:Nat)(d v:Int): ∀i' j',i'<(zEN b k m w d).len→j'<(zEN b k m w d).sz→(zEN b k m w v).at i' j'=if i'=0∧1≤j'∧j'<1+2 then (zo v).getD (j'-1) .any else (zEN b k m w d).at i' j':=by
 intro i' j' hi' hj'
 obtain rfl:=Nat.lt_one_iff.1 (show i'<1 from hi')
 have hj2:j'<5:=hj'
 match j',hj2 with
 |0,_=>rfl
 |1,_=>rfl
 |2,_=>rfl
 |3,_=>rfl
 |4,_=>rfl
end
end Go.Proofs.YtmpnheilfejcpaaGreatDoor
namespace Go.Proofs.YtmpnheilfejcpaaGreatDoor
open Go.Ax Go.Ax.Bg Go.Ax.Rt Go.RowKit Go.Ax.Dt Go.Ax.Sx
attribute [local irreducible] Ax zB2 QOp zU zBV
theorem zGq (x:Int):(sgn x<0)=(x<0):=by
 apply propext
 unfold sgn
 constructor
 ·intro h
  split at h
  ·assumption
  ·split at h<;>omega
 ·intro h
  rw [if_pos h];decide
theorem zMt {α β:Type}(f:α→β)(l:List α)(d:α):(List.range l.length).map (fun i=>f (l.getD i d))=l.map f:=by
 apply List.ext_getElem kJ
 intro i h1 h2
 simp [List.getD,List.getElem?_eq_getElem (by simpa using h2:i<l.length)]
theorem zOs (G:zO)(hG:OkG G)(L w n:Nat)(X:Tab)(d:Int)(β:List Nat)(r cc:Nat)(E:Nat)(hn:X.length=n)(hn40:n≤1000000)(hL: ∀x∈X,x.length=L)(hL40:L≤1000000)(hr:r<β.length)(hβ:β.length≤n)(hc:cc<L)(hd:d≠0)(hX: ∀i j,i<n→j<L→(at2 X i j).natAbs≤10^E)(hdE:d.natAbs≤10^E)(hE:E≤3600000):
 zU Tryz.prog 208 [.ptr G.length 0 0,iN r,iN cc] (zg G none L w n X d β []) (fun h=>h<(zg G none L w n X d β []).length)
  (fun r' H'=>r'= .tup []∧H'=zg G none L w n (zFL X r cc d) (if at2 X r cc<0 then-(at2 X r cc) else at2 X r cc) (β.set r cc) []):=by
 refine zF (P:=Tryz.prog) (fn:=Tryz.f208) Z Z kQ Z (fun c hR hfix=> ?_)
 have hrn:r<n:=Nat.lt_of_lt_of_le hr hβ
 have hlen:(zg G none L w n X d β []).length=G.length+4+n:=by rw [zBP,hn];rfl
 rw [hlen] at hfix
 have f1:=zBH (G:=G) (F:=none) (L:=L) (w:=w) (k:=n) (X:=X) (d:=d) (β:=β) (T:=[])
 have f2:=zC6 (G:=G) (F:=none) (L:=L) (w:=w) (k:=n) (X:=X) (d:=d) (β:=β) (T:=[])
 have f3:=zCu (G:=G) (F:=none) (L:=L) (w:=w) (k:=n) (X:=X) (d:=d) (β:=β) (T:=[]) (a:=r) (by rw [hn];exact hrn)
 have lr:(X.getD r []).length=L:=hL _ (z8 [] (by rw [hn];exact hrn))
 have g1:r<(zBz G.length X.length L).len:=by show r<X.length;rw [hn];exact hrn
 have g2:cc<(zC (X.getD r [])).len:=by show cc<(X.getD r []).length;rw [lr];exact hc
 refine rn7 ?_
 refine zQ (zg G none L w n X d β [some ⟨116,.box [.bool false,.nil]⟩]) (by rw [zAk];rfl) ?_
 refine zE 6 (.ptr (G.length+4+n) 0 0) Z (AEq.of_eq (by rw [hlen])) ?_
 refine zE 23 (zBF (at2 X r cc)) Z (AEq.of_eq Z) ?_
 have q0:=zAl (G:=G) (F:=none) (L:=L) (w:=w) (k:=n) (X:=X) (d:=d) (β:=β) (T:=[some ⟨116,.box [.bool false,.nil]⟩]) 0
 rw [hn] at q0
 refine zt (c':= .box (zo (at2 X r cc))) Z Z Z q0 Z Nat.zero_lt_one Z Z (fun i' j' hi' hj'=> ?_) ?_
 ·rw [if_pos (Nat.lt_one_iff.1 hi')];rfl
 refine zQ (zg G none L w n X d β [some ⟨116,.box (zo (at2 X r cc))⟩]) (by have q:=zAW (G:=G) (F:=none) (L:=L) (w:=w) (k:=n) (X:=X) (d:=d) (β:=β) (T:=[some ⟨116,.box [.bool false,.nil]⟩]) 0 (some ⟨116,.box (zo (at2 X r cc))⟩);rw [hn] at q;exact q) ?_
 clear f1 f2 f3 q0
 have f1:=zBH (G:=G) (F:=none) (L:=L) (w:=w) (k:=n) (X:=X) (d:=d) (β:=β) (T:=[some ⟨116,.box (zo (at2 X r cc))⟩])
 have hsz: ∀x:Int,x.natAbs≤10^E→(zW x.natAbs).length≤400001:=fun x hx=>zFy hx kK
 have bp:=hX r cc hrn hc
 refine rn7 ?_
 refine zb (ι:=Nat) (fun a=>[(0,.ptr G.length 0 0),(1,iN r),(2,iN cc),(6,.ptr (G.length+4+n) 0 0),(27,.sl (G.length+3) 0 n),(28,iN n),(29,iN a)]) (fun a=>zg G none L w n (chg (zCl X r cc d) [] X a) d β [some ⟨116,.box (zo (at2 X r cc))⟩]) (fun a=>a≤n) (fun a=>n-a) 0 ⟨⟨Z,Z,Z,Z,Z,Z,Z,trivial⟩,by rw [zDU],Nat.zero_le _⟩ ?_
 clear f1
 intro a ha
 have hXl:(chg (zCl X r cc d) [] X a).length=n:=by rw [zC7,hn]
 refine rn4 ?_
 refine zB Z (fun h7=> ?_) (fun h7=> ?_)
 ·have ha':a<n:=kK
  have eA:(chg (zCl X r cc d) [] X a).getD a []=X.getD a []:=by rw [zDN _ _ _ kK,if_neg (Nat.lt_irrefl a)]
  have eK:(chg (zCl X r cc d) [] X a).getD r []=X.getD r []:=by
   rw [zDN _ _ _ kK]
   split
   ·unfold zCl;rw [if_pos rfl]
   ·rfl
  have lA:(X.getD a []).length=L:=hL _ (z8 [] kK)
  have f2:=zC6 (G:=G) (F:=none) (L:=L) (w:=w) (k:=n) (X:=(chg (zCl X r cc d) [] X a)) (d:=d) (β:=β) (T:=[some ⟨116,.box (zo (at2 X r cc))⟩])
  have f3:=zCu (G:=G) (F:=none) (L:=L) (w:=w) (k:=n) (X:=(chg (zCl X r cc d) [] X a)) (d:=d) (β:=β) (T:=[some ⟨116,.box (zo (at2 X r cc))⟩]) (a:=a) kK
  rw [eA] at f3
  have g3:a<(zBz G.length (chg (zCl X r cc d) [] X a).length L).len:=by show a<(chg (zCl X r cc d) [] X a).length;omega
  have g4:cc<(zC (X.getD a [])).len:=by show cc<(X.getD a []).length;omega
  refine rn18 ?_
  refine zB Z (fun h8=> ?_) (fun h8=> ?_)
  ·have h8':a=r:=kK
   refine rn5 ?_
   exact zI ⟨a+1,kK,kK,⟨Z,Z,Z,Z,Z,Z,Z,trivial⟩,by rw [chg_same _ _ _ kK (by rw [h8'];unfold zCl;rw [if_pos rfl])]⟩
  ·have hne: ¬a=r:=kK
   refine rn7 ?_
   have hl2:(zg G none L w n (chg (zCl X r cc d) [] X a) d β [some ⟨116,.box (zo (at2 X r cc))⟩]).length=G.length+5+n:=by rw [zBP,hXl];show _+1=_;omega
   refine zQ (zg G none L w n (chg (zCl X r cc d) [] X a) d β [some ⟨116,.box (zo (at2 X r cc))⟩,some ⟨116,.box [.bool false,.nil]⟩]) (by rw [zAk];rfl) ?_
   refine zE 9 (.ptr (G.length+5+n) 0 0) Z (AEq.of_eq (by rw [hl2])) ?_
   refine zE 40 (zBF (at2 X a cc)) Z (AEq.of_eq Z) ?_
   have q1:=zAl (G:=G) (F:=none) (L:=L) (w:=w) (k:=n) (X:=(chg (zCl X r cc d) [] X a)) (d:=d) (β:=β) (T:=[some ⟨116,.box (zo (at2 X r cc))⟩,some ⟨116,.box [.bool false,.nil]⟩]) 1
   rw [hXl,show G.length+4+n+1=G.length+5+n by omega] at q1
   refine zt (c':= .box (zo (at2 X a cc))) Z Z Z q1 Z Nat.zero_lt_one Z Z (fun i' j' hi' hj'=> ?_) ?_
   ·rw [if_pos (Nat.lt_one_iff.1 hi')];rfl
   refine zQ (zg G none L w n (chg (zCl X r cc d) [] X a) d β [some ⟨116,.box (zo (at2 X r cc))⟩,some ⟨116,.box (zo (at2 X a cc))⟩]) (by have q:=zAW (G:=G) (F:=none) (L:=L) (w:=w) (k:=n) (X:=(chg (zCl X r cc d) [] X a)) (d:=d) (β:=β) (T:=[some ⟨116,.box (zo (at2 X r cc))⟩,some ⟨116,.box [.bool false,.nil]⟩]) 1 (some ⟨116,.box (zo (at2 X a cc))⟩);rw [hXl,show G.length+4+n+1=G.length+5+n by omega] at q;exact q) ?_
   clear f2 f3 q1
   refine rn3 ?_
   refine zb (ι:=Nat) (fun j=>[(0,.ptr G.length 0 0),(1,iN r),(2,iN cc),(6,.ptr (G.length+4+n) 0 0),(7,iN a),(8,.sl (G.length+4+a) 0 L),(9,.ptr (G.length+5+n) 0 0),(27,.sl (G.length+3) 0 n),(28,iN n),(29,iN a),(42,iN L),(43,iN j)]) (fun j=>zg G none L w n ((chg (zCl X r cc d) [] X a).set a (chg (rowG (X.getD a []) (X.getD r []) (at2 X r cc) (at2 X a cc) d) 0 (X.getD a []) j)) d β [some ⟨116,.box (zo (at2 X r cc))⟩,some ⟨116,.box (zo (at2 X a cc))⟩]) (fun j=>j≤L) (fun j=>L-j) 0 ⟨⟨Z,Z,Z,Z,Z,Z,Z,Z,Z,Z,Z,Z,trivial⟩,by rw [zDU,←eA,zPC (chg (zCl X r cc d) [] X a) [] _ kK],Nat.zero_le _⟩ ?_
   intro j hj
   refine rn4 ?_
   refine zB Z (fun h9=> ?_) (fun h9=> ?_)
   ·have hj':j<L:=kK
    have hgj:=zDN (rowG (X.getD a []) (X.getD r []) (at2 X r cc) (at2 X a cc) d) 0 (X.getD a []) (k:=j) (i:=j) kK
    rw [if_neg (Nat.lt_irrefl j)] at hgj
    have hsj:=zD8 (rowG (X.getD a []) (X.getD r []) (at2 X r cc) (at2 X a cc) d) 0 (X.getD a []) (k:=j) kK
    have hlj:=zC7 (rowG (X.getD a []) (X.getD r []) (at2 X r cc) (at2 X a cc) d) 0 (X.getD a []) j
    have hgx:(rowG (X.getD a []) (X.getD r []) (at2 X r cc) (at2 X a cc) d) j=zEA ((X.getD a []).getD j 0*at2 X r cc-at2 X a cc*(X.getD r []).getD j 0) d:=rfl
    rw [←hgj] at hgx
    rw [hgx] at hsj
    have ex:((chg (rowG (X.getD a []) (X.getD r []) (at2 X r cc) (at2 X a cc) d) 0 (X.getD a []) j).getD j 0).natAbs≤10^E:=by rw [hgj];exact hX a j ha' hj'
    clear hgj hgx
    generalize (chg (rowG (X.getD a []) (X.getD r []) (at2 X r cc) (at2 X a cc) d) 0 (X.getD a []) j)=row at*
    generalize hXA:(chg (zCl X r cc d) [] X a)=XA at*
    have hXl2:(XA.set a row).length=n:=by rw [List.length_set];exact hXl
    have rA:(XA.set a row).getD a []=row:=by rw [getD_set,if_pos ⟨rfl,kK⟩]
    have rK:(XA.set a row).getD r []=X.getD r []:=by rw [getD_set,if_neg (fun q=>hne q.1.symm),eK]
    have q4:=zC6 (G:=G) (F:=none) (L:=L) (w:=w) (k:=n) (X:=(XA.set a row)) (d:=d) (β:=β) (T:=[some ⟨116,.box (zo (at2 X r cc))⟩,some ⟨116,.box (zo (at2 X a cc))⟩])
    have q5:=zCu (G:=G) (F:=none) (L:=L) (w:=w) (k:=n) (X:=(XA.set a row)) (d:=d) (β:=β) (T:=[some ⟨116,.box (zo (at2 X r cc))⟩,some ⟨116,.box (zo (at2 X a cc))⟩]) (a:=a) kK
    rw [rA] at q5
    have q6:=zCu (G:=G) (F:=none) (L:=L) (w:=w) (k:=n) (X:=(XA.set a row)) (d:=d) (β:=β) (T:=[some ⟨116,.box (zo (at2 X r cc))⟩,some ⟨116,.box (zo (at2 X a cc))⟩]) (a:=r) kK
    rw [rK] at q6
    have q7:=zBH (G:=G) (F:=none) (L:=L) (w:=w) (k:=n) (X:=(XA.set a row)) (d:=d) (β:=β) (T:=[some ⟨116,.box (zo (at2 X r cc))⟩,some ⟨116,.box (zo (at2 X a cc))⟩])
    have q8:=zAl (G:=G) (F:=none) (L:=L) (w:=w) (k:=n) (X:=(XA.set a row)) (d:=d) (β:=β) (T:=[some ⟨116,.box (zo (at2 X r cc))⟩,some ⟨116,.box (zo (at2 X a cc))⟩]) 0
    rw [hXl2,Nat.add_zero] at q8
    have q9:=zAl (G:=G) (F:=none) (L:=L) (w:=w) (k:=n) (X:=(XA.set a row)) (d:=d) (β:=β) (T:=[some ⟨116,.box (zo (at2 X r cc))⟩,some ⟨116,.box (zo (at2 X a cc))⟩]) 1
    rw [hXl2,show G.length+4+n+1=G.length+5+n by omega] at q9
    have g5:r<(zBz G.length (XA.set a row).length L).len:=by show r<(XA.set a row).length;omega
    have g6:j<(zC row).len:=by show j<row.length;omega
    have g7:j<(zC (X.getD r [])).len:=by show j<(X.getD r []).length;omega
    have bK:((X.getD r []).getD j 0).natAbs≤10^E:=hX r j hrn hj'
    have bf:(at2 X a cc).natAbs≤10^E:=hX a cc ha' hc
    obtain ⟨s1,s2,s3⟩:=zLD ex bp bf bK hE
    have m1:=zCn (row.getD j 0) (at2 X r cc) (by have:=hsz _ ex;omega) (by have:=hsz _ bp;omega)
    have m2:=zCn (at2 X a cc) ((X.getD r []).getD j 0) (by have:=hsz _ bf;omega) (by have:=hsz _ bK;omega)
    have m3:=zNZ (row.getD j 0*at2 X r cc) (at2 X a cc*(X.getD r []).getD j 0) s1 s2
    have m4:=zSL (row.getD j 0*at2 X r cc-at2 X a cc*(X.getD r []).getD j 0) d hd s3 (by have:=hsz _ hdE;omega)
    refine rn1 ?_
    refine zZ kQ ?_
    refine zj (fuel:=1) [0,1,2,3,4,5,6,7,8,9,10,11,12,13,14,15,16,17,18,19,20,21,22,23,24,25,26] [(0,.ptr G.length 0 0),(1,iN r),(2,iN cc),(6,.ptr (G.length+4+n) 0 0),(7,iN a),(8,.sl (G.length+4+a) 0 L),(9,.ptr (G.length+5+n) 0 0),(27,.sl (G.length+3) 0 n),(28,iN n),(29,iN a),(42,iN L),(43,iN j),(10,iN j)] ⟨Z,Z,Z,Z,Z,Z,Z,Z,Z,Z,Z,Z,Z,trivial⟩ kQ kV Z Z ?_
    refine zK Z Z (zH Z) ?_
    refine zK Z Z (zH Z) ?_
    refine zK Z Z (zH Z) ?_
    refine zK Z Z (zH Z) ?_
    refine zK Z Z (qis Z Z Z) ?_
    refine zK Z Z (qas Z Z Z Z) ?_
    refine zK Z Z (qas Z Z Z Z) ?_
    refine zAy Z Z Z Z Z m1 ?_
    refine zK Z Z (qas Z Z Z Z) ?_
    refine zK Z Z (zH Z) ?_
    refine zK Z Z (zh Z) ?_
    refine zK Z Z (zN Z Z Z Z Z Z) ?_
    refine zK Z Z (zAN Z Z Z kW kY) ?_
    refine zK Z Z (zH Z) ?_
    refine zK Z Z (qis Z Z Z) ?_
    refine zK Z Z (zBD Z Z Z kW Z kU) ?_
    refine zK Z Z (zH Z) ?_
    refine zK Z Z (qis Z Z Z) ?_
    refine zK Z Z (qas Z Z Z Z) ?_
    refine zAy Z Z Z Z Z m2 ?_
    refine zAy Z Z Z Z Z m3 ?_
    refine zK Z Z (zH Z) ?_
    refine zK Z Z (zh Z) ?_
    refine zK Z Z (zN Z Z Z Z Z Z) ?_
    refine zK Z Z (qps Z Z Z Z) ?_
    refine zAy Z Z Z Z Z m4 ?_
    refine zK Z Z (qis Z Z Z) ?_
    refine zz ?_
    generalize zEA (row.getD j 0*at2 X r cc-at2 X a cc*(X.getD r []).getD j 0) d=v at*
    refine zD (is:=[27]) kQ kJ Z ⟨fun o ho=> ?_,trivial⟩
    all_goals (cases ho)
    refine zt (c':=zC (row.set j v)) Z Z Z q5 Z g6 (List.length_set ..) Z (zDe row j v) ?_
    refine zQ (zg G none L w n (XA.set a (row.set j v)) d β [some ⟨116,.box (zo (at2 X r cc))⟩,some ⟨116,.box (zo (at2 X a cc))⟩]) ((zLv kK _).trans (by rw [List.set_set])) (rn1 ?_)
    refine zT kQ (rn5 ?_)
    exact zI ⟨j+1,kK,kK,⟨Z,Z,Z,Z,Z,Z,Z,Z,Z,Z,Z,Z,trivial⟩,by rw [hsj]⟩
   ·have hje:L=j:=kK
    subst hje
    have hall:=row_chg (X.getD a []) (X.getD r []) (at2 X r cc) (at2 X a cc) d
    rw [lA] at hall
    have hel:zCl X r cc d a=zFv (X.getD a []) (X.getD r []) (at2 X r cc) (at2 X a cc) d:=by unfold zCl;rw [if_neg hne]
    rw [←hall,←hel,zD8 _ _ _ kK]
    have hXl3:(chg (zCl X r cc d) [] X (a+1)).length=n:=by rw [zC7,hn]
    have hl3:(zg G none L w n (chg (zCl X r cc d) [] X (a+1)) d β [some ⟨116,.box (zo (at2 X r cc))⟩]).length=G.length+5+n:=by rw [zBP,hXl3];show _+1=_;omega
    refine zCS ?_
    refine zG ?_
    refine zBS (zg G none L w n (chg (zCl X r cc d) [] X (a+1)) d β [some ⟨116,.box (zo (at2 X r cc))⟩]) [some ⟨116,.box (zo (at2 X a cc))⟩] [(0,.ptr G.length 0 0),(1,iN r),(2,iN cc),(6,.ptr (G.length+4+n) 0 0),(27,.sl (G.length+3) 0 n),(28,iN n),(29,iN a)] (by rw [zAk];rfl) ⟨Z,Z,Z,Z,Z,Z,Z,trivial⟩ (fun h hh=>by rw [hfix] at hh;rw [hl3];omega)
     (by rw [hl3];exact zCi hG _ kK (fun o ho=>by cases ho) (fun o ho=>by cases List.mem_singleton.1 ho;exact zNJ _ _)) (by rw [hl3];simp [zDj,zCV];omega) ?_
    refine rn3 ?_
    exact zI ⟨a+1,kK,kK,⟨Z,Z,Z,Z,Z,Z,Z,trivial⟩,Z⟩
 have hae:n=a:=kK
 subst hae
 rw [show chg (zCl X r cc d) [] X n=zE8 X r cc d by rw [zLC,hn]]
 have hYL:=zJw X r cc d kK hL
 have hYl:(zE8 X r cc d).length=n:=by rw [zJv,hn]
 have eP:zFL X r cc d=if at2 X r cc<0 then (zE8 X r cc d).map (fun l=>l.map (fun x=> -x)) else zE8 X r cc d:=rfl
 have hEl:(zFL X r cc d).length=n:=by rw [zLQ,hn]
 clear ha hXl h7
 generalize zE8 X r cc d=Y at*
 refine zBq ?_
 refine zAL ?_
 apply zAX (H:=zg G none L w n (zFL X r cc d) d β [some ⟨116,.box (zo (if at2 X r cc<0 then-(at2 X r cc) else at2 X r cc))⟩]) [(0,.ptr G.length 0 0),(1,iN r),(2,iN cc),(6,.ptr (G.length+4+n) 0 0)]
 ·intro fin
  have f1:=zBH (G:=G) (F:=none) (L:=L) (w:=w) (k:=n) (X:=Y) (d:=d) (β:=β) (T:=[some ⟨116,.box (zo (at2 X r cc))⟩])
  have q0:=zAl (G:=G) (F:=none) (L:=L) (w:=w) (k:=n) (X:=Y) (d:=d) (β:=β) (T:=[some ⟨116,.box (zo (at2 X r cc))⟩]) 0
  rw [hYl,Nat.add_zero] at q0
  have cs:=zEp (at2 X r cc)
  refine rn7 ?_
  refine zE 75 (zBF (at2 X r cc)) Z (AEq.of_eq Z) ?_
  refine zA Z Z Z cs ?_
  refine zBq ?_
  refine zB Z (fun h1=> ?_) (fun h1=> ?_)
  ·rw [zGq] at h1
   rw [if_pos h1] at eP
   rw [if_pos h1] at fin
   have co:=zG3 (at2 X r cc)
   refine rn7 ?_
   refine zE 78 (zBF (at2 X r cc)) Z (AEq.of_eq Z) ?_
   refine zA Z Z Z co ?_
   skip
   refine zt (c':= .box (zo (-(at2 X r cc)))) Z Z Z q0 Z Nat.zero_lt_one Z Z (fun i' j' hi' hj'=> ?_) ?_
   ·rw [if_pos (Nat.lt_one_iff.1 hi')];rfl
   refine zQ (zg G none L w n Y d β [some ⟨116,.box (zo (-(at2 X r cc)))⟩]) (by have q:=zAW (G:=G) (F:=none) (L:=L) (w:=w) (k:=n) (X:=Y) (d:=d) (β:=β) (T:=[some ⟨116,.box (zo (at2 X r cc))⟩]) 0 (some ⟨116,.box (zo (-(at2 X r cc)))⟩);rw [hYl,Nat.add_zero] at q;exact q) ?_
   clear f1 q0
   have f1:=zBH (G:=G) (F:=none) (L:=L) (w:=w) (k:=n) (X:=Y) (d:=d) (β:=β) (T:=[some ⟨116,.box (zo (-(at2 X r cc)))⟩])
   refine rn7 ?_
   refine zb (ι:=Nat) (fun a=>[(0,.ptr G.length 0 0),(1,iN r),(2,iN cc),(6,.ptr (G.length+4+n) 0 0),(83,.sl (G.length+3) 0 n),(84,iN n),(85,iN a)]) (fun a=>zg G none L w n (chg (fun i=>(Y.getD i []).map (fun x=> -x)) [] Y a) d β [some ⟨116,.box (zo (-(at2 X r cc)))⟩]) (fun a=>a≤n) (fun a=>n-a) 0 ⟨⟨Z,Z,Z,Z,Z,Z,Z,trivial⟩,by rw [zDU],Nat.zero_le _⟩ ?_
   clear f1
   intro a ha
   have hXl:(chg (fun i=>(Y.getD i []).map (fun x=> -x)) [] Y a).length=n:=by rw [zC7,hYl]
   refine rn4 ?_
   refine zB Z (fun h7=> ?_) (fun h7=> ?_)
   ·have ha':a<n:=kK
    have eA:(chg (fun i=>(Y.getD i []).map (fun x=> -x)) [] Y a).getD a []=Y.getD a []:=by rw [zDN _ _ _ kK,if_neg (Nat.lt_irrefl a)]
    have lA:(Y.getD a []).length=L:=hYL _ (z8 [] kK)
    have hst:=zD8 (fun i=>(Y.getD i []).map (fun x=> -x)) [] Y (k:=a) kK
    have f2:=zC6 (G:=G) (F:=none) (L:=L) (w:=w) (k:=n) (X:=(chg (fun i=>(Y.getD i []).map (fun x=> -x)) [] Y a)) (d:=d) (β:=β) (T:=[some ⟨116,.box (zo (-(at2 X r cc)))⟩])
    have g3:a<(zBz G.length (chg (fun i=>(Y.getD i []).map (fun x=> -x)) [] Y a).length L).len:=by show a<(chg (fun i=>(Y.getD i []).map (fun x=> -x)) [] Y a).length;omega
    refine rn7 ?_
    generalize hZA:(chg (fun i=>(Y.getD i []).map (fun x=> -x)) [] Y a)=ZA at*
    generalize hy:Y.getD a []=y at*
    refine zb (ι:=Nat) (fun j=>[(0,.ptr G.length 0 0),(1,iN r),(2,iN cc),(6,.ptr (G.length+4+n) 0 0),(12,.sl (G.length+4+a) 0 L),(83,.sl (G.length+3) 0 n),(84,iN n),(85,iN a),(90,iN L),(91,iN j)]) (fun j=>zg G none L w n (ZA.set a (chg (fun j=> -(y.getD j 0)) 0 y j)) d β [some ⟨116,.box (zo (-(at2 X r cc)))⟩]) (fun j=>j≤L) (fun j=>L-j) 0 ⟨⟨Z,Z,Z,Z,Z,Z,Z,Z,Z,Z,trivial⟩,by rw [zDU,←eA,zPC ZA [] _ kK],Nat.zero_le _⟩ ?_
    intro j hj
    refine rn4 ?_
    refine zB Z (fun h9=> ?_) (fun h9=> ?_)
    ·have hj':j<L:=kK
     have hgj:=zDN (fun j=> -(y.getD j 0)) 0 y (k:=j) (i:=j) kK
     rw [if_neg (Nat.lt_irrefl j)] at hgj
     have hsj:=zD8 (fun j=> -(y.getD j 0)) 0 y (k:=j) kK
     have hlj:=zC7 (fun j=> -(y.getD j 0)) 0 y j
     rw [←hgj] at hsj
     generalize (chg (fun j=> -(y.getD j 0)) 0 y j)=row at*
     have hXl2:(ZA.set a row).length=n:=by rw [List.length_set];exact hXl
     have rA:(ZA.set a row).getD a []=row:=by rw [getD_set,if_pos ⟨rfl,kK⟩]
     have q5:=zCu (G:=G) (F:=none) (L:=L) (w:=w) (k:=n) (X:=(ZA.set a row)) (d:=d) (β:=β) (T:=[some ⟨116,.box (zo (-(at2 X r cc)))⟩]) (a:=a) kK
     rw [rA] at q5
     have g6:j<(zC row).len:=by show j<row.length;omega
     have co:=zG3 (row.getD j 0)
     refine rn7 ?_
     refine zE 99 (zBF (row.getD j 0)) Z (AEq.of_eq Z) ?_
     refine zA Z Z Z co ?_
     repeat (refine zL (qis rfl rfl rfl) ?_)
     refine zt (c':=zC (row.set j (-(row.getD j 0)))) Z Z Z q5 Z g6 (List.length_set ..) Z (zDe row j _) ?_
     refine zQ (zg G none L w n (ZA.set a (row.set j (-(row.getD j 0)))) d β [some ⟨116,.box (zo (-(at2 X r cc)))⟩]) ((zLv kK _).trans (by rw [List.set_set])) (rn5 ?_)
     exact zI ⟨j+1,kK,kK,⟨Z,Z,Z,Z,Z,Z,Z,Z,Z,Z,trivial⟩,by rw [hsj]⟩
    ·have hje:L=j:=kK
     subst hje
     have hall:chg (fun j=> -(y.getD j 0)) 0 y L=y.map (fun x=> -x):=by rw [←lA,zFF,zMt (fun x=> -x) y 0]
     rw [hall,hst]
     refine rn5 ?_
     exact zI ⟨a+1,kK,kK,⟨Z,Z,Z,Z,Z,Z,Z,trivial⟩,Z⟩
   ·have hae:a=n:=kK
    have hall:(chg (fun i=>(Y.getD i []).map (fun x=> -x)) [] Y a)=zFL X r cc d:=by rw [hae,←hYl,zFF,zMt (fun l:List Int=>l.map (fun x=> -x)) Y [],eP]
    rw [hall]
    refine zBq ?_
    exact fin _ ⟨Z,Z,Z,Z,trivial⟩
  ·rw [zGq] at h1
   rw [if_neg h1] at eP
   rw [if_neg h1,eP] at fin
   refine zBq ?_
   exact fin _ ⟨Z,Z,Z,Z,trivial⟩
 clear eP hYl hYL
 clear Y
 generalize hPV:(if at2 X r cc<0 then-(at2 X r cc) else at2 X r cc)=PV at*
 have f1:=zBH (G:=G) (F:=none) (L:=L) (w:=w) (k:=n) (X:=(zFL X r cc d)) (d:=d) (β:=β) (T:=[some ⟨116,.box (zo PV)⟩])
 have q0:=zAl (G:=G) (F:=none) (L:=L) (w:=w) (k:=n) (X:=(zFL X r cc d)) (d:=d) (β:=β) (T:=[some ⟨116,.box (zo PV)⟩]) 0
 rw [hEl,Nat.add_zero] at q0
 refine rn7 ?_
 refine zE 105 (zBF PV) Z (AEq.of_eq Z) ?_
 refine zNH (s:=2) (c':=zEN G.length n β.length w PV) Z Z Z f1 Z (show 1+2≤5 from kV) Nat.zero_lt_one Z Z (tabB_den _ _ _ _ _ _) ?_
 refine zQ (zg G none L w n (zFL X r cc d) PV β [some ⟨116,.box (zo PV)⟩]) (zIz n w PV) ?_
 refine zEW ?_
 have hle:(zg G none L w n (zFL X r cc d) PV β []).length=G.length+4+n:=by rw [zBP,hEl];rfl
 refine zBS (zg G none L w n (zFL X r cc d) PV β []) [some ⟨116,.box (zo PV)⟩] [(0,.ptr G.length 0 0),(1,iN r),(2,iN cc)] (by rw [zAk];rfl) ⟨Z,Z,Z,trivial⟩ (fun h hh=>by rw [hfix] at hh;rw [hle];exact hh)
  (by rw [hle];exact zCi hG _ kK (fun o ho=>by cases ho) (fun o ho=>by cases ho)) (by rw [hle];simp [zDj,zCV];omega) ?_
 clear f1 q0
 have f1:=zBH (G:=G) (F:=none) (L:=L) (w:=w) (k:=n) (X:=zFL X r cc d) (d:=PV) (β:=β) (T:=[])
 have f2:=zGN (G:=G) (F:=none) (L:=L) (w:=w) (k:=n) (X:=zFL X r cc d) (d:=PV) (β:=β) (T:=[])
 refine rn7 ?_
 refine zBw Z Z Z Z f2 Z Z (by show r<(β.map _).length;rw [List.length_map];exact hr) ?_
 refine zQ (zg G none L w n (zFL X r cc d) PV (β.set r cc) []) (by
  rw [←zLu (β:=β) (List.length_set ..)]
  show _=List.set _ _ (some (⟨3,.ints .i64 ((β.set r cc).map (fun a:Nat=>(a:Int)))⟩:AObj))
  rw [List.map_set]) ?_
 repeat (refine zV ?_)
 exact ax_end hR Z ⟨Z,Z⟩
theorem zFI (β:List Nat)(i:Nat):(β.map (fun a:Nat=>(a:Int))).getD i 0=((β.getD i 0:Nat):Int):=by
 simp only [List.getD,List.getElem?_map]
 cases β[i]? <;>rfl
theorem zPE (x:Int):(sgn x≤0)=(x≤0):=by
 apply propext
 unfold sgn
 constructor
 ·intro h
  split at h
  ·omega
  ·split at h
   ·omega
   ·exact absurd h kV
 ·intro h
  by_cases h1:x<0
  ·rw [if_pos h1];decide
  ·rw [if_neg h1,if_pos kK];decide
theorem sgn_neg {x:Int}(h:x<0):sgn x= -1:=by unfold sgn;rw [if_pos h]
theorem sgn_zer {x:Int}(h:x=0):sgn x=0:=by subst h;rfl
theorem sgn_pos {x:Int}(h:0<x):sgn x=1:=by unfold sgn;rw [if_neg kK,if_neg kK]
theorem leave_ok (G:zO)(hG:OkG G)(N w n:Nat)(X:Tab)(d:Int)(β:List Nat)(cc:Nat)(E:Nat)(hn:X.length=n)(hn0:0<n)(hn40:n≤1000000)(hL: ∀x∈X,x.length=N+1)(hL40:N+1≤1000000)(hβ:β.length≤n)(hc:cc<N+1)(hX: ∀i j,i<n→j<N+1→(at2 X i j).natAbs≤10^E)(hE:E≤3600000):
 zU Tryz.prog 213 [.ptr G.length 0 0,iN cc] (zg G none (N+1) w n X d β []) (fun h=>h<(zg G none (N+1) w n X d β []).length)
  (fun r' H'=>r'= .int .i64 (optZ (zBo X β cc N β.length))∧H'=zg G none (N+1) w n X d β []):=by
 refine zF (P:=Tryz.prog) (fn:=Tryz.f213) Z Z kQ Z (fun c hR hfix=> ?_)
 have hlen:(zg G none (N+1) w n X d β []).length=G.length+4+n:=by rw [zBP,hn];rfl
 rw [hlen] at hfix
 have f1:=zBH (G:=G) (F:=none) (L:=N+1) (w:=w) (k:=n) (X:=X) (d:=d) (β:=β) (T:=[])
 have f2:=zC6 (G:=G) (F:=none) (L:=N+1) (w:=w) (k:=n) (X:=X) (d:=d) (β:=β) (T:=[])
 have g1:0<(zBz G.length X.length (N+1)).len:=by show 0<X.length;omega
 refine rn0 ?_
 refine zZ kQ ?_
 refine zj (fuel:=0) [0,1,2,3,4,5,6,7,8,9] [(0,.ptr G.length 0 0),(1,iN cc)] ⟨Z,Z,trivial⟩ kQ kV Z Z ?_
 refine zK Z Z (zH Z) ?_
 refine zK Z Z (zh Z) ?_
 refine zK Z Z (zN Z Z Z Z Z Z) ?_
 refine zK Z Z (zAN Z Z Z kW kY) ?_
 refine zK Z Z (qis Z Z Z) ?_
 refine zK Z Z (zBD Z Z Z kW Z kU) ?_
 refine zK Z Z (zBh Z Z Z) ?_
 refine zK Z Z (zFl Z Z kK) ?_
 refine zK Z Z (zf Z) ?_
 refine zK Z Z (zf Z) ?_
 refine zz ?_
 refine zT kQ ?_
 repeat (refine zG ?_)
 refine zv 6 (iN N) Z (AEq.of_eq (by show AV.int .i64 (((N+1:Nat):Int)-1)=_;rw [show ((N+1:Nat):Int)-1=(N:Nat) by omega])) ?_
 have f3:=zGN (G:=G) (F:=none) (L:=N+1) (w:=w) (k:=n) (X:=X) (d:=d) (β:=β) (T:=[])
 refine rn7 ?_
 refine zb (ι:=Nat) (fun i=>[(0,.ptr G.length 0 0),(1,iN cc),(5,.int .i64 (optZ (zBo X β cc N i))),(6,iN N),(22,iN β.length),(23,iN i)]) (fun i=>zg G none (N+1) w n X d β []) (fun i=>i≤β.length) (fun i=>β.length-i) 0 ⟨⟨Z,Z,Z,Z,Z,Z,trivial⟩,Z,Nat.zero_le _⟩ ?_
 clear f3
 intro i hi
 refine rn4 ?_
 refine zB Z (fun h=> ?_) (fun h=> ?_)
 ·have hi':i<β.length:=kK
  have hin:i<n:=kK
  have lI:(X.getD i []).length=N+1:=hL _ (z8 [] kK)
  have f3:=zCu (G:=G) (F:=none) (L:=N+1) (w:=w) (k:=n) (X:=X) (d:=d) (β:=β) (T:=[]) (a:=i) kK
  have g3:i<(zBz G.length X.length (N+1)).len:=by show i<X.length;omega
  have g4:cc<(zC (X.getD i [])).len:=by show cc<(X.getD i []).length;omega
  refine rn7 ?_
  refine zQ (zg G none (N+1) w n X d β [some ⟨116,.box [.bool false,.nil]⟩]) (by rw [zAk];rfl) ?_
  refine zE 8 (.ptr (G.length+4+n) 0 0) Z (AEq.of_eq (by rw [hlen])) ?_
  refine zE 35 (zBF (at2 X i cc)) Z (AEq.of_eq Z) ?_
  have q0:=zAl (G:=G) (F:=none) (L:=N+1) (w:=w) (k:=n) (X:=X) (d:=d) (β:=β) (T:=[some ⟨116,.box [.bool false,.nil]⟩]) 0
  rw [hn] at q0
  refine zt (c':= .box (zo (at2 X i cc))) Z Z Z q0 Z Nat.zero_lt_one Z Z (fun i' j' hi' hj'=> ?_) ?_
  ·rw [if_pos (Nat.lt_one_iff.1 hi')];rfl
  refine zQ (zg G none (N+1) w n X d β [some ⟨116,.box (zo (at2 X i cc))⟩]) (by have q:=zAW (G:=G) (F:=none) (L:=N+1) (w:=w) (k:=n) (X:=X) (d:=d) (β:=β) (T:=[some ⟨116,.box [.bool false,.nil]⟩]) 0 (some ⟨116,.box (zo (at2 X i cc))⟩);rw [hn] at q;exact q) ?_
  clear f1 f2 f3 q0
  apply zAX (H:=zg G none (N+1) w n X d β [some ⟨116,.box (zo (at2 X i cc))⟩]) [(0,.ptr G.length 0 0),(1,iN cc),(5,.int .i64 (optZ (zBo X β cc N (i+1)))),(6,iN N),(22,iN β.length),(23,iN i)]
  ·intro fin
   have f1:=zBH (G:=G) (F:=none) (L:=N+1) (w:=w) (k:=n) (X:=X) (d:=d) (β:=β) (T:=[some ⟨116,.box (zo (at2 X i cc))⟩])
   have f2:=zC6 (G:=G) (F:=none) (L:=N+1) (w:=w) (k:=n) (X:=X) (d:=d) (β:=β) (T:=[some ⟨116,.box (zo (at2 X i cc))⟩])
   have q0:=zAl (G:=G) (F:=none) (L:=N+1) (w:=w) (k:=n) (X:=X) (d:=d) (β:=β) (T:=[some ⟨116,.box (zo (at2 X i cc))⟩]) 0
   rw [hn,Nat.add_zero] at q0
   have cs:=zEp (at2 X i cc)
   refine rn7 ?_
   refine zE 36 (zBF (at2 X i cc)) Z (AEq.of_eq Z) ?_
   refine zA Z Z Z cs (rn8 ?_)
   refine zB Z (fun h1=> ?_) (fun h1=> ?_)
   ·rw [zPE] at h1
    rw [zQA h1] at fin
    refine zBq ?_
    exact fin _ ⟨Z,Z,Z,Z,Z,Z,trivial⟩
   ·rw [zPE] at h1
    refine rn4 ?_
    refine zB Z (fun h2=> ?_) (fun h2=> ?_)
    ·rw [zOn] at h2
     rw [zOc h1 h2] at fin
     skip
     refine zAL ?_
     refine zl Z ?_
     refine zBq ?_
     exact fin _ ⟨Z,Z,Z,Z,Z,Z,trivial⟩
    ·cases hl:zBo X β cc N i with
     |none=>rw [hl] at h2;exact absurd (show (-1:Int)<0 by decide) h2
     |some b=>
      have hb:=(zG5 X β cc N i b hl).lt
      have hbn:b<n:=kK
      have hnx:=zP9 (T:=X) (β:=β) (c:=cc) (e:=N) h1 hl
      rw [hnx] at fin
      have lB:(X.getD b []).length=N+1:=hL _ (z8 [] kK)
      have f3:=zCu (G:=G) (F:=none) (L:=N+1) (w:=w) (k:=n) (X:=X) (d:=d) (β:=β) (T:=[some ⟨116,.box (zo (at2 X i cc))⟩]) (a:=i) kK
      have f4:=zCu (G:=G) (F:=none) (L:=N+1) (w:=w) (k:=n) (X:=X) (d:=d) (β:=β) (T:=[some ⟨116,.box (zo (at2 X i cc))⟩]) (a:=b) kK
      have g3:i<(zBz G.length X.length (N+1)).len:=by show i<X.length;omega
      have g4:b<(zBz G.length X.length (N+1)).len:=by show b<X.length;omega
      have g5:cc<(zC (X.getD b [])).len:=by show cc<(X.getD b []).length;omega
      have g6:N<(zC (X.getD b [])).len:=by show N<(X.getD b []).length;omega
      have g7:N<(zC (X.getD i [])).len:=by show N<(X.getD i []).length;omega
      have bi:=hX i cc hin hc
      have bb:=hX b cc hbn hc
      have ei:=hX i N hin (Nat.lt_succ_self N)
      have eb:=hX b N hbn (Nat.lt_succ_self N)
      have hsz: ∀x:Int,x.natAbs≤10^E→(zW x.natAbs).length≤400001:=fun x hx=>zFy hx kK
      obtain ⟨s1,s2,s3⟩:=zLD ei bb bi eb hE
      rw [Int.mul_comm (at2 X i cc) (at2 X b N)] at s2
      have m1:=zCn (at2 X i N) (at2 X b cc) (by have:=hsz _ ei;omega) (by have:=hsz _ bb;omega)
      have m2:=zCn (at2 X b N) (at2 X i cc) (by have:=hsz _ eb;omega) (by have:=hsz _ bi;omega)
      have m3:=zQ9 (at2 X i N*at2 X b cc) (at2 X b N*at2 X i cc) s1 s2
      refine rn20 ?_
      refine zv 5 (iN b) Z (AEq.of_eq Z) ?_
      refine zZ kQ ?_
      refine zj (fuel:=0) [0,1,2,3,4,5,6,7,8,9,10,11,12,13,14,15,16,17,18,19,20,21,22,23,24,25,26,27,28,29,30,31,32,33,34] [(0,.ptr G.length 0 0),(1,iN cc),(5,iN b),(6,iN N),(7,iN i),(8,.ptr (G.length+4+n) 0 0),(22,iN β.length),(23,iN i)] ⟨Z,Z,Z,Z,Z,Z,Z,Z,trivial⟩ kQ kV Z Z ?_
      refine zK Z Z (zH Z) ?_
      refine zK Z Z (zh Z) ?_
      refine zK Z Z (zN Z Z Z Z Z Z) ?_
      refine zK Z Z (zAN Z Z Z kW kY) ?_
      refine zK Z Z (zH Z) ?_
      refine zK Z Z (qis Z Z Z) ?_
      refine zK Z Z (zBD Z Z Z kW Z kU) ?_
      refine zK Z Z (zH Z) ?_
      refine zK Z Z (qis Z Z Z) ?_
      refine zK Z Z (qas Z Z Z Z) ?_
      refine zK Z Z (zH Z) ?_
      refine zK Z Z (zh Z) ?_
      refine zK Z Z (zN Z Z Z Z Z Z) ?_
      refine zK Z Z (zAN Z Z Z kW kY) ?_
      refine zK Z Z (zH Z) ?_
      refine zK Z Z (qis Z Z Z) ?_
      refine zK Z Z (zBD Z Z Z kW Z kU) ?_
      refine zK Z Z (zH Z) ?_
      refine zK Z Z (qis Z Z Z) ?_
      refine zK Z Z (qas Z Z Z Z) ?_
      refine zAy Z Z Z Z Z m1 ?_
      refine zK Z Z (zH Z) ?_
      refine zK Z Z (zh Z) ?_
      refine zK Z Z (zN Z Z Z Z Z Z) ?_
      refine zK Z Z (zAN Z Z Z kW kY) ?_
      refine zK Z Z (zH Z) ?_
      refine zK Z Z (qis Z Z Z) ?_
      refine zK Z Z (zBD Z Z Z kW Z kU) ?_
      refine zK Z Z (zH Z) ?_
      refine zK Z Z (qis Z Z Z) ?_
      refine zK Z Z (qas Z Z Z Z) ?_
      refine zK Z Z (qas Z Z Z Z) ?_
      refine zAy Z Z Z Z Z m2 ?_
      refine zAy Z Z Z Z Z m3 ?_
      refine zK Z Z (zf Z) ?_
      refine zz ?_
      refine zT kQ ?_
      repeat (refine zG ?_)
      have f5:=zGN (G:=G) (F:=none) (L:=N+1) (w:=w) (k:=n) (X:=X) (d:=d) (β:=β) (T:=[some ⟨116,.box (zo (at2 X i cc))⟩])
      have g8:i<(β.map (fun a:Nat=>(a:Int))).length:=by rw [List.length_map];exact hi'
      have g9:b<(β.map (fun a:Nat=>(a:Int))).length:=by rw [List.length_map];omega
      clear f2 f3 f4 m1 m2 m3
      rcases Int.lt_trichotomy (at2 X i N*at2 X b cc-at2 X b N*at2 X i cc) 0 with hD|hD|hD
      ·rw [if_pos (.inl kK)] at fin
       refine zv 9 (.int .i64 (-1)) Z (AEq.of_eq (by rw [sgn_neg hD])) ?_
       repeat (refine zAL ?_)
       refine zZ kQ ?_
       refine zj (fuel:=0) [0,1,2,3,4,5,6,7,8,9,10,11,12,13,14,15,16,17,18,19,20,21,22] [(0,.ptr G.length 0 0),(1,iN cc),(5,iN b),(6,iN N),(7,iN i),(8,.ptr (G.length+4+n) 0 0),(22,iN β.length),(23,iN i),(9,.int .i64 (-1))] ⟨Z,Z,Z,Z,Z,Z,Z,Z,Z,trivial⟩ kQ kV Z Z ?_
       refine zK Z Z (zH Z) ?_
       refine zK Z Z (zDS Z Z) ?_
       refine zK Z Z (zH Z) ?_
       refine zAO Z Z Z Z Z ?_
       refine zAO Z Z Z Z Z ?_
       refine zAO Z Z Z Z Z ?_
       refine zCs Z Z Z Z ?_
       refine zCs Z Z Z Z ?_
       refine zCs Z Z Z Z ?_
       refine zCs Z Z Z Z ?_
       refine zCs Z Z Z Z ?_
       refine zCs Z Z Z Z ?_
       refine zCs Z Z Z Z ?_
       refine zCs Z Z Z Z ?_
       refine zCs Z Z Z Z ?_
       refine zCs Z Z Z Z ?_
       refine zCs Z Z Z Z ?_
       refine zCs Z Z Z Z ?_
       refine zCs Z Z Z Z ?_
       refine zCs Z Z Z Z ?_
       refine zCs Z Z Z Z ?_
       refine zAO Z Z Z Z Z ?_
       refine zK Z Z (zAj Z Z) ?_
       refine zz ?_
       refine zT kQ ?_
       repeat (first|refine zG ?_|refine zBu rfl ?_)
       refine zl Z ?_
       refine zBq ?_
       exact fin _ ⟨Z,Z,Z,Z,Z,Z,trivial⟩
      ·refine zv 9 (.int .i64 0) Z (AEq.of_eq (by rw [sgn_zer hD])) ?_
       repeat (refine zAL ?_)
       refine zZ kQ ?_
       refine zj (fuel:=0) [0,1,2,3,4,5,6,7,8,9,10,11,12,13,14,15,16,17,18,19,20,21,22] [(0,.ptr G.length 0 0),(1,iN cc),(5,iN b),(6,iN N),(7,iN i),(8,.ptr (G.length+4+n) 0 0),(22,iN β.length),(23,iN i),(9,.int .i64 (0))] ⟨Z,Z,Z,Z,Z,Z,Z,Z,Z,trivial⟩ kQ kV Z Z ?_
       refine zK Z Z (zH Z) ?_
       refine zK Z Z (zDS Z Z) ?_
       refine zK Z Z (zH Z) ?_
       refine zAH Z Z Z Z (zH Z) ?_
       refine zAH Z Z Z Z (zEu Z Z) ?_
       refine zAH Z Z Z Z (zH Z) ?_
       refine zAH Z Z Z Z (zH Z) ?_
       refine zAH Z Z Z Z (zh Z) ?_
       refine zAH Z Z Z Z (zN Z Z Z Z Z Z) ?_
       refine zAH Z Z Z Z (zAN Z Z Z kW kY) ?_
       refine zAH Z Z Z Z (zH Z) ?_
       refine zAH Z Z Z Z (qis Z Z Z) ?_
       refine zAH Z Z Z Z (zHo Z Z Z kW kU) ?_
       refine zAH Z Z Z Z (zH Z) ?_
       refine zAH Z Z Z Z (zh Z) ?_
       refine zAH Z Z Z Z (zN Z Z Z Z Z Z) ?_
       refine zAH Z Z Z Z (zAN Z Z Z kW kY) ?_
       refine zAH Z Z Z Z (zH Z) ?_
       refine zAH Z Z Z Z (qis Z Z Z) ?_
       refine zAH Z Z Z Z (zHo Z Z Z kW kU) ?_
       refine zAH Z Z Z Z (zDS Z Z) ?_
       refine zAH Z Z Z Z (zAj Z Z) ?_
       refine zK Z Z (zAj Z Z) ?_
       refine zz ?_
       refine zT kQ ?_
       repeat (refine zG ?_)
       refine zB Z (fun h3=> ?_) (fun h3=> ?_)
       ·rw [zFI,zFI] at h3
        rw [if_pos (.inr ⟨kK,kK⟩)] at fin
        skip
        refine zl Z ?_
        refine zBq ?_
        exact fin _ ⟨Z,Z,Z,Z,Z,Z,trivial⟩
       ·rw [zFI,zFI] at h3
        rw [if_neg (by unfold zId;omega)] at fin
        refine zBq ?_
        exact fin _ ⟨Z,Z,Z,Z,Z,Z,trivial⟩
      ·rw [if_neg (by unfold zId;omega)] at fin
       refine zv 9 (.int .i64 1) Z (AEq.of_eq (by rw [sgn_pos hD])) ?_
       repeat (refine zAL ?_)
       refine zZ kQ ?_
       refine zj (fuel:=0) [0,1,2,3,4,5,6,7,8,9,10,11,12,13,14,15,16,17,18,19,20,21,22] [(0,.ptr G.length 0 0),(1,iN cc),(5,iN b),(6,iN N),(7,iN i),(8,.ptr (G.length+4+n) 0 0),(22,iN β.length),(23,iN i),(9,.int .i64 (1))] ⟨Z,Z,Z,Z,Z,Z,Z,Z,Z,trivial⟩ kQ kV Z Z ?_
       refine zK Z Z (zH Z) ?_
       refine zK Z Z (zDS Z Z) ?_
       refine zK Z Z (zH Z) ?_
       refine zAH Z Z Z Z (zH Z) ?_
       refine zAH Z Z Z Z (zEu Z Z) ?_
       refine zAH Z Z Z Z (zH Z) ?_
       refine zAO Z Z Z Z Z ?_
       refine zAO Z Z Z Z Z ?_
       refine zAO Z Z Z Z Z ?_
       refine zAO Z Z Z Z Z ?_
       refine zAO Z Z Z Z Z ?_
       refine zAO Z Z Z Z Z ?_
       refine zAO Z Z Z Z Z ?_
       refine zAO Z Z Z Z Z ?_
       refine zAO Z Z Z Z Z ?_
       refine zAO Z Z Z Z Z ?_
       refine zAO Z Z Z Z Z ?_
       refine zAO Z Z Z Z Z ?_
       refine zAO Z Z Z Z Z ?_
       refine zAO Z Z Z Z Z ?_
       refine zAO Z Z Z Z Z ?_
       refine zAH Z Z Z Z (zAj Z Z) ?_
       refine zK Z Z (zAj Z Z) ?_
       refine zz ?_
       refine zT kQ ?_
       refine zBq ?_
       exact fin _ ⟨Z,Z,Z,Z,Z,Z,trivial⟩
  ·refine zBS (zg G none (N+1) w n X d β []) [some ⟨116,.box (zo (at2 X i cc))⟩] [(0,.ptr G.length 0 0),(1,iN cc),(5,.int .i64 (optZ (zBo X β cc N (i+1)))),(6,iN N),(22,iN β.length),(23,iN i)] (by rw [zAk];rfl) ⟨Z,Z,Z,Z,Z,Z,trivial⟩ (fun h hh=>by rw [hfix] at hh;rw [hlen];exact hh)
    (by rw [hlen];exact zCi hG _ kK (fun o ho=>by cases ho) (fun o ho=>by cases ho)) (by rw [hlen];simp [zDj,zCV];omega) ?_
   refine rn3 ?_
   exact zI ⟨i+1,kK,kK,⟨Z,Z,Z,Z,Z,Z,trivial⟩,Z⟩
 ·have hie:i=β.length:=kK
  subst hie
  refine rn5 ?_
  exact zM hR Z ⟨Z,Z⟩
theorem zPD (x:Int):(0≤sgn x)=(¬x<0):=by
 apply propext
 unfold sgn
 constructor
 ·intro h
  split at h
  ·exact absurd h kV
  ·assumption
 ·intro h
  rw [if_neg h]
  split<;>decide
abbrev stH (G:zO)(N w n:Nat)(t:St):zO:=zg G none (N+1) w n t.rows t.den t.basis []
theorem run_ok (G:zO)(hG:OkG G)(m N w:Nat)(M:Tab)(s:St)(hi:Inv m N M s)(hf:zD3 m N s)(hw:w≤N)(K:Nat)(hK:zCI m N w (zAn m N w s K)=none)(E:Nat)(hm:m+1≤1000000)(hN:N+1≤1000000)(hB: ∀t,Inv m N M t→(∀i j,i<m+1→j<N+1→(at2 t.rows i j).natAbs≤10^E)∧t.den.natAbs≤10^E)(hE:E≤3600000):
 zU Tryz.prog 177 [.ptr G.length 0 0] (stH G N w (m+1) s) (fun h=>h<(stH G N w (m+1) s).length)
  (fun r' H'=>r'= .int .i64 (resZ m w (zAn m N w s K))∧H'=stH G N w (m+1) (zAn m N w s K)):=by
 refine zF (P:=Tryz.prog) (fn:=Tryz.f177) Z Z kQ Z (fun c hR hfix=> ?_)
 have hlen: ∀t:St,t.rows.length=m+1→(stH G N w (m+1) t).length=G.length+4+(m+1):=fun t ht=>by rw [zBP,ht];rfl
 rw [hlen s hi.n] at hfix
 refine rn1 ?_
 refine zb (ι:=Nat) (fun k=>[(0,.ptr G.length 0 0)]) (fun k=>stH G N w (m+1) (zAn m N w s k)) (fun k=>k≤K) (fun k=>K-k) 0 ⟨⟨Z,trivial⟩,Z,Nat.zero_le _⟩ ?_
 intro k hk
 obtain ⟨hi',hf'⟩:=zFR hi hf hw k
 obtain ⟨hB1,hB2⟩:=hB _ hi'
 have hnx:=fun s'=> @zSM m N w s k s'
 have hen:= @iter_end m N w s k K
 have hkK:zCI m N w (zAn m N w s k)≠none→k≠K:=fun h e=>h (by rw [e];exact hK)
 generalize zAn m N w s k=t at*
 have hn:=hi'.n
 have hβ:=hi'.b
 have hrow:=hi'.row
 have hd:t.den≠0:=by have:=hi'.dp;omega
 have lm:(t.rows.getD m []).length=N+1:=hrow _ (z8 [] kK)
 have f1:=zBH (G:=G) (F:=none) (L:=N+1) (w:=w) (k:=m+1) (X:=t.rows) (d:=t.den) (β:=t.basis) (T:=[])
 have f2:=zC6 (G:=G) (F:=none) (L:=N+1) (w:=w) (k:=m+1) (X:=t.rows) (d:=t.den) (β:=t.basis) (T:=[])
 have f3:=zCu (G:=G) (F:=none) (L:=N+1) (w:=w) (k:=m+1) (X:=t.rows) (d:=t.den) (β:=t.basis) (T:=[]) (a:=m) kK
 refine rn1 ?_
 refine zZ kQ ?_
 refine zj (fuel:=0) [0,1,2,3,4,5,6,7,8,9,10,11,12] [(0,.ptr G.length 0 0)] ⟨Z,trivial⟩ kQ kV Z Z ?_
 refine zK Z Z (zH Z) ?_
 refine zK Z Z (zh Z) ?_
 refine zK Z Z (zN Z Z Z Z Z Z) ?_
 refine zK Z Z (zAN Z Z Z kW kY) ?_
 refine zK Z Z (zH Z) ?_
 refine zK Z Z (zh Z) ?_
 refine zK Z Z (zN Z Z Z Z Z Z) ?_
 refine zK Z Z (zAN Z Z Z kW kY) ?_
 refine zK Z Z (zBh Z Z Z) ?_
 refine zK Z Z (zFl Z Z kK) ?_
 refine zK Z Z (qis Z Z Z) ?_
 refine zK Z Z (zBD Z Z Z kW Z kU) ?_
 refine zK Z Z (zf Z) ?_
 refine zz ?_
 refine zT kQ ?_
 repeat (refine zG ?_)
 refine zv 3 (.sl (G.length+4+m) 0 (N+1)) Z (AEq.of_eq (by show AV.sl (G.length+4+(((m+1:Nat):Int)-1).toNat) 0 (N+1)=_;rw [show (((m+1:Nat):Int)-1).toNat=m by omega])) ?_
 skip
 refine zAL ?_
 apply zAX (H:=stH G N w (m+1) t) [(0,.ptr G.length 0 0),(4,iN (zCb m w t))]
 ·intro fin
  refine rn1 ?_
  refine zb (ι:=Nat) (fun a=>[(0,.ptr G.length 0 0),(3,.sl (G.length+4+m) 0 (N+1)),(4,iN a)]) (fun _=>stH G N w (m+1) t) (fun a=>a≤w∧zCm t.rows m (w-a) a=zCb m w t) (fun a=>w-a) 0 ⟨⟨Z,Z,Z,trivial⟩,Z,Nat.zero_le _,Z⟩ ?_
  rintro a ⟨ha,hcol⟩
  by_cases haw:a<w
  ·have g1:a<(zC (t.rows.getD m [])).len:=by show a<(t.rows.getD m []).length;omega
   have cs:=zEp (at2 t.rows m a)
   refine rn7 ?_
   refine zE 24 (.bool true) Z (AEq.of_eq (by rw [decide_eq_true kK])) ?_
   refine zCS ?_
   refine zE 28 (zBF (at2 t.rows m a)) Z (AEq.of_eq Z) ?_
   refine zA Z Z Z cs ?_
   refine zBq ?_
   refine zB Z (fun h1=> ?_) (fun h1=> ?_)
   ·rw [zPD] at h1
    refine rn5 ?_
    exact zI ⟨a+1,⟨kK,by rw [←hcol,show w-a=(w-(a+1))+1 by omega,enter_go h1]⟩,kK,⟨Z,Z,Z,trivial⟩,Z⟩
   ·rw [zPD] at h1
    rw [zPu kK] at hcol
    refine zBq ?_
    exact fin _ ⟨Z,by rw [←hcol];rfl,trivial⟩
  ·have haw':a=w:=kK
   subst haw'
   rw [Nat.sub_self] at hcol
   have hcol:a=zCb m a t:=hcol
   refine rn7 ?_
   refine zE 24 (.bool false) Z (AEq.of_eq (by rw [decide_eq_false kK])) ?_
   refine zBq ?_
   exact fin _ ⟨Z,by rw [←hcol];rfl,trivial⟩
 ·have hcl:zCb m w t≤w:=Nat.le_trans (zFf t.rows m w 0).2.1 kK
  refine rn15 ?_
  refine zB Z (fun h1=> ?_) (fun h1=> ?_)
  ·have h1':zCb m w t=w:=kK
   have e:=hen (zSy h1') hk
   refine rn6 ?_
   exact zM hR Z ⟨by rw [e];unfold resZ;rw [if_pos h1'];rfl,by rw [e]⟩
  ·have h1':zCb m w t≠w:=kK
   have cl:=leave_ok G hG N w (m+1) t.rows t.den t.basis (zCb m w t) E hn kK hm hrow hN kK kK hB1 hE
   rw [hβ] at cl
   refine rn1 ?_
   refine zCw Z Z Z cl (fun _ h=>h) (fun _ h=>h) ?_
   rintro r' H' ⟨rfl,rfl⟩
   refine rn4 ?_
   refine zB Z (fun h2=> ?_) (fun h2=> ?_)
   ·rw [zOn] at h2
    have e:=hen (zSx h1' h2) hk
    refine rn6 ?_
    exact zM hR Z ⟨by rw [e];unfold resZ;rw [if_neg h1'];rfl,by rw [e]⟩
   ·cases hl:zBo t.rows t.basis (zCb m w t) N m with
    |none=>rw [hl] at h2;exact absurd (show (-1:Int)<0 by decide) h2
    |some r=>
     have hs:=step_go h1' hl
     have hr:=(zG5 _ _ _ _ _ _ hl).lt
     have hkk:=hkK (by rw [hs];exact fun q=>by cases q)
     have e:=hnx _ hs
     have cp:=zOs G hG (N+1) w (m+1) t.rows t.den t.basis r (zCb m w t) E hn hm hrow hN kK kK kK hd hB1 hB2 hE
     refine rn1 ?_
     refine zCw Z Z Z cp (fun _ h=>h) (fun _ h=>h) ?_
     rintro r' H' ⟨rfl,rfl⟩
     refine rn5 ?_
     exact zI ⟨k+1,kK,kK,⟨Z,trivial⟩,by rw [e];rfl⟩
section
variable {G:zO}{F:Option AObj}{L w k:Nat}{X:Tab}{d:Int}{β:List Nat}{T:zO}
theorem zHH (o:Option AObj):(zg G F L w k X d β (T++[o]))[G.length+4+X.length+T.length]? =some o:=by
 rw [zAl,List.getElem?_append_right (Nat.le_refl _),Nat.sub_self];rfl
theorem zDI (o o':Option AObj):(zg G F L w k X d β (T++[o])).set (G.length+4+X.length+T.length) o'=zg G F L w k X d β (T++[o']):=by
 rw [zAW]
 congr 1
 rw [List.set_append_right _ _ (Nat.le_refl _),Nat.sub_self];rfl
end
theorem q_ok (G:zO)(hG:OkG G)(L w k:Nat)(X:Tab)(d:Int)(β:List Nat)(T:zO)(hT: ∀o:AObj,some o∈T→zBM (zg G none L w k X d β T).length o.c)(x:Int)(hd:d≠0)(hx:(zW x.natAbs).length≤1000000)(hdl:(zW d.natAbs).length≤1000000):
 zU Tryz.prog 207 [.ptr G.length 0 0,zBF x] (zg G none L w k X d β T) (fun h=>h<(zg G none L w k X d β T).length)
  (fun r' H'=>r'=qA (Rat.divInt x d)∧H'=zg G none L w k X d β T):=by
 have hlen:(zg G none L w k X d β T).length=G.length+4+X.length+T.length:=zBP
 refine zU.cutR (K:=fun r' H'=>r'=qA (Rat.divInt x d)∧ ∃H1,H'=zg G none L w k X d β T++H1) ?_ (fun r' H' h=> ?_)
 ·refine zF (P:=Tryz.prog) (fn:=Tryz.f207) Z Z kQ Z (fun c hR hfix=> ?_)
  have cf:=zG0 x d hd hx hdl
  refine rn6 ?_
  refine zAs (zg G none L w k X d β (T++[some ⟨116,.box (zo x)⟩]++[some ⟨118,.box [.bool false,.nil,.nil]⟩])) (by rw [zAk,zAk];rfl) ?_
  refine zv 3 (.ptr (G.length+4+X.length+T.length) 0 0) Z (AEq.of_eq (by rw [hlen])) ?_
  refine zv 4 (.ptr (G.length+4+X.length+(T++[some (⟨116,.box (zo x)⟩:AObj)]).length) 0 0) Z (AEq.of_eq (by rw [zAk,zBP];rfl)) ?_
  have f1:=zBH (G:=G) (F:=none) (L:=L) (w:=w) (k:=k) (X:=X) (d:=d) (β:=β) (T:=T++[some ⟨116,.box (zo x)⟩]++[some ⟨118,.box [.bool false,.nil,.nil]⟩])
  have f2:=zAl (G:=G) (F:=none) (L:=L) (w:=w) (k:=k) (X:=X) (d:=d) (β:=β) (T:=T++([some ⟨116,.box (zo x)⟩]++[some ⟨118,.box [.bool false,.nil,.nil]⟩])) T.length
  rw [List.getElem?_append_right (Nat.le_refl _),Nat.sub_self] at f2
  rw [←List.append_assoc] at f2
  have f3:=zHH (G:=G) (F:=none) (L:=L) (w:=w) (k:=k) (X:=X) (d:=d) (β:=β) (T:=T++[some ⟨116,.box (zo x)⟩]) (some ⟨118,.box [.bool false,.nil,.nil]⟩)
  have f2:(zg G none L w k X d β (T++[some ⟨116,.box (zo x)⟩]++[some ⟨118,.box [.bool false,.nil,.nil]⟩]))[G.length+4+X.length+T.length]? =some (some (⟨116,.box (zo x)⟩:AObj)):=f2
  refine zZ kQ ?_
  refine zj (fuel:=1) [0,1,2,3,4,5] [(0,.ptr G.length 0 0),(3,.ptr (G.length+4+X.length+T.length) 0 0),(4,.ptr (G.length+4+X.length+(T++[some (⟨116,.box (zo x)⟩:AObj)]).length) 0 0)] ⟨Z,Z,Z,trivial⟩ kQ kV Z Z ?_
  refine zK Z Z (qas Z Z Z Z) ?_
  refine zK Z Z (zH Z) ?_
  refine zK Z Z (zh Z) ?_
  refine zK Z Z (zN Z Z Z Z Z Z) ?_
  refine zK Z Z (qps Z Z Z Z) ?_
  refine zAy Z Z Z Z Z cf ?_
  refine zz ?_
  unfold qA
  refine zD (is:=[6]) kQ kJ Z ⟨fun o ho=> ?_,trivial⟩
  all_goals (cases ho)
  refine zt (c':= .box (zJ (Rat.divInt x d))) Z Z Z f3 Z Nat.zero_lt_one Z Z (fun i' j' hi' hj'=> ?_) ?_
  ·rw [if_pos (Nat.lt_one_iff.1 hi')];rfl
  refine zQ (zg G none L w k X d β (T++[some ⟨116,.box (zo x)⟩]++[some ⟨118,.box (zJ (Rat.divInt x d))⟩])) (zDI _ _) ?_
  have f4:=zHH (G:=G) (F:=none) (L:=L) (w:=w) (k:=k) (X:=X) (d:=d) (β:=β) (T:=T++[some ⟨116,.box (zo x)⟩]) (some ⟨118,.box (zJ (Rat.divInt x d))⟩)
  refine rn1 ?_
  refine zT kQ (rn0 ?_)
  exact zM hR (zGt Z f4 Z Z Z) ⟨Z,_,by rw [zAk,List.append_assoc]⟩
 ·obtain ⟨rfl,H1,rfl⟩:=h
  exact ⟨_,H1,rfl,fun h hh=>hh,zCi hG _ kK (fun o ho=>by cases ho) hT,rfl,rfl,rfl⟩
end Go.Proofs.YtmpnheilfejcpaaGreatDoor
namespace Go.Proofs.YtmpnheilfejcpaaGreatDoor
open Go.Ax Go.Ax.Bg Go.Ax.Rt Go.RowKit Go.Ax.Dt Go.Ax.Sx
theorem zI5 {A:zO}{t:TypeId}{n:Nat}: ∀(h:Nat) (o':AObj),(A++[some ⟨t,zC (List.replicate n 0)⟩])[h]? =some (some o')→ ∃o:AObj,(A++[some ⟨t,zAr n [.bool false,.nil]⟩])[h]? =some (some o)∧o'.ty=o.ty∧o'.c.len=o.c.len∧o'.c.kd=o.c.kd∧ ∀i j,i<o.c.len→j<o.c.sz→AEq (o.c.at i j) (o'.c.at i j):=by
 intro h o' ho'
 by_cases hl:h<A.length
 ·rw [List.getElem?_append_left hl] at ho'
  refine ⟨o',by rw [List.getElem?_append_left hl];exact ho',Z,Z,Z,fun i j _ _=>AEq.of_eq Z⟩
 ·have hh:h=A.length:=by
   have h1:=(List.getElem?_eq_some_iff.1 ho').1
   rw [List.length_append] at h1
   have h1:h<A.length+1:=h1
   omega
  subst hh
  rw [List.getElem?_append_right (Nat.le_refl _),Nat.sub_self] at ho'
  cases ho'
  refine ⟨⟨t,zAr n [.bool false,.nil]⟩,by rw [List.getElem?_append_right (Nat.le_refl _),Nat.sub_self];rfl,Z,?_,Z,fun i j hi hj=> ?_⟩
  ·simp [zC9,Cells.len,zAr]
  ·have hi:i<n:=by simpa [Cells.len,zAr] using hi
   have hj:j<2:=hj
   show AEq _ ((zo ((List.replicate n (0:Int)).getD i 0)).getD j .any)
   rw [zCC 0 (by simpa using hi),List.getElem_replicate]
   match j,hj with
   |0,_=>exact AEq.of_eq rfl
   |1,_=>exact AEq.natNil
theorem zP.set {H H':zO}(hs:zP H H')(h:Nat){x x':Option AObj}(hx: ∀o',x'=some o'→ ∃o,x=some o∧o'.ty=o.ty∧CEq o.c o'.c):zP (H.set h x) (H'.set h x'):=by
 refine ⟨by rw [List.length_set,List.length_set,hs.1],fun i o' ho'=> ?_⟩
 rw [List.getElem?_set] at ho'⊢
 by_cases e:h=i
 ·rw [if_pos e] at ho'⊢
  split at ho'
  ·rename_i hl
   rw [if_pos (by rw [←hs.1];exact hl)]
   cases ho'
   obtain ⟨o,h1,h2⟩:=hx o' rfl
   exact ⟨o,by rw [h1],h2⟩
  ·cases ho'
 ·rw [if_neg e] at ho'⊢
  exact hs.2 i o' ho'
theorem zP.trans' {A B C:zO}(h1:zP A B)(h2:zP B C):zP A C:=by
 refine ⟨h2.1.trans h1.1,fun h o ho=> ?_⟩
 obtain ⟨o1,g1,g2,g3⟩:=h2.2 h o ho
 obtain ⟨o2,k1,k2,k3⟩:=h1.2 h o1 g1
 refine ⟨o2,k1,g2.trans k2,?_⟩
 obtain ⟨a1,a2,a3⟩:=k3
 obtain ⟨b1,b2,b3⟩:=g3
 exact ⟨b1.trans a1,b2.trans a2,fun i j hi hj=>(b3 i j (by rw [a1];exact hi) (by rw [zMe a2];exact hj)).trans (a3 i j hi hj)⟩
abbrev zLn (G:zO)(L w:Nat)(X:Tab)(d:Int)(β:List Nat)(T:zO):zO:=
 G++(some ⟨249,.box [.any,.bool (decide (d<0)),zm d.natAbs,.sl (G.length+2) 0 β.length,iN w]⟩::none::some ⟨3,zCJ β⟩::zAx ⟨243,zBz G.length X.length L⟩ 116 zC X T)
theorem zQb {G:zO}{L w:Nat}{X:Tab}{d:Int}{β:List Nat}{T:zO}:(zLn G L w X d β T)[G.length]? =some (some ⟨249,.box [.any,.bool (decide (d<0)),zm d.natAbs,.sl (G.length+2) 0 β.length,iN w]⟩):=zEc (i:=0) rfl
theorem zQd {G:zO}{L w k:Nat}{X:Tab}{d:Int}{β:List Nat}{T:zO}:(zLn G L w X d β T).set G.length (some ⟨249,zEN G.length k β.length w d⟩)=zg G none L w k X d β T:=zCU (i:=0) _ rfl
theorem zJ3 {α:Type}{O:AObj}{t:TypeId}{f:α→Cells}{X:List α}{x:α}{T:zO}:zAx O t f X (some ⟨t,f x⟩::T)=zAx O t f (X++[x]) T:=by
 unfold zAx
 congr 1
 show zCe t f X++([some ⟨t,f x⟩]++T)=_
 rw [←List.append_assoc,zQB]
theorem zM8 {G:zO}{L w k:Nat}{X:Tab}{x:List Int}{d:Int}{β:List Nat}{a:Option AObj}{c':Cells}(hG:zp (G.length+3) G=G)(hc:CEq c' (zBz G.length (X.length+1) L)):
 zP ((zp (G.length+3) (zg G none L w k X d β [some ⟨116,zC x⟩,a])).set (G.length+3) (some ⟨243,c'⟩)) (zLn G L w (X++[x]) d β [none]):=by
 unfold zg
 rw [zDn,hG]
 have e:zp (G.length+3) (some (⟨249,zEN G.length k β.length w d⟩:AObj)::none::some ⟨3,zCJ β⟩::zAx ⟨243,zBz G.length X.length L⟩ 116 zC X [some ⟨116,zC x⟩,a])
  =some ⟨249,.box [.any,.bool (decide (d<0)),zm d.natAbs,.sl (G.length+2) 0 β.length,iN w]⟩::none::some ⟨3,zCJ β⟩::zAx ⟨243,(zBz G.length X.length L).forget (G.length+3)⟩ 116 zC X (zp (G.length+3) [some ⟨116,zC x⟩,a]):=by
  show some (⟨_,Cells.box (AV.forgets _ _)⟩:AObj)::none::some (⟨_,zCJ β⟩:AObj)::zp (G.length+3) (zAx _ _ _ X _)=_
  rw [zEo (G.length+3) (zBZ (G.length+3))]
  simp [AV.forgets,AV.forget,zm,z7]
 rw [e]
 refine zP.trans' (B:=G++(some ⟨249,.box [.any,.bool (decide (d<0)),zm d.natAbs,.sl (G.length+2) 0 β.length,iN w]⟩::none::some ⟨3,zCJ β⟩::zAx ⟨243,c'⟩ 116 zC X (zp (G.length+3) [some ⟨116,zC x⟩,a]))) ?_ ?_
 ·rw [show (G++(some (⟨249,.box [.any,.bool (decide (d<0)),zm d.natAbs,.sl (G.length+2) 0 β.length,iN w]⟩:AObj)::none::some ⟨3,zCJ β⟩::zAx ⟨243,(zBz G.length X.length L).forget (G.length+3)⟩ 116 zC X (zp (G.length+3) [some ⟨116,zC x⟩,a]))).set (G.length+3) (some ⟨243,c'⟩)=_ from zCU (i:=3) _ rfl]
  exact zP.refl _
 ·refine zP.append (zP.refl _) (zP.same (zP.same (zP.same ?_)))
  have hl:zp (G.length+3) [some (⟨116,zC x⟩:AObj),a]=[some ⟨116,zC x⟩,zA3 (G.length+3) a]:=by
   show [some (⟨116,(zC x).forget _⟩:AObj),_]=_
   rw [zBZ]
  rw [hl,zJ3]
  refine zHl ⟨Z,?_⟩ (zP.drop zP.nil)
  show CEq c' (zBz G.length (X++[x]).length L)
  rw [List.length_append];exact hc
theorem zFU (b n L:Nat)(cx:Cells)(h0:cx.at 0 0= .sl (b+4+n) 0 L):CEq (.fn (n+1) 1 (fun i j=>bif Nat.blt i n then (zBz b n L).at i j else cx.at (0+(i-n)) j)) (zBz b (n+1) L):=by
 refine ⟨Z,Z,fun i j hi hj=> ?_⟩
 obtain rfl:=Nat.lt_one_iff.1 (show j<1 from hj)
 have hi:i<n+1:=hi
 show AV.sl (b+4+i) 0 L=bif Nat.blt i n then AV.sl (b+4+i) 0 L else cx.at (0+(i-n)) 0
 by_cases e:i<n
 ·rw [show Nat.blt i n=true from Nat.ble_eq_true_of_le e];rfl
 ·have e2:i=n:=kK
  subst e2
  rw [show Nat.blt i i=false by
   cases h:Nat.blt i i with
   |false=>rfl
   |true=>exact absurd (Nat.le_of_ble_eq_true h) (Nat.not_succ_le_self i)]
  rw [Nat.sub_self,Nat.add_zero]
  exact h0.symm
theorem zJd {H:zO}{h i m:Nat}{o:AObj}(hh:H[h]? =some (some o)):zMy H (.sl h i m)=some (o.c,i,m):=by
 simp only [zMy,hh]
theorem zKD {G:zO}{L w k:Nat}{X:Tab}{d:Int}{β:List Nat}{T T':zO}(h:Nat)(hG:zp h G=G)(hh:G.length+4+X.length≤h)(hT:zP (zp h T) T'):
 zP (zp h (zg G none L w k X d β T)) (zg G none L w k X d β T'):=by
 unfold zg
 rw [zDn,hG]
 refine zP.append (zP.refl _) ?_
 have e:zp h (some (⟨249,zEN G.length k β.length w d⟩:AObj)::none::some ⟨3,zCJ β⟩::zAx ⟨243,zBz G.length X.length L⟩ 116 zC X T)
  =some ⟨249,zEN G.length k β.length w d⟩::none::some ⟨3,zCJ β⟩::zAx ⟨243,(zBz G.length X.length L).forget h⟩ 116 zC X (zp h T):=by
  show some (⟨_,Cells.box (AV.forgets _ _)⟩:AObj)::none::some (⟨_,zCJ β⟩:AObj)::zp h (zAx _ _ _ X _)=_
  rw [zEo h (zBZ h)]
  simp [AV.forgets,AV.forget,zm,z7 (show G.length+3≠h by omega),z7 (show G.length+2≠h by omega)]
 rw [e]
 refine zP.same (zP.same (zP.same (zHl ⟨Z,Z,Z,fun i j hi hj=> ?_⟩ hT)))
 obtain rfl:=Nat.lt_one_iff.1 (show j<1 from hj)
 have hi:i<X.length:=hi
 show AV.sl (G.length+4+i) 0 L=AV.forget h (AV.sl (G.length+4+i) 0 L)
 unfold AV.forget
 rw [z7 (show G.length+4+i≠h by omega)];rfl
theorem zMA {G:zO}{L w k:Nat}{X:Tab}{d:Int}{β:List Nat}{y:Option AObj}{t:TypeId}{c' c'':Cells}(hG:zp (G.length+4+X.length) G=G)(hc:CEq c' c''):
 zP ((zp (G.length+4+X.length) (zg G none L w k X d β [y])).set (G.length+4+X.length) (some ⟨t,c'⟩)) (zg G none L w k X d β [some ⟨t,c''⟩]):=by
 have e:zg G none L w k X d β [some ⟨t,c''⟩]=(zg G none L w k X d β [none]).set (G.length+4+X.length) (some ⟨t,c''⟩):=by
  have q:=zAW (G:=G) (F:=none) (L:=L) (w:=w) (k:=k) (X:=X) (d:=d) (β:=β) (T:=[none]) 0 (some ⟨t,c''⟩)
  exact q.symm
 rw [e]
 exact zP.set (zKD (T:=[y]) (T':=[none]) _ hG (Nat.le_refl _) (show zP [zA3 _ y] [none] from zP.drop zP.nil)) _ (fun o ho=>by cases ho;exact ⟨_,rfl,rfl,hc⟩)
theorem zS2 {X:Tab}{m:Nat}(h:X.length=m+1):X.take m++[X.getD m []]=X:=by
 apply List.ext_getElem (by rw [List.length_append,List.length_take,h];show min m (m+1)+1=m+1;omega)
 intro i h1 h2
 by_cases e:i<m
 ·rw [List.getElem_append_left (by rw [List.length_take];omega),List.getElem_take]
 ·have e2:i=m:=kK
  subst e2
  rw [List.getElem_append_right (by rw [List.length_take];omega)]
  simp [List.getD,h]
theorem tb_trunc {G:zO}{L w k m:Nat}{X:Tab}{d:Int}{β:List Nat}(h:X.length=m+1):
 (zg G none L w k X d β []).set (G.length+3) (some ⟨243,zBz G.length m L⟩)=zg G none L w k (X.take m) d β [some ⟨116,zC (X.getD m [])⟩]:=by
 refine (zCU (i:=3) _ Z).trans ?_
 show G++(_::_::_::zAx ⟨_,zBz G.length m L⟩ _ _ X [])=_
 have hl:(X.take m).length=m:=by rw [List.length_take,h];omega
 unfold zg
 rw [zJ3,zS2 h,hl]
end Go.Proofs.YtmpnheilfejcpaaGreatDoor
namespace Go.Proofs.YtmpnheilfejcpaaGreatDoor
open Go.Ax Go.Ax.Bg Go.Ax.Rt Go.RowKit Go.Ax.Dt Go.Ax.Sx
attribute [local irreducible] Ax zB2 QOp zU zBV
abbrev nsC (l:List Nat):Cells:=zC9 0 1 (fun n:Nat=>[zm n]) l
def zKE (y:List Rat)(f:List Nat)(k:Nat):List Rat:=(List.range k).map (fun i=>y.getD i 0*((f.getD i 0:Nat):Rat))
theorem zS6 (y:List Rat)(f:List Nat)(k:Nat):zKE y f (k+1)=zKE y f k++[y.getD k 0*((f.getD k 0:Nat):Rat)]:=by
 unfold zKE
 rw [List.range_succ,List.map_append];rfl
theorem zPP (y:List Rat)(f:List Nat)(k:Nat):(zKE y f k).length=k:=by simp [zKE]
theorem qA_nat (n:Nat):qA ((n:Nat):Rat)= .agg [.bool false,zm n,zm 1]:=by
 unfold qA
 have h1:((n:Nat):Rat).num=(n:Int):=rfl
 have h2:((n:Nat):Rat).den=1:=rfl
 rw [h1,h2,Int.natAbs_natCast,decide_eq_false kK]
theorem belowQ (l:List Rat)(n:Nat):zBM n (qsC l):=by
 intro i j _ hj
 show zCV n ((zJ (l.getD i 0)).getD j .any)=true
 have hj:j<3:=hj
 match j,hj with
 |0,_=>rfl
 |1,_=>rfl
 |2,_=>rfl
theorem zLy (y:List Rat)(f:List Nat)(K:Nat)(hl:y.length=f.length)(hy40:y.length≤1000000)(hy: ∀q∈y,D K q)(hf: ∀n∈f,n<10^K)(hK:K≤895000):
 zX Tryz.prog 173 [.ro (qsC y) 0 y.length,.ro (nsC f) 0 f.length] (.ro (qsC (zKE y f y.length)) 0 y.length):=by
 have c1:=zHu 1 kV
 refine zU.value (K:=fun r H=>r= .sl 0 0 y.length∧H=[some ⟨118,qsC (zKE y f y.length)⟩]) (zF (P:=Tryz.prog) (fn:=Tryz.f173) Z Z kQ Z (fun c hR hfix=> ?_)) (fix:=fun _=>False) (fun _ h=>h) Z ?_
 ·refine rn8 ?_
  refine zAg 5 ⟨118,qsC (zKE y f 0)⟩ Z Z ?_
  repeat (refine zAJ ?_)
  refine zb (ι:=Nat) (fun k=>[(1,.ro (nsC f) 0 f.length),(5,.sl 0 0 k),(8,.ro (qsC y) 0 y.length),(9,iN y.length),(10,iN k)]) (fun k=>[some ⟨118,qsC (zKE y f k)⟩])
   (fun k=>k≤y.length) (fun k=>y.length-k) 0 ⟨⟨rfl,rfl,rfl,rfl,rfl,trivial⟩,rfl,Nat.zero_le _⟩ ?_
  intro k hk
  refine rn4 ?_
  refine zB Z (fun h=> ?_) (fun h=> ?_)
  ·have hk':k<y.length:=kK
   have hkf:k<f.length:=kK
   have hs:=zS6 y f k
   have hul:=zPP y f k
   have hDy:=hy _ (z8 0 hk')
   have hDf:D (K+1) ((f.getD k 0:Nat):Rat):=nat_D (Nat.le_of_lt (hf _ (z8 0 hkf)))
   have cm:=zRP (y.getD k 0) ((f.getD k 0:Nat):Rat) (zBj (hDy.mono kK)) (zBj (hDf.mono kK))
   rw [qA_nat] at cm
   generalize hU2:zKE y f (k+1)=U2 at*
   generalize zKE y f k=U at*
   refine rn6 ?_
   refine zQ [some ⟨118,qsC U⟩,some ⟨118,.box [.bool false,.nil,.nil]⟩] Z ?_
   refine zE 7 (.ptr 1 0 0) Z (AEq.of_eq Z) ?_
   refine zE 14 (.agg (zJ (y.getD k 0))) Z (AEq.of_eq Z) ?_
   refine sa1 (c':= .box (zJ (y.getD k 0))) Z Z Z Z Z Z Z (rn0 ?_)
   refine zAs [some ⟨118,qsC U⟩,some ⟨118,.box (zJ (y.getD k 0))⟩] Z ?_
   refine zZ kQ ?_
   refine zR 0 Z kQ kQ kQ Z (zH Z) Z ?_
   refine zDB (fuel:=3) [1,2,3,4,5,6,7,8,9] [(15,.sl 0 0 k),(1,.ro (nsC f) 0 f.length),(5,.sl 0 0 k),(8,.ro (qsC y) 0 y.length),(9,iN y.length),(10,iN k),(6,iN k),(7,.ptr 1 0 0)] ⟨Z,Z,Z,Z,Z,Z,Z,Z,trivial⟩ kQ kV Z Z ?_
   refine zK Z Z (qpp Z Z Z Z Z Z Z) ?_
   refine zK Z Z (zH Z) ?_
   refine zK Z Z (zH Z) ?_
   refine zK Z Z (zc Z Z Z Z (by first|(simp only [Nat.zero_add,Int.toNat_natCast,Int.toNat_zero];exact Z)|exact Z) kK) ?_
   refine zK Z Z (zBp Z Z Z Z) ?_
   refine zK Z Z (zBT Z Z Z Z Z Z) ?_
   refine zAy Z Z Z Z Z c1 ?_
   refine zK Z Z (zBT Z Z Z Z Z Z) ?_
   refine zAy Z Z Z Z Z cm ?_
   refine zz ?_
   unfold qA
   refine zD (is:=[10]) kQ kJ Z ⟨fun o ho=> ?_,trivial⟩
   all_goals (cases ho)
   refine rn3 ?_
   refine zD (is:=[11]) kQ kJ Z ⟨fun o ho=> ?_,trivial⟩
   all_goals (cases ho)
   refine zq Z Z Z Z Z Z Z Z Z hul Z Z (by show 0+1≤1;omega) Z (by show (k+1)*56≤_∧_;omega) ?_ (by rw [hfix];exact fun h=>h) ?_
   ·intro i' j hi hj
    exact zAM 0 3 zJ zu U _ _ (zBi _) 0 i' j hi hj
   refine zAD [some ⟨118,qsC U2⟩,some ⟨118,.box (zJ (y.getD k 0))⟩] ?_ ?_
   ·rw [hs]
    exact zP.eqv (zAV 0 3 zJ U _ _ (zBi _)) (zP.eqv (CEq.refl _) zP.nil)
   refine rn1 ?_
   refine zR 12 Z kQ kQ kQ Z (zf Z) Z ?_
   refine zT kQ ?_
   repeat (refine zAP ?_)
   refine zG ?_
   refine zBS [some ⟨118,qsC U2⟩] [some ⟨118,.box (zJ (y.getD k 0))⟩] [(1,.ro (nsC f) 0 f.length),(5,.sl 0 0 (k+1)),(8,.ro (qsC y) 0 y.length),(9,iN y.length),(10,iN k)] Z ⟨Z,Z,Z,Z,Z,trivial⟩ (fun h hh=>by rw [hfix] at hh;exact hh.elim) (fun h o ho=>by
    match h,ho with
    |0,ho=>cases ho;exact belowQ U2 _) rfl ?_
   refine rn3 ?_
   exact zI ⟨k+1,kK,kK,⟨Z,Z,Z,Z,Z,trivial⟩,by rw [hU2]⟩
  ·have hke:k=y.length:=kK
   subst hke
   refine rn5 ?_
   exact zM hR Z ⟨Z,Z⟩
 ·rintro r H ⟨rfl,rfl⟩
  exact ⟨rfl,fun o ho=>by simp at ho;subst ho;exact Nat.le_of_eq (by simp [Cells.len,zC9,zPP]),zJb (zAT _)⟩
theorem zFW {α:Type}(d:α)(n:Nat)(e:α→List AV)(a b:List α):CEq (.fn (a.length+b.length) n (fun i j=>bif Nat.blt i a.length then (zC9 d n e a).at i j else (zC9 d n e b).at (0+(i-a.length)) j)) (zC9 d n e (a++b)):=by
 refine ⟨by simp [zC9,Cells.len],Z,fun i j hi hj=> ?_⟩
 show (e ((a++b).getD i d)).getD j .any=bif Nat.blt i a.length then (e (a.getD i d)).getD j .any else (e (b.getD (0+(i-a.length)) d)).getD j .any
 by_cases h:i<a.length
 ·rw [show Nat.blt i a.length=true from Nat.ble_eq_true_of_le h,zKg d h];rfl
 ·have h2:Nat.blt i a.length=false:=by
   cases e:Nat.blt i a.length with
   |false=>rfl
   |true=>(have:i+1≤a.length:=Nat.le_of_ble_eq_true e;omega)
  rw [h2,Nat.zero_add]
  have:(a++b).getD i d=b.getD (i-a.length) d:=by
   simp only [List.getD]
   rw [List.getElem?_append_right kK]
  rw [this];rfl
theorem cloneQ (l:List Rat)(hl:l.length≤1000000):zNw Tryz.prog 206 [.ro (qsC l) 0 l.length] (fun N=> .sl N 0 l.length) ⟨118,qsC l⟩:=by
 refine zU.fresh (K:=fun r H=>r= .sl 0 0 l.length∧H=[some ⟨118,qsC l⟩]) (zF (P:=Tryz.prog) (fn:=Tryz.f206) Z Z kQ Z (fun c hR hfix=> ?_)) (fix:=fun _=>False) (fun _ h=>h) Z (fun H=>⟨Z,by simp [zJO,inB]⟩) ?_
 ·refine rn0 ?_
  refine zN7 Z Z Z (fun b hb=> ?_)
  refine rn0 ?_
  refine zD7 Z (fun h=> ?_) (fun h=> ?_)
  ·have:=hb h
   have hn:l=[]:=List.length_eq_zero_iff.mp this
   subst hn
   refine rn7 ?_
   refine zAg 2 ⟨118,qsC []⟩ Z Z (rn2 ?_)
   exact zM hR Z ⟨Z,Z⟩
  ·refine rn1 ?_
   refine zC2 Z Z Z Z Z Z Z Z Z Z ?_
   refine zAD [some ⟨118,qsC []⟩] (zP.eqv ⟨Z,Z,fun i j hi=>absurd hi (Nat.not_lt_zero _)⟩ zP.nil) ?_
   repeat (refine zL (zH rfl) ?_)
   refine zq Z Z Z Z Z Z Z Z Z Z Z Z (by show 0+l.length≤l.length;omega) Z (by show (0+l.length)*56≤_∧_;omega) ?_ (by rw [hfix];exact fun h=>h) ?_
   ·intro i' j' hi' hj'
    have q:=(zFW 0 3 zJ [] l).2.2 i' j' hi' hj'
    refine (congrArg (AV.forget 0) q.symm).trans (Eq.trans ?_ q)
    exact zu _ j' 0 hj'
   refine zAD [some ⟨118,qsC l⟩] (zP.eqv (zFW 0 3 zJ [] l) zP.nil) (rn0 ?_)
   refine zM hR Z ⟨?_,Z⟩
   show AV.sl 0 0 (0+l.length)=_;rw [Nat.zero_add]
 ·rintro r H ⟨rfl,rfl⟩
  refine ⟨?_,fun h o ho=>zJb (zAT _) h o ho,0,Z,fun n=>rfl⟩
  intro o ho;simp at ho;subst ho;show 0+l.length≤l.length;omega
theorem zIR (N:Nat)(a:List Int):(zC a).shift N=zC a:=by
 show Cells.fn _ _ _=Cells.fn _ _ _
 congr 1
 funext i j
 match j with
 |0=>rfl
 |1=>rfl
 |_+2=>rfl
theorem zNy (l:List Rat)(K:Nat)(hD: ∀q∈l,D K q)(hlen:l.length≤1000)(hK:K*l.length+K≤900000):
 zNx Tryz.prog 174 [.ro (qsC l) 0 l.length] (.tup [.sl 0 0 l.length,zm (zDD 1 l)]) [some ⟨116,zC (zAt l)⟩]:=by
 have c1:=zTB l K hD hlen hK
 refine zU.many (zF (P:=Tryz.prog) (fn:=Tryz.f174) Z Z kQ Z (fun c hR hfix=> ?_)) (fix:=fun _=>False) (fun _ h=>h) Z
 refine rn0 ?_
 refine zGQ (.tup [.sl 0 0 l.length,zm (zDD 1 l)]) [some ⟨116,zC (zAt l)⟩] Z Z Z c1 Z (by show []++[some (⟨_,(zC (zAt l)).shift 0⟩:AObj)]=_;rw [zIR];rfl) (rn2 ?_)
 exact zM hR Z ⟨Z,Z⟩
theorem zLL (B:List Rat)(i:Nat)(hi:(B.getD i 0).num<0): ∀d,∃r,zAf B (i+1+d)=zAf B i++i::r
 |0=>⟨[],by show zAf B (i+1)=_;rw [zAf,if_pos hi]⟩
 |d+1=>by
  obtain ⟨r,hr⟩:=zLL B i hi d
  show∃r,zAf B (i+1+d+1)=_
  rw [zAf]
  split
  ·exact ⟨r++[i+1+d],by rw [hr];simp⟩
  ·exact ⟨r,hr⟩
theorem need_idx (B:List Rat){i m:Nat}(hi:i<m):Go.Ax.Idx.idxF (Go.Ax.Cd.eqp (i:Int)) ((zAf B m).map (fun a:Nat=>(a:Int)))=if (B.getD i 0).num<0 then ((zBt B i:Nat):Int) else-1:=by
 have hany: ∀l:List Nat,i∉l→(l.map (fun a:Nat=>(a:Int))).any (Go.Ax.Cd.eqp (i:Int))=false:=by
  intro l hl
  rw [List.any_eq_false]
  intro x hx
  obtain ⟨a,ha,rfl⟩:=List.mem_map.1 hx
  simp only [Go.Ax.Cd.eqp,decide_eq_true_eq]
  intro e
  have:i=a:=kK
  exact hl (this▸ha)
 by_cases h:(B.getD i 0).num<0
 ·rw [if_pos h]
  obtain ⟨r,hr⟩:=zLL B i h (m-(i+1))
  rw [show i+1+(m-(i+1))=m by omega] at hr
  have hni:i∉zAf B i:=fun q=>absurd (zJS.1 q).1 (Nat.lt_irrefl i)
  have hl:(zAf B i).length≤((zAf B m).map (fun a:Nat=>(a:Int))).length:=by rw [hr];simp
  have ht:((zAf B m).map (fun a:Nat=>(a:Int))).take (zAf B i).length=(zAf B i).map (fun a:Nat=>(a:Int)):=by rw [hr,List.map_append,List.take_left' kJ]
  have hd:((zAf B m).map (fun a:Nat=>(a:Int))).drop (zAf B i).length=(i:Int)::r.map (fun a:Nat=>(a:Int)):=by rw [hr,List.map_append,List.drop_left' kJ];rfl
  rw [Go.Ax.Idx.idxF_take _ _ (zAf B i).length (by rw [ht];exact hany _ hni) hl,hd]
  have e0:Go.Ax.Idx.idxF (Go.Ax.Cd.eqp (i:Int)) ((i:Int)::r.map (fun a:Nat=>(a:Int)))=0:=by
   rw [Go.Ax.Idx.idxF,if_pos (by simp [Go.Ax.Cd.eqp])]
  rw [e0,if_neg kK]
  show (0:Int)+((zAf B i).length:Nat)=_
  rw [Int.zero_add]
 ·rw [if_neg h]
  have hni:i∉zAf B m:=fun q=>h (zJS.1 q).2
  rw [Go.Ax.Idx.idxF_take _ _ ((zAf B m).map (fun a:Nat=>(a:Int))).length (by rw [List.take_length];exact hany _ hni) (Nat.le_refl _),List.drop_length]
  rfl
section
variable {G:zO}{F:Option AObj}{L w k:Nat}{X:Tab}{d:Int}{β:List Nat}{T T':zO}
abbrev zKs (G:zO)(F:Option AObj)(L w:Nat)(X:Tab)(d:Int)(β:List Nat)(T:zO):zO:=
 G++(some ⟨249,.box [.any,.bool (decide (d<0)),zm d.natAbs,.sl (G.length+2) 0 β.length,iN w]⟩::F::some ⟨3,zCJ β⟩::zAx ⟨243,zBz G.length X.length L⟩ 116 zC X T)
theorem anyF_box:(zKs G F L w X d β T)[G.length]? =some (some ⟨249,.box [.any,.bool (decide (d<0)),zm d.natAbs,.sl (G.length+2) 0 β.length,iN w]⟩):=zEc (i:=0) rfl
theorem anyF_set:(zKs G F L w X d β T).set G.length (some ⟨249,zEN G.length k β.length w d⟩)=zg G F L w k X d β T:=zCU (i:=0) _ rfl
abbrev zLo (G:zO)(F:Option AObj)(L w k:Nat)(X:Tab)(d:Int)(β:List Nat)(T:zO):zO:=
 G++(some ⟨249,.box [.sl (G.length+3) 0 k,.bool (decide (d<0)),zm d.natAbs,.any,iN w]⟩::F::some ⟨3,zCJ β⟩::zAx ⟨243,zBz G.length X.length L⟩ 116 zC X T)
theorem bas_box:(zLo G F L w k X d β T)[G.length]? =some (some ⟨249,.box [.sl (G.length+3) 0 k,.bool (decide (d<0)),zm d.natAbs,.any,iN w]⟩):=zEc (i:=0) rfl
theorem bas_set:(zLo G F L w k X d β T).set G.length (some ⟨249,zEN G.length k β.length w d⟩)=zg G F L w k X d β T:=zCU (i:=0) _ rfl
theorem zQ4 (h:Nat)(B:Cells)(hG:zp h G=G)(hF:zA3 h F=F){O:Cells}(hO:CEq (O.forget h) O)(hT:zP (zp h T) T'):
 zP (zp h (G++(some ⟨249,B⟩::F::some ⟨3,zCJ β⟩::zAx ⟨243,O⟩ 116 zC X T))) (G++(some ⟨249,B.forget h⟩::F::some ⟨3,zCJ β⟩::zAx ⟨243,O⟩ 116 zC X T')):=by
 rw [zDn,hG]
 refine zP.append (zP.refl _) ?_
 have e:zp h (some (⟨249,B⟩:AObj)::F::some ⟨3,zCJ β⟩::zAx ⟨243,O⟩ 116 zC X T)
  =some ⟨249,B.forget h⟩::F::some ⟨3,zCJ β⟩::zAx ⟨243,O.forget h⟩ 116 zC X (zp h T):=by
  show some (⟨_,B.forget h⟩:AObj)::zA3 h F::some (⟨_,zCJ β⟩:AObj)::zp h (zAx _ _ _ X _)=_
  rw [zEo h (zBZ h),hF]
 rw [e]
 exact zP.same (zP.same (zP.same (zHl ⟨Z,hO⟩ hT)))
theorem zNi (b n L h:Nat)(hh:b+4+n≤h∨h<b+4):CEq ((zBz b n L).forget h) (zBz b n L):=by
 refine ⟨Z,Z,fun i j hi hj=> ?_⟩
 obtain rfl:=Nat.lt_one_iff.1 (show j<1 from hj)
 have hi:i<n:=hi
 show AV.sl (b+4+i) 0 L=AV.forget h (AV.sl (b+4+i) 0 L)
 unfold AV.forget
 rw [z7 (show b+4+i≠h by omega)];rfl
theorem zRe (b k m w h:Nat)(d:Int)(h1:b+3≠h)(h2:b+2≠h):(zEN b k m w d).forget h=zEN b k m w d:=by
 show Cells.box (AV.forgets h _)=_
 simp [AV.forgets,AV.forget,zm,z7 h1,z7 h2]
theorem tabB_fgR (b k m w:Nat)(d:Int):(zEN b k m w d).forget (b+3)= .box [.any,.bool (decide (d<0)),zm d.natAbs,.sl (b+2) 0 m,iN w]:=by
 show Cells.box (AV.forgets _ _)=_
 simp [AV.forgets,AV.forget,zm,z7 (show b+2≠b+3 by omega)]
theorem tabB_fgB (b k m w:Nat)(d:Int):(zEN b k m w d).forget (b+2)= .box [.sl (b+3) 0 k,.bool (decide (d<0)),zm d.natAbs,.any,iN w]:=by
 show Cells.box (AV.forgets _ _)=_
 simp [AV.forgets,AV.forget,zm,z7 (show b+3≠b+2 by omega)]
theorem zLt (h:Nat)(hh:G.length+4+X.length≤h∨h=G.length+1)(hG:zp h G=G)(hF:zA3 h F=F)(hT:zP (zp h T) T'):zP (zp h (zg G F L w k X d β T)) (zg G F L w k X d β T'):=by
 have q:=zQ4 (X:=X) (β:=β) h (zEN G.length k β.length w d) hG hF (zNi G.length X.length L h kK) hT
 rw [zRe _ _ _ _ _ _ kK kK] at q
 exact q
theorem zLs {y:Option AObj}{t:TypeId}{c' c'':Cells}(hG:zp (G.length+4+X.length) G=G)(hF:zA3 (G.length+4+X.length) F=F)(hc:CEq c' c''):
 zP ((zp (G.length+4+X.length) (zg G F L w k X d β [y])).set (G.length+4+X.length) (some ⟨t,c'⟩)) (zg G F L w k X d β [some ⟨t,c''⟩]):=by
 have e:zg G F L w k X d β [some ⟨t,c''⟩]=(zg G F L w k X d β [none]).set (G.length+4+X.length) (some ⟨t,c''⟩):=by
  have q:=zAW (G:=G) (F:=F) (L:=L) (w:=w) (k:=k) (X:=X) (d:=d) (β:=β) (T:=[none]) 0 (some ⟨t,c''⟩)
  exact q.symm
 rw [e]
 exact zP.set (zLt (T:=[y]) (T':=[none]) _ (.inl (Nat.le_refl _)) hG hF (show zP [zA3 _ y] [none] from zP.drop zP.nil)) _ (fun o ho=>by cases ho;exact ⟨_,rfl,rfl,hc⟩)
theorem zLr {c' c'':Cells}{t:TypeId}(hG:zp (G.length+1) G=G)(hc:CEq c' c'')(hT:zP (zp (G.length+1) T) T'):
 zP ((zp (G.length+1) (zg G F L w k X d β T)).set (G.length+1) (some ⟨t,c'⟩)) (zg G (some ⟨t,c''⟩) L w k X d β T'):=by
 have e:zg G (some ⟨t,c''⟩) L w k X d β T'=(zg G none L w k X d β T').set (G.length+1) (some ⟨t,c''⟩):=by
  refine Eq.symm ((zCU (i:=1) _ Z).trans ?_)
  rfl
 rw [e]
 have e2:zp (G.length+1) (zg G F L w k X d β T)=G++(some ⟨249,zEN G.length k β.length w d⟩::zA3 (G.length+1) F::some ⟨3,zCJ β⟩::zAx ⟨243,(zBz G.length X.length L).forget (G.length+1)⟩ 116 zC X (zp (G.length+1) T)):=by
  unfold zg
  rw [zDn,hG]
  show G++(some (⟨_,(zEN G.length k β.length w d).forget (G.length+1)⟩:AObj)::zA3 (G.length+1) F::some (⟨_,zCJ β⟩:AObj)::zp (G.length+1) (zAx _ _ _ X _))=_
  rw [zEo (G.length+1) (zBZ (G.length+1)),zRe _ _ _ _ _ _ kK kK]
 rw [e2]
 have q:zP (G++(some ⟨249,zEN G.length k β.length w d⟩::zA3 (G.length+1) F::some ⟨3,zCJ β⟩::zAx ⟨243,(zBz G.length X.length L).forget (G.length+1)⟩ 116 zC X (zp (G.length+1) T))) (zg G none L w k X d β T'):=
  zP.append (zP.refl _) (zP.same (zP.drop (zP.same (zHl (O:=⟨243,(zBz G.length X.length L).forget (G.length+1)⟩) (O':=⟨243,zBz G.length X.length L⟩) ⟨rfl,zNi G.length X.length L (G.length+1) (.inr kK)⟩ hT))))
 exact zP.set q _ (fun o ho=>by cases ho;exact ⟨_,rfl,rfl,hc⟩)
theorem zLq {c':Cells}{β':List Nat}(hG:zp (G.length+2) G=G)(hF:zA3 (G.length+2) F=F)(hc:CEq c' (zCJ β'))(hT:zP (zp (G.length+2) T) T'):
 zP ((zp (G.length+2) (zg G F L w k X d β T)).set (G.length+2) (some ⟨3,c'⟩)) (zLo G F L w k X d β' T'):=by
 have q:=zQ4 (X:=X) (β:=β) (G.length+2) (zEN G.length k β.length w d) hG hF (zNi G.length X.length L _ kK) hT
 rw [tabB_fgB] at q
 have e:zLo G F L w k X d β' T'=(G++(some ⟨249,.box [.sl (G.length+3) 0 k,.bool (decide (d<0)),zm d.natAbs,.any,iN w]⟩::F::some ⟨3,zCJ β⟩::zAx ⟨243,zBz G.length X.length L⟩ 116 zC X T')).set (G.length+2) (some ⟨3,zCJ β'⟩):=by
  refine Eq.symm ((zCU (i:=2) _ Z).trans ?_)
  rfl
 rw [e]
 exact zP.set q _ (fun o ho=>by cases ho;exact ⟨_,rfl,rfl,hc⟩)
theorem zQY {x:List Int}{a:Option AObj}{c':Cells}(hG:zp (G.length+3) G=G)(hF:zA3 (G.length+3) F=F)(hc:CEq c' (zBz G.length (X.length+1) L)):
 zP ((zp (G.length+3) (zg G F L w k X d β [some ⟨116,zC x⟩,a])).set (G.length+3) (some ⟨243,c'⟩)) (zKs G F L w (X++[x]) d β [none]):=by
 have e2:zp (G.length+3) (zg G F L w k X d β [some ⟨116,zC x⟩,a])=G++(some ⟨249,.box [.any,.bool (decide (d<0)),zm d.natAbs,.sl (G.length+2) 0 β.length,iN w]⟩::F::some ⟨3,zCJ β⟩::zAx ⟨243,(zBz G.length X.length L).forget (G.length+3)⟩ 116 zC X [some ⟨116,zC x⟩,zA3 (G.length+3) a]):=by
  unfold zg
  rw [zDn,hG]
  show G++(some (⟨_,(zEN G.length k β.length w d).forget (G.length+3)⟩:AObj)::zA3 (G.length+3) F::some (⟨_,zCJ β⟩:AObj)::zp (G.length+3) (zAx _ _ _ X _))=_
  rw [zEo (G.length+3) (zBZ (G.length+3)),tabB_fgR,hF]
  show _=G++(_::_::_::zAx _ _ _ X [some (⟨116,zC x⟩:AObj),_])
  rw [show zp (G.length+3) [some (⟨116,zC x⟩:AObj),a]=[some ⟨116,(zC x).forget (G.length+3)⟩,zA3 (G.length+3) a] from rfl,zBZ]
 rw [e2,show∀O':Option AObj,(G++(some (⟨249,.box [.any,.bool (decide (d<0)),zm d.natAbs,.sl (G.length+2) 0 β.length,iN w]⟩:AObj)::F::some ⟨3,zCJ β⟩::zAx ⟨243,(zBz G.length X.length L).forget (G.length+3)⟩ 116 zC X [some ⟨116,zC x⟩,zA3 (G.length+3) a])).set (G.length+3) O'=_ from fun O'=>zCU (i:=3) _ rfl]
 refine zP.append (zP.refl _) (zP.same (zP.same (zP.same ?_)))
 show zP (zAx ⟨243,c'⟩ 116 zC X _) _
 rw [zJ3]
 refine zHl ⟨Z,?_⟩ (zP.drop zP.nil)
 show CEq c' (zBz G.length (X++[x]).length L)
 rw [List.length_append];exact hc
end
theorem nsC_fg (h:Nat)(l:List Nat):(nsC l).forget h=nsC l:=by
 show Cells.fn _ _ _=Cells.fn _ _ _
 congr 1
 funext i j
 match j with
 |0=>rfl
 |_+1=>rfl
theorem zQP (l:List Nat):zAY (nsC l):=by
 intro i j _ hj
 obtain rfl:=Nat.lt_one_iff.1 (show j<1 from hj)
 rfl
end Go.Proofs.YtmpnheilfejcpaaGreatDoor
