/-SeqformPays of the given program returns true for every input and leaves its arguments as they were;no conditions. -/
import Derived.Test.YtmpnheilfejcpaaGreatDoorRows
import Derived.Test.YtmpnheilfejcpaaGreatDoorTie
import Derived.Test.YtmpnheilfejcpaaGreatDoorCards
import Derived.LaidMore
import Derived.Lay
import Derived.SevenTiedAt
import Derived.Stop.Joined
import Derived.Stop.ErrReads
import Derived.MakeChecks
import Derived.Test.YtmpnheilfejcpaaGreatDoorH10
set_option linter.unusedVariables false
set_option linter.unusedSimpArgs false
namespace Go.Proofs.YtmpnheilfejcpaaGreatDoor
open Go.aj Go.ChangeShapes Go.WideShapes Go.ChangeAt Go.RowKit
theorem ajq {W:World}(aU:laidMetH Tryz.prog Rows.seqformPaysRow.laid W):Ch W:=by rw [MakeChecks.laidMetH_plain _ _ _ af] at aU;have h:=aU;exact ⟨trivial,Lib.tabIs_of_head (k:= .u64) (zs:=Lib.pow10Tab) (g:=5) (t:=350) (e:=265) (n:=20) af af Tryz.underlying350 Tryz.underlying265 af af (h.tail.tail),trivial⟩
set_option maxRecDepth 100000 in
theorem ajp (os:Os)(started:os.Started)(H:Type)(enc:TypeId×Value→H):
 ReturnsInHanded {} Tryz.checked os 6 .any (fun w args=>(Rows.seqformPaysSpec.pre enc Tryz.prog Tryz.f6 Rows.seqformPaysRow.domain false w args∧laidMetH Tryz.prog Rows.seqformPaysRow.laid w)∧sizedMet enc Tryz.prog Tryz.f6 (OpenSpec.ofChange Rows.seqformPaysSpec) false w args)
  (Rows.seqformPaysSpec.post enc Tryz.prog Tryz.f6 false true false false):=by
 refine returnsInHanded_of_change_and (C:=Tryz.checked) (X:=fun w _=>laidMetH Tryz.prog Rows.seqformPaysRow.laid w) (fun _ _ _ aV h=>h.of_heap aV) ahz started af Tryz.func6
  (ChangeSpec.witness_shaped (enc:=enc) (C:=Tryz.checked) (os:=os) (X:=fun w _=>laidMetH Tryz.prog Rows.seqformPaysRow.laid w) false (World.laidAll Tryz.prog os Rows.seqformPaysRow.laid) #[.slice none 0 0,.slice none 0 0,.slice none 0 0] 8 (World.laidAll_os _ _ _)
   (World.shaped_of_ZipB af af) af af af
   (by rw [MakeChecks.laidMetH_plain _ _ _ af];exact laidMet_laidAll _ af af)) ?_
 intro W base args sk gs before afI iM aqy qs cH _;have sx: ∀(j:Nat) t v,Tryz.f6.params[j]? =some t→args[j]? =some v→Value.okWide Tryz.prog W .any base t v:=afI;have LA:=iM;obtain ⟨p,q,acC,re,rfl,BP,l1⟩:=iM;have hl:DataW.TrodAll enc Tryz.prog W 0 (fun _=>true) true Tryz.f6.params.toList args.toList sk p:=acC;rw [Tryz.params6] at hl sx;obtain ⟨v0,aru,d0,apQ,oY,eY,Hx,rfl,rfl,aU,cV⟩:=trodAll_cons hl;obtain ⟨v1,arv,d1,apR,c6,bS,rfl,rfl,rfl,U,h4⟩:=trodAll_cons cV;obtain ⟨v2,arw,d2,apS,fs,bY,rfl,rfl,rfl,ab,h5⟩:=trodAll_cons h4;obtain ⟨rfl,rfl,rfl⟩:=trodAll_nil h5;obtain rfl:args= #[v0,v1,v2]:=by cases args;simp_all
 obtain ⟨rfl,rfl⟩:=trodVars_none re;obtain ⟨apN,arq,arn,rfl⟩:=okWide_slice Tryz.underlying41 (sx 0 41 v0 rfl rfl);obtain ⟨M0,tx,jA⟩:=gm.one (gm.slice Go.aj.cX.aP Tryz.underlying41 af rfl aiL) rfl aU;obtain ⟨apO,ars,aro,rfl⟩:=okWide_slice Tryz.underlying47 (sx 1 47 v1 rfl rfl);obtain ⟨fW,EI,pL⟩:=gm.one (gm.slice Go.aj.cX.fe Tryz.underlying47 af rfl X1) rfl U;obtain ⟨apP,art,arp,rfl⟩:=okWide_slice Tryz.underlying47 (sx 2 47 v2 rfl rfl);obtain ⟨fK,zS,wk⟩:=gm.one (gm.slice Go.aj.cX.fe Tryz.underlying47 af rfl X1) rfl ab;have MP:=WZ (b:=32) qs (j:=1) rfl rfl Tryz.underlying47 af U pL;unfold reachBytes at MP;have afY:=WZ (b:=32) qs (j:=2) rfl rfl Tryz.underlying47 af ab wk;unfold reachBytes at afY;refine (aoM (ali M0 fW fK tx EI zS J J) I (fun i aa=> ?_) (ahT (ajq cH))).mono fun e W' ⟨he,ah,aF,an⟩=>⟨_,he,?_⟩
 ·match i,aa with
  |0,_=>exact jA
  |1,_=>exact pL
  |2,_=>exact wk
 ·exact apd (t:=4) LA I I I Tryz.underlying4 Te Zb acf af ah aF an
theorem ajg:Rows.seqformPaysRow.wf (OpenSpec.ofChange Rows.seqformPaysSpec)=true:=af
theorem ajh:(Rows.seqformPaysRow.inPlace==Tryz.prog.inPlace 6)=true:=af
theorem aji:(Rows.seqformPaysRow.unfollowed==Tryz.prog.unfollowed 6)=true:=af
theorem ajj:(Rows.seqformPaysRow.recurses==Tryz.prog.recurses 6)=true:=af
theorem ajk:(Rows.seqformPaysRow.named==Tryz.prog.varsNamed 6)=true:=af
theorem ajl:(Rows.seqformPaysRow.lifted==Tryz.prog.liftsFinal)=true:=agL
theorem ajm:(Tryz.prog.make==some Rows.seqformPaysRow.make)=true:=agR
theorem ajn:(Rows.seqformPaysRow.plainKeys==Tryz.prog.plainKeys)=true:=ahY
theorem ajo:joinedFacts Tryz.prog 6 Tryz.f6 Rows.seqformPaysSpec Rows.seqformPaysRow=true:=by
 unfold joinedFacts;rw [ajg,Te,Zb,akf,agt,ajh,aji,ajj,ajk,ajn,adV,abO,ajl,ajm]
 kernel_rfl
theorem T0:Tryz.prog.funcNamed Rows.seqformPaysRow.func=some 6:=af
theorem ajf:Tryz.f6.isInstance Tryz.prog Rows.seqformPaysRow.origin Rows.seqformPaysRow.targs:=DR af
theorem ajr:Tryz.f6.isWrapper Tryz.prog Rows.seqformPaysRow.wrapper Rows.seqformPaysRow.mainSum:=by unfold Func.isWrapper;first|(rw [aA (by decide+kernel)];kernel_rfl)|(rw [ax (by decide+kernel)];exact ⟨rfl,rfl⟩)
theorem seqformPays_holds:Rows.SeqformPaysSaid:=
 OpenClaim.holds_of_wide 6 Tryz.f6 rfl rfl rfl rfl rfl rfl rfl ⟨rfl,rfl,rfl,rfl,rfl⟩ rfl rfl rfl rfl rfl T0 Tryz.func6 ajo
  ajf ajr
  (fun os started H enc _=>ajp os started H enc)
theorem ajc:Rows.seqformPaysRow.wfByText (OpenSpec.ofChange Rows.seqformPaysSpec)=true:=af
theorem ajd:([41,47,47].all fun u=> !Tryz.prog.wantsStandIn u)=true:=af
theorem aje:false=Rows.seqformPaysRow.goesBy Tryz.prog:=af
theorem seqformPays_card:Rows.SeqformPaysCardSaid:=
 Claim7.holds_tied_plain_at .later [] [.data,.data,.data,.data,.sentinel,.sentinel,.pinned] true (true, "acf05f998fa0f73d7b0569be8554ee5e8ec0e83714fa8b3b66b8d0b0e6545610") true
  seqformPays_holds (fun _ h=>by cases h) ajc (fun _ h=>by cases h) seqformPays_row_tie rfl ⟨rfl,rfl⟩ aoH rfl
  (fun f fn aQ aea=>by
   obtain rfl:f=6:=oG (T0.symm.trans aQ)|>.symm;obtain rfl:fn=Tryz.f6:=(oG (Tryz.func6.symm.trans aea)).symm;exact ⟨agO,fun j t bu=>by
    rw [Tryz.params6] at bu;have hm:t∈[41,47,47]:=by simpa using Array.mem_of_getElem? bu
    exact (show Tryz.prog.wantsStandIn t=false by simpa using qh.1 ajd t hm)⟩)
  aje
end Go.Proofs.YtmpnheilfejcpaaGreatDoor
