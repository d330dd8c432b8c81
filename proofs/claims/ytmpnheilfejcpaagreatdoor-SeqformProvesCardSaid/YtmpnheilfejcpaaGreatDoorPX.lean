/-SeqformProves of the given program returns true for every input and leaves its arguments as they were;no conditions. -/
import Derived.Test.YtmpnheilfejcpaaGreatDoorRows
import Derived.Test.YtmpnheilfejcpaaGreatDoorTie
import Derived.Test.YtmpnheilfejcpaaGreatDoorCards
import Derived.LaidMore
import Derived.Lay
import Derived.SevenTiedAt
import Derived.Stop.Joined
import Derived.Stop.ErrReads
import Derived.MakeChecks
import Derived.Test.YtmpnheilfejcpaaGreatDoorP10
set_option linter.unusedVariables false
set_option linter.unusedSimpArgs false
namespace Go.Proofs.YtmpnheilfejcpaaGreatDoor
open Go.aj Go.ChangeShapes Go.WideShapes Go.ChangeAt Go.RowKit
theorem asa {W:World}(aM:laidMetH Tryz.prog Rows.seqformProvesRow.laid W):Ce W:=by rw [MakeChecks.laidMetH_plain _ _ _ ag] at aM;have h:=aM;exact ⟨trivial,Lib.tabIs_of_head (k:= .u64) (zs:=Lib.pow10Tab) (g:=5) (t:=350) (e:=265) (n:=20) ag ag Tryz.underlying350 Tryz.underlying265 ag ag (h.tail.tail),trivial⟩
set_option maxRecDepth 100000 in
theorem arZ (os:Os)(started:os.Started)(H:Type)(enc:TypeId×Value→H):
 ReturnsInHanded {} Tryz.checked os 7 .any (fun w args=>(Rows.seqformProvesSpec.pre enc Tryz.prog Tryz.f7 Rows.seqformProvesRow.domain false w args∧laidMetH Tryz.prog Rows.seqformProvesRow.laid w)∧sizedMet enc Tryz.prog Tryz.f7 (OpenSpec.ofChange Rows.seqformProvesSpec) false w args)
  (Rows.seqformProvesSpec.post enc Tryz.prog Tryz.f7 false true false false):=by
 refine returnsInHanded_of_change_and (C:=Tryz.checked) (X:=fun w _=>laidMetH Tryz.prog Rows.seqformProvesRow.laid w) (fun _ _ _ aX h=>h.of_heap aX) aik started ag Tryz.func7
  (ChangeSpec.witness_shaped (enc:=enc) (C:=Tryz.checked) (os:=os) (X:=fun w _=>laidMetH Tryz.prog Rows.seqformProvesRow.laid w) false (World.laidAll Tryz.prog os Rows.seqformProvesRow.laid) #[.slice none 0 0] 8 (World.laidAll_os _ _ _)
   (World.shaped_of_ZipB ag ag) ag ag ag
   (by rw [MakeChecks.laidMetH_plain _ _ _ ag];exact laidMet_laidAll _ ag ag)) ?_
 intro W base args wo gs before agn gO aqL _ cB _;have wR: ∀(j:Nat) t v,Tryz.f7.params[j]? =some t→args[j]? =some v→Value.okWide Tryz.prog W .any base t v:=agn;have LF:=gO;obtain ⟨p,q,adq,og,rfl,BJ,lk⟩:=gO;have iP:DataW.TrodAll enc Tryz.prog W 0 (fun _=>true) true Tryz.f7.params.toList args.toList wo p:=adq;rw [Tryz.params7] at iP wR;obtain ⟨v0,arE,d0,aqg,kn,eU,Hs,rfl,rfl,aM,cU⟩:=trodAll_cons iP;obtain ⟨rfl,rfl,rfl⟩:=trodAll_nil cU;obtain rfl:args= #[v0]:=by cases args;simp_all
 obtain ⟨rfl,rfl⟩:=trodVars_none og;obtain ⟨aqf,arD,arC,rfl⟩:=okWide_slice Tryz.underlying41 (wR 0 41 v0 rfl rfl);obtain ⟨M3,uR,jH⟩:=hU.one (hU.slice Go.aj.cQ.aN Tryz.underlying41 ag rfl ajp) rfl aM;refine (apg (asd M3 uR) I (fun i aa=> ?_) (aiD (asa cB))).mono fun e W' ⟨he,ai,aD,an⟩=>⟨_,he,?_⟩
 ·match i,aa with
  |0,_=>exact jH
 ·exact apv (t:=4) LF I I I Tryz.underlying4 Tn Zw acO ag ai aD an
theorem arQ:Rows.seqformProvesRow.wf (OpenSpec.ofChange Rows.seqformProvesSpec)=true:=ag
theorem arR:(Rows.seqformProvesRow.inPlace==Tryz.prog.inPlace 7)=true:=ag
theorem arS:(Rows.seqformProvesRow.unfollowed==Tryz.prog.unfollowed 7)=true:=ag
theorem arT:(Rows.seqformProvesRow.recurses==Tryz.prog.recurses 7)=true:=ag
theorem arU:(Rows.seqformProvesRow.named==Tryz.prog.varsNamed 7)=true:=ag
theorem arV:(Rows.seqformProvesRow.lifted==Tryz.prog.liftsFinal)=true:=ahr
theorem arW:(Tryz.prog.make==some Rows.seqformProvesRow.make)=true:=ahw
theorem arX:(Rows.seqformProvesRow.plainKeys==Tryz.prog.plainKeys)=true:=aiG
theorem arY:joinedFacts Tryz.prog 7 Tryz.f7 Rows.seqformProvesSpec Rows.seqformProvesRow=true:=by
 unfold joinedFacts;rw [arQ,Tn,Zw,akx,agY,arR,arS,arT,arU,arX,aeI,ach,arV,arW]
 kernel_rfl
theorem arJ:Tryz.prog.funcNamed Rows.seqformProvesRow.func=some 7:=ag
theorem arP:Tryz.f7.isInstance Tryz.prog Rows.seqformProvesRow.origin Rows.seqformProvesRow.targs:=DK ag
theorem asb:Tryz.f7.isWrapper Tryz.prog Rows.seqformProvesRow.wrapper Rows.seqformProvesRow.mainSum:=by unfold Func.isWrapper;first|(rw [aB (by decide+kernel)];kernel_rfl)|(rw [aw (by decide+kernel)];exact ⟨rfl,rfl⟩)
theorem seqformProves_holds:Rows.SeqformProvesSaid:=
 OpenClaim.holds_of_wide 7 Tryz.f7 rfl rfl rfl rfl rfl rfl rfl ⟨rfl,rfl,rfl,rfl,rfl⟩ rfl rfl rfl rfl rfl arJ Tryz.func7 arY
  arP asb
  (fun os started H enc _=>arZ os started H enc)
theorem arM:Rows.seqformProvesRow.wfByText (OpenSpec.ofChange Rows.seqformProvesSpec)=true:=ag
theorem arN:([41].all fun u=> !Tryz.prog.wantsStandIn u)=true:=ag
theorem arO:false=Rows.seqformProvesRow.goesBy Tryz.prog:=ag
theorem seqformProves_card:Rows.SeqformProvesCardSaid:=
 Claim7.holds_tied_plain_at .later [] [.data,.data,.data,.data,.sentinel,.sentinel,.pinned] true (true, "acf05f998fa0f73d7b0569be8554ee5e8ec0e83714fa8b3b66b8d0b0e6545610") true
  seqformProves_holds (fun _ h=>by cases h) arM (fun _ h=>by cases h) seqformProves_row_tie rfl ⟨rfl,rfl⟩ apc rfl
  (fun f fn aR aeM=>by
   obtain rfl:f=7:=oO (arJ.symm.trans aR)|>.symm;obtain rfl:fn=Tryz.f7:=(oO (Tryz.func7.symm.trans aeM)).symm;exact ⟨ahu,fun j t bu=>by
    rw [Tryz.params7] at bu;have hm:t∈[41]:=by simpa using Array.mem_of_getElem? bu
    exact (show Tryz.prog.wantsStandIn t=false by simpa using se.1 arN t hm)⟩)
  arO
end Go.Proofs.YtmpnheilfejcpaaGreatDoor
