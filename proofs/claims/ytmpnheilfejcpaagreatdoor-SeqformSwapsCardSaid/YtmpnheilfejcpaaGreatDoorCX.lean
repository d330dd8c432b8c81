/-SeqformSwaps of the given program returns true for every input and leaves its arguments as they were;no conditions. -/
import Derived.Test.YtmpnheilfejcpaaGreatDoorRows
import Derived.Test.YtmpnheilfejcpaaGreatDoorTie
import Derived.Test.YtmpnheilfejcpaaGreatDoorCards
import Derived.LaidMore
import Derived.Lay
import Derived.SevenTiedAt
import Derived.Stop.Joined
import Derived.Stop.ErrReads
import Derived.MakeChecks
import Derived.Test.YtmpnheilfejcpaaGreatDoorC10
set_option linter.unusedVariables false
set_option linter.unusedSimpArgs false
namespace Go.Proofs.YtmpnheilfejcpaaGreatDoor
open Go.ai Go.ChangeShapes Go.WideShapes Go.ChangeAt Go.RowKit
theorem amI {W:World}(aO:laidMetH Tryz.prog Rows.seqformSwapsRow.laid W):AA W:=by rw [MakeChecks.laidMetH_plain _ _ _ af] at aO;have h:=aO;exact ⟨trivial,Lib.tabIs_of_head (k:= .u64) (zs:=Lib.pow10Tab) (g:=5) (t:=350) (e:=265) (n:=20) af af Tryz.underlying350 Tryz.underlying265 af af (h.tail.tail),trivial⟩
set_option maxRecDepth 100000 in
theorem amH (os:Os)(started:os.Started)(H:Type)(enc:TypeId×Value→H):
 ReturnsInHanded {} Tryz.checked os 5 .any (fun w args=>(Rows.seqformSwapsSpec.pre enc Tryz.prog Tryz.f5 Rows.seqformSwapsRow.domain false w args∧laidMetH Tryz.prog Rows.seqformSwapsRow.laid w)∧sizedMet enc Tryz.prog Tryz.f5 (OpenSpec.ofChange Rows.seqformSwapsSpec) false w args)
  (Rows.seqformSwapsSpec.post enc Tryz.prog Tryz.f5 false true false false):=by
 refine returnsInHanded_of_change_and (C:=Tryz.checked) (X:=fun w _=>laidMetH Tryz.prog Rows.seqformSwapsRow.laid w) (fun _ _ _ aU h=>h.of_heap aU) acy started af Tryz.func5
  (ChangeSpec.witness_shaped (enc:=enc) (C:=Tryz.checked) (os:=os) (X:=fun w _=>laidMetH Tryz.prog Rows.seqformSwapsRow.laid w) false (World.laidAll Tryz.prog os Rows.seqformSwapsRow.laid) #[.slice none 0 0] 8 (World.laidAll_os _ _ _)
   (World.shaped_of_ZipB af af) af af af
   (by rw [MakeChecks.laidMetH_plain _ _ _ af];exact laidMet_laidAll _ af af)) ?_
 intro W base args uM gs before aaE jY alk _ cv _;have yk: ∀(j:Nat) t v,Tryz.f5.params[j]? =some t→args[j]? =some v→Value.okWide Tryz.prog W .any base t v:=aaE;have Jk:=jY;obtain ⟨p,q,Yh,qe,rfl,zX,k6⟩:=jY;have iH:DataW.TrodAll enc Tryz.prog W 0 (fun _=>true) true Tryz.f5.params.toList args.toList uM p:=Yh;rw [Tryz.params5] at iH yk;obtain ⟨v0,amg,d0,akE,oR,ew,Fk,rfl,rfl,aO,cH⟩:=trodAll_cons iH;obtain ⟨rfl,rfl,rfl⟩:=trodAll_nil cH;obtain rfl:args= #[v0]:=by cases args;simp_all
 obtain ⟨rfl,rfl⟩:=trodVars_none qe;obtain ⟨akD,amb,ama,rfl⟩:=okWide_slice Tryz.underlying41 (yk 0 41 v0 rfl rfl);obtain ⟨KN,tk,iZ⟩:=hr.one (hr.slice Go.ai.cz.aK Tryz.underlying41 af rfl adL) rfl aO;refine (ajG (amq KN tk) I (fun i aa=> ?_) (acW (amI cv))).mono fun e W' ⟨he,aj,aJ,ao⟩=>⟨_,he,?_⟩
 ·match i,aa with
  |0,_=>exact iZ
 ·exact ajV (t:=4) Jk I I I Tryz.underlying4 Qa VD X4 af aj aJ ao
theorem amy:Rows.seqformSwapsRow.wf (OpenSpec.ofChange Rows.seqformSwapsSpec)=true:=af
theorem amz:(Rows.seqformSwapsRow.inPlace==Tryz.prog.inPlace 5)=true:=af
theorem amA:(Rows.seqformSwapsRow.unfollowed==Tryz.prog.unfollowed 5)=true:=af
theorem amB:(Rows.seqformSwapsRow.recurses==Tryz.prog.recurses 5)=true:=af
theorem amC:(Rows.seqformSwapsRow.named==Tryz.prog.varsNamed 5)=true:=af
theorem amD:(Rows.seqformSwapsRow.lifted==Tryz.prog.liftsFinal)=true:=abG
theorem amE:(Tryz.prog.make==some Rows.seqformSwapsRow.make)=true:=abO
theorem amF:(Rows.seqformSwapsRow.plainKeys==Tryz.prog.plainKeys)=true:=acZ
theorem amG:joinedFacts Tryz.prog 5 Tryz.f5 Rows.seqformSwapsSpec Rows.seqformSwapsRow=true:=by
 unfold joinedFacts;rw [amy,Qa,VD,afh,abo,amz,amA,amB,amC,amF,Zn,XO,amD,amE]
 kernel_rfl
theorem amp:Tryz.prog.funcNamed Rows.seqformSwapsRow.func=some 5:=af
theorem amx:Tryz.f5.isInstance Tryz.prog Rows.seqformSwapsRow.origin Rows.seqformSwapsRow.targs:=zm af
theorem amJ:Tryz.f5.isWrapper Tryz.prog Rows.seqformSwapsRow.wrapper Rows.seqformSwapsRow.mainSum:=by unfold Func.isWrapper;first|(rw [aG (by decide+kernel)];kernel_rfl)|(rw [az (by decide+kernel)];exact ⟨rfl,rfl⟩)
theorem seqformSwaps_holds:Rows.SeqformSwapsSaid:=
 OpenClaim.holds_of_wide 5 Tryz.f5 rfl rfl rfl rfl rfl rfl rfl ⟨rfl,rfl,rfl,rfl,rfl⟩ rfl rfl rfl rfl rfl amp Tryz.func5 amG
  amx amJ
  (fun os started H enc _=>amH os started H enc)
theorem amu:Rows.seqformSwapsRow.wfByText (OpenSpec.ofChange Rows.seqformSwapsSpec)=true:=af
theorem amv:([41].all fun u=> !Tryz.prog.wantsStandIn u)=true:=af
theorem amw:false=Rows.seqformSwapsRow.goesBy Tryz.prog:=af
theorem seqformSwaps_card:Rows.SeqformSwapsCardSaid:=
 Claim7.holds_tied_plain_at .later [] [.data,.data,.data,.data,.sentinel,.sentinel,.pinned] true (true, "acf05f998fa0f73d7b0569be8554ee5e8ec0e83714fa8b3b66b8d0b0e6545610") true
  seqformSwaps_holds (fun _ h=>by cases h) amu (fun _ h=>by cases h) seqformSwaps_row_tie rfl ⟨rfl,rfl⟩ ajC rfl
  (fun f fn aN Zt=>by
   obtain rfl:f=5:=p3 (amp.symm.trans aN)|>.symm;obtain rfl:fn=Tryz.f5:=(p3 (Tryz.func5.symm.trans Zt)).symm;exact ⟨abK,fun j t bs=>by
    rw [Tryz.params5] at bs;have hm:t∈[41]:=by simpa using Array.mem_of_getElem? bs
    exact (show Tryz.prog.wantsStandIn t=false by simpa using uy.1 amv t hm)⟩)
  amw
end Go.Proofs.YtmpnheilfejcpaaGreatDoor
