/-SeqformScales of the given program returns true for every input and leaves its arguments as they were;no conditions. -/
import Derived.Test.YtmpnheilfejcpaaGreatDoorRows
import Derived.Test.YtmpnheilfejcpaaGreatDoorTie
import Derived.Test.YtmpnheilfejcpaaGreatDoorCards
import Derived.LaidMore
import Derived.Lay
import Derived.SevenTiedAt
import Derived.Stop.Joined
import Derived.Stop.ErrReads
import Derived.MakeChecks
import Derived.Test.YtmpnheilfejcpaaGreatDoorC10
set_option linter.unusedVariables false
set_option linter.unusedSimpArgs false
namespace Go.Proofs.YtmpnheilfejcpaaGreatDoor
open Go.ai Go.ChangeShapes Go.WideShapes Go.ChangeAt Go.RowKit
theorem aev {W:World}(aO:laidMetH Tryz.prog Rows.seqformScalesRow.laid W):AA W:=by rw [MakeChecks.laidMetH_plain _ _ _ af] at aO;have h:=aO;exact ⟨trivial,Lib.tabIs_of_head (k:= .u64) (zs:=Lib.pow10Tab) (g:=5) (t:=350) (e:=265) (n:=20) af af Tryz.underlying350 Tryz.underlying265 af af (h.tail.tail),trivial⟩
set_option maxRecDepth 100000 in
theorem aeu (os:Os)(started:os.Started)(H:Type)(enc:TypeId×Value→H):
 ReturnsInHanded {} Tryz.checked os 4 .any (fun w args=>(Rows.seqformScalesSpec.pre enc Tryz.prog Tryz.f4 Rows.seqformScalesRow.domain false w args∧laidMetH Tryz.prog Rows.seqformScalesRow.laid w)∧sizedMet enc Tryz.prog Tryz.f4 (OpenSpec.ofChange Rows.seqformScalesSpec) false w args)
  (Rows.seqformScalesSpec.post enc Tryz.prog Tryz.f4 false true false false):=by
 refine returnsInHanded_of_change_and (C:=Tryz.checked) (X:=fun w _=>laidMetH Tryz.prog Rows.seqformScalesRow.laid w) (fun _ _ _ aU h=>h.of_heap aU) acy started af Tryz.func4
  (ChangeSpec.witness_shaped (enc:=enc) (C:=Tryz.checked) (os:=os) (X:=fun w _=>laidMetH Tryz.prog Rows.seqformScalesRow.laid w) false (World.laidAll Tryz.prog os Rows.seqformScalesRow.laid) #[.slice none 0 0,.string ⟨#[]⟩] 8 (World.laidAll_os _ _ _)
   (World.shaped_of_ZipB af af) af af af
   (by rw [MakeChecks.laidMetH_plain _ _ _ af];exact laidMet_laidAll _ af af)) ?_
 intro W base args uM gs before aaE jY alk _ cv _;have yk: ∀(j:Nat) t v,Tryz.f4.params[j]? =some t→args[j]? =some v→Value.okWide Tryz.prog W .any base t v:=aaE;have Jk:=jY;obtain ⟨p,q,Yh,qe,rfl,zX,k6⟩:=jY;have iH:DataW.TrodAll enc Tryz.prog W 0 (fun _=>true) true Tryz.f4.params.toList args.toList uM p:=Yh;rw [Tryz.params4] at iH yk;obtain ⟨v0,amg,d0,akE,oR,ew,Fk,rfl,rfl,aO,cH⟩:=trodAll_cons iH;obtain ⟨v1,amh,d1,akF,cY,bO,rfl,rfl,rfl,U,gq⟩:=trodAll_cons cH;obtain ⟨rfl,rfl,rfl⟩:=trodAll_nil gq;obtain rfl:args= #[v0,v1]:=by cases args;simp_all
 obtain ⟨rfl,rfl⟩:=trodVars_none qe;obtain ⟨akD,amb,ama,rfl⟩:=okWide_slice Tryz.underlying41 (yk 0 41 v0 rfl rfl);obtain ⟨KN,tk,iZ⟩:=hr.one (hr.slice Go.ai.cz.aK Tryz.underlying41 af rfl adL) rfl aO;obtain ⟨s1,rfl,rfl,rfl,F3⟩:=Go.ChangeMaps.open_string Tryz.underlying27 (yk 1 27 v1 rfl rfl) U;have sq:bp W (fun b=>b<W.heap.size) (fun _=>none) (.str s1.data.toList) (.string s1):=bp.str _ s1.data.toList;have J4:s1.data.toList.length≤9223372036854775807:=by unfold maxLen at F3;simpa using F3
 refine (ajG (agj KN s1.data.toList tk J4) I (fun i aa=> ?_) (acW (aev cv))).mono fun e W' ⟨he,aj,aJ,ao⟩=>⟨_,he,?_⟩
 ·match i,aa with
  |0,_=>exact iZ
  |1,_=>exact sq
 ·exact ajV (t:=4) Jk I I I Tryz.underlying4 Qa VD X4 af aj aJ ao
theorem ael:Rows.seqformScalesRow.wf (OpenSpec.ofChange Rows.seqformScalesSpec)=true:=af
theorem aem:(Rows.seqformScalesRow.inPlace==Tryz.prog.inPlace 4)=true:=af
theorem aen:(Rows.seqformScalesRow.unfollowed==Tryz.prog.unfollowed 4)=true:=af
theorem aeo:(Rows.seqformScalesRow.recurses==Tryz.prog.recurses 4)=true:=af
theorem aep:(Rows.seqformScalesRow.named==Tryz.prog.varsNamed 4)=true:=af
theorem aeq:(Rows.seqformScalesRow.lifted==Tryz.prog.liftsFinal)=true:=abG
theorem aer:(Tryz.prog.make==some Rows.seqformScalesRow.make)=true:=abO
theorem aes:(Rows.seqformScalesRow.plainKeys==Tryz.prog.plainKeys)=true:=acZ
theorem aet:joinedFacts Tryz.prog 4 Tryz.f4 Rows.seqformScalesSpec Rows.seqformScalesRow=true:=by
 unfold joinedFacts;rw [ael,Qa,VD,afh,abo,aem,aen,aeo,aep,aes,Zn,XO,aeq,aer]
 kernel_rfl
theorem QW:Tryz.prog.funcNamed Rows.seqformScalesRow.func=some 4:=af
theorem aek:Tryz.f4.isInstance Tryz.prog Rows.seqformScalesRow.origin Rows.seqformScalesRow.targs:=zm af
theorem aew:Tryz.f4.isWrapper Tryz.prog Rows.seqformScalesRow.wrapper Rows.seqformScalesRow.mainSum:=by unfold Func.isWrapper;first|(rw [aG (by decide+kernel)];kernel_rfl)|(rw [az (by decide+kernel)];exact ⟨rfl,rfl⟩)
theorem seqformScales_holds:Rows.SeqformScalesSaid:=
 OpenClaim.holds_of_wide 4 Tryz.f4 rfl rfl rfl rfl rfl rfl rfl ⟨rfl,rfl,rfl,rfl,rfl⟩ rfl rfl rfl rfl rfl QW Tryz.func4 aet
  aek aew
  (fun os started H enc _=>aeu os started H enc)
theorem aeh:Rows.seqformScalesRow.wfByText (OpenSpec.ofChange Rows.seqformScalesSpec)=true:=af
theorem aei:([41,27].all fun u=> !Tryz.prog.wantsStandIn u)=true:=af
theorem aej:false=Rows.seqformScalesRow.goesBy Tryz.prog:=af
theorem seqformScales_card:Rows.SeqformScalesCardSaid:=
 Claim7.holds_tied_plain_at .later [] [.data,.data,.data,.data,.sentinel,.sentinel,.pinned] true (true, "acf05f998fa0f73d7b0569be8554ee5e8ec0e83714fa8b3b66b8d0b0e6545610") true
  seqformScales_holds (fun _ h=>by cases h) aeh (fun _ h=>by cases h) seqformScales_row_tie rfl ⟨rfl,rfl⟩ ajC rfl
  (fun f fn aN Zt=>by
   obtain rfl:f=4:=p3 (QW.symm.trans aN)|>.symm;obtain rfl:fn=Tryz.f4:=(p3 (Tryz.func4.symm.trans Zt)).symm;exact ⟨abK,fun j t bs=>by
    rw [Tryz.params4] at bs;have hm:t∈[41,27]:=by simpa using Array.mem_of_getElem? bs
    exact (show Tryz.prog.wantsStandIn t=false by simpa using uy.1 aei t hm)⟩)
  aej
end Go.Proofs.YtmpnheilfejcpaaGreatDoor
