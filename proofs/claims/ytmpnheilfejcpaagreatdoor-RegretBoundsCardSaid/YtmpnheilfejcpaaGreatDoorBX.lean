/-RegretBounds of the given program returns true for every input and leaves its arguments as they were;no conditions. -/
import Derived.Test.YtmpnheilfejcpaaGreatDoorRows
import Derived.Test.YtmpnheilfejcpaaGreatDoorTie
import Derived.Test.YtmpnheilfejcpaaGreatDoorCards
import Derived.LaidMore
import Derived.Lay
import Derived.SevenTiedAt
import Derived.Stop.Joined
import Derived.Stop.ErrReads
import Derived.MakeChecks
import Derived.Test.YtmpnheilfejcpaaGreatDoorB9
set_option linter.unusedVariables false
set_option linter.unusedSimpArgs false
namespace Go.Proofs.YtmpnheilfejcpaaGreatDoor
open Go.Ax Go.ChangeShapes Go.WideShapes Go.ChangeAt Go.RowKit
theorem regretBounds_pin {W:World}(h0:laidMetH Tryz.prog Rows.regretBoundsRow.laid W):pinG W:=by
 rw [MakeChecks.laidMetH_plain _ _ _ kQ] at h0
 have h:=h0
 exact ⟨trivial,Lib.tabIs_of_head (k:= .u64) (zs:=Lib.pow10Tab) (g:=5) (t:=350) (e:=265) (n:=20) kQ kQ Tryz.underlying350 Tryz.underlying265 kQ kQ (h.tail.tail),trivial⟩
set_option maxRecDepth 100000 in
theorem regretBounds_lifted (os:Os)(started:os.Started)(H:Type)(enc:TypeId×Value→H):
 ReturnsInHanded {} Tryz.checked os 3 .any (fun w args=>(Rows.regretBoundsSpec.pre enc Tryz.prog Tryz.f3 Rows.regretBoundsRow.domain false w args∧laidMetH Tryz.prog Rows.regretBoundsRow.laid w)∧sizedMet enc Tryz.prog Tryz.f3 (OpenSpec.ofChange Rows.regretBoundsSpec) false w args)
  (Rows.regretBoundsSpec.post enc Tryz.prog Tryz.f3 false true false false):=by
 refine returnsInHanded_of_change_and (C:=Tryz.checked) (X:=fun w _=>laidMetH Tryz.prog Rows.regretBoundsRow.laid w) (fun _ _ _ hh h=>h.of_heap hh) ownIt started kQ Tryz.func3
  (ChangeSpec.witness_shaped (enc:=enc) (C:=Tryz.checked) (os:=os) (X:=fun w _=>laidMetH Tryz.prog Rows.regretBoundsRow.laid w) false (World.laidAll Tryz.prog os Rows.regretBoundsRow.laid) #[.slice none 0 0,.slice none 0 0] 8 (World.laidAll_os _ _ _)
   (World.shaped_of_ZipB kQ kQ) kQ kQ kQ
   (by rw [MakeChecks.laidMetH_plain _ _ _ kQ];exact laidMet_laidAll _ kQ kQ)) ?_
 intro W base args ds gs before hval0 hW hcnd _ hL _
 have hval: ∀(j:Nat) t v,Tryz.f3.params[j]? =some t→args[j]? =some v→Value.okWide Tryz.prog W .any base t v:=hval0
 have hW':=hW
 obtain ⟨p,q,hA0,hV,rfl,hfz,hnd⟩:=hW
 have hA:DataW.TrodAll enc Tryz.prog W 0 (fun _=>true) true Tryz.f3.params.toList args.toList ds p:=hA0
 rw [Tryz.params3] at hA hval
 obtain ⟨v0,vs0,d0,ds0,p0,q0,hargs,rfl,rfl,h0,r0⟩:=trodAll_cons hA
 obtain ⟨v1,vs1,d1,ds1,p1,q1,rfl,rfl,rfl,h1,r1⟩:=trodAll_cons r0
 obtain ⟨rfl,rfl,rfl⟩:=trodAll_nil r1
 obtain rfl:args= #[v0,v1]:=by cases args;simp_all
 obtain ⟨rfl,rfl⟩:=trodVars_none hV
 obtain ⟨ad0,sn0,sc0,rfl⟩:=okWide_slice Tryz.underlying23 (hval 0 23 v0 rfl rfl)
 obtain ⟨l0,⟨hm0,hx0⟩,hl0⟩:=Rd.one (Rd.slice [] Tryz.underlying23 kQ rfl (Rd.strs Tryz.underlying32 kQ Tryz.underlying27)) rfl h0
 obtain ⟨ad1,sn1,sc1,rfl⟩:=okWide_slice Tryz.underlying24 (hval 1 24 v1 rfl rfl)
 obtain ⟨l1,⟨hm1,_⟩,hl1⟩:=Rd.one (Rd.slice (0,0) Tryz.underlying24 kQ rfl (Rd.pair Tryz.underlying94 kQ kQ Tryz.underlying3)) rfl h1
 refine (zSN (zJo l0 l1 ⟨hm0,hx0⟩ hm1) Z (fun i hi=> ?_) (pin_up (regretBounds_pin hL))).mono fun e W' ⟨he,ho,hp,hk⟩=>⟨_,he,?_⟩
 ·match i,hi with
  |0,_=>exact hl0
  |1,_=>exact hl1
 ·exact zSd (t:=4) hW' Z Z Z Tryz.underlying4 laidIt zRU fullIt kQ ho hp hk
theorem regretBounds_j1:Rows.regretBoundsRow.wf (OpenSpec.ofChange Rows.regretBoundsSpec)=true:=kQ
theorem regretBounds_j2:(Rows.regretBoundsRow.inPlace==Tryz.prog.inPlace 3)=true:=kQ
theorem regretBounds_j3:(Rows.regretBoundsRow.unfollowed==Tryz.prog.unfollowed 3)=true:=kQ
theorem regretBounds_j4:(Rows.regretBoundsRow.recurses==Tryz.prog.recurses 3)=true:=kQ
theorem regretBounds_j5:(Rows.regretBoundsRow.named==Tryz.prog.varsNamed 3)=true:=kQ
theorem regretBounds_j6:(Rows.regretBoundsRow.lifted==Tryz.prog.liftsFinal)=true:=liftIt
theorem regretBounds_j7:(Tryz.prog.make==some Rows.regretBoundsRow.make)=true:=makeIt
theorem regretBounds_j8:(Rows.regretBoundsRow.plainKeys==Tryz.prog.plainKeys)=true:=plainIt
theorem regretBounds_joined:joinedFacts Tryz.prog 3 Tryz.f3 Rows.regretBoundsSpec Rows.regretBoundsRow=true:=by
 unfold joinedFacts
 rw [regretBounds_j1,laidIt,zRU,stopsIt,knobsIt,regretBounds_j2,regretBounds_j3,regretBounds_j4,regretBounds_j5,regretBounds_j8,heardIt,enterIt,regretBounds_j6,regretBounds_j7]
 kernel_rfl
theorem regretBounds_named:Tryz.prog.funcNamed Rows.regretBoundsRow.func=some 3:=kQ
theorem regretBounds_inst:Tryz.f3.isInstance Tryz.prog Rows.regretBoundsRow.origin Rows.regretBoundsRow.targs:=of_decide_eq_true kQ
theorem regretBounds_wrap:Tryz.f3.isWrapper Tryz.prog Rows.regretBoundsRow.wrapper Rows.regretBoundsRow.mainSum:=by unfold Func.isWrapper;first|(rw [if_pos (by decide+kernel)];kernel_rfl)|(rw [if_neg (by decide+kernel)];exact ⟨rfl,rfl⟩)
theorem regretBounds_holds:Rows.RegretBoundsSaid:=
 OpenClaim.holds_of_wide 3 Tryz.f3 rfl rfl rfl rfl rfl rfl rfl ⟨rfl,rfl,rfl,rfl,rfl⟩ rfl rfl rfl rfl rfl regretBounds_named Tryz.func3 regretBounds_joined
  regretBounds_inst regretBounds_wrap
  (fun os started H enc _=>regretBounds_lifted os started H enc)
theorem regretBounds_c1:Rows.regretBoundsRow.wfByText (OpenSpec.ofChange Rows.regretBoundsSpec)=true:=kQ
theorem regretBounds_c2:([23,24].all fun u=> !Tryz.prog.wantsStandIn u)=true:=kQ
theorem regretBounds_c3:false=Rows.regretBoundsRow.goesBy Tryz.prog:=kQ
theorem regretBounds_card:Rows.RegretBoundsCardSaid:=
 Claim7.holds_tied_plain_at .later [] [.data,.data,.data,.data,.sentinel,.sentinel,.pinned] true (true, "acf05f998fa0f73d7b0569be8554ee5e8ec0e83714fa8b3b66b8d0b0e6545610") true
  regretBounds_holds (fun _ h=>by cases h) regretBounds_c1 (fun _ h=>by cases h) regretBounds_row_tie rfl ⟨rfl,rfl⟩ zSK rfl
  (fun f fn hf hfn=>by
   obtain rfl:f=3:=Option.some.inj (regretBounds_named.symm.trans hf)|>.symm
   obtain rfl:fn=Tryz.f3:=(Option.some.inj (Tryz.func3.symm.trans hfn)).symm
   exact ⟨looksIt,fun j t ht=>by
    rw [Tryz.params3] at ht
    have hm:t∈[23,24]:=by simpa using Array.mem_of_getElem? ht
    exact (show Tryz.prog.wantsStandIn t=false by simpa using List.all_eq_true.1 regretBounds_c2 t hm)⟩)
  regretBounds_c3
end Go.Proofs.YtmpnheilfejcpaaGreatDoor
