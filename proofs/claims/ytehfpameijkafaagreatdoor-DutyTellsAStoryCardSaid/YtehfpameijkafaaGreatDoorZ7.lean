/-
  Proved: for every input, DutyTellsAStory returns true, and its arguments read as before. Conditions: the row's own (the library's tables and errors as the program's text lays them: the card ties them).
-/
import Derived.Test.YtehfpameijkafaaGreatDoorTie
import Derived.Test.YtehfpameijkafaaGreatDoorCards
import Derived.SevenTiedAt
import Derived.Test.YtehfpameijkafaaGreatDoorY11
import Derived.Test.YtehfpameijkafaaGreatDoorY13
import Derived.Test.YtehfpameijkafaaGreatDoorY14
set_option linter.unusedVariables false
set_option linter.unusedSimpArgs false
namespace Go.Proofs.YtehfpameijkafaaGreatDoor
open Go.ChangeShapes Go.WideShapes Go.ChangeAt Go.RowKit Go.Q Go.Vl Go.Sp
set_option maxRecDepth 100000 in
theorem TF (os:Os)(started:os.Started)(H:Type)(enc:TypeId×Value->H) :
 ReturnsInHanded {} Tryz.checked os 7 .any (fun w args=>(Rows.dutyTellsAStorySpec.pre enc Tryz.prog Tryz.f7 [] false w args/\laidMetH Tryz.prog Kq w)/\sizedMet enc Tryz.prog Tryz.f7 (OpenSpec.ofChange Rows.dutyTellsAStorySpec) false w args)
  (Rows.dutyTellsAStorySpec.post enc Tryz.prog Tryz.f7 false true false false):=by
 refine returnsInHanded_of_change_and (C:=Tryz.checked) (X:=fun w _=>laidMetH Tryz.prog Kq w) (fun _ _ _ hh h=>h.of_heap hh) Tryz.own started (by kernel_rfl) Tryz.func7
  (ChangeSpec.witness_shaped (enc:=enc) (C:=Tryz.checked) (os:=os) (X:=fun w _=>laidMetH Tryz.prog Kq w) false (World.doorLaid Tryz.prog 400 os) #[.agg #[.int .u16 0,.int .u16 0,.int .u16 0,.int .u16 0,.int .u16 0,.int .u16 0,.int .u16 0,.int .u16 0],.agg #[.int .u16 0,.int .u16 0]] 8 rfl (World.shaped_of_RefB (by kernel_rfl) (by kernel_rfl)) (by kernel_rfl) (by kernel_rfl) (by kernel_rfl) (Zb os _)) ?_
 intro W base args ds gs before hval hW _ _ hL _
 have hW':=hW
 obtain⟨p,q,hA0,hV,rfl,hfz,hnd⟩:=hW
 have hA:DataW.TrodAll enc Tryz.prog W 0 (fun _=>true) true Tryz.f7.params.toList args.toList ds p:=hA0
 rw [Tryz.params7] at hA
 obtain⟨v0,v1,d0,d1,p0,p1,e0,rfl,rfl,⟨f0,h0⟩,⟨f1,h1⟩⟩:=trodAll_two hA
 obtain⟨rfl,rfl⟩:=trodVars_none hV
 obtain⟨c0,rfl⟩:=Sf (hval 0 75 v0 (by rw [Tryz.params7];rfl) (by rw [e0];rfl))
 obtain⟨x0,q0,z0⟩:=Xd h0
 have w1:=(hval 1 76 v1 (by rw [Tryz.params7];rfl) (by rw [e0];rfl))
 obtain⟨c1,rfl⟩:=Xg w1
 obtain⟨x1,q1,z1⟩:=Acm h1 (ZO w1)
 subst e0
 have hv:VC Tryz.prog 7 [.agg (Hi x0),.agg [.lit (.int .u16 x1.1),.lit (.int .u16 x1.2)]] [] fun x σ'=>x=.ret (.lit (.bool true))/\σ'=[]:=by
  obtain⟨n,hn⟩:=(WN x0 x1 z0.1 z0.2.1 z0.2.2.1 z0.2.2.2.1 z0.2.2.2.2.1 z0.2.2.2.2.2.1 z0.2.2.2.2.2.2.1 z0.2.2.2.2.2.2.2 z1.1 z1.2).get
  skip
  exact Jj n x0 x1 true hn []
 refine (Aau (vs:=#[.agg c0,.agg c1]) hv rfl (fun i hi=>?_) (Of hL).1 (Of hL).2).mono fun e W' ⟨he,hb⟩=>?_
 . match i,hi with
   |0,_=>exact q0 []
   |1,_=>exact q1 []
 exact⟨.bool true,he,Aav Tryz.laidOut (by kernel_rfl) rfl rfl rfl Tryz.underlying4 hW' hb⟩
theorem Y3:Rows.DutyTellsAStorySaid :=
 OpenClaim.holds_of_wide 7 Tryz.f7 rfl rfl rfl rfl rfl rfl rfl ⟨rfl,rfl,rfl,rfl,rfl⟩ rfl rfl rfl rfl rfl (by kernel_rfl) Tryz.func7 jf7
  (Č (by kernel_rfl)) (by unfold Func.isWrapper;first|(rw [Ç (by decide +kernel)];kernel_rfl)|(rw [Ä (by decide +kernel)];exact⟨rfl,rfl⟩))
  (fun os started H enc _=>TF os started H enc)
theorem law7_card:Rows.DutyTellsAStoryCardSaid :=
 Claim7.holds_tied_plain_at .later [] [.data,.data,.data,.sentinel,.sentinel,.listed,.data] true (true, "673dcd30ec8db7c817da1f804c9ece45e71061c34b6c47a3f222b0f1336680dd") true
  Y3 (fun _ h=>by cases h) (by kernel_rfl) (fun _ h=>by cases h) dutyTellsAStory_row_tie rfl ⟨rfl,rfl⟩ (by kernel_rfl) rfl
  (fun f fn hf hfn=>by
   obtain rfl:f=7:=Af ((show Tryz.prog.funcNamed "quietus/quietuslaw34.DutyTellsAStory" = some 7 by kernel_rfl).symm.trans hf) |>.symm
   obtain rfl:fn=Tryz.f7:=(Af (Tryz.func7.symm.trans hfn)).symm
   exact⟨by kernel_rfl,fun j t ht=>by
    rw [Tryz.params7] at ht
    have hm:t∈[75,76]:=by simpa using Array.mem_of_getElem? ht
    have hall:([75,76].all fun u=>!Tryz.prog.wantsStandIn u)=true:=by kernel_rfl
    exact (show Tryz.prog.wantsStandIn t=false by simpa using List.all_eq_true.1 hall t hm)⟩)
  (by kernel_rfl)
end Go.Proofs.YtehfpameijkafaaGreatDoor
