/-
  Proved: for every input, DutyKnowsTwoTimes returns true, and its arguments read as before. Conditions: the row's own (the library's tables and errors as the program's text lays them: the card ties them).
-/
import Derived.Test.YtehfpameijkafaaGreatDoorTie
import Derived.Test.YtehfpameijkafaaGreatDoorCards
import Derived.SevenTiedAt
import Derived.Test.YtehfpameijkafaaGreatDoorW11
import Derived.Test.YtehfpameijkafaaGreatDoorW12
import Derived.Test.YtehfpameijkafaaGreatDoorW15
set_option linter.unusedVariables false
set_option linter.unusedSimpArgs false
namespace Go.Proofs.YtehfpameijkafaaGreatDoor
open Go.ChangeShapes Go.WideShapes Go.ChangeAt Go.RowKit Go.Q Go.Vl Go.Sp
set_option maxRecDepth 100000 in
theorem UU (os:Os)(started:os.Started)(H:Type)(enc:TypeId×Value->H) :
 ReturnsInHanded {} Tryz.checked os 6 .any (fun w args=>(Rows.dutyKnowsTwoTimesSpec.pre enc Tryz.prog Tryz.f6 [] false w args/\laidMetH Tryz.prog Lp w)/\sizedMet enc Tryz.prog Tryz.f6 (OpenSpec.ofChange Rows.dutyKnowsTwoTimesSpec) false w args)
  (Rows.dutyKnowsTwoTimesSpec.post enc Tryz.prog Tryz.f6 false true false false):=by
 refine returnsInHanded_of_change_and (C:=Tryz.checked) (X:=fun w _=>laidMetH Tryz.prog Lp w) (fun _ _ _ hh h=>h.of_heap hh) Tryz.own started (by kernel_rfl) Tryz.func6
  (ChangeSpec.witness_shaped (enc:=enc) (C:=Tryz.checked) (os:=os) (X:=fun w _=>laidMetH Tryz.prog Lp w) false (World.doorLaid Tryz.prog 400 os) #[.slice none 0 0,.agg #[.slice none 0 0,.int .i64 0,.int .i64 0],.agg #[.int .i64 0,.int .i64 0,.int .i64 0]] 8 rfl (World.shaped_of_RefB (by kernel_rfl) (by kernel_rfl)) (by kernel_rfl) (by kernel_rfl) (by kernel_rfl) (Aat os _)) ?_
 intro W base args ds gs before hval hW _ _ hL _
 have hW':=hW
 obtain⟨p,q,hA0,hV,rfl,hfz,hnd⟩:=hW
 have hA:DataW.TrodAll enc Tryz.prog W 0 (fun _=>true) true Tryz.f6.params.toList args.toList ds p:=hA0
 rw [Tryz.params6] at hA
 obtain⟨v0,v1,v2,d0,d1,d2,p0,p1,p2,e0,rfl,rfl,⟨f0,h0⟩,⟨f1,h1⟩,⟨f2,h2⟩⟩:=trodAll_three hA
 obtain⟨rfl,rfl⟩:=trodVars_none hV
 obtain⟨a0,b0,c0,rfl⟩:=okWide_slice Tryz.underlying22 (hval 0 22 v0 (by rw [Tryz.params6];rfl) (by rw [e0];rfl))
 obtain⟨x0,q0⟩:=UB rfl h0
 obtain⟨c1,rfl⟩:=Qv (hval 1 25 v1 (by rw [Tryz.params6];rfl) (by rw [e0];rfl))
 obtain⟨x1,q1,r1⟩:=UA h1
 have w2:=(hval 2 26 v2 (by rw [Tryz.params6];rfl) (by rw [e0];rfl))
 obtain⟨c2,rfl⟩:=Tq w2
 obtain⟨x2,q2⟩:=Y0 h2 (W9 w2)
 subst e0
 have hv:VC Tryz.prog 6 [hC x0,.agg (HU x1),.agg [iP x2.1,iP x2.2.1,iP x2.2.2]] [] fun x σ'=>x=.ret (.lit (.bool true))/\σ'=[]:=by
  obtain⟨n,hn⟩:=(Yn x0 x1 x2).get
  simp only [IB]
  exact Jo n x0 x1 x2 true hn []
 refine (Aco (vs:=#[.slice a0 b0 c0,.agg c1,.agg c2]) hv rfl (fun i hi=>?_) (Pf hL).1 (Pf hL).2).mono fun e W' ⟨he,hb⟩=>?_
 . match i,hi with
   |0,_=>exact q0 []
   |1,_=>exact q1 []
   |2,_=>exact q2 []
 exact⟨.bool true,he,Acp Tryz.laidOut (by kernel_rfl) rfl rfl rfl Tryz.underlying4 hW' hb⟩
theorem ZJ:Rows.DutyKnowsTwoTimesSaid :=
 OpenClaim.holds_of_wide 6 Tryz.f6 rfl rfl rfl rfl rfl rfl rfl ⟨rfl,rfl,rfl,rfl,rfl⟩ rfl rfl rfl rfl rfl (by kernel_rfl) Tryz.func6 jf6
  (ć (by kernel_rfl)) (by unfold Func.isWrapper;first|(rw [Ç (by decide +kernel)];kernel_rfl)|(rw [Ä (by decide +kernel)];exact⟨rfl,rfl⟩))
  (fun os started H enc _=>UU os started H enc)
theorem law6_card:Rows.DutyKnowsTwoTimesCardSaid :=
 Claim7.holds_tied_plain_at .later [] [.data,.data,.data,.sentinel,.sentinel,.listed,.data] true (true, "673dcd30ec8db7c817da1f804c9ece45e71061c34b6c47a3f222b0f1336680dd") true
  ZJ (fun _ h=>by cases h) (by kernel_rfl) (fun _ h=>by cases h) dutyKnowsTwoTimes_row_tie rfl ⟨rfl,rfl⟩ (by kernel_rfl) rfl
  (fun f fn hf hfn=>by
   obtain rfl:f=6:=Af ((show Tryz.prog.funcNamed "quietus/quietuslaw34.DutyKnowsTwoTimes" = some 6 by kernel_rfl).symm.trans hf) |>.symm
   obtain rfl:fn=Tryz.f6:=(Af (Tryz.func6.symm.trans hfn)).symm
   exact⟨by kernel_rfl,fun j t ht=>by
    rw [Tryz.params6] at ht
    have hm:t∈[22,25,26]:=by simpa using Array.mem_of_getElem? ht
    have hall:([22,25,26].all fun u=>!Tryz.prog.wantsStandIn u)=true:=by kernel_rfl
    exact (show Tryz.prog.wantsStandIn t=false by simpa using List.all_eq_true.1 hall t hm)⟩)
  (by kernel_rfl)
end Go.Proofs.YtehfpameijkafaaGreatDoor
