/-
  Proved: for every input, DutyStretchesCover returns true, and its arguments read as before. Conditions: the row's own (the library's tables and errors as the program's text lays them: the card ties them).
-/
import Derived.Test.YtehfpameijkafaaGreatDoorTie
import Derived.Test.YtehfpameijkafaaGreatDoorCards
import Derived.SevenTiedAt
import Derived.Test.YtehfpameijkafaaGreatDoorU12
import Derived.Test.YtehfpameijkafaaGreatDoorU15
set_option linter.unusedVariables false
set_option linter.unusedSimpArgs false
namespace Go.Proofs.YtehfpameijkafaaGreatDoor
open Go.ChangeShapes Go.WideShapes Go.ChangeAt Go.RowKit Go.Q Go.Vl Go.Sp
set_option maxRecDepth 100000 in
theorem Uf (os:Os)(started:os.Started)(H:Type)(enc:TypeId×Value->H) :
 ReturnsInHanded {} Tryz.checked os 4 .any (fun w args=>(Rows.dutyStretchesCoverSpec.pre enc Tryz.prog Tryz.f4 [] false w args/\laidMetH Tryz.prog KW w)/\sizedMet enc Tryz.prog Tryz.f4 (OpenSpec.ofChange Rows.dutyStretchesCoverSpec) false w args)
  (Rows.dutyStretchesCoverSpec.post enc Tryz.prog Tryz.f4 false true false false):=by
 refine returnsInHanded_of_change_and (C:=Tryz.checked) (X:=fun w _=>laidMetH Tryz.prog KW w) (fun _ _ _ hh h=>h.of_heap hh) Tryz.own started (by kernel_rfl) Tryz.func4
  (ChangeSpec.witness_shaped (enc:=enc) (C:=Tryz.checked) (os:=os) (X:=fun w _=>laidMetH Tryz.prog KW w) false (World.doorLaid Tryz.prog 400 os) #[.slice none 0 0,.agg #[.slice none 0 0,.int .i64 0,.int .i64 0],.int .i64 0,.slice none 0 0] 8 rfl (World.shaped_of_RefB (by kernel_rfl) (by kernel_rfl)) (by kernel_rfl) (by kernel_rfl) (by kernel_rfl) (Zm os _)) ?_
 intro W base args ds gs before hval hW _ _ hL _
 have hW':=hW
 obtain⟨p,q,hA0,hV,rfl,hfz,hnd⟩:=hW
 have hA:DataW.TrodAll enc Tryz.prog W 0 (fun _=>true) true Tryz.f4.params.toList args.toList ds p:=hA0
 rw [Tryz.params4] at hA
 obtain⟨v0,v1,v2,v3,d0,d1,d2,d3,p0,p1,p2,p3,e0,rfl,rfl,⟨f0,h0⟩,⟨f1,h1⟩,_,⟨f3,h3⟩⟩:=trodAll_four hA
 obtain⟨rfl,rfl⟩:=trodVars_none hV
 obtain⟨a0,b0,c0,rfl⟩:=okWide_slice Tryz.underlying22 (hval 0 22 v0 (by rw [Tryz.params4];rfl) (by rw [e0];rfl))
 obtain⟨x0,q0⟩:=TO rfl h0
 obtain⟨c1,rfl⟩:=PQ (hval 1 25 v1 (by rw [Tryz.params4];rfl) (by rw [e0];rfl))
 obtain⟨x1,q1,r1⟩:=TN h1
 obtain⟨s2,rfl⟩:=okWide_int Tryz.underlying3 (hval 2 3 v2 (by rw [Tryz.params4];rfl) (by rw [e0];rfl))
 obtain⟨a3,b3,c3,rfl⟩:=okWide_slice Tryz.underlying57 (hval 3 57 v3 (by rw [Tryz.params4];rfl) (by rw [e0];rfl))
 obtain⟨x3,q3⟩:=Aap rfl h3
 subst e0
 have hv:VC Tryz.prog 4 [hC x0,.agg (HL x1),iP s2,hP x3 CL] [] fun x σ'=>x=.ret (.lit (.bool true))/\σ'=[]:=by
  obtain⟨n,hn⟩:=(XM x0 x1 s2 x3).get
  simp only [I2]
  exact IJ n x0 x1 s2 x3 true hn []
 refine (Aa1 (vs:=#[.slice a0 b0 c0,.agg c1,.int .i64 s2,.slice a3 b3 c3]) hv rfl (fun i hi=>?_) (OC hL).1 (OC hL).2).mono fun e W' ⟨he,hb⟩=>?_
 . match i,hi with
   |0,_=>exact q0 []
   |1,_=>exact q1 []
   |2,_=>exact .lit _ _
   |3,_=>exact q3 []
 exact⟨.bool true,he,Aa2 Tryz.laidOut (by kernel_rfl) rfl rfl rfl Tryz.underlying4 hW' hb⟩
theorem YC:Rows.DutyStretchesCoverSaid :=
 OpenClaim.holds_of_wide 4 Tryz.f4 rfl rfl rfl rfl rfl rfl rfl ⟨rfl,rfl,rfl,rfl,rfl⟩ rfl rfl rfl rfl rfl (by kernel_rfl) Tryz.func4 jf4
  (ą (by kernel_rfl)) (by unfold Func.isWrapper;first|(rw [Ç (by decide +kernel)];kernel_rfl)|(rw [Å (by decide +kernel)];exact⟨rfl,rfl⟩))
  (fun os started H enc _=>Uf os started H enc)
theorem law4_card:Rows.DutyStretchesCoverCardSaid :=
 Claim7.holds_tied_plain_at .later [] [.data,.data,.data,.sentinel,.sentinel,.listed,.data] true (true, "673dcd30ec8db7c817da1f804c9ece45e71061c34b6c47a3f222b0f1336680dd") true
  YC (fun _ h=>by cases h) (by kernel_rfl) (fun _ h=>by cases h) dutyStretchesCover_row_tie rfl ⟨rfl,rfl⟩ (by kernel_rfl) rfl
  (fun f fn hf hfn=>by
   obtain rfl:f=4:=Af ((show Tryz.prog.funcNamed "quietus/quietuslaw34.DutyStretchesCover" = some 4 by kernel_rfl).symm.trans hf) |>.symm
   obtain rfl:fn=Tryz.f4:=(Af (Tryz.func4.symm.trans hfn)).symm
   exact⟨by kernel_rfl,fun j t ht=>by
    rw [Tryz.params4] at ht
    have hm:t∈[22,25,3,57]:=by simpa using Array.mem_of_getElem? ht
    have hall:([22,25,3,57].all fun u=>!Tryz.prog.wantsStandIn u)=true:=by kernel_rfl
    exact (show Tryz.prog.wantsStandIn t=false by simpa using List.all_eq_true.1 hall t hm)⟩)
  (by kernel_rfl)
end Go.Proofs.YtehfpameijkafaaGreatDoor
