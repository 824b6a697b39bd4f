/-
  Proved: for every input, DutyIsAsSpecified returns true, and its arguments read as before. Conditions: the row's own (the library's tables and errors as the program's text lays them: the card ties them).
-/
import Derived.Test.YtehfpameijkafaaGreatDoorTie
import Derived.Test.YtehfpameijkafaaGreatDoorCards
import Derived.SevenTiedAt
import Derived.Test.YtehfpameijkafaaGreatDoorX11
import Derived.Test.YtehfpameijkafaaGreatDoorX12
import Derived.Test.YtehfpameijkafaaGreatDoorX14
set_option linter.unusedVariables false
set_option linter.unusedSimpArgs false
namespace Go.Proofs.YtehfpameijkafaaGreatDoor
open Go.ChangeShapes Go.WideShapes Go.ChangeAt Go.RowKit Go.Q Go.Vl Go.Sp
set_option maxRecDepth 100000 in
theorem VL (os:Os)(started:os.Started)(H:Type)(enc:TypeId×Value->H) :
 ReturnsInHanded {} Tryz.checked os 3 .any (fun w args=>(Rows.dutyIsAsSpecifiedSpec.pre enc Tryz.prog Tryz.f3 [] false w args/\laidMetH Tryz.prog LN w)/\sizedMet enc Tryz.prog Tryz.f3 (OpenSpec.ofChange Rows.dutyIsAsSpecifiedSpec) false w args)
  (Rows.dutyIsAsSpecifiedSpec.post enc Tryz.prog Tryz.f3 false true false false):=by
 refine returnsInHanded_of_change_and (C:=Tryz.checked) (X:=fun w _=>laidMetH Tryz.prog LN w) (fun _ _ _ f h=>h.of_heap f) Tryz.own started (by kernel_rfl) Tryz.func3
  (ChangeSpec.witness_shaped (enc:=enc) (C:=Tryz.checked) (os:=os) (X:=fun w _=>laidMetH Tryz.prog LN w) false (World.doorLaid Tryz.prog 400 os) #[.slice none 0 0,.agg #[.slice none 0 0,.int .i64 0,.int .i64 0],.agg #[.int .i64 0,.int .i64 0,.int .i64 0]] 8 rfl (World.shaped_of_RefB (by kernel_rfl) (by kernel_rfl)) (by kernel_rfl) (by kernel_rfl) (by kernel_rfl) (Abw os _)) ?_
 intro W base args ds gs before a d _ _ hL _
 have b:=d
 obtain⟨p,q,c,g,rfl,j,k⟩:=d
 have hA:DataW.TrodAll enc Tryz.prog W 0 (fun _=>true) true Tryz.f3.params.toList args.toList ds p:=c
 rw [Tryz.params3] at hA
 obtain⟨v0,v1,v2,d0,d1,d2,p0,p1,p2,e0,rfl,rfl,⟨f0,l⟩,⟨f1,m⟩,⟨f2,o⟩⟩:=trodAll_three hA
 obtain⟨rfl,rfl⟩:=trodVars_none g
 obtain⟨a0,b0,c0,rfl⟩:=okWide_slice Tryz.underlying22 (a 0 22 v0 (by rw [Tryz.params3];rfl) (by rw [e0];rfl))
 obtain⟨x0,q0⟩:=V6 rfl l
 obtain⟨c1,rfl⟩:=QY (a 1 25 v1 (by rw [Tryz.params3];rfl) (by rw [e0];rfl))
 obtain⟨x1,q1,r1⟩:=V5 m
 have w2:=(a 2 26 v2 (by rw [Tryz.params3];rfl) (by rw [e0];rfl))
 obtain⟨c2,rfl⟩:=Uf w2
 obtain⟨x2,q2⟩:=Zj o (Xv w2)
 subst e0
 have r:VC Tryz.prog 3 [hC x0,.agg (I1 x1),.agg [iP x2.1,iP x2.2.1,iP x2.2.2]] [] fun x σ'=>x=.ret (.lit (.bool true))/\σ'=[]:=by
  obtain⟨n,s⟩:=(Aac x0 x1 x2).get
  simp only [Ji]
  exact JI n x0 x1 x2 true s []
 refine (Adp (vs:=#[.slice a0 b0 c0,.agg c1,.agg c2]) r rfl (fun i t=>?_) (PD hL).1 (PD hL).2).mono fun e W' ⟨u,hb⟩=>?_
 . match i,t with
   |0,_=>exact q0 []
   |1,_=>exact q1 []
   |2,_=>exact q2 []
 exact⟨.bool true,u,Adq Tryz.laidOut (by kernel_rfl) rfl rfl rfl Tryz.underlying4 b hb⟩
theorem Aa2:Rows.DutyIsAsSpecifiedSaid :=
 OpenClaim.holds_of_wide 3 Tryz.f3 rfl rfl rfl rfl rfl rfl rfl ⟨rfl,rfl,rfl,rfl,rfl⟩ rfl rfl rfl rfl rfl (by kernel_rfl) Tryz.func3 jf3
  (þ (by kernel_rfl)) (by unfold Func.isWrapper;first|(rw [È (by decide +kernel)];kernel_rfl)|(rw [Ä (by decide +kernel)];exact⟨rfl,rfl⟩))
  (fun os started H enc _=>VL os started H enc)
theorem law3_card:Rows.DutyIsAsSpecifiedCardSaid :=
 Claim7.holds_tied_plain_at .later [] [.data,.data,.data,.sentinel,.sentinel,.listed,.data] true (true, "673dcd30ec8db7c817da1f804c9ece45e71061c34b6c47a3f222b0f1336680dd") true
  Aa2 (fun _ h=>by cases h) (by kernel_rfl) (fun _ h=>by cases h) dutyIsAsSpecified_row_tie rfl ⟨rfl,rfl⟩ (by kernel_rfl) rfl
  (fun f fn hf hfn=>by
   obtain rfl:f=3:=Ag ((show Tryz.prog.funcNamed "quietus/quietuslaw34.DutyIsAsSpecified" = some 3 by kernel_rfl).symm.trans hf) |>.symm
   obtain rfl:fn=Tryz.f3:=(Ag (Tryz.func3.symm.trans hfn)).symm
   exact⟨by kernel_rfl,fun j t ht=>by
    rw [Tryz.params3] at ht
    have hm:t∈[22,25,26]:=by simpa using Array.mem_of_getElem? ht
    have a:([22,25,26].all fun u=>!Tryz.prog.wantsStandIn u)=true:=by kernel_rfl
    exact (show Tryz.prog.wantsStandIn t=false by simpa using List.all_eq_true.1 a t hm)⟩)
  (by kernel_rfl)
end Go.Proofs.YtehfpameijkafaaGreatDoor
