/-
  Proved: for every input, DutyRanksDecide returns true, and its arguments read as before. Conditions: the row's own (the library's tables and errors as the program's text lays them: the card ties them).
-/
import Derived.Test.YtehfpameijkafaaGreatDoorTie
import Derived.Test.YtehfpameijkafaaGreatDoorCards
import Derived.SevenTiedAt
import Derived.Test.YtehfpameijkafaaGreatDoorU11
import Derived.Test.YtehfpameijkafaaGreatDoorU12
import Derived.Test.YtehfpameijkafaaGreatDoorU15
set_option linter.unusedVariables false
set_option linter.unusedSimpArgs false
namespace Go.Proofs.YtehfpameijkafaaGreatDoor
open Go.ChangeShapes Go.WideShapes Go.ChangeAt Go.RowKit Go.Q Go.Vl Go.Sp
set_option maxRecDepth 100000 in
theorem UI (os:Os)(started:os.Started)(H:Type)(enc:TypeId×Value->H) :
 ReturnsInHanded {} Tryz.checked os 5 .any (fun w args=>(Rows.dutyRanksDecideSpec.pre enc Tryz.prog Tryz.f5 [] false w args/\laidMetH Tryz.prog Lj w)/\sizedMet enc Tryz.prog Tryz.f5 (OpenSpec.ofChange Rows.dutyRanksDecideSpec) false w args)
  (Rows.dutyRanksDecideSpec.post enc Tryz.prog Tryz.f5 false true false false):=by
 refine returnsInHanded_of_change_and (C:=Tryz.checked) (X:=fun w _=>laidMetH Tryz.prog Lj w) (fun _ _ _ hh h=>h.of_heap hh) Tryz.own started (by kernel_rfl) Tryz.func5
  (ChangeSpec.witness_shaped (enc:=enc) (C:=Tryz.checked) (os:=os) (X:=fun w _=>laidMetH Tryz.prog Lj w) false (World.doorLaid Tryz.prog 400 os) #[.slice none 0 0,.agg #[.string ⟨#[]⟩,.int .i64 0,.int .i64 0,.int .i64 0,.int .i64 0,.int .i64 0,.string ⟨#[]⟩,.slice none 0 0,.int .i64 0,.int .i64 0,.int .i64 0,.string ⟨#[]⟩,.slice none 0 0,.int .i64 0,.int .i64 0,.int .i64 0,.string ⟨#[]⟩,.slice none 0 0,.int .i64 0,.int .i64 0],.agg #[.slice none 0 0,.int .i64 0,.int .i64 0],.agg #[.int .i64 0,.int .i64 0]] 8 rfl (World.shaped_of_RefB (by kernel_rfl) (by kernel_rfl)) (by kernel_rfl) (by kernel_rfl) (by kernel_rfl) (Aaf os _)) ?_
 intro W base args ds gs before hval hW _ hsz hL _
 have hW':=hW
 obtain⟨p,q,hA0,hV,rfl,hfz,hnd⟩:=hW
 have hA:DataW.TrodAll enc Tryz.prog W 0 (fun _=>true) true Tryz.f5.params.toList args.toList ds p:=hA0
 rw [Tryz.params5] at hA
 obtain⟨v0,v1,v2,v3,d0,d1,d2,d3,p0,p1,p2,p3,e0,rfl,rfl,⟨f0,h0⟩,⟨f1,h1⟩,⟨f2,h2⟩,⟨f3,h3⟩⟩:=trodAll_four hA
 obtain⟨rfl,rfl⟩:=trodVars_none hV
 obtain⟨a0,b0,c0,rfl⟩:=okWide_slice Tryz.underlying22 (hval 0 22 v0 (by rw [Tryz.params5];rfl) (by rw [e0];rfl))
 obtain⟨x0,q0⟩:=Uz rfl h0
 obtain⟨c1,rfl⟩:=R5 (hval 1 66 v1 (by rw [Tryz.params5];rfl) (by rw [e0];rfl))
 obtain⟨x1,q1⟩:=VZ h1
 obtain⟨c2,rfl⟩:=Qj (hval 2 25 v2 (by rw [Tryz.params5];rfl) (by rw [e0];rfl))
 obtain⟨x2,q2,r2⟩:=Uy h2
 have w3:=(hval 3 67 v3 (by rw [Tryz.params5];rfl) (by rw [e0];rfl))
 obtain⟨c3,rfl⟩:=U1 w3
 obtain⟨x3,q3⟩:=Zp h3 (Ys w3)
 have z0:=Vs h0 (q0 []) hsz (by rw [Tryz.params5];rfl) rfl
 subst e0
 have hv:VC Tryz.prog 5 [hC x0,.agg (Bg x1),.agg (HR x2),.agg [iP x3.1,iP x3.2]] [] fun x σ'=>x=.ret (.lit (.bool true))/\σ'=[]:=by
  obtain⟨n,hn⟩:=(Yb x0 x1 x2 x3 z0).get
  simp only [GR,I8]
  exact Ka n x0 x1 x2 x3 true hn []
 refine (Ab5 (vs:=#[.slice a0 b0 c0,.agg c1,.agg c2,.agg c3]) hv rfl (fun i hi=>?_) (OW hL).1 (OW hL).2).mono fun e W' ⟨he,hb⟩=>?_
 . match i,hi with
   |0,_=>exact q0 []
   |1,_=>exact q1 []
   |2,_=>exact q2 []
   |3,_=>exact q3 []
 exact⟨.bool true,he,Ab6 Tryz.laidOut (by kernel_rfl) rfl rfl rfl Tryz.underlying4 hW' hb⟩
theorem Z2:Rows.DutyRanksDecideSaid :=
 OpenClaim.holds_of_wide 5 Tryz.f5 rfl rfl rfl rfl rfl rfl rfl ⟨rfl,rfl,rfl,rfl,rfl⟩ rfl rfl rfl rfl rfl (by kernel_rfl) Tryz.func5 jf5
  (þ (by kernel_rfl)) (by unfold Func.isWrapper;first|(rw [Ç (by decide +kernel)];kernel_rfl)|(rw [Å (by decide +kernel)];exact⟨rfl,rfl⟩))
  (fun os started H enc _=>UI os started H enc)
theorem law5_card:Rows.DutyRanksDecideCardSaid :=
 Claim7.holds_tied_plain_at .later [] [.data,.data,.data,.sentinel,.sentinel,.listed,.data] true (true, "673dcd30ec8db7c817da1f804c9ece45e71061c34b6c47a3f222b0f1336680dd") true
  Z2 (fun _ h=>by cases h) (by kernel_rfl) (fun _ h=>by cases h) dutyRanksDecide_row_tie rfl ⟨rfl,rfl⟩ (by kernel_rfl) rfl
  (fun f fn hf hfn=>by
   obtain rfl:f=5:=Af ((show Tryz.prog.funcNamed "quietus/quietuslaw34.DutyRanksDecide" = some 5 by kernel_rfl).symm.trans hf) |>.symm
   obtain rfl:fn=Tryz.f5:=(Af (Tryz.func5.symm.trans hfn)).symm
   exact⟨by kernel_rfl,fun j t ht=>by
    rw [Tryz.params5] at ht
    have hm:t∈[22,66,25,67]:=by simpa using Array.mem_of_getElem? ht
    have hall:([22,66,25,67].all fun u=>!Tryz.prog.wantsStandIn u)=true:=by kernel_rfl
    exact (show Tryz.prog.wantsStandIn t=false by simpa using List.all_eq_true.1 hall t hm)⟩)
  (by kernel_rfl)
end Go.Proofs.YtehfpameijkafaaGreatDoor
