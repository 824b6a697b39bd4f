/-
  Proved: for every input, StatuteLearns returns true, and its arguments read as before. Conditions: the row's own (the library's tables and errors as the program's text lays them: the card ties them).
-/
import Derived.Test.YtkcfmlfkfagejaaGreatDoorTie
import Derived.Test.YtkcfmlfkfagejaaGreatDoorCards
import Derived.SevenTiedAt
import Derived.Test.YtkcfmlfkfagejaaGreatDoorU17
import Derived.Test.YtkcfmlfkfagejaaGreatDoorU18
import Derived.Test.YtkcfmlfkfagejaaGreatDoorU21
import Derived.Test.YtkcfmlfkfagejaaGreatDoorU49
set_option linter.unusedVariables false
set_option linter.unusedSimpArgs false
namespace Go.Proofs.YtkcfmlfkfagejaaGreatDoor
open Go.ChangeShapes Go.WideShapes Go.ChangeAt Go.RowKit Go.Q Go.Vl Go.Sp
set_option maxRecDepth 100000 in
theorem Qy (os:Os)(started:os.Started)(H:Type)(enc:TypeId×Value->H) :
 ReturnsInHanded {} Tryz.checked os 6 .any (fun w args=>(Rows.statuteLearnsSpec.pre enc Tryz.prog Tryz.f6 [] false w args/\laidMetH Tryz.prog Jb w)/\sizedMet enc Tryz.prog Tryz.f6 (OpenSpec.ofChange Rows.statuteLearnsSpec) false w args)
  (Rows.statuteLearnsSpec.post enc Tryz.prog Tryz.f6 false true false false):=by
 refine returnsInHanded_of_change_and (C:=Tryz.checked) (X:=fun w _=>laidMetH Tryz.prog Jb w) (fun _ _ _ hh h=>h.of_heap hh) Tryz.own started (by kernel_rfl) Tryz.func6
  (ChangeSpec.witness_shaped (enc:=enc) (C:=Tryz.checked) (os:=os) (X:=fun w _=>laidMetH Tryz.prog Jb w) false (World.doorLaid Tryz.prog 400 os) #[.agg #[.int .i64 0,.int .i64 0,.string ⟨#[]⟩,.slice none 0 0,.int .i64 0],.agg #[.slice none 0 0,.int .i64 0,.int .i64 0],.agg #[.int .i64 0,.int .i64 0],.int .u8 0] 8 rfl (World.shaped_of_RefB (by kernel_rfl) (by kernel_rfl)) (by kernel_rfl) (by kernel_rfl) (by kernel_rfl) (U2 os _)) ?_
 intro W base args ds gs before hval hW _ _ hL _
 have hW':=hW
 obtain⟨p,q,hA0,hV,rfl,hfz,hnd⟩:=hW
 have hA:DataW.TrodAll enc Tryz.prog W 0 (fun _=>true) true Tryz.f6.params.toList args.toList ds p:=hA0
 rw [Tryz.params6] at hA
 obtain⟨v0,v1,v2,v3,d0,d1,d2,d3,p0,p1,p2,p3,e0,rfl,rfl,⟨f0,h0⟩,⟨f1,h1⟩,⟨f2,h2⟩,_⟩:=trodAll_four hA
 obtain⟨rfl,rfl⟩:=trodVars_none hV
 obtain⟨c0,rfl⟩:=Qi (hval 0 24 v0 (by rw [Tryz.params6];rfl) (by rw [e0];rfl))
 obtain⟨x0,q0⟩:=TV h0
 obtain⟨c1,rfl⟩:=MK (hval 1 29 v1 (by rw [Tryz.params6];rfl) (by rw [e0];rfl))
 obtain⟨x1,q1,r1⟩:=Qe h1
 have w2:=(hval 2 56 v2 (by rw [Tryz.params6];rfl) (by rw [e0];rfl))
 obtain⟨c2,rfl⟩:=Qh w2
 obtain⟨x2,q2⟩:=TT h2 (SZ w2)
 obtain⟨s3,rfl,r3⟩:=Qj (hval 3 5 v3 (by rw [Tryz.params6];rfl) (by rw [e0];rfl))
 subst e0
 have hv:VC Tryz.prog 6 [.agg (AQ x0),.agg (Gj x1),.agg [iP x2.1,iP x2.2],uP s3] [] fun x σ'=>x=.ret (.lit (.bool true))/\σ'=[]:=by
  obtain⟨n,hn⟩:=(R3 x0 x1 x2 s3 r3.1 r3.2).get
  simp only [EN,GK]
  exact IW n x0 x1 x2 s3 true hn []
 refine (Vx (vs:=#[.agg c0,.agg c1,.agg c2,.int .u8 s3]) hv rfl (fun i hi=>?_) (LS hL).1 (LS hL).2).mono fun e W' ⟨he,hb⟩=>?_
 . match i,hi with
   |0,_=>exact q0 []
   |1,_=>exact q1 []
   |2,_=>exact q2 []
   |3,_=>exact .lit _ _
 exact⟨.bool true,he,Vy Tryz.laidOut (by kernel_rfl) rfl rfl rfl Tryz.underlying4 hW' hb⟩
theorem Ui:Rows.StatuteLearnsSaid :=
 OpenClaim.holds_of_wide 6 Tryz.f6 rfl rfl rfl rfl rfl rfl rfl ⟨rfl,rfl,rfl,rfl,rfl⟩ rfl rfl rfl rfl rfl (by kernel_rfl) Tryz.func6 Za
  (of_decide_eq_true (by kernel_rfl)) (by unfold Func.isWrapper;first|(rw [if_pos (by decide +kernel)];kernel_rfl)|(rw [if_neg (by decide +kernel)];exact⟨rfl,rfl⟩))
  (fun os started H enc _=>Qy os started H enc)
theorem law6_card:Rows.StatuteLearnsCardSaid :=
 Claim7.holds_tied_plain_at .later [] [.data,.data,.data,.sentinel,.sentinel,.listed,.data] true (true, "998684024863164fcd98a781fa86bdad5a92fa36aace66a0ffa8713220559c68") true
  Ui (fun _ h=>by cases h) (by kernel_rfl) (fun _ h=>by cases h) statuteLearns_row_tie rfl ⟨rfl,rfl⟩ (by kernel_rfl) rfl
  (fun f fn hf hfn=>by
   obtain rfl:f=6:=Ag ((show Tryz.prog.funcNamed "quietus/quietuslaw33.StatuteLearns" = some 6 by kernel_rfl).symm.trans hf) |>.symm
   obtain rfl:fn=Tryz.f6:=(Ag (Tryz.func6.symm.trans hfn)).symm
   exact⟨by kernel_rfl,fun j t ht=>by
    rw [Tryz.params6] at ht
    have hm:t∈[24,29,56,5]:=by simpa using Array.mem_of_getElem? ht
    have hall:([24,29,56,5].all fun u=>!Tryz.prog.wantsStandIn u)=true:=by kernel_rfl
    exact (show Tryz.prog.wantsStandIn t=false by simpa using List.all_eq_true.1 hall t hm)⟩)
  (by kernel_rfl)
end Go.Proofs.YtkcfmlfkfagejaaGreatDoor
