/-
  Proved: for every input, StatuteValuesAsSpecified returns true, and its arguments read as before. Conditions: the row's own (the library's tables and errors as the program's text lays them: the card ties them).
-/
import Derived.Test.YtkcfmlfkfagejaaGreatDoorTie
import Derived.Test.YtkcfmlfkfagejaaGreatDoorCards
import Derived.SevenTiedAt
import Derived.Test.YtkcfmlfkfagejaaGreatDoorU17
import Derived.Test.YtkcfmlfkfagejaaGreatDoorU18
import Derived.Test.YtkcfmlfkfagejaaGreatDoorU21
import Derived.Test.YtkcfmlfkfagejaaGreatDoorU49
set_option linter.unusedVariables false
set_option linter.unusedSimpArgs false
namespace Go.Proofs.YtkcfmlfkfagejaaGreatDoor
open Go.ChangeShapes Go.WideShapes Go.ChangeAt Go.RowKit Go.Q Go.Vl Go.Sp
set_option maxRecDepth 100000 in
theorem SI (os:Os)(started:os.Started)(H:Type)(enc:TypeId×Value->H) :
 ReturnsInHanded {} Tryz.checked os 3 .any (fun w args=>(Rows.statuteValuesAsSpecifiedSpec.pre enc Tryz.prog Tryz.f3 [] false w args/\laidMetH Tryz.prog Ko w)/\sizedMet enc Tryz.prog Tryz.f3 (OpenSpec.ofChange Rows.statuteValuesAsSpecifiedSpec) false w args)
  (Rows.statuteValuesAsSpecifiedSpec.post enc Tryz.prog Tryz.f3 false true false false):=by
 refine returnsInHanded_of_change_and (C:=Tryz.checked) (X:=fun w _=>laidMetH Tryz.prog Ko w) (fun _ _ _ hh h=>h.of_heap hh) Tryz.own started (by kernel_rfl) Tryz.func3
  (ChangeSpec.witness_shaped (enc:=enc) (C:=Tryz.checked) (os:=os) (X:=fun w _=>laidMetH Tryz.prog Ko w) false (World.doorLaid Tryz.prog 400 os) #[.agg #[.string ⟨#[]⟩,.int .i64 0,.int .i64 0,.int .i64 0,.int .i64 0,.int .i64 0,.string ⟨#[]⟩,.slice none 0 0,.int .i64 0,.int .i64 0,.int .i64 0,.string ⟨#[]⟩,.slice none 0 0,.int .i64 0,.int .i64 0,.int .i64 0,.string ⟨#[]⟩,.slice none 0 0,.int .i64 0,.int .i64 0],.agg #[.slice none 0 0,.int .i64 0,.int .i64 0],.int .i64 0] 8 rfl (World.shaped_of_RefB (by kernel_rfl) (by kernel_rfl)) (by kernel_rfl) (by kernel_rfl) (by kernel_rfl) (Xu os _)) ?_
 intro W base args ds gs before hval hW _ _ hL _
 have hW':=hW
 obtain⟨p,q,hA0,hV,rfl,hfz,hnd⟩:=hW
 have hA:DataW.TrodAll enc Tryz.prog W 0 (fun _=>true) true Tryz.f3.params.toList args.toList ds p:=hA0
 rw [Tryz.params3] at hA
 obtain⟨v0,v1,v2,d0,d1,d2,p0,p1,p2,e0,rfl,rfl,⟨f0,h0⟩,⟨f1,h1⟩,_⟩:=trodAll_three hA
 obtain⟨rfl,rfl⟩:=trodVars_none hV
 obtain⟨c0,rfl⟩:=PJ (hval 0 26 v0 (by rw [Tryz.params3];rfl) (by rw [e0];rfl))
 obtain⟨x0,q0⟩:=TV h0
 obtain⟨c1,rfl⟩:=OB (hval 1 29 v1 (by rw [Tryz.params3];rfl) (by rw [e0];rfl))
 obtain⟨x1,q1,r1⟩:=Sx h1
 obtain⟨s2,rfl⟩:=okWide_int Tryz.underlying3 (hval 2 3 v2 (by rw [Tryz.params3];rfl) (by rw [e0];rfl))
 subst e0
 have hv:VC Tryz.prog 3 [.agg (C7 x0),.agg (Hn x1),iP s2] [] fun x σ'=>x=.ret (.lit (.bool true))/\σ'=[]:=by
  obtain⟨n,hn⟩:=(T6 x0 x1 s2).get
  simp only [Ge,Ib]
  exact Gw n x0 x1 s2 true hn []
 refine (Yo (vs:=#[.agg c0,.agg c1,.int .i64 s2]) hv rfl (fun i hi=>?_) (N6 hL).1 (N6 hL).2).mono fun e W' ⟨he,hb⟩=>?_
 . match i,hi with
   |0,_=>exact q0 []
   |1,_=>exact q1 []
   |2,_=>exact .lit _ _
 exact⟨.bool true,he,Yp Tryz.laidOut (by kernel_rfl) rfl rfl rfl Tryz.underlying4 hW' hb⟩
theorem Xc:Rows.StatuteValuesAsSpecifiedSaid :=
 OpenClaim.holds_of_wide 3 Tryz.f3 rfl rfl rfl rfl rfl rfl rfl ⟨rfl,rfl,rfl,rfl,rfl⟩ rfl rfl rfl rfl rfl (by kernel_rfl) Tryz.func3 jf3
  (of_decide_eq_true (by kernel_rfl)) (by unfold Func.isWrapper;first|(rw [if_pos (by decide +kernel)];kernel_rfl)|(rw [if_neg (by decide +kernel)];exact⟨rfl,rfl⟩))
  (fun os started H enc _=>SI os started H enc)
theorem law3_card:Rows.StatuteValuesAsSpecifiedCardSaid :=
 Claim7.holds_tied_plain_at .later [] [.data,.data,.data,.sentinel,.sentinel,.listed,.data] true (true, "998684024863164fcd98a781fa86bdad5a92fa36aace66a0ffa8713220559c68") true
  Xc (fun _ h=>by cases h) (by kernel_rfl) (fun _ h=>by cases h) statuteValuesAsSpecified_row_tie rfl ⟨rfl,rfl⟩ (by kernel_rfl) rfl
  (fun f fn hf hfn=>by
   obtain rfl:f=3:=Ah ((show Tryz.prog.funcNamed "quietus/quietuslaw33.StatuteValuesAsSpecified" = some 3 by kernel_rfl).symm.trans hf) |>.symm
   obtain rfl:fn=Tryz.f3:=(Ah (Tryz.func3.symm.trans hfn)).symm
   exact⟨by kernel_rfl,fun j t ht=>by
    rw [Tryz.params3] at ht
    have hm:t∈[26,29,3]:=by simpa using Array.mem_of_getElem? ht
    have hall:([26,29,3].all fun u=>!Tryz.prog.wantsStandIn u)=true:=by kernel_rfl
    exact (show Tryz.prog.wantsStandIn t=false by simpa using List.all_eq_true.1 hall t hm)⟩)
  (by kernel_rfl)
end Go.Proofs.YtkcfmlfkfagejaaGreatDoor
