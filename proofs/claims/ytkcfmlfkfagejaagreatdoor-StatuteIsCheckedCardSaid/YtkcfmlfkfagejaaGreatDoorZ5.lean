/-
  Proved: for every input, StatuteIsChecked returns true, and its arguments read as before. Conditions: the row's own (the library's tables and errors as the program's text lays them: the card ties them).
-/
import Derived.Test.YtkcfmlfkfagejaaGreatDoorTie
import Derived.Test.YtkcfmlfkfagejaaGreatDoorCards
import Derived.SevenTiedAt
import Derived.Test.YtkcfmlfkfagejaaGreatDoorU17
import Derived.Test.YtkcfmlfkfagejaaGreatDoorU18
import Derived.Test.YtkcfmlfkfagejaaGreatDoorU24
import Derived.Test.YtkcfmlfkfagejaaGreatDoorU46
set_option linter.unusedVariables false
set_option linter.unusedSimpArgs false
namespace Go.Proofs.YtkcfmlfkfagejaaGreatDoor
open Go.ChangeShapes Go.WideShapes Go.ChangeAt Go.RowKit Go.Q Go.Vl Go.Sp
set_option maxRecDepth 100000 in
theorem RC (os:Os)(started:os.Started)(H:Type)(enc:TypeId×Value->H) :
 ReturnsInHanded {} Tryz.checked os 5 .any (fun w args=>(Rows.statuteIsCheckedSpec.pre enc Tryz.prog Tryz.f5 [] false w args/\laidMetH Tryz.prog JK w)/\sizedMet enc Tryz.prog Tryz.f5 (OpenSpec.ofChange Rows.statuteIsCheckedSpec) false w args)
  (Rows.statuteIsCheckedSpec.post enc Tryz.prog Tryz.f5 false true false false):=by
 refine returnsInHanded_of_change_and (C:=Tryz.checked) (X:=fun w _=>laidMetH Tryz.prog JK w) (fun _ _ _ hh h=>h.of_heap hh) Tryz.own started (by kernel_rfl) Tryz.func5
  (ChangeSpec.witness_shaped (enc:=enc) (C:=Tryz.checked) (os:=os) (X:=fun w _=>laidMetH Tryz.prog JK w) false (World.doorLaid Tryz.prog 400 os) #[.string ⟨#[]⟩] 8 rfl (World.shaped_of_RefB (by kernel_rfl) (by kernel_rfl)) (by kernel_rfl) (by kernel_rfl) (by kernel_rfl) (W7 os _)) ?_
 intro W base args ds gs before hval hW _ _ hL _
 have hW':=hW
 obtain⟨p,q,hA0,hV,rfl,hfz,hnd⟩:=hW
 have hA:DataW.TrodAll enc Tryz.prog W 0 (fun _=>true) true Tryz.f5.params.toList args.toList ds p:=hA0
 rw [Tryz.params5] at hA
 obtain⟨v0,d0,e0,rfl,_⟩:=trodAll_one hA
 obtain⟨rfl,rfl⟩:=trodVars_none hV
 obtain⟨s0,rfl⟩:=okWide_string Tryz.underlying9 (hval 0 9 v0 (by rw [Tryz.params5];rfl) (by rw [e0];rfl))
 subst e0
 have hv:VC Tryz.prog 5 [tP s0] [] fun x σ'=>x=.ret (.lit (.bool true))/\σ'=[]:=by
  obtain⟨n,hn⟩:=(Sm s0).get
  skip
  exact Ip n s0 true hn []
 refine (XL (vs:=#[.string s0]) hv rfl (fun i hi=>?_) (MI hL).1 (MI hL).2).mono fun e W' ⟨he,hb⟩=>?_
 . match i,hi with
   |0,_=>exact .lit _ _
 exact⟨.bool true,he,XM Tryz.laidOut (by kernel_rfl) rfl rfl rfl Tryz.underlying4 hW' hb⟩
theorem VZ:Rows.StatuteIsCheckedSaid :=
 OpenClaim.holds_of_wide 5 Tryz.f5 rfl rfl rfl rfl rfl rfl rfl ⟨rfl,rfl,rfl,rfl,rfl⟩ rfl rfl rfl rfl rfl (by kernel_rfl) Tryz.func5 jf5
  (of_decide_eq_true (by kernel_rfl)) (by unfold Func.isWrapper;first|(rw [if_pos (by decide +kernel)];kernel_rfl)|(rw [if_neg (by decide +kernel)];exact⟨rfl,rfl⟩))
  (fun os started H enc _=>RC os started H enc)
theorem law5_card:Rows.StatuteIsCheckedCardSaid :=
 Claim7.holds_tied_plain_at .later [] [.data,.data,.data,.sentinel,.sentinel,.listed,.data] true (true, "998684024863164fcd98a781fa86bdad5a92fa36aace66a0ffa8713220559c68") true
  VZ (fun _ h=>by cases h) (by kernel_rfl) (fun _ h=>by cases h) statuteIsChecked_row_tie rfl ⟨rfl,rfl⟩ (by kernel_rfl) rfl
  (fun f fn hf hfn=>by
   obtain rfl:f=5:=Aa ((show Tryz.prog.funcNamed "quietus/quietuslaw33.StatuteIsChecked" = some 5 by kernel_rfl).symm.trans hf) |>.symm
   obtain rfl:fn=Tryz.f5:=(Aa (Tryz.func5.symm.trans hfn)).symm
   exact⟨by kernel_rfl,fun j t ht=>by
    rw [Tryz.params5] at ht
    have hm:t∈[9]:=by simpa using Array.mem_of_getElem? ht
    have hall:([9].all fun u=>!Tryz.prog.wantsStandIn u)=true:=by kernel_rfl
    exact (show Tryz.prog.wantsStandIn t=false by simpa using List.all_eq_true.1 hall t hm)⟩)
  (by kernel_rfl)
end Go.Proofs.YtkcfmlfkfagejaaGreatDoor
