/-
  Proved: for every input, StatuteRoundTrip returns true, and its arguments read as before. Conditions: the row's own (the library's tables and errors as the program's text lays them: the card ties them).
-/
import Derived.Test.YtkcfmlfkfagejaaGreatDoorTie
import Derived.Test.YtkcfmlfkfagejaaGreatDoorCards
import Derived.SevenTiedAt
import Derived.Test.YtkcfmlfkfagejaaGreatDoorU17
import Derived.Test.YtkcfmlfkfagejaaGreatDoorU18
import Derived.Test.YtkcfmlfkfagejaaGreatDoorU24
import Derived.Test.YtkcfmlfkfagejaaGreatDoorU36
set_option linter.unusedVariables false
set_option linter.unusedSimpArgs false
namespace Go.Proofs.YtkcfmlfkfagejaaGreatDoor
open Go.ChangeShapes Go.WideShapes Go.ChangeAt Go.RowKit Go.Q Go.Vl Go.Sp
set_option maxRecDepth 100000 in
theorem V6 (os:Os)(started:os.Started)(H:Type)(enc:TypeId×Value->H) :
 ReturnsInHanded {} Tryz.checked os 4 .any (fun w args=>(Rows.statuteRoundTripSpec.pre enc Tryz.prog Tryz.f4 [] false w args/\laidMetH Tryz.prog L4 w)/\sizedMet enc Tryz.prog Tryz.f4 (OpenSpec.ofChange Rows.statuteRoundTripSpec) false w args)
  (Rows.statuteRoundTripSpec.post enc Tryz.prog Tryz.f4 false true false false):=by
 refine returnsInHanded_of_change_and (C:=Tryz.checked) (X:=fun w _=>laidMetH Tryz.prog L4 w) (fun _ _ _ hh h=>h.of_heap hh) Tryz.own started (by kernel_rfl) Tryz.func4
  (ChangeSpec.witness_shaped (enc:=enc) (C:=Tryz.checked) (os:=os) (X:=fun w _=>laidMetH Tryz.prog L4 w) false (World.doorLaid Tryz.prog 400 os) #[.slice none 0 0] 8 rfl (World.shaped_of_RefB (by kernel_rfl) (by kernel_rfl)) (by kernel_rfl) (by kernel_rfl) (by kernel_rfl) (Ace os _)) ?_
 intro W base args ds gs before hval hW _ _ hL _
 have hW':=hW
 obtain⟨p,q,hA0,hV,rfl,hfz,hnd⟩:=hW
 have hA:DataW.TrodAll enc Tryz.prog W 0 (fun _=>true) true Tryz.f4.params.toList args.toList ds p:=hA0
 rw [Tryz.params4] at hA
 obtain⟨v0,d0,e0,rfl,⟨f0,h0⟩⟩:=trodAll_one hA
 obtain⟨rfl,rfl⟩:=trodVars_none hV
 obtain⟨a0,b0,c0,rfl⟩:=okWide_slice Tryz.underlying31 (hval 0 31 v0 (by rw [Tryz.params4];rfl) (by rw [e0];rfl))
 obtain⟨x0,q0⟩:=Vm rfl h0
 subst e0
 have hv:VC Tryz.prog 4 [hC x0] [] fun x σ'=>x=.ret (.lit (.bool true))/\σ'=[]:=by
  obtain⟨n,hn⟩:=(YI x0).get
  skip
  exact J9 n x0 true hn []
 refine (Ad8 (vs:=#[.slice a0 b0 c0]) hv rfl (fun i hi=>?_) (Pq hL).1 (Pq hL).2).mono fun e W' ⟨he,hb⟩=>?_
 . match i,hi with
   |0,_=>exact q0 []
 exact⟨.bool true,he,Ad9 Tryz.laidOut (by kernel_rfl) rfl rfl rfl Tryz.underlying4 hW' hb⟩
theorem Aa7:Rows.StatuteRoundTripSaid :=
 OpenClaim.holds_of_wide 4 Tryz.f4 rfl rfl rfl rfl rfl rfl rfl ⟨rfl,rfl,rfl,rfl,rfl⟩ rfl rfl rfl rfl rfl (by kernel_rfl) Tryz.func4 jf4
  (û (by kernel_rfl)) (by unfold Func.isWrapper;first|(rw [Ê (by decide +kernel)];kernel_rfl)|(rw [È (by decide +kernel)];exact⟨rfl,rfl⟩))
  (fun os started H enc _=>V6 os started H enc)
theorem law4_card:Rows.StatuteRoundTripCardSaid :=
 Claim7.holds_tied_plain_at .later [] [.data,.data,.data,.sentinel,.sentinel,.listed,.data] true (true, "998684024863164fcd98a781fa86bdad5a92fa36aace66a0ffa8713220559c68") true
  Aa7 (fun _ h=>by cases h) (by kernel_rfl) (fun _ h=>by cases h) statuteRoundTrip_row_tie rfl ⟨rfl,rfl⟩ (by kernel_rfl) rfl
  (fun f fn hf hfn=>by
   obtain rfl:f=4:=Ac ((show Tryz.prog.funcNamed "quietus/quietuslaw33.StatuteRoundTrip" = some 4 by kernel_rfl).symm.trans hf) |>.symm
   obtain rfl:fn=Tryz.f4:=(Ac (Tryz.func4.symm.trans hfn)).symm
   exact⟨by kernel_rfl,fun j t ht=>by
    rw [Tryz.params4] at ht
    have hm:t∈[31]:=by simpa using Array.mem_of_getElem? ht
    have hall:([31].all fun u=>!Tryz.prog.wantsStandIn u)=true:=by kernel_rfl
    exact (show Tryz.prog.wantsStandIn t=false by simpa using List.all_eq_true.1 hall t hm)⟩)
  (by kernel_rfl)
end Go.Proofs.YtkcfmlfkfagejaaGreatDoor
