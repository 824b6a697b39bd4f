/-
  Proved: for every input, ParseJoins returns true, and its arguments read as before. Conditions: the row's own (the library's tables and errors as the program's text lays them: the card ties them).
-/
import Derived.Test.YtgdalmleogphgaaGreatDoorTie
import Derived.Test.YtgdalmleogphgaaGreatDoorCards
import Derived.SevenTiedAt
import Derived.Test.YtgdalmleogphgaaGreatDoorU3
import Derived.Test.YtgdalmleogphgaaGreatDoorU26
import Derived.Test.YtgdalmleogphgaaGreatDoorU42
namespace Go.Proofs.YtgdalmleogphgaaGreatDoor
open Go.ChangeShapes Go.WideShapes Go.ChangeAt Go.RowKit Go.Q Go.Vl Go.Sp
set_option maxRecDepth 100000 in
theorem law4_lifted (os:Os)(started:os.Started)(H:Type)(enc:TypeId×Value->H) :
 ReturnsInHanded {} Tryz.checked os 4 .any (fun w args=>(Rows.parseJoinsSpec.pre enc Tryz.prog Tryz.f4 [] false w args/\laidMetH Tryz.prog seatLaid w)/\sizedMet enc Tryz.prog Tryz.f4 (OpenSpec.ofChange Rows.parseJoinsSpec) false w args)
  (Rows.parseJoinsSpec.post enc Tryz.prog Tryz.f4 false true false false):=by
 refine returnsInHanded_of_change_and (C:=Tryz.checked) (X:=fun w _=>laidMetH Tryz.prog seatLaid w) (fun _ _ _ hh h=>h.of_heap hh) Tryz.own started (by kernel_rfl) Tryz.func4
  (ChangeSpec.witness_shaped (enc:=enc) (C:=Tryz.checked) (os:=os) (X:=fun w _=>laidMetH Tryz.prog seatLaid w) false (World.doorLaid Tryz.prog 400 os) #[.string ⟨#[]⟩,.string ⟨#[]⟩] 8 rfl (World.shaped_of_RefB (by kernel_rfl) (by kernel_rfl)) (by kernel_rfl) (by kernel_rfl) (by kernel_rfl) (door_met os _)) ?_
 intro W base args ds gs before hval hW _ _ hL _
 have hW':=hW
 obtain⟨p,q,hA0,hV,rfl,hfz,hnd⟩:=hW
 have hA:DataW.TrodAll enc Tryz.prog W 0 (fun _=>true) true Tryz.f4.params.toList args.toList ds p:=hA0
 rw [Tryz.params4] at hA
 obtain⟨v0,v1,d0,d1,p0,p1,e0,rfl,rfl,_,_⟩:=trodAll_two hA
 obtain⟨rfl,rfl⟩:=trodVars_none hV
 obtain⟨s0,rfl⟩:=okWide_string Tryz.underlying9 (hval 0 9 v0 (by rw [Tryz.params4];rfl) (by rw [e0];rfl))
 obtain⟨s1,rfl⟩:=okWide_string Tryz.underlying9 (hval 1 9 v1 (by rw [Tryz.params4];rfl) (by rw [e0];rfl))
 subst e0
 have hv:VC Tryz.prog 4 [.lit (.string s0),.lit (.string s1)] [] fun x σ'=>x=.ret (.lit (.bool true))/\σ'=[]:=by
  obtain⟨n,hn⟩:=joins_law s0 s1
  exact vlaw32_ParseJoins n s0 s1 true hn []
 refine (VC.outLit (ls:=[.string s0,.string s1]) hv (glb_of_laid hL).1 (glb_of_laid hL).2).mono fun e W' ⟨he,hb⟩=>?_
 exact⟨.bool true,he,lawPost Tryz.laidOut (by kernel_rfl) rfl rfl rfl Tryz.underlying4 hW' hb⟩
theorem law4_row:Rows.ParseJoinsSaid :=
 OpenClaim.holds_of_wide 4 Tryz.f4 rfl rfl rfl rfl rfl rfl rfl ⟨rfl,rfl,rfl,rfl,rfl⟩ rfl rfl rfl rfl rfl (by kernel_rfl) Tryz.func4 (by kernel_rfl)
  (of_decide_eq_true (by kernel_rfl)) (by unfold Func.isWrapper;first|(rw [if_pos (by decide +kernel)];kernel_rfl)|(rw [if_neg (by decide +kernel)];exact⟨rfl,rfl⟩))
  (fun os started H enc _=>law4_lifted os started H enc)
theorem law4_card:Rows.ParseJoinsCardSaid :=
 Claim7.holds_tied_plain_at .later [] [.data,.data,.data,.sentinel,.sentinel,.listed,.data] true (true, "f751065004fad875f083848156f3d5534ef23270d4923616642a5f92ee671458") true
  law4_row (fun _ h=>by cases h) (by kernel_rfl) (fun _ h=>by cases h) parseJoins_row_tie rfl ⟨rfl,rfl⟩ (by kernel_rfl) rfl
  (fun f fn hf hfn=>by
   obtain rfl:f=4:=Option.some.inj ((show Tryz.prog.funcNamed "quietus/quietuslaw32.ParseJoins" = some 4 by kernel_rfl).symm.trans hf) |>.symm
   obtain rfl:fn=Tryz.f4:=(Option.some.inj (Tryz.func4.symm.trans hfn)).symm
   exact⟨by kernel_rfl,fun j t ht=>by
    rw [Tryz.params4] at ht
    have hm:t∈[9,9]:=by simpa using Array.mem_of_getElem? ht
    have hall:([9,9].all fun u=>!Tryz.prog.wantsStandIn u)=true:=by kernel_rfl
    exact (show Tryz.prog.wantsStandIn t=false by simpa using List.all_eq_true.1 hall t hm)⟩)
  (by kernel_rfl)
end Go.Proofs.YtgdalmleogphgaaGreatDoor
