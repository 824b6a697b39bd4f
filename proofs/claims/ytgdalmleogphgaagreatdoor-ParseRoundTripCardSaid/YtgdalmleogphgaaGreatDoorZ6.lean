/-
  Proved: for every input, ParseRoundTrip returns true, and its arguments read as before. Conditions: the row's own (the library's tables and errors as the program's text lays them: the card ties them).
-/
import Derived.Test.YtgdalmleogphgaaGreatDoorTie
import Derived.Test.YtgdalmleogphgaaGreatDoorCards
import Derived.SevenTiedAt
import Derived.Test.YtgdalmleogphgaaGreatDoorU3
import Derived.Test.YtgdalmleogphgaaGreatDoorU50
import Derived.Test.YtgdalmleogphgaaGreatDoorU51
namespace Go.Proofs.YtgdalmleogphgaaGreatDoor
open Go.ChangeShapes Go.WideShapes Go.ChangeAt Go.RowKit Go.Q Go.Vl Go.Sp
set_option maxRecDepth 100000 in
theorem Pk (os:Os)(started:os.Started)(H:Type)(enc:TypeId×Value->H) :
 ReturnsInHanded {} Tryz.checked os 6 .any (fun w args=>(Rows.parseRoundTripSpec.pre enc Tryz.prog Tryz.f6 [] false w args/\laidMetH Tryz.prog HZ w)/\sizedMet enc Tryz.prog Tryz.f6 (OpenSpec.ofChange Rows.parseRoundTripSpec) false w args)
  (Rows.parseRoundTripSpec.post enc Tryz.prog Tryz.f6 false true false false):=by
 refine returnsInHanded_of_change_and (C:=Tryz.checked) (X:=fun w _=>laidMetH Tryz.prog HZ w) (fun _ _ _ hh h=>h.of_heap hh) Tryz.own started (by kernel_rfl) Tryz.func6
  (ChangeSpec.witness_shaped (enc:=enc) (C:=Tryz.checked) (os:=os) (X:=fun w _=>laidMetH Tryz.prog HZ w) false (World.doorLaid Tryz.prog 400 os) #[.slice none 0 0,.agg #[.int .i64 0,.int .i64 0,.string ⟨#[]⟩,.slice none 0 0,.int .i64 0],.string ⟨#[]⟩] 8 rfl (World.shaped_of_RefB (by kernel_rfl) (by kernel_rfl)) (by kernel_rfl) (by kernel_rfl) (by kernel_rfl) (TW os _)) ?_
 intro W base args ds gs before hval hW _ _ hL _
 have hW':=hW
 obtain⟨p,q,hA0,hV,rfl,hfz,hnd⟩:=hW
 have hA:DataW.TrodAll enc Tryz.prog W 0 (fun _=>true) true Tryz.f6.params.toList args.toList ds p:=hA0
 rw [Tryz.params6] at hA
 obtain⟨v0,v1,v2,d0,d1,d2,p0,p1,p2,e0,rfl,rfl,⟨f0,h0⟩,⟨f1,h1⟩,_⟩:=trodAll_three hA
 obtain⟨rfl,rfl⟩:=trodVars_none hV
 obtain⟨_,_,_,rfl⟩:=okWide_slice Tryz.underlying23 (hval 0 23 v0 (by rw [Tryz.params6];rfl) (by rw [e0];rfl))
 obtain⟨l0,q0,g0,r0⟩:=RJ rfl h0
 obtain⟨_,rfl⟩:=Pa (hval 1 31 v1 (by rw [Tryz.params6];rfl) (by rw [e0];rfl))
 obtain⟨x1,q1⟩:=Tb h1
 obtain⟨s2,rfl⟩:=okWide_string Tryz.underlying9 (hval 2 9 v2 (by rw [Tryz.params6];rfl) (by rw [e0];rfl))
 subst e0
 refine (Tu q0 q1 r0 g0 (KA hL).1 (KA hL).2).mono fun e W' ⟨he,hb⟩=>?_
 exact⟨.bool true,he,UI Tryz.laidOut (by kernel_rfl) rfl rfl rfl Tryz.underlying4 hW' hb⟩
theorem Tt:Rows.ParseRoundTripSaid :=
 OpenClaim.holds_of_wide 6 Tryz.f6 rfl rfl rfl rfl rfl rfl rfl ⟨rfl,rfl,rfl,rfl,rfl⟩ rfl rfl rfl rfl rfl (by kernel_rfl) Tryz.func6 (by kernel_rfl)
  (of_decide_eq_true (by kernel_rfl)) (by unfold Func.isWrapper;first|(rw [if_pos (by decide +kernel)];kernel_rfl)|(rw [if_neg (by decide +kernel)];exact⟨rfl,rfl⟩))
  (fun os started H enc _=>Pk os started H enc)
theorem law6_card:Rows.ParseRoundTripCardSaid :=
 Claim7.holds_tied_plain_at .later [] [.data,.data,.data,.sentinel,.sentinel,.listed,.data] true (true, "f751065004fad875f083848156f3d5534ef23270d4923616642a5f92ee671458") true
  Tt (fun _ h=>by cases h) (by kernel_rfl) (fun _ h=>by cases h) parseRoundTrip_row_tie rfl ⟨rfl,rfl⟩ (by kernel_rfl) rfl
  (fun f fn hf hfn=>by
   obtain rfl:f=6:=Ac ((show Tryz.prog.funcNamed "quietus/quietuslaw32.ParseRoundTrip" = some 6 by kernel_rfl).symm.trans hf) |>.symm
   obtain rfl:fn=Tryz.f6:=(Ac (Tryz.func6.symm.trans hfn)).symm
   exact⟨by kernel_rfl,fun j t ht=>by
    rw [Tryz.params6] at ht
    have hm:t∈[23,31,9]:=by simpa using Array.mem_of_getElem? ht
    have hall:([23,31,9].all fun u=>!Tryz.prog.wantsStandIn u)=true:=by kernel_rfl
    exact (show Tryz.prog.wantsStandIn t=false by simpa using List.all_eq_true.1 hall t hm)⟩)
  (by kernel_rfl)
end Go.Proofs.YtgdalmleogphgaaGreatDoor
