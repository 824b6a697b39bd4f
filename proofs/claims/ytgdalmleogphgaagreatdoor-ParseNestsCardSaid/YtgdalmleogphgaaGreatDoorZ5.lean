/-
  Proved: for every input, ParseNests returns true, and its arguments read as before. Conditions: the row's own (the library's tables and errors as the program's text lays them: the card ties them).
-/
import Derived.Test.YtgdalmleogphgaaGreatDoorTie
import Derived.Test.YtgdalmleogphgaaGreatDoorCards
import Derived.SevenTiedAt
import Derived.Test.YtgdalmleogphgaaGreatDoorU3
import Derived.Test.YtgdalmleogphgaaGreatDoorU24
import Derived.Test.YtgdalmleogphgaaGreatDoorU40
namespace Go.Proofs.YtgdalmleogphgaaGreatDoor
open Go.ChangeShapes Go.WideShapes Go.ChangeAt Go.RowKit Go.Q Go.Vl Go.Sp
theorem okWide_byte {P:Program}{w:World}{r:Reach}{base:Nat}{t:TypeId}{v:Value}(ht:P.underlying t=some (.int .u8))(h:Value.okWide P w r base t v):∃ n,v=.int .u8 n/\0<=n/\n<=255:=by
 simp only [Value.okWide,ht,Cell.okWide] at h
 cases v<;>simp_all [Cell.ok]
 exact h.2
set_option maxRecDepth 100000 in
theorem law5_lifted (os:Os)(started:os.Started)(H:Type)(enc:TypeId×Value->H) :
 ReturnsInHanded {} Tryz.checked os 5 .any (fun w args=>(Rows.parseNestsSpec.pre enc Tryz.prog Tryz.f5 [] false w args/\laidMetH Tryz.prog seatLaid w)/\sizedMet enc Tryz.prog Tryz.f5 (OpenSpec.ofChange Rows.parseNestsSpec) false w args)
  (Rows.parseNestsSpec.post enc Tryz.prog Tryz.f5 false true false false):=by
 refine returnsInHanded_of_change_and (C:=Tryz.checked) (X:=fun w _=>laidMetH Tryz.prog seatLaid w) (fun _ _ _ hh h=>h.of_heap hh) Tryz.own started (by kernel_rfl) Tryz.func5
  (ChangeSpec.witness_shaped (enc:=enc) (C:=Tryz.checked) (os:=os) (X:=fun w _=>laidMetH Tryz.prog seatLaid w) false (World.doorLaid Tryz.prog 400 os) #[.string ⟨#[]⟩,.string ⟨#[]⟩,.int .u8 0] 8 rfl (World.shaped_of_RefB (by kernel_rfl) (by kernel_rfl)) (by kernel_rfl) (by kernel_rfl) (by kernel_rfl) (door_met os _)) ?_
 intro W base args ds gs before hval hW _ _ hL _
 have hW':=hW
 obtain⟨p,q,hA0,hV,rfl,hfz,hnd⟩:=hW
 have hA:DataW.TrodAll enc Tryz.prog W 0 (fun _=>true) true Tryz.f5.params.toList args.toList ds p:=hA0
 rw [Tryz.params5] at hA
 obtain⟨v0,v1,v2,d0,d1,d2,p0,p1,p2,e0,rfl,rfl,_,_,_⟩:=trodAll_three hA
 obtain⟨rfl,rfl⟩:=trodVars_none hV
 obtain⟨s0,rfl⟩:=okWide_string Tryz.underlying9 (hval 0 9 v0 (by rw [Tryz.params5];rfl) (by rw [e0];rfl))
 obtain⟨s1,rfl⟩:=okWide_string Tryz.underlying9 (hval 1 9 v1 (by rw [Tryz.params5];rfl) (by rw [e0];rfl))
 obtain⟨s2,rfl,r2⟩:=okWide_byte Tryz.underlying5 (hval 2 5 v2 (by rw [Tryz.params5];rfl) (by rw [e0];rfl))
 subst e0
 have hv:VC Tryz.prog 5 [.lit (.string s0),.lit (.string s1),.lit (.int .u8 s2)] [] fun x σ'=>x=.ret (.lit (.bool true))/\σ'=[]:=by
  obtain⟨n,hn⟩:=nests_law s0 s1 s2 r2
  exact vlaw32_ParseNests n s0 s1 s2 true hn []
 refine (VC.outLit (ls:=[.string s0,.string s1,.int .u8 s2]) hv (glb_of_laid hL).1 (glb_of_laid hL).2).mono fun e W' ⟨he,hb⟩=>?_
 exact⟨.bool true,he,lawPost Tryz.laidOut (by kernel_rfl) rfl rfl rfl Tryz.underlying4 hW' hb⟩
theorem law5_row:Rows.ParseNestsSaid :=
 OpenClaim.holds_of_wide 5 Tryz.f5 rfl rfl rfl rfl rfl rfl rfl ⟨rfl,rfl,rfl,rfl,rfl⟩ rfl rfl rfl rfl rfl (by kernel_rfl) Tryz.func5 (by kernel_rfl)
  (of_decide_eq_true (by kernel_rfl)) (by unfold Func.isWrapper;first|(rw [if_pos (by decide +kernel)];kernel_rfl)|(rw [if_neg (by decide +kernel)];exact⟨rfl,rfl⟩))
  (fun os started H enc _=>law5_lifted os started H enc)
theorem law5_card:Rows.ParseNestsCardSaid :=
 Claim7.holds_tied_plain_at .later [] [.data,.data,.data,.sentinel,.sentinel,.listed,.data] true (true, "f751065004fad875f083848156f3d5534ef23270d4923616642a5f92ee671458") true
  law5_row (fun _ h=>by cases h) (by kernel_rfl) (fun _ h=>by cases h) parseNests_row_tie rfl ⟨rfl,rfl⟩ (by kernel_rfl) rfl
  (fun f fn hf hfn=>by
   obtain rfl:f=5:=Option.some.inj ((show Tryz.prog.funcNamed "quietus/quietuslaw32.ParseNests" = some 5 by kernel_rfl).symm.trans hf) |>.symm
   obtain rfl:fn=Tryz.f5:=(Option.some.inj (Tryz.func5.symm.trans hfn)).symm
   exact⟨by kernel_rfl,fun j t ht=>by
    rw [Tryz.params5] at ht
    have hm:t∈[9,9,5]:=by simpa using Array.mem_of_getElem? ht
    have hall:([9,9,5].all fun u=>!Tryz.prog.wantsStandIn u)=true:=by kernel_rfl
    exact (show Tryz.prog.wantsStandIn t=false by simpa using List.all_eq_true.1 hall t hm)⟩)
  (by kernel_rfl)
end Go.Proofs.YtgdalmleogphgaaGreatDoor
