/-
  The walk of operations: whatever order the map is gone through, the table is one of the lists. (Most lines printed by lift.py.) The walks of names and made: the solver, whatever order the table of operations is in.
-/
import Derived.Test.YtkcfmlfkfagejaaGreatDoorU7
import Derived.Test.YtkcfmlfkfagejaaGreatDoorU9
import Derived.Test.YtkcfmlfkfagejaaGreatDoorU13
import Derived.Test.YtkcfmlfkfagejaaGreatDoorU22
set_option linter.unusedVariables false
set_option linter.unusedSimpArgs false
namespace Go.Proofs.YtkcfmlfkfagejaaGreatDoor
open Go.RowKit Go.Q Go.Vl Go.Sp
set_option maxRecDepth 100000
set_option linter.unusedSimpArgs false
set_option maxHeartbeats 4000000
set_option linter.unusedVariables false
theorem Vq:B0 [(7,[9996,8])] Tryz.f54.ntmps (Tryz.f54.body.getD .skip)=true:=by kernel_rfl
theorem Xy (Q:BT->List (List PV)->Prop)(hQ:∀ os:List Nat,Ord os->∀ l,l=E6++os.flatMap F2->∀ r,TR 20 l=some r->∀ y,shareP y=hP r Ad->Q (.ret y) []):VC Tryz.prog 54 [] [] Q:=by
 obtain⟨n,hn20⟩:∃ n,n=20:=⟨20,rfl⟩
 have h:W0 n=some E6:=by rw [hn20];exact Vp
 unfold W0 at h
 refine VC.intro ⟨[0,1,2,3,4,5,7,9,35,36,37,38,52,54,58,59,60,61,73,84,85,86,87,103],[(7,[9996,8])]⟩ Tryz.func54 rfl follows Vq (by rw [Tryz.ntmps54];exact Nat.le_of_ble_eq_true rfl) ?_
 refine N4 ?_
 repeat first|apply z1|apply z2|apply z3|apply z4
 refine wr [0] 0 (Dt 1 []) ⟨[(0,.sl [] .own)],[]⟩ True.intro (by kernel_rfl) ?_
 repeat first|apply z1|apply z2|apply z3|apply z4
 obtain⟨l,hl,h⟩:=Ae h
 have fb:([[iP 1]]:List (List PV))=l.map Aw:=by rw [<- Ag hl];simp only [List.map_cons,List.map_nil,Bi]<;>rfl
 obtain⟨l1,hl1,h⟩:=Ae h
 have fb1:([[iP 1],[iP 1]]:List (List PV))=l1.map Aw:=by rw [<- Ag hl1];simp only [List.map_cons,List.map_nil,Bi]<;>rfl
 obtain⟨l2,hl2,h⟩:=Ae h
 have fb2:([[iP 1],[iP 1]]:List (List PV))=l2.map Aw:=by rw [<- Ag hl2];simp only [List.map_cons,List.map_nil,Bi]<;>rfl
 obtain⟨l3,hl3,h⟩:=Ae h
 have fb3:([[iP 2],[iP 1]]:List (List PV))=l3.map Aw:=by rw [<- Ag hl3];simp only [List.map_cons,List.map_nil,Bi]<;>rfl
 obtain⟨l4,hl4,h⟩:=Ae h
 have fb4:([[iP 1],[iP 1]]:List (List PV))=l4.map Aw:=by rw [<- Ag hl4];simp only [List.map_cons,List.map_nil,Bi]<;>rfl
 obtain⟨l5,hl5,h⟩:=Ae h
 have fb5:([[iP 2],[iP 1]]:List (List PV))=l5.map Aw:=by rw [<- Ag hl5];simp only [List.map_cons,List.map_nil,Bi]<;>rfl
 obtain⟨l6,hl6,h⟩:=Ae h
 have fb6:([[iP 2],[iP 2]]:List (List PV))=l6.map Aw:=by rw [<- Ag hl6];simp only [List.map_cons,List.map_nil,Bi]<;>rfl
 obtain⟨l7,hl7,h⟩:=Ae h
 have fb7:([[iP 3]]:List (List PV))=l7.map Aw:=by rw [<- Ag hl7];simp only [List.map_cons,List.map_nil,Bi]<;>rfl
 obtain⟨l8,hl8,h⟩:=Ae h
 have fb8:([[iP 3],[iP 3]]:List (List PV))=l8.map Aw:=by rw [<- Ag hl8];simp only [List.map_cons,List.map_nil,Bi]<;>rfl
 obtain⟨l9,hl9,h⟩:=Ae h
 have fb9:([[iP 3],[iP 3]]:List (List PV))=l9.map Aw:=by rw [<- Ag hl9];simp only [List.map_cons,List.map_nil,Bi]<;>rfl
 obtain⟨l10,hl10,h⟩:=Ae h
 have fb10:([[iP 1]]:List (List PV))=l10.map Aw:=by rw [<- Ag hl10];simp only [List.map_cons,List.map_nil,Bi]<;>rfl
 obtain⟨l11,hl11,h⟩:=Ae h
 have fb11:([[iP 1]]:List (List PV))=l11.map Aw:=by rw [<- Ag hl11];simp only [List.map_cons,List.map_nil,Bi]<;>rfl
 obtain⟨l12,hl12,h⟩:=Ae h
 have fb12:([[iP 6,tP ⟨#[]⟩,hP l Aw,iP 1,.fno true 77 []],[iP 7,tP ⟨#[]⟩,hP l1 Aw,iP 1,.fno true 78 []],[iP 10,tP ⟨#[]⟩,hP l2 Aw,iP 1,.fno true 80 []],[iP 10,tP ⟨#[]⟩,hP l3 Aw,iP 2,.fno true 82 []],[iP 11,tP ⟨#[]⟩,hP l4 Aw,iP 1,.fno true 84 []],[iP 11,tP ⟨#[]⟩,hP l5 Aw,iP 2,.fno true 85 []],[iP 11,tP ⟨#[]⟩,hP l6 Aw,iP 1,.fno true 86 []],[iP 5,tP ⟨#[]⟩,hP l7 Aw,iP 3,.fno true 87 []],[iP 18,tP ⟨#[]⟩,hP l8 Aw,iP 3,.fno true 88 []],[iP 19,tP ⟨#[]⟩,hP l9 Aw,iP 3,.fno true 89 []],[iP 4,tP ⟨#[100,97,121]⟩,hP l10 Aw,iP 2,.fno true 90 []],[iP 4,tP ⟨#[112,101,114,115,111,110]⟩,hP l11 Aw,iP 4,.fno true 92 []]]:List (List PV))=l12.map Ad:=by rw [<- Ag hl12];simp only [List.map_cons,List.map_nil,Bv]<;>rfl
 refine wr [0,1] 0 (.val (oP l Aw)::(Dt 1 (.val (oP l1 Aw)::(Dt 1 (.val (oP l2 Aw)::(Dt 1 (.val (oP l3 Aw)::(Dt 1 (.val (oP l4 Aw)::(Dt 1 (.val (oP l5 Aw)::(Dt 1 (.val (oP l6 Aw)::(Dt 1 (.val (oP l7 Aw)::(Dt 1 (.val (oP l8 Aw)::(Dt 1 (.val (oP l9 Aw)::(Dt 1 (.val (oP l10 Aw)::(Dt 1 (.val (oP l11 Aw)::(Dt 1 (.val (oP l12 Ad)::(Dt 1 [])))))))))))))))))))))))))) ⟨[(0,.sl [] .own),(1,oP l12 Ad)],[]⟩ (And.intro (Cy rfl fb) (And.intro (Cy rfl fb1) (And.intro (Cy rfl fb2) (And.intro (Cy rfl fb3) (And.intro (Cy rfl fb4) (And.intro (Cy rfl fb5) (And.intro (Cy rfl fb6) (And.intro (Cy rfl fb7) (And.intro (Cy rfl fb8) (And.intro (Cy rfl fb9) (And.intro (Cy rfl fb10) (And.intro (Cy rfl fb11) (And.intro (Cy rfl fb12) True.intro))))))))))))) (by kernel_rfl) ?_
 repeat first|apply z1|apply z2|apply z3|apply z4
 obtain⟨l13,hl13,h⟩:=Ae h
 have fb13:([[tP ⟨#[98,111,114,110]⟩],[tP ⟨#[100,105,101,100]⟩],[tP ⟨#[97,115,107,101,100]⟩],[tP ⟨#[104,101,108,100]⟩],[tP ⟨#[108,105,102,116,101,100]⟩]]:List (List PV))=l13.map B4:=by rw [<- Ag hl13];simp only [List.map_cons,List.map_nil,Hr]<;>rfl
 refine wr [0,1,35,36,37] 0 (.val (oP l13 B4)::(.val (iP (l13.length:Int))::(Dt 1 []))) ⟨[(0,.sl [] .own),(1,oP l12 Ad),(35,oP l13 B4),(36,iP (l13.length:Int)),(37,iP 0)],[]⟩ (And.intro (Cy rfl fb13) (And.intro (SQ l13 B4) True.intro)) (by kernel_rfl) ?_
 repeat first|apply z1|apply z2|apply z3|apply z4
 obtain⟨y,e,h⟩:=Ae h
 refine KW (A:=((List Aa)×Int×Bool)) (fun v=>v=y) (fun y=>match y with|(l14,v37,v38)=>⟨[(0,.sl [] .own),(1,oP l14 Ad),(35,oP l13 B4),(36,iP (l13.length:Int)),(37,iP v37),(38,bP v38)],[]⟩) ?_ ?_
 . rintro⟨l14,v37,v38⟩ rfl
   show WS _ _ _ _ _ ⟨[(0,.sl [] .own),(1,oP l14 Ad),(35,oP l13 B4),(36,iP (l13.length:Int)),(37,iP v37),(38,bP v38)],[]⟩
   repeat first|apply z1|apply z2|apply z3|apply z4
   have hr:=Ag h
   subst hr
   refine Xt (N:=0) (m:=8) [1,51] 1 (Dt 8 []) ⟨[(1,oP E6 Ad),(51,.mref 0)],[[.mp Ce]]⟩ ⟨[(1,oP E6 Ad),(51,.vmp Ce)],[]⟩ True.intro (by kernel_rfl) (Wk.frz (σ0:=[]) (cs:=[.mp Ce]) (fp:=fun _=>.undef) (fm:=.vmp Ce) rfl (by exact Nat.le_of_ble_eq_true rfl) (.inr ⟨Ce,rfl,rfl,rfl⟩) (by kernel_rfl) (by kernel_rfl)) (fun K' hK=>?_)
   refine Yp [1,52] 1 (Dt 1 []) ⟨[(1,oP E6 Ad),(52,.ptr 0 0)],[[.mit Ce []]]⟩ True.intro (by kernel_rfl) ?_ hK
   clear hK K'
   repeat first|apply z1|apply z2|apply z3|apply z4
   refine Al ?_
   refine GV [1,52] 1 (fun a:List Nat×(List Aa)=>a.1.Nodup/\(∀ i∈a.1,i<6)/\a.1.length<=6/\a.2=E6++a.1.flatMap F2) (fun a=>6-a.1.length) (fun a=>⟨[(1,oP a.2 Ad),(52,.ptr 0 0)],[[.mit Ce a.1]]⟩) ([],E6) (Nat.le_of_ble_eq_true rfl) rfl ⟨by simp,by simp,by simp,by simp⟩ ?_
   rintro⟨seen,l⟩ ⟨hnd,hlt,hlen,hl⟩
   show WS _ _ _ _ _ ⟨[(1,oP l Ad),(52,.ptr 0 0)],[[.mit Ce seen]]⟩
   repeat first|apply z1|apply z2|apply z3|apply z4
   refine Af (by kernel_rfl) fun K' hK hP=>?_
   refine RC (x:=.tmp 52) (d:=53) (k:=0) (kvs:=Ce) (seen:=seen) rfl rfl rfl rfl (fun hall=>?_) (fun i hi hn=>?_)
   . refine Yp [1,54] 1 (Dt 1 []) ⟨[(1,oP l Ad),(54,bP false)],[[.mit Ce seen]]⟩ True.intro (by kernel_rfl) ?_ hK
     clear hK hP K'
     repeat first|apply z1|apply z2|apply z3|apply z4
     refine Aj rfl ?_
     repeat first|apply z1|apply z2|apply z3|apply z4
     try refine z5 rfl ?_
     repeat first|apply z1|apply z2|apply z3|apply z4
     refine J0 [1] 0 (by kernel_rfl) (Nat.le_of_ble_eq_true rfl) (st0:=⟨[(1,oP l Ad)],[]⟩) (by kernel_rfl) ?_
     have hQ:=hQ seen (Wy hnd hlt hall) l hl
     obtain⟨r,h⟩:=Vm l (R2 hlen hl)
     have hQ:=hQ r h
     rw [<- hn20] at h
     unfold TR at h
     repeat first|apply z1|apply z2|apply z3|apply z4
     obtain⟨l1,hl1,h⟩:=Ae h
     have fb:([[iP 1],[iP 2],[iP 3],[iP 4]]:List (List PV))=l1.map Aw:=by rw [<- Ag hl1];simp only [List.map_cons,List.map_nil,Bi]<;>rfl
     refine wr [1,84,85,86] 0 (.val (oP l1 Aw)::(.val (iP (l1.length:Int))::(Dt 1 []))) ⟨[(1,oP l Ad),(84,oP l1 Aw),(85,iP (l1.length:Int)),(86,iP 0)],[]⟩ (And.intro (Cy rfl fb) (And.intro (SQ l1 Aw) True.intro)) (by kernel_rfl) ?_
     repeat first|apply z1|apply z2|apply z3|apply z4
     obtain⟨y,e,h⟩:=Ae h
     refine KW (A:=(List Aa)) (fun v=>v=y) (fun l2=>⟨[(1,oP l2 Ad)],[]⟩) ?_ ?_
     . rintro l2 rfl
       show WS _ _ _ _ _ ⟨[(1,oP l2 Ad)],[]⟩
       repeat first|apply z1|apply z2|apply z3|apply z4
       refine wr [0] 0 (Dt 2 []) ⟨[(0,hP l2 Ad)],[]⟩ True.intro (by kernel_rfl) ?_
       repeat first|apply z1|apply z2|apply z3|apply z4
       obtain rfl:=Ag h
       exact Bj (FW hQ (by kernel_rfl)).1
     . intro hJ
       repeat first|apply z1|apply z2|apply z3|apply z4
       refine Al ?_
       repeat first|apply z1|apply z2|apply z3|apply z4
       refine GV [1,84,85,86] 0 (fun a:Nat×((List Aa)×Int)=>AO a.1 l1 a.2.1 a.2.2=some y) (fun a=>a.1) (fun a:Nat×((List Aa)×Int)=>match a with|(_,(l3,v86))=>⟨[(1,oP l3 Ad),(84,oP l1 Aw),(85,iP (l1.length:Int)),(86,iP v86)],[]⟩) (n,(l,0)) (Nat.le_of_ble_eq_true rfl) rfl e ?_
       clear e
       rintro⟨n,l3,v86⟩ e
       show WS _ _ _ _ _ ⟨[(1,oP l3 Ad),(84,oP l1 Aw),(85,iP (l1.length:Int)),(86,iP v86)],[]⟩
       cases n with
       |zero=>exact absurd e (by simp [AO])
       |succ n =>
        replace e:=(C4 n l1 l3 v86).symm.trans e
        repeat first|apply z1|apply z2|apply z3|apply z4
        refine wr [1,84,85,86,87] 0 (Dt 1 []) ⟨[(1,oP l3 Ad),(84,oP l1 Aw),(85,iP (l1.length:Int)),(86,iP v86),(87,bP (decide (v86<(l1.length:Int))))],[]⟩ True.intro (by kernel_rfl) ?_
        repeat first|apply z1|apply z2|apply z3|apply z4
        rcases Ar e with⟨hc2,e⟩|⟨hc2,e⟩
        . refine Am (test hc2) ?_
          repeat first|apply z1|apply z2|apply z3|apply z4
          refine Al ?_
          repeat first|apply z1|apply z2|apply z3|apply z4
          obtain⟨x,hx,e⟩:=Ae e
          refine wr [1,9,84,85,86] 0 (.val (.vptr [iP x] 0)::(Dt 2 [])) ⟨[(1,oP l3 Ad),(9,iP x),(84,oP l1 Aw),(85,iP (l1.length:Int)),(86,iP v86)],[]⟩ (And.intro (oi hx Ji (Bi x)) True.intro) (by kernel_rfl) ?_
          repeat first|apply z1|apply z2|apply z3|apply z4
          obtain⟨l4,hl4,e⟩:=Ae e
          have fb1:([[iP 3],[iP x],[iP x]]:List (List PV))=l4.map Aw:=by rw [<- Ag hl4];simp only [List.map_cons,List.map_nil,Bi]<;>rfl
          obtain⟨l5,hl5,e⟩:=Ae e
          have fb2:([[iP 20,tP ⟨#[]⟩,hP l4 Aw,iP x,.fno true 103 []]]:List (List PV))=l5.map Ad:=by rw [<- Ag hl5];simp only [List.map_cons,List.map_nil,Bv]<;>rfl
          obtain⟨l6,hl6,e⟩:=Ae e
          refine wr [1,9,84,85,86] 0 (Dt 3 (.val (oP l4 Aw)::(Dt 2 (.val (oP l5 Ad)::(.val (oP l6 Ad)::(Dt 1 [])))))) ⟨[(1,oP l6 Ad),(9,iP x),(84,oP l1 Aw),(85,iP (l1.length:Int)),(86,iP v86)],[]⟩ (And.intro (Cy rfl fb1) (And.intro (Cy rfl fb2) (And.intro (Ud hl6 BA) True.intro))) (by kernel_rfl) ?_
          repeat first|apply z1|apply z2|apply z3|apply z4
          obtain⟨y1,e1,e⟩:=Ae e
          refine KW (A:=Bool) (fun v=>v=y1) (fun v103=>⟨[(1,oP l6 Ad),(9,iP x),(84,oP l1 Aw),(85,iP (l1.length:Int)),(86,iP v86),(103,bP v103)],[]⟩) ?_ ?_
          . rintro v103 rfl
            show WS _ _ _ _ _ ⟨[(1,oP l6 Ad),(9,iP x),(84,oP l1 Aw),(85,iP (l1.length:Int)),(86,iP v86),(103,bP v103)],[]⟩
            repeat first|apply z1|apply z2|apply z3|apply z4
            rcases Ar e with⟨hc,e⟩|⟨hc,e⟩
            . refine Am (test hc) ?_
              repeat first|apply z1|apply z2|apply z3|apply z4
              obtain⟨l7,hl7,e⟩:=Ae e
              have fb3:([[iP x],[iP x]]:List (List PV))=l7.map Aw:=by rw [<- Ag hl7];simp only [List.map_cons,List.map_nil,Bi]<;>rfl
              obtain⟨l8,hl8,e⟩:=Ae e
              have fb4:([[iP x],[iP x]]:List (List PV))=l8.map Aw:=by rw [<- Ag hl8];simp only [List.map_cons,List.map_nil,Bi]<;>rfl
              obtain⟨l9,hl9,e⟩:=Ae e
              have fb5:([[iP 4,tP ⟨#[109,105,110]⟩,hP l7 Aw,iP x,.fno true 104 []],[iP 4,tP ⟨#[109,97,120]⟩,hP l8 Aw,iP x,.fno true 105 []]]:List (List PV))=l9.map Ad:=by rw [<- Ag hl9];simp only [List.map_cons,List.map_nil,Bv]<;>rfl
              obtain⟨l10,hl10,e⟩:=Ae e
              refine wr [1,84,85,86] 0 (Dt 3 (.val (oP l7 Aw)::(Dt 4 (.val (oP l8 Aw)::(Dt 2 (.val (oP l9 Ad)::(.val (oP l10 Ad)::(Dt 1 [])))))))) ⟨[(1,oP l10 Ad),(84,oP l1 Aw),(85,iP (l1.length:Int)),(86,iP v86)],[]⟩ (And.intro (Cy rfl fb3) (And.intro (Cy rfl fb4) (And.intro (Cy rfl fb5) (And.intro (Ud hl10 BA) True.intro)))) (by kernel_rfl) ?_
              repeat first|apply z1|apply z2|apply z3|apply z4
              refine wr [1,84,85,86] 0 (Dt 2 []) ⟨[(1,oP l10 Ad),(84,oP l1 Aw),(85,iP (l1.length:Int)),(86,iP (IntKind.i64.wrap (v86+1)))],[]⟩ True.intro (by kernel_rfl) ?_
              repeat first|exact B6 (n,(l10,(IntKind.i64.wrap (v86+1)))) rfl e (Nat.lt_succ_self _)|apply z3|apply z2|apply z1|apply z4
            . refine Aj (test hc) ?_
              repeat first|apply z1|apply z2|apply z3|apply z4
              refine wr [1,84,85,86] 0 (Dt 2 []) ⟨[(1,oP l6 Ad),(84,oP l1 Aw),(85,iP (l1.length:Int)),(86,iP (IntKind.i64.wrap (v86+1)))],[]⟩ True.intro (by kernel_rfl) ?_
              repeat first|exact B6 (n,(l6,(IntKind.i64.wrap (v86+1)))) rfl e (Nat.lt_succ_self _)|apply z3|apply z2|apply z1|apply z4
          . intro hJ1
            rcases Ar e1 with⟨hc1,e1⟩|⟨hc1,e1⟩
            . exact wr [1,9,84,85,86,103] 0 (Dt 2 (.val (.lit (.bool true))::(Dt 3 []))) ⟨[(1,oP l6 Ad),(9,iP x),(84,oP l1 Aw),(85,iP (l1.length:Int)),(86,iP v86),(103,bP true)],[]⟩ (And.intro (LM hc1) True.intro) (by kernel_rfl) (hJ1 true (Ag e1))
            . exact wr [1,9,84,85,86,103] 0 (Dt 2 (.val (.lit (.bool false))::(Dt 3 []))) ⟨[(1,oP l6 Ad),(9,iP x),(84,oP l1 Aw),(85,iP (l1.length:Int)),(86,iP v86),(103,bP (x == 2))],[]⟩ (And.intro (LM hc1) True.intro) (by kernel_rfl) (hJ1 (x == 2) (Ag e1))
        . refine Aj (test hc2) ?_
          repeat first|apply z1|apply z2|apply z3|apply z4
          try refine z5 rfl ?_
          repeat first|exact J0 [1] 0 rfl (Nat.le_of_ble_eq_true rfl) rfl (hJ l3 (Ag e))|apply z3|apply z2|apply z1|apply z4
   . obtain⟨op,f,he,hop⟩:=Y5 i hi
     refine Yp [1,52,54] 1 (Dt 1 []) ⟨[(1,oP l Ad),(52,.ptr 0 0),(54,bP true)],[[.mit Ce (seen++[i])]]⟩ True.intro (by kernel_rfl) ?_ hK
     clear hK hP K'
     repeat first|apply z1|apply z2|apply z3|apply z4
     refine Am rfl ?_
     repeat first|apply z1|apply z2|apply z3|apply z4
     refine Al ?_
     repeat first|apply z1|apply z2|apply z3|apply z4
     refine Af (by kernel_rfl) fun K' hK hP=>?_
     refine QF (x:=.tmp 52) (d:=55) (k:=0) (i:=i) (kvs:=Ce) (seen:=seen) rfl rfl rfl rfl he ?_
     refine Yp [1,4,5,52] 2 (Dt 5 []) ⟨[(1,oP l Ad),(4,iP op),(5,.ptr 1 0),(52,.ptr 0 0)],[[.mit Ce (seen++[i])],[.fno true f []]]⟩ True.intro (by kernel_rfl) ?_ hK
     clear hK hP K'
     refine L9 [[.mit Ce (seen++[i])]] [.fno true f []] ⟨[(1,oP l Ad),(4,iP op),(5,.vptr [.fno true f []] 0),(52,.ptr 0 0)],[[.mit Ce (seen++[i])]]⟩ (by kernel_rfl) rfl (Nat.le_of_ble_eq_true rfl) (by kernel_rfl) (by kernel_rfl) (by kernel_rfl) (by kernel_rfl) ?_
     obtain⟨r,hB,h⟩:∃ r,r=l++Hs op f/\Vo n l op f=some r:=⟨_,rfl,by rw [hn20];exact Vn l op f (R2 hlen hl)⟩
     unfold Vo at h
     repeat first|apply z1|apply z2|apply z3|apply z4
     obtain⟨l1,hl1,h⟩:=Ae h
     have fb:([[iP 1],[iP 2],[iP 4]]:List (List PV))=l1.map Aw:=by rw [<- Ag hl1];simp only [List.map_cons,List.map_nil,Bi]<;>rfl
     refine wr [1,4,5,52,58,59,60] 1 (.val (oP l1 Aw)::(.val (iP (l1.length:Int))::(Dt 1 []))) ⟨[(1,oP l Ad),(4,iP op),(5,.vptr [.fno true f []] 0),(52,.ptr 0 0),(58,oP l1 Aw),(59,iP (l1.length:Int)),(60,iP 0)],[[.mit Ce (seen++[i])]]⟩ (And.intro (Cy rfl fb) (And.intro (SQ l1 Aw) True.intro)) (by kernel_rfl) ?_
     repeat first|apply z1|apply z2|apply z3|apply z4
     obtain⟨y,e,h⟩:=Ae h
     refine KW (A:=((List Aa)×Int×Bool)) (fun v=>v=y) (fun y=>match y with|(l2,v60,v61)=>⟨[(1,oP l2 Ad),(4,iP op),(5,.vptr [.fno true f []] 0),(52,.ptr 0 0),(58,oP l1 Aw),(59,iP (l1.length:Int)),(60,iP v60),(61,bP v61)],[[.mit Ce (seen++[i])]]⟩) ?_ ?_
     . rintro⟨l2,v60,v61⟩ rfl
       show WS _ _ _ _ _ ⟨[(1,oP l2 Ad),(4,iP op),(5,.vptr [.fno true f []] 0),(52,.ptr 0 0),(58,oP l1 Aw),(59,iP (l1.length:Int)),(60,iP v60),(61,bP v61)],[[.mit Ce (seen++[i])]]⟩
       repeat first|exact B6 (seen++[i],l2) rfl (Yz hnd hlt hl hn hi hop hB h) (Yy hnd hlt hn hi)|apply z3|apply z2|apply z1|apply z4
     . intro hJ
       repeat first|apply z1|apply z2|apply z3|apply z4
       refine Al ?_
       repeat first|apply z1|apply z2|apply z3|apply z4
       refine GV [1,4,5,52,58,59,60] 1 (fun a:Nat×((List Aa)×Int)=>Bd a.1 l1 op f a.2.1 a.2.2=some y) (fun a=>a.1) (fun a:Nat×((List Aa)×Int)=>match a with|(_,(l3,v601))=>⟨[(1,oP l3 Ad),(4,iP op),(5,.vptr [.fno true f []] 0),(52,.ptr 0 0),(58,oP l1 Aw),(59,iP (l1.length:Int)),(60,iP v601)],[[.mit Ce (seen++[i])]]⟩) (n,(l,0)) (Nat.le_of_ble_eq_true rfl) rfl e ?_
       clear e
       rintro⟨n,l3,v601⟩ e
       show WS _ _ _ _ _ ⟨[(1,oP l3 Ad),(4,iP op),(5,.vptr [.fno true f []] 0),(52,.ptr 0 0),(58,oP l1 Aw),(59,iP (l1.length:Int)),(60,iP v601)],[[.mit Ce (seen++[i])]]⟩
       cases n with
       |zero=>exact absurd e (by simp [Bd])
       |succ n =>
        replace e:=(Bk n l1 op f l3 v601).symm.trans e
        repeat first|apply z1|apply z2|apply z3|apply z4
        refine wr [1,4,5,52,58,59,60,61] 1 (Dt 1 []) ⟨[(1,oP l3 Ad),(4,iP op),(5,.vptr [.fno true f []] 0),(52,.ptr 0 0),(58,oP l1 Aw),(59,iP (l1.length:Int)),(60,iP v601),(61,bP (decide (v601<(l1.length:Int))))],[[.mit Ce (seen++[i])]]⟩ True.intro (by kernel_rfl) ?_
        repeat first|apply z1|apply z2|apply z3|apply z4
        rcases Ar e with⟨hc3,e⟩|⟨hc3,e⟩
        . refine Am (test hc3) ?_
          repeat first|apply z1|apply z2|apply z3|apply z4
          refine Al ?_
          repeat first|apply z1|apply z2|apply z3|apply z4
          obtain⟨x,hx,e⟩:=Ae e
          refine wr [1,4,5,7,52,58,59,60,61] 1 (.val (.vptr [iP x] 0)::(Dt 2 [])) ⟨[(1,oP l3 Ad),(4,iP op),(5,.vptr [.fno true f []] 0),(7,iP x),(52,.ptr 0 0),(58,oP l1 Aw),(59,iP (l1.length:Int)),(60,iP v601),(61,bP (decide (v601<(l1.length:Int))))],[[.mit Ce (seen++[i])]]⟩ (And.intro (oi hx Ji (Bi x)) True.intro) (by kernel_rfl) ?_
          repeat first|apply z1|apply z2|apply z3|apply z4
          obtain⟨y1,e1,e⟩:=Ae e
          refine KW (A:=Bool) (fun v=>v=y1) (fun v73=>⟨[(1,oP l3 Ad),(4,iP op),(5,.vptr [.fno true f []] 0),(7,iP x),(52,.ptr 0 0),(58,oP l1 Aw),(59,iP (l1.length:Int)),(60,iP v601),(61,bP (decide (v601<(l1.length:Int)))),(73,bP v73)],[[.mit Ce (seen++[i])]]⟩) ?_ ?_
          . rintro v73 rfl
            show WS _ _ _ _ _ ⟨[(1,oP l3 Ad),(4,iP op),(5,.vptr [.fno true f []] 0),(7,iP x),(52,.ptr 0 0),(58,oP l1 Aw),(59,iP (l1.length:Int)),(60,iP v601),(61,bP (decide (v601<(l1.length:Int)))),(73,bP v73)],[[.mit Ce (seen++[i])]]⟩
            repeat first|apply z1|apply z2|apply z3|apply z4
            rcases Ar e with⟨hc,e⟩|⟨hc,e⟩
            . refine Am (test hc) ?_
              repeat first|apply z1|apply z2|apply z3|apply z4
              obtain⟨l4,hl4,e⟩:=Ae e
              have fb1:([[iP x],[iP x]]:List (List PV))=l4.map Aw:=by rw [<- Ag hl4];simp only [List.map_cons,List.map_nil,Bi]<;>rfl
              obtain⟨l5,hl5,e⟩:=Ae e
              have fb2:([[iP op,tP ⟨#[]⟩,hP l4 Aw,iP 3,.fno true 101 [.vptr [.fno true f []] 0]]]:List (List PV))=l5.map Ad:=by rw [<- Ag hl5];simp only [List.map_cons,List.map_nil,Bv]<;>rfl
              obtain⟨l6,hl6,e⟩:=Ae e
              refine wr [1,4,5,52,58,59,60,61] 1 (Dt 4 (.val (oP l4 Aw)::(Dt 2 (.val (oP l5 Ad)::(.val (oP l6 Ad)::(Dt 1 [])))))) ⟨[(1,oP l6 Ad),(4,iP op),(5,.vptr [.fno true f []] 0),(52,.ptr 0 0),(58,oP l1 Aw),(59,iP (l1.length:Int)),(60,iP v601),(61,bP (decide (v601<(l1.length:Int))))],[[.mit Ce (seen++[i])]]⟩ (And.intro (Cy rfl fb1) (And.intro (Cy rfl fb2) (And.intro (Ud hl6 BA) True.intro))) (by kernel_rfl) ?_
              repeat first|apply z1|apply z2|apply z3|apply z4
              refine wr [1,4,5,52,58,59,60,61] 1 (Dt 2 []) ⟨[(1,oP l6 Ad),(4,iP op),(5,.vptr [.fno true f []] 0),(52,.ptr 0 0),(58,oP l1 Aw),(59,iP (l1.length:Int)),(60,iP (IntKind.i64.wrap (v601+1))),(61,bP (decide (v601<(l1.length:Int))))],[[.mit Ce (seen++[i])]]⟩ True.intro (by kernel_rfl) ?_
              repeat first|exact B6 (n,(l6,(IntKind.i64.wrap (v601+1)))) rfl e (Nat.lt_succ_self _)|apply z3|apply z2|apply z1|apply z4
            . refine Aj (test hc) ?_
              repeat first|apply z1|apply z2|apply z3|apply z4
              refine wr [1,4,5,52,58,59,60,61] 1 (Dt 2 []) ⟨[(1,oP l3 Ad),(4,iP op),(5,.vptr [.fno true f []] 0),(52,.ptr 0 0),(58,oP l1 Aw),(59,iP (l1.length:Int)),(60,iP (IntKind.i64.wrap (v601+1))),(61,bP (decide (v601<(l1.length:Int))))],[[.mit Ce (seen++[i])]]⟩ True.intro (by kernel_rfl) ?_
              repeat first|exact B6 (n,(l3,(IntKind.i64.wrap (v601+1)))) rfl e (Nat.lt_succ_self _)|apply z3|apply z2|apply z1|apply z4
          . intro hJ1
            rcases Ar e1 with⟨hc1,e1⟩|⟨hc1,e1⟩
            . exact wr [1,4,5,7,52,58,59,60,61,73] 1 (Dt 2 (.val (.lit (.bool true))::(Dt 7 []))) ⟨[(1,oP l3 Ad),(4,iP op),(5,.vptr [.fno true f []] 0),(7,iP x),(52,.ptr 0 0),(58,oP l1 Aw),(59,iP (l1.length:Int)),(60,iP v601),(61,bP (decide (v601<(l1.length:Int)))),(73,bP true)],[[.mit Ce (seen++[i])]]⟩ (And.intro (LM hc1) True.intro) (by kernel_rfl) (hJ1 true (Ag e1))
            . rcases Ar e1 with⟨hc2,e1⟩|⟨hc2,e1⟩
              . exact wr [1,4,5,7,52,58,59,60,61,73] 1 (Dt 2 (.val (.lit (.bool false))::(Dt 3 (.val (.lit (.bool true))::(Dt 3 []))))) ⟨[(1,oP l3 Ad),(4,iP op),(5,.vptr [.fno true f []] 0),(7,iP x),(52,.ptr 0 0),(58,oP l1 Aw),(59,iP (l1.length:Int)),(60,iP v601),(61,bP (decide (v601<(l1.length:Int)))),(73,bP true)],[[.mit Ce (seen++[i])]]⟩ (And.intro (LM hc1) (And.intro (LM hc2) True.intro)) (by kernel_rfl) (hJ1 true (Ag e1))
              . exact wr [1,4,5,7,52,58,59,60,61,73] 1 (Dt 2 (.val (.lit (.bool false))::(Dt 3 (.val (.lit (.bool false))::(Dt 3 []))))) ⟨[(1,oP l3 Ad),(4,iP op),(5,.vptr [.fno true f []] 0),(7,iP x),(52,.ptr 0 0),(58,oP l1 Aw),(59,iP (l1.length:Int)),(60,iP v601),(61,bP (decide (v601<(l1.length:Int)))),(73,bP (op == 13))],[[.mit Ce (seen++[i])]]⟩ (And.intro (LM hc1) (And.intro (LM hc2) True.intro)) (by kernel_rfl) (hJ1 (op == 13) (Ag e1))
        . refine Aj (test hc3) ?_
          repeat first|apply z1|apply z2|apply z3|apply z4
          try refine z5 rfl ?_
          repeat first|exact J0 [1,4,5,52,58,59,60,61] 1 rfl (Nat.le_of_ble_eq_true rfl) rfl (hJ (l3,v601,(decide (v601<(l1.length:Int)))) (Ag e))|apply z3|apply z2|apply z1|apply z4
 . intro hJ
   repeat first|apply z1|apply z2|apply z3|apply z4
   refine Al ?_
   repeat first|apply z1|apply z2|apply z3|apply z4
   refine GV [0,1,35,36,37] 0 (fun a:Nat×((List Aa)×Int)=>By a.1 l13 a.2.1 a.2.2=some y) (fun a=>a.1) (fun a:Nat×((List Aa)×Int)=>match a with|(_,(l15,v371))=>⟨[(0,.sl [] .own),(1,oP l15 Ad),(35,oP l13 B4),(36,iP (l13.length:Int)),(37,iP v371)],[]⟩) (n,(l12,0)) (Nat.le_of_ble_eq_true rfl) rfl e ?_
   clear e
   rintro⟨n,l15,v371⟩ e
   show WS _ _ _ _ _ ⟨[(0,.sl [] .own),(1,oP l15 Ad),(35,oP l13 B4),(36,iP (l13.length:Int)),(37,iP v371)],[]⟩
   cases n with
   |zero=>exact absurd e (by simp [By])
   |succ n =>
    replace e:=(GD n l13 l15 v371).symm.trans e
    repeat first|apply z1|apply z2|apply z3|apply z4
    refine wr [0,1,35,36,37,38] 0 (Dt 1 []) ⟨[(0,.sl [] .own),(1,oP l15 Ad),(35,oP l13 B4),(36,iP (l13.length:Int)),(37,iP v371),(38,bP (decide (v371<(l13.length:Int))))],[]⟩ True.intro (by kernel_rfl) ?_
    repeat first|apply z1|apply z2|apply z3|apply z4
    rcases Ar e with⟨hc,e⟩|⟨hc,e⟩
    . refine Am (test hc) ?_
      repeat first|apply z1|apply z2|apply z3|apply z4
      refine Al ?_
      repeat first|apply z1|apply z2|apply z3|apply z4
      obtain⟨x,hx,e⟩:=Ae e
      refine wr [0,1,2,3,35,36,37,38] 1 (Dt 1 (.val (.vptr [tP x] 0)::(Dt 4 []))) ⟨[(0,.sl [] .own),(1,oP l15 Ad),(2,.ptr 0 0),(3,tP x),(35,oP l13 B4),(36,iP (l13.length:Int)),(37,iP v371),(38,bP (decide (v371<(l13.length:Int))))],[[iP v371]]⟩ (And.intro (oi hx Jg (Hr x)) True.intro) (by kernel_rfl) ?_
      refine L9 [] [iP v371] ⟨[(0,.sl [] .own),(1,oP l15 Ad),(2,.vptr [iP v371] 0),(3,tP x),(35,oP l13 B4),(36,iP (l13.length:Int)),(37,iP v371),(38,bP (decide (v371<(l13.length:Int))))],[]⟩ (by kernel_rfl) rfl (Nat.le_of_ble_eq_true rfl) (by kernel_rfl) (by kernel_rfl) (by kernel_rfl) (by kernel_rfl) ?_
      repeat first|apply z1|apply z2|apply z3|apply z4
      obtain⟨l16,hl16,e⟩:=Ae e
      have fb14:([[iP 4]]:List (List PV))=l16.map Aw:=by rw [<- Ag hl16];simp only [List.map_cons,List.map_nil,Bi]<;>rfl
      obtain⟨l17,hl17,e⟩:=Ae e
      have fb15:([[iP 4,tP x,hP l16 Aw,iP 2,.fno true 93 [.vptr [iP v371] 0]]]:List (List PV))=l17.map Ad:=by rw [<- Ag hl17];simp only [List.map_cons,List.map_nil,Bv]<;>rfl
      obtain⟨l18,hl18,e⟩:=Ae e
      refine wr [0,1,35,36,37,38] 0 (Dt 2 (.val (oP l16 Aw)::(Dt 2 (.val (oP l17 Ad)::(.val (oP l18 Ad)::(Dt 1 [])))))) ⟨[(0,.sl [] .own),(1,oP l18 Ad),(35,oP l13 B4),(36,iP (l13.length:Int)),(37,iP v371),(38,bP (decide (v371<(l13.length:Int))))],[]⟩ (And.intro (Cy rfl fb14) (And.intro (Cy rfl fb15) (And.intro (Ud hl18 BA) True.intro))) (by kernel_rfl) ?_
      repeat first|apply z1|apply z2|apply z3|apply z4
      refine wr [0,1,35,36,37,38] 0 (Dt 2 []) ⟨[(0,.sl [] .own),(1,oP l18 Ad),(35,oP l13 B4),(36,iP (l13.length:Int)),(37,iP (IntKind.i64.wrap (v371+1))),(38,bP (decide (v371<(l13.length:Int))))],[]⟩ True.intro (by kernel_rfl) ?_
      repeat first|exact B6 (n,(l18,(IntKind.i64.wrap (v371+1)))) rfl e (Nat.lt_succ_self _)|apply z3|apply z2|apply z1|apply z4
    . refine Aj (test hc) ?_
      repeat first|apply z1|apply z2|apply z3|apply z4
      try refine z5 rfl ?_
      repeat first|exact J0 [0,1,35,36,37,38] 0 rfl (Nat.le_of_ble_eq_true rfl) rfl (hJ (l15,v371,(decide (v371<(l13.length:Int)))) (Ag e))|apply z3|apply z2|apply z1|apply z4
end Go.Proofs.YtkcfmlfkfagejaaGreatDoor
namespace Go.Proofs.YtkcfmlfkfagejaaGreatDoor
open Go.RowKit Go.Q Go.Vl Go.Sp
set_option maxRecDepth 100000
theorem Xx:C1 Tryz.prog 54 [] Bb:=by
 intro σ
 refine VC.pure (Q:=fun x=>x=.ret Bb) ?_ rfl |>.mono fun x σ' h=>h
 refine VC.less (Xy (fun x σ'=>∃ y os,Ord os/\shareP y=hP (opsOf os) Ad/\x=.ret y/\σ'=[]) ?_) ?_
 . intro os ho l hl r hr y hy
   refine⟨y,os,ho,?_,rfl,rfl⟩
   have h1:=Sg l (R2 (XT 6 os ho.1 ho.2.1) hl)
   rw [h1] at hr
   rw [hy,<- Ag hr,hl]
   rfl
 . rintro x σ' ⟨y,os,ho,hy,rfl,rfl⟩
   refine⟨.ret Bb,⟨rfl,rfl⟩,fun w G e he=>?_⟩
   obtain⟨v,h1,h2,_⟩:=CV.shareP he
   rw [hy] at h2
   exact⟨v,h1,.dis _ _ os _ (by rw [TQ ho];exact h2),trivial⟩
theorem SR:B0 [] Tryz.f55.ntmps (Tryz.f55.body.getD .skip)=true:=by kernel_rfl
theorem UP (Q:BT->List (List PV)->Prop)(hQ:∀ y,shareP y=Cv->Q (.ret y) []):VC Tryz.prog 55 [] [] Q:=by
 refine VC.intro ⟨[0],[]⟩ Tryz.func55 rfl follows SR (by rw [Tryz.ntmps55];exact Nat.le_of_ble_eq_true rfl) ?_
 refine N4 ?_
 repeat first|apply z1|apply z2|apply z3|apply z4
 refine wr [0] 0 (Dt 1 []) ⟨[(0,.lit (.map none))],[]⟩ True.intro (by kernel_rfl) ?_
 repeat first|apply z1|apply z2|apply z3|apply z4
 refine wr [0] 1 (Dt 7 []) ⟨[(0,.mref 0)],[[.mp (KI Cb)]]⟩ True.intro (by kernel_rfl) ?_
 repeat first|apply z1|apply z2|apply z3|apply z4
 refine RW [] (KI Cb) ⟨[(0,Cv)],[]⟩ (by kernel_rfl) rfl (Nat.le_of_ble_eq_true rfl) (by kernel_rfl) (by kernel_rfl) (by kernel_rfl) ?_
 exact Bj (FW hQ (by kernel_rfl)).1
theorem Wn:C1 Tryz.prog 55 [] Cv:=VC.fin (fun Q hQ=>UP Q hQ) rfl rfl
theorem Ua:B0 [] Tryz.f33.ntmps (Tryz.f33.body.getD .skip)=true:=by kernel_rfl
theorem Wo (Q:BT->List (List PV)->Prop)(hQ:∀ y,shareP y=.agg [Bb,Cv]->Q (.ret y) []):VC Tryz.prog 33 [] [] Q:=by
 refine VC.intro ⟨[0],[]⟩ Tryz.func33 rfl follows Ua (by rw [Tryz.ntmps33];exact Nat.le_of_ble_eq_true rfl) ?_
 refine N4 ?_
 repeat first|apply z1|apply z2|apply z3|apply z4
 refine wr [0] 1 (Dt 1 []) ⟨[(0,.ptr 0 0)],[[.sl [] .own,.lit (.map none)]]⟩ True.intro (by kernel_rfl) ?_
 repeat first|apply z1|apply z2|apply z3|apply z4
 refine wr [0] 1 (.call Bb::.call Cv::Dt 2 []) ⟨[(0,.ptr 0 0)],[[Bb,Cv]]⟩ (And.intro Xx (And.intro Wn True.intro)) (by kernel_rfl) ?_
 repeat first|apply z1|apply z2|apply z3|apply z4
 exact Bj (FW hQ (by kernel_rfl)).1
theorem LC:C1 Tryz.prog 33 [] (.agg [Bb,Cv]):=VC.fin (fun Q hQ=>Wo Q hQ) rfl rfl
end Go.Proofs.YtkcfmlfkfagejaaGreatDoor
