/-
  The walk of operations: whatever order the map is gone through, the table is one of the lists. (Most lines printed by lift.py.) The walks of names and made: the solver, whatever order the table of operations is in.
-/
import Derived.Test.YtkcfmlfkfagejaaGreatDoorU7
import Derived.Test.YtkcfmlfkfagejaaGreatDoorU9
import Derived.Test.YtkcfmlfkfagejaaGreatDoorU13
import Derived.Test.YtkcfmlfkfagejaaGreatDoorU22
set_option linter.unusedVariables false
set_option linter.unusedSimpArgs false
namespace Go.Proofs.YtkcfmlfkfagejaaGreatDoor
open Go.RowKit Go.Q Go.Vl Go.Sp
set_option maxRecDepth 100000
set_option linter.unusedSimpArgs false
set_option maxHeartbeats 4000000
set_option linter.unusedVariables false
theorem Yg:BC [(7,[9996,8])] Tryz.f54.ntmps (Tryz.f54.body.getD .skip)=true:=by kernel_rfl
theorem Aam (Q:Cp->List (List PV)->Prop)(hQ:∀ os:List Nat,Ord os->∀ l,l=Eu++os.flatMap FU->∀ r,WK 20 l=some r->∀ y,shareP y=hP r Ae->Q (.ret y) []):VC Tryz.prog 54 [] [] Q:=by
 obtain⟨n,hn20⟩:∃ n,n=20:=⟨20,rfl⟩
 have h:Zn n=some Eu:=by rw [hn20];exact Yf
 unfold Zn at h
 refine VC.intro ⟨[0,1,2,3,4,5,7,9,35,36,37,38,52,54,58,59,60,61,73,84,85,86,87,103],[(7,[9996,8])]⟩ Tryz.func54 rfl follows Yg (by rw [Tryz.ntmps54];exact Nat.le_of_ble_eq_true rfl) ?_
 refine P0 ?_
 repeat first|apply z1|apply z2|apply z3|apply z4
 refine wr [0] 0 (DW 1 []) ⟨[(0,.sl [] .own)],[]⟩ True.intro (by kernel_rfl) ?_
 repeat first|apply z1|apply z2|apply z3|apply z4
 obtain⟨l,hl,h⟩:=Ac h
 have fb:([[iP 1]]:List (List PV))=l.map Az:=by rw [<- Ah hl];simp only [List.map_cons,List.map_nil,Bn]<;>rfl
 obtain⟨l1,hl1,h⟩:=Ac h
 have fb1:([[iP 1],[iP 1]]:List (List PV))=l1.map Az:=by rw [<- Ah hl1];simp only [List.map_cons,List.map_nil,Bn]<;>rfl
 obtain⟨l2,hl2,h⟩:=Ac h
 have fb2:([[iP 1],[iP 1]]:List (List PV))=l2.map Az:=by rw [<- Ah hl2];simp only [List.map_cons,List.map_nil,Bn]<;>rfl
 obtain⟨l3,hl3,h⟩:=Ac h
 have fb3:([[iP 2],[iP 1]]:List (List PV))=l3.map Az:=by rw [<- Ah hl3];simp only [List.map_cons,List.map_nil,Bn]<;>rfl
 obtain⟨l4,hl4,h⟩:=Ac h
 have fb4:([[iP 1],[iP 1]]:List (List PV))=l4.map Az:=by rw [<- Ah hl4];simp only [List.map_cons,List.map_nil,Bn]<;>rfl
 obtain⟨l5,hl5,h⟩:=Ac h
 have fb5:([[iP 2],[iP 1]]:List (List PV))=l5.map Az:=by rw [<- Ah hl5];simp only [List.map_cons,List.map_nil,Bn]<;>rfl
 obtain⟨l6,hl6,h⟩:=Ac h
 have fb6:([[iP 2],[iP 2]]:List (List PV))=l6.map Az:=by rw [<- Ah hl6];simp only [List.map_cons,List.map_nil,Bn]<;>rfl
 obtain⟨l7,hl7,h⟩:=Ac h
 have fb7:([[iP 3]]:List (List PV))=l7.map Az:=by rw [<- Ah hl7];simp only [List.map_cons,List.map_nil,Bn]<;>rfl
 obtain⟨l8,hl8,h⟩:=Ac h
 have fb8:([[iP 3],[iP 3]]:List (List PV))=l8.map Az:=by rw [<- Ah hl8];simp only [List.map_cons,List.map_nil,Bn]<;>rfl
 obtain⟨l9,hl9,h⟩:=Ac h
 have fb9:([[iP 3],[iP 3]]:List (List PV))=l9.map Az:=by rw [<- Ah hl9];simp only [List.map_cons,List.map_nil,Bn]<;>rfl
 obtain⟨l10,hl10,h⟩:=Ac h
 have fb10:([[iP 1]]:List (List PV))=l10.map Az:=by rw [<- Ah hl10];simp only [List.map_cons,List.map_nil,Bn]<;>rfl
 obtain⟨l11,hl11,h⟩:=Ac h
 have fb11:([[iP 1]]:List (List PV))=l11.map Az:=by rw [<- Ah hl11];simp only [List.map_cons,List.map_nil,Bn]<;>rfl
 obtain⟨l12,hl12,h⟩:=Ac h
 have fb12:([[iP 6,tP ⟨#[]⟩,hP l Az,iP 1,.fno true 77 []],[iP 7,tP ⟨#[]⟩,hP l1 Az,iP 1,.fno true 78 []],[iP 10,tP ⟨#[]⟩,hP l2 Az,iP 1,.fno true 80 []],[iP 10,tP ⟨#[]⟩,hP l3 Az,iP 2,.fno true 82 []],[iP 11,tP ⟨#[]⟩,hP l4 Az,iP 1,.fno true 84 []],[iP 11,tP ⟨#[]⟩,hP l5 Az,iP 2,.fno true 85 []],[iP 11,tP ⟨#[]⟩,hP l6 Az,iP 1,.fno true 86 []],[iP 5,tP ⟨#[]⟩,hP l7 Az,iP 3,.fno true 87 []],[iP 18,tP ⟨#[]⟩,hP l8 Az,iP 3,.fno true 88 []],[iP 19,tP ⟨#[]⟩,hP l9 Az,iP 3,.fno true 89 []],[iP 4,tP ⟨#[100,97,121]⟩,hP l10 Az,iP 2,.fno true 90 []],[iP 4,tP ⟨#[112,101,114,115,111,110]⟩,hP l11 Az,iP 4,.fno true 92 []]]:List (List PV))=l12.map Ae:=by rw [<- Ah hl12];simp only [List.map_cons,List.map_nil,B3]<;>rfl
 refine wr [0,1] 0 (.val (oP l Az)::(DW 1 (.val (oP l1 Az)::(DW 1 (.val (oP l2 Az)::(DW 1 (.val (oP l3 Az)::(DW 1 (.val (oP l4 Az)::(DW 1 (.val (oP l5 Az)::(DW 1 (.val (oP l6 Az)::(DW 1 (.val (oP l7 Az)::(DW 1 (.val (oP l8 Az)::(DW 1 (.val (oP l9 Az)::(DW 1 (.val (oP l10 Az)::(DW 1 (.val (oP l11 Az)::(DW 1 (.val (oP l12 Ae)::(DW 1 [])))))))))))))))))))))))))) ⟨[(0,.sl [] .own),(1,oP l12 Ae)],[]⟩ (And.intro (CT rfl fb) (And.intro (CT rfl fb1) (And.intro (CT rfl fb2) (And.intro (CT rfl fb3) (And.intro (CT rfl fb4) (And.intro (CT rfl fb5) (And.intro (CT rfl fb6) (And.intro (CT rfl fb7) (And.intro (CT rfl fb8) (And.intro (CT rfl fb9) (And.intro (CT rfl fb10) (And.intro (CT rfl fb11) (And.intro (CT rfl fb12) True.intro))))))))))))) (by kernel_rfl) ?_
 repeat first|apply z1|apply z2|apply z3|apply z4
 obtain⟨l13,hl13,h⟩:=Ac h
 have fb13:([[tP ⟨#[98,111,114,110]⟩],[tP ⟨#[100,105,101,100]⟩],[tP ⟨#[97,115,107,101,100]⟩],[tP ⟨#[104,101,108,100]⟩],[tP ⟨#[108,105,102,116,101,100]⟩]]:List (List PV))=l13.map BG:=by rw [<- Ah hl13];simp only [List.map_cons,List.map_nil,IL]<;>rfl
 refine wr [0,1,35,36,37] 0 (.val (oP l13 BG)::(.val (iP (l13.length:Int))::(DW 1 []))) ⟨[(0,.sl [] .own),(1,oP l12 Ae),(35,oP l13 BG),(36,iP (l13.length:Int)),(37,iP 0)],[]⟩ (And.intro (CT rfl fb13) (And.intro (V7 l13 BG) True.intro)) (by kernel_rfl) ?_
 repeat first|apply z1|apply z2|apply z3|apply z4
 obtain⟨y,e,h⟩:=Ac h
 refine M8 (A:=((List Ab)×Int×Bool)) (fun v=>v=y) (fun y=>match y with|(l14,v37,v38)=>⟨[(0,.sl [] .own),(1,oP l14 Ae),(35,oP l13 BG),(36,iP (l13.length:Int)),(37,iP v37),(38,bP v38)],[]⟩) ?_ ?_
 . rintro⟨l14,v37,v38⟩ rfl
   show WS _ _ _ _ _ ⟨[(0,.sl [] .own),(1,oP l14 Ae),(35,oP l13 BG),(36,iP (l13.length:Int)),(37,iP v37),(38,bP v38)],[]⟩
   repeat first|apply z1|apply z2|apply z3|apply z4
   have hr:=Ah h
   subst hr
   refine Aai (N:=0) (m:=8) [1,51] 1 (DW 8 []) ⟨[(1,oP Eu Ae),(51,.mref 0)],[[.mp C0]]⟩ ⟨[(1,oP Eu Ae),(51,.vmp C0)],[]⟩ True.intro (by kernel_rfl) (Wk.frz (σ0:=[]) (cs:=[.mp C0]) (fp:=fun _=>.undef) (fm:=.vmp C0) rfl (by exact Nat.le_of_ble_eq_true rfl) (.inr ⟨C0,rfl,rfl,rfl⟩) (by kernel_rfl) (by kernel_rfl)) (fun K' hK=>?_)
   refine wrT [1,52] 1 (DW 1 []) ⟨[(1,oP Eu Ae),(52,.ptr 0 0)],[[.mit C0 []]]⟩ True.intro (by kernel_rfl) ?_ hK
   clear hK K'
   repeat first|apply z1|apply z2|apply z3|apply z4
   refine An ?_
   refine Iy [1,52] 1 (fun a:List Nat×(List Ab)=>a.1.Nodup/\(∀ i∈a.1,i<6)/\a.1.length<=6/\a.2=Eu++a.1.flatMap FU) (fun a=>6-a.1.length) (fun a=>⟨[(1,oP a.2 Ae),(52,.ptr 0 0)],[[.mit C0 a.1]]⟩) ([],Eu) (Nat.le_of_ble_eq_true rfl) rfl ⟨by simp,by simp,by simp,by simp⟩ ?_
   rintro⟨seen,l⟩ ⟨hnd,hlt,hlen,hl⟩
   show WS _ _ _ _ _ ⟨[(1,oP l Ae),(52,.ptr 0 0)],[[.mit C0 seen]]⟩
   repeat first|apply z1|apply z2|apply z3|apply z4
   refine Af (by kernel_rfl) fun K' hK hP=>?_
   refine Un (x:=.tmp 52) (d:=53) (k:=0) (kvs:=C0) (seen:=seen) rfl rfl rfl rfl (fun hall=>?_) (fun i hi hn=>?_)
   . refine wrT [1,54] 1 (DW 1 []) ⟨[(1,oP l Ae),(54,bP false)],[[.mit C0 seen]]⟩ True.intro (by kernel_rfl) ?_ hK
     clear hK hP K'
     repeat first|apply z1|apply z2|apply z3|apply z4
     refine Al rfl ?_
     repeat first|apply z1|apply z2|apply z3|apply z4
     try refine z5 rfl ?_
     repeat first|apply z1|apply z2|apply z3|apply z4
     refine KM [1] 0 (by kernel_rfl) (Nat.le_of_ble_eq_true rfl) (st0:=⟨[(1,oP l Ae)],[]⟩) (by kernel_rfl) ?_
     have hQ:=hQ seen (Zl hnd hlt hall) l hl
     obtain⟨r,h⟩:=Yc l (Ud hlen hl)
     have hQ:=hQ r h
     rw [<- hn20] at h
     unfold WK at h
     repeat first|apply z1|apply z2|apply z3|apply z4
     obtain⟨l1,hl1,h⟩:=Ac h
     have fb:([[iP 1],[iP 2],[iP 3],[iP 4]]:List (List PV))=l1.map Az:=by rw [<- Ah hl1];simp only [List.map_cons,List.map_nil,Bn]<;>rfl
     refine wr [1,84,85,86] 0 (.val (oP l1 Az)::(.val (iP (l1.length:Int))::(DW 1 []))) ⟨[(1,oP l Ae),(84,oP l1 Az),(85,iP (l1.length:Int)),(86,iP 0)],[]⟩ (And.intro (CT rfl fb) (And.intro (V7 l1 Az) True.intro)) (by kernel_rfl) ?_
     repeat first|apply z1|apply z2|apply z3|apply z4
     obtain⟨y,e,h⟩:=Ac h
     refine M8 (A:=(List Ab)) (fun v=>v=y) (fun l2=>⟨[(1,oP l2 Ae)],[]⟩) ?_ ?_
     . rintro l2 rfl
       show WS _ _ _ _ _ ⟨[(1,oP l2 Ae)],[]⟩
       repeat first|apply z1|apply z2|apply z3|apply z4
       refine wr [0] 0 (DW 2 []) ⟨[(0,hP l2 Ae)],[]⟩ True.intro (by kernel_rfl) ?_
       repeat first|apply z1|apply z2|apply z3|apply z4
       obtain rfl:=Ah h
       exact Bq (GZ hQ (by kernel_rfl)).1
     . intro hJ
       repeat first|apply z1|apply z2|apply z3|apply z4
       refine An ?_
       repeat first|apply z1|apply z2|apply z3|apply z4
       refine Iy [1,84,85,86] 0 (fun a:Nat×((List Ab)×Int)=>AS a.1 l1 a.2.1 a.2.2=some y) (fun a=>a.1) (fun a:Nat×((List Ab)×Int)=>match a with|(_,(l3,v86))=>⟨[(1,oP l3 Ae),(84,oP l1 Az),(85,iP (l1.length:Int)),(86,iP v86)],[]⟩) (n,(l,0)) (Nat.le_of_ble_eq_true rfl) rfl e ?_
       clear e
       rintro⟨n,l3,v86⟩ e
       show WS _ _ _ _ _ ⟨[(1,oP l3 Ae),(84,oP l1 Az),(85,iP (l1.length:Int)),(86,iP v86)],[]⟩
       cases n with
       |zero=>exact absurd e (by simp [AS])
       |succ n =>
        replace e:=(CX n l1 l3 v86).symm.trans e
        repeat first|apply z1|apply z2|apply z3|apply z4
        refine wr [1,84,85,86,87] 0 (DW 1 []) ⟨[(1,oP l3 Ae),(84,oP l1 Az),(85,iP (l1.length:Int)),(86,iP v86),(87,bP (decide (v86<(l1.length:Int))))],[]⟩ True.intro (by kernel_rfl) ?_
        repeat first|apply z1|apply z2|apply z3|apply z4
        rcases Ak e with⟨hc2,e⟩|⟨hc2,e⟩
        . refine Ao (test hc2) ?_
          repeat first|apply z1|apply z2|apply z3|apply z4
          refine An ?_
          repeat first|apply z1|apply z2|apply z3|apply z4
          obtain⟨x,hx,e⟩:=Ac e
          refine wr [1,9,84,85,86] 0 (.val (.vptr [iP x] 0)::(DW 2 [])) ⟨[(1,oP l3 Ae),(9,iP x),(84,oP l1 Az),(85,iP (l1.length:Int)),(86,iP v86)],[]⟩ (And.intro (oi hx Ky (Bn x)) True.intro) (by kernel_rfl) ?_
          repeat first|apply z1|apply z2|apply z3|apply z4
          obtain⟨l4,hl4,e⟩:=Ac e
          have fb1:([[iP 3],[iP x],[iP x]]:List (List PV))=l4.map Az:=by rw [<- Ah hl4];simp only [List.map_cons,List.map_nil,Bn]<;>rfl
          obtain⟨l5,hl5,e⟩:=Ac e
          have fb2:([[iP 20,tP ⟨#[]⟩,hP l4 Az,iP x,.fno true 103 []]]:List (List PV))=l5.map Ae:=by rw [<- Ah hl5];simp only [List.map_cons,List.map_nil,B3]<;>rfl
          obtain⟨l6,hl6,e⟩:=Ac e
          refine wr [1,9,84,85,86] 0 (DW 3 (.val (oP l4 Az)::(DW 2 (.val (oP l5 Ae)::(.val (oP l6 Ae)::(DW 1 [])))))) ⟨[(1,oP l6 Ae),(9,iP x),(84,oP l1 Az),(85,iP (l1.length:Int)),(86,iP v86)],[]⟩ (And.intro (CT rfl fb1) (And.intro (CT rfl fb2) (And.intro (WW hl6 BR) True.intro))) (by kernel_rfl) ?_
          repeat first|apply z1|apply z2|apply z3|apply z4
          obtain⟨y1,e1,e⟩:=Ac e
          refine M8 (A:=Bool) (fun v=>v=y1) (fun v103=>⟨[(1,oP l6 Ae),(9,iP x),(84,oP l1 Az),(85,iP (l1.length:Int)),(86,iP v86),(103,bP v103)],[]⟩) ?_ ?_
          . rintro v103 rfl
            show WS _ _ _ _ _ ⟨[(1,oP l6 Ae),(9,iP x),(84,oP l1 Az),(85,iP (l1.length:Int)),(86,iP v86),(103,bP v103)],[]⟩
            repeat first|apply z1|apply z2|apply z3|apply z4
            rcases Ak e with⟨hc,e⟩|⟨hc,e⟩
            . refine Ao (test hc) ?_
              repeat first|apply z1|apply z2|apply z3|apply z4
              obtain⟨l7,hl7,e⟩:=Ac e
              have fb3:([[iP x],[iP x]]:List (List PV))=l7.map Az:=by rw [<- Ah hl7];simp only [List.map_cons,List.map_nil,Bn]<;>rfl
              obtain⟨l8,hl8,e⟩:=Ac e
              have fb4:([[iP x],[iP x]]:List (List PV))=l8.map Az:=by rw [<- Ah hl8];simp only [List.map_cons,List.map_nil,Bn]<;>rfl
              obtain⟨l9,hl9,e⟩:=Ac e
              have fb5:([[iP 4,tP ⟨#[109,105,110]⟩,hP l7 Az,iP x,.fno true 104 []],[iP 4,tP ⟨#[109,97,120]⟩,hP l8 Az,iP x,.fno true 105 []]]:List (List PV))=l9.map Ae:=by rw [<- Ah hl9];simp only [List.map_cons,List.map_nil,B3]<;>rfl
              obtain⟨l10,hl10,e⟩:=Ac e
              refine wr [1,84,85,86] 0 (DW 3 (.val (oP l7 Az)::(DW 4 (.val (oP l8 Az)::(DW 2 (.val (oP l9 Ae)::(.val (oP l10 Ae)::(DW 1 [])))))))) ⟨[(1,oP l10 Ae),(84,oP l1 Az),(85,iP (l1.length:Int)),(86,iP v86)],[]⟩ (And.intro (CT rfl fb3) (And.intro (CT rfl fb4) (And.intro (CT rfl fb5) (And.intro (WW hl10 BR) True.intro)))) (by kernel_rfl) ?_
              repeat first|apply z1|apply z2|apply z3|apply z4
              refine wr [1,84,85,86] 0 (DW 2 []) ⟨[(1,oP l10 Ae),(84,oP l1 Az),(85,iP (l1.length:Int)),(86,iP (IntKind.i64.wrap (v86+1)))],[]⟩ True.intro (by kernel_rfl) ?_
              repeat first|exact BK (n,(l10,(IntKind.i64.wrap (v86+1)))) rfl e (Nat.lt_succ_self _)|apply z3|apply z2|apply z1|apply z4
            . refine Al (test hc) ?_
              repeat first|apply z1|apply z2|apply z3|apply z4
              refine wr [1,84,85,86] 0 (DW 2 []) ⟨[(1,oP l6 Ae),(84,oP l1 Az),(85,iP (l1.length:Int)),(86,iP (IntKind.i64.wrap (v86+1)))],[]⟩ True.intro (by kernel_rfl) ?_
              repeat first|exact BK (n,(l6,(IntKind.i64.wrap (v86+1)))) rfl e (Nat.lt_succ_self _)|apply z3|apply z2|apply z1|apply z4
          . intro hJ1
            rcases Ak e1 with⟨hc1,e1⟩|⟨hc1,e1⟩
            . exact wr [1,9,84,85,86,103] 0 (DW 2 (.val (.lit (.bool true))::(DW 3 []))) ⟨[(1,oP l6 Ae),(9,iP x),(84,oP l1 Az),(85,iP (l1.length:Int)),(86,iP v86),(103,bP true)],[]⟩ (And.intro (Ny hc1) True.intro) (by kernel_rfl) (hJ1 true (Ah e1))
            . exact wr [1,9,84,85,86,103] 0 (DW 2 (.val (.lit (.bool false))::(DW 3 []))) ⟨[(1,oP l6 Ae),(9,iP x),(84,oP l1 Az),(85,iP (l1.length:Int)),(86,iP v86),(103,bP (x == 2))],[]⟩ (And.intro (Ny hc1) True.intro) (by kernel_rfl) (hJ1 (x == 2) (Ah e1))
        . refine Al (test hc2) ?_
          repeat first|apply z1|apply z2|apply z3|apply z4
          try refine z5 rfl ?_
          repeat first|exact KM [1] 0 rfl (Nat.le_of_ble_eq_true rfl) rfl (hJ l3 (Ah e))|apply z3|apply z2|apply z1|apply z4
   . obtain⟨op,f,he,hop⟩:=Aci i hi
     refine wrT [1,52,54] 1 (DW 1 []) ⟨[(1,oP l Ae),(52,.ptr 0 0),(54,bP true)],[[.mit C0 (seen++[i])]]⟩ True.intro (by kernel_rfl) ?_ hK
     clear hK hP K'
     repeat first|apply z1|apply z2|apply z3|apply z4
     refine Ao rfl ?_
     repeat first|apply z1|apply z2|apply z3|apply z4
     refine An ?_
     repeat first|apply z1|apply z2|apply z3|apply z4
     refine Af (by kernel_rfl) fun K' hK hP=>?_
     refine Td (x:=.tmp 52) (d:=55) (k:=0) (i:=i) (kvs:=C0) (seen:=seen) rfl rfl rfl rfl he ?_
     refine wrT [1,4,5,52] 2 (DW 5 []) ⟨[(1,oP l Ae),(4,iP op),(5,.ptr 1 0),(52,.ptr 0 0)],[[.mit C0 (seen++[i])],[.fno true f []]]⟩ True.intro (by kernel_rfl) ?_ hK
     clear hK hP K'
     refine Ni [[.mit C0 (seen++[i])]] [.fno true f []] ⟨[(1,oP l Ae),(4,iP op),(5,.vptr [.fno true f []] 0),(52,.ptr 0 0)],[[.mit C0 (seen++[i])]]⟩ (by kernel_rfl) rfl (Nat.le_of_ble_eq_true rfl) (by kernel_rfl) (by kernel_rfl) (by kernel_rfl) (by kernel_rfl) ?_
     obtain⟨r,hB,h⟩:∃ r,r=l++Iu op f/\Ye n l op f=some r:=⟨_,rfl,by rw [hn20];exact Yd l op f (Ud hlen hl)⟩
     unfold Ye at h
     repeat first|apply z1|apply z2|apply z3|apply z4
     obtain⟨l1,hl1,h⟩:=Ac h
     have fb:([[iP 1],[iP 2],[iP 4]]:List (List PV))=l1.map Az:=by rw [<- Ah hl1];simp only [List.map_cons,List.map_nil,Bn]<;>rfl
     refine wr [1,4,5,52,58,59,60] 1 (.val (oP l1 Az)::(.val (iP (l1.length:Int))::(DW 1 []))) ⟨[(1,oP l Ae),(4,iP op),(5,.vptr [.fno true f []] 0),(52,.ptr 0 0),(58,oP l1 Az),(59,iP (l1.length:Int)),(60,iP 0)],[[.mit C0 (seen++[i])]]⟩ (And.intro (CT rfl fb) (And.intro (V7 l1 Az) True.intro)) (by kernel_rfl) ?_
     repeat first|apply z1|apply z2|apply z3|apply z4
     obtain⟨y,e,h⟩:=Ac h
     refine M8 (A:=((List Ab)×Int×Bool)) (fun v=>v=y) (fun y=>match y with|(l2,v60,v61)=>⟨[(1,oP l2 Ae),(4,iP op),(5,.vptr [.fno true f []] 0),(52,.ptr 0 0),(58,oP l1 Az),(59,iP (l1.length:Int)),(60,iP v60),(61,bP v61)],[[.mit C0 (seen++[i])]]⟩) ?_ ?_
     . rintro⟨l2,v60,v61⟩ rfl
       show WS _ _ _ _ _ ⟨[(1,oP l2 Ae),(4,iP op),(5,.vptr [.fno true f []] 0),(52,.ptr 0 0),(58,oP l1 Az),(59,iP (l1.length:Int)),(60,iP v60),(61,bP v61)],[[.mit C0 (seen++[i])]]⟩
       repeat first|exact BK (seen++[i],l2) rfl (Acb hnd hlt hl hn hi hop hB h) (Aca hnd hlt hn hi)|apply z3|apply z2|apply z1|apply z4
     . intro hJ
       repeat first|apply z1|apply z2|apply z3|apply z4
       refine An ?_
       repeat first|apply z1|apply z2|apply z3|apply z4
       refine Iy [1,4,5,52,58,59,60] 1 (fun a:Nat×((List Ab)×Int)=>Bf a.1 l1 op f a.2.1 a.2.2=some y) (fun a=>a.1) (fun a:Nat×((List Ab)×Int)=>match a with|(_,(l3,v601))=>⟨[(1,oP l3 Ae),(4,iP op),(5,.vptr [.fno true f []] 0),(52,.ptr 0 0),(58,oP l1 Az),(59,iP (l1.length:Int)),(60,iP v601)],[[.mit C0 (seen++[i])]]⟩) (n,(l,0)) (Nat.le_of_ble_eq_true rfl) rfl e ?_
       clear e
       rintro⟨n,l3,v601⟩ e
       show WS _ _ _ _ _ ⟨[(1,oP l3 Ae),(4,iP op),(5,.vptr [.fno true f []] 0),(52,.ptr 0 0),(58,oP l1 Az),(59,iP (l1.length:Int)),(60,iP v601)],[[.mit C0 (seen++[i])]]⟩
       cases n with
       |zero=>exact absurd e (by simp [Bf])
       |succ n =>
        replace e:=(Br n l1 op f l3 v601).symm.trans e
        repeat first|apply z1|apply z2|apply z3|apply z4
        refine wr [1,4,5,52,58,59,60,61] 1 (DW 1 []) ⟨[(1,oP l3 Ae),(4,iP op),(5,.vptr [.fno true f []] 0),(52,.ptr 0 0),(58,oP l1 Az),(59,iP (l1.length:Int)),(60,iP v601),(61,bP (decide (v601<(l1.length:Int))))],[[.mit C0 (seen++[i])]]⟩ True.intro (by kernel_rfl) ?_
        repeat first|apply z1|apply z2|apply z3|apply z4
        rcases Ak e with⟨hc3,e⟩|⟨hc3,e⟩
        . refine Ao (test hc3) ?_
          repeat first|apply z1|apply z2|apply z3|apply z4
          refine An ?_
          repeat first|apply z1|apply z2|apply z3|apply z4
          obtain⟨x,hx,e⟩:=Ac e
          refine wr [1,4,5,7,52,58,59,60,61] 1 (.val (.vptr [iP x] 0)::(DW 2 [])) ⟨[(1,oP l3 Ae),(4,iP op),(5,.vptr [.fno true f []] 0),(7,iP x),(52,.ptr 0 0),(58,oP l1 Az),(59,iP (l1.length:Int)),(60,iP v601),(61,bP (decide (v601<(l1.length:Int))))],[[.mit C0 (seen++[i])]]⟩ (And.intro (oi hx Ky (Bn x)) True.intro) (by kernel_rfl) ?_
          repeat first|apply z1|apply z2|apply z3|apply z4
          obtain⟨y1,e1,e⟩:=Ac e
          refine M8 (A:=Bool) (fun v=>v=y1) (fun v73=>⟨[(1,oP l3 Ae),(4,iP op),(5,.vptr [.fno true f []] 0),(7,iP x),(52,.ptr 0 0),(58,oP l1 Az),(59,iP (l1.length:Int)),(60,iP v601),(61,bP (decide (v601<(l1.length:Int)))),(73,bP v73)],[[.mit C0 (seen++[i])]]⟩) ?_ ?_
          . rintro v73 rfl
            show WS _ _ _ _ _ ⟨[(1,oP l3 Ae),(4,iP op),(5,.vptr [.fno true f []] 0),(7,iP x),(52,.ptr 0 0),(58,oP l1 Az),(59,iP (l1.length:Int)),(60,iP v601),(61,bP (decide (v601<(l1.length:Int)))),(73,bP v73)],[[.mit C0 (seen++[i])]]⟩
            repeat first|apply z1|apply z2|apply z3|apply z4
            rcases Ak e with⟨hc,e⟩|⟨hc,e⟩
            . refine Ao (test hc) ?_
              repeat first|apply z1|apply z2|apply z3|apply z4
              obtain⟨l4,hl4,e⟩:=Ac e
              have fb1:([[iP x],[iP x]]:List (List PV))=l4.map Az:=by rw [<- Ah hl4];simp only [List.map_cons,List.map_nil,Bn]<;>rfl
              obtain⟨l5,hl5,e⟩:=Ac e
              have fb2:([[iP op,tP ⟨#[]⟩,hP l4 Az,iP 3,.fno true 101 [.vptr [.fno true f []] 0]]]:List (List PV))=l5.map Ae:=by rw [<- Ah hl5];simp only [List.map_cons,List.map_nil,B3]<;>rfl
              obtain⟨l6,hl6,e⟩:=Ac e
              refine wr [1,4,5,52,58,59,60,61] 1 (DW 4 (.val (oP l4 Az)::(DW 2 (.val (oP l5 Ae)::(.val (oP l6 Ae)::(DW 1 [])))))) ⟨[(1,oP l6 Ae),(4,iP op),(5,.vptr [.fno true f []] 0),(52,.ptr 0 0),(58,oP l1 Az),(59,iP (l1.length:Int)),(60,iP v601),(61,bP (decide (v601<(l1.length:Int))))],[[.mit C0 (seen++[i])]]⟩ (And.intro (CT rfl fb1) (And.intro (CT rfl fb2) (And.intro (WW hl6 BR) True.intro))) (by kernel_rfl) ?_
              repeat first|apply z1|apply z2|apply z3|apply z4
              refine wr [1,4,5,52,58,59,60,61] 1 (DW 2 []) ⟨[(1,oP l6 Ae),(4,iP op),(5,.vptr [.fno true f []] 0),(52,.ptr 0 0),(58,oP l1 Az),(59,iP (l1.length:Int)),(60,iP (IntKind.i64.wrap (v601+1))),(61,bP (decide (v601<(l1.length:Int))))],[[.mit C0 (seen++[i])]]⟩ True.intro (by kernel_rfl) ?_
              repeat first|exact BK (n,(l6,(IntKind.i64.wrap (v601+1)))) rfl e (Nat.lt_succ_self _)|apply z3|apply z2|apply z1|apply z4
            . refine Al (test hc) ?_
              repeat first|apply z1|apply z2|apply z3|apply z4
              refine wr [1,4,5,52,58,59,60,61] 1 (DW 2 []) ⟨[(1,oP l3 Ae),(4,iP op),(5,.vptr [.fno true f []] 0),(52,.ptr 0 0),(58,oP l1 Az),(59,iP (l1.length:Int)),(60,iP (IntKind.i64.wrap (v601+1))),(61,bP (decide (v601<(l1.length:Int))))],[[.mit C0 (seen++[i])]]⟩ True.intro (by kernel_rfl) ?_
              repeat first|exact BK (n,(l3,(IntKind.i64.wrap (v601+1)))) rfl e (Nat.lt_succ_self _)|apply z3|apply z2|apply z1|apply z4
          . intro hJ1
            rcases Ak e1 with⟨hc1,e1⟩|⟨hc1,e1⟩
            . exact wr [1,4,5,7,52,58,59,60,61,73] 1 (DW 2 (.val (.lit (.bool true))::(DW 7 []))) ⟨[(1,oP l3 Ae),(4,iP op),(5,.vptr [.fno true f []] 0),(7,iP x),(52,.ptr 0 0),(58,oP l1 Az),(59,iP (l1.length:Int)),(60,iP v601),(61,bP (decide (v601<(l1.length:Int)))),(73,bP true)],[[.mit C0 (seen++[i])]]⟩ (And.intro (Ny hc1) True.intro) (by kernel_rfl) (hJ1 true (Ah e1))
            . rcases Ak e1 with⟨hc2,e1⟩|⟨hc2,e1⟩
              . exact wr [1,4,5,7,52,58,59,60,61,73] 1 (DW 2 (.val (.lit (.bool false))::(DW 3 (.val (.lit (.bool true))::(DW 3 []))))) ⟨[(1,oP l3 Ae),(4,iP op),(5,.vptr [.fno true f []] 0),(7,iP x),(52,.ptr 0 0),(58,oP l1 Az),(59,iP (l1.length:Int)),(60,iP v601),(61,bP (decide (v601<(l1.length:Int)))),(73,bP true)],[[.mit C0 (seen++[i])]]⟩ (And.intro (Ny hc1) (And.intro (Ny hc2) True.intro)) (by kernel_rfl) (hJ1 true (Ah e1))
              . exact wr [1,4,5,7,52,58,59,60,61,73] 1 (DW 2 (.val (.lit (.bool false))::(DW 3 (.val (.lit (.bool false))::(DW 3 []))))) ⟨[(1,oP l3 Ae),(4,iP op),(5,.vptr [.fno true f []] 0),(7,iP x),(52,.ptr 0 0),(58,oP l1 Az),(59,iP (l1.length:Int)),(60,iP v601),(61,bP (decide (v601<(l1.length:Int)))),(73,bP (op == 13))],[[.mit C0 (seen++[i])]]⟩ (And.intro (Ny hc1) (And.intro (Ny hc2) True.intro)) (by kernel_rfl) (hJ1 (op == 13) (Ah e1))
        . refine Al (test hc3) ?_
          repeat first|apply z1|apply z2|apply z3|apply z4
          try refine z5 rfl ?_
          repeat first|exact KM [1,4,5,52,58,59,60,61] 1 rfl (Nat.le_of_ble_eq_true rfl) rfl (hJ (l3,v601,(decide (v601<(l1.length:Int)))) (Ah e))|apply z3|apply z2|apply z1|apply z4
 . intro hJ
   repeat first|apply z1|apply z2|apply z3|apply z4
   refine An ?_
   repeat first|apply z1|apply z2|apply z3|apply z4
   refine Iy [0,1,35,36,37] 0 (fun a:Nat×((List Ab)×Int)=>B6 a.1 l13 a.2.1 a.2.2=some y) (fun a=>a.1) (fun a:Nat×((List Ab)×Int)=>match a with|(_,(l15,v371))=>⟨[(0,.sl [] .own),(1,oP l15 Ae),(35,oP l13 BG),(36,iP (l13.length:Int)),(37,iP v371)],[]⟩) (n,(l12,0)) (Nat.le_of_ble_eq_true rfl) rfl e ?_
   clear e
   rintro⟨n,l15,v371⟩ e
   show WS _ _ _ _ _ ⟨[(0,.sl [] .own),(1,oP l15 Ae),(35,oP l13 BG),(36,iP (l13.length:Int)),(37,iP v371)],[]⟩
   cases n with
   |zero=>exact absurd e (by simp [B6])
   |succ n =>
    replace e:=(HM n l13 l15 v371).symm.trans e
    repeat first|apply z1|apply z2|apply z3|apply z4
    refine wr [0,1,35,36,37,38] 0 (DW 1 []) ⟨[(0,.sl [] .own),(1,oP l15 Ae),(35,oP l13 BG),(36,iP (l13.length:Int)),(37,iP v371),(38,bP (decide (v371<(l13.length:Int))))],[]⟩ True.intro (by kernel_rfl) ?_
    repeat first|apply z1|apply z2|apply z3|apply z4
    rcases Ak e with⟨hc,e⟩|⟨hc,e⟩
    . refine Ao (test hc) ?_
      repeat first|apply z1|apply z2|apply z3|apply z4
      refine An ?_
      repeat first|apply z1|apply z2|apply z3|apply z4
      obtain⟨x,hx,e⟩:=Ac e
      refine wr [0,1,2,3,35,36,37,38] 1 (DW 1 (.val (.vptr [tP x] 0)::(DW 4 []))) ⟨[(0,.sl [] .own),(1,oP l15 Ae),(2,.ptr 0 0),(3,tP x),(35,oP l13 BG),(36,iP (l13.length:Int)),(37,iP v371),(38,bP (decide (v371<(l13.length:Int))))],[[iP v371]]⟩ (And.intro (oi hx Kw (IL x)) True.intro) (by kernel_rfl) ?_
      refine Ni [] [iP v371] ⟨[(0,.sl [] .own),(1,oP l15 Ae),(2,.vptr [iP v371] 0),(3,tP x),(35,oP l13 BG),(36,iP (l13.length:Int)),(37,iP v371),(38,bP (decide (v371<(l13.length:Int))))],[]⟩ (by kernel_rfl) rfl (Nat.le_of_ble_eq_true rfl) (by kernel_rfl) (by kernel_rfl) (by kernel_rfl) (by kernel_rfl) ?_
      repeat first|apply z1|apply z2|apply z3|apply z4
      obtain⟨l16,hl16,e⟩:=Ac e
      have fb14:([[iP 4]]:List (List PV))=l16.map Az:=by rw [<- Ah hl16];simp only [List.map_cons,List.map_nil,Bn]<;>rfl
      obtain⟨l17,hl17,e⟩:=Ac e
      have fb15:([[iP 4,tP x,hP l16 Az,iP 2,.fno true 93 [.vptr [iP v371] 0]]]:List (List PV))=l17.map Ae:=by rw [<- Ah hl17];simp only [List.map_cons,List.map_nil,B3]<;>rfl
      obtain⟨l18,hl18,e⟩:=Ac e
      refine wr [0,1,35,36,37,38] 0 (DW 2 (.val (oP l16 Az)::(DW 2 (.val (oP l17 Ae)::(.val (oP l18 Ae)::(DW 1 [])))))) ⟨[(0,.sl [] .own),(1,oP l18 Ae),(35,oP l13 BG),(36,iP (l13.length:Int)),(37,iP v371),(38,bP (decide (v371<(l13.length:Int))))],[]⟩ (And.intro (CT rfl fb14) (And.intro (CT rfl fb15) (And.intro (WW hl18 BR) True.intro))) (by kernel_rfl) ?_
      repeat first|apply z1|apply z2|apply z3|apply z4
      refine wr [0,1,35,36,37,38] 0 (DW 2 []) ⟨[(0,.sl [] .own),(1,oP l18 Ae),(35,oP l13 BG),(36,iP (l13.length:Int)),(37,iP (IntKind.i64.wrap (v371+1))),(38,bP (decide (v371<(l13.length:Int))))],[]⟩ True.intro (by kernel_rfl) ?_
      repeat first|exact BK (n,(l18,(IntKind.i64.wrap (v371+1)))) rfl e (Nat.lt_succ_self _)|apply z3|apply z2|apply z1|apply z4
    . refine Al (test hc) ?_
      repeat first|apply z1|apply z2|apply z3|apply z4
      try refine z5 rfl ?_
      repeat first|exact KM [0,1,35,36,37,38] 0 rfl (Nat.le_of_ble_eq_true rfl) rfl (hJ (l15,v371,(decide (v371<(l13.length:Int)))) (Ah e))|apply z3|apply z2|apply z1|apply z4
end Go.Proofs.YtkcfmlfkfagejaaGreatDoor
namespace Go.Proofs.YtkcfmlfkfagejaaGreatDoor
open Go.RowKit Go.Q Go.Vl Go.Sp
set_option maxRecDepth 100000
theorem Aal:Cd Tryz.prog 54 [] Bd:=by
 intro σ
 refine VC.pure (Q:=fun x=>x=.ret Bd) ?_ rfl |>.mono fun x σ' h=>h
 refine VC.less (Aam (fun x σ'=>∃ y os,Ord os/\shareP y=hP (opsOf os) Ae/\x=.ret y/\σ'=[]) ?_) ?_
 . intro os ho l hl r hr y hy
   refine⟨y,os,ho,?_,rfl,rfl⟩
   have h1:=UG l (Ud (ndl 6 os ho.1 ho.2.1) hl)
   rw [h1] at hr
   rw [hy,<- Ah hr,hl]
   rfl
 . rintro x σ' ⟨y,os,ho,hy,rfl,rfl⟩
   refine⟨.ret Bd,⟨rfl,rfl⟩,fun w G e he=>?_⟩
   obtain⟨v,h1,h2,_⟩:=D3.shareP he
   rw [hy] at h2
   exact⟨v,h1,.dis _ _ os _ (by rw [WJ ho];exact h2),trivial⟩
theorem V8:BC [] Tryz.f55.ntmps (Tryz.f55.body.getD .skip)=true:=by kernel_rfl
theorem XH (Q:Cp->List (List PV)->Prop)(hQ:∀ y,shareP y=CN->Q (.ret y) []):VC Tryz.prog 55 [] [] Q:=by
 refine VC.intro ⟨[0],[]⟩ Tryz.func55 rfl follows V8 (by rw [Tryz.ntmps55];exact Nat.le_of_ble_eq_true rfl) ?_
 refine P0 ?_
 repeat first|apply z1|apply z2|apply z3|apply z4
 refine wr [0] 0 (DW 1 []) ⟨[(0,.lit (.map none))],[]⟩ True.intro (by kernel_rfl) ?_
 repeat first|apply z1|apply z2|apply z3|apply z4
 refine wr [0] 1 (DW 7 []) ⟨[(0,.mref 0)],[[.mp (Mu B8)]]⟩ True.intro (by kernel_rfl) ?_
 repeat first|apply z1|apply z2|apply z3|apply z4
 refine U4 [] (Mu B8) ⟨[(0,CN)],[]⟩ (by kernel_rfl) rfl (Nat.le_of_ble_eq_true rfl) (by kernel_rfl) (by kernel_rfl) (by kernel_rfl) ?_
 exact Bq (GZ hQ (by kernel_rfl)).1
theorem YZ:Cd Tryz.prog 55 [] CN:=VC.fin (fun Q hQ=>XH Q hQ) rfl rfl
theorem WT:BC [] Tryz.f33.ntmps (Tryz.f33.body.getD .skip)=true:=by kernel_rfl
theorem Za (Q:Cp->List (List PV)->Prop)(hQ:∀ y,shareP y=.agg [Bd,CN]->Q (.ret y) []):VC Tryz.prog 33 [] [] Q:=by
 refine VC.intro ⟨[0],[]⟩ Tryz.func33 rfl follows WT (by rw [Tryz.ntmps33];exact Nat.le_of_ble_eq_true rfl) ?_
 refine P0 ?_
 repeat first|apply z1|apply z2|apply z3|apply z4
 refine wr [0] 1 (DW 1 []) ⟨[(0,.ptr 0 0)],[[.sl [] .own,.lit (.map none)]]⟩ True.intro (by kernel_rfl) ?_
 repeat first|apply z1|apply z2|apply z3|apply z4
 refine wr [0] 1 (.call Bd::.call CN::DW 2 []) ⟨[(0,.ptr 0 0)],[[Bd,CN]]⟩ (And.intro Aal (And.intro YZ True.intro)) (by kernel_rfl) ?_
 repeat first|apply z1|apply z2|apply z3|apply z4
 exact Bq (GZ hQ (by kernel_rfl)).1
theorem Nl:Cd Tryz.prog 33 [] (.agg [Bd,CN]):=VC.fin (fun Q hQ=>Za Q hQ) rfl rfl
end Go.Proofs.YtkcfmlfkfagejaaGreatDoor
