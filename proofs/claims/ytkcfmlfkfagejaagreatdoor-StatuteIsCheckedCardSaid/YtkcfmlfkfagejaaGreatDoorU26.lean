/-
  The walk of operations: whatever order the map is gone through, the table is one of the lists. (Most lines printed by lift.py.) The walks of names and made: the solver, whatever order the table of operations is in.
-/
import Derived.Test.YtkcfmlfkfagejaaGreatDoorU7
import Derived.Test.YtkcfmlfkfagejaaGreatDoorU9
import Derived.Test.YtkcfmlfkfagejaaGreatDoorU13
import Derived.Test.YtkcfmlfkfagejaaGreatDoorU25
set_option linter.unusedVariables false
set_option linter.unusedSimpArgs false
namespace Go.Proofs.YtkcfmlfkfagejaaGreatDoor
open Go.RowKit Go.Q Go.Vl Go.Sp
set_option maxRecDepth 100000
set_option linter.unusedSimpArgs false
set_option maxHeartbeats 4000000
set_option linter.unusedVariables false
theorem XA:BR [(7,[9996,8])] Tryz.f54.ntmps (Tryz.f54.body.getD .skip)=true:=by kernel_rfl
theorem ZZ (Q:C6->List (List PV)->Prop)(hQ:∀ os:List Nat,Ord os->∀ l,l=Fm++os.flatMap Gt->∀ r,VI 20 l=some r->∀ y,shareP y=hP r Ag->Q (.ret y) []):VC Tryz.prog 54 [] [] Q:=by
 obtain⟨n,hn20⟩:∃ n,n=20:=⟨20,rfl⟩
 have h:YY n=some Fm:=by rw [hn20];exact X9
 unfold YY at h
 refine VC.intro ⟨[0,1,2,3,4,5,7,9,35,36,37,38,52,54,58,59,60,61,73,84,85,86,87,103],[(7,[9996,8])]⟩ Tryz.func54 rfl follows XA (by rw [Tryz.ntmps54];exact Nat.le_of_ble_eq_true rfl) ?_
 refine OG ?_
 repeat first|apply z1|apply z2|apply z3|apply z4
 refine wr [0] 0 (DS 1 []) ⟨[(0,.sl [] .own)],[]⟩ True.intro (by kernel_rfl) ?_
 repeat first|apply z1|apply z2|apply z3|apply z4
 obtain⟨l,hl,h⟩:=Ad h
 have fb:([[iP 1]]:List (List PV))=l.map A1:=by rw [<- Aa hl];simp only [List.map_cons,List.map_nil,B6]<;>rfl
 obtain⟨l1,hl1,h⟩:=Ad h
 have fb1:([[iP 1],[iP 1]]:List (List PV))=l1.map A1:=by rw [<- Aa hl1];simp only [List.map_cons,List.map_nil,B6]<;>rfl
 obtain⟨l2,hl2,h⟩:=Ad h
 have fb2:([[iP 1],[iP 1]]:List (List PV))=l2.map A1:=by rw [<- Aa hl2];simp only [List.map_cons,List.map_nil,B6]<;>rfl
 obtain⟨l3,hl3,h⟩:=Ad h
 have fb3:([[iP 2],[iP 1]]:List (List PV))=l3.map A1:=by rw [<- Aa hl3];simp only [List.map_cons,List.map_nil,B6]<;>rfl
 obtain⟨l4,hl4,h⟩:=Ad h
 have fb4:([[iP 1],[iP 1]]:List (List PV))=l4.map A1:=by rw [<- Aa hl4];simp only [List.map_cons,List.map_nil,B6]<;>rfl
 obtain⟨l5,hl5,h⟩:=Ad h
 have fb5:([[iP 2],[iP 1]]:List (List PV))=l5.map A1:=by rw [<- Aa hl5];simp only [List.map_cons,List.map_nil,B6]<;>rfl
 obtain⟨l6,hl6,h⟩:=Ad h
 have fb6:([[iP 2],[iP 2]]:List (List PV))=l6.map A1:=by rw [<- Aa hl6];simp only [List.map_cons,List.map_nil,B6]<;>rfl
 obtain⟨l7,hl7,h⟩:=Ad h
 have fb7:([[iP 3]]:List (List PV))=l7.map A1:=by rw [<- Aa hl7];simp only [List.map_cons,List.map_nil,B6]<;>rfl
 obtain⟨l8,hl8,h⟩:=Ad h
 have fb8:([[iP 3],[iP 3]]:List (List PV))=l8.map A1:=by rw [<- Aa hl8];simp only [List.map_cons,List.map_nil,B6]<;>rfl
 obtain⟨l9,hl9,h⟩:=Ad h
 have fb9:([[iP 3],[iP 3]]:List (List PV))=l9.map A1:=by rw [<- Aa hl9];simp only [List.map_cons,List.map_nil,B6]<;>rfl
 obtain⟨l10,hl10,h⟩:=Ad h
 have fb10:([[iP 1]]:List (List PV))=l10.map A1:=by rw [<- Aa hl10];simp only [List.map_cons,List.map_nil,B6]<;>rfl
 obtain⟨l11,hl11,h⟩:=Ad h
 have fb11:([[iP 1]]:List (List PV))=l11.map A1:=by rw [<- Aa hl11];simp only [List.map_cons,List.map_nil,B6]<;>rfl
 obtain⟨l12,hl12,h⟩:=Ad h
 have fb12:([[iP 6,tP ⟨#[]⟩,hP l A1,iP 1,.fno true 77 []],[iP 7,tP ⟨#[]⟩,hP l1 A1,iP 1,.fno true 78 []],[iP 10,tP ⟨#[]⟩,hP l2 A1,iP 1,.fno true 80 []],[iP 10,tP ⟨#[]⟩,hP l3 A1,iP 2,.fno true 82 []],[iP 11,tP ⟨#[]⟩,hP l4 A1,iP 1,.fno true 84 []],[iP 11,tP ⟨#[]⟩,hP l5 A1,iP 2,.fno true 85 []],[iP 11,tP ⟨#[]⟩,hP l6 A1,iP 1,.fno true 86 []],[iP 5,tP ⟨#[]⟩,hP l7 A1,iP 3,.fno true 87 []],[iP 18,tP ⟨#[]⟩,hP l8 A1,iP 3,.fno true 88 []],[iP 19,tP ⟨#[]⟩,hP l9 A1,iP 3,.fno true 89 []],[iP 4,tP ⟨#[100,97,121]⟩,hP l10 A1,iP 2,.fno true 90 []],[iP 4,tP ⟨#[112,101,114,115,111,110]⟩,hP l11 A1,iP 4,.fno true 92 []]]:List (List PV))=l12.map Ag:=by rw [<- Aa hl12];simp only [List.map_cons,List.map_nil,BM]<;>rfl
 refine wr [0,1] 0 (.val (oP l A1)::(DS 1 (.val (oP l1 A1)::(DS 1 (.val (oP l2 A1)::(DS 1 (.val (oP l3 A1)::(DS 1 (.val (oP l4 A1)::(DS 1 (.val (oP l5 A1)::(DS 1 (.val (oP l6 A1)::(DS 1 (.val (oP l7 A1)::(DS 1 (.val (oP l8 A1)::(DS 1 (.val (oP l9 A1)::(DS 1 (.val (oP l10 A1)::(DS 1 (.val (oP l11 A1)::(DS 1 (.val (oP l12 Ag)::(DS 1 [])))))))))))))))))))))))))) ⟨[(0,.sl [] .own),(1,oP l12 Ag)],[]⟩ (And.intro (CY rfl fb) (And.intro (CY rfl fb1) (And.intro (CY rfl fb2) (And.intro (CY rfl fb3) (And.intro (CY rfl fb4) (And.intro (CY rfl fb5) (And.intro (CY rfl fb6) (And.intro (CY rfl fb7) (And.intro (CY rfl fb8) (And.intro (CY rfl fb9) (And.intro (CY rfl fb10) (And.intro (CY rfl fb11) (And.intro (CY rfl fb12) True.intro))))))))))))) (by kernel_rfl) ?_
 repeat first|apply z1|apply z2|apply z3|apply z4
 obtain⟨l13,hl13,h⟩:=Ad h
 have fb13:([[tP ⟨#[98,111,114,110]⟩],[tP ⟨#[100,105,101,100]⟩],[tP ⟨#[97,115,107,101,100]⟩],[tP ⟨#[104,101,108,100]⟩],[tP ⟨#[108,105,102,116,101,100]⟩]]:List (List PV))=l13.map BX:=by rw [<- Aa hl13];simp only [List.map_cons,List.map_nil,Ij]<;>rfl
 refine wr [0,1,35,36,37] 0 (.val (oP l13 BX)::(.val (iP (l13.length:Int))::(DS 1 []))) ⟨[(0,.sl [] .own),(1,oP l12 Ag),(35,oP l13 BX),(36,iP (l13.length:Int)),(37,iP 0)],[]⟩ (And.intro (CY rfl fb13) (And.intro (U9 l13 BX) True.intro)) (by kernel_rfl) ?_
 repeat first|apply z1|apply z2|apply z3|apply z4
 obtain⟨y,e,h⟩:=Ad h
 refine LL (A:=((List Af)×Int×Bool)) (fun v=>v=y) (fun y=>match y with|(l14,v37,v38)=>⟨[(0,.sl [] .own),(1,oP l14 Ag),(35,oP l13 BX),(36,iP (l13.length:Int)),(37,iP v37),(38,bP v38)],[]⟩) ?_ ?_
 . rintro⟨l14,v37,v38⟩ rfl
   show WS _ _ _ _ _ ⟨[(0,.sl [] .own),(1,oP l14 Ag),(35,oP l13 BX),(36,iP (l13.length:Int)),(37,iP v37),(38,bP v38)],[]⟩
   repeat first|apply z1|apply z2|apply z3|apply z4
   have hr:=Aa h
   subst hr
   refine ZT (N:=0) (m:=8) [1,51] 1 (DS 8 []) ⟨[(1,oP Fm Ag),(51,.mref 0)],[[.mp CK]]⟩ ⟨[(1,oP Fm Ag),(51,.vmp CK)],[]⟩ True.intro (by kernel_rfl) (Wk.frz (σ0:=[]) (cs:=[.mp CK]) (fp:=fun _=>.undef) (fm:=.vmp CK) rfl (by exact Nat.le_of_ble_eq_true rfl) (.inr ⟨CK,rfl,rfl,rfl⟩) (by kernel_rfl) (by kernel_rfl)) (fun K' hK=>?_)
   refine wrT [1,52] 1 (DS 1 []) ⟨[(1,oP Fm Ag),(52,.ptr 0 0)],[[.mit CK []]]⟩ True.intro (by kernel_rfl) ?_ hK
   clear hK K'
   repeat first|apply z1|apply z2|apply z3|apply z4
   refine Aq ?_
   refine HL [1,52] 1 (fun a:List Nat×(List Af)=>a.1.Nodup/\(∀ i∈a.1,i<6)/\a.1.length<=6/\a.2=Fm++a.1.flatMap Gt) (fun a=>6-a.1.length) (fun a=>⟨[(1,oP a.2 Ag),(52,.ptr 0 0)],[[.mit CK a.1]]⟩) ([],Fm) (Nat.le_of_ble_eq_true rfl) rfl ⟨by simp,by simp,by simp,by simp⟩ ?_
   rintro⟨seen,l⟩ ⟨hnd,hlt,hlen,hl⟩
   show WS _ _ _ _ _ ⟨[(1,oP l Ag),(52,.ptr 0 0)],[[.mit CK seen]]⟩
   repeat first|apply z1|apply z2|apply z3|apply z4
   refine Ah (by kernel_rfl) fun K' hK hP=>?_
   refine Tp (x:=.tmp 52) (d:=53) (k:=0) (kvs:=CK) (seen:=seen) rfl rfl rfl rfl (fun hall=>?_) (fun i hi hn=>?_)
   . refine wrT [1,54] 1 (DS 1 []) ⟨[(1,oP l Ag),(54,bP false)],[[.mit CK seen]]⟩ True.intro (by kernel_rfl) ?_ hK
     clear hK hP K'
     repeat first|apply z1|apply z2|apply z3|apply z4
     refine An rfl ?_
     repeat first|apply z1|apply z2|apply z3|apply z4
     try refine z5 rfl ?_
     repeat first|apply z1|apply z2|apply z3|apply z4
     refine Kh [1] 0 (by kernel_rfl) (Nat.le_of_ble_eq_true rfl) (st0:=⟨[(1,oP l Ag)],[]⟩) (by kernel_rfl) ?_
     have hQ:=hQ seen (YW hnd hlt hall) l hl
     obtain⟨r,h⟩:=X6 l (SW hlen hl)
     have hQ:=hQ r h
     rw [<- hn20] at h
     unfold VI at h
     repeat first|apply z1|apply z2|apply z3|apply z4
     obtain⟨l1,hl1,h⟩:=Ad h
     have fb:([[iP 1],[iP 2],[iP 3],[iP 4]]:List (List PV))=l1.map A1:=by rw [<- Aa hl1];simp only [List.map_cons,List.map_nil,B6]<;>rfl
     refine wr [1,84,85,86] 0 (.val (oP l1 A1)::(.val (iP (l1.length:Int))::(DS 1 []))) ⟨[(1,oP l Ag),(84,oP l1 A1),(85,iP (l1.length:Int)),(86,iP 0)],[]⟩ (And.intro (CY rfl fb) (And.intro (U9 l1 A1) True.intro)) (by kernel_rfl) ?_
     repeat first|apply z1|apply z2|apply z3|apply z4
     obtain⟨y,e,h⟩:=Ad h
     refine LL (A:=(List Af)) (fun v=>v=y) (fun l2=>⟨[(1,oP l2 Ag)],[]⟩) ?_ ?_
     . rintro l2 rfl
       show WS _ _ _ _ _ ⟨[(1,oP l2 Ag)],[]⟩
       repeat first|apply z1|apply z2|apply z3|apply z4
       refine wr [0] 0 (DS 2 []) ⟨[(0,hP l2 Ag)],[]⟩ True.intro (by kernel_rfl) ?_
       repeat first|apply z1|apply z2|apply z3|apply z4
       obtain rfl:=Aa h
       exact B8 (GQ hQ (by kernel_rfl)).1
     . intro hJ
       repeat first|apply z1|apply z2|apply z3|apply z4
       refine Aq ?_
       repeat first|apply z1|apply z2|apply z3|apply z4
       refine HL [1,84,85,86] 0 (fun a:Nat×((List Af)×Int)=>Bd a.1 l1 a.2.1 a.2.2=some y) (fun a=>a.1) (fun a:Nat×((List Af)×Int)=>match a with|(_,(l3,v86))=>⟨[(1,oP l3 Ag),(84,oP l1 A1),(85,iP (l1.length:Int)),(86,iP v86)],[]⟩) (n,(l,0)) (Nat.le_of_ble_eq_true rfl) rfl e ?_
       clear e
       rintro⟨n,l3,v86⟩ e
       show WS _ _ _ _ _ ⟨[(1,oP l3 Ag),(84,oP l1 A1),(85,iP (l1.length:Int)),(86,iP v86)],[]⟩
       cases n with
       |zero=>exact absurd e (by simp [Bd])
       |succ n =>
        replace e:=(Db n l1 l3 v86).symm.trans e
        repeat first|apply z1|apply z2|apply z3|apply z4
        refine wr [1,84,85,86,87] 0 (DS 1 []) ⟨[(1,oP l3 Ag),(84,oP l1 A1),(85,iP (l1.length:Int)),(86,iP v86),(87,bP (decide (v86<(l1.length:Int))))],[]⟩ True.intro (by kernel_rfl) ?_
        repeat first|apply z1|apply z2|apply z3|apply z4
        rcases Ai e with⟨hc2,e⟩|⟨hc2,e⟩
        . refine Ar (test hc2) ?_
          repeat first|apply z1|apply z2|apply z3|apply z4
          refine Aq ?_
          repeat first|apply z1|apply z2|apply z3|apply z4
          obtain⟨x,hx,e⟩:=Ad e
          refine wr [1,9,84,85,86] 0 (.val (.vptr [iP x] 0)::(DS 2 [])) ⟨[(1,oP l3 Ag),(9,iP x),(84,oP l1 A1),(85,iP (l1.length:Int)),(86,iP v86)],[]⟩ (And.intro (oi hx JQ (B6 x)) True.intro) (by kernel_rfl) ?_
          repeat first|apply z1|apply z2|apply z3|apply z4
          obtain⟨l4,hl4,e⟩:=Ad e
          have fb1:([[iP 3],[iP x],[iP x]]:List (List PV))=l4.map A1:=by rw [<- Aa hl4];simp only [List.map_cons,List.map_nil,B6]<;>rfl
          obtain⟨l5,hl5,e⟩:=Ad e
          have fb2:([[iP 20,tP ⟨#[]⟩,hP l4 A1,iP x,.fno true 103 []]]:List (List PV))=l5.map Ag:=by rw [<- Aa hl5];simp only [List.map_cons,List.map_nil,BM]<;>rfl
          obtain⟨l6,hl6,e⟩:=Ad e
          refine wr [1,9,84,85,86] 0 (DS 3 (.val (oP l4 A1)::(DS 2 (.val (oP l5 Ag)::(.val (oP l6 Ag)::(DS 1 [])))))) ⟨[(1,oP l6 Ag),(9,iP x),(84,oP l1 A1),(85,iP (l1.length:Int)),(86,iP v86)],[]⟩ (And.intro (CY rfl fb1) (And.intro (CY rfl fb2) (And.intro (VQ hl6 Cg) True.intro))) (by kernel_rfl) ?_
          repeat first|apply z1|apply z2|apply z3|apply z4
          obtain⟨y1,e1,e⟩:=Ad e
          refine LL (A:=Bool) (fun v=>v=y1) (fun v103=>⟨[(1,oP l6 Ag),(9,iP x),(84,oP l1 A1),(85,iP (l1.length:Int)),(86,iP v86),(103,bP v103)],[]⟩) ?_ ?_
          . rintro v103 rfl
            show WS _ _ _ _ _ ⟨[(1,oP l6 Ag),(9,iP x),(84,oP l1 A1),(85,iP (l1.length:Int)),(86,iP v86),(103,bP v103)],[]⟩
            repeat first|apply z1|apply z2|apply z3|apply z4
            rcases Ai e with⟨hc,e⟩|⟨hc,e⟩
            . refine Ar (test hc) ?_
              repeat first|apply z1|apply z2|apply z3|apply z4
              obtain⟨l7,hl7,e⟩:=Ad e
              have fb3:([[iP x],[iP x]]:List (List PV))=l7.map A1:=by rw [<- Aa hl7];simp only [List.map_cons,List.map_nil,B6]<;>rfl
              obtain⟨l8,hl8,e⟩:=Ad e
              have fb4:([[iP x],[iP x]]:List (List PV))=l8.map A1:=by rw [<- Aa hl8];simp only [List.map_cons,List.map_nil,B6]<;>rfl
              obtain⟨l9,hl9,e⟩:=Ad e
              have fb5:([[iP 4,tP ⟨#[109,105,110]⟩,hP l7 A1,iP x,.fno true 104 []],[iP 4,tP ⟨#[109,97,120]⟩,hP l8 A1,iP x,.fno true 105 []]]:List (List PV))=l9.map Ag:=by rw [<- Aa hl9];simp only [List.map_cons,List.map_nil,BM]<;>rfl
              obtain⟨l10,hl10,e⟩:=Ad e
              refine wr [1,84,85,86] 0 (DS 3 (.val (oP l7 A1)::(DS 4 (.val (oP l8 A1)::(DS 2 (.val (oP l9 Ag)::(.val (oP l10 Ag)::(DS 1 [])))))))) ⟨[(1,oP l10 Ag),(84,oP l1 A1),(85,iP (l1.length:Int)),(86,iP v86)],[]⟩ (And.intro (CY rfl fb3) (And.intro (CY rfl fb4) (And.intro (CY rfl fb5) (And.intro (VQ hl10 Cg) True.intro)))) (by kernel_rfl) ?_
              repeat first|apply z1|apply z2|apply z3|apply z4
              refine wr [1,84,85,86] 0 (DS 2 []) ⟨[(1,oP l10 Ag),(84,oP l1 A1),(85,iP (l1.length:Int)),(86,iP (IntKind.i64.wrap (v86+1)))],[]⟩ True.intro (by kernel_rfl) ?_
              repeat first|exact Ca (n,(l10,(IntKind.i64.wrap (v86+1)))) rfl e (Nat.lt_succ_self _)|apply z3|apply z2|apply z1|apply z4
            . refine An (test hc) ?_
              repeat first|apply z1|apply z2|apply z3|apply z4
              refine wr [1,84,85,86] 0 (DS 2 []) ⟨[(1,oP l6 Ag),(84,oP l1 A1),(85,iP (l1.length:Int)),(86,iP (IntKind.i64.wrap (v86+1)))],[]⟩ True.intro (by kernel_rfl) ?_
              repeat first|exact Ca (n,(l6,(IntKind.i64.wrap (v86+1)))) rfl e (Nat.lt_succ_self _)|apply z3|apply z2|apply z1|apply z4
          . intro hJ1
            rcases Ai e1 with⟨hc1,e1⟩|⟨hc1,e1⟩
            . exact wr [1,9,84,85,86,103] 0 (DS 2 (.val (.lit (.bool true))::(DS 3 []))) ⟨[(1,oP l6 Ag),(9,iP x),(84,oP l1 A1),(85,iP (l1.length:Int)),(86,iP v86),(103,bP true)],[]⟩ (And.intro (MB hc1) True.intro) (by kernel_rfl) (hJ1 true (Aa e1))
            . exact wr [1,9,84,85,86,103] 0 (DS 2 (.val (.lit (.bool false))::(DS 3 []))) ⟨[(1,oP l6 Ag),(9,iP x),(84,oP l1 A1),(85,iP (l1.length:Int)),(86,iP v86),(103,bP (x == 2))],[]⟩ (And.intro (MB hc1) True.intro) (by kernel_rfl) (hJ1 (x == 2) (Aa e1))
        . refine An (test hc2) ?_
          repeat first|apply z1|apply z2|apply z3|apply z4
          try refine z5 rfl ?_
          repeat first|exact Kh [1] 0 rfl (Nat.le_of_ble_eq_true rfl) rfl (hJ l3 (Aa e))|apply z3|apply z2|apply z1|apply z4
   . obtain⟨op,f,he,hop⟩:=Acf i hi
     refine wrT [1,52,54] 1 (DS 1 []) ⟨[(1,oP l Ag),(52,.ptr 0 0),(54,bP true)],[[.mit CK (seen++[i])]]⟩ True.intro (by kernel_rfl) ?_ hK
     clear hK hP K'
     repeat first|apply z1|apply z2|apply z3|apply z4
     refine Ar rfl ?_
     repeat first|apply z1|apply z2|apply z3|apply z4
     refine Aq ?_
     repeat first|apply z1|apply z2|apply z3|apply z4
     refine Ah (by kernel_rfl) fun K' hK hP=>?_
     refine Sa (x:=.tmp 52) (d:=55) (k:=0) (i:=i) (kvs:=CK) (seen:=seen) rfl rfl rfl rfl he ?_
     refine wrT [1,4,5,52] 2 (DS 5 []) ⟨[(1,oP l Ag),(4,iP op),(5,.ptr 1 0),(52,.ptr 0 0)],[[.mit CK (seen++[i])],[.fno true f []]]⟩ True.intro (by kernel_rfl) ?_ hK
     clear hK hP K'
     refine Mx [[.mit CK (seen++[i])]] [.fno true f []] ⟨[(1,oP l Ag),(4,iP op),(5,.vptr [.fno true f []] 0),(52,.ptr 0 0)],[[.mit CK (seen++[i])]]⟩ (by kernel_rfl) rfl (Nat.le_of_ble_eq_true rfl) (by kernel_rfl) (by kernel_rfl) (by kernel_rfl) (by kernel_rfl) ?_
     obtain⟨r,hB,h⟩:∃ r,r=l++Il op f/\X8 n l op f=some r:=⟨_,rfl,by rw [hn20];exact X7 l op f (SW hlen hl)⟩
     unfold X8 at h
     repeat first|apply z1|apply z2|apply z3|apply z4
     obtain⟨l1,hl1,h⟩:=Ad h
     have fb:([[iP 1],[iP 2],[iP 4]]:List (List PV))=l1.map A1:=by rw [<- Aa hl1];simp only [List.map_cons,List.map_nil,B6]<;>rfl
     refine wr [1,4,5,52,58,59,60] 1 (.val (oP l1 A1)::(.val (iP (l1.length:Int))::(DS 1 []))) ⟨[(1,oP l Ag),(4,iP op),(5,.vptr [.fno true f []] 0),(52,.ptr 0 0),(58,oP l1 A1),(59,iP (l1.length:Int)),(60,iP 0)],[[.mit CK (seen++[i])]]⟩ (And.intro (CY rfl fb) (And.intro (U9 l1 A1) True.intro)) (by kernel_rfl) ?_
     repeat first|apply z1|apply z2|apply z3|apply z4
     obtain⟨y,e,h⟩:=Ad h
     refine LL (A:=((List Af)×Int×Bool)) (fun v=>v=y) (fun y=>match y with|(l2,v60,v61)=>⟨[(1,oP l2 Ag),(4,iP op),(5,.vptr [.fno true f []] 0),(52,.ptr 0 0),(58,oP l1 A1),(59,iP (l1.length:Int)),(60,iP v60),(61,bP v61)],[[.mit CK (seen++[i])]]⟩) ?_ ?_
     . rintro⟨l2,v60,v61⟩ rfl
       show WS _ _ _ _ _ ⟨[(1,oP l2 Ag),(4,iP op),(5,.vptr [.fno true f []] 0),(52,.ptr 0 0),(58,oP l1 A1),(59,iP (l1.length:Int)),(60,iP v60),(61,bP v61)],[[.mit CK (seen++[i])]]⟩
       repeat first|exact Ca (seen++[i],l2) rfl (Aca hnd hlt hl hn hi hop hB h) (Ab9 hnd hlt hn hi)|apply z3|apply z2|apply z1|apply z4
     . intro hJ
       repeat first|apply z1|apply z2|apply z3|apply z4
       refine Aq ?_
       repeat first|apply z1|apply z2|apply z3|apply z4
       refine HL [1,4,5,52,58,59,60] 1 (fun a:Nat×((List Af)×Int)=>Bt a.1 l1 op f a.2.1 a.2.2=some y) (fun a=>a.1) (fun a:Nat×((List Af)×Int)=>match a with|(_,(l3,v601))=>⟨[(1,oP l3 Ag),(4,iP op),(5,.vptr [.fno true f []] 0),(52,.ptr 0 0),(58,oP l1 A1),(59,iP (l1.length:Int)),(60,iP v601)],[[.mit CK (seen++[i])]]⟩) (n,(l,0)) (Nat.le_of_ble_eq_true rfl) rfl e ?_
       clear e
       rintro⟨n,l3,v601⟩ e
       show WS _ _ _ _ _ ⟨[(1,oP l3 Ag),(4,iP op),(5,.vptr [.fno true f []] 0),(52,.ptr 0 0),(58,oP l1 A1),(59,iP (l1.length:Int)),(60,iP v601)],[[.mit CK (seen++[i])]]⟩
       cases n with
       |zero=>exact absurd e (by simp [Bt])
       |succ n =>
        replace e:=(B9 n l1 op f l3 v601).symm.trans e
        repeat first|apply z1|apply z2|apply z3|apply z4
        refine wr [1,4,5,52,58,59,60,61] 1 (DS 1 []) ⟨[(1,oP l3 Ag),(4,iP op),(5,.vptr [.fno true f []] 0),(52,.ptr 0 0),(58,oP l1 A1),(59,iP (l1.length:Int)),(60,iP v601),(61,bP (decide (v601<(l1.length:Int))))],[[.mit CK (seen++[i])]]⟩ True.intro (by kernel_rfl) ?_
        repeat first|apply z1|apply z2|apply z3|apply z4
        rcases Ai e with⟨hc3,e⟩|⟨hc3,e⟩
        . refine Ar (test hc3) ?_
          repeat first|apply z1|apply z2|apply z3|apply z4
          refine Aq ?_
          repeat first|apply z1|apply z2|apply z3|apply z4
          obtain⟨x,hx,e⟩:=Ad e
          refine wr [1,4,5,7,52,58,59,60,61] 1 (.val (.vptr [iP x] 0)::(DS 2 [])) ⟨[(1,oP l3 Ag),(4,iP op),(5,.vptr [.fno true f []] 0),(7,iP x),(52,.ptr 0 0),(58,oP l1 A1),(59,iP (l1.length:Int)),(60,iP v601),(61,bP (decide (v601<(l1.length:Int))))],[[.mit CK (seen++[i])]]⟩ (And.intro (oi hx JQ (B6 x)) True.intro) (by kernel_rfl) ?_
          repeat first|apply z1|apply z2|apply z3|apply z4
          obtain⟨y1,e1,e⟩:=Ad e
          refine LL (A:=Bool) (fun v=>v=y1) (fun v73=>⟨[(1,oP l3 Ag),(4,iP op),(5,.vptr [.fno true f []] 0),(7,iP x),(52,.ptr 0 0),(58,oP l1 A1),(59,iP (l1.length:Int)),(60,iP v601),(61,bP (decide (v601<(l1.length:Int)))),(73,bP v73)],[[.mit CK (seen++[i])]]⟩) ?_ ?_
          . rintro v73 rfl
            show WS _ _ _ _ _ ⟨[(1,oP l3 Ag),(4,iP op),(5,.vptr [.fno true f []] 0),(7,iP x),(52,.ptr 0 0),(58,oP l1 A1),(59,iP (l1.length:Int)),(60,iP v601),(61,bP (decide (v601<(l1.length:Int)))),(73,bP v73)],[[.mit CK (seen++[i])]]⟩
            repeat first|apply z1|apply z2|apply z3|apply z4
            rcases Ai e with⟨hc,e⟩|⟨hc,e⟩
            . refine Ar (test hc) ?_
              repeat first|apply z1|apply z2|apply z3|apply z4
              obtain⟨l4,hl4,e⟩:=Ad e
              have fb1:([[iP x],[iP x]]:List (List PV))=l4.map A1:=by rw [<- Aa hl4];simp only [List.map_cons,List.map_nil,B6]<;>rfl
              obtain⟨l5,hl5,e⟩:=Ad e
              have fb2:([[iP op,tP ⟨#[]⟩,hP l4 A1,iP 3,.fno true 101 [.vptr [.fno true f []] 0]]]:List (List PV))=l5.map Ag:=by rw [<- Aa hl5];simp only [List.map_cons,List.map_nil,BM]<;>rfl
              obtain⟨l6,hl6,e⟩:=Ad e
              refine wr [1,4,5,52,58,59,60,61] 1 (DS 4 (.val (oP l4 A1)::(DS 2 (.val (oP l5 Ag)::(.val (oP l6 Ag)::(DS 1 [])))))) ⟨[(1,oP l6 Ag),(4,iP op),(5,.vptr [.fno true f []] 0),(52,.ptr 0 0),(58,oP l1 A1),(59,iP (l1.length:Int)),(60,iP v601),(61,bP (decide (v601<(l1.length:Int))))],[[.mit CK (seen++[i])]]⟩ (And.intro (CY rfl fb1) (And.intro (CY rfl fb2) (And.intro (VQ hl6 Cg) True.intro))) (by kernel_rfl) ?_
              repeat first|apply z1|apply z2|apply z3|apply z4
              refine wr [1,4,5,52,58,59,60,61] 1 (DS 2 []) ⟨[(1,oP l6 Ag),(4,iP op),(5,.vptr [.fno true f []] 0),(52,.ptr 0 0),(58,oP l1 A1),(59,iP (l1.length:Int)),(60,iP (IntKind.i64.wrap (v601+1))),(61,bP (decide (v601<(l1.length:Int))))],[[.mit CK (seen++[i])]]⟩ True.intro (by kernel_rfl) ?_
              repeat first|exact Ca (n,(l6,(IntKind.i64.wrap (v601+1)))) rfl e (Nat.lt_succ_self _)|apply z3|apply z2|apply z1|apply z4
            . refine An (test hc) ?_
              repeat first|apply z1|apply z2|apply z3|apply z4
              refine wr [1,4,5,52,58,59,60,61] 1 (DS 2 []) ⟨[(1,oP l3 Ag),(4,iP op),(5,.vptr [.fno true f []] 0),(52,.ptr 0 0),(58,oP l1 A1),(59,iP (l1.length:Int)),(60,iP (IntKind.i64.wrap (v601+1))),(61,bP (decide (v601<(l1.length:Int))))],[[.mit CK (seen++[i])]]⟩ True.intro (by kernel_rfl) ?_
              repeat first|exact Ca (n,(l3,(IntKind.i64.wrap (v601+1)))) rfl e (Nat.lt_succ_self _)|apply z3|apply z2|apply z1|apply z4
          . intro hJ1
            rcases Ai e1 with⟨hc1,e1⟩|⟨hc1,e1⟩
            . exact wr [1,4,5,7,52,58,59,60,61,73] 1 (DS 2 (.val (.lit (.bool true))::(DS 7 []))) ⟨[(1,oP l3 Ag),(4,iP op),(5,.vptr [.fno true f []] 0),(7,iP x),(52,.ptr 0 0),(58,oP l1 A1),(59,iP (l1.length:Int)),(60,iP v601),(61,bP (decide (v601<(l1.length:Int)))),(73,bP true)],[[.mit CK (seen++[i])]]⟩ (And.intro (MB hc1) True.intro) (by kernel_rfl) (hJ1 true (Aa e1))
            . rcases Ai e1 with⟨hc2,e1⟩|⟨hc2,e1⟩
              . exact wr [1,4,5,7,52,58,59,60,61,73] 1 (DS 2 (.val (.lit (.bool false))::(DS 3 (.val (.lit (.bool true))::(DS 3 []))))) ⟨[(1,oP l3 Ag),(4,iP op),(5,.vptr [.fno true f []] 0),(7,iP x),(52,.ptr 0 0),(58,oP l1 A1),(59,iP (l1.length:Int)),(60,iP v601),(61,bP (decide (v601<(l1.length:Int)))),(73,bP true)],[[.mit CK (seen++[i])]]⟩ (And.intro (MB hc1) (And.intro (MB hc2) True.intro)) (by kernel_rfl) (hJ1 true (Aa e1))
              . exact wr [1,4,5,7,52,58,59,60,61,73] 1 (DS 2 (.val (.lit (.bool false))::(DS 3 (.val (.lit (.bool false))::(DS 3 []))))) ⟨[(1,oP l3 Ag),(4,iP op),(5,.vptr [.fno true f []] 0),(7,iP x),(52,.ptr 0 0),(58,oP l1 A1),(59,iP (l1.length:Int)),(60,iP v601),(61,bP (decide (v601<(l1.length:Int)))),(73,bP (op == 13))],[[.mit CK (seen++[i])]]⟩ (And.intro (MB hc1) (And.intro (MB hc2) True.intro)) (by kernel_rfl) (hJ1 (op == 13) (Aa e1))
        . refine An (test hc3) ?_
          repeat first|apply z1|apply z2|apply z3|apply z4
          try refine z5 rfl ?_
          repeat first|exact Kh [1,4,5,52,58,59,60,61] 1 rfl (Nat.le_of_ble_eq_true rfl) rfl (hJ (l3,v601,(decide (v601<(l1.length:Int)))) (Aa e))|apply z3|apply z2|apply z1|apply z4
 . intro hJ
   repeat first|apply z1|apply z2|apply z3|apply z4
   refine Aq ?_
   repeat first|apply z1|apply z2|apply z3|apply z4
   refine HL [0,1,35,36,37] 0 (fun a:Nat×((List Af)×Int)=>BO a.1 l13 a.2.1 a.2.2=some y) (fun a=>a.1) (fun a:Nat×((List Af)×Int)=>match a with|(_,(l15,v371))=>⟨[(0,.sl [] .own),(1,oP l15 Ag),(35,oP l13 BX),(36,iP (l13.length:Int)),(37,iP v371)],[]⟩) (n,(l12,0)) (Nat.le_of_ble_eq_true rfl) rfl e ?_
   clear e
   rintro⟨n,l15,v371⟩ e
   show WS _ _ _ _ _ ⟨[(0,.sl [] .own),(1,oP l15 Ag),(35,oP l13 BX),(36,iP (l13.length:Int)),(37,iP v371)],[]⟩
   cases n with
   |zero=>exact absurd e (by simp [BO])
   |succ n =>
    replace e:=(H3 n l13 l15 v371).symm.trans e
    repeat first|apply z1|apply z2|apply z3|apply z4
    refine wr [0,1,35,36,37,38] 0 (DS 1 []) ⟨[(0,.sl [] .own),(1,oP l15 Ag),(35,oP l13 BX),(36,iP (l13.length:Int)),(37,iP v371),(38,bP (decide (v371<(l13.length:Int))))],[]⟩ True.intro (by kernel_rfl) ?_
    repeat first|apply z1|apply z2|apply z3|apply z4
    rcases Ai e with⟨hc,e⟩|⟨hc,e⟩
    . refine Ar (test hc) ?_
      repeat first|apply z1|apply z2|apply z3|apply z4
      refine Aq ?_
      repeat first|apply z1|apply z2|apply z3|apply z4
      obtain⟨x,hx,e⟩:=Ad e
      refine wr [0,1,2,3,35,36,37,38] 1 (DS 1 (.val (.vptr [tP x] 0)::(DS 4 []))) ⟨[(0,.sl [] .own),(1,oP l15 Ag),(2,.ptr 0 0),(3,tP x),(35,oP l13 BX),(36,iP (l13.length:Int)),(37,iP v371),(38,bP (decide (v371<(l13.length:Int))))],[[iP v371]]⟩ (And.intro (oi hx JO (Ij x)) True.intro) (by kernel_rfl) ?_
      refine Mx [] [iP v371] ⟨[(0,.sl [] .own),(1,oP l15 Ag),(2,.vptr [iP v371] 0),(3,tP x),(35,oP l13 BX),(36,iP (l13.length:Int)),(37,iP v371),(38,bP (decide (v371<(l13.length:Int))))],[]⟩ (by kernel_rfl) rfl (Nat.le_of_ble_eq_true rfl) (by kernel_rfl) (by kernel_rfl) (by kernel_rfl) (by kernel_rfl) ?_
      repeat first|apply z1|apply z2|apply z3|apply z4
      obtain⟨l16,hl16,e⟩:=Ad e
      have fb14:([[iP 4]]:List (List PV))=l16.map A1:=by rw [<- Aa hl16];simp only [List.map_cons,List.map_nil,B6]<;>rfl
      obtain⟨l17,hl17,e⟩:=Ad e
      have fb15:([[iP 4,tP x,hP l16 A1,iP 2,.fno true 93 [.vptr [iP v371] 0]]]:List (List PV))=l17.map Ag:=by rw [<- Aa hl17];simp only [List.map_cons,List.map_nil,BM]<;>rfl
      obtain⟨l18,hl18,e⟩:=Ad e
      refine wr [0,1,35,36,37,38] 0 (DS 2 (.val (oP l16 A1)::(DS 2 (.val (oP l17 Ag)::(.val (oP l18 Ag)::(DS 1 [])))))) ⟨[(0,.sl [] .own),(1,oP l18 Ag),(35,oP l13 BX),(36,iP (l13.length:Int)),(37,iP v371),(38,bP (decide (v371<(l13.length:Int))))],[]⟩ (And.intro (CY rfl fb14) (And.intro (CY rfl fb15) (And.intro (VQ hl18 Cg) True.intro))) (by kernel_rfl) ?_
      repeat first|apply z1|apply z2|apply z3|apply z4
      refine wr [0,1,35,36,37,38] 0 (DS 2 []) ⟨[(0,.sl [] .own),(1,oP l18 Ag),(35,oP l13 BX),(36,iP (l13.length:Int)),(37,iP (IntKind.i64.wrap (v371+1))),(38,bP (decide (v371<(l13.length:Int))))],[]⟩ True.intro (by kernel_rfl) ?_
      repeat first|exact Ca (n,(l18,(IntKind.i64.wrap (v371+1)))) rfl e (Nat.lt_succ_self _)|apply z3|apply z2|apply z1|apply z4
    . refine An (test hc) ?_
      repeat first|apply z1|apply z2|apply z3|apply z4
      try refine z5 rfl ?_
      repeat first|exact Kh [0,1,35,36,37,38] 0 rfl (Nat.le_of_ble_eq_true rfl) rfl (hJ (l15,v371,(decide (v371<(l13.length:Int)))) (Aa e))|apply z3|apply z2|apply z1|apply z4
end Go.Proofs.YtkcfmlfkfagejaaGreatDoor
namespace Go.Proofs.YtkcfmlfkfagejaaGreatDoor
open Go.RowKit Go.Q Go.Vl Go.Sp
set_option maxRecDepth 100000
theorem ZY:Dr Tryz.prog 54 [] Br:=by
 intro σ
 refine VC.pure (Q:=fun x=>x=.ret Br) ?_ rfl |>.mono fun x σ' h=>h
 refine VC.less (ZZ (fun x σ'=>∃ y os,Ord os/\shareP y=hP (opsOf os) Ag/\x=.ret y/\σ'=[]) ?_) ?_
 . intro os ho l hl r hr y hy
   refine⟨y,os,ho,?_,rfl,rfl⟩
   have h1:=TS l (SW (ndl 6 os ho.1 ho.2.1) hl)
   rw [h1] at hr
   rw [hy,<- Aa hr,hl]
   rfl
 . rintro x σ' ⟨y,os,ho,hy,rfl,rfl⟩
   refine⟨.ret Br,⟨rfl,rfl⟩,fun w G e he=>?_⟩
   obtain⟨v,h1,h2,_⟩:=D0.shareP he
   rw [hy] at h2
   exact⟨v,h1,.dis _ _ os _ (by rw [VG ho];exact h2),trivial⟩
theorem UA:BR [] Tryz.f55.ntmps (Tryz.f55.body.getD .skip)=true:=by kernel_rfl
theorem Xh (Q:C6->List (List PV)->Prop)(hQ:∀ y,shareP y=CW->Q (.ret y) []):VC Tryz.prog 55 [] [] Q:=by
 refine VC.intro ⟨[0],[]⟩ Tryz.func55 rfl follows UA (by rw [Tryz.ntmps55];exact Nat.le_of_ble_eq_true rfl) ?_
 refine OG ?_
 repeat first|apply z1|apply z2|apply z3|apply z4
 refine wr [0] 0 (DS 1 []) ⟨[(0,.lit (.map none))],[]⟩ True.intro (by kernel_rfl) ?_
 repeat first|apply z1|apply z2|apply z3|apply z4
 refine wr [0] 1 (DS 7 []) ⟨[(0,.mref 0)],[[.mp (L6 CH)]]⟩ True.intro (by kernel_rfl) ?_
 repeat first|apply z1|apply z2|apply z3|apply z4
 refine TA [] (L6 CH) ⟨[(0,CW)],[]⟩ (by kernel_rfl) rfl (Nat.le_of_ble_eq_true rfl) (by kernel_rfl) (by kernel_rfl) (by kernel_rfl) ?_
 exact B8 (GQ hQ (by kernel_rfl)).1
theorem YI:Dr Tryz.prog 55 [] CW:=VC.fin (fun Q hQ=>Xh Q hQ) rfl rfl
theorem VM:BR [] Tryz.f33.ntmps (Tryz.f33.body.getD .skip)=true:=by kernel_rfl
theorem YJ (Q:C6->List (List PV)->Prop)(hQ:∀ y,shareP y=.agg [Br,CW]->Q (.ret y) []):VC Tryz.prog 33 [] [] Q:=by
 refine VC.intro ⟨[0],[]⟩ Tryz.func33 rfl follows VM (by rw [Tryz.ntmps33];exact Nat.le_of_ble_eq_true rfl) ?_
 refine OG ?_
 repeat first|apply z1|apply z2|apply z3|apply z4
 refine wr [0] 1 (DS 1 []) ⟨[(0,.ptr 0 0)],[[.sl [] .own,.lit (.map none)]]⟩ True.intro (by kernel_rfl) ?_
 repeat first|apply z1|apply z2|apply z3|apply z4
 refine wr [0] 1 (.call Br::.call CW::DS 2 []) ⟨[(0,.ptr 0 0)],[[Br,CW]]⟩ (And.intro ZY (And.intro YI True.intro)) (by kernel_rfl) ?_
 repeat first|apply z1|apply z2|apply z3|apply z4
 exact B8 (GQ hQ (by kernel_rfl)).1
theorem Mz:Dr Tryz.prog 33 [] (.agg [Br,CW]):=VC.fin (fun Q hQ=>YJ Q hQ) rfl rfl
end Go.Proofs.YtkcfmlfkfagejaaGreatDoor
