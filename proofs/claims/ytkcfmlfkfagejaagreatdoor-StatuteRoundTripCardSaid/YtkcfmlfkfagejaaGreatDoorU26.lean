/-
  The walk of operations: whatever order the map is gone through, the table is one of the lists. (Most lines printed by lift.py.) The walks of names and made: the solver, whatever order the table of operations is in.
-/
import Derived.Test.YtkcfmlfkfagejaaGreatDoorU7
import Derived.Test.YtkcfmlfkfagejaaGreatDoorU9
import Derived.Test.YtkcfmlfkfagejaaGreatDoorU13
import Derived.Test.YtkcfmlfkfagejaaGreatDoorU25
set_option linter.unusedVariables false
set_option linter.unusedSimpArgs false
namespace Go.Proofs.YtkcfmlfkfagejaaGreatDoor
open Go.RowKit Go.Q Go.Vl Go.Sp
set_option maxRecDepth 100000
set_option linter.unusedSimpArgs false
set_option maxHeartbeats 4000000
set_option linter.unusedVariables false
theorem Adx:Dz [(7,[9996,8])] Tryz.f54.ntmps (Tryz.f54.body.getD .skip)=true:=by kernel_rfl
theorem Ahu (Q:CP->List (List PV)->Prop)(hQ:∀ os:List Nat,Ord os->∀ l,l=FT++os.flatMap Hm->∀ r,Aam 20 l=some r->∀ y,shareP y=hP r Ah->Q (.ret y) []):VC Tryz.prog 54 [] [] Q:=by
 obtain⟨n,hn20⟩:∃ n,n=20:=⟨20,rfl⟩
 have h:Agc n=some FT:=by rw [hn20];exact Adw
 unfold Agc at h
 refine VC.intro ⟨[0,1,2,3,4,5,7,9,35,36,37,38,52,54,58,59,60,61,73,84,85,86,87,103],[(7,[9996,8])]⟩ Tryz.func54 rfl follows Adx (by rw [Tryz.ntmps54];exact Û rfl) ?_
 refine RB ?_
 repeat first|apply z1|apply z2|apply z3|apply z4
 refine wr [0] 0 (E6 1 []) ⟨[(0,.sl [] .own)],[]⟩ True.intro (by kernel_rfl) ?_
 repeat first|apply z1|apply z2|apply z3|apply z4
 obtain⟨l,hl,h⟩:=Ad h
 have fb:([[iP 1]]:List (List PV))=l.map Ay:=by rw [<- Ac hl];simp only [ã,î,B7]<;>rfl
 obtain⟨l1,hl1,h⟩:=Ad h
 have fb1:([[iP 1],[iP 1]]:List (List PV))=l1.map Ay:=by rw [<- Ac hl1];simp only [ã,î,B7]<;>rfl
 obtain⟨l2,hl2,h⟩:=Ad h
 have fb2:([[iP 1],[iP 1]]:List (List PV))=l2.map Ay:=by rw [<- Ac hl2];simp only [ã,î,B7]<;>rfl
 obtain⟨l3,hl3,h⟩:=Ad h
 have fb3:([[iP 2],[iP 1]]:List (List PV))=l3.map Ay:=by rw [<- Ac hl3];simp only [ã,î,B7]<;>rfl
 obtain⟨l4,hl4,h⟩:=Ad h
 have fb4:([[iP 1],[iP 1]]:List (List PV))=l4.map Ay:=by rw [<- Ac hl4];simp only [ã,î,B7]<;>rfl
 obtain⟨l5,hl5,h⟩:=Ad h
 have fb5:([[iP 2],[iP 1]]:List (List PV))=l5.map Ay:=by rw [<- Ac hl5];simp only [ã,î,B7]<;>rfl
 obtain⟨l6,hl6,h⟩:=Ad h
 have fb6:([[iP 2],[iP 2]]:List (List PV))=l6.map Ay:=by rw [<- Ac hl6];simp only [ã,î,B7]<;>rfl
 obtain⟨l7,hl7,h⟩:=Ad h
 have fb7:([[iP 3]]:List (List PV))=l7.map Ay:=by rw [<- Ac hl7];simp only [ã,î,B7]<;>rfl
 obtain⟨l8,hl8,h⟩:=Ad h
 have fb8:([[iP 3],[iP 3]]:List (List PV))=l8.map Ay:=by rw [<- Ac hl8];simp only [ã,î,B7]<;>rfl
 obtain⟨l9,hl9,h⟩:=Ad h
 have fb9:([[iP 3],[iP 3]]:List (List PV))=l9.map Ay:=by rw [<- Ac hl9];simp only [ã,î,B7]<;>rfl
 obtain⟨l10,hl10,h⟩:=Ad h
 have fb10:([[iP 1]]:List (List PV))=l10.map Ay:=by rw [<- Ac hl10];simp only [ã,î,B7]<;>rfl
 obtain⟨l11,hl11,h⟩:=Ad h
 have fb11:([[iP 1]]:List (List PV))=l11.map Ay:=by rw [<- Ac hl11];simp only [ã,î,B7]<;>rfl
 obtain⟨l12,hl12,h⟩:=Ad h
 have fb12:([[iP 6,tP ⟨#[]⟩,hP l Ay,iP 1,.fno true 77 []],[iP 7,tP ⟨#[]⟩,hP l1 Ay,iP 1,.fno true 78 []],[iP 10,tP ⟨#[]⟩,hP l2 Ay,iP 1,.fno true 80 []],[iP 10,tP ⟨#[]⟩,hP l3 Ay,iP 2,.fno true 82 []],[iP 11,tP ⟨#[]⟩,hP l4 Ay,iP 1,.fno true 84 []],[iP 11,tP ⟨#[]⟩,hP l5 Ay,iP 2,.fno true 85 []],[iP 11,tP ⟨#[]⟩,hP l6 Ay,iP 1,.fno true 86 []],[iP 5,tP ⟨#[]⟩,hP l7 Ay,iP 3,.fno true 87 []],[iP 18,tP ⟨#[]⟩,hP l8 Ay,iP 3,.fno true 88 []],[iP 19,tP ⟨#[]⟩,hP l9 Ay,iP 3,.fno true 89 []],[iP 4,tP ⟨#[100,97,121]⟩,hP l10 Ay,iP 2,.fno true 90 []],[iP 4,tP ⟨#[112,101,114,115,111,110]⟩,hP l11 Ay,iP 4,.fno true 92 []]]:List (List PV))=l12.map Ah:=by rw [<- Ac hl12];simp only [ã,î,BT]<;>rfl
 refine wr [0,1] 0 (.val (oP l Ay)::(E6 1 (.val (oP l1 Ay)::(E6 1 (.val (oP l2 Ay)::(E6 1 (.val (oP l3 Ay)::(E6 1 (.val (oP l4 Ay)::(E6 1 (.val (oP l5 Ay)::(E6 1 (.val (oP l6 Ay)::(E6 1 (.val (oP l7 Ay)::(E6 1 (.val (oP l8 Ay)::(E6 1 (.val (oP l9 Ay)::(E6 1 (.val (oP l10 Ay)::(E6 1 (.val (oP l11 Ay)::(E6 1 (.val (oP l12 Ah)::(E6 1 [])))))))))))))))))))))))))) ⟨[(0,.sl [] .own),(1,oP l12 Ah)],[]⟩ (And.intro (D0 rfl fb) (And.intro (D0 rfl fb1) (And.intro (D0 rfl fb2) (And.intro (D0 rfl fb3) (And.intro (D0 rfl fb4) (And.intro (D0 rfl fb5) (And.intro (D0 rfl fb6) (And.intro (D0 rfl fb7) (And.intro (D0 rfl fb8) (And.intro (D0 rfl fb9) (And.intro (D0 rfl fb10) (And.intro (D0 rfl fb11) (And.intro (D0 rfl fb12) True.intro))))))))))))) (by kernel_rfl) ?_
 repeat first|apply z1|apply z2|apply z3|apply z4
 obtain⟨l13,hl13,h⟩:=Ad h
 have fb13:([[tP ⟨#[98,111,114,110]⟩],[tP ⟨#[100,105,101,100]⟩],[tP ⟨#[97,115,107,101,100]⟩],[tP ⟨#[104,101,108,100]⟩],[tP ⟨#[108,105,102,116,101,100]⟩]]:List (List PV))=l13.map BA:=by rw [<- Ac hl13];simp only [ã,î,J1]<;>rfl
 refine wr [0,1,35,36,37] 0 (.val (oP l13 BA)::(.val (iP (l13.length:Int))::(E6 1 []))) ⟨[(0,.sl [] .own),(1,oP l12 Ah),(35,oP l13 BA),(36,iP (l13.length:Int)),(37,iP 0)],[]⟩ (And.intro (D0 rfl fb13) (And.intro (YQ l13 BA) True.intro)) (by kernel_rfl) ?_
 repeat first|apply z1|apply z2|apply z3|apply z4
 obtain⟨y,e,h⟩:=Ad h
 refine Oh (A:=((List Af)×Int×Bool)) (fun v=>v=y) (fun y=>match y with|(l14,v37,v38)=>⟨[(0,.sl [] .own),(1,oP l14 Ah),(35,oP l13 BA),(36,iP (l13.length:Int)),(37,iP v37),(38,bP v38)],[]⟩) ?_ ?_
 . rintro⟨l14,v37,v38⟩ rfl
   show WS _ _ _ _ _ ⟨[(0,.sl [] .own),(1,oP l14 Ah),(35,oP l13 BA),(36,iP (l13.length:Int)),(37,iP v37),(38,bP v38)],[]⟩
   repeat first|apply z1|apply z2|apply z3|apply z4
   have hr:=Ac h
   subst hr
   refine Ahs (N:=0) (m:=8) [1,51] 1 (E6 8 []) ⟨[(1,oP FT Ah),(51,.mref 0)],[[.mp De]]⟩ ⟨[(1,oP FT Ah),(51,.vmp De)],[]⟩ True.intro (by kernel_rfl) (Wk.frz (σ0:=[]) (cs:=[.mp De]) (fp:=fun _=>.undef) (fm:=.vmp De) rfl (by exact Û rfl) (.inr ⟨De,rfl,rfl,rfl⟩) (by kernel_rfl) (by kernel_rfl)) (fun K' hK=>?_)
   refine wrT [1,52] 1 (E6 1 []) ⟨[(1,oP FT Ah),(52,.ptr 0 0)],[[.mit De []]]⟩ True.intro (by kernel_rfl) ?_ hK
   clear hK K'
   repeat first|apply z1|apply z2|apply z3|apply z4
   refine Hg ?_
   refine Us [1,52] 1 (fun a:List Nat×(List Af)=>a.1.Nodup/\(∀ i∈a.1,i<6)/\a.1.length<=6/\a.2=FT++a.1.flatMap Hm) (fun a=>6-a.1.length) (fun a=>⟨[(1,oP a.2 Ah),(52,.ptr 0 0)],[[.mit De a.1]]⟩) ([],FT) (Û rfl) rfl ⟨by simp,by simp,by simp,by simp⟩ ?_
   rintro⟨seen,l⟩ ⟨hnd,hlt,hlen,hl⟩
   show WS _ _ _ _ _ ⟨[(1,oP l Ah),(52,.ptr 0 0)],[[.mit De seen]]⟩
   repeat first|apply z1|apply z2|apply z3|apply z4
   refine JU (by kernel_rfl) fun K' hK hP=>?_
   refine Xm (x:=.tmp 52) (d:=53) (k:=0) (kvs:=De) (seen:=seen) rfl rfl rfl rfl (fun hall=>?_) (fun i hi hn=>?_)
   . refine wrT [1,54] 1 (E6 1 []) ⟨[(1,oP l Ah),(54,bP false)],[[.mit De seen]]⟩ True.intro (by kernel_rfl) ?_ hK
     clear hK hP K'
     repeat first|apply z1|apply z2|apply z3|apply z4
     refine Fb rfl ?_
     repeat first|apply z1|apply z2|apply z3|apply z4
     try refine z5 rfl ?_
     repeat first|apply z1|apply z2|apply z3|apply z4
     refine Md [1] 0 (by kernel_rfl) (Û rfl) (st0:=⟨[(1,oP l Ah)],[]⟩) (by kernel_rfl) ?_
     have hQ:=hQ seen (Aga hnd hlt hall) l hl
     obtain⟨r,h⟩:=Adt l (WV hlen hl)
     have hQ:=hQ r h
     rw [<- hn20] at h
     unfold Aam at h
     repeat first|apply z1|apply z2|apply z3|apply z4
     obtain⟨l1,hl1,h⟩:=Ad h
     have fb:([[iP 1],[iP 2],[iP 3],[iP 4]]:List (List PV))=l1.map Ay:=by rw [<- Ac hl1];simp only [ã,î,B7]<;>rfl
     refine wr [1,84,85,86] 0 (.val (oP l1 Ay)::(.val (iP (l1.length:Int))::(E6 1 []))) ⟨[(1,oP l Ah),(84,oP l1 Ay),(85,iP (l1.length:Int)),(86,iP 0)],[]⟩ (And.intro (D0 rfl fb) (And.intro (YQ l1 Ay) True.intro)) (by kernel_rfl) ?_
     repeat first|apply z1|apply z2|apply z3|apply z4
     obtain⟨y,e,h⟩:=Ad h
     refine Oh (A:=(List Af)) (fun v=>v=y) (fun l2=>⟨[(1,oP l2 Ah)],[]⟩) ?_ ?_
     . rintro l2 rfl
       show WS _ _ _ _ _ ⟨[(1,oP l2 Ah)],[]⟩
       repeat first|apply z1|apply z2|apply z3|apply z4
       refine wr [0] 0 (E6 2 []) ⟨[(0,hP l2 Ah)],[]⟩ True.intro (by kernel_rfl) ?_
       repeat first|apply z1|apply z2|apply z3|apply z4
       obtain rfl:=Ac h
       exact KD (HM hQ (by kernel_rfl)).1
     . intro hJ
       repeat first|apply z1|apply z2|apply z3|apply z4
       refine Hg ?_
       repeat first|apply z1|apply z2|apply z3|apply z4
       refine Us [1,84,85,86] 0 (fun a:Nat×((List Af)×Int)=>Bb a.1 l1 a.2.1 a.2.2=some y) (fun a=>a.1) (fun a:Nat×((List Af)×Int)=>match a with|(_,(l3,v86))=>⟨[(1,oP l3 Ah),(84,oP l1 Ay),(85,iP (l1.length:Int)),(86,iP v86)],[]⟩) (n,(l,0)) (Û rfl) rfl e ?_
       clear e
       rintro⟨n,l3,v86⟩ e
       show WS _ _ _ _ _ ⟨[(1,oP l3 Ah),(84,oP l1 Ay),(85,iP (l1.length:Int)),(86,iP v86)],[]⟩
       cases n with
       |zero=>exact absurd e (by simp [Bb])
       |succ n =>
        replace e:=(D6 n l1 l3 v86).symm.trans e
        repeat first|apply z1|apply z2|apply z3|apply z4
        refine wr [1,84,85,86,87] 0 (E6 1 []) ⟨[(1,oP l3 Ah),(84,oP l1 Ay),(85,iP (l1.length:Int)),(86,iP v86),(87,bP (decide (v86<(l1.length:Int))))],[]⟩ True.intro (by kernel_rfl) ?_
        repeat first|apply z1|apply z2|apply z3|apply z4
        rcases An e with⟨hc2,e⟩|⟨hc2,e⟩
        . refine Hf (test hc2) ?_
          repeat first|apply z1|apply z2|apply z3|apply z4
          refine Hg ?_
          repeat first|apply z1|apply z2|apply z3|apply z4
          obtain⟨x,hx,e⟩:=Ad e
          refine wr [1,9,84,85,86] 0 (.val (.vptr [iP x] 0)::(E6 2 [])) ⟨[(1,oP l3 Ah),(9,iP x),(84,oP l1 Ay),(85,iP (l1.length:Int)),(86,iP v86)],[]⟩ (And.intro (oi hx LB (B7 x)) True.intro) (by kernel_rfl) ?_
          repeat first|apply z1|apply z2|apply z3|apply z4
          obtain⟨l4,hl4,e⟩:=Ad e
          have fb1:([[iP 3],[iP x],[iP x]]:List (List PV))=l4.map Ay:=by rw [<- Ac hl4];simp only [ã,î,B7]<;>rfl
          obtain⟨l5,hl5,e⟩:=Ad e
          have fb2:([[iP 20,tP ⟨#[]⟩,hP l4 Ay,iP x,.fno true 103 []]]:List (List PV))=l5.map Ah:=by rw [<- Ac hl5];simp only [ã,î,BT]<;>rfl
          obtain⟨l6,hl6,e⟩:=Ad e
          refine wr [1,9,84,85,86] 0 (E6 3 (.val (oP l4 Ay)::(E6 2 (.val (oP l5 Ah)::(.val (oP l6 Ah)::(E6 1 [])))))) ⟨[(1,oP l6 Ah),(9,iP x),(84,oP l1 Ay),(85,iP (l1.length:Int)),(86,iP v86)],[]⟩ (And.intro (D0 rfl fb1) (And.intro (D0 rfl fb2) (And.intro (Aau hl6 Cy) True.intro))) (by kernel_rfl) ?_
          repeat first|apply z1|apply z2|apply z3|apply z4
          obtain⟨y1,e1,e⟩:=Ad e
          refine Oh (A:=Bool) (fun v=>v=y1) (fun v103=>⟨[(1,oP l6 Ah),(9,iP x),(84,oP l1 Ay),(85,iP (l1.length:Int)),(86,iP v86),(103,bP v103)],[]⟩) ?_ ?_
          . rintro v103 rfl
            show WS _ _ _ _ _ ⟨[(1,oP l6 Ah),(9,iP x),(84,oP l1 Ay),(85,iP (l1.length:Int)),(86,iP v86),(103,bP v103)],[]⟩
            repeat first|apply z1|apply z2|apply z3|apply z4
            rcases An e with⟨hc,e⟩|⟨hc,e⟩
            . refine Hf (test hc) ?_
              repeat first|apply z1|apply z2|apply z3|apply z4
              obtain⟨l7,hl7,e⟩:=Ad e
              have fb3:([[iP x],[iP x]]:List (List PV))=l7.map Ay:=by rw [<- Ac hl7];simp only [ã,î,B7]<;>rfl
              obtain⟨l8,hl8,e⟩:=Ad e
              have fb4:([[iP x],[iP x]]:List (List PV))=l8.map Ay:=by rw [<- Ac hl8];simp only [ã,î,B7]<;>rfl
              obtain⟨l9,hl9,e⟩:=Ad e
              have fb5:([[iP 4,tP ⟨#[109,105,110]⟩,hP l7 Ay,iP x,.fno true 104 []],[iP 4,tP ⟨#[109,97,120]⟩,hP l8 Ay,iP x,.fno true 105 []]]:List (List PV))=l9.map Ah:=by rw [<- Ac hl9];simp only [ã,î,BT]<;>rfl
              obtain⟨l10,hl10,e⟩:=Ad e
              refine wr [1,84,85,86] 0 (E6 3 (.val (oP l7 Ay)::(E6 4 (.val (oP l8 Ay)::(E6 2 (.val (oP l9 Ah)::(.val (oP l10 Ah)::(E6 1 [])))))))) ⟨[(1,oP l10 Ah),(84,oP l1 Ay),(85,iP (l1.length:Int)),(86,iP v86)],[]⟩ (And.intro (D0 rfl fb3) (And.intro (D0 rfl fb4) (And.intro (D0 rfl fb5) (And.intro (Aau hl10 Cy) True.intro)))) (by kernel_rfl) ?_
              repeat first|apply z1|apply z2|apply z3|apply z4
              refine wr [1,84,85,86] 0 (E6 2 []) ⟨[(1,oP l10 Ah),(84,oP l1 Ay),(85,iP (l1.length:Int)),(86,iP (À (v86+1)))],[]⟩ True.intro (by kernel_rfl) ?_
              repeat first|exact JV (n,(l10,(À (v86+1)))) rfl e (ħ _)|apply z3|apply z2|apply z1|apply z4
            . refine Fb (test hc) ?_
              repeat first|apply z1|apply z2|apply z3|apply z4
              refine wr [1,84,85,86] 0 (E6 2 []) ⟨[(1,oP l6 Ah),(84,oP l1 Ay),(85,iP (l1.length:Int)),(86,iP (À (v86+1)))],[]⟩ True.intro (by kernel_rfl) ?_
              repeat first|exact JV (n,(l6,(À (v86+1)))) rfl e (ħ _)|apply z3|apply z2|apply z1|apply z4
          . intro hJ1
            rcases An e1 with⟨hc1,e1⟩|⟨hc1,e1⟩
            . exact wr [1,9,84,85,86,103] 0 (E6 2 (.val (.lit (.bool true))::(E6 3 []))) ⟨[(1,oP l6 Ah),(9,iP x),(84,oP l1 Ay),(85,iP (l1.length:Int)),(86,iP v86),(103,bP true)],[]⟩ (And.intro (Ph hc1) True.intro) (by kernel_rfl) (hJ1 true (Ac e1))
            . exact wr [1,9,84,85,86,103] 0 (E6 2 (.val (.lit (.bool false))::(E6 3 []))) ⟨[(1,oP l6 Ah),(9,iP x),(84,oP l1 Ay),(85,iP (l1.length:Int)),(86,iP v86),(103,bP (x == 2))],[]⟩ (And.intro (Ph hc1) True.intro) (by kernel_rfl) (hJ1 (x == 2) (Ac e1))
        . refine Fb (test hc2) ?_
          repeat first|apply z1|apply z2|apply z3|apply z4
          try refine z5 rfl ?_
          repeat first|exact Md [1] 0 rfl (Û rfl) rfl (hJ l3 (Ac e))|apply z3|apply z2|apply z1|apply z4
   . obtain⟨op,f,he,hop⟩:=Aji i hi
     refine wrT [1,52,54] 1 (E6 1 []) ⟨[(1,oP l Ah),(52,.ptr 0 0),(54,bP true)],[[.mit De (seen++[i])]]⟩ True.intro (by kernel_rfl) ?_ hK
     clear hK hP K'
     repeat first|apply z1|apply z2|apply z3|apply z4
     refine Hf rfl ?_
     repeat first|apply z1|apply z2|apply z3|apply z4
     refine Hg ?_
     repeat first|apply z1|apply z2|apply z3|apply z4
     refine JU (by kernel_rfl) fun K' hK hP=>?_
     refine VU (x:=.tmp 52) (d:=55) (k:=0) (i:=i) (kvs:=De) (seen:=seen) rfl rfl rfl rfl he ?_
     refine wrT [1,4,5,52] 2 (E6 5 []) ⟨[(1,oP l Ah),(4,iP op),(5,.ptr 1 0),(52,.ptr 0 0)],[[.mit De (seen++[i])],[.fno true f []]]⟩ True.intro (by kernel_rfl) ?_ hK
     clear hK hP K'
     refine OQ [[.mit De (seen++[i])]] [.fno true f []] ⟨[(1,oP l Ah),(4,iP op),(5,.vptr [.fno true f []] 0),(52,.ptr 0 0)],[[.mit De (seen++[i])]]⟩ (by kernel_rfl) rfl (Û rfl) (by kernel_rfl) (by kernel_rfl) (by kernel_rfl) (by kernel_rfl) ?_
     obtain⟨r,hB,h⟩:∃ r,r=l++J4 op f/\Adv n l op f=some r:=⟨_,rfl,by rw [hn20];exact Adu l op f (WV hlen hl)⟩
     unfold Adv at h
     repeat first|apply z1|apply z2|apply z3|apply z4
     obtain⟨l1,hl1,h⟩:=Ad h
     have fb:([[iP 1],[iP 2],[iP 4]]:List (List PV))=l1.map Ay:=by rw [<- Ac hl1];simp only [ã,î,B7]<;>rfl
     refine wr [1,4,5,52,58,59,60] 1 (.val (oP l1 Ay)::(.val (iP (l1.length:Int))::(E6 1 []))) ⟨[(1,oP l Ah),(4,iP op),(5,.vptr [.fno true f []] 0),(52,.ptr 0 0),(58,oP l1 Ay),(59,iP (l1.length:Int)),(60,iP 0)],[[.mit De (seen++[i])]]⟩ (And.intro (D0 rfl fb) (And.intro (YQ l1 Ay) True.intro)) (by kernel_rfl) ?_
     repeat first|apply z1|apply z2|apply z3|apply z4
     obtain⟨y,e,h⟩:=Ad h
     refine Oh (A:=((List Af)×Int×Bool)) (fun v=>v=y) (fun y=>match y with|(l2,v60,v61)=>⟨[(1,oP l2 Ah),(4,iP op),(5,.vptr [.fno true f []] 0),(52,.ptr 0 0),(58,oP l1 Ay),(59,iP (l1.length:Int)),(60,iP v60),(61,bP v61)],[[.mit De (seen++[i])]]⟩) ?_ ?_
     . rintro⟨l2,v60,v61⟩ rfl
       show WS _ _ _ _ _ ⟨[(1,oP l2 Ah),(4,iP op),(5,.vptr [.fno true f []] 0),(52,.ptr 0 0),(58,oP l1 Ay),(59,iP (l1.length:Int)),(60,iP v60),(61,bP v61)],[[.mit De (seen++[i])]]⟩
       repeat first|exact JV (seen++[i],l2) rfl (Aje hnd hlt hl hn hi hop hB h) (Ajd hnd hlt hn hi)|apply z3|apply z2|apply z1|apply z4
     . intro hJ
       repeat first|apply z1|apply z2|apply z3|apply z4
       refine Hg ?_
       repeat first|apply z1|apply z2|apply z3|apply z4
       refine Us [1,4,5,52,58,59,60] 1 (fun a:Nat×((List Af)×Int)=>Br a.1 l1 op f a.2.1 a.2.2=some y) (fun a=>a.1) (fun a:Nat×((List Af)×Int)=>match a with|(_,(l3,v601))=>⟨[(1,oP l3 Ah),(4,iP op),(5,.vptr [.fno true f []] 0),(52,.ptr 0 0),(58,oP l1 Ay),(59,iP (l1.length:Int)),(60,iP v601)],[[.mit De (seen++[i])]]⟩) (n,(l,0)) (Û rfl) rfl e ?_
       clear e
       rintro⟨n,l3,v601⟩ e
       show WS _ _ _ _ _ ⟨[(1,oP l3 Ah),(4,iP op),(5,.vptr [.fno true f []] 0),(52,.ptr 0 0),(58,oP l1 Ay),(59,iP (l1.length:Int)),(60,iP v601)],[[.mit De (seen++[i])]]⟩
       cases n with
       |zero=>exact absurd e (by simp [Br])
       |succ n =>
        replace e:=(BC n l1 op f l3 v601).symm.trans e
        repeat first|apply z1|apply z2|apply z3|apply z4
        refine wr [1,4,5,52,58,59,60,61] 1 (E6 1 []) ⟨[(1,oP l3 Ah),(4,iP op),(5,.vptr [.fno true f []] 0),(52,.ptr 0 0),(58,oP l1 Ay),(59,iP (l1.length:Int)),(60,iP v601),(61,bP (decide (v601<(l1.length:Int))))],[[.mit De (seen++[i])]]⟩ True.intro (by kernel_rfl) ?_
        repeat first|apply z1|apply z2|apply z3|apply z4
        rcases An e with⟨hc3,e⟩|⟨hc3,e⟩
        . refine Hf (test hc3) ?_
          repeat first|apply z1|apply z2|apply z3|apply z4
          refine Hg ?_
          repeat first|apply z1|apply z2|apply z3|apply z4
          obtain⟨x,hx,e⟩:=Ad e
          refine wr [1,4,5,7,52,58,59,60,61] 1 (.val (.vptr [iP x] 0)::(E6 2 [])) ⟨[(1,oP l3 Ah),(4,iP op),(5,.vptr [.fno true f []] 0),(7,iP x),(52,.ptr 0 0),(58,oP l1 Ay),(59,iP (l1.length:Int)),(60,iP v601),(61,bP (decide (v601<(l1.length:Int))))],[[.mit De (seen++[i])]]⟩ (And.intro (oi hx LB (B7 x)) True.intro) (by kernel_rfl) ?_
          repeat first|apply z1|apply z2|apply z3|apply z4
          obtain⟨y1,e1,e⟩:=Ad e
          refine Oh (A:=Bool) (fun v=>v=y1) (fun v73=>⟨[(1,oP l3 Ah),(4,iP op),(5,.vptr [.fno true f []] 0),(7,iP x),(52,.ptr 0 0),(58,oP l1 Ay),(59,iP (l1.length:Int)),(60,iP v601),(61,bP (decide (v601<(l1.length:Int)))),(73,bP v73)],[[.mit De (seen++[i])]]⟩) ?_ ?_
          . rintro v73 rfl
            show WS _ _ _ _ _ ⟨[(1,oP l3 Ah),(4,iP op),(5,.vptr [.fno true f []] 0),(7,iP x),(52,.ptr 0 0),(58,oP l1 Ay),(59,iP (l1.length:Int)),(60,iP v601),(61,bP (decide (v601<(l1.length:Int)))),(73,bP v73)],[[.mit De (seen++[i])]]⟩
            repeat first|apply z1|apply z2|apply z3|apply z4
            rcases An e with⟨hc,e⟩|⟨hc,e⟩
            . refine Hf (test hc) ?_
              repeat first|apply z1|apply z2|apply z3|apply z4
              obtain⟨l4,hl4,e⟩:=Ad e
              have fb1:([[iP x],[iP x]]:List (List PV))=l4.map Ay:=by rw [<- Ac hl4];simp only [ã,î,B7]<;>rfl
              obtain⟨l5,hl5,e⟩:=Ad e
              have fb2:([[iP op,tP ⟨#[]⟩,hP l4 Ay,iP 3,.fno true 101 [.vptr [.fno true f []] 0]]]:List (List PV))=l5.map Ah:=by rw [<- Ac hl5];simp only [ã,î,BT]<;>rfl
              obtain⟨l6,hl6,e⟩:=Ad e
              refine wr [1,4,5,52,58,59,60,61] 1 (E6 4 (.val (oP l4 Ay)::(E6 2 (.val (oP l5 Ah)::(.val (oP l6 Ah)::(E6 1 [])))))) ⟨[(1,oP l6 Ah),(4,iP op),(5,.vptr [.fno true f []] 0),(52,.ptr 0 0),(58,oP l1 Ay),(59,iP (l1.length:Int)),(60,iP v601),(61,bP (decide (v601<(l1.length:Int))))],[[.mit De (seen++[i])]]⟩ (And.intro (D0 rfl fb1) (And.intro (D0 rfl fb2) (And.intro (Aau hl6 Cy) True.intro))) (by kernel_rfl) ?_
              repeat first|apply z1|apply z2|apply z3|apply z4
              refine wr [1,4,5,52,58,59,60,61] 1 (E6 2 []) ⟨[(1,oP l6 Ah),(4,iP op),(5,.vptr [.fno true f []] 0),(52,.ptr 0 0),(58,oP l1 Ay),(59,iP (l1.length:Int)),(60,iP (À (v601+1))),(61,bP (decide (v601<(l1.length:Int))))],[[.mit De (seen++[i])]]⟩ True.intro (by kernel_rfl) ?_
              repeat first|exact JV (n,(l6,(À (v601+1)))) rfl e (ħ _)|apply z3|apply z2|apply z1|apply z4
            . refine Fb (test hc) ?_
              repeat first|apply z1|apply z2|apply z3|apply z4
              refine wr [1,4,5,52,58,59,60,61] 1 (E6 2 []) ⟨[(1,oP l3 Ah),(4,iP op),(5,.vptr [.fno true f []] 0),(52,.ptr 0 0),(58,oP l1 Ay),(59,iP (l1.length:Int)),(60,iP (À (v601+1))),(61,bP (decide (v601<(l1.length:Int))))],[[.mit De (seen++[i])]]⟩ True.intro (by kernel_rfl) ?_
              repeat first|exact JV (n,(l3,(À (v601+1)))) rfl e (ħ _)|apply z3|apply z2|apply z1|apply z4
          . intro hJ1
            rcases An e1 with⟨hc1,e1⟩|⟨hc1,e1⟩
            . exact wr [1,4,5,7,52,58,59,60,61,73] 1 (E6 2 (.val (.lit (.bool true))::(E6 7 []))) ⟨[(1,oP l3 Ah),(4,iP op),(5,.vptr [.fno true f []] 0),(7,iP x),(52,.ptr 0 0),(58,oP l1 Ay),(59,iP (l1.length:Int)),(60,iP v601),(61,bP (decide (v601<(l1.length:Int)))),(73,bP true)],[[.mit De (seen++[i])]]⟩ (And.intro (Ph hc1) True.intro) (by kernel_rfl) (hJ1 true (Ac e1))
            . rcases An e1 with⟨hc2,e1⟩|⟨hc2,e1⟩
              . exact wr [1,4,5,7,52,58,59,60,61,73] 1 (E6 2 (.val (.lit (.bool false))::(E6 3 (.val (.lit (.bool true))::(E6 3 []))))) ⟨[(1,oP l3 Ah),(4,iP op),(5,.vptr [.fno true f []] 0),(7,iP x),(52,.ptr 0 0),(58,oP l1 Ay),(59,iP (l1.length:Int)),(60,iP v601),(61,bP (decide (v601<(l1.length:Int)))),(73,bP true)],[[.mit De (seen++[i])]]⟩ (And.intro (Ph hc1) (And.intro (Ph hc2) True.intro)) (by kernel_rfl) (hJ1 true (Ac e1))
              . exact wr [1,4,5,7,52,58,59,60,61,73] 1 (E6 2 (.val (.lit (.bool false))::(E6 3 (.val (.lit (.bool false))::(E6 3 []))))) ⟨[(1,oP l3 Ah),(4,iP op),(5,.vptr [.fno true f []] 0),(7,iP x),(52,.ptr 0 0),(58,oP l1 Ay),(59,iP (l1.length:Int)),(60,iP v601),(61,bP (decide (v601<(l1.length:Int)))),(73,bP (op == 13))],[[.mit De (seen++[i])]]⟩ (And.intro (Ph hc1) (And.intro (Ph hc2) True.intro)) (by kernel_rfl) (hJ1 (op == 13) (Ac e1))
        . refine Fb (test hc3) ?_
          repeat first|apply z1|apply z2|apply z3|apply z4
          try refine z5 rfl ?_
          repeat first|exact Md [1,4,5,52,58,59,60,61] 1 rfl (Û rfl) rfl (hJ (l3,v601,(decide (v601<(l1.length:Int)))) (Ac e))|apply z3|apply z2|apply z1|apply z4
 . intro hJ
   repeat first|apply z1|apply z2|apply z3|apply z4
   refine Hg ?_
   repeat first|apply z1|apply z2|apply z3|apply z4
   refine Us [0,1,35,36,37] 0 (fun a:Nat×((List Af)×Int)=>BY a.1 l13 a.2.1 a.2.2=some y) (fun a=>a.1) (fun a:Nat×((List Af)×Int)=>match a with|(_,(l15,v371))=>⟨[(0,.sl [] .own),(1,oP l15 Ah),(35,oP l13 BA),(36,iP (l13.length:Int)),(37,iP v371)],[]⟩) (n,(l12,0)) (Û rfl) rfl e ?_
   clear e
   rintro⟨n,l15,v371⟩ e
   show WS _ _ _ _ _ ⟨[(0,.sl [] .own),(1,oP l15 Ah),(35,oP l13 BA),(36,iP (l13.length:Int)),(37,iP v371)],[]⟩
   cases n with
   |zero=>exact absurd e (by simp [BY])
   |succ n =>
    replace e:=(IA n l13 l15 v371).symm.trans e
    repeat first|apply z1|apply z2|apply z3|apply z4
    refine wr [0,1,35,36,37,38] 0 (E6 1 []) ⟨[(0,.sl [] .own),(1,oP l15 Ah),(35,oP l13 BA),(36,iP (l13.length:Int)),(37,iP v371),(38,bP (decide (v371<(l13.length:Int))))],[]⟩ True.intro (by kernel_rfl) ?_
    repeat first|apply z1|apply z2|apply z3|apply z4
    rcases An e with⟨hc,e⟩|⟨hc,e⟩
    . refine Hf (test hc) ?_
      repeat first|apply z1|apply z2|apply z3|apply z4
      refine Hg ?_
      repeat first|apply z1|apply z2|apply z3|apply z4
      obtain⟨x,hx,e⟩:=Ad e
      refine wr [0,1,2,3,35,36,37,38] 1 (E6 1 (.val (.vptr [tP x] 0)::(E6 4 []))) ⟨[(0,.sl [] .own),(1,oP l15 Ah),(2,.ptr 0 0),(3,tP x),(35,oP l13 BA),(36,iP (l13.length:Int)),(37,iP v371),(38,bP (decide (v371<(l13.length:Int))))],[[iP v371]]⟩ (And.intro (oi hx L8 (J1 x)) True.intro) (by kernel_rfl) ?_
      refine OQ [] [iP v371] ⟨[(0,.sl [] .own),(1,oP l15 Ah),(2,.vptr [iP v371] 0),(3,tP x),(35,oP l13 BA),(36,iP (l13.length:Int)),(37,iP v371),(38,bP (decide (v371<(l13.length:Int))))],[]⟩ (by kernel_rfl) rfl (Û rfl) (by kernel_rfl) (by kernel_rfl) (by kernel_rfl) (by kernel_rfl) ?_
      repeat first|apply z1|apply z2|apply z3|apply z4
      obtain⟨l16,hl16,e⟩:=Ad e
      have fb14:([[iP 4]]:List (List PV))=l16.map Ay:=by rw [<- Ac hl16];simp only [ã,î,B7]<;>rfl
      obtain⟨l17,hl17,e⟩:=Ad e
      have fb15:([[iP 4,tP x,hP l16 Ay,iP 2,.fno true 93 [.vptr [iP v371] 0]]]:List (List PV))=l17.map Ah:=by rw [<- Ac hl17];simp only [ã,î,BT]<;>rfl
      obtain⟨l18,hl18,e⟩:=Ad e
      refine wr [0,1,35,36,37,38] 0 (E6 2 (.val (oP l16 Ay)::(E6 2 (.val (oP l17 Ah)::(.val (oP l18 Ah)::(E6 1 [])))))) ⟨[(0,.sl [] .own),(1,oP l18 Ah),(35,oP l13 BA),(36,iP (l13.length:Int)),(37,iP v371),(38,bP (decide (v371<(l13.length:Int))))],[]⟩ (And.intro (D0 rfl fb14) (And.intro (D0 rfl fb15) (And.intro (Aau hl18 Cy) True.intro))) (by kernel_rfl) ?_
      repeat first|apply z1|apply z2|apply z3|apply z4
      refine wr [0,1,35,36,37,38] 0 (E6 2 []) ⟨[(0,.sl [] .own),(1,oP l18 Ah),(35,oP l13 BA),(36,iP (l13.length:Int)),(37,iP (À (v371+1))),(38,bP (decide (v371<(l13.length:Int))))],[]⟩ True.intro (by kernel_rfl) ?_
      repeat first|exact JV (n,(l18,(À (v371+1)))) rfl e (ħ _)|apply z3|apply z2|apply z1|apply z4
    . refine Fb (test hc) ?_
      repeat first|apply z1|apply z2|apply z3|apply z4
      try refine z5 rfl ?_
      repeat first|exact Md [0,1,35,36,37,38] 0 rfl (Û rfl) rfl (hJ (l15,v371,(decide (v371<(l13.length:Int)))) (Ac e))|apply z3|apply z2|apply z1|apply z4
end Go.Proofs.YtkcfmlfkfagejaaGreatDoor
namespace Go.Proofs.YtkcfmlfkfagejaaGreatDoor
open Go.RowKit Go.Q Go.Vl Go.Sp
set_option maxRecDepth 100000
theorem Aht:CZ Tryz.prog 54 [] Bp:=by
 intro σ
 refine VC.pure (Q:=fun x=>x=.ret Bp) ?_ rfl |>.mono fun x σ' h=>h
 refine VC.less (Ahu (fun x σ'=>∃ y os,Ord os/\shareP y=hP (opsOf os) Ah/\x=.ret y/\σ'=[]) ?_) ?_
 . intro os ho l hl r hr y hy
   refine⟨y,os,ho,?_,rfl,rfl⟩
   have h1:=XS l (WV (ndl 6 os ho.1 ho.2.1) hl)
   rw [h1] at hr
   rw [hy,<- Ac hr,hl]
   rfl
 . rintro x σ' ⟨y,os,ho,hy,rfl,rfl⟩
   refine⟨.ret Bp,⟨rfl,rfl⟩,fun w G e he=>?_⟩
   obtain⟨v,h1,h2,_⟩:=EH.shareP he
   rw [hy] at h2
   exact⟨v,h1,.dis _ _ os _ (by rw [Aal ho];exact h2),trivial⟩
theorem YR:Dz [] Tryz.f55.ntmps (Tryz.f55.body.getD .skip)=true:=by kernel_rfl
theorem Ac9 (Q:CP->List (List PV)->Prop)(hQ:∀ y,shareP y=Dw->Q (.ret y) []):VC Tryz.prog 55 [] [] Q:=by
 refine VC.intro ⟨[0],[]⟩ Tryz.func55 rfl follows YR (by rw [Tryz.ntmps55];exact Û rfl) ?_
 refine RB ?_
 repeat first|apply z1|apply z2|apply z3|apply z4
 refine wr [0] 0 (E6 1 []) ⟨[(0,.lit (.map none))],[]⟩ True.intro (by kernel_rfl) ?_
 repeat first|apply z1|apply z2|apply z3|apply z4
 refine wr [0] 1 (E6 7 []) ⟨[(0,.mref 0)],[[.mp (NL CC)]]⟩ True.intro (by kernel_rfl) ?_
 repeat first|apply z1|apply z2|apply z3|apply z4
 refine X7 [] (NL CC) ⟨[(0,Dw)],[]⟩ (by kernel_rfl) rfl (Û rfl) (by kernel_rfl) (by kernel_rfl) (by kernel_rfl) ?_
 exact KD (HM hQ (by kernel_rfl)).1
theorem Af0:CZ Tryz.prog 55 [] Dw:=VC.fin (fun Q hQ=>Ac9 Q hQ) rfl rfl
theorem Aas:Dz [] Tryz.f33.ntmps (Tryz.f33.body.getD .skip)=true:=by kernel_rfl
theorem Af1 (Q:CP->List (List PV)->Prop)(hQ:∀ y,shareP y=.agg [Bp,Dw]->Q (.ret y) []):VC Tryz.prog 33 [] [] Q:=by
 refine VC.intro ⟨[0],[]⟩ Tryz.func33 rfl follows Aas (by rw [Tryz.ntmps33];exact Û rfl) ?_
 refine RB ?_
 repeat first|apply z1|apply z2|apply z3|apply z4
 refine wr [0] 1 (E6 1 []) ⟨[(0,.ptr 0 0)],[[.sl [] .own,.lit (.map none)]]⟩ True.intro (by kernel_rfl) ?_
 repeat first|apply z1|apply z2|apply z3|apply z4
 refine wr [0] 1 (.call Bp::.call Dw::E6 2 []) ⟨[(0,.ptr 0 0)],[[Bp,Dw]]⟩ (And.intro Aht (And.intro Af0 True.intro)) (by kernel_rfl) ?_
 repeat first|apply z1|apply z2|apply z3|apply z4
 exact KD (HM hQ (by kernel_rfl)).1
theorem OU:CZ Tryz.prog 33 [] (.agg [Bp,Dw]):=VC.fin (fun Q hQ=>Af1 Q hQ) rfl rfl
end Go.Proofs.YtkcfmlfkfagejaaGreatDoor
