/-
  The walks of chapter 32, second part: printed: the program computes the plain functions. (Printed by lift.py.) The walks of chapter 32, second part: sanity: the program computes the plain functions. (Printed by lift.py.) The walks of chapter 32, second part: joins and the round trip: the program computes the plain functions. (Printed by lift.py.)
-/
import Derived.Test.YtgdalmleogphgaaGreatDoorU47
import Derived.Test.YtgdalmleogphgaaGreatDoorU48
import Derived.Test.YtgdalmleogphgaaGreatDoorU49
namespace Go.Proofs.YtgdalmleogphgaaGreatDoor
open Go.RowKit Go.Q Go.Vl Go.Sp
set_option maxRecDepth 100000
set_option linter.unusedSimpArgs false
set_option linter.unusedVariables false
set_option maxHeartbeats 4000000
theorem H6 (n0:Nat)
 (ih_parse_printer_form:∀ m,m<=n0->∀ (p:Ag) (f:Af) (r:(Unit×Ag)),B6 m p f=some r->CA Tryz.prog 36 [.agg (kF f)] (kR p) (.ret (.tup [])) (kR r.2))
 (n:Nat) (hn:n<=n0) (p:Ag) (f:Af) (r:(Unit×Ag)) (h:B6 (n+1) p f=some r) (Q:B7->List (List PV)->Prop) (hQ:∀ y,shareP y=.tup []->Q (.ret y) [(kR r.2)]) :
 VC Tryz.prog 36 (.ptr 0 0::[.agg (kF f)]) [(kR p)] Q:=by
 replace h:=(B6.eq_2 (n:=n) _ _).symm.trans h
 refine VC.intro ⟨[0,1,3,5,7,13,14,15,16,20,24,30,34,60,66,71,87,95,96,97,98],[]⟩ Tryz.func36 rfl follows Yn (by rw [Tryz.ntmps36];exact lb rfl) ?_
 refine B4 ?_
 refine zz ?_
 refine wn (Ai 1 []) ⟨[(0,.ptr 0 0),(3,.ptr 1 0)],[(kR p),(kF f)]⟩ tI ?_
 obtain⟨n_,hn_,h⟩:=Ae h
 refine wn (Ai 3 (.meth (.tup []) (kR n_.2)::[])) ⟨[(0,.ptr 0 0),(3,.ptr 1 0)],[(kR n_.2),(kF f)]⟩ (aI (Dy n p f.Word n_ hn_) tI) ?_
 refine wn (Ai 2 (.val (iP (f.Args.length:Int))::(Ai 1 []))) ⟨[(0,.ptr 0 0),(3,.ptr 1 0),(13,hA f.Args),(14,iP (f.Args.length:Int)),(15,iP 0)],[(kR n_.2),(kF f)]⟩ (aI (CV f.Args Bt) tI) ?_
 obtain⟨y,e,h⟩:=Ae h
 refine AJ (A:=((List Ab)×Bool)) (fun v=>v=y) (fun y=>match y with|(p1,p2)=>⟨[(0,.ptr 0 0),(3,.ptr 1 0)],[[oT p1,bP p2],(kF f)]⟩) ?_ ?_
 . rintro⟨p1,p2⟩ rfl
   show WS _ _ _ _ _ ⟨[(0,.ptr 0 0),(3,.ptr 1 0)],[[oT p1,bP p2],(kF f)]⟩
   refine zz ?_
   refine wn (Ai 2 (.val (iP (f.Body.length:Int))::(Ai 1 []))) ⟨[(0,.ptr 0 0),(3,.ptr 1 0),(87,bP ((f.Body.length:Int) == 0))],[[oT p1,bP p2],(kF f)]⟩ (aI (CV f.Body AD) tI) ?_
   rcases Ak h with⟨hc1,h⟩|⟨hc1,h⟩
   . refine zT (test hc1) ?_
     obtain⟨l,hl,h⟩:=Ae h
     have fb:([[tP ⟨#[59]⟩]]:List (List PV))=l.map BD:=by rw [<- Ac hl];simp only [List.map_cons,List.map_nil,By]<;>rfl
     obtain⟨s,hs,h⟩:=Ae h
     refine wn (Ai 1 (.val (oS l)::(.meth (.tup []) (kR s.2)::[]))) ⟨[(0,.ptr 0 0),(3,.ptr 1 0)],[(kR s.2),(kF f)]⟩ (aI (Cb rfl fb) (aI (AK n (Ag.mk p1 p2) l s hs) tI)) ?_
     cases h
     exact rt hQ
   . refine zF (test hc1) ?_
     obtain⟨l1,hl1,h⟩:=Ae h
     have fb1:([[tP ⟨#[123]⟩]]:List (List PV))=l1.map BD:=by rw [<- Ac hl1];simp only [List.map_cons,List.map_nil,By]<;>rfl
     obtain⟨s1,hs1,h⟩:=Ae h
     refine wn (Ai 1 (.val (oS l1)::(.meth (.tup []) (kR s1.2)::[]))) ⟨[(0,.ptr 0 0),(3,.ptr 1 0)],[(kR s1.2),(kF f)]⟩ (aI (Cb rfl fb1) (aI (AK n (Ag.mk p1 p2) l1 s1 hs1) tI)) ?_
     refine wn (Ai 2 (.val (iP (f.Body.length:Int))::(Ai 1 []))) ⟨[(0,.ptr 0 0),(95,hF f.Body),(96,iP (f.Body.length:Int)),(97,iP 0)],[(kR s1.2),(kF f)]⟩ (aI (CV f.Body AD) tI) ?_
     obtain⟨y1,e1,h⟩:=Ae h
     refine AJ (A:=((List Ab)×Bool)) (fun v=>v=y1) (fun y1=>match y1 with|(p3,p4)=>⟨[(0,.ptr 0 0)],[[oT p3,bP p4],(kF f)]⟩) ?_ ?_
     . rintro⟨p3,p4⟩ rfl
       show WS _ _ _ _ _ ⟨[(0,.ptr 0 0)],[[oT p3,bP p4],(kF f)]⟩
       refine zz ?_
       obtain⟨l2,hl2,h⟩:=Ae h
       have fb2:([[tP ⟨#[125]⟩]]:List (List PV))=l2.map BD:=by rw [<- Ac hl2];simp only [List.map_cons,List.map_nil,By]<;>rfl
       obtain⟨s2,hs2,h⟩:=Ae h
       refine wn (Ai 1 (.val (oS l2)::(.meth (.tup []) (kR s2.2)::[]))) ⟨[],[(kR s2.2),(kF f)]⟩ (aI (Cb rfl fb2) (aI (AK n (Ag.mk p3 p4) l2 s2 hs2) tI)) ?_
       cases h
       exact rt hQ
     . intro hJ1
       refine zz ?_
       refine zB ?_
       refine C9 [0,95,96,97] 2 (fun a:Nat×(Int×(List Ab)×Bool)=>a.1<=n0/\BL a.1 f a.2.1 a.2.2.1 a.2.2.2=some y1) (fun a=>a.1) (fun a:Nat×(Int×(List Ab)×Bool)=>match a with|(_,(v97,p5,p6))=>⟨[(0,.ptr 0 0),(95,hF f.Body),(96,iP (f.Body.length:Int)),(97,iP v97)],[[oT p5,bP p6],(kF f)]⟩) (n,(0,s1.2.l,s1.2.bad)) (lb rfl) rfl ⟨hn,e1⟩ ?_
       clear e1 hn
       rintro⟨n,v97,p5,p6⟩ ⟨hn,e1⟩
       show WS _ _ _ _ _ ⟨[(0,.ptr 0 0),(95,hF f.Body),(96,iP (f.Body.length:Int)),(97,iP v97)],[[oT p5,bP p6],(kF f)]⟩
       cases n with
       |zero=>exact absurd e1 (by simp [BL])
       |succ n =>
        replace e1:=(BL.eq_2 (n:=n) _ _ _ _).symm.trans e1
        replace hn:n<=n0:=by omega
        refine zz ?_
        refine wn (Ai 1 []) ⟨[(0,.ptr 0 0),(95,hF f.Body),(96,iP (f.Body.length:Int)),(97,iP v97),(98,bP (decide (v97<(f.Body.length:Int))))],[[oT p5,bP p6],(kF f)]⟩ tI ?_
        rcases Ak e1 with⟨hc,e1⟩|⟨hc,e1⟩
        . refine zT (test hc) ?_
          refine zB ?_
          obtain⟨x,hx,e1⟩:=Ae e1
          refine wn (.val (.vptr (kF x) 0)::(Ai 3 [])) ⟨[(0,.ptr 0 0),(7,.ptr 2 0),(95,hF f.Body),(96,iP (f.Body.length:Int)),(97,iP v97)],[[oT p5,bP p6],(kF f),(kF x)]⟩ (aI (oi hx Az (A4 x)) tI) ?_
          obtain⟨f1,hf1,e1⟩:=Ae e1
          refine wn (Ai 2 (.meth (.tup []) (kR f1.2)::[])) ⟨[(0,.ptr 0 0),(95,hF f.Body),(96,iP (f.Body.length:Int)),(97,iP v97)],[(kR f1.2),(kF f),(kF x)]⟩ (aI (ih_parse_printer_form n hn (Ag.mk p5 p6) x f1 hf1) tI) ?_
          refine wq (Ai 2 []) ⟨[(0,.ptr 0 0),(95,hF f.Body),(96,iP (f.Body.length:Int)),(97,iP (IntKind.i64.wrap (v97+1)))],[(kR f1.2),(kF f),(kF x)]⟩ tI ?_
          exact zz (AQ (n,((IntKind.i64.wrap (v97+1)),f1.2.l,f1.2.bad)) rfl ⟨hn,e1⟩ (Nat.lt_succ_self _))
        . refine zF (test hc) ?_
          try refine z5 rfl ?_
          exact zz (BN [0] 2 rfl (lb rfl) rfl (hJ1 (p5,p6) (Ac e1)))
 . intro hJ
   refine zz ?_
   refine zB ?_
   refine C9 [0,3,13,14,15] 2 (fun a:Nat×(Int×(List Ab)×Bool)=>a.1<=n0/\AL a.1 f a.2.1 a.2.2.1 a.2.2.2=some y) (fun a=>a.1) (fun a:Nat×(Int×(List Ab)×Bool)=>match a with|(_,(v15,p7,p8))=>⟨[(0,.ptr 0 0),(3,.ptr 1 0),(13,hA f.Args),(14,iP (f.Args.length:Int)),(15,iP v15)],[[oT p7,bP p8],(kF f)]⟩) (n,(0,n_.2.l,n_.2.bad)) (lb rfl) rfl ⟨hn,e⟩ ?_
   clear e hn
   rintro⟨n,v15,p7,p8⟩ ⟨hn,e⟩
   show WS _ _ _ _ _ ⟨[(0,.ptr 0 0),(3,.ptr 1 0),(13,hA f.Args),(14,iP (f.Args.length:Int)),(15,iP v15)],[[oT p7,bP p8],(kF f)]⟩
   cases n with
   |zero=>exact absurd e (by simp [AL])
   |succ n =>
    replace e:=(AL.eq_2 (n:=n) _ _ _ _).symm.trans e
    replace hn:n<=n0:=by omega
    refine zz ?_
    refine wn (Ai 1 []) ⟨[(0,.ptr 0 0),(3,.ptr 1 0),(13,hA f.Args),(14,iP (f.Args.length:Int)),(15,iP v15),(16,bP (decide (v15<(f.Args.length:Int))))],[[oT p7,bP p8],(kF f)]⟩ tI ?_
    rcases Ak e with⟨hc9,e⟩|⟨hc9,e⟩
    . refine zT (test hc9) ?_
      refine zB ?_
      obtain⟨x1,hx1,e⟩:=Ae e
      refine wn (.val (.vptr (kA x1) 0)::(Ai 3 [])) ⟨[(0,.ptr 0 0),(3,.ptr 1 0),(5,.ptr 2 0),(13,hA f.Args),(14,iP (f.Args.length:Int)),(15,iP v15)],[[oT p7,bP p8],(kF f),(kA x1)]⟩ (aI (oi hx1 B5 (BG x1)) tI) ?_
      refine wn (Ai 2 []) ⟨[(0,.ptr 0 0),(3,.ptr 1 0),(5,.ptr 2 0),(13,hA f.Args),(14,iP (f.Args.length:Int)),(15,iP v15),(20,iP x1.Kind)],[[oT p7,bP p8],(kF f),(kA x1)]⟩ tI ?_
      refine zB ?_
      refine wn (Ai 2 []) ⟨[(0,.ptr 0 0),(3,.ptr 1 0),(5,.ptr 2 0),(13,hA f.Args),(14,iP (f.Args.length:Int)),(15,iP v15),(20,iP x1.Kind),(24,bP (x1.Kind == 1))],[[oT p7,bP p8],(kF f),(kA x1)]⟩ tI ?_
      rcases Ak e with⟨hc8,e⟩|⟨hc8,e⟩
      . refine zT (test hc8) ?_
        obtain⟨n_1,hn_1,e⟩:=Ae e
        refine wn (Ai 3 (.meth (.tup []) (kR n_1.2)::[])) ⟨[(0,.ptr 0 0),(3,.ptr 1 0),(13,hA f.Args),(14,iP (f.Args.length:Int)),(15,iP v15)],[(kR n_1.2),(kF f),(kA x1)]⟩ (aI (Dy n (Ag.mk p7 p8) x1.S n_1 hn_1) tI) ?_
        refine wq (Ai 2 []) ⟨[(0,.ptr 0 0),(3,.ptr 1 0),(13,hA f.Args),(14,iP (f.Args.length:Int)),(15,iP (IntKind.i64.wrap (v15+1)))],[(kR n_1.2),(kF f),(kA x1)]⟩ tI ?_
        exact zz (AQ (n,((IntKind.i64.wrap (v15+1)),n_1.2.l,n_1.2.bad)) rfl ⟨hn,e⟩ (Nat.lt_succ_self _))
      . refine zF (test hc8) ?_
        refine wn (Ai 2 []) ⟨[(0,.ptr 0 0),(3,.ptr 1 0),(5,.ptr 2 0),(13,hA f.Args),(14,iP (f.Args.length:Int)),(15,iP v15),(20,iP x1.Kind),(30,bP (x1.Kind == 2))],[[oT p7,bP p8],(kF f),(kA x1)]⟩ tI ?_
        rcases Ak e with⟨hc7,e⟩|⟨hc7,e⟩
        . refine zT (test hc7) ?_
          refine wn (Ai 3 []) ⟨[(0,.ptr 0 0),(3,.ptr 1 0),(5,.ptr 2 0),(13,hA f.Args),(14,iP (f.Args.length:Int)),(15,iP v15),(34,bP (decide (x1.N<0)))],[[oT p7,bP p8],(kF f),(kA x1)]⟩ tI ?_
          rcases Ak e with⟨hc3,e⟩|⟨hc3,e⟩
          . refine zT (test hc3) ?_
            obtain⟨l3,hl3,e⟩:=Ae e
            have fb3:([[tP ⟨#[45]⟩]]:List (List PV))=l3.map BD:=by rw [<- Ac hl3];simp only [List.map_cons,List.map_nil,By]<;>rfl
            obtain⟨s3,hs3,e⟩:=Ae e
            refine wn (Ai 1 (.val (oS l3)::(.meth (.tup []) (kR s3.2)::[]))) ⟨[(0,.ptr 0 0),(3,.ptr 1 0),(5,.ptr 2 0),(13,hA f.Args),(14,iP (f.Args.length:Int)),(15,iP v15)],[(kR s3.2),(kF f),(kA x1)]⟩ (aI (Cb rfl fb3) (aI (AK n (Ag.mk p7 p8) l3 s3 hs3) tI)) ?_
            obtain⟨n_2,hn_2,e⟩:=Ae e
            refine wn (Ai 5 (.meth (.tup []) (kR n_2.2)::[])) ⟨[(0,.ptr 0 0),(3,.ptr 1 0),(5,.ptr 2 0),(13,hA f.Args),(14,iP (f.Args.length:Int)),(15,iP v15)],[(kR n_2.2),(kF f),(kA x1)]⟩ (aI (DG s3.2 (if 0 > (IntKind.i64.wrap (0-x1.N)) then 0 else (IntKind.i64.wrap (0-x1.N))) n_2 hn_2) tI) ?_
            obtain⟨y2,e2,e⟩:=Ae e
            refine AJ (A:=Bool) (fun v=>v=y2) (fun p9=>⟨[(0,.ptr 0 0),(3,.ptr 1 0),(5,.ptr 2 0),(13,hA f.Args),(14,iP (f.Args.length:Int)),(15,iP v15)],[[oT n_2.2.l,bP p9],(kF f),(kA x1)]⟩) ?_ ?_
            . rintro p9 rfl
              show WS _ _ _ _ _ ⟨[(0,.ptr 0 0),(3,.ptr 1 0),(5,.ptr 2 0),(13,hA f.Args),(14,iP (f.Args.length:Int)),(15,iP v15)],[[oT n_2.2.l,bP p9],(kF f),(kA x1)]⟩
              refine zz ?_
              try refine z5 rfl ?_
              refine zz ?_
              refine wq (Ai 2 []) ⟨[(0,.ptr 0 0),(3,.ptr 1 0),(13,hA f.Args),(14,iP (f.Args.length:Int)),(15,iP (IntKind.i64.wrap (v15+1)))],[[oT n_2.2.l,bP p9],(kF f),(kA x1)]⟩ tI ?_
              exact zz (AQ (n,((IntKind.i64.wrap (v15+1)),n_2.2.l,p9)) rfl ⟨hn,e⟩ (Nat.lt_succ_self _))
            . intro hJ2
              rcases Ak e2 with⟨hc2,e2⟩|⟨hc2,e2⟩
              . exact wq (Ai 5 (yT::(Ai 7 []))) _ (aI (Aw hc2) tI) (hJ2 true (Ac e2))
              . exact wq (Ai 5 (yF::(Ai 7 []))) _ (aI (Aw hc2) tI) (hJ2 (decide (x1.N<(-999999999999999))) (Ac e2))
          . refine zF (test hc3) ?_
            obtain⟨n_3,hn_3,e⟩:=Ae e
            refine wn (Ai 3 (.meth (.tup []) (kR n_3.2)::[])) ⟨[(0,.ptr 0 0),(3,.ptr 1 0),(13,hA f.Args),(14,iP (f.Args.length:Int)),(15,iP v15)],[(kR n_3.2),(kF f),(kA x1)]⟩ (aI (DG (Ag.mk p7 p8) x1.N n_3 hn_3) tI) ?_
            refine wq (Ai 2 []) ⟨[(0,.ptr 0 0),(3,.ptr 1 0),(13,hA f.Args),(14,iP (f.Args.length:Int)),(15,iP (IntKind.i64.wrap (v15+1)))],[(kR n_3.2),(kF f),(kA x1)]⟩ tI ?_
            exact zz (AQ (n,((IntKind.i64.wrap (v15+1)),n_3.2.l,n_3.2.bad)) rfl ⟨hn,e⟩ (Nat.lt_succ_self _))
        . refine zF (test hc7) ?_
          refine wn (Ai 2 []) ⟨[(0,.ptr 0 0),(3,.ptr 1 0),(5,.ptr 2 0),(13,hA f.Args),(14,iP (f.Args.length:Int)),(15,iP v15),(20,iP x1.Kind),(60,bP (x1.Kind == 3))],[[oT p7,bP p8],(kF f),(kA x1)]⟩ tI ?_
          rcases Ak e with⟨hc6,e⟩|⟨hc6,e⟩
          . refine zT (test hc6) ?_
            obtain⟨t,ht,e⟩:=Ae e
            refine wn (Ai 3 (.meth (.tup []) (kR t.2)::[])) ⟨[(0,.ptr 0 0),(3,.ptr 1 0),(13,hA f.Args),(14,iP (f.Args.length:Int)),(15,iP v15)],[(kR t.2),(kF f),(kA x1)]⟩ (aI (Fs n (Ag.mk p7 p8) x1.S t ht) tI) ?_
            refine wq (Ai 2 []) ⟨[(0,.ptr 0 0),(3,.ptr 1 0),(13,hA f.Args),(14,iP (f.Args.length:Int)),(15,iP (IntKind.i64.wrap (v15+1)))],[(kR t.2),(kF f),(kA x1)]⟩ tI ?_
            exact zz (AQ (n,((IntKind.i64.wrap (v15+1)),t.2.l,t.2.bad)) rfl ⟨hn,e⟩ (Nat.lt_succ_self _))
          . refine zF (test hc6) ?_
            refine wn (Ai 2 []) ⟨[(0,.ptr 0 0),(3,.ptr 1 0),(5,.ptr 2 0),(13,hA f.Args),(14,iP (f.Args.length:Int)),(15,iP v15),(20,iP x1.Kind),(66,bP (x1.Kind == 4))],[[oT p7,bP p8],(kF f),(kA x1)]⟩ tI ?_
            rcases Ak e with⟨hc5,e⟩|⟨hc5,e⟩
            . refine zT (test hc5) ?_
              obtain⟨l4,hl4,e⟩:=Ae e
              have fb4:([[tP ⟨#[45,62]⟩]]:List (List PV))=l4.map BD:=by rw [<- Ac hl4];simp only [List.map_cons,List.map_nil,By]<;>rfl
              obtain⟨s4,hs4,e⟩:=Ae e
              refine wn (Ai 1 (.val (oS l4)::(.meth (.tup []) (kR s4.2)::[]))) ⟨[(0,.ptr 0 0),(3,.ptr 1 0),(13,hA f.Args),(14,iP (f.Args.length:Int)),(15,iP v15)],[(kR s4.2),(kF f),(kA x1)]⟩ (aI (Cb rfl fb4) (aI (AK n (Ag.mk p7 p8) l4 s4 hs4) tI)) ?_
              refine wq (Ai 2 []) ⟨[(0,.ptr 0 0),(3,.ptr 1 0),(13,hA f.Args),(14,iP (f.Args.length:Int)),(15,iP (IntKind.i64.wrap (v15+1)))],[(kR s4.2),(kF f),(kA x1)]⟩ tI ?_
              exact zz (AQ (n,((IntKind.i64.wrap (v15+1)),s4.2.l,s4.2.bad)) rfl ⟨hn,e⟩ (Nat.lt_succ_self _))
            . refine zF (test hc5) ?_
              refine wn (Ai 2 []) ⟨[(0,.ptr 0 0),(3,.ptr 1 0),(5,.ptr 2 0),(13,hA f.Args),(14,iP (f.Args.length:Int)),(15,iP v15),(71,bP (x1.Kind == 5))],[[oT p7,bP p8],(kF f),(kA x1)]⟩ tI ?_
              rcases Ak e with⟨hc4,e⟩|⟨hc4,e⟩
              . refine zT (test hc4) ?_
                obtain⟨l5,hl5,e⟩:=Ae e
                have fb5:([[tP ⟨#[40]⟩]]:List (List PV))=l5.map BD:=by rw [<- Ac hl5];simp only [List.map_cons,List.map_nil,By]<;>rfl
                obtain⟨s5,hs5,e⟩:=Ae e
                refine wn (Ai 1 (.val (oS l5)::(.meth (.tup []) (kR s5.2)::[]))) ⟨[(0,.ptr 0 0),(3,.ptr 1 0),(5,.ptr 2 0),(13,hA f.Args),(14,iP (f.Args.length:Int)),(15,iP v15)],[(kR s5.2),(kF f),(kA x1)]⟩ (aI (Cb rfl fb5) (aI (AK n (Ag.mk p7 p8) l5 s5 hs5) tI)) ?_
                obtain⟨e3,he3,e⟩:=Ae e
                refine wn (Ai 3 (.meth (.tup []) (kR e3.2)::[])) ⟨[(0,.ptr 0 0),(3,.ptr 1 0),(13,hA f.Args),(14,iP (f.Args.length:Int)),(15,iP v15)],[(kR e3.2),(kF f),(kA x1)]⟩ (aI (Ft n s5.2 x1.E e3 he3) tI) ?_
                obtain⟨l6,hl6,e⟩:=Ae e
                have fb6:([[tP ⟨#[41]⟩]]:List (List PV))=l6.map BD:=by rw [<- Ac hl6];simp only [List.map_cons,List.map_nil,By]<;>rfl
                obtain⟨s6,hs6,e⟩:=Ae e
                refine wn (Ai 1 (.val (oS l6)::(.meth (.tup []) (kR s6.2)::[]))) ⟨[(0,.ptr 0 0),(3,.ptr 1 0),(13,hA f.Args),(14,iP (f.Args.length:Int)),(15,iP v15)],[(kR s6.2),(kF f),(kA x1)]⟩ (aI (Cb rfl fb6) (aI (AK n e3.2 l6 s6 hs6) tI)) ?_
                refine wq (Ai 2 []) ⟨[(0,.ptr 0 0),(3,.ptr 1 0),(13,hA f.Args),(14,iP (f.Args.length:Int)),(15,iP (IntKind.i64.wrap (v15+1)))],[(kR s6.2),(kF f),(kA x1)]⟩ tI ?_
                exact zz (AQ (n,((IntKind.i64.wrap (v15+1)),s6.2.l,s6.2.bad)) rfl ⟨hn,e⟩ (Nat.lt_succ_self _))
              . refine zF (test hc4) ?_
                refine wn (Ai 4 []) ⟨[(0,.ptr 0 0),(3,.ptr 1 0),(13,hA f.Args),(14,iP (f.Args.length:Int)),(15,iP v15)],[[oT p7,bP true],(kF f),(kA x1)]⟩ tI ?_
                refine wq (Ai 2 []) ⟨[(0,.ptr 0 0),(3,.ptr 1 0),(13,hA f.Args),(14,iP (f.Args.length:Int)),(15,iP (IntKind.i64.wrap (v15+1)))],[[oT p7,bP true],(kF f),(kA x1)]⟩ tI ?_
                exact zz (AQ (n,((IntKind.i64.wrap (v15+1)),p7,true)) rfl ⟨hn,e⟩ (Nat.lt_succ_self _))
    . refine zF (test hc9) ?_
      try refine z5 rfl ?_
      exact zz (BN [0,3] 2 rfl (lb rfl) rfl (hJ (p7,p8) (Ac e)))
theorem Ez:∀ n:Nat,(∀ m,m<=n->∀ (p:Ag) (f:Af) (r:(Unit×Ag)),B6 m p f=some r->CA Tryz.prog 36 [.agg (kF f)] (kR p) (.ret (.tup [])) (kR r.2))
 |0=>(fun m hm p f r h=>by
  obtain rfl:m=0:=by omega
  exact absurd h (by simp [B6]))
 |n+1=>by
  have ih:=Ez n
  exact fun m hm p f r h=>by
   cases m with
   |zero=>exact absurd h (by simp [B6])
   |succ m=>exact CA.fin (fun Q hQ=>H6 n (ih) m (by omega) p f _ h Q hQ)
theorem IG (n:Nat)(p:Ag)(f:Af)(r:(Unit×Ag))(h:B6 n p f=some r):CA Tryz.prog 36 [.agg (kF f)] (kR p) (.ret (.tup [])) (kR r.2) :=
 (Ez n) n (Nat.le_refl _) p f r h
theorem Lk (n:Nat)(l:(List Af))(r:(ByteArray×Int))(h:Ds n l=some r)(Q:B7->List (List PV)->Prop)(hQ:∀ y,shareP y=.tup [tP r.1,iP r.2]->Q (.ret y) []) :
 VC Tryz.prog 19 [hF l] [] Q:=by
 unfold Ds at h
 refine VC.intro ⟨[0,2,3,4,6,7,9,12,13,14,15,25,38],[]⟩ Tryz.func19 rfl follows Yv (by rw [Tryz.ntmps19];exact lb rfl) ?_
 refine B4 ?_
 refine zz ?_
 refine wn (Ai 2 []) ⟨[(0,hF l),(2,tP ⟨#[]⟩),(3,iP 0)],[]⟩ tI ?_
 refine wn (Ai 3 []) ⟨[(0,hF l),(2,tP ⟨#[]⟩),(3,iP 0),(4,.ptr 0 0)],[[.sl [] .own,bP false]]⟩ tI ?_
 refine wn (Ai 1 (.val (iP (l.length:Int))::(Ai 1 []))) ⟨[(2,tP ⟨#[]⟩),(3,iP 0),(4,.ptr 0 0),(12,hF l),(13,iP (l.length:Int)),(14,iP 0)],[[.sl [] .own,bP false]]⟩ (aI (CV l AD) tI) ?_
 obtain⟨y,e,h⟩:=Ae h
 refine AJ (A:=((List Ab)×Bool)) (fun v=>v=y) (fun y=>match y with|(q,q1)=>⟨[(2,tP ⟨#[]⟩),(3,iP 0),(4,.ptr 0 0)],[[oT q,bP q1]]⟩) ?_ ?_
 . rintro⟨q,q1⟩ rfl
   show WS _ _ _ _ _ ⟨[(2,tP ⟨#[]⟩),(3,iP 0),(4,.ptr 0 0)],[[oT q,bP q1]]⟩
   refine zz ?_
   refine wn (Ai 4 []) ⟨[(2,tP ⟨#[]⟩),(3,iP 0),(4,.ptr 0 0),(25,bP q1)],[[oT q,bP q1]]⟩ tI ?_
   rcases Ak h with⟨hc1,h⟩|⟨hc1,h⟩
   . refine zT (test hc1) ?_
     refine wn (Ai 2 []) ⟨[(2,tP ⟨#[]⟩),(3,iP 1),(4,.ptr 0 0)],[[oT q,bP q1]]⟩ tI ?_
     cases h
     exact rt hQ
   . refine zF (test hc1) ?_
     obtain⟨s,hs,h⟩:=Ae h
     refine wn (Ai 4 (.call (tP s)::(Ai 1 []))) ⟨[(2,tP ⟨#[]⟩),(3,iP 0),(7,tP s)],[[oT q,bP q1]]⟩ (aI (Sz q s hs) tI) ?_
     obtain⟨f,hf,h⟩:=Ae h
     refine wn (Ai 1 (.call (.tup [hF f.1,.agg [iP f.2.At,iP f.2.E]])::(Ai 6 []))) ⟨[(2,tP ⟨#[]⟩),(3,iP 0),(7,tP s),(9,.ptr 1 0)],[[oT q,bP q1],[iP f.2.At,iP f.2.E]]⟩ (aI (DT n s f hf) tI) ?_
     refine wn (Ai 3 []) ⟨[(2,tP ⟨#[]⟩),(3,iP 0),(7,tP s),(38,bP (f.2.E != 0))],[[oT q,bP q1],[iP f.2.At,iP f.2.E]]⟩ tI ?_
     rcases Ak h with⟨hc,h⟩|⟨hc,h⟩
     . refine zT (test hc) ?_
       refine wn (Ai 2 []) ⟨[(2,tP ⟨#[]⟩),(3,iP 2),(7,tP s)],[[oT q,bP q1],[iP f.2.At,iP f.2.E]]⟩ tI ?_
       cases h
       exact rt hQ
     . refine zF (test hc) ?_
       refine wn (Ai 3 []) ⟨[(2,tP s),(3,iP 0)],[[oT q,bP q1],[iP f.2.At,iP f.2.E]]⟩ tI ?_
       cases h
       exact rt hQ
 . intro hJ
   refine zz ?_
   refine zB ?_
   refine C9 [2,3,4,12,13,14] 1 (fun a:Nat×(Int×(List Ab)×Bool)=>CI a.1 l a.2.1 a.2.2.1 a.2.2.2=some y) (fun a=>a.1) (fun a:Nat×(Int×(List Ab)×Bool)=>match a with|(_,(v14,q2,q3))=>⟨[(2,tP ⟨#[]⟩),(3,iP 0),(4,.ptr 0 0),(12,hF l),(13,iP (l.length:Int)),(14,iP v14)],[[oT q2,bP q3]]⟩) (n,(0,[],false)) (lb rfl) rfl e ?_
   clear e
   rintro⟨n,v14,q2,q3⟩ e
   show WS _ _ _ _ _ ⟨[(2,tP ⟨#[]⟩),(3,iP 0),(4,.ptr 0 0),(12,hF l),(13,iP (l.length:Int)),(14,iP v14)],[[oT q2,bP q3]]⟩
   cases n with
   |zero=>exact absurd e (by simp [CI])
   |succ n =>
    replace e:=(CI.eq_2 (n:=n) _ _ _ _).symm.trans e
    refine zz ?_
    refine wn (Ai 1 []) ⟨[(2,tP ⟨#[]⟩),(3,iP 0),(4,.ptr 0 0),(12,hF l),(13,iP (l.length:Int)),(14,iP v14),(15,bP (decide (v14<(l.length:Int))))],[[oT q2,bP q3]]⟩ tI ?_
    rcases Ak e with⟨hc2,e⟩|⟨hc2,e⟩
    . refine zT (test hc2) ?_
      refine zB ?_
      obtain⟨x,hx,e⟩:=Ae e
      refine wn (.val (.vptr (kF x) 0)::(Ai 3 [])) ⟨[(2,tP ⟨#[]⟩),(3,iP 0),(4,.ptr 0 0),(6,.ptr 1 0),(12,hF l),(13,iP (l.length:Int)),(14,iP v14)],[[oT q2,bP q3],(kF x)]⟩ (aI (oi hx Az (A4 x)) tI) ?_
      obtain⟨f1,hf1,e⟩:=Ae e
      refine wn (Ai 2 (.meth (.tup []) (kR f1.2)::[])) ⟨[(2,tP ⟨#[]⟩),(3,iP 0),(4,.ptr 0 0),(12,hF l),(13,iP (l.length:Int)),(14,iP v14)],[(kR f1.2),(kF x)]⟩ (aI (IG n (Ag.mk q2 q3) x f1 hf1) tI) ?_
      refine wq (Ai 2 []) ⟨[(2,tP ⟨#[]⟩),(3,iP 0),(4,.ptr 0 0),(12,hF l),(13,iP (l.length:Int)),(14,iP (IntKind.i64.wrap (v14+1)))],[(kR f1.2),(kF x)]⟩ tI ?_
      exact zz (AQ (n,((IntKind.i64.wrap (v14+1)),f1.2.l,f1.2.bad)) rfl e (Nat.lt_succ_self _))
    . refine zF (test hc2) ?_
      try refine z5 rfl ?_
      exact zz (BN [2,3,4] 1 rfl (lb rfl) rfl (hJ (q2,q3) (Ac e)))
theorem Ha (n:Nat)(l:(List Af))(r:(ByteArray×Int))(h:Ds n l=some r):FC Tryz.prog 19 [hF l] (.tup [tP r.1,iP r.2]):=VC.fin (fun Q hQ=>Lk n l _ h Q hQ) rfl rfl
theorem IY (n:Nat)(e:Aa)(r:(ByteArray×Int))(h:Cw n e=some r)(Q:B7->List (List PV)->Prop)(hQ:∀ y,shareP y=.tup [tP r.1,iP r.2]->Q (.ret y) []) :
 VC Tryz.prog 21 [.agg (kX e)] [] Q:=by
 unfold Cw at h
 refine VC.intro ⟨[0,1,2,3,4,5,7,16,29],[]⟩ Tryz.func21 rfl follows Yt (by rw [Tryz.ntmps21];exact lb rfl) ?_
 refine B4 ?_
 refine zz ?_
 refine wn (Ai 3 []) ⟨[(1,.ptr 0 0),(2,tP ⟨#[]⟩),(3,iP 0)],[(kX e)]⟩ tI ?_
 refine wn (Ai 3 []) ⟨[(1,.ptr 0 0),(2,tP ⟨#[]⟩),(3,iP 0),(4,.ptr 1 0)],[(kX e),[.sl [] .own,bP false]]⟩ tI ?_
 obtain⟨e1,he1,h⟩:=Ae h
 refine wn (Ai 2 (.meth (.tup []) (kR e1.2)::[])) ⟨[(2,tP ⟨#[]⟩),(3,iP 0),(4,.ptr 1 0)],[(kX e),(kR e1.2)]⟩ (aI (Ft n (Ag.mk [] false) (Aa.mk e.Op e.N e.S e.Kids e.At) e1 he1) tI) ?_
 refine wn (Ai 4 []) ⟨[(2,tP ⟨#[]⟩),(3,iP 0),(4,.ptr 1 0),(16,bP e1.2.bad)],[(kX e),(kR e1.2)]⟩ tI ?_
 rcases Ak h with⟨hc1,h⟩|⟨hc1,h⟩
 . refine zT (test hc1) ?_
   refine wn (Ai 2 []) ⟨[(2,tP ⟨#[]⟩),(3,iP 1),(4,.ptr 1 0)],[(kX e),(kR e1.2)]⟩ tI ?_
   cases h
   exact rt hQ
 . refine zF (test hc1) ?_
   obtain⟨s,hs,h⟩:=Ae h
   refine wn (Ai 4 (.call (tP s)::(Ai 1 []))) ⟨[(2,tP ⟨#[]⟩),(3,iP 0),(5,tP s)],[(kX e),(kR e1.2)]⟩ (aI (Sz e1.2.l s hs) tI) ?_
   obtain⟨e2,he2,h⟩:=Ae h
   refine wn (Ai 1 (.call (.tup [.agg (kX e2.1),.agg [iP e2.2.At,iP e2.2.E]])::(Ai 7 []))) ⟨[(2,tP ⟨#[]⟩),(3,iP 0),(5,tP s),(7,.ptr 3 0)],[(kX e),(kR e1.2),(kX e2.1),[iP e2.2.At,iP e2.2.E]]⟩ (aI (Dn n s e2 he2) tI) ?_
   refine wn (Ai 3 []) ⟨[(2,tP ⟨#[]⟩),(3,iP 0),(5,tP s),(29,bP (e2.2.E != 0))],[(kX e),(kR e1.2),(kX e2.1),[iP e2.2.At,iP e2.2.E]]⟩ tI ?_
   rcases Ak h with⟨hc,h⟩|⟨hc,h⟩
   . refine zT (test hc) ?_
     refine wn (Ai 2 []) ⟨[(2,tP ⟨#[]⟩),(3,iP 2),(5,tP s)],[(kX e),(kR e1.2),(kX e2.1),[iP e2.2.At,iP e2.2.E]]⟩ tI ?_
     cases h
     exact rt hQ
   . refine zF (test hc) ?_
     refine wn (Ai 3 []) ⟨[(2,tP s),(3,iP 0)],[(kX e),(kR e1.2),(kX e2.1),[iP e2.2.At,iP e2.2.E]]⟩ tI ?_
     cases h
     exact rt hQ
theorem EE (n:Nat)(e:Aa)(r:(ByteArray×Int))(h:Cw n e=some r):FC Tryz.prog 21 [.agg (kX e)] (.tup [tP r.1,iP r.2]):=VC.fin (fun Q hQ=>IY n e _ h Q hQ) rfl rfl
end Go.Proofs.YtgdalmleogphgaaGreatDoor
namespace Go.Proofs.YtgdalmleogphgaaGreatDoor
open Go.RowKit Go.Q Go.Vl Go.Sp
set_option maxRecDepth 100000
set_option linter.unusedSimpArgs false
set_option linter.unusedVariables false
set_option maxHeartbeats 4000000
theorem Ki:AM [(14,[9999,0,0,1,2,3,4,5,6,7,8,9,10,11,12,13,15,16,17,14,18,19,20,21,22,23,24,25,26,27,28,29,30,32,31,33,34,35,36,37,38])] Tryz.f7.ntmps (Tryz.f7.body.getD .skip)=true:=by kernel_rfl
theorem KK (n:Nat)(r:Bool)(h:F1 n=some r)(Q:B7->List (List PV)->Prop)(hQ:∀ y,shareP y=bP r->Q (.ret y) []) :
 VC Tryz.prog 7 [] [] Q:=by
 unfold F1 at h
 refine VC.intro ⟨[0,1,2,3,4,5,6,7,8,9,10,11,12,13,14,15,16,18,20,22,24,90,157],[(14,[9999,0,0,1,2,3,4,5,6,7,8,9,10,11,12,13,15,16,17,14,18,19,20,21,22,23,24,25,26,27,28,29,30,32,31,33,34,35,36,37,38])]⟩ Tryz.func7 rfl follows Ki (by rw [Tryz.ntmps7];exact lb rfl) ?_
 refine B4 ?_
 refine zz ?_
 refine wn (Ai 1 []) ⟨[(0,bP false)],[]⟩ tI ?_
 obtain⟨f,hf,h⟩:=Ae h
 refine wn (.call (.tup [hF f.1,.agg [iP f.2.At,iP f.2.E]])::(Ai 6 [])) ⟨[(0,bP false),(1,hF f.1),(2,.ptr 0 0)],[[iP f.2.At,iP f.2.E]]⟩ (aI (DT n ⟨#[108,105,102,116,32,108,49,32,45,53,32,34,97,34,32,45,62,32,40,120,32,43,32,49,41,32,123,32,100,111,103,59,32,125]⟩ f hf) tI) ?_
 obtain⟨y,e,h⟩:=Ae h
 refine AJ (A:=Bool) (fun v=>v=y) (fun v90=>⟨[(0,bP false),(1,hF f.1),(90,bP v90)],[[iP f.2.At,iP f.2.E]]⟩) ?_ ?_
 . rintro v90 rfl
   show WS _ _ _ _ _ ⟨[(0,bP false),(1,hF f.1),(90,bP v90)],[[iP f.2.At,iP f.2.E]]⟩
   refine zz ?_
   rcases Ak h with⟨hc12,h⟩|⟨hc12,h⟩
   . refine zT (test hc12) ?_
     refine wn (Ai 1 []) ⟨[(0,bP false),(1,hF f.1)],[[iP f.2.At,iP f.2.E]]⟩ tI ?_
     cases h
     exact rt hQ
   . refine zF (test hc12) ?_
     refine wn (Ai 1 []) ⟨[(0,bP false),(1,hF f.1),(3,.fn 22 [])],[[iP f.2.At,iP f.2.E]]⟩ tI ?_
     refine wn (Ai 1 []) ⟨[(0,bP false),(1,hF f.1),(3,.fn 22 []),(4,.fn 23 [])],[[iP f.2.At,iP f.2.E]]⟩ tI ?_
     obtain⟨a_,ha_,h⟩:=Ae h
     refine wn (Ai 1 (.call (.agg (kX a_))::(Ai 2 []))) ⟨[(0,bP false),(1,hF f.1),(3,.fn 22 []),(4,.fn 23 []),(5,.ptr 1 0)],[[iP f.2.At,iP f.2.E],(kX a_)]⟩ (aI (Ef ⟨#[97]⟩ a_ ha_) tI) ?_
     obtain⟨b,hb,h⟩:=Ae h
     refine wn (Ai 1 (.call (.agg (kX b))::(Ai 2 []))) ⟨[(0,bP false),(1,hF f.1),(3,.fn 22 []),(4,.fn 23 []),(5,.ptr 1 0),(6,.ptr 2 0)],[[iP f.2.At,iP f.2.E],(kX a_),(kX b)]⟩ (aI (Ef ⟨#[98]⟩ b hb) tI) ?_
     obtain⟨c,hc,h⟩:=Ae h
     refine wn (Ai 1 (.call (.agg (kX c))::(Ai 2 []))) ⟨[(0,bP false),(1,hF f.1),(3,.fn 22 []),(4,.fn 23 []),(5,.ptr 1 0),(6,.ptr 2 0),(7,.ptr 3 0)],[[iP f.2.At,iP f.2.E],(kX a_),(kX b),(kX c)]⟩ (aI (Ef ⟨#[99]⟩ c hc) tI) ?_
     obtain⟨e1,he1,h⟩:=Ae h
     refine wn (.call (.tup [.agg (kX e1.1),.agg [iP e1.2.At,iP e1.2.E]])::(Ai 7 [])) ⟨[(0,bP false),(1,hF f.1),(3,.fn 22 []),(4,.fn 23 []),(5,.ptr 1 0),(6,.ptr 2 0),(7,.ptr 3 0),(8,.ptr 4 0),(9,.ptr 5 0)],[[iP f.2.At,iP f.2.E],(kX a_),(kX b),(kX c),(kX e1.1),[iP e1.2.At,iP e1.2.E]]⟩ (aI (Dn n ⟨#[97,32,45,32,98,32,45,32,99,32,42,32,45,100]⟩ e1 he1) tI) ?_
     obtain⟨e2,he2,h⟩:=Ae h
     refine wn (.call (.tup [.agg (kX e2.1),.agg [iP e2.2.At,iP e2.2.E]])::(Ai 7 [])) ⟨[(0,bP false),(1,hF f.1),(3,.fn 22 []),(4,.fn 23 []),(5,.ptr 1 0),(6,.ptr 2 0),(7,.ptr 3 0),(8,.ptr 4 0),(9,.ptr 5 0),(10,.ptr 6 0),(11,.ptr 7 0)],[[iP f.2.At,iP f.2.E],(kX a_),(kX b),(kX c),(kX e1.1),[iP e1.2.At,iP e1.2.E],(kX e2.1),[iP e2.2.At,iP e2.2.E]]⟩ (aI (Dn n ⟨#[33,97,32,61,61,32,98,32,63,32,102,40,49,44,32,50,41,32,58,32,40,97,32,60,32,98,41,32,61,61,32,99]⟩ e2 he2) tI) ?_
     obtain⟨s,hs,h⟩:=Ae h
     obtain⟨l,hl,h⟩:=Ae h
     have fb:([(kX s)]:List (List PV))=l.map AH:=by rw [<- Ac hl];simp only [List.map_cons,List.map_nil,AE]<;>rfl
     refine wn (Ai 1 (.call (.agg (kX s))::(.val (oX l)::(Ai 3 [])))) ⟨[(0,bP false),(1,hF f.1),(4,.fn 23 []),(5,.ptr 1 0),(6,.ptr 2 0),(7,.ptr 3 0),(8,.ptr 4 0),(9,.ptr 5 0),(10,.ptr 6 0),(11,.ptr 7 0),(12,.ptr 8 0)],[[iP f.2.At,iP f.2.E],(kX a_),(kX b),(kX c),(kX e1.1),[iP e1.2.At,iP e1.2.E],(kX e2.1),[iP e2.2.At,iP e2.2.E],[iP 6,iP 0,tP ⟨#[]⟩,hX l,iP 0]]⟩ (aI (Ef ⟨#[100]⟩ s hs) (aI (Cb rfl fb) tI)) ?_
     obtain⟨s1,hs1,h⟩:=Ae h
     obtain⟨l1,hl1,h⟩:=Ae h
     have fb1:([(kX s1)]:List (List PV))=l1.map AH:=by rw [<- Ac hl1];simp only [List.map_cons,List.map_nil,AE]<;>rfl
     refine wn (Ai 3 (.call (.agg (kX s1))::(.val (oX l1)::(Ai 3 [])))) ⟨[(0,bP false),(1,hF f.1),(4,.fn 23 []),(5,.ptr 1 0),(6,.ptr 2 0),(7,.ptr 3 0),(8,.ptr 4 0),(9,.ptr 5 0),(10,.ptr 6 0),(11,.ptr 7 0),(12,.ptr 8 0),(13,.ptr 9 0)],[[iP f.2.At,iP f.2.E],(kX a_),(kX b),(kX c),(kX e1.1),[iP e1.2.At,iP e1.2.E],(kX e2.1),[iP e2.2.At,iP e2.2.E],[iP 6,iP 0,tP ⟨#[]⟩,hX l,iP 0],[iP 5,iP 0,tP ⟨#[]⟩,hX l1,iP 0]]⟩ (aI (Cu 12 a_ b s1 hs1) (aI (Cb rfl fb1) tI)) ?_
     obtain⟨l2,hl2,h⟩:=Ae h
     have fb2:([[iP 1,iP 1,tP ⟨#[]⟩,.sl [] .shared,iP 0],[iP 1,iP 2,tP ⟨#[]⟩,.sl [] .shared,iP 0]]:List (List PV))=l2.map AH:=by rw [<- Ac hl2];simp only [List.map_cons,List.map_nil,AE]<;>rfl
     refine wn (Ai 2 (.val (oX l2)::(Ai 3 []))) ⟨[(0,bP false),(1,hF f.1),(4,.fn 23 []),(5,.ptr 1 0),(6,.ptr 2 0),(7,.ptr 3 0),(8,.ptr 4 0),(9,.ptr 5 0),(10,.ptr 6 0),(11,.ptr 7 0),(12,.ptr 8 0),(13,.ptr 9 0),(14,.ptr 10 0)],[[iP f.2.At,iP f.2.E],(kX a_),(kX b),(kX c),(kX e1.1),[iP e1.2.At,iP e1.2.E],(kX e2.1),[iP e2.2.At,iP e2.2.E],[iP 6,iP 0,tP ⟨#[]⟩,hX l,iP 0],[iP 5,iP 0,tP ⟨#[]⟩,hX l1,iP 0],[iP 4,iP 0,tP ⟨#[102]⟩,hX l2,iP 0]]⟩ (aI (Cb rfl fb2) tI) ?_
     obtain⟨y1,e3,h⟩:=Ae h
     refine AJ (A:=Bool) (fun v=>v=y1) (fun v157=>⟨[(0,bP false),(1,hF f.1),(5,.ptr 1 0),(6,.ptr 2 0),(10,.ptr 6 0),(157,bP v157)],[[iP f.2.At,iP f.2.E],(kX a_),(kX b),(kX c),(kX e1.1),[iP e1.2.At,iP e1.2.E],(kX e2.1),[iP e2.2.At,iP e2.2.E],[iP 6,iP 0,tP ⟨#[]⟩,hX l,iP 0],[iP 5,iP 0,tP ⟨#[]⟩,hX l1,iP 0],[iP 4,iP 0,tP ⟨#[102]⟩,hX l2,iP 0]]⟩) ?_ ?_
     . rintro v157 rfl
       show WS _ _ _ _ _ ⟨[(0,bP false),(1,hF f.1),(5,.ptr 1 0),(6,.ptr 2 0),(10,.ptr 6 0),(157,bP v157)],[[iP f.2.At,iP f.2.E],(kX a_),(kX b),(kX c),(kX e1.1),[iP e1.2.At,iP e1.2.E],(kX e2.1),[iP e2.2.At,iP e2.2.E],[iP 6,iP 0,tP ⟨#[]⟩,hX l,iP 0],[iP 5,iP 0,tP ⟨#[]⟩,hX l1,iP 0],[iP 4,iP 0,tP ⟨#[102]⟩,hX l2,iP 0]]⟩
       refine zz ?_
       rcases Ak h with⟨hc8,h⟩|⟨hc8,h⟩
       . refine zT (test hc8) ?_
         refine wn (Ai 1 []) ⟨[(0,bP false),(1,hF f.1),(5,.ptr 1 0),(6,.ptr 2 0),(10,.ptr 6 0)],[[iP f.2.At,iP f.2.E],(kX a_),(kX b),(kX c),(kX e1.1),[iP e1.2.At,iP e1.2.E],(kX e2.1),[iP e2.2.At,iP e2.2.E],[iP 6,iP 0,tP ⟨#[]⟩,hX l,iP 0],[iP 5,iP 0,tP ⟨#[]⟩,hX l1,iP 0],[iP 4,iP 0,tP ⟨#[102]⟩,hX l2,iP 0]]⟩ tI ?_
         cases h
         exact rt hQ
       . refine zF (test hc8) ?_
         obtain⟨p,hp,h⟩:=Ae h
         refine wn (Ai 1 (.call (.tup [tP p.1,iP p.2])::(Ai 5 []))) ⟨[(0,bP false),(1,hF f.1),(5,.ptr 1 0),(6,.ptr 2 0),(15,tP p.1),(16,iP p.2)],[[iP f.2.At,iP f.2.E],(kX a_),(kX b),(kX c),(kX e1.1),[iP e1.2.At,iP e1.2.E],(kX e2.1),[iP e2.2.At,iP e2.2.E],[iP 6,iP 0,tP ⟨#[]⟩,hX l,iP 0],[iP 5,iP 0,tP ⟨#[]⟩,hX l1,iP 0],[iP 4,iP 0,tP ⟨#[102]⟩,hX l2,iP 0]]⟩ (aI (EE n e2.1 p hp) tI) ?_
         obtain⟨e4,he4,h⟩:=Ae h
         refine wn (.call (.tup [.agg (kX e4.1),.agg [iP e4.2.At,iP e4.2.E]])::(Ai 7 [])) ⟨[(0,bP false),(1,hF f.1),(5,.ptr 1 0),(6,.ptr 2 0),(15,tP p.1),(16,iP p.2),(18,.ptr 12 0)],[[iP f.2.At,iP f.2.E],(kX a_),(kX b),(kX c),(kX e1.1),[iP e1.2.At,iP e1.2.E],(kX e2.1),[iP e2.2.At,iP e2.2.E],[iP 6,iP 0,tP ⟨#[]⟩,hX l,iP 0],[iP 5,iP 0,tP ⟨#[]⟩,hX l1,iP 0],[iP 4,iP 0,tP ⟨#[102]⟩,hX l2,iP 0],(kX e4.1),[iP e4.2.At,iP e4.2.E]]⟩ (aI (Dn n ⟨#[97,32,60,32,98,32,60,32,99]⟩ e4 he4) tI) ?_
         obtain⟨e5,he5,h⟩:=Ae h
         refine wn (.call (.tup [.agg (kX e5.1),.agg [iP e5.2.At,iP e5.2.E]])::(Ai 7 [])) ⟨[(0,bP false),(1,hF f.1),(5,.ptr 1 0),(6,.ptr 2 0),(15,tP p.1),(16,iP p.2),(18,.ptr 12 0),(20,.ptr 14 0)],[[iP f.2.At,iP f.2.E],(kX a_),(kX b),(kX c),(kX e1.1),[iP e1.2.At,iP e1.2.E],(kX e2.1),[iP e2.2.At,iP e2.2.E],[iP 6,iP 0,tP ⟨#[]⟩,hX l,iP 0],[iP 5,iP 0,tP ⟨#[]⟩,hX l1,iP 0],[iP 4,iP 0,tP ⟨#[102]⟩,hX l2,iP 0],(kX e4.1),[iP e4.2.At,iP e4.2.E],(kX e5.1),[iP e5.2.At,iP e5.2.E]]⟩ (aI (Dn n ⟨#[97,32,98]⟩ e5 he5) tI) ?_
         obtain⟨e6,he6,h⟩:=Ae h
         refine wn (.call (.tup [.agg (kX e6.1),.agg [iP e6.2.At,iP e6.2.E]])::(Ai 7 [])) ⟨[(0,bP false),(1,hF f.1),(5,.ptr 1 0),(6,.ptr 2 0),(15,tP p.1),(16,iP p.2),(18,.ptr 12 0),(20,.ptr 14 0),(22,.ptr 16 0)],[[iP f.2.At,iP f.2.E],(kX a_),(kX b),(kX c),(kX e1.1),[iP e1.2.At,iP e1.2.E],(kX e2.1),[iP e2.2.At,iP e2.2.E],[iP 6,iP 0,tP ⟨#[]⟩,hX l,iP 0],[iP 5,iP 0,tP ⟨#[]⟩,hX l1,iP 0],[iP 4,iP 0,tP ⟨#[102]⟩,hX l2,iP 0],(kX e4.1),[iP e4.2.At,iP e4.2.E],(kX e5.1),[iP e5.2.At,iP e5.2.E],(kX e6.1),[iP e6.2.At,iP e6.2.E]]⟩ (aI (Dn n ⟨#[120,32,40]⟩ e6 he6) tI) ?_
         obtain⟨f1,hf1,h⟩:=Ae h
         refine wn (.call (.tup [hF f1.1,.agg [iP f1.2.At,iP f1.2.E]])::(Ai 6 [])) ⟨[(0,bP false),(1,hF f.1),(5,.ptr 1 0),(6,.ptr 2 0),(15,tP p.1),(16,iP p.2),(18,.ptr 12 0),(20,.ptr 14 0),(22,.ptr 16 0),(24,.ptr 17 0)],[[iP f.2.At,iP f.2.E],(kX a_),(kX b),(kX c),(kX e1.1),[iP e1.2.At,iP e1.2.E],(kX e2.1),[iP e2.2.At,iP e2.2.E],[iP 6,iP 0,tP ⟨#[]⟩,hX l,iP 0],[iP 5,iP 0,tP ⟨#[]⟩,hX l1,iP 0],[iP 4,iP 0,tP ⟨#[102]⟩,hX l2,iP 0],(kX e4.1),[iP e4.2.At,iP e4.2.E],(kX e5.1),[iP e5.2.At,iP e5.2.E],(kX e6.1),[iP e6.2.At,iP e6.2.E],[iP f1.2.At,iP f1.2.E]]⟩ (aI (DT n ⟨#[120,32,45,32,121,59]⟩ f1 hf1) tI) ?_
         obtain⟨y2,e7,h⟩:=Ae h
         refine AJ (A:=Bool) (fun v=>v=y2) (fun v0_=>⟨[(0,bP v0_)],[[iP f.2.At,iP f.2.E],(kX a_),(kX b),(kX c),(kX e1.1),[iP e1.2.At,iP e1.2.E],(kX e2.1),[iP e2.2.At,iP e2.2.E],[iP 6,iP 0,tP ⟨#[]⟩,hX l,iP 0],[iP 5,iP 0,tP ⟨#[]⟩,hX l1,iP 0],[iP 4,iP 0,tP ⟨#[102]⟩,hX l2,iP 0],(kX e4.1),[iP e4.2.At,iP e4.2.E],(kX e5.1),[iP e5.2.At,iP e5.2.E],(kX e6.1),[iP e6.2.At,iP e6.2.E],[iP f1.2.At,iP f1.2.E]]⟩) ?_ ?_
         . rintro v0_ rfl
           show WS _ _ _ _ _ ⟨[(0,bP v0_)],[[iP f.2.At,iP f.2.E],(kX a_),(kX b),(kX c),(kX e1.1),[iP e1.2.At,iP e1.2.E],(kX e2.1),[iP e2.2.At,iP e2.2.E],[iP 6,iP 0,tP ⟨#[]⟩,hX l,iP 0],[iP 5,iP 0,tP ⟨#[]⟩,hX l1,iP 0],[iP 4,iP 0,tP ⟨#[102]⟩,hX l2,iP 0],(kX e4.1),[iP e4.2.At,iP e4.2.E],(kX e5.1),[iP e5.2.At,iP e5.2.E],(kX e6.1),[iP e6.2.At,iP e6.2.E],[iP f1.2.At,iP f1.2.E]]⟩
           refine zz ?_
           cases h
           exact rt hQ
         . intro hJ2
           rcases Ak e7 with⟨hc1,e7⟩|⟨hc1,e7⟩
           . rcases Ak e7 with⟨hc2,e7⟩|⟨hc2,e7⟩
             . rcases Ak e7 with⟨hc3,e7⟩|⟨hc3,e7⟩
               . rcases Ak e7 with⟨hc4,e7⟩|⟨hc4,e7⟩
                 . rcases Ak e7 with⟨hc5,e7⟩|⟨hc5,e7⟩
                   . rcases Ak e7 with⟨hc6,e7⟩|⟨hc6,e7⟩
                     . obtain⟨s2,hs2,e7⟩:=Ae e7
                       rcases Ak e7 with⟨hc7,e7⟩|⟨hc7,e7⟩
                       . obtain⟨s3,hs3,e7⟩:=Ae e7
                         exact wq (Ai 2 (yT::(Ai 3 (yT::(Ai 4 (yT::(Ai 4 (yT::(Ai 4 (yT::(Ai 4 (yT::(Ai 2 (.call (bP s2)::(Ai 1 (yT::(Ai 2 (.call (bP s3)::(Ai 3 []))))))))))))))))))) _ (aI (Aw hc1) (aI (Aw hc2) (aI (Aw hc3) (aI (Aw hc4) (aI (Aw hc5) (aI (Aw hc6) (aI (Gk n f.1 f.1 s2 hs2) (aI (Aw hc7) (aI (CP n a_ b s3 hs3) tI))))))))) (hJ2 (!s3) (Ac e7))
                       . exact wq (Ai 2 (yT::(Ai 3 (yT::(Ai 4 (yT::(Ai 4 (yT::(Ai 4 (yT::(Ai 4 (yT::(Ai 2 (.call (bP s2)::(Ai 1 (yF::(Ai 6 []))))))))))))))))) _ (aI (Aw hc1) (aI (Aw hc2) (aI (Aw hc3) (aI (Aw hc4) (aI (Aw hc5) (aI (Aw hc6) (aI (Gk n f.1 f.1 s2 hs2) (aI (Aw hc7) tI)))))))) (hJ2 false (Ac e7))
                     . exact wq (Ai 2 (yT::(Ai 3 (yT::(Ai 4 (yT::(Ai 4 (yT::(Ai 4 (yT::(Ai 4 (yF::(Ai 11 []))))))))))))) _ (aI (Aw hc1) (aI (Aw hc2) (aI (Aw hc3) (aI (Aw hc4) (aI (Aw hc5) (aI (Aw hc6) tI)))))) (hJ2 false (Ac e7))
                   . exact wq (Ai 2 (yT::(Ai 3 (yT::(Ai 4 (yT::(Ai 4 (yT::(Ai 4 (yF::(Ai 16 []))))))))))) _ (aI (Aw hc1) (aI (Aw hc2) (aI (Aw hc3) (aI (Aw hc4) (aI (Aw hc5) tI))))) (hJ2 false (Ac e7))
                 . exact wq (Ai 2 (yT::(Ai 3 (yT::(Ai 4 (yT::(Ai 4 (yF::(Ai 21 []))))))))) _ (aI (Aw hc1) (aI (Aw hc2) (aI (Aw hc3) (aI (Aw hc4) tI)))) (hJ2 false (Ac e7))
               . exact wq (Ai 2 (yT::(Ai 3 (yT::(Ai 4 (yF::(Ai 26 []))))))) _ (aI (Aw hc1) (aI (Aw hc2) (aI (Aw hc3) tI))) (hJ2 false (Ac e7))
             . exact wq (Ai 2 (yT::(Ai 3 (yF::(Ai 31 []))))) _ (aI (Aw hc1) (aI (Aw hc2) tI)) (hJ2 false (Ac e7))
           . exact wq (Ai 2 (yF::(Ai 35 []))) _ (aI (Aw hc1) tI) (hJ2 false (Ac e7))
     . intro hJ1
       rcases Ak e3 with⟨hc9,e3⟩|⟨hc9,e3⟩
       . exact Rt [] [0,1,2,3,4,5,6,7,8,9,10,11,12,13,15,16,17,14,18,19,20,21,22,23,24,25,26,27,28,29,30,32,31,33,34,35,36,37,38] (Ai 3 (yT::(Ai 35 []))) _ (aI (Aw hc9) tI) (hJ1 true (Ac e3))
       . rcases Ak e3 with⟨hc10,e3⟩|⟨hc10,e3⟩
         . exact Rt [] [0,1,2,3,4,5,6,7,8,9,10,11,12,13,15,16,17,14,18,19,20,21,22,23,24,25,26,27,28,29,30,32,31,33,34,35,36,37,38] (Ai 3 (yF::(Ai 4 (yT::(Ai 30 []))))) _ (aI (Aw hc9) (aI (Aw hc10) tI)) (hJ1 true (Ac e3))
         . obtain⟨s4,hs4,e3⟩:=Ae e3
           obtain⟨s5,hs5,e3⟩:=Ae e3
           obtain⟨s6,hs6,e3⟩:=Ae e3
           obtain⟨s7,hs7,e3⟩:=Ae e3
           rcases Ak e3 with⟨hc11,e3⟩|⟨hc11,e3⟩
           . exact Rt [] [0,1,2,3,4,5,6,7,8,9,10,11,12,13,15,16,17,14,18,19,20,21,22,23,24,25,26,27,28,29,30,32,31,33,34,35,36,37,38] (Ai 3 (yF::(Ai 4 (yF::(Ai 8 (.call (.agg (kX s4))::(.call (.agg (kX s5))::(.call (.agg (kX s6))::(.call (bP s7)::(Ai 2 (yT::(Ai 15 [])))))))))))) _ (aI (Aw hc9) (aI (Aw hc10) (aI (Cu 11 a_ b s4 hs4) (aI (Cu 7 c (Aa.mk 6 0 ⟨#[]⟩ l 0) s5 hs5) (aI (Cu 11 s4 s5 s6 hs6) (aI (CP n e1.1 s6 s7 hs7) (aI (Aw hc11) tI))))))) (hJ1 true (Ac e3))
           . obtain⟨s8,hs8,e3⟩:=Ae e3
             obtain⟨s9,hs9,e3⟩:=Ae e3
             obtain⟨l3,hl3,e3⟩:=Ae e3
             have fb3:([[iP 5,iP 0,tP ⟨#[]⟩,hX l1,iP 0],[iP 4,iP 0,tP ⟨#[102]⟩,hX l2,iP 0],(kX s9)]:List (List PV))=l3.map AH:=by rw [<- Ac hl3];simp only [List.map_cons,List.map_nil,AE]<;>rfl
             obtain⟨s10,hs10,e3⟩:=Ae e3
             exact Rt [] [0,1,2,3,4,5,6,7,8,9,10,11,12,13,15,16,17,14,18,19,20,21,22,23,24,25,26,27,28,29,30,32,31,33,34,35,36,37,38] (Ai 3 (yF::(Ai 4 (yF::(Ai 8 (.call (.agg (kX s4))::(.call (.agg (kX s5))::(.call (.agg (kX s6))::(.call (bP s7)::(Ai 2 (yF::(Ai 8 (.call (.agg (kX s8))::(.call (.agg (kX s9))::(.val (oX l3)::(Ai 1 (.call (bP s10)::(Ai 2 [])))))))))))))))))) _ (aI (Aw hc9) (aI (Aw hc10) (aI (Cu 11 a_ b s4 hs4) (aI (Cu 7 c (Aa.mk 6 0 ⟨#[]⟩ l 0) s5 hs5) (aI (Cu 11 s4 s5 s6 hs6) (aI (CP n e1.1 s6 s7 hs7) (aI (Aw hc11) (aI (Cu 14 a_ b s8 hs8) (aI (Cu 12 s8 c s9 hs9) (aI (Cb rfl fb3) (aI (CP n e2.1 (Aa.mk 20 0 ⟨#[]⟩ l3 0) s10 hs10) tI))))))))))) (hJ1 (!s10) (Ac e3))
 . intro hJ
   rcases Ak e with⟨hc13,e⟩|⟨hc13,e⟩
   . exact wq (Ai 3 (yT::(Ai 58 []))) _ (aI (Aw hc13) tI) (hJ true (Ac e))
   . rcases Ak e with⟨hc14,e⟩|⟨hc14,e⟩
     . exact wq (Ai 3 (yF::(Ai 1 (.val (iP (f.1.length:Int))::(Ai 2 (yT::(Ai 53 []))))))) _ (aI (Aw hc13) (aI (CV f.1 AD) (aI (Aw hc14) tI))) (hJ true (Ac e))
     . obtain⟨x,hx,e⟩:=Ae e
       rcases Ak e with⟨hc15,e⟩|⟨hc15,e⟩
       . exact wq (Ai 3 (yF::(Ai 1 (.val (iP (f.1.length:Int))::(Ai 2 (yF::(Ai 1 (.val (.vptr (kF x) 0)::(Ai 4 (yT::(Ai 46 []))))))))))) _ (aI (Aw hc13) (aI (CV f.1 AD) (aI (Aw hc14) (aI (oi hx Az (A4 x)) (aI (Aw hc15) tI))))) (hJ true (Ac e))
       . rcases Ak e with⟨hc16,e⟩|⟨hc16,e⟩
         . exact wq (Ai 3 (yF::(Ai 1 (.val (iP (f.1.length:Int))::(Ai 2 (yF::(Ai 1 (.val (.vptr (kF x) 0)::(Ai 4 (yF::(Ai 1 (.val (.vptr (kF x) 0)::(Ai 2 (.val (iP (x.Args.length:Int))::(Ai 2 (yT::(Ai 38 []))))))))))))))))) _ (aI (Aw hc13) (aI (CV f.1 AD) (aI (Aw hc14) (aI (oi hx Az (A4 x)) (aI (Aw hc15) (aI (oi hx Az (A4 x)) (aI (CV x.Args Bt) (aI (Aw hc16) tI)))))))) (hJ true (Ac e))
         . rcases Ak e with⟨hc17,e⟩|⟨hc17,e⟩
           . exact wq (Ai 3 (yF::(Ai 1 (.val (iP (f.1.length:Int))::(Ai 2 (yF::(Ai 1 (.val (.vptr (kF x) 0)::(Ai 4 (yF::(Ai 1 (.val (.vptr (kF x) 0)::(Ai 2 (.val (iP (x.Args.length:Int))::(Ai 2 (yF::(Ai 1 (.val (.vptr (kF x) 0)::(Ai 2 (.val (iP (x.Body.length:Int))::(Ai 2 (yT::(Ai 30 []))))))))))))))))))))))) _ (aI (Aw hc13) (aI (CV f.1 AD) (aI (Aw hc14) (aI (oi hx Az (A4 x)) (aI (Aw hc15) (aI (oi hx Az (A4 x)) (aI (CV x.Args Bt) (aI (Aw hc16) (aI (oi hx Az (A4 x)) (aI (CV x.Body AD) (aI (Aw hc17) tI))))))))))) (hJ true (Ac e))
           . obtain⟨x1,hx1,e⟩:=Ae e
             rcases Ak e with⟨hc18,e⟩|⟨hc18,e⟩
             . exact wq (Ai 3 (yF::(Ai 1 (.val (iP (f.1.length:Int))::(Ai 2 (yF::(Ai 1 (.val (.vptr (kF x) 0)::(Ai 4 (yF::(Ai 1 (.val (.vptr (kF x) 0)::(Ai 2 (.val (iP (x.Args.length:Int))::(Ai 2 (yF::(Ai 1 (.val (.vptr (kF x) 0)::(Ai 2 (.val (iP (x.Body.length:Int))::(Ai 2 (yF::(Ai 1 (.val (.vptr (kF x) 0)::(Ai 2 (.val (.vptr (kA x1) 0)::(Ai 4 (yT::(Ai 20 []))))))))))))))))))))))))))))) _ (aI (Aw hc13) (aI (CV f.1 AD) (aI (Aw hc14) (aI (oi hx Az (A4 x)) (aI (Aw hc15) (aI (oi hx Az (A4 x)) (aI (CV x.Args Bt) (aI (Aw hc16) (aI (oi hx Az (A4 x)) (aI (CV x.Body AD) (aI (Aw hc17) (aI (oi hx Az (A4 x)) (aI (oi hx1 B5 (BG x1)) (aI (Aw hc18) tI)))))))))))))) (hJ true (Ac e))
             . obtain⟨x2,hx2,e⟩:=Ae e
               rcases Ak e with⟨hc19,e⟩|⟨hc19,e⟩
               . exact wq (Ai 3 (yF::(Ai 1 (.val (iP (f.1.length:Int))::(Ai 2 (yF::(Ai 1 (.val (.vptr (kF x) 0)::(Ai 4 (yF::(Ai 1 (.val (.vptr (kF x) 0)::(Ai 2 (.val (iP (x.Args.length:Int))::(Ai 2 (yF::(Ai 1 (.val (.vptr (kF x) 0)::(Ai 2 (.val (iP (x.Body.length:Int))::(Ai 2 (yF::(Ai 1 (.val (.vptr (kF x) 0)::(Ai 2 (.val (.vptr (kA x1) 0)::(Ai 4 (yF::(Ai 1 (.val (.vptr (kF x) 0)::(Ai 2 (.val (.vptr (kA x2) 0)::(Ai 4 (yT::(Ai 10 []))))))))))))))))))))))))))))))))))) _ (aI (Aw hc13) (aI (CV f.1 AD) (aI (Aw hc14) (aI (oi hx Az (A4 x)) (aI (Aw hc15) (aI (oi hx Az (A4 x)) (aI (CV x.Args Bt) (aI (Aw hc16) (aI (oi hx Az (A4 x)) (aI (CV x.Body AD) (aI (Aw hc17) (aI (oi hx Az (A4 x)) (aI (oi hx1 B5 (BG x1)) (aI (Aw hc18) (aI (oi hx Az (A4 x)) (aI (oi hx2 B5 (BG x2)) (aI (Aw hc19) tI))))))))))))))))) (hJ true (Ac e))
               . obtain⟨x3,hx3,e⟩:=Ae e
                 exact wq (Ai 3 (yF::(Ai 1 (.val (iP (f.1.length:Int))::(Ai 2 (yF::(Ai 1 (.val (.vptr (kF x) 0)::(Ai 4 (yF::(Ai 1 (.val (.vptr (kF x) 0)::(Ai 2 (.val (iP (x.Args.length:Int))::(Ai 2 (yF::(Ai 1 (.val (.vptr (kF x) 0)::(Ai 2 (.val (iP (x.Body.length:Int))::(Ai 2 (yF::(Ai 1 (.val (.vptr (kF x) 0)::(Ai 2 (.val (.vptr (kA x1) 0)::(Ai 4 (yF::(Ai 1 (.val (.vptr (kF x) 0)::(Ai 2 (.val (.vptr (kA x2) 0)::(Ai 4 (yF::(Ai 1 (.val (.vptr (kF x) 0)::(Ai 2 (.val (.vptr (kA x3) 0)::(Ai 5 []))))))))))))))))))))))))))))))))))))))) _ (aI (Aw hc13) (aI (CV f.1 AD) (aI (Aw hc14) (aI (oi hx Az (A4 x)) (aI (Aw hc15) (aI (oi hx Az (A4 x)) (aI (CV x.Args Bt) (aI (Aw hc16) (aI (oi hx Az (A4 x)) (aI (CV x.Body AD) (aI (Aw hc17) (aI (oi hx Az (A4 x)) (aI (oi hx1 B5 (BG x1)) (aI (Aw hc18) (aI (oi hx Az (A4 x)) (aI (oi hx2 B5 (BG x2)) (aI (Aw hc19) (aI (oi hx Az (A4 x)) (aI (oi hx3 B5 (BG x3)) tI))))))))))))))))))) (hJ (x3.E.Op != 10) (Ac e))
theorem M1 (n:Nat)(r:Bool)(h:F1 n=some r):FC Tryz.prog 7 [] (bP r):=VC.fin (fun Q hQ=>KK n _ h Q hQ) rfl rfl
theorem MG (r:Bool)(h:ON=some r):FC Tryz.prog 7 [] (bP r):=M1 60 r h
end Go.Proofs.YtgdalmleogphgaaGreatDoor
namespace Go.Proofs.YtgdalmleogphgaaGreatDoor
open Go.RowKit Go.Q Go.Vl Go.Sp
set_option maxRecDepth 100000
set_option linter.unusedSimpArgs false
set_option linter.unusedVariables false
set_option maxHeartbeats 4000000
theorem GD (n:Nat)(l:(List Af))(x:Aa)(src:ByteArray)(r:Bool)(h:BT n l x src=some r)(Q:B7->List (List PV)->Prop)(hQ:∀ y,shareP y=bP r->Q (.ret y) []) :
 VC Tryz.prog 6 [hF l,.agg (kX x),tP src] [] Q:=by
 unfold BT at h
 refine VC.intro ⟨[0,1,2,4,6,7,8,9,10,11,12,13,14,15,16,17,18,19,20,21,22,23,24,25,26,27,28,41,49,63,70,84,92,129,137],[]⟩ Tryz.func6 rfl follows YL (by rw [Tryz.ntmps6];exact lb rfl) ?_
 refine B4 ?_
 refine zz ?_
 refine wn (Ai 2 []) ⟨[(0,hF l),(2,tP src),(4,.ptr 0 0),(6,bP false)],[(kX x)]⟩ tI ?_
 obtain⟨y,e,h⟩:=Ae h
 refine AJ (A:=Bool) (fun v=>v=y) (fun v41=>⟨[(0,hF l),(2,tP src),(4,.ptr 0 0),(6,bP false),(41,bP v41)],[(kX x)]⟩) ?_ ?_
 . rintro v41 rfl
   show WS _ _ _ _ _ ⟨[(0,hF l),(2,tP src),(4,.ptr 0 0),(6,bP false),(41,bP v41)],[(kX x)]⟩
   refine zz ?_
   rcases Ak h with⟨hc16,h⟩|⟨hc16,h⟩
   . refine zT (test hc16) ?_
     obtain⟨s,hs,h⟩:=Ae h
     refine wn (.call (bP s)::(Ai 1 [])) ⟨[(0,hF l),(2,tP src),(4,.ptr 0 0),(6,bP s)],[(kX x)]⟩ (aI (MG s hs) tI) ?_
     cases h
     exact rt hQ
   . refine zF (test hc16) ?_
     obtain⟨p,hp,h⟩:=Ae h
     refine wn (Ai 1 (.call (.tup [tP p.1,iP p.2])::(Ai 5 []))) ⟨[(0,hF l),(2,tP src),(4,.ptr 0 0),(6,bP false),(7,tP p.1),(8,iP p.2)],[(kX x)]⟩ (aI (Ha n l p hp) tI) ?_
     refine wn (Ai 2 []) ⟨[(0,hF l),(2,tP src),(4,.ptr 0 0),(6,bP false),(7,tP p.1),(49,bP (p.2 == 0))],[(kX x)]⟩ tI ?_
     obtain⟨y1,e1,h⟩:=Ae h
     refine AJ (A:=Unit) (fun v=>.inl v=y1) (fun _=>⟨[(2,tP src),(4,.ptr 0 0),(6,bP false)],[(kX x)]⟩) ?_ ?_
     . rintro _ rfl
       show WS _ _ _ _ _ ⟨[(2,tP src),(4,.ptr 0 0),(6,bP false)],[(kX x)]⟩
       refine zz ?_
       obtain⟨p1,hp1,h⟩:=Ae h
       refine wn (Ai 1 (.call (.tup [tP p1.1,iP p1.2])::(Ai 5 []))) ⟨[(2,tP src),(4,.ptr 0 0),(6,bP false),(11,tP p1.1),(12,iP p1.2)],[(kX x)]⟩ (aI (EE n x p1 hp1) tI) ?_
       refine wn (Ai 2 []) ⟨[(2,tP src),(4,.ptr 0 0),(6,bP false),(11,tP p1.1),(70,bP (p1.2 == 0))],[(kX x)]⟩ tI ?_
       obtain⟨y2,e2,h⟩:=Ae h
       refine AJ (A:=Unit) (fun v=>.inl v=y2) (fun _=>⟨[(2,tP src),(6,bP false)],[(kX x)]⟩) ?_ ?_
       . rintro _ rfl
         show WS _ _ _ _ _ ⟨[(2,tP src),(6,bP false)],[(kX x)]⟩
         refine zz ?_
         obtain⟨f,hf,h⟩:=Ae h
         refine wn (Ai 1 (.call (.tup [hF f.1,.agg [iP f.2.At,iP f.2.E]])::(Ai 6 []))) ⟨[(2,tP src),(6,bP false),(15,hF f.1),(16,.ptr 1 0)],[(kX x),[iP f.2.At,iP f.2.E]]⟩ (aI (DT n src f hf) tI) ?_
         refine wn (Ai 3 []) ⟨[(2,tP src),(6,bP false),(15,hF f.1),(92,bP (f.2.E == 0))],[(kX x),[iP f.2.At,iP f.2.E]]⟩ tI ?_
         obtain⟨y3,e3,h⟩:=Ae h
         refine AJ (A:=Unit) (fun v=>.inl v=y3) (fun _=>⟨[(2,tP src),(6,bP false)],[(kX x),[iP f.2.At,iP f.2.E]]⟩) ?_ ?_
         . rintro _ rfl
           show WS _ _ _ _ _ ⟨[(2,tP src),(6,bP false)],[(kX x),[iP f.2.At,iP f.2.E]]⟩
           refine zz ?_
           obtain⟨e4,he4,h⟩:=Ae h
           refine wn (Ai 1 (.call (.tup [.agg (kX e4.1),.agg [iP e4.2.At,iP e4.2.E]])::(Ai 7 []))) ⟨[(6,bP false),(23,.ptr 2 0),(24,.ptr 3 0)],[(kX x),[iP f.2.At,iP f.2.E],(kX e4.1),[iP e4.2.At,iP e4.2.E]]⟩ (aI (Dn n src e4 he4) tI) ?_
           refine wn (Ai 3 []) ⟨[(6,bP false),(23,.ptr 2 0),(137,bP (e4.2.E != 0))],[(kX x),[iP f.2.At,iP f.2.E],(kX e4.1),[iP e4.2.At,iP e4.2.E]]⟩ tI ?_
           rcases Ak h with⟨hc3,h⟩|⟨hc3,h⟩
           . refine zT (test hc3) ?_
             obtain⟨s1,hs1,h⟩:=Ae h
             refine wn (.call (bP s1)::(Ai 1 [])) ⟨[(6,bP s1),(23,.ptr 2 0)],[(kX x),[iP f.2.At,iP f.2.E],(kX e4.1),[iP e4.2.At,iP e4.2.E]]⟩ (aI (MG s1 hs1) tI) ?_
             cases h
             exact rt hQ
           . refine zF (test hc3) ?_
             obtain⟨p2,hp2,h⟩:=Ae h
             refine wn (Ai 1 (.call (.tup [tP p2.1,iP p2.2])::(Ai 5 []))) ⟨[(6,bP false),(23,.ptr 2 0),(25,tP p2.1),(26,iP p2.2)],[(kX x),[iP f.2.At,iP f.2.E],(kX e4.1),[iP e4.2.At,iP e4.2.E]]⟩ (aI (EE n e4.1 p2 hp2) tI) ?_
             obtain⟨e5,he5,h⟩:=Ae h
             refine wn (Ai 1 (.call (.tup [.agg (kX e5.1),.agg [iP e5.2.At,iP e5.2.E]])::(Ai 7 []))) ⟨[(6,bP false),(23,.ptr 2 0),(26,iP p2.2),(27,.ptr 4 0),(28,.ptr 5 0)],[(kX x),[iP f.2.At,iP f.2.E],(kX e4.1),[iP e4.2.At,iP e4.2.E],(kX e5.1),[iP e5.2.At,iP e5.2.E]]⟩ (aI (Dn n p2.1 e5 he5) tI) ?_
             obtain⟨y4,e6,h⟩:=Ae h
             refine AJ (A:=Bool) (fun v=>v=y4) (fun v6=>⟨[(6,bP v6)],[(kX x),[iP f.2.At,iP f.2.E],(kX e4.1),[iP e4.2.At,iP e4.2.E],(kX e5.1),[iP e5.2.At,iP e5.2.E]]⟩) ?_ ?_
             . rintro v6 rfl
               show WS _ _ _ _ _ ⟨[(6,bP v6)],[(kX x),[iP f.2.At,iP f.2.E],(kX e4.1),[iP e4.2.At,iP e4.2.E],(kX e5.1),[iP e5.2.At,iP e5.2.E]]⟩
               refine zz ?_
               cases h
               exact rt hQ
             . intro hJ4
               obtain⟨s2,hs2,e6⟩:=Ae e6
               rcases Ak e6 with⟨hc,e6⟩|⟨hc,e6⟩
               . rcases Ak e6 with⟨hc1,e6⟩|⟨hc1,e6⟩
                 . rcases Ak e6 with⟨hc2,e6⟩|⟨hc2,e6⟩
                   . obtain⟨s3,hs3,e6⟩:=Ae e6
                     exact wq (.call (bP s2)::(yT::(Ai 3 (yT::(Ai 4 (yT::(Ai 2 (.call (bP s3)::(Ai 2 []))))))))) _ (aI (MG s2 hs2) (aI (Aw hc) (aI (Aw hc1) (aI (Aw hc2) (aI (CP n e4.1 e5.1 s3 hs3) tI))))) (hJ4 s3 (Ac e6))
                   . exact wq (.call (bP s2)::(yT::(Ai 3 (yT::(Ai 4 (yF::(Ai 5 []))))))) _ (aI (MG s2 hs2) (aI (Aw hc) (aI (Aw hc1) (aI (Aw hc2) tI)))) (hJ4 false (Ac e6))
                 . exact wq (.call (bP s2)::(yT::(Ai 3 (yF::(Ai 10 []))))) _ (aI (MG s2 hs2) (aI (Aw hc) (aI (Aw hc1) tI))) (hJ4 false (Ac e6))
               . exact wq (.call (bP s2)::(yF::(Ai 14 []))) _ (aI (MG s2 hs2) (aI (Aw hc) tI)) (hJ4 false (Ac e6))
         . intro hJ3
           refine zz ?_
           rcases Ak e3 with⟨hc9,e3⟩|⟨hc9,e3⟩
           . refine zT (test hc9) ?_
             obtain⟨p3,hp3,e3⟩:=Ae e3
             refine wn (Ai 1 (.call (.tup [tP p3.1,iP p3.2])::(Ai 5 []))) ⟨[(2,tP src),(6,bP false),(15,hF f.1),(17,tP p3.1),(18,iP p3.2)],[(kX x),[iP f.2.At,iP f.2.E]]⟩ (aI (Ha n f.1 p3 hp3) tI) ?_
             obtain⟨f1,hf1,e3⟩:=Ae e3
             refine wn (Ai 1 (.call (.tup [hF f1.1,.agg [iP f1.2.At,iP f1.2.E]])::(Ai 6 []))) ⟨[(2,tP src),(6,bP false),(15,hF f.1),(17,tP p3.1),(18,iP p3.2),(19,hF f1.1),(20,.ptr 2 0)],[(kX x),[iP f.2.At,iP f.2.E],[iP f1.2.At,iP f1.2.E]]⟩ (aI (DT n p3.1 f1 hf1) tI) ?_
             obtain⟨p4,hp4,e3⟩:=Ae e3
             refine wn (Ai 1 (.call (.tup [tP p4.1,iP p4.2])::(Ai 5 []))) ⟨[(2,tP src),(6,bP false),(15,hF f.1),(17,tP p3.1),(18,iP p3.2),(19,hF f1.1),(20,.ptr 2 0),(21,tP p4.1),(22,iP p4.2)],[(kX x),[iP f.2.At,iP f.2.E],[iP f1.2.At,iP f1.2.E]]⟩ (aI (Ha n f1.1 p4 hp4) tI) ?_
             obtain⟨y5,e7,e3⟩:=Ae e3
             refine AJ (A:=Bool) (fun v=>v=y5) (fun v129=>⟨[(2,tP src),(6,bP false),(129,bP v129)],[(kX x),[iP f.2.At,iP f.2.E],[iP f1.2.At,iP f1.2.E]]⟩) ?_ ?_
             . rintro v129 rfl
               show WS _ _ _ _ _ ⟨[(2,tP src),(6,bP false),(129,bP v129)],[(kX x),[iP f.2.At,iP f.2.E],[iP f1.2.At,iP f1.2.E]]⟩
               refine zz ?_
               rcases Ak e3 with⟨hc4,e3⟩|⟨hc4,e3⟩
               . refine zT (test hc4) ?_
                 refine wn (Ai 1 []) ⟨[(2,tP src),(6,bP false)],[(kX x),[iP f.2.At,iP f.2.E],[iP f1.2.At,iP f1.2.E]]⟩ tI ?_
                 cases e3
                 cases h
                 exact rt hQ
               . refine Aj (test hc4) ?_
                 exact zz (BN [2,6] 2 rfl (lb rfl) rfl (hJ3 () (Ac e3)))
             . intro hJ5
               rcases Ak e7 with⟨hc5,e7⟩|⟨hc5,e7⟩
               . exact wq (Ai 2 (yT::(Ai 19 []))) _ (aI (Aw hc5) tI) (hJ5 true (Ac e7))
               . rcases Ak e7 with⟨hc6,e7⟩|⟨hc6,e7⟩
                 . exact wq (Ai 2 (yF::(Ai 4 (yT::(Ai 14 []))))) _ (aI (Aw hc5) (aI (Aw hc6) tI)) (hJ5 true (Ac e7))
                 . rcases Ak e7 with⟨hc7,e7⟩|⟨hc7,e7⟩
                   . exact wq (Ai 2 (yF::(Ai 4 (yF::(Ai 3 (yT::(Ai 10 []))))))) _ (aI (Aw hc5) (aI (Aw hc6) (aI (Aw hc7) tI))) (hJ5 true (Ac e7))
                   . rcases Ak e7 with⟨hc8,e7⟩|⟨hc8,e7⟩
                     . exact wq (Ai 2 (yF::(Ai 4 (yF::(Ai 3 (yF::(Ai 4 (yT::(Ai 5 []))))))))) _ (aI (Aw hc5) (aI (Aw hc6) (aI (Aw hc7) (aI (Aw hc8) tI)))) (hJ5 true (Ac e7))
                     . obtain⟨s4,hs4,e7⟩:=Ae e7
                       exact wq (Ai 2 (yF::(Ai 4 (yF::(Ai 3 (yF::(Ai 4 (yF::(Ai 2 (.call (bP s4)::(Ai 2 []))))))))))) _ (aI (Aw hc5) (aI (Aw hc6) (aI (Aw hc7) (aI (Aw hc8) (aI (Gk n f.1 f1.1 s4 hs4) tI))))) (hJ5 (!s4) (Ac e7))
           . refine Aj (test hc9) ?_
             exact zz (BN [2,6] 2 rfl (lb rfl) rfl (hJ3 () (Ac e3)))
       . intro hJ2
         refine zz ?_
         rcases Ak e2 with⟨hc12,e2⟩|⟨hc12,e2⟩
         . refine zT (test hc12) ?_
           obtain⟨e8,he8,e2⟩:=Ae e2
           refine wn (Ai 1 (.call (.tup [.agg (kX e8.1),.agg [iP e8.2.At,iP e8.2.E]])::(Ai 7 []))) ⟨[(2,tP src),(4,.ptr 0 0),(6,bP false),(13,.ptr 1 0),(14,.ptr 2 0)],[(kX x),(kX e8.1),[iP e8.2.At,iP e8.2.E]]⟩ (aI (Dn n p1.1 e8 he8) tI) ?_
           obtain⟨y6,e9,e2⟩:=Ae e2
           refine AJ (A:=Bool) (fun v=>v=y6) (fun v84=>⟨[(2,tP src),(6,bP false),(84,bP v84)],[(kX x),(kX e8.1),[iP e8.2.At,iP e8.2.E]]⟩) ?_ ?_
           . rintro v84 rfl
             show WS _ _ _ _ _ ⟨[(2,tP src),(6,bP false),(84,bP v84)],[(kX x),(kX e8.1),[iP e8.2.At,iP e8.2.E]]⟩
             refine zz ?_
             rcases Ak e2 with⟨hc10,e2⟩|⟨hc10,e2⟩
             . refine zT (test hc10) ?_
               refine wn (Ai 1 []) ⟨[(2,tP src),(6,bP false)],[(kX x),(kX e8.1),[iP e8.2.At,iP e8.2.E]]⟩ tI ?_
               cases e2
               cases h
               exact rt hQ
             . refine Aj (test hc10) ?_
               exact zz (BN [2,6] 1 rfl (lb rfl) rfl (hJ2 () (Ac e2)))
           . intro hJ6
             rcases Ak e9 with⟨hc11,e9⟩|⟨hc11,e9⟩
             . exact wq (Ai 3 (yT::(Ai 5 []))) _ (aI (Aw hc11) tI) (hJ6 true (Ac e9))
             . obtain⟨s5,hs5,e9⟩:=Ae e9
               exact wq (Ai 3 (yF::(Ai 2 (.call (bP s5)::(Ai 2 []))))) _ (aI (Aw hc11) (aI (CP n x e8.1 s5 hs5) tI)) (hJ6 (!s5) (Ac e9))
         . refine Aj (test hc12) ?_
           exact zz (BN [2,6] 1 rfl (lb rfl) rfl (hJ2 () (Ac e2)))
     . intro hJ1
       refine zz ?_
       rcases Ak e1 with⟨hc15,e1⟩|⟨hc15,e1⟩
       . refine zT (test hc15) ?_
         obtain⟨f2,hf2,e1⟩:=Ae e1
         refine wn (Ai 1 (.call (.tup [hF f2.1,.agg [iP f2.2.At,iP f2.2.E]])::(Ai 6 []))) ⟨[(0,hF l),(2,tP src),(4,.ptr 0 0),(6,bP false),(9,hF f2.1),(10,.ptr 1 0)],[(kX x),[iP f2.2.At,iP f2.2.E]]⟩ (aI (DT n p.1 f2 hf2) tI) ?_
         obtain⟨y7,e10,e1⟩:=Ae e1
         refine AJ (A:=Bool) (fun v=>v=y7) (fun v63=>⟨[(2,tP src),(4,.ptr 0 0),(6,bP false),(63,bP v63)],[(kX x),[iP f2.2.At,iP f2.2.E]]⟩) ?_ ?_
         . rintro v63 rfl
           show WS _ _ _ _ _ ⟨[(2,tP src),(4,.ptr 0 0),(6,bP false),(63,bP v63)],[(kX x),[iP f2.2.At,iP f2.2.E]]⟩
           refine zz ?_
           rcases Ak e1 with⟨hc13,e1⟩|⟨hc13,e1⟩
           . refine zT (test hc13) ?_
             refine wn (Ai 1 []) ⟨[(2,tP src),(4,.ptr 0 0),(6,bP false)],[(kX x),[iP f2.2.At,iP f2.2.E]]⟩ tI ?_
             cases e1
             cases h
             exact rt hQ
           . refine Aj (test hc13) ?_
             exact zz (BN [2,4,6] 1 rfl (lb rfl) rfl (hJ1 () (Ac e1)))
         . intro hJ7
           rcases Ak e10 with⟨hc14,e10⟩|⟨hc14,e10⟩
           . exact wq (Ai 3 (yT::(Ai 5 []))) _ (aI (Aw hc14) tI) (hJ7 true (Ac e10))
           . obtain⟨s6,hs6,e10⟩:=Ae e10
             exact wq (Ai 3 (yF::(Ai 2 (.call (bP s6)::(Ai 2 []))))) _ (aI (Aw hc14) (aI (Gk n l f2.1 s6 hs6) tI)) (hJ7 (!s6) (Ac e10))
       . refine Aj (test hc15) ?_
         exact zz (BN [2,4,6] 1 rfl (lb rfl) rfl (hJ1 () (Ac e1)))
 . intro hJ
   obtain⟨f3,hf3,e⟩:=Ae e
   rcases Ak e with⟨hc17,e⟩|⟨hc17,e⟩
   . exact wq (Ai 1 (.call (bP f3)::(Ai 1 (yT::(Ai 9 []))))) _ (aI (IZ n l 200 f3 hf3) (aI (Aw hc17) tI)) (hJ true (Ac e))
   . obtain⟨e11,he11,e⟩:=Ae e
     rcases Ak e with⟨hc18,e⟩|⟨hc18,e⟩
     . exact wq (Ai 1 (.call (bP f3)::(Ai 1 (yF::(Ai 1 (.call (iP e11)::(Ai 2 (yT::(Ai 4 []))))))))) _ (aI (IZ n l 200 f3 hf3) (aI (Aw hc17) (aI (Hb n x 200 e11 he11) (aI (Aw hc18) tI)))) (hJ true (Ac e))
     . exact wq (Ai 1 (.call (bP f3)::(Ai 1 (yF::(Ai 1 (.call (iP e11)::(Ai 2 (yF::(Ai 4 []))))))))) _ (aI (IZ n l 200 f3 hf3) (aI (Aw hc17) (aI (Hb n x 200 e11 he11) (aI (Aw hc18) tI)))) (hJ (decide (500<(src.size:Int))) (Ac e))
theorem H8 (n:Nat)(l:(List Af))(x:Aa)(src:ByteArray)(r:Bool)(h:BT n l x src=some r):FC Tryz.prog 6 [hF l,.agg (kX x),tP src] (bP r):=VC.fin (fun Q hQ=>GD n l x src _ h Q hQ) rfl rfl
end Go.Proofs.YtgdalmleogphgaaGreatDoor
