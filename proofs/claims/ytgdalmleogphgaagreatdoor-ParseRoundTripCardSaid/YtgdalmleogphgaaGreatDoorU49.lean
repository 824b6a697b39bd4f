/-
  The walks: printer: the program computes the plain functions. (Printed by lift.py.) The walks: ref: the program computes the plain functions. (Printed by lift.py.)
-/
import Derived.Test.YtgdalmleogphgaaGreatDoorU36
namespace Go.Proofs.YtgdalmleogphgaaGreatDoor
open Go.RowKit Go.Q Go.Vl Go.Sp
set_option maxRecDepth 100000
set_option linter.unusedSimpArgs false
set_option maxHeartbeats 4000000
set_option linter.unusedVariables false
abbrev BQ:List PV:=[.mp [((.int .i64 5),(.int .i64 1)),((.int .i64 6),(.int .i64 1)),((.int .i64 20),(.int .i64 3))]]
theorem GA (p:Ag)(n_:Int)(r:(Unit×Ag))(h:BR p n_=some r)(Q:B7->List (List PV)->Prop)(hQ:∀ y,shareP y=.tup []->Q (.ret y) [(kR r.2)]) :
 VC Tryz.prog 62 (.ptr 0 0::[iP n_]) [(kR p)] Q:=by
 unfold BR at h
 refine VC.intro ⟨[0,1],[]⟩ Tryz.func62 rfl follows XX (by rw [Tryz.ntmps62];exact lb rfl) ?_
 refine B4 ?_
 refine zz ?_
 obtain⟨y,e,h⟩:=Ae h
 refine AJ (A:=Bool) (fun v=>v=y) (fun p1=>⟨[(0,.ptr 0 0),(1,iP n_)],[[oT p.l,bP p1]]⟩) ?_ ?_
 . rintro p1 rfl
   show WS _ _ _ _ _ ⟨[(0,.ptr 0 0),(1,iP n_)],[[oT p.l,bP p1]]⟩
   refine zz ?_
   obtain⟨l,hl,h⟩:=Ae h
   have fb:([[iP 2,iP 0,tP ⟨#[]⟩,iP n_]]:List (List PV))=l.map Ch:=by rw [<- Ac hl];simp only [List.map_cons,List.map_nil,Br]
   obtain⟨l1,hl1,h⟩:=Ae h
   refine wn (Ai 7 (.val (oT l)::(.val (oT l1)::(Ai 3 [])))) ⟨[],[[oT l1,bP p1]]⟩ (aI (Cb rfl fb) (aI (Oa hl1 Ba) tI)) ?_
   cases h
   exact rt hQ
 . intro hJ
   rcases Ak e with⟨hc,e⟩|⟨hc,e⟩
   . exact wq (Ai 5 (yT::(Ai 10 []))) _ (aI (Aw hc) tI) (hJ true (Ac e))
   . rcases Ak e with⟨hc1,e⟩|⟨hc1,e⟩
     . exact wq (Ai 5 (yF::(Ai 3 (yT::(Ai 6 []))))) _ (aI (Aw hc) (aI (Aw hc1) tI)) (hJ true (Ac e))
     . exact wq (Ai 5 (yF::(Ai 3 (yF::(Ai 6 []))))) _ (aI (Aw hc) (aI (Aw hc1) tI)) (hJ (decide (999999999999999<n_)) (Ac e))
theorem DG (p:Ag)(n_:Int)(r:(Unit×Ag))(h:BR p n_=some r):CA Tryz.prog 62 [iP n_] (kR p) (.ret (.tup [])) (kR r.2):=CA.fin (fun Q hQ=>GA p n_ _ h Q hQ)
theorem H4 (n:Nat)(p:Ag)(s:ByteArray)(r:(Unit×Ag))(h:Cx n p s=some r)(Q:B7->List (List PV)->Prop)(hQ:∀ y,shareP y=.tup []->Q (.ret y) [(kR r.2)]) :
 VC Tryz.prog 63 (.ptr 0 0::[tP s]) [(kR p)] Q:=by
 unfold Cx at h
 refine VC.intro ⟨[0,1,4,18,19,20],[]⟩ Tryz.func63 rfl follows XW (by rw [Tryz.ntmps63];exact lb rfl) ?_
 refine B4 ?_
 refine zz ?_
 obtain⟨y,e,h⟩:=Ae h
 refine AJ (A:=Bool) (fun v=>v=y) (fun p1=>⟨[(0,.ptr 0 0),(1,tP s)],[[oT p.l,bP p1]]⟩) ?_ ?_
 . rintro p1 rfl
   show WS _ _ _ _ _ ⟨[(0,.ptr 0 0),(1,tP s)],[[oT p.l,bP p1]]⟩
   refine zz ?_
   refine wn (Ai 3 []) ⟨[(0,.ptr 0 0),(1,tP s),(18,iP (s.size:Int)),(19,iP 0)],[[oT p.l,bP p1]]⟩ tI ?_
   obtain⟨y1,e1,h⟩:=Ae h
   refine AJ (A:=Bool) (fun v=>v=y1) (fun p2=>⟨[(0,.ptr 0 0),(1,tP s)],[[oT p.l,bP p2]]⟩) ?_ ?_
   . rintro p2 rfl
     show WS _ _ _ _ _ ⟨[(0,.ptr 0 0),(1,tP s)],[[oT p.l,bP p2]]⟩
     refine zz ?_
     obtain⟨l,hl,h⟩:=Ae h
     have fb:([[iP 3,iP 0,tP s,iP 0]]:List (List PV))=l.map Ch:=by rw [<- Ac hl];simp only [List.map_cons,List.map_nil,Br]
     obtain⟨l1,hl1,h⟩:=Ae h
     refine wn (Ai 7 (.val (oT l)::(.val (oT l1)::(Ai 3 [])))) ⟨[],[[oT l1,bP p2]]⟩ (aI (Cb rfl fb) (aI (Oa hl1 Ba) tI)) ?_
     cases h
     exact rt hQ
   . intro hJ1
     refine zz ?_
     refine zB ?_
     refine C9 [0,1,18,19] 1 (fun a:Nat×(Int×Bool)=>BK a.1 s a.2.1 a.2.2=some y1) (fun a=>a.1) (fun a:Nat×(Int×Bool)=>match a with|(_,(v19,p3))=>⟨[(0,.ptr 0 0),(1,tP s),(18,iP (s.size:Int)),(19,iP v19)],[[oT p.l,bP p3]]⟩) (n,(0,p1)) (lb rfl) rfl e1 ?_
     clear e1
     rintro⟨n,v19,p3⟩ e1
     show WS _ _ _ _ _ ⟨[(0,.ptr 0 0),(1,tP s),(18,iP (s.size:Int)),(19,iP v19)],[[oT p.l,bP p3]]⟩
     cases n with
     |zero=>exact absurd e1 (by simp [BK])
     |succ n =>
      replace e1:=(BK.eq_2 (n:=n) _ _ _).symm.trans e1
      refine zz ?_
      refine wn (Ai 1 []) ⟨[(0,.ptr 0 0),(1,tP s),(18,iP (s.size:Int)),(19,iP v19),(20,bP (decide (v19<(s.size:Int))))],[[oT p.l,bP p3]]⟩ tI ?_
      rcases Ak e1 with⟨hc4,e1⟩|⟨hc4,e1⟩
      . refine zT (test hc4) ?_
        refine zB ?_
        refine wn (Ai 2 []) ⟨[(0,.ptr 0 0),(1,tP s),(4,iP v19),(18,iP (s.size:Int)),(19,iP v19)],[[oT p.l,bP p3]]⟩ tI ?_
        obtain⟨y2,e2,e1⟩:=Ae e1
        refine AJ (A:=Bool) (fun v=>v=y2) (fun p4=>⟨[(0,.ptr 0 0),(1,tP s),(18,iP (s.size:Int)),(19,iP v19)],[[oT p.l,bP p4]]⟩) ?_ ?_
        . rintro p4 rfl
          show WS _ _ _ _ _ ⟨[(0,.ptr 0 0),(1,tP s),(18,iP (s.size:Int)),(19,iP v19)],[[oT p.l,bP p4]]⟩
          refine zz ?_
          refine wq (Ai 2 []) ⟨[(0,.ptr 0 0),(1,tP s),(18,iP (s.size:Int)),(19,iP (IntKind.i64.wrap (v19+1)))],[[oT p.l,bP p4]]⟩ tI ?_
          exact zz (AQ (n,((IntKind.i64.wrap (v19+1)),p4)) rfl e1 (Nat.lt_succ_self _))
        . intro hJ2
          rcases Ak e2 with⟨hc,e2⟩|⟨hc,e2⟩
          . exact wq (Ai 5 (yT::(Ai 20 []))) _ (aI (Aw hc) tI) (hJ2 true (Ac e2))
          . obtain⟨c,hc1,e2⟩:=Ae e2
            rcases Ak e2 with⟨hc2,e2⟩|⟨hc2,e2⟩
            . rcases Ak e2 with⟨hc3,e2⟩|⟨hc3,e2⟩
              . exact wq (Ai 5 (yF::(Ai 2 (.val (uP c)::(Ai 1 (yT::(Ai 2 (.val (uP c)::(Ai 1 (yT::(Ai 10 []))))))))))) _ (aI (Aw hc) (aI (ob hc1) (aI (Aw hc2) (aI (ob hc1) (aI (Aw hc3) tI))))) (hJ2 true (Ac e2))
              . exact wq (Ai 5 (yF::(Ai 2 (.val (uP c)::(Ai 1 (yT::(Ai 2 (.val (uP c)::(Ai 1 (yF::(Ai 2 (.val (uP c)::(Ai 7 []))))))))))))) _ (aI (Aw hc) (aI (ob hc1) (aI (Aw hc2) (aI (ob hc1) (aI (Aw hc3) (aI (ob hc1) tI)))))) (hJ2 (decide (126<c)) (Ac e2))
            . exact wq (Ai 5 (yF::(Ai 2 (.val (uP c)::(Ai 1 (yF::(Ai 15 []))))))) _ (aI (Aw hc) (aI (ob hc1) (aI (Aw hc2) tI))) (hJ2 false (Ac e2))
      . refine zF (test hc4) ?_
        try refine z5 rfl ?_
        exact zz (BN [0,1] 1 rfl (lb rfl) rfl (hJ1 p3 (Ac e1)))
 . intro hJ
   rcases Ak e with⟨hc5,e⟩|⟨hc5,e⟩
   . exact wq (Ai 5 (yT::(Ai 7 []))) _ (aI (Aw hc5) tI) (hJ true (Ac e))
   . exact wq (Ai 5 (yF::(Ai 7 []))) _ (aI (Aw hc5) tI) (hJ (decide (200<(s.size:Int))) (Ac e))
theorem Fs (n:Nat)(p:Ag)(s:ByteArray)(r:(Unit×Ag))(h:Cx n p s=some r):CA Tryz.prog 63 [tP s] (kR p) (.ret (.tup [])) (kR r.2):=CA.fin (fun Q hQ=>H4 n p s _ h Q hQ)
theorem GB (c:Int)(r:Bool)(h:BS c=some r)(Q:B7->List (List PV)->Prop)(hQ:∀ y,shareP y=bP r->Q (.ret y) []) :
 VC Tryz.prog 87 [uP c] [] Q:=by
 unfold BS at h
 refine VC.intro ⟨[0,2],[]⟩ Tryz.func87 rfl follows XL (by rw [Tryz.ntmps87];exact lb rfl) ?_
 refine B4 ?_
 refine zz ?_
 refine wn (Ai 1 []) ⟨[(0,uP c),(2,bP false)],[]⟩ tI ?_
 obtain⟨y,e,h⟩:=Ae h
 refine AJ (A:=Bool) (fun v=>v=y) (fun v2=>⟨[(2,bP v2)],[]⟩) ?_ ?_
 . rintro v2 rfl
   show WS _ _ _ _ _ ⟨[(2,bP v2)],[]⟩
   refine zz ?_
   cases h
   exact rt hQ
 . intro hJ
   rcases Ak e with⟨hc,e⟩|⟨hc,e⟩
   . rcases Ak e with⟨hc1,e⟩|⟨hc1,e⟩
     . exact wq (Ai 3 (yT::(Ai 4 (yT::(Ai 4 []))))) _ (aI (Aw hc) (aI (Aw hc1) tI)) (hJ true (Ac e))
     . exact wq (Ai 3 (yT::(Ai 4 (yF::(Ai 4 []))))) _ (aI (Aw hc) (aI (Aw hc1) tI)) (hJ (c == 95) (Ac e))
   . exact wq (Ai 3 (yF::(Ai 9 []))) _ (aI (Aw hc) tI) (hJ (c == 95) (Ac e))
theorem Dh (c:Int)(r:Bool)(h:BS c=some r):FC Tryz.prog 87 [uP c] (bP r):=VC.fin (fun Q hQ=>GB c _ h Q hQ) rfl rfl
theorem H5 (n:Nat)(p:Ag)(s:ByteArray)(r:(Unit×Ag))(h:BW n p s=some r)(Q:B7->List (List PV)->Prop)(hQ:∀ y,shareP y=.tup []->Q (.ret y) [(kR r.2)]) :
 VC Tryz.prog 60 (.ptr 0 0::[tP s]) [(kR p)] Q:=by
 unfold BW at h
 refine VC.intro ⟨[0,1,4,5,6,16,17,18],[]⟩ Tryz.func60 rfl follows XZ (by rw [Tryz.ntmps60];exact lb rfl) ?_
 refine B4 ?_
 refine zz ?_
 refine wn (Ai 1 []) ⟨[(0,.ptr 0 0),(1,tP s),(4,.fn 87 [])],[(kR p)]⟩ tI ?_
 obtain⟨y,e,h⟩:=Ae h
 refine AJ (A:=Bool) (fun v=>v=y) (fun ok=>⟨[(0,.ptr 0 0),(1,tP s),(4,.fn 87 []),(5,bP ok)],[(kR p)]⟩) ?_ ?_
 . rintro ok rfl
   show WS _ _ _ _ _ ⟨[(0,.ptr 0 0),(1,tP s),(4,.fn 87 []),(5,bP ok)],[(kR p)]⟩
   refine zz ?_
   refine wn (Ai 3 []) ⟨[(0,.ptr 0 0),(1,tP s),(4,.fn 87 []),(5,bP ok),(16,iP (s.size:Int)),(17,iP 0)],[(kR p)]⟩ tI ?_
   obtain⟨y1,e1,h⟩:=Ae h
   refine AJ (A:=Bool) (fun v=>v=y1) (fun ok1=>⟨[(0,.ptr 0 0),(1,tP s),(5,bP ok1)],[(kR p)]⟩) ?_ ?_
   . rintro ok1 rfl
     show WS _ _ _ _ _ ⟨[(0,.ptr 0 0),(1,tP s),(5,bP ok1)],[(kR p)]⟩
     refine zz ?_
     obtain⟨y2,e2,h⟩:=Ae h
     refine AJ (A:=Bool) (fun v=>v=y2) (fun p1=>⟨[(0,.ptr 0 0),(1,tP s)],[[oT p.l,bP p1]]⟩) ?_ ?_
     . rintro p1 rfl
       show WS _ _ _ _ _ ⟨[(0,.ptr 0 0),(1,tP s)],[[oT p.l,bP p1]]⟩
       refine zz ?_
       obtain⟨l,hl,h⟩:=Ae h
       have fb:([[iP 1,iP 0,tP s,iP 0]]:List (List PV))=l.map Ch:=by rw [<- Ac hl];simp only [List.map_cons,List.map_nil,Br]
       obtain⟨l1,hl1,h⟩:=Ae h
       refine wn (Ai 7 (.val (oT l)::(.val (oT l1)::(Ai 3 [])))) ⟨[],[[oT l1,bP p1]]⟩ (aI (Cb rfl fb) (aI (Oa hl1 Ba) tI)) ?_
       cases h
       exact rt hQ
     . intro hJ2
       rcases Ak e2 with⟨hc,e2⟩|⟨hc,e2⟩
       . exact wq (Ai 5 (yT::(Ai 6 []))) _ (aI (Aw hc) tI) (hJ2 true (Ac e2))
       . exact wq (Ai 5 (yF::(Ai 6 []))) _ (aI (Aw hc) tI) (hJ2 (!ok1) (Ac e2))
   . intro hJ1
     refine zz ?_
     refine zB ?_
     refine C9 [0,1,4,5,16,17] 1 (fun a:Nat×(Bool×Int)=>Bz a.1 s a.2.1 a.2.2=some y1) (fun a=>a.1) (fun a:Nat×(Bool×Int)=>match a with|(_,(ok2,v17))=>⟨[(0,.ptr 0 0),(1,tP s),(4,.fn 87 []),(5,bP ok2),(16,iP (s.size:Int)),(17,iP v17)],[(kR p)]⟩) (n,(ok,0)) (lb rfl) rfl e1 ?_
     clear e1
     rintro⟨n,ok2,v17⟩ e1
     show WS _ _ _ _ _ ⟨[(0,.ptr 0 0),(1,tP s),(4,.fn 87 []),(5,bP ok2),(16,iP (s.size:Int)),(17,iP v17)],[(kR p)]⟩
     cases n with
     |zero=>exact absurd e1 (by simp [Bz])
     |succ n =>
      replace e1:=(Bz.eq_2 (n:=n) _ _ _).symm.trans e1
      refine zz ?_
      refine wn (Ai 1 []) ⟨[(0,.ptr 0 0),(1,tP s),(4,.fn 87 []),(5,bP ok2),(16,iP (s.size:Int)),(17,iP v17),(18,bP (decide (v17<(s.size:Int))))],[(kR p)]⟩ tI ?_
      rcases Ak e1 with⟨hc6,e1⟩|⟨hc6,e1⟩
      . refine zT (test hc6) ?_
        refine zB ?_
        refine wn (Ai 2 []) ⟨[(0,.ptr 0 0),(1,tP s),(4,.fn 87 []),(5,bP ok2),(6,iP v17),(16,iP (s.size:Int)),(17,iP v17)],[(kR p)]⟩ tI ?_
        obtain⟨y3,e3,e1⟩:=Ae e1
        refine AJ (A:=Bool) (fun v=>v=y3) (fun ok3=>⟨[(0,.ptr 0 0),(1,tP s),(4,.fn 87 []),(5,bP ok3),(16,iP (s.size:Int)),(17,iP v17)],[(kR p)]⟩) ?_ ?_
        . rintro ok3 rfl
          show WS _ _ _ _ _ ⟨[(0,.ptr 0 0),(1,tP s),(4,.fn 87 []),(5,bP ok3),(16,iP (s.size:Int)),(17,iP v17)],[(kR p)]⟩
          refine zz ?_
          refine wq (Ai 2 []) ⟨[(0,.ptr 0 0),(1,tP s),(4,.fn 87 []),(5,bP ok3),(16,iP (s.size:Int)),(17,iP (IntKind.i64.wrap (v17+1)))],[(kR p)]⟩ tI ?_
          exact zz (AQ (n,(ok3,(IntKind.i64.wrap (v17+1)))) rfl e1 (Nat.lt_succ_self _))
        . intro hJ3
          rcases Ak e3 with⟨hc1,e3⟩|⟨hc1,e3⟩
          . obtain⟨c,hc2,e3⟩:=Ae e3
            obtain⟨n_,hn_,e3⟩:=Ae e3
            rcases Ak e3 with⟨hc3,e3⟩|⟨hc3,e3⟩
            . exact wq (Ai 1 (yT::(Ai 3 (.val (uP c)::(.call (bP n_)::(yT::(Ai 17 []))))))) _ (aI (Aw hc1) (aI (ob hc2) (aI (Dh c n_ hn_) (aI (Aw hc3) tI)))) (hJ3 true (Ac e3))
            . rcases Ak e3 with⟨hc4,e3⟩|⟨hc4,e3⟩
              . rcases Ak e3 with⟨hc5,e3⟩|⟨hc5,e3⟩
                . exact wq (Ai 1 (yT::(Ai 3 (.val (uP c)::(.call (bP n_)::(yF::(Ai 2 (yT::(Ai 2 (.val (uP c)::(Ai 2 (yT::(Ai 2 (.val (uP c)::(Ai 5 []))))))))))))))) _ (aI (Aw hc1) (aI (ob hc2) (aI (Dh c n_ hn_) (aI (Aw hc3) (aI (Aw hc4) (aI (ob hc2) (aI (Aw hc5) (aI (ob hc2) tI)))))))) (hJ3 (decide (c<=57)) (Ac e3))
                . exact wq (Ai 1 (yT::(Ai 3 (.val (uP c)::(.call (bP n_)::(yF::(Ai 2 (yT::(Ai 2 (.val (uP c)::(Ai 2 (yF::(Ai 8 []))))))))))))) _ (aI (Aw hc1) (aI (ob hc2) (aI (Dh c n_ hn_) (aI (Aw hc3) (aI (Aw hc4) (aI (ob hc2) (aI (Aw hc5) tI))))))) (hJ3 false (Ac e3))
              . exact wq (Ai 1 (yT::(Ai 3 (.val (uP c)::(.call (bP n_)::(yF::(Ai 2 (yF::(Ai 14 []))))))))) _ (aI (Aw hc1) (aI (ob hc2) (aI (Dh c n_ hn_) (aI (Aw hc3) (aI (Aw hc4) tI))))) (hJ3 false (Ac e3))
          . exact wq (Ai 1 (yF::(Ai 23 []))) _ (aI (Aw hc1) tI) (hJ3 false (Ac e3))
      . refine zF (test hc6) ?_
        try refine z5 rfl ?_
        exact zz (BN [0,1,5] 1 rfl (lb rfl) rfl (hJ1 ok2 (Ac e1)))
 . intro hJ
   rcases Ak e with⟨hc7,e⟩|⟨hc7,e⟩
   . exact wq (Ai 3 (yT::(Ai 5 []))) _ (aI (Aw hc7) tI) (hJ (decide ((s.size:Int)<=32)) (Ac e))
   . exact wq (Ai 3 (yF::(Ai 5 []))) _ (aI (Aw hc7) tI) (hJ false (Ac e))
theorem Dy (n:Nat)(p:Ag)(s:ByteArray)(r:(Unit×Ag))(h:BW n p s=some r):CA Tryz.prog 60 [tP s] (kR p) (.ret (.tup [])) (kR r.2):=CA.fin (fun Q hQ=>H5 n p s _ h Q hQ)
theorem GY (n:Nat)(p:Ag)(l:(List ByteArray))(r:(Unit×Ag))(h:A9 n p l=some r)(Q:B7->List (List PV)->Prop)(hQ:∀ y,shareP y=.tup []->Q (.ret y) [(kR r.2)]) :
 VC Tryz.prog 61 (.ptr 0 0::[hS l]) [(kR p)] Q:=by
 unfold A9 at h
 refine VC.intro ⟨[0,1,5,6,7,8,9],[]⟩ Tryz.func61 rfl follows XY (by rw [Tryz.ntmps61];exact lb rfl) ?_
 refine B4 ?_
 refine zz ?_
 refine wn (Ai 1 (.val (iP (l.length:Int))::(Ai 1 []))) ⟨[(0,.ptr 0 0),(6,hS l),(7,iP (l.length:Int)),(8,iP 0)],[(kR p)]⟩ (aI (CV l BD) tI) ?_
 obtain⟨y,e,h⟩:=Ae h
 refine AJ (A:=(List Ab)) (fun v=>v=y) (fun p1=>⟨[],[[oT p1,bP p.bad]]⟩) ?_ ?_
 . rintro p1 rfl
   show WS _ _ _ _ _ ⟨[],[[oT p1,bP p.bad]]⟩
   refine zz ?_
   cases h
   exact rt hQ
 . intro hJ
   refine zz ?_
   refine zB ?_
   refine C9 [0,6,7,8] 1 (fun a:Nat×(Int×(List Ab))=>BV a.1 l a.2.1 a.2.2=some y) (fun a=>a.1) (fun a:Nat×(Int×(List Ab))=>match a with|(_,(v8,p2))=>⟨[(0,.ptr 0 0),(6,hS l),(7,iP (l.length:Int)),(8,iP v8)],[[oT p2,bP p.bad]]⟩) (n,(0,p.l)) (lb rfl) rfl e ?_
   clear e
   rintro⟨n,v8,p2⟩ e
   show WS _ _ _ _ _ ⟨[(0,.ptr 0 0),(6,hS l),(7,iP (l.length:Int)),(8,iP v8)],[[oT p2,bP p.bad]]⟩
   cases n with
   |zero=>exact absurd e (by simp [BV])
   |succ n =>
    replace e:=(BV.eq_2 (n:=n) _ _ _).symm.trans e
    refine zz ?_
    refine wn (Ai 1 []) ⟨[(0,.ptr 0 0),(6,hS l),(7,iP (l.length:Int)),(8,iP v8),(9,bP (decide (v8<(l.length:Int))))],[[oT p2,bP p.bad]]⟩ tI ?_
    rcases Ak e with⟨hc,e⟩|⟨hc,e⟩
    . refine zT (test hc) ?_
      refine zB ?_
      obtain⟨x,hx,e⟩:=Ae e
      refine wn (.val (.vptr [tP x] 0)::(Ai 2 [])) ⟨[(0,.ptr 0 0),(5,tP x),(6,hS l),(7,iP (l.length:Int)),(8,iP v8)],[[oT p2,bP p.bad]]⟩ (aI (oi hx LB (By x)) tI) ?_
      obtain⟨l1,hl1,e⟩:=Ae e
      have fb:([[iP 4,iP 0,tP x,iP 0]]:List (List PV))=l1.map Ch:=by rw [<- Ac hl1];simp only [List.map_cons,List.map_nil,Br]
      obtain⟨l2,hl2,e⟩:=Ae e
      refine wn (Ai 7 (.val (oT l1)::(.val (oT l2)::(Ai 3 [])))) ⟨[(0,.ptr 0 0),(6,hS l),(7,iP (l.length:Int)),(8,iP v8)],[[oT l2,bP p.bad]]⟩ (aI (Cb rfl fb) (aI (Oa hl2 Ba) tI)) ?_
      refine wq (Ai 2 []) ⟨[(0,.ptr 0 0),(6,hS l),(7,iP (l.length:Int)),(8,iP (IntKind.i64.wrap (v8+1)))],[[oT l2,bP p.bad]]⟩ tI ?_
      exact zz (AQ (n,((IntKind.i64.wrap (v8+1)),l2)) rfl e (Nat.lt_succ_self _))
    . refine zF (test hc) ?_
      try refine z5 rfl ?_
      exact zz (BN [] 1 rfl (lb rfl) rfl (hJ p2 (Ac e)))
theorem AK (n:Nat)(p:Ag)(l:(List ByteArray))(r:(Unit×Ag))(h:A9 n p l=some r):CA Tryz.prog 61 [hS l] (kR p) (.ret (.tup [])) (kR r.2):=CA.fin (fun Q hQ=>GY n p l _ h Q hQ)
theorem Lj (n:Nat)(e:Aa)(r:Int)(h:Ep n e=some r)(Q:B7->List (List PV)->Prop)(hQ:∀ y,shareP y=iP r->Q (.ret y) []) :
 VC Tryz.prog 94 [.agg (kX e)] [] Q:=by
 unfold Ep at h
 refine VC.intro ⟨[0,1,2,4,6,7,9,11,13,14,15,16,23],[]⟩ Tryz.func94 rfl follows XK (by rw [Tryz.ntmps94];exact lb rfl) ?_
 refine B4 ?_
 refine zz ?_
 refine wn (Ai 2 []) ⟨[(1,.ptr 0 0),(2,iP 0)],[(kX e)]⟩ tI ?_
 refine wn (Ai 2 []) ⟨[(1,.ptr 0 0),(2,iP 0),(6,iP e.Op)],[(kX e)]⟩ tI ?_
 refine zB ?_
 refine wn (Ai 2 []) ⟨[(1,.ptr 0 0),(2,iP 0),(6,iP e.Op),(7,bP (e.Op == 20))],[(kX e)]⟩ tI ?_
 rcases Ak h with⟨hc4,h⟩|⟨hc4,h⟩
 . refine zT (test hc4) ?_
   refine wn (Ai 1 []) ⟨[(1,.ptr 0 0),(2,iP 0)],[(kX e)]⟩ tI ?_
   cases h
   exact rt hQ
 . refine zF (test hc4) ?_
   refine wn (Ai 2 []) ⟨[(1,.ptr 0 0),(2,iP 0),(6,iP e.Op),(9,bP (e.Op == 5))],[(kX e)]⟩ tI ?_
   rcases Ak h with⟨hc3,h⟩|⟨hc3,h⟩
   . refine zT (test hc3) ?_
     refine wn (Ai 1 []) ⟨[(1,.ptr 0 0),(2,iP 3)],[(kX e)]⟩ tI ?_
     cases h
     exact rt hQ
   . refine zF (test hc3) ?_
     refine wn (Ai 2 []) ⟨[(1,.ptr 0 0),(2,iP 0),(11,bP (e.Op == 6))],[(kX e)]⟩ tI ?_
     rcases Ak h with⟨hc2,h⟩|⟨hc2,h⟩
     . refine zT (test hc2) ?_
       refine wn (Ai 1 []) ⟨[(1,.ptr 0 0),(2,iP 7)],[(kX e)]⟩ tI ?_
       cases h
       exact rt hQ
     . refine zF (test hc2) ?_
       obtain⟨o_,ho_,h⟩:=Ae h
       refine wn (.call (oP o_ Ar)::(.val (iP (o_.length:Int))::(Ai 1 []))) ⟨[(1,.ptr 0 0),(2,iP 0),(13,oP o_ Ar),(14,iP (o_.length:Int)),(15,iP 0)],[(kX e)]⟩ (aI (CY o_ ho_) (aI (CV o_ Ar) tI)) ?_
       obtain⟨y,e1,h⟩:=Ae h
       refine AJ (A:=Unit) (fun v=>.inl v=y) (fun _=>⟨[(2,iP 0)],[(kX e)]⟩) ?_ ?_
       . rintro _ rfl
         show WS _ _ _ _ _ ⟨[(2,iP 0)],[(kX e)]⟩
         refine zz ?_
         refine wn (Ai 1 []) ⟨[(2,iP 8)],[(kX e)]⟩ tI ?_
         cases h
         exact rt hQ
       . intro hJ
         refine zz ?_
         refine zB ?_
         refine C9 [1,2,13,14,15] 1 (fun a:Nat×Int=>CH a.1 o_ e a.2=some y) (fun a=>a.1) (fun a:Nat×Int=>match a with|(_,v15)=>⟨[(1,.ptr 0 0),(2,iP 0),(13,oP o_ Ar),(14,iP (o_.length:Int)),(15,iP v15)],[(kX e)]⟩) (n,0) (lb rfl) rfl e1 ?_
         clear e1
         rintro⟨n,v15⟩ e1
         show WS _ _ _ _ _ ⟨[(1,.ptr 0 0),(2,iP 0),(13,oP o_ Ar),(14,iP (o_.length:Int)),(15,iP v15)],[(kX e)]⟩
         cases n with
         |zero=>exact absurd e1 (by simp [CH])
         |succ n =>
          replace e1:=(CH.eq_2 (n:=n) _ _ _).symm.trans e1
          refine zz ?_
          refine wn (Ai 1 []) ⟨[(1,.ptr 0 0),(2,iP 0),(13,oP o_ Ar),(14,iP (o_.length:Int)),(15,iP v15),(16,bP (decide (v15<(o_.length:Int))))],[(kX e)]⟩ tI ?_
          rcases Ak e1 with⟨hc1,e1⟩|⟨hc1,e1⟩
          . refine zT (test hc1) ?_
            refine zB ?_
            obtain⟨x,hx,e1⟩:=Ae e1
            refine wn (.val (.vptr [tP x.sign,iP x.op,iP x.level] 0)::(Ai 3 [])) ⟨[(1,.ptr 0 0),(2,iP 0),(4,.ptr 1 0),(13,oP o_ Ar),(14,iP (o_.length:Int)),(15,iP v15)],[(kX e),[tP x.sign,iP x.op,iP x.level]]⟩ (aI (oi hx Cz (Cn x)) tI) ?_
            refine wn (Ai 5 []) ⟨[(1,.ptr 0 0),(2,iP 0),(4,.ptr 1 0),(13,oP o_ Ar),(14,iP (o_.length:Int)),(15,iP v15),(23,bP (x.op == e.Op))],[(kX e),[tP x.sign,iP x.op,iP x.level]]⟩ tI ?_
            rcases Ak e1 with⟨hc,e1⟩|⟨hc,e1⟩
            . refine zT (test hc) ?_
              refine wn (Ai 3 []) ⟨[(1,.ptr 0 0),(2,iP x.level),(13,oP o_ Ar),(14,iP (o_.length:Int)),(15,iP v15)],[(kX e),[tP x.sign,iP x.op,iP x.level]]⟩ tI ?_
              cases e1
              cases h
              exact rt hQ
            . refine zF (test hc) ?_
              refine wq (Ai 2 []) ⟨[(1,.ptr 0 0),(2,iP 0),(13,oP o_ Ar),(14,iP (o_.length:Int)),(15,iP (IntKind.i64.wrap (v15+1)))],[(kX e),[tP x.sign,iP x.op,iP x.level]]⟩ tI ?_
              exact zz (AQ (n,(IntKind.i64.wrap (v15+1))) rfl e1 (Nat.lt_succ_self _))
          . refine zF (test hc1) ?_
            try refine z5 rfl ?_
            exact zz (BN [2] 1 rfl (lb rfl) rfl (hJ () (Ac e1)))
theorem N6 (n:Nat)(e:Aa)(r:Int)(h:Ep n e=some r):FC Tryz.prog 94 [.agg (kX e)] (iP r):=VC.fin (fun Q hQ=>Lj n e _ h Q hQ) rfl rfl
theorem FH (p:(List Ab))(p1:Bool)(e:Int)(e1:Int)(e2:ByteArray)(e3:(List Aa))(e4:Int)(b:Aq)(r:Bool)(h:C1 p p1 e e1 e2 e3 e4 b=some r)(Q:B7->List (List PV)->Prop)(hQ:∀ y,shareP y=bP r->Q (.ret y) [[oT p,bP p1],[iP e,iP e1,tP e2,hX e3,iP e4],BQ]) :
 VC Tryz.prog 71 [.agg [tP b.sign,iP b.op,iP b.level],.ptr 1 0] [[oT p,bP p1],[iP e,iP e1,tP e2,hX e3,iP e4],BQ] Q:=by
 unfold C1 at h
 refine VC.intro ⟨[0,1,2,3],[]⟩ Tryz.func71 rfl follows XS (by rw [Tryz.ntmps71];exact lb rfl) ?_
 refine B4 ?_
 refine zz ?_
 refine wn (Ai 2 []) ⟨[(1,.ptr 1 0),(2,.ptr 3 0),(3,bP false)],[[oT p,bP p1],[iP e,iP e1,tP e2,hX e3,iP e4],BQ,[tP b.sign,iP b.op,iP b.level]]⟩ tI ?_
 refine wn (Ai 6 []) ⟨[(3,bP (b.op == e))],[[oT p,bP p1],[iP e,iP e1,tP e2,hX e3,iP e4],BQ,[tP b.sign,iP b.op,iP b.level]]⟩ tI ?_
 cases h
 exact rt hQ
theorem Gy (p:(List Ab))(p1:Bool)(e:Int)(e1:Int)(e2:ByteArray)(e3:(List Aa))(e4:Int)(b:Aq)(r:Bool)(h:C1 p p1 e e1 e2 e3 e4 b=some r):JO Tryz.prog 71 [.agg [tP b.sign,iP b.op,iP b.level],.ptr 1 0] [[oT p,bP p1],[iP e,iP e1,tP e2,hX e3,iP e4],BQ] (.ret (bP r)) [[oT p,bP p1],[iP e,iP e1,tP e2,hX e3,iP e4],BQ]:=JO.fin (fun Q hQ=>FH p p1 e e1 e2 e3 e4 b _ h Q hQ)
theorem Fj (n:Nat)(p:(List Ab))(p1:Bool)(e:Int)(e1:Int)(e2:ByteArray)(e3:(List Aa))(e4:Int)(s:(List Aq))(r:Int)(h:BC n p p1 e e1 e2 e3 e4 s=some r)(Q:B7->List (List PV)->Prop)(hQ:∀ y,shareP y=iP r->Q (.ret y) [[oT p,bP p1],[iP e,iP e1,tP e2,hX e3,iP e4],BQ]) :
 VC Tryz.prog 69 [hP s Ar,.fn 71 [.ptr 1 0]] [[oT p,bP p1],[iP e,iP e1,tP e2,hX e3,iP e4],BQ] Q:=by
 unfold BC at h
 refine VC.intro ⟨[0,1,4,5,7,8,9,16],[]⟩ Tryz.func69 rfl follows Xf (by rw [Tryz.ntmps69];exact lb rfl) ?_
 refine B4 ?_
 refine zz ?_
 refine wn (Ai 1 []) ⟨[(0,hP s Ar),(1,.fn 71 [.ptr 1 0]),(4,iP 0)],[[oT p,bP p1],[iP e,iP e1,tP e2,hX e3,iP e4],BQ]⟩ tI ?_
 refine wn (Ai 1 (.val (iP (s.length:Int))::(Ai 1 []))) ⟨[(0,hP s Ar),(1,.fn 71 [.ptr 1 0]),(4,iP 0),(7,iP (s.length:Int)),(8,iP 0)],[[oT p,bP p1],[iP e,iP e1,tP e2,hX e3,iP e4],BQ]⟩ (aI (CV s Ar) tI) ?_
 obtain⟨y,e5,h⟩:=Ae h
 refine AJ (A:=Unit) (fun v=>.inl v=y) (fun _=>⟨[(4,iP 0)],[[oT p,bP p1],[iP e,iP e1,tP e2,hX e3,iP e4],BQ]⟩) ?_ ?_
 . rintro _ rfl
   show WS _ _ _ _ _ ⟨[(4,iP 0)],[[oT p,bP p1],[iP e,iP e1,tP e2,hX e3,iP e4],BQ]⟩
   refine zz ?_
   refine wn (Ai 1 []) ⟨[(4,iP (-1))],[[oT p,bP p1],[iP e,iP e1,tP e2,hX e3,iP e4],BQ]⟩ tI ?_
   cases h
   exact rt hQ
 . intro hJ
   refine zz ?_
   refine zB ?_
   refine C9 [0,1,4,7,8] 3 (fun a:Nat×Int=>AT a.1 s p p1 e e1 e2 e3 e4 a.2=some y) (fun a=>a.1) (fun a:Nat×Int=>match a with|(_,v8)=>⟨[(0,hP s Ar),(1,.fn 71 [.ptr 1 0]),(4,iP 0),(7,iP (s.length:Int)),(8,iP v8)],[[oT p,bP p1],[iP e,iP e1,tP e2,hX e3,iP e4],BQ]⟩) (n,0) (lb rfl) rfl e5 ?_
   clear e5
   rintro⟨n,v8⟩ e5
   show WS _ _ _ _ _ ⟨[(0,hP s Ar),(1,.fn 71 [.ptr 1 0]),(4,iP 0),(7,iP (s.length:Int)),(8,iP v8)],[[oT p,bP p1],[iP e,iP e1,tP e2,hX e3,iP e4],BQ]⟩
   cases n with
   |zero=>exact absurd e5 (by simp [AT])
   |succ n =>
    replace e5:=(AT.eq_2 (n:=n) _ _ _ _ _ _ _ _ _).symm.trans e5
    refine zz ?_
    refine wn (Ai 1 []) ⟨[(0,hP s Ar),(1,.fn 71 [.ptr 1 0]),(4,iP 0),(7,iP (s.length:Int)),(8,iP v8),(9,bP (decide (v8<(s.length:Int))))],[[oT p,bP p1],[iP e,iP e1,tP e2,hX e3,iP e4],BQ]⟩ tI ?_
    rcases Ak e5 with⟨hc1,e5⟩|⟨hc1,e5⟩
    . refine zT (test hc1) ?_
      refine zB ?_
      refine wn (Ai 2 []) ⟨[(0,hP s Ar),(1,.fn 71 [.ptr 1 0]),(4,iP 0),(5,iP v8),(7,iP (s.length:Int)),(8,iP v8)],[[oT p,bP p1],[iP e,iP e1,tP e2,hX e3,iP e4],BQ]⟩ tI ?_
      obtain⟨x,hx,e5⟩:=Ae e5
      obtain⟨e6,he6,e5⟩:=Ae e5
      refine wn (Ai 3 (.val (.vptr [tP x.sign,iP x.op,iP x.level] 0)::(Ai 1 (.site (bP e6) [[oT p,bP p1],[iP e,iP e1,tP e2,hX e3,iP e4],BQ]::[])))) ⟨[(0,hP s Ar),(1,.fn 71 [.ptr 1 0]),(4,iP 0),(5,iP v8),(7,iP (s.length:Int)),(8,iP v8),(16,bP e6)],[[oT p,bP p1],[iP e,iP e1,tP e2,hX e3,iP e4],BQ]⟩ (aI (oi hx Cz (Cn x)) (aI (Gy p p1 e e1 e2 e3 e4 x e6 he6) tI)) ?_
      rcases Ak e5 with⟨hc,e5⟩|⟨hc,e5⟩
      . refine zT (test hc) ?_
        refine wn (Ai 2 []) ⟨[(0,hP s Ar),(1,.fn 71 [.ptr 1 0]),(4,iP v8),(7,iP (s.length:Int)),(8,iP v8)],[[oT p,bP p1],[iP e,iP e1,tP e2,hX e3,iP e4],BQ]⟩ tI ?_
        cases e5
        cases h
        exact rt hQ
      . refine zF (test hc) ?_
        refine wq (Ai 2 []) ⟨[(0,hP s Ar),(1,.fn 71 [.ptr 1 0]),(4,iP 0),(7,iP (s.length:Int)),(8,iP (IntKind.i64.wrap (v8+1)))],[[oT p,bP p1],[iP e,iP e1,tP e2,hX e3,iP e4],BQ]⟩ tI ?_
        exact zz (AQ (n,(IntKind.i64.wrap (v8+1))) rfl e5 (Nat.lt_succ_self _))
    . refine zF (test hc1) ?_
      try refine z5 rfl ?_
      exact zz (BN [4] 3 rfl (lb rfl) rfl (hJ () (Ac e5)))
theorem FG (n:Nat)(p:(List Ab))(p1:Bool)(e:Int)(e1:Int)(e2:ByteArray)(e3:(List Aa))(e4:Int)(s:(List Aq))(r:Int)(h:BC n p p1 e e1 e2 e3 e4 s=some r):JO Tryz.prog 69 [hP s Ar,.fn 71 [.ptr 1 0]] [[oT p,bP p1],[iP e,iP e1,tP e2,hX e3,iP e4],BQ] (.ret (iP r)) [[oT p,bP p1],[iP e,iP e1,tP e2,hX e3,iP e4],BQ]:=JO.fin (fun Q hQ=>Fj n p p1 e e1 e2 e3 e4 s _ h Q hQ)
theorem H7 (n0:Nat)
 (ih_parse_printer_expr:∀ m,m<=n0->∀ (p:Ag) (e:Aa) (r:(Unit×Ag)),AZ m p e=some r->CA Tryz.prog 42 [.agg (kX e)] (kR p) (.ret (.tup [])) (kR r.2))
 (ih_parse_printer_operand:∀ m,m<=n0->∀ (p:Ag) (e:Aa) (need:Int) (r:(Unit×Ag)),A8 m p e need=some r->CA Tryz.prog 68 [.agg (kX e),iP need] (kR p) (.ret (.tup [])) (kR r.2))
 (n:Nat) (hn:n<=n0) (p:Ag) (e:Aa) (r:(Unit×Ag)) (h:AZ (n+1) p e=some r) (Q:B7->List (List PV)->Prop) (hQ:∀ y,shareP y=.tup []->Q (.ret y) [(kR r.2)]) :
 VC Tryz.prog 42 (.ptr 0 0::[.agg (kX e)]) [(kR p)] Q:=by
 replace h:=(AZ.eq_2 (n:=n) _ _).symm.trans h
 refine VC.intro ⟨[0,1,3,4,5,6,7,8,9,13,24,35,59,65,71,77,87,88,89,90,95,106,117,122,147,158],[]⟩ Tryz.func42 rfl follows Yi (by rw [Tryz.ntmps42];exact lb rfl) ?_
 refine B4 ?_
 refine zz ?_
 refine wn (Ai 1 []) ⟨[(0,.ptr 0 0),(3,.ptr 1 0)],[(kR p),(kX e)]⟩ tI ?_
 refine wn (Ai 6 []) ⟨[(0,.ptr 0 0),(3,.ptr 1 0),(4,.mref 2)],[(kR p),(kX e),BQ]⟩ tI ?_
 refine wn (Ai 2 []) ⟨[(0,.ptr 0 0),(3,.ptr 1 0),(4,.mref 2),(13,iP e.Op)],[(kR p),(kX e),BQ]⟩ tI ?_
 refine zB ?_
 refine wn (Ai 2 []) ⟨[(0,.ptr 0 0),(3,.ptr 1 0),(4,.mref 2),(13,iP e.Op),(59,bP (e.Op == 1))],[(kR p),(kX e),BQ]⟩ tI ?_
 rcases Ak h with⟨hc14,h⟩|⟨hc14,h⟩
 . refine zT (test hc14) ?_
   obtain⟨n_,hn_,h⟩:=Ae h
   refine wn (Ai 3 (.meth (.tup []) (kR n_.2)::[])) ⟨[],[(kR n_.2),(kX e),BQ]⟩ (aI (DG p e.N n_ hn_) tI) ?_
   cases h
   exact rt hQ
 . refine zF (test hc14) ?_
   refine wn (Ai 2 []) ⟨[(0,.ptr 0 0),(3,.ptr 1 0),(4,.mref 2),(13,iP e.Op),(65,bP (e.Op == 2))],[(kR p),(kX e),BQ]⟩ tI ?_
   rcases Ak h with⟨hc13,h⟩|⟨hc13,h⟩
   . refine zT (test hc13) ?_
     obtain⟨t,ht,h⟩:=Ae h
     refine wn (Ai 3 (.meth (.tup []) (kR t.2)::[])) ⟨[],[(kR t.2),(kX e),BQ]⟩ (aI (Fs n p e.S t ht) tI) ?_
     cases h
     exact rt hQ
   . refine zF (test hc13) ?_
     refine wn (Ai 2 []) ⟨[(0,.ptr 0 0),(3,.ptr 1 0),(4,.mref 2),(13,iP e.Op),(71,bP (e.Op == 3))],[(kR p),(kX e),BQ]⟩ tI ?_
     rcases Ak h with⟨hc12,h⟩|⟨hc12,h⟩
     . refine zT (test hc12) ?_
       obtain⟨n_1,hn_1,h⟩:=Ae h
       refine wn (Ai 3 (.meth (.tup []) (kR n_1.2)::[])) ⟨[],[(kR n_1.2),(kX e),BQ]⟩ (aI (Dy n p e.S n_1 hn_1) tI) ?_
       cases h
       exact rt hQ
     . refine zF (test hc12) ?_
       refine wn (Ai 2 []) ⟨[(0,.ptr 0 0),(3,.ptr 1 0),(4,.mref 2),(13,iP e.Op),(77,bP (e.Op == 4))],[(kR p),(kX e),BQ]⟩ tI ?_
       rcases Ak h with⟨hc11,h⟩|⟨hc11,h⟩
       . refine zT (test hc11) ?_
         obtain⟨n_2,hn_2,h⟩:=Ae h
         refine wn (Ai 3 (.meth (.tup []) (kR n_2.2)::[])) ⟨[(0,.ptr 0 0),(3,.ptr 1 0)],[(kR n_2.2),(kX e),BQ]⟩ (aI (Dy n p e.S n_2 hn_2) tI) ?_
         obtain⟨l,hl,h⟩:=Ae h
         have fb:([[tP ⟨#[40]⟩]]:List (List PV))=l.map BD:=by rw [<- Ac hl];simp only [List.map_cons,List.map_nil,By]
         obtain⟨s,hs,h⟩:=Ae h
         refine wn (Ai 1 (.val (oS l)::(.meth (.tup []) (kR s.2)::[]))) ⟨[(0,.ptr 0 0),(3,.ptr 1 0)],[(kR s.2),(kX e),BQ]⟩ (aI (Cb rfl fb) (aI (AK n n_2.2 l s hs) tI)) ?_
         refine wn (Ai 2 (.val (iP (e.Kids.length:Int))::(Ai 1 []))) ⟨[(0,.ptr 0 0),(87,hX e.Kids),(88,iP (e.Kids.length:Int)),(89,iP 0)],[(kR s.2),(kX e),BQ]⟩ (aI (CV e.Kids AH) tI) ?_
         obtain⟨y,e1,h⟩:=Ae h
         refine AJ (A:=((List Ab)×Bool)) (fun v=>v=y) (fun y=>match y with|(p1,p2)=>⟨[(0,.ptr 0 0)],[[oT p1,bP p2],(kX e),BQ]⟩) ?_ ?_
         . rintro⟨p1,p2⟩ rfl
           show WS _ _ _ _ _ ⟨[(0,.ptr 0 0)],[[oT p1,bP p2],(kX e),BQ]⟩
           refine zz ?_
           obtain⟨l1,hl1,h⟩:=Ae h
           have fb1:([[tP ⟨#[41]⟩]]:List (List PV))=l1.map BD:=by rw [<- Ac hl1];simp only [List.map_cons,List.map_nil,By]
           obtain⟨s1,hs1,h⟩:=Ae h
           refine wn (Ai 1 (.val (oS l1)::(.meth (.tup []) (kR s1.2)::[]))) ⟨[],[(kR s1.2),(kX e),BQ]⟩ (aI (Cb rfl fb1) (aI (AK n (Ag.mk p1 p2) l1 s1 hs1) tI)) ?_
           cases h
           exact rt hQ
         . intro hJ
           refine zz ?_
           refine zB ?_
           refine C9 [0,87,88,89] 3 (fun a:Nat×(Int×(List Ab)×Bool)=>a.1<=n0/\Bo a.1 e l a.2.1 a.2.2.1 a.2.2.2=some y) (fun a=>a.1) (fun a:Nat×(Int×(List Ab)×Bool)=>match a with|(_,(v89,p3,p4))=>⟨[(0,.ptr 0 0),(87,hX e.Kids),(88,iP (e.Kids.length:Int)),(89,iP v89)],[[oT p3,bP p4],(kX e),BQ]⟩) (n,(0,s.2.l,s.2.bad)) (lb rfl) rfl ⟨hn,e1⟩ ?_
           clear e1 hn
           rintro⟨n,v89,p3,p4⟩ ⟨hn,e1⟩
           show WS _ _ _ _ _ ⟨[(0,.ptr 0 0),(87,hX e.Kids),(88,iP (e.Kids.length:Int)),(89,iP v89)],[[oT p3,bP p4],(kX e),BQ]⟩
           cases n with
           |zero=>exact absurd e1 (by simp [Bo])
           |succ n =>
            replace e1:=(Bo.eq_2 (n:=n) _ _ _ _ _).symm.trans e1
            replace hn:n<=n0:=by omega
            refine zz ?_
            refine wn (Ai 1 []) ⟨[(0,.ptr 0 0),(87,hX e.Kids),(88,iP (e.Kids.length:Int)),(89,iP v89),(90,bP (decide (v89<(e.Kids.length:Int))))],[[oT p3,bP p4],(kX e),BQ]⟩ tI ?_
            rcases Ak e1 with⟨hc1,e1⟩|⟨hc1,e1⟩
            . refine zT (test hc1) ?_
              refine zB ?_
              obtain⟨x,hx,e1⟩:=Ae e1
              refine wn (Ai 1 (.val (.vptr (kX x) 0)::(Ai 4 []))) ⟨[(0,.ptr 0 0),(5,iP v89),(6,.ptr 3 0),(87,hX e.Kids),(88,iP (e.Kids.length:Int)),(89,iP v89)],[[oT p3,bP p4],(kX e),BQ,(kX x)]⟩ (aI (oi hx Bw (AE x)) tI) ?_
              refine wn (Ai 2 []) ⟨[(0,.ptr 0 0),(6,.ptr 3 0),(87,hX e.Kids),(88,iP (e.Kids.length:Int)),(89,iP v89),(95,bP (decide (0<v89)))],[[oT p3,bP p4],(kX e),BQ,(kX x)]⟩ tI ?_
              rcases Ak e1 with⟨hc,e1⟩|⟨hc,e1⟩
              . refine zT (test hc) ?_
                obtain⟨l2,hl2,e1⟩:=Ae e1
                have fb2:([[tP ⟨#[44]⟩]]:List (List PV))=l2.map BD:=by rw [<- Ac hl2];simp only [List.map_cons,List.map_nil,By]
                obtain⟨s2,hs2,e1⟩:=Ae e1
                refine wn (Ai 1 (.val (oS l2)::(.meth (.tup []) (kR s2.2)::[]))) ⟨[(0,.ptr 0 0),(6,.ptr 3 0),(87,hX e.Kids),(88,iP (e.Kids.length:Int)),(89,iP v89)],[(kR s2.2),(kX e),BQ,(kX x)]⟩ (aI (Cb rfl fb2) (aI (AK n (Ag.mk p3 p4) l2 s2 hs2) tI)) ?_
                obtain⟨o_,ho_,e1⟩:=Ae e1
                refine wn (Ai 2 (.meth (.tup []) (kR o_.2)::[])) ⟨[(0,.ptr 0 0),(87,hX e.Kids),(88,iP (e.Kids.length:Int)),(89,iP v89)],[(kR o_.2),(kX e),BQ,(kX x)]⟩ (aI (ih_parse_printer_operand n hn s2.2 x 0 o_ ho_) tI) ?_
                refine wq (Ai 2 []) ⟨[(0,.ptr 0 0),(87,hX e.Kids),(88,iP (e.Kids.length:Int)),(89,iP (IntKind.i64.wrap (v89+1)))],[(kR o_.2),(kX e),BQ,(kX x)]⟩ tI ?_
                exact zz (AQ (n,((IntKind.i64.wrap (v89+1)),o_.2.l,o_.2.bad)) rfl ⟨hn,e1⟩ (Nat.lt_succ_self _))
              . refine zF (test hc) ?_
                obtain⟨o_1,ho_1,e1⟩:=Ae e1
                refine wn (Ai 2 (.meth (.tup []) (kR o_1.2)::[])) ⟨[(0,.ptr 0 0),(87,hX e.Kids),(88,iP (e.Kids.length:Int)),(89,iP v89)],[(kR o_1.2),(kX e),BQ,(kX x)]⟩ (aI (ih_parse_printer_operand n hn (Ag.mk p3 p4) x 0 o_1 ho_1) tI) ?_
                refine wq (Ai 2 []) ⟨[(0,.ptr 0 0),(87,hX e.Kids),(88,iP (e.Kids.length:Int)),(89,iP (IntKind.i64.wrap (v89+1)))],[(kR o_1.2),(kX e),BQ,(kX x)]⟩ tI ?_
                exact zz (AQ (n,((IntKind.i64.wrap (v89+1)),o_1.2.l,o_1.2.bad)) rfl ⟨hn,e1⟩ (Nat.lt_succ_self _))
            . refine zF (test hc1) ?_
              try refine z5 rfl ?_
              exact zz (BN [0] 3 rfl (lb rfl) rfl (hJ (p3,p4) (Ac e1)))
       . refine zF (test hc11) ?_
         refine wn (Ai 2 []) ⟨[(0,.ptr 0 0),(3,.ptr 1 0),(4,.mref 2),(13,iP e.Op),(106,bP (e.Op == 5))],[(kR p),(kX e),BQ]⟩ tI ?_
         obtain⟨y1,e2,h⟩:=Ae h
         refine AJ (A:=Bool) (fun v=>v=y1) (fun v106=>⟨[(0,.ptr 0 0),(3,.ptr 1 0),(4,.mref 2),(106,bP v106)],[(kR p),(kX e),BQ]⟩) ?_ ?_
         . rintro v106 rfl
           show WS _ _ _ _ _ ⟨[(0,.ptr 0 0),(3,.ptr 1 0),(4,.mref 2),(106,bP v106)],[(kR p),(kX e),BQ]⟩
           refine zz ?_
           rcases Ak h with⟨hc8,h⟩|⟨hc8,h⟩
           . refine zT (test hc8) ?_
             refine wn (Ai 2 (.val (iP (e.Kids.length:Int))::(Ai 3 (.look (.int .i64 (FR [(5,1),(6,1),(20,3)] e.Op).1) (FR [(5,1),(6,1),(20,3)] e.Op).2::(Ai 1 []))))) ⟨[(0,.ptr 0 0),(3,.ptr 1 0),(117,bP ((e.Kids.length:Int) != ((FR [(5,1),(6,1),(20,3)] e.Op).1)))],[(kR p),(kX e),BQ]⟩ (aI (CV e.Kids AH) (aI (Xd [(5,1),(6,1),(20,3)] e.Op) tI)) ?_
             rcases Ak h with⟨hc4,h⟩|⟨hc4,h⟩
             . refine zT (test hc4) ?_
               refine wn (Ai 4 []) ⟨[(0,.ptr 0 0),(3,.ptr 1 0)],[[oT p.l,bP true],(kX e),BQ]⟩ tI ?_
               cases h
               exact rt hQ
             . refine zF (test hc4) ?_
               refine wn (Ai 2 []) ⟨[(0,.ptr 0 0),(3,.ptr 1 0),(122,iP e.Op)],[(kR p),(kX e),BQ]⟩ tI ?_
               refine zB ?_
               refine wn (Ai 2 []) ⟨[(0,.ptr 0 0),(3,.ptr 1 0),(122,iP e.Op),(147,bP (e.Op == 5))],[(kR p),(kX e),BQ]⟩ tI ?_
               rcases Ak h with⟨hc3,h⟩|⟨hc3,h⟩
               . refine zT (test hc3) ?_
                 obtain⟨l3,hl3,h⟩:=Ae h
                 have fb3:([[tP ⟨#[33]⟩]]:List (List PV))=l3.map BD:=by rw [<- Ac hl3];simp only [List.map_cons,List.map_nil,By]
                 obtain⟨s3,hs3,h⟩:=Ae h
                 refine wn (Ai 1 (.val (oS l3)::(.meth (.tup []) (kR s3.2)::[]))) ⟨[(0,.ptr 0 0),(3,.ptr 1 0)],[(kR s3.2),(kX e),BQ]⟩ (aI (Cb rfl fb3) (aI (AK n p l3 s3 hs3) tI)) ?_
                 obtain⟨x1,hx1,h⟩:=Ae h
                 obtain⟨o_2,ho_2,h⟩:=Ae h
                 refine wn (Ai 3 (.val (.vptr (kX x1) 0)::(Ai 1 (.meth (.tup []) (kR o_2.2)::[])))) ⟨[],[(kR o_2.2),(kX e),BQ]⟩ (aI (oi hx1 Bw (AE x1)) (aI (ih_parse_printer_operand n hn s3.2 x1 3 o_2 ho_2) tI)) ?_
                 cases h
                 exact rt hQ
               . refine zF (test hc3) ?_
                 refine wn (Ai 2 []) ⟨[(0,.ptr 0 0),(3,.ptr 1 0),(158,bP (e.Op == 6))],[(kR p),(kX e),BQ]⟩ tI ?_
                 rcases Ak h with⟨hc2,h⟩|⟨hc2,h⟩
                 . refine zT (test hc2) ?_
                   obtain⟨l4,hl4,h⟩:=Ae h
                   have fb4:([[tP ⟨#[45]⟩]]:List (List PV))=l4.map BD:=by rw [<- Ac hl4];simp only [List.map_cons,List.map_nil,By]
                   obtain⟨s4,hs4,h⟩:=Ae h
                   refine wn (Ai 1 (.val (oS l4)::(.meth (.tup []) (kR s4.2)::[]))) ⟨[(0,.ptr 0 0),(3,.ptr 1 0)],[(kR s4.2),(kX e),BQ]⟩ (aI (Cb rfl fb4) (aI (AK n p l4 s4 hs4) tI)) ?_
                   obtain⟨x2,hx2,h⟩:=Ae h
                   obtain⟨o_3,ho_3,h⟩:=Ae h
                   refine wn (Ai 3 (.val (.vptr (kX x2) 0)::(Ai 1 (.meth (.tup []) (kR o_3.2)::[])))) ⟨[],[(kR o_3.2),(kX e),BQ]⟩ (aI (oi hx2 Bw (AE x2)) (aI (ih_parse_printer_operand n hn s4.2 x2 7 o_3 ho_3) tI)) ?_
                   cases h
                   exact rt hQ
                 . refine zF (test hc2) ?_
                   obtain⟨x3,hx3,h⟩:=Ae h
                   obtain⟨o_4,ho_4,h⟩:=Ae h
                   refine wn (Ai 3 (.val (.vptr (kX x3) 0)::(Ai 1 (.meth (.tup []) (kR o_4.2)::[])))) ⟨[(0,.ptr 0 0),(3,.ptr 1 0)],[(kR o_4.2),(kX e),BQ]⟩ (aI (oi hx3 Bw (AE x3)) (aI (ih_parse_printer_operand n hn p x3 1 o_4 ho_4) tI)) ?_
                   obtain⟨l5,hl5,h⟩:=Ae h
                   have fb5:([[tP ⟨#[63]⟩]]:List (List PV))=l5.map BD:=by rw [<- Ac hl5];simp only [List.map_cons,List.map_nil,By]
                   obtain⟨s5,hs5,h⟩:=Ae h
                   refine wn (Ai 1 (.val (oS l5)::(.meth (.tup []) (kR s5.2)::[]))) ⟨[(0,.ptr 0 0),(3,.ptr 1 0)],[(kR s5.2),(kX e),BQ]⟩ (aI (Cb rfl fb5) (aI (AK n o_4.2 l5 s5 hs5) tI)) ?_
                   obtain⟨x4,hx4,h⟩:=Ae h
                   obtain⟨o_5,ho_5,h⟩:=Ae h
                   refine wn (Ai 3 (.val (.vptr (kX x4) 0)::(Ai 1 (.meth (.tup []) (kR o_5.2)::[])))) ⟨[(0,.ptr 0 0),(3,.ptr 1 0)],[(kR o_5.2),(kX e),BQ]⟩ (aI (oi hx4 Bw (AE x4)) (aI (ih_parse_printer_operand n hn s5.2 x4 0 o_5 ho_5) tI)) ?_
                   obtain⟨l6,hl6,h⟩:=Ae h
                   have fb6:([[tP ⟨#[58]⟩]]:List (List PV))=l6.map BD:=by rw [<- Ac hl6];simp only [List.map_cons,List.map_nil,By]
                   obtain⟨s6,hs6,h⟩:=Ae h
                   refine wn (Ai 1 (.val (oS l6)::(.meth (.tup []) (kR s6.2)::[]))) ⟨[(0,.ptr 0 0),(3,.ptr 1 0)],[(kR s6.2),(kX e),BQ]⟩ (aI (Cb rfl fb6) (aI (AK n o_5.2 l6 s6 hs6) tI)) ?_
                   obtain⟨x5,hx5,h⟩:=Ae h
                   obtain⟨o_6,ho_6,h⟩:=Ae h
                   refine wn (Ai 3 (.val (.vptr (kX x5) 0)::(Ai 1 (.meth (.tup []) (kR o_6.2)::[])))) ⟨[],[(kR o_6.2),(kX e),BQ]⟩ (aI (oi hx5 Bw (AE x5)) (aI (ih_parse_printer_operand n hn s6.2 x5 0 o_6 ho_6) tI)) ?_
                   cases h
                   exact rt hQ
           . refine zF (test hc8) ?_
             obtain⟨o_7,ho_7,h⟩:=Ae h
             obtain⟨k,hk,h⟩:=Ae h
             refine wn (.call (oP o_7 Ar)::(Ai 1 (.site (iP k) [(kR p),(kX e),BQ]::(Ai 1 [])))) ⟨[(0,.ptr 0 0),(3,.ptr 1 0),(7,iP k)],[(kR p),(kX e),BQ]⟩ (aI (CY o_7 ho_7) (aI (FG n p.l p.bad e.Op e.N e.S e.Kids e.At o_7 k hk) tI)) ?_
             obtain⟨y2,e3,h⟩:=Ae h
             refine AJ (A:=Bool) (fun v=>v=y2) (fun v24=>⟨[(0,.ptr 0 0),(3,.ptr 1 0),(7,iP k),(24,bP v24)],[(kR p),(kX e),BQ]⟩) ?_ ?_
             . rintro v24 rfl
               show WS _ _ _ _ _ ⟨[(0,.ptr 0 0),(3,.ptr 1 0),(7,iP k),(24,bP v24)],[(kR p),(kX e),BQ]⟩
               refine zz ?_
               rcases Ak h with⟨hc6,h⟩|⟨hc6,h⟩
               . refine zT (test hc6) ?_
                 refine wn (Ai 4 []) ⟨[(0,.ptr 0 0),(3,.ptr 1 0),(7,iP k)],[[oT p.l,bP true],(kX e),BQ]⟩ tI ?_
                 cases h
                 exact rt hQ
               . refine zF (test hc6) ?_
                 obtain⟨o_8,ho_8,h⟩:=Ae h
                 obtain⟨x6,hx6,h⟩:=Ae h
                 refine wn (.call (oP o_8 Ar)::(Ai 1 (.val (.vptr [tP x6.sign,iP x6.op,iP x6.level] 0)::(Ai 3 [])))) ⟨[(0,.ptr 0 0),(3,.ptr 1 0),(8,.ptr 3 0)],[(kR p),(kX e),BQ,[tP x6.sign,iP x6.op,iP x6.level]]⟩ (aI (CY o_8 ho_8) (aI (oi hx6 Cz (Cn x6)) tI)) ?_
                 refine wn (Ai 3 []) ⟨[(0,.ptr 0 0),(3,.ptr 1 0),(8,.ptr 3 0),(9,iP x6.level)],[(kR p),(kX e),BQ,[tP x6.sign,iP x6.op,iP x6.level]]⟩ tI ?_
                 refine wn (Ai 2 []) ⟨[(0,.ptr 0 0),(3,.ptr 1 0),(8,.ptr 3 0),(9,iP x6.level),(35,bP (x6.level == 4))],[(kR p),(kX e),BQ,[tP x6.sign,iP x6.op,iP x6.level]]⟩ tI ?_
                 obtain⟨y3,e4,h⟩:=Ae h
                 refine AJ (A:=Int) (fun v=>v=y3) (fun left=>⟨[(0,.ptr 0 0),(3,.ptr 1 0),(8,.ptr 3 0),(9,iP left)],[(kR p),(kX e),BQ,[tP x6.sign,iP x6.op,iP x6.level]]⟩) ?_ ?_
                 . rintro left rfl
                   show WS _ _ _ _ _ ⟨[(0,.ptr 0 0),(3,.ptr 1 0),(8,.ptr 3 0),(9,iP left)],[(kR p),(kX e),BQ,[tP x6.sign,iP x6.op,iP x6.level]]⟩
                   refine zz ?_
                   obtain⟨x7,hx7,h⟩:=Ae h
                   obtain⟨o_9,ho_9,h⟩:=Ae h
                   refine wn (Ai 3 (.val (.vptr (kX x7) 0)::(Ai 2 (.meth (.tup []) (kR o_9.2)::[])))) ⟨[(0,.ptr 0 0),(3,.ptr 1 0),(8,.ptr 3 0),(9,iP left)],[(kR o_9.2),(kX e),BQ,[tP x6.sign,iP x6.op,iP x6.level]]⟩ (aI (oi hx7 Bw (AE x7)) (aI (ih_parse_printer_operand n hn p x7 left o_9 ho_9) tI)) ?_
                   obtain⟨l7,hl7,h⟩:=Ae h
                   have fb7:([[tP x6.sign]]:List (List PV))=l7.map BD:=by rw [<- Ac hl7];simp only [List.map_cons,List.map_nil,By]
                   obtain⟨s7,hs7,h⟩:=Ae h
                   refine wn (Ai 3 (.val (oS l7)::(.meth (.tup []) (kR s7.2)::[]))) ⟨[(0,.ptr 0 0),(3,.ptr 1 0),(8,.ptr 3 0),(9,iP left)],[(kR s7.2),(kX e),BQ,[tP x6.sign,iP x6.op,iP x6.level]]⟩ (aI (Cb rfl fb7) (aI (AK n o_9.2 l7 s7 hs7) tI)) ?_
                   obtain⟨x8,hx8,h⟩:=Ae h
                   obtain⟨o_10,ho_10,h⟩:=Ae h
                   refine wn (Ai 3 (.val (.vptr (kX x8) 0)::(Ai 6 (.meth (.tup []) (kR o_10.2)::[])))) ⟨[],[(kR o_10.2),(kX e),BQ,[tP x6.sign,iP x6.op,iP x6.level]]⟩ (aI (oi hx8 Bw (AE x8)) (aI (ih_parse_printer_operand n hn s7.2 x8 (if (IntKind.i64.wrap (x6.level+1)) > left then (IntKind.i64.wrap (x6.level+1)) else left) o_10 ho_10) tI)) ?_
                   cases h
                   exact rt hQ
                 . intro hJ3
                   refine zz ?_
                   rcases Ak e4 with⟨hc5,e4⟩|⟨hc5,e4⟩
                   . refine zT (test hc5) ?_
                     refine wq (Ai 1 []) ⟨[(0,.ptr 0 0),(3,.ptr 1 0),(8,.ptr 3 0),(9,iP 5)],[(kR p),(kX e),BQ,[tP x6.sign,iP x6.op,iP x6.level]]⟩ tI ?_
                     exact zz (BN [0,3,8,9] 4 rfl (lb rfl) rfl (hJ3 5 (Ac e4)))
                   . refine Aj (test hc5) ?_
                     exact zz (BN [0,3,8,9] 4 rfl (lb rfl) rfl (hJ3 x6.level (Ac e4)))
             . intro hJ2
               rcases Ak e3 with⟨hc7,e3⟩|⟨hc7,e3⟩
               . exact wq (Ai 2 (yT::(Ai 5 []))) _ (aI (Aw hc7) tI) (hJ2 true (Ac e3))
               . exact wq (Ai 2 (yF::(Ai 2 (.val (iP (e.Kids.length:Int))::(Ai 2 []))))) _ (aI (Aw hc7) (aI (CV e.Kids AH) tI)) (hJ2 ((e.Kids.length:Int) != 2) (Ac e3))
         . intro hJ1
           refine zz ?_
           rcases Ak e2 with⟨hc10,e2⟩|⟨hc10,e2⟩
           . refine Ap (test hc10) ?_
             exact zz (BN [0,3,4,106] 3 rfl (lb rfl) rfl (hJ1 (e.Op == 5) (Ac e2)))
           . refine zF (test hc10) ?_
             refine wn (Ai 2 []) ⟨[(0,.ptr 0 0),(3,.ptr 1 0),(4,.mref 2),(13,iP e.Op),(106,bP (e.Op == 6))],[(kR p),(kX e),BQ]⟩ tI ?_
             rcases Ak e2 with⟨hc9,e2⟩|⟨hc9,e2⟩
             . refine Ap (test hc9) ?_
               exact zz (BN [0,3,4,106] 3 rfl (lb rfl) rfl (hJ1 (e.Op == 6) (Ac e2)))
             . refine zF (test hc9) ?_
               refine wq (Ai 2 []) ⟨[(0,.ptr 0 0),(3,.ptr 1 0),(4,.mref 2),(106,bP (e.Op == 20))],[(kR p),(kX e),BQ]⟩ tI ?_
               exact zz (BN [0,3,4,106] 3 rfl (lb rfl) rfl (hJ1 (e.Op == 20) (Ac e2)))
theorem Gx (n0:Nat)
 (ih_parse_printer_expr:∀ m,m<=n0->∀ (p:Ag) (e:Aa) (r:(Unit×Ag)),AZ m p e=some r->CA Tryz.prog 42 [.agg (kX e)] (kR p) (.ret (.tup [])) (kR r.2))
 (ih_parse_printer_operand:∀ m,m<=n0->∀ (p:Ag) (e:Aa) (need:Int) (r:(Unit×Ag)),A8 m p e need=some r->CA Tryz.prog 68 [.agg (kX e),iP need] (kR p) (.ret (.tup [])) (kR r.2))
 (n:Nat) (hn:n<=n0) (p:Ag) (e:Aa) (need:Int) (r:(Unit×Ag)) (h:A8 (n+1) p e need=some r) (Q:B7->List (List PV)->Prop) (hQ:∀ y,shareP y=.tup []->Q (.ret y) [(kR r.2)]) :
 VC Tryz.prog 68 (.ptr 0 0::[.agg (kX e),iP need]) [(kR p)] Q:=by
 replace h:=(A8.eq_2 (n:=n) _ _ _).symm.trans h
 refine VC.intro ⟨[0,1,2,4,9],[]⟩ Tryz.func68 rfl follows XU (by rw [Tryz.ntmps68];exact lb rfl) ?_
 refine B4 ?_
 refine zz ?_
 refine wn (Ai 1 []) ⟨[(0,.ptr 0 0),(2,iP need),(4,.ptr 1 0)],[(kR p),(kX e)]⟩ tI ?_
 obtain⟨l,hl,h⟩:=Ae h
 refine wn (Ai 1 (.call (iP l)::(Ai 2 []))) ⟨[(0,.ptr 0 0),(4,.ptr 1 0),(9,bP (decide (need<=l)))],[(kR p),(kX e)]⟩ (aI (N6 n e l hl) tI) ?_
 rcases Ak h with⟨hc,h⟩|⟨hc,h⟩
 . refine zT (test hc) ?_
   obtain⟨e1,he1,h⟩:=Ae h
   refine wn (Ai 2 (.meth (.tup []) (kR e1.2)::[])) ⟨[(0,.ptr 0 0),(4,.ptr 1 0)],[(kR e1.2),(kX e)]⟩ (aI (ih_parse_printer_expr n hn p e e1 he1) tI) ?_
   cases h
   exact rt hQ
 . refine zF (test hc) ?_
   obtain⟨l1,hl1,h⟩:=Ae h
   have fb:([[tP ⟨#[40]⟩]]:List (List PV))=l1.map BD:=by rw [<- Ac hl1];simp only [List.map_cons,List.map_nil,By]
   obtain⟨s,hs,h⟩:=Ae h
   refine wn (Ai 1 (.val (oS l1)::(.meth (.tup []) (kR s.2)::[]))) ⟨[(0,.ptr 0 0),(4,.ptr 1 0)],[(kR s.2),(kX e)]⟩ (aI (Cb rfl fb) (aI (AK n p l1 s hs) tI)) ?_
   obtain⟨e2,he2,h⟩:=Ae h
   refine wn (Ai 2 (.meth (.tup []) (kR e2.2)::[])) ⟨[(0,.ptr 0 0)],[(kR e2.2),(kX e)]⟩ (aI (ih_parse_printer_expr n hn s.2 e e2 he2) tI) ?_
   obtain⟨l2,hl2,h⟩:=Ae h
   have fb1:([[tP ⟨#[41]⟩]]:List (List PV))=l2.map BD:=by rw [<- Ac hl2];simp only [List.map_cons,List.map_nil,By]
   obtain⟨s1,hs1,h⟩:=Ae h
   refine wn (Ai 1 (.val (oS l2)::(.meth (.tup []) (kR s1.2)::[]))) ⟨[],[(kR s1.2),(kX e)]⟩ (aI (Cb rfl fb1) (aI (AK n e2.2 l2 s1 hs1) tI)) ?_
   cases h
   exact rt hQ
theorem E0:∀ n:Nat,(∀ m,m<=n->∀ (p:Ag) (e:Aa) (r:(Unit×Ag)),AZ m p e=some r->CA Tryz.prog 42 [.agg (kX e)] (kR p) (.ret (.tup [])) (kR r.2))/\(∀ m,m<=n->∀ (p:Ag) (e:Aa) (need:Int) (r:(Unit×Ag)),A8 m p e need=some r->CA Tryz.prog 68 [.agg (kX e),iP need] (kR p) (.ret (.tup [])) (kR r.2))
 |0=>⟨(fun m hm p e r h=>by
  obtain rfl:m=0:=by omega
  exact absurd h (by simp [AZ])),
  (fun m hm p e need r h=>by
   obtain rfl:m=0:=by omega
   exact absurd h (by simp [A8]))⟩
 |n+1=>by
  have ih:=E0 n
  exact⟨fun m hm p e r h=>by
   cases m with
   |zero=>exact absurd h (by simp [AZ])
   |succ m=>exact CA.fin (fun Q hQ=>H7 n (ih.1) (ih.2) m (by omega) p e _ h Q hQ),
  fun m hm p e need r h=>by
   cases m with
   |zero=>exact absurd h (by simp [A8])
   |succ m=>exact CA.fin (fun Q hQ=>Gx n (ih.1) (ih.2) m (by omega) p e need _ h Q hQ)⟩
theorem Ft (n:Nat)(p:Ag)(e:Aa)(r:(Unit×Ag))(h:AZ n p e=some r):CA Tryz.prog 42 [.agg (kX e)] (kR p) (.ret (.tup [])) (kR r.2) :=
 (E0 n).1 n (Nat.le_refl _) p e r h
end Go.Proofs.YtgdalmleogphgaaGreatDoor

