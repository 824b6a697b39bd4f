/-
  The walks: printer: the program computes the plain functions. (Printed by lift.py.) The walks: ref: the program computes the plain functions. (Printed by lift.py.)
-/
import Derived.Test.YtgdalmleogphgaaGreatDoorU28
namespace Go.Proofs.YtgdalmleogphgaaGreatDoor
open Go.RowKit Go.Q Go.Vl Go.Sp
set_option maxRecDepth 100000
set_option linter.unusedSimpArgs false
set_option maxHeartbeats 4000000
set_option linter.unusedVariables false
theorem vparse_printer_number_0 (p:parse_printer)(n_:Int)(r:(Unit×parse_printer))(h:parse_printer_number p n_=some r)(Q:AEnd->List (List PV)->Prop)(hQ:∀ y,shareP y=.tup []->Q (.ret y) [(kR r.2)]) :
 VC Tryz.prog 62 (.ptr 0 0::[iP n_]) [(kR p)] Q:=by
 unfold parse_printer_number at h
 refine VC.intro ⟨[0,1],[]⟩ Tryz.func62 rfl follows ok62 (by rw [Tryz.ntmps62];exact lb rfl) ?_
 refine WS_ofR ?_
 refine zz ?_
 obtain⟨y,e,h⟩:=bindS h
 refine WS_meet (A:=Bool) (fun v=>v=y) (fun p1=>⟨[(0,.ptr 0 0),(1,iP n_)],[[oT p.l,bP p1]]⟩) ?_ ?_
 . rintro p1 rfl
   show WS _ _ _ _ _ ⟨[(0,.ptr 0 0),(1,iP n_)],[[oT p.l,bP p1]]⟩
   refine zz ?_
   obtain⟨l,hl,h⟩:=bindS h
   have fb:([[iP 2,iP 0,tP ⟨#[]⟩,iP n_]]:List (List PV))=l.map row_api_Token:=by rw [<- Option.some.inj hl];simp only [List.map_cons,List.map_nil,row_api_Token_eq]
   obtain⟨l1,hl1,h⟩:=bindS h
   refine wn (nos 7 (.val (oT l)::(.val (oT l1)::(nos 3 [])))) ⟨[],[[oT l1,bP p1]]⟩ (aI (obuild rfl fb) (aI (oapp hl1 row_api_Token_len) tI)) ?_
   cases h
   exact rt hQ
 . intro hJ
   rcases condS e with⟨hc,e⟩|⟨hc,e⟩
   . exact wq (nos 5 (yT::(nos 10 []))) _ (aI (otest hc) tI) (hJ true (Option.some.inj e))
   . rcases condS e with⟨hc1,e⟩|⟨hc1,e⟩
     . exact wq (nos 5 (yF::(nos 3 (yT::(nos 6 []))))) _ (aI (otest hc) (aI (otest hc1) tI)) (hJ true (Option.some.inj e))
     . exact wq (nos 5 (yF::(nos 3 (yF::(nos 6 []))))) _ (aI (otest hc) (aI (otest hc1) tI)) (hJ (decide (999999999999999<n_)) (Option.some.inj e))
theorem vparse_printer_number (p:parse_printer)(n_:Int)(r:(Unit×parse_printer))(h:parse_printer_number p n_=some r):VCm Tryz.prog 62 [iP n_] (kR p) (.ret (.tup [])) (kR r.2):=VCm.fin (fun Q hQ=>vparse_printer_number_0 p n_ _ h Q hQ)
theorem vparse_printer_text_0 (n:Nat)(p:parse_printer)(s:ByteArray)(r:(Unit×parse_printer))(h:parse_printer_text n p s=some r)(Q:AEnd->List (List PV)->Prop)(hQ:∀ y,shareP y=.tup []->Q (.ret y) [(kR r.2)]) :
 VC Tryz.prog 63 (.ptr 0 0::[tP s]) [(kR p)] Q:=by
 unfold parse_printer_text at h
 refine VC.intro ⟨[0,1,4,18,19,20],[]⟩ Tryz.func63 rfl follows ok63 (by rw [Tryz.ntmps63];exact lb rfl) ?_
 refine WS_ofR ?_
 refine zz ?_
 obtain⟨y,e,h⟩:=bindS h
 refine WS_meet (A:=Bool) (fun v=>v=y) (fun p1=>⟨[(0,.ptr 0 0),(1,tP s)],[[oT p.l,bP p1]]⟩) ?_ ?_
 . rintro p1 rfl
   show WS _ _ _ _ _ ⟨[(0,.ptr 0 0),(1,tP s)],[[oT p.l,bP p1]]⟩
   refine zz ?_
   refine wn (nos 3 []) ⟨[(0,.ptr 0 0),(1,tP s),(18,iP (s.size:Int)),(19,iP 0)],[[oT p.l,bP p1]]⟩ tI ?_
   obtain⟨y1,e1,h⟩:=bindS h
   refine WS_meet (A:=Bool) (fun v=>v=y1) (fun p2=>⟨[(0,.ptr 0 0),(1,tP s)],[[oT p.l,bP p2]]⟩) ?_ ?_
   . rintro p2 rfl
     show WS _ _ _ _ _ ⟨[(0,.ptr 0 0),(1,tP s)],[[oT p.l,bP p2]]⟩
     refine zz ?_
     obtain⟨l,hl,h⟩:=bindS h
     have fb:([[iP 3,iP 0,tP s,iP 0]]:List (List PV))=l.map row_api_Token:=by rw [<- Option.some.inj hl];simp only [List.map_cons,List.map_nil,row_api_Token_eq]
     obtain⟨l1,hl1,h⟩:=bindS h
     refine wn (nos 7 (.val (oT l)::(.val (oT l1)::(nos 3 [])))) ⟨[],[[oT l1,bP p2]]⟩ (aI (obuild rfl fb) (aI (oapp hl1 row_api_Token_len) tI)) ?_
     cases h
     exact rt hQ
   . intro hJ1
     refine zz ?_
     refine zB ?_
     refine WS_for [0,1,18,19] 1 (fun a:Nat×(Int×Bool)=>parse_printer_text_l1 a.1 s a.2.1 a.2.2=some y1) (fun a=>a.1) (fun a:Nat×(Int×Bool)=>match a with|(_,(v19,p3))=>⟨[(0,.ptr 0 0),(1,tP s),(18,iP (s.size:Int)),(19,iP v19)],[[oT p.l,bP p3]]⟩) (n,(0,p1)) (lb rfl) rfl e1 ?_
     clear e1
     rintro⟨n,v19,p3⟩ e1
     show WS _ _ _ _ _ ⟨[(0,.ptr 0 0),(1,tP s),(18,iP (s.size:Int)),(19,iP v19)],[[oT p.l,bP p3]]⟩
     cases n with
     |zero=>exact absurd e1 (by simp [parse_printer_text_l1])
     |succ n =>
      replace e1:=(parse_printer_text_l1.eq_2 (n:=n) _ _ _).symm.trans e1
      refine zz ?_
      refine wn (nos 1 []) ⟨[(0,.ptr 0 0),(1,tP s),(18,iP (s.size:Int)),(19,iP v19),(20,bP (decide (v19<(s.size:Int))))],[[oT p.l,bP p3]]⟩ tI ?_
      rcases condS e1 with⟨hc4,e1⟩|⟨hc4,e1⟩
      . refine zT (test hc4) ?_
        refine zB ?_
        refine wn (nos 2 []) ⟨[(0,.ptr 0 0),(1,tP s),(4,iP v19),(18,iP (s.size:Int)),(19,iP v19)],[[oT p.l,bP p3]]⟩ tI ?_
        obtain⟨y2,e2,e1⟩:=bindS e1
        refine WS_meet (A:=Bool) (fun v=>v=y2) (fun p4=>⟨[(0,.ptr 0 0),(1,tP s),(18,iP (s.size:Int)),(19,iP v19)],[[oT p.l,bP p4]]⟩) ?_ ?_
        . rintro p4 rfl
          show WS _ _ _ _ _ ⟨[(0,.ptr 0 0),(1,tP s),(18,iP (s.size:Int)),(19,iP v19)],[[oT p.l,bP p4]]⟩
          refine zz ?_
          refine wq (nos 2 []) ⟨[(0,.ptr 0 0),(1,tP s),(18,iP (s.size:Int)),(19,iP (IntKind.i64.wrap (v19+1)))],[[oT p.l,bP p4]]⟩ tI ?_
          exact zz (WS_again (n,((IntKind.i64.wrap (v19+1)),p4)) rfl e1 (Nat.lt_succ_self _))
        . intro hJ2
          rcases condS e2 with⟨hc,e2⟩|⟨hc,e2⟩
          . exact wq (nos 5 (yT::(nos 20 []))) _ (aI (otest hc) tI) (hJ2 true (Option.some.inj e2))
          . obtain⟨c,hc1,e2⟩:=bindS e2
            rcases condS e2 with⟨hc2,e2⟩|⟨hc2,e2⟩
            . rcases condS e2 with⟨hc3,e2⟩|⟨hc3,e2⟩
              . exact wq (nos 5 (yF::(nos 2 (.val (uP c)::(nos 1 (yT::(nos 2 (.val (uP c)::(nos 1 (yT::(nos 10 []))))))))))) _ (aI (otest hc) (aI (ob hc1) (aI (otest hc2) (aI (ob hc1) (aI (otest hc3) tI))))) (hJ2 true (Option.some.inj e2))
              . exact wq (nos 5 (yF::(nos 2 (.val (uP c)::(nos 1 (yT::(nos 2 (.val (uP c)::(nos 1 (yF::(nos 2 (.val (uP c)::(nos 7 []))))))))))))) _ (aI (otest hc) (aI (ob hc1) (aI (otest hc2) (aI (ob hc1) (aI (otest hc3) (aI (ob hc1) tI)))))) (hJ2 (decide (126<c)) (Option.some.inj e2))
            . exact wq (nos 5 (yF::(nos 2 (.val (uP c)::(nos 1 (yF::(nos 15 []))))))) _ (aI (otest hc) (aI (ob hc1) (aI (otest hc2) tI))) (hJ2 false (Option.some.inj e2))
      . refine zF (test hc4) ?_
        try refine z5 rfl ?_
        exact zz (WS_wk [0,1] 1 rfl (lb rfl) rfl (hJ1 p3 (Option.some.inj e1)))
 . intro hJ
   rcases condS e with⟨hc5,e⟩|⟨hc5,e⟩
   . exact wq (nos 5 (yT::(nos 7 []))) _ (aI (otest hc5) tI) (hJ true (Option.some.inj e))
   . exact wq (nos 5 (yF::(nos 7 []))) _ (aI (otest hc5) tI) (hJ (decide (200<(s.size:Int))) (Option.some.inj e))
theorem vparse_printer_text (n:Nat)(p:parse_printer)(s:ByteArray)(r:(Unit×parse_printer))(h:parse_printer_text n p s=some r):VCm Tryz.prog 63 [tP s] (kR p) (.ret (.tup [])) (kR r.2):=VCm.fin (fun Q hQ=>vparse_printer_text_0 n p s _ h Q hQ)
theorem vparse_printer_name_1_0 (c:Int)(r:Bool)(h:parse_printer_name_1 c=some r)(Q:AEnd->List (List PV)->Prop)(hQ:∀ y,shareP y=bP r->Q (.ret y) []) :
 VC Tryz.prog 87 [uP c] [] Q:=by
 unfold parse_printer_name_1 at h
 refine VC.intro ⟨[0,2],[]⟩ Tryz.func87 rfl follows ok87 (by rw [Tryz.ntmps87];exact lb rfl) ?_
 refine WS_ofR ?_
 refine zz ?_
 refine wn (nos 1 []) ⟨[(0,uP c),(2,bP false)],[]⟩ tI ?_
 obtain⟨y,e,h⟩:=bindS h
 refine WS_meet (A:=Bool) (fun v=>v=y) (fun v2=>⟨[(2,bP v2)],[]⟩) ?_ ?_
 . rintro v2 rfl
   show WS _ _ _ _ _ ⟨[(2,bP v2)],[]⟩
   refine zz ?_
   cases h
   exact rt hQ
 . intro hJ
   rcases condS e with⟨hc,e⟩|⟨hc,e⟩
   . rcases condS e with⟨hc1,e⟩|⟨hc1,e⟩
     . exact wq (nos 3 (yT::(nos 4 (yT::(nos 4 []))))) _ (aI (otest hc) (aI (otest hc1) tI)) (hJ true (Option.some.inj e))
     . exact wq (nos 3 (yT::(nos 4 (yF::(nos 4 []))))) _ (aI (otest hc) (aI (otest hc1) tI)) (hJ (c == 95) (Option.some.inj e))
   . exact wq (nos 3 (yF::(nos 9 []))) _ (aI (otest hc) tI) (hJ (c == 95) (Option.some.inj e))
theorem vparse_printer_name_1 (c:Int)(r:Bool)(h:parse_printer_name_1 c=some r):VCp Tryz.prog 87 [uP c] (bP r):=VC.fin (fun Q hQ=>vparse_printer_name_1_0 c _ h Q hQ) rfl rfl
theorem vparse_printer_name_0 (n:Nat)(p:parse_printer)(s:ByteArray)(r:(Unit×parse_printer))(h:parse_printer_name n p s=some r)(Q:AEnd->List (List PV)->Prop)(hQ:∀ y,shareP y=.tup []->Q (.ret y) [(kR r.2)]) :
 VC Tryz.prog 60 (.ptr 0 0::[tP s]) [(kR p)] Q:=by
 unfold parse_printer_name at h
 refine VC.intro ⟨[0,1,4,5,6,16,17,18],[]⟩ Tryz.func60 rfl follows ok60 (by rw [Tryz.ntmps60];exact lb rfl) ?_
 refine WS_ofR ?_
 refine zz ?_
 refine wn (nos 1 []) ⟨[(0,.ptr 0 0),(1,tP s),(4,.fn 87 [])],[(kR p)]⟩ tI ?_
 obtain⟨y,e,h⟩:=bindS h
 refine WS_meet (A:=Bool) (fun v=>v=y) (fun ok=>⟨[(0,.ptr 0 0),(1,tP s),(4,.fn 87 []),(5,bP ok)],[(kR p)]⟩) ?_ ?_
 . rintro ok rfl
   show WS _ _ _ _ _ ⟨[(0,.ptr 0 0),(1,tP s),(4,.fn 87 []),(5,bP ok)],[(kR p)]⟩
   refine zz ?_
   refine wn (nos 3 []) ⟨[(0,.ptr 0 0),(1,tP s),(4,.fn 87 []),(5,bP ok),(16,iP (s.size:Int)),(17,iP 0)],[(kR p)]⟩ tI ?_
   obtain⟨y1,e1,h⟩:=bindS h
   refine WS_meet (A:=Bool) (fun v=>v=y1) (fun ok1=>⟨[(0,.ptr 0 0),(1,tP s),(5,bP ok1)],[(kR p)]⟩) ?_ ?_
   . rintro ok1 rfl
     show WS _ _ _ _ _ ⟨[(0,.ptr 0 0),(1,tP s),(5,bP ok1)],[(kR p)]⟩
     refine zz ?_
     obtain⟨y2,e2,h⟩:=bindS h
     refine WS_meet (A:=Bool) (fun v=>v=y2) (fun p1=>⟨[(0,.ptr 0 0),(1,tP s)],[[oT p.l,bP p1]]⟩) ?_ ?_
     . rintro p1 rfl
       show WS _ _ _ _ _ ⟨[(0,.ptr 0 0),(1,tP s)],[[oT p.l,bP p1]]⟩
       refine zz ?_
       obtain⟨l,hl,h⟩:=bindS h
       have fb:([[iP 1,iP 0,tP s,iP 0]]:List (List PV))=l.map row_api_Token:=by rw [<- Option.some.inj hl];simp only [List.map_cons,List.map_nil,row_api_Token_eq]
       obtain⟨l1,hl1,h⟩:=bindS h
       refine wn (nos 7 (.val (oT l)::(.val (oT l1)::(nos 3 [])))) ⟨[],[[oT l1,bP p1]]⟩ (aI (obuild rfl fb) (aI (oapp hl1 row_api_Token_len) tI)) ?_
       cases h
       exact rt hQ
     . intro hJ2
       rcases condS e2 with⟨hc,e2⟩|⟨hc,e2⟩
       . exact wq (nos 5 (yT::(nos 6 []))) _ (aI (otest hc) tI) (hJ2 true (Option.some.inj e2))
       . exact wq (nos 5 (yF::(nos 6 []))) _ (aI (otest hc) tI) (hJ2 (!ok1) (Option.some.inj e2))
   . intro hJ1
     refine zz ?_
     refine zB ?_
     refine WS_for [0,1,4,5,16,17] 1 (fun a:Nat×(Bool×Int)=>parse_printer_name_l1 a.1 s a.2.1 a.2.2=some y1) (fun a=>a.1) (fun a:Nat×(Bool×Int)=>match a with|(_,(ok2,v17))=>⟨[(0,.ptr 0 0),(1,tP s),(4,.fn 87 []),(5,bP ok2),(16,iP (s.size:Int)),(17,iP v17)],[(kR p)]⟩) (n,(ok,0)) (lb rfl) rfl e1 ?_
     clear e1
     rintro⟨n,ok2,v17⟩ e1
     show WS _ _ _ _ _ ⟨[(0,.ptr 0 0),(1,tP s),(4,.fn 87 []),(5,bP ok2),(16,iP (s.size:Int)),(17,iP v17)],[(kR p)]⟩
     cases n with
     |zero=>exact absurd e1 (by simp [parse_printer_name_l1])
     |succ n =>
      replace e1:=(parse_printer_name_l1.eq_2 (n:=n) _ _ _).symm.trans e1
      refine zz ?_
      refine wn (nos 1 []) ⟨[(0,.ptr 0 0),(1,tP s),(4,.fn 87 []),(5,bP ok2),(16,iP (s.size:Int)),(17,iP v17),(18,bP (decide (v17<(s.size:Int))))],[(kR p)]⟩ tI ?_
      rcases condS e1 with⟨hc6,e1⟩|⟨hc6,e1⟩
      . refine zT (test hc6) ?_
        refine zB ?_
        refine wn (nos 2 []) ⟨[(0,.ptr 0 0),(1,tP s),(4,.fn 87 []),(5,bP ok2),(6,iP v17),(16,iP (s.size:Int)),(17,iP v17)],[(kR p)]⟩ tI ?_
        obtain⟨y3,e3,e1⟩:=bindS e1
        refine WS_meet (A:=Bool) (fun v=>v=y3) (fun ok3=>⟨[(0,.ptr 0 0),(1,tP s),(4,.fn 87 []),(5,bP ok3),(16,iP (s.size:Int)),(17,iP v17)],[(kR p)]⟩) ?_ ?_
        . rintro ok3 rfl
          show WS _ _ _ _ _ ⟨[(0,.ptr 0 0),(1,tP s),(4,.fn 87 []),(5,bP ok3),(16,iP (s.size:Int)),(17,iP v17)],[(kR p)]⟩
          refine zz ?_
          refine wq (nos 2 []) ⟨[(0,.ptr 0 0),(1,tP s),(4,.fn 87 []),(5,bP ok3),(16,iP (s.size:Int)),(17,iP (IntKind.i64.wrap (v17+1)))],[(kR p)]⟩ tI ?_
          exact zz (WS_again (n,(ok3,(IntKind.i64.wrap (v17+1)))) rfl e1 (Nat.lt_succ_self _))
        . intro hJ3
          rcases condS e3 with⟨hc1,e3⟩|⟨hc1,e3⟩
          . obtain⟨c,hc2,e3⟩:=bindS e3
            obtain⟨n_,hn_,e3⟩:=bindS e3
            rcases condS e3 with⟨hc3,e3⟩|⟨hc3,e3⟩
            . exact wq (nos 1 (yT::(nos 3 (.val (uP c)::(.call (bP n_)::(yT::(nos 17 []))))))) _ (aI (otest hc1) (aI (ob hc2) (aI (vparse_printer_name_1 c n_ hn_) (aI (otest hc3) tI)))) (hJ3 true (Option.some.inj e3))
            . rcases condS e3 with⟨hc4,e3⟩|⟨hc4,e3⟩
              . rcases condS e3 with⟨hc5,e3⟩|⟨hc5,e3⟩
                . exact wq (nos 1 (yT::(nos 3 (.val (uP c)::(.call (bP n_)::(yF::(nos 2 (yT::(nos 2 (.val (uP c)::(nos 2 (yT::(nos 2 (.val (uP c)::(nos 5 []))))))))))))))) _ (aI (otest hc1) (aI (ob hc2) (aI (vparse_printer_name_1 c n_ hn_) (aI (otest hc3) (aI (otest hc4) (aI (ob hc2) (aI (otest hc5) (aI (ob hc2) tI)))))))) (hJ3 (decide (c<=57)) (Option.some.inj e3))
                . exact wq (nos 1 (yT::(nos 3 (.val (uP c)::(.call (bP n_)::(yF::(nos 2 (yT::(nos 2 (.val (uP c)::(nos 2 (yF::(nos 8 []))))))))))))) _ (aI (otest hc1) (aI (ob hc2) (aI (vparse_printer_name_1 c n_ hn_) (aI (otest hc3) (aI (otest hc4) (aI (ob hc2) (aI (otest hc5) tI))))))) (hJ3 false (Option.some.inj e3))
              . exact wq (nos 1 (yT::(nos 3 (.val (uP c)::(.call (bP n_)::(yF::(nos 2 (yF::(nos 14 []))))))))) _ (aI (otest hc1) (aI (ob hc2) (aI (vparse_printer_name_1 c n_ hn_) (aI (otest hc3) (aI (otest hc4) tI))))) (hJ3 false (Option.some.inj e3))
          . exact wq (nos 1 (yF::(nos 23 []))) _ (aI (otest hc1) tI) (hJ3 false (Option.some.inj e3))
      . refine zF (test hc6) ?_
        try refine z5 rfl ?_
        exact zz (WS_wk [0,1,5] 1 rfl (lb rfl) rfl (hJ1 ok2 (Option.some.inj e1)))
 . intro hJ
   rcases condS e with⟨hc7,e⟩|⟨hc7,e⟩
   . exact wq (nos 3 (yT::(nos 5 []))) _ (aI (otest hc7) tI) (hJ (decide ((s.size:Int)<=32)) (Option.some.inj e))
   . exact wq (nos 3 (yF::(nos 5 []))) _ (aI (otest hc7) tI) (hJ false (Option.some.inj e))
theorem vparse_printer_name (n:Nat)(p:parse_printer)(s:ByteArray)(r:(Unit×parse_printer))(h:parse_printer_name n p s=some r):VCm Tryz.prog 60 [tP s] (kR p) (.ret (.tup [])) (kR r.2):=VCm.fin (fun Q hQ=>vparse_printer_name_0 n p s _ h Q hQ)
theorem vparse_printer_signs_0 (n:Nat)(p:parse_printer)(l:(List ByteArray))(r:(Unit×parse_printer))(h:parse_printer_signs n p l=some r)(Q:AEnd->List (List PV)->Prop)(hQ:∀ y,shareP y=.tup []->Q (.ret y) [(kR r.2)]) :
 VC Tryz.prog 61 (.ptr 0 0::[hS l]) [(kR p)] Q:=by
 unfold parse_printer_signs at h
 refine VC.intro ⟨[0,1,5,6,7,8,9],[]⟩ Tryz.func61 rfl follows ok61 (by rw [Tryz.ntmps61];exact lb rfl) ?_
 refine WS_ofR ?_
 refine zz ?_
 refine wn (nos 1 (.val (iP (l.length:Int))::(nos 1 []))) ⟨[(0,.ptr 0 0),(6,hS l),(7,iP (l.length:Int)),(8,iP 0)],[(kR p)]⟩ (aI (olen l row_string) tI) ?_
 obtain⟨y,e,h⟩:=bindS h
 refine WS_meet (A:=(List api_Token)) (fun v=>v=y) (fun p1=>⟨[],[[oT p1,bP p.bad]]⟩) ?_ ?_
 . rintro p1 rfl
   show WS _ _ _ _ _ ⟨[],[[oT p1,bP p.bad]]⟩
   refine zz ?_
   cases h
   exact rt hQ
 . intro hJ
   refine zz ?_
   refine zB ?_
   refine WS_for [0,6,7,8] 1 (fun a:Nat×(Int×(List api_Token))=>parse_printer_signs_l1 a.1 l a.2.1 a.2.2=some y) (fun a=>a.1) (fun a:Nat×(Int×(List api_Token))=>match a with|(_,(v8,p2))=>⟨[(0,.ptr 0 0),(6,hS l),(7,iP (l.length:Int)),(8,iP v8)],[[oT p2,bP p.bad]]⟩) (n,(0,p.l)) (lb rfl) rfl e ?_
   clear e
   rintro⟨n,v8,p2⟩ e
   show WS _ _ _ _ _ ⟨[(0,.ptr 0 0),(6,hS l),(7,iP (l.length:Int)),(8,iP v8)],[[oT p2,bP p.bad]]⟩
   cases n with
   |zero=>exact absurd e (by simp [parse_printer_signs_l1])
   |succ n =>
    replace e:=(parse_printer_signs_l1.eq_2 (n:=n) _ _ _).symm.trans e
    refine zz ?_
    refine wn (nos 1 []) ⟨[(0,.ptr 0 0),(6,hS l),(7,iP (l.length:Int)),(8,iP v8),(9,bP (decide (v8<(l.length:Int))))],[[oT p2,bP p.bad]]⟩ tI ?_
    rcases condS e with⟨hc,e⟩|⟨hc,e⟩
    . refine zT (test hc) ?_
      refine zB ?_
      obtain⟨x,hx,e⟩:=bindS e
      refine wn (.val (.vptr [tP x] 0)::(nos 2 [])) ⟨[(0,.ptr 0 0),(5,tP x),(6,hS l),(7,iP (l.length:Int)),(8,iP v8)],[[oT p2,bP p.bad]]⟩ (aI (oi hx row_string_len (row_string_eq x)) tI) ?_
      obtain⟨l1,hl1,e⟩:=bindS e
      have fb:([[iP 4,iP 0,tP x,iP 0]]:List (List PV))=l1.map row_api_Token:=by rw [<- Option.some.inj hl1];simp only [List.map_cons,List.map_nil,row_api_Token_eq]
      obtain⟨l2,hl2,e⟩:=bindS e
      refine wn (nos 7 (.val (oT l1)::(.val (oT l2)::(nos 3 [])))) ⟨[(0,.ptr 0 0),(6,hS l),(7,iP (l.length:Int)),(8,iP v8)],[[oT l2,bP p.bad]]⟩ (aI (obuild rfl fb) (aI (oapp hl2 row_api_Token_len) tI)) ?_
      refine wq (nos 2 []) ⟨[(0,.ptr 0 0),(6,hS l),(7,iP (l.length:Int)),(8,iP (IntKind.i64.wrap (v8+1)))],[[oT l2,bP p.bad]]⟩ tI ?_
      exact zz (WS_again (n,((IntKind.i64.wrap (v8+1)),l2)) rfl e (Nat.lt_succ_self _))
    . refine zF (test hc) ?_
      try refine z5 rfl ?_
      exact zz (WS_wk [] 1 rfl (lb rfl) rfl (hJ p2 (Option.some.inj e)))
theorem vparse_printer_signs (n:Nat)(p:parse_printer)(l:(List ByteArray))(r:(Unit×parse_printer))(h:parse_printer_signs n p l=some r):VCm Tryz.prog 61 [hS l] (kR p) (.ret (.tup [])) (kR r.2):=VCm.fin (fun Q hQ=>vparse_printer_signs_0 n p l _ h Q hQ)
theorem vparse_level_0 (n:Nat)(e:api_Expr)(r:Int)(h:parse_level n e=some r)(Q:AEnd->List (List PV)->Prop)(hQ:∀ y,shareP y=iP r->Q (.ret y) []) :
 VC Tryz.prog 94 [.agg (kX e)] [] Q:=by
 unfold parse_level at h
 refine VC.intro ⟨[0,1,2,4,6,7,9,11,13,14,15,16,23],[]⟩ Tryz.func94 rfl follows ok94 (by rw [Tryz.ntmps94];exact lb rfl) ?_
 refine WS_ofR ?_
 refine zz ?_
 refine wn (nos 2 []) ⟨[(1,.ptr 0 0),(2,iP 0)],[(kX e)]⟩ tI ?_
 refine wn (nos 2 []) ⟨[(1,.ptr 0 0),(2,iP 0),(6,iP e.Op)],[(kX e)]⟩ tI ?_
 refine zB ?_
 refine wn (nos 2 []) ⟨[(1,.ptr 0 0),(2,iP 0),(6,iP e.Op),(7,bP (e.Op == 20))],[(kX e)]⟩ tI ?_
 rcases condS h with⟨hc4,h⟩|⟨hc4,h⟩
 . refine zT (test hc4) ?_
   refine wn (nos 1 []) ⟨[(1,.ptr 0 0),(2,iP 0)],[(kX e)]⟩ tI ?_
   cases h
   exact rt hQ
 . refine zF (test hc4) ?_
   refine wn (nos 2 []) ⟨[(1,.ptr 0 0),(2,iP 0),(6,iP e.Op),(9,bP (e.Op == 5))],[(kX e)]⟩ tI ?_
   rcases condS h with⟨hc3,h⟩|⟨hc3,h⟩
   . refine zT (test hc3) ?_
     refine wn (nos 1 []) ⟨[(1,.ptr 0 0),(2,iP 3)],[(kX e)]⟩ tI ?_
     cases h
     exact rt hQ
   . refine zF (test hc3) ?_
     refine wn (nos 2 []) ⟨[(1,.ptr 0 0),(2,iP 0),(11,bP (e.Op == 6))],[(kX e)]⟩ tI ?_
     rcases condS h with⟨hc2,h⟩|⟨hc2,h⟩
     . refine zT (test hc2) ?_
       refine wn (nos 1 []) ⟨[(1,.ptr 0 0),(2,iP 7)],[(kX e)]⟩ tI ?_
       cases h
       exact rt hQ
     . refine zF (test hc2) ?_
       obtain⟨o_,ho_,h⟩:=bindS h
       refine wn (.call (oP o_ row_parse_binary)::(.val (iP (o_.length:Int))::(nos 1 []))) ⟨[(1,.ptr 0 0),(2,iP 0),(13,oP o_ row_parse_binary),(14,iP (o_.length:Int)),(15,iP 0)],[(kX e)]⟩ (aI (vparse_operators o_ ho_) (aI (olen o_ row_parse_binary) tI)) ?_
       obtain⟨y,e1,h⟩:=bindS h
       refine WS_meet (A:=Unit) (fun v=>.inl v=y) (fun _=>⟨[(2,iP 0)],[(kX e)]⟩) ?_ ?_
       . rintro _ rfl
         show WS _ _ _ _ _ ⟨[(2,iP 0)],[(kX e)]⟩
         refine zz ?_
         refine wn (nos 1 []) ⟨[(2,iP 8)],[(kX e)]⟩ tI ?_
         cases h
         exact rt hQ
       . intro hJ
         refine zz ?_
         refine zB ?_
         refine WS_for [1,2,13,14,15] 1 (fun a:Nat×Int=>parse_level_l1 a.1 o_ e a.2=some y) (fun a=>a.1) (fun a:Nat×Int=>match a with|(_,v15)=>⟨[(1,.ptr 0 0),(2,iP 0),(13,oP o_ row_parse_binary),(14,iP (o_.length:Int)),(15,iP v15)],[(kX e)]⟩) (n,0) (lb rfl) rfl e1 ?_
         clear e1
         rintro⟨n,v15⟩ e1
         show WS _ _ _ _ _ ⟨[(1,.ptr 0 0),(2,iP 0),(13,oP o_ row_parse_binary),(14,iP (o_.length:Int)),(15,iP v15)],[(kX e)]⟩
         cases n with
         |zero=>exact absurd e1 (by simp [parse_level_l1])
         |succ n =>
          replace e1:=(parse_level_l1.eq_2 (n:=n) _ _ _).symm.trans e1
          refine zz ?_
          refine wn (nos 1 []) ⟨[(1,.ptr 0 0),(2,iP 0),(13,oP o_ row_parse_binary),(14,iP (o_.length:Int)),(15,iP v15),(16,bP (decide (v15<(o_.length:Int))))],[(kX e)]⟩ tI ?_
          rcases condS e1 with⟨hc1,e1⟩|⟨hc1,e1⟩
          . refine zT (test hc1) ?_
            refine zB ?_
            obtain⟨x,hx,e1⟩:=bindS e1
            refine wn (.val (.vptr [tP x.sign,iP x.op,iP x.level] 0)::(nos 3 [])) ⟨[(1,.ptr 0 0),(2,iP 0),(4,.ptr 1 0),(13,oP o_ row_parse_binary),(14,iP (o_.length:Int)),(15,iP v15)],[(kX e),[tP x.sign,iP x.op,iP x.level]]⟩ (aI (oi hx row_parse_binary_len (row_parse_binary_eq x)) tI) ?_
            refine wn (nos 5 []) ⟨[(1,.ptr 0 0),(2,iP 0),(4,.ptr 1 0),(13,oP o_ row_parse_binary),(14,iP (o_.length:Int)),(15,iP v15),(23,bP (x.op == e.Op))],[(kX e),[tP x.sign,iP x.op,iP x.level]]⟩ tI ?_
            rcases condS e1 with⟨hc,e1⟩|⟨hc,e1⟩
            . refine zT (test hc) ?_
              refine wn (nos 3 []) ⟨[(1,.ptr 0 0),(2,iP x.level),(13,oP o_ row_parse_binary),(14,iP (o_.length:Int)),(15,iP v15)],[(kX e),[tP x.sign,iP x.op,iP x.level]]⟩ tI ?_
              cases e1
              cases h
              exact rt hQ
            . refine zF (test hc) ?_
              refine wq (nos 2 []) ⟨[(1,.ptr 0 0),(2,iP 0),(13,oP o_ row_parse_binary),(14,iP (o_.length:Int)),(15,iP (IntKind.i64.wrap (v15+1)))],[(kX e),[tP x.sign,iP x.op,iP x.level]]⟩ tI ?_
              exact zz (WS_again (n,(IntKind.i64.wrap (v15+1))) rfl e1 (Nat.lt_succ_self _))
          . refine zF (test hc1) ?_
            try refine z5 rfl ?_
            exact zz (WS_wk [2] 1 rfl (lb rfl) rfl (hJ () (Option.some.inj e1)))
theorem vparse_level (n:Nat)(e:api_Expr)(r:Int)(h:parse_level n e=some r):VCp Tryz.prog 94 [.agg (kX e)] (iP r):=VC.fin (fun Q hQ=>vparse_level_0 n e _ h Q hQ) rfl rfl
theorem vparse_printer_expr_1_s3_0 (p:(List api_Token))(p1:Bool)(e:Int)(e1:Int)(e2:ByteArray)(e3:(List api_Expr))(e4:Int)(b:parse_binary)(r:Bool)(h:parse_printer_expr_1_s3 p p1 e e1 e2 e3 e4 b=some r)(Q:AEnd->List (List PV)->Prop)(hQ:∀ y,shareP y=bP r->Q (.ret y) [[oT p,bP p1],[iP e,iP e1,tP e2,hX e3,iP e4],[.mp [((.int .i64 5),(.int .i64 1)),((.int .i64 6),(.int .i64 1)),((.int .i64 20),(.int .i64 3))]]]) :
 VC Tryz.prog 71 [.agg [tP b.sign,iP b.op,iP b.level],.ptr 1 0] [[oT p,bP p1],[iP e,iP e1,tP e2,hX e3,iP e4],[.mp [((.int .i64 5),(.int .i64 1)),((.int .i64 6),(.int .i64 1)),((.int .i64 20),(.int .i64 3))]]] Q:=by
 unfold parse_printer_expr_1_s3 at h
 refine VC.intro ⟨[0,1,2,3],[]⟩ Tryz.func71 rfl follows ok71 (by rw [Tryz.ntmps71];exact lb rfl) ?_
 refine WS_ofR ?_
 refine zz ?_
 refine wn (nos 2 []) ⟨[(1,.ptr 1 0),(2,.ptr 3 0),(3,bP false)],[[oT p,bP p1],[iP e,iP e1,tP e2,hX e3,iP e4],[.mp [((.int .i64 5),(.int .i64 1)),((.int .i64 6),(.int .i64 1)),((.int .i64 20),(.int .i64 3))]],[tP b.sign,iP b.op,iP b.level]]⟩ tI ?_
 refine wn (nos 6 []) ⟨[(3,bP (b.op == e))],[[oT p,bP p1],[iP e,iP e1,tP e2,hX e3,iP e4],[.mp [((.int .i64 5),(.int .i64 1)),((.int .i64 6),(.int .i64 1)),((.int .i64 20),(.int .i64 3))]],[tP b.sign,iP b.op,iP b.level]]⟩ tI ?_
 cases h
 exact rt hQ
theorem vparse_printer_expr_1_s3 (p:(List api_Token))(p1:Bool)(e:Int)(e1:Int)(e2:ByteArray)(e3:(List api_Expr))(e4:Int)(b:parse_binary)(r:Bool)(h:parse_printer_expr_1_s3 p p1 e e1 e2 e3 e4 b=some r):VCs Tryz.prog 71 [.agg [tP b.sign,iP b.op,iP b.level],.ptr 1 0] [[oT p,bP p1],[iP e,iP e1,tP e2,hX e3,iP e4],[.mp [((.int .i64 5),(.int .i64 1)),((.int .i64 6),(.int .i64 1)),((.int .i64 20),(.int .i64 3))]]] (.ret (bP r)) [[oT p,bP p1],[iP e,iP e1,tP e2,hX e3,iP e4],[.mp [((.int .i64 5),(.int .i64 1)),((.int .i64 6),(.int .i64 1)),((.int .i64 20),(.int .i64 3))]]]:=VCs.fin (fun Q hQ=>vparse_printer_expr_1_s3_0 p p1 e e1 e2 e3 e4 b _ h Q hQ)
theorem vslices_IndexFunc_69_71_s4_0 (n:Nat)(p:(List api_Token))(p1:Bool)(e:Int)(e1:Int)(e2:ByteArray)(e3:(List api_Expr))(e4:Int)(s:(List parse_binary))(r:Int)(h:slices_IndexFunc_69_71_s4 n p p1 e e1 e2 e3 e4 s=some r)(Q:AEnd->List (List PV)->Prop)(hQ:∀ y,shareP y=iP r->Q (.ret y) [[oT p,bP p1],[iP e,iP e1,tP e2,hX e3,iP e4],[.mp [((.int .i64 5),(.int .i64 1)),((.int .i64 6),(.int .i64 1)),((.int .i64 20),(.int .i64 3))]]]) :
 VC Tryz.prog 69 [hP s row_parse_binary,.fn 71 [.ptr 1 0]] [[oT p,bP p1],[iP e,iP e1,tP e2,hX e3,iP e4],[.mp [((.int .i64 5),(.int .i64 1)),((.int .i64 6),(.int .i64 1)),((.int .i64 20),(.int .i64 3))]]] Q:=by
 unfold slices_IndexFunc_69_71_s4 at h
 refine VC.intro ⟨[0,1,4,5,7,8,9,16],[]⟩ Tryz.func69 rfl follows ok69 (by rw [Tryz.ntmps69];exact lb rfl) ?_
 refine WS_ofR ?_
 refine zz ?_
 refine wn (nos 1 []) ⟨[(0,hP s row_parse_binary),(1,.fn 71 [.ptr 1 0]),(4,iP 0)],[[oT p,bP p1],[iP e,iP e1,tP e2,hX e3,iP e4],[.mp [((.int .i64 5),(.int .i64 1)),((.int .i64 6),(.int .i64 1)),((.int .i64 20),(.int .i64 3))]]]⟩ tI ?_
 refine wn (nos 1 (.val (iP (s.length:Int))::(nos 1 []))) ⟨[(0,hP s row_parse_binary),(1,.fn 71 [.ptr 1 0]),(4,iP 0),(7,iP (s.length:Int)),(8,iP 0)],[[oT p,bP p1],[iP e,iP e1,tP e2,hX e3,iP e4],[.mp [((.int .i64 5),(.int .i64 1)),((.int .i64 6),(.int .i64 1)),((.int .i64 20),(.int .i64 3))]]]⟩ (aI (olen s row_parse_binary) tI) ?_
 obtain⟨y,e5,h⟩:=bindS h
 refine WS_meet (A:=Unit) (fun v=>.inl v=y) (fun _=>⟨[(4,iP 0)],[[oT p,bP p1],[iP e,iP e1,tP e2,hX e3,iP e4],[.mp [((.int .i64 5),(.int .i64 1)),((.int .i64 6),(.int .i64 1)),((.int .i64 20),(.int .i64 3))]]]⟩) ?_ ?_
 . rintro _ rfl
   show WS _ _ _ _ _ ⟨[(4,iP 0)],[[oT p,bP p1],[iP e,iP e1,tP e2,hX e3,iP e4],[.mp [((.int .i64 5),(.int .i64 1)),((.int .i64 6),(.int .i64 1)),((.int .i64 20),(.int .i64 3))]]]⟩
   refine zz ?_
   refine wn (nos 1 []) ⟨[(4,iP (-1))],[[oT p,bP p1],[iP e,iP e1,tP e2,hX e3,iP e4],[.mp [((.int .i64 5),(.int .i64 1)),((.int .i64 6),(.int .i64 1)),((.int .i64 20),(.int .i64 3))]]]⟩ tI ?_
   cases h
   exact rt hQ
 . intro hJ
   refine zz ?_
   refine zB ?_
   refine WS_for [0,1,4,7,8] 3 (fun a:Nat×Int=>slices_IndexFunc_69_71_s4_l1 a.1 s p p1 e e1 e2 e3 e4 a.2=some y) (fun a=>a.1) (fun a:Nat×Int=>match a with|(_,v8)=>⟨[(0,hP s row_parse_binary),(1,.fn 71 [.ptr 1 0]),(4,iP 0),(7,iP (s.length:Int)),(8,iP v8)],[[oT p,bP p1],[iP e,iP e1,tP e2,hX e3,iP e4],[.mp [((.int .i64 5),(.int .i64 1)),((.int .i64 6),(.int .i64 1)),((.int .i64 20),(.int .i64 3))]]]⟩) (n,0) (lb rfl) rfl e5 ?_
   clear e5
   rintro⟨n,v8⟩ e5
   show WS _ _ _ _ _ ⟨[(0,hP s row_parse_binary),(1,.fn 71 [.ptr 1 0]),(4,iP 0),(7,iP (s.length:Int)),(8,iP v8)],[[oT p,bP p1],[iP e,iP e1,tP e2,hX e3,iP e4],[.mp [((.int .i64 5),(.int .i64 1)),((.int .i64 6),(.int .i64 1)),((.int .i64 20),(.int .i64 3))]]]⟩
   cases n with
   |zero=>exact absurd e5 (by simp [slices_IndexFunc_69_71_s4_l1])
   |succ n =>
    replace e5:=(slices_IndexFunc_69_71_s4_l1.eq_2 (n:=n) _ _ _ _ _ _ _ _ _).symm.trans e5
    refine zz ?_
    refine wn (nos 1 []) ⟨[(0,hP s row_parse_binary),(1,.fn 71 [.ptr 1 0]),(4,iP 0),(7,iP (s.length:Int)),(8,iP v8),(9,bP (decide (v8<(s.length:Int))))],[[oT p,bP p1],[iP e,iP e1,tP e2,hX e3,iP e4],[.mp [((.int .i64 5),(.int .i64 1)),((.int .i64 6),(.int .i64 1)),((.int .i64 20),(.int .i64 3))]]]⟩ tI ?_
    rcases condS e5 with⟨hc1,e5⟩|⟨hc1,e5⟩
    . refine zT (test hc1) ?_
      refine zB ?_
      refine wn (nos 2 []) ⟨[(0,hP s row_parse_binary),(1,.fn 71 [.ptr 1 0]),(4,iP 0),(5,iP v8),(7,iP (s.length:Int)),(8,iP v8)],[[oT p,bP p1],[iP e,iP e1,tP e2,hX e3,iP e4],[.mp [((.int .i64 5),(.int .i64 1)),((.int .i64 6),(.int .i64 1)),((.int .i64 20),(.int .i64 3))]]]⟩ tI ?_
      obtain⟨x,hx,e5⟩:=bindS e5
      obtain⟨e6,he6,e5⟩:=bindS e5
      refine wn (nos 3 (.val (.vptr [tP x.sign,iP x.op,iP x.level] 0)::(nos 1 (.site (bP e6) [[oT p,bP p1],[iP e,iP e1,tP e2,hX e3,iP e4],[.mp [((.int .i64 5),(.int .i64 1)),((.int .i64 6),(.int .i64 1)),((.int .i64 20),(.int .i64 3))]]]::[])))) ⟨[(0,hP s row_parse_binary),(1,.fn 71 [.ptr 1 0]),(4,iP 0),(5,iP v8),(7,iP (s.length:Int)),(8,iP v8),(16,bP e6)],[[oT p,bP p1],[iP e,iP e1,tP e2,hX e3,iP e4],[.mp [((.int .i64 5),(.int .i64 1)),((.int .i64 6),(.int .i64 1)),((.int .i64 20),(.int .i64 3))]]]⟩ (aI (oi hx row_parse_binary_len (row_parse_binary_eq x)) (aI (vparse_printer_expr_1_s3 p p1 e e1 e2 e3 e4 x e6 he6) tI)) ?_
      rcases condS e5 with⟨hc,e5⟩|⟨hc,e5⟩
      . refine zT (test hc) ?_
        refine wn (nos 2 []) ⟨[(0,hP s row_parse_binary),(1,.fn 71 [.ptr 1 0]),(4,iP v8),(7,iP (s.length:Int)),(8,iP v8)],[[oT p,bP p1],[iP e,iP e1,tP e2,hX e3,iP e4],[.mp [((.int .i64 5),(.int .i64 1)),((.int .i64 6),(.int .i64 1)),((.int .i64 20),(.int .i64 3))]]]⟩ tI ?_
        cases e5
        cases h
        exact rt hQ
      . refine zF (test hc) ?_
        refine wq (nos 2 []) ⟨[(0,hP s row_parse_binary),(1,.fn 71 [.ptr 1 0]),(4,iP 0),(7,iP (s.length:Int)),(8,iP (IntKind.i64.wrap (v8+1)))],[[oT p,bP p1],[iP e,iP e1,tP e2,hX e3,iP e4],[.mp [((.int .i64 5),(.int .i64 1)),((.int .i64 6),(.int .i64 1)),((.int .i64 20),(.int .i64 3))]]]⟩ tI ?_
        exact zz (WS_again (n,(IntKind.i64.wrap (v8+1))) rfl e5 (Nat.lt_succ_self _))
    . refine zF (test hc1) ?_
      try refine z5 rfl ?_
      exact zz (WS_wk [4] 3 rfl (lb rfl) rfl (hJ () (Option.some.inj e5)))
theorem vslices_IndexFunc_69_71_s4 (n:Nat)(p:(List api_Token))(p1:Bool)(e:Int)(e1:Int)(e2:ByteArray)(e3:(List api_Expr))(e4:Int)(s:(List parse_binary))(r:Int)(h:slices_IndexFunc_69_71_s4 n p p1 e e1 e2 e3 e4 s=some r):VCs Tryz.prog 69 [hP s row_parse_binary,.fn 71 [.ptr 1 0]] [[oT p,bP p1],[iP e,iP e1,tP e2,hX e3,iP e4],[.mp [((.int .i64 5),(.int .i64 1)),((.int .i64 6),(.int .i64 1)),((.int .i64 20),(.int .i64 3))]]] (.ret (iP r)) [[oT p,bP p1],[iP e,iP e1,tP e2,hX e3,iP e4],[.mp [((.int .i64 5),(.int .i64 1)),((.int .i64 6),(.int .i64 1)),((.int .i64 20),(.int .i64 3))]]]:=VCs.fin (fun Q hQ=>vslices_IndexFunc_69_71_s4_0 n p p1 e e1 e2 e3 e4 s _ h Q hQ)
theorem vparse_printer_expr_0 (n0:Nat)
 (ih_parse_printer_expr:∀ m,m<=n0->∀ (p:parse_printer) (e:api_Expr) (r:(Unit×parse_printer)),parse_printer_expr m p e=some r->VCm Tryz.prog 42 [.agg (kX e)] (kR p) (.ret (.tup [])) (kR r.2))
 (ih_parse_printer_operand:∀ m,m<=n0->∀ (p:parse_printer) (e:api_Expr) (need:Int) (r:(Unit×parse_printer)),parse_printer_operand m p e need=some r->VCm Tryz.prog 68 [.agg (kX e),iP need] (kR p) (.ret (.tup [])) (kR r.2))
 (n:Nat) (hn:n<=n0) (p:parse_printer) (e:api_Expr) (r:(Unit×parse_printer)) (h:parse_printer_expr (n+1) p e=some r) (Q:AEnd->List (List PV)->Prop) (hQ:∀ y,shareP y=.tup []->Q (.ret y) [(kR r.2)]) :
 VC Tryz.prog 42 (.ptr 0 0::[.agg (kX e)]) [(kR p)] Q:=by
 replace h:=(parse_printer_expr.eq_2 (n:=n) _ _).symm.trans h
 refine VC.intro ⟨[0,1,3,4,5,6,7,8,9,13,24,35,59,65,71,77,87,88,89,90,95,106,117,122,147,158],[]⟩ Tryz.func42 rfl follows ok42 (by rw [Tryz.ntmps42];exact lb rfl) ?_
 refine WS_ofR ?_
 refine zz ?_
 refine wn (nos 1 []) ⟨[(0,.ptr 0 0),(3,.ptr 1 0)],[(kR p),(kX e)]⟩ tI ?_
 refine wn (nos 6 []) ⟨[(0,.ptr 0 0),(3,.ptr 1 0),(4,.mref 2)],[(kR p),(kX e),[.mp [((.int .i64 5),(.int .i64 1)),((.int .i64 6),(.int .i64 1)),((.int .i64 20),(.int .i64 3))]]]⟩ tI ?_
 refine wn (nos 2 []) ⟨[(0,.ptr 0 0),(3,.ptr 1 0),(4,.mref 2),(13,iP e.Op)],[(kR p),(kX e),[.mp [((.int .i64 5),(.int .i64 1)),((.int .i64 6),(.int .i64 1)),((.int .i64 20),(.int .i64 3))]]]⟩ tI ?_
 refine zB ?_
 refine wn (nos 2 []) ⟨[(0,.ptr 0 0),(3,.ptr 1 0),(4,.mref 2),(13,iP e.Op),(59,bP (e.Op == 1))],[(kR p),(kX e),[.mp [((.int .i64 5),(.int .i64 1)),((.int .i64 6),(.int .i64 1)),((.int .i64 20),(.int .i64 3))]]]⟩ tI ?_
 rcases condS h with⟨hc14,h⟩|⟨hc14,h⟩
 . refine zT (test hc14) ?_
   obtain⟨n_,hn_,h⟩:=bindS h
   refine wn (nos 3 (.meth (.tup []) (kR n_.2)::[])) ⟨[],[(kR n_.2),(kX e),[.mp [((.int .i64 5),(.int .i64 1)),((.int .i64 6),(.int .i64 1)),((.int .i64 20),(.int .i64 3))]]]⟩ (aI (vparse_printer_number p e.N n_ hn_) tI) ?_
   cases h
   exact rt hQ
 . refine zF (test hc14) ?_
   refine wn (nos 2 []) ⟨[(0,.ptr 0 0),(3,.ptr 1 0),(4,.mref 2),(13,iP e.Op),(65,bP (e.Op == 2))],[(kR p),(kX e),[.mp [((.int .i64 5),(.int .i64 1)),((.int .i64 6),(.int .i64 1)),((.int .i64 20),(.int .i64 3))]]]⟩ tI ?_
   rcases condS h with⟨hc13,h⟩|⟨hc13,h⟩
   . refine zT (test hc13) ?_
     obtain⟨t,ht,h⟩:=bindS h
     refine wn (nos 3 (.meth (.tup []) (kR t.2)::[])) ⟨[],[(kR t.2),(kX e),[.mp [((.int .i64 5),(.int .i64 1)),((.int .i64 6),(.int .i64 1)),((.int .i64 20),(.int .i64 3))]]]⟩ (aI (vparse_printer_text n p e.S t ht) tI) ?_
     cases h
     exact rt hQ
   . refine zF (test hc13) ?_
     refine wn (nos 2 []) ⟨[(0,.ptr 0 0),(3,.ptr 1 0),(4,.mref 2),(13,iP e.Op),(71,bP (e.Op == 3))],[(kR p),(kX e),[.mp [((.int .i64 5),(.int .i64 1)),((.int .i64 6),(.int .i64 1)),((.int .i64 20),(.int .i64 3))]]]⟩ tI ?_
     rcases condS h with⟨hc12,h⟩|⟨hc12,h⟩
     . refine zT (test hc12) ?_
       obtain⟨n_1,hn_1,h⟩:=bindS h
       refine wn (nos 3 (.meth (.tup []) (kR n_1.2)::[])) ⟨[],[(kR n_1.2),(kX e),[.mp [((.int .i64 5),(.int .i64 1)),((.int .i64 6),(.int .i64 1)),((.int .i64 20),(.int .i64 3))]]]⟩ (aI (vparse_printer_name n p e.S n_1 hn_1) tI) ?_
       cases h
       exact rt hQ
     . refine zF (test hc12) ?_
       refine wn (nos 2 []) ⟨[(0,.ptr 0 0),(3,.ptr 1 0),(4,.mref 2),(13,iP e.Op),(77,bP (e.Op == 4))],[(kR p),(kX e),[.mp [((.int .i64 5),(.int .i64 1)),((.int .i64 6),(.int .i64 1)),((.int .i64 20),(.int .i64 3))]]]⟩ tI ?_
       rcases condS h with⟨hc11,h⟩|⟨hc11,h⟩
       . refine zT (test hc11) ?_
         obtain⟨n_2,hn_2,h⟩:=bindS h
         refine wn (nos 3 (.meth (.tup []) (kR n_2.2)::[])) ⟨[(0,.ptr 0 0),(3,.ptr 1 0)],[(kR n_2.2),(kX e),[.mp [((.int .i64 5),(.int .i64 1)),((.int .i64 6),(.int .i64 1)),((.int .i64 20),(.int .i64 3))]]]⟩ (aI (vparse_printer_name n p e.S n_2 hn_2) tI) ?_
         obtain⟨l,hl,h⟩:=bindS h
         have fb:([[tP ⟨#[40]⟩]]:List (List PV))=l.map row_string:=by rw [<- Option.some.inj hl];simp only [List.map_cons,List.map_nil,row_string_eq]
         obtain⟨s,hs,h⟩:=bindS h
         refine wn (nos 1 (.val (oS l)::(.meth (.tup []) (kR s.2)::[]))) ⟨[(0,.ptr 0 0),(3,.ptr 1 0)],[(kR s.2),(kX e),[.mp [((.int .i64 5),(.int .i64 1)),((.int .i64 6),(.int .i64 1)),((.int .i64 20),(.int .i64 3))]]]⟩ (aI (obuild rfl fb) (aI (vparse_printer_signs n n_2.2 l s hs) tI)) ?_
         refine wn (nos 2 (.val (iP (e.Kids.length:Int))::(nos 1 []))) ⟨[(0,.ptr 0 0),(87,hX e.Kids),(88,iP (e.Kids.length:Int)),(89,iP 0)],[(kR s.2),(kX e),[.mp [((.int .i64 5),(.int .i64 1)),((.int .i64 6),(.int .i64 1)),((.int .i64 20),(.int .i64 3))]]]⟩ (aI (olen e.Kids row_api_Expr) tI) ?_
         obtain⟨y,e1,h⟩:=bindS h
         refine WS_meet (A:=((List api_Token)×Bool)) (fun v=>v=y) (fun y=>match y with|(p1,p2)=>⟨[(0,.ptr 0 0)],[[oT p1,bP p2],(kX e),[.mp [((.int .i64 5),(.int .i64 1)),((.int .i64 6),(.int .i64 1)),((.int .i64 20),(.int .i64 3))]]]⟩) ?_ ?_
         . rintro⟨p1,p2⟩ rfl
           show WS _ _ _ _ _ ⟨[(0,.ptr 0 0)],[[oT p1,bP p2],(kX e),[.mp [((.int .i64 5),(.int .i64 1)),((.int .i64 6),(.int .i64 1)),((.int .i64 20),(.int .i64 3))]]]⟩
           refine zz ?_
           obtain⟨l1,hl1,h⟩:=bindS h
           have fb1:([[tP ⟨#[41]⟩]]:List (List PV))=l1.map row_string:=by rw [<- Option.some.inj hl1];simp only [List.map_cons,List.map_nil,row_string_eq]
           obtain⟨s1,hs1,h⟩:=bindS h
           refine wn (nos 1 (.val (oS l1)::(.meth (.tup []) (kR s1.2)::[]))) ⟨[],[(kR s1.2),(kX e),[.mp [((.int .i64 5),(.int .i64 1)),((.int .i64 6),(.int .i64 1)),((.int .i64 20),(.int .i64 3))]]]⟩ (aI (obuild rfl fb1) (aI (vparse_printer_signs n (parse_printer.mk p1 p2) l1 s1 hs1) tI)) ?_
           cases h
           exact rt hQ
         . intro hJ
           refine zz ?_
           refine zB ?_
           refine WS_for [0,87,88,89] 3 (fun a:Nat×(Int×(List api_Token)×Bool)=>a.1<=n0/\parse_printer_expr_l1 a.1 e l a.2.1 a.2.2.1 a.2.2.2=some y) (fun a=>a.1) (fun a:Nat×(Int×(List api_Token)×Bool)=>match a with|(_,(v89,p3,p4))=>⟨[(0,.ptr 0 0),(87,hX e.Kids),(88,iP (e.Kids.length:Int)),(89,iP v89)],[[oT p3,bP p4],(kX e),[.mp [((.int .i64 5),(.int .i64 1)),((.int .i64 6),(.int .i64 1)),((.int .i64 20),(.int .i64 3))]]]⟩) (n,(0,s.2.l,s.2.bad)) (lb rfl) rfl ⟨hn,e1⟩ ?_
           clear e1 hn
           rintro⟨n,v89,p3,p4⟩ ⟨hn,e1⟩
           show WS _ _ _ _ _ ⟨[(0,.ptr 0 0),(87,hX e.Kids),(88,iP (e.Kids.length:Int)),(89,iP v89)],[[oT p3,bP p4],(kX e),[.mp [((.int .i64 5),(.int .i64 1)),((.int .i64 6),(.int .i64 1)),((.int .i64 20),(.int .i64 3))]]]⟩
           cases n with
           |zero=>exact absurd e1 (by simp [parse_printer_expr_l1])
           |succ n =>
            replace e1:=(parse_printer_expr_l1.eq_2 (n:=n) _ _ _ _ _).symm.trans e1
            replace hn:n<=n0:=by omega
            refine zz ?_
            refine wn (nos 1 []) ⟨[(0,.ptr 0 0),(87,hX e.Kids),(88,iP (e.Kids.length:Int)),(89,iP v89),(90,bP (decide (v89<(e.Kids.length:Int))))],[[oT p3,bP p4],(kX e),[.mp [((.int .i64 5),(.int .i64 1)),((.int .i64 6),(.int .i64 1)),((.int .i64 20),(.int .i64 3))]]]⟩ tI ?_
            rcases condS e1 with⟨hc1,e1⟩|⟨hc1,e1⟩
            . refine zT (test hc1) ?_
              refine zB ?_
              obtain⟨x,hx,e1⟩:=bindS e1
              refine wn (nos 1 (.val (.vptr (kX x) 0)::(nos 4 []))) ⟨[(0,.ptr 0 0),(5,iP v89),(6,.ptr 3 0),(87,hX e.Kids),(88,iP (e.Kids.length:Int)),(89,iP v89)],[[oT p3,bP p4],(kX e),[.mp [((.int .i64 5),(.int .i64 1)),((.int .i64 6),(.int .i64 1)),((.int .i64 20),(.int .i64 3))]],(kX x)]⟩ (aI (oi hx row_api_Expr_len (row_api_Expr_eq x)) tI) ?_
              refine wn (nos 2 []) ⟨[(0,.ptr 0 0),(6,.ptr 3 0),(87,hX e.Kids),(88,iP (e.Kids.length:Int)),(89,iP v89),(95,bP (decide (0<v89)))],[[oT p3,bP p4],(kX e),[.mp [((.int .i64 5),(.int .i64 1)),((.int .i64 6),(.int .i64 1)),((.int .i64 20),(.int .i64 3))]],(kX x)]⟩ tI ?_
              rcases condS e1 with⟨hc,e1⟩|⟨hc,e1⟩
              . refine zT (test hc) ?_
                obtain⟨l2,hl2,e1⟩:=bindS e1
                have fb2:([[tP ⟨#[44]⟩]]:List (List PV))=l2.map row_string:=by rw [<- Option.some.inj hl2];simp only [List.map_cons,List.map_nil,row_string_eq]
                obtain⟨s2,hs2,e1⟩:=bindS e1
                refine wn (nos 1 (.val (oS l2)::(.meth (.tup []) (kR s2.2)::[]))) ⟨[(0,.ptr 0 0),(6,.ptr 3 0),(87,hX e.Kids),(88,iP (e.Kids.length:Int)),(89,iP v89)],[(kR s2.2),(kX e),[.mp [((.int .i64 5),(.int .i64 1)),((.int .i64 6),(.int .i64 1)),((.int .i64 20),(.int .i64 3))]],(kX x)]⟩ (aI (obuild rfl fb2) (aI (vparse_printer_signs n (parse_printer.mk p3 p4) l2 s2 hs2) tI)) ?_
                obtain⟨o_,ho_,e1⟩:=bindS e1
                refine wn (nos 2 (.meth (.tup []) (kR o_.2)::[])) ⟨[(0,.ptr 0 0),(87,hX e.Kids),(88,iP (e.Kids.length:Int)),(89,iP v89)],[(kR o_.2),(kX e),[.mp [((.int .i64 5),(.int .i64 1)),((.int .i64 6),(.int .i64 1)),((.int .i64 20),(.int .i64 3))]],(kX x)]⟩ (aI (ih_parse_printer_operand n hn s2.2 x 0 o_ ho_) tI) ?_
                refine wq (nos 2 []) ⟨[(0,.ptr 0 0),(87,hX e.Kids),(88,iP (e.Kids.length:Int)),(89,iP (IntKind.i64.wrap (v89+1)))],[(kR o_.2),(kX e),[.mp [((.int .i64 5),(.int .i64 1)),((.int .i64 6),(.int .i64 1)),((.int .i64 20),(.int .i64 3))]],(kX x)]⟩ tI ?_
                exact zz (WS_again (n,((IntKind.i64.wrap (v89+1)),o_.2.l,o_.2.bad)) rfl ⟨hn,e1⟩ (Nat.lt_succ_self _))
              . refine zF (test hc) ?_
                obtain⟨o_1,ho_1,e1⟩:=bindS e1
                refine wn (nos 2 (.meth (.tup []) (kR o_1.2)::[])) ⟨[(0,.ptr 0 0),(87,hX e.Kids),(88,iP (e.Kids.length:Int)),(89,iP v89)],[(kR o_1.2),(kX e),[.mp [((.int .i64 5),(.int .i64 1)),((.int .i64 6),(.int .i64 1)),((.int .i64 20),(.int .i64 3))]],(kX x)]⟩ (aI (ih_parse_printer_operand n hn (parse_printer.mk p3 p4) x 0 o_1 ho_1) tI) ?_
                refine wq (nos 2 []) ⟨[(0,.ptr 0 0),(87,hX e.Kids),(88,iP (e.Kids.length:Int)),(89,iP (IntKind.i64.wrap (v89+1)))],[(kR o_1.2),(kX e),[.mp [((.int .i64 5),(.int .i64 1)),((.int .i64 6),(.int .i64 1)),((.int .i64 20),(.int .i64 3))]],(kX x)]⟩ tI ?_
                exact zz (WS_again (n,((IntKind.i64.wrap (v89+1)),o_1.2.l,o_1.2.bad)) rfl ⟨hn,e1⟩ (Nat.lt_succ_self _))
            . refine zF (test hc1) ?_
              try refine z5 rfl ?_
              exact zz (WS_wk [0] 3 rfl (lb rfl) rfl (hJ (p3,p4) (Option.some.inj e1)))
       . refine zF (test hc11) ?_
         refine wn (nos 2 []) ⟨[(0,.ptr 0 0),(3,.ptr 1 0),(4,.mref 2),(13,iP e.Op),(106,bP (e.Op == 5))],[(kR p),(kX e),[.mp [((.int .i64 5),(.int .i64 1)),((.int .i64 6),(.int .i64 1)),((.int .i64 20),(.int .i64 3))]]]⟩ tI ?_
         obtain⟨y1,e2,h⟩:=bindS h
         refine WS_meet (A:=Bool) (fun v=>v=y1) (fun v106=>⟨[(0,.ptr 0 0),(3,.ptr 1 0),(4,.mref 2),(106,bP v106)],[(kR p),(kX e),[.mp [((.int .i64 5),(.int .i64 1)),((.int .i64 6),(.int .i64 1)),((.int .i64 20),(.int .i64 3))]]]⟩) ?_ ?_
         . rintro v106 rfl
           show WS _ _ _ _ _ ⟨[(0,.ptr 0 0),(3,.ptr 1 0),(4,.mref 2),(106,bP v106)],[(kR p),(kX e),[.mp [((.int .i64 5),(.int .i64 1)),((.int .i64 6),(.int .i64 1)),((.int .i64 20),(.int .i64 3))]]]⟩
           refine zz ?_
           rcases condS h with⟨hc8,h⟩|⟨hc8,h⟩
           . refine zT (test hc8) ?_
             refine wn (nos 2 (.val (iP (e.Kids.length:Int))::(nos 3 (.look (.int .i64 (glook [(5,1),(6,1),(20,3)] e.Op).1) (glook [(5,1),(6,1),(20,3)] e.Op).2::(nos 1 []))))) ⟨[(0,.ptr 0 0),(3,.ptr 1 0),(117,bP ((e.Kids.length:Int) != ((glook [(5,1),(6,1),(20,3)] e.Op).1)))],[(kR p),(kX e),[.mp [((.int .i64 5),(.int .i64 1)),((.int .i64 6),(.int .i64 1)),((.int .i64 20),(.int .i64 3))]]]⟩ (aI (olen e.Kids row_api_Expr) (aI (olook [(5,1),(6,1),(20,3)] e.Op) tI)) ?_
             rcases condS h with⟨hc4,h⟩|⟨hc4,h⟩
             . refine zT (test hc4) ?_
               refine wn (nos 4 []) ⟨[(0,.ptr 0 0),(3,.ptr 1 0)],[[oT p.l,bP true],(kX e),[.mp [((.int .i64 5),(.int .i64 1)),((.int .i64 6),(.int .i64 1)),((.int .i64 20),(.int .i64 3))]]]⟩ tI ?_
               cases h
               exact rt hQ
             . refine zF (test hc4) ?_
               refine wn (nos 2 []) ⟨[(0,.ptr 0 0),(3,.ptr 1 0),(122,iP e.Op)],[(kR p),(kX e),[.mp [((.int .i64 5),(.int .i64 1)),((.int .i64 6),(.int .i64 1)),((.int .i64 20),(.int .i64 3))]]]⟩ tI ?_
               refine zB ?_
               refine wn (nos 2 []) ⟨[(0,.ptr 0 0),(3,.ptr 1 0),(122,iP e.Op),(147,bP (e.Op == 5))],[(kR p),(kX e),[.mp [((.int .i64 5),(.int .i64 1)),((.int .i64 6),(.int .i64 1)),((.int .i64 20),(.int .i64 3))]]]⟩ tI ?_
               rcases condS h with⟨hc3,h⟩|⟨hc3,h⟩
               . refine zT (test hc3) ?_
                 obtain⟨l3,hl3,h⟩:=bindS h
                 have fb3:([[tP ⟨#[33]⟩]]:List (List PV))=l3.map row_string:=by rw [<- Option.some.inj hl3];simp only [List.map_cons,List.map_nil,row_string_eq]
                 obtain⟨s3,hs3,h⟩:=bindS h
                 refine wn (nos 1 (.val (oS l3)::(.meth (.tup []) (kR s3.2)::[]))) ⟨[(0,.ptr 0 0),(3,.ptr 1 0)],[(kR s3.2),(kX e),[.mp [((.int .i64 5),(.int .i64 1)),((.int .i64 6),(.int .i64 1)),((.int .i64 20),(.int .i64 3))]]]⟩ (aI (obuild rfl fb3) (aI (vparse_printer_signs n p l3 s3 hs3) tI)) ?_
                 obtain⟨x1,hx1,h⟩:=bindS h
                 obtain⟨o_2,ho_2,h⟩:=bindS h
                 refine wn (nos 3 (.val (.vptr (kX x1) 0)::(nos 1 (.meth (.tup []) (kR o_2.2)::[])))) ⟨[],[(kR o_2.2),(kX e),[.mp [((.int .i64 5),(.int .i64 1)),((.int .i64 6),(.int .i64 1)),((.int .i64 20),(.int .i64 3))]]]⟩ (aI (oi hx1 row_api_Expr_len (row_api_Expr_eq x1)) (aI (ih_parse_printer_operand n hn s3.2 x1 3 o_2 ho_2) tI)) ?_
                 cases h
                 exact rt hQ
               . refine zF (test hc3) ?_
                 refine wn (nos 2 []) ⟨[(0,.ptr 0 0),(3,.ptr 1 0),(158,bP (e.Op == 6))],[(kR p),(kX e),[.mp [((.int .i64 5),(.int .i64 1)),((.int .i64 6),(.int .i64 1)),((.int .i64 20),(.int .i64 3))]]]⟩ tI ?_
                 rcases condS h with⟨hc2,h⟩|⟨hc2,h⟩
                 . refine zT (test hc2) ?_
                   obtain⟨l4,hl4,h⟩:=bindS h
                   have fb4:([[tP ⟨#[45]⟩]]:List (List PV))=l4.map row_string:=by rw [<- Option.some.inj hl4];simp only [List.map_cons,List.map_nil,row_string_eq]
                   obtain⟨s4,hs4,h⟩:=bindS h
                   refine wn (nos 1 (.val (oS l4)::(.meth (.tup []) (kR s4.2)::[]))) ⟨[(0,.ptr 0 0),(3,.ptr 1 0)],[(kR s4.2),(kX e),[.mp [((.int .i64 5),(.int .i64 1)),((.int .i64 6),(.int .i64 1)),((.int .i64 20),(.int .i64 3))]]]⟩ (aI (obuild rfl fb4) (aI (vparse_printer_signs n p l4 s4 hs4) tI)) ?_
                   obtain⟨x2,hx2,h⟩:=bindS h
                   obtain⟨o_3,ho_3,h⟩:=bindS h
                   refine wn (nos 3 (.val (.vptr (kX x2) 0)::(nos 1 (.meth (.tup []) (kR o_3.2)::[])))) ⟨[],[(kR o_3.2),(kX e),[.mp [((.int .i64 5),(.int .i64 1)),((.int .i64 6),(.int .i64 1)),((.int .i64 20),(.int .i64 3))]]]⟩ (aI (oi hx2 row_api_Expr_len (row_api_Expr_eq x2)) (aI (ih_parse_printer_operand n hn s4.2 x2 7 o_3 ho_3) tI)) ?_
                   cases h
                   exact rt hQ
                 . refine zF (test hc2) ?_
                   obtain⟨x3,hx3,h⟩:=bindS h
                   obtain⟨o_4,ho_4,h⟩:=bindS h
                   refine wn (nos 3 (.val (.vptr (kX x3) 0)::(nos 1 (.meth (.tup []) (kR o_4.2)::[])))) ⟨[(0,.ptr 0 0),(3,.ptr 1 0)],[(kR o_4.2),(kX e),[.mp [((.int .i64 5),(.int .i64 1)),((.int .i64 6),(.int .i64 1)),((.int .i64 20),(.int .i64 3))]]]⟩ (aI (oi hx3 row_api_Expr_len (row_api_Expr_eq x3)) (aI (ih_parse_printer_operand n hn p x3 1 o_4 ho_4) tI)) ?_
                   obtain⟨l5,hl5,h⟩:=bindS h
                   have fb5:([[tP ⟨#[63]⟩]]:List (List PV))=l5.map row_string:=by rw [<- Option.some.inj hl5];simp only [List.map_cons,List.map_nil,row_string_eq]
                   obtain⟨s5,hs5,h⟩:=bindS h
                   refine wn (nos 1 (.val (oS l5)::(.meth (.tup []) (kR s5.2)::[]))) ⟨[(0,.ptr 0 0),(3,.ptr 1 0)],[(kR s5.2),(kX e),[.mp [((.int .i64 5),(.int .i64 1)),((.int .i64 6),(.int .i64 1)),((.int .i64 20),(.int .i64 3))]]]⟩ (aI (obuild rfl fb5) (aI (vparse_printer_signs n o_4.2 l5 s5 hs5) tI)) ?_
                   obtain⟨x4,hx4,h⟩:=bindS h
                   obtain⟨o_5,ho_5,h⟩:=bindS h
                   refine wn (nos 3 (.val (.vptr (kX x4) 0)::(nos 1 (.meth (.tup []) (kR o_5.2)::[])))) ⟨[(0,.ptr 0 0),(3,.ptr 1 0)],[(kR o_5.2),(kX e),[.mp [((.int .i64 5),(.int .i64 1)),((.int .i64 6),(.int .i64 1)),((.int .i64 20),(.int .i64 3))]]]⟩ (aI (oi hx4 row_api_Expr_len (row_api_Expr_eq x4)) (aI (ih_parse_printer_operand n hn s5.2 x4 0 o_5 ho_5) tI)) ?_
                   obtain⟨l6,hl6,h⟩:=bindS h
                   have fb6:([[tP ⟨#[58]⟩]]:List (List PV))=l6.map row_string:=by rw [<- Option.some.inj hl6];simp only [List.map_cons,List.map_nil,row_string_eq]
                   obtain⟨s6,hs6,h⟩:=bindS h
                   refine wn (nos 1 (.val (oS l6)::(.meth (.tup []) (kR s6.2)::[]))) ⟨[(0,.ptr 0 0),(3,.ptr 1 0)],[(kR s6.2),(kX e),[.mp [((.int .i64 5),(.int .i64 1)),((.int .i64 6),(.int .i64 1)),((.int .i64 20),(.int .i64 3))]]]⟩ (aI (obuild rfl fb6) (aI (vparse_printer_signs n o_5.2 l6 s6 hs6) tI)) ?_
                   obtain⟨x5,hx5,h⟩:=bindS h
                   obtain⟨o_6,ho_6,h⟩:=bindS h
                   refine wn (nos 3 (.val (.vptr (kX x5) 0)::(nos 1 (.meth (.tup []) (kR o_6.2)::[])))) ⟨[],[(kR o_6.2),(kX e),[.mp [((.int .i64 5),(.int .i64 1)),((.int .i64 6),(.int .i64 1)),((.int .i64 20),(.int .i64 3))]]]⟩ (aI (oi hx5 row_api_Expr_len (row_api_Expr_eq x5)) (aI (ih_parse_printer_operand n hn s6.2 x5 0 o_6 ho_6) tI)) ?_
                   cases h
                   exact rt hQ
           . refine zF (test hc8) ?_
             obtain⟨o_7,ho_7,h⟩:=bindS h
             obtain⟨k,hk,h⟩:=bindS h
             refine wn (.call (oP o_7 row_parse_binary)::(nos 1 (.site (iP k) [(kR p),(kX e),[.mp [((.int .i64 5),(.int .i64 1)),((.int .i64 6),(.int .i64 1)),((.int .i64 20),(.int .i64 3))]]]::(nos 1 [])))) ⟨[(0,.ptr 0 0),(3,.ptr 1 0),(7,iP k)],[(kR p),(kX e),[.mp [((.int .i64 5),(.int .i64 1)),((.int .i64 6),(.int .i64 1)),((.int .i64 20),(.int .i64 3))]]]⟩ (aI (vparse_operators o_7 ho_7) (aI (vslices_IndexFunc_69_71_s4 n p.l p.bad e.Op e.N e.S e.Kids e.At o_7 k hk) tI)) ?_
             obtain⟨y2,e3,h⟩:=bindS h
             refine WS_meet (A:=Bool) (fun v=>v=y2) (fun v24=>⟨[(0,.ptr 0 0),(3,.ptr 1 0),(7,iP k),(24,bP v24)],[(kR p),(kX e),[.mp [((.int .i64 5),(.int .i64 1)),((.int .i64 6),(.int .i64 1)),((.int .i64 20),(.int .i64 3))]]]⟩) ?_ ?_
             . rintro v24 rfl
               show WS _ _ _ _ _ ⟨[(0,.ptr 0 0),(3,.ptr 1 0),(7,iP k),(24,bP v24)],[(kR p),(kX e),[.mp [((.int .i64 5),(.int .i64 1)),((.int .i64 6),(.int .i64 1)),((.int .i64 20),(.int .i64 3))]]]⟩
               refine zz ?_
               rcases condS h with⟨hc6,h⟩|⟨hc6,h⟩
               . refine zT (test hc6) ?_
                 refine wn (nos 4 []) ⟨[(0,.ptr 0 0),(3,.ptr 1 0),(7,iP k)],[[oT p.l,bP true],(kX e),[.mp [((.int .i64 5),(.int .i64 1)),((.int .i64 6),(.int .i64 1)),((.int .i64 20),(.int .i64 3))]]]⟩ tI ?_
                 cases h
                 exact rt hQ
               . refine zF (test hc6) ?_
                 obtain⟨o_8,ho_8,h⟩:=bindS h
                 obtain⟨x6,hx6,h⟩:=bindS h
                 refine wn (.call (oP o_8 row_parse_binary)::(nos 1 (.val (.vptr [tP x6.sign,iP x6.op,iP x6.level] 0)::(nos 3 [])))) ⟨[(0,.ptr 0 0),(3,.ptr 1 0),(8,.ptr 3 0)],[(kR p),(kX e),[.mp [((.int .i64 5),(.int .i64 1)),((.int .i64 6),(.int .i64 1)),((.int .i64 20),(.int .i64 3))]],[tP x6.sign,iP x6.op,iP x6.level]]⟩ (aI (vparse_operators o_8 ho_8) (aI (oi hx6 row_parse_binary_len (row_parse_binary_eq x6)) tI)) ?_
                 refine wn (nos 3 []) ⟨[(0,.ptr 0 0),(3,.ptr 1 0),(8,.ptr 3 0),(9,iP x6.level)],[(kR p),(kX e),[.mp [((.int .i64 5),(.int .i64 1)),((.int .i64 6),(.int .i64 1)),((.int .i64 20),(.int .i64 3))]],[tP x6.sign,iP x6.op,iP x6.level]]⟩ tI ?_
                 refine wn (nos 2 []) ⟨[(0,.ptr 0 0),(3,.ptr 1 0),(8,.ptr 3 0),(9,iP x6.level),(35,bP (x6.level == 4))],[(kR p),(kX e),[.mp [((.int .i64 5),(.int .i64 1)),((.int .i64 6),(.int .i64 1)),((.int .i64 20),(.int .i64 3))]],[tP x6.sign,iP x6.op,iP x6.level]]⟩ tI ?_
                 obtain⟨y3,e4,h⟩:=bindS h
                 refine WS_meet (A:=Int) (fun v=>v=y3) (fun left=>⟨[(0,.ptr 0 0),(3,.ptr 1 0),(8,.ptr 3 0),(9,iP left)],[(kR p),(kX e),[.mp [((.int .i64 5),(.int .i64 1)),((.int .i64 6),(.int .i64 1)),((.int .i64 20),(.int .i64 3))]],[tP x6.sign,iP x6.op,iP x6.level]]⟩) ?_ ?_
                 . rintro left rfl
                   show WS _ _ _ _ _ ⟨[(0,.ptr 0 0),(3,.ptr 1 0),(8,.ptr 3 0),(9,iP left)],[(kR p),(kX e),[.mp [((.int .i64 5),(.int .i64 1)),((.int .i64 6),(.int .i64 1)),((.int .i64 20),(.int .i64 3))]],[tP x6.sign,iP x6.op,iP x6.level]]⟩
                   refine zz ?_
                   obtain⟨x7,hx7,h⟩:=bindS h
                   obtain⟨o_9,ho_9,h⟩:=bindS h
                   refine wn (nos 3 (.val (.vptr (kX x7) 0)::(nos 2 (.meth (.tup []) (kR o_9.2)::[])))) ⟨[(0,.ptr 0 0),(3,.ptr 1 0),(8,.ptr 3 0),(9,iP left)],[(kR o_9.2),(kX e),[.mp [((.int .i64 5),(.int .i64 1)),((.int .i64 6),(.int .i64 1)),((.int .i64 20),(.int .i64 3))]],[tP x6.sign,iP x6.op,iP x6.level]]⟩ (aI (oi hx7 row_api_Expr_len (row_api_Expr_eq x7)) (aI (ih_parse_printer_operand n hn p x7 left o_9 ho_9) tI)) ?_
                   obtain⟨l7,hl7,h⟩:=bindS h
                   have fb7:([[tP x6.sign]]:List (List PV))=l7.map row_string:=by rw [<- Option.some.inj hl7];simp only [List.map_cons,List.map_nil,row_string_eq]
                   obtain⟨s7,hs7,h⟩:=bindS h
                   refine wn (nos 3 (.val (oS l7)::(.meth (.tup []) (kR s7.2)::[]))) ⟨[(0,.ptr 0 0),(3,.ptr 1 0),(8,.ptr 3 0),(9,iP left)],[(kR s7.2),(kX e),[.mp [((.int .i64 5),(.int .i64 1)),((.int .i64 6),(.int .i64 1)),((.int .i64 20),(.int .i64 3))]],[tP x6.sign,iP x6.op,iP x6.level]]⟩ (aI (obuild rfl fb7) (aI (vparse_printer_signs n o_9.2 l7 s7 hs7) tI)) ?_
                   obtain⟨x8,hx8,h⟩:=bindS h
                   obtain⟨o_10,ho_10,h⟩:=bindS h
                   refine wn (nos 3 (.val (.vptr (kX x8) 0)::(nos 6 (.meth (.tup []) (kR o_10.2)::[])))) ⟨[],[(kR o_10.2),(kX e),[.mp [((.int .i64 5),(.int .i64 1)),((.int .i64 6),(.int .i64 1)),((.int .i64 20),(.int .i64 3))]],[tP x6.sign,iP x6.op,iP x6.level]]⟩ (aI (oi hx8 row_api_Expr_len (row_api_Expr_eq x8)) (aI (ih_parse_printer_operand n hn s7.2 x8 (if (IntKind.i64.wrap (x6.level+1)) > left then (IntKind.i64.wrap (x6.level+1)) else left) o_10 ho_10) tI)) ?_
                   cases h
                   exact rt hQ
                 . intro hJ3
                   refine zz ?_
                   rcases condS e4 with⟨hc5,e4⟩|⟨hc5,e4⟩
                   . refine zT (test hc5) ?_
                     refine wq (nos 1 []) ⟨[(0,.ptr 0 0),(3,.ptr 1 0),(8,.ptr 3 0),(9,iP 5)],[(kR p),(kX e),[.mp [((.int .i64 5),(.int .i64 1)),((.int .i64 6),(.int .i64 1)),((.int .i64 20),(.int .i64 3))]],[tP x6.sign,iP x6.op,iP x6.level]]⟩ tI ?_
                     exact zz (WS_wk [0,3,8,9] 4 rfl (lb rfl) rfl (hJ3 5 (Option.some.inj e4)))
                   . refine WS_false (test hc5) ?_
                     exact zz (WS_wk [0,3,8,9] 4 rfl (lb rfl) rfl (hJ3 x6.level (Option.some.inj e4)))
             . intro hJ2
               rcases condS e3 with⟨hc7,e3⟩|⟨hc7,e3⟩
               . exact wq (nos 2 (yT::(nos 5 []))) _ (aI (otest hc7) tI) (hJ2 true (Option.some.inj e3))
               . exact wq (nos 2 (yF::(nos 2 (.val (iP (e.Kids.length:Int))::(nos 2 []))))) _ (aI (otest hc7) (aI (olen e.Kids row_api_Expr) tI)) (hJ2 ((e.Kids.length:Int) != 2) (Option.some.inj e3))
         . intro hJ1
           refine zz ?_
           rcases condS e2 with⟨hc10,e2⟩|⟨hc10,e2⟩
           . refine WS_true (test hc10) ?_
             exact zz (WS_wk [0,3,4,106] 3 rfl (lb rfl) rfl (hJ1 (e.Op == 5) (Option.some.inj e2)))
           . refine zF (test hc10) ?_
             refine wn (nos 2 []) ⟨[(0,.ptr 0 0),(3,.ptr 1 0),(4,.mref 2),(13,iP e.Op),(106,bP (e.Op == 6))],[(kR p),(kX e),[.mp [((.int .i64 5),(.int .i64 1)),((.int .i64 6),(.int .i64 1)),((.int .i64 20),(.int .i64 3))]]]⟩ tI ?_
             rcases condS e2 with⟨hc9,e2⟩|⟨hc9,e2⟩
             . refine WS_true (test hc9) ?_
               exact zz (WS_wk [0,3,4,106] 3 rfl (lb rfl) rfl (hJ1 (e.Op == 6) (Option.some.inj e2)))
             . refine zF (test hc9) ?_
               refine wq (nos 2 []) ⟨[(0,.ptr 0 0),(3,.ptr 1 0),(4,.mref 2),(106,bP (e.Op == 20))],[(kR p),(kX e),[.mp [((.int .i64 5),(.int .i64 1)),((.int .i64 6),(.int .i64 1)),((.int .i64 20),(.int .i64 3))]]]⟩ tI ?_
               exact zz (WS_wk [0,3,4,106] 3 rfl (lb rfl) rfl (hJ1 (e.Op == 20) (Option.some.inj e2)))
theorem vparse_printer_operand_0 (n0:Nat)
 (ih_parse_printer_expr:∀ m,m<=n0->∀ (p:parse_printer) (e:api_Expr) (r:(Unit×parse_printer)),parse_printer_expr m p e=some r->VCm Tryz.prog 42 [.agg (kX e)] (kR p) (.ret (.tup [])) (kR r.2))
 (ih_parse_printer_operand:∀ m,m<=n0->∀ (p:parse_printer) (e:api_Expr) (need:Int) (r:(Unit×parse_printer)),parse_printer_operand m p e need=some r->VCm Tryz.prog 68 [.agg (kX e),iP need] (kR p) (.ret (.tup [])) (kR r.2))
 (n:Nat) (hn:n<=n0) (p:parse_printer) (e:api_Expr) (need:Int) (r:(Unit×parse_printer)) (h:parse_printer_operand (n+1) p e need=some r) (Q:AEnd->List (List PV)->Prop) (hQ:∀ y,shareP y=.tup []->Q (.ret y) [(kR r.2)]) :
 VC Tryz.prog 68 (.ptr 0 0::[.agg (kX e),iP need]) [(kR p)] Q:=by
 replace h:=(parse_printer_operand.eq_2 (n:=n) _ _ _).symm.trans h
 refine VC.intro ⟨[0,1,2,4,9],[]⟩ Tryz.func68 rfl follows ok68 (by rw [Tryz.ntmps68];exact lb rfl) ?_
 refine WS_ofR ?_
 refine zz ?_
 refine wn (nos 1 []) ⟨[(0,.ptr 0 0),(2,iP need),(4,.ptr 1 0)],[(kR p),(kX e)]⟩ tI ?_
 obtain⟨l,hl,h⟩:=bindS h
 refine wn (nos 1 (.call (iP l)::(nos 2 []))) ⟨[(0,.ptr 0 0),(4,.ptr 1 0),(9,bP (decide (need<=l)))],[(kR p),(kX e)]⟩ (aI (vparse_level n e l hl) tI) ?_
 rcases condS h with⟨hc,h⟩|⟨hc,h⟩
 . refine zT (test hc) ?_
   obtain⟨e1,he1,h⟩:=bindS h
   refine wn (nos 2 (.meth (.tup []) (kR e1.2)::[])) ⟨[(0,.ptr 0 0),(4,.ptr 1 0)],[(kR e1.2),(kX e)]⟩ (aI (ih_parse_printer_expr n hn p e e1 he1) tI) ?_
   cases h
   exact rt hQ
 . refine zF (test hc) ?_
   obtain⟨l1,hl1,h⟩:=bindS h
   have fb:([[tP ⟨#[40]⟩]]:List (List PV))=l1.map row_string:=by rw [<- Option.some.inj hl1];simp only [List.map_cons,List.map_nil,row_string_eq]
   obtain⟨s,hs,h⟩:=bindS h
   refine wn (nos 1 (.val (oS l1)::(.meth (.tup []) (kR s.2)::[]))) ⟨[(0,.ptr 0 0),(4,.ptr 1 0)],[(kR s.2),(kX e)]⟩ (aI (obuild rfl fb) (aI (vparse_printer_signs n p l1 s hs) tI)) ?_
   obtain⟨e2,he2,h⟩:=bindS h
   refine wn (nos 2 (.meth (.tup []) (kR e2.2)::[])) ⟨[(0,.ptr 0 0)],[(kR e2.2),(kX e)]⟩ (aI (ih_parse_printer_expr n hn s.2 e e2 he2) tI) ?_
   obtain⟨l2,hl2,h⟩:=bindS h
   have fb1:([[tP ⟨#[41]⟩]]:List (List PV))=l2.map row_string:=by rw [<- Option.some.inj hl2];simp only [List.map_cons,List.map_nil,row_string_eq]
   obtain⟨s1,hs1,h⟩:=bindS h
   refine wn (nos 1 (.val (oS l2)::(.meth (.tup []) (kR s1.2)::[]))) ⟨[],[(kR s1.2),(kX e)]⟩ (aI (obuild rfl fb1) (aI (vparse_printer_signs n e2.2 l2 s1 hs1) tI)) ?_
   cases h
   exact rt hQ
theorem scc_parse_printer_expr:∀ n:Nat,(∀ m,m<=n->∀ (p:parse_printer) (e:api_Expr) (r:(Unit×parse_printer)),parse_printer_expr m p e=some r->VCm Tryz.prog 42 [.agg (kX e)] (kR p) (.ret (.tup [])) (kR r.2))/\(∀ m,m<=n->∀ (p:parse_printer) (e:api_Expr) (need:Int) (r:(Unit×parse_printer)),parse_printer_operand m p e need=some r->VCm Tryz.prog 68 [.agg (kX e),iP need] (kR p) (.ret (.tup [])) (kR r.2))
 |0=>⟨(fun m hm p e r h=>by
  obtain rfl:m=0:=by omega
  exact absurd h (by simp [parse_printer_expr])),
  (fun m hm p e need r h=>by
   obtain rfl:m=0:=by omega
   exact absurd h (by simp [parse_printer_operand]))⟩
 |n+1=>by
  have ih:=scc_parse_printer_expr n
  exact⟨fun m hm p e r h=>by
   cases m with
   |zero=>exact absurd h (by simp [parse_printer_expr])
   |succ m=>exact VCm.fin (fun Q hQ=>vparse_printer_expr_0 n (ih.1) (ih.2) m (by omega) p e _ h Q hQ),
  fun m hm p e need r h=>by
   cases m with
   |zero=>exact absurd h (by simp [parse_printer_operand])
   |succ m=>exact VCm.fin (fun Q hQ=>vparse_printer_operand_0 n (ih.1) (ih.2) m (by omega) p e need _ h Q hQ)⟩
theorem vparse_printer_expr (n:Nat)(p:parse_printer)(e:api_Expr)(r:(Unit×parse_printer))(h:parse_printer_expr n p e=some r):VCm Tryz.prog 42 [.agg (kX e)] (kR p) (.ret (.tup [])) (kR r.2) :=
 (scc_parse_printer_expr n).1 n (Nat.le_refl _) p e r h
end Go.Proofs.YtgdalmleogphgaaGreatDoor
namespace Go.Proofs.YtgdalmleogphgaaGreatDoor
open Go.RowKit Go.Q Go.Vl Go.Sp
set_option maxRecDepth 100000
set_option linter.unusedSimpArgs false
set_option maxHeartbeats 4000000
set_option linter.unusedVariables false
theorem vref32_SameExpr_0 (n0:Nat)
 (ih_ref32_SameExpr:∀ m,m<=n0->∀ (a_:api_Expr) (b:api_Expr) (offsets:Bool) (r:Bool),ref32_SameExpr m a_ b offsets=some r->VCp Tryz.prog 13 [.agg (kX a_),.agg (kX b),bP offsets] (bP r))
 (n:Nat) (hn:n<=n0) (a_:api_Expr) (b:api_Expr) (offsets:Bool) (r:Bool) (h:ref32_SameExpr (n+1) a_ b offsets=some r) (Q:AEnd->List (List PV)->Prop) (hQ:∀ y,shareP y=bP r->Q (.ret y) []) :
 VC Tryz.prog 13 [.agg (kX a_),.agg (kX b),bP offsets] [] Q:=by
 replace h:=(ref32_SameExpr.eq_2 (n:=n) _ _ _).symm.trans h
 refine VC.intro ⟨[0,1,2,3,4,6,7,8,52,60,67,72,88],[]⟩ Tryz.func13 rfl follows ok13 (by rw [Tryz.ntmps13];exact lb rfl) ?_
 refine WS_ofR ?_
 refine zz ?_
 refine wn (nos 3 []) ⟨[(2,bP offsets),(3,.ptr 0 0),(4,.ptr 1 0),(6,bP false)],[(kX a_),(kX b)]⟩ tI ?_
 obtain⟨y,e,h⟩:=bindS h
 refine WS_meet (A:=Bool) (fun v=>v=y) (fun v52=>⟨[(2,bP offsets),(3,.ptr 0 0),(4,.ptr 1 0),(6,bP false),(52,bP v52)],[(kX a_),(kX b)]⟩) ?_ ?_
 . rintro v52 rfl
   show WS _ _ _ _ _ ⟨[(2,bP offsets),(3,.ptr 0 0),(4,.ptr 1 0),(6,bP false),(52,bP v52)],[(kX a_),(kX b)]⟩
   refine zz ?_
   rcases condS h with⟨hc5,h⟩|⟨hc5,h⟩
   . refine zT (test hc5) ?_
     refine wn (nos 1 []) ⟨[(2,bP offsets),(3,.ptr 0 0),(4,.ptr 1 0),(6,bP false)],[(kX a_),(kX b)]⟩ tI ?_
     cases h
     exact rt hQ
   . refine zF (test hc5) ?_
     obtain⟨y1,e1,h⟩:=bindS h
     refine WS_meet (A:=Bool) (fun v=>v=y1) (fun v60=>⟨[(2,bP offsets),(3,.ptr 0 0),(4,.ptr 1 0),(6,bP false),(60,bP v60)],[(kX a_),(kX b)]⟩) ?_ ?_
     . rintro v60 rfl
       show WS _ _ _ _ _ ⟨[(2,bP offsets),(3,.ptr 0 0),(4,.ptr 1 0),(6,bP false),(60,bP v60)],[(kX a_),(kX b)]⟩
       refine zz ?_
       rcases condS h with⟨hc3,h⟩|⟨hc3,h⟩
       . refine zT (test hc3) ?_
         refine wn (nos 1 []) ⟨[(2,bP offsets),(3,.ptr 0 0),(4,.ptr 1 0),(6,bP true)],[(kX a_),(kX b)]⟩ tI ?_
         cases h
         exact rt hQ
       . refine zF (test hc3) ?_
         refine wn (nos 2 (.val (iP (a_.Kids.length:Int))::(nos 2 (.val (iP (b.Kids.length:Int))::(nos 1 []))))) ⟨[(2,bP offsets),(3,.ptr 0 0),(4,.ptr 1 0),(6,bP false),(67,bP ((a_.Kids.length:Int) != (b.Kids.length:Int)))],[(kX a_),(kX b)]⟩ (aI (olen a_.Kids row_api_Expr) (aI (olen b.Kids row_api_Expr) tI)) ?_
         rcases condS h with⟨hc2,h⟩|⟨hc2,h⟩
         . refine zT (test hc2) ?_
           refine wn (nos 1 []) ⟨[(2,bP offsets),(3,.ptr 0 0),(4,.ptr 1 0),(6,bP false)],[(kX a_),(kX b)]⟩ tI ?_
           cases h
           exact rt hQ
         . refine zF (test hc2) ?_
           refine wn (nos 1 []) ⟨[(2,bP offsets),(3,.ptr 0 0),(4,.ptr 1 0),(6,bP false),(7,iP 0)],[(kX a_),(kX b)]⟩ tI ?_
           obtain⟨y2,e2,h⟩:=bindS h
           refine WS_meet (A:=Unit) (fun v=>.inl v=y2) (fun _=>⟨[(6,bP false)],[(kX a_),(kX b)]⟩) ?_ ?_
           . rintro _ rfl
             show WS _ _ _ _ _ ⟨[(6,bP false)],[(kX a_),(kX b)]⟩
             refine zz ?_
             refine wn (nos 1 []) ⟨[(6,bP true)],[(kX a_),(kX b)]⟩ tI ?_
             cases h
             exact rt hQ
           . intro hJ2
             refine zz ?_
             refine zB ?_
             refine WS_for [2,3,4,6,7] 2 (fun a:Nat×Int=>a.1<=n0/\ref32_SameExpr_l1 a.1 a_ b offsets a.2=some y2) (fun a=>a.1) (fun a:Nat×Int=>match a with|(_,k)=>⟨[(2,bP offsets),(3,.ptr 0 0),(4,.ptr 1 0),(6,bP false),(7,iP k)],[(kX a_),(kX b)]⟩) (n,0) (lb rfl) rfl ⟨hn,e2⟩ ?_
             clear e2 hn
             rintro⟨n,k⟩ ⟨hn,e2⟩
             show WS _ _ _ _ _ ⟨[(2,bP offsets),(3,.ptr 0 0),(4,.ptr 1 0),(6,bP false),(7,iP k)],[(kX a_),(kX b)]⟩
             cases n with
             |zero=>exact absurd e2 (by simp [ref32_SameExpr_l1])
             |succ n =>
              replace e2:=(ref32_SameExpr_l1.eq_2 (n:=n) _ _ _ _).symm.trans e2
              replace hn:n<=n0:=by omega
              refine zz ?_
              refine wn (nos 3 (.val (iP (a_.Kids.length:Int))::(nos 1 []))) ⟨[(2,bP offsets),(3,.ptr 0 0),(4,.ptr 1 0),(6,bP false),(7,iP k),(72,bP (decide (k<(a_.Kids.length:Int))))],[(kX a_),(kX b)]⟩ (aI (olen a_.Kids row_api_Expr) tI) ?_
              rcases condS e2 with⟨hc1,e2⟩|⟨hc1,e2⟩
              . refine zT (test hc1) ?_
                refine zB ?_
                obtain⟨x,hx,e2⟩:=bindS e2
                obtain⟨x1,hx1,e2⟩:=bindS e2
                obtain⟨same,hsame,e2⟩:=bindS e2
                refine wn (nos 3 (.val (.vptr (kX x) 0)::(nos 4 (.val (.vptr (kX x1) 0)::(nos 2 (.call (bP same)::(nos 1 []))))))) ⟨[(2,bP offsets),(3,.ptr 0 0),(4,.ptr 1 0),(6,bP false),(7,iP k),(8,bP same)],[(kX a_),(kX b)]⟩ (aI (oi hx row_api_Expr_len (row_api_Expr_eq x)) (aI (oi hx1 row_api_Expr_len (row_api_Expr_eq x1)) (aI (ih_ref32_SameExpr n hn x x1 offsets same hsame) tI))) ?_
                refine wn (nos 2 []) ⟨[(2,bP offsets),(3,.ptr 0 0),(4,.ptr 1 0),(6,bP false),(7,iP k),(88,bP (!same))],[(kX a_),(kX b)]⟩ tI ?_
                rcases condS e2 with⟨hc,e2⟩|⟨hc,e2⟩
                . refine zT (test hc) ?_
                  refine wn (nos 1 []) ⟨[(2,bP offsets),(3,.ptr 0 0),(4,.ptr 1 0),(6,bP false),(7,iP k)],[(kX a_),(kX b)]⟩ tI ?_
                  cases e2
                  cases h
                  exact rt hQ
                . refine zF (test hc) ?_
                  refine wq (nos 3 []) ⟨[(2,bP offsets),(3,.ptr 0 0),(4,.ptr 1 0),(6,bP false),(7,iP (IntKind.i64.wrap (k+1)))],[(kX a_),(kX b)]⟩ tI ?_
                  exact zz (WS_again (n,(IntKind.i64.wrap (k+1))) rfl ⟨hn,e2⟩ (Nat.lt_succ_self _))
              . refine zF (test hc1) ?_
                try refine z5 rfl ?_
                exact zz (WS_wk [6] 2 rfl (lb rfl) rfl (hJ2 () (Option.some.inj e2)))
     . intro hJ1
       rcases condS e1 with⟨hc4,e1⟩|⟨hc4,e1⟩
       . exact wq (nos 3 (yT::(nos 4 []))) _ (aI (otest hc4) tI) (hJ1 (decide (a_.Op<=3)) (Option.some.inj e1))
       . exact wq (nos 3 (yF::(nos 4 []))) _ (aI (otest hc4) tI) (hJ1 false (Option.some.inj e1))
 . intro hJ
   rcases condS e with⟨hc6,e⟩|⟨hc6,e⟩
   . exact wq (nos 5 (yT::(nos 38 []))) _ (aI (otest hc6) tI) (hJ true (Option.some.inj e))
   . rcases condS e with⟨hc7,e⟩|⟨hc7,e⟩
     . rcases condS e with⟨hc8,e⟩|⟨hc8,e⟩
       . exact wq (nos 5 (yF::(nos 3 (yT::(nos 7 (yT::(nos 26 []))))))) _ (aI (otest hc6) (aI (otest hc7) (aI (otest hc8) tI))) (hJ true (Option.some.inj e))
       . rcases condS e with⟨hc9,e⟩|⟨hc9,e⟩
         . rcases condS e with⟨hc10,e⟩|⟨hc10,e⟩
           . rcases condS e with⟨hc11,e⟩|⟨hc11,e⟩
             . exact wq (nos 5 (yF::(nos 3 (yT::(nos 7 (yF::(nos 3 (yT::(nos 4 (yT::(nos 7 (yT::(nos 9 []))))))))))))) _ (aI (otest hc6) (aI (otest hc7) (aI (otest hc8) (aI (otest hc9) (aI (otest hc10) (aI (otest hc11) tI)))))) (hJ true (Option.some.inj e))
             . rcases condS e with⟨hc12,e⟩|⟨hc12,e⟩
               . exact wq (nos 5 (yF::(nos 3 (yT::(nos 7 (yF::(nos 3 (yT::(nos 4 (yT::(nos 7 (yF::(nos 1 (yT::(nos 7 []))))))))))))))) _ (aI (otest hc6) (aI (otest hc7) (aI (otest hc8) (aI (otest hc9) (aI (otest hc10) (aI (otest hc11) (aI (otest hc12) tI))))))) (hJ (a_.At != b.At) (Option.some.inj e))
               . exact wq (nos 5 (yF::(nos 3 (yT::(nos 7 (yF::(nos 3 (yT::(nos 4 (yT::(nos 7 (yF::(nos 1 (yF::(nos 7 []))))))))))))))) _ (aI (otest hc6) (aI (otest hc7) (aI (otest hc8) (aI (otest hc9) (aI (otest hc10) (aI (otest hc11) (aI (otest hc12) tI))))))) (hJ false (Option.some.inj e))
           . rcases condS e with⟨hc13,e⟩|⟨hc13,e⟩
             . exact wq (nos 5 (yF::(nos 3 (yT::(nos 7 (yF::(nos 3 (yT::(nos 4 (yF::(nos 9 (yT::(nos 7 []))))))))))))) _ (aI (otest hc6) (aI (otest hc7) (aI (otest hc8) (aI (otest hc9) (aI (otest hc10) (aI (otest hc13) tI)))))) (hJ (a_.At != b.At) (Option.some.inj e))
             . exact wq (nos 5 (yF::(nos 3 (yT::(nos 7 (yF::(nos 3 (yT::(nos 4 (yF::(nos 9 (yF::(nos 7 []))))))))))))) _ (aI (otest hc6) (aI (otest hc7) (aI (otest hc8) (aI (otest hc9) (aI (otest hc10) (aI (otest hc13) tI)))))) (hJ false (Option.some.inj e))
         . rcases condS e with⟨hc14,e⟩|⟨hc14,e⟩
           . exact wq (nos 5 (yF::(nos 3 (yT::(nos 7 (yF::(nos 3 (yF::(nos 14 (yT::(nos 7 []))))))))))) _ (aI (otest hc6) (aI (otest hc7) (aI (otest hc8) (aI (otest hc9) (aI (otest hc14) tI))))) (hJ (a_.At != b.At) (Option.some.inj e))
           . exact wq (nos 5 (yF::(nos 3 (yT::(nos 7 (yF::(nos 3 (yF::(nos 14 (yF::(nos 7 []))))))))))) _ (aI (otest hc6) (aI (otest hc7) (aI (otest hc8) (aI (otest hc9) (aI (otest hc14) tI))))) (hJ false (Option.some.inj e))
     . rcases condS e with⟨hc15,e⟩|⟨hc15,e⟩
       . rcases condS e with⟨hc16,e⟩|⟨hc16,e⟩
         . rcases condS e with⟨hc17,e⟩|⟨hc17,e⟩
           . exact wq (nos 5 (yF::(nos 3 (yF::(nos 11 (yT::(nos 4 (yT::(nos 7 (yT::(nos 9 []))))))))))) _ (aI (otest hc6) (aI (otest hc7) (aI (otest hc15) (aI (otest hc16) (aI (otest hc17) tI))))) (hJ true (Option.some.inj e))
           . rcases condS e with⟨hc18,e⟩|⟨hc18,e⟩
             . exact wq (nos 5 (yF::(nos 3 (yF::(nos 11 (yT::(nos 4 (yT::(nos 7 (yF::(nos 1 (yT::(nos 7 []))))))))))))) _ (aI (otest hc6) (aI (otest hc7) (aI (otest hc15) (aI (otest hc16) (aI (otest hc17) (aI (otest hc18) tI)))))) (hJ (a_.At != b.At) (Option.some.inj e))
             . exact wq (nos 5 (yF::(nos 3 (yF::(nos 11 (yT::(nos 4 (yT::(nos 7 (yF::(nos 1 (yF::(nos 7 []))))))))))))) _ (aI (otest hc6) (aI (otest hc7) (aI (otest hc15) (aI (otest hc16) (aI (otest hc17) (aI (otest hc18) tI)))))) (hJ false (Option.some.inj e))
         . rcases condS e with⟨hc19,e⟩|⟨hc19,e⟩
           . exact wq (nos 5 (yF::(nos 3 (yF::(nos 11 (yT::(nos 4 (yF::(nos 9 (yT::(nos 7 []))))))))))) _ (aI (otest hc6) (aI (otest hc7) (aI (otest hc15) (aI (otest hc16) (aI (otest hc19) tI))))) (hJ (a_.At != b.At) (Option.some.inj e))
           . exact wq (nos 5 (yF::(nos 3 (yF::(nos 11 (yT::(nos 4 (yF::(nos 9 (yF::(nos 7 []))))))))))) _ (aI (otest hc6) (aI (otest hc7) (aI (otest hc15) (aI (otest hc16) (aI (otest hc19) tI))))) (hJ false (Option.some.inj e))
       . rcases condS e with⟨hc20,e⟩|⟨hc20,e⟩
         . exact wq (nos 5 (yF::(nos 3 (yF::(nos 11 (yF::(nos 14 (yT::(nos 7 []))))))))) _ (aI (otest hc6) (aI (otest hc7) (aI (otest hc15) (aI (otest hc20) tI)))) (hJ (a_.At != b.At) (Option.some.inj e))
         . exact wq (nos 5 (yF::(nos 3 (yF::(nos 11 (yF::(nos 14 (yF::(nos 7 []))))))))) _ (aI (otest hc6) (aI (otest hc7) (aI (otest hc15) (aI (otest hc20) tI)))) (hJ false (Option.some.inj e))
theorem scc_ref32_SameExpr:∀ n:Nat,(∀ m,m<=n->∀ (a_:api_Expr) (b:api_Expr) (offsets:Bool) (r:Bool),ref32_SameExpr m a_ b offsets=some r->VCp Tryz.prog 13 [.agg (kX a_),.agg (kX b),bP offsets] (bP r))
 |0=>(fun m hm a_ b offsets r h=>by
  obtain rfl:m=0:=by omega
  exact absurd h (by simp [ref32_SameExpr]))
 |n+1=>by
  have ih:=scc_ref32_SameExpr n
  exact fun m hm a_ b offsets r h=>by
   cases m with
   |zero=>exact absurd h (by simp [ref32_SameExpr])
   |succ m=>exact VC.fin (fun Q hQ=>vref32_SameExpr_0 n (ih) m (by omega) a_ b offsets _ h Q hQ) rfl rfl
theorem vref32_SameExpr (n:Nat)(a_:api_Expr)(b:api_Expr)(offsets:Bool)(r:Bool)(h:ref32_SameExpr n a_ b offsets=some r):VCp Tryz.prog 13 [.agg (kX a_),.agg (kX b),bP offsets] (bP r) :=
 (scc_ref32_SameExpr n) n (Nat.le_refl _) a_ b offsets r h
theorem vref32_SameArg_0 (n:Nat)(a_:api_Arg)(b:api_Arg)(offsets:Bool)(r:Bool)(h:ref32_SameArg n a_ b offsets=some r)(Q:AEnd->List (List PV)->Prop)(hQ:∀ y,shareP y=bP r->Q (.ret y) []) :
 VC Tryz.prog 32 [.agg (kA a_),.agg (kA b),bP offsets] [] Q:=by
 unfold ref32_SameArg at h
 refine VC.intro ⟨[0,1,2,3,4,6,50],[]⟩ Tryz.func32 rfl follows ok32 (by rw [Tryz.ntmps32];exact lb rfl) ?_
 refine WS_ofR ?_
 refine zz ?_
 refine wn (nos 3 []) ⟨[(2,bP offsets),(3,.ptr 0 0),(4,.ptr 1 0),(6,bP false)],[(kA a_),(kA b)]⟩ tI ?_
 obtain⟨y,e,h⟩:=bindS h
 refine WS_meet (A:=Bool) (fun v=>v=y) (fun v50=>⟨[(2,bP offsets),(3,.ptr 0 0),(4,.ptr 1 0),(6,bP false),(50,bP v50)],[(kA a_),(kA b)]⟩) ?_ ?_
 . rintro v50 rfl
   show WS _ _ _ _ _ ⟨[(2,bP offsets),(3,.ptr 0 0),(4,.ptr 1 0),(6,bP false),(50,bP v50)],[(kA a_),(kA b)]⟩
   refine zz ?_
   rcases condS h with⟨hc1,h⟩|⟨hc1,h⟩
   . refine zT (test hc1) ?_
     refine wn (nos 1 []) ⟨[(2,bP offsets),(3,.ptr 0 0),(4,.ptr 1 0),(6,bP false)],[(kA a_),(kA b)]⟩ tI ?_
     cases h
     exact rt hQ
   . refine zF (test hc1) ?_
     obtain⟨y1,e1,h⟩:=bindS h
     refine WS_meet (A:=Bool) (fun v=>v=y1) (fun v6=>⟨[(6,bP v6)],[(kA a_),(kA b)]⟩) ?_ ?_
     . rintro v6 rfl
       show WS _ _ _ _ _ ⟨[(6,bP v6)],[(kA a_),(kA b)]⟩
       refine zz ?_
       cases h
       exact rt hQ
     . intro hJ1
       rcases condS e1 with⟨hc,e1⟩|⟨hc,e1⟩
       . exact wq (nos 3 (yT::(nos 8 []))) _ (aI (otest hc) tI) (hJ1 true (Option.some.inj e1))
       . obtain⟨s,hs,e1⟩:=bindS e1
         exact wq (nos 3 (yF::(nos 5 (.call (bP s)::(nos 2 []))))) _ (aI (otest hc) (aI (vref32_SameExpr n a_.E b.E offsets s hs) tI)) (hJ1 s (Option.some.inj e1))
 . intro hJ
   rcases condS e with⟨hc2,e⟩|⟨hc2,e⟩
   . exact wq (nos 5 (yT::(nos 38 []))) _ (aI (otest hc2) tI) (hJ true (Option.some.inj e))
   . rcases condS e with⟨hc3,e⟩|⟨hc3,e⟩
     . rcases condS e with⟨hc4,e⟩|⟨hc4,e⟩
       . exact wq (nos 5 (yF::(nos 1 (yT::(nos 7 (yT::(nos 28 []))))))) _ (aI (otest hc2) (aI (otest hc3) (aI (otest hc4) tI))) (hJ true (Option.some.inj e))
       . rcases condS e with⟨hc5,e⟩|⟨hc5,e⟩
         . rcases condS e with⟨hc6,e⟩|⟨hc6,e⟩
           . exact wq (nos 5 (yF::(nos 1 (yT::(nos 7 (yF::(nos 3 (yT::(nos 12 (yT::(nos 11 []))))))))))) _ (aI (otest hc2) (aI (otest hc3) (aI (otest hc4) (aI (otest hc5) (aI (otest hc6) tI))))) (hJ true (Option.some.inj e))
           . rcases condS e with⟨hc7,e⟩|⟨hc7,e⟩
             . exact wq (nos 5 (yF::(nos 1 (yT::(nos 7 (yF::(nos 3 (yT::(nos 12 (yF::(nos 3 (yT::(nos 7 []))))))))))))) _ (aI (otest hc2) (aI (otest hc3) (aI (otest hc4) (aI (otest hc5) (aI (otest hc6) (aI (otest hc7) tI)))))) (hJ (a_.N != b.N) (Option.some.inj e))
             . exact wq (nos 5 (yF::(nos 1 (yT::(nos 7 (yF::(nos 3 (yT::(nos 12 (yF::(nos 3 (yF::(nos 7 []))))))))))))) _ (aI (otest hc2) (aI (otest hc3) (aI (otest hc4) (aI (otest hc5) (aI (otest hc6) (aI (otest hc7) tI)))))) (hJ false (Option.some.inj e))
         . rcases condS e with⟨hc8,e⟩|⟨hc8,e⟩
           . rcases condS e with⟨hc9,e⟩|⟨hc9,e⟩
             . exact wq (nos 5 (yF::(nos 1 (yT::(nos 7 (yF::(nos 3 (yF::(nos 4 (yT::(nos 7 (yT::(nos 11 []))))))))))))) _ (aI (otest hc2) (aI (otest hc3) (aI (otest hc4) (aI (otest hc5) (aI (otest hc8) (aI (otest hc9) tI)))))) (hJ true (Option.some.inj e))
             . rcases condS e with⟨hc10,e⟩|⟨hc10,e⟩
               . exact wq (nos 5 (yF::(nos 1 (yT::(nos 7 (yF::(nos 3 (yF::(nos 4 (yT::(nos 7 (yF::(nos 3 (yT::(nos 7 []))))))))))))))) _ (aI (otest hc2) (aI (otest hc3) (aI (otest hc4) (aI (otest hc5) (aI (otest hc8) (aI (otest hc9) (aI (otest hc10) tI))))))) (hJ (a_.N != b.N) (Option.some.inj e))
               . exact wq (nos 5 (yF::(nos 1 (yT::(nos 7 (yF::(nos 3 (yF::(nos 4 (yT::(nos 7 (yF::(nos 3 (yF::(nos 7 []))))))))))))))) _ (aI (otest hc2) (aI (otest hc3) (aI (otest hc4) (aI (otest hc5) (aI (otest hc8) (aI (otest hc9) (aI (otest hc10) tI))))))) (hJ false (Option.some.inj e))
           . rcases condS e with⟨hc11,e⟩|⟨hc11,e⟩
             . exact wq (nos 5 (yF::(nos 1 (yT::(nos 7 (yF::(nos 3 (yF::(nos 4 (yF::(nos 11 (yT::(nos 7 []))))))))))))) _ (aI (otest hc2) (aI (otest hc3) (aI (otest hc4) (aI (otest hc5) (aI (otest hc8) (aI (otest hc11) tI)))))) (hJ (a_.N != b.N) (Option.some.inj e))
             . exact wq (nos 5 (yF::(nos 1 (yT::(nos 7 (yF::(nos 3 (yF::(nos 4 (yF::(nos 11 (yF::(nos 7 []))))))))))))) _ (aI (otest hc2) (aI (otest hc3) (aI (otest hc4) (aI (otest hc5) (aI (otest hc8) (aI (otest hc11) tI)))))) (hJ false (Option.some.inj e))
     . rcases condS e with⟨hc12,e⟩|⟨hc12,e⟩
       . rcases condS e with⟨hc13,e⟩|⟨hc13,e⟩
         . exact wq (nos 5 (yF::(nos 1 (yF::(nos 11 (yT::(nos 12 (yT::(nos 11 []))))))))) _ (aI (otest hc2) (aI (otest hc3) (aI (otest hc12) (aI (otest hc13) tI)))) (hJ true (Option.some.inj e))
         . rcases condS e with⟨hc14,e⟩|⟨hc14,e⟩
           . exact wq (nos 5 (yF::(nos 1 (yF::(nos 11 (yT::(nos 12 (yF::(nos 3 (yT::(nos 7 []))))))))))) _ (aI (otest hc2) (aI (otest hc3) (aI (otest hc12) (aI (otest hc13) (aI (otest hc14) tI))))) (hJ (a_.N != b.N) (Option.some.inj e))
           . exact wq (nos 5 (yF::(nos 1 (yF::(nos 11 (yT::(nos 12 (yF::(nos 3 (yF::(nos 7 []))))))))))) _ (aI (otest hc2) (aI (otest hc3) (aI (otest hc12) (aI (otest hc13) (aI (otest hc14) tI))))) (hJ false (Option.some.inj e))
       . rcases condS e with⟨hc15,e⟩|⟨hc15,e⟩
         . rcases condS e with⟨hc16,e⟩|⟨hc16,e⟩
           . exact wq (nos 5 (yF::(nos 1 (yF::(nos 11 (yF::(nos 4 (yT::(nos 7 (yT::(nos 11 []))))))))))) _ (aI (otest hc2) (aI (otest hc3) (aI (otest hc12) (aI (otest hc15) (aI (otest hc16) tI))))) (hJ true (Option.some.inj e))
           . rcases condS e with⟨hc17,e⟩|⟨hc17,e⟩
             . exact wq (nos 5 (yF::(nos 1 (yF::(nos 11 (yF::(nos 4 (yT::(nos 7 (yF::(nos 3 (yT::(nos 7 []))))))))))))) _ (aI (otest hc2) (aI (otest hc3) (aI (otest hc12) (aI (otest hc15) (aI (otest hc16) (aI (otest hc17) tI)))))) (hJ (a_.N != b.N) (Option.some.inj e))
             . exact wq (nos 5 (yF::(nos 1 (yF::(nos 11 (yF::(nos 4 (yT::(nos 7 (yF::(nos 3 (yF::(nos 7 []))))))))))))) _ (aI (otest hc2) (aI (otest hc3) (aI (otest hc12) (aI (otest hc15) (aI (otest hc16) (aI (otest hc17) tI)))))) (hJ false (Option.some.inj e))
         . rcases condS e with⟨hc18,e⟩|⟨hc18,e⟩
           . exact wq (nos 5 (yF::(nos 1 (yF::(nos 11 (yF::(nos 4 (yF::(nos 11 (yT::(nos 7 []))))))))))) _ (aI (otest hc2) (aI (otest hc3) (aI (otest hc12) (aI (otest hc15) (aI (otest hc18) tI))))) (hJ (a_.N != b.N) (Option.some.inj e))
           . exact wq (nos 5 (yF::(nos 1 (yF::(nos 11 (yF::(nos 4 (yF::(nos 11 (yF::(nos 7 []))))))))))) _ (aI (otest hc2) (aI (otest hc3) (aI (otest hc12) (aI (otest hc15) (aI (otest hc18) tI))))) (hJ false (Option.some.inj e))
theorem vref32_SameArg (n:Nat)(a_:api_Arg)(b:api_Arg)(offsets:Bool)(r:Bool)(h:ref32_SameArg n a_ b offsets=some r):VCp Tryz.prog 32 [.agg (kA a_),.agg (kA b),bP offsets] (bP r):=VC.fin (fun Q hQ=>vref32_SameArg_0 n a_ b offsets _ h Q hQ) rfl rfl
theorem vref32_Same_0 (n0:Nat)
 (ih_ref32_Same:∀ m,m<=n0->∀ (a_:(List api_Form)) (b:(List api_Form)) (offsets:Bool) (r:Bool),ref32_Same m a_ b offsets=some r->VCp Tryz.prog 12 [hF a_,hF b,bP offsets] (bP r))
 (n:Nat) (hn:n<=n0) (a_:(List api_Form)) (b:(List api_Form)) (offsets:Bool) (r:Bool) (h:ref32_Same (n+1) a_ b offsets=some r) (Q:AEnd->List (List PV)->Prop) (hQ:∀ y,shareP y=bP r->Q (.ret y) []) :
 VC Tryz.prog 12 [hF a_,hF b,bP offsets] [] Q:=by
 replace h:=(ref32_Same.eq_2 (n:=n) _ _ _).symm.trans h
 refine VC.intro ⟨[0,1,2,6,7,8,9,10,15,19,63,71,93,107],[]⟩ Tryz.func12 rfl follows ok12 (by rw [Tryz.ntmps12];exact lb rfl) ?_
 refine WS_ofR ?_
 refine zz ?_
 refine wn (nos 1 []) ⟨[(0,hF a_),(1,hF b),(2,bP offsets),(6,bP false)],[]⟩ tI ?_
 refine wn (nos 1 (.val (iP (a_.length:Int))::(nos 1 (.val (iP (b.length:Int))::(nos 1 []))))) ⟨[(0,hF a_),(1,hF b),(2,bP offsets),(6,bP false),(15,bP ((a_.length:Int) != (b.length:Int)))],[]⟩ (aI (olen a_ row_api_Form) (aI (olen b row_api_Form) tI)) ?_
 rcases condS h with⟨hc8,h⟩|⟨hc8,h⟩
 . refine zT (test hc8) ?_
   refine wn (nos 1 []) ⟨[(0,hF a_),(1,hF b),(2,bP offsets),(6,bP false)],[]⟩ tI ?_
   cases h
   exact rt hQ
 . refine zF (test hc8) ?_
   refine wn (nos 1 []) ⟨[(0,hF a_),(1,hF b),(2,bP offsets),(6,bP false),(7,iP 0)],[]⟩ tI ?_
   obtain⟨y,e,h⟩:=bindS h
   refine WS_meet (A:=Unit) (fun v=>.inl v=y) (fun _=>⟨[(6,bP false)],[]⟩) ?_ ?_
   . rintro _ rfl
     show WS _ _ _ _ _ ⟨[(6,bP false)],[]⟩
     refine zz ?_
     refine wn (nos 1 []) ⟨[(6,bP true)],[]⟩ tI ?_
     cases h
     exact rt hQ
   . intro hJ
     refine zz ?_
     refine zB ?_
     refine WS_for [0,1,2,6,7] 0 (fun a:Nat×Int=>a.1<=n0/\ref32_Same_l1 a.1 a_ b offsets a.2=some y) (fun a=>a.1) (fun a:Nat×Int=>match a with|(_,k)=>⟨[(0,hF a_),(1,hF b),(2,bP offsets),(6,bP false),(7,iP k)],[]⟩) (n,0) (lb rfl) rfl ⟨hn,e⟩ ?_
     clear e hn
     rintro⟨n,k⟩ ⟨hn,e⟩
     show WS _ _ _ _ _ ⟨[(0,hF a_),(1,hF b),(2,bP offsets),(6,bP false),(7,iP k)],[]⟩
     cases n with
     |zero=>exact absurd e (by simp [ref32_Same_l1])
     |succ n =>
      replace e:=(ref32_Same_l1.eq_2 (n:=n) _ _ _ _).symm.trans e
      replace hn:n<=n0:=by omega
      refine zz ?_
      refine wn (nos 2 (.val (iP (a_.length:Int))::(nos 1 []))) ⟨[(0,hF a_),(1,hF b),(2,bP offsets),(6,bP false),(7,iP k),(19,bP (decide (k<(a_.length:Int))))],[]⟩ (aI (olen a_ row_api_Form) tI) ?_
      rcases condS e with⟨hc7,e⟩|⟨hc7,e⟩
      . refine zT (test hc7) ?_
        refine zB ?_
        obtain⟨y1,e1,e⟩:=bindS e
        refine WS_meet (A:=Bool) (fun v=>v=y1) (fun v63=>⟨[(0,hF a_),(1,hF b),(2,bP offsets),(6,bP false),(7,iP k),(63,bP v63)],[]⟩) ?_ ?_
        . rintro v63 rfl
          show WS _ _ _ _ _ ⟨[(0,hF a_),(1,hF b),(2,bP offsets),(6,bP false),(7,iP k),(63,bP v63)],[]⟩
          refine zz ?_
          rcases condS e with⟨hc3,e⟩|⟨hc3,e⟩
          . refine zT (test hc3) ?_
            refine wn (nos 1 []) ⟨[(0,hF a_),(1,hF b),(2,bP offsets),(6,bP false),(7,iP k)],[]⟩ tI ?_
            cases e
            cases h
            exact rt hQ
          . refine zF (test hc3) ?_
            refine wn (nos 1 []) ⟨[(0,hF a_),(1,hF b),(2,bP offsets),(6,bP false),(7,iP k),(8,iP 0)],[]⟩ tI ?_
            obtain⟨y2,e2,e⟩:=bindS e
            refine WS_meet (A:=Unit) (fun v=>.inl v=y2) (fun _=>⟨[(0,hF a_),(1,hF b),(2,bP offsets),(6,bP false),(7,iP k)],[]⟩) ?_ ?_
            . rintro _ rfl
              show WS _ _ _ _ _ ⟨[(0,hF a_),(1,hF b),(2,bP offsets),(6,bP false),(7,iP k)],[]⟩
              refine zz ?_
              obtain⟨x,hx,e⟩:=bindS e
              obtain⟨x1,hx1,e⟩:=bindS e
              obtain⟨same,hsame,e⟩:=bindS e
              refine wn (nos 2 (.val (.vptr (kF x) 0)::(nos 4 (.val (.vptr (kF x1) 0)::(nos 3 (.call (bP same)::(nos 1 []))))))) ⟨[(0,hF a_),(1,hF b),(2,bP offsets),(6,bP false),(7,iP k),(10,bP same)],[]⟩ (aI (oi hx row_api_Form_len (row_api_Form_eq x)) (aI (oi hx1 row_api_Form_len (row_api_Form_eq x1)) (aI (ih_ref32_Same n hn x.Body x1.Body offsets same hsame) tI))) ?_
              refine wn (nos 2 []) ⟨[(0,hF a_),(1,hF b),(2,bP offsets),(6,bP false),(7,iP k),(107,bP (!same))],[]⟩ tI ?_
              rcases condS e with⟨hc,e⟩|⟨hc,e⟩
              . refine zT (test hc) ?_
                refine wn (nos 1 []) ⟨[(0,hF a_),(1,hF b),(2,bP offsets),(6,bP false),(7,iP k)],[]⟩ tI ?_
                cases e
                cases h
                exact rt hQ
              . refine zF (test hc) ?_
                refine wq (nos 3 []) ⟨[(0,hF a_),(1,hF b),(2,bP offsets),(6,bP false),(7,iP (IntKind.i64.wrap (k+1)))],[]⟩ tI ?_
                exact zz (WS_again (n,(IntKind.i64.wrap (k+1))) rfl ⟨hn,e⟩ (Nat.lt_succ_self _))
            . intro hJ2
              refine zz ?_
              refine zB ?_
              refine WS_for [0,1,2,6,7,8] 0 (fun a:Nat×Int=>a.1<=n0/\ref32_Same_l2 a.1 a_ k b offsets a.2=some y2) (fun a=>a.1) (fun a:Nat×Int=>match a with|(_,i)=>⟨[(0,hF a_),(1,hF b),(2,bP offsets),(6,bP false),(7,iP k),(8,iP i)],[]⟩) (n,0) (lb rfl) rfl ⟨hn,e2⟩ ?_
              clear e2 hn
              rintro⟨n,i⟩ ⟨hn,e2⟩
              show WS _ _ _ _ _ ⟨[(0,hF a_),(1,hF b),(2,bP offsets),(6,bP false),(7,iP k),(8,iP i)],[]⟩
              cases n with
              |zero=>exact absurd e2 (by simp [ref32_Same_l2])
              |succ n =>
               replace e2:=(ref32_Same_l2.eq_2 (n:=n) _ _ _ _ _).symm.trans e2
               replace hn:n<=n0:=by omega
               refine zz ?_
               obtain⟨x2,hx2,e2⟩:=bindS e2
               refine wn (nos 3 (.val (.vptr (kF x2) 0)::(nos 2 (.val (iP (x2.Args.length:Int))::(nos 1 []))))) ⟨[(0,hF a_),(1,hF b),(2,bP offsets),(6,bP false),(7,iP k),(8,iP i),(71,bP (decide (i<(x2.Args.length:Int))))],[]⟩ (aI (oi hx2 row_api_Form_len (row_api_Form_eq x2)) (aI (olen x2.Args row_api_Arg) tI)) ?_
               rcases condS e2 with⟨hc2,e2⟩|⟨hc2,e2⟩
               . refine zT (test hc2) ?_
                 refine zB ?_
                 obtain⟨x3,hx3,e2⟩:=bindS e2
                 obtain⟨x4,hx4,e2⟩:=bindS e2
                 obtain⟨x5,hx5,e2⟩:=bindS e2
                 obtain⟨same1,hsame1,e2⟩:=bindS e2
                 refine wn (nos 2 (.val (.vptr (kF x2) 0)::(nos 3 (.val (.vptr (kA x3) 0)::(nos 3 (.val (.vptr (kF x4) 0)::(nos 3 (.val (.vptr (kA x5) 0)::(nos 2 (.call (bP same1)::(nos 1 []))))))))))) ⟨[(0,hF a_),(1,hF b),(2,bP offsets),(6,bP false),(7,iP k),(8,iP i),(9,bP same1)],[]⟩ (aI (oi hx2 row_api_Form_len (row_api_Form_eq x2)) (aI (oi hx3 row_api_Arg_len (row_api_Arg_eq x3)) (aI (oi hx4 row_api_Form_len (row_api_Form_eq x4)) (aI (oi hx5 row_api_Arg_len (row_api_Arg_eq x5)) (aI (vref32_SameArg n x3 x5 offsets same1 hsame1) tI))))) ?_
                 refine wn (nos 2 []) ⟨[(0,hF a_),(1,hF b),(2,bP offsets),(6,bP false),(7,iP k),(8,iP i),(93,bP (!same1))],[]⟩ tI ?_
                 rcases condS e2 with⟨hc1,e2⟩|⟨hc1,e2⟩
                 . refine zT (test hc1) ?_
                   refine wn (nos 1 []) ⟨[(0,hF a_),(1,hF b),(2,bP offsets),(6,bP false),(7,iP k),(8,iP i)],[]⟩ tI ?_
                   cases e2
                   cases e
                   cases h
                   exact rt hQ
                 . refine zF (test hc1) ?_
                   refine wq (nos 3 []) ⟨[(0,hF a_),(1,hF b),(2,bP offsets),(6,bP false),(7,iP k),(8,iP (IntKind.i64.wrap (i+1)))],[]⟩ tI ?_
                   exact zz (WS_again (n,(IntKind.i64.wrap (i+1))) rfl ⟨hn,e2⟩ (Nat.lt_succ_self _))
               . refine zF (test hc2) ?_
                 try refine z5 rfl ?_
                 exact zz (WS_wk [0,1,2,6,7] 0 rfl (lb rfl) rfl (hJ2 () (Option.some.inj e2)))
        . intro hJ1
          obtain⟨x6,hx6,e1⟩:=bindS e1
          obtain⟨x7,hx7,e1⟩:=bindS e1
          rcases condS e1 with⟨hc4,e1⟩|⟨hc4,e1⟩
          . exact wq (nos 2 (.val (.vptr (kF x6) 0)::(nos 4 (.val (.vptr (kF x7) 0)::(nos 3 (yT::(nos 30 []))))))) _ (aI (oi hx6 row_api_Form_len (row_api_Form_eq x6)) (aI (oi hx7 row_api_Form_len (row_api_Form_eq x7)) (aI (otest hc4) tI))) (hJ1 true (Option.some.inj e1))
          . rcases condS e1 with⟨hc5,e1⟩|⟨hc5,e1⟩
            . rcases condS e1 with⟨hc6,e1⟩|⟨hc6,e1⟩
              . exact wq (nos 2 (.val (.vptr (kF x6) 0)::(nos 4 (.val (.vptr (kF x7) 0)::(nos 3 (yF::(nos 1 (yT::(nos 2 (.val (.vptr (kF x6) 0)::(nos 4 (.val (.vptr (kF x7) 0)::(nos 5 (yT::(nos 14 []))))))))))))))) _ (aI (oi hx6 row_api_Form_len (row_api_Form_eq x6)) (aI (oi hx7 row_api_Form_len (row_api_Form_eq x7)) (aI (otest hc4) (aI (otest hc5) (aI (oi hx6 row_api_Form_len (row_api_Form_eq x6)) (aI (oi hx7 row_api_Form_len (row_api_Form_eq x7)) (aI (otest hc6) tI))))))) (hJ1 true (Option.some.inj e1))
              . exact wq (nos 2 (.val (.vptr (kF x6) 0)::(nos 4 (.val (.vptr (kF x7) 0)::(nos 3 (yF::(nos 1 (yT::(nos 2 (.val (.vptr (kF x6) 0)::(nos 4 (.val (.vptr (kF x7) 0)::(nos 5 (yF::(nos 2 (.val (.vptr (kF x6) 0)::(nos 2 (.val (iP (x6.Args.length:Int))::(nos 2 (.val (.vptr (kF x7) 0)::(nos 2 (.val (iP (x7.Args.length:Int))::(nos 2 []))))))))))))))))))))))) _ (aI (oi hx6 row_api_Form_len (row_api_Form_eq x6)) (aI (oi hx7 row_api_Form_len (row_api_Form_eq x7)) (aI (otest hc4) (aI (otest hc5) (aI (oi hx6 row_api_Form_len (row_api_Form_eq x6)) (aI (oi hx7 row_api_Form_len (row_api_Form_eq x7)) (aI (otest hc6) (aI (oi hx6 row_api_Form_len (row_api_Form_eq x6)) (aI (olen x6.Args row_api_Arg) (aI (oi hx7 row_api_Form_len (row_api_Form_eq x7)) (aI (olen x7.Args row_api_Arg) tI))))))))))) (hJ1 ((x6.Args.length:Int) != (x7.Args.length:Int)) (Option.some.inj e1))
            . exact wq (nos 2 (.val (.vptr (kF x6) 0)::(nos 4 (.val (.vptr (kF x7) 0)::(nos 3 (yF::(nos 1 (yF::(nos 16 (.val (.vptr (kF x6) 0)::(nos 2 (.val (iP (x6.Args.length:Int))::(nos 2 (.val (.vptr (kF x7) 0)::(nos 2 (.val (iP (x7.Args.length:Int))::(nos 2 []))))))))))))))))) _ (aI (oi hx6 row_api_Form_len (row_api_Form_eq x6)) (aI (oi hx7 row_api_Form_len (row_api_Form_eq x7)) (aI (otest hc4) (aI (otest hc5) (aI (oi hx6 row_api_Form_len (row_api_Form_eq x6)) (aI (olen x6.Args row_api_Arg) (aI (oi hx7 row_api_Form_len (row_api_Form_eq x7)) (aI (olen x7.Args row_api_Arg) tI)))))))) (hJ1 ((x6.Args.length:Int) != (x7.Args.length:Int)) (Option.some.inj e1))
      . refine zF (test hc7) ?_
        try refine z5 rfl ?_
        exact zz (WS_wk [6] 0 rfl (lb rfl) rfl (hJ () (Option.some.inj e)))
theorem scc_ref32_Same:∀ n:Nat,(∀ m,m<=n->∀ (a_:(List api_Form)) (b:(List api_Form)) (offsets:Bool) (r:Bool),ref32_Same m a_ b offsets=some r->VCp Tryz.prog 12 [hF a_,hF b,bP offsets] (bP r))
 |0=>(fun m hm a_ b offsets r h=>by
  obtain rfl:m=0:=by omega
  exact absurd h (by simp [ref32_Same]))
 |n+1=>by
  have ih:=scc_ref32_Same n
  exact fun m hm a_ b offsets r h=>by
   cases m with
   |zero=>exact absurd h (by simp [ref32_Same])
   |succ m=>exact VC.fin (fun Q hQ=>vref32_Same_0 n (ih) m (by omega) a_ b offsets _ h Q hQ) rfl rfl
theorem vref32_Same (n:Nat)(a_:(List api_Form))(b:(List api_Form))(offsets:Bool)(r:Bool)(h:ref32_Same n a_ b offsets=some r):VCp Tryz.prog 12 [hF a_,hF b,bP offsets] (bP r) :=
 (scc_ref32_Same n) n (Nat.le_refl _) a_ b offsets r h
end Go.Proofs.YtgdalmleogphgaaGreatDoor
