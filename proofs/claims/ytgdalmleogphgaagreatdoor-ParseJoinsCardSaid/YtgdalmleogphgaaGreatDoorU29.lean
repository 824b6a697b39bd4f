/-
  The walks: parser: the program computes the plain functions. (Printed by lift.py.)
-/
import Derived.Test.YtgdalmleogphgaaGreatDoorU28
namespace Go.Proofs.YtgdalmleogphgaaGreatDoor
open Go.RowKit Go.Q Go.Vl Go.Sp
set_option maxRecDepth 100000
set_option linter.unusedSimpArgs false
set_option maxHeartbeats 4000000
set_option linter.unusedVariables false
theorem vparse_parser_fail_0 (p:parse_parser)(e:Int)(r:(Ex parse_stop parse_parser Unit))(h:parse_parser_fail p e=some r)(Q:AEnd->List (List PV)->Prop)(hQ:ExM r (fun v0 s0=>∀ y,shareP y=.tup []->Q (.ret y) [(kP s0)]) (fun e0 s0=>Q (.pan (pE e0)) [(kP s0)])) :
 VC Tryz.prog 45 (.ptr 0 0::[iP e]) [(kP p)] Q:=by
 unfold parse_parser_fail at h
 refine VC.intro ⟨[0,1],[]⟩ Tryz.func45 rfl follows ok45 (by rw [Tryz.ntmps45];exact lb rfl) ?_
 refine WS_ofR ?_
 refine zz ?_
 obtain⟨x,hx,h⟩:=bindS h
 refine zz ?_
 cases h
 exact WS_runP (nos 4 (.val (.vptr (kT x) 0)::(nos 6 []))) (aI (oi hx row_api_Token_len (row_api_Token_eq x)) tI) (by kernel_rfl) rfl hQ
theorem vparse_parser_fail (p:parse_parser)(e:Int)(r:(Ex parse_stop parse_parser Unit))(h:parse_parser_fail p e=some r):ExM r (fun v0 s0=>VCm Tryz.prog 45 [iP e] (kP p) (.ret (.tup [])) (kP s0)) (fun e0 s0=>VCm Tryz.prog 45 [iP e] (kP p) (.pan (pE e0)) (kP s0)):=(match r,h with|.ok v0 s0,h=>VCm.fin (fun Q hQ=>vparse_parser_fail_0 p e _ h Q hQ)|.pan e0 s0,h=>VCm.finP (fun Q hQ=>vparse_parser_fail_0 p e _ h Q hQ))
theorem vparse_parser_next_0 (p:parse_parser)(r:(api_Token×parse_parser))(h:parse_parser_next p=some r)(Q:AEnd->List (List PV)->Prop)(hQ:∀ y,shareP y=.agg (kT r.1)->Q (.ret y) [(kP r.2)]) :
 VC Tryz.prog 46 (.ptr 0 0::[]) [(kP p)] Q:=by
 unfold parse_parser_next at h
 refine VC.intro ⟨[0,2,3],[]⟩ Tryz.func46 rfl follows ok46 (by rw [Tryz.ntmps46];exact lb rfl) ?_
 refine WS_ofR ?_
 refine zz ?_
 refine wn (nos 1 []) ⟨[(0,.ptr 0 0),(2,.ptr 1 0)],[(kP p),[iP 0,iP 0,tP ⟨#[]⟩,iP 0]]⟩ tI ?_
 obtain⟨x,hx,h⟩:=bindS h
 refine wn (nos 4 (.val (.vptr (kT x) 0)::(nos 3 []))) ⟨[(0,.ptr 0 0),(2,.ptr 1 0),(3,.ptr 2 0)],[(kP p),[iP 0,iP 0,tP ⟨#[]⟩,iP 0],(kT x)]⟩ (aI (oi hx row_api_Token_len (row_api_Token_eq x)) tI) ?_
 obtain⟨l,hl,h⟩:=bindS h
 refine wn (nos 5 (.val (hT l)::(nos 3 []))) ⟨[(2,.ptr 1 0),(3,.ptr 2 0)],[[hT l,iP p.forms],[iP 0,iP 0,tP ⟨#[]⟩,iP 0],(kT x)]⟩ (aI (osle hl row_api_Token_len) tI) ?_
 refine wn (nos 2 []) ⟨[(2,.ptr 1 0)],[[hT l,iP p.forms],(kT x),(kT x)]⟩ tI ?_
 cases h
 exact rt hQ
theorem vparse_parser_next (p:parse_parser)(r:(api_Token×parse_parser))(h:parse_parser_next p=some r):VCm Tryz.prog 46 [] (kP p) (.ret (.agg (kT r.1))) (kP r.2):=VCm.fin (fun Q hQ=>vparse_parser_next_0 p _ h Q hQ)
theorem vparse_parser_is_0 (p:parse_parser)(s:ByteArray)(r:Bool)(h:parse_parser_is p s=some r)(Q:AEnd->List (List PV)->Prop)(hQ:∀ y,shareP y=bP r->Q (.ret y) [(kP p)]) :
 VC Tryz.prog 47 (.ptr 0 0::[tP s]) [(kP p)] Q:=by
 unfold parse_parser_is at h
 refine VC.intro ⟨[0,1,4],[]⟩ Tryz.func47 rfl follows ok47 (by rw [Tryz.ntmps47];exact lb rfl) ?_
 refine WS_ofR ?_
 refine zz ?_
 refine wn (nos 1 []) ⟨[(0,.ptr 0 0),(1,tP s),(4,bP false)],[(kP p)]⟩ tI ?_
 obtain⟨y,e,h⟩:=bindS h
 refine WS_meet (A:=Bool) (fun v=>v=y) (fun v4=>⟨[(4,bP v4)],[(kP p)]⟩) ?_ ?_
 . rintro v4 rfl
   show WS _ _ _ _ _ ⟨[(4,bP v4)],[(kP p)]⟩
   refine zz ?_
   cases h
   exact rt hQ
 . intro hJ
   obtain⟨x,hx,e⟩:=bindS e
   rcases condS e with⟨hc,e⟩|⟨hc,e⟩
   . exact wq (nos 4 (.val (.vptr (kT x) 0)::(nos 3 (yT::(nos 4 (.val (.vptr (kT x) 0)::(nos 6 []))))))) _ (aI (oi hx row_api_Token_len (row_api_Token_eq x)) (aI (otest hc) (aI (oi hx row_api_Token_len (row_api_Token_eq x)) tI))) (hJ (decide (x.S=s)) (Option.some.inj e))
   . exact wq (nos 4 (.val (.vptr (kT x) 0)::(nos 3 (yF::(nos 11 []))))) _ (aI (oi hx row_api_Token_len (row_api_Token_eq x)) (aI (otest hc) tI)) (hJ false (Option.some.inj e))
theorem vparse_parser_is (p:parse_parser)(s:ByteArray)(r:Bool)(h:parse_parser_is p s=some r):VCm Tryz.prog 47 [tP s] (kP p) (.ret (bP r)) (kP p):=VCm.fin (fun Q hQ=>vparse_parser_is_0 p s _ h Q hQ)
theorem vparse_parser_begins_0 (p:parse_parser)(r:Bool)(h:parse_parser_begins p=some r)(Q:AEnd->List (List PV)->Prop)(hQ:∀ y,shareP y=bP r->Q (.ret y) [(kP p)]) :
 VC Tryz.prog 48 (.ptr 0 0::[]) [(kP p)] Q:=by
 unfold parse_parser_begins at h
 refine VC.intro ⟨[0,2,9,10],[]⟩ Tryz.func48 rfl follows ok48 (by rw [Tryz.ntmps48];exact lb rfl) ?_
 refine WS_ofR ?_
 refine zz ?_
 refine wn (nos 1 []) ⟨[(0,.ptr 0 0),(2,bP false)],[(kP p)]⟩ tI ?_
 obtain⟨x,hx,h⟩:=bindS h
 refine wn (nos 4 (.val (.vptr (kT x) 0)::(nos 2 []))) ⟨[(0,.ptr 0 0),(2,bP false),(9,iP x.Kind)],[(kP p)]⟩ (aI (oi hx row_api_Token_len (row_api_Token_eq x)) tI) ?_
 refine zB ?_
 refine wn (nos 2 []) ⟨[(0,.ptr 0 0),(2,bP false),(9,iP x.Kind),(10,bP (x.Kind == 1))],[(kP p)]⟩ tI ?_
 obtain⟨y,e,h⟩:=bindS h
 refine WS_meet (A:=Bool) (fun v=>v=y) (fun v10=>⟨[(0,.ptr 0 0),(2,bP false),(10,bP v10)],[(kP p)]⟩) ?_ ?_
 . rintro v10 rfl
   show WS _ _ _ _ _ ⟨[(0,.ptr 0 0),(2,bP false),(10,bP v10)],[(kP p)]⟩
   refine zz ?_
   rcases condS h with⟨hc1,h⟩|⟨hc1,h⟩
   . refine zT (test hc1) ?_
     refine wn (nos 1 []) ⟨[(0,.ptr 0 0),(2,bP true)],[(kP p)]⟩ tI ?_
     cases h
     exact rt hQ
   . refine zF (test hc1) ?_
     obtain⟨y1,e1,h⟩:=bindS h
     refine WS_meet (A:=Bool) (fun v=>v=y1) (fun v2=>⟨[(2,bP v2)],[(kP p)]⟩) ?_ ?_
     . rintro v2 rfl
       show WS _ _ _ _ _ ⟨[(2,bP v2)],[(kP p)]⟩
       refine zz ?_
       cases h
       exact rt hQ
     . intro hJ1
       obtain⟨i,hi,e1⟩:=bindS e1
       rcases condS e1 with⟨hc,e1⟩|⟨hc,e1⟩
       . exact wq (nos 1 (.meth (bP i) (kP p)::(yT::(nos 4 [])))) _ (aI (vparse_parser_is p ⟨#[40]⟩ i hi) (aI (otest hc) tI)) (hJ1 true (Option.some.inj e1))
       . obtain⟨i1,hi1,e1⟩:=bindS e1
         exact wq (nos 1 (.meth (bP i) (kP p)::(yF::(nos 1 (.meth (bP i1) (kP p)::(nos 2 [])))))) _ (aI (vparse_parser_is p ⟨#[40]⟩ i hi) (aI (otest hc) (aI (vparse_parser_is p ⟨#[45]⟩ i1 hi1) tI))) (hJ1 i1 (Option.some.inj e1))
 . intro hJ
   refine zz ?_
   rcases condS e with⟨hc3,e⟩|⟨hc3,e⟩
   . refine WS_true (test hc3) ?_
     exact zz (WS_wk [0,2,10] 1 rfl (lb rfl) rfl (hJ (x.Kind == 1) (Option.some.inj e)))
   . refine zF (test hc3) ?_
     refine wn (nos 2 []) ⟨[(0,.ptr 0 0),(2,bP false),(9,iP x.Kind),(10,bP (x.Kind == 2))],[(kP p)]⟩ tI ?_
     rcases condS e with⟨hc2,e⟩|⟨hc2,e⟩
     . refine WS_true (test hc2) ?_
       exact zz (WS_wk [0,2,10] 1 rfl (lb rfl) rfl (hJ (x.Kind == 2) (Option.some.inj e)))
     . refine zF (test hc2) ?_
       refine wq (nos 2 []) ⟨[(0,.ptr 0 0),(2,bP false),(10,bP (x.Kind == 3))],[(kP p)]⟩ tI ?_
       exact zz (WS_wk [0,2,10] 1 rfl (lb rfl) rfl (hJ (x.Kind == 3) (Option.some.inj e)))
theorem vparse_parser_begins (p:parse_parser)(r:Bool)(h:parse_parser_begins p=some r):VCm Tryz.prog 48 [] (kP p) (.ret (bP r)) (kP p):=VCm.fin (fun Q hQ=>vparse_parser_begins_0 p _ h Q hQ)
theorem vparse_parser_number_0 (p:parse_parser)(r:(Ex parse_stop parse_parser Int))(h:parse_parser_number p=some r)(Q:AEnd->List (List PV)->Prop)(hQ:ExM r (fun v0 s0=>∀ y,shareP y=iP v0->Q (.ret y) [(kP s0)]) (fun e0 s0=>Q (.pan (pE e0)) [(kP s0)])) :
 VC Tryz.prog 75 (.ptr 0 0::[]) [(kP p)] Q:=by
 unfold parse_parser_number at h
 refine VC.intro ⟨[0,2,10],[]⟩ Tryz.func75 rfl follows ok75 (by rw [Tryz.ntmps75];exact lb rfl) ?_
 refine WS_ofR ?_
 refine zz ?_
 refine wn (nos 1 []) ⟨[(0,.ptr 0 0),(2,iP 0)],[(kP p)]⟩ tI ?_
 obtain⟨x,hx,h⟩:=bindS h
 refine wn (nos 4 (.val (.vptr (kT x) 0)::(nos 3 []))) ⟨[(0,.ptr 0 0),(2,iP 0),(10,bP (x.Kind != 2))],[(kP p)]⟩ (aI (oi hx row_api_Token_len (row_api_Token_eq x)) tI) ?_
 rcases condS h with⟨hc,h⟩|⟨hc,h⟩
 . refine zT (test hc) ?_
   obtain⟨y,hy,h⟩:=bindS h
   rcases y with⟨f,p1⟩|⟨e,p2⟩
   . refine wn (nos 1 (.meth (.tup []) (kP p1)::[])) ⟨[(0,.ptr 0 0),(2,iP 0)],[(kP p1)]⟩ (aI (vparse_parser_fail p 5 (.ok f p1) hy) tI) ?_
     obtain⟨n_,hn_,h⟩:=bindS h
     refine wn (nos 1 (.meth (.agg (kT n_.1)) (kP n_.2)::(nos 2 []))) ⟨[(2,iP n_.1.N)],[(kP n_.2)]⟩ (aI (vparse_parser_next p1 n_ hn_) tI) ?_
     cases h
     exact rt hQ
   . refine zz ?_
     cases h
     exact WS_runP (nos 1 (.mpan (pE e) (kP p2)::[])) (aI (vparse_parser_fail p 5 (.pan e p2) hy) tI) (by kernel_rfl) rfl hQ
 . refine zF (test hc) ?_
   obtain⟨n_1,hn_1,h⟩:=bindS h
   refine wn (nos 1 (.meth (.agg (kT n_1.1)) (kP n_1.2)::(nos 2 []))) ⟨[(2,iP n_1.1.N)],[(kP n_1.2)]⟩ (aI (vparse_parser_next p n_1 hn_1) tI) ?_
   cases h
   exact rt hQ
theorem vparse_parser_number (p:parse_parser)(r:(Ex parse_stop parse_parser Int))(h:parse_parser_number p=some r):ExM r (fun v0 s0=>VCm Tryz.prog 75 [] (kP p) (.ret (iP v0)) (kP s0)) (fun e0 s0=>VCm Tryz.prog 75 [] (kP p) (.pan (pE e0)) (kP s0)):=(match r,h with|.ok v0 s0,h=>VCm.fin (fun Q hQ=>vparse_parser_number_0 p _ h Q hQ)|.pan e0 s0,h=>VCm.finP (fun Q hQ=>vparse_parser_number_0 p _ h Q hQ))
theorem vparse_parser_deep_0 (p:parse_parser)(depth:Int)(not_:Bool)(r:(Ex parse_stop parse_parser Unit))(h:parse_parser_deep p depth not_=some r)(Q:AEnd->List (List PV)->Prop)(hQ:ExM r (fun v0 s0=>∀ y,shareP y=.tup []->Q (.ret y) [(kP s0)]) (fun e0 s0=>Q (.pan (pE e0)) [(kP s0)])) :
 VC Tryz.prog 50 (.ptr 0 0::[iP depth,bP not_]) [(kP p)] Q:=by
 unfold parse_parser_deep at h
 refine VC.intro ⟨[0,1,2,16,20],[]⟩ Tryz.func50 rfl follows ok50 (by rw [Tryz.ntmps50];exact lb rfl) ?_
 refine WS_ofR ?_
 refine zz ?_
 obtain⟨y,e,h⟩:=bindS h
 refine WS_meet (A:=Bool) (fun v=>v=y) (fun v16=>⟨[(0,.ptr 0 0),(1,iP depth),(16,bP v16)],[(kP p)]⟩) ?_ ?_
 . rintro v16 rfl
   show WS _ _ _ _ _ ⟨[(0,.ptr 0 0),(1,iP depth),(16,bP v16)],[(kP p)]⟩
   refine zz ?_
   obtain⟨y1,e1,h⟩:=bindS h
   refine WS_meet (A:=((List api_Token)×Int)) (fun v=>.inl v=y1) (fun y1=>match y1 with|(p1,p2)=>⟨[(0,.ptr 0 0),(1,iP depth)],[[hT p1,iP p2]]⟩) ?_ ?_
   . rintro⟨p1,p2⟩ rfl
     show WS _ _ _ _ _ ⟨[(0,.ptr 0 0),(1,iP depth)],[[hT p1,iP p2]]⟩
     refine zz ?_
     refine wn (nos 2 []) ⟨[(0,.ptr 0 0),(20,bP (decide (30<depth)))],[[hT p1,iP p2]]⟩ tI ?_
     rcases condS h with⟨hc,h⟩|⟨hc,h⟩
     . refine zT (test hc) ?_
       obtain⟨y2,hy2,h⟩:=bindS h
       rcases y2 with⟨f,p3⟩|⟨e2,p4⟩
       . refine wn (nos 1 (.meth (.tup []) (kP p3)::[])) ⟨[],[(kP p3)]⟩ (aI (vparse_parser_fail (parse_parser.mk p1 p2) 2 (.ok f p3) hy2) tI) ?_
         cases h
         exact rt hQ
       . refine zz ?_
         cases h
         exact WS_runP (nos 1 (.mpan (pE e2) (kP p4)::[])) (aI (vparse_parser_fail (parse_parser.mk p1 p2) 2 (.pan e2 p4) hy2) tI) (by kernel_rfl) rfl hQ
     . refine zF (test hc) ?_
       cases h
       exact rt hQ
   . intro hJ1
     refine zz ?_
     rcases condS e1 with⟨hc1,e1⟩|⟨hc1,e1⟩
     . refine zT (test hc1) ?_
       obtain⟨y3,hy3,e1⟩:=bindS e1
       rcases y3 with⟨f1,p5⟩|⟨e3,p6⟩
       . refine wq (nos 1 (.meth (.tup []) (kP p5)::[])) ⟨[(0,.ptr 0 0),(1,iP depth)],[(kP p5)]⟩ (aI (vparse_parser_fail p 5 (.ok f1 p5) hy3) tI) ?_
         exact zz (WS_wk [0,1] 1 rfl (lb rfl) rfl (hJ1 (p5.l,p5.forms) (Option.some.inj e1)))
       . refine zz ?_
         cases e1
         cases h
         exact WS_runP (nos 1 (.mpan (pE e3) (kP p6)::[])) (aI (vparse_parser_fail p 5 (.pan e3 p6) hy3) tI) (by kernel_rfl) rfl hQ
     . refine WS_false (test hc1) ?_
       exact zz (WS_wk [0,1] 1 rfl (lb rfl) rfl (hJ1 (p.l,p.forms) (Option.some.inj e1)))
 . intro hJ
   obtain⟨b,hb,e⟩:=bindS e
   rcases condS e with⟨hc2,e⟩|⟨hc2,e⟩
   . rcases condS e with⟨hc3,e⟩|⟨hc3,e⟩
     . obtain⟨i,hi,e⟩:=bindS e
       exact wq (nos 1 (.meth (bP b) (kP p)::(nos 1 (yT::(nos 1 (yT::(nos 1 (.meth (bP i) (kP p)::(nos 3 []))))))))) _ (aI (vparse_parser_begins p b hb) (aI (otest hc2) (aI (otest hc3) (aI (vparse_parser_is p ⟨#[33]⟩ i hi) tI)))) (hJ (!i) (Option.some.inj e))
     . exact wq (nos 1 (.meth (bP b) (kP p)::(nos 1 (yT::(nos 1 (yF::(nos 5 []))))))) _ (aI (vparse_parser_begins p b hb) (aI (otest hc2) (aI (otest hc3) tI))) (hJ true (Option.some.inj e))
   . exact wq (nos 1 (.meth (bP b) (kP p)::(nos 1 (yF::(nos 7 []))))) _ (aI (vparse_parser_begins p b hb) (aI (otest hc2) tI)) (hJ false (Option.some.inj e))
theorem vparse_parser_deep (p:parse_parser)(depth:Int)(not_:Bool)(r:(Ex parse_stop parse_parser Unit))(h:parse_parser_deep p depth not_=some r):ExM r (fun v0 s0=>VCm Tryz.prog 50 [iP depth,bP not_] (kP p) (.ret (.tup [])) (kP s0)) (fun e0 s0=>VCm Tryz.prog 50 [iP depth,bP not_] (kP p) (.pan (pE e0)) (kP s0)):=(match r,h with|.ok v0 s0,h=>VCm.fin (fun Q hQ=>vparse_parser_deep_0 p depth not_ _ h Q hQ)|.pan e0 s0,h=>VCm.finP (fun Q hQ=>vparse_parser_deep_0 p depth not_ _ h Q hQ))
theorem vparse_parser_need_0 (p:parse_parser)(s:ByteArray)(r:(Ex parse_stop parse_parser Unit))(h:parse_parser_need p s=some r)(Q:AEnd->List (List PV)->Prop)(hQ:ExM r (fun v0 s0=>∀ y,shareP y=.tup []->Q (.ret y) [(kP s0)]) (fun e0 s0=>Q (.pan (pE e0)) [(kP s0)])) :
 VC Tryz.prog 52 (.ptr 0 0::[tP s]) [(kP p)] Q:=by
 unfold parse_parser_need at h
 refine VC.intro ⟨[0,1,7],[]⟩ Tryz.func52 rfl follows ok52 (by rw [Tryz.ntmps52];exact lb rfl) ?_
 refine WS_ofR ?_
 refine zz ?_
 obtain⟨i,hi,h⟩:=bindS h
 refine wn (nos 2 (.meth (bP i) (kP p)::(nos 1 []))) ⟨[(0,.ptr 0 0),(7,bP (!i))],[(kP p)]⟩ (aI (vparse_parser_is p s i hi) tI) ?_
 rcases condS h with⟨hc,h⟩|⟨hc,h⟩
 . refine zT (test hc) ?_
   obtain⟨y,hy,h⟩:=bindS h
   rcases y with⟨f,p1⟩|⟨e,p2⟩
   . refine wn (nos 1 (.meth (.tup []) (kP p1)::[])) ⟨[(0,.ptr 0 0)],[(kP p1)]⟩ (aI (vparse_parser_fail p 5 (.ok f p1) hy) tI) ?_
     obtain⟨n_,hn_,h⟩:=bindS h
     refine wn (nos 1 (.meth (.agg (kT n_.1)) (kP n_.2)::[])) ⟨[],[(kP n_.2)]⟩ (aI (vparse_parser_next p1 n_ hn_) tI) ?_
     cases h
     exact rt hQ
   . refine zz ?_
     cases h
     exact WS_runP (nos 1 (.mpan (pE e) (kP p2)::[])) (aI (vparse_parser_fail p 5 (.pan e p2) hy) tI) (by kernel_rfl) rfl hQ
 . refine zF (test hc) ?_
   obtain⟨n_1,hn_1,h⟩:=bindS h
   refine wn (nos 1 (.meth (.agg (kT n_1.1)) (kP n_1.2)::[])) ⟨[],[(kP n_1.2)]⟩ (aI (vparse_parser_next p n_1 hn_1) tI) ?_
   cases h
   exact rt hQ
theorem vparse_parser_need (p:parse_parser)(s:ByteArray)(r:(Ex parse_stop parse_parser Unit))(h:parse_parser_need p s=some r):ExM r (fun v0 s0=>VCm Tryz.prog 52 [tP s] (kP p) (.ret (.tup [])) (kP s0)) (fun e0 s0=>VCm Tryz.prog 52 [tP s] (kP p) (.pan (pE e0)) (kP s0)):=(match r,h with|.ok v0 s0,h=>VCm.fin (fun Q hQ=>vparse_parser_need_0 p s _ h Q hQ)|.pan e0 s0,h=>VCm.finP (fun Q hQ=>vparse_parser_need_0 p s _ h Q hQ))
theorem vparse_parser_level_1_s1_0 (p:(List api_Token))(p1:Int)(n_:Int)(q:Int)(q1:Int)(q2:ByteArray)(q3:(List api_Expr))(q4:Int)(e:Int)(e1:Int)(e2:ByteArray)(e3:(List api_Expr))(e4:Int)(b:parse_binary)(r:Bool)(h:parse_parser_level_1_s1 p p1 n_ q q1 q2 q3 q4 e e1 e2 e3 e4 b=some r)(Q:AEnd->List (List PV)->Prop)(hQ:∀ y,shareP y=bP r->Q (.ret y) [[hT p,iP p1],[.ptr 0 0],[iP n_],[iP q,iP q1,tP q2,oX q3,iP q4],[iP e,iP e1,tP e2,hX e3,iP e4]]) :
 VC Tryz.prog 77 [.agg [tP b.sign,iP b.op,iP b.level],.ptr 2 0,.ptr 1 0] [[hT p,iP p1],[.ptr 0 0],[iP n_],[iP q,iP q1,tP q2,oX q3,iP q4],[iP e,iP e1,tP e2,hX e3,iP e4]] Q:=by
 unfold parse_parser_level_1_s1 at h
 refine VC.intro ⟨[0,1,2,3,4],[]⟩ Tryz.func77 rfl follows ok77 (by rw [Tryz.ntmps77];exact lb rfl) ?_
 refine WS_ofR ?_
 refine zz ?_
 refine wn (nos 2 []) ⟨[(1,.ptr 2 0),(2,.ptr 1 0),(3,.ptr 5 0),(4,bP false)],[[hT p,iP p1],[.ptr 0 0],[iP n_],[iP q,iP q1,tP q2,oX q3,iP q4],[iP e,iP e1,tP e2,hX e3,iP e4],[tP b.sign,iP b.op,iP b.level]]⟩ tI ?_
 obtain⟨y,e5,h⟩:=bindS h
 refine WS_meet (A:=Bool) (fun v=>v=y) (fun v4=>⟨[(4,bP v4)],[[hT p,iP p1],[.ptr 0 0],[iP n_],[iP q,iP q1,tP q2,oX q3,iP q4],[iP e,iP e1,tP e2,hX e3,iP e4],[tP b.sign,iP b.op,iP b.level]]⟩) ?_ ?_
 . rintro v4 rfl
   show WS _ _ _ _ _ ⟨[(4,bP v4)],[[hT p,iP p1],[.ptr 0 0],[iP n_],[iP q,iP q1,tP q2,oX q3,iP q4],[iP e,iP e1,tP e2,hX e3,iP e4],[tP b.sign,iP b.op,iP b.level]]⟩
   refine zz ?_
   cases h
   exact rt hQ
 . intro hJ
   rcases condS e5 with⟨hc,e5⟩|⟨hc,e5⟩
   . obtain⟨i,hi,e5⟩:=bindS e5
     exact wq (nos 4 (yT::(nos 3 (.meth (bP i) [hT p,iP p1]::(nos 2 []))))) _ (aI (otest hc) (aI (vparse_parser_is (parse_parser.mk p p1) b.sign i hi) tI)) (hJ i (Option.some.inj e5))
   . exact wq (nos 4 (yF::(nos 6 []))) _ (aI (otest hc) tI) (hJ false (Option.some.inj e5))
theorem vparse_parser_level_1_s1 (p:(List api_Token))(p1:Int)(n_:Int)(q:Int)(q1:Int)(q2:ByteArray)(q3:(List api_Expr))(q4:Int)(e:Int)(e1:Int)(e2:ByteArray)(e3:(List api_Expr))(e4:Int)(b:parse_binary)(r:Bool)(h:parse_parser_level_1_s1 p p1 n_ q q1 q2 q3 q4 e e1 e2 e3 e4 b=some r):VCs Tryz.prog 77 [.agg [tP b.sign,iP b.op,iP b.level],.ptr 2 0,.ptr 1 0] [[hT p,iP p1],[.ptr 0 0],[iP n_],[iP q,iP q1,tP q2,oX q3,iP q4],[iP e,iP e1,tP e2,hX e3,iP e4]] (.ret (bP r)) [[hT p,iP p1],[.ptr 0 0],[iP n_],[iP q,iP q1,tP q2,oX q3,iP q4],[iP e,iP e1,tP e2,hX e3,iP e4]]:=VCs.fin (fun Q hQ=>vparse_parser_level_1_s1_0 p p1 n_ q q1 q2 q3 q4 e e1 e2 e3 e4 b _ h Q hQ)
theorem vslices_IndexFunc_69_77_s2_0 (n:Nat)(p:(List api_Token))(p1:Int)(n_:Int)(q:Int)(q1:Int)(q2:ByteArray)(q3:(List api_Expr))(q4:Int)(e:Int)(e1:Int)(e2:ByteArray)(e3:(List api_Expr))(e4:Int)(s:(List parse_binary))(r:Int)(h:slices_IndexFunc_69_77_s2 n p p1 n_ q q1 q2 q3 q4 e e1 e2 e3 e4 s=some r)(Q:AEnd->List (List PV)->Prop)(hQ:∀ y,shareP y=iP r->Q (.ret y) [[hT p,iP p1],[.ptr 0 0],[iP n_],[iP q,iP q1,tP q2,oX q3,iP q4],[iP e,iP e1,tP e2,hX e3,iP e4]]) :
 VC Tryz.prog 69 [hP s row_parse_binary,.fn 77 [.ptr 2 0,.ptr 1 0]] [[hT p,iP p1],[.ptr 0 0],[iP n_],[iP q,iP q1,tP q2,oX q3,iP q4],[iP e,iP e1,tP e2,hX e3,iP e4]] Q:=by
 unfold slices_IndexFunc_69_77_s2 at h
 refine VC.intro ⟨[0,1,4,5,7,8,9,16],[]⟩ Tryz.func69 rfl follows ok69 (by rw [Tryz.ntmps69];exact lb rfl) ?_
 refine WS_ofR ?_
 refine zz ?_
 refine wn (nos 1 []) ⟨[(0,hP s row_parse_binary),(1,.fn 77 [.ptr 2 0,.ptr 1 0]),(4,iP 0)],[[hT p,iP p1],[.ptr 0 0],[iP n_],[iP q,iP q1,tP q2,oX q3,iP q4],[iP e,iP e1,tP e2,hX e3,iP e4]]⟩ tI ?_
 refine wn (nos 1 (.val (iP (s.length:Int))::(nos 1 []))) ⟨[(0,hP s row_parse_binary),(1,.fn 77 [.ptr 2 0,.ptr 1 0]),(4,iP 0),(7,iP (s.length:Int)),(8,iP 0)],[[hT p,iP p1],[.ptr 0 0],[iP n_],[iP q,iP q1,tP q2,oX q3,iP q4],[iP e,iP e1,tP e2,hX e3,iP e4]]⟩ (aI (olen s row_parse_binary) tI) ?_
 obtain⟨y,e5,h⟩:=bindS h
 refine WS_meet (A:=Unit) (fun v=>.inl v=y) (fun _=>⟨[(4,iP 0)],[[hT p,iP p1],[.ptr 0 0],[iP n_],[iP q,iP q1,tP q2,oX q3,iP q4],[iP e,iP e1,tP e2,hX e3,iP e4]]⟩) ?_ ?_
 . rintro _ rfl
   show WS _ _ _ _ _ ⟨[(4,iP 0)],[[hT p,iP p1],[.ptr 0 0],[iP n_],[iP q,iP q1,tP q2,oX q3,iP q4],[iP e,iP e1,tP e2,hX e3,iP e4]]⟩
   refine zz ?_
   refine wn (nos 1 []) ⟨[(4,iP (-1))],[[hT p,iP p1],[.ptr 0 0],[iP n_],[iP q,iP q1,tP q2,oX q3,iP q4],[iP e,iP e1,tP e2,hX e3,iP e4]]⟩ tI ?_
   cases h
   exact rt hQ
 . intro hJ
   refine zz ?_
   refine zB ?_
   refine WS_for [0,1,4,7,8] 5 (fun a:Nat×Int=>slices_IndexFunc_69_77_s2_l1 a.1 s p p1 n_ q q1 q2 q3 q4 e e1 e2 e3 e4 a.2=some y) (fun a=>a.1) (fun a:Nat×Int=>match a with|(_,v8)=>⟨[(0,hP s row_parse_binary),(1,.fn 77 [.ptr 2 0,.ptr 1 0]),(4,iP 0),(7,iP (s.length:Int)),(8,iP v8)],[[hT p,iP p1],[.ptr 0 0],[iP n_],[iP q,iP q1,tP q2,oX q3,iP q4],[iP e,iP e1,tP e2,hX e3,iP e4]]⟩) (n,0) (lb rfl) rfl e5 ?_
   clear e5
   rintro⟨n,v8⟩ e5
   show WS _ _ _ _ _ ⟨[(0,hP s row_parse_binary),(1,.fn 77 [.ptr 2 0,.ptr 1 0]),(4,iP 0),(7,iP (s.length:Int)),(8,iP v8)],[[hT p,iP p1],[.ptr 0 0],[iP n_],[iP q,iP q1,tP q2,oX q3,iP q4],[iP e,iP e1,tP e2,hX e3,iP e4]]⟩
   cases n with
   |zero=>exact absurd e5 (by simp [slices_IndexFunc_69_77_s2_l1])
   |succ n =>
    replace e5:=(slices_IndexFunc_69_77_s2_l1.eq_2 (n:=n) _ _ _ _ _ _ _ _ _ _ _ _ _ _ _).symm.trans e5
    refine zz ?_
    refine wn (nos 1 []) ⟨[(0,hP s row_parse_binary),(1,.fn 77 [.ptr 2 0,.ptr 1 0]),(4,iP 0),(7,iP (s.length:Int)),(8,iP v8),(9,bP (decide (v8<(s.length:Int))))],[[hT p,iP p1],[.ptr 0 0],[iP n_],[iP q,iP q1,tP q2,oX q3,iP q4],[iP e,iP e1,tP e2,hX e3,iP e4]]⟩ tI ?_
    rcases condS e5 with⟨hc1,e5⟩|⟨hc1,e5⟩
    . refine zT (test hc1) ?_
      refine zB ?_
      refine wn (nos 2 []) ⟨[(0,hP s row_parse_binary),(1,.fn 77 [.ptr 2 0,.ptr 1 0]),(4,iP 0),(5,iP v8),(7,iP (s.length:Int)),(8,iP v8)],[[hT p,iP p1],[.ptr 0 0],[iP n_],[iP q,iP q1,tP q2,oX q3,iP q4],[iP e,iP e1,tP e2,hX e3,iP e4]]⟩ tI ?_
      obtain⟨x,hx,e5⟩:=bindS e5
      obtain⟨l,hl,e5⟩:=bindS e5
      refine wn (nos 3 (.val (.vptr [tP x.sign,iP x.op,iP x.level] 0)::(nos 1 (.site (bP l) [[hT p,iP p1],[.ptr 0 0],[iP n_],[iP q,iP q1,tP q2,oX q3,iP q4],[iP e,iP e1,tP e2,hX e3,iP e4]]::[])))) ⟨[(0,hP s row_parse_binary),(1,.fn 77 [.ptr 2 0,.ptr 1 0]),(4,iP 0),(5,iP v8),(7,iP (s.length:Int)),(8,iP v8),(16,bP l)],[[hT p,iP p1],[.ptr 0 0],[iP n_],[iP q,iP q1,tP q2,oX q3,iP q4],[iP e,iP e1,tP e2,hX e3,iP e4]]⟩ (aI (oi hx row_parse_binary_len (row_parse_binary_eq x)) (aI (vparse_parser_level_1_s1 p p1 n_ q q1 q2 q3 q4 e e1 e2 e3 e4 x l hl) tI)) ?_
      rcases condS e5 with⟨hc,e5⟩|⟨hc,e5⟩
      . refine zT (test hc) ?_
        refine wn (nos 2 []) ⟨[(0,hP s row_parse_binary),(1,.fn 77 [.ptr 2 0,.ptr 1 0]),(4,iP v8),(7,iP (s.length:Int)),(8,iP v8)],[[hT p,iP p1],[.ptr 0 0],[iP n_],[iP q,iP q1,tP q2,oX q3,iP q4],[iP e,iP e1,tP e2,hX e3,iP e4]]⟩ tI ?_
        cases e5
        cases h
        exact rt hQ
      . refine zF (test hc) ?_
        refine wq (nos 2 []) ⟨[(0,hP s row_parse_binary),(1,.fn 77 [.ptr 2 0,.ptr 1 0]),(4,iP 0),(7,iP (s.length:Int)),(8,iP (IntKind.i64.wrap (v8+1)))],[[hT p,iP p1],[.ptr 0 0],[iP n_],[iP q,iP q1,tP q2,oX q3,iP q4],[iP e,iP e1,tP e2,hX e3,iP e4]]⟩ tI ?_
        exact zz (WS_again (n,(IntKind.i64.wrap (v8+1))) rfl e5 (Nat.lt_succ_self _))
    . refine zF (test hc1) ?_
      try refine z5 rfl ?_
      exact zz (WS_wk [4] 5 rfl (lb rfl) rfl (hJ () (Option.some.inj e5)))
theorem vslices_IndexFunc_69_77_s2 (n:Nat)(p:(List api_Token))(p1:Int)(n_:Int)(q:Int)(q1:Int)(q2:ByteArray)(q3:(List api_Expr))(q4:Int)(e:Int)(e1:Int)(e2:ByteArray)(e3:(List api_Expr))(e4:Int)(s:(List parse_binary))(r:Int)(h:slices_IndexFunc_69_77_s2 n p p1 n_ q q1 q2 q3 q4 e e1 e2 e3 e4 s=some r):VCs Tryz.prog 69 [hP s row_parse_binary,.fn 77 [.ptr 2 0,.ptr 1 0]] [[hT p,iP p1],[.ptr 0 0],[iP n_],[iP q,iP q1,tP q2,oX q3,iP q4],[iP e,iP e1,tP e2,hX e3,iP e4]] (.ret (iP r)) [[hT p,iP p1],[.ptr 0 0],[iP n_],[iP q,iP q1,tP q2,oX q3,iP q4],[iP e,iP e1,tP e2,hX e3,iP e4]]:=VCs.fin (fun Q hQ=>vslices_IndexFunc_69_77_s2_0 n p p1 n_ q q1 q2 q3 q4 e e1 e2 e3 e4 s _ h Q hQ)
theorem okp_parse_parser_expr:okCode [(8,[9999,1,0,0,1,2,3,4,5,6,7,8,9,10])] Tryz.f28.ntmps (Tryz.f28.body.getD .skip)=true:=by kernel_rfl
theorem vparse_parser_expr_0 (n0:Nat)
 (ih_parse_parser_expr:∀ m,m<=n0->∀ (p:parse_parser) (depth:Int) (r:(Ex parse_stop parse_parser api_Expr)),parse_parser_expr m p depth=some r->ExM r (fun v0 s0=>VCm Tryz.prog 28 [iP depth] (kP p) (.ret (.agg (kX v0))) (kP s0)) (fun e0 s0=>VCm Tryz.prog 28 [iP depth] (kP p) (.pan (pE e0)) (kP s0)))
 (ih_parse_parser_level:∀ m,m<=n0->∀ (p:parse_parser) (n_:Int) (depth:Int) (r:(Ex parse_stop parse_parser api_Expr)),parse_parser_level m p n_ depth=some r->ExM r (fun v0 s0=>VCm Tryz.prog 51 [iP n_,iP depth] (kP p) (.ret (.agg (kX v0))) (kP s0)) (fun e0 s0=>VCm Tryz.prog 51 [iP n_,iP depth] (kP p) (.pan (pE e0)) (kP s0)))
 (ih_parse_parser_neg:∀ m,m<=n0->∀ (p:parse_parser) (depth:Int) (r:(Ex parse_stop parse_parser api_Expr)),parse_parser_neg m p depth=some r->ExM r (fun v0 s0=>VCm Tryz.prog 76 [iP depth] (kP p) (.ret (.agg (kX v0))) (kP s0)) (fun e0 s0=>VCm Tryz.prog 76 [iP depth] (kP p) (.pan (pE e0)) (kP s0)))
 (ih_parse_parser_atom:∀ m,m<=n0->∀ (p:parse_parser) (depth:Int) (r:(Ex parse_stop parse_parser api_Expr)),parse_parser_atom m p depth=some r->ExM r (fun v0 s0=>VCm Tryz.prog 101 [iP depth] (kP p) (.ret (.agg (kX v0))) (kP s0)) (fun e0 s0=>VCm Tryz.prog 101 [iP depth] (kP p) (.pan (pE e0)) (kP s0)))
 (n:Nat) (hn:n<=n0) (p:parse_parser) (depth:Int) (r:(Ex parse_stop parse_parser api_Expr)) (h:parse_parser_expr (n+1) p depth=some r) (Q:AEnd->List (List PV)->Prop) (hQ:ExM r (fun v0 s0=>∀ y,shareP y=.agg (kX v0)->Q (.ret y) [(kP s0)]) (fun e0 s0=>Q (.pan (pE e0)) [(kP s0)])) :
 VC Tryz.prog 28 (.ptr 0 0::[iP depth]) [(kP p)] Q:=by
 replace h:=(parse_parser_expr.eq_2 (n:=n) _ _).symm.trans h
 refine VC.intro ⟨[0,1,4,5,6,15],[(8,[9999,1,0,0,1,2,3,4,5,6,7,8,9,10])]⟩ Tryz.func28 rfl follows okp_parse_parser_expr (by rw [Tryz.ntmps28];exact lb rfl) ?_
 refine WS_ofR ?_
 refine zz ?_
 refine wn (nos 1 []) ⟨[(0,.ptr 0 0),(1,iP depth),(4,.ptr 1 0)],[(kP p),[iP 0,iP 0,tP ⟨#[]⟩,.sl [] .own,iP 0]]⟩ tI ?_
 obtain⟨y,hy,h⟩:=bindS h
 rcases y with⟨d,p1⟩|⟨e,p2⟩
 . refine wn (nos 2 (.meth (.tup []) (kP p1)::[])) ⟨[(0,.ptr 0 0),(1,iP depth),(4,.ptr 1 0)],[(kP p1),[iP 0,iP 0,tP ⟨#[]⟩,.sl [] .own,iP 0]]⟩ (aI (vparse_parser_deep p depth true (.ok d p1) hy) tI) ?_
   obtain⟨y1,hy1,h⟩:=bindS h
   rcases y1 with⟨e1,p3⟩|⟨e2,p4⟩
   . refine wn (nos 2 (.meth (.agg (kX e1)) (kP p3)::(nos 2 []))) ⟨[(0,.ptr 0 0),(1,iP depth),(4,.ptr 1 0),(5,.ptr 2 0)],[(kP p3),[iP 0,iP 0,tP ⟨#[]⟩,.sl [] .own,iP 0],(kX e1)]⟩ (aI (ih_parse_parser_level n hn p1 1 depth (.ok e1 p3) hy1) tI) ?_
     obtain⟨i,hi,h⟩:=bindS h
     refine wn (nos 1 (.meth (bP i) (kP p3)::(nos 1 []))) ⟨[(0,.ptr 0 0),(1,iP depth),(4,.ptr 1 0),(5,.ptr 2 0),(15,bP (!i))],[(kP p3),[iP 0,iP 0,tP ⟨#[]⟩,.sl [] .own,iP 0],(kX e1)]⟩ (aI (vparse_parser_is p3 ⟨#[63]⟩ i hi) tI) ?_
     rcases condS h with⟨hc,h⟩|⟨hc,h⟩
     . refine zT (test hc) ?_
       refine wn (nos 2 []) ⟨[(0,.ptr 0 0),(1,iP depth),(4,.ptr 1 0),(5,.ptr 2 0)],[(kP p3),(kX e1),(kX e1)]⟩ tI ?_
       cases h
       exact rt hQ
     . refine zF (test hc) ?_
       obtain⟨n_,hn_,h⟩:=bindS h
       refine wn (nos 1 (.meth (.agg (kT n_.1)) (kP n_.2)::[])) ⟨[(0,.ptr 0 0),(1,iP depth),(4,.ptr 1 0),(5,.ptr 2 0)],[(kP n_.2),[iP 0,iP 0,tP ⟨#[]⟩,.sl [] .own,iP 0],(kX e1)]⟩ (aI (vparse_parser_next p3 n_ hn_) tI) ?_
       obtain⟨y2,hy2,h⟩:=bindS h
       rcases y2 with⟨a_,p5⟩|⟨e3,p6⟩
       . refine wn (nos 3 (.meth (.agg (kX a_)) (kP p5)::(nos 2 []))) ⟨[(0,.ptr 0 0),(1,iP depth),(4,.ptr 1 0),(5,.ptr 2 0),(6,.ptr 3 0)],[(kP p5),[iP 0,iP 0,tP ⟨#[]⟩,.sl [] .own,iP 0],(kX e1),(kX a_)]⟩ (aI (ih_parse_parser_expr n hn n_.2 (IntKind.i64.wrap (depth+1)) (.ok a_ p5) hy2) tI) ?_
         obtain⟨y3,hy3,h⟩:=bindS h
         rcases y3 with⟨n_1,p7⟩|⟨e4,p8⟩
         . refine wn (nos 1 (.meth (.tup []) (kP p7)::[])) ⟨[(0,.ptr 0 0),(1,iP depth),(4,.ptr 1 0),(5,.ptr 2 0),(6,.ptr 3 0)],[(kP p7),[iP 0,iP 0,tP ⟨#[]⟩,.sl [] .own,iP 0],(kX e1),(kX a_)]⟩ (aI (vparse_parser_need p5 ⟨#[58]⟩ (.ok n_1 p7) hy3) tI) ?_
           obtain⟨y4,hy4,h⟩:=bindS h
           rcases y4 with⟨e5,p9⟩|⟨e6,p10⟩
           . obtain⟨l,hl,h⟩:=bindS h
             have fb:([(kX e1),(kX a_),(kX e5)]:List (List PV))=l.map row_api_Expr:=by rw [<- Option.some.inj hl];simp only [List.map_cons,List.map_nil,row_api_Expr_eq]
             refine wqD [0] [0,1,2,3,4,5,6,7,8,9,10] (nos 7 (.meth (.agg (kX e5)) (kP p9)::(.val (oX l)::(nos 2 [])))) ⟨[(4,.ptr 1 0)],[(kP p9),[iP 20,iP 0,tP ⟨#[]⟩,hX l,iP e1.At],(kX e1),(kX a_)]⟩ (aI (ih_parse_parser_expr n hn p7 (IntKind.i64.wrap (depth+1)) (.ok e5 p9) hy4) (aI (obuild rfl fb) tI)) ?_
             refine zz ?_
             cases h
             exact rt hQ
           . refine zz ?_
             cases h
             exact WS_runDP [0] [0,1,2,3,4,5,6,7,8,9,10] (nos 7 (.mpan (pE e6) (kP p10)::(nos 3 []))) (aI (ih_parse_parser_expr n hn p7 (IntKind.i64.wrap (depth+1)) (.pan e6 p10) hy4) tI) (by kernel_rfl) rfl hQ
         . refine zz ?_
           cases h
           exact WS_runP (nos 1 (.mpan (pE e4) (kP p8)::[])) (aI (vparse_parser_need p5 ⟨#[58]⟩ (.pan e4 p8) hy3) tI) (by kernel_rfl) rfl hQ
       . refine zz ?_
         cases h
         exact WS_runP (nos 3 (.mpan (pE e3) (kP p6)::(nos 2 []))) (aI (ih_parse_parser_expr n hn n_.2 (IntKind.i64.wrap (depth+1)) (.pan e3 p6) hy2) tI) (by kernel_rfl) rfl hQ
   . refine zz ?_
     cases h
     exact WS_runP (nos 2 (.mpan (pE e2) (kP p4)::(nos 2 []))) (aI (ih_parse_parser_level n hn p1 1 depth (.pan e2 p4) hy1) tI) (by kernel_rfl) rfl hQ
 . refine zz ?_
   cases h
   exact WS_runP (nos 2 (.mpan (pE e) (kP p2)::[])) (aI (vparse_parser_deep p depth true (.pan e p2) hy) tI) (by kernel_rfl) rfl hQ
theorem okp_parse_parser_level:okCode [(14,[9999,1,0,1,5,6,7,8,9,10,11,0,2,3,4,12,13,14,15])] Tryz.f51.ntmps (Tryz.f51.body.getD .skip)=true:=by kernel_rfl
theorem vparse_parser_level_0 (n0:Nat)
 (ih_parse_parser_expr:∀ m,m<=n0->∀ (p:parse_parser) (depth:Int) (r:(Ex parse_stop parse_parser api_Expr)),parse_parser_expr m p depth=some r->ExM r (fun v0 s0=>VCm Tryz.prog 28 [iP depth] (kP p) (.ret (.agg (kX v0))) (kP s0)) (fun e0 s0=>VCm Tryz.prog 28 [iP depth] (kP p) (.pan (pE e0)) (kP s0)))
 (ih_parse_parser_level:∀ m,m<=n0->∀ (p:parse_parser) (n_:Int) (depth:Int) (r:(Ex parse_stop parse_parser api_Expr)),parse_parser_level m p n_ depth=some r->ExM r (fun v0 s0=>VCm Tryz.prog 51 [iP n_,iP depth] (kP p) (.ret (.agg (kX v0))) (kP s0)) (fun e0 s0=>VCm Tryz.prog 51 [iP n_,iP depth] (kP p) (.pan (pE e0)) (kP s0)))
 (ih_parse_parser_neg:∀ m,m<=n0->∀ (p:parse_parser) (depth:Int) (r:(Ex parse_stop parse_parser api_Expr)),parse_parser_neg m p depth=some r->ExM r (fun v0 s0=>VCm Tryz.prog 76 [iP depth] (kP p) (.ret (.agg (kX v0))) (kP s0)) (fun e0 s0=>VCm Tryz.prog 76 [iP depth] (kP p) (.pan (pE e0)) (kP s0)))
 (ih_parse_parser_atom:∀ m,m<=n0->∀ (p:parse_parser) (depth:Int) (r:(Ex parse_stop parse_parser api_Expr)),parse_parser_atom m p depth=some r->ExM r (fun v0 s0=>VCm Tryz.prog 101 [iP depth] (kP p) (.ret (.agg (kX v0))) (kP s0)) (fun e0 s0=>VCm Tryz.prog 101 [iP depth] (kP p) (.pan (pE e0)) (kP s0)))
 (n:Nat) (hn:n<=n0) (p:parse_parser) (n_:Int) (depth:Int) (r:(Ex parse_stop parse_parser api_Expr)) (h:parse_parser_level (n+1) p n_ depth=some r) (Q:AEnd->List (List PV)->Prop) (hQ:ExM r (fun v0 s0=>∀ y,shareP y=.agg (kX v0)->Q (.ret y) [(kP s0)]) (fun e0 s0=>Q (.pan (pE e0)) [(kP s0)])) :
 VC Tryz.prog 51 (.ptr 0 0::[iP n_,iP depth]) [(kP p)] Q:=by
 replace h:=(parse_parser_level.eq_2 (n:=n) _ _ _).symm.trans h
 refine VC.intro ⟨[0,1,2,3,4,6,7,8,9,11,13,31,44,64],[(14,[9999,1,0,1,5,6,7,8,9,10,11,0,2,3,4,12,13,14,15])]⟩ Tryz.func51 rfl follows okp_parse_parser_level (by rw [Tryz.ntmps51];exact lb rfl) ?_
 refine WS_ofR ?_
 refine zz ?_
 refine wn (nos 3 []) ⟨[(2,iP depth),(3,.ptr 1 0),(4,.ptr 2 0),(6,.ptr 3 0)],[(kP p),[.ptr 0 0],[iP n_],[iP 0,iP 0,tP ⟨#[]⟩,.sl [] .own,iP 0]]⟩ tI ?_
 refine wn (nos 2 []) ⟨[(2,iP depth),(3,.ptr 1 0),(4,.ptr 2 0),(6,.ptr 3 0),(11,bP (n_ == 3))],[(kP p),[.ptr 0 0],[iP n_],[iP 0,iP 0,tP ⟨#[]⟩,.sl [] .own,iP 0]]⟩ tI ?_
 obtain⟨y,e,h⟩:=bindS h
 refine WS_meet (A:=Int) (fun v=>.inl v=y) (fun n_1=>⟨[(2,iP depth),(3,.ptr 1 0),(4,.ptr 2 0),(6,.ptr 3 0)],[(kP p),[.ptr 0 0],[iP n_1],[iP 0,iP 0,tP ⟨#[]⟩,.sl [] .own,iP 0]]⟩) ?_ ?_
 . rintro n_1 rfl
   show WS _ _ _ _ _ ⟨[(2,iP depth),(3,.ptr 1 0),(4,.ptr 2 0),(6,.ptr 3 0)],[(kP p),[.ptr 0 0],[iP n_1],[iP 0,iP 0,tP ⟨#[]⟩,.sl [] .own,iP 0]]⟩
   refine zz ?_
   refine wn (nos 2 []) ⟨[(2,iP depth),(3,.ptr 1 0),(4,.ptr 2 0),(6,.ptr 3 0),(31,bP (n_1 == 7))],[(kP p),[.ptr 0 0],[iP n_1],[iP 0,iP 0,tP ⟨#[]⟩,.sl [] .own,iP 0]]⟩ tI ?_
   rcases condS h with⟨hc2,h⟩|⟨hc2,h⟩
   . refine zT (test hc2) ?_
     obtain⟨y1,hy1,h⟩:=bindS h
     rcases y1 with⟨n_2,p1⟩|⟨e1,p2⟩
     . refine wn (nos 2 (.meth (.agg (kX n_2)) (kP p1)::(nos 1 []))) ⟨[(2,iP depth),(3,.ptr 1 0),(4,.ptr 2 0),(6,.ptr 3 0)],[(kP p1),[.ptr 0 0],[iP n_1],(kX n_2)]⟩ (aI (ih_parse_parser_neg n hn p depth (.ok n_2 p1) hy1) tI) ?_
       cases h
       exact rt hQ
     . refine zz ?_
       cases h
       exact WS_runP (nos 2 (.mpan (pE e1) (kP p2)::(nos 1 []))) (aI (ih_parse_parser_neg n hn p depth (.pan e1 p2) hy1) tI) (by kernel_rfl) rfl hQ
   . refine zF (test hc2) ?_
     obtain⟨y2,hy2,h⟩:=bindS h
     rcases y2 with⟨e2,p3⟩|⟨e3,p4⟩
     . refine wn (nos 4 (.meth (.agg (kX e2)) (kP p3)::(nos 2 []))) ⟨[(2,iP depth),(3,.ptr 1 0),(4,.ptr 2 0),(6,.ptr 3 0),(8,.ptr 4 0)],[(kP p3),[.ptr 0 0],[iP n_1],[iP 0,iP 0,tP ⟨#[]⟩,.sl [] .own,iP 0],(kX e2)]⟩ (aI (ih_parse_parser_level n hn p (IntKind.i64.wrap (n_1+1)) depth (.ok e2 p3) hy2) tI) ?_
       refine zB ?_
       refine WS_for [2,3,4,6,8] 5 (fun a:Nat×((List api_Token)×Int×Int×Int×ByteArray×(List api_Expr))=>a.1<=n0/\parse_parser_level_l1 a.1 n_1 e2 depth a.2.1 a.2.2.1 a.2.2.2.1 a.2.2.2.2.1 a.2.2.2.2.2.1 a.2.2.2.2.2.2=some r) (fun a=>a.1) (fun a:Nat×((List api_Token)×Int×Int×Int×ByteArray×(List api_Expr))=>match a with|(_,(p5,p6,e4,e5,e6,e7))=>⟨[(2,iP depth),(3,.ptr 1 0),(4,.ptr 2 0),(6,.ptr 3 0),(8,.ptr 4 0)],[[hT p5,iP p6],[.ptr 0 0],[iP n_1],[iP 0,iP 0,tP ⟨#[]⟩,.sl [] .own,iP 0],[iP e4,iP e5,tP e6,hX e7,iP e2.At]]⟩) (n,(p3.l,p3.forms,e2.Op,e2.N,e2.S,e2.Kids)) (lb rfl) rfl ⟨hn,h⟩ ?_
       clear h hn
       rintro⟨n,p5,p6,e4,e5,e6,e7⟩ ⟨hn,h⟩
       show WS _ _ _ _ _ ⟨[(2,iP depth),(3,.ptr 1 0),(4,.ptr 2 0),(6,.ptr 3 0),(8,.ptr 4 0)],[[hT p5,iP p6],[.ptr 0 0],[iP n_1],[iP 0,iP 0,tP ⟨#[]⟩,.sl [] .own,iP 0],[iP e4,iP e5,tP e6,hX e7,iP e2.At]]⟩
       cases n with
       |zero=>exact absurd h (by simp [parse_parser_level_l1])
       |succ n =>
        replace h:=(parse_parser_level_l1.eq_2 (n:=n) _ _ _ _ _ _ _ _ _).symm.trans h
        replace hn:n<=n0:=by omega
        refine zz ?_
        refine zB ?_
        obtain⟨o_,ho_,h⟩:=bindS h
        obtain⟨k,hk,h⟩:=bindS h
        refine wn (.call (oP o_ row_parse_binary)::(nos 1 (.site (iP k) [[hT p5,iP p6],[.ptr 0 0],[iP n_1],[iP 0,iP 0,tP ⟨#[]⟩,.sl [] .own,iP 0],[iP e4,iP e5,tP e6,hX e7,iP e2.At]]::(nos 1 [])))) ⟨[(2,iP depth),(3,.ptr 1 0),(4,.ptr 2 0),(6,.ptr 3 0),(8,.ptr 4 0),(9,iP k)],[[hT p5,iP p6],[.ptr 0 0],[iP n_1],[iP 0,iP 0,tP ⟨#[]⟩,.sl [] .own,iP 0],[iP e4,iP e5,tP e6,hX e7,iP e2.At]]⟩ (aI (vparse_operators o_ ho_) (aI (vslices_IndexFunc_69_77_s2 n p5 p6 n_1 0 0 ⟨#[]⟩ [] 0 e4 e5 e6 e7 e2.At o_ k hk) tI)) ?_
        refine wn (nos 2 []) ⟨[(2,iP depth),(3,.ptr 1 0),(4,.ptr 2 0),(6,.ptr 3 0),(8,.ptr 4 0),(9,iP k),(44,bP (decide (k<0)))],[[hT p5,iP p6],[.ptr 0 0],[iP n_1],[iP 0,iP 0,tP ⟨#[]⟩,.sl [] .own,iP 0],[iP e4,iP e5,tP e6,hX e7,iP e2.At]]⟩ tI ?_
        rcases condS h with⟨hc1,h⟩|⟨hc1,h⟩
        . refine zT (test hc1) ?_
          refine wn (nos 2 []) ⟨[(2,iP depth),(3,.ptr 1 0),(4,.ptr 2 0),(6,.ptr 3 0),(8,.ptr 4 0),(9,iP k)],[[hT p5,iP p6],[.ptr 0 0],[iP n_1],[iP e4,iP e5,tP e6,hX e7,iP e2.At],[iP e4,iP e5,tP e6,hX e7,iP e2.At]]⟩ tI ?_
          cases h
          exact rt hQ
        . refine zF (test hc1) ?_
          obtain⟨n_3,hn_3,h⟩:=bindS h
          refine wn (nos 1 (.meth (.agg (kT n_3.1)) (kP n_3.2)::[])) ⟨[(2,iP depth),(3,.ptr 1 0),(4,.ptr 2 0),(6,.ptr 3 0),(8,.ptr 4 0),(9,iP k)],[(kP n_3.2),[.ptr 0 0],[iP n_1],[iP 0,iP 0,tP ⟨#[]⟩,.sl [] .own,iP 0],[iP e4,iP e5,tP e6,hX e7,iP e2.At]]⟩ (aI (vparse_parser_next (parse_parser.mk p5 p6) n_3 hn_3) tI) ?_
          obtain⟨o_1,ho_1,h⟩:=bindS h
          obtain⟨x,hx,h⟩:=bindS h
          obtain⟨y3,hy3,h⟩:=bindS h
          rcases y3 with⟨l,p7⟩|⟨e8,p8⟩
          . obtain⟨l1,hl1,h⟩:=bindS h
            have fb:([[iP e4,iP e5,tP e6,hX e7,iP e2.At],(kX l)]:List (List PV))=l1.map row_api_Expr:=by rw [<- Option.some.inj hl1];simp only [List.map_cons,List.map_nil,row_api_Expr_eq]
            refine wqD [0] [1,5,6,7,8,9,10,11,0,2,3,4,12,13,14,15] (nos 8 (.call (oP o_1 row_parse_binary)::(.val (.vptr [tP x.sign,iP x.op,iP x.level] 0)::(nos 2 (.meth (.agg (kX l)) (kP p7)::(.val (oX l1)::(nos 2 []))))))) ⟨[(2,iP depth),(3,.ptr 1 0),(4,.ptr 2 0),(6,.ptr 3 0),(8,.ptr 4 0)],[(kP p7),[.ptr 0 0],[iP n_1],[iP 0,iP 0,tP ⟨#[]⟩,.sl [] .own,iP 0],[iP x.op,iP 0,tP ⟨#[]⟩,hX l1,iP e2.At]]⟩ (aI (vparse_operators o_1 ho_1) (aI (oi hx row_parse_binary_len (row_parse_binary_eq x)) (aI (ih_parse_parser_level n hn n_3.2 (IntKind.i64.wrap (n_1+1)) depth (.ok l p7) hy3) (aI (obuild rfl fb) tI)))) ?_
            refine zz ?_
            refine wn (nos 2 []) ⟨[(2,iP depth),(3,.ptr 1 0),(4,.ptr 2 0),(6,.ptr 3 0),(8,.ptr 4 0),(64,bP (n_1 == 4))],[(kP p7),[.ptr 0 0],[iP n_1],[iP 0,iP 0,tP ⟨#[]⟩,.sl [] .own,iP 0],[iP x.op,iP 0,tP ⟨#[]⟩,hX l1,iP e2.At]]⟩ tI ?_
            rcases condS h with⟨hc,h⟩|⟨hc,h⟩
            . refine zT (test hc) ?_
              refine wn (nos 2 []) ⟨[(2,iP depth),(3,.ptr 1 0),(4,.ptr 2 0),(6,.ptr 3 0),(8,.ptr 4 0)],[(kP p7),[.ptr 0 0],[iP n_1],[iP x.op,iP 0,tP ⟨#[]⟩,hX l1,iP e2.At],[iP x.op,iP 0,tP ⟨#[]⟩,hX l1,iP e2.At]]⟩ tI ?_
              cases h
              exact rt hQ
            . refine WS_false (test hc) ?_
              exact zz (WS_again (n,(p7.l,p7.forms,x.op,0,⟨#[]⟩,l1)) rfl ⟨hn,h⟩ (Nat.lt_succ_self _))
          . refine zz ?_
            cases h
            exact WS_runDP [0] [1,5,6,7,8,9,10,11,0,2,3,4,12,13,14,15] (nos 8 (.call (oP o_1 row_parse_binary)::(.val (.vptr [tP x.sign,iP x.op,iP x.level] 0)::(nos 2 (.mpan (pE e8) (kP p8)::(nos 3 [])))))) (aI (vparse_operators o_1 ho_1) (aI (oi hx row_parse_binary_len (row_parse_binary_eq x)) (aI (ih_parse_parser_level n hn n_3.2 (IntKind.i64.wrap (n_1+1)) depth (.pan e8 p8) hy3) tI))) (by kernel_rfl) rfl hQ
     . refine zz ?_
       cases h
       exact WS_runP (nos 4 (.mpan (pE e3) (kP p4)::(nos 2 []))) (aI (ih_parse_parser_level n hn p (IntKind.i64.wrap (n_1+1)) depth (.pan e3 p4) hy2) tI) (by kernel_rfl) rfl hQ
 . intro hJ
   refine zz ?_
   rcases condS e with⟨hc4,e⟩|⟨hc4,e⟩
   . refine zT (test hc4) ?_
     obtain⟨i,hi,e⟩:=bindS e
     refine wn (nos 1 (.meth (bP i) (kP p)::[])) ⟨[(2,iP depth),(3,.ptr 1 0),(4,.ptr 2 0),(6,.ptr 3 0),(13,bP i)],[(kP p),[.ptr 0 0],[iP n_],[iP 0,iP 0,tP ⟨#[]⟩,.sl [] .own,iP 0]]⟩ (aI (vparse_parser_is p ⟨#[33]⟩ i hi) tI) ?_
     rcases condS e with⟨hc3,e⟩|⟨hc3,e⟩
     . refine zT (test hc3) ?_
       obtain⟨n_4,hn_4,e⟩:=bindS e
       refine wn (nos 1 (.meth (.agg (kT n_4.1)) (kP n_4.2)::(nos 2 []))) ⟨[(2,iP depth),(3,.ptr 1 0),(4,.ptr 2 0),(6,.ptr 3 0),(7,iP n_4.1.At)],[(kP n_4.2),[.ptr 0 0],[iP n_],[iP 0,iP 0,tP ⟨#[]⟩,.sl [] .own,iP 0]]⟩ (aI (vparse_parser_next p n_4 hn_4) tI) ?_
       obtain⟨y4,hy4,e⟩:=bindS e
       rcases y4 with⟨d,p9⟩|⟨e9,p10⟩
       . refine wn (nos 3 (.meth (.tup []) (kP p9)::[])) ⟨[(2,iP depth),(3,.ptr 1 0),(4,.ptr 2 0),(6,.ptr 3 0),(7,iP n_4.1.At)],[(kP p9),[.ptr 0 0],[iP n_],[iP 0,iP 0,tP ⟨#[]⟩,.sl [] .own,iP 0]]⟩ (aI (vparse_parser_deep n_4.2 (IntKind.i64.wrap (depth+1)) true (.ok d p9) hy4) tI) ?_
         obtain⟨y5,hy5,e⟩:=bindS e
         rcases y5 with⟨l2,p11⟩|⟨e10,p12⟩
         . obtain⟨l3,hl3,e⟩:=bindS e
           have fb1:([(kX l2)]:List (List PV))=l3.map row_api_Expr:=by rw [<- Option.some.inj hl3];simp only [List.map_cons,List.map_nil,row_api_Expr_eq]
           refine wn (nos 4 (.meth (.agg (kX l2)) (kP p11)::(.val (oX l3)::(nos 2 [])))) ⟨[(2,iP depth),(3,.ptr 1 0),(4,.ptr 2 0),(6,.ptr 3 0)],[(kP p11),[.ptr 0 0],[iP n_],[iP 5,iP 0,tP ⟨#[]⟩,hX l3,iP n_4.1.At]]⟩ (aI (ih_parse_parser_level n hn p9 3 (IntKind.i64.wrap (depth+1)) (.ok l2 p11) hy5) (aI (obuild rfl fb1) tI)) ?_
           cases e
           cases h
           exact rt hQ
         . refine zz ?_
           cases e
           cases h
           exact WS_runP (nos 4 (.mpan (pE e10) (kP p12)::(nos 3 []))) (aI (ih_parse_parser_level n hn p9 3 (IntKind.i64.wrap (depth+1)) (.pan e10 p12) hy5) tI) (by kernel_rfl) rfl hQ
       . refine zz ?_
         cases e
         cases h
         exact WS_runP (nos 3 (.mpan (pE e9) (kP p10)::[])) (aI (vparse_parser_deep n_4.2 (IntKind.i64.wrap (depth+1)) true (.pan e9 p10) hy4) tI) (by kernel_rfl) rfl hQ
     . refine zF (test hc3) ?_
       refine wq (nos 3 []) ⟨[(2,iP depth),(3,.ptr 1 0),(4,.ptr 2 0),(6,.ptr 3 0)],[(kP p),[.ptr 0 0],[iP (IntKind.i64.wrap (n_+1))],[iP 0,iP 0,tP ⟨#[]⟩,.sl [] .own,iP 0]]⟩ tI ?_
       exact zz (WS_wk [2,3,4,6] 4 rfl (lb rfl) rfl (hJ (IntKind.i64.wrap (n_+1)) (Option.some.inj e)))
   . refine WS_false (test hc4) ?_
     exact zz (WS_wk [2,3,4,6] 4 rfl (lb rfl) rfl (hJ n_ (Option.some.inj e)))
theorem vparse_parser_neg_0 (n0:Nat)
 (ih_parse_parser_expr:∀ m,m<=n0->∀ (p:parse_parser) (depth:Int) (r:(Ex parse_stop parse_parser api_Expr)),parse_parser_expr m p depth=some r->ExM r (fun v0 s0=>VCm Tryz.prog 28 [iP depth] (kP p) (.ret (.agg (kX v0))) (kP s0)) (fun e0 s0=>VCm Tryz.prog 28 [iP depth] (kP p) (.pan (pE e0)) (kP s0)))
 (ih_parse_parser_level:∀ m,m<=n0->∀ (p:parse_parser) (n_:Int) (depth:Int) (r:(Ex parse_stop parse_parser api_Expr)),parse_parser_level m p n_ depth=some r->ExM r (fun v0 s0=>VCm Tryz.prog 51 [iP n_,iP depth] (kP p) (.ret (.agg (kX v0))) (kP s0)) (fun e0 s0=>VCm Tryz.prog 51 [iP n_,iP depth] (kP p) (.pan (pE e0)) (kP s0)))
 (ih_parse_parser_neg:∀ m,m<=n0->∀ (p:parse_parser) (depth:Int) (r:(Ex parse_stop parse_parser api_Expr)),parse_parser_neg m p depth=some r->ExM r (fun v0 s0=>VCm Tryz.prog 76 [iP depth] (kP p) (.ret (.agg (kX v0))) (kP s0)) (fun e0 s0=>VCm Tryz.prog 76 [iP depth] (kP p) (.pan (pE e0)) (kP s0)))
 (ih_parse_parser_atom:∀ m,m<=n0->∀ (p:parse_parser) (depth:Int) (r:(Ex parse_stop parse_parser api_Expr)),parse_parser_atom m p depth=some r->ExM r (fun v0 s0=>VCm Tryz.prog 101 [iP depth] (kP p) (.ret (.agg (kX v0))) (kP s0)) (fun e0 s0=>VCm Tryz.prog 101 [iP depth] (kP p) (.pan (pE e0)) (kP s0)))
 (n:Nat) (hn:n<=n0) (p:parse_parser) (depth:Int) (r:(Ex parse_stop parse_parser api_Expr)) (h:parse_parser_neg (n+1) p depth=some r) (Q:AEnd->List (List PV)->Prop) (hQ:ExM r (fun v0 s0=>∀ y,shareP y=.agg (kX v0)->Q (.ret y) [(kP s0)]) (fun e0 s0=>Q (.pan (pE e0)) [(kP s0)])) :
 VC Tryz.prog 76 (.ptr 0 0::[iP depth]) [(kP p)] Q:=by
 replace h:=(parse_parser_neg.eq_2 (n:=n) _ _).symm.trans h
 refine VC.intro ⟨[0,1,4,5,8],[]⟩ Tryz.func76 rfl follows ok76 (by rw [Tryz.ntmps76];exact lb rfl) ?_
 refine WS_ofR ?_
 refine zz ?_
 refine wn (nos 1 []) ⟨[(0,.ptr 0 0),(1,iP depth),(4,.ptr 1 0)],[(kP p),[iP 0,iP 0,tP ⟨#[]⟩,.sl [] .own,iP 0]]⟩ tI ?_
 obtain⟨i,hi,h⟩:=bindS h
 refine wn (nos 1 (.meth (bP i) (kP p)::(nos 1 []))) ⟨[(0,.ptr 0 0),(1,iP depth),(4,.ptr 1 0),(8,bP (!i))],[(kP p),[iP 0,iP 0,tP ⟨#[]⟩,.sl [] .own,iP 0]]⟩ (aI (vparse_parser_is p ⟨#[45]⟩ i hi) tI) ?_
 rcases condS h with⟨hc,h⟩|⟨hc,h⟩
 . refine zT (test hc) ?_
   obtain⟨y,hy,h⟩:=bindS h
   rcases y with⟨a_,p1⟩|⟨e,p2⟩
   . refine wn (nos 2 (.meth (.agg (kX a_)) (kP p1)::(nos 1 []))) ⟨[(0,.ptr 0 0),(1,iP depth),(4,.ptr 1 0)],[(kP p1),(kX a_)]⟩ (aI (ih_parse_parser_atom n hn p depth (.ok a_ p1) hy) tI) ?_
     cases h
     exact rt hQ
   . refine zz ?_
     cases h
     exact WS_runP (nos 2 (.mpan (pE e) (kP p2)::(nos 1 []))) (aI (ih_parse_parser_atom n hn p depth (.pan e p2) hy) tI) (by kernel_rfl) rfl hQ
 . refine zF (test hc) ?_
   obtain⟨n_,hn_,h⟩:=bindS h
   refine wn (nos 1 (.meth (.agg (kT n_.1)) (kP n_.2)::(nos 2 []))) ⟨[(0,.ptr 0 0),(1,iP depth),(4,.ptr 1 0),(5,iP n_.1.At)],[(kP n_.2),[iP 0,iP 0,tP ⟨#[]⟩,.sl [] .own,iP 0]]⟩ (aI (vparse_parser_next p n_ hn_) tI) ?_
   obtain⟨y1,hy1,h⟩:=bindS h
   rcases y1 with⟨d,p3⟩|⟨e1,p4⟩
   . refine wn (nos 3 (.meth (.tup []) (kP p3)::[])) ⟨[(0,.ptr 0 0),(1,iP depth),(4,.ptr 1 0),(5,iP n_.1.At)],[(kP p3),[iP 0,iP 0,tP ⟨#[]⟩,.sl [] .own,iP 0]]⟩ (aI (vparse_parser_deep n_.2 (IntKind.i64.wrap (depth+1)) false (.ok d p3) hy1) tI) ?_
     obtain⟨y2,hy2,h⟩:=bindS h
     rcases y2 with⟨n_1,p5⟩|⟨e2,p6⟩
     . obtain⟨l,hl,h⟩:=bindS h
       have fb:([(kX n_1)]:List (List PV))=l.map row_api_Expr:=by rw [<- Option.some.inj hl];simp only [List.map_cons,List.map_nil,row_api_Expr_eq]
       refine wn (nos 4 (.meth (.agg (kX n_1)) (kP p5)::(.val (oX l)::(nos 2 [])))) ⟨[(4,.ptr 1 0)],[(kP p5),[iP 6,iP 0,tP ⟨#[]⟩,hX l,iP n_.1.At]]⟩ (aI (ih_parse_parser_neg n hn p3 (IntKind.i64.wrap (depth+1)) (.ok n_1 p5) hy2) (aI (obuild rfl fb) tI)) ?_
       cases h
       exact rt hQ
     . refine zz ?_
       cases h
       exact WS_runP (nos 4 (.mpan (pE e2) (kP p6)::(nos 3 []))) (aI (ih_parse_parser_neg n hn p3 (IntKind.i64.wrap (depth+1)) (.pan e2 p6) hy2) tI) (by kernel_rfl) rfl hQ
   . refine zz ?_
     cases h
     exact WS_runP (nos 3 (.mpan (pE e1) (kP p4)::[])) (aI (vparse_parser_deep n_.2 (IntKind.i64.wrap (depth+1)) false (.pan e1 p4) hy1) tI) (by kernel_rfl) rfl hQ
theorem okp_parse_parser_atom:okCode [(23,[9999,1,0,0,1,2,3,4,5,6,7,8,9])] Tryz.f101.ntmps (Tryz.f101.body.getD .skip)=true:=by kernel_rfl
theorem vparse_parser_atom_0 (n0:Nat)
 (ih_parse_parser_expr:∀ m,m<=n0->∀ (p:parse_parser) (depth:Int) (r:(Ex parse_stop parse_parser api_Expr)),parse_parser_expr m p depth=some r->ExM r (fun v0 s0=>VCm Tryz.prog 28 [iP depth] (kP p) (.ret (.agg (kX v0))) (kP s0)) (fun e0 s0=>VCm Tryz.prog 28 [iP depth] (kP p) (.pan (pE e0)) (kP s0)))
 (ih_parse_parser_level:∀ m,m<=n0->∀ (p:parse_parser) (n_:Int) (depth:Int) (r:(Ex parse_stop parse_parser api_Expr)),parse_parser_level m p n_ depth=some r->ExM r (fun v0 s0=>VCm Tryz.prog 51 [iP n_,iP depth] (kP p) (.ret (.agg (kX v0))) (kP s0)) (fun e0 s0=>VCm Tryz.prog 51 [iP n_,iP depth] (kP p) (.pan (pE e0)) (kP s0)))
 (ih_parse_parser_neg:∀ m,m<=n0->∀ (p:parse_parser) (depth:Int) (r:(Ex parse_stop parse_parser api_Expr)),parse_parser_neg m p depth=some r->ExM r (fun v0 s0=>VCm Tryz.prog 76 [iP depth] (kP p) (.ret (.agg (kX v0))) (kP s0)) (fun e0 s0=>VCm Tryz.prog 76 [iP depth] (kP p) (.pan (pE e0)) (kP s0)))
 (ih_parse_parser_atom:∀ m,m<=n0->∀ (p:parse_parser) (depth:Int) (r:(Ex parse_stop parse_parser api_Expr)),parse_parser_atom m p depth=some r->ExM r (fun v0 s0=>VCm Tryz.prog 101 [iP depth] (kP p) (.ret (.agg (kX v0))) (kP s0)) (fun e0 s0=>VCm Tryz.prog 101 [iP depth] (kP p) (.pan (pE e0)) (kP s0)))
 (n:Nat) (hn:n<=n0) (p:parse_parser) (depth:Int) (r:(Ex parse_stop parse_parser api_Expr)) (h:parse_parser_atom (n+1) p depth=some r) (Q:AEnd->List (List PV)->Prop) (hQ:ExM r (fun v0 s0=>∀ y,shareP y=.agg (kX v0)->Q (.ret y) [(kP s0)]) (fun e0 s0=>Q (.pan (pE e0)) [(kP s0)])) :
 VC Tryz.prog 101 (.ptr 0 0::[iP depth]) [(kP p)] Q:=by
 replace h:=(parse_parser_atom.eq_2 (n:=n) _ _).symm.trans h
 refine VC.intro ⟨[0,1,4,5,6,9,22,29,32,35,40,46,50,56],[(23,[9999,1,0,0,1,2,3,4,5,6,7,8,9])]⟩ Tryz.func101 rfl follows okp_parse_parser_atom (by rw [Tryz.ntmps101];exact lb rfl) ?_
 refine WS_ofR ?_
 refine zz ?_
 refine wn (nos 1 []) ⟨[(0,.ptr 0 0),(1,iP depth),(4,.ptr 1 0)],[(kP p),[iP 0,iP 0,tP ⟨#[]⟩,.sl [] .own,iP 0]]⟩ tI ?_
 obtain⟨b,hb,h⟩:=bindS h
 refine wn (nos 1 (.meth (bP b) (kP p)::(nos 1 []))) ⟨[(0,.ptr 0 0),(1,iP depth),(4,.ptr 1 0),(9,bP (!b))],[(kP p),[iP 0,iP 0,tP ⟨#[]⟩,.sl [] .own,iP 0]]⟩ (aI (vparse_parser_begins p b hb) tI) ?_
 obtain⟨y,e,h⟩:=bindS h
 refine WS_meet (A:=((List api_Token)×Int)) (fun v=>.inl v=y) (fun y=>match y with|(p1,p2)=>⟨[(0,.ptr 0 0),(1,iP depth),(4,.ptr 1 0)],[[hT p1,iP p2],[iP 0,iP 0,tP ⟨#[]⟩,.sl [] .own,iP 0]]⟩) ?_ ?_
 . rintro⟨p1,p2⟩ rfl
   show WS _ _ _ _ _ ⟨[(0,.ptr 0 0),(1,iP depth),(4,.ptr 1 0)],[[hT p1,iP p2],[iP 0,iP 0,tP ⟨#[]⟩,.sl [] .own,iP 0]]⟩
   refine zz ?_
   obtain⟨t,ht,h⟩:=bindS h
   refine wn (nos 1 (.meth (.agg (kT t.1)) (kP t.2)::(nos 2 []))) ⟨[(0,.ptr 0 0),(1,iP depth),(4,.ptr 1 0),(5,.ptr 2 0)],[(kP t.2),[iP 0,iP 0,tP ⟨#[]⟩,.sl [] .own,iP 0],(kT t.1)]⟩ (aI (vparse_parser_next (parse_parser.mk p1 p2) t ht) tI) ?_
   refine wn (nos 9 []) ⟨[(0,.ptr 0 0),(1,iP depth),(4,.ptr 1 0),(5,.ptr 2 0),(6,.ptr 3 0)],[(kP t.2),[iP 0,iP 0,tP ⟨#[]⟩,.sl [] .own,iP 0],(kT t.1),[iP 0,iP t.1.N,tP t.1.S,.sl [] .own,iP t.1.At]]⟩ tI ?_
   refine wn (nos 2 []) ⟨[(0,.ptr 0 0),(1,iP depth),(4,.ptr 1 0),(6,.ptr 3 0),(22,iP t.1.Kind)],[(kP t.2),[iP 0,iP 0,tP ⟨#[]⟩,.sl [] .own,iP 0],(kT t.1),[iP 0,iP t.1.N,tP t.1.S,.sl [] .own,iP t.1.At]]⟩ tI ?_
   refine zB ?_
   refine wn (nos 2 []) ⟨[(0,.ptr 0 0),(1,iP depth),(4,.ptr 1 0),(6,.ptr 3 0),(22,iP t.1.Kind),(29,bP (t.1.Kind == 2))],[(kP t.2),[iP 0,iP 0,tP ⟨#[]⟩,.sl [] .own,iP 0],(kT t.1),[iP 0,iP t.1.N,tP t.1.S,.sl [] .own,iP t.1.At]]⟩ tI ?_
   rcases condS h with⟨hc6,h⟩|⟨hc6,h⟩
   . refine zT (test hc6) ?_
     refine wn (nos 2 []) ⟨[(4,.ptr 1 0),(6,.ptr 3 0)],[(kP t.2),[iP 0,iP 0,tP ⟨#[]⟩,.sl [] .own,iP 0],(kT t.1),[iP 1,iP t.1.N,tP t.1.S,.sl [] .own,iP t.1.At]]⟩ tI ?_
     refine wn (nos 2 []) ⟨[(4,.ptr 1 0)],[(kP t.2),[iP 1,iP t.1.N,tP t.1.S,.sl [] .shared,iP t.1.At],(kT t.1),[iP 1,iP t.1.N,tP t.1.S,.sl [] .own,iP t.1.At]]⟩ tI ?_
     cases h
     exact rt hQ
   . refine zF (test hc6) ?_
     refine wn (nos 2 []) ⟨[(0,.ptr 0 0),(1,iP depth),(4,.ptr 1 0),(6,.ptr 3 0),(22,iP t.1.Kind),(32,bP (t.1.Kind == 3))],[(kP t.2),[iP 0,iP 0,tP ⟨#[]⟩,.sl [] .own,iP 0],(kT t.1),[iP 0,iP t.1.N,tP t.1.S,.sl [] .own,iP t.1.At]]⟩ tI ?_
     rcases condS h with⟨hc5,h⟩|⟨hc5,h⟩
     . refine zT (test hc5) ?_
       refine wn (nos 2 []) ⟨[(4,.ptr 1 0),(6,.ptr 3 0)],[(kP t.2),[iP 0,iP 0,tP ⟨#[]⟩,.sl [] .own,iP 0],(kT t.1),[iP 2,iP t.1.N,tP t.1.S,.sl [] .own,iP t.1.At]]⟩ tI ?_
       refine wn (nos 2 []) ⟨[(4,.ptr 1 0)],[(kP t.2),[iP 2,iP t.1.N,tP t.1.S,.sl [] .shared,iP t.1.At],(kT t.1),[iP 2,iP t.1.N,tP t.1.S,.sl [] .own,iP t.1.At]]⟩ tI ?_
       cases h
       exact rt hQ
     . refine zF (test hc5) ?_
       refine wn (nos 2 []) ⟨[(0,.ptr 0 0),(1,iP depth),(4,.ptr 1 0),(6,.ptr 3 0),(35,bP (t.1.Kind == 1))],[(kP t.2),[iP 0,iP 0,tP ⟨#[]⟩,.sl [] .own,iP 0],(kT t.1),[iP 0,iP t.1.N,tP t.1.S,.sl [] .own,iP t.1.At]]⟩ tI ?_
       rcases condS h with⟨hc4,h⟩|⟨hc4,h⟩
       . refine zT (test hc4) ?_
         refine wn (nos 2 []) ⟨[(0,.ptr 0 0),(1,iP depth),(4,.ptr 1 0),(6,.ptr 3 0)],[(kP t.2),[iP 0,iP 0,tP ⟨#[]⟩,.sl [] .own,iP 0],(kT t.1),[iP 3,iP t.1.N,tP t.1.S,.sl [] .own,iP t.1.At]]⟩ tI ?_
         obtain⟨i,hi,h⟩:=bindS h
         refine wn (nos 1 (.meth (bP i) (kP t.2)::(nos 1 []))) ⟨[(0,.ptr 0 0),(1,iP depth),(4,.ptr 1 0),(6,.ptr 3 0),(40,bP (!i))],[(kP t.2),[iP 0,iP 0,tP ⟨#[]⟩,.sl [] .own,iP 0],(kT t.1),[iP 3,iP t.1.N,tP t.1.S,.sl [] .own,iP t.1.At]]⟩ (aI (vparse_parser_is t.2 ⟨#[40]⟩ i hi) tI) ?_
         rcases condS h with⟨hc3,h⟩|⟨hc3,h⟩
         . refine zT (test hc3) ?_
           try refine z5 rfl ?_
           refine zz ?_
           refine wn (nos 2 []) ⟨[(4,.ptr 1 0)],[(kP t.2),[iP 3,iP t.1.N,tP t.1.S,.sl [] .shared,iP t.1.At],(kT t.1),[iP 3,iP t.1.N,tP t.1.S,.sl [] .own,iP t.1.At]]⟩ tI ?_
           cases h
           exact rt hQ
         . refine zF (test hc3) ?_
           refine wn (nos 2 []) ⟨[(0,.ptr 0 0),(1,iP depth),(4,.ptr 1 0),(6,.ptr 3 0)],[(kP t.2),[iP 0,iP 0,tP ⟨#[]⟩,.sl [] .own,iP 0],(kT t.1),[iP 4,iP t.1.N,tP t.1.S,.sl [] .own,iP t.1.At]]⟩ tI ?_
           obtain⟨n_,hn_,h⟩:=bindS h
           refine wn (nos 1 (.meth (.agg (kT n_.1)) (kP n_.2)::[])) ⟨[(0,.ptr 0 0),(1,iP depth),(4,.ptr 1 0),(6,.ptr 3 0)],[(kP n_.2),[iP 0,iP 0,tP ⟨#[]⟩,.sl [] .own,iP 0],(kT t.1),[iP 4,iP t.1.N,tP t.1.S,.sl [] .own,iP t.1.At]]⟩ (aI (vparse_parser_next t.2 n_ hn_) tI) ?_
           obtain⟨y1,e2,h⟩:=bindS h
           refine WS_meet (A:=((List api_Token)×Int×(List api_Expr))) (fun v=>.inl v=y1) (fun y1=>match y1 with|(p3,p4,e1)=>⟨[(0,.ptr 0 0),(4,.ptr 1 0),(6,.ptr 3 0)],[[hT p3,iP p4],[iP 0,iP 0,tP ⟨#[]⟩,.sl [] .own,iP 0],(kT t.1),[iP 4,iP t.1.N,tP t.1.S,oX e1,iP t.1.At]]⟩) ?_ ?_
           . rintro⟨p3,p4,e1⟩ rfl
             show WS _ _ _ _ _ ⟨[(0,.ptr 0 0),(4,.ptr 1 0),(6,.ptr 3 0)],[[hT p3,iP p4],[iP 0,iP 0,tP ⟨#[]⟩,.sl [] .own,iP 0],(kT t.1),[iP 4,iP t.1.N,tP t.1.S,oX e1,iP t.1.At]]⟩
             refine zz ?_
             obtain⟨n_1,hn_1,h⟩:=bindS h
             refine wn (nos 1 (.meth (.agg (kT n_1.1)) (kP n_1.2)::[])) ⟨[(4,.ptr 1 0),(6,.ptr 3 0)],[(kP n_1.2),[iP 0,iP 0,tP ⟨#[]⟩,.sl [] .own,iP 0],(kT t.1),[iP 4,iP t.1.N,tP t.1.S,oX e1,iP t.1.At]]⟩ (aI (vparse_parser_next (parse_parser.mk p3 p4) n_1 hn_1) tI) ?_
             refine wn (nos 2 []) ⟨[(4,.ptr 1 0)],[(kP n_1.2),[iP 4,iP t.1.N,tP t.1.S,hX e1,iP t.1.At],(kT t.1),[iP 4,iP t.1.N,tP t.1.S,oX e1,iP t.1.At]]⟩ tI ?_
             cases h
             exact rt hQ
           . intro hJ1
             refine zz ?_
             refine zB ?_
             refine WS_for [0,1,4,6] 4 (fun a:Nat×((List api_Token)×Int×(List api_Expr))=>a.1<=n0/\parse_parser_atom_l1 a.1 depth a.2.1 a.2.2.1 a.2.2.2=some y1) (fun a=>a.1) (fun a:Nat×((List api_Token)×Int×(List api_Expr))=>match a with|(_,(p5,p6,e3))=>⟨[(0,.ptr 0 0),(1,iP depth),(4,.ptr 1 0),(6,.ptr 3 0)],[[hT p5,iP p6],[iP 0,iP 0,tP ⟨#[]⟩,.sl [] .own,iP 0],(kT t.1),[iP 4,iP t.1.N,tP t.1.S,oX e3,iP t.1.At]]⟩) (n,(n_.2.l,n_.2.forms,[])) (lb rfl) rfl ⟨hn,e2⟩ ?_
             clear e2 hn
             rintro⟨n,p5,p6,e3⟩ ⟨hn,e2⟩
             show WS _ _ _ _ _ ⟨[(0,.ptr 0 0),(1,iP depth),(4,.ptr 1 0),(6,.ptr 3 0)],[[hT p5,iP p6],[iP 0,iP 0,tP ⟨#[]⟩,.sl [] .own,iP 0],(kT t.1),[iP 4,iP t.1.N,tP t.1.S,oX e3,iP t.1.At]]⟩
             cases n with
             |zero=>exact absurd e2 (by simp [parse_parser_atom_l1])
             |succ n =>
              replace e2:=(parse_parser_atom_l1.eq_2 (n:=n) _ _ _ _).symm.trans e2
              replace hn:n<=n0:=by omega
              refine zz ?_
              obtain⟨i1,hi1,e2⟩:=bindS e2
              refine wn (nos 1 (.meth (bP i1) [hT p5,iP p6]::(nos 1 []))) ⟨[(0,.ptr 0 0),(1,iP depth),(4,.ptr 1 0),(6,.ptr 3 0),(46,bP (!i1))],[[hT p5,iP p6],[iP 0,iP 0,tP ⟨#[]⟩,.sl [] .own,iP 0],(kT t.1),[iP 4,iP t.1.N,tP t.1.S,oX e3,iP t.1.At]]⟩ (aI (vparse_parser_is (parse_parser.mk p5 p6) ⟨#[41]⟩ i1 hi1) tI) ?_
              rcases condS e2 with⟨hc2,e2⟩|⟨hc2,e2⟩
              . refine zT (test hc2) ?_
                refine zB ?_
                refine wn (nos 2 (.val (iP (e3.length:Int))::(nos 1 []))) ⟨[(0,.ptr 0 0),(1,iP depth),(4,.ptr 1 0),(6,.ptr 3 0),(50,bP (decide (0<(e3.length:Int))))],[[hT p5,iP p6],[iP 0,iP 0,tP ⟨#[]⟩,.sl [] .own,iP 0],(kT t.1),[iP 4,iP t.1.N,tP t.1.S,oX e3,iP t.1.At]]⟩ (aI (olen e3 row_api_Expr) tI) ?_
                obtain⟨y2,e4,e2⟩:=bindS e2
                refine WS_meet (A:=((List api_Token)×Int)) (fun v=>.inl v=y2) (fun y2=>match y2 with|(p7,p8)=>⟨[(0,.ptr 0 0),(1,iP depth),(4,.ptr 1 0),(6,.ptr 3 0)],[[hT p7,iP p8],[iP 0,iP 0,tP ⟨#[]⟩,.sl [] .own,iP 0],(kT t.1),[iP 4,iP t.1.N,tP t.1.S,oX e3,iP t.1.At]]⟩) ?_ ?_
                . rintro⟨p7,p8⟩ rfl
                  show WS _ _ _ _ _ ⟨[(0,.ptr 0 0),(1,iP depth),(4,.ptr 1 0),(6,.ptr 3 0)],[[hT p7,iP p8],[iP 0,iP 0,tP ⟨#[]⟩,.sl [] .own,iP 0],(kT t.1),[iP 4,iP t.1.N,tP t.1.S,oX e3,iP t.1.At]]⟩
                  refine zz ?_
                  refine wn (nos 2 (.val (iP (e3.length:Int))::(nos 1 []))) ⟨[(0,.ptr 0 0),(1,iP depth),(4,.ptr 1 0),(6,.ptr 3 0),(56,bP ((e3.length:Int) == 40))],[[hT p7,iP p8],[iP 0,iP 0,tP ⟨#[]⟩,.sl [] .own,iP 0],(kT t.1),[iP 4,iP t.1.N,tP t.1.S,oX e3,iP t.1.At]]⟩ (aI (olen e3 row_api_Expr) tI) ?_
                  rcases condS e2 with⟨hc,e2⟩|⟨hc,e2⟩
                  . refine zT (test hc) ?_
                    obtain⟨y3,hy3,e2⟩:=bindS e2
                    rcases y3 with⟨d,p9⟩|⟨e5,p10⟩
                    . refine wn (nos 1 (.meth (.tup []) (kP p9)::[])) ⟨[(0,.ptr 0 0),(1,iP depth),(4,.ptr 1 0),(6,.ptr 3 0)],[(kP p9),[iP 0,iP 0,tP ⟨#[]⟩,.sl [] .own,iP 0],(kT t.1),[iP 4,iP t.1.N,tP t.1.S,oX e3,iP t.1.At]]⟩ (aI (vparse_parser_deep (parse_parser.mk p7 p8) 0 true (.ok d p9) hy3) tI) ?_
                      obtain⟨y4,hy4,e2⟩:=bindS e2
                      rcases y4 with⟨f,p11⟩|⟨e6,p12⟩
                      . refine wn (nos 1 (.meth (.tup []) (kP p11)::[])) ⟨[(0,.ptr 0 0),(1,iP depth),(4,.ptr 1 0),(6,.ptr 3 0)],[(kP p11),[iP 0,iP 0,tP ⟨#[]⟩,.sl [] .own,iP 0],(kT t.1),[iP 4,iP t.1.N,tP t.1.S,oX e3,iP t.1.At]]⟩ (aI (vparse_parser_fail p9 2 (.ok f p11) hy4) tI) ?_
                        obtain⟨y5,hy5,e2⟩:=bindS e2
                        rcases y5 with⟨e7,p13⟩|⟨e8,p14⟩
                        . obtain⟨l,hl,e2⟩:=bindS e2
                          have fb:([(kX e7)]:List (List PV))=l.map row_api_Expr:=by rw [<- Option.some.inj hl];simp only [List.map_cons,List.map_nil,row_api_Expr_eq]
                          obtain⟨l1,hl1,e2⟩:=bindS e2
                          refine wqD [0] [0,1,2,3,4,5,6,7,8,9] (nos 5 (.meth (.agg (kX e7)) (kP p13)::(.val (oX l)::(.val (oX l1)::(nos 2 []))))) ⟨[(0,.ptr 0 0),(1,iP depth),(4,.ptr 1 0),(6,.ptr 3 0)],[(kP p13),[iP 0,iP 0,tP ⟨#[]⟩,.sl [] .own,iP 0],(kT t.1),[iP 4,iP t.1.N,tP t.1.S,oX l1,iP t.1.At]]⟩ (aI (ih_parse_parser_expr n hn p11 (IntKind.i64.wrap (depth+1)) (.ok e7 p13) hy5) (aI (obuild rfl fb) (aI (oapp hl1 row_api_Expr_len) tI))) ?_
                          exact zz (WS_again (n,(p13.l,p13.forms,l1)) rfl ⟨hn,e2⟩ (Nat.lt_succ_self _))
                        . refine zz ?_
                          cases e2
                          cases h
                          exact WS_runDP [0] [0,1,2,3,4,5,6,7,8,9] (nos 5 (.mpan (pE e8) (kP p14)::(nos 4 []))) (aI (ih_parse_parser_expr n hn p11 (IntKind.i64.wrap (depth+1)) (.pan e8 p14) hy5) tI) (by kernel_rfl) rfl hQ
                      . refine zz ?_
                        cases e2
                        cases h
                        exact WS_runP (nos 1 (.mpan (pE e6) (kP p12)::[])) (aI (vparse_parser_fail p9 2 (.pan e6 p12) hy4) tI) (by kernel_rfl) rfl hQ
                    . refine zz ?_
                      cases e2
                      cases h
                      exact WS_runP (nos 1 (.mpan (pE e5) (kP p10)::[])) (aI (vparse_parser_deep (parse_parser.mk p7 p8) 0 true (.pan e5 p10) hy3) tI) (by kernel_rfl) rfl hQ
                  . refine zF (test hc) ?_
                    obtain⟨y6,hy6,e2⟩:=bindS e2
                    rcases y6 with⟨e9,p15⟩|⟨e10,p16⟩
                    . obtain⟨l2,hl2,e2⟩:=bindS e2
                      have fb1:([(kX e9)]:List (List PV))=l2.map row_api_Expr:=by rw [<- Option.some.inj hl2];simp only [List.map_cons,List.map_nil,row_api_Expr_eq]
                      obtain⟨l3,hl3,e2⟩:=bindS e2
                      refine wqD [0] [0,1,2,3,4,5,6,7,8,9] (nos 5 (.meth (.agg (kX e9)) (kP p15)::(.val (oX l2)::(.val (oX l3)::(nos 2 []))))) ⟨[(0,.ptr 0 0),(1,iP depth),(4,.ptr 1 0),(6,.ptr 3 0)],[(kP p15),[iP 0,iP 0,tP ⟨#[]⟩,.sl [] .own,iP 0],(kT t.1),[iP 4,iP t.1.N,tP t.1.S,oX l3,iP t.1.At]]⟩ (aI (ih_parse_parser_expr n hn (parse_parser.mk p7 p8) (IntKind.i64.wrap (depth+1)) (.ok e9 p15) hy6) (aI (obuild rfl fb1) (aI (oapp hl3 row_api_Expr_len) tI))) ?_
                      exact zz (WS_again (n,(p15.l,p15.forms,l3)) rfl ⟨hn,e2⟩ (Nat.lt_succ_self _))
                    . refine zz ?_
                      cases e2
                      cases h
                      exact WS_runDP [0] [0,1,2,3,4,5,6,7,8,9] (nos 5 (.mpan (pE e10) (kP p16)::(nos 4 []))) (aI (ih_parse_parser_expr n hn (parse_parser.mk p7 p8) (IntKind.i64.wrap (depth+1)) (.pan e10 p16) hy6) tI) (by kernel_rfl) rfl hQ
                . intro hJ2
                  refine zz ?_
                  rcases condS e4 with⟨hc1,e4⟩|⟨hc1,e4⟩
                  . refine zT (test hc1) ?_
                    obtain⟨y7,hy7,e4⟩:=bindS e4
                    rcases y7 with⟨n_2,p17⟩|⟨e11,p18⟩
                    . refine wq (nos 1 (.meth (.tup []) (kP p17)::[])) ⟨[(0,.ptr 0 0),(1,iP depth),(4,.ptr 1 0),(6,.ptr 3 0)],[(kP p17),[iP 0,iP 0,tP ⟨#[]⟩,.sl [] .own,iP 0],(kT t.1),[iP 4,iP t.1.N,tP t.1.S,oX e3,iP t.1.At]]⟩ (aI (vparse_parser_need (parse_parser.mk p5 p6) ⟨#[44]⟩ (.ok n_2 p17) hy7) tI) ?_
                      exact zz (WS_wk [0,1,4,6] 4 rfl (lb rfl) rfl (hJ2 (p17.l,p17.forms) (Option.some.inj e4)))
                    . refine zz ?_
                      cases e4
                      cases e2
                      cases h
                      exact WS_runP (nos 1 (.mpan (pE e11) (kP p18)::[])) (aI (vparse_parser_need (parse_parser.mk p5 p6) ⟨#[44]⟩ (.pan e11 p18) hy7) tI) (by kernel_rfl) rfl hQ
                  . refine WS_false (test hc1) ?_
                    exact zz (WS_wk [0,1,4,6] 4 rfl (lb rfl) rfl (hJ2 (p5,p6) (Option.some.inj e4)))
              . refine zF (test hc2) ?_
                try refine z5 rfl ?_
                exact zz (WS_wk [0,4,6] 4 rfl (lb rfl) rfl (hJ1 (p5,p6,e3) (Option.some.inj e2)))
       . refine zF (test hc4) ?_
         obtain⟨y8,hy8,h⟩:=bindS h
         rcases y8 with⟨e12,p19⟩|⟨e13,p20⟩
         . refine wn (nos 3 (.meth (.agg (kX e12)) (kP p19)::(nos 1 []))) ⟨[(0,.ptr 0 0),(4,.ptr 1 0),(6,.ptr 3 0)],[(kP p19),[iP 0,iP 0,tP ⟨#[]⟩,.sl [] .own,iP 0],(kT t.1),(kX e12)]⟩ (aI (ih_parse_parser_expr n hn t.2 (IntKind.i64.wrap (depth+1)) (.ok e12 p19) hy8) tI) ?_
           obtain⟨y9,hy9,h⟩:=bindS h
           rcases y9 with⟨n_3,p21⟩|⟨e14,p22⟩
           . refine wn (nos 1 (.meth (.tup []) (kP p21)::[])) ⟨[(4,.ptr 1 0),(6,.ptr 3 0)],[(kP p21),[iP 0,iP 0,tP ⟨#[]⟩,.sl [] .own,iP 0],(kT t.1),(kX e12)]⟩ (aI (vparse_parser_need p19 ⟨#[41]⟩ (.ok n_3 p21) hy9) tI) ?_
             refine wn (nos 2 []) ⟨[(4,.ptr 1 0)],[(kP p21),(kX e12),(kT t.1),(kX e12)]⟩ tI ?_
             cases h
             exact rt hQ
           . refine zz ?_
             cases h
             exact WS_runP (nos 1 (.mpan (pE e14) (kP p22)::[])) (aI (vparse_parser_need p19 ⟨#[41]⟩ (.pan e14 p22) hy9) tI) (by kernel_rfl) rfl hQ
         . refine zz ?_
           cases h
           exact WS_runP (nos 3 (.mpan (pE e13) (kP p20)::(nos 1 []))) (aI (ih_parse_parser_expr n hn t.2 (IntKind.i64.wrap (depth+1)) (.pan e13 p20) hy8) tI) (by kernel_rfl) rfl hQ
 . intro hJ
   refine zz ?_
   rcases condS e with⟨hc7,e⟩|⟨hc7,e⟩
   . refine zT (test hc7) ?_
     obtain⟨y10,hy10,e⟩:=bindS e
     rcases y10 with⟨f1,p23⟩|⟨e15,p24⟩
     . refine wq (nos 1 (.meth (.tup []) (kP p23)::[])) ⟨[(0,.ptr 0 0),(1,iP depth),(4,.ptr 1 0)],[(kP p23),[iP 0,iP 0,tP ⟨#[]⟩,.sl [] .own,iP 0]]⟩ (aI (vparse_parser_fail p 5 (.ok f1 p23) hy10) tI) ?_
       exact zz (WS_wk [0,1,4] 2 rfl (lb rfl) rfl (hJ (p23.l,p23.forms) (Option.some.inj e)))
     . refine zz ?_
       cases e
       cases h
       exact WS_runP (nos 1 (.mpan (pE e15) (kP p24)::[])) (aI (vparse_parser_fail p 5 (.pan e15 p24) hy10) tI) (by kernel_rfl) rfl hQ
   . refine WS_false (test hc7) ?_
     exact zz (WS_wk [0,1,4] 2 rfl (lb rfl) rfl (hJ (p.l,p.forms) (Option.some.inj e)))
theorem scc_parse_parser_expr:∀ n:Nat,(∀ m,m<=n->∀ (p:parse_parser) (depth:Int) (r:(Ex parse_stop parse_parser api_Expr)),parse_parser_expr m p depth=some r->ExM r (fun v0 s0=>VCm Tryz.prog 28 [iP depth] (kP p) (.ret (.agg (kX v0))) (kP s0)) (fun e0 s0=>VCm Tryz.prog 28 [iP depth] (kP p) (.pan (pE e0)) (kP s0)))/\(∀ m,m<=n->∀ (p:parse_parser) (n_:Int) (depth:Int) (r:(Ex parse_stop parse_parser api_Expr)),parse_parser_level m p n_ depth=some r->ExM r (fun v0 s0=>VCm Tryz.prog 51 [iP n_,iP depth] (kP p) (.ret (.agg (kX v0))) (kP s0)) (fun e0 s0=>VCm Tryz.prog 51 [iP n_,iP depth] (kP p) (.pan (pE e0)) (kP s0)))/\(∀ m,m<=n->∀ (p:parse_parser) (depth:Int) (r:(Ex parse_stop parse_parser api_Expr)),parse_parser_neg m p depth=some r->ExM r (fun v0 s0=>VCm Tryz.prog 76 [iP depth] (kP p) (.ret (.agg (kX v0))) (kP s0)) (fun e0 s0=>VCm Tryz.prog 76 [iP depth] (kP p) (.pan (pE e0)) (kP s0)))/\(∀ m,m<=n->∀ (p:parse_parser) (depth:Int) (r:(Ex parse_stop parse_parser api_Expr)),parse_parser_atom m p depth=some r->ExM r (fun v0 s0=>VCm Tryz.prog 101 [iP depth] (kP p) (.ret (.agg (kX v0))) (kP s0)) (fun e0 s0=>VCm Tryz.prog 101 [iP depth] (kP p) (.pan (pE e0)) (kP s0)))
 |0=>⟨(fun m hm p depth r h=>by
  obtain rfl:m=0:=by omega
  exact absurd h (by simp [parse_parser_expr])),
  (fun m hm p n_ depth r h=>by
   obtain rfl:m=0:=by omega
   exact absurd h (by simp [parse_parser_level])),
  (fun m hm p depth r h=>by
   obtain rfl:m=0:=by omega
   exact absurd h (by simp [parse_parser_neg])),
  (fun m hm p depth r h=>by
   obtain rfl:m=0:=by omega
   exact absurd h (by simp [parse_parser_atom]))⟩
 |n+1=>by
  have ih:=scc_parse_parser_expr n
  exact⟨fun m hm p depth r h=>by
   cases m with
   |zero=>exact absurd h (by simp [parse_parser_expr])
   |succ m=>exact (match r,h with|.ok v0 s0,h=>VCm.fin (fun Q hQ=>vparse_parser_expr_0 n (ih.1) (ih.2.1) (ih.2.2.1) (ih.2.2.2) m (by omega) p depth _ h Q hQ)|.pan e0 s0,h=>VCm.finP (fun Q hQ=>vparse_parser_expr_0 n (ih.1) (ih.2.1) (ih.2.2.1) (ih.2.2.2) m (by omega) p depth _ h Q hQ)),
  fun m hm p n_ depth r h=>by
   cases m with
   |zero=>exact absurd h (by simp [parse_parser_level])
   |succ m=>exact (match r,h with|.ok v0 s0,h=>VCm.fin (fun Q hQ=>vparse_parser_level_0 n (ih.1) (ih.2.1) (ih.2.2.1) (ih.2.2.2) m (by omega) p n_ depth _ h Q hQ)|.pan e0 s0,h=>VCm.finP (fun Q hQ=>vparse_parser_level_0 n (ih.1) (ih.2.1) (ih.2.2.1) (ih.2.2.2) m (by omega) p n_ depth _ h Q hQ)),
  fun m hm p depth r h=>by
   cases m with
   |zero=>exact absurd h (by simp [parse_parser_neg])
   |succ m=>exact (match r,h with|.ok v0 s0,h=>VCm.fin (fun Q hQ=>vparse_parser_neg_0 n (ih.1) (ih.2.1) (ih.2.2.1) (ih.2.2.2) m (by omega) p depth _ h Q hQ)|.pan e0 s0,h=>VCm.finP (fun Q hQ=>vparse_parser_neg_0 n (ih.1) (ih.2.1) (ih.2.2.1) (ih.2.2.2) m (by omega) p depth _ h Q hQ)),
  fun m hm p depth r h=>by
   cases m with
   |zero=>exact absurd h (by simp [parse_parser_atom])
   |succ m=>exact (match r,h with|.ok v0 s0,h=>VCm.fin (fun Q hQ=>vparse_parser_atom_0 n (ih.1) (ih.2.1) (ih.2.2.1) (ih.2.2.2) m (by omega) p depth _ h Q hQ)|.pan e0 s0,h=>VCm.finP (fun Q hQ=>vparse_parser_atom_0 n (ih.1) (ih.2.1) (ih.2.2.1) (ih.2.2.2) m (by omega) p depth _ h Q hQ))⟩
theorem vparse_parser_expr (n:Nat)(p:parse_parser)(depth:Int)(r:(Ex parse_stop parse_parser api_Expr))(h:parse_parser_expr n p depth=some r):ExM r (fun v0 s0=>VCm Tryz.prog 28 [iP depth] (kP p) (.ret (.agg (kX v0))) (kP s0)) (fun e0 s0=>VCm Tryz.prog 28 [iP depth] (kP p) (.pan (pE e0)) (kP s0)) :=
 (scc_parse_parser_expr n).1 n (Nat.le_refl _) p depth r h
theorem vparse_parser_arg_0 (n:Nat)(p:parse_parser)(r:(Ex parse_stop parse_parser api_Arg))(h:parse_parser_arg n p=some r)(Q:AEnd->List (List PV)->Prop)(hQ:ExM r (fun v0 s0=>∀ y,shareP y=.agg (kA v0)->Q (.ret y) [(kP s0)]) (fun e0 s0=>Q (.pan (pE e0)) [(kP s0)])) :
 VC Tryz.prog 49 (.ptr 0 0::[]) [(kP p)] Q:=by
 unfold parse_parser_arg at h
 refine VC.intro ⟨[0,2,3,4,15,18,19,26,29,37,40,43],[]⟩ Tryz.func49 rfl follows ok49 (by rw [Tryz.ntmps49];exact lb rfl) ?_
 refine WS_ofR ?_
 refine zz ?_
 refine wn (nos 1 []) ⟨[(0,.ptr 0 0),(2,.ptr 1 0)],[(kP p),[iP 0,iP 0,tP ⟨#[]⟩,iP 0,iP 0,tP ⟨#[]⟩,.sl [] .own,iP 0,iP 0]]⟩ tI ?_
 obtain⟨t,ht,h⟩:=bindS h
 refine wn (nos 1 (.meth (.agg (kT t.1)) (kP t.2)::(nos 2 []))) ⟨[(0,.ptr 0 0),(2,.ptr 1 0),(3,.ptr 2 0)],[(kP t.2),[iP 0,iP 0,tP ⟨#[]⟩,iP 0,iP 0,tP ⟨#[]⟩,.sl [] .own,iP 0,iP 0],(kT t.1)]⟩ (aI (vparse_parser_next p t ht) tI) ?_
 refine wn (nos 9 []) ⟨[(0,.ptr 0 0),(2,.ptr 1 0),(3,.ptr 2 0),(4,.ptr 3 0)],[(kP t.2),[iP 0,iP 0,tP ⟨#[]⟩,iP 0,iP 0,tP ⟨#[]⟩,.sl [] .own,iP 0,iP 0],(kT t.1),[iP 0,iP t.1.N,tP t.1.S,iP 0,iP 0,tP ⟨#[]⟩,.sl [] .own,iP 0,iP t.1.At]]⟩ tI ?_
 refine wn (nos 2 []) ⟨[(0,.ptr 0 0),(2,.ptr 1 0),(3,.ptr 2 0),(4,.ptr 3 0),(15,iP t.1.Kind)],[(kP t.2),[iP 0,iP 0,tP ⟨#[]⟩,iP 0,iP 0,tP ⟨#[]⟩,.sl [] .own,iP 0,iP 0],(kT t.1),[iP 0,iP t.1.N,tP t.1.S,iP 0,iP 0,tP ⟨#[]⟩,.sl [] .own,iP 0,iP t.1.At]]⟩ tI ?_
 refine zB ?_
 refine wn (nos 2 []) ⟨[(0,.ptr 0 0),(2,.ptr 1 0),(3,.ptr 2 0),(4,.ptr 3 0),(15,iP t.1.Kind),(37,bP (t.1.Kind == 1))],[(kP t.2),[iP 0,iP 0,tP ⟨#[]⟩,iP 0,iP 0,tP ⟨#[]⟩,.sl [] .own,iP 0,iP 0],(kT t.1),[iP 0,iP t.1.N,tP t.1.S,iP 0,iP 0,tP ⟨#[]⟩,.sl [] .own,iP 0,iP t.1.At]]⟩ tI ?_
 rcases condS h with⟨hc5,h⟩|⟨hc5,h⟩
 . refine zT (test hc5) ?_
   refine wn (nos 2 []) ⟨[(2,.ptr 1 0),(4,.ptr 3 0)],[(kP t.2),[iP 0,iP 0,tP ⟨#[]⟩,iP 0,iP 0,tP ⟨#[]⟩,.sl [] .own,iP 0,iP 0],(kT t.1),[iP 1,iP t.1.N,tP t.1.S,iP 0,iP 0,tP ⟨#[]⟩,.sl [] .own,iP 0,iP t.1.At]]⟩ tI ?_
   refine wn (nos 2 []) ⟨[(2,.ptr 1 0)],[(kP t.2),[iP 1,iP t.1.N,tP t.1.S,iP 0,iP 0,tP ⟨#[]⟩,.sl [] .shared,iP 0,iP t.1.At],(kT t.1),[iP 1,iP t.1.N,tP t.1.S,iP 0,iP 0,tP ⟨#[]⟩,.sl [] .own,iP 0,iP t.1.At]]⟩ tI ?_
   cases h
   exact rt hQ
 . refine zF (test hc5) ?_
   refine wn (nos 2 []) ⟨[(0,.ptr 0 0),(2,.ptr 1 0),(3,.ptr 2 0),(4,.ptr 3 0),(15,iP t.1.Kind),(40,bP (t.1.Kind == 2))],[(kP t.2),[iP 0,iP 0,tP ⟨#[]⟩,iP 0,iP 0,tP ⟨#[]⟩,.sl [] .own,iP 0,iP 0],(kT t.1),[iP 0,iP t.1.N,tP t.1.S,iP 0,iP 0,tP ⟨#[]⟩,.sl [] .own,iP 0,iP t.1.At]]⟩ tI ?_
   rcases condS h with⟨hc4,h⟩|⟨hc4,h⟩
   . refine zT (test hc4) ?_
     refine wn (nos 2 []) ⟨[(2,.ptr 1 0),(4,.ptr 3 0)],[(kP t.2),[iP 0,iP 0,tP ⟨#[]⟩,iP 0,iP 0,tP ⟨#[]⟩,.sl [] .own,iP 0,iP 0],(kT t.1),[iP 2,iP t.1.N,tP t.1.S,iP 0,iP 0,tP ⟨#[]⟩,.sl [] .own,iP 0,iP t.1.At]]⟩ tI ?_
     refine wn (nos 2 []) ⟨[(2,.ptr 1 0)],[(kP t.2),[iP 2,iP t.1.N,tP t.1.S,iP 0,iP 0,tP ⟨#[]⟩,.sl [] .shared,iP 0,iP t.1.At],(kT t.1),[iP 2,iP t.1.N,tP t.1.S,iP 0,iP 0,tP ⟨#[]⟩,.sl [] .own,iP 0,iP t.1.At]]⟩ tI ?_
     cases h
     exact rt hQ
   . refine zF (test hc4) ?_
     refine wn (nos 2 []) ⟨[(0,.ptr 0 0),(2,.ptr 1 0),(3,.ptr 2 0),(4,.ptr 3 0),(43,bP (t.1.Kind == 3))],[(kP t.2),[iP 0,iP 0,tP ⟨#[]⟩,iP 0,iP 0,tP ⟨#[]⟩,.sl [] .own,iP 0,iP 0],(kT t.1),[iP 0,iP t.1.N,tP t.1.S,iP 0,iP 0,tP ⟨#[]⟩,.sl [] .own,iP 0,iP t.1.At]]⟩ tI ?_
     rcases condS h with⟨hc3,h⟩|⟨hc3,h⟩
     . refine zT (test hc3) ?_
       refine wn (nos 2 []) ⟨[(2,.ptr 1 0),(4,.ptr 3 0)],[(kP t.2),[iP 0,iP 0,tP ⟨#[]⟩,iP 0,iP 0,tP ⟨#[]⟩,.sl [] .own,iP 0,iP 0],(kT t.1),[iP 3,iP t.1.N,tP t.1.S,iP 0,iP 0,tP ⟨#[]⟩,.sl [] .own,iP 0,iP t.1.At]]⟩ tI ?_
       refine wn (nos 2 []) ⟨[(2,.ptr 1 0)],[(kP t.2),[iP 3,iP t.1.N,tP t.1.S,iP 0,iP 0,tP ⟨#[]⟩,.sl [] .shared,iP 0,iP t.1.At],(kT t.1),[iP 3,iP t.1.N,tP t.1.S,iP 0,iP 0,tP ⟨#[]⟩,.sl [] .own,iP 0,iP t.1.At]]⟩ tI ?_
       cases h
       exact rt hQ
     . refine zF (test hc3) ?_
       refine wn (nos 2 []) ⟨[(0,.ptr 0 0),(2,.ptr 1 0),(3,.ptr 2 0),(4,.ptr 3 0)],[(kP t.2),[iP 0,iP 0,tP ⟨#[]⟩,iP 0,iP 0,tP ⟨#[]⟩,.sl [] .own,iP 0,iP 0],(kT t.1),[iP 0,iP t.1.N,tP ⟨#[]⟩,iP 0,iP 0,tP ⟨#[]⟩,.sl [] .own,iP 0,iP t.1.At]]⟩ tI ?_
       refine wn (nos 2 []) ⟨[(0,.ptr 0 0),(2,.ptr 1 0),(4,.ptr 3 0),(18,tP t.1.S)],[(kP t.2),[iP 0,iP 0,tP ⟨#[]⟩,iP 0,iP 0,tP ⟨#[]⟩,.sl [] .own,iP 0,iP 0],(kT t.1),[iP 0,iP t.1.N,tP ⟨#[]⟩,iP 0,iP 0,tP ⟨#[]⟩,.sl [] .own,iP 0,iP t.1.At]]⟩ tI ?_
       refine zB ?_
       refine wn (nos 2 []) ⟨[(0,.ptr 0 0),(2,.ptr 1 0),(4,.ptr 3 0),(18,tP t.1.S),(19,bP (decide (t.1.S=⟨#[45]⟩)))],[(kP t.2),[iP 0,iP 0,tP ⟨#[]⟩,iP 0,iP 0,tP ⟨#[]⟩,.sl [] .own,iP 0,iP 0],(kT t.1),[iP 0,iP t.1.N,tP ⟨#[]⟩,iP 0,iP 0,tP ⟨#[]⟩,.sl [] .own,iP 0,iP t.1.At]]⟩ tI ?_
       rcases condS h with⟨hc2,h⟩|⟨hc2,h⟩
       . refine zT (test hc2) ?_
         obtain⟨y,hy,h⟩:=bindS h
         rcases y with⟨n_,p1⟩|⟨e,p2⟩
         . refine wn (nos 1 (.meth (iP n_) (kP p1)::(nos 5 []))) ⟨[(2,.ptr 1 0),(4,.ptr 3 0)],[(kP p1),[iP 0,iP 0,tP ⟨#[]⟩,iP 0,iP 0,tP ⟨#[]⟩,.sl [] .own,iP 0,iP 0],(kT t.1),[iP 2,iP (IntKind.i64.wrap (0-n_)),tP ⟨#[]⟩,iP 0,iP 0,tP ⟨#[]⟩,.sl [] .own,iP 0,iP t.1.At]]⟩ (aI (vparse_parser_number t.2 (.ok n_ p1) hy) tI) ?_
           refine wn (nos 2 []) ⟨[(2,.ptr 1 0)],[(kP p1),[iP 2,iP (IntKind.i64.wrap (0-n_)),tP ⟨#[]⟩,iP 0,iP 0,tP ⟨#[]⟩,.sl [] .shared,iP 0,iP t.1.At],(kT t.1),[iP 2,iP (IntKind.i64.wrap (0-n_)),tP ⟨#[]⟩,iP 0,iP 0,tP ⟨#[]⟩,.sl [] .own,iP 0,iP t.1.At]]⟩ tI ?_
           cases h
           exact rt hQ
         . refine zz ?_
           cases h
           exact WS_runP (nos 1 (.mpan (pE e) (kP p2)::(nos 5 []))) (aI (vparse_parser_number t.2 (.pan e p2) hy) tI) (by kernel_rfl) rfl hQ
       . refine zF (test hc2) ?_
         refine wn (nos 2 []) ⟨[(0,.ptr 0 0),(2,.ptr 1 0),(4,.ptr 3 0),(18,tP t.1.S),(26,bP (decide (t.1.S=⟨#[45,62]⟩)))],[(kP t.2),[iP 0,iP 0,tP ⟨#[]⟩,iP 0,iP 0,tP ⟨#[]⟩,.sl [] .own,iP 0,iP 0],(kT t.1),[iP 0,iP t.1.N,tP ⟨#[]⟩,iP 0,iP 0,tP ⟨#[]⟩,.sl [] .own,iP 0,iP t.1.At]]⟩ tI ?_
         rcases condS h with⟨hc1,h⟩|⟨hc1,h⟩
         . refine zT (test hc1) ?_
           refine wn (nos 2 []) ⟨[(2,.ptr 1 0),(4,.ptr 3 0)],[(kP t.2),[iP 0,iP 0,tP ⟨#[]⟩,iP 0,iP 0,tP ⟨#[]⟩,.sl [] .own,iP 0,iP 0],(kT t.1),[iP 4,iP t.1.N,tP ⟨#[]⟩,iP 0,iP 0,tP ⟨#[]⟩,.sl [] .own,iP 0,iP t.1.At]]⟩ tI ?_
           refine wn (nos 2 []) ⟨[(2,.ptr 1 0)],[(kP t.2),[iP 4,iP t.1.N,tP ⟨#[]⟩,iP 0,iP 0,tP ⟨#[]⟩,.sl [] .shared,iP 0,iP t.1.At],(kT t.1),[iP 4,iP t.1.N,tP ⟨#[]⟩,iP 0,iP 0,tP ⟨#[]⟩,.sl [] .own,iP 0,iP t.1.At]]⟩ tI ?_
           cases h
           exact rt hQ
         . refine zF (test hc1) ?_
           refine wn (nos 2 []) ⟨[(0,.ptr 0 0),(2,.ptr 1 0),(4,.ptr 3 0),(29,bP (decide (t.1.S=⟨#[40]⟩)))],[(kP t.2),[iP 0,iP 0,tP ⟨#[]⟩,iP 0,iP 0,tP ⟨#[]⟩,.sl [] .own,iP 0,iP 0],(kT t.1),[iP 0,iP t.1.N,tP ⟨#[]⟩,iP 0,iP 0,tP ⟨#[]⟩,.sl [] .own,iP 0,iP t.1.At]]⟩ tI ?_
           rcases condS h with⟨hc,h⟩|⟨hc,h⟩
           . refine zT (test hc) ?_
             obtain⟨y1,hy1,h⟩:=bindS h
             rcases y1 with⟨e1,p3⟩|⟨e2,p4⟩
             . refine wn (nos 1 (.meth (.agg (kX e1)) (kP p3)::(nos 4 []))) ⟨[(0,.ptr 0 0),(2,.ptr 1 0),(4,.ptr 3 0)],[(kP p3),[iP 0,iP 0,tP ⟨#[]⟩,iP 0,iP 0,tP ⟨#[]⟩,.sl [] .own,iP 0,iP 0],(kT t.1),[iP 5,iP t.1.N,tP ⟨#[]⟩,iP e1.Op,iP e1.N,tP e1.S,hX e1.Kids,iP e1.At,iP t.1.At]]⟩ (aI (vparse_parser_expr n t.2 1 (.ok e1 p3) hy1) tI) ?_
               obtain⟨y2,hy2,h⟩:=bindS h
               rcases y2 with⟨n_1,p5⟩|⟨e3,p6⟩
               . refine wn (nos 1 (.meth (.tup []) (kP p5)::[])) ⟨[(2,.ptr 1 0),(4,.ptr 3 0)],[(kP p5),[iP 0,iP 0,tP ⟨#[]⟩,iP 0,iP 0,tP ⟨#[]⟩,.sl [] .own,iP 0,iP 0],(kT t.1),[iP 5,iP t.1.N,tP ⟨#[]⟩,iP e1.Op,iP e1.N,tP e1.S,hX e1.Kids,iP e1.At,iP t.1.At]]⟩ (aI (vparse_parser_need p3 ⟨#[41]⟩ (.ok n_1 p5) hy2) tI) ?_
                 refine wn (nos 2 []) ⟨[(2,.ptr 1 0)],[(kP p5),[iP 5,iP t.1.N,tP ⟨#[]⟩,iP e1.Op,iP e1.N,tP e1.S,hX e1.Kids,iP e1.At,iP t.1.At],(kT t.1),[iP 5,iP t.1.N,tP ⟨#[]⟩,iP e1.Op,iP e1.N,tP e1.S,hX e1.Kids,iP e1.At,iP t.1.At]]⟩ tI ?_
                 cases h
                 exact rt hQ
               . refine zz ?_
                 cases h
                 exact WS_runP (nos 1 (.mpan (pE e3) (kP p6)::[])) (aI (vparse_parser_need p3 ⟨#[41]⟩ (.pan e3 p6) hy2) tI) (by kernel_rfl) rfl hQ
             . refine zz ?_
               cases h
               exact WS_runP (nos 1 (.mpan (pE e2) (kP p4)::(nos 4 []))) (aI (vparse_parser_expr n t.2 1 (.pan e2 p4) hy1) tI) (by kernel_rfl) rfl hQ
           . refine zF (test hc) ?_
             refine wn (nos 2 []) ⟨[(2,.ptr 1 0)],[(kP t.2),[iP 0,iP t.1.N,tP ⟨#[]⟩,iP 0,iP 0,tP ⟨#[]⟩,.sl [] .shared,iP 0,iP t.1.At],(kT t.1),[iP 0,iP t.1.N,tP ⟨#[]⟩,iP 0,iP 0,tP ⟨#[]⟩,.sl [] .own,iP 0,iP t.1.At]]⟩ tI ?_
             cases h
             exact rt hQ
theorem vparse_parser_arg (n:Nat)(p:parse_parser)(r:(Ex parse_stop parse_parser api_Arg))(h:parse_parser_arg n p=some r):ExM r (fun v0 s0=>VCm Tryz.prog 49 [] (kP p) (.ret (.agg (kA v0))) (kP s0)) (fun e0 s0=>VCm Tryz.prog 49 [] (kP p) (.pan (pE e0)) (kP s0)):=(match r,h with|.ok v0 s0,h=>VCm.fin (fun Q hQ=>vparse_parser_arg_0 n p _ h Q hQ)|.pan e0 s0,h=>VCm.finP (fun Q hQ=>vparse_parser_arg_0 n p _ h Q hQ))
theorem okp_parse_parser_form:okCode [(13,[9999,1,0,0,1,2,3,4,5,6,7]),(17,[9999,1,0,0,1,2,3,4,5,6,7,8,9])] Tryz.f26.ntmps (Tryz.f26.body.getD .skip)=true:=by kernel_rfl
theorem vparse_parser_form_0 (n0:Nat)
 (ih_parse_parser_form:∀ m,m<=n0->∀ (p:parse_parser) (depth:Int) (r:(Ex parse_stop parse_parser api_Form)),parse_parser_form m p depth=some r->ExM r (fun v0 s0=>VCm Tryz.prog 26 [iP depth] (kP p) (.ret (.agg (kF v0))) (kP s0)) (fun e0 s0=>VCm Tryz.prog 26 [iP depth] (kP p) (.pan (pE e0)) (kP s0)))
 (n:Nat) (hn:n<=n0) (p:parse_parser) (depth:Int) (r:(Ex parse_stop parse_parser api_Form)) (h:parse_parser_form (n+1) p depth=some r) (Q:AEnd->List (List PV)->Prop) (hQ:ExM r (fun v0 s0=>∀ y,shareP y=.agg (kF v0)->Q (.ret y) [(kP s0)]) (fun e0 s0=>Q (.pan (pE e0)) [(kP s0)])) :
 VC Tryz.prog 26 (.ptr 0 0::[iP depth]) [(kP p)] Q:=by
 replace h:=(parse_parser_form.eq_2 (n:=n) _ _).symm.trans h
 refine VC.intro ⟨[0,1,4,5,6,14,32,49,57,63,76,80],[(13,[9999,1,0,0,1,2,3,4,5,6,7]),(17,[9999,1,0,0,1,2,3,4,5,6,7,8,9])]⟩ Tryz.func26 rfl follows okp_parse_parser_form (by rw [Tryz.ntmps26];exact lb rfl) ?_
 refine WS_ofR ?_
 refine zz ?_
 refine wn (nos 1 []) ⟨[(0,.ptr 0 0),(1,iP depth),(4,.ptr 1 0)],[(kP p),[tP ⟨#[]⟩,.sl [] .own,.sl [] .own,iP 0]]⟩ tI ?_
 obtain⟨x,hx,h⟩:=bindS h
 refine wn (nos 4 (.val (.vptr (kT x) 0)::(nos 3 []))) ⟨[(0,.ptr 0 0),(1,iP depth),(4,.ptr 1 0),(14,bP (x.Kind != 1))],[(kP p),[tP ⟨#[]⟩,.sl [] .own,.sl [] .own,iP 0]]⟩ (aI (oi hx row_api_Token_len (row_api_Token_eq x)) tI) ?_
 obtain⟨y,e,h⟩:=bindS h
 refine WS_meet (A:=((List api_Token)×Int)) (fun v=>.inl v=y) (fun y=>match y with|(p1,p2)=>⟨[(0,.ptr 0 0),(1,iP depth),(4,.ptr 1 0)],[[hT p1,iP p2],[tP ⟨#[]⟩,.sl [] .own,.sl [] .own,iP 0]]⟩) ?_ ?_
 . rintro⟨p1,p2⟩ rfl
   show WS _ _ _ _ _ ⟨[(0,.ptr 0 0),(1,iP depth),(4,.ptr 1 0)],[[hT p1,iP p2],[tP ⟨#[]⟩,.sl [] .own,.sl [] .own,iP 0]]⟩
   refine zz ?_
   refine wn (nos 8 []) ⟨[(0,.ptr 0 0),(1,iP depth),(4,.ptr 1 0)],[[hT p1,iP (IntKind.i64.wrap (p2+1))],[tP ⟨#[]⟩,.sl [] .own,.sl [] .own,iP 0]]⟩ tI ?_
   obtain⟨y1,e1,h⟩:=bindS h
   refine WS_meet (A:=Bool) (fun v=>v=y1) (fun v32=>⟨[(0,.ptr 0 0),(1,iP depth),(4,.ptr 1 0),(32,bP v32)],[[hT p1,iP (IntKind.i64.wrap (p2+1))],[tP ⟨#[]⟩,.sl [] .own,.sl [] .own,iP 0]]⟩) ?_ ?_
   . rintro v32 rfl
     show WS _ _ _ _ _ ⟨[(0,.ptr 0 0),(1,iP depth),(4,.ptr 1 0),(32,bP v32)],[[hT p1,iP (IntKind.i64.wrap (p2+1))],[tP ⟨#[]⟩,.sl [] .own,.sl [] .own,iP 0]]⟩
     refine zz ?_
     obtain⟨y2,e2,h⟩:=bindS h
     refine WS_meet (A:=((List api_Token)×Int)) (fun v=>.inl v=y2) (fun y2=>match y2 with|(p3,p4)=>⟨[(0,.ptr 0 0),(1,iP depth),(4,.ptr 1 0)],[[hT p3,iP p4],[tP ⟨#[]⟩,.sl [] .own,.sl [] .own,iP 0]]⟩) ?_ ?_
     . rintro⟨p3,p4⟩ rfl
       show WS _ _ _ _ _ ⟨[(0,.ptr 0 0),(1,iP depth),(4,.ptr 1 0)],[[hT p3,iP p4],[tP ⟨#[]⟩,.sl [] .own,.sl [] .own,iP 0]]⟩
       refine zz ?_
       obtain⟨t,ht,h⟩:=bindS h
       refine wn (nos 1 (.meth (.agg (kT t.1)) (kP t.2)::(nos 2 []))) ⟨[(0,.ptr 0 0),(1,iP depth),(4,.ptr 1 0),(5,.ptr 2 0)],[(kP t.2),[tP ⟨#[]⟩,.sl [] .own,.sl [] .own,iP 0],(kT t.1)]⟩ (aI (vparse_parser_next (parse_parser.mk p3 p4) t ht) tI) ?_
       refine wn (nos 7 []) ⟨[(0,.ptr 0 0),(1,iP depth),(4,.ptr 1 0),(6,.ptr 3 0)],[(kP t.2),[tP ⟨#[]⟩,.sl [] .own,.sl [] .own,iP 0],(kT t.1),[tP t.1.S,.sl [] .own,.sl [] .own,iP t.1.At]]⟩ tI ?_
       obtain⟨y3,e3,h⟩:=bindS h
       refine WS_meet (A:=((List api_Token)×Int×(List api_Arg))) (fun v=>.inl v=y3) (fun y3=>match y3 with|(p5,p6,f)=>⟨[(0,.ptr 0 0),(1,iP depth),(4,.ptr 1 0),(6,.ptr 3 0)],[[hT p5,iP p6],[tP ⟨#[]⟩,.sl [] .own,.sl [] .own,iP 0],(kT t.1),[tP t.1.S,oA f,.sl [] .own,iP t.1.At]]⟩) ?_ ?_
       . rintro⟨p5,p6,f⟩ rfl
         show WS _ _ _ _ _ ⟨[(0,.ptr 0 0),(1,iP depth),(4,.ptr 1 0),(6,.ptr 3 0)],[[hT p5,iP p6],[tP ⟨#[]⟩,.sl [] .own,.sl [] .own,iP 0],(kT t.1),[tP t.1.S,oA f,.sl [] .own,iP t.1.At]]⟩
         refine zz ?_
         obtain⟨n_,hn_,h⟩:=bindS h
         refine wn (nos 1 (.meth (.agg (kT n_.1)) (kP n_.2)::(nos 2 []))) ⟨[(0,.ptr 0 0),(1,iP depth),(4,.ptr 1 0),(6,.ptr 3 0),(76,bP (decide (n_.1.S=⟨#[59]⟩)))],[(kP n_.2),[tP ⟨#[]⟩,.sl [] .own,.sl [] .own,iP 0],(kT t.1),[tP t.1.S,oA f,.sl [] .own,iP t.1.At]]⟩ (aI (vparse_parser_next (parse_parser.mk p5 p6) n_ hn_) tI) ?_
         rcases condS h with⟨hc1,h⟩|⟨hc1,h⟩
         . refine zT (test hc1) ?_
           refine wn (nos 2 []) ⟨[(0,.ptr 0 0),(1,iP depth),(4,.ptr 1 0),(6,.ptr 3 0)],[(kP n_.2),[tP t.1.S,hA f,.sl [] .shared,iP t.1.At],(kT t.1),[tP t.1.S,oA f,.sl [] .own,iP t.1.At]]⟩ tI ?_
           cases h
           exact rt hQ
         . refine zF (test hc1) ?_
           obtain⟨y4,e4,h⟩:=bindS h
           refine WS_meet (A:=((List api_Token)×Int×(List api_Form))) (fun v=>.inl v=y4) (fun y4=>match y4 with|(p7,p8,f1)=>⟨[(0,.ptr 0 0),(4,.ptr 1 0),(6,.ptr 3 0)],[[hT p7,iP p8],[tP ⟨#[]⟩,.sl [] .own,.sl [] .own,iP 0],(kT t.1),[tP t.1.S,oA f,oF f1,iP t.1.At]]⟩) ?_ ?_
           . rintro⟨p7,p8,f1⟩ rfl
             show WS _ _ _ _ _ ⟨[(0,.ptr 0 0),(4,.ptr 1 0),(6,.ptr 3 0)],[[hT p7,iP p8],[tP ⟨#[]⟩,.sl [] .own,.sl [] .own,iP 0],(kT t.1),[tP t.1.S,oA f,oF f1,iP t.1.At]]⟩
             refine zz ?_
             obtain⟨n_1,hn_1,h⟩:=bindS h
             refine wn (nos 1 (.meth (.agg (kT n_1.1)) (kP n_1.2)::[])) ⟨[(4,.ptr 1 0),(6,.ptr 3 0)],[(kP n_1.2),[tP ⟨#[]⟩,.sl [] .own,.sl [] .own,iP 0],(kT t.1),[tP t.1.S,oA f,oF f1,iP t.1.At]]⟩ (aI (vparse_parser_next (parse_parser.mk p7 p8) n_1 hn_1) tI) ?_
             refine wn (nos 2 []) ⟨[(4,.ptr 1 0)],[(kP n_1.2),[tP t.1.S,hA f,hF f1,iP t.1.At],(kT t.1),[tP t.1.S,oA f,oF f1,iP t.1.At]]⟩ tI ?_
             cases h
             exact rt hQ
           . intro hJ4
             refine zz ?_
             refine zB ?_
             refine WS_for [0,1,4,6] 4 (fun a:Nat×((List api_Token)×Int×(List api_Form))=>a.1<=n0/\parse_parser_form_l1 a.1 depth a.2.1 a.2.2.1 a.2.2.2=some y4) (fun a=>a.1) (fun a:Nat×((List api_Token)×Int×(List api_Form))=>match a with|(_,(p9,p10,f2))=>⟨[(0,.ptr 0 0),(1,iP depth),(4,.ptr 1 0),(6,.ptr 3 0)],[[hT p9,iP p10],[tP ⟨#[]⟩,.sl [] .own,.sl [] .own,iP 0],(kT t.1),[tP t.1.S,oA f,oF f2,iP t.1.At]]⟩) (n,(n_.2.l,n_.2.forms,[])) (lb rfl) rfl ⟨hn,e4⟩ ?_
             clear e4 hn
             rintro⟨n,p9,p10,f2⟩ ⟨hn,e4⟩
             show WS _ _ _ _ _ ⟨[(0,.ptr 0 0),(1,iP depth),(4,.ptr 1 0),(6,.ptr 3 0)],[[hT p9,iP p10],[tP ⟨#[]⟩,.sl [] .own,.sl [] .own,iP 0],(kT t.1),[tP t.1.S,oA f,oF f2,iP t.1.At]]⟩
             cases n with
             |zero=>exact absurd e4 (by simp [parse_parser_form_l1])
             |succ n =>
              replace e4:=(parse_parser_form_l1.eq_2 (n:=n) _ _ _ _).symm.trans e4
              replace hn:n<=n0:=by omega
              refine zz ?_
              obtain⟨i,hi,e4⟩:=bindS e4
              refine wn (nos 1 (.meth (bP i) [hT p9,iP p10]::(nos 1 []))) ⟨[(0,.ptr 0 0),(1,iP depth),(4,.ptr 1 0),(6,.ptr 3 0),(80,bP (!i))],[[hT p9,iP p10],[tP ⟨#[]⟩,.sl [] .own,.sl [] .own,iP 0],(kT t.1),[tP t.1.S,oA f,oF f2,iP t.1.At]]⟩ (aI (vparse_parser_is (parse_parser.mk p9 p10) ⟨#[125]⟩ i hi) tI) ?_
              rcases condS e4 with⟨hc,e4⟩|⟨hc,e4⟩
              . refine zT (test hc) ?_
                refine zB ?_
                obtain⟨y5,hy5,e4⟩:=bindS e4
                rcases y5 with⟨f3,p11⟩|⟨e5,p12⟩
                . obtain⟨l,hl,e4⟩:=bindS e4
                  have fb:([(kF f3)]:List (List PV))=l.map row_api_Form:=by rw [<- Option.some.inj hl];simp only [List.map_cons,List.map_nil,row_api_Form_eq]
                  obtain⟨l1,hl1,e4⟩:=bindS e4
                  refine wqD [0] [0,1,2,3,4,5,6,7,8,9] (nos 5 (.meth (.agg (kF f3)) (kP p11)::(.val (oF l)::(.val (oF l1)::(nos 2 []))))) ⟨[(0,.ptr 0 0),(1,iP depth),(4,.ptr 1 0),(6,.ptr 3 0)],[(kP p11),[tP ⟨#[]⟩,.sl [] .own,.sl [] .own,iP 0],(kT t.1),[tP t.1.S,oA f,oF l1,iP t.1.At]]⟩ (aI (ih_parse_parser_form n hn (parse_parser.mk p9 p10) (IntKind.i64.wrap (depth+1)) (.ok f3 p11) hy5) (aI (obuild rfl fb) (aI (oapp hl1 row_api_Form_len) tI))) ?_
                  exact zz (WS_again (n,(p11.l,p11.forms,l1)) rfl ⟨hn,e4⟩ (Nat.lt_succ_self _))
                . refine zz ?_
                  cases e4
                  cases h
                  exact WS_runDP [0] [0,1,2,3,4,5,6,7,8,9] (nos 5 (.mpan (pE e5) (kP p12)::(nos 4 []))) (aI (ih_parse_parser_form n hn (parse_parser.mk p9 p10) (IntKind.i64.wrap (depth+1)) (.pan e5 p12) hy5) tI) (by kernel_rfl) rfl hQ
              . refine zF (test hc) ?_
                try refine z5 rfl ?_
                exact zz (WS_wk [0,4,6] 4 rfl (lb rfl) rfl (hJ4 (p9,p10,f2) (Option.some.inj e4)))
       . intro hJ3
         refine zz ?_
         refine zB ?_
         refine WS_for [0,1,4,6] 4 (fun a:Nat×((List api_Token)×Int×(List api_Arg))=>a.1<=n0/\parse_parser_form_l2 a.1 a.2.1 a.2.2.1 a.2.2.2=some y3) (fun a=>a.1) (fun a:Nat×((List api_Token)×Int×(List api_Arg))=>match a with|(_,(p13,p14,f4))=>⟨[(0,.ptr 0 0),(1,iP depth),(4,.ptr 1 0),(6,.ptr 3 0)],[[hT p13,iP p14],[tP ⟨#[]⟩,.sl [] .own,.sl [] .own,iP 0],(kT t.1),[tP t.1.S,oA f4,.sl [] .own,iP t.1.At]]⟩) (n,(t.2.l,t.2.forms,[])) (lb rfl) rfl ⟨hn,e3⟩ ?_
         clear e3 hn
         rintro⟨n,p13,p14,f4⟩ ⟨hn,e3⟩
         show WS _ _ _ _ _ ⟨[(0,.ptr 0 0),(1,iP depth),(4,.ptr 1 0),(6,.ptr 3 0)],[[hT p13,iP p14],[tP ⟨#[]⟩,.sl [] .own,.sl [] .own,iP 0],(kT t.1),[tP t.1.S,oA f4,.sl [] .own,iP t.1.At]]⟩
         cases n with
         |zero=>exact absurd e3 (by simp [parse_parser_form_l2])
         |succ n =>
          replace e3:=(parse_parser_form_l2.eq_2 (n:=n) _ _ _).symm.trans e3
          replace hn:n<=n0:=by omega
          refine zz ?_
          obtain⟨y6,e6,e3⟩:=bindS e3
          refine WS_meet (A:=Bool) (fun v=>v=y6) (fun v49=>⟨[(0,.ptr 0 0),(1,iP depth),(4,.ptr 1 0),(6,.ptr 3 0),(49,bP v49)],[[hT p13,iP p14],[tP ⟨#[]⟩,.sl [] .own,.sl [] .own,iP 0],(kT t.1),[tP t.1.S,oA f4,.sl [] .own,iP t.1.At]]⟩) ?_ ?_
          . rintro v49 rfl
            show WS _ _ _ _ _ ⟨[(0,.ptr 0 0),(1,iP depth),(4,.ptr 1 0),(6,.ptr 3 0),(49,bP v49)],[[hT p13,iP p14],[tP ⟨#[]⟩,.sl [] .own,.sl [] .own,iP 0],(kT t.1),[tP t.1.S,oA f4,.sl [] .own,iP t.1.At]]⟩
            refine zz ?_
            rcases condS e3 with⟨hc5,e3⟩|⟨hc5,e3⟩
            . refine zT (test hc5) ?_
              refine zB ?_
              obtain⟨y7,e7,e3⟩:=bindS e3
              refine WS_meet (A:=Bool) (fun v=>v=y7) (fun v57=>⟨[(0,.ptr 0 0),(1,iP depth),(4,.ptr 1 0),(6,.ptr 3 0),(57,bP v57)],[[hT p13,iP p14],[tP ⟨#[]⟩,.sl [] .own,.sl [] .own,iP 0],(kT t.1),[tP t.1.S,oA f4,.sl [] .own,iP t.1.At]]⟩) ?_ ?_
              . rintro v57 rfl
                show WS _ _ _ _ _ ⟨[(0,.ptr 0 0),(1,iP depth),(4,.ptr 1 0),(6,.ptr 3 0),(57,bP v57)],[[hT p13,iP p14],[tP ⟨#[]⟩,.sl [] .own,.sl [] .own,iP 0],(kT t.1),[tP t.1.S,oA f4,.sl [] .own,iP t.1.At]]⟩
                refine zz ?_
                obtain⟨y8,e8,e3⟩:=bindS e3
                refine WS_meet (A:=((List api_Token)×Int)) (fun v=>.inl v=y8) (fun y8=>match y8 with|(p15,p16)=>⟨[(0,.ptr 0 0),(1,iP depth),(4,.ptr 1 0),(6,.ptr 3 0)],[[hT p15,iP p16],[tP ⟨#[]⟩,.sl [] .own,.sl [] .own,iP 0],(kT t.1),[tP t.1.S,oA f4,.sl [] .own,iP t.1.At]]⟩) ?_ ?_
                . rintro⟨p15,p16⟩ rfl
                  show WS _ _ _ _ _ ⟨[(0,.ptr 0 0),(1,iP depth),(4,.ptr 1 0),(6,.ptr 3 0)],[[hT p15,iP p16],[tP ⟨#[]⟩,.sl [] .own,.sl [] .own,iP 0],(kT t.1),[tP t.1.S,oA f4,.sl [] .own,iP t.1.At]]⟩
                  refine zz ?_
                  refine wn (nos 2 (.val (iP (f4.length:Int))::(nos 1 []))) ⟨[(0,.ptr 0 0),(1,iP depth),(4,.ptr 1 0),(6,.ptr 3 0),(63,bP ((f4.length:Int) == 40))],[[hT p15,iP p16],[tP ⟨#[]⟩,.sl [] .own,.sl [] .own,iP 0],(kT t.1),[tP t.1.S,oA f4,.sl [] .own,iP t.1.At]]⟩ (aI (olen f4 row_api_Arg) tI) ?_
                  rcases condS e3 with⟨hc2,e3⟩|⟨hc2,e3⟩
                  . refine zT (test hc2) ?_
                    obtain⟨y9,hy9,e3⟩:=bindS e3
                    rcases y9 with⟨f5,p17⟩|⟨e9,p18⟩
                    . refine wn (nos 1 (.meth (.tup []) (kP p17)::[])) ⟨[(0,.ptr 0 0),(1,iP depth),(4,.ptr 1 0),(6,.ptr 3 0)],[(kP p17),[tP ⟨#[]⟩,.sl [] .own,.sl [] .own,iP 0],(kT t.1),[tP t.1.S,oA f4,.sl [] .own,iP t.1.At]]⟩ (aI (vparse_parser_fail (parse_parser.mk p15 p16) 2 (.ok f5 p17) hy9) tI) ?_
                      obtain⟨y10,hy10,e3⟩:=bindS e3
                      rcases y10 with⟨a_,p19⟩|⟨e10,p20⟩
                      . obtain⟨l2,hl2,e3⟩:=bindS e3
                        have fb1:([(kA a_)]:List (List PV))=l2.map row_api_Arg:=by rw [<- Option.some.inj hl2];simp only [List.map_cons,List.map_nil,row_api_Arg_eq]
                        obtain⟨l3,hl3,e3⟩:=bindS e3
                        refine wqD [0] [0,1,2,3,4,5,6,7] (nos 3 (.meth (.agg (kA a_)) (kP p19)::(.val (oA l2)::(.val (oA l3)::(nos 2 []))))) ⟨[(0,.ptr 0 0),(1,iP depth),(4,.ptr 1 0),(6,.ptr 3 0)],[(kP p19),[tP ⟨#[]⟩,.sl [] .own,.sl [] .own,iP 0],(kT t.1),[tP t.1.S,oA l3,.sl [] .own,iP t.1.At]]⟩ (aI (vparse_parser_arg n p17 (.ok a_ p19) hy10) (aI (obuild rfl fb1) (aI (oapp hl3 row_api_Arg_len) tI))) ?_
                        exact zz (WS_again (n,(p19.l,p19.forms,l3)) rfl ⟨hn,e3⟩ (Nat.lt_succ_self _))
                      . refine zz ?_
                        cases e3
                        cases h
                        exact WS_runDP [0] [0,1,2,3,4,5,6,7] (nos 3 (.mpan (pE e10) (kP p20)::(nos 4 []))) (aI (vparse_parser_arg n p17 (.pan e10 p20) hy10) tI) (by kernel_rfl) rfl hQ
                    . refine zz ?_
                      cases e3
                      cases h
                      exact WS_runP (nos 1 (.mpan (pE e9) (kP p18)::[])) (aI (vparse_parser_fail (parse_parser.mk p15 p16) 2 (.pan e9 p18) hy9) tI) (by kernel_rfl) rfl hQ
                  . refine zF (test hc2) ?_
                    obtain⟨y11,hy11,e3⟩:=bindS e3
                    rcases y11 with⟨a_1,p21⟩|⟨e11,p22⟩
                    . obtain⟨l4,hl4,e3⟩:=bindS e3
                      have fb2:([(kA a_1)]:List (List PV))=l4.map row_api_Arg:=by rw [<- Option.some.inj hl4];simp only [List.map_cons,List.map_nil,row_api_Arg_eq]
                      obtain⟨l5,hl5,e3⟩:=bindS e3
                      refine wqD [0] [0,1,2,3,4,5,6,7] (nos 3 (.meth (.agg (kA a_1)) (kP p21)::(.val (oA l4)::(.val (oA l5)::(nos 2 []))))) ⟨[(0,.ptr 0 0),(1,iP depth),(4,.ptr 1 0),(6,.ptr 3 0)],[(kP p21),[tP ⟨#[]⟩,.sl [] .own,.sl [] .own,iP 0],(kT t.1),[tP t.1.S,oA l5,.sl [] .own,iP t.1.At]]⟩ (aI (vparse_parser_arg n (parse_parser.mk p15 p16) (.ok a_1 p21) hy11) (aI (obuild rfl fb2) (aI (oapp hl5 row_api_Arg_len) tI))) ?_
                      exact zz (WS_again (n,(p21.l,p21.forms,l5)) rfl ⟨hn,e3⟩ (Nat.lt_succ_self _))
                    . refine zz ?_
                      cases e3
                      cases h
                      exact WS_runDP [0] [0,1,2,3,4,5,6,7] (nos 3 (.mpan (pE e11) (kP p22)::(nos 4 []))) (aI (vparse_parser_arg n (parse_parser.mk p15 p16) (.pan e11 p22) hy11) tI) (by kernel_rfl) rfl hQ
                . intro hJ7
                  refine zz ?_
                  rcases condS e8 with⟨hc3,e8⟩|⟨hc3,e8⟩
                  . refine zT (test hc3) ?_
                    obtain⟨y12,hy12,e8⟩:=bindS e8
                    rcases y12 with⟨f6,p23⟩|⟨e12,p24⟩
                    . refine wq (nos 1 (.meth (.tup []) (kP p23)::[])) ⟨[(0,.ptr 0 0),(1,iP depth),(4,.ptr 1 0),(6,.ptr 3 0)],[(kP p23),[tP ⟨#[]⟩,.sl [] .own,.sl [] .own,iP 0],(kT t.1),[tP t.1.S,oA f4,.sl [] .own,iP t.1.At]]⟩ (aI (vparse_parser_fail (parse_parser.mk p13 p14) 5 (.ok f6 p23) hy12) tI) ?_
                      exact zz (WS_wk [0,1,4,6] 4 rfl (lb rfl) rfl (hJ7 (p23.l,p23.forms) (Option.some.inj e8)))
                    . refine zz ?_
                      cases e8
                      cases e3
                      cases h
                      exact WS_runP (nos 1 (.mpan (pE e12) (kP p24)::[])) (aI (vparse_parser_fail (parse_parser.mk p13 p14) 5 (.pan e12 p24) hy12) tI) (by kernel_rfl) rfl hQ
                  . refine WS_false (test hc3) ?_
                    exact zz (WS_wk [0,1,4,6] 4 rfl (lb rfl) rfl (hJ7 (p13,p14) (Option.some.inj e8)))
              . intro hJ6
                obtain⟨b,hb,e7⟩:=bindS e7
                rcases condS e7 with⟨hc4,e7⟩|⟨hc4,e7⟩
                . obtain⟨i1,hi1,e7⟩:=bindS e7
                  exact wq (nos 1 (.meth (bP b) [hT p13,iP p14]::(nos 1 (yT::(nos 1 (.meth (bP i1) [hT p13,iP p14]::(nos 2 []))))))) _ (aI (vparse_parser_begins (parse_parser.mk p13 p14) b hb) (aI (otest hc4) (aI (vparse_parser_is (parse_parser.mk p13 p14) ⟨#[45,62]⟩ i1 hi1) tI))) (hJ6 (!i1) (Option.some.inj e7))
                . exact wq (nos 1 (.meth (bP b) [hT p13,iP p14]::(nos 1 (yF::(nos 4 []))))) _ (aI (vparse_parser_begins (parse_parser.mk p13 p14) b hb) (aI (otest hc4) tI)) (hJ6 false (Option.some.inj e7))
            . refine zF (test hc5) ?_
              try refine z5 rfl ?_
              exact zz (WS_wk [0,1,4,6] 4 rfl (lb rfl) rfl (hJ3 (p13,p14,f4) (Option.some.inj e3)))
          . intro hJ5
            obtain⟨i2,hi2,e6⟩:=bindS e6
            rcases condS e6 with⟨hc6,e6⟩|⟨hc6,e6⟩
            . obtain⟨i3,hi3,e6⟩:=bindS e6
              exact wq (nos 1 (.meth (bP i2) [hT p13,iP p14]::(nos 1 (yT::(nos 1 (.meth (bP i3) [hT p13,iP p14]::(nos 2 []))))))) _ (aI (vparse_parser_is (parse_parser.mk p13 p14) ⟨#[59]⟩ i2 hi2) (aI (otest hc6) (aI (vparse_parser_is (parse_parser.mk p13 p14) ⟨#[123]⟩ i3 hi3) tI))) (hJ5 (!i3) (Option.some.inj e6))
            . exact wq (nos 1 (.meth (bP i2) [hT p13,iP p14]::(nos 1 (yF::(nos 4 []))))) _ (aI (vparse_parser_is (parse_parser.mk p13 p14) ⟨#[59]⟩ i2 hi2) (aI (otest hc6) tI)) (hJ5 false (Option.some.inj e6))
     . intro hJ2
       refine zz ?_
       rcases condS e2 with⟨hc7,e2⟩|⟨hc7,e2⟩
       . refine zT (test hc7) ?_
         obtain⟨y13,hy13,e2⟩:=bindS e2
         rcases y13 with⟨f7,p25⟩|⟨e13,p26⟩
         . refine wq (nos 1 (.meth (.tup []) (kP p25)::[])) ⟨[(0,.ptr 0 0),(1,iP depth),(4,.ptr 1 0)],[(kP p25),[tP ⟨#[]⟩,.sl [] .own,.sl [] .own,iP 0]]⟩ (aI (vparse_parser_fail (parse_parser.mk p1 (IntKind.i64.wrap (p2+1))) 2 (.ok f7 p25) hy13) tI) ?_
           exact zz (WS_wk [0,1,4] 2 rfl (lb rfl) rfl (hJ2 (p25.l,p25.forms) (Option.some.inj e2)))
         . refine zz ?_
           cases e2
           cases h
           exact WS_runP (nos 1 (.mpan (pE e13) (kP p26)::[])) (aI (vparse_parser_fail (parse_parser.mk p1 (IntKind.i64.wrap (p2+1))) 2 (.pan e13 p26) hy13) tI) (by kernel_rfl) rfl hQ
       . refine WS_false (test hc7) ?_
         exact zz (WS_wk [0,1,4] 2 rfl (lb rfl) rfl (hJ2 (p1,(IntKind.i64.wrap (p2+1))) (Option.some.inj e2)))
   . intro hJ1
     rcases condS e1 with⟨hc8,e1⟩|⟨hc8,e1⟩
     . exact wq (nos 2 (yT::(nos 6 []))) _ (aI (otest hc8) tI) (hJ1 true (Option.some.inj e1))
     . exact wq (nos 2 (yF::(nos 6 []))) _ (aI (otest hc8) tI) (hJ1 (decide (2000<(IntKind.i64.wrap (p2+1)))) (Option.some.inj e1))
 . intro hJ
   refine zz ?_
   rcases condS e with⟨hc9,e⟩|⟨hc9,e⟩
   . refine zT (test hc9) ?_
     obtain⟨y14,hy14,e⟩:=bindS e
     rcases y14 with⟨f8,p27⟩|⟨e14,p28⟩
     . refine wq (nos 1 (.meth (.tup []) (kP p27)::[])) ⟨[(0,.ptr 0 0),(1,iP depth),(4,.ptr 1 0)],[(kP p27),[tP ⟨#[]⟩,.sl [] .own,.sl [] .own,iP 0]]⟩ (aI (vparse_parser_fail p 5 (.ok f8 p27) hy14) tI) ?_
       exact zz (WS_wk [0,1,4] 2 rfl (lb rfl) rfl (hJ (p27.l,p27.forms) (Option.some.inj e)))
     . refine zz ?_
       cases e
       cases h
       exact WS_runP (nos 1 (.mpan (pE e14) (kP p28)::[])) (aI (vparse_parser_fail p 5 (.pan e14 p28) hy14) tI) (by kernel_rfl) rfl hQ
   . refine WS_false (test hc9) ?_
     exact zz (WS_wk [0,1,4] 2 rfl (lb rfl) rfl (hJ (p.l,p.forms) (Option.some.inj e)))
theorem scc_parse_parser_form:∀ n:Nat,(∀ m,m<=n->∀ (p:parse_parser) (depth:Int) (r:(Ex parse_stop parse_parser api_Form)),parse_parser_form m p depth=some r->ExM r (fun v0 s0=>VCm Tryz.prog 26 [iP depth] (kP p) (.ret (.agg (kF v0))) (kP s0)) (fun e0 s0=>VCm Tryz.prog 26 [iP depth] (kP p) (.pan (pE e0)) (kP s0)))
 |0=>(fun m hm p depth r h=>by
  obtain rfl:m=0:=by omega
  exact absurd h (by simp [parse_parser_form]))
 |n+1=>by
  have ih:=scc_parse_parser_form n
  exact fun m hm p depth r h=>by
   cases m with
   |zero=>exact absurd h (by simp [parse_parser_form])
   |succ m=>exact (match r,h with|.ok v0 s0,h=>VCm.fin (fun Q hQ=>vparse_parser_form_0 n (ih) m (by omega) p depth _ h Q hQ)|.pan e0 s0,h=>VCm.finP (fun Q hQ=>vparse_parser_form_0 n (ih) m (by omega) p depth _ h Q hQ))
theorem vparse_parser_form (n:Nat)(p:parse_parser)(depth:Int)(r:(Ex parse_stop parse_parser api_Form))(h:parse_parser_form n p depth=some r):ExM r (fun v0 s0=>VCm Tryz.prog 26 [iP depth] (kP p) (.ret (.agg (kF v0))) (kP s0)) (fun e0 s0=>VCm Tryz.prog 26 [iP depth] (kP p) (.pan (pE e0)) (kP s0)) :=
 (scc_parse_parser_form n) n (Nat.le_refl _) p depth r h
end Go.Proofs.YtgdalmleogphgaaGreatDoor
