/-
  The walks: parser: the program computes the plain functions. (Printed by lift.py.)
-/
import Derived.Test.YtgdalmleogphgaaGreatDoorU36
namespace Go.Proofs.YtgdalmleogphgaaGreatDoor
open Go.RowKit Go.Q Go.Vl Go.Sp
set_option maxRecDepth 100000
set_option linter.unusedSimpArgs false
set_option maxHeartbeats 4000000
set_option linter.unusedVariables false
theorem EU (p:Ad)(e:Int)(r:(Ex Al Ad Unit))(h:AN p e=some r)(Q:B7->List (List PV)->Prop)(hQ:G7 r (fun v0 s0=>∀ y,shareP y=.tup []->Q (.ret y) [(kP s0)]) (fun e0 s0=>Q (.pan (pE e0)) [(kP s0)])) :
 VC Tryz.prog 45 (.ptr 0 0::[iP e]) [(kP p)] Q:=by
 unfold AN at h
 refine VC.intro ⟨[0,1],[]⟩ Tryz.func45 rfl follows Yg (by rw [Tryz.ntmps45];exact lb rfl) ?_
 refine B4 ?_
 refine zz ?_
 obtain⟨x,hx,h⟩:=Ae h
 refine zz ?_
 cases h
 exact BX (Ai 4 (.val (.vptr (kT x) 0)::(Ai 6 []))) (aI (oi hx Ba (Br x)) tI) (by kernel_rfl) rfl hQ
theorem AB (p:Ad)(e:Int)(r:(Ex Al Ad Unit))(h:AN p e=some r):G7 r (fun v0 s0=>CA Tryz.prog 45 [iP e] (kP p) (.ret (.tup [])) (kP s0)) (fun e0 s0=>CA Tryz.prog 45 [iP e] (kP p) (.pan (pE e0)) (kP s0)):=(match r,h with|.ok v0 s0,h=>CA.fin (fun Q hQ=>EU p e _ h Q hQ)|.pan e0 s0,h=>CA.finP (fun Q hQ=>EU p e _ h Q hQ))
theorem HK (p:Ad)(r:(Ab×Ad))(h:AA p=some r)(Q:B7->List (List PV)->Prop)(hQ:∀ y,shareP y=.agg (kT r.1)->Q (.ret y) [(kP r.2)]) :
 VC Tryz.prog 46 (.ptr 0 0::[]) [(kP p)] Q:=by
 unfold AA at h
 refine VC.intro ⟨[0,2,3],[]⟩ Tryz.func46 rfl follows Yf (by rw [Tryz.ntmps46];exact lb rfl) ?_
 refine B4 ?_
 refine zz ?_
 refine wn (Ai 1 []) ⟨[(0,.ptr 0 0),(2,.ptr 1 0)],[(kP p),[iP 0,iP 0,tP ⟨#[]⟩,iP 0]]⟩ tI ?_
 obtain⟨x,hx,h⟩:=Ae h
 refine wn (Ai 4 (.val (.vptr (kT x) 0)::(Ai 3 []))) ⟨[(0,.ptr 0 0),(2,.ptr 1 0),(3,.ptr 2 0)],[(kP p),[iP 0,iP 0,tP ⟨#[]⟩,iP 0],(kT x)]⟩ (aI (oi hx Ba (Br x)) tI) ?_
 obtain⟨l,hl,h⟩:=Ae h
 refine wn (Ai 5 (.val (hT l)::(Ai 3 []))) ⟨[(2,.ptr 1 0),(3,.ptr 2 0)],[[hT l,iP p.forms],[iP 0,iP 0,tP ⟨#[]⟩,iP 0],(kT x)]⟩ (aI (XG hl Ba) tI) ?_
 refine wn (Ai 2 []) ⟨[(2,.ptr 1 0)],[[hT l,iP p.forms],(kT x),(kT x)]⟩ tI ?_
 cases h
 exact rt hQ
theorem AY (p:Ad)(r:(Ab×Ad))(h:AA p=some r):CA Tryz.prog 46 [] (kP p) (.ret (.agg (kT r.1))) (kP r.2):=CA.fin (fun Q hQ=>HK p _ h Q hQ)
theorem IW (p:Ad)(s:ByteArray)(r:Bool)(h:AP p s=some r)(Q:B7->List (List PV)->Prop)(hQ:∀ y,shareP y=bP r->Q (.ret y) [(kP p)]) :
 VC Tryz.prog 47 (.ptr 0 0::[tP s]) [(kP p)] Q:=by
 unfold AP at h
 refine VC.intro ⟨[0,1,4],[]⟩ Tryz.func47 rfl follows Ye (by rw [Tryz.ntmps47];exact lb rfl) ?_
 refine B4 ?_
 refine zz ?_
 refine wn (Ai 1 []) ⟨[(0,.ptr 0 0),(1,tP s),(4,bP false)],[(kP p)]⟩ tI ?_
 obtain⟨y,e,h⟩:=Ae h
 refine AJ (A:=Bool) (fun v=>v=y) (fun v4=>⟨[(4,bP v4)],[(kP p)]⟩) ?_ ?_
 . rintro v4 rfl
   show WS _ _ _ _ _ ⟨[(4,bP v4)],[(kP p)]⟩
   refine zz ?_
   cases h
   exact rt hQ
 . intro hJ
   obtain⟨x,hx,e⟩:=Ae e
   rcases Ak e with⟨hc,e⟩|⟨hc,e⟩
   . exact wq (Ai 4 (.val (.vptr (kT x) 0)::(Ai 3 (yT::(Ai 4 (.val (.vptr (kT x) 0)::(Ai 6 []))))))) _ (aI (oi hx Ba (Br x)) (aI (Aw hc) (aI (oi hx Ba (Br x)) tI))) (hJ (decide (x.S=s)) (Ac e))
   . exact wq (Ai 4 (.val (.vptr (kT x) 0)::(Ai 3 (yF::(Ai 11 []))))) _ (aI (oi hx Ba (Br x)) (aI (Aw hc) tI)) (hJ false (Ac e))
theorem Bi (p:Ad)(s:ByteArray)(r:Bool)(h:AP p s=some r):CA Tryz.prog 47 [tP s] (kP p) (.ret (bP r)) (kP p):=CA.fin (fun Q hQ=>IW p s _ h Q hQ)
theorem GZ (p:Ad)(r:Bool)(h:BA p=some r)(Q:B7->List (List PV)->Prop)(hQ:∀ y,shareP y=bP r->Q (.ret y) [(kP p)]) :
 VC Tryz.prog 48 (.ptr 0 0::[]) [(kP p)] Q:=by
 unfold BA at h
 refine VC.intro ⟨[0,2,9,10],[]⟩ Tryz.func48 rfl follows Yd (by rw [Tryz.ntmps48];exact lb rfl) ?_
 refine B4 ?_
 refine zz ?_
 refine wn (Ai 1 []) ⟨[(0,.ptr 0 0),(2,bP false)],[(kP p)]⟩ tI ?_
 obtain⟨x,hx,h⟩:=Ae h
 refine wn (Ai 4 (.val (.vptr (kT x) 0)::(Ai 2 []))) ⟨[(0,.ptr 0 0),(2,bP false),(9,iP x.Kind)],[(kP p)]⟩ (aI (oi hx Ba (Br x)) tI) ?_
 refine zB ?_
 refine wn (Ai 2 []) ⟨[(0,.ptr 0 0),(2,bP false),(9,iP x.Kind),(10,bP (x.Kind == 1))],[(kP p)]⟩ tI ?_
 obtain⟨y,e,h⟩:=Ae h
 refine AJ (A:=Bool) (fun v=>v=y) (fun v10=>⟨[(0,.ptr 0 0),(2,bP false),(10,bP v10)],[(kP p)]⟩) ?_ ?_
 . rintro v10 rfl
   show WS _ _ _ _ _ ⟨[(0,.ptr 0 0),(2,bP false),(10,bP v10)],[(kP p)]⟩
   refine zz ?_
   rcases Ak h with⟨hc1,h⟩|⟨hc1,h⟩
   . refine zT (test hc1) ?_
     refine wn (Ai 1 []) ⟨[(0,.ptr 0 0),(2,bP true)],[(kP p)]⟩ tI ?_
     cases h
     exact rt hQ
   . refine zF (test hc1) ?_
     obtain⟨y1,e1,h⟩:=Ae h
     refine AJ (A:=Bool) (fun v=>v=y1) (fun v2=>⟨[(2,bP v2)],[(kP p)]⟩) ?_ ?_
     . rintro v2 rfl
       show WS _ _ _ _ _ ⟨[(2,bP v2)],[(kP p)]⟩
       refine zz ?_
       cases h
       exact rt hQ
     . intro hJ1
       obtain⟨i,hi,e1⟩:=Ae e1
       rcases Ak e1 with⟨hc,e1⟩|⟨hc,e1⟩
       . exact wq (Ai 1 (.meth (bP i) (kP p)::(yT::(Ai 4 [])))) _ (aI (Bi p ⟨#[40]⟩ i hi) (aI (Aw hc) tI)) (hJ1 true (Ac e1))
       . obtain⟨i1,hi1,e1⟩:=Ae e1
         exact wq (Ai 1 (.meth (bP i) (kP p)::(yF::(Ai 1 (.meth (bP i1) (kP p)::(Ai 2 [])))))) _ (aI (Bi p ⟨#[40]⟩ i hi) (aI (Aw hc) (aI (Bi p ⟨#[45]⟩ i1 hi1) tI))) (hJ1 i1 (Ac e1))
 . intro hJ
   refine zz ?_
   rcases Ak e with⟨hc3,e⟩|⟨hc3,e⟩
   . refine Ap (test hc3) ?_
     exact zz (BN [0,2,10] 1 rfl (lb rfl) rfl (hJ (x.Kind == 1) (Ac e)))
   . refine zF (test hc3) ?_
     refine wn (Ai 2 []) ⟨[(0,.ptr 0 0),(2,bP false),(9,iP x.Kind),(10,bP (x.Kind == 2))],[(kP p)]⟩ tI ?_
     rcases Ak e with⟨hc2,e⟩|⟨hc2,e⟩
     . refine Ap (test hc2) ?_
       exact zz (BN [0,2,10] 1 rfl (lb rfl) rfl (hJ (x.Kind == 2) (Ac e)))
     . refine zF (test hc2) ?_
       refine wq (Ai 2 []) ⟨[(0,.ptr 0 0),(2,bP false),(10,bP (x.Kind == 3))],[(kP p)]⟩ tI ?_
       exact zz (BN [0,2,10] 1 rfl (lb rfl) rfl (hJ (x.Kind == 3) (Ac e)))
theorem Cy (p:Ad)(r:Bool)(h:BA p=some r):CA Tryz.prog 48 [] (kP p) (.ret (bP r)) (kP p):=CA.fin (fun Q hQ=>GZ p _ h Q hQ)
theorem Eu (p:Ad)(r:(Ex Al Ad Int))(h:Cp p=some r)(Q:B7->List (List PV)->Prop)(hQ:G7 r (fun v0 s0=>∀ y,shareP y=iP v0->Q (.ret y) [(kP s0)]) (fun e0 s0=>Q (.pan (pE e0)) [(kP s0)])) :
 VC Tryz.prog 75 (.ptr 0 0::[]) [(kP p)] Q:=by
 unfold Cp at h
 refine VC.intro ⟨[0,2,10],[]⟩ Tryz.func75 rfl follows XO (by rw [Tryz.ntmps75];exact lb rfl) ?_
 refine B4 ?_
 refine zz ?_
 refine wn (Ai 1 []) ⟨[(0,.ptr 0 0),(2,iP 0)],[(kP p)]⟩ tI ?_
 obtain⟨x,hx,h⟩:=Ae h
 refine wn (Ai 4 (.val (.vptr (kT x) 0)::(Ai 3 []))) ⟨[(0,.ptr 0 0),(2,iP 0),(10,bP (x.Kind != 2))],[(kP p)]⟩ (aI (oi hx Ba (Br x)) tI) ?_
 rcases Ak h with⟨hc,h⟩|⟨hc,h⟩
 . refine zT (test hc) ?_
   obtain⟨y,hy,h⟩:=Ae h
   rcases y with⟨f,p1⟩|⟨e,p2⟩
   . refine wn (Ai 1 (.meth (.tup []) (kP p1)::[])) ⟨[(0,.ptr 0 0),(2,iP 0)],[(kP p1)]⟩ (aI (AB p 5 (.ok f p1) hy) tI) ?_
     obtain⟨n_,hn_,h⟩:=Ae h
     refine wn (Ai 1 (.meth (.agg (kT n_.1)) (kP n_.2)::(Ai 2 []))) ⟨[(2,iP n_.1.N)],[(kP n_.2)]⟩ (aI (AY p1 n_ hn_) tI) ?_
     cases h
     exact rt hQ
   . refine zz ?_
     cases h
     exact BX (Ai 1 (.mpan (pE e) (kP p2)::[])) (aI (AB p 5 (.pan e p2) hy) tI) (by kernel_rfl) rfl hQ
 . refine zF (test hc) ?_
   obtain⟨n_1,hn_1,h⟩:=Ae h
   refine wn (Ai 1 (.meth (.agg (kT n_1.1)) (kP n_1.2)::(Ai 2 []))) ⟨[(2,iP n_1.1.N)],[(kP n_1.2)]⟩ (aI (AY p n_1 hn_1) tI) ?_
   cases h
   exact rt hQ
theorem ER (p:Ad)(r:(Ex Al Ad Int))(h:Cp p=some r):G7 r (fun v0 s0=>CA Tryz.prog 75 [] (kP p) (.ret (iP v0)) (kP s0)) (fun e0 s0=>CA Tryz.prog 75 [] (kP p) (.pan (pE e0)) (kP s0)):=(match r,h with|.ok v0 s0,h=>CA.fin (fun Q hQ=>Eu p _ h Q hQ)|.pan e0 s0,h=>CA.finP (fun Q hQ=>Eu p _ h Q hQ))
theorem EW (p:Ad)(depth:Int)(not_:Bool)(r:(Ex Al Ad Unit))(h:BP p depth not_=some r)(Q:B7->List (List PV)->Prop)(hQ:G7 r (fun v0 s0=>∀ y,shareP y=.tup []->Q (.ret y) [(kP s0)]) (fun e0 s0=>Q (.pan (pE e0)) [(kP s0)])) :
 VC Tryz.prog 50 (.ptr 0 0::[iP depth,bP not_]) [(kP p)] Q:=by
 unfold BP at h
 refine VC.intro ⟨[0,1,2,16,20],[]⟩ Tryz.func50 rfl follows Yb (by rw [Tryz.ntmps50];exact lb rfl) ?_
 refine B4 ?_
 refine zz ?_
 obtain⟨y,e,h⟩:=Ae h
 refine AJ (A:=Bool) (fun v=>v=y) (fun v16=>⟨[(0,.ptr 0 0),(1,iP depth),(16,bP v16)],[(kP p)]⟩) ?_ ?_
 . rintro v16 rfl
   show WS _ _ _ _ _ ⟨[(0,.ptr 0 0),(1,iP depth),(16,bP v16)],[(kP p)]⟩
   refine zz ?_
   obtain⟨y1,e1,h⟩:=Ae h
   refine AJ (A:=((List Ab)×Int)) (fun v=>.inl v=y1) (fun y1=>match y1 with|(p1,p2)=>⟨[(0,.ptr 0 0),(1,iP depth)],[[hT p1,iP p2]]⟩) ?_ ?_
   . rintro⟨p1,p2⟩ rfl
     show WS _ _ _ _ _ ⟨[(0,.ptr 0 0),(1,iP depth)],[[hT p1,iP p2]]⟩
     refine zz ?_
     refine wn (Ai 2 []) ⟨[(0,.ptr 0 0),(20,bP (decide (30<depth)))],[[hT p1,iP p2]]⟩ tI ?_
     rcases Ak h with⟨hc,h⟩|⟨hc,h⟩
     . refine zT (test hc) ?_
       obtain⟨y2,hy2,h⟩:=Ae h
       rcases y2 with⟨f,p3⟩|⟨e2,p4⟩
       . refine wn (Ai 1 (.meth (.tup []) (kP p3)::[])) ⟨[],[(kP p3)]⟩ (aI (AB (Ad.mk p1 p2) 2 (.ok f p3) hy2) tI) ?_
         cases h
         exact rt hQ
       . refine zz ?_
         cases h
         exact BX (Ai 1 (.mpan (pE e2) (kP p4)::[])) (aI (AB (Ad.mk p1 p2) 2 (.pan e2 p4) hy2) tI) (by kernel_rfl) rfl hQ
     . refine zF (test hc) ?_
       cases h
       exact rt hQ
   . intro hJ1
     refine zz ?_
     rcases Ak e1 with⟨hc1,e1⟩|⟨hc1,e1⟩
     . refine zT (test hc1) ?_
       obtain⟨y3,hy3,e1⟩:=Ae e1
       rcases y3 with⟨f1,p5⟩|⟨e3,p6⟩
       . refine wq (Ai 1 (.meth (.tup []) (kP p5)::[])) ⟨[(0,.ptr 0 0),(1,iP depth)],[(kP p5)]⟩ (aI (AB p 5 (.ok f1 p5) hy3) tI) ?_
         exact zz (BN [0,1] 1 rfl (lb rfl) rfl (hJ1 (p5.l,p5.forms) (Ac e1)))
       . refine zz ?_
         cases e1
         cases h
         exact BX (Ai 1 (.mpan (pE e3) (kP p6)::[])) (aI (AB p 5 (.pan e3 p6) hy3) tI) (by kernel_rfl) rfl hQ
     . refine Aj (test hc1) ?_
       exact zz (BN [0,1] 1 rfl (lb rfl) rfl (hJ1 (p.l,p.forms) (Ac e1)))
 . intro hJ
   obtain⟨b,hb,e⟩:=Ae e
   rcases Ak e with⟨hc2,e⟩|⟨hc2,e⟩
   . rcases Ak e with⟨hc3,e⟩|⟨hc3,e⟩
     . obtain⟨i,hi,e⟩:=Ae e
       exact wq (Ai 1 (.meth (bP b) (kP p)::(Ai 1 (yT::(Ai 1 (yT::(Ai 1 (.meth (bP i) (kP p)::(Ai 3 []))))))))) _ (aI (Cy p b hb) (aI (Aw hc2) (aI (Aw hc3) (aI (Bi p ⟨#[33]⟩ i hi) tI)))) (hJ (!i) (Ac e))
     . exact wq (Ai 1 (.meth (bP b) (kP p)::(Ai 1 (yT::(Ai 1 (yF::(Ai 5 []))))))) _ (aI (Cy p b hb) (aI (Aw hc2) (aI (Aw hc3) tI))) (hJ true (Ac e))
   . exact wq (Ai 1 (.meth (bP b) (kP p)::(Ai 1 (yF::(Ai 7 []))))) _ (aI (Cy p b hb) (aI (Aw hc2) tI)) (hJ false (Ac e))
theorem Ce (p:Ad)(depth:Int)(not_:Bool)(r:(Ex Al Ad Unit))(h:BP p depth not_=some r):G7 r (fun v0 s0=>CA Tryz.prog 50 [iP depth,bP not_] (kP p) (.ret (.tup [])) (kP s0)) (fun e0 s0=>CA Tryz.prog 50 [iP depth,bP not_] (kP p) (.pan (pE e0)) (kP s0)):=(match r,h with|.ok v0 s0,h=>CA.fin (fun Q hQ=>EW p depth not_ _ h Q hQ)|.pan e0 s0,h=>CA.finP (fun Q hQ=>EW p depth not_ _ h Q hQ))
theorem ES (p:Ad)(s:ByteArray)(r:(Ex Al Ad Unit))(h:Bg p s=some r)(Q:B7->List (List PV)->Prop)(hQ:G7 r (fun v0 s0=>∀ y,shareP y=.tup []->Q (.ret y) [(kP s0)]) (fun e0 s0=>Q (.pan (pE e0)) [(kP s0)])) :
 VC Tryz.prog 52 (.ptr 0 0::[tP s]) [(kP p)] Q:=by
 unfold Bg at h
 refine VC.intro ⟨[0,1,7],[]⟩ Tryz.func52 rfl follows Ya (by rw [Tryz.ntmps52];exact lb rfl) ?_
 refine B4 ?_
 refine zz ?_
 obtain⟨i,hi,h⟩:=Ae h
 refine wn (Ai 2 (.meth (bP i) (kP p)::(Ai 1 []))) ⟨[(0,.ptr 0 0),(7,bP (!i))],[(kP p)]⟩ (aI (Bi p s i hi) tI) ?_
 rcases Ak h with⟨hc,h⟩|⟨hc,h⟩
 . refine zT (test hc) ?_
   obtain⟨y,hy,h⟩:=Ae h
   rcases y with⟨f,p1⟩|⟨e,p2⟩
   . refine wn (Ai 1 (.meth (.tup []) (kP p1)::[])) ⟨[(0,.ptr 0 0)],[(kP p1)]⟩ (aI (AB p 5 (.ok f p1) hy) tI) ?_
     obtain⟨n_,hn_,h⟩:=Ae h
     refine wn (Ai 1 (.meth (.agg (kT n_.1)) (kP n_.2)::[])) ⟨[],[(kP n_.2)]⟩ (aI (AY p1 n_ hn_) tI) ?_
     cases h
     exact rt hQ
   . refine zz ?_
     cases h
     exact BX (Ai 1 (.mpan (pE e) (kP p2)::[])) (aI (AB p 5 (.pan e p2) hy) tI) (by kernel_rfl) rfl hQ
 . refine zF (test hc) ?_
   obtain⟨n_1,hn_1,h⟩:=Ae h
   refine wn (Ai 1 (.meth (.agg (kT n_1.1)) (kP n_1.2)::[])) ⟨[],[(kP n_1.2)]⟩ (aI (AY p n_1 hn_1) tI) ?_
   cases h
   exact rt hQ
theorem Cd (p:Ad)(s:ByteArray)(r:(Ex Al Ad Unit))(h:Bg p s=some r):G7 r (fun v0 s0=>CA Tryz.prog 52 [tP s] (kP p) (.ret (.tup [])) (kP s0)) (fun e0 s0=>CA Tryz.prog 52 [tP s] (kP p) (.pan (pE e0)) (kP s0)):=(match r,h with|.ok v0 s0,h=>CA.fin (fun Q hQ=>ES p s _ h Q hQ)|.pan e0 s0,h=>CA.finP (fun Q hQ=>ES p s _ h Q hQ))
theorem FI (p:(List Ab))(p1:Int)(n_:Int)(q:Int)(q1:Int)(q2:ByteArray)(q3:(List Aa))(q4:Int)(e:Int)(e1:Int)(e2:ByteArray)(e3:(List Aa))(e4:Int)(b:Aq)(r:Bool)(h:Cc p p1 n_ q q1 q2 q3 q4 e e1 e2 e3 e4 b=some r)(Q:B7->List (List PV)->Prop)(hQ:∀ y,shareP y=bP r->Q (.ret y) [[hT p,iP p1],[.ptr 0 0],[iP n_],[iP q,iP q1,tP q2,oX q3,iP q4],[iP e,iP e1,tP e2,hX e3,iP e4]]) :
 VC Tryz.prog 77 [.agg [tP b.sign,iP b.op,iP b.level],.ptr 2 0,.ptr 1 0] [[hT p,iP p1],[.ptr 0 0],[iP n_],[iP q,iP q1,tP q2,oX q3,iP q4],[iP e,iP e1,tP e2,hX e3,iP e4]] Q:=by
 unfold Cc at h
 refine VC.intro ⟨[0,1,2,3,4],[]⟩ Tryz.func77 rfl follows XM (by rw [Tryz.ntmps77];exact lb rfl) ?_
 refine B4 ?_
 refine zz ?_
 refine wn (Ai 2 []) ⟨[(1,.ptr 2 0),(2,.ptr 1 0),(3,.ptr 5 0),(4,bP false)],[[hT p,iP p1],[.ptr 0 0],[iP n_],[iP q,iP q1,tP q2,oX q3,iP q4],[iP e,iP e1,tP e2,hX e3,iP e4],[tP b.sign,iP b.op,iP b.level]]⟩ tI ?_
 obtain⟨y,e5,h⟩:=Ae h
 refine AJ (A:=Bool) (fun v=>v=y) (fun v4=>⟨[(4,bP v4)],[[hT p,iP p1],[.ptr 0 0],[iP n_],[iP q,iP q1,tP q2,oX q3,iP q4],[iP e,iP e1,tP e2,hX e3,iP e4],[tP b.sign,iP b.op,iP b.level]]⟩) ?_ ?_
 . rintro v4 rfl
   show WS _ _ _ _ _ ⟨[(4,bP v4)],[[hT p,iP p1],[.ptr 0 0],[iP n_],[iP q,iP q1,tP q2,oX q3,iP q4],[iP e,iP e1,tP e2,hX e3,iP e4],[tP b.sign,iP b.op,iP b.level]]⟩
   refine zz ?_
   cases h
   exact rt hQ
 . intro hJ
   rcases Ak e5 with⟨hc,e5⟩|⟨hc,e5⟩
   . obtain⟨i,hi,e5⟩:=Ae e5
     exact wq (Ai 4 (yT::(Ai 3 (.meth (bP i) [hT p,iP p1]::(Ai 2 []))))) _ (aI (Aw hc) (aI (Bi (Ad.mk p p1) b.sign i hi) tI)) (hJ i (Ac e5))
   . exact wq (Ai 4 (yF::(Ai 6 []))) _ (aI (Aw hc) tI) (hJ false (Ac e5))
theorem Gz (p:(List Ab))(p1:Int)(n_:Int)(q:Int)(q1:Int)(q2:ByteArray)(q3:(List Aa))(q4:Int)(e:Int)(e1:Int)(e2:ByteArray)(e3:(List Aa))(e4:Int)(b:Aq)(r:Bool)(h:Cc p p1 n_ q q1 q2 q3 q4 e e1 e2 e3 e4 b=some r):JO Tryz.prog 77 [.agg [tP b.sign,iP b.op,iP b.level],.ptr 2 0,.ptr 1 0] [[hT p,iP p1],[.ptr 0 0],[iP n_],[iP q,iP q1,tP q2,oX q3,iP q4],[iP e,iP e1,tP e2,hX e3,iP e4]] (.ret (bP r)) [[hT p,iP p1],[.ptr 0 0],[iP n_],[iP q,iP q1,tP q2,oX q3,iP q4],[iP e,iP e1,tP e2,hX e3,iP e4]]:=JO.fin (fun Q hQ=>FI p p1 n_ q q1 q2 q3 q4 e e1 e2 e3 e4 b _ h Q hQ)
theorem Fi (n:Nat)(p:(List Ab))(p1:Int)(n_:Int)(q:Int)(q1:Int)(q2:ByteArray)(q3:(List Aa))(q4:Int)(e:Int)(e1:Int)(e2:ByteArray)(e3:(List Aa))(e4:Int)(s:(List Aq))(r:Int)(h:Cm n p p1 n_ q q1 q2 q3 q4 e e1 e2 e3 e4 s=some r)(Q:B7->List (List PV)->Prop)(hQ:∀ y,shareP y=iP r->Q (.ret y) [[hT p,iP p1],[.ptr 0 0],[iP n_],[iP q,iP q1,tP q2,oX q3,iP q4],[iP e,iP e1,tP e2,hX e3,iP e4]]) :
 VC Tryz.prog 69 [hP s Ar,.fn 77 [.ptr 2 0,.ptr 1 0]] [[hT p,iP p1],[.ptr 0 0],[iP n_],[iP q,iP q1,tP q2,oX q3,iP q4],[iP e,iP e1,tP e2,hX e3,iP e4]] Q:=by
 unfold Cm at h
 refine VC.intro ⟨[0,1,4,5,7,8,9,16],[]⟩ Tryz.func69 rfl follows Xf (by rw [Tryz.ntmps69];exact lb rfl) ?_
 refine B4 ?_
 refine zz ?_
 refine wn (Ai 1 []) ⟨[(0,hP s Ar),(1,.fn 77 [.ptr 2 0,.ptr 1 0]),(4,iP 0)],[[hT p,iP p1],[.ptr 0 0],[iP n_],[iP q,iP q1,tP q2,oX q3,iP q4],[iP e,iP e1,tP e2,hX e3,iP e4]]⟩ tI ?_
 refine wn (Ai 1 (.val (iP (s.length:Int))::(Ai 1 []))) ⟨[(0,hP s Ar),(1,.fn 77 [.ptr 2 0,.ptr 1 0]),(4,iP 0),(7,iP (s.length:Int)),(8,iP 0)],[[hT p,iP p1],[.ptr 0 0],[iP n_],[iP q,iP q1,tP q2,oX q3,iP q4],[iP e,iP e1,tP e2,hX e3,iP e4]]⟩ (aI (CV s Ar) tI) ?_
 obtain⟨y,e5,h⟩:=Ae h
 refine AJ (A:=Unit) (fun v=>.inl v=y) (fun _=>⟨[(4,iP 0)],[[hT p,iP p1],[.ptr 0 0],[iP n_],[iP q,iP q1,tP q2,oX q3,iP q4],[iP e,iP e1,tP e2,hX e3,iP e4]]⟩) ?_ ?_
 . rintro _ rfl
   show WS _ _ _ _ _ ⟨[(4,iP 0)],[[hT p,iP p1],[.ptr 0 0],[iP n_],[iP q,iP q1,tP q2,oX q3,iP q4],[iP e,iP e1,tP e2,hX e3,iP e4]]⟩
   refine zz ?_
   refine wn (Ai 1 []) ⟨[(4,iP (-1))],[[hT p,iP p1],[.ptr 0 0],[iP n_],[iP q,iP q1,tP q2,oX q3,iP q4],[iP e,iP e1,tP e2,hX e3,iP e4]]⟩ tI ?_
   cases h
   exact rt hQ
 . intro hJ
   refine zz ?_
   refine zB ?_
   refine C9 [0,1,4,7,8] 5 (fun a:Nat×Int=>Bj a.1 s p p1 n_ q q1 q2 q3 q4 e e1 e2 e3 e4 a.2=some y) (fun a=>a.1) (fun a:Nat×Int=>match a with|(_,v8)=>⟨[(0,hP s Ar),(1,.fn 77 [.ptr 2 0,.ptr 1 0]),(4,iP 0),(7,iP (s.length:Int)),(8,iP v8)],[[hT p,iP p1],[.ptr 0 0],[iP n_],[iP q,iP q1,tP q2,oX q3,iP q4],[iP e,iP e1,tP e2,hX e3,iP e4]]⟩) (n,0) (lb rfl) rfl e5 ?_
   clear e5
   rintro⟨n,v8⟩ e5
   show WS _ _ _ _ _ ⟨[(0,hP s Ar),(1,.fn 77 [.ptr 2 0,.ptr 1 0]),(4,iP 0),(7,iP (s.length:Int)),(8,iP v8)],[[hT p,iP p1],[.ptr 0 0],[iP n_],[iP q,iP q1,tP q2,oX q3,iP q4],[iP e,iP e1,tP e2,hX e3,iP e4]]⟩
   cases n with
   |zero=>exact absurd e5 (by simp [Bj])
   |succ n =>
    replace e5:=(Bj.eq_2 (n:=n) _ _ _ _ _ _ _ _ _ _ _ _ _ _ _).symm.trans e5
    refine zz ?_
    refine wn (Ai 1 []) ⟨[(0,hP s Ar),(1,.fn 77 [.ptr 2 0,.ptr 1 0]),(4,iP 0),(7,iP (s.length:Int)),(8,iP v8),(9,bP (decide (v8<(s.length:Int))))],[[hT p,iP p1],[.ptr 0 0],[iP n_],[iP q,iP q1,tP q2,oX q3,iP q4],[iP e,iP e1,tP e2,hX e3,iP e4]]⟩ tI ?_
    rcases Ak e5 with⟨hc1,e5⟩|⟨hc1,e5⟩
    . refine zT (test hc1) ?_
      refine zB ?_
      refine wn (Ai 2 []) ⟨[(0,hP s Ar),(1,.fn 77 [.ptr 2 0,.ptr 1 0]),(4,iP 0),(5,iP v8),(7,iP (s.length:Int)),(8,iP v8)],[[hT p,iP p1],[.ptr 0 0],[iP n_],[iP q,iP q1,tP q2,oX q3,iP q4],[iP e,iP e1,tP e2,hX e3,iP e4]]⟩ tI ?_
      obtain⟨x,hx,e5⟩:=Ae e5
      obtain⟨l,hl,e5⟩:=Ae e5
      refine wn (Ai 3 (.val (.vptr [tP x.sign,iP x.op,iP x.level] 0)::(Ai 1 (.site (bP l) [[hT p,iP p1],[.ptr 0 0],[iP n_],[iP q,iP q1,tP q2,oX q3,iP q4],[iP e,iP e1,tP e2,hX e3,iP e4]]::[])))) ⟨[(0,hP s Ar),(1,.fn 77 [.ptr 2 0,.ptr 1 0]),(4,iP 0),(5,iP v8),(7,iP (s.length:Int)),(8,iP v8),(16,bP l)],[[hT p,iP p1],[.ptr 0 0],[iP n_],[iP q,iP q1,tP q2,oX q3,iP q4],[iP e,iP e1,tP e2,hX e3,iP e4]]⟩ (aI (oi hx Cz (Cn x)) (aI (Gz p p1 n_ q q1 q2 q3 q4 e e1 e2 e3 e4 x l hl) tI)) ?_
      rcases Ak e5 with⟨hc,e5⟩|⟨hc,e5⟩
      . refine zT (test hc) ?_
        refine wn (Ai 2 []) ⟨[(0,hP s Ar),(1,.fn 77 [.ptr 2 0,.ptr 1 0]),(4,iP v8),(7,iP (s.length:Int)),(8,iP v8)],[[hT p,iP p1],[.ptr 0 0],[iP n_],[iP q,iP q1,tP q2,oX q3,iP q4],[iP e,iP e1,tP e2,hX e3,iP e4]]⟩ tI ?_
        cases e5
        cases h
        exact rt hQ
      . refine zF (test hc) ?_
        refine wq (Ai 2 []) ⟨[(0,hP s Ar),(1,.fn 77 [.ptr 2 0,.ptr 1 0]),(4,iP 0),(7,iP (s.length:Int)),(8,iP (IntKind.i64.wrap (v8+1)))],[[hT p,iP p1],[.ptr 0 0],[iP n_],[iP q,iP q1,tP q2,oX q3,iP q4],[iP e,iP e1,tP e2,hX e3,iP e4]]⟩ tI ?_
        exact zz (AQ (n,(IntKind.i64.wrap (v8+1))) rfl e5 (Nat.lt_succ_self _))
    . refine zF (test hc1) ?_
      try refine z5 rfl ?_
      exact zz (BN [4] 5 rfl (lb rfl) rfl (hJ () (Ac e5)))
theorem FF (n:Nat)(p:(List Ab))(p1:Int)(n_:Int)(q:Int)(q1:Int)(q2:ByteArray)(q3:(List Aa))(q4:Int)(e:Int)(e1:Int)(e2:ByteArray)(e3:(List Aa))(e4:Int)(s:(List Aq))(r:Int)(h:Cm n p p1 n_ q q1 q2 q3 q4 e e1 e2 e3 e4 s=some r):JO Tryz.prog 69 [hP s Ar,.fn 77 [.ptr 2 0,.ptr 1 0]] [[hT p,iP p1],[.ptr 0 0],[iP n_],[iP q,iP q1,tP q2,oX q3,iP q4],[iP e,iP e1,tP e2,hX e3,iP e4]] (.ret (iP r)) [[hT p,iP p1],[.ptr 0 0],[iP n_],[iP q,iP q1,tP q2,oX q3,iP q4],[iP e,iP e1,tP e2,hX e3,iP e4]]:=JO.fin (fun Q hQ=>Fi n p p1 n_ q q1 q2 q3 q4 e e1 e2 e3 e4 s _ h Q hQ)
theorem HE:AM [(8,[9999,1,0,0,1,2,3,4,5,6,7,8,9,10])] Tryz.f28.ntmps (Tryz.f28.body.getD .skip)=true:=by kernel_rfl
theorem EV (n0:Nat)
 (ih_parse_parser_expr:∀ m,m<=n0->∀ (p:Ad) (depth:Int) (r:(Ex Al Ad Aa)),Ax m p depth=some r->G7 r (fun v0 s0=>CA Tryz.prog 28 [iP depth] (kP p) (.ret (.agg (kX v0))) (kP s0)) (fun e0 s0=>CA Tryz.prog 28 [iP depth] (kP p) (.pan (pE e0)) (kP s0)))
 (ih_parse_parser_level:∀ m,m<=n0->∀ (p:Ad) (n_:Int) (depth:Int) (r:(Ex Al Ad Aa)),A5 m p n_ depth=some r->G7 r (fun v0 s0=>CA Tryz.prog 51 [iP n_,iP depth] (kP p) (.ret (.agg (kX v0))) (kP s0)) (fun e0 s0=>CA Tryz.prog 51 [iP n_,iP depth] (kP p) (.pan (pE e0)) (kP s0)))
 (ih_parse_parser_neg:∀ m,m<=n0->∀ (p:Ad) (depth:Int) (r:(Ex Al Ad Aa)),Bc m p depth=some r->G7 r (fun v0 s0=>CA Tryz.prog 76 [iP depth] (kP p) (.ret (.agg (kX v0))) (kP s0)) (fun e0 s0=>CA Tryz.prog 76 [iP depth] (kP p) (.pan (pE e0)) (kP s0)))
 (ih_parse_parser_atom:∀ m,m<=n0->∀ (p:Ad) (depth:Int) (r:(Ex Al Ad Aa)),Bb m p depth=some r->G7 r (fun v0 s0=>CA Tryz.prog 101 [iP depth] (kP p) (.ret (.agg (kX v0))) (kP s0)) (fun e0 s0=>CA Tryz.prog 101 [iP depth] (kP p) (.pan (pE e0)) (kP s0)))
 (n:Nat) (hn:n<=n0) (p:Ad) (depth:Int) (r:(Ex Al Ad Aa)) (h:Ax (n+1) p depth=some r) (Q:B7->List (List PV)->Prop) (hQ:G7 r (fun v0 s0=>∀ y,shareP y=.agg (kX v0)->Q (.ret y) [(kP s0)]) (fun e0 s0=>Q (.pan (pE e0)) [(kP s0)])) :
 VC Tryz.prog 28 (.ptr 0 0::[iP depth]) [(kP p)] Q:=by
 replace h:=(Ax.eq_2 (n:=n) _ _).symm.trans h
 refine VC.intro ⟨[0,1,4,5,6,15],[(8,[9999,1,0,0,1,2,3,4,5,6,7,8,9,10])]⟩ Tryz.func28 rfl follows HE (by rw [Tryz.ntmps28];exact lb rfl) ?_
 refine B4 ?_
 refine zz ?_
 refine wn (Ai 1 []) ⟨[(0,.ptr 0 0),(1,iP depth),(4,.ptr 1 0)],[(kP p),[iP 0,iP 0,tP ⟨#[]⟩,.sl [] .own,iP 0]]⟩ tI ?_
 obtain⟨y,hy,h⟩:=Ae h
 rcases y with⟨d,p1⟩|⟨e,p2⟩
 . refine wn (Ai 2 (.meth (.tup []) (kP p1)::[])) ⟨[(0,.ptr 0 0),(1,iP depth),(4,.ptr 1 0)],[(kP p1),[iP 0,iP 0,tP ⟨#[]⟩,.sl [] .own,iP 0]]⟩ (aI (Ce p depth true (.ok d p1) hy) tI) ?_
   obtain⟨y1,hy1,h⟩:=Ae h
   rcases y1 with⟨e1,p3⟩|⟨e2,p4⟩
   . refine wn (Ai 2 (.meth (.agg (kX e1)) (kP p3)::(Ai 2 []))) ⟨[(0,.ptr 0 0),(1,iP depth),(4,.ptr 1 0),(5,.ptr 2 0)],[(kP p3),[iP 0,iP 0,tP ⟨#[]⟩,.sl [] .own,iP 0],(kX e1)]⟩ (aI (ih_parse_parser_level n hn p1 1 depth (.ok e1 p3) hy1) tI) ?_
     obtain⟨i,hi,h⟩:=Ae h
     refine wn (Ai 1 (.meth (bP i) (kP p3)::(Ai 1 []))) ⟨[(0,.ptr 0 0),(1,iP depth),(4,.ptr 1 0),(5,.ptr 2 0),(15,bP (!i))],[(kP p3),[iP 0,iP 0,tP ⟨#[]⟩,.sl [] .own,iP 0],(kX e1)]⟩ (aI (Bi p3 ⟨#[63]⟩ i hi) tI) ?_
     rcases Ak h with⟨hc,h⟩|⟨hc,h⟩
     . refine zT (test hc) ?_
       refine wn (Ai 2 []) ⟨[(0,.ptr 0 0),(1,iP depth),(4,.ptr 1 0),(5,.ptr 2 0)],[(kP p3),(kX e1),(kX e1)]⟩ tI ?_
       cases h
       exact rt hQ
     . refine zF (test hc) ?_
       obtain⟨n_,hn_,h⟩:=Ae h
       refine wn (Ai 1 (.meth (.agg (kT n_.1)) (kP n_.2)::[])) ⟨[(0,.ptr 0 0),(1,iP depth),(4,.ptr 1 0),(5,.ptr 2 0)],[(kP n_.2),[iP 0,iP 0,tP ⟨#[]⟩,.sl [] .own,iP 0],(kX e1)]⟩ (aI (AY p3 n_ hn_) tI) ?_
       obtain⟨y2,hy2,h⟩:=Ae h
       rcases y2 with⟨a_,p5⟩|⟨e3,p6⟩
       . refine wn (Ai 3 (.meth (.agg (kX a_)) (kP p5)::(Ai 2 []))) ⟨[(0,.ptr 0 0),(1,iP depth),(4,.ptr 1 0),(5,.ptr 2 0),(6,.ptr 3 0)],[(kP p5),[iP 0,iP 0,tP ⟨#[]⟩,.sl [] .own,iP 0],(kX e1),(kX a_)]⟩ (aI (ih_parse_parser_expr n hn n_.2 (IntKind.i64.wrap (depth+1)) (.ok a_ p5) hy2) tI) ?_
         obtain⟨y3,hy3,h⟩:=Ae h
         rcases y3 with⟨n_1,p7⟩|⟨e4,p8⟩
         . refine wn (Ai 1 (.meth (.tup []) (kP p7)::[])) ⟨[(0,.ptr 0 0),(1,iP depth),(4,.ptr 1 0),(5,.ptr 2 0),(6,.ptr 3 0)],[(kP p7),[iP 0,iP 0,tP ⟨#[]⟩,.sl [] .own,iP 0],(kX e1),(kX a_)]⟩ (aI (Cd p5 ⟨#[58]⟩ (.ok n_1 p7) hy3) tI) ?_
           obtain⟨y4,hy4,h⟩:=Ae h
           rcases y4 with⟨e5,p9⟩|⟨e6,p10⟩
           . obtain⟨l,hl,h⟩:=Ae h
             have fb:([(kX e1),(kX a_),(kX e5)]:List (List PV))=l.map AH:=by rw [<- Ac hl];simp only [List.map_cons,List.map_nil,AE]
             refine Rt [0] [0,1,2,3,4,5,6,7,8,9,10] (Ai 7 (.meth (.agg (kX e5)) (kP p9)::(.val (oX l)::(Ai 2 [])))) ⟨[(4,.ptr 1 0)],[(kP p9),[iP 20,iP 0,tP ⟨#[]⟩,hX l,iP e1.At],(kX e1),(kX a_)]⟩ (aI (ih_parse_parser_expr n hn p7 (IntKind.i64.wrap (depth+1)) (.ok e5 p9) hy4) (aI (Cb rfl fb) tI)) ?_
             refine zz ?_
             cases h
             exact rt hQ
           . refine zz ?_
             cases h
             exact FZ [0] [0,1,2,3,4,5,6,7,8,9,10] (Ai 7 (.mpan (pE e6) (kP p10)::(Ai 3 []))) (aI (ih_parse_parser_expr n hn p7 (IntKind.i64.wrap (depth+1)) (.pan e6 p10) hy4) tI) (by kernel_rfl) rfl hQ
         . refine zz ?_
           cases h
           exact BX (Ai 1 (.mpan (pE e4) (kP p8)::[])) (aI (Cd p5 ⟨#[58]⟩ (.pan e4 p8) hy3) tI) (by kernel_rfl) rfl hQ
       . refine zz ?_
         cases h
         exact BX (Ai 3 (.mpan (pE e3) (kP p6)::(Ai 2 []))) (aI (ih_parse_parser_expr n hn n_.2 (IntKind.i64.wrap (depth+1)) (.pan e3 p6) hy2) tI) (by kernel_rfl) rfl hQ
   . refine zz ?_
     cases h
     exact BX (Ai 2 (.mpan (pE e2) (kP p4)::(Ai 2 []))) (aI (ih_parse_parser_level n hn p1 1 depth (.pan e2 p4) hy1) tI) (by kernel_rfl) rfl hQ
 . refine zz ?_
   cases h
   exact BX (Ai 2 (.mpan (pE e) (kP p2)::[])) (aI (Ce p depth true (.pan e p2) hy) tI) (by kernel_rfl) rfl hQ
theorem Hi:AM [(14,[9999,1,0,1,5,6,7,8,9,10,11,0,2,3,4,12,13,14,15])] Tryz.f51.ntmps (Tryz.f51.body.getD .skip)=true:=by kernel_rfl
theorem E8 (n0:Nat)
 (ih_parse_parser_expr:∀ m,m<=n0->∀ (p:Ad) (depth:Int) (r:(Ex Al Ad Aa)),Ax m p depth=some r->G7 r (fun v0 s0=>CA Tryz.prog 28 [iP depth] (kP p) (.ret (.agg (kX v0))) (kP s0)) (fun e0 s0=>CA Tryz.prog 28 [iP depth] (kP p) (.pan (pE e0)) (kP s0)))
 (ih_parse_parser_level:∀ m,m<=n0->∀ (p:Ad) (n_:Int) (depth:Int) (r:(Ex Al Ad Aa)),A5 m p n_ depth=some r->G7 r (fun v0 s0=>CA Tryz.prog 51 [iP n_,iP depth] (kP p) (.ret (.agg (kX v0))) (kP s0)) (fun e0 s0=>CA Tryz.prog 51 [iP n_,iP depth] (kP p) (.pan (pE e0)) (kP s0)))
 (ih_parse_parser_neg:∀ m,m<=n0->∀ (p:Ad) (depth:Int) (r:(Ex Al Ad Aa)),Bc m p depth=some r->G7 r (fun v0 s0=>CA Tryz.prog 76 [iP depth] (kP p) (.ret (.agg (kX v0))) (kP s0)) (fun e0 s0=>CA Tryz.prog 76 [iP depth] (kP p) (.pan (pE e0)) (kP s0)))
 (ih_parse_parser_atom:∀ m,m<=n0->∀ (p:Ad) (depth:Int) (r:(Ex Al Ad Aa)),Bb m p depth=some r->G7 r (fun v0 s0=>CA Tryz.prog 101 [iP depth] (kP p) (.ret (.agg (kX v0))) (kP s0)) (fun e0 s0=>CA Tryz.prog 101 [iP depth] (kP p) (.pan (pE e0)) (kP s0)))
 (n:Nat) (hn:n<=n0) (p:Ad) (n_:Int) (depth:Int) (r:(Ex Al Ad Aa)) (h:A5 (n+1) p n_ depth=some r) (Q:B7->List (List PV)->Prop) (hQ:G7 r (fun v0 s0=>∀ y,shareP y=.agg (kX v0)->Q (.ret y) [(kP s0)]) (fun e0 s0=>Q (.pan (pE e0)) [(kP s0)])) :
 VC Tryz.prog 51 (.ptr 0 0::[iP n_,iP depth]) [(kP p)] Q:=by
 replace h:=(A5.eq_2 (n:=n) _ _ _).symm.trans h
 refine VC.intro ⟨[0,1,2,3,4,6,7,8,9,11,13,31,44,64],[(14,[9999,1,0,1,5,6,7,8,9,10,11,0,2,3,4,12,13,14,15])]⟩ Tryz.func51 rfl follows Hi (by rw [Tryz.ntmps51];exact lb rfl) ?_
 refine B4 ?_
 refine zz ?_
 refine wn (Ai 3 []) ⟨[(2,iP depth),(3,.ptr 1 0),(4,.ptr 2 0),(6,.ptr 3 0)],[(kP p),[.ptr 0 0],[iP n_],[iP 0,iP 0,tP ⟨#[]⟩,.sl [] .own,iP 0]]⟩ tI ?_
 refine wn (Ai 2 []) ⟨[(2,iP depth),(3,.ptr 1 0),(4,.ptr 2 0),(6,.ptr 3 0),(11,bP (n_ == 3))],[(kP p),[.ptr 0 0],[iP n_],[iP 0,iP 0,tP ⟨#[]⟩,.sl [] .own,iP 0]]⟩ tI ?_
 obtain⟨y,e,h⟩:=Ae h
 refine AJ (A:=Int) (fun v=>.inl v=y) (fun n_1=>⟨[(2,iP depth),(3,.ptr 1 0),(4,.ptr 2 0),(6,.ptr 3 0)],[(kP p),[.ptr 0 0],[iP n_1],[iP 0,iP 0,tP ⟨#[]⟩,.sl [] .own,iP 0]]⟩) ?_ ?_
 . rintro n_1 rfl
   show WS _ _ _ _ _ ⟨[(2,iP depth),(3,.ptr 1 0),(4,.ptr 2 0),(6,.ptr 3 0)],[(kP p),[.ptr 0 0],[iP n_1],[iP 0,iP 0,tP ⟨#[]⟩,.sl [] .own,iP 0]]⟩
   refine zz ?_
   refine wn (Ai 2 []) ⟨[(2,iP depth),(3,.ptr 1 0),(4,.ptr 2 0),(6,.ptr 3 0),(31,bP (n_1 == 7))],[(kP p),[.ptr 0 0],[iP n_1],[iP 0,iP 0,tP ⟨#[]⟩,.sl [] .own,iP 0]]⟩ tI ?_
   rcases Ak h with⟨hc2,h⟩|⟨hc2,h⟩
   . refine zT (test hc2) ?_
     obtain⟨y1,hy1,h⟩:=Ae h
     rcases y1 with⟨n_2,p1⟩|⟨e1,p2⟩
     . refine wn (Ai 2 (.meth (.agg (kX n_2)) (kP p1)::(Ai 1 []))) ⟨[(2,iP depth),(3,.ptr 1 0),(4,.ptr 2 0),(6,.ptr 3 0)],[(kP p1),[.ptr 0 0],[iP n_1],(kX n_2)]⟩ (aI (ih_parse_parser_neg n hn p depth (.ok n_2 p1) hy1) tI) ?_
       cases h
       exact rt hQ
     . refine zz ?_
       cases h
       exact BX (Ai 2 (.mpan (pE e1) (kP p2)::(Ai 1 []))) (aI (ih_parse_parser_neg n hn p depth (.pan e1 p2) hy1) tI) (by kernel_rfl) rfl hQ
   . refine zF (test hc2) ?_
     obtain⟨y2,hy2,h⟩:=Ae h
     rcases y2 with⟨e2,p3⟩|⟨e3,p4⟩
     . refine wn (Ai 4 (.meth (.agg (kX e2)) (kP p3)::(Ai 2 []))) ⟨[(2,iP depth),(3,.ptr 1 0),(4,.ptr 2 0),(6,.ptr 3 0),(8,.ptr 4 0)],[(kP p3),[.ptr 0 0],[iP n_1],[iP 0,iP 0,tP ⟨#[]⟩,.sl [] .own,iP 0],(kX e2)]⟩ (aI (ih_parse_parser_level n hn p (IntKind.i64.wrap (n_1+1)) depth (.ok e2 p3) hy2) tI) ?_
       refine zB ?_
       refine C9 [2,3,4,6,8] 5 (fun a:Nat×((List Ab)×Int×Int×Int×ByteArray×(List Aa))=>a.1<=n0/\Bd a.1 n_1 e2 depth a.2.1 a.2.2.1 a.2.2.2.1 a.2.2.2.2.1 a.2.2.2.2.2.1 a.2.2.2.2.2.2=some r) (fun a=>a.1) (fun a:Nat×((List Ab)×Int×Int×Int×ByteArray×(List Aa))=>match a with|(_,(p5,p6,e4,e5,e6,e7))=>⟨[(2,iP depth),(3,.ptr 1 0),(4,.ptr 2 0),(6,.ptr 3 0),(8,.ptr 4 0)],[[hT p5,iP p6],[.ptr 0 0],[iP n_1],[iP 0,iP 0,tP ⟨#[]⟩,.sl [] .own,iP 0],[iP e4,iP e5,tP e6,hX e7,iP e2.At]]⟩) (n,(p3.l,p3.forms,e2.Op,e2.N,e2.S,e2.Kids)) (lb rfl) rfl ⟨hn,h⟩ ?_
       clear h hn
       rintro⟨n,p5,p6,e4,e5,e6,e7⟩ ⟨hn,h⟩
       show WS _ _ _ _ _ ⟨[(2,iP depth),(3,.ptr 1 0),(4,.ptr 2 0),(6,.ptr 3 0),(8,.ptr 4 0)],[[hT p5,iP p6],[.ptr 0 0],[iP n_1],[iP 0,iP 0,tP ⟨#[]⟩,.sl [] .own,iP 0],[iP e4,iP e5,tP e6,hX e7,iP e2.At]]⟩
       cases n with
       |zero=>exact absurd h (by simp [Bd])
       |succ n =>
        replace h:=(Bd.eq_2 (n:=n) _ _ _ _ _ _ _ _ _).symm.trans h
        replace hn:n<=n0:=by omega
        refine zz ?_
        refine zB ?_
        obtain⟨o_,ho_,h⟩:=Ae h
        obtain⟨k,hk,h⟩:=Ae h
        refine wn (.call (oP o_ Ar)::(Ai 1 (.site (iP k) [[hT p5,iP p6],[.ptr 0 0],[iP n_1],[iP 0,iP 0,tP ⟨#[]⟩,.sl [] .own,iP 0],[iP e4,iP e5,tP e6,hX e7,iP e2.At]]::(Ai 1 [])))) ⟨[(2,iP depth),(3,.ptr 1 0),(4,.ptr 2 0),(6,.ptr 3 0),(8,.ptr 4 0),(9,iP k)],[[hT p5,iP p6],[.ptr 0 0],[iP n_1],[iP 0,iP 0,tP ⟨#[]⟩,.sl [] .own,iP 0],[iP e4,iP e5,tP e6,hX e7,iP e2.At]]⟩ (aI (CY o_ ho_) (aI (FF n p5 p6 n_1 0 0 ⟨#[]⟩ [] 0 e4 e5 e6 e7 e2.At o_ k hk) tI)) ?_
        refine wn (Ai 2 []) ⟨[(2,iP depth),(3,.ptr 1 0),(4,.ptr 2 0),(6,.ptr 3 0),(8,.ptr 4 0),(9,iP k),(44,bP (decide (k<0)))],[[hT p5,iP p6],[.ptr 0 0],[iP n_1],[iP 0,iP 0,tP ⟨#[]⟩,.sl [] .own,iP 0],[iP e4,iP e5,tP e6,hX e7,iP e2.At]]⟩ tI ?_
        rcases Ak h with⟨hc1,h⟩|⟨hc1,h⟩
        . refine zT (test hc1) ?_
          refine wn (Ai 2 []) ⟨[(2,iP depth),(3,.ptr 1 0),(4,.ptr 2 0),(6,.ptr 3 0),(8,.ptr 4 0),(9,iP k)],[[hT p5,iP p6],[.ptr 0 0],[iP n_1],[iP e4,iP e5,tP e6,hX e7,iP e2.At],[iP e4,iP e5,tP e6,hX e7,iP e2.At]]⟩ tI ?_
          cases h
          exact rt hQ
        . refine zF (test hc1) ?_
          obtain⟨n_3,hn_3,h⟩:=Ae h
          refine wn (Ai 1 (.meth (.agg (kT n_3.1)) (kP n_3.2)::[])) ⟨[(2,iP depth),(3,.ptr 1 0),(4,.ptr 2 0),(6,.ptr 3 0),(8,.ptr 4 0),(9,iP k)],[(kP n_3.2),[.ptr 0 0],[iP n_1],[iP 0,iP 0,tP ⟨#[]⟩,.sl [] .own,iP 0],[iP e4,iP e5,tP e6,hX e7,iP e2.At]]⟩ (aI (AY (Ad.mk p5 p6) n_3 hn_3) tI) ?_
          obtain⟨o_1,ho_1,h⟩:=Ae h
          obtain⟨x,hx,h⟩:=Ae h
          obtain⟨y3,hy3,h⟩:=Ae h
          rcases y3 with⟨l,p7⟩|⟨e8,p8⟩
          . obtain⟨l1,hl1,h⟩:=Ae h
            have fb:([[iP e4,iP e5,tP e6,hX e7,iP e2.At],(kX l)]:List (List PV))=l1.map AH:=by rw [<- Ac hl1];simp only [List.map_cons,List.map_nil,AE]
            refine Rt [0] [1,5,6,7,8,9,10,11,0,2,3,4,12,13,14,15] (Ai 8 (.call (oP o_1 Ar)::(.val (.vptr [tP x.sign,iP x.op,iP x.level] 0)::(Ai 2 (.meth (.agg (kX l)) (kP p7)::(.val (oX l1)::(Ai 2 []))))))) ⟨[(2,iP depth),(3,.ptr 1 0),(4,.ptr 2 0),(6,.ptr 3 0),(8,.ptr 4 0)],[(kP p7),[.ptr 0 0],[iP n_1],[iP 0,iP 0,tP ⟨#[]⟩,.sl [] .own,iP 0],[iP x.op,iP 0,tP ⟨#[]⟩,hX l1,iP e2.At]]⟩ (aI (CY o_1 ho_1) (aI (oi hx Cz (Cn x)) (aI (ih_parse_parser_level n hn n_3.2 (IntKind.i64.wrap (n_1+1)) depth (.ok l p7) hy3) (aI (Cb rfl fb) tI)))) ?_
            refine zz ?_
            refine wn (Ai 2 []) ⟨[(2,iP depth),(3,.ptr 1 0),(4,.ptr 2 0),(6,.ptr 3 0),(8,.ptr 4 0),(64,bP (n_1 == 4))],[(kP p7),[.ptr 0 0],[iP n_1],[iP 0,iP 0,tP ⟨#[]⟩,.sl [] .own,iP 0],[iP x.op,iP 0,tP ⟨#[]⟩,hX l1,iP e2.At]]⟩ tI ?_
            rcases Ak h with⟨hc,h⟩|⟨hc,h⟩
            . refine zT (test hc) ?_
              refine wn (Ai 2 []) ⟨[(2,iP depth),(3,.ptr 1 0),(4,.ptr 2 0),(6,.ptr 3 0),(8,.ptr 4 0)],[(kP p7),[.ptr 0 0],[iP n_1],[iP x.op,iP 0,tP ⟨#[]⟩,hX l1,iP e2.At],[iP x.op,iP 0,tP ⟨#[]⟩,hX l1,iP e2.At]]⟩ tI ?_
              cases h
              exact rt hQ
            . refine Aj (test hc) ?_
              exact zz (AQ (n,(p7.l,p7.forms,x.op,0,⟨#[]⟩,l1)) rfl ⟨hn,h⟩ (Nat.lt_succ_self _))
          . refine zz ?_
            cases h
            exact FZ [0] [1,5,6,7,8,9,10,11,0,2,3,4,12,13,14,15] (Ai 8 (.call (oP o_1 Ar)::(.val (.vptr [tP x.sign,iP x.op,iP x.level] 0)::(Ai 2 (.mpan (pE e8) (kP p8)::(Ai 3 [])))))) (aI (CY o_1 ho_1) (aI (oi hx Cz (Cn x)) (aI (ih_parse_parser_level n hn n_3.2 (IntKind.i64.wrap (n_1+1)) depth (.pan e8 p8) hy3) tI))) (by kernel_rfl) rfl hQ
     . refine zz ?_
       cases h
       exact BX (Ai 4 (.mpan (pE e3) (kP p4)::(Ai 2 []))) (aI (ih_parse_parser_level n hn p (IntKind.i64.wrap (n_1+1)) depth (.pan e3 p4) hy2) tI) (by kernel_rfl) rfl hQ
 . intro hJ
   refine zz ?_
   rcases Ak e with⟨hc4,e⟩|⟨hc4,e⟩
   . refine zT (test hc4) ?_
     obtain⟨i,hi,e⟩:=Ae e
     refine wn (Ai 1 (.meth (bP i) (kP p)::[])) ⟨[(2,iP depth),(3,.ptr 1 0),(4,.ptr 2 0),(6,.ptr 3 0),(13,bP i)],[(kP p),[.ptr 0 0],[iP n_],[iP 0,iP 0,tP ⟨#[]⟩,.sl [] .own,iP 0]]⟩ (aI (Bi p ⟨#[33]⟩ i hi) tI) ?_
     rcases Ak e with⟨hc3,e⟩|⟨hc3,e⟩
     . refine zT (test hc3) ?_
       obtain⟨n_4,hn_4,e⟩:=Ae e
       refine wn (Ai 1 (.meth (.agg (kT n_4.1)) (kP n_4.2)::(Ai 2 []))) ⟨[(2,iP depth),(3,.ptr 1 0),(4,.ptr 2 0),(6,.ptr 3 0),(7,iP n_4.1.At)],[(kP n_4.2),[.ptr 0 0],[iP n_],[iP 0,iP 0,tP ⟨#[]⟩,.sl [] .own,iP 0]]⟩ (aI (AY p n_4 hn_4) tI) ?_
       obtain⟨y4,hy4,e⟩:=Ae e
       rcases y4 with⟨d,p9⟩|⟨e9,p10⟩
       . refine wn (Ai 3 (.meth (.tup []) (kP p9)::[])) ⟨[(2,iP depth),(3,.ptr 1 0),(4,.ptr 2 0),(6,.ptr 3 0),(7,iP n_4.1.At)],[(kP p9),[.ptr 0 0],[iP n_],[iP 0,iP 0,tP ⟨#[]⟩,.sl [] .own,iP 0]]⟩ (aI (Ce n_4.2 (IntKind.i64.wrap (depth+1)) true (.ok d p9) hy4) tI) ?_
         obtain⟨y5,hy5,e⟩:=Ae e
         rcases y5 with⟨l2,p11⟩|⟨e10,p12⟩
         . obtain⟨l3,hl3,e⟩:=Ae e
           have fb1:([(kX l2)]:List (List PV))=l3.map AH:=by rw [<- Ac hl3];simp only [List.map_cons,List.map_nil,AE]
           refine wn (Ai 4 (.meth (.agg (kX l2)) (kP p11)::(.val (oX l3)::(Ai 2 [])))) ⟨[(2,iP depth),(3,.ptr 1 0),(4,.ptr 2 0),(6,.ptr 3 0)],[(kP p11),[.ptr 0 0],[iP n_],[iP 5,iP 0,tP ⟨#[]⟩,hX l3,iP n_4.1.At]]⟩ (aI (ih_parse_parser_level n hn p9 3 (IntKind.i64.wrap (depth+1)) (.ok l2 p11) hy5) (aI (Cb rfl fb1) tI)) ?_
           cases e
           cases h
           exact rt hQ
         . refine zz ?_
           cases e
           cases h
           exact BX (Ai 4 (.mpan (pE e10) (kP p12)::(Ai 3 []))) (aI (ih_parse_parser_level n hn p9 3 (IntKind.i64.wrap (depth+1)) (.pan e10 p12) hy5) tI) (by kernel_rfl) rfl hQ
       . refine zz ?_
         cases e
         cases h
         exact BX (Ai 3 (.mpan (pE e9) (kP p10)::[])) (aI (Ce n_4.2 (IntKind.i64.wrap (depth+1)) true (.pan e9 p10) hy4) tI) (by kernel_rfl) rfl hQ
     . refine zF (test hc3) ?_
       refine wq (Ai 3 []) ⟨[(2,iP depth),(3,.ptr 1 0),(4,.ptr 2 0),(6,.ptr 3 0)],[(kP p),[.ptr 0 0],[iP (IntKind.i64.wrap (n_+1))],[iP 0,iP 0,tP ⟨#[]⟩,.sl [] .own,iP 0]]⟩ tI ?_
       exact zz (BN [2,3,4,6] 4 rfl (lb rfl) rfl (hJ (IntKind.i64.wrap (n_+1)) (Ac e)))
   . refine Aj (test hc4) ?_
     exact zz (BN [2,3,4,6] 4 rfl (lb rfl) rfl (hJ n_ (Ac e)))
theorem Fu (n0:Nat)
 (ih_parse_parser_expr:∀ m,m<=n0->∀ (p:Ad) (depth:Int) (r:(Ex Al Ad Aa)),Ax m p depth=some r->G7 r (fun v0 s0=>CA Tryz.prog 28 [iP depth] (kP p) (.ret (.agg (kX v0))) (kP s0)) (fun e0 s0=>CA Tryz.prog 28 [iP depth] (kP p) (.pan (pE e0)) (kP s0)))
 (ih_parse_parser_level:∀ m,m<=n0->∀ (p:Ad) (n_:Int) (depth:Int) (r:(Ex Al Ad Aa)),A5 m p n_ depth=some r->G7 r (fun v0 s0=>CA Tryz.prog 51 [iP n_,iP depth] (kP p) (.ret (.agg (kX v0))) (kP s0)) (fun e0 s0=>CA Tryz.prog 51 [iP n_,iP depth] (kP p) (.pan (pE e0)) (kP s0)))
 (ih_parse_parser_neg:∀ m,m<=n0->∀ (p:Ad) (depth:Int) (r:(Ex Al Ad Aa)),Bc m p depth=some r->G7 r (fun v0 s0=>CA Tryz.prog 76 [iP depth] (kP p) (.ret (.agg (kX v0))) (kP s0)) (fun e0 s0=>CA Tryz.prog 76 [iP depth] (kP p) (.pan (pE e0)) (kP s0)))
 (ih_parse_parser_atom:∀ m,m<=n0->∀ (p:Ad) (depth:Int) (r:(Ex Al Ad Aa)),Bb m p depth=some r->G7 r (fun v0 s0=>CA Tryz.prog 101 [iP depth] (kP p) (.ret (.agg (kX v0))) (kP s0)) (fun e0 s0=>CA Tryz.prog 101 [iP depth] (kP p) (.pan (pE e0)) (kP s0)))
 (n:Nat) (hn:n<=n0) (p:Ad) (depth:Int) (r:(Ex Al Ad Aa)) (h:Bc (n+1) p depth=some r) (Q:B7->List (List PV)->Prop) (hQ:G7 r (fun v0 s0=>∀ y,shareP y=.agg (kX v0)->Q (.ret y) [(kP s0)]) (fun e0 s0=>Q (.pan (pE e0)) [(kP s0)])) :
 VC Tryz.prog 76 (.ptr 0 0::[iP depth]) [(kP p)] Q:=by
 replace h:=(Bc.eq_2 (n:=n) _ _).symm.trans h
 refine VC.intro ⟨[0,1,4,5,8],[]⟩ Tryz.func76 rfl follows XN (by rw [Tryz.ntmps76];exact lb rfl) ?_
 refine B4 ?_
 refine zz ?_
 refine wn (Ai 1 []) ⟨[(0,.ptr 0 0),(1,iP depth),(4,.ptr 1 0)],[(kP p),[iP 0,iP 0,tP ⟨#[]⟩,.sl [] .own,iP 0]]⟩ tI ?_
 obtain⟨i,hi,h⟩:=Ae h
 refine wn (Ai 1 (.meth (bP i) (kP p)::(Ai 1 []))) ⟨[(0,.ptr 0 0),(1,iP depth),(4,.ptr 1 0),(8,bP (!i))],[(kP p),[iP 0,iP 0,tP ⟨#[]⟩,.sl [] .own,iP 0]]⟩ (aI (Bi p ⟨#[45]⟩ i hi) tI) ?_
 rcases Ak h with⟨hc,h⟩|⟨hc,h⟩
 . refine zT (test hc) ?_
   obtain⟨y,hy,h⟩:=Ae h
   rcases y with⟨a_,p1⟩|⟨e,p2⟩
   . refine wn (Ai 2 (.meth (.agg (kX a_)) (kP p1)::(Ai 1 []))) ⟨[(0,.ptr 0 0),(1,iP depth),(4,.ptr 1 0)],[(kP p1),(kX a_)]⟩ (aI (ih_parse_parser_atom n hn p depth (.ok a_ p1) hy) tI) ?_
     cases h
     exact rt hQ
   . refine zz ?_
     cases h
     exact BX (Ai 2 (.mpan (pE e) (kP p2)::(Ai 1 []))) (aI (ih_parse_parser_atom n hn p depth (.pan e p2) hy) tI) (by kernel_rfl) rfl hQ
 . refine zF (test hc) ?_
   obtain⟨n_,hn_,h⟩:=Ae h
   refine wn (Ai 1 (.meth (.agg (kT n_.1)) (kP n_.2)::(Ai 2 []))) ⟨[(0,.ptr 0 0),(1,iP depth),(4,.ptr 1 0),(5,iP n_.1.At)],[(kP n_.2),[iP 0,iP 0,tP ⟨#[]⟩,.sl [] .own,iP 0]]⟩ (aI (AY p n_ hn_) tI) ?_
   obtain⟨y1,hy1,h⟩:=Ae h
   rcases y1 with⟨d,p3⟩|⟨e1,p4⟩
   . refine wn (Ai 3 (.meth (.tup []) (kP p3)::[])) ⟨[(0,.ptr 0 0),(1,iP depth),(4,.ptr 1 0),(5,iP n_.1.At)],[(kP p3),[iP 0,iP 0,tP ⟨#[]⟩,.sl [] .own,iP 0]]⟩ (aI (Ce n_.2 (IntKind.i64.wrap (depth+1)) false (.ok d p3) hy1) tI) ?_
     obtain⟨y2,hy2,h⟩:=Ae h
     rcases y2 with⟨n_1,p5⟩|⟨e2,p6⟩
     . obtain⟨l,hl,h⟩:=Ae h
       have fb:([(kX n_1)]:List (List PV))=l.map AH:=by rw [<- Ac hl];simp only [List.map_cons,List.map_nil,AE]
       refine wn (Ai 4 (.meth (.agg (kX n_1)) (kP p5)::(.val (oX l)::(Ai 2 [])))) ⟨[(4,.ptr 1 0)],[(kP p5),[iP 6,iP 0,tP ⟨#[]⟩,hX l,iP n_.1.At]]⟩ (aI (ih_parse_parser_neg n hn p3 (IntKind.i64.wrap (depth+1)) (.ok n_1 p5) hy2) (aI (Cb rfl fb) tI)) ?_
       cases h
       exact rt hQ
     . refine zz ?_
       cases h
       exact BX (Ai 4 (.mpan (pE e2) (kP p6)::(Ai 3 []))) (aI (ih_parse_parser_neg n hn p3 (IntKind.i64.wrap (depth+1)) (.pan e2 p6) hy2) tI) (by kernel_rfl) rfl hQ
   . refine zz ?_
     cases h
     exact BX (Ai 3 (.mpan (pE e1) (kP p4)::[])) (aI (Ce n_.2 (IntKind.i64.wrap (depth+1)) false (.pan e1 p4) hy1) tI) (by kernel_rfl) rfl hQ
theorem HF:AM [(23,[9999,1,0,0,1,2,3,4,5,6,7,8,9])] Tryz.f101.ntmps (Tryz.f101.body.getD .skip)=true:=by kernel_rfl
theorem EX (n0:Nat)
 (ih_parse_parser_expr:∀ m,m<=n0->∀ (p:Ad) (depth:Int) (r:(Ex Al Ad Aa)),Ax m p depth=some r->G7 r (fun v0 s0=>CA Tryz.prog 28 [iP depth] (kP p) (.ret (.agg (kX v0))) (kP s0)) (fun e0 s0=>CA Tryz.prog 28 [iP depth] (kP p) (.pan (pE e0)) (kP s0)))
 (ih_parse_parser_level:∀ m,m<=n0->∀ (p:Ad) (n_:Int) (depth:Int) (r:(Ex Al Ad Aa)),A5 m p n_ depth=some r->G7 r (fun v0 s0=>CA Tryz.prog 51 [iP n_,iP depth] (kP p) (.ret (.agg (kX v0))) (kP s0)) (fun e0 s0=>CA Tryz.prog 51 [iP n_,iP depth] (kP p) (.pan (pE e0)) (kP s0)))
 (ih_parse_parser_neg:∀ m,m<=n0->∀ (p:Ad) (depth:Int) (r:(Ex Al Ad Aa)),Bc m p depth=some r->G7 r (fun v0 s0=>CA Tryz.prog 76 [iP depth] (kP p) (.ret (.agg (kX v0))) (kP s0)) (fun e0 s0=>CA Tryz.prog 76 [iP depth] (kP p) (.pan (pE e0)) (kP s0)))
 (ih_parse_parser_atom:∀ m,m<=n0->∀ (p:Ad) (depth:Int) (r:(Ex Al Ad Aa)),Bb m p depth=some r->G7 r (fun v0 s0=>CA Tryz.prog 101 [iP depth] (kP p) (.ret (.agg (kX v0))) (kP s0)) (fun e0 s0=>CA Tryz.prog 101 [iP depth] (kP p) (.pan (pE e0)) (kP s0)))
 (n:Nat) (hn:n<=n0) (p:Ad) (depth:Int) (r:(Ex Al Ad Aa)) (h:Bb (n+1) p depth=some r) (Q:B7->List (List PV)->Prop) (hQ:G7 r (fun v0 s0=>∀ y,shareP y=.agg (kX v0)->Q (.ret y) [(kP s0)]) (fun e0 s0=>Q (.pan (pE e0)) [(kP s0)])) :
 VC Tryz.prog 101 (.ptr 0 0::[iP depth]) [(kP p)] Q:=by
 replace h:=(Bb.eq_2 (n:=n) _ _).symm.trans h
 refine VC.intro ⟨[0,1,4,5,6,9,22,29,32,35,40,46,50,56],[(23,[9999,1,0,0,1,2,3,4,5,6,7,8,9])]⟩ Tryz.func101 rfl follows HF (by rw [Tryz.ntmps101];exact lb rfl) ?_
 refine B4 ?_
 refine zz ?_
 refine wn (Ai 1 []) ⟨[(0,.ptr 0 0),(1,iP depth),(4,.ptr 1 0)],[(kP p),[iP 0,iP 0,tP ⟨#[]⟩,.sl [] .own,iP 0]]⟩ tI ?_
 obtain⟨b,hb,h⟩:=Ae h
 refine wn (Ai 1 (.meth (bP b) (kP p)::(Ai 1 []))) ⟨[(0,.ptr 0 0),(1,iP depth),(4,.ptr 1 0),(9,bP (!b))],[(kP p),[iP 0,iP 0,tP ⟨#[]⟩,.sl [] .own,iP 0]]⟩ (aI (Cy p b hb) tI) ?_
 obtain⟨y,e,h⟩:=Ae h
 refine AJ (A:=((List Ab)×Int)) (fun v=>.inl v=y) (fun y=>match y with|(p1,p2)=>⟨[(0,.ptr 0 0),(1,iP depth),(4,.ptr 1 0)],[[hT p1,iP p2],[iP 0,iP 0,tP ⟨#[]⟩,.sl [] .own,iP 0]]⟩) ?_ ?_
 . rintro⟨p1,p2⟩ rfl
   show WS _ _ _ _ _ ⟨[(0,.ptr 0 0),(1,iP depth),(4,.ptr 1 0)],[[hT p1,iP p2],[iP 0,iP 0,tP ⟨#[]⟩,.sl [] .own,iP 0]]⟩
   refine zz ?_
   obtain⟨t,ht,h⟩:=Ae h
   refine wn (Ai 1 (.meth (.agg (kT t.1)) (kP t.2)::(Ai 2 []))) ⟨[(0,.ptr 0 0),(1,iP depth),(4,.ptr 1 0),(5,.ptr 2 0)],[(kP t.2),[iP 0,iP 0,tP ⟨#[]⟩,.sl [] .own,iP 0],(kT t.1)]⟩ (aI (AY (Ad.mk p1 p2) t ht) tI) ?_
   refine wn (Ai 9 []) ⟨[(0,.ptr 0 0),(1,iP depth),(4,.ptr 1 0),(5,.ptr 2 0),(6,.ptr 3 0)],[(kP t.2),[iP 0,iP 0,tP ⟨#[]⟩,.sl [] .own,iP 0],(kT t.1),[iP 0,iP t.1.N,tP t.1.S,.sl [] .own,iP t.1.At]]⟩ tI ?_
   refine wn (Ai 2 []) ⟨[(0,.ptr 0 0),(1,iP depth),(4,.ptr 1 0),(6,.ptr 3 0),(22,iP t.1.Kind)],[(kP t.2),[iP 0,iP 0,tP ⟨#[]⟩,.sl [] .own,iP 0],(kT t.1),[iP 0,iP t.1.N,tP t.1.S,.sl [] .own,iP t.1.At]]⟩ tI ?_
   refine zB ?_
   refine wn (Ai 2 []) ⟨[(0,.ptr 0 0),(1,iP depth),(4,.ptr 1 0),(6,.ptr 3 0),(22,iP t.1.Kind),(29,bP (t.1.Kind == 2))],[(kP t.2),[iP 0,iP 0,tP ⟨#[]⟩,.sl [] .own,iP 0],(kT t.1),[iP 0,iP t.1.N,tP t.1.S,.sl [] .own,iP t.1.At]]⟩ tI ?_
   rcases Ak h with⟨hc6,h⟩|⟨hc6,h⟩
   . refine zT (test hc6) ?_
     refine wn (Ai 2 []) ⟨[(4,.ptr 1 0),(6,.ptr 3 0)],[(kP t.2),[iP 0,iP 0,tP ⟨#[]⟩,.sl [] .own,iP 0],(kT t.1),[iP 1,iP t.1.N,tP t.1.S,.sl [] .own,iP t.1.At]]⟩ tI ?_
     refine wn (Ai 2 []) ⟨[(4,.ptr 1 0)],[(kP t.2),[iP 1,iP t.1.N,tP t.1.S,.sl [] .shared,iP t.1.At],(kT t.1),[iP 1,iP t.1.N,tP t.1.S,.sl [] .own,iP t.1.At]]⟩ tI ?_
     cases h
     exact rt hQ
   . refine zF (test hc6) ?_
     refine wn (Ai 2 []) ⟨[(0,.ptr 0 0),(1,iP depth),(4,.ptr 1 0),(6,.ptr 3 0),(22,iP t.1.Kind),(32,bP (t.1.Kind == 3))],[(kP t.2),[iP 0,iP 0,tP ⟨#[]⟩,.sl [] .own,iP 0],(kT t.1),[iP 0,iP t.1.N,tP t.1.S,.sl [] .own,iP t.1.At]]⟩ tI ?_
     rcases Ak h with⟨hc5,h⟩|⟨hc5,h⟩
     . refine zT (test hc5) ?_
       refine wn (Ai 2 []) ⟨[(4,.ptr 1 0),(6,.ptr 3 0)],[(kP t.2),[iP 0,iP 0,tP ⟨#[]⟩,.sl [] .own,iP 0],(kT t.1),[iP 2,iP t.1.N,tP t.1.S,.sl [] .own,iP t.1.At]]⟩ tI ?_
       refine wn (Ai 2 []) ⟨[(4,.ptr 1 0)],[(kP t.2),[iP 2,iP t.1.N,tP t.1.S,.sl [] .shared,iP t.1.At],(kT t.1),[iP 2,iP t.1.N,tP t.1.S,.sl [] .own,iP t.1.At]]⟩ tI ?_
       cases h
       exact rt hQ
     . refine zF (test hc5) ?_
       refine wn (Ai 2 []) ⟨[(0,.ptr 0 0),(1,iP depth),(4,.ptr 1 0),(6,.ptr 3 0),(35,bP (t.1.Kind == 1))],[(kP t.2),[iP 0,iP 0,tP ⟨#[]⟩,.sl [] .own,iP 0],(kT t.1),[iP 0,iP t.1.N,tP t.1.S,.sl [] .own,iP t.1.At]]⟩ tI ?_
       rcases Ak h with⟨hc4,h⟩|⟨hc4,h⟩
       . refine zT (test hc4) ?_
         refine wn (Ai 2 []) ⟨[(0,.ptr 0 0),(1,iP depth),(4,.ptr 1 0),(6,.ptr 3 0)],[(kP t.2),[iP 0,iP 0,tP ⟨#[]⟩,.sl [] .own,iP 0],(kT t.1),[iP 3,iP t.1.N,tP t.1.S,.sl [] .own,iP t.1.At]]⟩ tI ?_
         obtain⟨i,hi,h⟩:=Ae h
         refine wn (Ai 1 (.meth (bP i) (kP t.2)::(Ai 1 []))) ⟨[(0,.ptr 0 0),(1,iP depth),(4,.ptr 1 0),(6,.ptr 3 0),(40,bP (!i))],[(kP t.2),[iP 0,iP 0,tP ⟨#[]⟩,.sl [] .own,iP 0],(kT t.1),[iP 3,iP t.1.N,tP t.1.S,.sl [] .own,iP t.1.At]]⟩ (aI (Bi t.2 ⟨#[40]⟩ i hi) tI) ?_
         rcases Ak h with⟨hc3,h⟩|⟨hc3,h⟩
         . refine zT (test hc3) ?_
           try refine z5 rfl ?_
           refine zz ?_
           refine wn (Ai 2 []) ⟨[(4,.ptr 1 0)],[(kP t.2),[iP 3,iP t.1.N,tP t.1.S,.sl [] .shared,iP t.1.At],(kT t.1),[iP 3,iP t.1.N,tP t.1.S,.sl [] .own,iP t.1.At]]⟩ tI ?_
           cases h
           exact rt hQ
         . refine zF (test hc3) ?_
           refine wn (Ai 2 []) ⟨[(0,.ptr 0 0),(1,iP depth),(4,.ptr 1 0),(6,.ptr 3 0)],[(kP t.2),[iP 0,iP 0,tP ⟨#[]⟩,.sl [] .own,iP 0],(kT t.1),[iP 4,iP t.1.N,tP t.1.S,.sl [] .own,iP t.1.At]]⟩ tI ?_
           obtain⟨n_,hn_,h⟩:=Ae h
           refine wn (Ai 1 (.meth (.agg (kT n_.1)) (kP n_.2)::[])) ⟨[(0,.ptr 0 0),(1,iP depth),(4,.ptr 1 0),(6,.ptr 3 0)],[(kP n_.2),[iP 0,iP 0,tP ⟨#[]⟩,.sl [] .own,iP 0],(kT t.1),[iP 4,iP t.1.N,tP t.1.S,.sl [] .own,iP t.1.At]]⟩ (aI (AY t.2 n_ hn_) tI) ?_
           obtain⟨y1,e2,h⟩:=Ae h
           refine AJ (A:=((List Ab)×Int×(List Aa))) (fun v=>.inl v=y1) (fun y1=>match y1 with|(p3,p4,e1)=>⟨[(0,.ptr 0 0),(4,.ptr 1 0),(6,.ptr 3 0)],[[hT p3,iP p4],[iP 0,iP 0,tP ⟨#[]⟩,.sl [] .own,iP 0],(kT t.1),[iP 4,iP t.1.N,tP t.1.S,oX e1,iP t.1.At]]⟩) ?_ ?_
           . rintro⟨p3,p4,e1⟩ rfl
             show WS _ _ _ _ _ ⟨[(0,.ptr 0 0),(4,.ptr 1 0),(6,.ptr 3 0)],[[hT p3,iP p4],[iP 0,iP 0,tP ⟨#[]⟩,.sl [] .own,iP 0],(kT t.1),[iP 4,iP t.1.N,tP t.1.S,oX e1,iP t.1.At]]⟩
             refine zz ?_
             obtain⟨n_1,hn_1,h⟩:=Ae h
             refine wn (Ai 1 (.meth (.agg (kT n_1.1)) (kP n_1.2)::[])) ⟨[(4,.ptr 1 0),(6,.ptr 3 0)],[(kP n_1.2),[iP 0,iP 0,tP ⟨#[]⟩,.sl [] .own,iP 0],(kT t.1),[iP 4,iP t.1.N,tP t.1.S,oX e1,iP t.1.At]]⟩ (aI (AY (Ad.mk p3 p4) n_1 hn_1) tI) ?_
             refine wn (Ai 2 []) ⟨[(4,.ptr 1 0)],[(kP n_1.2),[iP 4,iP t.1.N,tP t.1.S,hX e1,iP t.1.At],(kT t.1),[iP 4,iP t.1.N,tP t.1.S,oX e1,iP t.1.At]]⟩ tI ?_
             cases h
             exact rt hQ
           . intro hJ1
             refine zz ?_
             refine zB ?_
             refine C9 [0,1,4,6] 4 (fun a:Nat×((List Ab)×Int×(List Aa))=>a.1<=n0/\AS a.1 depth a.2.1 a.2.2.1 a.2.2.2=some y1) (fun a=>a.1) (fun a:Nat×((List Ab)×Int×(List Aa))=>match a with|(_,(p5,p6,e3))=>⟨[(0,.ptr 0 0),(1,iP depth),(4,.ptr 1 0),(6,.ptr 3 0)],[[hT p5,iP p6],[iP 0,iP 0,tP ⟨#[]⟩,.sl [] .own,iP 0],(kT t.1),[iP 4,iP t.1.N,tP t.1.S,oX e3,iP t.1.At]]⟩) (n,(n_.2.l,n_.2.forms,[])) (lb rfl) rfl ⟨hn,e2⟩ ?_
             clear e2 hn
             rintro⟨n,p5,p6,e3⟩ ⟨hn,e2⟩
             show WS _ _ _ _ _ ⟨[(0,.ptr 0 0),(1,iP depth),(4,.ptr 1 0),(6,.ptr 3 0)],[[hT p5,iP p6],[iP 0,iP 0,tP ⟨#[]⟩,.sl [] .own,iP 0],(kT t.1),[iP 4,iP t.1.N,tP t.1.S,oX e3,iP t.1.At]]⟩
             cases n with
             |zero=>exact absurd e2 (by simp [AS])
             |succ n =>
              replace e2:=(AS.eq_2 (n:=n) _ _ _ _).symm.trans e2
              replace hn:n<=n0:=by omega
              refine zz ?_
              obtain⟨i1,hi1,e2⟩:=Ae e2
              refine wn (Ai 1 (.meth (bP i1) [hT p5,iP p6]::(Ai 1 []))) ⟨[(0,.ptr 0 0),(1,iP depth),(4,.ptr 1 0),(6,.ptr 3 0),(46,bP (!i1))],[[hT p5,iP p6],[iP 0,iP 0,tP ⟨#[]⟩,.sl [] .own,iP 0],(kT t.1),[iP 4,iP t.1.N,tP t.1.S,oX e3,iP t.1.At]]⟩ (aI (Bi (Ad.mk p5 p6) ⟨#[41]⟩ i1 hi1) tI) ?_
              rcases Ak e2 with⟨hc2,e2⟩|⟨hc2,e2⟩
              . refine zT (test hc2) ?_
                refine zB ?_
                refine wn (Ai 2 (.val (iP (e3.length:Int))::(Ai 1 []))) ⟨[(0,.ptr 0 0),(1,iP depth),(4,.ptr 1 0),(6,.ptr 3 0),(50,bP (decide (0<(e3.length:Int))))],[[hT p5,iP p6],[iP 0,iP 0,tP ⟨#[]⟩,.sl [] .own,iP 0],(kT t.1),[iP 4,iP t.1.N,tP t.1.S,oX e3,iP t.1.At]]⟩ (aI (CV e3 AH) tI) ?_
                obtain⟨y2,e4,e2⟩:=Ae e2
                refine AJ (A:=((List Ab)×Int)) (fun v=>.inl v=y2) (fun y2=>match y2 with|(p7,p8)=>⟨[(0,.ptr 0 0),(1,iP depth),(4,.ptr 1 0),(6,.ptr 3 0)],[[hT p7,iP p8],[iP 0,iP 0,tP ⟨#[]⟩,.sl [] .own,iP 0],(kT t.1),[iP 4,iP t.1.N,tP t.1.S,oX e3,iP t.1.At]]⟩) ?_ ?_
                . rintro⟨p7,p8⟩ rfl
                  show WS _ _ _ _ _ ⟨[(0,.ptr 0 0),(1,iP depth),(4,.ptr 1 0),(6,.ptr 3 0)],[[hT p7,iP p8],[iP 0,iP 0,tP ⟨#[]⟩,.sl [] .own,iP 0],(kT t.1),[iP 4,iP t.1.N,tP t.1.S,oX e3,iP t.1.At]]⟩
                  refine zz ?_
                  refine wn (Ai 2 (.val (iP (e3.length:Int))::(Ai 1 []))) ⟨[(0,.ptr 0 0),(1,iP depth),(4,.ptr 1 0),(6,.ptr 3 0),(56,bP ((e3.length:Int) == 40))],[[hT p7,iP p8],[iP 0,iP 0,tP ⟨#[]⟩,.sl [] .own,iP 0],(kT t.1),[iP 4,iP t.1.N,tP t.1.S,oX e3,iP t.1.At]]⟩ (aI (CV e3 AH) tI) ?_
                  rcases Ak e2 with⟨hc,e2⟩|⟨hc,e2⟩
                  . refine zT (test hc) ?_
                    obtain⟨y3,hy3,e2⟩:=Ae e2
                    rcases y3 with⟨d,p9⟩|⟨e5,p10⟩
                    . refine wn (Ai 1 (.meth (.tup []) (kP p9)::[])) ⟨[(0,.ptr 0 0),(1,iP depth),(4,.ptr 1 0),(6,.ptr 3 0)],[(kP p9),[iP 0,iP 0,tP ⟨#[]⟩,.sl [] .own,iP 0],(kT t.1),[iP 4,iP t.1.N,tP t.1.S,oX e3,iP t.1.At]]⟩ (aI (Ce (Ad.mk p7 p8) 0 true (.ok d p9) hy3) tI) ?_
                      obtain⟨y4,hy4,e2⟩:=Ae e2
                      rcases y4 with⟨f,p11⟩|⟨e6,p12⟩
                      . refine wn (Ai 1 (.meth (.tup []) (kP p11)::[])) ⟨[(0,.ptr 0 0),(1,iP depth),(4,.ptr 1 0),(6,.ptr 3 0)],[(kP p11),[iP 0,iP 0,tP ⟨#[]⟩,.sl [] .own,iP 0],(kT t.1),[iP 4,iP t.1.N,tP t.1.S,oX e3,iP t.1.At]]⟩ (aI (AB p9 2 (.ok f p11) hy4) tI) ?_
                        obtain⟨y5,hy5,e2⟩:=Ae e2
                        rcases y5 with⟨e7,p13⟩|⟨e8,p14⟩
                        . obtain⟨l,hl,e2⟩:=Ae e2
                          have fb:([(kX e7)]:List (List PV))=l.map AH:=by rw [<- Ac hl];simp only [List.map_cons,List.map_nil,AE]
                          obtain⟨l1,hl1,e2⟩:=Ae e2
                          refine Rt [0] [0,1,2,3,4,5,6,7,8,9] (Ai 5 (.meth (.agg (kX e7)) (kP p13)::(.val (oX l)::(.val (oX l1)::(Ai 2 []))))) ⟨[(0,.ptr 0 0),(1,iP depth),(4,.ptr 1 0),(6,.ptr 3 0)],[(kP p13),[iP 0,iP 0,tP ⟨#[]⟩,.sl [] .own,iP 0],(kT t.1),[iP 4,iP t.1.N,tP t.1.S,oX l1,iP t.1.At]]⟩ (aI (ih_parse_parser_expr n hn p11 (IntKind.i64.wrap (depth+1)) (.ok e7 p13) hy5) (aI (Cb rfl fb) (aI (Oa hl1 Bw) tI))) ?_
                          exact zz (AQ (n,(p13.l,p13.forms,l1)) rfl ⟨hn,e2⟩ (Nat.lt_succ_self _))
                        . refine zz ?_
                          cases e2
                          cases h
                          exact FZ [0] [0,1,2,3,4,5,6,7,8,9] (Ai 5 (.mpan (pE e8) (kP p14)::(Ai 4 []))) (aI (ih_parse_parser_expr n hn p11 (IntKind.i64.wrap (depth+1)) (.pan e8 p14) hy5) tI) (by kernel_rfl) rfl hQ
                      . refine zz ?_
                        cases e2
                        cases h
                        exact BX (Ai 1 (.mpan (pE e6) (kP p12)::[])) (aI (AB p9 2 (.pan e6 p12) hy4) tI) (by kernel_rfl) rfl hQ
                    . refine zz ?_
                      cases e2
                      cases h
                      exact BX (Ai 1 (.mpan (pE e5) (kP p10)::[])) (aI (Ce (Ad.mk p7 p8) 0 true (.pan e5 p10) hy3) tI) (by kernel_rfl) rfl hQ
                  . refine zF (test hc) ?_
                    obtain⟨y6,hy6,e2⟩:=Ae e2
                    rcases y6 with⟨e9,p15⟩|⟨e10,p16⟩
                    . obtain⟨l2,hl2,e2⟩:=Ae e2
                      have fb1:([(kX e9)]:List (List PV))=l2.map AH:=by rw [<- Ac hl2];simp only [List.map_cons,List.map_nil,AE]
                      obtain⟨l3,hl3,e2⟩:=Ae e2
                      refine Rt [0] [0,1,2,3,4,5,6,7,8,9] (Ai 5 (.meth (.agg (kX e9)) (kP p15)::(.val (oX l2)::(.val (oX l3)::(Ai 2 []))))) ⟨[(0,.ptr 0 0),(1,iP depth),(4,.ptr 1 0),(6,.ptr 3 0)],[(kP p15),[iP 0,iP 0,tP ⟨#[]⟩,.sl [] .own,iP 0],(kT t.1),[iP 4,iP t.1.N,tP t.1.S,oX l3,iP t.1.At]]⟩ (aI (ih_parse_parser_expr n hn (Ad.mk p7 p8) (IntKind.i64.wrap (depth+1)) (.ok e9 p15) hy6) (aI (Cb rfl fb1) (aI (Oa hl3 Bw) tI))) ?_
                      exact zz (AQ (n,(p15.l,p15.forms,l3)) rfl ⟨hn,e2⟩ (Nat.lt_succ_self _))
                    . refine zz ?_
                      cases e2
                      cases h
                      exact FZ [0] [0,1,2,3,4,5,6,7,8,9] (Ai 5 (.mpan (pE e10) (kP p16)::(Ai 4 []))) (aI (ih_parse_parser_expr n hn (Ad.mk p7 p8) (IntKind.i64.wrap (depth+1)) (.pan e10 p16) hy6) tI) (by kernel_rfl) rfl hQ
                . intro hJ2
                  refine zz ?_
                  rcases Ak e4 with⟨hc1,e4⟩|⟨hc1,e4⟩
                  . refine zT (test hc1) ?_
                    obtain⟨y7,hy7,e4⟩:=Ae e4
                    rcases y7 with⟨n_2,p17⟩|⟨e11,p18⟩
                    . refine wq (Ai 1 (.meth (.tup []) (kP p17)::[])) ⟨[(0,.ptr 0 0),(1,iP depth),(4,.ptr 1 0),(6,.ptr 3 0)],[(kP p17),[iP 0,iP 0,tP ⟨#[]⟩,.sl [] .own,iP 0],(kT t.1),[iP 4,iP t.1.N,tP t.1.S,oX e3,iP t.1.At]]⟩ (aI (Cd (Ad.mk p5 p6) ⟨#[44]⟩ (.ok n_2 p17) hy7) tI) ?_
                      exact zz (BN [0,1,4,6] 4 rfl (lb rfl) rfl (hJ2 (p17.l,p17.forms) (Ac e4)))
                    . refine zz ?_
                      cases e4
                      cases e2
                      cases h
                      exact BX (Ai 1 (.mpan (pE e11) (kP p18)::[])) (aI (Cd (Ad.mk p5 p6) ⟨#[44]⟩ (.pan e11 p18) hy7) tI) (by kernel_rfl) rfl hQ
                  . refine Aj (test hc1) ?_
                    exact zz (BN [0,1,4,6] 4 rfl (lb rfl) rfl (hJ2 (p5,p6) (Ac e4)))
              . refine zF (test hc2) ?_
                try refine z5 rfl ?_
                exact zz (BN [0,4,6] 4 rfl (lb rfl) rfl (hJ1 (p5,p6,e3) (Ac e2)))
       . refine zF (test hc4) ?_
         obtain⟨y8,hy8,h⟩:=Ae h
         rcases y8 with⟨e12,p19⟩|⟨e13,p20⟩
         . refine wn (Ai 3 (.meth (.agg (kX e12)) (kP p19)::(Ai 1 []))) ⟨[(0,.ptr 0 0),(4,.ptr 1 0),(6,.ptr 3 0)],[(kP p19),[iP 0,iP 0,tP ⟨#[]⟩,.sl [] .own,iP 0],(kT t.1),(kX e12)]⟩ (aI (ih_parse_parser_expr n hn t.2 (IntKind.i64.wrap (depth+1)) (.ok e12 p19) hy8) tI) ?_
           obtain⟨y9,hy9,h⟩:=Ae h
           rcases y9 with⟨n_3,p21⟩|⟨e14,p22⟩
           . refine wn (Ai 1 (.meth (.tup []) (kP p21)::[])) ⟨[(4,.ptr 1 0),(6,.ptr 3 0)],[(kP p21),[iP 0,iP 0,tP ⟨#[]⟩,.sl [] .own,iP 0],(kT t.1),(kX e12)]⟩ (aI (Cd p19 ⟨#[41]⟩ (.ok n_3 p21) hy9) tI) ?_
             refine wn (Ai 2 []) ⟨[(4,.ptr 1 0)],[(kP p21),(kX e12),(kT t.1),(kX e12)]⟩ tI ?_
             cases h
             exact rt hQ
           . refine zz ?_
             cases h
             exact BX (Ai 1 (.mpan (pE e14) (kP p22)::[])) (aI (Cd p19 ⟨#[41]⟩ (.pan e14 p22) hy9) tI) (by kernel_rfl) rfl hQ
         . refine zz ?_
           cases h
           exact BX (Ai 3 (.mpan (pE e13) (kP p20)::(Ai 1 []))) (aI (ih_parse_parser_expr n hn t.2 (IntKind.i64.wrap (depth+1)) (.pan e13 p20) hy8) tI) (by kernel_rfl) rfl hQ
 . intro hJ
   refine zz ?_
   rcases Ak e with⟨hc7,e⟩|⟨hc7,e⟩
   . refine zT (test hc7) ?_
     obtain⟨y10,hy10,e⟩:=Ae e
     rcases y10 with⟨f1,p23⟩|⟨e15,p24⟩
     . refine wq (Ai 1 (.meth (.tup []) (kP p23)::[])) ⟨[(0,.ptr 0 0),(1,iP depth),(4,.ptr 1 0)],[(kP p23),[iP 0,iP 0,tP ⟨#[]⟩,.sl [] .own,iP 0]]⟩ (aI (AB p 5 (.ok f1 p23) hy10) tI) ?_
       exact zz (BN [0,1,4] 2 rfl (lb rfl) rfl (hJ (p23.l,p23.forms) (Ac e)))
     . refine zz ?_
       cases e
       cases h
       exact BX (Ai 1 (.mpan (pE e15) (kP p24)::[])) (aI (AB p 5 (.pan e15 p24) hy10) tI) (by kernel_rfl) rfl hQ
   . refine Aj (test hc7) ?_
     exact zz (BN [0,1,4] 2 rfl (lb rfl) rfl (hJ (p.l,p.forms) (Ac e)))
theorem EB:∀ n:Nat,(∀ m,m<=n->∀ (p:Ad) (depth:Int) (r:(Ex Al Ad Aa)),Ax m p depth=some r->G7 r (fun v0 s0=>CA Tryz.prog 28 [iP depth] (kP p) (.ret (.agg (kX v0))) (kP s0)) (fun e0 s0=>CA Tryz.prog 28 [iP depth] (kP p) (.pan (pE e0)) (kP s0)))/\(∀ m,m<=n->∀ (p:Ad) (n_:Int) (depth:Int) (r:(Ex Al Ad Aa)),A5 m p n_ depth=some r->G7 r (fun v0 s0=>CA Tryz.prog 51 [iP n_,iP depth] (kP p) (.ret (.agg (kX v0))) (kP s0)) (fun e0 s0=>CA Tryz.prog 51 [iP n_,iP depth] (kP p) (.pan (pE e0)) (kP s0)))/\(∀ m,m<=n->∀ (p:Ad) (depth:Int) (r:(Ex Al Ad Aa)),Bc m p depth=some r->G7 r (fun v0 s0=>CA Tryz.prog 76 [iP depth] (kP p) (.ret (.agg (kX v0))) (kP s0)) (fun e0 s0=>CA Tryz.prog 76 [iP depth] (kP p) (.pan (pE e0)) (kP s0)))/\(∀ m,m<=n->∀ (p:Ad) (depth:Int) (r:(Ex Al Ad Aa)),Bb m p depth=some r->G7 r (fun v0 s0=>CA Tryz.prog 101 [iP depth] (kP p) (.ret (.agg (kX v0))) (kP s0)) (fun e0 s0=>CA Tryz.prog 101 [iP depth] (kP p) (.pan (pE e0)) (kP s0)))
 |0=>⟨(fun m hm p depth r h=>by
  obtain rfl:m=0:=by omega
  exact absurd h (by simp [Ax])),
  (fun m hm p n_ depth r h=>by
   obtain rfl:m=0:=by omega
   exact absurd h (by simp [A5])),
  (fun m hm p depth r h=>by
   obtain rfl:m=0:=by omega
   exact absurd h (by simp [Bc])),
  (fun m hm p depth r h=>by
   obtain rfl:m=0:=by omega
   exact absurd h (by simp [Bb]))⟩
 |n+1=>by
  have ih:=EB n
  exact⟨fun m hm p depth r h=>by
   cases m with
   |zero=>exact absurd h (by simp [Ax])
   |succ m=>exact (match r,h with|.ok v0 s0,h=>CA.fin (fun Q hQ=>EV n (ih.1) (ih.2.1) (ih.2.2.1) (ih.2.2.2) m (by omega) p depth _ h Q hQ)|.pan e0 s0,h=>CA.finP (fun Q hQ=>EV n (ih.1) (ih.2.1) (ih.2.2.1) (ih.2.2.2) m (by omega) p depth _ h Q hQ)),
  fun m hm p n_ depth r h=>by
   cases m with
   |zero=>exact absurd h (by simp [A5])
   |succ m=>exact (match r,h with|.ok v0 s0,h=>CA.fin (fun Q hQ=>E8 n (ih.1) (ih.2.1) (ih.2.2.1) (ih.2.2.2) m (by omega) p n_ depth _ h Q hQ)|.pan e0 s0,h=>CA.finP (fun Q hQ=>E8 n (ih.1) (ih.2.1) (ih.2.2.1) (ih.2.2.2) m (by omega) p n_ depth _ h Q hQ)),
  fun m hm p depth r h=>by
   cases m with
   |zero=>exact absurd h (by simp [Bc])
   |succ m=>exact (match r,h with|.ok v0 s0,h=>CA.fin (fun Q hQ=>Fu n (ih.1) (ih.2.1) (ih.2.2.1) (ih.2.2.2) m (by omega) p depth _ h Q hQ)|.pan e0 s0,h=>CA.finP (fun Q hQ=>Fu n (ih.1) (ih.2.1) (ih.2.2.1) (ih.2.2.2) m (by omega) p depth _ h Q hQ)),
  fun m hm p depth r h=>by
   cases m with
   |zero=>exact absurd h (by simp [Bb])
   |succ m=>exact (match r,h with|.ok v0 s0,h=>CA.fin (fun Q hQ=>EX n (ih.1) (ih.2.1) (ih.2.2.1) (ih.2.2.2) m (by omega) p depth _ h Q hQ)|.pan e0 s0,h=>CA.finP (fun Q hQ=>EX n (ih.1) (ih.2.1) (ih.2.2.1) (ih.2.2.2) m (by omega) p depth _ h Q hQ))⟩
theorem DA (n:Nat)(p:Ad)(depth:Int)(r:(Ex Al Ad Aa))(h:Ax n p depth=some r):G7 r (fun v0 s0=>CA Tryz.prog 28 [iP depth] (kP p) (.ret (.agg (kX v0))) (kP s0)) (fun e0 s0=>CA Tryz.prog 28 [iP depth] (kP p) (.pan (pE e0)) (kP s0)) :=
 (EB n).1 n (Nat.le_refl _) p depth r h
theorem Fv (n:Nat)(p:Ad)(r:(Ex Al Ad As))(h:Ck n p=some r)(Q:B7->List (List PV)->Prop)(hQ:G7 r (fun v0 s0=>∀ y,shareP y=.agg (kA v0)->Q (.ret y) [(kP s0)]) (fun e0 s0=>Q (.pan (pE e0)) [(kP s0)])) :
 VC Tryz.prog 49 (.ptr 0 0::[]) [(kP p)] Q:=by
 unfold Ck at h
 refine VC.intro ⟨[0,2,3,4,15,18,19,26,29,37,40,43],[]⟩ Tryz.func49 rfl follows Yc (by rw [Tryz.ntmps49];exact lb rfl) ?_
 refine B4 ?_
 refine zz ?_
 refine wn (Ai 1 []) ⟨[(0,.ptr 0 0),(2,.ptr 1 0)],[(kP p),[iP 0,iP 0,tP ⟨#[]⟩,iP 0,iP 0,tP ⟨#[]⟩,.sl [] .own,iP 0,iP 0]]⟩ tI ?_
 obtain⟨t,ht,h⟩:=Ae h
 refine wn (Ai 1 (.meth (.agg (kT t.1)) (kP t.2)::(Ai 2 []))) ⟨[(0,.ptr 0 0),(2,.ptr 1 0),(3,.ptr 2 0)],[(kP t.2),[iP 0,iP 0,tP ⟨#[]⟩,iP 0,iP 0,tP ⟨#[]⟩,.sl [] .own,iP 0,iP 0],(kT t.1)]⟩ (aI (AY p t ht) tI) ?_
 refine wn (Ai 9 []) ⟨[(0,.ptr 0 0),(2,.ptr 1 0),(3,.ptr 2 0),(4,.ptr 3 0)],[(kP t.2),[iP 0,iP 0,tP ⟨#[]⟩,iP 0,iP 0,tP ⟨#[]⟩,.sl [] .own,iP 0,iP 0],(kT t.1),[iP 0,iP t.1.N,tP t.1.S,iP 0,iP 0,tP ⟨#[]⟩,.sl [] .own,iP 0,iP t.1.At]]⟩ tI ?_
 refine wn (Ai 2 []) ⟨[(0,.ptr 0 0),(2,.ptr 1 0),(3,.ptr 2 0),(4,.ptr 3 0),(15,iP t.1.Kind)],[(kP t.2),[iP 0,iP 0,tP ⟨#[]⟩,iP 0,iP 0,tP ⟨#[]⟩,.sl [] .own,iP 0,iP 0],(kT t.1),[iP 0,iP t.1.N,tP t.1.S,iP 0,iP 0,tP ⟨#[]⟩,.sl [] .own,iP 0,iP t.1.At]]⟩ tI ?_
 refine zB ?_
 refine wn (Ai 2 []) ⟨[(0,.ptr 0 0),(2,.ptr 1 0),(3,.ptr 2 0),(4,.ptr 3 0),(15,iP t.1.Kind),(37,bP (t.1.Kind == 1))],[(kP t.2),[iP 0,iP 0,tP ⟨#[]⟩,iP 0,iP 0,tP ⟨#[]⟩,.sl [] .own,iP 0,iP 0],(kT t.1),[iP 0,iP t.1.N,tP t.1.S,iP 0,iP 0,tP ⟨#[]⟩,.sl [] .own,iP 0,iP t.1.At]]⟩ tI ?_
 rcases Ak h with⟨hc5,h⟩|⟨hc5,h⟩
 . refine zT (test hc5) ?_
   refine wn (Ai 2 []) ⟨[(2,.ptr 1 0),(4,.ptr 3 0)],[(kP t.2),[iP 0,iP 0,tP ⟨#[]⟩,iP 0,iP 0,tP ⟨#[]⟩,.sl [] .own,iP 0,iP 0],(kT t.1),[iP 1,iP t.1.N,tP t.1.S,iP 0,iP 0,tP ⟨#[]⟩,.sl [] .own,iP 0,iP t.1.At]]⟩ tI ?_
   refine wn (Ai 2 []) ⟨[(2,.ptr 1 0)],[(kP t.2),[iP 1,iP t.1.N,tP t.1.S,iP 0,iP 0,tP ⟨#[]⟩,.sl [] .shared,iP 0,iP t.1.At],(kT t.1),[iP 1,iP t.1.N,tP t.1.S,iP 0,iP 0,tP ⟨#[]⟩,.sl [] .own,iP 0,iP t.1.At]]⟩ tI ?_
   cases h
   exact rt hQ
 . refine zF (test hc5) ?_
   refine wn (Ai 2 []) ⟨[(0,.ptr 0 0),(2,.ptr 1 0),(3,.ptr 2 0),(4,.ptr 3 0),(15,iP t.1.Kind),(40,bP (t.1.Kind == 2))],[(kP t.2),[iP 0,iP 0,tP ⟨#[]⟩,iP 0,iP 0,tP ⟨#[]⟩,.sl [] .own,iP 0,iP 0],(kT t.1),[iP 0,iP t.1.N,tP t.1.S,iP 0,iP 0,tP ⟨#[]⟩,.sl [] .own,iP 0,iP t.1.At]]⟩ tI ?_
   rcases Ak h with⟨hc4,h⟩|⟨hc4,h⟩
   . refine zT (test hc4) ?_
     refine wn (Ai 2 []) ⟨[(2,.ptr 1 0),(4,.ptr 3 0)],[(kP t.2),[iP 0,iP 0,tP ⟨#[]⟩,iP 0,iP 0,tP ⟨#[]⟩,.sl [] .own,iP 0,iP 0],(kT t.1),[iP 2,iP t.1.N,tP t.1.S,iP 0,iP 0,tP ⟨#[]⟩,.sl [] .own,iP 0,iP t.1.At]]⟩ tI ?_
     refine wn (Ai 2 []) ⟨[(2,.ptr 1 0)],[(kP t.2),[iP 2,iP t.1.N,tP t.1.S,iP 0,iP 0,tP ⟨#[]⟩,.sl [] .shared,iP 0,iP t.1.At],(kT t.1),[iP 2,iP t.1.N,tP t.1.S,iP 0,iP 0,tP ⟨#[]⟩,.sl [] .own,iP 0,iP t.1.At]]⟩ tI ?_
     cases h
     exact rt hQ
   . refine zF (test hc4) ?_
     refine wn (Ai 2 []) ⟨[(0,.ptr 0 0),(2,.ptr 1 0),(3,.ptr 2 0),(4,.ptr 3 0),(43,bP (t.1.Kind == 3))],[(kP t.2),[iP 0,iP 0,tP ⟨#[]⟩,iP 0,iP 0,tP ⟨#[]⟩,.sl [] .own,iP 0,iP 0],(kT t.1),[iP 0,iP t.1.N,tP t.1.S,iP 0,iP 0,tP ⟨#[]⟩,.sl [] .own,iP 0,iP t.1.At]]⟩ tI ?_
     rcases Ak h with⟨hc3,h⟩|⟨hc3,h⟩
     . refine zT (test hc3) ?_
       refine wn (Ai 2 []) ⟨[(2,.ptr 1 0),(4,.ptr 3 0)],[(kP t.2),[iP 0,iP 0,tP ⟨#[]⟩,iP 0,iP 0,tP ⟨#[]⟩,.sl [] .own,iP 0,iP 0],(kT t.1),[iP 3,iP t.1.N,tP t.1.S,iP 0,iP 0,tP ⟨#[]⟩,.sl [] .own,iP 0,iP t.1.At]]⟩ tI ?_
       refine wn (Ai 2 []) ⟨[(2,.ptr 1 0)],[(kP t.2),[iP 3,iP t.1.N,tP t.1.S,iP 0,iP 0,tP ⟨#[]⟩,.sl [] .shared,iP 0,iP t.1.At],(kT t.1),[iP 3,iP t.1.N,tP t.1.S,iP 0,iP 0,tP ⟨#[]⟩,.sl [] .own,iP 0,iP t.1.At]]⟩ tI ?_
       cases h
       exact rt hQ
     . refine zF (test hc3) ?_
       refine wn (Ai 2 []) ⟨[(0,.ptr 0 0),(2,.ptr 1 0),(3,.ptr 2 0),(4,.ptr 3 0)],[(kP t.2),[iP 0,iP 0,tP ⟨#[]⟩,iP 0,iP 0,tP ⟨#[]⟩,.sl [] .own,iP 0,iP 0],(kT t.1),[iP 0,iP t.1.N,tP ⟨#[]⟩,iP 0,iP 0,tP ⟨#[]⟩,.sl [] .own,iP 0,iP t.1.At]]⟩ tI ?_
       refine wn (Ai 2 []) ⟨[(0,.ptr 0 0),(2,.ptr 1 0),(4,.ptr 3 0),(18,tP t.1.S)],[(kP t.2),[iP 0,iP 0,tP ⟨#[]⟩,iP 0,iP 0,tP ⟨#[]⟩,.sl [] .own,iP 0,iP 0],(kT t.1),[iP 0,iP t.1.N,tP ⟨#[]⟩,iP 0,iP 0,tP ⟨#[]⟩,.sl [] .own,iP 0,iP t.1.At]]⟩ tI ?_
       refine zB ?_
       refine wn (Ai 2 []) ⟨[(0,.ptr 0 0),(2,.ptr 1 0),(4,.ptr 3 0),(18,tP t.1.S),(19,bP (decide (t.1.S=⟨#[45]⟩)))],[(kP t.2),[iP 0,iP 0,tP ⟨#[]⟩,iP 0,iP 0,tP ⟨#[]⟩,.sl [] .own,iP 0,iP 0],(kT t.1),[iP 0,iP t.1.N,tP ⟨#[]⟩,iP 0,iP 0,tP ⟨#[]⟩,.sl [] .own,iP 0,iP t.1.At]]⟩ tI ?_
       rcases Ak h with⟨hc2,h⟩|⟨hc2,h⟩
       . refine zT (test hc2) ?_
         obtain⟨y,hy,h⟩:=Ae h
         rcases y with⟨n_,p1⟩|⟨e,p2⟩
         . refine wn (Ai 1 (.meth (iP n_) (kP p1)::(Ai 5 []))) ⟨[(2,.ptr 1 0),(4,.ptr 3 0)],[(kP p1),[iP 0,iP 0,tP ⟨#[]⟩,iP 0,iP 0,tP ⟨#[]⟩,.sl [] .own,iP 0,iP 0],(kT t.1),[iP 2,iP (IntKind.i64.wrap (0-n_)),tP ⟨#[]⟩,iP 0,iP 0,tP ⟨#[]⟩,.sl [] .own,iP 0,iP t.1.At]]⟩ (aI (ER t.2 (.ok n_ p1) hy) tI) ?_
           refine wn (Ai 2 []) ⟨[(2,.ptr 1 0)],[(kP p1),[iP 2,iP (IntKind.i64.wrap (0-n_)),tP ⟨#[]⟩,iP 0,iP 0,tP ⟨#[]⟩,.sl [] .shared,iP 0,iP t.1.At],(kT t.1),[iP 2,iP (IntKind.i64.wrap (0-n_)),tP ⟨#[]⟩,iP 0,iP 0,tP ⟨#[]⟩,.sl [] .own,iP 0,iP t.1.At]]⟩ tI ?_
           cases h
           exact rt hQ
         . refine zz ?_
           cases h
           exact BX (Ai 1 (.mpan (pE e) (kP p2)::(Ai 5 []))) (aI (ER t.2 (.pan e p2) hy) tI) (by kernel_rfl) rfl hQ
       . refine zF (test hc2) ?_
         refine wn (Ai 2 []) ⟨[(0,.ptr 0 0),(2,.ptr 1 0),(4,.ptr 3 0),(18,tP t.1.S),(26,bP (decide (t.1.S=⟨#[45,62]⟩)))],[(kP t.2),[iP 0,iP 0,tP ⟨#[]⟩,iP 0,iP 0,tP ⟨#[]⟩,.sl [] .own,iP 0,iP 0],(kT t.1),[iP 0,iP t.1.N,tP ⟨#[]⟩,iP 0,iP 0,tP ⟨#[]⟩,.sl [] .own,iP 0,iP t.1.At]]⟩ tI ?_
         rcases Ak h with⟨hc1,h⟩|⟨hc1,h⟩
         . refine zT (test hc1) ?_
           refine wn (Ai 2 []) ⟨[(2,.ptr 1 0),(4,.ptr 3 0)],[(kP t.2),[iP 0,iP 0,tP ⟨#[]⟩,iP 0,iP 0,tP ⟨#[]⟩,.sl [] .own,iP 0,iP 0],(kT t.1),[iP 4,iP t.1.N,tP ⟨#[]⟩,iP 0,iP 0,tP ⟨#[]⟩,.sl [] .own,iP 0,iP t.1.At]]⟩ tI ?_
           refine wn (Ai 2 []) ⟨[(2,.ptr 1 0)],[(kP t.2),[iP 4,iP t.1.N,tP ⟨#[]⟩,iP 0,iP 0,tP ⟨#[]⟩,.sl [] .shared,iP 0,iP t.1.At],(kT t.1),[iP 4,iP t.1.N,tP ⟨#[]⟩,iP 0,iP 0,tP ⟨#[]⟩,.sl [] .own,iP 0,iP t.1.At]]⟩ tI ?_
           cases h
           exact rt hQ
         . refine zF (test hc1) ?_
           refine wn (Ai 2 []) ⟨[(0,.ptr 0 0),(2,.ptr 1 0),(4,.ptr 3 0),(29,bP (decide (t.1.S=⟨#[40]⟩)))],[(kP t.2),[iP 0,iP 0,tP ⟨#[]⟩,iP 0,iP 0,tP ⟨#[]⟩,.sl [] .own,iP 0,iP 0],(kT t.1),[iP 0,iP t.1.N,tP ⟨#[]⟩,iP 0,iP 0,tP ⟨#[]⟩,.sl [] .own,iP 0,iP t.1.At]]⟩ tI ?_
           rcases Ak h with⟨hc,h⟩|⟨hc,h⟩
           . refine zT (test hc) ?_
             obtain⟨y1,hy1,h⟩:=Ae h
             rcases y1 with⟨e1,p3⟩|⟨e2,p4⟩
             . refine wn (Ai 1 (.meth (.agg (kX e1)) (kP p3)::(Ai 4 []))) ⟨[(0,.ptr 0 0),(2,.ptr 1 0),(4,.ptr 3 0)],[(kP p3),[iP 0,iP 0,tP ⟨#[]⟩,iP 0,iP 0,tP ⟨#[]⟩,.sl [] .own,iP 0,iP 0],(kT t.1),[iP 5,iP t.1.N,tP ⟨#[]⟩,iP e1.Op,iP e1.N,tP e1.S,hX e1.Kids,iP e1.At,iP t.1.At]]⟩ (aI (DA n t.2 1 (.ok e1 p3) hy1) tI) ?_
               obtain⟨y2,hy2,h⟩:=Ae h
               rcases y2 with⟨n_1,p5⟩|⟨e3,p6⟩
               . refine wn (Ai 1 (.meth (.tup []) (kP p5)::[])) ⟨[(2,.ptr 1 0),(4,.ptr 3 0)],[(kP p5),[iP 0,iP 0,tP ⟨#[]⟩,iP 0,iP 0,tP ⟨#[]⟩,.sl [] .own,iP 0,iP 0],(kT t.1),[iP 5,iP t.1.N,tP ⟨#[]⟩,iP e1.Op,iP e1.N,tP e1.S,hX e1.Kids,iP e1.At,iP t.1.At]]⟩ (aI (Cd p3 ⟨#[41]⟩ (.ok n_1 p5) hy2) tI) ?_
                 refine wn (Ai 2 []) ⟨[(2,.ptr 1 0)],[(kP p5),[iP 5,iP t.1.N,tP ⟨#[]⟩,iP e1.Op,iP e1.N,tP e1.S,hX e1.Kids,iP e1.At,iP t.1.At],(kT t.1),[iP 5,iP t.1.N,tP ⟨#[]⟩,iP e1.Op,iP e1.N,tP e1.S,hX e1.Kids,iP e1.At,iP t.1.At]]⟩ tI ?_
                 cases h
                 exact rt hQ
               . refine zz ?_
                 cases h
                 exact BX (Ai 1 (.mpan (pE e3) (kP p6)::[])) (aI (Cd p3 ⟨#[41]⟩ (.pan e3 p6) hy2) tI) (by kernel_rfl) rfl hQ
             . refine zz ?_
               cases h
               exact BX (Ai 1 (.mpan (pE e2) (kP p4)::(Ai 4 []))) (aI (DA n t.2 1 (.pan e2 p4) hy1) tI) (by kernel_rfl) rfl hQ
           . refine zF (test hc) ?_
             refine wn (Ai 2 []) ⟨[(2,.ptr 1 0)],[(kP t.2),[iP 0,iP t.1.N,tP ⟨#[]⟩,iP 0,iP 0,tP ⟨#[]⟩,.sl [] .shared,iP 0,iP t.1.At],(kT t.1),[iP 0,iP t.1.N,tP ⟨#[]⟩,iP 0,iP 0,tP ⟨#[]⟩,.sl [] .own,iP 0,iP t.1.At]]⟩ tI ?_
             cases h
             exact rt hQ
theorem DI (n:Nat)(p:Ad)(r:(Ex Al Ad As))(h:Ck n p=some r):G7 r (fun v0 s0=>CA Tryz.prog 49 [] (kP p) (.ret (.agg (kA v0))) (kP s0)) (fun e0 s0=>CA Tryz.prog 49 [] (kP p) (.pan (pE e0)) (kP s0)):=(match r,h with|.ok v0 s0,h=>CA.fin (fun Q hQ=>Fv n p _ h Q hQ)|.pan e0 s0,h=>CA.finP (fun Q hQ=>Fv n p _ h Q hQ))
theorem HD:AM [(13,[9999,1,0,0,1,2,3,4,5,6,7]),(17,[9999,1,0,0,1,2,3,4,5,6,7,8,9])] Tryz.f26.ntmps (Tryz.f26.body.getD .skip)=true:=by kernel_rfl
theorem ET (n0:Nat)
 (ih_parse_parser_form:∀ m,m<=n0->∀ (p:Ad) (depth:Int) (r:(Ex Al Ad Af)),Bh m p depth=some r->G7 r (fun v0 s0=>CA Tryz.prog 26 [iP depth] (kP p) (.ret (.agg (kF v0))) (kP s0)) (fun e0 s0=>CA Tryz.prog 26 [iP depth] (kP p) (.pan (pE e0)) (kP s0)))
 (n:Nat) (hn:n<=n0) (p:Ad) (depth:Int) (r:(Ex Al Ad Af)) (h:Bh (n+1) p depth=some r) (Q:B7->List (List PV)->Prop) (hQ:G7 r (fun v0 s0=>∀ y,shareP y=.agg (kF v0)->Q (.ret y) [(kP s0)]) (fun e0 s0=>Q (.pan (pE e0)) [(kP s0)])) :
 VC Tryz.prog 26 (.ptr 0 0::[iP depth]) [(kP p)] Q:=by
 replace h:=(Bh.eq_2 (n:=n) _ _).symm.trans h
 refine VC.intro ⟨[0,1,4,5,6,14,32,49,57,63,76,80],[(13,[9999,1,0,0,1,2,3,4,5,6,7]),(17,[9999,1,0,0,1,2,3,4,5,6,7,8,9])]⟩ Tryz.func26 rfl follows HD (by rw [Tryz.ntmps26];exact lb rfl) ?_
 refine B4 ?_
 refine zz ?_
 refine wn (Ai 1 []) ⟨[(0,.ptr 0 0),(1,iP depth),(4,.ptr 1 0)],[(kP p),[tP ⟨#[]⟩,.sl [] .own,.sl [] .own,iP 0]]⟩ tI ?_
 obtain⟨x,hx,h⟩:=Ae h
 refine wn (Ai 4 (.val (.vptr (kT x) 0)::(Ai 3 []))) ⟨[(0,.ptr 0 0),(1,iP depth),(4,.ptr 1 0),(14,bP (x.Kind != 1))],[(kP p),[tP ⟨#[]⟩,.sl [] .own,.sl [] .own,iP 0]]⟩ (aI (oi hx Ba (Br x)) tI) ?_
 obtain⟨y,e,h⟩:=Ae h
 refine AJ (A:=((List Ab)×Int)) (fun v=>.inl v=y) (fun y=>match y with|(p1,p2)=>⟨[(0,.ptr 0 0),(1,iP depth),(4,.ptr 1 0)],[[hT p1,iP p2],[tP ⟨#[]⟩,.sl [] .own,.sl [] .own,iP 0]]⟩) ?_ ?_
 . rintro⟨p1,p2⟩ rfl
   show WS _ _ _ _ _ ⟨[(0,.ptr 0 0),(1,iP depth),(4,.ptr 1 0)],[[hT p1,iP p2],[tP ⟨#[]⟩,.sl [] .own,.sl [] .own,iP 0]]⟩
   refine zz ?_
   refine wn (Ai 8 []) ⟨[(0,.ptr 0 0),(1,iP depth),(4,.ptr 1 0)],[[hT p1,iP (IntKind.i64.wrap (p2+1))],[tP ⟨#[]⟩,.sl [] .own,.sl [] .own,iP 0]]⟩ tI ?_
   obtain⟨y1,e1,h⟩:=Ae h
   refine AJ (A:=Bool) (fun v=>v=y1) (fun v32=>⟨[(0,.ptr 0 0),(1,iP depth),(4,.ptr 1 0),(32,bP v32)],[[hT p1,iP (IntKind.i64.wrap (p2+1))],[tP ⟨#[]⟩,.sl [] .own,.sl [] .own,iP 0]]⟩) ?_ ?_
   . rintro v32 rfl
     show WS _ _ _ _ _ ⟨[(0,.ptr 0 0),(1,iP depth),(4,.ptr 1 0),(32,bP v32)],[[hT p1,iP (IntKind.i64.wrap (p2+1))],[tP ⟨#[]⟩,.sl [] .own,.sl [] .own,iP 0]]⟩
     refine zz ?_
     obtain⟨y2,e2,h⟩:=Ae h
     refine AJ (A:=((List Ab)×Int)) (fun v=>.inl v=y2) (fun y2=>match y2 with|(p3,p4)=>⟨[(0,.ptr 0 0),(1,iP depth),(4,.ptr 1 0)],[[hT p3,iP p4],[tP ⟨#[]⟩,.sl [] .own,.sl [] .own,iP 0]]⟩) ?_ ?_
     . rintro⟨p3,p4⟩ rfl
       show WS _ _ _ _ _ ⟨[(0,.ptr 0 0),(1,iP depth),(4,.ptr 1 0)],[[hT p3,iP p4],[tP ⟨#[]⟩,.sl [] .own,.sl [] .own,iP 0]]⟩
       refine zz ?_
       obtain⟨t,ht,h⟩:=Ae h
       refine wn (Ai 1 (.meth (.agg (kT t.1)) (kP t.2)::(Ai 2 []))) ⟨[(0,.ptr 0 0),(1,iP depth),(4,.ptr 1 0),(5,.ptr 2 0)],[(kP t.2),[tP ⟨#[]⟩,.sl [] .own,.sl [] .own,iP 0],(kT t.1)]⟩ (aI (AY (Ad.mk p3 p4) t ht) tI) ?_
       refine wn (Ai 7 []) ⟨[(0,.ptr 0 0),(1,iP depth),(4,.ptr 1 0),(6,.ptr 3 0)],[(kP t.2),[tP ⟨#[]⟩,.sl [] .own,.sl [] .own,iP 0],(kT t.1),[tP t.1.S,.sl [] .own,.sl [] .own,iP t.1.At]]⟩ tI ?_
       obtain⟨y3,e3,h⟩:=Ae h
       refine AJ (A:=((List Ab)×Int×(List As))) (fun v=>.inl v=y3) (fun y3=>match y3 with|(p5,p6,f)=>⟨[(0,.ptr 0 0),(1,iP depth),(4,.ptr 1 0),(6,.ptr 3 0)],[[hT p5,iP p6],[tP ⟨#[]⟩,.sl [] .own,.sl [] .own,iP 0],(kT t.1),[tP t.1.S,oA f,.sl [] .own,iP t.1.At]]⟩) ?_ ?_
       . rintro⟨p5,p6,f⟩ rfl
         show WS _ _ _ _ _ ⟨[(0,.ptr 0 0),(1,iP depth),(4,.ptr 1 0),(6,.ptr 3 0)],[[hT p5,iP p6],[tP ⟨#[]⟩,.sl [] .own,.sl [] .own,iP 0],(kT t.1),[tP t.1.S,oA f,.sl [] .own,iP t.1.At]]⟩
         refine zz ?_
         obtain⟨n_,hn_,h⟩:=Ae h
         refine wn (Ai 1 (.meth (.agg (kT n_.1)) (kP n_.2)::(Ai 2 []))) ⟨[(0,.ptr 0 0),(1,iP depth),(4,.ptr 1 0),(6,.ptr 3 0),(76,bP (decide (n_.1.S=⟨#[59]⟩)))],[(kP n_.2),[tP ⟨#[]⟩,.sl [] .own,.sl [] .own,iP 0],(kT t.1),[tP t.1.S,oA f,.sl [] .own,iP t.1.At]]⟩ (aI (AY (Ad.mk p5 p6) n_ hn_) tI) ?_
         rcases Ak h with⟨hc1,h⟩|⟨hc1,h⟩
         . refine zT (test hc1) ?_
           refine wn (Ai 2 []) ⟨[(0,.ptr 0 0),(1,iP depth),(4,.ptr 1 0),(6,.ptr 3 0)],[(kP n_.2),[tP t.1.S,hA f,.sl [] .shared,iP t.1.At],(kT t.1),[tP t.1.S,oA f,.sl [] .own,iP t.1.At]]⟩ tI ?_
           cases h
           exact rt hQ
         . refine zF (test hc1) ?_
           obtain⟨y4,e4,h⟩:=Ae h
           refine AJ (A:=((List Ab)×Int×(List Af))) (fun v=>.inl v=y4) (fun y4=>match y4 with|(p7,p8,f1)=>⟨[(0,.ptr 0 0),(4,.ptr 1 0),(6,.ptr 3 0)],[[hT p7,iP p8],[tP ⟨#[]⟩,.sl [] .own,.sl [] .own,iP 0],(kT t.1),[tP t.1.S,oA f,oF f1,iP t.1.At]]⟩) ?_ ?_
           . rintro⟨p7,p8,f1⟩ rfl
             show WS _ _ _ _ _ ⟨[(0,.ptr 0 0),(4,.ptr 1 0),(6,.ptr 3 0)],[[hT p7,iP p8],[tP ⟨#[]⟩,.sl [] .own,.sl [] .own,iP 0],(kT t.1),[tP t.1.S,oA f,oF f1,iP t.1.At]]⟩
             refine zz ?_
             obtain⟨n_1,hn_1,h⟩:=Ae h
             refine wn (Ai 1 (.meth (.agg (kT n_1.1)) (kP n_1.2)::[])) ⟨[(4,.ptr 1 0),(6,.ptr 3 0)],[(kP n_1.2),[tP ⟨#[]⟩,.sl [] .own,.sl [] .own,iP 0],(kT t.1),[tP t.1.S,oA f,oF f1,iP t.1.At]]⟩ (aI (AY (Ad.mk p7 p8) n_1 hn_1) tI) ?_
             refine wn (Ai 2 []) ⟨[(4,.ptr 1 0)],[(kP n_1.2),[tP t.1.S,hA f,hF f1,iP t.1.At],(kT t.1),[tP t.1.S,oA f,oF f1,iP t.1.At]]⟩ tI ?_
             cases h
             exact rt hQ
           . intro hJ4
             refine zz ?_
             refine zB ?_
             refine C9 [0,1,4,6] 4 (fun a:Nat×((List Ab)×Int×(List Af))=>a.1<=n0/\Bv a.1 depth a.2.1 a.2.2.1 a.2.2.2=some y4) (fun a=>a.1) (fun a:Nat×((List Ab)×Int×(List Af))=>match a with|(_,(p9,p10,f2))=>⟨[(0,.ptr 0 0),(1,iP depth),(4,.ptr 1 0),(6,.ptr 3 0)],[[hT p9,iP p10],[tP ⟨#[]⟩,.sl [] .own,.sl [] .own,iP 0],(kT t.1),[tP t.1.S,oA f,oF f2,iP t.1.At]]⟩) (n,(n_.2.l,n_.2.forms,[])) (lb rfl) rfl ⟨hn,e4⟩ ?_
             clear e4 hn
             rintro⟨n,p9,p10,f2⟩ ⟨hn,e4⟩
             show WS _ _ _ _ _ ⟨[(0,.ptr 0 0),(1,iP depth),(4,.ptr 1 0),(6,.ptr 3 0)],[[hT p9,iP p10],[tP ⟨#[]⟩,.sl [] .own,.sl [] .own,iP 0],(kT t.1),[tP t.1.S,oA f,oF f2,iP t.1.At]]⟩
             cases n with
             |zero=>exact absurd e4 (by simp [Bv])
             |succ n =>
              replace e4:=(Bv.eq_2 (n:=n) _ _ _ _).symm.trans e4
              replace hn:n<=n0:=by omega
              refine zz ?_
              obtain⟨i,hi,e4⟩:=Ae e4
              refine wn (Ai 1 (.meth (bP i) [hT p9,iP p10]::(Ai 1 []))) ⟨[(0,.ptr 0 0),(1,iP depth),(4,.ptr 1 0),(6,.ptr 3 0),(80,bP (!i))],[[hT p9,iP p10],[tP ⟨#[]⟩,.sl [] .own,.sl [] .own,iP 0],(kT t.1),[tP t.1.S,oA f,oF f2,iP t.1.At]]⟩ (aI (Bi (Ad.mk p9 p10) ⟨#[125]⟩ i hi) tI) ?_
              rcases Ak e4 with⟨hc,e4⟩|⟨hc,e4⟩
              . refine zT (test hc) ?_
                refine zB ?_
                obtain⟨y5,hy5,e4⟩:=Ae e4
                rcases y5 with⟨f3,p11⟩|⟨e5,p12⟩
                . obtain⟨l,hl,e4⟩:=Ae e4
                  have fb:([(kF f3)]:List (List PV))=l.map AD:=by rw [<- Ac hl];simp only [List.map_cons,List.map_nil,A4]
                  obtain⟨l1,hl1,e4⟩:=Ae e4
                  refine Rt [0] [0,1,2,3,4,5,6,7,8,9] (Ai 5 (.meth (.agg (kF f3)) (kP p11)::(.val (oF l)::(.val (oF l1)::(Ai 2 []))))) ⟨[(0,.ptr 0 0),(1,iP depth),(4,.ptr 1 0),(6,.ptr 3 0)],[(kP p11),[tP ⟨#[]⟩,.sl [] .own,.sl [] .own,iP 0],(kT t.1),[tP t.1.S,oA f,oF l1,iP t.1.At]]⟩ (aI (ih_parse_parser_form n hn (Ad.mk p9 p10) (IntKind.i64.wrap (depth+1)) (.ok f3 p11) hy5) (aI (Cb rfl fb) (aI (Oa hl1 Az) tI))) ?_
                  exact zz (AQ (n,(p11.l,p11.forms,l1)) rfl ⟨hn,e4⟩ (Nat.lt_succ_self _))
                . refine zz ?_
                  cases e4
                  cases h
                  exact FZ [0] [0,1,2,3,4,5,6,7,8,9] (Ai 5 (.mpan (pE e5) (kP p12)::(Ai 4 []))) (aI (ih_parse_parser_form n hn (Ad.mk p9 p10) (IntKind.i64.wrap (depth+1)) (.pan e5 p12) hy5) tI) (by kernel_rfl) rfl hQ
              . refine zF (test hc) ?_
                try refine z5 rfl ?_
                exact zz (BN [0,4,6] 4 rfl (lb rfl) rfl (hJ4 (p9,p10,f2) (Ac e4)))
       . intro hJ3
         refine zz ?_
         refine zB ?_
         refine C9 [0,1,4,6] 4 (fun a:Nat×((List Ab)×Int×(List As))=>a.1<=n0/\AV a.1 a.2.1 a.2.2.1 a.2.2.2=some y3) (fun a=>a.1) (fun a:Nat×((List Ab)×Int×(List As))=>match a with|(_,(p13,p14,f4))=>⟨[(0,.ptr 0 0),(1,iP depth),(4,.ptr 1 0),(6,.ptr 3 0)],[[hT p13,iP p14],[tP ⟨#[]⟩,.sl [] .own,.sl [] .own,iP 0],(kT t.1),[tP t.1.S,oA f4,.sl [] .own,iP t.1.At]]⟩) (n,(t.2.l,t.2.forms,[])) (lb rfl) rfl ⟨hn,e3⟩ ?_
         clear e3 hn
         rintro⟨n,p13,p14,f4⟩ ⟨hn,e3⟩
         show WS _ _ _ _ _ ⟨[(0,.ptr 0 0),(1,iP depth),(4,.ptr 1 0),(6,.ptr 3 0)],[[hT p13,iP p14],[tP ⟨#[]⟩,.sl [] .own,.sl [] .own,iP 0],(kT t.1),[tP t.1.S,oA f4,.sl [] .own,iP t.1.At]]⟩
         cases n with
         |zero=>exact absurd e3 (by simp [AV])
         |succ n =>
          replace e3:=(AV.eq_2 (n:=n) _ _ _).symm.trans e3
          replace hn:n<=n0:=by omega
          refine zz ?_
          obtain⟨y6,e6,e3⟩:=Ae e3
          refine AJ (A:=Bool) (fun v=>v=y6) (fun v49=>⟨[(0,.ptr 0 0),(1,iP depth),(4,.ptr 1 0),(6,.ptr 3 0),(49,bP v49)],[[hT p13,iP p14],[tP ⟨#[]⟩,.sl [] .own,.sl [] .own,iP 0],(kT t.1),[tP t.1.S,oA f4,.sl [] .own,iP t.1.At]]⟩) ?_ ?_
          . rintro v49 rfl
            show WS _ _ _ _ _ ⟨[(0,.ptr 0 0),(1,iP depth),(4,.ptr 1 0),(6,.ptr 3 0),(49,bP v49)],[[hT p13,iP p14],[tP ⟨#[]⟩,.sl [] .own,.sl [] .own,iP 0],(kT t.1),[tP t.1.S,oA f4,.sl [] .own,iP t.1.At]]⟩
            refine zz ?_
            rcases Ak e3 with⟨hc5,e3⟩|⟨hc5,e3⟩
            . refine zT (test hc5) ?_
              refine zB ?_
              obtain⟨y7,e7,e3⟩:=Ae e3
              refine AJ (A:=Bool) (fun v=>v=y7) (fun v57=>⟨[(0,.ptr 0 0),(1,iP depth),(4,.ptr 1 0),(6,.ptr 3 0),(57,bP v57)],[[hT p13,iP p14],[tP ⟨#[]⟩,.sl [] .own,.sl [] .own,iP 0],(kT t.1),[tP t.1.S,oA f4,.sl [] .own,iP t.1.At]]⟩) ?_ ?_
              . rintro v57 rfl
                show WS _ _ _ _ _ ⟨[(0,.ptr 0 0),(1,iP depth),(4,.ptr 1 0),(6,.ptr 3 0),(57,bP v57)],[[hT p13,iP p14],[tP ⟨#[]⟩,.sl [] .own,.sl [] .own,iP 0],(kT t.1),[tP t.1.S,oA f4,.sl [] .own,iP t.1.At]]⟩
                refine zz ?_
                obtain⟨y8,e8,e3⟩:=Ae e3
                refine AJ (A:=((List Ab)×Int)) (fun v=>.inl v=y8) (fun y8=>match y8 with|(p15,p16)=>⟨[(0,.ptr 0 0),(1,iP depth),(4,.ptr 1 0),(6,.ptr 3 0)],[[hT p15,iP p16],[tP ⟨#[]⟩,.sl [] .own,.sl [] .own,iP 0],(kT t.1),[tP t.1.S,oA f4,.sl [] .own,iP t.1.At]]⟩) ?_ ?_
                . rintro⟨p15,p16⟩ rfl
                  show WS _ _ _ _ _ ⟨[(0,.ptr 0 0),(1,iP depth),(4,.ptr 1 0),(6,.ptr 3 0)],[[hT p15,iP p16],[tP ⟨#[]⟩,.sl [] .own,.sl [] .own,iP 0],(kT t.1),[tP t.1.S,oA f4,.sl [] .own,iP t.1.At]]⟩
                  refine zz ?_
                  refine wn (Ai 2 (.val (iP (f4.length:Int))::(Ai 1 []))) ⟨[(0,.ptr 0 0),(1,iP depth),(4,.ptr 1 0),(6,.ptr 3 0),(63,bP ((f4.length:Int) == 40))],[[hT p15,iP p16],[tP ⟨#[]⟩,.sl [] .own,.sl [] .own,iP 0],(kT t.1),[tP t.1.S,oA f4,.sl [] .own,iP t.1.At]]⟩ (aI (CV f4 Bt) tI) ?_
                  rcases Ak e3 with⟨hc2,e3⟩|⟨hc2,e3⟩
                  . refine zT (test hc2) ?_
                    obtain⟨y9,hy9,e3⟩:=Ae e3
                    rcases y9 with⟨f5,p17⟩|⟨e9,p18⟩
                    . refine wn (Ai 1 (.meth (.tup []) (kP p17)::[])) ⟨[(0,.ptr 0 0),(1,iP depth),(4,.ptr 1 0),(6,.ptr 3 0)],[(kP p17),[tP ⟨#[]⟩,.sl [] .own,.sl [] .own,iP 0],(kT t.1),[tP t.1.S,oA f4,.sl [] .own,iP t.1.At]]⟩ (aI (AB (Ad.mk p15 p16) 2 (.ok f5 p17) hy9) tI) ?_
                      obtain⟨y10,hy10,e3⟩:=Ae e3
                      rcases y10 with⟨a_,p19⟩|⟨e10,p20⟩
                      . obtain⟨l2,hl2,e3⟩:=Ae e3
                        have fb1:([(kA a_)]:List (List PV))=l2.map Bt:=by rw [<- Ac hl2];simp only [List.map_cons,List.map_nil,BG]
                        obtain⟨l3,hl3,e3⟩:=Ae e3
                        refine Rt [0] [0,1,2,3,4,5,6,7] (Ai 3 (.meth (.agg (kA a_)) (kP p19)::(.val (oA l2)::(.val (oA l3)::(Ai 2 []))))) ⟨[(0,.ptr 0 0),(1,iP depth),(4,.ptr 1 0),(6,.ptr 3 0)],[(kP p19),[tP ⟨#[]⟩,.sl [] .own,.sl [] .own,iP 0],(kT t.1),[tP t.1.S,oA l3,.sl [] .own,iP t.1.At]]⟩ (aI (DI n p17 (.ok a_ p19) hy10) (aI (Cb rfl fb1) (aI (Oa hl3 B5) tI))) ?_
                        exact zz (AQ (n,(p19.l,p19.forms,l3)) rfl ⟨hn,e3⟩ (Nat.lt_succ_self _))
                      . refine zz ?_
                        cases e3
                        cases h
                        exact FZ [0] [0,1,2,3,4,5,6,7] (Ai 3 (.mpan (pE e10) (kP p20)::(Ai 4 []))) (aI (DI n p17 (.pan e10 p20) hy10) tI) (by kernel_rfl) rfl hQ
                    . refine zz ?_
                      cases e3
                      cases h
                      exact BX (Ai 1 (.mpan (pE e9) (kP p18)::[])) (aI (AB (Ad.mk p15 p16) 2 (.pan e9 p18) hy9) tI) (by kernel_rfl) rfl hQ
                  . refine zF (test hc2) ?_
                    obtain⟨y11,hy11,e3⟩:=Ae e3
                    rcases y11 with⟨a_1,p21⟩|⟨e11,p22⟩
                    . obtain⟨l4,hl4,e3⟩:=Ae e3
                      have fb2:([(kA a_1)]:List (List PV))=l4.map Bt:=by rw [<- Ac hl4];simp only [List.map_cons,List.map_nil,BG]
                      obtain⟨l5,hl5,e3⟩:=Ae e3
                      refine Rt [0] [0,1,2,3,4,5,6,7] (Ai 3 (.meth (.agg (kA a_1)) (kP p21)::(.val (oA l4)::(.val (oA l5)::(Ai 2 []))))) ⟨[(0,.ptr 0 0),(1,iP depth),(4,.ptr 1 0),(6,.ptr 3 0)],[(kP p21),[tP ⟨#[]⟩,.sl [] .own,.sl [] .own,iP 0],(kT t.1),[tP t.1.S,oA l5,.sl [] .own,iP t.1.At]]⟩ (aI (DI n (Ad.mk p15 p16) (.ok a_1 p21) hy11) (aI (Cb rfl fb2) (aI (Oa hl5 B5) tI))) ?_
                      exact zz (AQ (n,(p21.l,p21.forms,l5)) rfl ⟨hn,e3⟩ (Nat.lt_succ_self _))
                    . refine zz ?_
                      cases e3
                      cases h
                      exact FZ [0] [0,1,2,3,4,5,6,7] (Ai 3 (.mpan (pE e11) (kP p22)::(Ai 4 []))) (aI (DI n (Ad.mk p15 p16) (.pan e11 p22) hy11) tI) (by kernel_rfl) rfl hQ
                . intro hJ7
                  refine zz ?_
                  rcases Ak e8 with⟨hc3,e8⟩|⟨hc3,e8⟩
                  . refine zT (test hc3) ?_
                    obtain⟨y12,hy12,e8⟩:=Ae e8
                    rcases y12 with⟨f6,p23⟩|⟨e12,p24⟩
                    . refine wq (Ai 1 (.meth (.tup []) (kP p23)::[])) ⟨[(0,.ptr 0 0),(1,iP depth),(4,.ptr 1 0),(6,.ptr 3 0)],[(kP p23),[tP ⟨#[]⟩,.sl [] .own,.sl [] .own,iP 0],(kT t.1),[tP t.1.S,oA f4,.sl [] .own,iP t.1.At]]⟩ (aI (AB (Ad.mk p13 p14) 5 (.ok f6 p23) hy12) tI) ?_
                      exact zz (BN [0,1,4,6] 4 rfl (lb rfl) rfl (hJ7 (p23.l,p23.forms) (Ac e8)))
                    . refine zz ?_
                      cases e8
                      cases e3
                      cases h
                      exact BX (Ai 1 (.mpan (pE e12) (kP p24)::[])) (aI (AB (Ad.mk p13 p14) 5 (.pan e12 p24) hy12) tI) (by kernel_rfl) rfl hQ
                  . refine Aj (test hc3) ?_
                    exact zz (BN [0,1,4,6] 4 rfl (lb rfl) rfl (hJ7 (p13,p14) (Ac e8)))
              . intro hJ6
                obtain⟨b,hb,e7⟩:=Ae e7
                rcases Ak e7 with⟨hc4,e7⟩|⟨hc4,e7⟩
                . obtain⟨i1,hi1,e7⟩:=Ae e7
                  exact wq (Ai 1 (.meth (bP b) [hT p13,iP p14]::(Ai 1 (yT::(Ai 1 (.meth (bP i1) [hT p13,iP p14]::(Ai 2 []))))))) _ (aI (Cy (Ad.mk p13 p14) b hb) (aI (Aw hc4) (aI (Bi (Ad.mk p13 p14) ⟨#[45,62]⟩ i1 hi1) tI))) (hJ6 (!i1) (Ac e7))
                . exact wq (Ai 1 (.meth (bP b) [hT p13,iP p14]::(Ai 1 (yF::(Ai 4 []))))) _ (aI (Cy (Ad.mk p13 p14) b hb) (aI (Aw hc4) tI)) (hJ6 false (Ac e7))
            . refine zF (test hc5) ?_
              try refine z5 rfl ?_
              exact zz (BN [0,1,4,6] 4 rfl (lb rfl) rfl (hJ3 (p13,p14,f4) (Ac e3)))
          . intro hJ5
            obtain⟨i2,hi2,e6⟩:=Ae e6
            rcases Ak e6 with⟨hc6,e6⟩|⟨hc6,e6⟩
            . obtain⟨i3,hi3,e6⟩:=Ae e6
              exact wq (Ai 1 (.meth (bP i2) [hT p13,iP p14]::(Ai 1 (yT::(Ai 1 (.meth (bP i3) [hT p13,iP p14]::(Ai 2 []))))))) _ (aI (Bi (Ad.mk p13 p14) ⟨#[59]⟩ i2 hi2) (aI (Aw hc6) (aI (Bi (Ad.mk p13 p14) ⟨#[123]⟩ i3 hi3) tI))) (hJ5 (!i3) (Ac e6))
            . exact wq (Ai 1 (.meth (bP i2) [hT p13,iP p14]::(Ai 1 (yF::(Ai 4 []))))) _ (aI (Bi (Ad.mk p13 p14) ⟨#[59]⟩ i2 hi2) (aI (Aw hc6) tI)) (hJ5 false (Ac e6))
     . intro hJ2
       refine zz ?_
       rcases Ak e2 with⟨hc7,e2⟩|⟨hc7,e2⟩
       . refine zT (test hc7) ?_
         obtain⟨y13,hy13,e2⟩:=Ae e2
         rcases y13 with⟨f7,p25⟩|⟨e13,p26⟩
         . refine wq (Ai 1 (.meth (.tup []) (kP p25)::[])) ⟨[(0,.ptr 0 0),(1,iP depth),(4,.ptr 1 0)],[(kP p25),[tP ⟨#[]⟩,.sl [] .own,.sl [] .own,iP 0]]⟩ (aI (AB (Ad.mk p1 (IntKind.i64.wrap (p2+1))) 2 (.ok f7 p25) hy13) tI) ?_
           exact zz (BN [0,1,4] 2 rfl (lb rfl) rfl (hJ2 (p25.l,p25.forms) (Ac e2)))
         . refine zz ?_
           cases e2
           cases h
           exact BX (Ai 1 (.mpan (pE e13) (kP p26)::[])) (aI (AB (Ad.mk p1 (IntKind.i64.wrap (p2+1))) 2 (.pan e13 p26) hy13) tI) (by kernel_rfl) rfl hQ
       . refine Aj (test hc7) ?_
         exact zz (BN [0,1,4] 2 rfl (lb rfl) rfl (hJ2 (p1,(IntKind.i64.wrap (p2+1))) (Ac e2)))
   . intro hJ1
     rcases Ak e1 with⟨hc8,e1⟩|⟨hc8,e1⟩
     . exact wq (Ai 2 (yT::(Ai 6 []))) _ (aI (Aw hc8) tI) (hJ1 true (Ac e1))
     . exact wq (Ai 2 (yF::(Ai 6 []))) _ (aI (Aw hc8) tI) (hJ1 (decide (2000<(IntKind.i64.wrap (p2+1)))) (Ac e1))
 . intro hJ
   refine zz ?_
   rcases Ak e with⟨hc9,e⟩|⟨hc9,e⟩
   . refine zT (test hc9) ?_
     obtain⟨y14,hy14,e⟩:=Ae e
     rcases y14 with⟨f8,p27⟩|⟨e14,p28⟩
     . refine wq (Ai 1 (.meth (.tup []) (kP p27)::[])) ⟨[(0,.ptr 0 0),(1,iP depth),(4,.ptr 1 0)],[(kP p27),[tP ⟨#[]⟩,.sl [] .own,.sl [] .own,iP 0]]⟩ (aI (AB p 5 (.ok f8 p27) hy14) tI) ?_
       exact zz (BN [0,1,4] 2 rfl (lb rfl) rfl (hJ (p27.l,p27.forms) (Ac e)))
     . refine zz ?_
       cases e
       cases h
       exact BX (Ai 1 (.mpan (pE e14) (kP p28)::[])) (aI (AB p 5 (.pan e14 p28) hy14) tI) (by kernel_rfl) rfl hQ
   . refine Aj (test hc9) ?_
     exact zz (BN [0,1,4] 2 rfl (lb rfl) rfl (hJ (p.l,p.forms) (Ac e)))
theorem EA:∀ n:Nat,(∀ m,m<=n->∀ (p:Ad) (depth:Int) (r:(Ex Al Ad Af)),Bh m p depth=some r->G7 r (fun v0 s0=>CA Tryz.prog 26 [iP depth] (kP p) (.ret (.agg (kF v0))) (kP s0)) (fun e0 s0=>CA Tryz.prog 26 [iP depth] (kP p) (.pan (pE e0)) (kP s0)))
 |0=>(fun m hm p depth r h=>by
  obtain rfl:m=0:=by omega
  exact absurd h (by simp [Bh]))
 |n+1=>by
  have ih:=EA n
  exact fun m hm p depth r h=>by
   cases m with
   |zero=>exact absurd h (by simp [Bh])
   |succ m=>exact (match r,h with|.ok v0 s0,h=>CA.fin (fun Q hQ=>ET n (ih) m (by omega) p depth _ h Q hQ)|.pan e0 s0,h=>CA.finP (fun Q hQ=>ET n (ih) m (by omega) p depth _ h Q hQ))
theorem D9 (n:Nat)(p:Ad)(depth:Int)(r:(Ex Al Ad Af))(h:Bh n p depth=some r):G7 r (fun v0 s0=>CA Tryz.prog 26 [iP depth] (kP p) (.ret (.agg (kF v0))) (kP s0)) (fun e0 s0=>CA Tryz.prog 26 [iP depth] (kP p) (.pan (pE e0)) (kP s0)) :=
 (EA n) n (Nat.le_refl _) p depth r h
end Go.Proofs.YtgdalmleogphgaaGreatDoor
