/-
  The walks of chapter 32, second part: printed: the program computes the plain functions. (Printed by lift.py.) The walks of chapter 32, second part: sanity: the program computes the plain functions. (Printed by lift.py.) The walks of chapter 32, third part: joins: the program computes the plain functions. (Printed by lift.py.)
-/
import Derived.Test.YtgdalmleogphgaaGreatDoorU26
import Derived.Test.YtgdalmleogphgaaGreatDoorU39
import Derived.Test.YtgdalmleogphgaaGreatDoorU40
import Derived.Test.YtgdalmleogphgaaGreatDoorU41
namespace Go.Proofs.YtgdalmleogphgaaGreatDoor
open Go.RowKit Go.Q Go.Vl Go.Sp
set_option maxRecDepth 100000
set_option linter.unusedSimpArgs false
set_option linter.unusedVariables false
set_option maxHeartbeats 4000000
theorem vparse_PrintExpr_0 (n:Nat)(e:api_Expr)(r:(ByteArray×Int))(h:parse_PrintExpr n e=some r)(Q:AEnd->List (List PV)->Prop)(hQ:∀ y,shareP y=.tup [tP r.1,iP r.2]->Q (.ret y) []) :
 VC Tryz.prog 21 [.agg (kX e)] [] Q:=by
 unfold parse_PrintExpr at h
 refine VC.intro ⟨[0,1,2,3,4,5,7,16,29],[]⟩ Tryz.func21 rfl follows ok21 (by rw [Tryz.ntmps21];exact lb rfl) ?_
 refine WS_ofR ?_
 refine zz ?_
 refine wn (nos 3 []) ⟨[(1,.ptr 0 0),(2,tP ⟨#[]⟩),(3,iP 0)],[(kX e)]⟩ tI ?_
 refine wn (nos 3 []) ⟨[(1,.ptr 0 0),(2,tP ⟨#[]⟩),(3,iP 0),(4,.ptr 1 0)],[(kX e),[.sl [] .own,bP false]]⟩ tI ?_
 obtain⟨e1,he1,h⟩:=bindS h
 refine wn (nos 2 (.meth (.tup []) (kR e1.2)::[])) ⟨[(2,tP ⟨#[]⟩),(3,iP 0),(4,.ptr 1 0)],[(kX e),(kR e1.2)]⟩ (aI (vparse_printer_expr n (parse_printer.mk [] false) (api_Expr.mk e.Op e.N e.S e.Kids e.At) e1 he1) tI) ?_
 refine wn (nos 4 []) ⟨[(2,tP ⟨#[]⟩),(3,iP 0),(4,.ptr 1 0),(16,bP e1.2.bad)],[(kX e),(kR e1.2)]⟩ tI ?_
 rcases condS h with⟨hc1,h⟩|⟨hc1,h⟩
 . refine zT (test hc1) ?_
   refine wn (nos 2 []) ⟨[(2,tP ⟨#[]⟩),(3,iP 1),(4,.ptr 1 0)],[(kX e),(kR e1.2)]⟩ tI ?_
   cases h
   exact rt hQ
 . refine zF (test hc1) ?_
   obtain⟨s,hs,h⟩:=bindS h
   refine wn (nos 4 (.call (tP s)::(nos 1 []))) ⟨[(2,tP ⟨#[]⟩),(3,iP 0),(5,tP s)],[(kX e),(kR e1.2)]⟩ (aI (vTextP e1.2.l s hs) tI) ?_
   obtain⟨e2,he2,h⟩:=bindS h
   refine wn (nos 1 (.call (.tup [.agg (kX e2.1),.agg [iP e2.2.At,iP e2.2.E]])::(nos 7 []))) ⟨[(2,tP ⟨#[]⟩),(3,iP 0),(5,tP s),(7,.ptr 3 0)],[(kX e),(kR e1.2),(kX e2.1),[iP e2.2.At,iP e2.2.E]]⟩ (aI (vparse_Expr n s e2 he2) tI) ?_
   refine wn (nos 3 []) ⟨[(2,tP ⟨#[]⟩),(3,iP 0),(5,tP s),(29,bP (e2.2.E != 0))],[(kX e),(kR e1.2),(kX e2.1),[iP e2.2.At,iP e2.2.E]]⟩ tI ?_
   rcases condS h with⟨hc,h⟩|⟨hc,h⟩
   . refine zT (test hc) ?_
     refine wn (nos 2 []) ⟨[(2,tP ⟨#[]⟩),(3,iP 2),(5,tP s)],[(kX e),(kR e1.2),(kX e2.1),[iP e2.2.At,iP e2.2.E]]⟩ tI ?_
     cases h
     exact rt hQ
   . refine zF (test hc) ?_
     refine wn (nos 3 []) ⟨[(2,tP s),(3,iP 0)],[(kX e),(kR e1.2),(kX e2.1),[iP e2.2.At,iP e2.2.E]]⟩ tI ?_
     cases h
     exact rt hQ
theorem vparse_PrintExpr (n:Nat)(e:api_Expr)(r:(ByteArray×Int))(h:parse_PrintExpr n e=some r):VCp Tryz.prog 21 [.agg (kX e)] (.tup [tP r.1,iP r.2]):=VC.fin (fun Q hQ=>vparse_PrintExpr_0 n e _ h Q hQ) rfl rfl
end Go.Proofs.YtgdalmleogphgaaGreatDoor
namespace Go.Proofs.YtgdalmleogphgaaGreatDoor
open Go.RowKit Go.Q Go.Vl Go.Sp
set_option maxRecDepth 100000
set_option linter.unusedSimpArgs false
set_option linter.unusedVariables false
set_option maxHeartbeats 4000000
theorem okp_law32_sanity:okCode [(14,[9999,0,0,1,2,3,4,5,6,7,8,9,10,11,12,13,15,16,17,14,18,19,20,21,22,23,24,25,26,27,28,29,30,32,31,33,34,35,36,37,38])] Tryz.f7.ntmps (Tryz.f7.body.getD .skip)=true:=by kernel_rfl
theorem vlaw32_sanity_0 (n:Nat)(r:Bool)(h:law32_sanity n=some r)(Q:AEnd->List (List PV)->Prop)(hQ:∀ y,shareP y=bP r->Q (.ret y) []) :
 VC Tryz.prog 7 [] [] Q:=by
 unfold law32_sanity at h
 refine VC.intro ⟨[0,1,2,3,4,5,6,7,8,9,10,11,12,13,14,15,16,18,20,22,24,90,157],[(14,[9999,0,0,1,2,3,4,5,6,7,8,9,10,11,12,13,15,16,17,14,18,19,20,21,22,23,24,25,26,27,28,29,30,32,31,33,34,35,36,37,38])]⟩ Tryz.func7 rfl follows okp_law32_sanity (by rw [Tryz.ntmps7];exact lb rfl) ?_
 refine WS_ofR ?_
 refine zz ?_
 refine wn (nos 1 []) ⟨[(0,bP false)],[]⟩ tI ?_
 obtain⟨f,hf,h⟩:=bindS h
 refine wn (.call (.tup [hF f.1,.agg [iP f.2.At,iP f.2.E]])::(nos 6 [])) ⟨[(0,bP false),(1,hF f.1),(2,.ptr 0 0)],[[iP f.2.At,iP f.2.E]]⟩ (aI (vparse_Forms n ⟨#[108,105,102,116,32,108,49,32,45,53,32,34,97,34,32,45,62,32,40,120,32,43,32,49,41,32,123,32,100,111,103,59,32,125]⟩ f hf) tI) ?_
 obtain⟨y,e,h⟩:=bindS h
 refine WS_meet (A:=Bool) (fun v=>v=y) (fun v90=>⟨[(0,bP false),(1,hF f.1),(90,bP v90)],[[iP f.2.At,iP f.2.E]]⟩) ?_ ?_
 . rintro v90 rfl
   show WS _ _ _ _ _ ⟨[(0,bP false),(1,hF f.1),(90,bP v90)],[[iP f.2.At,iP f.2.E]]⟩
   refine zz ?_
   rcases condS h with⟨hc12,h⟩|⟨hc12,h⟩
   . refine zT (test hc12) ?_
     refine wn (nos 1 []) ⟨[(0,bP false),(1,hF f.1)],[[iP f.2.At,iP f.2.E]]⟩ tI ?_
     cases h
     exact rt hQ
   . refine zF (test hc12) ?_
     refine wn (nos 1 []) ⟨[(0,bP false),(1,hF f.1),(3,.fn 22 [])],[[iP f.2.At,iP f.2.E]]⟩ tI ?_
     refine wn (nos 1 []) ⟨[(0,bP false),(1,hF f.1),(3,.fn 22 []),(4,.fn 23 [])],[[iP f.2.At,iP f.2.E]]⟩ tI ?_
     obtain⟨a_,ha_,h⟩:=bindS h
     refine wn (nos 1 (.call (.agg (kX a_))::(nos 2 []))) ⟨[(0,bP false),(1,hF f.1),(3,.fn 22 []),(4,.fn 23 []),(5,.ptr 1 0)],[[iP f.2.At,iP f.2.E],(kX a_)]⟩ (aI (vlaw32_sanity_1 ⟨#[97]⟩ a_ ha_) tI) ?_
     obtain⟨b,hb,h⟩:=bindS h
     refine wn (nos 1 (.call (.agg (kX b))::(nos 2 []))) ⟨[(0,bP false),(1,hF f.1),(3,.fn 22 []),(4,.fn 23 []),(5,.ptr 1 0),(6,.ptr 2 0)],[[iP f.2.At,iP f.2.E],(kX a_),(kX b)]⟩ (aI (vlaw32_sanity_1 ⟨#[98]⟩ b hb) tI) ?_
     obtain⟨c,hc,h⟩:=bindS h
     refine wn (nos 1 (.call (.agg (kX c))::(nos 2 []))) ⟨[(0,bP false),(1,hF f.1),(3,.fn 22 []),(4,.fn 23 []),(5,.ptr 1 0),(6,.ptr 2 0),(7,.ptr 3 0)],[[iP f.2.At,iP f.2.E],(kX a_),(kX b),(kX c)]⟩ (aI (vlaw32_sanity_1 ⟨#[99]⟩ c hc) tI) ?_
     obtain⟨e1,he1,h⟩:=bindS h
     refine wn (.call (.tup [.agg (kX e1.1),.agg [iP e1.2.At,iP e1.2.E]])::(nos 7 [])) ⟨[(0,bP false),(1,hF f.1),(3,.fn 22 []),(4,.fn 23 []),(5,.ptr 1 0),(6,.ptr 2 0),(7,.ptr 3 0),(8,.ptr 4 0),(9,.ptr 5 0)],[[iP f.2.At,iP f.2.E],(kX a_),(kX b),(kX c),(kX e1.1),[iP e1.2.At,iP e1.2.E]]⟩ (aI (vparse_Expr n ⟨#[97,32,45,32,98,32,45,32,99,32,42,32,45,100]⟩ e1 he1) tI) ?_
     obtain⟨e2,he2,h⟩:=bindS h
     refine wn (.call (.tup [.agg (kX e2.1),.agg [iP e2.2.At,iP e2.2.E]])::(nos 7 [])) ⟨[(0,bP false),(1,hF f.1),(3,.fn 22 []),(4,.fn 23 []),(5,.ptr 1 0),(6,.ptr 2 0),(7,.ptr 3 0),(8,.ptr 4 0),(9,.ptr 5 0),(10,.ptr 6 0),(11,.ptr 7 0)],[[iP f.2.At,iP f.2.E],(kX a_),(kX b),(kX c),(kX e1.1),[iP e1.2.At,iP e1.2.E],(kX e2.1),[iP e2.2.At,iP e2.2.E]]⟩ (aI (vparse_Expr n ⟨#[33,97,32,61,61,32,98,32,63,32,102,40,49,44,32,50,41,32,58,32,40,97,32,60,32,98,41,32,61,61,32,99]⟩ e2 he2) tI) ?_
     obtain⟨s,hs,h⟩:=bindS h
     obtain⟨l,hl,h⟩:=bindS h
     have fb:([(kX s)]:List (List PV))=l.map row_api_Expr:=by rw [<- Option.some.inj hl];simp only [List.map_cons,List.map_nil,row_api_Expr_eq]<;>rfl
     refine wn (nos 1 (.call (.agg (kX s))::(.val (oX l)::(nos 3 [])))) ⟨[(0,bP false),(1,hF f.1),(4,.fn 23 []),(5,.ptr 1 0),(6,.ptr 2 0),(7,.ptr 3 0),(8,.ptr 4 0),(9,.ptr 5 0),(10,.ptr 6 0),(11,.ptr 7 0),(12,.ptr 8 0)],[[iP f.2.At,iP f.2.E],(kX a_),(kX b),(kX c),(kX e1.1),[iP e1.2.At,iP e1.2.E],(kX e2.1),[iP e2.2.At,iP e2.2.E],[iP 6,iP 0,tP ⟨#[]⟩,hX l,iP 0]]⟩ (aI (vlaw32_sanity_1 ⟨#[100]⟩ s hs) (aI (obuild rfl fb) tI)) ?_
     obtain⟨s1,hs1,h⟩:=bindS h
     obtain⟨l1,hl1,h⟩:=bindS h
     have fb1:([(kX s1)]:List (List PV))=l1.map row_api_Expr:=by rw [<- Option.some.inj hl1];simp only [List.map_cons,List.map_nil,row_api_Expr_eq]<;>rfl
     refine wn (nos 3 (.call (.agg (kX s1))::(.val (oX l1)::(nos 3 [])))) ⟨[(0,bP false),(1,hF f.1),(4,.fn 23 []),(5,.ptr 1 0),(6,.ptr 2 0),(7,.ptr 3 0),(8,.ptr 4 0),(9,.ptr 5 0),(10,.ptr 6 0),(11,.ptr 7 0),(12,.ptr 8 0),(13,.ptr 9 0)],[[iP f.2.At,iP f.2.E],(kX a_),(kX b),(kX c),(kX e1.1),[iP e1.2.At,iP e1.2.E],(kX e2.1),[iP e2.2.At,iP e2.2.E],[iP 6,iP 0,tP ⟨#[]⟩,hX l,iP 0],[iP 5,iP 0,tP ⟨#[]⟩,hX l1,iP 0]]⟩ (aI (vlaw32_sanity_2 12 a_ b s1 hs1) (aI (obuild rfl fb1) tI)) ?_
     obtain⟨l2,hl2,h⟩:=bindS h
     have fb2:([[iP 1,iP 1,tP ⟨#[]⟩,.sl [] .shared,iP 0],[iP 1,iP 2,tP ⟨#[]⟩,.sl [] .shared,iP 0]]:List (List PV))=l2.map row_api_Expr:=by rw [<- Option.some.inj hl2];simp only [List.map_cons,List.map_nil,row_api_Expr_eq]<;>rfl
     refine wn (nos 2 (.val (oX l2)::(nos 3 []))) ⟨[(0,bP false),(1,hF f.1),(4,.fn 23 []),(5,.ptr 1 0),(6,.ptr 2 0),(7,.ptr 3 0),(8,.ptr 4 0),(9,.ptr 5 0),(10,.ptr 6 0),(11,.ptr 7 0),(12,.ptr 8 0),(13,.ptr 9 0),(14,.ptr 10 0)],[[iP f.2.At,iP f.2.E],(kX a_),(kX b),(kX c),(kX e1.1),[iP e1.2.At,iP e1.2.E],(kX e2.1),[iP e2.2.At,iP e2.2.E],[iP 6,iP 0,tP ⟨#[]⟩,hX l,iP 0],[iP 5,iP 0,tP ⟨#[]⟩,hX l1,iP 0],[iP 4,iP 0,tP ⟨#[102]⟩,hX l2,iP 0]]⟩ (aI (obuild rfl fb2) tI) ?_
     obtain⟨y1,e3,h⟩:=bindS h
     refine WS_meet (A:=Bool) (fun v=>v=y1) (fun v157=>⟨[(0,bP false),(1,hF f.1),(5,.ptr 1 0),(6,.ptr 2 0),(10,.ptr 6 0),(157,bP v157)],[[iP f.2.At,iP f.2.E],(kX a_),(kX b),(kX c),(kX e1.1),[iP e1.2.At,iP e1.2.E],(kX e2.1),[iP e2.2.At,iP e2.2.E],[iP 6,iP 0,tP ⟨#[]⟩,hX l,iP 0],[iP 5,iP 0,tP ⟨#[]⟩,hX l1,iP 0],[iP 4,iP 0,tP ⟨#[102]⟩,hX l2,iP 0]]⟩) ?_ ?_
     . rintro v157 rfl
       show WS _ _ _ _ _ ⟨[(0,bP false),(1,hF f.1),(5,.ptr 1 0),(6,.ptr 2 0),(10,.ptr 6 0),(157,bP v157)],[[iP f.2.At,iP f.2.E],(kX a_),(kX b),(kX c),(kX e1.1),[iP e1.2.At,iP e1.2.E],(kX e2.1),[iP e2.2.At,iP e2.2.E],[iP 6,iP 0,tP ⟨#[]⟩,hX l,iP 0],[iP 5,iP 0,tP ⟨#[]⟩,hX l1,iP 0],[iP 4,iP 0,tP ⟨#[102]⟩,hX l2,iP 0]]⟩
       refine zz ?_
       rcases condS h with⟨hc8,h⟩|⟨hc8,h⟩
       . refine zT (test hc8) ?_
         refine wn (nos 1 []) ⟨[(0,bP false),(1,hF f.1),(5,.ptr 1 0),(6,.ptr 2 0),(10,.ptr 6 0)],[[iP f.2.At,iP f.2.E],(kX a_),(kX b),(kX c),(kX e1.1),[iP e1.2.At,iP e1.2.E],(kX e2.1),[iP e2.2.At,iP e2.2.E],[iP 6,iP 0,tP ⟨#[]⟩,hX l,iP 0],[iP 5,iP 0,tP ⟨#[]⟩,hX l1,iP 0],[iP 4,iP 0,tP ⟨#[102]⟩,hX l2,iP 0]]⟩ tI ?_
         cases h
         exact rt hQ
       . refine zF (test hc8) ?_
         obtain⟨p,hp,h⟩:=bindS h
         refine wn (nos 1 (.call (.tup [tP p.1,iP p.2])::(nos 5 []))) ⟨[(0,bP false),(1,hF f.1),(5,.ptr 1 0),(6,.ptr 2 0),(15,tP p.1),(16,iP p.2)],[[iP f.2.At,iP f.2.E],(kX a_),(kX b),(kX c),(kX e1.1),[iP e1.2.At,iP e1.2.E],(kX e2.1),[iP e2.2.At,iP e2.2.E],[iP 6,iP 0,tP ⟨#[]⟩,hX l,iP 0],[iP 5,iP 0,tP ⟨#[]⟩,hX l1,iP 0],[iP 4,iP 0,tP ⟨#[102]⟩,hX l2,iP 0]]⟩ (aI (vparse_PrintExpr n e2.1 p hp) tI) ?_
         obtain⟨e4,he4,h⟩:=bindS h
         refine wn (.call (.tup [.agg (kX e4.1),.agg [iP e4.2.At,iP e4.2.E]])::(nos 7 [])) ⟨[(0,bP false),(1,hF f.1),(5,.ptr 1 0),(6,.ptr 2 0),(15,tP p.1),(16,iP p.2),(18,.ptr 12 0)],[[iP f.2.At,iP f.2.E],(kX a_),(kX b),(kX c),(kX e1.1),[iP e1.2.At,iP e1.2.E],(kX e2.1),[iP e2.2.At,iP e2.2.E],[iP 6,iP 0,tP ⟨#[]⟩,hX l,iP 0],[iP 5,iP 0,tP ⟨#[]⟩,hX l1,iP 0],[iP 4,iP 0,tP ⟨#[102]⟩,hX l2,iP 0],(kX e4.1),[iP e4.2.At,iP e4.2.E]]⟩ (aI (vparse_Expr n ⟨#[97,32,60,32,98,32,60,32,99]⟩ e4 he4) tI) ?_
         obtain⟨e5,he5,h⟩:=bindS h
         refine wn (.call (.tup [.agg (kX e5.1),.agg [iP e5.2.At,iP e5.2.E]])::(nos 7 [])) ⟨[(0,bP false),(1,hF f.1),(5,.ptr 1 0),(6,.ptr 2 0),(15,tP p.1),(16,iP p.2),(18,.ptr 12 0),(20,.ptr 14 0)],[[iP f.2.At,iP f.2.E],(kX a_),(kX b),(kX c),(kX e1.1),[iP e1.2.At,iP e1.2.E],(kX e2.1),[iP e2.2.At,iP e2.2.E],[iP 6,iP 0,tP ⟨#[]⟩,hX l,iP 0],[iP 5,iP 0,tP ⟨#[]⟩,hX l1,iP 0],[iP 4,iP 0,tP ⟨#[102]⟩,hX l2,iP 0],(kX e4.1),[iP e4.2.At,iP e4.2.E],(kX e5.1),[iP e5.2.At,iP e5.2.E]]⟩ (aI (vparse_Expr n ⟨#[97,32,98]⟩ e5 he5) tI) ?_
         obtain⟨e6,he6,h⟩:=bindS h
         refine wn (.call (.tup [.agg (kX e6.1),.agg [iP e6.2.At,iP e6.2.E]])::(nos 7 [])) ⟨[(0,bP false),(1,hF f.1),(5,.ptr 1 0),(6,.ptr 2 0),(15,tP p.1),(16,iP p.2),(18,.ptr 12 0),(20,.ptr 14 0),(22,.ptr 16 0)],[[iP f.2.At,iP f.2.E],(kX a_),(kX b),(kX c),(kX e1.1),[iP e1.2.At,iP e1.2.E],(kX e2.1),[iP e2.2.At,iP e2.2.E],[iP 6,iP 0,tP ⟨#[]⟩,hX l,iP 0],[iP 5,iP 0,tP ⟨#[]⟩,hX l1,iP 0],[iP 4,iP 0,tP ⟨#[102]⟩,hX l2,iP 0],(kX e4.1),[iP e4.2.At,iP e4.2.E],(kX e5.1),[iP e5.2.At,iP e5.2.E],(kX e6.1),[iP e6.2.At,iP e6.2.E]]⟩ (aI (vparse_Expr n ⟨#[120,32,40]⟩ e6 he6) tI) ?_
         obtain⟨f1,hf1,h⟩:=bindS h
         refine wn (.call (.tup [hF f1.1,.agg [iP f1.2.At,iP f1.2.E]])::(nos 6 [])) ⟨[(0,bP false),(1,hF f.1),(5,.ptr 1 0),(6,.ptr 2 0),(15,tP p.1),(16,iP p.2),(18,.ptr 12 0),(20,.ptr 14 0),(22,.ptr 16 0),(24,.ptr 17 0)],[[iP f.2.At,iP f.2.E],(kX a_),(kX b),(kX c),(kX e1.1),[iP e1.2.At,iP e1.2.E],(kX e2.1),[iP e2.2.At,iP e2.2.E],[iP 6,iP 0,tP ⟨#[]⟩,hX l,iP 0],[iP 5,iP 0,tP ⟨#[]⟩,hX l1,iP 0],[iP 4,iP 0,tP ⟨#[102]⟩,hX l2,iP 0],(kX e4.1),[iP e4.2.At,iP e4.2.E],(kX e5.1),[iP e5.2.At,iP e5.2.E],(kX e6.1),[iP e6.2.At,iP e6.2.E],[iP f1.2.At,iP f1.2.E]]⟩ (aI (vparse_Forms n ⟨#[120,32,45,32,121,59]⟩ f1 hf1) tI) ?_
         obtain⟨y2,e7,h⟩:=bindS h
         refine WS_meet (A:=Bool) (fun v=>v=y2) (fun v0_=>⟨[(0,bP v0_)],[[iP f.2.At,iP f.2.E],(kX a_),(kX b),(kX c),(kX e1.1),[iP e1.2.At,iP e1.2.E],(kX e2.1),[iP e2.2.At,iP e2.2.E],[iP 6,iP 0,tP ⟨#[]⟩,hX l,iP 0],[iP 5,iP 0,tP ⟨#[]⟩,hX l1,iP 0],[iP 4,iP 0,tP ⟨#[102]⟩,hX l2,iP 0],(kX e4.1),[iP e4.2.At,iP e4.2.E],(kX e5.1),[iP e5.2.At,iP e5.2.E],(kX e6.1),[iP e6.2.At,iP e6.2.E],[iP f1.2.At,iP f1.2.E]]⟩) ?_ ?_
         . rintro v0_ rfl
           show WS _ _ _ _ _ ⟨[(0,bP v0_)],[[iP f.2.At,iP f.2.E],(kX a_),(kX b),(kX c),(kX e1.1),[iP e1.2.At,iP e1.2.E],(kX e2.1),[iP e2.2.At,iP e2.2.E],[iP 6,iP 0,tP ⟨#[]⟩,hX l,iP 0],[iP 5,iP 0,tP ⟨#[]⟩,hX l1,iP 0],[iP 4,iP 0,tP ⟨#[102]⟩,hX l2,iP 0],(kX e4.1),[iP e4.2.At,iP e4.2.E],(kX e5.1),[iP e5.2.At,iP e5.2.E],(kX e6.1),[iP e6.2.At,iP e6.2.E],[iP f1.2.At,iP f1.2.E]]⟩
           refine zz ?_
           cases h
           exact rt hQ
         . intro hJ2
           rcases condS e7 with⟨hc1,e7⟩|⟨hc1,e7⟩
           . rcases condS e7 with⟨hc2,e7⟩|⟨hc2,e7⟩
             . rcases condS e7 with⟨hc3,e7⟩|⟨hc3,e7⟩
               . rcases condS e7 with⟨hc4,e7⟩|⟨hc4,e7⟩
                 . rcases condS e7 with⟨hc5,e7⟩|⟨hc5,e7⟩
                   . rcases condS e7 with⟨hc6,e7⟩|⟨hc6,e7⟩
                     . obtain⟨s2,hs2,e7⟩:=bindS e7
                       rcases condS e7 with⟨hc7,e7⟩|⟨hc7,e7⟩
                       . obtain⟨s3,hs3,e7⟩:=bindS e7
                         exact wq (nos 2 (yT::(nos 3 (yT::(nos 4 (yT::(nos 4 (yT::(nos 4 (yT::(nos 4 (yT::(nos 2 (.call (bP s2)::(nos 1 (yT::(nos 2 (.call (bP s3)::(nos 3 []))))))))))))))))))) _ (aI (otest hc1) (aI (otest hc2) (aI (otest hc3) (aI (otest hc4) (aI (otest hc5) (aI (otest hc6) (aI (vparse_Same n f.1 f.1 s2 hs2) (aI (otest hc7) (aI (vparse_SameExpr n a_ b s3 hs3) tI))))))))) (hJ2 (!s3) (Option.some.inj e7))
                       . exact wq (nos 2 (yT::(nos 3 (yT::(nos 4 (yT::(nos 4 (yT::(nos 4 (yT::(nos 4 (yT::(nos 2 (.call (bP s2)::(nos 1 (yF::(nos 6 []))))))))))))))))) _ (aI (otest hc1) (aI (otest hc2) (aI (otest hc3) (aI (otest hc4) (aI (otest hc5) (aI (otest hc6) (aI (vparse_Same n f.1 f.1 s2 hs2) (aI (otest hc7) tI)))))))) (hJ2 false (Option.some.inj e7))
                     . exact wq (nos 2 (yT::(nos 3 (yT::(nos 4 (yT::(nos 4 (yT::(nos 4 (yT::(nos 4 (yF::(nos 11 []))))))))))))) _ (aI (otest hc1) (aI (otest hc2) (aI (otest hc3) (aI (otest hc4) (aI (otest hc5) (aI (otest hc6) tI)))))) (hJ2 false (Option.some.inj e7))
                   . exact wq (nos 2 (yT::(nos 3 (yT::(nos 4 (yT::(nos 4 (yT::(nos 4 (yF::(nos 16 []))))))))))) _ (aI (otest hc1) (aI (otest hc2) (aI (otest hc3) (aI (otest hc4) (aI (otest hc5) tI))))) (hJ2 false (Option.some.inj e7))
                 . exact wq (nos 2 (yT::(nos 3 (yT::(nos 4 (yT::(nos 4 (yF::(nos 21 []))))))))) _ (aI (otest hc1) (aI (otest hc2) (aI (otest hc3) (aI (otest hc4) tI)))) (hJ2 false (Option.some.inj e7))
               . exact wq (nos 2 (yT::(nos 3 (yT::(nos 4 (yF::(nos 26 []))))))) _ (aI (otest hc1) (aI (otest hc2) (aI (otest hc3) tI))) (hJ2 false (Option.some.inj e7))
             . exact wq (nos 2 (yT::(nos 3 (yF::(nos 31 []))))) _ (aI (otest hc1) (aI (otest hc2) tI)) (hJ2 false (Option.some.inj e7))
           . exact wq (nos 2 (yF::(nos 35 []))) _ (aI (otest hc1) tI) (hJ2 false (Option.some.inj e7))
     . intro hJ1
       rcases condS e3 with⟨hc9,e3⟩|⟨hc9,e3⟩
       . exact wqD [] [0,1,2,3,4,5,6,7,8,9,10,11,12,13,15,16,17,14,18,19,20,21,22,23,24,25,26,27,28,29,30,32,31,33,34,35,36,37,38] (nos 3 (yT::(nos 35 []))) _ (aI (otest hc9) tI) (hJ1 true (Option.some.inj e3))
       . rcases condS e3 with⟨hc10,e3⟩|⟨hc10,e3⟩
         . exact wqD [] [0,1,2,3,4,5,6,7,8,9,10,11,12,13,15,16,17,14,18,19,20,21,22,23,24,25,26,27,28,29,30,32,31,33,34,35,36,37,38] (nos 3 (yF::(nos 4 (yT::(nos 30 []))))) _ (aI (otest hc9) (aI (otest hc10) tI)) (hJ1 true (Option.some.inj e3))
         . obtain⟨s4,hs4,e3⟩:=bindS e3
           obtain⟨s5,hs5,e3⟩:=bindS e3
           obtain⟨s6,hs6,e3⟩:=bindS e3
           obtain⟨s7,hs7,e3⟩:=bindS e3
           rcases condS e3 with⟨hc11,e3⟩|⟨hc11,e3⟩
           . exact wqD [] [0,1,2,3,4,5,6,7,8,9,10,11,12,13,15,16,17,14,18,19,20,21,22,23,24,25,26,27,28,29,30,32,31,33,34,35,36,37,38] (nos 3 (yF::(nos 4 (yF::(nos 8 (.call (.agg (kX s4))::(.call (.agg (kX s5))::(.call (.agg (kX s6))::(.call (bP s7)::(nos 2 (yT::(nos 15 [])))))))))))) _ (aI (otest hc9) (aI (otest hc10) (aI (vlaw32_sanity_2 11 a_ b s4 hs4) (aI (vlaw32_sanity_2 7 c (api_Expr.mk 6 0 ⟨#[]⟩ l 0) s5 hs5) (aI (vlaw32_sanity_2 11 s4 s5 s6 hs6) (aI (vparse_SameExpr n e1.1 s6 s7 hs7) (aI (otest hc11) tI))))))) (hJ1 true (Option.some.inj e3))
           . obtain⟨s8,hs8,e3⟩:=bindS e3
             obtain⟨s9,hs9,e3⟩:=bindS e3
             obtain⟨l3,hl3,e3⟩:=bindS e3
             have fb3:([[iP 5,iP 0,tP ⟨#[]⟩,hX l1,iP 0],[iP 4,iP 0,tP ⟨#[102]⟩,hX l2,iP 0],(kX s9)]:List (List PV))=l3.map row_api_Expr:=by rw [<- Option.some.inj hl3];simp only [List.map_cons,List.map_nil,row_api_Expr_eq]<;>rfl
             obtain⟨s10,hs10,e3⟩:=bindS e3
             exact wqD [] [0,1,2,3,4,5,6,7,8,9,10,11,12,13,15,16,17,14,18,19,20,21,22,23,24,25,26,27,28,29,30,32,31,33,34,35,36,37,38] (nos 3 (yF::(nos 4 (yF::(nos 8 (.call (.agg (kX s4))::(.call (.agg (kX s5))::(.call (.agg (kX s6))::(.call (bP s7)::(nos 2 (yF::(nos 8 (.call (.agg (kX s8))::(.call (.agg (kX s9))::(.val (oX l3)::(nos 1 (.call (bP s10)::(nos 2 [])))))))))))))))))) _ (aI (otest hc9) (aI (otest hc10) (aI (vlaw32_sanity_2 11 a_ b s4 hs4) (aI (vlaw32_sanity_2 7 c (api_Expr.mk 6 0 ⟨#[]⟩ l 0) s5 hs5) (aI (vlaw32_sanity_2 11 s4 s5 s6 hs6) (aI (vparse_SameExpr n e1.1 s6 s7 hs7) (aI (otest hc11) (aI (vlaw32_sanity_2 14 a_ b s8 hs8) (aI (vlaw32_sanity_2 12 s8 c s9 hs9) (aI (obuild rfl fb3) (aI (vparse_SameExpr n e2.1 (api_Expr.mk 20 0 ⟨#[]⟩ l3 0) s10 hs10) tI))))))))))) (hJ1 (!s10) (Option.some.inj e3))
 . intro hJ
   rcases condS e with⟨hc13,e⟩|⟨hc13,e⟩
   . exact wq (nos 3 (yT::(nos 58 []))) _ (aI (otest hc13) tI) (hJ true (Option.some.inj e))
   . rcases condS e with⟨hc14,e⟩|⟨hc14,e⟩
     . exact wq (nos 3 (yF::(nos 1 (.val (iP (f.1.length:Int))::(nos 2 (yT::(nos 53 []))))))) _ (aI (otest hc13) (aI (olen f.1 row_api_Form) (aI (otest hc14) tI))) (hJ true (Option.some.inj e))
     . obtain⟨x,hx,e⟩:=bindS e
       rcases condS e with⟨hc15,e⟩|⟨hc15,e⟩
       . exact wq (nos 3 (yF::(nos 1 (.val (iP (f.1.length:Int))::(nos 2 (yF::(nos 1 (.val (.vptr (kF x) 0)::(nos 4 (yT::(nos 46 []))))))))))) _ (aI (otest hc13) (aI (olen f.1 row_api_Form) (aI (otest hc14) (aI (oi hx row_api_Form_len (row_api_Form_eq x)) (aI (otest hc15) tI))))) (hJ true (Option.some.inj e))
       . rcases condS e with⟨hc16,e⟩|⟨hc16,e⟩
         . exact wq (nos 3 (yF::(nos 1 (.val (iP (f.1.length:Int))::(nos 2 (yF::(nos 1 (.val (.vptr (kF x) 0)::(nos 4 (yF::(nos 1 (.val (.vptr (kF x) 0)::(nos 2 (.val (iP (x.Args.length:Int))::(nos 2 (yT::(nos 38 []))))))))))))))))) _ (aI (otest hc13) (aI (olen f.1 row_api_Form) (aI (otest hc14) (aI (oi hx row_api_Form_len (row_api_Form_eq x)) (aI (otest hc15) (aI (oi hx row_api_Form_len (row_api_Form_eq x)) (aI (olen x.Args row_api_Arg) (aI (otest hc16) tI)))))))) (hJ true (Option.some.inj e))
         . rcases condS e with⟨hc17,e⟩|⟨hc17,e⟩
           . exact wq (nos 3 (yF::(nos 1 (.val (iP (f.1.length:Int))::(nos 2 (yF::(nos 1 (.val (.vptr (kF x) 0)::(nos 4 (yF::(nos 1 (.val (.vptr (kF x) 0)::(nos 2 (.val (iP (x.Args.length:Int))::(nos 2 (yF::(nos 1 (.val (.vptr (kF x) 0)::(nos 2 (.val (iP (x.Body.length:Int))::(nos 2 (yT::(nos 30 []))))))))))))))))))))))) _ (aI (otest hc13) (aI (olen f.1 row_api_Form) (aI (otest hc14) (aI (oi hx row_api_Form_len (row_api_Form_eq x)) (aI (otest hc15) (aI (oi hx row_api_Form_len (row_api_Form_eq x)) (aI (olen x.Args row_api_Arg) (aI (otest hc16) (aI (oi hx row_api_Form_len (row_api_Form_eq x)) (aI (olen x.Body row_api_Form) (aI (otest hc17) tI))))))))))) (hJ true (Option.some.inj e))
           . obtain⟨x1,hx1,e⟩:=bindS e
             rcases condS e with⟨hc18,e⟩|⟨hc18,e⟩
             . exact wq (nos 3 (yF::(nos 1 (.val (iP (f.1.length:Int))::(nos 2 (yF::(nos 1 (.val (.vptr (kF x) 0)::(nos 4 (yF::(nos 1 (.val (.vptr (kF x) 0)::(nos 2 (.val (iP (x.Args.length:Int))::(nos 2 (yF::(nos 1 (.val (.vptr (kF x) 0)::(nos 2 (.val (iP (x.Body.length:Int))::(nos 2 (yF::(nos 1 (.val (.vptr (kF x) 0)::(nos 2 (.val (.vptr (kA x1) 0)::(nos 4 (yT::(nos 20 []))))))))))))))))))))))))))))) _ (aI (otest hc13) (aI (olen f.1 row_api_Form) (aI (otest hc14) (aI (oi hx row_api_Form_len (row_api_Form_eq x)) (aI (otest hc15) (aI (oi hx row_api_Form_len (row_api_Form_eq x)) (aI (olen x.Args row_api_Arg) (aI (otest hc16) (aI (oi hx row_api_Form_len (row_api_Form_eq x)) (aI (olen x.Body row_api_Form) (aI (otest hc17) (aI (oi hx row_api_Form_len (row_api_Form_eq x)) (aI (oi hx1 row_api_Arg_len (row_api_Arg_eq x1)) (aI (otest hc18) tI)))))))))))))) (hJ true (Option.some.inj e))
             . obtain⟨x2,hx2,e⟩:=bindS e
               rcases condS e with⟨hc19,e⟩|⟨hc19,e⟩
               . exact wq (nos 3 (yF::(nos 1 (.val (iP (f.1.length:Int))::(nos 2 (yF::(nos 1 (.val (.vptr (kF x) 0)::(nos 4 (yF::(nos 1 (.val (.vptr (kF x) 0)::(nos 2 (.val (iP (x.Args.length:Int))::(nos 2 (yF::(nos 1 (.val (.vptr (kF x) 0)::(nos 2 (.val (iP (x.Body.length:Int))::(nos 2 (yF::(nos 1 (.val (.vptr (kF x) 0)::(nos 2 (.val (.vptr (kA x1) 0)::(nos 4 (yF::(nos 1 (.val (.vptr (kF x) 0)::(nos 2 (.val (.vptr (kA x2) 0)::(nos 4 (yT::(nos 10 []))))))))))))))))))))))))))))))))))) _ (aI (otest hc13) (aI (olen f.1 row_api_Form) (aI (otest hc14) (aI (oi hx row_api_Form_len (row_api_Form_eq x)) (aI (otest hc15) (aI (oi hx row_api_Form_len (row_api_Form_eq x)) (aI (olen x.Args row_api_Arg) (aI (otest hc16) (aI (oi hx row_api_Form_len (row_api_Form_eq x)) (aI (olen x.Body row_api_Form) (aI (otest hc17) (aI (oi hx row_api_Form_len (row_api_Form_eq x)) (aI (oi hx1 row_api_Arg_len (row_api_Arg_eq x1)) (aI (otest hc18) (aI (oi hx row_api_Form_len (row_api_Form_eq x)) (aI (oi hx2 row_api_Arg_len (row_api_Arg_eq x2)) (aI (otest hc19) tI))))))))))))))))) (hJ true (Option.some.inj e))
               . obtain⟨x3,hx3,e⟩:=bindS e
                 exact wq (nos 3 (yF::(nos 1 (.val (iP (f.1.length:Int))::(nos 2 (yF::(nos 1 (.val (.vptr (kF x) 0)::(nos 4 (yF::(nos 1 (.val (.vptr (kF x) 0)::(nos 2 (.val (iP (x.Args.length:Int))::(nos 2 (yF::(nos 1 (.val (.vptr (kF x) 0)::(nos 2 (.val (iP (x.Body.length:Int))::(nos 2 (yF::(nos 1 (.val (.vptr (kF x) 0)::(nos 2 (.val (.vptr (kA x1) 0)::(nos 4 (yF::(nos 1 (.val (.vptr (kF x) 0)::(nos 2 (.val (.vptr (kA x2) 0)::(nos 4 (yF::(nos 1 (.val (.vptr (kF x) 0)::(nos 2 (.val (.vptr (kA x3) 0)::(nos 5 []))))))))))))))))))))))))))))))))))))))) _ (aI (otest hc13) (aI (olen f.1 row_api_Form) (aI (otest hc14) (aI (oi hx row_api_Form_len (row_api_Form_eq x)) (aI (otest hc15) (aI (oi hx row_api_Form_len (row_api_Form_eq x)) (aI (olen x.Args row_api_Arg) (aI (otest hc16) (aI (oi hx row_api_Form_len (row_api_Form_eq x)) (aI (olen x.Body row_api_Form) (aI (otest hc17) (aI (oi hx row_api_Form_len (row_api_Form_eq x)) (aI (oi hx1 row_api_Arg_len (row_api_Arg_eq x1)) (aI (otest hc18) (aI (oi hx row_api_Form_len (row_api_Form_eq x)) (aI (oi hx2 row_api_Arg_len (row_api_Arg_eq x2)) (aI (otest hc19) (aI (oi hx row_api_Form_len (row_api_Form_eq x)) (aI (oi hx3 row_api_Arg_len (row_api_Arg_eq x3)) tI))))))))))))))))))) (hJ (x3.E.Op != 10) (Option.some.inj e))
theorem vlaw32_sanity (n:Nat)(r:Bool)(h:law32_sanity n=some r):VCp Tryz.prog 7 [] (bP r):=VC.fin (fun Q hQ=>vlaw32_sanity_0 n _ h Q hQ) rfl rfl
theorem vSane (r:Bool)(h:saneT=some r):VCp Tryz.prog 7 [] (bP r):=vlaw32_sanity 60 r h
end Go.Proofs.YtgdalmleogphgaaGreatDoor
namespace Go.Proofs.YtgdalmleogphgaaGreatDoor
open Go.RowKit Go.Q Go.Vl Go.Sp
set_option maxRecDepth 100000
set_option linter.unusedSimpArgs false
set_option linter.unusedVariables false
set_option maxHeartbeats 4000000
theorem vlaw32_ParseJoins_0 (n:Nat)(a_:ByteArray)(b:ByteArray)(r:Bool)(h:law32_ParseJoins n a_ b=some r)(Q:AEnd->List (List PV)->Prop)(hQ:∀ y,shareP y=bP r->Q (.ret y) []) :
 VC Tryz.prog 4 [tP a_,tP b] [] Q:=by
 unfold law32_ParseJoins at h
 refine VC.intro ⟨[0,1,4,5,6,7,8,9,10,11,19,28,62],[]⟩ Tryz.func4 rfl follows ok4 (by rw [Tryz.ntmps4];exact lb rfl) ?_
 refine WS_ofR ?_
 refine zz ?_
 refine wn (nos 1 []) ⟨[(0,tP a_),(1,tP b),(4,bP false)],[]⟩ tI ?_
 obtain⟨y,e,h⟩:=bindS h
 refine WS_meet (A:=Bool) (fun v=>v=y) (fun v19=>⟨[(0,tP a_),(1,tP b),(4,bP false),(19,bP v19)],[]⟩) ?_ ?_
 . rintro v19 rfl
   show WS _ _ _ _ _ ⟨[(0,tP a_),(1,tP b),(4,bP false),(19,bP v19)],[]⟩
   refine zz ?_
   rcases condS h with⟨hc9,h⟩|⟨hc9,h⟩
   . refine zT (test hc9) ?_
     obtain⟨s,hs,h⟩:=bindS h
     refine wn (.call (bP s)::(nos 1 [])) ⟨[(0,tP a_),(1,tP b),(4,bP s)],[]⟩ (aI (vSane s hs) tI) ?_
     cases h
     exact rt hQ
   . refine zF (test hc9) ?_
     obtain⟨f,hf,h⟩:=bindS h
     refine wn (nos 1 (.call (.tup [hF f.1,.agg [iP f.2.At,iP f.2.E]])::(nos 6 []))) ⟨[(0,tP a_),(1,tP b),(4,bP false),(5,hF f.1),(6,.ptr 0 0)],[[iP f.2.At,iP f.2.E]]⟩ (aI (vparse_Forms n a_ f hf) tI) ?_
     refine wn (nos 3 []) ⟨[(0,tP a_),(1,tP b),(4,bP false),(5,hF f.1),(6,.ptr 0 0),(28,bP (f.2.E != 0))],[[iP f.2.At,iP f.2.E]]⟩ tI ?_
     rcases condS h with⟨hc8,h⟩|⟨hc8,h⟩
     . refine zT (test hc8) ?_
       obtain⟨y1,e1,h⟩:=bindS h
       refine WS_meet (A:=Bool) (fun v=>v=y1) (fun v4=>⟨[(0,tP a_),(1,tP b),(4,bP v4),(5,hF f.1)],[[iP f.2.At,iP f.2.E]]⟩) ?_ ?_
       . rintro v4 rfl
         show WS _ _ _ _ _ ⟨[(0,tP a_),(1,tP b),(4,bP v4),(5,hF f.1)],[[iP f.2.At,iP f.2.E]]⟩
         refine zz ?_
         cases h
         exact rt hQ
       . intro hJ1
         obtain⟨s1,hs1,e1⟩:=bindS e1
         rcases condS e1 with⟨hc,e1⟩|⟨hc,e1⟩
         . rcases condS e1 with⟨hc1,e1⟩|⟨hc1,e1⟩
           . rcases condS e1 with⟨hc2,e1⟩|⟨hc2,e1⟩
             . exact wq (.call (bP s1)::(yT::(nos 4 (yT::(nos 6 (yT::(nos 1 (.val (iP (f.1.length:Int))::(nos 3 []))))))))) _ (aI (vSane s1 hs1) (aI (otest hc) (aI (otest hc1) (aI (otest hc2) (aI (olen f.1 row_api_Form) tI))))) (hJ1 ((f.1.length:Int) == 0) (Option.some.inj e1))
             . exact wq (.call (bP s1)::(yT::(nos 4 (yT::(nos 6 (yF::(nos 5 []))))))) _ (aI (vSane s1 hs1) (aI (otest hc) (aI (otest hc1) (aI (otest hc2) tI)))) (hJ1 false (Option.some.inj e1))
           . exact wq (.call (bP s1)::(yT::(nos 4 (yF::(nos 12 []))))) _ (aI (vSane s1 hs1) (aI (otest hc) (aI (otest hc1) tI))) (hJ1 false (Option.some.inj e1))
         . exact wq (.call (bP s1)::(yF::(nos 17 []))) _ (aI (vSane s1 hs1) (aI (otest hc) tI)) (hJ1 false (Option.some.inj e1))
     . refine zF (test hc8) ?_
       obtain⟨f1,hf1,h⟩:=bindS h
       refine wn (nos 1 (.call (.tup [hF f1.1,.agg [iP f1.2.At,iP f1.2.E]])::(nos 6 []))) ⟨[(0,tP a_),(1,tP b),(4,bP false),(5,hF f.1),(7,hF f1.1),(8,.ptr 1 0)],[[iP f.2.At,iP f.2.E],[iP f1.2.At,iP f1.2.E]]⟩ (aI (vparse_Forms n b f1 hf1) tI) ?_
       obtain⟨s2,hs2,h⟩:=bindS h
       obtain⟨s3,hs3,h⟩:=bindS h
       obtain⟨f2,hf2,h⟩:=bindS h
       refine wn (nos 1 (.val (tP s2)::(nos 1 (.val (tP s3)::(.call (.tup [hF f2.1,.agg [iP f2.2.At,iP f2.2.E]])::(nos 6 [])))))) ⟨[(0,tP a_),(4,bP false),(5,hF f.1),(7,hF f1.1),(8,.ptr 1 0),(9,hF f2.1),(10,.ptr 2 0)],[[iP f.2.At,iP f.2.E],[iP f1.2.At,iP f1.2.E],[iP f2.2.At,iP f2.2.E]]⟩ (aI (ocat hs2) (aI (ocat hs3) (aI (vparse_Forms n s3 f2 hf2) tI))) ?_
       refine wn (nos 3 []) ⟨[(0,tP a_),(4,bP false),(5,hF f.1),(7,hF f1.1),(8,.ptr 1 0),(9,hF f2.1),(10,.ptr 2 0),(62,bP (f1.2.E != 0))],[[iP f.2.At,iP f.2.E],[iP f1.2.At,iP f1.2.E],[iP f2.2.At,iP f2.2.E]]⟩ tI ?_
       rcases condS h with⟨hc7,h⟩|⟨hc7,h⟩
       . refine zT (test hc7) ?_
         obtain⟨y2,e2,h⟩:=bindS h
         refine WS_meet (A:=Bool) (fun v=>v=y2) (fun v41=>⟨[(0,tP a_),(4,bP v41),(5,hF f.1),(7,hF f1.1),(9,hF f2.1),(10,.ptr 2 0)],[[iP f.2.At,iP f.2.E],[iP f1.2.At,iP f1.2.E],[iP f2.2.At,iP f2.2.E]]⟩) ?_ ?_
         . rintro v41 rfl
           show WS _ _ _ _ _ ⟨[(0,tP a_),(4,bP v41),(5,hF f.1),(7,hF f1.1),(9,hF f2.1),(10,.ptr 2 0)],[[iP f.2.At,iP f.2.E],[iP f1.2.At,iP f1.2.E],[iP f2.2.At,iP f2.2.E]]⟩
           refine zz ?_
           cases h
           exact rt hQ
         . intro hJ2
           obtain⟨s4,hs4,e2⟩:=bindS e2
           rcases condS e2 with⟨hc3,e2⟩|⟨hc3,e2⟩
           . rcases condS e2 with⟨hc4,e2⟩|⟨hc4,e2⟩
             . exact wq (.call (bP s4)::(yT::(nos 12 (yT::(nos 1 (.val (iP (f2.1.length:Int))::(nos 3 []))))))) _ (aI (vSane s4 hs4) (aI (otest hc3) (aI (otest hc4) (aI (olen f2.1 row_api_Form) tI)))) (hJ2 ((f2.1.length:Int) == 0) (Option.some.inj e2))
             . exact wq (.call (bP s4)::(yT::(nos 12 (yF::(nos 5 []))))) _ (aI (vSane s4 hs4) (aI (otest hc3) (aI (otest hc4) tI))) (hJ2 false (Option.some.inj e2))
           . exact wq (.call (bP s4)::(yF::(nos 18 []))) _ (aI (vSane s4 hs4) (aI (otest hc3) tI)) (hJ2 false (Option.some.inj e2))
       . refine zF (test hc7) ?_
         rcases lsplit f.1 with he|he
         . obtain⟨l,hl,h⟩:=bindS h
           obtain⟨s5,hs5,h⟩:=bindS h
           rcases lsplit s5 with he1|he1
           . obtain⟨l1,hl1,h⟩:=bindS h
             refine wn (nos 2 (.val (.sl (l.map row_api_Form) .full)::(nos 4 (.call (hF s5)::(.val (.sl (l1.map row_api_Form) .full)::(nos 1 [])))))) ⟨[(4,bP false),(9,hF f2.1),(10,.ptr 2 0),(11,.sl (l1.map row_api_Form) .full)],[[iP f.2.At,iP f.2.E],[iP f1.2.At,iP f1.2.E],[iP f2.2.At,iP f2.2.E]]⟩ (aI (oappE hl row_api_Form_len he) (aI (vlaw32_shifted n f1.1 (IntKind.i64.wrap ((a_.size:Int)+1)) s5 hs5) (aI (oappE hl1 row_api_Form_len he1) tI))) ?_
             obtain⟨y3,e3,h⟩:=bindS h
             refine WS_meet (A:=Bool) (fun v=>v=y3) (fun v42=>⟨[(4,bP v42)],[[iP f.2.At,iP f.2.E],[iP f1.2.At,iP f1.2.E],[iP f2.2.At,iP f2.2.E]]⟩) ?_ ?_
             . rintro v42 rfl
               show WS _ _ _ _ _ ⟨[(4,bP v42)],[[iP f.2.At,iP f.2.E],[iP f1.2.At,iP f1.2.E],[iP f2.2.At,iP f2.2.E]]⟩
               refine zz ?_
               cases h
               exact rt hQ
             . intro hJ3
               obtain⟨s6,hs6,e3⟩:=bindS e3
               rcases condS e3 with⟨hc5,e3⟩|⟨hc5,e3⟩
               . rcases condS e3 with⟨hc6,e3⟩|⟨hc6,e3⟩
                 . obtain⟨s7,hs7,e3⟩:=bindS e3
                   exact wq (.call (bP s6)::(yT::(nos 4 (yT::(nos 2 (.call (bP s7)::(nos 2 []))))))) _ (aI (vSane s6 hs6) (aI (otest hc5) (aI (otest hc6) (aI (vref32_Same n f2.1 l1 true s7 hs7) tI)))) (hJ3 s7 (Option.some.inj e3))
                 . exact wq (.call (bP s6)::(yT::(nos 4 (yF::(nos 5 []))))) _ (aI (vSane s6 hs6) (aI (otest hc5) (aI (otest hc6) tI))) (hJ3 false (Option.some.inj e3))
               . exact wq (.call (bP s6)::(yF::(nos 10 []))) _ (aI (vSane s6 hs6) (aI (otest hc5) tI)) (hJ3 false (Option.some.inj e3))
           . obtain⟨l1,hl1,h⟩:=bindS h
             refine wn (nos 2 (.val (.sl (l.map row_api_Form) .full)::(nos 4 (.call (hF s5)::(.val (oF l1)::(nos 1 [])))))) ⟨[(4,bP false),(9,hF f2.1),(10,.ptr 2 0),(11,oF l1)],[[iP f.2.At,iP f.2.E],[iP f1.2.At,iP f1.2.E],[iP f2.2.At,iP f2.2.E]]⟩ (aI (oappE hl row_api_Form_len he) (aI (vlaw32_shifted n f1.1 (IntKind.i64.wrap ((a_.size:Int)+1)) s5 hs5) (aI (oappF hl1 row_api_Form_len he1) tI))) ?_
             obtain⟨y3,e3,h⟩:=bindS h
             refine WS_meet (A:=Bool) (fun v=>v=y3) (fun v42=>⟨[(4,bP v42)],[[iP f.2.At,iP f.2.E],[iP f1.2.At,iP f1.2.E],[iP f2.2.At,iP f2.2.E]]⟩) ?_ ?_
             . rintro v42 rfl
               show WS _ _ _ _ _ ⟨[(4,bP v42)],[[iP f.2.At,iP f.2.E],[iP f1.2.At,iP f1.2.E],[iP f2.2.At,iP f2.2.E]]⟩
               refine zz ?_
               cases h
               exact rt hQ
             . intro hJ3
               obtain⟨s6,hs6,e3⟩:=bindS e3
               rcases condS e3 with⟨hc5,e3⟩|⟨hc5,e3⟩
               . rcases condS e3 with⟨hc6,e3⟩|⟨hc6,e3⟩
                 . obtain⟨s7,hs7,e3⟩:=bindS e3
                   exact wq (.call (bP s6)::(yT::(nos 4 (yT::(nos 2 (.call (bP s7)::(nos 2 []))))))) _ (aI (vSane s6 hs6) (aI (otest hc5) (aI (otest hc6) (aI (vref32_Same n f2.1 l1 true s7 hs7) tI)))) (hJ3 s7 (Option.some.inj e3))
                 . exact wq (.call (bP s6)::(yT::(nos 4 (yF::(nos 5 []))))) _ (aI (vSane s6 hs6) (aI (otest hc5) (aI (otest hc6) tI))) (hJ3 false (Option.some.inj e3))
               . exact wq (.call (bP s6)::(yF::(nos 10 []))) _ (aI (vSane s6 hs6) (aI (otest hc5) tI)) (hJ3 false (Option.some.inj e3))
         . obtain⟨l,hl,h⟩:=bindS h
           obtain⟨s5,hs5,h⟩:=bindS h
           obtain⟨l1,hl1,h⟩:=bindS h
           refine wn (nos 2 (.val (oF l)::(nos 4 (.call (hF s5)::(.val (oF l1)::(nos 1 [])))))) ⟨[(4,bP false),(9,hF f2.1),(10,.ptr 2 0),(11,oF l1)],[[iP f.2.At,iP f.2.E],[iP f1.2.At,iP f1.2.E],[iP f2.2.At,iP f2.2.E]]⟩ (aI (oappF hl row_api_Form_len he) (aI (vlaw32_shifted n f1.1 (IntKind.i64.wrap ((a_.size:Int)+1)) s5 hs5) (aI (oapp hl1 row_api_Form_len) tI))) ?_
           obtain⟨y3,e3,h⟩:=bindS h
           refine WS_meet (A:=Bool) (fun v=>v=y3) (fun v42=>⟨[(4,bP v42)],[[iP f.2.At,iP f.2.E],[iP f1.2.At,iP f1.2.E],[iP f2.2.At,iP f2.2.E]]⟩) ?_ ?_
           . rintro v42 rfl
             show WS _ _ _ _ _ ⟨[(4,bP v42)],[[iP f.2.At,iP f.2.E],[iP f1.2.At,iP f1.2.E],[iP f2.2.At,iP f2.2.E]]⟩
             refine zz ?_
             cases h
             exact rt hQ
           . intro hJ3
             obtain⟨s6,hs6,e3⟩:=bindS e3
             rcases condS e3 with⟨hc5,e3⟩|⟨hc5,e3⟩
             . rcases condS e3 with⟨hc6,e3⟩|⟨hc6,e3⟩
               . obtain⟨s7,hs7,e3⟩:=bindS e3
                 exact wq (.call (bP s6)::(yT::(nos 4 (yT::(nos 2 (.call (bP s7)::(nos 2 []))))))) _ (aI (vSane s6 hs6) (aI (otest hc5) (aI (otest hc6) (aI (vref32_Same n f2.1 l1 true s7 hs7) tI)))) (hJ3 s7 (Option.some.inj e3))
               . exact wq (.call (bP s6)::(yT::(nos 4 (yF::(nos 5 []))))) _ (aI (vSane s6 hs6) (aI (otest hc5) (aI (otest hc6) tI))) (hJ3 false (Option.some.inj e3))
             . exact wq (.call (bP s6)::(yF::(nos 10 []))) _ (aI (vSane s6 hs6) (aI (otest hc5) tI)) (hJ3 false (Option.some.inj e3))
 . intro hJ
   rcases condS e with⟨hc10,e⟩|⟨hc10,e⟩
   . exact wq (nos 3 (yT::(nos 4 []))) _ (aI (otest hc10) tI) (hJ true (Option.some.inj e))
   . exact wq (nos 3 (yF::(nos 4 []))) _ (aI (otest hc10) tI) (hJ (decide (300<(b.size:Int))) (Option.some.inj e))
theorem vlaw32_ParseJoins (n:Nat)(a_:ByteArray)(b:ByteArray)(r:Bool)(h:law32_ParseJoins n a_ b=some r):VCp Tryz.prog 4 [tP a_,tP b] (bP r):=VC.fin (fun Q hQ=>vlaw32_ParseJoins_0 n a_ b _ h Q hQ) rfl rfl
end Go.Proofs.YtgdalmleogphgaaGreatDoor
