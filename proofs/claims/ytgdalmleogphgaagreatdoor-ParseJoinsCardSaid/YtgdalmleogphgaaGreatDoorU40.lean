/-
  The walks: law: the program computes the plain functions. (Printed by lift.py.) The walks of chapter 32, second part: parse: the program computes the plain functions. (Printed by lift.py.) The walks: same: the program computes the plain functions. (Printed by lift.py.)
-/
import Derived.Test.YtgdalmleogphgaaGreatDoorU28
import Derived.Test.YtgdalmleogphgaaGreatDoorU39
namespace Go.Proofs.YtgdalmleogphgaaGreatDoor
open Go.RowKit Go.Q Go.Vl Go.Sp
set_option maxRecDepth 100000
set_option linter.unusedSimpArgs false
set_option maxHeartbeats 4000000
set_option linter.unusedVariables false
theorem vlaw32_shiftedExpr_0 (n0:Nat)
 (ih_law32_shiftedExpr:∀ m,m<=n0->∀ (e:api_Expr) (n_:Int) (r:api_Expr),law32_shiftedExpr m e n_=some r->VCp Tryz.prog 33 [.agg (kX e),iP n_] (.agg (kX r)))
 (n:Nat) (hn:n<=n0) (e:api_Expr) (n_:Int) (r:api_Expr) (h:law32_shiftedExpr (n+1) e n_=some r) (Q:AEnd->List (List PV)->Prop) (hQ:∀ y,shareP y=.agg (kX r)->Q (.ret y) []) :
 VC Tryz.prog 33 [.agg (kX e),iP n_] [] Q:=by
 replace h:=(law32_shiftedExpr.eq_2 (n:=n) _ _).symm.trans h
 refine VC.intro ⟨[0,1,2,4,5,6,9,20],[]⟩ Tryz.func33 rfl follows ok33 (by rw [Tryz.ntmps33];exact lb rfl) ?_
 refine WS_ofR ?_
 refine zz ?_
 refine wn (nos 2 []) ⟨[(1,iP n_),(2,.ptr 0 0),(4,.ptr 1 0)],[(kX e),[iP 0,iP 0,tP ⟨#[]⟩,.sl [] .own,iP 0]]⟩ tI ?_
 refine wn (nos 3 []) ⟨[(1,iP n_),(2,.ptr 0 0),(4,.ptr 1 0),(9,bP (e.Op == 0))],[(kX e),[iP 0,iP 0,tP ⟨#[]⟩,.sl [] .own,iP 0]]⟩ tI ?_
 rcases condS h with⟨hc1,h⟩|⟨hc1,h⟩
 . refine zT (test hc1) ?_
   refine wn (nos 2 []) ⟨[(1,iP n_),(2,.ptr 0 0),(4,.ptr 1 0)],[(kX e),(kX e)]⟩ tI ?_
   cases h
   exact rt hQ
 . refine zF (test hc1) ?_
   refine wn (nos 6 []) ⟨[(1,iP n_),(2,.ptr 0 0),(4,.ptr 1 0)],[[iP e.Op,iP e.N,tP e.S,hX e.Kids,iP (IntKind.i64.wrap (e.At+n_))],[iP 0,iP 0,tP ⟨#[]⟩,.sl [] .own,iP 0]]⟩ tI ?_
   refine wn (nos 1 []) ⟨[(1,iP n_),(2,.ptr 0 0),(4,.ptr 1 0),(5,.sl [] .own)],[[iP e.Op,iP e.N,tP e.S,hX e.Kids,iP (IntKind.i64.wrap (e.At+n_))],[iP 0,iP 0,tP ⟨#[]⟩,.sl [] .own,iP 0]]⟩ tI ?_
   refine wn (nos 1 []) ⟨[(1,iP n_),(2,.ptr 0 0),(4,.ptr 1 0),(5,.sl [] .own),(6,iP 0)],[[iP e.Op,iP e.N,tP e.S,hX e.Kids,iP (IntKind.i64.wrap (e.At+n_))],[iP 0,iP 0,tP ⟨#[]⟩,.sl [] .own,iP 0]]⟩ tI ?_
   obtain⟨y,e1,h⟩:=bindS h
   refine WS_meet (A:=(List api_Expr)) (fun v=>v=y) (fun kids=>⟨[(2,.ptr 0 0),(4,.ptr 1 0),(5,oX kids)],[[iP e.Op,iP e.N,tP e.S,hX e.Kids,iP (IntKind.i64.wrap (e.At+n_))],[iP 0,iP 0,tP ⟨#[]⟩,.sl [] .own,iP 0]]⟩) ?_ ?_
   . rintro kids rfl
     show WS _ _ _ _ _ ⟨[(2,.ptr 0 0),(4,.ptr 1 0),(5,oX kids)],[[iP e.Op,iP e.N,tP e.S,hX e.Kids,iP (IntKind.i64.wrap (e.At+n_))],[iP 0,iP 0,tP ⟨#[]⟩,.sl [] .own,iP 0]]⟩
     refine zz ?_
     refine wn (nos 3 []) ⟨[(2,.ptr 0 0),(4,.ptr 1 0)],[[iP e.Op,iP e.N,tP e.S,hX kids,iP (IntKind.i64.wrap (e.At+n_))],[iP 0,iP 0,tP ⟨#[]⟩,.sl [] .own,iP 0]]⟩ tI ?_
     refine wn (nos 2 []) ⟨[(4,.ptr 1 0)],[[iP e.Op,iP e.N,tP e.S,hX kids,iP (IntKind.i64.wrap (e.At+n_))],[iP e.Op,iP e.N,tP e.S,hX kids,iP (IntKind.i64.wrap (e.At+n_))]]⟩ tI ?_
     cases h
     exact rt hQ
   . intro hJ
     refine zz ?_
     refine zB ?_
     refine WS_for [1,2,4,5,6] 2 (fun a:Nat×((List api_Expr)×Int)=>a.1<=n0/\law32_shiftedExpr_l1 a.1 e n_ a.2.1 a.2.2=some y) (fun a=>a.1) (fun a:Nat×((List api_Expr)×Int)=>match a with|(_,(kids1,k))=>⟨[(1,iP n_),(2,.ptr 0 0),(4,.ptr 1 0),(5,oX kids1),(6,iP k)],[[iP e.Op,iP e.N,tP e.S,hX e.Kids,iP (IntKind.i64.wrap (e.At+n_))],[iP 0,iP 0,tP ⟨#[]⟩,.sl [] .own,iP 0]]⟩) (n,([],0)) (lb rfl) rfl ⟨hn,e1⟩ ?_
     clear e1 hn
     rintro⟨n,kids1,k⟩ ⟨hn,e1⟩
     show WS _ _ _ _ _ ⟨[(1,iP n_),(2,.ptr 0 0),(4,.ptr 1 0),(5,oX kids1),(6,iP k)],[[iP e.Op,iP e.N,tP e.S,hX e.Kids,iP (IntKind.i64.wrap (e.At+n_))],[iP 0,iP 0,tP ⟨#[]⟩,.sl [] .own,iP 0]]⟩
     cases n with
     |zero=>exact absurd e1 (by simp [law32_shiftedExpr_l1])
     |succ n =>
      replace e1:=(law32_shiftedExpr_l1.eq_2 (n:=n) _ _ _ _).symm.trans e1
      replace hn:n<=n0:=by omega
      refine zz ?_
      refine wn (nos 3 (.val (iP (e.Kids.length:Int))::(nos 1 []))) ⟨[(1,iP n_),(2,.ptr 0 0),(4,.ptr 1 0),(5,oX kids1),(6,iP k),(20,bP (decide (k<(e.Kids.length:Int))))],[[iP e.Op,iP e.N,tP e.S,hX e.Kids,iP (IntKind.i64.wrap (e.At+n_))],[iP 0,iP 0,tP ⟨#[]⟩,.sl [] .own,iP 0]]⟩ (aI (olen e.Kids row_api_Expr) tI) ?_
      rcases condS e1 with⟨hc,e1⟩|⟨hc,e1⟩
      . refine zT (test hc) ?_
        refine zB ?_
        obtain⟨x,hx,e1⟩:=bindS e1
        obtain⟨s,hs,e1⟩:=bindS e1
        obtain⟨l,hl,e1⟩:=bindS e1
        have fb:([(kX s)]:List (List PV))=l.map row_api_Expr:=by rw [<- Option.some.inj hl];simp only [List.map_cons,List.map_nil,row_api_Expr_eq]
        obtain⟨l1,hl1,e1⟩:=bindS e1
        refine wn (nos 4 (.val (.vptr (kX x) 0)::(nos 2 (.call (.agg (kX s))::(.val (oX l)::(.val (oX l1)::(nos 1 []))))))) ⟨[(1,iP n_),(2,.ptr 0 0),(4,.ptr 1 0),(5,oX l1),(6,iP k)],[[iP e.Op,iP e.N,tP e.S,hX e.Kids,iP (IntKind.i64.wrap (e.At+n_))],[iP 0,iP 0,tP ⟨#[]⟩,.sl [] .own,iP 0]]⟩ (aI (oi hx row_api_Expr_len (row_api_Expr_eq x)) (aI (ih_law32_shiftedExpr n hn x n_ s hs) (aI (obuild rfl fb) (aI (oapp hl1 row_api_Expr_len) tI)))) ?_
        refine wq (nos 3 []) ⟨[(1,iP n_),(2,.ptr 0 0),(4,.ptr 1 0),(5,oX l1),(6,iP (IntKind.i64.wrap (k+1)))],[[iP e.Op,iP e.N,tP e.S,hX e.Kids,iP (IntKind.i64.wrap (e.At+n_))],[iP 0,iP 0,tP ⟨#[]⟩,.sl [] .own,iP 0]]⟩ tI ?_
        exact zz (WS_again (n,(l1,(IntKind.i64.wrap (k+1)))) rfl ⟨hn,e1⟩ (Nat.lt_succ_self _))
      . refine zF (test hc) ?_
        try refine z5 rfl ?_
        exact zz (WS_wk [2,4,5] 2 rfl (lb rfl) rfl (hJ kids1 (Option.some.inj e1)))
theorem scc_law32_shiftedExpr:∀ n:Nat,(∀ m,m<=n->∀ (e:api_Expr) (n_:Int) (r:api_Expr),law32_shiftedExpr m e n_=some r->VCp Tryz.prog 33 [.agg (kX e),iP n_] (.agg (kX r)))
 |0=>(fun m hm e n_ r h=>by
  obtain rfl:m=0:=by omega
  exact absurd h (by simp [law32_shiftedExpr]))
 |n+1=>by
  have ih:=scc_law32_shiftedExpr n
  exact fun m hm e n_ r h=>by
   cases m with
   |zero=>exact absurd h (by simp [law32_shiftedExpr])
   |succ m=>exact VC.fin (fun Q hQ=>vlaw32_shiftedExpr_0 n (ih) m (by omega) e n_ _ h Q hQ) rfl rfl
theorem vlaw32_shiftedExpr (n:Nat)(e:api_Expr)(n_:Int)(r:api_Expr)(h:law32_shiftedExpr n e n_=some r):VCp Tryz.prog 33 [.agg (kX e),iP n_] (.agg (kX r)) :=
 (scc_law32_shiftedExpr n) n (Nat.le_refl _) e n_ r h
theorem vlaw32_shifted_0 (n0:Nat)
 (ih_law32_shifted:∀ m,m<=n0->∀ (l:(List api_Form)) (n_:Int) (r:(List api_Form)),law32_shifted m l n_=some r->VCp Tryz.prog 14 [hF l,iP n_] (hF r))
 (n:Nat) (hn:n<=n0) (l:(List api_Form)) (n_:Int) (r:(List api_Form)) (h:law32_shifted (n+1) l n_=some r) (Q:AEnd->List (List PV)->Prop) (hQ:∀ y,shareP y=hF r->Q (.ret y) []) :
 VC Tryz.prog 14 [hF l,iP n_] [] Q:=by
 replace h:=(law32_shifted.eq_2 (n:=n) _ _).symm.trans h
 refine VC.intro ⟨[0,1,4,5,6,7,8,9,13,33],[]⟩ Tryz.func14 rfl follows ok14 (by rw [Tryz.ntmps14];exact lb rfl) ?_
 refine WS_ofR ?_
 refine zz ?_
 refine wn (nos 1 []) ⟨[(0,hF l),(1,iP n_),(4,.sl [] .own)],[]⟩ tI ?_
 refine wn (nos 1 []) ⟨[(0,hF l),(1,iP n_),(4,.sl [] .own),(5,.sl [] .own)],[]⟩ tI ?_
 refine wn (nos 1 []) ⟨[(0,hF l),(1,iP n_),(4,.sl [] .own),(5,.sl [] .own),(6,iP 0)],[]⟩ tI ?_
 obtain⟨y,e,h⟩:=bindS h
 refine WS_meet (A:=(List api_Form)) (fun v=>v=y) (fun out=>⟨[(4,.sl [] .own),(5,oF out)],[]⟩) ?_ ?_
 . rintro out rfl
   show WS _ _ _ _ _ ⟨[(4,.sl [] .own),(5,oF out)],[]⟩
   refine zz ?_
   refine wn (nos 2 []) ⟨[(4,hF out)],[]⟩ tI ?_
   cases h
   exact rt hQ
 . intro hJ
   refine zz ?_
   refine zB ?_
   refine WS_for [0,1,4,5,6] 0 (fun a:Nat×((List api_Form)×Int)=>a.1<=n0/\law32_shifted_l1 a.1 l n_ a.2.1 a.2.2=some y) (fun a=>a.1) (fun a:Nat×((List api_Form)×Int)=>match a with|(_,(out1,k))=>⟨[(0,hF l),(1,iP n_),(4,.sl [] .own),(5,oF out1),(6,iP k)],[]⟩) (n,([],0)) (lb rfl) rfl ⟨hn,e⟩ ?_
   clear e hn
   rintro⟨n,out1,k⟩ ⟨hn,e⟩
   show WS _ _ _ _ _ ⟨[(0,hF l),(1,iP n_),(4,.sl [] .own),(5,oF out1),(6,iP k)],[]⟩
   cases n with
   |zero=>exact absurd e (by simp [law32_shifted_l1])
   |succ n =>
    replace e:=(law32_shifted_l1.eq_2 (n:=n) _ _ _ _).symm.trans e
    replace hn:n<=n0:=by omega
    refine zz ?_
    refine wn (nos 2 (.val (iP (l.length:Int))::(nos 1 []))) ⟨[(0,hF l),(1,iP n_),(4,.sl [] .own),(5,oF out1),(6,iP k),(13,bP (decide (k<(l.length:Int))))],[]⟩ (aI (olen l row_api_Form) tI) ?_
    rcases condS e with⟨hc1,e⟩|⟨hc1,e⟩
    . refine zT (test hc1) ?_
      refine zB ?_
      obtain⟨x,hx,e⟩:=bindS e
      refine wn (nos 2 (.val (.vptr (kF x) 0)::(nos 3 []))) ⟨[(0,hF l),(1,iP n_),(4,.sl [] .own),(5,oF out1),(6,iP k),(7,.ptr 0 0)],[(kF x)]⟩ (aI (oi hx row_api_Form_len (row_api_Form_eq x)) tI) ?_
      refine wn (nos 6 []) ⟨[(0,hF l),(1,iP n_),(4,.sl [] .own),(5,oF out1),(6,iP k),(7,.ptr 0 0)],[[tP x.Word,hA x.Args,hF x.Body,iP (IntKind.i64.wrap (x.At+n_))]]⟩ tI ?_
      refine wn (nos 2 []) ⟨[(0,hF l),(1,iP n_),(4,.sl [] .own),(5,oF out1),(6,iP k),(7,.ptr 0 0)],[[tP x.Word,.sl [] .own,hF x.Body,iP (IntKind.i64.wrap (x.At+n_))]]⟩ tI ?_
      refine wn (nos 1 []) ⟨[(0,hF l),(1,iP n_),(4,.sl [] .own),(5,oF out1),(6,iP k),(7,.ptr 0 0),(8,iP 0)],[[tP x.Word,.sl [] .own,hF x.Body,iP (IntKind.i64.wrap (x.At+n_))]]⟩ tI ?_
      obtain⟨y1,e1,e⟩:=bindS e
      refine WS_meet (A:=(List api_Arg)) (fun v=>v=y1) (fun f=>⟨[(0,hF l),(1,iP n_),(4,.sl [] .own),(5,oF out1),(6,iP k),(7,.ptr 0 0)],[[tP x.Word,oA f,hF x.Body,iP (IntKind.i64.wrap (x.At+n_))]]⟩) ?_ ?_
      . rintro f rfl
        show WS _ _ _ _ _ ⟨[(0,hF l),(1,iP n_),(4,.sl [] .own),(5,oF out1),(6,iP k),(7,.ptr 0 0)],[[tP x.Word,oA f,hF x.Body,iP (IntKind.i64.wrap (x.At+n_))]]⟩
        refine zz ?_
        obtain⟨s,hs,e⟩:=bindS e
        refine wn (nos 3 (.call (hF s)::(nos 2 []))) ⟨[(0,hF l),(1,iP n_),(4,.sl [] .own),(5,oF out1),(6,iP k),(7,.ptr 0 0)],[[tP x.Word,oA f,hF s,iP (IntKind.i64.wrap (x.At+n_))]]⟩ (aI (ih_law32_shifted n hn x.Body n_ s hs) tI) ?_
        obtain⟨l1,hl1,e⟩:=bindS e
        have fb:([[tP x.Word,hA f,hF s,iP (IntKind.i64.wrap (x.At+n_))]]:List (List PV))=l1.map row_api_Form:=by rw [<- Option.some.inj hl1];simp only [List.map_cons,List.map_nil,row_api_Form_eq]
        obtain⟨l2,hl2,e⟩:=bindS e
        refine wn (nos 2 (.val (oF l1)::(.val (oF l2)::(nos 1 [])))) ⟨[(0,hF l),(1,iP n_),(4,.sl [] .own),(5,oF l2),(6,iP k)],[[tP x.Word,oA f,hF s,iP (IntKind.i64.wrap (x.At+n_))]]⟩ (aI (obuild rfl fb) (aI (oapp hl2 row_api_Form_len) tI)) ?_
        refine wq (nos 3 []) ⟨[(0,hF l),(1,iP n_),(4,.sl [] .own),(5,oF l2),(6,iP (IntKind.i64.wrap (k+1)))],[[tP x.Word,oA f,hF s,iP (IntKind.i64.wrap (x.At+n_))]]⟩ tI ?_
        exact zz (WS_again (n,(l2,(IntKind.i64.wrap (k+1)))) rfl ⟨hn,e⟩ (Nat.lt_succ_self _))
      . intro hJ1
        refine zz ?_
        refine zB ?_
        refine WS_for [0,1,4,5,6,7,8] 1 (fun a:Nat×(Int×(List api_Arg))=>a.1<=n0/\law32_shifted_l2 a.1 x n_ a.2.1 a.2.2=some y1) (fun a=>a.1) (fun a:Nat×(Int×(List api_Arg))=>match a with|(_,(i,f1))=>⟨[(0,hF l),(1,iP n_),(4,.sl [] .own),(5,oF out1),(6,iP k),(7,.ptr 0 0),(8,iP i)],[[tP x.Word,oA f1,hF x.Body,iP (IntKind.i64.wrap (x.At+n_))]]⟩) (n,(0,[])) (lb rfl) rfl ⟨hn,e1⟩ ?_
        clear e1 hn
        rintro⟨n,i,f1⟩ ⟨hn,e1⟩
        show WS _ _ _ _ _ ⟨[(0,hF l),(1,iP n_),(4,.sl [] .own),(5,oF out1),(6,iP k),(7,.ptr 0 0),(8,iP i)],[[tP x.Word,oA f1,hF x.Body,iP (IntKind.i64.wrap (x.At+n_))]]⟩
        cases n with
        |zero=>exact absurd e1 (by simp [law32_shifted_l2])
        |succ n =>
         replace e1:=(law32_shifted_l2.eq_2 (n:=n) _ _ _ _).symm.trans e1
         replace hn:n<=n0:=by omega
         refine zz ?_
         refine wn (nos 3 (.val (.vptr (kF x) 0)::(nos 2 (.val (iP (x.Args.length:Int))::(nos 1 []))))) ⟨[(0,hF l),(1,iP n_),(4,.sl [] .own),(5,oF out1),(6,iP k),(7,.ptr 0 0),(8,iP i),(33,bP (decide (i<(x.Args.length:Int))))],[[tP x.Word,oA f1,hF x.Body,iP (IntKind.i64.wrap (x.At+n_))]]⟩ (aI (oi hx row_api_Form_len (row_api_Form_eq x)) (aI (olen x.Args row_api_Arg) tI)) ?_
         rcases condS e1 with⟨hc,e1⟩|⟨hc,e1⟩
         . refine zT (test hc) ?_
           refine zB ?_
           obtain⟨x1,hx1,e1⟩:=bindS e1
           refine wn (nos 2 (.val (.vptr (kF x) 0)::(nos 3 (.val (.vptr (kA x1) 0)::(nos 3 []))))) ⟨[(0,hF l),(1,iP n_),(4,.sl [] .own),(5,oF out1),(6,iP k),(7,.ptr 0 0),(8,iP i),(9,.ptr 1 0)],[[tP x.Word,oA f1,hF x.Body,iP (IntKind.i64.wrap (x.At+n_))],(kA x1)]⟩ (aI (oi hx row_api_Form_len (row_api_Form_eq x)) (aI (oi hx1 row_api_Arg_len (row_api_Arg_eq x1)) tI)) ?_
           refine wn (nos 6 []) ⟨[(0,hF l),(1,iP n_),(4,.sl [] .own),(5,oF out1),(6,iP k),(7,.ptr 0 0),(8,iP i),(9,.ptr 1 0)],[[tP x.Word,oA f1,hF x.Body,iP (IntKind.i64.wrap (x.At+n_))],[iP x1.Kind,iP x1.N,tP x1.S,iP x1.E.Op,iP x1.E.N,tP x1.E.S,hX x1.E.Kids,iP x1.E.At,iP (IntKind.i64.wrap (x1.At+n_))]]⟩ tI ?_
           obtain⟨s1,hs1,e1⟩:=bindS e1
           refine wn (nos 3 (.call (.agg (kX s1))::(nos 2 []))) ⟨[(0,hF l),(1,iP n_),(4,.sl [] .own),(5,oF out1),(6,iP k),(7,.ptr 0 0),(8,iP i),(9,.ptr 1 0)],[[tP x.Word,oA f1,hF x.Body,iP (IntKind.i64.wrap (x.At+n_))],[iP x1.Kind,iP x1.N,tP x1.S,iP s1.Op,iP s1.N,tP s1.S,hX s1.Kids,iP s1.At,iP (IntKind.i64.wrap (x1.At+n_))]]⟩ (aI (vlaw32_shiftedExpr n x1.E n_ s1 hs1) tI) ?_
           obtain⟨l3,hl3,e1⟩:=bindS e1
           have fb1:([[iP x1.Kind,iP x1.N,tP x1.S,iP s1.Op,iP s1.N,tP s1.S,hX s1.Kids,iP s1.At,iP (IntKind.i64.wrap (x1.At+n_))]]:List (List PV))=l3.map row_api_Arg:=by rw [<- Option.some.inj hl3];simp only [List.map_cons,List.map_nil,row_api_Arg_eq]
           obtain⟨l4,hl4,e1⟩:=bindS e1
           refine wn (nos 3 (.val (oA l3)::(.val (oA l4)::(nos 2 [])))) ⟨[(0,hF l),(1,iP n_),(4,.sl [] .own),(5,oF out1),(6,iP k),(7,.ptr 0 0),(8,iP i)],[[tP x.Word,oA l4,hF x.Body,iP (IntKind.i64.wrap (x.At+n_))],[iP x1.Kind,iP x1.N,tP x1.S,iP s1.Op,iP s1.N,tP s1.S,hX s1.Kids,iP s1.At,iP (IntKind.i64.wrap (x1.At+n_))]]⟩ (aI (obuild rfl fb1) (aI (oapp hl4 row_api_Arg_len) tI)) ?_
           refine wq (nos 3 []) ⟨[(0,hF l),(1,iP n_),(4,.sl [] .own),(5,oF out1),(6,iP k),(7,.ptr 0 0),(8,iP (IntKind.i64.wrap (i+1)))],[[tP x.Word,oA l4,hF x.Body,iP (IntKind.i64.wrap (x.At+n_))],[iP x1.Kind,iP x1.N,tP x1.S,iP s1.Op,iP s1.N,tP s1.S,hX s1.Kids,iP s1.At,iP (IntKind.i64.wrap (x1.At+n_))]]⟩ tI ?_
           exact zz (WS_again (n,((IntKind.i64.wrap (i+1)),l4)) rfl ⟨hn,e1⟩ (Nat.lt_succ_self _))
         . refine zF (test hc) ?_
           try refine z5 rfl ?_
           exact zz (WS_wk [0,1,4,5,6,7] 1 rfl (lb rfl) rfl (hJ1 f1 (Option.some.inj e1)))
    . refine zF (test hc1) ?_
      try refine z5 rfl ?_
      exact zz (WS_wk [4,5] 0 rfl (lb rfl) rfl (hJ out1 (Option.some.inj e)))
theorem scc_law32_shifted:∀ n:Nat,(∀ m,m<=n->∀ (l:(List api_Form)) (n_:Int) (r:(List api_Form)),law32_shifted m l n_=some r->VCp Tryz.prog 14 [hF l,iP n_] (hF r))
 |0=>(fun m hm l n_ r h=>by
  obtain rfl:m=0:=by omega
  exact absurd h (by simp [law32_shifted]))
 |n+1=>by
  have ih:=scc_law32_shifted n
  exact fun m hm l n_ r h=>by
   cases m with
   |zero=>exact absurd h (by simp [law32_shifted])
   |succ m=>exact VC.fin (fun Q hQ=>vlaw32_shifted_0 n (ih) m (by omega) l n_ _ h Q hQ) rfl rfl
theorem vlaw32_shifted (n:Nat)(l:(List api_Form))(n_:Int)(r:(List api_Form))(h:law32_shifted n l n_=some r):VCp Tryz.prog 14 [hF l,iP n_] (hF r) :=
 (scc_law32_shifted n) n (Nat.le_refl _) l n_ r h
theorem vlaw32_sanity_1_0 (s:ByteArray)(r:api_Expr)(h:law32_sanity_1 s=some r)(Q:AEnd->List (List PV)->Prop)(hQ:∀ y,shareP y=.agg (kX r)->Q (.ret y) []) :
 VC Tryz.prog 22 [tP s] [] Q:=by
 unfold law32_sanity_1 at h
 refine VC.intro ⟨[0,2],[]⟩ Tryz.func22 rfl follows ok22 (by rw [Tryz.ntmps22];exact lb rfl) ?_
 refine WS_ofR ?_
 refine zz ?_
 refine wn (nos 1 []) ⟨[(0,tP s),(2,.ptr 0 0)],[[iP 0,iP 0,tP ⟨#[]⟩,.sl [] .own,iP 0]]⟩ tI ?_
 refine wn (nos 3 []) ⟨[(2,.ptr 0 0)],[[iP 3,iP 0,tP s,.sl [] .own,iP 0]]⟩ tI ?_
 cases h
 exact rt hQ
theorem vlaw32_sanity_1 (s:ByteArray)(r:api_Expr)(h:law32_sanity_1 s=some r):VCp Tryz.prog 22 [tP s] (.agg (kX r)):=VC.fin (fun Q hQ=>vlaw32_sanity_1_0 s _ h Q hQ) rfl rfl
theorem vlaw32_sanity_2_0 (op:Int)(a_:api_Expr)(b:api_Expr)(r:api_Expr)(h:law32_sanity_2 op a_ b=some r)(Q:AEnd->List (List PV)->Prop)(hQ:∀ y,shareP y=.agg (kX r)->Q (.ret y) []) :
 VC Tryz.prog 23 [iP op,.agg (kX a_),.agg (kX b)] [] Q:=by
 unfold law32_sanity_2 at h
 refine VC.intro ⟨[0,1,2,4,5,6],[]⟩ Tryz.func23 rfl follows ok23 (by rw [Tryz.ntmps23];exact lb rfl) ?_
 refine WS_ofR ?_
 refine zz ?_
 refine wn (nos 3 []) ⟨[(0,iP op),(4,.ptr 0 0),(5,.ptr 1 0),(6,.ptr 2 0)],[(kX a_),(kX b),[iP 0,iP 0,tP ⟨#[]⟩,.sl [] .own,iP 0]]⟩ tI ?_
 obtain⟨l,hl,h⟩:=bindS h
 have fb:([(kX a_),(kX b)]:List (List PV))=l.map row_api_Expr:=by rw [<- Option.some.inj hl];simp only [List.map_cons,List.map_nil,row_api_Expr_eq]
 refine wn (nos 3 (.val (oX l)::(nos 2 []))) ⟨[(6,.ptr 2 0)],[(kX a_),(kX b),[iP op,iP 0,tP ⟨#[]⟩,hX l,iP 0]]⟩ (aI (obuild rfl fb) tI) ?_
 cases h
 exact rt hQ
theorem vlaw32_sanity_2 (op:Int)(a_:api_Expr)(b:api_Expr)(r:api_Expr)(h:law32_sanity_2 op a_ b=some r):VCp Tryz.prog 23 [iP op,.agg (kX a_),.agg (kX b)] (.agg (kX r)):=VC.fin (fun Q hQ=>vlaw32_sanity_2_0 op a_ b _ h Q hQ) rfl rfl
end Go.Proofs.YtgdalmleogphgaaGreatDoor
namespace Go.Proofs.YtgdalmleogphgaaGreatDoor
open Go.RowKit Go.Q Go.Vl Go.Sp
set_option maxRecDepth 100000
set_option linter.unusedSimpArgs false
set_option linter.unusedVariables false
set_option maxHeartbeats 4000000
theorem okp_parse_Forms_1_s5:okCode [(1,[9997,1,3,0,1,3,2,4,5,6,7,8])] Tryz.f25.ntmps (Tryz.f25.body.getD .skip)=true:=by kernel_rfl
theorem vparse_Forms_1_s5_0 (n:Nat)(q:Int)(q1:Int)(out:(List api_Form))(bad:Int)(bad1:Int)(q2:(List api_Token))(q3:Int)(r:(Ex parse_stop ((List api_Form)×(List api_Token)×Int) Unit))(h:parse_Forms_1_s5 n q q1 out bad bad1 q2 q3=some r)(Q:AEnd->List (List PV)->Prop)(hQ:ExM r (fun v0 s0=>∀ y,shareP y=.tup []->Q (.ret y) [[iP q,iP q1],[oF s0.1],[iP bad,iP bad1],[hT s0.2.1,iP s0.2.2]]) (fun e0 s0=>Q (.pan (pE e0)) [[iP q,iP q1],[oF s0.1],[iP bad,iP bad1],[hT s0.2.1,iP s0.2.2]])) :
 VC Tryz.prog 25 [.ptr 3 0,.ptr 1 0] [[iP q,iP q1],[oF out],[iP bad,iP bad1],[hT q2,iP q3]] Q:=by
 unfold parse_Forms_1_s5 at h
 refine VC.intro ⟨[0,1,10],[(1,[9997,1,3,0,1,3,2,4,5,6,7,8])]⟩ Tryz.func25 rfl follows okp_parse_Forms_1_s5 (by rw [Tryz.ntmps25];exact lb rfl) ?_
 refine WS_ofR ?_
 refine zz ?_
 obtain⟨y,e,h⟩:=bindS h
 refine WS_meet (A:=((List api_Form)×(List api_Token)×Int)) (fun v=>.inl v=y) (fun y=>match y with|(out1,q4,q5)=>⟨[],[[iP q,iP q1],[oF out1],[iP bad,iP bad1],[hT q4,iP q5]]⟩) ?_ ?_
 . rintro⟨out1,q4,q5⟩ rfl
   show WS _ _ _ _ _ ⟨[],[[iP q,iP q1],[oF out1],[iP bad,iP bad1],[hT q4,iP q5]]⟩
   refine zz ?_
   cases h
   exact rt hQ
 . intro hJ
   refine zz ?_
   refine zB ?_
   refine WS_for [0,1] 4 (fun a:Nat×((List api_Form)×(List api_Token)×Int)=>parse_Forms_1_s5_l1 a.1 a.2.1 a.2.2.1 a.2.2.2=some y) (fun a=>a.1) (fun a:Nat×((List api_Form)×(List api_Token)×Int)=>match a with|(_,(out2,q6,q7))=>⟨[(0,.ptr 3 0),(1,.ptr 1 0)],[[iP q,iP q1],[oF out2],[iP bad,iP bad1],[hT q6,iP q7]]⟩) (n,(out,q2,q3)) (lb rfl) rfl e ?_
   clear e
   rintro⟨n,out2,q6,q7⟩ e
   show WS _ _ _ _ _ ⟨[(0,.ptr 3 0),(1,.ptr 1 0)],[[iP q,iP q1],[oF out2],[iP bad,iP bad1],[hT q6,iP q7]]⟩
   cases n with
   |zero=>exact absurd e (by simp [parse_Forms_1_s5_l1])
   |succ n =>
    replace e:=(parse_Forms_1_s5_l1.eq_2 (n:=n) _ _ _).symm.trans e
    refine zz ?_
    obtain⟨x,hx,e⟩:=bindS e
    refine wn (nos 4 (.val (.vptr (kT x) 0)::(nos 3 []))) ⟨[(0,.ptr 3 0),(1,.ptr 1 0),(10,bP (x.Kind != 5))],[[iP q,iP q1],[oF out2],[iP bad,iP bad1],[hT q6,iP q7]]⟩ (aI (oi hx row_api_Token_len (row_api_Token_eq x)) tI) ?_
    rcases condS e with⟨hc,e⟩|⟨hc,e⟩
    . refine zT (test hc) ?_
      refine zB ?_
      obtain⟨y1,hy1,e⟩:=bindS e
      rcases y1 with⟨f,s⟩|⟨e1,s1⟩
      . obtain⟨out3,hout3,e⟩:=bindS e
        refine wrG [3] [0,1,3] 2 4 5 6 7 8 [0,1] 4 [.no,.no,.val (iP (out2.length:Int))] (.meth (.agg (kF f)) (kP s)) .no (out3.map row_api_Form) ⟨[(0,.ptr 3 0),(1,.ptr 1 0)],[[iP q,iP q1],[oF out3],[iP bad,iP bad1],(kP s)]⟩ (aI (aI (olen out2 row_api_Form) tI) (aI (aI (aI (vparse_parser_form n (parse_parser.mk q6 q7) 1 (.ok f s) hy1) tI) (ofour hout3 row_api_Form_len (row_api_Form_eq f))) (aI (aI (vparse_parser_form n (parse_parser.mk q6 q7) 1 (.ok f s) hy1) tI) (ofour hout3 row_api_Form_len (row_api_Form_eq f))))) (by kernel_rfl) ?_
        exact zz (WS_again (n,(out3,s.l,s.forms)) rfl e (Nat.lt_succ_self _))
      . refine zz ?_
        cases e
        cases h
        exact wrGP [3] [0,1,3] 2 4 5 6 7 8 [.no,.no,.val (iP (out2.length:Int))] (.mpan (pE e1) (kP s1)) .no (aI (aI (olen out2 row_api_Form) tI) (aI (aI (vparse_parser_form n (parse_parser.mk q6 q7) 1 (.pan e1 s1) hy1) tI) (aI (vparse_parser_form n (parse_parser.mk q6 q7) 1 (.pan e1 s1) hy1) tI))) (by kernel_rfl) rfl hQ
    . refine zF (test hc) ?_
      try refine z5 rfl ?_
      exact zz (WS_wk [] 4 rfl (lb rfl) rfl (hJ (out2,q6,q7) (Option.some.inj e)))
theorem vparse_Forms_1_s5 (n:Nat)(q:Int)(q1:Int)(out:(List api_Form))(bad:Int)(bad1:Int)(q2:(List api_Token))(q3:Int)(r:(Ex parse_stop ((List api_Form)×(List api_Token)×Int) Unit))(h:parse_Forms_1_s5 n q q1 out bad bad1 q2 q3=some r):ExM r (fun v0 s0=>VCs Tryz.prog 25 [.ptr 3 0,.ptr 1 0] [[iP q,iP q1],[oF out],[iP bad,iP bad1],[hT q2,iP q3]] (.ret (.tup [])) [[iP q,iP q1],[oF s0.1],[iP bad,iP bad1],[hT s0.2.1,iP s0.2.2]]) (fun e0 s0=>VCs Tryz.prog 25 [.ptr 3 0,.ptr 1 0] [[iP q,iP q1],[oF out],[iP bad,iP bad1],[hT q2,iP q3]] (.pan (pE e0)) [[iP q,iP q1],[oF s0.1],[iP bad,iP bad1],[hT s0.2.1,iP s0.2.2]]):=(match r,h with|.ok v0 s0,h=>VCs.fin (fun Q hQ=>vparse_Forms_1_s5_0 n q q1 out bad bad1 q2 q3 _ h Q hQ)|.pan e0 s0,h=>VCs.finP (fun Q hQ=>vparse_Forms_1_s5_0 n q q1 out bad bad1 q2 q3 _ h Q hQ))
theorem vd1_parse_run_1 (d0:Int)(d1:Int)(d2:(List api_Form))(d3:Int)(d4:Int)(d5:(List api_Token))(d6:Int):VCd Tryz.prog 44 [.ptr 2 0] [[iP d0,iP d1],[oF d2],[iP d3,iP d4],[hT d5,iP d6]] .returning (fun y u' σ'=>u'=.returning/\y=.ret (.tup [])/\σ'=[[iP d0,iP d1],[oF d2],[iP d3,iP d4],[hT d5,iP d6]]):=by
 refine VCd.intro (rv:=.nilIface) ⟨[0,1,2,3,6,13],[]⟩ Tryz.func44 rfl follows rfl (fun _ _=>rfl) rfl rfl (.inl ⟨rfl,rfl,rfl⟩) (by kernel_rfl) ?_
 refine runE [0,1,2,3,6,13] [0,1] [.no] ⟨[(0,.ptr 2 0),(1,.lit .nilIface)],[[iP d0,iP d1],[oF d2],[iP d3,iP d4],[hT d5,iP d6]]⟩ tI (by kernel_rfl) ?_
 refine zz ?_
 refine wn (nos 2 []) ⟨[(0,.ptr 2 0),(1,.lit .nilIface),(6,bP false)],[[iP d0,iP d1],[oF d2],[iP d3,iP d4],[hT d5,iP d6]]⟩ tI ?_
 refine zF rfl ?_
 exact WS_ret (retK_own (by rintro y rfl;exact⟨rfl,rfl,rfl⟩) (by kernel_rfl)).1
theorem vd2_parse_run_1 (d0:Int)(d1:Int)(d2:(List api_Form))(d3:Int)(d4:Int)(d5:(List api_Token))(d6:Int)(e0:parse_stop):VCd Tryz.prog 44 [.ptr 2 0] [[iP d0,iP d1],[oF d2],[iP d3,iP d4],[hT d5,iP d6]] (.panicking (pE e0)) (fun y u' σ'=>settle u'=.returning/\y=.ret (.tup [])/\σ'=[[iP d0,iP d1],[oF d2],[iP e0.At,iP e0.E],[hT d5,iP d6]]):=by
 refine VCd.intro (rv:=(.iface 95 (.agg #[(.int .i64 e0.At),(.int .i64 e0.E)]))) ⟨[0,1,2,3,6,13],[]⟩ Tryz.func44 rfl follows rfl (fun _ _=>rfl) rfl rfl (.inr ⟨[],rfl,rfl⟩) (by kernel_rfl) ?_
 refine runE [0,1,2,3,6,13] [0,1] [.no] ⟨[(0,.ptr 2 0),(1,.lit (.iface 95 (.agg #[(.int .i64 e0.At),(.int .i64 e0.E)])))],[[iP d0,iP d1],[oF d2],[iP d3,iP d4],[hT d5,iP d6]]⟩ tI (by kernel_rfl) ?_
 refine zz ?_
 refine wn (nos 2 []) ⟨[(0,.ptr 2 0),(1,.lit (.iface 95 (.agg #[(.int .i64 e0.At),(.int .i64 e0.E)]))),(6,bP true)],[[iP d0,iP d1],[oF d2],[iP d3,iP d4],[hT d5,iP d6]]⟩ tI ?_
 refine zT rfl ?_
 refine wn (nos 8 []) ⟨[(0,.ptr 2 0),(1,.lit (.iface 95 (.agg #[(.int .i64 e0.At),(.int .i64 e0.E)]))),(2,.ptr 4 0),(3,bP true)],[[iP d0,iP d1],[oF d2],[iP d3,iP d4],[hT d5,iP d6],[iP e0.At,iP e0.E]]⟩ tI ?_
 refine wn (nos 2 []) ⟨[(0,.ptr 2 0),(1,.lit (.iface 95 (.agg #[(.int .i64 e0.At),(.int .i64 e0.E)]))),(2,.ptr 4 0),(13,bP false)],[[iP d0,iP d1],[oF d2],[iP d3,iP d4],[hT d5,iP d6],[iP e0.At,iP e0.E]]⟩ tI ?_
 refine zF rfl ?_
 refine wn (nos 2 []) ⟨[],[[iP d0,iP d1],[oF d2],[iP e0.At,iP e0.E],[hT d5,iP d6],[iP e0.At,iP e0.E]]⟩ tI ?_
 exact WS_ret (retK_own (by rintro y rfl;exact⟨rfl,rfl,rfl⟩) (by kernel_rfl)).1
theorem vparse_run_25_s6_0 (n:Nat)(q:Int)(q1:Int)(out:(List api_Form))(src:ByteArray)(r:(api_Problem×(List api_Form)))(h:parse_run_25_s6 n q q1 out src=some r)(Q:AEnd->List (List PV)->Prop)(hQ:∀ y,shareP y=.agg [iP r.1.At,iP r.1.E]->Q (.ret y) [[iP q,iP q1],[oF r.2]]) :
 VC Tryz.prog 24 [tP src,.fn 25 [.ptr 1 0]] [[iP q,iP q1],[oF out]] Q:=by
 unfold parse_run_25_s6 at h
 refine VC.introD [4] ⟨[0,1,4,5,6,14,30],[]⟩ Tryz.func24 rfl follows rfl rfl (by kernel_rfl) ?_
 show WS _ _ _ (_::_) _ _
 refine zz ?_
 refine wn (nos 1 []) ⟨[(0,tP src),(1,.fn 25 [.ptr 1 0]),(4,.ptr 2 0)],[[iP q,iP q1],[oF out],[iP 0,iP 0]]⟩ tI ?_
 obtain⟨t,ht,h⟩:=bindS h
 refine wn (nos 1 (.call (.tup [hT t.1,.agg [iP t.2.At,iP t.2.E]])::(nos 5 []))) ⟨[(0,tP src),(1,.fn 25 [.ptr 1 0]),(4,.ptr 2 0),(5,hT t.1)],[[iP q,iP q1],[oF out],[iP t.2.At,iP t.2.E]]⟩ (aI (vTokensP src t ht) tI) ?_
 refine wn (nos 3 []) ⟨[(0,tP src),(1,.fn 25 [.ptr 1 0]),(4,.ptr 2 0),(5,hT t.1),(14,bP (t.2.E != 0))],[[iP q,iP q1],[oF out],[iP t.2.At,iP t.2.E]]⟩ tI ?_
 rcases condS h with⟨hc1,h⟩|⟨hc1,h⟩
 . refine zT (test hc1) ?_
   refine wn (nos 2 []) ⟨[(0,tP src),(1,.fn 25 [.ptr 1 0]),(4,.ptr 2 0),(5,hT t.1),(14,bP (t.2.E != 0))],[[iP q,iP q1],[oF out],[iP t.2.At,iP t.2.E]]⟩ tI ?_
   cases h
   exact WS_ret (retK_fin hQ (by kernel_rfl)).1
 . refine WS_false (test hc1) ?_
   repeat first|apply z3|apply z2|apply z1|apply z4
   refine WS_nil (Bx.mk ?_)
   show WS _ _ _ _ _ ⟨(16,.fn 44 [.ptr 2 0])::[(0,tP src),(1,.fn 25 [.ptr 1 0]),(4,.ptr 2 0),(5,hT t.1),(14,bP (t.2.E != 0))],[[iP q,iP q1],[oF out],[iP t.2.At,iP t.2.E]]⟩
   refine zz ?_
   refine wn (nos 4 []) ⟨[(1,.fn 25 [.ptr 1 0]),(4,.ptr 2 0),(6,.ptr 3 0)],[[iP q,iP q1],[oF out],[iP t.2.At,iP t.2.E],[hT t.1,iP 0]]⟩ tI ?_
   obtain⟨y,hy,h⟩:=bindS h
   rcases y with⟨f,c⟩|⟨e,c1⟩
   . refine wn (nos 2 (.site (.tup []) [[iP q,iP q1],[oF c.1],[iP t.2.At,iP t.2.E],[hT c.2.1,iP c.2.2]]::[])) ⟨[(4,.ptr 2 0),(6,.ptr 3 0)],[[iP q,iP q1],[oF c.1],[iP t.2.At,iP t.2.E],[hT c.2.1,iP c.2.2]]⟩ (aI (vparse_Forms_1_s5 n q q1 out t.2.At t.2.E t.1 0 (.ok f c) hy) tI) ?_
     obtain⟨x,hx,h⟩:=bindS h
     refine wn (nos 4 (.val (.vptr (kT x) 0)::(nos 3 []))) ⟨[(4,.ptr 2 0),(6,.ptr 3 0),(30,bP (x.Kind != 5))],[[iP q,iP q1],[oF c.1],[iP t.2.At,iP t.2.E],[hT c.2.1,iP c.2.2]]⟩ (aI (oi hx row_api_Token_len (row_api_Token_eq x)) tI) ?_
     rcases condS h with⟨hc,h⟩|⟨hc,h⟩
     . refine zT (test hc) ?_
       obtain⟨y1,hy1,h⟩:=bindS h
       rcases y1 with⟨f1,s⟩|⟨e1,s1⟩
       . refine wn (nos 1 (.meth (.tup []) (kP s)::[])) ⟨[(4,.ptr 2 0)],[[iP q,iP q1],[oF c.1],[iP t.2.At,iP t.2.E],(kP s)]⟩ (aI (vparse_parser_fail (parse_parser.mk c.2.1 c.2.2) 5 (.ok f1 s) hy1) tI) ?_
         refine wn (nos 2 []) ⟨[(4,.ptr 2 0)],[[iP q,iP q1],[oF c.1],[iP 0,iP 0],(kP s)]⟩ tI ?_
         cases h
         exact WS_ret (VCd.mono (vd1_parse_run_1 q q1 c.1 0 0 s.l s.forms) fun y u' σ' hx=>⟨hx.1,⟨_,hx.2.1⟩,by rw [hx.2.2];exact (retK_fin hQ (by kernel_rfl)).1⟩)
       . refine zz ?_
         cases h
         exact WS_runPD [4] (nos 1 (.mpan (pE e1) (kP s1)::[])) ⟨[(4,.ptr 2 0)],[[iP q,iP q1],[oF c.1],[iP t.2.At,iP t.2.E],(kP s1)]⟩ (aI (vparse_parser_fail (parse_parser.mk c.2.1 c.2.2) 5 (.pan e1 s1) hy1) tI) (by kernel_rfl) rfl (VCd.mono (vd2_parse_run_1 q q1 c.1 t.2.At t.2.E s1.l s1.forms e1) fun y u' σ' hx=>⟨hx.1,⟨_,hx.2.1⟩,by rw [hx.2.2];exact (retK_fin hQ (by kernel_rfl)).1⟩)
     . refine zF (test hc) ?_
       refine wn (nos 2 []) ⟨[(4,.ptr 2 0)],[[iP q,iP q1],[oF c.1],[iP 0,iP 0],[hT c.2.1,iP c.2.2]]⟩ tI ?_
       cases h
       exact WS_ret (VCd.mono (vd1_parse_run_1 q q1 c.1 0 0 c.2.1 c.2.2) fun y u' σ' hx=>⟨hx.1,⟨_,hx.2.1⟩,by rw [hx.2.2];exact (retK_fin hQ (by kernel_rfl)).1⟩)
   . refine zz ?_
     cases h
     exact WS_runPD [4] (nos 2 (.sitep (pE e) [[iP q,iP q1],[oF c1.1],[iP t.2.At,iP t.2.E],[hT c1.2.1,iP c1.2.2]]::[])) ⟨[(4,.ptr 2 0)],[[iP q,iP q1],[oF c1.1],[iP t.2.At,iP t.2.E],[hT c1.2.1,iP c1.2.2]]⟩ (aI (vparse_Forms_1_s5 n q q1 out t.2.At t.2.E t.1 0 (.pan e c1) hy) tI) (by kernel_rfl) rfl (VCd.mono (vd2_parse_run_1 q q1 c1.1 t.2.At t.2.E c1.2.1 c1.2.2 e) fun y u' σ' hx=>⟨hx.1,⟨_,hx.2.1⟩,by rw [hx.2.2];exact (retK_fin hQ (by kernel_rfl)).1⟩)
theorem vparse_run_25_s6 (n:Nat)(q:Int)(q1:Int)(out:(List api_Form))(src:ByteArray)(r:(api_Problem×(List api_Form)))(h:parse_run_25_s6 n q q1 out src=some r):VCs Tryz.prog 24 [tP src,.fn 25 [.ptr 1 0]] [[iP q,iP q1],[oF out]] (.ret (.agg [iP r.1.At,iP r.1.E])) [[iP q,iP q1],[oF r.2]]:=VCs.fin (fun Q hQ=>vparse_run_25_s6_0 n q q1 out src _ h Q hQ)
theorem vparse_Forms_0 (n:Nat)(src:ByteArray)(r:((List api_Form)×api_Problem))(h:parse_Forms n src=some r)(Q:AEnd->List (List PV)->Prop)(hQ:∀ y,shareP y=.tup [hF r.1,.agg [iP r.2.At,iP r.2.E]]->Q (.ret y) []) :
 VC Tryz.prog 8 [tP src] [] Q:=by
 unfold parse_Forms at h
 refine VC.intro ⟨[0,2,3,4,5,11],[]⟩ Tryz.func8 rfl follows ok8 (by rw [Tryz.ntmps8];exact lb rfl) ?_
 refine WS_ofR ?_
 refine zz ?_
 refine wn (nos 2 []) ⟨[(0,tP src),(2,.sl [] .own),(3,.ptr 0 0)],[[iP 0,iP 0]]⟩ tI ?_
 refine wn (nos 1 []) ⟨[(0,tP src),(2,.sl [] .own),(3,.ptr 0 0),(4,.ptr 1 0)],[[iP 0,iP 0],[.sl [] .own]]⟩ tI ?_
 obtain⟨bad,hbad,h⟩:=bindS h
 refine wn (nos 2 (.site (.agg [iP bad.1.At,iP bad.1.E]) [[iP 0,iP 0],[oF bad.2]]::(nos 2 []))) ⟨[(2,.sl [] .own),(3,.ptr 0 0),(4,.ptr 1 0),(5,.ptr 2 0)],[[iP 0,iP 0],[oF bad.2],[iP bad.1.At,iP bad.1.E]]⟩ (aI (vparse_run_25_s6 n 0 0 [] src bad hbad) tI) ?_
 refine wn (nos 3 []) ⟨[(2,.sl [] .own),(3,.ptr 0 0),(4,.ptr 1 0),(5,.ptr 2 0),(11,bP (bad.1.E != 0))],[[iP 0,iP 0],[oF bad.2],[iP bad.1.At,iP bad.1.E]]⟩ tI ?_
 rcases condS h with⟨hc,h⟩|⟨hc,h⟩
 . refine zT (test hc) ?_
   refine wn (nos 3 []) ⟨[(2,.sl [] .own),(3,.ptr 0 0),(4,.ptr 1 0),(5,.ptr 2 0)],[[iP bad.1.At,iP bad.1.E],[oF bad.2],[iP bad.1.At,iP bad.1.E]]⟩ tI ?_
   cases h
   exact rt hQ
 . refine zF (test hc) ?_
   refine wn (nos 4 []) ⟨[(2,.sl (bad.2.map row_api_Form) (.view (.cell 1 0))),(3,.ptr 0 0)],[[iP bad.1.At,iP bad.1.E],[oF bad.2],[iP bad.1.At,iP bad.1.E]]⟩ tI ?_
   cases h
   exact rt hQ
theorem vparse_Forms (n:Nat)(src:ByteArray)(r:((List api_Form)×api_Problem))(h:parse_Forms n src=some r):VCp Tryz.prog 8 [tP src] (.tup [hF r.1,.agg [iP r.2.At,iP r.2.E]]):=VC.fin (fun Q hQ=>vparse_Forms_0 n src _ h Q hQ) rfl rfl
theorem vparse_Expr_1_s7_0 (n:Nat)(q:Int)(q1:Int)(q2:ByteArray)(q3:(List api_Expr))(q4:Int)(q5:Int)(q6:Int)(out:Int)(out1:Int)(out2:ByteArray)(out3:(List api_Expr))(out4:Int)(bad:Int)(bad1:Int)(q7:(List api_Token))(q8:Int)(r:(Ex parse_stop (Int×Int×ByteArray×(List api_Expr)×Int×(List api_Token)×Int) Unit))(h:parse_Expr_1_s7 n q q1 q2 q3 q4 q5 q6 out out1 out2 out3 out4 bad bad1 q7 q8=some r)(Q:AEnd->List (List PV)->Prop)(hQ:ExM r (fun v0 s0=>∀ y,shareP y=.tup []->Q (.ret y) [[iP q,iP q1,tP q2,hX q3,iP q4],[iP q5,iP q6],[iP s0.1,iP s0.2.1,tP s0.2.2.1,hX s0.2.2.2.1,iP s0.2.2.2.2.1],[iP bad,iP bad1],[hT s0.2.2.2.2.2.1,iP s0.2.2.2.2.2.2]]) (fun e0 s0=>Q (.pan (pE e0)) [[iP q,iP q1,tP q2,hX q3,iP q4],[iP q5,iP q6],[iP s0.1,iP s0.2.1,tP s0.2.2.1,hX s0.2.2.2.1,iP s0.2.2.2.2.1],[iP bad,iP bad1],[hT s0.2.2.2.2.2.1,iP s0.2.2.2.2.2.2]])) :
 VC Tryz.prog 27 [.ptr 4 0,.ptr 2 0] [[iP q,iP q1,tP q2,hX q3,iP q4],[iP q5,iP q6],[iP out,iP out1,tP out2,hX out3,iP out4],[iP bad,iP bad1],[hT q7,iP q8]] Q:=by
 unfold parse_Expr_1_s7 at h
 refine VC.intro ⟨[0,1],[]⟩ Tryz.func27 rfl follows ok27 (by rw [Tryz.ntmps27];exact lb rfl) ?_
 refine WS_ofR ?_
 refine zz ?_
 obtain⟨y,hy,h⟩:=bindS h
 rcases y with⟨e,s⟩|⟨e1,s1⟩
 . refine wn (nos 1 (.meth (.agg (kX e)) (kP s)::(nos 1 []))) ⟨[],[[iP q,iP q1,tP q2,hX q3,iP q4],[iP q5,iP q6],(kX e),[iP bad,iP bad1],(kP s)]⟩ (aI (vparse_parser_expr n (parse_parser.mk q7 q8) 1 (.ok e s) hy) tI) ?_
   cases h
   exact rt hQ
 . refine zz ?_
   cases h
   exact WS_runP (nos 1 (.mpan (pE e1) (kP s1)::(nos 1 []))) (aI (vparse_parser_expr n (parse_parser.mk q7 q8) 1 (.pan e1 s1) hy) tI) (by kernel_rfl) rfl hQ
theorem vparse_Expr_1_s7 (n:Nat)(q:Int)(q1:Int)(q2:ByteArray)(q3:(List api_Expr))(q4:Int)(q5:Int)(q6:Int)(out:Int)(out1:Int)(out2:ByteArray)(out3:(List api_Expr))(out4:Int)(bad:Int)(bad1:Int)(q7:(List api_Token))(q8:Int)(r:(Ex parse_stop (Int×Int×ByteArray×(List api_Expr)×Int×(List api_Token)×Int) Unit))(h:parse_Expr_1_s7 n q q1 q2 q3 q4 q5 q6 out out1 out2 out3 out4 bad bad1 q7 q8=some r):ExM r (fun v0 s0=>VCs Tryz.prog 27 [.ptr 4 0,.ptr 2 0] [[iP q,iP q1,tP q2,hX q3,iP q4],[iP q5,iP q6],[iP out,iP out1,tP out2,hX out3,iP out4],[iP bad,iP bad1],[hT q7,iP q8]] (.ret (.tup [])) [[iP q,iP q1,tP q2,hX q3,iP q4],[iP q5,iP q6],[iP s0.1,iP s0.2.1,tP s0.2.2.1,hX s0.2.2.2.1,iP s0.2.2.2.2.1],[iP bad,iP bad1],[hT s0.2.2.2.2.2.1,iP s0.2.2.2.2.2.2]]) (fun e0 s0=>VCs Tryz.prog 27 [.ptr 4 0,.ptr 2 0] [[iP q,iP q1,tP q2,hX q3,iP q4],[iP q5,iP q6],[iP out,iP out1,tP out2,hX out3,iP out4],[iP bad,iP bad1],[hT q7,iP q8]] (.pan (pE e0)) [[iP q,iP q1,tP q2,hX q3,iP q4],[iP q5,iP q6],[iP s0.1,iP s0.2.1,tP s0.2.2.1,hX s0.2.2.2.1,iP s0.2.2.2.2.1],[iP bad,iP bad1],[hT s0.2.2.2.2.2.1,iP s0.2.2.2.2.2.2]]):=(match r,h with|.ok v0 s0,h=>VCs.fin (fun Q hQ=>vparse_Expr_1_s7_0 n q q1 q2 q3 q4 q5 q6 out out1 out2 out3 out4 bad bad1 q7 q8 _ h Q hQ)|.pan e0 s0,h=>VCs.finP (fun Q hQ=>vparse_Expr_1_s7_0 n q q1 q2 q3 q4 q5 q6 out out1 out2 out3 out4 bad bad1 q7 q8 _ h Q hQ))
theorem vd3_parse_run_1 (d0:Int)(d1:Int)(d2:ByteArray)(d3:(List api_Expr))(d4:Int)(d5:Int)(d6:Int)(d7:Int)(d8:Int)(d9:ByteArray)(d10:(List api_Expr))(d11:Int)(d12:Int)(d13:Int)(d14:(List api_Token))(d15:Int):VCd Tryz.prog 44 [.ptr 3 0] [[iP d0,iP d1,tP d2,hX d3,iP d4],[iP d5,iP d6],[iP d7,iP d8,tP d9,hX d10,iP d11],[iP d12,iP d13],[hT d14,iP d15]] .returning (fun y u' σ'=>u'=.returning/\y=.ret (.tup [])/\σ'=[[iP d0,iP d1,tP d2,hX d3,iP d4],[iP d5,iP d6],[iP d7,iP d8,tP d9,hX d10,iP d11],[iP d12,iP d13],[hT d14,iP d15]]):=by
 refine VCd.intro (rv:=.nilIface) ⟨[0,1,2,3,6,13],[]⟩ Tryz.func44 rfl follows rfl (fun _ _=>rfl) rfl rfl (.inl ⟨rfl,rfl,rfl⟩) (by kernel_rfl) ?_
 refine runE [0,1,2,3,6,13] [0,1] [.no] ⟨[(0,.ptr 3 0),(1,.lit .nilIface)],[[iP d0,iP d1,tP d2,hX d3,iP d4],[iP d5,iP d6],[iP d7,iP d8,tP d9,hX d10,iP d11],[iP d12,iP d13],[hT d14,iP d15]]⟩ tI (by kernel_rfl) ?_
 refine zz ?_
 refine wn (nos 2 []) ⟨[(0,.ptr 3 0),(1,.lit .nilIface),(6,bP false)],[[iP d0,iP d1,tP d2,hX d3,iP d4],[iP d5,iP d6],[iP d7,iP d8,tP d9,hX d10,iP d11],[iP d12,iP d13],[hT d14,iP d15]]⟩ tI ?_
 refine zF rfl ?_
 exact WS_ret (retK_own (by rintro y rfl;exact⟨rfl,rfl,rfl⟩) (by kernel_rfl)).1
theorem vd4_parse_run_1 (d0:Int)(d1:Int)(d2:ByteArray)(d3:(List api_Expr))(d4:Int)(d5:Int)(d6:Int)(d7:Int)(d8:Int)(d9:ByteArray)(d10:(List api_Expr))(d11:Int)(d12:Int)(d13:Int)(d14:(List api_Token))(d15:Int)(e0:parse_stop):VCd Tryz.prog 44 [.ptr 3 0] [[iP d0,iP d1,tP d2,hX d3,iP d4],[iP d5,iP d6],[iP d7,iP d8,tP d9,hX d10,iP d11],[iP d12,iP d13],[hT d14,iP d15]] (.panicking (pE e0)) (fun y u' σ'=>settle u'=.returning/\y=.ret (.tup [])/\σ'=[[iP d0,iP d1,tP d2,hX d3,iP d4],[iP d5,iP d6],[iP d7,iP d8,tP d9,hX d10,iP d11],[iP e0.At,iP e0.E],[hT d14,iP d15]]):=by
 refine VCd.intro (rv:=(.iface 95 (.agg #[(.int .i64 e0.At),(.int .i64 e0.E)]))) ⟨[0,1,2,3,6,13],[]⟩ Tryz.func44 rfl follows rfl (fun _ _=>rfl) rfl rfl (.inr ⟨[],rfl,rfl⟩) (by kernel_rfl) ?_
 refine runE [0,1,2,3,6,13] [0,1] [.no] ⟨[(0,.ptr 3 0),(1,.lit (.iface 95 (.agg #[(.int .i64 e0.At),(.int .i64 e0.E)])))],[[iP d0,iP d1,tP d2,hX d3,iP d4],[iP d5,iP d6],[iP d7,iP d8,tP d9,hX d10,iP d11],[iP d12,iP d13],[hT d14,iP d15]]⟩ tI (by kernel_rfl) ?_
 refine zz ?_
 refine wn (nos 2 []) ⟨[(0,.ptr 3 0),(1,.lit (.iface 95 (.agg #[(.int .i64 e0.At),(.int .i64 e0.E)]))),(6,bP true)],[[iP d0,iP d1,tP d2,hX d3,iP d4],[iP d5,iP d6],[iP d7,iP d8,tP d9,hX d10,iP d11],[iP d12,iP d13],[hT d14,iP d15]]⟩ tI ?_
 refine zT rfl ?_
 refine wn (nos 8 []) ⟨[(0,.ptr 3 0),(1,.lit (.iface 95 (.agg #[(.int .i64 e0.At),(.int .i64 e0.E)]))),(2,.ptr 5 0),(3,bP true)],[[iP d0,iP d1,tP d2,hX d3,iP d4],[iP d5,iP d6],[iP d7,iP d8,tP d9,hX d10,iP d11],[iP d12,iP d13],[hT d14,iP d15],[iP e0.At,iP e0.E]]⟩ tI ?_
 refine wn (nos 2 []) ⟨[(0,.ptr 3 0),(1,.lit (.iface 95 (.agg #[(.int .i64 e0.At),(.int .i64 e0.E)]))),(2,.ptr 5 0),(13,bP false)],[[iP d0,iP d1,tP d2,hX d3,iP d4],[iP d5,iP d6],[iP d7,iP d8,tP d9,hX d10,iP d11],[iP d12,iP d13],[hT d14,iP d15],[iP e0.At,iP e0.E]]⟩ tI ?_
 refine zF rfl ?_
 refine wn (nos 2 []) ⟨[],[[iP d0,iP d1,tP d2,hX d3,iP d4],[iP d5,iP d6],[iP d7,iP d8,tP d9,hX d10,iP d11],[iP e0.At,iP e0.E],[hT d14,iP d15],[iP e0.At,iP e0.E]]⟩ tI ?_
 exact WS_ret (retK_own (by rintro y rfl;exact⟨rfl,rfl,rfl⟩) (by kernel_rfl)).1
theorem vparse_run_27_s8_0 (n:Nat)(q:Int)(q1:Int)(q2:ByteArray)(q3:(List api_Expr))(q4:Int)(q5:Int)(q6:Int)(out:Int)(out1:Int)(out2:ByteArray)(out3:(List api_Expr))(out4:Int)(src:ByteArray)(r:(api_Problem×Int×Int×ByteArray×(List api_Expr)×Int))(h:parse_run_27_s8 n q q1 q2 q3 q4 q5 q6 out out1 out2 out3 out4 src=some r)(Q:AEnd->List (List PV)->Prop)(hQ:∀ y,shareP y=.agg [iP r.1.At,iP r.1.E]->Q (.ret y) [[iP q,iP q1,tP q2,hX q3,iP q4],[iP q5,iP q6],[iP r.2.1,iP r.2.2.1,tP r.2.2.2.1,hX r.2.2.2.2.1,iP r.2.2.2.2.2]]) :
 VC Tryz.prog 24 [tP src,.fn 27 [.ptr 2 0]] [[iP q,iP q1,tP q2,hX q3,iP q4],[iP q5,iP q6],[iP out,iP out1,tP out2,hX out3,iP out4]] Q:=by
 unfold parse_run_27_s8 at h
 refine VC.introD [4] ⟨[0,1,4,5,6,14,30],[]⟩ Tryz.func24 rfl follows rfl rfl (by kernel_rfl) ?_
 show WS _ _ _ (_::_) _ _
 refine zz ?_
 refine wn (nos 1 []) ⟨[(0,tP src),(1,.fn 27 [.ptr 2 0]),(4,.ptr 3 0)],[[iP q,iP q1,tP q2,hX q3,iP q4],[iP q5,iP q6],[iP out,iP out1,tP out2,hX out3,iP out4],[iP 0,iP 0]]⟩ tI ?_
 obtain⟨t,ht,h⟩:=bindS h
 refine wn (nos 1 (.call (.tup [hT t.1,.agg [iP t.2.At,iP t.2.E]])::(nos 5 []))) ⟨[(0,tP src),(1,.fn 27 [.ptr 2 0]),(4,.ptr 3 0),(5,hT t.1)],[[iP q,iP q1,tP q2,hX q3,iP q4],[iP q5,iP q6],[iP out,iP out1,tP out2,hX out3,iP out4],[iP t.2.At,iP t.2.E]]⟩ (aI (vTokensP src t ht) tI) ?_
 refine wn (nos 3 []) ⟨[(0,tP src),(1,.fn 27 [.ptr 2 0]),(4,.ptr 3 0),(5,hT t.1),(14,bP (t.2.E != 0))],[[iP q,iP q1,tP q2,hX q3,iP q4],[iP q5,iP q6],[iP out,iP out1,tP out2,hX out3,iP out4],[iP t.2.At,iP t.2.E]]⟩ tI ?_
 rcases condS h with⟨hc1,h⟩|⟨hc1,h⟩
 . refine zT (test hc1) ?_
   refine wn (nos 2 []) ⟨[(0,tP src),(1,.fn 27 [.ptr 2 0]),(4,.ptr 3 0),(5,hT t.1),(14,bP (t.2.E != 0))],[[iP q,iP q1,tP q2,hX q3,iP q4],[iP q5,iP q6],[iP out,iP out1,tP out2,hX out3,iP out4],[iP t.2.At,iP t.2.E]]⟩ tI ?_
   cases h
   exact WS_ret (retK_fin hQ (by kernel_rfl)).1
 . refine WS_false (test hc1) ?_
   repeat first|apply z3|apply z2|apply z1|apply z4
   refine WS_nil (Bx.mk ?_)
   show WS _ _ _ _ _ ⟨(16,.fn 44 [.ptr 3 0])::[(0,tP src),(1,.fn 27 [.ptr 2 0]),(4,.ptr 3 0),(5,hT t.1),(14,bP (t.2.E != 0))],[[iP q,iP q1,tP q2,hX q3,iP q4],[iP q5,iP q6],[iP out,iP out1,tP out2,hX out3,iP out4],[iP t.2.At,iP t.2.E]]⟩
   refine zz ?_
   refine wn (nos 4 []) ⟨[(1,.fn 27 [.ptr 2 0]),(4,.ptr 3 0),(6,.ptr 4 0)],[[iP q,iP q1,tP q2,hX q3,iP q4],[iP q5,iP q6],[iP out,iP out1,tP out2,hX out3,iP out4],[iP t.2.At,iP t.2.E],[hT t.1,iP 0]]⟩ tI ?_
   obtain⟨y,hy,h⟩:=bindS h
   rcases y with⟨e,c⟩|⟨e1,c1⟩
   . refine wn (nos 2 (.site (.tup []) [[iP q,iP q1,tP q2,hX q3,iP q4],[iP q5,iP q6],[iP c.1,iP c.2.1,tP c.2.2.1,hX c.2.2.2.1,iP c.2.2.2.2.1],[iP t.2.At,iP t.2.E],[hT c.2.2.2.2.2.1,iP c.2.2.2.2.2.2]]::[])) ⟨[(4,.ptr 3 0),(6,.ptr 4 0)],[[iP q,iP q1,tP q2,hX q3,iP q4],[iP q5,iP q6],[iP c.1,iP c.2.1,tP c.2.2.1,hX c.2.2.2.1,iP c.2.2.2.2.1],[iP t.2.At,iP t.2.E],[hT c.2.2.2.2.2.1,iP c.2.2.2.2.2.2]]⟩ (aI (vparse_Expr_1_s7 n q q1 q2 q3 q4 q5 q6 out out1 out2 out3 out4 t.2.At t.2.E t.1 0 (.ok e c) hy) tI) ?_
     obtain⟨x,hx,h⟩:=bindS h
     refine wn (nos 4 (.val (.vptr (kT x) 0)::(nos 3 []))) ⟨[(4,.ptr 3 0),(6,.ptr 4 0),(30,bP (x.Kind != 5))],[[iP q,iP q1,tP q2,hX q3,iP q4],[iP q5,iP q6],[iP c.1,iP c.2.1,tP c.2.2.1,hX c.2.2.2.1,iP c.2.2.2.2.1],[iP t.2.At,iP t.2.E],[hT c.2.2.2.2.2.1,iP c.2.2.2.2.2.2]]⟩ (aI (oi hx row_api_Token_len (row_api_Token_eq x)) tI) ?_
     rcases condS h with⟨hc,h⟩|⟨hc,h⟩
     . refine zT (test hc) ?_
       obtain⟨y1,hy1,h⟩:=bindS h
       rcases y1 with⟨f,s⟩|⟨e2,s1⟩
       . refine wn (nos 1 (.meth (.tup []) (kP s)::[])) ⟨[(4,.ptr 3 0)],[[iP q,iP q1,tP q2,hX q3,iP q4],[iP q5,iP q6],[iP c.1,iP c.2.1,tP c.2.2.1,hX c.2.2.2.1,iP c.2.2.2.2.1],[iP t.2.At,iP t.2.E],(kP s)]⟩ (aI (vparse_parser_fail (parse_parser.mk c.2.2.2.2.2.1 c.2.2.2.2.2.2) 5 (.ok f s) hy1) tI) ?_
         refine wn (nos 2 []) ⟨[(4,.ptr 3 0)],[[iP q,iP q1,tP q2,hX q3,iP q4],[iP q5,iP q6],[iP c.1,iP c.2.1,tP c.2.2.1,hX c.2.2.2.1,iP c.2.2.2.2.1],[iP 0,iP 0],(kP s)]⟩ tI ?_
         cases h
         exact WS_ret (VCd.mono (vd3_parse_run_1 q q1 q2 q3 q4 q5 q6 c.1 c.2.1 c.2.2.1 c.2.2.2.1 c.2.2.2.2.1 0 0 s.l s.forms) fun y u' σ' hx=>⟨hx.1,⟨_,hx.2.1⟩,by rw [hx.2.2];exact (retK_fin hQ (by kernel_rfl)).1⟩)
       . refine zz ?_
         cases h
         exact WS_runPD [4] (nos 1 (.mpan (pE e2) (kP s1)::[])) ⟨[(4,.ptr 3 0)],[[iP q,iP q1,tP q2,hX q3,iP q4],[iP q5,iP q6],[iP c.1,iP c.2.1,tP c.2.2.1,hX c.2.2.2.1,iP c.2.2.2.2.1],[iP t.2.At,iP t.2.E],(kP s1)]⟩ (aI (vparse_parser_fail (parse_parser.mk c.2.2.2.2.2.1 c.2.2.2.2.2.2) 5 (.pan e2 s1) hy1) tI) (by kernel_rfl) rfl (VCd.mono (vd4_parse_run_1 q q1 q2 q3 q4 q5 q6 c.1 c.2.1 c.2.2.1 c.2.2.2.1 c.2.2.2.2.1 t.2.At t.2.E s1.l s1.forms e2) fun y u' σ' hx=>⟨hx.1,⟨_,hx.2.1⟩,by rw [hx.2.2];exact (retK_fin hQ (by kernel_rfl)).1⟩)
     . refine zF (test hc) ?_
       refine wn (nos 2 []) ⟨[(4,.ptr 3 0)],[[iP q,iP q1,tP q2,hX q3,iP q4],[iP q5,iP q6],[iP c.1,iP c.2.1,tP c.2.2.1,hX c.2.2.2.1,iP c.2.2.2.2.1],[iP 0,iP 0],[hT c.2.2.2.2.2.1,iP c.2.2.2.2.2.2]]⟩ tI ?_
       cases h
       exact WS_ret (VCd.mono (vd3_parse_run_1 q q1 q2 q3 q4 q5 q6 c.1 c.2.1 c.2.2.1 c.2.2.2.1 c.2.2.2.2.1 0 0 c.2.2.2.2.2.1 c.2.2.2.2.2.2) fun y u' σ' hx=>⟨hx.1,⟨_,hx.2.1⟩,by rw [hx.2.2];exact (retK_fin hQ (by kernel_rfl)).1⟩)
   . refine zz ?_
     cases h
     exact WS_runPD [4] (nos 2 (.sitep (pE e1) [[iP q,iP q1,tP q2,hX q3,iP q4],[iP q5,iP q6],[iP c1.1,iP c1.2.1,tP c1.2.2.1,hX c1.2.2.2.1,iP c1.2.2.2.2.1],[iP t.2.At,iP t.2.E],[hT c1.2.2.2.2.2.1,iP c1.2.2.2.2.2.2]]::[])) ⟨[(4,.ptr 3 0)],[[iP q,iP q1,tP q2,hX q3,iP q4],[iP q5,iP q6],[iP c1.1,iP c1.2.1,tP c1.2.2.1,hX c1.2.2.2.1,iP c1.2.2.2.2.1],[iP t.2.At,iP t.2.E],[hT c1.2.2.2.2.2.1,iP c1.2.2.2.2.2.2]]⟩ (aI (vparse_Expr_1_s7 n q q1 q2 q3 q4 q5 q6 out out1 out2 out3 out4 t.2.At t.2.E t.1 0 (.pan e1 c1) hy) tI) (by kernel_rfl) rfl (VCd.mono (vd4_parse_run_1 q q1 q2 q3 q4 q5 q6 c1.1 c1.2.1 c1.2.2.1 c1.2.2.2.1 c1.2.2.2.2.1 t.2.At t.2.E c1.2.2.2.2.2.1 c1.2.2.2.2.2.2 e1) fun y u' σ' hx=>⟨hx.1,⟨_,hx.2.1⟩,by rw [hx.2.2];exact (retK_fin hQ (by kernel_rfl)).1⟩)
theorem vparse_run_27_s8 (n:Nat)(q:Int)(q1:Int)(q2:ByteArray)(q3:(List api_Expr))(q4:Int)(q5:Int)(q6:Int)(out:Int)(out1:Int)(out2:ByteArray)(out3:(List api_Expr))(out4:Int)(src:ByteArray)(r:(api_Problem×Int×Int×ByteArray×(List api_Expr)×Int))(h:parse_run_27_s8 n q q1 q2 q3 q4 q5 q6 out out1 out2 out3 out4 src=some r):VCs Tryz.prog 24 [tP src,.fn 27 [.ptr 2 0]] [[iP q,iP q1,tP q2,hX q3,iP q4],[iP q5,iP q6],[iP out,iP out1,tP out2,hX out3,iP out4]] (.ret (.agg [iP r.1.At,iP r.1.E])) [[iP q,iP q1,tP q2,hX q3,iP q4],[iP q5,iP q6],[iP r.2.1,iP r.2.2.1,tP r.2.2.2.1,hX r.2.2.2.2.1,iP r.2.2.2.2.2]]:=VCs.fin (fun Q hQ=>vparse_run_27_s8_0 n q q1 q2 q3 q4 q5 q6 out out1 out2 out3 out4 src _ h Q hQ)
theorem okp_parse_Expr:okCode [(4,[9999,1,0,0,1,2,3]),(5,[9999,1,0,0,1,2,3])] Tryz.f9.ntmps (Tryz.f9.body.getD .skip)=true:=by kernel_rfl
theorem vparse_Expr_0 (n:Nat)(src:ByteArray)(r:(api_Expr×api_Problem))(h:parse_Expr n src=some r)(Q:AEnd->List (List PV)->Prop)(hQ:∀ y,shareP y=.tup [.agg (kX r.1),.agg [iP r.2.At,iP r.2.E]]->Q (.ret y) []) :
 VC Tryz.prog 9 [tP src] [] Q:=by
 unfold parse_Expr at h
 refine VC.intro ⟨[0,2,3,4,5,11],[(4,[9999,1,0,0,1,2,3]),(5,[9999,1,0,0,1,2,3])]⟩ Tryz.func9 rfl follows okp_parse_Expr (by rw [Tryz.ntmps9];exact lb rfl) ?_
 refine WS_ofR ?_
 refine zz ?_
 refine wn (nos 2 []) ⟨[(0,tP src),(2,.ptr 0 0),(3,.ptr 1 0)],[[iP 0,iP 0,tP ⟨#[]⟩,.sl [] .own,iP 0],[iP 0,iP 0]]⟩ tI ?_
 refine wn (nos 1 []) ⟨[(0,tP src),(2,.ptr 0 0),(3,.ptr 1 0),(4,.ptr 2 0)],[[iP 0,iP 0,tP ⟨#[]⟩,.sl [] .own,iP 0],[iP 0,iP 0],[iP 0,iP 0,tP ⟨#[]⟩,.sl [] .own,iP 0]]⟩ tI ?_
 refine WS_share 0 3 ⟨[(0,tP src),(2,.ptr 0 0),(3,.ptr 1 0),(4,.ptr 2 0)],[[iP 0,iP 0,tP ⟨#[]⟩,.sl [] .shared,iP 0],[iP 0,iP 0],[iP 0,iP 0,tP ⟨#[]⟩,.sl [] .own,iP 0]]⟩ (by kernel_rfl) ?_
 refine WS_share 2 3 ⟨[(0,tP src),(2,.ptr 0 0),(3,.ptr 1 0),(4,.ptr 2 0)],[[iP 0,iP 0,tP ⟨#[]⟩,.sl [] .shared,iP 0],[iP 0,iP 0],[iP 0,iP 0,tP ⟨#[]⟩,.sl [] .shared,iP 0]]⟩ (by kernel_rfl) ?_
 refine zz ?_
 obtain⟨bad,hbad,h⟩:=bindS h
 refine wn (nos 2 (.site (.agg [iP bad.1.At,iP bad.1.E]) [[iP 0,iP 0,tP ⟨#[]⟩,.sl [] .shared,iP 0],[iP 0,iP 0],[iP bad.2.1,iP bad.2.2.1,tP bad.2.2.2.1,hX bad.2.2.2.2.1,iP bad.2.2.2.2.2]]::(nos 2 []))) ⟨[(2,.ptr 0 0),(3,.ptr 1 0),(4,.ptr 2 0),(5,.ptr 3 0)],[[iP 0,iP 0,tP ⟨#[]⟩,.sl [] .shared,iP 0],[iP 0,iP 0],[iP bad.2.1,iP bad.2.2.1,tP bad.2.2.2.1,hX bad.2.2.2.2.1,iP bad.2.2.2.2.2],[iP bad.1.At,iP bad.1.E]]⟩ (aI (vparse_run_27_s8 n 0 0 ⟨#[]⟩ [] 0 0 0 0 0 ⟨#[]⟩ [] 0 src bad hbad) tI) ?_
 refine wn (nos 3 []) ⟨[(2,.ptr 0 0),(3,.ptr 1 0),(4,.ptr 2 0),(5,.ptr 3 0),(11,bP (bad.1.E != 0))],[[iP 0,iP 0,tP ⟨#[]⟩,.sl [] .shared,iP 0],[iP 0,iP 0],[iP bad.2.1,iP bad.2.2.1,tP bad.2.2.2.1,hX bad.2.2.2.2.1,iP bad.2.2.2.2.2],[iP bad.1.At,iP bad.1.E]]⟩ tI ?_
 rcases condS h with⟨hc,h⟩|⟨hc,h⟩
 . refine zT (test hc) ?_
   refine wqD [0] [0,1,2,3] (nos 4 []) ⟨[(2,.ptr 0 0),(3,.ptr 1 0),(4,.ptr 2 0),(5,.ptr 3 0)],[[iP 0,iP 0,tP ⟨#[]⟩,.sl [] .own,iP 0],[iP bad.1.At,iP bad.1.E],[iP bad.2.1,iP bad.2.2.1,tP bad.2.2.2.1,hX bad.2.2.2.2.1,iP bad.2.2.2.2.2],[iP bad.1.At,iP bad.1.E]]⟩ tI ?_
   refine zz ?_
   cases h
   exact rt hQ
 . refine zF (test hc) ?_
   refine wqD [0] [0,1,2,3] (nos 4 []) ⟨[(2,.ptr 0 0),(3,.ptr 1 0)],[[iP bad.2.1,iP bad.2.2.1,tP bad.2.2.2.1,hX bad.2.2.2.2.1,iP bad.2.2.2.2.2],[iP bad.1.At,iP bad.1.E],[iP bad.2.1,iP bad.2.2.1,tP bad.2.2.2.1,hX bad.2.2.2.2.1,iP bad.2.2.2.2.2],[iP bad.1.At,iP bad.1.E]]⟩ tI ?_
   refine zz ?_
   cases h
   exact rt hQ
theorem vparse_Expr (n:Nat)(src:ByteArray)(r:(api_Expr×api_Problem))(h:parse_Expr n src=some r):VCp Tryz.prog 9 [tP src] (.tup [.agg (kX r.1),.agg [iP r.2.At,iP r.2.E]]):=VC.fin (fun Q hQ=>vparse_Expr_0 n src _ h Q hQ) rfl rfl
end Go.Proofs.YtgdalmleogphgaaGreatDoor
namespace Go.Proofs.YtgdalmleogphgaaGreatDoor
open Go.RowKit Go.Q Go.Vl Go.Sp
set_option maxRecDepth 100000
set_option linter.unusedSimpArgs false
set_option maxHeartbeats 4000000
set_option linter.unusedVariables false
theorem vparse_SameExpr_0 (n0:Nat)
 (ih_parse_SameExpr:∀ m,m<=n0->∀ (a_:api_Expr) (b:api_Expr) (r:Bool),parse_SameExpr m a_ b=some r->VCp Tryz.prog 15 [.agg (kX a_),.agg (kX b)] (bP r))
 (ih_slices_EqualFunc_34_15:∀ m,m<=n0->∀ (s1:(List api_Expr)) (s2:(List api_Expr)) (r:Bool),slices_EqualFunc_34_15 m s1 s2=some r->VCp Tryz.prog 34 [hX s1,hX s2,.fn 15 []] (bP r))
 (n:Nat) (hn:n<=n0) (a_:api_Expr) (b:api_Expr) (r:Bool) (h:parse_SameExpr (n+1) a_ b=some r) (Q:AEnd->List (List PV)->Prop) (hQ:∀ y,shareP y=bP r->Q (.ret y) []) :
 VC Tryz.prog 15 [.agg (kX a_),.agg (kX b)] [] Q:=by
 replace h:=(parse_SameExpr.eq_2 (n:=n) _ _).symm.trans h
 refine VC.intro ⟨[0,1,2,3,4,9,11,12,19,27,33],[]⟩ Tryz.func15 rfl follows ok15 (by rw [Tryz.ntmps15];exact lb rfl) ?_
 refine WS_ofR ?_
 refine zz ?_
 refine wn (nos 3 []) ⟨[(2,.ptr 0 0),(3,.ptr 1 0),(4,bP false)],[(kX a_),(kX b)]⟩ tI ?_
 refine wn (nos 5 []) ⟨[(2,.ptr 0 0),(3,.ptr 1 0),(4,bP false),(9,bP (a_.Op != b.Op))],[(kX a_),(kX b)]⟩ tI ?_
 rcases condS h with⟨hc5,h⟩|⟨hc5,h⟩
 . refine zT (test hc5) ?_
   refine wn (nos 1 []) ⟨[(2,.ptr 0 0),(3,.ptr 1 0),(4,bP false)],[(kX a_),(kX b)]⟩ tI ?_
   cases h
   exact rt hQ
 . refine zF (test hc5) ?_
   refine wn (nos 2 []) ⟨[(2,.ptr 0 0),(3,.ptr 1 0),(4,bP false),(11,iP a_.Op)],[(kX a_),(kX b)]⟩ tI ?_
   refine zB ?_
   refine wn (nos 2 []) ⟨[(2,.ptr 0 0),(3,.ptr 1 0),(4,bP false),(11,iP a_.Op),(12,bP (a_.Op == 1))],[(kX a_),(kX b)]⟩ tI ?_
   rcases condS h with⟨hc4,h⟩|⟨hc4,h⟩
   . refine zT (test hc4) ?_
     refine wn (nos 6 []) ⟨[(2,.ptr 0 0),(3,.ptr 1 0),(4,bP (a_.N == b.N))],[(kX a_),(kX b)]⟩ tI ?_
     cases h
     exact rt hQ
   . refine zF (test hc4) ?_
     refine wn (nos 2 []) ⟨[(2,.ptr 0 0),(3,.ptr 1 0),(4,bP false),(11,iP a_.Op),(19,bP (a_.Op == 2))],[(kX a_),(kX b)]⟩ tI ?_
     obtain⟨y,e,h⟩:=bindS h
     refine WS_meet (A:=Bool) (fun v=>v=y) (fun v19=>⟨[(2,.ptr 0 0),(3,.ptr 1 0),(4,bP false),(11,iP a_.Op),(19,bP v19)],[(kX a_),(kX b)]⟩) ?_ ?_
     . rintro v19 rfl
       show WS _ _ _ _ _ ⟨[(2,.ptr 0 0),(3,.ptr 1 0),(4,bP false),(11,iP a_.Op),(19,bP v19)],[(kX a_),(kX b)]⟩
       refine zz ?_
       rcases condS h with⟨hc2,h⟩|⟨hc2,h⟩
       . refine zT (test hc2) ?_
         refine wn (nos 6 []) ⟨[(2,.ptr 0 0),(3,.ptr 1 0),(4,bP (decide (a_.S=b.S)))],[(kX a_),(kX b)]⟩ tI ?_
         cases h
         exact rt hQ
       . refine zF (test hc2) ?_
         refine wn (nos 2 []) ⟨[(2,.ptr 0 0),(3,.ptr 1 0),(4,bP false),(27,bP (a_.Op == 4))],[(kX a_),(kX b)]⟩ tI ?_
         rcases condS h with⟨hc1,h⟩|⟨hc1,h⟩
         . refine zT (test hc1) ?_
           refine wn (nos 5 []) ⟨[(2,.ptr 0 0),(3,.ptr 1 0),(4,bP false),(33,bP (!decide (a_.S=b.S)))],[(kX a_),(kX b)]⟩ tI ?_
           rcases condS h with⟨hc,h⟩|⟨hc,h⟩
           . refine zT (test hc) ?_
             refine wn (nos 1 []) ⟨[(2,.ptr 0 0),(3,.ptr 1 0),(4,bP false)],[(kX a_),(kX b)]⟩ tI ?_
             cases h
             exact rt hQ
           . refine zF (test hc) ?_
             obtain⟨e1,he1,h⟩:=bindS h
             refine wn (nos 4 (.call (bP e1)::(nos 1 []))) ⟨[(4,bP e1)],[(kX a_),(kX b)]⟩ (aI (ih_slices_EqualFunc_34_15 n hn a_.Kids b.Kids e1 he1) tI) ?_
             cases h
             exact rt hQ
         . refine zF (test hc1) ?_
           obtain⟨e2,he2,h⟩:=bindS h
           refine wn (nos 4 (.call (bP e2)::(nos 1 []))) ⟨[(4,bP e2)],[(kX a_),(kX b)]⟩ (aI (ih_slices_EqualFunc_34_15 n hn a_.Kids b.Kids e2 he2) tI) ?_
           cases h
           exact rt hQ
     . intro hJ
       refine zz ?_
       rcases condS e with⟨hc3,e⟩|⟨hc3,e⟩
       . refine WS_true (test hc3) ?_
         exact zz (WS_wk [2,3,4,11,19] 2 rfl (lb rfl) rfl (hJ (a_.Op == 2) (Option.some.inj e)))
       . refine zF (test hc3) ?_
         refine wq (nos 2 []) ⟨[(2,.ptr 0 0),(3,.ptr 1 0),(4,bP false),(11,iP a_.Op),(19,bP (a_.Op == 3))],[(kX a_),(kX b)]⟩ tI ?_
         exact zz (WS_wk [2,3,4,11,19] 2 rfl (lb rfl) rfl (hJ (a_.Op == 3) (Option.some.inj e)))
theorem vslices_EqualFunc_34_15_0 (n0:Nat)
 (ih_parse_SameExpr:∀ m,m<=n0->∀ (a_:api_Expr) (b:api_Expr) (r:Bool),parse_SameExpr m a_ b=some r->VCp Tryz.prog 15 [.agg (kX a_),.agg (kX b)] (bP r))
 (ih_slices_EqualFunc_34_15:∀ m,m<=n0->∀ (s1:(List api_Expr)) (s2:(List api_Expr)) (r:Bool),slices_EqualFunc_34_15 m s1 s2=some r->VCp Tryz.prog 34 [hX s1,hX s2,.fn 15 []] (bP r))
 (n:Nat) (hn:n<=n0) (s1:(List api_Expr)) (s2:(List api_Expr)) (r:Bool) (h:slices_EqualFunc_34_15 (n+1) s1 s2=some r) (Q:AEnd->List (List PV)->Prop) (hQ:∀ y,shareP y=bP r->Q (.ret y) []) :
 VC Tryz.prog 34 [hX s1,hX s2,.fn 15 []] [] Q:=by
 replace h:=(slices_EqualFunc_34_15.eq_2 (n:=n) _ _).symm.trans h
 refine VC.intro ⟨[0,1,2,6,7,8,9,14,15,16,17,18,30],[]⟩ Tryz.func34 rfl follows ok34 (by rw [Tryz.ntmps34];exact lb rfl) ?_
 refine WS_ofR ?_
 refine zz ?_
 refine wn (nos 1 []) ⟨[(0,hX s1),(1,hX s2),(2,.fn 15 []),(6,bP false)],[]⟩ tI ?_
 refine wn (nos 1 (.val (iP (s1.length:Int))::(nos 1 (.val (iP (s2.length:Int))::(nos 1 []))))) ⟨[(0,hX s1),(1,hX s2),(2,.fn 15 []),(6,bP false),(14,bP ((s1.length:Int) != (s2.length:Int)))],[]⟩ (aI (olen s1 row_api_Expr) (aI (olen s2 row_api_Expr) tI)) ?_
 rcases condS h with⟨hc2,h⟩|⟨hc2,h⟩
 . refine zT (test hc2) ?_
   refine wn (nos 1 []) ⟨[(0,hX s1),(1,hX s2),(2,.fn 15 []),(6,bP false)],[]⟩ tI ?_
   cases h
   exact rt hQ
 . refine zF (test hc2) ?_
   refine wn (nos 1 (.val (iP (s1.length:Int))::(nos 1 []))) ⟨[(1,hX s2),(2,.fn 15 []),(6,bP false),(15,hX s1),(16,iP (s1.length:Int)),(17,iP 0)],[]⟩ (aI (olen s1 row_api_Expr) tI) ?_
   obtain⟨y,e,h⟩:=bindS h
   refine WS_meet (A:=Unit) (fun v=>.inl v=y) (fun _=>⟨[(6,bP false)],[]⟩) ?_ ?_
   . rintro _ rfl
     show WS _ _ _ _ _ ⟨[(6,bP false)],[]⟩
     refine zz ?_
     refine wn (nos 1 []) ⟨[(6,bP true)],[]⟩ tI ?_
     cases h
     exact rt hQ
   . intro hJ
     refine zz ?_
     refine zB ?_
     refine WS_for [1,2,6,15,16,17] 0 (fun a:Nat×Int=>a.1<=n0/\slices_EqualFunc_34_15_l1 a.1 s1 s2 a.2=some y) (fun a=>a.1) (fun a:Nat×Int=>match a with|(_,v17)=>⟨[(1,hX s2),(2,.fn 15 []),(6,bP false),(15,hX s1),(16,iP (s1.length:Int)),(17,iP v17)],[]⟩) (n,0) (lb rfl) rfl ⟨hn,e⟩ ?_
     clear e hn
     rintro⟨n,v17⟩ ⟨hn,e⟩
     show WS _ _ _ _ _ ⟨[(1,hX s2),(2,.fn 15 []),(6,bP false),(15,hX s1),(16,iP (s1.length:Int)),(17,iP v17)],[]⟩
     cases n with
     |zero=>exact absurd e (by simp [slices_EqualFunc_34_15_l1])
     |succ n =>
      replace e:=(slices_EqualFunc_34_15_l1.eq_2 (n:=n) _ _ _).symm.trans e
      replace hn:n<=n0:=by omega
      refine zz ?_
      refine wn (nos 1 []) ⟨[(1,hX s2),(2,.fn 15 []),(6,bP false),(15,hX s1),(16,iP (s1.length:Int)),(17,iP v17),(18,bP (decide (v17<(s1.length:Int))))],[]⟩ tI ?_
      rcases condS e with⟨hc1,e⟩|⟨hc1,e⟩
      . refine zT (test hc1) ?_
        refine zB ?_
        obtain⟨x,hx,e⟩:=bindS e
        refine wn (nos 1 (.val (.vptr (kX x) 0)::(nos 4 []))) ⟨[(1,hX s2),(2,.fn 15 []),(6,bP false),(7,iP v17),(8,.ptr 0 0),(15,hX s1),(16,iP (s1.length:Int)),(17,iP v17)],[(kX x)]⟩ (aI (oi hx row_api_Expr_len (row_api_Expr_eq x)) tI) ?_
        obtain⟨x1,hx1,e⟩:=bindS e
        refine wn (nos 2 (.val (.vptr (kX x1) 0)::(nos 3 []))) ⟨[(1,hX s2),(2,.fn 15 []),(6,bP false),(8,.ptr 0 0),(9,.ptr 1 0),(15,hX s1),(16,iP (s1.length:Int)),(17,iP v17)],[(kX x),(kX x1)]⟩ (aI (oi hx1 row_api_Expr_len (row_api_Expr_eq x1)) tI) ?_
        obtain⟨s,hs,e⟩:=bindS e
        refine wn (nos 3 (.call (bP s)::(nos 1 []))) ⟨[(1,hX s2),(2,.fn 15 []),(6,bP false),(15,hX s1),(16,iP (s1.length:Int)),(17,iP v17),(30,bP (!s))],[(kX x),(kX x1)]⟩ (aI (ih_parse_SameExpr n hn x x1 s hs) tI) ?_
        rcases condS e with⟨hc,e⟩|⟨hc,e⟩
        . refine zT (test hc) ?_
          refine wn (nos 1 []) ⟨[(1,hX s2),(2,.fn 15 []),(6,bP false),(15,hX s1),(16,iP (s1.length:Int)),(17,iP v17)],[(kX x),(kX x1)]⟩ tI ?_
          cases e
          cases h
          exact rt hQ
        . refine zF (test hc) ?_
          refine wq (nos 2 []) ⟨[(1,hX s2),(2,.fn 15 []),(6,bP false),(15,hX s1),(16,iP (s1.length:Int)),(17,iP (IntKind.i64.wrap (v17+1)))],[(kX x),(kX x1)]⟩ tI ?_
          exact zz (WS_again (n,(IntKind.i64.wrap (v17+1))) rfl ⟨hn,e⟩ (Nat.lt_succ_self _))
      . refine zF (test hc1) ?_
        try refine z5 rfl ?_
        exact zz (WS_wk [6] 0 rfl (lb rfl) rfl (hJ () (Option.some.inj e)))
theorem scc_parse_SameExpr:∀ n:Nat,(∀ m,m<=n->∀ (a_:api_Expr) (b:api_Expr) (r:Bool),parse_SameExpr m a_ b=some r->VCp Tryz.prog 15 [.agg (kX a_),.agg (kX b)] (bP r))/\(∀ m,m<=n->∀ (s1:(List api_Expr)) (s2:(List api_Expr)) (r:Bool),slices_EqualFunc_34_15 m s1 s2=some r->VCp Tryz.prog 34 [hX s1,hX s2,.fn 15 []] (bP r))
 |0=>⟨(fun m hm a_ b r h=>by
  obtain rfl:m=0:=by omega
  exact absurd h (by simp [parse_SameExpr])),
  (fun m hm s1 s2 r h=>by
   obtain rfl:m=0:=by omega
   exact absurd h (by simp [slices_EqualFunc_34_15]))⟩
 |n+1=>by
  have ih:=scc_parse_SameExpr n
  exact⟨fun m hm a_ b r h=>by
   cases m with
   |zero=>exact absurd h (by simp [parse_SameExpr])
   |succ m=>exact VC.fin (fun Q hQ=>vparse_SameExpr_0 n (ih.1) (ih.2) m (by omega) a_ b _ h Q hQ) rfl rfl,
  fun m hm s1 s2 r h=>by
   cases m with
   |zero=>exact absurd h (by simp [slices_EqualFunc_34_15])
   |succ m=>exact VC.fin (fun Q hQ=>vslices_EqualFunc_34_15_0 n (ih.1) (ih.2) m (by omega) s1 s2 _ h Q hQ) rfl rfl⟩
theorem vparse_SameExpr (n:Nat)(a_:api_Expr)(b:api_Expr)(r:Bool)(h:parse_SameExpr n a_ b=some r):VCp Tryz.prog 15 [.agg (kX a_),.agg (kX b)] (bP r) :=
 (scc_parse_SameExpr n).1 n (Nat.le_refl _) a_ b r h
theorem vparse_sameArg_0 (n:Nat)(a_:api_Arg)(b:api_Arg)(r:Bool)(h:parse_sameArg n a_ b=some r)(Q:AEnd->List (List PV)->Prop)(hQ:∀ y,shareP y=bP r->Q (.ret y) []) :
 VC Tryz.prog 41 [.agg (kA a_),.agg (kA b)] [] Q:=by
 unfold parse_sameArg at h
 refine VC.intro ⟨[0,1,2,3,4,9,11,12,20,27],[]⟩ Tryz.func41 rfl follows ok41 (by rw [Tryz.ntmps41];exact lb rfl) ?_
 refine WS_ofR ?_
 refine zz ?_
 refine wn (nos 3 []) ⟨[(2,.ptr 0 0),(3,.ptr 1 0),(4,bP false)],[(kA a_),(kA b)]⟩ tI ?_
 refine wn (nos 5 []) ⟨[(2,.ptr 0 0),(3,.ptr 1 0),(4,bP false),(9,bP (a_.Kind != b.Kind))],[(kA a_),(kA b)]⟩ tI ?_
 rcases condS h with⟨hc4,h⟩|⟨hc4,h⟩
 . refine zT (test hc4) ?_
   refine wn (nos 1 []) ⟨[(2,.ptr 0 0),(3,.ptr 1 0),(4,bP false)],[(kA a_),(kA b)]⟩ tI ?_
   cases h
   exact rt hQ
 . refine zF (test hc4) ?_
   refine wn (nos 2 []) ⟨[(2,.ptr 0 0),(3,.ptr 1 0),(4,bP false),(11,iP a_.Kind)],[(kA a_),(kA b)]⟩ tI ?_
   refine zB ?_
   refine wn (nos 2 []) ⟨[(2,.ptr 0 0),(3,.ptr 1 0),(4,bP false),(11,iP a_.Kind),(12,bP (a_.Kind == 1))],[(kA a_),(kA b)]⟩ tI ?_
   obtain⟨y,e,h⟩:=bindS h
   refine WS_meet (A:=Bool) (fun v=>v=y) (fun v12=>⟨[(2,.ptr 0 0),(3,.ptr 1 0),(4,bP false),(11,iP a_.Kind),(12,bP v12)],[(kA a_),(kA b)]⟩) ?_ ?_
   . rintro v12 rfl
     show WS _ _ _ _ _ ⟨[(2,.ptr 0 0),(3,.ptr 1 0),(4,bP false),(11,iP a_.Kind),(12,bP v12)],[(kA a_),(kA b)]⟩
     refine zz ?_
     rcases condS h with⟨hc2,h⟩|⟨hc2,h⟩
     . refine zT (test hc2) ?_
       refine wn (nos 6 []) ⟨[(4,bP (decide (a_.S=b.S)))],[(kA a_),(kA b)]⟩ tI ?_
       cases h
       exact rt hQ
     . refine zF (test hc2) ?_
       refine wn (nos 2 []) ⟨[(2,.ptr 0 0),(3,.ptr 1 0),(4,bP false),(11,iP a_.Kind),(20,bP (a_.Kind == 2))],[(kA a_),(kA b)]⟩ tI ?_
       rcases condS h with⟨hc1,h⟩|⟨hc1,h⟩
       . refine zT (test hc1) ?_
         refine wn (nos 6 []) ⟨[(4,bP (a_.N == b.N))],[(kA a_),(kA b)]⟩ tI ?_
         cases h
         exact rt hQ
       . refine zF (test hc1) ?_
         refine wn (nos 2 []) ⟨[(2,.ptr 0 0),(3,.ptr 1 0),(4,bP false),(27,bP (a_.Kind == 5))],[(kA a_),(kA b)]⟩ tI ?_
         rcases condS h with⟨hc,h⟩|⟨hc,h⟩
         . refine zT (test hc) ?_
           obtain⟨s,hs,h⟩:=bindS h
           refine wn (nos 4 (.call (bP s)::(nos 1 []))) ⟨[(4,bP s)],[(kA a_),(kA b)]⟩ (aI (vparse_SameExpr n a_.E b.E s hs) tI) ?_
           cases h
           exact rt hQ
         . refine zF (test hc) ?_
           refine wn (nos 1 []) ⟨[(4,bP true)],[(kA a_),(kA b)]⟩ tI ?_
           cases h
           exact rt hQ
   . intro hJ
     refine zz ?_
     rcases condS e with⟨hc3,e⟩|⟨hc3,e⟩
     . refine WS_true (test hc3) ?_
       exact zz (WS_wk [2,3,4,11,12] 2 rfl (lb rfl) rfl (hJ (a_.Kind == 1) (Option.some.inj e)))
     . refine zF (test hc3) ?_
       refine wq (nos 2 []) ⟨[(2,.ptr 0 0),(3,.ptr 1 0),(4,bP false),(11,iP a_.Kind),(12,bP (a_.Kind == 3))],[(kA a_),(kA b)]⟩ tI ?_
       exact zz (WS_wk [2,3,4,11,12] 2 rfl (lb rfl) rfl (hJ (a_.Kind == 3) (Option.some.inj e)))
theorem vparse_sameArg (n:Nat)(a_:api_Arg)(b:api_Arg)(r:Bool)(h:parse_sameArg n a_ b=some r):VCp Tryz.prog 41 [.agg (kA a_),.agg (kA b)] (bP r):=VC.fin (fun Q hQ=>vparse_sameArg_0 n a_ b _ h Q hQ) rfl rfl
theorem vslices_EqualFunc_40_41_0 (n:Nat)(s1:(List api_Arg))(s2:(List api_Arg))(r:Bool)(h:slices_EqualFunc_40_41 n s1 s2=some r)(Q:AEnd->List (List PV)->Prop)(hQ:∀ y,shareP y=bP r->Q (.ret y) []) :
 VC Tryz.prog 40 [hA s1,hA s2,.fn 41 []] [] Q:=by
 unfold slices_EqualFunc_40_41 at h
 refine VC.intro ⟨[0,1,2,6,7,8,9,14,15,16,17,18,30],[]⟩ Tryz.func40 rfl follows ok40 (by rw [Tryz.ntmps40];exact lb rfl) ?_
 refine WS_ofR ?_
 refine zz ?_
 refine wn (nos 1 []) ⟨[(0,hA s1),(1,hA s2),(2,.fn 41 []),(6,bP false)],[]⟩ tI ?_
 refine wn (nos 1 (.val (iP (s1.length:Int))::(nos 1 (.val (iP (s2.length:Int))::(nos 1 []))))) ⟨[(0,hA s1),(1,hA s2),(2,.fn 41 []),(6,bP false),(14,bP ((s1.length:Int) != (s2.length:Int)))],[]⟩ (aI (olen s1 row_api_Arg) (aI (olen s2 row_api_Arg) tI)) ?_
 rcases condS h with⟨hc2,h⟩|⟨hc2,h⟩
 . refine zT (test hc2) ?_
   refine wn (nos 1 []) ⟨[(0,hA s1),(1,hA s2),(2,.fn 41 []),(6,bP false)],[]⟩ tI ?_
   cases h
   exact rt hQ
 . refine zF (test hc2) ?_
   refine wn (nos 1 (.val (iP (s1.length:Int))::(nos 1 []))) ⟨[(1,hA s2),(2,.fn 41 []),(6,bP false),(15,hA s1),(16,iP (s1.length:Int)),(17,iP 0)],[]⟩ (aI (olen s1 row_api_Arg) tI) ?_
   obtain⟨y,e,h⟩:=bindS h
   refine WS_meet (A:=Unit) (fun v=>.inl v=y) (fun _=>⟨[(6,bP false)],[]⟩) ?_ ?_
   . rintro _ rfl
     show WS _ _ _ _ _ ⟨[(6,bP false)],[]⟩
     refine zz ?_
     refine wn (nos 1 []) ⟨[(6,bP true)],[]⟩ tI ?_
     cases h
     exact rt hQ
   . intro hJ
     refine zz ?_
     refine zB ?_
     refine WS_for [1,2,6,15,16,17] 0 (fun a:Nat×Int=>slices_EqualFunc_40_41_l1 a.1 s1 s2 a.2=some y) (fun a=>a.1) (fun a:Nat×Int=>match a with|(_,v17)=>⟨[(1,hA s2),(2,.fn 41 []),(6,bP false),(15,hA s1),(16,iP (s1.length:Int)),(17,iP v17)],[]⟩) (n,0) (lb rfl) rfl e ?_
     clear e
     rintro⟨n,v17⟩ e
     show WS _ _ _ _ _ ⟨[(1,hA s2),(2,.fn 41 []),(6,bP false),(15,hA s1),(16,iP (s1.length:Int)),(17,iP v17)],[]⟩
     cases n with
     |zero=>exact absurd e (by simp [slices_EqualFunc_40_41_l1])
     |succ n =>
      replace e:=(slices_EqualFunc_40_41_l1.eq_2 (n:=n) _ _ _).symm.trans e
      refine zz ?_
      refine wn (nos 1 []) ⟨[(1,hA s2),(2,.fn 41 []),(6,bP false),(15,hA s1),(16,iP (s1.length:Int)),(17,iP v17),(18,bP (decide (v17<(s1.length:Int))))],[]⟩ tI ?_
      rcases condS e with⟨hc1,e⟩|⟨hc1,e⟩
      . refine zT (test hc1) ?_
        refine zB ?_
        obtain⟨x,hx,e⟩:=bindS e
        refine wn (nos 1 (.val (.vptr (kA x) 0)::(nos 4 []))) ⟨[(1,hA s2),(2,.fn 41 []),(6,bP false),(7,iP v17),(8,.ptr 0 0),(15,hA s1),(16,iP (s1.length:Int)),(17,iP v17)],[(kA x)]⟩ (aI (oi hx row_api_Arg_len (row_api_Arg_eq x)) tI) ?_
        obtain⟨x1,hx1,e⟩:=bindS e
        refine wn (nos 2 (.val (.vptr (kA x1) 0)::(nos 3 []))) ⟨[(1,hA s2),(2,.fn 41 []),(6,bP false),(8,.ptr 0 0),(9,.ptr 1 0),(15,hA s1),(16,iP (s1.length:Int)),(17,iP v17)],[(kA x),(kA x1)]⟩ (aI (oi hx1 row_api_Arg_len (row_api_Arg_eq x1)) tI) ?_
        obtain⟨s,hs,e⟩:=bindS e
        refine wn (nos 3 (.call (bP s)::(nos 1 []))) ⟨[(1,hA s2),(2,.fn 41 []),(6,bP false),(15,hA s1),(16,iP (s1.length:Int)),(17,iP v17),(30,bP (!s))],[(kA x),(kA x1)]⟩ (aI (vparse_sameArg n x x1 s hs) tI) ?_
        rcases condS e with⟨hc,e⟩|⟨hc,e⟩
        . refine zT (test hc) ?_
          refine wn (nos 1 []) ⟨[(1,hA s2),(2,.fn 41 []),(6,bP false),(15,hA s1),(16,iP (s1.length:Int)),(17,iP v17)],[(kA x),(kA x1)]⟩ tI ?_
          cases e
          cases h
          exact rt hQ
        . refine zF (test hc) ?_
          refine wq (nos 2 []) ⟨[(1,hA s2),(2,.fn 41 []),(6,bP false),(15,hA s1),(16,iP (s1.length:Int)),(17,iP (IntKind.i64.wrap (v17+1)))],[(kA x),(kA x1)]⟩ tI ?_
          exact zz (WS_again (n,(IntKind.i64.wrap (v17+1))) rfl e (Nat.lt_succ_self _))
      . refine zF (test hc1) ?_
        try refine z5 rfl ?_
        exact zz (WS_wk [6] 0 rfl (lb rfl) rfl (hJ () (Option.some.inj e)))
theorem vslices_EqualFunc_40_41 (n:Nat)(s1:(List api_Arg))(s2:(List api_Arg))(r:Bool)(h:slices_EqualFunc_40_41 n s1 s2=some r):VCp Tryz.prog 40 [hA s1,hA s2,.fn 41 []] (bP r):=VC.fin (fun Q hQ=>vslices_EqualFunc_40_41_0 n s1 s2 _ h Q hQ) rfl rfl
theorem vparse_Same_0 (n0:Nat)
 (ih_parse_Same:∀ m,m<=n0->∀ (a_:(List api_Form)) (b:(List api_Form)) (r:Bool),parse_Same m a_ b=some r->VCp Tryz.prog 20 [hF a_,hF b] (bP r))
 (ih_slices_EqualFunc_38_39:∀ m,m<=n0->∀ (s1:(List api_Form)) (s2:(List api_Form)) (r:Bool),slices_EqualFunc_38_39 m s1 s2=some r->VCp Tryz.prog 38 [hF s1,hF s2,.fn 39 []] (bP r))
 (ih_parse_Same_1:∀ m,m<=n0->∀ (x:api_Form) (y:api_Form) (r:Bool),parse_Same_1 m x y=some r->VCp Tryz.prog 39 [.agg (kF x),.agg (kF y)] (bP r))
 (n:Nat) (hn:n<=n0) (a_:(List api_Form)) (b:(List api_Form)) (r:Bool) (h:parse_Same (n+1) a_ b=some r) (Q:AEnd->List (List PV)->Prop) (hQ:∀ y,shareP y=bP r->Q (.ret y) []) :
 VC Tryz.prog 20 [hF a_,hF b] [] Q:=by
 replace h:=(parse_Same.eq_2 (n:=n) _ _).symm.trans h
 refine VC.intro ⟨[0,1,4],[]⟩ Tryz.func20 rfl follows ok20 (by rw [Tryz.ntmps20];exact lb rfl) ?_
 refine WS_ofR ?_
 refine zz ?_
 refine wn (nos 1 []) ⟨[(0,hF a_),(1,hF b),(4,bP false)],[]⟩ tI ?_
 obtain⟨f,hf,h⟩:=bindS h
 refine wn (nos 2 (.call (bP f)::(nos 1 []))) ⟨[(4,bP f)],[]⟩ (aI (ih_slices_EqualFunc_38_39 n hn a_ b f hf) tI) ?_
 cases h
 exact rt hQ
theorem vslices_EqualFunc_38_39_0 (n0:Nat)
 (ih_parse_Same:∀ m,m<=n0->∀ (a_:(List api_Form)) (b:(List api_Form)) (r:Bool),parse_Same m a_ b=some r->VCp Tryz.prog 20 [hF a_,hF b] (bP r))
 (ih_slices_EqualFunc_38_39:∀ m,m<=n0->∀ (s1:(List api_Form)) (s2:(List api_Form)) (r:Bool),slices_EqualFunc_38_39 m s1 s2=some r->VCp Tryz.prog 38 [hF s1,hF s2,.fn 39 []] (bP r))
 (ih_parse_Same_1:∀ m,m<=n0->∀ (x:api_Form) (y:api_Form) (r:Bool),parse_Same_1 m x y=some r->VCp Tryz.prog 39 [.agg (kF x),.agg (kF y)] (bP r))
 (n:Nat) (hn:n<=n0) (s1:(List api_Form)) (s2:(List api_Form)) (r:Bool) (h:slices_EqualFunc_38_39 (n+1) s1 s2=some r) (Q:AEnd->List (List PV)->Prop) (hQ:∀ y,shareP y=bP r->Q (.ret y) []) :
 VC Tryz.prog 38 [hF s1,hF s2,.fn 39 []] [] Q:=by
 replace h:=(slices_EqualFunc_38_39.eq_2 (n:=n) _ _).symm.trans h
 refine VC.intro ⟨[0,1,2,6,7,8,9,14,15,16,17,18,30],[]⟩ Tryz.func38 rfl follows ok38 (by rw [Tryz.ntmps38];exact lb rfl) ?_
 refine WS_ofR ?_
 refine zz ?_
 refine wn (nos 1 []) ⟨[(0,hF s1),(1,hF s2),(2,.fn 39 []),(6,bP false)],[]⟩ tI ?_
 refine wn (nos 1 (.val (iP (s1.length:Int))::(nos 1 (.val (iP (s2.length:Int))::(nos 1 []))))) ⟨[(0,hF s1),(1,hF s2),(2,.fn 39 []),(6,bP false),(14,bP ((s1.length:Int) != (s2.length:Int)))],[]⟩ (aI (olen s1 row_api_Form) (aI (olen s2 row_api_Form) tI)) ?_
 rcases condS h with⟨hc2,h⟩|⟨hc2,h⟩
 . refine zT (test hc2) ?_
   refine wn (nos 1 []) ⟨[(0,hF s1),(1,hF s2),(2,.fn 39 []),(6,bP false)],[]⟩ tI ?_
   cases h
   exact rt hQ
 . refine zF (test hc2) ?_
   refine wn (nos 1 (.val (iP (s1.length:Int))::(nos 1 []))) ⟨[(1,hF s2),(2,.fn 39 []),(6,bP false),(15,hF s1),(16,iP (s1.length:Int)),(17,iP 0)],[]⟩ (aI (olen s1 row_api_Form) tI) ?_
   obtain⟨y,e,h⟩:=bindS h
   refine WS_meet (A:=Unit) (fun v=>.inl v=y) (fun _=>⟨[(6,bP false)],[]⟩) ?_ ?_
   . rintro _ rfl
     show WS _ _ _ _ _ ⟨[(6,bP false)],[]⟩
     refine zz ?_
     refine wn (nos 1 []) ⟨[(6,bP true)],[]⟩ tI ?_
     cases h
     exact rt hQ
   . intro hJ
     refine zz ?_
     refine zB ?_
     refine WS_for [1,2,6,15,16,17] 0 (fun a:Nat×Int=>a.1<=n0/\slices_EqualFunc_38_39_l1 a.1 s1 s2 a.2=some y) (fun a=>a.1) (fun a:Nat×Int=>match a with|(_,v17)=>⟨[(1,hF s2),(2,.fn 39 []),(6,bP false),(15,hF s1),(16,iP (s1.length:Int)),(17,iP v17)],[]⟩) (n,0) (lb rfl) rfl ⟨hn,e⟩ ?_
     clear e hn
     rintro⟨n,v17⟩ ⟨hn,e⟩
     show WS _ _ _ _ _ ⟨[(1,hF s2),(2,.fn 39 []),(6,bP false),(15,hF s1),(16,iP (s1.length:Int)),(17,iP v17)],[]⟩
     cases n with
     |zero=>exact absurd e (by simp [slices_EqualFunc_38_39_l1])
     |succ n =>
      replace e:=(slices_EqualFunc_38_39_l1.eq_2 (n:=n) _ _ _).symm.trans e
      replace hn:n<=n0:=by omega
      refine zz ?_
      refine wn (nos 1 []) ⟨[(1,hF s2),(2,.fn 39 []),(6,bP false),(15,hF s1),(16,iP (s1.length:Int)),(17,iP v17),(18,bP (decide (v17<(s1.length:Int))))],[]⟩ tI ?_
      rcases condS e with⟨hc1,e⟩|⟨hc1,e⟩
      . refine zT (test hc1) ?_
        refine zB ?_
        obtain⟨x,hx,e⟩:=bindS e
        refine wn (nos 1 (.val (.vptr (kF x) 0)::(nos 4 []))) ⟨[(1,hF s2),(2,.fn 39 []),(6,bP false),(7,iP v17),(8,.ptr 0 0),(15,hF s1),(16,iP (s1.length:Int)),(17,iP v17)],[(kF x)]⟩ (aI (oi hx row_api_Form_len (row_api_Form_eq x)) tI) ?_
        obtain⟨x1,hx1,e⟩:=bindS e
        refine wn (nos 2 (.val (.vptr (kF x1) 0)::(nos 3 []))) ⟨[(1,hF s2),(2,.fn 39 []),(6,bP false),(8,.ptr 0 0),(9,.ptr 1 0),(15,hF s1),(16,iP (s1.length:Int)),(17,iP v17)],[(kF x),(kF x1)]⟩ (aI (oi hx1 row_api_Form_len (row_api_Form_eq x1)) tI) ?_
        obtain⟨s,hs,e⟩:=bindS e
        refine wn (nos 3 (.call (bP s)::(nos 1 []))) ⟨[(1,hF s2),(2,.fn 39 []),(6,bP false),(15,hF s1),(16,iP (s1.length:Int)),(17,iP v17),(30,bP (!s))],[(kF x),(kF x1)]⟩ (aI (ih_parse_Same_1 n hn x x1 s hs) tI) ?_
        rcases condS e with⟨hc,e⟩|⟨hc,e⟩
        . refine zT (test hc) ?_
          refine wn (nos 1 []) ⟨[(1,hF s2),(2,.fn 39 []),(6,bP false),(15,hF s1),(16,iP (s1.length:Int)),(17,iP v17)],[(kF x),(kF x1)]⟩ tI ?_
          cases e
          cases h
          exact rt hQ
        . refine zF (test hc) ?_
          refine wq (nos 2 []) ⟨[(1,hF s2),(2,.fn 39 []),(6,bP false),(15,hF s1),(16,iP (s1.length:Int)),(17,iP (IntKind.i64.wrap (v17+1)))],[(kF x),(kF x1)]⟩ tI ?_
          exact zz (WS_again (n,(IntKind.i64.wrap (v17+1))) rfl ⟨hn,e⟩ (Nat.lt_succ_self _))
      . refine zF (test hc1) ?_
        try refine z5 rfl ?_
        exact zz (WS_wk [6] 0 rfl (lb rfl) rfl (hJ () (Option.some.inj e)))
theorem vparse_Same_1_0 (n0:Nat)
 (ih_parse_Same:∀ m,m<=n0->∀ (a_:(List api_Form)) (b:(List api_Form)) (r:Bool),parse_Same m a_ b=some r->VCp Tryz.prog 20 [hF a_,hF b] (bP r))
 (ih_slices_EqualFunc_38_39:∀ m,m<=n0->∀ (s1:(List api_Form)) (s2:(List api_Form)) (r:Bool),slices_EqualFunc_38_39 m s1 s2=some r->VCp Tryz.prog 38 [hF s1,hF s2,.fn 39 []] (bP r))
 (ih_parse_Same_1:∀ m,m<=n0->∀ (x:api_Form) (y:api_Form) (r:Bool),parse_Same_1 m x y=some r->VCp Tryz.prog 39 [.agg (kF x),.agg (kF y)] (bP r))
 (n:Nat) (hn:n<=n0) (x:api_Form) (y:api_Form) (r:Bool) (h:parse_Same_1 (n+1) x y=some r) (Q:AEnd->List (List PV)->Prop) (hQ:∀ y,shareP y=bP r->Q (.ret y) []) :
 VC Tryz.prog 39 [.agg (kF x),.agg (kF y)] [] Q:=by
 replace h:=(parse_Same_1.eq_2 (n:=n) _ _).symm.trans h
 refine VC.intro ⟨[0,1,2,3,4],[]⟩ Tryz.func39 rfl follows ok39 (by rw [Tryz.ntmps39];exact lb rfl) ?_
 refine WS_ofR ?_
 refine zz ?_
 refine wn (nos 3 []) ⟨[(2,.ptr 0 0),(3,.ptr 1 0),(4,bP false)],[(kF x),(kF y)]⟩ tI ?_
 obtain⟨y1,e,h⟩:=bindS h
 refine WS_meet (A:=Bool) (fun v=>v=y1) (fun v4=>⟨[(4,bP v4)],[(kF x),(kF y)]⟩) ?_ ?_
 . rintro v4 rfl
   show WS _ _ _ _ _ ⟨[(4,bP v4)],[(kF x),(kF y)]⟩
   refine zz ?_
   cases h
   exact rt hQ
 . intro hJ
   rcases condS e with⟨hc,e⟩|⟨hc,e⟩
   . obtain⟨a_,ha_,e⟩:=bindS e
     rcases condS e with⟨hc1,e⟩|⟨hc1,e⟩
     . obtain⟨s,hs,e⟩:=bindS e
       exact wq (nos 5 (yT::(nos 4 (.call (bP a_)::(nos 1 (yT::(nos 4 (.call (bP s)::(nos 2 []))))))))) _ (aI (otest hc) (aI (vslices_EqualFunc_40_41 n x.Args y.Args a_ ha_) (aI (otest hc1) (aI (ih_parse_Same n hn x.Body y.Body s hs) tI)))) (hJ s (Option.some.inj e))
     . exact wq (nos 5 (yT::(nos 4 (.call (bP a_)::(nos 1 (yF::(nos 7 []))))))) _ (aI (otest hc) (aI (vslices_EqualFunc_40_41 n x.Args y.Args a_ ha_) (aI (otest hc1) tI))) (hJ false (Option.some.inj e))
   . exact wq (nos 5 (yF::(nos 14 []))) _ (aI (otest hc) tI) (hJ false (Option.some.inj e))
theorem scc_parse_Same:∀ n:Nat,(∀ m,m<=n->∀ (a_:(List api_Form)) (b:(List api_Form)) (r:Bool),parse_Same m a_ b=some r->VCp Tryz.prog 20 [hF a_,hF b] (bP r))/\(∀ m,m<=n->∀ (s1:(List api_Form)) (s2:(List api_Form)) (r:Bool),slices_EqualFunc_38_39 m s1 s2=some r->VCp Tryz.prog 38 [hF s1,hF s2,.fn 39 []] (bP r))/\(∀ m,m<=n->∀ (x:api_Form) (y:api_Form) (r:Bool),parse_Same_1 m x y=some r->VCp Tryz.prog 39 [.agg (kF x),.agg (kF y)] (bP r))
 |0=>⟨(fun m hm a_ b r h=>by
  obtain rfl:m=0:=by omega
  exact absurd h (by simp [parse_Same])),
  (fun m hm s1 s2 r h=>by
   obtain rfl:m=0:=by omega
   exact absurd h (by simp [slices_EqualFunc_38_39])),
  (fun m hm x y r h=>by
   obtain rfl:m=0:=by omega
   exact absurd h (by simp [parse_Same_1]))⟩
 |n+1=>by
  have ih:=scc_parse_Same n
  exact⟨fun m hm a_ b r h=>by
   cases m with
   |zero=>exact absurd h (by simp [parse_Same])
   |succ m=>exact VC.fin (fun Q hQ=>vparse_Same_0 n (ih.1) (ih.2.1) (ih.2.2) m (by omega) a_ b _ h Q hQ) rfl rfl,
  fun m hm s1 s2 r h=>by
   cases m with
   |zero=>exact absurd h (by simp [slices_EqualFunc_38_39])
   |succ m=>exact VC.fin (fun Q hQ=>vslices_EqualFunc_38_39_0 n (ih.1) (ih.2.1) (ih.2.2) m (by omega) s1 s2 _ h Q hQ) rfl rfl,
  fun m hm x y r h=>by
   cases m with
   |zero=>exact absurd h (by simp [parse_Same_1])
   |succ m=>exact VC.fin (fun Q hQ=>vparse_Same_1_0 n (ih.1) (ih.2.1) (ih.2.2) m (by omega) x y _ h Q hQ) rfl rfl⟩
theorem vparse_Same (n:Nat)(a_:(List api_Form))(b:(List api_Form))(r:Bool)(h:parse_Same n a_ b=some r):VCp Tryz.prog 20 [hF a_,hF b] (bP r) :=
 (scc_parse_Same n).1 n (Nat.le_refl _) a_ b r h
end Go.Proofs.YtgdalmleogphgaaGreatDoor
