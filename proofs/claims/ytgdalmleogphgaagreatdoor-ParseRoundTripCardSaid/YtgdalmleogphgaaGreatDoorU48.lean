/-
  The walks: law: the program computes the plain functions. (Printed by lift.py.) The walks of chapter 32, second part: parse: the program computes the plain functions. (Printed by lift.py.) The walks: same: the program computes the plain functions. (Printed by lift.py.)
-/
import Derived.Test.YtgdalmleogphgaaGreatDoorU36
import Derived.Test.YtgdalmleogphgaaGreatDoorU47
namespace Go.Proofs.YtgdalmleogphgaaGreatDoor
open Go.RowKit Go.Q Go.Vl Go.Sp
set_option maxRecDepth 100000
set_option linter.unusedSimpArgs false
set_option maxHeartbeats 4000000
set_option linter.unusedVariables false
theorem Ln (n0:Nat)
 (ih_law32_exprs:∀ m,m<=n0->∀ (e:Aa) (n_:Int) (r:Int),Ca m e n_=some r->FC Tryz.prog 18 [.agg (kX e),iP n_] (iP r))
 (n:Nat) (hn:n<=n0) (e:Aa) (n_:Int) (r:Int) (h:Ca (n+1) e n_=some r) (Q:B7->List (List PV)->Prop) (hQ:∀ y,shareP y=iP r->Q (.ret y) []) :
 VC Tryz.prog 18 [.agg (kX e),iP n_] [] Q:=by
 replace h:=(Ca.eq_2 (n:=n) _ _).symm.trans h
 refine VC.intro ⟨[0,1,2,4,5,13,24],[]⟩ Tryz.func18 rfl follows Yw (by rw [Tryz.ntmps18];exact lb rfl) ?_
 refine B4 ?_
 refine zz ?_
 refine wn (Ai 2 []) ⟨[(1,iP n_),(2,.ptr 0 0),(4,iP 0)],[(kX e)]⟩ tI ?_
 obtain⟨y,e1,h⟩:=Ae h
 refine AJ (A:=Bool) (fun v=>v=y) (fun v13=>⟨[(1,iP n_),(2,.ptr 0 0),(4,iP 0),(13,bP v13)],[(kX e)]⟩) ?_ ?_
 . rintro v13 rfl
   show WS _ _ _ _ _ ⟨[(1,iP n_),(2,.ptr 0 0),(4,iP 0),(13,bP v13)],[(kX e)]⟩
   refine zz ?_
   rcases Ak h with⟨hc2,h⟩|⟨hc2,h⟩
   . refine zT (test hc2) ?_
     refine wn (Ai 1 []) ⟨[(1,iP n_),(2,.ptr 0 0),(4,iP (-1))],[(kX e)]⟩ tI ?_
     cases h
     exact rt hQ
   . refine zF (test hc2) ?_
     refine wn (Ai 3 []) ⟨[(1,iP (IntKind.i64.wrap (n_-1))),(2,.ptr 0 0),(4,iP 0)],[(kX e)]⟩ tI ?_
     refine wn (Ai 1 []) ⟨[(1,iP (IntKind.i64.wrap (n_-1))),(2,.ptr 0 0),(4,iP 0),(5,iP 0)],[(kX e)]⟩ tI ?_
     obtain⟨y1,e2,h⟩:=Ae h
     refine AJ (A:=Int) (fun v=>v=y1) (fun n_1=>⟨[(1,iP n_1),(4,iP 0)],[(kX e)]⟩) ?_ ?_
     . rintro n_1 rfl
       show WS _ _ _ _ _ ⟨[(1,iP n_1),(4,iP 0)],[(kX e)]⟩
       refine zz ?_
       refine wn (Ai 2 []) ⟨[(4,iP n_1)],[(kX e)]⟩ tI ?_
       cases h
       exact rt hQ
     . intro hJ1
       refine zz ?_
       refine zB ?_
       refine C9 [1,2,4,5] 1 (fun a:Nat×(Int×Int)=>a.1<=n0/\Ct a.1 e a.2.1 a.2.2=some y1) (fun a=>a.1) (fun a:Nat×(Int×Int)=>match a with|(_,(n_2,k))=>⟨[(1,iP n_2),(2,.ptr 0 0),(4,iP 0),(5,iP k)],[(kX e)]⟩) (n,((IntKind.i64.wrap (n_-1)),0)) (lb rfl) rfl ⟨hn,e2⟩ ?_
       clear e2 hn
       rintro⟨n,n_2,k⟩ ⟨hn,e2⟩
       show WS _ _ _ _ _ ⟨[(1,iP n_2),(2,.ptr 0 0),(4,iP 0),(5,iP k)],[(kX e)]⟩
       cases n with
       |zero=>exact absurd e2 (by simp [Ct])
       |succ n =>
        replace e2:=(Ct.eq_2 (n:=n) _ _ _).symm.trans e2
        replace hn:n<=n0:=by omega
        refine zz ?_
        obtain⟨y2,e3,e2⟩:=Ae e2
        refine AJ (A:=Bool) (fun v=>v=y2) (fun v24=>⟨[(1,iP n_2),(2,.ptr 0 0),(4,iP 0),(5,iP k),(24,bP v24)],[(kX e)]⟩) ?_ ?_
        . rintro v24 rfl
          show WS _ _ _ _ _ ⟨[(1,iP n_2),(2,.ptr 0 0),(4,iP 0),(5,iP k),(24,bP v24)],[(kX e)]⟩
          refine zz ?_
          rcases Ak e2 with⟨hc,e2⟩|⟨hc,e2⟩
          . refine zT (test hc) ?_
            refine zB ?_
            obtain⟨x,hx,e2⟩:=Ae e2
            obtain⟨n_3,hn_3,e2⟩:=Ae e2
            refine wn (Ai 3 (.val (.vptr (kX x) 0)::(Ai 2 (.call (iP n_3)::(Ai 1 []))))) ⟨[(1,iP n_3),(2,.ptr 0 0),(4,iP 0),(5,iP k)],[(kX e)]⟩ (aI (oi hx Bw (AE x)) (aI (ih_law32_exprs n hn x n_2 n_3 hn_3) tI)) ?_
            refine wq (Ai 3 []) ⟨[(1,iP n_3),(2,.ptr 0 0),(4,iP 0),(5,iP (IntKind.i64.wrap (k+1)))],[(kX e)]⟩ tI ?_
            exact zz (AQ (n,(n_3,(IntKind.i64.wrap (k+1)))) rfl ⟨hn,e2⟩ (Nat.lt_succ_self _))
          . refine zF (test hc) ?_
            try refine z5 rfl ?_
            exact zz (BN [1,4] 1 rfl (lb rfl) rfl (hJ1 n_2 (Ac e2)))
        . intro hJ2
          rcases Ak e3 with⟨hc1,e3⟩|⟨hc1,e3⟩
          . exact wq (Ai 3 (.val (iP (e.Kids.length:Int))::(Ai 1 (yT::(Ai 3 []))))) _ (aI (CV e.Kids AH) (aI (Aw hc1) tI)) (hJ2 (decide (0<=n_2)) (Ac e3))
          . exact wq (Ai 3 (.val (iP (e.Kids.length:Int))::(Ai 1 (yF::(Ai 3 []))))) _ (aI (CV e.Kids AH) (aI (Aw hc1) tI)) (hJ2 false (Ac e3))
 . intro hJ
   rcases Ak e1 with⟨hc3,e1⟩|⟨hc3,e1⟩
   . exact wq (Ai 2 (yT::(Ai 5 []))) _ (aI (Aw hc3) tI) (hJ true (Ac e1))
   . exact wq (Ai 2 (yF::(Ai 5 []))) _ (aI (Aw hc3) tI) (hJ (decide (300<(e.S.size:Int))) (Ac e1))
theorem H0:∀ n:Nat,(∀ m,m<=n->∀ (e:Aa) (n_:Int) (r:Int),Ca m e n_=some r->FC Tryz.prog 18 [.agg (kX e),iP n_] (iP r))
 |0=>(fun m hm e n_ r h=>by
  obtain rfl:m=0:=by omega
  exact absurd h (by simp [Ca]))
 |n+1=>by
  have ih:=H0 n
  exact fun m hm e n_ r h=>by
   cases m with
   |zero=>exact absurd h (by simp [Ca])
   |succ m=>exact VC.fin (fun Q hQ=>Ln n (ih) m (by omega) e n_ _ h Q hQ) rfl rfl
theorem Hb (n:Nat)(e:Aa)(n_:Int)(r:Int)(h:Ca n e n_=some r):FC Tryz.prog 18 [.agg (kX e),iP n_] (iP r) :=
 (H0 n) n (Nat.le_refl _) e n_ r h
theorem Lm (n0:Nat)
 (ih_law32_forms:∀ m,m<=n0->∀ (l:(List Af)) (n_:Int) (r:Int),Cg m l n_=some r->FC Tryz.prog 35 [hF l,iP n_] (iP r))
 (n:Nat) (hn:n<=n0) (l:(List Af)) (n_:Int) (r:Int) (h:Cg (n+1) l n_=some r) (Q:B7->List (List PV)->Prop) (hQ:∀ y,shareP y=iP r->Q (.ret y) []) :
 VC Tryz.prog 35 [hF l,iP n_] [] Q:=by
 replace h:=(Cg.eq_2 (n:=n) _ _).symm.trans h
 refine VC.intro ⟨[0,1,4,5,6,18,35,47,60,73],[]⟩ Tryz.func35 rfl follows Yo (by rw [Tryz.ntmps35];exact lb rfl) ?_
 refine B4 ?_
 refine zz ?_
 refine wn (Ai 1 []) ⟨[(0,hF l),(1,iP n_),(4,iP 0)],[]⟩ tI ?_
 refine wn (Ai 2 (.val (iP (l.length:Int))::(Ai 2 []))) ⟨[(0,hF l),(1,iP (IntKind.i64.wrap (n_-(l.length:Int)))),(4,iP 0)],[]⟩ (aI (CV l AD) tI) ?_
 refine wn (Ai 1 []) ⟨[(0,hF l),(1,iP (IntKind.i64.wrap (n_-(l.length:Int)))),(4,iP 0),(5,iP 0)],[]⟩ tI ?_
 obtain⟨y,e,h⟩:=Ae h
 refine AJ (A:=Int) (fun v=>.inl v=y) (fun n_1=>⟨[(1,iP n_1),(4,iP 0)],[]⟩) ?_ ?_
 . rintro n_1 rfl
   show WS _ _ _ _ _ ⟨[(1,iP n_1),(4,iP 0)],[]⟩
   refine zz ?_
   refine wn (Ai 3 []) ⟨[(4,iP (if (-1) > n_1 then (-1) else n_1))],[]⟩ tI ?_
   cases h
   exact rt hQ
 . intro hJ
   refine zz ?_
   refine zB ?_
   refine C9 [0,1,4,5] 0 (fun a:Nat×(Int×Int)=>a.1<=n0/\Bq a.1 l a.2.1 a.2.2=some y) (fun a=>a.1) (fun a:Nat×(Int×Int)=>match a with|(_,(n_2,k))=>⟨[(0,hF l),(1,iP n_2),(4,iP 0),(5,iP k)],[]⟩) (n,((IntKind.i64.wrap (n_-(l.length:Int))),0)) (lb rfl) rfl ⟨hn,e⟩ ?_
   clear e hn
   rintro⟨n,n_2,k⟩ ⟨hn,e⟩
   show WS _ _ _ _ _ ⟨[(0,hF l),(1,iP n_2),(4,iP 0),(5,iP k)],[]⟩
   cases n with
   |zero=>exact absurd e (by simp [Bq])
   |succ n =>
    replace e:=(Bq.eq_2 (n:=n) _ _ _).symm.trans e
    replace hn:n<=n0:=by omega
    refine zz ?_
    obtain⟨y1,e1,e⟩:=Ae e
    refine AJ (A:=Bool) (fun v=>v=y1) (fun v18=>⟨[(0,hF l),(1,iP n_2),(4,iP 0),(5,iP k),(18,bP v18)],[]⟩) ?_ ?_
    . rintro v18 rfl
      show WS _ _ _ _ _ ⟨[(0,hF l),(1,iP n_2),(4,iP 0),(5,iP k),(18,bP v18)],[]⟩
      refine zz ?_
      rcases Ak e with⟨hc5,e⟩|⟨hc5,e⟩
      . refine zT (test hc5) ?_
        refine zB ?_
        obtain⟨x,hx,e⟩:=Ae e
        refine wn (Ai 3 (.val (.vptr (kF x) 0)::(Ai 2 (.val (iP (x.Args.length:Int))::(Ai 2 []))))) ⟨[(0,hF l),(1,iP (IntKind.i64.wrap (n_2-(x.Args.length:Int)))),(4,iP 0),(5,iP k)],[]⟩ (aI (oi hx Az (A4 x)) (aI (CV x.Args Bt) tI)) ?_
        refine wn (Ai 2 (.val (.vptr (kF x) 0)::(Ai 4 []))) ⟨[(0,hF l),(1,iP (IntKind.i64.wrap (n_2-(x.Args.length:Int)))),(4,iP 0),(5,iP k),(35,bP (decide (300<(x.Word.size:Int))))],[]⟩ (aI (oi hx Az (A4 x)) tI) ?_
        rcases Ak e with⟨hc4,e⟩|⟨hc4,e⟩
        . refine zT (test hc4) ?_
          refine wn (Ai 1 []) ⟨[(0,hF l),(1,iP (IntKind.i64.wrap (n_2-(x.Args.length:Int)))),(4,iP (-1)),(5,iP k)],[]⟩ tI ?_
          cases e
          cases h
          exact rt hQ
        . refine zF (test hc4) ?_
          refine wn (Ai 1 []) ⟨[(0,hF l),(1,iP (IntKind.i64.wrap (n_2-(x.Args.length:Int)))),(4,iP 0),(5,iP k),(6,iP 0)],[]⟩ tI ?_
          obtain⟨y2,e2,e⟩:=Ae e
          refine AJ (A:=Int) (fun v=>.inl v=y2) (fun n_3=>⟨[(0,hF l),(1,iP n_3),(4,iP 0),(5,iP k)],[]⟩) ?_ ?_
          . rintro n_3 rfl
            show WS _ _ _ _ _ ⟨[(0,hF l),(1,iP n_3),(4,iP 0),(5,iP k)],[]⟩
            refine zz ?_
            refine wn (Ai 2 []) ⟨[(0,hF l),(1,iP n_3),(4,iP 0),(5,iP k),(73,bP (decide (0<=n_3)))],[]⟩ tI ?_
            rcases Ak e with⟨hc,e⟩|⟨hc,e⟩
            . refine zT (test hc) ?_
              obtain⟨n_4,hn_4,e⟩:=Ae e
              refine wn (Ai 2 (.val (.vptr (kF x) 0)::(Ai 3 (.call (iP n_4)::(Ai 1 []))))) ⟨[(0,hF l),(1,iP n_4),(4,iP 0),(5,iP k)],[]⟩ (aI (oi hx Az (A4 x)) (aI (ih_law32_forms n hn x.Body n_3 n_4 hn_4) tI)) ?_
              refine wq (Ai 3 []) ⟨[(0,hF l),(1,iP n_4),(4,iP 0),(5,iP (IntKind.i64.wrap (k+1)))],[]⟩ tI ?_
              exact zz (AQ (n,(n_4,(IntKind.i64.wrap (k+1)))) rfl ⟨hn,e⟩ (Nat.lt_succ_self _))
            . refine zF (test hc) ?_
              refine wq (Ai 3 []) ⟨[(0,hF l),(1,iP n_3),(4,iP 0),(5,iP (IntKind.i64.wrap (k+1)))],[]⟩ tI ?_
              exact zz (AQ (n,(n_3,(IntKind.i64.wrap (k+1)))) rfl ⟨hn,e⟩ (Nat.lt_succ_self _))
          . intro hJ2
            refine zz ?_
            refine zB ?_
            refine C9 [0,1,4,5,6] 0 (fun a:Nat×(Int×Int)=>a.1<=n0/\Cs a.1 x a.2.1 a.2.2=some y2) (fun a=>a.1) (fun a:Nat×(Int×Int)=>match a with|(_,(n_5,i))=>⟨[(0,hF l),(1,iP n_5),(4,iP 0),(5,iP k),(6,iP i)],[]⟩) (n,((IntKind.i64.wrap (n_2-(x.Args.length:Int))),0)) (lb rfl) rfl ⟨hn,e2⟩ ?_
            clear e2 hn
            rintro⟨n,n_5,i⟩ ⟨hn,e2⟩
            show WS _ _ _ _ _ ⟨[(0,hF l),(1,iP n_5),(4,iP 0),(5,iP k),(6,iP i)],[]⟩
            cases n with
            |zero=>exact absurd e2 (by simp [Cs])
            |succ n =>
             replace e2:=(Cs.eq_2 (n:=n) _ _ _).symm.trans e2
             replace hn:n<=n0:=by omega
             refine zz ?_
             obtain⟨y3,e3,e2⟩:=Ae e2
             refine AJ (A:=Bool) (fun v=>v=y3) (fun v47=>⟨[(0,hF l),(1,iP n_5),(4,iP 0),(5,iP k),(6,iP i),(47,bP v47)],[]⟩) ?_ ?_
             . rintro v47 rfl
               show WS _ _ _ _ _ ⟨[(0,hF l),(1,iP n_5),(4,iP 0),(5,iP k),(6,iP i),(47,bP v47)],[]⟩
               refine zz ?_
               rcases Ak e2 with⟨hc2,e2⟩|⟨hc2,e2⟩
               . refine zT (test hc2) ?_
                 refine zB ?_
                 obtain⟨x1,hx1,e2⟩:=Ae e2
                 refine wn (Ai 2 (.val (.vptr (kF x) 0)::(Ai 3 (.val (.vptr (kA x1) 0)::(Ai 4 []))))) ⟨[(0,hF l),(1,iP n_5),(4,iP 0),(5,iP k),(6,iP i),(60,bP (decide (300<(x1.S.size:Int))))],[]⟩ (aI (oi hx Az (A4 x)) (aI (oi hx1 B5 (BG x1)) tI)) ?_
                 rcases Ak e2 with⟨hc1,e2⟩|⟨hc1,e2⟩
                 . refine zT (test hc1) ?_
                   refine wn (Ai 1 []) ⟨[(0,hF l),(1,iP n_5),(4,iP (-1)),(5,iP k),(6,iP i)],[]⟩ tI ?_
                   cases e2
                   cases e
                   cases h
                   exact rt hQ
                 . refine zF (test hc1) ?_
                   obtain⟨n_6,hn_6,e2⟩:=Ae e2
                   refine wn (Ai 2 (.val (.vptr (kF x) 0)::(Ai 3 (.val (.vptr (kA x1) 0)::(Ai 3 (.call (iP n_6)::(Ai 1 []))))))) ⟨[(0,hF l),(1,iP n_6),(4,iP 0),(5,iP k),(6,iP i)],[]⟩ (aI (oi hx Az (A4 x)) (aI (oi hx1 B5 (BG x1)) (aI (Hb n x1.E n_5 n_6 hn_6) tI))) ?_
                   refine wq (Ai 3 []) ⟨[(0,hF l),(1,iP n_6),(4,iP 0),(5,iP k),(6,iP (IntKind.i64.wrap (i+1)))],[]⟩ tI ?_
                   exact zz (AQ (n,(n_6,(IntKind.i64.wrap (i+1)))) rfl ⟨hn,e2⟩ (Nat.lt_succ_self _))
               . refine zF (test hc2) ?_
                 try refine z5 rfl ?_
                 exact zz (BN [0,1,4,5] 0 rfl (lb rfl) rfl (hJ2 n_5 (Ac e2)))
             . intro hJ3
               rcases Ak e3 with⟨hc3,e3⟩|⟨hc3,e3⟩
               . exact wq (Ai 3 (.val (.vptr (kF x) 0)::(Ai 2 (.val (iP (x.Args.length:Int))::(Ai 1 (yT::(Ai 3 []))))))) _ (aI (oi hx Az (A4 x)) (aI (CV x.Args Bt) (aI (Aw hc3) tI))) (hJ3 (decide (0<=n_5)) (Ac e3))
               . exact wq (Ai 3 (.val (.vptr (kF x) 0)::(Ai 2 (.val (iP (x.Args.length:Int))::(Ai 1 (yF::(Ai 3 []))))))) _ (aI (oi hx Az (A4 x)) (aI (CV x.Args Bt) (aI (Aw hc3) tI))) (hJ3 false (Ac e3))
      . refine zF (test hc5) ?_
        try refine z5 rfl ?_
        exact zz (BN [1,4] 0 rfl (lb rfl) rfl (hJ n_2 (Ac e)))
    . intro hJ1
      rcases Ak e1 with⟨hc6,e1⟩|⟨hc6,e1⟩
      . exact wq (Ai 2 (.val (iP (l.length:Int))::(Ai 1 (yT::(Ai 3 []))))) _ (aI (CV l AD) (aI (Aw hc6) tI)) (hJ1 (decide (0<=n_2)) (Ac e1))
      . exact wq (Ai 2 (.val (iP (l.length:Int))::(Ai 1 (yF::(Ai 3 []))))) _ (aI (CV l AD) (aI (Aw hc6) tI)) (hJ1 false (Ac e1))
theorem Hz:∀ n:Nat,(∀ m,m<=n->∀ (l:(List Af)) (n_:Int) (r:Int),Cg m l n_=some r->FC Tryz.prog 35 [hF l,iP n_] (iP r))
 |0=>(fun m hm l n_ r h=>by
  obtain rfl:m=0:=by omega
  exact absurd h (by simp [Cg]))
 |n+1=>by
  have ih:=Hz n
  exact fun m hm l n_ r h=>by
   cases m with
   |zero=>exact absurd h (by simp [Cg])
   |succ m=>exact VC.fin (fun Q hQ=>Lm n (ih) m (by omega) l n_ _ h Q hQ) rfl rfl
theorem N7 (n:Nat)(l:(List Af))(n_:Int)(r:Int)(h:Cg n l n_=some r):FC Tryz.prog 35 [hF l,iP n_] (iP r) :=
 (Hz n) n (Nat.le_refl _) l n_ r h
theorem N8 (n:Nat)(l:(List Af))(n_:Int)(r:Bool)(h:F9 n l n_=some r)(Q:B7->List (List PV)->Prop)(hQ:∀ y,shareP y=bP r->Q (.ret y) []) :
 VC Tryz.prog 17 [hF l,iP n_] [] Q:=by
 unfold F9 at h
 refine VC.intro ⟨[0,1,4],[]⟩ Tryz.func17 rfl follows Yx (by rw [Tryz.ntmps17];exact lb rfl) ?_
 refine B4 ?_
 refine zz ?_
 refine wn (Ai 1 []) ⟨[(0,hF l),(1,iP n_),(4,bP false)],[]⟩ tI ?_
 obtain⟨f,hf,h⟩:=Ae h
 refine wn (Ai 2 (.call (iP f)::(Ai 2 []))) ⟨[(4,bP (decide (0<=f)))],[]⟩ (aI (N7 n l n_ f hf) tI) ?_
 cases h
 exact rt hQ
theorem IZ (n:Nat)(l:(List Af))(n_:Int)(r:Bool)(h:F9 n l n_=some r):FC Tryz.prog 17 [hF l,iP n_] (bP r):=VC.fin (fun Q hQ=>N8 n l n_ _ h Q hQ) rfl rfl
theorem J0 (s:ByteArray)(r:Aa)(h:Db s=some r)(Q:B7->List (List PV)->Prop)(hQ:∀ y,shareP y=.agg (kX r)->Q (.ret y) []) :
 VC Tryz.prog 22 [tP s] [] Q:=by
 unfold Db at h
 refine VC.intro ⟨[0,2],[]⟩ Tryz.func22 rfl follows Ys (by rw [Tryz.ntmps22];exact lb rfl) ?_
 refine B4 ?_
 refine zz ?_
 refine wn (Ai 1 []) ⟨[(0,tP s),(2,.ptr 0 0)],[[iP 0,iP 0,tP ⟨#[]⟩,.sl [] .own,iP 0]]⟩ tI ?_
 refine wn (Ai 3 []) ⟨[(2,.ptr 0 0)],[[iP 3,iP 0,tP s,.sl [] .own,iP 0]]⟩ tI ?_
 cases h
 exact rt hQ
theorem Ef (s:ByteArray)(r:Aa)(h:Db s=some r):FC Tryz.prog 22 [tP s] (.agg (kX r)):=VC.fin (fun Q hQ=>J0 s _ h Q hQ) rfl rfl
theorem Jz (op:Int)(a_:Aa)(b:Aa)(r:Aa)(h:C5 op a_ b=some r)(Q:B7->List (List PV)->Prop)(hQ:∀ y,shareP y=.agg (kX r)->Q (.ret y) []) :
 VC Tryz.prog 23 [iP op,.agg (kX a_),.agg (kX b)] [] Q:=by
 unfold C5 at h
 refine VC.intro ⟨[0,1,2,4,5,6],[]⟩ Tryz.func23 rfl follows Yr (by rw [Tryz.ntmps23];exact lb rfl) ?_
 refine B4 ?_
 refine zz ?_
 refine wn (Ai 3 []) ⟨[(0,iP op),(4,.ptr 0 0),(5,.ptr 1 0),(6,.ptr 2 0)],[(kX a_),(kX b),[iP 0,iP 0,tP ⟨#[]⟩,.sl [] .own,iP 0]]⟩ tI ?_
 obtain⟨l,hl,h⟩:=Ae h
 have fb:([(kX a_),(kX b)]:List (List PV))=l.map AH:=by rw [<- Ac hl];simp only [List.map_cons,List.map_nil,AE]
 refine wn (Ai 3 (.val (oX l)::(Ai 2 []))) ⟨[(6,.ptr 2 0)],[(kX a_),(kX b),[iP op,iP 0,tP ⟨#[]⟩,hX l,iP 0]]⟩ (aI (Cb rfl fb) tI) ?_
 cases h
 exact rt hQ
theorem Cu (op:Int)(a_:Aa)(b:Aa)(r:Aa)(h:C5 op a_ b=some r):FC Tryz.prog 23 [iP op,.agg (kX a_),.agg (kX b)] (.agg (kX r)):=VC.fin (fun Q hQ=>Jz op a_ b _ h Q hQ) rfl rfl
end Go.Proofs.YtgdalmleogphgaaGreatDoor
namespace Go.Proofs.YtgdalmleogphgaaGreatDoor
open Go.RowKit Go.Q Go.Vl Go.Sp
set_option maxRecDepth 100000
set_option linter.unusedSimpArgs false
set_option linter.unusedVariables false
set_option maxHeartbeats 4000000
theorem Im:AM [(1,[9997,1,3,0,1,3,2,4,5,6,7,8])] Tryz.f25.ntmps (Tryz.f25.body.getD .skip)=true:=by kernel_rfl
theorem Fw (n:Nat)(q:Int)(q1:Int)(out:(List Af))(bad:Int)(bad1:Int)(q2:(List Ab))(q3:Int)(r:(Ex Al ((List Af)×(List Ab)×Int) Unit))(h:D6 n q q1 out bad bad1 q2 q3=some r)(Q:B7->List (List PV)->Prop)(hQ:G7 r (fun v0 s0=>∀ y,shareP y=.tup []->Q (.ret y) [[iP q,iP q1],[oF s0.1],[iP bad,iP bad1],[hT s0.2.1,iP s0.2.2]]) (fun e0 s0=>Q (.pan (pE e0)) [[iP q,iP q1],[oF s0.1],[iP bad,iP bad1],[hT s0.2.1,iP s0.2.2]])) :
 VC Tryz.prog 25 [.ptr 3 0,.ptr 1 0] [[iP q,iP q1],[oF out],[iP bad,iP bad1],[hT q2,iP q3]] Q:=by
 unfold D6 at h
 refine VC.intro ⟨[0,1,10],[(1,[9997,1,3,0,1,3,2,4,5,6,7,8])]⟩ Tryz.func25 rfl follows Im (by rw [Tryz.ntmps25];exact lb rfl) ?_
 refine B4 ?_
 refine zz ?_
 obtain⟨y,e,h⟩:=Ae h
 refine AJ (A:=((List Af)×(List Ab)×Int)) (fun v=>.inl v=y) (fun y=>match y with|(out1,q4,q5)=>⟨[],[[iP q,iP q1],[oF out1],[iP bad,iP bad1],[hT q4,iP q5]]⟩) ?_ ?_
 . rintro⟨out1,q4,q5⟩ rfl
   show WS _ _ _ _ _ ⟨[],[[iP q,iP q1],[oF out1],[iP bad,iP bad1],[hT q4,iP q5]]⟩
   refine zz ?_
   cases h
   exact rt hQ
 . intro hJ
   refine zz ?_
   refine zB ?_
   refine C9 [0,1] 4 (fun a:Nat×((List Af)×(List Ab)×Int)=>B2 a.1 a.2.1 a.2.2.1 a.2.2.2=some y) (fun a=>a.1) (fun a:Nat×((List Af)×(List Ab)×Int)=>match a with|(_,(out2,q6,q7))=>⟨[(0,.ptr 3 0),(1,.ptr 1 0)],[[iP q,iP q1],[oF out2],[iP bad,iP bad1],[hT q6,iP q7]]⟩) (n,(out,q2,q3)) (lb rfl) rfl e ?_
   clear e
   rintro⟨n,out2,q6,q7⟩ e
   show WS _ _ _ _ _ ⟨[(0,.ptr 3 0),(1,.ptr 1 0)],[[iP q,iP q1],[oF out2],[iP bad,iP bad1],[hT q6,iP q7]]⟩
   cases n with
   |zero=>exact absurd e (by simp [B2])
   |succ n =>
    replace e:=(B2.eq_2 (n:=n) _ _ _).symm.trans e
    refine zz ?_
    obtain⟨x,hx,e⟩:=Ae e
    refine wn (Ai 4 (.val (.vptr (kT x) 0)::(Ai 3 []))) ⟨[(0,.ptr 3 0),(1,.ptr 1 0),(10,bP (x.Kind != 5))],[[iP q,iP q1],[oF out2],[iP bad,iP bad1],[hT q6,iP q7]]⟩ (aI (oi hx Ba (Br x)) tI) ?_
    rcases Ak e with⟨hc,e⟩|⟨hc,e⟩
    . refine zT (test hc) ?_
      refine zB ?_
      obtain⟨y1,hy1,e⟩:=Ae e
      rcases y1 with⟨f,s⟩|⟨e1,s1⟩
      . obtain⟨out3,hout3,e⟩:=Ae e
        refine Y9 [3] [0,1,3] 2 4 5 6 7 8 [0,1] 4 [.no,.no,.val (iP (out2.length:Int))] (.meth (.agg (kF f)) (kP s)) .no (out3.map AD) ⟨[(0,.ptr 3 0),(1,.ptr 1 0)],[[iP q,iP q1],[oF out3],[iP bad,iP bad1],(kP s)]⟩ (aI (aI (CV out2 AD) tI) (aI (aI (aI (D9 n (Ad.mk q6 q7) 1 (.ok f s) hy1) tI) (V2 hout3 Az (A4 f))) (aI (aI (D9 n (Ad.mk q6 q7) 1 (.ok f s) hy1) tI) (V2 hout3 Az (A4 f))))) (by kernel_rfl) ?_
        exact zz (AQ (n,(out3,s.l,s.forms)) rfl e (Nat.lt_succ_self _))
      . refine zz ?_
        cases e
        cases h
        exact X1 [3] [0,1,3] 2 4 5 6 7 8 [.no,.no,.val (iP (out2.length:Int))] (.mpan (pE e1) (kP s1)) .no (aI (aI (CV out2 AD) tI) (aI (aI (D9 n (Ad.mk q6 q7) 1 (.pan e1 s1) hy1) tI) (aI (D9 n (Ad.mk q6 q7) 1 (.pan e1 s1) hy1) tI))) (by kernel_rfl) rfl hQ
    . refine zF (test hc) ?_
      try refine z5 rfl ?_
      exact zz (BN [] 4 rfl (lb rfl) rfl (hJ (out2,q6,q7) (Ac e)))
theorem Gl (n:Nat)(q:Int)(q1:Int)(out:(List Af))(bad:Int)(bad1:Int)(q2:(List Ab))(q3:Int)(r:(Ex Al ((List Af)×(List Ab)×Int) Unit))(h:D6 n q q1 out bad bad1 q2 q3=some r):G7 r (fun v0 s0=>JO Tryz.prog 25 [.ptr 3 0,.ptr 1 0] [[iP q,iP q1],[oF out],[iP bad,iP bad1],[hT q2,iP q3]] (.ret (.tup [])) [[iP q,iP q1],[oF s0.1],[iP bad,iP bad1],[hT s0.2.1,iP s0.2.2]]) (fun e0 s0=>JO Tryz.prog 25 [.ptr 3 0,.ptr 1 0] [[iP q,iP q1],[oF out],[iP bad,iP bad1],[hT q2,iP q3]] (.pan (pE e0)) [[iP q,iP q1],[oF s0.1],[iP bad,iP bad1],[hT s0.2.1,iP s0.2.2]]):=(match r,h with|.ok v0 s0,h=>JO.fin (fun Q hQ=>Fw n q q1 out bad bad1 q2 q3 _ h Q hQ)|.pan e0 s0,h=>JO.finP (fun Q hQ=>Fw n q q1 out bad bad1 q2 q3 _ h Q hQ))
theorem Hw (d0:Int)(d1:Int)(d2:(List Af))(d3:Int)(d4:Int)(d5:(List Ab))(d6:Int):JP Tryz.prog 44 [.ptr 2 0] [[iP d0,iP d1],[oF d2],[iP d3,iP d4],[hT d5,iP d6]] .returning (fun y u' σ'=>u'=.returning/\y=.ret (.tup [])/\σ'=[[iP d0,iP d1],[oF d2],[iP d3,iP d4],[hT d5,iP d6]]):=by
 refine JP.intro (rv:=.nilIface) ⟨[0,1,2,3,6,13],[]⟩ Tryz.func44 rfl follows rfl (fun _ _=>rfl) rfl rfl (.inl ⟨rfl,rfl,rfl⟩) (by kernel_rfl) ?_
 refine U3 [0,1,2,3,6,13] [0,1] [.no] ⟨[(0,.ptr 2 0),(1,.lit .nilIface)],[[iP d0,iP d1],[oF d2],[iP d3,iP d4],[hT d5,iP d6]]⟩ tI (by kernel_rfl) ?_
 refine zz ?_
 refine wn (Ai 2 []) ⟨[(0,.ptr 2 0),(1,.lit .nilIface),(6,bP false)],[[iP d0,iP d1],[oF d2],[iP d3,iP d4],[hT d5,iP d6]]⟩ tI ?_
 refine zF rfl ?_
 exact B9 (Ih (by rintro y rfl;exact⟨rfl,rfl,rfl⟩) (by kernel_rfl)).1
theorem Hv (d0:Int)(d1:Int)(d2:(List Af))(d3:Int)(d4:Int)(d5:(List Ab))(d6:Int)(e0:Al):JP Tryz.prog 44 [.ptr 2 0] [[iP d0,iP d1],[oF d2],[iP d3,iP d4],[hT d5,iP d6]] (.panicking (pE e0)) (fun y u' σ'=>settle u'=.returning/\y=.ret (.tup [])/\σ'=[[iP d0,iP d1],[oF d2],[iP e0.At,iP e0.E],[hT d5,iP d6]]):=by
 refine JP.intro (rv:=(.iface 95 (.agg #[(.int .i64 e0.At),(.int .i64 e0.E)]))) ⟨[0,1,2,3,6,13],[]⟩ Tryz.func44 rfl follows rfl (fun _ _=>rfl) rfl rfl (.inr ⟨[],rfl,rfl⟩) (by kernel_rfl) ?_
 refine U3 [0,1,2,3,6,13] [0,1] [.no] ⟨[(0,.ptr 2 0),(1,.lit (.iface 95 (.agg #[(.int .i64 e0.At),(.int .i64 e0.E)])))],[[iP d0,iP d1],[oF d2],[iP d3,iP d4],[hT d5,iP d6]]⟩ tI (by kernel_rfl) ?_
 refine zz ?_
 refine wn (Ai 2 []) ⟨[(0,.ptr 2 0),(1,.lit (.iface 95 (.agg #[(.int .i64 e0.At),(.int .i64 e0.E)]))),(6,bP true)],[[iP d0,iP d1],[oF d2],[iP d3,iP d4],[hT d5,iP d6]]⟩ tI ?_
 refine zT rfl ?_
 refine wn (Ai 8 []) ⟨[(0,.ptr 2 0),(1,.lit (.iface 95 (.agg #[(.int .i64 e0.At),(.int .i64 e0.E)]))),(2,.ptr 4 0),(3,bP true)],[[iP d0,iP d1],[oF d2],[iP d3,iP d4],[hT d5,iP d6],[iP e0.At,iP e0.E]]⟩ tI ?_
 refine wn (Ai 2 []) ⟨[(0,.ptr 2 0),(1,.lit (.iface 95 (.agg #[(.int .i64 e0.At),(.int .i64 e0.E)]))),(2,.ptr 4 0),(13,bP false)],[[iP d0,iP d1],[oF d2],[iP d3,iP d4],[hT d5,iP d6],[iP e0.At,iP e0.E]]⟩ tI ?_
 refine zF rfl ?_
 refine wn (Ai 2 []) ⟨[],[[iP d0,iP d1],[oF d2],[iP e0.At,iP e0.E],[hT d5,iP d6],[iP e0.At,iP e0.E]]⟩ tI ?_
 exact B9 (Ih (by rintro y rfl;exact⟨rfl,rfl,rfl⟩) (by kernel_rfl)).1
theorem IV (n:Nat)(q:Int)(q1:Int)(out:(List Af))(src:ByteArray)(r:(Ay×(List Af)))(h:Dm n q q1 out src=some r)(Q:B7->List (List PV)->Prop)(hQ:∀ y,shareP y=.agg [iP r.1.At,iP r.1.E]->Q (.ret y) [[iP q,iP q1],[oF r.2]]) :
 VC Tryz.prog 24 [tP src,.fn 25 [.ptr 1 0]] [[iP q,iP q1],[oF out]] Q:=by
 unfold Dm at h
 refine VC.introD [4] ⟨[0,1,4,5,6,14,30],[]⟩ Tryz.func24 rfl follows rfl rfl (by kernel_rfl) ?_
 show WS _ _ _ (_::_) _ _
 refine zz ?_
 refine wn (Ai 1 []) ⟨[(0,tP src),(1,.fn 25 [.ptr 1 0]),(4,.ptr 2 0)],[[iP q,iP q1],[oF out],[iP 0,iP 0]]⟩ tI ?_
 obtain⟨t,ht,h⟩:=Ae h
 refine wn (Ai 1 (.call (.tup [hT t.1,.agg [iP t.2.At,iP t.2.E]])::(Ai 5 []))) ⟨[(0,tP src),(1,.fn 25 [.ptr 1 0]),(4,.ptr 2 0),(5,hT t.1)],[[iP q,iP q1],[oF out],[iP t.2.At,iP t.2.E]]⟩ (aI (O7 src t ht) tI) ?_
 refine wn (Ai 3 []) ⟨[(0,tP src),(1,.fn 25 [.ptr 1 0]),(4,.ptr 2 0),(5,hT t.1),(14,bP (t.2.E != 0))],[[iP q,iP q1],[oF out],[iP t.2.At,iP t.2.E]]⟩ tI ?_
 rcases Ak h with⟨hc1,h⟩|⟨hc1,h⟩
 . refine zT (test hc1) ?_
   refine wn (Ai 2 []) ⟨[(0,tP src),(1,.fn 25 [.ptr 1 0]),(4,.ptr 2 0),(5,hT t.1),(14,bP (t.2.E != 0))],[[iP q,iP q1],[oF out],[iP t.2.At,iP t.2.E]]⟩ tI ?_
   cases h
   exact B9 (DN hQ (by kernel_rfl)).1
 . refine Aj (test hc1) ?_
   repeat first|apply z3|apply z2|apply z1|apply z4
   refine Qy (Bx.mk ?_)
   show WS _ _ _ _ _ ⟨(16,.fn 44 [.ptr 2 0])::[(0,tP src),(1,.fn 25 [.ptr 1 0]),(4,.ptr 2 0),(5,hT t.1),(14,bP (t.2.E != 0))],[[iP q,iP q1],[oF out],[iP t.2.At,iP t.2.E]]⟩
   refine zz ?_
   refine wn (Ai 4 []) ⟨[(1,.fn 25 [.ptr 1 0]),(4,.ptr 2 0),(6,.ptr 3 0)],[[iP q,iP q1],[oF out],[iP t.2.At,iP t.2.E],[hT t.1,iP 0]]⟩ tI ?_
   obtain⟨y,hy,h⟩:=Ae h
   rcases y with⟨f,c⟩|⟨e,c1⟩
   . refine wn (Ai 2 (.site (.tup []) [[iP q,iP q1],[oF c.1],[iP t.2.At,iP t.2.E],[hT c.2.1,iP c.2.2]]::[])) ⟨[(4,.ptr 2 0),(6,.ptr 3 0)],[[iP q,iP q1],[oF c.1],[iP t.2.At,iP t.2.E],[hT c.2.1,iP c.2.2]]⟩ (aI (Gl n q q1 out t.2.At t.2.E t.1 0 (.ok f c) hy) tI) ?_
     obtain⟨x,hx,h⟩:=Ae h
     refine wn (Ai 4 (.val (.vptr (kT x) 0)::(Ai 3 []))) ⟨[(4,.ptr 2 0),(6,.ptr 3 0),(30,bP (x.Kind != 5))],[[iP q,iP q1],[oF c.1],[iP t.2.At,iP t.2.E],[hT c.2.1,iP c.2.2]]⟩ (aI (oi hx Ba (Br x)) tI) ?_
     rcases Ak h with⟨hc,h⟩|⟨hc,h⟩
     . refine zT (test hc) ?_
       obtain⟨y1,hy1,h⟩:=Ae h
       rcases y1 with⟨f1,s⟩|⟨e1,s1⟩
       . refine wn (Ai 1 (.meth (.tup []) (kP s)::[])) ⟨[(4,.ptr 2 0)],[[iP q,iP q1],[oF c.1],[iP t.2.At,iP t.2.E],(kP s)]⟩ (aI (AB (Ad.mk c.2.1 c.2.2) 5 (.ok f1 s) hy1) tI) ?_
         refine wn (Ai 2 []) ⟨[(4,.ptr 2 0)],[[iP q,iP q1],[oF c.1],[iP 0,iP 0],(kP s)]⟩ tI ?_
         cases h
         exact B9 (JP.mono (Hw q q1 c.1 0 0 s.l s.forms) fun y u' σ' hx=>⟨hx.1,⟨_,hx.2.1⟩,by rw [hx.2.2];exact (DN hQ (by kernel_rfl)).1⟩)
       . refine zz ?_
         cases h
         exact JL [4] (Ai 1 (.mpan (pE e1) (kP s1)::[])) ⟨[(4,.ptr 2 0)],[[iP q,iP q1],[oF c.1],[iP t.2.At,iP t.2.E],(kP s1)]⟩ (aI (AB (Ad.mk c.2.1 c.2.2) 5 (.pan e1 s1) hy1) tI) (by kernel_rfl) rfl (JP.mono (Hv q q1 c.1 t.2.At t.2.E s1.l s1.forms e1) fun y u' σ' hx=>⟨hx.1,⟨_,hx.2.1⟩,by rw [hx.2.2];exact (DN hQ (by kernel_rfl)).1⟩)
     . refine zF (test hc) ?_
       refine wn (Ai 2 []) ⟨[(4,.ptr 2 0)],[[iP q,iP q1],[oF c.1],[iP 0,iP 0],[hT c.2.1,iP c.2.2]]⟩ tI ?_
       cases h
       exact B9 (JP.mono (Hw q q1 c.1 0 0 c.2.1 c.2.2) fun y u' σ' hx=>⟨hx.1,⟨_,hx.2.1⟩,by rw [hx.2.2];exact (DN hQ (by kernel_rfl)).1⟩)
   . refine zz ?_
     cases h
     exact JL [4] (Ai 2 (.sitep (pE e) [[iP q,iP q1],[oF c1.1],[iP t.2.At,iP t.2.E],[hT c1.2.1,iP c1.2.2]]::[])) ⟨[(4,.ptr 2 0)],[[iP q,iP q1],[oF c1.1],[iP t.2.At,iP t.2.E],[hT c1.2.1,iP c1.2.2]]⟩ (aI (Gl n q q1 out t.2.At t.2.E t.1 0 (.pan e c1) hy) tI) (by kernel_rfl) rfl (JP.mono (Hv q q1 c1.1 t.2.At t.2.E c1.2.1 c1.2.2 e) fun y u' σ' hx=>⟨hx.1,⟨_,hx.2.1⟩,by rw [hx.2.2];exact (DN hQ (by kernel_rfl)).1⟩)
theorem JW (n:Nat)(q:Int)(q1:Int)(out:(List Af))(src:ByteArray)(r:(Ay×(List Af)))(h:Dm n q q1 out src=some r):JO Tryz.prog 24 [tP src,.fn 25 [.ptr 1 0]] [[iP q,iP q1],[oF out]] (.ret (.agg [iP r.1.At,iP r.1.E])) [[iP q,iP q1],[oF r.2]]:=JO.fin (fun Q hQ=>IV n q q1 out src _ h Q hQ)
theorem Ll (n:Nat)(src:ByteArray)(r:((List Af)×Ay))(h:BM n src=some r)(Q:B7->List (List PV)->Prop)(hQ:∀ y,shareP y=.tup [hF r.1,.agg [iP r.2.At,iP r.2.E]]->Q (.ret y) []) :
 VC Tryz.prog 8 [tP src] [] Q:=by
 unfold BM at h
 refine VC.intro ⟨[0,2,3,4,5,11],[]⟩ Tryz.func8 rfl follows YK (by rw [Tryz.ntmps8];exact lb rfl) ?_
 refine B4 ?_
 refine zz ?_
 refine wn (Ai 2 []) ⟨[(0,tP src),(2,.sl [] .own),(3,.ptr 0 0)],[[iP 0,iP 0]]⟩ tI ?_
 refine wn (Ai 1 []) ⟨[(0,tP src),(2,.sl [] .own),(3,.ptr 0 0),(4,.ptr 1 0)],[[iP 0,iP 0],[.sl [] .own]]⟩ tI ?_
 obtain⟨bad,hbad,h⟩:=Ae h
 refine wn (Ai 2 (.site (.agg [iP bad.1.At,iP bad.1.E]) [[iP 0,iP 0],[oF bad.2]]::(Ai 2 []))) ⟨[(2,.sl [] .own),(3,.ptr 0 0),(4,.ptr 1 0),(5,.ptr 2 0)],[[iP 0,iP 0],[oF bad.2],[iP bad.1.At,iP bad.1.E]]⟩ (aI (JW n 0 0 [] src bad hbad) tI) ?_
 refine wn (Ai 3 []) ⟨[(2,.sl [] .own),(3,.ptr 0 0),(4,.ptr 1 0),(5,.ptr 2 0),(11,bP (bad.1.E != 0))],[[iP 0,iP 0],[oF bad.2],[iP bad.1.At,iP bad.1.E]]⟩ tI ?_
 rcases Ak h with⟨hc,h⟩|⟨hc,h⟩
 . refine zT (test hc) ?_
   refine wn (Ai 3 []) ⟨[(2,.sl [] .own),(3,.ptr 0 0),(4,.ptr 1 0),(5,.ptr 2 0)],[[iP bad.1.At,iP bad.1.E],[oF bad.2],[iP bad.1.At,iP bad.1.E]]⟩ tI ?_
   cases h
   exact rt hQ
 . refine zF (test hc) ?_
   refine wn (Ai 4 []) ⟨[(2,.sl (bad.2.map AD) (.view (.cell 1 0))),(3,.ptr 0 0)],[[iP bad.1.At,iP bad.1.E],[oF bad.2],[iP bad.1.At,iP bad.1.E]]⟩ tI ?_
   cases h
   exact rt hQ
theorem DT (n:Nat)(src:ByteArray)(r:((List Af)×Ay))(h:BM n src=some r):FC Tryz.prog 8 [tP src] (.tup [hF r.1,.agg [iP r.2.At,iP r.2.E]]):=VC.fin (fun Q hQ=>Ll n src _ h Q hQ) rfl rfl
theorem FJ (n:Nat)(q:Int)(q1:Int)(q2:ByteArray)(q3:(List Aa))(q4:Int)(q5:Int)(q6:Int)(out:Int)(out1:Int)(out2:ByteArray)(out3:(List Aa))(out4:Int)(bad:Int)(bad1:Int)(q7:(List Ab))(q8:Int)(r:(Ex Al (Int×Int×ByteArray×(List Aa)×Int×(List Ab)×Int) Unit))(h:DC n q q1 q2 q3 q4 q5 q6 out out1 out2 out3 out4 bad bad1 q7 q8=some r)(Q:B7->List (List PV)->Prop)(hQ:G7 r (fun v0 s0=>∀ y,shareP y=.tup []->Q (.ret y) [[iP q,iP q1,tP q2,hX q3,iP q4],[iP q5,iP q6],[iP s0.1,iP s0.2.1,tP s0.2.2.1,hX s0.2.2.2.1,iP s0.2.2.2.2.1],[iP bad,iP bad1],[hT s0.2.2.2.2.2.1,iP s0.2.2.2.2.2.2]]) (fun e0 s0=>Q (.pan (pE e0)) [[iP q,iP q1,tP q2,hX q3,iP q4],[iP q5,iP q6],[iP s0.1,iP s0.2.1,tP s0.2.2.1,hX s0.2.2.2.1,iP s0.2.2.2.2.1],[iP bad,iP bad1],[hT s0.2.2.2.2.2.1,iP s0.2.2.2.2.2.2]])) :
 VC Tryz.prog 27 [.ptr 4 0,.ptr 2 0] [[iP q,iP q1,tP q2,hX q3,iP q4],[iP q5,iP q6],[iP out,iP out1,tP out2,hX out3,iP out4],[iP bad,iP bad1],[hT q7,iP q8]] Q:=by
 unfold DC at h
 refine VC.intro ⟨[0,1],[]⟩ Tryz.func27 rfl follows Yq (by rw [Tryz.ntmps27];exact lb rfl) ?_
 refine B4 ?_
 refine zz ?_
 obtain⟨y,hy,h⟩:=Ae h
 rcases y with⟨e,s⟩|⟨e1,s1⟩
 . refine wn (Ai 1 (.meth (.agg (kX e)) (kP s)::(Ai 1 []))) ⟨[],[[iP q,iP q1,tP q2,hX q3,iP q4],[iP q5,iP q6],(kX e),[iP bad,iP bad1],(kP s)]⟩ (aI (DA n (Ad.mk q7 q8) 1 (.ok e s) hy) tI) ?_
   cases h
   exact rt hQ
 . refine zz ?_
   cases h
   exact BX (Ai 1 (.mpan (pE e1) (kP s1)::(Ai 1 []))) (aI (DA n (Ad.mk q7 q8) 1 (.pan e1 s1) hy) tI) (by kernel_rfl) rfl hQ
theorem GC (n:Nat)(q:Int)(q1:Int)(q2:ByteArray)(q3:(List Aa))(q4:Int)(q5:Int)(q6:Int)(out:Int)(out1:Int)(out2:ByteArray)(out3:(List Aa))(out4:Int)(bad:Int)(bad1:Int)(q7:(List Ab))(q8:Int)(r:(Ex Al (Int×Int×ByteArray×(List Aa)×Int×(List Ab)×Int) Unit))(h:DC n q q1 q2 q3 q4 q5 q6 out out1 out2 out3 out4 bad bad1 q7 q8=some r):G7 r (fun v0 s0=>JO Tryz.prog 27 [.ptr 4 0,.ptr 2 0] [[iP q,iP q1,tP q2,hX q3,iP q4],[iP q5,iP q6],[iP out,iP out1,tP out2,hX out3,iP out4],[iP bad,iP bad1],[hT q7,iP q8]] (.ret (.tup [])) [[iP q,iP q1,tP q2,hX q3,iP q4],[iP q5,iP q6],[iP s0.1,iP s0.2.1,tP s0.2.2.1,hX s0.2.2.2.1,iP s0.2.2.2.2.1],[iP bad,iP bad1],[hT s0.2.2.2.2.2.1,iP s0.2.2.2.2.2.2]]) (fun e0 s0=>JO Tryz.prog 27 [.ptr 4 0,.ptr 2 0] [[iP q,iP q1,tP q2,hX q3,iP q4],[iP q5,iP q6],[iP out,iP out1,tP out2,hX out3,iP out4],[iP bad,iP bad1],[hT q7,iP q8]] (.pan (pE e0)) [[iP q,iP q1,tP q2,hX q3,iP q4],[iP q5,iP q6],[iP s0.1,iP s0.2.1,tP s0.2.2.1,hX s0.2.2.2.1,iP s0.2.2.2.2.1],[iP bad,iP bad1],[hT s0.2.2.2.2.2.1,iP s0.2.2.2.2.2.2]]):=(match r,h with|.ok v0 s0,h=>JO.fin (fun Q hQ=>FJ n q q1 q2 q3 q4 q5 q6 out out1 out2 out3 out4 bad bad1 q7 q8 _ h Q hQ)|.pan e0 s0,h=>JO.finP (fun Q hQ=>FJ n q q1 q2 q3 q4 q5 q6 out out1 out2 out3 out4 bad bad1 q7 q8 _ h Q hQ))
theorem Hu (d0:Int)(d1:Int)(d2:ByteArray)(d3:(List Aa))(d4:Int)(d5:Int)(d6:Int)(d7:Int)(d8:Int)(d9:ByteArray)(d10:(List Aa))(d11:Int)(d12:Int)(d13:Int)(d14:(List Ab))(d15:Int):JP Tryz.prog 44 [.ptr 3 0] [[iP d0,iP d1,tP d2,hX d3,iP d4],[iP d5,iP d6],[iP d7,iP d8,tP d9,hX d10,iP d11],[iP d12,iP d13],[hT d14,iP d15]] .returning (fun y u' σ'=>u'=.returning/\y=.ret (.tup [])/\σ'=[[iP d0,iP d1,tP d2,hX d3,iP d4],[iP d5,iP d6],[iP d7,iP d8,tP d9,hX d10,iP d11],[iP d12,iP d13],[hT d14,iP d15]]):=by
 refine JP.intro (rv:=.nilIface) ⟨[0,1,2,3,6,13],[]⟩ Tryz.func44 rfl follows rfl (fun _ _=>rfl) rfl rfl (.inl ⟨rfl,rfl,rfl⟩) (by kernel_rfl) ?_
 refine U3 [0,1,2,3,6,13] [0,1] [.no] ⟨[(0,.ptr 3 0),(1,.lit .nilIface)],[[iP d0,iP d1,tP d2,hX d3,iP d4],[iP d5,iP d6],[iP d7,iP d8,tP d9,hX d10,iP d11],[iP d12,iP d13],[hT d14,iP d15]]⟩ tI (by kernel_rfl) ?_
 refine zz ?_
 refine wn (Ai 2 []) ⟨[(0,.ptr 3 0),(1,.lit .nilIface),(6,bP false)],[[iP d0,iP d1,tP d2,hX d3,iP d4],[iP d5,iP d6],[iP d7,iP d8,tP d9,hX d10,iP d11],[iP d12,iP d13],[hT d14,iP d15]]⟩ tI ?_
 refine zF rfl ?_
 exact B9 (Ih (by rintro y rfl;exact⟨rfl,rfl,rfl⟩) (by kernel_rfl)).1
theorem Ht (d0:Int)(d1:Int)(d2:ByteArray)(d3:(List Aa))(d4:Int)(d5:Int)(d6:Int)(d7:Int)(d8:Int)(d9:ByteArray)(d10:(List Aa))(d11:Int)(d12:Int)(d13:Int)(d14:(List Ab))(d15:Int)(e0:Al):JP Tryz.prog 44 [.ptr 3 0] [[iP d0,iP d1,tP d2,hX d3,iP d4],[iP d5,iP d6],[iP d7,iP d8,tP d9,hX d10,iP d11],[iP d12,iP d13],[hT d14,iP d15]] (.panicking (pE e0)) (fun y u' σ'=>settle u'=.returning/\y=.ret (.tup [])/\σ'=[[iP d0,iP d1,tP d2,hX d3,iP d4],[iP d5,iP d6],[iP d7,iP d8,tP d9,hX d10,iP d11],[iP e0.At,iP e0.E],[hT d14,iP d15]]):=by
 refine JP.intro (rv:=(.iface 95 (.agg #[(.int .i64 e0.At),(.int .i64 e0.E)]))) ⟨[0,1,2,3,6,13],[]⟩ Tryz.func44 rfl follows rfl (fun _ _=>rfl) rfl rfl (.inr ⟨[],rfl,rfl⟩) (by kernel_rfl) ?_
 refine U3 [0,1,2,3,6,13] [0,1] [.no] ⟨[(0,.ptr 3 0),(1,.lit (.iface 95 (.agg #[(.int .i64 e0.At),(.int .i64 e0.E)])))],[[iP d0,iP d1,tP d2,hX d3,iP d4],[iP d5,iP d6],[iP d7,iP d8,tP d9,hX d10,iP d11],[iP d12,iP d13],[hT d14,iP d15]]⟩ tI (by kernel_rfl) ?_
 refine zz ?_
 refine wn (Ai 2 []) ⟨[(0,.ptr 3 0),(1,.lit (.iface 95 (.agg #[(.int .i64 e0.At),(.int .i64 e0.E)]))),(6,bP true)],[[iP d0,iP d1,tP d2,hX d3,iP d4],[iP d5,iP d6],[iP d7,iP d8,tP d9,hX d10,iP d11],[iP d12,iP d13],[hT d14,iP d15]]⟩ tI ?_
 refine zT rfl ?_
 refine wn (Ai 8 []) ⟨[(0,.ptr 3 0),(1,.lit (.iface 95 (.agg #[(.int .i64 e0.At),(.int .i64 e0.E)]))),(2,.ptr 5 0),(3,bP true)],[[iP d0,iP d1,tP d2,hX d3,iP d4],[iP d5,iP d6],[iP d7,iP d8,tP d9,hX d10,iP d11],[iP d12,iP d13],[hT d14,iP d15],[iP e0.At,iP e0.E]]⟩ tI ?_
 refine wn (Ai 2 []) ⟨[(0,.ptr 3 0),(1,.lit (.iface 95 (.agg #[(.int .i64 e0.At),(.int .i64 e0.E)]))),(2,.ptr 5 0),(13,bP false)],[[iP d0,iP d1,tP d2,hX d3,iP d4],[iP d5,iP d6],[iP d7,iP d8,tP d9,hX d10,iP d11],[iP d12,iP d13],[hT d14,iP d15],[iP e0.At,iP e0.E]]⟩ tI ?_
 refine zF rfl ?_
 refine wn (Ai 2 []) ⟨[],[[iP d0,iP d1,tP d2,hX d3,iP d4],[iP d5,iP d6],[iP d7,iP d8,tP d9,hX d10,iP d11],[iP e0.At,iP e0.E],[hT d14,iP d15],[iP e0.At,iP e0.E]]⟩ tI ?_
 exact B9 (Ih (by rintro y rfl;exact⟨rfl,rfl,rfl⟩) (by kernel_rfl)).1
theorem IU (n:Nat)(q:Int)(q1:Int)(q2:ByteArray)(q3:(List Aa))(q4:Int)(q5:Int)(q6:Int)(out:Int)(out1:Int)(out2:ByteArray)(out3:(List Aa))(out4:Int)(src:ByteArray)(r:(Ay×Int×Int×ByteArray×(List Aa)×Int))(h:Dl n q q1 q2 q3 q4 q5 q6 out out1 out2 out3 out4 src=some r)(Q:B7->List (List PV)->Prop)(hQ:∀ y,shareP y=.agg [iP r.1.At,iP r.1.E]->Q (.ret y) [[iP q,iP q1,tP q2,hX q3,iP q4],[iP q5,iP q6],[iP r.2.1,iP r.2.2.1,tP r.2.2.2.1,hX r.2.2.2.2.1,iP r.2.2.2.2.2]]) :
 VC Tryz.prog 24 [tP src,.fn 27 [.ptr 2 0]] [[iP q,iP q1,tP q2,hX q3,iP q4],[iP q5,iP q6],[iP out,iP out1,tP out2,hX out3,iP out4]] Q:=by
 unfold Dl at h
 refine VC.introD [4] ⟨[0,1,4,5,6,14,30],[]⟩ Tryz.func24 rfl follows rfl rfl (by kernel_rfl) ?_
 show WS _ _ _ (_::_) _ _
 refine zz ?_
 refine wn (Ai 1 []) ⟨[(0,tP src),(1,.fn 27 [.ptr 2 0]),(4,.ptr 3 0)],[[iP q,iP q1,tP q2,hX q3,iP q4],[iP q5,iP q6],[iP out,iP out1,tP out2,hX out3,iP out4],[iP 0,iP 0]]⟩ tI ?_
 obtain⟨t,ht,h⟩:=Ae h
 refine wn (Ai 1 (.call (.tup [hT t.1,.agg [iP t.2.At,iP t.2.E]])::(Ai 5 []))) ⟨[(0,tP src),(1,.fn 27 [.ptr 2 0]),(4,.ptr 3 0),(5,hT t.1)],[[iP q,iP q1,tP q2,hX q3,iP q4],[iP q5,iP q6],[iP out,iP out1,tP out2,hX out3,iP out4],[iP t.2.At,iP t.2.E]]⟩ (aI (O7 src t ht) tI) ?_
 refine wn (Ai 3 []) ⟨[(0,tP src),(1,.fn 27 [.ptr 2 0]),(4,.ptr 3 0),(5,hT t.1),(14,bP (t.2.E != 0))],[[iP q,iP q1,tP q2,hX q3,iP q4],[iP q5,iP q6],[iP out,iP out1,tP out2,hX out3,iP out4],[iP t.2.At,iP t.2.E]]⟩ tI ?_
 rcases Ak h with⟨hc1,h⟩|⟨hc1,h⟩
 . refine zT (test hc1) ?_
   refine wn (Ai 2 []) ⟨[(0,tP src),(1,.fn 27 [.ptr 2 0]),(4,.ptr 3 0),(5,hT t.1),(14,bP (t.2.E != 0))],[[iP q,iP q1,tP q2,hX q3,iP q4],[iP q5,iP q6],[iP out,iP out1,tP out2,hX out3,iP out4],[iP t.2.At,iP t.2.E]]⟩ tI ?_
   cases h
   exact B9 (DN hQ (by kernel_rfl)).1
 . refine Aj (test hc1) ?_
   repeat first|apply z3|apply z2|apply z1|apply z4
   refine Qy (Bx.mk ?_)
   show WS _ _ _ _ _ ⟨(16,.fn 44 [.ptr 3 0])::[(0,tP src),(1,.fn 27 [.ptr 2 0]),(4,.ptr 3 0),(5,hT t.1),(14,bP (t.2.E != 0))],[[iP q,iP q1,tP q2,hX q3,iP q4],[iP q5,iP q6],[iP out,iP out1,tP out2,hX out3,iP out4],[iP t.2.At,iP t.2.E]]⟩
   refine zz ?_
   refine wn (Ai 4 []) ⟨[(1,.fn 27 [.ptr 2 0]),(4,.ptr 3 0),(6,.ptr 4 0)],[[iP q,iP q1,tP q2,hX q3,iP q4],[iP q5,iP q6],[iP out,iP out1,tP out2,hX out3,iP out4],[iP t.2.At,iP t.2.E],[hT t.1,iP 0]]⟩ tI ?_
   obtain⟨y,hy,h⟩:=Ae h
   rcases y with⟨e,c⟩|⟨e1,c1⟩
   . refine wn (Ai 2 (.site (.tup []) [[iP q,iP q1,tP q2,hX q3,iP q4],[iP q5,iP q6],[iP c.1,iP c.2.1,tP c.2.2.1,hX c.2.2.2.1,iP c.2.2.2.2.1],[iP t.2.At,iP t.2.E],[hT c.2.2.2.2.2.1,iP c.2.2.2.2.2.2]]::[])) ⟨[(4,.ptr 3 0),(6,.ptr 4 0)],[[iP q,iP q1,tP q2,hX q3,iP q4],[iP q5,iP q6],[iP c.1,iP c.2.1,tP c.2.2.1,hX c.2.2.2.1,iP c.2.2.2.2.1],[iP t.2.At,iP t.2.E],[hT c.2.2.2.2.2.1,iP c.2.2.2.2.2.2]]⟩ (aI (GC n q q1 q2 q3 q4 q5 q6 out out1 out2 out3 out4 t.2.At t.2.E t.1 0 (.ok e c) hy) tI) ?_
     obtain⟨x,hx,h⟩:=Ae h
     refine wn (Ai 4 (.val (.vptr (kT x) 0)::(Ai 3 []))) ⟨[(4,.ptr 3 0),(6,.ptr 4 0),(30,bP (x.Kind != 5))],[[iP q,iP q1,tP q2,hX q3,iP q4],[iP q5,iP q6],[iP c.1,iP c.2.1,tP c.2.2.1,hX c.2.2.2.1,iP c.2.2.2.2.1],[iP t.2.At,iP t.2.E],[hT c.2.2.2.2.2.1,iP c.2.2.2.2.2.2]]⟩ (aI (oi hx Ba (Br x)) tI) ?_
     rcases Ak h with⟨hc,h⟩|⟨hc,h⟩
     . refine zT (test hc) ?_
       obtain⟨y1,hy1,h⟩:=Ae h
       rcases y1 with⟨f,s⟩|⟨e2,s1⟩
       . refine wn (Ai 1 (.meth (.tup []) (kP s)::[])) ⟨[(4,.ptr 3 0)],[[iP q,iP q1,tP q2,hX q3,iP q4],[iP q5,iP q6],[iP c.1,iP c.2.1,tP c.2.2.1,hX c.2.2.2.1,iP c.2.2.2.2.1],[iP t.2.At,iP t.2.E],(kP s)]⟩ (aI (AB (Ad.mk c.2.2.2.2.2.1 c.2.2.2.2.2.2) 5 (.ok f s) hy1) tI) ?_
         refine wn (Ai 2 []) ⟨[(4,.ptr 3 0)],[[iP q,iP q1,tP q2,hX q3,iP q4],[iP q5,iP q6],[iP c.1,iP c.2.1,tP c.2.2.1,hX c.2.2.2.1,iP c.2.2.2.2.1],[iP 0,iP 0],(kP s)]⟩ tI ?_
         cases h
         exact B9 (JP.mono (Hu q q1 q2 q3 q4 q5 q6 c.1 c.2.1 c.2.2.1 c.2.2.2.1 c.2.2.2.2.1 0 0 s.l s.forms) fun y u' σ' hx=>⟨hx.1,⟨_,hx.2.1⟩,by rw [hx.2.2];exact (DN hQ (by kernel_rfl)).1⟩)
       . refine zz ?_
         cases h
         exact JL [4] (Ai 1 (.mpan (pE e2) (kP s1)::[])) ⟨[(4,.ptr 3 0)],[[iP q,iP q1,tP q2,hX q3,iP q4],[iP q5,iP q6],[iP c.1,iP c.2.1,tP c.2.2.1,hX c.2.2.2.1,iP c.2.2.2.2.1],[iP t.2.At,iP t.2.E],(kP s1)]⟩ (aI (AB (Ad.mk c.2.2.2.2.2.1 c.2.2.2.2.2.2) 5 (.pan e2 s1) hy1) tI) (by kernel_rfl) rfl (JP.mono (Ht q q1 q2 q3 q4 q5 q6 c.1 c.2.1 c.2.2.1 c.2.2.2.1 c.2.2.2.2.1 t.2.At t.2.E s1.l s1.forms e2) fun y u' σ' hx=>⟨hx.1,⟨_,hx.2.1⟩,by rw [hx.2.2];exact (DN hQ (by kernel_rfl)).1⟩)
     . refine zF (test hc) ?_
       refine wn (Ai 2 []) ⟨[(4,.ptr 3 0)],[[iP q,iP q1,tP q2,hX q3,iP q4],[iP q5,iP q6],[iP c.1,iP c.2.1,tP c.2.2.1,hX c.2.2.2.1,iP c.2.2.2.2.1],[iP 0,iP 0],[hT c.2.2.2.2.2.1,iP c.2.2.2.2.2.2]]⟩ tI ?_
       cases h
       exact B9 (JP.mono (Hu q q1 q2 q3 q4 q5 q6 c.1 c.2.1 c.2.2.1 c.2.2.2.1 c.2.2.2.2.1 0 0 c.2.2.2.2.2.1 c.2.2.2.2.2.2) fun y u' σ' hx=>⟨hx.1,⟨_,hx.2.1⟩,by rw [hx.2.2];exact (DN hQ (by kernel_rfl)).1⟩)
   . refine zz ?_
     cases h
     exact JL [4] (Ai 2 (.sitep (pE e1) [[iP q,iP q1,tP q2,hX q3,iP q4],[iP q5,iP q6],[iP c1.1,iP c1.2.1,tP c1.2.2.1,hX c1.2.2.2.1,iP c1.2.2.2.2.1],[iP t.2.At,iP t.2.E],[hT c1.2.2.2.2.2.1,iP c1.2.2.2.2.2.2]]::[])) ⟨[(4,.ptr 3 0)],[[iP q,iP q1,tP q2,hX q3,iP q4],[iP q5,iP q6],[iP c1.1,iP c1.2.1,tP c1.2.2.1,hX c1.2.2.2.1,iP c1.2.2.2.2.1],[iP t.2.At,iP t.2.E],[hT c1.2.2.2.2.2.1,iP c1.2.2.2.2.2.2]]⟩ (aI (GC n q q1 q2 q3 q4 q5 q6 out out1 out2 out3 out4 t.2.At t.2.E t.1 0 (.pan e1 c1) hy) tI) (by kernel_rfl) rfl (JP.mono (Ht q q1 q2 q3 q4 q5 q6 c1.1 c1.2.1 c1.2.2.1 c1.2.2.2.1 c1.2.2.2.2.1 t.2.At t.2.E c1.2.2.2.2.2.1 c1.2.2.2.2.2.2 e1) fun y u' σ' hx=>⟨hx.1,⟨_,hx.2.1⟩,by rw [hx.2.2];exact (DN hQ (by kernel_rfl)).1⟩)
theorem JV (n:Nat)(q:Int)(q1:Int)(q2:ByteArray)(q3:(List Aa))(q4:Int)(q5:Int)(q6:Int)(out:Int)(out1:Int)(out2:ByteArray)(out3:(List Aa))(out4:Int)(src:ByteArray)(r:(Ay×Int×Int×ByteArray×(List Aa)×Int))(h:Dl n q q1 q2 q3 q4 q5 q6 out out1 out2 out3 out4 src=some r):JO Tryz.prog 24 [tP src,.fn 27 [.ptr 2 0]] [[iP q,iP q1,tP q2,hX q3,iP q4],[iP q5,iP q6],[iP out,iP out1,tP out2,hX out3,iP out4]] (.ret (.agg [iP r.1.At,iP r.1.E])) [[iP q,iP q1,tP q2,hX q3,iP q4],[iP q5,iP q6],[iP r.2.1,iP r.2.2.1,tP r.2.2.2.1,hX r.2.2.2.2.1,iP r.2.2.2.2.2]]:=JO.fin (fun Q hQ=>IU n q q1 q2 q3 q4 q5 q6 out out1 out2 out3 out4 src _ h Q hQ)
theorem LG:AM [(4,[9999,1,0,0,1,2,3]),(5,[9999,1,0,0,1,2,3])] Tryz.f9.ntmps (Tryz.f9.body.getD .skip)=true:=by kernel_rfl
theorem M0 (n:Nat)(src:ByteArray)(r:(Aa×Ay))(h:BF n src=some r)(Q:B7->List (List PV)->Prop)(hQ:∀ y,shareP y=.tup [.agg (kX r.1),.agg [iP r.2.At,iP r.2.E]]->Q (.ret y) []) :
 VC Tryz.prog 9 [tP src] [] Q:=by
 unfold BF at h
 refine VC.intro ⟨[0,2,3,4,5,11],[(4,[9999,1,0,0,1,2,3]),(5,[9999,1,0,0,1,2,3])]⟩ Tryz.func9 rfl follows LG (by rw [Tryz.ntmps9];exact lb rfl) ?_
 refine B4 ?_
 refine zz ?_
 refine wn (Ai 2 []) ⟨[(0,tP src),(2,.ptr 0 0),(3,.ptr 1 0)],[[iP 0,iP 0,tP ⟨#[]⟩,.sl [] .own,iP 0],[iP 0,iP 0]]⟩ tI ?_
 refine wn (Ai 1 []) ⟨[(0,tP src),(2,.ptr 0 0),(3,.ptr 1 0),(4,.ptr 2 0)],[[iP 0,iP 0,tP ⟨#[]⟩,.sl [] .own,iP 0],[iP 0,iP 0],[iP 0,iP 0,tP ⟨#[]⟩,.sl [] .own,iP 0]]⟩ tI ?_
 refine P4 0 3 ⟨[(0,tP src),(2,.ptr 0 0),(3,.ptr 1 0),(4,.ptr 2 0)],[[iP 0,iP 0,tP ⟨#[]⟩,.sl [] .shared,iP 0],[iP 0,iP 0],[iP 0,iP 0,tP ⟨#[]⟩,.sl [] .own,iP 0]]⟩ (by kernel_rfl) ?_
 refine P4 2 3 ⟨[(0,tP src),(2,.ptr 0 0),(3,.ptr 1 0),(4,.ptr 2 0)],[[iP 0,iP 0,tP ⟨#[]⟩,.sl [] .shared,iP 0],[iP 0,iP 0],[iP 0,iP 0,tP ⟨#[]⟩,.sl [] .shared,iP 0]]⟩ (by kernel_rfl) ?_
 refine zz ?_
 obtain⟨bad,hbad,h⟩:=Ae h
 refine wn (Ai 2 (.site (.agg [iP bad.1.At,iP bad.1.E]) [[iP 0,iP 0,tP ⟨#[]⟩,.sl [] .shared,iP 0],[iP 0,iP 0],[iP bad.2.1,iP bad.2.2.1,tP bad.2.2.2.1,hX bad.2.2.2.2.1,iP bad.2.2.2.2.2]]::(Ai 2 []))) ⟨[(2,.ptr 0 0),(3,.ptr 1 0),(4,.ptr 2 0),(5,.ptr 3 0)],[[iP 0,iP 0,tP ⟨#[]⟩,.sl [] .shared,iP 0],[iP 0,iP 0],[iP bad.2.1,iP bad.2.2.1,tP bad.2.2.2.1,hX bad.2.2.2.2.1,iP bad.2.2.2.2.2],[iP bad.1.At,iP bad.1.E]]⟩ (aI (JV n 0 0 ⟨#[]⟩ [] 0 0 0 0 0 ⟨#[]⟩ [] 0 src bad hbad) tI) ?_
 refine wn (Ai 3 []) ⟨[(2,.ptr 0 0),(3,.ptr 1 0),(4,.ptr 2 0),(5,.ptr 3 0),(11,bP (bad.1.E != 0))],[[iP 0,iP 0,tP ⟨#[]⟩,.sl [] .shared,iP 0],[iP 0,iP 0],[iP bad.2.1,iP bad.2.2.1,tP bad.2.2.2.1,hX bad.2.2.2.2.1,iP bad.2.2.2.2.2],[iP bad.1.At,iP bad.1.E]]⟩ tI ?_
 rcases Ak h with⟨hc,h⟩|⟨hc,h⟩
 . refine zT (test hc) ?_
   refine Rt [0] [0,1,2,3] (Ai 4 []) ⟨[(2,.ptr 0 0),(3,.ptr 1 0),(4,.ptr 2 0),(5,.ptr 3 0)],[[iP 0,iP 0,tP ⟨#[]⟩,.sl [] .own,iP 0],[iP bad.1.At,iP bad.1.E],[iP bad.2.1,iP bad.2.2.1,tP bad.2.2.2.1,hX bad.2.2.2.2.1,iP bad.2.2.2.2.2],[iP bad.1.At,iP bad.1.E]]⟩ tI ?_
   refine zz ?_
   cases h
   exact rt hQ
 . refine zF (test hc) ?_
   refine Rt [0] [0,1,2,3] (Ai 4 []) ⟨[(2,.ptr 0 0),(3,.ptr 1 0)],[[iP bad.2.1,iP bad.2.2.1,tP bad.2.2.2.1,hX bad.2.2.2.2.1,iP bad.2.2.2.2.2],[iP bad.1.At,iP bad.1.E],[iP bad.2.1,iP bad.2.2.1,tP bad.2.2.2.1,hX bad.2.2.2.2.1,iP bad.2.2.2.2.2],[iP bad.1.At,iP bad.1.E]]⟩ tI ?_
   refine zz ?_
   cases h
   exact rt hQ
theorem Dn (n:Nat)(src:ByteArray)(r:(Aa×Ay))(h:BF n src=some r):FC Tryz.prog 9 [tP src] (.tup [.agg (kX r.1),.agg [iP r.2.At,iP r.2.E]]):=VC.fin (fun Q hQ=>M0 n src _ h Q hQ) rfl rfl
end Go.Proofs.YtgdalmleogphgaaGreatDoor
namespace Go.Proofs.YtgdalmleogphgaaGreatDoor
open Go.RowKit Go.Q Go.Vl Go.Sp
set_option maxRecDepth 100000
set_option linter.unusedSimpArgs false
set_option maxHeartbeats 4000000
set_option linter.unusedVariables false
theorem Jy (n0:Nat)
 (ih_parse_SameExpr:∀ m,m<=n0->∀ (a_:Aa) (b:Aa) (r:Bool),Bp m a_ b=some r->FC Tryz.prog 15 [.agg (kX a_),.agg (kX b)] (bP r))
 (ih_slices_EqualFunc_34_15:∀ m,m<=n0->∀ (s1:(List Aa)) (s2:(List Aa)) (r:Bool),Bf m s1 s2=some r->FC Tryz.prog 34 [hX s1,hX s2,.fn 15 []] (bP r))
 (n:Nat) (hn:n<=n0) (a_:Aa) (b:Aa) (r:Bool) (h:Bp (n+1) a_ b=some r) (Q:B7->List (List PV)->Prop) (hQ:∀ y,shareP y=bP r->Q (.ret y) []) :
 VC Tryz.prog 15 [.agg (kX a_),.agg (kX b)] [] Q:=by
 replace h:=(Bp.eq_2 (n:=n) _ _).symm.trans h
 refine VC.intro ⟨[0,1,2,3,4,9,11,12,19,27,33],[]⟩ Tryz.func15 rfl follows Yy (by rw [Tryz.ntmps15];exact lb rfl) ?_
 refine B4 ?_
 refine zz ?_
 refine wn (Ai 3 []) ⟨[(2,.ptr 0 0),(3,.ptr 1 0),(4,bP false)],[(kX a_),(kX b)]⟩ tI ?_
 refine wn (Ai 5 []) ⟨[(2,.ptr 0 0),(3,.ptr 1 0),(4,bP false),(9,bP (a_.Op != b.Op))],[(kX a_),(kX b)]⟩ tI ?_
 rcases Ak h with⟨hc5,h⟩|⟨hc5,h⟩
 . refine zT (test hc5) ?_
   refine wn (Ai 1 []) ⟨[(2,.ptr 0 0),(3,.ptr 1 0),(4,bP false)],[(kX a_),(kX b)]⟩ tI ?_
   cases h
   exact rt hQ
 . refine zF (test hc5) ?_
   refine wn (Ai 2 []) ⟨[(2,.ptr 0 0),(3,.ptr 1 0),(4,bP false),(11,iP a_.Op)],[(kX a_),(kX b)]⟩ tI ?_
   refine zB ?_
   refine wn (Ai 2 []) ⟨[(2,.ptr 0 0),(3,.ptr 1 0),(4,bP false),(11,iP a_.Op),(12,bP (a_.Op == 1))],[(kX a_),(kX b)]⟩ tI ?_
   rcases Ak h with⟨hc4,h⟩|⟨hc4,h⟩
   . refine zT (test hc4) ?_
     refine wn (Ai 6 []) ⟨[(2,.ptr 0 0),(3,.ptr 1 0),(4,bP (a_.N == b.N))],[(kX a_),(kX b)]⟩ tI ?_
     cases h
     exact rt hQ
   . refine zF (test hc4) ?_
     refine wn (Ai 2 []) ⟨[(2,.ptr 0 0),(3,.ptr 1 0),(4,bP false),(11,iP a_.Op),(19,bP (a_.Op == 2))],[(kX a_),(kX b)]⟩ tI ?_
     obtain⟨y,e,h⟩:=Ae h
     refine AJ (A:=Bool) (fun v=>v=y) (fun v19=>⟨[(2,.ptr 0 0),(3,.ptr 1 0),(4,bP false),(11,iP a_.Op),(19,bP v19)],[(kX a_),(kX b)]⟩) ?_ ?_
     . rintro v19 rfl
       show WS _ _ _ _ _ ⟨[(2,.ptr 0 0),(3,.ptr 1 0),(4,bP false),(11,iP a_.Op),(19,bP v19)],[(kX a_),(kX b)]⟩
       refine zz ?_
       rcases Ak h with⟨hc2,h⟩|⟨hc2,h⟩
       . refine zT (test hc2) ?_
         refine wn (Ai 6 []) ⟨[(2,.ptr 0 0),(3,.ptr 1 0),(4,bP (decide (a_.S=b.S)))],[(kX a_),(kX b)]⟩ tI ?_
         cases h
         exact rt hQ
       . refine zF (test hc2) ?_
         refine wn (Ai 2 []) ⟨[(2,.ptr 0 0),(3,.ptr 1 0),(4,bP false),(27,bP (a_.Op == 4))],[(kX a_),(kX b)]⟩ tI ?_
         rcases Ak h with⟨hc1,h⟩|⟨hc1,h⟩
         . refine zT (test hc1) ?_
           refine wn (Ai 5 []) ⟨[(2,.ptr 0 0),(3,.ptr 1 0),(4,bP false),(33,bP (!decide (a_.S=b.S)))],[(kX a_),(kX b)]⟩ tI ?_
           rcases Ak h with⟨hc,h⟩|⟨hc,h⟩
           . refine zT (test hc) ?_
             refine wn (Ai 1 []) ⟨[(2,.ptr 0 0),(3,.ptr 1 0),(4,bP false)],[(kX a_),(kX b)]⟩ tI ?_
             cases h
             exact rt hQ
           . refine zF (test hc) ?_
             obtain⟨e1,he1,h⟩:=Ae h
             refine wn (Ai 4 (.call (bP e1)::(Ai 1 []))) ⟨[(4,bP e1)],[(kX a_),(kX b)]⟩ (aI (ih_slices_EqualFunc_34_15 n hn a_.Kids b.Kids e1 he1) tI) ?_
             cases h
             exact rt hQ
         . refine zF (test hc1) ?_
           obtain⟨e2,he2,h⟩:=Ae h
           refine wn (Ai 4 (.call (bP e2)::(Ai 1 []))) ⟨[(4,bP e2)],[(kX a_),(kX b)]⟩ (aI (ih_slices_EqualFunc_34_15 n hn a_.Kids b.Kids e2 he2) tI) ?_
           cases h
           exact rt hQ
     . intro hJ
       refine zz ?_
       rcases Ak e with⟨hc3,e⟩|⟨hc3,e⟩
       . refine Ap (test hc3) ?_
         exact zz (BN [2,3,4,11,19] 2 rfl (lb rfl) rfl (hJ (a_.Op == 2) (Ac e)))
       . refine zF (test hc3) ?_
         refine wq (Ai 2 []) ⟨[(2,.ptr 0 0),(3,.ptr 1 0),(4,bP false),(11,iP a_.Op),(19,bP (a_.Op == 3))],[(kX a_),(kX b)]⟩ tI ?_
         exact zz (BN [2,3,4,11,19] 2 rfl (lb rfl) rfl (hJ (a_.Op == 3) (Ac e)))
theorem Gf (n0:Nat)
 (ih_parse_SameExpr:∀ m,m<=n0->∀ (a_:Aa) (b:Aa) (r:Bool),Bp m a_ b=some r->FC Tryz.prog 15 [.agg (kX a_),.agg (kX b)] (bP r))
 (ih_slices_EqualFunc_34_15:∀ m,m<=n0->∀ (s1:(List Aa)) (s2:(List Aa)) (r:Bool),Bf m s1 s2=some r->FC Tryz.prog 34 [hX s1,hX s2,.fn 15 []] (bP r))
 (n:Nat) (hn:n<=n0) (s1:(List Aa)) (s2:(List Aa)) (r:Bool) (h:Bf (n+1) s1 s2=some r) (Q:B7->List (List PV)->Prop) (hQ:∀ y,shareP y=bP r->Q (.ret y) []) :
 VC Tryz.prog 34 [hX s1,hX s2,.fn 15 []] [] Q:=by
 replace h:=(Bf.eq_2 (n:=n) _ _).symm.trans h
 refine VC.intro ⟨[0,1,2,6,7,8,9,14,15,16,17,18,30],[]⟩ Tryz.func34 rfl follows Yp (by rw [Tryz.ntmps34];exact lb rfl) ?_
 refine B4 ?_
 refine zz ?_
 refine wn (Ai 1 []) ⟨[(0,hX s1),(1,hX s2),(2,.fn 15 []),(6,bP false)],[]⟩ tI ?_
 refine wn (Ai 1 (.val (iP (s1.length:Int))::(Ai 1 (.val (iP (s2.length:Int))::(Ai 1 []))))) ⟨[(0,hX s1),(1,hX s2),(2,.fn 15 []),(6,bP false),(14,bP ((s1.length:Int) != (s2.length:Int)))],[]⟩ (aI (CV s1 AH) (aI (CV s2 AH) tI)) ?_
 rcases Ak h with⟨hc2,h⟩|⟨hc2,h⟩
 . refine zT (test hc2) ?_
   refine wn (Ai 1 []) ⟨[(0,hX s1),(1,hX s2),(2,.fn 15 []),(6,bP false)],[]⟩ tI ?_
   cases h
   exact rt hQ
 . refine zF (test hc2) ?_
   refine wn (Ai 1 (.val (iP (s1.length:Int))::(Ai 1 []))) ⟨[(1,hX s2),(2,.fn 15 []),(6,bP false),(15,hX s1),(16,iP (s1.length:Int)),(17,iP 0)],[]⟩ (aI (CV s1 AH) tI) ?_
   obtain⟨y,e,h⟩:=Ae h
   refine AJ (A:=Unit) (fun v=>.inl v=y) (fun _=>⟨[(6,bP false)],[]⟩) ?_ ?_
   . rintro _ rfl
     show WS _ _ _ _ _ ⟨[(6,bP false)],[]⟩
     refine zz ?_
     refine wn (Ai 1 []) ⟨[(6,bP true)],[]⟩ tI ?_
     cases h
     exact rt hQ
   . intro hJ
     refine zz ?_
     refine zB ?_
     refine C9 [1,2,6,15,16,17] 0 (fun a:Nat×Int=>a.1<=n0/\Bm a.1 s1 s2 a.2=some y) (fun a=>a.1) (fun a:Nat×Int=>match a with|(_,v17)=>⟨[(1,hX s2),(2,.fn 15 []),(6,bP false),(15,hX s1),(16,iP (s1.length:Int)),(17,iP v17)],[]⟩) (n,0) (lb rfl) rfl ⟨hn,e⟩ ?_
     clear e hn
     rintro⟨n,v17⟩ ⟨hn,e⟩
     show WS _ _ _ _ _ ⟨[(1,hX s2),(2,.fn 15 []),(6,bP false),(15,hX s1),(16,iP (s1.length:Int)),(17,iP v17)],[]⟩
     cases n with
     |zero=>exact absurd e (by simp [Bm])
     |succ n =>
      replace e:=(Bm.eq_2 (n:=n) _ _ _).symm.trans e
      replace hn:n<=n0:=by omega
      refine zz ?_
      refine wn (Ai 1 []) ⟨[(1,hX s2),(2,.fn 15 []),(6,bP false),(15,hX s1),(16,iP (s1.length:Int)),(17,iP v17),(18,bP (decide (v17<(s1.length:Int))))],[]⟩ tI ?_
      rcases Ak e with⟨hc1,e⟩|⟨hc1,e⟩
      . refine zT (test hc1) ?_
        refine zB ?_
        obtain⟨x,hx,e⟩:=Ae e
        refine wn (Ai 1 (.val (.vptr (kX x) 0)::(Ai 4 []))) ⟨[(1,hX s2),(2,.fn 15 []),(6,bP false),(7,iP v17),(8,.ptr 0 0),(15,hX s1),(16,iP (s1.length:Int)),(17,iP v17)],[(kX x)]⟩ (aI (oi hx Bw (AE x)) tI) ?_
        obtain⟨x1,hx1,e⟩:=Ae e
        refine wn (Ai 2 (.val (.vptr (kX x1) 0)::(Ai 3 []))) ⟨[(1,hX s2),(2,.fn 15 []),(6,bP false),(8,.ptr 0 0),(9,.ptr 1 0),(15,hX s1),(16,iP (s1.length:Int)),(17,iP v17)],[(kX x),(kX x1)]⟩ (aI (oi hx1 Bw (AE x1)) tI) ?_
        obtain⟨s,hs,e⟩:=Ae e
        refine wn (Ai 3 (.call (bP s)::(Ai 1 []))) ⟨[(1,hX s2),(2,.fn 15 []),(6,bP false),(15,hX s1),(16,iP (s1.length:Int)),(17,iP v17),(30,bP (!s))],[(kX x),(kX x1)]⟩ (aI (ih_parse_SameExpr n hn x x1 s hs) tI) ?_
        rcases Ak e with⟨hc,e⟩|⟨hc,e⟩
        . refine zT (test hc) ?_
          refine wn (Ai 1 []) ⟨[(1,hX s2),(2,.fn 15 []),(6,bP false),(15,hX s1),(16,iP (s1.length:Int)),(17,iP v17)],[(kX x),(kX x1)]⟩ tI ?_
          cases e
          cases h
          exact rt hQ
        . refine zF (test hc) ?_
          refine wq (Ai 2 []) ⟨[(1,hX s2),(2,.fn 15 []),(6,bP false),(15,hX s1),(16,iP (s1.length:Int)),(17,iP (IntKind.i64.wrap (v17+1)))],[(kX x),(kX x1)]⟩ tI ?_
          exact zz (AQ (n,(IntKind.i64.wrap (v17+1))) rfl ⟨hn,e⟩ (Nat.lt_succ_self _))
      . refine zF (test hc1) ?_
        try refine z5 rfl ?_
        exact zz (BN [6] 0 rfl (lb rfl) rfl (hJ () (Ac e)))
theorem FM:∀ n:Nat,(∀ m,m<=n->∀ (a_:Aa) (b:Aa) (r:Bool),Bp m a_ b=some r->FC Tryz.prog 15 [.agg (kX a_),.agg (kX b)] (bP r))/\(∀ m,m<=n->∀ (s1:(List Aa)) (s2:(List Aa)) (r:Bool),Bf m s1 s2=some r->FC Tryz.prog 34 [hX s1,hX s2,.fn 15 []] (bP r))
 |0=>⟨(fun m hm a_ b r h=>by
  obtain rfl:m=0:=by omega
  exact absurd h (by simp [Bp])),
  (fun m hm s1 s2 r h=>by
   obtain rfl:m=0:=by omega
   exact absurd h (by simp [Bf]))⟩
 |n+1=>by
  have ih:=FM n
  exact⟨fun m hm a_ b r h=>by
   cases m with
   |zero=>exact absurd h (by simp [Bp])
   |succ m=>exact VC.fin (fun Q hQ=>Jy n (ih.1) (ih.2) m (by omega) a_ b _ h Q hQ) rfl rfl,
  fun m hm s1 s2 r h=>by
   cases m with
   |zero=>exact absurd h (by simp [Bf])
   |succ m=>exact VC.fin (fun Q hQ=>Gf n (ih.1) (ih.2) m (by omega) s1 s2 _ h Q hQ) rfl rfl⟩
theorem CP (n:Nat)(a_:Aa)(b:Aa)(r:Bool)(h:Bp n a_ b=some r):FC Tryz.prog 15 [.agg (kX a_),.agg (kX b)] (bP r) :=
 (FM n).1 n (Nat.le_refl _) a_ b r h
theorem JU (n:Nat)(a_:As)(b:As)(r:Bool)(h:DE n a_ b=some r)(Q:B7->List (List PV)->Prop)(hQ:∀ y,shareP y=bP r->Q (.ret y) []) :
 VC Tryz.prog 41 [.agg (kA a_),.agg (kA b)] [] Q:=by
 unfold DE at h
 refine VC.intro ⟨[0,1,2,3,4,9,11,12,20,27],[]⟩ Tryz.func41 rfl follows Yj (by rw [Tryz.ntmps41];exact lb rfl) ?_
 refine B4 ?_
 refine zz ?_
 refine wn (Ai 3 []) ⟨[(2,.ptr 0 0),(3,.ptr 1 0),(4,bP false)],[(kA a_),(kA b)]⟩ tI ?_
 refine wn (Ai 5 []) ⟨[(2,.ptr 0 0),(3,.ptr 1 0),(4,bP false),(9,bP (a_.Kind != b.Kind))],[(kA a_),(kA b)]⟩ tI ?_
 rcases Ak h with⟨hc4,h⟩|⟨hc4,h⟩
 . refine zT (test hc4) ?_
   refine wn (Ai 1 []) ⟨[(2,.ptr 0 0),(3,.ptr 1 0),(4,bP false)],[(kA a_),(kA b)]⟩ tI ?_
   cases h
   exact rt hQ
 . refine zF (test hc4) ?_
   refine wn (Ai 2 []) ⟨[(2,.ptr 0 0),(3,.ptr 1 0),(4,bP false),(11,iP a_.Kind)],[(kA a_),(kA b)]⟩ tI ?_
   refine zB ?_
   refine wn (Ai 2 []) ⟨[(2,.ptr 0 0),(3,.ptr 1 0),(4,bP false),(11,iP a_.Kind),(12,bP (a_.Kind == 1))],[(kA a_),(kA b)]⟩ tI ?_
   obtain⟨y,e,h⟩:=Ae h
   refine AJ (A:=Bool) (fun v=>v=y) (fun v12=>⟨[(2,.ptr 0 0),(3,.ptr 1 0),(4,bP false),(11,iP a_.Kind),(12,bP v12)],[(kA a_),(kA b)]⟩) ?_ ?_
   . rintro v12 rfl
     show WS _ _ _ _ _ ⟨[(2,.ptr 0 0),(3,.ptr 1 0),(4,bP false),(11,iP a_.Kind),(12,bP v12)],[(kA a_),(kA b)]⟩
     refine zz ?_
     rcases Ak h with⟨hc2,h⟩|⟨hc2,h⟩
     . refine zT (test hc2) ?_
       refine wn (Ai 6 []) ⟨[(4,bP (decide (a_.S=b.S)))],[(kA a_),(kA b)]⟩ tI ?_
       cases h
       exact rt hQ
     . refine zF (test hc2) ?_
       refine wn (Ai 2 []) ⟨[(2,.ptr 0 0),(3,.ptr 1 0),(4,bP false),(11,iP a_.Kind),(20,bP (a_.Kind == 2))],[(kA a_),(kA b)]⟩ tI ?_
       rcases Ak h with⟨hc1,h⟩|⟨hc1,h⟩
       . refine zT (test hc1) ?_
         refine wn (Ai 6 []) ⟨[(4,bP (a_.N == b.N))],[(kA a_),(kA b)]⟩ tI ?_
         cases h
         exact rt hQ
       . refine zF (test hc1) ?_
         refine wn (Ai 2 []) ⟨[(2,.ptr 0 0),(3,.ptr 1 0),(4,bP false),(27,bP (a_.Kind == 5))],[(kA a_),(kA b)]⟩ tI ?_
         rcases Ak h with⟨hc,h⟩|⟨hc,h⟩
         . refine zT (test hc) ?_
           obtain⟨s,hs,h⟩:=Ae h
           refine wn (Ai 4 (.call (bP s)::(Ai 1 []))) ⟨[(4,bP s)],[(kA a_),(kA b)]⟩ (aI (CP n a_.E b.E s hs) tI) ?_
           cases h
           exact rt hQ
         . refine zF (test hc) ?_
           refine wn (Ai 1 []) ⟨[(4,bP true)],[(kA a_),(kA b)]⟩ tI ?_
           cases h
           exact rt hQ
   . intro hJ
     refine zz ?_
     rcases Ak e with⟨hc3,e⟩|⟨hc3,e⟩
     . refine Ap (test hc3) ?_
       exact zz (BN [2,3,4,11,12] 2 rfl (lb rfl) rfl (hJ (a_.Kind == 1) (Ac e)))
     . refine zF (test hc3) ?_
       refine wq (Ai 2 []) ⟨[(2,.ptr 0 0),(3,.ptr 1 0),(4,bP false),(11,iP a_.Kind),(12,bP (a_.Kind == 3))],[(kA a_),(kA b)]⟩ tI ?_
       exact zz (BN [2,3,4,11,12] 2 rfl (lb rfl) rfl (hJ (a_.Kind == 3) (Ac e)))
theorem Li (n:Nat)(a_:As)(b:As)(r:Bool)(h:DE n a_ b=some r):FC Tryz.prog 41 [.agg (kA a_),.agg (kA b)] (bP r):=VC.fin (fun Q hQ=>JU n a_ b _ h Q hQ) rfl rfl
theorem Gd (n:Nat)(s1:(List As))(s2:(List As))(r:Bool)(h:Cj n s1 s2=some r)(Q:B7->List (List PV)->Prop)(hQ:∀ y,shareP y=bP r->Q (.ret y) []) :
 VC Tryz.prog 40 [hA s1,hA s2,.fn 41 []] [] Q:=by
 unfold Cj at h
 refine VC.intro ⟨[0,1,2,6,7,8,9,14,15,16,17,18,30],[]⟩ Tryz.func40 rfl follows Yk (by rw [Tryz.ntmps40];exact lb rfl) ?_
 refine B4 ?_
 refine zz ?_
 refine wn (Ai 1 []) ⟨[(0,hA s1),(1,hA s2),(2,.fn 41 []),(6,bP false)],[]⟩ tI ?_
 refine wn (Ai 1 (.val (iP (s1.length:Int))::(Ai 1 (.val (iP (s2.length:Int))::(Ai 1 []))))) ⟨[(0,hA s1),(1,hA s2),(2,.fn 41 []),(6,bP false),(14,bP ((s1.length:Int) != (s2.length:Int)))],[]⟩ (aI (CV s1 Bt) (aI (CV s2 Bt) tI)) ?_
 rcases Ak h with⟨hc2,h⟩|⟨hc2,h⟩
 . refine zT (test hc2) ?_
   refine wn (Ai 1 []) ⟨[(0,hA s1),(1,hA s2),(2,.fn 41 []),(6,bP false)],[]⟩ tI ?_
   cases h
   exact rt hQ
 . refine zF (test hc2) ?_
   refine wn (Ai 1 (.val (iP (s1.length:Int))::(Ai 1 []))) ⟨[(1,hA s2),(2,.fn 41 []),(6,bP false),(15,hA s1),(16,iP (s1.length:Int)),(17,iP 0)],[]⟩ (aI (CV s1 Bt) tI) ?_
   obtain⟨y,e,h⟩:=Ae h
   refine AJ (A:=Unit) (fun v=>.inl v=y) (fun _=>⟨[(6,bP false)],[]⟩) ?_ ?_
   . rintro _ rfl
     show WS _ _ _ _ _ ⟨[(6,bP false)],[]⟩
     refine zz ?_
     refine wn (Ai 1 []) ⟨[(6,bP true)],[]⟩ tI ?_
     cases h
     exact rt hQ
   . intro hJ
     refine zz ?_
     refine zB ?_
     refine C9 [1,2,6,15,16,17] 0 (fun a:Nat×Int=>Bk a.1 s1 s2 a.2=some y) (fun a=>a.1) (fun a:Nat×Int=>match a with|(_,v17)=>⟨[(1,hA s2),(2,.fn 41 []),(6,bP false),(15,hA s1),(16,iP (s1.length:Int)),(17,iP v17)],[]⟩) (n,0) (lb rfl) rfl e ?_
     clear e
     rintro⟨n,v17⟩ e
     show WS _ _ _ _ _ ⟨[(1,hA s2),(2,.fn 41 []),(6,bP false),(15,hA s1),(16,iP (s1.length:Int)),(17,iP v17)],[]⟩
     cases n with
     |zero=>exact absurd e (by simp [Bk])
     |succ n =>
      replace e:=(Bk.eq_2 (n:=n) _ _ _).symm.trans e
      refine zz ?_
      refine wn (Ai 1 []) ⟨[(1,hA s2),(2,.fn 41 []),(6,bP false),(15,hA s1),(16,iP (s1.length:Int)),(17,iP v17),(18,bP (decide (v17<(s1.length:Int))))],[]⟩ tI ?_
      rcases Ak e with⟨hc1,e⟩|⟨hc1,e⟩
      . refine zT (test hc1) ?_
        refine zB ?_
        obtain⟨x,hx,e⟩:=Ae e
        refine wn (Ai 1 (.val (.vptr (kA x) 0)::(Ai 4 []))) ⟨[(1,hA s2),(2,.fn 41 []),(6,bP false),(7,iP v17),(8,.ptr 0 0),(15,hA s1),(16,iP (s1.length:Int)),(17,iP v17)],[(kA x)]⟩ (aI (oi hx B5 (BG x)) tI) ?_
        obtain⟨x1,hx1,e⟩:=Ae e
        refine wn (Ai 2 (.val (.vptr (kA x1) 0)::(Ai 3 []))) ⟨[(1,hA s2),(2,.fn 41 []),(6,bP false),(8,.ptr 0 0),(9,.ptr 1 0),(15,hA s1),(16,iP (s1.length:Int)),(17,iP v17)],[(kA x),(kA x1)]⟩ (aI (oi hx1 B5 (BG x1)) tI) ?_
        obtain⟨s,hs,e⟩:=Ae e
        refine wn (Ai 3 (.call (bP s)::(Ai 1 []))) ⟨[(1,hA s2),(2,.fn 41 []),(6,bP false),(15,hA s1),(16,iP (s1.length:Int)),(17,iP v17),(30,bP (!s))],[(kA x),(kA x1)]⟩ (aI (Li n x x1 s hs) tI) ?_
        rcases Ak e with⟨hc,e⟩|⟨hc,e⟩
        . refine zT (test hc) ?_
          refine wn (Ai 1 []) ⟨[(1,hA s2),(2,.fn 41 []),(6,bP false),(15,hA s1),(16,iP (s1.length:Int)),(17,iP v17)],[(kA x),(kA x1)]⟩ tI ?_
          cases e
          cases h
          exact rt hQ
        . refine zF (test hc) ?_
          refine wq (Ai 2 []) ⟨[(1,hA s2),(2,.fn 41 []),(6,bP false),(15,hA s1),(16,iP (s1.length:Int)),(17,iP (IntKind.i64.wrap (v17+1)))],[(kA x),(kA x1)]⟩ tI ?_
          exact zz (AQ (n,(IntKind.i64.wrap (v17+1))) rfl e (Nat.lt_succ_self _))
      . refine zF (test hc1) ?_
        try refine z5 rfl ?_
        exact zz (BN [6] 0 rfl (lb rfl) rfl (hJ () (Ac e)))
theorem En (n:Nat)(s1:(List As))(s2:(List As))(r:Bool)(h:Cj n s1 s2=some r):FC Tryz.prog 40 [hA s1,hA s2,.fn 41 []] (bP r):=VC.fin (fun Q hQ=>Gd n s1 s2 _ h Q hQ) rfl rfl
theorem Mz (n0:Nat)
 (ih_parse_Same:∀ m,m<=n0->∀ (a_:(List Af)) (b:(List Af)) (r:Bool),BO m a_ b=some r->FC Tryz.prog 20 [hF a_,hF b] (bP r))
 (ih_slices_EqualFunc_38_39:∀ m,m<=n0->∀ (s1:(List Af)) (s2:(List Af)) (r:Bool),Bs m s1 s2=some r->FC Tryz.prog 38 [hF s1,hF s2,.fn 39 []] (bP r))
 (ih_parse_Same_1:∀ m,m<=n0->∀ (x:Af) (y:Af) (r:Bool),C3 m x y=some r->FC Tryz.prog 39 [.agg (kF x),.agg (kF y)] (bP r))
 (n:Nat) (hn:n<=n0) (a_:(List Af)) (b:(List Af)) (r:Bool) (h:BO (n+1) a_ b=some r) (Q:B7->List (List PV)->Prop) (hQ:∀ y,shareP y=bP r->Q (.ret y) []) :
 VC Tryz.prog 20 [hF a_,hF b] [] Q:=by
 replace h:=(BO.eq_2 (n:=n) _ _).symm.trans h
 refine VC.intro ⟨[0,1,4],[]⟩ Tryz.func20 rfl follows Yu (by rw [Tryz.ntmps20];exact lb rfl) ?_
 refine B4 ?_
 refine zz ?_
 refine wn (Ai 1 []) ⟨[(0,hF a_),(1,hF b),(4,bP false)],[]⟩ tI ?_
 obtain⟨f,hf,h⟩:=Ae h
 refine wn (Ai 2 (.call (bP f)::(Ai 1 []))) ⟨[(4,bP f)],[]⟩ (aI (ih_slices_EqualFunc_38_39 n hn a_ b f hf) tI) ?_
 cases h
 exact rt hQ
theorem Ge (n0:Nat)
 (ih_parse_Same:∀ m,m<=n0->∀ (a_:(List Af)) (b:(List Af)) (r:Bool),BO m a_ b=some r->FC Tryz.prog 20 [hF a_,hF b] (bP r))
 (ih_slices_EqualFunc_38_39:∀ m,m<=n0->∀ (s1:(List Af)) (s2:(List Af)) (r:Bool),Bs m s1 s2=some r->FC Tryz.prog 38 [hF s1,hF s2,.fn 39 []] (bP r))
 (ih_parse_Same_1:∀ m,m<=n0->∀ (x:Af) (y:Af) (r:Bool),C3 m x y=some r->FC Tryz.prog 39 [.agg (kF x),.agg (kF y)] (bP r))
 (n:Nat) (hn:n<=n0) (s1:(List Af)) (s2:(List Af)) (r:Bool) (h:Bs (n+1) s1 s2=some r) (Q:B7->List (List PV)->Prop) (hQ:∀ y,shareP y=bP r->Q (.ret y) []) :
 VC Tryz.prog 38 [hF s1,hF s2,.fn 39 []] [] Q:=by
 replace h:=(Bs.eq_2 (n:=n) _ _).symm.trans h
 refine VC.intro ⟨[0,1,2,6,7,8,9,14,15,16,17,18,30],[]⟩ Tryz.func38 rfl follows Ym (by rw [Tryz.ntmps38];exact lb rfl) ?_
 refine B4 ?_
 refine zz ?_
 refine wn (Ai 1 []) ⟨[(0,hF s1),(1,hF s2),(2,.fn 39 []),(6,bP false)],[]⟩ tI ?_
 refine wn (Ai 1 (.val (iP (s1.length:Int))::(Ai 1 (.val (iP (s2.length:Int))::(Ai 1 []))))) ⟨[(0,hF s1),(1,hF s2),(2,.fn 39 []),(6,bP false),(14,bP ((s1.length:Int) != (s2.length:Int)))],[]⟩ (aI (CV s1 AD) (aI (CV s2 AD) tI)) ?_
 rcases Ak h with⟨hc2,h⟩|⟨hc2,h⟩
 . refine zT (test hc2) ?_
   refine wn (Ai 1 []) ⟨[(0,hF s1),(1,hF s2),(2,.fn 39 []),(6,bP false)],[]⟩ tI ?_
   cases h
   exact rt hQ
 . refine zF (test hc2) ?_
   refine wn (Ai 1 (.val (iP (s1.length:Int))::(Ai 1 []))) ⟨[(1,hF s2),(2,.fn 39 []),(6,bP false),(15,hF s1),(16,iP (s1.length:Int)),(17,iP 0)],[]⟩ (aI (CV s1 AD) tI) ?_
   obtain⟨y,e,h⟩:=Ae h
   refine AJ (A:=Unit) (fun v=>.inl v=y) (fun _=>⟨[(6,bP false)],[]⟩) ?_ ?_
   . rintro _ rfl
     show WS _ _ _ _ _ ⟨[(6,bP false)],[]⟩
     refine zz ?_
     refine wn (Ai 1 []) ⟨[(6,bP true)],[]⟩ tI ?_
     cases h
     exact rt hQ
   . intro hJ
     refine zz ?_
     refine zB ?_
     refine C9 [1,2,6,15,16,17] 0 (fun a:Nat×Int=>a.1<=n0/\Bl a.1 s1 s2 a.2=some y) (fun a=>a.1) (fun a:Nat×Int=>match a with|(_,v17)=>⟨[(1,hF s2),(2,.fn 39 []),(6,bP false),(15,hF s1),(16,iP (s1.length:Int)),(17,iP v17)],[]⟩) (n,0) (lb rfl) rfl ⟨hn,e⟩ ?_
     clear e hn
     rintro⟨n,v17⟩ ⟨hn,e⟩
     show WS _ _ _ _ _ ⟨[(1,hF s2),(2,.fn 39 []),(6,bP false),(15,hF s1),(16,iP (s1.length:Int)),(17,iP v17)],[]⟩
     cases n with
     |zero=>exact absurd e (by simp [Bl])
     |succ n =>
      replace e:=(Bl.eq_2 (n:=n) _ _ _).symm.trans e
      replace hn:n<=n0:=by omega
      refine zz ?_
      refine wn (Ai 1 []) ⟨[(1,hF s2),(2,.fn 39 []),(6,bP false),(15,hF s1),(16,iP (s1.length:Int)),(17,iP v17),(18,bP (decide (v17<(s1.length:Int))))],[]⟩ tI ?_
      rcases Ak e with⟨hc1,e⟩|⟨hc1,e⟩
      . refine zT (test hc1) ?_
        refine zB ?_
        obtain⟨x,hx,e⟩:=Ae e
        refine wn (Ai 1 (.val (.vptr (kF x) 0)::(Ai 4 []))) ⟨[(1,hF s2),(2,.fn 39 []),(6,bP false),(7,iP v17),(8,.ptr 0 0),(15,hF s1),(16,iP (s1.length:Int)),(17,iP v17)],[(kF x)]⟩ (aI (oi hx Az (A4 x)) tI) ?_
        obtain⟨x1,hx1,e⟩:=Ae e
        refine wn (Ai 2 (.val (.vptr (kF x1) 0)::(Ai 3 []))) ⟨[(1,hF s2),(2,.fn 39 []),(6,bP false),(8,.ptr 0 0),(9,.ptr 1 0),(15,hF s1),(16,iP (s1.length:Int)),(17,iP v17)],[(kF x),(kF x1)]⟩ (aI (oi hx1 Az (A4 x1)) tI) ?_
        obtain⟨s,hs,e⟩:=Ae e
        refine wn (Ai 3 (.call (bP s)::(Ai 1 []))) ⟨[(1,hF s2),(2,.fn 39 []),(6,bP false),(15,hF s1),(16,iP (s1.length:Int)),(17,iP v17),(30,bP (!s))],[(kF x),(kF x1)]⟩ (aI (ih_parse_Same_1 n hn x x1 s hs) tI) ?_
        rcases Ak e with⟨hc,e⟩|⟨hc,e⟩
        . refine zT (test hc) ?_
          refine wn (Ai 1 []) ⟨[(1,hF s2),(2,.fn 39 []),(6,bP false),(15,hF s1),(16,iP (s1.length:Int)),(17,iP v17)],[(kF x),(kF x1)]⟩ tI ?_
          cases e
          cases h
          exact rt hQ
        . refine zF (test hc) ?_
          refine wq (Ai 2 []) ⟨[(1,hF s2),(2,.fn 39 []),(6,bP false),(15,hF s1),(16,iP (s1.length:Int)),(17,iP (IntKind.i64.wrap (v17+1)))],[(kF x),(kF x1)]⟩ tI ?_
          exact zz (AQ (n,(IntKind.i64.wrap (v17+1))) rfl ⟨hn,e⟩ (Nat.lt_succ_self _))
      . refine zF (test hc1) ?_
        try refine z5 rfl ?_
        exact zz (BN [6] 0 rfl (lb rfl) rfl (hJ () (Ac e)))
theorem KJ (n0:Nat)
 (ih_parse_Same:∀ m,m<=n0->∀ (a_:(List Af)) (b:(List Af)) (r:Bool),BO m a_ b=some r->FC Tryz.prog 20 [hF a_,hF b] (bP r))
 (ih_slices_EqualFunc_38_39:∀ m,m<=n0->∀ (s1:(List Af)) (s2:(List Af)) (r:Bool),Bs m s1 s2=some r->FC Tryz.prog 38 [hF s1,hF s2,.fn 39 []] (bP r))
 (ih_parse_Same_1:∀ m,m<=n0->∀ (x:Af) (y:Af) (r:Bool),C3 m x y=some r->FC Tryz.prog 39 [.agg (kF x),.agg (kF y)] (bP r))
 (n:Nat) (hn:n<=n0) (x:Af) (y:Af) (r:Bool) (h:C3 (n+1) x y=some r) (Q:B7->List (List PV)->Prop) (hQ:∀ y,shareP y=bP r->Q (.ret y) []) :
 VC Tryz.prog 39 [.agg (kF x),.agg (kF y)] [] Q:=by
 replace h:=(C3.eq_2 (n:=n) _ _).symm.trans h
 refine VC.intro ⟨[0,1,2,3,4],[]⟩ Tryz.func39 rfl follows Yl (by rw [Tryz.ntmps39];exact lb rfl) ?_
 refine B4 ?_
 refine zz ?_
 refine wn (Ai 3 []) ⟨[(2,.ptr 0 0),(3,.ptr 1 0),(4,bP false)],[(kF x),(kF y)]⟩ tI ?_
 obtain⟨y1,e,h⟩:=Ae h
 refine AJ (A:=Bool) (fun v=>v=y1) (fun v4=>⟨[(4,bP v4)],[(kF x),(kF y)]⟩) ?_ ?_
 . rintro v4 rfl
   show WS _ _ _ _ _ ⟨[(4,bP v4)],[(kF x),(kF y)]⟩
   refine zz ?_
   cases h
   exact rt hQ
 . intro hJ
   rcases Ak e with⟨hc,e⟩|⟨hc,e⟩
   . obtain⟨a_,ha_,e⟩:=Ae e
     rcases Ak e with⟨hc1,e⟩|⟨hc1,e⟩
     . obtain⟨s,hs,e⟩:=Ae e
       exact wq (Ai 5 (yT::(Ai 4 (.call (bP a_)::(Ai 1 (yT::(Ai 4 (.call (bP s)::(Ai 2 []))))))))) _ (aI (Aw hc) (aI (En n x.Args y.Args a_ ha_) (aI (Aw hc1) (aI (ih_parse_Same n hn x.Body y.Body s hs) tI)))) (hJ s (Ac e))
     . exact wq (Ai 5 (yT::(Ai 4 (.call (bP a_)::(Ai 1 (yF::(Ai 7 []))))))) _ (aI (Aw hc) (aI (En n x.Args y.Args a_ ha_) (aI (Aw hc1) tI))) (hJ false (Ac e))
   . exact wq (Ai 5 (yF::(Ai 14 []))) _ (aI (Aw hc) tI) (hJ false (Ac e))
theorem Ia:∀ n:Nat,(∀ m,m<=n->∀ (a_:(List Af)) (b:(List Af)) (r:Bool),BO m a_ b=some r->FC Tryz.prog 20 [hF a_,hF b] (bP r))/\(∀ m,m<=n->∀ (s1:(List Af)) (s2:(List Af)) (r:Bool),Bs m s1 s2=some r->FC Tryz.prog 38 [hF s1,hF s2,.fn 39 []] (bP r))/\(∀ m,m<=n->∀ (x:Af) (y:Af) (r:Bool),C3 m x y=some r->FC Tryz.prog 39 [.agg (kF x),.agg (kF y)] (bP r))
 |0=>⟨(fun m hm a_ b r h=>by
  obtain rfl:m=0:=by omega
  exact absurd h (by simp [BO])),
  (fun m hm s1 s2 r h=>by
   obtain rfl:m=0:=by omega
   exact absurd h (by simp [Bs])),
  (fun m hm x y r h=>by
   obtain rfl:m=0:=by omega
   exact absurd h (by simp [C3]))⟩
 |n+1=>by
  have ih:=Ia n
  exact⟨fun m hm a_ b r h=>by
   cases m with
   |zero=>exact absurd h (by simp [BO])
   |succ m=>exact VC.fin (fun Q hQ=>Mz n (ih.1) (ih.2.1) (ih.2.2) m (by omega) a_ b _ h Q hQ) rfl rfl,
  fun m hm s1 s2 r h=>by
   cases m with
   |zero=>exact absurd h (by simp [Bs])
   |succ m=>exact VC.fin (fun Q hQ=>Ge n (ih.1) (ih.2.1) (ih.2.2) m (by omega) s1 s2 _ h Q hQ) rfl rfl,
  fun m hm x y r h=>by
   cases m with
   |zero=>exact absurd h (by simp [C3])
   |succ m=>exact VC.fin (fun Q hQ=>KJ n (ih.1) (ih.2.1) (ih.2.2) m (by omega) x y _ h Q hQ) rfl rfl⟩
theorem Gk (n:Nat)(a_:(List Af))(b:(List Af))(r:Bool)(h:BO n a_ b=some r):FC Tryz.prog 20 [hF a_,hF b] (bP r) :=
 (Ia n).1 n (Nat.le_refl _) a_ b r h
end Go.Proofs.YtgdalmleogphgaaGreatDoor
