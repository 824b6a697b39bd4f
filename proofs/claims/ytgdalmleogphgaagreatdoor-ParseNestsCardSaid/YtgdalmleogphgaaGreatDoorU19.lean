/-
  The program's comparison of expressions: it finds the same what is the same but for offsets. No program.
-/
import Derived.Test.YtgdalmleogphgaaGreatDoorU13
import Derived.Test.YtgdalmleogphgaaGreatDoorU18
namespace Go.Sp
open Go
theorem stL_eq:∀ l:List api_Expr,stL l=l.map stE
 | []=>rfl
 |x::l=>by rw [List.map_cons,<- stL_eq l];rfl
theorem stL_at {l l':List api_Expr}(h:stL l=stL l'){j:Nat}(h1:j<l.length)(h2:j<l'.length):stE l[j]=stE l'[j]:=by
 have e:(l.map stE)[j]?=(l'.map stE)[j]?:=by rw [<- stL_eq,<- stL_eq,h]
 rw [List.getElem?_map,List.getElem?_map,List.getElem?_eq_getElem h1,List.getElem?_eq_getElem h2] at e
 exact Option.some.inj e
theorem psame {x:api_Expr}(h:FineE x):∀ y,stE x=stE y->Ev (fun n=>parse_SameExpr n x y) true:=by
 induction h with
 |mk x hl _ ih =>
  intro y e
  obtain⟨p1,p2,p3,p4⟩:=stE_parts e
  have hlen:x.Kids.length=y.Kids.length:=by rw [<- stL_len x.Kids,p4,stL_len]
  have loop:∀ (r j:Nat),x.Kids.length-j<=r->j<=x.Kids.length->Ev (fun n=>slices_EqualFunc_34_15_l1 n x.Kids y.Kids (j:Int)) (.inl ()):=by
   intro r
   induction r with
   |zero =>
    intro j h1 h2
    refine Ev.step (fun n=>slices_EqualFunc_34_15_l1.eq_2 (n:=n) _ _ _) (Ev.of fun n=>?_)
    rw [decide_eq_false (by omega)];rfl
   |succ r ihr =>
    intro j h1 h2
    by_cases h3:j<x.Kids.length
    . refine Ev.step (fun n=>slices_EqualFunc_34_15_l1.eq_2 (n:=n) _ _ _) ?_
      simp only [decide_eq_true (show (j:Int)<(x.Kids.length:Int) by omega),cond_true,gi_lt h3,gi_lt (show j<y.Kids.length by omega),Option.bind_some,wrapJ h3 hl]
      exact Ev.bind (ih _ (List.getElem_mem h3) _ (stL_at p4 h3 (by omega))) (by simp only [Bool.not_true,cond_false];exact ihr (j+1) (by omega) (by omega))
    . refine Ev.step (fun n=>slices_EqualFunc_34_15_l1.eq_2 (n:=n) _ _ _) (Ev.of fun n=>?_)
      rw [decide_eq_false (by omega)];rfl
  have all:Ev (fun n=>slices_EqualFunc_34_15 n x.Kids y.Kids) true:=by
   refine Ev.step (fun n=>slices_EqualFunc_34_15.eq_2 (n:=n) _ _) ?_
   simp only [hlen,bne_self_eq_false,cond_false]
   exact Ev.bind (loop x.Kids.length 0 (by omega) (by omega)) Ev.pure
  refine Ev.step (fun n=>parse_SameExpr.eq_2 (n:=n) _ _) ?_
  simp only [p1,p2,p3,bne_self_eq_false,decide_true,Bool.not_true,cond_false,beq_self_eq_true]
  have hb:∃ v,(bif y.Op == 2 then some (y.Op == 2) else some (y.Op == 3):Option Bool)=some v:=by
   cases y.Op == 2<;>exact⟨_,rfl⟩
  obtain⟨v,hv⟩:=hb
  simp only [hv,Option.bind_some]
  cases y.Op == 1 with
  |true=>exact Ev.pure
  |false =>
   cases v with
   |true=>exact Ev.pure
   |false =>
    simp only [cond_false,Bool.cond_self]
    exact Ev.bind all Ev.pure
theorem fits_ev {p:api_Problem}{got want:api_Expr}(hf:FineE got)(h:p.E=2∨p.E=0/\stE got=stE want):Ev (fun n=>law32_fits n p got want) true:=by
 unfold law32_fits
 rcases h with h|⟨h,h2⟩
 . simp only [h,beq_self_eq_true,cond_true]
   exact Ev.bind Ev.pure Ev.pure
 . simp only [h,show ((0:Int) == 2)=false from rfl,show ((0:Int) == 0)=true from rfl,cond_true,cond_false]
   exact Ev.bind (Ev.bind (psame hf _ h2) Ev.pure) Ev.pure
end Go.Sp
