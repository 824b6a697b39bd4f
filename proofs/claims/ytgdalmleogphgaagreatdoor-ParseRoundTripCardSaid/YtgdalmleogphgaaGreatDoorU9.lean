/-
  The reference's parser answers: expressions. No program.
-/
import Derived.Test.YtgdalmleogphgaaGreatDoorU8
namespace Go.Sp
open Go
def DQ (L:List Ab)(k:Int)(F:Nat->Option A0):Prop:=∃ g,Ev F g/\(∃ t',gi L g.To=some t')/\(g.E=0->k<g.To)
structure JM (L:List Ab) (k:Int):Prop where
 E:∀ d,DQ L k (fun n=>AI n L k d)
 B:∀ lv d,1<=lv->lv<=7->DQ L k (fun n=>A1 n L k lv d)
 G:∀ d,DQ L k (fun n=>BE n L k d)
 M:∀ d,DQ L k (fun n=>Bu n L k d)
theorem DQ.fail {L:List Ab}{k:Int}{F:Nat->Option A0}{g:A0}{t:Ab}(h:Ev F g)(ht:gi L g.To=some t)(he:g.E≠0):DQ L k F:=⟨g,h,⟨t,ht⟩,fun e=>absurd e he⟩
section
variable {L:List Ab} (hL:Hs L)
include hL
theorem O8 {lv d:Int}(hlv:1<=lv/\lv<=6/\lv≠3){x:A0}(k0:Int)(hE:∀ k t,gi L k=some t->k0<k->JM L k) :
 ∀ (r:Nat) (a b:Int) (c:ByteArray) (e:List Aa) (to:Int) (t:Ab),gi L to=some t->k0<to->(L.length:Int)-to<=r ->
  DQ L k0 (fun n=>(AF n L lv x d a b c e to 0).bind (fun y=>match y with
   |.inl (x1,x2,x3,x4,x5,x6)=>some (A0.mk (Aa.mk x1 x2 x3 x4 x.X.At) x5 x6)
   |.inr o=>some o))
 |0,a,b,c,e,to,t,ht,h0,hr=>by
  have:=(Am ht).2;omega
 |r+1,a,b,c,e,to,t,ht,h0,hr=>by
  have wl:IntKind.i64.wrap (lv+1)=lv+1:=by rw [A3]<;>omega
  have start:∀ g,Ev (fun n=>((bif ((EO t).N != lv) then
   some (.inr (A0.mk (Aa.mk a b c e x.X.At) to 0))
   else
    (A1 n L (IntKind.i64.wrap (to+1)) (lv+1) d).bind fun y1 =>
    bif (y1.E != 0) then
     some (.inr y1)
    else
     (some [(Aa.mk a b c e x.X.At),y1.X]).bind fun l1 =>
     bif (lv == 4) then
      some (.inr (A0.mk (Aa.mk (EO t).Op 0 ⟨#[]⟩ l1 x.X.At) y1.To 0))
     else
      AF n L lv x d (EO t).Op 0 ⟨#[]⟩ l1 y1.To 0):Option ((Int×Int×ByteArray×(List Aa)×Int×Int) ⊕ A0)).bind (fun y=>match y with
   |.inl (x1,x2,x3,x4,x5,x6)=>some (A0.mk (Aa.mk x1 x2 x3 x4 x.X.At) x5 x6)
   |.inr o=>some o)) g->Ev (fun n=>(AF n L lv x d a b c e to 0).bind (fun y=>match y with
   |.inl (x1,x2,x3,x4,x5,x6)=>some (A0.mk (Aa.mk x1 x2 x3 x4 x.X.At) x5 x6)
   |.inr o=>some o)) g:=by
   rintro g ⟨N,hg⟩
   obtain⟨M,hM⟩:=LS ht
   refine⟨max N M+1,fun n hn=>?_⟩
   obtain⟨n,rfl⟩:∃ m,n=m+1:=⟨n-1,by omega⟩
   have h1:=hg n (by omega)
   have h2:=hM n (by omega)
   simp only at h1 h2 ⊢
   rw [AF.eq_2,h2]
   simp only [beq_self_eq_true,cond_true,Option.bind_some,wl]
   exact h1
  by_cases hN:(EO t).N=lv
  . have hb:((EO t).N != lv)=false:=by simpa using hN
    have htn:t.Kind≠5:=by
     intro h5
     have:∀ (z:List (ByteArray×Int)) (j:Nat),(Er t z j).N=0:=by
      intro z
      induction z with
      |nil=>intro j;rfl
      |cons y z ih =>
       intro j
       show (if isS t y.1=true then (⟨y.2,7+(j:Int)⟩:BH) else Er t z (j+1)).N=0
       rw [if_neg (by unfold isS;rw [h5];simp)];exact ih _
     have:=this SZ 0
     have h9:(EO t).N=0:=this
     omega
    obtain⟨t1,ht1⟩:=hL.next _ _ ht htn
    have hk:=Am ht
    obtain⟨g1,hg1,⟨t2,ht2⟩,hlt⟩:=(hE (to+1) t1 ht1 (by omega)).B (lv+1) d (by omega) (by omega)
    have e1:∀ g,Ev (fun n=>((bif (g1.E != 0) then
     some (.inr g1)
     else
      (some [(Aa.mk a b c e x.X.At),g1.X]).bind fun l1 =>
      bif (lv == 4) then
       some (.inr (A0.mk (Aa.mk (EO t).Op 0 ⟨#[]⟩ l1 x.X.At) g1.To 0))
      else
       AF n L lv x d (EO t).Op 0 ⟨#[]⟩ l1 g1.To 0):Option ((Int×Int×ByteArray×(List Aa)×Int×Int) ⊕ A0)).bind (fun y=>match y with
     |.inl (x1,x2,x3,x4,x5,x6)=>some (A0.mk (Aa.mk x1 x2 x3 x4 x.X.At) x5 x6)
     |.inr o=>some o)) g->Ev (fun n=>(AF n L lv x d a b c e to 0).bind (fun y=>match y with
     |.inl (x1,x2,x3,x4,x5,x6)=>some (A0.mk (Aa.mk x1 x2 x3 x4 x.X.At) x5 x6)
     |.inr o=>some o)) g:=by
     rintro g ⟨N,hg⟩
     obtain⟨M,hM⟩:=hg1
     refine start g ⟨max N M,fun n hn=>?_⟩
     have h1:=hg n (by omega)
     have h2:=hM n (by omega)
     simp only at h1 h2 ⊢
     rw [hb,C2 hL ht]
     simp only [cond_false,h2,Option.bind_some]
     exact h1
    by_cases he:g1.E=0
    . have hb2:(g1.E != 0)=false:=by simpa using he
      rw [hb2] at e1
      simp only [cond_false,Option.bind_some] at e1
      by_cases h4:lv=4
      . have hb4:(lv == 4)=true:=by simpa using h4
        rw [hb4] at e1
        refine⟨⟨⟨(EO t).Op,0,⟨#[]⟩,[Aa.mk a b c e x.X.At,g1.X],x.X.At⟩,g1.To,0⟩,e1 _ ?_,⟨t2,ht2⟩,fun _=>?_⟩
        . simp only [cond_true,Option.bind_some];exact Ev.pure
        . have:=hlt he;show k0<g1.To;omega
      . have hb4:(lv == 4)=false:=by simpa using h4
        rw [hb4] at e1
        have:=hlt he
        obtain⟨g2,hg2,hr2⟩:=O8 hlv k0 hE r (EO t).Op 0 ⟨#[]⟩ [Aa.mk a b c e x.X.At,g1.X] g1.To t2 ht2 (by omega) (by omega)
        exact⟨g2,e1 g2 (by simp only [cond_false];exact hg2),hr2⟩
    . have hb2:(g1.E != 0)=true:=by simpa using he
      rw [hb2] at e1
      exact DQ.fail (e1 g1 (by simp only [cond_true,Option.bind_some];exact Ev.pure)) ht2 he
  . have hb:((EO t).N != lv)=true:=by simpa using hN
    rw [hb] at start
    exact⟨_,start _ (by simp only [cond_true,Option.bind_some];exact Ev.pure),⟨t,ht⟩,fun _=>h0⟩
omit hL in
theorem DQ.step {k:Int}{F G:Nat->Option A0}(e:∀ n,F (n+1)=G n):DQ L k G->DQ L k F
 |⟨g,h,r⟩=>⟨g,Ev.step e h,r⟩
omit hL in
theorem DQ.pan {k:Int}{g:A0}{t:Ab}(ht:gi L g.To=some t)(he:g.E≠0):DQ L k (fun _=>some g):=DQ.fail Ev.pure ht he
omit hL in
theorem DQ.ok {k:Int}{g:A0}{t:Ab}(ht:gi L g.To=some t)(hk:k<g.To):DQ L k (fun _=>some g):=⟨g,Ev.pure,⟨t,ht⟩,fun _=>hk⟩
omit hL in
theorem DQ.id {k:Int}{F:Nat->Option A0}(h:DQ L k F):DQ L k (fun n=>(F n).bind fun x=>some x):=by
 obtain⟨g,h,r⟩:=h
 exact⟨g,Ev.bind h Ev.pure,r⟩
omit hL in
theorem DQ.got {k k':Int}{F:Nat->Option A0}{K:Nat->A0->Option A0}(h:DQ L k' F)
 (hK:∀ g t,gi L g.To=some t->g.E=0->k'<g.To->DQ L k (fun n=>K n g)):DQ L k (fun n=>(F n).bind fun g=>bif (g.E != 0) then some g else K n g):=by
 obtain⟨g,h,⟨t,ht⟩,hk⟩:=h
 by_cases he:g.E=0
 . obtain⟨g2,h2,r⟩:=hK g t ht he (hk he)
   refine⟨g2,Ev.bind h ?_,r⟩
   refine h2.congr fun n=>?_
   rw [show (g.E != 0)=false by simpa using he];rfl
 . refine⟨g,Ev.bind h ?_,⟨t,ht⟩,fun e=>absurd e he⟩
   refine Ev.of fun n=>?_
   rw [show (g.E != 0)=true by simpa using he];rfl
theorem nx {k:Int}{t:Ab}(ht:gi L k=some t)(h5:t.Kind≠5):∃ t',gi L (k+1)=some t':=hL.next _ _ ht h5
theorem QM {k:Int}{t:Ab}{s:ByteArray}(ht:gi L k=some t)(h5:isS t s=true):∃ t',gi L (k+1)=some t':=hL.next _ _ ht (by rw [D7 h5];decide)
theorem X6 {k:Int}{t:Ab}(ht:gi L k=some t)(hA:∀ d,DQ L k (fun n=>B0 n L k d))(hE:∀ k' t',gi L k'=some t'->k<k'->JM L k')(d:Int):DQ L k (fun n=>Bu n L k d):=by
 refine DQ.step (fun n=>Bu.eq_2 (n:=n) _ _ _) ?_
 simp only [AG ht,Option.bind_some,C2 hL ht]
 by_cases c:isS t ⟨#[45]⟩=true
 . obtain⟨t1,ht1⟩:=QM hL ht c
   have c':(t.Kind == 4&&decide (t.S=⟨#[45]⟩))=true:=c
   simp only [c',Bool.not_true,cond_false,CC ht1,Option.bind_some]
   by_cases c2:fst t1 (IntKind.i64.wrap (d+1)) false=0
   . simp only [show (fst t1 (IntKind.i64.wrap (d+1)) false != 0)=false by simpa using c2,cond_false]
     refine DQ.got ((hE _ _ ht1 (by omega)).M _) fun g t2 ht2 _ hk=>?_
     simp only [ht,Option.bind_some]
     exact DQ.ok ht2 (by show k<g.To;omega)
   . simp only [show (fst t1 (IntKind.i64.wrap (d+1)) false != 0)=true by simpa using c2,cond_true]
     exact DQ.pan ht1 c2
 . have c':(t.Kind == 4&&decide (t.S=⟨#[45]⟩))=false:=by simpa [isS] using c
   simp only [c',Bool.not_false,cond_true]
   exact (hA d).id
theorem X7 {k:Int}{t:Ab}(ht:gi L k=some t)(hB:∀ d,DQ L k (fun n=>A1 n L k 4 d))(hE:∀ k' t',gi L k'=some t'->k<k'->JM L k')(d:Int):DQ L k (fun n=>BE n L k d):=by
 refine DQ.step (fun n=>BE.eq_2 (n:=n) _ _ _) ?_
 simp only [AG ht,Option.bind_some,C2 hL ht]
 by_cases c:isS t ⟨#[33]⟩=true
 . obtain⟨t1,ht1⟩:=QM hL ht c
   have c':(t.Kind == 4&&decide (t.S=⟨#[33]⟩))=true:=c
   simp only [c',Bool.not_true,cond_false,CC ht1,Option.bind_some]
   by_cases c2:fst t1 (IntKind.i64.wrap (d+1)) true=0
   . simp only [show (fst t1 (IntKind.i64.wrap (d+1)) true != 0)=false by simpa using c2,cond_false]
     refine DQ.got ((hE _ _ ht1 (by omega)).G _) fun g t2 ht2 _ hk=>?_
     simp only [ht,Option.bind_some]
     exact DQ.ok ht2 (by show k<g.To;omega)
   . simp only [show (fst t1 (IntKind.i64.wrap (d+1)) true != 0)=true by simpa using c2,cond_true]
     exact DQ.pan ht1 c2
 . have c':(t.Kind == 4&&decide (t.S=⟨#[33]⟩))=false:=by simpa [isS] using c
   simp only [c',Bool.not_false,cond_true]
   exact (hB d).id
theorem S4 {k lv:Int}(hlv:1<=lv/\lv<=6/\lv≠3)(hB:∀ d,DQ L k (fun n=>A1 n L k (lv+1) d))(hE:∀ k' t',gi L k'=some t'->k<k'->JM L k')(d:Int):DQ L k (fun n=>A1 n L k lv d):=by
 have wl:IntKind.i64.wrap (lv+1)=lv+1:=by rw [A3]<;>omega
 refine DQ.step (fun n=>A1.eq_2 (n:=n) _ _ _ _) ?_
 simp only [show decide (6<lv)=false by simpa using hlv.2.1,show (lv == 3)=false by simpa using hlv.2.2,cond_false,wl]
 obtain⟨x,hx,⟨t1,ht1⟩,hk⟩:=hB d
 by_cases he:x.E=0
 . obtain⟨g,hg,r⟩:=O8 hL (d:=d) (x:=x) hlv k hE (L.length-x.To.toNat) x.X.Op x.X.N x.X.S x.X.Kids x.To t1 ht1 (hk he) (by have:=Am ht1;omega)
   rw [<- he] at hg
   exact⟨g,Ev.bind hx hg,r⟩
 . refine⟨⟨⟨x.X.Op,x.X.N,x.X.S,x.X.Kids,x.X.At⟩,x.To,x.E⟩,Ev.bind hx ?_,⟨t1,ht1⟩,fun e=>absurd e he⟩
   refine Ev.step (fun n=>rfl) (f:=fun n=>_) ?_
   simp only [AF.eq_2,show (x.E == 0)=false by simpa using he,cond_false,Option.bind_some]
   exact Ev.pure
theorem X8 {k:Int}{t:Ab}(ht:gi L k=some t)(hB:∀ d,DQ L k (fun n=>A1 n L k 1 d))(hE:∀ k' t',gi L k'=some t'->k<k'->JM L k')(d:Int):DQ L k (fun n=>AI n L k d):=by
 refine DQ.step (fun n=>AI.eq_2 (n:=n) _ _ _) ?_
 simp only [CC ht,Option.bind_some]
 by_cases c2:fst t d true=0
 . simp only [show (fst t d true != 0)=false by simpa using c2,cond_false]
   refine DQ.got (hB d) fun c t1 ht1 he hk=>?_
   simp only [AG ht1,Option.bind_some,C2 hL ht1]
   by_cases c3:isS t1 ⟨#[63]⟩=true
   . have c':(t1.Kind == 4&&decide (t1.S=⟨#[63]⟩))=true:=c3
     simp only [c',Bool.not_true,cond_false]
     obtain⟨t2,ht2⟩:=QM hL ht1 c3
     refine DQ.got ((hE _ _ ht2 (by omega)).E _) fun a t3 ht3 _ hk2=>?_
     simp only [AG ht3,Option.bind_some,C2 hL ht3]
     by_cases c4:isS t3 ⟨#[58]⟩=true
     . have c':(t3.Kind == 4&&decide (t3.S=⟨#[58]⟩))=true:=c4
       simp only [c',Bool.not_true,cond_false]
       obtain⟨t4,ht4⟩:=QM hL ht3 c4
       refine DQ.got ((hE _ _ ht4 (by omega)).E _) fun b t5 ht5 _ hk3=>?_
       exact DQ.ok ht5 (by show k<b.To;omega)
     . have c':(t3.Kind == 4&&decide (t3.S=⟨#[58]⟩))=false:=by simpa [isS] using c4
       simp only [c',Bool.not_false,cond_true]
       exact DQ.pan ht3 (show (5:Int)≠0 by decide)
   . have c':(t1.Kind == 4&&decide (t1.S=⟨#[63]⟩))=false:=by simpa [isS] using c3
     simp only [c',Bool.not_false,cond_true]
     exact DQ.ok ht1 hk
 . simp only [show (fst t d true != 0)=true by simpa using c2,cond_true]
   exact DQ.pan ht c2
omit hL in
theorem FT {α:Type}{b:Nat}{x:List α}{y:α}{m:Int}(h:(x.length:Int)<=m)(hm:m<=1000000)(hb:b<=1000):CO b x [y]=some (x++[y]):=by
 unfold CO
 rw [if_pos]
 have:(x.length+1)*b<=1000001*1000:=Nat.mul_le_mul (by omega) hb
 show (x.length+1)*b<=_
 omega
theorem Q1 {k0 d:Int}{x:Ab}(hE:∀ k' t',gi L k'=some t'->k0<k'->JM L k'):∀ (r:Nat) (k:Int) (out:List Aa) (t:Ab),gi L k=some t->k0<k->(out.length:Int)<=k->(L.length:Int)-k<=r->DQ L k0 (fun n=>B3 n L d x k out)
 |0,k,out,t,ht,h0,ho,hr=>by have:=(Am ht).2;omega
 |r+1,k,out,t,ht,h0,ho,hr=>by
  have hk:=(Am ht).2
  have hl:=hL.len
  refine DQ.step (fun n=>B3.eq_2 (n:=n) _ _ _ _ _) ?_
  simp only [CC ht,Option.bind_some]
  obtain⟨v,hv⟩:∃ v:Bool,(bif (fst t (IntKind.i64.wrap (d+1)) true == 0) then bif ((out.length:Int) == 40) then some true else some (fst t (IntKind.i64.wrap (d+1)) true == 2) else some (fst t (IntKind.i64.wrap (d+1)) true == 2))=some v:=by
   cases (fst t (IntKind.i64.wrap (d+1)) true == 0)<;>cases ((out.length:Int) == 40)<;>exact⟨_,rfl⟩
  simp only [hv,Option.bind_some]
  cases v with
  |true =>
   simp only [cond_true]
   exact DQ.pan ht (show (2:Int)≠0 by decide)
  |false =>
   simp only [cond_false]
   refine DQ.got ((hE _ _ ht h0).E _) fun g t1 ht1 _ hg=>?_
   have hk1:=(Am ht1).2
   simp only [AG ht1,FT (b:=65) (y:=g.X) ho (by omega) (by decide),Option.bind_some,C2 hL ht1]
   by_cases c:isS t1 ⟨#[41]⟩=true
   . have c':(t1.Kind == 4&&decide (t1.S=⟨#[41]⟩))=true:=c
     obtain⟨t2,ht2⟩:=QM hL ht1 c
     simp only [c',cond_true]
     exact DQ.ok ht2 (by show k0<g.To+1;omega)
   . have c':(t1.Kind == 4&&decide (t1.S=⟨#[41]⟩))=false:=by simpa [isS] using c
     simp only [c',cond_false]
     by_cases c2:isS t1 ⟨#[44]⟩=true
     . have c2':(t1.Kind == 4&&decide (t1.S=⟨#[44]⟩))=true:=c2
       obtain⟨t2,ht2⟩:=QM hL ht1 c2
       simp only [c2',Bool.not_true,cond_false]
       exact Q1 hE r (g.To+1) _ t2 ht2 (by omega) (by simp;omega) (by omega)
     . have c2':(t1.Kind == 4&&decide (t1.S=⟨#[44]⟩))=false:=by simpa [isS] using c2
       simp only [c2',Bool.not_false,cond_true]
       exact DQ.pan ht1 (show (5:Int)≠0 by decide)
theorem X9 {k:Int}{t:Ab}(ht:gi L k=some t)(hE:∀ k' t',gi L k'=some t'->k<k'->JM L k')(d:Int):DQ L k (fun n=>B0 n L k d):=by
 have hk:=(Am ht).2
 have hl:=hL.len
 refine DQ.step (fun n=>B0.eq_2 (n:=n) _ _ _) ?_
 simp only [ht,AG ht,Option.bind_some,C2 hL ht]
 by_cases c:isS t ⟨#[40]⟩=true
 . have c':(t.Kind == 4&&decide (t.S=⟨#[40]⟩))=true:=c
   obtain⟨t1,ht1⟩:=QM hL ht c
   simp only [c',cond_true]
   refine DQ.got ((hE _ _ ht1 (by omega)).E _) fun g t2 ht2 _ hg=>?_
   simp only [AG ht2,Option.bind_some,C2 hL ht2]
   by_cases c2:isS t2 ⟨#[41]⟩=true
   . have c2':(t2.Kind == 4&&decide (t2.S=⟨#[41]⟩))=true:=c2
     obtain⟨t3,ht3⟩:=QM hL ht2 c2
     simp only [c2',Bool.not_true,cond_false]
     exact DQ.ok ht3 (by show k<g.To+1;omega)
   . have c2':(t2.Kind == 4&&decide (t2.S=⟨#[41]⟩))=false:=by simpa [isS] using c2
     simp only [c2',Bool.not_false,cond_true]
     exact DQ.pan ht2 (show (5:Int)≠0 by decide)
 . have c':(t.Kind == 4&&decide (t.S=⟨#[40]⟩))=false:=by simpa [isS] using c
   simp only [c',cond_false]
   by_cases c2:t.Kind=2
   . obtain⟨t1,ht1⟩:=nx hL ht (by omega)
     simp only [show (t.Kind == 2)=true by simpa using c2,cond_true]
     exact DQ.ok ht1 (by show k<k+1;omega)
   . simp only [show (t.Kind == 2)=false by simpa using c2,cond_false]
     by_cases c3:t.Kind=3
     . obtain⟨t1,ht1⟩:=nx hL ht (by omega)
       simp only [show (t.Kind == 3)=true by simpa using c3,cond_true]
       exact DQ.ok ht1 (by show k<k+1;omega)
     . simp only [show (t.Kind == 3)=false by simpa using c3,cond_false]
       by_cases c4:t.Kind=1
       . obtain⟨t1,ht1⟩:=nx hL ht (by omega)
         have hk1:=(Am ht1).2
         simp only [show (t.Kind != 1)=false by simpa using c4,cond_false,AG ht1,Option.bind_some]
         by_cases c5:isS t1 ⟨#[40]⟩=true
         . have c5':(t1.Kind == 4&&decide (t1.S=⟨#[40]⟩))=true:=c5
           obtain⟨t2,ht2⟩:=QM hL ht1 c5
           simp only [c5',Bool.not_true,cond_false]
           refine DQ.id ?_
           refine DQ.step (fun n=>Co.eq_2 (n:=n) _ _ _) ?_
           have e2:k+1+1=k+2:=by omega
           rw [e2] at ht2
           have w2:IntKind.i64.wrap (k+2)=k+2:=by rw [A3]<;>omega
           simp only [ht,Option.bind_some,w2,AG ht2,C2 hL ht2]
           by_cases c6:isS t2 ⟨#[41]⟩=true
           . have c6':(t2.Kind == 4&&decide (t2.S=⟨#[41]⟩))=true:=c6
             obtain⟨t3,ht3⟩:=QM hL ht2 c6
             simp only [c6',cond_true]
             exact DQ.ok ht3 (by show k<k+2+1;omega)
           . have c6':(t2.Kind == 4&&decide (t2.S=⟨#[41]⟩))=false:=by simpa [isS] using c6
             simp only [c6',cond_false]
             exact Q1 hL hE (L.length) (k+2) [] t2 ht2 (by omega) (by simp;omega) (by omega)
         . have c5':(t1.Kind == 4&&decide (t1.S=⟨#[40]⟩))=false:=by simpa [isS] using c5
           simp only [c5',Bool.not_false,cond_true]
           exact DQ.ok ht1 (by show k<k+1;omega)
       . simp only [show (t.Kind != 1)=true by simpa using c4,cond_true]
         exact DQ.pan ht (show (5:Int)≠0 by decide)
theorem Vp:∀ (r:Nat) (k:Int) (t:Ab),gi L k=some t->(L.length:Int)-k<=r->JM L k
 |0,k,t,ht,hr=>by have:=(Am ht).2;omega
 |r+1,k,t,ht,hr=>by
  have hE:∀ k' t',gi L k'=some t'->k<k'->JM L k':=fun k' t' ht' hk'=>Vp r k' t' ht' (by omega)
  have hA:=X9 hL ht hE
  have hM:=X6 hL ht hA hE
  have h7:∀ d,DQ L k (fun n=>A1 n L k 7 d):=fun d=>DQ.step (fun n=>A1.eq_2 (n:=n) _ _ _ _) (hM d).id
  have h6:=S4 hL (lv:=6) (by decide) h7 hE
  have h5:=S4 hL (lv:=5) (by decide) h6 hE
  have h4:=S4 hL (lv:=4) (by decide) h5 hE
  have hG:=X7 hL ht h4 hE
  have h3:∀ d,DQ L k (fun n=>A1 n L k 3 d):=fun d=>DQ.step (fun n=>A1.eq_2 (n:=n) _ _ _ _) (hG d).id
  have h2:=S4 hL (lv:=2) (by decide) h3 hE
  have h1:=S4 hL (lv:=1) (by decide) h2 hE
  refine⟨X8 hL ht h1 hE,fun lv d hl1 hl7=>?_,hG,hM⟩
  have:lv=1∨lv=2∨lv=3∨lv=4∨lv=5∨lv=6∨lv=7:=by omega
  rcases this with rfl|rfl|rfl|rfl|rfl|rfl|rfl
  . exact h1 d
  . exact h2 d
  . exact h3 d
  . exact h4 d
  . exact h5 d
  . exact h6 d
  . exact h7 d
theorem WI {k:Int}{t:Ab}(ht:gi L k=some t)(d:Int):DQ L k (fun n=>AI n L k d):=(Vp hL L.length k t ht (by have:=(Am ht).2;omega)).E d
end
end Go.Sp
