/-
  The program's forms and the reference's: both answer, and alike. No program.
-/
import Derived.Test.YtgdalmleogphgaaGreatDoorU9
namespace Go.Sp
open Go
section
variable {L:List Ab} (hL:Hs L) (f:Int)
include hL
theorem VB {k:Int}{t:Ab}(ht:gi L k=some t)(d:Int):∃ g y,Ev (fun n=>AI n L k d) g/\Ev (fun n=>Ax n (at_ L k f) d) y/\KS L f g y/\(g.E=0->k<g.To):=by
 obtain⟨g,hg,_,hk⟩:=WI hL ht d
 obtain⟨n,hn⟩:=hg.get
 obtain⟨y,hy,hc⟩:=XB hL f hn
 exact⟨g,y,hg,hy,hc,hk⟩
def W3 (L:List Ab)(k f:Int)(g:BY)(y:Ex Al Ad As):Prop :=
 ∃ t,gi L g.To=some t/\((g.E=0/\k<g.To/\y=.ok g.A (at_ L g.To f))∨(g.E≠0/\y=.pan ⟨t.At,g.E⟩ (at_ L g.To f)))
theorem UZ {k:Int}{t:Ab}(ht:gi L k=some t)(hb:Fh t=true∨isS t ⟨#[45,62]⟩=true) :
 ∃ g y,Ev (fun n=>C6 n L k) g/\Ev (fun n=>Ck n (at_ L k f)) y/\W3 L k f g y:=by
 have hk:=(Am ht).2
 have hl:=hL.len
 rw [CM ht]
 by_cases h3:1<=t.Kind/\t.Kind<=3
 . obtain⟨t1,ht1⟩:=nx hL ht (by omega)
   refine⟨⟨⟨t.Kind,t.N,t.S,⟨0,0,⟨#[]⟩,[],0⟩,t.At⟩,k+1,0⟩,.ok ⟨t.Kind,t.N,t.S,⟨0,0,⟨#[]⟩,[],0⟩,t.At⟩ (at_ L (k+1) f),?_,?_,t1,ht1,.inl ⟨rfl,by show k<k+1;omega,rfl⟩⟩
   . refine Ev.of fun n=>?_
     unfold C6
     simp only [ht,Option.bind_some,C2 hL ht,show decide (1<=t.Kind)=true by simpa using h3.1,show decide (t.Kind<=3)=true by simpa using h3.2,cond_true]
   . refine Ev.of fun n=>?_
     unfold Ck
     simp only [Dz,Option.bind_some]
     have:t.Kind=1∨t.Kind=2∨t.Kind=3:=by omega
     rcases this with e|e|e<;>rw [e]<;>rfl
 . have h4:t.Kind=4:=by
    rcases hb with hb|hb
    . unfold Fh at hb
      simp only [Bool.or_eq_true,beq_iff_eq,Bool.and_eq_true] at hb
      omega
    . exact D7 hb
   have hs:t.S=⟨#[40]⟩∨t.S=⟨#[45]⟩∨t.S=⟨#[45,62]⟩:=by
    rcases hb with hb|hb
    . unfold Fh at hb
      simp only [Bool.or_eq_true,beq_iff_eq,Bool.and_eq_true,decide_eq_true_eq] at hb
      rcases hb with h|h|h|h|h
      . omega
      . omega
      . omega
      . exact .inl h.2
      . exact .inr (.inl h.2)
    . unfold isS at hb
      simp only [beq_iff_eq,Bool.and_eq_true,decide_eq_true_eq] at hb
      exact .inr (.inr hb.2)
   obtain⟨t1,ht1⟩:=nx hL ht (by omega)
   have hk1:=(Am ht1).2
   have pre:∀ n,C6 n L k=(bif decide (t.S=⟨#[45,62]⟩) then
    some (BY.mk (As.mk 4 0 ⟨#[]⟩ (Aa.mk 0 0 ⟨#[]⟩ [] 0) t.At) (k+1) 0)
    else bif decide (t.S=⟨#[45]⟩) then
     (gi L (k+1)).bind fun x1 =>
     bif (x1.Kind != 2) then
      some (BY.mk (As.mk 0 0 ⟨#[]⟩ (Aa.mk 0 0 ⟨#[]⟩ [] 0) 0) (k+1) 5)
     else
      some (BY.mk (As.mk 2 (IntKind.i64.wrap (0-x1.N)) ⟨#[]⟩ (Aa.mk 0 0 ⟨#[]⟩ [] 0) t.At) (IntKind.i64.wrap (k+2)) 0)
     else
      (AI n L (k+1) 1).bind fun x2 =>
      bif (x2.E != 0) then
       some (BY.mk (As.mk 0 0 ⟨#[]⟩ (Aa.mk 0 0 ⟨#[]⟩ [] 0) 0) x2.To x2.E)
      else
       (A2 L x2.To ⟨#[41]⟩).bind fun shut =>
       bif (!shut) then
        some (BY.mk (As.mk 0 0 ⟨#[]⟩ (Aa.mk 0 0 ⟨#[]⟩ [] 0) 0) x2.To 5)
       else
        some (BY.mk (As.mk 5 0 ⟨#[]⟩ x2.X t.At) (IntKind.i64.wrap (x2.To+1)) 0)):=by
    intro n
    unfold C6
    simp only [ht,AG ht,Option.bind_some,C2 hL ht,h4,show decide ((1:Int)<=4)=true from rfl,show decide ((4:Int)<=3)=false from rfl,cond_true,cond_false,beq_self_eq_true,Bool.true_and]
   have hN:t.N=0:=hL.other t (EH ht) (by omega)
   have pro:∀ n,Ck n ⟨t::L.drop (k+1).toNat,f⟩=(bif decide (t.S=⟨#[45]⟩) then
    (Cp (at_ L (k+1) f)).bind fun y=>match y with
    |.ok n_ p1 =>
     some (.ok (As.mk 2 (IntKind.i64.wrap (0-n_)) ⟨#[]⟩ (Aa.mk 0 0 ⟨#[]⟩ [] 0) t.At) p1)
    |.pan e p2=>some (.pan e p2)
    else
     bif decide (t.S=⟨#[45,62]⟩) then
      some (.ok (As.mk 4 0 ⟨#[]⟩ (Aa.mk 0 0 ⟨#[]⟩ [] 0) t.At) (at_ L (k+1) f))
     else
      bif decide (t.S=⟨#[40]⟩) then
       (Ax n (at_ L (k+1) f) 1).bind fun y1=>match y1 with
       |.ok e1 p3 =>
        (Bg p3 ⟨#[41]⟩).bind fun y2=>match y2 with
        |.ok n_1 p5 =>
         some (.ok (As.mk 5 0 ⟨#[]⟩ e1 t.At) p5)
        |.pan e3 p6=>some (.pan e3 p6)
       |.pan e2 p4=>some (.pan e2 p4)
      else
       some (.ok (As.mk 0 0 ⟨#[]⟩ (Aa.mk 0 0 ⟨#[]⟩ [] 0) t.At) (at_ L (k+1) f))):=by
    intro n
    unfold Ck
    simp only [Dz,Option.bind_some,h4,hN,show ((4:Int) == 1)=false from rfl,show ((4:Int) == 2)=false from rfl,show ((4:Int) == 3)=false from rfl,cond_false]
    rfl
   rcases hs with hs|hs|hs
   . -- an expression
     rw [hs] at pre pro
     simp only [show decide ((⟨#[40]⟩:ByteArray)=⟨#[45]⟩)=false by decide,show decide ((⟨#[40]⟩:ByteArray)=⟨#[45,62]⟩)=false by decide,decide_true,cond_true,cond_false] at pre pro
     obtain⟨g,y,hg,hy,hc,hgk⟩:=VB hL f ht1 1
     by_cases he:g.E=0
     . obtain⟨t2,ht2,rfl⟩:=hc.ok he
       have hb0:(g.E != 0)=false:=by simpa using he
       have:=hgk he
       by_cases c:isS t2 ⟨#[41]⟩=true
       . have c':(t2.Kind == 4&&decide (t2.S=⟨#[41]⟩))=true:=c
         obtain⟨t3,ht3⟩:=QM hL ht2 c
         refine⟨⟨⟨5,0,⟨#[]⟩,g.X,t.At⟩,g.To+1,0⟩,.ok ⟨5,0,⟨#[]⟩,g.X,t.At⟩ (at_ L (g.To+1) f),(Ev.bind hg (Ev.of fun n=>?_)).congr pre,(Ev.bind hy (Ev.of fun n=>?_)).congr pro,t3,ht3,.inl ⟨rfl,by show k<g.To+1;omega,rfl⟩⟩
         . simp only [hb0,AG ht2,c',cond_false,Option.bind_some,Bool.not_true,C2 hL ht2]
         . simp only [CM ht2,Ji,c,if_true,Option.bind_some]
       . have c':(t2.Kind == 4&&decide (t2.S=⟨#[41]⟩))=false:=by simpa [isS] using c
         refine⟨⟨⟨0,0,⟨#[]⟩,⟨0,0,⟨#[]⟩,[],0⟩,0⟩,g.To,5⟩,.pan ⟨t2.At,5⟩ (at_ L g.To f),(Ev.bind hg (Ev.of fun n=>?_)).congr pre,(Ev.bind hy (Ev.of fun n=>?_)).congr pro,t2,ht2,.inr ⟨show (5:Int)≠0 by decide,rfl⟩⟩
         . simp only [hb0,AG ht2,c',cond_false,cond_true,Option.bind_some,Bool.not_false]
         . simp only [CM ht2,Ji,c,if_false,Option.bind_some,Bool.false_eq_true]
     . obtain⟨t2,ht2,rfl⟩:=hc.pan he
       have hb1:(g.E != 0)=true:=by simpa using he
       refine⟨⟨⟨0,0,⟨#[]⟩,⟨0,0,⟨#[]⟩,[],0⟩,0⟩,g.To,g.E⟩,.pan ⟨t2.At,g.E⟩ (at_ L g.To f),(Ev.bind hg (Ev.of fun n=>?_)).congr pre,(Ev.bind hy (Ev.of fun n=>?_)).congr pro,t2,ht2,.inr ⟨he,rfl⟩⟩
       . simp only [hb1,cond_true]
       . rfl
   . -- a negative number
     rw [hs] at pre pro
     simp only [decide_true,show decide ((⟨#[45]⟩:ByteArray)=⟨#[45,62]⟩)=false by decide,cond_true,cond_false,ht1,Option.bind_some] at pre pro
     have e2:k+1+1=k+2:=by omega
     have w2:IntKind.i64.wrap (k+2)=k+2:=by rw [A3]<;>omega
     by_cases c:t1.Kind=2
     . have hc:(t1.Kind != 2)=false:=by simpa using c
       obtain⟨t2,ht2⟩:=nx hL ht1 (by omega)
       rw [e2] at ht2
       refine⟨⟨⟨2,IntKind.i64.wrap (0-t1.N),⟨#[]⟩,⟨0,0,⟨#[]⟩,[],0⟩,t.At⟩,k+2,0⟩,.ok ⟨2,IntKind.i64.wrap (0-t1.N),⟨#[]⟩,⟨0,0,⟨#[]⟩,[],0⟩,t.At⟩ (at_ L (k+2) f),Ev.of fun n=>?_,Ev.of fun n=>?_,t2,ht2,.inl ⟨rfl,by show k<k+2;omega,rfl⟩⟩
       . simp only [pre,hc,cond_false,w2]
       . simp only [pro]
         rw [CM ht1]
         unfold Cp
         simp only [F2,Dz,Option.bind_some,hc,cond_false,e2]
     . have hc:(t1.Kind != 2)=true:=by simpa using c
       refine⟨⟨⟨0,0,⟨#[]⟩,⟨0,0,⟨#[]⟩,[],0⟩,0⟩,k+1,5⟩,.pan ⟨t1.At,5⟩ (at_ L (k+1) f),Ev.of fun n=>?_,Ev.of fun n=>?_,t1,ht1,.inr ⟨show (5:Int)≠0 by decide,rfl⟩⟩
       . simp only [pre,hc,cond_true]
       . simp only [pro]
         rw [CM ht1]
         unfold Cp
         simp only [F2,E7,Option.bind_some,hc,cond_true]
   . -- an arrow
     rw [hs] at pre pro
     simp only [show decide ((⟨#[45,62]⟩:ByteArray)=⟨#[45]⟩)=false by decide,decide_true,cond_true,cond_false] at pre pro
     exact⟨_,_,Ev.of pre,Ev.of pro,t1,ht1,.inl ⟨rfl,by show k<k+1;omega,rfl⟩⟩
def O3 (L:List Ab)(k f n:Int)(x:Ab)(u:(List As×Int) ⊕ BJ)(w:(List Ab×Int×List As) ⊕ Ex Al Ad Af):Prop :=
 (∃ out k' t',gi L k'=some t'/\k<=k'/\isS t' ⟨#[59]⟩=true/\u=.inr ⟨⟨x.S,out,[],x.At⟩,k'+1,n+1,0⟩/\w=.inl (L.drop k'.toNat,f,out)) ∨
 (∃ out k' t',gi L k'=some t'/\k<=k'/\isS t' ⟨#[59]⟩=false/\isS t' ⟨#[123]⟩=true/\u=.inl (out,k')/\w=.inl (L.drop k'.toNat,f,out)) ∨
 (∃ g t',gi L g.To=some t'/\g.E≠0/\u=.inr g/\w=.inr (.pan ⟨t'.At,g.E⟩ (at_ L g.To f)))
omit hL in
theorem O3.le {k k' n:Int}{x:Ab}{u w}(h:O3 L k' f n x u w)(hk:k<=k'):O3 L k f n x u w:=by
 rcases h with⟨o,k2,t,h1,h2,h3⟩|⟨o,k2,t,h1,h2,h3⟩|h
 . exact .inl ⟨o,k2,t,h1,by omega,h3⟩
 . exact .inr (.inl ⟨o,k2,t,h1,by omega,h3⟩)
 . exact .inr (.inr h)
theorem Ub {n:Int}(hn:0<=n/\n<2000){x:Ab}:∀ (r:Nat) (k:Int) (out:List As) (t:Ab),gi L k=some t->(out.length:Int)<=k->(L.length:Int)-k<=r ->
 ∃ u w,Ev (fun m=>AU m L x n out k) u/\Ev (fun m=>AV m (L.drop k.toNat) f out) w/\O3 L k f n x u w
 |0,k,out,t,ht,ho,hr=>by have:=(Am ht).2;omega
 |r+1,k,out,t,ht,ho,hr=>by
  have hk:=(Am ht).2
  have hl:=hL.len
  have hp:L.drop k.toNat=t::L.drop (k+1).toNat:=(Am ht).1
  have wn:IntKind.i64.wrap (n+1)=n+1:=by rw [A3]<;>omega
  by_cases c1:isS t ⟨#[59]⟩=true
  . have c1':(t.Kind == 4&&decide (t.S=⟨#[59]⟩))=true:=c1
    refine⟨_,.inl (L.drop k.toNat,f,out),Ev.step (fun m=>AU.eq_2 (n:=m) _ _ _ _ _) (Ev.of fun m=>?_),Ev.step (fun m=>AV.eq_2 (n:=m) _ _ _) (Ev.of fun m=>?_),.inl ⟨out,k,t,ht,Int.le_refl _,c1,rfl,rfl⟩⟩
    . simp only [AG ht,c1',Option.bind_some,cond_true,C2 hL ht,wn]
    . rw [hp]
      simp only [II,c1,Option.bind_some,Bool.not_true,cond_false]
  . have c1:isS t ⟨#[59]⟩=false:=by simpa using c1
    have c1':(t.Kind == 4&&decide (t.S=⟨#[59]⟩))=false:=c1
    by_cases c2:isS t ⟨#[123]⟩=true
    . have c2':(t.Kind == 4&&decide (t.S=⟨#[123]⟩))=true:=c2
      refine⟨_,.inl (L.drop k.toNat,f,out),Ev.step (fun m=>AU.eq_2 (n:=m) _ _ _ _ _) (Ev.of fun m=>?_),Ev.step (fun m=>AV.eq_2 (n:=m) _ _ _) (Ev.of fun m=>?_),.inr (.inl ⟨out,k,t,ht,Int.le_refl _,c1,c2,rfl,rfl⟩)⟩
      . simp only [AG ht,c1',c2',Option.bind_some,cond_true,cond_false]
      . rw [hp]
        simp only [II,c1,c2,Option.bind_some,Bool.not_true,Bool.not_false,cond_false,cond_true]
    . have c2:isS t ⟨#[123]⟩=false:=by simpa using c2
      have c2':(t.Kind == 4&&decide (t.S=⟨#[123]⟩))=false:=c2
      by_cases c3:Fh t=true∨isS t ⟨#[45,62]⟩=true
      . have pb:((bif !(Fh t) then some (!(isS t ⟨#[45,62]⟩)) else some false):Option Bool)=some false:=by
         rcases c3 with c|c
         . rw [c];rfl
         . rw [c];cases Fh t<;>rfl
        have rb:(bif (!(Fh t)) then some (!(t.Kind == 4&&decide (t.S=⟨#[45,62]⟩))) else some false)=some false:=pb
        by_cases c4:(out.length:Int)=40
        . have c4':((out.length:Int) == 40)=true:=by simpa using c4
          refine⟨.inr ⟨⟨⟨#[]⟩,[],[],0⟩,k,0,2⟩,.inr (.pan ⟨t.At,2⟩ (at_ L k f)),Ev.step (fun m=>AU.eq_2 (n:=m) _ _ _ _ _) (Ev.of fun m=>?_),Ev.step (fun m=>AV.eq_2 (n:=m) _ _ _) (Ev.of fun m=>?_),.inr (.inr ⟨_,t,ht,show (2:Int)≠0 by decide,rfl,rfl⟩)⟩
          . simp only [AG ht,EF ht,c1',c2',rb,c4',Option.bind_some,cond_true,cond_false]
          . rw [hp,CM ht]
            simp only [II,FB,c1,c2,Option.bind_some,Bool.not_false,cond_true]
            show ((bif !(Fh t) then some (!(isS t ⟨#[45,62]⟩)) else some false):Option Bool).bind _=_
            rw [pb]
            simp only [Option.bind_some,cond_false,c4',cond_true,E7]
        . have c4':((out.length:Int) == 40)=false:=by simpa using c4
          obtain⟨g,y,hg,hy,t2,ht2,hc⟩:=UZ hL f ht c3
          have r1:∀ u,Ev (fun m=>(bif (g.E != 0) then
           some (.inr (BJ.mk (Af.mk ⟨#[]⟩ [] [] 0) g.To 0 g.E))
           else
            AU m L x n (out++[g.A]) g.To)) u->Ev (fun m=>AU m L x n out k) u:=by
           intro u hu
           refine Ev.step (fun m=>AU.eq_2 (n:=m) _ _ _ _ _) ?_
           simp only [AG ht,EF ht,c1',c2',rb,c4',Option.bind_some,cond_false]
           refine Ev.bind hg ?_
           refine hu.congr fun m=>?_
           rw [FT ho (by omega) (by decide)]
           rfl
          have p1:∀ w,Ev (fun m=>(match y with
           |.ok a_1 p21=>AV m p21.l p21.forms (out++[a_1])
           |.pan e11 p22=>some (.inr (.pan e11 p22)):Option ((List Ab×Int×List As) ⊕ Ex Al Ad Af))) w->Ev (fun m=>AV m (L.drop k.toNat) f out) w:=by
           intro w hw
           refine Ev.step (fun m=>AV.eq_2 (n:=m) _ _ _) ?_
           rw [CM ht] at hy
           rw [hp]
           simp only [II,FB,c1,c2,Option.bind_some,Bool.not_false,cond_true]
           show Ev (fun m=>((bif !(Fh t) then some (!(isS t ⟨#[45,62]⟩)) else some false):Option Bool).bind _) w
           rw [pb]
           simp only [Option.bind_some,cond_false,c4']
           refine Ev.bind hy ?_
           refine hw.congr fun m=>?_
           cases y with
           |ok a p=>simp only [FT ho (show k<=1000000 by omega) (show 105<=1000 by decide),Option.bind_some]
           |pan e p=>rfl
          rcases hc with⟨he,hgt,rfl⟩|⟨he,rfl⟩
          . rw [show (g.E != 0)=false by simpa using he] at r1
            have hk2:=(Am ht2).2
            obtain⟨u,w,hu,hw,hc⟩:=Ub hn r g.To (out++[g.A]) t2 ht2 (by simp;omega) (by omega)
            exact⟨u,w,r1 u hu,p1 w hw,hc.le f (by omega)⟩
          . rw [show (g.E != 0)=true by simpa using he] at r1
            exact⟨_,_,r1 _ Ev.pure,p1 _ Ev.pure,.inr (.inr ⟨_,t2,ht2,he,rfl,rfl⟩)⟩
      . have c3a:Fh t=false:=by cases h:Fh t<;>simp_all
        have c3b:isS t ⟨#[45,62]⟩=false:=by cases h:isS t ⟨#[45,62]⟩<;>simp_all
        have c3b':(t.Kind == 4&&decide (t.S=⟨#[45,62]⟩))=false:=c3b
        refine⟨.inr ⟨⟨⟨#[]⟩,[],[],0⟩,k,0,5⟩,.inr (.pan ⟨t.At,5⟩ (at_ L k f)),Ev.step (fun m=>AU.eq_2 (n:=m) _ _ _ _ _) (Ev.of fun m=>?_),Ev.step (fun m=>AV.eq_2 (n:=m) _ _ _) (Ev.of fun m=>?_),.inr (.inr ⟨_,t,ht,show (5:Int)≠0 by decide,rfl,rfl⟩)⟩
        . simp only [AG ht,EF ht,c1',c2',c3a,c3b',Option.bind_some,cond_true,cond_false,Bool.not_false]
        . rw [hp,CM ht]
          simp only [II,FB,c1,c2,c3b,Option.bind_some,Bool.not_false,cond_true]
          show ((bif !(Fh t) then some true else some false):Option Bool).bind _=_
          rw [c3a]
          simp only [Option.bind_some,Bool.not_false,cond_true,E7]
omit hL f in
def Un (L:List Ab)(k:Int):Prop:=∀ d n,0<=n->n<=2000->∃ g y,Ev (fun m=>BU m L k d n) g/\Ev (fun m=>Bh m (at_ L k n) d) y /\
 ∃ t,gi L g.To=some t/\((g.E=0/\k<g.To/\0<=g.N/\g.N<=2000/\y=.ok g.F (at_ L g.To g.N))∨(g.E≠0/\∃ f,y=.pan ⟨t.At,g.E⟩ (at_ L g.To f)))
omit f in
theorem Ua {x:Ab}{ags:List As}{d k0:Int}(hF:∀ k t,gi L k=some t->k0<k->Un L k):∀ (r:Nat) (k n:Int) (out:List Af) (t:Ab),gi L k=some t->k0<k->0<=n->n<=2000->(out.length:Int)<=k->(L.length:Int)-k<=r ->
 ∃ g w,Ev (fun m=>Be m L x ags d out k n) g/\Ev (fun m=>Bv m d (L.drop k.toNat) n out) w /\
  ((∃ out' k' t' n',gi L k'=some t'/\k<=k'/\isS t' ⟨#[125]⟩=true/\0<=n'/\n'<=2000/\g=⟨⟨x.S,ags,out',x.At⟩,k'+1,n',0⟩/\w=.inl (L.drop k'.toNat,n',out')) ∨
   (∃ t',gi L g.To=some t'/\g.E≠0/\∃ f,w=.inr (.pan ⟨t'.At,g.E⟩ (at_ L g.To f))))
 |0,k,n,out,t,ht,h0,hn0,hn,ho,hr=>by have:=(Am ht).2;omega
 |r+1,k,n,out,t,ht,h0,hn0,hn,ho,hr=>by
  have hk:=(Am ht).2
  have hl:=hL.len
  have hp:L.drop k.toNat=t::L.drop (k+1).toNat:=(Am ht).1
  by_cases c1:isS t ⟨#[125]⟩=true
  . have c1':(t.Kind == 4&&decide (t.S=⟨#[125]⟩))=true:=c1
    refine⟨_,.inl (L.drop k.toNat,n,out),Ev.step (fun m=>Be.eq_2 (n:=m) _ _ _ _ _ _ _) (Ev.of fun m=>?_),Ev.step (fun m=>Bv.eq_2 (n:=m) _ _ _ _) (Ev.of fun m=>?_),.inl ⟨out,k,t,n,ht,Int.le_refl _,c1,hn0,hn,rfl,rfl⟩⟩
    . simp only [AG ht,c1',Option.bind_some,cond_true,C2 hL ht]
    . rw [hp]
      simp only [II,c1,Option.bind_some,Bool.not_true,cond_false]
  . have c1:isS t ⟨#[125]⟩=false:=by simpa using c1
    have c1':(t.Kind == 4&&decide (t.S=⟨#[125]⟩))=false:=c1
    obtain⟨g,y,hg,hy,t2,ht2,hc⟩:=hF k t ht h0 (IntKind.i64.wrap (d+1)) n hn0 hn
    have r1:∀ u,Ev (fun m=>(bif (g.E != 0) then some g else Be m L x ags d (out++[g.F]) g.To g.N)) u->Ev (fun m=>Be m L x ags d out k n) u:=by
     intro u hu
     refine Ev.step (fun m=>Be.eq_2 (n:=m) _ _ _ _ _ _ _) ?_
     simp only [AG ht,c1',Option.bind_some,cond_false]
     refine Ev.bind hg ?_
     refine hu.congr fun m=>?_
     rw [FT ho (by omega) (by decide)]
     rfl
    have p1:∀ w,Ev (fun m=>(match y with
     |.ok f3 p11=>Bv m d p11.l p11.forms (out++[f3])
     |.pan e5 p12=>some (.inr (.pan e5 p12)):Option ((List Ab×Int×List Af) ⊕ Ex Al Ad Af))) w->Ev (fun m=>Bv m d (L.drop k.toNat) n out) w:=by
     intro w hw
     refine Ev.step (fun m=>Bv.eq_2 (n:=m) _ _ _ _) ?_
     rw [CM ht] at hy
     rw [hp]
     simp only [II,c1,Option.bind_some,Bool.not_false,cond_true]
     refine Ev.bind hy ?_
     refine hw.congr fun m=>?_
     cases y with
     |ok a p=>simp only [FT ho (show k<=1000000 by omega) (show 73<=1000 by decide),Option.bind_some]
     |pan e p=>rfl
    rcases hc with⟨he,hgt,hN0,hN,rfl⟩|⟨he,f,rfl⟩
    . rw [show (g.E != 0)=false by simpa using he] at r1
      have hk2:=(Am ht2).2
      obtain⟨u,w,hu,hw,hc⟩:=Ua hF r g.To g.N (out++[g.F]) t2 ht2 (by omega) hN0 hN (by simp;omega) (by omega)
      refine⟨u,w,r1 u hu,p1 w hw,?_⟩
      rcases hc with⟨o,k',t',n',h1,h2,h3⟩|hc
      . exact .inl ⟨o,k',t',n',h1,by omega,h3⟩
      . exact .inr hc
    . rw [show (g.E != 0)=true by simpa using he] at r1
      exact⟨_,_,r1 _ Ev.pure,p1 _ Ev.pure,.inr ⟨t2,ht2,he,f,rfl⟩⟩
omit f in
theorem VD:∀ (r:Nat) (k:Int) (t:Ab),gi L k=some t->(L.length:Int)-k<=r->Un L k
 |0,k,t,ht,hr=>by have:=(Am ht).2;omega
 |r+1,k,t,ht,hr=>by
  have hF:∀ k' t',gi L k'=some t'->k<k'->Un L k':=fun k' t' ht' hk'=>VD r k' t' ht' (by omega)
  intro d n hn0 hn
  have hk:=(Am ht).2
  have hl:=hL.len
  have wn:IntKind.i64.wrap (n+1)=n+1:=by rw [A3]<;>omega
  rw [CM ht]
  by_cases c1:t.Kind=1
  . have c1':(t.Kind != 1)=false:=by simpa using c1
    by_cases c2:30<d∨2000<=n
    . have rv:((bif (decide (30<d)) then some true else some (decide (2000<=n))):Option Bool)=some true:=by
       rcases c2 with c|c
       . rw [decide_eq_true c];rfl
       . rw [decide_eq_true c];cases decide (30<d)<;>rfl
      have pv:((bif (decide (30<d)) then some true else some (decide (2000<n+1))):Option Bool)=some true:=by
       rcases c2 with c|c
       . rw [decide_eq_true c];rfl
       . rw [decide_eq_true (show 2000<n+1 by omega)];cases decide (30<d)<;>rfl
      refine⟨⟨⟨⟨#[]⟩,[],[],0⟩,k,0,2⟩,.pan ⟨t.At,2⟩ (at_ L k (n+1)),Ev.step (fun m=>BU.eq_2 (n:=m) _ _ _ _) (Ev.of fun m=>?_),Ev.step (fun m=>Bh.eq_2 (n:=m) _ _) (Ev.of fun m=>?_),t,ht,.inr ⟨show (2:Int)≠0 by decide,_,rfl⟩⟩
      . simp only [ht,c1',rv,Option.bind_some,cond_false,cond_true]
      . simp only [F2,c1',wn,pv,E7,Option.bind_some,cond_false,cond_true]
        rw [CM ht]
    . have c2:d<=30/\n<2000:=by omega
      have rv:((bif (decide (30<d)) then some true else some (decide (2000<=n))):Option Bool)=some false:=by
       rw [decide_eq_false (show ¬ 30<d by omega),decide_eq_false (show ¬ 2000<=n by omega)];rfl
      have pv:((bif (decide (30<d)) then some true else some (decide (2000<n+1))):Option Bool)=some false:=by
       rw [decide_eq_false (show ¬ 30<d by omega),decide_eq_false (show ¬ 2000<n+1 by omega)];rfl
      obtain⟨t1,ht1⟩:=nx hL ht (by omega)
      have hk1:=(Am ht1).2
      obtain⟨u,w,hu,hw,hc⟩:=Ub hL (n+1) (n:=n) ⟨hn0,c2.2⟩ (x:=t) L.length (k+1) [] t1 ht1 (by simp;omega) (by omega)
      have r1:∀ g,Ev (fun m=>(match u with
       |.inl (out,out1)=>Be m L t out d [] (IntKind.i64.wrap (out1+1)) (n+1)
       |.inr o=>some o)) g->Ev (fun m=>BU m L k d n) g:=by
       intro g hg
       refine Ev.step (fun m=>BU.eq_2 (n:=m) _ _ _ _) ?_
       simp only [ht,c1',rv,Option.bind_some,cond_false,C2 hL ht,wn]
       exact Ev.bind hu hg
      have p1:∀ z,Ev (fun m=>(match w with
       |.inl (p5,p6,f) =>
        (AA (Ad.mk p5 p6)).bind fun n_ =>
        bif (decide (n_.1.S=⟨#[59]⟩)) then
         some (.ok (Af.mk t.S f [] t.At) n_.2)
        else
         ((Bv m d n_.2.l n_.2.forms []
         ):Option (((List Ab)×Int×(List Af)) ⊕ (Ex Al Ad Af))).bind fun y4=>match y4 with
         |.inl (p7,p8,f1) =>
          (AA (Ad.mk p7 p8)).bind fun n_1 =>
          some (.ok (Af.mk t.S f f1 t.At) n_1.2)
         |.inr o=>some o
       |.inr o=>some o:Option (Ex Al Ad Af))) z->Ev (fun m=>Bh m ⟨t::L.drop (k+1).toNat,n⟩ d) z:=by
       intro z hz
       refine Ev.step (fun m=>Bh.eq_2 (n:=m) _ _) ?_
       simp only [F2,c1',wn,pv,Dz,Option.bind_some,cond_false]
       exact Ev.bind hw hz
      rcases hc with⟨o,k',t',ht',hk',cs,rfl,rfl⟩|⟨o,k',t',ht',hk',cs0,cs,rfl,rfl⟩|⟨g,t',ht',he,rfl,rfl⟩
      . obtain⟨t3,ht3⟩:=QM hL ht' cs
        refine⟨_,.ok ⟨t.S,o,[],t.At⟩ (at_ L (k'+1) (n+1)),r1 _ Ev.pure,p1 _ ?_,t3,ht3,.inl ⟨rfl,by show k<k'+1;omega,by show 0<=n+1;omega,by show n+1<=2000;omega,rfl⟩⟩
        have hS:decide (t'.S=⟨#[59]⟩)=true:=by
         unfold isS at cs;simp only [Bool.and_eq_true] at cs;exact cs.2
        rw [(Am ht').1]
        simp only [Dz,Option.bind_some,hS,cond_true]
        exact Ev.pure
      . obtain⟨t3,ht3⟩:=QM hL ht' cs
        have hS:decide (t'.S=⟨#[59]⟩)=false:=by
         unfold isS at cs0;rw [D7 cs] at cs0;exact cs0
        have hk2:=(Am ht').2
        have hk3:=(Am ht3).2
        obtain⟨g,w,hg,hw,hc⟩:=Ua hL (x:=t) (ags:=o) (d:=d) (k0:=k) hF L.length (k'+1) (n+1) [] t3 ht3 (by omega) (by omega) (by omega) (by simp;omega) (by omega)
        have p2:∀ z,Ev (fun m=>(match w with
         |.inl (p7,p8,f1) =>
          (AA (Ad.mk p7 p8)).bind fun n_1 =>
          some (.ok (Af.mk t.S o f1 t.At) n_1.2)
         |.inr o=>some o:Option (Ex Al Ad Af))) z->Ev (fun m=>Bh m ⟨t::L.drop (k+1).toNat,n⟩ d) z:=by
         intro z hz
         refine p1 z ?_
         rw [(Am ht').1]
         simp only [Dz,Option.bind_some,hS,cond_false]
         exact Ev.bind hw hz
        have r2:=r1 g (hg.congr fun m=>by simp only [C2 hL ht'])
        rcases hc with⟨o2,k2,t4,n2,ht4,hk4,cs4,hn2,hn3,rfl,rfl⟩|⟨t4,ht4,he,f,rfl⟩
        . obtain⟨t5,ht5⟩:=QM hL ht4 cs4
          refine⟨_,.ok ⟨t.S,o,o2,t.At⟩ (at_ L (k2+1) n2),r2,p2 _ ?_,t5,ht5,.inl ⟨rfl,by show k<k2+1;omega,hn2,hn3,rfl⟩⟩
          rw [(Am ht4).1]
          simp only [Dz,Option.bind_some]
          exact Ev.pure
        . exact⟨g,_,r2,p2 _ Ev.pure,t4,ht4,.inr ⟨he,f,rfl⟩⟩
      . exact⟨g,_,r1 _ Ev.pure,p1 _ Ev.pure,t',ht',.inr ⟨he,_,rfl⟩⟩
  . have c1':(t.Kind != 1)=true:=by simpa using c1
    refine⟨⟨⟨⟨#[]⟩,[],[],0⟩,k,0,5⟩,.pan ⟨t.At,5⟩ (at_ L k n),Ev.step (fun m=>BU.eq_2 (n:=m) _ _ _ _) (Ev.of fun m=>?_),Ev.step (fun m=>Bh.eq_2 (n:=m) _ _) (Ev.of fun m=>?_),t,ht,.inr ⟨show (5:Int)≠0 by decide,_,rfl⟩⟩
    . simp only [ht,c1',Option.bind_some,cond_true]
    . simp only [F2,c1',E7,Option.bind_some,cond_true]
      rw [CM ht]
end
end Go.Sp
