/-
  What is read of a source can be printed: forms. No program.
-/
import Derived.Test.YtgdalmleogphgaaGreatDoorU20
import Derived.Test.YtgdalmleogphgaaGreatDoorU21
namespace Go.Sp
open Go
set_option linter.unusedVariables false
structure RA (L:List Ab) (k:Int) (a:As) (z:Int):Prop where
 ok:G8 a=true
 fit:a.Kind=5->CK a.E 1
 wt:sm L k+Dx (pA a)<=sm L z
structure RF (L:List Ab) (k d n_:Int) (g:BJ):Prop where
 ok:okF g.F=true
 fit:Wo g.F d
 cnt:g.N=n_+cntF g.F
 max:g.N<=2000
 wt:sm L k+Dx (pF g.F)<=sm L g.To
section
variable {L:List Ab} (hM:Hs L) (hg:∀ t∈L,Tg t)
include hM hg
theorem XD {n:Nat}{k:Int}{r:BY}(h:C6 n L k=some r)(he:r.E=0)(hb:∀ t,gi L k=some t->Fh t=true∨isS t ⟨#[45,62]⟩=true):RA L k r.A r.To:=by
 have hl:=hM.len
 unfold C6 at h
 obtain⟨t,ht,h⟩:=Ae h
 have hk:=(Am ht).2
 have gt:=hg _ (EH ht)
 have st:=Iz ht
 have w1:IntKind.i64.wrap (k+1)=k+1:=by rw [A3]<;>omega
 have w2:IntKind.i64.wrap (k+2)=k+2:=by rw [A3]<;>omega
 rw [w1,w2] at h
 obtain⟨v,hv,h⟩:=Ae h
 rcases Ak h with⟨q,h⟩|⟨q,h⟩
 . obtain rfl:=Ac h
   rw [q] at hv
   have hk3:1<=t.Kind/\t.Kind<=3:=by
    rcases Ak hv with⟨a,b⟩|⟨_,b⟩
    . exact⟨by simpa using a,by simpa using Ac b⟩
    . cases b
   have hkk:t.Kind=1∨t.Kind=2∨t.Kind=3:=by omega
   rcases hkk with q1|q1|q1
   . refine⟨?_,fun h=>?_,?_⟩
     . unfold G8;simp only [q1,if_true];exact gt.name q1
     . have h:t.Kind=5:=h;omega
     . show sm L k+Dx (pA ⟨t.Kind,t.N,t.S,_,t.At⟩)<=sm L (k+1)
       unfold pA
       simp only [q1,if_true]
       have:tw t=tw ⟨1,0,t.S,0⟩:=by unfold tw Em;rw [q1];rfl
       show sm L k+(tw ⟨1,0,t.S,0⟩+0)<=_
       omega
   . have hn:=gt.num q1
     have hn2:=hn
     unfold EC at hn2
     simp only [decide_eq_true_eq] at hn2
     refine⟨?_,fun h=>?_,?_⟩
     . unfold G8
       simp only [q1,show ¬ ((2:Int)=1) by decide,if_false,if_true,show ¬ t.N<0 by omega];exact hn
     . have h:t.Kind=5:=h;omega
     . show sm L k+Dx (pA ⟨t.Kind,t.N,t.S,_,t.At⟩)<=sm L (k+1)
       unfold pA
       simp only [q1,show ¬ ((2:Int)=1) by decide,if_false,if_true,show ¬ t.N<0 by omega]
       have:tw t=tw ⟨2,0,⟨#[]⟩,t.N⟩:=by unfold tw Em;rw [q1];rfl
       show sm L k+(tw ⟨2,0,⟨#[]⟩,t.N⟩+0)<=_
       omega
   . refine⟨?_,fun h=>?_,?_⟩
     . unfold G8
       simp only [q1,show ¬ ((3:Int)=1) by decide,show ¬ ((3:Int)=2) by decide,if_false,if_true];exact gt.text q1
     . have h:t.Kind=5:=h;omega
     . show sm L k+Dx (pA ⟨t.Kind,t.N,t.S,_,t.At⟩)<=sm L (k+1)
       unfold pA
       simp only [q1,show ¬ ((3:Int)=1) by decide,show ¬ ((3:Int)=2) by decide,if_false,if_true]
       have:tw t=tw ⟨3,0,t.S,0⟩:=by unfold tw Em;rw [q1];rfl
       show sm L k+(tw ⟨3,0,t.S,0⟩+0)<=_
       omega
 obtain⟨q1,hq1,h⟩:=Ae h
 obtain⟨t1,ht1,rfl⟩:=Cq hq1
 obtain rfl:t1=t:=Ac (ht1.symm.trans ht)
 rcases Ak h with⟨s1,h⟩|⟨s1,h⟩
 . obtain rfl:=Ac h
   refine⟨rfl,fun h=>absurd h (show ¬ (4:Int)=5 by decide),?_⟩
   have:=Dq ht s1
   show sm L k+(tw (tS ⟨#[45,62]⟩)+0)<=sm L (k+1)
   omega
 obtain⟨q2,hq2,h⟩:=Ae h
 obtain⟨t2,ht2,rfl⟩:=Cq hq2
 obtain rfl:t2=t1:=Ac (ht2.symm.trans ht)
 rcases Ak h with⟨s2,h⟩|⟨s2,h⟩
 . obtain⟨x1,hx1,h⟩:=Ae h
   rcases Ak h with⟨s3,h⟩|⟨s3,h⟩
   . obtain rfl:=Ac h
     exact absurd (show (5:Int)=0 from he) (by decide)
   . obtain rfl:=Ac h
     have k2:x1.Kind=2:=by simpa using s3
     have gx:=(hg _ (EH hx1)).num k2
     have gx2:=gx
     unfold EC at gx2
     simp only [decide_eq_true_eq] at gx2
     have wn:IntKind.i64.wrap (0-x1.N) = -x1.N:=by rw [A3]<;>omega
     rw [wn]
     have e1:=Dq ht s2
     have e2:=Iz hx1
     rw [show k+1+1=k+2 by omega] at e2
     have e3:tw x1=tw ⟨2,0,⟨#[]⟩,x1.N⟩:=by unfold tw Em;rw [k2];rfl
     by_cases z:x1.N=0
     . rw [z]
       rw [z] at e3
       refine⟨rfl,fun h=>absurd h (show ¬ (2:Int)=5 by decide),?_⟩
       show sm L k+(tw ⟨2,0,⟨#[]⟩,0⟩+0)<=sm L (k+2)
       omega
     . have hneg : -x1.N<0:=by omega
       have ng:Up (-x1.N)=x1.N:=by rw [Ti hneg (by omega)];omega
       refine⟨?_,fun h=>absurd h (show ¬ (2:Int)=5 by decide),?_⟩
       . unfold G8
         simp only [show ¬ ((2:Int)=1) by decide,if_false,if_true,hneg,ng,gx,Bool.true_and,decide_eq_false (show ¬ -x1.N < -999999999999999 by omega),Bool.not_false]
       . show sm L k+Dx (pA ⟨2,-x1.N,⟨#[]⟩,_,_⟩)<=sm L (k+2)
         unfold pA
         simp only [show ¬ ((2:Int)=1) by decide,if_false,if_true,hneg,ng]
         show sm L k+(tw (tS ⟨#[45]⟩)+(tw ⟨2,0,⟨#[]⟩,x1.N⟩+0))<=_
         omega
 obtain⟨x2,hx2,h⟩:=Ae h
 rcases Ak h with⟨s3,h⟩|⟨s3,h⟩
 . obtain rfl:=Ac h
   exact absurd (show x2.E=0 from he) (by simpa using s3)
 have x0:x2.E=0:=by simpa using s3
 obtain⟨X,_⟩:=(SH hM hg n).fE _ _ _ (by decide) (by decide) hx2 x0
 obtain⟨q3,hq3,h⟩:=Ae h
 obtain⟨t3,ht3,rfl⟩:=Cq hq3
 have hr3:=(Am ht3).2
 have w3:IntKind.i64.wrap (x2.To+1)=x2.To+1:=by rw [A3]<;>omega
 rcases Ak h with⟨s4,h⟩|⟨s4,h⟩
 . obtain rfl:=Ac h
   exact absurd (show (5:Int)=0 from he) (by decide)
 . have s4:isS t3 ⟨#[41]⟩=true:=by simpa using s4
   rw [w3] at h
   obtain rfl:=Ac h
   have hf:CK x2.X 1:=by have:=X.fit;rw [O5] at this;exact this
   refine⟨X.ok,fun _=>hf,?_⟩
   have x1:=X.wt
   rw [Fp,st] at x1
   have e2:=Dq ht3 s4
   have s40:isS t2 ⟨#[40]⟩=true:=by
    rw [q] at hv
    have hk3:¬ (1<=t2.Kind/\t2.Kind<=3):=by
     rintro⟨a,b⟩
     rw [decide_eq_true a,decide_eq_true b] at hv
     cases hv
    rcases hb t2 ht with b|b
    . unfold Fh at b
      simp only [Bool.or_eq_true,beq_iff_eq,Bool.and_eq_true,decide_eq_true_eq] at b
      rcases b with b|b|b|b|b
      . omega
      . omega
      . omega
      . unfold isS;rw [b.1,b.2];rfl
      . unfold isS at s2;rw [b.1,b.2] at s2;cases s2
    . rw [b] at s1;cases s1
   have t40:=Q0 s40
   show sm L k+(tw (tS ⟨#[40]⟩)+Dx (BB x2.X++[tS ⟨#[41]⟩]))<=sm L (x2.To+1)
   rw [Dp]
   show sm L k+(tw (tS ⟨#[40]⟩)+(Dx (BB x2.X)+(tw (tS ⟨#[41]⟩)+0)))<=_
   omega
structure Xv (L:List Ab) (k:Int) (w:ByteArray) (l:List As) (z:Int):Prop where
 ok:∀ a∈l,G8 a=true/\(a.Kind=5->CK a.E 1)
 len:l.length<=40
 wt:sm L k+(tw ⟨1,0,w,0⟩+Dx (Ea l))<=sm L z
omit hM hg in
theorem QK:∀ a b:List As,Ea (a++b)=Ea a++Ea b
 | [],b=>rfl
 |x::a,b=>by show pA x++Ea (a++b)=pA x++Ea a++Ea b;rw [QK a b,List.append_assoc]
omit hM hg in
theorem U4 {k d n_ z p:Int}{w:ByteArray}{l:List As}{t:Ab}(hw:B8 w=true)(hA:Xv L k w l z)(ht:gi L z=some t)(hs:isS t ⟨#[59]⟩=true)(hd:d<=30)(hn:n_<2000):RF L k d n_ ⟨⟨w,l,[],p⟩,z+1,n_+1,0⟩:=by
 refine⟨?_,⟨hd,hA.len,fun a ha=>(hA.ok a ha).2,trivial⟩,?_,?_,?_⟩
 . show (B8 w&&(l.all G8&&true))=true
   rw [hw,List.all_eq_true.2 fun a ha=>(hA.ok a ha).1];rfl
 . show n_+1=n_+(1+0);omega
 . show n_+1<=2000;omega
 . show sm L k+(tw ⟨1,0,w,0⟩+Dx (Ea l++[tS ⟨#[59]⟩]))<=sm L (z+1)
   rw [Dp,Dq ht hs]
   have:=hA.wt
   show sm L k+(tw ⟨1,0,w,0⟩+(Dx (Ea l)+(tw (tS ⟨#[59]⟩)+0)))<=_
   omega
theorem Y8 {k d n_:Int}{x:Ab}(hx:B8 x.S=true)(hd:d<=30)(hn:0<=n_/\n_<2000):∀ (n:Nat) (out:List As) (to:Int) (r:(List As×Int) ⊕ BJ),AU n L x n_ out to=some r->Xv L k x.S out to ->
 (∃ g,r=.inr g/\(g.E=0->RF L k d n_ g))∨∃ o z t,r=.inl (o,z)/\Xv L k x.S o z/\gi L z=some t/\isS t ⟨#[123]⟩=true
 |0,out,to,r,h,_=>by cases (AU.eq_1 _ _ _ _ _).symm.trans h
 |n+1,out,to,r,h,hA=>by
  have hl:=hM.len
  replace h:=(AU.eq_2 (n:=n) _ _ _ _ _).symm.trans h
  obtain⟨q1,hq1,_⟩:=Ae h
  obtain⟨t2,ht,_⟩:=Cq hq1
  have hr:=(Am ht).2
  simp only [AG ht,EF ht,Option.bind_some] at h
  rcases Ak h with⟨s1,h⟩|⟨s1,h⟩
  . have w1:IntKind.i64.wrap (to+1)=to+1:=by rw [A3]<;>omega
    have w2:IntKind.i64.wrap (n_+1)=n_+1:=by rw [A3]<;>omega
    rw [w1,w2] at h
    obtain rfl:=Ac h
    exact .inl ⟨_,rfl,fun _=>U4 hx hA ht s1 hd hn.2⟩
  rcases Ak h with⟨s2,h⟩|⟨s2,h⟩
  . obtain rfl:=Ac h
    exact .inr ⟨_,_,_,rfl,hA,ht,s2⟩
  obtain⟨v,hv,h⟩:=Ae h
  rcases Ak h with⟨s3,h⟩|⟨s3,h⟩
  . obtain rfl:=Ac h
    exact .inl ⟨_,rfl,fun h=>absurd (show (5:Int)=0 from h) (by decide)⟩
  have hbeg:Fh t2=true∨isS t2 ⟨#[45,62]⟩=true:=by
   rw [s3] at hv
   cases hb:Fh t2 with
   |true=>exact .inl rfl
   |false =>
    rw [hb] at hv
    refine .inr ?_
    have:=Ac hv
    unfold isS
    simpa using this
  rcases Ak h with⟨s4,h⟩|⟨s4,h⟩
  . obtain rfl:=Ac h
    exact .inl ⟨_,rfl,fun h=>absurd (show (2:Int)=0 from h) (by decide)⟩
  obtain⟨a,ha,h⟩:=Ae h
  rcases Ak h with⟨s5,h⟩|⟨s5,h⟩
  . obtain rfl:=Ac h
    exact .inl ⟨_,rfl,fun h=>absurd (show a.E=0 from h) (by simpa using s5)⟩
  have R:=XD hM hg ha (by simpa using s5) (fun t ht'=>by obtain rfl:t=t2:=Ac (ht'.symm.trans ht);exact hbeg)
  obtain⟨l4,hl4,h⟩:=Ae h
  obtain⟨rfl,_⟩:=FU (by decide) hl4
  have h40:out.length≠40:=by
   intro h;rw [h] at s4;cases s4
  have hlen:=hA.len
  refine Y8 hx hd hn n _ _ _ h ⟨fun b hb=>?_,by simp only [List.length_append,List.length_cons,List.length_nil];omega,?_⟩
  . rcases List.mem_append.1 hb with hb|hb
    . exact hA.ok b hb
    . rw [List.mem_singleton.1 hb];exact⟨R.ok,R.fit⟩
  . have x1:=hA.wt
    have x2:=R.wt
    rw [QK,Dp]
    show sm L k+(tw ⟨1,0,x.S,0⟩+(Dx (Ea out)+Dx (pA a.A++[])))<=_
    rw [List.append_nil]
    omega
omit hM hg in
theorem QH:∀ a b:List Af,Dj (a++b)=Dj a++Dj b
 | [],b=>rfl
 |x::a,b=>by show pF x++Dj (a++b)=pF x++Dj a++Dj b;rw [QH a b,List.append_assoc]
omit hM hg in
theorem Pc:∀ a b:List Af,CS (a++b)=(CS a&&CS b)
 | [],b=>rfl
 |x::a,b=>by show (okF x&&CS (a++b))=(okF x&&CS a&&CS b);rw [Pc a b,Bool.and_assoc]
omit hM hg in
theorem Nw:∀ a b:List Af,Dc (a++b)=Dc a+Dc b
 | [],b=>by show Dc b=0+Dc b;omega
 |x::a,b=>by show cntF x+Dc (a++b)=cntF x+Dc a+Dc b;rw [Nw a b];omega
omit hM hg in
theorem Nn {d:Int}:∀ {a b:List Af},GO a d->GO b d->GO (a++b) d
 | [],b,_,h=>h
 |x::a,b,h1,h2=>⟨h1.1,Nn h1.2 h2⟩
structure W9 (L:List Ab) (s0:Nat) (d n0:Int) (l:List Af) (z N:Int):Prop where
 ok:CS l=true
 fit:GO l d
 cnt:N=n0+Dc l
 max:N<=2000
 wt:s0+Dx (Dj l)<=sm L z
omit hM hg in
theorem W9.snoc {s0:Nat}{d n0 z N:Int}{l:List Af}{g:BJ}(h:W9 L s0 d n0 l z N)(hf:RF L z d N g):W9 L s0 d n0 (l++[g.F]) g.To g.N:=by
 refine⟨by rw [Pc,h.ok];show (true&&(okF g.F&&true))=true;rw [hf.ok];rfl,Nn h.fit ⟨hf.fit,trivial⟩,?_,hf.max,?_⟩
 . rw [Nw,hf.cnt,h.cnt]
   show n0+Dc l+cntF g.F=n0+(Dc l+(cntF g.F+0));omega
 . have x1:=h.wt
   have x2:=hf.wt
   rw [QH,Dp]
   show s0+(Dx (Dj l)+Dx (pF g.F++[]))<=_
   rw [List.append_nil];omega
structure Y2 (L:List Ab) (n:Nat):Prop where
 fF:∀ k d n_ g,0<=d->d<=31->0<=n_->BU n L k d n_=some g->g.E=0->RF L k d n_ g
 f1:∀ k d n_ x l out z N g p t,0<=d->d<=30->0<=n_->B8 x.S=true->Xv L k x.S l p->gi L p=some t->isS t ⟨#[123]⟩=true->W9 L (sm L (p+1)) (d+1) (n_+1) out z N->0<=N->Be n L x l d out z N=some g->g.E=0->RF L k d n_ g
theorem Vu:∀ n,Y2 L n
 |0=>{
  fF:=fun k d n_ g _ _ _ h=>by cases (BU.eq_1 _ _ _ _).symm.trans h
  f1:=fun k d n_ x l out z N g p t _ _ _ _ _ _ _ _ _ h=>by cases (Be.eq_1 _ _ _ _ _ _ _).symm.trans h }
 |n+1=>by
  have ih:=Vu n
  have hl:=hM.len
  constructor
  . intro k d n_ g d0 d1 n0 h he
    replace h:=(BU.eq_2 (n:=n) _ _ _ _).symm.trans h
    obtain⟨x,hx,h⟩:=Ae h
    have hk:=(Am hx).2
    rcases Ak h with⟨q,h⟩|⟨q,h⟩
    . obtain rfl:=Ac h
      exact absurd (show (5:Int)=0 from he) (by decide)
    have k1:x.Kind=1:=by simpa using q
    obtain⟨v,hv,h⟩:=Ae h
    rcases Ak h with⟨q2,h⟩|⟨q2,h⟩
    . obtain rfl:=Ac h
      exact absurd (show (2:Int)=0 from he) (by decide)
    rw [q2] at hv
    have hdn:d<=30/\n_<2000:=by
     rcases Ak hv with⟨_,b⟩|⟨a,b⟩
     . cases b
     . have a:¬ 30<d:=by simpa using a
       have b:¬ 2000<=n_:=by simpa using Ac b
       omega
    have w1:IntKind.i64.wrap (k+1)=k+1:=by rw [A3]<;>omega
    have w2:IntKind.i64.wrap (n_+1)=n_+1:=by rw [A3]<;>omega
    rw [w1,w2] at h
    have hn:=(hg _ (EH hx)).name k1
    have st:=Iz hx
    have e1:tw x=tw ⟨1,0,x.S,0⟩:=by unfold tw Em;rw [k1];rfl
    obtain⟨y,hy,h⟩:=Ae h
    have hA:Xv L k x.S [] (k+1):=⟨fun a ha=>(by cases ha),by simp,by show sm L k+(tw ⟨1,0,x.S,0⟩+0)<=_;omega⟩
    rcases Y8 hM hg (d:=d) hn hdn.1 ⟨n0,hdn.2⟩ n _ _ _ hy hA with⟨g',rfl,hg'⟩|⟨o,z,t,rfl,hA2,ht,hs⟩
    . obtain rfl:=Ac h
      exact hg' he
    . have hz:=(Am ht).2
      have w3:IntKind.i64.wrap (z+1)=z+1:=by rw [A3]<;>omega
      have h:Be n L x o d [] (IntKind.i64.wrap (z+1)) (n_+1)=some g:=h
      rw [w3] at h
      exact ih.f1 k d n_ x o [] (z+1) (n_+1) g z t d0 hdn.1 n0 hn hA2 ht hs ⟨rfl,trivial,by show n_+1=n_+1+0;omega,by omega,by show sm L (z+1)+0<=_;omega⟩ (by omega) h he
  . intro k d n_ x l out z N g p t d0 d1 n0 hn hA ht hs hF hN h he
    replace h:=(Be.eq_2 (n:=n) _ _ _ _ _ _ _).symm.trans h
    obtain⟨q1,hq1,h⟩:=Ae h
    obtain⟨t1,ht1,rfl⟩:=Cq hq1
    have hz:=(Am ht1).2
    have w1:IntKind.i64.wrap (z+1)=z+1:=by rw [A3]<;>omega
    have w2:IntKind.i64.wrap (d+1)=d+1:=by rw [A3]<;>omega
    rcases Ak h with⟨s1,h⟩|⟨s1,h⟩
    . rw [w1] at h
      obtain rfl:=Ac h
      have x1:=hA.wt
      have x2:=hF.wt
      have x3:=Dq ht hs
      have x4:=Dq ht1 s1
      refine⟨?_,⟨d1,hA.len,fun a ha=>(hA.ok a ha).2,hF.fit⟩,?_,hF.max,?_⟩
      . show (B8 x.S&&(l.all G8&&CS out))=true
        rw [hn,List.all_eq_true.2 fun a ha=>(hA.ok a ha).1,hF.ok];rfl
      . show N=n_+(1+Dc out)
        have:=hF.cnt;omega
      . show sm L k+(tw ⟨1,0,x.S,0⟩+Dx (Ea l++(if out.isEmpty then [tS ⟨#[59]⟩] else tS ⟨#[123]⟩::(Dj out++[tS ⟨#[125]⟩]))))<=sm L (z+1)
        rw [Dp]
        have t59:tw (tS ⟨#[59]⟩)<=tw (tS ⟨#[123]⟩):=Nat.le_refl _
        split
        . show sm L k+(tw ⟨1,0,x.S,0⟩+(Dx (Ea l)+(tw (tS ⟨#[59]⟩)+0)))<=_
          omega
        . show sm L k+(tw ⟨1,0,x.S,0⟩+(Dx (Ea l)+(tw (tS ⟨#[123]⟩)+Dx (Dj out++[tS ⟨#[125]⟩]))))<=_
          rw [Dp]
          show sm L k+(tw ⟨1,0,x.S,0⟩+(Dx (Ea l)+(tw (tS ⟨#[123]⟩)+(Dx (Dj out)+(tw (tS ⟨#[125]⟩)+0)))))<=_
          omega
    . rw [w2] at h
      obtain⟨f,hf,h⟩:=Ae h
      rcases Ak h with⟨s2,h⟩|⟨s2,h⟩
      . obtain rfl:=Ac h
        rw [he] at s2;cases s2
      have f0:f.E=0:=by simpa using s2
      have R:=ih.fF _ _ _ _ (by omega) (by omega) hN hf f0
      obtain⟨l1,hl1,h⟩:=Ae h
      obtain rfl:=Ac hl1
      obtain⟨l2,hl2,h⟩:=Ae h
      obtain⟨rfl,_⟩:=FU (by decide) hl2
      have:=Iu f.F
      exact ih.f1 k d n_ x l _ _ _ g p t d0 d1 n0 hn hA ht hs (hF.snoc R) (by rw [R.cnt];omega) h he
theorem WW {P:Ay}:∀ (n:Nat) (out:List Af) (k N:Int) (la:List Af),Bn n ⟨L,P⟩ out k N=some (.inl la)->W9 L 0 1 0 out k N->0<=N->∃ z N',W9 L 0 1 0 la z N'/\z<(L.length:Int)
 |0,out,k,N,la,h,_,_=>by cases (Bn.eq_1 _ _ _ _).symm.trans h
 |n+1,out,k,N,la,h,hF,hN=>by
  replace h:=(Bn.eq_2 (n:=n) _ _ _ _).symm.trans h
  obtain⟨x,hx,h⟩:=Ae h
  have hk:=(Am hx).2
  rcases Ak h with⟨q,h⟩|⟨q,h⟩
  . obtain⟨f,hf,h⟩:=Ae h
    rcases Ak h with⟨s2,h⟩|⟨s2,h⟩
    . obtain⟨x2,_,h⟩:=Ae h
      cases Ac h
    have f0:f.E=0:=by simpa using s2
    have R:=(Vu hM hg n).fF _ _ _ _ (by decide) (by decide) hN hf f0
    obtain⟨l1,hl1,h⟩:=Ae h
    obtain rfl:=Ac hl1
    obtain⟨l2,hl2,h⟩:=Ae h
    obtain⟨rfl,_⟩:=FU (by decide) hl2
    have:=Iu f.F
    exact WW n _ _ _ la h (hF.snoc R) (by rw [R.cnt];omega)
  . cases Ac h
    exact⟨k,N,hF,hk.2⟩
end
end Go.Sp
