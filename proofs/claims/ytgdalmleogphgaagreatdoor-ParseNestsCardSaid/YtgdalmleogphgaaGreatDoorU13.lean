/-
  What the reference's parser reads in one list of tokens it reads in the other, too, or it is too deep there. No program.
-/
import Derived.Test.YtgdalmleogphgaaGreatDoorU12
namespace Go.Sp
open Go
theorem Hit.first {c:Int}{r:Option Int}{v:Int}{G:Int->ref32_Got}{K:Option ref32_Got}{to:Int}{X:api_Expr}(hr:r=some v)(h2:v=0∨v=2/\c≠0)(hE:∀ v,(G v).E=v)(k:Hit c K to X) :
 Hit c (r.bind fun e=>bif (e != 0) then some (G e) else K) to X:=by
 subst hr
 rcases h2 with rfl|⟨rfl,hc⟩
 . exact k
 . exact .deep (hE 2) hc
theorem gapp_same {α:Type}{b:Nat}{x y z x' y':List α}(h:gapp b x y=some z)(h1:x'.length=x.length)(h2:y'.length=y.length):gapp b x' y'=some (x'++y'):=by
 unfold gapp at h ⊢
 split at h
 . rename_i h3;rw [if_pos (by rw [h1,h2];exact h3)]
 . cases h
theorem level_gi {n:Nat}{L:List api_Token}{k:Int}{r:ref32_Level}(h:ref32_level n L k=some r):∃ t,gi L k=some t:=by
 unfold ref32_level at h
 cases n with
 |zero=>cases h
 |succ n =>
  simp only [Option.bind_some] at h
  obtain⟨y,hy,_⟩:=bindS h
  replace hy:=(ref32_level_l1.eq_2 (n:=n) _ _ _ _ _).symm.trans hy
  rcases condS hy with⟨_,hy⟩|⟨h2,_⟩
  . obtain⟨x,_,hy⟩:=bindS hy
    obtain⟨b,hb,_⟩:=bindS hy
    obtain⟨t,ht,_⟩:=sgn_some hb
    exact⟨t,ht⟩
  . cases h2
theorem expr_first {n:Nat}{L:List api_Token}{k d:Int}{g:ref32_Got}(h:ref32_expr n L k d=some g)(hg:g.E=0):ref32_first L k d true=some 0:=by
 cases n with
 |zero=>cases (ref32_expr.eq_1 _ _ _).symm.trans h
 |succ n =>
  replace h:=(ref32_expr.eq_2 (n:=n) _ _ _).symm.trans h
  obtain⟨v,hv,h⟩:=bindS h
  rcases condS h with⟨hb,h⟩|⟨hb,h⟩
  . obtain rfl:=Option.some.inj h;rw [show v=0 from hg] at hb;cases hb
  . obtain rfl:v=0:=by simpa using hb
    exact hv
def Res (c:Int)(M:List api_Token)(s e k:Int)(g:ref32_Got)(run:Option ref32_Got):Prop :=
 k<g.To/\g.To<=e/\((g.To<e∨Neu M (e+s))->Hit c run (g.To+s) g.X)
structure SimA (L M:List api_Token) (s e c:Int) (n:Nat):Prop where
 fE:∀ k d g,0<=d->d<=31->ref32_expr n L k d=some g->g.E=0->Res c M s e k g (ref32_expr n M (k+s) (d+c))
 fB:∀ k v d g,1<=v->v<=7->0<=d->d<=30->ref32_binary n L k v d=some g->g.E=0->Res c M s e k g (ref32_binary n M (k+s) v (d+c))
 fL:∀ v x d a b o ks to r,1<=v->v<=6->0<=d->d<=30->ref32_binary_l1 n L v x d a b o ks to 0=some r->∃ g,r=.inr g/\(g.E=0->to<=g.To/\g.To<=e/\((g.To<e∨Neu M (e+s)) ->
  ∀ x' ks',stL ks'=stL ks->∃ g',ref32_binary_l1 n M v x' (d+c) a b o ks' (to+s) 0=some (.inr g')/\(g'.E=2/\c≠0∨g'.E=0/\g'.To=g.To+s/\stE g'.X=stE g.X)))
 fM:∀ k d g,0<=d->d<=30->ref32_minus n L k d=some g->g.E=0->Res c M s e k g (ref32_minus n M (k+s) (d+c))
 fA:∀ k d g,0<=d->d<=30->ref32_atom n L k d=some g->g.E=0->Res c M s e k g (ref32_atom n M (k+s) (d+c))
 fG:∀ k d g,0<=d->d<=30->ref32_bang n L k d=some g->g.E=0->Res c M s e k g (ref32_bang n M (k+s) (d+c))
 fS:∀ k d g,0<=d->d<=30->ref32_args n L k d=some g->g.E=0->Res c M s e k g (ref32_args n M (k+s) (d+c))
 fT:∀ d x x' to out out' g,x'.S=x.S->stL out'=stL out->0<=d->d<=30->ref32_args_l1 n L d x to out=some g->g.E=0->Res c M s e to g (ref32_args_l1 n M (d+c) x' (to+s) out')
section
variable {L M:List api_Token} {s e c:Int} (S:Sh L M s e) (hc:0<=c/\c<=9)
include S hc
theorem simE1 {n:Nat}(ih:SimA L M s e c n):∀ k d g,0<=d->d<=31->ref32_expr (n+1) L k d=some g->g.E=0->Res c M s e k g (ref32_expr (n+1) M (k+s) (d+c)):=by
 have he:=S.he
 have hs:=S.hs
 intro k d g d0 d1 h hg
 replace h:=(ref32_expr.eq_2 (n:=n) _ _ _).symm.trans h
 obtain⟨v,hv,h⟩:=bindS h
 rcases condS h with⟨hb,h⟩|⟨hb,h⟩
 . obtain rfl:=Option.some.inj h;rw [show v=0 from hg] at hb;cases hb
 obtain rfl:v=0:=by simpa using hb
 obtain⟨t,ht,hf⟩:=fst_some hv
 have hd:=(fst_lt hf.symm).2
 obtain⟨hk,w,hw,hw2⟩:=S.fs (c:=c) ht hf.symm
 have hk0:=(S.rng ht).1
 obtain⟨x,hx,x0,h⟩:=gotS h hg
 obtain⟨x1,x2,xM⟩:=ih.fB _ _ _ _ (by decide) (by decide) d0 hd hx x0
 obtain⟨q,hq,h⟩:=bindS h
 obtain⟨t1,ht1,rfl⟩:=sgn_some hq
 have w1:IntKind.i64.wrap (x.To+1)=x.To+1:=by rw [wrap_id]<;>omega
 have w2:IntKind.i64.wrap (d+1)=d+1:=by rw [wrap_id]<;>omega
 have w1':IntKind.i64.wrap (x.To+s+1)=x.To+1+s:=by rw [wrap_id]<;>omega
 have w2':IntKind.i64.wrap (d+c+1)=d+1+c:=by rw [wrap_id]<;>omega
 cases hb:isS t1 ⟨#[63]⟩ with
 |false =>
  rw [hb] at h
  obtain rfl:=Option.some.inj h
  refine⟨x1,x2,fun hn=>Hit.eq (ref32_expr.eq_2 (n:=n) _ _ _) (Hit.first hw hw2 (fun _=>rfl) (Hit.bind (xM hn) fun Y hY=>?_))⟩
  rw [S.sn ht1 hn _ (.tail _ (.head _)),hb]
  exact Hit.ok hY
 |true =>
  rw [hb] at h
  simp only [Bool.not_true,cond_false] at h
  obtain⟨a,ha,a0,h⟩:=gotS h hg
  rw [w1,w2] at ha
  obtain⟨a1,a2,aM⟩:=ih.fE _ _ _ (by omega) (by omega) ha a0
  obtain⟨q2,hq2,h⟩:=bindS h
  obtain⟨t2,ht2,rfl⟩:=sgn_some hq2
  have w3:IntKind.i64.wrap (a.To+1)=a.To+1:=by rw [wrap_id]<;>omega
  have w3':IntKind.i64.wrap (a.To+s+1)=a.To+1+s:=by rw [wrap_id]<;>omega
  cases hb2:isS t2 ⟨#[58]⟩ with
  |false =>
   rw [hb2] at h
   obtain rfl:=Option.some.inj h
   exact absurd (show (5:Int)=0 from hg) (by decide)
  |true =>
   rw [hb2] at h
   simp only [Bool.not_true,cond_false] at h
   obtain⟨b,hb',b0,h⟩:=gotS h hg
   rw [w3,w2] at hb'
   obtain⟨b1,b2,bM⟩:=ih.fE _ _ _ (by omega) (by omega) hb' b0
   obtain⟨l1,hl,h⟩:=bindS h
   obtain rfl:=Option.some.inj hl
   obtain rfl:=Option.some.inj h
   refine⟨by show k<b.To;omega,b2,fun hn=>Hit.eq (ref32_expr.eq_2 (n:=n) _ _ _) (Hit.first hw hw2 (fun _=>rfl) (Hit.bind (xM (.inl (by omega))) fun X hX=>?_))⟩
   rw [S.sn ht1 (.inl (by omega)) _ (.tail _ (.head _)),hb]
   simp only [Option.bind_some,Bool.not_true,cond_false,w1',w2']
   refine Hit.bind (aM (.inl (by omega))) fun A hA=>?_
   rw [S.sg ht2 (by omega) _,hb2]
   simp only [Option.bind_some,Bool.not_true,cond_false,w3']
   refine Hit.bind (bM hn) fun B hB=>?_
   exact Hit.ok (stE_mk (stL_3 hX hA hB))
theorem simM1 {n:Nat}(ih:SimA L M s e c n):∀ k d g,0<=d->d<=30->ref32_minus (n+1) L k d=some g->g.E=0->Res c M s e k g (ref32_minus (n+1) M (k+s) (d+c)):=by
 have he:=S.he
 have hs:=S.hs
 intro k d g d0 d1 h hg
 replace h:=(ref32_minus.eq_2 (n:=n) _ _ _).symm.trans h
 obtain⟨q,hq,h⟩:=bindS h
 obtain⟨t,ht,rfl⟩:=sgn_some hq
 have hk:=S.rng ht
 cases hb:isS t ⟨#[45]⟩ with
 |false =>
  rw [hb] at h
  simp only [Bool.not_false,cond_true] at h
  obtain⟨m,hm,h⟩:=bindS h
  obtain rfl:=Option.some.inj h
  obtain⟨m1,m2,mM⟩:=ih.fA _ _ _ d0 d1 hm hg
  refine⟨m1,m2,fun hn=>Hit.eq (ref32_minus.eq_2 (n:=n) _ _ _) ?_⟩
  rw [S.sg ht (by omega) _,hb]
  exact (mM hn).id
 |true =>
  rw [hb] at h
  simp only [Bool.not_true,cond_false] at h
  have w1:IntKind.i64.wrap (k+1)=k+1:=by rw [wrap_id]<;>omega
  have w2:IntKind.i64.wrap (d+1)=d+1:=by rw [wrap_id]<;>omega
  have w1':IntKind.i64.wrap (k+s+1)=k+1+s:=by rw [wrap_id]<;>omega
  have w2':IntKind.i64.wrap (d+c+1)=d+1+c:=by rw [wrap_id]<;>omega
  rw [w1,w2] at h
  obtain⟨v,hv,h⟩:=bindS h
  rcases condS h with⟨hb3,h⟩|⟨hb3,h⟩
  . obtain rfl:=Option.some.inj h;rw [show v=0 from hg] at hb3;cases hb3
  obtain rfl:v=0:=by simpa using hb3
  obtain⟨t2,ht2,hf⟩:=fst_some hv
  have hd:=(fst_lt hf.symm).2
  obtain⟨hk2,w,hw,hw2⟩:=S.fs (c:=c) ht2 hf.symm
  obtain⟨x,hx,x0,h⟩:=gotS h hg
  obtain⟨x1,x2,xM⟩:=ih.fM _ _ _ (by omega) hd hx x0
  obtain⟨t3,ht3,h⟩:=bindS h
  obtain⟨l1,hl,h⟩:=bindS h
  obtain rfl:=Option.some.inj hl
  obtain rfl:=Option.some.inj h
  refine⟨by show k<x.To;omega,x2,fun hn=>Hit.eq (ref32_minus.eq_2 (n:=n) _ _ _) ?_⟩
  rw [S.sg ht (by omega) _,hb]
  simp only [Option.bind_some,Bool.not_true,cond_false,w1',w2']
  refine Hit.first hw hw2 (fun _=>rfl) (Hit.bind (xM hn) fun X hX=>?_)
  obtain⟨t',ht',_⟩:=S.same _ _ (by omega) ht
  rw [ht']
  exact Hit.ok (stE_mk (stL_1 hX))
theorem simG1 {n:Nat}(ih:SimA L M s e c n):∀ k d g,0<=d->d<=30->ref32_bang (n+1) L k d=some g->g.E=0->Res c M s e k g (ref32_bang (n+1) M (k+s) (d+c)):=by
 have he:=S.he
 have hs:=S.hs
 intro k d g d0 d1 h hg
 replace h:=(ref32_bang.eq_2 (n:=n) _ _ _).symm.trans h
 obtain⟨q,hq,h⟩:=bindS h
 obtain⟨t,ht,rfl⟩:=sgn_some hq
 have hk:=S.rng ht
 cases hb:isS t ⟨#[33]⟩ with
 |false =>
  rw [hb] at h
  simp only [Bool.not_false,cond_true] at h
  obtain⟨m,hm,h⟩:=bindS h
  obtain rfl:=Option.some.inj h
  obtain⟨m1,m2,mM⟩:=ih.fB _ _ _ _ (by decide) (by decide) d0 d1 hm hg
  refine⟨m1,m2,fun hn=>Hit.eq (ref32_bang.eq_2 (n:=n) _ _ _) ?_⟩
  rw [S.sg ht (by omega) _,hb]
  exact (mM hn).id
 |true =>
  rw [hb] at h
  simp only [Bool.not_true,cond_false] at h
  have w1:IntKind.i64.wrap (k+1)=k+1:=by rw [wrap_id]<;>omega
  have w2:IntKind.i64.wrap (d+1)=d+1:=by rw [wrap_id]<;>omega
  have w1':IntKind.i64.wrap (k+s+1)=k+1+s:=by rw [wrap_id]<;>omega
  have w2':IntKind.i64.wrap (d+c+1)=d+1+c:=by rw [wrap_id]<;>omega
  rw [w1,w2] at h
  obtain⟨v,hv,h⟩:=bindS h
  rcases condS h with⟨hb3,h⟩|⟨hb3,h⟩
  . obtain rfl:=Option.some.inj h;rw [show v=0 from hg] at hb3;cases hb3
  obtain rfl:v=0:=by simpa using hb3
  obtain⟨t2,ht2,hf⟩:=fst_some hv
  have hd:=(fst_lt hf.symm).2
  obtain⟨hk2,w,hw,hw2⟩:=S.fs (c:=c) ht2 hf.symm
  obtain⟨x,hx,x0,h⟩:=gotS h hg
  obtain⟨x1,x2,xM⟩:=ih.fG _ _ _ (by omega) hd hx x0
  obtain⟨t3,ht3,h⟩:=bindS h
  obtain⟨l1,hl,h⟩:=bindS h
  obtain rfl:=Option.some.inj hl
  obtain rfl:=Option.some.inj h
  refine⟨by show k<x.To;omega,x2,fun hn=>Hit.eq (ref32_bang.eq_2 (n:=n) _ _ _) ?_⟩
  rw [S.sg ht (by omega) _,hb]
  simp only [Option.bind_some,Bool.not_true,cond_false,w1',w2']
  refine Hit.first hw hw2 (fun _=>rfl) (Hit.bind (xM hn) fun X hX=>?_)
  obtain⟨t',ht',_⟩:=S.same _ _ (by omega) ht
  rw [ht']
  exact Hit.ok (stE_mk (stL_1 hX))
omit S hc in
theorem simB1 {n:Nat}(ih:SimA L M s e c n):∀ k v d g,1<=v->v<=7->0<=d->d<=30->ref32_binary (n+1) L k v d=some g->g.E=0->Res c M s e k g (ref32_binary (n+1) M (k+s) v (d+c)):=by
 intro k v d g v1 v2 d0 d1 h hg
 replace h:=(ref32_binary.eq_2 (n:=n) _ _ _ _).symm.trans h
 rcases condS h with⟨q1,h⟩|⟨q1,h⟩
 . obtain⟨m,hm,h⟩:=bindS h
   obtain rfl:=Option.some.inj h
   obtain⟨m1,m2,mM⟩:=ih.fM _ _ _ d0 d1 hm hg
   refine⟨m1,m2,fun hn=>Hit.eq (ref32_binary.eq_2 (n:=n) _ _ _ _) ?_⟩
   rw [q1];exact (mM hn).id
 rcases condS h with⟨q2,h⟩|⟨q2,h⟩
 . obtain⟨m,hm,h⟩:=bindS h
   obtain rfl:=Option.some.inj h
   obtain⟨m1,m2,mM⟩:=ih.fG _ _ _ d0 d1 hm hg
   refine⟨m1,m2,fun hn=>Hit.eq (ref32_binary.eq_2 (n:=n) _ _ _ _) ?_⟩
   rw [q1,q2];exact (mM hn).id
 obtain⟨x,hx,h⟩:=bindS h
 have v3:v<=6:=by simpa using q1
 have w:IntKind.i64.wrap (v+1)=v+1:=by rw [wrap_id]<;>omega
 rw [w] at hx
 obtain⟨y,hy,h⟩:=bindS h
 cases n with
 |zero=>cases (ref32_binary.eq_1 _ _ _ _).symm.trans hx
 |succ n =>
 by_cases x0:x.E=0
 . rw [x0] at hy
   obtain⟨o,rfl,hL⟩:=ih.fL _ _ _ _ _ _ _ _ _ v1 v3 d0 d1 hy
   obtain rfl:=Option.some.inj h
   obtain⟨y1,y2,yM⟩:=hL hg
   obtain⟨x1,x2,xM⟩:=ih.fB _ _ _ _ (by omega) (by omega) d0 d1 hx x0
   refine⟨by omega,y2,fun hn=>Hit.eq (ref32_binary.eq_2 (n:=n+1) _ _ _ _) ?_⟩
   rw [q1,q2]
   simp only [cond_false,w]
   obtain⟨x',hx',hx2⟩:=xM (hn.imp (fun h=>by omega) id)
   rw [hx']
   simp only [Option.bind_some]
   rcases hx2 with h2|⟨h0,ht,hX⟩
   . rw [ref32_binary_l1.eq_2,h2.1]
     exact .deep rfl h2.2
   . obtain⟨p1,p2,p3,p4⟩:=stE_parts hX
     rw [h0,ht,p1,p2,p3]
     obtain⟨g',hg',hr⟩:=yM hn x' x'.X.Kids p4
     rw [hg']
     exact⟨g',rfl,hr⟩
 . exfalso
   replace hy:=(ref32_binary_l1.eq_2 (n:=n) _ _ _ _ _ _ _ _ _ _).symm.trans hy
   rcases condS hy with⟨q,hy⟩|⟨q,hy⟩
   . exact x0 (by simpa using q)
   . obtain rfl:=Option.some.inj hy
     obtain rfl:=Option.some.inj h
     exact x0 hg
omit hc in
theorem simL1 {n:Nat}(ih:SimA L M s e c n):∀ v x d a b o ks to r,1<=v->v<=6->0<=d->d<=30->ref32_binary_l1 (n+1) L v x d a b o ks to 0=some r->∃ g,r=.inr g/\(g.E=0->to<=g.To/\g.To<=e/\((g.To<e∨Neu M (e+s)) ->
 ∀ x' ks',stL ks'=stL ks->∃ g',ref32_binary_l1 (n+1) M v x' (d+c) a b o ks' (to+s) 0=some (.inr g')/\(g'.E=2/\c≠0∨g'.E=0/\g'.To=g.To+s/\stE g'.X=stE g.X))):=by
 have he:=S.he
 have hs:=S.hs
 intro v x d a b o ks to r v1 v2 d0 d1 h
 replace h:=(ref32_binary_l1.eq_2 (n:=n) _ _ _ _ _ _ _ _ _ _).symm.trans h
 replace h:=((condS h).resolve_right (fun q=>by cases q.1)).2
 obtain⟨op,hop,h⟩:=bindS h
 obtain⟨t,ht⟩:=level_gi hop
 have ht0:=S.rng ht
 have w1:IntKind.i64.wrap (to+1)=to+1:=by rw [wrap_id]<;>omega
 have wv:IntKind.i64.wrap (v+1)=v+1:=by rw [wrap_id]<;>omega
 have w1':IntKind.i64.wrap (to+s+1)=to+1+s:=by rw [wrap_id]<;>omega
 rcases condS h with⟨q1,h⟩|⟨q1,h⟩
 . obtain rfl:=Option.some.inj h
   refine⟨_,rfl,fun _=>⟨Int.le_refl _,ht0.2,fun hn x' ks' hk=>⟨⟨⟨a,b,o,ks',x'.X.At⟩,to+s,0⟩,(ref32_binary_l1.eq_2 (n:=n) _ _ _ _ _ _ _ _ _ _).trans ?_,.inr ⟨rfl,rfl,stE_mk hk⟩⟩⟩⟩
   rw [S.lv ht hn n,hop]
   simp only [beq_self_eq_true,cond_true,Option.bind_some,q1]
 . rw [w1,wv] at h
   obtain⟨y,hy,h⟩:=bindS h
   rcases condS h with⟨q2,h⟩|⟨q2,h⟩
   . obtain rfl:=Option.some.inj h
     exact⟨_,rfl,fun h0=>absurd h0 (by simpa using q2)⟩
   have y0:y.E=0:=by simpa using q2
   obtain⟨y1,y2,yM⟩:=ih.fB _ _ _ _ (by omega) (by omega) d0 d1 hy y0
   obtain⟨l1,hl,h⟩:=bindS h
   obtain rfl:=Option.some.inj hl
   rcases condS h with⟨q3,h⟩|⟨q3,h⟩
   . obtain rfl:=Option.some.inj h
     refine⟨_,rfl,fun _=>⟨by show to<=y.To;omega,y2,fun hn x' ks' hk=>?_⟩⟩
     obtain⟨y',hy',hr⟩:=yM hn
     rw [ref32_binary_l1.eq_2,S.lv ht (.inl (by omega)) n,hop]
     simp only [beq_self_eq_true,cond_true,Option.bind_some,q1,cond_false,w1',wv,hy']
     rcases hr with h2|⟨h0,h3,h4⟩
     . rw [show (y'.E != 0)=true by rw [h2.1];rfl];exact⟨y',rfl,.inl h2⟩
     . rw [show (y'.E != 0)=false by rw [h0];rfl]
       simp only [cond_false,q3,cond_true]
       exact⟨_,rfl,.inr ⟨rfl,h3,stE_mk (stL_2 (stE_mk hk) h4)⟩⟩
   . obtain⟨g,rfl,hL⟩:=ih.fL _ _ _ _ _ _ _ _ _ v1 v2 d0 d1 h
     refine⟨g,rfl,fun g0=>?_⟩
     obtain⟨g1,g2,gM⟩:=hL g0
     refine⟨by omega,g2,fun hn x' ks' hk=>?_⟩
     obtain⟨y',hy',hr⟩:=yM (hn.imp (fun h=>by omega) id)
     rw [ref32_binary_l1.eq_2,S.lv ht (.inl (by omega)) n,hop]
     simp only [beq_self_eq_true,cond_true,Option.bind_some,q1,cond_false,w1',wv,hy']
     rcases hr with h2|⟨h0,h3,h4⟩
     . rw [show (y'.E != 0)=true by rw [h2.1];rfl];exact⟨y',rfl,.inl h2⟩
     . rw [show (y'.E != 0)=false by rw [h0];rfl]
       simp only [cond_false,q3]
       obtain⟨g',hg',hr⟩:=gM hn x' [api_Expr.mk a b o ks' x'.X.At,y'.X] (stL_2 (stE_mk hk) h4)
       rw [h3];exact⟨g',hg',hr⟩
theorem simA1 {n:Nat}(ih:SimA L M s e c n):∀ k d g,0<=d->d<=30->ref32_atom (n+1) L k d=some g->g.E=0->Res c M s e k g (ref32_atom (n+1) M (k+s) (d+c)):=by
 have he:=S.he
 have hs:=S.hs
 intro k d g d0 d1 h hg
 replace h:=(ref32_atom.eq_2 (n:=n) _ _ _).symm.trans h
 obtain⟨t,ht,h⟩:=bindS h
 obtain⟨q,hq,h⟩:=bindS h
 obtain⟨t1,ht1,rfl⟩:=sgn_some hq
 obtain rfl:t1=t:=Option.some.inj (ht1.symm.trans ht)
 have hk0:=S.rng ht
 have h5:t1.Kind≠5:=by
  intro h5
  have e1:isS t1 ⟨#[40]⟩=false:=by unfold isS;rw [h5];rfl
  rw [e1,h5] at h
  obtain rfl:=Option.some.inj h
  exact absurd (show (5:Int)=0 from hg) (by decide)
 have hk:=S.lt ht h5
 obtain⟨t',ht',e1,e2,e3⟩:=S.same _ _ hk ht
 have w1:IntKind.i64.wrap (k+1)=k+1:=by rw [wrap_id]<;>omega
 have w2:IntKind.i64.wrap (d+1)=d+1:=by rw [wrap_id]<;>omega
 have w1':IntKind.i64.wrap (k+s+1)=k+1+s:=by rw [wrap_id]<;>omega
 have w2':IntKind.i64.wrap (d+c+1)=d+1+c:=by rw [wrap_id]<;>omega
 cases hb:isS t1 ⟨#[40]⟩ with
 |true =>
  rw [hb] at h
  simp only [cond_true] at h
  rw [w1,w2] at h
  obtain⟨x,hx,x0,h⟩:=gotS h hg
  obtain⟨x1,x2,xM⟩:=ih.fE _ _ _ (by omega) (by omega) hx x0
  obtain⟨q2,hq2,h⟩:=bindS h
  obtain⟨t2,ht2,rfl⟩:=sgn_some hq2
  have hx0:=S.rng ht2
  have w3:IntKind.i64.wrap (x.To+1)=x.To+1:=by rw [wrap_id]<;>omega
  have w3':IntKind.i64.wrap (x.To+s+1)=x.To+1+s:=by rw [wrap_id]<;>omega
  cases hb2:isS t2 ⟨#[41]⟩ with
  |false =>
   rw [hb2] at h
   obtain rfl:=Option.some.inj h
   exact absurd (show (5:Int)=0 from hg) (by decide)
  |true =>
   have hl:=S.lt ht2 (by rw [isS_kind hb2];decide)
   rw [hb2] at h
   simp only [Bool.not_true,cond_false] at h
   rw [w3] at h
   obtain rfl:=Option.some.inj h
   refine⟨by show k<x.To+1;omega,by show x.To+1<=e;omega,fun hn=>Hit.eq (ref32_atom.eq_2 (n:=n) _ _ _) ?_⟩
   rw [ht',S.sg ht hk _,hb]
   simp only [Option.bind_some,cond_true,w1',w2']
   refine Hit.bind (xM (.inl hl)) fun X hX=>?_
   rw [S.sg ht2 hl _,hb2]
   simp only [Option.bind_some,Bool.not_true,cond_false,w3']
   exact Hit.ok hX
 |false =>
  rw [hb] at h
  simp only [cond_false] at h
  have go:∀ X to,Hit c (bif (t'.Kind == 2) then some (ref32_Got.mk (api_Expr.mk 1 t'.N ⟨#[]⟩ [] t'.At) (k+1+s) 0) else
   bif (t'.Kind == 3) then some (ref32_Got.mk (api_Expr.mk 2 0 t'.S [] t'.At) (k+1+s) 0) else
   bif (t'.Kind != 1) then some (ref32_Got.mk (api_Expr.mk 0 0 ⟨#[]⟩ [] 0) (k+s) 5) else
   (ref32_sign M (k+1+s) ⟨#[40]⟩).bind fun call=>bif (!call) then some (ref32_Got.mk (api_Expr.mk 3 0 t'.S [] t'.At) (k+1+s) 0) else
    (ref32_args n M (k+s) (d+c)).bind fun a_=>some a_) to X->Hit c (ref32_atom (n+1) M (k+s) (d+c)) to X:=by
   intro X to hh
   refine Hit.eq (ref32_atom.eq_2 (n:=n) _ _ _) ?_
   rw [ht',S.sg ht hk _,hb]
   simp only [Option.bind_some,cond_false,w1']
   exact hh
  rw [w1] at h
  rcases condS h with⟨p1,h⟩|⟨p1,h⟩
  . obtain rfl:=Option.some.inj h
    refine⟨by show k<k+1;omega,by show k+1<=e;omega,fun hn=>go _ _ ?_⟩
    rw [e1,p1,e3]
    exact Hit.ok rfl
  rcases condS h with⟨p2,h⟩|⟨p2,h⟩
  . obtain rfl:=Option.some.inj h
    refine⟨by show k<k+1;omega,by show k+1<=e;omega,fun hn=>go _ _ ?_⟩
    rw [e1,p1,p2,e2]
    exact Hit.ok rfl
  rcases condS h with⟨p3,h⟩|⟨p3,h⟩
  . obtain rfl:=Option.some.inj h
    exact absurd (show (5:Int)=0 from hg) (by decide)
  obtain⟨q2,hq2,h⟩:=bindS h
  obtain⟨t2,ht2,rfl⟩:=sgn_some hq2
  cases hb2:isS t2 ⟨#[40]⟩ with
  |false =>
   rw [hb2] at h
   obtain rfl:=Option.some.inj h
   refine⟨by show k<k+1;omega,by show k+1<=e;omega,fun hn=>go _ _ ?_⟩
   rw [e1,p1,p2,p3,e2,S.sn ht2 hn _ (.head _),hb2]
   exact Hit.ok rfl
  |true =>
   have hl:=S.lt ht2 (by rw [isS_kind hb2];decide)
   rw [hb2] at h
   simp only [Bool.not_true,cond_false] at h
   obtain⟨m,hm,h⟩:=bindS h
   obtain rfl:=Option.some.inj h
   obtain⟨m1,m2,mM⟩:=ih.fS _ _ _ d0 d1 hm hg
   refine⟨m1,m2,fun hn=>go _ _ ?_⟩
   rw [e1,p1,p2,p3,S.sg ht2 hl _,hb2]
   exact (mM hn).id
omit hc in
theorem simS1 {n:Nat}(ih:SimA L M s e c n):∀ k d g,0<=d->d<=30->ref32_args (n+1) L k d=some g->g.E=0->Res c M s e k g (ref32_args (n+1) M (k+s) (d+c)):=by
 have he:=S.he
 have hs:=S.hs
 intro k d g d0 d1 h hg
 replace h:=(ref32_args.eq_2 (n:=n) _ _ _).symm.trans h
 obtain⟨t,ht,h⟩:=bindS h
 obtain⟨q,hq,h⟩:=bindS h
 obtain⟨t1,ht1,rfl⟩:=sgn_some hq
 have hk0:=S.rng ht
 have w1:IntKind.i64.wrap (k+2)=k+2:=by rw [wrap_id]<;>omega
 have w3:IntKind.i64.wrap (k+2+1)=k+3:=by rw [wrap_id]<;>omega
 have w1':IntKind.i64.wrap (k+s+2)=k+2+s:=by rw [wrap_id]<;>omega
 have w3':IntKind.i64.wrap (k+2+s+1)=k+3+s:=by rw [wrap_id]<;>omega
 rw [w1] at ht1
 have hk2:=S.rng ht1
 obtain⟨t',ht',e1,e2,e3⟩:=S.same _ _ (by omega) ht
 rw [w1] at h
 cases hb:isS t1 ⟨#[41]⟩ with
 |true =>
  have hl:=S.lt ht1 (by rw [isS_kind hb];decide)
  rw [hb] at h
  simp only [cond_true] at h
  rw [w3] at h
  obtain rfl:=Option.some.inj h
  refine⟨by show k<k+3;omega,by show k+3<=e;omega,fun hn=>Hit.eq (ref32_args.eq_2 (n:=n) _ _ _) ?_⟩
  rw [ht',w1',S.sg ht1 hl _,hb]
  simp only [Option.bind_some,cond_true,w3',e2]
  exact Hit.ok rfl
 |false =>
  rw [hb] at h
  simp only [cond_false] at h
  have hT:=fun x' hx'=>ih.fT d t x' (k+2) [] [] g hx' rfl d0 d1 h hg
  obtain⟨g1,g2,_⟩:=hT t rfl
  refine⟨by omega,g2,fun hn=>Hit.eq (ref32_args.eq_2 (n:=n) _ _ _) ?_⟩
  rw [ht',w1',S.sg ht1 (by omega) _,hb]
  exact (hT t' e2).2.2 hn
theorem simT1 {n:Nat}(ih:SimA L M s e c n):∀ d x x' to out out' g,x'.S=x.S->stL out'=stL out->0<=d->d<=30->ref32_args_l1 (n+1) L d x to out=some g->g.E=0->Res c M s e to g (ref32_args_l1 (n+1) M (d+c) x' (to+s) out'):=by
 have he:=S.he
 have hs:=S.hs
 intro d x x' to out out' g hx ho d0 d1 h hg
 replace h:=(ref32_args_l1.eq_2 (n:=n) _ _ _ _ _).symm.trans h
 have w2:IntKind.i64.wrap (d+1)=d+1:=by rw [wrap_id]<;>omega
 have w2':IntKind.i64.wrap (d+c+1)=d+1+c:=by rw [wrap_id]<;>omega
 rw [w2] at h
 obtain⟨v,hv,h⟩:=bindS h
 obtain⟨b,hb,h⟩:=bindS h
 rcases condS h with⟨q,h⟩|⟨q,h⟩
 . obtain rfl:=Option.some.inj h
   exact absurd (show (2:Int)=0 from hg) (by decide)
 obtain⟨y,hy,y0,h⟩:=gotS h hg
 obtain⟨y1,y2,yM⟩:=ih.fE _ _ _ (by omega) (by omega) hy y0
 have v0:v=0:=Option.some.inj (hv.symm.trans (expr_first hy y0))
 rw [v0] at hv hb
 obtain⟨t,ht,hf⟩:=fst_some hv
 have ht0:=S.rng ht
 obtain⟨hk,w,hw,hw2⟩:=S.fs (c:=c) ht hf.symm
 obtain⟨l1,hl,h⟩:=bindS h
 obtain rfl:=Option.some.inj hl
 obtain⟨l2,hl2,h⟩:=bindS h
 obtain⟨rfl,_⟩:=gapp_len (by decide) hl2
 obtain⟨q2,hq2,h⟩:=bindS h
 obtain⟨t2,ht2,rfl⟩:=sgn_some hq2
 have hlen:out'.length=out.length:=by rw [<- stL_len out',ho,stL_len]
 have w3:IntKind.i64.wrap (y.To+1)=y.To+1:=by rw [wrap_id]<;>omega
 have w3':IntKind.i64.wrap (y.To+s+1)=y.To+1+s:=by rw [wrap_id]<;>omega
 have h40:((out'.length:Int) == 40)=false:=by
  rw [hlen]
  simp only [beq_self_eq_true,cond_true] at hb
  rcases condS hb with⟨_,hb⟩|⟨h0,_⟩
  . rw [<- Option.some.inj hb] at q;cases q
  . exact h0
 have go:∀ X z,(y.To<e∨Neu M (e+s))->(∀ Y,stE Y=stE y.X->Hit c ((ref32_sign M (y.To+s) ⟨#[41]⟩).bind fun shut =>
  bif shut then some (ref32_Got.mk (api_Expr.mk 4 0 x'.S (out'++[Y]) x'.At) (y.To+1+s) 0) else
  (ref32_sign M (y.To+s) ⟨#[44]⟩).bind fun comma=>bif (!comma) then some (ref32_Got.mk (api_Expr.mk 0 0 ⟨#[]⟩ [] 0) (y.To+s) 5) else
   ref32_args_l1 n M (d+c) x' (y.To+1+s) (out'++[Y])) z X)->Hit c (ref32_args_l1 (n+1) M (d+c) x' (to+s) out') z X:=by
  intro X z hn hh
  refine Hit.eq (ref32_args_l1.eq_2 (n:=n) _ _ _ _ _) ?_
  rw [w2',hw]
  simp only [Option.bind_some,h40,cond_false]
  rcases hw2 with rfl|⟨rfl,hc0⟩
  . refine Hit.bind (yM hn) fun Y hY=>?_
    rw [gapp_same (y':=[Y]) hl2 hlen rfl]
    simp only [Option.bind_some,w3']
    exact hh Y hY
  . exact .deep rfl hc0
 cases hb2:isS t2 ⟨#[41]⟩ with
 |true =>
  have hl:=S.lt ht2 (by rw [isS_kind hb2];decide)
  rw [hb2] at h
  simp only [cond_true] at h
  rw [w3] at h
  obtain rfl:=Option.some.inj h
  refine⟨by show to<y.To+1;omega,by show y.To+1<=e;omega,fun hn=>go _ _ (.inl hl) fun Y hY=>?_⟩
  rw [S.sg ht2 hl _,hb2,hx]
  exact Hit.ok (stE_mk (by rw [stL_app,stL_app,ho,stL_1 hY]))
 |false =>
  rw [hb2] at h
  simp only [cond_false] at h
  obtain⟨q3,hq3,h⟩:=bindS h
  obtain⟨t3,ht3,rfl⟩:=sgn_some hq3
  obtain rfl:t3=t2:=Option.some.inj (ht3.symm.trans ht2)
  cases hb3:isS t3 ⟨#[44]⟩ with
  |false =>
   rw [hb3] at h
   obtain rfl:=Option.some.inj h
   exact absurd (show (5:Int)=0 from hg) (by decide)
  |true =>
   have hl:=S.lt ht2 (by rw [isS_kind hb3];decide)
   rw [hb3] at h
   simp only [Bool.not_true,cond_false] at h
   rw [w3] at h
   have hT:=fun Y (hY:stE Y=stE y.X)=>ih.fT d x x' (y.To+1) (out++[y.X]) (out'++[Y]) g hx (by rw [stL_app,stL_app,ho,stL_1 hY]) d0 d1 h hg
   obtain⟨g1,g2,_⟩:=hT y.X rfl
   refine⟨by omega,g2,fun hn=>go _ _ (.inl hl) fun Y hY=>?_⟩
   rw [S.sg ht2 hl _,hb2]
   simp only [Option.bind_some,cond_false]
   rw [S.sg ht2 hl _,hb3]
   exact (hT Y hY).2.2 hn
theorem simA0:∀ n,SimA L M s e c n
 |0=>{
  fE:=fun k d g _ _ h=>by cases (ref32_expr.eq_1 _ _ _).symm.trans h
  fB:=fun k v d g _ _ _ _ h=>by cases (ref32_binary.eq_1 _ _ _ _).symm.trans h
  fL:=fun v x d a b o ks to r _ _ _ _ h=>by cases (ref32_binary_l1.eq_1 _ _ _ _ _ _ _ _ _ _).symm.trans h
  fM:=fun k d g _ _ h=>by cases (ref32_minus.eq_1 _ _ _).symm.trans h
  fA:=fun k d g _ _ h=>by cases (ref32_atom.eq_1 _ _ _).symm.trans h
  fG:=fun k d g _ _ h=>by cases (ref32_bang.eq_1 _ _ _).symm.trans h
  fS:=fun k d g _ _ h=>by cases (ref32_args.eq_1 _ _ _).symm.trans h
  fT:=fun d x x' to out out' g _ _ _ _ h=>by cases (ref32_args_l1.eq_1 _ _ _ _ _).symm.trans h }
 |n+1=>by
  have ih:=simA0 n
  exact⟨simE1 S hc ih,simB1 ih,simL1 S ih,simM1 S hc ih,simA1 S hc ih,simG1 S hc ih,simS1 S ih,simT1 S hc ih⟩
end
end Go.Sp
