/-
  How many parts there are: what ParseRoundTrip's Few and exprs answer. No program. What the reference's parser reads in one list of tokens it reads in another one in which they stand, with greater offsets: expressions. No program. What the reference's parser reads in one list of tokens it reads in another one in which they stand, with greater offsets: forms. No program. Two sources with a line feed between: their tokens, their forms. No program. An expression in parentheses behind a minus sign, and behind a not. No program.
-/
import Derived.Test.YtgdalmleogphgaaGreatDoorU17
import Derived.Test.YtgdalmleogphgaaGreatDoorU29
import Derived.Test.YtgdalmleogphgaaGreatDoorU31
namespace Go.Sp
open Go
theorem Pu:∀ (N:Nat) (e:Aa) (m:Int),m<=N->m<=1000->∃ r,Ev (fun n=>Ca n e m) r/\-1<=r/\(0<=r->r+Kz e=m/\Vr e<=300*Kz e):=by
 intro N
 induction N with
 |zero =>
  intro e m h _
  refine⟨-1,Ev.step (fun n=>Ca.eq_2 (n:=n) _ _) (Ev.of fun n=>?_),Int.le_refl _,fun h=>by omega⟩
  rw [decide_eq_true (show m<=0 by omega)];rfl
 |succ N ih =>
  intro e m h hm
  by_cases h0:m<=0
  . refine⟨-1,Ev.step (fun n=>Ca.eq_2 (n:=n) _ _) (Ev.of fun n=>?_),Int.le_refl _,fun h=>by omega⟩
    rw [decide_eq_true h0];rfl
  by_cases hS:(300:Int)<(e.S.size:Int)
  . refine⟨-1,Ev.step (fun n=>Ca.eq_2 (n:=n) _ _) (Ev.of fun n=>?_),Int.le_refl _,fun h=>by omega⟩
    rw [decide_eq_false h0,decide_eq_true hS];rfl
  have loop:∀ (rr j:Nat) (m':Int),e.Kids.length-j<=rr->m'<=N->-1<=m'->(j:Int)+m'<=1000->∃ r,Ev (fun n=>Ct n e m' (j:Int)) r/\-1<=r/\(0<=r->r+NH (e.Kids.drop j)=m'/\Rw (e.Kids.drop j)<=300*NH (e.Kids.drop j)):=by
   intro rr
   induction rr with
   |zero =>
    intro j m' hr _ hm1 _
    refine⟨m',Ev.step (fun n=>Ct.eq_2 (n:=n) _ _ _) (Ev.of fun n=>?_),hm1,fun _=>?_⟩
    . rw [decide_eq_false (by omega)];rfl
    . rw [List.drop_of_length_le (by omega)]
      exact⟨by show m'+((0:Nat):Int)=m';omega,Nat.le_refl _⟩
   |succ rr ihr =>
    intro j m' hr hm2 hm1 hj
    by_cases h3:j<e.Kids.length
    . by_cases hn:0<=m'
      . obtain⟨r1,e1,e2,e3⟩:=ih e.Kids[j] m' hm2 (by omega)
        have hp:=Gn e.Kids[j]
        obtain⟨r,f1,f2,f3⟩:=ihr (j+1) r1 (by omega) (by omega) e2 (by
         by_cases q:0<=r1
         . have:=(e3 q).1;omega
         . omega)
        refine⟨r,Ev.step (fun n=>Ct.eq_2 (n:=n) _ _ _) ?_,f2,fun h=>?_⟩
        . have w1:IntKind.i64.wrap ((j:Int)+1)=((j+1:Nat):Int):=by rw [A3]<;>omega
          simp only [decide_eq_true (show (j:Int)<(e.Kids.length:Int) by omega),decide_eq_true hn,cond_true,Option.bind_some,ED h3,w1]
          exact Ev.bind e1 f1
        . obtain⟨g1,g2⟩:=f3 h
          obtain⟨k1,k2⟩:=e3 (by omega)
          rw [List.drop_eq_getElem_cons h3]
          simp only [NH,Rw]
          omega
      . refine⟨m',Ev.step (fun n=>Ct.eq_2 (n:=n) _ _ _) (Ev.of fun n=>?_),hm1,fun h=>absurd h hn⟩
        rw [decide_eq_true (show (j:Int)<(e.Kids.length:Int) by omega),decide_eq_false hn];rfl
    . refine⟨m',Ev.step (fun n=>Ct.eq_2 (n:=n) _ _ _) (Ev.of fun n=>?_),hm1,fun _=>?_⟩
      . rw [decide_eq_false (by omega)];rfl
      . rw [List.drop_of_length_le (by omega)]
        exact⟨by show m'+((0:Nat):Int)=m';omega,Nat.le_refl _⟩
  obtain⟨r,f1,f2,f3⟩:=loop e.Kids.length 0 (m-1) (by omega) (by omega) (by omega) (by omega)
  refine⟨r,Ev.step (fun n=>Ca.eq_2 (n:=n) _ _) ?_,f2,fun h=>?_⟩
  . have w1:IntKind.i64.wrap (m-1)=m-1:=by rw [A3]<;>omega
    simp only [decide_eq_false h0,decide_eq_false hS,cond_false,Option.bind_some,w1]
    exact Ev.bind f1 Ev.pure
  . obtain⟨g1,g2⟩:=f3 h
    rw [List.drop_zero] at g1 g2
    cases e with
    |mk op v s l p =>
     simp only [Kz,Vr]
     simp only at g1 g2 hS
     omega
inductive O0:Af->Prop where
 |mk (w:ByteArray) (l:List As) (b:List Af) (p:Int) (hl:l.length<=9223372036854775807) (h:b.length<=9223372036854775807) (hb:∀ x∈b,O0 x):O0 ⟨w,l,b,p⟩
theorem Qs {x:Af}:∀ (rr i:Nat) (m:Int),x.Args.length-i<=rr->m<=1000->i<=2000->(0<=m->(i:Int)+m<=1000)->∃ y,Ev (fun n=>Cs n x m (i:Int)) y /\
 (y=.inr (-1)∨∃ r,y=.inl r/\r<=1000/\(0<=r->r+Ja (x.Args.drop i)=m+(x.Args.drop i).length/\∀ a∈x.Args.drop i,a.S.size<=300/\Vr a.E<=300*Kz a.E)):=by
 have stop:∀ (i:Nat) (m:Int),m<=1000->(x.Args.length<=i∨m<0)->∃ y,Ev (fun n=>Cs n x m (i:Int)) y /\
  (y=.inr (-1)∨∃ r,y=.inl r/\r<=1000/\(0<=r->r+Ja (x.Args.drop i)=m+(x.Args.drop i).length/\∀ a∈x.Args.drop i,a.S.size<=300/\Vr a.E<=300*Kz a.E)):=by
  intro i m hm h
  refine⟨.inl m,Ev.step (fun n=>Cs.eq_2 (n:=n) _ _ _) (Ev.of fun n=>?_),.inr ⟨m,rfl,hm,fun h0=>?_⟩⟩
  . rcases h with h|h
    . rw [decide_eq_false (by omega)];rfl
    . rw [decide_eq_false (show ¬ (0:Int)<=m by omega)]
      cases decide ((i:Int)<(x.Args.length:Int))<;>rfl
  . rw [List.drop_of_length_le (by omega)]
    exact⟨rfl,fun a h=>(by cases h)⟩
 intro rr
 induction rr with
 |zero=>intro i m hr hm _ _;exact stop i m hm (.inl (by omega))
 |succ rr ih =>
  intro i m hr hm hi hj
  by_cases hn:m<0
  . exact stop i m hm (.inr hn)
  by_cases h3:i<x.Args.length
  . by_cases hS:(300:Int)<(x.Args[i].S.size:Int)
    . refine⟨.inr (-1),Ev.step (fun n=>Cs.eq_2 (n:=n) _ _ _) (Ev.of fun n=>?_),.inl rfl⟩
      simp only [decide_eq_true (show (i:Int)<(x.Args.length:Int) by omega),decide_eq_true (show (0:Int)<=m by omega),cond_true,Option.bind_some,ED h3,decide_eq_true hS]
    . obtain⟨r1,e1,e2,e3⟩:=Pu m.toNat x.Args[i].E m (by omega) hm
      have hp:=Gn x.Args[i].E
      have hr1:r1<=1000:=by
       by_cases q:0<=r1
       . have:=(e3 q).1;omega
       . omega
      obtain⟨y,f1,f2⟩:=ih (i+1) r1 (by omega) hr1 (by omega) (fun q=>by have:=(e3 q).1;omega)
      refine⟨y,Ev.step (fun n=>Cs.eq_2 (n:=n) _ _ _) ?_,f2.imp id ?_⟩
      . have w1:IntKind.i64.wrap ((i:Int)+1)=((i+1:Nat):Int):=by rw [A3]<;>omega
        simp only [decide_eq_true (show (i:Int)<(x.Args.length:Int) by omega),decide_eq_true (show (0:Int)<=m by omega),cond_true,Option.bind_some,ED h3,decide_eq_false hS,cond_false,w1]
        exact Ev.bind e1 f1
      . rintro⟨r,rfl,g1,g2⟩
        refine⟨r,rfl,g1,fun h=>?_⟩
        obtain⟨k1,k2⟩:=g2 h
        have hz:(x.Args.drop (i+1)).length<=Ja (x.Args.drop (i+1)):=by
         have:∀ l:List As,l.length<=Ja l:=by
          intro l
          induction l with
          |nil=>exact Nat.le_refl _
          |cons a l ih=>simp only [Ja,Vs,List.length_cons];omega
         exact this _
        obtain⟨k3,k4⟩:=e3 (by omega)
        rw [List.drop_eq_getElem_cons h3]
        refine⟨?_,fun a ha=>?_⟩
        . simp only [Ja,Vs,List.length_cons];omega
        . rcases List.mem_cons.1 ha with rfl|ha
          . exact⟨by omega,k4⟩
          . exact k2 a ha
  . exact stop i m hm (.inl (by omega))
theorem Ly:∀ {l:List As} {a:As},a∈l->Kz a.E<=Ja l
 |b::l,a,h=>by
  simp only [Ja,Vs]
  rcases List.mem_cons.1 h with rfl|h
  . omega
  . have:=Ly h;omega
theorem Lz:∀ l:List As,l.length<=Ja l
 | []=>Nat.le_refl _
 |a::l=>by have:=Lz l;simp only [Ja,Vs,List.length_cons];omega
theorem HL:∀ l:List Af,l.length<=Ka l
 | []=>Nat.le_refl _
 |.mk w ags b p::l=>by have:=HL l;simp only [Ka,Uo,List.length_cons];omega
theorem Ps:∀ (N:Nat) (l:List Af) (m:Int),m<=N->m<=1000->-1<=m->l.length<=9223372036854775807->(∀ f∈l,O0 f) ->
 ∃ r,Ev (fun n=>Cg n l m) r/\-1<=r/\(0<=r->r+Ka l=m/\∀ f∈l,P7 f):=by
 intro N
 induction N with
 |zero =>
  intro l m h hm hm1 hl hf
  have w0:IntKind.i64.wrap (m-(l.length:Int))=m-(l.length:Int):=by rw [A3]<;>omega
  cases l with
  |nil =>
   refine⟨if (-1) > m then -1 else m,Ev.step (fun n=>Cg.eq_2 (n:=n) _ _) ?_,by split<;>omega,fun h=>?_⟩
   . rw [w0]
     have e0:m-((([]:List Af).length:Nat):Int)=m:=by show m-((0:Nat):Int)=m;omega
     rw [e0]
     refine Ev.bind (a:=.inl m) ?_ ?_
     rotate_left
     . exact Ev.pure
     refine Ev.step (fun n=>Bq.eq_2 (n:=n) _ _ _) (Ev.of fun n=>?_)
     rfl
   . rw [if_neg (by omega)] at h ⊢
     exact⟨by show m+((0:Nat):Int)=m;omega,fun f hf=>(by cases hf)⟩
  |cons f l =>
   refine⟨-1,Ev.step (fun n=>Cg.eq_2 (n:=n) _ _) ?_,Int.le_refl _,fun h=>by omega⟩
   rw [w0]
   have hneg:m-(((f::l).length:Nat):Int)<0:=by simp only [List.length_cons];omega
   refine Ev.bind (a:=.inl (m-(((f::l).length:Nat):Int))) ?_ (Ev.of fun n=>?_)
   . refine Ev.step (fun n=>Bq.eq_2 (n:=n) _ _ _) (Ev.of fun n=>?_)
     rw [decide_eq_false (show ¬ (0:Int)<=m-(((f::l).length:Nat):Int) by omega)]
     cases decide ((0:Int)<(((f::l).length:Nat):Int))<;>rfl
   . show some (if (-1:Int) > m-(((f::l).length:Nat):Int) then -1 else m-(((f::l).length:Nat):Int))=some (-1)
     split
     . rfl
     . congr 1;omega
 |succ N ih =>
  intro l m h hm hm1 hl hf
  have w0:IntKind.i64.wrap (m-(l.length:Int))=m-(l.length:Int):=by rw [A3]<;>omega
  have loop:∀ (rr k:Nat) (m':Int),l.length-k<=rr->m'<=m-(l.length:Int)->(0<=m'->k<=l.length)->k<=3000->∃ y,Ev (fun n=>Bq n l m' (k:Int)) y /\
   (y=.inr (-1)∨∃ r,y=.inl r/\(0<=r->r+Ka (l.drop k)=m'+(l.drop k).length/\∀ f∈l.drop k,P7 f)):=by
   have stop:∀ (k:Nat) (m':Int),(l.length<=k∨m'<0)->∃ y,Ev (fun n=>Bq n l m' (k:Int)) y /\
    (y=.inr (-1)∨∃ r,y=.inl r/\(0<=r->r+Ka (l.drop k)=m'+(l.drop k).length/\∀ f∈l.drop k,P7 f)):=by
    intro k m' h
    refine⟨.inl m',Ev.step (fun n=>Bq.eq_2 (n:=n) _ _ _) (Ev.of fun n=>?_),.inr ⟨m',rfl,fun h0=>?_⟩⟩
    . rcases h with h|h
      . rw [decide_eq_false (by omega)];rfl
      . rw [decide_eq_false (show ¬ (0:Int)<=m' by omega)]
        cases decide ((k:Int)<(l.length:Int))<;>rfl
    . rw [List.drop_of_length_le (by omega)]
      exact⟨rfl,fun a h=>(by cases h)⟩
   have stopE:∀ (k:Nat) (m':Int),m'<0->Ev (fun n=>Bq n l m' (k:Int)) (.inl m'):=by
    intro k m' h
    refine Ev.step (fun n=>Bq.eq_2 (n:=n) _ _ _) (Ev.of fun n=>?_)
    rw [decide_eq_false (show ¬ (0:Int)<=m' by omega)]
    cases decide ((k:Int)<(l.length:Int))<;>rfl
   intro rr
   induction rr with
   |zero=>intro k m' hr _ _ _;exact stop k m' (.inl (by omega))
   |succ rr ihr =>
    intro k m' hr hm' hk hk3
    by_cases hn:m'<0
    . exact stop k m' (.inr hn)
    by_cases h3:k<l.length
    . have hfk:=hf _ (List.getElem_mem h3)
      have hd:=List.drop_eq_getElem_cons h3
      by_cases hS:(300:Int)<(l[k].Word.size:Int)
      . refine⟨.inr (-1),Ev.step (fun n=>Bq.eq_2 (n:=n) _ _ _) (Ev.of fun n=>?_),.inl rfl⟩
        simp only [decide_eq_true (show (k:Int)<(l.length:Int) by omega),decide_eq_true (show (0:Int)<=m' by omega),cond_true,Option.bind_some,ED h3,decide_eq_true hS]
      . generalize hx:l[k]=x at *
        cases hfk with
        |mk w ags b p hla hlb hb =>
         have wA:IntKind.i64.wrap (m'-(ags.length:Int))=m'-(ags.length:Int):=by rw [A3]<;>omega
         obtain⟨y1,a1,a2⟩:=Qs (x:=⟨w,ags,b,p⟩) ags.length 0 (m'-(ags.length:Int)) (by simp) (by omega) (by omega) (fun _=>by omega)
         have w1:IntKind.i64.wrap ((k:Int)+1)=((k+1:Nat):Int):=by rw [A3]<;>omega
         have st:∀ y,Ev (fun n=>(match y1 with
          |.inl n_3=>bif (decide (0<=n_3)) then (Cg n b n_3).bind fun n_4=>Bq n l n_4 ((k+1:Nat):Int) else Bq n l n_3 ((k+1:Nat):Int)
          |.inr o=>some (.inr o))) y->Ev (fun n=>Bq n l m' (k:Int)) y:=by
          intro y hy
          refine Ev.step (fun n=>Bq.eq_2 (n:=n) _ _ _) ?_
          simp only [decide_eq_true (show (k:Int)<(l.length:Int) by omega),decide_eq_true (show (0:Int)<=m' by omega),cond_true,Option.bind_some,ED h3,hx,decide_eq_false hS,cond_false,w1,wA]
          exact Ev.bind a1 hy
         rcases a2 with rfl|⟨n3,rfl,n3h,a3⟩
         . exact⟨_,st _ Ev.pure,.inl rfl⟩
         . by_cases q3:0<=n3
           . obtain⟨a4,a5⟩:=a3 q3
             rw [List.drop_zero] at a4 a5
             simp only at a4 a5
             have hsz:=Lz ags
             obtain⟨r4,b1,b2,b3⟩:=ih b n3 (by omega) n3h (by omega) hlb hb
             obtain⟨y,c1,c2⟩:=ihr (k+1) r4 (by omega) (by
              by_cases q4:0<=r4
              . have:=(b3 q4).1;omega
              . omega) (fun _=>by omega) (by omega)
             refine⟨y,st y ?_,c2.imp id ?_⟩
             . simp only [decide_eq_true q3,cond_true]
               exact Ev.bind b1 c1
             . rintro⟨r,rfl,c3⟩
               refine⟨r,rfl,fun h0=>?_⟩
               obtain⟨c4,c5⟩:=c3 h0
               have hsz2:=HL (l.drop (k+1))
               obtain⟨b4,b5⟩:=b3 (by omega)
               rw [hd]
               refine⟨?_,fun f hf2=>?_⟩
               . simp only [Ka,Uo,List.length_cons];omega
               . rcases List.mem_cons.1 hf2 with rfl|hf2
                 . have hb3:=HL b
                   refine .mk w ags b p (.inr (by have hS:¬ (300:Int)<(w.size:Int):=hS;omega)) (by omega) (fun a ha=>?_) (by omega) b5
                   obtain⟨d1,d2⟩:=a5 a ha
                   have:=Ly ha
                   exact⟨.inr (by omega),fun _=>Og _ _ (Nat.le_refl _) (by omega) (by omega)⟩
                 . exact c5 f hf2
           . refine⟨.inl n3,st _ ?_,.inr ⟨n3,rfl,fun h=>absurd h q3⟩⟩
             simp only [decide_eq_false q3,cond_false]
             exact stopE (k+1) n3 (by omega)
    . exact stop k m' (.inl (by omega))
  have e0:((0:Nat):Int)=0:=rfl
  obtain⟨y,y1,y2⟩:=loop l.length 0 (m-(l.length:Int)) (by omega) (by omega) (by omega) (by omega)
  rcases y2 with rfl|⟨r,rfl,y3⟩
  . refine⟨-1,Ev.step (fun n=>Cg.eq_2 (n:=n) _ _) ?_,Int.le_refl _,fun h=>by omega⟩
    rw [w0]
    exact Ev.bind y1 Ev.pure
  . refine⟨if (-1) > r then -1 else r,Ev.step (fun n=>Cg.eq_2 (n:=n) _ _) ?_,by split<;>omega,fun h=>?_⟩
    . rw [w0]
      exact Ev.bind y1 Ev.pure
    . by_cases q:(-1:Int) > r
      . rw [if_pos q] at h;omega
      . rw [if_neg q] at h ⊢
        obtain⟨y4,y5⟩:=y3 h
        rw [List.drop_zero] at y4 y5
        exact⟨by omega,y5⟩
end Go.Sp
namespace Go.Sp
open Go
theorem Xt (x:Aa):(⟨x.Op,x.N,x.S,x.Kids,x.At⟩:Aa)=x:=by cases x;rfl
end Go.Sp



