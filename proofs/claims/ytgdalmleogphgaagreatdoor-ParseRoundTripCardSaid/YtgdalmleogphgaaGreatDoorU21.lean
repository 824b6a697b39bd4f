/-
  What is printed of forms is read as them, or is too deep, or too much. No program. What is printed of forms is read as them, or is too deep, or too much: whole forms. No program. What the program prints of forms: the plain tokens; and whether they are right. No program.
-/
import Derived.Test.YtgdalmleogphgaaGreatDoorU18
import Derived.Test.YtgdalmleogphgaaGreatDoorU19
namespace Go.Sp
open Go
def zE:Aa:=⟨0,0,⟨#[]⟩,[],0⟩
def Hx (a:As):As:=⟨a.Kind,a.N,a.S,DY a.E,0⟩
mutual
def Q9:Af->Af
 |.mk w as b _=>.mk w (as.map Hx) (DL b) 0
def DL:List Af->List Af
 | []=>[]
 |x::l=>Q9 x::DL l
end
def Up (x:Int):Int:=if 0 > IntKind.i64.wrap (0-x) then 0 else IntKind.i64.wrap (0-x)
theorem Ti {x:Int}(h:x<0)(h2 : -999999999999999<=x):Up x = -x:=by
 have w:IntKind.i64.wrap (0-x) = -x:=by rw [A3]<;>omega
 unfold Up;rw [w,if_neg (by omega)]
def pA (a:As):List Ab :=
 if a.Kind=1 then [⟨1,0,a.S,0⟩] else if a.Kind=2 then (if a.N<0 then [tS ⟨#[45]⟩,⟨2,0,⟨#[]⟩,Up a.N⟩] else [⟨2,0,⟨#[]⟩,a.N⟩]) else if a.Kind=3 then [⟨3,0,a.S,0⟩]
 else if a.Kind=4 then [tS ⟨#[45,62]⟩] else if a.Kind=5 then tS ⟨#[40]⟩::(BB a.E++[tS ⟨#[41]⟩]) else []
def nA (a:As):As :=
 if a.Kind=1 then ⟨1,0,a.S,zE,0⟩ else if a.Kind=2 then ⟨2,a.N,⟨#[]⟩,zE,0⟩ else if a.Kind=3 then ⟨3,0,a.S,zE,0⟩ else if a.Kind=4 then ⟨4,0,⟨#[]⟩,zE,0⟩ else ⟨5,0,⟨#[]⟩,nE a.E,0⟩
def Ea:List As->List Ab
 | []=>[]
 |a::l=>pA a++Ea l
mutual
def pF:Af->List Ab
 |.mk w as b _=>⟨1,0,w,0⟩::(Ea as++(if b.isEmpty then [tS ⟨#[59]⟩] else tS ⟨#[123]⟩::(Dj b++[tS ⟨#[125]⟩])))
def Dj:List Af->List Ab
 | []=>[]
 |x::l=>pF x++Dj l
end
mutual
def nF:Af->Af
 |.mk w as b _=>.mk w (as.map nA) (I7 b) 0
def I7:List Af->List Af
 | []=>[]
 |x::l=>nF x::I7 l
end
mutual
def cntF:Af->Int
 |.mk _ _ b _=>1+Dc b
def Dc:List Af->Int
 | []=>0
 |x::l=>cntF x+Dc l
end
mutual
def Wo:Af->Int->Prop
 |.mk _ as b _,d=>d<=30/\as.length<=40/\(∀ a∈as,a.Kind=5->CK a.E 1)/\GO b (d+1)
def GO:List Af->Int->Prop
 | [],_=>True
 |x::l,d=>Wo x d/\GO l d
end
structure Vd (a:As):Prop where
 k:1<=a.Kind/\a.Kind<=5
 n:a.Kind=2->-999999999999999<=a.N/\a.N<=999999999999999
 e:a.Kind=5->Wf a.E
inductive Qx:Af->Prop where
 |mk (w:ByteArray) (as:List As) (b:List Af) (p:Int) (ha:∀ a∈as,Vd a) (hb:∀ x∈b,Qx x):Qx ⟨w,as,b,p⟩
theorem Hk {M:List Ab}{k:Int}{t:Ab}{r:List Ab}(h:Has M k (t::r)):∃ u,gi M k=some u/\u.Kind=t.Kind/\u.S=t.S/\u.N=t.N:=h.1
theorem Sn {M:List Ab}{k:Int}{a:As}(hw:Vd a)(h:Has M k (pA a)):∃ t,gi M k=some t/\(Fh t=true∨isS t ⟨#[45,62]⟩=true)/\isS t ⟨#[59]⟩=false/\isS t ⟨#[123]⟩=false:=by
 have key:∀ (s:Ab) (r:List Ab),Has M k (s::r)->(Fh s=true∨isS s ⟨#[45,62]⟩=true)->isS s ⟨#[59]⟩=false->isS s ⟨#[123]⟩=false->∃ t,gi M k=some t/\(Fh t=true∨isS t ⟨#[45,62]⟩=true)/\isS t ⟨#[59]⟩=false/\isS t ⟨#[123]⟩=false:=by
  intro s r h h1 h2 h3
  obtain⟨t,ht,e1,e2,_⟩:=Hk h
  exact⟨t,ht,by rw [Mp e1 e2,Fa e1 e2];exact h1,by rw [Fa e1 e2];exact h2,by rw [Fa e1 e2];exact h3⟩
 unfold pA at h
 split at h
 . exact key _ _ h (.inl rfl) rfl rfl
 split at h
 . split at h
   . exact key _ _ h (.inl rfl) rfl rfl
   . exact key _ _ h (.inl rfl) rfl rfl
 split at h
 . exact key _ _ h (.inl rfl) rfl rfl
 split at h
 . exact key _ _ h (.inr rfl) rfl rfl
 split at h
 . exact key _ _ h (.inl rfl) rfl rfl
 . have:=hw.k;omega
theorem Ug {c:Prop}{M:List Ab}{k:Int}{a:As}(hM:Hs M)(hw:Vd a)(h:Has M k (pA a))(hc:c->a.Kind=5->CK a.E 1) :
 ∃ r,Ev (fun n=>C6 n M k) r/\(r.E=2/\¬c∨r.E=0/\r.To=k+((pA a).length:Int)/\Hx r.A=nA a):=by
 have hl:=hM.len
 obtain⟨k1,k5⟩:=hw.k
 have small:∀ {t:Ab},gi M k=some t->1<=t.Kind->t.Kind<=3->Ev (fun n=>C6 n M k) ⟨⟨t.Kind,t.N,t.S,zE,t.At⟩,k+1,0⟩:=by
  intro t ht h1 h3
  have hr:=(Am ht).2
  have w1:IntKind.i64.wrap (k+1)=k+1:=by rw [A3]<;>omega
  refine Ev.of fun n=>?_
  unfold C6
  simp only [ht,Option.bind_some,decide_eq_true h1,decide_eq_true h3,cond_true,w1];rfl
 by_cases q1:a.Kind=1
 . have e:pA a=[⟨1,0,a.S,0⟩]:=by unfold pA;rw [if_pos q1]
   rw [e] at h ⊢
   obtain⟨t,ht,e1,e2,e3⟩:=Hk h
   refine⟨_,small ht (by rw [e1];exact of_decide_eq_true rfl) (by rw [e1];exact of_decide_eq_true rfl),.inr ⟨rfl,rfl,?_⟩⟩
   unfold nA Hx
   rw [if_pos q1,e1,e2,e3];rfl
 by_cases q2:a.Kind=2
 . obtain⟨n1,n2⟩:=hw.n q2
   by_cases qn:a.N<0
   . have e:pA a=[tS ⟨#[45]⟩,⟨2,0,⟨#[]⟩,-a.N⟩]:=by unfold pA;rw [if_neg q1,if_pos q2,if_pos qn,Ti qn n1]
     rw [e] at h ⊢
     obtain⟨t,ht,s1,_,_,h⟩:=CB h
     obtain⟨u,hu,e1,e2,e3⟩:=Hk h
     have hr:=(Am ht).2
     have w1:IntKind.i64.wrap (k+1)=k+1:=by rw [A3]<;>omega
     have w2:IntKind.i64.wrap (k+2)=k+2:=by rw [A3]<;>omega
     have w3:IntKind.i64.wrap (0-u.N)=a.N:=by rw [show u.N = -a.N from e3,A3]<;>omega
     have k4:t.Kind=4:=by have:=s1 ⟨#[45]⟩;unfold isS at this;simp only [decide_true,Bool.and_eq_true,beq_iff_eq] at this;exact this.1
     have f1:A2 M k ⟨#[45,62]⟩=some (isS t ⟨#[45,62]⟩):=AG ht
     have f2:A2 M k ⟨#[45]⟩=some (isS t ⟨#[45]⟩):=AG ht
     refine⟨⟨⟨2,a.N,⟨#[]⟩,zE,t.At⟩,k+2,0⟩,Ev.of fun n=>?_,.inr ⟨rfl,rfl,?_⟩⟩
     . unfold C6
       simp only [ht,Option.bind_some,k4,show decide ((1:Int)<=4)=true from rfl,show decide ((4:Int)<=3)=false from rfl,cond_true,cond_false,f1,f2,s1,show decide ((⟨#[45]⟩:ByteArray)=⟨#[45,62]⟩)=false from rfl,decide_true,w1,w2,hu,show (u.Kind != 2)=false by rw [e1];rfl,w3];rfl
     . unfold nA Hx
       rw [if_neg q1,if_pos q2];rfl
   . have e:pA a=[⟨2,0,⟨#[]⟩,a.N⟩]:=by unfold pA;rw [if_neg q1,if_pos q2,if_neg qn]
     rw [e] at h ⊢
     obtain⟨t,ht,e1,e2,e3⟩:=Hk h
     refine⟨_,small ht (by rw [e1];exact of_decide_eq_true rfl) (by rw [e1];exact of_decide_eq_true rfl),.inr ⟨rfl,rfl,?_⟩⟩
     unfold nA Hx
     rw [if_neg q1,if_pos q2,e1,e2,e3];rfl
 by_cases q3:a.Kind=3
 . have e:pA a=[⟨3,0,a.S,0⟩]:=by unfold pA;rw [if_neg q1,if_neg q2,if_pos q3]
   rw [e] at h ⊢
   obtain⟨t,ht,e1,e2,e3⟩:=Hk h
   refine⟨_,small ht (by rw [e1];exact of_decide_eq_true rfl) (by rw [e1];exact of_decide_eq_true rfl),.inr ⟨rfl,rfl,?_⟩⟩
   unfold nA Hx
   rw [if_neg q1,if_neg q2,if_pos q3,e1,e2,e3];rfl
 by_cases q4:a.Kind=4
 . have e:pA a=[tS ⟨#[45,62]⟩]:=by unfold pA;rw [if_neg q1,if_neg q2,if_neg q3,if_pos q4]
   rw [e] at h ⊢
   obtain⟨t,ht,s1,_,_,_⟩:=CB h
   have hr:=(Am ht).2
   have w1:IntKind.i64.wrap (k+1)=k+1:=by rw [A3]<;>omega
   have k4:t.Kind=4:=by have:=s1 ⟨#[45,62]⟩;unfold isS at this;simp only [decide_true,Bool.and_eq_true,beq_iff_eq] at this;exact this.1
   have f1:A2 M k ⟨#[45,62]⟩=some (isS t ⟨#[45,62]⟩):=AG ht
   refine⟨⟨⟨4,0,⟨#[]⟩,zE,t.At⟩,k+1,0⟩,Ev.of fun n=>?_,.inr ⟨rfl,rfl,?_⟩⟩
   . unfold C6
     simp only [ht,Option.bind_some,k4,show decide ((1:Int)<=4)=true from rfl,show decide ((4:Int)<=3)=false from rfl,cond_true,cond_false,f1,s1,decide_true,w1];rfl
   . unfold nA Hx
     rw [if_neg q1,if_neg q2,if_neg q3,if_pos q4];rfl
 have q5:a.Kind=5:=by omega
 have e:pA a=tS ⟨#[40]⟩::(BB a.E++[tS ⟨#[41]⟩]):=by unfold pA;rw [if_neg q1,if_neg q2,if_neg q3,if_neg q4,if_pos q5]
 rw [e] at h ⊢
 obtain⟨t,ht,s1,_,_,h⟩:=CB h
 obtain⟨hx,h⟩:=DJ h
 obtain⟨u,hu,u1,u2,_⟩:=CB h
 have hr:=(Am ht).2
 have hr2:=(Am hu).2
 have w1:IntKind.i64.wrap (k+1)=k+1:=by rw [A3]<;>omega
 have w3:IntKind.i64.wrap (k+1+((BB a.E).length:Int)+1)=k+1+((BB a.E).length:Int)+1:=by rw [A3]<;>omega
 have k4:t.Kind=4:=by have:=s1 ⟨#[40]⟩;unfold isS at this;simp only [decide_true,Bool.and_eq_true,beq_iff_eq] at this;exact this.1
 have f1:A2 M k ⟨#[45,62]⟩=some (isS t ⟨#[45,62]⟩):=AG ht
 have f2:A2 M k ⟨#[45]⟩=some (isS t ⟨#[45]⟩):=AG ht
 have f3:A2 M (k+1+((BB a.E).length:Int)) ⟨#[41]⟩=some (isS u ⟨#[41]⟩):=AG hu
 obtain⟨⟨X,z,w⟩,hg,hh⟩:=(main (hw.e q5) c M (k+1) 1 u hM (by decide) (by decide) hx hu (by rw [u1];rfl) (fun q=>hc q q5)).e (by rw [u2];rfl) (by rw [u1];rfl) (fun _=>by decide)
 have el:k+((tS ⟨#[40]⟩::(BB a.E++[tS ⟨#[41]⟩])).length:Int)=k+1+((BB a.E).length:Int)+1:=by
  simp only [List.length_cons,List.length_append,List.length_nil];omega
 rw [el]
 have st:∀ r,Ev (fun n=>(bif (w != 0) then some (BY.mk (As.mk 0 0 ⟨#[]⟩ (Aa.mk 0 0 ⟨#[]⟩ [] 0) 0) z w) else
  (A2 M z ⟨#[41]⟩).bind fun shut=>bif (!shut) then some (BY.mk (As.mk 0 0 ⟨#[]⟩ (Aa.mk 0 0 ⟨#[]⟩ [] 0) 0) z 5)
   else some (BY.mk (As.mk 5 0 ⟨#[]⟩ X t.At) (IntKind.i64.wrap (z+1)) 0):Option BY)) r->Ev (fun n=>C6 n M k) r:=by
  intro r hr
  unfold C6
  simp only [ht,Option.bind_some,k4,show decide ((1:Int)<=4)=true from rfl,show decide ((4:Int)<=3)=false from rfl,cond_true,cond_false,f1,f2,s1,show decide ((⟨#[40]⟩:ByteArray)=⟨#[45,62]⟩)=false from rfl,show decide ((⟨#[40]⟩:ByteArray)=⟨#[45]⟩)=false from rfl,w1]
  exact Ev.bind hg hr
 rcases hh with⟨h1,h2⟩|⟨h1,h2,h3⟩
 . obtain rfl:w=2:=h1
   exact⟨_,st _ Ev.pure,.inl ⟨rfl,h2⟩⟩
 . obtain rfl:w=0:=h1
   obtain rfl:z=k+1+((BB a.E).length:Int):=h2
   refine⟨⟨⟨5,0,⟨#[]⟩,X,t.At⟩,k+1+((BB a.E).length:Int)+1,0⟩,st _ (Ev.of fun n=>?_),.inr ⟨rfl,rfl,?_⟩⟩
   . simp only [bne_self_eq_false,cond_false,f3,u1,decide_true,Option.bind_some,Bool.not_true,w3]
   . unfold nA Hx
     rw [if_neg q1,if_neg q2,if_neg q3,if_neg q4]
     have h3:DY X=DY (nE a.E):=h3
     rw [PK] at h3
     simp only [h3]
end Go.Sp
namespace Go.Sp
open Go
theorem QS {c:Prop}{M:List Ab}{x:Ab}{n_:Int}(hM:Hs M)(hn:0<=n_/\n_<=5000){s:ByteArray}(hs:s=⟨#[59]⟩∨s=⟨#[123]⟩):∀ (as out:List As) (p:Int),(∀ a∈as,Vd a)->out.length<=40 ->
 (c->out.length+as.length<=40/\∀ a∈as,a.Kind=5->CK a.E 1)->Has M p (Ea as++[tS s]) ->
 ∃ y,Ev (fun n=>AU n M x n_ out p) y/\((∃ g,y=.inr g/\g.E=2/\¬c)∨∃ out',out'.map Hx=out.map Hx++as.map nA /\
  (s=⟨#[59]⟩->y=.inr ⟨⟨x.S,out',[],x.At⟩,p+((Ea as).length:Int)+1,n_+1,0⟩)/\(s=⟨#[123]⟩->y=.inl (out',p+((Ea as).length:Int)))):=by
 intro as
 induction as with
 |nil =>
  intro out p _ ho hc h
  obtain⟨t,ht,s1,_⟩:=CB (r:=[]) h
  have hr:=(Am ht).2
  have hl:=hM.len
  have w1:IntKind.i64.wrap (p+1)=p+1:=by rw [A3]<;>omega
  have w2:IntKind.i64.wrap (n_+1)=n_+1:=by rw [A3]<;>omega
  have f1:A2 M p ⟨#[59]⟩=some (isS t ⟨#[59]⟩):=AG ht
  have f2:A2 M p ⟨#[123]⟩=some (isS t ⟨#[123]⟩):=AG ht
  have e0:p+((Ea ([]:List As)).length:Int)=p:=by show p+((0:Nat):Int)=p;omega
  rw [e0]
  rcases hs with rfl|rfl
  . refine⟨_,Ev.step (fun n=>AU.eq_2 (n:=n) _ _ _ _ _) (Ev.of fun n=>?_),.inr ⟨out,by simp,fun _=>rfl,fun h=>absurd h (by decide)⟩⟩
    simp only [f1,s1,decide_true,Option.bind_some,cond_true,w1,w2]
  . refine⟨_,Ev.step (fun n=>AU.eq_2 (n:=n) _ _ _ _ _) (Ev.of fun n=>?_),.inr ⟨out,by simp,fun h=>absurd h (by decide),fun _=>rfl⟩⟩
    simp only [f1,f2,s1,show decide ((⟨#[123]⟩:ByteArray)=⟨#[59]⟩)=false from rfl,decide_true,Option.bind_some,cond_true,cond_false]
 |cons a as ih =>
  intro out p ha ho hc h
  have h:Has M p (pA a++Ea as++[tS s]):=h
  rw [List.append_assoc] at h
  obtain⟨h1,h2⟩:=DJ h
  obtain⟨t,ht,b0,b1,b2⟩:=Sn (ha a (.head _)) h1
  have f1:A2 M p ⟨#[59]⟩=some (isS t ⟨#[59]⟩):=AG ht
  have f2:A2 M p ⟨#[123]⟩=some (isS t ⟨#[123]⟩):=AG ht
  have f3:DV M p=some (Fh t):=EF ht
  have f4:A2 M p ⟨#[45,62]⟩=some (isS t ⟨#[45,62]⟩):=AG ht
  have b3:(bif (!Fh t) then some (!isS t ⟨#[45,62]⟩) else some false:Option Bool)=some false:=by
   rcases b0 with b|b<;>rw [b]
   . rfl
   . cases Fh t<;>rfl
  by_cases h40:out.length=40
  . refine⟨.inr ⟨⟨⟨#[]⟩,[],[],0⟩,p,0,2⟩,Ev.step (fun n=>AU.eq_2 (n:=n) _ _ _ _ _) (Ev.of fun n=>?_),.inl ⟨_,rfl,rfl,fun q=>by have:=(hc q).1;simp only [List.length_cons] at this;omega⟩⟩
    simp only [f1,f2,f3,f4,b1,b2,b3,Option.bind_some,cond_false,h40,show (((40:Nat):Int) == 40)=true from rfl,cond_true]
  have g4:((out.length:Int) == 40)=false:=by rw [beq_eq_false_iff_ne];omega
  obtain⟨⟨A,z,w⟩,hr,hh⟩:=Ug hM (ha a (.head _)) h1 fun q=>(hc q).2 a (.head _)
  have st:∀ y,Ev (fun n=>(bif (w != 0) then some (.inr (BJ.mk (Af.mk ⟨#[]⟩ [] [] 0) z 0 w)) else (some [A]).bind fun l3=>(CO 105 out l3).bind fun l4=>AU n M x n_ l4 z:Option (((List As)×Int) ⊕ BJ))) y->Ev (fun n=>AU n M x n_ out p) y:=by
   intro y hy
   refine Ev.step (fun n=>AU.eq_2 (n:=n) _ _ _ _ _) ?_
   simp only [f1,f2,f3,f4,b1,b2,b3,Option.bind_some,cond_false,g4]
   exact Ev.bind hr hy
  rcases hh with⟨e1,e2⟩|⟨e1,e2,e3⟩
  . obtain rfl:w=2:=e1
    exact⟨_,st _ Ev.pure,.inl ⟨_,rfl,rfl,e2⟩⟩
  . obtain rfl:w=0:=e1
    obtain rfl:z=p+((pA a).length:Int):=e2
    have g5:CO 105 out [A]=some (out++[A]):=by unfold CO;rw [if_pos (by simp only [List.length_cons,List.length_nil];omega)]
    obtain⟨y,hy,hh⟩:=ih (out++[A]) (p+((pA a).length:Int)) (fun a h=>ha a (.tail _ h)) (by simp only [List.length_append,List.length_cons,List.length_nil];omega)
     (fun q=>by
      obtain⟨q1,q2⟩:=hc q
      simp only [List.length_cons] at q1
      exact⟨by simp only [List.length_append,List.length_cons,List.length_nil];omega,fun a h=>q2 a (.tail _ h)⟩) h2
    refine⟨y,st y ?_,hh.imp id ?_⟩
    . simp only [bne_self_eq_false,cond_false,Option.bind_some,g5]
      exact hy
    . rintro⟨out',e4,e5,e6⟩
      have el:p+((Ea (a::as)).length:Int)=p+((pA a).length:Int)+((Ea as).length:Int):=by
       show p+((pA a++Ea as).length:Int)=_
       rw [List.length_append];omega
      rw [el]
      refine⟨out',?_,e5,e6⟩
      have e3:Hx A=nA a:=e3
      rw [e4,List.map_append,List.append_assoc]
      show out.map Hx++(Hx A::as.map nA)=out.map Hx++(nA a::as.map nA)
      rw [e3]
def VH (f:Af):Prop:=∀ (c:Prop) (M:List Ab) (k d n_:Int),Hs M->0<=d->d<=31->0<=n_->n_<=2000->Has M k (pF f)->(c->Wo f d/\n_+cntF f<=2000) ->
 ∃ g,Ev (fun n=>BU n M k d n_) g/\(g.E=2/\¬c∨g.E=0/\g.To=k+((pF f).length:Int)/\Q9 g.F=nF f/\g.N=n_+cntF f/\g.N<=2000)
mutual
theorem Iu:∀ f:Af,1<=cntF f
 |.mk _ _ b _=>by have:=GS b;show 1<=1+Dc b;omega
theorem GS:∀ l:List Af,0<=Dc l
 | []=>Int.le_refl _
 |x::l=>by have:=Iu x;have:=GS l;show 0<=cntF x+Dc l;omega
end
theorem L5:∀ x y:List Af,DL (x++y)=DL x++DL y
 | [],y=>rfl
 |a::x,y=>by show Q9 a::DL (x++y)=_;rw [L5 x y];rfl
theorem OI:∀ x:List Af,(DL x).length=x.length
 | []=>rfl
 |a::x=>by show (DL x).length+1=_;rw [OI x];rfl
theorem OX {M:List Ab}{k:Int}{f:Af}(h:Has M k (pF f)):∃ t,gi M k=some t/\t.Kind=1:=by
 cases f with
 |mk w as b p =>
  obtain⟨t,ht,e1,_⟩:=Hk h
  exact⟨t,ht,e1⟩
theorem UJ {c:Prop}{M:List Ab}{x:Ab}{as:List As}{d:Int}(hM:Hs M)(hd:0<=d/\d<=30):∀ (fs out:List Af) (p n_:Int),(∀ f∈fs,VH f)->0<=n_->n_<=2000->(out.length:Int)<=n_ ->
 (c->GO fs (d+1)/\n_+Dc fs<=2000)->Has M p (Dj fs++[tS ⟨#[125]⟩]) ->
 ∃ g,Ev (fun n=>Be n M x as d out p n_) g/\(g.E=2/\¬c∨g.E=0/\g.To=p+((Dj fs).length:Int)+1/\g.N=n_+Dc fs/\g.N<=2000/\∃ o,g.F=⟨x.S,as,o,x.At⟩/\DL o=DL out++I7 fs):=by
 intro fs
 induction fs with
 |nil =>
  intro out p n_ _ n0 n1 ho hc h
  obtain⟨t,ht,s1,_⟩:=CB (r:=[]) h
  have hr:=(Am ht).2
  have hl:=hM.len
  have w1:IntKind.i64.wrap (p+1)=p+1:=by rw [A3]<;>omega
  have f1:A2 M p ⟨#[125]⟩=some (isS t ⟨#[125]⟩):=AG ht
  refine⟨⟨⟨x.S,as,out,x.At⟩,p+1,n_,0⟩,Ev.step (fun n=>Be.eq_2 (n:=n) _ _ _ _ _ _ _) (Ev.of fun n=>?_),.inr ⟨rfl,?_,?_,n1,out,rfl,?_⟩⟩
  . simp only [f1,s1,decide_true,Option.bind_some,cond_true,w1]
  . show p+1=p+((0:Nat):Int)+1;omega
  . show n_=n_+0;omega
  . exact (List.append_nil _).symm
 |cons f fs ih =>
  intro out p n_ hf n0 n1 ho hc h
  have h:Has M p (pF f++Dj fs++[tS ⟨#[125]⟩]):=h
  rw [List.append_assoc] at h
  obtain⟨h1,h2⟩:=DJ h
  obtain⟨t,ht,k1⟩:=OX h1
  have w2:IntKind.i64.wrap (d+1)=d+1:=by rw [A3]<;>omega
  have f1:A2 M p ⟨#[125]⟩=some (isS t ⟨#[125]⟩):=AG ht
  rw [E6 (by rw [k1];decide)] at f1
  obtain⟨⟨F,z,N,w⟩,hg,hh⟩:=hf f (.head _) c M p (d+1) n_ hM (by omega) (by omega) n0 n1 h1 fun q=>by
   obtain⟨q1,q2⟩:=hc q
   have q2:n_+(cntF f+Dc fs)<=2000:=q2
   have:=GS fs
   exact⟨q1.1,by omega⟩
  have st:∀ y,Ev (fun n=>(bif (w != 0) then some (BJ.mk F z N w) else (some [F]).bind fun l1=>(CO 73 out l1).bind fun l2=>Be n M x as d l2 z N:Option BJ)) y->Ev (fun n=>Be n M x as d out p n_) y:=by
   intro y hy
   refine Ev.step (fun n=>Be.eq_2 (n:=n) _ _ _ _ _ _ _) ?_
   simp only [f1,Option.bind_some,cond_false,w2]
   exact Ev.bind hg hy
  rcases hh with⟨e1,e2⟩|⟨e1,e2,e3,e4,e5⟩
  . obtain rfl:w=2:=e1
    exact⟨_,st _ Ev.pure,.inl ⟨rfl,e2⟩⟩
  . obtain rfl:w=0:=e1
    obtain rfl:z=p+((pF f).length:Int):=e2
    obtain rfl:N=n_+cntF f:=e4
    have e5:n_+cntF f<=2000:=e5
    have e3:Q9 F=nF f:=e3
    have:=Iu f
    have g5:CO 73 out [F]=some (out++[F]):=by unfold CO;rw [if_pos (by simp only [List.length_cons,List.length_nil];omega)]
    obtain⟨g,hg2,hh⟩:=ih (out++[F]) (p+((pF f).length:Int)) (n_+cntF f) (fun f h=>hf f (.tail _ h)) (by omega) e5 (by simp only [List.length_append,List.length_cons,List.length_nil];omega)
     (fun q=>by
      obtain⟨q1,q2⟩:=hc q
      have q2:n_+(cntF f+Dc fs)<=2000:=q2
      exact⟨q1.2,by omega⟩) h2
    refine⟨g,st g ?_,hh.imp id ?_⟩
    . simp only [bne_self_eq_false,cond_false,Option.bind_some,g5]
      exact hg2
    . rintro⟨a1,a2,a3,a4,o,a5,a6⟩
      refine⟨a1,?_,?_,a4,o,a5,?_⟩
      . rw [a2]
        show _=p+((pF f++Dj fs).length:Int)+1
        rw [List.length_append];omega
      . rw [a3]
        show _=n_+(cntF f+Dc fs)
        omega
      . rw [a6,L5,List.append_assoc]
        show _=DL out++(nF f::I7 fs)
        rw [<- e3];rfl
theorem Xi {f:Af}(h:Qx f):VH f:=by
 induction h with
 |mk w as b p ha hb ih =>
  intro c M k d n_ hM d0 d1 n0 n1 h hc
  have h:Has M k (⟨1,0,w,0⟩::(Ea as++(if b.isEmpty then [tS ⟨#[59]⟩] else tS ⟨#[123]⟩::(Dj b++[tS ⟨#[125]⟩])))):=h
  have hc:c->(d<=30/\as.length<=40/\(∀ a∈as,a.Kind=5->CK a.E 1)/\GO b (d+1))/\n_+(1+Dc b)<=2000:=hc
  show ∃ g,Ev (fun n=>BU n M k d n_) g/\(g.E=2/\¬c∨g.E=0/\g.To=k+((⟨1,0,w,0⟩::(Ea as++(if b.isEmpty then [tS ⟨#[59]⟩] else tS ⟨#[123]⟩::(Dj b++[tS ⟨#[125]⟩]))):List Ab).length:Int) /\
   Q9 g.F=.mk w (as.map nA) (I7 b) 0/\g.N=n_+(1+Dc b)/\g.N<=2000)
  obtain⟨⟨t,ht,e1,e2,_⟩,h⟩:=h
  have e2:t.S=w:=e2
  have hr:=(Am ht).2
  have hl:=hM.len
  have cb:=GS b
  have w1:IntKind.i64.wrap (k+1)=k+1:=by rw [A3]<;>omega
  have w2:IntKind.i64.wrap (n_+1)=n_+1:=by rw [A3]<;>omega
  have st:∀ y,Ev (fun n=>((bif (decide (30<d)) then some true else some (decide (2000<=n_)):Option Bool).bind fun v30=>bif v30 then some (BJ.mk (Af.mk ⟨#[]⟩ [] [] 0) k 0 2) else
   (AU n M t n_ [] (k+1)).bind fun y1=>match y1 with
   |.inl (out,out1)=>Be n M t out d [] (IntKind.i64.wrap (out1+1)) (n_+1)
   |.inr o=>some o)) y->Ev (fun n=>BU n M k d n_) y:=by
   intro y hy
   refine Ev.step (fun n=>BU.eq_2 (n:=n) _ _ _ _) ?_
   simp only [ht,Option.bind_some,show (t.Kind != 1)=false by rw [e1];rfl,cond_false,w1,w2]
   exact hy
  by_cases q:30<d∨2000<=n_
  . refine⟨⟨⟨⟨#[]⟩,[],[],0⟩,k,0,2⟩,st _ (Ev.of fun n=>?_),.inl ⟨rfl,fun q2=>by have:=hc q2;omega⟩⟩
    rcases q with q|q
    . simp only [decide_eq_true q,cond_true,Option.bind_some]
    . cases decide (30<d)<;>simp only [decide_eq_true q,cond_true,cond_false,Option.bind_some]
  have q1:¬ 30<d:=fun h=>q (.inl h)
  have q2:¬ 2000<=n_:=fun h=>q (.inr h)
  simp only [decide_eq_false q1,decide_eq_false q2,cond_false,Option.bind_some] at st
  cases b with
  |nil =>
   have h:Has M (k+1) (Ea as++[tS ⟨#[59]⟩]):=h
   obtain⟨y,hy,hh⟩:=QS (c:=c) (x:=t) (n_:=n_) hM ⟨n0,by omega⟩ (.inl rfl) as [] (k+1) ha (by simp) (fun q=>by have:=(hc q).1;exact⟨by simp only [List.length_nil];omega,this.2.2.1⟩) h
   rcases hh with⟨g,rfl,h2,h3⟩|⟨o,h2,h3,_⟩
   . exact⟨g,st _ (Ev.bind hy Ev.pure),.inl ⟨h2,h3⟩⟩
   . obtain rfl:=h3 rfl
     refine⟨_,st _ (Ev.bind hy Ev.pure),.inr ⟨rfl,?_,?_,?_,?_⟩⟩
     . show k+1+((Ea as).length:Int)+1=k+((⟨1,0,w,0⟩::(Ea as++[tS ⟨#[59]⟩]):List Ab).length:Int)
       simp only [List.length_cons,List.length_append,List.length_nil];omega
     . show Af.mk t.S (o.map Hx) [] 0=.mk w (as.map nA) [] 0
       rw [h2,e2];rfl
     . show n_+1=n_+(1+0);omega
     . show n_+1<=2000;omega
  |cons f b =>
   have h:Has M (k+1) (Ea as++(tS ⟨#[123]⟩::(Dj (f::b)++[tS ⟨#[125]⟩]))):=h
   rw [show Ea as++(tS ⟨#[123]⟩::(Dj (f::b)++[tS ⟨#[125]⟩]))=(Ea as++[tS ⟨#[123]⟩])++(Dj (f::b)++[tS ⟨#[125]⟩]) by simp] at h
   obtain⟨h,hB⟩:=DJ h
   obtain⟨y,hy,hh⟩:=QS (c:=c) (x:=t) (n_:=n_) hM ⟨n0,by omega⟩ (.inr rfl) as [] (k+1) ha (by simp) (fun q=>by have:=(hc q).1;exact⟨by simp only [List.length_nil];omega,this.2.2.1⟩) h
   rcases hh with⟨g,rfl,h2,h3⟩|⟨o,h2,_,h3⟩
   . exact⟨g,st _ (Ev.bind hy Ev.pure),.inl ⟨h2,h3⟩⟩
   . obtain rfl:=h3 rfl
     have eB:k+1+((Ea as++[tS ⟨#[123]⟩]).length:Int)=k+1+((Ea as).length:Int)+1:=by
      simp only [List.length_cons,List.length_append,List.length_nil];omega
     rw [eB] at hB
     obtain⟨v,hv,_⟩:=Hk (DJ h).2
     have hr2:=(Am hv).2
     have w3:IntKind.i64.wrap (k+1+((Ea as).length:Int)+1)=k+1+((Ea as).length:Int)+1:=by rw [A3]<;>omega
     obtain⟨g,hg,hh⟩:=UJ (c:=c) (x:=t) (as:=o) (d:=d) hM ⟨d0,by omega⟩ (f::b) [] (k+1+((Ea as).length:Int)+1) (n_+1) ih (by omega) (by omega) (by simp;omega)
      (fun q=>by have:=hc q;exact⟨this.1.2.2.2,by omega⟩) hB
     refine⟨g,st g (Ev.bind hy ?_),hh.imp (fun h=>h) ?_⟩
     . simp only [w3];exact hg
     . rintro⟨a1,a2,a3,a4,o2,a5,a6⟩
       refine⟨a1,?_,?_,by omega,a4⟩
       . rw [a2]
         show _=k+((⟨1,0,w,0⟩::(Ea as++(tS ⟨#[123]⟩::(Dj (f::b)++[tS ⟨#[125]⟩]))):List Ab).length:Int)
         simp only [List.length_cons,List.length_append,List.length_nil];omega
       . rw [a5]
         show Af.mk t.S (o.map Hx) (DL o2) 0=_
         rw [h2,e2,a6];rfl
end Go.Sp
namespace Go.Sp
open Go
def G8 (a:As):Bool :=
 if a.Kind=1 then B8 a.S else if a.Kind=2 then (if a.N<0 then EC (Up a.N)&&!decide (a.N < -999999999999999) else EC a.N) else if a.Kind=3 then Ew a.S
 else if a.Kind=4 then true else if a.Kind=5 then Es a.E else false
mutual
def okF:Af->Bool
 |.mk w l b _=>B8 w&&(l.all G8&&CS b)
def CS:List Af->Bool
 | []=>true
 |x::l=>okF x&&CS l
end
def Vs (a:As):Nat:=1+Kz a.E
def Ja:List As->Nat
 | []=>0
 |a::l=>Vs a+Ja l
mutual
def Uo:Af->Nat
 |.mk _ l b _=>1+(Ja l+Ka b)
def Ka:List Af->Nat
 | []=>0
 |x::l=>Uo x+Ka l
end
def Wz (a:As):Prop:=(G8 a=true∨a.S.size<=140737488355328)/\(a.Kind=5->Qz a.E)
inductive P7:Af->Prop where
 |mk (w:ByteArray) (l:List As) (b:List Af) (p:Int) (hw:B8 w=true∨w.size<=140737488355328) (hl:l.length<=140737488355328) (ha:∀ a∈l,Wz a) (h:b.length<=140737488355328) (hb:∀ x∈b,P7 x):P7 ⟨w,l,b,p⟩
theorem Vc {p:Ag}{a:As}(hb:Wz a)(hp:p.l.length+(pA a).length<=900000){f:Af}{j:Nat}(hj:gi f.Args (j:Int)=some a)(hjl:(j:Int)<(f.Args.length:Int))(hfl:f.Args.length<=140737488355328){r:List Ab×Bool}
 (k:Ev (fun n=>AL n f ((j+1:Nat):Int) (p.l++pA a) (p.bad||!G8 a)) r):Ev (fun n=>AL n f (j:Int) p.l p.bad) r:=by
 have w1:IntKind.i64.wrap ((j:Int)+1)=((j+1:Nat):Int):=by rw [A3]<;>omega
 refine Ev.step (fun n=>AL.eq_2 (n:=n) _ _ _ _) ?_
 simp only [decide_eq_true hjl,cond_true,hj,Option.bind_some,w1]
 have hb1:=hb.1
 unfold pA at hp k
 unfold G8 at k hb1
 by_cases q1:a.Kind=1
 . simp only [if_pos q1,List.length_singleton] at hp
   simp only [if_pos q1] at k
   simp only [show (a.Kind == 1)=true by simpa using q1,cond_true]
   rw [if_pos q1] at hb1
   exact Ev.bind (KX (hb1.elim (fun h=>by have:=GK h;omega) id) (by show p.l.length<=_;omega)) k
 simp only [if_neg q1] at hp k
 simp only [show (a.Kind == 1)=false by simpa using q1,cond_false]
 by_cases q2:a.Kind=2
 . simp only [if_pos q2] at hp k
   simp only [show (a.Kind == 2)=true by simpa using q2,cond_true]
   by_cases qn:a.N<0
   . simp only [if_pos qn,List.length_cons,List.length_nil] at hp
     simp only [if_pos qn] at k
     simp only [decide_eq_true qn,cond_true]
     refine Ev.bind (CF (by show p.l.length<=_;omega)) (Ev.bind (Ev.const (Kk (by simp only [List.length_append,List.length_cons,List.length_nil];omega))) ?_)
     refine Ev.bind (a:=(p.bad||!(EC (Up a.N)&&!decide (a.N < -999999999999999)))) (Ev.const ?_) ?_
     . show (bif (p.bad||!EC (Up a.N)) then some true else some (decide (a.N < -999999999999999)):Option Bool)=_
       cases p.bad<;>cases EC (Up a.N)<;>simp
     . have e:p.l++[tS ⟨#[45]⟩]++[⟨2,0,⟨#[]⟩,Up a.N⟩]=p.l++[tS ⟨#[45]⟩,⟨2,0,⟨#[]⟩,Up a.N⟩]:=by simp
       rw [<- e] at k
       exact k
   . simp only [if_neg qn,List.length_singleton] at hp
     simp only [if_neg qn] at k
     simp only [decide_eq_false qn,cond_false]
     exact Ev.bind (Ev.const (Kk (by show p.l.length<=_;omega))) k
 simp only [if_neg q2] at hp k
 simp only [show (a.Kind == 2)=false by simpa using q2,cond_false]
 by_cases q3:a.Kind=3
 . simp only [if_pos q3,List.length_singleton] at hp
   simp only [if_pos q3] at k
   simp only [show (a.Kind == 3)=true by simpa using q3,cond_true]
   rw [if_neg q1,if_neg q2,if_pos q3] at hb1
   exact Ev.bind (Q5 (hb1.elim (fun h=>by have:=Ix h;omega) id) (by show p.l.length<=_;omega)) k
 simp only [if_neg q3] at hp k
 simp only [show (a.Kind == 3)=false by simpa using q3,cond_false]
 by_cases q4:a.Kind=4
 . simp only [if_pos q4,List.length_singleton] at hp
   simp only [if_pos q4,Bool.not_true,Bool.or_false] at k
   simp only [show (a.Kind == 4)=true by simpa using q4,cond_true]
   exact Ev.bind (CF (by show p.l.length<=_;omega)) k
 simp only [if_neg q4] at hp k
 simp only [show (a.Kind == 4)=false by simpa using q4,cond_false]
 by_cases q5:a.Kind=5
 . simp only [if_pos q5,List.length_cons,List.length_append,List.length_nil] at hp
   simp only [if_pos q5] at k
   simp only [show (a.Kind == 5)=true by simpa using q5,cond_true]
   have hE:=Vw (hb.2 q5)
   refine Ev.bind (CF (by show p.l.length<=_;omega)) (Ev.bind (hE _ (by simp only [List.length_append,List.length_cons,List.length_nil];omega)) (Ev.bind (CF (by simp only [List.length_append,List.length_cons,List.length_nil];omega)) ?_))
   have e:p.l++[tS ⟨#[40]⟩]++BB a.E++[tS ⟨#[41]⟩]=p.l++(tS ⟨#[40]⟩::(BB a.E++[tS ⟨#[41]⟩])):=by simp
   rw [<- e] at k
   exact k
 . simp only [if_neg q5,List.append_nil,Bool.not_false,Bool.or_true] at k
   simp only [show (a.Kind == 5)=false by simpa using q5,cond_false]
   exact k
theorem Ro {f:Af}(hb:∀ a∈f.Args,Wz a)(hfl:f.Args.length<=140737488355328):∀ (m j:Nat) (p:Ag),j+m=f.Args.length->p.l.length+(Ea (f.Args.drop j)).length<=900000 ->
 Ev (fun n=>AL n f (j:Int) p.l p.bad) (p.l++Ea (f.Args.drop j),p.bad||!(f.Args.drop j).all G8)
 |0,j,p,h,hp=>by
  refine Ev.step (fun n=>AL.eq_2 (n:=n) _ _ _ _) (Ev.of fun n=>?_)
  rw [decide_eq_false (by omega),List.drop_of_length_le (by omega)]
  show some (p.l,p.bad)=some (p.l++[],p.bad||false)
  rw [List.append_nil,Bool.or_false]
 |m+1,j,p,h,hp=>by
  have hj:j<f.Args.length:=by omega
  have hd:=List.drop_eq_getElem_cons hj
  rw [hd] at hp ⊢
  have hp:p.l.length+(pA f.Args[j]++Ea (f.Args.drop (j+1))).length<=900000:=hp
  rw [List.length_append] at hp
  refine Vc (hb _ (List.getElem_mem hj)) (by omega) (ED hj) (by omega) hfl ?_
  have:=Ro hb hfl m (j+1) ⟨p.l++pA f.Args[j],p.bad||!G8 f.Args[j]⟩ (by omega) (by simp only [List.length_append];omega)
  have e1:p.l++Ea (f.Args[j]::f.Args.drop (j+1))=p.l++pA f.Args[j]++Ea (f.Args.drop (j+1)):=by
   rw [List.append_assoc];rfl
  rw [e1,List.all_cons,Bool.not_and,<- Bool.or_assoc]
  exact this
def Y4 (f:Af):Prop:=∀ p:Ag,p.l.length+(pF f).length<=900000->Ev (fun n=>B6 n p f) ((),⟨p.l++pF f,p.bad||!okF f⟩)
theorem Rk {f:Af}(hb:∀ x∈f.Body,Y4 x)(hfl:f.Body.length<=140737488355328):∀ (m j:Nat) (p:Ag),j+m=f.Body.length->p.l.length+(Dj (f.Body.drop j)).length<=900000 ->
 Ev (fun n=>BL n f (j:Int) p.l p.bad) (p.l++Dj (f.Body.drop j),p.bad||!CS (f.Body.drop j))
 |0,j,p,h,hp=>by
  refine Ev.step (fun n=>BL.eq_2 (n:=n) _ _ _ _) (Ev.of fun n=>?_)
  rw [decide_eq_false (by omega),List.drop_of_length_le (by omega)]
  show some (p.l,p.bad)=some (p.l++[],p.bad||false)
  rw [List.append_nil,Bool.or_false]
 |m+1,j,p,h,hp=>by
  have hj:j<f.Body.length:=by omega
  have w1:IntKind.i64.wrap ((j:Int)+1)=((j+1:Nat):Int):=by rw [A3]<;>omega
  have hd:=List.drop_eq_getElem_cons hj
  rw [hd] at hp ⊢
  have hp:p.l.length+(pF f.Body[j]++Dj (f.Body.drop (j+1))).length<=900000:=hp
  rw [List.length_append] at hp
  refine Ev.step (fun n=>BL.eq_2 (n:=n) _ _ _ _) ?_
  simp only [decide_eq_true (show (j:Int)<(f.Body.length:Int) by omega),cond_true,ED hj,Option.bind_some,w1]
  refine Ev.bind (hb _ (List.getElem_mem hj) ⟨p.l,p.bad⟩ (by show p.l.length+_<=_;omega)) ?_
  have:=Rk hb hfl m (j+1) ⟨p.l++pF f.Body[j],p.bad||!okF f.Body[j]⟩ (by omega) (by simp only [List.length_append];omega)
  have e1:p.l++Dj (f.Body[j]::f.Body.drop (j+1))=p.l++pF f.Body[j]++Dj (f.Body.drop (j+1)):=by
   rw [List.append_assoc];rfl
  have e2:(p.bad||!CS (f.Body[j]::f.Body.drop (j+1)))=(p.bad||!okF f.Body[j]||!CS (f.Body.drop (j+1))):=by
   show (p.bad||!(okF f.Body[j]&&CS (f.Body.drop (j+1))))=_
   rw [Bool.not_and,Bool.or_assoc]
  rw [e1,e2]
  exact this
theorem UL {f:Af}(h:P7 f):Y4 f:=by
 induction h with
 |mk w l b at_ hw hl ha h47 hb ih =>
  intro p hp
  have hp:p.l.length+(⟨1,0,w,0⟩::(Ea l++(if b.isEmpty then [tS ⟨#[59]⟩] else tS ⟨#[123]⟩::(Dj b++[tS ⟨#[125]⟩]))):List Ab).length<=900000:=hp
  simp only [List.length_cons,List.length_append] at hp
  refine Ev.step (fun n=>B6.eq_2 (n:=n) _ _) ?_
  have hw2:w.size<=140737488355328:=hw.elim (fun h=>by have:=GK h;omega) id
  refine Ev.bind (KX hw2 (by omega)) ?_
  have hA:=Ro (f:=⟨w,l,b,at_⟩) ha hl l.length 0 ⟨p.l++[⟨1,0,w,0⟩],p.bad||!B8 w⟩ (by simp) (by simp only [List.drop_zero,List.length_append,List.length_cons,List.length_nil];omega)
  rw [List.drop_zero] at hA
  refine Ev.bind hA ?_
  cases b with
  |nil =>
   simp only [List.length_nil,show (((0:Nat):Int) == 0)=true from rfl,cond_true,Option.bind_some]
   simp only [List.isEmpty_nil,if_true,List.length_cons,List.length_nil] at hp
   refine Ev.bind (CF (by simp only [List.length_append,List.length_cons,List.length_nil];omega)) (Ev.of fun n=>?_)
   show some ((),Ag.mk (p.l++[⟨1,0,w,0⟩]++Ea l++[tS ⟨#[59]⟩]) (p.bad||!B8 w||!l.all G8))=some ((),⟨p.l++(⟨1,0,w,0⟩::(Ea l++[tS ⟨#[59]⟩])),p.bad||!(B8 w&&(l.all G8&&true))⟩)
   rw [Bool.and_true,Bool.not_and,<- Bool.or_assoc]
   simp only [List.append_assoc,List.cons_append,List.nil_append]
  |cons x b =>
   have e0:((((x::b).length:Nat):Int) == 0)=false:=by rw [beq_eq_false_iff_ne];simp only [List.length_cons];omega
   simp only [e0,cond_false,Option.bind_some]
   simp only [List.isEmpty_cons,Bool.false_eq_true,if_false,List.length_cons,List.length_append,List.length_nil] at hp
   refine Ev.bind (CF (by simp only [List.length_append,List.length_cons,List.length_nil];omega)) ?_
   have hB:=Rk (f:=⟨w,l,x::b,at_⟩) ih h47 (x::b).length 0 ⟨p.l++[⟨1,0,w,0⟩]++Ea l++[tS ⟨#[123]⟩],p.bad||!B8 w||!l.all G8⟩ (by simp) (by simp only [List.drop_zero,List.length_append,List.length_cons,List.length_nil];omega)
   rw [List.drop_zero] at hB
   refine Ev.bind hB (Ev.bind (CF (by simp only [List.length_append,List.length_cons,List.length_nil];omega)) (Ev.of fun n=>?_))
   show some ((),Ag.mk (p.l++[⟨1,0,w,0⟩]++Ea l++[tS ⟨#[123]⟩]++Dj (x::b)++[tS ⟨#[125]⟩]) (p.bad||!B8 w||!l.all G8||!CS (x::b)))=some ((),⟨p.l++(⟨1,0,w,0⟩::(Ea l++(tS ⟨#[123]⟩::(Dj (x::b)++[tS ⟨#[125]⟩])))),p.bad||!(B8 w&&(l.all G8&&CS (x::b)))⟩)
   rw [Bool.not_and,Bool.not_and,<- Bool.or_assoc,<- Bool.or_assoc]
   simp only [List.append_assoc,List.cons_append,List.nil_append]
theorem LC {l:List Af}(hb:∀ x∈l,Y4 x)(hfl:l.length<=140737488355328):∀ (m j:Nat) (p:Ag),j+m=l.length->p.l.length+(Dj (l.drop j)).length<=900000 ->
 Ev (fun n=>CI n l (j:Int) p.l p.bad) (p.l++Dj (l.drop j),p.bad||!CS (l.drop j))
 |0,j,p,h,hp=>by
  refine Ev.step (fun n=>CI.eq_2 (n:=n) _ _ _ _) (Ev.of fun n=>?_)
  rw [decide_eq_false (by omega),List.drop_of_length_le (by omega)]
  show some (p.l,p.bad)=some (p.l++[],p.bad||false)
  rw [List.append_nil,Bool.or_false]
 |m+1,j,p,h,hp=>by
  have hj:j<l.length:=by omega
  have w1:IntKind.i64.wrap ((j:Int)+1)=((j+1:Nat):Int):=by rw [A3]<;>omega
  have hd:=List.drop_eq_getElem_cons hj
  rw [hd] at hp ⊢
  have hp:p.l.length+(pF l[j]++Dj (l.drop (j+1))).length<=900000:=hp
  rw [List.length_append] at hp
  refine Ev.step (fun n=>CI.eq_2 (n:=n) _ _ _ _) ?_
  simp only [decide_eq_true (show (j:Int)<(l.length:Int) by omega),cond_true,ED hj,Option.bind_some,w1]
  refine Ev.bind (hb _ (List.getElem_mem hj) ⟨p.l,p.bad⟩ (by show p.l.length+_<=_;omega)) ?_
  have:=LC hb hfl m (j+1) ⟨p.l++pF l[j],p.bad||!okF l[j]⟩ (by omega) (by simp only [List.length_append];omega)
  have e1:p.l++Dj (l[j]::l.drop (j+1))=p.l++pF l[j]++Dj (l.drop (j+1)):=by
   rw [List.append_assoc];rfl
  have e2:(p.bad||!CS (l[j]::l.drop (j+1)))=(p.bad||!okF l[j]||!CS (l.drop (j+1))):=by
   show (p.bad||!(okF l[j]&&CS (l.drop (j+1))))=_
   rw [Bool.not_and,Bool.or_assoc]
  rw [e1,e2]
  exact this
end Go.Sp
