/-
  What is read of what is printed: the levels of operators, signs, parentheses. No program. What is printed of an expression is read as it, or is too deep. No program. What is printed of an expression is read as it, or is too deep: all operations. No program. What is printed of an expression is read as it, or is too deep: by induction. No program. What the program prints of an expression: the plain tokens; and whether it is right. No program.
-/
import Derived.Test.YtgdalmleogphgaaGreatDoorU13
import Derived.Test.YtgdalmleogphgaaGreatDoorU16
import Derived.Test.YtgdalmleogphgaaGreatDoorU17
namespace Go.Sp
open Go
def Eh (c:Prop)(F:Nat->Option A0)(to:Int)(X:Aa):Prop:=∃ g,Ev F g/\(g.E=2/\¬c∨g.E=0/\g.To=to/\DY g.X=DY X)
variable {c:Prop}
theorem Eh.deep {g:A0}{to:Int}{X:Aa}(h:g.E=2)(hc:¬c):Eh c (fun _=>some g) to X:=⟨g,Ev.pure,.inl ⟨h,hc⟩⟩
theorem Eh.ok {Y X:Aa}{to:Int}(h:DY Y=DY X):Eh c (fun _=>some ⟨Y,to,0⟩) to X:=⟨_,Ev.pure,.inr ⟨rfl,rfl,h⟩⟩
theorem Eh.step {F G:Nat->Option A0}{to:Int}{X:Aa}(e:∀ n,F (n+1)=G n)(h:Eh c G to X):Eh c F to X:=by
 obtain⟨g,h,hg⟩:=h;exact⟨g,Ev.step e h,hg⟩
theorem Eh.id {F:Nat->Option A0}{to:Int}{X:Aa}(h:Eh c F to X):Eh c (fun n=>(F n).bind fun x=>some x) to X:=by
 obtain⟨g,h,hg⟩:=h;exact⟨g,Ev.bind h Ev.pure,hg⟩
theorem Eh.bind {F:Nat->Option A0}{K:Nat->A0->Option A0}{to to2:Int}{X X2:Aa}(h:Eh c F to X)
 (k:∀ Y,DY Y=DY X->Eh c (fun n=>K n ⟨Y,to,0⟩) to2 X2):Eh c (fun n=>(F n).bind fun g=>bif (g.E != 0) then some g else K n g) to2 X2:=by
 obtain⟨⟨Y,t,e⟩,h,hg⟩:=h
 rcases hg with h1|⟨h1,h2,h3⟩
 . refine⟨⟨Y,t,e⟩,Ev.bind h (Ev.of fun n=>?_),.inl h1⟩
   cases h1.1;rfl
 . cases h1;cases h2
   obtain⟨g,h4,hg⟩:=k Y h3
   exact⟨g,Ev.bind h h4,hg⟩
section
variable {M:List Ab} {k d to:Int} {t tt:Ab} {X:Aa} (hk:gi M k=some t)
include hk
theorem Mj (hm:isS t ⟨#[45]⟩=false)(h:Eh c (fun n=>B0 n M k d) to X):Eh c (fun n=>Bu n M k d) to X:=by
 refine Eh.step (fun n=>Bu.eq_2 (n:=n) _ _ _) ?_
 have e:A2 M k ⟨#[45]⟩=some (isS t ⟨#[45]⟩):=AG hk
 simp only [e,hm,Option.bind_some,Bool.not_false,cond_true]
 exact h.id
theorem Y0 (hm:isS t ⟨#[33]⟩=false)(h:Eh c (fun n=>A1 n M k 4 d) to X):Eh c (fun n=>A1 n M k 3 d) to X:=by
 refine Eh.step (fun n=>A1.eq_2 (n:=n) _ _ _ _) ?_
 simp only [show decide ((6:Int)<3)=false from rfl,show ((3:Int) == 3)=true from rfl,cond_false,cond_true]
 refine Eh.id (Eh.step (fun n=>BE.eq_2 (n:=n) _ _ _) ?_)
 have e:A2 M k ⟨#[33]⟩=some (isS t ⟨#[33]⟩):=AG hk
 simp only [e,hm,Option.bind_some,Bool.not_false,cond_true]
 exact h.id
theorem UR (hf:fst t d true=0)(h:Eh c (fun n=>A1 n M k 1 d) to X)(ht:gi M to=some tt)(hq:isS tt ⟨#[63]⟩=false):Eh c (fun n=>AI n M k d) to X:=by
 refine Eh.step (fun n=>AI.eq_2 (n:=n) _ _ _) ?_
 simp only [CC hk,hf,Option.bind_some,bne_self_eq_false,cond_false]
 refine Eh.bind h fun Y hY=>?_
 have e:A2 M to ⟨#[63]⟩=some (isS tt ⟨#[63]⟩):=AG ht
 simp only [e,hq,Option.bind_some,Bool.not_false,cond_true]
 exact Eh.ok hY
end
section
variable {M:List Ab} {k d to:Int} {t tt:Ab} {X:Aa}
theorem UT (h:Eh c (fun n=>Bu n M k d) to X):Eh c (fun n=>A1 n M k 7 d) to X:=by
 refine Eh.step (fun n=>A1.eq_2 (n:=n) _ _ _ _) ?_
 simp only [show decide ((6:Int)<7)=true from rfl,cond_true]
 exact h.id
def Lp (c:Prop)(lv:Int)(M:List Ab)(d:Int)(x:A0)(Y:Aa)(to to2:Int)(X2:Aa):Prop :=
 ∃ g,Ev (fun n=>AF n M lv x d Y.Op Y.N Y.S Y.Kids to 0) (.inr g)/\(g.E=2/\¬c∨g.E=0/\g.To=to2/\DY g.X=DY X2)
theorem Om {lv:Int}(hlv:1<=lv/\lv<=6/\lv≠3)(h:Eh c (fun n=>A1 n M k (lv+1) d) to X){to2:Int}{X2:Aa}
 (hl:∀ x Y,DY Y=DY X->Lp c lv M d x Y to to2 X2):Eh c (fun n=>A1 n M k lv d) to2 X2:=by
 refine Eh.step (fun n=>A1.eq_2 (n:=n) _ _ _ _) ?_
 have q1:decide (6<lv)=false:=by rw [decide_eq_false_iff_not];omega
 have q2:(lv == 3)=false:=by simpa using hlv.2.2
 have w:IntKind.i64.wrap (lv+1)=lv+1:=by rw [A3]<;>omega
 simp only [q1,q2,cond_false,w]
 obtain⟨⟨Y,t,e⟩,hg,hh⟩:=h
 rcases hh with⟨h1,hc⟩|⟨h1,h2,h3⟩
 . cases h1
   refine⟨⟨⟨Y.Op,Y.N,Y.S,Y.Kids,Y.At⟩,t,2⟩,Ev.bind hg ?_,.inl ⟨rfl,hc⟩⟩
   exact Ev.bind (Ev.step (fun n=>AF.eq_2 (n:=n) _ _ _ _ _ _ _ _ _ _) (Ev.of fun n=>rfl)) Ev.pure
 . cases h1;cases h2
   obtain⟨g,h4,h5⟩:=hl ⟨Y,t,0⟩ Y h3
   exact⟨g,Ev.bind hg (Ev.bind h4 Ev.pure),h5⟩
theorem QP {lv:Int}{x:A0}{Y:Aa}(hY:DY Y=DY X)(ht:gi M to=some tt)(hn:(EO tt).N≠lv):Lp c lv M d x Y to to X:=by
 refine⟨⟨⟨Y.Op,Y.N,Y.S,Y.Kids,x.X.At⟩,to,0⟩,Ev.step (fun n=>AF.eq_2 (n:=n) _ _ _ _ _ _ _ _ _ _) ?_,.inr ⟨rfl,rfl,?_⟩⟩
 . simp only [beq_self_eq_true,cond_true]
   refine Ev.bind (LS ht) ?_
   simp only [show ((EO tt).N != lv)=true by simpa using hn,cond_true]
   exact Ev.pure
 . rw [<- hY];cases Y;rfl
theorem V4 {lv to2 to3:Int}{x:A0}{Y X2 X3:Aa}(hM:M.length<=1000000)(hlv:1<=lv/\lv<=6)(hY:DY Y=DY X)(ht:gi M to=some tt)(hn:(EO tt).N=lv)
 (h2:Eh c (fun n=>A1 n M (to+1) (lv+1) d) to2 X2) (h4:lv=4->to3=to2/\DY X3=DY ⟨(EO tt).Op,0,⟨#[]⟩,[X,X2],0⟩)
 (h3:lv≠4->∀ Z,DY Z=DY ⟨(EO tt).Op,0,⟨#[]⟩,[X,X2],0⟩->Lp c lv M d x Z to2 to3 X3):Lp c lv M d x Y to to3 X3:=by
 have hr:=(Am ht).2
 have w1:IntKind.i64.wrap (to+1)=to+1:=by rw [A3]<;>omega
 have w2:IntKind.i64.wrap (lv+1)=lv+1:=by rw [A3]<;>omega
 have hY2:DY (Aa.mk Y.Op Y.N Y.S Y.Kids x.X.At)=DY X:=by rw [<- hY];cases Y;rfl
 obtain⟨⟨Z,z,e⟩,hz,hh⟩:=h2
 have st:∀ g,Ev (fun n=>(bif (e != 0) then some (.inr ⟨Z,z,e⟩) else
  (bif (lv == 4) then some (.inr ⟨⟨(EO tt).Op,0,⟨#[]⟩,[Aa.mk Y.Op Y.N Y.S Y.Kids x.X.At,Z],x.X.At⟩,z,0⟩)
   else AF n M lv x d (EO tt).Op 0 ⟨#[]⟩ [Aa.mk Y.Op Y.N Y.S Y.Kids x.X.At,Z] z 0):Option ((Int×Int×ByteArray×(List Aa)×Int×Int) ⊕ A0))) (.inr g)->Ev (fun n=>AF n M lv x d Y.Op Y.N Y.S Y.Kids to 0) (.inr g):=by
  intro g hg
  refine Ev.step (fun n=>AF.eq_2 (n:=n) _ _ _ _ _ _ _ _ _ _) ?_
  simp only [beq_self_eq_true,cond_true]
  refine Ev.bind (LS ht) ?_
  simp only [show ((EO tt).N != lv)=false by simpa using hn,cond_false,w1,w2]
  exact Ev.bind hz hg
 rcases hh with⟨h1,hc⟩|⟨h1,h5,h6⟩
 . cases h1
   exact⟨⟨Z,z,2⟩,st _ Ev.pure,.inl ⟨rfl,hc⟩⟩
 . obtain rfl:e=0:=h1
   obtain rfl:z=to2:=h5
   by_cases q:lv=4
   . obtain⟨rfl,e3⟩:=h4 q
     refine⟨⟨⟨(EO tt).Op,0,⟨#[]⟩,[Aa.mk Y.Op Y.N Y.S Y.Kids x.X.At,Z],x.X.At⟩,to3,0⟩,st _ ?_,.inr ⟨rfl,rfl,(Jb (Vt hY2 h6)).trans e3.symm⟩⟩
     simp only [bne_self_eq_false,cond_false,show (lv == 4)=true by simpa using q,cond_true]
     exact Ev.pure
   . obtain⟨g,hg,hh⟩:=h3 q ⟨(EO tt).Op,0,⟨#[]⟩,[Aa.mk Y.Op Y.N Y.S Y.Kids x.X.At,Z],x.X.At⟩ (Jb (Vt hY2 h6))
     refine⟨g,st _ ?_,hh⟩
     simp only [bne_self_eq_false,cond_false,show (lv == 4)=false by simpa using q]
     exact hg
theorem Xu {lv:Int}(hlv:1<=lv/\lv<=6/\lv≠3)(h:Eh c (fun n=>A1 n M k (lv+1) d) to X)(ht:gi M to=some tt)(hn:(EO tt).N≠lv):Eh c (fun n=>A1 n M k lv d) to X :=
 Om hlv h fun _ _ hY=>QP hY ht hn
end
section
variable {M:List Ab} {k d to:Int} {t tt:Ab} {X:Aa} (hM:M.length<=1000000) (hk:gi M k=some t)
include hM hk
theorem TT (hd:0<=d/\d<=1000)(h1:isS t ⟨#[40]⟩=true)(h:Eh c (fun n=>AI n M (k+1) (d+1)) to X)(ht:gi M to=some tt)(h2:isS tt ⟨#[41]⟩=true):Eh c (fun n=>B0 n M k d) (to+1) X:=by
 have hr:=(Am hk).2
 have hr2:=(Am ht).2
 have w1:IntKind.i64.wrap (k+1)=k+1:=by rw [A3]<;>omega
 have w2:IntKind.i64.wrap (d+1)=d+1:=by rw [A3]<;>omega
 have w3:IntKind.i64.wrap (to+1)=to+1:=by rw [A3]<;>omega
 refine Eh.step (fun n=>B0.eq_2 (n:=n) _ _ _) ?_
 have e:A2 M k ⟨#[40]⟩=some (isS t ⟨#[40]⟩):=AG hk
 have e2:A2 M to ⟨#[41]⟩=some (isS tt ⟨#[41]⟩):=AG ht
 simp only [hk,e,h1,Option.bind_some,cond_true,w1,w2]
 refine Eh.bind h fun Y hY=>?_
 simp only [e2,h2,Option.bind_some,Bool.not_true,cond_false,w3]
 exact Eh.ok hY
theorem Wx (hd:0<=d/\d<=1000)(h1:isS t ⟨#[45]⟩=true)(ht:gi M (k+1)=some tt)(hf:fst tt (d+1) false=0)(h:Eh c (fun n=>Bu n M (k+1) (d+1)) to X):Eh c (fun n=>Bu n M k d) to ⟨6,0,⟨#[]⟩,[X],0⟩:=by
 have hr:=(Am hk).2
 have w1:IntKind.i64.wrap (k+1)=k+1:=by rw [A3]<;>omega
 have w2:IntKind.i64.wrap (d+1)=d+1:=by rw [A3]<;>omega
 refine Eh.step (fun n=>Bu.eq_2 (n:=n) _ _ _) ?_
 have e:A2 M k ⟨#[45]⟩=some (isS t ⟨#[45]⟩):=AG hk
 simp only [e,h1,Option.bind_some,Bool.not_true,cond_false,w1,w2,CC ht,hf,bne_self_eq_false]
 refine Eh.bind h fun Y hY=>?_
 simp only [hk,Option.bind_some]
 exact Eh.ok (Jb (Q8 hY))
theorem Ww (hd:0<=d/\d<=1000)(h1:isS t ⟨#[33]⟩=true)(ht:gi M (k+1)=some tt)(hf:fst tt (d+1) true=0)(h:Eh c (fun n=>BE n M (k+1) (d+1)) to X):Eh c (fun n=>BE n M k d) to ⟨5,0,⟨#[]⟩,[X],0⟩:=by
 have hr:=(Am hk).2
 have w1:IntKind.i64.wrap (k+1)=k+1:=by rw [A3]<;>omega
 have w2:IntKind.i64.wrap (d+1)=d+1:=by rw [A3]<;>omega
 refine Eh.step (fun n=>BE.eq_2 (n:=n) _ _ _) ?_
 have e:A2 M k ⟨#[33]⟩=some (isS t ⟨#[33]⟩):=AG hk
 simp only [e,h1,Option.bind_some,Bool.not_true,cond_false,w1,w2,CC ht,hf,bne_self_eq_false]
 refine Eh.bind h fun Y hY=>?_
 simp only [hk,Option.bind_some]
 exact Eh.ok (Jb (Q8 hY))
end
end Go.Sp
namespace Go.Sp
open Go
theorem F3 {t:Ab}{d:Int}{no:Bool}(h:Fh t=true∨no=true/\isS t ⟨#[33]⟩=true):fst t d no=if 30<d then 2 else 0:=by
 unfold fst
 rw [if_neg]
 rcases h with h|⟨rfl,h⟩
 . rw [h];simp
 . unfold isS at h;rw [h];simp
section
variable {M:List Ab} {k d z:Int} {t u:Ab} {X:Aa} {c:Prop}
theorem Ol (hk:gi M k=some t)(ht:gi M z=some u) :
 ∀ (m:Nat) (v w:Int),1<=v->w<=7->v+(m:Int)=w->(v<=3->3<w->isS t ⟨#[33]⟩=false)->(∀ a,v<=a->a<w->(EO u).N≠a)->Eh c (fun n=>A1 n M k w d) z X->Eh c (fun n=>A1 n M k v d) z X
 |0,v,w,_,_,e,_,_,h=>by
  obtain rfl:v=w:=by omega
  exact h
 |m+1,v,w,h1,h2,e,hb,hn,h=>by
  have h':=Ol hk ht m (v+1) w (by omega) h2 (by omega) (fun a b=>hb (by omega) b) (fun a a1 b=>hn a (by omega) b) h
  by_cases h3:v=3
  . cases h3;exact Y0 hk (hb (by omega) (by omega)) h'
  . exact Xu (by omega) h' ht (hn v (by omega) (by omega))
theorem On (hk:gi M k=some t)(hbt:Fh t=true∨isS t ⟨#[33]⟩=true)(hd:30<d)(hc:¬c):Eh c (fun n=>AI n M k d) z X:=by
 refine Eh.step (fun n=>AI.eq_2 (n:=n) _ _ _) ?_
 have hf:fst t d true=2:=by rw [F3 (hbt.imp id fun h=>⟨rfl,h⟩),if_pos hd]
 simp only [CC hk,hf,Option.bind_some,show ((2:Int) != 0)=true from rfl,cond_true]
 exact Eh.deep rfl hc
structure Uq (c:Prop) (M:List Ab) (k d z:Int) (u:Ab) (X:Aa) (L:Int):Prop where
 f:∀ w,1<=w->w<=7->w<=L->(EO u).N<w->Eh c (fun n=>A1 n M k w d) z X
 kk:∀ w,1<=w->w<=6->w≠3->w≠4->w<=L->(EO u).N<=w->∀ to2 X2,(∀ x0 Y,DY Y=DY X->Lp c w M d x0 Y z to2 X2)->Eh c (fun n=>A1 n M k w d) to2 X2
 e:(EO u).N=0->isS u ⟨#[63]⟩=false->(c->d<=30)->Eh c (fun n=>AI n M k d) z X
theorem Uq.mono {L L':Int}(h:Uq c M k d z u X L)(hl:L'<=L):Uq c M k d z u X L' :=
 ⟨fun w a b e=>h.f w a b (by omega),fun w a b e1 e2 e=>h.kk w a b e1 e2 (by omega),h.e⟩
theorem Kf {L L':Int}(hk:gi M k=some t)(hu:gi M z=some u)(hL:1<=L/\L<=7)(hL2:L'=L∨L=7/\7<=L')(hbt:Fh t=true∨isS t ⟨#[33]⟩=true)(hb:4<=L->isS t ⟨#[33]⟩=false)
 (hF:(EO u).N<L->Eh c (fun n=>A1 n M k L d) z X)
 (hK:L<=6->L≠3->L≠4->(EO u).N<=L->∀ to2 X2,(∀ x0 Y,DY Y=DY X->Lp c L M d x0 Y z to2 X2)->Eh c (fun n=>A1 n M k L d) to2 X2):Uq c M k d z u X L':=by
 have f:∀ w,1<=w->w<=7->w<=L'->(EO u).N<w->Eh c (fun n=>A1 n M k w d) z X:=by
  intro w w1 w7 wl hn
  have wl2:w<=L:=by omega
  exact Ol hk hu (L-w).toNat w L w1 hL.2 (by omega) (fun _ h=>hb (by omega)) (fun a a1 _=>by omega) (hF (by omega))
 refine⟨f,fun w w1 w6 w3 w4 wl hn to2 X2 hc=>?_,fun hn hq hd=>?_⟩
 . by_cases hw:w=L
   . subst hw;exact hK w6 w3 w4 hn to2 X2 hc
   . exact Om ⟨w1,w6,w3⟩ (f (w+1) (by omega) (by omega) (by omega) (by omega)) hc
 . by_cases h30:30<d
   . exact On hk hbt h30 fun hc=>by have:=hd hc;omega
   . have f1:Eh c (fun n=>A1 n M k 1 d) z X:=Ol hk hu (L-1).toNat 1 L (by omega) hL.2 (by omega) (fun _ h=>hb (by omega)) (fun a a1 _=>by omega) (hF (by omega))
     exact UR hk (by rw [F3 (hbt.imp id fun h=>⟨rfl,h⟩),if_neg h30]) f1 hu hq
theorem Vb (h:Eh c (fun n=>A1 n M k 3 d) z X):Eh c (fun n=>BE n M k d) z X:=by
 obtain⟨g,⟨N,hN⟩,hg⟩:=h
 refine⟨g,⟨N,fun n hn=>?_⟩,hg⟩
 have h1:=(A1.eq_2 (n:=n) M k 3 d).symm.trans (hN (n+1) (by omega))
 simp only [show decide ((6:Int)<3)=false from rfl,show ((3:Int) == 3)=true from rfl,cond_false,cond_true] at h1
 obtain⟨b,hb,h1⟩:=Ae h1
 show BE n M k d=some g
 rw [hb];exact h1
theorem Tm (h:Eh c (fun n=>A1 n M k 7 d) z X):Eh c (fun n=>Bu n M k d) z X:=by
 obtain⟨g,⟨N,hN⟩,hg⟩:=h
 refine⟨g,⟨N,fun n hn=>?_⟩,hg⟩
 have h1:=(A1.eq_2 (n:=n) M k 7 d).symm.trans (hN (n+1) (by omega))
 simp only [show decide ((6:Int)<7)=true from rfl,cond_true] at h1
 obtain⟨b,hb,h1⟩:=Ae h1
 show Bu n M k d=some g
 rw [hb];exact h1
theorem Va (h:Eh c (fun n=>BE n M k d) z X):Eh c (fun n=>A1 n M k 3 d) z X:=by
 refine Eh.step (fun n=>A1.eq_2 (n:=n) _ _ _ _) ?_
 simp only [show decide ((6:Int)<3)=false from rfl,show ((3:Int) == 3)=true from rfl,cond_false,cond_true]
 exact h.id
end
def Main (x:Aa):Prop:=∀ (c:Prop) (M:List Ab) (k d:Int) (u:Ab),Hs M->0<=d->d<=31->Has M k (BB x)->gi M (k+((BB x).length:Int))=some u->isS u ⟨#[40]⟩=false->(c->CK x d) ->
 Uq c M k d (k+((BB x).length:Int)) u (nE x) (lvl x.Op)
theorem CB {M:List Ab}{k:Int}{s:ByteArray}{r:List Ab}(h:Has M k (tS s::r)):∃ t,gi M k=some t/\(∀ x,isS t x=decide (s=x))/\EO t=EO (tS s)/\Fh t=Fh (tS s)/\Has M (k+1) r:=by
 obtain⟨⟨t,ht,h1,h2,_⟩,h3⟩:=h
 exact⟨t,ht,fun x=>Fa h1 h2 x,Tr h1 h2,Mp h1 h2,h3⟩
theorem FA {M:List Ab}{k:Int}{x:Aa}(hw:Wf x)(h:Has M k (BB x)):∃ t,gi M k=some t/\(Fh t=true∨isS t ⟨#[33]⟩=true)/\(4<=lvl x.Op->isS t ⟨#[33]⟩=false)/\(8<=lvl x.Op->isS t ⟨#[45]⟩=false):=by
 obtain⟨t,r,e,h1,h2,h3⟩:=RC hw
 rw [e] at h
 obtain⟨⟨u,hu,e1,e2,_⟩,_⟩:=h
 exact⟨u,hu,by rw [Mp e1 e2,Fa e1 e2];exact h1,fun h=>by rw [Fa e1 e2];exact h2 h,fun h=>by rw [Fa e1 e2];exact h3 h⟩
theorem JF {M:List Ab}{k need:Int}{x:Aa}(hw:Wf x)(h:Has M k (CR need (lvl x.Op,BB x))):∃ t,gi M k=some t/\(Fh t=true∨isS t ⟨#[33]⟩=true)/\(4<=need->isS t ⟨#[33]⟩=false):=by
 unfold CR at h
 split at h
 . rename_i hn
   obtain⟨t,ht,h1,h2,_⟩:=FA hw h
   exact⟨t,ht,h1,fun h=>h2 (by simp only at hn;omega)⟩
 . obtain⟨t,ht,h1,_,h2,_⟩:=CB h
   exact⟨t,ht,.inl (by rw [h2];rfl),fun _=>by rw [h1];rfl⟩
theorem Ta {x:Aa}(hw:Wf x)(hx:Main x){need:Int}(hn:need<=8){c:Prop}{M:List Ab}{k d:Int}{u:Ab}(hM:Hs M)(hd:0<=d/\d<=31)(h:Has M k (CR need (lvl x.Op,BB x)))
 (hu:gi M (k+((CR need (lvl x.Op,BB x)).length:Int))=some u) (h40:isS u ⟨#[40]⟩=false) (hc:c->GW need (lvl x.Op,CK x) d) :
 Uq c M k d (k+((CR need (lvl x.Op,BB x)).length:Int)) u (nE x) need:=by
 unfold GW at hc
 unfold CR at h hu ⊢
 split
 . rename_i h1
   rw [if_pos h1] at h hu
   exact (hx c M k d u hM hd.1 hd.2 h hu h40 fun q=>by have:=hc q;rw [if_pos h1] at this;exact this).mono h1
 . rename_i h1
   rw [if_neg h1] at h hu
   obtain⟨t,ht,s1,_,s3,h⟩:=CB h
   obtain⟨h,h'⟩:=DJ h
   obtain⟨v,hv,v1,v2,_⟩:=CB h'
   have hc2:c->d+1<=30/\CK x (d+1):=fun q=>by have:=hc q;rw [if_neg h1] at this;exact this
   have eE:Eh c (fun n=>AI n M (k+1) (d+1)) (k+1+((BB x).length:Int)) (nE x):=by
    by_cases h30:30<d+1
    . obtain⟨t1,ht1,b1,_⟩:=FA hw h
      exact On ht1 b1 h30 fun q=>by have:=(hc2 q).1;omega
    . exact (hx c M (k+1) (d+1) v hM (by omega) (by omega) h hv (by rw [v1];rfl) fun q=>(hc2 q).2).e (by rw [v2];rfl) (by rw [v1];rfl) fun q=>(hc2 q).1
   have eA:=TT hM.len ht (by omega) (by rw [s1];rfl) eE hv (by rw [v1];rfl)
   have e7:=UT (Mj ht (by rw [s1];rfl) eA)
   have el:k+((tS ⟨#[40]⟩::(BB x++[tS ⟨#[41]⟩])).length:Int)=k+1+((BB x).length:Int)+1:=by
    simp only [List.length_cons,List.length_append,List.length_nil];omega
   simp only at hu ⊢
   rw [el] at hu ⊢
   exact (Kf (L:=7) (L':=8) ht hu (by omega) (.inr ⟨rfl,by omega⟩) (.inl (by rw [s3];rfl)) (fun _=>by rw [s1];rfl) (fun _=>e7) (fun h=>by omega)).mono hn
end Go.Sp
namespace Go.Sp
open Go
theorem E6 {t:Ab}(h:t.Kind≠4)(s:ByteArray):isS t s=false:=by
 unfold isS
 rw [show (t.Kind == 4)=false by simpa using h];rfl
theorem Eh.to {c:Prop}{F:Nat->Option A0}{z:Int}{X X':Aa}(h:Eh c F z X)(e:DY X=DY X'):Eh c F z X':=by
 obtain⟨g,hg,hh⟩:=h
 exact⟨g,hg,hh.imp (fun h=>h) fun h=>⟨h.1,h.2.1,h.2.2.trans e⟩⟩
section
variable {M:List Ab} {k d z:Int} {t u:Ab} {X:Aa} {c:Prop} (hM:M.length<=1000000) (hk:gi M k=some t)
include hM hk
theorem Wv (h:t.Kind=2):Eh c (fun n=>B0 n M k d) (k+1) ⟨1,t.N,⟨#[]⟩,[],0⟩:=by
 have hr:=(Am hk).2
 have w1:IntKind.i64.wrap (k+1)=k+1:=by rw [A3]<;>omega
 refine Eh.step (fun n=>B0.eq_2 (n:=n) _ _ _) ?_
 have e:A2 M k ⟨#[40]⟩=some (isS t ⟨#[40]⟩):=AG hk
 rw [E6 (by rw [h];decide)] at e
 simp only [hk,e,h,Option.bind_some,cond_false,show ((2:Int) == 2)=true from rfl,cond_true,w1]
 exact Eh.ok rfl
theorem UP (h:t.Kind=3):Eh c (fun n=>B0 n M k d) (k+1) ⟨2,0,t.S,[],0⟩:=by
 have hr:=(Am hk).2
 have w1:IntKind.i64.wrap (k+1)=k+1:=by rw [A3]<;>omega
 refine Eh.step (fun n=>B0.eq_2 (n:=n) _ _ _) ?_
 have e:A2 M k ⟨#[40]⟩=some (isS t ⟨#[40]⟩):=AG hk
 rw [E6 (by rw [h];decide)] at e
 simp only [hk,e,h,Option.bind_some,cond_false,show ((3:Int) == 2)=false from rfl,show ((3:Int) == 3)=true from rfl,cond_true,w1]
 exact Eh.ok rfl
theorem UQ (h:t.Kind=1)(hu:gi M (k+1)=some u)(h40:isS u ⟨#[40]⟩=false):Eh c (fun n=>B0 n M k d) (k+1) ⟨3,0,t.S,[],0⟩:=by
 have hr:=(Am hk).2
 have w1:IntKind.i64.wrap (k+1)=k+1:=by rw [A3]<;>omega
 refine Eh.step (fun n=>B0.eq_2 (n:=n) _ _ _) ?_
 have e:A2 M k ⟨#[40]⟩=some (isS t ⟨#[40]⟩):=AG hk
 have e2:A2 M (k+1) ⟨#[40]⟩=some (isS u ⟨#[40]⟩):=AG hu
 rw [E6 (by rw [h];decide)] at e
 simp only [hk,e,h,Option.bind_some,cond_false,show ((1:Int) == 2)=false from rfl,show ((1:Int) == 3)=false from rfl,show ((1:Int) != 1)=false from rfl,w1,e2,h40,Bool.not_false,cond_true]
 exact Eh.ok rfl
theorem US (h:t.Kind=1)(hu:gi M (k+1)=some u)(h40:isS u ⟨#[40]⟩=true)(ha:Eh c (fun n=>Co n M k d) z X):Eh c (fun n=>B0 n M k d) z X:=by
 have hr:=(Am hk).2
 have w1:IntKind.i64.wrap (k+1)=k+1:=by rw [A3]<;>omega
 refine Eh.step (fun n=>B0.eq_2 (n:=n) _ _ _) ?_
 have e:A2 M k ⟨#[40]⟩=some (isS t ⟨#[40]⟩):=AG hk
 have e2:A2 M (k+1) ⟨#[40]⟩=some (isS u ⟨#[40]⟩):=AG hu
 rw [E6 (by rw [h];decide)] at e
 simp only [hk,e,h,Option.bind_some,cond_false,show ((1:Int) == 2)=false from rfl,show ((1:Int) == 3)=false from rfl,show ((1:Int) != 1)=false from rfl,w1,e2,h40,Bool.not_true]
 exact ha.id
theorem TV (hu:gi M (k+2)=some u)(h41:isS u ⟨#[41]⟩=true):Eh c (fun n=>Co n M k d) (k+3) ⟨4,0,t.S,[],0⟩:=by
 have hr:=(Am hk).2
 have w1:IntKind.i64.wrap (k+2)=k+2:=by rw [A3]<;>omega
 have w2:IntKind.i64.wrap (k+2+1)=k+3:=by rw [A3]<;>omega
 refine Eh.step (fun n=>Co.eq_2 (n:=n) _ _ _) ?_
 have e:A2 M (k+2) ⟨#[41]⟩=some (isS u ⟨#[41]⟩):=AG hu
 simp only [hk,Option.bind_some,w1,e,h41,cond_true,w2]
 exact Eh.ok rfl
theorem TU (hu:gi M (k+2)=some u)(h41:isS u ⟨#[41]⟩=false)(ha:Eh c (fun n=>B3 n M d t (k+2) []) z X):Eh c (fun n=>Co n M k d) z X:=by
 have hr:=(Am hk).2
 have w1:IntKind.i64.wrap (k+2)=k+2:=by rw [A3]<;>omega
 refine Eh.step (fun n=>Co.eq_2 (n:=n) _ _ _) ?_
 have e:A2 M (k+2) ⟨#[41]⟩=some (isS u ⟨#[41]⟩):=AG hu
 simp only [hk,Option.bind_some,w1,e,h41,cond_false]
 exact ha
end
theorem Fp (op:Int)(ts:List Ab):CR 0 (lvl op,ts)=ts:=if_pos (I9 op).1
theorem Ue {t:Ab}(h:Fh t=true∨isS t ⟨#[33]⟩=true):isS t ⟨#[41]⟩=false:=by
 cases e:isS t ⟨#[41]⟩ with
 |false=>rfl
 |true =>
  unfold isS at e
  simp only [Bool.and_eq_true,beq_iff_eq,decide_eq_true_eq] at e
  unfold Fh isS at h
  rw [e.1,e.2] at h
  exact absurd h (by decide)
theorem Sm {c:Prop}{M:List Ab}{d:Int}{t:Ab}(hM:Hs M)(hd:0<=d/\d<=31) :
 ∀ (l:List Aa) (x:Aa) (out:List Aa) (p:Int),(∀ y∈x::l,Wf y/\Main y)->out.length<=40->(c->out.length+(l.length+1)<=40/\d+1<=30/\∀ y∈x::l,CK y (d+1)) ->
  Has M p (BB x++(DU (D4 l)++[tS ⟨#[41]⟩]))->Eh c (fun n=>B3 n M d t p out) (p+((BB x).length:Int)+((DU (D4 l)).length:Int)+1) ⟨4,0,t.S,out++nL (x::l),0⟩:=by
 intro l
 induction l with
 |nil =>
  intro x out p hy ho hc h
  obtain⟨wx,mx⟩:=hy x (.head _)
  obtain⟨hx,h⟩:=DJ h
  obtain⟨t0,ht0,b0,_⟩:=FA wx hx
  obtain⟨v,hv,v1,v2,_⟩:=CB (s:=⟨#[41]⟩) (r:=[]) h
  have hr:=(Am hv).2
  have hl:=hM.len
  have w2:IntKind.i64.wrap (d+1)=d+1:=by rw [A3]<;>omega
  have w3:IntKind.i64.wrap (p+((BB x).length:Int)+1)=p+((BB x).length:Int)+1:=by rw [A3]<;>omega
  have e1:A2 M (p+((BB x).length:Int)) ⟨#[41]⟩=some (isS v ⟨#[41]⟩):=AG hv
  refine Eh.step (fun n=>B3.eq_2 (n:=n) _ _ _ _ _) ?_
  simp only [w2,CC ht0,Option.bind_some,F3 (no:=true) (b0.imp id fun h=>⟨rfl,h⟩)]
  by_cases h30:30<d+1
  . rw [if_pos h30]
    exact Eh.deep rfl fun q=>by have:=(hc q).2.1;omega
  rw [if_neg h30]
  by_cases h40:out.length=40
  . simp only [beq_self_eq_true,cond_true,h40,show (((40:Nat):Int) == 40)=true from rfl,Option.bind_some]
    exact Eh.deep rfl fun q=>by have:=(hc q).1;omega
  have g4:((out.length:Int) == 40)=false:=by
   rw [beq_eq_false_iff_ne];omega
  simp only [beq_self_eq_true,cond_true,g4,show ((0:Int) == 2)=false from rfl,cond_false,Option.bind_some]
  refine Eh.bind ((mx c M p (d+1) v hM (by omega) (by omega) hx hv (by rw [v1];rfl) fun q=>(hc q).2.2 x (.head _)).e (by rw [v2];rfl) (by rw [v1];rfl) fun q=>(hc q).2.1) fun Y hY=>?_
  have g5:CO 65 out [Y]=some (out++[Y]):=by unfold CO;rw [if_pos (by simp only [List.length_cons,List.length_nil];omega)]
  simp only [g5,Option.bind_some,e1,v1,decide_true,cond_true,w3]
  rw [show (DU (D4 ([]:List Aa))).length=0 from rfl,show p+((BB x).length:Int)+((0:Nat):Int)+1=p+((BB x).length:Int)+1 by omega]
  exact Eh.ok (Jb (by rw [Iy,Iy];exact congrArg (IL out++·) (Q8 (x:=nE x) hY)))
 |cons x2 l ih =>
  intro x out p hy ho hc h
  obtain⟨wx,mx⟩:=hy x (.head _)
  obtain⟨hx,h⟩:=DJ h
  have h:Has M (p+((BB x).length:Int)) (tS ⟨#[44]⟩::(CR 0 (lvl x2.Op,BB x2)++DU (D4 l)++[tS ⟨#[41]⟩])):=h
  obtain⟨t0,ht0,b0,_⟩:=FA wx hx
  obtain⟨v,hv,v1,v2,_,h⟩:=CB h
  rw [Fp,List.append_assoc] at h
  have hr:=(Am hv).2
  have hl:=hM.len
  have w2:IntKind.i64.wrap (d+1)=d+1:=by rw [A3]<;>omega
  have w3:IntKind.i64.wrap (p+((BB x).length:Int)+1)=p+((BB x).length:Int)+1:=by rw [A3]<;>omega
  have e1:A2 M (p+((BB x).length:Int)) ⟨#[41]⟩=some (isS v ⟨#[41]⟩):=AG hv
  have e2:A2 M (p+((BB x).length:Int)) ⟨#[44]⟩=some (isS v ⟨#[44]⟩):=AG hv
  refine Eh.step (fun n=>B3.eq_2 (n:=n) _ _ _ _ _) ?_
  simp only [w2,CC ht0,Option.bind_some,F3 (no:=true) (b0.imp id fun h=>⟨rfl,h⟩)]
  by_cases h30:30<d+1
  . rw [if_pos h30]
    exact Eh.deep rfl fun q=>by have:=(hc q).2.1;omega
  rw [if_neg h30]
  by_cases h40:out.length=40
  . simp only [beq_self_eq_true,cond_true,h40,show (((40:Nat):Int) == 40)=true from rfl,Option.bind_some]
    exact Eh.deep rfl fun q=>by have:=(hc q).1;omega
  have g4:((out.length:Int) == 40)=false:=by
   rw [beq_eq_false_iff_ne];omega
  simp only [beq_self_eq_true,cond_true,g4,show ((0:Int) == 2)=false from rfl,cond_false,Option.bind_some]
  refine Eh.bind ((mx c M p (d+1) v hM (by omega) (by omega) hx hv (by rw [v1];rfl) fun q=>(hc q).2.2 x (.head _)).e (by rw [v2];rfl) (by rw [v1];rfl) fun q=>(hc q).2.1) fun Y hY=>?_
  have g5:CO 65 out [Y]=some (out++[Y]):=by unfold CO;rw [if_pos (by simp only [List.length_cons,List.length_nil];omega)]
  simp only [g5,Option.bind_some,e1,e2,v1,show decide ((⟨#[44]⟩:ByteArray)=⟨#[41]⟩)=false from rfl,decide_true,cond_false,Bool.not_true,w3]
  have:=ih x2 (out++[Y]) (p+((BB x).length:Int)+1) (fun y h=>hy y (.tail _ h)) (by simp only [List.length_append,List.length_cons,List.length_nil];omega)
   (fun q=>by
    obtain⟨q1,q2,q3⟩:=hc q
    simp only [List.length_cons] at q1
    exact⟨by simp only [List.length_append,List.length_cons,List.length_nil];omega,q2,fun y h=>q3 y (.tail _ h)⟩) h
  have el:p+((BB x).length:Int)+((DU (D4 (x2::l))).length:Int)+1=p+((BB x).length:Int)+1+((BB x2).length:Int)+((DU (D4 l)).length:Int)+1:=by
   have:(DU (D4 (x2::l))).length=(BB x2).length+(DU (D4 l)).length+1:=by
    show (tS ⟨#[44]⟩::(CR 0 (lvl x2.Op,BB x2)++DU (D4 l))).length=_
    rw [Fp,List.length_cons,List.length_append]
   omega
  rw [el]
  refine this.to (Jb ?_)
  rw [Iy,Iy,Iy,List.append_assoc,Q8 hY];rfl
theorem I0 (x:Aa)(l:List Aa):sep (D4 (x::l))=BB x++DU (D4 l):=by
 show CR 0 (lvl x.Op,BB x)++DU (D4 l)=_
 rw [Fp]
theorem TG {l:List Aa}{x:Aa}(h:x∈l):(lvl x.Op,CK x)∈JE l:=by
 induction l with
 |nil=>cases h
 |cons y l ih =>
  rcases List.mem_cons.1 h with rfl|h
  . exact .head _
  . exact .tail _ (ih h)
theorem Me:∀ l:List Aa,(JE l).length=l.length
 | []=>rfl
 |x::l=>by show (JE l).length+1=_;rw [Me l];rfl
end Go.Sp
namespace Go.Sp
open Go
theorem Ts {α:Type}(a:α)(l:List α)(k:Int):k+((a::l).length:Int)=k+1+(l.length:Int):=by rw [List.length_cons];omega
theorem UH {α:Type}(a b:List α)(k:Int):k+((a++b).length:Int)=k+(a.length:Int)+(b.length:Int):=by rw [List.length_append];omega
theorem Th {x:Aa}(n:Int)(s:ByteArray)(p:Int)(hw:Wf x)(hx:Main x):Main ⟨5,n,s,[x],p⟩:=by
 intro c M k d u hM d0 d1 h hu h40 hc
 have h:Has M k (tS ⟨#[33]⟩::CR 3 (lvl x.Op,BB x)):=h
 have hc:c->d+1<=30/\GW 3 (lvl x.Op,CK x) (d+1):=hc
 have hu:gi M (k+((tS ⟨#[33]⟩::CR 3 (lvl x.Op,BB x)).length:Int))=some u:=hu
 show Uq c M k d (k+((tS ⟨#[33]⟩::CR 3 (lvl x.Op,BB x)).length:Int)) u (nE ⟨5,n,s,[x],p⟩) 3
 rw [Ts] at hu ⊢
 obtain⟨t,ht,s1,_,_,h⟩:=CB h
 obtain⟨tt,htt,b0,_⟩:=JF hw h
 refine Kf (L:=3) ht hu (by omega) (.inl rfl) (.inr (by rw [s1];rfl)) (fun h=>by omega) (fun hn=>?_) (fun _ h=>absurd rfl h)
 refine Va ?_
 by_cases h30:30<d+1
 . have hr:=(Am ht).2
   have hl:=hM.len
   have w1:IntKind.i64.wrap (k+1)=k+1:=by rw [A3]<;>omega
   have w2:IntKind.i64.wrap (d+1)=d+1:=by rw [A3]<;>omega
   refine Eh.step (fun n=>BE.eq_2 (n:=n) _ _ _) ?_
   have e:A2 M k ⟨#[33]⟩=some (isS t ⟨#[33]⟩):=AG ht
   simp only [e,s1,decide_true,Option.bind_some,Bool.not_true,cond_false,w1,w2,CC htt,F3 (no:=true) (b0.imp id fun h=>⟨rfl,h⟩),if_pos h30,show ((2:Int) != 0)=true from rfl,cond_true]
   exact Eh.deep rfl fun q=>by have:=(hc q).1;omega
 . refine Ww hM.len ht (by omega) (by rw [s1];rfl) htt (by rw [F3 (b0.imp id fun h=>⟨rfl,h⟩),if_neg h30]) (Vb ?_)
   exact (Ta hw hx (by omega) hM ⟨by omega,by omega⟩ h hu h40 fun q=>(hc q).2).f 3 (by omega) (by omega) (by omega) hn
theorem Tj {x:Aa}(n:Int)(s:ByteArray)(p:Int)(hw:Wf x)(hx:Main x):Main ⟨6,n,s,[x],p⟩:=by
 intro c M k d u hM d0 d1 h hu h40 hc
 have h:Has M k (tS ⟨#[45]⟩::CR 7 (lvl x.Op,BB x)):=h
 have hc:c->d+1<=30/\GW 7 (lvl x.Op,CK x) (d+1):=hc
 have hu:gi M (k+((tS ⟨#[45]⟩::CR 7 (lvl x.Op,BB x)).length:Int))=some u:=hu
 show Uq c M k d (k+((tS ⟨#[45]⟩::CR 7 (lvl x.Op,BB x)).length:Int)) u (nE ⟨6,n,s,[x],p⟩) 7
 rw [Ts] at hu ⊢
 obtain⟨t,ht,s1,_,s3,h⟩:=CB h
 obtain⟨tt,htt,b0,b1⟩:=JF hw h
 have b2:Fh tt=true:=b0.resolve_right (by rw [b1 (by omega)];decide)
 refine Kf (L:=7) ht hu (by omega) (.inl rfl) (.inl (by rw [s3];rfl)) (fun h=>by rw [s1];rfl) (fun hn=>?_) (fun h=>by omega)
 refine UT ?_
 by_cases h30:30<d+1
 . have hr:=(Am ht).2
   have hl:=hM.len
   have w1:IntKind.i64.wrap (k+1)=k+1:=by rw [A3]<;>omega
   have w2:IntKind.i64.wrap (d+1)=d+1:=by rw [A3]<;>omega
   refine Eh.step (fun n=>Bu.eq_2 (n:=n) _ _ _) ?_
   have e:A2 M k ⟨#[45]⟩=some (isS t ⟨#[45]⟩):=AG ht
   simp only [e,s1,decide_true,Option.bind_some,Bool.not_true,cond_false,w1,w2,CC htt,F3 (no:=false) (.inl b2),if_pos h30,show ((2:Int) != 0)=true from rfl,cond_true]
   exact Eh.deep rfl fun q=>by have:=(hc q).1;omega
 . refine Wx hM.len ht (by omega) (by rw [s1];rfl) htt (by rw [F3 (.inl b2),if_neg h30]) (Tm ?_)
   exact (Ta hw hx (by omega) hM ⟨by omega,by omega⟩ h hu h40 fun q=>(hc q).2).f 7 (by omega) (by omega) (by omega) hn
theorem Tw {x y z:Aa}(n:Int)(s:ByteArray)(p:Int)(wx:Wf x)(mx:Main x)(wy:Wf y)(my:Main y)(wz:Wf z)(mz:Main z):Main ⟨20,n,s,[x,y,z],p⟩:=by
 intro c M k d u hM d0 d1 h hu h40 hc
 have e0:BB ⟨20,n,s,[x,y,z],p⟩=CR 1 (lvl x.Op,BB x)++(tS ⟨#[63]⟩::(BB y++(tS ⟨#[58]⟩::BB z))):=by
  show CR 1 (lvl x.Op,BB x)++(tS ⟨#[63]⟩::(CR 0 (lvl y.Op,BB y)++(tS ⟨#[58]⟩::CR 0 (lvl z.Op,BB z))))=_
  rw [Fp,Fp]
 have w0:∀ {x:Aa} {d:Int},GW 0 (lvl x.Op,CK x) d->CK x d:=fun {x d} h=>by unfold GW at h;rw [if_pos (I9 _).1] at h;exact h
 have hc:c->GW 1 (lvl x.Op,CK x) d/\d+1<=30/\CK y (d+1)/\CK z (d+1):=fun q=>by
  have h:GW 1 (lvl x.Op,CK x) d/\d+1<=30/\GW 0 (lvl y.Op,CK y) (d+1)/\GW 0 (lvl z.Op,CK z) (d+1):=hc q
  exact⟨h.1,h.2.1,w0 h.2.2.1,w0 h.2.2.2⟩
 rw [e0] at h hu ⊢
 rw [UH,Ts,UH,Ts] at hu ⊢
 obtain⟨hx,h⟩:=DJ h
 obtain⟨t1,ht1,a1,a2,_,h⟩:=CB h
 obtain⟨hy,h⟩:=DJ h
 obtain⟨t2,ht2,c1,c2,_,hz⟩:=CB h
 obtain⟨t,ht,b0,_⟩:=JF wx hx
 refine⟨fun w w1 _ w3=>absurd w3 (by show ¬ w<=0;omega),fun w w1 _ _ _ w3=>absurd w3 (by show ¬ w<=0;omega),fun hn hq hd=>?_⟩
 by_cases h30:30<d
 . exact On ht b0 h30 fun q=>by have:=hd q;omega
 have hr1:=(Am ht1).2
 have hr2:=(Am ht2).2
 have hl:=hM.len
 have w2:IntKind.i64.wrap (d+1)=d+1:=by rw [A3]<;>omega
 have w3:IntKind.i64.wrap (k+((CR 1 (lvl x.Op,BB x)).length:Int)+1)=k+((CR 1 (lvl x.Op,BB x)).length:Int)+1:=by rw [A3]<;>omega
 have w4:IntKind.i64.wrap (k+((CR 1 (lvl x.Op,BB x)).length:Int)+1+((BB y).length:Int)+1)=k+((CR 1 (lvl x.Op,BB x)).length:Int)+1+((BB y).length:Int)+1:=by rw [A3]<;>omega
 have e1:A2 M (k+((CR 1 (lvl x.Op,BB x)).length:Int)) ⟨#[63]⟩=some (isS t1 ⟨#[63]⟩):=AG ht1
 have e2:A2 M (k+((CR 1 (lvl x.Op,BB x)).length:Int)+1+((BB y).length:Int)) ⟨#[58]⟩=some (isS t2 ⟨#[58]⟩):=AG ht2
 refine Eh.step (fun n=>AI.eq_2 (n:=n) _ _ _) ?_
 simp only [CC ht,F3 (no:=true) (b0.imp id fun h=>⟨rfl,h⟩),if_neg h30,Option.bind_some,bne_self_eq_false,cond_false]
 refine Eh.bind ((Ta wx mx (by omega) hM ⟨d0,d1⟩ hx ht1 (by rw [a1];rfl) fun q=>(hc q).1).f 1 (by omega) (by omega) (by omega) (by rw [a2];decide)) fun X hX=>?_
 simp only [e1,a1,decide_true,Option.bind_some,Bool.not_true,cond_false,w2,w3]
 have sub:∀ {x:Aa} {k:Int} {u:Ab},Wf x->Main x->Has M k (BB x)->gi M (k+((BB x).length:Int))=some u->isS u ⟨#[40]⟩=false->(EO u).N=0->isS u ⟨#[63]⟩=false->(c->d+1<=30/\CK x (d+1)) ->
  Eh c (fun n=>AI n M k (d+1)) (k+((BB x).length:Int)) (nE x):=by
  intro x k u wx mx hx hu h40 hl hq hc
  by_cases h31:30<d+1
  . obtain⟨t,ht,b0,_⟩:=FA wx hx
    exact On ht b0 h31 fun q=>by have:=(hc q).1;omega
  . exact (mx c M k (d+1) u hM (by omega) (by omega) hx hu h40 fun q=>(hc q).2).e hl hq fun q=>(hc q).1
 refine Eh.bind (sub wy my hy ht2 (by rw [c1];rfl) (by rw [c2];rfl) (by rw [c1];rfl) fun q=>⟨(hc q).2.1,(hc q).2.2.1⟩) fun Y hY=>?_
 simp only [e2,c1,decide_true,Option.bind_some,Bool.not_true,cond_false,w4]
 refine Eh.bind (sub wz mz hz hu h40 hn hq fun q=>⟨(hc q).2.1,(hc q).2.2.2⟩) fun Z hZ=>?_
 exact Eh.ok (Jb (WO hX hY hZ))
theorem Ud {b:Aq}(hb:b∈Ec){x y:Aa}(n:Int)(s:ByteArray)(p:Int)(wx:Wf x)(mx:Main x)(wy:Wf y)(my:Main y):Main ⟨b.op,n,s,[x,y],p⟩:=by
 intro c M k d u hM d0 d1 h hu h40 hc
 obtain⟨_,f2,f3,_,_,_,_,_,_,_,_,f4,f5⟩:=DW hb
 rw [NQ hb] at h hu ⊢
 rw [Wi hb,show lvl (Aa.mk b.op n s [x,y] p).Op=b.level from f2]
 have hc:c->GW (lf b.level) (lvl x.Op,CK x) d/\GW (b.level+1) (lvl y.Op,CK y) d:=fun q=>by have:=hc q;rw [QZ hb] at this;exact this
 rw [UH,Ts] at hu ⊢
 obtain⟨hx,h⟩:=DJ h
 obtain⟨t1,ht1,a1,a2,_,hy⟩:=CB h
 obtain⟨t,ht,b0,b1⟩:=JF wx hx
 have lv1:(EO t1).N=b.level:=by rw [a2,f4]
 have lo1:(EO t1).Op=b.op:=by rw [a2,f4]
 have lfr:lf b.level=b.level/\b.level≠4∨lf b.level=5/\b.level=4:=by unfold lf;split<;>omega
 have L:=Ta wx mx (need:=lf b.level) (by omega) hM ⟨d0,d1⟩ hx ht1 (by rw [a1];rw [<- f5];unfold isS tS;rfl) fun q=>(hc q).1
 have R:=Ta wy my (need:=b.level+1) (by omega) hM ⟨d0,d1⟩ hy hu h40 fun q=>(hc q).2
 have hK:b.level≠4->(EO u).N<=b.level->∀ to2 X2,(∀ x0 Y,DY Y=DY ⟨b.op,0,⟨#[]⟩,[nE x,nE y],0⟩->Lp c b.level M d x0 Y (k+((CR (lf b.level) (lvl x.Op,BB x)).length:Int)+1+((CR (b.level+1) (lvl y.Op,BB y)).length:Int)) to2 X2) ->
  Eh c (fun n=>A1 n M k b.level d) to2 X2:=by
  intro h4 hn to2 X2 cont
  refine L.kk b.level (by omega) (by omega) (by omega) h4 (by omega) (by omega) to2 X2 fun x0 Y hY=>?_
  refine V4 hM.len ⟨by omega,by omega⟩ hY ht1 lv1 (R.f (b.level+1) (by omega) (by omega) (by omega) (by omega)) (fun q=>absurd q h4) fun _ Z hZ=>?_
  rw [lo1] at hZ
  exact cont x0 Z hZ
 refine Kf (L:=b.level) ht hu (by omega) (.inl rfl) b0 (fun h=>b1 (by omega)) (fun hn=>?_) fun _ _ h4 hn to2 X2 cont=>hK h4 hn to2 X2 cont
 by_cases h4:b.level=4
 . have F5:=L.f 5 (by omega) (by omega) (by omega) (by omega)
   refine Om (lv:=b.level) ⟨by omega,by omega,by omega⟩ (by rw [h4];exact F5) fun x0 Y hY=>?_
   exact V4 hM.len ⟨by omega,by omega⟩ hY ht1 lv1 (R.f (b.level+1) (by omega) (by omega) (by omega) (by omega)) (fun _=>⟨rfl,by rw [lo1]⟩) fun q=>absurd h4 q
 . exact hK h4 (by omega) _ _ fun x0 Y hY=>QP hY hu (by omega)
theorem Sj (n:Int)(s:ByteArray)(l:List Aa)(p:Int)(hl:∀ x∈l,Wf x/\Main x):Main ⟨4,n,s,l,p⟩:=by
 intro c M k d u hM d0 d1 h hu h40 hc
 have h:Has M k (⟨1,0,s,0⟩::tS ⟨#[40]⟩::(sep (D4 l)++[tS ⟨#[41]⟩])):=h
 have hu:gi M (k+((⟨1,0,s,0⟩::tS ⟨#[40]⟩::(sep (D4 l)++[tS ⟨#[41]⟩]):List Ab).length:Int))=some u:=hu
 show Uq c M k d (k+((⟨1,0,s,0⟩::tS ⟨#[40]⟩::(sep (D4 l)++[tS ⟨#[41]⟩]):List Ab).length:Int)) u ⟨4,0,s,nL l,0⟩ 8
 have hc:c->(JE l).length<=40/\∀ p∈JE l,d+1<=30/\GW 0 p (d+1):=hc
 obtain⟨⟨t,ht,k1,k2,_⟩,h⟩:=h
 obtain⟨v,hv,v1,_,_,h⟩:=CB h
 have hs:t.S=s:=k2
 have ea:Eh c (fun n=>Co n M k d) (k+((⟨1,0,s,0⟩::tS ⟨#[40]⟩::(sep (D4 l)++[tS ⟨#[41]⟩]):List Ab).length:Int)) ⟨4,0,s,nL l,0⟩:=by
  cases l with
  |nil =>
   obtain⟨w,hw,w1,_⟩:=CB (s:=⟨#[41]⟩) (r:=[]) h
   rw [show k+1+1=k+2 by omega] at hw
   have:=TV (d:=d) (c:=c) hM.len ht hw (by rw [w1];rfl)
   rw [hs] at this
   exact this
  |cons x l =>
   rw [I0,List.append_assoc] at h
   obtain⟨t0,ht0,b0,_⟩:=FA (hl x (.head _)).1 (DJ h).1
   rw [show k+1+1=k+2 by omega] at ht0 h
   have:=Sm (c:=c) (d:=d) (t:=t) hM ⟨d0,d1⟩ l x [] (k+2) hl (by simp) (fun q=>by
    obtain⟨q1,q2⟩:=hc q
    rw [Me] at q1
    have q3:=fun y hy=>q2 _ (TG (x:=y) hy)
    refine⟨by simp only [List.length_cons,List.length_nil] at q1 ⊢;omega,(q3 x (.head _)).1,fun y hy=>?_⟩
    have:=(q3 y hy).2
    unfold GW at this
    rw [if_pos (I9 _).1] at this
    exact this) h
   rw [hs] at this
   have el:k+((⟨1,0,s,0⟩::tS ⟨#[40]⟩::(sep (D4 (x::l))++[tS ⟨#[41]⟩]):List Ab).length:Int)=k+2+((BB x).length:Int)+((DU (D4 l)).length:Int)+1:=by
    rw [I0];simp only [List.length_cons,List.length_append,List.length_nil];omega
   rw [el]
   exact TU hM.len ht ht0 (Ue b0) this
 have e7:=UT (Mj ht (E6 (by rw [k1];exact of_decide_eq_true rfl) _) (US hM.len ht k1 hv (by rw [v1];rfl) ea))
 refine Kf (L:=7) ht hu (by omega) (.inr ⟨rfl,by omega⟩) (.inl ?_) (fun _=>E6 (by rw [k1];exact of_decide_eq_true rfl) _) (fun _=>e7) (fun h=>by omega)
 unfold Fh;rw [k1];rfl
theorem Ku {t0:Ab}{x:Aa}(hp:BB x=[t0])(hl:lvl x.Op=8)(hb:t0.Kind=1∨t0.Kind=2∨t0.Kind=3)
 (ha:∀ (c:Prop) (M:List Ab) (k d:Int) (t u:Ab),M.length<=1000000->gi M k=some t->t.Kind=t0.Kind->t.S=t0.S->t.N=t0.N->gi M (k+1)=some u->isS u ⟨#[40]⟩=false->Eh c (fun n=>B0 n M k d) (k+1) (nE x)):Main x:=by
 intro c M k d u hM d0 d1 h hu h40 hc
 rw [hp] at h hu ⊢
 rw [hl]
 obtain⟨⟨t,ht,k1,k2,k3⟩,_⟩:=h
 have hu:gi M (k+1)=some u:=hu
 show Uq c M k d (k+1) u (nE x) 8
 have n4:t.Kind≠4:=by omega
 have e7:=UT (Mj ht (E6 n4 _) (ha c M k d t u hM.len ht k1 k2 k3 hu h40))
 refine Kf (L:=7) ht hu (by omega) (.inr ⟨rfl,by omega⟩) (.inl ?_) (fun _=>E6 n4 _) (fun _=>e7) (fun h=>by omega)
 unfold Fh
 rw [k1]
 rcases hb with h|h|h<;>rw [h]<;>rfl
theorem main {x:Aa}(h:Wf x):Main x:=by
 induction h with
 |num n s l p =>
  refine Ku (t0:=⟨2,0,⟨#[]⟩,n⟩) rfl rfl (.inr (.inl rfl)) fun c M k d t u hM ht k1 k2 k3 hu h40=>?_
  have:=Wv (d:=d) (c:=c) hM ht k1
  rw [show t.N=n from k3] at this
  exact this
 |text n s l p =>
  refine Ku (t0:=⟨3,0,s,0⟩) rfl rfl (.inr (.inr rfl)) fun c M k d t u hM ht k1 k2 k3 hu h40=>?_
  have:=UP (d:=d) (c:=c) hM ht k1
  rw [show t.S=s from k2] at this
  exact this
 |name n s l p =>
  refine Ku (t0:=⟨1,0,s,0⟩) rfl rfl (.inl rfl) fun c M k d t u hM ht k1 k2 k3 hu h40=>?_
  have:=UQ (d:=d) (c:=c) hM ht k1 hu h40
  rw [show t.S=s from k2] at this
  exact this
 |call n s l p h ih=>exact Sj n s l p fun x hx=>⟨h x hx,ih x hx⟩
 |not n s x p h ih=>exact Th n s p h ih
 |neg n s x p h ih=>exact Tj n s p h ih
 |ite n s x y z p hx hy hz ihx ihy ihz=>exact Tw n s p hx ihx hy ihy hz ihz
 |bin b hb n s x y p hx hy ihx ihy=>exact Ud hb n s p hx ihx hy ihy
end Go.Sp
namespace Go.Sp
open Go
def IH (op n:Int)(s:ByteArray)(ks:List Bool):Bool :=
 if op=1 then EC n else if op=2 then Ew s else if op=3 then B8 s
 else if op=4 then B8 s&&ks.all id
 else if op=5 then ks.length == 1&&ks.all id
 else if op=6 then ks.length == 1&&ks.all id
 else if op=20 then ks.length == 3&&ks.all id
 else (Oq op Ec).isSome&&(ks.length == 2&&ks.all id)
mutual
def Es:Aa->Bool
 |.mk op n s l _=>IH op n s (Gq l)
def Gq:List Aa->List Bool
 | []=>[]
 |x::l=>Es x::Gq l
end
mutual
def Kz:Aa->Nat
 |.mk _ _ _ l _=>1+NH l
def NH:List Aa->Nat
 | []=>0
 |x::l=>Kz x+NH l
end
mutual
def Vr:Aa->Nat
 |.mk _ _ s l _=>s.size+Rw l
def Rw:List Aa->Nat
 | []=>0
 |x::l=>Vr x+Rw l
end
theorem Gp:∀ l:List Aa,(Gq l).length=l.length
 | []=>rfl
 |x::l=>by show (Gq l).length+1=_;rw [Gp l];rfl
theorem Gn (x:Aa):1<=Kz x:=by cases x;simp only [Kz];omega
theorem NG:∀ l:List Aa,l.length<=NH l
 | []=>Nat.le_refl _
 |x::l=>by have:=NG l;have:=Gn x;simp only [NH,List.length_cons];omega
theorem Jw (need:Int)(p:Int×List Ab):(CR need p).length<=p.2.length+2:=by
 unfold CR
 split
 . omega
 . simp only [List.length_cons,List.length_append,List.length_nil];omega
theorem SK (l:List Aa)(h:∀ x∈l,(BB x).length+3<=6*Kz x):(DU (D4 l)).length+l.length<=6*NH l:=by
 induction l with
 |nil=>exact Nat.le_refl _
 |cons x l ih =>
  have h1:=ih fun y hy=>h y (.tail _ hy)
  have h2:=h x (.head _)
  show (tS ⟨#[44]⟩::(CR 0 (lvl x.Op,BB x)++DU (D4 l))).length+(x::l).length<=6*(Kz x+NH l)
  rw [Fp]
  simp only [List.length_cons,List.length_append];omega
theorem NP:∀ (N:Nat) (x:Aa),Kz x<=N->(BB x).length+3<=6*Kz x
 |0,x,h=>by have:=Gn x;omega
 |N+1,.mk op n s l p,h=>by
  simp only [Kz] at h ⊢
  have hk:∀ x∈l,(BB x).length+3<=6*Kz x:=by
   intro x hx
   refine NP N x ?_
   have:∀ {l:List Aa} {x:Aa},x∈l->Kz x<=NH l:=by
    intro l x hx
    induction l with
    |nil=>cases hx
    |cons y l ih =>
     simp only [NH]
     rcases List.mem_cons.1 hx with rfl|hx
     . omega
     . have:=ih hx;omega
   have:=this hx;omega
  show (P8 op n s (D4 l)).length+3<=6*(1+NH l)
  unfold P8
  split
  . simp;omega
  split
  . simp;omega
  split
  . simp;omega
  split
  . cases l with
    |nil=>simp [sep,D4];omega
    |cons x l =>
     rw [I0]
     have h1:=SK l fun y hy=>hk y (.tail _ hy)
     have h2:=hk x (.head _)
     simp only [List.length_cons,List.length_append,List.length_nil,NH];omega
  split
  . match l with
    | []=>simp [D4];omega
    | [x] =>
     have h2:=hk x (.head _)
     have h3:=Jw 3 (lvl x.Op,BB x)
     simp only [D4,NH,List.length_cons]
     simp only at h3;omega
    |x::y::l=>simp [D4];omega
  split
  . match l with
    | []=>simp [D4];omega
    | [x] =>
     have h2:=hk x (.head _)
     have h3:=Jw 7 (lvl x.Op,BB x)
     simp only [D4,NH,List.length_cons]
     simp only at h3;omega
    |x::y::l=>simp [D4];omega
  split
  . match l with
    | []=>simp [D4];omega
    | [x]=>simp [D4];omega
    | [x,y]=>simp [D4];omega
    | [x,y,z] =>
     have h2:=hk x (.head _)
     have h3:=hk y (.tail _ (.head _))
     have h4:=hk z (.tail _ (.tail _ (.head _)))
     have h5:=Jw 1 (lvl x.Op,BB x)
     simp only [D4,NH,List.length_cons,List.length_append,Fp]
     simp only at h5;omega
    |x::y::z::w::l=>simp [D4];omega
  . cases Oq op Ec with
    |none=>simp;omega
    |some b =>
     match l with
     | []=>simp [D4];omega
     | [x]=>simp [D4];omega
     | [x,y] =>
      have h2:=hk x (.head _)
      have h3:=hk y (.tail _ (.head _))
      have h5:=Jw (lf b.level) (lvl x.Op,BB x)
      have h6:=Jw (b.level+1) (lvl y.Op,BB y)
      simp only [D4,NH,List.length_cons,List.length_append]
      simp only at h5 h6;omega
     |x::y::z::l=>simp [D4];omega
theorem Lw:∀ {l:List Aa} {x:Aa},x∈l->Kz x<=NH l:=by
 intro l x hx
 induction l with
 |nil=>cases hx
 |cons y l ih =>
  simp only [NH]
  rcases List.mem_cons.1 hx with rfl|hx
  . omega
  . have:=ih hx;omega
theorem Ux:∀ {l:List Aa} {x:Aa},x∈l->Vr x<=Rw l:=by
 intro l x hx
 induction l with
 |nil=>cases hx
 |cons y l ih =>
  simp only [Rw]
  rcases List.mem_cons.1 hx with rfl|hx
  . omega
  . have:=ih hx;omega
def X0 (e:Aa):Prop:=∀ p:Ag,p.l.length+(BB e).length<=900000->Ev (fun n=>AZ n p e) ((),⟨p.l++BB e,p.bad||!Es e⟩)
theorem Hh {e:Aa}(h:X0 e){p:Ag}{need:Int}(hp:p.l.length+(CR need (lvl e.Op,BB e)).length<=900000):Ev (fun n=>A8 n p e need) ((),⟨p.l++CR need (lvl e.Op,BB e),p.bad||!Es e⟩):=by
 refine Ev.step (fun n=>A8.eq_2 (n:=n) _ _ _) (Ev.bind (RN e) ?_)
 unfold CR at hp ⊢
 by_cases hn:need<=lvl e.Op
 . rw [if_pos hn] at hp ⊢
   simp only [decide_eq_true hn,cond_true]
   exact Ev.bind (h p hp) Ev.pure
 . rw [if_neg hn] at hp ⊢
   simp only [List.length_cons,List.length_append,List.length_nil] at hp
   simp only [decide_eq_false hn,cond_false]
   refine Ev.bind (Ev.const (a:=[⟨#[40]⟩]) rfl) (Ev.bind (CF (by omega)) (Ev.bind (h _ (by simp only [List.length_append,List.length_cons,List.length_nil];omega)) (Ev.bind (Ev.const (a:=[⟨#[41]⟩]) rfl) (Ev.bind (CF (by simp only [List.length_append,List.length_cons,List.length_nil];omega)) ?_))))
   simp only [List.append_assoc]
   exact Ev.pure
theorem Nx {e:Aa}{sg:List ByteArray}(hl:∀ x∈e.Kids,X0 x)(h47:e.Kids.length<=140737488355328):∀ (m j:Nat) (p:Ag),1<=j->j+m=e.Kids.length->p.l.length+(DU (D4 (e.Kids.drop j))).length<=900000 ->
 Ev (fun n=>Bo n e sg (j:Int) p.l p.bad) (p.l++DU (D4 (e.Kids.drop j)),p.bad||!(Gq (e.Kids.drop j)).all id)
 |0,j,p,h1,h,hp=>by
  refine Ev.step (fun n=>Bo.eq_2 (n:=n) _ _ _ _ _) (Ev.of fun n=>?_)
  rw [decide_eq_false (by omega),List.drop_of_length_le (by omega)]
  show some (p.l,p.bad)=some (p.l++[],p.bad||false)
  rw [List.append_nil,Bool.or_false]
 |m+1,j,p,h1,h,hp=>by
  have hj:j<e.Kids.length:=by omega
  have w1:IntKind.i64.wrap ((j:Int)+1)=((j+1:Nat):Int):=by rw [A3]<;>omega
  have hd:=List.drop_eq_getElem_cons hj
  rw [hd] at hp ⊢
  have hp:p.l.length+(tS ⟨#[44]⟩::(CR 0 (lvl e.Kids[j].Op,BB e.Kids[j])++DU (D4 (e.Kids.drop (j+1))))).length<=900000:=hp
  simp only [List.length_cons,List.length_append] at hp
  refine Ev.step (fun n=>Bo.eq_2 (n:=n) _ _ _ _ _) ?_
  simp only [decide_eq_true (show (j:Int)<(e.Kids.length:Int) by omega),decide_eq_true (show (0:Int)<(j:Int) by omega),cond_true,ED hj,Option.bind_some,w1]
  refine Ev.bind (CF (by show p.l.length<=_;omega)) (Ev.bind (Hh (hl _ (List.getElem_mem hj)) (by simp only [List.length_append,List.length_cons,List.length_nil];omega)) ?_)
  have:=Nx (sg:=sg) hl h47 m (j+1) ⟨p.l++[tS ⟨#[44]⟩]++CR 0 (lvl e.Kids[j].Op,BB e.Kids[j]),p.bad||!Es e.Kids[j]⟩ (by omega) (by omega) (by simp only [List.length_append,List.length_cons,List.length_nil];omega)
  have e1:p.l++DU (D4 (e.Kids[j]::e.Kids.drop (j+1)))=p.l++[tS ⟨#[44]⟩]++CR 0 (lvl e.Kids[j].Op,BB e.Kids[j])++DU (D4 (e.Kids.drop (j+1))):=by
   show p.l++(tS ⟨#[44]⟩::(CR 0 (lvl e.Kids[j].Op,BB e.Kids[j])++DU (D4 (e.Kids.drop (j+1)))))=_
   simp only [List.append_assoc,List.cons_append,List.nil_append]
  have e2:(p.bad||!(Gq (e.Kids[j]::e.Kids.drop (j+1))).all id)=(p.bad||!Es e.Kids[j]||!(Gq (e.Kids.drop (j+1))).all id):=by
   show (p.bad||!(Es e.Kids[j]&&(Gq (e.Kids.drop (j+1))).all id))=_
   rw [Bool.not_and,Bool.or_assoc]
  rw [e1,e2]
  exact this
inductive Qz:Aa->Prop where
 |mk (e:Aa) (hl:e.Kids.length<=140737488355328) (hs:Es e=true∨e.S.size<=140737488355328) (h:e.Op≠1->e.Op≠2->e.Op≠3->∀ x∈e.Kids,Qz x):Qz e
theorem GK {s:ByteArray}(h:B8 s=true):s.size<=32:=by
 unfold B8 at h
 rw [Bool.and_eq_true,decide_eq_true_eq] at h
 exact h.1.2
theorem Ix {s:ByteArray}(h:Ew s=true):s.size<=200:=by
 unfold Ew at h
 rw [Bool.and_eq_true,decide_eq_true_eq] at h
 exact h.1
theorem Vw {e:Aa}(h:Qz e):X0 e:=by
 induction h with
 |mk e hl hs _ ih =>
  obtain⟨op,v,s,l,at_⟩:=e
  intro p hp
  simp only at hl ih
  have hs':IH op v s (Gq l)=true∨s.size<=140737488355328:=hs
  have hp:p.l.length+(P8 op v s (D4 l)).length<=900000:=hp
  show Ev (fun n=>AZ n p ⟨op,v,s,l,at_⟩) ((),⟨p.l++P8 op v s (D4 l),p.bad||!IH op v s (Gq l)⟩)
  refine Ev.step (fun n=>AZ.eq_2 (n:=n) _ _) ?_
  unfold P8 at hp ⊢
  unfold IH
  by_cases h1:op=1
  . subst h1
    simp only [show ((1:Int) == 1)=true from rfl,cond_true,if_true]
    exact Ev.bind (Ev.const (Kk (by omega))) Ev.pure
  rw [if_neg h1] at hp ⊢
  rw [if_neg h1]
  simp only [show (op == 1)=false by simpa using h1,cond_false]
  by_cases h2:op=2
  . subst h2
    simp only [show ((2:Int) == 2)=true from rfl,cond_true,if_true]
    exact Ev.bind (Q5 (hs'.elim (fun h=>by have:=Ix (show Ew s=true from h);omega) id) (by omega)) Ev.pure
  rw [if_neg h2] at hp ⊢
  rw [if_neg h2]
  simp only [show (op == 2)=false by simpa using h2,cond_false]
  by_cases h3:op=3
  . subst h3
    simp only [show ((3:Int) == 3)=true from rfl,cond_true,if_true]
    exact Ev.bind (KX (hs'.elim (fun h=>by have:=GK (show B8 s=true from h);omega) id) (by omega)) Ev.pure
  have hk:∀ x∈l,X0 x:=ih h1 h2 h3
  rw [if_neg h3] at hp ⊢
  rw [if_neg h3]
  simp only [show (op == 3)=false by simpa using h3,cond_false]
  by_cases h4:op=4
  . subst h4
    simp only [if_true,List.length_cons,List.length_append,List.length_nil] at hp
    simp only [show ((4:Int) == 4)=true from rfl,cond_true,if_true]
    have hl47:l.length<=140737488355328:=hl
    have hs4:s.size<=140737488355328:=hs'.elim (fun h=>by
     have h:(B8 s&&(Gq l).all id)=true:=h
     rw [Bool.and_eq_true] at h
     have:=GK h.1;omega) id
    refine Ev.bind (KX hs4 (by omega)) (Ev.bind (Ev.const (a:=[⟨#[40]⟩]) rfl) (Ev.bind (CF (by simp only [List.length_append,List.length_cons,List.length_nil];omega)) ?_))
    simp only [List.append_assoc,List.cons_append,List.nil_append]
    refine Ev.bind (a:=(p.l++⟨1,0,s,0⟩::tS ⟨#[40]⟩::sep (D4 l),p.bad||!B8 s||!(Gq l).all id)) ?_ ?_
    . cases l with
      |nil =>
       refine Ev.step (fun n=>Bo.eq_2 (n:=n) _ _ _ _ _) (Ev.of fun n=>?_)
       show some _=some (_,p.bad||!B8 s||false)
       rw [Bool.or_false];rfl
      |cons x l =>
       rw [I0,List.length_append] at hp
       refine Ev.step (fun n=>Bo.eq_2 (n:=n) _ _ _ _ _) ?_
       simp only [List.length_cons,decide_eq_true (show (0:Int)<((l.length+1:Nat):Int) by omega),cond_true,show gi (x::l) 0=some x from rfl,Option.bind_some,show decide ((0:Int)<0)=false from rfl,cond_false,show IntKind.i64.wrap (0+1)=((1:Nat):Int) from rfl]
       have ho:=Hh (hk x (.head _)) (p:=⟨p.l++⟨1,0,s,0⟩::[tS ⟨#[40]⟩],p.bad||!B8 s⟩) (need:=0) (by rw [Fp];simp only [List.length_append,List.length_cons,List.length_nil];omega)
       refine Ev.bind ho ?_
       have:=Nx (e:=⟨4,v,s,x::l,at_⟩) (sg:=[⟨#[40]⟩]) hk hl47 l.length 1 ⟨p.l++⟨1,0,s,0⟩::[tS ⟨#[40]⟩]++CR 0 (lvl x.Op,BB x),p.bad||!B8 s||!Es x⟩ (Nat.le_refl _) (by simp only [List.length_cons];omega)
        (by rw [Fp];simp only [List.drop_succ_cons,List.drop_zero,List.length_append,List.length_cons,List.length_nil];omega)
       have e1:p.l++⟨1,0,s,0⟩::tS ⟨#[40]⟩::sep (D4 (x::l))=p.l++⟨1,0,s,0⟩::[tS ⟨#[40]⟩]++CR 0 (lvl x.Op,BB x)++DU (D4 ((x::l).drop 1)):=by
        rw [I0,Fp];simp
       have e2:(p.bad||!B8 s||!(Gq (x::l)).all id)=(p.bad||!B8 s||!Es x||!(Gq ((x::l).drop 1)).all id):=by
        show (p.bad||!B8 s||!(Es x&&(Gq l).all id))=_
        rw [Bool.not_and,Bool.or_assoc,Bool.or_assoc,Bool.or_assoc];rfl
       rw [e1,e2]
       exact this
    . refine Ev.bind (Ev.const (a:=[⟨#[41]⟩]) rfl) (Ev.bind (CF (by simp only [List.length_append,List.length_cons];omega)) (Ev.of fun _=>?_))
      rw [Bool.not_and,Bool.or_assoc]
      simp only [List.append_assoc,List.cons_append]
  rw [if_neg h4] at hp ⊢
  rw [if_neg h4]
  simp only [show (op == 4)=false by simpa using h4,cond_false]
  by_cases h5:op=5
  . subst h5
    simp only [show ((5:Int) == 5)=true from rfl,cond_true,Option.bind_some,show (FR [(5,1),(6,1),(20,3)] (5:Int)).1=1 from rfl,if_true]
    match l,hk,hp with
    | [],hk,hp =>
     refine Ev.of fun n=>?_
     show some ((),Ag.mk p.l true)=some ((),⟨p.l++[],p.bad||true⟩)
     rw [List.append_nil,Bool.or_true]
    | [x],hk,hp =>
     have hp:p.l.length+(tS ⟨#[33]⟩::CR 3 (lvl x.Op,BB x)).length<=900000:=hp
     simp only [List.length_cons] at hp
     simp only [List.length_singleton,show (((1:Nat):Int) != 1)=false from rfl,cond_false]
     refine Ev.bind (CF (s:=⟨#[33]⟩) (by omega)) (Ev.bind (Ev.const (a:=x) rfl) (Ev.bind (Hh (hk x (.head _)) (by simp only [List.length_append,List.length_cons,List.length_nil];omega)) (Ev.of fun n=>?_)))
     show some ((),Ag.mk _ (p.bad||!Es x))=some ((),⟨p.l++(tS ⟨#[33]⟩::CR 3 (lvl x.Op,BB x)),p.bad||!(Es x&&true)⟩)
     rw [Bool.and_true,List.append_assoc];rfl
    |x::y::r,hk,hp =>
     refine Ev.of fun n=>?_
     rw [show ((((x::y::r).length:Nat):Int) != 1)=true by simp only [List.length_cons,bne_iff_ne,ne_eq];omega]
     have e:((Gq (x::y::r)).length == 1)=false:=by rw [Gp,beq_eq_false_iff_ne];simp
     rw [e]
     show some ((),Ag.mk p.l true)=some ((),⟨p.l++[],p.bad||true⟩)
     rw [List.append_nil,Bool.or_true]
  rw [if_neg h5] at hp ⊢
  rw [if_neg h5]
  simp only [show (op == 5)=false by simpa using h5,cond_false]
  by_cases h6:op=6
  . subst h6
    simp only [show ((6:Int) == 6)=true from rfl,cond_true,Option.bind_some,show (FR [(5,1),(6,1),(20,3)] (6:Int)).1=1 from rfl,if_true]
    match l,hk,hp with
    | [],hk,hp =>
     refine Ev.of fun n=>?_
     show some ((),Ag.mk p.l true)=some ((),⟨p.l++[],p.bad||true⟩)
     rw [List.append_nil,Bool.or_true]
    | [x],hk,hp =>
     have hp:p.l.length+(tS ⟨#[45]⟩::CR 7 (lvl x.Op,BB x)).length<=900000:=hp
     simp only [List.length_cons] at hp
     simp only [List.length_singleton,show (((1:Nat):Int) != 1)=false from rfl,cond_false]
     refine Ev.bind (CF (s:=⟨#[45]⟩) (by omega)) (Ev.bind (Ev.const (a:=x) rfl) (Ev.bind (Hh (hk x (.head _)) (by simp only [List.length_append,List.length_cons,List.length_nil];omega)) (Ev.of fun n=>?_)))
     show some ((),Ag.mk _ (p.bad||!Es x))=some ((),⟨p.l++(tS ⟨#[45]⟩::CR 7 (lvl x.Op,BB x)),p.bad||!(Es x&&true)⟩)
     rw [Bool.and_true,List.append_assoc];rfl
    |x::y::r,hk,hp =>
     refine Ev.of fun n=>?_
     rw [show ((((x::y::r).length:Nat):Int) != 1)=true by simp only [List.length_cons,bne_iff_ne,ne_eq];omega]
     have e:((Gq (x::y::r)).length == 1)=false:=by rw [Gp,beq_eq_false_iff_ne];simp
     rw [e]
     show some ((),Ag.mk p.l true)=some ((),⟨p.l++[],p.bad||true⟩)
     rw [List.append_nil,Bool.or_true]
  rw [if_neg h6] at hp ⊢
  rw [if_neg h6]
  simp only [show (op == 6)=false by simpa using h6,cond_false]
  by_cases h20:op=20
  . subst h20
    simp only [show ((20:Int) == 20)=true from rfl,cond_true,Option.bind_some,show (FR [(5,1),(6,1),(20,3)] (20:Int)).1=3 from rfl,if_true]
    have bad:∀ (ts:List Ab) (b:Bool),((l.length:Nat):Int)≠3->ts=[]->b=true->Ev (fun n=>(bif (((l.length:Nat):Int) != 3) then some ((),Ag.mk p.l true) else (gi l 0).bind fun x3=>(A8 n p x3 1).bind fun o_4=>(some [⟨#[63]⟩]).bind fun l5=>(A9 n o_4.2 l5).bind fun s5=>(gi l 1).bind fun x4=>(A8 n s5.2 x4 0).bind fun o_5=>(some [⟨#[58]⟩]).bind fun l6=>(A9 n o_5.2 l6).bind fun s6=>(gi l 2).bind fun x5=>(A8 n s6.2 x5 0).bind fun o_6=>some ((),o_6.2):Option (Unit×Ag))) ((),⟨p.l++ts,b⟩):=by
     rintro ts b h rfl rfl
     refine Ev.of fun n=>?_
     rw [show ((((l.length:Nat):Int)) != 3)=true by simpa using h,List.append_nil];rfl
    match l,hk,hp,bad with
    | [],hk,hp,bad=>exact bad _ _ (of_decide_eq_true rfl) rfl (by show (p.bad||true)=true;rw [Bool.or_true])
    | [x],hk,hp,bad=>exact bad _ _ (of_decide_eq_true rfl) rfl (by show (p.bad||true)=true;rw [Bool.or_true])
    | [x,y],hk,hp,bad=>exact bad _ _ (of_decide_eq_true rfl) rfl (by show (p.bad||true)=true;rw [Bool.or_true])
    | [x,y,z],hk,hp,bad =>
     have hp:p.l.length+(CR 1 (lvl x.Op,BB x)++(tS ⟨#[63]⟩::(CR 0 (lvl y.Op,BB y)++(tS ⟨#[58]⟩::CR 0 (lvl z.Op,BB z))))).length<=900000:=hp
     simp only [List.length_cons,List.length_append] at hp
     simp only [show ((([x,y,z].length:Nat):Int) != 3)=false from rfl,cond_false]
     refine Ev.bind (Ev.const (a:=x) rfl) (Ev.bind (Hh (hk x (.head _)) (by omega)) (Ev.bind (CF (s:=⟨#[63]⟩) (by simp only [List.length_append];omega)) (Ev.bind (Ev.const (a:=y) rfl)
      (Ev.bind (Hh (hk y (.tail _ (.head _))) (by simp only [List.length_append,List.length_cons,List.length_nil];omega)) (Ev.bind (CF (s:=⟨#[58]⟩) (by simp only [List.length_append,List.length_cons,List.length_nil];omega)) (Ev.bind (Ev.const (a:=z) rfl)
       (Ev.bind (Hh (hk z (.tail _ (.tail _ (.head _)))) (by simp only [List.length_append,List.length_cons,List.length_nil];omega)) (Ev.of fun n=>?_))))))))
     show some ((),Ag.mk _ (p.bad||!Es x||!Es y||!Es z))=some ((),⟨p.l++(CR 1 (lvl x.Op,BB x)++(tS ⟨#[63]⟩::(CR 0 (lvl y.Op,BB y)++(tS ⟨#[58]⟩::CR 0 (lvl z.Op,BB z))))),p.bad||!(Es x&&(Es y&&(Es z&&true)))⟩)
     rw [Bool.and_true,Bool.not_and,Bool.not_and,<- Bool.or_assoc,<- Bool.or_assoc]
     simp only [List.append_assoc,List.cons_append,List.nil_append]
    |x::y::z::w::r,hk,hp,bad =>
     refine bad _ _ (by simp only [List.length_cons];omega) rfl ?_
     have e:((Gq (x::y::z::w::r)).length == 3)=false:=by rw [Gp,beq_eq_false_iff_ne];simp
     rw [e]
     show (p.bad||true)=true
     rw [Bool.or_true]
  rw [if_neg h20] at hp ⊢
  rw [if_neg h20]
  simp only [show (op == 20)=false by simpa using h20,cond_false,Option.bind_some,Hg]
  rcases RR p.l p.bad op v s l at_ with⟨hb,hi⟩|⟨i,b,hi,hg,hb⟩
  . rw [hb]
    refine Ev.bind hi (Ev.of fun n=>?_)
    show some ((),Ag.mk p.l true)=some ((),⟨p.l++[],p.bad||true⟩)
    rw [List.append_nil,Bool.or_true]
  . rw [hb] at hp ⊢
    refine Ev.bind hi ?_
    simp only [decide_eq_false (show ¬ (i:Int)<0 by omega),cond_false,Option.bind_some]
    have f3:=(DW (KZ hb).1).2.2.1
    have w1:IntKind.i64.wrap (b.level+1)=b.level+1:=by rw [A3]<;>omega
    have bad:∀ (ts:List Ab) (bb:Bool),((l.length:Nat):Int)≠2->ts=[]->bb=true->Ev (fun n=>(bif (((l.length:Nat):Int) != 2) then some ((),Ag.mk p.l true) else (gi Ec (i:Int)).bind fun x6=>(bif (x6.level == 4) then some 5 else some x6.level:Option Int).bind fun left=>(gi l 0).bind fun x7=>(A8 n p x7 left).bind fun o_9=>(some [x6.sign]).bind fun l7=>(A9 n o_9.2 l7).bind fun s7=>(gi l 1).bind fun x8 =>
     (A8 n s7.2 x8 (if (IntKind.i64.wrap (x6.level+1)) > left then (IntKind.i64.wrap (x6.level+1)) else left)).bind fun o_10=>some ((),o_10.2):Option (Unit×Ag))) ((),⟨p.l++ts,bb⟩):=by
     rintro ts bb h rfl rfl
     refine Ev.of fun n=>?_
     rw [show ((((l.length:Nat):Int)) != 2)=true by simpa using h,List.append_nil];rfl
    match l,hk,hp,bad with
    | [],hk,hp,bad=>exact bad _ _ (of_decide_eq_true rfl) rfl (by show (p.bad||true)=true;rw [Bool.or_true])
    | [x],hk,hp,bad=>exact bad _ _ (of_decide_eq_true rfl) rfl (by show (p.bad||true)=true;rw [Bool.or_true])
    | [x,y],hk,hp,bad =>
     have hp:p.l.length+(CR (lf b.level) (lvl x.Op,BB x)++(tS b.sign::CR (b.level+1) (lvl y.Op,BB y))).length<=900000:=hp
     simp only [List.length_cons,List.length_append] at hp
     have eL:(bif (b.level == 4) then some 5 else some b.level:Option Int)=some (lf b.level):=by
      unfold lf
      by_cases q:b.level=4
      . rw [if_pos q,show (b.level == 4)=true by simpa using q];rfl
      . rw [if_neg q,show (b.level == 4)=false by simpa using q];rfl
     have eR:(if b.level+1 > lf b.level then b.level+1 else lf b.level)=b.level+1:=by
      unfold lf
      by_cases q:b.level=4
      . rw [if_pos q,q];rfl
      . rw [if_neg q,if_pos (by omega)]
     simp only [show ((([x,y].length:Nat):Int) != 2)=false from rfl,cond_false,hg,Option.bind_some,eL,w1,eR]
     refine Ev.bind (Ev.const (a:=x) rfl) (Ev.bind (Hh (hk x (.head _)) (by omega)) (Ev.bind (CF (by simp only [List.length_append];omega)) (Ev.bind (Ev.const (a:=y) rfl)
      (Ev.bind (Hh (hk y (.tail _ (.head _))) (by simp only [List.length_append,List.length_cons,List.length_nil];omega)) (Ev.of fun n=>?_)))))
     show some ((),Ag.mk _ (p.bad||!Es x||!Es y))=some ((),⟨p.l++(CR (lf b.level) (lvl x.Op,BB x)++(tS b.sign::CR (b.level+1) (lvl y.Op,BB y))),p.bad||!(true&&(true&&(Es x&&(Es y&&true))))⟩)
     rw [Bool.and_true,Bool.true_and,Bool.true_and,Bool.not_and,<- Bool.or_assoc]
     simp only [List.append_assoc,List.cons_append,List.nil_append]
    |x::y::z::r,hk,hp,bad =>
     refine bad _ _ (by simp only [List.length_cons];omega) rfl ?_
     have e:((Gq (x::y::z::r)).length == 2)=false:=by rw [Gp,beq_eq_false_iff_ne];simp
     rw [e]
     show (p.bad||true)=true
     rw [Bool.or_true]
theorem Og:∀ (N:Nat) (e:Aa),Kz e<=N->Kz e<=1000000->Vr e<=140737488355328->Qz e
 |0,e,h,_,_=>by have:=Gn e;omega
 |N+1,.mk op v s l p,h,hz,hs=>by
  simp only [Kz] at h hz
  simp only [Vr] at hs
  have hl:=NG l
  exact .mk _ (by show l.length<=_;omega) (.inr (by show s.size<=_;omega)) fun _ _ _ x (hx:x∈l)=>Og N x (by have:=Lw hx;omega) (by have:=Lw hx;omega) (by have:=Ux hx;omega)
end Go.Sp
