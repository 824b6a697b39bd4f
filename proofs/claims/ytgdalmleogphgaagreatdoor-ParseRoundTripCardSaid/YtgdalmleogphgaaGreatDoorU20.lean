/-
  What is read of a source can be printed, at the depth at which it was read, with no longer text. No program. What is read of a source can be printed: expressions, by induction. No program.
-/
import Derived.Test.YtgdalmleogphgaaGreatDoorU17
import Derived.Test.YtgdalmleogphgaaGreatDoorU18
import Derived.Test.YtgdalmleogphgaaGreatDoorU19
namespace Go.Sp
open Go
def tw (t:Ab):Nat:=(Em t).flatten.length+1
def Dx:List Ab->Nat
 | []=>0
 |t::l=>tw t+Dx l
theorem Dp:∀ a b:List Ab,Dx (a++b)=Dx a+Dx b
 | [],b=>by show Dx b=0+Dx b;omega
 |t::a,b=>by show tw t+Dx (a++b)=tw t+Dx a+Dx b;rw [Dp a b];omega
def sm (L:List Ab)(k:Int):Nat:=Dx (L.take k.toNat)
theorem Iz {L:List Ab}{k:Int}{t:Ab}(h:gi L k=some t):sm L (k+1)=sm L k+tw t:=by
 obtain⟨_,h0,h1⟩:=Am h
 unfold gi at h
 rw [if_pos h0] at h
 obtain⟨hl,he⟩:=List.getElem?_eq_some_iff.1 h
 unfold sm
 rw [show (k+1).toNat=k.toNat+1 by omega,List.take_succ_eq_append_getElem hl,Dp,he];rfl
theorem RQ {t:Ab}{s:ByteArray}(h:isS t s=true):t.Kind=4/\t.S=s:=by
 unfold isS at h
 simp only [Bool.and_eq_true,beq_iff_eq,decide_eq_true_eq] at h
 exact h
theorem Q0 {t:Ab}{s:ByteArray}(h:isS t s=true):tw t=tw (tS s):=by
 obtain⟨h1,h2⟩:=RQ h
 unfold tw Em tS
 rw [h1,h2];rfl
theorem Dq {L:List Ab}{k:Int}{t:Ab}{s:ByteArray}(h:gi L k=some t)(hs:isS t s=true):sm L (k+1)=sm L k+tw (tS s):=by rw [Iz h,Q0 hs]
structure Tg (t:Ab):Prop where
 name:t.Kind=1->B8 t.S=true
 num:t.Kind=2->EC t.N=true
 text:t.Kind=3->Ew t.S=true
theorem TN {ks:List (Int×(Int->Prop))}{op d d':Int}(hk:∀ p∈ks,∀ d d',d<=d'->p.2 d'->p.2 d)(hd:d<=d')(h:Wt op ks d'):Wt op ks d:=by
 have w:∀ {need:Int} {p:Int×(Int->Prop)} {d d':Int},p∈ks->d<=d'->GW need p d'->GW need p d:=by
  intro need p d d' hp hd h
  unfold GW at h ⊢
  split at h
  . rename_i q;rw [if_pos q];exact hk p hp _ _ hd h
  . rename_i q;rw [if_neg q];exact⟨by omega,hk p hp _ _ (by omega) h.2⟩
 unfold Wt at h ⊢
 split at h
 . rename_i q;rw [if_pos q];trivial
 rename_i q;rw [if_neg q]
 split at h
 . rename_i q;rw [if_pos q];trivial
 rename_i q;rw [if_neg q]
 split at h
 . rename_i q;rw [if_pos q];trivial
 rename_i q;rw [if_neg q]
 split at h
 . rename_i q;rw [if_pos q];exact⟨h.1,fun p hp=>⟨by have:=(h.2 p hp).1;omega,w hp (by omega) (h.2 p hp).2⟩⟩
 rename_i q;rw [if_neg q]
 split at h
 . rename_i q;rw [if_pos q]
   split at h
   . exact⟨by omega,w (.head _) (by omega) h.2⟩
   . exact h.elim
 rename_i q;rw [if_neg q]
 split at h
 . rename_i q;rw [if_pos q]
   split at h
   . exact⟨by omega,w (.head _) (by omega) h.2⟩
   . exact h.elim
 rename_i q;rw [if_neg q]
 split at h
 . rename_i q;rw [if_pos q]
   split at h
   . exact⟨w (.head _) hd h.1,by omega,w (.tail _ (.head _)) (by omega) h.2.2.1,w (.tail _ (.tail _ (.head _))) (by omega) h.2.2.2⟩
   . exact h.elim
 rename_i q;rw [if_neg q]
 split at h
 . exact⟨w (.head _) hd h.1,w (.tail _ (.head _)) hd h.2⟩
 . exact h.elim
mutual
theorem Md:∀ (x:Aa) (d d':Int),d<=d'->CK x d'->CK x d
 |.mk _ _ _ l _,_,_,hd,h=>TN (fun p hp=>Nl l p hp) hd h
theorem Nl:∀ (l:List Aa) (p:Int×(Int->Prop)),p∈JE l->∀ d d',d<=d'->p.2 d'->p.2 d
 | [],p,h=>by cases h
 |x::l,p,h=>by
  rcases List.mem_cons.1 (show p∈(lvl x.Op,CK x)::JE l from h) with rfl|h
  . exact Md x
  . exact Nl l p h
end
theorem Sx {v v' d:Int}{x:Aa}(hv:v'<=v)(h:GW v (lvl x.Op,CK x) d):GW v' (lvl x.Op,CK x) d:=by
 unfold GW at h ⊢
 by_cases q:v'<=lvl x.Op
 . rw [if_pos q]
   by_cases q2:v<=lvl x.Op
   . rw [if_pos q2] at h;exact h
   . rw [if_neg q2] at h;exact Md x d (d+1) (by omega) h.2
 . rw [if_neg q]
   rw [if_neg (show ¬ v<=lvl x.Op by omega)] at h;exact h
theorem NB {v v' l:Int}{ts:List Ab}(hv:v'<=v):Dx (CR v' (l,ts))<=Dx (CR v (l,ts)):=by
 unfold CR
 by_cases q:v'<=l
 . rw [if_pos q]
   split
   . exact Nat.le_refl _
   . show Dx ts<=tw _+Dx (ts++_)
     rw [Dp];omega
 . rw [if_neg q,if_neg (show ¬ v<=l by omega)];exact Nat.le_refl _
structure RB (L:List Ab) (v k d:Int) (X:Aa) (z:Int):Prop where
 ok:Es X=true
 fit:GW v (lvl X.Op,CK X) d
 wt:sm L k+Dx (CR v (lvl X.Op,BB X))<=sm L z
theorem RB.down {L:List Ab}{v v' k d z:Int}{X:Aa}(h:RB L v k d X z)(hv:v'<=v):RB L v' k d X z :=
 ⟨h.ok,Sx hv h.fit,by have:=h.wt;have:=NB (l:=lvl X.Op) (ts:=BB X) hv;omega⟩
theorem RB.at {L:List Ab}{v k d z:Int}{a b VE at2:Int}{o:ByteArray}{ks:List Aa}(h:RB L v k d ⟨a,b,o,ks,VE⟩ z):RB L v k d ⟨a,b,o,ks,at2⟩ z:=⟨h.ok,h.fit,h.wt⟩
theorem UA {b:Aq}(hb:b∈Ec){n p:Int}{s:ByteArray}{x y:Aa}(hx:Es x=true)(hy:Es y=true):Es ⟨b.op,n,s,[x,y],p⟩=true:=by
 obtain⟨f1,f2,f3,h1,h2,h3,h4,h5,h6,h20,_⟩:=DW hb
 simp only [Es,Gq,IH,h1,h2,h3,h4,h5,h6,h20,if_false,f1,hx,hy];rfl
theorem VV {L:List Ab}{v k d to z:Int}{X Y:Aa}{t:Ab}{b:Aq}(hb:b∈Ec)(hv:b.level=v)(hX:RB L (lf v) k d X to)(ht:gi L to=some t)(hs:isS t b.sign=true)(hY:RB L (v+1) (to+1) d Y z)(n p:Int)(s:ByteArray) :
 RB L v k d ⟨b.op,n,s,[X,Y],p⟩ z:=by
 subst hv
 obtain⟨f1,f2,f3,_⟩:=DW hb
 have e:lvl (Aa.mk b.op n s [X,Y] p).Op=b.level:=f2
 refine⟨UA hb hX.ok hY.ok,?_,?_⟩
 . unfold GW
   rw [e,if_pos (Int.le_refl _)]
   show CK ⟨b.op,n,s,[X,Y],p⟩ d
   rw [QZ hb];exact⟨hX.fit,hY.fit⟩
 . rw [e]
   unfold CR
   rw [if_pos (Int.le_refl _)]
   show _+Dx (BB ⟨b.op,n,s,[X,Y],p⟩)<=_
   rw [NQ hb,Dp]
   have h1:=hX.wt
   have h2:=hY.wt
   rw [Dq ht hs] at h2
   show sm L k+(Dx (CR (lf b.level) (lvl X.Op,BB X))+(tw (tS b.sign)+Dx (CR (b.level+1) (lvl Y.Op,BB Y))))<=sm L z
   omega
theorem UF {t:Ab}{v:Int}(h:(EO t).N=v)(hv:1<=v):∃ b∈Ec,b.level=v/\b.op=(EO t).Op/\isS t b.sign=true:=by
 have key:∀ (z:List (ByteArray×Int)) (j:Nat),(Er t z j).N≠0->∃ i,∃ hi:i<z.length,(Er t z j).N=z[i].2/\(Er t z j).Op=7+((j+i:Nat):Int)/\isS t z[i].1=true:=by
  intro z
  induction z with
  |nil=>intro j h;exact absurd rfl h
  |cons a z ih =>
   intro j h
   obtain⟨s,l⟩:=a
   unfold Er at h ⊢
   by_cases q:isS t s=true
   . rw [if_pos q]
     exact⟨0,by simp,rfl,rfl,q⟩
   . rw [if_neg q] at h ⊢
     obtain⟨i,hi,h1,h2,h3⟩:=ih (j+1) h
     exact⟨i+1,by simpa using hi,h1,by rw [h2];congr 2;omega,h3⟩
 obtain⟨i,hi,h1,h2,h3⟩:=key SZ 0 (by unfold EO at h;omega)
 have all:∀ i,(hi:i<SZ.length)->∃ b∈Ec,b.level=SZ[i].2/\b.op=7+((0+i:Nat):Int)/\b.sign=SZ[i].1:=by
  intro i hi
  have hl:SZ.length=Ec.length:=rfl
  refine⟨Ec[i]'(by omega),List.getElem_mem _,?_⟩
  match i,hi with
  |0,_|1,_|2,_|3,_|4,_|5,_|6,_|7,_|8,_|9,_|10,_|11,_|12,_=>exact⟨rfl,rfl,rfl⟩
  |i+13,h=>exact absurd h (by show ¬ i+13<13;omega)
 obtain⟨b,hb,b1,b2,b3⟩:=all i hi
 refine⟨b,hb,?_,?_,by rw [b3];exact h3⟩
 . unfold EO at h;omega
 . unfold EO;omega
theorem QG:∀ a b:List Aa,D4 (a++b)=D4 a++D4 b
 | [],b=>rfl
 |x::a,b=>by show _::D4 (a++b)=_;rw [QG a b];rfl
theorem OM:∀ a b:List (Int×List Ab),DU (a++b)=DU a++DU b
 | [],b=>rfl
 |x::a,b=>by show tS ⟨#[44]⟩::(CR 0 x++DU (a++b))=tS ⟨#[44]⟩::(CR 0 x++DU a)++DU b;rw [OM a b];simp
theorem SJ (a:List Aa)(x:Aa):Dx (sep (D4 (a++[x])))=Dx (sep (D4 a))+(if a.isEmpty then 0 else tw (tS ⟨#[44]⟩))+Dx (BB x):=by
 cases a with
 |nil =>
  show Dx (CR 0 (lvl x.Op,BB x)++[])=0+0+Dx (BB x)
  rw [Fp,List.append_nil];omega
 |cons y a =>
  rw [QG]
  show Dx (CR 0 (lvl y.Op,BB y)++DU (D4 a++D4 [x]))=Dx (CR 0 (lvl y.Op,BB y)++DU (D4 a))+tw (tS ⟨#[44]⟩)+Dx (BB x)
  rw [OM,Dp,Dp,Dp]
  have:Dx (DU (D4 [x]))=tw (tS ⟨#[44]⟩)+Dx (BB x):=by
   show tw (tS ⟨#[44]⟩)+Dx (CR 0 (lvl x.Op,BB x)++[])=_
   rw [Fp,List.append_nil]
  omega
end Go.Sp
namespace Go.Sp
open Go
structure Oz (L:List Ab) (n:Nat):Prop where
 fE:∀ k d g,0<=d->d<=31->AI n L k d=some g->g.E=0->RB L 0 k d g.X g.To/\d<=30
 fB:∀ k v d g,1<=v->v<=7->0<=d->d<=30->A1 n L k v d=some g->g.E=0->RB L v k d g.X g.To
 fL:∀ v x d a b o ks to r k,1<=v->v<=6->v≠3->0<=d->d<=30->AF n L v x d a b o ks to 0=some r->RB L (lf v) k d ⟨a,b,o,ks,0⟩ to->∃ g,r=.inr g/\(g.E=0->RB L v k d g.X g.To)
 fM:∀ k d g,0<=d->d<=30->Bu n L k d=some g->g.E=0->RB L 7 k d g.X g.To
 fA:∀ k d g,0<=d->d<=30->B0 n L k d=some g->g.E=0->RB L 8 k d g.X g.To
 fG:∀ k d g,0<=d->d<=30->BE n L k d=some g->g.E=0->RB L 3 k d g.X g.To
 fS:∀ k d g t,0<=d->d<=30->gi L k=some t->t.Kind=1->A2 L (k+1) ⟨#[40]⟩=some true->Co n L k d=some g->g.E=0->RB L 8 k d g.X g.To
 fT:∀ d x to out g k,0<=d->d<=30->B3 n L d x to out=some g->g.E=0->B8 x.S=true->(∀ y∈out,Es y=true/\CK y (d+1))->out.length<=40->(out≠[]->d+1<=30) ->
  sm L k+(tw ⟨1,0,x.S,0⟩+tw (tS ⟨#[40]⟩)+Dx (sep (D4 out))+(if out.isEmpty then 0 else tw (tS ⟨#[44]⟩)))<=sm L to->RB L 8 k d g.X g.To
theorem Pb:∀ {l:List Aa},(∀ x∈l,Es x=true)->(Gq l).all id=true
 | [],_=>rfl
 |x::l,h=>by
  show (Es x&&(Gq l).all id)=true
  rw [h x (.head _),Pb fun y hy=>h y (.tail _ hy)];rfl
theorem TH {l:List Aa}{p:Int×(Int->Prop)}(h:p∈JE l):∃ x∈l,p=(lvl x.Op,CK x):=by
 induction l with
 |nil=>cases h
 |cons x l ih =>
  rcases List.mem_cons.1 (show p∈(lvl x.Op,CK x)::JE l from h) with rfl|h
  . exact⟨x,.head _,rfl⟩
  . obtain⟨y,hy,e⟩:=ih h
    exact⟨y,.tail _ hy,e⟩
theorem O5 {x:Aa}{d:Int}:GW 0 (lvl x.Op,CK x) d=CK x d:=by unfold GW;rw [if_pos (I9 _).1]
theorem QE {L:List Ab}{k d z:Int}{s:ByteArray}{l:List Aa}{p v:Int}(hs:B8 s=true)(hl:∀ y∈l,Es y=true/\CK y (d+1))(h40:l.length<=40)(hd:l≠[]->d+1<=30)
 (hw:sm L k+(tw ⟨1,0,s,0⟩+tw (tS ⟨#[40]⟩)+Dx (sep (D4 l))+tw (tS ⟨#[41]⟩))<=sm L z):RB L 8 k d ⟨4,v,s,l,p⟩ z:=by
 refine⟨?_,?_,?_⟩
 . show (B8 s&&(Gq l).all id)=true
   rw [hs,Pb fun x hx=>(hl x hx).1];rfl
 . show (JE l).length<=40/\∀ p∈JE l,d+1<=30/\GW 0 p (d+1)
   rw [Me]
   refine⟨h40,fun p hp=>?_⟩
   obtain⟨x,hx,rfl⟩:=TH hp
   exact⟨hd (by rintro rfl;cases hx),by rw [O5];exact (hl x hx).2⟩
 . show sm L k+(tw ⟨1,0,s,0⟩+(tw (tS ⟨#[40]⟩)+Dx (sep (D4 l)++[tS ⟨#[41]⟩])))<=sm L z
   rw [Dp]
   show sm L k+(tw ⟨1,0,s,0⟩+(tw (tS ⟨#[40]⟩)+(Dx (sep (D4 l))+(tw (tS ⟨#[41]⟩)+0))))<=sm L z
   omega
section
variable {L:List Ab} (hM:Hs L) (hg:∀ t∈L,Tg t)
include hM
theorem YG {n:Nat}(ih:Oz L n):∀ k d g,0<=d->d<=31->AI (n+1) L k d=some g->g.E=0->RB L 0 k d g.X g.To/\d<=30:=by
 have hl:=hM.len
 intro k d g d0 d1 h he
 replace h:=(AI.eq_2 (n:=n) _ _ _).symm.trans h
 obtain⟨v,hv,h⟩:=Ae h
 rcases Ak h with⟨hb,h⟩|⟨hb,h⟩
 . obtain rfl:=Ac h;rw [show v=0 from he] at hb;cases hb
 obtain rfl:v=0:=by simpa using hb
 obtain⟨t,ht,hf⟩:=JC hv
 have hd:=(Qc hf.symm).2
 obtain⟨c,hc,c0,h⟩:=Qa h he
 have C:=ih.fB _ _ _ _ (by decide) (by decide) d0 hd hc c0
 obtain⟨q,hq,h⟩:=Ae h
 obtain⟨t1,ht1,rfl⟩:=Cq hq
 have hr1:=(Am ht1).2
 have w1:IntKind.i64.wrap (c.To+1)=c.To+1:=by rw [A3]<;>omega
 have w2:IntKind.i64.wrap (d+1)=d+1:=by rw [A3]<;>omega
 cases hb:isS t1 ⟨#[63]⟩ with
 |false =>
  rw [hb] at h
  obtain rfl:=Ac h
  exact⟨C.down (by omega),hd⟩
 |true =>
  rw [hb] at h
  simp only [Bool.not_true,cond_false] at h
  obtain⟨a,ha,a0,h⟩:=Qa h he
  rw [w1,w2] at ha
  obtain⟨A,dA⟩:=ih.fE _ _ _ (by omega) (by omega) ha a0
  obtain⟨q2,hq2,h⟩:=Ae h
  obtain⟨t2,ht2,rfl⟩:=Cq hq2
  have hr2:=(Am ht2).2
  have w3:IntKind.i64.wrap (a.To+1)=a.To+1:=by rw [A3]<;>omega
  cases hb2:isS t2 ⟨#[58]⟩ with
  |false =>
   rw [hb2] at h
   obtain rfl:=Ac h
   exact absurd (show (5:Int)=0 from he) (by decide)
  |true =>
   rw [hb2] at h
   simp only [Bool.not_true,cond_false] at h
   obtain⟨b,hb',b0,h⟩:=Qa h he
   rw [w3,w2] at hb'
   obtain⟨B,_⟩:=ih.fE _ _ _ (by omega) (by omega) hb' b0
   obtain⟨l1,hl1,h⟩:=Ae h
   obtain rfl:=Ac hl1
   obtain rfl:=Ac h
   refine⟨⟨?_,?_,?_⟩,hd⟩
   . show (true&&(Es c.X&&(Es a.X&&(Es b.X&&true))))=true
     rw [C.ok,A.ok,B.ok];rfl
   . show GW 1 (lvl c.X.Op,CK c.X) d/\d+1<=30/\GW 0 (lvl a.X.Op,CK a.X) (d+1)/\GW 0 (lvl b.X.Op,CK b.X) (d+1)
     exact⟨C.fit,dA,A.fit,B.fit⟩
   . show sm L k+Dx (CR 1 (lvl c.X.Op,BB c.X)++(tS ⟨#[63]⟩::(CR 0 (lvl a.X.Op,BB a.X)++(tS ⟨#[58]⟩::CR 0 (lvl b.X.Op,BB b.X)))))<=sm L b.To
     have x1:=C.wt
     have x2:=A.wt
     have x3:=B.wt
     rw [Dq ht1 hb] at x2
     rw [Dq ht2 hb2] at x3
     rw [Dp]
     show sm L k+(Dx (CR 1 (lvl c.X.Op,BB c.X))+(tw (tS ⟨#[63]⟩)+Dx (CR 0 (lvl a.X.Op,BB a.X)++(tS ⟨#[58]⟩::CR 0 (lvl b.X.Op,BB b.X)))))<=sm L b.To
     rw [Dp]
     show sm L k+(Dx (CR 1 (lvl c.X.Op,BB c.X))+(tw (tS ⟨#[63]⟩)+(Dx (CR 0 (lvl a.X.Op,BB a.X))+(tw (tS ⟨#[58]⟩)+Dx (CR 0 (lvl b.X.Op,BB b.X))))))<=sm L b.To
     omega
theorem YD {n:Nat}(ih:Oz L n):∀ k d g,0<=d->d<=30->Bu (n+1) L k d=some g->g.E=0->RB L 7 k d g.X g.To:=by
 have hl:=hM.len
 intro k d g d0 d1 h he
 replace h:=(Bu.eq_2 (n:=n) _ _ _).symm.trans h
 obtain⟨q,hq,h⟩:=Ae h
 obtain⟨t,ht,rfl⟩:=Cq hq
 have hk:=(Am ht).2
 cases hb:isS t ⟨#[45]⟩ with
 |false =>
  rw [hb] at h
  simp only [Bool.not_false,cond_true] at h
  obtain⟨m,hm,h⟩:=Ae h
  obtain rfl:=Ac h
  exact (ih.fA _ _ _ d0 d1 hm he).down (by omega)
 |true =>
  rw [hb] at h
  simp only [Bool.not_true,cond_false] at h
  have w1:IntKind.i64.wrap (k+1)=k+1:=by rw [A3]<;>omega
  have w2:IntKind.i64.wrap (d+1)=d+1:=by rw [A3]<;>omega
  rw [w1,w2] at h
  obtain⟨v,hv,h⟩:=Ae h
  rcases Ak h with⟨hb3,h⟩|⟨hb3,h⟩
  . obtain rfl:=Ac h;rw [show v=0 from he] at hb3;cases hb3
  obtain rfl:v=0:=by simpa using hb3
  obtain⟨t2,ht2,hf⟩:=JC hv
  have hd:=(Qc hf.symm).2
  obtain⟨x,hx,x0,h⟩:=Qa h he
  have X:=ih.fM _ _ _ (by omega) hd hx x0
  obtain⟨t3,ht3,h⟩:=Ae h
  obtain⟨l1,hl1,h⟩:=Ae h
  obtain rfl:=Ac hl1
  obtain rfl:=Ac h
  refine⟨?_,⟨hd,X.fit⟩,?_⟩
  . show (true&&(Es x.X&&true))=true
    rw [X.ok];rfl
  . show sm L k+(tw (tS ⟨#[45]⟩)+Dx (CR 7 (lvl x.X.Op,BB x.X)))<=sm L x.To
    have x1:=X.wt
    rw [Dq ht hb] at x1
    omega
theorem YF {n:Nat}(ih:Oz L n):∀ k d g,0<=d->d<=30->BE (n+1) L k d=some g->g.E=0->RB L 3 k d g.X g.To:=by
 have hl:=hM.len
 intro k d g d0 d1 h he
 replace h:=(BE.eq_2 (n:=n) _ _ _).symm.trans h
 obtain⟨q,hq,h⟩:=Ae h
 obtain⟨t,ht,rfl⟩:=Cq hq
 have hk:=(Am ht).2
 cases hb:isS t ⟨#[33]⟩ with
 |false =>
  rw [hb] at h
  simp only [Bool.not_false,cond_true] at h
  obtain⟨m,hm,h⟩:=Ae h
  obtain rfl:=Ac h
  exact (ih.fB _ _ _ _ (by decide) (by decide) d0 d1 hm he).down (by omega)
 |true =>
  rw [hb] at h
  simp only [Bool.not_true,cond_false] at h
  have w1:IntKind.i64.wrap (k+1)=k+1:=by rw [A3]<;>omega
  have w2:IntKind.i64.wrap (d+1)=d+1:=by rw [A3]<;>omega
  rw [w1,w2] at h
  obtain⟨v,hv,h⟩:=Ae h
  rcases Ak h with⟨hb3,h⟩|⟨hb3,h⟩
  . obtain rfl:=Ac h;rw [show v=0 from he] at hb3;cases hb3
  obtain rfl:v=0:=by simpa using hb3
  obtain⟨t2,ht2,hf⟩:=JC hv
  have hd:=(Qc hf.symm).2
  obtain⟨x,hx,x0,h⟩:=Qa h he
  have X:=ih.fG _ _ _ (by omega) hd hx x0
  obtain⟨t3,ht3,h⟩:=Ae h
  obtain⟨l1,hl1,h⟩:=Ae h
  obtain rfl:=Ac hl1
  obtain rfl:=Ac h
  refine⟨?_,⟨hd,X.fit⟩,?_⟩
  . show (true&&(Es x.X&&true))=true
    rw [X.ok];rfl
  . show sm L k+(tw (tS ⟨#[33]⟩)+Dx (CR 3 (lvl x.X.Op,BB x.X)))<=sm L x.To
    have x1:=X.wt
    rw [Dq ht hb] at x1
    omega
omit hM in
theorem YH {n:Nat}(ih:Oz L n):∀ k v d g,1<=v->v<=7->0<=d->d<=30->A1 (n+1) L k v d=some g->g.E=0->RB L v k d g.X g.To:=by
 intro k v d g v1 v2 d0 d1 h he
 replace h:=(A1.eq_2 (n:=n) _ _ _ _).symm.trans h
 rcases Ak h with⟨q1,h⟩|⟨q1,h⟩
 . obtain⟨m,hm,h⟩:=Ae h
   obtain rfl:=Ac h
   exact (ih.fM _ _ _ d0 d1 hm he).down (by omega)
 rcases Ak h with⟨q2,h⟩|⟨q2,h⟩
 . obtain⟨m,hm,h⟩:=Ae h
   obtain rfl:=Ac h
   have hv:v=3:=by simpa using q2
   rw [hv];exact ih.fG _ _ _ d0 d1 hm he
 obtain⟨x,hx,h⟩:=Ae h
 have v3:v<=6:=by simpa using q1
 have v4:v≠3:=by simpa using q2
 have w:IntKind.i64.wrap (v+1)=v+1:=by rw [A3]<;>omega
 rw [w] at hx
 obtain⟨y,hy,h⟩:=Ae h
 cases n with
 |zero=>cases (A1.eq_1 _ _ _ _).symm.trans hx
 |succ n =>
 by_cases x0:x.E=0
 . rw [x0] at hy
   have X:=ih.fB _ _ _ _ (by omega) (by omega) d0 d1 hx x0
   have X2:=X.down (v':=lf v) (by unfold lf;split<;>omega)
   obtain⟨⟨xa,xb,xc,xl,xp⟩,xt,xe⟩:=x
   obtain⟨o,rfl,hL⟩:=ih.fL _ _ _ _ _ _ _ _ _ k v1 v3 v4 d0 d1 hy X2.at
   obtain rfl:=Ac h
   exact hL he
 . exfalso
   replace hy:=(AF.eq_2 (n:=n) _ _ _ _ _ _ _ _ _ _).symm.trans hy
   rcases Ak hy with⟨q,hy⟩|⟨q,hy⟩
   . exact x0 (by simpa using q)
   . obtain rfl:=Ac hy
     obtain rfl:=Ac h
     exact x0 he
theorem YE {n:Nat}(ih:Oz L n):∀ v x d a b o ks to r k,1<=v->v<=6->v≠3->0<=d->d<=30->AF (n+1) L v x d a b o ks to 0=some r->RB L (lf v) k d ⟨a,b,o,ks,0⟩ to->∃ g,r=.inr g/\(g.E=0->RB L v k d g.X g.To):=by
 have hl:=hM.len
 intro v x d a b o ks to r k v1 v2 v3 d0 d1 h X
 have hlf:v<=lf v:=by unfold lf;split<;>omega
 replace h:=(AF.eq_2 (n:=n) _ _ _ _ _ _ _ _ _ _).symm.trans h
 replace h:=((Ak h).resolve_right (fun q=>by cases q.1)).2
 obtain⟨op,hop,h⟩:=Ae h
 obtain⟨t,ht⟩:=Tq hop
 have hr:=(Am ht).2
 have w1:IntKind.i64.wrap (to+1)=to+1:=by rw [A3]<;>omega
 have wv:IntKind.i64.wrap (v+1)=v+1:=by rw [A3]<;>omega
 rcases Ak h with⟨q1,h⟩|⟨q1,h⟩
 . obtain rfl:=Ac h
   exact⟨_,rfl,fun _=>(X.down hlf).at⟩
 . rw [w1,wv] at h
   have hopl:=Nd ht hop
   have hN:op.N=v:=by simpa using q1
   obtain⟨b',hb,b1,b2,b3⟩:=UF (t:=t) (v:=v) (by rw [<- hopl];exact hN) v1
   obtain⟨y,hy,h⟩:=Ae h
   rcases Ak h with⟨q2,h⟩|⟨q2,h⟩
   . obtain rfl:=Ac h
     exact⟨_,rfl,fun h0=>absurd h0 (by simpa using q2)⟩
   have y0:y.E=0:=by simpa using q2
   have Y:=ih.fB _ _ _ _ (by omega) (by omega) d0 d1 hy y0
   obtain⟨l1,hl1,h⟩:=Ae h
   obtain rfl:=Ac hl1
   have R:=VV (L:=L) (v:=v) (k:=k) (d:=d) (X:=⟨a,b,o,ks,x.X.At⟩) hb b1 X.at ht b3 Y 0 x.X.At ⟨#[]⟩
   rw [b2,<- hopl] at R
   rcases Ak h with⟨q3,h⟩|⟨q3,h⟩
   . obtain rfl:=Ac h
     exact⟨_,rfl,fun _=>R⟩
   . refine ih.fL _ _ _ _ _ _ _ _ _ k v1 v2 v3 d0 d1 h ?_
     have h4:v≠4:=by simpa using q3
     have:lf v=v:=by unfold lf;rw [if_neg h4]
     rw [this];exact R.at
include hg
theorem YI {n:Nat}(ih:Oz L n):∀ k d g,0<=d->d<=30->B0 (n+1) L k d=some g->g.E=0->RB L 8 k d g.X g.To:=by
 have hl:=hM.len
 intro k d g d0 d1 h he
 replace h:=(B0.eq_2 (n:=n) _ _ _).symm.trans h
 obtain⟨t,ht,h⟩:=Ae h
 obtain⟨q,hq,h⟩:=Ae h
 obtain⟨t1,ht1,rfl⟩:=Cq hq
 obtain rfl:t1=t:=Ac (ht1.symm.trans ht)
 have hk:=(Am ht).2
 have w1:IntKind.i64.wrap (k+1)=k+1:=by rw [A3]<;>omega
 have w2:IntKind.i64.wrap (d+1)=d+1:=by rw [A3]<;>omega
 have gt:=hg _ (EH ht)
 have st:=Iz ht
 cases hb:isS t1 ⟨#[40]⟩ with
 |true =>
  rw [hb] at h
  simp only [cond_true] at h
  rw [w1,w2] at h
  obtain⟨x,hx,x0,h⟩:=Qa h he
  obtain⟨X,dX⟩:=ih.fE _ _ _ (by omega) (by omega) hx x0
  obtain⟨q2,hq2,h⟩:=Ae h
  obtain⟨t2,ht2,rfl⟩:=Cq hq2
  have hx0:=(Am ht2).2
  have w3:IntKind.i64.wrap (x.To+1)=x.To+1:=by rw [A3]<;>omega
  cases hb2:isS t2 ⟨#[41]⟩ with
  |false =>
   rw [hb2] at h
   obtain rfl:=Ac h
   exact absurd (show (5:Int)=0 from he) (by decide)
  |true =>
   rw [hb2] at h
   simp only [Bool.not_true,cond_false] at h
   rw [w3] at h
   obtain rfl:=Ac h
   have hf:CK x.X (d+1):=by have:=X.fit;rw [O5] at this;exact this
   refine⟨X.ok,?_,?_⟩
   . unfold GW
     split
     . exact Md _ d (d+1) (by omega) hf
     . exact⟨dX,hf⟩
   . have x1:=X.wt
     rw [Fp] at x1
     show sm L k+Dx (CR 8 (lvl x.X.Op,BB x.X))<=sm L (x.To+1)
     rw [Dq ht hb] at x1
     rw [Dq ht2 hb2]
     unfold CR
     split
     . show sm L k+Dx (BB x.X)<=_
       omega
     . show sm L k+(tw (tS ⟨#[40]⟩)+Dx (BB x.X++[tS ⟨#[41]⟩]))<=_
       rw [Dp]
       show sm L k+(tw (tS ⟨#[40]⟩)+(Dx (BB x.X)+(tw (tS ⟨#[41]⟩)+0)))<=_
       omega
 |false =>
  rw [hb] at h
  simp only [cond_false] at h
  rw [w1] at h
  rcases Ak h with⟨p1,h⟩|⟨p1,h⟩
  . obtain rfl:=Ac h
    have k2:t1.Kind=2:=by simpa using p1
    refine⟨gt.num k2,trivial,?_⟩
    show sm L k+(tw ⟨2,0,⟨#[]⟩,t1.N⟩+0)<=sm L (k+1)
    rw [st]
    have:tw t1=tw ⟨2,0,⟨#[]⟩,t1.N⟩:=by unfold tw Em;rw [k2];rfl
    omega
  rcases Ak h with⟨p2,h⟩|⟨p2,h⟩
  . obtain rfl:=Ac h
    have k2:t1.Kind=3:=by simpa using p2
    refine⟨gt.text k2,trivial,?_⟩
    show sm L k+(tw ⟨3,0,t1.S,0⟩+0)<=sm L (k+1)
    rw [st]
    have:tw t1=tw ⟨3,0,t1.S,0⟩:=by unfold tw Em;rw [k2];rfl
    omega
  rcases Ak h with⟨p3,h⟩|⟨p3,h⟩
  . obtain rfl:=Ac h
    exact absurd (show (5:Int)=0 from he) (by decide)
  have k2:t1.Kind=1:=by simpa using p3
  obtain⟨q2,hq2,h⟩:=Ae h
  obtain⟨t2,ht2,rfl⟩:=Cq hq2
  cases hb2:isS t2 ⟨#[40]⟩ with
  |false =>
   rw [hb2] at h
   obtain rfl:=Ac h
   refine⟨gt.name k2,trivial,?_⟩
   show sm L k+(tw ⟨1,0,t1.S,0⟩+0)<=sm L (k+1)
   rw [st]
   have:tw t1=tw ⟨1,0,t1.S,0⟩:=by unfold tw Em;rw [k2];rfl
   omega
  |true =>
   rw [hb2] at h hq2
   simp only [Bool.not_true,cond_false] at h
   obtain⟨m,hm,h⟩:=Ae h
   obtain rfl:=Ac h
   exact ih.fS _ _ _ _ d0 d1 ht k2 hq2 hm he
theorem YC {n:Nat}(ih:Oz L n):∀ k d g t,0<=d->d<=30->gi L k=some t->t.Kind=1->A2 L (k+1) ⟨#[40]⟩=some true->Co (n+1) L k d=some g->g.E=0->RB L 8 k d g.X g.To:=by
 have hl:=hM.len
 intro k d g t d0 d1 ht k1 hs h he
 replace h:=(Co.eq_2 (n:=n) _ _ _).symm.trans h
 simp only [ht,Option.bind_some] at h
 obtain⟨q,hq,h⟩:=Ae h
 obtain⟨t1,ht1,rfl⟩:=Cq hq
 obtain⟨t0,ht0,hs0⟩:=Cq hs
 have hk:=(Am ht).2
 have w1:IntKind.i64.wrap (k+2)=k+2:=by rw [A3]<;>omega
 have w3:IntKind.i64.wrap (k+2+1)=k+2+1:=by rw [A3]<;>omega
 rw [w1] at ht1 h
 have gt:=hg _ (EH ht)
 have st:=Iz ht
 have e1:tw t=tw ⟨1,0,t.S,0⟩:=by unfold tw Em;rw [k1];rfl
 have s0:=Dq ht0 hs0.symm
 rw [show k+1+1=k+2 by omega] at s0
 cases hb:isS t1 ⟨#[41]⟩ with
 |true =>
  rw [hb] at h
  simp only [cond_true] at h
  rw [w3] at h
  obtain rfl:=Ac h
  have s1:=Dq ht1 hb
  refine QE (gt.name k1) (fun y hy=>by cases hy) (by simp) (fun h=>absurd rfl h) ?_
  show sm L k+(tw ⟨1,0,t.S,0⟩+tw (tS ⟨#[40]⟩)+0+tw (tS ⟨#[41]⟩))<=sm L (k+2+1)
  omega
 |false =>
  rw [hb] at h
  simp only [cond_false] at h
  refine ih.fT _ _ _ _ _ k d0 d1 h he (gt.name k1) (fun y hy=>by cases hy) (by simp) (fun h=>absurd rfl h) ?_
  show sm L k+(tw ⟨1,0,t.S,0⟩+tw (tS ⟨#[40]⟩)+0+0)<=sm L (k+2)
  omega
omit hg in
theorem YB {n:Nat}(ih:Oz L n):∀ d x to out g k,0<=d->d<=30->B3 (n+1) L d x to out=some g->g.E=0->B8 x.S=true->(∀ y∈out,Es y=true/\CK y (d+1))->out.length<=40->(out≠[]->d+1<=30) ->
 sm L k+(tw ⟨1,0,x.S,0⟩+tw (tS ⟨#[40]⟩)+Dx (sep (D4 out))+(if out.isEmpty then 0 else tw (tS ⟨#[44]⟩)))<=sm L to->RB L 8 k d g.X g.To:=by
 have hl:=hM.len
 intro d x to out g k d0 d1 h he hs ho h40 hd hw
 replace h:=(B3.eq_2 (n:=n) _ _ _ _ _).symm.trans h
 have w2:IntKind.i64.wrap (d+1)=d+1:=by rw [A3]<;>omega
 rw [w2] at h
 obtain⟨v,hv,h⟩:=Ae h
 obtain⟨b,hb,h⟩:=Ae h
 rcases Ak h with⟨q,h⟩|⟨q,h⟩
 . obtain rfl:=Ac h
   exact absurd (show (2:Int)=0 from he) (by decide)
 obtain⟨y,hy,y0,h⟩:=Qa h he
 obtain⟨Y,dY⟩:=ih.fE _ _ _ (by omega) (by omega) hy y0
 have v0:v=0:=Ac (hv.symm.trans (Qi hy y0))
 rw [v0] at hb
 have hne:out.length≠40:=by
  simp only [beq_self_eq_true,cond_true] at hb
  rcases Ak hb with⟨_,hb⟩|⟨h0,_⟩
  . rw [<- Ac hb] at q;cases q
  . intro h;rw [h] at h0;cases h0
 obtain⟨l1,hl1,h⟩:=Ae h
 obtain rfl:=Ac hl1
 obtain⟨l2,hl2,h⟩:=Ae h
 obtain⟨rfl,_⟩:=FU (by decide) hl2
 obtain⟨q2,hq2,h⟩:=Ae h
 obtain⟨t2,ht2,rfl⟩:=Cq hq2
 have hr2:=(Am ht2).2
 have w3:IntKind.i64.wrap (y.To+1)=y.To+1:=by rw [A3]<;>omega
 have hf:CK y.X (d+1):=by have:=Y.fit;rw [O5] at this;exact this
 have ho2:∀ z∈out++[y.X],Es z=true/\CK z (d+1):=by
  intro z hz
  rcases List.mem_append.1 hz with hz|hz
  . exact ho z hz
  . rw [List.mem_singleton.1 hz];exact⟨Y.ok,hf⟩
 have y1:=Y.wt
 rw [Fp] at y1
 have hsn:=SJ out y.X
 have hlen:(out++[y.X]).length<=40:=by simp only [List.length_append,List.length_cons,List.length_nil];omega
 cases hb2:isS t2 ⟨#[41]⟩ with
 |true =>
  rw [hb2] at h
  simp only [cond_true] at h
  rw [w3] at h
  obtain rfl:=Ac h
  have s1:=Dq ht2 hb2
  refine QE hs ho2 hlen (fun _=>dY) ?_
  show _<=sm L (y.To+1)
  omega
 |false =>
  rw [hb2] at h
  simp only [cond_false] at h
  obtain⟨q3,hq3,h⟩:=Ae h
  obtain⟨t3,ht3,rfl⟩:=Cq hq3
  obtain rfl:t3=t2:=Ac (ht3.symm.trans ht2)
  cases hb3:isS t3 ⟨#[44]⟩ with
  |false =>
   rw [hb3] at h
   obtain rfl:=Ac h
   exact absurd (show (5:Int)=0 from he) (by decide)
  |true =>
   rw [hb3] at h
   simp only [Bool.not_true,cond_false] at h
   rw [w3] at h
   have s1:=Dq ht2 hb3
   refine ih.fT _ _ _ _ _ k d0 d1 h he hs ho2 hlen (fun _=>dY) ?_
   have e:(out++[y.X]).isEmpty=false:=by cases out<;>rfl
   rw [e]
   simp only [Bool.false_eq_true,if_false]
   omega
theorem SH:∀ n,Oz L n
 |0=>{
  fE:=fun k d g _ _ h=>by cases (AI.eq_1 _ _ _).symm.trans h
  fB:=fun k v d g _ _ _ _ h=>by cases (A1.eq_1 _ _ _ _).symm.trans h
  fL:=fun v x d a b o ks to r k _ _ _ _ _ h=>by cases (AF.eq_1 _ _ _ _ _ _ _ _ _ _).symm.trans h
  fM:=fun k d g _ _ h=>by cases (Bu.eq_1 _ _ _).symm.trans h
  fA:=fun k d g _ _ h=>by cases (B0.eq_1 _ _ _).symm.trans h
  fG:=fun k d g _ _ h=>by cases (BE.eq_1 _ _ _).symm.trans h
  fS:=fun k d g t _ _ _ _ _ h=>by cases (Co.eq_1 _ _ _).symm.trans h
  fT:=fun d x to out g k _ _ h=>by cases (B3.eq_1 _ _ _ _ _).symm.trans h }
 |n+1=>by
  have ih:=SH n
  exact⟨YG hM ih,YH ih,YE hM ih,YD hM ih,YI hM hg ih,YF hM ih,YC hM hg ih,YB hM ih⟩
end
end Go.Sp
