/-
  What is printed of an expression, in plain lists of tokens. No program.
-/
import Derived.Test.YtgdalmleogphgaaGreatDoorU12
namespace Go.Sp
open Go
def tS (s:ByteArray):Ab:=⟨4,0,s,0⟩
def Oq (op:Int):List Aq->Option Aq
 | []=>none
 |b::r=>if b.op=op then some b else Oq op r
def lvl (op:Int):Int:=if op=20 then 0 else if op=5 then 3 else if op=6 then 7 else match Oq op Ec with|some b=>b.level|none=>8
def CR (need:Int)(p:Int×List Ab):List Ab:=if need<=p.1 then p.2 else tS ⟨#[40]⟩::(p.2++[tS ⟨#[41]⟩])
def lf (lv:Int):Int:=if lv=4 then 5 else lv
def DU:List (Int×List Ab)->List Ab
 | []=>[]
 |p::r=>tS ⟨#[44]⟩::(CR 0 p++DU r)
def sep:List (Int×List Ab)->List Ab
 | []=>[]
 |p::r=>CR 0 p++DU r
def P8 (op n:Int)(s:ByteArray)(ks:List (Int×List Ab)):List Ab :=
 if op=1 then [⟨2,0,⟨#[]⟩,n⟩] else if op=2 then [⟨3,0,s,0⟩] else if op=3 then [⟨1,0,s,0⟩]
 else if op=4 then ⟨1,0,s,0⟩::tS ⟨#[40]⟩::(sep ks++[tS ⟨#[41]⟩])
 else if op=5 then (match ks with | [a]=>tS ⟨#[33]⟩::CR 3 a|_=>[])
 else if op=6 then (match ks with | [a]=>tS ⟨#[45]⟩::CR 7 a|_=>[])
 else if op=20 then (match ks with | [a,b,c]=>CR 1 a++(tS ⟨#[63]⟩::(CR 0 b++(tS ⟨#[58]⟩::CR 0 c)))|_=>[])
 else match Oq op Ec,ks with
  |some b,[x,y]=>CR (lf b.level) x++(tS b.sign::CR (b.level+1) y)
  |_,_=>[]
mutual
def BB:Aa->List Ab
 |.mk op n s l _=>P8 op n s (D4 l)
def D4:List Aa->List (Int×List Ab)
 | []=>[]
 |x::l=>(lvl x.Op,BB x)::D4 l
end
mutual
def nE:Aa->Aa
 |.mk op n s l _=>if op=1 then ⟨1,n,⟨#[]⟩,[],0⟩ else if op=2 then ⟨2,0,s,[],0⟩ else if op=3 then ⟨3,0,s,[],0⟩ else if op=4 then ⟨4,0,s,nL l,0⟩ else ⟨op,0,⟨#[]⟩,nL l,0⟩
def nL:List Aa->List Aa
 | []=>[]
 |x::l=>nE x::nL l
end
mutual
theorem PK:∀ x:Aa,DY (nE x)=nE x
 |.mk op n s l p=>by
  simp only [nE]
  split
  . rfl
  split
  . rfl
  split
  . rfl
  split
  . simp only [DY,PJ l]
  . simp only [DY,PJ l]
theorem PJ:∀ l:List Aa,IL (nL l)=nL l
 | []=>rfl
 |x::l=>by show DY (nE x)::IL (nL l)=_;rw [PK x,PJ l];rfl
end
def GW (need:Int)(p:Int×(Int->Prop))(d:Int):Prop:=if need<=p.1 then p.2 d else d+1<=30/\p.2 (d+1)
def Wt (op:Int)(ks:List (Int×(Int->Prop)))(d:Int):Prop :=
 if op=1 then True else if op=2 then True else if op=3 then True
 else if op=4 then ks.length<=40/\∀ p∈ks,d+1<=30/\GW 0 p (d+1)
 else if op=5 then (match ks with | [a]=>d+1<=30/\GW 3 a (d+1)|_=>False)
 else if op=6 then (match ks with | [a]=>d+1<=30/\GW 7 a (d+1)|_=>False)
 else if op=20 then (match ks with | [a,b,c]=>GW 1 a d/\d+1<=30/\GW 0 b (d+1)/\GW 0 c (d+1)|_=>False)
 else match Oq op Ec,ks with
  |some b,[x,y]=>GW (lf b.level) x d/\GW (b.level+1) y d
  |_,_=>False
mutual
def CK:Aa->Int->Prop
 |.mk op _ _ l _=>Wt op (JE l)
def JE:List Aa->List (Int×(Int->Prop))
 | []=>[]
 |x::l=>(lvl x.Op,CK x)::JE l
end
inductive Wf:Aa->Prop where
 |num (n:Int) (s:ByteArray) (l:List Aa) (p:Int):Wf ⟨1,n,s,l,p⟩
 |text (n:Int) (s:ByteArray) (l:List Aa) (p:Int):Wf ⟨2,n,s,l,p⟩
 |name (n:Int) (s:ByteArray) (l:List Aa) (p:Int):Wf ⟨3,n,s,l,p⟩
 |call (n:Int) (s:ByteArray) (l:List Aa) (p:Int) (h:∀ x∈l,Wf x):Wf ⟨4,n,s,l,p⟩
 |not (n:Int) (s:ByteArray) (x:Aa) (p:Int) (h:Wf x):Wf ⟨5,n,s,[x],p⟩
 |neg (n:Int) (s:ByteArray) (x:Aa) (p:Int) (h:Wf x):Wf ⟨6,n,s,[x],p⟩
 |ite (n:Int) (s:ByteArray) (x y z:Aa) (p:Int) (hx:Wf x) (hy:Wf y) (hz:Wf z):Wf ⟨20,n,s,[x,y,z],p⟩
 |bin (b:Aq) (hb:b∈Ec) (n:Int) (s:ByteArray) (x y:Aa) (p:Int) (hx:Wf x) (hy:Wf y):Wf ⟨b.op,n,s,[x,y],p⟩
theorem DW {b:Aq}(hb:b∈Ec):Oq b.op Ec=some b/\lvl b.op=b.level/\(b.level=1∨b.level=2∨b.level=4∨b.level=5∨b.level=6)/\b.op≠1/\b.op≠2/\b.op≠3/\b.op≠4/\b.op≠5/\b.op≠6/\b.op≠20/\b.op≠0/\EO (tS b.sign)=⟨b.level,b.op⟩/\isS (tS b.sign) ⟨#[40]⟩=false:=by
 simp only [Ec,List.mem_cons,List.not_mem_nil,or_false] at hb
 rcases hb with rfl|rfl|rfl|rfl|rfl|rfl|rfl|rfl|rfl|rfl|rfl|rfl|rfl
 all_goals exact⟨rfl,rfl,by decide,by decide,by decide,by decide,by decide,by decide,by decide,by decide,by decide,rfl,rfl⟩
theorem KZ {op:Int}{b:Aq}:∀ {l:List Aq},Oq op l=some b->b∈l/\b.op=op
 | [],h=>by cases h
 |c::r,h=>by
  unfold Oq at h
  split at h
  . rename_i h2
    cases h;exact⟨.head _,h2⟩
  . obtain⟨h1,h2⟩:=KZ h
    exact⟨.tail _ h1,h2⟩
theorem I9 (op:Int):0<=lvl op/\lvl op<=8:=by
 unfold lvl
 split
 . omega
 split
 . omega
 split
 . omega
 cases h:Oq op Ec with
 |none=>simp only;omega
 |some b =>
  have:=(DW (KZ h).1).2.2.1
  simp only;omega
section
variable {b:Aq} (hb:b∈Ec) (n p:Int) (s:ByteArray) (x y:Aa)
include hb
theorem NQ:BB ⟨b.op,n,s,[x,y],p⟩=CR (lf b.level) (lvl x.Op,BB x)++(tS b.sign::CR (b.level+1) (lvl y.Op,BB y)):=by
 obtain⟨f1,f2,f3,h1,h2,h3,h4,h5,h6,h20,_⟩:=DW hb
 simp only [BB,D4,P8,h1,h2,h3,h4,h5,h6,h20,if_false,f1]
theorem Wi:nE ⟨b.op,n,s,[x,y],p⟩=⟨b.op,0,⟨#[]⟩,[nE x,nE y],0⟩:=by
 obtain⟨f1,f2,f3,h1,h2,h3,h4,h5,h6,h20,_⟩:=DW hb
 simp only [nE,nL,h1,h2,h3,h4,if_false]
theorem QZ (d:Int):CK ⟨b.op,n,s,[x,y],p⟩ d=(GW (lf b.level) (lvl x.Op,CK x) d/\GW (b.level+1) (lvl y.Op,CK y) d):=by
 obtain⟨f1,f2,f3,h1,h2,h3,h4,h5,h6,h20,_⟩:=DW hb
 simp only [CK,JE,Wt,h1,h2,h3,h4,h5,h6,h20,if_false,f1]
end
def Has (M:List Ab):Int->List Ab->Prop
 |_,[]=>True
 |k,t::r=>(∃ u,gi M k=some u/\u.Kind=t.Kind/\u.S=t.S/\u.N=t.N)/\Has M (k+1) r
theorem DJ {M:List Ab}:∀ {a b:List Ab} {k:Int},Has M k (a++b)->Has M k a/\Has M (k+(a.length:Int)) b
 | [],b,k,h=>⟨trivial,by rw [List.length_nil,show k+((0:Nat):Int)=k by omega];exact h⟩
 |t::a,b,k,h=>by
  obtain⟨h1,h2⟩:=DJ (a:=a) (b:=b) h.2
  refine⟨⟨h.1,h1⟩,?_⟩
  rw [List.length_cons,show k+((a.length+1:Nat):Int)=k+1+(a.length:Int) by omega];exact h2
theorem Tr {t u:Ab}(h1:u.Kind=t.Kind)(h2:u.S=t.S):EO u=EO t:=by
 unfold EO
 have:∀ (z:List (ByteArray×Int)) (j:Nat),Er u z j=Er t z j:=by
  intro z
  induction z with
  |nil=>intro j;rfl
  |cons a z ih=>intro j;obtain⟨a,v⟩:=a;unfold Er;rw [Fa h1 h2,ih]
 exact this _ _
theorem Mp {t u:Ab}(h1:u.Kind=t.Kind)(h2:u.S=t.S):Fh u=Fh t:=by unfold Fh;rw [h1,h2]
theorem Sw {need:Int}{p:Int×List Ab}{P:Ab->Prop}(h0:P (tS ⟨#[40]⟩))(h:need<=p.1->∃ t r,p.2=t::r/\P t):∃ t r,CR need p=t::r/\P t:=by
 unfold CR
 split
 . rename_i h1;exact h h1
 . exact⟨_,_,rfl,h0⟩
theorem RC {x:Aa}(h:Wf x):∃ t r,BB x=t::r/\(Fh t=true∨isS t ⟨#[33]⟩=true)/\(4<=lvl x.Op->isS t ⟨#[33]⟩=false)/\(8<=lvl x.Op->isS t ⟨#[45]⟩=false):=by
 have op:∀ {need v:Int} {x:Aa},(∃ t r,BB x=t::r/\(Fh t=true∨isS t ⟨#[33]⟩=true)/\(4<=lvl x.Op->isS t ⟨#[33]⟩=false)/\(8<=lvl x.Op->isS t ⟨#[45]⟩=false))->(4<=v->4<=need)->v<8 ->
  ∃ t r,CR need (lvl x.Op,BB x)=t::r/\(Fh t=true∨isS t ⟨#[33]⟩=true)/\(4<=v->isS t ⟨#[33]⟩=false)/\(8<=v->isS t ⟨#[45]⟩=false):=by
  intro need v x hx h1 h2
  refine Sw ⟨.inl rfl,fun _=>rfl,fun _=>by omega⟩ fun hn=>?_
  obtain⟨t,r,e,a,b,_⟩:=hx
  exact⟨t,r,e,a,fun h=>b (by have:=h1 h;simp only at hn;omega),fun h=>by omega⟩
 have app:∀ {a b:List Ab} {P:Ab->Prop},(∃ t r,a=t::r/\P t)->∃ t r,a++b=t::r/\P t:=by
  rintro a b P ⟨t,r,rfl,h⟩;exact⟨t,r++b,rfl,h⟩
 induction h with
 |num n s l p=>exact⟨_,_,rfl,.inl rfl,fun _=>rfl,fun _=>rfl⟩
 |text n s l p=>exact⟨_,_,rfl,.inl rfl,fun _=>rfl,fun _=>rfl⟩
 |name n s l p=>exact⟨_,_,rfl,.inl rfl,fun _=>rfl,fun _=>rfl⟩
 |call n s l p h ih=>exact⟨_,_,rfl,.inl rfl,fun _=>rfl,fun _=>rfl⟩
 |not n s x p h ih=>exact⟨_,_,rfl,.inr rfl,fun h=>absurd h (by show ¬ (4:Int)<=3;omega),fun h=>absurd h (by show ¬ (8:Int)<=3;omega)⟩
 |neg n s x p h ih=>exact⟨_,_,rfl,.inl rfl,fun _=>rfl,fun h=>absurd h (by show ¬ (8:Int)<=7;omega)⟩
 |ite n s x y z p hx hy hz ihx ihy ihz=>exact app (op (v:=0) ihx (fun h=>by omega) (by omega))
 |bin b hb n s x y p hx hy ihx ihy =>
  rw [NQ hb]
  obtain⟨_,f2,f3,_⟩:=DW hb
  rw [show lvl (Aa.mk b.op n s [x,y] p).Op=b.level from f2]
  exact app (op ihx (fun h=>by unfold lf;split<;>omega) (by omega))
end Go.Sp
