/-
  Walks by few words: what is left and the state are not written down, the kernel computes them. No program.
-/
import Derived.Test.YtehfpameijkafaaGreatDoorY6
import Derived.Test.YtehfpameijkafaaGreatDoorY8
set_option linter.unusedVariables false
set_option linter.unusedSimpArgs false
namespace Go.Sp
open Go Go.RowKit Go.Q Go.Vl
structure Fa where
 q:H4
 p:Prop
 h:p
def Xa:List (Nat×Fa)->H4×List (Nat×Fa)
 | []=>(.no,[])
 |(0,f)::l=>(f.q,l)
 |(n+1,f)::l=>(.no,(n,f)::l)
def Uk:Option Prop->List Prop->List Prop
 |none,l=>l
 |some p,l=>p::l
def Ql:List Prop->Prop
 | []=>True
 |p::l=>p/\Ql l
theorem Qk:∀ {a b:List Prop},Ql (a++b)->Ql a/\Ql b
 | [],_,h=>⟨trivial,h⟩
 |_::_,_,h=>⟨⟨h.1,(Qk h.2).1⟩,(Qk h.2).2⟩
theorem Lm {p:Option Prop}{l:List Prop}(h:Ql (Uk p l)):(∀ x,p=some x->x)/\Ql l:=by
 cases p with
 |none=>exact⟨fun _ e=>(by cases e),h⟩
 |some p=>exact⟨fun _ e=>(by cases e;exact h.1),h.2⟩
def EI (l:List (Nat×Fa)):List Prop:=l.map fun x=>x.2.p
theorem SG:∀ l:List (Nat×Fa),Ql (EI l)
 | []=>trivial
 |x::l=>⟨x.2.h,SG l⟩
def Yi (P:Program)(ops:Array Oper):List Oper->List (Nat×Fa)->St->Option (List Prop×Rn×List (Nat×Fa))
 | [],qs,st=>some ([],.at_ st,qs)
 |o::l,qs,st=>match RJ P ops st o (Xa qs).1 with
  |some (p,.at_ st1)=>match Yi P ops l (Xa qs).2 st1 with
   |some (ps,r)=>some (Uk p ps,r)
   |none=>none
  |some (p,.pan c st1)=>some (Uk p [],.pan c st1,(Xa qs).2)
  |none=>none
theorem QT {P:Program}{ops:Array Oper}{K:AX->St->Prop}:∀ {l:List Oper} {qs:List (Nat×Fa)} {st:St} {s1:Rn} {ps:List Prop} {q1:List (Nat×Fa)},Yi P ops l qs st=some (ps,s1,q1)->Ql ps->s1.holds K (K .normal)->B1 P ops K l st
 | [],_,st,s1,ps,q1,h,_,hk=>by
  simp only [Yi,Â,È] at h
  obtain⟨_,rfl,_⟩:=h
  exact hk
 |o::l,qs,st,s1,ps,q1,h,hp,hk=>by
  unfold Yi at h
  split at h
  . rename_i p1 st2 e
    split at h
    . rename_i p2 r e2
      simp only [Â,È] at h
      obtain⟨rfl,rfl⟩:=h
      obtain⟨h1,h2⟩:=Lm hp
      exact Ia e h1 (QT e2 h2 hk)
    . cases h
  . rename_i p1 c st2 e
    simp only [Â,È] at h
    obtain⟨rfl,rfl,rfl⟩:=h
    obtain⟨h1,h2⟩:=Lm hp
    exact Ia e h1 hk
  . cases h
def Tn (P:Program)(ops:Array Oper)(M:List Nat):List Nat->List (Nat×Fa)->St->Option (List Prop×Rn×List (Nat×Fa))
 | [],qs,st=>some ([],.at_ st,qs)
 |i::l,qs,st=>match ops[i]? with
  |some o=>match Ni P ops M st i o (Xa qs).1 with
   |some (p,.at_ st1)=>match Tn P ops M l (Xa qs).2 st1 with
    |some (ps,r)=>some (Uk p ps,r)
    |none=>none
   |some (p,.pan c st1)=>some (Uk p [],.pan c st1,(Xa qs).2)
   |none=>none
  |none=>none
theorem Pk {P:Program}{ops:Array Oper}{M:List Nat}{K:AX->St->Prop}:∀ {l:List Nat} {qs:List (Nat×Fa)} {st:St} {s1:Rn} {ps:List Prop} {q1:List (Nat×Fa)},Tn P ops M l qs st=some (ps,s1,q1)->Ql ps->s1.holds K (K .normal)->BH P ops M K l st
 | [],_,st,s1,ps,q1,h,_,hk=>by
  simp only [Tn,Â,È] at h
  obtain⟨_,rfl,_⟩:=h
  exact hk
 |i::l,qs,st,s1,ps,q1,h,hp,hk=>by
  unfold Tn at h
  split at h
  . rename_i o ho
    split at h
    . rename_i p1 st2 e
      split at h
      . rename_i p2 r e2
        simp only [Â,È] at h
        obtain⟨rfl,rfl⟩:=h
        obtain⟨h1,h2⟩:=Lm hp
        exact ES ho e h1 (Pk e2 h2 hk)
      . cases h
    . rename_i p1 c st2 e
      simp only [Â,È] at h
      obtain⟨rfl,rfl,rfl⟩:=h
      obtain⟨h1,h2⟩:=Lm hp
      exact ES ho e h1 hk
    . cases h
  . cases h
def Ach (P:Program)(L:Cf)(i:Nat)(ops:Array Oper)(qs:List (Nat×Fa))(st:St):Option (List Prop×Rn×List (Nat×Fa)) :=
 match Di L.pl i with
 |none=>Yi P ops ops.toList qs st
 |some (h::m::t)=>match okB (Nat.beq h 9999&&Nat.beq (t.take m).length m) with
  |some _=>Tn P ops (t.take m) (t.drop m) qs st
  |none=>none
 |some _=>none
section
variable {P:Program} {L:Cf} {N:Nat} {k:List TI} {Q:AX->St->Prop} {st:St} {x:List TI×St}
theorem QV {i:Nat}{ops:Array Oper}{d:Bool}{qs q1:List (Nat×Fa)}{s1:Rn}{ps:List Prop}(h:Ach P L i ops qs st=some (ps,s1,q1))(hp:Ql ps)
 (hk:s1.holds Q (fun s=>WS P L N k Q (clr L.L s))):WS P L N (.code (.region i ops d)::k) Q st:=by
 have key:∀ K':AX->St->Prop,(∀ st1 st2,clr L.L st1=st2->WS P L N k Q st2->K' .normal st1)->(∀ c st1,Q (.pan c) st1->K' (.pan c) st1)->s1.holds K' (K' .normal):=by
  intro K' a hP
  cases s1 with
  |at_ s=>exact a _ _ rfl hk
  |pan c s=>exact hP _ _ hk
 unfold Ach at h
 split at h
 . rename_i b
   exact H3 b fun K' a hP=>QT h hp (key K' a hP)
 . rename_i e m t b
   split at h
   . rename_i hb
     have hb:=CG hb
     rw [Æ] at hb
     have e1:e=9999:=Nat.eq_of_beq_eq_true hb.1
     have e2:(t.take m).length=m:=Nat.eq_of_beq_eq_true hb.2
     refine Zv (t.take m) (t.drop m) ?_ fun K' a hP=>Pk h hp (key K' a hP)
     rw [b,e1,ă,e2]
   . cases h
 . cases h
def rK (P:Program)(L:Cf):Nat->List (Nat×Fa)->List TI->St->Option (List Prop×List TI×Rn)
 |0,qs,k,st=>match qs with
  | []=>some ([],LU 99 k,.at_ st)
  |_::_=>none
 |n+1,qs,k,st=>match LU 99 k with
  |.code (.region i ops _)::k1=>match Ach P L i ops qs st with
   |some (ps,.at_ st1,q1)=>match rK P L n q1 k1 (clr L.L st1) with
    |some (p2,r)=>some (ps++p2,r)
    |none=>none
   |some (ps,.pan c st1,_)=>some (ps,k1,.pan c st1)
   |none=>none
  |.code (.block id b)::k1=>rK P L n qs (.code b::.blk id::k1) st
  |.code (.exit id)::k1=>match QW id k1 with
   |some k2=>rK P L n qs k2 st
   |none=>none
  |.code (.cond c a b)::k1=>match Ck st c with
   |.lit (.bool true)=>rK P L n qs (.code a::k1) st
   |.lit (.bool false)=>rK P L n qs (.code b::k1) st
   |_=>none
  |_=>none
theorem Jo:∀ (n:Nat) {qs:List (Nat×Fa)} {k:List TI} {st:St} {ps:List Prop} {k':List TI} {r:Rn},rK P L n qs k st=some (ps,k',r)->Ql ps->r.holds Q (fun s=>WS P L N k' Q s)->WS P L N k Q st
 |0,qs,k,st,ps,k',r,h,hp,hk=>by
  unfold rK at h
  split at h
  . simp only [Â,È] at h
    obtain⟨_,rfl,rfl⟩:=h
    exact zp hk
  . cases h
 |n+1,qs,k,st,ps,k',r,h,hp,hk=>by
  unfold rK at h
  refine zp (n:=99) ?_
  split at h
  . rename_i i ops d k1 e
    rw [e]
    split at h
    . rename_i p1 st1 q1 e1
      split at h
      . rename_i p2 r2 e2
        simp only [Â,È] at h
        obtain⟨rfl,rfl⟩:=h
        obtain⟨h1,h2⟩:=Qk hp
        exact QV e1 h1 (Jo n e2 h2 hk)
      . cases h
    . rename_i p1 c st1 q1 e1
      simp only [Â,È] at h
      obtain⟨rfl,rfl,rfl⟩:=h
      exact QV e1 hp hk
    . cases h
  . rename_i id b k1 e
    rw [e];exact Gl (Jo n h hp hk)
  . rename_i id k1 e
    rw [e]
    split at h
    . rename_i k2 e2;exact Abi e2 (Jo n h hp hk)
    . cases h
  . rename_i c a b k1 e
    rw [e]
    split at h
    . rename_i e2;exact FE e2 (Jo n h hp hk)
    . rename_i e2;exact Ew e2 (Jo n h hp hk)
    . cases h
  . cases h
structure WX (P:Program) (L:Cf) (N:Nat) (Q:AX->St->Prop) (x:List TI×St):Prop where
 s:WS P L N x.1 Q x.2
def nx (P:Program)(L:Cf)(n:Nat)(qs:List (Nat×Fa))(x:List TI×St):List TI×St :=
 match rK P L n qs x.1 x.2 with
 |some (_,k,.at_ st)=>(k,st)
 |_=>x
def SP (P:Program)(L:Cf)(n:Nat)(qs:List (Nat×Fa))(x:List TI×St):Option (List Prop) :=
 match rK P L n qs x.1 x.2 with
 |some (ps,_,.at_ _)=>some ps
 |_=>none
theorem Ux {n:Nat}{qs:List (Nat×Fa)}(h:WX P L N Q (nx P L n qs x))(he:SP P L n qs x=some (EI qs)):WX P L N Q x:=by
 unfold SP at he
 unfold nx at h
 split at he
 . rename_i ps k st e
   obtain rfl:=Af he
   rw [e] at h
   exact⟨Jo n e (SG qs) h.s⟩
 . cases he
theorem wl (n:Nat)(qs:List (Nat×Fa))(h:WX P L N Q (nx P L n qs x))(he:SP P L n qs x=some (EI qs):=by kernel_rfl):WX P L N Q x:=Ux h he
def cdP (x:List TI×St):Option PV :=
 match LU 99 x.1 with
 |.code (.cond c _ _)::_=>some (Ck x.2 c)
 |_=>none
def cdT (t:Bool)(x:List TI×St):List TI×St :=
 match LU 99 x.1 with
 |.code (.cond _ a b)::k=>(.code (match t with|true=>a|false=>b)::k,x.2)
 |_=>x
theorem cdX {t:Bool}(he:cdP x=some (.lit (.bool t)))(h:WX P L N Q (cdT t x)):WX P L N Q x:=by
 obtain⟨k,st⟩:=x
 unfold cdP at he
 unfold cdT at h
 refine⟨zp (n:=99) ?_⟩
 split at he
 . rename_i c a b k1 e
   simp only at e
   rw [e] at h ⊢
   have he:=Af he
   cases t with
   |true=>exact FE he h.s
   |false=>exact Ew he h.s
 . cases he
theorem cD (n:Nat)(qs:List (Nat×Fa)){α:Type}{b:Bool}{u v:Option α}{r:α}(h:(bif b then u else v)=some r)(h1:b=true->u=some r->WX P L N Q (cdT true (nx P L n qs x)))(h2:b=false->v=some r->WX P L N Q (cdT false (nx P L n qs x)))
 (he:(SP P L n qs x,cdP (nx P L n qs x))=(some (EI qs),some (.lit (.bool b))):=by kernel_rfl):WX P L N Q x:=by
 obtain⟨e1,e2⟩:=Ó he
 refine Ux ?_ e1
 cases b with
 |true=>exact cdX e2 (h1 rfl h)
 |false=>exact cdX e2 (h2 rfl h)
def keys (s:St):List Nat:=s.env.map Prod.fst
structure LA (P:Program) (L:Cf) (N:Nat) (Q:AX->St->Prop) (t:List TI) (s:St):Prop where
 s:Tz t=true->∀ st,N<=s.σ.length->low (keys s) s.σ.length st=s->WS P L N t Q st
theorem LA.of {t:List TI}{s:St}(h:WX P L N Q (t,s)):LA P L N Q t s:=⟨fun hk _ hN e=>JJ _ _ hk hN e h.s⟩
theorem mJ (n:Nat)(qs:List (Nat×Fa)){t:List TI}{s:St}(h:LA P L N Q t s)
 (he:(SP P L n qs x,(nx P L n qs x).1,Tz t,Nat.ble N s.σ.length,low (keys s) s.σ.length (nx P L n qs x).2)=(some (EI qs),t,true,true,s):=by kernel_rfl):WX P L N Q x:=by
 simp only [È] at he
 obtain⟨e1,e2,e3,e4,e5⟩:=he
 refine Ux ⟨?_⟩ e1
 rw [e2]
 exact h.s e3 _ (Ø e4) e5
def ZQ (x:List TI×St):List TI:=LU 99 (LU 99 x.1).tail
theorem mE (n:Nat)(qs:List (Nat×Fa)){A α:Type}{a:Option A}{f:A->Option α}{r:α}(h:a.bind f=some r)(S:A->St)(h2:∀ v,f v=some r->WX P L N Q (ZQ (nx P L n qs x),S v))
 (h1:∀ y,a=some y->(∀ v,v=y->LA P L N Q (ZQ (nx P L n qs x)) (S v))->WX P L N Q (nx P L n qs x)) (he:SP P L n qs x=some (EI qs):=by kernel_rfl):WX P L N Q x:=by
 obtain⟨y,e,h⟩:=Ac h
 refine Ux (h1 y e fun v b=>?_) he
 subst b
 exact LA.of (h2 _ h)
theorem mI (n:Nat)(qs:List (Nat×Fa)){A B α:Type}{a:Option (A ⊕ B)}{f:A ⊕ B->Option α}{r:α}(h:a.bind f=some r)(S:A->St)(h2:∀ v,f (.inl v)=some r->WX P L N Q (ZQ (nx P L n qs x),S v))
 (h1:∀ y,a=some y->f y=some r->(∀ v,.inl v=y->LA P L N Q (ZQ (nx P L n qs x)) (S v))->WX P L N Q (nx P L n qs x)) (he:SP P L n qs x=some (EI qs):=by kernel_rfl):WX P L N Q x:=by
 obtain⟨y,e,h⟩:=Ac h
 refine Ux (h1 y e h fun v b=>?_) he
 subst b
 exact LA.of (h2 _ h)
def lpI {A B:Type}(g:Nat->A->Option B)(S:A->St)(y:B)(m:Nat)(st:St):Prop:=∃ v,g m v=some y/\st=S v
def Aay (x:List TI×St):Bool :=
 match LU 99 x.1 with
 |.code (.loop _)::_=>true
 |_=>false
def lpT (I:Nat->St->Prop)(m:Nat)(x:List TI×St):List TI:=.lp I m::(LU 99 x.1).tail
def lpX (I:Nat->St->Prop)(m:Nat)(x:List TI×St):List TI :=
 match LU 99 x.1 with
 |.code (.loop b)::k=>.code b::.lp I m::k
 |_=>[]
theorem Abu {I:Nat->St->Prop}{m:Nat}{s0:St}(hl:Aay x=true)(hw:Wk N x.2 s0)(h0:I m s0)(hr:∀ m s1,I m s1->WX P L N Q (lpX I m x,s1)):WX P L N Q x:=by
 obtain⟨k,st⟩:=x
 unfold Aay at hl
 refine⟨zp (n:=99) ?_⟩
 split at hl
 . rename_i b k1 e
   simp only at e
   rw [e]
   refine WB hw h0 fun m s1 h=>?_
   have a:=(hr m s1 h).s
   unfold lpX at a
   simp only at a
   rw [e] at a
   exact a
 . cases hl
theorem lF (n:Nat)(qs:List (Nat×Fa)){A B:Type}(g:Nat->A->Option B)(S:A->St)(v:A){m:Nat}{y:B}(h:g m v=some y)(hz:∀ v,g 0 v=none)
 (hs:∀ i v,g (i+1) v=some y->(∀ v',g i v'=some y->LA P L N Q (lpT (lpI g S y) (i+1) (nx P L n qs x)) (S v'))->WX P L N Q (lpX (lpI g S y) (i+1) (nx P L n qs x),S v))
 (he:(SP P L n qs x,Aay (nx P L n qs x),Nat.ble N (S v).σ.length,low (keys (S v)) (S v).σ.length (nx P L n qs x).2)=(some (EI qs),true,true,S v):=by kernel_rfl):WX P L N Q x:=by
 simp only [È] at he
 obtain⟨e1,e2,e3,e4⟩:=he
 refine Ux ?_ e1
 refine Abu (I:=lpI g S y) (m:=m) e2 (Wk.low (Ø e3)) ⟨v,h,e4⟩ ?_
 rintro m1 _ ⟨v1,a,rfl⟩
 cases m1 with
 |zero=>rw [hz] at a;cases a
 |succ n1=>exact hs n1 v1 a fun v' b=>⟨fun _ st hN e=>Uu (by rw [<- e];exact Wk.low hN) ⟨v',b,rfl⟩ (ģ _)⟩
def lpJ {A B:Type}(n0:Nat)(g:Nat->A->Option B)(S:A->St)(y:B)(m:Nat)(st:St):Prop:=m<=n0/\∃ v,g m v=some y/\st=S v
theorem lR (n:Nat)(qs:List (Nat×Fa)){A B:Type}(g:Nat->A->Option B)(S:A->St)(v:A){m n0:Nat}(hn:m<=n0){y:B}(h:g m v=some y)(hz:∀ v,g 0 v=none)
 (hs:∀ i v,i<=n0->g (i+1) v=some y->(∀ v',g i v'=some y->LA P L N Q (lpT (lpJ n0 g S y) (i+1) (nx P L n qs x)) (S v'))->WX P L N Q (lpX (lpJ n0 g S y) (i+1) (nx P L n qs x),S v))
 (he:(SP P L n qs x,Aay (nx P L n qs x),Nat.ble N (S v).σ.length,low (keys (S v)) (S v).σ.length (nx P L n qs x).2)=(some (EI qs),true,true,S v):=by kernel_rfl):WX P L N Q x:=by
 simp only [È] at he
 obtain⟨e1,e2,e3,e4⟩:=he
 refine Ux ?_ e1
 refine Abu (I:=lpJ n0 g S y) (m:=m) e2 (Wk.low (Ø e3)) ⟨hn,v,h,e4⟩ ?_
 rintro m1 _ ⟨c,v1,b,rfl⟩
 cases m1 with
 |zero=>rw [hz] at b;cases b
 |succ n1 =>
  have a:n1<=n0:=Nat.le_of_succ_le c
  exact hs n1 v1 a b fun v' d=>⟨fun _ st hN e=>Uu (by rw [<- e];exact Wk.low hN) ⟨a,v',d,rfl⟩ (ģ _)⟩
def rtR (P:Program)(fn:Func)(N:Nat)(x:List TI×St):Option (PV×List (List PV)) :=
 match LU 99 x.1 with
 |.code .ret::_=>RS P fn N x.2
 |_=>none
theorem rtX {fn:Func}{Q:Cb->List (List PV)->Prop}{R:PV}{σ:List (List PV)}(h:rtR P fn N x=some (R,σ))(hq:Q (.ret R) σ):WX P L N (C6 P fn N Q) x:=by
 obtain⟨k,st⟩:=x
 unfold rtR at h
 refine⟨zp (n:=99) ?_⟩
 split at h
 . rename_i k1 e
   simp only at e
   rw [e]
   exact HS (IB h hq).1
 . cases h
theorem rt {fn:Func}{Q:Cb->List (List PV)->Prop}(n:Nat)(qs:List (Nat×Fa)){R:PV}{σ:List (List PV)}(hQ:∀ y,shareP y=R->Q (.ret y) σ)
 (he:(SP P L n qs x,RM (rtR P fn N (nx P L n qs x)))=(some (EI qs),some (R,σ)):=by kernel_rfl):WX P L N (C6 P fn N Q) x:=by
 obtain⟨e1,e2⟩:=Ó he
 refine Ux ?_ e1
 cases e:rtR P fn N (nx P L n qs x) with
 |none=>rw [e] at e2;cases e2
 |some z =>
  obtain⟨p,σ1⟩:=z
  rw [e] at e2
  obtain⟨rfl,rfl⟩:=Ó (Af e2)
  exact rtX e (hQ p rfl)
theorem ro {fn:Func}{Q:Cb->List (List PV)->Prop}(n:Nat)(qs:List (Nat×Fa)){R:PV}{σ:List (List PV)}(hQ:∀ y,y=R->Q (.ret y) σ)
 (he:(SP P L n qs x,rtR P fn N (nx P L n qs x))=(some (EI qs),some (R,σ)):=by kernel_rfl):WX P L N (C6 P fn N Q) x:=by
 obtain⟨e1,e2⟩:=Ó he
 exact Ux (rtX e2 (hQ R rfl)) e1
def pnX (N:Nat):Option (List Prop×List TI×Rn)->Option (List Prop×List PanicEntry×List (List PV))
 |some (ps,_,.pan c st)=>some (ps,c,HY N .undef st.σ)
 |_=>none
theorem rp {fn:Func}{Q:Cb->List (List PV)->Prop}(n:Nat)(qs:List (Nat×Fa)){c:List PanicEntry}{σ:List (List PV)}(h:Q (.pan c) σ)
 (he:pnX N (rK P L n qs x.1 x.2)=some (EI qs,c,σ):=by kernel_rfl):WX P L N (C6 P fn N Q) x:=by
 unfold pnX at he
 split at he
 . rename_i ps k c' st e
   simp only [Â,È] at he
   obtain⟨rfl,rfl,rfl⟩:=he
   exact⟨Jo n e (SG qs) h⟩
 . cases he
def rgI (x:List TI×St):Option (Nat×Array Oper×List TI) :=
 match LU 99 x.1 with
 |.code (.region i ops _)::k=>some (i,ops,k)
 |_=>none
theorem rgX {i:Nat}{ops:Array Oper}{k:List TI}(e:rgI x=some (i,ops,k))(h:∀ d,WS P L N (.code (.region i ops d)::k) Q x.2):WX P L N Q x:=by
 obtain⟨k0,st⟩:=x
 unfold rgI at e
 refine⟨zp (n:=99) ?_⟩
 split at e
 . rename_i i' ops' d k1 e1
   simp only [Â,È] at e
   obtain⟨rfl,rfl,rfl⟩:=e
   simp only at e1
   rw [e1];exact h d
 . cases e
theorem XV {i:Nat}{ops:Array Oper}{k:List TI}(e:rgI x=some (i,ops,k))(h:WX P L N Q (ZQ x,st)):WS P L N k Q st:=by
 have h:=h.s
 unfold rgI at e
 unfold ZQ at h
 split at e
 . rename_i i' ops' d k1 e1
   simp only [Â,È] at e
   obtain⟨rfl,rfl,rfl⟩:=e
   rw [e1] at h
   exact zp (n:=99) h
 . cases e
theorem xE (m:Nat)(qs:List H4)(S:St){p:Prop}(hp:p)(h:WX P L N Q (ZQ x,S))
 (he:(match rgI x with|some (i,ops,k)=>some (HI P ops x.2.σ.length (fun s=>low (keys S) S.σ.length (clr L.L s)) qs (Td ops) x.2,Di L.pl i,Tz k,Nat.ble N S.σ.length)|none=>none)=some (some (p,List.replicate m S),some [9995],true,true):=by kernel_rfl):WX P L N Q x:=by
 split at he
 . rename_i i ops k e
   exact rgX e fun d=>wrE m _ _ qs S hp (Af he) (XV e h)
 . cases he
theorem xV (m:Nat)(qs1:List H4)(pv:PV)(qs2:List H4)(S:St){p:Prop}(hp:p)(h:WX P L N Q (ZQ x,S))
 (he:(match rgI x with|some (i,ops,k)=>some (TV (keys S) S.σ.length L.L (S8 P ops m qs1 pv qs2 x.2),Di L.pl i,Tz k,Nat.ble N S.σ.length)|none=>none)=some (some (p,S),some [9996,m],true,true):=by kernel_rfl):WX P L N Q x:=by
 split at he
 . rename_i i ops k e
   exact rgX e fun d=>Ab8 m _ _ qs1 pv qs2 S hp (Af he) (XV e h)
 . cases he
theorem xG (PM t:List Nat)(a b i1 i2 i3 i4:Nat)(qs:List H4)(qx qy:H4)(ys:List (List PV))(S:St){p:Prop}(hp:p)(h:WX P L N Q (ZQ x,S))
 (he:(match rgI x with|some (i,ops,k)=>some (Aa8 (keys S) S.σ.length L.L (WV P ops PM t qs a b qx qy [i1,i2,i3,i4] ys x.2),Di L.pl i,Tz k,Nat.ble N S.σ.length)|none=>none)=some (some (p,S,S),some (9997::PM.length::(PM++(t++[a,b,i1,i2,i3,i4]))),true,true):=by kernel_rfl):WX P L N Q x:=by
 split at he
 . rename_i i ops k e
   exact rgX e fun d=>wrG PM t a b i1 i2 i3 i4 _ _ qs qx qy ys S hp (Af he) (XV e h)
 . cases he
theorem xGP {fn:Func}{Q:Cb->List (List PV)->Prop}(PM t:List Nat)(a b i1 i2 i3 i4:Nat)(qs:List H4)(qx qy:H4){c:List PanicEntry}{σ:List (List PV)}{p:Prop}(hp:p)(h:Q (.pan c) σ)
 (he:(match rgI x with|some (i,ops,_)=>some ((match WV P ops PM t qs a b qx qy [i1,i2,i3,i4] [] x.2 with|some (p,.pan c1 s1,.pan c2 s2)=>some (p,(c1,HY N .undef s1.σ),(c2,HY N .undef s2.σ))|_=>none),Di L.pl i)|none=>none)=some (some (p,(c,σ),(c,σ)),some (9997::PM.length::(PM++(t++[a,b,i1,i2,i3,i4])))):=by kernel_rfl):WX P L N (C6 P fn N Q) x:=by
 split at he
 . rename_i i ops k e
   obtain⟨e1,e2⟩:=Ó (Af he)
   exact rgX e fun d=>Afe PM t a b i1 i2 i3 i4 qs qx qy hp e1 e2 h
 . cases he
def Aft (s:St):St:=⟨s.env.map fun y=>(y.1,frz s.σ.dropLast.length (.vptr (s.σ.getLastD [])) .undef y.2),s.σ.dropLast.map fun l=>l.map (frz s.σ.dropLast.length (.vptr (s.σ.getLastD [])) .undef)⟩
theorem xZ (n:Nat)(qs:List (Nat×Fa))(h:WX P L N Q ((nx P L n qs x).1,Aft (nx P L n qs x).2))
 (he:(SP P L n qs x,Tz (nx P L n qs x).1,(nx P L n qs x).2.σ.isEmpty,Nat.ble N (nx P L n qs x).2.σ.dropLast.length,((nx P L n qs x).2.σ.getLastD []).all okF,((nx P L n qs x).2.env.all fun y=>(frz (nx P L n qs x).2.σ.dropLast.length (.vptr ((nx P L n qs x).2.σ.getLastD [])) .undef y.2).fits (nx P L n qs x).2.σ.dropLast.length),((nx P L n qs x).2.σ.dropLast.all fun l=>l.all fun p=>(frz (nx P L n qs x).2.σ.dropLast.length (.vptr ((nx P L n qs x).2.σ.getLastD [])) .undef p).fits (nx P L n qs x).2.σ.dropLast.length))
  = (some (EI qs),true,false,true,true,true,true):=by kernel_rfl):WX P L N Q x:=by
 simp only [È] at he
 obtain⟨e1,e2,e3,e4,e5,e6,e7⟩:=he
 refine Ux ?_ e1
 generalize nx P L n qs x=z at *
 obtain⟨k,s⟩:=z
 have hs:s.σ=s.σ.dropLast++[s.σ.getLastD []]:=by
  cases b:s.σ with
  |nil=>simp only [b] at e3;cases e3
  |cons a l=>rw [List.getLastD_cons,<- List.getLast_eq_getLastD (h:=List.cons_ne_nil a l),List.dropLast_concat_getLast]
 exact⟨NK s.σ.dropLast (s.σ.getLastD []) _ e2 hs (Ø e4) e5 e6 e7 rfl h.s⟩
end
section
variable {P:Program} {f:FuncId} {fn:Func} {args:List PV} {R:PV}
def V7 (fn:Func)(args:List PV)(σ:List (List PV)):List TI×St:=([.code (fn.body.getD .skip),.code .ret],HR args σ)
def Up (L:Cf)(fn:Func)(args:List PV):Bool:=Cc L.pl fn.ntmps (fn.body.getD .skip)&&(fn.body.isSome&&Nat.ble args.length fn.ntmps)
theorem beg {L:Cf}{σ:List (List PV)}{Q:Cb->List (List PV)->Prop}(hf:P.funcs[f]?=some fn)(hm:P.follows .mixedOrders=true)(hb:Up L fn args=true)(h:WX P L σ.length (C6 P fn σ.length Q) (V7 fn args σ)):VC P f args σ Q:=by
 unfold Up at hb
 simp only [Æ] at hb
 refine VC.intro (c:=fn.body.getD .skip) L hf ?_ hm hb.1 (Ø hb.2.2) (Qp h.s)
 cases e:fn.body with
 |none=>rw [e] at hb;cases hb.2.1
 |some c=>rfl
theorem vP (L:Cf)(hf:P.funcs[f]?=some fn)(hm:P.follows .mixedOrders=true)(h:∀ Q:Cb->List (List PV)->Prop,(∀ y,shareP y=R->Q (.ret y) [])->WX P L 0 (C6 P fn 0 Q) (V7 fn args []))
 (hb:(Up L fn args&&(EO args&&R.pure))=true:=by kernel_rfl):Cz P f args R:=by
 simp only [Æ] at hb
 exact VC.fin (fun Q a=>beg hf hm hb.1 (h Q a)) hb.2.1 hb.2.2
theorem vPo (L:Cf)(hf:P.funcs[f]?=some fn)(hm:P.follows .mixedOrders=true)(h:∀ Q:Cb->List (List PV)->Prop,(∀ y,y=R->Q (.ret y) [])->WX P L 0 (C6 P fn 0 Q) (V7 fn args []))
 (hb:(Up L fn args&&(EO args&&R.pure))=true:=by kernel_rfl):Cz P f args R:=by
 simp only [Æ] at hb
 exact VC.finOwn (fun Q a=>beg hf hm hb.1 (h Q a)) hb.2.1 hb.2.2
theorem vS {σ σ1:List (List PV)}(L:Cf)(hf:P.funcs[f]?=some fn)(hm:P.follows .mixedOrders=true)(h:∀ Q:Cb->List (List PV)->Prop,(∀ y,shareP y=R->Q (.ret y) σ1)->WX P L σ.length (C6 P fn σ.length Q) (V7 fn args σ))
 (hb:Up L fn args=true:=by kernel_rfl):I2 P f args σ (.ret R) σ1:=I2.fin fun Q a=>beg hf hm hb (h Q a)
theorem vM {cs cs':List PV}(L:Cf)(hf:P.funcs[f]?=some fn)(hm:P.follows .mixedOrders=true)(h:∀ Q:Cb->List (List PV)->Prop,(∀ y,shareP y=R->Q (.ret y) [cs'])->WX P L 1 (C6 P fn 1 Q) (V7 fn (.ptr 0 0::args) [cs]))
 (hb:Up L fn (.ptr 0 0::args)=true:=by kernel_rfl):Df P f args cs (.ret R) cs':=Df.fin fun Q a=>beg hf hm hb (h Q a)
theorem vSx {E S α:Type}{r:Ex E S α}{σ:List (List PV)}{RR:α->PV}{σ1:S->List (List PV)}{pp:E->List PanicEntry}{σ2:S->List (List PV)}(L:Cf)(hf:P.funcs[f]?=some fn)(hm:P.follows .mixedOrders=true)
 (h:∀ Q:Cb->List (List PV)->Prop,J9 r (fun v s=>∀ y,shareP y=RR v->Q (.ret y) (σ1 s)) (fun e s=>Q (.pan (pp e)) (σ2 s))->WX P L σ.length (C6 P fn σ.length Q) (V7 fn args σ))
 (hb:Up L fn args=true:=by kernel_rfl):J9 r (fun v s=>I2 P f args σ (.ret (RR v)) (σ1 s)) (fun e s=>I2 P f args σ (.pan (pp e)) (σ2 s)):=by
 cases r with
 |ok v s=>exact I2.fin fun Q a=>beg hf hm hb (h Q a)
 |pan e s=>exact I2.finP fun Q a=>beg hf hm hb (h Q a)
theorem Z7 {E S α:Type}{r:Ex E S α}{cs:List PV}{RR:α->PV}{c1:S->List PV}{pp:E->List PanicEntry}{c2:S->List PV}(L:Cf)(hf:P.funcs[f]?=some fn)(hm:P.follows .mixedOrders=true)
 (h:∀ Q:Cb->List (List PV)->Prop,J9 r (fun v s=>∀ y,shareP y=RR v->Q (.ret y) [c1 s]) (fun e s=>Q (.pan (pp e)) [c2 s])->WX P L 1 (C6 P fn 1 Q) (V7 fn (.ptr 0 0::args) [cs]))
 (hb:Up L fn (.ptr 0 0::args)=true:=by kernel_rfl):J9 r (fun v s=>Df P f args cs (.ret (RR v)) (c1 s)) (fun e s=>Df P f args cs (.pan (pp e)) (c2 s)):=by
 cases r with
 |ok v s=>exact Df.fin fun Q a=>beg hf hm hb (h Q a)
 |pan e s=>exact Df.finP fun Q a=>beg hf hm hb (h Q a)
end
theorem yE {E S α β:Type}{G:Prop}{a:Option (Ex E S α)}{F:Ex E S α->Option β}{r:β}(h:a.bind F=some r)(h1:∀ f s,a=some (.ok f s)->F (.ok f s)=some r->G)(h2:∀ e s,a=some (.pan e s)->F (.pan e s)=some r->G):G:=by
 obtain⟨y,e,h⟩:=Ac h
 cases y with
 |ok f s=>exact h1 f s e h
 |pan p s=>exact h2 p s e h
theorem oj {α:Type}{a b:α}(h:some a=some b):a=b:=Af h
structure Rw (α:Type) where
 row:α->List PV
 cells:α->List PV
 n:Nat
 eq:∀ x,row x=cells x
 len:∀ x,(row x).length=n
section
variable {α:Type} {k:IntKind}
def fi (R:Rw α){l:List α}{i:Int}{x:α}(h:gi l i=some x):Fa:=⟨.val (.vptr (R.cells x) 0),_,oi h R.len (R.eq x)⟩
def fb {s:Å}{i x:Int}(h:gb s i=some x):Fa:=⟨.val (.lit (.int .u8 x)),_,ob h⟩
def fu {s t:Å}{l h:Int}(e:MC s l h=some t):Fa:=⟨.val (.lit (.string t)),_,Afl e⟩
def fsl (R:Rw α){x y:List α}{l h:Int}(e:ZD x l h=some y):Fa:=⟨.val (.sl (y.map R.row) .shared),_,osl e R.len⟩
def fse (R:Rw α){x y:List α}{l:Int}(e:ZD x l (x.length:Int)=some y):Fa:=⟨.val (.sl (y.map R.row) .shared),_,Afm e R.len⟩
def fl (R:Rw α)(l:List α):Fa:=⟨.val (.lit (.int .i64 (l.length:Int))),_,Xe l R.row⟩
def fa (R:Rw α){b:Nat}{x y z:List α}(e:CH b x y=some z):Fa:=⟨.val (.sl (z.map R.row) .own),_,Yy e R.len⟩
def faF (R:Rw α){b:Nat}{x y z:List α}(e:CH b x y=some z)(hy:y≠[]):Fa:=⟨.val (.sl (z.map R.row) .own),_,Aee e R.len hy⟩
def faE (R:Rw α){b:Nat}{x y z:List α}(e:CH b x y=some z)(hy:y=[]):Fa:=⟨.val (.sl (z.map R.row) .full),_,Aef e R.len hy⟩
theorem Abs (R:Rw α)(l:List α):l.map R.cells=l.map R.row:=List.map_congr_left fun x _=>(R.eq x).symm
def fB (R:Rw α){y z:List α}(e:some y=some z):Fa:=⟨.val (.sl (z.map R.row) .own),true=true/\PV.sl (y.map R.cells) .own=.sl (z.map R.row) .own,rfl,by rw [Abs,oj e]⟩
def fBF (R:Rw α){y z:List α}(e:some y=some z):Fa:=⟨.val (.sl (z.map R.row) .full),true=true/\PV.sl (y.map R.cells) .full=.sl (z.map R.row) .full,rfl,by rw [Abs,oj e]⟩
def fc {a b c:Å}(e:MD a b=some c):Fa:=⟨.val (.lit (.string c)),_,Afn e⟩
def fN (k:IntKind){b e q:Int}(h:gnn b e=some q):Fa:=⟨.val (.lit (.int k q)),_,onn (k:=k) h⟩
def fo {e b:Bool}(h:e=b):Fa:=⟨.val (.lit (.bool b)),_,NZ h⟩
def fLS (l:List (ByteArray×Int))(k:Å):Fa:=⟨.look (.int .i64 (Dl l k).1) (Dl l k).2,_,Acn l k⟩
def ff {e d:Do}(h:gfn e=some d):Fa:=⟨.val (.fno true (JH d) (JX d)),_,ofn h⟩
def Xs (l:List Int):Å:=⟨(l.map fun n=>UInt8.ofNat n.toNat).toArray⟩
theorem R2 (R:Rw Int)(hr:∀ x,R.row x=[uP x]):∀ l:List Int,bytesOf (l.map R.row)=some l
 | []=>rfl
 |x::l=>by rw [Þ,hr,bytesOf,R2 R hr l];rfl
def fg (R:Rw Int)(hr:∀ x,R.row x=[uP x])(l:List Int):Fa:=⟨.val (.lit (.string (Xs l))),(bytesOf (l.map R.row)).isSome=true/\PV.lit (.string ⟨(((bytesOf (l.map R.row)).getD []).map fun n=>UInt8.ofNat n.toNat).toArray⟩)=.lit (.string (Xs l)),by rw [R2 R hr];exact⟨rfl,rfl⟩⟩
variable {P:Program} {f:FuncId} {args cs cs':List PV} {r:PV} {c:List PanicEntry} {σ σ1:List (List PV)}
def fk (h:Cz P f args r):Fa:=⟨.call r,_,h⟩
def fm (h:Df P f args cs (.ret r) cs'):Fa:=⟨.meth r cs',_,h⟩
def K6 (h:Df P f args cs (.pan c) cs'):Fa:=⟨.mpan c cs',_,h⟩
def fs (h:I2 P f args σ (.ret r) σ1):Fa:=⟨.site r σ1,_,h⟩
def fv (h1:Im P f=true)(h:Cz P f args r):Fa:=⟨.fcall r,Im P f=true/\Cz P f args r,h1,h⟩
end
end Go.Sp
