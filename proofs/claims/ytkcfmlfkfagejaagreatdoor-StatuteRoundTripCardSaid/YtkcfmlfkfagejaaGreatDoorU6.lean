/-
  Partial operations on plain values, and the words with which lifted functions are walked. No program.
-/
import Derived.Test.YtkcfmlfkfagejaaGreatDoorU4
set_option linter.unusedVariables false
set_option linter.unusedSimpArgs false
namespace Go.Sp
open Go Go.RowKit Go.Q Go.Vl
def gi {α:Type}(l:List α)(i:Int):Option α:=if 0<=i then l[i.toNat]? else none
def gb (s:Â)(i:Int):Option Int:=if 0<=i/\i<(s.size:Int) then some ((s.data.toList.getD i.toNat 0).toNat:Int) else none
def NQ (s:Â)(l h:Int):Option Â:=if 0<=l/\l<=h/\h<=(s.size:Int) then some (s.extract l.toNat h.toNat) else none
def Yh {α:Type}(x:List α)(l h:Int):Option (List α):=if 0<=l/\l<=h/\h<=(x.length:Int) then some ((x.take h.toNat).drop l.toNat) else none
def B4 {α:Type}(b:Nat)(x y:List α):Option (List α):=if (x.length+y.length)*b<=140737488355328 then some (x++y) else none
def Yi (b e:Int):Option Int:=if 0<=b then some e else none
theorem Ad {α β:Type}{x:Option α}{f:α->Option β}{r:β}(h:x.bind f=some r):∃ a,x=some a/\f a=some r:=by
 cases x with
 |none=>cases h
 |some a=>exact⟨a,rfl,h⟩
theorem An {α:Type}{c:Bool}{a b:Option α}{r:α}(h:(bif c then a else b)=some r):(c=true/\a=some r)∨(c=false/\b=some r):=by
 cases c with
 |true=>exact .inl ⟨rfl,h⟩
 |false=>exact .inr ⟨rfl,h⟩
theorem test {e b:Bool}(h:e=b):PV.lit (.bool e)=PV.lit (.bool b):=by rw [h]
theorem Aiq {α:Type}(l:List α)(row:α->List PV){R:α->List PV}(hr:∀ x,row x=R x){i:Int}{x:α}(h:gi l i=some x) :
 (0<=i)/\(i<(l.length:Int))/\(l.map row).getD i.toNat []=R x:=by
 unfold gi at h
 split at h
 . rename_i h0
   obtain⟨h1,h2⟩:=List.getElem?_eq_some_iff.1 h
   refine⟨h0,by omega,?_⟩
   rw [List.getD_eq_getElem?_getD,â,h,<- hr];rfl
 . cases h
theorem Air {s:Â}{i:Int}{x:Int}(h:gb s i=some x):(0<=i)/\(i<(s.size:Int))/\((s.data.toList.getD i.toNat 0).toNat:Int)=x:=by
 unfold gb at h
 split at h
 . rename_i h0;exact⟨h0.1,h0.2,Ac h⟩
 . cases h
theorem Aef {s t:Â}{l h:Int}(e:NQ s l h=some t):(0<=l/\l<=h/\h<=(s.size:Int))/\s.extract l.toNat h.toNat=t:=by
 unfold NQ at e
 split at e
 . rename_i h0;exact⟨h0,Ac e⟩
 . cases e
theorem Uo {α:Type}(row:α->List PV){n:Nat}(hn:∀ x,(row x).length=n)(l:List α):(l.map row).all (fun x=>x.length == n)=true:=by
 rw [Ü]
 intro x hx
 obtain⟨y,_,rfl⟩:=List.mem_map.1 hx
 rw [hn];exact è n
theorem Ag9 {α:Type}{x y:List α}{l h:Int}(row:α->List PV){n:Nat}(hn:∀ x,(row x).length=n)(e:Yh x l h=some y) :
 (decide (0<=l/\l<=h/\h<=(x.length:Int))&&(x.map row).all (fun x=>x.length == n))=true/\((x.map row).take h.toNat).drop l.toNat=y.map row:=by
 unfold Yh at e
 split at e
 . rename_i h0
   obtain rfl:=Ac e
   refine⟨?_,by rw [List.map_drop,List.map_take]⟩
   rw [Ã,Í];exact⟨h0,Uo row hn x⟩
 . cases e
theorem TJ {α:Type}{b:Nat}{x y z:List α}(row:α->List PV){n:Nat}(hn:∀ x,(row x).length=n)(e:B4 b x y=some z) :
 (decide ((x.length+y.length)*b<=140737488355328)&&((x.map row).all (fun x=>x.length == n)&&(y.map row).all (fun x=>x.length == n)))=true/\x.map row++y.map row=z.map row:=by
 unfold B4 at e
 split at e
 . rename_i h0
   obtain rfl:=Ac e
   refine⟨?_,List.map_append.symm⟩
   rw [Ã,Ã,Í];exact⟨h0,Uo row hn x,Uo row hn y⟩
 . cases e
theorem Aha {b e q:Int}(h:Yi b e=some q):(0<=b)/\e=q:=by
 unfold Yi at h
 split at h
 . rename_i h0;exact⟨h0,Ac h⟩
 . cases h
def Tn:PV->PV
 |.sl xs _=>.sl xs .shared
 |p=>p
def shareP:PV->PV
 |.sl xs _=>.sl xs .shared
 |.tup cs=>.tup (cs.map Tn)
 |p=>p
theorem Ac0 {w:World}{U:Nat->Nat->Prop}{φ:List Nat}{p:PV}{v:Value}(h:V w U φ p v):V w U φ (Tn p) v:=by
 unfold Tn
 split
 . exact h.tag (by simp) (by simp)
 . exact h
theorem EH.shareP {w:World}{G:Gh}{p:PV}{e:Ending}(h:EH w G (.ret p) e):EH w G (.ret (shareP p)) e:=by
 obtain⟨v,he,hv,ht⟩:=h
 refine⟨v,he,?_,?_⟩
 . unfold Sp.shareP
   split
   . exact hv.tag (by simp) (by simp)
   . cases hv with
     |tup _ _ arr hn h =>
      refine .tup _ _ _ (by rw [Ó];exact hn) fun i hi=>?_
      rw [ï]
      exact Ac0 (h i (by rw [Ó] at hi;exact hi))
   . exact hv
 . unfold Sp.shareP
   split
   . trivial
   . intro i xs hi
     rw [â] at hi
     rename_i cs
     cases e:cs[i]? with
     |none=>rw [e] at hi;cases hi
     |some q =>
      rw [e] at hi
      have hi:=Ac hi
      cases q<;>simp [Tn] at hi
   . exact ht
def CZ (P:Program)(f:FuncId)(args:List PV)(r:PV):Prop:=∀ σ:List (List PV),VC P f args σ fun x σ'=>x=.ret r/\σ'=σ
theorem VC.fin {P:Program}{f:FuncId}{args:List PV}{R:PV}
 (h:∀ Q:CP->List (List PV)->Prop,(∀ y,shareP y=R->Q (.ret y) [])->VC P f args [] Q) (hp:Ge args=true) (hr:R.pure=true):CZ P f args R:=by
 intro σ
 refine VC.pure ((VC.less (h (fun x _=>∃ y,shareP y=R/\x=.ret y) fun y hy=>⟨y,hy,rfl⟩) (Q':=fun x _=>Gw x=true/\x=.ret R) ?_)) hp
 rintro x σ' ⟨y,rfl,rfl⟩
 exact⟨.ret (shareP y),⟨hr,rfl⟩,fun w G e he=>EH.shareP he⟩
theorem VC.finOwn {P:Program}{f:FuncId}{args:List PV}{R:PV}
 (h:∀ Q:CP->List (List PV)->Prop,(∀ y,y=R->Q (.ret y) [])->VC P f args [] Q) (hp:Ge args=true) (hr:R.pure=true):CZ P f args R:=by
 intro σ
 refine VC.pure (h (fun x _=>Gw x=true/\x=.ret R) ?_) hp
 rintro y rfl
 exact⟨hr,rfl⟩
inductive Ex (E S α:Type) where
 |ok (a:α) (s:S)
 |pan (e:E) (s:S)
abbrev KE {E S α:Type}(r:Ex E S α)(A:α->S->Prop)(B:E->S->Prop):Prop :=
 match r with
 |.ok a s=>A a s
 |.pan e s=>B e s
def CV (P:Program)(f:FuncId)(args:List PV)(cs:List PV)(x:CP)(cs':List PV):Prop:=VC P f (.ptr 0 0::args) [cs] fun y σ'=>y=x/\σ'=[cs']
theorem CV.at {P:Program}{f:FuncId}{args cs cs':List PV}{x:CP}{σ:List (List PV)}{k:Nat}(h:CV P f args cs x cs')(hc:σ[k]?=some cs)(h1:PV.fitsL 0 cs=true)(h2:Ge args=true)(h3:PV.fitsL 0 cs'=true)(h4:Gw x=true) :
 VC P f (.ptr k 0::args) σ fun y σ'=>y=x/\σ'=σ.set k cs':=by
 refine (VC.at (Q:=fun y cs2=>y=x/\cs2=cs') hc h1 h2 (VC.mono h ?_)).mono ?_
 . rintro y σ' ⟨rfl,rfl⟩
   exact⟨cs',rfl,h3,h4,rfl,rfl⟩
 . rintro y σ' ⟨cs2,⟨rfl,rfl⟩,rfl⟩
   exact⟨rfl,rfl⟩
inductive I1 where
 |no
 |val (p:PV)
 |call (r:PV)
 |meth (r:PV) (cs:List PV)
 |mpan (c:List PanicEntry) (cs:List PV)
 |site (r:PV) (σ:List (List PV))
 |sitep (c:List PanicEntry) (σ:List (List PV))
 |look (v:Value) (b:Bool)
 |fcall (r:PV)
def okB:Bool->Option Unit
 |true=>some ()
 |false=>none
theorem Eg {c:Bool}{x:Unit}(h:okB c=some x):c=true:=by
 cases c with
 |true=>rfl
 |false=>cases h
inductive Rn where
 |at_ (st:St)
 |pan (c:List PanicEntry) (st:St)
def Rn.holds (K:AX->St->Prop)(X:St->Prop):Rn->Prop
 |.at_ st=>X st
 |.pan c st=>K (.pan c) st
def M9 (P:Program)(f:FuncId)(args:List PV)(σ:List (List PV))(x:CP)(σ1:List (List PV)):Prop:=VC P f args σ fun y σ'=>y=x/\σ'=σ1
def Sy (P:Program)(f:FuncId)(args:List PV)(σ:List (List PV))(x:CP)(cs':List PV):Option (Prop×List (List PV)) :=
 match args with
 |.ptr k 0::more=>match σ[k]? with
  |some cs=>match okB (PV.fitsL 0 cs&&(Ge more&&(PV.fitsL 0 cs'&&Gw x))) with
   |some _=>some (CV P f more cs x cs',σ.set k cs')
   |none=>none
  |none=>none
 |_=>none
theorem Kx {P:Program}{f:FuncId}{args:List PV}{σ:List (List PV)}{x:CP}{cs':List PV}{p:Prop}{σ1:List (List PV)}(h:Sy P f args σ x cs'=some (p,σ1))(hp:p) :
 VC P f args σ fun y σ'=>y=x/\σ'=σ1:=by
 unfold Sy at h
 split at h
 . split at h
   . rename_i cs hc
     split at h
     . rename_i e
       obtain⟨rfl,rfl⟩:=Ø (Ac h)
       have h1:=Eg e
       simp only [Ã] at h1
       exact CV.at hp hc h1.1 h1.2.1 h1.2.2.1 h1.2.2.2
     . cases h
   . cases h
 . cases h
def S5 (d:TypeDesc)(kvs:List (Value×Value))(k:Value)(z:Option Value):Option (Value×Bool) :=
 match Jq d k kvs 0 with
 |some (some (_,v))=>some (v,true)
 |some none=>z.map fun v=>(v,false)
 |none=>none
def Aie (ok:Bool)(v:Value)(b:Bool):PV:=if ok then .tup [Gi v,.lit (.bool b)] else Gi v
def XG (P:Program)(o:Oper)(st:St)(v:Value)(b:Bool):Option (Prop×St) :=
 match o.op,o.dst with
 |.lookup t m k ok,some d=>match YS P t,XX st m,Dh st k with
  |some (dd,e),some kvs,.lit kv=>match okB (LM dd kv) with
   |some _=>some (S5 dd kvs kv (Z8 P e)=some (v,b),st.put (some d) (Aie ok v b))
   |none=>none
  |_,_,_=>none
 |_,_=>none
theorem Qo {P:Program}{o:Oper}{st st1:St}{v:Value}{b:Bool}{p:Prop}(h:XG P o st v b=some (p,st1))(hp:p):K6 P o st=some (true,st1)/\∀ ops M i,(Adm M o st&&UP ops M i o st)=true:=by
 unfold XG at h
 split at h
 . rename_i t m k ok d ho hd
   split at h
   . rename_i dd e kvs kv h1 h2 h3
     split at h
     . rename_i hk
       obtain⟨rfl,rfl⟩:=Ø (Ac h)
       have hk:=Eg hk
       constructor
       . unfold K6
         rw [Ê (by unfold GK;rw [ho])]
         unfold LR
         rw [ho,hd]
         simp only
         unfold Oa
         rw [h1,h2,h3]
         simp only
         unfold S5 at hp
         split at hp
         . rename_i i v' hf
           obtain⟨rfl,rfl⟩:=Ø (Ac hp)
           rw [hf]
           simp only [ì,hk]
           cases ok<;>rfl
         . rename_i hf
           rw [hf]
           cases hz:Z8 P e with
           |none=>rw [hz] at hp;cases hp
           |some z =>
            rw [hz] at hp
            obtain⟨rfl,rfl⟩:=Ø (Ac hp)
            simp only [ì,hk]
            cases ok<;>rfl
         . cases hp
       . intro ops M i
         unfold Adm UP
         rw [ho]
         rfl
     . cases h
   . cases h
 . cases h
def ZP (P:Program)(ops:Array Oper)(st:St)(o:Oper)(q:I1):Option (Option Prop×Rn) :=
 match F4 ops st o with
 |some false=>match q with
  |.no=>some (none,.at_ (st.put o.dst (.lit (.tuple #[]))))
  |_=>none
 |some true=>match K6 P o st with
  |some (c,st')=>match q with
   |.no=>match okB c with
    |some _=>some (none,.at_ st')
    |none=>none
   |.val p=>match o.dst,st'.env with
    |some _,(d,p')::rest=>some (some (c=true/\p'=p),.at_ { st' with env:=(d,p)::rest })
    |_,_=>none
   |_=>none
  |none=>match FR P o st with
   |some (f,args)=>match q with
    |.call r=>some (some (CZ P f args r),.at_ ((st.aft st.σ).put o.dst r))
    |.meth r cs'=>match Sy P f args st.σ (.ret r) cs' with
     |some (p,σ1)=>some (some p,.at_ ((st.aft σ1).put o.dst r))
     |none=>none
    |.mpan c cs'=>match Sy P f args st.σ (.pan c) cs' with
     |some (p,σ1)=>some (some p,.pan c { st with σ:=σ1 })
     |none=>none
    |.site r σ1=>some (some (M9 P f args st.σ (.ret r) σ1),.at_ ((st.aft σ1).put o.dst r))
    |.sitep c σ1=>some (some (M9 P f args st.σ (.pan c) σ1),.pan c { st with σ:=σ1 })
    |_=>none
   |none=>match Pw o st with
    |some v=>match q with
     |.no=>some (none,.pan [{ v,recovered:=false }] st)
     |_=>none
    |none=>none
 |none=>none
def Wm:Option Prop->Prop->Prop
 |none,p=>p
 |some q,p=>q/\p
def TX (o:Oper)(st:St):Option (FuncId×List PV) :=
 match o.op with
 |.call c=>match c.callee with
  |.value x=>match Dh st x with
   |.fno true f caps=>some (f,c.args.toList.map (fun x=>B1 (Dh st x))++caps)
   |_=>none
  |_=>none
 |_=>none
theorem TW {P:Program}{o:Oper}{st:St}{f:FuncId}{args:List PV}(h:TX o st=some (f,args))(hf:LZ P f=true):FR P o st=some (f,args):=by
 unfold TX at h
 unfold FR
 split at h
 . rename_i c hc
   rw [hc]
   simp only
   split at h
   . rename_i x hx
     rw [hx]
     simp only
     split at h
     . rename_i f' caps e
       obtain⟨rfl,rfl⟩:=Ø (Ac h)
       rw [e]
       simp only
       rw [Ê hf]
     . cases h
   . cases h
 . cases h
def Tm (P:Program)(ops:Array Oper)(st:St)(o:Oper)(q:I1):Option (Option Prop×Rn) :=
 match q with
 |.look v b=>match F4 ops st o with
  |some true=>match XG P o st v b with
   |some (p,st1)=>some (some p,.at_ st1)
   |none=>none
  |_=>none
 |.fcall r=>match F4 ops st o,K6 P o st,TX o st with
  |some true,none,some (f,args)=>some (some (LZ P f=true/\CZ P f args r),.at_ ((st.aft st.σ).put o.dst r))
  |_,_,_=>none
 |q=>ZP P ops st o q
def Qw (P:Program)(ops:Array Oper):List Oper->List I1->St->Option (Prop×Rn)
 | [],_,st=>some (True,.at_ st)
 |_::_,[],_=>none
 |o::l,q::qs,st=>match Tm P ops st o q with
  |some (p,.at_ st1)=>match Qw P ops l qs st1 with
   |some (p2,st2)=>some (Wm p p2,st2)
   |none=>none
  |some (p,.pan c st1)=>some (Wm p True,.pan c st1)
  |none=>none
theorem H2 {p:Option Prop}{q:Prop}(h:Wm p q):(∀ x,p=some x->x)/\q:=by
 cases p with
 |none=>exact⟨fun x e=>(by cases e),h⟩
 |some y=>exact⟨fun x e=>(by cases e;exact h.1),h.2⟩
theorem W0 {P:Program}{ops:Array Oper}{K:AX->St->Prop}{st:St}{s1:Rn}{o:Oper}{q:I1}{p:Option Prop}{l:List Oper}
 (h:ZP P ops st o q=some (p,s1)) (hp:∀ x,p=some x->x) (hk:s1.holds K (BR P ops K l)):BR P ops K (o::l) st:=by
 unfold ZP at h
 unfold BR
 split at h
 . rename_i e
   rw [e]
   split at h
   . obtain⟨_,rfl⟩:=Ø (Ac h);exact hk
   . cases h
 . rename_i e
   rw [e]
   simp only
   split at h
   . rename_i c st' e2
     rw [e2]
     simp only
     split at h
     . split at h
       . rename_i e3
         obtain⟨_,rfl⟩:=Ø (Ac h)
         exact⟨Eg e3,hk⟩
       . cases h
     . split at h
       . rename_i d' d p' rest e3 e4
         obtain⟨rfl,rfl⟩:=Ø (Ac h)
         obtain⟨hc,rfl⟩:=hp _ rfl
         refine⟨hc,?_⟩
         have hk:BR P ops K l { st' with env:=(d,p')::rest }:=hk
         rw [<- e4] at hk
         exact hk
       . cases h
     . cases h
   . rename_i e2
     rw [e2]
     simp only
     split at h
     . rename_i f args e3
       rw [e3]
       simp only
       split at h
       . obtain⟨rfl,rfl⟩:=Ø (Ac h)
         refine (hp _ rfl st.σ).mono ?_
         rintro x σ' ⟨rfl,rfl⟩
         exact hk
       . split at h
         . rename_i hm
           obtain⟨rfl,rfl⟩:=Ø (Ac h)
           refine (Kx hm (hp _ rfl)).mono ?_
           rintro x σ' ⟨rfl,rfl⟩
           exact hk
         . cases h
       . split at h
         . rename_i hm
           obtain⟨rfl,rfl⟩:=Ø (Ac h)
           refine (Kx hm (hp _ rfl)).mono ?_
           rintro x σ' ⟨rfl,rfl⟩
           exact hk
         . cases h
       . obtain⟨rfl,rfl⟩:=Ø (Ac h)
         refine VC.mono (hp _ rfl) ?_
         rintro x σ' ⟨rfl,rfl⟩
         exact hk
       . obtain⟨rfl,rfl⟩:=Ø (Ac h)
         refine VC.mono (hp _ rfl) ?_
         rintro x σ' ⟨rfl,rfl⟩
         exact hk
       . cases h
     . rename_i e3
       rw [e3]
       simp only
       split at h
       . rename_i v e4
         rw [e4]
         split at h
         . obtain⟨rfl,rfl⟩:=Ø (Ac h);exact hk
         . cases h
       . cases h
 . cases h
theorem Ji {P:Program}{ops:Array Oper}{K:AX->St->Prop}{st:St}{s1:Rn}{o:Oper}{q:I1}{p:Option Prop}{l:List Oper}
 (h:Tm P ops st o q=some (p,s1)) (hp:∀ x,p=some x->x) (hk:s1.holds K (BR P ops K l)):BR P ops K (o::l) st:=by
 unfold Tm at h
 split at h
 . split at h
   . rename_i hg
     split at h
     . rename_i hl
       obtain⟨rfl,rfl⟩:=Ø (Ac h)
       have h1:=(Qo hl (hp _ rfl)).1
       unfold BR
       rw [hg,h1]
       exact⟨rfl,hk⟩
     . cases h
   . cases h
 . split at h
   . rename_i f args h1 h2 h3
     obtain⟨rfl,rfl⟩:=Ø (Ac h)
     obtain⟨k1,k2⟩:=hp _ rfl
     unfold BR
     rw [h1]
     simp only
     rw [h2]
     simp only
     rw [TW h3 k1]
     refine (k2 st.σ).mono ?_
     rintro x σ' ⟨rfl,rfl⟩
     exact hk
   . cases h
 . exact W0 h hp hk
theorem GC {P:Program}{ops:Array Oper}{K:AX->St->Prop}:∀ {l:List Oper} {qs:List I1} {st:St} {s1:Rn} {p:Prop},Qw P ops l qs st=some (p,s1)->p->s1.holds K (K .normal)->BR P ops K l st
 | [],_,st,st1,p,h,_,hk=>by
  obtain⟨_,rfl⟩:=Ø (Ac h)
  exact hk
 |_::_,[],_,_,_,h,_,_=>by cases h
 |o::l,q::qs,st,st1,p,h,hp,hk=>by
  unfold Qw at h
  split at h
  . rename_i p1 st2 e
    split at h
    . rename_i p2 st3 e2
      obtain⟨rfl,rfl⟩:=Ø (Ac h)
      obtain⟨h1,h2⟩:=H2 hp
      exact Ji e h1 (GC e2 h2 hk)
    . cases h
  . rename_i p1 c st2 e
    obtain⟨rfl,rfl⟩:=Ø (Ac h)
    obtain⟨h1,h2⟩:=H2 hp
    exact Ji e h1 hk
  . cases h
def VR (M:List Nat)(c:Nat)(L:List Nat):Option (Prop×Rn)->Option (Prop×St)
 |some (p,.at_ st)=>some (p,low M c (clr L st))
 |_=>none
def Aju:Option (Prop×Rn)->Option (Prop×(List PanicEntry×List (List PV)))
 |some (p,.pan c st)=>some (p,(c,st.σ))
 |_=>none
theorem Mv {M:List Nat}{c:Nat}{L:List Nat}{x:Option (Prop×Rn)}{p:Prop}{S:St}(h:VR M c L x=some (p,S)):∃ st,x=some (p,.at_ st)/\low M c (clr L st)=S:=by
 unfold VR at h
 split at h
 . rename_i p' st
   obtain⟨rfl,rfl⟩:=Ø (Ac h)
   exact⟨st,rfl,rfl⟩
 . cases h
theorem Aho {P:Program}{L:Cf}{N:Nat}{k:List TI}{Q:AX->St->Prop}{st:St}{i:Nat}{ops:Array Oper}{d:Bool}(M:List Nat)(c:Nat)(qs:List I1)(S:St){p:Prop}(hp:p)
 (he:VR M c L.L (Qw P ops ops.toList qs st)=some (p,S)) (hn:DZ L.pl i=none) (hk:Vp k=true) (hc:N<=c) (h:WS P L N k Q S):WS P L N (.code (.region i ops d)::k) Q st:=by
 obtain⟨st1,e,rfl⟩:=Mv he
 refine JU hn ?_
 intro K' hK _
 exact GC e hp (hK _ _ rfl (Md M c hk hc rfl h))
def ZQ (P:Program)(ops:Array Oper)(M:List Nat)(st:St)(i:Nat)(o:Oper)(q:I1):Option (Option Prop×Rn) :=
 match F4 ops st o with
 |some false=>match q with
  |.no=>some (none,.at_ (st.put o.dst (.lit (.tuple #[]))))
  |_=>none
 |some true=>match K6 P o st with
  |some (c,st')=>match okB (Adm M o st&&UP ops M i o st) with
   |none=>none
   |some _=>match q with
    |.no=>match okB c with
     |some _=>some (none,.at_ st')
     |none=>none
    |.val p=>match o.dst,st'.env with
     |some _,(d,p')::rest=>some (some (c=true/\p'=p),.at_ { st' with env:=(d,p)::rest })
     |_,_=>none
    |_=>none
  |none=>match FR P o st with
   |some (f,args)=>match E2 ops (CG ops) i with
    |true=>match q with
     |.call r=>match args with
      |.ptr _ _::_=>none
      |args=>match okB (Ge args) with
       |some _=>some (some (CZ P f args r),.at_ ((st.aftK (fun _=>true) (st.σ++[])).put o.dst (r.shift st.σ.length)))
       |none=>none
     |.meth r cs'=>match args with
      |.ptr k 0::more=>match okB (T9 k M&&(PV.fitsL 0 (st.σ.getD k [])&&(Ge more&&(decide (k<st.σ.length)&&(PV.fitsL 0 cs'&&Gw (.ret r)))))) with
       |some _=>some (some (CV P f more (st.σ.getD k []) (.ret r) cs'),.at_ ((st.aftK (fun q=>q != k) (st.σ.set k cs')).put o.dst r))
       |none=>none
      |_=>none
     |.mpan c cs'=>match args with
      |.ptr k 0::more=>match okB (T9 k M&&(PV.fitsL 0 (st.σ.getD k [])&&(Ge more&&(decide (k<st.σ.length)&&(PV.fitsL 0 cs'&&Gw (.pan c)))))) with
       |some _=>some (some (CV P f more (st.σ.getD k []) (.pan c) cs'),.pan c { st with σ:=st.σ.set k cs' })
       |none=>none
      |_=>none
     |_=>none
    |false=>match q with
     |.call r=>some (some (CZ P f args r),.at_ ((st.aft st.σ).put o.dst r))
     |.meth r cs'=>match Sy P f args st.σ (.ret r) cs' with
      |some (p,σ1)=>some (some p,.at_ ((st.aft σ1).put o.dst r))
      |none=>none
     |.mpan c cs'=>match Sy P f args st.σ (.pan c) cs' with
      |some (p,σ1)=>some (some p,.pan c { st with σ:=σ1 })
      |none=>none
     |.site r σ1=>some (some (M9 P f args st.σ (.ret r) σ1),.at_ ((st.aft σ1).put o.dst r))
     |.sitep c σ1=>some (some (M9 P f args st.σ (.pan c) σ1),.pan c { st with σ:=σ1 })
     |_=>none
   |none=>none
 |none=>none
def Oq (P:Program)(ops:Array Oper)(M:List Nat)(st:St)(i:Nat)(o:Oper)(q:I1):Option (Option Prop×Rn) :=
 match q with
 |.look v b=>match F4 ops st o with
  |some true=>match XG P o st v b with
   |some (p,st1)=>some (some p,.at_ st1)
   |none=>none
  |_=>none
 |q=>ZQ P ops M st i o q
def ZX (P:Program)(ops:Array Oper)(M:List Nat):List Nat->List I1->St->Option (Prop×Rn)
 | [],_,st=>some (True,.at_ st)
 |_::_,[],_=>none
 |i::l,q::qs,st=>match ops[i]? with
  |some o=>match Oq P ops M st i o q with
   |some (p,.at_ st1)=>match ZX P ops M l qs st1 with
    |some (p2,st2)=>some (Wm p p2,st2)
    |none=>none
   |some (p,.pan c st1)=>some (Wm p True,.pan c st1)
   |none=>none
  |none=>none
theorem W1 {P:Program}{ops:Array Oper}{M:List Nat}{K:AX->St->Prop}{st:St}{s1:Rn}{i:Nat}{o:Oper}{q:I1}{p:Option Prop}{l:List Nat}(ho:ops[i]?=some o)
 (h:ZQ P ops M st i o q=some (p,s1)) (hp:∀ x,p=some x->x) (hk:s1.holds K (Ce P ops M K l)):Ce P ops M K (i::l) st:=by
 unfold ZQ at h
 unfold Ce
 rw [ho]
 simp only
 split at h
 . rename_i e
   rw [e]
   split at h
   . obtain⟨_,rfl⟩:=Ø (Ac h);exact hk
   . cases h
 . rename_i e
   rw [e]
   simp only
   split at h
   . rename_i c st' e2
     rw [e2]
     simp only
     split at h
     . cases h
     . rename_i er
       split at h
       . split at h
         . rename_i e3
           obtain⟨_,rfl⟩:=Ø (Ac h)
           exact⟨Eg e3,Eg er,hk⟩
         . cases h
       . split at h
         . rename_i d' d p' rest e3 e4
           obtain⟨rfl,rfl⟩:=Ø (Ac h)
           obtain⟨hc,rfl⟩:=hp _ rfl
           refine⟨hc,Eg er,?_⟩
           have hk:Ce P ops M K l { st' with env:=(d,p')::rest }:=hk
           rw [<- e4] at hk
           exact hk
         . cases h
       . cases h
   . rename_i e2
     rw [e2]
     simp only
     split at h
     . rename_i f args e3
       rw [e3]
       simp only
       split at h
       . rename_i en
         rw [en]
         simp only [ë]
         split at h
         . split at h
           . cases h
           . rename_i args' hne
             split at h
             . rename_i ep
               obtain⟨rfl,rfl⟩:=Ø (Ac h)
               split
               . exact absurd rfl (hne _ _ _)
               . refine⟨Eg ep,(hp _ rfl []).mono ?_⟩
                 rintro x σ' ⟨rfl,rfl⟩
                 exact hk
             . cases h
         . split at h
           . split at h
             . rename_i ep
               obtain⟨rfl,rfl⟩:=Ø (Ac h)
               have h1:=Eg ep
               simp only [Ã,Í] at h1
               refine⟨h1.1,h1.2.1,h1.2.2.1,h1.2.2.2.1,VC.mono (hp _ rfl) ?_⟩
               rintro x σ' ⟨rfl,rfl⟩
               exact⟨_,rfl,h1.2.2.2.2.1,h1.2.2.2.2.2,hk⟩
             . cases h
           . cases h
         . split at h
           . split at h
             . rename_i ep
               obtain⟨rfl,rfl⟩:=Ø (Ac h)
               have h1:=Eg ep
               simp only [Ã,Í] at h1
               refine⟨h1.1,h1.2.1,h1.2.2.1,h1.2.2.2.1,VC.mono (hp _ rfl) ?_⟩
               rintro x σ' ⟨rfl,rfl⟩
               exact⟨_,rfl,h1.2.2.2.2.1,h1.2.2.2.2.2,hk⟩
             . cases h
           . cases h
         . cases h
       . rename_i en
         rw [en]
         simp only [ß,í]
         split at h
         . obtain⟨rfl,rfl⟩:=Ø (Ac h)
           refine (hp _ rfl st.σ).mono ?_
           rintro x σ' ⟨rfl,rfl⟩
           exact hk
         . split at h
           . rename_i hm
             obtain⟨rfl,rfl⟩:=Ø (Ac h)
             refine (Kx hm (hp _ rfl)).mono ?_
             rintro x σ' ⟨rfl,rfl⟩
             exact hk
           . cases h
         . split at h
           . rename_i hm
             obtain⟨rfl,rfl⟩:=Ø (Ac h)
             refine (Kx hm (hp _ rfl)).mono ?_
             rintro x σ' ⟨rfl,rfl⟩
             exact hk
           . cases h
         . obtain⟨rfl,rfl⟩:=Ø (Ac h)
           refine VC.mono (hp _ rfl) ?_
           rintro x σ' ⟨rfl,rfl⟩
           exact hk
         . obtain⟨rfl,rfl⟩:=Ø (Ac h)
           refine VC.mono (hp _ rfl) ?_
           rintro x σ' ⟨rfl,rfl⟩
           exact hk
         . cases h
     . cases h
 . cases h
theorem FA {P:Program}{ops:Array Oper}{M:List Nat}{K:AX->St->Prop}{st:St}{s1:Rn}{i:Nat}{o:Oper}{q:I1}{p:Option Prop}{l:List Nat}(ho:ops[i]?=some o)
 (h:Oq P ops M st i o q=some (p,s1)) (hp:∀ x,p=some x->x) (hk:s1.holds K (Ce P ops M K l)):Ce P ops M K (i::l) st:=by
 unfold Oq at h
 split at h
 . split at h
   . rename_i hg
     split at h
     . rename_i hl
       obtain⟨rfl,rfl⟩:=Ø (Ac h)
       obtain⟨h1,h2⟩:=Qo hl (hp _ rfl)
       unfold Ce
       rw [ho]
       simp only
       rw [hg,h1]
       exact⟨rfl,h2 ops M _,hk⟩
     . cases h
   . cases h
 . exact W1 ho h hp hk
theorem Mk {P:Program}{ops:Array Oper}{M:List Nat}{K:AX->St->Prop}:∀ {l:List Nat} {qs:List I1} {st:St} {s1:Rn} {p:Prop},ZX P ops M l qs st=some (p,s1)->p->s1.holds K (K .normal)->Ce P ops M K l st
 | [],_,st,st1,p,h,_,hk=>by
  obtain⟨_,rfl⟩:=Ø (Ac h)
  exact hk
 |_::_,[],_,_,_,h,_,_=>by cases h
 |i::l,q::qs,st,st1,p,h,hp,hk=>by
  unfold ZX at h
  split at h
  . rename_i o ho
    split at h
    . rename_i p1 st2 e
      split at h
      . rename_i p2 st3 e2
        obtain⟨rfl,rfl⟩:=Ø (Ac h)
        obtain⟨h1,h2⟩:=H2 hp
        exact FA ho e h1 (Mk e2 h2 hk)
      . cases h
    . rename_i p1 c st2 e
      obtain⟨rfl,rfl⟩:=Ø (Ac h)
      obtain⟨h1,h2⟩:=H2 hp
      exact FA ho e h1 hk
    . cases h
  . cases h
def YJ (P:Program)(fn:Func)(N:Nat)(st:St):Option (PV×List (List PV)) :=
 match K5 P fn.results.toList st with
 |some (c,ps,st')=>match okB c with
  |some _=>some (MH ps,Jh N (MH ps) st'.σ)
  |none=>none
 |none=>none
theorem Ox {P:Program}{fn:Func}{N:Nat}{st:St}{Q:CP->List (List PV)->Prop}{r:PV}{σ:List (List PV)}(h:YJ P fn N st=some (r,σ))(hq:Q (.ret r) σ):EY P fn N Q .ret st/\EY P fn N Q .normal st:=by
 unfold YJ at h
 unfold EY
 simp only
 split at h
 . rename_i c ps st' e
   rw [e]
   split at h
   . rename_i e3
     obtain⟨rfl,rfl⟩:=Ø (Ac h)
     have hc:c=true:=Eg e3
     exact⟨⟨hc,hq⟩,hc,hq⟩
   . cases h
 . cases h
def ZV:Option (PV×List (List PV))->Option (PV×List (List PV))
 |some (p,σ)=>some (shareP p,σ)
 |none=>none
theorem HM {P:Program}{fn:Func}{N:Nat}{st:St}{Q:CP->List (List PV)->Prop}{R:PV}{σ:List (List PV)}(hQ:∀ y,shareP y=R->Q (.ret y) σ)(h:ZV (YJ P fn N st)=some (R,σ)):EY P fn N Q .ret st/\EY P fn N Q .normal st:=by
 cases e:YJ P fn N st with
 |none=>rw [e] at h;cases h
 |some x =>
  obtain⟨p,σ1⟩:=x
  rw [e] at h
  obtain⟨rfl,rfl⟩:=Ø (Ac h)
  exact Ox e (hQ p rfl)
theorem Vb {P:Program}{fn:Func}{N:Nat}{st:St}{Q:CP->List (List PV)->Prop}{R:PV}{σ:List (List PV)}(hQ:∀ y,y=R->Q (.ret y) σ)(h:YJ P fn N st=some (R,σ)):EY P fn N Q .ret st/\EY P fn N Q .normal st:=Ox h (hQ R rfl)
theorem oi {α:Type}{l:List α}{row:α->List PV}{n:Nat}{i:Int}{x:α}{R:List PV}(h:gi l i=some x)(hn:∀ x,(row x).length=n)(hr:row x=R) :
 decide (0<=i/\i<((l.map row).length:Int)/\((l.map row).getD i.toNat []).length=n)=true/\PV.vptr ((l.map row).getD i.toNat []) 0=.vptr R 0:=by
 obtain⟨h1,h2,h3⟩:=Aiq l row (R:=row) (fun _=>rfl) h
 rw [h3,hr,Ó,Í]
 exact⟨⟨h1,h2,by rw [<- hr,hn]⟩,rfl⟩
theorem ob {s:Â}{i x:Int}(h:gb s i=some x):decide (0<=i/\i<(s.size:Int))=true/\PV.lit (.int .u8 ((s.data.toList.getD i.toNat 0).toNat:Int))=.lit (.int .u8 x):=by
 obtain⟨h1,h2,h3⟩:=Air h
 rw [h3,Í];exact⟨⟨h1,h2⟩,rfl⟩
theorem Ajg {s t:Â}{l h:Int}(e:NQ s l h=some t):decide (0<=l/\l<=h/\h<=(s.size:Int))=true/\PV.lit (.string (s.extract l.toNat h.toNat))=.lit (.string t):=by
 obtain⟨h1,h2⟩:=Aef e
 rw [h2,Í];exact⟨h1,rfl⟩
theorem osl {α:Type}{x y:List α}{l h:Int}{row:α->List PV}{n:Nat}(e:Yh x l h=some y)(hn:∀ x,(row x).length=n) :
 (decide (0<=l/\l<=h/\h<=((x.map row).length:Int))&&(x.map row).all (fun x=>x.length == n))=true/\PV.sl (((x.map row).take h.toNat).drop l.toNat) .shared=.sl (y.map row) .shared:=by
 obtain⟨h1,h2⟩:=Ag9 row hn e
 rw [h2,Ó];exact⟨h1,rfl⟩
theorem Aau {α:Type}{b:Nat}{x y z:List α}{row:α->List PV}{n:Nat}(e:B4 b x y=some z)(hn:∀ x,(row x).length=n) :
 (decide (((x.map row).length+(y.map row).length)*b<=140737488355328)&&((x.map row).all (fun x=>x.length == n)&&((y.map row).all (fun x=>x.length == n)&&(!false||!(y.map row).isEmpty))))=true/\PV.sl (x.map row++y.map row) .own=.sl (z.map row) .own:=by
 obtain⟨h1,h2⟩:=TJ row hn e
 rw [h2,Ó,Ó]
 refine⟨?_,rfl⟩
 rw [é,Bool.true_or,ē];exact h1
theorem Aia {α:Type}{b:Nat}{x y z:List α}{row:α->List PV}{n:Nat}(e:B4 b x y=some z)(hn:∀ x,(row x).length=n)(hy:y≠[]) :
 (decide (((x.map row).length+(y.map row).length)*b<=140737488355328)&&((x.map row).all (fun x=>x.length == n)&&((y.map row).all (fun x=>x.length == n)&&(!true||true))))=true/\PV.sl (x.map row++y.map row) (if (y.map row).isEmpty=true then .full else .own)=.sl (z.map row) .own:=by
 obtain⟨h1,h2⟩:=TJ row hn e
 rw [h2,Ó,Ó,È (by simpa using hy)]
 refine⟨?_,rfl⟩
 rw [ċ,ē];exact h1
theorem onn {k:IntKind}{b e q:Int}(h:Yi b e=some q):decide (0<=b)=true/\PV.lit (.int k e)=.lit (.int k q):=by
 obtain⟨h1,h2⟩:=Aha h
 rw [h2,Í];exact⟨h1,rfl⟩
theorem Ph {e b:Bool}(h:e=b):true=true/\PV.lit (.bool e)=.lit (.bool b):=⟨rfl,by rw [h]⟩
theorem D0 {xs ys:List (List PV)}{c:Bool}(hc:c=true)(h:xs=ys):c=true/\PV.sl xs .own=.sl ys .own:=⟨hc,by rw [h]⟩
theorem YQ {α:Type}(l:List α)(row:α->List PV):true=true/\PV.lit (.int .i64 ((l.map row).length:Int))=.lit (.int .i64 (l.length:Int)):=⟨rfl,by rw [Ó]⟩
theorem Ajh {α:Type}{x y:List α}{l:Int}{row:α->List PV}{n:Nat}(e:Yh x l (x.length:Int)=some y)(hn:∀ x,(row x).length=n) :
 (decide (0<=l/\l<=((x.map row).length:Int)/\((x.map row).length:Int)<=((x.map row).length:Int))&&(x.map row).all (fun x=>x.length == n))=true/\PV.sl (((x.map row).take ((x.map row).length:Int).toNat).drop l.toNat) .shared=.sl (y.map row) .shared:=by
 have h:=osl (row:=row) e hn
 rw [Ó] at h ⊢
 exact h
theorem CV.fin {P:Program}{f:FuncId}{args cs cs':List PV}{R:PV}(h:∀ Q:CP->List (List PV)->Prop,(∀ y,shareP y=R->Q (.ret y) [cs'])->VC P f (.ptr 0 0::args) [cs] Q):CV P f args cs (.ret R) cs':=by
 refine VC.less (h (fun x σ'=>∃ y,shareP y=R/\x=.ret y/\σ'=[cs']) fun y hy=>⟨y,hy,rfl,rfl⟩) ?_
 rintro x σ' ⟨y,rfl,rfl,rfl⟩
 exact⟨.ret (shareP y),⟨rfl,rfl⟩,fun w G e he=>EH.shareP he⟩
theorem CV.finP {P:Program}{f:FuncId}{args cs cs':List PV}{c:List PanicEntry}(h:∀ Q:CP->List (List PV)->Prop,Q (.pan c) [cs']->VC P f (.ptr 0 0::args) [cs] Q):CV P f args cs (.pan c) cs':=h _ ⟨rfl,rfl⟩
theorem M9.fin {P:Program}{f:FuncId}{args:List PV}{σ σ1:List (List PV)}{R:PV}(h:∀ Q:CP->List (List PV)->Prop,(∀ y,shareP y=R->Q (.ret y) σ1)->VC P f args σ Q):M9 P f args σ (.ret R) σ1:=by
 refine VC.less (h (fun x σ'=>∃ y,shareP y=R/\x=.ret y/\σ'=σ1) fun y hy=>⟨y,hy,rfl,rfl⟩) ?_
 rintro x σ' ⟨y,rfl,rfl,rfl⟩
 exact⟨.ret (shareP y),⟨rfl,rfl⟩,fun w G e he=>EH.shareP he⟩
def Jo (l:List (Int×Int))(k:Int):Int×Bool :=
 match l with
 | []=>(0,false)
 |(a,v)::r=>if k == a then (v,true) else Jo r k
def kvI (l:List (Int×Int)):List (Value×Value):=l.map fun x=>(.int .i64 x.1,.int .i64 x.2)
theorem Yp (k:Int):∀ (l:List (Int×Int)) (i:Nat),match Jq (.int .i64) (.int .i64 k) (kvI l) i with|some (some (_,v))=>Jo l k=((match v with|.int _ n=>n|_=>0),true)/\v=.int .i64 (Jo l k).1|some none=>Jo l k=(0,false)|none=>False
 | [],i=>by simp [kvI,Jq,Jo]
 |(a,v)::r,i=>by
  have ih:=Yp k r (i+1)
  show match Jq (.int .i64) (.int .i64 k) ((.int .i64 a,.int .i64 v)::kvI r) i with|some (some (_,v))=>_|some none=>_|none=>_
  unfold Jq Jo
  have e:Instr.sameNow (.int .i64) (.int .i64 k) (.int .i64 a)=some (k == a):=rfl
  simp only [e]
  cases hk:(k == a) with
  |true=>simp
  |false=>simpa using ih
theorem Ah9 (l:List (Int×Int))(k:Int):S5 (.int .i64) (kvI l) (.int .i64 k) (some (.int .i64 0))=some (.int .i64 (Jo l k).1,(Jo l k).2):=by
 unfold S5
 have h:=Yp k l 0
 split
 . rename_i e;rw [e] at h;rw [h.2];simp [h.1]
 . rename_i e;rw [e] at h;simp only at h;rw [h];rfl
 . rename_i e;rw [e] at h;exact h.elim
def C5 (l:List (ByteArray×Int))(k:Â):Int×Bool :=
 match l with
 | []=>(0,false)
 |(a,v)::r=>if k=a then (v,true) else C5 r k
def NL (l:List (ByteArray×Int)):List (Value×Value):=l.map fun x=>(.string x.1,.int .i64 x.2)
abbrev iP (x:Int):PV:=.lit (.int .i64 x)
abbrev uP (x:Int):PV:=.lit (.int .u8 x)
abbrev bP (x:Bool):PV:=.lit (.bool x)
abbrev tP (x:Â):PV:=.lit (.string x)
abbrev hP {α:Type}(l:List α)(row:α->List PV):PV:=.sl (l.map row) .shared
abbrev oP {α:Type}(l:List α)(row:α->List PV):PV:=.sl (l.map row) .own
section
variable {P:Program} {L:Cf} {N:Nat} {k k':List TI} {Q:AX->St->Prop} {st:St} {a b:Code} {id:Nat}
theorem z1 (h:WS P L N (.code a::.code b::k) Q st):WS P L N (.code (.seq a b)::k) Q st:=Ahn h
theorem z2 (h:WS P L N k Q st):WS P L N (.blk id::k) Q st:=h
theorem z3 (h:WS P L N k Q st):WS P L N (.code .skip::k) Q st:=Ae3 h
theorem z4 {l:Nat}(h:WS P L N k Q st):WS P L N (.code (.label l)::k) Q st:=Acy h
end
theorem wr {P:Program}{L:Cf}{N:Nat}{k:List TI}{Q:AX->St->Prop}{st:St}{i:Nat}{ops:Array Oper}{d:Bool}(M:List Nat)(c:Nat)(qs:List I1)(S:St){p:Prop}(hp:p)
 (he:(VR M c L.L (Qw P ops ops.toList qs st),DZ L.pl i,Vp k,Nat.ble N c)=(some (p,S),none,true,true)) (h:WS P L N k Q S):WS P L N (.code (.region i ops d)::k) Q st:=by
 obtain⟨h1,h2⟩:=Ø he
 obtain⟨h2,h3⟩:=Ø h2
 obtain⟨h3,h4⟩:=Ø h3
 exact Aho M c qs S hp h1 h2 h3 (Û h4) h
def E6:Nat->List I1->List I1
 |0,l=>l
 |n+1,l=>.no::E6 n l
def Abr (P:Program)(oi oj ok ol:Oper)(ys:List (List PV))(st:St):Option (Prop×St) :=
 match oi.op,oi.dst,oj.op,oj.dst,ok.op,ok.dst,ol.op,ol.dst with
 |.call c,some d1,.indexAddr T (.tmp e1) ix,some d2,.store T3 (.tmp e2) z,none,.store T4 xl (.tmp e3),none =>
  match c.callee,c.args.toList,c.argTypes.toList with
  |.builtin .append,[x,y],[t,t'] =>
   match apT P t,Gc st x with
   |some (sz,bytes),some (xs,_,st1) =>
    match IT P t' sz st y,Dh st ix,slT P T with
    |some [zr],.lit (.int _ n),some (sz2,_) =>
     match Jr P T4 ((st1.put (some d1) (.sl ys .own)).put (some d2) .undef) xl (.tmp d1) with
     |some (c,st3)=>match okB (c&&(decide (e1=d1/\e2=d2/\e3=d1/\d1≠d2/\sz2=sz/\PH P T3=some sz/\zr.length=sz)&&((P9 ix d1&&(P9 z d1&&(P9 z d2&&(P9 xl d1&&P9 xl d2))))&&KK sz (Dh st z)))) with
      |some _=>some (n=(xs.length:Int)/\decide ((xs.length+1)*(bytes+1)<=140737488355328)=true/\xs.all (fun x=>x.length == sz)=true/\xs++[rowOf (Dh st z)]=ys,st3)
      |none=>none
     |none=>none
    |_,_,_=>none
   |_,_=>none
  |_,_,_=>none
 |_,_,_,_,_,_,_,_=>none
theorem Xf {P:Program}{oi oj ok ol:Oper}{ys:List (List PV)}{st st3:St}{p:Prop}(h:Abr P oi oj ok ol ys st=some (p,st3))(hp:p):four P oi oj ok ol st=some (true,st3):=by
 unfold Abr at h
 unfold four
 split at h
 . split at h
   . split at h
     . split at h
       . split at h
         . rename_i c2 st4 hst
           split at h
           . rename_i hk
             obtain⟨rfl,rfl⟩:=Ø (Ac h)
             obtain⟨h1,h2,h3,rfl⟩:=hp
             have hk:=Eg hk
             simp only [Ã] at hk
             simp only [*,ē,ø]
           . cases h
         . cases h
       . cases h
     . cases h
   . cases h
 . cases h
def Abq (P:Program)(ops:Array Oper)(t:List Nat)(ys:List (List PV))(st:St):Option (Prop×St) :=
 match t with
 | [i,j,k,l]=>match ops[i]?,ops[j]?,ops[k]?,ops[l]? with
  |some oi,some oj,some ok,some ol=>match okB (HD oi&&(HD oj&&(HD ok&&HD ol))) with
   |some _=>Abr P oi oj ok ol ys st
   |none=>none
  |_,_,_,_=>none
 |_=>none
theorem Xe {P:Program}{ops:Array Oper}{K:AX->St->Prop}{t:List Nat}{ys:List (List PV)}{st st3:St}{p:Prop}(h:Abq P ops t ys st=some (p,st3))(hp:p)(hk:K .normal st3):K8 P ops K t st:=by
 unfold Abq at h
 unfold K8
 split at h
 . split at h
   . split at h
     . rename_i hg
       have hg:=Eg hg
       have h5:=Xf h hp
       simp only [*,ē]
       exact⟨trivial,trivial⟩
     . cases h
   . cases h
 . cases h
def Adl (P:Program)(ops:Array Oper)(M pre:List Nat)(qs:List I1)(t:List Nat)(ys:List (List PV))(st:St):Option (Prop×Rn) :=
 match ZX P ops M pre qs st with
 |some (p,.at_ st1)=>match Abq P ops t ys st1 with
  |some (p2,st2)=>some (p/\p2,.at_ st2)
  |none=>none
 |some (p,.pan c st1)=>some (p,.pan c st1)
 |none=>none
theorem Sj {P:Program}{ops:Array Oper}{M pre:List Nat}{K:AX->St->Prop}{qs:List I1}{t:List Nat}{ys:List (List PV)}{st:St}{s1:Rn}{p:Prop}(h:Adl P ops M pre qs t ys st=some (p,s1))(hp:p)(hk:s1.holds K (K .normal)):Ce P ops M (EP P ops K t) pre st:=by
 unfold Adl at h
 split at h
 . rename_i p1 st1 e
   split at h
   . rename_i p2 st2 e2
     obtain⟨rfl,rfl⟩:=Ø (Ac h)
     exact Mk e hp.1 (Xe e2 hp.2 hk)
   . cases h
 . rename_i p1 c st1 e
   obtain⟨rfl,rfl⟩:=Ø (Ac h)
   exact Mk e hp hk
 . cases h
def YG (P:Program)(ops:Array Oper)(M pre:List Nat)(qs:List I1)(x y:Nat)(qx qy:I1)(t:List Nat)(ys:List (List PV))(st:St):Option (Prop×Rn×Rn) :=
 match ZX P ops M pre qs st with
 |some (p,.at_ st1)=>match Adl P ops M [x,y] [qx,qy] t ys st1,Adl P ops M [y,x] [qy,qx] t ys st1 with
  |some (p1,s1),some (p2,s2)=>some (p/\p1/\p2,s1,s2)
  |_,_=>none
 |_=>none
theorem Si {P:Program}{ops:Array Oper}{M pre:List Nat}{K:AX->St->Prop}{qs:List I1}{x y:Nat}{qx qy:I1}{t:List Nat}{ys:List (List PV)}{st:St}{s1 s2:Rn}{p:Prop}(h:YG P ops M pre qs x y qx qy t ys st=some (p,s1,s2))(hp:p)(hk1:s1.holds K (K .normal))(hk2:s2.holds K (K .normal)) :
 Ce P ops M (Jz P ops M (EP P ops K t) [x,y]) pre st:=by
 unfold YG at h
 split at h
 . rename_i p0 st1 e
   split at h
   . rename_i p1 s1' p2 s2' e1 e2
     simp only [Å,Ï] at h
     obtain⟨rfl,rfl,rfl⟩:=h
     exact Mk e hp.1 ⟨Sj e1 hp.2.1 hk1,Sj e2 hp.2.2 hk2⟩
   . cases h
 . cases h
def Aen (M:List Nat)(c:Nat)(L:List Nat):Option (Prop×Rn×Rn)->Option (Prop×St×St)
 |some (p,.at_ s1,.at_ s2)=>some (p,low M c (clr L s1),low M c (clr L s2))
 |_=>none
theorem Zi {M:List Nat}{c:Nat}{L:List Nat}{x:Option (Prop×Rn×Rn)}{p:Prop}{S1 S2:St}(h:Aen M c L x=some (p,S1,S2)):∃ s1 s2,x=some (p,.at_ s1,.at_ s2)/\low M c (clr L s1)=S1/\low M c (clr L s2)=S2:=by
 unfold Aen at h
 split at h
 . rename_i p' s1 s2
   simp only [Å,Ï] at h
   obtain⟨rfl,rfl,rfl⟩:=h
   exact⟨s1,s2,rfl,rfl,rfl⟩
 . cases h
theorem wrG {P:Program}{L:Cf}{N:Nat}{k:List TI}{Q:AX->St->Prop}{st:St}{i:Nat}{ops:Array Oper}{d:Bool}(PM t:List Nat)(x y i1 i2 i3 i4:Nat)(M:List Nat)(c:Nat)(qs:List I1)(qx qy:I1)(ys:List (List PV))(S:St){p:Prop}(hp:p)
 (he:(Aen M c L.L (YG P ops PM t qs x y qx qy [i1,i2,i3,i4] ys st),DZ L.pl i,Vp k,Nat.ble N c)=(some (p,S,S),some (9997::PM.length::(PM++(t++[x,y,i1,i2,i3,i4]))),true,true)) (h:WS P L N k Q S):WS P L N (.code (.region i ops d)::k) Q st:=by
 obtain⟨h1,h2⟩:=Ø he
 obtain⟨h2,h3⟩:=Ø h2
 obtain⟨h3,h4⟩:=Ø h3
 obtain⟨s1,s2,e,e1,e2⟩:=Zi h1
 refine Wp PM t x y i1 i2 i3 i4 h2 ?_
 intro K' hK _
 exact Si e hp (hK _ _ rfl (Md M c h3 (Û h4) e1 h)) (hK _ _ rfl (Md M c h3 (Û h4) e2 h))
theorem Ai6 {P:Program}{L:Cf}{N:Nat}{k:List TI}{fn:Func}{Q:CP->List (List PV)->Prop}{st:St}{i:Nat}{ops:Array Oper}{d:Bool}(PM t:List Nat)(x y i1 i2 i3 i4:Nat)(qs:List I1)(qx qy:I1){c:List PanicEntry}{σ:List (List PV)}{p:Prop}(hp:p)
 (he:(match YG P ops PM t qs x y qx qy [i1,i2,i3,i4] [] st with|some (p,.pan c1 s1,.pan c2 s2)=>some (p,(c1,Jh N .undef s1.σ),(c2,Jh N .undef s2.σ))|_=>none)=some (p,(c,σ),(c,σ))) (hn:DZ L.pl i=some (9997::PM.length::(PM++(t++[x,y,i1,i2,i3,i4])))) (h:Q (.pan c) σ) :
 WS P L N (.code (.region i ops d)::k) (EY P fn N Q) st:=by
 split at he
 . rename_i p' c1 s1 c2 s2 e
   simp only [Å,Ï] at he
   obtain⟨rfl,⟨rfl,h1⟩,⟨rfl,h2⟩⟩:=he
   refine Wp PM t x y i1 i2 i3 i4 hn ?_
   intro K' _ hP
   refine Si e hp (hP _ _ ?_) (hP _ _ ?_)
   . show Q (.pan _) (Jh N .undef s1.σ);rw [h1];exact h
   . show Q (.pan _) (Jh N .undef s2.σ);rw [h2];exact h
 . cases he
theorem Afj {α:Type}{b:Nat}{x z:List α}{f:α}{row:α->List PV}{n:Nat}{R:List PV}(e:B4 b x [f]=some z)(hn:∀ x,(row x).length=n)(hr:row f=R) :
 (x.length:Int)=((x.map row).length:Int)/\decide (((x.map row).length+1)*b<=140737488355328)=true/\(x.map row).all (fun x=>x.length == n)=true/\x.map row++[R]=z.map row:=by
 obtain⟨h1,h2⟩:=TJ row hn e
 rw [Ã,Ã] at h1
 refine⟨by rw [Ó],?_,h1.2.1,?_⟩
 . rw [Ó];exact h1.1
 . rw [<- h2,<- hr];rfl
def Vv:Nat->List TI->List TI
 |0,k=>k
 |n+1,.code (.seq a b)::k=>Vv n (.code a::.code b::k)
 |n+1,.code .skip::k=>Vv n k
 |n+1,.code (.label _)::k=>Vv n k
 |n+1,.blk _::k=>Vv n k
 |_+1,k=>k
theorem zp {P:Program}{L:Cf}{N:Nat}{Q:AX->St->Prop}{st:St}:∀ {n:Nat} {k:List TI},WS P L N (Vv n k) Q st->WS P L N k Q st
 |0,_,h=>h
 |n+1,k,h=>by
  unfold Vv at h
  split at h
  . rename_i e;cases e
  . exact z1 (zp h)
  . exact z3 (zp h)
  . exact z4 (zp h)
  . exact z2 (zp h)
  . exact h
theorem aI {a b:Prop}(h:a)(k:b):a/\b:=⟨h,k⟩
theorem tI:True:=trivial
abbrev yT:I1:=.val (.lit (.bool true))
abbrev yF:I1:=.val (.lit (.bool false))
end Go.Sp
