/-
  Partial operations on plain values, and the words with which lifted functions are walked. No program.
-/
import Derived.Test.YtkcfmlfkfagejaaGreatDoorU4
set_option linter.unusedVariables false
set_option linter.unusedSimpArgs false
namespace Go.Sp
open Go Go.RowKit Go.Q Go.Vl
def gi {α:Type}(l:List α)(i:Int):Option α:=if 0<=i then l[i.toNat]? else none
def gb (s:ByteArray)(i:Int):Option Int:=if 0<=i/\i<(s.size:Int) then some ((s.data.toList.getD i.toNat 0).toNat:Int) else none
def VY {α:Type}(x:List α)(l h:Int):Option (List α):=if 0<=l/\l<=h/\h<=(x.length:Int) then some ((x.take h.toNat).drop l.toNat) else none
def C0 {α:Type}(b:Nat)(x y:List α):Option (List α):=if (x.length+y.length)*b<=140737488355328 then some (x++y) else none
def V2 (b e:Int):Option Int:=if b≠0 then some e else none
def Xq (b e:Int):Option Int:=if 0<=b then some e else none
theorem Ae {α β:Type}{x:Option α}{f:α->Option β}{r:β}(h:x.bind f=some r):∃ a,x=some a/\f a=some r:=by
 cases x with
 |none=>cases h
 |some a=>exact⟨a,rfl,h⟩
theorem Ar {α:Type}{c:Bool}{a b:Option α}{r:α}(h:(bif c then a else b)=some r):(c=true/\a=some r)∨(c=false/\b=some r):=by
 cases c with
 |true=>exact .inl ⟨rfl,h⟩
 |false=>exact .inr ⟨rfl,h⟩
theorem test {e b:Bool}(h:e=b):PV.lit (.bool e)=PV.lit (.bool b):=by rw [h]
theorem Yj {α:Type}(l:List α)(row:α->List PV){R:α->List PV}(hr:∀ x,row x=R x){i:Int}{x:α}(h:gi l i=some x) :
 (0<=i)/\(i<(l.length:Int))/\(l.map row).getD i.toNat []=R x:=by
 unfold gi at h
 split at h
 . rename_i h0
   obtain⟨h1,h2⟩:=List.getElem?_eq_some_iff.1 h
   refine⟨h0,by omega,?_⟩
   rw [List.getD_eq_getElem?_getD,List.getElem?_map,h,<- hr];rfl
 . cases h
theorem Yk {s:ByteArray}{i:Int}{x:Int}(h:gb s i=some x):(0<=i)/\(i<(s.size:Int))/\((s.data.toList.getD i.toNat 0).toNat:Int)=x:=by
 unfold gb at h
 split at h
 . rename_i h0;exact⟨h0.1,h0.2,Ag h⟩
 . cases h
theorem Pw {α:Type}(row:α->List PV){n:Nat}(hn:∀ x,(row x).length=n)(l:List α):(l.map row).all (fun x=>x.length == n)=true:=by
 rw [List.all_eq_true]
 intro x hx
 obtain⟨y,_,rfl⟩:=List.mem_map.1 hx
 rw [hn];exact beq_self_eq_true n
theorem Xd {α:Type}{x y:List α}{l h:Int}(row:α->List PV){n:Nat}(hn:∀ x,(row x).length=n)(e:VY x l h=some y) :
 (decide (0<=l/\l<=h/\h<=(x.length:Int))&&(x.map row).all (fun x=>x.length == n))=true/\((x.map row).take h.toNat).drop l.toNat=y.map row:=by
 unfold VY at e
 split at e
 . rename_i h0
   obtain rfl:=Ag e
   refine⟨?_,by rw [List.map_drop,List.map_take]⟩
   rw [Bool.and_eq_true,decide_eq_true_eq];exact⟨h0,Pw row hn x⟩
 . cases e
theorem Ph {α:Type}{b:Nat}{x y z:List α}(row:α->List PV){n:Nat}(hn:∀ x,(row x).length=n)(e:C0 b x y=some z) :
 (decide ((x.length+y.length)*b<=140737488355328)&&((x.map row).all (fun x=>x.length == n)&&(y.map row).all (fun x=>x.length == n)))=true/\x.map row++y.map row=z.map row:=by
 unfold C0 at e
 split at e
 . rename_i h0
   obtain rfl:=Ag e
   refine⟨?_,List.map_append.symm⟩
   rw [Bool.and_eq_true,Bool.and_eq_true,decide_eq_true_eq];exact⟨h0,Pw row hn x,Pw row hn y⟩
 . cases e
theorem Xe {b e q:Int}(h:V2 b e=some q):(b != 0)=true/\e=q:=by
 unfold V2 at h
 split at h
 . rename_i h0;exact⟨by simpa using h0,Ag h⟩
 . cases h
theorem Xf {b e q:Int}(h:Xq b e=some q):(0<=b)/\e=q:=by
 unfold Xq at h
 split at h
 . rename_i h0;exact⟨h0,Ag h⟩
 . cases h
def OL:PV->PV
 |.sl xs _=>.sl xs .shared
 |p=>p
def shareP:PV->PV
 |.sl xs _=>.sl xs .shared
 |.tup cs=>.tup (cs.map OL)
 |p=>p
theorem UG {w:World}{U:Nat->Nat->Prop}{φ:List Nat}{p:PV}{v:Value}(h:V w U φ p v):V w U φ (OL p) v:=by
 unfold OL
 split
 . exact h.tag (by simp) (by simp)
 . exact h
theorem CV.shareP {w:World}{G:Gh}{p:PV}{e:Ending}(h:CV w G (.ret p) e):CV w G (.ret (shareP p)) e:=by
 obtain⟨v,he,hv,ht⟩:=h
 refine⟨v,he,?_,?_⟩
 . unfold Sp.shareP
   split
   . exact hv.tag (by simp) (by simp)
   . cases hv with
     |tup _ _ arr hn h =>
      refine .tup _ _ _ (by rw [List.length_map];exact hn) fun i hi=>?_
      rw [List.getElem_map]
      exact UG (h i (by rw [List.length_map] at hi;exact hi))
   . exact hv
 . unfold Sp.shareP
   split
   . trivial
   . intro i xs hi
     rw [List.getElem?_map] at hi
     rename_i cs
     cases e:cs[i]? with
     |none=>rw [e] at hi;cases hi
     |some q =>
      rw [e] at hi
      have hi:=Ag hi
      cases q<;>simp [OL] at hi
   . exact ht
def C1 (P:Program)(f:FuncId)(args:List PV)(r:PV):Prop:=∀ σ:List (List PV),VC P f args σ fun x σ'=>x=.ret r/\σ'=σ
theorem VC.fin {P:Program}{f:FuncId}{args:List PV}{R:PV}
 (h:∀ Q:BT->List (List PV)->Prop,(∀ y,shareP y=R->Q (.ret y) [])->VC P f args [] Q) (hp:EJ args=true) (hr:R.pure=true):C1 P f args R:=by
 intro σ
 refine VC.pure ((VC.less (h (fun x _=>∃ y,shareP y=R/\x=.ret y) fun y hy=>⟨y,hy,rfl⟩) (Q':=fun x _=>EO x=true/\x=.ret R) ?_)) hp
 rintro x σ' ⟨y,rfl,rfl⟩
 exact⟨.ret (shareP y),⟨hr,rfl⟩,fun w G e he=>CV.shareP he⟩
theorem VC.finOwn {P:Program}{f:FuncId}{args:List PV}{R:PV}
 (h:∀ Q:BT->List (List PV)->Prop,(∀ y,y=R->Q (.ret y) [])->VC P f args [] Q) (hp:EJ args=true) (hr:R.pure=true):C1 P f args R:=by
 intro σ
 refine VC.pure (h (fun x _=>EO x=true/\x=.ret R) ?_) hp
 rintro y rfl
 exact⟨hr,rfl⟩
inductive Ex (E S α:Type) where
 |ok (a:α) (s:S)
 |pan (e:E) (s:S)
abbrev I0 {E S α:Type}(r:Ex E S α)(A:α->S->Prop)(B:E->S->Prop):Prop :=
 match r with
 |.ok a s=>A a s
 |.pan e s=>B e s
def Cq (P:Program)(f:FuncId)(args:List PV)(cs:List PV)(x:BT)(cs':List PV):Prop:=VC P f (.ptr 0 0::args) [cs] fun y σ'=>y=x/\σ'=[cs']
theorem Cq.at {P:Program}{f:FuncId}{args cs cs':List PV}{x:BT}{σ:List (List PV)}{k:Nat}(h:Cq P f args cs x cs')(hc:σ[k]?=some cs)(h1:PV.fitsL 0 cs=true)(h2:EJ args=true)(h3:PV.fitsL 0 cs'=true)(h4:EO x=true) :
 VC P f (.ptr k 0::args) σ fun y σ'=>y=x/\σ'=σ.set k cs':=by
 refine (VC.at (Q:=fun y cs2=>y=x/\cs2=cs') hc h1 h2 (VC.mono h ?_)).mono ?_
 . rintro y σ' ⟨rfl,rfl⟩
   exact⟨cs',rfl,h3,h4,rfl,rfl⟩
 . rintro y σ' ⟨cs2,⟨rfl,rfl⟩,rfl⟩
   exact⟨rfl,rfl⟩
inductive Gx where
 |no
 |val (p:PV)
 |call (r:PV)
 |meth (r:PV) (cs:List PV)
 |mpan (c:List PanicEntry) (cs:List PV)
 |site (r:PV) (σ:List (List PV))
 |sitep (c:List PanicEntry) (σ:List (List PV))
 |look (v:Value) (b:Bool)
 |fcall (r:PV)
def okB:Bool->Option Unit
 |true=>some ()
 |false=>none
theorem Df {c:Bool}{x:Unit}(h:okB c=some x):c=true:=by
 cases c with
 |true=>rfl
 |false=>cases h
inductive Rn where
 |at_ (st:St)
 |pan (c:List PanicEntry) (st:St)
def Rn.holds (K:AX->St->Prop)(X:St->Prop):Rn->Prop
 |.at_ st=>X st
 |.pan c st=>K (.pan c) st
def JK (P:Program)(f:FuncId)(args:List PV)(σ:List (List PV))(x:BT)(σ1:List (List PV)):Prop:=VC P f args σ fun y σ'=>y=x/\σ'=σ1
def Ou (P:Program)(f:FuncId)(args:List PV)(σ:List (List PV))(x:BT)(cs':List PV):Option (Prop×List (List PV)) :=
 match args with
 |.ptr k 0::more=>match σ[k]? with
  |some cs=>match okB (PV.fitsL 0 cs&&(EJ more&&(PV.fitsL 0 cs'&&EO x))) with
   |some _=>some (Cq P f more cs x cs',σ.set k cs')
   |none=>none
  |none=>none
 |_=>none
theorem Iq {P:Program}{f:FuncId}{args:List PV}{σ:List (List PV)}{x:BT}{cs':List PV}{p:Prop}{σ1:List (List PV)}(h:Ou P f args σ x cs'=some (p,σ1))(hp:p) :
 VC P f args σ fun y σ'=>y=x/\σ'=σ1:=by
 unfold Ou at h
 split at h
 . split at h
   . rename_i cs hc
     split at h
     . rename_i e
       obtain⟨rfl,rfl⟩:=Prod.mk.inj (Ag h)
       have h1:=Df e
       simp only [Bool.and_eq_true] at h1
       exact Cq.at hp hc h1.1 h1.2.1 h1.2.2.1 h1.2.2.2
     . cases h
   . cases h
 . cases h
def Ox (d:TypeDesc)(kvs:List (Value×Value))(k:Value)(z:Option Value):Option (Value×Bool) :=
 match findK d k kvs 0 with
 |some (some (_,v))=>some (v,true)
 |some none=>z.map fun v=>(v,false)
 |none=>none
def XX (ok:Bool)(v:Value)(b:Bool):PV:=if ok then .tup [absC v,.lit (.bool b)] else absC v
def Sa (P:Program)(o:Oper)(st:St)(v:Value)(b:Bool):Option (Prop×St) :=
 match o.op,o.dst with
 |.lookup t m k ok,some d=>match SU P t,mapRd st m,opd st k with
  |some (dd,e),some kvs,.lit kv=>match okB (isKeyB dd kv) with
   |some _=>some (Ox dd kvs kv (T7 P e)=some (v,b),st.put (some d) (XX ok v b))
   |none=>none
  |_,_,_=>none
 |_,_=>none
theorem M9 {P:Program}{o:Oper}{st st1:St}{v:Value}{b:Bool}{p:Prop}(h:Sa P o st v b=some (p,st1))(hp:p):evOp P o st=some (true,st1)/\∀ ops M i,(rdOk M o st&&PN ops M i o st)=true:=by
 unfold Sa at h
 split at h
 . rename_i t m k ok d ho hd
   split at h
   . rename_i dd e kvs kv h1 h2 h3
     split at h
     . rename_i hk
       obtain⟨rfl,rfl⟩:=Prod.mk.inj (Ag h)
       have hk:=Df hk
       constructor
       . unfold evOp
         rw [if_pos (by unfold clsOf;rw [ho])]
         unfold evLoud
         rw [ho,hd]
         simp only
         unfold evLookup
         rw [h1,h2,h3]
         simp only
         unfold Ox at hp
         split at hp
         . rename_i i v' hf
           obtain⟨rfl,rfl⟩:=Prod.mk.inj (Ag hp)
           rw [hf]
           simp only [Option.map_some,hk]
           cases ok<;>rfl
         . rename_i hf
           rw [hf]
           cases hz:T7 P e with
           |none=>rw [hz] at hp;cases hp
           |some z =>
            rw [hz] at hp
            obtain⟨rfl,rfl⟩:=Prod.mk.inj (Ag hp)
            simp only [Option.map_some,hk]
            cases ok<;>rfl
         . cases hp
       . intro ops M i
         unfold rdOk PN
         rw [ho]
         rfl
     . cases h
   . cases h
 . cases h
def TF (P:Program)(ops:Array Oper)(st:St)(o:Oper)(q:Gx):Option (Option Prop×Rn) :=
 match evGuard ops st o with
 |some false=>match q with
  |.no=>some (none,.at_ (st.put o.dst (.lit (.tuple #[]))))
  |_=>none
 |some true=>match evOp P o st with
  |some (c,st')=>match q with
   |.no=>match okB c with
    |some _=>some (none,.at_ st')
    |none=>none
   |.val p=>match o.dst,st'.env with
    |some _,(d,p')::rest=>some (some (c=true/\p'=p),.at_ { st' with env:=(d,p)::rest })
    |_,_=>none
   |_=>none
  |none=>match evCall P o st with
   |some (f,args)=>match q with
    |.call r=>some (some (C1 P f args r),.at_ ((st.aft st.σ).put o.dst r))
    |.meth r cs'=>match Ou P f args st.σ (.ret r) cs' with
     |some (p,σ1)=>some (some p,.at_ ((st.aft σ1).put o.dst r))
     |none=>none
    |.mpan c cs'=>match Ou P f args st.σ (.pan c) cs' with
     |some (p,σ1)=>some (some p,.pan c { st with σ:=σ1 })
     |none=>none
    |.site r σ1=>some (some (JK P f args st.σ (.ret r) σ1),.at_ ((st.aft σ1).put o.dst r))
    |.sitep c σ1=>some (some (JK P f args st.σ (.pan c) σ1),.pan c { st with σ:=σ1 })
    |_=>none
   |none=>match evPan o st with
    |some v=>match q with
     |.no=>some (none,.pan [{ v,recovered:=false }] st)
     |_=>none
    |none=>none
 |none=>none
def QT:Option Prop->Prop->Prop
 |none,p=>p
 |some q,p=>q/\p
def Po (o:Oper)(st:St):Option (FuncId×List PV) :=
 match o.op with
 |.call c=>match c.callee with
  |.value x=>match opd st x with
   |.fno true f caps=>some (f,c.args.toList.map (fun x=>unown (opd st x))++caps)
   |_=>none
  |_=>none
 |_=>none
theorem Pn {P:Program}{o:Oper}{st:St}{f:FuncId}{args:List PV}(h:Po o st=some (f,args))(hf:BE P f=true):evCall P o st=some (f,args):=by
 unfold Po at h
 unfold evCall
 split at h
 . rename_i c hc
   rw [hc]
   simp only
   split at h
   . rename_i x hx
     rw [hx]
     simp only
     split at h
     . rename_i f' caps e
       obtain⟨rfl,rfl⟩:=Prod.mk.inj (Ag h)
       rw [e]
       simp only
       rw [if_pos hf]
     . cases h
   . cases h
 . cases h
def OK (P:Program)(ops:Array Oper)(st:St)(o:Oper)(q:Gx):Option (Option Prop×Rn) :=
 match q with
 |.look v b=>match evGuard ops st o with
  |some true=>match Sa P o st v b with
   |some (p,st1)=>some (some p,.at_ st1)
   |none=>none
  |_=>none
 |.fcall r=>match evGuard ops st o,evOp P o st,Po o st with
  |some true,none,some (f,args)=>some (some (BE P f=true/\C1 P f args r),.at_ ((st.aft st.σ).put o.dst r))
  |_,_,_=>none
 |q=>TF P ops st o q
def MF (P:Program)(ops:Array Oper):List Oper->List Gx->St->Option (Prop×Rn)
 | [],_,st=>some (True,.at_ st)
 |_::_,[],_=>none
 |o::l,q::qs,st=>match OK P ops st o q with
  |some (p,.at_ st1)=>match MF P ops l qs st1 with
   |some (p2,st2)=>some (QT p p2,st2)
   |none=>none
  |some (p,.pan c st1)=>some (QT p True,.pan c st1)
  |none=>none
theorem FE {p:Option Prop}{q:Prop}(h:QT p q):(∀ x,p=some x->x)/\q:=by
 cases p with
 |none=>exact⟨fun x e=>(by cases e),h⟩
 |some y=>exact⟨fun x e=>(by cases e;exact h.1),h.2⟩
theorem Rh {P:Program}{ops:Array Oper}{K:AX->St->Prop}{st:St}{s1:Rn}{o:Oper}{q:Gx}{p:Option Prop}{l:List Oper}
 (h:TF P ops st o q=some (p,s1)) (hp:∀ x,p=some x->x) (hk:s1.holds K (evOps P ops K l)):evOps P ops K (o::l) st:=by
 unfold TF at h
 unfold evOps
 split at h
 . rename_i e
   rw [e]
   split at h
   . obtain⟨_,rfl⟩:=Prod.mk.inj (Ag h);exact hk
   . cases h
 . rename_i e
   rw [e]
   simp only
   split at h
   . rename_i c st' e2
     rw [e2]
     simp only
     split at h
     . split at h
       . rename_i e3
         obtain⟨_,rfl⟩:=Prod.mk.inj (Ag h)
         exact⟨Df e3,hk⟩
       . cases h
     . split at h
       . rename_i d' d p' rest e3 e4
         obtain⟨rfl,rfl⟩:=Prod.mk.inj (Ag h)
         obtain⟨hc,rfl⟩:=hp _ rfl
         refine⟨hc,?_⟩
         have hk:evOps P ops K l { st' with env:=(d,p')::rest }:=hk
         rw [<- e4] at hk
         exact hk
       . cases h
     . cases h
   . rename_i e2
     rw [e2]
     simp only
     split at h
     . rename_i f args e3
       rw [e3]
       simp only
       split at h
       . obtain⟨rfl,rfl⟩:=Prod.mk.inj (Ag h)
         refine (hp _ rfl st.σ).mono ?_
         rintro x σ' ⟨rfl,rfl⟩
         exact hk
       . split at h
         . rename_i hm
           obtain⟨rfl,rfl⟩:=Prod.mk.inj (Ag h)
           refine (Iq hm (hp _ rfl)).mono ?_
           rintro x σ' ⟨rfl,rfl⟩
           exact hk
         . cases h
       . split at h
         . rename_i hm
           obtain⟨rfl,rfl⟩:=Prod.mk.inj (Ag h)
           refine (Iq hm (hp _ rfl)).mono ?_
           rintro x σ' ⟨rfl,rfl⟩
           exact hk
         . cases h
       . obtain⟨rfl,rfl⟩:=Prod.mk.inj (Ag h)
         refine VC.mono (hp _ rfl) ?_
         rintro x σ' ⟨rfl,rfl⟩
         exact hk
       . obtain⟨rfl,rfl⟩:=Prod.mk.inj (Ag h)
         refine VC.mono (hp _ rfl) ?_
         rintro x σ' ⟨rfl,rfl⟩
         exact hk
       . cases h
     . rename_i e3
       rw [e3]
       simp only
       split at h
       . rename_i v e4
         rw [e4]
         split at h
         . obtain⟨rfl,rfl⟩:=Prod.mk.inj (Ag h);exact hk
         . cases h
       . cases h
 . cases h
theorem Hf {P:Program}{ops:Array Oper}{K:AX->St->Prop}{st:St}{s1:Rn}{o:Oper}{q:Gx}{p:Option Prop}{l:List Oper}
 (h:OK P ops st o q=some (p,s1)) (hp:∀ x,p=some x->x) (hk:s1.holds K (evOps P ops K l)):evOps P ops K (o::l) st:=by
 unfold OK at h
 split at h
 . split at h
   . rename_i hg
     split at h
     . rename_i hl
       obtain⟨rfl,rfl⟩:=Prod.mk.inj (Ag h)
       have h1:=(M9 hl (hp _ rfl)).1
       unfold evOps
       rw [hg,h1]
       exact⟨rfl,hk⟩
     . cases h
   . cases h
 . split at h
   . rename_i f args h1 h2 h3
     obtain⟨rfl,rfl⟩:=Prod.mk.inj (Ag h)
     obtain⟨k1,k2⟩:=hp _ rfl
     unfold evOps
     rw [h1]
     simp only
     rw [h2]
     simp only
     rw [Pn h3 k1]
     refine (k2 st.σ).mono ?_
     rintro x σ' ⟨rfl,rfl⟩
     exact hk
   . cases h
 . exact Rh h hp hk
theorem EY {P:Program}{ops:Array Oper}{K:AX->St->Prop}:∀ {l:List Oper} {qs:List Gx} {st:St} {s1:Rn} {p:Prop},MF P ops l qs st=some (p,s1)->p->s1.holds K (K .normal)->evOps P ops K l st
 | [],_,st,st1,p,h,_,hk=>by
  obtain⟨_,rfl⟩:=Prod.mk.inj (Ag h)
  exact hk
 |_::_,[],_,_,_,h,_,_=>by cases h
 |o::l,q::qs,st,st1,p,h,hp,hk=>by
  unfold MF at h
  split at h
  . rename_i p1 st2 e
    split at h
    . rename_i p2 st3 e2
      obtain⟨rfl,rfl⟩:=Prod.mk.inj (Ag h)
      obtain⟨h1,h2⟩:=FE hp
      exact Hf e h1 (EY e2 h2 hk)
    . cases h
  . rename_i p1 c st2 e
    obtain⟨rfl,rfl⟩:=Prod.mk.inj (Ag h)
    obtain⟨h1,h2⟩:=FE hp
    exact Hf e h1 hk
  . cases h
def QA (M:List Nat)(c:Nat)(L:List Nat):Option (Prop×Rn)->Option (Prop×St)
 |some (p,.at_ st)=>some (p,low M c (clr L st))
 |_=>none
def YV:Option (Prop×Rn)->Option (Prop×(List PanicEntry×List (List PV)))
 |some (p,.pan c st)=>some (p,(c,st.σ))
 |_=>none
theorem JA {M:List Nat}{c:Nat}{L:List Nat}{x:Option (Prop×Rn)}{p:Prop}{S:St}(h:QA M c L x=some (p,S)):∃ st,x=some (p,.at_ st)/\low M c (clr L st)=S:=by
 unfold QA at h
 split at h
 . rename_i p' st
   obtain⟨rfl,rfl⟩:=Prod.mk.inj (Ag h)
   exact⟨st,rfl,rfl⟩
 . cases h
theorem Xk {P:Program}{L:Cf}{N:Nat}{k:List TI}{Q:AX->St->Prop}{st:St}{i:Nat}{ops:Array Oper}{d:Bool}(M:List Nat)(c:Nat)(qs:List Gx)(S:St){p:Prop}(hp:p)
 (he:QA M c L.L (MF P ops ops.toList qs st)=some (p,S)) (hn:CL L.pl i=none) (hk:Qk k=true) (hc:N<=c) (h:WS P L N k Q S):WS P L N (.code (.region i ops d)::k) Q st:=by
 obtain⟨st1,e,rfl⟩:=JA he
 refine Af hn ?_
 intro K' hK _
 exact EY e hp (hK _ _ rfl (J0 M c hk hc rfl h))
def TG (P:Program)(ops:Array Oper)(M:List Nat)(st:St)(i:Nat)(o:Oper)(q:Gx):Option (Option Prop×Rn) :=
 match evGuard ops st o with
 |some false=>match q with
  |.no=>some (none,.at_ (st.put o.dst (.lit (.tuple #[]))))
  |_=>none
 |some true=>match evOp P o st with
  |some (c,st')=>match okB (rdOk M o st&&PN ops M i o st) with
   |none=>none
   |some _=>match q with
    |.no=>match okB c with
     |some _=>some (none,.at_ st')
     |none=>none
    |.val p=>match o.dst,st'.env with
     |some _,(d,p')::rest=>some (some (c=true/\p'=p),.at_ { st' with env:=(d,p)::rest })
     |_,_=>none
    |_=>none
  |none=>match evCall P o st with
   |some (f,args)=>match BR ops (BJ ops) i with
    |true=>match q with
     |.call r=>match args with
      |.ptr _ _::_=>none
      |args=>match okB (EJ args) with
       |some _=>some (some (C1 P f args r),.at_ ((st.aftK (fun _=>true) (st.σ++[])).put o.dst (r.shift st.σ.length)))
       |none=>none
     |.meth r cs'=>match args with
      |.ptr k 0::more=>match okB (memN k M&&(PV.fitsL 0 (st.σ.getD k [])&&(EJ more&&(decide (k<st.σ.length)&&(PV.fitsL 0 cs'&&EO (.ret r)))))) with
       |some _=>some (some (Cq P f more (st.σ.getD k []) (.ret r) cs'),.at_ ((st.aftK (fun q=>q != k) (st.σ.set k cs')).put o.dst r))
       |none=>none
      |_=>none
     |.mpan c cs'=>match args with
      |.ptr k 0::more=>match okB (memN k M&&(PV.fitsL 0 (st.σ.getD k [])&&(EJ more&&(decide (k<st.σ.length)&&(PV.fitsL 0 cs'&&EO (.pan c)))))) with
       |some _=>some (some (Cq P f more (st.σ.getD k []) (.pan c) cs'),.pan c { st with σ:=st.σ.set k cs' })
       |none=>none
      |_=>none
     |_=>none
    |false=>match q with
     |.call r=>some (some (C1 P f args r),.at_ ((st.aft st.σ).put o.dst r))
     |.meth r cs'=>match Ou P f args st.σ (.ret r) cs' with
      |some (p,σ1)=>some (some p,.at_ ((st.aft σ1).put o.dst r))
      |none=>none
     |.mpan c cs'=>match Ou P f args st.σ (.pan c) cs' with
      |some (p,σ1)=>some (some p,.pan c { st with σ:=σ1 })
      |none=>none
     |.site r σ1=>some (some (JK P f args st.σ (.ret r) σ1),.at_ ((st.aft σ1).put o.dst r))
     |.sitep c σ1=>some (some (JK P f args st.σ (.pan c) σ1),.pan c { st with σ:=σ1 })
     |_=>none
   |none=>none
 |none=>none
def Li (P:Program)(ops:Array Oper)(M:List Nat)(st:St)(i:Nat)(o:Oper)(q:Gx):Option (Option Prop×Rn) :=
 match q with
 |.look v b=>match evGuard ops st o with
  |some true=>match Sa P o st v b with
   |some (p,st1)=>some (some p,.at_ st1)
   |none=>none
  |_=>none
 |q=>TG P ops M st i o q
def TJ (P:Program)(ops:Array Oper)(M:List Nat):List Nat->List Gx->St->Option (Prop×Rn)
 | [],_,st=>some (True,.at_ st)
 |_::_,[],_=>none
 |i::l,q::qs,st=>match ops[i]? with
  |some o=>match Li P ops M st i o q with
   |some (p,.at_ st1)=>match TJ P ops M l qs st1 with
    |some (p2,st2)=>some (QT p p2,st2)
    |none=>none
   |some (p,.pan c st1)=>some (QT p True,.pan c st1)
   |none=>none
  |none=>none
theorem Ri {P:Program}{ops:Array Oper}{M:List Nat}{K:AX->St->Prop}{st:St}{s1:Rn}{i:Nat}{o:Oper}{q:Gx}{p:Option Prop}{l:List Nat}(ho:ops[i]?=some o)
 (h:TG P ops M st i o q=some (p,s1)) (hp:∀ x,p=some x->x) (hk:s1.holds K (evOpsD P ops M K l)):evOpsD P ops M K (i::l) st:=by
 unfold TG at h
 unfold evOpsD
 rw [ho]
 simp only
 split at h
 . rename_i e
   rw [e]
   split at h
   . obtain⟨_,rfl⟩:=Prod.mk.inj (Ag h);exact hk
   . cases h
 . rename_i e
   rw [e]
   simp only
   split at h
   . rename_i c st' e2
     rw [e2]
     simp only
     split at h
     . cases h
     . rename_i er
       split at h
       . split at h
         . rename_i e3
           obtain⟨_,rfl⟩:=Prod.mk.inj (Ag h)
           exact⟨Df e3,Df er,hk⟩
         . cases h
       . split at h
         . rename_i d' d p' rest e3 e4
           obtain⟨rfl,rfl⟩:=Prod.mk.inj (Ag h)
           obtain⟨hc,rfl⟩:=hp _ rfl
           refine⟨hc,Df er,?_⟩
           have hk:evOpsD P ops M K l { st' with env:=(d,p')::rest }:=hk
           rw [<- e4] at hk
           exact hk
         . cases h
       . cases h
   . rename_i e2
     rw [e2]
     simp only
     split at h
     . rename_i f args e3
       rw [e3]
       simp only
       split at h
       . rename_i en
         rw [en]
         simp only [if_true]
         split at h
         . split at h
           . cases h
           . rename_i args' hne
             split at h
             . rename_i ep
               obtain⟨rfl,rfl⟩:=Prod.mk.inj (Ag h)
               split
               . exact absurd rfl (hne _ _ _)
               . refine⟨Df ep,(hp _ rfl []).mono ?_⟩
                 rintro x σ' ⟨rfl,rfl⟩
                 exact hk
             . cases h
         . split at h
           . split at h
             . rename_i ep
               obtain⟨rfl,rfl⟩:=Prod.mk.inj (Ag h)
               have h1:=Df ep
               simp only [Bool.and_eq_true,decide_eq_true_eq] at h1
               refine⟨h1.1,h1.2.1,h1.2.2.1,h1.2.2.2.1,VC.mono (hp _ rfl) ?_⟩
               rintro x σ' ⟨rfl,rfl⟩
               exact⟨_,rfl,h1.2.2.2.2.1,h1.2.2.2.2.2,hk⟩
             . cases h
           . cases h
         . split at h
           . split at h
             . rename_i ep
               obtain⟨rfl,rfl⟩:=Prod.mk.inj (Ag h)
               have h1:=Df ep
               simp only [Bool.and_eq_true,decide_eq_true_eq] at h1
               refine⟨h1.1,h1.2.1,h1.2.2.1,h1.2.2.2.1,VC.mono (hp _ rfl) ?_⟩
               rintro x σ' ⟨rfl,rfl⟩
               exact⟨_,rfl,h1.2.2.2.2.1,h1.2.2.2.2.2,hk⟩
             . cases h
           . cases h
         . cases h
       . rename_i en
         rw [en]
         simp only [Bool.false_eq_true,if_false]
         split at h
         . obtain⟨rfl,rfl⟩:=Prod.mk.inj (Ag h)
           refine (hp _ rfl st.σ).mono ?_
           rintro x σ' ⟨rfl,rfl⟩
           exact hk
         . split at h
           . rename_i hm
             obtain⟨rfl,rfl⟩:=Prod.mk.inj (Ag h)
             refine (Iq hm (hp _ rfl)).mono ?_
             rintro x σ' ⟨rfl,rfl⟩
             exact hk
           . cases h
         . split at h
           . rename_i hm
             obtain⟨rfl,rfl⟩:=Prod.mk.inj (Ag h)
             refine (Iq hm (hp _ rfl)).mono ?_
             rintro x σ' ⟨rfl,rfl⟩
             exact hk
           . cases h
         . obtain⟨rfl,rfl⟩:=Prod.mk.inj (Ag h)
           refine VC.mono (hp _ rfl) ?_
           rintro x σ' ⟨rfl,rfl⟩
           exact hk
         . obtain⟨rfl,rfl⟩:=Prod.mk.inj (Ag h)
           refine VC.mono (hp _ rfl) ?_
           rintro x σ' ⟨rfl,rfl⟩
           exact hk
         . cases h
     . cases h
 . cases h
theorem Em {P:Program}{ops:Array Oper}{M:List Nat}{K:AX->St->Prop}{st:St}{s1:Rn}{i:Nat}{o:Oper}{q:Gx}{p:Option Prop}{l:List Nat}(ho:ops[i]?=some o)
 (h:Li P ops M st i o q=some (p,s1)) (hp:∀ x,p=some x->x) (hk:s1.holds K (evOpsD P ops M K l)):evOpsD P ops M K (i::l) st:=by
 unfold Li at h
 split at h
 . split at h
   . rename_i hg
     split at h
     . rename_i hl
       obtain⟨rfl,rfl⟩:=Prod.mk.inj (Ag h)
       obtain⟨h1,h2⟩:=M9 hl (hp _ rfl)
       unfold evOpsD
       rw [ho]
       simp only
       rw [hg,h1]
       exact⟨rfl,h2 ops M _,hk⟩
     . cases h
   . cases h
 . exact Ri ho h hp hk
theorem J4 {P:Program}{ops:Array Oper}{M:List Nat}{K:AX->St->Prop}:∀ {l:List Nat} {qs:List Gx} {st:St} {s1:Rn} {p:Prop},TJ P ops M l qs st=some (p,s1)->p->s1.holds K (K .normal)->evOpsD P ops M K l st
 | [],_,st,st1,p,h,_,hk=>by
  obtain⟨_,rfl⟩:=Prod.mk.inj (Ag h)
  exact hk
 |_::_,[],_,_,_,h,_,_=>by cases h
 |i::l,q::qs,st,st1,p,h,hp,hk=>by
  unfold TJ at h
  split at h
  . rename_i o ho
    split at h
    . rename_i p1 st2 e
      split at h
      . rename_i p2 st3 e2
        obtain⟨rfl,rfl⟩:=Prod.mk.inj (Ag h)
        obtain⟨h1,h2⟩:=FE hp
        exact Em ho e h1 (J4 e2 h2 hk)
      . cases h
    . rename_i p1 c st2 e
      obtain⟨rfl,rfl⟩:=Prod.mk.inj (Ag h)
      obtain⟨h1,h2⟩:=FE hp
      exact Em ho e h1 hk
    . cases h
  . cases h
def SH (P:Program)(fn:Func)(N:Nat)(st:St):Option (PV×List (List PV)) :=
 match evRets P fn.results.toList st with
 |some (c,ps,st')=>match okB c with
  |some _=>some (mkRet ps,trunc N (mkRet ps) st'.σ)
  |none=>none
 |none=>none
theorem Lm {P:Program}{fn:Func}{N:Nat}{st:St}{Q:BT->List (List PV)->Prop}{r:PV}{σ:List (List PV)}(h:SH P fn N st=some (r,σ))(hq:Q (.ret r) σ):retK P fn N Q .ret st/\retK P fn N Q .normal st:=by
 unfold SH at h
 unfold retK
 simp only
 split at h
 . rename_i c ps st' e
   rw [e]
   split at h
   . rename_i e3
     obtain⟨rfl,rfl⟩:=Prod.mk.inj (Ag h)
     have hc:c=true:=Df e3
     exact⟨⟨hc,hq⟩,hc,hq⟩
   . cases h
 . cases h
def TH:Option (PV×List (List PV))->Option (PV×List (List PV))
 |some (p,σ)=>some (shareP p,σ)
 |none=>none
theorem FW {P:Program}{fn:Func}{N:Nat}{st:St}{Q:BT->List (List PV)->Prop}{R:PV}{σ:List (List PV)}(hQ:∀ y,shareP y=R->Q (.ret y) σ)(h:TH (SH P fn N st)=some (R,σ)):retK P fn N Q .ret st/\retK P fn N Q .normal st:=by
 cases e:SH P fn N st with
 |none=>rw [e] at h;cases h
 |some x =>
  obtain⟨p,σ1⟩:=x
  rw [e] at h
  obtain⟨rfl,rfl⟩:=Prod.mk.inj (Ag h)
  exact Lm e (hQ p rfl)
theorem PW {P:Program}{fn:Func}{N:Nat}{st:St}{Q:BT->List (List PV)->Prop}{R:PV}{σ:List (List PV)}(hQ:∀ y,y=R->Q (.ret y) σ)(h:SH P fn N st=some (R,σ)):retK P fn N Q .ret st/\retK P fn N Q .normal st:=Lm h (hQ R rfl)
theorem oi {α:Type}{l:List α}{row:α->List PV}{n:Nat}{i:Int}{x:α}{R:List PV}(h:gi l i=some x)(hn:∀ x,(row x).length=n)(hr:row x=R) :
 decide (0<=i/\i<((l.map row).length:Int)/\((l.map row).getD i.toNat []).length=n)=true/\PV.vptr ((l.map row).getD i.toNat []) 0=.vptr R 0:=by
 obtain⟨h1,h2,h3⟩:=Yj l row (R:=row) (fun _=>rfl) h
 rw [h3,hr,List.length_map,decide_eq_true_eq]
 exact⟨⟨h1,h2,by rw [<- hr,hn]⟩,rfl⟩
theorem ob {s:ByteArray}{i x:Int}(h:gb s i=some x):decide (0<=i/\i<(s.size:Int))=true/\PV.lit (.int .u8 ((s.data.toList.getD i.toNat 0).toNat:Int))=.lit (.int .u8 x):=by
 obtain⟨h1,h2,h3⟩:=Yk h
 rw [h3,decide_eq_true_eq];exact⟨⟨h1,h2⟩,rfl⟩
theorem YJ {α:Type}{x y:List α}{l h:Int}{row:α->List PV}{n:Nat}(e:VY x l h=some y)(hn:∀ x,(row x).length=n) :
 (decide (0<=l/\l<=h/\h<=((x.map row).length:Int))&&(x.map row).all (fun x=>x.length == n))=true/\PV.sl (((x.map row).take h.toNat).drop l.toNat) .shared=.sl (y.map row) .shared:=by
 obtain⟨h1,h2⟩:=Xd row hn e
 rw [h2,List.length_map];exact⟨h1,rfl⟩
theorem Ud {α:Type}{b:Nat}{x y z:List α}{row:α->List PV}{n:Nat}(e:C0 b x y=some z)(hn:∀ x,(row x).length=n) :
 (decide (((x.map row).length+(y.map row).length)*b<=140737488355328)&&((x.map row).all (fun x=>x.length == n)&&((y.map row).all (fun x=>x.length == n)&&(!false||!(y.map row).isEmpty))))=true/\PV.sl (x.map row++y.map row) .own=.sl (z.map row) .own:=by
 obtain⟨h1,h2⟩:=Ph row hn e
 rw [h2,List.length_map,List.length_map]
 refine⟨?_,rfl⟩
 rw [Bool.not_false,Bool.true_or,Bool.and_true];exact h1
theorem XR {α:Type}{b:Nat}{x y z:List α}{row:α->List PV}{n:Nat}(e:C0 b x y=some z)(hn:∀ x,(row x).length=n)(hy:y≠[]) :
 (decide (((x.map row).length+(y.map row).length)*b<=140737488355328)&&((x.map row).all (fun x=>x.length == n)&&((y.map row).all (fun x=>x.length == n)&&(!true||true))))=true/\PV.sl (x.map row++y.map row) (if (y.map row).isEmpty=true then .full else .own)=.sl (z.map row) .own:=by
 obtain⟨h1,h2⟩:=Ph row hn e
 rw [h2,List.length_map,List.length_map,if_neg (by simpa using hy)]
 refine⟨?_,rfl⟩
 rw [Bool.or_true,Bool.and_true];exact h1
theorem YX {k:IntKind}{b e q:Int}(h:V2 b e=some q):(b != 0)=true/\PV.lit (.int k e)=.lit (.int k q):=by
 obtain⟨h1,h2⟩:=Xe h
 rw [h2];exact⟨h1,rfl⟩
theorem YY {k:IntKind}{b e q:Int}(h:Xq b e=some q):decide (0<=b)=true/\PV.lit (.int k e)=.lit (.int k q):=by
 obtain⟨h1,h2⟩:=Xf h
 rw [h2,decide_eq_true_eq];exact⟨h1,rfl⟩
theorem LM {e b:Bool}(h:e=b):true=true/\PV.lit (.bool e)=.lit (.bool b):=⟨rfl,by rw [h]⟩
theorem Cy {xs ys:List (List PV)}{c:Bool}(hc:c=true)(h:xs=ys):c=true/\PV.sl xs .own=.sl ys .own:=⟨hc,by rw [h]⟩
theorem SQ {α:Type}(l:List α)(row:α->List PV):true=true/\PV.lit (.int .i64 ((l.map row).length:Int))=.lit (.int .i64 (l.length:Int)):=⟨rfl,by rw [List.length_map]⟩
theorem Y0 {α:Type}{x y:List α}{l:Int}{row:α->List PV}{n:Nat}(e:VY x l (x.length:Int)=some y)(hn:∀ x,(row x).length=n) :
 (decide (0<=l/\l<=((x.map row).length:Int)/\((x.map row).length:Int)<=((x.map row).length:Int))&&(x.map row).all (fun x=>x.length == n))=true/\PV.sl (((x.map row).take ((x.map row).length:Int).toNat).drop l.toNat) .shared=.sl (y.map row) .shared:=by
 have h:=YJ (row:=row) e hn
 rw [List.length_map] at h ⊢
 exact h
theorem Cq.fin {P:Program}{f:FuncId}{args cs cs':List PV}{R:PV}(h:∀ Q:BT->List (List PV)->Prop,(∀ y,shareP y=R->Q (.ret y) [cs'])->VC P f (.ptr 0 0::args) [cs] Q):Cq P f args cs (.ret R) cs':=by
 refine VC.less (h (fun x σ'=>∃ y,shareP y=R/\x=.ret y/\σ'=[cs']) fun y hy=>⟨y,hy,rfl,rfl⟩) ?_
 rintro x σ' ⟨y,rfl,rfl,rfl⟩
 exact⟨.ret (shareP y),⟨rfl,rfl⟩,fun w G e he=>CV.shareP he⟩
theorem Cq.finP {P:Program}{f:FuncId}{args cs cs':List PV}{c:List PanicEntry}(h:∀ Q:BT->List (List PV)->Prop,Q (.pan c) [cs']->VC P f (.ptr 0 0::args) [cs] Q):Cq P f args cs (.pan c) cs':=h _ ⟨rfl,rfl⟩
theorem JK.fin {P:Program}{f:FuncId}{args:List PV}{σ σ1:List (List PV)}{R:PV}(h:∀ Q:BT->List (List PV)->Prop,(∀ y,shareP y=R->Q (.ret y) σ1)->VC P f args σ Q):JK P f args σ (.ret R) σ1:=by
 refine VC.less (h (fun x σ'=>∃ y,shareP y=R/\x=.ret y/\σ'=σ1) fun y hy=>⟨y,hy,rfl,rfl⟩) ?_
 rintro x σ' ⟨y,rfl,rfl,rfl⟩
 exact⟨.ret (shareP y),⟨rfl,rfl⟩,fun w G e he=>CV.shareP he⟩
def Jq (l:List (Int×Int))(k:Int):Int×Bool :=
 match l with
 | []=>(0,false)
 |(a,v)::r=>if k == a then (v,true) else Jq r k
def Yu (l:List (Int×Int)):List (Value×Value):=l.map fun x=>(.int .i64 x.1,.int .i64 x.2)
theorem Su (k:Int):∀ (l:List (Int×Int)) (i:Nat),match findK (.int .i64) (.int .i64 k) (Yu l) i with|some (some (_,v))=>Jq l k=((match v with|.int _ n=>n|_=>0),true)/\v=.int .i64 (Jq l k).1|some none=>Jq l k=(0,false)|none=>False
 | [],i=>by simp [Yu,findK,Jq]
 |(a,v)::r,i=>by
  have ih:=Su k r (i+1)
  show match findK (.int .i64) (.int .i64 k) ((.int .i64 a,.int .i64 v)::Yu r) i with|some (some (_,v))=>_|some none=>_|none=>_
  unfold findK Jq
  have e:Instr.sameNow (.int .i64) (.int .i64 k) (.int .i64 a)=some (k == a):=rfl
  simp only [e]
  cases hk:(k == a) with
  |true=>simp
  |false=>simpa using ih
theorem XF (l:List (Int×Int))(k:Int):Ox (.int .i64) (Yu l) (.int .i64 k) (some (.int .i64 0))=some (.int .i64 (Jq l k).1,(Jq l k).2):=by
 unfold Ox
 have h:=Su k l 0
 split
 . rename_i e;rw [e] at h;rw [h.2];simp [h.1]
 . rename_i e;rw [e] at h;simp only at h;rw [h];rfl
 . rename_i e;rw [e] at h;exact h.elim
def Cd (l:List (ByteArray×Int))(k:ByteArray):Int×Bool :=
 match l with
 | []=>(0,false)
 |(a,v)::r=>if k=a then (v,true) else Cd r k
def KI (l:List (ByteArray×Int)):List (Value×Value):=l.map fun x=>(.string x.1,.int .i64 x.2)
abbrev iP (x:Int):PV:=.lit (.int .i64 x)
abbrev uP (x:Int):PV:=.lit (.int .u8 x)
abbrev bP (x:Bool):PV:=.lit (.bool x)
abbrev tP (x:ByteArray):PV:=.lit (.string x)
abbrev hP {α:Type}(l:List α)(row:α->List PV):PV:=.sl (l.map row) .shared
abbrev oP {α:Type}(l:List α)(row:α->List PV):PV:=.sl (l.map row) .own
section
variable {P:Program} {L:Cf} {N:Nat} {k k':List TI} {Q:AX->St->Prop} {st:St} {a b:Code} {id:Nat}
theorem z1 (h:WS P L N (.code a::.code b::k) Q st):WS P L N (.code (.seq a b)::k) Q st:=Ax h
theorem z2 (h:WS P L N k Q st):WS P L N (.blk id::k) Q st:=h
theorem z3 (h:WS P L N k Q st):WS P L N (.code .skip::k) Q st:=Ap h
theorem z4 {l:Nat}(h:WS P L N k Q st):WS P L N (.code (.label l)::k) Q st:=An h
end
theorem wr {P:Program}{L:Cf}{N:Nat}{k:List TI}{Q:AX->St->Prop}{st:St}{i:Nat}{ops:Array Oper}{d:Bool}(M:List Nat)(c:Nat)(qs:List Gx)(S:St){p:Prop}(hp:p)
 (he:(QA M c L.L (MF P ops ops.toList qs st),CL L.pl i,Qk k,Nat.ble N c)=(some (p,S),none,true,true)) (h:WS P L N k Q S):WS P L N (.code (.region i ops d)::k) Q st:=by
 obtain⟨h1,h2⟩:=Prod.mk.inj he
 obtain⟨h2,h3⟩:=Prod.mk.inj h2
 obtain⟨h3,h4⟩:=Prod.mk.inj h3
 exact Xk M c qs S hp h1 h2 h3 (Nat.le_of_ble_eq_true h4) h
def Dt:Nat->List Gx->List Gx
 |0,l=>l
 |n+1,l=>.no::Dt n l
def Ut (P:Program)(oi oj ok ol:Oper)(ys:List (List PV))(st:St):Option (Prop×St) :=
 match oi.op,oi.dst,oj.op,oj.dst,ok.op,ok.dst,ol.op,ol.dst with
 |.call c,some d1,.indexAddr T (.tmp e1) ix,some d2,.store T3 (.tmp e2) z,none,.store T4 xl (.tmp e3),none =>
  match c.callee,c.args.toList,c.argTypes.toList with
  |.builtin .append,[x,y],[t,t'] =>
   match T6 P t,evAppBase st x with
   |some (sz,bytes),some (xs,_,st1) =>
    match evAppSrc P t' sz st y,opd st ix,Sb P T with
    |some [zr],.lit (.int _ n),some (sz2,_) =>
     match evStore P T4 ((st1.put (some d1) (.sl ys .own)).put (some d2) .undef) xl (.tmp d1) with
     |some (c,st3)=>match okB (c&&(decide (e1=d1/\e2=d2/\e3=d1/\d1≠d2/\sz2=sz/\JN P T3=some sz/\zr.length=sz)&&((Ml ix d1&&(Ml z d1&&(Ml z d2&&(Ml xl d1&&Ml xl d2))))&&okRow sz (opd st z)))) with
      |some _=>some (n=(xs.length:Int)/\decide ((xs.length+1)*(bytes+1)<=140737488355328)=true/\xs.all (fun x=>x.length == sz)=true/\xs++[rowOf (opd st z)]=ys,st3)
      |none=>none
     |none=>none
    |_,_,_=>none
   |_,_=>none
  |_,_,_=>none
 |_,_,_,_,_,_,_,_=>none
theorem RA {P:Program}{oi oj ok ol:Oper}{ys:List (List PV)}{st st3:St}{p:Prop}(h:Ut P oi oj ok ol ys st=some (p,st3))(hp:p):four P oi oj ok ol st=some (true,st3):=by
 unfold Ut at h
 unfold four
 split at h
 . split at h
   . split at h
     . split at h
       . split at h
         . rename_i c2 st4 hst
           split at h
           . rename_i hk
             obtain⟨rfl,rfl⟩:=Prod.mk.inj (Ag h)
             obtain⟨h1,h2,h3,rfl⟩:=hp
             have hk:=Df hk
             simp only [Bool.and_eq_true] at hk
             simp only [*,Bool.and_true,decide_true]
           . cases h
         . cases h
       . cases h
     . cases h
   . cases h
 . cases h
def Us (P:Program)(ops:Array Oper)(t:List Nat)(ys:List (List PV))(st:St):Option (Prop×St) :=
 match t with
 | [i,j,k,l]=>match ops[i]?,ops[j]?,ops[k]?,ops[l]? with
  |some oi,some oj,some ok,some ol=>match okB (FO oi&&(FO oj&&(FO ok&&FO ol))) with
   |some _=>Ut P oi oj ok ol ys st
   |none=>none
  |_,_,_,_=>none
 |_=>none
theorem R9 {P:Program}{ops:Array Oper}{K:AX->St->Prop}{t:List Nat}{ys:List (List PV)}{st st3:St}{p:Prop}(h:Us P ops t ys st=some (p,st3))(hp:p)(hk:K .normal st3):Jw P ops K t st:=by
 unfold Us at h
 unfold Jw
 split at h
 . split at h
   . split at h
     . rename_i hg
       have hg:=Df hg
       have h5:=RA h hp
       simp only [*,Bool.and_true]
       exact⟨trivial,trivial⟩
     . cases h
   . cases h
 . cases h
def Ve (P:Program)(ops:Array Oper)(M pre:List Nat)(qs:List Gx)(t:List Nat)(ys:List (List PV))(st:St):Option (Prop×Rn) :=
 match TJ P ops M pre qs st with
 |some (p,.at_ st1)=>match Us P ops t ys st1 with
  |some (p2,st2)=>some (p/\p2,.at_ st2)
  |none=>none
 |some (p,.pan c st1)=>some (p,.pan c st1)
 |none=>none
theorem Of {P:Program}{ops:Array Oper}{M pre:List Nat}{K:AX->St->Prop}{qs:List Gx}{t:List Nat}{ys:List (List PV)}{st:St}{s1:Rn}{p:Prop}(h:Ve P ops M pre qs t ys st=some (p,s1))(hp:p)(hk:s1.holds K (K .normal)):evOpsD P ops M (DN P ops K t) pre st:=by
 unfold Ve at h
 split at h
 . rename_i p1 st1 e
   split at h
   . rename_i p2 st2 e2
     obtain⟨rfl,rfl⟩:=Prod.mk.inj (Ag h)
     exact J4 e hp.1 (R9 e2 hp.2 hk)
   . cases h
 . rename_i p1 c st1 e
   obtain⟨rfl,rfl⟩:=Prod.mk.inj (Ag h)
   exact J4 e hp hk
 . cases h
def SE (P:Program)(ops:Array Oper)(M pre:List Nat)(qs:List Gx)(x y:Nat)(qx qy:Gx)(t:List Nat)(ys:List (List PV))(st:St):Option (Prop×Rn×Rn) :=
 match TJ P ops M pre qs st with
 |some (p,.at_ st1)=>match Ve P ops M [x,y] [qx,qy] t ys st1,Ve P ops M [y,x] [qy,qx] t ys st1 with
  |some (p1,s1),some (p2,s2)=>some (p/\p1/\p2,s1,s2)
  |_,_=>none
 |_=>none
theorem Oe {P:Program}{ops:Array Oper}{M pre:List Nat}{K:AX->St->Prop}{qs:List Gx}{x y:Nat}{qx qy:Gx}{t:List Nat}{ys:List (List PV)}{st:St}{s1 s2:Rn}{p:Prop}(h:SE P ops M pre qs x y qx qy t ys st=some (p,s1,s2))(hp:p)(hk1:s1.holds K (K .normal))(hk2:s2.holds K (K .normal)) :
 evOpsD P ops M (Ii P ops M (DN P ops K t) [x,y]) pre st:=by
 unfold SE at h
 split at h
 . rename_i p0 st1 e
   split at h
   . rename_i p1 s1' p2 s2' e1 e2
     simp only [Option.some.injEq,Prod.mk.injEq] at h
     obtain⟨rfl,rfl,rfl⟩:=h
     exact J4 e hp.1 ⟨Of e1 hp.2.1 hk1,Of e2 hp.2.2 hk2⟩
   . cases h
 . cases h
def V7 (M:List Nat)(c:Nat)(L:List Nat):Option (Prop×Rn×Rn)->Option (Prop×St×St)
 |some (p,.at_ s1,.at_ s2)=>some (p,low M c (clr L s1),low M c (clr L s2))
 |_=>none
theorem Te {M:List Nat}{c:Nat}{L:List Nat}{x:Option (Prop×Rn×Rn)}{p:Prop}{S1 S2:St}(h:V7 M c L x=some (p,S1,S2)):∃ s1 s2,x=some (p,.at_ s1,.at_ s2)/\low M c (clr L s1)=S1/\low M c (clr L s2)=S2:=by
 unfold V7 at h
 split at h
 . rename_i p' s1 s2
   simp only [Option.some.injEq,Prod.mk.injEq] at h
   obtain⟨rfl,rfl,rfl⟩:=h
   exact⟨s1,s2,rfl,rfl,rfl⟩
 . cases h
theorem YO {P:Program}{L:Cf}{N:Nat}{k:List TI}{Q:AX->St->Prop}{st:St}{i:Nat}{ops:Array Oper}{d:Bool}(PM t:List Nat)(x y i1 i2 i3 i4:Nat)(M:List Nat)(c:Nat)(qs:List Gx)(qx qy:Gx)(ys:List (List PV))(S:St){p:Prop}(hp:p)
 (he:(V7 M c L.L (SE P ops PM t qs x y qx qy [i1,i2,i3,i4] ys st),CL L.pl i,Qk k,Nat.ble N c)=(some (p,S,S),some (9997::PM.length::(PM++(t++[x,y,i1,i2,i3,i4]))),true,true)) (h:WS P L N k Q S):WS P L N (.code (.region i ops d)::k) Q st:=by
 obtain⟨h1,h2⟩:=Prod.mk.inj he
 obtain⟨h2,h3⟩:=Prod.mk.inj h2
 obtain⟨h3,h4⟩:=Prod.mk.inj h3
 obtain⟨s1,s2,e,e1,e2⟩:=Te h1
 refine QX PM t x y i1 i2 i3 i4 h2 ?_
 intro K' hK _
 exact Oe e hp (hK _ _ rfl (J0 M c h3 (Nat.le_of_ble_eq_true h4) e1 h)) (hK _ _ rfl (J0 M c h3 (Nat.le_of_ble_eq_true h4) e2 h))
theorem Yw {P:Program}{L:Cf}{N:Nat}{k:List TI}{fn:Func}{Q:BT->List (List PV)->Prop}{st:St}{i:Nat}{ops:Array Oper}{d:Bool}(PM t:List Nat)(x y i1 i2 i3 i4:Nat)(qs:List Gx)(qx qy:Gx){c:List PanicEntry}{σ:List (List PV)}{p:Prop}(hp:p)
 (he:(match SE P ops PM t qs x y qx qy [i1,i2,i3,i4] [] st with|some (p,.pan c1 s1,.pan c2 s2)=>some (p,(c1,trunc N .undef s1.σ),(c2,trunc N .undef s2.σ))|_=>none)=some (p,(c,σ),(c,σ))) (hn:CL L.pl i=some (9997::PM.length::(PM++(t++[x,y,i1,i2,i3,i4])))) (h:Q (.pan c) σ) :
 WS P L N (.code (.region i ops d)::k) (retK P fn N Q) st:=by
 split at he
 . rename_i p' c1 s1 c2 s2 e
   simp only [Option.some.injEq,Prod.mk.injEq] at he
   obtain⟨rfl,⟨rfl,h1⟩,⟨rfl,h2⟩⟩:=he
   refine QX PM t x y i1 i2 i3 i4 hn ?_
   intro K' _ hP
   refine Oe e hp (hP _ _ ?_) (hP _ _ ?_)
   . show Q (.pan _) (trunc N .undef s1.σ);rw [h1];exact h
   . show Q (.pan _) (trunc N .undef s2.σ);rw [h2];exact h
 . cases he
theorem VV {α:Type}{b:Nat}{x z:List α}{f:α}{row:α->List PV}{n:Nat}{R:List PV}(e:C0 b x [f]=some z)(hn:∀ x,(row x).length=n)(hr:row f=R) :
 (x.length:Int)=((x.map row).length:Int)/\decide (((x.map row).length+1)*b<=140737488355328)=true/\(x.map row).all (fun x=>x.length == n)=true/\x.map row++[R]=z.map row:=by
 obtain⟨h1,h2⟩:=Ph row hn e
 rw [Bool.and_eq_true,Bool.and_eq_true] at h1
 refine⟨by rw [List.length_map],?_,h1.2.1,?_⟩
 . rw [List.length_map];exact h1.1
 . rw [<- h2,<- hr];rfl
def Qq:Nat->List TI->List TI
 |0,k=>k
 |n+1,.code (.seq a b)::k=>Qq n (.code a::.code b::k)
 |n+1,.code .skip::k=>Qq n k
 |n+1,.code (.label _)::k=>Qq n k
 |n+1,.blk _::k=>Qq n k
 |_+1,k=>k
theorem zp {P:Program}{L:Cf}{N:Nat}{Q:AX->St->Prop}{st:St}:∀ {n:Nat} {k:List TI},WS P L N (Qq n k) Q st->WS P L N k Q st
 |0,_,h=>h
 |n+1,k,h=>by
  unfold Qq at h
  split at h
  . rename_i e;cases e
  . exact z1 (zp h)
  . exact z3 (zp h)
  . exact z4 (zp h)
  . exact z2 (zp h)
  . exact h
theorem aI {a b:Prop}(h:a)(k:b):a/\b:=⟨h,k⟩
theorem tI:True:=trivial
abbrev yT:Gx:=.val (.lit (.bool true))
abbrev yF:Gx:=.val (.lit (.bool false))
end Go.Sp
