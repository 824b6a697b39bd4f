/-
  Partial operations on plain values, and the words with which lifted functions are walked. No program.
-/
import Derived.Test.YtkcfmlfkfagejaaGreatDoorU4
set_option linter.unusedVariables false
set_option linter.unusedSimpArgs false
namespace Go.Sp
open Go Go.RowKit Go.Q Go.Vl
def gi {α:Type}(l:List α)(i:Int):Option α:=if 0<=i then l[i.toNat]? else none
def gb (s:ByteArray)(i:Int):Option Int:=if 0<=i/\i<(s.size:Int) then some ((s.data.toList.getD i.toNat 0).toNat:Int) else none
def Uc {α:Type}(x:List α)(l h:Int):Option (List α):=if 0<=l/\l<=h/\h<=(x.length:Int) then some ((x.take h.toNat).drop l.toNat) else none
def Cp {α:Type}(b:Nat)(x y:List α):Option (List α):=if (x.length+y.length)*b<=140737488355328 then some (x++y) else none
def XT (b e:Int):Option Int:=if 0<=b then some e else none
theorem Ad {α β:Type}{x:Option α}{f:α->Option β}{r:β}(h:x.bind f=some r):∃ a,x=some a/\f a=some r:=by
 cases x with
 |none=>cases h
 |some a=>exact⟨a,rfl,h⟩
theorem Ai {α:Type}{c:Bool}{a b:Option α}{r:α}(h:(bif c then a else b)=some r):(c=true/\a=some r)∨(c=false/\b=some r):=by
 cases c with
 |true=>exact .inl ⟨rfl,h⟩
 |false=>exact .inr ⟨rfl,h⟩
theorem test {e b:Bool}(h:e=b):PV.lit (.bool e)=PV.lit (.bool b):=by rw [h]
theorem Abm {α:Type}(l:List α)(row:α->List PV){R:α->List PV}(hr:∀ x,row x=R x){i:Int}{x:α}(h:gi l i=some x) :
 (0<=i)/\(i<(l.length:Int))/\(l.map row).getD i.toNat []=R x:=by
 unfold gi at h
 split at h
 . rename_i h0
   obtain⟨h1,h2⟩:=List.getElem?_eq_some_iff.1 h
   refine⟨h0,by omega,?_⟩
   rw [List.getD_eq_getElem?_getD,List.getElem?_map,h,<- hr];rfl
 . cases h
theorem Abo {s:ByteArray}{i:Int}{x:Int}(h:gb s i=some x):(0<=i)/\(i<(s.size:Int))/\((s.data.toList.getD i.toNat 0).toNat:Int)=x:=by
 unfold gb at h
 split at h
 . rename_i h0;exact⟨h0.1,h0.2,Aa h⟩
 . cases h
theorem QB {α:Type}(row:α->List PV){n:Nat}(hn:∀ x,(row x).length=n)(l:List α):(l.map row).all (fun x=>x.length == n)=true:=by
 rw [List.all_eq_true]
 intro x hx
 obtain⟨y,_,rfl⟩:=List.mem_map.1 hx
 rw [hn];exact beq_self_eq_true n
theorem Z9 {α:Type}{x y:List α}{l h:Int}(row:α->List PV){n:Nat}(hn:∀ x,(row x).length=n)(e:Uc x l h=some y) :
 (decide (0<=l/\l<=h/\h<=(x.length:Int))&&(x.map row).all (fun x=>x.length == n))=true/\((x.map row).take h.toNat).drop l.toNat=y.map row:=by
 unfold Uc at e
 split at e
 . rename_i h0
   obtain rfl:=Aa e
   refine⟨?_,by rw [List.map_drop,List.map_take]⟩
   rw [Bool.and_eq_true,decide_eq_true_eq];exact⟨h0,QB row hn x⟩
 . cases e
theorem Qv {α:Type}{b:Nat}{x y z:List α}(row:α->List PV){n:Nat}(hn:∀ x,(row x).length=n)(e:Cp b x y=some z) :
 (decide ((x.length+y.length)*b<=140737488355328)&&((x.map row).all (fun x=>x.length == n)&&(y.map row).all (fun x=>x.length == n)))=true/\x.map row++y.map row=z.map row:=by
 unfold Cp at e
 split at e
 . rename_i h0
   obtain rfl:=Aa e
   refine⟨?_,List.map_append.symm⟩
   rw [Bool.and_eq_true,Bool.and_eq_true,decide_eq_true_eq];exact⟨h0,QB row hn x,QB row hn y⟩
 . cases e
theorem ZA {b e q:Int}(h:XT b e=some q):(0<=b)/\e=q:=by
 unfold XT at h
 split at h
 . rename_i h0;exact⟨h0,Aa h⟩
 . cases h
def Qb:PV->PV
 |.sl xs _=>.sl xs .shared
 |p=>p
def shareP:PV->PV
 |.sl xs _=>.sl xs .shared
 |.tup cs=>.tup (cs.map Qb)
 |p=>p
theorem WQ {w:World}{U:Nat->Nat->Prop}{φ:List Nat}{p:PV}{v:Value}(h:V w U φ p v):V w U φ (Qb p) v:=by
 unfold Qb
 split
 . exact h.tag (by simp) (by simp)
 . exact h
theorem D0.shareP {w:World}{G:Gh}{p:PV}{e:Ending}(h:D0 w G (.ret p) e):D0 w G (.ret (shareP p)) e:=by
 obtain⟨v,he,hv,ht⟩:=h
 refine⟨v,he,?_,?_⟩
 . unfold Sp.shareP
   split
   . exact hv.tag (by simp) (by simp)
   . cases hv with
     |tup _ _ arr hn h =>
      refine .tup _ _ _ (by rw [List.length_map];exact hn) fun i hi=>?_
      rw [List.getElem_map]
      exact WQ (h i (by rw [List.length_map] at hi;exact hi))
   . exact hv
 . unfold Sp.shareP
   split
   . trivial
   . intro i xs hi
     rw [List.getElem?_map] at hi
     rename_i cs
     cases e:cs[i]? with
     |none=>rw [e] at hi;cases hi
     |some q =>
      rw [e] at hi
      have hi:=Aa hi
      cases q<;>simp [Qb] at hi
   . exact ht
def Dr (P:Program)(f:FuncId)(args:List PV)(r:PV):Prop:=∀ σ:List (List PV),VC P f args σ fun x σ'=>x=.ret r/\σ'=σ
theorem VC.fin {P:Program}{f:FuncId}{args:List PV}{R:PV}
 (h:∀ Q:C6->List (List PV)->Prop,(∀ y,shareP y=R->Q (.ret y) [])->VC P f args [] Q) (hp:F4 args=true) (hr:R.pure=true):Dr P f args R:=by
 intro σ
 refine VC.pure ((VC.less (h (fun x _=>∃ y,shareP y=R/\x=.ret y) fun y hy=>⟨y,hy,rfl⟩) (Q':=fun x _=>F8 x=true/\x=.ret R) ?_)) hp
 rintro x σ' ⟨y,rfl,rfl⟩
 exact⟨.ret (shareP y),⟨hr,rfl⟩,fun w G e he=>D0.shareP he⟩
theorem VC.finOwn {P:Program}{f:FuncId}{args:List PV}{R:PV}
 (h:∀ Q:C6->List (List PV)->Prop,(∀ y,y=R->Q (.ret y) [])->VC P f args [] Q) (hp:F4 args=true) (hr:R.pure=true):Dr P f args R:=by
 intro σ
 refine VC.pure (h (fun x _=>F8 x=true/\x=.ret R) ?_) hp
 rintro y rfl
 exact⟨hr,rfl⟩
inductive Ex (E S α:Type) where
 |ok (a:α) (s:S)
 |pan (e:E) (s:S)
abbrev Jg {E S α:Type}(r:Ex E S α)(A:α->S->Prop)(B:E->S->Prop):Prop :=
 match r with
 |.ok a s=>A a s
 |.pan e s=>B e s
def CR (P:Program)(f:FuncId)(args:List PV)(cs:List PV)(x:C6)(cs':List PV):Prop:=VC P f (.ptr 0 0::args) [cs] fun y σ'=>y=x/\σ'=[cs']
theorem CR.at {P:Program}{f:FuncId}{args cs cs':List PV}{x:C6}{σ:List (List PV)}{k:Nat}(h:CR P f args cs x cs')(hc:σ[k]?=some cs)(h1:PV.fitsL 0 cs=true)(h2:F4 args=true)(h3:PV.fitsL 0 cs'=true)(h4:F8 x=true) :
 VC P f (.ptr k 0::args) σ fun y σ'=>y=x/\σ'=σ.set k cs':=by
 refine (VC.at (Q:=fun y cs2=>y=x/\cs2=cs') hc h1 h2 (VC.mono h ?_)).mono ?_
 . rintro y σ' ⟨rfl,rfl⟩
   exact⟨cs',rfl,h3,h4,rfl,rfl⟩
 . rintro y σ' ⟨cs2,⟨rfl,rfl⟩,rfl⟩
   exact⟨rfl,rfl⟩
inductive Hs where
 |no
 |val (p:PV)
 |call (r:PV)
 |meth (r:PV) (cs:List PV)
 |mpan (c:List PanicEntry) (cs:List PV)
 |site (r:PV) (σ:List (List PV))
 |sitep (c:List PanicEntry) (σ:List (List PV))
 |look (v:Value) (b:Bool)
 |fcall (r:PV)
def okB:Bool->Option Unit
 |true=>some ()
 |false=>none
theorem DG {c:Bool}{x:Unit}(h:okB c=some x):c=true:=by
 cases c with
 |true=>rfl
 |false=>cases h
inductive Rn where
 |at_ (st:St)
 |pan (c:List PanicEntry) (st:St)
def Rn.holds (K:AX->St->Prop)(X:St->Prop):Rn->Prop
 |.at_ st=>X st
 |.pan c st=>K (.pan c) st
def K6 (P:Program)(f:FuncId)(args:List PV)(σ:List (List PV))(x:C6)(σ1:List (List PV)):Prop:=VC P f args σ fun y σ'=>y=x/\σ'=σ1
def Px (P:Program)(f:FuncId)(args:List PV)(σ:List (List PV))(x:C6)(cs':List PV):Option (Prop×List (List PV)) :=
 match args with
 |.ptr k 0::more=>match σ[k]? with
  |some cs=>match okB (PV.fitsL 0 cs&&(F4 more&&(PV.fitsL 0 cs'&&F8 x))) with
   |some _=>some (CR P f more cs x cs',σ.set k cs')
   |none=>none
  |none=>none
 |_=>none
theorem IW {P:Program}{f:FuncId}{args:List PV}{σ:List (List PV)}{x:C6}{cs':List PV}{p:Prop}{σ1:List (List PV)}(h:Px P f args σ x cs'=some (p,σ1))(hp:p) :
 VC P f args σ fun y σ'=>y=x/\σ'=σ1:=by
 unfold Px at h
 split at h
 . split at h
   . rename_i cs hc
     split at h
     . rename_i e
       obtain⟨rfl,rfl⟩:=Prod.mk.inj (Aa h)
       have h1:=DG e
       simp only [Bool.and_eq_true] at h1
       exact CR.at hp hc h1.1 h1.2.1 h1.2.2.1 h1.2.2.2
     . cases h
   . cases h
 . cases h
def P2 (d:TypeDesc)(kvs:List (Value×Value))(k:Value)(z:Option Value):Option (Value×Bool) :=
 match findK d k kvs 0 with
 |some (some (_,v))=>some (v,true)
 |some none=>z.map fun v=>(v,false)
 |none=>none
def Abb (ok:Bool)(v:Value)(b:Bool):PV:=if ok then .tup [absC v,.lit (.bool b)] else absC v
def TH (P:Program)(o:Oper)(st:St)(v:Value)(b:Bool):Option (Prop×St) :=
 match o.op,o.dst with
 |.lookup t m k ok,some d=>match UE P t,mapRd st m,opd st k with
  |some (dd,e),some kvs,.lit kv=>match okB (isKeyB dd kv) with
   |some _=>some (P2 dd kvs kv (Vp P e)=some (v,b),st.put (some d) (Abb ok v b))
   |none=>none
  |_,_,_=>none
 |_,_=>none
theorem N5 {P:Program}{o:Oper}{st st1:St}{v:Value}{b:Bool}{p:Prop}(h:TH P o st v b=some (p,st1))(hp:p):evOp P o st=some (true,st1)/\∀ ops M i,(rdOk M o st&&Re ops M i o st)=true:=by
 unfold TH at h
 split at h
 . rename_i t m k ok d ho hd
   split at h
   . rename_i dd e kvs kv h1 h2 h3
     split at h
     . rename_i hk
       obtain⟨rfl,rfl⟩:=Prod.mk.inj (Aa h)
       have hk:=DG hk
       constructor
       . unfold evOp
         rw [if_pos (by unfold clsOf;rw [ho])]
         unfold evLoud
         rw [ho,hd]
         simp only
         unfold evLookup
         rw [h1,h2,h3]
         simp only
         unfold P2 at hp
         split at hp
         . rename_i i v' hf
           obtain⟨rfl,rfl⟩:=Prod.mk.inj (Aa hp)
           rw [hf]
           simp only [Option.map_some,hk]
           cases ok<;>rfl
         . rename_i hf
           rw [hf]
           cases hz:Vp P e with
           |none=>rw [hz] at hp;cases hp
           |some z =>
            rw [hz] at hp
            obtain⟨rfl,rfl⟩:=Prod.mk.inj (Aa hp)
            simp only [Option.map_some,hk]
            cases ok<;>rfl
         . cases hp
       . intro ops M i
         unfold rdOk Re
         rw [ho]
         rfl
     . cases h
   . cases h
 . cases h
def V1 (P:Program)(ops:Array Oper)(st:St)(o:Oper)(q:Hs):Option (Option Prop×Rn) :=
 match evGuard ops st o with
 |some false=>match q with
  |.no=>some (none,.at_ (st.put o.dst (.lit (.tuple #[]))))
  |_=>none
 |some true=>match evOp P o st with
  |some (c,st')=>match q with
   |.no=>match okB c with
    |some _=>some (none,.at_ st')
    |none=>none
   |.val p=>match o.dst,st'.env with
    |some _,(d,p')::rest=>some (some (c=true/\p'=p),.at_ { st' with env:=(d,p)::rest })
    |_,_=>none
   |_=>none
  |none=>match evCall P o st with
   |some (f,args)=>match q with
    |.call r=>some (some (Dr P f args r),.at_ ((st.aft st.σ).put o.dst r))
    |.meth r cs'=>match Px P f args st.σ (.ret r) cs' with
     |some (p,σ1)=>some (some p,.at_ ((st.aft σ1).put o.dst r))
     |none=>none
    |.mpan c cs'=>match Px P f args st.σ (.pan c) cs' with
     |some (p,σ1)=>some (some p,.pan c { st with σ:=σ1 })
     |none=>none
    |.site r σ1=>some (some (K6 P f args st.σ (.ret r) σ1),.at_ ((st.aft σ1).put o.dst r))
    |.sitep c σ1=>some (some (K6 P f args st.σ (.pan c) σ1),.pan c { st with σ:=σ1 })
    |_=>none
   |none=>match evPan o st with
    |some v=>match q with
     |.no=>some (none,.pan [{ v,recovered:=false }] st)
     |_=>none
    |none=>none
 |none=>none
def Sr:Option Prop->Prop->Prop
 |none,p=>p
 |some q,p=>q/\p
def Q2 (o:Oper)(st:St):Option (FuncId×List PV) :=
 match o.op with
 |.call c=>match c.callee with
  |.value x=>match opd st x with
   |.fno true f caps=>some (f,c.args.toList.map (fun x=>unown (opd st x))++caps)
   |_=>none
  |_=>none
 |_=>none
theorem Q1 {P:Program}{o:Oper}{st:St}{f:FuncId}{args:List PV}(h:Q2 o st=some (f,args))(hf:Cq P f=true):evCall P o st=some (f,args):=by
 unfold Q2 at h
 unfold evCall
 split at h
 . rename_i c hc
   rw [hc]
   simp only
   split at h
   . rename_i x hx
     rw [hx]
     simp only
     split at h
     . rename_i f' caps e
       obtain⟨rfl,rfl⟩:=Prod.mk.inj (Aa h)
       rw [e]
       simp only
       rw [if_pos hf]
     . cases h
   . cases h
 . cases h
def Qa (P:Program)(ops:Array Oper)(st:St)(o:Oper)(q:Hs):Option (Option Prop×Rn) :=
 match q with
 |.look v b=>match evGuard ops st o with
  |some true=>match TH P o st v b with
   |some (p,st1)=>some (some p,.at_ st1)
   |none=>none
  |_=>none
 |.fcall r=>match evGuard ops st o,evOp P o st,Q2 o st with
  |some true,none,some (f,args)=>some (some (Cq P f=true/\Dr P f args r),.at_ ((st.aft st.σ).put o.dst r))
  |_,_,_=>none
 |q=>V1 P ops st o q
def ND (P:Program)(ops:Array Oper):List Oper->List Hs->St->Option (Prop×Rn)
 | [],_,st=>some (True,.at_ st)
 |_::_,[],_=>none
 |o::l,q::qs,st=>match Qa P ops st o q with
  |some (p,.at_ st1)=>match ND P ops l qs st1 with
   |some (p2,st2)=>some (Sr p p2,st2)
   |none=>none
  |some (p,.pan c st1)=>some (Sr p True,.pan c st1)
  |none=>none
theorem G7 {p:Option Prop}{q:Prop}(h:Sr p q):(∀ x,p=some x->x)/\q:=by
 cases p with
 |none=>exact⟨fun x e=>(by cases e),h⟩
 |some y=>exact⟨fun x e=>(by cases e;exact h.1),h.2⟩
theorem SC {P:Program}{ops:Array Oper}{K:AX->St->Prop}{st:St}{s1:Rn}{o:Oper}{q:Hs}{p:Option Prop}{l:List Oper}
 (h:V1 P ops st o q=some (p,s1)) (hp:∀ x,p=some x->x) (hk:s1.holds K (evOps P ops K l)):evOps P ops K (o::l) st:=by
 unfold V1 at h
 unfold evOps
 split at h
 . rename_i e
   rw [e]
   split at h
   . obtain⟨_,rfl⟩:=Prod.mk.inj (Aa h);exact hk
   . cases h
 . rename_i e
   rw [e]
   simp only
   split at h
   . rename_i c st' e2
     rw [e2]
     simp only
     split at h
     . split at h
       . rename_i e3
         obtain⟨_,rfl⟩:=Prod.mk.inj (Aa h)
         exact⟨DG e3,hk⟩
       . cases h
     . split at h
       . rename_i d' d p' rest e3 e4
         obtain⟨rfl,rfl⟩:=Prod.mk.inj (Aa h)
         obtain⟨hc,rfl⟩:=hp _ rfl
         refine⟨hc,?_⟩
         have hk:evOps P ops K l { st' with env:=(d,p')::rest }:=hk
         rw [<- e4] at hk
         exact hk
       . cases h
     . cases h
   . rename_i e2
     rw [e2]
     simp only
     split at h
     . rename_i f args e3
       rw [e3]
       simp only
       split at h
       . obtain⟨rfl,rfl⟩:=Prod.mk.inj (Aa h)
         refine (hp _ rfl st.σ).mono ?_
         rintro x σ' ⟨rfl,rfl⟩
         exact hk
       . split at h
         . rename_i hm
           obtain⟨rfl,rfl⟩:=Prod.mk.inj (Aa h)
           refine (IW hm (hp _ rfl)).mono ?_
           rintro x σ' ⟨rfl,rfl⟩
           exact hk
         . cases h
       . split at h
         . rename_i hm
           obtain⟨rfl,rfl⟩:=Prod.mk.inj (Aa h)
           refine (IW hm (hp _ rfl)).mono ?_
           rintro x σ' ⟨rfl,rfl⟩
           exact hk
         . cases h
       . obtain⟨rfl,rfl⟩:=Prod.mk.inj (Aa h)
         refine VC.mono (hp _ rfl) ?_
         rintro x σ' ⟨rfl,rfl⟩
         exact hk
       . obtain⟨rfl,rfl⟩:=Prod.mk.inj (Aa h)
         refine VC.mono (hp _ rfl) ?_
         rintro x σ' ⟨rfl,rfl⟩
         exact hk
       . cases h
     . rename_i e3
       rw [e3]
       simp only
       split at h
       . rename_i v e4
         rw [e4]
         split at h
         . obtain⟨rfl,rfl⟩:=Prod.mk.inj (Aa h);exact hk
         . cases h
       . cases h
 . cases h
theorem HV {P:Program}{ops:Array Oper}{K:AX->St->Prop}{st:St}{s1:Rn}{o:Oper}{q:Hs}{p:Option Prop}{l:List Oper}
 (h:Qa P ops st o q=some (p,s1)) (hp:∀ x,p=some x->x) (hk:s1.holds K (evOps P ops K l)):evOps P ops K (o::l) st:=by
 unfold Qa at h
 split at h
 . split at h
   . rename_i hg
     split at h
     . rename_i hl
       obtain⟨rfl,rfl⟩:=Prod.mk.inj (Aa h)
       have h1:=(N5 hl (hp _ rfl)).1
       unfold evOps
       rw [hg,h1]
       exact⟨rfl,hk⟩
     . cases h
   . cases h
 . split at h
   . rename_i f args h1 h2 h3
     obtain⟨rfl,rfl⟩:=Prod.mk.inj (Aa h)
     obtain⟨k1,k2⟩:=hp _ rfl
     unfold evOps
     rw [h1]
     simp only
     rw [h2]
     simp only
     rw [Q1 h3 k1]
     refine (k2 st.σ).mono ?_
     rintro x σ' ⟨rfl,rfl⟩
     exact hk
   . cases h
 . exact SC h hp hk
theorem FH {P:Program}{ops:Array Oper}{K:AX->St->Prop}:∀ {l:List Oper} {qs:List Hs} {st:St} {s1:Rn} {p:Prop},ND P ops l qs st=some (p,s1)->p->s1.holds K (K .normal)->evOps P ops K l st
 | [],_,st,st1,p,h,_,hk=>by
  obtain⟨_,rfl⟩:=Prod.mk.inj (Aa h)
  exact hk
 |_::_,[],_,_,_,h,_,_=>by cases h
 |o::l,q::qs,st,st1,p,h,hp,hk=>by
  unfold ND at h
  split at h
  . rename_i p1 st2 e
    split at h
    . rename_i p2 st3 e2
      obtain⟨rfl,rfl⟩:=Prod.mk.inj (Aa h)
      obtain⟨h1,h2⟩:=G7 hp
      exact HV e h1 (FH e2 h2 hk)
    . cases h
  . rename_i p1 c st2 e
    obtain⟨rfl,rfl⟩:=Prod.mk.inj (Aa h)
    obtain⟨h1,h2⟩:=G7 hp
    exact HV e h1 hk
  . cases h
def RX (M:List Nat)(c:Nat)(L:List Nat):Option (Prop×Rn)->Option (Prop×St)
 |some (p,.at_ st)=>some (p,low M c (clr L st))
 |_=>none
def Acs:Option (Prop×Rn)->Option (Prop×(List PanicEntry×List (List PV)))
 |some (p,.pan c st)=>some (p,(c,st.σ))
 |_=>none
theorem Ku {M:List Nat}{c:Nat}{L:List Nat}{x:Option (Prop×Rn)}{p:Prop}{S:St}(h:RX M c L x=some (p,S)):∃ st,x=some (p,.at_ st)/\low M c (clr L st)=S:=by
 unfold RX at h
 split at h
 . rename_i p' st
   obtain⟨rfl,rfl⟩:=Prod.mk.inj (Aa h)
   exact⟨st,rfl,rfl⟩
 . cases h
theorem ZJ {P:Program}{L:Cf}{N:Nat}{k:List TI}{Q:AX->St->Prop}{st:St}{i:Nat}{ops:Array Oper}{d:Bool}(M:List Nat)(c:Nat)(qs:List Hs)(S:St){p:Prop}(hp:p)
 (he:RX M c L.L (ND P ops ops.toList qs st)=some (p,S)) (hn:Dp L.pl i=none) (hk:Rx k=true) (hc:N<=c) (h:WS P L N k Q S):WS P L N (.code (.region i ops d)::k) Q st:=by
 obtain⟨st1,e,rfl⟩:=Ku he
 refine Ah hn ?_
 intro K' hK _
 exact FH e hp (hK _ _ rfl (Kh M c hk hc rfl h))
def V2 (P:Program)(ops:Array Oper)(M:List Nat)(st:St)(i:Nat)(o:Oper)(q:Hs):Option (Option Prop×Rn) :=
 match evGuard ops st o with
 |some false=>match q with
  |.no=>some (none,.at_ (st.put o.dst (.lit (.tuple #[]))))
  |_=>none
 |some true=>match evOp P o st with
  |some (c,st')=>match okB (rdOk M o st&&Re ops M i o st) with
   |none=>none
   |some _=>match q with
    |.no=>match okB c with
     |some _=>some (none,.at_ st')
     |none=>none
    |.val p=>match o.dst,st'.env with
     |some _,(d,p')::rest=>some (some (c=true/\p'=p),.at_ { st' with env:=(d,p)::rest })
     |_,_=>none
    |_=>none
  |none=>match evCall P o st with
   |some (f,args)=>match CL ops (Cy ops) i with
    |true=>match q with
     |.call r=>match args with
      |.ptr _ _::_=>none
      |args=>match okB (F4 args) with
       |some _=>some (some (Dr P f args r),.at_ ((st.aftK (fun _=>true) (st.σ++[])).put o.dst (r.shift st.σ.length)))
       |none=>none
     |.meth r cs'=>match args with
      |.ptr k 0::more=>match okB (memN k M&&(PV.fitsL 0 (st.σ.getD k [])&&(F4 more&&(decide (k<st.σ.length)&&(PV.fitsL 0 cs'&&F8 (.ret r)))))) with
       |some _=>some (some (CR P f more (st.σ.getD k []) (.ret r) cs'),.at_ ((st.aftK (fun q=>q != k) (st.σ.set k cs')).put o.dst r))
       |none=>none
      |_=>none
     |.mpan c cs'=>match args with
      |.ptr k 0::more=>match okB (memN k M&&(PV.fitsL 0 (st.σ.getD k [])&&(F4 more&&(decide (k<st.σ.length)&&(PV.fitsL 0 cs'&&F8 (.pan c)))))) with
       |some _=>some (some (CR P f more (st.σ.getD k []) (.pan c) cs'),.pan c { st with σ:=st.σ.set k cs' })
       |none=>none
      |_=>none
     |_=>none
    |false=>match q with
     |.call r=>some (some (Dr P f args r),.at_ ((st.aft st.σ).put o.dst r))
     |.meth r cs'=>match Px P f args st.σ (.ret r) cs' with
      |some (p,σ1)=>some (some p,.at_ ((st.aft σ1).put o.dst r))
      |none=>none
     |.mpan c cs'=>match Px P f args st.σ (.pan c) cs' with
      |some (p,σ1)=>some (some p,.pan c { st with σ:=σ1 })
      |none=>none
     |.site r σ1=>some (some (K6 P f args st.σ (.ret r) σ1),.at_ ((st.aft σ1).put o.dst r))
     |.sitep c σ1=>some (some (K6 P f args st.σ (.pan c) σ1),.pan c { st with σ:=σ1 })
     |_=>none
   |none=>none
 |none=>none
def LX (P:Program)(ops:Array Oper)(M:List Nat)(st:St)(i:Nat)(o:Oper)(q:Hs):Option (Option Prop×Rn) :=
 match q with
 |.look v b=>match evGuard ops st o with
  |some true=>match TH P o st v b with
   |some (p,st1)=>some (some p,.at_ st1)
   |none=>none
  |_=>none
 |q=>V2 P ops M st i o q
def V6 (P:Program)(ops:Array Oper)(M:List Nat):List Nat->List Hs->St->Option (Prop×Rn)
 | [],_,st=>some (True,.at_ st)
 |_::_,[],_=>none
 |i::l,q::qs,st=>match ops[i]? with
  |some o=>match LX P ops M st i o q with
   |some (p,.at_ st1)=>match V6 P ops M l qs st1 with
    |some (p2,st2)=>some (Sr p p2,st2)
    |none=>none
   |some (p,.pan c st1)=>some (Sr p True,.pan c st1)
   |none=>none
  |none=>none
theorem SD {P:Program}{ops:Array Oper}{M:List Nat}{K:AX->St->Prop}{st:St}{s1:Rn}{i:Nat}{o:Oper}{q:Hs}{p:Option Prop}{l:List Nat}(ho:ops[i]?=some o)
 (h:V2 P ops M st i o q=some (p,s1)) (hp:∀ x,p=some x->x) (hk:s1.holds K (evOpsD P ops M K l)):evOpsD P ops M K (i::l) st:=by
 unfold V2 at h
 unfold evOpsD
 rw [ho]
 simp only
 split at h
 . rename_i e
   rw [e]
   split at h
   . obtain⟨_,rfl⟩:=Prod.mk.inj (Aa h);exact hk
   . cases h
 . rename_i e
   rw [e]
   simp only
   split at h
   . rename_i c st' e2
     rw [e2]
     simp only
     split at h
     . cases h
     . rename_i er
       split at h
       . split at h
         . rename_i e3
           obtain⟨_,rfl⟩:=Prod.mk.inj (Aa h)
           exact⟨DG e3,DG er,hk⟩
         . cases h
       . split at h
         . rename_i d' d p' rest e3 e4
           obtain⟨rfl,rfl⟩:=Prod.mk.inj (Aa h)
           obtain⟨hc,rfl⟩:=hp _ rfl
           refine⟨hc,DG er,?_⟩
           have hk:evOpsD P ops M K l { st' with env:=(d,p')::rest }:=hk
           rw [<- e4] at hk
           exact hk
         . cases h
       . cases h
   . rename_i e2
     rw [e2]
     simp only
     split at h
     . rename_i f args e3
       rw [e3]
       simp only
       split at h
       . rename_i en
         rw [en]
         simp only [if_true]
         split at h
         . split at h
           . cases h
           . rename_i args' hne
             split at h
             . rename_i ep
               obtain⟨rfl,rfl⟩:=Prod.mk.inj (Aa h)
               split
               . exact absurd rfl (hne _ _ _)
               . refine⟨DG ep,(hp _ rfl []).mono ?_⟩
                 rintro x σ' ⟨rfl,rfl⟩
                 exact hk
             . cases h
         . split at h
           . split at h
             . rename_i ep
               obtain⟨rfl,rfl⟩:=Prod.mk.inj (Aa h)
               have h1:=DG ep
               simp only [Bool.and_eq_true,decide_eq_true_eq] at h1
               refine⟨h1.1,h1.2.1,h1.2.2.1,h1.2.2.2.1,VC.mono (hp _ rfl) ?_⟩
               rintro x σ' ⟨rfl,rfl⟩
               exact⟨_,rfl,h1.2.2.2.2.1,h1.2.2.2.2.2,hk⟩
             . cases h
           . cases h
         . split at h
           . split at h
             . rename_i ep
               obtain⟨rfl,rfl⟩:=Prod.mk.inj (Aa h)
               have h1:=DG ep
               simp only [Bool.and_eq_true,decide_eq_true_eq] at h1
               refine⟨h1.1,h1.2.1,h1.2.2.1,h1.2.2.2.1,VC.mono (hp _ rfl) ?_⟩
               rintro x σ' ⟨rfl,rfl⟩
               exact⟨_,rfl,h1.2.2.2.2.1,h1.2.2.2.2.2,hk⟩
             . cases h
           . cases h
         . cases h
       . rename_i en
         rw [en]
         simp only [Bool.false_eq_true,if_false]
         split at h
         . obtain⟨rfl,rfl⟩:=Prod.mk.inj (Aa h)
           refine (hp _ rfl st.σ).mono ?_
           rintro x σ' ⟨rfl,rfl⟩
           exact hk
         . split at h
           . rename_i hm
             obtain⟨rfl,rfl⟩:=Prod.mk.inj (Aa h)
             refine (IW hm (hp _ rfl)).mono ?_
             rintro x σ' ⟨rfl,rfl⟩
             exact hk
           . cases h
         . split at h
           . rename_i hm
             obtain⟨rfl,rfl⟩:=Prod.mk.inj (Aa h)
             refine (IW hm (hp _ rfl)).mono ?_
             rintro x σ' ⟨rfl,rfl⟩
             exact hk
           . cases h
         . obtain⟨rfl,rfl⟩:=Prod.mk.inj (Aa h)
           refine VC.mono (hp _ rfl) ?_
           rintro x σ' ⟨rfl,rfl⟩
           exact hk
         . obtain⟨rfl,rfl⟩:=Prod.mk.inj (Aa h)
           refine VC.mono (hp _ rfl) ?_
           rintro x σ' ⟨rfl,rfl⟩
           exact hk
         . cases h
     . cases h
 . cases h
theorem ES {P:Program}{ops:Array Oper}{M:List Nat}{K:AX->St->Prop}{st:St}{s1:Rn}{i:Nat}{o:Oper}{q:Hs}{p:Option Prop}{l:List Nat}(ho:ops[i]?=some o)
 (h:LX P ops M st i o q=some (p,s1)) (hp:∀ x,p=some x->x) (hk:s1.holds K (evOpsD P ops M K l)):evOpsD P ops M K (i::l) st:=by
 unfold LX at h
 split at h
 . split at h
   . rename_i hg
     split at h
     . rename_i hl
       obtain⟨rfl,rfl⟩:=Prod.mk.inj (Aa h)
       obtain⟨h1,h2⟩:=N5 hl (hp _ rfl)
       unfold evOpsD
       rw [ho]
       simp only
       rw [hg,h1]
       exact⟨rfl,h2 ops M _,hk⟩
     . cases h
   . cases h
 . exact SD ho h hp hk
theorem Km {P:Program}{ops:Array Oper}{M:List Nat}{K:AX->St->Prop}:∀ {l:List Nat} {qs:List Hs} {st:St} {s1:Rn} {p:Prop},V6 P ops M l qs st=some (p,s1)->p->s1.holds K (K .normal)->evOpsD P ops M K l st
 | [],_,st,st1,p,h,_,hk=>by
  obtain⟨_,rfl⟩:=Prod.mk.inj (Aa h)
  exact hk
 |_::_,[],_,_,_,h,_,_=>by cases h
 |i::l,q::qs,st,st1,p,h,hp,hk=>by
  unfold V6 at h
  split at h
  . rename_i o ho
    split at h
    . rename_i p1 st2 e
      split at h
      . rename_i p2 st3 e2
        obtain⟨rfl,rfl⟩:=Prod.mk.inj (Aa h)
        obtain⟨h1,h2⟩:=G7 hp
        exact ES ho e h1 (Km e2 h2 hk)
      . cases h
    . rename_i p1 c st2 e
      obtain⟨rfl,rfl⟩:=Prod.mk.inj (Aa h)
      obtain⟨h1,h2⟩:=G7 hp
      exact ES ho e h1 hk
    . cases h
  . cases h
def U2 (P:Program)(fn:Func)(N:Nat)(st:St):Option (PV×List (List PV)) :=
 match evRets P fn.results.toList st with
 |some (c,ps,st')=>match okB c with
  |some _=>some (mkRet ps,trunc N (mkRet ps) st'.σ)
  |none=>none
 |none=>none
theorem Md {P:Program}{fn:Func}{N:Nat}{st:St}{Q:C6->List (List PV)->Prop}{r:PV}{σ:List (List PV)}(h:U2 P fn N st=some (r,σ))(hq:Q (.ret r) σ):retK P fn N Q .ret st/\retK P fn N Q .normal st:=by
 unfold U2 at h
 unfold retK
 simp only
 split at h
 . rename_i c ps st' e
   rw [e]
   split at h
   . rename_i e3
     obtain⟨rfl,rfl⟩:=Prod.mk.inj (Aa h)
     have hc:c=true:=DG e3
     exact⟨⟨hc,hq⟩,hc,hq⟩
   . cases h
 . cases h
def V3:Option (PV×List (List PV))->Option (PV×List (List PV))
 |some (p,σ)=>some (shareP p,σ)
 |none=>none
theorem GQ {P:Program}{fn:Func}{N:Nat}{st:St}{Q:C6->List (List PV)->Prop}{R:PV}{σ:List (List PV)}(hQ:∀ y,shareP y=R->Q (.ret y) σ)(h:V3 (U2 P fn N st)=some (R,σ)):retK P fn N Q .ret st/\retK P fn N Q .normal st:=by
 cases e:U2 P fn N st with
 |none=>rw [e] at h;cases h
 |some x =>
  obtain⟨p,σ1⟩:=x
  rw [e] at h
  obtain⟨rfl,rfl⟩:=Prod.mk.inj (Aa h)
  exact Md e (hQ p rfl)
theorem Rl {P:Program}{fn:Func}{N:Nat}{st:St}{Q:C6->List (List PV)->Prop}{R:PV}{σ:List (List PV)}(hQ:∀ y,y=R->Q (.ret y) σ)(h:U2 P fn N st=some (R,σ)):retK P fn N Q .ret st/\retK P fn N Q .normal st:=Md h (hQ R rfl)
theorem oi {α:Type}{l:List α}{row:α->List PV}{n:Nat}{i:Int}{x:α}{R:List PV}(h:gi l i=some x)(hn:∀ x,(row x).length=n)(hr:row x=R) :
 decide (0<=i/\i<((l.map row).length:Int)/\((l.map row).getD i.toNat []).length=n)=true/\PV.vptr ((l.map row).getD i.toNat []) 0=.vptr R 0:=by
 obtain⟨h1,h2,h3⟩:=Abm l row (R:=row) (fun _=>rfl) h
 rw [h3,hr,List.length_map,decide_eq_true_eq]
 exact⟨⟨h1,h2,by rw [<- hr,hn]⟩,rfl⟩
theorem ob {s:ByteArray}{i x:Int}(h:gb s i=some x):decide (0<=i/\i<(s.size:Int))=true/\PV.lit (.int .u8 ((s.data.toList.getD i.toNat 0).toNat:Int))=.lit (.int .u8 x):=by
 obtain⟨h1,h2,h3⟩:=Abo h
 rw [h3,decide_eq_true_eq];exact⟨⟨h1,h2⟩,rfl⟩
theorem osl {α:Type}{x y:List α}{l h:Int}{row:α->List PV}{n:Nat}(e:Uc x l h=some y)(hn:∀ x,(row x).length=n) :
 (decide (0<=l/\l<=h/\h<=((x.map row).length:Int))&&(x.map row).all (fun x=>x.length == n))=true/\PV.sl (((x.map row).take h.toNat).drop l.toNat) .shared=.sl (y.map row) .shared:=by
 obtain⟨h1,h2⟩:=Z9 row hn e
 rw [h2,List.length_map];exact⟨h1,rfl⟩
theorem VQ {α:Type}{b:Nat}{x y z:List α}{row:α->List PV}{n:Nat}(e:Cp b x y=some z)(hn:∀ x,(row x).length=n) :
 (decide (((x.map row).length+(y.map row).length)*b<=140737488355328)&&((x.map row).all (fun x=>x.length == n)&&((y.map row).all (fun x=>x.length == n)&&(!false||!(y.map row).isEmpty))))=true/\PV.sl (x.map row++y.map row) .own=.sl (z.map row) .own:=by
 obtain⟨h1,h2⟩:=Qv row hn e
 rw [h2,List.length_map,List.length_map]
 refine⟨?_,rfl⟩
 rw [Bool.not_false,Bool.true_or,Bool.and_true];exact h1
theorem Aa7 {α:Type}{b:Nat}{x y z:List α}{row:α->List PV}{n:Nat}(e:Cp b x y=some z)(hn:∀ x,(row x).length=n)(hy:y≠[]) :
 (decide (((x.map row).length+(y.map row).length)*b<=140737488355328)&&((x.map row).all (fun x=>x.length == n)&&((y.map row).all (fun x=>x.length == n)&&(!true||true))))=true/\PV.sl (x.map row++y.map row) (if (y.map row).isEmpty=true then .full else .own)=.sl (z.map row) .own:=by
 obtain⟨h1,h2⟩:=Qv row hn e
 rw [h2,List.length_map,List.length_map,if_neg (by simpa using hy)]
 refine⟨?_,rfl⟩
 rw [Bool.or_true,Bool.and_true];exact h1
theorem onn {k:IntKind}{b e q:Int}(h:XT b e=some q):decide (0<=b)=true/\PV.lit (.int k e)=.lit (.int k q):=by
 obtain⟨h1,h2⟩:=ZA h
 rw [h2,decide_eq_true_eq];exact⟨h1,rfl⟩
theorem MB {e b:Bool}(h:e=b):true=true/\PV.lit (.bool e)=.lit (.bool b):=⟨rfl,by rw [h]⟩
theorem CY {xs ys:List (List PV)}{c:Bool}(hc:c=true)(h:xs=ys):c=true/\PV.sl xs .own=.sl ys .own:=⟨hc,by rw [h]⟩
theorem U9 {α:Type}(l:List α)(row:α->List PV):true=true/\PV.lit (.int .i64 ((l.map row).length:Int))=.lit (.int .i64 (l.length:Int)):=⟨rfl,by rw [List.length_map]⟩
theorem Ace {α:Type}{x y:List α}{l:Int}{row:α->List PV}{n:Nat}(e:Uc x l (x.length:Int)=some y)(hn:∀ x,(row x).length=n) :
 (decide (0<=l/\l<=((x.map row).length:Int)/\((x.map row).length:Int)<=((x.map row).length:Int))&&(x.map row).all (fun x=>x.length == n))=true/\PV.sl (((x.map row).take ((x.map row).length:Int).toNat).drop l.toNat) .shared=.sl (y.map row) .shared:=by
 have h:=osl (row:=row) e hn
 rw [List.length_map] at h ⊢
 exact h
theorem CR.fin {P:Program}{f:FuncId}{args cs cs':List PV}{R:PV}(h:∀ Q:C6->List (List PV)->Prop,(∀ y,shareP y=R->Q (.ret y) [cs'])->VC P f (.ptr 0 0::args) [cs] Q):CR P f args cs (.ret R) cs':=by
 refine VC.less (h (fun x σ'=>∃ y,shareP y=R/\x=.ret y/\σ'=[cs']) fun y hy=>⟨y,hy,rfl,rfl⟩) ?_
 rintro x σ' ⟨y,rfl,rfl,rfl⟩
 exact⟨.ret (shareP y),⟨rfl,rfl⟩,fun w G e he=>D0.shareP he⟩
theorem CR.finP {P:Program}{f:FuncId}{args cs cs':List PV}{c:List PanicEntry}(h:∀ Q:C6->List (List PV)->Prop,Q (.pan c) [cs']->VC P f (.ptr 0 0::args) [cs] Q):CR P f args cs (.pan c) cs':=h _ ⟨rfl,rfl⟩
theorem K6.fin {P:Program}{f:FuncId}{args:List PV}{σ σ1:List (List PV)}{R:PV}(h:∀ Q:C6->List (List PV)->Prop,(∀ y,shareP y=R->Q (.ret y) σ1)->VC P f args σ Q):K6 P f args σ (.ret R) σ1:=by
 refine VC.less (h (fun x σ'=>∃ y,shareP y=R/\x=.ret y/\σ'=σ1) fun y hy=>⟨y,hy,rfl,rfl⟩) ?_
 rintro x σ' ⟨y,rfl,rfl,rfl⟩
 exact⟨.ret (shareP y),⟨rfl,rfl⟩,fun w G e he=>D0.shareP he⟩
def JY (l:List (Int×Int))(k:Int):Int×Bool :=
 match l with
 | []=>(0,false)
 |(a,v)::r=>if k == a then (v,true) else JY r k
def kvI (l:List (Int×Int)):List (Value×Value):=l.map fun x=>(.int .i64 x.1,.int .i64 x.2)
theorem Uh (k:Int):∀ (l:List (Int×Int)) (i:Nat),match findK (.int .i64) (.int .i64 k) (kvI l) i with|some (some (_,v))=>JY l k=((match v with|.int _ n=>n|_=>0),true)/\v=.int .i64 (JY l k).1|some none=>JY l k=(0,false)|none=>False
 | [],i=>by simp [kvI,findK,JY]
 |(a,v)::r,i=>by
  have ih:=Uh k r (i+1)
  show match findK (.int .i64) (.int .i64 k) ((.int .i64 a,.int .i64 v)::kvI r) i with|some (some (_,v))=>_|some none=>_|none=>_
  unfold findK JY
  have e:Instr.sameNow (.int .i64) (.int .i64 k) (.int .i64 a)=some (k == a):=rfl
  simp only [e]
  cases hk:(k == a) with
  |true=>simp
  |false=>simpa using ih
theorem Aau (l:List (Int×Int))(k:Int):P2 (.int .i64) (kvI l) (.int .i64 k) (some (.int .i64 0))=some (.int .i64 (JY l k).1,(JY l k).2):=by
 unfold P2
 have h:=Uh k l 0
 split
 . rename_i e;rw [e] at h;rw [h.2];simp [h.1]
 . rename_i e;rw [e] at h;simp only at h;rw [h];rfl
 . rename_i e;rw [e] at h;exact h.elim
def CJ (l:List (ByteArray×Int))(k:ByteArray):Int×Bool :=
 match l with
 | []=>(0,false)
 |(a,v)::r=>if k=a then (v,true) else CJ r k
def L6 (l:List (ByteArray×Int)):List (Value×Value):=l.map fun x=>(.string x.1,.int .i64 x.2)
abbrev iP (x:Int):PV:=.lit (.int .i64 x)
abbrev uP (x:Int):PV:=.lit (.int .u8 x)
abbrev bP (x:Bool):PV:=.lit (.bool x)
abbrev tP (x:ByteArray):PV:=.lit (.string x)
abbrev hP {α:Type}(l:List α)(row:α->List PV):PV:=.sl (l.map row) .shared
abbrev oP {α:Type}(l:List α)(row:α->List PV):PV:=.sl (l.map row) .own
section
variable {P:Program} {L:Cf} {N:Nat} {k k':List TI} {Q:AX->St->Prop} {st:St} {a b:Code} {id:Nat}
theorem z1 (h:WS P L N (.code a::.code b::k) Q st):WS P L N (.code (.seq a b)::k) Q st:=A3 h
theorem z2 (h:WS P L N k Q st):WS P L N (.blk id::k) Q st:=h
theorem z3 (h:WS P L N k Q st):WS P L N (.code .skip::k) Q st:=Ax h
theorem z4 {l:Nat}(h:WS P L N k Q st):WS P L N (.code (.label l)::k) Q st:=As h
end
theorem wr {P:Program}{L:Cf}{N:Nat}{k:List TI}{Q:AX->St->Prop}{st:St}{i:Nat}{ops:Array Oper}{d:Bool}(M:List Nat)(c:Nat)(qs:List Hs)(S:St){p:Prop}(hp:p)
 (he:(RX M c L.L (ND P ops ops.toList qs st),Dp L.pl i,Rx k,Nat.ble N c)=(some (p,S),none,true,true)) (h:WS P L N k Q S):WS P L N (.code (.region i ops d)::k) Q st:=by
 obtain⟨h1,h2⟩:=Prod.mk.inj he
 obtain⟨h2,h3⟩:=Prod.mk.inj h2
 obtain⟨h3,h4⟩:=Prod.mk.inj h3
 exact ZJ M c qs S hp h1 h2 h3 (Nat.le_of_ble_eq_true h4) h
def DS:Nat->List Hs->List Hs
 |0,l=>l
 |n+1,l=>.no::DS n l
def Ws (P:Program)(oi oj ok ol:Oper)(ys:List (List PV))(st:St):Option (Prop×St) :=
 match oi.op,oi.dst,oj.op,oj.dst,ok.op,ok.dst,ol.op,ol.dst with
 |.call c,some d1,.indexAddr T (.tmp e1) ix,some d2,.store T3 (.tmp e2) z,none,.store T4 xl (.tmp e3),none =>
  match c.callee,c.args.toList,c.argTypes.toList with
  |.builtin .append,[x,y],[t,t'] =>
   match Vo P t,evAppBase st x with
   |some (sz,bytes),some (xs,_,st1) =>
    match evAppSrc P t' sz st y,opd st ix,TJ P T with
    |some [zr],.lit (.int _ n),some (sz2,_) =>
     match evStore P T4 ((st1.put (some d1) (.sl ys .own)).put (some d2) .undef) xl (.tmp d1) with
     |some (c,st3)=>match okB (c&&(decide (e1=d1/\e2=d2/\e3=d1/\d1≠d2/\sz2=sz/\K9 P T3=some sz/\zr.length=sz)&&((Nb ix d1&&(Nb z d1&&(Nb z d2&&(Nb xl d1&&Nb xl d2))))&&okRow sz (opd st z)))) with
      |some _=>some (n=(xs.length:Int)/\decide ((xs.length+1)*(bytes+1)<=140737488355328)=true/\xs.all (fun x=>x.length == sz)=true/\xs++[rowOf (opd st z)]=ys,st3)
      |none=>none
     |none=>none
    |_,_,_=>none
   |_,_=>none
  |_,_,_=>none
 |_,_,_,_,_,_,_,_=>none
theorem Th {P:Program}{oi oj ok ol:Oper}{ys:List (List PV)}{st st3:St}{p:Prop}(h:Ws P oi oj ok ol ys st=some (p,st3))(hp:p):four P oi oj ok ol st=some (true,st3):=by
 unfold Ws at h
 unfold four
 split at h
 . split at h
   . split at h
     . split at h
       . split at h
         . rename_i c2 st4 hst
           split at h
           . rename_i hk
             obtain⟨rfl,rfl⟩:=Prod.mk.inj (Aa h)
             obtain⟨h1,h2,h3,rfl⟩:=hp
             have hk:=DG hk
             simp only [Bool.and_eq_true] at hk
             simp only [*,Bool.and_true,decide_true]
           . cases h
         . cases h
       . cases h
     . cases h
   . cases h
 . cases h
def Wr (P:Program)(ops:Array Oper)(t:List Nat)(ys:List (List PV))(st:St):Option (Prop×St) :=
 match t with
 | [i,j,k,l]=>match ops[i]?,ops[j]?,ops[k]?,ops[l]? with
  |some oi,some oj,some ok,some ol=>match okB (GI oi&&(GI oj&&(GI ok&&GI ol))) with
   |some _=>Ws P oi oj ok ol ys st
   |none=>none
  |_,_,_,_=>none
 |_=>none
theorem Tf {P:Program}{ops:Array Oper}{K:AX->St->Prop}{t:List Nat}{ys:List (List PV)}{st st3:St}{p:Prop}(h:Wr P ops t ys st=some (p,st3))(hp:p)(hk:K .normal st3):Kd P ops K t st:=by
 unfold Wr at h
 unfold Kd
 split at h
 . split at h
   . split at h
     . rename_i hg
       have hg:=DG hg
       have h5:=Th h hp
       simp only [*,Bool.and_true]
       exact⟨trivial,trivial⟩
     . cases h
   . cases h
 . cases h
def Xv (P:Program)(ops:Array Oper)(M pre:List Nat)(qs:List Hs)(t:List Nat)(ys:List (List PV))(st:St):Option (Prop×Rn) :=
 match V6 P ops M pre qs st with
 |some (p,.at_ st1)=>match Wr P ops t ys st1 with
  |some (p2,st2)=>some (p/\p2,.at_ st2)
  |none=>none
 |some (p,.pan c st1)=>some (p,.pan c st1)
 |none=>none
theorem Pm {P:Program}{ops:Array Oper}{M pre:List Nat}{K:AX->St->Prop}{qs:List Hs}{t:List Nat}{ys:List (List PV)}{st:St}{s1:Rn}{p:Prop}(h:Xv P ops M pre qs t ys st=some (p,s1))(hp:p)(hk:s1.holds K (K .normal)):evOpsD P ops M (E4 P ops K t) pre st:=by
 unfold Xv at h
 split at h
 . rename_i p1 st1 e
   split at h
   . rename_i p2 st2 e2
     obtain⟨rfl,rfl⟩:=Prod.mk.inj (Aa h)
     exact Km e hp.1 (Tf e2 hp.2 hk)
   . cases h
 . rename_i p1 c st1 e
   obtain⟨rfl,rfl⟩:=Prod.mk.inj (Aa h)
   exact Km e hp hk
 . cases h
def Uz (P:Program)(ops:Array Oper)(M pre:List Nat)(qs:List Hs)(x y:Nat)(qx qy:Hs)(t:List Nat)(ys:List (List PV))(st:St):Option (Prop×Rn×Rn) :=
 match V6 P ops M pre qs st with
 |some (p,.at_ st1)=>match Xv P ops M [x,y] [qx,qy] t ys st1,Xv P ops M [y,x] [qy,qx] t ys st1 with
  |some (p1,s1),some (p2,s2)=>some (p/\p1/\p2,s1,s2)
  |_,_=>none
 |_=>none
theorem Pl {P:Program}{ops:Array Oper}{M pre:List Nat}{K:AX->St->Prop}{qs:List Hs}{x y:Nat}{qx qy:Hs}{t:List Nat}{ys:List (List PV)}{st:St}{s1 s2:Rn}{p:Prop}(h:Uz P ops M pre qs x y qx qy t ys st=some (p,s1,s2))(hp:p)(hk1:s1.holds K (K .normal))(hk2:s2.holds K (K .normal)) :
 evOpsD P ops M (IM P ops M (E4 P ops K t) [x,y]) pre st:=by
 unfold Uz at h
 split at h
 . rename_i p0 st1 e
   split at h
   . rename_i p1 s1' p2 s2' e1 e2
     simp only [Option.some.injEq,Prod.mk.injEq] at h
     obtain⟨rfl,rfl,rfl⟩:=h
     exact Km e hp.1 ⟨Pm e1 hp.2.1 hk1,Pm e2 hp.2.2 hk2⟩
   . cases h
 . cases h
def Ya (M:List Nat)(c:Nat)(L:List Nat):Option (Prop×Rn×Rn)->Option (Prop×St×St)
 |some (p,.at_ s1,.at_ s2)=>some (p,low M c (clr L s1),low M c (clr L s2))
 |_=>none
theorem UQ {M:List Nat}{c:Nat}{L:List Nat}{x:Option (Prop×Rn×Rn)}{p:Prop}{S1 S2:St}(h:Ya M c L x=some (p,S1,S2)):∃ s1 s2,x=some (p,.at_ s1,.at_ s2)/\low M c (clr L s1)=S1/\low M c (clr L s2)=S2:=by
 unfold Ya at h
 split at h
 . rename_i p' s1 s2
   simp only [Option.some.injEq,Prod.mk.injEq] at h
   obtain⟨rfl,rfl,rfl⟩:=h
   exact⟨s1,s2,rfl,rfl,rfl⟩
 . cases h
theorem wrG {P:Program}{L:Cf}{N:Nat}{k:List TI}{Q:AX->St->Prop}{st:St}{i:Nat}{ops:Array Oper}{d:Bool}(PM t:List Nat)(x y i1 i2 i3 i4:Nat)(M:List Nat)(c:Nat)(qs:List Hs)(qx qy:Hs)(ys:List (List PV))(S:St){p:Prop}(hp:p)
 (he:(Ya M c L.L (Uz P ops PM t qs x y qx qy [i1,i2,i3,i4] ys st),Dp L.pl i,Rx k,Nat.ble N c)=(some (p,S,S),some (9997::PM.length::(PM++(t++[x,y,i1,i2,i3,i4]))),true,true)) (h:WS P L N k Q S):WS P L N (.code (.region i ops d)::k) Q st:=by
 obtain⟨h1,h2⟩:=Prod.mk.inj he
 obtain⟨h2,h3⟩:=Prod.mk.inj h2
 obtain⟨h3,h4⟩:=Prod.mk.inj h3
 obtain⟨s1,s2,e,e1,e2⟩:=UQ h1
 refine Sw PM t x y i1 i2 i3 i4 h2 ?_
 intro K' hK _
 exact Pl e hp (hK _ _ rfl (Kh M c h3 (Nat.le_of_ble_eq_true h4) e1 h)) (hK _ _ rfl (Kh M c h3 (Nat.le_of_ble_eq_true h4) e2 h))
theorem Ab1 {P:Program}{L:Cf}{N:Nat}{k:List TI}{fn:Func}{Q:C6->List (List PV)->Prop}{st:St}{i:Nat}{ops:Array Oper}{d:Bool}(PM t:List Nat)(x y i1 i2 i3 i4:Nat)(qs:List Hs)(qx qy:Hs){c:List PanicEntry}{σ:List (List PV)}{p:Prop}(hp:p)
 (he:(match Uz P ops PM t qs x y qx qy [i1,i2,i3,i4] [] st with|some (p,.pan c1 s1,.pan c2 s2)=>some (p,(c1,trunc N .undef s1.σ),(c2,trunc N .undef s2.σ))|_=>none)=some (p,(c,σ),(c,σ))) (hn:Dp L.pl i=some (9997::PM.length::(PM++(t++[x,y,i1,i2,i3,i4])))) (h:Q (.pan c) σ) :
 WS P L N (.code (.region i ops d)::k) (retK P fn N Q) st:=by
 split at he
 . rename_i p' c1 s1 c2 s2 e
   simp only [Option.some.injEq,Prod.mk.injEq] at he
   obtain⟨rfl,⟨rfl,h1⟩,⟨rfl,h2⟩⟩:=he
   refine Sw PM t x y i1 i2 i3 i4 hn ?_
   intro K' _ hP
   refine Pl e hp (hP _ _ ?_) (hP _ _ ?_)
   . show Q (.pan _) (trunc N .undef s1.σ);rw [h1];exact h
   . show Q (.pan _) (trunc N .undef s2.σ);rw [h2];exact h
 . cases he
theorem Y0 {α:Type}{b:Nat}{x z:List α}{f:α}{row:α->List PV}{n:Nat}{R:List PV}(e:Cp b x [f]=some z)(hn:∀ x,(row x).length=n)(hr:row f=R) :
 (x.length:Int)=((x.map row).length:Int)/\decide (((x.map row).length+1)*b<=140737488355328)=true/\(x.map row).all (fun x=>x.length == n)=true/\x.map row++[R]=z.map row:=by
 obtain⟨h1,h2⟩:=Qv row hn e
 rw [Bool.and_eq_true,Bool.and_eq_true] at h1
 refine⟨by rw [List.length_map],?_,h1.2.1,?_⟩
 . rw [List.length_map];exact h1.1
 . rw [<- h2,<- hr];rfl
def R3:Nat->List TI->List TI
 |0,k=>k
 |n+1,.code (.seq a b)::k=>R3 n (.code a::.code b::k)
 |n+1,.code .skip::k=>R3 n k
 |n+1,.code (.label _)::k=>R3 n k
 |n+1,.blk _::k=>R3 n k
 |_+1,k=>k
theorem zp {P:Program}{L:Cf}{N:Nat}{Q:AX->St->Prop}{st:St}:∀ {n:Nat} {k:List TI},WS P L N (R3 n k) Q st->WS P L N k Q st
 |0,_,h=>h
 |n+1,k,h=>by
  unfold R3 at h
  split at h
  . rename_i e;cases e
  . exact z1 (zp h)
  . exact z3 (zp h)
  . exact z4 (zp h)
  . exact z2 (zp h)
  . exact h
theorem aI {a b:Prop}(h:a)(k:b):a/\b:=⟨h,k⟩
theorem tI:True:=trivial
abbrev yT:Hs:=.val (.lit (.bool true))
abbrev yF:Hs:=.val (.lit (.bool false))
end Go.Sp
