/-
  Partial operations on plain values, and the words with which lifted functions are walked. No program.
-/
import Derived.Test.YtehfpameijkafaaGreatDoorY4
set_option linter.unusedVariables false
set_option linter.unusedSimpArgs false
namespace Go.Sp
open Go Go.RowKit Go.Q Go.Vl
def gi {α:Type}(l:List α)(i:Int):Option α:=if 0<=i then l[i.toNat]? else none
def gb (s:Å)(i:Int):Option Int:=if 0<=i/\i<(s.size:Int) then some ((s.data.toList.getD i.toNat 0).toNat:Int) else none
def MC (s:Å)(l h:Int):Option Å:=if 0<=l/\l<=h/\h<=(s.size:Int) then some (s.extract l.toNat h.toNat) else none
def ZD {α:Type}(x:List α)(l h:Int):Option (List α):=if 0<=l/\l<=h/\h<=(x.length:Int) then some ((x.take h.toNat).drop l.toNat) else none
def CH {α:Type}(b:Nat)(x y:List α):Option (List α):=if (x.length+y.length)*b<=140737488355328 then some (x++y) else none
def MD (a b:Å):Option Å:=if a.size+b.size<=9223372036854775807 then some (a++b) else none
def gnn (b e:Int):Option Int:=if 0<=b then some e else none
theorem Ac {α β:Type}{x:Option α}{f:α->Option β}{r:β}(h:x.bind f=some r):∃ a,x=some a/\f a=some r:=by
 cases x with
 |none=>cases h
 |some a=>exact⟨a,rfl,h⟩
theorem Ao {α:Type}{c:Bool}{a b:Option α}{r:α}(h:(bif c then a else b)=some r):(c=true/\a=some r)∨(c=false/\b=some r):=by
 cases c with
 |true=>exact .inl ⟨rfl,h⟩
 |false=>exact .inr ⟨rfl,h⟩
theorem test {e b:Bool}(h:e=b):PV.lit (.bool e)=PV.lit (.bool b):=by rw [h]
theorem Aez {α:Type}(l:List α)(row:α->List PV){R:α->List PV}(hr:∀ x,row x=R x){i:Int}{x:α}(h:gi l i=some x) :
 (0<=i)/\(i<(l.length:Int))/\(l.map row).getD i.toNat []=R x:=by
 unfold gi at h
 split at h
 . rename_i a
   obtain⟨b,c⟩:=List.getElem?_eq_some_iff.1 h
   refine⟨a,by omega,?_⟩
   rw [List.getD_eq_getElem?_getD,ç,h,<- hr];rfl
 . cases h
theorem Ae0 {s:Å}{i:Int}{x:Int}(h:gb s i=some x):(0<=i)/\(i<(s.size:Int))/\((s.data.toList.getD i.toNat 0).toNat:Int)=x:=by
 unfold gb at h
 split at h
 . rename_i a;exact⟨a.1,a.2,Af h⟩
 . cases h
theorem Aa0 {s t:Å}{l h:Int}(e:MC s l h=some t):(0<=l/\l<=h/\h<=(s.size:Int))/\s.extract l.toNat h.toNat=t:=by
 unfold MC at e
 split at e
 . rename_i a;exact⟨a,Af e⟩
 . cases e
theorem SF {α:Type}(row:α->List PV){n:Nat}(hn:∀ x,(row x).length=n)(l:List α):(l.map row).all (fun x=>x.length == n)=true:=by
 rw [Ú]
 intro x a
 obtain⟨y,_,rfl⟩:=List.mem_map.1 a
 rw [hn];exact Ă n
theorem Adh {α:Type}{x y:List α}{l h:Int}(row:α->List PV){n:Nat}(hn:∀ x,(row x).length=n)(e:ZD x l h=some y) :
 (decide (0<=l/\l<=h/\h<=(x.length:Int))&&(x.map row).all (fun x=>x.length == n))=true/\((x.map row).take h.toNat).drop l.toNat=y.map row:=by
 unfold ZD at e
 split at e
 . rename_i a
   obtain rfl:=Af e
   refine⟨?_,by rw [List.map_drop,List.map_take]⟩
   rw [Æ,Í];exact⟨a,SF row hn x⟩
 . cases e
theorem O7 {α:Type}{b:Nat}{x y z:List α}(row:α->List PV){n:Nat}(hn:∀ x,(row x).length=n)(e:CH b x y=some z) :
 (decide ((x.length+y.length)*b<=140737488355328)&&((x.map row).all (fun x=>x.length == n)&&(y.map row).all (fun x=>x.length == n)))=true/\x.map row++y.map row=z.map row:=by
 unfold CH at e
 split at e
 . rename_i a
   obtain rfl:=Af e
   refine⟨?_,List.map_append.symm⟩
   rw [Æ,Æ,Í];exact⟨a,SF row hn x,SF row hn y⟩
 . cases e
theorem Aa1 {a b c:Å}(e:MD a b=some c):(a.size+b.size<=9223372036854775807)/\a++b=c:=by
 unfold MD at e
 split at e
 . rename_i d;exact⟨d,Af e⟩
 . cases e
theorem Adk {b e q:Int}(h:gnn b e=some q):(0<=b)/\e=q:=by
 unfold gnn at h
 split at h
 . rename_i a;exact⟨a,Af h⟩
 . cases h
def RL:PV->PV
 |.sl xs _=>.sl xs .shared
 |p=>p
def shareP:PV->PV
 |.sl xs _=>.sl xs .shared
 |.tup cs=>.tup (cs.map RL)
 |p=>p
theorem Zy {w:World}{U:Nat->Nat->Prop}{φ:List Nat}{p:PV}{v:Value}(h:V w U φ p v):V w U φ (RL p) v:=by
 unfold RL
 split
 . exact h.tag (by simp) (by simp)
 . exact h
theorem CT.shareP {w:World}{G:Gh}{p:PV}{e:Ending}(h:CT w G (.ret p) e):CT w G (.ret (shareP p)) e:=by
 obtain⟨v,d,b,f⟩:=h
 refine⟨v,d,?_,?_⟩
 . unfold Sp.shareP
   split
   . exact b.tag (by simp) (by simp)
   . cases b with
     |tup _ _ arr g h =>
      refine .tup _ _ _ (by rw [Î];exact g) fun i a=>?_
      rw [é]
      exact Zy (h i (by rw [Î] at a;exact a))
   . exact b
 . unfold Sp.shareP
   split
   . trivial
   . intro i xs a
     rw [ç] at a
     rename_i cs
     cases e:cs[i]? with
     |none=>rw [e] at a;cases a
     |some q =>
      rw [e] at a
      have a:=Af a
      cases q<;>simp [RL] at a
   . exact f
def Cz (P:Program)(f:FuncId)(args:List PV)(r:PV):Prop:=∀ σ:List (List PV),VC P f args σ fun x σ'=>x=.ret r/\σ'=σ
theorem VC.fin {P:Program}{f:FuncId}{args:List PV}{R:PV}
 (h:∀ Q:Cb->List (List PV)->Prop,(∀ y,shareP y=R->Q (.ret y) [])->VC P f args [] Q) (hp:EO args=true) (hr:R.pure=true):Cz P f args R:=by
 intro σ
 refine VC.pure ((VC.less (h (fun x _=>∃ y,shareP y=R/\x=.ret y) fun y a=>⟨y,a,rfl⟩) (Q':=fun x _=>FC x=true/\x=.ret R) ?_)) hp
 rintro x σ' ⟨y,rfl,rfl⟩
 exact⟨.ret (shareP y),⟨hr,rfl⟩,fun w G e b=>CT.shareP b⟩
theorem VC.finOwn {P:Program}{f:FuncId}{args:List PV}{R:PV}
 (h:∀ Q:Cb->List (List PV)->Prop,(∀ y,y=R->Q (.ret y) [])->VC P f args [] Q) (hp:EO args=true) (hr:R.pure=true):Cz P f args R:=by
 intro σ
 refine VC.pure (h (fun x _=>FC x=true/\x=.ret R) ?_) hp
 rintro y rfl
 exact⟨hr,rfl⟩
inductive Ex (E S α:Type) where
 |ok (a:α) (s:S)
 |pan (e:E) (s:S)
abbrev J9 {E S α:Type}(r:Ex E S α)(A:α->S->Prop)(B:E->S->Prop):Prop :=
 match r with
 |.ok a s=>A a s
 |.pan e s=>B e s
def Df (P:Program)(f:FuncId)(args:List PV)(cs:List PV)(x:Cb)(cs':List PV):Prop:=VC P f (.ptr 0 0::args) [cs] fun y σ'=>y=x/\σ'=[cs']
theorem Df.at {P:Program}{f:FuncId}{args cs cs':List PV}{x:Cb}{σ:List (List PV)}{k:Nat}(h:Df P f args cs x cs')(hc:σ[k]?=some cs)(h1:PV.fitsL 0 cs=true)(h2:EO args=true)(h3:PV.fitsL 0 cs'=true)(h4:FC x=true) :
 VC P f (.ptr k 0::args) σ fun y σ'=>y=x/\σ'=σ.set k cs':=by
 refine (VC.at (Q:=fun y cs2=>y=x/\cs2=cs') hc h1 h2 (VC.mono h ?_)).mono ?_
 . rintro y σ' ⟨rfl,rfl⟩
   exact⟨cs',rfl,h3,h4,rfl,rfl⟩
 . rintro y σ' ⟨cs2,⟨rfl,rfl⟩,rfl⟩
   exact⟨rfl,rfl⟩
inductive H4 where
 |no
 |val (p:PV)
 |call (r:PV)
 |meth (r:PV) (cs:List PV)
 |mpan (c:List PanicEntry) (cs:List PV)
 |site (r:PV) (σ:List (List PV))
 |sitep (c:List PanicEntry) (σ:List (List PV))
 |look (v:Value) (b:Bool)
 |fcall (r:PV)
 |ald (p:PV)
 |ast (cs:List PV)
def okB:Bool->Option Unit
 |true=>some ()
 |false=>none
theorem CG {c:Bool}{x:Unit}(h:okB c=some x):c=true:=by
 cases c with
 |true=>rfl
 |false=>cases h
inductive Rn where
 |at_ (st:St)
 |pan (c:List PanicEntry) (st:St)
def Rn.holds (K:AX->St->Prop)(X:St->Prop):Rn->Prop
 |.at_ st=>X st
 |.pan c st=>K (.pan c) st
def I2 (P:Program)(f:FuncId)(args:List PV)(σ:List (List PV))(x:Cb)(σ1:List (List PV)):Prop:=VC P f args σ fun y σ'=>y=x/\σ'=σ1
def Rg (P:Program)(f:FuncId)(args:List PV)(σ:List (List PV))(x:Cb)(cs':List PV):Option (Prop×List (List PV)) :=
 match args with
 |.ptr k 0::more=>match σ[k]? with
  |some cs=>match okB (PV.fitsL 0 cs&&(EO more&&(PV.fitsL 0 cs'&&FC x))) with
   |some _=>some (Df P f more cs x cs',σ.set k cs')
   |none=>none
  |none=>none
 |_=>none
theorem Jq {P:Program}{f:FuncId}{args:List PV}{σ:List (List PV)}{x:Cb}{cs':List PV}{p:Prop}{σ1:List (List PV)}(h:Rg P f args σ x cs'=some (p,σ1))(hp:p) :
 VC P f args σ fun y σ'=>y=x/\σ'=σ1:=by
 unfold Rg at h
 split at h
 . split at h
   . rename_i cs b
     split at h
     . rename_i e
       obtain⟨rfl,rfl⟩:=Ó (Af h)
       have a:=CG e
       simp only [Æ] at a
       exact Df.at hp b a.1 a.2.1 a.2.2.1 a.2.2.2
     . cases h
   . cases h
 . cases h
def Wn (d:TypeDesc)(kvs:List (Value×Value))(k:Value)(z:Option Value):Option (Value×Bool) :=
 match Ii d k kvs 0 with
 |some (some (_,v))=>some (v,true)
 |some none=>z.map fun v=>(v,false)
 |none=>none
def Aei (ok:Bool)(v:Value)(b:Bool):PV:=if ok then .tup [F5 v,.lit (.bool b)] else F5 v
def VS (P:Program)(o:Oper)(st:St)(v:Value)(b:Bool):Option (Prop×St) :=
 match o.op,o.dst with
 |.lookup t m k ok,some d=>match Xj P t,Wl st m,Ck st k with
  |some (dd,e),some kvs,.lit kv=>match okB (K3 dd kv) with
   |some _=>some (Wn dd kvs kv (XQ P e)=some (v,b),st.put (some d) (Aei ok v b))
   |none=>none
  |_,_,_=>none
 |_,_=>none
theorem Pb {P:Program}{o:Oper}{st st1:St}{v:Value}{b:Bool}{p:Prop}(h:VS P o st v b=some (p,st1))(hp:p):Hl P o st=some (true,st1)/\∀ ops M i,(WY M o st&&Q7 ops M i o st)=true:=by
 unfold VS at h
 split at h
 . rename_i t m k ok d f l
   split at h
   . rename_i dd e kvs kv n q r
     split at h
     . rename_i c
       obtain⟨rfl,rfl⟩:=Ó (Af h)
       have c:=CG c
       constructor
       . unfold Hl
         rw [Ç (by unfold EP;rw [f])]
         unfold J2
         rw [f,l]
         simp only
         unfold MJ
         rw [n,q,r]
         simp only
         unfold Wn at hp
         split at hp
         . rename_i i v' g
           obtain⟨rfl,rfl⟩:=Ó (Af hp)
           rw [g]
           simp only [ä,c]
           cases ok<;>rfl
         . rename_i g
           rw [g]
           cases j:XQ P e with
           |none=>rw [j] at hp;cases hp
           |some z =>
            rw [j] at hp
            obtain⟨rfl,rfl⟩:=Ó (Af hp)
            simp only [ä,c]
            cases ok<;>rfl
         . cases hp
       . intro ops M i
         unfold WY Q7
         rw [f]
         rfl
     . cases h
   . cases h
 . cases h
def LdA (ag:Bool)(cs:List PV)(off n:Nat)(p:PV):Prop :=
 (∀ q∈cs,q=.undef∨∃ v,q=.lit v)/\(if ag=true then off+n<=cs.length/\p=.agg ((cs.drop off).take n) else off<cs.length/\p=cs.getD off .undef)
def VR (P:Program)(o:Oper)(st:St)(p:PV):Option (Prop×St) :=
 match o.op,o.dst with
 |.load t x,some d=>match Ck st x,KM P t,Lv P t with
  |.ptr b off,some ag,some n=>match st.σ[b]? with
   |some cs=>some (LdA ag cs off n p,st.put (some d) p)
   |none=>none
  |_,_,_=>none
 |_,_=>none
def StA (cs:List PV)(off n:Nat)(ns cs':List PV):Prop:=(∀ q∈cs,q=.undef∨∃ v,q=.lit v)/\ns.length=n/\off+n<=cs.length/\splice cs off ns=cs'
def VQ (P:Program)(o:Oper)(st:St)(cs':List PV):Option (Prop×St) :=
 match o.op,o.dst with
 |.store t x y,none=>match Ck st x,Lv P t,Kz st y,Pp st y with
  |.ptr b off,some n,none,none=>match st.σ[b]?,okB (Hk (Ck st y)||LZ (Ck st y)) with
   |some cs,some _=>some (StA cs off n ((Cm (Ck st y)).map Gb) cs',{ (st.stripC b off n) with σ:=st.σ.set b cs' })
   |_,_=>none
  |_,_,_,_=>none
 |_,_=>none
theorem TE {cs:List PV}(h:∀ q∈cs,q=.undef∨∃ v,q=.lit v):Mh (some cs)=some cs:=by
 unfold Mh
 split
 . rename_i e
   obtain rfl:=Af e
   rcases h _ (á ..) with h|⟨v,h⟩<;>cases h
 . rename_i e
   obtain rfl:=Af e
   rcases h _ (á ..) with h|⟨v,h⟩<;>cases h
 . rfl
theorem Pa {P:Program}{o:Oper}{st st1:St}{p:PV}{q:Prop}(h:VR P o st p=some (q,st1))(hp:q):Hl P o st=some (true,st1):=by
 unfold VR at h
 split at h
 . rename_i t x d f s
   split at h
   . rename_i b off ag n k m u
     split at h
     . rename_i cs c
       obtain⟨rfl,rfl⟩:=Ó (Af h)
       obtain⟨e,a⟩:=hp
       have r:=TE e
       have g:K9 P t st d x=none:=by
        unfold K9
        rw [k]
        simp only
        rw [c,r,m]
        cases ag with
        |true=>rfl
        |false =>
         simp only
         split
         . rename_i xs w
           rcases e _ (Ò w) with h|⟨v,h⟩<;>cases h
         . rfl
       unfold Hl
       rw [Ä (by unfold EP;rw [f];simp),s]
       simp only
       unfold O8
       rw [f]
       simp only
       rw [g]
       simp only
       unfold PN
       rw [f]
       simp only
       unfold J3
       rw [k]
       simp only
       rw [c,r,m,u]
       have i:∀ (l:List PV),(∀ q∈l,q=.undef∨∃ v,q=.lit v)->l.map Bf=l:=fun l y=>by
        conv=>rhs;rw [<- List.map_id l]
        refine List.map_congr_left fun q j=>?_
        rcases y q j with rfl|⟨v,rfl⟩<;>rfl
       cases ag with
       |true =>
        simp only [ø] at a
        obtain⟨a,rfl⟩:=a
        simp only [ä,Ì a]
        rw [i _ fun q j=>e q (í (ü j))]
       |false =>
        simp only [â,û] at a
        obtain⟨a,rfl⟩:=a
        simp only [ä,Ì a]
        have:Aab b off (cs.getD off .undef)=cs.getD off .undef:=by
         have z:cs.getD off .undef∈cs:=by simp [List.getD,a]
         rcases e _ z with h|⟨v,h⟩<;>rw [h]<;>rfl
        rw [this]
     . cases h
   . cases h
 . cases h
theorem OZ {P:Program}{o:Oper}{st st1:St}{cs':List PV}{q:Prop}(h:VQ P o st cs'=some (q,st1))(hp:q):Hl P o st=some (true,st1):=by
 unfold VQ at h
 split at h
 . rename_i t x y d e
   split at h
   . rename_i b off n f g i j
     split at h
     . rename_i cs z a c
       obtain⟨rfl,rfl⟩:=Ó (Af h)
       obtain⟨k,l,m,rfl⟩:=hp
       have p:=TE k
       have c:=CG c
       have r:(Cm (Ck st y)).length=n:=by simpa using l
       unfold Hl
       rw [Ç (by unfold EP;rw [d])]
       unfold J2
       rw [d,e]
       simp only
       unfold GM
       rw [f,g]
       simp only
       rw [a,p]
       simp only
       rw [i]
       simp only
       rw [j]
       simp only
       rw [Ç c,Ì (And.intro r m)]
     . cases h
   . cases h
 . cases h
def Ya (P:Program)(ops:Array Oper)(st:St)(o:Oper)(q:H4):Option (Option Prop×Rn) :=
 match Cy ops st o with
 |some false=>match q with
  |.no=>some (none,.at_ (st.put o.dst (.lit (.tuple #[]))))
  |_=>none
 |some true=>match Hl P o st with
  |some (c,st')=>match q with
   |.no=>match okB c with
    |some _=>some (none,.at_ st')
    |none=>none
   |.val p=>match o.dst,st'.env with
    |some _,(d,p')::rest=>some (some (c=true/\p'=p),.at_ { st' with env:=(d,p)::rest })
    |_,_=>none
   |_=>none
  |none=>match Eo P o st with
   |some (f,args)=>match q with
    |.call r=>some (some (Cz P f args r),.at_ ((st.aft st.σ).put o.dst r))
    |.meth r cs'=>match Rg P f args st.σ (.ret r) cs' with
     |some (p,σ1)=>some (some p,.at_ ((st.aft σ1).put o.dst r))
     |none=>none
    |.mpan c cs'=>match Rg P f args st.σ (.pan c) cs' with
     |some (p,σ1)=>some (some p,.pan c { st with σ:=σ1 })
     |none=>none
    |.site r σ1=>some (some (I2 P f args st.σ (.ret r) σ1),.at_ ((st.aft σ1).put o.dst r))
    |.sitep c σ1=>some (some (I2 P f args st.σ (.pan c) σ1),.pan c { st with σ:=σ1 })
    |_=>none
   |none=>match L6 o st with
    |some v=>match q with
     |.no=>some (none,.pan [{ v,recovered:=false }] st)
     |_=>none
    |none=>none
 |none=>none
def Us:Option Prop->Prop->Prop
 |none,p=>p
 |some q,p=>q/\p
def S3 (o:Oper)(st:St):Option (FuncId×List PV) :=
 match o.op with
 |.call c=>match c.callee with
  |.value x=>match Ck st x with
   |.fno true f caps=>some (f,c.args.toList.map (fun x=>Bf (Ck st x))++caps)
   |_=>none
  |_=>none
 |_=>none
theorem S0 {P:Program}{o:Oper}{st:St}{f:FuncId}{args:List PV}(h:S3 o st=some (f,args))(hf:Im P f=true):Eo P o st=some (f,args):=by
 unfold S3 at h
 unfold Eo
 split at h
 . rename_i c a
   rw [a]
   simp only
   split at h
   . rename_i x b
     rw [b]
     simp only
     split at h
     . rename_i f' caps e
       obtain⟨rfl,rfl⟩:=Ó (Af h)
       rw [e]
       simp only
       rw [Ç hf]
     . cases h
   . cases h
 . cases h
def RJ (P:Program)(ops:Array Oper)(st:St)(o:Oper)(q:H4):Option (Option Prop×Rn) :=
 match q with
 |.look v b=>match Cy ops st o with
  |some true=>match VS P o st v b with
   |some (p,st1)=>some (some p,.at_ st1)
   |none=>none
  |_=>none
 |.fcall r=>match Cy ops st o,Hl P o st,S3 o st with
  |some true,none,some (f,args)=>some (some (Im P f=true/\Cz P f args r),.at_ ((st.aft st.σ).put o.dst r))
  |_,_,_=>none
 |.ald p=>match Cy ops st o,VR P o st p with
  |some true,some (p,st1)=>some (some p,.at_ st1)
  |_,_=>none
 |.ast cs=>match Cy ops st o,VQ P o st cs with
  |some true,some (p,st1)=>some (some p,.at_ st1)
  |_,_=>none
 |q=>Ya P ops st o q
def Pj (P:Program)(ops:Array Oper):List Oper->List H4->St->Option (Prop×Rn)
 | [],_,st=>some (True,.at_ st)
 |_::_,[],_=>none
 |o::l,q::qs,st=>match RJ P ops st o q with
  |some (p,.at_ st1)=>match Pj P ops l qs st1 with
   |some (p2,st2)=>some (Us p p2,st2)
   |none=>none
  |some (p,.pan c st1)=>some (Us p True,.pan c st1)
  |none=>none
theorem G6 {p:Option Prop}{q:Prop}(h:Us p q):(∀ x,p=some x->x)/\q:=by
 cases p with
 |none=>exact⟨fun x e=>(by cases e),h⟩
 |some y=>exact⟨fun x e=>(by cases e;exact h.1),h.2⟩
theorem UA {P:Program}{ops:Array Oper}{K:AX->St->Prop}{st:St}{s1:Rn}{o:Oper}{q:H4}{p:Option Prop}{l:List Oper}
 (h:Ya P ops st o q=some (p,s1)) (hp:∀ x,p=some x->x) (hk:s1.holds K (B1 P ops K l)):B1 P ops K (o::l) st:=by
 unfold Ya at h
 unfold B1
 split at h
 . rename_i e
   rw [e]
   split at h
   . obtain⟨_,rfl⟩:=Ó (Af h);exact hk
   . cases h
 . rename_i e
   rw [e]
   simp only
   split at h
   . rename_i c st' e2
     rw [e2]
     simp only
     split at h
     . split at h
       . rename_i e3
         obtain⟨_,rfl⟩:=Ó (Af h)
         exact⟨CG e3,hk⟩
       . cases h
     . split at h
       . rename_i d' d p' rest e3 e4
         obtain⟨rfl,rfl⟩:=Ó (Af h)
         obtain⟨b,rfl⟩:=hp _ rfl
         refine⟨b,?_⟩
         have hk:B1 P ops K l { st' with env:=(d,p')::rest }:=hk
         rw [<- e4] at hk
         exact hk
       . cases h
     . cases h
   . rename_i e2
     rw [e2]
     simp only
     split at h
     . rename_i f args e3
       rw [e3]
       simp only
       split at h
       . obtain⟨rfl,rfl⟩:=Ó (Af h)
         refine (hp _ rfl st.σ).mono ?_
         rintro x σ' ⟨rfl,rfl⟩
         exact hk
       . split at h
         . rename_i a
           obtain⟨rfl,rfl⟩:=Ó (Af h)
           refine (Jq a (hp _ rfl)).mono ?_
           rintro x σ' ⟨rfl,rfl⟩
           exact hk
         . cases h
       . split at h
         . rename_i a
           obtain⟨rfl,rfl⟩:=Ó (Af h)
           refine (Jq a (hp _ rfl)).mono ?_
           rintro x σ' ⟨rfl,rfl⟩
           exact hk
         . cases h
       . obtain⟨rfl,rfl⟩:=Ó (Af h)
         refine VC.mono (hp _ rfl) ?_
         rintro x σ' ⟨rfl,rfl⟩
         exact hk
       . obtain⟨rfl,rfl⟩:=Ó (Af h)
         refine VC.mono (hp _ rfl) ?_
         rintro x σ' ⟨rfl,rfl⟩
         exact hk
       . cases h
     . rename_i e3
       rw [e3]
       simp only
       split at h
       . rename_i v e4
         rw [e4]
         split at h
         . obtain⟨rfl,rfl⟩:=Ó (Af h);exact hk
         . cases h
       . cases h
 . cases h
theorem Ia {P:Program}{ops:Array Oper}{K:AX->St->Prop}{st:St}{s1:Rn}{o:Oper}{q:H4}{p:Option Prop}{l:List Oper}
 (h:RJ P ops st o q=some (p,s1)) (hp:∀ x,p=some x->x) (hk:s1.holds K (B1 P ops K l)):B1 P ops K (o::l) st:=by
 unfold RJ at h
 split at h
 . split at h
   . rename_i a
     split at h
     . rename_i b
       obtain⟨rfl,rfl⟩:=Ó (Af h)
       have c:=(Pb b (hp _ rfl)).1
       unfold B1
       rw [a,c]
       exact⟨rfl,hk⟩
     . cases h
   . cases h
 . split at h
   . rename_i f args c d e
     obtain⟨rfl,rfl⟩:=Ó (Af h)
     obtain⟨k1,k2⟩:=hp _ rfl
     unfold B1
     rw [c]
     simp only
     rw [d]
     simp only
     rw [S0 e k1]
     refine (k2 st.σ).mono ?_
     rintro x σ' ⟨rfl,rfl⟩
     exact hk
   . cases h
 . split at h
   . rename_i a b
     obtain⟨rfl,rfl⟩:=Ó (Af h)
     unfold B1
     rw [a,Pa b (hp _ rfl)]
     exact⟨rfl,hk⟩
   . cases h
 . split at h
   . rename_i a b
     obtain⟨rfl,rfl⟩:=Ó (Af h)
     unfold B1
     rw [a,OZ b (hp _ rfl)]
     exact⟨rfl,hk⟩
   . cases h
 . exact UA h hp hk
theorem FJ {P:Program}{ops:Array Oper}{K:AX->St->Prop}:∀ {l:List Oper} {qs:List H4} {st:St} {s1:Rn} {p:Prop},Pj P ops l qs st=some (p,s1)->p->s1.holds K (K .normal)->B1 P ops K l st
 | [],_,st,st1,p,h,_,hk=>by
  obtain⟨_,rfl⟩:=Ó (Af h)
  exact hk
 |_::_,[],_,_,_,h,_,_=>by cases h
 |o::l,q::qs,st,st1,p,h,hp,hk=>by
  unfold Pj at h
  split at h
  . rename_i p1 st2 e
    split at h
    . rename_i p2 st3 e2
      obtain⟨rfl,rfl⟩:=Ó (Af h)
      obtain⟨h1,h2⟩:=G6 hp
      exact Ia e h1 (FJ e2 h2 hk)
    . cases h
  . rename_i p1 c st2 e
    obtain⟨rfl,rfl⟩:=Ó (Af h)
    obtain⟨h1,h2⟩:=G6 hp
    exact Ia e h1 hk
  . cases h
def TV (M:List Nat)(c:Nat)(L:List Nat):Option (Prop×Rn)->Option (Prop×St)
 |some (p,.at_ st)=>some (p,low M c (clr L st))
 |_=>none
def Afz:Option (Prop×Rn)->Option (Prop×(List PanicEntry×List (List PV)))
 |some (p,.pan c st)=>some (p,(c,st.σ))
 |_=>none
theorem Lf {M:List Nat}{c:Nat}{L:List Nat}{x:Option (Prop×Rn)}{p:Prop}{S:St}(h:TV M c L x=some (p,S)):∃ st,x=some (p,.at_ st)/\low M c (clr L st)=S:=by
 unfold TV at h
 split at h
 . rename_i p' st
   obtain⟨rfl,rfl⟩:=Ó (Af h)
   exact⟨st,rfl,rfl⟩
 . cases h
theorem Ad0 {P:Program}{L:Cf}{N:Nat}{k:List TI}{Q:AX->St->Prop}{st:St}{i:Nat}{ops:Array Oper}{d:Bool}(M:List Nat)(c:Nat)(qs:List H4)(S:St){p:Prop}(hp:p)
 (he:TV M c L.L (Pj P ops ops.toList qs st)=some (p,S)) (hn:Di L.pl i=none) (hk:Tz k=true) (hc:N<=c) (h:WS P L N k Q S):WS P L N (.code (.region i ops d)::k) Q st:=by
 obtain⟨st1,e,rfl⟩:=Lf he
 refine H3 hn ?_
 intro K' a _
 exact FJ e hp (a _ _ rfl (JJ M c hk hc rfl h))
def Yb (P:Program)(ops:Array Oper)(M:List Nat)(st:St)(i:Nat)(o:Oper)(q:H4):Option (Option Prop×Rn) :=
 match Cy ops st o with
 |some false=>match q with
  |.no=>some (none,.at_ (st.put o.dst (.lit (.tuple #[]))))
  |_=>none
 |some true=>match Hl P o st with
  |some (c,st')=>match okB (WY M o st&&Q7 ops M i o st) with
   |none=>none
   |some _=>match q with
    |.no=>match okB c with
     |some _=>some (none,.at_ st')
     |none=>none
    |.val p=>match o.dst,st'.env with
     |some _,(d,p')::rest=>some (some (c=true/\p'=p),.at_ { st' with env:=(d,p)::rest })
     |_,_=>none
    |_=>none
  |none=>match Eo P o st with
   |some (f,args)=>match DM ops (Co ops) i with
    |true=>match q with
     |.call r=>match args with
      |.ptr _ _::_=>none
      |args=>match okB (EO args) with
       |some _=>some (some (Cz P f args r),.at_ ((st.aftK (fun _=>true) (st.σ++[])).put o.dst (r.shift st.σ.length)))
       |none=>none
     |.meth r cs'=>match args with
      |.ptr k 0::more=>match okB (Sh k M&&(PV.fitsL 0 (st.σ.getD k [])&&(EO more&&(decide (k<st.σ.length)&&(PV.fitsL 0 cs'&&FC (.ret r)))))) with
       |some _=>some (some (Df P f more (st.σ.getD k []) (.ret r) cs'),.at_ ((st.aftK (fun q=>q != k) (st.σ.set k cs')).put o.dst r))
       |none=>none
      |_=>none
     |.mpan c cs'=>match args with
      |.ptr k 0::more=>match okB (Sh k M&&(PV.fitsL 0 (st.σ.getD k [])&&(EO more&&(decide (k<st.σ.length)&&(PV.fitsL 0 cs'&&FC (.pan c)))))) with
       |some _=>some (some (Df P f more (st.σ.getD k []) (.pan c) cs'),.pan c { st with σ:=st.σ.set k cs' })
       |none=>none
      |_=>none
     |_=>none
    |false=>match q with
     |.call r=>some (some (Cz P f args r),.at_ ((st.aft st.σ).put o.dst r))
     |.meth r cs'=>match Rg P f args st.σ (.ret r) cs' with
      |some (p,σ1)=>some (some p,.at_ ((st.aft σ1).put o.dst r))
      |none=>none
     |.mpan c cs'=>match Rg P f args st.σ (.pan c) cs' with
      |some (p,σ1)=>some (some p,.pan c { st with σ:=σ1 })
      |none=>none
     |.site r σ1=>some (some (I2 P f args st.σ (.ret r) σ1),.at_ ((st.aft σ1).put o.dst r))
     |.sitep c σ1=>some (some (I2 P f args st.σ (.pan c) σ1),.pan c { st with σ:=σ1 })
     |_=>none
   |none=>none
 |none=>none
def Ni (P:Program)(ops:Array Oper)(M:List Nat)(st:St)(i:Nat)(o:Oper)(q:H4):Option (Option Prop×Rn) :=
 match q with
 |.look v b=>match Cy ops st o with
  |some true=>match VS P o st v b with
   |some (p,st1)=>some (some p,.at_ st1)
   |none=>none
  |_=>none
 |.ald p=>match Cy ops st o,VR P o st p,okB (WY M o st&&Q7 ops M i o st) with
  |some true,some (p,st1),some _=>some (some p,.at_ st1)
  |_,_,_=>none
 |.ast cs=>match Cy ops st o,VQ P o st cs,okB (WY M o st&&Q7 ops M i o st) with
  |some true,some (p,st1),some _=>some (some p,.at_ st1)
  |_,_,_=>none
 |q=>Yb P ops M st i o q
def Yh (P:Program)(ops:Array Oper)(M:List Nat):List Nat->List H4->St->Option (Prop×Rn)
 | [],_,st=>some (True,.at_ st)
 |_::_,[],_=>none
 |i::l,q::qs,st=>match ops[i]? with
  |some o=>match Ni P ops M st i o q with
   |some (p,.at_ st1)=>match Yh P ops M l qs st1 with
    |some (p2,st2)=>some (Us p p2,st2)
    |none=>none
   |some (p,.pan c st1)=>some (Us p True,.pan c st1)
   |none=>none
  |none=>none
theorem UB {P:Program}{ops:Array Oper}{M:List Nat}{K:AX->St->Prop}{st:St}{s1:Rn}{i:Nat}{o:Oper}{q:H4}{p:Option Prop}{l:List Nat}(ho:ops[i]?=some o)
 (h:Yb P ops M st i o q=some (p,s1)) (hp:∀ x,p=some x->x) (hk:s1.holds K (BH P ops M K l)):BH P ops M K (i::l) st:=by
 unfold Yb at h
 unfold BH
 rw [ho]
 simp only
 split at h
 . rename_i e
   rw [e]
   split at h
   . obtain⟨_,rfl⟩:=Ó (Af h);exact hk
   . cases h
 . rename_i e
   rw [e]
   simp only
   split at h
   . rename_i c st' e2
     rw [e2]
     simp only
     split at h
     . cases h
     . rename_i er
       split at h
       . split at h
         . rename_i e3
           obtain⟨_,rfl⟩:=Ó (Af h)
           exact⟨CG e3,CG er,hk⟩
         . cases h
       . split at h
         . rename_i d' d p' rest e3 e4
           obtain⟨rfl,rfl⟩:=Ó (Af h)
           obtain⟨j,rfl⟩:=hp _ rfl
           refine⟨j,CG er,?_⟩
           have hk:BH P ops M K l { st' with env:=(d,p')::rest }:=hk
           rw [<- e4] at hk
           exact hk
         . cases h
       . cases h
   . rename_i e2
     rw [e2]
     simp only
     split at h
     . rename_i f args e3
       rw [e3]
       simp only
       split at h
       . rename_i en
         rw [en]
         simp only [ø]
         split at h
         . split at h
           . cases h
           . rename_i args' b
             split at h
             . rename_i ep
               obtain⟨rfl,rfl⟩:=Ó (Af h)
               split
               . exact absurd rfl (b _ _ _)
               . refine⟨CG ep,(hp _ rfl []).mono ?_⟩
                 rintro x σ' ⟨rfl,rfl⟩
                 exact hk
             . cases h
         . split at h
           . split at h
             . rename_i ep
               obtain⟨rfl,rfl⟩:=Ó (Af h)
               have a:=CG ep
               simp only [Æ,Í] at a
               refine⟨a.1,a.2.1,a.2.2.1,a.2.2.2.1,VC.mono (hp _ rfl) ?_⟩
               rintro x σ' ⟨rfl,rfl⟩
               exact⟨_,rfl,a.2.2.2.2.1,a.2.2.2.2.2,hk⟩
             . cases h
           . cases h
         . split at h
           . split at h
             . rename_i ep
               obtain⟨rfl,rfl⟩:=Ó (Af h)
               have a:=CG ep
               simp only [Æ,Í] at a
               refine⟨a.1,a.2.1,a.2.2.1,a.2.2.2.1,VC.mono (hp _ rfl) ?_⟩
               rintro x σ' ⟨rfl,rfl⟩
               exact⟨_,rfl,a.2.2.2.2.1,a.2.2.2.2.2,hk⟩
             . cases h
           . cases h
         . cases h
       . rename_i en
         rw [en]
         simp only [â,û]
         split at h
         . obtain⟨rfl,rfl⟩:=Ó (Af h)
           refine (hp _ rfl st.σ).mono ?_
           rintro x σ' ⟨rfl,rfl⟩
           exact hk
         . split at h
           . rename_i g
             obtain⟨rfl,rfl⟩:=Ó (Af h)
             refine (Jq g (hp _ rfl)).mono ?_
             rintro x σ' ⟨rfl,rfl⟩
             exact hk
           . cases h
         . split at h
           . rename_i g
             obtain⟨rfl,rfl⟩:=Ó (Af h)
             refine (Jq g (hp _ rfl)).mono ?_
             rintro x σ' ⟨rfl,rfl⟩
             exact hk
           . cases h
         . obtain⟨rfl,rfl⟩:=Ó (Af h)
           refine VC.mono (hp _ rfl) ?_
           rintro x σ' ⟨rfl,rfl⟩
           exact hk
         . obtain⟨rfl,rfl⟩:=Ó (Af h)
           refine VC.mono (hp _ rfl) ?_
           rintro x σ' ⟨rfl,rfl⟩
           exact hk
         . cases h
     . cases h
 . cases h
theorem ES {P:Program}{ops:Array Oper}{M:List Nat}{K:AX->St->Prop}{st:St}{s1:Rn}{i:Nat}{o:Oper}{q:H4}{p:Option Prop}{l:List Nat}(ho:ops[i]?=some o)
 (h:Ni P ops M st i o q=some (p,s1)) (hp:∀ x,p=some x->x) (hk:s1.holds K (BH P ops M K l)):BH P ops M K (i::l) st:=by
 unfold Ni at h
 split at h
 . split at h
   . rename_i a
     split at h
     . rename_i b
       obtain⟨rfl,rfl⟩:=Ó (Af h)
       obtain⟨c,d⟩:=Pb b (hp _ rfl)
       unfold BH
       rw [ho]
       simp only
       rw [a,c]
       exact⟨rfl,d ops M _,hk⟩
     . cases h
   . cases h
 . split at h
   . rename_i a b hb
     obtain⟨rfl,rfl⟩:=Ó (Af h)
     unfold BH
     rw [ho]
     simp only
     rw [a,Pa b (hp _ rfl)]
     exact⟨rfl,CG hb,hk⟩
   . cases h
 . split at h
   . rename_i a b hb
     obtain⟨rfl,rfl⟩:=Ó (Af h)
     unfold BH
     rw [ho]
     simp only
     rw [a,OZ b (hp _ rfl)]
     exact⟨rfl,CG hb,hk⟩
   . cases h
 . exact UB ho h hp hk
theorem KV {P:Program}{ops:Array Oper}{M:List Nat}{K:AX->St->Prop}:∀ {l:List Nat} {qs:List H4} {st:St} {s1:Rn} {p:Prop},Yh P ops M l qs st=some (p,s1)->p->s1.holds K (K .normal)->BH P ops M K l st
 | [],_,st,st1,p,h,_,hk=>by
  obtain⟨_,rfl⟩:=Ó (Af h)
  exact hk
 |_::_,[],_,_,_,h,_,_=>by cases h
 |i::l,q::qs,st,st1,p,h,hp,hk=>by
  unfold Yh at h
  split at h
  . rename_i o ho
    split at h
    . rename_i p1 st2 e
      split at h
      . rename_i p2 st3 e2
        obtain⟨rfl,rfl⟩:=Ó (Af h)
        obtain⟨h1,h2⟩:=G6 hp
        exact ES ho e h1 (KV e2 h2 hk)
      . cases h
    . rename_i p1 c st2 e
      obtain⟨rfl,rfl⟩:=Ó (Af h)
      obtain⟨h1,h2⟩:=G6 hp
      exact ES ho e h1 hk
    . cases h
  . cases h
def RS (P:Program)(fn:Func)(N:Nat)(st:St):Option (PV×List (List PV)) :=
 match Jz P fn.results.toList st with
 |some (c,ps,st')=>match okB c with
  |some _=>some (L3 ps,HY N (L3 ps) st'.σ)
  |none=>none
 |none=>none
theorem IB {P:Program}{fn:Func}{N:Nat}{st:St}{Q:Cb->List (List PV)->Prop}{r:PV}{σ:List (List PV)}(h:RS P fn N st=some (r,σ))(hq:Q (.ret r) σ):C6 P fn N Q .ret st/\C6 P fn N Q .normal st:=by
 unfold RS at h
 unfold C6
 simp only
 split at h
 . rename_i c ps st' e
   rw [e]
   split at h
   . rename_i e3
     obtain⟨rfl,rfl⟩:=Ó (Af h)
     have a:c=true:=CG e3
     exact⟨⟨a,hq⟩,a,hq⟩
   . cases h
 . cases h
def RM:Option (PV×List (List PV))->Option (PV×List (List PV))
 |some (p,σ)=>some (shareP p,σ)
 |none=>none
theorem GV {P:Program}{fn:Func}{N:Nat}{st:St}{Q:Cb->List (List PV)->Prop}{R:PV}{σ:List (List PV)}(hQ:∀ y,shareP y=R->Q (.ret y) σ)(h:RM (RS P fn N st)=some (R,σ)):C6 P fn N Q .ret st/\C6 P fn N Q .normal st:=by
 cases e:RS P fn N st with
 |none=>rw [e] at h;cases h
 |some x =>
  obtain⟨p,σ1⟩:=x
  rw [e] at h
  obtain⟨rfl,rfl⟩:=Ó (Af h)
  exact IB e (hQ p rfl)
theorem Tq {P:Program}{fn:Func}{N:Nat}{st:St}{Q:Cb->List (List PV)->Prop}{R:PV}{σ:List (List PV)}(hQ:∀ y,y=R->Q (.ret y) σ)(h:RS P fn N st=some (R,σ)):C6 P fn N Q .ret st/\C6 P fn N Q .normal st:=IB h (hQ R rfl)
theorem oi {α:Type}{l:List α}{row:α->List PV}{n:Nat}{i:Int}{x:α}{R:List PV}(h:gi l i=some x)(hn:∀ x,(row x).length=n)(hr:row x=R) :
 decide (0<=i/\i<((l.map row).length:Int)/\((l.map row).getD i.toNat []).length=n)=true/\PV.vptr ((l.map row).getD i.toNat []) 0=.vptr R 0:=by
 obtain⟨a,b,c⟩:=Aez l row (R:=row) (fun _=>rfl) h
 rw [c,hr,Î,Í]
 exact⟨⟨a,b,by rw [<- hr,hn]⟩,rfl⟩
theorem ob {s:Å}{i x:Int}(h:gb s i=some x):decide (0<=i/\i<(s.size:Int))=true/\PV.lit (.int .u8 ((s.data.toList.getD i.toNat 0).toNat:Int))=.lit (.int .u8 x):=by
 obtain⟨a,b,c⟩:=Ae0 h
 rw [c,Í];exact⟨⟨a,b⟩,rfl⟩
theorem Afl {s t:Å}{l h:Int}(e:MC s l h=some t):decide (0<=l/\l<=h/\h<=(s.size:Int))=true/\PV.lit (.string (s.extract l.toNat h.toNat))=.lit (.string t):=by
 obtain⟨a,b⟩:=Aa0 e
 rw [b,Í];exact⟨a,rfl⟩
theorem osl {α:Type}{x y:List α}{l h:Int}{row:α->List PV}{n:Nat}(e:ZD x l h=some y)(hn:∀ x,(row x).length=n) :
 (decide (0<=l/\l<=h/\h<=((x.map row).length:Int))&&(x.map row).all (fun x=>x.length == n))=true/\PV.sl (((x.map row).take h.toNat).drop l.toNat) .shared=.sl (y.map row) .shared:=by
 obtain⟨a,b⟩:=Adh row hn e
 rw [b,Î];exact⟨a,rfl⟩
theorem Yy {α:Type}{b:Nat}{x y z:List α}{row:α->List PV}{n:Nat}(e:CH b x y=some z)(hn:∀ x,(row x).length=n) :
 (decide (((x.map row).length+(y.map row).length)*b<=140737488355328)&&((x.map row).all (fun x=>x.length == n)&&((y.map row).all (fun x=>x.length == n)&&(!false||!(y.map row).isEmpty))))=true/\PV.sl (x.map row++y.map row) .own=.sl (z.map row) .own:=by
 obtain⟨a,c⟩:=O7 row hn e
 rw [c,Î,Î]
 refine⟨?_,rfl⟩
 rw [Ģ,Bool.true_or,Ğ];exact a
theorem Acq {α:Type}(l:List α):l=[]∨l≠[]:=by cases l<;>simp
theorem Aee {α:Type}{b:Nat}{x y z:List α}{row:α->List PV}{n:Nat}(e:CH b x y=some z)(hn:∀ x,(row x).length=n)(hy:y≠[]) :
 (decide (((x.map row).length+(y.map row).length)*b<=140737488355328)&&((x.map row).all (fun x=>x.length == n)&&((y.map row).all (fun x=>x.length == n)&&(!true||true))))=true/\PV.sl (x.map row++y.map row) (if (y.map row).isEmpty=true then .full else .own)=.sl (z.map row) .own:=by
 obtain⟨a,c⟩:=O7 row hn e
 rw [c,Î,Î,Ä (by simpa using hy)]
 refine⟨?_,rfl⟩
 rw [Bool.or_true,Ğ];exact a
theorem Aef {α:Type}{b:Nat}{x y z:List α}{row:α->List PV}{n:Nat}(e:CH b x y=some z)(hn:∀ x,(row x).length=n)(hy:y=[]) :
 (decide (((x.map row).length+(y.map row).length)*b<=140737488355328)&&((x.map row).all (fun x=>x.length == n)&&((y.map row).all (fun x=>x.length == n)&&(!true||true))))=true/\PV.sl (x.map row++y.map row) (if (y.map row).isEmpty=true then .full else .own)=.sl (z.map row) .full:=by
 obtain⟨a,c⟩:=O7 row hn e
 rw [c,Î,Î,Ç (by rw [hy];rfl)]
 refine⟨?_,rfl⟩
 rw [Bool.or_true,Ğ];exact a
theorem Afn {a b c:Å}(e:MD a b=some c):decide (a.size+b.size<=9223372036854775807)=true/\PV.lit (.string (a++b))=.lit (.string c):=by
 obtain⟨d,f⟩:=Aa1 e
 rw [f,Í];exact⟨d,rfl⟩
theorem onn {k:IntKind}{b e q:Int}(h:gnn b e=some q):decide (0<=b)=true/\PV.lit (.int k e)=.lit (.int k q):=by
 obtain⟨a,c⟩:=Adk h
 rw [c,Í];exact⟨a,rfl⟩
theorem NZ {e b:Bool}(h:e=b):true=true/\PV.lit (.bool e)=.lit (.bool b):=⟨rfl,by rw [h]⟩
theorem CP {xs ys:List (List PV)}{c:Bool}(hc:c=true)(h:xs=ys):c=true/\PV.sl xs .own=.sl ys .own:=⟨hc,by rw [h]⟩
theorem Xe {α:Type}(l:List α)(row:α->List PV):true=true/\PV.lit (.int .i64 ((l.map row).length:Int))=.lit (.int .i64 (l.length:Int)):=⟨rfl,by rw [Î]⟩
theorem Afm {α:Type}{x y:List α}{l:Int}{row:α->List PV}{n:Nat}(e:ZD x l (x.length:Int)=some y)(hn:∀ x,(row x).length=n) :
 (decide (0<=l/\l<=((x.map row).length:Int)/\((x.map row).length:Int)<=((x.map row).length:Int))&&(x.map row).all (fun x=>x.length == n))=true/\PV.sl (((x.map row).take ((x.map row).length:Int).toNat).drop l.toNat) .shared=.sl (y.map row) .shared:=by
 have h:=osl (row:=row) e hn
 rw [Î] at h ⊢
 exact h
theorem Df.fin {P:Program}{f:FuncId}{args cs cs':List PV}{R:PV}(h:∀ Q:Cb->List (List PV)->Prop,(∀ y,shareP y=R->Q (.ret y) [cs'])->VC P f (.ptr 0 0::args) [cs] Q):Df P f args cs (.ret R) cs':=by
 refine VC.less (h (fun x σ'=>∃ y,shareP y=R/\x=.ret y/\σ'=[cs']) fun y a=>⟨y,a,rfl,rfl⟩) ?_
 rintro x σ' ⟨y,rfl,rfl,rfl⟩
 exact⟨.ret (shareP y),⟨rfl,rfl⟩,fun w G e b=>CT.shareP b⟩
theorem Df.finP {P:Program}{f:FuncId}{args cs cs':List PV}{c:List PanicEntry}(h:∀ Q:Cb->List (List PV)->Prop,Q (.pan c) [cs']->VC P f (.ptr 0 0::args) [cs] Q):Df P f args cs (.pan c) cs':=h _ ⟨rfl,rfl⟩
theorem I2.fin {P:Program}{f:FuncId}{args:List PV}{σ σ1:List (List PV)}{R:PV}(h:∀ Q:Cb->List (List PV)->Prop,(∀ y,shareP y=R->Q (.ret y) σ1)->VC P f args σ Q):I2 P f args σ (.ret R) σ1:=by
 refine VC.less (h (fun x σ'=>∃ y,shareP y=R/\x=.ret y/\σ'=σ1) fun y a=>⟨y,a,rfl,rfl⟩) ?_
 rintro x σ' ⟨y,rfl,rfl,rfl⟩
 exact⟨.ret (shareP y),⟨rfl,rfl⟩,fun w G e b=>CT.shareP b⟩
def Dl (l:List (ByteArray×Int))(k:Å):Int×Bool :=
 match l with
 | []=>(0,false)
 |(a,v)::r=>if k=a then (v,true) else Dl r k
def M7 (l:List (ByteArray×Int)):List (Value×Value):=l.map fun x=>(.string x.1,.int .i64 x.2)
abbrev iP (x:Int):PV:=.lit (.int .i64 x)
abbrev uP (x:Int):PV:=.lit (.int .u8 x)
abbrev bP (x:Bool):PV:=.lit (.bool x)
abbrev tP (x:Å):PV:=.lit (.string x)
abbrev hP {α:Type}(l:List α)(row:α->List PV):PV:=.sl (l.map row) .shared
abbrev oP {α:Type}(l:List α)(row:α->List PV):PV:=.sl (l.map row) .own
section
variable {P:Program} {L:Cf} {N:Nat} {k k':List TI} {Q:AX->St->Prop} {st:St} {a b:Code} {id:Nat}
theorem z1 (h:WS P L N (.code a::.code b::k) Q st):WS P L N (.code (.seq a b)::k) Q st:=Adz h
theorem z2 (h:WS P L N k Q st):WS P L N (.blk id::k) Q st:=h
theorem z3 (h:WS P L N k Q st):WS P L N (.code .skip::k) Q st:=WA h
theorem z4 {l:Nat}(h:WS P L N k Q st):WS P L N (.code (.label l)::k) Q st:=Zw h
end
theorem wr {P:Program}{L:Cf}{N:Nat}{k:List TI}{Q:AX->St->Prop}{st:St}{i:Nat}{ops:Array Oper}{d:Bool}(M:List Nat)(c:Nat)(qs:List H4)(S:St){p:Prop}(hp:p)
 (he:(TV M c L.L (Pj P ops ops.toList qs st),Di L.pl i,Tz k,Nat.ble N c)=(some (p,S),none,true,true)) (h:WS P L N k Q S):WS P L N (.code (.region i ops d)::k) Q st:=by
 obtain⟨e,a⟩:=Ó he
 obtain⟨a,b⟩:=Ó a
 obtain⟨b,f⟩:=Ó b
 exact Ad0 M c qs S hp e a b (Ø f) h
def DP:Nat->List H4->List H4
 |0,l=>l
 |n+1,l=>.no::DP n l
def YJ (P:Program)(oi oj ok ol:Oper)(ys:List (List PV))(st:St):Option (Prop×St) :=
 match oi.op,oi.dst,oj.op,oj.dst,ok.op,ok.dst,ol.op,ol.dst with
 |.call c,some d1,.indexAddr T (.tmp e1) ix,some d2,.store T3 (.tmp e2) z,none,.store T4 xl (.tmp e3),none =>
  match c.callee,c.args.toList,c.argTypes.toList with
  |.builtin .append,[x,y],[t,t'] =>
   match Zk P t,Fy st x with
   |some (sz,bytes),some (xs,_,st1) =>
    match GY P t' sz st y,Ck st ix,VX P T with
    |some [zr],.lit (.int _ n),some (sz2,_) =>
     match GM P T4 ((st1.put (some d1) (.sl ys .own)).put (some d2) .undef) xl (.tmp d1) with
     |some (c,st3)=>match okB (c&&(decide (e1=d1/\e2=d2/\e3=d1/\d1≠d2/\sz2=sz/\Lv P T3=some sz/\zr.length=sz)&&((Oz ix d1&&(Oz z d1&&(Oz z d2&&(Oz xl d1&&Oz xl d2))))&&Ig sz (Ck st z)))) with
      |some _=>some (n=(xs.length:Int)/\decide ((xs.length+1)*max bytes 1<=140737488355328)=true/\xs.all (fun x=>x.length == sz)=true/\xs++[rowOf (Ck st z)]=ys,st3)
      |none=>none
     |none=>none
    |_,_,_=>none
   |_,_=>none
  |_,_,_=>none
 |_,_,_,_,_,_,_,_=>none
theorem Vo {P:Program}{oi oj ok ol:Oper}{ys:List (List PV)}{st st3:St}{p:Prop}(h:YJ P oi oj ok ol ys st=some (p,st3))(hp:p):four P oi oj ok ol st=some (true,st3):=by
 unfold YJ at h
 unfold four
 split at h
 . split at h
   . split at h
     . split at h
       . split at h
         . rename_i c2 st4 b
           split at h
           . rename_i a
             obtain⟨rfl,rfl⟩:=Ó (Af h)
             obtain⟨c,d,e,rfl⟩:=hp
             have a:=CG a
             simp only [Æ] at a
             simp only [*,Ğ,decide_true]
           . cases h
         . cases h
       . cases h
     . cases h
   . cases h
 . cases h
def YI (P:Program)(ops:Array Oper)(t:List Nat)(ys:List (List PV))(st:St):Option (Prop×St) :=
 match t with
 | [i,j,k,l]=>match ops[i]?,ops[j]?,ops[k]?,ops[l]? with
  |some oi,some oj,some ok,some ol=>match okB (GI oi&&(GI oj&&(GI ok&&GI ol))) with
   |some _=>YJ P oi oj ok ol ys st
   |none=>none
  |_,_,_,_=>none
 |_=>none
theorem Vn {P:Program}{ops:Array Oper}{K:AX->St->Prop}{t:List Nat}{ys:List (List PV)}{st st3:St}{p:Prop}(h:YI P ops t ys st=some (p,st3))(hp:p)(hk:K .normal st3):J4 P ops K t st:=by
 unfold YI at h
 unfold J4
 split at h
 . split at h
   . split at h
     . rename_i a
       have a:=CG a
       have b:=Vo h hp
       simp only [*,Ğ]
       exact⟨trivial,trivial⟩
     . cases h
   . cases h
 . cases h
def Aaa (P:Program)(ops:Array Oper)(M pre:List Nat)(qs:List H4)(t:List Nat)(ys:List (List PV))(st:St):Option (Prop×Rn) :=
 match Yh P ops M pre qs st with
 |some (p,.at_ st1)=>match YI P ops t ys st1 with
  |some (p2,st2)=>some (p/\p2,.at_ st2)
  |none=>none
 |some (p,.pan c st1)=>some (p,.pan c st1)
 |none=>none
theorem QS {P:Program}{ops:Array Oper}{M pre:List Nat}{K:AX->St->Prop}{qs:List H4}{t:List Nat}{ys:List (List PV)}{st:St}{s1:Rn}{p:Prop}(h:Aaa P ops M pre qs t ys st=some (p,s1))(hp:p)(hk:s1.holds K (K .normal)):BH P ops M (Ei P ops K t) pre st:=by
 unfold Aaa at h
 split at h
 . rename_i p1 st1 e
   split at h
   . rename_i p2 st2 e2
     obtain⟨rfl,rfl⟩:=Ó (Af h)
     exact KV e hp.1 (Vn e2 hp.2 hk)
   . cases h
 . rename_i p1 c st1 e
   obtain⟨rfl,rfl⟩:=Ó (Af h)
   exact KV e hp hk
 . cases h
def WV (P:Program)(ops:Array Oper)(M pre:List Nat)(qs:List H4)(x y:Nat)(qx qy:H4)(t:List Nat)(ys:List (List PV))(st:St):Option (Prop×Rn×Rn) :=
 match Yh P ops M pre qs st with
 |some (p,.at_ st1)=>match Aaa P ops M [x,y] [qx,qy] t ys st1,Aaa P ops M [y,x] [qy,qx] t ys st1 with
  |some (p1,s1),some (p2,s2)=>some (p/\p1/\p2,s1,s2)
  |_,_=>none
 |_=>none
theorem QR {P:Program}{ops:Array Oper}{M pre:List Nat}{K:AX->St->Prop}{qs:List H4}{x y:Nat}{qx qy:H4}{t:List Nat}{ys:List (List PV)}{st:St}{s1 s2:Rn}{p:Prop}(h:WV P ops M pre qs x y qx qy t ys st=some (p,s1,s2))(hp:p)(hk1:s1.holds K (K .normal))(hk2:s2.holds K (K .normal)) :
 BH P ops M (Ir P ops M (Ei P ops K t) [x,y]) pre st:=by
 unfold WV at h
 split at h
 . rename_i p0 st1 e
   split at h
   . rename_i p1 s1' p2 s2' e1 e2
     simp only [Â,È] at h
     obtain⟨rfl,rfl,rfl⟩:=h
     exact KV e hp.1 ⟨QS e1 hp.2.1 hk1,QS e2 hp.2.2 hk2⟩
   . cases h
 . cases h
def Aa8 (M:List Nat)(c:Nat)(L:List Nat):Option (Prop×Rn×Rn)->Option (Prop×St×St)
 |some (p,.at_ s1,.at_ s2)=>some (p,low M c (clr L s1),low M c (clr L s2))
 |_=>none
theorem Xy {M:List Nat}{c:Nat}{L:List Nat}{x:Option (Prop×Rn×Rn)}{p:Prop}{S1 S2:St}(h:Aa8 M c L x=some (p,S1,S2)):∃ s1 s2,x=some (p,.at_ s1,.at_ s2)/\low M c (clr L s1)=S1/\low M c (clr L s2)=S2:=by
 unfold Aa8 at h
 split at h
 . rename_i p' s1 s2
   simp only [Â,È] at h
   obtain⟨rfl,rfl,rfl⟩:=h
   exact⟨s1,s2,rfl,rfl,rfl⟩
 . cases h
theorem wrG {P:Program}{L:Cf}{N:Nat}{k:List TI}{Q:AX->St->Prop}{st:St}{i:Nat}{ops:Array Oper}{d:Bool}(PM t:List Nat)(x y i1 i2 i3 i4:Nat)(M:List Nat)(c:Nat)(qs:List H4)(qx qy:H4)(ys:List (List PV))(S:St){p:Prop}(hp:p)
 (he:(Aa8 M c L.L (WV P ops PM t qs x y qx qy [i1,i2,i3,i4] ys st),Di L.pl i,Tz k,Nat.ble N c)=(some (p,S,S),some (9997::PM.length::(PM++(t++[x,y,i1,i2,i3,i4]))),true,true)) (h:WS P L N k Q S):WS P L N (.code (.region i ops d)::k) Q st:=by
 obtain⟨j,b⟩:=Ó he
 obtain⟨b,a⟩:=Ó b
 obtain⟨a,f⟩:=Ó a
 obtain⟨s1,s2,e,e1,e2⟩:=Xy j
 refine Uv PM t x y i1 i2 i3 i4 b ?_
 intro K' g _
 exact QR e hp (g _ _ rfl (JJ M c a (Ø f) e1 h)) (g _ _ rfl (JJ M c a (Ø f) e2 h))
theorem Afe {P:Program}{L:Cf}{N:Nat}{k:List TI}{fn:Func}{Q:Cb->List (List PV)->Prop}{st:St}{i:Nat}{ops:Array Oper}{d:Bool}(PM t:List Nat)(x y i1 i2 i3 i4:Nat)(qs:List H4)(qx qy:H4){c:List PanicEntry}{σ:List (List PV)}{p:Prop}(hp:p)
 (he:(match WV P ops PM t qs x y qx qy [i1,i2,i3,i4] [] st with|some (p,.pan c1 s1,.pan c2 s2)=>some (p,(c1,HY N .undef s1.σ),(c2,HY N .undef s2.σ))|_=>none)=some (p,(c,σ),(c,σ))) (hn:Di L.pl i=some (9997::PM.length::(PM++(t++[x,y,i1,i2,i3,i4])))) (h:Q (.pan c) σ) :
 WS P L N (.code (.region i ops d)::k) (C6 P fn N Q) st:=by
 split at he
 . rename_i p' c1 s1 c2 s2 e
   simp only [Â,È] at he
   obtain⟨rfl,⟨rfl,a⟩,⟨rfl,b⟩⟩:=he
   refine Uv PM t x y i1 i2 i3 i4 hn ?_
   intro K' _ hP
   refine QR e hp (hP _ _ ?_) (hP _ _ ?_)
   . show Q (.pan _) (HY N .undef s1.σ);rw [a];exact h
   . show Q (.pan _) (HY N .undef s2.σ);rw [b];exact h
 . cases he
theorem Abt {α:Type}{b:Nat}{x z:List α}{f:α}{row:α->List PV}{n:Nat}{R:List PV}(e:CH b x [f]=some z)(hn:∀ x,(row x).length=n)(hr:row f=R) :
 (x.length:Int)=((x.map row).length:Int)/\decide (((x.map row).length+1)*b<=140737488355328)=true/\(x.map row).all (fun x=>x.length == n)=true/\x.map row++[R]=z.map row:=by
 obtain⟨a,c⟩:=O7 row hn e
 rw [Æ,Æ] at a
 refine⟨by rw [Î],?_,a.2.1,?_⟩
 . rw [Î];exact a.1
 . rw [<- c,<- hr];rfl
def LU:Nat->List TI->List TI
 |0,k=>k
 |n+1,.code (.seq a b)::k=>LU n (.code a::.code b::k)
 |n+1,.code .skip::k=>LU n k
 |n+1,.code (.label _)::k=>LU n k
 |n+1,.blk _::k=>LU n k
 |_+1,k=>k
theorem zp {P:Program}{L:Cf}{N:Nat}{Q:AX->St->Prop}{st:St}:∀ {n:Nat} {k:List TI},WS P L N (LU n k) Q st->WS P L N k Q st
 |0,_,h=>h
 |n+1,k,h=>by
  unfold LU at h
  split at h
  . rename_i e;cases e
  . exact z1 (zp h)
  . exact z3 (zp h)
  . exact z4 (zp h)
  . exact z2 (zp h)
  . exact h
theorem aI {a b:Prop}(h:a)(k:b):a/\b:=⟨h,k⟩
theorem tI:True:=trivial
abbrev yT:H4:=.val (.lit (.bool true))
abbrev yF:H4:=.val (.lit (.bool false))
end Go.Sp
