/-
  Partial operations on plain values, and the words with which lifted functions are walked. No program.
-/
import Derived.Test.YtehfpameijkafaaGreatDoorX4
set_option linter.unusedVariables false
set_option linter.unusedSimpArgs false
namespace Go.Sp
open Go Go.RowKit Go.Q Go.Vl
def gi {α:Type}(l:List α)(i:Int):Option α:=if 0<=i then l[i.toNat]? else none
def gb (s:Æ)(i:Int):Option Int:=if 0<=i/\i<(s.size:Int) then some ((s.data.toList.getD i.toNat 0).toNat:Int) else none
def Uq (s:Æ)(l h:Int):Option Æ:=if 0<=l/\l<=h/\h<=(s.size:Int) then some (s.extract l.toNat h.toNat) else none
def gsl {α:Type}(x:List α)(l h:Int):Option (List α):=if 0<=l/\l<=h/\h<=(x.length:Int) then some ((x.take h.toNat).drop l.toNat) else none
def CC {α:Type}(b:Nat)(x y:List α):Option (List α):=if (x.length+y.length)*b<=140737488355328 then some (x++y) else none
def gnz (b e:Int):Option Int:=if b≠0 then some e else none
def gnn (b e:Int):Option Int:=if 0<=b then some e else none
theorem Ab {α β:Type}{x:Option α}{f:α->Option β}{r:β}(h:x.bind f=some r):∃ a,x=some a/\f a=some r:=by
 cases x with
 |none=>cases h
 |some a=>exact⟨a,rfl,h⟩
theorem Aj {α:Type}{c:Bool}{a b:Option α}{r:α}(h:(bif c then a else b)=some r):(c=true/\a=some r)∨(c=false/\b=some r):=by
 cases c with
 |true=>exact .inl ⟨rfl,h⟩
 |false=>exact .inr ⟨rfl,h⟩
theorem test {e b:Bool}(h:e=b):PV.lit (.bool e)=PV.lit (.bool b):=by rw [h]
theorem Ah8 {α:Type}(l:List α)(row:α->List PV){R:α->List PV}(hr:∀ x,row x=R x){i:Int}{x:α}(h:gi l i=some x) :
 (0<=i)/\(i<(l.length:Int))/\(l.map row).getD i.toNat []=R x:=by
 unfold gi at h
 split at h
 . rename_i a
   obtain⟨b,c⟩:=List.getElem?_eq_some_iff.1 h
   refine⟨a,by omega,?_⟩
   rw [List.getD_eq_getElem?_getD,è,h,<- hr];rfl
 . cases h
theorem Aia {s:Æ}{i:Int}{x:Int}(h:gb s i=some x):(0<=i)/\(i<(s.size:Int))/\((s.data.toList.getD i.toNat 0).toNat:Int)=x:=by
 unfold gb at h
 split at h
 . rename_i a;exact⟨a.1,a.2,Ag h⟩
 . cases h
theorem Ady {s t:Æ}{l h:Int}(e:Uq s l h=some t):(0<=l/\l<=h/\h<=(s.size:Int))/\s.extract l.toNat h.toNat=t:=by
 unfold Uq at e
 split at e
 . rename_i a;exact⟨a,Ag e⟩
 . cases e
theorem UJ {α:Type}(row:α->List PV){n:Nat}(hn:∀ x,(row x).length=n)(l:List α):(l.map row).all (fun x=>x.length == n)=true:=by
 rw [Ø]
 intro x a
 obtain⟨y,_,rfl⟩:=List.mem_map.1 a
 rw [hn];exact ì n
theorem Age {α:Type}{x y:List α}{l h:Int}(row:α->List PV){n:Nat}(hn:∀ x,(row x).length=n)(e:gsl x l h=some y) :
 (decide (0<=l/\l<=h/\h<=(x.length:Int))&&(x.map row).all (fun x=>x.length == n))=true/\((x.map row).take h.toNat).drop l.toNat=y.map row:=by
 unfold gsl at e
 split at e
 . rename_i a
   obtain rfl:=Ag e
   refine⟨?_,by rw [List.map_drop,List.map_take]⟩
   rw [Å,Ï];exact⟨a,UJ row hn x⟩
 . cases e
theorem Qi {α:Type}{b:Nat}{x y z:List α}(row:α->List PV){n:Nat}(hn:∀ x,(row x).length=n)(e:CC b x y=some z) :
 (decide ((x.length+y.length)*b<=140737488355328)&&((x.map row).all (fun x=>x.length == n)&&(y.map row).all (fun x=>x.length == n)))=true/\x.map row++y.map row=z.map row:=by
 unfold CC at e
 split at e
 . rename_i a
   obtain rfl:=Ag e
   refine⟨?_,List.map_append.symm⟩
   rw [Å,Å,Ï];exact⟨a,UJ row hn x,UJ row hn y⟩
 . cases e
theorem Agf {b e q:Int}(h:gnz b e=some q):(b != 0)=true/\e=q:=by
 unfold gnz at h
 split at h
 . rename_i a;exact⟨by simpa using a,Ag h⟩
 . cases h
theorem Agg {b e q:Int}(h:gnn b e=some q):(0<=b)/\e=q:=by
 unfold gnn at h
 split at h
 . rename_i a;exact⟨a,Ag h⟩
 . cases h
def TL:PV->PV
 |.sl xs _=>.sl xs .shared
 |p=>p
def shareP:PV->PV
 |.sl xs _=>.sl xs .shared
 |.tup cs=>.tup (cs.map TL)
 |p=>p
theorem Acl {w:World}{U:Nat->Nat->Prop}{φ:List Nat}{p:PV}{v:Value}(h:V w U φ p v):V w U φ (TL p) v:=by
 unfold TL
 split
 . exact h.tag (by simp) (by simp)
 . exact h
theorem D8.shareP {w:World}{G:Gh}{p:PV}{e:Ending}(h:D8 w G (.ret p) e):D8 w G (.ret (shareP p)) e:=by
 obtain⟨v,d,b,f⟩:=h
 refine⟨v,d,?_,?_⟩
 . unfold Sp.shareP
   split
   . exact b.tag (by simp) (by simp)
   . cases b with
     |tup _ _ arr g h =>
      refine .tup _ _ _ (by rw [Ñ];exact g) fun i a=>?_
      rw [ë]
      exact Acl (h i (by rw [Ñ] at a;exact a))
   . exact b
 . unfold Sp.shareP
   split
   . trivial
   . intro i xs a
     rw [è] at a
     rename_i cs
     cases e:cs[i]? with
     |none=>rw [e] at a;cases a
     |some q =>
      rw [e] at a
      have a:=Ag a
      cases q<;>simp [TL] at a
   . exact f
def BZ (P:Program)(f:FuncId)(args:List PV)(r:PV):Prop:=∀ σ:List (List PV),VC P f args σ fun x σ'=>x=.ret r/\σ'=σ
theorem VC.fin {P:Program}{f:FuncId}{args:List PV}{R:PV}
 (h:∀ Q:Cs->List (List PV)->Prop,(∀ y,shareP y=R->Q (.ret y) [])->VC P f args [] Q) (hp:FJ args=true) (hr:R.pure=true):BZ P f args R:=by
 intro σ
 refine VC.pure ((VC.less (h (fun x _=>∃ y,shareP y=R/\x=.ret y) fun y a=>⟨y,a,rfl⟩) (Q':=fun x _=>GM x=true/\x=.ret R) ?_)) hp
 rintro x σ' ⟨y,rfl,rfl⟩
 exact⟨.ret (shareP y),⟨hr,rfl⟩,fun w G e b=>D8.shareP b⟩
theorem VC.finOwn {P:Program}{f:FuncId}{args:List PV}{R:PV}
 (h:∀ Q:Cs->List (List PV)->Prop,(∀ y,y=R->Q (.ret y) [])->VC P f args [] Q) (hp:FJ args=true) (hr:R.pure=true):BZ P f args R:=by
 intro σ
 refine VC.pure (h (fun x _=>GM x=true/\x=.ret R) ?_) hp
 rintro y rfl
 exact⟨hr,rfl⟩
inductive Ex (E S α:Type) where
 |ok (a:α) (s:S)
 |pan (e:E) (s:S)
abbrev Lb {E S α:Type}(r:Ex E S α)(A:α->S->Prop)(B:E->S->Prop):Prop :=
 match r with
 |.ok a s=>A a s
 |.pan e s=>B e s
def DP (P:Program)(f:FuncId)(args:List PV)(cs:List PV)(x:Cs)(cs':List PV):Prop:=VC P f (.ptr 0 0::args) [cs] fun y σ'=>y=x/\σ'=[cs']
theorem DP.at {P:Program}{f:FuncId}{args cs cs':List PV}{x:Cs}{σ:List (List PV)}{k:Nat}(h:DP P f args cs x cs')(hc:σ[k]?=some cs)(h1:PV.fitsL 0 cs=true)(h2:FJ args=true)(h3:PV.fitsL 0 cs'=true)(h4:GM x=true) :
 VC P f (.ptr k 0::args) σ fun y σ'=>y=x/\σ'=σ.set k cs':=by
 refine (VC.at (Q:=fun y cs2=>y=x/\cs2=cs') hc h1 h2 (VC.mono h ?_)).mono ?_
 . rintro y σ' ⟨rfl,rfl⟩
   exact⟨cs',rfl,h3,h4,rfl,rfl⟩
 . rintro y σ' ⟨cs2,⟨rfl,rfl⟩,rfl⟩
   exact⟨rfl,rfl⟩
inductive IS where
 |no
 |val (p:PV)
 |call (r:PV)
 |meth (r:PV) (cs:List PV)
 |mpan (c:List PanicEntry) (cs:List PV)
 |site (r:PV) (σ:List (List PV))
 |sitep (c:List PanicEntry) (σ:List (List PV))
 |look (v:Value) (b:Bool)
 |fcall (r:PV)
 |ald (p:PV)
 |ast (cs:List PV)
def okB:Bool->Option Unit
 |true=>some ()
 |false=>none
theorem Ds {c:Bool}{x:Unit}(h:okB c=some x):c=true:=by
 cases c with
 |true=>rfl
 |false=>cases h
inductive Rn where
 |at_ (st:St)
 |pan (c:List PanicEntry) (st:St)
def Rn.holds (K:AX->St->Prop)(X:St->Prop):Rn->Prop
 |.at_ st=>X st
 |.pan c st=>K (.pan c) st
def JW (P:Program)(f:FuncId)(args:List PV)(σ:List (List PV))(x:Cs)(σ1:List (List PV)):Prop:=VC P f args σ fun y σ'=>y=x/\σ'=σ1
def SX (P:Program)(f:FuncId)(args:List PV)(σ:List (List PV))(x:Cs)(cs':List PV):Option (Prop×List (List PV)) :=
 match args with
 |.ptr k 0::more=>match σ[k]? with
  |some cs=>match okB (PV.fitsL 0 cs&&(FJ more&&(PV.fitsL 0 cs'&&GM x))) with
   |some _=>some (DP P f more cs x cs',σ.set k cs')
   |none=>none
  |none=>none
 |_=>none
theorem KJ {P:Program}{f:FuncId}{args:List PV}{σ:List (List PV)}{x:Cs}{cs':List PV}{p:Prop}{σ1:List (List PV)}(h:SX P f args σ x cs'=some (p,σ1))(hp:p) :
 VC P f args σ fun y σ'=>y=x/\σ'=σ1:=by
 unfold SX at h
 split at h
 . split at h
   . rename_i cs b
     split at h
     . rename_i e
       obtain⟨rfl,rfl⟩:=Ô (Ag h)
       have a:=Ds e
       simp only [Å] at a
       exact DP.at hp b a.1 a.2.1 a.2.2.1 a.2.2.2
     . cases h
   . cases h
 . cases h
def Yt (d:TypeDesc)(kvs:List (Value×Value))(k:Value)(z:Option Value):Option (Value×Bool) :=
 match J8 d k kvs 0 with
 |some (some (_,v))=>some (v,true)
 |some none=>z.map fun v=>(v,false)
 |none=>none
def Ahq (ok:Bool)(v:Value)(b:Bool):PV:=if ok then .tup [G7 v,.lit (.bool b)] else G7 v
def Yd (P:Program)(o:Oper)(st:St)(v:Value)(b:Bool):Option (Prop×St) :=
 match o.op,o.dst with
 |.lookup t m k ok,some d=>match Zp P t,Yr st m,C5 st k with
  |some (dd,e),some kvs,.lit kv=>match okB (Mj dd kv) with
   |some _=>some (Yt dd kvs kv (ZP P e)=some (v,b),st.put (some d) (Ahq ok v b))
   |none=>none
  |_,_,_=>none
 |_,_=>none
theorem QH {P:Program}{o:Oper}{st st1:St}{v:Value}{b:Bool}{p:Prop}(h:Yd P o st v b=some (p,st1))(hp:p):I3 P o st=some (true,st1)/\∀ ops M i,(Zd M o st&&Sx ops M i o st)=true:=by
 unfold Yd at h
 split at h
 . rename_i t m k ok d f l
   split at h
   . rename_i dd e kvs kv n q r
     split at h
     . rename_i c
       obtain⟨rfl,rfl⟩:=Ô (Ag h)
       have c:=Ds c
       constructor
       . unfold I3
         rw [È (by unfold FM;rw [f])]
         unfold KU
         rw [f,l]
         simp only
         unfold O1
         rw [n,q,r]
         simp only
         unfold Yt at hp
         split at hp
         . rename_i i v' g
           obtain⟨rfl,rfl⟩:=Ô (Ag hp)
           rw [g]
           simp only [ç,c]
           cases ok<;>rfl
         . rename_i g
           rw [g]
           cases j:ZP P e with
           |none=>rw [j] at hp;cases hp
           |some z =>
            rw [j] at hp
            obtain⟨rfl,rfl⟩:=Ô (Ag hp)
            simp only [ç,c]
            cases ok<;>rfl
         . cases hp
       . intro ops M i
         unfold Zd Sx
         rw [f]
         rfl
     . cases h
   . cases h
 . cases h
def LdA (ag:Bool)(cs:List PV)(off n:Nat)(p:PV):Prop :=
 (∀ q∈cs,q=.undef∨∃ v,q=.lit v)/\(if ag=true then off+n<=cs.length/\p=.agg ((cs.drop off).take n) else off<cs.length/\p=cs.getD off .undef)
def Yc (P:Program)(o:Oper)(st:St)(p:PV):Option (Prop×St) :=
 match o.op,o.dst with
 |.load t x,some d=>match C5 st x,M1 P t,MW P t with
  |.ptr b off,some ag,some n=>match st.σ[b]? with
   |some cs=>some (LdA ag cs off n p,st.put (some d) p)
   |none=>none
  |_,_,_=>none
 |_,_=>none
def StA (cs:List PV)(off n:Nat)(ns cs':List PV):Prop:=(∀ q∈cs,q=.undef∨∃ v,q=.lit v)/\ns.length=n/\off+n<=cs.length/\splice cs off ns=cs'
def Yb (P:Program)(o:Oper)(st:St)(cs':List PV):Option (Prop×St) :=
 match o.op,o.dst with
 |.store t x y,none=>match C5 st x,MW P t,Me st y,QU st y with
  |.ptr b off,some n,none,none=>match st.σ[b]?,okB (I2 (C5 st y)||N9 (C5 st y)) with
   |some cs,some _=>some (StA cs off n ((C6 (C5 st y)).map Hx) cs',{ (st.stripC b off n) with σ:=st.σ.set b cs' })
   |_,_=>none
  |_,_,_,_=>none
 |_,_=>none
theorem VH {cs:List PV}(h:∀ q∈cs,q=.undef∨∃ v,q=.lit v):NJ (some cs)=some cs:=by
 unfold NJ
 split
 . rename_i e
   obtain rfl:=Ag e
   rcases h _ (Ü ..) with h|⟨v,h⟩<;>cases h
 . rename_i e
   obtain rfl:=Ag e
   rcases h _ (Ü ..) with h|⟨v,h⟩<;>cases h
 . rfl
theorem QG {P:Program}{o:Oper}{st st1:St}{p:PV}{q:Prop}(h:Yc P o st p=some (q,st1))(hp:q):I3 P o st=some (true,st1):=by
 unfold Yc at h
 split at h
 . rename_i t x d f s
   split at h
   . rename_i b off ag n k m u
     split at h
     . rename_i cs c
       obtain⟨rfl,rfl⟩:=Ô (Ag h)
       obtain⟨e,a⟩:=hp
       have r:=VH e
       have g:Mr P t st d x=none:=by
        unfold Mr
        rw [k]
        simp only
        rw [c,r,m]
        cases ag with
        |true=>rfl
        |false =>
         simp only
         split
         . rename_i xs w
           rcases e _ (Ð w) with h|⟨v,h⟩<;>cases h
         . rfl
       unfold I3
       rw [Ä (by unfold FM;rw [f];simp),s]
       simp only
       unfold Qk
       rw [f]
       simp only
       rw [g]
       simp only
       unfold RC
       rw [f]
       simp only
       unfold KV
       rw [k]
       simp only
       rw [c,r,m,u]
       have i:∀ (l:List PV),(∀ q∈l,q=.undef∨∃ v,q=.lit v)->l.map Be=l:=fun l y=>by
        conv=>rhs;rw [<- List.map_id l]
        refine List.map_congr_left fun q j=>?_
        rcases y q j with rfl|⟨v,rfl⟩<;>rfl
       cases ag with
       |true =>
        simp only [ñ] at a
        obtain⟨a,rfl⟩:=a
        simp only [ç,Í a]
        rw [i _ fun q j=>e q (á (Ă j))]
       |false =>
        simp only [Þ,ó] at a
        obtain⟨a,rfl⟩:=a
        simp only [ç,Í a]
        have:Ac8 b off (cs.getD off .undef)=cs.getD off .undef:=by
         have z:cs.getD off .undef∈cs:=by simp [List.getD,a]
         rcases e _ z with h|⟨v,h⟩<;>rw [h]<;>rfl
        rw [this]
     . cases h
   . cases h
 . cases h
theorem QF {P:Program}{o:Oper}{st st1:St}{cs':List PV}{q:Prop}(h:Yb P o st cs'=some (q,st1))(hp:q):I3 P o st=some (true,st1):=by
 unfold Yb at h
 split at h
 . rename_i t x y d e
   split at h
   . rename_i b off n f g i j
     split at h
     . rename_i cs z a c
       obtain⟨rfl,rfl⟩:=Ô (Ag h)
       obtain⟨k,l,m,rfl⟩:=hp
       have p:=VH k
       have c:=Ds c
       have r:(C6 (C5 st y)).length=n:=by simpa using l
       unfold I3
       rw [È (by unfold FM;rw [d])]
       unfold KU
       rw [d,e]
       simp only
       unfold HY
       rw [f,g]
       simp only
       rw [a,p]
       simp only
       rw [i]
       simp only
       rw [j]
       simp only
       rw [È c,Í (And.intro r m)]
     . cases h
   . cases h
 . cases h
def ZZ (P:Program)(ops:Array Oper)(st:St)(o:Oper)(q:IS):Option (Option Prop×Rn) :=
 match CS ops st o with
 |some false=>match q with
  |.no=>some (none,.at_ (st.put o.dst (.lit (.tuple #[]))))
  |_=>none
 |some true=>match I3 P o st with
  |some (c,st')=>match q with
   |.no=>match okB c with
    |some _=>some (none,.at_ st')
    |none=>none
   |.val p=>match o.dst,st'.env with
    |some _,(d,p')::rest=>some (some (c=true/\p'=p),.at_ { st' with env:=(d,p)::rest })
    |_,_=>none
   |_=>none
  |none=>match Fm P o st with
   |some (f,args)=>match q with
    |.call r=>some (some (BZ P f args r),.at_ ((st.aft st.σ).put o.dst r))
    |.meth r cs'=>match SX P f args st.σ (.ret r) cs' with
     |some (p,σ1)=>some (some p,.at_ ((st.aft σ1).put o.dst r))
     |none=>none
    |.mpan c cs'=>match SX P f args st.σ (.pan c) cs' with
     |some (p,σ1)=>some (some p,.pan c { st with σ:=σ1 })
     |none=>none
    |.site r σ1=>some (some (JW P f args st.σ (.ret r) σ1),.at_ ((st.aft σ1).put o.dst r))
    |.sitep c σ1=>some (some (JW P f args st.σ (.pan c) σ1),.pan c { st with σ:=σ1 })
    |_=>none
   |none=>match Ng o st with
    |some v=>match q with
     |.no=>some (none,.pan [{ v,recovered:=false }] st)
     |_=>none
    |none=>none
 |none=>none
def W6:Option Prop->Prop->Prop
 |none,p=>p
 |some q,p=>q/\p
def U3 (o:Oper)(st:St):Option (FuncId×List PV) :=
 match o.op with
 |.call c=>match c.callee with
  |.value x=>match C5 st x with
   |.fno true f caps=>some (f,c.args.toList.map (fun x=>Be (C5 st x))++caps)
   |_=>none
  |_=>none
 |_=>none
theorem U2 {P:Program}{o:Oper}{st:St}{f:FuncId}{args:List PV}(h:U3 o st=some (f,args))(hf:JB P f=true):Fm P o st=some (f,args):=by
 unfold U3 at h
 unfold Fm
 split at h
 . rename_i c a
   rw [a]
   simp only
   split at h
   . rename_i x b
     rw [b]
     simp only
     split at h
     . rename_i f' caps e
       obtain⟨rfl,rfl⟩:=Ô (Ag h)
       rw [e]
       simp only
       rw [È hf]
     . cases h
   . cases h
 . cases h
def TK (P:Program)(ops:Array Oper)(st:St)(o:Oper)(q:IS):Option (Option Prop×Rn) :=
 match q with
 |.look v b=>match CS ops st o with
  |some true=>match Yd P o st v b with
   |some (p,st1)=>some (some p,.at_ st1)
   |none=>none
  |_=>none
 |.fcall r=>match CS ops st o,I3 P o st,U3 o st with
  |some true,none,some (f,args)=>some (some (JB P f=true/\BZ P f args r),.at_ ((st.aft st.σ).put o.dst r))
  |_,_,_=>none
 |.ald p=>match CS ops st o,Yc P o st p with
  |some true,some (p,st1)=>some (some p,.at_ st1)
  |_,_=>none
 |.ast cs=>match CS ops st o,Yb P o st cs with
  |some true,some (p,st1)=>some (some p,.at_ st1)
  |_,_=>none
 |q=>ZZ P ops st o q
def QN (P:Program)(ops:Array Oper):List Oper->List IS->St->Option (Prop×Rn)
 | [],_,st=>some (True,.at_ st)
 |_::_,[],_=>none
 |o::l,q::qs,st=>match TK P ops st o q with
  |some (p,.at_ st1)=>match QN P ops l qs st1 with
   |some (p2,st2)=>some (W6 p p2,st2)
   |none=>none
  |some (p,.pan c st1)=>some (W6 p True,.pan c st1)
  |none=>none
theorem HP {p:Option Prop}{q:Prop}(h:W6 p q):(∀ x,p=some x->x)/\q:=by
 cases p with
 |none=>exact⟨fun x e=>(by cases e),h⟩
 |some y=>exact⟨fun x e=>(by cases e;exact h.1),h.2⟩
theorem WN {P:Program}{ops:Array Oper}{K:AX->St->Prop}{st:St}{s1:Rn}{o:Oper}{q:IS}{p:Option Prop}{l:List Oper}
 (h:ZZ P ops st o q=some (p,s1)) (hp:∀ x,p=some x->x) (hk:s1.holds K (B5 P ops K l)):B5 P ops K (o::l) st:=by
 unfold ZZ at h
 unfold B5
 split at h
 . rename_i e
   rw [e]
   split at h
   . obtain⟨_,rfl⟩:=Ô (Ag h);exact hk
   . cases h
 . rename_i e
   rw [e]
   simp only
   split at h
   . rename_i c st' e2
     rw [e2]
     simp only
     split at h
     . split at h
       . rename_i e3
         obtain⟨_,rfl⟩:=Ô (Ag h)
         exact⟨Ds e3,hk⟩
       . cases h
     . split at h
       . rename_i d' d p' rest e3 e4
         obtain⟨rfl,rfl⟩:=Ô (Ag h)
         obtain⟨b,rfl⟩:=hp _ rfl
         refine⟨b,?_⟩
         have hk:B5 P ops K l { st' with env:=(d,p')::rest }:=hk
         rw [<- e4] at hk
         exact hk
       . cases h
     . cases h
   . rename_i e2
     rw [e2]
     simp only
     split at h
     . rename_i f args e3
       rw [e3]
       simp only
       split at h
       . obtain⟨rfl,rfl⟩:=Ô (Ag h)
         refine (hp _ rfl st.σ).mono ?_
         rintro x σ' ⟨rfl,rfl⟩
         exact hk
       . split at h
         . rename_i a
           obtain⟨rfl,rfl⟩:=Ô (Ag h)
           refine (KJ a (hp _ rfl)).mono ?_
           rintro x σ' ⟨rfl,rfl⟩
           exact hk
         . cases h
       . split at h
         . rename_i a
           obtain⟨rfl,rfl⟩:=Ô (Ag h)
           refine (KJ a (hp _ rfl)).mono ?_
           rintro x σ' ⟨rfl,rfl⟩
           exact hk
         . cases h
       . obtain⟨rfl,rfl⟩:=Ô (Ag h)
         refine VC.mono (hp _ rfl) ?_
         rintro x σ' ⟨rfl,rfl⟩
         exact hk
       . obtain⟨rfl,rfl⟩:=Ô (Ag h)
         refine VC.mono (hp _ rfl) ?_
         rintro x σ' ⟨rfl,rfl⟩
         exact hk
       . cases h
     . rename_i e3
       rw [e3]
       simp only
       split at h
       . rename_i v e4
         rw [e4]
         split at h
         . obtain⟨rfl,rfl⟩:=Ô (Ag h);exact hk
         . cases h
       . cases h
 . cases h
theorem J0 {P:Program}{ops:Array Oper}{K:AX->St->Prop}{st:St}{s1:Rn}{o:Oper}{q:IS}{p:Option Prop}{l:List Oper}
 (h:TK P ops st o q=some (p,s1)) (hp:∀ x,p=some x->x) (hk:s1.holds K (B5 P ops K l)):B5 P ops K (o::l) st:=by
 unfold TK at h
 split at h
 . split at h
   . rename_i a
     split at h
     . rename_i b
       obtain⟨rfl,rfl⟩:=Ô (Ag h)
       have c:=(QH b (hp _ rfl)).1
       unfold B5
       rw [a,c]
       exact⟨rfl,hk⟩
     . cases h
   . cases h
 . split at h
   . rename_i f args c d e
     obtain⟨rfl,rfl⟩:=Ô (Ag h)
     obtain⟨k1,k2⟩:=hp _ rfl
     unfold B5
     rw [c]
     simp only
     rw [d]
     simp only
     rw [U2 e k1]
     refine (k2 st.σ).mono ?_
     rintro x σ' ⟨rfl,rfl⟩
     exact hk
   . cases h
 . split at h
   . rename_i a b
     obtain⟨rfl,rfl⟩:=Ô (Ag h)
     unfold B5
     rw [a,QG b (hp _ rfl)]
     exact⟨rfl,hk⟩
   . cases h
 . split at h
   . rename_i a b
     obtain⟨rfl,rfl⟩:=Ô (Ag h)
     unfold B5
     rw [a,QF b (hp _ rfl)]
     exact⟨rfl,hk⟩
   . cases h
 . exact WN h hp hk
theorem GY {P:Program}{ops:Array Oper}{K:AX->St->Prop}:∀ {l:List Oper} {qs:List IS} {st:St} {s1:Rn} {p:Prop},QN P ops l qs st=some (p,s1)->p->s1.holds K (K .normal)->B5 P ops K l st
 | [],_,st,st1,p,h,_,hk=>by
  obtain⟨_,rfl⟩:=Ô (Ag h)
  exact hk
 |_::_,[],_,_,_,h,_,_=>by cases h
 |o::l,q::qs,st,st1,p,h,hp,hk=>by
  unfold QN at h
  split at h
  . rename_i p1 st2 e
    split at h
    . rename_i p2 st3 e2
      obtain⟨rfl,rfl⟩:=Ô (Ag h)
      obtain⟨h1,h2⟩:=HP hp
      exact J0 e h1 (GY e2 h2 hk)
    . cases h
  . rename_i p1 c st2 e
    obtain⟨rfl,rfl⟩:=Ô (Ag h)
    obtain⟨h1,h2⟩:=HP hp
    exact J0 e h1 hk
  . cases h
def Wb (M:List Nat)(c:Nat)(L:List Nat):Option (Prop×Rn)->Option (Prop×St)
 |some (p,.at_ st)=>some (p,low M c (clr L st))
 |_=>none
def Ajf:Option (Prop×Rn)->Option (Prop×(List PanicEntry×List (List PV)))
 |some (p,.pan c st)=>some (p,(c,st.σ))
 |_=>none
theorem MH {M:List Nat}{c:Nat}{L:List Nat}{x:Option (Prop×Rn)}{p:Prop}{S:St}(h:Wb M c L x=some (p,S)):∃ st,x=some (p,.at_ st)/\low M c (clr L st)=S:=by
 unfold Wb at h
 split at h
 . rename_i p' st
   obtain⟨rfl,rfl⟩:=Ô (Ag h)
   exact⟨st,rfl,rfl⟩
 . cases h
theorem Ag5 {P:Program}{L:Cf}{N:Nat}{k:List TI}{Q:AX->St->Prop}{st:St}{i:Nat}{ops:Array Oper}{d:Bool}(M:List Nat)(c:Nat)(qs:List IS)(S:St){p:Prop}(hp:p)
 (he:Wb M c L.L (QN P ops ops.toList qs st)=some (p,S)) (hn:Eb L.pl i=none) (hk:V9 k=true) (hc:N<=c) (h:WS P L N k Q S):WS P L N (.code (.region i ops d)::k) Q st:=by
 obtain⟨st1,e,rfl⟩:=MH he
 refine IQ hn ?_
 intro K' a _
 exact GY e hp (a _ _ rfl (Li M c hk hc rfl h))
def Aaa (P:Program)(ops:Array Oper)(M:List Nat)(st:St)(i:Nat)(o:Oper)(q:IS):Option (Option Prop×Rn) :=
 match CS ops st o with
 |some false=>match q with
  |.no=>some (none,.at_ (st.put o.dst (.lit (.tuple #[]))))
  |_=>none
 |some true=>match I3 P o st with
  |some (c,st')=>match okB (Zd M o st&&Sx ops M i o st) with
   |none=>none
   |some _=>match q with
    |.no=>match okB c with
     |some _=>some (none,.at_ st')
     |none=>none
    |.val p=>match o.dst,st'.env with
     |some _,(d,p')::rest=>some (some (c=true/\p'=p),.at_ { st' with env:=(d,p)::rest })
     |_,_=>none
    |_=>none
  |none=>match Fm P o st with
   |some (f,args)=>match EA ops (C9 ops) i with
    |true=>match q with
     |.call r=>match args with
      |.ptr _ _::_=>none
      |args=>match okB (FJ args) with
       |some _=>some (some (BZ P f args r),.at_ ((st.aftK (fun _=>true) (st.σ++[])).put o.dst (r.shift st.σ.length)))
       |none=>none
     |.meth r cs'=>match args with
      |.ptr k 0::more=>match okB (Uh k M&&(PV.fitsL 0 (st.σ.getD k [])&&(FJ more&&(decide (k<st.σ.length)&&(PV.fitsL 0 cs'&&GM (.ret r)))))) with
       |some _=>some (some (DP P f more (st.σ.getD k []) (.ret r) cs'),.at_ ((st.aftK (fun q=>q != k) (st.σ.set k cs')).put o.dst r))
       |none=>none
      |_=>none
     |.mpan c cs'=>match args with
      |.ptr k 0::more=>match okB (Uh k M&&(PV.fitsL 0 (st.σ.getD k [])&&(FJ more&&(decide (k<st.σ.length)&&(PV.fitsL 0 cs'&&GM (.pan c)))))) with
       |some _=>some (some (DP P f more (st.σ.getD k []) (.pan c) cs'),.pan c { st with σ:=st.σ.set k cs' })
       |none=>none
      |_=>none
     |_=>none
    |false=>match q with
     |.call r=>some (some (BZ P f args r),.at_ ((st.aft st.σ).put o.dst r))
     |.meth r cs'=>match SX P f args st.σ (.ret r) cs' with
      |some (p,σ1)=>some (some p,.at_ ((st.aft σ1).put o.dst r))
      |none=>none
     |.mpan c cs'=>match SX P f args st.σ (.pan c) cs' with
      |some (p,σ1)=>some (some p,.pan c { st with σ:=σ1 })
      |none=>none
     |.site r σ1=>some (some (JW P f args st.σ (.ret r) σ1),.at_ ((st.aft σ1).put o.dst r))
     |.sitep c σ1=>some (some (JW P f args st.σ (.pan c) σ1),.pan c { st with σ:=σ1 })
     |_=>none
   |none=>none
 |none=>none
def OP (P:Program)(ops:Array Oper)(M:List Nat)(st:St)(i:Nat)(o:Oper)(q:IS):Option (Option Prop×Rn) :=
 match q with
 |.look v b=>match CS ops st o with
  |some true=>match Yd P o st v b with
   |some (p,st1)=>some (some p,.at_ st1)
   |none=>none
  |_=>none
 |.ald p=>match CS ops st o,Yc P o st p,okB (Zd M o st&&Sx ops M i o st) with
  |some true,some (p,st1),some _=>some (some p,.at_ st1)
  |_,_,_=>none
 |.ast cs=>match CS ops st o,Yb P o st cs,okB (Zd M o st&&Sx ops M i o st) with
  |some true,some (p,st1),some _=>some (some p,.at_ st1)
  |_,_,_=>none
 |q=>Aaa P ops M st i o q
def Aai (P:Program)(ops:Array Oper)(M:List Nat):List Nat->List IS->St->Option (Prop×Rn)
 | [],_,st=>some (True,.at_ st)
 |_::_,[],_=>none
 |i::l,q::qs,st=>match ops[i]? with
  |some o=>match OP P ops M st i o q with
   |some (p,.at_ st1)=>match Aai P ops M l qs st1 with
    |some (p2,st2)=>some (W6 p p2,st2)
    |none=>none
   |some (p,.pan c st1)=>some (W6 p True,.pan c st1)
   |none=>none
  |none=>none
theorem WO {P:Program}{ops:Array Oper}{M:List Nat}{K:AX->St->Prop}{st:St}{s1:Rn}{i:Nat}{o:Oper}{q:IS}{p:Option Prop}{l:List Nat}(ho:ops[i]?=some o)
 (h:Aaa P ops M st i o q=some (p,s1)) (hp:∀ x,p=some x->x) (hk:s1.holds K (BL P ops M K l)):BL P ops M K (i::l) st:=by
 unfold Aaa at h
 unfold BL
 rw [ho]
 simp only
 split at h
 . rename_i e
   rw [e]
   split at h
   . obtain⟨_,rfl⟩:=Ô (Ag h);exact hk
   . cases h
 . rename_i e
   rw [e]
   simp only
   split at h
   . rename_i c st' e2
     rw [e2]
     simp only
     split at h
     . cases h
     . rename_i er
       split at h
       . split at h
         . rename_i e3
           obtain⟨_,rfl⟩:=Ô (Ag h)
           exact⟨Ds e3,Ds er,hk⟩
         . cases h
       . split at h
         . rename_i d' d p' rest e3 e4
           obtain⟨rfl,rfl⟩:=Ô (Ag h)
           obtain⟨j,rfl⟩:=hp _ rfl
           refine⟨j,Ds er,?_⟩
           have hk:BL P ops M K l { st' with env:=(d,p')::rest }:=hk
           rw [<- e4] at hk
           exact hk
         . cases h
       . cases h
   . rename_i e2
     rw [e2]
     simp only
     split at h
     . rename_i f args e3
       rw [e3]
       simp only
       split at h
       . rename_i en
         rw [en]
         simp only [ñ]
         split at h
         . split at h
           . cases h
           . rename_i args' b
             split at h
             . rename_i ep
               obtain⟨rfl,rfl⟩:=Ô (Ag h)
               split
               . exact absurd rfl (b _ _ _)
               . refine⟨Ds ep,(hp _ rfl []).mono ?_⟩
                 rintro x σ' ⟨rfl,rfl⟩
                 exact hk
             . cases h
         . split at h
           . split at h
             . rename_i ep
               obtain⟨rfl,rfl⟩:=Ô (Ag h)
               have a:=Ds ep
               simp only [Å,Ï] at a
               refine⟨a.1,a.2.1,a.2.2.1,a.2.2.2.1,VC.mono (hp _ rfl) ?_⟩
               rintro x σ' ⟨rfl,rfl⟩
               exact⟨_,rfl,a.2.2.2.2.1,a.2.2.2.2.2,hk⟩
             . cases h
           . cases h
         . split at h
           . split at h
             . rename_i ep
               obtain⟨rfl,rfl⟩:=Ô (Ag h)
               have a:=Ds ep
               simp only [Å,Ï] at a
               refine⟨a.1,a.2.1,a.2.2.1,a.2.2.2.1,VC.mono (hp _ rfl) ?_⟩
               rintro x σ' ⟨rfl,rfl⟩
               exact⟨_,rfl,a.2.2.2.2.1,a.2.2.2.2.2,hk⟩
             . cases h
           . cases h
         . cases h
       . rename_i en
         rw [en]
         simp only [Þ,ó]
         split at h
         . obtain⟨rfl,rfl⟩:=Ô (Ag h)
           refine (hp _ rfl st.σ).mono ?_
           rintro x σ' ⟨rfl,rfl⟩
           exact hk
         . split at h
           . rename_i g
             obtain⟨rfl,rfl⟩:=Ô (Ag h)
             refine (KJ g (hp _ rfl)).mono ?_
             rintro x σ' ⟨rfl,rfl⟩
             exact hk
           . cases h
         . split at h
           . rename_i g
             obtain⟨rfl,rfl⟩:=Ô (Ag h)
             refine (KJ g (hp _ rfl)).mono ?_
             rintro x σ' ⟨rfl,rfl⟩
             exact hk
           . cases h
         . obtain⟨rfl,rfl⟩:=Ô (Ag h)
           refine VC.mono (hp _ rfl) ?_
           rintro x σ' ⟨rfl,rfl⟩
           exact hk
         . obtain⟨rfl,rfl⟩:=Ô (Ag h)
           refine VC.mono (hp _ rfl) ?_
           rintro x σ' ⟨rfl,rfl⟩
           exact hk
         . cases h
     . cases h
 . cases h
theorem FO {P:Program}{ops:Array Oper}{M:List Nat}{K:AX->St->Prop}{st:St}{s1:Rn}{i:Nat}{o:Oper}{q:IS}{p:Option Prop}{l:List Nat}(ho:ops[i]?=some o)
 (h:OP P ops M st i o q=some (p,s1)) (hp:∀ x,p=some x->x) (hk:s1.holds K (BL P ops M K l)):BL P ops M K (i::l) st:=by
 unfold OP at h
 split at h
 . split at h
   . rename_i a
     split at h
     . rename_i b
       obtain⟨rfl,rfl⟩:=Ô (Ag h)
       obtain⟨c,d⟩:=QH b (hp _ rfl)
       unfold BL
       rw [ho]
       simp only
       rw [a,c]
       exact⟨rfl,d ops M _,hk⟩
     . cases h
   . cases h
 . split at h
   . rename_i a b hb
     obtain⟨rfl,rfl⟩:=Ô (Ag h)
     unfold BL
     rw [ho]
     simp only
     rw [a,QG b (hp _ rfl)]
     exact⟨rfl,Ds hb,hk⟩
   . cases h
 . split at h
   . rename_i a b hb
     obtain⟨rfl,rfl⟩:=Ô (Ag h)
     unfold BL
     rw [ho]
     simp only
     rw [a,QF b (hp _ rfl)]
     exact⟨rfl,Ds hb,hk⟩
   . cases h
 . exact WO ho h hp hk
theorem M8 {P:Program}{ops:Array Oper}{M:List Nat}{K:AX->St->Prop}:∀ {l:List Nat} {qs:List IS} {st:St} {s1:Rn} {p:Prop},Aai P ops M l qs st=some (p,s1)->p->s1.holds K (K .normal)->BL P ops M K l st
 | [],_,st,st1,p,h,_,hk=>by
  obtain⟨_,rfl⟩:=Ô (Ag h)
  exact hk
 |_::_,[],_,_,_,h,_,_=>by cases h
 |i::l,q::qs,st,st1,p,h,hp,hk=>by
  unfold Aai at h
  split at h
  . rename_i o ho
    split at h
    . rename_i p1 st2 e
      split at h
      . rename_i p2 st3 e2
        obtain⟨rfl,rfl⟩:=Ô (Ag h)
        obtain⟨h1,h2⟩:=HP hp
        exact FO ho e h1 (M8 e2 h2 hk)
      . cases h
    . rename_i p1 c st2 e
      obtain⟨rfl,rfl⟩:=Ô (Ag h)
      obtain⟨h1,h2⟩:=HP hp
      exact FO ho e h1 hk
    . cases h
  . cases h
def TQ (P:Program)(fn:Func)(N:Nat)(st:St):Option (PV×List (List PV)) :=
 match KO P fn.results.toList st with
 |some (c,ps,st')=>match okB c with
  |some _=>some (Nb ps,Jz N (Nb ps) st'.σ)
  |none=>none
 |none=>none
theorem Kf {P:Program}{fn:Func}{N:Nat}{st:St}{Q:Cs->List (List PV)->Prop}{r:PV}{σ:List (List PV)}(h:TQ P fn N st=some (r,σ))(hq:Q (.ret r) σ):CZ P fn N Q .ret st/\CZ P fn N Q .normal st:=by
 unfold TQ at h
 unfold CZ
 simp only
 split at h
 . rename_i c ps st' e
   rw [e]
   split at h
   . rename_i e3
     obtain⟨rfl,rfl⟩:=Ô (Ag h)
     have a:c=true:=Ds e3
     exact⟨⟨a,hq⟩,a,hq⟩
   . cases h
 . cases h
def TM:Option (PV×List (List PV))->Option (PV×List (List PV))
 |some (p,σ)=>some (shareP p,σ)
 |none=>none
theorem Ij {P:Program}{fn:Func}{N:Nat}{st:St}{Q:Cs->List (List PV)->Prop}{R:PV}{σ:List (List PV)}(hQ:∀ y,shareP y=R->Q (.ret y) σ)(h:TM (TQ P fn N st)=some (R,σ)):CZ P fn N Q .ret st/\CZ P fn N Q .normal st:=by
 cases e:TQ P fn N st with
 |none=>rw [e] at h;cases h
 |some x =>
  obtain⟨p,σ1⟩:=x
  rw [e] at h
  obtain⟨rfl,rfl⟩:=Ô (Ag h)
  exact Kf e (hQ p rfl)
theorem Vu {P:Program}{fn:Func}{N:Nat}{st:St}{Q:Cs->List (List PV)->Prop}{R:PV}{σ:List (List PV)}(hQ:∀ y,y=R->Q (.ret y) σ)(h:TQ P fn N st=some (R,σ)):CZ P fn N Q .ret st/\CZ P fn N Q .normal st:=Kf h (hQ R rfl)
theorem oi {α:Type}{l:List α}{row:α->List PV}{n:Nat}{i:Int}{x:α}{R:List PV}(h:gi l i=some x)(hn:∀ x,(row x).length=n)(hr:row x=R) :
 decide (0<=i/\i<((l.map row).length:Int)/\((l.map row).getD i.toNat []).length=n)=true/\PV.vptr ((l.map row).getD i.toNat []) 0=.vptr R 0:=by
 obtain⟨a,b,c⟩:=Ah8 l row (R:=row) (fun _=>rfl) h
 rw [c,hr,Ñ,Ï]
 exact⟨⟨a,b,by rw [<- hr,hn]⟩,rfl⟩
theorem ob {s:Æ}{i x:Int}(h:gb s i=some x):decide (0<=i/\i<(s.size:Int))=true/\PV.lit (.int .u8 ((s.data.toList.getD i.toNat 0).toNat:Int))=.lit (.int .u8 x):=by
 obtain⟨a,b,c⟩:=Aia h
 rw [c,Ï];exact⟨⟨a,b⟩,rfl⟩
theorem Ai3 {s t:Æ}{l h:Int}(e:Uq s l h=some t):decide (0<=l/\l<=h/\h<=(s.size:Int))=true/\PV.lit (.string (s.extract l.toNat h.toNat))=.lit (.string t):=by
 obtain⟨a,b⟩:=Ady e
 rw [b,Ï];exact⟨a,rfl⟩
theorem osl {α:Type}{x y:List α}{l h:Int}{row:α->List PV}{n:Nat}(e:gsl x l h=some y)(hn:∀ x,(row x).length=n) :
 (decide (0<=l/\l<=h/\h<=((x.map row).length:Int))&&(x.map row).all (fun x=>x.length == n))=true/\PV.sl (((x.map row).take h.toNat).drop l.toNat) .shared=.sl (y.map row) .shared:=by
 obtain⟨a,b⟩:=Age row hn e
 rw [b,Ñ];exact⟨a,rfl⟩
theorem Aaw {α:Type}{b:Nat}{x y z:List α}{row:α->List PV}{n:Nat}(e:CC b x y=some z)(hn:∀ x,(row x).length=n) :
 (decide (((x.map row).length+(y.map row).length)*b<=140737488355328)&&((x.map row).all (fun x=>x.length == n)&&((y.map row).all (fun x=>x.length == n)&&(!false||!(y.map row).isEmpty))))=true/\PV.sl (x.map row++y.map row) .own=.sl (z.map row) .own:=by
 obtain⟨a,c⟩:=Qi row hn e
 rw [c,Ñ,Ñ]
 refine⟨?_,rfl⟩
 rw [ć,Bool.true_or,Ķ];exact a
theorem Afm {α:Type}(l:List α):l=[]∨l≠[]:=by cases l<;>simp
theorem Ahl {α:Type}{b:Nat}{x y z:List α}{row:α->List PV}{n:Nat}(e:CC b x y=some z)(hn:∀ x,(row x).length=n)(hy:y≠[]) :
 (decide (((x.map row).length+(y.map row).length)*b<=140737488355328)&&((x.map row).all (fun x=>x.length == n)&&((y.map row).all (fun x=>x.length == n)&&(!true||true))))=true/\PV.sl (x.map row++y.map row) (if (y.map row).isEmpty=true then .full else .own)=.sl (z.map row) .own:=by
 obtain⟨a,c⟩:=Qi row hn e
 rw [c,Ñ,Ñ,Ä (by simpa using hy)]
 refine⟨?_,rfl⟩
 rw [Bool.or_true,Ķ];exact a
theorem Ahm {α:Type}{b:Nat}{x y z:List α}{row:α->List PV}{n:Nat}(e:CC b x y=some z)(hn:∀ x,(row x).length=n)(hy:y=[]) :
 (decide (((x.map row).length+(y.map row).length)*b<=140737488355328)&&((x.map row).all (fun x=>x.length == n)&&((y.map row).all (fun x=>x.length == n)&&(!true||true))))=true/\PV.sl (x.map row++y.map row) (if (y.map row).isEmpty=true then .full else .own)=.sl (z.map row) .full:=by
 obtain⟨a,c⟩:=Qi row hn e
 rw [c,Ñ,Ñ,È (by rw [hy];rfl)]
 refine⟨?_,rfl⟩
 rw [Bool.or_true,Ķ];exact a
theorem onz {k:IntKind}{b e q:Int}(h:gnz b e=some q):(b != 0)=true/\PV.lit (.int k e)=.lit (.int k q):=by
 obtain⟨a,c⟩:=Agf h
 rw [c];exact⟨a,rfl⟩
theorem onn {k:IntKind}{b e q:Int}(h:gnn b e=some q):decide (0<=b)=true/\PV.lit (.int k e)=.lit (.int k q):=by
 obtain⟨a,c⟩:=Agg h
 rw [c,Ï];exact⟨a,rfl⟩
theorem P6 {e b:Bool}(h:e=b):true=true/\PV.lit (.bool e)=.lit (.bool b):=⟨rfl,by rw [h]⟩
theorem D5 {xs ys:List (List PV)}{c:Bool}(hc:c=true)(h:xs=ys):c=true/\PV.sl xs .own=.sl ys .own:=⟨hc,by rw [h]⟩
theorem Zk {α:Type}(l:List α)(row:α->List PV):true=true/\PV.lit (.int .i64 ((l.map row).length:Int))=.lit (.int .i64 (l.length:Int)):=⟨rfl,by rw [Ñ]⟩
theorem Ai4 {α:Type}{x y:List α}{l:Int}{row:α->List PV}{n:Nat}(e:gsl x l (x.length:Int)=some y)(hn:∀ x,(row x).length=n) :
 (decide (0<=l/\l<=((x.map row).length:Int)/\((x.map row).length:Int)<=((x.map row).length:Int))&&(x.map row).all (fun x=>x.length == n))=true/\PV.sl (((x.map row).take ((x.map row).length:Int).toNat).drop l.toNat) .shared=.sl (y.map row) .shared:=by
 have h:=osl (row:=row) e hn
 rw [Ñ] at h ⊢
 exact h
theorem DP.fin {P:Program}{f:FuncId}{args cs cs':List PV}{R:PV}(h:∀ Q:Cs->List (List PV)->Prop,(∀ y,shareP y=R->Q (.ret y) [cs'])->VC P f (.ptr 0 0::args) [cs] Q):DP P f args cs (.ret R) cs':=by
 refine VC.less (h (fun x σ'=>∃ y,shareP y=R/\x=.ret y/\σ'=[cs']) fun y a=>⟨y,a,rfl,rfl⟩) ?_
 rintro x σ' ⟨y,rfl,rfl,rfl⟩
 exact⟨.ret (shareP y),⟨rfl,rfl⟩,fun w G e b=>D8.shareP b⟩
theorem DP.finP {P:Program}{f:FuncId}{args cs cs':List PV}{c:List PanicEntry}(h:∀ Q:Cs->List (List PV)->Prop,Q (.pan c) [cs']->VC P f (.ptr 0 0::args) [cs] Q):DP P f args cs (.pan c) cs':=h _ ⟨rfl,rfl⟩
theorem JW.fin {P:Program}{f:FuncId}{args:List PV}{σ σ1:List (List PV)}{R:PV}(h:∀ Q:Cs->List (List PV)->Prop,(∀ y,shareP y=R->Q (.ret y) σ1)->VC P f args σ Q):JW P f args σ (.ret R) σ1:=by
 refine VC.less (h (fun x σ'=>∃ y,shareP y=R/\x=.ret y/\σ'=σ1) fun y a=>⟨y,a,rfl,rfl⟩) ?_
 rintro x σ' ⟨y,rfl,rfl,rfl⟩
 exact⟨.ret (shareP y),⟨rfl,rfl⟩,fun w G e b=>D8.shareP b⟩
def B1 (l:List (ByteArray×Int))(k:Æ):Int×Bool :=
 match l with
 | []=>(0,false)
 |(a,v)::r=>if k=a then (v,true) else B1 r k
def Oo (l:List (ByteArray×Int)):List (Value×Value):=l.map fun x=>(.string x.1,.int .i64 x.2)
abbrev iP (x:Int):PV:=.lit (.int .i64 x)
abbrev uP (x:Int):PV:=.lit (.int .u8 x)
abbrev bP (x:Bool):PV:=.lit (.bool x)
abbrev tP (x:Æ):PV:=.lit (.string x)
abbrev hP {α:Type}(l:List α)(row:α->List PV):PV:=.sl (l.map row) .shared
abbrev oP {α:Type}(l:List α)(row:α->List PV):PV:=.sl (l.map row) .own
section
variable {P:Program} {L:Cf} {N:Nat} {k k':List TI} {Q:AX->St->Prop} {st:St} {a b:Code} {id:Nat}
theorem z1 (h:WS P L N (.code a::.code b::k) Q st):WS P L N (.code (.seq a b)::k) Q st:=Ag4 h
theorem z2 (h:WS P L N k Q st):WS P L N (.blk id::k) Q st:=h
theorem z3 (h:WS P L N k Q st):WS P L N (.code .skip::k) Q st:=YH h
theorem z4 {l:Nat}(h:WS P L N k Q st):WS P L N (.code (.label l)::k) Q st:=Acj h
end
theorem wr {P:Program}{L:Cf}{N:Nat}{k:List TI}{Q:AX->St->Prop}{st:St}{i:Nat}{ops:Array Oper}{d:Bool}(M:List Nat)(c:Nat)(qs:List IS)(S:St){p:Prop}(hp:p)
 (he:(Wb M c L.L (QN P ops ops.toList qs st),Eb L.pl i,V9 k,Nat.ble N c)=(some (p,S),none,true,true)) (h:WS P L N k Q S):WS P L N (.code (.region i ops d)::k) Q st:=by
 obtain⟨e,a⟩:=Ô he
 obtain⟨a,b⟩:=Ô a
 obtain⟨b,f⟩:=Ô b
 exact Ag5 M c qs S hp e a b (Ö f) h
def EC:Nat->List IS->List IS
 |0,l=>l
 |n+1,l=>.no::EC n l
def Abf (P:Program)(oi oj ok ol:Oper)(ys:List (List PV))(st:St):Option (Prop×St) :=
 match oi.op,oi.dst,oj.op,oj.dst,ok.op,ok.dst,ol.op,ol.dst with
 |.call c,some d1,.indexAddr T (.tmp e1) ix,some d2,.store T3 (.tmp e2) z,none,.store T4 xl (.tmp e3),none =>
  match c.callee,c.args.toList,c.argTypes.toList with
  |.builtin .append,[x,y],[t,t'] =>
   match apT P t,Gu st x with
   |some (sz,bytes),some (xs,_,st1) =>
    match Io P t' sz st y,C5 st ix,Yh P T with
    |some [zr],.lit (.int _ n),some (sz2,_) =>
     match HY P T4 ((st1.put (some d1) (.sl ys .own)).put (some d2) .undef) xl (.tmp d1) with
     |some (c,st3)=>match okB (c&&(decide (e1=d1/\e2=d2/\e3=d1/\d1≠d2/\sz2=sz/\MW P T3=some sz/\zr.length=sz)&&((PX ix d1&&(PX z d1&&(PX z d2&&(PX xl d1&&PX xl d2))))&&J5 sz (C5 st z)))) with
      |some _=>some (n=(xs.length:Int)/\decide ((xs.length+1)*max bytes 1<=140737488355328)=true/\xs.all (fun x=>x.length == sz)=true/\xs++[rowOf (C5 st z)]=ys,st3)
      |none=>none
     |none=>none
    |_,_,_=>none
   |_,_=>none
  |_,_,_=>none
 |_,_,_,_,_,_,_,_=>none
theorem X2 {P:Program}{oi oj ok ol:Oper}{ys:List (List PV)}{st st3:St}{p:Prop}(h:Abf P oi oj ok ol ys st=some (p,st3))(hp:p):four P oi oj ok ol st=some (true,st3):=by
 unfold Abf at h
 unfold four
 split at h
 . split at h
   . split at h
     . split at h
       . split at h
         . rename_i c2 st4 b
           split at h
           . rename_i a
             obtain⟨rfl,rfl⟩:=Ô (Ag h)
             obtain⟨c,d,e,rfl⟩:=hp
             have a:=Ds a
             simp only [Å] at a
             simp only [*,Ķ,decide_true]
           . cases h
         . cases h
       . cases h
     . cases h
   . cases h
 . cases h
def Abe (P:Program)(ops:Array Oper)(t:List Nat)(ys:List (List PV))(st:St):Option (Prop×St) :=
 match t with
 | [i,j,k,l]=>match ops[i]?,ops[j]?,ops[k]?,ops[l]? with
  |some oi,some oj,some ok,some ol=>match okB (HW oi&&(HW oj&&(HW ok&&HW ol))) with
   |some _=>Abf P oi oj ok ol ys st
   |none=>none
  |_,_,_,_=>none
 |_=>none
theorem X1 {P:Program}{ops:Array Oper}{K:AX->St->Prop}{t:List Nat}{ys:List (List PV)}{st st3:St}{p:Prop}(h:Abe P ops t ys st=some (p,st3))(hp:p)(hk:K .normal st3):KW P ops K t st:=by
 unfold Abe at h
 unfold KW
 split at h
 . split at h
   . split at h
     . rename_i a
       have a:=Ds a
       have b:=X2 h hp
       simp only [*,Ķ]
       exact⟨trivial,trivial⟩
     . cases h
   . cases h
 . cases h
def Ac7 (P:Program)(ops:Array Oper)(M pre:List Nat)(qs:List IS)(t:List Nat)(ys:List (List PV))(st:St):Option (Prop×Rn) :=
 match Aai P ops M pre qs st with
 |some (p,.at_ st1)=>match Abe P ops t ys st1 with
  |some (p2,st2)=>some (p/\p2,.at_ st2)
  |none=>none
 |some (p,.pan c st1)=>some (p,.pan c st1)
 |none=>none
theorem SM {P:Program}{ops:Array Oper}{M pre:List Nat}{K:AX->St->Prop}{qs:List IS}{t:List Nat}{ys:List (List PV)}{st:St}{s1:Rn}{p:Prop}(h:Ac7 P ops M pre qs t ys st=some (p,s1))(hp:p)(hk:s1.holds K (K .normal)):BL P ops M (Fc P ops K t) pre st:=by
 unfold Ac7 at h
 split at h
 . rename_i p1 st1 e
   split at h
   . rename_i p2 st2 e2
     obtain⟨rfl,rfl⟩:=Ô (Ag h)
     exact M8 e hp.1 (X1 e2 hp.2 hk)
   . cases h
 . rename_i p1 c st1 e
   obtain⟨rfl,rfl⟩:=Ô (Ag h)
   exact M8 e hp hk
 . cases h
def YZ (P:Program)(ops:Array Oper)(M pre:List Nat)(qs:List IS)(x y:Nat)(qx qy:IS)(t:List Nat)(ys:List (List PV))(st:St):Option (Prop×Rn×Rn) :=
 match Aai P ops M pre qs st with
 |some (p,.at_ st1)=>match Ac7 P ops M [x,y] [qx,qy] t ys st1,Ac7 P ops M [y,x] [qy,qx] t ys st1 with
  |some (p1,s1),some (p2,s2)=>some (p/\p1/\p2,s1,s2)
  |_,_=>none
 |_=>none
theorem SL {P:Program}{ops:Array Oper}{M pre:List Nat}{K:AX->St->Prop}{qs:List IS}{x y:Nat}{qx qy:IS}{t:List Nat}{ys:List (List PV)}{st:St}{s1 s2:Rn}{p:Prop}(h:YZ P ops M pre qs x y qx qy t ys st=some (p,s1,s2))(hp:p)(hk1:s1.holds K (K .normal))(hk2:s2.holds K (K .normal)) :
 BL P ops M (JL P ops M (Fc P ops K t) [x,y]) pre st:=by
 unfold YZ at h
 split at h
 . rename_i p0 st1 e
   split at h
   . rename_i p1 s1' p2 s2' e1 e2
     simp only [Â,É] at h
     obtain⟨rfl,rfl,rfl⟩:=h
     exact M8 e hp.1 ⟨SM e1 hp.2.1 hk1,SM e2 hp.2.2 hk2⟩
   . cases h
 . cases h
def Ad6 (M:List Nat)(c:Nat)(L:List Nat):Option (Prop×Rn×Rn)->Option (Prop×St×St)
 |some (p,.at_ s1,.at_ s2)=>some (p,low M c (clr L s1),low M c (clr L s2))
 |_=>none
theorem Z4 {M:List Nat}{c:Nat}{L:List Nat}{x:Option (Prop×Rn×Rn)}{p:Prop}{S1 S2:St}(h:Ad6 M c L x=some (p,S1,S2)):∃ s1 s2,x=some (p,.at_ s1,.at_ s2)/\low M c (clr L s1)=S1/\low M c (clr L s2)=S2:=by
 unfold Ad6 at h
 split at h
 . rename_i p' s1 s2
   simp only [Â,É] at h
   obtain⟨rfl,rfl,rfl⟩:=h
   exact⟨s1,s2,rfl,rfl,rfl⟩
 . cases h
theorem wrG {P:Program}{L:Cf}{N:Nat}{k:List TI}{Q:AX->St->Prop}{st:St}{i:Nat}{ops:Array Oper}{d:Bool}(PM t:List Nat)(x y i1 i2 i3 i4:Nat)(M:List Nat)(c:Nat)(qs:List IS)(qx qy:IS)(ys:List (List PV))(S:St){p:Prop}(hp:p)
 (he:(Ad6 M c L.L (YZ P ops PM t qs x y qx qy [i1,i2,i3,i4] ys st),Eb L.pl i,V9 k,Nat.ble N c)=(some (p,S,S),some (9997::PM.length::(PM++(t++[x,y,i1,i2,i3,i4]))),true,true)) (h:WS P L N k Q S):WS P L N (.code (.region i ops d)::k) Q st:=by
 obtain⟨j,b⟩:=Ô he
 obtain⟨b,a⟩:=Ô b
 obtain⟨a,f⟩:=Ô a
 obtain⟨s1,s2,e,e1,e2⟩:=Z4 j
 refine W9 PM t x y i1 i2 i3 i4 b ?_
 intro K' g _
 exact SL e hp (g _ _ rfl (Li M c a (Ö f) e1 h)) (g _ _ rfl (Li M c a (Ö f) e2 h))
theorem Aiv {P:Program}{L:Cf}{N:Nat}{k:List TI}{fn:Func}{Q:Cs->List (List PV)->Prop}{st:St}{i:Nat}{ops:Array Oper}{d:Bool}(PM t:List Nat)(x y i1 i2 i3 i4:Nat)(qs:List IS)(qx qy:IS){c:List PanicEntry}{σ:List (List PV)}{p:Prop}(hp:p)
 (he:(match YZ P ops PM t qs x y qx qy [i1,i2,i3,i4] [] st with|some (p,.pan c1 s1,.pan c2 s2)=>some (p,(c1,Jz N .undef s1.σ),(c2,Jz N .undef s2.σ))|_=>none)=some (p,(c,σ),(c,σ))) (hn:Eb L.pl i=some (9997::PM.length::(PM++(t++[x,y,i1,i2,i3,i4])))) (h:Q (.pan c) σ) :
 WS P L N (.code (.region i ops d)::k) (CZ P fn N Q) st:=by
 split at he
 . rename_i p' c1 s1 c2 s2 e
   simp only [Â,É] at he
   obtain⟨rfl,⟨rfl,a⟩,⟨rfl,b⟩⟩:=he
   refine W9 PM t x y i1 i2 i3 i4 hn ?_
   intro K' _ hP
   refine SL e hp (hP _ _ ?_) (hP _ _ ?_)
   . show Q (.pan _) (Jz N .undef s1.σ);rw [a];exact h
   . show Q (.pan _) (Jz N .undef s2.σ);rw [b];exact h
 . cases he
theorem Aeo {α:Type}{b:Nat}{x z:List α}{f:α}{row:α->List PV}{n:Nat}{R:List PV}(e:CC b x [f]=some z)(hn:∀ x,(row x).length=n)(hr:row f=R) :
 (x.length:Int)=((x.map row).length:Int)/\decide (((x.map row).length+1)*b<=140737488355328)=true/\(x.map row).all (fun x=>x.length == n)=true/\x.map row++[R]=z.map row:=by
 obtain⟨a,c⟩:=Qi row hn e
 rw [Å,Å] at a
 refine⟨by rw [Ñ],?_,a.2.1,?_⟩
 . rw [Ñ];exact a.1
 . rw [<- c,<- hr];rfl
def N4:Nat->List TI->List TI
 |0,k=>k
 |n+1,.code (.seq a b)::k=>N4 n (.code a::.code b::k)
 |n+1,.code .skip::k=>N4 n k
 |n+1,.code (.label _)::k=>N4 n k
 |n+1,.blk _::k=>N4 n k
 |_+1,k=>k
theorem zp {P:Program}{L:Cf}{N:Nat}{Q:AX->St->Prop}{st:St}:∀ {n:Nat} {k:List TI},WS P L N (N4 n k) Q st->WS P L N k Q st
 |0,_,h=>h
 |n+1,k,h=>by
  unfold N4 at h
  split at h
  . rename_i e;cases e
  . exact z1 (zp h)
  . exact z3 (zp h)
  . exact z4 (zp h)
  . exact z2 (zp h)
  . exact h
theorem aI {a b:Prop}(h:a)(k:b):a/\b:=⟨h,k⟩
theorem tI:True:=trivial
abbrev yT:IS:=.val (.lit (.bool true))
abbrev yF:IS:=.val (.lit (.bool false))
end Go.Sp
