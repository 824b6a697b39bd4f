/-
  Partial operations on plain values, and the words with which lifted functions are walked. No program.
-/
import Derived.Test.YtehfpameijkafaaGreatDoorW4
set_option linter.unusedVariables false
set_option linter.unusedSimpArgs false
namespace Go.Sp
open Go Go.RowKit Go.Q Go.Vl
def gi {α:Type}(l:List α)(i:Int):Option α:=if 0<=i then l[i.toNat]? else none
def gb (s:Æ)(i:Int):Option Int:=if 0<=i/\i<(s.size:Int) then some ((s.data.toList.getD i.toNat 0).toNat:Int) else none
def N8 (s:Æ)(l h:Int):Option Æ:=if 0<=l/\l<=h/\h<=(s.size:Int) then some (s.extract l.toNat h.toNat) else none
def ZS {α:Type}(x:List α)(l h:Int):Option (List α):=if 0<=l/\l<=h/\h<=(x.length:Int) then some ((x.take h.toNat).drop l.toNat) else none
def Ca {α:Type}(b:Nat)(x y:List α):Option (List α):=if (x.length+y.length)*b<=140737488355328 then some (x++y) else none
def gnn (b e:Int):Option Int:=if 0<=b then some e else none
theorem Ae {α β:Type}{x:Option α}{f:α->Option β}{r:β}(h:x.bind f=some r):∃ a,x=some a/\f a=some r:=by
 cases x with
 |none=>cases h
 |some a=>exact⟨a,rfl,h⟩
theorem Am {α:Type}{c:Bool}{a b:Option α}{r:α}(h:(bif c then a else b)=some r):(c=true/\a=some r)∨(c=false/\b=some r):=by
 cases c with
 |true=>exact .inl ⟨rfl,h⟩
 |false=>exact .inr ⟨rfl,h⟩
theorem test {e b:Bool}(h:e=b):PV.lit (.bool e)=PV.lit (.bool b):=by rw [h]
theorem Agf {α:Type}(l:List α)(row:α->List PV){R:α->List PV}(hr:∀ x,row x=R x){i:Int}{x:α}(h:gi l i=some x) :
 (0<=i)/\(i<(l.length:Int))/\(l.map row).getD i.toNat []=R x:=by
 unfold gi at h
 split at h
 . rename_i h0
   obtain⟨h1,h2⟩:=List.getElem?_eq_some_iff.1 h
   refine⟨h0,by omega,?_⟩
   rw [List.getD_eq_getElem?_getD,æ,h,<- hr];rfl
 . cases h
theorem Agg {s:Æ}{i:Int}{x:Int}(h:gb s i=some x):(0<=i)/\(i<(s.size:Int))/\((s.data.toList.getD i.toNat 0).toNat:Int)=x:=by
 unfold gb at h
 split at h
 . rename_i h0;exact⟨h0.1,h0.2,Af h⟩
 . cases h
theorem Acw {s t:Æ}{l h:Int}(e:N8 s l h=some t):(0<=l/\l<=h/\h<=(s.size:Int))/\s.extract l.toNat h.toNat=t:=by
 unfold N8 at e
 split at e
 . rename_i h0;exact⟨h0,Af e⟩
 . cases e
theorem TT {α:Type}(row:α->List PV){n:Nat}(hn:∀ x,(row x).length=n)(l:List α):(l.map row).all (fun x=>x.length == n)=true:=by
 rw [Û]
 intro x hx
 obtain⟨y,_,rfl⟩:=List.mem_map.1 hx
 rw [hn];exact ċ n
theorem Ae3 {α:Type}{x y:List α}{l h:Int}(row:α->List PV){n:Nat}(hn:∀ x,(row x).length=n)(e:ZS x l h=some y) :
 (decide (0<=l/\l<=h/\h<=(x.length:Int))&&(x.map row).all (fun x=>x.length == n))=true/\((x.map row).take h.toNat).drop l.toNat=y.map row:=by
 unfold ZS at e
 split at e
 . rename_i h0
   obtain rfl:=Af e
   refine⟨?_,by rw [List.map_drop,List.map_take]⟩
   rw [Å,Î];exact⟨h0,TT row hn x⟩
 . cases e
theorem P3 {α:Type}{b:Nat}{x y z:List α}(row:α->List PV){n:Nat}(hn:∀ x,(row x).length=n)(e:Ca b x y=some z) :
 (decide ((x.length+y.length)*b<=140737488355328)&&((x.map row).all (fun x=>x.length == n)&&(y.map row).all (fun x=>x.length == n)))=true/\x.map row++y.map row=z.map row:=by
 unfold Ca at e
 split at e
 . rename_i h0
   obtain rfl:=Af e
   refine⟨?_,List.map_append.symm⟩
   rw [Å,Å,Î];exact⟨h0,TT row hn x,TT row hn y⟩
 . cases e
theorem Ae4 {b e q:Int}(h:gnn b e=some q):(0<=b)/\e=q:=by
 unfold gnn at h
 split at h
 . rename_i h0;exact⟨h0,Af h⟩
 . cases h
def SY:PV->PV
 |.sl xs _=>.sl xs .shared
 |p=>p
def shareP:PV->PV
 |.sl xs _=>.sl xs .shared
 |.tup cs=>.tup (cs.map SY)
 |p=>p
theorem Abj {w:World}{U:Nat->Nat->Prop}{φ:List Nat}{p:PV}{v:Value}(h:V w U φ p v):V w U φ (SY p) v:=by
 unfold SY
 split
 . exact h.tag (by simp) (by simp)
 . exact h
theorem Dq.shareP {w:World}{G:Gh}{p:PV}{e:Ending}(h:Dq w G (.ret p) e):Dq w G (.ret (shareP p)) e:=by
 obtain⟨v,he,hv,ht⟩:=h
 refine⟨v,he,?_,?_⟩
 . unfold Sp.shareP
   split
   . exact hv.tag (by simp) (by simp)
   . cases hv with
     |tup _ _ arr hn h =>
      refine .tup _ _ _ (by rw [Í];exact hn) fun i hi=>?_
      rw [é]
      exact Abj (h i (by rw [Í] at hi;exact hi))
   . exact hv
 . unfold Sp.shareP
   split
   . trivial
   . intro i xs hi
     rw [æ] at hi
     rename_i cs
     cases e:cs[i]? with
     |none=>rw [e] at hi;cases hi
     |some q =>
      rw [e] at hi
      have hi:=Af hi
      cases q<;>simp [SY] at hi
   . exact ht
def CA (P:Program)(f:FuncId)(args:List PV)(r:PV):Prop:=∀ σ:List (List PV),VC P f args σ fun x σ'=>x=.ret r/\σ'=σ
theorem VC.fin {P:Program}{f:FuncId}{args:List PV}{R:PV}
 (h:∀ Q:Cl->List (List PV)->Prop,(∀ y,shareP y=R->Q (.ret y) [])->VC P f args [] Q) (hp:F5 args=true) (hr:R.pure=true):CA P f args R:=by
 intro σ
 refine VC.pure ((VC.less (h (fun x _=>∃ y,shareP y=R/\x=.ret y) fun y hy=>⟨y,hy,rfl⟩) (Q':=fun x _=>Gn x=true/\x=.ret R) ?_)) hp
 rintro x σ' ⟨y,rfl,rfl⟩
 exact⟨.ret (shareP y),⟨hr,rfl⟩,fun w G e he=>Dq.shareP he⟩
theorem VC.finOwn {P:Program}{f:FuncId}{args:List PV}{R:PV}
 (h:∀ Q:Cl->List (List PV)->Prop,(∀ y,y=R->Q (.ret y) [])->VC P f args [] Q) (hp:F5 args=true) (hr:R.pure=true):CA P f args R:=by
 intro σ
 refine VC.pure (h (fun x _=>Gn x=true/\x=.ret R) ?_) hp
 rintro y rfl
 exact⟨hr,rfl⟩
inductive Ex (E S α:Type) where
 |ok (a:α) (s:S)
 |pan (e:E) (s:S)
abbrev K5 {E S α:Type}(r:Ex E S α)(A:α->S->Prop)(B:E->S->Prop):Prop :=
 match r with
 |.ok a s=>A a s
 |.pan e s=>B e s
def D9 (P:Program)(f:FuncId)(args:List PV)(cs:List PV)(x:Cl)(cs':List PV):Prop:=VC P f (.ptr 0 0::args) [cs] fun y σ'=>y=x/\σ'=[cs']
theorem D9.at {P:Program}{f:FuncId}{args cs cs':List PV}{x:Cl}{σ:List (List PV)}{k:Nat}(h:D9 P f args cs x cs')(hc:σ[k]?=some cs)(h1:PV.fitsL 0 cs=true)(h2:F5 args=true)(h3:PV.fitsL 0 cs'=true)(h4:Gn x=true) :
 VC P f (.ptr k 0::args) σ fun y σ'=>y=x/\σ'=σ.set k cs':=by
 refine (VC.at (Q:=fun y cs2=>y=x/\cs2=cs') hc h1 h2 (VC.mono h ?_)).mono ?_
 . rintro y σ' ⟨rfl,rfl⟩
   exact⟨cs',rfl,h3,h4,rfl,rfl⟩
 . rintro y σ' ⟨cs2,⟨rfl,rfl⟩,rfl⟩
   exact⟨rfl,rfl⟩
inductive Ir where
 |no
 |val (p:PV)
 |call (r:PV)
 |meth (r:PV) (cs:List PV)
 |mpan (c:List PanicEntry) (cs:List PV)
 |site (r:PV) (σ:List (List PV))
 |sitep (c:List PanicEntry) (σ:List (List PV))
 |look (v:Value) (b:Bool)
 |fcall (r:PV)
 |ald (p:PV)
 |ast (cs:List PV)
def okB:Bool->Option Unit
 |true=>some ()
 |false=>none
theorem CW {c:Bool}{x:Unit}(h:okB c=some x):c=true:=by
 cases c with
 |true=>rfl
 |false=>cases h
inductive Rn where
 |at_ (st:St)
 |pan (c:List PanicEntry) (st:St)
def Rn.holds (K:AX->St->Prop)(X:St->Prop):Rn->Prop
 |.at_ st=>X st
 |.pan c st=>K (.pan c) st
def J1 (P:Program)(f:FuncId)(args:List PV)(σ:List (List PV))(x:Cl)(σ1:List (List PV)):Prop:=VC P f args σ fun y σ'=>y=x/\σ'=σ1
def Sm (P:Program)(f:FuncId)(args:List PV)(σ:List (List PV))(x:Cl)(cs':List PV):Option (Prop×List (List PV)) :=
 match args with
 |.ptr k 0::more=>match σ[k]? with
  |some cs=>match okB (PV.fitsL 0 cs&&(F5 more&&(PV.fitsL 0 cs'&&Gn x))) with
   |some _=>some (D9 P f more cs x cs',σ.set k cs')
   |none=>none
  |none=>none
 |_=>none
theorem Kn {P:Program}{f:FuncId}{args:List PV}{σ:List (List PV)}{x:Cl}{cs':List PV}{p:Prop}{σ1:List (List PV)}(h:Sm P f args σ x cs'=some (p,σ1))(hp:p) :
 VC P f args σ fun y σ'=>y=x/\σ'=σ1:=by
 unfold Sm at h
 split at h
 . split at h
   . rename_i cs hc
     split at h
     . rename_i e
       obtain⟨rfl,rfl⟩:=Ó (Af h)
       have h1:=CW e
       simp only [Å] at h1
       exact D9.at hp hc h1.1 h1.2.1 h1.2.2.1 h1.2.2.2
     . cases h
   . cases h
 . cases h
def XJ (d:TypeDesc)(kvs:List (Value×Value))(k:Value)(z:Option Value):Option (Value×Bool) :=
 match Jh d k kvs 0 with
 |some (some (_,v))=>some (v,true)
 |some none=>z.map fun v=>(v,false)
 |none=>none
def Afz (ok:Bool)(v:Value)(b:Bool):PV:=if ok then .tup [Ge v,.lit (.bool b)] else Ge v
def X1 (P:Program)(o:Oper)(st:St)(v:Value)(b:Bool):Option (Prop×St) :=
 match o.op,o.dst with
 |.lookup t m k ok,some d=>match Y6 P t,XH st m,Cu st k with
  |some (dd,e),some kvs,.lit kv=>match okB (L7 dd kv) with
   |some _=>some (XJ dd kvs kv (Zg P e)=some (v,b),st.put (some d) (Afz ok v b))
   |none=>none
  |_,_,_=>none
 |_,_=>none
theorem PZ {P:Program}{o:Oper}{st st1:St}{v:Value}{b:Bool}{p:Prop}(h:X1 P o st v b=some (p,st1))(hp:p):HX P o st=some (true,st1)/\∀ ops M i,(Yv M o st&&RD ops M i o st)=true:=by
 unfold X1 at h
 split at h
 . rename_i t m k ok d ho hd
   split at h
   . rename_i dd e kvs kv h1 h2 h3
     split at h
     . rename_i hk
       obtain⟨rfl,rfl⟩:=Ó (Af h)
       have hk:=CW hk
       constructor
       . unfold HX
         rw [Ç (by unfold F7;rw [ho])]
         unfold Kx
         rw [ho,hd]
         simp only
         unfold NF
         rw [h1,h2,h3]
         simp only
         unfold XJ at hp
         split at hp
         . rename_i i v' hf
           obtain⟨rfl,rfl⟩:=Ó (Af hp)
           rw [hf]
           simp only [ä,hk]
           cases ok<;>rfl
         . rename_i hf
           rw [hf]
           cases hz:Zg P e with
           |none=>rw [hz] at hp;cases hp
           |some z =>
            rw [hz] at hp
            obtain⟨rfl,rfl⟩:=Ó (Af hp)
            simp only [ä,hk]
            cases ok<;>rfl
         . cases hp
       . intro ops M i
         unfold Yv RD
         rw [ho]
         rfl
     . cases h
   . cases h
 . cases h
def LdA (ag:Bool)(cs:List PV)(off n:Nat)(p:PV):Prop :=
 (∀ q∈cs,q=.undef∨∃ v,q=.lit v)/\(if ag=true then off+n<=cs.length/\p=.agg ((cs.drop off).take n) else off<cs.length/\p=cs.getD off .undef)
def X0 (P:Program)(o:Oper)(st:St)(p:PV):Option (Prop×St) :=
 match o.op,o.dst with
 |.load t x,some d=>match Cu st x,LP P t,Ms P t with
  |.ptr b off,some ag,some n=>match st.σ[b]? with
   |some cs=>some (LdA ag cs off n p,st.put (some d) p)
   |none=>none
  |_,_,_=>none
 |_,_=>none
def StA (cs:List PV)(off n:Nat)(ns cs':List PV):Prop:=(∀ q∈cs,q=.undef∨∃ v,q=.lit v)/\ns.length=n/\off+n<=cs.length/\splice cs off ns=cs'
def Xz (P:Program)(o:Oper)(st:St)(cs':List PV):Option (Prop×St) :=
 match o.op,o.dst with
 |.store t x y,none=>match Cu st x,Ms P t,L2 st y,Qq st y with
  |.ptr b off,some n,none,none=>match st.σ[b]?,okB (HW (Cu st y)||MR (Cu st y)) with
   |some cs,some _=>some (StA cs off n ((Cx (Cu st y)).map GX) cs',{ (st.stripC b off n) with σ:=st.σ.set b cs' })
   |_,_=>none
  |_,_,_,_=>none
 |_,_=>none
theorem UQ {cs:List PV}(h:∀ q∈cs,q=.undef∨∃ v,q=.lit v):Na (some cs)=some cs:=by
 unfold Na
 split
 . rename_i e
   obtain rfl:=Af e
   rcases h _ (Ü ..) with h|⟨v,h⟩<;>cases h
 . rename_i e
   obtain rfl:=Af e
   rcases h _ (Ü ..) with h|⟨v,h⟩<;>cases h
 . rfl
theorem PY {P:Program}{o:Oper}{st st1:St}{p:PV}{q:Prop}(h:X0 P o st p=some (q,st1))(hp:q):HX P o st=some (true,st1):=by
 unfold X0 at h
 split at h
 . rename_i t x d ho hd
   split at h
   . rename_i b off ag n hx ha hn
     split at h
     . rename_i cs hcs
       obtain⟨rfl,rfl⟩:=Ó (Af h)
       obtain⟨h1,h2⟩:=hp
       have hc:=UQ h1
       have hmv:LG P t st d x=none:=by
        unfold LG
        rw [hx]
        simp only
        rw [hcs,hc,ha]
        cases ag with
        |true=>rfl
        |false =>
         simp only
         split
         . rename_i xs hj
           rcases h1 _ (Ò hj) with h|⟨v,h⟩<;>cases h
         . rfl
       unfold HX
       rw [Ä (by unfold F7;rw [ho];simp),hd]
       simp only
       unfold P4
       rw [ho]
       simp only
       rw [hmv]
       simp only
       unfold QU
       rw [ho]
       simp only
       unfold Ky
       rw [hx]
       simp only
       rw [hcs,hc,ha,hn]
       have hun:∀ (l:List PV),(∀ q∈l,q=.undef∨∃ v,q=.lit v)->l.map Bg=l:=fun l hl=>by
        conv=>rhs;rw [<- List.map_id l]
        refine List.map_congr_left fun q hq=>?_
        rcases hl q hq with rfl|⟨v,rfl⟩<;>rfl
       cases ag with
       |true =>
        simp only [ù] at h2
        obtain⟨h2,rfl⟩:=h2
        simp only [ä,Ì h2]
        rw [hun _ fun q hq=>h1 q (ë (ÿ hq))]
       |false =>
        simp only [è,Ā] at h2
        obtain⟨h2,rfl⟩:=h2
        simp only [ä,Ì h2]
        have:Ab5 b off (cs.getD off .undef)=cs.getD off .undef:=by
         have hm:cs.getD off .undef∈cs:=by simp [List.getD,h2]
         rcases h1 _ hm with h|⟨v,h⟩<;>rw [h]<;>rfl
        rw [this]
     . cases h
   . cases h
 . cases h
theorem PX {P:Program}{o:Oper}{st st1:St}{cs':List PV}{q:Prop}(h:Xz P o st cs'=some (q,st1))(hp:q):HX P o st=some (true,st1):=by
 unfold Xz at h
 split at h
 . rename_i t x y ho hd
   split at h
   . rename_i b off n hx hn h3 h4
     split at h
     . rename_i cs z hcs hk
       obtain⟨rfl,rfl⟩:=Ó (Af h)
       obtain⟨h1,h5,h6,rfl⟩:=hp
       have hc:=UQ h1
       have hk:=CW hk
       have h7:(Cx (Cu st y)).length=n:=by simpa using h5
       unfold HX
       rw [Ç (by unfold F7;rw [ho])]
       unfold Kx
       rw [ho,hd]
       simp only
       unfold H7
       rw [hx,hn]
       simp only
       rw [hcs,hc]
       simp only
       rw [h3]
       simp only
       rw [h4]
       simp only
       rw [Ç hk,Ì (And.intro h7 h6)]
     . cases h
   . cases h
 . cases h
def Zq (P:Program)(ops:Array Oper)(st:St)(o:Oper)(q:Ir):Option (Option Prop×Rn) :=
 match CD ops st o with
 |some false=>match q with
  |.no=>some (none,.at_ (st.put o.dst (.lit (.tuple #[]))))
  |_=>none
 |some true=>match HX P o st with
  |some (c,st')=>match q with
   |.no=>match okB c with
    |some _=>some (none,.at_ st')
    |none=>none
   |.val p=>match o.dst,st'.env with
    |some _,(d,p')::rest=>some (some (c=true/\p'=p),.at_ { st' with env:=(d,p)::rest })
    |_,_=>none
   |_=>none
  |none=>match EU P o st with
   |some (f,args)=>match q with
    |.call r=>some (some (CA P f args r),.at_ ((st.aft st.σ).put o.dst r))
    |.meth r cs'=>match Sm P f args st.σ (.ret r) cs' with
     |some (p,σ1)=>some (some p,.at_ ((st.aft σ1).put o.dst r))
     |none=>none
    |.mpan c cs'=>match Sm P f args st.σ (.pan c) cs' with
     |some (p,σ1)=>some (some p,.pan c { st with σ:=σ1 })
     |none=>none
    |.site r σ1=>some (some (J1 P f args st.σ (.ret r) σ1),.at_ ((st.aft σ1).put o.dst r))
    |.sitep c σ1=>some (some (J1 P f args st.σ (.pan c) σ1),.pan c { st with σ:=σ1 })
    |_=>none
   |none=>match Mz o st with
    |some v=>match q with
     |.no=>some (none,.pan [{ v,recovered:=false }] st)
     |_=>none
    |none=>none
 |none=>none
def VD:Option Prop->Prop->Prop
 |none,p=>p
 |some q,p=>q/\p
def TG (o:Oper)(st:St):Option (FuncId×List PV) :=
 match o.op with
 |.call c=>match c.callee with
  |.value x=>match Cu st x with
   |.fno true f caps=>some (f,c.args.toList.map (fun x=>Bg (Cu st x))++caps)
   |_=>none
  |_=>none
 |_=>none
theorem TF {P:Program}{o:Oper}{st:St}{f:FuncId}{args:List PV}(h:TG o st=some (f,args))(hf:Jk P f=true):EU P o st=some (f,args):=by
 unfold TG at h
 unfold EU
 split at h
 . rename_i c hc
   rw [hc]
   simp only
   split at h
   . rename_i x hx
     rw [hx]
     simp only
     split at h
     . rename_i f' caps e
       obtain⟨rfl,rfl⟩:=Ó (Af h)
       rw [e]
       simp only
       rw [Ç hf]
     . cases h
   . cases h
 . cases h
def SX (P:Program)(ops:Array Oper)(st:St)(o:Oper)(q:Ir):Option (Option Prop×Rn) :=
 match q with
 |.look v b=>match CD ops st o with
  |some true=>match X1 P o st v b with
   |some (p,st1)=>some (some p,.at_ st1)
   |none=>none
  |_=>none
 |.fcall r=>match CD ops st o,HX P o st,TG o st with
  |some true,none,some (f,args)=>some (some (Jk P f=true/\CA P f args r),.at_ ((st.aft st.σ).put o.dst r))
  |_,_,_=>none
 |.ald p=>match CD ops st o,X0 P o st p with
  |some true,some (p,st1)=>some (some p,.at_ st1)
  |_,_=>none
 |.ast cs=>match CD ops st o,Xz P o st cs with
  |some true,some (p,st1)=>some (some p,.at_ st1)
  |_,_=>none
 |q=>Zq P ops st o q
def Qk (P:Program)(ops:Array Oper):List Oper->List Ir->St->Option (Prop×Rn)
 | [],_,st=>some (True,.at_ st)
 |_::_,[],_=>none
 |o::l,q::qs,st=>match SX P ops st o q with
  |some (p,.at_ st1)=>match Qk P ops l qs st1 with
   |some (p2,st2)=>some (VD p p2,st2)
   |none=>none
  |some (p,.pan c st1)=>some (VD p True,.pan c st1)
  |none=>none
theorem Hv {p:Option Prop}{q:Prop}(h:VD p q):(∀ x,p=some x->x)/\q:=by
 cases p with
 |none=>exact⟨fun x e=>(by cases e),h⟩
 |some y=>exact⟨fun x e=>(by cases e;exact h.1),h.2⟩
theorem VY {P:Program}{ops:Array Oper}{K:AX->St->Prop}{st:St}{s1:Rn}{o:Oper}{q:Ir}{p:Option Prop}{l:List Oper}
 (h:Zq P ops st o q=some (p,s1)) (hp:∀ x,p=some x->x) (hk:s1.holds K (B5 P ops K l)):B5 P ops K (o::l) st:=by
 unfold Zq at h
 unfold B5
 split at h
 . rename_i e
   rw [e]
   split at h
   . obtain⟨_,rfl⟩:=Ó (Af h);exact hk
   . cases h
 . rename_i e
   rw [e]
   simp only
   split at h
   . rename_i c st' e2
     rw [e2]
     simp only
     split at h
     . split at h
       . rename_i e3
         obtain⟨_,rfl⟩:=Ó (Af h)
         exact⟨CW e3,hk⟩
       . cases h
     . split at h
       . rename_i d' d p' rest e3 e4
         obtain⟨rfl,rfl⟩:=Ó (Af h)
         obtain⟨hc,rfl⟩:=hp _ rfl
         refine⟨hc,?_⟩
         have hk:B5 P ops K l { st' with env:=(d,p')::rest }:=hk
         rw [<- e4] at hk
         exact hk
       . cases h
     . cases h
   . rename_i e2
     rw [e2]
     simp only
     split at h
     . rename_i f args e3
       rw [e3]
       simp only
       split at h
       . obtain⟨rfl,rfl⟩:=Ó (Af h)
         refine (hp _ rfl st.σ).mono ?_
         rintro x σ' ⟨rfl,rfl⟩
         exact hk
       . split at h
         . rename_i hm
           obtain⟨rfl,rfl⟩:=Ó (Af h)
           refine (Kn hm (hp _ rfl)).mono ?_
           rintro x σ' ⟨rfl,rfl⟩
           exact hk
         . cases h
       . split at h
         . rename_i hm
           obtain⟨rfl,rfl⟩:=Ó (Af h)
           refine (Kn hm (hp _ rfl)).mono ?_
           rintro x σ' ⟨rfl,rfl⟩
           exact hk
         . cases h
       . obtain⟨rfl,rfl⟩:=Ó (Af h)
         refine VC.mono (hp _ rfl) ?_
         rintro x σ' ⟨rfl,rfl⟩
         exact hk
       . obtain⟨rfl,rfl⟩:=Ó (Af h)
         refine VC.mono (hp _ rfl) ?_
         rintro x σ' ⟨rfl,rfl⟩
         exact hk
       . cases h
     . rename_i e3
       rw [e3]
       simp only
       split at h
       . rename_i v e4
         rw [e4]
         split at h
         . obtain⟨rfl,rfl⟩:=Ó (Af h);exact hk
         . cases h
       . cases h
 . cases h
theorem Ja {P:Program}{ops:Array Oper}{K:AX->St->Prop}{st:St}{s1:Rn}{o:Oper}{q:Ir}{p:Option Prop}{l:List Oper}
 (h:SX P ops st o q=some (p,s1)) (hp:∀ x,p=some x->x) (hk:s1.holds K (B5 P ops K l)):B5 P ops K (o::l) st:=by
 unfold SX at h
 split at h
 . split at h
   . rename_i hg
     split at h
     . rename_i hl
       obtain⟨rfl,rfl⟩:=Ó (Af h)
       have h1:=(PZ hl (hp _ rfl)).1
       unfold B5
       rw [hg,h1]
       exact⟨rfl,hk⟩
     . cases h
   . cases h
 . split at h
   . rename_i f args h1 h2 h3
     obtain⟨rfl,rfl⟩:=Ó (Af h)
     obtain⟨k1,k2⟩:=hp _ rfl
     unfold B5
     rw [h1]
     simp only
     rw [h2]
     simp only
     rw [TF h3 k1]
     refine (k2 st.σ).mono ?_
     rintro x σ' ⟨rfl,rfl⟩
     exact hk
   . cases h
 . split at h
   . rename_i hg hl
     obtain⟨rfl,rfl⟩:=Ó (Af h)
     unfold B5
     rw [hg,PY hl (hp _ rfl)]
     exact⟨rfl,hk⟩
   . cases h
 . split at h
   . rename_i hg hl
     obtain⟨rfl,rfl⟩:=Ó (Af h)
     unfold B5
     rw [hg,PX hl (hp _ rfl)]
     exact⟨rfl,hk⟩
   . cases h
 . exact VY h hp hk
theorem G9 {P:Program}{ops:Array Oper}{K:AX->St->Prop}:∀ {l:List Oper} {qs:List Ir} {st:St} {s1:Rn} {p:Prop},Qk P ops l qs st=some (p,s1)->p->s1.holds K (K .normal)->B5 P ops K l st
 | [],_,st,st1,p,h,_,hk=>by
  obtain⟨_,rfl⟩:=Ó (Af h)
  exact hk
 |_::_,[],_,_,_,h,_,_=>by cases h
 |o::l,q::qs,st,st1,p,h,hp,hk=>by
  unfold Qk at h
  split at h
  . rename_i p1 st2 e
    split at h
    . rename_i p2 st3 e2
      obtain⟨rfl,rfl⟩:=Ó (Af h)
      obtain⟨h1,h2⟩:=Hv hp
      exact Ja e h1 (G9 e2 h2 hk)
    . cases h
  . rename_i p1 c st2 e
    obtain⟨rfl,rfl⟩:=Ó (Af h)
    obtain⟨h1,h2⟩:=Hv hp
    exact Ja e h1 hk
  . cases h
def Vn (M:List Nat)(c:Nat)(L:List Nat):Option (Prop×Rn)->Option (Prop×St)
 |some (p,.at_ st)=>some (p,low M c (clr L st))
 |_=>none
def Ahc:Option (Prop×Rn)->Option (Prop×(List PanicEntry×List (List PV)))
 |some (p,.pan c st)=>some (p,(c,st.σ))
 |_=>none
theorem Mf {M:List Nat}{c:Nat}{L:List Nat}{x:Option (Prop×Rn)}{p:Prop}{S:St}(h:Vn M c L x=some (p,S)):∃ st,x=some (p,.at_ st)/\low M c (clr L st)=S:=by
 unfold Vn at h
 split at h
 . rename_i p' st
   obtain⟨rfl,rfl⟩:=Ó (Af h)
   exact⟨st,rfl,rfl⟩
 . cases h
theorem Afh {P:Program}{L:Cf}{N:Nat}{k:List TI}{Q:AX->St->Prop}{st:St}{i:Nat}{ops:Array Oper}{d:Bool}(M:List Nat)(c:Nat)(qs:List Ir)(S:St){p:Prop}(hp:p)
 (he:Vn M c L.L (Qk P ops ops.toList qs st)=some (p,S)) (hn:DH L.pl i=none) (hk:UF k=true) (hc:N<=c) (h:WS P L N k Q S):WS P L N (.code (.region i ops d)::k) Q st:=by
 obtain⟨st1,e,rfl⟩:=Mf he
 refine Iq hn ?_
 intro K' hK _
 exact G9 e hp (hK _ _ rfl (KG M c hk hc rfl h))
def Zr (P:Program)(ops:Array Oper)(M:List Nat)(st:St)(i:Nat)(o:Oper)(q:Ir):Option (Option Prop×Rn) :=
 match CD ops st o with
 |some false=>match q with
  |.no=>some (none,.at_ (st.put o.dst (.lit (.tuple #[]))))
  |_=>none
 |some true=>match HX P o st with
  |some (c,st')=>match okB (Yv M o st&&RD ops M i o st) with
   |none=>none
   |some _=>match q with
    |.no=>match okB c with
     |some _=>some (none,.at_ st')
     |none=>none
    |.val p=>match o.dst,st'.env with
     |some _,(d,p')::rest=>some (some (c=true/\p'=p),.at_ { st' with env:=(d,p)::rest })
     |_,_=>none
    |_=>none
  |none=>match EU P o st with
   |some (f,args)=>match Ep ops (C1 ops) i with
    |true=>match q with
     |.call r=>match args with
      |.ptr _ _::_=>none
      |args=>match okB (F5 args) with
       |some _=>some (some (CA P f args r),.at_ ((st.aftK (fun _=>true) (st.σ++[])).put o.dst (r.shift st.σ.length)))
       |none=>none
     |.meth r cs'=>match args with
      |.ptr k 0::more=>match okB (Tu k M&&(PV.fitsL 0 (st.σ.getD k [])&&(F5 more&&(decide (k<st.σ.length)&&(PV.fitsL 0 cs'&&Gn (.ret r)))))) with
       |some _=>some (some (D9 P f more (st.σ.getD k []) (.ret r) cs'),.at_ ((st.aftK (fun q=>q != k) (st.σ.set k cs')).put o.dst r))
       |none=>none
      |_=>none
     |.mpan c cs'=>match args with
      |.ptr k 0::more=>match okB (Tu k M&&(PV.fitsL 0 (st.σ.getD k [])&&(F5 more&&(decide (k<st.σ.length)&&(PV.fitsL 0 cs'&&Gn (.pan c)))))) with
       |some _=>some (some (D9 P f more (st.σ.getD k []) (.pan c) cs'),.pan c { st with σ:=st.σ.set k cs' })
       |none=>none
      |_=>none
     |_=>none
    |false=>match q with
     |.call r=>some (some (CA P f args r),.at_ ((st.aft st.σ).put o.dst r))
     |.meth r cs'=>match Sm P f args st.σ (.ret r) cs' with
      |some (p,σ1)=>some (some p,.at_ ((st.aft σ1).put o.dst r))
      |none=>none
     |.mpan c cs'=>match Sm P f args st.σ (.pan c) cs' with
      |some (p,σ1)=>some (some p,.pan c { st with σ:=σ1 })
      |none=>none
     |.site r σ1=>some (some (J1 P f args st.σ (.ret r) σ1),.at_ ((st.aft σ1).put o.dst r))
     |.sitep c σ1=>some (some (J1 P f args st.σ (.pan c) σ1),.pan c { st with σ:=σ1 })
     |_=>none
   |none=>none
 |none=>none
def Of (P:Program)(ops:Array Oper)(M:List Nat)(st:St)(i:Nat)(o:Oper)(q:Ir):Option (Option Prop×Rn) :=
 match q with
 |.look v b=>match CD ops st o with
  |some true=>match X1 P o st v b with
   |some (p,st1)=>some (some p,.at_ st1)
   |none=>none
  |_=>none
 |.ald p=>match CD ops st o,X0 P o st p,okB (Yv M o st&&RD ops M i o st) with
  |some true,some (p,st1),some _=>some (some p,.at_ st1)
  |_,_,_=>none
 |.ast cs=>match CD ops st o,Xz P o st cs,okB (Yv M o st&&RD ops M i o st) with
  |some true,some (p,st1),some _=>some (some p,.at_ st1)
  |_,_,_=>none
 |q=>Zr P ops M st i o q
def Zw (P:Program)(ops:Array Oper)(M:List Nat):List Nat->List Ir->St->Option (Prop×Rn)
 | [],_,st=>some (True,.at_ st)
 |_::_,[],_=>none
 |i::l,q::qs,st=>match ops[i]? with
  |some o=>match Of P ops M st i o q with
   |some (p,.at_ st1)=>match Zw P ops M l qs st1 with
    |some (p2,st2)=>some (VD p p2,st2)
    |none=>none
   |some (p,.pan c st1)=>some (VD p True,.pan c st1)
   |none=>none
  |none=>none
theorem VZ {P:Program}{ops:Array Oper}{M:List Nat}{K:AX->St->Prop}{st:St}{s1:Rn}{i:Nat}{o:Oper}{q:Ir}{p:Option Prop}{l:List Nat}(ho:ops[i]?=some o)
 (h:Zr P ops M st i o q=some (p,s1)) (hp:∀ x,p=some x->x) (hk:s1.holds K (BK P ops M K l)):BK P ops M K (i::l) st:=by
 unfold Zr at h
 unfold BK
 rw [ho]
 simp only
 split at h
 . rename_i e
   rw [e]
   split at h
   . obtain⟨_,rfl⟩:=Ó (Af h);exact hk
   . cases h
 . rename_i e
   rw [e]
   simp only
   split at h
   . rename_i c st' e2
     rw [e2]
     simp only
     split at h
     . cases h
     . rename_i er
       split at h
       . split at h
         . rename_i e3
           obtain⟨_,rfl⟩:=Ó (Af h)
           exact⟨CW e3,CW er,hk⟩
         . cases h
       . split at h
         . rename_i d' d p' rest e3 e4
           obtain⟨rfl,rfl⟩:=Ó (Af h)
           obtain⟨hc,rfl⟩:=hp _ rfl
           refine⟨hc,CW er,?_⟩
           have hk:BK P ops M K l { st' with env:=(d,p')::rest }:=hk
           rw [<- e4] at hk
           exact hk
         . cases h
       . cases h
   . rename_i e2
     rw [e2]
     simp only
     split at h
     . rename_i f args e3
       rw [e3]
       simp only
       split at h
       . rename_i en
         rw [en]
         simp only [ù]
         split at h
         . split at h
           . cases h
           . rename_i args' hne
             split at h
             . rename_i ep
               obtain⟨rfl,rfl⟩:=Ó (Af h)
               split
               . exact absurd rfl (hne _ _ _)
               . refine⟨CW ep,(hp _ rfl []).mono ?_⟩
                 rintro x σ' ⟨rfl,rfl⟩
                 exact hk
             . cases h
         . split at h
           . split at h
             . rename_i ep
               obtain⟨rfl,rfl⟩:=Ó (Af h)
               have h1:=CW ep
               simp only [Å,Î] at h1
               refine⟨h1.1,h1.2.1,h1.2.2.1,h1.2.2.2.1,VC.mono (hp _ rfl) ?_⟩
               rintro x σ' ⟨rfl,rfl⟩
               exact⟨_,rfl,h1.2.2.2.2.1,h1.2.2.2.2.2,hk⟩
             . cases h
           . cases h
         . split at h
           . split at h
             . rename_i ep
               obtain⟨rfl,rfl⟩:=Ó (Af h)
               have h1:=CW ep
               simp only [Å,Î] at h1
               refine⟨h1.1,h1.2.1,h1.2.2.1,h1.2.2.2.1,VC.mono (hp _ rfl) ?_⟩
               rintro x σ' ⟨rfl,rfl⟩
               exact⟨_,rfl,h1.2.2.2.2.1,h1.2.2.2.2.2,hk⟩
             . cases h
           . cases h
         . cases h
       . rename_i en
         rw [en]
         simp only [è,Ā]
         split at h
         . obtain⟨rfl,rfl⟩:=Ó (Af h)
           refine (hp _ rfl st.σ).mono ?_
           rintro x σ' ⟨rfl,rfl⟩
           exact hk
         . split at h
           . rename_i hm
             obtain⟨rfl,rfl⟩:=Ó (Af h)
             refine (Kn hm (hp _ rfl)).mono ?_
             rintro x σ' ⟨rfl,rfl⟩
             exact hk
           . cases h
         . split at h
           . rename_i hm
             obtain⟨rfl,rfl⟩:=Ó (Af h)
             refine (Kn hm (hp _ rfl)).mono ?_
             rintro x σ' ⟨rfl,rfl⟩
             exact hk
           . cases h
         . obtain⟨rfl,rfl⟩:=Ó (Af h)
           refine VC.mono (hp _ rfl) ?_
           rintro x σ' ⟨rfl,rfl⟩
           exact hk
         . obtain⟨rfl,rfl⟩:=Ó (Af h)
           refine VC.mono (hp _ rfl) ?_
           rintro x σ' ⟨rfl,rfl⟩
           exact hk
         . cases h
     . cases h
 . cases h
theorem F9 {P:Program}{ops:Array Oper}{M:List Nat}{K:AX->St->Prop}{st:St}{s1:Rn}{i:Nat}{o:Oper}{q:Ir}{p:Option Prop}{l:List Nat}(ho:ops[i]?=some o)
 (h:Of P ops M st i o q=some (p,s1)) (hp:∀ x,p=some x->x) (hk:s1.holds K (BK P ops M K l)):BK P ops M K (i::l) st:=by
 unfold Of at h
 split at h
 . split at h
   . rename_i hg
     split at h
     . rename_i hl
       obtain⟨rfl,rfl⟩:=Ó (Af h)
       obtain⟨h1,h2⟩:=PZ hl (hp _ rfl)
       unfold BK
       rw [ho]
       simp only
       rw [hg,h1]
       exact⟨rfl,h2 ops M _,hk⟩
     . cases h
   . cases h
 . split at h
   . rename_i hg hl hb
     obtain⟨rfl,rfl⟩:=Ó (Af h)
     unfold BK
     rw [ho]
     simp only
     rw [hg,PY hl (hp _ rfl)]
     exact⟨rfl,CW hb,hk⟩
   . cases h
 . split at h
   . rename_i hg hl hb
     obtain⟨rfl,rfl⟩:=Ó (Af h)
     unfold BK
     rw [ho]
     simp only
     rw [hg,PX hl (hp _ rfl)]
     exact⟨rfl,CW hb,hk⟩
   . cases h
 . exact VZ ho h hp hk
theorem LW {P:Program}{ops:Array Oper}{M:List Nat}{K:AX->St->Prop}:∀ {l:List Nat} {qs:List Ir} {st:St} {s1:Rn} {p:Prop},Zw P ops M l qs st=some (p,s1)->p->s1.holds K (K .normal)->BK P ops M K l st
 | [],_,st,st1,p,h,_,hk=>by
  obtain⟨_,rfl⟩:=Ó (Af h)
  exact hk
 |_::_,[],_,_,_,h,_,_=>by cases h
 |i::l,q::qs,st,st1,p,h,hp,hk=>by
  unfold Zw at h
  split at h
  . rename_i o ho
    split at h
    . rename_i p1 st2 e
      split at h
      . rename_i p2 st3 e2
        obtain⟨rfl,rfl⟩:=Ó (Af h)
        obtain⟨h1,h2⟩:=Hv hp
        exact F9 ho e h1 (LW e2 h2 hk)
      . cases h
    . rename_i p1 c st2 e
      obtain⟨rfl,rfl⟩:=Ó (Af h)
      obtain⟨h1,h2⟩:=Hv hp
      exact F9 ho e h1 hk
    . cases h
  . cases h
def Te (P:Program)(fn:Func)(N:Nat)(st:St):Option (PV×List (List PV)) :=
 match Ku P fn.results.toList st with
 |some (c,ps,st')=>match okB c with
  |some _=>some (Mw ps,IZ N (Mw ps) st'.σ)
  |none=>none
 |none=>none
theorem J8 {P:Program}{fn:Func}{N:Nat}{st:St}{Q:Cl->List (List PV)->Prop}{r:PV}{σ:List (List PV)}(h:Te P fn N st=some (r,σ))(hq:Q (.ret r) σ):CI P fn N Q .ret st/\CI P fn N Q .normal st:=by
 unfold Te at h
 unfold CI
 simp only
 split at h
 . rename_i c ps st' e
   rw [e]
   split at h
   . rename_i e3
     obtain⟨rfl,rfl⟩:=Ó (Af h)
     have hc:c=true:=CW e3
     exact⟨⟨hc,hq⟩,hc,hq⟩
   . cases h
 . cases h
def SZ:Option (PV×List (List PV))->Option (PV×List (List PV))
 |some (p,σ)=>some (shareP p,σ)
 |none=>none
theorem HH {P:Program}{fn:Func}{N:Nat}{st:St}{Q:Cl->List (List PV)->Prop}{R:PV}{σ:List (List PV)}(hQ:∀ y,shareP y=R->Q (.ret y) σ)(h:SZ (Te P fn N st)=some (R,σ)):CI P fn N Q .ret st/\CI P fn N Q .normal st:=by
 cases e:Te P fn N st with
 |none=>rw [e] at h;cases h
 |some x =>
  obtain⟨p,σ1⟩:=x
  rw [e] at h
  obtain⟨rfl,rfl⟩:=Ó (Af h)
  exact J8 e (hQ p rfl)
theorem U2 {P:Program}{fn:Func}{N:Nat}{st:St}{Q:Cl->List (List PV)->Prop}{R:PV}{σ:List (List PV)}(hQ:∀ y,y=R->Q (.ret y) σ)(h:Te P fn N st=some (R,σ)):CI P fn N Q .ret st/\CI P fn N Q .normal st:=J8 h (hQ R rfl)
theorem oi {α:Type}{l:List α}{row:α->List PV}{n:Nat}{i:Int}{x:α}{R:List PV}(h:gi l i=some x)(hn:∀ x,(row x).length=n)(hr:row x=R) :
 decide (0<=i/\i<((l.map row).length:Int)/\((l.map row).getD i.toNat []).length=n)=true/\PV.vptr ((l.map row).getD i.toNat []) 0=.vptr R 0:=by
 obtain⟨h1,h2,h3⟩:=Agf l row (R:=row) (fun _=>rfl) h
 rw [h3,hr,Í,Î]
 exact⟨⟨h1,h2,by rw [<- hr,hn]⟩,rfl⟩
theorem ob {s:Æ}{i x:Int}(h:gb s i=some x):decide (0<=i/\i<(s.size:Int))=true/\PV.lit (.int .u8 ((s.data.toList.getD i.toNat 0).toNat:Int))=.lit (.int .u8 x):=by
 obtain⟨h1,h2,h3⟩:=Agg h
 rw [h3,Î];exact⟨⟨h1,h2⟩,rfl⟩
theorem Ag0 {s t:Æ}{l h:Int}(e:N8 s l h=some t):decide (0<=l/\l<=h/\h<=(s.size:Int))=true/\PV.lit (.string (s.extract l.toNat h.toNat))=.lit (.string t):=by
 obtain⟨h1,h2⟩:=Acw e
 rw [h2,Î];exact⟨h1,rfl⟩
theorem osl {α:Type}{x y:List α}{l h:Int}{row:α->List PV}{n:Nat}(e:ZS x l h=some y)(hn:∀ x,(row x).length=n) :
 (decide (0<=l/\l<=h/\h<=((x.map row).length:Int))&&(x.map row).all (fun x=>x.length == n))=true/\PV.sl (((x.map row).take h.toNat).drop l.toNat) .shared=.sl (y.map row) .shared:=by
 obtain⟨h1,h2⟩:=Ae3 row hn e
 rw [h2,Í];exact⟨h1,rfl⟩
theorem ZF {α:Type}{b:Nat}{x y z:List α}{row:α->List PV}{n:Nat}(e:Ca b x y=some z)(hn:∀ x,(row x).length=n) :
 (decide (((x.map row).length+(y.map row).length)*b<=140737488355328)&&((x.map row).all (fun x=>x.length == n)&&((y.map row).all (fun x=>x.length == n)&&(!false||!(y.map row).isEmpty))))=true/\PV.sl (x.map row++y.map row) .own=.sl (z.map row) .own:=by
 obtain⟨h1,h2⟩:=P3 row hn e
 rw [h2,Í,Í]
 refine⟨?_,rfl⟩
 rw [ĥ,Bool.true_or,İ];exact h1
theorem Aed {α:Type}(l:List α):l=[]∨l≠[]:=by cases l<;>simp
theorem Afv {α:Type}{b:Nat}{x y z:List α}{row:α->List PV}{n:Nat}(e:Ca b x y=some z)(hn:∀ x,(row x).length=n)(hy:y≠[]) :
 (decide (((x.map row).length+(y.map row).length)*b<=140737488355328)&&((x.map row).all (fun x=>x.length == n)&&((y.map row).all (fun x=>x.length == n)&&(!true||true))))=true/\PV.sl (x.map row++y.map row) (if (y.map row).isEmpty=true then .full else .own)=.sl (z.map row) .own:=by
 obtain⟨h1,h2⟩:=P3 row hn e
 rw [h2,Í,Í,Ä (by simpa using hy)]
 refine⟨?_,rfl⟩
 rw [Bool.or_true,İ];exact h1
theorem Afw {α:Type}{b:Nat}{x y z:List α}{row:α->List PV}{n:Nat}(e:Ca b x y=some z)(hn:∀ x,(row x).length=n)(hy:y=[]) :
 (decide (((x.map row).length+(y.map row).length)*b<=140737488355328)&&((x.map row).all (fun x=>x.length == n)&&((y.map row).all (fun x=>x.length == n)&&(!true||true))))=true/\PV.sl (x.map row++y.map row) (if (y.map row).isEmpty=true then .full else .own)=.sl (z.map row) .full:=by
 obtain⟨h1,h2⟩:=P3 row hn e
 rw [h2,Í,Í,Ç (by rw [hy];rfl)]
 refine⟨?_,rfl⟩
 rw [Bool.or_true,İ];exact h1
theorem onn {k:IntKind}{b e q:Int}(h:gnn b e=some q):decide (0<=b)=true/\PV.lit (.int k e)=.lit (.int k q):=by
 obtain⟨h1,h2⟩:=Ae4 h
 rw [h2,Î];exact⟨h1,rfl⟩
theorem OY {e b:Bool}(h:e=b):true=true/\PV.lit (.bool e)=.lit (.bool b):=⟨rfl,by rw [h]⟩
theorem Dm {xs ys:List (List PV)}{c:Bool}(hc:c=true)(h:xs=ys):c=true/\PV.sl xs .own=.sl ys .own:=⟨hc,by rw [h]⟩
theorem Y1 {α:Type}(l:List α)(row:α->List PV):true=true/\PV.lit (.int .i64 ((l.map row).length:Int))=.lit (.int .i64 (l.length:Int)):=⟨rfl,by rw [Í]⟩
theorem Ag1 {α:Type}{x y:List α}{l:Int}{row:α->List PV}{n:Nat}(e:ZS x l (x.length:Int)=some y)(hn:∀ x,(row x).length=n) :
 (decide (0<=l/\l<=((x.map row).length:Int)/\((x.map row).length:Int)<=((x.map row).length:Int))&&(x.map row).all (fun x=>x.length == n))=true/\PV.sl (((x.map row).take ((x.map row).length:Int).toNat).drop l.toNat) .shared=.sl (y.map row) .shared:=by
 have h:=osl (row:=row) e hn
 rw [Í] at h ⊢
 exact h
theorem D9.fin {P:Program}{f:FuncId}{args cs cs':List PV}{R:PV}(h:∀ Q:Cl->List (List PV)->Prop,(∀ y,shareP y=R->Q (.ret y) [cs'])->VC P f (.ptr 0 0::args) [cs] Q):D9 P f args cs (.ret R) cs':=by
 refine VC.less (h (fun x σ'=>∃ y,shareP y=R/\x=.ret y/\σ'=[cs']) fun y hy=>⟨y,hy,rfl,rfl⟩) ?_
 rintro x σ' ⟨y,rfl,rfl,rfl⟩
 exact⟨.ret (shareP y),⟨rfl,rfl⟩,fun w G e he=>Dq.shareP he⟩
theorem D9.finP {P:Program}{f:FuncId}{args cs cs':List PV}{c:List PanicEntry}(h:∀ Q:Cl->List (List PV)->Prop,Q (.pan c) [cs']->VC P f (.ptr 0 0::args) [cs] Q):D9 P f args cs (.pan c) cs':=h _ ⟨rfl,rfl⟩
theorem J1.fin {P:Program}{f:FuncId}{args:List PV}{σ σ1:List (List PV)}{R:PV}(h:∀ Q:Cl->List (List PV)->Prop,(∀ y,shareP y=R->Q (.ret y) σ1)->VC P f args σ Q):J1 P f args σ (.ret R) σ1:=by
 refine VC.less (h (fun x σ'=>∃ y,shareP y=R/\x=.ret y/\σ'=σ1) fun y hy=>⟨y,hy,rfl,rfl⟩) ?_
 rintro x σ' ⟨y,rfl,rfl,rfl⟩
 exact⟨.ret (shareP y),⟨rfl,rfl⟩,fun w G e he=>Dq.shareP he⟩
def Dz (l:List (ByteArray×Int))(k:Æ):Int×Bool :=
 match l with
 | []=>(0,false)
 |(a,v)::r=>if k=a then (v,true) else Dz r k
def N3 (l:List (ByteArray×Int)):List (Value×Value):=l.map fun x=>(.string x.1,.int .i64 x.2)
abbrev iP (x:Int):PV:=.lit (.int .i64 x)
abbrev uP (x:Int):PV:=.lit (.int .u8 x)
abbrev bP (x:Bool):PV:=.lit (.bool x)
abbrev tP (x:Æ):PV:=.lit (.string x)
abbrev hP {α:Type}(l:List α)(row:α->List PV):PV:=.sl (l.map row) .shared
abbrev oP {α:Type}(l:List α)(row:α->List PV):PV:=.sl (l.map row) .own
section
variable {P:Program} {L:Cf} {N:Nat} {k k':List TI} {Q:AX->St->Prop} {st:St} {a b:Code} {id:Nat}
theorem z1 (h:WS P L N (.code a::.code b::k) Q st):WS P L N (.code (.seq a b)::k) Q st:=Afg h
theorem z2 (h:WS P L N k Q st):WS P L N (.blk id::k) Q st:=h
theorem z3 (h:WS P L N k Q st):WS P L N (.code .skip::k) Q st:=Ye h
theorem z4 {l:Nat}(h:WS P L N k Q st):WS P L N (.code (.label l)::k) Q st:=Abh h
end
theorem wr {P:Program}{L:Cf}{N:Nat}{k:List TI}{Q:AX->St->Prop}{st:St}{i:Nat}{ops:Array Oper}{d:Bool}(M:List Nat)(c:Nat)(qs:List Ir)(S:St){p:Prop}(hp:p)
 (he:(Vn M c L.L (Qk P ops ops.toList qs st),DH L.pl i,UF k,Nat.ble N c)=(some (p,S),none,true,true)) (h:WS P L N k Q S):WS P L N (.code (.region i ops d)::k) Q st:=by
 obtain⟨h1,h2⟩:=Ó he
 obtain⟨h2,h3⟩:=Ó h2
 obtain⟨h3,h4⟩:=Ó h3
 exact Afh M c qs S hp h1 h2 h3 (Ø h4) h
def Ez:Nat->List Ir->List Ir
 |0,l=>l
 |n+1,l=>.no::Ez n l
def Aab (P:Program)(oi oj ok ol:Oper)(ys:List (List PV))(st:St):Option (Prop×St) :=
 match oi.op,oi.dst,oj.op,oj.dst,ok.op,ok.dst,ol.op,ol.dst with
 |.call c,some d1,.indexAddr T (.tmp e1) ix,some d2,.store T3 (.tmp e2) z,none,.store T4 xl (.tmp e3),none =>
  match c.callee,c.args.toList,c.argTypes.toList with
  |.builtin .append,[x,y],[t,t'] =>
   match apT P t,FW st x with
   |some (sz,bytes),some (xs,_,st1) =>
    match HK P t' sz st y,Cu st ix,X6 P T with
    |some [zr],.lit (.int _ n),some (sz2,_) =>
     match H7 P T4 ((st1.put (some d1) (.sl ys .own)).put (some d2) .undef) xl (.tmp d1) with
     |some (c,st3)=>match okB (c&&(decide (e1=d1/\e2=d2/\e3=d1/\d1≠d2/\sz2=sz/\Ms P T3=some sz/\zr.length=sz)&&((Pw ix d1&&(Pw z d1&&(Pw z d2&&(Pw xl d1&&Pw xl d2))))&&Je sz (Cu st z)))) with
      |some _=>some (n=(xs.length:Int)/\decide ((xs.length+1)*max bytes 1<=140737488355328)=true/\xs.all (fun x=>x.length == sz)=true/\xs++[rowOf (Cu st z)]=ys,st3)
      |none=>none
     |none=>none
    |_,_,_=>none
   |_,_=>none
  |_,_,_=>none
 |_,_,_,_,_,_,_,_=>none
theorem WH {P:Program}{oi oj ok ol:Oper}{ys:List (List PV)}{st st3:St}{p:Prop}(h:Aab P oi oj ok ol ys st=some (p,st3))(hp:p):four P oi oj ok ol st=some (true,st3):=by
 unfold Aab at h
 unfold four
 split at h
 . split at h
   . split at h
     . split at h
       . split at h
         . rename_i c2 st4 hst
           split at h
           . rename_i hk
             obtain⟨rfl,rfl⟩:=Ó (Af h)
             obtain⟨h1,h2,h3,rfl⟩:=hp
             have hk:=CW hk
             simp only [Å] at hk
             simp only [*,İ,decide_true]
           . cases h
         . cases h
       . cases h
     . cases h
   . cases h
 . cases h
def Aaa (P:Program)(ops:Array Oper)(t:List Nat)(ys:List (List PV))(st:St):Option (Prop×St) :=
 match t with
 | [i,j,k,l]=>match ops[i]?,ops[j]?,ops[k]?,ops[l]? with
  |some oi,some oj,some ok,some ol=>match okB (H4 oi&&(H4 oj&&(H4 ok&&H4 ol))) with
   |some _=>Aab P oi oj ok ol ys st
   |none=>none
  |_,_,_,_=>none
 |_=>none
theorem WG {P:Program}{ops:Array Oper}{K:AX->St->Prop}{t:List Nat}{ys:List (List PV)}{st st3:St}{p:Prop}(h:Aaa P ops t ys st=some (p,st3))(hp:p)(hk:K .normal st3):Kz P ops K t st:=by
 unfold Aaa at h
 unfold Kz
 split at h
 . split at h
   . split at h
     . rename_i hg
       have hg:=CW hg
       have h5:=WH h hp
       simp only [*,İ]
       exact⟨trivial,trivial⟩
     . cases h
   . cases h
 . cases h
def Ab4 (P:Program)(ops:Array Oper)(M pre:List Nat)(qs:List Ir)(t:List Nat)(ys:List (List PV))(st:St):Option (Prop×Rn) :=
 match Zw P ops M pre qs st with
 |some (p,.at_ st1)=>match Aaa P ops t ys st1 with
  |some (p2,st2)=>some (p/\p2,.at_ st2)
  |none=>none
 |some (p,.pan c st1)=>some (p,.pan c st1)
 |none=>none
theorem Sd {P:Program}{ops:Array Oper}{M pre:List Nat}{K:AX->St->Prop}{qs:List Ir}{t:List Nat}{ys:List (List PV)}{st:St}{s1:Rn}{p:Prop}(h:Ab4 P ops M pre qs t ys st=some (p,s1))(hp:p)(hk:s1.holds K (K .normal)):BK P ops M (EL P ops K t) pre st:=by
 unfold Ab4 at h
 split at h
 . rename_i p1 st1 e
   split at h
   . rename_i p2 st2 e2
     obtain⟨rfl,rfl⟩:=Ó (Af h)
     exact LW e hp.1 (WG e2 hp.2 hk)
   . cases h
 . rename_i p1 c st1 e
   obtain⟨rfl,rfl⟩:=Ó (Af h)
   exact LW e hp hk
 . cases h
def Yt (P:Program)(ops:Array Oper)(M pre:List Nat)(qs:List Ir)(x y:Nat)(qx qy:Ir)(t:List Nat)(ys:List (List PV))(st:St):Option (Prop×Rn×Rn) :=
 match Zw P ops M pre qs st with
 |some (p,.at_ st1)=>match Ab4 P ops M [x,y] [qx,qy] t ys st1,Ab4 P ops M [y,x] [qy,qx] t ys st1 with
  |some (p1,s1),some (p2,s2)=>some (p/\p1/\p2,s1,s2)
  |_,_=>none
 |_=>none
theorem Sc {P:Program}{ops:Array Oper}{M pre:List Nat}{K:AX->St->Prop}{qs:List Ir}{x y:Nat}{qx qy:Ir}{t:List Nat}{ys:List (List PV)}{st:St}{s1 s2:Rn}{p:Prop}(h:Yt P ops M pre qs x y qx qy t ys st=some (p,s1,s2))(hp:p)(hk1:s1.holds K (K .normal))(hk2:s2.holds K (K .normal)) :
 BK P ops M (Jr P ops M (EL P ops K t) [x,y]) pre st:=by
 unfold Yt at h
 split at h
 . rename_i p0 st1 e
   split at h
   . rename_i p1 s1' p2 s2' e1 e2
     simp only [Â,È] at h
     obtain⟨rfl,rfl,rfl⟩:=h
     exact LW e hp.1 ⟨Sd e1 hp.2.1 hk1,Sd e2 hp.2.2 hk2⟩
   . cases h
 . cases h
def Ac3 (M:List Nat)(c:Nat)(L:List Nat):Option (Prop×Rn×Rn)->Option (Prop×St×St)
 |some (p,.at_ s1,.at_ s2)=>some (p,low M c (clr L s1),low M c (clr L s2))
 |_=>none
theorem YK {M:List Nat}{c:Nat}{L:List Nat}{x:Option (Prop×Rn×Rn)}{p:Prop}{S1 S2:St}(h:Ac3 M c L x=some (p,S1,S2)):∃ s1 s2,x=some (p,.at_ s1,.at_ s2)/\low M c (clr L s1)=S1/\low M c (clr L s2)=S2:=by
 unfold Ac3 at h
 split at h
 . rename_i p' s1 s2
   simp only [Â,È] at h
   obtain⟨rfl,rfl,rfl⟩:=h
   exact⟨s1,s2,rfl,rfl,rfl⟩
 . cases h
theorem wrG {P:Program}{L:Cf}{N:Nat}{k:List TI}{Q:AX->St->Prop}{st:St}{i:Nat}{ops:Array Oper}{d:Bool}(PM t:List Nat)(x y i1 i2 i3 i4:Nat)(M:List Nat)(c:Nat)(qs:List Ir)(qx qy:Ir)(ys:List (List PV))(S:St){p:Prop}(hp:p)
 (he:(Ac3 M c L.L (Yt P ops PM t qs x y qx qy [i1,i2,i3,i4] ys st),DH L.pl i,UF k,Nat.ble N c)=(some (p,S,S),some (9997::PM.length::(PM++(t++[x,y,i1,i2,i3,i4]))),true,true)) (h:WS P L N k Q S):WS P L N (.code (.region i ops d)::k) Q st:=by
 obtain⟨h1,h2⟩:=Ó he
 obtain⟨h2,h3⟩:=Ó h2
 obtain⟨h3,h4⟩:=Ó h3
 obtain⟨s1,s2,e,e1,e2⟩:=YK h1
 refine VH PM t x y i1 i2 i3 i4 h2 ?_
 intro K' hK _
 exact Sc e hp (hK _ _ rfl (KG M c h3 (Ø h4) e1 h)) (hK _ _ rfl (KG M c h3 (Ø h4) e2 h))
theorem Agt {P:Program}{L:Cf}{N:Nat}{k:List TI}{fn:Func}{Q:Cl->List (List PV)->Prop}{st:St}{i:Nat}{ops:Array Oper}{d:Bool}(PM t:List Nat)(x y i1 i2 i3 i4:Nat)(qs:List Ir)(qx qy:Ir){c:List PanicEntry}{σ:List (List PV)}{p:Prop}(hp:p)
 (he:(match Yt P ops PM t qs x y qx qy [i1,i2,i3,i4] [] st with|some (p,.pan c1 s1,.pan c2 s2)=>some (p,(c1,IZ N .undef s1.σ),(c2,IZ N .undef s2.σ))|_=>none)=some (p,(c,σ),(c,σ))) (hn:DH L.pl i=some (9997::PM.length::(PM++(t++[x,y,i1,i2,i3,i4])))) (h:Q (.pan c) σ) :
 WS P L N (.code (.region i ops d)::k) (CI P fn N Q) st:=by
 split at he
 . rename_i p' c1 s1 c2 s2 e
   simp only [Â,È] at he
   obtain⟨rfl,⟨rfl,h1⟩,⟨rfl,h2⟩⟩:=he
   refine VH PM t x y i1 i2 i3 i4 hn ?_
   intro K' _ hP
   refine Sc e hp (hP _ _ ?_) (hP _ _ ?_)
   . show Q (.pan _) (IZ N .undef s1.σ);rw [h1];exact h
   . show Q (.pan _) (IZ N .undef s2.σ);rw [h2];exact h
 . cases he
theorem Adk {α:Type}{b:Nat}{x z:List α}{f:α}{row:α->List PV}{n:Nat}{R:List PV}(e:Ca b x [f]=some z)(hn:∀ x,(row x).length=n)(hr:row f=R) :
 (x.length:Int)=((x.map row).length:Int)/\decide (((x.map row).length+1)*b<=140737488355328)=true/\(x.map row).all (fun x=>x.length == n)=true/\x.map row++[R]=z.map row:=by
 obtain⟨h1,h2⟩:=P3 row hn e
 rw [Å,Å] at h1
 refine⟨by rw [Í],?_,h1.2.1,?_⟩
 . rw [Í];exact h1.1
 . rw [<- h2,<- hr];rfl
def ML:Nat->List TI->List TI
 |0,k=>k
 |n+1,.code (.seq a b)::k=>ML n (.code a::.code b::k)
 |n+1,.code .skip::k=>ML n k
 |n+1,.code (.label _)::k=>ML n k
 |n+1,.blk _::k=>ML n k
 |_+1,k=>k
theorem zp {P:Program}{L:Cf}{N:Nat}{Q:AX->St->Prop}{st:St}:∀ {n:Nat} {k:List TI},WS P L N (ML n k) Q st->WS P L N k Q st
 |0,_,h=>h
 |n+1,k,h=>by
  unfold ML at h
  split at h
  . rename_i e;cases e
  . exact z1 (zp h)
  . exact z3 (zp h)
  . exact z4 (zp h)
  . exact z2 (zp h)
  . exact h
theorem aI {a b:Prop}(h:a)(k:b):a/\b:=⟨h,k⟩
theorem tI:True:=trivial
abbrev yT:Ir:=.val (.lit (.bool true))
abbrev yF:Ir:=.val (.lit (.bool false))
end Go.Sp
