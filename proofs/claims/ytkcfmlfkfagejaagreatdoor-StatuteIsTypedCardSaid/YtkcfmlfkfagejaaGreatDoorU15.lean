/-
  What value computes, in plain words, whatever order the table of operations is in. No program.
-/
import Derived.Lib.EndianBits
import Derived.Test.YtkcfmlfkfagejaaGreatDoorU14
namespace Go.Sp
open Go
def GW (n:Int):Int:=if n < -999999999999999 then -999999999999999 else if 999999999999999<n then 999999999999999 else n
def Kr (n:Int):Int:=if n<0 then 0 else if 41667<n then 41667 else n
def Nq (n:Int):Int:=if n<0 then 0 else if 1000<n then 1000 else n
def Jq (d n:Int):Int:=if d=41667 then d else Kr (d+n)
def GR (t v:Int):Prop:=(t=1/\-999999999999999<=v/\v<=999999999999999)∨(t=2/\0<=v/\v<=41667)∨(t=3/\0<=v/\v<=1)∨(t=4/\0<=v/\v<=1000)
def okF (f:Bm):Bool:=decide (1<=f.Kind/\f.Kind<=5/\1<=f.Who/\f.Who<=1000/\0<=f.Day/\f.Day<=41666/\0<=f.Known/\f.Known<=41666)
def EU (d:AB)(known:Int):Int :=
 if 200<d.Facts.length then 2
 else if d.Facts.all okF=true/\0<=d.Stored/\d.Stored<=41666/\0<=known/\known<=41666/\0<=d.Owner/\d.Owner<=1000 then 0 else 1
structure VD (m:Ah):Prop where
 len:m.d.Facts.length<=200
 facts:∀ f∈m.d.Facts,okF f=true
 st:0<=m.d.Stored/\m.d.Stored<=41666
 kn:0<=m.known/\m.known<=41666
 ow:0<=m.d.Owner/\m.d.Owner<=1000
theorem TS {m:Ah}(h:EU m.d m.known=0):VD m:=by
 unfold EU at h
 split at h
 . cases h
 . rename_i h1
   split at h
   . rename_i h2
     exact⟨by omega,List.all_eq_true.1 h2.1,⟨h2.2.1,h2.2.2.1⟩,⟨h2.2.2.2.1,h2.2.2.2.2.1⟩,h2.2.2.2.2.2⟩
   . cases h
theorem Rg (x1 x0 y1 y0:Int):(4294967296*x1+x0)*(4294967296*y1+y0)=18446744073709551616*(x1*y1)+4294967296*(x1*y0)+4294967296*(x0*y1)+x0*y0:=by
 rw [Int.add_mul,Int.mul_add,Int.mul_add,Int.mul_assoc 4294967296 x1 (4294967296*y1),Int.mul_left_comm x1 4294967296 y1,Int.mul_assoc 4294967296 x1 y0,Int.mul_left_comm x0 4294967296 y1]
 omega
theorem U0 {x:Int}(h0:0<=x)(h1:x<18446744073709551616):bits .and .u64 x 4294967295=x % 4294967296:=by
 have h:=bits_mask .u64 64 (by decide) wraps_u64 32 (by decide) x h0 (by omega)
 simpa using h
theorem TX (x y:Int)(hx:0<=x)(hx2:x<=999999999999999)(hy:0<=y)(hy2:y<=999999999999999):DH x y=some (x*y / 18446744073709551616,x*y % 18446744073709551616):=by
 have hs:(2:Int) ^ min (32:Int).toNat IntKind.u64.bits=4294967296:=by decide
 unfold DH
 rw [hs,U0 hx (by omega),U0 hy (by omega)]
 simp only [Int.fdiv_eq_ediv_of_nonneg _ (show (0:Int)<=4294967296 by decide)]
 have ex:x=4294967296*(x / 4294967296)+x % 4294967296:=by omega
 have ey:y=4294967296*(y / 4294967296)+y % 4294967296:=by omega
 have hp:=Rg (x / 4294967296) (x % 4294967296) (y / 4294967296) (y % 4294967296)
 rw [<- ex,<- ey] at hp
 rw [IntKind.wrap_u64 (x*y)]
 have b1:0<=x / 4294967296/\x / 4294967296<=232831:=by omega
 have b2:0<=x % 4294967296/\x % 4294967296<=4294967295:=by omega
 have b3:0<=y / 4294967296/\y / 4294967296<=232831:=by omega
 have b4:0<=y % 4294967296/\y % 4294967296<=4294967295:=by omega
 generalize x / 4294967296=x1 at *
 generalize x % 4294967296=x0 at *
 generalize y / 4294967296=y1 at *
 generalize y % 4294967296=y0 at *
 have p1:=Int.mul_le_mul b1.2 b3.2 b3.1 (by decide)
 have p2:=Int.mul_le_mul b1.2 b4.2 b4.1 (by decide)
 have p3:=Int.mul_le_mul b2.2 b3.2 b3.1 (by decide)
 have p4:=Int.mul_le_mul b2.2 b4.2 b4.1 (by decide)
 have q1:=Int.mul_nonneg b1.1 b3.1
 have q2:=Int.mul_nonneg b1.1 b4.1
 have q3:=Int.mul_nonneg b2.1 b3.1
 have q4:=Int.mul_nonneg b2.1 b4.1
 rw [hp]
 generalize x1*y1=A at *
 generalize x1*y0=B at *
 generalize x0*y1=E at *
 generalize x0*y0=C at *
 rw [wraps_u64 A (by omega) (by omega),wraps_u64 B (by omega) (by omega),wraps_u64 C (by omega) (by omega),wraps_u64 E (by omega) (by omega)]
 rw [wraps_u64 (B+C / 4294967296) (by omega) (by omega)]
 rw [U0 (by omega) (by omega)]
 rw [wraps_u64 (A+(B+C / 4294967296) / 4294967296) (by omega) (by omega),wraps_u64 ((B+C / 4294967296) % 4294967296+E) (by omega) (by omega)]
 rw [wraps_u64 _ (by omega) (by omega)]
 congr 2
 omega
theorem U2 {a:Int}(h : -999999999999999<=a/\a<=999999999999999):IntKind.u64.wrap (if (IntKind.i64.wrap (0-a)) > a then (IntKind.i64.wrap (0-a)) else a)=if a<0 then -a else a:=by
 rw [Ec (by omega) (by omega)]
 by_cases c:a<0
 . rw [if_pos (by omega),if_pos c,wraps_u64 _ (by omega) (by omega)];omega
 . rw [if_neg (by omega),if_neg c,wraps_u64 _ (by omega) (by omega)]
theorem T5 (a b:Int)(ha : -999999999999999<=a/\a<=999999999999999)(hb : -999999999999999<=b/\b<=999999999999999):DK a b=some (GW (a*b)):=by
 unfold DK
 rw [U2 ha,U2 hb]
 generalize hx:(if a<0 then -a else a)=x
 generalize hy:(if b<0 then -b else b)=y
 have x0:0<=x/\x<=999999999999999:=by split at hx<;>omega
 have y0:0<=y/\y<=999999999999999:=by split at hy<;>omega
 rw [TX x y x0.1 x0.2 y0.1 y0.2,Option.bind_some]
 have hp:=Int.mul_nonneg x0.1 y0.1
 have hab:a*b=if (decide (a<0)) == (decide (b<0)) then x*y else -(x*y):=by
  by_cases c1:a<0<;>by_cases c2:b<0<;>simp only [c1,c2,if_true,if_false,decide_true,decide_false] at hx hy ⊢<;>subst hx<;>subst hy<;>simp [Int.neg_mul,Int.mul_neg]
 generalize x*y=p at *
 have hn:((bif ((p / 18446744073709551616:Int) == 0) then some (decide ((p % 18446744073709551616:Int)<999999999999999)) else some false):Option Bool)=some (decide (p<999999999999999)):=by
  by_cases c:p / 18446744073709551616=0
  . rw [show ((p / 18446744073709551616:Int) == 0)=true by simpa using c,cond_true]
    congr 1
    rw [decide_eq_decide];omega
  . rw [show ((p / 18446744073709551616:Int) == 0)=false by simpa using c,cond_false]
    congr 1
    symm;rw [decide_eq_false_iff_not];omega
 simp only [hn,Option.bind_some]
 have hm:((bif (decide (p<999999999999999)) then some (IntKind.i64.wrap (p % 18446744073709551616)) else some 999999999999999):Option Int)=some (if p<999999999999999 then p else 999999999999999):=by
  by_cases c:p<999999999999999
  . rw [decide_eq_true c,cond_true,if_pos c,Ec (by omega) (by omega)];congr 1;omega
  . rw [decide_eq_false c,cond_false,if_neg c]
 simp only [hm,Option.bind_some]
 rw [hab]
 have hq:∃ q,(if p<999999999999999 then p else 999999999999999)=q/\0<=q/\q<=999999999999999/\(p<=999999999999999->q=p)/\(999999999999999<p->q=999999999999999):=by
  refine⟨_,rfl,?_⟩
  split<;>omega
 obtain⟨q,hq,q1,q2,q3,q4⟩:=hq
 rw [hq]
 unfold GW
 cases hc:(decide (a<0)) == (decide (b<0)) with
 |true =>
  rw [Bool.not_true,cond_false,if_pos rfl,if_neg (by omega)]
  congr 1
  by_cases c:999999999999999<p
  . rw [if_pos c];omega
  . rw [if_neg c];omega
 |false =>
  rw [Bool.not_false,cond_true,if_neg Bool.false_ne_true,Ec (by omega) (by omega)]
  congr 1
  by_cases c:999999999999999<p
  . rw [if_pos (by omega)];omega
  . rw [if_neg (by omega),if_neg (by omega)];omega
def WQ (known kind who:Int)(f:Bm):Bool:=f.Kind == kind&&(f.Who == who&&decide (f.Known<=known))
def TG (b:Option Bm)(f:Bm):Bool:=match b with
 |none=>true
 |some g=>decide (g.Known<=f.Known)
def KS (p:Bm->Bool):List Bm->Option Bm->Option Bm
 | [],b=>b
 |f::r,b=>KS p r (if (p f&&TG b f)=true then some f else b)
def Yg:Option Bm->Int
 |none=>41667
 |some f=>f.Day
def LN (m:Ah)(kind who:Int):Int:=Yg (KS (WQ m.known kind who) m.d.Facts none)
def X0 (l:List Bm)(i:Int)(b:Option Bm):Prop:=match b with
 |none=>i = -1
 |some f=>0<=i/\gi l i=some f
theorem Ni (m:Ah)(kind who:Int)(hl:m.d.Facts.length<=200):∀ (r:List Bm) (k:Nat) (i:Int) (b:Option Bm),m.d.Facts.drop k=r->k<=m.d.Facts.length->X0 m.d.Facts i b ->
 ∃ j,Ev (fun n=>Ba n m kind who i (k:Int)) j/\X0 m.d.Facts j (KS (WQ m.known kind who) r b)
 | [],k,i,b,hr,hk,hb=>by
  have he:=R6 hr hk
  refine⟨i,Ev.step (f:=fun n=>some i) (fun n=>?_) Ev.pure,hb⟩
  rw [CV,show (decide ((k:Int)<(m.d.Facts.length:Int)))=false by rw [decide_eq_false_iff_not];omega];rfl
 |f::r,k,i,b,hr,hk,hb=>by
  obtain⟨h1,h2⟩:=Nl hr
  have hg:=Vv hr
  have hc:((bif (f.Kind == kind) then
   bif (f.Who == who) then
    bif (decide (f.Known<=m.known)) then
     bif (decide (i<0)) then
      some true
     else
      (gi m.d.Facts i).bind fun x2 =>
      some (decide (x2.Known<=f.Known))
    else
     some false
   else
    some false
   else
    some false
   ):Option Bool)=some (WQ m.known kind who f&&TG b f):=by
   unfold WQ
   cases (f.Kind == kind)<;>cases (f.Who == who)<;>cases (decide (f.Known<=m.known))<;>simp only [cond_true,cond_false,Bool.and_true,Bool.true_and,Bool.false_and,Bool.and_false]
   cases b with
   |none =>
    have:i = -1:=hb
    subst this
    rfl
   |some g =>
    have hb:0<=i/\gi m.d.Facts i=some g:=hb
    rw [show decide (i<0)=false by rw [decide_eq_false_iff_not];omega,cond_false,hb.2];rfl
  cases hx:(WQ m.known kind who f&&TG b f) with
  |true =>
   obtain⟨j,h3,h4⟩:=Ni m kind who hl r (k+1) (k:Int) (some f) h1 (by omega) ⟨by omega,hg⟩
   refine⟨j,Ev.step (fun n=>?_) h3,?_⟩
   . rw [CV,UH h2,cond_true,hg,Option.bind_some,hc,hx,Option.bind_some,cond_true,UJ (by omega)]
   . rw [KS,if_pos hx];exact h4
  |false =>
   obtain⟨j,h3,h4⟩:=Ni m kind who hl r (k+1) i b h1 (by omega) hb
   refine⟨j,Ev.step (fun n=>?_) h3,?_⟩
   . rw [CV,UH h2,cond_true,hg,Option.bind_some,hc,hx,Option.bind_some,cond_false,UJ (by omega)]
   . rw [KS,if_neg (by rw [hx];exact Bool.false_ne_true)];exact h4
theorem V1 (m:Ah)(kind who:Int)(hl:m.d.Facts.length<=200):Ev (fun n=>BP n m kind who) (LN m kind who):=by
 obtain⟨j,h1,h2⟩:=Ni m kind who hl m.d.Facts 0 (-1) none rfl (Nat.zero_le _) rfl
 unfold BP
 refine Ev.bind h1 ?_
 unfold LN
 cases hb:KS (WQ m.known kind who) m.d.Facts none with
 |none =>
  rw [hb] at h2
  have:j = -1:=h2
  subst this
  exact Ev.pure
 |some f =>
  rw [hb] at h2
  have h2:0<=j/\gi m.d.Facts j=some f:=h2
  simp only [show decide (j<0)=false by rw [decide_eq_false_iff_not];omega,cond_false,h2.2,Option.bind_some]
  exact Ev.pure
theorem O8 {p:Bm->Bool}:∀ {l:List Bm} {b:Option Bm} {f:Bm},KS p l b=some f->f∈l∨b=some f
 | [],b,f,h=>.inr h
 |x::l,b,f,h=>by
  rw [KS] at h
  rcases O8 h with h|h
  . exact .inl (List.mem_cons_of_mem _ h)
  . split at h
    . exact .inl (by rw [Ag h];simp)
    . exact .inr h
theorem Ub {m:Ah}(hm:VD m)(kind who:Int):0<=LN m kind who/\LN m kind who<=41667:=by
 unfold LN
 cases hb:KS (WQ m.known kind who) m.d.Facts none with
 |none=>exact⟨by decide,by decide⟩
 |some f =>
  rcases O8 hb with h|h
  . have:=hm.facts f h
    unfold okF at this
    rw [decide_eq_true_eq] at this
    unfold Yg
    simp only
    omega
  . cases h
def KJ (b:Bool):Int:=if b=true then 1 else 0
def Lq (m:Ah)(d:Do)(x:List Int):Int:=match d with
 |.c 77=>-(x.getD 0 0)
 |.c 78=>GW (x.getD 0 0*x.getD 1 0)
 |.c 80=>GW (x.getD 0 0+x.getD 1 0)
 |.c 82=>Jq (x.getD 0 0) (x.getD 1 0)
 |.c 84=>GW (x.getD 0 0-x.getD 1 0)
 |.c 85=>Jq (x.getD 0 0) (-(x.getD 1 0))
 |.c 86=>x.getD 0 0-x.getD 1 0
 |.c 87=>1-x.getD 0 0
 |.c 88=>x.getD 0 0*x.getD 1 0
 |.c 89=>max (x.getD 0 0) (x.getD 1 0)
 |.c 90=>Kr (x.getD 0 0)
 |.c 92=>Nq (x.getD 0 0)
 |.c 103=>if x.getD 0 0=1 then x.getD 1 0 else x.getD 2 0
 |.c 104=>min (x.getD 0 0) (x.getD 1 0)
 |.c 105=>max (x.getD 0 0) (x.getD 1 0)
 |.k k=>LN m (k+1) (x.getD 0 0)
 |.is 95=>KJ (decide (x.getD 0 0<x.getD 1 0))
 |.is 96=>KJ (decide (x.getD 0 0<=x.getD 1 0))
 |.is 97=>KJ (decide (x.getD 1 0<x.getD 0 0))
 |.is 98=>KJ (decide (x.getD 1 0<=x.getD 0 0))
 |.is 99=>KJ (x.getD 0 0 == x.getD 1 0)
 |.is 100=>KJ (x.getD 0 0 != x.getD 1 0)
 |_=>0
def NG:List Int->List Int->Prop
 | [],[]=>True
 |t::ts,x::xs=>GR t x/\NG ts xs
 |_,_=>False
theorem Y3 {t:Int}{xs:List Int}(h:NG [t] xs):∃ a,xs=[a]/\GR t a:=by
 match xs,h with
 | [a],h=>exact⟨a,rfl,h.1⟩
theorem Y2 {t u:Int}{xs:List Int}(h:NG [t,u] xs):∃ a b,xs=[a,b]/\GR t a/\GR u b:=by
 match xs,h with
 | [a,b],h=>exact⟨a,b,rfl,h.1,h.2.1⟩
theorem Y1 {t u v:Int}{xs:List Int}(h:NG [t,u,v] xs):∃ a b c,xs=[a,b,c]/\GR t a/\GR u b/\GR v c:=by
 match xs,h with
 | [a,b,c],h=>exact⟨a,b,c,rfl,h.1,h.2.1,h.2.2.1⟩
theorem Oq (n:Int):Ch n=some (GW n):=by
 unfold Ch GW
 congr 1
 repeat' split
 all_goals omega
theorem Uw (n:Int):Ew n=some (Kr n):=by
 unfold Ew Kr
 congr 1
 repeat' split
 all_goals omega
theorem Qh {d n:Int}(h : -1000000000000000<=n/\n<=1000000000000000)(h2:0<=d/\d<=41667):C9 d n=some (Jq d n):=by
 unfold C9 Jq
 by_cases c:d=41667
 . rw [if_pos c,show (d == 41667)=true by simpa using c];rfl
 . rw [if_neg c,show (d == 41667)=false by simpa using c,cond_false,Uw,Option.bind_some,Ec (by omega) (by omega)]
theorem VW {a b:Int}(ha:0<=a/\a<=1)(hb:0<=b/\b<=1):bits .and .i64 a b=a*b/\bits .or .i64 a b=max a b:=by
 have h1:a=0∨a=1:=by omega
 have h2:b=0∨b=1:=by omega
 rcases h1 with rfl|rfl<;>rcases h2 with rfl|rfl<;>decide
theorem Uo (b:Bool):(C3 b).bind (fun f=>some f)=some (KJ b):=by cases b<;>rfl
instance (t v:Int):Decidable (GR t v):=by unfold GR;exact inferInstance
theorem Vy (b:Bool):GR 3 (KJ b):=by cases b<;>decide
theorem X6 {t:Int}(m:Ah){d:Do}{k:Int}(h:∀ a,GR t a->Ev (fun n=>EV n d m [a]) (Lq m d [a])/\GR k (Lq m d [a])):∀ xs,NG [t] xs->Ev (fun n=>EV n d m xs) (Lq m d xs)/\GR k (Lq m d xs):=by
 intro xs hx
 obtain⟨a,rfl,h1⟩:=Y3 hx
 exact h a h1
theorem TO {t u:Int}(m:Ah){d:Do}{k:Int}(h:∀ a b,GR t a->GR u b->Ev (fun n=>EV n d m [a,b]) (Lq m d [a,b])/\GR k (Lq m d [a,b])):∀ xs,NG [t,u] xs->Ev (fun n=>EV n d m xs) (Lq m d xs)/\GR k (Lq m d xs):=by
 intro xs hx
 obtain⟨a,b,rfl,h1,h2⟩:=Y2 hx
 exact h a b h1 h2
theorem YP {t u v:Int}(m:Ah){d:Do}{k:Int}(h:∀ a b c,GR t a->GR u b->GR v c->Ev (fun n=>EV n d m [a,b,c]) (Lq m d [a,b,c])/\GR k (Lq m d [a,b,c])):∀ xs,NG [t,u,v] xs->Ev (fun n=>EV n d m xs) (Lq m d xs)/\GR k (Lq m d xs):=by
 intro xs hx
 obtain⟨a,b,c,rfl,h1,h2,h3⟩:=Y1 hx
 exact h a b c h1 h2 h3
theorem UI {v:Int}(h:GR 1 v) : -999999999999999<=v/\v<=999999999999999:=by unfold GR at h;omega
theorem WU {v:Int}(h:GR 2 v):0<=v/\v<=41667:=by unfold GR at h;omega
theorem Ue {v:Int}(h:GR 3 v):0<=v/\v<=1:=by unfold GR at h;omega
theorem YT {v:Int}(h:GR 4 v):0<=v/\v<=1000:=by unfold GR at h;omega
theorem UQ {v:Int}(h : -999999999999999<=v/\v<=999999999999999):GR 1 v:=by unfold GR;omega
theorem Xw {v:Int}(h:0<=v/\v<=41667):GR 2 v:=by unfold GR;omega
theorem YL {v:Int}(h:0<=v/\v<=1):GR 3 v:=by unfold GR;omega
theorem Y9 {v:Int}(h:0<=v/\v<=1000):GR 4 v:=by unfold GR;omega
theorem L3 (n:Int):GR 1 (GW n):=UQ (by unfold GW;split<;>(try split)<;>omega)
theorem O7 (n:Int):GR 2 (Kr n):=Xw (by unfold Kr;split<;>(try split)<;>omega)
theorem Ti (n:Int):GR 4 (Nq n):=Y9 (by unfold Nq;split<;>(try split)<;>omega)
theorem Qi {d:Int}(n:Int)(h:0<=d/\d<=41667):GR 2 (Jq d n):=by
 unfold Jq
 split
 . exact Xw h
 . exact O7 _
def Pz (m:Ah)(o:Ab):Prop:=∀ xs,NG o.args xs->Ev (fun n=>EV n o.do_ m xs) (Lq m o.do_ xs)/\GR o.kind (Lq m o.do_ xs)
theorem Vm (m:Ah)(hm:VD m):∀ o∈E4,Pz m o:=by
 have fact:∀ (s:ByteArray) (k:Int),k=0∨k=1∨k=2∨k=3∨k=4->Pz m ⟨4,s,[4],2,.k k⟩:=fun s k hk=>X6 m fun a ha=>by
  refine⟨?_,Xw (Ub hm _ _)⟩
  show Ev (fun n=>(gi [a] 0).bind fun x1=>(BP n m (IntKind.i64.wrap (k+1)) x1).bind fun f=>some f) (LN m (k+1) a)
  rw [Ec (by omega) (by omega)]
  show Ev (fun n=>(BP n m (k+1) a).bind fun f=>some f) (LN m (k+1) a)
  exact Ev.bind (V1 m (k+1) a hm.len) Ev.pure
 unfold E4
 simp only [List.forall_mem_cons,List.not_mem_nil,false_imp_iff,implies_true,and_true]
 refine⟨?_,?_,?_,?_,?_,?_,?_,?_,?_,?_,?_,?_,fact _ _ (by simp),fact _ _ (by simp),fact _ _ (by simp),fact _ _ (by simp),fact _ _ (by simp)⟩
 . refine X6 m fun a ha=>?_
   have:=UI ha
   refine⟨Ev.const ?_,UQ (by show _<=-a/\-a<=_;omega)⟩
   show some (IntKind.i64.wrap (0-a))=some (-a)
   rw [Ec (by omega) (by omega)];congr 1;omega
 . refine TO m fun a b ha hb=>⟨Ev.const ?_,L3 _⟩
   show (DK a b).bind _=_
   rw [T5 a b (UI ha) (UI hb)];rfl
 . refine TO m fun a b ha hb=>⟨Ev.const ?_,L3 _⟩
   have:=UI ha
   have:=UI hb
   show (Ch (IntKind.i64.wrap (a+b))).bind _=_
   rw [Ec (by omega) (by omega),Oq];rfl
 . refine TO m fun a b ha hb=>⟨Ev.const ?_,Qi _ (WU ha)⟩
   have:=UI hb
   show (C9 a b).bind _=_
   rw [Qh (by omega) (WU ha)];rfl
 . refine TO m fun a b ha hb=>⟨Ev.const ?_,L3 _⟩
   have:=UI ha
   have:=UI hb
   show (Ch (IntKind.i64.wrap (a-b))).bind _=_
   rw [Ec (by omega) (by omega),Oq];rfl
 . refine TO m fun a b ha hb=>⟨Ev.const ?_,Qi _ (WU ha)⟩
   have:=UI hb
   show (C9 a (IntKind.i64.wrap (0-b))).bind _=_
   rw [Ec (by omega) (by omega),Qh (by omega) (WU ha),show (0:Int)-b = -b by omega];rfl
 . refine TO m fun a b ha hb=>?_
   have:=WU ha
   have:=WU hb
   refine⟨Ev.const ?_,UQ (by show _<=a-b/\a-b<=_;omega)⟩
   show some (IntKind.i64.wrap (a-b))=some (a-b)
   rw [Ec (by omega) (by omega)]
 . refine X6 m fun a ha=>?_
   have:=Ue ha
   refine⟨Ev.const ?_,YL (by show _<=1-a/\1-a<=_;omega)⟩
   show some (IntKind.i64.wrap (1-a))=some (1-a)
   rw [Ec (by omega) (by omega)]
 . refine TO m fun a b ha hb=>?_
   have h1:a=0∨a=1:=by have:=Ue ha;omega
   have h2:b=0∨b=1:=by have:=Ue hb;omega
   refine⟨Ev.const ?_,?_⟩
   . show some (bits .and .i64 a b)=some (a*b)
     rw [(VW (Ue ha) (Ue hb)).1]
   . show GR 3 (a*b)
     rcases h1 with rfl|rfl<;>rcases h2 with rfl|rfl<;>decide
 . refine TO m fun a b ha hb=>?_
   have h1:a=0∨a=1:=by have:=Ue ha;omega
   have h2:b=0∨b=1:=by have:=Ue hb;omega
   refine⟨Ev.const ?_,?_⟩
   . show some (bits .or .i64 a b)=some (max a b)
     rw [(VW (Ue ha) (Ue hb)).2]
   . show GR 3 (max a b)
     rcases h1 with rfl|rfl<;>rcases h2 with rfl|rfl<;>decide
 . refine X6 m fun a ha=>⟨Ev.const ?_,O7 _⟩
   show (Ew a).bind _=_
   rw [Uw];rfl
 . refine X6 m fun a ha=>⟨Ev.const ?_,Ti _⟩
   show some (if (if 1000<a then 1000 else a) > 0 then (if 1000<a then 1000 else a) else 0)=some (Nq a)
   unfold Nq
   congr 1
   repeat' split
   all_goals omega
theorem Ww (m:Ah)(i:Nat):∀ o∈F3 i,Pz m o:=by
 have cmp:∀ (op t:Int) (f:Nat),f=95∨f=96∨f=97∨f=98∨f=99∨f=100->Pz m ⟨op,⟨#[]⟩,[t,t],3,.is f⟩:=fun op t f hf=>TO m fun a b _ _=>by
  rcases hf with rfl|rfl|rfl|rfl|rfl|rfl<;>exact⟨Ev.const (Uo _),Vy _⟩
 intro o ho
 unfold F3 at ho
 split at ho
 . rename_i op f e
   have hf:f=95∨f=96∨f=97∨f=98∨f=99∨f=100:=by
    have h:∀ x∈X4,x.2=95∨x.2=96∨x.2=97∨x.2=98∨x.2=99∨x.2=100:=by decide
    exact h _ (List.mem_of_getElem? e)
   unfold Hu at ho
   split at ho<;>simp at ho
   . rcases ho with rfl|rfl|rfl<;>exact cmp _ _ _ hf
   . rcases ho with rfl|rfl<;>exact cmp _ _ _ hf
 . simp at ho
theorem Vk (m:Ah):∀ o∈NY,Pz m o:=by
 have ite:∀ t:Int,Pz m ⟨20,⟨#[]⟩,[3,t,t],t,.c 103⟩:=fun t=>YP m fun a b c ha hb hc=>by
  have h1:a=0∨a=1:=by have:=Ue ha;omega
  rcases h1 with rfl|rfl
  . exact⟨Ev.const rfl,hc⟩
  . exact⟨Ev.const rfl,hb⟩
 have mn:∀ t:Int,Pz m ⟨4,⟨#[109,105,110]⟩,[t,t],t,.c 104⟩:=fun t=>TO m fun a b ha hb=>by
  have e:Lq m (.c 104) [a,b]=min a b:=rfl
  rw [e]
  refine⟨Ev.const ?_,?_⟩
  . show some (if b<a then b else a)=some (min a b)
    congr 1
    split<;>omega
  . by_cases c:a<=b
    . rw [show min a b=a by omega];exact ha
    . rw [show min a b=b by omega];exact hb
 have mx:∀ t:Int,Pz m ⟨4,⟨#[109,97,120]⟩,[t,t],t,.c 105⟩:=fun t=>TO m fun a b ha hb=>by
  have e:Lq m (.c 105) [a,b]=max a b:=rfl
  rw [e]
  refine⟨Ev.const ?_,?_⟩
  . show some (if b > a then b else a)=some (max a b)
    congr 1
    split<;>omega
  . by_cases c:a<=b
    . rw [show max a b=b by omega];exact hb
    . rw [show max a b=a by omega];exact ha
 unfold NY
 simp only [List.forall_mem_cons,List.not_mem_nil,false_imp_iff,implies_true,and_true]
 exact⟨ite 1,mn 1,mx 1,ite 2,mn 2,mx 2,ite 3,ite 4⟩
theorem Ws (m:Ah)(hm:VD m)(os:List Nat):∀ o∈opsOf os,Pz m o:=by
 intro o ho
 unfold opsOf at ho
 rcases List.mem_append.1 ho with ho|ho
 . rcases List.mem_append.1 ho with ho|ho
   . exact Vm m hm o ho
   . obtain⟨i,_,h2⟩:=List.mem_flatMap.1 ho
     exact Ww m i o h2
 . exact Vk m o ho
theorem O9 {p x:Int}(h:x≠0):¬ (QI p x).2.2.E=0:=h
theorem Q0 {op num at0:Int}{str:ByteArray}{kids:List Aa}(h:(AV (.mk op num str kids at0)).2.2.E=0) :
 ∃ ts,BY kids=.inl ts/\((op=1/\0<=num/\num<=999999999999999/\kids=[]/\AV (.mk op num str kids at0)=(1,VN,⟨0,0⟩))
  ∨ (op=3/\(BD BL str).2=true/\kids=[]/\AV (.mk op num str kids at0)=((BD BL str).1,VN,⟨0,0⟩))
  ∨ (op≠1/\op≠3/\∃ o,o∈EP/\pick op str ts EP=some o/\o.args=ts/\AV (.mk op num str kids at0)=(o.kind,o,⟨0,0⟩))):=by
 rw [AV] at h ⊢
 by_cases c:op<1∨20<op∨(0<=arity op/\(kids.length:Int)≠arity op)
 . rw [if_pos c] at h;exact absurd h (O9 (by decide))
 rw [if_neg c] at h ⊢
 cases ht:BY kids with
 |inr o =>
  rw [ht] at h
  exfalso
  have key:∀ (l:List Aa) (o:Int×Ab×Au),BY l=.inr o->o.2.2.E≠0:=by
   intro l
   induction l with
   |nil=>intro o h;cases h
   |cons e l ih =>
    intro o h
    rw [BY] at h
    split at h
    . rename_i h1;cases h;exact h1
    . split at h
      . cases h
      . rename_i h2;cases h;exact ih _ h2
  exact key _ _ ht h
 |inl ts =>
  refine⟨ts,rfl,?_⟩
  rw [ht] at h
  simp only at h ⊢
  have a1:arity op=0->kids=[]:=fun ha=>by
   have:(kids.length:Int)=0:=by
    by_cases e:(kids.length:Int)=arity op
    . omega
    . exact absurd (.inr (.inr ⟨by omega,e⟩)) c
   exact List.length_eq_zero_iff.1 (by omega)
  by_cases h1:op=1
  . rw [if_pos h1] at h ⊢
    split at h
    . exact absurd h (O9 (by decide))
    . rename_i h2
      rw [if_neg h2]
      exact .inl ⟨h1,by omega,by omega,a1 (by subst h1;rfl),rfl⟩
  rw [if_neg h1] at h ⊢
  by_cases h2:op=2
  . rw [if_pos h2] at h;exact absurd h (O9 (by decide))
  rw [if_neg h2] at h ⊢
  by_cases h3:op=3
  . rw [if_pos h3] at h ⊢
    split at h
    . rename_i h4
      rw [if_pos h4]
      exact .inr (.inl ⟨h3,h4,a1 (by subst h3;rfl),rfl⟩)
    . exact absurd h (O9 (by decide))
  rw [if_neg h3] at h ⊢
  refine .inr (.inr ⟨h1,h3,?_⟩)
  unfold BA at h ⊢
  cases hp:pick op str ts EP with
  |some o =>
   have hp2:=hp
   unfold pick at hp2
   have m1:=List.mem_of_find?_eq_some hp2
   have m2:=List.find?_some hp2
   rw [Bool.and_eq_true,decide_eq_true_eq] at m2
   exact⟨o,m1,rfl,m2.2,rfl⟩
  |none =>
   rw [hp] at h
   simp only at h
   split at h
   . exact absurd h (O9 (by decide))
   . split at h<;>exact absurd h (O9 (by decide))
mutual
def KL (m:Ah):Aa->Int
 |.mk op n s kids p =>
  if op=1 then n
  else if op=3 then (BD [(⟨#[121,101,97,114]⟩,365),(⟨#[115,116,111,114,101,100]⟩,m.d.Stored),(⟨#[110,101,118,101,114]⟩,41667),(⟨#[111,119,110,101,114]⟩,m.d.Owner)] s).1
  else Lq m (AV (.mk op n s kids p)).2.1.do_ (Ko m kids)
def Ko (m:Ah):List Aa->List Int
 | []=>[]
 |e::l=>KL m e::Ko m l
end
theorem Vp (m:Ah)(hm:VD m)(s:ByteArray)(h:(BD BL s).2=true) :
 GR (BD BL s).1 (BD [(⟨#[121,101,97,114]⟩,365),(⟨#[115,116,111,114,101,100]⟩,m.d.Stored),(⟨#[110,101,118,101,114]⟩,41667),(⟨#[111,119,110,101,114]⟩,m.d.Owner)] s).1:=by
 have h1:=hm.st
 have h2:=hm.ow
 unfold BL at h ⊢
 unfold BD at h ⊢
 split
 . exact UQ (by decide)
 rename_i c1
 rw [if_neg c1] at h
 unfold BD at h ⊢
 split
 . exact Xw (by omega)
 rename_i c2
 rw [if_neg c2] at h
 unfold BD at h ⊢
 split
 . exact Xw (by decide)
 rename_i c3
 rw [if_neg c3] at h
 unfold BD at h ⊢
 split
 . exact Y9 (by omega)
 . rename_i c4
   rw [if_neg c4] at h
   cases h
theorem Uh {m:Ah}{d:Do}{xs:List Int}{v:Int}(h:Ev (fun n=>EV n d m xs) v):WZ d=some d:=by
 obtain⟨n,h⟩:=h.get
 cases d with
 |nil=>cases h
 |_=>rfl
theorem P5 (s:AL)(m:Ah)(e:Aa)(hk:e.Kids.length<=1000000)(hf:∀ x∈e.Kids,Ev (fun n=>A9 n s x m) (KL m x)) :
 ∀ (r:List Aa) (k:Nat) (vs:List Int),e.Kids.drop k=r->k<=e.Kids.length->vs.length=k->Ev (fun n=>AI n e s m vs (k:Int)) (vs++Ko m r)
 | [],k,vs,hr,hkl,_=>by
  have he:=R6 hr hkl
  refine Ev.step (f:=fun n=>some vs) (fun n=>?_) ?_
  . rw [DE,show (decide ((k:Int)<(e.Kids.length:Int)))=false by rw [decide_eq_false_iff_not];omega];rfl
  . rw [Ko,List.append_nil];exact Ev.pure
 |x::r,k,vs,hr,hkl,hvs=>by
  obtain⟨h1,h2⟩:=Nl hr
  have hmem:x∈e.Kids:=List.mem_of_mem_drop (by rw [hr];simp)
  refine Ev.step (f:=fun n=>(A9 n s x m).bind fun v=>AI n e s m (vs++[v]) ((k+1:Nat):Int)) (fun n=>?_) ?_
  . rw [DE,UH h2,cond_true,Vv hr,Option.bind_some]
    congr 1
    funext v
    rw [Option.bind_some,VT (by omega) (by simp),Option.bind_some,UJ (by omega)]
  . refine Ev.bind (hf x hmem) ?_
    have ih:=P5 s m e hk hf r (k+1) (vs++[KL m x]) h1 (by omega) (by simp [hvs])
    rw [Ko]
    simpa [List.append_assoc] using ih
def VY (os:List Nat)(m:Ah)(e:Aa):Prop:=Ev (fun n=>A9 n ⟨opsOf os,BL⟩ e m) (KL m e)/\GR (AV e).1 (KL m e)
theorem QR {os:List Nat}(ho:Ord os)(m:Ah)(hm:VD m)(op num at0:Int)(str:ByteArray)(kids:List Aa)(hs:CG (.mk op num str kids at0)=true)(ht:(AV (.mk op num str kids at0)).2.2.E=0)
 (hkids:∀ ts,BY kids=.inl ts->NG ts (Ko m kids)/\∀ x∈kids,Ev (fun n=>A9 n ⟨opsOf os,BL⟩ x m) (KL m x)):VY os m (.mk op num str kids at0):=by
 have hfind:=Pe ho _ hs
 have hs2:=hs
 rw [CG,Bool.and_eq_true,decide_eq_true_eq] at hs2
 obtain⟨ts,h1,h2⟩:=Q0 ht
 obtain⟨k1,k2⟩:=hkids ts h1
 rcases h2 with⟨rfl,n1,n2,_,hf⟩|⟨rfl,n1,_,hf⟩|⟨c1,c3,o,ho1,ho2,ho3,hf⟩
 . refine⟨?_,?_⟩
   . refine Ev.step (f:=fun n=>some num) (fun n=>?_) ?_
     . rw [CT];rfl
     . rw [KL,if_pos rfl];exact Ev.pure
   . rw [hf,KL,if_pos rfl];exact UQ ⟨by omega,n2⟩
 . refine⟨?_,?_⟩
   . refine Ev.step (f:=fun n=>some (KL m (.mk 3 num str kids at0))) (fun n=>?_) Ev.pure
     rw [CT,KL,if_neg (by decide),if_pos rfl];rfl
   . rw [hf,KL,if_neg (by decide),if_pos rfl];exact Vp m hm str n1
 . have hop:=Ws m hm _ o ho1 (Ko m kids) (by rw [ho3];exact k1)
   have hv:KL m (.mk op num str kids at0)=Lq m o.do_ (Ko m kids):=by rw [KL,if_neg c1,if_neg c3,hf]
   refine⟨?_,?_⟩
   . have loop:=P5 ⟨opsOf os,BL⟩ m (.mk op num str kids at0) hs2.1 k2 kids 0 [] rfl (Nat.zero_le _) rfl
     refine Ev.step (f:=fun n=>(AI n (.mk op num str kids at0) ⟨opsOf os,BL⟩ m [] 0).bind fun x=>(A2 n ⟨opsOf os,BL⟩ (.mk op num str kids at0)).bind fun f=>(WZ f.2.1.do_).bind fun d=>(EV n d m x).bind fun r1=>some r1) (fun n=>?_) ?_
     . rw [CT]
       simp only [show (op == 1)=false by simpa using c1,show (op == 3)=false by simpa using c3,cond_false]
     . refine Ev.bind loop (Ev.bind hfind ?_)
       rw [hf,hv]
       simp only [List.nil_append,Uh hop.1,Option.bind_some]
       exact Ev.bind hop.1 Ev.pure
   . rw [hf,hv];exact hop.2
mutual
theorem Mz {os:List Nat}(ho:Ord os)(m:Ah)(hm:VD m):∀ (e:Aa),CG e=true->(AV e).2.2.E=0->VY os m e
 |.mk op num str kids at0,hs,ht=>by
  refine QR ho m hm op num at0 str kids hs ht fun ts hts=>?_
  rw [CG,Bool.and_eq_true] at hs
  exact NU ho m hm kids ts hs.2 hts
theorem NU {os:List Nat}(ho:Ord os)(m:Ah)(hm:VD m):∀ (l:List Aa) (ts:List Int),ES l=true->BY l=.inl ts->NG ts (Ko m l)/\∀ x∈l,Ev (fun n=>A9 n ⟨opsOf os,BL⟩ x m) (KL m x)
 | [],ts,_,ht=>by
  rw [BY] at ht
  cases ht
  exact⟨trivial,fun x hx=>by simp at hx⟩
 |e::l,ts,hs,ht=>by
  rw [ES,Bool.and_eq_true] at hs
  rw [BY] at ht
  by_cases c:(AV e).2.2.E=0
  . rw [if_neg (by simpa using c)] at ht
    cases ht2:BY l with
    |inr o=>rw [ht2] at ht;cases ht
    |inl us =>
     rw [ht2] at ht
     cases ht
     obtain⟨g1,g2⟩:=Mz ho m hm e hs.1 c
     obtain⟨r1,r2⟩:=NU ho m hm l us hs.2 ht2
     refine⟨⟨g2,r1⟩,fun x hx=>?_⟩
     rcases List.mem_cons.1 hx with hx|hx
     . rw [hx];exact g1
     . exact r2 x hx
  . rw [if_pos c] at ht;cases ht
end
def P6 (e:Aa)(m:Ah):Option Int:=if CG e=true/\(AV e).2.2.E=0/\EU m.d m.known=0 then some (KL m e) else none
end Go.Sp
