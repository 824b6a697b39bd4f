/-
  What value computes, in plain words, whatever order the table of operations is in. No program.
-/
import Derived.Lib.EndianBits
import Derived.Test.YtkcfmlfkfagejaaGreatDoorU14
set_option linter.unusedVariables false
set_option linter.unusedSimpArgs false
namespace Go.Sp
open Go
def Je (n:Int):Int:=if n < -999999999999999 then -999999999999999 else if 999999999999999<n then 999999999999999 else n
def Mu (n:Int):Int:=if n<0 then 0 else if 41667<n then 41667 else n
def O1 (n:Int):Int:=if n<0 then 0 else if 1000<n then 1000 else n
def Mi (d n:Int):Int:=if d=41667 then d else Mu (d+n)
def HS (t v:Int):Prop:=(t=1/\-999999999999999<=v/\v<=999999999999999)∨(t=2/\0<=v/\v<=41667)∨(t=3/\0<=v/\v<=1)∨(t=4/\0<=v/\v<=1000)
def okF (f:BK):Bool:=decide (1<=f.Kind/\f.Kind<=5/\1<=f.Who/\f.Who<=1000/\0<=f.Day/\f.Day<=41666/\0<=f.Known/\f.Known<=41666)
def SX (d:BC)(known:Int):Int :=
 if 200<d.Facts.length then 2
 else if d.Facts.all okF=true/\0<=d.Stored/\d.Stored<=41666/\0<=known/\known<=41666/\0<=d.Owner/\d.Owner<=1000 then 0 else 1
structure YC (m:Al):Prop where
 len:m.d.Facts.length<=200
 facts:∀ f∈m.d.Facts,okF f=true
 st:0<=m.d.Stored/\m.d.Stored<=41666
 kn:0<=m.known/\m.known<=41666
 ow:0<=m.d.Owner/\m.d.Owner<=1000
theorem Zc {m:Al}(h:SX m.d m.known=0):YC m:=by
 unfold SX at h
 split at h
 . cases h
 . rename_i h1
   split at h
   . rename_i h2
     exact⟨by omega,List.all_eq_true.1 h2.1,⟨h2.2.1,h2.2.2.1⟩,⟨h2.2.2.2.1,h2.2.2.2.2.1⟩,h2.2.2.2.2.2⟩
   . cases h
theorem SL (x1 x0 y1 y0:Int):(4294967296*x1+x0)*(4294967296*y1+y0)=18446744073709551616*(x1*y1)+4294967296*(x1*y0)+4294967296*(x0*y1)+x0*y0:=by
 rw [Int.add_mul,Int.mul_add,Int.mul_add,Int.mul_assoc 4294967296 x1 (4294967296*y1),Int.mul_left_comm x1 4294967296 y1,Int.mul_assoc 4294967296 x1 y0,Int.mul_left_comm x0 4294967296 y1]
 omega
theorem WH {x:Int}(h0:0<=x)(h1:x<18446744073709551616):bits .and .u64 x 4294967295=x % 4294967296:=by
 have h:=bits_mask .u64 64 (by decide) wraps_u64 32 (by decide) x h0 (by omega)
 simpa using h
theorem VT (x y:Int)(hx:0<=x)(hx2:x<=999999999999999)(hy:0<=y)(hy2:y<=999999999999999):Ez x y=some (x*y / 18446744073709551616,x*y % 18446744073709551616):=by
 have hs:(2:Int) ^ min (32:Int).toNat IntKind.u64.bits=4294967296:=by decide
 unfold Ez
 rw [hs,WH hx (by omega),WH hy (by omega)]
 simp only [Int.fdiv_eq_ediv_of_nonneg _ (show (0:Int)<=4294967296 by decide)]
 have ex:x=4294967296*(x / 4294967296)+x % 4294967296:=by omega
 have ey:y=4294967296*(y / 4294967296)+y % 4294967296:=by omega
 have hp:=SL (x / 4294967296) (x % 4294967296) (y / 4294967296) (y % 4294967296)
 rw [<- ex,<- ey] at hp
 rw [IntKind.wrap_u64 (x*y)]
 have b1:0<=x / 4294967296/\x / 4294967296<=232831:=by omega
 have b2:0<=x % 4294967296/\x % 4294967296<=4294967295:=by omega
 have b3:0<=y / 4294967296/\y / 4294967296<=232831:=by omega
 have b4:0<=y % 4294967296/\y % 4294967296<=4294967295:=by omega
 generalize x / 4294967296=x1 at *
 generalize x % 4294967296=x0 at *
 generalize y / 4294967296=y1 at *
 generalize y % 4294967296=y0 at *
 have p1:=Int.mul_le_mul b1.2 b3.2 b3.1 (by decide)
 have p2:=Int.mul_le_mul b1.2 b4.2 b4.1 (by decide)
 have p3:=Int.mul_le_mul b2.2 b3.2 b3.1 (by decide)
 have p4:=Int.mul_le_mul b2.2 b4.2 b4.1 (by decide)
 have q1:=Int.mul_nonneg b1.1 b3.1
 have q2:=Int.mul_nonneg b1.1 b4.1
 have q3:=Int.mul_nonneg b2.1 b3.1
 have q4:=Int.mul_nonneg b2.1 b4.1
 rw [hp]
 generalize x1*y1=A at *
 generalize x1*y0=B at *
 generalize x0*y1=E at *
 generalize x0*y0=C at *
 rw [wraps_u64 A (by omega) (by omega),wraps_u64 B (by omega) (by omega),wraps_u64 C (by omega) (by omega),wraps_u64 E (by omega) (by omega)]
 rw [wraps_u64 (B+C / 4294967296) (by omega) (by omega)]
 rw [WH (by omega) (by omega)]
 rw [wraps_u64 (A+(B+C / 4294967296) / 4294967296) (by omega) (by omega),wraps_u64 ((B+C / 4294967296) % 4294967296+E) (by omega) (by omega)]
 rw [wraps_u64 _ (by omega) (by omega)]
 congr 2
 omega
theorem WJ {a:Int}(h : -999999999999999<=a/\a<=999999999999999):IntKind.u64.wrap (if (IntKind.i64.wrap (0-a)) > a then (IntKind.i64.wrap (0-a)) else a)=if a<0 then -a else a:=by
 rw [AJ (by omega) (by omega)]
 by_cases c:a<0
 . rw [if_pos (by omega),if_pos c,wraps_u64 _ (by omega) (by omega)];omega
 . rw [if_neg (by omega),if_neg c,wraps_u64 _ (by omega) (by omega)]
theorem V0 (a b:Int)(ha : -999999999999999<=a/\a<=999999999999999)(hb : -999999999999999<=b/\b<=999999999999999):E2 a b=some (Je (a*b)):=by
 unfold E2
 rw [WJ ha,WJ hb]
 generalize hx:(if a<0 then -a else a)=x
 generalize hy:(if b<0 then -b else b)=y
 have x0:0<=x/\x<=999999999999999:=by split at hx<;>omega
 have y0:0<=y/\y<=999999999999999:=by split at hy<;>omega
 rw [VT x y x0.1 x0.2 y0.1 y0.2,Option.bind_some]
 have hp:=Int.mul_nonneg x0.1 y0.1
 have hab:a*b=if (decide (a<0)) == (decide (b<0)) then x*y else -(x*y):=by
  by_cases c1:a<0<;>by_cases c2:b<0<;>simp only [c1,c2,if_true,if_false,decide_true,decide_false] at hx hy ⊢<;>subst hx<;>subst hy<;>simp [Int.neg_mul,Int.mul_neg]
 generalize x*y=p at *
 have hn:((bif ((p / 18446744073709551616:Int) == 0) then some (decide ((p % 18446744073709551616:Int)<999999999999999)) else some false):Option Bool)=some (decide (p<999999999999999)):=by
  by_cases c:p / 18446744073709551616=0
  . rw [show ((p / 18446744073709551616:Int) == 0)=true by simpa using c,cond_true]
    congr 1
    rw [decide_eq_decide];omega
  . rw [show ((p / 18446744073709551616:Int) == 0)=false by simpa using c,cond_false]
    congr 1
    symm;rw [decide_eq_false_iff_not];omega
 simp only [hn,Option.bind_some]
 have hm:((bif (decide (p<999999999999999)) then some (IntKind.i64.wrap (p % 18446744073709551616)) else some 999999999999999):Option Int)=some (if p<999999999999999 then p else 999999999999999):=by
  by_cases c:p<999999999999999
  . rw [decide_eq_true c,cond_true,if_pos c,AJ (by omega) (by omega)];congr 1;omega
  . rw [decide_eq_false c,cond_false,if_neg c]
 simp only [hm,Option.bind_some]
 rw [hab]
 have hq:∃ q,(if p<999999999999999 then p else 999999999999999)=q/\0<=q/\q<=999999999999999/\(p<=999999999999999->q=p)/\(999999999999999<p->q=999999999999999):=by
  refine⟨_,rfl,?_⟩
  split<;>omega
 obtain⟨q,hq,q1,q2,q3,q4⟩:=hq
 rw [hq]
 unfold Je
 cases hc:(decide (a<0)) == (decide (b<0)) with
 |true =>
  rw [Bool.not_true,cond_false,if_pos rfl,if_neg (by omega)]
  congr 1
  by_cases c:999999999999999<p
  . rw [if_pos c];omega
  . rw [if_neg c];omega
 |false =>
  rw [Bool.not_false,cond_true,if_neg Bool.false_ne_true,AJ (by omega) (by omega)]
  congr 1
  by_cases c:999999999999999<p
  . rw [if_pos (by omega)];omega
  . rw [if_neg (by omega),if_neg (by omega)];omega
def Z6 (known kind who:Int)(f:BK):Bool:=f.Kind == kind&&(f.Who == who&&decide (f.Known<=known))
def VE (b:Option BK)(f:BK):Bool:=match b with
 |none=>true
 |some g=>decide (g.Known<=f.Known)
def LI (p:BK->Bool):List BK->Option BK->Option BK
 | [],b=>b
 |f::r,b=>LI p r (if (p f&&VE b f)=true then some f else b)
def Abw:Option BK->Int
 |none=>41667
 |some f=>f.Day
def MF (m:Al)(kind who:Int):Int:=Abw (LI (Z6 m.known kind who) m.d.Facts none)
def Aao (l:List BK)(i:Int)(b:Option BK):Prop:=match b with
 |none=>i = -1
 |some f=>0<=i/\gi l i=some f
theorem Ot (m:Al)(kind who:Int)(hl:m.d.Facts.length<=200):∀ (r:List BK) (k:Nat) (i:Int) (b:Option BK),m.d.Facts.drop k=r->k<=m.d.Facts.length->Aao m.d.Facts i b ->
 ∃ j,Ev (fun n=>Bv n m kind who i (k:Int)) j/\Aao m.d.Facts j (LI (Z6 m.known kind who) r b)
 | [],k,i,b,hr,hk,hb=>by
  have he:=Mr hr hk
  refine⟨i,Ev.step (f:=fun n=>some i) (fun n=>?_) Ev.pure,hb⟩
  rw [D5,show (decide ((k:Int)<(m.d.Facts.length:Int)))=false by rw [decide_eq_false_iff_not];omega];rfl
 |f::r,k,i,b,hr,hk,hb=>by
  obtain⟨h1,h2⟩:=HH hr
  have hg:=RI hr
  have hc:((bif (f.Kind == kind) then
   bif (f.Who == who) then
    bif (decide (f.Known<=m.known)) then
     bif (decide (i<0)) then
      some true
     else
      (gi m.d.Facts i).bind fun x2 =>
      some (decide (x2.Known<=f.Known))
    else
     some false
   else
    some false
   else
    some false
   ):Option Bool)=some (Z6 m.known kind who f&&VE b f):=by
   unfold Z6
   cases (f.Kind == kind)<;>cases (f.Who == who)<;>cases (decide (f.Known<=m.known))<;>simp only [cond_true,cond_false,Bool.and_true,Bool.true_and,Bool.false_and,Bool.and_false]
   cases b with
   |none =>
    have:i = -1:=hb
    subst this
    rfl
   |some g =>
    have hb:0<=i/\gi m.d.Facts i=some g:=hb
    rw [show decide (i<0)=false by rw [decide_eq_false_iff_not];omega,cond_false,hb.2];rfl
  cases hx:(Z6 m.known kind who f&&VE b f) with
  |true =>
   obtain⟨j,h3,h4⟩:=Ot m kind who hl r (k+1) (k:Int) (some f) h1 (by omega) ⟨by omega,hg⟩
   refine⟨j,Ev.step (fun n=>?_) h3,?_⟩
   . rw [D5,Sy h2,cond_true,hg,Option.bind_some,hc,hx,Option.bind_some,cond_true,Sz (by omega)]
   . rw [LI,if_pos hx];exact h4
  |false =>
   obtain⟨j,h3,h4⟩:=Ot m kind who hl r (k+1) i b h1 (by omega) hb
   refine⟨j,Ev.step (fun n=>?_) h3,?_⟩
   . rw [D5,Sy h2,cond_true,hg,Option.bind_some,hc,hx,Option.bind_some,cond_false,Sz (by omega)]
   . rw [LI,if_neg (by rw [hx];exact Bool.false_ne_true)];exact h4
theorem Yb (m:Al)(kind who:Int)(hl:m.d.Facts.length<=200):Ev (fun n=>C2 n m kind who) (MF m kind who):=by
 obtain⟨j,h1,h2⟩:=Ot m kind who hl m.d.Facts 0 (-1) none rfl (Nat.zero_le _) rfl
 unfold C2
 refine Ev.bind h1 ?_
 unfold MF
 cases hb:LI (Z6 m.known kind who) m.d.Facts none with
 |none =>
  rw [hb] at h2
  have:j = -1:=h2
  subst this
  exact Ev.pure
 |some f =>
  rw [hb] at h2
  have h2:0<=j/\gi m.d.Facts j=some f:=h2
  simp only [show decide (j<0)=false by rw [decide_eq_false_iff_not];omega,cond_false,h2.2,Option.bind_some]
  exact Ev.pure
theorem PL {p:BK->Bool}:∀ {l:List BK} {b:Option BK} {f:BK},LI p l b=some f->f∈l∨b=some f
 | [],b,f,h=>.inr h
 |x::l,b,f,h=>by
  rw [LI] at h
  rcases PL h with h|h
  . exact .inl (List.mem_cons_of_mem _ h)
  . split at h
    . exact .inl (by rw [Aa h];simp)
    . exact .inr h
theorem Wa {m:Al}(hm:YC m)(kind who:Int):0<=MF m kind who/\MF m kind who<=41667:=by
 unfold MF
 cases hb:LI (Z6 m.known kind who) m.d.Facts none with
 |none=>exact⟨by decide,by decide⟩
 |some f =>
  rcases PL hb with h|h
  . have:=hm.facts f h
    unfold okF at this
    rw [decide_eq_true_eq] at this
    unfold Abw
    simp only
    omega
  . cases h
def ML (b:Bool):Int:=if b=true then 1 else 0
def QN (m:Al)(d:Do)(x:List Int):Int:=match d with
 |.c 77=>-(x.getD 0 0)
 |.c 78=>Je (x.getD 0 0*x.getD 1 0)
 |.c 80=>Je (x.getD 0 0+x.getD 1 0)
 |.c 82=>Mi (x.getD 0 0) (x.getD 1 0)
 |.c 84=>Je (x.getD 0 0-x.getD 1 0)
 |.c 85=>Mi (x.getD 0 0) (-(x.getD 1 0))
 |.c 86=>x.getD 0 0-x.getD 1 0
 |.c 87=>1-x.getD 0 0
 |.c 88=>x.getD 0 0*x.getD 1 0
 |.c 89=>max (x.getD 0 0) (x.getD 1 0)
 |.c 90=>Mu (x.getD 0 0)
 |.c 92=>O1 (x.getD 0 0)
 |.c 103=>if x.getD 0 0=1 then x.getD 1 0 else x.getD 2 0
 |.c 104=>min (x.getD 0 0) (x.getD 1 0)
 |.c 105=>max (x.getD 0 0) (x.getD 1 0)
 |.k k=>MF m (k+1) (x.getD 0 0)
 |.is 95=>ML (decide (x.getD 0 0<x.getD 1 0))
 |.is 96=>ML (decide (x.getD 0 0<=x.getD 1 0))
 |.is 97=>ML (decide (x.getD 1 0<x.getD 0 0))
 |.is 98=>ML (decide (x.getD 1 0<=x.getD 0 0))
 |.is 99=>ML (x.getD 0 0 == x.getD 1 0)
 |.is 100=>ML (x.getD 0 0 != x.getD 1 0)
 |_=>0
def OP:List Int->List Int->Prop
 | [],[]=>True
 |t::ts,x::xs=>HS t x/\OP ts xs
 |_,_=>False
theorem Ack {t:Int}{xs:List Int}(h:OP [t] xs):∃ a,xs=[a]/\HS t a:=by
 match xs,h with
 | [a],h=>exact⟨a,rfl,h.1⟩
theorem Acj {t u:Int}{xs:List Int}(h:OP [t,u] xs):∃ a b,xs=[a,b]/\HS t a/\HS u b:=by
 match xs,h with
 | [a,b],h=>exact⟨a,b,rfl,h.1,h.2.1⟩
theorem Aci {t u v:Int}{xs:List Int}(h:OP [t,u,v] xs):∃ a b c,xs=[a,b,c]/\HS t a/\HS u b/\HS v c:=by
 match xs,h with
 | [a,b,c],h=>exact⟨a,b,c,rfl,h.1,h.2.1,h.2.2.1⟩
theorem Pw (n:Int):CN n=some (Je n):=by
 unfold CN Je
 congr 1
 repeat' split
 all_goals omega
theorem W8 (n:Int):Fe n=some (Mu n):=by
 unfold Fe Mu
 congr 1
 repeat' split
 all_goals omega
theorem R5 {d n:Int}(h : -1000000000000000<=n/\n<=1000000000000000)(h2:0<=d/\d<=41667):Dg d n=some (Mi d n):=by
 unfold Dg Mi
 by_cases c:d=41667
 . rw [if_pos c,show (d == 41667)=true by simpa using c];rfl
 . rw [if_neg c,show (d == 41667)=false by simpa using c,cond_false,W8,Option.bind_some,AJ (by omega) (by omega)]
theorem YA {a b:Int}(ha:0<=a/\a<=1)(hb:0<=b/\b<=1):bits .and .i64 a b=a*b/\bits .or .i64 a b=max a b:=by
 have h1:a=0∨a=1:=by omega
 have h2:b=0∨b=1:=by omega
 rcases h1 with rfl|rfl<;>rcases h2 with rfl|rfl<;>decide
theorem Wt (b:Bool):(Dc b).bind (fun f=>some f)=some (ML b):=by cases b<;>rfl
instance (t v:Int):Decidable (HS t v):=by unfold HS;exact inferInstance
theorem XX (b:Bool):HS 3 (ML b):=by cases b<;>decide
theorem op1 {t:Int}(m:Al){d:Do}{k:Int}(h:∀ a,HS t a->Ev (fun n=>F9 n d m [a]) (QN m d [a])/\HS k (QN m d [a])):∀ xs,OP [t] xs->Ev (fun n=>F9 n d m xs) (QN m d xs)/\HS k (QN m d xs):=by
 intro xs hx
 obtain⟨a,rfl,h1⟩:=Ack hx
 exact h a h1
theorem VK {t u:Int}(m:Al){d:Do}{k:Int}(h:∀ a b,HS t a->HS u b->Ev (fun n=>F9 n d m [a,b]) (QN m d [a,b])/\HS k (QN m d [a,b])):∀ xs,OP [t,u] xs->Ev (fun n=>F9 n d m xs) (QN m d xs)/\HS k (QN m d xs):=by
 intro xs hx
 obtain⟨a,b,rfl,h1,h2⟩:=Acj hx
 exact h a b h1 h2
theorem op3 {t u v:Int}(m:Al){d:Do}{k:Int}(h:∀ a b c,HS t a->HS u b->HS v c->Ev (fun n=>F9 n d m [a,b,c]) (QN m d [a,b,c])/\HS k (QN m d [a,b,c])):∀ xs,OP [t,u,v] xs->Ev (fun n=>F9 n d m xs) (QN m d xs)/\HS k (QN m d xs):=by
 intro xs hx
 obtain⟨a,b,c,rfl,h1,h2,h3⟩:=Aci hx
 exact h a b c h1 h2 h3
theorem XQ {v:Int}(h:HS 1 v) : -999999999999999<=v/\v<=999999999999999:=by unfold HS at h;omega
theorem ZR {v:Int}(h:HS 2 v):0<=v/\v<=41667:=by unfold HS at h;omega
theorem Xe {v:Int}(h:HS 3 v):0<=v/\v<=1:=by unfold HS at h;omega
theorem Xp {v:Int}(h : -999999999999999<=v/\v<=999999999999999):HS 1 v:=by unfold HS;omega
theorem to2 {v:Int}(h:0<=v/\v<=41667):HS 2 v:=by unfold HS;omega
theorem to3 {v:Int}(h:0<=v/\v<=1):HS 3 v:=by unfold HS;omega
theorem to4 {v:Int}(h:0<=v/\v<=1000):HS 4 v:=by unfold HS;omega
theorem Mt (n:Int):HS 1 (Je n):=Xp (by unfold Je;split<;>(try split)<;>omega)
theorem PJ (n:Int):HS 2 (Mu n):=to2 (by unfold Mu;split<;>(try split)<;>omega)
theorem Ve (n:Int):HS 4 (O1 n):=to4 (by unfold O1;split<;>(try split)<;>omega)
theorem R6 {d:Int}(n:Int)(h:0<=d/\d<=41667):HS 2 (Mi d n):=by
 unfold Mi
 split
 . exact to2 h
 . exact PJ _
def QJ (m:Al)(o:Af):Prop:=∀ xs,OP o.args xs->Ev (fun n=>F9 n o.do_ m xs) (QN m o.do_ xs)/\HS o.kind (QN m o.do_ xs)
theorem XC (m:Al)(hm:YC m):∀ o∈Fm,QJ m o:=by
 have fact:∀ (s:ByteArray) (k:Int),k=0∨k=1∨k=2∨k=3∨k=4->QJ m ⟨4,s,[4],2,.k k⟩:=fun s k hk=>op1 m fun a ha=>by
  refine⟨?_,to2 (Wa hm _ _)⟩
  show Ev (fun n=>(gi [a] 0).bind fun x1=>(C2 n m (IntKind.i64.wrap (k+1)) x1).bind fun f=>some f) (MF m (k+1) a)
  rw [AJ (by omega) (by omega)]
  show Ev (fun n=>(C2 n m (k+1) a).bind fun f=>some f) (MF m (k+1) a)
  exact Ev.bind (Yb m (k+1) a hm.len) Ev.pure
 unfold Fm
 simp only [List.forall_mem_cons,List.not_mem_nil,false_imp_iff,implies_true,and_true]
 refine⟨?_,?_,?_,?_,?_,?_,?_,?_,?_,?_,?_,?_,fact _ _ (by simp),fact _ _ (by simp),fact _ _ (by simp),fact _ _ (by simp),fact _ _ (by simp)⟩
 . refine op1 m fun a ha=>?_
   have:=XQ ha
   refine⟨Ev.const ?_,Xp (by show _<=-a/\-a<=_;omega)⟩
   show some (IntKind.i64.wrap (0-a))=some (-a)
   rw [AJ (by omega) (by omega)];congr 1;omega
 . refine VK m fun a b ha hb=>⟨Ev.const ?_,Mt _⟩
   show (E2 a b).bind _=_
   rw [V0 a b (XQ ha) (XQ hb)];rfl
 . refine VK m fun a b ha hb=>⟨Ev.const ?_,Mt _⟩
   have:=XQ ha
   have:=XQ hb
   show (CN (IntKind.i64.wrap (a+b))).bind _=_
   rw [AJ (by omega) (by omega),Pw];rfl
 . refine VK m fun a b ha hb=>⟨Ev.const ?_,R6 _ (ZR ha)⟩
   have:=XQ hb
   show (Dg a b).bind _=_
   rw [R5 (by omega) (ZR ha)];rfl
 . refine VK m fun a b ha hb=>⟨Ev.const ?_,Mt _⟩
   have:=XQ ha
   have:=XQ hb
   show (CN (IntKind.i64.wrap (a-b))).bind _=_
   rw [AJ (by omega) (by omega),Pw];rfl
 . refine VK m fun a b ha hb=>⟨Ev.const ?_,R6 _ (ZR ha)⟩
   have:=XQ hb
   show (Dg a (IntKind.i64.wrap (0-b))).bind _=_
   rw [AJ (by omega) (by omega),R5 (by omega) (ZR ha),show (0:Int)-b = -b by omega];rfl
 . refine VK m fun a b ha hb=>?_
   have:=ZR ha
   have:=ZR hb
   refine⟨Ev.const ?_,Xp (by show _<=a-b/\a-b<=_;omega)⟩
   show some (IntKind.i64.wrap (a-b))=some (a-b)
   rw [AJ (by omega) (by omega)]
 . refine op1 m fun a ha=>?_
   have:=Xe ha
   refine⟨Ev.const ?_,to3 (by show _<=1-a/\1-a<=_;omega)⟩
   show some (IntKind.i64.wrap (1-a))=some (1-a)
   rw [AJ (by omega) (by omega)]
 . refine VK m fun a b ha hb=>?_
   have h1:a=0∨a=1:=by have:=Xe ha;omega
   have h2:b=0∨b=1:=by have:=Xe hb;omega
   refine⟨Ev.const ?_,?_⟩
   . show some (bits .and .i64 a b)=some (a*b)
     rw [(YA (Xe ha) (Xe hb)).1]
   . show HS 3 (a*b)
     rcases h1 with rfl|rfl<;>rcases h2 with rfl|rfl<;>decide
 . refine VK m fun a b ha hb=>?_
   have h1:a=0∨a=1:=by have:=Xe ha;omega
   have h2:b=0∨b=1:=by have:=Xe hb;omega
   refine⟨Ev.const ?_,?_⟩
   . show some (bits .or .i64 a b)=some (max a b)
     rw [(YA (Xe ha) (Xe hb)).2]
   . show HS 3 (max a b)
     rcases h1 with rfl|rfl<;>rcases h2 with rfl|rfl<;>decide
 . refine op1 m fun a ha=>⟨Ev.const ?_,PJ _⟩
   show (Fe a).bind _=_
   rw [W8];rfl
 . refine op1 m fun a ha=>⟨Ev.const ?_,Ve _⟩
   show some (if (if 1000<a then 1000 else a) > 0 then (if 1000<a then 1000 else a) else 0)=some (O1 a)
   unfold O1
   congr 1
   repeat' split
   all_goals omega
theorem Zb (m:Al)(i:Nat):∀ o∈Gt i,QJ m o:=by
 have cmp:∀ (op t:Int) (f:Nat),f=95∨f=96∨f=97∨f=98∨f=99∨f=100->QJ m ⟨op,⟨#[]⟩,[t,t],3,.is f⟩:=fun op t f hf=>VK m fun a b _ _=>by
  rcases hf with rfl|rfl|rfl|rfl|rfl|rfl<;>exact⟨Ev.const (Wt _),XX _⟩
 intro o ho
 unfold Gt at ho
 split at ho
 . rename_i op f e
   have hf:f=95∨f=96∨f=97∨f=98∨f=99∨f=100:=by
    have h:∀ x∈opk,x.2=95∨x.2=96∨x.2=97∨x.2=98∨x.2=99∨x.2=100:=by decide
    exact h _ (List.mem_of_getElem? e)
   unfold Il at ho
   split at ho<;>simp at ho
   . rcases ho with rfl|rfl|rfl<;>exact cmp _ _ _ hf
   . rcases ho with rfl|rfl<;>exact cmp _ _ _ hf
 . simp at ho
theorem XB (m:Al):∀ o∈Pe,QJ m o:=by
 have ite:∀ t:Int,QJ m ⟨20,⟨#[]⟩,[3,t,t],t,.c 103⟩:=fun t=>op3 m fun a b c ha hb hc=>by
  have h1:a=0∨a=1:=by have:=Xe ha;omega
  rcases h1 with rfl|rfl
  . exact⟨Ev.const rfl,hc⟩
  . exact⟨Ev.const rfl,hb⟩
 have mn:∀ t:Int,QJ m ⟨4,⟨#[109,105,110]⟩,[t,t],t,.c 104⟩:=fun t=>VK m fun a b ha hb=>by
  have e:QN m (.c 104) [a,b]=min a b:=rfl
  rw [e]
  refine⟨Ev.const ?_,?_⟩
  . show some (if b<a then b else a)=some (min a b)
    congr 1
    split<;>omega
  . by_cases c:a<=b
    . rw [show min a b=a by omega];exact ha
    . rw [show min a b=b by omega];exact hb
 have mx:∀ t:Int,QJ m ⟨4,⟨#[109,97,120]⟩,[t,t],t,.c 105⟩:=fun t=>VK m fun a b ha hb=>by
  have e:QN m (.c 105) [a,b]=max a b:=rfl
  rw [e]
  refine⟨Ev.const ?_,?_⟩
  . show some (if b > a then b else a)=some (max a b)
    congr 1
    split<;>omega
  . by_cases c:a<=b
    . rw [show max a b=b by omega];exact hb
    . rw [show max a b=a by omega];exact ha
 unfold Pe
 simp only [List.forall_mem_cons,List.not_mem_nil,false_imp_iff,implies_true,and_true]
 exact⟨ite 1,mn 1,mx 1,ite 2,mn 2,mx 2,ite 3,ite 4⟩
theorem YX (m:Al)(hm:YC m)(os:List Nat):∀ o∈opsOf os,QJ m o:=by
 intro o ho
 unfold opsOf at ho
 rcases List.mem_append.1 ho with ho|ho
 . rcases List.mem_append.1 ho with ho|ho
   . exact XC m hm o ho
   . obtain⟨i,_,h2⟩:=List.mem_flatMap.1 ho
     exact Zb m i o h2
 . exact XB m o ho
theorem PN {p x:Int}(h:x≠0):¬ (Q9 p x).2.2.E=0:=h
theorem W0 {op num at0:Int}{str:ByteArray}{kids:List Ab}(h:(BJ (.mk op num str kids at0)).2.2.E=0) :
 ∃ ts,Eo kids=.inl ts/\((op=1/\0<=num/\num<=999999999999999/\kids=[]/\BJ (.mk op num str kids at0)=(1,YZ,⟨0,0⟩))
  ∨ (op=3/\(CJ CH str).2=true/\kids=[]/\BJ (.mk op num str kids at0)=((CJ CH str).1,YZ,⟨0,0⟩))
  ∨ (op≠1/\op≠3/\∃ o,o∈IP/\pick op str ts IP=some o/\o.args=ts/\BJ (.mk op num str kids at0)=(o.kind,o,⟨0,0⟩))):=by
 rw [BJ] at h ⊢
 by_cases c:op<1∨20<op∨(0<=arity op/\(kids.length:Int)≠arity op)
 . rw [if_pos c] at h;exact absurd h (PN (by decide))
 rw [if_neg c] at h ⊢
 cases ht:Eo kids with
 |inr o =>
  rw [ht] at h
  exfalso
  have key:∀ (l:List Ab) (o:Int×Af×Am),Eo l=.inr o->o.2.2.E≠0:=by
   intro l
   induction l with
   |nil=>intro o h;cases h
   |cons e l ih =>
    intro o h
    rw [Eo] at h
    split at h
    . rename_i h1;cases h;exact h1
    . split at h
      . cases h
      . rename_i h2;cases h;exact ih _ h2
  exact key _ _ ht h
 |inl ts =>
  refine⟨ts,rfl,?_⟩
  rw [ht] at h
  simp only at h ⊢
  have a1:arity op=0->kids=[]:=fun ha=>by
   have:(kids.length:Int)=0:=by
    by_cases e:(kids.length:Int)=arity op
    . omega
    . exact absurd (.inr (.inr ⟨by omega,e⟩)) c
   exact List.length_eq_zero_iff.1 (by omega)
  by_cases h1:op=1
  . rw [if_pos h1] at h ⊢
    split at h
    . exact absurd h (PN (by decide))
    . rename_i h2
      rw [if_neg h2]
      exact .inl ⟨h1,by omega,by omega,a1 (by subst h1;rfl),rfl⟩
  rw [if_neg h1] at h ⊢
  by_cases h2:op=2
  . rw [if_pos h2] at h;exact absurd h (PN (by decide))
  rw [if_neg h2] at h ⊢
  by_cases h3:op=3
  . rw [if_pos h3] at h ⊢
    split at h
    . rename_i h4
      rw [if_pos h4]
      exact .inr (.inl ⟨h3,h4,a1 (by subst h3;rfl),rfl⟩)
    . exact absurd h (PN (by decide))
  rw [if_neg h3] at h ⊢
  refine .inr (.inr ⟨h1,h3,?_⟩)
  unfold C4 at h ⊢
  cases hp:pick op str ts IP with
  |some o =>
   have hp2:=hp
   unfold pick at hp2
   have m1:=List.mem_of_find?_eq_some hp2
   have m2:=List.find?_some hp2
   rw [Bool.and_eq_true,decide_eq_true_eq] at m2
   exact⟨o,m1,rfl,m2.2,rfl⟩
  |none =>
   rw [hp] at h
   simp only at h
   split at h
   . exact absurd h (PN (by decide))
   . split at h<;>exact absurd h (PN (by decide))
mutual
def Tn (m:Al):Ab->Int
 |.mk op n s kids p =>
  if op=1 then n
  else if op=3 then (CJ [(⟨#[121,101,97,114]⟩,365),(⟨#[115,116,111,114,101,100]⟩,m.d.Stored),(⟨#[110,101,118,101,114]⟩,41667),(⟨#[111,119,110,101,114]⟩,m.d.Owner)] s).1
  else QN m (BJ (.mk op n s kids p)).2.1.do_ (Qy m kids)
def Qy (m:Al):List Ab->List Int
 | []=>[]
 |e::l=>Tn m e::Qy m l
end
theorem XH (m:Al)(hm:YC m)(s:ByteArray)(h:(CJ CH s).2=true) :
 HS (CJ CH s).1 (CJ [(⟨#[121,101,97,114]⟩,365),(⟨#[115,116,111,114,101,100]⟩,m.d.Stored),(⟨#[110,101,118,101,114]⟩,41667),(⟨#[111,119,110,101,114]⟩,m.d.Owner)] s).1:=by
 have h1:=hm.st
 have h2:=hm.ow
 unfold CH at h ⊢
 unfold CJ at h ⊢
 split
 . exact Xp (by decide)
 rename_i c1
 rw [if_neg c1] at h
 unfold CJ at h ⊢
 split
 . exact to2 (by omega)
 rename_i c2
 rw [if_neg c2] at h
 unfold CJ at h ⊢
 split
 . exact to2 (by decide)
 rename_i c3
 rw [if_neg c3] at h
 unfold CJ at h ⊢
 split
 . exact to4 (by omega)
 . rename_i c4
   rw [if_neg c4] at h
   cases h
theorem Wi {m:Al}{d:Do}{xs:List Int}{v:Int}(h:Ev (fun n=>F9 n d m xs) v):ZB d=some d:=by
 obtain⟨n,h⟩:=h.get
 cases d with
 |nil=>cases h
 |_=>rfl
theorem QS (s:Bc)(m:Al)(e:Ab)(hk:e.Kids.length<=1000000)(hf:∀ x∈e.Kids,Ev (fun n=>AI n s x m) (Tn m x)) :
 ∀ (r:List Ab) (k:Nat) (vs:List Int),e.Kids.drop k=r->k<=e.Kids.length->vs.length=k->Ev (fun n=>AU n e s m vs (k:Int)) (vs++Qy m r)
 | [],k,vs,hr,hkl,_=>by
  have he:=Mr hr hkl
  refine Ev.step (f:=fun n=>some vs) (fun n=>?_) ?_
  . rw [Eu,show (decide ((k:Int)<(e.Kids.length:Int)))=false by rw [decide_eq_false_iff_not];omega];rfl
  . rw [Qy,List.append_nil];exact Ev.pure
 |x::r,k,vs,hr,hkl,hvs=>by
  obtain⟨h1,h2⟩:=HH hr
  have hmem:x∈e.Kids:=List.mem_of_mem_drop (by rw [hr];simp)
  refine Ev.step (f:=fun n=>(AI n s x m).bind fun v=>AU n e s m (vs++[v]) ((k+1:Nat):Int)) (fun n=>?_) ?_
  . rw [Eu,Sy h2,cond_true,RI hr,Option.bind_some]
    congr 1
    funext v
    rw [Option.bind_some,Y5 (by omega) (by simp),Option.bind_some,Sz (by omega)]
  . refine Ev.bind (hf x hmem) ?_
    have ih:=QS s m e hk hf r (k+1) (vs++[Tn m x]) h1 (by omega) (by simp [hvs])
    rw [Qy]
    simpa [List.append_assoc] using ih
def YD (os:List Nat)(m:Al)(e:Ab):Prop:=Ev (fun n=>AI n ⟨opsOf os,CH⟩ e m) (Tn m e)/\HS (BJ e).1 (Tn m e)
theorem S3 {os:List Nat}(ho:Ord os)(m:Al)(hm:YC m)(op num at0:Int)(str:ByteArray)(kids:List Ab)(hs:D6 (.mk op num str kids at0)=true)(ht:(BJ (.mk op num str kids at0)).2.2.E=0)
 (hkids:∀ ts,Eo kids=.inl ts->OP ts (Qy m kids)/\∀ x∈kids,Ev (fun n=>AI n ⟨opsOf os,CH⟩ x m) (Tn m x)):YD os m (.mk op num str kids at0):=by
 have hfind:=Qw ho _ hs
 have hs2:=hs
 rw [D6,Bool.and_eq_true,decide_eq_true_eq] at hs2
 obtain⟨ts,h1,h2⟩:=W0 ht
 obtain⟨k1,k2⟩:=hkids ts h1
 rcases h2 with⟨rfl,n1,n2,_,hf⟩|⟨rfl,n1,_,hf⟩|⟨c1,c3,o,ho1,ho2,ho3,hf⟩
 . refine⟨?_,?_⟩
   . refine Ev.step (f:=fun n=>some num) (fun n=>?_) ?_
     . rw [D3];rfl
     . rw [Tn,if_pos rfl];exact Ev.pure
   . rw [hf,Tn,if_pos rfl];exact Xp ⟨by omega,n2⟩
 . refine⟨?_,?_⟩
   . refine Ev.step (f:=fun n=>some (Tn m (.mk 3 num str kids at0))) (fun n=>?_) Ev.pure
     rw [D3,Tn,if_neg (by decide),if_pos rfl];rfl
   . rw [hf,Tn,if_neg (by decide),if_pos rfl];exact XH m hm str n1
 . have hop:=YX m hm _ o ho1 (Qy m kids) (by rw [ho3];exact k1)
   have hv:Tn m (.mk op num str kids at0)=QN m o.do_ (Qy m kids):=by rw [Tn,if_neg c1,if_neg c3,hf]
   refine⟨?_,?_⟩
   . have loop:=QS ⟨opsOf os,CH⟩ m (.mk op num str kids at0) hs2.1 k2 kids 0 [] rfl (Nat.zero_le _) rfl
     refine Ev.step (f:=fun n=>(AU n (.mk op num str kids at0) ⟨opsOf os,CH⟩ m [] 0).bind fun x=>(A8 n ⟨opsOf os,CH⟩ (.mk op num str kids at0)).bind fun f=>(ZB f.2.1.do_).bind fun d=>(F9 n d m x).bind fun r1=>some r1) (fun n=>?_) ?_
     . rw [D3]
       simp only [show (op == 1)=false by simpa using c1,show (op == 3)=false by simpa using c3,cond_false]
     . refine Ev.bind loop (Ev.bind hfind ?_)
       rw [hf,hv]
       simp only [List.nil_append,Wi hop.1,Option.bind_some]
       exact Ev.bind hop.1 Ev.pure
   . rw [hf,hv];exact hop.2
mutual
theorem QR {os:List Nat}(ho:Ord os)(m:Al)(hm:YC m):∀ (e:Ab),D6 e=true->(BJ e).2.2.E=0->YD os m e
 |.mk op num str kids at0,hs,ht=>by
  refine S3 ho m hm op num at0 str kids hs ht fun ts hts=>?_
  rw [D6,Bool.and_eq_true] at hs
  exact Pd ho m hm kids ts hs.2 hts
theorem Pd {os:List Nat}(ho:Ord os)(m:Al)(hm:YC m):∀ (l:List Ab) (ts:List Int),IQ l=true->Eo l=.inl ts->OP ts (Qy m l)/\∀ x∈l,Ev (fun n=>AI n ⟨opsOf os,CH⟩ x m) (Tn m x)
 | [],ts,_,ht=>by
  rw [Eo] at ht
  cases ht
  exact⟨trivial,fun x hx=>by simp at hx⟩
 |e::l,ts,hs,ht=>by
  rw [IQ,Bool.and_eq_true] at hs
  rw [Eo] at ht
  by_cases c:(BJ e).2.2.E=0
  . rw [if_neg (by simpa using c)] at ht
    cases ht2:Eo l with
    |inr o=>rw [ht2] at ht;cases ht
    |inl us =>
     rw [ht2] at ht
     cases ht
     obtain⟨g1,g2⟩:=QR ho m hm e hs.1 c
     obtain⟨r1,r2⟩:=Pd ho m hm l us hs.2 ht2
     refine⟨⟨g2,r1⟩,fun x hx=>?_⟩
     rcases List.mem_cons.1 hx with hx|hx
     . rw [hx];exact g1
     . exact r2 x hx
  . rw [if_pos c] at ht;cases ht
end
def Ur (e:Ab)(m:Al):Option Int:=if D6 e=true/\(BJ e).2.2.E=0/\SX m.d m.known=0 then some (Tn m e) else none
end Go.Sp
