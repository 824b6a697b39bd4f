/-
  What value computes, in plain words, whatever order the table of operations is in. No program.
-/
import Derived.Lib.EndianBits
import Derived.Test.YtkcfmlfkfagejaaGreatDoorU14
set_option linter.unusedVariables false
set_option linter.unusedSimpArgs false
namespace Go.Sp
open Go
def Iy (n:Int):Int:=if n < -999999999999999 then -999999999999999 else if 999999999999999<n then 999999999999999 else n
def L5 (n:Int):Int:=if n<0 then 0 else if 41667<n then 41667 else n
def Ns (n:Int):Int:=if n<0 then 0 else if 1000<n then 1000 else n
def Lr (d n:Int):Int:=if d=41667 then d else L5 (d+n)
def Hc (t v:Int):Prop:=(t=1/\-999999999999999<=v/\v<=999999999999999)∨(t=2/\0<=v/\v<=41667)∨(t=3/\0<=v/\v<=1)∨(t=4/\0<=v/\v<=1000)
def okF (f:Az):Bool:=decide (1<=f.Kind/\f.Kind<=5/\1<=f.Who/\f.Who<=1000/\0<=f.Day/\f.Day<=41666/\0<=f.Known/\f.Known<=41666)
def CC (d:A1)(known:Int):Int :=
 if 200<d.Facts.length then 2
 else if d.Facts.all okF=true/\0<=d.Stored/\d.Stored<=41666/\0<=known/\known<=41666/\0<=d.Owner/\d.Owner<=1000 then 0 else 1
structure Wj (m:Ah):Prop where
 len:m.d.Facts.length<=200
 facts:∀ f∈m.d.Facts,okF f=true
 st:0<=m.d.Stored/\m.d.Stored<=41666
 kn:0<=m.known/\m.known<=41666
 ow:0<=m.d.Owner/\m.d.Owner<=1000
theorem Pb {m:Ah}(h:CC m.d m.known=0):Wj m:=by
 unfold CC at h
 split at h
 . cases h
 . rename_i h1
   split at h
   . rename_i h2
     exact⟨by omega,List.all_eq_true.1 h2.1,⟨h2.2.1,h2.2.2.1⟩,⟨h2.2.2.2.1,h2.2.2.2.2.1⟩,h2.2.2.2.2.2⟩
   . cases h
theorem Rr (x1 x0 y1 y0:Int):(4294967296*x1+x0)*(4294967296*y1+y0)=18446744073709551616*(x1*y1)+4294967296*(x1*y0)+4294967296*(x0*y1)+x0*y0:=by
 rw [Int.add_mul,Int.mul_add,Int.mul_add,Int.mul_assoc 4294967296 x1 (4294967296*y1),Int.mul_left_comm x1 4294967296 y1,Int.mul_assoc 4294967296 x1 y0,Int.mul_left_comm x0 4294967296 y1]
 omega
theorem U7 {x:Int}(h0:0<=x)(h1:x<18446744073709551616):bits .and .u64 x 4294967295=x % 4294967296:=by
 have h:=bits_mask .u64 64 (by decide) wraps_u64 32 (by decide) x h0 (by omega)
 simpa using h
theorem Uf (x y:Int)(hx:0<=x)(hx2:x<=999999999999999)(hy:0<=y)(hy2:y<=999999999999999):DJ x y=some (x*y / 18446744073709551616,x*y % 18446744073709551616):=by
 have hs:(2:Int) ^ min (32:Int).toNat IntKind.u64.bits=4294967296:=by decide
 unfold DJ
 rw [hs,U7 hx (by omega),U7 hy (by omega)]
 simp only [Int.fdiv_eq_ediv_of_nonneg _ (show (0:Int)<=4294967296 by decide)]
 have ex:x=4294967296*(x / 4294967296)+x % 4294967296:=by omega
 have ey:y=4294967296*(y / 4294967296)+y % 4294967296:=by omega
 have hp:=Rr (x / 4294967296) (x % 4294967296) (y / 4294967296) (y % 4294967296)
 rw [<- ex,<- ey] at hp
 rw [IntKind.wrap_u64 (x*y)]
 have b1:0<=x / 4294967296/\x / 4294967296<=232831:=by omega
 have b2:0<=x % 4294967296/\x % 4294967296<=4294967295:=by omega
 have b3:0<=y / 4294967296/\y / 4294967296<=232831:=by omega
 have b4:0<=y % 4294967296/\y % 4294967296<=4294967295:=by omega
 generalize x / 4294967296=x1 at *
 generalize x % 4294967296=x0 at *
 generalize y / 4294967296=y1 at *
 generalize y % 4294967296=y0 at *
 have p1:=Int.mul_le_mul b1.2 b3.2 b3.1 (by decide)
 have p2:=Int.mul_le_mul b1.2 b4.2 b4.1 (by decide)
 have p3:=Int.mul_le_mul b2.2 b3.2 b3.1 (by decide)
 have p4:=Int.mul_le_mul b2.2 b4.2 b4.1 (by decide)
 have q1:=Int.mul_nonneg b1.1 b3.1
 have q2:=Int.mul_nonneg b1.1 b4.1
 have q3:=Int.mul_nonneg b2.1 b3.1
 have q4:=Int.mul_nonneg b2.1 b4.1
 rw [hp]
 generalize x1*y1=A at *
 generalize x1*y0=B at *
 generalize x0*y1=E at *
 generalize x0*y0=C at *
 rw [wraps_u64 A (by omega) (by omega),wraps_u64 B (by omega) (by omega),wraps_u64 C (by omega) (by omega),wraps_u64 E (by omega) (by omega)]
 rw [wraps_u64 (B+C / 4294967296) (by omega) (by omega)]
 rw [U7 (by omega) (by omega)]
 rw [wraps_u64 (A+(B+C / 4294967296) / 4294967296) (by omega) (by omega),wraps_u64 ((B+C / 4294967296) % 4294967296+E) (by omega) (by omega)]
 rw [wraps_u64 _ (by omega) (by omega)]
 congr 2
 omega
theorem U9 {a:Int}(h : -999999999999999<=a/\a<=999999999999999):IntKind.u64.wrap (if (IntKind.i64.wrap (0-a)) > a then (IntKind.i64.wrap (0-a)) else a)=if a<0 then -a else a:=by
 rw [Ed (by omega) (by omega)]
 by_cases c:a<0
 . rw [if_pos (by omega),if_pos c,wraps_u64 _ (by omega) (by omega)];omega
 . rw [if_neg (by omega),if_neg c,wraps_u64 _ (by omega) (by omega)]
theorem TE (a b:Int)(ha : -999999999999999<=a/\a<=999999999999999)(hb : -999999999999999<=b/\b<=999999999999999):DL a b=some (Iy (a*b)):=by
 unfold DL
 rw [U9 ha,U9 hb]
 generalize hx:(if a<0 then -a else a)=x
 generalize hy:(if b<0 then -b else b)=y
 have x0:0<=x/\x<=999999999999999:=by split at hx<;>omega
 have y0:0<=y/\y<=999999999999999:=by split at hy<;>omega
 rw [Uf x y x0.1 x0.2 y0.1 y0.2,Option.bind_some]
 have hp:=Int.mul_nonneg x0.1 y0.1
 have hab:a*b=if (decide (a<0)) == (decide (b<0)) then x*y else -(x*y):=by
  by_cases c1:a<0<;>by_cases c2:b<0<;>simp only [c1,c2,if_true,if_false,decide_true,decide_false] at hx hy ⊢<;>subst hx<;>subst hy<;>simp [Int.neg_mul,Int.mul_neg]
 generalize x*y=p at *
 have hn:((bif ((p / 18446744073709551616:Int) == 0) then some (decide ((p % 18446744073709551616:Int)<999999999999999)) else some false):Option Bool)=some (decide (p<999999999999999)):=by
  by_cases c:p / 18446744073709551616=0
  . rw [show ((p / 18446744073709551616:Int) == 0)=true by simpa using c,cond_true]
    congr 1
    rw [decide_eq_decide];omega
  . rw [show ((p / 18446744073709551616:Int) == 0)=false by simpa using c,cond_false]
    congr 1
    symm;rw [decide_eq_false_iff_not];omega
 simp only [hn,Option.bind_some]
 have hm:((bif (decide (p<999999999999999)) then some (IntKind.i64.wrap (p % 18446744073709551616)) else some 999999999999999):Option Int)=some (if p<999999999999999 then p else 999999999999999):=by
  by_cases c:p<999999999999999
  . rw [decide_eq_true c,cond_true,if_pos c,Ed (by omega) (by omega)];congr 1;omega
  . rw [decide_eq_false c,cond_false,if_neg c]
 simp only [hm,Option.bind_some]
 rw [hab]
 have hq:∃ q,(if p<999999999999999 then p else 999999999999999)=q/\0<=q/\q<=999999999999999/\(p<=999999999999999->q=p)/\(999999999999999<p->q=999999999999999):=by
  refine⟨_,rfl,?_⟩
  split<;>omega
 obtain⟨q,hq,q1,q2,q3,q4⟩:=hq
 rw [hq]
 unfold Iy
 cases hc:(decide (a<0)) == (decide (b<0)) with
 |true =>
  rw [Bool.not_true,cond_false,if_pos rfl,if_neg (by omega)]
  congr 1
  by_cases c:999999999999999<p
  . rw [if_pos c];omega
  . rw [if_neg c];omega
 |false =>
  rw [Bool.not_false,cond_true,if_neg Bool.false_ne_true,Ed (by omega) (by omega)]
  congr 1
  by_cases c:999999999999999<p
  . rw [if_pos (by omega)];omega
  . rw [if_neg (by omega),if_neg (by omega)];omega
def NH (known kind who:Int)(f:Az):Bool:=f.Kind == kind&&(f.Who == who&&decide (f.Known<=known))
def TP (b:Option Az)(f:Az):Bool:=match b with
 |none=>true
 |some g=>decide (g.Known<=f.Known)
def D7 (p:Az->Bool):List Az->Option Az->Option Az
 | [],b=>b
 |f::r,b=>D7 p r (if (p f&&TP b f)=true then some f else b)
def VA:Option Az->Int
 |none=>41667
 |some f=>f.Day
def F1 (m:Ah)(kind who:Int):Int:=VA (D7 (NH m.known kind who) m.d.Facts none)
def X8 (l:List Az)(i:Int)(b:Option Az):Prop:=match b with
 |none=>i = -1
 |some f=>0<=i/\gi l i=some f
theorem Nl (m:Ah)(kind who:Int)(hl:m.d.Facts.length<=200):∀ (r:List Az) (k:Nat) (i:Int) (b:Option Az),m.d.Facts.drop k=r->k<=m.d.Facts.length->X8 m.d.Facts i b ->
 ∃ j,Ev (fun n=>Be n m kind who i (k:Int)) j/\X8 m.d.Facts j (D7 (NH m.known kind who) r b)
 | [],k,i,b,hr,hk,hb=>by
  have he:=Ps hr hk
  refine⟨i,Ev.step (f:=fun n=>some i) (fun n=>?_) Ev.pure,hb⟩
  rw [CY,show (decide ((k:Int)<(m.d.Facts.length:Int)))=false by rw [decide_eq_false_iff_not];omega];rfl
 |f::r,k,i,b,hr,hk,hb=>by
  obtain⟨h1,h2⟩:=JT hr
  have hg:=Sq hr
  have hc:((bif (f.Kind == kind) then
   bif (f.Who == who) then
    bif (decide (f.Known<=m.known)) then
     bif (decide (i<0)) then
      some true
     else
      (gi m.d.Facts i).bind fun x2 =>
      some (decide (x2.Known<=f.Known))
    else
     some false
   else
    some false
   else
    some false
   ):Option Bool)=some (NH m.known kind who f&&TP b f):=by
   unfold NH
   cases (f.Kind == kind)<;>cases (f.Who == who)<;>cases (decide (f.Known<=m.known))<;>simp only [cond_true,cond_false,Bool.and_true,Bool.true_and,Bool.false_and,Bool.and_false]
   cases b with
   |none =>
    have:i = -1:=hb
    subst this
    rfl
   |some g =>
    have hb:0<=i/\gi m.d.Facts i=some g:=hb
    rw [show decide (i<0)=false by rw [decide_eq_false_iff_not];omega,cond_false,hb.2];rfl
  cases hx:(NH m.known kind who f&&TP b f) with
  |true =>
   obtain⟨j,h3,h4⟩:=Nl m kind who hl r (k+1) (k:Int) (some f) h1 (by omega) ⟨by omega,hg⟩
   refine⟨j,Ev.step (fun n=>?_) h3,?_⟩
   . rw [CY,QY h2,cond_true,hg,Option.bind_some,hc,hx,Option.bind_some,cond_true,RY (by omega)]
   . rw [D7,if_pos hx];exact h4
  |false =>
   obtain⟨j,h3,h4⟩:=Nl m kind who hl r (k+1) i b h1 (by omega) hb
   refine⟨j,Ev.step (fun n=>?_) h3,?_⟩
   . rw [CY,QY h2,cond_true,hg,Option.bind_some,hc,hx,Option.bind_some,cond_false,RY (by omega)]
   . rw [D7,if_neg (by rw [hx];exact Bool.false_ne_true)];exact h4
theorem V8 (m:Ah)(kind who:Int)(hl:m.d.Facts.length<=200):Ev (fun n=>BP n m kind who) (F1 m kind who):=by
 obtain⟨j,h1,h2⟩:=Nl m kind who hl m.d.Facts 0 (-1) none rfl (Nat.zero_le _) rfl
 unfold BP
 refine Ev.bind h1 ?_
 unfold F1
 cases hb:D7 (NH m.known kind who) m.d.Facts none with
 |none =>
  rw [hb] at h2
  have:j = -1:=h2
  subst this
  exact Ev.pure
 |some f =>
  rw [hb] at h2
  have h2:0<=j/\gi m.d.Facts j=some f:=h2
  simp only [show decide (j<0)=false by rw [decide_eq_false_iff_not];omega,cond_false,h2.2,Option.bind_some]
  exact Ev.pure
theorem O9 {p:Az->Bool}:∀ {l:List Az} {b:Option Az} {f:Az},D7 p l b=some f->f∈l∨b=some f
 | [],b,f,h=>.inr h
 |x::l,b,f,h=>by
  rw [D7] at h
  rcases O9 h with h|h
  . exact .inl (List.mem_cons_of_mem _ h)
  . split at h
    . exact .inl (by rw [Ag h];simp)
    . exact .inr h
theorem Uj {m:Ah}(hm:Wj m)(kind who:Int):0<=F1 m kind who/\F1 m kind who<=41667:=by
 unfold F1
 cases hb:D7 (NH m.known kind who) m.d.Facts none with
 |none=>exact⟨by decide,by decide⟩
 |some f =>
  rcases O9 hb with h|h
  . have:=hm.facts f h
    unfold okF at this
    rw [decide_eq_true_eq] at this
    unfold VA
    simp only
    omega
  . cases h
def LW (b:Bool):Int:=if b=true then 1 else 0
def NF (m:Ah)(d:Do)(x:List Int):Int:=match d with
 |.c 77=>-(x.getD 0 0)
 |.c 78=>Iy (x.getD 0 0*x.getD 1 0)
 |.c 80=>Iy (x.getD 0 0+x.getD 1 0)
 |.c 82=>Lr (x.getD 0 0) (x.getD 1 0)
 |.c 84=>Iy (x.getD 0 0-x.getD 1 0)
 |.c 85=>Lr (x.getD 0 0) (-(x.getD 1 0))
 |.c 86=>x.getD 0 0-x.getD 1 0
 |.c 87=>1-x.getD 0 0
 |.c 88=>x.getD 0 0*x.getD 1 0
 |.c 89=>max (x.getD 0 0) (x.getD 1 0)
 |.c 90=>L5 (x.getD 0 0)
 |.c 92=>Ns (x.getD 0 0)
 |.c 103=>if x.getD 0 0=1 then x.getD 1 0 else x.getD 2 0
 |.c 104=>min (x.getD 0 0) (x.getD 1 0)
 |.c 105=>max (x.getD 0 0) (x.getD 1 0)
 |.k k=>F1 m (k+1) (x.getD 0 0)
 |.is 95=>LW (decide (x.getD 0 0<x.getD 1 0))
 |.is 96=>LW (decide (x.getD 0 0<=x.getD 1 0))
 |.is 97=>LW (decide (x.getD 1 0<x.getD 0 0))
 |.is 98=>LW (decide (x.getD 1 0<=x.getD 0 0))
 |.is 99=>LW (x.getD 0 0 == x.getD 1 0)
 |.is 100=>LW (x.getD 0 0 != x.getD 1 0)
 |_=>0
def NI:List Int->List Int->Prop
 | [],[]=>True
 |t::ts,x::xs=>Hc t x/\NI ts xs
 |_,_=>False
theorem YA {t:Int}{xs:List Int}(h:NI [t] xs):∃ a,xs=[a]/\Hc t a:=by
 match xs,h with
 | [a],h=>exact⟨a,rfl,h.1⟩
theorem Y9 {t u:Int}{xs:List Int}(h:NI [t,u] xs):∃ a b,xs=[a,b]/\Hc t a/\Hc u b:=by
 match xs,h with
 | [a,b],h=>exact⟨a,b,rfl,h.1,h.2.1⟩
theorem Y8 {t u v:Int}{xs:List Int}(h:NI [t,u,v] xs):∃ a b c,xs=[a,b,c]/\Hc t a/\Hc u b/\Hc v c:=by
 match xs,h with
 | [a,b,c],h=>exact⟨a,b,c,rfl,h.1,h.2.1,h.2.2.1⟩
theorem Ot (n:Int):Ci n=some (Iy n):=by
 unfold Ci Iy
 congr 1
 repeat' split
 all_goals omega
theorem U3 (n:Int):Ez n=some (L5 n):=by
 unfold Ez L5
 congr 1
 repeat' split
 all_goals omega
theorem Qr {d n:Int}(h : -1000000000000000<=n/\n<=1000000000000000)(h2:0<=d/\d<=41667):CD d n=some (Lr d n):=by
 unfold CD Lr
 by_cases c:d=41667
 . rw [if_pos c,show (d == 41667)=true by simpa using c];rfl
 . rw [if_neg c,show (d == 41667)=false by simpa using c,cond_false,U3,Option.bind_some,Ed (by omega) (by omega)]
theorem Wh {a b:Int}(ha:0<=a/\a<=1)(hb:0<=b/\b<=1):bits .and .i64 a b=a*b/\bits .or .i64 a b=max a b:=by
 have h1:a=0∨a=1:=by omega
 have h2:b=0∨b=1:=by omega
 rcases h1 with rfl|rfl<;>rcases h2 with rfl|rfl<;>decide
theorem Uu (b:Bool):(C5 b).bind (fun f=>some f)=some (LW b):=by cases b<;>rfl
instance (t v:Int):Decidable (Hc t v):=by unfold Hc;exact inferInstance
theorem V5 (b:Bool):Hc 3 (LW b):=by cases b<;>decide
theorem XE {t:Int}(m:Ah){d:Do}{k:Int}(h:∀ a,Hc t a->Ev (fun n=>ET n d m [a]) (NF m d [a])/\Hc k (NF m d [a])):∀ xs,NI [t] xs->Ev (fun n=>ET n d m xs) (NF m d xs)/\Hc k (NF m d xs):=by
 intro xs hx
 obtain⟨a,rfl,h1⟩:=YA hx
 exact h a h1
theorem TY {t u:Int}(m:Ah){d:Do}{k:Int}(h:∀ a b,Hc t a->Hc u b->Ev (fun n=>ET n d m [a,b]) (NF m d [a,b])/\Hc k (NF m d [a,b])):∀ xs,NI [t,u] xs->Ev (fun n=>ET n d m xs) (NF m d xs)/\Hc k (NF m d xs):=by
 intro xs hx
 obtain⟨a,b,rfl,h1,h2⟩:=Y9 hx
 exact h a b h1 h2
theorem YW {t u v:Int}(m:Ah){d:Do}{k:Int}(h:∀ a b c,Hc t a->Hc u b->Hc v c->Ev (fun n=>ET n d m [a,b,c]) (NF m d [a,b,c])/\Hc k (NF m d [a,b,c])):∀ xs,NI [t,u,v] xs->Ev (fun n=>ET n d m xs) (NF m d xs)/\Hc k (NF m d xs):=by
 intro xs hx
 obtain⟨a,b,c,rfl,h1,h2,h3⟩:=Y8 hx
 exact h a b c h1 h2 h3
theorem V1 {v:Int}(h:Hc 1 v) : -999999999999999<=v/\v<=999999999999999:=by unfold Hc at h;omega
theorem Xp {v:Int}(h:Hc 2 v):0<=v/\v<=41667:=by unfold Hc at h;omega
theorem UO {v:Int}(h:Hc 3 v):0<=v/\v<=1:=by unfold Hc at h;omega
theorem UW {v:Int}(h : -999999999999999<=v/\v<=999999999999999):Hc 1 v:=by unfold Hc;omega
theorem X4 {v:Int}(h:0<=v/\v<=41667):Hc 2 v:=by unfold Hc;omega
theorem YS {v:Int}(h:0<=v/\v<=1):Hc 3 v:=by unfold Hc;omega
theorem YG {v:Int}(h:0<=v/\v<=1000):Hc 4 v:=by unfold Hc;omega
theorem L4 (n:Int):Hc 1 (Iy n):=UW (by unfold Iy;split<;>(try split)<;>omega)
theorem O8 (n:Int):Hc 2 (L5 n):=X4 (by unfold L5;split<;>(try split)<;>omega)
theorem Tr (n:Int):Hc 4 (Ns n):=YG (by unfold Ns;split<;>(try split)<;>omega)
theorem Qs {d:Int}(n:Int)(h:0<=d/\d<=41667):Hc 2 (Lr d n):=by
 unfold Lr
 split
 . exact X4 h
 . exact O8 _
def P4 (m:Ah)(o:Aa):Prop:=∀ xs,NI o.args xs->Ev (fun n=>ET n o.do_ m xs) (NF m o.do_ xs)/\Hc o.kind (NF m o.do_ xs)
theorem Vs (m:Ah)(hm:Wj m):∀ o∈E6,P4 m o:=by
 have fact:∀ (s:ByteArray) (k:Int),k=0∨k=1∨k=2∨k=3∨k=4->P4 m ⟨4,s,[4],2,.k k⟩:=fun s k hk=>XE m fun a ha=>by
  refine⟨?_,X4 (Uj hm _ _)⟩
  show Ev (fun n=>(gi [a] 0).bind fun x1=>(BP n m (IntKind.i64.wrap (k+1)) x1).bind fun f=>some f) (F1 m (k+1) a)
  rw [Ed (by omega) (by omega)]
  show Ev (fun n=>(BP n m (k+1) a).bind fun f=>some f) (F1 m (k+1) a)
  exact Ev.bind (V8 m (k+1) a hm.len) Ev.pure
 unfold E6
 simp only [List.forall_mem_cons,List.not_mem_nil,false_imp_iff,implies_true,and_true]
 refine⟨?_,?_,?_,?_,?_,?_,?_,?_,?_,?_,?_,?_,fact _ _ (by simp),fact _ _ (by simp),fact _ _ (by simp),fact _ _ (by simp),fact _ _ (by simp)⟩
 . refine XE m fun a ha=>?_
   have:=V1 ha
   refine⟨Ev.const ?_,UW (by show _<=-a/\-a<=_;omega)⟩
   show some (IntKind.i64.wrap (0-a))=some (-a)
   rw [Ed (by omega) (by omega)];congr 1;omega
 . refine TY m fun a b ha hb=>⟨Ev.const ?_,L4 _⟩
   show (DL a b).bind _=_
   rw [TE a b (V1 ha) (V1 hb)];rfl
 . refine TY m fun a b ha hb=>⟨Ev.const ?_,L4 _⟩
   have:=V1 ha
   have:=V1 hb
   show (Ci (IntKind.i64.wrap (a+b))).bind _=_
   rw [Ed (by omega) (by omega),Ot];rfl
 . refine TY m fun a b ha hb=>⟨Ev.const ?_,Qs _ (Xp ha)⟩
   have:=V1 hb
   show (CD a b).bind _=_
   rw [Qr (by omega) (Xp ha)];rfl
 . refine TY m fun a b ha hb=>⟨Ev.const ?_,L4 _⟩
   have:=V1 ha
   have:=V1 hb
   show (Ci (IntKind.i64.wrap (a-b))).bind _=_
   rw [Ed (by omega) (by omega),Ot];rfl
 . refine TY m fun a b ha hb=>⟨Ev.const ?_,Qs _ (Xp ha)⟩
   have:=V1 hb
   show (CD a (IntKind.i64.wrap (0-b))).bind _=_
   rw [Ed (by omega) (by omega),Qr (by omega) (Xp ha),show (0:Int)-b = -b by omega];rfl
 . refine TY m fun a b ha hb=>?_
   have:=Xp ha
   have:=Xp hb
   refine⟨Ev.const ?_,UW (by show _<=a-b/\a-b<=_;omega)⟩
   show some (IntKind.i64.wrap (a-b))=some (a-b)
   rw [Ed (by omega) (by omega)]
 . refine XE m fun a ha=>?_
   have:=UO ha
   refine⟨Ev.const ?_,YS (by show _<=1-a/\1-a<=_;omega)⟩
   show some (IntKind.i64.wrap (1-a))=some (1-a)
   rw [Ed (by omega) (by omega)]
 . refine TY m fun a b ha hb=>?_
   have h1:a=0∨a=1:=by have:=UO ha;omega
   have h2:b=0∨b=1:=by have:=UO hb;omega
   refine⟨Ev.const ?_,?_⟩
   . show some (bits .and .i64 a b)=some (a*b)
     rw [(Wh (UO ha) (UO hb)).1]
   . show Hc 3 (a*b)
     rcases h1 with rfl|rfl<;>rcases h2 with rfl|rfl<;>decide
 . refine TY m fun a b ha hb=>?_
   have h1:a=0∨a=1:=by have:=UO ha;omega
   have h2:b=0∨b=1:=by have:=UO hb;omega
   refine⟨Ev.const ?_,?_⟩
   . show some (bits .or .i64 a b)=some (max a b)
     rw [(Wh (UO ha) (UO hb)).2]
   . show Hc 3 (max a b)
     rcases h1 with rfl|rfl<;>rcases h2 with rfl|rfl<;>decide
 . refine XE m fun a ha=>⟨Ev.const ?_,O8 _⟩
   show (Ez a).bind _=_
   rw [U3];rfl
 . refine XE m fun a ha=>⟨Ev.const ?_,Tr _⟩
   show some (if (if 1000<a then 1000 else a) > 0 then (if 1000<a then 1000 else a) else 0)=some (Ns a)
   unfold Ns
   congr 1
   repeat' split
   all_goals omega
theorem W6 (m:Ah)(i:Nat):∀ o∈F2 i,P4 m o:=by
 have cmp:∀ (op t:Int) (f:Nat),f=95∨f=96∨f=97∨f=98∨f=99∨f=100->P4 m ⟨op,⟨#[]⟩,[t,t],3,.is f⟩:=fun op t f hf=>TY m fun a b _ _=>by
  rcases hf with rfl|rfl|rfl|rfl|rfl|rfl<;>exact⟨Ev.const (Uu _),V5 _⟩
 intro o ho
 unfold F2 at ho
 split at ho
 . rename_i op f e
   have hf:f=95∨f=96∨f=97∨f=98∨f=99∨f=100:=by
    have h:∀ x∈XC,x.2=95∨x.2=96∨x.2=97∨x.2=98∨x.2=99∨x.2=100:=by decide
    exact h _ (List.mem_of_getElem? e)
   unfold Hs at ho
   split at ho<;>simp at ho
   . rcases ho with rfl|rfl|rfl<;>exact cmp _ _ _ hf
   . rcases ho with rfl|rfl<;>exact cmp _ _ _ hf
 . simp at ho
theorem Vr (m:Ah):∀ o∈NY,P4 m o:=by
 have ite:∀ t:Int,P4 m ⟨20,⟨#[]⟩,[3,t,t],t,.c 103⟩:=fun t=>YW m fun a b c ha hb hc=>by
  have h1:a=0∨a=1:=by have:=UO ha;omega
  rcases h1 with rfl|rfl
  . exact⟨Ev.const rfl,hc⟩
  . exact⟨Ev.const rfl,hb⟩
 have mn:∀ t:Int,P4 m ⟨4,⟨#[109,105,110]⟩,[t,t],t,.c 104⟩:=fun t=>TY m fun a b ha hb=>by
  have e:NF m (.c 104) [a,b]=min a b:=rfl
  rw [e]
  refine⟨Ev.const ?_,?_⟩
  . show some (if b<a then b else a)=some (min a b)
    congr 1
    split<;>omega
  . by_cases c:a<=b
    . rw [show min a b=a by omega];exact ha
    . rw [show min a b=b by omega];exact hb
 have mx:∀ t:Int,P4 m ⟨4,⟨#[109,97,120]⟩,[t,t],t,.c 105⟩:=fun t=>TY m fun a b ha hb=>by
  have e:NF m (.c 105) [a,b]=max a b:=rfl
  rw [e]
  refine⟨Ev.const ?_,?_⟩
  . show some (if b > a then b else a)=some (max a b)
    congr 1
    split<;>omega
  . by_cases c:a<=b
    . rw [show max a b=b by omega];exact hb
    . rw [show max a b=a by omega];exact ha
 unfold NY
 simp only [List.forall_mem_cons,List.not_mem_nil,false_imp_iff,implies_true,and_true]
 exact⟨ite 1,mn 1,mx 1,ite 2,mn 2,mx 2,ite 3,ite 4⟩
theorem Wz (m:Ah)(hm:Wj m)(os:List Nat):∀ o∈opsOf os,P4 m o:=by
 intro o ho
 unfold opsOf at ho
 rcases List.mem_append.1 ho with ho|ho
 . rcases List.mem_append.1 ho with ho|ho
   . exact Vs m hm o ho
   . obtain⟨i,_,h2⟩:=List.mem_flatMap.1 ho
     exact W6 m i o h2
 . exact Vr m o ho
theorem OA {p x:Int}(h:x≠0):¬ (QQ p x).2.2.E=0:=h
theorem Uw {op num at0:Int}{str:ByteArray}{kids:List Ab}(h:(CM (.mk op num str kids at0)).2.2.E=0) :
 ∃ ts,ED kids=.inl ts/\((op=1/\0<=num/\num<=999999999999999/\kids=[]/\CM (.mk op num str kids at0)=(1,W3,⟨0,0⟩))
  ∨ (op=3/\(Cd Cb str).2=true/\kids=[]/\CM (.mk op num str kids at0)=((Cd Cb str).1,W3,⟨0,0⟩))
  ∨ (op≠1/\op≠3/\∃ o,o∈Ik/\pick op str ts Ik=some o/\o.args=ts/\CM (.mk op num str kids at0)=(o.kind,o,⟨0,0⟩))):=by
 rw [CM] at h ⊢
 by_cases c:op<1∨20<op∨(0<=arity op/\(kids.length:Int)≠arity op)
 . rw [if_pos c] at h;exact absurd h (OA (by decide))
 rw [if_neg c] at h ⊢
 cases ht:ED kids with
 |inr o =>
  rw [ht] at h
  exfalso
  have key:∀ (l:List Ab) (o:Int×Aa×Au),ED l=.inr o->o.2.2.E≠0:=by
   intro l
   induction l with
   |nil=>intro o h;cases h
   |cons e l ih =>
    intro o h
    rw [ED] at h
    split at h
    . rename_i h1;cases h;exact h1
    . split at h
      . cases h
      . rename_i h2;cases h;exact ih _ h2
  exact key _ _ ht h
 |inl ts =>
  refine⟨ts,rfl,?_⟩
  rw [ht] at h
  simp only at h ⊢
  have a1:arity op=0->kids=[]:=fun ha=>by
   have:(kids.length:Int)=0:=by
    by_cases e:(kids.length:Int)=arity op
    . omega
    . exact absurd (.inr (.inr ⟨by omega,e⟩)) c
   exact List.length_eq_zero_iff.1 (by omega)
  by_cases h1:op=1
  . rw [if_pos h1] at h ⊢
    split at h
    . exact absurd h (OA (by decide))
    . rename_i h2
      rw [if_neg h2]
      exact .inl ⟨h1,by omega,by omega,a1 (by subst h1;rfl),rfl⟩
  rw [if_neg h1] at h ⊢
  by_cases h2:op=2
  . rw [if_pos h2] at h;exact absurd h (OA (by decide))
  rw [if_neg h2] at h ⊢
  by_cases h3:op=3
  . rw [if_pos h3] at h ⊢
    split at h
    . rename_i h4
      rw [if_pos h4]
      exact .inr (.inl ⟨h3,h4,a1 (by subst h3;rfl),rfl⟩)
    . exact absurd h (OA (by decide))
  rw [if_neg h3] at h ⊢
  refine .inr (.inr ⟨h1,h3,?_⟩)
  unfold BW at h ⊢
  cases hp:pick op str ts Ik with
  |some o =>
   have hp2:=hp
   unfold pick at hp2
   have m1:=List.mem_of_find?_eq_some hp2
   have m2:=List.find?_some hp2
   rw [Bool.and_eq_true,decide_eq_true_eq] at m2
   exact⟨o,m1,rfl,m2.2,rfl⟩
  |none =>
   rw [hp] at h
   simp only at h
   split at h
   . exact absurd h (OA (by decide))
   . split at h<;>exact absurd h (OA (by decide))
mutual
def NJ (m:Ah):Ab->Int
 |.mk op n s kids p =>
  if op=1 then n
  else if op=3 then (Cd [(⟨#[121,101,97,114]⟩,365),(⟨#[115,116,111,114,101,100]⟩,m.d.Stored),(⟨#[110,101,118,101,114]⟩,41667),(⟨#[111,119,110,101,114]⟩,m.d.Owner)] s).1
  else NF m (CM (.mk op n s kids p)).2.1.do_ (Kq m kids)
def Kq (m:Ah):List Ab->List Int
 | []=>[]
 |e::l=>NJ m e::Kq m l
end
theorem Vv (m:Ah)(hm:Wj m)(s:ByteArray)(h:(Cd Cb s).2=true) :
 Hc (Cd Cb s).1 (Cd [(⟨#[121,101,97,114]⟩,365),(⟨#[115,116,111,114,101,100]⟩,m.d.Stored),(⟨#[110,101,118,101,114]⟩,41667),(⟨#[111,119,110,101,114]⟩,m.d.Owner)] s).1:=by
 have h1:=hm.st
 have h2:=hm.ow
 unfold Cb at h ⊢
 unfold Cd at h ⊢
 split
 . exact UW (by decide)
 rename_i c1
 rw [if_neg c1] at h
 unfold Cd at h ⊢
 split
 . exact X4 (by omega)
 rename_i c2
 rw [if_neg c2] at h
 unfold Cd at h ⊢
 split
 . exact X4 (by decide)
 rename_i c3
 rw [if_neg c3] at h
 unfold Cd at h ⊢
 split
 . exact YG (by omega)
 . rename_i c4
   rw [if_neg c4] at h
   cases h
theorem Um {m:Ah}{d:Do}{xs:List Int}{v:Int}(h:Ev (fun n=>ET n d m xs) v):Xg d=some d:=by
 obtain⟨n,h⟩:=h.get
 cases d with
 |nil=>cases h
 |_=>rfl
theorem PB (s:AN)(m:Ah)(e:Ab)(hk:e.Kids.length<=1000000)(hf:∀ x∈e.Kids,Ev (fun n=>AB n s x m) (NJ m x)) :
 ∀ (r:List Ab) (k:Nat) (vs:List Int),e.Kids.drop k=r->k<=e.Kids.length->vs.length=k->Ev (fun n=>AK n e s m vs (k:Int)) (vs++Kq m r)
 | [],k,vs,hr,hkl,_=>by
  have he:=Ps hr hkl
  refine Ev.step (f:=fun n=>some vs) (fun n=>?_) ?_
  . rw [DG,show (decide ((k:Int)<(e.Kids.length:Int)))=false by rw [decide_eq_false_iff_not];omega];rfl
  . rw [Kq,List.append_nil];exact Ev.pure
 |x::r,k,vs,hr,hkl,hvs=>by
  obtain⟨h1,h2⟩:=JT hr
  have hmem:x∈e.Kids:=List.mem_of_mem_drop (by rw [hr];simp)
  refine Ev.step (f:=fun n=>(AB n s x m).bind fun v=>AK n e s m (vs++[v]) ((k+1:Nat):Int)) (fun n=>?_) ?_
  . rw [DG,QY h2,cond_true,Sq hr,Option.bind_some]
    congr 1
    funext v
    rw [Option.bind_some,VZ (by omega) (by simp),Option.bind_some,RY (by omega)]
  . refine Ev.bind (hf x hmem) ?_
    have ih:=PB s m e hk hf r (k+1) (vs++[NJ m x]) h1 (by omega) (by simp [hvs])
    rw [Kq]
    simpa [List.append_assoc] using ih
def Wl (os:List Nat)(m:Ah)(e:Ab):Prop:=Ev (fun n=>AB n ⟨opsOf os,Cb⟩ e m) (NJ m e)/\Hc (CM e).1 (NJ m e)
theorem Ra {os:List Nat}(ho:Ord os)(m:Ah)(hm:Wj m)(op num at0:Int)(str:ByteArray)(kids:List Ab)(hs:F7 (.mk op num str kids at0)=true)(ht:(CM (.mk op num str kids at0)).2.2.E=0)
 (hkids:∀ ts,ED kids=.inl ts->NI ts (Kq m kids)/\∀ x∈kids,Ev (fun n=>AB n ⟨opsOf os,Cb⟩ x m) (NJ m x)):Wl os m (.mk op num str kids at0):=by
 have hfind:=Pj ho _ hs
 have hs2:=hs
 rw [F7,Bool.and_eq_true,decide_eq_true_eq] at hs2
 obtain⟨ts,h1,h2⟩:=Uw ht
 obtain⟨k1,k2⟩:=hkids ts h1
 rcases h2 with⟨rfl,n1,n2,_,hf⟩|⟨rfl,n1,_,hf⟩|⟨c1,c3,o,ho1,ho2,ho3,hf⟩
 . refine⟨?_,?_⟩
   . refine Ev.step (f:=fun n=>some num) (fun n=>?_) ?_
     . rw [CW];rfl
     . rw [NJ,if_pos rfl];exact Ev.pure
   . rw [hf,NJ,if_pos rfl];exact UW ⟨by omega,n2⟩
 . refine⟨?_,?_⟩
   . refine Ev.step (f:=fun n=>some (NJ m (.mk 3 num str kids at0))) (fun n=>?_) Ev.pure
     rw [CW,NJ,if_neg (by decide),if_pos rfl];rfl
   . rw [hf,NJ,if_neg (by decide),if_pos rfl];exact Vv m hm str n1
 . have hop:=Wz m hm _ o ho1 (Kq m kids) (by rw [ho3];exact k1)
   have hv:NJ m (.mk op num str kids at0)=NF m o.do_ (Kq m kids):=by rw [NJ,if_neg c1,if_neg c3,hf]
   refine⟨?_,?_⟩
   . have loop:=PB ⟨opsOf os,Cb⟩ m (.mk op num str kids at0) hs2.1 k2 kids 0 [] rfl (Nat.zero_le _) rfl
     refine Ev.step (f:=fun n=>(AK n (.mk op num str kids at0) ⟨opsOf os,Cb⟩ m [] 0).bind fun x=>(A4 n ⟨opsOf os,Cb⟩ (.mk op num str kids at0)).bind fun f=>(Xg f.2.1.do_).bind fun d=>(ET n d m x).bind fun r1=>some r1) (fun n=>?_) ?_
     . rw [CW]
       simp only [show (op == 1)=false by simpa using c1,show (op == 3)=false by simpa using c3,cond_false]
     . refine Ev.bind loop (Ev.bind hfind ?_)
       rw [hf,hv]
       simp only [List.nil_append,Um hop.1,Option.bind_some]
       exact Ev.bind hop.1 Ev.pure
   . rw [hf,hv];exact hop.2
mutual
theorem PA {os:List Nat}(ho:Ord os)(m:Ah)(hm:Wj m):∀ (e:Ab),F7 e=true->(CM e).2.2.E=0->Wl os m e
 |.mk op num str kids at0,hs,ht=>by
  refine Ra ho m hm op num at0 str kids hs ht fun ts hts=>?_
  rw [F7,Bool.and_eq_true] at hs
  exact NW ho m hm kids ts hs.2 hts
theorem NW {os:List Nat}(ho:Ord os)(m:Ah)(hm:Wj m):∀ (l:List Ab) (ts:List Int),Il l=true->ED l=.inl ts->NI ts (Kq m l)/\∀ x∈l,Ev (fun n=>AB n ⟨opsOf os,Cb⟩ x m) (NJ m x)
 | [],ts,_,ht=>by
  rw [ED] at ht
  cases ht
  exact⟨trivial,fun x hx=>by simp at hx⟩
 |e::l,ts,hs,ht=>by
  rw [Il,Bool.and_eq_true] at hs
  rw [ED] at ht
  by_cases c:(CM e).2.2.E=0
  . rw [if_neg (by simpa using c)] at ht
    cases ht2:ED l with
    |inr o=>rw [ht2] at ht;cases ht
    |inl us =>
     rw [ht2] at ht
     cases ht
     obtain⟨g1,g2⟩:=PA ho m hm e hs.1 c
     obtain⟨r1,r2⟩:=NW ho m hm l us hs.2 ht2
     refine⟨⟨g2,r1⟩,fun x hx=>?_⟩
     rcases List.mem_cons.1 hx with hx|hx
     . rw [hx];exact g1
     . exact r2 x hx
  . rw [if_pos c] at ht;cases ht
end
def PC (e:Ab)(m:Ah):Option Int:=if F7 e=true/\(CM e).2.2.E=0/\CC m.d m.known=0 then some (NJ m e) else none
end Go.Sp
