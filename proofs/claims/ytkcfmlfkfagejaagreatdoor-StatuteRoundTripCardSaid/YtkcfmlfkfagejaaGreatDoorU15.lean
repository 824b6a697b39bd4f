/-
  What value computes, in plain words, whatever order the table of operations is in. No program.
-/
import Derived.Lib.EndianBits
import Derived.Test.YtkcfmlfkfagejaaGreatDoorU14
set_option linter.unusedVariables false
set_option linter.unusedSimpArgs false
namespace Go.Sp
open Go
def IV (n:Int):Int:=if n < -999999999999999 then -999999999999999 else if 999999999999999<n then 999999999999999 else n
def OM (n:Int):Int:=if n<0 then 0 else if 41667<n then 41667 else n
def Rx (n:Int):Int:=if n<0 then 0 else if 1000<n then 1000 else n
def O5 (d n:Int):Int:=if d=41667 then d else OM (d+n)
def Jd (t v:Int):Prop:=(t=1/\-999999999999999<=v/\v<=999999999999999)∨(t=2/\0<=v/\v<=41667)∨(t=3/\0<=v/\v<=1)∨(t=4/\0<=v/\v<=1000)
def okF (f:BS):Bool:=decide (1<=f.Kind/\f.Kind<=5/\1<=f.Who/\f.Who<=1000/\0<=f.Day/\f.Day<=41666/\0<=f.Known/\f.Known<=41666)
def WW (d:BG)(known:Int):Int :=
 if 200<d.Facts.length then 2
 else if d.Facts.all okF=true/\0<=d.Stored/\d.Stored<=41666/\0<=known/\known<=41666/\0<=d.Owner/\d.Owner<=1000 then 0 else 1
structure OkM (m:Al):Prop where
 len:m.d.Facts.length<=200
 facts:∀ f∈m.d.Facts,okF f=true
 st:0<=m.d.Stored/\m.d.Stored<=41666
 kn:0<=m.known/\m.known<=41666
 ow:0<=m.d.Owner/\m.d.Owner<=1000
theorem Agf {m:Al}(h:WW m.d m.known=0):OkM m:=by
 unfold WW at h
 split at h
 . cases h
 . rename_i h1
   split at h
   . rename_i h2
     exact⟨by omega,List.all_eq_true.1 h2.1,⟨h2.2.1,h2.2.2.1⟩,⟨h2.2.2.2.1,h2.2.2.2.2.1⟩,h2.2.2.2.2.2⟩
   . cases h
theorem WA (x1 x0 y1 y0:Int):(4294967296*x1+x0)*(4294967296*y1+y0)=18446744073709551616*(x1*y1)+4294967296*(x1*y0)+4294967296*(x0*y1)+x0*y0:=by
 grind
theorem Acp {x:Int}(h0:0<=x)(h1:x<18446744073709551616):bits .and .u64 x 4294967295=x % 4294967296:=by
 have h:=bits_mask .u64 64 (by decide) wraps_u64 32 (by decide) x h0 (by omega)
 simpa using h
theorem Aa2 (x y:Int)(hx:0<=x)(hx2:x<=999999999999999)(hy:0<=y)(hy2:y<=999999999999999):EZ x y=some (x*y / 18446744073709551616,x*y % 18446744073709551616):=by
 have hs:(2:Int) ^ min (32:Int).toNat IntKind.u64.bits=4294967296:=by decide
 unfold EZ
 rw [hs,Acp hx (by omega),Acp hy (by omega)]
 simp only [Int.fdiv_eq_ediv_of_nonneg _ (show (0:Int)<=4294967296 by decide)]
 have ex:x=4294967296*(x / 4294967296)+x % 4294967296:=by omega
 have ey:y=4294967296*(y / 4294967296)+y % 4294967296:=by omega
 have hp:=WA (x / 4294967296) (x % 4294967296) (y / 4294967296) (y % 4294967296)
 rw [<- ex,<- ey] at hp
 rw [IntKind.wrap_u64 (x*y)]
 have b1:0<=x / 4294967296/\x / 4294967296<=232831:=by omega
 have b2:0<=x % 4294967296/\x % 4294967296<=4294967295:=by omega
 have b3:0<=y / 4294967296/\y / 4294967296<=232831:=by omega
 have b4:0<=y % 4294967296/\y % 4294967296<=4294967295:=by omega
 generalize x / 4294967296=x1 at *
 generalize x % 4294967296=x0 at *
 generalize y / 4294967296=y1 at *
 generalize y % 4294967296=y0 at *
 have p1:=Int.mul_le_mul b1.2 b3.2 b3.1 (by decide)
 have p2:=Int.mul_le_mul b1.2 b4.2 b4.1 (by decide)
 have p3:=Int.mul_le_mul b2.2 b3.2 b3.1 (by decide)
 have p4:=Int.mul_le_mul b2.2 b4.2 b4.1 (by decide)
 have q1:=Int.mul_nonneg b1.1 b3.1
 have q2:=Int.mul_nonneg b1.1 b4.1
 have q3:=Int.mul_nonneg b2.1 b3.1
 have q4:=Int.mul_nonneg b2.1 b4.1
 rw [hp]
 generalize x1*y1=A at *
 generalize x1*y0=B at *
 generalize x0*y1=E at *
 generalize x0*y0=C at *
 rw [wraps_u64 A (by omega) (by omega),wraps_u64 B (by omega) (by omega),wraps_u64 C (by omega) (by omega),wraps_u64 E (by omega) (by omega)]
 rw [wraps_u64 (B+C / 4294967296) (by omega) (by omega)]
 rw [Acp (by omega) (by omega)]
 rw [wraps_u64 (A+(B+C / 4294967296) / 4294967296) (by omega) (by omega),wraps_u64 ((B+C / 4294967296) % 4294967296+E) (by omega) (by omega)]
 rw [wraps_u64 _ (by omega) (by omega)]
 congr 2
 omega
theorem Acr {a:Int}(h : -999999999999999<=a/\a<=999999999999999):IntKind.u64.wrap (if (À (0-a)) > a then (À (0-a)) else a)=if a<0 then -a else a:=by
 rw [A2 (by omega) (by omega)]
 by_cases c:a<0
 . rw [Ê (by omega),Ê c,wraps_u64 _ (by omega) (by omega)];omega
 . rw [È (by omega),È c,wraps_u64 _ (by omega) (by omega)]
theorem ZN (a b:Int)(ha : -999999999999999<=a/\a<=999999999999999)(hb : -999999999999999<=b/\b<=999999999999999):DB a b=some (IV (a*b)):=by
 unfold DB
 rw [Acr ha,Acr hb]
 generalize hx:(if a<0 then -a else a)=x
 generalize hy:(if b<0 then -b else b)=y
 have x0:0<=x/\x<=999999999999999:=by split at hx<;>omega
 have y0:0<=y/\y<=999999999999999:=by split at hy<;>omega
 rw [Aa2 x y x0.1 x0.2 y0.1 y0.2,Á]
 have hp:=Int.mul_nonneg x0.1 y0.1
 have hab:a*b=if (decide (a<0)) == (decide (b<0)) then x*y else -(x*y):=by
  grind [DB,IV]
 generalize x*y=p at *
 have hn:((bif ((p / 18446744073709551616:Int) == 0) then some (decide ((p % 18446744073709551616:Int)<999999999999999)) else some false):Option Bool)=some (decide (p<999999999999999)):=by
  by_cases c:p / 18446744073709551616=0
  . grind [DB,IV]
  . rw [show ((p / 18446744073709551616:Int) == 0)=false by simpa using c,Ä]
    congr 1
    symm;rw [Ö];omega
 simp only [hn,Á]
 have hm:((bif (decide (p<999999999999999)) then some (À (p % 18446744073709551616)) else some 999999999999999):Option Int)=some (if p<999999999999999 then p else 999999999999999):=by
  by_cases c:p<999999999999999
  . rw [Ð c,É,Ê c,A2 (by omega) (by omega)];congr 1;omega
  . rw [Ñ c,Ä,È c]
 simp only [hm,Á]
 rw [hab]
 have hq:∃ q,(if p<999999999999999 then p else 999999999999999)=q/\0<=q/\q<=999999999999999/\(p<=999999999999999->q=p)/\(999999999999999<p->q=999999999999999):=by
  refine⟨_,rfl,?_⟩
  split<;>omega
 obtain⟨q,hq,q1,q2,q3,q4⟩:=hq
 rw [hq]
 unfold IV
 cases hc:(decide (a<0)) == (decide (b<0)) with
 |true =>
  rw [à,Ä,Ê rfl,È (by omega)]
  congr 1
  by_cases c:999999999999999<p
  . rw [Ê c];omega
  . rw [È c];omega
 |false =>
  rw [é,É,È Bool.false_ne_true,A2 (by omega) (by omega)]
  congr 1
  by_cases c:999999999999999<p
  . rw [Ê (by omega)];omega
  . rw [È (by omega),È (by omega)];omega
def isF (known kind who:Int)(f:BS):Bool:=f.Kind == kind&&(f.Who == who&&decide (f.Known<=known))
def Aaj (b:Option BS)(f:BS):Bool:=match b with
 |none=>true
 |some g=>decide (g.Known<=f.Known)
def Oe (p:BS->Bool):List BS->Option BS->Option BS
 | [],b=>b
 |f::r,b=>Oe p r (if (p f&&Aaj b f)=true then some f else b)
def Ai1:Option BS->Int
 |none=>41667
 |some f=>f.Day
def Pn (m:Al)(kind who:Int):Int:=Ai1 (Oe (isF m.known kind who) m.d.Facts none)
def Ah6 (l:List BS)(i:Int)(b:Option BS):Prop:=match b with
 |none=>i = -1
 |some f=>0<=i/\gi l i=some f
theorem Rk (m:Al)(kind who:Int)(hl:m.d.Facts.length<=200):∀ (r:List BS) (k:Nat) (i:Int) (b:Option BS),m.d.Facts.drop k=r->k<=m.d.Facts.length->Ah6 m.d.Facts i b ->
 ∃ j,Ev (fun n=>Bs n m kind who i (k:Int)) j/\Ah6 m.d.Facts j (Oe (isF m.known kind who) r b)
 | [],k,i,b,hr,hk,hb=>by
  have he:=LY hr hk
  refine⟨i,Ev.step (f:=fun n=>some i) (fun n=>?_) Ev.pure,hb⟩
  rw [DY,show (decide ((k:Int)<(m.d.Facts.length:Int)))=false by rw [Ö];omega];rfl
 |f::r,k,i,b,hr,hk,hb=>by
  obtain⟨h1,h2⟩:=He hr
  have hg:=RM hr
  have hc:((bif (f.Kind == kind) then
   bif (f.Who == who) then
    bif (decide (f.Known<=m.known)) then
     bif (decide (i<0)) then
      some true
     else
      (gi m.d.Facts i).bind fun x2 =>
      some (decide (x2.Known<=f.Known))
    else
     some false
   else
    some false
   else
    some false
   ):Option Bool)=some (isF m.known kind who f&&Aaj b f):=by
   unfold isF
   cases (f.Kind == kind)<;>cases (f.Who == who)<;>cases (decide (f.Known<=m.known))<;>simp only [É,Ä,ē,ė,Bool.false_and,Bool.and_false]
   cases b with
   |none =>
    have:i = -1:=hb
    subst this
    rfl
   |some g =>
    have hb:0<=i/\gi m.d.Facts i=some g:=hb
    rw [show decide (i<0)=false by rw [Ö];omega,Ä,hb.2];rfl
  cases hx:(isF m.known kind who f&&Aaj b f) with
  |true =>
   obtain⟨j,h3,h4⟩:=Rk m kind who hl r (k+1) (k:Int) (some f) h1 (by omega) ⟨by omega,hg⟩
   refine⟨j,Ev.step (fun n=>?_) h3,?_⟩
   . grind [DY,RE,OR]
   . rw [Oe,Ê hx];exact h4
  |false =>
   obtain⟨j,h3,h4⟩:=Rk m kind who hl r (k+1) i b h1 (by omega) hb
   refine⟨j,Ev.step (fun n=>?_) h3,?_⟩
   . grind [DY,RE,OR]
   . rw [Oe,È (by rw [hx];exact Bool.false_ne_true)];exact h4
theorem Aeo (m:Al)(kind who:Int)(hl:m.d.Facts.length<=200):Ev (fun n=>CK n m kind who) (Pn m kind who):=by
 obtain⟨j,h1,h2⟩:=Rk m kind who hl m.d.Facts 0 (-1) none rfl (ú _) rfl
 unfold CK
 refine Ev.bind h1 ?_
 unfold Pn
 cases hb:Oe (isF m.known kind who) m.d.Facts none with
 |none =>
  rw [hb] at h2
  have:j = -1:=h2
  subst this
  exact Ev.pure
 |some f =>
  rw [hb] at h2
  have h2:0<=j/\gi m.d.Facts j=some f:=h2
  simp only [show decide (j<0)=false by rw [Ö];omega,Ä,h2.2,Á]
  exact Ev.pure
theorem Ta {p:BS->Bool}:∀ {l:List BS} {b:Option BS} {f:BS},Oe p l b=some f->f∈l∨b=some f
 | [],b,f,h=>.inr h
 |x::l,b,f,h=>by
  rw [Oe] at h
  rcases Ta h with h|h
  . exact .inl (ù _ h)
  . split at h
    . exact .inl (by rw [Ac h];simp)
    . exact .inr h
theorem Aa8 {m:Al}(hm:OkM m)(kind who:Int):0<=Pn m kind who/\Pn m kind who<=41667:=by
 unfold Pn
 cases hb:Oe (isF m.known kind who) m.d.Facts none with
 |none=>exact⟨by decide,by decide⟩
 |some f =>
  rcases Ta hb with h|h
  . have:=hm.facts f h
    unfold okF at this
    rw [Í] at this
    unfold Ai1
    simp only
    omega
  . cases h
def Pt (b:Bool):Int:=if b=true then 1 else 0
def U0 (m:Al)(d:Do)(x:List Int):Int:=match d with
 |.c 77=>-(x.getD 0 0)
 |.c 78=>IV (x.getD 0 0*x.getD 1 0)
 |.c 80=>IV (x.getD 0 0+x.getD 1 0)
 |.c 82=>O5 (x.getD 0 0) (x.getD 1 0)
 |.c 84=>IV (x.getD 0 0-x.getD 1 0)
 |.c 85=>O5 (x.getD 0 0) (-(x.getD 1 0))
 |.c 86=>x.getD 0 0-x.getD 1 0
 |.c 87=>1-x.getD 0 0
 |.c 88=>x.getD 0 0*x.getD 1 0
 |.c 89=>max (x.getD 0 0) (x.getD 1 0)
 |.c 90=>OM (x.getD 0 0)
 |.c 92=>Rx (x.getD 0 0)
 |.c 103=>if x.getD 0 0=1 then x.getD 1 0 else x.getD 2 0
 |.c 104=>min (x.getD 0 0) (x.getD 1 0)
 |.c 105=>max (x.getD 0 0) (x.getD 1 0)
 |.k k=>Pn m (k+1) (x.getD 0 0)
 |.is 95=>Pt (decide (x.getD 0 0<x.getD 1 0))
 |.is 96=>Pt (decide (x.getD 0 0<=x.getD 1 0))
 |.is 97=>Pt (decide (x.getD 1 0<x.getD 0 0))
 |.is 98=>Pt (decide (x.getD 1 0<=x.getD 0 0))
 |.is 99=>Pt (x.getD 0 0 == x.getD 1 0)
 |.is 100=>Pt (x.getD 0 0 != x.getD 1 0)
 |_=>0
def RN:List Int->List Int->Prop
 | [],[]=>True
 |t::ts,x::xs=>Jd t x/\RN ts xs
 |_,_=>False
theorem Ajn {t:Int}{xs:List Int}(h:RN [t] xs):∃ a,xs=[a]/\Jd t a:=by
 match xs,h with
 | [a],h=>exact⟨a,rfl,h.1⟩
theorem Ajm {t u:Int}{xs:List Int}(h:RN [t,u] xs):∃ a b,xs=[a,b]/\Jd t a/\Jd u b:=by
 match xs,h with
 | [a,b],h=>exact⟨a,b,rfl,h.1,h.2.1⟩
theorem Ajl {t u v:Int}{xs:List Int}(h:RN [t,u,v] xs):∃ a b c,xs=[a,b,c]/\Jd t a/\Jd u b/\Jd v c:=by
 match xs,h with
 | [a,b,c],h=>exact⟨a,b,c,rfl,h.1,h.2.1,h.2.2.1⟩
theorem Sw (n:Int):Di n=some (IV n):=by
 unfold Di IV
 congr 1
 repeat' split
 all_goals omega
theorem Acf (n:Int):FK n=some (OM n):=by
 unfold FK OM
 congr 1
 repeat' split
 all_goals omega
theorem Vx {d n:Int}(h : -1000000000000000<=n/\n<=1000000000000000)(h2:0<=d/\d<=41667):DC d n=some (O5 d n):=by
 grind [DC,O5,Acf,A2]
theorem Afu {a b:Int}(ha:0<=a/\a<=1)(hb:0<=b/\b<=1):bits .and .i64 a b=a*b/\bits .or .i64 a b=max a b:=by
 have h1:a=0∨a=1:=by omega
 have h2:b=0∨b=1:=by omega
 rcases h1 with rfl|rfl<;>rcases h2 with rfl|rfl<;>decide
theorem Abs (b:Bool):(D7 b).bind (fun f=>some f)=some (Pt b):=by cases b<;>rfl
instance (t v:Int):Decidable (Jd t v):=by unfold Jd;exact inferInstance
theorem Aek (b:Bool):Jd 3 (Pt b):=by cases b<;>decide
theorem op1 {t:Int}(m:Al){d:Do}{k:Int}(h:∀ a,Jd t a->Ev (fun n=>Gz n d m [a]) (U0 m d [a])/\Jd k (U0 m d [a])):∀ xs,RN [t] xs->Ev (fun n=>Gz n d m xs) (U0 m d xs)/\Jd k (U0 m d xs):=by
 intro xs hx
 obtain⟨a,rfl,h1⟩:=Ajn hx
 exact h a h1
theorem op2 {t u:Int}(m:Al){d:Do}{k:Int}(h:∀ a b,Jd t a->Jd u b->Ev (fun n=>Gz n d m [a,b]) (U0 m d [a,b])/\Jd k (U0 m d [a,b])):∀ xs,RN [t,u] xs->Ev (fun n=>Gz n d m xs) (U0 m d xs)/\Jd k (U0 m d xs):=by
 intro xs hx
 obtain⟨a,b,rfl,h1,h2⟩:=Ajm hx
 exact h a b h1 h2
theorem op3 {t u v:Int}(m:Al){d:Do}{k:Int}(h:∀ a b c,Jd t a->Jd u b->Jd v c->Ev (fun n=>Gz n d m [a,b,c]) (U0 m d [a,b,c])/\Jd k (U0 m d [a,b,c])):∀ xs,RN [t,u,v] xs->Ev (fun n=>Gz n d m xs) (U0 m d xs)/\Jd k (U0 m d xs):=by
 intro xs hx
 obtain⟨a,b,c,rfl,h1,h2,h3⟩:=Ajl hx
 exact h a b c h1 h2 h3
theorem in1 {v:Int}(h:Jd 1 v) : -999999999999999<=v/\v<=999999999999999:=by unfold Jd at h;omega
theorem in2 {v:Int}(h:Jd 2 v):0<=v/\v<=41667:=by unfold Jd at h;omega
theorem in3 {v:Int}(h:Jd 3 v):0<=v/\v<=1:=by unfold Jd at h;omega
theorem to1 {v:Int}(h : -999999999999999<=v/\v<=999999999999999):Jd 1 v:=by unfold Jd;omega
theorem MD {v:Int}(h:0<=v/\v<=41667):Jd 2 v:=by unfold Jd;omega
theorem to3 {v:Int}(h:0<=v/\v<=1):Jd 3 v:=by unfold Jd;omega
theorem to4 {v:Int}(h:0<=v/\v<=1000):Jd 4 v:=by unfold Jd;omega
theorem OL (n:Int):Jd 1 (IV n):=to1 (by unfold IV;split<;>(try split)<;>omega)
theorem SX (n:Int):Jd 2 (OM n):=MD (by unfold OM;split<;>(try split)<;>omega)
theorem Zv (n:Int):Jd 4 (Rx n):=to4 (by unfold Rx;split<;>(try split)<;>omega)
theorem Vy {d:Int}(n:Int)(h:0<=d/\d<=41667):Jd 2 (O5 d n):=by
 unfold O5
 split
 . exact MD h
 . exact SX _
def Uw (m:Al)(o:Af):Prop:=∀ xs,RN o.args xs->Ev (fun n=>Gz n o.do_ m xs) (U0 m o.do_ xs)/\Jd o.kind (U0 m o.do_ xs)
theorem Adz (m:Al)(hm:OkM m):∀ o∈FT,Uw m o:=by
 have fact:∀ (s:Â) (k:Int),k=0∨k=1∨k=2∨k=3∨k=4->Uw m ⟨4,s,[4],2,.k k⟩:=fun s k hk=>op1 m fun a ha=>by
  refine⟨?_,MD (Aa8 hm _ _)⟩
  show Ev (fun n=>(gi [a] 0).bind fun x1=>(CK n m (À (k+1)) x1).bind fun f=>some f) (Pn m (k+1) a)
  rw [A2 (by omega) (by omega)]
  show Ev (fun n=>(CK n m (k+1) a).bind fun f=>some f) (Pn m (k+1) a)
  exact Ev.bind (Aeo m (k+1) a hm.len) Ev.pure
 unfold FT
 simp only [List.forall_mem_cons,Ĩ,false_imp_iff,implies_true,and_true]
 refine⟨?_,?_,?_,?_,?_,?_,?_,?_,?_,?_,?_,?_,fact _ _ (by simp),fact _ _ (by simp),fact _ _ (by simp),fact _ _ (by simp),fact _ _ (by simp)⟩
 . refine op1 m fun a ha=>?_
   have:=in1 ha
   refine⟨Ev.const ?_,to1 (by show _<=-a/\-a<=_;omega)⟩
   show some (À (0-a))=some (-a)
   rw [A2 (by omega) (by omega)];congr 1;omega
 . refine op2 m fun a b ha hb=>⟨Ev.const ?_,OL _⟩
   show (DB a b).bind _=_
   rw [ZN a b (in1 ha) (in1 hb)];rfl
 . refine op2 m fun a b ha hb=>⟨Ev.const ?_,OL _⟩
   have:=in1 ha
   have:=in1 hb
   show (Di (À (a+b))).bind _=_
   rw [A2 (by omega) (by omega),Sw];rfl
 . refine op2 m fun a b ha hb=>⟨Ev.const ?_,Vy _ (in2 ha)⟩
   have:=in1 hb
   show (DC a b).bind _=_
   rw [Vx (by omega) (in2 ha)];rfl
 . refine op2 m fun a b ha hb=>⟨Ev.const ?_,OL _⟩
   have:=in1 ha
   have:=in1 hb
   show (Di (À (a-b))).bind _=_
   rw [A2 (by omega) (by omega),Sw];rfl
 . refine op2 m fun a b ha hb=>⟨Ev.const ?_,Vy _ (in2 ha)⟩
   have:=in1 hb
   show (DC a (À (0-b))).bind _=_
   rw [A2 (by omega) (by omega),Vx (by omega) (in2 ha),show (0:Int)-b = -b by omega];rfl
 . refine op2 m fun a b ha hb=>?_
   have:=in2 ha
   have:=in2 hb
   refine⟨Ev.const ?_,to1 (by show _<=a-b/\a-b<=_;omega)⟩
   show some (À (a-b))=some (a-b)
   rw [A2 (by omega) (by omega)]
 . refine op1 m fun a ha=>?_
   have:=in3 ha
   refine⟨Ev.const ?_,to3 (by show _<=1-a/\1-a<=_;omega)⟩
   show some (À (1-a))=some (1-a)
   rw [A2 (by omega) (by omega)]
 . refine op2 m fun a b ha hb=>?_
   have h1:a=0∨a=1:=by have:=in3 ha;omega
   have h2:b=0∨b=1:=by have:=in3 hb;omega
   refine⟨Ev.const ?_,?_⟩
   . show some (bits .and .i64 a b)=some (a*b)
     rw [(Afu (in3 ha) (in3 hb)).1]
   . show Jd 3 (a*b)
     rcases h1 with rfl|rfl<;>rcases h2 with rfl|rfl<;>decide
 . refine op2 m fun a b ha hb=>?_
   have h1:a=0∨a=1:=by have:=in3 ha;omega
   have h2:b=0∨b=1:=by have:=in3 hb;omega
   refine⟨Ev.const ?_,?_⟩
   . show some (bits .or .i64 a b)=some (max a b)
     rw [(Afu (in3 ha) (in3 hb)).2]
   . show Jd 3 (max a b)
     rcases h1 with rfl|rfl<;>rcases h2 with rfl|rfl<;>decide
 . refine op1 m fun a ha=>⟨Ev.const ?_,SX _⟩
   show (FK a).bind _=_
   rw [Acf];rfl
 . refine op1 m fun a ha=>⟨Ev.const ?_,Zv _⟩
   show some (if (if 1000<a then 1000 else a) > 0 then (if 1000<a then 1000 else a) else 0)=some (Rx a)
   unfold Rx
   congr 1
   repeat' split
   all_goals omega
theorem Age (m:Al)(i:Nat):∀ o∈Hm i,Uw m o:=by
 have cmp:∀ (op t:Int) (f:Nat),f=95∨f=96∨f=97∨f=98∨f=99∨f=100->Uw m ⟨op,⟨#[]⟩,[t,t],3,.is f⟩:=fun op t f hf=>op2 m fun a b _ _=>by
  rcases hf with rfl|rfl|rfl|rfl|rfl|rfl<;>exact⟨Ev.const (Abs _),Aek _⟩
 intro o ho
 unfold Hm at ho
 split at ho
 . rename_i op f e
   have hf:f=95∨f=96∨f=97∨f=98∨f=99∨f=100:=by
    grind [opk,List.mem_of_getElem?]
   unfold J4 at ho
   split at ho<;>simp at ho
   . rcases ho with rfl|rfl|rfl<;>exact cmp _ _ _ hf
   . rcases ho with rfl|rfl<;>exact cmp _ _ _ hf
 . simp at ho
theorem Ady (m:Al):∀ o∈OY,Uw m o:=by
 have ite:∀ t:Int,Uw m ⟨20,⟨#[]⟩,[3,t,t],t,.c 103⟩:=fun t=>op3 m fun a b c ha hb hc=>by
  have h1:a=0∨a=1:=by have:=in3 ha;omega
  rcases h1 with rfl|rfl
  . exact⟨Ev.const rfl,hc⟩
  . exact⟨Ev.const rfl,hb⟩
 have mn:∀ t:Int,Uw m ⟨4,⟨#[109,105,110]⟩,[t,t],t,.c 104⟩:=fun t=>op2 m fun a b ha hb=>by
  have e:U0 m (.c 104) [a,b]=min a b:=rfl
  rw [e]
  refine⟨Ev.const ?_,?_⟩
  . show some (if b<a then b else a)=some (min a b)
    congr 1
    split<;>omega
  . grind [OY]
 have mx:∀ t:Int,Uw m ⟨4,⟨#[109,97,120]⟩,[t,t],t,.c 105⟩:=fun t=>op2 m fun a b ha hb=>by
  have e:U0 m (.c 105) [a,b]=max a b:=rfl
  rw [e]
  refine⟨Ev.const ?_,?_⟩
  . show some (if b > a then b else a)=some (max a b)
    congr 1
    split<;>omega
  . grind [OY]
 unfold OY
 simp only [List.forall_mem_cons,Ĩ,false_imp_iff,implies_true,and_true]
 exact⟨ite 1,mn 1,mx 1,ite 2,mn 2,mx 2,ite 3,ite 4⟩
theorem Agb (m:Al)(hm:OkM m)(os:List Nat):∀ o∈opsOf os,Uw m o:=by
 grind [opsOf,Adz,Age,Ady]
theorem Tb {p x:Int}(h:x≠0):¬ (Um p x).2.2.E=0:=h
theorem Abz {op num at0:Int}{str:Â}{kids:List Aa}(h:(Bw (.mk op num str kids at0)).2.2.E=0) :
 ∃ ts,CA kids=.inl ts/\((op=1/\0<=num/\num<=999999999999999/\kids=[]/\Bw (.mk op num str kids at0)=(1,op0,⟨0,0⟩))
  ∨ (op=3/\(C5 CC str).2=true/\kids=[]/\Bw (.mk op num str kids at0)=((C5 CC str).1,op0,⟨0,0⟩))
  ∨ (op≠1/\op≠3/\∃ o,o∈Gg/\pick op str ts Gg=some o/\o.args=ts/\Bw (.mk op num str kids at0)=(o.kind,o,⟨0,0⟩))):=by
 rw [Bw] at h ⊢
 by_cases c:op<1∨20<op∨(0<=arity op/\(kids.length:Int)≠arity op)
 . rw [Ê c] at h;exact absurd h (Tb (by decide))
 rw [È c] at h ⊢
 cases ht:CA kids with
 |inr o =>
  rw [ht] at h
  exfalso
  have key:∀ (l:List Aa) (o:Int×Af×Am),CA l=.inr o->o.2.2.E≠0:=by
   intro l
   induction l with
   |nil=>intro o h;cases h
   |cons e l ih =>
    intro o h
    rw [CA] at h
    split at h
    . rename_i h1;cases h;exact h1
    . split at h
      . cases h
      . rename_i h2;cases h;exact ih _ h2
  exact key _ _ ht h
 |inl ts =>
  refine⟨ts,rfl,?_⟩
  rw [ht] at h
  simp only at h ⊢
  have a1:arity op=0->kids=[]:=fun ha=>by
   grind [arity,List.length_eq_zero_iff]
  by_cases h1:op=1
  . rw [Ê h1] at h ⊢
    split at h
    . exact absurd h (Tb (by decide))
    . rename_i h2
      rw [È h2]
      exact .inl ⟨h1,by omega,by omega,a1 (by subst h1;rfl),rfl⟩
  rw [È h1] at h ⊢
  by_cases h2:op=2
  . rw [Ê h2] at h;exact absurd h (Tb (by decide))
  rw [È h2] at h ⊢
  by_cases h3:op=3
  . rw [Ê h3] at h ⊢
    split at h
    . rename_i h4
      rw [Ê h4]
      exact .inr (.inl ⟨h3,h4,a1 (by subst h3;rfl),rfl⟩)
    . exact absurd h (Tb (by decide))
  rw [È h3] at h ⊢
  refine .inr (.inr ⟨h1,h3,?_⟩)
  unfold C4 at h ⊢
  cases hp:pick op str ts Gg with
  |some o =>
   have hp2:=hp
   unfold pick at hp2
   have m1:=List.mem_of_find?_eq_some hp2
   have m2:=List.find?_some hp2
   rw [Ã,Í] at m2
   exact⟨o,m1,rfl,m2.2,rfl⟩
  |none =>
   rw [hp] at h
   simp only at h
   split at h
   . exact absurd h (Tb (by decide))
   . split at h<;>exact absurd h (Tb (by decide))
mutual
def Xl (m:Al):Aa->Int
 |.mk op n s kids p =>
  if op=1 then n
  else if op=3 then (C5 [(⟨#[121,101,97,114]⟩,365),(⟨#[115,116,111,114,101,100]⟩,m.d.Stored),(⟨#[110,101,118,101,114]⟩,41667),(⟨#[111,119,110,101,114]⟩,m.d.Owner)] s).1
  else U0 m (Bw (.mk op n s kids p)).2.1.do_ (TO m kids)
def TO (m:Al):List Aa->List Int
 | []=>[]
 |e::l=>Xl m e::TO m l
end
theorem Ad3 (m:Al)(hm:OkM m)(s:Â)(h:(C5 CC s).2=true) :
 Jd (C5 CC s).1 (C5 [(⟨#[121,101,97,114]⟩,365),(⟨#[115,116,111,114,101,100]⟩,m.d.Stored),(⟨#[110,101,118,101,114]⟩,41667),(⟨#[111,119,110,101,114]⟩,m.d.Owner)] s).1:=by
 have h1:=hm.st
 have h2:=hm.ow
 all_goals grind [CC,C5,to1,MD,to4]
theorem Abi {m:Al}{d:Do}{xs:List Int}{v:Int}(h:Ev (fun n=>Gz n d m xs) v):gfn d=some d:=by
 obtain⟨n,h⟩:=h.get
 cases d with
 |nil=>cases h
 |_=>rfl
theorem U9 (s:Ba)(m:Al)(e:Aa)(hk:e.Kids.length<=1000000)(hf:∀ x∈e.Kids,Ev (fun n=>AE n s x m) (Xl m x)) :
 ∀ (r:List Aa) (k:Nat) (vs:List Int),e.Kids.drop k=r->k<=e.Kids.length->vs.length=k->Ev (fun n=>AS n e s m vs (k:Int)) (vs++TO m r)
 | [],k,vs,hr,hkl,_=>by
  have he:=LY hr hkl
  refine Ev.step (f:=fun n=>some vs) (fun n=>?_) ?_
  . rw [EV,show (decide ((k:Int)<(e.Kids.length:Int)))=false by rw [Ö];omega];rfl
  . rw [TO,ç];exact Ev.pure
 |x::r,k,vs,hr,hkl,hvs=>by
  obtain⟨h1,h2⟩:=He hr
  have hmem:x∈e.Kids:=ā (by rw [hr];simp)
  refine Ev.step (f:=fun n=>(AE n s x m).bind fun v=>AS n e s m (vs++[v]) ((k+1:Nat):Int)) (fun n=>?_) ?_
  . rw [EV,RE h2,É,RM hr,Á]
    congr 1
    funext v
    rw [Á,Afo (by omega) (by simp),Á,OR (by omega)]
  . refine Ev.bind (hf x hmem) ?_
    have ih:=U9 s m e hk hf r (k+1) (vs++[Xl m x]) h1 (by omega) (by simp [hvs])
    rw [TO]
    simpa [Ý] using ih
def Afx (os:List Nat)(m:Al)(e:Aa):Prop:=Ev (fun n=>AE n ⟨opsOf os,CC⟩ e m) (Xl m e)/\Jd (Bw e).1 (Xl m e)
theorem Ws {os:List Nat}(ho:Ord os)(m:Al)(hm:OkM m)(op num at0:Int)(str:Â)(kids:List Aa)(hs:Da (.mk op num str kids at0)=true)(ht:(Bw (.mk op num str kids at0)).2.2.E=0)
 (hkids:∀ ts,CA kids=.inl ts->RN ts (TO m kids)/\∀ x∈kids,Ev (fun n=>AE n ⟨opsOf os,CC⟩ x m) (Xl m x)):Afx os m (.mk op num str kids at0):=by
 have hfind:=TM ho _ hs
 have hs2:=hs
 rw [Da,Ã,Í] at hs2
 obtain⟨ts,h1,h2⟩:=Abz ht
 obtain⟨k1,k2⟩:=hkids ts h1
 rcases h2 with⟨rfl,n1,n2,_,hf⟩|⟨rfl,n1,_,hf⟩|⟨c1,c3,o,ho1,ho2,ho3,hf⟩
 . refine⟨?_,?_⟩
   . refine Ev.step (f:=fun n=>some num) (fun n=>?_) ?_
     . rw [DW];rfl
     . rw [Xl,Ê rfl];exact Ev.pure
   . rw [hf,Xl,Ê rfl];exact to1 ⟨by omega,n2⟩
 . refine⟨?_,?_⟩
   . refine Ev.step (f:=fun n=>some (Xl m (.mk 3 num str kids at0))) (fun n=>?_) Ev.pure
     rw [DW,Xl,È (by decide),Ê rfl];rfl
   . rw [hf,Xl,È (by decide),Ê rfl];exact Ad3 m hm str n1
 . have hop:=Agb m hm _ o ho1 (TO m kids) (by rw [ho3];exact k1)
   have hv:Xl m (.mk op num str kids at0)=U0 m o.do_ (TO m kids):=by rw [Xl,È c1,È c3,hf]
   refine⟨?_,?_⟩
   . have loop:=U9 ⟨opsOf os,CC⟩ m (.mk op num str kids at0) hs2.1 k2 kids 0 [] rfl (ú _) rfl
     refine Ev.step (f:=fun n=>(AS n (.mk op num str kids at0) ⟨opsOf os,CC⟩ m [] 0).bind fun x=>(A8 n ⟨opsOf os,CC⟩ (.mk op num str kids at0)).bind fun f=>(gfn f.2.1.do_).bind fun d=>(Gz n d m x).bind fun r1=>some r1) (fun n=>?_) ?_
     . grind [DW]
     . refine Ev.bind loop (Ev.bind hfind ?_)
       rw [hf,hv]
       simp only [ö,Abi hop.1,Á]
       exact Ev.bind hop.1 Ev.pure
   . rw [hf,hv];exact hop.2
mutual
theorem U8 {os:List Nat}(ho:Ord os)(m:Al)(hm:OkM m):∀ (e:Aa),Da e=true->(Bw e).2.2.E=0->Afx os m e
 |.mk op num str kids at0,hs,ht=>by
  refine Ws ho m hm op num at0 str kids hs ht fun ts hts=>?_
  rw [Da,Ã] at hs
  exact Sa ho m hm kids ts hs.2 hts
theorem Sa {os:List Nat}(ho:Ord os)(m:Al)(hm:OkM m):∀ (l:List Aa) (ts:List Int),GQ l=true->CA l=.inl ts->RN ts (TO m l)/\∀ x∈l,Ev (fun n=>AE n ⟨opsOf os,CC⟩ x m) (Xl m x)
 | [],ts,_,ht=>by
  rw [CA] at ht
  cases ht
  exact⟨trivial,fun x hx=>by simp at hx⟩
 |e::l,ts,hs,ht=>by
  rw [GQ,Ã] at hs
  rw [CA] at ht
  by_cases c:(Bw e).2.2.E=0
  . rw [È (by simpa using c)] at ht
    cases ht2:CA l with
    |inr o=>rw [ht2] at ht;cases ht
    |inl us =>
     rw [ht2] at ht
     cases ht
     obtain⟨g1,g2⟩:=U8 ho m hm e hs.1 c
     obtain⟨r1,r2⟩:=Sa ho m hm l us hs.2 ht2
     refine⟨⟨g2,r1⟩,fun x hx=>?_⟩
     rcases List.mem_cons.1 hx with hx|hx
     . rw [hx];exact g1
     . exact r2 x hx
  . rw [Ê c] at ht;cases ht
end
def Y8 (e:Aa)(m:Al):Option Int:=if Da e=true/\(Bw e).2.2.E=0/\WW m.d m.known=0 then some (Xl m e) else none
end Go.Sp
