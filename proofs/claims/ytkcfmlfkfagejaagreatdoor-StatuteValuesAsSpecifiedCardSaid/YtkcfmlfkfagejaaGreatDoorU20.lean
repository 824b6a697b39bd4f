/-
  Known, Last and products of the specification, in plain words. No program.
-/
import Derived.Test.YtkcfmlfkfagejaaGreatDoorU19
set_option linter.unusedVariables false
set_option linter.unusedSimpArgs false
namespace Go.Sp
open Go
set_option maxRecDepth 100000
theorem WV (f:Bl):((bif (decide (f.Kind<1)) then
 some true
 else
  bif (decide (5<f.Kind)) then
   some true
  else
   bif (decide (f.Who<1)) then
    some true
   else
    bif (decide (1000<f.Who)) then
     some true
    else
     bif (decide (f.Day<0)) then
      some true
     else
      bif (decide (41666<f.Day)) then
       some true
      else
       bif (decide (f.Known<0)) then
        some true
       else
        some (decide (41666<f.Known))
 ):Option Bool)=some (!okF f):=by
 unfold okF
 by_cases h1:f.Kind<1
 . rw [decide_eq_true h1];(try rw [cond_true]);congr 1;symm;rw [Bool.not_eq_true',decide_eq_false_iff_not];omega
 rw [decide_eq_false h1,cond_false]
 by_cases h2:5<f.Kind
 . rw [decide_eq_true h2];(try rw [cond_true]);congr 1;symm;rw [Bool.not_eq_true',decide_eq_false_iff_not];omega
 rw [decide_eq_false h2,cond_false]
 by_cases h3:f.Who<1
 . rw [decide_eq_true h3];(try rw [cond_true]);congr 1;symm;rw [Bool.not_eq_true',decide_eq_false_iff_not];omega
 rw [decide_eq_false h3,cond_false]
 by_cases h4:1000<f.Who
 . rw [decide_eq_true h4];(try rw [cond_true]);congr 1;symm;rw [Bool.not_eq_true',decide_eq_false_iff_not];omega
 rw [decide_eq_false h4,cond_false]
 by_cases h5:f.Day<0
 . rw [decide_eq_true h5];(try rw [cond_true]);congr 1;symm;rw [Bool.not_eq_true',decide_eq_false_iff_not];omega
 rw [decide_eq_false h5,cond_false]
 by_cases h6:41666<f.Day
 . rw [decide_eq_true h6];(try rw [cond_true]);congr 1;symm;rw [Bool.not_eq_true',decide_eq_false_iff_not];omega
 rw [decide_eq_false h6,cond_false]
 by_cases h7:f.Known<0
 . rw [decide_eq_true h7];(try rw [cond_true]);congr 1;symm;rw [Bool.not_eq_true',decide_eq_false_iff_not];omega
 rw [decide_eq_false h7,cond_false]
 by_cases h8:41666<f.Known
 . rw [decide_eq_true h8];(try rw [cond_true]);congr 1;symm;rw [Bool.not_eq_true',decide_eq_false_iff_not];omega
 . rw [decide_eq_false h8];congr 1;symm;rw [Bool.not_eq_false',decide_eq_true_eq];omega
theorem Ue (d:Au)(known:Int):((bif (decide (d.Stored<0)) then
 some true
 else
  bif (decide (41666<d.Stored)) then
   some true
  else
   bif (decide (known<0)) then
    some true
   else
    bif (decide (41666<known)) then
     some true
    else
     bif (decide (d.Owner<0)) then
      some true
     else
      some (decide (1000<d.Owner))
 ):Option Bool)=some (!decide (0<=d.Stored/\d.Stored<=41666/\0<=known/\known<=41666/\0<=d.Owner/\d.Owner<=1000)):=by
 by_cases h1:d.Stored<0
 . rw [decide_eq_true h1];(try rw [cond_true]);congr 1;symm;rw [Bool.not_eq_true',decide_eq_false_iff_not];omega
 rw [decide_eq_false h1,cond_false]
 by_cases h2:41666<d.Stored
 . rw [decide_eq_true h2];(try rw [cond_true]);congr 1;symm;rw [Bool.not_eq_true',decide_eq_false_iff_not];omega
 rw [decide_eq_false h2,cond_false]
 by_cases h3:known<0
 . rw [decide_eq_true h3];(try rw [cond_true]);congr 1;symm;rw [Bool.not_eq_true',decide_eq_false_iff_not];omega
 rw [decide_eq_false h3,cond_false]
 by_cases h4:41666<known
 . rw [decide_eq_true h4];(try rw [cond_true]);congr 1;symm;rw [Bool.not_eq_true',decide_eq_false_iff_not];omega
 rw [decide_eq_false h4,cond_false]
 by_cases h5:d.Owner<0
 . rw [decide_eq_true h5];(try rw [cond_true]);congr 1;symm;rw [Bool.not_eq_true',decide_eq_false_iff_not];omega
 rw [decide_eq_false h5,cond_false]
 by_cases h6:1000<d.Owner
 . rw [decide_eq_true h6];(try rw [cond_true]);congr 1;symm;rw [Bool.not_eq_true',decide_eq_false_iff_not];omega
 . rw [decide_eq_false h6];congr 1;symm;rw [Bool.not_eq_false',decide_eq_true_eq];omega
theorem Q0 (d:Au)(hl:d.Facts.length<=200):∀ (r:List Bl) (k:Nat),d.Facts.drop k=r->k<=d.Facts.length->Ev (fun n=>Bt n d (k:Int)) (if r.all okF=true then .inl () else .inr 1)
 | [],k,hr,hk=>by
  have he:=KK hr hk
  refine Ev.step (f:=fun n=>some (.inl ())) (fun n=>?_) Ev.pure
  rw [EK,show (decide ((k:Int)<(d.Facts.length:Int)))=false by rw [decide_eq_false_iff_not];omega];rfl
 |f::r,k,hr,hk=>by
  obtain⟨h1,h2⟩:=G5 hr
  have ih:=Q0 d hl r (k+1) h1 (by omega)
  have e:∀ n,Bt (n+1) d (k:Int)=bif !okF f then some (.inr 1) else Bt n d ((k+1:Nat):Int):=fun n=>by
   rw [EK,PK h2,cond_true,Rk hr,Option.bind_some,WV,Option.bind_some,P4 (by omega)]
  refine Ev.step e ?_
  cases hf:okF f with
  |true=>simp only [Bool.not_true,cond_false,List.all_cons,hf,Bool.true_and];exact ih
  |false=>simp only [Bool.not_false,cond_true,List.all_cons,hf,Bool.false_and,Bool.false_eq_true,if_false];exact Ev.pure
theorem K9 (d:Au)(known:Int):Ev (fun n=>C2 n d known) (DQ d known):=by
 unfold C2 DQ
 by_cases hl:200<d.Facts.length
 . rw [decide_eq_true (show (200:Int)<(d.Facts.length:Int) by omega),if_pos hl];exact Ev.pure
 . rw [decide_eq_false (show ¬ (200:Int)<(d.Facts.length:Int) by omega),if_neg hl]
   simp only [cond_false]
   refine Ev.bind (Q0 d (by omega) d.Facts 0 rfl (Nat.zero_le _)) ?_
   cases hf:d.Facts.all okF with
   |false=>simp only [Bool.false_eq_true,if_false,false_and];exact Ev.pure
   |true =>
    simp only [if_true,true_and,Ue,Option.bind_some]
    by_cases c:0<=d.Stored/\d.Stored<=41666/\0<=known/\known<=41666/\0<=d.Owner/\d.Owner<=1000
    . simp only [decide_eq_true c,if_pos c];exact Ev.pure
    . simp only [decide_eq_false c,if_neg c];exact Ev.pure
theorem Nu (d:Au):∀ (n:Nat) (k:Int),C9 n d k=Bt n d k
 |0,k=>rfl
 |n+1,k=>by
  rw [Lk,EK]
  simp only [Nu d n]
theorem Sm (n:Nat)(d:Au)(known:Int):Ej n d known=C2 n d known:=by
 unfold Ej C2
 simp only [Nu]
theorem IA (d:Au)(known:Int):Ev (fun n=>Ej n d known) (DQ d known):=by
 simp only [Sm];exact K9 d known
def Acd (b:Option Bl)(out best:Int):Prop:=match b with
 |none=>out=41667/\best = -1
 |some f=>out=f.Day/\best=f.Known
theorem OR (d:Au)(kind who known:Int)(hl:d.Facts.length<=200)(hF:∀ f∈d.Facts,okF f=true):∀ (r:List Bl) (k:Nat) (out best:Int) (b:Option Bl),d.Facts.drop k=r->k<=d.Facts.length->Acd b out best ->
 Ev (fun n=>B4 n d kind who known out best (k:Int)) (Y4 (Jf (VJ known kind who) r b))
 | [],k,out,best,b,hr,hk,hb=>by
  have he:=KK hr hk
  refine Ev.step (f:=fun n=>some out) (fun n=>?_) ?_
  . rw [Ig,show (decide ((k:Int)<(d.Facts.length:Int)))=false by rw [decide_eq_false_iff_not];omega];rfl
  . have:out=Y4 (Jf (VJ known kind who) [] b):=by
     unfold Jf
     cases b with
     |none=>exact hb.1
     |some f=>exact hb.1
    rw [<- this];exact Ev.pure
 |f::r,k,out,best,b,hr,hk,hb=>by
  obtain⟨h1,h2⟩:=G5 hr
  have hmem:f∈d.Facts:=List.mem_of_mem_drop (by rw [hr];simp)
  have hok:=hF f hmem
  unfold okF at hok
  rw [decide_eq_true_eq] at hok
  have hc:((bif (f.Kind == kind) then
   bif (f.Who == who) then
    bif (decide (f.Known<=known)) then
     some (decide (best<=f.Known))
    else
     some false
   else
    some false
   else
    some false
   ):Option Bool)=some (VJ known kind who f&&O9 b f):=by
   unfold VJ
   have:decide (best<=f.Known)=O9 b f:=by
    cases b with
    |none=>obtain⟨_,rfl⟩:=hb;exact decide_eq_true (by omega)
    |some g=>obtain⟨_,rfl⟩:=hb;rfl
   rw [this]
   cases (f.Kind == kind)<;>cases (f.Who == who)<;>cases (decide (f.Known<=known))<;>rfl
  have e:∀ n,B4 (n+1) d kind who known out best (k:Int)=bif (VJ known kind who f&&O9 b f) then B4 n d kind who known f.Day f.Known ((k+1:Nat):Int) else B4 n d kind who known out best ((k+1:Nat):Int):=fun n=>by
   rw [Ig,PK h2,cond_true,Rk hr,Option.bind_some,hc,Option.bind_some,P4 (by omega)]
  refine Ev.step e ?_
  unfold Jf
  cases hx:(VJ known kind who f&&O9 b f) with
  |true=>simp only [cond_true,if_true];exact OR d kind who known hl hF r (k+1) f.Day f.Known (some f) h1 (by omega) ⟨rfl,rfl⟩
  |false=>simp only [cond_false,Bool.false_eq_true,if_false];exact OR d kind who known hl hF r (k+1) out best b h1 (by omega) hb
theorem Mt (m:Ag)(hm:LS m)(kind who:Int):Ev (fun n=>CR n m.d m.known kind who) (Lt m kind who):=by
 unfold CR Lt
 exact Ev.bind (OR m.d kind who m.known hm.len hm.facts m.d.Facts 0 41667 (-1) none rfl (Nat.zero_le _) ⟨rfl,rfl⟩) Ev.pure
theorem Vd {a:Int}(h : -999999999999999<=a/\a<=999999999999999):(if (IntKind.i64.wrap (0-a)) > a then (IntKind.i64.wrap (0-a)) else a)=if a<0 then -a else a:=by
 rw [Ck (by omega) (by omega)]
 by_cases c:a<0
 . rw [if_pos (by omega),if_pos c];omega
 . rw [if_neg (by omega),if_neg c]
theorem TQ (a b:Int)(ha : -999999999999999<=a/\a<=999999999999999)(hb : -999999999999999<=b/\b<=999999999999999):Dg a b=some (Fp (a*b)):=by
 unfold Dg
 rw [Vd ha,Vd hb]
 by_cases a0:a=0
 . subst a0
   rw [Int.zero_mul];rfl
 by_cases b0:b=0
 . subst b0
   rw [Int.mul_zero,show (a == 0)=false by simpa using a0];rfl
 rw [show (a == 0)=false by simpa using a0,show (b == 0)=false by simpa using b0]
 simp only [cond_false,Option.bind_some]
 generalize hx:(if a<0 then -a else a)=x
 generalize hy:(if b<0 then -b else b)=y
 have x0:1<=x/\x<=999999999999999:=by split at hx<;>omega
 have y0:1<=y/\y<=999999999999999:=by split at hy<;>omega
 have hq:(999999999999999:Int).tdiv y=999999999999999 / y:=Int.tdiv_eq_ediv_of_nonneg (by decide)
 have hq1:0<=(999999999999999:Int) / y:=Int.ediv_nonneg (by decide) (by omega)
 have hq2:(999999999999999:Int) / y<=999999999999999:=Int.ediv_le_self _ (by decide)
 have hle:x<=999999999999999 / y↔x*y<=999999999999999:=Int.le_ediv_iff_mul_le (by omega)
 have hp:0<=x*y:=Int.mul_nonneg (by omega) (by omega)
 have hp1:1<=x*y:=by
  have:=Int.mul_le_mul x0.1 y0.1 (by decide) (by omega)
  simpa using this
 have hab:a*b=if (decide (a<0)) == (decide (b<0)) then x*y else -(x*y):=by
  by_cases c1:a<0<;>by_cases c2:b<0<;>simp only [c1,c2,if_true,if_false,decide_true,decide_false] at hx hy ⊢<;>subst hx<;>subst hy<;>simp [Int.neg_mul,Int.mul_neg]
 rw [hq,Ck (by omega) (by omega)]
 have hg:ZO y (999999999999999 / y)=some (999999999999999 / y):=by
  unfold ZO
  rw [if_pos (by omega)]
 rw [hg,Option.bind_some]
 rw [hab]
 obtain⟨p,hpd⟩:∃ p,p=x*y:=⟨_,rfl⟩
 rw [<- hpd] at hle hp hp1 ⊢
 have hn:((bif (decide (x<=999999999999999 / y)) then some (IntKind.i64.wrap p) else some 999999999999999):Option Int)=some (if p<=999999999999999 then p else 999999999999999):=by
  by_cases c:x<=999999999999999 / y
  . rw [decide_eq_true c,cond_true,if_pos (hle.1 c),Ck (by omega) (by have:=hle.1 c;omega)]
  . rw [decide_eq_false c,cond_false,if_neg (fun h=>c (hle.2 h))]
 rw [hn,Option.bind_some]
 have hs:((bif (decide (a<0)) then
  bif (decide (0<b)) then
   some true
  else
   bif (decide (0<a)) then
    some (decide (b<0))
   else
    some false
  else
   bif (decide (0<a)) then
    some (decide (b<0))
   else
    some false
  ):Option Bool)=some (!((decide (a<0)) == (decide (b<0)))):=by
  by_cases c1:a<0
  . by_cases c2:b<0
    . rw [decide_eq_true c1,decide_eq_true c2,decide_eq_false (show ¬ 0<b by omega),decide_eq_false (show ¬ 0<a by omega)];rfl
    . rw [decide_eq_true c1,decide_eq_false c2,decide_eq_true (show 0<b by omega)];rfl
  . rw [decide_eq_false c1,decide_eq_true (show 0<a by omega)]
    by_cases c2:b<0
    . rw [decide_eq_true c2];rfl
    . rw [decide_eq_false c2];rfl
 rw [hs,Option.bind_some]
 have hq:∃ q,(if p<=999999999999999 then p else 999999999999999)=q/\0<=q/\q<=999999999999999/\(p<=999999999999999->q=p)/\(999999999999999<p->q=999999999999999):=by
  refine⟨_,rfl,?_⟩
  split<;>omega
 obtain⟨q,hq,q1,q2,q3,q4⟩:=hq
 rw [hq]
 unfold Fp
 cases hc:(decide (a<0)) == (decide (b<0)) with
 |true =>
  rw [Bool.not_true,cond_false,if_pos rfl,if_neg (by omega)]
  congr 1
  by_cases c:999999999999999<p
  . rw [if_pos c];omega
  . rw [if_neg c];omega
 |false =>
  rw [Bool.not_false,cond_true,if_neg Bool.false_ne_true,Ck (by omega) (by omega)]
  congr 1
  by_cases c:999999999999999<p
  . rw [if_pos (by omega)];omega
  . rw [if_neg (by omega),if_neg (by omega)];omega
end Go.Sp
