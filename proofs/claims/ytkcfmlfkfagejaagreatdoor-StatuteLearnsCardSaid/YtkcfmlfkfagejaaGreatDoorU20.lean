/-
  Known, Last and products of the specification, in plain words. No program.
-/
import Derived.Test.YtkcfmlfkfagejaaGreatDoorU19
set_option linter.unusedVariables false
set_option linter.unusedSimpArgs false
namespace Go.Sp
open Go
set_option maxRecDepth 100000
theorem Uc (f:Az):((bif (decide (f.Kind<1)) then
 some true
 else
  bif (decide (5<f.Kind)) then
   some true
  else
   bif (decide (f.Who<1)) then
    some true
   else
    bif (decide (1000<f.Who)) then
     some true
    else
     bif (decide (f.Day<0)) then
      some true
     else
      bif (decide (41666<f.Day)) then
       some true
      else
       bif (decide (f.Known<0)) then
        some true
       else
        some (decide (41666<f.Known))
 ):Option Bool)=some (!okF f):=by
 unfold okF
 by_cases h1:f.Kind<1
 . rw [decide_eq_true h1];(try rw [cond_true]);congr 1;symm;rw [Bool.not_eq_true',decide_eq_false_iff_not];omega
 rw [decide_eq_false h1,cond_false]
 by_cases h2:5<f.Kind
 . rw [decide_eq_true h2];(try rw [cond_true]);congr 1;symm;rw [Bool.not_eq_true',decide_eq_false_iff_not];omega
 rw [decide_eq_false h2,cond_false]
 by_cases h3:f.Who<1
 . rw [decide_eq_true h3];(try rw [cond_true]);congr 1;symm;rw [Bool.not_eq_true',decide_eq_false_iff_not];omega
 rw [decide_eq_false h3,cond_false]
 by_cases h4:1000<f.Who
 . rw [decide_eq_true h4];(try rw [cond_true]);congr 1;symm;rw [Bool.not_eq_true',decide_eq_false_iff_not];omega
 rw [decide_eq_false h4,cond_false]
 by_cases h5:f.Day<0
 . rw [decide_eq_true h5];(try rw [cond_true]);congr 1;symm;rw [Bool.not_eq_true',decide_eq_false_iff_not];omega
 rw [decide_eq_false h5,cond_false]
 by_cases h6:41666<f.Day
 . rw [decide_eq_true h6];(try rw [cond_true]);congr 1;symm;rw [Bool.not_eq_true',decide_eq_false_iff_not];omega
 rw [decide_eq_false h6,cond_false]
 by_cases h7:f.Known<0
 . rw [decide_eq_true h7];(try rw [cond_true]);congr 1;symm;rw [Bool.not_eq_true',decide_eq_false_iff_not];omega
 rw [decide_eq_false h7,cond_false]
 by_cases h8:41666<f.Known
 . rw [decide_eq_true h8];(try rw [cond_true]);congr 1;symm;rw [Bool.not_eq_true',decide_eq_false_iff_not];omega
 . rw [decide_eq_false h8];congr 1;symm;rw [Bool.not_eq_false',decide_eq_true_eq];omega
theorem R4 (d:A1)(known:Int):((bif (decide (d.Stored<0)) then
 some true
 else
  bif (decide (41666<d.Stored)) then
   some true
  else
   bif (decide (known<0)) then
    some true
   else
    bif (decide (41666<known)) then
     some true
    else
     bif (decide (d.Owner<0)) then
      some true
     else
      some (decide (1000<d.Owner))
 ):Option Bool)=some (!decide (0<=d.Stored/\d.Stored<=41666/\0<=known/\known<=41666/\0<=d.Owner/\d.Owner<=1000)):=by
 by_cases h1:d.Stored<0
 . rw [decide_eq_true h1];(try rw [cond_true]);congr 1;symm;rw [Bool.not_eq_true',decide_eq_false_iff_not];omega
 rw [decide_eq_false h1,cond_false]
 by_cases h2:41666<d.Stored
 . rw [decide_eq_true h2];(try rw [cond_true]);congr 1;symm;rw [Bool.not_eq_true',decide_eq_false_iff_not];omega
 rw [decide_eq_false h2,cond_false]
 by_cases h3:known<0
 . rw [decide_eq_true h3];(try rw [cond_true]);congr 1;symm;rw [Bool.not_eq_true',decide_eq_false_iff_not];omega
 rw [decide_eq_false h3,cond_false]
 by_cases h4:41666<known
 . rw [decide_eq_true h4];(try rw [cond_true]);congr 1;symm;rw [Bool.not_eq_true',decide_eq_false_iff_not];omega
 rw [decide_eq_false h4,cond_false]
 by_cases h5:d.Owner<0
 . rw [decide_eq_true h5];(try rw [cond_true]);congr 1;symm;rw [Bool.not_eq_true',decide_eq_false_iff_not];omega
 rw [decide_eq_false h5,cond_false]
 by_cases h6:1000<d.Owner
 . rw [decide_eq_true h6];(try rw [cond_true]);congr 1;symm;rw [Bool.not_eq_true',decide_eq_false_iff_not];omega
 . rw [decide_eq_false h6];congr 1;symm;rw [Bool.not_eq_false',decide_eq_true_eq];omega
theorem O0 (d:A1)(hl:d.Facts.length<=200):∀ (r:List Az) (k:Nat),d.Facts.drop k=r->k<=d.Facts.length->Ev (fun n=>Bt n d (k:Int)) (if r.all okF=true then .inl () else .inr 1)
 | [],k,hr,hk=>by
  have he:=Ps hr hk
  refine Ev.step (f:=fun n=>some (.inl ())) (fun n=>?_) Ev.pure
  rw [Fy,show (decide ((k:Int)<(d.Facts.length:Int)))=false by rw [decide_eq_false_iff_not];omega];rfl
 |f::r,k,hr,hk=>by
  obtain⟨h1,h2⟩:=JT hr
  have ih:=O0 d hl r (k+1) h1 (by omega)
  have e:∀ n,Bt (n+1) d (k:Int)=bif !okF f then some (.inr 1) else Bt n d ((k+1:Nat):Int):=fun n=>by
   rw [Fy,QY h2,cond_true,Sq hr,Option.bind_some,Uc,Option.bind_some,RY (by omega)]
  refine Ev.step e ?_
  cases hf:okF f with
  |true=>simp only [Bool.not_true,cond_false,List.all_cons,hf,Bool.true_and];exact ih
  |false=>simp only [Bool.not_false,cond_true,List.all_cons,hf,Bool.false_and,Bool.false_eq_true,if_false];exact Ev.pure
theorem Na (d:A1)(known:Int):Ev (fun n=>BN n d known) (CC d known):=by
 unfold BN CC
 by_cases hl:200<d.Facts.length
 . rw [decide_eq_true (show (200:Int)<(d.Facts.length:Int) by omega),if_pos hl];exact Ev.pure
 . rw [decide_eq_false (show ¬ (200:Int)<(d.Facts.length:Int) by omega),if_neg hl]
   simp only [cond_false]
   refine Ev.bind (O0 d (by omega) d.Facts 0 rfl (Nat.zero_le _)) ?_
   cases hf:d.Facts.all okF with
   |false=>simp only [Bool.false_eq_true,if_false,false_and];exact Ev.pure
   |true =>
    simp only [if_true,true_and,R4,Option.bind_some]
    by_cases c:0<=d.Stored/\d.Stored<=41666/\0<=known/\known<=41666/\0<=d.Owner/\d.Owner<=1000
    . simp only [decide_eq_true c,if_pos c];exact Ev.pure
    . simp only [decide_eq_false c,if_neg c];exact Ev.pure
end Go.Sp
