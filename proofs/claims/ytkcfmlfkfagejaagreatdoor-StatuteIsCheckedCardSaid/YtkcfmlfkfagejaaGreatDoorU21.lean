/-
  The specification's values are those that value computes. No program. Few nodes, in plain words. No program. The examples of the documentation hold. No program. Value in plain words; StatuteIsTyped, the plain law. No program. Names: what the program and the specification call one. No program. Whether a clause of a list has a name. No program. Check, in plain words: the program's and the specification's. No program. Check of clauses: the program's and the specification's answer alike. No program. StatuteLearns, the plain law: later facts and the order of facts of different kinds or people do not change a value. No program. Compile in plain words. No program. Plain functions with fuel: what holds for all large fuel. The parser's small functions and the reference's. No program. The binary operator that a token is, in the program and in the reference. No program. The program's parser answers as the reference's: expressions. No program. The reference's parser answers: expressions. No program. The program's forms and the reference's: both answer, and alike. No program. What the reference reads is of a size that its comparison can go through: it is the same as itself. No program. The reference's comparison: what is of a fine size is the same as itself; and the forms that the reference reads are of such a size. No program. Forms and Expr answer as the reference does; the statement ParseMatchesSpec computes true. No program. Where what the reference reads stands: all offsets are those of tokens. No program. The reference's parser on two lists of tokens of which one holds the other, later by s, at a depth greater by c. No program. What is printed of an expression, in plain lists of tokens. No program. What the program's printer answers for names, texts, numbers, signs, and the level of an operation. No program. What the reference's parser reads in one list of tokens it reads in the other, too, or it is too deep there. No program. What is read of what is printed: the levels of operators, signs, parentheses. No program. What is printed of an expression is read as it, or is too deep. No program. What is printed of an expression is read as it, or is too deep: all operations. No program. What is printed of an expression is read as it, or is too deep: by induction. No program. What the program prints of an expression: the plain tokens; and whether it is right. No program. What is read of a source can be printed, at the depth at which it was read, with no longer text. No program. What is read of a source can be printed: expressions, by induction. No program. What is printed of forms is read as them, or is too deep, or too much. No program. What is printed of forms is read as them, or is too deep, or too much: whole forms. No program. What the program prints of forms: the plain tokens; and whether they are right. No program. What is read of a source can be printed: forms. No program. The program's comparison of expressions: it finds the same what is the same but for offsets. No program. What is read around an expression in parentheses: the levels of operators, a sign before it, a call of two. No program. The simulation for all large fuel; lists of tokens of which one stands in the other. No program.
-/
import Derived.KernelRfl
import Derived.Test.YtkcfmlfkfagejaaGreatDoorU11
import Derived.Test.YtkcfmlfkfagejaaGreatDoorU12
import Derived.Test.YtkcfmlfkfagejaaGreatDoorU16
import Derived.Test.YtkcfmlfkfagejaaGreatDoorU20
set_option linter.unusedVariables false
set_option linter.unusedSimpArgs false

namespace Go.Sp
open Go
def LY (c:Ao):Prop:=D6 c.From=true/\D6 c.To=true/\D6 c.When=true
end Go.Sp
namespace Go.Sp
open Go
set_option maxRecDepth 100000
theorem V5:Rh=some true:=by kernel_rfl
end Go.Sp
namespace Go.Sp
open Go
set_option maxRecDepth 100000
theorem RW {e:Ab}(h:D6 e=true):Gg e=some (BJ e):=by unfold Gg;rw [if_pos h]
end Go.Sp
namespace Go.Sp
open Go
def Es (c:Int):Bool:=decide ((97<=c/\c<=122)∨(65<=c/\c<=90)∨c=95)
def Eg (c:Int):Bool:=decide (48<=c/\c<=57)
def Kg (s:ByteArray):List Int:=s.data.toList.map fun b=>(b.toNat:Int)
def IZ (s:ByteArray):Bool:=decide (1<=s.size/\s.size<=32)&&(Kg s).all (fun c=>Es c||Eg c)&&!Eg ((Kg s).getD 0 0)
theorem O5 (s:ByteArray):(Kg s).length=s.size:=by
 unfold Kg
 rw [List.length_map];rfl
theorem Abp {s:ByteArray}{k:Nat}{x:Int}{r:List Int}(h:(Kg s).drop k=x::r):gb s (k:Int)=some x:=by
 obtain⟨_,h2⟩:=HH h
 rw [O5] at h2
 unfold gb
 rw [if_pos (by omega)]
 have h3:=RI h
 unfold gi at h3
 rw [if_pos (by omega)] at h3
 unfold Kg at h3
 rw [List.getElem?_map] at h3
 rw [Int.toNat_natCast] at h3 ⊢
 cases e:s.data.toList[k]? with
 |none=>rw [e] at h3;cases h3
 |some b =>
  rw [e] at h3
  rw [List.getD_eq_getElem?_getD,e]
  exact h3
theorem SY (c:Int):Dk c=some (!(Es c||Eg c)):=by
 unfold Dk Es Eg
 by_cases h1:97<=c<;>by_cases h2:c<=122<;>by_cases h3:65<=c<;>by_cases h4:c<=90<;>by_cases h5:c=95<;>by_cases h6:48<=c<;>by_cases h7:c<=57<;>(have h5b:=h5;rw [<- beq_iff_eq (a:=c) (b:=95)] at h5b;simp [h1,h2,h3,h4,h5,h6,h7,h5b])
theorem P6 (l:List Int)(hl:l.length<=1000000):∀ (r:List Int) (k:Nat),l.drop k=r->k<=l.length->∃ v,Ev (fun n=>AQ n l (k:Int)) v/\(match v with|.inl _=>r.all (fun c=>Es c||Eg c)=true|.inr i=>0<=i/\r.all (fun c=>Es c||Eg c)=false)
 | [],k,hr,hk=>by
  have he:=Mr hr hk
  refine⟨.inl (),Ev.step (f:=fun _=>some (.inl ())) (fun n=>?_) Ev.pure,rfl⟩
  rw [DQ,show (decide ((k:Int)<(l.length:Int)))=false by rw [decide_eq_false_iff_not];omega];rfl
 |x::r,k,hr,hk=>by
  obtain⟨h1,h2⟩:=HH hr
  have e:∀ n,AQ (n+1) l (k:Int)=bif !(Es x||Eg x) then some (.inr (k:Int)) else AQ n l ((k+1:Nat):Int):=fun n=>by
   rw [DQ,Sy h2,cond_true,RI hr,Option.bind_some,SY,Option.bind_some,Sz (by omega)]
  cases hx:(Es x||Eg x) with
  |false =>
   refine⟨.inr (k:Int),Ev.step e ?_,by omega,by rw [List.all_cons,hx];rfl⟩
   rw [hx];exact Ev.pure
  |true =>
   obtain⟨v,k1,k2⟩:=P6 l hl r (k+1) h1 (by omega)
   refine⟨v,Ev.step e ?_,?_⟩
   . rw [hx];exact k1
   . cases v with
     |inl _=>simp only at k2 ⊢;rw [List.all_cons,hx,k2];rfl
     |inr i=>simp only at k2 ⊢;rw [List.all_cons,hx,k2.2];exact⟨k2.1,rfl⟩
theorem Sg (l:List Int)(hl:l.length<=1000000):Ev (fun n=>Ce n l) (!(l.all fun c=>Es c||Eg c)):=by
 obtain⟨v,h1,h2⟩:=P6 l hl l 0 rfl (Nat.zero_le _)
 unfold Ce CU
 cases v with
 |inl _ =>
  have h2:l.all (fun c=>Es c||Eg c)=true:=h2
  rw [h2]
  exact Ev.bind (Ev.bind h1 Ev.pure) Ev.pure
 |inr i =>
  have h2:0<=i/\l.all (fun c=>Es c||Eg c)=false:=h2
  rw [h2.2]
  refine Ev.bind (Ev.bind h1 Ev.pure) ?_
  rw [decide_eq_true h2.1];exact Ev.pure
theorem UI (s:ByteArray):Ev (fun n=>DZ n s) (IZ s):=by
 unfold DZ IZ
 by_cases h0:s.size=0
 . have:s=⟨#[]⟩:=by
    cases s with
    |mk d=>congr 1;exact Array.eq_empty_of_size_eq_zero h0
   rw [decide_eq_true this,decide_eq_false (show ¬ (1<=s.size/\s.size<=32) by omega)]
   exact Ev.pure
 have hne:¬ s=⟨#[]⟩:=fun e=>h0 (by rw [e];rfl)
 rw [decide_eq_false hne]
 simp only [cond_false]
 by_cases h32:s.size<=32
 . rw [decide_eq_false (show ¬ (32:Int)<(s.size:Int) by omega),decide_eq_true (show 1<=s.size/\s.size<=32 by omega)]
   simp only [cond_false]
   have hl:=O5 s
   cases hb:Kg s with
   |nil=>rw [hb] at hl;simp at hl;omega
   |cons x r =>
    have hg:gb s 0=some x:=Abp (k:=0) hb
    have hd:(bif (decide (48<=x)) then some (decide (x<=57)) else some false:Option Bool)=some (Eg x):=by
     unfold Eg
     by_cases a1:48<=x
     . rw [decide_eq_true a1,cond_true];congr 1;rw [decide_eq_decide];omega
     . rw [decide_eq_false a1,cond_false];congr 1;symm;rw [decide_eq_false_iff_not];omega
    simp only [hg,Option.bind_some,hd]
    have hgb:Og s=some (x::r):=by
     unfold Og
     rw [if_pos (by omega)]
     exact congrArg some hb
    simp only [List.getD_cons_zero,Bool.true_and]
    cases hx:Eg x with
    |true=>simp only [cond_true,Bool.not_true,Bool.and_false];exact Ev.pure
    |false =>
     simp only [cond_false,hgb,Option.bind_some,Bool.not_false,Bool.and_true]
     refine Ev.bind (Sg (x::r) (by rw [<- hb,hl];omega)) ?_
     rw [Bool.not_not]
     exact Ev.pure
 . rw [decide_eq_true (show (32:Int)<(s.size:Int) by omega),decide_eq_false (show ¬ (1<=s.size/\s.size<=32) by omega)]
   exact Ev.pure
end Go.Sp
namespace Go.Sp
open Go
def Er (l:List Ao)(s:ByteArray):Bool:=l.any fun c=>decide (c.Name=s)
section
variable (c:ByteArray) (c1 c2 c3 c4 c5:Int) (c6:ByteArray) (c7:List Ab) (c8 c9 c10:Int) (c11:ByteArray) (c12:List Ab) (c13 c14 c15:Int) (c16:ByteArray) (c17:List Ab) (c18 c19:Int)
theorem Od (l:List Ao)(hl:l.length<=1000000):∀ (r:List Ao) (k:Nat),l.drop k=r->k<=l.length ->
 ∃ v,Ev (fun n=>AL n l c c1 c2 c3 c4 c5 c6 c7 c8 c9 c10 c11 c12 c13 c14 c15 c16 c17 c18 c19 (k:Int)) v/\(match v with|.inl _=>Er r c=false|.inr i=>0<=i/\Er r c=true)
 | [],k,hr,hk=>by
  have he:=Mr hr hk
  refine⟨.inl (),Ev.step (f:=fun _=>some (.inl ())) (fun n=>?_) Ev.pure,rfl⟩
  rw [Dy,show (decide ((k:Int)<(l.length:Int)))=false by rw [decide_eq_false_iff_not];omega];rfl
 |x::r,k,hr,hk=>by
  obtain⟨h1,h2⟩:=HH hr
  have e:∀ n,AL (n+1) l c c1 c2 c3 c4 c5 c6 c7 c8 c9 c10 c11 c12 c13 c14 c15 c16 c17 c18 c19 (k:Int)=bif decide (x.Name=c) then some (.inr (k:Int)) else AL n l c c1 c2 c3 c4 c5 c6 c7 c8 c9 c10 c11 c12 c13 c14 c15 c16 c17 c18 c19 ((k+1:Nat):Int):=fun n=>by
   rw [Dy,Sy h2,cond_true,RI hr,Option.bind_some]
   unfold Dm
   rw [Option.bind_some,Sz (by omega)]
  have hc:Er (x::r) c=(decide (x.Name=c)||Er r c):=by unfold Er;rw [List.any_cons]
  rw [hc]
  cases hx:(decide (x.Name=c)) with
  |true =>
   refine⟨.inr (k:Int),Ev.step e ?_,by omega,rfl⟩
   rw [hx];exact Ev.pure
  |false =>
   obtain⟨v,k1,k2⟩:=Od l hl r (k+1) h1 (by omega)
   refine⟨v,Ev.step e ?_,?_⟩
   . rw [hx];exact k1
   . rw [Bool.false_or];exact k2
theorem Q7 (l:List Ao)(hl:l.length<=1000000):Ev (fun n=>B1 n c c1 c2 c3 c4 c5 c6 c7 c8 c9 c10 c11 c12 c13 c14 c15 c16 c17 c18 c19 l) (Er l c):=by
 obtain⟨v,h1,h2⟩:=Od c c1 c2 c3 c4 c5 c6 c7 c8 c9 c10 c11 c12 c13 c14 c15 c16 c17 c18 c19 l hl l 0 rfl (Nat.zero_le _)
 unfold B1 CB
 cases v with
 |inl _ =>
  have h2:Er l c=false:=h2
  rw [h2]
  exact Ev.bind (Ev.bind h1 Ev.pure) Ev.pure
 |inr i =>
  have h2:0<=i/\Er l c=true:=h2
  rw [h2.2]
  refine Ev.bind (Ev.bind h1 Ev.pure) ?_
  rw [decide_eq_true h2.1];exact Ev.pure
end
end Go.Sp
namespace Go.Sp
open Go
set_option maxRecDepth 100000
def JU (x:Ao):Bool:=decide (x.Rank<0∨9<x.Rank∨x.Known<0∨41666<x.Known∨(x.Kind<3/\x.Houses≠0)∨(x.Kind=3/\(x.Houses<1∨4095<x.Houses)))
def Fx (e:Ab)(t:Int):Int:=if (BJ e).2.2.E≠0 then (BJ e).2.2.E else if (BJ e).1≠t then 7 else 0
def Ha (x:Ao):Int:=if Fx x.From 2≠0 then Fx x.From 2 else if Fx x.To 2≠0 then Fx x.To 2 else Fx x.When 3
def DU (l:List Ao)(x:Ao):Int :=
 if IZ x.Name=false then 6 else if Er l x.Name=true then 9 else if x.Kind<1∨3<x.Kind then 1 else if JU x=true then 3 else Ha x
theorem SJ (x:Ao)(hk:1<=x.Kind/\x.Kind<=3):((bif (decide (x.Rank<0)) then
 some true
 else
  bif (decide (9<x.Rank)) then
   some true
  else
   bif (decide (x.Known<0)) then
    some true
   else
    bif (decide (41666<x.Known)) then
     some true
    else
     bif (!(x.Kind == 3)) then
      bif (x.Houses != 0) then
       some true
      else
       bif (x.Kind == 3) then
        bif (decide (x.Houses<1)) then
         some true
        else
         some (decide (4096<=x.Houses))
       else
        some false
     else
      bif (x.Kind == 3) then
       bif (decide (x.Houses<1)) then
        some true
       else
        some (decide (4096<=x.Houses))
      else
       some false
 ):Option Bool)=some (JU x):=by
 unfold JU
 by_cases h1:x.Rank<0
 . simp [h1]
 by_cases h2:9<x.Rank
 . simp [h1,h2]
 by_cases h3:x.Known<0
 . simp [h1,h2,h3]
 by_cases h4:41666<x.Known
 . simp [h1,h2,h3,h4]
 by_cases h5:x.Kind=3
 . by_cases h6:x.Houses<1
   . simp [h1,h2,h3,h4,h5,h6]
   . have:(4096<=x.Houses)↔(4095<x.Houses):=by omega
     simp [h1,h2,h3,h4,h5,h6,this]
 . have h7:x.Kind<3:=by omega
   have b:(x.Kind == 3)=false:=by simpa using h5
   by_cases h6:x.Houses=0
   . simp [h1,h2,h3,h4,h5,h6,h7,b]
   . have b2:(x.Houses != 0)=true:=by simpa using h6
     simp [h1,h2,h3,h4,h5,h6,h7,b,b2]
theorem LP {n:Nat}{e:Ab}{t:Int}(hs:D6 e=true)(r:Option (Unit ⊕ Int)):((Gg e).bind fun f=>bif (f.2.2.E != 0) then some (.inr f.2.2.E) else bif (f.1 != t) then some (.inr 7) else r)=if Fx e t≠0 then some (.inr (Fx e t)) else r:=by
 rw [RW hs,Option.bind_some]
 unfold Fx
 by_cases c:(BJ e).2.2.E=0
 . rw [show ((BJ e).2.2.E != 0)=false by simpa using c,cond_false,if_neg (show ¬ (BJ e).2.2.E≠0 by simpa using c)]
   by_cases c2:(BJ e).1=t
   . rw [show ((BJ e).1 != t)=false by simpa using c2,if_neg (show ¬ (BJ e).1≠t by simpa using c2)];rfl
   . rw [show ((BJ e).1 != t)=true by simpa using c2,if_pos c2];rfl
 . rw [show ((BJ e).2.2.E != 0)=true by simpa using c,if_pos (show (BJ e).2.2.E≠0 from c),if_pos (show (BJ e).2.2.E≠0 from c)];rfl
theorem S7 (x:Ao)(hs:LY x)(n:Nat):AH (n+4) x 0=if Ha x=0 then some (.inl ()) else some (.inr (Ha x)):=by
 obtain⟨s1,s2,s3⟩:=hs
 have e3:AH (n+1) x 3=some (.inl ()):=by rw [Dt];rfl
 have e2:AH (n+2) x 2=if Fx x.When 3≠0 then some (.inr (Fx x.When 3)) else some (.inl ()):=by
  rw [Dt,<- e3,<- LP (n:=n) (t:=3) s3];rfl
 have e1:AH (n+3) x 1=if Fx x.To 2≠0 then some (.inr (Fx x.To 2)) else AH (n+2) x 2:=by
  rw [Dt,<- LP (n:=n) (t:=2) s2];rfl
 have e0:AH (n+4) x 0=if Fx x.From 2≠0 then some (.inr (Fx x.From 2)) else AH (n+3) x 1:=by
  rw [Dt,<- LP (n:=n) (t:=2) s1];rfl
 rw [e0,e1,e2]
 unfold Ha
 by_cases a:Fx x.From 2=0
 . by_cases b:Fx x.To 2=0
   . by_cases c:Fx x.When 3=0
     . simp [a,b,c]
     . simp [a,b,c]
   . simp [a,b]
 . simp [a]
end Go.Sp
namespace Go.Sp
open Go
set_option maxRecDepth 100000
def FL (l:List Ao):List Ao->Nat->Int
 | [],_=>0
 |x::r,k=>if DU (l.take k) x≠0 then DU (l.take k) x else FL l r (k+1)
def Q8 (l:List Ao):Int:=if 40<l.length then 2 else FL l l 0
def VF (e:Int):Unit ⊕ Int:=if e=0 then .inl () else .inr e
theorem Acg {l:List Ao}{k:Nat}(h:k<=l.length):Uc l 0 (k:Int)=some (l.take k):=by
 unfold Uc
 rw [if_pos (by omega)];simp
theorem UG (x:Ao):((bif (decide (x.Kind<1)) then some true else some (decide (3<x.Kind))):Option Bool)=some (decide (x.Kind<1∨3<x.Kind)):=by
 by_cases h:x.Kind<1
 . simp [h]
 . simp [h]
theorem Ab0 {e:Int}:(if e=0 then (.inl ():Unit ⊕ Int) else .inr e)=VF e:=rfl
theorem Ro (l:List Ao)(hl:l.length<=40)(hs:∀ c∈l,LY c):∀ (r:List Ao) (k:Nat),l.drop k=r->k<=l.length->Ev (fun n=>Cv n l (k:Int)) (VF (FL l r k))
 | [],k,hr,hk=>by
  have he:=Mr hr hk
  refine Ev.step (f:=fun _=>some (.inl ())) (fun n=>?_) Ev.pure
  rw [Gn,show (decide ((k:Int)<(l.length:Int)))=false by rw [decide_eq_false_iff_not];omega];rfl
 |x::r,k,hr,hk=>by
  obtain⟨h1,h2⟩:=HH hr
  have hmem:x∈l:=List.mem_of_mem_drop (by rw [hr];simp)
  have ih:=Ro l hl hs r (k+1) h1 (by omega)
  refine Ev.step (fun n=>Gn n l (k:Int)) ?_
  simp only [Sy h2,cond_true,RI hr,Option.bind_some,Acg hk,UG,Sz (show k<4611686018427387904 by omega)]
  rw [FL]
  refine Ev.bind (UI x.Name) ?_
  cases hn:IZ x.Name with
  |false =>
   have:DU (l.take k) x=6:=by unfold DU;rw [if_pos hn]
   rw [this,if_pos (by decide)]
   exact Ev.pure
  |true =>
   simp only [Bool.not_true,cond_false]
   refine Ev.bind (Q7 _ _ _ _ _ _ _ _ _ _ _ _ _ _ _ _ _ _ _ _ (l.take k) (by rw [List.length_take];omega)) ?_
   cases hm:Er (l.take k) x.Name with
   |true =>
    have:DU (l.take k) x=9:=by unfold DU;rw [if_neg (by rw [hn];simp),if_pos hm]
    rw [this,if_pos (by decide)]
    exact Ev.pure
   |false =>
    simp only [cond_false]
    by_cases hkd:x.Kind<1∨3<x.Kind
    . have:DU (l.take k) x=1:=by unfold DU;rw [if_neg (by rw [hn];simp),if_neg (by rw [hm];simp),if_pos hkd]
      rw [this,if_pos (by decide),decide_eq_true hkd]
      exact Ev.pure
    . rw [decide_eq_false hkd]
      simp only [cond_false,SJ x (by omega),Option.bind_some]
      cases hrg:JU x with
      |true =>
       have:DU (l.take k) x=3:=by unfold DU;rw [if_neg (by rw [hn];simp),if_neg (by rw [hm];simp),if_neg hkd,if_pos hrg]
       rw [this,if_pos (by decide)]
       exact Ev.pure
      |false =>
       have hce:DU (l.take k) x=Ha x:=by unfold DU;rw [if_neg (by rw [hn];simp),if_neg (by rw [hm];simp),if_neg hkd,if_neg (by rw [hrg];simp)]
       rw [hce]
       simp only [cond_false]
       have hw:∀ n,DB x.Name x.Kind x.Rank x.Known x.From.Op x.From.N x.From.S x.From.Kids x.From.At x.To.Op x.To.N x.To.S x.To.Kids x.To.At x.When.Op x.When.N x.When.S x.When.Kids x.When.At x.Houses=some n:=fun n=>rfl
       simp only [hw (),Option.bind_some]
       have ht:Ev (fun n=>AH n x 0) (if Ha x=0 then .inl () else .inr (Ha x)):=⟨4,fun n hn=>by
        obtain⟨m,rfl⟩:∃ m,n=m+4:=⟨n-4,by omega⟩
        show AH (m+4) x 0=_
        rw [S7 x (hs x hmem) m];split<;>rfl⟩
       refine Ev.bind ht ?_
       by_cases c:Ha x=0
       . rw [if_pos c,if_neg (show ¬ Ha x≠0 by simpa using c)]
         exact ih
       . rw [if_neg c,if_pos c]
         have:VF (Ha x)=.inr (Ha x):=by unfold VF;rw [if_neg c]
         rw [this]
         exact Ev.pure
theorem WB (l:List Ao)(hs:∀ c∈l,LY c):Ev (fun n=>Dh n l) (Q8 l):=by
 unfold Dh Q8
 by_cases h:40<l.length
 . rw [decide_eq_true (show (40:Int)<(l.length:Int) by omega),if_pos h];exact Ev.pure
 . rw [decide_eq_false (show ¬ (40:Int)<(l.length:Int) by omega),if_neg h]
   simp only [cond_false,Option.bind_some]
   refine Ev.bind (Ro l (by omega) hs l 0 rfl (Nat.zero_le _)) ?_
   unfold VF
   by_cases c:FL l l 0=0
   . rw [if_pos c,c];exact Ev.pure
   . rw [if_neg c];exact Ev.pure
end Go.Sp
namespace Go.Sp
open Go
set_option maxRecDepth 100000
theorem Abq {α:Type}{b:Nat}{x y:List α}(h:(x.length+y.length)*b<=140737488355328):Cp b x y=some (x++y):=by unfold Cp;rw [if_pos h]
end Go.Sp
namespace Go.Sp
open Go
set_option maxRecDepth 100000
def Pa:ByteArray:=⟨#[107,101,101,112]⟩
def Pb:ByteArray:=⟨#[100,114,111,112]⟩
def LQ:ByteArray:=⟨#[112,108,97,99,101]⟩
def FJ (w:ByteArray):Int:=if w=Pa then 1 else if w=Pb then 2 else if w=LQ then 3 else 0
def SZ (v:ByteArray):List ByteArray->Nat->Unit ⊕ Int
 | [],_=>.inl ()
 |x::r,k=>if v=x then .inr (k:Int) else SZ v r (k+1)
theorem TZ (s:List ByteArray)(v:ByteArray)(hl:s.length<=1000000):∀ (r:List ByteArray) (k:Nat),s.drop k=r->k<=s.length->Ev (fun n=>BV n s v (k:Int)) (SZ v r k)
 | [],k,hr,hk=>by
  have he:=Mr hr hk
  refine Ev.step (f:=fun _=>some (.inl ())) (fun n=>?_) Ev.pure
  rw [FE,show (decide ((k:Int)<(s.length:Int)))=false by rw [decide_eq_false_iff_not];omega];rfl
 |x::r,k,hr,hk=>by
  obtain⟨h1,h2⟩:=HH hr
  have ih:=TZ s v hl r (k+1) h1 (by omega)
  refine Ev.step (fun n=>FE n s v (k:Int)) ?_
  simp only [Sy h2,cond_true,RI hr,Option.bind_some,Sz (show k<4611686018427387904 by omega)]
  rw [SZ]
  by_cases c:v=x
  . rw [decide_eq_true c,if_pos c];exact Ev.pure
  . rw [decide_eq_false c,if_neg c];exact ih
theorem XN (w:ByteArray):Ev (fun n=>Ew n [Pa,Pb,LQ] w) (FJ w-1):=by
 unfold Ew
 refine Ev.bind (TZ [Pa,Pb,LQ] w (by simp) [Pa,Pb,LQ] 0 rfl (Nat.zero_le _)) ?_
 rw [SZ,SZ,SZ,SZ]
 unfold FJ
 by_cases c1:w=Pa
 . rw [if_pos c1,if_pos c1];exact Ev.pure
 rw [if_neg c1,if_neg c1]
 by_cases c2:w=Pb
 . rw [if_pos c2,if_pos c2];exact Ev.pure
 rw [if_neg c2,if_neg c2]
 by_cases c3:w=LQ
 . rw [if_pos c3,if_pos c3];exact Ev.pure
 rw [if_neg c3,if_neg c3];exact Ev.pure
theorem NZ (w:ByteArray):0<=FJ w/\FJ w<=3:=by unfold FJ;split<;>(try split)<;>(try split)<;>omega
def EK (k:Int):List Int:=if k=3 then [1,2,2,5,5,5,4,2] else [1,2,2,5,5,5]
theorem Kk (k:Int):(EK k).length=if k=3 then 8 else 6:=by unfold EK;split<;>rfl
def I3 (want:List Int)(i:Nat):Int:=want.getD (if want.length-1<i then want.length-1 else i) 0
def GL (want:List Int):List Aw->Nat->Bool
 | [],_=>true
 |a::r,i=>decide (a.Kind=I3 want i)&&GL want r (i+1)
def FT (f:Aj):Int×Bool :=
 if FJ f.Word=0∨0<f.Body.length∨f.Args.length<(EK (FJ f.Word)).length∨(FJ f.Word≠3/\(EK (FJ f.Word)).length<f.Args.length) then (0,false)
 else if GL (EK (FJ f.Word)) f.Args 0=true then (FJ f.Word,true) else (0,false)
theorem Xg {want:List Int}(h:0<want.length)(hl:want.length<=100)(i:Nat)(hi:i<=1000000):gi want (if (IntKind.i64.wrap ((want.length:Int)-1))<(i:Int) then (IntKind.i64.wrap ((want.length:Int)-1)) else (i:Int))=some (I3 want i):=by
 rw [AJ (by omega) (by omega)]
 unfold I3
 have key:∀ j:Nat,j<want.length->gi want (j:Int)=some (want.getD j 0):=fun j hj=>by
  unfold gi
  rw [if_pos (by omega),Int.toNat_natCast,List.getElem?_eq_getElem hj,List.getD_eq_getElem?_getD,List.getElem?_eq_getElem hj];rfl
 by_cases c:want.length-1<i
 . rw [if_pos c,if_pos (by omega),show ((want.length:Int)-1)=((want.length-1:Nat):Int) by omega]
   exact key _ (by omega)
 . rw [if_neg c,if_neg (by omega)]
   exact key _ (by omega)
theorem Pk (f:Aj)(want:List Int)(h0:0<want.length)(h1:want.length<=100)(hl:f.Args.length<=1000000):∀ (r:List Aw) (k:Nat),f.Args.drop k=r->k<=f.Args.length ->
 Ev (fun n=>Ck n f want (k:Int)) (if GL want r k=true then .inl () else .inr (0,false))
 | [],k,hr,hk=>by
  have he:=Mr hr hk
  refine Ev.step (f:=fun _=>some (.inl ())) (fun n=>?_) (by rw [GL,if_pos rfl];exact Ev.pure)
  rw [FR,show (decide ((k:Int)<(f.Args.length:Int)))=false by rw [decide_eq_false_iff_not];omega];rfl
 |x::r,k,hr,hk=>by
  obtain⟨h2,h3⟩:=HH hr
  have ih:=Pk f want h0 h1 hl r (k+1) h2 (by omega)
  refine Ev.step (fun n=>FR n f want (k:Int)) ?_
  simp only [Sy h3,cond_true,RI hr,Option.bind_some,Xg h0 h1 k (by omega),Sz (show k<4611686018427387904 by omega)]
  rw [GL]
  by_cases c:x.Kind=I3 want k
  . rw [show (x.Kind != I3 want k)=false by simpa using c,decide_eq_true c]
    simp only [cond_false,Bool.true_and]
    exact ih
  . rw [show (x.Kind != I3 want k)=true by simpa using c,decide_eq_false c]
    simp only [cond_true,Bool.false_and,Bool.false_eq_true,if_false]
    exact Ev.pure
theorem Uy (f:Aj)(hl:f.Args.length<=1000000)(hb:f.Body.length<=4611686018427387904):Ev (fun n=>DX n f) (FT f):=by
 unfold DX
 rw [show F1=some (⟨#[]⟩,Pa,Pb,LQ) from rfl]
 simp only [Option.bind_some]
 refine Ev.bind (XN f.Word) ?_
 have hk:=NZ f.Word
 generalize hkd:FJ f.Word=K at hk
 rw [AJ (by omega) (by omega),show K-1+1=K by omega]
 have hw:((bif (K == 3) then (Cp 9 [1,2,2,5,5,5] [4,2]).bind fun l3=>some l3 else some [1,2,2,5,5,5]):Option (List Int))=some (EK K):=by
  unfold EK
  by_cases c:K=3
  . rw [show (K == 3)=true by simpa using c,if_pos c];rfl
  . rw [show (K == 3)=false by simpa using c,if_neg c];rfl
 rw [hw]
 simp only [Option.bind_some]
 have hwl:=Kk K
 have hb2:((bif (K == 0) then some true else bif (decide (0<(f.Body.length:Int))) then some true else bif (decide ((f.Args.length:Int)<((EK K).length:Int))) then some true else bif (K != 3) then some (decide (((EK K).length:Int)<(f.Args.length:Int))) else some false):Option Bool)
  = some (decide (K=0∨0<f.Body.length∨f.Args.length<(EK K).length∨(K≠3/\(EK K).length<f.Args.length))):=by
  have e1:decide ((0:Int)<(f.Body.length:Int))=decide (0<f.Body.length):=by simp
  have e2:decide ((f.Args.length:Int)<((EK K).length:Int))=decide (f.Args.length<(EK K).length):=by simp
  have e3:decide (((EK K).length:Int)<(f.Args.length:Int))=decide ((EK K).length<f.Args.length):=by simp
  rw [e1,e2,e3]
  generalize f.Body.length=B
  generalize (EK K).length=W
  generalize f.Args.length=A
  by_cases c1:K=0
  . simp [c1]
  by_cases c2:0<B
  . simp [c1,c2]
  by_cases c3:A<W
  . simp [c1,c2,c3]
  by_cases c4:K=3
  . simp [c2,c3,c4]
  . simp [c1,c2,c3,c4]
    rw [show (K == 0)=false by simpa using c1,show (K != 3)=true by simpa using c4];rfl
 rw [hb2]
 simp only [Option.bind_some]
 unfold FT
 rw [hkd]
 by_cases c:K=0∨0<f.Body.length∨f.Args.length<(EK K).length∨(K≠3/\(EK K).length<f.Args.length)
 . rw [decide_eq_true c,if_pos c];exact Ev.pure
 rw [decide_eq_false c,if_neg c]
 simp only [cond_false]
 refine Ev.bind (Pk f (EK K) (by rw [hwl];split<;>omega) (by rw [hwl];split<;>omega) hl f.Args 0 rfl (Nat.zero_le _)) ?_
 by_cases c2:GL (EK K) f.Args 0=true
 . rw [if_pos c2,if_pos c2];exact Ev.pure
 . rw [if_neg c2,if_neg c2];exact Ev.pure
theorem R4 (a0:Aw)(ags:List Aw)(q q1 p p1:Int)(w:ByteArray)(b:List Aj)(i:Int)(l:List Ao)(hl:l.length<=1000000):∀ (r:List Ao) (k:Nat),l.drop k=r->k<=l.length ->
 ∃ v,Ev (fun n=>Ba n l q q1 p p1 w (a0::ags) b i (k:Int)) v/\(match v with|.inl _=>Er r a0.S=false|.inr j=>Er r a0.S=true/\0<=j)
 | [],k,hr,hk=>by
  have he:=Mr hr hk
  refine⟨.inl (),Ev.step (f:=fun _=>some (.inl ())) (fun n=>?_) Ev.pure,rfl⟩
  rw [Ct,show (decide ((k:Int)<(l.length:Int)))=false by rw [decide_eq_false_iff_not];omega];rfl
 |x::r,k,hr,hk=>by
  obtain⟨h1,h2⟩:=HH hr
  have hc:∀ n:Nat,CC q q1 p p1 w (a0::ags) b i x=some (decide (x.Name=a0.S)):=fun _=>rfl
  by_cases c:x.Name=a0.S
  . refine⟨.inr (k:Int),Ev.step (fun n=>Ct n l q q1 p p1 w (a0::ags) b i (k:Int)) ?_,?_,by omega⟩
    . simp only [Sy h2,cond_true,RI hr,Option.bind_some,hc 0,decide_eq_true c]
      exact Ev.pure
    . unfold Er;rw [List.any_cons,decide_eq_true c];rfl
  . obtain⟨v,h3,h4⟩:=R4 a0 ags q q1 p p1 w b i l hl r (k+1) h1 (by omega)
    refine⟨v,Ev.step (fun n=>Ct n l q q1 p p1 w (a0::ags) b i (k:Int)) ?_,?_⟩
    . simp only [Sy h2,cond_true,RI hr,Option.bind_some,hc 0,decide_eq_false c,cond_false,Sz (show k<4611686018427387904 by omega)]
      exact h3
    . have e:Er (x::r) a0.S=Er r a0.S:=by unfold Er;rw [List.any_cons,decide_eq_false c,Bool.false_or]
      rw [e];exact h4
theorem VS (a0:Aw)(ags:List Aw)(q q1 p p1:Int)(w:ByteArray)(b:List Aj)(i:Int)(l:List Ao)(hl:l.length<=1000000) :
 Ev (fun n=>B2 n q q1 p p1 w (a0::ags) b i l) (Er l a0.S):=by
 obtain⟨v,h1,h2⟩:=R4 a0 ags q q1 p p1 w b i l hl l 0 rfl (Nat.zero_le _)
 unfold B2 C3
 cases v with
 |inl u =>
  simp only at h2
  refine Ev.bind (a:=-1) (Ev.bind h1 Ev.pure) ?_
  rw [h2];exact Ev.pure
 |inr o =>
  simp only at h2
  refine Ev.bind (a:=o) (Ev.bind h1 Ev.pure) ?_
  rw [h2.1]
  show Ev (fun _=>some (decide (0<=o))) true
  rw [decide_eq_true h2.2];exact Ev.pure
def OO (i:Nat)(x last:Int):Bool:=decide ((i=1/\(x<0∨9<x))∨(i=2/\(x<0∨41666<x))∨(6<i/\(x<=last∨12<=x)))
def Nw (c x:Int):Int:=bits .or .i64 c (IntKind.i64.wrap (1*2 ^ min x.toNat IntKind.i64.bits))
def Fg:List Aw->Nat->Int->Int->Int ⊕ Int
 | [],_,_,c=>.inl c
 |a::r,i,last,c=>if OO i a.N last=true then .inr a.At else if 6<i then Fg r (i+1) a.N (Nw c a.N) else Fg r (i+1) last c
theorem rangeLoop (f:Aj)(hl:f.Args.length<=1000000):∀ (r:List Aw) (k:Nat) (last c:Int),f.Args.drop k=r->k<=f.Args.length->-1<=last ->
 Ev (fun n=>By n f (k:Int) last c) (match Fg r k last c with|.inl h=>.inl h|.inr p=>.inr ([],⟨p,3⟩))
 | [],k,last,c,hr,hk,hla=>by
  have he:=Mr hr hk
  refine Ev.step (f:=fun _=>some (.inl c)) (fun n=>?_) (by rw [Fg];exact Ev.pure)
  rw [FC,show (decide ((k:Int)<(f.Args.length:Int)))=false by rw [decide_eq_false_iff_not];omega];rfl
 |x::r,k,last,c,hr,hk,hla=>by
  obtain⟨h1,h2⟩:=HH hr
  refine Ev.step (fun n=>FC n f (k:Int) last c) ?_
  have hc6:decide (6<(k:Int))=decide (6<k):=by
   by_cases h:6<k
   . rw [decide_eq_true h,decide_eq_true (by omega)]
   . rw [decide_eq_false h,decide_eq_false (by omega)]
  have ho:∀ (b6:Bool),b6=decide (6<k)->((bif ((k:Int) == 1) then
   bif (decide (x.N<0)) then some true
   else bif (decide (9<x.N)) then some true
    else bif ((k:Int) == 2) then
     bif (decide (x.N<0)) then some true
     else bif (decide (41666<x.N)) then some true
      else bif b6 then bif (decide (x.N<=last)) then some true else some (decide (12<=x.N))
       else some false
     else bif b6 then bif (decide (x.N<=last)) then some true else some (decide (12<=x.N))
      else some false
   else bif ((k:Int) == 2) then
    bif (decide (x.N<0)) then some true
    else bif (decide (41666<x.N)) then some true
     else bif b6 then bif (decide (x.N<=last)) then some true else some (decide (12<=x.N))
      else some false
    else bif b6 then bif (decide (x.N<=last)) then some true else some (decide (12<=x.N))
     else some false):Option Bool)=some (OO k x.N last):=by
   intro b6 hb
   unfold OO
   by_cases k1:k=1
   . subst k1
     have e6:b6=false:=by rw [hb];decide
     subst e6
     simp only [show (((1:Nat):Int) == 1)=true by decide,show (((1:Nat):Int) == 2)=false by decide,cond_true,cond_false]
     by_cases a1:x.N<0
     . simp [a1]
     . by_cases a2:9<x.N
       . simp [a1,a2]
       . simp [a1,a2]
   by_cases k2:k=2
   . subst k2
     have e6:b6=false:=by rw [hb];decide
     subst e6
     simp only [show (((2:Nat):Int) == 1)=false by decide,show (((2:Nat):Int) == 2)=true by decide,cond_true,cond_false]
     by_cases a1:x.N<0
     . simp [a1]
     . by_cases a2:41666<x.N
       . simp [a1,a2]
       . simp [a1,a2]
   rw [show ((k:Int) == 1)=false by rw [beq_eq_false_iff_ne];omega,show ((k:Int) == 2)=false by rw [beq_eq_false_iff_ne];omega]
   simp only [cond_false]
   by_cases k6:6<k
   . have e6:b6=true:=by rw [hb];exact decide_eq_true k6
     subst e6
     simp only [cond_true]
     by_cases a1:x.N<=last
     . simp [a1,k1,k2,k6]
     . simp [a1,k1,k2,k6]
   . have e6:b6=false:=by rw [hb];exact decide_eq_false k6
     subst e6
     simp [k1,k2,k6]
  simp only [Sy h2,cond_true,RI hr,Option.bind_some,hc6,ho _ rfl,Sz (show k<4611686018427387904 by omega)]
  rw [Fg]
  cases hodd:OO k x.N last with
  |true=>simp only [cond_true,if_true];exact Ev.pure
  |false =>
   simp only [cond_false,Bool.false_eq_true,if_false]
   by_cases k6:6<k
   . have hx:last<x.N:=by
      unfold OO at hodd
      rw [decide_eq_false_iff_not] at hodd
      omega
     rw [decide_eq_true k6,if_pos k6]
     simp only [cond_true]
     have hg:XT x.N (IntKind.i64.wrap (1*2 ^ min x.N.toNat IntKind.i64.bits))=some (IntKind.i64.wrap (1*2 ^ min x.N.toNat IntKind.i64.bits)):=by unfold XT;rw [if_pos (by omega)]
     simp only [hg,Option.bind_some]
     exact rangeLoop f hl r (k+1) x.N (Nw c x.N) h1 (by omega) (by omega)
   . rw [decide_eq_false k6,if_neg k6]
     simp only [cond_false]
     exact rangeLoop f hl r (k+1) last c h1 (by omega) hla
def JF (a:Aw)(t:Int)(r:Unit ⊕ Am):Unit ⊕ Am:=if (BJ a.E).2.2.E≠0 then .inr (BJ a.E).2.2 else if (BJ a.E).1≠t then .inr ⟨a.At,7⟩ else r
def N2 (a b c:Aw):Unit ⊕ Am:=JF a 2 (JF b 2 (JF c 3 (.inl ())))
def X3:Unit ⊕ Am->Unit ⊕ (List Ao×Am)
 |.inl u=>.inl u
 |.inr p=>.inr ([],p)
theorem KM {a:Aw}{t:Int}(hs:D6 a.E=true){k:Option (Unit ⊕ (List Ao×Am))}{r:Unit ⊕ Am}(hk:k=some (X3 r)) :
 ((Gg a.E).bind fun f=>bif (f.2.2.E != 0) then some (.inr ([],f.2.2)) else bif (f.1 != t) then some (.inr ([],(Am.mk a.At 7))) else k)=some (X3 (JF a t r)):=by
 rw [RW hs,Option.bind_some]
 unfold JF
 by_cases c:(BJ a.E).2.2.E=0
 . rw [show ((BJ a.E).2.2.E != 0)=false by simpa using c,if_neg (show ¬ (BJ a.E).2.2.E≠0 by simpa using c),cond_false]
   by_cases c2:(BJ a.E).1=t
   . rw [show ((BJ a.E).1 != t)=false by simpa using c2,if_neg (show ¬ (BJ a.E).1≠t by simpa using c2),cond_false];exact hk
   . rw [show ((BJ a.E).1 != t)=true by simpa using c2,if_pos c2];rfl
 . rw [show ((BJ a.E).2.2.E != 0)=true by simpa using c,if_pos c];rfl
theorem Vv {a b c:Aw}(ha:D6 a.E=true)(hb:D6 b.E=true)(hc:D6 c.E=true):Ev (fun n=>Be n a b c 0) (X3 (N2 a b c)):=⟨4,fun n hn=>by
 obtain⟨m,rfl⟩:∃ m,n=m+4:=⟨n-4,by omega⟩
 show Be (m+4) a b c 0=_
 rw [CT]
 refine KM ha ?_
 rw [CT]
 refine KM hb ?_
 rw [CT]
 refine KM hc ?_
 rw [CT]
 rfl⟩
def Oi (out:List Ao)(f:Aj):Ao ⊕ Am :=
 if (FT f).2=false then .inr ⟨f.At,5⟩
 else if out.length=40 then .inr ⟨f.At,2⟩
 else match f.Args with
  |a0::a1::a2::a3::a4::a5::_ =>
   if Er out a0.S=true then .inr ⟨a0.At,9⟩
   else match Fg f.Args 0 (-1) 0 with
    |.inr p=>.inr ⟨p,3⟩
    |.inl h=>match N2 a3 a4 a5 with
     |.inr p=>.inr p
     |.inl _=>.inl ⟨a0.S,(FT f).1,a1.N,a2.N,a3.E,a4.E,a5.E,h⟩
  |_=>.inr ⟨f.At,5⟩
def Gk:List Aj->List Ao->List Ao ⊕ Am
 | [],out=>.inl out
 |f::r,out=>match Oi out f with
  |.inr p=>.inr p
  |.inl c=>Gk r (out++[c])
def Acd:List Ao ⊕ Am->List Ao ⊕ (List Ao×Am)
 |.inl l=>.inl l
 |.inr p=>.inr ([],p)
def YQ (f:Aj):Prop:=f.Args.length<=1000000/\f.Body.length<=4611686018427387904/\∀ a∈f.Args,D6 a.E=true
theorem M6 {f:Aj}(h:(FT f).2=true):FJ f.Word≠0/\(FT f).1=FJ f.Word/\f.Body.length=0/\(EK (FJ f.Word)).length<=f.Args.length/\(FJ f.Word≠3->f.Args.length=6)/\GL (EK (FJ f.Word)) f.Args 0=true:=by
 unfold FT at h ⊢
 have hwl:=Kk (FJ f.Word)
 split at h
 . cases h
 . rename_i c
   rw [if_neg c]
   split at h
   . rename_i c2
     rw [if_pos c2]
     refine⟨fun h=>c (.inl h),rfl,by omega,by omega,fun h3=>?_,c2⟩
     rw [if_neg h3] at hwl
     omega
   . cases h
theorem Sj (fs:List Aj)(p:Am)(hl:fs.length<=4000000000000)(hs:∀ f∈fs,YQ f):∀ (r:List Aj) (k:Nat) (out:List Ao),fs.drop k=r->k<=fs.length->out.length<=40 ->
 Ev (fun n=>BU n (fs,p) out (k:Int)) (Acd (Gk r out))
 | [],k,out,hr,hk,ho=>by
  have he:=Mr hr hk
  refine Ev.step (f:=fun _=>some (.inl out)) (fun n=>?_) (by rw [Gk];exact Ev.pure)
  rw [FD,show (decide ((k:Int)<(fs.length:Int)))=false by rw [decide_eq_false_iff_not];omega];rfl
 |f::r,k,out,hr,hk,ho=>by
  obtain⟨h1,h2⟩:=HH hr
  have hm:f∈fs:=List.mem_of_mem_drop (by rw [hr];simp)
  obtain⟨s1,s2,s3⟩:=hs f hm
  refine Ev.step (fun n=>FD n (fs,p) out (k:Int)) ?_
  simp only [Sy h2,cond_true,RI hr,Option.bind_some,Sz (show k<4611686018427387904 by omega)]
  refine Ev.bind (Uy f s1 s2) ?_
  rw [Gk]
  unfold Oi
  cases hsh:(FT f).2 with
  |false=>simp only [Bool.not_false,cond_true,if_true];exact Ev.pure
  |true =>
   simp only [Bool.not_true,cond_false,Bool.true_eq_false,if_false]
   by_cases c40:out.length=40
   . rw [show ((out.length:Int) == 40)=true by rw [beq_iff_eq];omega,if_pos c40];exact Ev.pure
   rw [show ((out.length:Int) == 40)=false by rw [beq_eq_false_iff_ne];omega,if_neg c40]
   simp only [cond_false]
   obtain⟨_,_,_,g4,_,_⟩:=M6 hsh
   have g5:6<=f.Args.length:=by have:=Kk (FJ f.Word);split at this<;>omega
   match hA:f.Args,g5 with
   |a0::a1::a2::a3::a4::a5::ags,_ =>
    have i0:gi (a0::a1::a2::a3::a4::a5::ags) 0=some a0:=rfl
    have i1:gi (a0::a1::a2::a3::a4::a5::ags) 1=some a1:=rfl
    have i2:gi (a0::a1::a2::a3::a4::a5::ags) 2=some a2:=rfl
    have i3:gi (a0::a1::a2::a3::a4::a5::ags) 3=some a3:=rfl
    have i4:gi (a0::a1::a2::a3::a4::a5::ags) 4=some a4:=rfl
    have i5:gi (a0::a1::a2::a3::a4::a5::ags) 5=some a5:=rfl
    simp only [i0,i1,i2,i3,i4,i5,Option.bind_some]
    refine Ev.bind (VS a0 (a1::a2::a3::a4::a5::ags) 0 0 p.At p.E f.Word f.Body f.At out (by omega)) ?_
    cases hn:Er out a0.S with
    |true=>simp only [cond_true,if_true];exact Ev.pure
    |false =>
     simp only [cond_false,Bool.false_eq_true,if_false]
     have hR:=rangeLoop f s1 f.Args 0 (-1) 0 rfl (Nat.zero_le _) (by omega)
     rw [hA] at hR s3
     refine Ev.bind hR ?_
     cases hrv:Fg (a0::a1::a2::a3::a4::a5::ags) 0 (-1) 0 with
     |inr q=>exact Ev.pure
     |inl h =>
      simp only [DA,Option.bind_some]
      refine Ev.bind (Vv (s3 a3 (by simp)) (s3 a4 (by simp)) (s3 a5 (by simp))) ?_
      cases ht:N2 a3 a4 a5 with
      |inr q=>exact Ev.pure
      |inl u =>
       simp only [X3,Option.bind_some]
       rw [Abq (by simp only [List.length_cons,List.length_nil];omega)]
       simp only [Option.bind_some]
       exact Sj fs p hl hs r (k+1) _ h1 (by omega) (by simp only [List.length_append,List.length_cons,List.length_nil];omega)
end Go.Sp
namespace Go.Sp
open Go
abbrev at_ (l:List Ac)(k:Int)(f:Int):Ae:=⟨l.drop k.toNat,f⟩
theorem P5 {t:Ac}{r:List Ac}{f:Int}{s:ByteArray}:AM ⟨t::r,f⟩ s=some (t.Kind == 4&&decide (t.S=s)):=by
 unfold AM gi
 simp only [Int.le_refl,if_true,Int.toNat_zero,List.getElem?_cons_zero,Option.bind_some]
 cases h:t.Kind == 4<;>simp
theorem Wg {α:Type}{t:α}{r:List α}:Uc (t::r) 1 ((t::r).length:Int)=some r:=by
 have h:(0:Int)<=1/\(1:Int)<=((t::r).length:Int)/\((t::r).length:Int)<=((t::r).length:Int):=⟨by decide,by rw [List.length_cons];omega,Int.le_refl _⟩
 unfold Uc
 rw [if_pos h,Int.toNat_natCast,List.take_length];rfl
theorem HZ {α:Type}{t:α}{r:List α}:gi (t::r) 0=some t:=rfl
theorem DT {t:Ac}{r:List Ac}{f:Int}:A6 ⟨t::r,f⟩=some (t,⟨r,f⟩):=by
 unfold A6
 show (gi (t::r) 0).bind _=_
 rw [HZ]
 show (Uc (t::r) 1 ((t::r).length:Int)).bind _=_
 rw [Wg];rfl
theorem GJ {t:Ac}{r:List Ac}{f e:Int}:AN ⟨t::r,f⟩ e=some (.pan ⟨t.At,e⟩ ⟨t::r,f⟩):=by
 unfold AN gi
 simp
theorem Hr {t:Ac}{r:List Ac}{f:Int}:BD ⟨t::r,f⟩=some (t.Kind == 1||(t.Kind == 2||(t.Kind == 3||((t.Kind == 4&&decide (t.S=⟨#[40]⟩))||(t.Kind == 4&&decide (t.S=⟨#[45]⟩)))))):=by
 unfold BD
 rw [P5,P5]
 unfold gi
 simp only [Int.le_refl,if_true,Int.toNat_zero,List.getElem?_cons_zero,Option.bind_some]
 cases t.Kind == 1<;>cases t.Kind == 2<;>cases t.Kind == 3<;>cases t.Kind == 4<;>cases decide (t.S=⟨#[40]⟩)<;>cases decide (t.S=⟨#[45]⟩)<;>rfl
theorem BA {l:List Ac}{k:Int}{t:Ac}{s:ByteArray}(h:gi l k=some t):Bg l k s=some (t.Kind == 4&&decide (t.S=s)):=by
 unfold Bg
 rw [h]
 simp only [Option.bind_some]
 cases t.Kind == 4<;>simp
def Gm (t:Ac):Bool:=t.Kind == 1||(t.Kind == 2||(t.Kind == 3||((t.Kind == 4&&decide (t.S=⟨#[40]⟩))||(t.Kind == 4&&decide (t.S=⟨#[45]⟩)))))
theorem H9 {l:List Ac}{k:Int}{t:Ac}(h:gi l k=some t):FY l k=some (Gm t):=by
 unfold FY Gm
 rw [BA h,BA h,h]
 simp only [Option.bind_some]
 have e:(t.Kind == 1||(t.Kind == 2||t.Kind == 3))=(decide (1<=t.Kind)&&decide (t.Kind<=3)):=by
  rw [Bool.eq_iff_iff];simp only [Bool.or_eq_true,beq_iff_eq,Bool.and_eq_true,decide_eq_true_eq];omega
 cases h1:decide (1<=t.Kind)<;>cases h2:decide (t.Kind<=3)<;>rw [h1,h2] at e<;>simp only [Bool.and_self,Bool.and_true,Bool.and_false,Bool.or_eq_false_iff,Bool.or_eq_true] at e <;>
  cases t.Kind == 4<;>cases decide (t.S=⟨#[40]⟩)<;>cases decide (t.S=⟨#[45]⟩)<;>simp_all
def fst (t:Ac)(d:Int)(no:Bool):Int:=if (!Gm t&&!(no&&(t.Kind == 4&&decide (t.S=⟨#[33]⟩))))=true then 5 else if 30<d then 2 else 0
theorem Gf {l:List Ac}{k:Int}{t:Ac}{d:Int}{no:Bool}(h:gi l k=some t):DE l k d no=some (fst t d no):=by
 unfold DE fst
 rw [H9 h,BA h]
 simp only [Option.bind_some]
 generalize (t.Kind == 4&&decide (t.S=⟨#[33]⟩))=c
 cases Gm t<;>cases no<;>cases c<;>by_cases hd:30<d<;>simp [hd]
theorem Jd {t:Ac}{r:List Ac}{f d:Int}{no:Bool}:BQ ⟨t::r,f⟩ d no=some (if fst t d no=0 then .ok () ⟨t::r,f⟩ else .pan ⟨t.At,fst t d no⟩ ⟨t::r,f⟩):=by
 unfold BQ fst
 rw [Hr,P5]
 show ((((some (Gm t)).bind _:Option Bool)).bind _)=_
 simp only [Option.bind_some,GJ]
 generalize (t.Kind == 4&&decide (t.S=⟨#[33]⟩))=c
 cases Gm t<;>cases no<;>cases c<;>by_cases hd:30<d<;>simp [hd,GJ]
theorem XF {t:Ac}{r:List Ac}{f:Int}{s:ByteArray}:Bl ⟨t::r,f⟩ s=some (if (t.Kind == 4&&decide (t.S=s))=true then .ok () ⟨r,f⟩ else .pan ⟨t.At,5⟩ ⟨t::r,f⟩):=by
 unfold Bl
 rw [P5]
 simp only [Option.bind_some,GJ,DT]
 cases (t.Kind == 4&&decide (t.S=s))<;>simp
end Go.Sp
namespace Go.Sp
open Go
def isS (t:Ac)(s:ByteArray):Bool:=t.Kind == 4&&decide (t.S=s)
def Hg (t:Ac):List (ByteArray×Int)->Nat->B7
 | [],_=>⟨0,0⟩
 |(s,lv)::r,j=>if isS t s=true then ⟨lv,7+(j:Int)⟩ else Hg t r (j+1)
theorem Lc {α:Type}(l:List α)(j:Nat):gi l (j:Int)=l[j]?:=by
 unfold gi;rw [if_pos (by omega)];rfl
theorem NY {L:List Ac}{k:Int}{t:Ac}(hk:gi L k=some t)(z:List (ByteArray×Int))(hz:z.length<=100) :
 ∀ (m j:Nat),j+m=z.length->∃ N,∀ n,N<=n ->
  (Cn n (z.map (·.1)) L k (z.map (·.2)) (j:Int)).bind (fun y=>match y with|.inl _=>some (⟨0,0⟩:B7)|.inr o=>some o)=some (Hg t (z.drop j) j)
 |0,j,hj=>by
  refine⟨1,fun n hn=>?_⟩
  obtain⟨n,rfl⟩:∃ m,n=m+1:=⟨n-1,by omega⟩
  have e:z.drop j=[]:=List.drop_eq_nil_of_le (by omega)
  have d:decide ((j:Int)<((z.map (·.1)).length:Int))=false:=by rw [decide_eq_false_iff_not,List.length_map];omega
  rw [Cn.eq_2,d,e];rfl
 |m+1,j,hj=>by
  obtain⟨N,ih⟩:=NY hk z hz m (j+1) (by omega)
  refine⟨N+1,fun n hn=>?_⟩
  obtain⟨n,rfl⟩:∃ m,n=m+1:=⟨n-1,by omega⟩
  have hj2:j<z.length:=by omega
  have d:decide ((j:Int)<((z.map (·.1)).length:Int))=true:=by rw [decide_eq_true_eq,List.length_map];omega
  have g1:gi (z.map (·.1)) (j:Int)=some (z[j].1):=by rw [Lc,List.getElem?_map,List.getElem?_eq_getElem hj2];rfl
  have g2:gi (z.map (·.2)) (j:Int)=some (z[j].2):=by rw [Lc,List.getElem?_map,List.getElem?_eq_getElem hj2];rfl
  have w1:IntKind.i64.wrap ((j:Int)+1)=((j+1:Nat):Int):=by rw [AJ]<;>omega
  have w2:IntKind.i64.wrap (7+(j:Int))=7+(j:Int):=by rw [AJ]<;>omega
  have e:z.drop j=z[j]::z.drop (j+1):=by rw [List.drop_eq_getElem_cons hj2]
  rw [Cn.eq_2,d,e]
  simp only [cond_true,g1,Option.bind_some,BA hk,g2,w1,w2]
  show ((bif isS t z[j].1 then _ else _:Option (Unit ⊕ B7)).bind _)=some (if isS t z[j].1=true then _ else _)
  cases isS t z[j].1 with
  |true=>rfl
  |false=>exact ih n (by omega)
def Xd:List (ByteArray×Int):=[(⟨#[42]⟩,6),(⟨#[47]⟩,6),(⟨#[37]⟩,6),(⟨#[43]⟩,5),(⟨#[45]⟩,5),(⟨#[61,61]⟩,4),(⟨#[33,61]⟩,4),(⟨#[60]⟩,4),(⟨#[60,61]⟩,4),(⟨#[62]⟩,4),(⟨#[62,61]⟩,4),(⟨#[38,38]⟩,2),(⟨#[124,124]⟩,1)]
def Nc (t:Ac):B7:=Hg t Xd 0
theorem VX {L:List Ac}{k:Int}{t:Ac}(hk:gi L k=some t):Ev (fun n=>GR n L k) (Nc t):=by
 obtain⟨N,h⟩:=NY hk Xd (by decide) 13 0 rfl
 exact⟨N,fun n hn=>h n hn⟩
theorem JX {L:List Ac}{k:Int}{t:Ac}(hk:gi L k=some t)(z:List (ByteArray×Int))(hz:z.length<=100) :
 ∀ (n j:Nat) (r:B7),j<=z.length->(Cn n (z.map (·.1)) L k (z.map (·.2)) (j:Int)).bind (fun y=>match y with|.inl _=>some (⟨0,0⟩:B7)|.inr o=>some o)=some r->r=Hg t (z.drop j) j
 |0,j,r,_,h=>by cases h
 |n+1,j,r,hj,h=>by
  by_cases hj2:j<z.length
  . have d:decide ((j:Int)<((z.map (·.1)).length:Int))=true:=by rw [decide_eq_true_eq,List.length_map];omega
    have g1:gi (z.map (·.1)) (j:Int)=some (z[j].1):=by rw [Lc,List.getElem?_map,List.getElem?_eq_getElem hj2];rfl
    have g2:gi (z.map (·.2)) (j:Int)=some (z[j].2):=by rw [Lc,List.getElem?_map,List.getElem?_eq_getElem hj2];rfl
    have w1:IntKind.i64.wrap ((j:Int)+1)=((j+1:Nat):Int):=by rw [AJ]<;>omega
    have w2:IntKind.i64.wrap (7+(j:Int))=7+(j:Int):=by rw [AJ]<;>omega
    have e:z.drop j=z[j]::z.drop (j+1):=by rw [List.drop_eq_getElem_cons hj2]
    rw [Cn.eq_2,d] at h
    rw [e]
    simp only [cond_true,g1,Option.bind_some,BA hk,g2,w1,w2] at h
    show r=if isS t z[j].1=true then _ else _
    have h':((bif isS t z[j].1 then some (.inr ⟨z[j].2,7+(j:Int)⟩) else Cn n (z.map (·.1)) L k (z.map (·.2)) ((j+1:Nat):Int):Option (Unit ⊕ B7)).bind (fun y=>match y with|.inl _=>some (⟨0,0⟩:B7)|.inr o=>some o))=some r:=h
    cases hi:isS t z[j].1 with
    |true=>rw [hi] at h';exact (Aa h').symm
    |false=>rw [hi] at h';exact JX hk z hz n (j+1) r (by omega) h'
  . have e:z.drop j=[]:=List.drop_eq_nil_of_le (by omega)
    have d:decide ((j:Int)<((z.map (·.1)).length:Int))=false:=by rw [decide_eq_false_iff_not,List.length_map];omega
    rw [Cn.eq_2,d] at h
    rw [e];exact (Aa h).symm
theorem P4 {L:List Ac}{k:Int}{t:Ac}(hk:gi L k=some t){n:Nat}{r:B7}(h:GR n L k=some r):r=Nc t :=
 JX hk Xd (by decide) n 0 r (Nat.zero_le _) h
def HE (t:Ac)(n:Int):List Av->Nat->Int
 | [],_=>-1
 |b::r,j=>if (b.level == n&&isS t b.sign)=true then (j:Int) else HE t n r (j+1)
theorem Oc {t:Ac}{r:List Ac}{f lv:Int}(q q1:Int)(q2:ByteArray)(q3:List Ab)(q4 e e1:Int)(e2:ByteArray)(e3:List Ab)(e4:Int)(z:List Av)(hz:z.length<=100) :
 ∀ (m j:Nat),j+m=z.length->∃ N,∀ n,N<=n ->
  (Bm n z (t::r) f lv q q1 q2 q3 q4 e e1 e2 e3 e4 (j:Int)).bind (fun y=>match y with|.inl _=>some (-1)|.inr o=>some o)=some (HE t lv (z.drop j) j)
 |0,j,hj=>by
  refine⟨1,fun n hn=>?_⟩
  obtain⟨n,rfl⟩:∃ m,n=m+1:=⟨n-1,by omega⟩
  have e:z.drop j=[]:=List.drop_eq_nil_of_le (by omega)
  have d:decide ((j:Int)<(z.length:Int))=false:=by rw [decide_eq_false_iff_not];omega
  rw [Bm.eq_2,d,e];rfl
 |m+1,j,hj=>by
  obtain⟨N,ih⟩:=Oc (t:=t) (r:=r) (f:=f) (lv:=lv) q q1 q2 q3 q4 e e1 e2 e3 e4 z hz m (j+1) (by omega)
  refine⟨N+1,fun n hn=>?_⟩
  obtain⟨n,rfl⟩:∃ m,n=m+1:=⟨n-1,by omega⟩
  have hj2:j<z.length:=by omega
  have d:decide ((j:Int)<(z.length:Int))=true:=by rw [decide_eq_true_eq];omega
  have g1:gi z (j:Int)=some z[j]:=by rw [Lc,List.getElem?_eq_getElem hj2]
  have w1:IntKind.i64.wrap ((j:Int)+1)=((j+1:Nat):Int):=by rw [AJ]<;>omega
  have e':z.drop j=z[j]::z.drop (j+1):=by rw [List.drop_eq_getElem_cons hj2]
  have l1:Cw (t::r) f lv q q1 q2 q3 q4 e e1 e2 e3 e4 z[j]=some (z[j].level == lv&&isS t z[j].sign):=by
   unfold Cw
   rw [P5]
   cases z[j].level == lv<;>rfl
  rw [Bm.eq_2,d,e']
  simp only [cond_true,g1,Option.bind_some,l1,w1]
  show ((bif (z[j].level == lv&&isS t z[j].sign) then _ else _:Option (Unit ⊕ Int)).bind _)=some (if (z[j].level == lv&&isS t z[j].sign)=true then _ else _)
  cases (z[j].level == lv&&isS t z[j].sign) with
  |true=>rfl
  |false=>exact ih n (by omega)
def L4:List Av:=[(Av.mk ⟨#[42]⟩ 7 6),(Av.mk ⟨#[47]⟩ 8 6),(Av.mk ⟨#[37]⟩ 9 6),(Av.mk ⟨#[43]⟩ 10 5),(Av.mk ⟨#[45]⟩ 11 5),(Av.mk ⟨#[61,61]⟩ 12 4),(Av.mk ⟨#[33,61]⟩ 13 4),(Av.mk ⟨#[60]⟩ 14 4),(Av.mk ⟨#[60,61]⟩ 15 4),(Av.mk ⟨#[62]⟩ 16 4),(Av.mk ⟨#[62,61]⟩ 17 4),(Av.mk ⟨#[38,38]⟩ 18 2),(Av.mk ⟨#[124,124]⟩ 19 1)]
theorem Qo:C9=some L4:=rfl
theorem Wd {t:Ac}{r:List Ac}{f lv:Int}(q q1:Int)(q2:ByteArray)(q3:List Ab)(q4 e e1:Int)(e2:ByteArray)(e3:List Ab)(e4:Int) :
 Ev (fun n=>Cz n (t::r) f lv q q1 q2 q3 q4 e e1 e2 e3 e4 L4) (HE t lv L4 0):=by
 obtain⟨N,h⟩:=Oc (t:=t) (r:=r) (f:=f) (lv:=lv) q q1 q2 q3 q4 e e1 e2 e3 e4 L4 (by decide) 13 0 rfl
 exact⟨N,fun n hn=>h n hn⟩
theorem Wz (t:Ac)(n:Int)(hn:0<n):(∃ b,0<=HE t n L4 0/\gi L4 (HE t n L4 0)=some b/\(Nc t).N=n/\b.op=(Nc t).Op)∨(HE t n L4 0 = -1/\(Nc t).N≠n):=by
 have key:∀ (z:List (ByteArray×Int)) (o:List Av) (j:Nat),o=z.zipIdx.map (fun x=>⟨x.1.1,7+((j+x.2:Nat):Int),x.1.2⟩)->z.Pairwise (fun a b=>a.1≠b.1) ->
  (∃ i:Nat,∃ b,HE t n o j=((j+i:Nat):Int)/\o[i]?=some b/\(Hg t z j).N=n/\b.op=(Hg t z j).Op)∨(HE t n o j = -1/\(Hg t z j).N≠n):=by
  intro z
  induction z with
  |nil =>
   intro o j ho _
   subst ho
   exact .inr ⟨rfl,by show (0:Int)≠n;omega⟩
  |cons x z ih =>
   intro o j ho hp
   subst ho
   obtain⟨s,lv⟩:=x
   rw [List.pairwise_cons] at hp
   simp only [List.zipIdx_cons,List.map_cons,Nat.zero_add]
   have hrec:=ih (List.map (fun x=>⟨x.1.1,7+((j+1+x.2:Nat):Int),x.1.2⟩) z.zipIdx) (j+1) rfl hp.2
   have etail:List.map (fun x:(ByteArray×Int)×Nat=>(⟨x.1.1,7+((j+x.2:Nat):Int),x.1.2⟩:Av)) (z.zipIdx 1)=List.map (fun x=>⟨x.1.1,7+((j+1+x.2:Nat):Int),x.1.2⟩) z.zipIdx:=by
    rw [List.zipIdx_succ,List.map_map]
    refine List.map_congr_left fun x _=>?_
    simp only [Function.comp]
    congr 2;omega
   rw [etail]
   show (∃ i:Nat,∃ b:Av,(if (lv == n&&isS t s)=true then (j:Int) else HE t n _ (j+1))=_/\_/\(if isS t s=true then (⟨lv,7+(j:Int)⟩:B7) else Hg t z (j+1)).N=n/\b.op=(if isS t s=true then (⟨lv,7+(j:Int)⟩:B7) else Hg t z (j+1)).Op)∨((if (lv == n&&isS t s)=true then (j:Int) else HE t n _ (j+1)) = -1/\(if isS t s=true then (⟨lv,7+(j:Int)⟩:B7) else Hg t z (j+1)).N≠n)
   by_cases hs:isS t s=true
   . by_cases hl:lv=n
     . left
       refine⟨0,⟨s,7+((j+0:Nat):Int),lv⟩,?_,rfl,?_,?_⟩
       . rw [if_pos (by simp [hl,hs])];rfl
       . rw [if_pos hs];exact hl
       . rw [if_pos hs];rfl
     . right
       rw [if_neg (by simp [hl]),if_pos hs]
       refine⟨?_,hl⟩
       have hnone:∀ (o:List Av) (i:Nat),(∀ b∈o,isS t b.sign=false)->HE t n o i = -1:=by
        intro o
        induction o with
        |nil=>intro i _;rfl
        |cons b o ih=>intro i h;show (if _ then _ else _)=_;rw [if_neg (by simp [h b (by simp)])];exact ih _ fun c hc=>h c (by simp [hc])
       refine hnone _ _ fun b hb=>?_
       obtain⟨y,hy,rfl⟩:=List.mem_map.1 hb
       have hy1:y.1∈z:=by
        have:=List.mem_zipIdx' hy
        rw [this.2];exact List.getElem_mem this.1
       have hne:=hp.1 y.1 hy1
       cases hh:isS t y.1.1 with
       |false=>rfl
       |true =>
        unfold isS at hs hh
        simp only [Bool.and_eq_true,decide_eq_true_eq] at hs hh
        exact absurd (hs.2.symm.trans hh.2) hne
   . rw [if_neg (by simp [hs]),if_neg hs]
     rcases hrec with⟨i,b,h1,h2,h3,h4⟩|h
     . left
       exact⟨i+1,b,by rw [h1];congr 1;omega,by simpa using h2,h3,h4⟩
     . exact .inr h
 rcases key Xd L4 0 rfl (by decide) with⟨i,b,h1,h2,h3,h4⟩|h
 . left
   rw [Nat.zero_add] at h1
   exact⟨b,by rw [h1];omega,by rw [h1,Lc];exact h2,h3,h4⟩
 . exact .inr h
end Go.Sp
namespace Go.Sp
open Go
set_option linter.unusedSimpArgs false
structure OX (L:List Ac):Prop where
 next:∀ k t,gi L k=some t->t.Kind≠5->∃ t',gi L (k+1)=some t'
 len:L.length<=1000000
 num:∀ t∈L,t.Kind=2->t.S=⟨#[]⟩
 other:∀ t∈L,t.Kind≠2->t.N=0
theorem Gz {α:Type}{l:List α}{k:Int}{x:α}(h:gi l k=some x):x∈l:=by
 unfold gi at h
 split at h
 . exact List.mem_of_getElem? h
 . cases h
def Ni (L:List Ac)(f:Int)(g:A5)(y:Ex Au Ae Ab):Prop :=
 ∃ t,gi L g.To=some t/\((g.E=0/\y=.ok g.X (at_ L g.To f))∨(g.E≠0/\y=.pan ⟨t.At,g.E⟩ (at_ L g.To f)))
theorem Ni.ok {L:List Ac}{f:Int}{g:A5}{y:Ex Au Ae Ab}(h:Ni L f g y)(e:g.E=0):∃ t,gi L g.To=some t/\y=.ok g.X (at_ L g.To f):=by
 obtain⟨t,ht,⟨_,hy⟩|⟨h,_⟩⟩:=h
 . exact⟨t,ht,hy⟩
 . exact absurd e h
theorem Ni.pan {L:List Ac}{f:Int}{g:A5}{y:Ex Au Ae Ab}(h:Ni L f g y)(e:g.E≠0):∃ t,gi L g.To=some t/\y=.pan ⟨t.At,g.E⟩ (at_ L g.To f):=by
 obtain⟨t,ht,⟨h,_⟩|⟨_,hy⟩⟩:=h
 . exact absurd h e
 . exact⟨t,ht,hy⟩
theorem CP {L:List Ac}{k f:Int}{t:Ac}(h:gi L k=some t):at_ L k f=⟨t::L.drop (k+1).toNat,f⟩:=by
 unfold at_;rw [(A0 h).1]
theorem C0 {L:List Ac}(hL:OX L){k:Int}{t:Ac}(h:gi L k=some t):IntKind.i64.wrap (k+1)=k+1:=by
 have:=(A0 h).2
 have:=hL.len
 rw [AJ]<;>omega
theorem Ef {t:Ac}{s:ByteArray}(h:isS t s=true):t.Kind=4:=by
 unfold isS at h
 simp only [Bool.and_eq_true,beq_iff_eq] at h;exact h.1
theorem Cm {L:List Ac}{k:Int}{s:ByteArray}{b:Bool}(h:Bg L k s=some b):∃ t,gi L k=some t/\b=isS t s:=by
 cases e:gi L k with
 |none=>unfold Bg at h;rw [e] at h;cases h
 |some t=>rw [BA e] at h;exact⟨t,rfl,(Aa h).symm⟩
theorem L9 {L:List Ac}{k d:Int}{no:Bool}{e:Int}(h:DE L k d no=some e):∃ t,gi L k=some t/\e=fst t d no:=by
 cases e':gi L k with
 |none =>
  unfold DE FY Bg at h
  rw [e'] at h;cases h
 |some t=>rw [Gf e'] at h;exact⟨t,rfl,(Aa h).symm⟩
theorem K5 {t:Ac}{r:List Ac}{f:Int}{s:ByteArray}:AM ⟨t::r,f⟩ s=some (isS t s):=P5
theorem KW {t:Ac}{r:List Ac}{f:Int}{s:ByteArray}:Bl ⟨t::r,f⟩ s=some (if isS t s=true then .ok () ⟨r,f⟩ else .pan ⟨t.At,5⟩ ⟨t::r,f⟩):=XF
theorem Ue {t:Ac}{d:Int}{no:Bool}:fst t d no=0∨fst t d no=5∨fst t d no=2:=by
 unfold fst;split
 . simp
 . split<;>simp
section
variable {L:List Ac} (hL:OX L) (f:Int)
def SE (L:List Ac)(f:Int)(n:Nat):Prop:=∀ k d g,AY n L k d=some g->∃ y,Ev (fun m=>Az m (at_ L k f) d) y/\Ni L f g y
def SB (L:List Ac)(f:Int)(n:Nat):Prop:=∀ k lv d g,1<=lv->lv<=7->AK n L k lv d=some g->∃ y,Ev (fun m=>A2 m (at_ L k f) lv d) y/\Ni L f g y
def SG (L:List Ac)(f:Int)(n:Nat):Prop:=∀ k d g,BY n L k d=some g->∃ y,Ev (fun m=>A2 m (at_ L k f) 3 d) y/\Ni L f g y
def SM (L:List Ac)(f:Int)(n:Nat):Prop:=∀ k d g,BE n L k d=some g->∃ y,Ev (fun m=>AV m (at_ L k f) d) y/\Ni L f g y
def SA (L:List Ac)(f:Int)(n:Nat):Prop:=∀ k d g t,gi L k=some t->isS t ⟨#[45]⟩=false->Ci n L k d=some g->∃ y,Ev (fun m=>AT m (at_ L k f) d) y/\Ni L f g y
include hL
theorem Aai {n:Nat}(hE:SE L f n)(hB:SB L f n):SE L f (n+1):=by
 intro k d g h
 rw [AY.eq_2] at h
 obtain⟨e,h1,h⟩:=Ad h
 obtain⟨t,ht,rfl⟩:=L9 h1
 rcases Ai h with⟨c,h⟩|⟨c,h⟩
 . obtain rfl:=Aa h
   have c':fst t d true≠0:=by simpa using c
   refine⟨.pan ⟨t.At,fst t d true⟩ (at_ L k f),?_,t,ht,.inr ⟨c',rfl⟩⟩
   refine Ev.step (fun m=>Az.eq_2 (n:=m) _ _) ?_
   rw [CP ht]
   simp only [Jd,if_neg c',Option.bind_some]
   exact Ev.pure
 . have c':fst t d true=0:=by simpa using c
   obtain⟨c1,h1,h⟩:=Ad h
   obtain⟨y,hy,hc⟩:=hB k 1 d c1 (by decide) (by decide) h1
   have start:∀ z,Ev (fun m=>match y with
    |.ok e1 p3 =>
     (AM p3 ⟨#[63]⟩).bind fun i =>
     bif (!i) then
      some (.ok e1 p3)
     else
      (A6 p3).bind fun n_ =>
      (Az m n_.2 (IntKind.i64.wrap (d+1))).bind fun y2=>match y2 with
      |.ok a_ p5 =>
       (Bl p5 ⟨#[58]⟩).bind fun y3=>match y3 with
       |.ok n_1 p7 =>
        (Az m p7 (IntKind.i64.wrap (d+1))).bind fun y4=>match y4 with
        |.ok e5 p9 =>
         (some [e1,a_,e5]).bind fun l =>
         some (.ok (Ab.mk 20 0 ⟨#[]⟩ l e1.At) p9)
        |.pan e6 p10=>some (.pan e6 p10)
       |.pan e4 p8=>some (.pan e4 p8)
      |.pan e3 p6=>some (.pan e3 p6)
    |.pan e2 p4=>some (.pan e2 p4)) z->Ev (fun m=>Az m (at_ L k f) d) z:=by
    intro z hz
    refine Ev.step (fun m=>Az.eq_2 (n:=m) _ _) ?_
    rw [CP ht] at hy ⊢
    simp only [Jd,if_pos c',Option.bind_some]
    exact Ev.bind hy hz
   rcases Ai h with⟨c2,h⟩|⟨c2,h⟩
   . obtain rfl:=Aa h
     have c2':c1.E≠0:=by simpa using c2
     obtain⟨t1,ht1,rfl⟩:=hc.pan c2'
     exact⟨_,start _ Ev.pure,t1,ht1,.inr ⟨c2',rfl⟩⟩
   . have c2':c1.E=0:=by simpa using c2
     obtain⟨t1,ht1,rfl⟩:=hc.ok c2'
     obtain⟨a,h2,h⟩:=Ad h
     obtain⟨t2,ht2,rfl⟩:=Cm h2
     obtain rfl:t1=t2:=Aa (ht1.symm.trans ht2)
     rcases Ai h with⟨c3,h⟩|⟨c3,h⟩
     . obtain rfl:=Aa h
       refine⟨_,start (.ok c1.X (at_ L c1.To f)) ?_,t1,ht1,.inl ⟨c2',rfl⟩⟩
       have c3':isS t1 ⟨#[63]⟩=false:=by simpa using c3
       rw [CP ht1]
       simp only [K5,c3',Option.bind_some,Bool.not_false,cond_true]
       exact Ev.pure
     . have c3':isS t1 ⟨#[63]⟩=true:=by simpa using c3
       obtain⟨t3,ht3⟩:=hL.next _ _ ht1 (by rw [Ef c3'];decide)
       rw [C0 hL ht1] at h
       obtain⟨g2,h3,h⟩:=Ad h
       obtain⟨y2,hy2,hc2⟩:=hE _ _ _ h3
       have e1:∀ z,Ev (fun m=>match y2 with
        |.ok a_ p5 =>
         (Bl p5 ⟨#[58]⟩).bind fun y3=>match y3 with
         |.ok n_1 p7 =>
          (Az m p7 (IntKind.i64.wrap (d+1))).bind fun y4=>match y4 with
          |.ok e5 p9 =>
           (some [c1.X,a_,e5]).bind fun l =>
           some (.ok (Ab.mk 20 0 ⟨#[]⟩ l c1.X.At) p9)
          |.pan e6 p10=>some (.pan e6 p10)
         |.pan e4 p8=>some (.pan e4 p8)
        |.pan e3 p6=>some (.pan e3 p6)) z->Ev (fun m=>Az m (at_ L k f) d) z:=by
        intro z hz
        refine start z ?_
        rw [CP ht1]
        simp only [K5,c3',DT,Option.bind_some,Bool.not_true,cond_false]
        exact Ev.bind hy2 hz
       rcases Ai h with⟨c4,h⟩|⟨c4,h⟩
       . obtain rfl:=Aa h
         have c4':g2.E≠0:=by simpa using c4
         obtain⟨t4,ht4,rfl⟩:=hc2.pan c4'
         exact⟨_,e1 _ Ev.pure,t4,ht4,.inr ⟨c4',rfl⟩⟩
       . have c4':g2.E=0:=by simpa using c4
         obtain⟨t4,ht4,rfl⟩:=hc2.ok c4'
         obtain⟨a2,h5,h⟩:=Ad h
         obtain⟨t5,ht5,rfl⟩:=Cm h5
         obtain rfl:t4=t5:=Aa (ht4.symm.trans ht5)
         rcases Ai h with⟨c5,h⟩|⟨c5,h⟩
         . obtain rfl:=Aa h
           have c5':isS t4 ⟨#[58]⟩=false:=by simpa using c5
           refine⟨_,e1 (.pan ⟨t4.At,5⟩ (at_ L g2.To f)) ?_,t4,ht4,.inr ⟨show (5:Int)≠0 by decide,rfl⟩⟩
           rw [CP ht4]
           simp only [KW,c5',Option.bind_some,Bool.false_eq_true,if_false]
           exact Ev.pure
         . have c5':isS t4 ⟨#[58]⟩=true:=by simpa using c5
           obtain⟨t6,ht6⟩:=hL.next _ _ ht4 (by rw [Ef c5'];decide)
           rw [C0 hL ht4] at h
           obtain⟨g3,h6,h⟩:=Ad h
           obtain⟨y3,hy3,hc3⟩:=hE _ _ _ h6
           have e2:∀ z,Ev (fun m=>match y3 with
            |.ok e5 p9 =>
             (some [c1.X,g2.X,e5]).bind fun l =>
             some (.ok (Ab.mk 20 0 ⟨#[]⟩ l c1.X.At) p9)
            |.pan e6 p10=>some (.pan e6 p10)) z->Ev (fun m=>Az m (at_ L k f) d) z:=by
            intro z hz
            refine e1 z ?_
            rw [CP ht4]
            simp only [KW,c5',Option.bind_some,if_true]
            exact Ev.bind hy3 hz
           rcases Ai h with⟨c6,h⟩|⟨c6,h⟩
           . obtain rfl:=Aa h
             have c6':g3.E≠0:=by simpa using c6
             obtain⟨t7,ht7,rfl⟩:=hc3.pan c6'
             exact⟨_,e2 _ Ev.pure,t7,ht7,.inr ⟨c6',rfl⟩⟩
           . have c6':g3.E=0:=by simpa using c6
             obtain⟨t7,ht7,rfl⟩:=hc3.ok c6'
             obtain rfl:=Aa h
             exact⟨_,e2 _ Ev.pure,t7,ht7,.inl ⟨rfl,rfl⟩⟩
theorem Aah {n:Nat}(hM:SM L f n)(hA:SA L f n):SM L f (n+1):=by
 intro k d g h
 rw [BE.eq_2] at h
 obtain⟨b,h1,h⟩:=Ad h
 obtain⟨t,ht,rfl⟩:=Cm h1
 rcases Ai h with⟨c,h⟩|⟨c,h⟩
 . have c':isS t ⟨#[45]⟩=false:=by simpa using c
   obtain⟨g1,h2,h⟩:=Ad h
   obtain rfl:=Aa h
   obtain⟨y,hy,hc⟩:=hA _ _ _ t ht c' h2
   refine⟨y,?_,hc⟩
   refine Ev.step (fun m=>AV.eq_2 (n:=m) _ _) ?_
   rw [CP ht] at hy ⊢
   simp only [K5,c',Option.bind_some,Bool.not_false,cond_true]
   refine Ev.bind hy ?_
   cases y<;>exact Ev.pure
 . have c':isS t ⟨#[45]⟩=true:=by simpa using c
   obtain⟨t2,ht2⟩:=hL.next _ _ ht (by rw [Ef c'];decide)
   rw [C0 hL ht] at h
   obtain⟨e,h2,h⟩:=Ad h
   rw [Gf ht2] at h2
   obtain rfl:=Aa h2
   have start:∀ z,Ev (fun m=>match (if fst t2 (IntKind.i64.wrap (d+1)) false=0 then (.ok () (at_ L (k+1) f):Ex Au Ae Unit) else .pan ⟨t2.At,fst t2 (IntKind.i64.wrap (d+1)) false⟩ (at_ L (k+1) f)) with
    |.ok d1 p3 =>
     (AV m p3 (IntKind.i64.wrap (d+1))).bind fun y2=>match y2 with
     |.ok n_1 p5 =>
      (some [n_1]).bind fun l =>
      some (.ok (Ab.mk 6 0 ⟨#[]⟩ l t.At) p5)
     |.pan e2 p6=>some (.pan e2 p6)
    |.pan e1 p4=>some (.pan e1 p4)) z->Ev (fun m=>AV m (at_ L k f) d) z:=by
    intro z hz
    refine Ev.step (fun m=>AV.eq_2 (n:=m) _ _) ?_
    rw [CP ht]
    rw [CP ht2] at hz
    have e:(L.drop (k+1).toNat)=t2::L.drop (k+1+1).toNat:=(A0 ht2).1
    rw [e]
    simp only [K5,c',DT,Option.bind_some,Bool.not_true,cond_false,Jd]
    exact hz
   rcases Ai h with⟨c2,h⟩|⟨c2,h⟩
   . obtain rfl:=Aa h
     have c2':fst t2 (IntKind.i64.wrap (d+1)) false≠0:=by simpa using c2
     refine⟨_,start (.pan ⟨t2.At,fst t2 (IntKind.i64.wrap (d+1)) false⟩ (at_ L (k+1) f)) ?_,t2,ht2,.inr ⟨c2',rfl⟩⟩
     rw [if_neg c2'];exact Ev.pure
   . have c2':fst t2 (IntKind.i64.wrap (d+1)) false=0:=by simpa using c2
     rw [if_pos c2'] at start
     obtain⟨g2,h3,h⟩:=Ad h
     obtain⟨y2,hy2,hc2⟩:=hM _ _ _ h3
     have e1:∀ z,Ev (fun m=>match y2 with
      |.ok n_1 p5 =>
       (some [n_1]).bind fun l =>
       some (.ok (Ab.mk 6 0 ⟨#[]⟩ l t.At) p5)
      |.pan e2 p6=>some (.pan e2 p6)) z->Ev (fun m=>AV m (at_ L k f) d) z:=fun z hz=>start z (Ev.bind hy2 hz)
     rcases Ai h with⟨c3,h⟩|⟨c3,h⟩
     . obtain rfl:=Aa h
       have c3':g2.E≠0:=by simpa using c3
       obtain⟨t3,ht3,rfl⟩:=hc2.pan c3'
       exact⟨_,e1 _ Ev.pure,t3,ht3,.inr ⟨c3',rfl⟩⟩
     . have c3':g2.E=0:=by simpa using c3
       obtain⟨t3,ht3,rfl⟩:=hc2.ok c3'
       rw [ht] at h
       obtain rfl:=Aa h
       exact⟨_,e1 _ Ev.pure,t3,ht3,.inl ⟨rfl,rfl⟩⟩
omit hL in
theorem XJ {t:Ac}{r:List Ac}{f d:Int}(h:isS t ⟨#[33]⟩=false)(m:Nat):A2 (m+1) ⟨t::r,f⟩ 3 d=A2 (m+1) ⟨t::r,f⟩ 4 d:=by
 rw [A2.eq_2,A2.eq_2]
 simp only [K5,h,Option.bind_some,cond_false]
 rfl
theorem stepG {n:Nat}(hG:SG L f n)(hB:SB L f n):SG L f (n+1):=by
 intro k d g h
 rw [BY.eq_2] at h
 obtain⟨b,h1,h⟩:=Ad h
 obtain⟨t,ht,rfl⟩:=Cm h1
 rcases Ai h with⟨c,h⟩|⟨c,h⟩
 . have c':isS t ⟨#[33]⟩=false:=by simpa using c
   obtain⟨g1,h2,h⟩:=Ad h
   obtain rfl:=Aa h
   obtain⟨y,⟨N,hy⟩,hc⟩:=hB k 4 d _ (by decide) (by decide) h2
   refine⟨y,⟨N+1,fun m hm=>?_⟩,hc⟩
   obtain⟨m,rfl⟩:∃ q,m=q+1:=⟨m-1,by omega⟩
   have:=hy (m+1) (by omega)
   rw [CP ht] at this ⊢
   exact (XJ c' m).trans this
 . have c':isS t ⟨#[33]⟩=true:=by simpa using c
   obtain⟨t2,ht2⟩:=hL.next _ _ ht (by rw [Ef c'];decide)
   rw [C0 hL ht] at h
   obtain⟨e,h2,h⟩:=Ad h
   rw [Gf ht2] at h2
   obtain rfl:=Aa h2
   have start:∀ z,Ev (fun m=>(match (if fst t2 (IntKind.i64.wrap (d+1)) true=0 then (.ok () (at_ L (k+1) f):Ex Au Ae Unit) else .pan ⟨t2.At,fst t2 (IntKind.i64.wrap (d+1)) true⟩ (at_ L (k+1) f)) with
    |.ok d1 p9 =>
     (A2 m p9 3 (IntKind.i64.wrap (d+1))).bind fun y5=>match y5 with
     |.ok l2 p11 =>
      (some [l2]).bind fun l3 =>
      some (.ok (Ab.mk 5 0 ⟨#[]⟩ l3 t.At) p11)
     |.pan e10 p12=>some (.pan e10 p12)
    |.pan e9 p10=>some (.pan e9 p10))) z->Ev (fun m=>A2 m (at_ L k f) 3 d) z:=by
    intro z hz
    refine Ev.step (fun m=>A2.eq_2 (n:=m) _ _ _) ?_
    rw [CP ht]
    rw [CP ht2] at hz
    have e:(L.drop (k+1).toNat)=t2::L.drop (k+1+1).toNat:=(A0 ht2).1
    rw [e]
    simp only [K5,c',DT,Option.bind_some,cond_true,Jd,beq_self_eq_true]
    refine Ev.congr hz fun m=>?_
    by_cases h0:fst t2 (IntKind.i64.wrap (d+1)) true=0
    . simp only [if_pos h0]
      cases A2 m ⟨t2::L.drop (k+1+1).toNat,f⟩ 3 (IntKind.i64.wrap (d+1)) with
      |none=>rfl
      |some y=>cases y<;>rfl
    . simp only [if_neg h0];rfl
   rcases Ai h with⟨c2,h⟩|⟨c2,h⟩
   . obtain rfl:=Aa h
     have c2':fst t2 (IntKind.i64.wrap (d+1)) true≠0:=by simpa using c2
     refine⟨_,start (.pan ⟨t2.At,fst t2 (IntKind.i64.wrap (d+1)) true⟩ (at_ L (k+1) f)) ?_,t2,ht2,.inr ⟨c2',rfl⟩⟩
     rw [if_neg c2'];exact Ev.pure
   . have c2':fst t2 (IntKind.i64.wrap (d+1)) true=0:=by simpa using c2
     rw [if_pos c2'] at start
     obtain⟨g2,h3,h⟩:=Ad h
     obtain⟨y2,hy2,hc2⟩:=hG _ _ _ h3
     have e1:∀ z,Ev (fun m=>match y2 with
      |.ok n_1 p5 =>
       (some [n_1]).bind fun l =>
       some (.ok (Ab.mk 5 0 ⟨#[]⟩ l t.At) p5)
      |.pan e2 p6=>some (.pan e2 p6)) z->Ev (fun m=>A2 m (at_ L k f) 3 d) z:=fun z hz=>start z (Ev.bind hy2 hz)
     rcases Ai h with⟨c3,h⟩|⟨c3,h⟩
     . obtain rfl:=Aa h
       have c3':g2.E≠0:=by simpa using c3
       obtain⟨t3,ht3,rfl⟩:=hc2.pan c3'
       exact⟨_,e1 _ Ev.pure,t3,ht3,.inr ⟨c3',rfl⟩⟩
     . have c3':g2.E=0:=by simpa using c3
       obtain⟨t3,ht3,rfl⟩:=hc2.ok c3'
       rw [ht] at h
       obtain rfl:=Aa h
       exact⟨_,e1 _ Ev.pure,t3,ht3,.inl ⟨rfl,rfl⟩⟩
theorem Y3 {lv d:Int}(hlv:1<=lv/\lv<=6/\lv≠3){x:A5}{e2:Ab}(hx:e2.At=x.X.At):∀ (n:Nat),(∀ m,m<n->SB L f m)->∀ (a b:Int) (c:ByteArray) (e:List Ab) (to:Int) (t:Ac),gi L to=some t->∀ g,
 (AF n L lv x d a b c e to 0).bind (fun y=>match y with
  |.inl (x1,x2,x3,x4,x5,x6)=>some (A5.mk (Ab.mk x1 x2 x3 x4 x.X.At) x5 x6)
  |.inr o=>some o)=some g->∃ y,Ev (fun m=>Bk m lv e2 d (L.drop to.toNat) f a b c e) y/\Ni L f g y
 |0,_,a,b,c,e,to,t,ht,g,h=>by cases h
 |n+1,hB,a,b,c,e,to,t,ht,g,h=>by
  rw [AF.eq_2] at h
  simp only [beq_self_eq_true,cond_true] at h
  obtain⟨w,h1,h⟩:=Ad h
  obtain⟨op,h2,h1⟩:=Ad h1
  obtain rfl:op=Nc t:=P4 ht h2
  have hp:L.drop to.toNat=t::L.drop (to+1).toNat:=(A0 ht).1
  have start:∀ z,Ev (fun m=>bif (decide (HE t lv L4 0<0)) then
   some (.ok (Ab.mk a b c e e2.At) (Ae.mk (t::L.drop (to+1).toNat) f))
   else
    (gi L4 (HE t lv L4 0)).bind fun x =>
    (A2 m (at_ L (to+1) f) (IntKind.i64.wrap (lv+1)) d).bind fun y3=>match y3 with
    |.ok l p7 =>
     (some [(Ab.mk a b c e e2.At),l]).bind fun l1 =>
     bif (lv == 4) then
      some (.ok (Ab.mk x.op 0 ⟨#[]⟩ l1 e2.At) p7)
     else
      Bk m lv e2 d p7.l p7.forms x.op 0 ⟨#[]⟩ l1
    |.pan e8 p8=>some (.pan e8 p8)) z->Ev (fun m=>Bk m lv e2 d (L.drop to.toNat) f a b c e) z:=by
   intro z hz
   refine Ev.step (fun m=>Bk.eq_2 (n:=m) _ _ _ _ _ _ _ _ _) ?_
   rw [hp]
   simp only [Qo,Option.bind_some,DT]
   exact Ev.bind (Wd 0 0 ⟨#[]⟩ [] 0 a b c e e2.At) hz
  rcases Wz t lv (by omega) with⟨bb,f1,f2,f3,f4⟩|⟨f1,f2⟩
  . have d0:decide (HE t lv L4 0<0)=false:=by rw [decide_eq_false_iff_not];omega
    have c1:((Nc t).N != lv)=false:=by simp [f3]
    rw [c1] at h1
    simp only [cond_false] at h1
    obtain⟨g2,h3,h1⟩:=Ad h1
    rw [C0 hL ht] at h3
    have wlT:IntKind.i64.wrap (lv+1)=lv+1:=by rw [AJ]<;>omega
    rw [wlT] at h3
    obtain⟨y2,hy2,hc2⟩:=hB n (by omega) (to+1) (lv+1) d g2 (by omega) (by omega) h3
    have e1:∀ z,Ev (fun m=>match y2 with
     |.ok l p7 =>
      (some [(Ab.mk a b c e e2.At),l]).bind fun l1 =>
      bif (lv == 4) then
       some (.ok (Ab.mk bb.op 0 ⟨#[]⟩ l1 e2.At) p7)
      else
       Bk m lv e2 d p7.l p7.forms bb.op 0 ⟨#[]⟩ l1
     |.pan e8 p8=>some (.pan e8 p8)) z->Ev (fun m=>Bk m lv e2 d (L.drop to.toNat) f a b c e) z:=by
     intro z hz
     refine start z ?_
     simp only [d0,cond_false,f2,Option.bind_some,wlT]
     exact Ev.bind hy2 hz
    rcases Ai h1 with⟨c3,h1⟩|⟨c3,h1⟩
    . obtain rfl:=Aa h1
      obtain rfl:=Aa h
      have c3':g2.E≠0:=by simpa using c3
      obtain⟨t3,ht3,rfl⟩:=hc2.pan c3'
      exact⟨_,e1 _ Ev.pure,t3,ht3,.inr ⟨c3',rfl⟩⟩
    . have c3':g2.E=0:=by simpa using c3
      obtain⟨t3,ht3,rfl⟩:=hc2.ok c3'
      simp only [Option.bind_some] at h1
      rcases Ai h1 with⟨c4,h1⟩|⟨c4,h1⟩
      . obtain rfl:=Aa h1
        obtain rfl:=Aa h
        refine⟨_,e1 (.ok (Ab.mk bb.op 0 ⟨#[]⟩ [Ab.mk a b c e e2.At,g2.X] e2.At) (at_ L g2.To f)) ?_,t3,ht3,.inl ⟨rfl,?_⟩⟩
        . simp only [Option.bind_some,c4,cond_true];exact Ev.pure
        . rw [f4,hx]
      . obtain⟨y3,hy3,hc3⟩:=Y3 hlv hx n (fun m hm=>hB m (by omega)) _ _ _ _ _ t3 ht3 g (by rw [h1];exact h)
        refine⟨y3,e1 y3 ?_,hc3⟩
        simp only [Option.bind_some,c4,cond_false,f4,hx]
        exact hy3
  . have c1:((Nc t).N != lv)=true:=by simpa using f2
    rw [c1] at h1
    obtain rfl:=Aa h1
    obtain rfl:=Aa h
    have d0:decide (HE t lv L4 0<0)=true:=by rw [f1];decide
    refine⟨.ok (Ab.mk a b c e x.X.At) (at_ L to f),start _ ?_,t,ht,.inl ⟨rfl,rfl⟩⟩
    rw [d0,<- hp,hx];exact Ev.pure
theorem Aaj {n:Nat}(hB:∀ m,m<=n->SB L f m)(hG:SG L f n)(hM:SM L f n):SB L f (n+1):=by
 intro k lv d g l1 l7 h
 rw [AK.eq_2] at h
 by_cases h6:6<lv
 . obtain rfl:lv=7:=by omega
   simp only [show decide ((6:Int)<7)=true from rfl,cond_true] at h
   obtain⟨g1,h1,h⟩:=Ad h
   obtain rfl:=Aa h
   obtain⟨y,hy,hc⟩:=hM _ _ _ h1
   refine⟨y,?_,hc⟩
   refine Ev.step (fun m=>A2.eq_2 (n:=m) _ _ _) ?_
   simp only [show ((7:Int) == 3)=false from rfl,show ((7:Int) == 7)=true from rfl,cond_true,cond_false,Option.bind_some]
   refine Ev.bind hy ?_
   cases y<;>exact Ev.pure
 . have d6:decide (6<lv)=false:=by rw [decide_eq_false_iff_not];exact h6
   rw [d6] at h
   simp only [cond_false] at h
   by_cases h3:lv=3
   . subst h3
     simp only [beq_self_eq_true,cond_true] at h
     obtain⟨g1,h1,h⟩:=Ad h
     obtain rfl:=Aa h
     exact hG _ _ _ h1
   . have d3:(lv == 3)=false:=by simpa using h3
     rw [d3] at h
     simp only [cond_false] at h
     have wlT:IntKind.i64.wrap (lv+1)=lv+1:=by rw [AJ]<;>omega
     rw [wlT] at h
     obtain⟨x,h1,h⟩:=Ad h
     obtain⟨y,hy,hc⟩:=hB n (Nat.le_refl n) k (lv+1) d x (by omega) (by omega) h1
     have d7:(lv == 7)=false:=by simp;omega
     have start:∀ z,Ev (fun m=>match y with
      |.ok e2 p3 =>
       Bk m lv e2 d p3.l p3.forms e2.Op e2.N e2.S e2.Kids
      |.pan e3 p4=>some (.pan e3 p4)) z->Ev (fun m=>A2 m (at_ L k f) lv d) z:=by
      intro z hz
      refine Ev.step (fun m=>A2.eq_2 (n:=m) _ _ _) ?_
      simp only [d3,d7,wlT,cond_false,Option.bind_some]
      exact Ev.bind hy hz
     by_cases he:x.E=0
     . obtain⟨t,ht,rfl⟩:=hc.ok he
       rw [he] at h
       obtain⟨z,hz,hcz⟩:=Y3 hL f (lv:=lv) (d:=d) ⟨by omega,by omega,h3⟩ (x:=x) (e2:=x.X) rfl n (fun m hm=>hB m (by omega)) x.X.Op x.X.N x.X.S x.X.Kids x.To t ht g h
       exact⟨z,start z hz,hcz⟩
     . obtain⟨t,ht,rfl⟩:=hc.pan he
       refine⟨_,start _ Ev.pure,?_⟩
       obtain⟨w,h2,h⟩:=Ad h
       cases n with
       |zero=>cases h2
       |succ n =>
        rw [AF.eq_2] at h2
        have de:(x.E == 0)=false:=by simpa using he
        rw [de] at h2
        obtain rfl:=Aa h2
        obtain rfl:=Aa h
        exact⟨t,ht,.inr ⟨he,rfl⟩⟩
def MS (m:Nat)(d:Int)(l:List Ac)(f:Int)(e3:List Ab):Option ((List Ac×Int×List Ab) ⊕ (Ex Au Ae Ab)) :=
 bif ((e3.length:Int) == 40) then
  (BQ (Ae.mk l f) 0 true).bind fun y3=>match y3 with
  |.ok _ p9 =>
   (AN p9 2).bind fun y4=>match y4 with
   |.ok _ p11 =>
    (Az m p11 (IntKind.i64.wrap (d+1))).bind fun y5=>match y5 with
    |.ok e7 p13 =>
     (some [e7]).bind fun l =>
     (Cp 65 e3 l).bind fun l1 =>
     AO m d p13.l p13.forms l1
    |.pan e8 p14=>some (.inr (.pan e8 p14))
   |.pan e6 p12=>some (.inr (.pan e6 p12))
  |.pan e5 p10=>some (.inr (.pan e5 p10))
 else
  (Az m (Ae.mk l f) (IntKind.i64.wrap (d+1))).bind fun y6=>match y6 with
  |.ok e9 p15 =>
   (some [e9]).bind fun l2 =>
   (Cp 65 e3 l2).bind fun l3 =>
   AO m d p15.l p15.forms l3
  |.pan e10 p16=>some (.inr (.pan e10 p16))
omit hL in
theorem HJ (m:Nat){t:Ac}{r:List Ac}{f d:Int}{e3:List Ab}:AO (m+1) d (t::r) f e3 =
 if isS t ⟨#[41]⟩=true then some (.inl (t::r,f,e3)) else if 0<e3.length then (if isS t ⟨#[44]⟩=true then MS m d r f e3 else some (.inr (.pan ⟨t.At,5⟩ ⟨t::r,f⟩))) else MS m d (t::r) f e3:=by
 rw [AO.eq_2]
 simp only [K5,KW,Option.bind_some]
 cases isS t ⟨#[41]⟩ with
 |true=>rfl
 |false =>
  by_cases h0:0<e3.length
  . have d0:decide (0<(e3.length:Int))=true:=by rw [decide_eq_true_eq];omega
    rw [d0,if_pos h0]
    cases isS t ⟨#[44]⟩ with
    |true=>rfl
    |false=>rfl
  . have d0:decide (0<(e3.length:Int))=false:=by rw [decide_eq_false_iff_not];omega
    rw [d0,if_neg h0];rfl
omit hL in
theorem Wn {t:Ac}{d:Int}(h:fst t d true≠5):fst t 0 true=0:=by
 unfold fst at h ⊢
 split at h
 . exact absurd rfl h
 . rename_i hh
   rw [if_neg hh,if_neg (by decide)]
omit hL in
theorem Wo {t:Ac}{d:Int}(h:fst t d true=5):fst t 0 true=5:=by
 unfold fst at h ⊢
 split at h
 . rename_i hh;rw [if_pos hh]
 . split at h<;>cases h
omit hL in
theorem W2 {t:Ac}{r:List Ac}{f d:Int}(h:fst t d true≠0):Ev (fun m=>Az m ⟨t::r,f⟩ d) (.pan ⟨t.At,fst t d true⟩ ⟨t::r,f⟩):=by
 refine Ev.step (fun m=>Az.eq_2 (n:=m) _ _) ?_
 simp only [Jd,if_neg h,Option.bind_some]
 exact Ev.pure
def Aby (L:List Ac)(f:Int)(x:Ac)(g:A5)(w:(List Ac×Int×List Ab) ⊕ (Ex Au Ae Ab)):Prop :=
 (g.E=0/\∃ kids k t t',g.To=k+1/\gi L k=some t/\isS t ⟨#[41]⟩=true/\gi L (k+1)=some t'/\w=.inl (L.drop k.toNat,f,kids)/\g.X=⟨4,0,x.S,kids,x.At⟩) ∨
  (g.E≠0/\∃ t,gi L g.To=some t/\w=.inr (.pan ⟨t.At,g.E⟩ (at_ L g.To f)))
theorem Y4 {d:Int}{x:Ac}:∀ (n:Nat),(∀ m,m<n->SE L f m)->∀ (k:Int) (out:List Ab) (t:Ac),gi L k=some t->∀ g,B3 n L d x k out=some g ->
 ∃ w,Ev (fun m=>MS m d (L.drop k.toNat) f out) w/\Aby L f x g w
 |0,_,k,out,t,ht,g,h=>by cases h
 |n+1,hE,k,out,t,ht,g,h=>by
  rw [B3.eq_2,Gf ht] at h
  simp only [Option.bind_some] at h
  have hp:L.drop k.toNat=t::L.drop (k+1).toNat:=(A0 ht).1
  obtain⟨v,hv,h⟩:=Ad h
  have hv2:v=(decide (fst t (IntKind.i64.wrap (d+1)) true=2)||(decide (fst t (IntKind.i64.wrap (d+1)) true=0)&&((out.length:Int) == 40))):=by
   rcases Ue (t:=t) (d:=IntKind.i64.wrap (d+1)) (no:=true) with e|e|e<;>rw [e] at hv ⊢
   . cases h40:((out.length:Int) == 40)<;>rw [h40] at hv<;>exact (Aa hv).symm
   . exact (Aa hv).symm
   . exact (Aa hv).symm
  rcases Ai h with⟨c,h⟩|⟨c,h⟩
  . obtain rfl:=Aa h
    rw [c] at hv2
    refine⟨.inr (.pan ⟨t.At,2⟩ (at_ L k f)),?_,.inr ⟨show (2:Int)≠0 by decide,t,ht,rfl⟩⟩
    rw [hp,CP ht]
    unfold MS
    have hn5:fst t (IntKind.i64.wrap (d+1)) true≠5:=by
     intro e5;rw [e5] at hv2;cases hv2
    cases h40:((out.length:Int) == 40) with
    |true =>
     simp only [cond_true,Jd,Wn hn5,if_true,Option.bind_some,GJ]
     exact Ev.pure
    |false =>
     have e2:fst t (IntKind.i64.wrap (d+1)) true=2:=by
      rw [h40] at hv2;simpa using hv2.symm
     simp only [cond_false]
     have:=W2 (t:=t) (r:=L.drop (k+1).toNat) (f:=f) (d:=IntKind.i64.wrap (d+1)) (by rw [e2];decide)
     rw [e2] at this
     exact Ev.bind this Ev.pure
  . rw [c] at hv2
    obtain⟨g1,h1,h⟩:=Ad h
    obtain⟨y,hy,hc⟩:=hE n (by omega) _ _ _ h1
    cases h40:((out.length:Int) == 40) with
    |true =>
     -- a problem of syntax
     have e5:fst t (IntKind.i64.wrap (d+1)) true=5:=by
      rcases Ue (t:=t) (d:=IntKind.i64.wrap (d+1)) (no:=true) with e|e|e
      . rw [h40,e] at hv2;cases hv2
      . exact e
      . rw [e] at hv2;cases hv2
     cases n with
     |zero=>cases h1
     |succ n =>
      rw [AY.eq_2,Gf ht,e5] at h1
      obtain rfl:=Aa h1
      obtain rfl:=Aa h
      refine⟨.inr (.pan ⟨t.At,5⟩ (at_ L k f)),?_,.inr ⟨show (5:Int)≠0 by decide,t,ht,rfl⟩⟩
      rw [hp,CP ht]
      unfold MS
      rw [h40]
      simp only [cond_true,Jd,Wo e5,Option.bind_some]
      exact Ev.pure
    |false =>
     have start:∀ z,Ev (fun m=>match y with
      |.ok e9 p15 =>
       (some [e9]).bind fun l2 =>
       (Cp 65 out l2).bind fun l3 =>
       AO m d p15.l p15.forms l3
      |.pan e10 p16=>some (.inr (.pan e10 p16))) z->Ev (fun m=>MS m d (L.drop k.toNat) f out) z:=by
      intro z hz
      unfold MS
      rw [h40]
      exact Ev.bind hy hz
     rcases Ai h with⟨c2,h⟩|⟨c2,h⟩
     . obtain rfl:=Aa h
       have c2':g1.E≠0:=by simpa using c2
       obtain⟨t1,ht1,rfl⟩:=hc.pan c2'
       exact⟨_,start _ Ev.pure,.inr ⟨c2',t1,ht1,rfl⟩⟩
     . have c2':g1.E=0:=by simpa using c2
       obtain⟨t1,ht1,rfl⟩:=hc.ok c2'
       obtain⟨l2,hl2,h⟩:=Ad (show (Cp 65 out [g1.X]).bind _=some g from h)
       rw [BA ht1] at h
       simp only [Option.bind_some,BA ht1] at h
       have hlen:0<l2.length:=by
        unfold Cp at hl2
        split at hl2
        . obtain rfl:=Aa hl2;simp
        . cases hl2
       have hp1:L.drop g1.To.toNat=t1::L.drop (g1.To+1).toNat:=(A0 ht1).1
       have e1:∀ z,Ev (fun m=>AO m d (L.drop g1.To.toNat) f l2) z->Ev (fun m=>MS m d (L.drop k.toNat) f out) z:=by
        intro z hz
        refine start z ?_
        simp only [Option.bind_some,hl2]
        exact hz
       rcases Ai h with⟨c3,h⟩|⟨c3,h⟩
       . have c3':isS t1 ⟨#[41]⟩=true:=c3
         obtain⟨t2,ht2⟩:=hL.next _ _ ht1 (by rw [Ef c3'];decide)
         obtain rfl:=Aa h
         rw [C0 hL ht1]
         refine⟨.inl (L.drop g1.To.toNat,f,l2),e1 _ ?_,.inl ⟨rfl,l2,g1.To,t1,t2,rfl,ht1,c3',ht2,rfl,rfl⟩⟩
         rw [hp1]
         refine Ev.step (fun m=>HJ m) ?_
         simp only [c3',if_true];exact Ev.pure
       . have c3':isS t1 ⟨#[41]⟩=false:=c3
         rcases Ai h with⟨c4,h⟩|⟨c4,h⟩
         . have c4':isS t1 ⟨#[44]⟩=false:=by
            have:(!isS t1 ⟨#[44]⟩)=true:=c4
            simpa using this
           obtain rfl:=Aa h
           refine⟨.inr (.pan ⟨t1.At,5⟩ (at_ L g1.To f)),e1 _ ?_,.inr ⟨show (5:Int)≠0 by decide,t1,ht1,rfl⟩⟩
           rw [hp1,CP ht1]
           refine Ev.step (fun m=>HJ m) ?_
           simp only [c3',c4',hlen,if_true,if_false,Bool.false_eq_true];exact Ev.pure
         . have c4':isS t1 ⟨#[44]⟩=true:=by
            have:(!isS t1 ⟨#[44]⟩)=false:=c4
            simpa using this
           obtain⟨t2,ht2⟩:=hL.next _ _ ht1 (by rw [Ef c4'];decide)
           rw [C0 hL ht1] at h
           obtain⟨w,hw,hcw⟩:=Y4 n (fun m hm=>hE m (by omega)) (g1.To+1) l2 t2 ht2 g h
           refine⟨w,e1 w ?_,hcw⟩
           rw [hp1]
           refine Ev.step (fun m=>HJ m) ?_
           simp only [c3',c4',hlen,if_true,if_false,Bool.false_eq_true];exact hw
theorem Aak {n:Nat}(hE:∀ m,m<=n->SE L f m):SA L f (n+1):=by
 intro k d g t ht hm h
 rw [Ci.eq_2,ht] at h
 simp only [Option.bind_some] at h
 rw [BA ht] at h
 simp only [Option.bind_some] at h
 have hmem:=Gz ht
 have hbeg:Gm t=(t.Kind == 1||(t.Kind == 2||(t.Kind == 3||isS t ⟨#[40]⟩))):=by
  unfold Gm
  show (t.Kind == 1||(t.Kind == 2||(t.Kind == 3||(isS t ⟨#[40]⟩||isS t ⟨#[45]⟩))))=_
  rw [hm,Bool.or_false]
 have hp:L.drop k.toNat=t::L.drop (k+1).toNat:=(A0 ht).1
 -- behind the first test
 have start:Gm t=true->∀ z,Ev (fun m =>
  bif (t.Kind == 2) then
   some (.ok (Ab.mk 1 t.N t.S [] t.At) (at_ L (k+1) f))
  else
   bif (t.Kind == 3) then
    some (.ok (Ab.mk 2 t.N t.S [] t.At) (at_ L (k+1) f))
   else
    bif (t.Kind == 1) then
     (AM (at_ L (k+1) f) ⟨#[40]⟩).bind fun i =>
     bif (!i) then
      some (.ok (Ab.mk 3 t.N t.S [] t.At) (at_ L (k+1) f))
     else
      (A6 (at_ L (k+1) f)).bind fun n_ =>
      ((AO m d n_.2.l n_.2.forms []
      ):Option (((List Ac)×Int×(List Ab)) ⊕ (Ex Au Ae Ab))).bind fun y1=>match y1 with
      |.inl (p3,p4,e1) =>
       (A6 (Ae.mk p3 p4)).bind fun n_1 =>
       some (.ok (Ab.mk 4 t.N t.S e1 t.At) n_1.2)
      |.inr o=>some o
    else
     (Az m (at_ L (k+1) f) (IntKind.i64.wrap (d+1))).bind fun y8=>match y8 with
     |.ok e12 p19 =>
      (Bl p19 ⟨#[41]⟩).bind fun y9=>match y9 with
      |.ok n_3 p21 =>
       some (.ok e12 p21)
      |.pan e14 p22=>some (.pan e14 p22)
     |.pan e13 p20=>some (.pan e13 p20)) z->Ev (fun m=>AT m (at_ L k f) d) z:=by
  intro hb z hz
  refine Ev.step (fun m=>AT.eq_2 (n:=m) _ _) ?_
  have hb':BD (at_ L k f)=some true:=by rw [CP ht,Hr];exact congrArg some hb
  rw [hb']
  simp only [Option.bind_some,Bool.not_true,cond_false]
  rw [hp]
  simp only [DT,Option.bind_some]
  exact hz
 rcases Ai h with⟨c,h⟩|⟨c,h⟩
 . -- in parentheses
   have c':isS t ⟨#[40]⟩=true:=c
   have hk4:=Ef c'
   obtain⟨t2,ht2⟩:=hL.next _ _ ht (by rw [hk4];decide)
   rw [C0 hL ht] at h
   obtain⟨g1,h1,h⟩:=Ad h
   obtain⟨y,hy,hc⟩:=hE n (Nat.le_refl n) _ _ _ h1
   have hb:Gm t=true:=by rw [hbeg,c'];simp
   have e1:∀ z,Ev (fun m=>match y with
    |.ok e12 p19 =>
     (Bl p19 ⟨#[41]⟩).bind fun y9=>match y9 with
     |.ok n_3 p21 =>
      some (.ok e12 p21)
     |.pan e14 p22=>some (.pan e14 p22)
    |.pan e13 p20=>some (.pan e13 p20)) z->Ev (fun m=>AT m (at_ L k f) d) z:=by
    intro z hz
    refine start hb z ?_
    simp only [hk4,show ((4:Int) == 2)=false from rfl,show ((4:Int) == 3)=false from rfl,show ((4:Int) == 1)=false from rfl,cond_false]
    exact Ev.bind hy hz
   rcases Ai h with⟨c2,h⟩|⟨c2,h⟩
   . obtain rfl:=Aa h
     have c2':g1.E≠0:=by simpa using c2
     obtain⟨t1,ht1,rfl⟩:=hc.pan c2'
     exact⟨_,e1 _ Ev.pure,t1,ht1,.inr ⟨c2',rfl⟩⟩
   . have c2':g1.E=0:=by simpa using c2
     obtain⟨t1,ht1,rfl⟩:=hc.ok c2'
     rw [BA ht1] at h
     simp only [Option.bind_some] at h
     rcases Ai h with⟨c3,h⟩|⟨c3,h⟩
     . have c3':isS t1 ⟨#[41]⟩=false:=by
        have:(!isS t1 ⟨#[41]⟩)=true:=c3
        simpa using this
       obtain rfl:=Aa h
       refine⟨.pan ⟨t1.At,5⟩ (at_ L g1.To f),e1 _ ?_,t1,ht1,.inr ⟨show (5:Int)≠0 by decide,rfl⟩⟩
       rw [CP ht1]
       simp only [KW,c3',Option.bind_some,Bool.false_eq_true,if_false]
       exact Ev.pure
     . have c3':isS t1 ⟨#[41]⟩=true:=by
        have:(!isS t1 ⟨#[41]⟩)=false:=c3
        simpa using this
       obtain⟨t3,ht3⟩:=hL.next _ _ ht1 (by rw [Ef c3'];decide)
       rw [C0 hL ht1] at h
       obtain rfl:=Aa h
       refine⟨.ok g1.X (at_ L (g1.To+1) f),e1 _ ?_,t3,ht3,.inl ⟨rfl,rfl⟩⟩
       rw [CP ht1]
       simp only [KW,c3',Option.bind_some,if_true]
       exact Ev.pure
 . have c':isS t ⟨#[40]⟩=false:=c
   rw [c',Bool.or_false] at hbeg
   by_cases k2:t.Kind=2
   . simp only [k2,beq_self_eq_true,cond_true] at h
     obtain⟨t2,ht2⟩:=hL.next _ _ ht (by rw [k2];decide)
     rw [C0 hL ht] at h
     obtain rfl:=Aa h
     refine⟨.ok (Ab.mk 1 t.N ⟨#[]⟩ [] t.At) (at_ L (k+1) f),start (by rw [hbeg,k2];rfl) _ ?_,t2,ht2,.inl ⟨rfl,rfl⟩⟩
     simp only [k2,beq_self_eq_true,cond_true,hL.num t hmem k2]
     exact Ev.pure
   . have d2:(t.Kind == 2)=false:=by simpa using k2
     have hN:=hL.other t hmem k2
     rw [d2] at h
     simp only [cond_false] at h
     by_cases k3:t.Kind=3
     . simp only [k3,beq_self_eq_true,cond_true] at h
       obtain⟨t2,ht2⟩:=hL.next _ _ ht (by rw [k3];decide)
       rw [C0 hL ht] at h
       obtain rfl:=Aa h
       refine⟨.ok (Ab.mk 2 0 t.S [] t.At) (at_ L (k+1) f),start (by rw [hbeg,k3];rfl) _ ?_,t2,ht2,.inl ⟨rfl,rfl⟩⟩
       simp only [d2,k3,beq_self_eq_true,cond_true,cond_false,hN]
       exact Ev.pure
     . have d3:(t.Kind == 3)=false:=by simpa using k3
       rw [d3] at h
       simp only [cond_false] at h
       by_cases k1:t.Kind=1
       . have d1:(t.Kind != 1)=false:=by simp [k1]
         rw [d1] at h
         simp only [cond_false] at h
         obtain⟨t2,ht2⟩:=hL.next _ _ ht (by rw [k1];decide)
         rw [C0 hL ht] at h
         rw [BA ht2] at h
         simp only [Option.bind_some] at h
         have hb:Gm t=true:=by rw [hbeg,k1];rfl
         have dk1:(t.Kind == 1)=true:=by simp [k1]
         rcases Ai h with⟨c4,h⟩|⟨c4,h⟩
         . have c4':isS t2 ⟨#[40]⟩=false:=by
            have:(!isS t2 ⟨#[40]⟩)=true:=c4
            simpa using this
           obtain rfl:=Aa h
           refine⟨.ok (Ab.mk 3 0 t.S [] t.At) (at_ L (k+1) f),start hb _ ?_,t2,ht2,.inl ⟨rfl,rfl⟩⟩
           rw [CP ht2]
           simp only [d2,d3,dk1,K5,c4',cond_true,cond_false,Option.bind_some,Bool.not_false,hN]
           exact Ev.pure
         . have c4':isS t2 ⟨#[40]⟩=true:=by
            have:(!isS t2 ⟨#[40]⟩)=false:=c4
            simpa using this
           obtain⟨t3,ht3⟩:=hL.next _ _ ht2 (by rw [Ef c4'];decide)
           have e1:∀ z,Ev (fun m=>((AO m d (L.drop (k+1+1).toNat) f []
            ):Option (((List Ac)×Int×(List Ab)) ⊕ (Ex Au Ae Ab))).bind fun y1=>match y1 with
            |.inl (p3,p4,e1) =>
             (A6 (Ae.mk p3 p4)).bind fun n_1 =>
             some (.ok (Ab.mk 4 t.N t.S e1 t.At) n_1.2)
            |.inr o=>some o) z->Ev (fun m=>AT m (at_ L k f) d) z:=by
            intro z hz
            refine start hb z ?_
            rw [CP ht2]
            simp only [d2,d3,dk1,K5,c4',DT,cond_true,cond_false,Option.bind_some,Bool.not_true]
            exact hz
           obtain⟨g1,h1,h⟩:=Ad h
           obtain rfl:=Aa h
           have hk2:IntKind.i64.wrap (k+2)=k+1+1:=by
            have:=C0 hL ht2
            rw [show k+2=k+1+1 by omega];exact this
           cases n with
           |zero=>cases h1
           |succ n =>
            rw [CE.eq_2,ht,hk2] at h1
            simp only [Option.bind_some] at h1
            rw [BA ht3] at h1
            simp only [Option.bind_some] at h1
            have hp3:L.drop (k+1+1).toNat=t3::L.drop (k+1+1+1).toNat:=(A0 ht3).1
            rcases Ai h1 with⟨c5,h1⟩|⟨c5,h1⟩
            . have c5':isS t3 ⟨#[41]⟩=true:=c5
              obtain⟨t4,ht4⟩:=hL.next _ _ ht3 (by rw [Ef c5'];decide)
              rw [C0 hL ht3] at h1
              obtain rfl:=Aa h1
              refine⟨.ok (Ab.mk 4 0 t.S [] t.At) (at_ L (k+1+1+1) f),e1 _ ?_,t4,ht4,.inl ⟨rfl,rfl⟩⟩
              rw [hp3]
              refine Ev.bind (a:=.inl (t3::L.drop (k+1+1+1).toNat,f,[])) (Ev.step (fun m=>HJ m) ?_) ?_
              . simp only [c5',if_true];exact Ev.pure
              . simp only [DT,Option.bind_some,hN];exact Ev.pure
            . have c5':isS t3 ⟨#[41]⟩=false:=c5
              obtain⟨w,hw,hcw⟩:=Y4 hL f (x:=t) n (fun m hm=>hE m (by omega)) (k+1+1) [] t3 ht3 g1 h1
              have hw2:Ev (fun m=>AO m d (L.drop (k+1+1).toNat) f []) w:=by
               rw [hp3] at hw ⊢
               refine Ev.step (fun m=>HJ m) ?_
               simp only [c5',List.length_nil,Nat.lt_irrefl,if_false,Bool.false_eq_true]
               exact hw
              rcases hcw with⟨he,kids,q,t5,t6,hq,ht5,_,ht6,rfl,hX⟩|⟨he,t5,ht5,rfl⟩
              . refine⟨.ok g1.X (at_ L g1.To f),e1 _ (Ev.bind hw2 ?_),t6,by rw [hq];exact ht6,.inl ⟨he,rfl⟩⟩
                have hp5:L.drop q.toNat=t5::L.drop (q+1).toNat:=(A0 ht5).1
                rw [hX,hq,hp5]
                simp only [DT,Option.bind_some,hN]
                exact Ev.pure
              . exact⟨_,e1 _ (Ev.bind hw2 Ev.pure),t5,ht5,.inr ⟨he,rfl⟩⟩
       . have d1:(t.Kind != 1)=true:=by simpa using k1
         rw [d1] at h
         obtain rfl:=Aa h
         have hb:Gm t=false:=by rw [hbeg,d2,d3];simpa using k1
         refine⟨.pan ⟨t.At,5⟩ (at_ L k f),?_,t,ht,.inr ⟨show (5:Int)≠0 by decide,rfl⟩⟩
         refine Ev.step (fun m=>AT.eq_2 (n:=m) _ _) ?_
         have hb':BD (at_ L k f)=some false:=by rw [CP ht,Hr];exact congrArg some hb
         rw [hb',CP ht]
         simp only [Option.bind_some,Bool.not_false,cond_true,GJ]
         exact Ev.pure
theorem Aam:∀ n,(∀ m,m<=n->SE L f m)/\(∀ m,m<=n->SB L f m)/\(∀ m,m<=n->SG L f m)/\(∀ m,m<=n->SM L f m)/\(∀ m,m<=n->SA L f m)
 |0=>by
  refine⟨fun m hm=>?_,fun m hm=>?_,fun m hm=>?_,fun m hm=>?_,fun m hm=>?_⟩<;>obtain rfl:m=0:=by omega
  . intro k d g h;cases h
  . intro k lv d g _ _ h;cases h
  . intro k d g h;cases h
  . intro k d g h;cases h
  . intro k d g t _ _ h;cases h
 |n+1=>by
  obtain⟨hE,hB,hG,hM,hA⟩:=Aam n
  have up:∀ (S:Nat->Prop),(∀ m,m<=n->S m)->S (n+1)->∀ m,m<=n+1->S m:=fun S h1 h2 m hm=>by
   by_cases e:m=n+1
   . rw [e];exact h2
   . exact h1 m (by omega)
  exact⟨up _ hE (Aai hL f (hE n (Nat.le_refl n)) (hB n (Nat.le_refl n))),up _ hB (Aaj hL f hB (hG n (Nat.le_refl n)) (hM n (Nat.le_refl n))),up _ hG (stepG hL f (hG n (Nat.le_refl n)) (hB n (Nat.le_refl n))),
   up _ hM (Aah hL f (hM n (Nat.le_refl n)) (hA n (Nat.le_refl n))),up _ hA (Aak hL f hE)⟩
theorem Ab8 {n:Nat}{k d:Int}{g:A5}(h:AY n L k d=some g):∃ y,Ev (fun m=>Az m (at_ L k f) d) y/\Ni L f g y:=(Aam hL f n).1 n (Nat.le_refl n) k d g h
end
end Go.Sp
namespace Go.Sp
open Go
def Fo (L:List Ac)(k:Int)(F:Nat->Option A5):Prop:=∃ g,Ev F g/\(∃ t',gi L g.To=some t')/\(g.E=0->k<g.To)
structure LM (L:List Ac) (k:Int):Prop where
 E:∀ d,Fo L k (fun n=>AY n L k d)
 B:∀ lv d,1<=lv->lv<=7->Fo L k (fun n=>AK n L k lv d)
 G:∀ d,Fo L k (fun n=>BY n L k d)
 M:∀ d,Fo L k (fun n=>BE n L k d)
theorem Fo.fail {L:List Ac}{k:Int}{F:Nat->Option A5}{g:A5}{t:Ac}(h:Ev F g)(ht:gi L g.To=some t)(he:g.E≠0):Fo L k F:=⟨g,h,⟨t,ht⟩,fun e=>absurd e he⟩
section
variable {L:List Ac} (hL:OX L)
include hL
theorem QW {lv d:Int}(hlv:1<=lv/\lv<=6/\lv≠3){x:A5}(k0:Int)(hE:∀ k t,gi L k=some t->k0<k->LM L k) :
 ∀ (r:Nat) (a b:Int) (c:ByteArray) (e:List Ab) (to:Int) (t:Ac),gi L to=some t->k0<to->(L.length:Int)-to<=r ->
  Fo L k0 (fun n=>(AF n L lv x d a b c e to 0).bind (fun y=>match y with
   |.inl (x1,x2,x3,x4,x5,x6)=>some (A5.mk (Ab.mk x1 x2 x3 x4 x.X.At) x5 x6)
   |.inr o=>some o))
 |0,a,b,c,e,to,t,ht,h0,hr=>by
  have:=(A0 ht).2;omega
 |r+1,a,b,c,e,to,t,ht,h0,hr=>by
  have wlT:IntKind.i64.wrap (lv+1)=lv+1:=by rw [AJ]<;>omega
  have start:∀ g,Ev (fun n=>((bif ((Nc t).N != lv) then
   some (.inr (A5.mk (Ab.mk a b c e x.X.At) to 0))
   else
    (AK n L (IntKind.i64.wrap (to+1)) (lv+1) d).bind fun y1 =>
    bif (y1.E != 0) then
     some (.inr y1)
    else
     (some [(Ab.mk a b c e x.X.At),y1.X]).bind fun l1 =>
     bif (lv == 4) then
      some (.inr (A5.mk (Ab.mk (Nc t).Op 0 ⟨#[]⟩ l1 x.X.At) y1.To 0))
     else
      AF n L lv x d (Nc t).Op 0 ⟨#[]⟩ l1 y1.To 0):Option ((Int×Int×ByteArray×(List Ab)×Int×Int) ⊕ A5)).bind (fun y=>match y with
   |.inl (x1,x2,x3,x4,x5,x6)=>some (A5.mk (Ab.mk x1 x2 x3 x4 x.X.At) x5 x6)
   |.inr o=>some o)) g->Ev (fun n=>(AF n L lv x d a b c e to 0).bind (fun y=>match y with
   |.inl (x1,x2,x3,x4,x5,x6)=>some (A5.mk (Ab.mk x1 x2 x3 x4 x.X.At) x5 x6)
   |.inr o=>some o)) g:=by
   rintro g ⟨N,hg⟩
   obtain⟨M,hM⟩:=VX ht
   refine⟨max N M+1,fun n hn=>?_⟩
   obtain⟨n,rfl⟩:∃ m,n=m+1:=⟨n-1,by omega⟩
   have h1:=hg n (by omega)
   have h2:=hM n (by omega)
   simp only at h1 h2 ⊢
   rw [AF.eq_2,h2]
   simp only [beq_self_eq_true,cond_true,Option.bind_some,wlT]
   exact h1
  by_cases hN:(Nc t).N=lv
  . have hb:((Nc t).N != lv)=false:=by simpa using hN
    have htn:t.Kind≠5:=by
     intro h5
     have:∀ (z:List (ByteArray×Int)) (j:Nat),(Hg t z j).N=0:=by
      intro z
      induction z with
      |nil=>intro j;rfl
      |cons y z ih =>
       intro j
       show (if isS t y.1=true then (⟨y.2,7+(j:Int)⟩:B7) else Hg t z (j+1)).N=0
       rw [if_neg (by unfold isS;rw [h5];simp)];exact ih _
     have:=this Xd 0
     have h9:(Nc t).N=0:=this
     omega
    obtain⟨t1,ht1⟩:=hL.next _ _ ht htn
    have hk:=A0 ht
    obtain⟨g1,hg1,⟨t2,ht2⟩,hlt⟩:=(hE (to+1) t1 ht1 (by omega)).B (lv+1) d (by omega) (by omega)
    have e1:∀ g,Ev (fun n=>((bif (g1.E != 0) then
     some (.inr g1)
     else
      (some [(Ab.mk a b c e x.X.At),g1.X]).bind fun l1 =>
      bif (lv == 4) then
       some (.inr (A5.mk (Ab.mk (Nc t).Op 0 ⟨#[]⟩ l1 x.X.At) g1.To 0))
      else
       AF n L lv x d (Nc t).Op 0 ⟨#[]⟩ l1 g1.To 0):Option ((Int×Int×ByteArray×(List Ab)×Int×Int) ⊕ A5)).bind (fun y=>match y with
     |.inl (x1,x2,x3,x4,x5,x6)=>some (A5.mk (Ab.mk x1 x2 x3 x4 x.X.At) x5 x6)
     |.inr o=>some o)) g->Ev (fun n=>(AF n L lv x d a b c e to 0).bind (fun y=>match y with
     |.inl (x1,x2,x3,x4,x5,x6)=>some (A5.mk (Ab.mk x1 x2 x3 x4 x.X.At) x5 x6)
     |.inr o=>some o)) g:=by
     rintro g ⟨N,hg⟩
     obtain⟨M,hM⟩:=hg1
     refine start g ⟨max N M,fun n hn=>?_⟩
     have h1:=hg n (by omega)
     have h2:=hM n (by omega)
     simp only at h1 h2 ⊢
     rw [hb,C0 hL ht]
     simp only [cond_false,h2,Option.bind_some]
     exact h1
    by_cases he:g1.E=0
    . have hb2:(g1.E != 0)=false:=by simpa using he
      rw [hb2] at e1
      simp only [cond_false,Option.bind_some] at e1
      by_cases h4:lv=4
      . have hb4:(lv == 4)=true:=by simpa using h4
        rw [hb4] at e1
        refine⟨⟨⟨(Nc t).Op,0,⟨#[]⟩,[Ab.mk a b c e x.X.At,g1.X],x.X.At⟩,g1.To,0⟩,e1 _ ?_,⟨t2,ht2⟩,fun _=>?_⟩
        . simp only [cond_true,Option.bind_some];exact Ev.pure
        . have:=hlt he;show k0<g1.To;omega
      . have hb4:(lv == 4)=false:=by simpa using h4
        rw [hb4] at e1
        have:=hlt he
        obtain⟨g2,hg2,hr2⟩:=QW hlv k0 hE r (Nc t).Op 0 ⟨#[]⟩ [Ab.mk a b c e x.X.At,g1.X] g1.To t2 ht2 (by omega) (by omega)
        exact⟨g2,e1 g2 (by simp only [cond_false];exact hg2),hr2⟩
    . have hb2:(g1.E != 0)=true:=by simpa using he
      rw [hb2] at e1
      exact Fo.fail (e1 g1 (by simp only [cond_true,Option.bind_some];exact Ev.pure)) ht2 he
  . have hb:((Nc t).N != lv)=true:=by simpa using hN
    rw [hb] at start
    exact⟨_,start _ (by simp only [cond_true,Option.bind_some];exact Ev.pure),⟨t,ht⟩,fun _=>h0⟩
omit hL in
theorem Fo.step {k:Int}{F G:Nat->Option A5}(e:∀ n,F (n+1)=G n):Fo L k G->Fo L k F
 |⟨g,h,r⟩=>⟨g,Ev.step e h,r⟩
omit hL in
theorem Fo.pan {k:Int}{g:A5}{t:Ac}(ht:gi L g.To=some t)(he:g.E≠0):Fo L k (fun _=>some g):=Fo.fail Ev.pure ht he
omit hL in
theorem Fo.ok {k:Int}{g:A5}{t:Ac}(ht:gi L g.To=some t)(hk:k<g.To):Fo L k (fun _=>some g):=⟨g,Ev.pure,⟨t,ht⟩,fun _=>hk⟩
omit hL in
theorem Fo.id {k:Int}{F:Nat->Option A5}(h:Fo L k F):Fo L k (fun n=>(F n).bind fun x=>some x):=by
 obtain⟨g,h,r⟩:=h
 exact⟨g,Ev.bind h Ev.pure,r⟩
omit hL in
theorem Fo.got {k k':Int}{F:Nat->Option A5}{K:Nat->A5->Option A5}(h:Fo L k' F)
 (hK:∀ g t,gi L g.To=some t->g.E=0->k'<g.To->Fo L k (fun n=>K n g)):Fo L k (fun n=>(F n).bind fun g=>bif (g.E != 0) then some g else K n g):=by
 obtain⟨g,h,⟨t,ht⟩,hk⟩:=h
 by_cases he:g.E=0
 . obtain⟨g2,h2,r⟩:=hK g t ht he (hk he)
   refine⟨g2,Ev.bind h ?_,r⟩
   refine h2.congr fun n=>?_
   rw [show (g.E != 0)=false by simpa using he];rfl
 . refine⟨g,Ev.bind h ?_,⟨t,ht⟩,fun e=>absurd e he⟩
   refine Ev.of fun n=>?_
   rw [show (g.E != 0)=true by simpa using he];rfl
theorem Zf {k:Int}{t:Ac}(ht:gi L k=some t)(h5:t.Kind≠5):∃ t',gi L (k+1)=some t':=hL.next _ _ ht h5
theorem TV {k:Int}{t:Ac}{s:ByteArray}(ht:gi L k=some t)(h5:isS t s=true):∃ t',gi L (k+1)=some t':=hL.next _ _ ht (by rw [Ef h5];decide)
theorem Ab4 {k:Int}{t:Ac}(ht:gi L k=some t)(hA:∀ d,Fo L k (fun n=>Ci n L k d))(hE:∀ k' t',gi L k'=some t'->k<k'->LM L k')(d:Int):Fo L k (fun n=>BE n L k d):=by
 refine Fo.step (fun n=>BE.eq_2 (n:=n) _ _ _) ?_
 simp only [BA ht,Option.bind_some,C0 hL ht]
 by_cases c:isS t ⟨#[45]⟩=true
 . obtain⟨t1,ht1⟩:=TV hL ht c
   have c':(t.Kind == 4&&decide (t.S=⟨#[45]⟩))=true:=c
   simp only [c',Bool.not_true,cond_false,Gf ht1,Option.bind_some]
   by_cases c2:fst t1 (IntKind.i64.wrap (d+1)) false=0
   . simp only [show (fst t1 (IntKind.i64.wrap (d+1)) false != 0)=false by simpa using c2,cond_false]
     refine Fo.got ((hE _ _ ht1 (by omega)).M _) fun g t2 ht2 _ hk=>?_
     simp only [ht,Option.bind_some]
     exact Fo.ok ht2 (by show k<g.To;omega)
   . simp only [show (fst t1 (IntKind.i64.wrap (d+1)) false != 0)=true by simpa using c2,cond_true]
     exact Fo.pan ht1 c2
 . have c':(t.Kind == 4&&decide (t.S=⟨#[45]⟩))=false:=by simpa [isS] using c
   simp only [c',Bool.not_false,cond_true]
   exact (hA d).id
theorem Ab5 {k:Int}{t:Ac}(ht:gi L k=some t)(hB:∀ d,Fo L k (fun n=>AK n L k 4 d))(hE:∀ k' t',gi L k'=some t'->k<k'->LM L k')(d:Int):Fo L k (fun n=>BY n L k d):=by
 refine Fo.step (fun n=>BY.eq_2 (n:=n) _ _ _) ?_
 simp only [BA ht,Option.bind_some,C0 hL ht]
 by_cases c:isS t ⟨#[33]⟩=true
 . obtain⟨t1,ht1⟩:=TV hL ht c
   have c':(t.Kind == 4&&decide (t.S=⟨#[33]⟩))=true:=c
   simp only [c',Bool.not_true,cond_false,Gf ht1,Option.bind_some]
   by_cases c2:fst t1 (IntKind.i64.wrap (d+1)) true=0
   . simp only [show (fst t1 (IntKind.i64.wrap (d+1)) true != 0)=false by simpa using c2,cond_false]
     refine Fo.got ((hE _ _ ht1 (by omega)).G _) fun g t2 ht2 _ hk=>?_
     simp only [ht,Option.bind_some]
     exact Fo.ok ht2 (by show k<g.To;omega)
   . simp only [show (fst t1 (IntKind.i64.wrap (d+1)) true != 0)=true by simpa using c2,cond_true]
     exact Fo.pan ht1 c2
 . have c':(t.Kind == 4&&decide (t.S=⟨#[33]⟩))=false:=by simpa [isS] using c
   simp only [c',Bool.not_false,cond_true]
   exact (hB d).id
theorem Vw {k lv:Int}(hlv:1<=lv/\lv<=6/\lv≠3)(hB:∀ d,Fo L k (fun n=>AK n L k (lv+1) d))(hE:∀ k' t',gi L k'=some t'->k<k'->LM L k')(d:Int):Fo L k (fun n=>AK n L k lv d):=by
 have wlT:IntKind.i64.wrap (lv+1)=lv+1:=by rw [AJ]<;>omega
 refine Fo.step (fun n=>AK.eq_2 (n:=n) _ _ _ _) ?_
 simp only [show decide (6<lv)=false by simpa using hlv.2.1,show (lv == 3)=false by simpa using hlv.2.2,cond_false,wlT]
 obtain⟨x,hx,⟨t1,ht1⟩,hk⟩:=hB d
 by_cases he:x.E=0
 . obtain⟨g,hg,r⟩:=QW hL (d:=d) (x:=x) hlv k hE (L.length-x.To.toNat) x.X.Op x.X.N x.X.S x.X.Kids x.To t1 ht1 (hk he) (by have:=A0 ht1;omega)
   rw [<- he] at hg
   exact⟨g,Ev.bind hx hg,r⟩
 . refine⟨⟨⟨x.X.Op,x.X.N,x.X.S,x.X.Kids,x.X.At⟩,x.To,x.E⟩,Ev.bind hx ?_,⟨t1,ht1⟩,fun e=>absurd e he⟩
   refine Ev.step (fun n=>rfl) (f:=fun n=>_) ?_
   simp only [AF.eq_2,show (x.E == 0)=false by simpa using he,cond_false,Option.bind_some]
   exact Ev.pure
theorem Ab6 {k:Int}{t:Ac}(ht:gi L k=some t)(hB:∀ d,Fo L k (fun n=>AK n L k 1 d))(hE:∀ k' t',gi L k'=some t'->k<k'->LM L k')(d:Int):Fo L k (fun n=>AY n L k d):=by
 refine Fo.step (fun n=>AY.eq_2 (n:=n) _ _ _) ?_
 simp only [Gf ht,Option.bind_some]
 by_cases c2:fst t d true=0
 . simp only [show (fst t d true != 0)=false by simpa using c2,cond_false]
   refine Fo.got (hB d) fun c t1 ht1 he hk=>?_
   simp only [BA ht1,Option.bind_some,C0 hL ht1]
   by_cases c3:isS t1 ⟨#[63]⟩=true
   . have c':(t1.Kind == 4&&decide (t1.S=⟨#[63]⟩))=true:=c3
     simp only [c',Bool.not_true,cond_false]
     obtain⟨t2,ht2⟩:=TV hL ht1 c3
     refine Fo.got ((hE _ _ ht2 (by omega)).E _) fun a t3 ht3 _ hk2=>?_
     simp only [BA ht3,Option.bind_some,C0 hL ht3]
     by_cases c4:isS t3 ⟨#[58]⟩=true
     . have c':(t3.Kind == 4&&decide (t3.S=⟨#[58]⟩))=true:=c4
       simp only [c',Bool.not_true,cond_false]
       obtain⟨t4,ht4⟩:=TV hL ht3 c4
       refine Fo.got ((hE _ _ ht4 (by omega)).E _) fun b t5 ht5 _ hk3=>?_
       exact Fo.ok ht5 (by show k<b.To;omega)
     . have c':(t3.Kind == 4&&decide (t3.S=⟨#[58]⟩))=false:=by simpa [isS] using c4
       simp only [c',Bool.not_false,cond_true]
       exact Fo.pan ht3 (show (5:Int)≠0 by decide)
   . have c':(t1.Kind == 4&&decide (t1.S=⟨#[63]⟩))=false:=by simpa [isS] using c3
     simp only [c',Bool.not_false,cond_true]
     exact Fo.ok ht1 hk
 . simp only [show (fst t d true != 0)=true by simpa using c2,cond_true]
   exact Fo.pan ht c2
omit hL in
theorem HD {α:Type}{b:Nat}{x:List α}{y:α}{m:Int}(h:(x.length:Int)<=m)(hm:m<=1000000)(hb:b<=1000):Cp b x [y]=some (x++[y]):=by
 unfold Cp
 rw [if_pos]
 have:(x.length+1)*b<=1000001*1000:=Nat.mul_le_mul (by omega) hb
 show (x.length+1)*b<=_
 omega
theorem TF {k0 d:Int}{x:Ac}(hE:∀ k' t',gi L k'=some t'->k0<k'->LM L k'):∀ (r:Nat) (k:Int) (out:List Ab) (t:Ac),gi L k=some t->k0<k->(out.length:Int)<=k->(L.length:Int)-k<=r->Fo L k0 (fun n=>B3 n L d x k out)
 |0,k,out,t,ht,h0,ho,hr=>by have:=(A0 ht).2;omega
 |r+1,k,out,t,ht,h0,ho,hr=>by
  have hk:=(A0 ht).2
  have hl:=hL.len
  refine Fo.step (fun n=>B3.eq_2 (n:=n) _ _ _ _ _) ?_
  simp only [Gf ht,Option.bind_some]
  obtain⟨v,hv⟩:∃ v:Bool,(bif (fst t (IntKind.i64.wrap (d+1)) true == 0) then bif ((out.length:Int) == 40) then some true else some (fst t (IntKind.i64.wrap (d+1)) true == 2) else some (fst t (IntKind.i64.wrap (d+1)) true == 2))=some v:=by
   cases (fst t (IntKind.i64.wrap (d+1)) true == 0)<;>cases ((out.length:Int) == 40)<;>exact⟨_,rfl⟩
  simp only [hv,Option.bind_some]
  cases v with
  |true =>
   simp only [cond_true]
   exact Fo.pan ht (show (2:Int)≠0 by decide)
  |false =>
   simp only [cond_false]
   refine Fo.got ((hE _ _ ht h0).E _) fun g t1 ht1 _ hg=>?_
   have hk1:=(A0 ht1).2
   simp only [BA ht1,HD (b:=65) (y:=g.X) ho (by omega) (by decide),Option.bind_some,C0 hL ht1]
   by_cases c:isS t1 ⟨#[41]⟩=true
   . have c':(t1.Kind == 4&&decide (t1.S=⟨#[41]⟩))=true:=c
     obtain⟨t2,ht2⟩:=TV hL ht1 c
     simp only [c',cond_true]
     exact Fo.ok ht2 (by show k0<g.To+1;omega)
   . have c':(t1.Kind == 4&&decide (t1.S=⟨#[41]⟩))=false:=by simpa [isS] using c
     simp only [c',cond_false]
     by_cases c2:isS t1 ⟨#[44]⟩=true
     . have c2':(t1.Kind == 4&&decide (t1.S=⟨#[44]⟩))=true:=c2
       obtain⟨t2,ht2⟩:=TV hL ht1 c2
       simp only [c2',Bool.not_true,cond_false]
       exact TF hE r (g.To+1) _ t2 ht2 (by omega) (by simp;omega) (by omega)
     . have c2':(t1.Kind == 4&&decide (t1.S=⟨#[44]⟩))=false:=by simpa [isS] using c2
       simp only [c2',Bool.not_false,cond_true]
       exact Fo.pan ht1 (show (5:Int)≠0 by decide)
theorem Ab7 {k:Int}{t:Ac}(ht:gi L k=some t)(hE:∀ k' t',gi L k'=some t'->k<k'->LM L k')(d:Int):Fo L k (fun n=>Ci n L k d):=by
 have hk:=(A0 ht).2
 have hl:=hL.len
 refine Fo.step (fun n=>Ci.eq_2 (n:=n) _ _ _) ?_
 simp only [ht,BA ht,Option.bind_some,C0 hL ht]
 by_cases c:isS t ⟨#[40]⟩=true
 . have c':(t.Kind == 4&&decide (t.S=⟨#[40]⟩))=true:=c
   obtain⟨t1,ht1⟩:=TV hL ht c
   simp only [c',cond_true]
   refine Fo.got ((hE _ _ ht1 (by omega)).E _) fun g t2 ht2 _ hg=>?_
   simp only [BA ht2,Option.bind_some,C0 hL ht2]
   by_cases c2:isS t2 ⟨#[41]⟩=true
   . have c2':(t2.Kind == 4&&decide (t2.S=⟨#[41]⟩))=true:=c2
     obtain⟨t3,ht3⟩:=TV hL ht2 c2
     simp only [c2',Bool.not_true,cond_false]
     exact Fo.ok ht3 (by show k<g.To+1;omega)
   . have c2':(t2.Kind == 4&&decide (t2.S=⟨#[41]⟩))=false:=by simpa [isS] using c2
     simp only [c2',Bool.not_false,cond_true]
     exact Fo.pan ht2 (show (5:Int)≠0 by decide)
 . have c':(t.Kind == 4&&decide (t.S=⟨#[40]⟩))=false:=by simpa [isS] using c
   simp only [c',cond_false]
   by_cases c2:t.Kind=2
   . obtain⟨t1,ht1⟩:=Zf hL ht (by omega)
     simp only [show (t.Kind == 2)=true by simpa using c2,cond_true]
     exact Fo.ok ht1 (by show k<k+1;omega)
   . simp only [show (t.Kind == 2)=false by simpa using c2,cond_false]
     by_cases c3:t.Kind=3
     . obtain⟨t1,ht1⟩:=Zf hL ht (by omega)
       simp only [show (t.Kind == 3)=true by simpa using c3,cond_true]
       exact Fo.ok ht1 (by show k<k+1;omega)
     . simp only [show (t.Kind == 3)=false by simpa using c3,cond_false]
       by_cases c4:t.Kind=1
       . obtain⟨t1,ht1⟩:=Zf hL ht (by omega)
         have hk1:=(A0 ht1).2
         simp only [show (t.Kind != 1)=false by simpa using c4,cond_false,BA ht1,Option.bind_some]
         by_cases c5:isS t1 ⟨#[40]⟩=true
         . have c5':(t1.Kind == 4&&decide (t1.S=⟨#[40]⟩))=true:=c5
           obtain⟨t2,ht2⟩:=TV hL ht1 c5
           simp only [c5',Bool.not_true,cond_false]
           refine Fo.id ?_
           refine Fo.step (fun n=>CE.eq_2 (n:=n) _ _ _) ?_
           have e2:k+1+1=k+2:=by omega
           rw [e2] at ht2
           have w2:IntKind.i64.wrap (k+2)=k+2:=by rw [AJ]<;>omega
           simp only [ht,Option.bind_some,w2,BA ht2,C0 hL ht2]
           by_cases c6:isS t2 ⟨#[41]⟩=true
           . have c6':(t2.Kind == 4&&decide (t2.S=⟨#[41]⟩))=true:=c6
             obtain⟨t3,ht3⟩:=TV hL ht2 c6
             simp only [c6',cond_true]
             exact Fo.ok ht3 (by show k<k+2+1;omega)
           . have c6':(t2.Kind == 4&&decide (t2.S=⟨#[41]⟩))=false:=by simpa [isS] using c6
             simp only [c6',cond_false]
             exact TF hL hE (L.length) (k+2) [] t2 ht2 (by omega) (by simp;omega) (by omega)
         . have c5':(t1.Kind == 4&&decide (t1.S=⟨#[40]⟩))=false:=by simpa [isS] using c5
           simp only [c5',Bool.not_false,cond_true]
           exact Fo.ok ht1 (by show k<k+1;omega)
       . simp only [show (t.Kind != 1)=true by simpa using c4,cond_true]
         exact Fo.pan ht (show (5:Int)≠0 by decide)
theorem Ys:∀ (r:Nat) (k:Int) (t:Ac),gi L k=some t->(L.length:Int)-k<=r->LM L k
 |0,k,t,ht,hr=>by have:=(A0 ht).2;omega
 |r+1,k,t,ht,hr=>by
  have hE:∀ k' t',gi L k'=some t'->k<k'->LM L k':=fun k' t' ht' hk'=>Ys r k' t' ht' (by omega)
  have hA:=Ab7 hL ht hE
  have hM:=Ab4 hL ht hA hE
  have h7:∀ d,Fo L k (fun n=>AK n L k 7 d):=fun d=>Fo.step (fun n=>AK.eq_2 (n:=n) _ _ _ _) (hM d).id
  have h6:=Vw hL (lv:=6) (by decide) h7 hE
  have h5:=Vw hL (lv:=5) (by decide) h6 hE
  have h4:=Vw hL (lv:=4) (by decide) h5 hE
  have hG:=Ab5 hL ht h4 hE
  have h3:∀ d,Fo L k (fun n=>AK n L k 3 d):=fun d=>Fo.step (fun n=>AK.eq_2 (n:=n) _ _ _ _) (hG d).id
  have h2:=Vw hL (lv:=2) (by decide) h3 hE
  have h1:=Vw hL (lv:=1) (by decide) h2 hE
  refine⟨Ab6 hL ht h1 hE,fun lv d hl1 hl7=>?_,hG,hM⟩
  have:lv=1∨lv=2∨lv=3∨lv=4∨lv=5∨lv=6∨lv=7:=by omega
  rcases this with rfl|rfl|rfl|rfl|rfl|rfl|rfl
  . exact h1 d
  . exact h2 d
  . exact h3 d
  . exact h4 d
  . exact h5 d
  . exact h6 d
  . exact h7 d
theorem Ab3 {k:Int}{t:Ac}(ht:gi L k=some t)(d:Int):Fo L k (fun n=>AY n L k d):=(Ys hL L.length k t ht (by have:=(A0 ht).2;omega)).E d
end
end Go.Sp
namespace Go.Sp
open Go
section
variable {L:List Ac} (hL:OX L) (f:Int)
include hL
theorem Abx {k:Int}{t:Ac}(ht:gi L k=some t)(d:Int):∃ g y,Ev (fun n=>AY n L k d) g/\Ev (fun n=>Az n (at_ L k f) d) y/\Ni L f g y/\(g.E=0->k<g.To):=by
 obtain⟨g,hg,_,hk⟩:=Ab3 hL ht d
 obtain⟨n,hn⟩:=hg.get
 obtain⟨y,hy,hc⟩:=Ab8 hL f hn
 exact⟨g,y,hg,hy,hc,hk⟩
def ZK (L:List Ac)(k f:Int)(g:Cl)(y:Ex Au Ae Aw):Prop :=
 ∃ t,gi L g.To=some t/\((g.E=0/\k<g.To/\y=.ok g.A (at_ L g.To f))∨(g.E≠0/\y=.pan ⟨t.At,g.E⟩ (at_ L g.To f)))
theorem Yi {k:Int}{t:Ac}(ht:gi L k=some t)(hb:Gm t=true∨isS t ⟨#[45,62]⟩=true) :
 ∃ g y,Ev (fun n=>Ec n L k) g/\Ev (fun n=>Cx n (at_ L k f)) y/\ZK L k f g y:=by
 have hk:=(A0 ht).2
 have hl:=hL.len
 rw [CP ht]
 by_cases h3:1<=t.Kind/\t.Kind<=3
 . obtain⟨t1,ht1⟩:=Zf hL ht (by omega)
   refine⟨⟨⟨t.Kind,t.N,t.S,⟨0,0,⟨#[]⟩,[],0⟩,t.At⟩,k+1,0⟩,.ok ⟨t.Kind,t.N,t.S,⟨0,0,⟨#[]⟩,[],0⟩,t.At⟩ (at_ L (k+1) f),?_,?_,t1,ht1,.inl ⟨rfl,by show k<k+1;omega,rfl⟩⟩
   . refine Ev.of fun n=>?_
     unfold Ec
     simp only [ht,Option.bind_some,C0 hL ht,show decide (1<=t.Kind)=true by simpa using h3.1,show decide (t.Kind<=3)=true by simpa using h3.2,cond_true]
   . refine Ev.of fun n=>?_
     unfold Cx
     simp only [DT,Option.bind_some]
     have:t.Kind=1∨t.Kind=2∨t.Kind=3:=by omega
     rcases this with e|e|e<;>rw [e]<;>rfl
 . have h4:t.Kind=4:=by
    rcases hb with hb|hb
    . unfold Gm at hb
      simp only [Bool.or_eq_true,beq_iff_eq,Bool.and_eq_true] at hb
      omega
    . exact Ef hb
   have hs:t.S=⟨#[40]⟩∨t.S=⟨#[45]⟩∨t.S=⟨#[45,62]⟩:=by
    rcases hb with hb|hb
    . unfold Gm at hb
      simp only [Bool.or_eq_true,beq_iff_eq,Bool.and_eq_true,decide_eq_true_eq] at hb
      rcases hb with h|h|h|h|h
      . omega
      . omega
      . omega
      . exact .inl h.2
      . exact .inr (.inl h.2)
    . unfold isS at hb
      simp only [beq_iff_eq,Bool.and_eq_true,decide_eq_true_eq] at hb
      exact .inr (.inr hb.2)
   obtain⟨t1,ht1⟩:=Zf hL ht (by omega)
   have hk1:=(A0 ht1).2
   have pre:∀ n,Ec n L k=(bif decide (t.S=⟨#[45,62]⟩) then
    some (Cl.mk (Aw.mk 4 0 ⟨#[]⟩ (Ab.mk 0 0 ⟨#[]⟩ [] 0) t.At) (k+1) 0)
    else bif decide (t.S=⟨#[45]⟩) then
     (gi L (k+1)).bind fun x1 =>
     bif (x1.Kind != 2) then
      some (Cl.mk (Aw.mk 0 0 ⟨#[]⟩ (Ab.mk 0 0 ⟨#[]⟩ [] 0) 0) (k+1) 5)
     else
      some (Cl.mk (Aw.mk 2 (IntKind.i64.wrap (0-x1.N)) ⟨#[]⟩ (Ab.mk 0 0 ⟨#[]⟩ [] 0) t.At) (IntKind.i64.wrap (k+2)) 0)
     else
      (AY n L (k+1) 1).bind fun x2 =>
      bif (x2.E != 0) then
       some (Cl.mk (Aw.mk 0 0 ⟨#[]⟩ (Ab.mk 0 0 ⟨#[]⟩ [] 0) 0) x2.To x2.E)
      else
       (Bg L x2.To ⟨#[41]⟩).bind fun shut =>
       bif (!shut) then
        some (Cl.mk (Aw.mk 0 0 ⟨#[]⟩ (Ab.mk 0 0 ⟨#[]⟩ [] 0) 0) x2.To 5)
       else
        some (Cl.mk (Aw.mk 5 0 ⟨#[]⟩ x2.X t.At) (IntKind.i64.wrap (x2.To+1)) 0)):=by
    intro n
    unfold Ec
    simp only [ht,BA ht,Option.bind_some,C0 hL ht,h4,show decide ((1:Int)<=4)=true from rfl,show decide ((4:Int)<=3)=false from rfl,cond_true,cond_false,beq_self_eq_true,Bool.true_and]
   have hN:t.N=0:=hL.other t (Gz ht) (by omega)
   have pro:∀ n,Cx n ⟨t::L.drop (k+1).toNat,f⟩=(bif decide (t.S=⟨#[45]⟩) then
    (C7 (at_ L (k+1) f)).bind fun y=>match y with
    |.ok n_ p1 =>
     some (.ok (Aw.mk 2 (IntKind.i64.wrap (0-n_)) ⟨#[]⟩ (Ab.mk 0 0 ⟨#[]⟩ [] 0) t.At) p1)
    |.pan e p2=>some (.pan e p2)
    else
     bif decide (t.S=⟨#[45,62]⟩) then
      some (.ok (Aw.mk 4 0 ⟨#[]⟩ (Ab.mk 0 0 ⟨#[]⟩ [] 0) t.At) (at_ L (k+1) f))
     else
      bif decide (t.S=⟨#[40]⟩) then
       (Az n (at_ L (k+1) f) 1).bind fun y1=>match y1 with
       |.ok e1 p3 =>
        (Bl p3 ⟨#[41]⟩).bind fun y2=>match y2 with
        |.ok n_1 p5 =>
         some (.ok (Aw.mk 5 0 ⟨#[]⟩ e1 t.At) p5)
        |.pan e3 p6=>some (.pan e3 p6)
       |.pan e2 p4=>some (.pan e2 p4)
      else
       some (.ok (Aw.mk 0 0 ⟨#[]⟩ (Ab.mk 0 0 ⟨#[]⟩ [] 0) t.At) (at_ L (k+1) f))):=by
    intro n
    unfold Cx
    simp only [DT,Option.bind_some,h4,hN,show ((4:Int) == 1)=false from rfl,show ((4:Int) == 2)=false from rfl,show ((4:Int) == 3)=false from rfl,cond_false]
    rfl
   rcases hs with hs|hs|hs
   . -- an expression
     rw [hs] at pre pro
     simp only [show decide ((⟨#[40]⟩:ByteArray)=⟨#[45]⟩)=false by decide,show decide ((⟨#[40]⟩:ByteArray)=⟨#[45,62]⟩)=false by decide,decide_true,cond_true,cond_false] at pre pro
     obtain⟨g,y,hg,hy,hc,hgk⟩:=Abx hL f ht1 1
     by_cases he:g.E=0
     . obtain⟨t2,ht2,rfl⟩:=hc.ok he
       have hb0:(g.E != 0)=false:=by simpa using he
       have:=hgk he
       by_cases c:isS t2 ⟨#[41]⟩=true
       . have c':(t2.Kind == 4&&decide (t2.S=⟨#[41]⟩))=true:=c
         obtain⟨t3,ht3⟩:=TV hL ht2 c
         refine⟨⟨⟨5,0,⟨#[]⟩,g.X,t.At⟩,g.To+1,0⟩,.ok ⟨5,0,⟨#[]⟩,g.X,t.At⟩ (at_ L (g.To+1) f),(Ev.bind hg (Ev.of fun n=>?_)).congr pre,(Ev.bind hy (Ev.of fun n=>?_)).congr pro,t3,ht3,.inl ⟨rfl,by show k<g.To+1;omega,rfl⟩⟩
         . simp only [hb0,BA ht2,c',cond_false,Option.bind_some,Bool.not_true,C0 hL ht2]
         . simp only [CP ht2,KW,c,if_true,Option.bind_some]
       . have c':(t2.Kind == 4&&decide (t2.S=⟨#[41]⟩))=false:=by simpa [isS] using c
         refine⟨⟨⟨0,0,⟨#[]⟩,⟨0,0,⟨#[]⟩,[],0⟩,0⟩,g.To,5⟩,.pan ⟨t2.At,5⟩ (at_ L g.To f),(Ev.bind hg (Ev.of fun n=>?_)).congr pre,(Ev.bind hy (Ev.of fun n=>?_)).congr pro,t2,ht2,.inr ⟨show (5:Int)≠0 by decide,rfl⟩⟩
         . simp only [hb0,BA ht2,c',cond_false,cond_true,Option.bind_some,Bool.not_false]
         . simp only [CP ht2,KW,c,if_false,Option.bind_some,Bool.false_eq_true]
     . obtain⟨t2,ht2,rfl⟩:=hc.pan he
       have hb1:(g.E != 0)=true:=by simpa using he
       refine⟨⟨⟨0,0,⟨#[]⟩,⟨0,0,⟨#[]⟩,[],0⟩,0⟩,g.To,g.E⟩,.pan ⟨t2.At,g.E⟩ (at_ L g.To f),(Ev.bind hg (Ev.of fun n=>?_)).congr pre,(Ev.bind hy (Ev.of fun n=>?_)).congr pro,t2,ht2,.inr ⟨he,rfl⟩⟩
       . simp only [hb1,cond_true]
       . rfl
   . -- a negative number
     rw [hs] at pre pro
     simp only [decide_true,show decide ((⟨#[45]⟩:ByteArray)=⟨#[45,62]⟩)=false by decide,cond_true,cond_false,ht1,Option.bind_some] at pre pro
     have e2:k+1+1=k+2:=by omega
     have w2:IntKind.i64.wrap (k+2)=k+2:=by rw [AJ]<;>omega
     by_cases c:t1.Kind=2
     . have hc:(t1.Kind != 2)=false:=by simpa using c
       obtain⟨t2,ht2⟩:=Zf hL ht1 (by omega)
       rw [e2] at ht2
       refine⟨⟨⟨2,IntKind.i64.wrap (0-t1.N),⟨#[]⟩,⟨0,0,⟨#[]⟩,[],0⟩,t.At⟩,k+2,0⟩,.ok ⟨2,IntKind.i64.wrap (0-t1.N),⟨#[]⟩,⟨0,0,⟨#[]⟩,[],0⟩,t.At⟩ (at_ L (k+2) f),Ev.of fun n=>?_,Ev.of fun n=>?_,t2,ht2,.inl ⟨rfl,by show k<k+2;omega,rfl⟩⟩
       . simp only [pre,hc,cond_false,w2]
       . simp only [pro]
         rw [CP ht1]
         unfold C7
         simp only [HZ,DT,Option.bind_some,hc,cond_false,e2]
     . have hc:(t1.Kind != 2)=true:=by simpa using c
       refine⟨⟨⟨0,0,⟨#[]⟩,⟨0,0,⟨#[]⟩,[],0⟩,0⟩,k+1,5⟩,.pan ⟨t1.At,5⟩ (at_ L (k+1) f),Ev.of fun n=>?_,Ev.of fun n=>?_,t1,ht1,.inr ⟨show (5:Int)≠0 by decide,rfl⟩⟩
       . simp only [pre,hc,cond_true]
       . simp only [pro]
         rw [CP ht1]
         unfold C7
         simp only [HZ,GJ,Option.bind_some,hc,cond_true]
   . -- an arrow
     rw [hs] at pre pro
     simp only [show decide ((⟨#[45,62]⟩:ByteArray)=⟨#[45]⟩)=false by decide,decide_true,cond_true,cond_false] at pre pro
     exact⟨_,_,Ev.of pre,Ev.of pro,t1,ht1,.inl ⟨rfl,by show k<k+1;omega,rfl⟩⟩
def QL (L:List Ac)(k f n:Int)(x:Ac)(u:(List Aw×Int) ⊕ Cj)(w:(List Ac×Int×List Aw) ⊕ Ex Au Ae Aj):Prop :=
 (∃ out k' t',gi L k'=some t'/\k<=k'/\isS t' ⟨#[59]⟩=true/\u=.inr ⟨⟨x.S,out,[],x.At⟩,k'+1,n+1,0⟩/\w=.inl (L.drop k'.toNat,f,out)) ∨
 (∃ out k' t',gi L k'=some t'/\k<=k'/\isS t' ⟨#[59]⟩=false/\isS t' ⟨#[123]⟩=true/\u=.inl (out,k')/\w=.inl (L.drop k'.toNat,f,out)) ∨
 (∃ g t',gi L g.To=some t'/\g.E≠0/\u=.inr g/\w=.inr (.pan ⟨t'.At,g.E⟩ (at_ L g.To f)))
omit hL in
theorem QL.le {k k' n:Int}{x:Ac}{u w}(h:QL L k' f n x u w)(hk:k<=k'):QL L k f n x u w:=by
 rcases h with⟨o,k2,t,h1,h2,h3⟩|⟨o,k2,t,h1,h2,h3⟩|h
 . exact .inl ⟨o,k2,t,h1,by omega,h3⟩
 . exact .inr (.inl ⟨o,k2,t,h1,by omega,h3⟩)
 . exact .inr (.inr h)
theorem WD {n:Int}(hn:0<=n/\n<2000){x:Ac}:∀ (r:Nat) (k:Int) (out:List Aw) (t:Ac),gi L k=some t->(out.length:Int)<=k->(L.length:Int)-k<=r ->
 ∃ u w,Ev (fun m=>Bn m L x n out k) u/\Ev (fun m=>AW m (L.drop k.toNat) f out) w/\QL L k f n x u w
 |0,k,out,t,ht,ho,hr=>by have:=(A0 ht).2;omega
 |r+1,k,out,t,ht,ho,hr=>by
  have hk:=(A0 ht).2
  have hl:=hL.len
  have hp:L.drop k.toNat=t::L.drop (k+1).toNat:=(A0 ht).1
  have wn:IntKind.i64.wrap (n+1)=n+1:=by rw [AJ]<;>omega
  by_cases c1:isS t ⟨#[59]⟩=true
  . have c1':(t.Kind == 4&&decide (t.S=⟨#[59]⟩))=true:=c1
    refine⟨_,.inl (L.drop k.toNat,f,out),Ev.step (fun m=>Bn.eq_2 (n:=m) _ _ _ _ _) (Ev.of fun m=>?_),Ev.step (fun m=>AW.eq_2 (n:=m) _ _ _) (Ev.of fun m=>?_),.inl ⟨out,k,t,ht,Int.le_refl _,c1,rfl,rfl⟩⟩
    . simp only [BA ht,c1',Option.bind_some,cond_true,C0 hL ht,wn]
    . rw [hp]
      simp only [K5,c1,Option.bind_some,Bool.not_true,cond_false]
  . have c1:isS t ⟨#[59]⟩=false:=by simpa using c1
    have c1':(t.Kind == 4&&decide (t.S=⟨#[59]⟩))=false:=c1
    by_cases c2:isS t ⟨#[123]⟩=true
    . have c2':(t.Kind == 4&&decide (t.S=⟨#[123]⟩))=true:=c2
      refine⟨_,.inl (L.drop k.toNat,f,out),Ev.step (fun m=>Bn.eq_2 (n:=m) _ _ _ _ _) (Ev.of fun m=>?_),Ev.step (fun m=>AW.eq_2 (n:=m) _ _ _) (Ev.of fun m=>?_),.inr (.inl ⟨out,k,t,ht,Int.le_refl _,c1,c2,rfl,rfl⟩)⟩
      . simp only [BA ht,c1',c2',Option.bind_some,cond_true,cond_false]
      . rw [hp]
        simp only [K5,c1,c2,Option.bind_some,Bool.not_true,Bool.not_false,cond_false,cond_true]
    . have c2:isS t ⟨#[123]⟩=false:=by simpa using c2
      have c2':(t.Kind == 4&&decide (t.S=⟨#[123]⟩))=false:=c2
      by_cases c3:Gm t=true∨isS t ⟨#[45,62]⟩=true
      . have pb:((bif !(Gm t) then some (!(isS t ⟨#[45,62]⟩)) else some false):Option Bool)=some false:=by
         rcases c3 with c|c
         . rw [c];rfl
         . rw [c];cases Gm t<;>rfl
        have rb:(bif (!(Gm t)) then some (!(t.Kind == 4&&decide (t.S=⟨#[45,62]⟩))) else some false)=some false:=pb
        by_cases c4:(out.length:Int)=40
        . have c4':((out.length:Int) == 40)=true:=by simpa using c4
          refine⟨.inr ⟨⟨⟨#[]⟩,[],[],0⟩,k,0,2⟩,.inr (.pan ⟨t.At,2⟩ (at_ L k f)),Ev.step (fun m=>Bn.eq_2 (n:=m) _ _ _ _ _) (Ev.of fun m=>?_),Ev.step (fun m=>AW.eq_2 (n:=m) _ _ _) (Ev.of fun m=>?_),.inr (.inr ⟨_,t,ht,show (2:Int)≠0 by decide,rfl,rfl⟩)⟩
          . simp only [BA ht,H9 ht,c1',c2',rb,c4',Option.bind_some,cond_true,cond_false]
          . rw [hp,CP ht]
            simp only [K5,Hr,c1,c2,Option.bind_some,Bool.not_false,cond_true]
            show ((bif !(Gm t) then some (!(isS t ⟨#[45,62]⟩)) else some false):Option Bool).bind _=_
            rw [pb]
            simp only [Option.bind_some,cond_false,c4',cond_true,GJ]
        . have c4':((out.length:Int) == 40)=false:=by simpa using c4
          obtain⟨g,y,hg,hy,t2,ht2,hc⟩:=Yi hL f ht c3
          have r1:∀ u,Ev (fun m=>(bif (g.E != 0) then
           some (.inr (Cj.mk (Aj.mk ⟨#[]⟩ [] [] 0) g.To 0 g.E))
           else
            Bn m L x n (out++[g.A]) g.To)) u->Ev (fun m=>Bn m L x n out k) u:=by
           intro u hu
           refine Ev.step (fun m=>Bn.eq_2 (n:=m) _ _ _ _ _) ?_
           simp only [BA ht,H9 ht,c1',c2',rb,c4',Option.bind_some,cond_false]
           refine Ev.bind hg ?_
           refine hu.congr fun m=>?_
           rw [HD ho (by omega) (by decide)]
           rfl
          have p1:∀ w,Ev (fun m=>(match y with
           |.ok a_1 p21=>AW m p21.l p21.forms (out++[a_1])
           |.pan e11 p22=>some (.inr (.pan e11 p22)):Option ((List Ac×Int×List Aw) ⊕ Ex Au Ae Aj))) w->Ev (fun m=>AW m (L.drop k.toNat) f out) w:=by
           intro w hw
           refine Ev.step (fun m=>AW.eq_2 (n:=m) _ _ _) ?_
           rw [CP ht] at hy
           rw [hp]
           simp only [K5,Hr,c1,c2,Option.bind_some,Bool.not_false,cond_true]
           show Ev (fun m=>((bif !(Gm t) then some (!(isS t ⟨#[45,62]⟩)) else some false):Option Bool).bind _) w
           rw [pb]
           simp only [Option.bind_some,cond_false,c4']
           refine Ev.bind hy ?_
           refine hw.congr fun m=>?_
           cases y with
           |ok a p=>simp only [HD ho (show k<=1000000 by omega) (show 105<=1000 by decide),Option.bind_some]
           |pan e p=>rfl
          rcases hc with⟨he,hgt,rfl⟩|⟨he,rfl⟩
          . rw [show (g.E != 0)=false by simpa using he] at r1
            have hk2:=(A0 ht2).2
            obtain⟨u,w,hu,hw,hc⟩:=WD hn r g.To (out++[g.A]) t2 ht2 (by simp;omega) (by omega)
            exact⟨u,w,r1 u hu,p1 w hw,hc.le f (by omega)⟩
          . rw [show (g.E != 0)=true by simpa using he] at r1
            exact⟨_,_,r1 _ Ev.pure,p1 _ Ev.pure,.inr (.inr ⟨_,t2,ht2,he,rfl,rfl⟩)⟩
      . have c3a:Gm t=false:=by cases h:Gm t<;>simp_all
        have c3b:isS t ⟨#[45,62]⟩=false:=by cases h:isS t ⟨#[45,62]⟩<;>simp_all
        have c3b':(t.Kind == 4&&decide (t.S=⟨#[45,62]⟩))=false:=c3b
        refine⟨.inr ⟨⟨⟨#[]⟩,[],[],0⟩,k,0,5⟩,.inr (.pan ⟨t.At,5⟩ (at_ L k f)),Ev.step (fun m=>Bn.eq_2 (n:=m) _ _ _ _ _) (Ev.of fun m=>?_),Ev.step (fun m=>AW.eq_2 (n:=m) _ _ _) (Ev.of fun m=>?_),.inr (.inr ⟨_,t,ht,show (5:Int)≠0 by decide,rfl,rfl⟩)⟩
        . simp only [BA ht,H9 ht,c1',c2',c3a,c3b',Option.bind_some,cond_true,cond_false,Bool.not_false]
        . rw [hp,CP ht]
          simp only [K5,Hr,c1,c2,c3b,Option.bind_some,Bool.not_false,cond_true]
          show ((bif !(Gm t) then some true else some false):Option Bool).bind _=_
          rw [c3a]
          simp only [Option.bind_some,Bool.not_false,cond_true,GJ]
omit hL f in
def Xa (L:List Ac)(k:Int):Prop:=∀ d n,0<=n->n<=2000->∃ g y,Ev (fun m=>Ch m L k d n) g/\Ev (fun m=>Bh m (at_ L k n) d) y /\
 ∃ t,gi L g.To=some t/\((g.E=0/\k<g.To/\0<=g.N/\g.N<=2000/\y=.ok g.F (at_ L g.To g.N))∨(g.E≠0/\∃ f,y=.pan ⟨t.At,g.E⟩ (at_ L g.To f)))
omit f in
theorem WC {x:Ac}{ags:List Aw}{d k0:Int}(hF:∀ k t,gi L k=some t->k0<k->Xa L k):∀ (r:Nat) (k n:Int) (out:List Aj) (t:Ac),gi L k=some t->k0<k->0<=n->n<=2000->(out.length:Int)<=k->(L.length:Int)-k<=r ->
 ∃ g w,Ev (fun m=>Bp m L x ags d out k n) g/\Ev (fun m=>Bw m d (L.drop k.toNat) n out) w /\
  ((∃ out' k' t' n',gi L k'=some t'/\k<=k'/\isS t' ⟨#[125]⟩=true/\0<=n'/\n'<=2000/\g=⟨⟨x.S,ags,out',x.At⟩,k'+1,n',0⟩/\w=.inl (L.drop k'.toNat,n',out')) ∨
   (∃ t',gi L g.To=some t'/\g.E≠0/\∃ f,w=.inr (.pan ⟨t'.At,g.E⟩ (at_ L g.To f))))
 |0,k,n,out,t,ht,h0,hn0,hn,ho,hr=>by have:=(A0 ht).2;omega
 |r+1,k,n,out,t,ht,h0,hn0,hn,ho,hr=>by
  have hk:=(A0 ht).2
  have hl:=hL.len
  have hp:L.drop k.toNat=t::L.drop (k+1).toNat:=(A0 ht).1
  by_cases c1:isS t ⟨#[125]⟩=true
  . have c1':(t.Kind == 4&&decide (t.S=⟨#[125]⟩))=true:=c1
    refine⟨_,.inl (L.drop k.toNat,n,out),Ev.step (fun m=>Bp.eq_2 (n:=m) _ _ _ _ _ _ _) (Ev.of fun m=>?_),Ev.step (fun m=>Bw.eq_2 (n:=m) _ _ _ _) (Ev.of fun m=>?_),.inl ⟨out,k,t,n,ht,Int.le_refl _,c1,hn0,hn,rfl,rfl⟩⟩
    . simp only [BA ht,c1',Option.bind_some,cond_true,C0 hL ht]
    . rw [hp]
      simp only [K5,c1,Option.bind_some,Bool.not_true,cond_false]
  . have c1:isS t ⟨#[125]⟩=false:=by simpa using c1
    have c1':(t.Kind == 4&&decide (t.S=⟨#[125]⟩))=false:=c1
    obtain⟨g,y,hg,hy,t2,ht2,hc⟩:=hF k t ht h0 (IntKind.i64.wrap (d+1)) n hn0 hn
    have r1:∀ u,Ev (fun m=>(bif (g.E != 0) then some g else Bp m L x ags d (out++[g.F]) g.To g.N)) u->Ev (fun m=>Bp m L x ags d out k n) u:=by
     intro u hu
     refine Ev.step (fun m=>Bp.eq_2 (n:=m) _ _ _ _ _ _ _) ?_
     simp only [BA ht,c1',Option.bind_some,cond_false]
     refine Ev.bind hg ?_
     refine hu.congr fun m=>?_
     rw [HD ho (by omega) (by decide)]
     rfl
    have p1:∀ w,Ev (fun m=>(match y with
     |.ok f3 p11=>Bw m d p11.l p11.forms (out++[f3])
     |.pan e5 p12=>some (.inr (.pan e5 p12)):Option ((List Ac×Int×List Aj) ⊕ Ex Au Ae Aj))) w->Ev (fun m=>Bw m d (L.drop k.toNat) n out) w:=by
     intro w hw
     refine Ev.step (fun m=>Bw.eq_2 (n:=m) _ _ _ _) ?_
     rw [CP ht] at hy
     rw [hp]
     simp only [K5,c1,Option.bind_some,Bool.not_false,cond_true]
     refine Ev.bind hy ?_
     refine hw.congr fun m=>?_
     cases y with
     |ok a p=>simp only [HD ho (show k<=1000000 by omega) (show 73<=1000 by decide),Option.bind_some]
     |pan e p=>rfl
    rcases hc with⟨he,hgt,hN0,hN,rfl⟩|⟨he,f,rfl⟩
    . rw [show (g.E != 0)=false by simpa using he] at r1
      have hk2:=(A0 ht2).2
      obtain⟨u,w,hu,hw,hc⟩:=WC hF r g.To g.N (out++[g.F]) t2 ht2 (by omega) hN0 hN (by simp;omega) (by omega)
      refine⟨u,w,r1 u hu,p1 w hw,?_⟩
      rcases hc with⟨o,k',t',n',h1,h2,h3⟩|hc
      . exact .inl ⟨o,k',t',n',h1,by omega,h3⟩
      . exact .inr hc
    . rw [show (g.E != 0)=true by simpa using he] at r1
      exact⟨_,_,r1 _ Ev.pure,p1 _ Ev.pure,.inr ⟨t2,ht2,he,f,rfl⟩⟩
omit f in
theorem Y7:∀ (r:Nat) (k:Int) (t:Ac),gi L k=some t->(L.length:Int)-k<=r->Xa L k
 |0,k,t,ht,hr=>by have:=(A0 ht).2;omega
 |r+1,k,t,ht,hr=>by
  have hF:∀ k' t',gi L k'=some t'->k<k'->Xa L k':=fun k' t' ht' hk'=>Y7 r k' t' ht' (by omega)
  intro d n hn0 hn
  have hk:=(A0 ht).2
  have hl:=hL.len
  have wn:IntKind.i64.wrap (n+1)=n+1:=by rw [AJ]<;>omega
  rw [CP ht]
  by_cases c1:t.Kind=1
  . have c1':(t.Kind != 1)=false:=by simpa using c1
    by_cases c2:30<d∨2000<=n
    . have rv:((bif (decide (30<d)) then some true else some (decide (2000<=n))):Option Bool)=some true:=by
       rcases c2 with c|c
       . rw [decide_eq_true c];rfl
       . rw [decide_eq_true c];cases decide (30<d)<;>rfl
      have pv:((bif (decide (30<d)) then some true else some (decide (2000<n+1))):Option Bool)=some true:=by
       rcases c2 with c|c
       . rw [decide_eq_true c];rfl
       . rw [decide_eq_true (show 2000<n+1 by omega)];cases decide (30<d)<;>rfl
      refine⟨⟨⟨⟨#[]⟩,[],[],0⟩,k,0,2⟩,.pan ⟨t.At,2⟩ (at_ L k (n+1)),Ev.step (fun m=>Ch.eq_2 (n:=m) _ _ _ _) (Ev.of fun m=>?_),Ev.step (fun m=>Bh.eq_2 (n:=m) _ _) (Ev.of fun m=>?_),t,ht,.inr ⟨show (2:Int)≠0 by decide,_,rfl⟩⟩
      . simp only [ht,c1',rv,Option.bind_some,cond_false,cond_true]
      . simp only [HZ,c1',wn,pv,GJ,Option.bind_some,cond_false,cond_true]
        rw [CP ht]
    . have c2:d<=30/\n<2000:=by omega
      have rv:((bif (decide (30<d)) then some true else some (decide (2000<=n))):Option Bool)=some false:=by
       rw [decide_eq_false (show ¬ 30<d by omega),decide_eq_false (show ¬ 2000<=n by omega)];rfl
      have pv:((bif (decide (30<d)) then some true else some (decide (2000<n+1))):Option Bool)=some false:=by
       rw [decide_eq_false (show ¬ 30<d by omega),decide_eq_false (show ¬ 2000<n+1 by omega)];rfl
      obtain⟨t1,ht1⟩:=Zf hL ht (by omega)
      have hk1:=(A0 ht1).2
      obtain⟨u,w,hu,hw,hc⟩:=WD hL (n+1) (n:=n) ⟨hn0,c2.2⟩ (x:=t) L.length (k+1) [] t1 ht1 (by simp;omega) (by omega)
      have r1:∀ g,Ev (fun m=>(match u with
       |.inl (out,out1)=>Bp m L t out d [] (IntKind.i64.wrap (out1+1)) (n+1)
       |.inr o=>some o)) g->Ev (fun m=>Ch m L k d n) g:=by
       intro g hg
       refine Ev.step (fun m=>Ch.eq_2 (n:=m) _ _ _ _) ?_
       simp only [ht,c1',rv,Option.bind_some,cond_false,C0 hL ht,wn]
       exact Ev.bind hu hg
      have p1:∀ z,Ev (fun m=>(match w with
       |.inl (p5,p6,f) =>
        (A6 (Ae.mk p5 p6)).bind fun n_ =>
        bif (decide (n_.1.S=⟨#[59]⟩)) then
         some (.ok (Aj.mk t.S f [] t.At) n_.2)
        else
         ((Bw m d n_.2.l n_.2.forms []
         ):Option (((List Ac)×Int×(List Aj)) ⊕ (Ex Au Ae Aj))).bind fun y4=>match y4 with
         |.inl (p7,p8,f1) =>
          (A6 (Ae.mk p7 p8)).bind fun n_1 =>
          some (.ok (Aj.mk t.S f f1 t.At) n_1.2)
         |.inr o=>some o
       |.inr o=>some o:Option (Ex Au Ae Aj))) z->Ev (fun m=>Bh m ⟨t::L.drop (k+1).toNat,n⟩ d) z:=by
       intro z hz
       refine Ev.step (fun m=>Bh.eq_2 (n:=m) _ _) ?_
       simp only [HZ,c1',wn,pv,DT,Option.bind_some,cond_false]
       exact Ev.bind hw hz
      rcases hc with⟨o,k',t',ht',hk',cs,rfl,rfl⟩|⟨o,k',t',ht',hk',cs0,cs,rfl,rfl⟩|⟨g,t',ht',he,rfl,rfl⟩
      . obtain⟨t3,ht3⟩:=TV hL ht' cs
        refine⟨_,.ok ⟨t.S,o,[],t.At⟩ (at_ L (k'+1) (n+1)),r1 _ Ev.pure,p1 _ ?_,t3,ht3,.inl ⟨rfl,by show k<k'+1;omega,by show 0<=n+1;omega,by show n+1<=2000;omega,rfl⟩⟩
        have hS:decide (t'.S=⟨#[59]⟩)=true:=by
         unfold isS at cs;simp only [Bool.and_eq_true] at cs;exact cs.2
        rw [(A0 ht').1]
        simp only [DT,Option.bind_some,hS,cond_true]
        exact Ev.pure
      . obtain⟨t3,ht3⟩:=TV hL ht' cs
        have hS:decide (t'.S=⟨#[59]⟩)=false:=by
         unfold isS at cs0;rw [Ef cs] at cs0;exact cs0
        have hk2:=(A0 ht').2
        have hk3:=(A0 ht3).2
        obtain⟨g,w,hg,hw,hc⟩:=WC hL (x:=t) (ags:=o) (d:=d) (k0:=k) hF L.length (k'+1) (n+1) [] t3 ht3 (by omega) (by omega) (by omega) (by simp;omega) (by omega)
        have p2:∀ z,Ev (fun m=>(match w with
         |.inl (p7,p8,f1) =>
          (A6 (Ae.mk p7 p8)).bind fun n_1 =>
          some (.ok (Aj.mk t.S o f1 t.At) n_1.2)
         |.inr o=>some o:Option (Ex Au Ae Aj))) z->Ev (fun m=>Bh m ⟨t::L.drop (k+1).toNat,n⟩ d) z:=by
         intro z hz
         refine p1 z ?_
         rw [(A0 ht').1]
         simp only [DT,Option.bind_some,hS,cond_false]
         exact Ev.bind hw hz
        have r2:=r1 g (hg.congr fun m=>by simp only [C0 hL ht'])
        rcases hc with⟨o2,k2,t4,n2,ht4,hk4,cs4,hn2,hn3,rfl,rfl⟩|⟨t4,ht4,he,f,rfl⟩
        . obtain⟨t5,ht5⟩:=TV hL ht4 cs4
          refine⟨_,.ok ⟨t.S,o,o2,t.At⟩ (at_ L (k2+1) n2),r2,p2 _ ?_,t5,ht5,.inl ⟨rfl,by show k<k2+1;omega,hn2,hn3,rfl⟩⟩
          rw [(A0 ht4).1]
          simp only [DT,Option.bind_some]
          exact Ev.pure
        . exact⟨g,_,r2,p2 _ Ev.pure,t4,ht4,.inr ⟨he,f,rfl⟩⟩
      . exact⟨g,_,r1 _ Ev.pure,p1 _ Ev.pure,t',ht',.inr ⟨he,_,rfl⟩⟩
  . have c1':(t.Kind != 1)=true:=by simpa using c1
    refine⟨⟨⟨⟨#[]⟩,[],[],0⟩,k,0,5⟩,.pan ⟨t.At,5⟩ (at_ L k n),Ev.step (fun m=>Ch.eq_2 (n:=m) _ _ _ _) (Ev.of fun m=>?_),Ev.step (fun m=>Bh.eq_2 (n:=m) _ _) (Ev.of fun m=>?_),t,ht,.inr ⟨show (5:Int)≠0 by decide,_,rfl⟩⟩
    . simp only [ht,c1',Option.bind_some,cond_true]
    . simp only [HZ,c1',GJ,Option.bind_some,cond_true]
      rw [CP ht]
end
end Go.Sp
namespace Go.Sp
open Go
inductive Eh:Ab->Prop where
 |mk (e:Ab) (hl:e.Kids.length<=2165192128543) (h:∀ x∈e.Kids,Eh x):Eh e
def Ib (l:List Ab):Prop:=l.length<=2165192128543/\∀ x∈l,Eh x
theorem Ib.e {l:List Ab}(h:Ib l){a b d:Int}{c:ByteArray}:Eh ⟨a,b,c,l,d⟩:=.mk _ h.1 h.2
theorem Eh.k {e:Ab}(h:Eh e):Ib e.Kids:=by cases h with|mk _ h1 h2=>exact⟨h1,h2⟩
theorem Tj:Ib []:=⟨by simp,fun x hx=>by cases hx⟩
theorem Ti {a:Ab}(h:Eh a):Ib [a]:=⟨by simp,fun x hx=>by obtain rfl:=List.mem_singleton.1 hx;exact h⟩
theorem Wx {a b:Ab}(h:Eh a)(h2:Eh b):Ib [a,b]:=⟨by simp,fun x hx=>by
 rcases List.mem_cons.1 hx with rfl|hx
 . exact h
 . obtain rfl:=List.mem_singleton.1 hx;exact h2⟩
theorem ZD {a b c:Ab}(h:Eh a)(h2:Eh b)(h3:Eh c):Ib [a,b,c]:=⟨by simp,fun x hx=>by
 rcases List.mem_cons.1 hx with rfl|hx
 . exact h
 . exact (Wx h2 h3).2 x hx⟩
theorem GS {α:Type}{b:Nat}(hb:1<=b){x y z:List α}(h:Cp b x y=some z):z=x++y/\z.length<=140737488355328:=by
 unfold Cp at h
 split at h
 . rename_i h1
   obtain rfl:=Aa h
   refine⟨rfl,?_⟩
   rw [List.length_append]
   exact Nat.le_trans (Nat.le_mul_of_pos_right _ hb) h1
 . cases h
theorem Oh {α:Type}{b:Nat}{x y z:List α}(h:Cp b x y=some z):z.length*b<=140737488355328:=by
 unfold Cp at h
 split at h
 . rename_i h1
   obtain rfl:=Aa h
   rw [List.length_append];exact h1
 . cases h
theorem XZ {x y z:List Ab}(h:Cp 65 x y=some z)(h1:Ib x)(h2:Ib y):Ib z:=by
 have hm:=Oh h
 obtain⟨rfl,_⟩:=GS (by decide) h
 refine⟨by omega,fun e he=>?_⟩
 rcases List.mem_append.1 he with he|he
 . exact h1.2 e he
 . exact h2.2 e he
structure Acq (n:Nat):Prop where
 E:∀ l k d g,AY n l k d=some g->Eh g.X
 B:∀ l k v d g,AK n l k v d=some g->Eh g.X
 L:∀ l v x d a b c e to er r,Eh x.X->Ib e->AF n l v x d a b c e to er=some r->(∀ g,r=.inr g->Eh g.X)/\∀ a b c e to er,r=.inl (a,b,c,e,to,er)->Ib e
 M:∀ l k d g,BE n l k d=some g->Eh g.X
 A:∀ l k d g,Ci n l k d=some g->Eh g.X
 G:∀ l k d g,BY n l k d=some g->Eh g.X
 S:∀ l k d g,CE n l k d=some g->Eh g.X
 T:∀ l d x to out g,Ib out->B3 n l d x to out=some g->Eh g.X
theorem Abv:∀ n,Acq n
 |0=>{
  E:=fun l k d g h=>by simp [AY] at h
  B:=fun l k v d g h=>by simp [AK] at h
  L:=fun l v x d a b c e to er r _ _ h=>by simp [AF] at h
  M:=fun l k d g h=>by simp [BE] at h
  A:=fun l k d g h=>by simp [Ci] at h
  G:=fun l k d g h=>by simp [BY] at h
  S:=fun l k d g h=>by simp [CE] at h
  T:=fun l d x to out g _ h=>by simp [B3] at h }
 |n+1=>by
  have ih:=Abv n
  have z:∀ {a b d:Int} {c:ByteArray},Eh ⟨a,b,c,[],d⟩:=Tj.e
  refine⟨?_,?_,?_,?_,?_,?_,?_,?_⟩
  . intro l k d g h
    replace h:=(AY.eq_2 (n:=n) _ _ _).symm.trans h
    obtain⟨_,_,h⟩:=Ad h
    rcases Ai h with⟨_,h⟩|⟨_,h⟩
    . obtain rfl:=Aa h;exact z
    obtain⟨c,hc,h⟩:=Ad h
    have fc:=ih.B _ _ _ _ _ hc
    rcases Ai h with⟨_,h⟩|⟨_,h⟩
    . obtain rfl:=Aa h;exact fc
    obtain⟨_,_,h⟩:=Ad h
    rcases Ai h with⟨_,h⟩|⟨_,h⟩
    . obtain rfl:=Aa h;exact fc
    obtain⟨a,ha,h⟩:=Ad h
    have fa:=ih.E _ _ _ _ ha
    rcases Ai h with⟨_,h⟩|⟨_,h⟩
    . obtain rfl:=Aa h;exact fa
    obtain⟨_,_,h⟩:=Ad h
    rcases Ai h with⟨_,h⟩|⟨_,h⟩
    . obtain rfl:=Aa h;exact z
    obtain⟨b,hb,h⟩:=Ad h
    have fb:=ih.E _ _ _ _ hb
    rcases Ai h with⟨_,h⟩|⟨_,h⟩
    . obtain rfl:=Aa h;exact fb
    obtain⟨l1,hl,h⟩:=Ad h
    obtain rfl:=Aa hl
    obtain rfl:=Aa h
    exact (ZD fc fa fb).e
  . intro l k v d g h
    replace h:=(AK.eq_2 (n:=n) _ _ _ _).symm.trans h
    rcases Ai h with⟨_,h⟩|⟨_,h⟩
    . obtain⟨m,hm,h⟩:=Ad h
      obtain rfl:=Aa h
      exact ih.M _ _ _ _ hm
    rcases Ai h with⟨_,h⟩|⟨_,h⟩
    . obtain⟨m,hm,h⟩:=Ad h
      obtain rfl:=Aa h
      exact ih.G _ _ _ _ hm
    obtain⟨x,hx,h⟩:=Ad h
    have fx:=ih.B _ _ _ _ _ hx
    obtain⟨y,hy,h⟩:=Ad h
    have hL:=ih.L _ _ _ _ _ _ _ _ _ _ _ fx fx.k hy
    rcases y with⟨a,b,c,e,to,er⟩|o
    . obtain rfl:=Aa h
      exact (hL.2 _ _ _ _ _ _ rfl).e
    . obtain rfl:=Aa h
      exact hL.1 _ rfl
  . intro l v x d a b c e to er r fx fe h
    replace h:=(AF.eq_2 (n:=n) _ _ _ _ _ _ _ _ _ _).symm.trans h
    rcases Ai h with⟨_,h⟩|⟨_,h⟩
    . obtain⟨op,_,h⟩:=Ad h
      rcases Ai h with⟨_,h⟩|⟨_,h⟩
      . obtain rfl:=Aa h
        exact⟨fun g e2=>by cases e2;exact fe.e,fun _ _ _ _ _ _ e2=>by cases e2⟩
      obtain⟨y,hy,h⟩:=Ad h
      have fy:=ih.B _ _ _ _ _ hy
      rcases Ai h with⟨_,h⟩|⟨_,h⟩
      . obtain rfl:=Aa h
        exact⟨fun g e2=>by cases e2;exact fy,fun _ _ _ _ _ _ e2=>by cases e2⟩
      obtain⟨l1,hl,h⟩:=Ad h
      obtain rfl:=Aa hl
      have f2:Ib [Ab.mk a b c e x.X.At,y.X]:=Wx fe.e fy
      rcases Ai h with⟨_,h⟩|⟨_,h⟩
      . obtain rfl:=Aa h
        exact⟨fun g e2=>by cases e2;exact f2.e,fun _ _ _ _ _ _ e2=>by cases e2⟩
      exact ih.L _ _ _ _ _ _ _ _ _ _ _ fx f2 h
    . obtain rfl:=Aa h
      exact⟨fun g e2=>(by cases e2),fun a' b' c' e' to' er' e2=>by
       have:=Sum.inl.inj e2
       simp only [Prod.mk.injEq] at this
       rw [<- this.2.2.2.1];exact fe⟩
  . intro l k d g h
    replace h:=(BE.eq_2 (n:=n) _ _ _).symm.trans h
    obtain⟨_,_,h⟩:=Ad h
    rcases Ai h with⟨_,h⟩|⟨_,h⟩
    . obtain⟨m,hm,h⟩:=Ad h
      obtain rfl:=Aa h
      exact ih.A _ _ _ _ hm
    obtain⟨_,_,h⟩:=Ad h
    rcases Ai h with⟨_,h⟩|⟨_,h⟩
    . obtain rfl:=Aa h;exact z
    obtain⟨x,hx,h⟩:=Ad h
    have fx:=ih.M _ _ _ _ hx
    rcases Ai h with⟨_,h⟩|⟨_,h⟩
    . obtain rfl:=Aa h;exact fx
    obtain⟨_,_,h⟩:=Ad h
    obtain⟨l1,hl,h⟩:=Ad h
    obtain rfl:=Aa hl
    obtain rfl:=Aa h
    exact (Ti fx).e
  . intro l k d g h
    replace h:=(Ci.eq_2 (n:=n) _ _ _).symm.trans h
    obtain⟨_,_,h⟩:=Ad h
    obtain⟨_,_,h⟩:=Ad h
    rcases Ai h with⟨_,h⟩|⟨_,h⟩
    . obtain⟨x,hx,h⟩:=Ad h
      have fx:=ih.E _ _ _ _ hx
      rcases Ai h with⟨_,h⟩|⟨_,h⟩
      . obtain rfl:=Aa h;exact fx
      obtain⟨_,_,h⟩:=Ad h
      rcases Ai h with⟨_,h⟩|⟨_,h⟩
      . obtain rfl:=Aa h;exact z
      . obtain rfl:=Aa h;exact fx
    rcases Ai h with⟨_,h⟩|⟨_,h⟩
    . obtain rfl:=Aa h;exact z
    rcases Ai h with⟨_,h⟩|⟨_,h⟩
    . obtain rfl:=Aa h;exact z
    rcases Ai h with⟨_,h⟩|⟨_,h⟩
    . obtain rfl:=Aa h;exact z
    obtain⟨_,_,h⟩:=Ad h
    rcases Ai h with⟨_,h⟩|⟨_,h⟩
    . obtain rfl:=Aa h;exact z
    obtain⟨m,hm,h⟩:=Ad h
    obtain rfl:=Aa h
    exact ih.S _ _ _ _ hm
  . intro l k d g h
    replace h:=(BY.eq_2 (n:=n) _ _ _).symm.trans h
    obtain⟨_,_,h⟩:=Ad h
    rcases Ai h with⟨_,h⟩|⟨_,h⟩
    . obtain⟨m,hm,h⟩:=Ad h
      obtain rfl:=Aa h
      exact ih.B _ _ _ _ _ hm
    obtain⟨_,_,h⟩:=Ad h
    rcases Ai h with⟨_,h⟩|⟨_,h⟩
    . obtain rfl:=Aa h;exact z
    obtain⟨x,hx,h⟩:=Ad h
    have fx:=ih.G _ _ _ _ hx
    rcases Ai h with⟨_,h⟩|⟨_,h⟩
    . obtain rfl:=Aa h;exact fx
    obtain⟨_,_,h⟩:=Ad h
    obtain⟨l1,hl,h⟩:=Ad h
    obtain rfl:=Aa hl
    obtain rfl:=Aa h
    exact (Ti fx).e
  . intro l k d g h
    replace h:=(CE.eq_2 (n:=n) _ _ _).symm.trans h
    obtain⟨_,_,h⟩:=Ad h
    obtain⟨_,_,h⟩:=Ad h
    rcases Ai h with⟨_,h⟩|⟨_,h⟩
    . obtain rfl:=Aa h;exact z
    . exact ih.T _ _ _ _ _ _ Tj h
  . intro l d x to out g fo h
    replace h:=(B3.eq_2 (n:=n) _ _ _ _ _).symm.trans h
    obtain⟨_,_,h⟩:=Ad h
    obtain⟨_,_,h⟩:=Ad h
    rcases Ai h with⟨_,h⟩|⟨_,h⟩
    . obtain rfl:=Aa h;exact z
    obtain⟨y,hy,h⟩:=Ad h
    have fy:=ih.E _ _ _ _ hy
    rcases Ai h with⟨_,h⟩|⟨_,h⟩
    . obtain rfl:=Aa h;exact fy
    obtain⟨l1,hl,h⟩:=Ad h
    obtain rfl:=Aa hl
    obtain⟨l2,hl2,h⟩:=Ad h
    have f2:=XZ hl2 fo (Ti fy)
    obtain⟨_,_,h⟩:=Ad h
    rcases Ai h with⟨_,h⟩|⟨_,h⟩
    . obtain rfl:=Aa h;exact f2.e
    obtain⟨_,_,h⟩:=Ad h
    rcases Ai h with⟨_,h⟩|⟨_,h⟩
    . obtain rfl:=Aa h;exact z
    exact ih.T _ _ _ _ _ _ f2 h
end Go.Sp
namespace Go.Sp
open Go
inductive KF:Aj->Prop where
 |mk (f:Aj) (ha:f.Args.length<=1340357031955) (hx:∀ a∈f.Args,Eh a.E) (hb:f.Body.length<=1927910799388) (h:∀ x∈f.Body,KF x):KF f
def KE (l:List Aj):Prop:=l.length<=1927910799388/\∀ x∈l,KF x
theorem UO {x y z:List Aj}(h:Cp 73 x y=some z)(h1:KE x)(h2:∀ f∈y,KF f):KE z:=by
 have hm:=Oh h
 obtain⟨rfl,_⟩:=GS (by decide) h
 refine⟨by omega,fun e he=>?_⟩
 rcases List.mem_append.1 he with he|he
 . exact h1.2 e he
 . exact h2 e he
def Lg (l:List Aw):Prop:=l.length<=1340357031955/\∀ a∈l,Eh a.E
theorem Tk {x y z:List Aw}(h:Cp 105 x y=some z)(h1:Lg x)(h2:∀ a∈y,Eh a.E):Lg z:=by
 have hm:=Oh h
 obtain⟨rfl,_⟩:=GS (by decide) h
 refine⟨by omega,fun e he=>?_⟩
 rcases List.mem_append.1 he with he|he
 . exact h1.2 e he
 . exact h2 e he
theorem ZE {n:Nat}{l:List Ac}{k:Int}{g:Cl}(h:Ec n l k=some g):Eh g.A.E:=by
 have z:∀ {a b d:Int} {c:ByteArray},Eh ⟨a,b,c,[],d⟩:=Tj.e
 unfold Ec at h
 obtain⟨_,_,h⟩:=Ad h
 obtain⟨_,_,h⟩:=Ad h
 rcases Ai h with⟨_,h⟩|⟨_,h⟩
 . obtain rfl:=Aa h;exact z
 obtain⟨_,_,h⟩:=Ad h
 rcases Ai h with⟨_,h⟩|⟨_,h⟩
 . obtain rfl:=Aa h;exact z
 obtain⟨_,_,h⟩:=Ad h
 rcases Ai h with⟨_,h⟩|⟨_,h⟩
 . obtain⟨_,_,h⟩:=Ad h
   rcases Ai h with⟨_,h⟩|⟨_,h⟩
   . obtain rfl:=Aa h;exact z
   . obtain rfl:=Aa h;exact z
 obtain⟨x,hx,h⟩:=Ad h
 have fx:=(Abv n).E _ _ _ _ hx
 rcases Ai h with⟨_,h⟩|⟨_,h⟩
 . obtain rfl:=Aa h;exact z
 obtain⟨_,_,h⟩:=Ad h
 rcases Ai h with⟨_,h⟩|⟨_,h⟩
 . obtain rfl:=Aa h;exact z
 . obtain rfl:=Aa h;exact fx
structure Acp (n:Nat):Prop where
 F:∀ l k d c g,Ch n l k d c=some g->KF g.F
 L1:∀ l x ags d out to c g,Lg ags->KE out->Bp n l x ags d out to c=some g->KF g.F
 L2:∀ l x c ags to r,Lg ags->Bn n l x c ags to=some r->(∀ g,r=.inr g->KF g.F)/\∀ a to,r=.inl (a,to)->Lg a
theorem Uf:Lg []:=⟨by simp,fun x hx=>by cases hx⟩
theorem Mo:KE []:=⟨by simp,fun x hx=>by cases hx⟩
theorem Wy {ags:List Aw}{out:List Aj}(h1:Lg ags)(h2:KE out){s:ByteArray}{i:Int}:KF ⟨s,ags,out,i⟩:=.mk _ h1.1 h1.2 h2.1 h2.2
theorem Abu:∀ n,Acp n
 |0=>{
  F:=fun l k d c g h=>by simp [Ch] at h
  L1:=fun l x ags d out to c g _ _ h=>by simp [Bp] at h
  L2:=fun l x c ags to r _ h=>by simp [Bn] at h }
 |n+1=>by
  have ih:=Abu n
  have z:∀ {s:ByteArray} {i:Int},KF ⟨s,[],[],i⟩:=Wy Uf Mo
  refine⟨?_,?_,?_⟩
  . intro l k d c g h
    replace h:=(Ch.eq_2 (n:=n) _ _ _ _).symm.trans h
    obtain⟨_,_,h⟩:=Ad h
    rcases Ai h with⟨_,h⟩|⟨_,h⟩
    . obtain rfl:=Aa h;exact z
    obtain⟨_,_,h⟩:=Ad h
    rcases Ai h with⟨_,h⟩|⟨_,h⟩
    . obtain rfl:=Aa h;exact z
    obtain⟨y,hy,h⟩:=Ad h
    have h2:=ih.L2 _ _ _ _ _ _ Uf hy
    rcases y with⟨a,to⟩|o
    . exact ih.L1 _ _ _ _ _ _ _ _ (h2.2 _ _ rfl) Mo h
    . obtain rfl:=Aa h
      exact h2.1 _ rfl
  . intro l x ags d out to c g fa fo h
    replace h:=(Bp.eq_2 (n:=n) _ _ _ _ _ _ _).symm.trans h
    obtain⟨_,_,h⟩:=Ad h
    rcases Ai h with⟨_,h⟩|⟨_,h⟩
    . obtain rfl:=Aa h;exact Wy fa fo
    obtain⟨y,hy,h⟩:=Ad h
    have fy:=ih.F _ _ _ _ _ hy
    rcases Ai h with⟨_,h⟩|⟨_,h⟩
    . obtain rfl:=Aa h;exact fy
    obtain⟨l1,hl,h⟩:=Ad h
    obtain rfl:=Aa hl
    obtain⟨l2,hl2,h⟩:=Ad h
    exact ih.L1 _ _ _ _ _ _ _ _ fa (UO hl2 fo fun f hf=>by obtain rfl:=List.mem_singleton.1 hf;exact fy) h
  . intro l x c ags to r fa h
    replace h:=(Bn.eq_2 (n:=n) _ _ _ _ _).symm.trans h
    obtain⟨_,_,h⟩:=Ad h
    rcases Ai h with⟨_,h⟩|⟨_,h⟩
    . obtain rfl:=Aa h
      exact⟨fun g e=>by cases e;exact Wy fa Mo,fun _ _ e=>by cases e⟩
    obtain⟨_,_,h⟩:=Ad h
    rcases Ai h with⟨_,h⟩|⟨_,h⟩
    . obtain rfl:=Aa h
      exact⟨fun g e=>(by cases e),fun _ _ e=>by cases e;exact fa⟩
    obtain⟨_,_,h⟩:=Ad h
    obtain⟨_,_,h⟩:=Ad h
    obtain⟨_,_,h⟩:=Ad h
    rcases Ai h with⟨_,h⟩|⟨_,h⟩
    . obtain rfl:=Aa h
      exact⟨fun g e=>by cases e;exact z,fun _ _ e=>by cases e⟩
    rcases Ai h with⟨_,h⟩|⟨_,h⟩
    . obtain rfl:=Aa h
      exact⟨fun g e=>by cases e;exact z,fun _ _ e=>by cases e⟩
    obtain⟨y,hy,h⟩:=Ad h
    rcases Ai h with⟨_,h⟩|⟨_,h⟩
    . obtain rfl:=Aa h
      exact⟨fun g e=>by cases e;exact z,fun _ _ e=>by cases e⟩
    obtain⟨l1,hl,h⟩:=Ad h
    obtain rfl:=Aa hl
    obtain⟨l2,hl2,h⟩:=Ad h
    exact ih.L2 _ _ _ _ _ _ (Tk hl2 fa fun a ha=>by obtain rfl:=List.mem_singleton.1 ha;exact ZE hy) h
end Go.Sp
namespace Go.Sp
open Go
inductive Shape:List Lx.Tok->Prop where
 |one (n:Nat):Shape [⟨5,n,[],0⟩]
 |cons (t:Lx.Tok) (l:List Lx.Tok) (h5:t.kind≠5) (h2:t.kind=2->t.s=[]) (h3:t.kind≠2->t.n=0) (h:Shape l):Shape (t::l)
theorem PZ:∀ (r b:List UInt8) {k v:Nat} {s t:List UInt8},Lx.text b r=.ok k s v t->k=3/\v=0
 | [],b,k,v,s,t,h=>by unfold Lx.text at h;split at h<;>cases h
 |c::r,b,k,v,s,t,h=>by
  unfold Lx.text at h
  split at h
  . cases h
  . split at h
    . cases h;exact⟨rfl,rfl⟩
    . split at h
      . split at h
        . cases h
        . rename_i d r'
          split at h
          . cases h
          . exact PZ r' _ h
      . split at h
        . cases h
        . exact PZ r _ h
termination_by r=>r.length
theorem N4:∀ (r b:List UInt8) {e:Nat},Lx.text b r=.bad e->e≠0
 | [],b,e,h=>by unfold Lx.text at h;split at h<;>cases h<;>decide
 |c::r,b,e,h=>by
  unfold Lx.text at h
  split at h
  . cases h;decide
  . split at h
    . cases h
    . split at h
      . split at h
        . cases h;decide
        . rename_i d r'
          split at h
          . cases h;decide
          . exact N4 r' _ h
      . split at h
        . cases h;decide
        . exact N4 r _ h
termination_by r=>r.length
theorem YM {r:List UInt8}{k v:Nat}{s t:List UInt8}(h:Lx.tok r=.ok k s v t):k≠5/\(k=2->s=[])/\(k≠2->v=0):=by
 unfold Lx.tok at h
 split at h
 . cases h
 . split at h
   . unfold Lx.name at h
     split at h
     . cases h
     . cases h;exact⟨by decide,fun h=>absurd h (by decide),fun _=>rfl⟩
   . split at h
     . unfold Lx.number at h
       simp only at h
       split at h
       . cases h
       . cases h;exact⟨by decide,fun _=>rfl,fun h=>absurd rfl h⟩
     . split at h
       . obtain⟨rfl,rfl⟩:=PZ _ _ h
         exact⟨by decide,fun h=>absurd h (by decide),fun _=>rfl⟩
       . unfold Lx.sign at h
         split at h
         . cases h;exact⟨by decide,fun h=>absurd h (by decide),fun _=>rfl⟩
         . split at h
           . cases h
           . split at h
             . cases h;exact⟨by decide,fun h=>absurd h (by decide),fun _=>rfl⟩
             . cases h
theorem Xo {r:List UInt8}{e:Nat}(h:Lx.tok r=.bad e):e≠0:=by
 unfold Lx.tok at h
 split at h
 . cases h;decide
 . split at h
   . unfold Lx.name at h
     split at h
     . cases h;decide
     . cases h
   . split at h
     . unfold Lx.number at h
       simp only at h
       split at h
       . cases h;decide
       . cases h
     . split at h
       . exact N4 _ _ h
       . unfold Lx.sign at h
         split at h
         . cases h
         . split at h
           . cases h;decide
           . split at h
             . cases h
             . cases h;decide
theorem ER {n:Nat}:∀ (f:Nat) (r:List UInt8),(∀ l,Lx.toks n f r=.ok l->Shape l/\l.length<=f+1)/\∀ p e,Lx.toks n f r=.error (p,e)->e≠0
 |0,r=>⟨fun l h=>by unfold Lx.toks at h;cases h;exact⟨.one _,by simp⟩,fun p e h=>by unfold Lx.toks at h;cases h⟩
 |f+1,[]=>⟨fun l h=>by unfold Lx.toks at h;cases h;exact⟨.one _,by simp⟩,fun p e h=>by unfold Lx.toks at h;cases h⟩
 |f+1,c::r=>by
  constructor
  . intro l h
    unfold Lx.toks at h
    simp only at h
    split at h
    . cases h
    . rename_i k s v t ht
      obtain⟨h1,h2,h3⟩:=YM ht
      split at h
      . cases h
      . rename_i l' hl
        cases h
        obtain⟨h4,h5⟩:=(ER f _).1 _ hl
        exact⟨.cons _ _ h1 h2 h3 h4,by simp only [List.length_cons];omega⟩
  . intro p e h
    unfold Lx.toks at h
    simp only at h
    split at h
    . rename_i e' ht
      cases h
      exact Xo ht
    . split at h
      . rename_i x hx
        cases h
        exact (ER f _).2 _ _ hx
      . cases h
theorem Shape.next {l:List Lx.Tok}(h:Shape l):∀ (k:Nat) (t:Lx.Tok),l[k]?=some t->t.kind≠5->∃ t',l[k+1]?=some t':=by
 induction h with
 |one n =>
  intro k t ht h5
  cases k with
  |zero=>cases ht;exact absurd rfl h5
  |succ k=>simp at ht
 |cons t l h5 h2 h3 h ih =>
  intro k t' ht h5'
  cases k with
  |zero =>
   cases h with
   |one n=>exact⟨_,rfl⟩
   |cons t2 l2 _ _ _ _=>exact⟨_,rfl⟩
  |succ k =>
   rw [List.getElem?_cons_succ] at ht ⊢
   exact ih k t' ht h5'
theorem Shape.mem {l:List Lx.Tok}(h:Shape l):∀ t∈l,(t.kind=2->t.s=[])/\(t.kind≠2->t.n=0):=by
 induction h with
 |one n=>intro t ht;obtain rfl:=List.mem_singleton.1 ht;exact⟨fun h=>absurd h (show (5:Nat)≠2 by decide),fun _=>rfl⟩
 |cons t l h5 h2 h3 h ih =>
  intro t' ht
  rcases List.mem_cons.1 ht with rfl|ht
  . exact⟨h2,h3⟩
  . exact ih t' ht
theorem N9 {l:List Lx.Tok}(h:Shape l)(hl:l.length<=1000000):OX (l.map QY)/\∃ t,gi (l.map QY) 0=some t:=by
 refine⟨⟨fun k t ht h5=>?_,by rw [List.length_map];exact hl,fun t ht h2=>?_,fun t ht h2=>?_⟩,?_⟩
 . have hk:=(A0 ht).2
   unfold gi at ht ⊢
   rw [if_pos hk.1,List.getElem?_map] at ht
   cases e:l[k.toNat]? with
   |none=>rw [e] at ht;cases ht
   |some t0 =>
    rw [e] at ht
    obtain rfl:=Aa ht
    obtain⟨t',h'⟩:=h.next k.toNat t0 e (fun h6=>h5 (by show ((t0.kind:Nat):Int)=5;rw [h6];rfl))
    refine⟨QY t',?_⟩
    rw [if_pos (by omega),show (k+1).toNat=k.toNat+1 by omega,List.getElem?_map,h'];rfl
 . obtain⟨t0,h0,rfl⟩:=List.mem_map.1 ht
   have h3:=(h.mem t0 h0).1 (by have:((t0.kind:Nat):Int)=2:=h2;omega)
   show (⟨⟨t0.s⟩⟩:ByteArray)=_
   rw [h3]
 . obtain⟨t0,h0,rfl⟩:=List.mem_map.1 ht
   have h3:=(h.mem t0 h0).2 (fun e=>h2 (by show ((t0.kind:Nat):Int)=2;rw [e];rfl))
   show ((t0.n:Nat):Int)=0
   rw [h3];rfl
 . cases h with
   |one n=>exact⟨_,rfl⟩
   |cons t l _ _ _ _=>exact⟨_,rfl⟩
theorem Yh (src:ByteArray):∃ L pr,Ml src=some (L,pr)/\Ho src=some ⟨L,pr⟩/\((pr=⟨0,0⟩/\OX L/\∃ t,gi L 0=some t)∨pr.E≠0):=by
 refine⟨(Fi src).1,(Fi src).2,rfl,rfl,?_⟩
 unfold Fi
 by_cases h:65536<src.size
 . rw [if_pos h];exact .inr (show (2:Int)≠0 by decide)
 . rw [if_neg h]
   cases ht:Lx.tokens src.data.toList with
   |ok ts =>
    obtain⟨h1,h2⟩:=(ER _ _).1 _ ht
    have h3:src.data.toList.length=src.size:=rfl
    exact .inl ⟨rfl,N9 h1 (by omega)⟩
   |error x =>
    obtain⟨p,e⟩:=x
    have:=(ER _ _).2 _ _ ht
    exact .inr (show ((e:Nat):Int)≠0 by omega)
section
variable {L:List Ac} (hL:OX L) {P:Am}
include hL
theorem Uk:∀ (r:Nat) (k n:Int) (out:List Aj) (t:Ac),gi L k=some t->0<=n->n<=2000->(out.length:Int)<=k->KE out->(L.length:Int)-k<=r ->
 ∃ u w,Ev (fun m=>Bo m ⟨L,P⟩ out k n) u/\Ev (fun m=>B4 m out (L.drop k.toNat) n) w /\
  ((∃ out' k' t' n',gi L k'=some t'/\t'.Kind=5/\KE out'/\u=.inl out'/\w=.inl (out',L.drop k'.toNat,n')) ∨
   (∃ (pr:Au) (x:Ab),pr.E≠0/\u=.inr ⟨[],x,⟨pr.At,pr.E⟩⟩/\∃ c,w=.inr (.pan pr c)))
 |0,k,n,out,t,ht,hn0,hn,ho,hf,hr=>by have:=(A0 ht).2;omega
 |r+1,k,n,out,t,ht,hn0,hn,ho,hf,hr=>by
  have hk:=(A0 ht).2
  have hl:=hL.len
  have hp:L.drop k.toNat=t::L.drop (k+1).toNat:=(A0 ht).1
  by_cases c1:t.Kind=5
  . have c1':(t.Kind != 5)=false:=by simpa using c1
    refine⟨.inl out,.inl (out,L.drop k.toNat,n),Ev.step (fun m=>Bo.eq_2 (n:=m) _ _ _ _) (Ev.of fun m=>?_),Ev.step (fun m=>B4.eq_2 (n:=m) _ _ _) (Ev.of fun m=>?_),.inl ⟨out,k,t,n,ht,c1,hf,rfl,rfl⟩⟩
    . simp only [ht,Option.bind_some,c1',cond_false]
    . rw [hp];simp only [HZ,Option.bind_some,c1',cond_false]
  . have c1':(t.Kind != 5)=true:=by simpa using c1
    obtain⟨g,y,hg,hy,t2,ht2,hc⟩:=Y7 hL L.length k t ht (by omega) 1 n hn0 hn
    have fg:KF g.F:=by obtain⟨m,hm⟩:=hg.get;exact (Abu m).F _ _ _ _ _ hm
    have r1:∀ u,Ev (fun m=>(bif (g.E != 0) then
     (gi L g.To).bind fun x2=>some (.inr (BP.mk [] (Ab.mk 0 0 ⟨#[]⟩ [] 0) (Am.mk x2.At g.E)))
     else Bo m ⟨L,P⟩ (out++[g.F]) g.To g.N:Option ((List Aj) ⊕ BP))) u->Ev (fun m=>Bo m ⟨L,P⟩ out k n) u:=by
     intro u hu
     refine Ev.step (fun m=>Bo.eq_2 (n:=m) _ _ _ _) ?_
     simp only [ht,Option.bind_some,c1',cond_true]
     refine Ev.bind hg ?_
     refine hu.congr fun m=>?_
     simp only [HD ho (show k<=1000000 by omega) (show 73<=1000 by decide),Option.bind_some]
    have p1:∀ w,Ev (fun m=>(match y with
     |.ok f s=>B4 m (out++[f]) s.l s.forms
     |.pan e1 s1=>some (.inr (.pan e1 (out,s1.l,s1.forms))):Option (((List Aj)×(List Ac)×Int) ⊕ (Ex Au ((List Aj)×(List Ac)×Int) Unit)))) w->Ev (fun m=>B4 m out (L.drop k.toNat) n) w:=by
     intro w hw
     refine Ev.step (fun m=>B4.eq_2 (n:=m) _ _ _) ?_
     rw [CP ht] at hy
     rw [hp]
     simp only [HZ,Option.bind_some,c1',cond_true]
     refine Ev.bind hy ?_
     refine hw.congr fun m=>?_
     cases y with
     |ok a p=>simp only [HD ho (show k<=1000000 by omega) (show 73<=1000 by decide),Option.bind_some]
     |pan e p=>rfl
    rcases hc with⟨he,hgt,hN0,hN,rfl⟩|⟨he,f,rfl⟩
    . rw [show (g.E != 0)=false by simpa using he] at r1
      have hk2:=(A0 ht2).2
      have fo:KE (out++[g.F]):=⟨by simp;omega,fun x hx=>by
       rcases List.mem_append.1 hx with hx|hx
       . exact hf.2 x hx
       . obtain rfl:=List.mem_singleton.1 hx;exact fg⟩
      obtain⟨u,w,hu,hw,hc⟩:=Uk r g.To g.N (out++[g.F]) t2 ht2 hN0 hN (by simp;omega) fo (by omega)
      exact⟨u,w,r1 u hu,p1 w hw,hc⟩
    . rw [show (g.E != 0)=true by simpa using he] at r1
      refine⟨_,_,r1 _ ?_,p1 _ Ev.pure,.inr ⟨⟨t2.At,g.E⟩,⟨0,0,⟨#[]⟩,[],0⟩,he,rfl,_,rfl⟩⟩
      simp only [cond_true,ht2,Option.bind_some]
      exact Ev.pure
end
theorem PK (src:ByteArray):∃ l pr x,Ev (fun n=>Di n src) (l,pr)/\Ev (fun n=>Ek n src) ⟨l,x,pr⟩/\KE l/\(pr.E=0->pr=⟨0,0⟩)/\(pr.E≠0->l=[]):=by
 obtain⟨L,pr,h1,h2,⟨rfl,hL,t,ht⟩|he⟩:=Yh src
 . obtain⟨u,w,hu,hw,hc⟩:=Uk hL (P:=⟨0,0⟩) L.length 0 0 [] t ht (by decide) (by decide) (by decide) Mo (by omega)
   have hw':Ev (fun m=>B4 m [] L 0) w:=hw
   have rf:∀ r,Ev (fun _=>(match u with
    |.inl out=>some (BP.mk out (Ab.mk 0 0 ⟨#[]⟩ [] 0) (Am.mk 0 0))
    |.inr o=>some o:Option BP)) r->Ev (fun n=>Ek n src) r:=by
    rintro r ⟨N,hr⟩
    obtain⟨M,hM⟩:=hu
    refine⟨max N M,fun n hn=>?_⟩
    have a:=hr n (by omega)
    have b:=hM n (by omega)
    simp only at a b ⊢
    rw [<- a]
    unfold Ek
    rw [h2]
    simp only [Option.bind_some,bne_self_eq_false,cond_false]
    rw [b]
    rfl
   have pf:∀ r,Ev (fun _=>((match w with
    |.inl (out1,q4,q5)=>some (.ok () (out1,q4,q5))
    |.inr o=>some o:Option (Ex Au ((List Aj)×(List Ac)×Int) Unit)).bind fun y=>(match y with
    |.ok f c=>(gi c.2.1 0).bind fun x=>bif (x.Kind != 5) then
     (AN (Ae.mk c.2.1 c.2.2) 5).bind fun y1=>match y1 with
     |.ok f1 s=>some ((Am.mk 0 0),c.1)
     |.pan e1 s1=>some ((Am.mk e1.At e1.E),c.1)
     else some ((Am.mk 0 0),c.1)
    |.pan e c1=>some ((Am.mk e.At e.E),c1.1):Option (Am×List Aj))).bind fun bad=>(bif (bad.1.E != 0) then some ([],bad.1) else some (bad.2,bad.1):Option (List Aj×Am))) r->Ev (fun n=>Di n src) r:=by
    rintro r ⟨N,hr⟩
    obtain⟨M,hM⟩:=hw'
    refine⟨max N M,fun n hn=>?_⟩
    have a:=hr n (by omega)
    have b:=hM n (by omega)
    simp only at a b ⊢
    rw [<- a]
    unfold Di D7 Fv
    rw [h1]
    simp only [Option.bind_some,bne_self_eq_false,cond_false]
    rw [b]
    rfl
   rcases hc with⟨out',k',t',n',ht',h5,hf,rfl,rfl⟩|⟨st,x,he,rfl,c,rfl⟩
   . refine⟨out',⟨0,0⟩,_,pf _ ?_,rf _ Ev.pure,hf,fun _=>rfl,fun h=>absurd rfl h⟩
     have hh:gi (L.drop k'.toNat) 0=some t':=by rw [<- XU _ (A0 ht').2.1];exact ht'
     have h5':(t'.Kind != 5)=false:=by simpa using h5
     simp only [Option.bind_some,hh,h5',cond_false,bne_self_eq_false]
     exact Ev.pure
   . refine⟨[],⟨st.At,st.E⟩,_,pf _ ?_,rf _ Ev.pure,Mo,fun h=>absurd h he,fun _=>rfl⟩
     have he':(st.E != 0)=true:=by simpa using he
     simp only [Option.bind_some,he',cond_true]
     exact Ev.pure
 . have he':(pr.E != 0)=true:=by simpa using he
   refine⟨[],pr,⟨0,0,⟨#[]⟩,[],0⟩,Ev.of fun n=>?_,Ev.of fun n=>?_,Mo,fun h=>absurd h he,fun _=>rfl⟩
   . unfold Di D7
     rw [h1]
     simp only [Option.bind_some,he',cond_true]
   . unfold Ek
     rw [h2]
     simp only [Option.bind_some,he',cond_true]
end Go.Sp
namespace Go.Sp
open Go
inductive Lh (S:Int->Prop):Ab->Prop where
 |mk {op n:Int} {s:ByteArray} {l:List Ab} {p:Int} (hp:S p) (h:∀ x∈l,Lh S x) (hl:l.length<=1000000):Lh S ⟨op,n,s,l,p⟩
theorem Lh.p {S:Int->Prop}{e:Ab}(h:Lh S e):S e.At:=by cases h;assumption
theorem Lh.k {S:Int->Prop}{e:Ab}(h:Lh S e):∀ x∈e.Kids,Lh S x:=by cases h;assumption
theorem Lh.n {S:Int->Prop}{e:Ab}(h:Lh S e):e.Kids.length<=1000000:=by cases h;assumption
structure WY (S:Int->Prop) (l:List Ac):Prop where
 z:S 0
 t:∀ k t,gi l k=some t->S t.At
structure Aco (S:Int->Prop) (l:List Ac) (n:Nat):Prop where
 E:∀ k d g,AY n l k d=some g->Lh S g.X
 B:∀ k v d g,AK n l k v d=some g->Lh S g.X
 L:∀ v x d a b c e to er r,S x.X.At->(∀ y∈e,Lh S y)->e.length<=1000000->AF n l v x d a b c e to er=some r->(∀ g,r=.inr g->Lh S g.X)/\∀ a b c e to er,r=.inl (a,b,c,e,to,er)->(∀ y∈e,Lh S y)/\e.length<=1000000
 M:∀ k d g,BE n l k d=some g->Lh S g.X
 A:∀ k d g,Ci n l k d=some g->Lh S g.X
 G:∀ k d g,BY n l k d=some g->Lh S g.X
 Z:∀ k d g,CE n l k d=some g->Lh S g.X
 T:∀ d x to out g,S x.At->(∀ y∈out,Lh S y)->out.length<=40->B3 n l d x to out=some g->Lh S g.X
theorem Py {α:Type}{P:α->Prop}{a:α}(h:P a):∀ x∈[a],P x:=fun x hx=>by rw [List.mem_singleton.1 hx];exact h
theorem Y1 {α:Type}{P:α->Prop}{a b:α}(h:P a)(k:P b):∀ x∈[a,b],P x:=fun x hx=>by
 rcases List.mem_cons.1 hx with rfl|hx
 . exact h
 . exact Py k x hx
theorem Aa8 {α:Type}{P:α->Prop}{a b c:α}(h:P a)(k:P b)(m:P c):∀ x∈[a,b,c],P x:=fun x hx=>by
 rcases List.mem_cons.1 hx with rfl|hx
 . exact h
 . exact Y1 k m x hx
theorem Wj {α:Type}{P:α->Prop}{b:Nat}{x y z:List α}(h:Cp b x y=some z)(h1:∀ a∈x,P a)(h2:∀ a∈y,P a):∀ a∈z,P a:=by
 unfold Cp at h
 split at h
 . obtain rfl:=Aa h
   intro a ha
   rcases List.mem_append.1 ha with ha|ha
   . exact h1 a ha
   . exact h2 a ha
 . cases h
theorem Aat {S:Int->Prop}{l:List Ac}(hS:WY S l):∀ n,Aco S l n
 |0=>{
  E:=fun k d g h=>by simp [AY] at h
  B:=fun k v d g h=>by simp [AK] at h
  L:=fun v x d a b c e to er r _ _ _ h=>by simp [AF] at h
  M:=fun k d g h=>by simp [BE] at h
  A:=fun k d g h=>by simp [Ci] at h
  G:=fun k d g h=>by simp [BY] at h
  Z:=fun k d g h=>by simp [CE] at h
  T:=fun d x to out g _ _ _ h=>by simp [B3] at h }
 |n+1=>by
  have ih:=Aat hS n
  have e0:∀ x∈([]:List Ab),Lh S x:=fun x hx=>by cases hx
  have z:∀ {a b:Int} {c:ByteArray},Lh S ⟨a,b,c,[],0⟩:=.mk hS.z e0 (by simp)
  have zt:∀ {a b p:Int} {c:ByteArray},S p->Lh S ⟨a,b,c,[],p⟩:=fun h=>.mk h e0 (by simp)
  refine⟨?_,?_,?_,?_,?_,?_,?_,?_⟩
  . intro k d g h
    replace h:=(AY.eq_2 (n:=n) _ _ _).symm.trans h
    obtain⟨_,_,h⟩:=Ad h
    rcases Ai h with⟨_,h⟩|⟨_,h⟩
    . obtain rfl:=Aa h;exact z
    obtain⟨c,hc,h⟩:=Ad h
    have fc:=ih.B _ _ _ _ hc
    rcases Ai h with⟨_,h⟩|⟨_,h⟩
    . obtain rfl:=Aa h;exact fc
    obtain⟨_,_,h⟩:=Ad h
    rcases Ai h with⟨_,h⟩|⟨_,h⟩
    . obtain rfl:=Aa h;exact fc
    obtain⟨a,ha,h⟩:=Ad h
    have fa:=ih.E _ _ _ ha
    rcases Ai h with⟨_,h⟩|⟨_,h⟩
    . obtain rfl:=Aa h;exact fa
    obtain⟨_,_,h⟩:=Ad h
    rcases Ai h with⟨_,h⟩|⟨_,h⟩
    . obtain rfl:=Aa h;exact z
    obtain⟨b,hb,h⟩:=Ad h
    have fb:=ih.E _ _ _ hb
    rcases Ai h with⟨_,h⟩|⟨_,h⟩
    . obtain rfl:=Aa h;exact fb
    obtain⟨l1,hl,h⟩:=Ad h
    obtain rfl:=Aa hl
    obtain rfl:=Aa h
    exact .mk fc.p (Aa8 fc fa fb) (by simp)
  . intro k v d g h
    replace h:=(AK.eq_2 (n:=n) _ _ _ _).symm.trans h
    rcases Ai h with⟨_,h⟩|⟨_,h⟩
    . obtain⟨m,hm,h⟩:=Ad h
      obtain rfl:=Aa h
      exact ih.M _ _ _ hm
    rcases Ai h with⟨_,h⟩|⟨_,h⟩
    . obtain⟨m,hm,h⟩:=Ad h
      obtain rfl:=Aa h
      exact ih.G _ _ _ hm
    obtain⟨x,hx,h⟩:=Ad h
    have fx:=ih.B _ _ _ _ hx
    obtain⟨y,hy,h⟩:=Ad h
    have hL:=ih.L _ _ _ _ _ _ _ _ _ _ fx.p fx.k fx.n hy
    rcases y with⟨a,b,c,e,to,er⟩|o
    . obtain rfl:=Aa h
      exact .mk fx.p (hL.2 _ _ _ _ _ _ rfl).1 (hL.2 _ _ _ _ _ _ rfl).2
    . obtain rfl:=Aa h
      exact hL.1 _ rfl
  . intro v x d a b c e to er r fx fe fn h
    replace h:=(AF.eq_2 (n:=n) _ _ _ _ _ _ _ _ _ _).symm.trans h
    rcases Ai h with⟨_,h⟩|⟨_,h⟩
    . obtain⟨op,_,h⟩:=Ad h
      rcases Ai h with⟨_,h⟩|⟨_,h⟩
      . obtain rfl:=Aa h
        exact⟨fun g e2=>by cases e2;exact .mk fx fe fn,fun _ _ _ _ _ _ e2=>by cases e2⟩
      obtain⟨y,hy,h⟩:=Ad h
      have fy:=ih.B _ _ _ _ hy
      rcases Ai h with⟨_,h⟩|⟨_,h⟩
      . obtain rfl:=Aa h
        exact⟨fun g e2=>by cases e2;exact fy,fun _ _ _ _ _ _ e2=>by cases e2⟩
      obtain⟨l1,hl,h⟩:=Ad h
      obtain rfl:=Aa hl
      have f2:∀ y'∈[Ab.mk a b c e x.X.At,y.X],Lh S y':=Y1 (.mk fx fe fn) fy
      rcases Ai h with⟨_,h⟩|⟨_,h⟩
      . obtain rfl:=Aa h
        exact⟨fun g e2=>by cases e2;exact .mk fx f2 (by simp),fun _ _ _ _ _ _ e2=>by cases e2⟩
      exact ih.L _ _ _ _ _ _ _ _ _ _ fx f2 (by simp) h
    . obtain rfl:=Aa h
      exact⟨fun g e2=>(by cases e2),fun a' b' c' e' to' er' e2=>by
       have:=Sum.inl.inj e2
       simp only [Prod.mk.injEq] at this
       rw [<- this.2.2.2.1];exact⟨fe,fn⟩⟩
  . intro k d g h
    replace h:=(BE.eq_2 (n:=n) _ _ _).symm.trans h
    obtain⟨_,_,h⟩:=Ad h
    rcases Ai h with⟨_,h⟩|⟨_,h⟩
    . obtain⟨m,hm,h⟩:=Ad h
      obtain rfl:=Aa h
      exact ih.A _ _ _ hm
    obtain⟨_,_,h⟩:=Ad h
    rcases Ai h with⟨_,h⟩|⟨_,h⟩
    . obtain rfl:=Aa h;exact z
    obtain⟨x,hx,h⟩:=Ad h
    have fx:=ih.M _ _ _ hx
    rcases Ai h with⟨_,h⟩|⟨_,h⟩
    . obtain rfl:=Aa h;exact fx
    obtain⟨t,ht,h⟩:=Ad h
    obtain⟨l1,hl,h⟩:=Ad h
    obtain rfl:=Aa hl
    obtain rfl:=Aa h
    exact .mk (hS.t _ _ ht) (Py fx) (by simp)
  . intro k d g h
    replace h:=(Ci.eq_2 (n:=n) _ _ _).symm.trans h
    obtain⟨t,ht,h⟩:=Ad h
    have st:=hS.t _ _ ht
    obtain⟨_,_,h⟩:=Ad h
    rcases Ai h with⟨_,h⟩|⟨_,h⟩
    . obtain⟨x,hx,h⟩:=Ad h
      have fx:=ih.E _ _ _ hx
      rcases Ai h with⟨_,h⟩|⟨_,h⟩
      . obtain rfl:=Aa h;exact fx
      obtain⟨_,_,h⟩:=Ad h
      rcases Ai h with⟨_,h⟩|⟨_,h⟩
      . obtain rfl:=Aa h;exact z
      . obtain rfl:=Aa h;exact fx
    rcases Ai h with⟨_,h⟩|⟨_,h⟩
    . obtain rfl:=Aa h;exact zt st
    rcases Ai h with⟨_,h⟩|⟨_,h⟩
    . obtain rfl:=Aa h;exact zt st
    rcases Ai h with⟨_,h⟩|⟨_,h⟩
    . obtain rfl:=Aa h;exact z
    obtain⟨_,_,h⟩:=Ad h
    rcases Ai h with⟨_,h⟩|⟨_,h⟩
    . obtain rfl:=Aa h;exact zt st
    obtain⟨m,hm,h⟩:=Ad h
    obtain rfl:=Aa h
    exact ih.Z _ _ _ hm
  . intro k d g h
    replace h:=(BY.eq_2 (n:=n) _ _ _).symm.trans h
    obtain⟨_,_,h⟩:=Ad h
    rcases Ai h with⟨_,h⟩|⟨_,h⟩
    . obtain⟨m,hm,h⟩:=Ad h
      obtain rfl:=Aa h
      exact ih.B _ _ _ _ hm
    obtain⟨_,_,h⟩:=Ad h
    rcases Ai h with⟨_,h⟩|⟨_,h⟩
    . obtain rfl:=Aa h;exact z
    obtain⟨x,hx,h⟩:=Ad h
    have fx:=ih.G _ _ _ hx
    rcases Ai h with⟨_,h⟩|⟨_,h⟩
    . obtain rfl:=Aa h;exact fx
    obtain⟨t,ht,h⟩:=Ad h
    obtain⟨l1,hl,h⟩:=Ad h
    obtain rfl:=Aa hl
    obtain rfl:=Aa h
    exact .mk (hS.t _ _ ht) (Py fx) (by simp)
  . intro k d g h
    replace h:=(CE.eq_2 (n:=n) _ _ _).symm.trans h
    obtain⟨t,ht,h⟩:=Ad h
    obtain⟨_,_,h⟩:=Ad h
    rcases Ai h with⟨_,h⟩|⟨_,h⟩
    . obtain rfl:=Aa h;exact zt (hS.t _ _ ht)
    exact ih.T _ _ _ _ _ (hS.t _ _ ht) e0 (by simp) h
  . intro d x to out g sx fo fo4 h
    replace h:=(B3.eq_2 (n:=n) _ _ _ _ _).symm.trans h
    obtain⟨e,he,h⟩:=Ad h
    obtain⟨v,hv,h⟩:=Ad h
    rcases Ai h with⟨_,h⟩|⟨hvf,h⟩
    . obtain rfl:=Aa h;exact z
    obtain⟨y,hy,h⟩:=Ad h
    have fy:=ih.E _ _ _ hy
    rcases Ai h with⟨_,h⟩|⟨hyE,h⟩
    . obtain rfl:=Aa h;exact fy
    have h39:out.length<=39:=by
     cases n with
     |zero=>simp [AY] at hy
     |succ m =>
      replace hy:=(AY.eq_2 (n:=m) _ _ _).symm.trans hy
      obtain⟨e',he',hy⟩:=Ad hy
      obtain rfl:=Aa (he.symm.trans he')
      rcases Ai hy with⟨c0,hy⟩|⟨c0,_⟩
      . obtain rfl:=Aa hy
        rw [c0] at hyE;cases hyE
      . have c0:e=0:=by simpa using c0
        subst c0
        rcases Ai hv with⟨_,hv⟩|⟨c1,_⟩
        . rcases Ai hv with⟨_,hv⟩|⟨c2,_⟩
          . rw [<- Aa hv] at hvf;cases hvf
          . have:(out.length:Int)≠40:=by simpa using c2
            omega
        . cases c1
    obtain⟨l1,hl,h⟩:=Ad h
    obtain rfl:=Aa hl
    obtain⟨l2,hl2,h⟩:=Ad h
    have f2:=Wj hl2 fo (Py fy)
    have n2:l2.length<=40:=by rw [(GS (by decide) hl2).1];simp;omega
    obtain⟨_,_,h⟩:=Ad h
    rcases Ai h with⟨_,h⟩|⟨_,h⟩
    . obtain rfl:=Aa h;exact .mk sx f2 (by omega)
    obtain⟨_,_,h⟩:=Ad h
    rcases Ai h with⟨_,h⟩|⟨_,h⟩
    . obtain rfl:=Aa h;exact z
    exact ih.T _ _ _ _ _ sx f2 n2 h
def YF (S:Int->Prop)(a:Aw):Prop:=S a.At/\Lh S a.E
def YE (S:Int->Prop)(f:Aj):Prop:=S f.At/\∀ a∈f.Args,YF S a
theorem YU {S:Int->Prop}{l:List Ac}(hS:WY S l){n:Nat}{k:Int}{g:Cl}(h:Ec n l k=some g):YF S g.A:=by
 have e0:∀ x∈([]:List Ab),Lh S x:=fun x hx=>by cases hx
 have z:∀ {a b:Int} {c:ByteArray},Lh S ⟨a,b,c,[],0⟩:=.mk hS.z e0 (by simp)
 unfold Ec at h
 obtain⟨t,ht,h⟩:=Ad h
 have st:=hS.t _ _ ht
 obtain⟨_,_,h⟩:=Ad h
 rcases Ai h with⟨_,h⟩|⟨_,h⟩
 . obtain rfl:=Aa h;exact⟨st,z⟩
 obtain⟨_,_,h⟩:=Ad h
 rcases Ai h with⟨_,h⟩|⟨_,h⟩
 . obtain rfl:=Aa h;exact⟨st,z⟩
 obtain⟨_,_,h⟩:=Ad h
 rcases Ai h with⟨_,h⟩|⟨_,h⟩
 . obtain⟨_,_,h⟩:=Ad h
   rcases Ai h with⟨_,h⟩|⟨_,h⟩
   . obtain rfl:=Aa h;exact⟨hS.z,z⟩
   . obtain rfl:=Aa h;exact⟨st,z⟩
 obtain⟨x,hx,h⟩:=Ad h
 have fx:=(Aat hS n).E _ _ _ hx
 rcases Ai h with⟨_,h⟩|⟨_,h⟩
 . obtain rfl:=Aa h;exact⟨hS.z,z⟩
 obtain⟨_,_,h⟩:=Ad h
 rcases Ai h with⟨_,h⟩|⟨_,h⟩
 . obtain rfl:=Aa h;exact⟨hS.z,z⟩
 . obtain rfl:=Aa h;exact⟨st,fx⟩
structure Acn (S:Int->Prop) (l:List Ac) (n:Nat):Prop where
 F:∀ k d c g,Ch n l k d c=some g->YE S g.F
 L1:∀ x ags d out to c g,S x.At->(∀ a∈ags,YF S a)->Bp n l x ags d out to c=some g->YE S g.F
 L2:∀ x c ags to r,S x.At->(∀ a∈ags,YF S a)->Bn n l x c ags to=some r->(∀ g,r=.inr g->YE S g.F)/\∀ a to,r=.inl (a,to)->∀ b∈a,YF S b
theorem Aas {S:Int->Prop}{l:List Ac}(hS:WY S l):∀ n,Acn S l n
 |0=>{
  F:=fun k d c g h=>by simp [Ch] at h
  L1:=fun x ags d out to c g _ _ h=>by simp [Bp] at h
  L2:=fun x c ags to r _ _ h=>by simp [Bn] at h }
 |n+1=>by
  have ih:=Aas hS n
  have a0:∀ x∈([]:List Aw),YF S x:=fun x hx=>by cases hx
  have z:∀ {s:ByteArray} {b:List Aj},YE S ⟨s,[],b,0⟩:=⟨hS.z,a0⟩
  refine⟨?_,?_,?_⟩
  . intro k d c g h
    replace h:=(Ch.eq_2 (n:=n) _ _ _ _).symm.trans h
    obtain⟨t,ht,h⟩:=Ad h
    have st:=hS.t _ _ ht
    rcases Ai h with⟨_,h⟩|⟨_,h⟩
    . obtain rfl:=Aa h;exact z
    obtain⟨_,_,h⟩:=Ad h
    rcases Ai h with⟨_,h⟩|⟨_,h⟩
    . obtain rfl:=Aa h;exact z
    obtain⟨y,hy,h⟩:=Ad h
    have h2:=ih.L2 _ _ _ _ _ st a0 hy
    rcases y with⟨a,to⟩|o
    . exact ih.L1 _ _ _ _ _ _ _ st (h2.2 _ _ rfl) h
    . obtain rfl:=Aa h
      exact h2.1 _ rfl
  . intro x ags d out to c g sx fa h
    replace h:=(Bp.eq_2 (n:=n) _ _ _ _ _ _ _).symm.trans h
    obtain⟨_,_,h⟩:=Ad h
    rcases Ai h with⟨_,h⟩|⟨_,h⟩
    . obtain rfl:=Aa h;exact⟨sx,fa⟩
    obtain⟨y,hy,h⟩:=Ad h
    have fy:=ih.F _ _ _ _ hy
    rcases Ai h with⟨_,h⟩|⟨_,h⟩
    . obtain rfl:=Aa h;exact fy
    obtain⟨l1,hl,h⟩:=Ad h
    obtain⟨l2,hl2,h⟩:=Ad h
    exact ih.L1 _ _ _ _ _ _ _ sx fa h
  . intro x c ags to r sx fa h
    replace h:=(Bn.eq_2 (n:=n) _ _ _ _ _).symm.trans h
    obtain⟨_,_,h⟩:=Ad h
    rcases Ai h with⟨_,h⟩|⟨_,h⟩
    . obtain rfl:=Aa h
      exact⟨fun g e=>by cases e;exact⟨sx,fa⟩,fun _ _ e=>by cases e⟩
    obtain⟨_,_,h⟩:=Ad h
    rcases Ai h with⟨_,h⟩|⟨_,h⟩
    . obtain rfl:=Aa h
      exact⟨fun g e=>(by cases e),fun _ _ e=>by cases e;exact fa⟩
    obtain⟨_,_,h⟩:=Ad h
    obtain⟨_,_,h⟩:=Ad h
    obtain⟨_,_,h⟩:=Ad h
    rcases Ai h with⟨_,h⟩|⟨_,h⟩
    . obtain rfl:=Aa h
      exact⟨fun g e=>by cases e;exact z,fun _ _ e=>by cases e⟩
    rcases Ai h with⟨_,h⟩|⟨_,h⟩
    . obtain rfl:=Aa h
      exact⟨fun g e=>by cases e;exact z,fun _ _ e=>by cases e⟩
    obtain⟨y,hy,h⟩:=Ad h
    rcases Ai h with⟨_,h⟩|⟨_,h⟩
    . obtain rfl:=Aa h
      exact⟨fun g e=>by cases e;exact z,fun _ _ e=>by cases e⟩
    obtain⟨l1,hl,h⟩:=Ad h
    obtain rfl:=Aa hl
    obtain⟨l2,hl2,h⟩:=Ad h
    exact ih.L2 _ _ _ _ _ sx (Wj hl2 fa (Py (YU hS hy))) h
theorem VD {S:Int->Prop}{t:IT}(hS:WY S t.L):∀ (n:Nat) (out:List Aj) (k c:Int) (r:(List Aj) ⊕ BP),(∀ f∈out,YE S f)->Bo n t out k c=some r ->
 (∀ l,r=.inl l->∀ f∈l,YE S f)/\∀ o,r=.inr o->S o.P.At/\o.L=[]
 |0,out,k,c,r,_,h=>by simp [Bo] at h
 |n+1,out,k,c,r,fo,h=>by
  replace h:=(Bo.eq_2 (n:=n) _ _ _ _).symm.trans h
  obtain⟨x,hx,h⟩:=Ad h
  rcases Ai h with⟨_,h⟩|⟨_,h⟩
  . obtain⟨y,hy,h⟩:=Ad h
    rcases Ai h with⟨_,h⟩|⟨_,h⟩
    . obtain⟨u,hu,h⟩:=Ad h
      obtain rfl:=Aa h
      exact⟨fun l e=>(by cases e),fun o e=>(by cases e;exact⟨hS.t _ _ hu,rfl⟩)⟩
    . obtain⟨l1,hl,h⟩:=Ad h
      obtain rfl:=Aa hl
      obtain⟨l2,hl2,h⟩:=Ad h
      exact VD hS n _ _ _ _ (Wj hl2 fo (Py ((Aas hS n).F _ _ _ _ hy))) h
  . obtain rfl:=Aa h
    exact⟨fun l e=>(by cases e;exact fo),fun o e=>(by cases e)⟩
end Go.Sp
namespace Go.Sp
open Go
structure Sh (L M:List Ac) (s e:Int):Prop where
 hs:0<=s/\s<=1000000
 he:e<=1000000
 same:∀ k t,k<e->gi L k=some t->∃ t',gi M (k+s)=some t'/\t'.Kind=t.Kind/\t'.S=t.S/\t'.N=t.N
 fin:∀ t,gi L e=some t->t.Kind=5
 top:∀ k t,gi L k=some t->k<=e
theorem Ta {r:Option A5}{K:A5->Option A5}{g:A5}(h:(r.bind fun g=>bif (g.E != 0) then some g else K g)=some g)(hg:g.E=0) :
 ∃ c,r=some c/\c.E=0/\K c=some g:=by
 obtain⟨c,hc,h⟩:=Ad h
 rcases Ai h with⟨h1,h⟩|⟨h1,h⟩
 . obtain rfl:=Aa h;rw [hg] at h1;cases h1
 . exact⟨c,hc,by simpa using h1,h⟩
theorem Tc {t:Ac}{d:Int}{no:Bool}(h:fst t d no=0):t.Kind≠5/\d<=30:=by
 unfold fst at h
 split at h
 . cases h
 . rename_i h3
   split at h
   . cases h
   . refine⟨fun h5=>h3 ?_,by omega⟩
     unfold Gm;rw [h5]
     simp
end Go.Sp
namespace Go.Sp
open Go
def tS (s:ByteArray):Ac:=⟨4,0,s,0⟩
def Yj (op:Int):List Av->Option Av
 | []=>none
 |b::r=>if b.op=op then some b else Yj op r
def lvl (op:Int):Int:=if op=20 then 0 else if op=5 then 3 else if op=6 then 7 else match Yj op L4 with|some b=>b.level|none=>8
def Jh (need:Int)(p:Int×List Ac):List Ac:=if need<=p.1 then p.2 else tS ⟨#[40]⟩::(p.2++[tS ⟨#[41]⟩])
def lf (lv:Int):Int:=if lv=4 then 5 else lv
def NB:List (Int×List Ac)->List Ac
 | []=>[]
 |p::r=>tS ⟨#[44]⟩::(Jh 0 p++NB r)
def sep:List (Int×List Ac)->List Ac
 | []=>[]
 |p::r=>Jh 0 p++NB r
def pOp (op n:Int)(s:ByteArray)(ks:List (Int×List Ac)):List Ac :=
 if op=1 then [⟨2,0,⟨#[]⟩,n⟩] else if op=2 then [⟨3,0,s,0⟩] else if op=3 then [⟨1,0,s,0⟩]
 else if op=4 then ⟨1,0,s,0⟩::tS ⟨#[40]⟩::(sep ks++[tS ⟨#[41]⟩])
 else if op=5 then (match ks with | [a]=>tS ⟨#[33]⟩::Jh 3 a|_=>[])
 else if op=6 then (match ks with | [a]=>tS ⟨#[45]⟩::Jh 7 a|_=>[])
 else if op=20 then (match ks with | [a,b,c]=>Jh 1 a++(tS ⟨#[63]⟩::(Jh 0 b++(tS ⟨#[58]⟩::Jh 0 c)))|_=>[])
 else match Yj op L4,ks with
  |some b,[x,y]=>Jh (lf b.level) x++(tS b.sign::Jh (b.level+1) y)
  |_,_=>[]
mutual
def J4:Ab->List Ac
 |.mk op n s l _=>pOp op n s (QM l)
def QM:List Ab->List (Int×List Ac)
 | []=>[]
 |x::l=>(lvl x.Op,J4 x)::QM l
end
def MV (need:Int)(p:Int×(Int->Prop))(d:Int):Prop:=if need<=p.1 then p.2 d else d+1<=30/\p.2 (d+1)
def ZF (op:Int)(ks:List (Int×(Int->Prop)))(d:Int):Prop :=
 if op=1 then True else if op=2 then True else if op=3 then True
 else if op=4 then ks.length<=40/\∀ p∈ks,d+1<=30/\MV 0 p (d+1)
 else if op=5 then (match ks with | [a]=>d+1<=30/\MV 3 a (d+1)|_=>False)
 else if op=6 then (match ks with | [a]=>d+1<=30/\MV 7 a (d+1)|_=>False)
 else if op=20 then (match ks with | [a,b,c]=>MV 1 a d/\d+1<=30/\MV 0 b (d+1)/\MV 0 c (d+1)|_=>False)
 else match Yj op L4,ks with
  |some b,[x,y]=>MV (lf b.level) x d/\MV (b.level+1) y d
  |_,_=>False
mutual
def Ge:Ab->Int->Prop
 |.mk op _ _ l _=>ZF op (Oo l)
def Oo:List Ab->List (Int×(Int->Prop))
 | []=>[]
 |x::l=>(lvl x.Op,Ge x)::Oo l
end
theorem Iu {b:Av}(hb:b∈L4):Yj b.op L4=some b/\lvl b.op=b.level/\(b.level=1∨b.level=2∨b.level=4∨b.level=5∨b.level=6)/\b.op≠1/\b.op≠2/\b.op≠3/\b.op≠4/\b.op≠5/\b.op≠6/\b.op≠20/\b.op≠0/\Nc (tS b.sign)=⟨b.level,b.op⟩/\isS (tS b.sign) ⟨#[40]⟩=false:=by
 simp only [L4,List.mem_cons,List.not_mem_nil,or_false] at hb
 rcases hb with rfl|rfl|rfl|rfl|rfl|rfl|rfl|rfl|rfl|rfl|rfl|rfl|rfl
 all_goals exact⟨rfl,rfl,by decide,by decide,by decide,by decide,by decide,by decide,by decide,by decide,by decide,rfl,rfl⟩
theorem Ul {op:Int}{b:Av}:∀ {l:List Av},Yj op l=some b->b∈l/\b.op=op
 | [],h=>by cases h
 |c::r,h=>by
  unfold Yj at h
  split at h
  . rename_i h2
    cases h;exact⟨.head _,h2⟩
  . obtain⟨h1,h2⟩:=Ul h
    exact⟨.tail _ h1,h2⟩
theorem P1 (op:Int):0<=lvl op/\lvl op<=8:=by
 unfold lvl
 split
 . omega
 split
 . omega
 split
 . omega
 cases h:Yj op L4 with
 |none=>simp only;omega
 |some b =>
  have:=(Iu (Ul h).1).2.2.1
  simp only;omega
section
variable {b:Av} (hb:b∈L4) (n p:Int) (s:ByteArray) (x y:Ab)
include hb
theorem X0:J4 ⟨b.op,n,s,[x,y],p⟩=Jh (lf b.level) (lvl x.Op,J4 x)++(tS b.sign::Jh (b.level+1) (lvl y.Op,J4 y)):=by
 obtain⟨f1,f2,f3,h1,h2,h3,h4,h5,h6,h20,_⟩:=Iu hb
 simp only [J4,QM,pOp,h1,h2,h3,h4,h5,h6,h20,if_false,f1]
theorem XY (d:Int):Ge ⟨b.op,n,s,[x,y],p⟩ d=(MV (lf b.level) (lvl x.Op,Ge x) d/\MV (b.level+1) (lvl y.Op,Ge y) d):=by
 obtain⟨f1,f2,f3,h1,h2,h3,h4,h5,h6,h20,_⟩:=Iu hb
 simp only [Ge,Oo,ZF,h1,h2,h3,h4,h5,h6,h20,if_false,f1]
end
end Go.Sp
namespace Go.Sp
open Go
def EI (s:ByteArray):Bool:=decide (0<s.size/\s.size<=32)&&(Lx.headIs Lx.isLetter s.data.toList&&s.data.toList.all Lx.isWord)
def O6 (c:UInt8):Bool:=c == 10||(decide (32<=c)&&decide (c<=126))
def Lp (s:ByteArray):Bool:=decide (s.size<=200)&&s.data.toList.all O6
def MD (n:Int):Bool:=decide (0<=n/\n<=999999999999999)
theorem Ky (c:UInt8):(decide (48<=(c.toNat:Int))&&decide ((c.toNat:Int)<=57))=Lx.isDigit c:=by
 have:∀ k:Fin 256,(decide (48<=((k.val:Nat):Int))&&decide (((k.val:Nat):Int)<=57))=Lx.isDigit (UInt8.ofNat k.val):=by decide +kernel
 have h:=this ⟨c.toNat,c.toNat_lt⟩
 rw [show UInt8.ofNat c.toNat=c from UInt8.ofNat_toNat] at h
 exact h
end Go.Sp
namespace Go.Sp
open Go
theorem VW {n:Nat}{L:List Ac}{k:Int}{r:B7}(h:GR n L k=some r):∃ t,gi L k=some t:=by
 unfold GR at h
 cases n with
 |zero=>cases h
 |succ n =>
  simp only [Option.bind_some] at h
  obtain⟨y,hy,_⟩:=Ad h
  replace hy:=(Cn.eq_2 (n:=n) _ _ _ _ _).symm.trans hy
  rcases Ai hy with⟨_,hy⟩|⟨h2,_⟩
  . obtain⟨x,_,hy⟩:=Ad hy
    obtain⟨b,hb,_⟩:=Ad hy
    obtain⟨t,ht,_⟩:=Cm hb
    exact⟨t,ht⟩
  . cases h2
theorem Tm {n:Nat}{L:List Ac}{k d:Int}{g:A5}(h:AY n L k d=some g)(hg:g.E=0):DE L k d true=some 0:=by
 cases n with
 |zero=>cases (AY.eq_1 _ _ _).symm.trans h
 |succ n =>
  replace h:=(AY.eq_2 (n:=n) _ _ _).symm.trans h
  obtain⟨v,hv,h⟩:=Ad h
  rcases Ai h with⟨hb,h⟩|⟨hb,h⟩
  . obtain rfl:=Aa h;rw [show v=0 from hg] at hb;cases hb
  . obtain rfl:v=0:=by simpa using hb
    exact hv
end Go.Sp


namespace Go.Sp
open Go
theorem QO (op:Int)(ts:List Ac):Jh 0 (lvl op,ts)=ts:=if_pos (P1 op).1
theorem RU:∀ l:List Ab,(Oo l).length=l.length
 | []=>rfl
 |x::l=>by show (Oo l).length+1=_;rw [RU l];rfl
end Go.Sp

namespace Go.Sp
open Go
def Aaw (op n:Int)(s:ByteArray)(ks:List Bool):Bool :=
 if op=1 then MD n else if op=2 then Lp s else if op=3 then EI s
 else if op=4 then EI s&&ks.all id
 else if op=5 then ks.length == 1&&ks.all id
 else if op=6 then ks.length == 1&&ks.all id
 else if op=20 then ks.length == 3&&ks.all id
 else (Yj op L4).isSome&&(ks.length == 2&&ks.all id)
mutual
def J5:Ab->Bool
 |.mk op n s l _=>Aaw op n s (ZP l)
def ZP:List Ab->List Bool
 | []=>[]
 |x::l=>J5 x::ZP l
end
end Go.Sp
namespace Go.Sp
open Go
def tw (t:Ac):Nat:=(Hv t).flatten.length+1
def E1:List Ac->Nat
 | []=>0
 |t::l=>tw t+E1 l
theorem D9:∀ a b:List Ac,E1 (a++b)=E1 a+E1 b
 | [],b=>by show E1 b=0+E1 b;omega
 |t::a,b=>by show tw t+E1 (a++b)=tw t+E1 a+E1 b;rw [D9 a b];omega
def sm (L:List Ac)(k:Int):Nat:=E1 (L.take k.toNat)
theorem Kl {L:List Ac}{k:Int}{t:Ac}(h:gi L k=some t):sm L (k+1)=sm L k+tw t:=by
 obtain⟨_,h0,h1⟩:=A0 h
 unfold gi at h
 rw [if_pos h0] at h
 obtain⟨hl,he⟩:=List.getElem?_eq_some_iff.1 h
 unfold sm
 rw [show (k+1).toNat=k.toNat+1 by omega,List.take_succ_eq_append_getElem hl,D9,he];rfl
theorem UH {t:Ac}{s:ByteArray}(h:isS t s=true):t.Kind=4/\t.S=s:=by
 unfold isS at h
 simp only [Bool.and_eq_true,beq_iff_eq,decide_eq_true_eq] at h
 exact h
theorem TE {t:Ac}{s:ByteArray}(h:isS t s=true):tw t=tw (tS s):=by
 obtain⟨h1,h2⟩:=UH h
 unfold tw Hv tS
 rw [h1,h2];rfl
theorem DD {L:List Ac}{k:Int}{t:Ac}{s:ByteArray}(h:gi L k=some t)(hs:isS t s=true):sm L (k+1)=sm L k+tw (tS s):=by rw [Kl h,TE hs]
structure Tg (t:Ac):Prop where
 name:t.Kind=1->EI t.S=true
 num:t.Kind=2->MD t.N=true
 text:t.Kind=3->Lp t.S=true
theorem W1 {ks:List (Int×(Int->Prop))}{op d d':Int}(hk:∀ p∈ks,∀ d d',d<=d'->p.2 d'->p.2 d)(hd:d<=d')(h:ZF op ks d'):ZF op ks d:=by
 have w:∀ {need:Int} {p:Int×(Int->Prop)} {d d':Int},p∈ks->d<=d'->MV need p d'->MV need p d:=by
  intro need p d d' hp hd h
  unfold MV at h ⊢
  split at h
  . rename_i q;rw [if_pos q];exact hk p hp _ _ hd h
  . rename_i q;rw [if_neg q];exact⟨by omega,hk p hp _ _ (by omega) h.2⟩
 unfold ZF at h ⊢
 split at h
 . rename_i q;rw [if_pos q];trivial
 rename_i q;rw [if_neg q]
 split at h
 . rename_i q;rw [if_pos q];trivial
 rename_i q;rw [if_neg q]
 split at h
 . rename_i q;rw [if_pos q];trivial
 rename_i q;rw [if_neg q]
 split at h
 . rename_i q;rw [if_pos q];exact⟨h.1,fun p hp=>⟨by have:=(h.2 p hp).1;omega,w hp (by omega) (h.2 p hp).2⟩⟩
 rename_i q;rw [if_neg q]
 split at h
 . rename_i q;rw [if_pos q]
   split at h
   . exact⟨by omega,w (.head _) (by omega) h.2⟩
   . exact h.elim
 rename_i q;rw [if_neg q]
 split at h
 . rename_i q;rw [if_pos q]
   split at h
   . exact⟨by omega,w (.head _) (by omega) h.2⟩
   . exact h.elim
 rename_i q;rw [if_neg q]
 split at h
 . rename_i q;rw [if_pos q]
   split at h
   . exact⟨w (.head _) hd h.1,by omega,w (.tail _ (.head _)) (by omega) h.2.2.1,w (.tail _ (.tail _ (.head _))) (by omega) h.2.2.2⟩
   . exact h.elim
 rename_i q;rw [if_neg q]
 split at h
 . exact⟨w (.head _) hd h.1,w (.tail _ (.head _)) hd h.2⟩
 . exact h.elim
mutual
theorem On:∀ (x:Ab) (d d':Int),d<=d'->Ge x d'->Ge x d
 |.mk _ _ _ l _,_,_,hd,h=>W1 (fun p hp=>PA l p hp) hd h
theorem PA:∀ (l:List Ab) (p:Int×(Int->Prop)),p∈Oo l->∀ d d',d<=d'->p.2 d'->p.2 d
 | [],p,h=>by cases h
 |x::l,p,h=>by
  rcases List.mem_cons.1 (show p∈(lvl x.Op,Ge x)::Oo l from h) with rfl|h
  . exact On x
  . exact PA l p h
end
theorem Vr {v v' d:Int}{x:Ab}(hv:v'<=v)(h:MV v (lvl x.Op,Ge x) d):MV v' (lvl x.Op,Ge x) d:=by
 unfold MV at h ⊢
 by_cases q:v'<=lvl x.Op
 . rw [if_pos q]
   by_cases q2:v<=lvl x.Op
   . rw [if_pos q2] at h;exact h
   . rw [if_neg q2] at h;exact On x d (d+1) (by omega) h.2
 . rw [if_neg q]
   rw [if_neg (show ¬ v<=lvl x.Op by omega)] at h;exact h
theorem PX {v v' l:Int}{ts:List Ac}(hv:v'<=v):E1 (Jh v' (l,ts))<=E1 (Jh v (l,ts)):=by
 unfold Jh
 by_cases q:v'<=l
 . rw [if_pos q]
   split
   . exact Nat.le_refl _
   . show E1 ts<=tw _+E1 (ts++_)
     rw [D9];omega
 . rw [if_neg q,if_neg (show ¬ v<=l by omega)];exact Nat.le_refl _
structure RB (L:List Ac) (v k d:Int) (X:Ab) (z:Int):Prop where
 ok:J5 X=true
 fit:MV v (lvl X.Op,Ge X) d
 wt:sm L k+E1 (Jh v (lvl X.Op,J4 X))<=sm L z
theorem RB.down {L:List Ac}{v v' k d z:Int}{X:Ab}(h:RB L v k d X z)(hv:v'<=v):RB L v' k d X z :=
 ⟨h.ok,Vr hv h.fit,by have:=h.wt;have:=PX (l:=lvl X.Op) (ts:=J4 X) hv;omega⟩
theorem RB.at {L:List Ac}{v k d z:Int}{a b Y9 at2:Int}{o:ByteArray}{ks:List Ab}(h:RB L v k d ⟨a,b,o,ks,Y9⟩ z):RB L v k d ⟨a,b,o,ks,at2⟩ z:=⟨h.ok,h.fit,h.wt⟩
theorem XE {b:Av}(hb:b∈L4){n p:Int}{s:ByteArray}{x y:Ab}(hx:J5 x=true)(hy:J5 y=true):J5 ⟨b.op,n,s,[x,y],p⟩=true:=by
 obtain⟨f1,f2,f3,h1,h2,h3,h4,h5,h6,h20,_⟩:=Iu hb
 simp only [J5,ZP,Aaw,h1,h2,h3,h4,h5,h6,h20,if_false,f1,hx,hy];rfl
theorem YT {L:List Ac}{v k d to z:Int}{X Y:Ab}{t:Ac}{b:Av}(hb:b∈L4)(hv:b.level=v)(hX:RB L (lf v) k d X to)(ht:gi L to=some t)(hs:isS t b.sign=true)(hY:RB L (v+1) (to+1) d Y z)(n p:Int)(s:ByteArray) :
 RB L v k d ⟨b.op,n,s,[X,Y],p⟩ z:=by
 subst hv
 obtain⟨f1,f2,f3,_⟩:=Iu hb
 have e:lvl (Ab.mk b.op n s [X,Y] p).Op=b.level:=f2
 refine⟨XE hb hX.ok hY.ok,?_,?_⟩
 . unfold MV
   rw [e,if_pos (Int.le_refl _)]
   show Ge ⟨b.op,n,s,[X,Y],p⟩ d
   rw [XY hb];exact⟨hX.fit,hY.fit⟩
 . rw [e]
   unfold Jh
   rw [if_pos (Int.le_refl _)]
   show _+E1 (J4 ⟨b.op,n,s,[X,Y],p⟩)<=_
   rw [X0 hb,D9]
   have h1:=hX.wt
   have h2:=hY.wt
   rw [DD ht hs] at h2
   show sm L k+(E1 (Jh (lf b.level) (lvl X.Op,J4 X))+(tw (tS b.sign)+E1 (Jh (b.level+1) (lvl Y.Op,J4 Y))))<=sm L z
   omega
theorem XK {t:Ac}{v:Int}(h:(Nc t).N=v)(hv:1<=v):∃ b∈L4,b.level=v/\b.op=(Nc t).Op/\isS t b.sign=true:=by
 have key:∀ (z:List (ByteArray×Int)) (j:Nat),(Hg t z j).N≠0->∃ i,∃ hi:i<z.length,(Hg t z j).N=z[i].2/\(Hg t z j).Op=7+((j+i:Nat):Int)/\isS t z[i].1=true:=by
  intro z
  induction z with
  |nil=>intro j h;exact absurd rfl h
  |cons a z ih =>
   intro j h
   obtain⟨s,l⟩:=a
   unfold Hg at h ⊢
   by_cases q:isS t s=true
   . rw [if_pos q]
     exact⟨0,by simp,rfl,rfl,q⟩
   . rw [if_neg q] at h ⊢
     obtain⟨i,hi,h1,h2,h3⟩:=ih (j+1) h
     exact⟨i+1,by simpa using hi,h1,by rw [h2];congr 2;omega,h3⟩
 obtain⟨i,hi,h1,h2,h3⟩:=key Xd 0 (by unfold Nc at h;omega)
 have all:∀ i,(hi:i<Xd.length)->∃ b∈L4,b.level=Xd[i].2/\b.op=7+((0+i:Nat):Int)/\b.sign=Xd[i].1:=by
  intro i hi
  have hl:Xd.length=L4.length:=rfl
  refine⟨L4[i]'(by omega),List.getElem_mem _,?_⟩
  match i,hi with
  |0,_|1,_|2,_|3,_|4,_|5,_|6,_|7,_|8,_|9,_|10,_|11,_|12,_=>exact⟨rfl,rfl,rfl⟩
  |i+13,h=>exact absurd h (by show ¬ i+13<13;omega)
 obtain⟨b,hb,b1,b2,b3⟩:=all i hi
 refine⟨b,hb,?_,?_,by rw [b3];exact h3⟩
 . unfold Nc at h;omega
 . unfold Nc;omega
theorem TO:∀ a b:List Ab,QM (a++b)=QM a++QM b
 | [],b=>rfl
 |x::a,b=>by show _::QM (a++b)=_;rw [TO a b];rfl
theorem Rg:∀ a b:List (Int×List Ac),NB (a++b)=NB a++NB b
 | [],b=>rfl
 |x::a,b=>by show tS ⟨#[44]⟩::(Jh 0 x++NB (a++b))=tS ⟨#[44]⟩::(Jh 0 x++NB a)++NB b;rw [Rg a b];simp
theorem V4 (a:List Ab)(x:Ab):E1 (sep (QM (a++[x])))=E1 (sep (QM a))+(if a.isEmpty then 0 else tw (tS ⟨#[44]⟩))+E1 (J4 x):=by
 cases a with
 |nil =>
  show E1 (Jh 0 (lvl x.Op,J4 x)++[])=0+0+E1 (J4 x)
  rw [QO,List.append_nil];omega
 |cons y a =>
  rw [TO]
  show E1 (Jh 0 (lvl y.Op,J4 y)++NB (QM a++QM [x]))=E1 (Jh 0 (lvl y.Op,J4 y)++NB (QM a))+tw (tS ⟨#[44]⟩)+E1 (J4 x)
  rw [Rg,D9,D9,D9]
  have:E1 (NB (QM [x]))=tw (tS ⟨#[44]⟩)+E1 (J4 x):=by
   show tw (tS ⟨#[44]⟩)+E1 (Jh 0 (lvl x.Op,J4 x)++[])=_
   rw [QO,List.append_nil]
  omega
end Go.Sp
namespace Go.Sp
open Go
structure QI (L:List Ac) (n:Nat):Prop where
 fE:∀ k d g,0<=d->d<=31->AY n L k d=some g->g.E=0->RB L 0 k d g.X g.To/\d<=30
 fB:∀ k v d g,1<=v->v<=7->0<=d->d<=30->AK n L k v d=some g->g.E=0->RB L v k d g.X g.To
 fL:∀ v x d a b o ks to r k,1<=v->v<=6->v≠3->0<=d->d<=30->AF n L v x d a b o ks to 0=some r->RB L (lf v) k d ⟨a,b,o,ks,0⟩ to->∃ g,r=.inr g/\(g.E=0->RB L v k d g.X g.To)
 fM:∀ k d g,0<=d->d<=30->BE n L k d=some g->g.E=0->RB L 7 k d g.X g.To
 fA:∀ k d g,0<=d->d<=30->Ci n L k d=some g->g.E=0->RB L 8 k d g.X g.To
 fG:∀ k d g,0<=d->d<=30->BY n L k d=some g->g.E=0->RB L 3 k d g.X g.To
 fS:∀ k d g t,0<=d->d<=30->gi L k=some t->t.Kind=1->Bg L (k+1) ⟨#[40]⟩=some true->CE n L k d=some g->g.E=0->RB L 8 k d g.X g.To
 fT:∀ d x to out g k,0<=d->d<=30->B3 n L d x to out=some g->g.E=0->EI x.S=true->(∀ y∈out,J5 y=true/\Ge y (d+1))->out.length<=40->(out≠[]->d+1<=30) ->
  sm L k+(tw ⟨1,0,x.S,0⟩+tw (tS ⟨#[40]⟩)+E1 (sep (QM out))+(if out.isEmpty then 0 else tw (tS ⟨#[44]⟩)))<=sm L to->RB L 8 k d g.X g.To
theorem Rv:∀ {l:List Ab},(∀ x∈l,J5 x=true)->(ZP l).all id=true
 | [],_=>rfl
 |x::l,h=>by
  show (J5 x&&(ZP l).all id)=true
  rw [h x (.head _),Rv fun y hy=>h y (.tail _ hy)];rfl
theorem Wv {l:List Ab}{p:Int×(Int->Prop)}(h:p∈Oo l):∃ x∈l,p=(lvl x.Op,Ge x):=by
 induction l with
 |nil=>cases h
 |cons x l ih =>
  rcases List.mem_cons.1 (show p∈(lvl x.Op,Ge x)::Oo l from h) with rfl|h
  . exact⟨x,.head _,rfl⟩
  . obtain⟨y,hy,e⟩:=ih h
    exact⟨y,.tail _ hy,e⟩
theorem TD {x:Ab}{d:Int}:MV 0 (lvl x.Op,Ge x) d=Ge x d:=by unfold MV;rw [if_pos (P1 _).1]
theorem TN {L:List Ac}{k d z:Int}{s:ByteArray}{l:List Ab}{p v:Int}(hs:EI s=true)(hl:∀ y∈l,J5 y=true/\Ge y (d+1))(h40:l.length<=40)(hd:l≠[]->d+1<=30)
 (hw:sm L k+(tw ⟨1,0,s,0⟩+tw (tS ⟨#[40]⟩)+E1 (sep (QM l))+tw (tS ⟨#[41]⟩))<=sm L z):RB L 8 k d ⟨4,v,s,l,p⟩ z:=by
 refine⟨?_,?_,?_⟩
 . show (EI s&&(ZP l).all id)=true
   rw [hs,Rv fun x hx=>(hl x hx).1];rfl
 . show (Oo l).length<=40/\∀ p∈Oo l,d+1<=30/\MV 0 p (d+1)
   rw [RU]
   refine⟨h40,fun p hp=>?_⟩
   obtain⟨x,hx,rfl⟩:=Wv hp
   exact⟨hd (by rintro rfl;cases hx),by rw [TD];exact (hl x hx).2⟩
 . show sm L k+(tw ⟨1,0,s,0⟩+(tw (tS ⟨#[40]⟩)+E1 (sep (QM l)++[tS ⟨#[41]⟩])))<=sm L z
   rw [D9]
   show sm L k+(tw ⟨1,0,s,0⟩+(tw (tS ⟨#[40]⟩)+(E1 (sep (QM l))+(tw (tS ⟨#[41]⟩)+0))))<=sm L z
   omega
section
variable {L:List Ac} (hM:OX L) (hg:∀ t∈L,Tg t)
include hM
theorem rE1 {n:Nat}(ih:QI L n):∀ k d g,0<=d->d<=31->AY (n+1) L k d=some g->g.E=0->RB L 0 k d g.X g.To/\d<=30:=by
 have hl:=hM.len
 intro k d g d0 d1 h he
 replace h:=(AY.eq_2 (n:=n) _ _ _).symm.trans h
 obtain⟨v,hv,h⟩:=Ad h
 rcases Ai h with⟨hb,h⟩|⟨hb,h⟩
 . obtain rfl:=Aa h;rw [show v=0 from he] at hb;cases hb
 obtain rfl:v=0:=by simpa using hb
 obtain⟨t,ht,hf⟩:=L9 hv
 have hd:=(Tc hf.symm).2
 obtain⟨c,hc,c0,h⟩:=Ta h he
 have C:=ih.fB _ _ _ _ (by decide) (by decide) d0 hd hc c0
 obtain⟨q,hq,h⟩:=Ad h
 obtain⟨t1,ht1,rfl⟩:=Cm hq
 have hr1:=(A0 ht1).2
 have w1:IntKind.i64.wrap (c.To+1)=c.To+1:=by rw [AJ]<;>omega
 have w2:IntKind.i64.wrap (d+1)=d+1:=by rw [AJ]<;>omega
 cases hb:isS t1 ⟨#[63]⟩ with
 |false =>
  rw [hb] at h
  obtain rfl:=Aa h
  exact⟨C.down (by omega),hd⟩
 |true =>
  rw [hb] at h
  simp only [Bool.not_true,cond_false] at h
  obtain⟨a,ha,a0,h⟩:=Ta h he
  rw [w1,w2] at ha
  obtain⟨A,dA⟩:=ih.fE _ _ _ (by omega) (by omega) ha a0
  obtain⟨q2,hq2,h⟩:=Ad h
  obtain⟨t2,ht2,rfl⟩:=Cm hq2
  have hr2:=(A0 ht2).2
  have w3:IntKind.i64.wrap (a.To+1)=a.To+1:=by rw [AJ]<;>omega
  cases hb2:isS t2 ⟨#[58]⟩ with
  |false =>
   rw [hb2] at h
   obtain rfl:=Aa h
   exact absurd (show (5:Int)=0 from he) (by decide)
  |true =>
   rw [hb2] at h
   simp only [Bool.not_true,cond_false] at h
   obtain⟨b,hb',b0,h⟩:=Ta h he
   rw [w3,w2] at hb'
   obtain⟨B,_⟩:=ih.fE _ _ _ (by omega) (by omega) hb' b0
   obtain⟨l1,hl1,h⟩:=Ad h
   obtain rfl:=Aa hl1
   obtain rfl:=Aa h
   refine⟨⟨?_,?_,?_⟩,hd⟩
   . show (true&&(J5 c.X&&(J5 a.X&&(J5 b.X&&true))))=true
     rw [C.ok,A.ok,B.ok];rfl
   . show MV 1 (lvl c.X.Op,Ge c.X) d/\d+1<=30/\MV 0 (lvl a.X.Op,Ge a.X) (d+1)/\MV 0 (lvl b.X.Op,Ge b.X) (d+1)
     exact⟨C.fit,dA,A.fit,B.fit⟩
   . show sm L k+E1 (Jh 1 (lvl c.X.Op,J4 c.X)++(tS ⟨#[63]⟩::(Jh 0 (lvl a.X.Op,J4 a.X)++(tS ⟨#[58]⟩::Jh 0 (lvl b.X.Op,J4 b.X)))))<=sm L b.To
     have x1:=C.wt
     have x2:=A.wt
     have x3:=B.wt
     rw [DD ht1 hb] at x2
     rw [DD ht2 hb2] at x3
     rw [D9]
     show sm L k+(E1 (Jh 1 (lvl c.X.Op,J4 c.X))+(tw (tS ⟨#[63]⟩)+E1 (Jh 0 (lvl a.X.Op,J4 a.X)++(tS ⟨#[58]⟩::Jh 0 (lvl b.X.Op,J4 b.X)))))<=sm L b.To
     rw [D9]
     show sm L k+(E1 (Jh 1 (lvl c.X.Op,J4 c.X))+(tw (tS ⟨#[63]⟩)+(E1 (Jh 0 (lvl a.X.Op,J4 a.X))+(tw (tS ⟨#[58]⟩)+E1 (Jh 0 (lvl b.X.Op,J4 b.X))))))<=sm L b.To
     omega
theorem rM1 {n:Nat}(ih:QI L n):∀ k d g,0<=d->d<=30->BE (n+1) L k d=some g->g.E=0->RB L 7 k d g.X g.To:=by
 have hl:=hM.len
 intro k d g d0 d1 h he
 replace h:=(BE.eq_2 (n:=n) _ _ _).symm.trans h
 obtain⟨q,hq,h⟩:=Ad h
 obtain⟨t,ht,rfl⟩:=Cm hq
 have hk:=(A0 ht).2
 cases hb:isS t ⟨#[45]⟩ with
 |false =>
  rw [hb] at h
  simp only [Bool.not_false,cond_true] at h
  obtain⟨m,hm,h⟩:=Ad h
  obtain rfl:=Aa h
  exact (ih.fA _ _ _ d0 d1 hm he).down (by omega)
 |true =>
  rw [hb] at h
  simp only [Bool.not_true,cond_false] at h
  have w1:IntKind.i64.wrap (k+1)=k+1:=by rw [AJ]<;>omega
  have w2:IntKind.i64.wrap (d+1)=d+1:=by rw [AJ]<;>omega
  rw [w1,w2] at h
  obtain⟨v,hv,h⟩:=Ad h
  rcases Ai h with⟨hb3,h⟩|⟨hb3,h⟩
  . obtain rfl:=Aa h;rw [show v=0 from he] at hb3;cases hb3
  obtain rfl:v=0:=by simpa using hb3
  obtain⟨t2,ht2,hf⟩:=L9 hv
  have hd:=(Tc hf.symm).2
  obtain⟨x,hx,x0,h⟩:=Ta h he
  have X:=ih.fM _ _ _ (by omega) hd hx x0
  obtain⟨t3,ht3,h⟩:=Ad h
  obtain⟨l1,hl1,h⟩:=Ad h
  obtain rfl:=Aa hl1
  obtain rfl:=Aa h
  refine⟨?_,⟨hd,X.fit⟩,?_⟩
  . show (true&&(J5 x.X&&true))=true
    rw [X.ok];rfl
  . show sm L k+(tw (tS ⟨#[45]⟩)+E1 (Jh 7 (lvl x.X.Op,J4 x.X)))<=sm L x.To
    have x1:=X.wt
    rw [DD ht hb] at x1
    omega
theorem rG1 {n:Nat}(ih:QI L n):∀ k d g,0<=d->d<=30->BY (n+1) L k d=some g->g.E=0->RB L 3 k d g.X g.To:=by
 have hl:=hM.len
 intro k d g d0 d1 h he
 replace h:=(BY.eq_2 (n:=n) _ _ _).symm.trans h
 obtain⟨q,hq,h⟩:=Ad h
 obtain⟨t,ht,rfl⟩:=Cm hq
 have hk:=(A0 ht).2
 cases hb:isS t ⟨#[33]⟩ with
 |false =>
  rw [hb] at h
  simp only [Bool.not_false,cond_true] at h
  obtain⟨m,hm,h⟩:=Ad h
  obtain rfl:=Aa h
  exact (ih.fB _ _ _ _ (by decide) (by decide) d0 d1 hm he).down (by omega)
 |true =>
  rw [hb] at h
  simp only [Bool.not_true,cond_false] at h
  have w1:IntKind.i64.wrap (k+1)=k+1:=by rw [AJ]<;>omega
  have w2:IntKind.i64.wrap (d+1)=d+1:=by rw [AJ]<;>omega
  rw [w1,w2] at h
  obtain⟨v,hv,h⟩:=Ad h
  rcases Ai h with⟨hb3,h⟩|⟨hb3,h⟩
  . obtain rfl:=Aa h;rw [show v=0 from he] at hb3;cases hb3
  obtain rfl:v=0:=by simpa using hb3
  obtain⟨t2,ht2,hf⟩:=L9 hv
  have hd:=(Tc hf.symm).2
  obtain⟨x,hx,x0,h⟩:=Ta h he
  have X:=ih.fG _ _ _ (by omega) hd hx x0
  obtain⟨t3,ht3,h⟩:=Ad h
  obtain⟨l1,hl1,h⟩:=Ad h
  obtain rfl:=Aa hl1
  obtain rfl:=Aa h
  refine⟨?_,⟨hd,X.fit⟩,?_⟩
  . show (true&&(J5 x.X&&true))=true
    rw [X.ok];rfl
  . show sm L k+(tw (tS ⟨#[33]⟩)+E1 (Jh 3 (lvl x.X.Op,J4 x.X)))<=sm L x.To
    have x1:=X.wt
    rw [DD ht hb] at x1
    omega
omit hM in
theorem rB1 {n:Nat}(ih:QI L n):∀ k v d g,1<=v->v<=7->0<=d->d<=30->AK (n+1) L k v d=some g->g.E=0->RB L v k d g.X g.To:=by
 intro k v d g v1 v2 d0 d1 h he
 replace h:=(AK.eq_2 (n:=n) _ _ _ _).symm.trans h
 rcases Ai h with⟨q1,h⟩|⟨q1,h⟩
 . obtain⟨m,hm,h⟩:=Ad h
   obtain rfl:=Aa h
   exact (ih.fM _ _ _ d0 d1 hm he).down (by omega)
 rcases Ai h with⟨q2,h⟩|⟨q2,h⟩
 . obtain⟨m,hm,h⟩:=Ad h
   obtain rfl:=Aa h
   have hv:v=3:=by simpa using q2
   rw [hv];exact ih.fG _ _ _ d0 d1 hm he
 obtain⟨x,hx,h⟩:=Ad h
 have v3:v<=6:=by simpa using q1
 have v4:v≠3:=by simpa using q2
 have w:IntKind.i64.wrap (v+1)=v+1:=by rw [AJ]<;>omega
 rw [w] at hx
 obtain⟨y,hy,h⟩:=Ad h
 cases n with
 |zero=>cases (AK.eq_1 _ _ _ _).symm.trans hx
 |succ n =>
 by_cases x0:x.E=0
 . rw [x0] at hy
   have X:=ih.fB _ _ _ _ (by omega) (by omega) d0 d1 hx x0
   have X2:=X.down (v':=lf v) (by unfold lf;split<;>omega)
   obtain⟨⟨xa,xb,xc,xl,xp⟩,xt,xe⟩:=x
   obtain⟨o,rfl,hL⟩:=ih.fL _ _ _ _ _ _ _ _ _ k v1 v3 v4 d0 d1 hy X2.at
   obtain rfl:=Aa h
   exact hL he
 . exfalso
   replace hy:=(AF.eq_2 (n:=n) _ _ _ _ _ _ _ _ _ _).symm.trans hy
   rcases Ai hy with⟨q,hy⟩|⟨q,hy⟩
   . exact x0 (by simpa using q)
   . obtain rfl:=Aa hy
     obtain rfl:=Aa h
     exact x0 he
theorem rL1 {n:Nat}(ih:QI L n):∀ v x d a b o ks to r k,1<=v->v<=6->v≠3->0<=d->d<=30->AF (n+1) L v x d a b o ks to 0=some r->RB L (lf v) k d ⟨a,b,o,ks,0⟩ to->∃ g,r=.inr g/\(g.E=0->RB L v k d g.X g.To):=by
 have hl:=hM.len
 intro v x d a b o ks to r k v1 v2 v3 d0 d1 h X
 have hlf:v<=lf v:=by unfold lf;split<;>omega
 replace h:=(AF.eq_2 (n:=n) _ _ _ _ _ _ _ _ _ _).symm.trans h
 replace h:=((Ai h).resolve_right (fun q=>by cases q.1)).2
 obtain⟨op,hop,h⟩:=Ad h
 obtain⟨t,ht⟩:=VW hop
 have hr:=(A0 ht).2
 have w1:IntKind.i64.wrap (to+1)=to+1:=by rw [AJ]<;>omega
 have wv:IntKind.i64.wrap (v+1)=v+1:=by rw [AJ]<;>omega
 rcases Ai h with⟨q1,h⟩|⟨q1,h⟩
 . obtain rfl:=Aa h
   exact⟨_,rfl,fun _=>(X.down hlf).at⟩
 . rw [w1,wv] at h
   have hopl:=P4 ht hop
   have hN:op.N=v:=by simpa using q1
   obtain⟨b',hb,b1,b2,b3⟩:=XK (t:=t) (v:=v) (by rw [<- hopl];exact hN) v1
   obtain⟨y,hy,h⟩:=Ad h
   rcases Ai h with⟨q2,h⟩|⟨q2,h⟩
   . obtain rfl:=Aa h
     exact⟨_,rfl,fun h0=>absurd h0 (by simpa using q2)⟩
   have y0:y.E=0:=by simpa using q2
   have Y:=ih.fB _ _ _ _ (by omega) (by omega) d0 d1 hy y0
   obtain⟨l1,hl1,h⟩:=Ad h
   obtain rfl:=Aa hl1
   have R:=YT (L:=L) (v:=v) (k:=k) (d:=d) (X:=⟨a,b,o,ks,x.X.At⟩) hb b1 X.at ht b3 Y 0 x.X.At ⟨#[]⟩
   rw [b2,<- hopl] at R
   rcases Ai h with⟨q3,h⟩|⟨q3,h⟩
   . obtain rfl:=Aa h
     exact⟨_,rfl,fun _=>R⟩
   . refine ih.fL _ _ _ _ _ _ _ _ _ k v1 v2 v3 d0 d1 h ?_
     have h4:v≠4:=by simpa using q3
     have:lf v=v:=by unfold lf;rw [if_neg h4]
     rw [this];exact R.at
include hg
theorem rA1 {n:Nat}(ih:QI L n):∀ k d g,0<=d->d<=30->Ci (n+1) L k d=some g->g.E=0->RB L 8 k d g.X g.To:=by
 have hl:=hM.len
 intro k d g d0 d1 h he
 replace h:=(Ci.eq_2 (n:=n) _ _ _).symm.trans h
 obtain⟨t,ht,h⟩:=Ad h
 obtain⟨q,hq,h⟩:=Ad h
 obtain⟨t1,ht1,rfl⟩:=Cm hq
 obtain rfl:t1=t:=Aa (ht1.symm.trans ht)
 have hk:=(A0 ht).2
 have w1:IntKind.i64.wrap (k+1)=k+1:=by rw [AJ]<;>omega
 have w2:IntKind.i64.wrap (d+1)=d+1:=by rw [AJ]<;>omega
 have gt:=hg _ (Gz ht)
 have st:=Kl ht
 cases hb:isS t1 ⟨#[40]⟩ with
 |true =>
  rw [hb] at h
  simp only [cond_true] at h
  rw [w1,w2] at h
  obtain⟨x,hx,x0,h⟩:=Ta h he
  obtain⟨X,dX⟩:=ih.fE _ _ _ (by omega) (by omega) hx x0
  obtain⟨q2,hq2,h⟩:=Ad h
  obtain⟨t2,ht2,rfl⟩:=Cm hq2
  have hx0:=(A0 ht2).2
  have w3:IntKind.i64.wrap (x.To+1)=x.To+1:=by rw [AJ]<;>omega
  cases hb2:isS t2 ⟨#[41]⟩ with
  |false =>
   rw [hb2] at h
   obtain rfl:=Aa h
   exact absurd (show (5:Int)=0 from he) (by decide)
  |true =>
   rw [hb2] at h
   simp only [Bool.not_true,cond_false] at h
   rw [w3] at h
   obtain rfl:=Aa h
   have hf:Ge x.X (d+1):=by have:=X.fit;rw [TD] at this;exact this
   refine⟨X.ok,?_,?_⟩
   . unfold MV
     split
     . exact On _ d (d+1) (by omega) hf
     . exact⟨dX,hf⟩
   . have x1:=X.wt
     rw [QO] at x1
     show sm L k+E1 (Jh 8 (lvl x.X.Op,J4 x.X))<=sm L (x.To+1)
     rw [DD ht hb] at x1
     rw [DD ht2 hb2]
     unfold Jh
     split
     . show sm L k+E1 (J4 x.X)<=_
       omega
     . show sm L k+(tw (tS ⟨#[40]⟩)+E1 (J4 x.X++[tS ⟨#[41]⟩]))<=_
       rw [D9]
       show sm L k+(tw (tS ⟨#[40]⟩)+(E1 (J4 x.X)+(tw (tS ⟨#[41]⟩)+0)))<=_
       omega
 |false =>
  rw [hb] at h
  simp only [cond_false] at h
  rw [w1] at h
  rcases Ai h with⟨p1,h⟩|⟨p1,h⟩
  . obtain rfl:=Aa h
    have k2:t1.Kind=2:=by simpa using p1
    refine⟨gt.num k2,trivial,?_⟩
    show sm L k+(tw ⟨2,0,⟨#[]⟩,t1.N⟩+0)<=sm L (k+1)
    rw [st]
    have:tw t1=tw ⟨2,0,⟨#[]⟩,t1.N⟩:=by unfold tw Hv;rw [k2];rfl
    omega
  rcases Ai h with⟨p2,h⟩|⟨p2,h⟩
  . obtain rfl:=Aa h
    have k2:t1.Kind=3:=by simpa using p2
    refine⟨gt.text k2,trivial,?_⟩
    show sm L k+(tw ⟨3,0,t1.S,0⟩+0)<=sm L (k+1)
    rw [st]
    have:tw t1=tw ⟨3,0,t1.S,0⟩:=by unfold tw Hv;rw [k2];rfl
    omega
  rcases Ai h with⟨p3,h⟩|⟨p3,h⟩
  . obtain rfl:=Aa h
    exact absurd (show (5:Int)=0 from he) (by decide)
  have k2:t1.Kind=1:=by simpa using p3
  obtain⟨q2,hq2,h⟩:=Ad h
  obtain⟨t2,ht2,rfl⟩:=Cm hq2
  cases hb2:isS t2 ⟨#[40]⟩ with
  |false =>
   rw [hb2] at h
   obtain rfl:=Aa h
   refine⟨gt.name k2,trivial,?_⟩
   show sm L k+(tw ⟨1,0,t1.S,0⟩+0)<=sm L (k+1)
   rw [st]
   have:tw t1=tw ⟨1,0,t1.S,0⟩:=by unfold tw Hv;rw [k2];rfl
   omega
  |true =>
   rw [hb2] at h hq2
   simp only [Bool.not_true,cond_false] at h
   obtain⟨m,hm,h⟩:=Ad h
   obtain rfl:=Aa h
   exact ih.fS _ _ _ _ d0 d1 ht k2 hq2 hm he
theorem rS1 {n:Nat}(ih:QI L n):∀ k d g t,0<=d->d<=30->gi L k=some t->t.Kind=1->Bg L (k+1) ⟨#[40]⟩=some true->CE (n+1) L k d=some g->g.E=0->RB L 8 k d g.X g.To:=by
 have hl:=hM.len
 intro k d g t d0 d1 ht k1 hs h he
 replace h:=(CE.eq_2 (n:=n) _ _ _).symm.trans h
 simp only [ht,Option.bind_some] at h
 obtain⟨q,hq,h⟩:=Ad h
 obtain⟨t1,ht1,rfl⟩:=Cm hq
 obtain⟨t0,ht0,hs0⟩:=Cm hs
 have hk:=(A0 ht).2
 have w1:IntKind.i64.wrap (k+2)=k+2:=by rw [AJ]<;>omega
 have w3:IntKind.i64.wrap (k+2+1)=k+2+1:=by rw [AJ]<;>omega
 rw [w1] at ht1 h
 have gt:=hg _ (Gz ht)
 have st:=Kl ht
 have e1:tw t=tw ⟨1,0,t.S,0⟩:=by unfold tw Hv;rw [k1];rfl
 have s0:=DD ht0 hs0.symm
 rw [show k+1+1=k+2 by omega] at s0
 cases hb:isS t1 ⟨#[41]⟩ with
 |true =>
  rw [hb] at h
  simp only [cond_true] at h
  rw [w3] at h
  obtain rfl:=Aa h
  have s1:=DD ht1 hb
  refine TN (gt.name k1) (fun y hy=>by cases hy) (by simp) (fun h=>absurd rfl h) ?_
  show sm L k+(tw ⟨1,0,t.S,0⟩+tw (tS ⟨#[40]⟩)+0+tw (tS ⟨#[41]⟩))<=sm L (k+2+1)
  omega
 |false =>
  rw [hb] at h
  simp only [cond_false] at h
  refine ih.fT _ _ _ _ _ k d0 d1 h he (gt.name k1) (fun y hy=>by cases hy) (by simp) (fun h=>absurd rfl h) ?_
  show sm L k+(tw ⟨1,0,t.S,0⟩+tw (tS ⟨#[40]⟩)+0+0)<=sm L (k+2)
  omega
omit hg in
theorem rT1 {n:Nat}(ih:QI L n):∀ d x to out g k,0<=d->d<=30->B3 (n+1) L d x to out=some g->g.E=0->EI x.S=true->(∀ y∈out,J5 y=true/\Ge y (d+1))->out.length<=40->(out≠[]->d+1<=30) ->
 sm L k+(tw ⟨1,0,x.S,0⟩+tw (tS ⟨#[40]⟩)+E1 (sep (QM out))+(if out.isEmpty then 0 else tw (tS ⟨#[44]⟩)))<=sm L to->RB L 8 k d g.X g.To:=by
 have hl:=hM.len
 intro d x to out g k d0 d1 h he hs ho h40 hd hw
 replace h:=(B3.eq_2 (n:=n) _ _ _ _ _).symm.trans h
 have w2:IntKind.i64.wrap (d+1)=d+1:=by rw [AJ]<;>omega
 rw [w2] at h
 obtain⟨v,hv,h⟩:=Ad h
 obtain⟨b,hb,h⟩:=Ad h
 rcases Ai h with⟨q,h⟩|⟨q,h⟩
 . obtain rfl:=Aa h
   exact absurd (show (2:Int)=0 from he) (by decide)
 obtain⟨y,hy,y0,h⟩:=Ta h he
 obtain⟨Y,dY⟩:=ih.fE _ _ _ (by omega) (by omega) hy y0
 have v0:v=0:=Aa (hv.symm.trans (Tm hy y0))
 rw [v0] at hb
 have hne:out.length≠40:=by
  simp only [beq_self_eq_true,cond_true] at hb
  rcases Ai hb with⟨_,hb⟩|⟨h0,_⟩
  . rw [<- Aa hb] at q;cases q
  . intro h;rw [h] at h0;cases h0
 obtain⟨l1,hl1,h⟩:=Ad h
 obtain rfl:=Aa hl1
 obtain⟨l2,hl2,h⟩:=Ad h
 obtain⟨rfl,_⟩:=GS (by decide) hl2
 obtain⟨q2,hq2,h⟩:=Ad h
 obtain⟨t2,ht2,rfl⟩:=Cm hq2
 have hr2:=(A0 ht2).2
 have w3:IntKind.i64.wrap (y.To+1)=y.To+1:=by rw [AJ]<;>omega
 have hf:Ge y.X (d+1):=by have:=Y.fit;rw [TD] at this;exact this
 have ho2:∀ z∈out++[y.X],J5 z=true/\Ge z (d+1):=by
  intro z hz
  rcases List.mem_append.1 hz with hz|hz
  . exact ho z hz
  . rw [List.mem_singleton.1 hz];exact⟨Y.ok,hf⟩
 have y1:=Y.wt
 rw [QO] at y1
 have hsn:=V4 out y.X
 have hlen:(out++[y.X]).length<=40:=by simp only [List.length_append,List.length_cons,List.length_nil];omega
 cases hb2:isS t2 ⟨#[41]⟩ with
 |true =>
  rw [hb2] at h
  simp only [cond_true] at h
  rw [w3] at h
  obtain rfl:=Aa h
  have s1:=DD ht2 hb2
  refine TN hs ho2 hlen (fun _=>dY) ?_
  show _<=sm L (y.To+1)
  omega
 |false =>
  rw [hb2] at h
  simp only [cond_false] at h
  obtain⟨q3,hq3,h⟩:=Ad h
  obtain⟨t3,ht3,rfl⟩:=Cm hq3
  obtain rfl:t3=t2:=Aa (ht3.symm.trans ht2)
  cases hb3:isS t3 ⟨#[44]⟩ with
  |false =>
   rw [hb3] at h
   obtain rfl:=Aa h
   exact absurd (show (5:Int)=0 from he) (by decide)
  |true =>
   rw [hb3] at h
   simp only [Bool.not_true,cond_false] at h
   rw [w3] at h
   have s1:=DD ht2 hb3
   refine ih.fT _ _ _ _ _ k d0 d1 h he hs ho2 hlen (fun _=>dY) ?_
   have e:(out++[y.X]).isEmpty=false:=by cases out<;>rfl
   rw [e]
   simp only [Bool.false_eq_true,if_false]
   omega
theorem Yu:∀ n,QI L n
 |0=>{
  fE:=fun k d g _ _ h=>by cases (AY.eq_1 _ _ _).symm.trans h
  fB:=fun k v d g _ _ _ _ h=>by cases (AK.eq_1 _ _ _ _).symm.trans h
  fL:=fun v x d a b o ks to r k _ _ _ _ _ h=>by cases (AF.eq_1 _ _ _ _ _ _ _ _ _ _).symm.trans h
  fM:=fun k d g _ _ h=>by cases (BE.eq_1 _ _ _).symm.trans h
  fA:=fun k d g _ _ h=>by cases (Ci.eq_1 _ _ _).symm.trans h
  fG:=fun k d g _ _ h=>by cases (BY.eq_1 _ _ _).symm.trans h
  fS:=fun k d g t _ _ _ _ _ h=>by cases (CE.eq_1 _ _ _).symm.trans h
  fT:=fun d x to out g k _ _ h=>by cases (B3.eq_1 _ _ _ _ _).symm.trans h }
 |n+1=>by
  have ih:=Yu n
  exact⟨rE1 hM ih,rB1 ih,rL1 hM ih,rM1 hM ih,rA1 hM hg ih,rG1 hM ih,rS1 hM hg ih,rT1 hM ih⟩
end
end Go.Sp
namespace Go.Sp
open Go
def ngN (x:Int):Int:=if 0 > IntKind.i64.wrap (0-x) then 0 else IntKind.i64.wrap (0-x)
theorem Zg {x:Int}(h:x<0)(h2 : -999999999999999<=x):ngN x = -x:=by
 have w:IntKind.i64.wrap (0-x) = -x:=by rw [AJ]<;>omega
 unfold ngN;rw [w,if_neg (by omega)]
def pA (a:Aw):List Ac :=
 if a.Kind=1 then [⟨1,0,a.S,0⟩] else if a.Kind=2 then (if a.N<0 then [tS ⟨#[45]⟩,⟨2,0,⟨#[]⟩,ngN a.N⟩] else [⟨2,0,⟨#[]⟩,a.N⟩]) else if a.Kind=3 then [⟨3,0,a.S,0⟩]
 else if a.Kind=4 then [tS ⟨#[45,62]⟩] else if a.Kind=5 then tS ⟨#[40]⟩::(J4 a.E++[tS ⟨#[41]⟩]) else []
def Sx:List Aw->List Ac
 | []=>[]
 |a::l=>pA a++Sx l
mutual
def pF:Aj->List Ac
 |.mk w a0s b _=>⟨1,0,w,0⟩::(Sx a0s++(if b.isEmpty then [tS ⟨#[59]⟩] else tS ⟨#[123]⟩::(TQ b++[tS ⟨#[125]⟩])))
def TQ:List Aj->List Ac
 | []=>[]
 |x::l=>pF x++TQ l
end
mutual
def cntF:Aj->Int
 |.mk _ _ b _=>1+Gr b
def Gr:List Aj->Int
 | []=>0
 |x::l=>cntF x+Gr l
end
mutual
def ZC:Aj->Int->Prop
 |.mk _ a0s b _,d=>d<=30/\a0s.length<=40/\(∀ a∈a0s,a.Kind=5->Ge a.E 1)/\MO b (d+1)
def MO:List Aj->Int->Prop
 | [],_=>True
 |x::l,d=>ZC x d/\MO l d
end
end Go.Sp
namespace Go.Sp
open Go
mutual
theorem O0:∀ f:Aj,1<=cntF f
 |.mk _ _ b _=>by have:=PH b;show 1<=1+Gr b;omega
theorem PH:∀ l:List Aj,0<=Gr l
 | []=>Int.le_refl _
 |x::l=>by have:=O0 x;have:=PH l;show 0<=cntF x+Gr l;omega
end
end Go.Sp
namespace Go.Sp
open Go
def UB (a:Aw):Bool :=
 if a.Kind=1 then EI a.S else if a.Kind=2 then (if a.N<0 then MD (ngN a.N)&&!decide (a.N < -999999999999999) else MD a.N) else if a.Kind=3 then Lp a.S
 else if a.Kind=4 then true else if a.Kind=5 then J5 a.E else false
mutual
def Ik:Aj->Bool
 |.mk w l b _=>EI w&&(l.all UB&&Mg b)
def Mg:List Aj->Bool
 | []=>true
 |x::l=>Ik x&&Mg l
end
end Go.Sp
namespace Go.Sp
open Go
set_option linter.unusedVariables false
structure RA (L:List Ac) (k:Int) (a:Aw) (z:Int):Prop where
 ok:UB a=true
 fit:a.Kind=5->Ge a.E 1
 wt:sm L k+E1 (pA a)<=sm L z
structure RF (L:List Ac) (k d n_:Int) (g:Cj):Prop where
 ok:Ik g.F=true
 fit:ZC g.F d
 cnt:g.N=n_+cntF g.F
 max:g.N<=2000
 wt:sm L k+E1 (pF g.F)<=sm L g.To
section
variable {L:List Ac} (hM:OX L) (hg:∀ t∈L,Tg t)
include hM hg
theorem Acb {n:Nat}{k:Int}{r:Cl}(h:Ec n L k=some r)(he:r.E=0)(hb:∀ t,gi L k=some t->Gm t=true∨isS t ⟨#[45,62]⟩=true):RA L k r.A r.To:=by
 have hl:=hM.len
 unfold Ec at h
 obtain⟨t,ht,h⟩:=Ad h
 have hk:=(A0 ht).2
 have gt:=hg _ (Gz ht)
 have st:=Kl ht
 have w1:IntKind.i64.wrap (k+1)=k+1:=by rw [AJ]<;>omega
 have w2:IntKind.i64.wrap (k+2)=k+2:=by rw [AJ]<;>omega
 rw [w1,w2] at h
 obtain⟨v,hv,h⟩:=Ad h
 rcases Ai h with⟨q,h⟩|⟨q,h⟩
 . obtain rfl:=Aa h
   rw [q] at hv
   have hk3:1<=t.Kind/\t.Kind<=3:=by
    rcases Ai hv with⟨a,b⟩|⟨_,b⟩
    . exact⟨by simpa using a,by simpa using Aa b⟩
    . cases b
   have hkk:t.Kind=1∨t.Kind=2∨t.Kind=3:=by omega
   rcases hkk with q1|q1|q1
   . refine⟨?_,fun h=>?_,?_⟩
     . unfold UB;simp only [q1,if_true];exact gt.name q1
     . have h:t.Kind=5:=h;omega
     . show sm L k+E1 (pA ⟨t.Kind,t.N,t.S,_,t.At⟩)<=sm L (k+1)
       unfold pA
       simp only [q1,if_true]
       have:tw t=tw ⟨1,0,t.S,0⟩:=by unfold tw Hv;rw [q1];rfl
       show sm L k+(tw ⟨1,0,t.S,0⟩+0)<=_
       omega
   . have hn:=gt.num q1
     have hn2:=hn
     unfold MD at hn2
     simp only [decide_eq_true_eq] at hn2
     refine⟨?_,fun h=>?_,?_⟩
     . unfold UB
       simp only [q1,show ¬ ((2:Int)=1) by decide,if_false,if_true,show ¬ t.N<0 by omega];exact hn
     . have h:t.Kind=5:=h;omega
     . show sm L k+E1 (pA ⟨t.Kind,t.N,t.S,_,t.At⟩)<=sm L (k+1)
       unfold pA
       simp only [q1,show ¬ ((2:Int)=1) by decide,if_false,if_true,show ¬ t.N<0 by omega]
       have:tw t=tw ⟨2,0,⟨#[]⟩,t.N⟩:=by unfold tw Hv;rw [q1];rfl
       show sm L k+(tw ⟨2,0,⟨#[]⟩,t.N⟩+0)<=_
       omega
   . refine⟨?_,fun h=>?_,?_⟩
     . unfold UB
       simp only [q1,show ¬ ((3:Int)=1) by decide,show ¬ ((3:Int)=2) by decide,if_false,if_true];exact gt.text q1
     . have h:t.Kind=5:=h;omega
     . show sm L k+E1 (pA ⟨t.Kind,t.N,t.S,_,t.At⟩)<=sm L (k+1)
       unfold pA
       simp only [q1,show ¬ ((3:Int)=1) by decide,show ¬ ((3:Int)=2) by decide,if_false,if_true]
       have:tw t=tw ⟨3,0,t.S,0⟩:=by unfold tw Hv;rw [q1];rfl
       show sm L k+(tw ⟨3,0,t.S,0⟩+0)<=_
       omega
 obtain⟨q1,hq1,h⟩:=Ad h
 obtain⟨t1,ht1,rfl⟩:=Cm hq1
 obtain rfl:t1=t:=Aa (ht1.symm.trans ht)
 rcases Ai h with⟨s1,h⟩|⟨s1,h⟩
 . obtain rfl:=Aa h
   refine⟨rfl,fun h=>absurd h (show ¬ (4:Int)=5 by decide),?_⟩
   have:=DD ht s1
   show sm L k+(tw (tS ⟨#[45,62]⟩)+0)<=sm L (k+1)
   omega
 obtain⟨q2,hq2,h⟩:=Ad h
 obtain⟨t2,ht2,rfl⟩:=Cm hq2
 obtain rfl:t2=t1:=Aa (ht2.symm.trans ht)
 rcases Ai h with⟨s2,h⟩|⟨s2,h⟩
 . obtain⟨x1,hx1,h⟩:=Ad h
   rcases Ai h with⟨s3,h⟩|⟨s3,h⟩
   . obtain rfl:=Aa h
     exact absurd (show (5:Int)=0 from he) (by decide)
   . obtain rfl:=Aa h
     have k2:x1.Kind=2:=by simpa using s3
     have gx:=(hg _ (Gz hx1)).num k2
     have gx2:=gx
     unfold MD at gx2
     simp only [decide_eq_true_eq] at gx2
     have wn:IntKind.i64.wrap (0-x1.N) = -x1.N:=by rw [AJ]<;>omega
     rw [wn]
     have e1:=DD ht s2
     have e2:=Kl hx1
     rw [show k+1+1=k+2 by omega] at e2
     have e3:tw x1=tw ⟨2,0,⟨#[]⟩,x1.N⟩:=by unfold tw Hv;rw [k2];rfl
     by_cases z:x1.N=0
     . rw [z]
       rw [z] at e3
       refine⟨rfl,fun h=>absurd h (show ¬ (2:Int)=5 by decide),?_⟩
       show sm L k+(tw ⟨2,0,⟨#[]⟩,0⟩+0)<=sm L (k+2)
       omega
     . have hneg : -x1.N<0:=by omega
       have ng:ngN (-x1.N)=x1.N:=by rw [Zg hneg (by omega)];omega
       refine⟨?_,fun h=>absurd h (show ¬ (2:Int)=5 by decide),?_⟩
       . unfold UB
         simp only [show ¬ ((2:Int)=1) by decide,if_false,if_true,hneg,ng,gx,Bool.true_and,decide_eq_false (show ¬ -x1.N < -999999999999999 by omega),Bool.not_false]
       . show sm L k+E1 (pA ⟨2,-x1.N,⟨#[]⟩,_,_⟩)<=sm L (k+2)
         unfold pA
         simp only [show ¬ ((2:Int)=1) by decide,if_false,if_true,hneg,ng]
         show sm L k+(tw (tS ⟨#[45]⟩)+(tw ⟨2,0,⟨#[]⟩,x1.N⟩+0))<=_
         omega
 obtain⟨x2,hx2,h⟩:=Ad h
 rcases Ai h with⟨s3,h⟩|⟨s3,h⟩
 . obtain rfl:=Aa h
   exact absurd (show x2.E=0 from he) (by simpa using s3)
 have x0:x2.E=0:=by simpa using s3
 obtain⟨X,_⟩:=(Yu hM hg n).fE _ _ _ (by decide) (by decide) hx2 x0
 obtain⟨q3,hq3,h⟩:=Ad h
 obtain⟨t3,ht3,rfl⟩:=Cm hq3
 have hr3:=(A0 ht3).2
 have w3:IntKind.i64.wrap (x2.To+1)=x2.To+1:=by rw [AJ]<;>omega
 rcases Ai h with⟨s4,h⟩|⟨s4,h⟩
 . obtain rfl:=Aa h
   exact absurd (show (5:Int)=0 from he) (by decide)
 . have s4:isS t3 ⟨#[41]⟩=true:=by simpa using s4
   rw [w3] at h
   obtain rfl:=Aa h
   have hf:Ge x2.X 1:=by have:=X.fit;rw [TD] at this;exact this
   refine⟨X.ok,fun _=>hf,?_⟩
   have x1:=X.wt
   rw [QO,st] at x1
   have e2:=DD ht3 s4
   have s40:isS t2 ⟨#[40]⟩=true:=by
    rw [q] at hv
    have hk3:¬ (1<=t2.Kind/\t2.Kind<=3):=by
     rintro⟨a,b⟩
     rw [decide_eq_true a,decide_eq_true b] at hv
     cases hv
    rcases hb t2 ht with b|b
    . unfold Gm at b
      simp only [Bool.or_eq_true,beq_iff_eq,Bool.and_eq_true,decide_eq_true_eq] at b
      rcases b with b|b|b|b|b
      . omega
      . omega
      . omega
      . unfold isS;rw [b.1,b.2];rfl
      . unfold isS at s2;rw [b.1,b.2] at s2;cases s2
    . rw [b] at s1;cases s1
   have t40:=TE s40
   show sm L k+(tw (tS ⟨#[40]⟩)+E1 (J4 x2.X++[tS ⟨#[41]⟩]))<=sm L (x2.To+1)
   rw [D9]
   show sm L k+(tw (tS ⟨#[40]⟩)+(E1 (J4 x2.X)+(tw (tS ⟨#[41]⟩)+0)))<=_
   omega
structure RAs (L:List Ac) (k:Int) (w:ByteArray) (l:List Aw) (z:Int):Prop where
 ok:∀ a∈l,UB a=true/\(a.Kind=5->Ge a.E 1)
 len:l.length<=40
 wt:sm L k+(tw ⟨1,0,w,0⟩+E1 (Sx l))<=sm L z
omit hM hg in
theorem TR:∀ a b:List Aw,Sx (a++b)=Sx a++Sx b
 | [],b=>rfl
 |x::a,b=>by show pA x++Sx (a++b)=pA x++Sx a++Sx b;rw [TR a b,List.append_assoc]
omit hM hg in
theorem Xw {k d n_ z p:Int}{w:ByteArray}{l:List Aw}{t:Ac}(hw:EI w=true)(hA:RAs L k w l z)(ht:gi L z=some t)(hs:isS t ⟨#[59]⟩=true)(hd:d<=30)(hn:n_<2000):RF L k d n_ ⟨⟨w,l,[],p⟩,z+1,n_+1,0⟩:=by
 refine⟨?_,⟨hd,hA.len,fun a ha=>(hA.ok a ha).2,trivial⟩,?_,?_,?_⟩
 . show (EI w&&(l.all UB&&true))=true
   rw [hw,List.all_eq_true.2 fun a ha=>(hA.ok a ha).1];rfl
 . show n_+1=n_+(1+0);omega
 . show n_+1<=2000;omega
 . show sm L k+(tw ⟨1,0,w,0⟩+E1 (Sx l++[tS ⟨#[59]⟩]))<=sm L (z+1)
   rw [D9,DD ht hs]
   have:=hA.wt
   show sm L k+(tw ⟨1,0,w,0⟩+(E1 (Sx l)+(tw (tS ⟨#[59]⟩)+0)))<=_
   omega
theorem rL2 {k d n_:Int}{x:Ac}(hx:EI x.S=true)(hd:d<=30)(hn:0<=n_/\n_<2000):∀ (n:Nat) (out:List Aw) (to:Int) (r:(List Aw×Int) ⊕ Cj),Bn n L x n_ out to=some r->RAs L k x.S out to ->
 (∃ g,r=.inr g/\(g.E=0->RF L k d n_ g))∨∃ o z t,r=.inl (o,z)/\RAs L k x.S o z/\gi L z=some t/\isS t ⟨#[123]⟩=true
 |0,out,to,r,h,_=>by cases (Bn.eq_1 _ _ _ _ _).symm.trans h
 |n+1,out,to,r,h,hA=>by
  have hl:=hM.len
  replace h:=(Bn.eq_2 (n:=n) _ _ _ _ _).symm.trans h
  obtain⟨q1,hq1,_⟩:=Ad h
  obtain⟨t2,ht,_⟩:=Cm hq1
  have hr:=(A0 ht).2
  simp only [BA ht,H9 ht,Option.bind_some] at h
  rcases Ai h with⟨s1,h⟩|⟨s1,h⟩
  . have w1:IntKind.i64.wrap (to+1)=to+1:=by rw [AJ]<;>omega
    have w2:IntKind.i64.wrap (n_+1)=n_+1:=by rw [AJ]<;>omega
    rw [w1,w2] at h
    obtain rfl:=Aa h
    exact .inl ⟨_,rfl,fun _=>Xw hx hA ht s1 hd hn.2⟩
  rcases Ai h with⟨s2,h⟩|⟨s2,h⟩
  . obtain rfl:=Aa h
    exact .inr ⟨_,_,_,rfl,hA,ht,s2⟩
  obtain⟨v,hv,h⟩:=Ad h
  rcases Ai h with⟨s3,h⟩|⟨s3,h⟩
  . obtain rfl:=Aa h
    exact .inl ⟨_,rfl,fun h=>absurd (show (5:Int)=0 from h) (by decide)⟩
  have hbeg:Gm t2=true∨isS t2 ⟨#[45,62]⟩=true:=by
   rw [s3] at hv
   cases hb:Gm t2 with
   |true=>exact .inl rfl
   |false =>
    rw [hb] at hv
    refine .inr ?_
    have:=Aa hv
    unfold isS
    simpa using this
  rcases Ai h with⟨s4,h⟩|⟨s4,h⟩
  . obtain rfl:=Aa h
    exact .inl ⟨_,rfl,fun h=>absurd (show (2:Int)=0 from h) (by decide)⟩
  obtain⟨a,ha,h⟩:=Ad h
  rcases Ai h with⟨s5,h⟩|⟨s5,h⟩
  . obtain rfl:=Aa h
    exact .inl ⟨_,rfl,fun h=>absurd (show a.E=0 from h) (by simpa using s5)⟩
  have R:=Acb hM hg ha (by simpa using s5) (fun t ht'=>by obtain rfl:t=t2:=Aa (ht'.symm.trans ht);exact hbeg)
  obtain⟨l4,hl4,h⟩:=Ad h
  obtain⟨rfl,_⟩:=GS (by decide) hl4
  have h40:out.length≠40:=by
   intro h;rw [h] at s4;cases s4
  have hlen:=hA.len
  refine rL2 hx hd hn n _ _ _ h ⟨fun b hb=>?_,by simp only [List.length_append,List.length_cons,List.length_nil];omega,?_⟩
  . rcases List.mem_append.1 hb with hb|hb
    . exact hA.ok b hb
    . rw [List.mem_singleton.1 hb];exact⟨R.ok,R.fit⟩
  . have x1:=hA.wt
    have x2:=R.wt
    rw [TR,D9]
    show sm L k+(tw ⟨1,0,x.S,0⟩+(E1 (Sx out)+E1 (pA a.A++[])))<=_
    rw [List.append_nil]
    omega
omit hM hg in
theorem TP:∀ a b:List Aj,TQ (a++b)=TQ a++TQ b
 | [],b=>rfl
 |x::a,b=>by show pF x++TQ (a++b)=pF x++TQ a++TQ b;rw [TP a b,List.append_assoc]
omit hM hg in
theorem Rz:∀ a b:List Aj,Mg (a++b)=(Mg a&&Mg b)
 | [],b=>rfl
 |x::a,b=>by show (Ik x&&Mg (a++b))=(Ik x&&Mg a&&Mg b);rw [Rz a b,Bool.and_assoc]
omit hM hg in
theorem PI:∀ a b:List Aj,Gr (a++b)=Gr a+Gr b
 | [],b=>by show Gr b=0+Gr b;omega
 |x::a,b=>by show cntF x+Gr (a++b)=cntF x+Gr a+Gr b;rw [PI a b];omega
omit hM hg in
theorem PB {d:Int}:∀ {a b:List Aj},MO a d->MO b d->MO (a++b) d
 | [],b,_,h=>h
 |x::a,b,h1,h2=>⟨h1.1,PB h1.2 h2⟩
structure ZS (L:List Ac) (s0:Nat) (d n0:Int) (l:List Aj) (z N:Int):Prop where
 ok:Mg l=true
 fit:MO l d
 cnt:N=n0+Gr l
 max:N<=2000
 wt:s0+E1 (TQ l)<=sm L z
omit hM hg in
theorem ZS.snoc {s0:Nat}{d n0 z N:Int}{l:List Aj}{g:Cj}(h:ZS L s0 d n0 l z N)(hf:RF L z d N g):ZS L s0 d n0 (l++[g.F]) g.To g.N:=by
 refine⟨by rw [Rz,h.ok];show (true&&(Ik g.F&&true))=true;rw [hf.ok];rfl,PB h.fit ⟨hf.fit,trivial⟩,?_,hf.max,?_⟩
 . rw [PI,hf.cnt,h.cnt]
   show n0+Gr l+cntF g.F=n0+(Gr l+(cntF g.F+0));omega
 . have x1:=h.wt
   have x2:=hf.wt
   rw [TP,D9]
   show s0+(E1 (TQ l)+E1 (pF g.F++[]))<=_
   rw [List.append_nil];omega
structure Acm (L:List Ac) (n:Nat):Prop where
 fF:∀ k d n_ g,0<=d->d<=31->0<=n_->Ch n L k d n_=some g->g.E=0->RF L k d n_ g
 f1:∀ k d n_ x l out z N g p t,0<=d->d<=30->0<=n_->EI x.S=true->RAs L k x.S l p->gi L p=some t->isS t ⟨#[123]⟩=true->ZS L (sm L (p+1)) (d+1) (n_+1) out z N->0<=N->Bp n L x l d out z N=some g->g.E=0->RF L k d n_ g
theorem Yv:∀ n,Acm L n
 |0=>{
  fF:=fun k d n_ g _ _ _ h=>by cases (Ch.eq_1 _ _ _ _).symm.trans h
  f1:=fun k d n_ x l out z N g p t _ _ _ _ _ _ _ _ _ h=>by cases (Bp.eq_1 _ _ _ _ _ _ _).symm.trans h }
 |n+1=>by
  have ih:=Yv n
  have hl:=hM.len
  constructor
  . intro k d n_ g d0 d1 n0 h he
    replace h:=(Ch.eq_2 (n:=n) _ _ _ _).symm.trans h
    obtain⟨x,hx,h⟩:=Ad h
    have hk:=(A0 hx).2
    rcases Ai h with⟨q,h⟩|⟨q,h⟩
    . obtain rfl:=Aa h
      exact absurd (show (5:Int)=0 from he) (by decide)
    have k1:x.Kind=1:=by simpa using q
    obtain⟨v,hv,h⟩:=Ad h
    rcases Ai h with⟨q2,h⟩|⟨q2,h⟩
    . obtain rfl:=Aa h
      exact absurd (show (2:Int)=0 from he) (by decide)
    rw [q2] at hv
    have hdn:d<=30/\n_<2000:=by
     rcases Ai hv with⟨_,b⟩|⟨a,b⟩
     . cases b
     . have a:¬ 30<d:=by simpa using a
       have b:¬ 2000<=n_:=by simpa using Aa b
       omega
    have w1:IntKind.i64.wrap (k+1)=k+1:=by rw [AJ]<;>omega
    have w2:IntKind.i64.wrap (n_+1)=n_+1:=by rw [AJ]<;>omega
    rw [w1,w2] at h
    have hn:=(hg _ (Gz hx)).name k1
    have st:=Kl hx
    have e1:tw x=tw ⟨1,0,x.S,0⟩:=by unfold tw Hv;rw [k1];rfl
    obtain⟨y,hy,h⟩:=Ad h
    have hA:RAs L k x.S [] (k+1):=⟨fun a ha=>(by cases ha),by simp,by show sm L k+(tw ⟨1,0,x.S,0⟩+0)<=_;omega⟩
    rcases rL2 hM hg (d:=d) hn hdn.1 ⟨n0,hdn.2⟩ n _ _ _ hy hA with⟨g',rfl,hg'⟩|⟨o,z,t,rfl,hA2,ht,hs⟩
    . obtain rfl:=Aa h
      exact hg' he
    . have hz:=(A0 ht).2
      have w3:IntKind.i64.wrap (z+1)=z+1:=by rw [AJ]<;>omega
      have h:Bp n L x o d [] (IntKind.i64.wrap (z+1)) (n_+1)=some g:=h
      rw [w3] at h
      exact ih.f1 k d n_ x o [] (z+1) (n_+1) g z t d0 hdn.1 n0 hn hA2 ht hs ⟨rfl,trivial,by show n_+1=n_+1+0;omega,by omega,by show sm L (z+1)+0<=_;omega⟩ (by omega) h he
  . intro k d n_ x l out z N g p t d0 d1 n0 hn hA ht hs hF hN h he
    replace h:=(Bp.eq_2 (n:=n) _ _ _ _ _ _ _).symm.trans h
    obtain⟨q1,hq1,h⟩:=Ad h
    obtain⟨t1,ht1,rfl⟩:=Cm hq1
    have hz:=(A0 ht1).2
    have w1:IntKind.i64.wrap (z+1)=z+1:=by rw [AJ]<;>omega
    have w2:IntKind.i64.wrap (d+1)=d+1:=by rw [AJ]<;>omega
    rcases Ai h with⟨s1,h⟩|⟨s1,h⟩
    . rw [w1] at h
      obtain rfl:=Aa h
      have x1:=hA.wt
      have x2:=hF.wt
      have x3:=DD ht hs
      have x4:=DD ht1 s1
      refine⟨?_,⟨d1,hA.len,fun a ha=>(hA.ok a ha).2,hF.fit⟩,?_,hF.max,?_⟩
      . show (EI x.S&&(l.all UB&&Mg out))=true
        rw [hn,List.all_eq_true.2 fun a ha=>(hA.ok a ha).1,hF.ok];rfl
      . show N=n_+(1+Gr out)
        have:=hF.cnt;omega
      . show sm L k+(tw ⟨1,0,x.S,0⟩+E1 (Sx l++(if out.isEmpty then [tS ⟨#[59]⟩] else tS ⟨#[123]⟩::(TQ out++[tS ⟨#[125]⟩]))))<=sm L (z+1)
        rw [D9]
        have t59:tw (tS ⟨#[59]⟩)<=tw (tS ⟨#[123]⟩):=Nat.le_refl _
        split
        . show sm L k+(tw ⟨1,0,x.S,0⟩+(E1 (Sx l)+(tw (tS ⟨#[59]⟩)+0)))<=_
          omega
        . show sm L k+(tw ⟨1,0,x.S,0⟩+(E1 (Sx l)+(tw (tS ⟨#[123]⟩)+E1 (TQ out++[tS ⟨#[125]⟩]))))<=_
          rw [D9]
          show sm L k+(tw ⟨1,0,x.S,0⟩+(E1 (Sx l)+(tw (tS ⟨#[123]⟩)+(E1 (TQ out)+(tw (tS ⟨#[125]⟩)+0)))))<=_
          omega
    . rw [w2] at h
      obtain⟨f,hf,h⟩:=Ad h
      rcases Ai h with⟨s2,h⟩|⟨s2,h⟩
      . obtain rfl:=Aa h
        rw [he] at s2;cases s2
      have f0:f.E=0:=by simpa using s2
      have R:=ih.fF _ _ _ _ (by omega) (by omega) hN hf f0
      obtain⟨l1,hl1,h⟩:=Ad h
      obtain rfl:=Aa hl1
      obtain⟨l2,hl2,h⟩:=Ad h
      obtain⟨rfl,_⟩:=GS (by decide) hl2
      have:=O0 f.F
      exact ih.f1 k d n_ x l _ _ _ g p t d0 d1 n0 hn hA ht hs (hF.snoc R) (by rw [R.cnt];omega) h he
theorem Aaq {P:Am}:∀ (n:Nat) (out:List Aj) (k N:Int) (la:List Aj),Bo n ⟨L,P⟩ out k N=some (.inl la)->ZS L 0 1 0 out k N->0<=N->∃ z N',ZS L 0 1 0 la z N'/\z<(L.length:Int)
 |0,out,k,N,la,h,_,_=>by cases (Bo.eq_1 _ _ _ _).symm.trans h
 |n+1,out,k,N,la,h,hF,hN=>by
  replace h:=(Bo.eq_2 (n:=n) _ _ _ _).symm.trans h
  obtain⟨x,hx,h⟩:=Ad h
  have hk:=(A0 hx).2
  rcases Ai h with⟨q,h⟩|⟨q,h⟩
  . obtain⟨f,hf,h⟩:=Ad h
    rcases Ai h with⟨s2,h⟩|⟨s2,h⟩
    . obtain⟨x2,_,h⟩:=Ad h
      cases Aa h
    have f0:f.E=0:=by simpa using s2
    have R:=(Yv hM hg n).fF _ _ _ _ (by decide) (by decide) hN hf f0
    obtain⟨l1,hl1,h⟩:=Ad h
    obtain rfl:=Aa hl1
    obtain⟨l2,hl2,h⟩:=Ad h
    obtain⟨rfl,_⟩:=GS (by decide) hl2
    have:=O0 f.F
    exact Aaq n _ _ _ la h (hF.snoc R) (by rw [R.cnt];omega)
  . cases Aa h
    exact⟨k,N,hF,hk.2⟩
end
end Go.Sp


namespace Go.Sp
open Go
theorem Abn {α:Type}{l:List α}{k:Int}{t:α}(h:gi l k=some t):∃ j:Nat,k=(j:Int)/\l[j]?=some t/\j<l.length:=by
 have h2:=(A0 h).2
 obtain⟨j,rfl⟩:∃ j:Nat,k=(j:Int):=⟨k.toNat,by omega⟩
 exact⟨j,rfl,by rw [<- Lc];exact h,by omega⟩
end Go.Sp
