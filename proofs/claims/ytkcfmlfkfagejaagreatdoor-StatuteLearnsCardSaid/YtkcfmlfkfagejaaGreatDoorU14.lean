/-
  What find finds, in plain words, whatever order the table of operations is in. No program. The search ends alike in every order of the table; find, in plain words. No program.
-/
import Derived.Test.YtkcfmlfkfagejaaGreatDoorU12
import Derived.Test.YtkcfmlfkfagejaaGreatDoorU13
set_option linter.unusedVariables false
set_option linter.unusedSimpArgs false
namespace Go.Sp
open Go
def W3:Aa:=⟨0,⟨#[]⟩,[],0,.nil⟩
abbrev QQ (p x:Int):Int×Aa×Au:=(0,W3,⟨p,x⟩)
def arity (op:Int):Int:=if op=1∨op=2∨op=3 then 0 else if op=5∨op=6 then 1 else if op=20 then 3 else if op=4 then -1 else 2
theorem Qd (op:Int):Dx op=some (arity op):=by
 by_cases h1:op=1
 . subst h1;rfl
 by_cases h2:op=2
 . subst h2;rfl
 by_cases h3:op=3
 . subst h3;rfl
 by_cases h5:op=5
 . subst h5;rfl
 by_cases h6:op=6
 . subst h6;rfl
 by_cases h20:op=20
 . subst h20;rfl
 by_cases h4:op=4
 . subst h4;rfl
 unfold Dx arity
 have b1:(op == 1)=false:=by simpa using h1
 have b2:(op == 2)=false:=by simpa using h2
 have b3:(op == 3)=false:=by simpa using h3
 have b4:(op == 4)=false:=by simpa using h4
 have b5:(op == 5)=false:=by simpa using h5
 have b6:(op == 6)=false:=by simpa using h6
 have b20:(op == 20)=false:=by simpa using h20
 simp only [b1,b2,b3,b4,b5,b6,b20,cond_false,Option.bind_some]
 simp [h1,h2,h3,h4,h5,h6,h20]
def hit (op:Int)(s:ByteArray)(o:Aa):Bool:=o.op == op&&(!(o.op == 4)||decide (o.name=s))
def pick (op:Int)(s:ByteArray)(ts:List Int)(l:List Aa):Option Aa:=l.find? fun o=>hit op s o&&decide (o.args=ts)
def known (op:Int)(s:ByteArray)(l:List Aa):Bool:=l.any (hit op s)
def KM (op:Int)(s:ByteArray)(ts:List Int)(l:List Aa):Bool:=l.any fun o=>hit op s o&&((o.args.length:Int) == (ts.length:Int))
theorem RY {k:Nat}(h:k<4611686018427387904):IntKind.i64.wrap ((k:Int)+1)=((k+1:Nat):Int):=by
 rw [Ed (by omega) (by omega)];omega
theorem Sq {α:Type}{l:List α}{k:Nat}{x:α}{r:List α}(h:l.drop k=x::r):gi l (k:Int)=some x:=by
 have h2:l[k]?=some x:=by
  have:=congrArg (·[0]?) h
  simpa [List.getElem?_drop] using this
 unfold gi
 rw [if_pos (by omega)];exact h2
theorem JT {α:Type}{l:List α}{k:Nat}{x:α}{r:List α}(h:l.drop k=x::r):l.drop (k+1)=r/\k<l.length:=by
 constructor
 . have:=congrArg (List.drop 1) h
   rw [List.drop_drop] at this
   rw [this];rfl
 . by_cases hk:k<l.length
   . exact hk
   . rw [List.drop_eq_nil_of_le (by omega)] at h;cases h
theorem Ps {α:Type}{l:List α}{k:Nat}(h:l.drop k=[])(hk:k<=l.length):k=l.length:=by
 have:=congrArg List.length h
 rw [List.length_drop,List.length_nil] at this
 omega
theorem QY {k n:Nat}(h:k<n):(decide ((k:Int)<(n:Int)))=true:=by rw [decide_eq_true_eq];omega
theorem U1 (a b:List Int)(hab:a.length=b.length)(ha:a.length<=1000000000):∀ (r:List Int) (k:Nat),a.drop k=r->k<=a.length->Ev (fun n=>Bp n a b (k:Int)) (if a.drop k=b.drop k then .inl () else .inr false)
 | [],k,hr,hk=>by
  have he:=Ps hr hk
  refine Ev.step (f:=fun n=>some (.inl ())) (fun n=>?_) ?_
  . rw [EW,show (decide ((k:Int)<(a.length:Int)))=false by rw [decide_eq_false_iff_not];omega];rfl
  . rw [if_pos (by rw [hr,List.drop_eq_nil_of_le (by omega)])];exact Ev.pure
 |x::r,k,hr,hk=>by
  obtain⟨h1,h2⟩:=JT hr
  have hkb:k<b.length:=by omega
  have hb:b.drop k=b[k]::b.drop (k+1):=List.drop_eq_getElem_cons hkb
  have ih:=U1 a b hab ha r (k+1) h1 (by omega)
  refine Ev.step (f:=fun n=>bif (x != b[k]) then some (.inr false) else Bp n a b ((k+1:Nat):Int)) (fun n=>?_) ?_
  . rw [EW,QY h2,cond_true,Sq hr,Option.bind_some,Sq hb,Option.bind_some,RY (by omega)]
  . by_cases hx:x=b[k]
    . subst hx
      simp only [bne_self_eq_false,cond_false]
      have e:(a.drop k=b.drop k)↔(a.drop (k+1)=b.drop (k+1)):=by
       rw [hr,hb,h1]
       exact⟨fun h=>(List.cons.inj h).2,fun h=>by rw [h]⟩
      by_cases h3:a.drop (k+1)=b.drop (k+1)
      . rw [if_pos (e.2 h3)];rw [if_pos h3] at ih;exact ih
      . rw [if_neg (fun h=>h3 (e.1 h))];rw [if_neg h3] at ih;exact ih
    . rw [if_neg (by rw [hr,hb];intro h;exact hx (List.cons.inj h).1)]
      simp only [show (x != b[k])=true by simpa using hx,cond_true]
      exact Ev.pure
theorem U0 (a b:List Int)(ha:a.length<=1000000000):Ev (fun n=>Cw n a b) (decide (a=b)):=by
 unfold Cw
 by_cases h:a.length=b.length
 . rw [show ((a.length:Int) != (b.length:Int))=false by simp [h]]
   simp only [cond_false]
   refine Ev.bind (U1 a b h ha _ 0 rfl (Nat.zero_le _)) ?_
   simp only [List.drop_zero]
   by_cases e:a=b
   . rw [if_pos e,decide_eq_true e];exact Ev.pure
   . rw [if_neg e,decide_eq_false e];exact Ev.pure
 . rw [show ((a.length:Int) != (b.length:Int))=true by simp;omega]
   rw [decide_eq_false (fun e=>h (by rw [e]))]
   exact Ev.pure
def BW (op:Int)(s:ByteArray)(ts:List Int)(l:List Aa)(kn fi:Bool):(Bool×Bool) ⊕ (Int×Aa×Au) :=
 match pick op s ts l with
 |some o=>.inr (o.kind,o,⟨0,0⟩)
 |none=>.inl (kn||known op s l,fi||KM op s ts l)
theorem Kd (l:List Aa)(ns:List (ByteArray×Int))(e:Ab)(ts:List Int)(hl:l.length<=1000000)(ha:∀ o∈l,o.args.length<=1000) :
 ∀ (r:List Aa) (k:Nat) (kn fi:Bool),l.drop k=r->k<=l.length->Ev (fun n=>AG n ⟨l,ns⟩ e ts kn fi (k:Int)) (BW e.Op e.S ts r kn fi)
 | [],k,kn,fi,hr,hk=>by
  have he:=Ps hr hk
  refine Ev.step (f:=fun n=>some (.inl (kn,fi))) (fun n=>?_) ?_
  . rw [C3,show (decide ((k:Int)<(l.length:Int)))=false by rw [decide_eq_false_iff_not];omega];rfl
  . have:BW e.Op e.S ts [] kn fi=.inl (kn,fi):=by simp [BW,pick,known,KM]
    rw [this];exact Ev.pure
 |o::r,k,kn,fi,hr,hk=>by
  obtain⟨h1,h2⟩:=JT hr
  have hmem:o∈l:=List.mem_of_mem_drop (by rw [hr];simp)
  have hcond:((bif (o.op != e.Op) then some true else bif (o.op == 4) then some (!decide (o.name=e.S)) else some false):Option Bool)=some (!hit e.Op e.S o):=by
   unfold hit
   by_cases c1:o.op=e.Op
   . rw [show (o.op != e.Op)=false by simp [c1],show (o.op == e.Op)=true by simp [c1],cond_false,Bool.true_and]
     cases c2:(o.op == 4) with
     |true=>simp
     |false=>simp
   . rw [show (o.op != e.Op)=true by simp [c1],show (o.op == e.Op)=false by simp [c1],cond_true,Bool.false_and];rfl
  cases hh:hit e.Op e.S o with
  |false =>
   have ih:=Kd l ns e ts hl ha r (k+1) kn fi h1 (by omega)
   have es:BW e.Op e.S ts (o::r) kn fi=BW e.Op e.S ts r kn fi:=by simp [BW,pick,known,KM,hh]
   rw [es]
   refine Ev.step (fun n=>?_) ih
   rw [C3,QY h2,cond_true,Sq hr,Option.bind_some,hcond,hh,Option.bind_some,Bool.not_false,cond_true,RY (by omega)]
  |true =>
   have hfit:((bif fi then some true else some ((o.args.length:Int) == (ts.length:Int))):Option Bool)=some (fi||((o.args.length:Int) == (ts.length:Int))):=by cases fi<;>rfl
   refine Ev.step (f:=fun n=>(Cw n o.args ts).bind fun e9=>bif e9 then some (.inr (o.kind,o,⟨0,0⟩)) else AG n ⟨l,ns⟩ e ts true (fi||((o.args.length:Int) == (ts.length:Int))) ((k+1:Nat):Int)) (fun n=>?_) ?_
   . rw [C3,QY h2,cond_true,Sq hr,Option.bind_some,hcond,hh,Option.bind_some,Bool.not_true,cond_false,hfit,Option.bind_some,RY (by omega)]
   . refine Ev.bind (U0 o.args ts (by have:=ha o hmem;omega)) ?_
     by_cases e1:o.args=ts
     . have es:BW e.Op e.S ts (o::r) kn fi=.inr (o.kind,o,⟨0,0⟩):=by simp [BW,pick,hh,e1]
       rw [decide_eq_true e1,es];exact Ev.pure
     . have ih:=Kd l ns e ts hl ha r (k+1) true (fi||((o.args.length:Int) == (ts.length:Int))) h1 (by omega)
       have es:BW e.Op e.S ts (o::r) kn fi=BW e.Op e.S ts r true (fi||((o.args.length:Int) == (ts.length:Int))):=by
        have hp:pick e.Op e.S ts (o::r)=pick e.Op e.S ts r:=by simp [pick,hh,e1]
        have hk2:known e.Op e.S (o::r)=true:=by simp [known,hh]
        have hf2:KM e.Op e.S ts (o::r)=(((o.args.length:Int) == (ts.length:Int))||KM e.Op e.S ts r):=by simp [KM,hh]
        unfold BW
        rw [hp,hk2,hf2]
        cases pick e.Op e.S ts r with
        |some o'=>rfl
        |none=>simp only [Bool.or_true,Bool.true_or,Bool.or_assoc]
       rw [decide_eq_false e1,es]
       exact ih
end Go.Sp
namespace Go.Sp
open Go
def Pa (i:Nat):Int:=((XC[i]?).map (·.1)).getD 0
theorem QM {i:Nat}{o:Aa}(h:o∈F2 i):o.op=Pa i:=by
 unfold F2 at h
 unfold Pa
 split at h
 . rename_i op f e
   rw [e]
   unfold Hs at h
   split at h<;>simp at h
   . rcases h with rfl|rfl|rfl<;>rfl
   . rcases h with rfl|rfl<;>rfl
 . simp at h
theorem TX:∀ i,i<6->∀ j,j<6->Pa i=Pa j->i=j:=by decide
theorem Lw {l:List Nat}{op:Int}(h:∀ i∈l,Pa i≠op):(l.flatMap F2).filter (fun o=>o.op == op)=[]:=by
 rw [List.filter_eq_nil_iff]
 intro o ho
 obtain⟨i,hi,ho2⟩:=List.mem_flatMap.1 ho
 have:=h i hi
 rw [<- QM ho2] at this
 simpa using this
theorem Q8 {os:List Nat}(h:Ord os)(op:Int):(os.flatMap F2).filter (fun o=>o.op == op)=match (List.range 6).find? (fun i=>Pa i == op) with|some i=>F2 i|none=>[]:=by
 cases hf:(List.range 6).find? (fun i=>Pa i == op) with
 |none =>
  rw [List.find?_eq_none] at hf
  refine Lw fun i hi=>?_
  have:=hf i (List.mem_range.2 (h.2.1 i hi))
  simpa using this
 |some i =>
  have h1:=List.find?_some hf
  have h2:=List.mem_range.1 (List.mem_of_find?_eq_some hf)
  have h1:Pa i=op:=by simpa using h1
  obtain⟨l1,l2,rfl⟩:=List.append_of_mem (h.2.2 i h2)
  have hnd:=h.1
  rw [List.nodup_append] at hnd
  have hn1:i∉l1:=fun hm=>hnd.2.2 i hm i (by simp) rfl
  have hn2:i∉l2:=(List.nodup_cons.1 hnd.2.1).1
  have other:∀ j∈l1++i::l2,j≠i->Pa j≠op:=fun j hj hne e=>hne (TX j (h.2.1 j hj) i h2 (e.trans h1.symm))
  rw [List.flatMap_append,List.filter_append,List.flatMap_cons,List.filter_append]
  rw [Lw (fun j hj=>other j (by simp [hj]) (fun e=>hn1 (e ▸ hj))),Lw (fun j hj=>other j (by simp [hj]) (fun e=>hn2 (e ▸ hj)))]
  rw [List.nil_append,List.append_nil]
  refine List.filter_eq_self.2 fun o ho=>?_
  rw [QM ho,h1];simp
def Ik:List Aa:=opsOf [0,1,2,3,4,5]
theorem Vk:Ord [0,1,2,3,4,5]:=by decide
theorem RB {os:List Nat}(h:Ord os)(op:Int):(opsOf os).filter (fun o=>o.op == op)=Ik.filter (fun o=>o.op == op):=by
 unfold Ik opsOf
 rw [List.filter_append,List.filter_append,List.filter_append,List.filter_append,Q8 h,Q8 Vk]
theorem Ul {op:Int}{s:ByteArray}{o:Aa}(h:hit op s o=true):(o.op == op)=true:=by
 unfold hit at h
 rw [Bool.and_eq_true] at h
 exact h.1
theorem Sn (op:Int)(s:ByteArray)(o:Aa):((o.op == op)&&hit op s o)=hit op s o:=by
 cases h:hit op s o with
 |false=>simp
 |true=>simp [Ul h]
theorem LJ (op:Int)(s:ByteArray)(ts:List Int)(l:List Aa):pick op s ts (l.filter fun o=>o.op == op)=pick op s ts l:=by
 unfold pick
 rw [List.find?_filter]
 congr 1
 funext o
 cases h:hit op s o with
 |false=>simp
 |true=>simp [Ul h]
theorem KJ (op:Int)(s:ByteArray)(l:List Aa):known op s (l.filter fun o=>o.op == op)=known op s l:=by
 unfold known
 rw [List.any_filter]
 congr 1
 funext o
 exact Sn op s o
theorem LX (op:Int)(s:ByteArray)(ts:List Int)(l:List Aa):KM op s ts (l.filter fun o=>o.op == op)=KM op s ts l:=by
 unfold KM
 rw [List.any_filter]
 congr 1
 funext o
 rw [<- Bool.and_assoc,Sn]
theorem ON {os:List Nat}(h:Ord os)(op:Int)(s:ByteArray)(ts:List Int)(kn fi:Bool):BW op s ts (opsOf os) kn fi=BW op s ts Ik kn fi:=by
 unfold BW
 rw [<- LJ,<- KJ,<- LX,RB h,LJ,KJ,LX]
theorem SP {os:List Nat}(h:Ord os):(opsOf os).length<=1000000:=by
 unfold opsOf
 have:=Nh os
 have h6:=XT 6 os h.1 h.2.1
 rw [List.length_append,List.length_append]
 have e1:E6.length=17:=rfl
 have e2:NY.length=8:=rfl
 omega
theorem Ru {os:List Nat}:∀ o∈opsOf os,o.args.length<=1000:=by
 intro o ho
 unfold opsOf at ho
 rcases List.mem_append.1 ho with ho|ho
 . rcases List.mem_append.1 ho with ho|ho
   . have:E6.all (fun o=>decide (o.args.length<=1000))=true:=by decide
     rw [List.all_eq_true] at this
     simpa using this o ho
   . obtain⟨i,_,h2⟩:=List.mem_flatMap.1 ho
     unfold F2 at h2
     split at h2
     . unfold Hs at h2
       split at h2<;>simp at h2
       . rcases h2 with rfl|rfl|rfl<;>simp
       . rcases h2 with rfl|rfl<;>simp
     . simp at h2
 . have:NY.all (fun o=>decide (o.args.length<=1000))=true:=by decide
   rw [List.all_eq_true] at this
   simpa using this o ho
mutual
def F7:Ab->Bool
 |.mk _ _ _ kids _=>decide (kids.length<=1000000)&&Il kids
def Il:List Ab->Bool
 | []=>true
 |e::l=>F7 e&&Il l
end
mutual
def CM:Ab->Int×Aa×Au
 |.mk op n s kids p =>
  if op<1∨20<op∨(0<=arity op/\(kids.length:Int)≠arity op) then QQ p 1
  else match ED kids with
   |.inr o=>o
   |.inl ts =>
    if op=1 then (if n<0∨999999999999999<n then QQ p 1 else (1,W3,⟨0,0⟩))
    else if op=2 then QQ p 7
    else if op=3 then (if (Cd Cb s).2=true then ((Cd Cb s).1,W3,⟨0,0⟩) else QQ p 6)
    else match BW op s ts Ik false false with
     |.inr o=>o
     |.inl (kn,fi)=>if op=4/\kn=false then QQ p 6 else if op=4/\fi=false then QQ p 1 else QQ p 7
def ED:List Ab->List Int ⊕ (Int×Aa×Au)
 | []=>.inl []
 |e::l =>
  if (CM e).2.2.E≠0 then .inr (0,W3,(CM e).2.2)
  else match ED l with
   |.inl ts=>.inl ((CM e).1::ts)
   |.inr o=>.inr o
end
theorem VZ {l ys:List Int}(h1:l.length<=1000000)(h2:ys.length<=1000000):C0 9 l ys=some (l++ys):=by
 unfold C0
 rw [if_pos (by omega)]
theorem Qz (s:AN)(e:Ab)(hk:e.Kids.length<=1000000)(hf:∀ x∈e.Kids,Ev (fun n=>A4 n s x) (CM x)) :
 ∀ (r:List Ab) (k:Nat) (ts:List Int),e.Kids.drop k=r->k<=e.Kids.length->ts.length=k->Ev (fun n=>Bc n e s ts (k:Int)) (match ED r with|.inl us=>.inl (ts++us)|.inr o=>.inr o)
 | [],k,ts,hr,hkl,_=>by
  have he:=Ps hr hkl
  refine Ev.step (f:=fun n=>some (.inl ts)) (fun n=>?_) ?_
  . rw [Ef,show (decide ((k:Int)<(e.Kids.length:Int)))=false by rw [decide_eq_false_iff_not];omega];rfl
  . rw [ED];simp only [List.append_nil];exact Ev.pure
 |x::r,k,ts,hr,hkl,hts=>by
  obtain⟨h1,h2⟩:=JT hr
  have hmem:x∈e.Kids:=List.mem_of_mem_drop (by rw [hr];simp)
  refine Ev.step (f:=fun n=>(A4 n s x).bind fun f7=>bif (f7.2.2.E != 0) then some (.inr (0,W3,f7.2.2)) else Bc n e s (ts++[f7.1]) ((k+1:Nat):Int)) (fun n=>?_) ?_
  . rw [Ef,QY h2,cond_true,Sq hr,Option.bind_some]
    congr 1
    funext f7
    rw [Option.bind_some,VZ (by omega) (by simp),Option.bind_some,RY (by omega)]
    rfl
  . refine Ev.bind (hf x hmem) ?_
    rw [ED]
    by_cases c:(CM x).2.2.E=0
    . have ih:=Qz s e hk hf r (k+1) (ts++[(CM x).1]) h1 (by omega) (by simp [hts])
      simp only [show ((CM x).2.2.E != 0)=false by simpa using c,cond_false]
      rw [if_neg (by simpa using c)]
      cases ht:ED r with
      |inl us=>rw [ht] at ih;simpa [List.append_assoc] using ih
      |inr o=>rw [ht] at ih;exact ih
    . simp only [show ((CM x).2.2.E != 0)=true by simpa using c,cond_true]
      rw [if_pos c];exact Ev.pure
theorem Td (ops:List Aa)(os:List Nat)(ho:Ord os)(hops:ops=opsOf os)(e:Ab)(hk:e.Kids.length<=1000000)(hf:∀ x∈e.Kids,Ev (fun n=>A4 n ⟨ops,Cb⟩ x) (CM x)) :
 Ev (fun n=>A4 n ⟨ops,Cb⟩ e) (CM e):=by
 obtain⟨op,num,str,kids,at0⟩:=e
 simp only at hk hf
 have hkids:=Qz ⟨ops,Cb⟩ ⟨op,num,str,kids,at0⟩ hk hf kids 0 [] rfl (Nat.zero_le _) rfl
 have hsearch:∀ ts,Ev (fun n=>AG n ⟨ops,Cb⟩ ⟨op,num,str,kids,at0⟩ ts false false 0) (BW op str ts Ik false false):=fun ts=>by
  have:=Kd ops Cb ⟨op,num,str,kids,at0⟩ ts (by rw [hops];exact SP ho) (by rw [hops];exact Ru) ops 0 false false rfl (Nat.zero_le _)
  rw [hops,ON ho] at this
  rw [hops];exact this
 refine Ev.step (fun n=>A4.eq_2 ⟨ops,Cb⟩ ⟨op,num,str,kids,at0⟩ n) ?_
 simp only [Qd,Option.bind_some,AM]
 rw [CM]
 have hc:((bif (decide (op<1)) then some true else bif (decide (20<op)) then some true else bif (decide (0<=arity op)) then some ((kids.length:Int) != arity op) else some false):Option Bool) =
  some (decide (op<1∨20<op∨(0<=arity op/\(kids.length:Int)≠arity op))):=by
  by_cases c1:op<1
  . simp [c1]
  by_cases c2:20<op
  . simp [c1,c2]
  by_cases c3:0<=arity op
  . by_cases c4:(kids.length:Int)=arity op
    . simp [c1,c2,c3,c4]
    . simp [c1,c2,c3,c4]
  . simp [c1,c2,c3]
 simp only [hc,Option.bind_some]
 by_cases c:op<1∨20<op∨(0<=arity op/\(kids.length:Int)≠arity op)
 . rw [if_pos c]
   simp only [decide_eq_true c,cond_true,Option.bind_some]
   exact Ev.pure
 . rw [if_neg c]
   simp only [decide_eq_false c,cond_false]
   refine Ev.bind hkids ?_
   cases ht:ED kids with
   |inr o=>exact Ev.pure
   |inl ts =>
    simp only [List.nil_append]
    by_cases h1:op=1
    . subst h1
      simp only [beq_self_eq_true,cond_true,if_true]
      by_cases n1:num<0
      . simp only [n1,decide_true,cond_true,Option.bind_some,true_or,if_true];exact Ev.pure
      . by_cases n2:999999999999999<num
        . simp only [n1,n2,decide_true,decide_false,cond_true,cond_false,Option.bind_some,or_true,if_true];exact Ev.pure
        . simp only [n1,n2,decide_false,cond_false,Option.bind_some,or_self,if_false];exact Ev.pure
    simp only [show (op == 1)=false by simpa using h1,cond_false,if_neg h1]
    by_cases h2:op=2
    . subst h2
      simp only [beq_self_eq_true,cond_true,if_true,Option.bind_some];exact Ev.pure
    simp only [show (op == 2)=false by simpa using h2,cond_false,if_neg h2]
    by_cases h3:op=3
    . subst h3
      simp only [beq_self_eq_true,cond_true,if_true]
      cases hg:(Cd Cb str).2 with
      |true=>simp only [cond_true,if_true];exact Ev.pure
      |false=>simp only [cond_false,Bool.false_eq_true,if_false,Option.bind_some];exact Ev.pure
    simp only [show (op == 3)=false by simpa using h3,cond_false,if_neg h3]
    refine Ev.bind (hsearch ts) ?_
    cases hs:BW op str ts Ik false false with
    |inr o=>exact Ev.pure
    |inl y =>
     obtain⟨kn,fi⟩:=y
     simp only
     by_cases h4:op=4
     . subst h4
       simp only [beq_self_eq_true,cond_true,Option.bind_some,true_and]
       cases kn with
       |false=>simp only [Bool.not_false,cond_true,if_true,Option.bind_some];exact Ev.pure
       |true =>
        cases fi with
        |false=>simp only [Bool.not_true,Bool.not_false,cond_true,cond_false,if_true,Option.bind_some,Bool.true_eq_false,if_false];exact Ev.pure
        |true=>simp only [Bool.not_true,cond_false,Option.bind_some,Bool.true_eq_false,if_false];exact Ev.pure
     . simp only [show (op == 4)=false by simpa using h4,cond_false,Option.bind_some,h4,false_and,if_false];exact Ev.pure
mutual
theorem Pj {os:List Nat}(ho:Ord os):∀ (e:Ab),F7 e=true->Ev (fun n=>A4 n ⟨opsOf os,Cb⟩ e) (CM e)
 |.mk op num str kids at0,h=>by
  rw [F7,Bool.and_eq_true,decide_eq_true_eq] at h
  exact Td (opsOf os) os ho rfl _ h.1 (Q9 ho kids h.2)
theorem Q9 {os:List Nat}(ho:Ord os):∀ (l:List Ab),Il l=true->∀ x∈l,Ev (fun n=>A4 n ⟨opsOf os,Cb⟩ x) (CM x)
 | [],_,x,hx=>by simp at hx
 |e::l,h,x,hx=>by
  rw [Il,Bool.and_eq_true] at h
  rcases List.mem_cons.1 hx with hx|hx
  . rw [hx];exact Pj ho e h.1
  . exact Q9 ho l h.2 x hx
end
def Jt (e:Ab):Option (Int×Aa×Au):=if F7 e=true then some (CM e) else none
end Go.Sp
