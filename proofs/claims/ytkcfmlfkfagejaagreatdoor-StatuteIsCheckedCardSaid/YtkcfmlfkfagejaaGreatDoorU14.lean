/-
  What find finds, in plain words, whatever order the table of operations is in. No program. The search ends alike in every order of the table; find, in plain words. No program.
-/
import Derived.Test.YtkcfmlfkfagejaaGreatDoorU12
import Derived.Test.YtkcfmlfkfagejaaGreatDoorU13
set_option linter.unusedVariables false
set_option linter.unusedSimpArgs false
namespace Go.Sp
open Go
def YZ:Af:=⟨0,⟨#[]⟩,[],0,.nil⟩
abbrev Q9 (p x:Int):Int×Af×Am:=(0,YZ,⟨p,x⟩)
def arity (op:Int):Int:=if op=1∨op=2∨op=3 then 0 else if op=5∨op=6 then 1 else if op=20 then 3 else if op=4 then -1 else 2
theorem Rt (op:Int):DY op=some (arity op):=by
 by_cases h1:op=1
 . subst h1;rfl
 by_cases h2:op=2
 . subst h2;rfl
 by_cases h3:op=3
 . subst h3;rfl
 by_cases h5:op=5
 . subst h5;rfl
 by_cases h6:op=6
 . subst h6;rfl
 by_cases h20:op=20
 . subst h20;rfl
 by_cases h4:op=4
 . subst h4;rfl
 unfold DY arity
 have b1:(op == 1)=false:=by simpa using h1
 have b2:(op == 2)=false:=by simpa using h2
 have b3:(op == 3)=false:=by simpa using h3
 have b4:(op == 4)=false:=by simpa using h4
 have b5:(op == 5)=false:=by simpa using h5
 have b6:(op == 6)=false:=by simpa using h6
 have b20:(op == 20)=false:=by simpa using h20
 simp only [b1,b2,b3,b4,b5,b6,b20,cond_false,Option.bind_some]
 simp [h1,h2,h3,h4,h5,h6,h20]
def hit (op:Int)(s:ByteArray)(o:Af):Bool:=o.op == op&&(!(o.op == 4)||decide (o.name=s))
def pick (op:Int)(s:ByteArray)(ts:List Int)(l:List Af):Option Af:=l.find? fun o=>hit op s o&&decide (o.args=ts)
def known (op:Int)(s:ByteArray)(l:List Af):Bool:=l.any (hit op s)
def LC (op:Int)(s:ByteArray)(ts:List Int)(l:List Af):Bool:=l.any fun o=>hit op s o&&((o.args.length:Int) == (ts.length:Int))
theorem Sz {k:Nat}(h:k<4611686018427387904):IntKind.i64.wrap ((k:Int)+1)=((k+1:Nat):Int):=by
 rw [AJ (by omega) (by omega)];omega
theorem RI {α:Type}{l:List α}{k:Nat}{x:α}{r:List α}(h:l.drop k=x::r):gi l (k:Int)=some x:=by
 have h2:l[k]?=some x:=by
  have:=congrArg (·[0]?) h
  simpa [List.getElem?_drop] using this
 unfold gi
 rw [if_pos (by omega)];exact h2
theorem HH {α:Type}{l:List α}{k:Nat}{x:α}{r:List α}(h:l.drop k=x::r):l.drop (k+1)=r/\k<l.length:=by
 constructor
 . have:=congrArg (List.drop 1) h
   rw [List.drop_drop] at this
   rw [this];rfl
 . by_cases hk:k<l.length
   . exact hk
   . rw [List.drop_eq_nil_of_le (by omega)] at h;cases h
theorem Mr {α:Type}{l:List α}{k:Nat}(h:l.drop k=[])(hk:k<=l.length):k=l.length:=by
 have:=congrArg List.length h
 rw [List.length_drop,List.length_nil] at this
 omega
theorem Sy {k n:Nat}(h:k<n):(decide ((k:Int)<(n:Int)))=true:=by rw [decide_eq_true_eq];omega
theorem W6 (a b:List Int)(hab:a.length=b.length)(ha:a.length<=1000000000):∀ (r:List Int) (k:Nat),a.drop k=r->k<=a.length->Ev (fun n=>BF n a b (k:Int)) (if a.drop k=b.drop k then .inl () else .inr false)
 | [],k,hr,hk=>by
  have he:=Mr hr hk
  refine Ev.step (f:=fun n=>some (.inl ())) (fun n=>?_) ?_
  . rw [FF,show (decide ((k:Int)<(a.length:Int)))=false by rw [decide_eq_false_iff_not];omega];rfl
  . rw [if_pos (by rw [hr,List.drop_eq_nil_of_le (by omega)])];exact Ev.pure
 |x::r,k,hr,hk=>by
  obtain⟨h1,h2⟩:=HH hr
  have hkb:k<b.length:=by omega
  have hb:b.drop k=b[k]::b.drop (k+1):=List.drop_eq_getElem_cons hkb
  have ih:=W6 a b hab ha r (k+1) h1 (by omega)
  refine Ev.step (f:=fun n=>bif (x != b[k]) then some (.inr false) else BF n a b ((k+1:Nat):Int)) (fun n=>?_) ?_
  . rw [FF,Sy h2,cond_true,RI hr,Option.bind_some,RI hb,Option.bind_some,Sz (by omega)]
  . by_cases hx:x=b[k]
    . subst hx
      simp only [bne_self_eq_false,cond_false]
      have e:(a.drop k=b.drop k)↔(a.drop (k+1)=b.drop (k+1)):=by
       rw [hr,hb,h1]
       exact⟨fun h=>(List.cons.inj h).2,fun h=>by rw [h]⟩
      by_cases h3:a.drop (k+1)=b.drop (k+1)
      . rw [if_pos (e.2 h3)];rw [if_pos h3] at ih;exact ih
      . rw [if_neg (fun h=>h3 (e.1 h))];rw [if_neg h3] at ih;exact ih
    . rw [if_neg (by rw [hr,hb];intro h;exact hx (List.cons.inj h).1)]
      simp only [show (x != b[k])=true by simpa using hx,cond_true]
      exact Ev.pure
theorem W5 (a b:List Int)(ha:a.length<=1000000000):Ev (fun n=>CX n a b) (decide (a=b)):=by
 unfold CX
 by_cases h:a.length=b.length
 . rw [show ((a.length:Int) != (b.length:Int))=false by simp [h]]
   simp only [cond_false]
   refine Ev.bind (W6 a b h ha _ 0 rfl (Nat.zero_le _)) ?_
   simp only [List.drop_zero]
   by_cases e:a=b
   . rw [if_pos e,decide_eq_true e];exact Ev.pure
   . rw [if_neg e,decide_eq_false e];exact Ev.pure
 . rw [show ((a.length:Int) != (b.length:Int))=true by simp;omega]
   rw [decide_eq_false (fun e=>h (by rw [e]))]
   exact Ev.pure
def C4 (op:Int)(s:ByteArray)(ts:List Int)(l:List Af)(kn fi:Bool):(Bool×Bool) ⊕ (Int×Af×Am) :=
 match pick op s ts l with
 |some o=>.inr (o.kind,o,⟨0,0⟩)
 |none=>.inl (kn||known op s l,fi||LC op s ts l)
theorem KO (l:List Af)(ns:List (ByteArray×Int))(e:Ab)(ts:List Int)(hl:l.length<=1000000)(ha:∀ o∈l,o.args.length<=1000) :
 ∀ (r:List Af) (k:Nat) (kn fi:Bool),l.drop k=r->k<=l.length->Ev (fun n=>AR n ⟨l,ns⟩ e ts kn fi (k:Int)) (C4 e.Op e.S ts r kn fi)
 | [],k,kn,fi,hr,hk=>by
  have he:=Mr hr hk
  refine Ev.step (f:=fun n=>some (.inl (kn,fi))) (fun n=>?_) ?_
  . rw [Da,show (decide ((k:Int)<(l.length:Int)))=false by rw [decide_eq_false_iff_not];omega];rfl
  . have:C4 e.Op e.S ts [] kn fi=.inl (kn,fi):=by simp [C4,pick,known,LC]
    rw [this];exact Ev.pure
 |o::r,k,kn,fi,hr,hk=>by
  obtain⟨h1,h2⟩:=HH hr
  have hmem:o∈l:=List.mem_of_mem_drop (by rw [hr];simp)
  have hcond:((bif (o.op != e.Op) then some true else bif (o.op == 4) then some (!decide (o.name=e.S)) else some false):Option Bool)=some (!hit e.Op e.S o):=by
   unfold hit
   by_cases c1:o.op=e.Op
   . rw [show (o.op != e.Op)=false by simp [c1],show (o.op == e.Op)=true by simp [c1],cond_false,Bool.true_and]
     cases c2:(o.op == 4) with
     |true=>simp
     |false=>simp
   . rw [show (o.op != e.Op)=true by simp [c1],show (o.op == e.Op)=false by simp [c1],cond_true,Bool.false_and];rfl
  cases hh:hit e.Op e.S o with
  |false =>
   have ih:=KO l ns e ts hl ha r (k+1) kn fi h1 (by omega)
   have es:C4 e.Op e.S ts (o::r) kn fi=C4 e.Op e.S ts r kn fi:=by simp [C4,pick,known,LC,hh]
   rw [es]
   refine Ev.step (fun n=>?_) ih
   rw [Da,Sy h2,cond_true,RI hr,Option.bind_some,hcond,hh,Option.bind_some,Bool.not_false,cond_true,Sz (by omega)]
  |true =>
   have hfit:((bif fi then some true else some ((o.args.length:Int) == (ts.length:Int))):Option Bool)=some (fi||((o.args.length:Int) == (ts.length:Int))):=by cases fi<;>rfl
   refine Ev.step (f:=fun n=>(CX n o.args ts).bind fun e9=>bif e9 then some (.inr (o.kind,o,⟨0,0⟩)) else AR n ⟨l,ns⟩ e ts true (fi||((o.args.length:Int) == (ts.length:Int))) ((k+1:Nat):Int)) (fun n=>?_) ?_
   . rw [Da,Sy h2,cond_true,RI hr,Option.bind_some,hcond,hh,Option.bind_some,Bool.not_true,cond_false,hfit,Option.bind_some,Sz (by omega)]
   . refine Ev.bind (W5 o.args ts (by have:=ha o hmem;omega)) ?_
     by_cases e1:o.args=ts
     . have es:C4 e.Op e.S ts (o::r) kn fi=.inr (o.kind,o,⟨0,0⟩):=by simp [C4,pick,hh,e1]
       rw [decide_eq_true e1,es];exact Ev.pure
     . have ih:=KO l ns e ts hl ha r (k+1) true (fi||((o.args.length:Int) == (ts.length:Int))) h1 (by omega)
       have es:C4 e.Op e.S ts (o::r) kn fi=C4 e.Op e.S ts r true (fi||((o.args.length:Int) == (ts.length:Int))):=by
        have hp:pick e.Op e.S ts (o::r)=pick e.Op e.S ts r:=by simp [pick,hh,e1]
        have hk2:known e.Op e.S (o::r)=true:=by simp [known,hh]
        have hf2:LC e.Op e.S ts (o::r)=(((o.args.length:Int) == (ts.length:Int))||LC e.Op e.S ts r):=by simp [LC,hh]
        unfold C4
        rw [hp,hk2,hf2]
        cases pick e.Op e.S ts r with
        |some o'=>rfl
        |none=>simp only [Bool.or_true,Bool.true_or,Bool.or_assoc]
       rw [decide_eq_false e1,es]
       exact ih
end Go.Sp
namespace Go.Sp
open Go
def Qp (i:Nat):Int:=((opk[i]?).map (·.1)).getD 0
theorem Sk {i:Nat}{o:Af}(h:o∈Gt i):o.op=Qp i:=by
 unfold Gt at h
 unfold Qp
 split at h
 . rename_i op f e
   rw [e]
   unfold Il at h
   split at h<;>simp at h
   . rcases h with rfl|rfl|rfl<;>rfl
   . rcases h with rfl|rfl<;>rfl
 . simp at h
theorem VJ:∀ i,i<6->∀ j,j<6->Qp i=Qp j->i=j:=by decide
theorem Mn {l:List Nat}{op:Int}(h:∀ i∈l,Qp i≠op):(l.flatMap Gt).filter (fun o=>o.op == op)=[]:=by
 rw [List.filter_eq_nil_iff]
 intro o ho
 obtain⟨i,hi,ho2⟩:=List.mem_flatMap.1 ho
 have:=h i hi
 rw [<- Sk ho2] at this
 simpa using this
theorem RS {os:List Nat}(h:Ord os)(op:Int):(os.flatMap Gt).filter (fun o=>o.op == op)=match (List.range 6).find? (fun i=>Qp i == op) with|some i=>Gt i|none=>[]:=by
 cases hf:(List.range 6).find? (fun i=>Qp i == op) with
 |none =>
  rw [List.find?_eq_none] at hf
  refine Mn fun i hi=>?_
  have:=hf i (List.mem_range.2 (h.2.1 i hi))
  simpa using this
 |some i =>
  have h1:=List.find?_some hf
  have h2:=List.mem_range.1 (List.mem_of_find?_eq_some hf)
  have h1:Qp i=op:=by simpa using h1
  obtain⟨l1,l2,rfl⟩:=List.append_of_mem (h.2.2 i h2)
  have hnd:=h.1
  rw [List.nodup_append] at hnd
  have hn1:i∉l1:=fun hm=>hnd.2.2 i hm i (by simp) rfl
  have hn2:i∉l2:=(List.nodup_cons.1 hnd.2.1).1
  have other:∀ j∈l1++i::l2,j≠i->Qp j≠op:=fun j hj hne e=>hne (VJ j (h.2.1 j hj) i h2 (e.trans h1.symm))
  rw [List.flatMap_append,List.filter_append,List.flatMap_cons,List.filter_append]
  rw [Mn (fun j hj=>other j (by simp [hj]) (fun e=>hn1 (e ▸ hj))),Mn (fun j hj=>other j (by simp [hj]) (fun e=>hn2 (e ▸ hj)))]
  rw [List.nil_append,List.append_nil]
  refine List.filter_eq_self.2 fun o ho=>?_
  rw [Sk ho,h1];simp
def IP:List Af:=opsOf [0,1,2,3,4,5]
theorem X5:Ord [0,1,2,3,4,5]:=by decide
theorem Tl {os:List Nat}(h:Ord os)(op:Int):(opsOf os).filter (fun o=>o.op == op)=IP.filter (fun o=>o.op == op):=by
 unfold IP opsOf
 rw [List.filter_append,List.filter_append,List.filter_append,List.filter_append,RS h,RS X5]
theorem Wf {op:Int}{s:ByteArray}{o:Af}(h:hit op s o=true):(o.op == op)=true:=by
 unfold hit at h
 rw [Bool.and_eq_true] at h
 exact h.1
theorem Ua (op:Int)(s:ByteArray)(o:Af):((o.op == op)&&hit op s o)=hit op s o:=by
 cases h:hit op s o with
 |false=>simp
 |true=>simp [Wf h]
theorem M8 (op:Int)(s:ByteArray)(ts:List Int)(l:List Af):pick op s ts (l.filter fun o=>o.op == op)=pick op s ts l:=by
 unfold pick
 rw [List.find?_filter]
 congr 1
 funext o
 cases h:hit op s o with
 |false=>simp
 |true=>simp [Wf h]
theorem L7 (op:Int)(s:ByteArray)(l:List Af):known op s (l.filter fun o=>o.op == op)=known op s l:=by
 unfold known
 rw [List.any_filter]
 congr 1
 funext o
 exact Ua op s o
theorem MM (op:Int)(s:ByteArray)(ts:List Int)(l:List Af):LC op s ts (l.filter fun o=>o.op == op)=LC op s ts l:=by
 unfold LC
 rw [List.any_filter]
 congr 1
 funext o
 rw [<- Bool.and_assoc,Ua]
theorem Qd {os:List Nat}(h:Ord os)(op:Int)(s:ByteArray)(ts:List Int)(kn fi:Bool):C4 op s ts (opsOf os) kn fi=C4 op s ts IP kn fi:=by
 unfold C4
 rw [<- M8,<- L7,<- MM,Tl h,M8,L7,MM]
theorem U8 {os:List Nat}(h:Ord os):(opsOf os).length<=1000000:=by
 unfold opsOf
 have:=Ok os
 have h6:=ndl 6 os h.1 h.2.1
 rw [List.length_append,List.length_append]
 have e1:Fm.length=17:=rfl
 have e2:Pe.length=8:=rfl
 omega
theorem SP {os:List Nat}:∀ o∈opsOf os,o.args.length<=1000:=by
 intro o ho
 unfold opsOf at ho
 rcases List.mem_append.1 ho with ho|ho
 . rcases List.mem_append.1 ho with ho|ho
   . have:Fm.all (fun o=>decide (o.args.length<=1000))=true:=by decide
     rw [List.all_eq_true] at this
     simpa using this o ho
   . obtain⟨i,_,h2⟩:=List.mem_flatMap.1 ho
     unfold Gt at h2
     split at h2
     . unfold Il at h2
       split at h2<;>simp at h2
       . rcases h2 with rfl|rfl|rfl<;>simp
       . rcases h2 with rfl|rfl<;>simp
     . simp at h2
 . have:Pe.all (fun o=>decide (o.args.length<=1000))=true:=by decide
   rw [List.all_eq_true] at this
   simpa using this o ho
mutual
def D6:Ab->Bool
 |.mk _ _ _ kids _=>decide (kids.length<=1000000)&&IQ kids
def IQ:List Ab->Bool
 | []=>true
 |e::l=>D6 e&&IQ l
end
mutual
def BJ:Ab->Int×Af×Am
 |.mk op n s kids p =>
  if op<1∨20<op∨(0<=arity op/\(kids.length:Int)≠arity op) then Q9 p 1
  else match Eo kids with
   |.inr o=>o
   |.inl ts =>
    if op=1 then (if n<0∨999999999999999<n then Q9 p 1 else (1,YZ,⟨0,0⟩))
    else if op=2 then Q9 p 7
    else if op=3 then (if (CJ CH s).2=true then ((CJ CH s).1,YZ,⟨0,0⟩) else Q9 p 6)
    else match C4 op s ts IP false false with
     |.inr o=>o
     |.inl (kn,fi)=>if op=4/\kn=false then Q9 p 6 else if op=4/\fi=false then Q9 p 1 else Q9 p 7
def Eo:List Ab->List Int ⊕ (Int×Af×Am)
 | []=>.inl []
 |e::l =>
  if (BJ e).2.2.E≠0 then .inr (0,YZ,(BJ e).2.2)
  else match Eo l with
   |.inl ts=>.inl ((BJ e).1::ts)
   |.inr o=>.inr o
end
theorem Y5 {l ys:List Int}(h1:l.length<=1000000)(h2:ys.length<=1000000):Cp 9 l ys=some (l++ys):=by
 unfold Cp
 rw [if_pos (by omega)]
theorem RD (s:Bc)(e:Ab)(hk:e.Kids.length<=1000000)(hf:∀ x∈e.Kids,Ev (fun n=>A8 n s x) (BJ x)) :
 ∀ (r:List Ab) (k:Nat) (ts:List Int),e.Kids.drop k=r->k<=e.Kids.length->ts.length=k->Ev (fun n=>Bs n e s ts (k:Int)) (match Eo r with|.inl us=>.inl (ts++us)|.inr o=>.inr o)
 | [],k,ts,hr,hkl,_=>by
  have he:=Mr hr hkl
  refine Ev.step (f:=fun n=>some (.inl ts)) (fun n=>?_) ?_
  . rw [EM,show (decide ((k:Int)<(e.Kids.length:Int)))=false by rw [decide_eq_false_iff_not];omega];rfl
  . rw [Eo];simp only [List.append_nil];exact Ev.pure
 |x::r,k,ts,hr,hkl,hts=>by
  obtain⟨h1,h2⟩:=HH hr
  have hmem:x∈e.Kids:=List.mem_of_mem_drop (by rw [hr];simp)
  refine Ev.step (f:=fun n=>(A8 n s x).bind fun f7=>bif (f7.2.2.E != 0) then some (.inr (0,YZ,f7.2.2)) else Bs n e s (ts++[f7.1]) ((k+1:Nat):Int)) (fun n=>?_) ?_
  . rw [EM,Sy h2,cond_true,RI hr,Option.bind_some]
    congr 1
    funext f7
    rw [Option.bind_some,Y5 (by omega) (by simp),Option.bind_some,Sz (by omega)]
    rfl
  . refine Ev.bind (hf x hmem) ?_
    rw [Eo]
    by_cases c:(BJ x).2.2.E=0
    . have ih:=RD s e hk hf r (k+1) (ts++[(BJ x).1]) h1 (by omega) (by simp [hts])
      simp only [show ((BJ x).2.2.E != 0)=false by simpa using c,cond_false]
      rw [if_neg (by simpa using c)]
      cases ht:Eo r with
      |inl us=>rw [ht] at ih;simpa [List.append_assoc] using ih
      |inr o=>rw [ht] at ih;exact ih
    . simp only [show ((BJ x).2.2.E != 0)=true by simpa using c,cond_true]
      rw [if_pos c];exact Ev.pure
theorem UP (ops:List Af)(os:List Nat)(ho:Ord os)(hops:ops=opsOf os)(e:Ab)(hk:e.Kids.length<=1000000)(hf:∀ x∈e.Kids,Ev (fun n=>A8 n ⟨ops,CH⟩ x) (BJ x)) :
 Ev (fun n=>A8 n ⟨ops,CH⟩ e) (BJ e):=by
 obtain⟨op,num,str,kids,at0⟩:=e
 simp only at hk hf
 have hkids:=RD ⟨ops,CH⟩ ⟨op,num,str,kids,at0⟩ hk hf kids 0 [] rfl (Nat.zero_le _) rfl
 have hsearch:∀ ts,Ev (fun n=>AR n ⟨ops,CH⟩ ⟨op,num,str,kids,at0⟩ ts false false 0) (C4 op str ts IP false false):=fun ts=>by
  have:=KO ops CH ⟨op,num,str,kids,at0⟩ ts (by rw [hops];exact U8 ho) (by rw [hops];exact SP) ops 0 false false rfl (Nat.zero_le _)
  rw [hops,Qd ho] at this
  rw [hops];exact this
 refine Ev.step (fun n=>A8.eq_2 ⟨ops,CH⟩ ⟨op,num,str,kids,at0⟩ n) ?_
 simp only [Rt,Option.bind_some,Bb]
 rw [BJ]
 have hc:((bif (decide (op<1)) then some true else bif (decide (20<op)) then some true else bif (decide (0<=arity op)) then some ((kids.length:Int) != arity op) else some false):Option Bool) =
  some (decide (op<1∨20<op∨(0<=arity op/\(kids.length:Int)≠arity op))):=by
  by_cases c1:op<1
  . simp [c1]
  by_cases c2:20<op
  . simp [c1,c2]
  by_cases c3:0<=arity op
  . by_cases c4:(kids.length:Int)=arity op
    . simp [c1,c2,c3,c4]
    . simp [c1,c2,c3,c4]
  . simp [c1,c2,c3]
 simp only [hc,Option.bind_some]
 by_cases c:op<1∨20<op∨(0<=arity op/\(kids.length:Int)≠arity op)
 . rw [if_pos c]
   simp only [decide_eq_true c,cond_true,Option.bind_some]
   exact Ev.pure
 . rw [if_neg c]
   simp only [decide_eq_false c,cond_false]
   refine Ev.bind hkids ?_
   cases ht:Eo kids with
   |inr o=>exact Ev.pure
   |inl ts =>
    simp only [List.nil_append]
    by_cases h1:op=1
    . subst h1
      simp only [beq_self_eq_true,cond_true,if_true]
      by_cases n1:num<0
      . simp only [n1,decide_true,cond_true,Option.bind_some,true_or,if_true];exact Ev.pure
      . by_cases n2:999999999999999<num
        . simp only [n1,n2,decide_true,decide_false,cond_true,cond_false,Option.bind_some,or_true,if_true];exact Ev.pure
        . simp only [n1,n2,decide_false,cond_false,Option.bind_some,or_self,if_false];exact Ev.pure
    simp only [show (op == 1)=false by simpa using h1,cond_false,if_neg h1]
    by_cases h2:op=2
    . subst h2
      simp only [beq_self_eq_true,cond_true,if_true,Option.bind_some];exact Ev.pure
    simp only [show (op == 2)=false by simpa using h2,cond_false,if_neg h2]
    by_cases h3:op=3
    . subst h3
      simp only [beq_self_eq_true,cond_true,if_true]
      cases hg:(CJ CH str).2 with
      |true=>simp only [cond_true,if_true];exact Ev.pure
      |false=>simp only [cond_false,Bool.false_eq_true,if_false,Option.bind_some];exact Ev.pure
    simp only [show (op == 3)=false by simpa using h3,cond_false,if_neg h3]
    refine Ev.bind (hsearch ts) ?_
    cases hs:C4 op str ts IP false false with
    |inr o=>exact Ev.pure
    |inl y =>
     obtain⟨kn,fi⟩:=y
     simp only
     by_cases h4:op=4
     . subst h4
       simp only [beq_self_eq_true,cond_true,Option.bind_some,true_and]
       cases kn with
       |false=>simp only [Bool.not_false,cond_true,if_true,Option.bind_some];exact Ev.pure
       |true =>
        cases fi with
        |false=>simp only [Bool.not_true,Bool.not_false,cond_true,cond_false,if_true,Option.bind_some,Bool.true_eq_false,if_false];exact Ev.pure
        |true=>simp only [Bool.not_true,cond_false,Option.bind_some,Bool.true_eq_false,if_false];exact Ev.pure
     . simp only [show (op == 4)=false by simpa using h4,cond_false,Option.bind_some,h4,false_and,if_false];exact Ev.pure
mutual
theorem Qw {os:List Nat}(ho:Ord os):∀ (e:Ab),D6 e=true->Ev (fun n=>A8 n ⟨opsOf os,CH⟩ e) (BJ e)
 |.mk op num str kids at0,h=>by
  rw [D6,Bool.and_eq_true,decide_eq_true_eq] at h
  exact UP (opsOf os) os ho rfl _ h.1 (RV ho kids h.2)
theorem RV {os:List Nat}(ho:Ord os):∀ (l:List Ab),IQ l=true->∀ x∈l,Ev (fun n=>A8 n ⟨opsOf os,CH⟩ x) (BJ x)
 | [],_,x,hx=>by simp at hx
 |e::l,h,x,hx=>by
  rw [IQ,Bool.and_eq_true] at h
  rcases List.mem_cons.1 hx with hx|hx
  . rw [hx];exact Qw ho e h.1
  . exact RV ho l h.2 x hx
end
def Gg (e:Ab):Option (Int×Af×Am):=if D6 e=true then some (BJ e) else none
end Go.Sp
