/-
  What find finds, in plain words, whatever order the table of operations is in. No program. The search ends alike in every order of the table; find, in plain words. No program.
-/
import Derived.Test.YtkcfmlfkfagejaaGreatDoorU12
import Derived.Test.YtkcfmlfkfagejaaGreatDoorU13
set_option linter.unusedVariables false
set_option linter.unusedSimpArgs false
namespace Go.Sp
open Go
def Zp:Ab:=⟨0,⟨#[]⟩,[],0,.nil⟩
abbrev Ts (p x:Int):Int×Ab×Av:=(0,Zp,⟨p,x⟩)
def arity (op:Int):Int:=if op=1∨op=2∨op=3 then 0 else if op=5∨op=6 then 1 else if op=20 then 3 else if op=4 then -1 else 2
theorem Sw (op:Int):Ea op=some (arity op):=by
 by_cases h1:op=1
 . subst h1;rfl
 by_cases h2:op=2
 . subst h2;rfl
 by_cases h3:op=3
 . subst h3;rfl
 by_cases h5:op=5
 . subst h5;rfl
 by_cases h6:op=6
 . subst h6;rfl
 by_cases h20:op=20
 . subst h20;rfl
 by_cases h4:op=4
 . subst h4;rfl
 unfold Ea arity
 have b1:(op == 1)=false:=by simpa using h1
 have b2:(op == 2)=false:=by simpa using h2
 have b3:(op == 3)=false:=by simpa using h3
 have b4:(op == 4)=false:=by simpa using h4
 have b5:(op == 5)=false:=by simpa using h5
 have b6:(op == 6)=false:=by simpa using h6
 have b20:(op == 20)=false:=by simpa using h20
 simp only [b1,b2,b3,b4,b5,b6,b20,cond_false,Option.bind_some]
 simp [h1,h2,h3,h4,h5,h6,h20]
def hit (op:Int)(s:ByteArray)(o:Ab):Bool:=o.op == op&&(!(o.op == 4)||decide (o.name=s))
def pick (op:Int)(s:ByteArray)(ts:List Int)(l:List Ab):Option Ab:=l.find? fun o=>hit op s o&&decide (o.args=ts)
def known (op:Int)(s:ByteArray)(l:List Ab):Bool:=l.any (hit op s)
def Gr (op:Int)(s:ByteArray)(ts:List Int)(l:List Ab):Bool:=l.any fun o=>hit op s o&&((o.args.length:Int) == (ts.length:Int))
theorem P4 {k:Nat}(h:k<4611686018427387904):IntKind.i64.wrap ((k:Int)+1)=((k+1:Nat):Int):=by
 rw [Ck (by omega) (by omega)];omega
theorem Rk {α:Type}{l:List α}{k:Nat}{x:α}{r:List α}(h:l.drop k=x::r):gi l (k:Int)=some x:=by
 have h2:l[k]?=some x:=by
  have:=congrArg (·[0]?) h
  simpa [List.getElem?_drop] using this
 unfold gi
 rw [if_pos (by omega)];exact h2
theorem G5 {α:Type}{l:List α}{k:Nat}{x:α}{r:List α}(h:l.drop k=x::r):l.drop (k+1)=r/\k<l.length:=by
 constructor
 . have:=congrArg (List.drop 1) h
   rw [List.drop_drop] at this
   rw [this];rfl
 . by_cases hk:k<l.length
   . exact hk
   . rw [List.drop_eq_nil_of_le (by omega)] at h;cases h
theorem KK {α:Type}{l:List α}{k:Nat}(h:l.drop k=[])(hk:k<=l.length):k=l.length:=by
 have:=congrArg List.length h
 rw [List.length_drop,List.length_nil] at this
 omega
theorem PK {k n:Nat}(h:k<n):(decide ((k:Int)<(n:Int)))=true:=by rw [decide_eq_true_eq];omega
theorem Xt (a b:List Int)(hab:a.length=b.length)(ha:a.length<=1000000000):∀ (r:List Int) (k:Nat),a.drop k=r->k<=a.length->Ev (fun n=>By n a b (k:Int)) (if a.drop k=b.drop k then .inl () else .inr false)
 | [],k,hr,hk=>by
  have he:=KK hr hk
  refine Ev.step (f:=fun n=>some (.inl ())) (fun n=>?_) ?_
  . rw [FM,show (decide ((k:Int)<(a.length:Int)))=false by rw [decide_eq_false_iff_not];omega];rfl
  . rw [if_pos (by rw [hr,List.drop_eq_nil_of_le (by omega)])];exact Ev.pure
 |x::r,k,hr,hk=>by
  obtain⟨h1,h2⟩:=G5 hr
  have hkb:k<b.length:=by omega
  have hb:b.drop k=b[k]::b.drop (k+1):=List.drop_eq_getElem_cons hkb
  have ih:=Xt a b hab ha r (k+1) h1 (by omega)
  refine Ev.step (f:=fun n=>bif (x != b[k]) then some (.inr false) else By n a b ((k+1:Nat):Int)) (fun n=>?_) ?_
  . rw [FM,PK h2,cond_true,Rk hr,Option.bind_some,Rk hb,Option.bind_some,P4 (by omega)]
  . by_cases hx:x=b[k]
    . subst hx
      simp only [bne_self_eq_false,cond_false]
      have e:(a.drop k=b.drop k)↔(a.drop (k+1)=b.drop (k+1)):=by
       rw [hr,hb,h1]
       exact⟨fun h=>(List.cons.inj h).2,fun h=>by rw [h]⟩
      by_cases h3:a.drop (k+1)=b.drop (k+1)
      . rw [if_pos (e.2 h3)];rw [if_pos h3] at ih;exact ih
      . rw [if_neg (fun h=>h3 (e.1 h))];rw [if_neg h3] at ih;exact ih
    . rw [if_neg (by rw [hr,hb];intro h;exact hx (List.cons.inj h).1)]
      simp only [show (x != b[k])=true by simpa using hx,cond_true]
      exact Ev.pure
theorem Xs (a b:List Int)(ha:a.length<=1000000000):Ev (fun n=>CP n a b) (decide (a=b)):=by
 unfold CP
 by_cases h:a.length=b.length
 . rw [show ((a.length:Int) != (b.length:Int))=false by simp [h]]
   simp only [cond_false]
   refine Ev.bind (Xt a b h ha _ 0 rfl (Nat.zero_le _)) ?_
   simp only [List.drop_zero]
   by_cases e:a=b
   . rw [if_pos e,decide_eq_true e];exact Ev.pure
   . rw [if_neg e,decide_eq_false e];exact Ev.pure
 . rw [show ((a.length:Int) != (b.length:Int))=true by simp;omega]
   rw [decide_eq_false (fun e=>h (by rw [e]))]
   exact Ev.pure
def AV (op:Int)(s:ByteArray)(ts:List Int)(l:List Ab)(kn fi:Bool):(Bool×Bool) ⊕ (Int×Ab×Av) :=
 match pick op s ts l with
 |some o=>.inr (o.kind,o,⟨0,0⟩)
 |none=>.inl (kn||known op s l,fi||Gr op s ts l)
theorem L8 (l:List Ab)(ns:List (ByteArray×Int))(e:Aa)(ts:List Int)(hl:l.length<=1000000)(ha:∀ o∈l,o.args.length<=1000) :
 ∀ (r:List Ab) (k:Nat) (kn fi:Bool),l.drop k=r->k<=l.length->Ev (fun n=>AJ n ⟨l,ns⟩ e ts kn fi (k:Int)) (AV e.Op e.S ts r kn fi)
 | [],k,kn,fi,hr,hk=>by
  have he:=KK hr hk
  refine Ev.step (f:=fun n=>some (.inl (kn,fi))) (fun n=>?_) ?_
  . rw [CW,show (decide ((k:Int)<(l.length:Int)))=false by rw [decide_eq_false_iff_not];omega];rfl
  . have:AV e.Op e.S ts [] kn fi=.inl (kn,fi):=by simp [AV,pick,known,Gr]
    rw [this];exact Ev.pure
 |o::r,k,kn,fi,hr,hk=>by
  obtain⟨h1,h2⟩:=G5 hr
  have hmem:o∈l:=List.mem_of_mem_drop (by rw [hr];simp)
  have hcond:((bif (o.op != e.Op) then some true else bif (o.op == 4) then some (!decide (o.name=e.S)) else some false):Option Bool)=some (!hit e.Op e.S o):=by
   unfold hit
   by_cases c1:o.op=e.Op
   . rw [show (o.op != e.Op)=false by simp [c1],show (o.op == e.Op)=true by simp [c1],cond_false,Bool.true_and]
     cases c2:(o.op == 4) with
     |true=>simp
     |false=>simp
   . rw [show (o.op != e.Op)=true by simp [c1],show (o.op == e.Op)=false by simp [c1],cond_true,Bool.false_and];rfl
  cases hh:hit e.Op e.S o with
  |false =>
   have ih:=L8 l ns e ts hl ha r (k+1) kn fi h1 (by omega)
   have es:AV e.Op e.S ts (o::r) kn fi=AV e.Op e.S ts r kn fi:=by simp [AV,pick,known,Gr,hh]
   rw [es]
   refine Ev.step (fun n=>?_) ih
   rw [CW,PK h2,cond_true,Rk hr,Option.bind_some,hcond,hh,Option.bind_some,Bool.not_false,cond_true,P4 (by omega)]
  |true =>
   have hfit:((bif fi then some true else some ((o.args.length:Int) == (ts.length:Int))):Option Bool)=some (fi||((o.args.length:Int) == (ts.length:Int))):=by cases fi<;>rfl
   refine Ev.step (f:=fun n=>(CP n o.args ts).bind fun e9=>bif e9 then some (.inr (o.kind,o,⟨0,0⟩)) else AJ n ⟨l,ns⟩ e ts true (fi||((o.args.length:Int) == (ts.length:Int))) ((k+1:Nat):Int)) (fun n=>?_) ?_
   . rw [CW,PK h2,cond_true,Rk hr,Option.bind_some,hcond,hh,Option.bind_some,Bool.not_true,cond_false,hfit,Option.bind_some,P4 (by omega)]
   . refine Ev.bind (Xs o.args ts (by have:=ha o hmem;omega)) ?_
     by_cases e1:o.args=ts
     . have es:AV e.Op e.S ts (o::r) kn fi=.inr (o.kind,o,⟨0,0⟩):=by simp [AV,pick,hh,e1]
       rw [decide_eq_true e1,es];exact Ev.pure
     . have ih:=L8 l ns e ts hl ha r (k+1) true (fi||((o.args.length:Int) == (ts.length:Int))) h1 (by omega)
       have es:AV e.Op e.S ts (o::r) kn fi=AV e.Op e.S ts r true (fi||((o.args.length:Int) == (ts.length:Int))):=by
        have hp:pick e.Op e.S ts (o::r)=pick e.Op e.S ts r:=by simp [pick,hh,e1]
        have hk2:known e.Op e.S (o::r)=true:=by simp [known,hh]
        have hf2:Gr e.Op e.S ts (o::r)=(((o.args.length:Int) == (ts.length:Int))||Gr e.Op e.S ts r):=by simp [Gr,hh]
        unfold AV
        rw [hp,hk2,hf2]
        cases pick e.Op e.S ts r with
        |some o'=>rfl
        |none=>simp only [Bool.or_true,Bool.true_or,Bool.or_assoc]
       rw [decide_eq_false e1,es]
       exact ih
end Go.Sp
namespace Go.Sp
open Go
def Rc (i:Nat):Int:=((Zo[i]?).map (·.1)).getD 0
theorem Tl {i:Nat}{o:Ab}(h:o∈FU i):o.op=Rc i:=by
 unfold FU at h
 unfold Rc
 split at h
 . rename_i op f e
   rw [e]
   unfold Iu at h
   split at h<;>simp at h
   . rcases h with rfl|rfl|rfl<;>rfl
   . rcases h with rfl|rfl<;>rfl
 . simp at h
theorem WO:∀ i,i<6->∀ j,j<6->Rc i=Rc j->i=j:=by decide
theorem MZ {l:List Nat}{op:Int}(h:∀ i∈l,Rc i≠op):(l.flatMap FU).filter (fun o=>o.op == op)=[]:=by
 rw [List.filter_eq_nil_iff]
 intro o ho
 obtain⟨i,hi,ho2⟩:=List.mem_flatMap.1 ho
 have:=h i hi
 rw [<- Tl ho2] at this
 simpa using this
theorem SS {os:List Nat}(h:Ord os)(op:Int):(os.flatMap FU).filter (fun o=>o.op == op)=match (List.range 6).find? (fun i=>Rc i == op) with|some i=>FU i|none=>[]:=by
 cases hf:(List.range 6).find? (fun i=>Rc i == op) with
 |none =>
  rw [List.find?_eq_none] at hf
  refine MZ fun i hi=>?_
  have:=hf i (List.mem_range.2 (h.2.1 i hi))
  simpa using this
 |some i =>
  have h1:=List.find?_some hf
  have h2:=List.mem_range.1 (List.mem_of_find?_eq_some hf)
  have h1:Rc i=op:=by simpa using h1
  obtain⟨l1,l2,rfl⟩:=List.append_of_mem (h.2.2 i h2)
  have hnd:=h.1
  rw [List.nodup_append] at hnd
  have hn1:i∉l1:=fun hm=>hnd.2.2 i hm i (by simp) rfl
  have hn2:i∉l2:=(List.nodup_cons.1 hnd.2.1).1
  have other:∀ j∈l1++i::l2,j≠i->Rc j≠op:=fun j hj hne e=>hne (WO j (h.2.1 j hj) i h2 (e.trans h1.symm))
  rw [List.flatMap_append,List.filter_append,List.flatMap_cons,List.filter_append]
  rw [MZ (fun j hj=>other j (by simp [hj]) (fun e=>hn1 (e ▸ hj))),MZ (fun j hj=>other j (by simp [hj]) (fun e=>hn2 (e ▸ hj)))]
  rw [List.nil_append,List.append_nil]
  refine List.filter_eq_self.2 fun o ho=>?_
  rw [Tl ho,h1];simp
def CO:List Ab:=opsOf [0,1,2,3,4,5]
theorem UF:Ord [0,1,2,3,4,5]:=by decide
theorem Ul {os:List Nat}(h:Ord os)(op:Int):(opsOf os).filter (fun o=>o.op == op)=CO.filter (fun o=>o.op == op):=by
 unfold CO opsOf
 rw [List.filter_append,List.filter_append,List.filter_append,List.filter_append,SS h,SS UF]
theorem Rj {op:Int}{s:ByteArray}{o:Ab}(h:hit op s o=true):(o.op == op)=true:=by
 unfold hit at h
 rw [Bool.and_eq_true] at h
 exact h.1
theorem UO (op:Int)(s:ByteArray)(o:Ab):((o.op == op)&&hit op s o)=hit op s o:=by
 cases h:hit op s o with
 |false=>simp
 |true=>simp [Rj h]
theorem Nv (op:Int)(s:ByteArray)(ts:List Int)(l:List Ab):pick op s ts (l.filter fun o=>o.op == op)=pick op s ts l:=by
 unfold pick
 rw [List.find?_filter]
 congr 1
 funext o
 cases h:hit op s o with
 |false=>simp
 |true=>simp [Rj h]
theorem Mv (op:Int)(s:ByteArray)(l:List Ab):known op s (l.filter fun o=>o.op == op)=known op s l:=by
 unfold known
 rw [List.any_filter]
 congr 1
 funext o
 exact UO op s o
theorem N9 (op:Int)(s:ByteArray)(ts:List Int)(l:List Ab):Gr op s ts (l.filter fun o=>o.op == op)=Gr op s ts l:=by
 unfold Gr
 rw [List.any_filter]
 congr 1
 funext o
 rw [<- Bool.and_assoc,UO]
theorem QQ {os:List Nat}(h:Ord os)(op:Int)(s:ByteArray)(ts:List Int)(kn fi:Bool):AV op s ts (opsOf os) kn fi=AV op s ts CO kn fi:=by
 unfold AV
 rw [<- Nv,<- Mv,<- N9,Ul h,Nv,Mv,N9]
theorem V6 {os:List Nat}(h:Ord os):(opsOf os).length<=1000000:=by
 unfold opsOf
 have:=Pb os
 have h6:=ndl 6 os h.1 h.2.1
 rw [List.length_append,List.length_append]
 have e1:Eu.length=17:=rfl
 have e2:No.length=8:=rfl
 omega
theorem TU {os:List Nat}:∀ o∈opsOf os,o.args.length<=1000:=by
 intro o ho
 unfold opsOf at ho
 rcases List.mem_append.1 ho with ho|ho
 . rcases List.mem_append.1 ho with ho|ho
   . have:Eu.all (fun o=>decide (o.args.length<=1000))=true:=by decide
     rw [List.all_eq_true] at this
     simpa using this o ho
   . obtain⟨i,_,h2⟩:=List.mem_flatMap.1 ho
     unfold FU at h2
     split at h2
     . unfold Iu at h2
       split at h2<;>simp at h2
       . rcases h2 with rfl|rfl|rfl<;>simp
       . rcases h2 with rfl|rfl<;>simp
     . simp at h2
 . have:No.all (fun o=>decide (o.args.length<=1000))=true:=by decide
   rw [List.all_eq_true] at this
   simpa using this o ho
mutual
def Cs:Aa->Bool
 |.mk _ _ _ kids _=>decide (kids.length<=1000000)&&F0 kids
def F0:List Aa->Bool
 | []=>true
 |e::l=>Cs e&&F0 l
end
mutual
def AN:Aa->Int×Ab×Av
 |.mk op n s kids p =>
  if op<1∨20<op∨(0<=arity op/\(kids.length:Int)≠arity op) then Ts p 1
  else match BB kids with
   |.inr o=>o
   |.inl ts =>
    if op=1 then (if n<0∨999999999999999<n then Ts p 1 else (1,Zp,⟨0,0⟩))
    else if op=2 then Ts p 7
    else if op=3 then (if (Bh B8 s).2=true then ((Bh B8 s).1,Zp,⟨0,0⟩) else Ts p 6)
    else match AV op s ts CO false false with
     |.inr o=>o
     |.inl (kn,fi)=>if op=4/\kn=false then Ts p 6 else if op=4/\fi=false then Ts p 1 else Ts p 7
def BB:List Aa->List Int ⊕ (Int×Ab×Av)
 | []=>.inl []
 |e::l =>
  if (AN e).2.2.E≠0 then .inr (0,Zp,(AN e).2.2)
  else match BB l with
   |.inl ts=>.inl ((AN e).1::ts)
   |.inr o=>.inr o
end
theorem UR {l ys:List Int}(h1:l.length<=1000000)(h2:ys.length<=1000000):D7 9 l ys=some (l++ys):=by
 unfold D7
 rw [if_pos (by omega)]
theorem SJ (s:AR)(e:Aa)(hk:e.Kids.length<=1000000)(hf:∀ x∈e.Kids,Ev (fun n=>A5 n s x) (AN x)) :
 ∀ (r:List Aa) (k:Nat) (ts:List Int),e.Kids.drop k=r->k<=e.Kids.length->ts.length=k->Ev (fun n=>Be n e s ts (k:Int)) (match BB r with|.inl us=>.inl (ts++us)|.inr o=>.inr o)
 | [],k,ts,hr,hkl,_=>by
  have he:=KK hr hkl
  refine Ev.step (f:=fun n=>some (.inl ts)) (fun n=>?_) ?_
  . rw [EO,show (decide ((k:Int)<(e.Kids.length:Int)))=false by rw [decide_eq_false_iff_not];omega];rfl
  . rw [BB];simp only [List.append_nil];exact Ev.pure
 |x::r,k,ts,hr,hkl,hts=>by
  obtain⟨h1,h2⟩:=G5 hr
  have hmem:x∈e.Kids:=List.mem_of_mem_drop (by rw [hr];simp)
  refine Ev.step (f:=fun n=>(A5 n s x).bind fun f7=>bif (f7.2.2.E != 0) then some (.inr (0,Zp,f7.2.2)) else Be n e s (ts++[f7.1]) ((k+1:Nat):Int)) (fun n=>?_) ?_
  . rw [EO,PK h2,cond_true,Rk hr,Option.bind_some]
    congr 1
    funext f7
    rw [Option.bind_some,UR (by omega) (by simp),Option.bind_some,P4 (by omega)]
    rfl
  . refine Ev.bind (hf x hmem) ?_
    rw [BB]
    by_cases c:(AN x).2.2.E=0
    . have ih:=SJ s e hk hf r (k+1) (ts++[(AN x).1]) h1 (by omega) (by simp [hts])
      simp only [show ((AN x).2.2.E != 0)=false by simpa using c,cond_false]
      rw [if_neg (by simpa using c)]
      cases ht:BB r with
      |inl us=>rw [ht] at ih;simpa [List.append_assoc] using ih
      |inr o=>rw [ht] at ih;exact ih
    . simp only [show ((AN x).2.2.E != 0)=true by simpa using c,cond_true]
      rw [if_pos c];exact Ev.pure
theorem VP (ops:List Ab)(os:List Nat)(ho:Ord os)(hops:ops=opsOf os)(e:Aa)(hk:e.Kids.length<=1000000)(hf:∀ x∈e.Kids,Ev (fun n=>A5 n ⟨ops,B8⟩ x) (AN x)) :
 Ev (fun n=>A5 n ⟨ops,B8⟩ e) (AN e):=by
 obtain⟨op,num,str,kids,at0⟩:=e
 simp only at hk hf
 have hkids:=SJ ⟨ops,B8⟩ ⟨op,num,str,kids,at0⟩ hk hf kids 0 [] rfl (Nat.zero_le _) rfl
 have hsearch:∀ ts,Ev (fun n=>AJ n ⟨ops,B8⟩ ⟨op,num,str,kids,at0⟩ ts false false 0) (AV op str ts CO false false):=fun ts=>by
  have:=L8 ops B8 ⟨op,num,str,kids,at0⟩ ts (by rw [hops];exact V6 ho) (by rw [hops];exact TU) ops 0 false false rfl (Nat.zero_le _)
  rw [hops,QQ ho] at this
  rw [hops];exact this
 refine Ev.step (fun n=>A5.eq_2 ⟨ops,B8⟩ ⟨op,num,str,kids,at0⟩ n) ?_
 simp only [Sw,Option.bind_some,AQ]
 rw [AN]
 have hc:((bif (decide (op<1)) then some true else bif (decide (20<op)) then some true else bif (decide (0<=arity op)) then some ((kids.length:Int) != arity op) else some false):Option Bool) =
  some (decide (op<1∨20<op∨(0<=arity op/\(kids.length:Int)≠arity op))):=by
  by_cases c1:op<1
  . simp [c1]
  by_cases c2:20<op
  . simp [c1,c2]
  by_cases c3:0<=arity op
  . by_cases c4:(kids.length:Int)=arity op
    . simp [c1,c2,c3,c4]
    . simp [c1,c2,c3,c4]
  . simp [c1,c2,c3]
 simp only [hc,Option.bind_some]
 by_cases c:op<1∨20<op∨(0<=arity op/\(kids.length:Int)≠arity op)
 . rw [if_pos c]
   simp only [decide_eq_true c,cond_true,Option.bind_some]
   exact Ev.pure
 . rw [if_neg c]
   simp only [decide_eq_false c,cond_false]
   refine Ev.bind hkids ?_
   cases ht:BB kids with
   |inr o=>exact Ev.pure
   |inl ts =>
    simp only [List.nil_append]
    by_cases h1:op=1
    . subst h1
      simp only [beq_self_eq_true,cond_true,if_true]
      by_cases n1:num<0
      . simp only [n1,decide_true,cond_true,Option.bind_some,true_or,if_true];exact Ev.pure
      . by_cases n2:999999999999999<num
        . simp only [n1,n2,decide_true,decide_false,cond_true,cond_false,Option.bind_some,or_true,if_true];exact Ev.pure
        . simp only [n1,n2,decide_false,cond_false,Option.bind_some,or_self,if_false];exact Ev.pure
    simp only [show (op == 1)=false by simpa using h1,cond_false,if_neg h1]
    by_cases h2:op=2
    . subst h2
      simp only [beq_self_eq_true,cond_true,if_true,Option.bind_some];exact Ev.pure
    simp only [show (op == 2)=false by simpa using h2,cond_false,if_neg h2]
    by_cases h3:op=3
    . subst h3
      simp only [beq_self_eq_true,cond_true,if_true]
      cases hg:(Bh B8 str).2 with
      |true=>simp only [cond_true,if_true];exact Ev.pure
      |false=>simp only [cond_false,Bool.false_eq_true,if_false,Option.bind_some];exact Ev.pure
    simp only [show (op == 3)=false by simpa using h3,cond_false,if_neg h3]
    refine Ev.bind (hsearch ts) ?_
    cases hs:AV op str ts CO false false with
    |inr o=>exact Ev.pure
    |inl y =>
     obtain⟨kn,fi⟩:=y
     simp only
     by_cases h4:op=4
     . subst h4
       simp only [beq_self_eq_true,cond_true,Option.bind_some,true_and]
       cases kn with
       |false=>simp only [Bool.not_false,cond_true,if_true,Option.bind_some];exact Ev.pure
       |true =>
        cases fi with
        |false=>simp only [Bool.not_true,Bool.not_false,cond_true,cond_false,if_true,Option.bind_some,Bool.true_eq_false,if_false];exact Ev.pure
        |true=>simp only [Bool.not_true,cond_false,Option.bind_some,Bool.true_eq_false,if_false];exact Ev.pure
     . simp only [show (op == 4)=false by simpa using h4,cond_false,Option.bind_some,h4,false_and,if_false];exact Ev.pure
mutual
theorem Ro {os:List Nat}(ho:Ord os):∀ (e:Aa),Cs e=true->Ev (fun n=>A5 n ⟨opsOf os,B8⟩ e) (AN e)
 |.mk op num str kids at0,h=>by
  rw [Cs,Bool.and_eq_true,decide_eq_true_eq] at h
  exact VP (opsOf os) os ho rfl _ h.1 (SV ho kids h.2)
theorem SV {os:List Nat}(ho:Ord os):∀ (l:List Aa),F0 l=true->∀ x∈l,Ev (fun n=>A5 n ⟨opsOf os,B8⟩ x) (AN x)
 | [],_,x,hx=>by simp at hx
 |e::l,h,x,hx=>by
  rw [F0,Bool.and_eq_true] at h
  rcases List.mem_cons.1 hx with hx|hx
  . rw [hx];exact Ro ho e h.1
  . exact SV ho l h.2 x hx
end
def Ip (e:Aa):Option (Int×Ab×Av):=if Cs e=true then some (AN e) else none
end Go.Sp
