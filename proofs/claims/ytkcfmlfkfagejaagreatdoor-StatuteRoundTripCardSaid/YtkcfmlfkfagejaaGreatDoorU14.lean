/-
  What find finds, in plain words, whatever order the table of operations is in. No program. The search ends alike in every order of the table; find, in plain words. No program.
-/
import Derived.Test.YtkcfmlfkfagejaaGreatDoorU12
import Derived.Test.YtkcfmlfkfagejaaGreatDoorU13
set_option linter.unusedVariables false
set_option linter.unusedSimpArgs false
namespace Go.Sp
open Go
def op0:Af:=⟨0,⟨#[]⟩,[],0,.nil⟩
abbrev Um (p x:Int):Int×Af×Am:=(0,op0,⟨p,x⟩)
def arity (op:Int):Int:=if op=1∨op=2∨op=3 then 0 else if op=5∨op=6 then 1 else if op=20 then 3 else if op=4 then -1 else 2
theorem Vk (op:Int):EC op=some (arity op):=by
 by_cases h1:op=1
 . subst h1;rfl
 by_cases h2:op=2
 . subst h2;rfl
 by_cases h3:op=3
 . subst h3;rfl
 by_cases h5:op=5
 . subst h5;rfl
 by_cases h6:op=6
 . subst h6;rfl
 by_cases h20:op=20
 . subst h20;rfl
 by_cases h4:op=4
 . subst h4;rfl
 unfold EC arity
 have b1:(op == 1)=false:=by simpa using h1
 have b2:(op == 2)=false:=by simpa using h2
 have b3:(op == 3)=false:=by simpa using h3
 have b4:(op == 4)=false:=by simpa using h4
 have b5:(op == 5)=false:=by simpa using h5
 have b6:(op == 6)=false:=by simpa using h6
 have b20:(op == 20)=false:=by simpa using h20
 simp only [b1,b2,b3,b4,b5,b6,b20,Ä,Á]
 simp [h1,h2,h3,h4,h5,h6,h20]
def hit (op:Int)(s:Â)(o:Af):Bool:=o.op == op&&(!(o.op == 4)||decide (o.name=s))
def pick (op:Int)(s:Â)(ts:List Int)(l:List Af):Option Af:=l.find? fun o=>hit op s o&&decide (o.args=ts)
def known (op:Int)(s:Â)(l:List Af):Bool:=l.any (hit op s)
def NU (op:Int)(s:Â)(ts:List Int)(l:List Af):Bool:=l.any fun o=>hit op s o&&((o.args.length:Int) == (ts.length:Int))
theorem OR {k:Nat}(h:k<4611686018427387904):À ((k:Int)+1)=((k+1:Nat):Int):=by
 rw [A2 (by omega) (by omega)];omega
theorem RM {α:Type}{l:List α}{k:Nat}{x:α}{r:List α}(h:l.drop k=x::r):gi l (k:Int)=some x:=by
 have h2:l[k]?=some x:=by
  have:=ü (·[0]?) h
  simpa [List.getElem?_drop] using this
 unfold gi
 rw [Ê (by omega)];exact h2
theorem He {α:Type}{l:List α}{k:Nat}{x:α}{r:List α}(h:l.drop k=x::r):l.drop (k+1)=r/\k<l.length:=by
 constructor
 . have:=ü (List.drop 1) h
   rw [List.drop_drop] at this
   rw [this];rfl
 . by_cases hk:k<l.length
   . exact hk
   . rw [Ċ (by omega)] at h;cases h
theorem LY {α:Type}{l:List α}{k:Nat}(h:l.drop k=[])(hk:k<=l.length):k=l.length:=by
 have:=ü List.length h
 rw [Ā,Î] at this
 omega
theorem RE {k n:Nat}(h:k<n):(decide ((k:Int)<(n:Int)))=true:=by rw [Í];omega
theorem Ab9 (a b:List Int)(hab:a.length=b.length)(ha:a.length<=1000000000):∀ (r:List Int) (k:Nat),a.drop k=r->k<=a.length->Ev (fun n=>BN n a b (k:Int)) (if a.drop k=b.drop k then .inl () else .inr false)
 | [],k,hr,hk=>by
  have he:=LY hr hk
  refine Ev.step (f:=fun n=>some (.inl ())) (fun n=>?_) ?_
  . rw [GA,show (decide ((k:Int)<(a.length:Int)))=false by rw [Ö];omega];rfl
  . rw [Ê (by rw [hr,Ċ (by omega)])];exact Ev.pure
 |x::r,k,hr,hk=>by
  obtain⟨h1,h2⟩:=He hr
  have hkb:k<b.length:=by omega
  have hb:b.drop k=b[k]::b.drop (k+1):=å hkb
  have ih:=Ab9 a b hab ha r (k+1) h1 (by omega)
  refine Ev.step (f:=fun n=>bif (x != b[k]) then some (.inr false) else BN n a b ((k+1:Nat):Int)) (fun n=>?_) ?_
  . rw [GA,RE h2,É,RM hr,Á,RM hb,Á,OR (by omega)]
  . by_cases hx:x=b[k]
    . subst hx
      simp only [ê,Ä]
      have e:(a.drop k=b.drop k)↔(a.drop (k+1)=b.drop (k+1)):=by
       rw [hr,hb,h1]
       exact⟨fun h=>(İ h).2,fun h=>by rw [h]⟩
      by_cases h3:a.drop (k+1)=b.drop (k+1)
      . rw [Ê (e.2 h3)];rw [Ê h3] at ih;exact ih
      . rw [È (fun h=>h3 (e.1 h))];rw [È h3] at ih;exact ih
    . rw [È (by rw [hr,hb];intro h;exact hx (İ h).1)]
      simp only [show (x != b[k])=true by simpa using hx,É]
      exact Ev.pure
theorem Ab8 (a b:List Int)(ha:a.length<=1000000000):Ev (fun n=>Dx n a b) (decide (a=b)):=by
 unfold Dx
 by_cases h:a.length=b.length
 . rw [show ((a.length:Int) != (b.length:Int))=false by simp [h]]
   simp only [Ä]
   refine Ev.bind (Ab9 a b h ha _ 0 rfl (ú _)) ?_
   simp only [Ą]
   by_cases e:a=b
   . rw [Ê e,Ð e];exact Ev.pure
   . rw [È e,Ñ e];exact Ev.pure
 . rw [show ((a.length:Int) != (b.length:Int))=true by simp;omega]
   rw [Ñ (fun e=>h (by rw [e]))]
   exact Ev.pure
def C4 (op:Int)(s:Â)(ts:List Int)(l:List Af)(kn fi:Bool):(Bool×Bool) ⊕ (Int×Af×Am) :=
 match pick op s ts l with
 |some o=>.inr (o.kind,o,⟨0,0⟩)
 |none=>.inl (kn||known op s l,fi||NU op s ts l)
theorem Na (l:List Af)(ns:List (ByteArray×Int))(e:Aa)(ts:List Int)(hl:l.length<=1000000)(ha:∀ o∈l,o.args.length<=1000) :
 ∀ (r:List Af) (k:Nat) (kn fi:Bool),l.drop k=r->k<=l.length->Ev (fun n=>AP n ⟨l,ns⟩ e ts kn fi (k:Int)) (C4 e.Op e.S ts r kn fi)
 | [],k,kn,fi,hr,hk=>by
  have he:=LY hr hk
  refine Ev.step (f:=fun n=>some (.inl (kn,fi))) (fun n=>?_) ?_
  . rw [D5,show (decide ((k:Int)<(l.length:Int)))=false by rw [Ö];omega];rfl
  . have:C4 e.Op e.S ts [] kn fi=.inl (kn,fi):=by simp [C4,pick,known,NU]
    rw [this];exact Ev.pure
 |o::r,k,kn,fi,hr,hk=>by
  obtain⟨h1,h2⟩:=He hr
  have hmem:o∈l:=ā (by rw [hr];simp)
  have hcond:((bif (o.op != e.Op) then some true else bif (o.op == 4) then some (!decide (o.name=e.S)) else some false):Option Bool)=some (!hit e.Op e.S o):=by
   unfold hit
   by_cases c1:o.op=e.Op
   . rw [show (o.op != e.Op)=false by simp [c1],show (o.op == e.Op)=true by simp [c1],Ä,ė]
     cases c2:(o.op == 4) with
     |true=>simp
     |false=>simp
   . rw [show (o.op != e.Op)=true by simp [c1],show (o.op == e.Op)=false by simp [c1],É,Bool.false_and];rfl
  cases hh:hit e.Op e.S o with
  |false =>
   have ih:=Na l ns e ts hl ha r (k+1) kn fi h1 (by omega)
   have es:C4 e.Op e.S ts (o::r) kn fi=C4 e.Op e.S ts r kn fi:=by simp [C4,pick,known,NU,hh]
   rw [es]
   refine Ev.step (fun n=>?_) ih
   rw [D5,RE h2,É,RM hr,Á,hcond,hh,Á,é,É,OR (by omega)]
  |true =>
   have hfit:((bif fi then some true else some ((o.args.length:Int) == (ts.length:Int))):Option Bool)=some (fi||((o.args.length:Int) == (ts.length:Int))):=by cases fi<;>rfl
   refine Ev.step (f:=fun n=>(Dx n o.args ts).bind fun e9=>bif e9 then some (.inr (o.kind,o,⟨0,0⟩)) else AP n ⟨l,ns⟩ e ts true (fi||((o.args.length:Int) == (ts.length:Int))) ((k+1:Nat):Int)) (fun n=>?_) ?_
   . rw [D5,RE h2,É,RM hr,Á,hcond,hh,Á,à,Ä,hfit,Á,OR (by omega)]
   . refine Ev.bind (Ab8 o.args ts (by have:=ha o hmem;omega)) ?_
     by_cases e1:o.args=ts
     . have es:C4 e.Op e.S ts (o::r) kn fi=.inr (o.kind,o,⟨0,0⟩):=by simp [C4,pick,hh,e1]
       rw [Ð e1,es];exact Ev.pure
     . have ih:=Na l ns e ts hl ha r (k+1) true (fi||((o.args.length:Int) == (ts.length:Int))) h1 (by omega)
       have es:C4 e.Op e.S ts (o::r) kn fi=C4 e.Op e.S ts r true (fi||((o.args.length:Int) == (ts.length:Int))):=by
        have hp:pick e.Op e.S ts (o::r)=pick e.Op e.S ts r:=by simp [pick,hh,e1]
        have hk2:known e.Op e.S (o::r)=true:=by simp [known,hh]
        have hf2:NU e.Op e.S ts (o::r)=(((o.args.length:Int) == (ts.length:Int))||NU e.Op e.S ts r):=by simp [NU,hh]
        unfold C4
        rw [hp,hk2,hf2]
        cases pick e.Op e.S ts r with
        |some o'=>rfl
        |none=>simp only [ċ,Bool.true_or,ą]
       rw [Ñ e1,es]
       exact ih
end Go.Sp
namespace Go.Sp
open Go
def T6 (i:Nat):Int:=((opk[i]?).map (·.1)).getD 0
theorem Wg {i:Nat}{o:Af}(h:o∈Hm i):o.op=T6 i:=by
 unfold Hm at h
 unfold T6
 split at h
 . rename_i op f e
   rw [e]
   unfold J4 at h
   split at h<;>simp at h
   . rcases h with rfl|rfl|rfl<;>rfl
   . rcases h with rfl|rfl<;>rfl
 . simp at h
theorem Aaq:∀ i,i<6->∀ j,j<6->T6 i=T6 j->i=j:=by decide
theorem OD {l:List Nat}{op:Int}(h:∀ i∈l,T6 i≠op):(l.flatMap Hm).filter (fun o=>o.op == op)=[]:=by
 rw [List.filter_eq_nil_iff]
 intro o ho
 obtain⟨i,hi,ho2⟩:=List.mem_flatMap.1 ho
 have:=h i hi
 rw [<- Wg ho2] at this
 simpa using this
theorem VK {os:List Nat}(h:Ord os)(op:Int):(os.flatMap Hm).filter (fun o=>o.op == op)=match (List.range 6).find? (fun i=>T6 i == op) with|some i=>Hm i|none=>[]:=by
 cases hf:(List.range 6).find? (fun i=>T6 i == op) with
 |none =>
  rw [List.find?_eq_none] at hf
  refine OD fun i hi=>?_
  have:=hf i (List.mem_range.2 (h.2.1 i hi))
  simpa using this
 |some i =>
  have h1:=List.find?_some hf
  have h2:=List.mem_range.1 (List.mem_of_find?_eq_some hf)
  have h1:T6 i=op:=by simpa using h1
  obtain⟨l1,l2,rfl⟩:=List.append_of_mem (h.2.2 i h2)
  have hnd:=h.1
  rw [Ģ] at hnd
  have hn1:i∉l1:=fun hm=>hnd.2.2 i hm i (by simp) rfl
  have hn2:i∉l2:=(List.nodup_cons.1 hnd.2.1).1
  have other:∀ j∈l1++i::l2,j≠i->T6 j≠op:=fun j hj hne e=>hne (Aaq j (h.2.1 j hj) i h2 (e.trans h1.symm))
  rw [List.flatMap_append,Ĭ,ę,Ĭ]
  rw [OD (fun j hj=>other j (by simp [hj]) (fun e=>hn1 (e ▸ hj))),OD (fun j hj=>other j (by simp [hj]) (fun e=>hn2 (e ▸ hj)))]
  rw [ö,ç]
  refine List.filter_eq_self.2 fun o ho=>?_
  rw [Wg ho,h1];simp
def Gg:List Af:=opsOf [0,1,2,3,4,5]
theorem Ads:Ord [0,1,2,3,4,5]:=by decide
theorem Xj {os:List Nat}(h:Ord os)(op:Int):(opsOf os).filter (fun o=>o.op == op)=Gg.filter (fun o=>o.op == op):=by
 unfold Gg opsOf
 rw [Ĭ,Ĭ,Ĭ,Ĭ,VK h,VK Ads]
theorem Abe {op:Int}{s:Â}{o:Af}(h:hit op s o=true):(o.op == op)=true:=by
 unfold hit at h
 rw [Ã] at h
 exact h.1
theorem Yf (op:Int)(s:Â)(o:Af):((o.op == op)&&hit op s o)=hit op s o:=by
 cases h:hit op s o with
 |false=>simp
 |true=>simp [Abe h]
theorem Pe (op:Int)(s:Â)(ts:List Int)(l:List Af):pick op s ts (l.filter fun o=>o.op == op)=pick op s ts l:=by
 unfold pick
 rw [List.find?_filter]
 congr 1
 funext o
 cases h:hit op s o with
 |false=>simp
 |true=>simp [Abe h]
theorem NO (op:Int)(s:Â)(l:List Af):known op s (l.filter fun o=>o.op == op)=known op s l:=by
 unfold known
 rw [List.any_filter]
 congr 1
 funext o
 exact Yf op s o
theorem Pu (op:Int)(s:Â)(ts:List Int)(l:List Af):NU op s ts (l.filter fun o=>o.op == op)=NU op s ts l:=by
 unfold NU
 rw [List.any_filter]
 congr 1
 funext o
 rw [<- Bool.and_assoc,Yf]
theorem Tq {os:List Nat}(h:Ord os)(op:Int)(s:Â)(ts:List Int)(kn fi:Bool):C4 op s ts (opsOf os) kn fi=C4 op s ts Gg kn fi:=by
 unfold C4
 rw [<- Pe,<- NO,<- Pu,Xj h,Pe,NO,Pu]
theorem YP {os:List Nat}(h:Ord os):(opsOf os).length<=1000000:=by
 unfold opsOf
 have:=Rb os
 have h6:=ndl 6 os h.1 h.2.1
 rw [Ç,Ç]
 have e1:FT.length=17:=rfl
 have e2:OY.length=8:=rfl
 omega
theorem WH {os:List Nat}:∀ o∈opsOf os,o.args.length<=1000:=by
 intro o ho
 unfold opsOf at ho
 rcases List.mem_append.1 ho with ho|ho
 . rcases List.mem_append.1 ho with ho|ho
   . have:FT.all (fun o=>decide (o.args.length<=1000))=true:=by decide
     rw [Ü] at this
     simpa using this o ho
   . obtain⟨i,_,h2⟩:=List.mem_flatMap.1 ho
     unfold Hm at h2
     split at h2
     . unfold J4 at h2
       split at h2<;>simp at h2
       . rcases h2 with rfl|rfl|rfl<;>simp
       . rcases h2 with rfl|rfl<;>simp
     . simp at h2
 . have:OY.all (fun o=>decide (o.args.length<=1000))=true:=by decide
   rw [Ü] at this
   simpa using this o ho
mutual
def Da:Aa->Bool
 |.mk _ _ _ kids _=>decide (kids.length<=1000000)&&GQ kids
def GQ:List Aa->Bool
 | []=>true
 |e::l=>Da e&&GQ l
end
mutual
def Bw:Aa->Int×Af×Am
 |.mk op n s kids p =>
  if op<1∨20<op∨(0<=arity op/\(kids.length:Int)≠arity op) then Um p 1
  else match CA kids with
   |.inr o=>o
   |.inl ts =>
    if op=1 then (if n<0∨999999999999999<n then Um p 1 else (1,op0,⟨0,0⟩))
    else if op=2 then Um p 7
    else if op=3 then (if (C5 CC s).2=true then ((C5 CC s).1,op0,⟨0,0⟩) else Um p 6)
    else match C4 op s ts Gg false false with
     |.inr o=>o
     |.inl (kn,fi)=>if op=4/\kn=false then Um p 6 else if op=4/\fi=false then Um p 1 else Um p 7
def CA:List Aa->List Int ⊕ (Int×Af×Am)
 | []=>.inl []
 |e::l =>
  if (Bw e).2.2.E≠0 then .inr (0,op0,(Bw e).2.2)
  else match CA l with
   |.inl ts=>.inl ((Bw e).1::ts)
   |.inr o=>.inr o
end
theorem Afo {l ys:List Int}(h1:l.length<=1000000)(h2:ys.length<=1000000):B4 9 l ys=some (l++ys):=by
 unfold B4
 rw [Ê (by omega)]
theorem V7 (s:Ba)(e:Aa)(hk:e.Kids.length<=1000000)(hf:∀ x∈e.Kids,Ev (fun n=>A8 n s x) (Bw x)) :
 ∀ (r:List Aa) (k:Nat) (ts:List Int),e.Kids.drop k=r->k<=e.Kids.length->ts.length=k->Ev (fun n=>Bq n e s ts (k:Int)) (match CA r with|.inl us=>.inl (ts++us)|.inr o=>.inr o)
 | [],k,ts,hr,hkl,_=>by
  have he:=LY hr hkl
  refine Ev.step (f:=fun n=>some (.inl ts)) (fun n=>?_) ?_
  . rw [F2,show (decide ((k:Int)<(e.Kids.length:Int)))=false by rw [Ö];omega];rfl
  . rw [CA];simp only [ç];exact Ev.pure
 |x::r,k,ts,hr,hkl,hts=>by
  obtain⟨h1,h2⟩:=He hr
  have hmem:x∈e.Kids:=ā (by rw [hr];simp)
  refine Ev.step (f:=fun n=>(A8 n s x).bind fun f7=>bif (f7.2.2.E != 0) then some (.inr (0,op0,f7.2.2)) else Bq n e s (ts++[f7.1]) ((k+1:Nat):Int)) (fun n=>?_) ?_
  . rw [F2,RE h2,É,RM hr,Á]
    congr 1
    funext f7
    rw [Á,Afo (by omega) (by simp),Á,OR (by omega)]
    rfl
  . refine Ev.bind (hf x hmem) ?_
    rw [CA]
    by_cases c:(Bw x).2.2.E=0
    . have ih:=V7 s e hk hf r (k+1) (ts++[(Bw x).1]) h1 (by omega) (by simp [hts])
      simp only [show ((Bw x).2.2.E != 0)=false by simpa using c,Ä]
      rw [È (by simpa using c)]
      cases ht:CA r with
      |inl us=>rw [ht] at ih;simpa [Ý] using ih
      |inr o=>rw [ht] at ih;exact ih
    . simp only [show ((Bw x).2.2.E != 0)=true by simpa using c,É]
      rw [Ê c];exact Ev.pure
theorem Zg (ops:List Af)(os:List Nat)(ho:Ord os)(hops:ops=opsOf os)(e:Aa)(hk:e.Kids.length<=1000000)(hf:∀ x∈e.Kids,Ev (fun n=>A8 n ⟨ops,CC⟩ x) (Bw x)) :
 Ev (fun n=>A8 n ⟨ops,CC⟩ e) (Bw e):=by
 obtain⟨op,num,str,kids,at0⟩:=e
 simp only at hk hf
 have hkids:=V7 ⟨ops,CC⟩ ⟨op,num,str,kids,at0⟩ hk hf kids 0 [] rfl (ú _) rfl
 have hsearch:∀ ts,Ev (fun n=>AP n ⟨ops,CC⟩ ⟨op,num,str,kids,at0⟩ ts false false 0) (C4 op str ts Gg false false):=fun ts=>by
  have:=Na ops CC ⟨op,num,str,kids,at0⟩ ts (by rw [hops];exact YP ho) (by rw [hops];exact WH) ops 0 false false rfl (ú _)
  rw [hops,Tq ho] at this
  rw [hops];exact this
 refine Ev.step (fun n=>A8.eq_2 ⟨ops,CC⟩ ⟨op,num,str,kids,at0⟩ n) ?_
 simp only [Vk,Á,AY]
 rw [Bw]
 have hc:((bif (decide (op<1)) then some true else bif (decide (20<op)) then some true else bif (decide (0<=arity op)) then some ((kids.length:Int) != arity op) else some false):Option Bool) =
  some (decide (op<1∨20<op∨(0<=arity op/\(kids.length:Int)≠arity op))):=by
  by_cases c1:op<1
  . simp [c1]
  by_cases c2:20<op
  . simp [c1,c2]
  by_cases c3:0<=arity op
  . by_cases c4:(kids.length:Int)=arity op
    . simp [c1,c2,c3,c4]
    . simp [c1,c2,c3,c4]
  . simp [c1,c2,c3]
 simp only [hc,Á]
 by_cases c:op<1∨20<op∨(0<=arity op/\(kids.length:Int)≠arity op)
 . rw [Ê c]
   simp only [Ð c,É,Á]
   exact Ev.pure
 . rw [È c]
   simp only [Ñ c,Ä]
   refine Ev.bind hkids ?_
   cases ht:CA kids with
   |inr o=>exact Ev.pure
   |inl ts =>
    simp only [ö]
    by_cases h1:op=1
    . subst h1
      simp only [è,É,ë]
      by_cases n1:num<0
      . simp only [n1,ø,É,Á,true_or,ë];exact Ev.pure
      . by_cases n2:999999999999999<num
        . simp only [n1,n2,ø,decide_false,É,Ä,Á,or_true,ë];exact Ev.pure
        . simp only [n1,n2,decide_false,Ä,Á,or_self,í];exact Ev.pure
    simp only [show (op == 1)=false by simpa using h1,Ä,È h1]
    by_cases h2:op=2
    . subst h2
      simp only [è,É,ë,Á];exact Ev.pure
    simp only [show (op == 2)=false by simpa using h2,Ä,È h2]
    by_cases h3:op=3
    . subst h3
      simp only [è,É,ë]
      cases hg:(C5 CC str).2 with
      |true=>simp only [É,ë];exact Ev.pure
      |false=>simp only [Ä,ß,í,Á];exact Ev.pure
    simp only [show (op == 3)=false by simpa using h3,Ä,È h3]
    refine Ev.bind (hsearch ts) ?_
    cases hs:C4 op str ts Gg false false with
    |inr o=>exact Ev.pure
    |inl y =>
     obtain⟨kn,fi⟩:=y
     simp only
     by_cases h4:op=4
     . subst h4
       simp only [è,É,Á,ÿ]
       cases kn with
       |false=>simp only [é,É,ë,Á];exact Ev.pure
       |true =>
        cases fi with
        |false=>simp only [à,é,É,Ä,ë,Á,Bool.true_eq_false,í];exact Ev.pure
        |true=>simp only [à,Ä,Á,Bool.true_eq_false,í];exact Ev.pure
     . simp only [show (op == 4)=false by simpa using h4,Ä,Á,h4,false_and,í];exact Ev.pure
mutual
theorem TM {os:List Nat}(ho:Ord os):∀ (e:Aa),Da e=true->Ev (fun n=>A8 n ⟨opsOf os,CC⟩ e) (Bw e)
 |.mk op num str kids at0,h=>by
  rw [Da,Ã,Í] at h
  exact Zg (opsOf os) os ho rfl _ h.1 (VP ho kids h.2)
theorem VP {os:List Nat}(ho:Ord os):∀ (l:List Aa),GQ l=true->∀ x∈l,Ev (fun n=>A8 n ⟨opsOf os,CC⟩ x) (Bw x)
 | [],_,x,hx=>by simp at hx
 |e::l,h,x,hx=>by
  rw [GQ,Ã] at h
  rcases List.mem_cons.1 hx with hx|hx
  . rw [hx];exact TM ho e h.1
  . exact VP ho l h.2 x hx
end
def Ha (e:Aa):Option (Int×Af×Am):=if Da e=true then some (Bw e) else none
end Go.Sp
