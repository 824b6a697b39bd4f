/-
  The closed facts of the row of StatuteValuesAsSpecified. The specification's types are those that find finds. No program.
-/
import Derived.JoinedOf
import Derived.Test.YtkcfmlfkfagejaaGreatDoorU5
import Derived.Test.YtkcfmlfkfagejaaGreatDoorU16
set_option linter.unusedVariables false
set_option linter.unusedSimpArgs false
namespace Go.Proofs.YtkcfmlfkfagejaaGreatDoor
open Go.ChangeShapes Go.WideShapes Go.ChangeAt Go.RowKit
set_option maxRecDepth 100000
theorem FJ {a b:Bool}(h:a=true)(k:b=true):(a&&b)=true:=by rw [h,k];rfl
theorem Abn:(Rows.statuteValuesAsSpecifiedRow.wf (OpenSpec.ofChange Rows.statuteValuesAsSpecifiedSpec))=true:=by kernel_rfl
theorem Abm:(laidOutB Tryz.prog)=true:=by kernel_rfl
theorem Abl:(mapsRowed Tryz.prog)=true:=by kernel_rfl
theorem Abk:(Tryz.f3.params.all (Tryz.prog.readableRec ·))=true:=by kernel_rfl
theorem Abj:(namedTie Tryz.prog Rows.statuteValuesAsSpecifiedRow.named Rows.statuteValuesAsSpecifiedSpec.vars)=true:=by kernel_rfl
theorem Abi:((Rows.statuteValuesAsSpecifiedRow.stops == []))=true:=by kernel_rfl
theorem Abh:((Tryz.prog.stops == []))=true:=by kernel_rfl
theorem Abg:((Rows.statuteValuesAsSpecifiedRow.knobs == []))=true:=by kernel_rfl
theorem Abf:((Tryz.prog.stopKnobs == []))=true:=by kernel_rfl
theorem Abe:((Rows.statuteValuesAsSpecifiedRow.inPlace == Tryz.prog.inPlace 3))=true:=by kernel_rfl
theorem ZH:((Rows.statuteValuesAsSpecifiedRow.unfollowed == Tryz.prog.unfollowed 3))=true:=by kernel_rfl
theorem ZG:((Rows.statuteValuesAsSpecifiedRow.recurses == Tryz.prog.recurses 3))=true:=by kernel_rfl
theorem ZF:((Rows.statuteValuesAsSpecifiedRow.named == Tryz.prog.varsNamed 3))=true:=by kernel_rfl
theorem ZE:((Rows.statuteValuesAsSpecifiedRow.maps == (Tryz.f3.params.toList++Rows.statuteValuesAsSpecifiedSpec.plain.varTypes Tryz.prog).any (Tryz.prog.mapsRec ·)))=true:=by kernel_rfl
theorem ZD:((Rows.statuteValuesAsSpecifiedRow.ifaces == (Tryz.f3.params.toList++Rows.statuteValuesAsSpecifiedSpec.plain.varTypes Tryz.prog).any (Tryz.prog.ifacesRec ·)))=true:=by kernel_rfl
theorem ZC:((Rows.statuteValuesAsSpecifiedRow.mapsOut == Tryz.prog.mapsAmong Tryz.f3.resultTypes.toList))=true:=by kernel_rfl
theorem ZB:((Rows.statuteValuesAsSpecifiedRow.loops == (Tryz.f3.params.toList++Rows.statuteValuesAsSpecifiedSpec.plain.varTypes Tryz.prog).any (Tryz.prog.loopsFrom ·)))=true:=by kernel_rfl
theorem ZA:((Rows.statuteValuesAsSpecifiedRow.wideKeys == (Tryz.f3.params.toList++Rows.statuteValuesAsSpecifiedSpec.plain.varTypes Tryz.prog++Tryz.f3.resultTypes.toList).any (Tryz.prog.wideKeysFrom ·)))=true:=by kernel_rfl
theorem Z9:(Rows.statuteValuesAsSpecifiedSpec.vars.all (Tryz.prog.varReadable ·))=true:=by kernel_rfl
theorem Z8:(Tryz.f3.resultTypes.all (fun t=>Tryz.prog.readableRec t&&decide (t<Tryz.prog.types.size)))=true:=by kernel_rfl
theorem Z7:((Rows.statuteValuesAsSpecifiedRow.ifacesOut == Tryz.f3.resultTypes.toList.any (Tryz.prog.ifacesRec ·)))=true:=by kernel_rfl
theorem Z6:((Rows.statuteValuesAsSpecifiedRow.loopsOut == Tryz.f3.resultTypes.toList.any (Tryz.prog.loopsFrom ·)))=true:=by kernel_rfl
theorem Z5:((Rows.statuteValuesAsSpecifiedRow.plainKeys == Tryz.prog.plainKeys))=true:=by kernel_rfl
theorem Z4:(Rows.statuteValuesAsSpecifiedRow.shortTexts.isNone)=true:=by kernel_rfl
theorem Z3:(Tryz.prog.stopsHeard)=true:=by kernel_rfl
theorem Z2:(Tryz.prog.mayEnter)=true:=by kernel_rfl
theorem Z1:((Rows.statuteValuesAsSpecifiedRow.lifted == Tryz.prog.liftsFinal))=true:=by kernel_rfl
theorem Z0:((Tryz.prog.make == some Rows.statuteValuesAsSpecifiedRow.make))=true:=by kernel_rfl
theorem Zz:((Rows.statuteValuesAsSpecifiedRow.kinds == (if Rows.statuteValuesAsSpecifiedRow.domain.isEmpty then [] else Tryz.f3.params.toList.map fun t=>match Tryz.prog.underlying t with|some (.int k)=>some k|_=>none)))=true:=by kernel_rfl
theorem Zy:((Rows.statuteValuesAsSpecifiedRow.pinned == Rows.statuteValuesAsSpecifiedRow.pinnedBy))=true:=by kernel_rfl
theorem Zx:((Rows.statuteValuesAsSpecifiedRow.veiled == (Tryz.f3.params.toList++Rows.statuteValuesAsSpecifiedSpec.plain.varTypes Tryz.prog++Tryz.f3.resultTypes.toList).any (Tryz.prog.veiledRec ·)))=true:=by kernel_rfl
theorem Zw:(Rows.statuteValuesAsSpecifiedRow.veiledFits Tryz.prog Tryz.f3.params.toList (Tryz.f3.params.toList++Rows.statuteValuesAsSpecifiedSpec.plain.varTypes Tryz.prog++Tryz.f3.resultTypes.toList))=true:=by kernel_rfl
theorem jf3:joinedFacts Tryz.prog 3 Tryz.f3 Rows.statuteValuesAsSpecifiedSpec Rows.statuteValuesAsSpecifiedRow=true:=(FJ (FJ (FJ (FJ (FJ (FJ (FJ (FJ (FJ (FJ (FJ (FJ (FJ (FJ (FJ (FJ (FJ (FJ (FJ (FJ (FJ (FJ (FJ (FJ (FJ (FJ (FJ (FJ (FJ (FJ (FJ Abn Abm) Abl) Abk) Abj) Abi) Abh) Abg) Abf) Abe) ZH) ZG) ZF) ZE) ZD) ZC) ZB) ZA) Z9) Z8) Z7) Z6) Z5) Z4) Z3) Z2) Z1) Z0) Zz) Zy) Zx) Zw)
end Go.Proofs.YtkcfmlfkfagejaaGreatDoor
namespace Go.Sp
open Go
set_option maxRecDepth 100000
def IM (t:Int):Prop:=1<=t/\t<=4
theorem K1 (op:Int)(h:1<=op):C8 op=some (arity op):=by
 unfold C8 arity
 rw [decide_eq_true h,cond_true]
 by_cases h1:op=1
 . subst h1;rfl
 by_cases h2:op=2
 . subst h2;rfl
 by_cases h3:op=3
 . subst h3;rfl
 rw [decide_eq_false (show ¬ op<=3 by omega)]
 by_cases h4:op=4
 . subst h4;rfl
 by_cases h5:op=5
 . subst h5;rfl
 by_cases h6:op=6
 . subst h6;rfl
 by_cases h20:op=20
 . subst h20;rfl
 have b4:(op == 4)=false:=by simpa using h4
 have b5:(op == 5)=false:=by simpa using h5
 have b6:(op == 6)=false:=by simpa using h6
 have b20:(op == 20)=false:=by simpa using h20
 simp only [b4,b5,b6,b20,cond_false,Option.bind_some]
 simp [h1,h2,h3,h4,h5,h6,h20]
theorem MR (op:Int):∃ v,C8 op=some v:=by
 by_cases h:1<=op
 . exact⟨_,K1 op h⟩
 . unfold C8
   rw [decide_eq_false h,cond_false,Option.bind_some,cond_false]
   cases (op == 4)<;>cases (op == 5)<;>cases (op == 6)<;>cases (op == 20)<;>exact⟨_,rfl⟩
def X1:List (List Int):=[[1],[2],[3],[4]]
def Aae:List (List Int):=X1.flatMap fun a=>X1.map fun b=>a++b
def Ab6:List (List Int):=X1.flatMap fun a=>Aae.map fun b=>a++b
def YV (n:Int):List (List Int):=if n=1 then X1 else if n=3 then Ab6 else Aae
theorem Ym {t:Int}(h:IM t):[t]∈X1:=by
 unfold IM at h
 have:t=1∨t=2∨t=3∨t=4:=by omega
 rcases this with rfl|rfl|rfl|rfl<;>decide
theorem Aba {t u:Int}(h:IM t)(k:IM u):[t,u]∈Aae:=List.mem_flatMap.2 ⟨[t],Ym h,List.mem_map.2 ⟨[u],Ym k,rfl⟩⟩
theorem Acf {t u v:Int}(h:IM t)(k:IM u)(l:IM v):[t,u,v]∈Ab6:=List.mem_flatMap.2 ⟨[t],Ym h,List.mem_map.2 ⟨[u,v],Aba k l,rfl⟩⟩
theorem VB {op:Int}(h4:5<=op){ts:List Int}(hl:(ts.length:Int)=arity op)(ht:∀ t∈ts,IM t):ts∈YV (arity op):=by
 have ha:arity op=1∨arity op=3∨arity op=2:=by
  unfold arity
  rw [if_neg (by omega)]
  split
  . exact .inl rfl
  . split
    . exact .inr (.inl rfl)
    . rw [if_neg (by omega)];exact .inr (.inr rfl)
 rcases ha with ha|ha|ha<;>rw [ha] at hl ⊢
 . match ts,hl with
   | [a],_=>exact Ym (ht a (by simp))
 . match ts,hl with
   | [a,b,c],_=>exact Acf (ht a (by simp)) (ht b (by simp)) (ht c (by simp))
 . match ts,hl with
   | [a,b],_=>exact Aba (ht a (by simp)) (ht b (by simp))
def Rg (o:Option Ab):Int:=match o with|some o=>o.kind|none=>0
def Xx:Bool:=(List.range 16).all fun i=>(YV (arity ((i:Int)+5))).all fun ts=>Fu ((i:Int)+5) ts == some (Rg (pick ((i:Int)+5) ⟨#[]⟩ ts CO))
theorem Wj:Xx=true:=by kernel_rfl
theorem Yt {op:Int}(h:op≠4)(s s':ByteArray):hit op s=hit op s':=by
 funext o
 unfold hit
 by_cases c:o.op=op
 . rw [show (o.op == 4)=false by simpa [c] using h];rfl
 . rw [show (o.op == op)=false by simpa using c];rfl
theorem WI {op:Int}(h:op≠4)(s s':ByteArray)(ts:List Int)(l:List Ab):pick op s ts l=pick op s' ts l:=by
 unfold pick
 rw [Yt h s s']
theorem Vx {op:Int}(h1:5<=op)(h2:op<=20)(s:ByteArray){ts:List Int}(hl:(ts.length:Int)=arity op)(ht:∀ t∈ts,IM t):Fu op ts=some (Rg (pick op s ts CO)):=by
 have h:=Wj
 unfold Xx at h
 rw [List.all_eq_true] at h
 have h3:=h (op-5).toNat (List.mem_range.2 (by omega))
 rw [show (((op-5).toNat:Nat):Int)+5=op by omega] at h3
 rw [List.all_eq_true] at h3
 have h4:=h3 ts (VB h1 hl ht)
 rw [WI (by omega) s ⟨#[]⟩]
 simpa using h4
def nm9:List ByteArray:=[⟨#[100,97,121]⟩,⟨#[112,101,114,115,111,110]⟩,⟨#[98,111,114,110]⟩,⟨#[100,105,101,100]⟩,⟨#[97,115,107,101,100]⟩,⟨#[104,101,108,100]⟩,⟨#[108,105,102,116,101,100]⟩,⟨#[109,105,110]⟩,⟨#[109,97,120]⟩]
theorem Pe {α:Type}(p q:α->Bool):∀ (l:List α),(l.filter p).find? (fun x=>p x&&q x)=l.find? (fun x=>p x&&q x)
 | []=>rfl
 |x::l=>by
  rw [List.filter_cons]
  cases h:p x with
  |true=>simp only [if_true,List.find?_cons,h];rw [Pe p q l]
  |false=>simp only [Bool.false_eq_true,if_false,List.find?_cons,h,Bool.false_and];exact Pe p q l
theorem R4 {α:Type}(p q:α->Bool):∀ (l:List α),(l.filter p).any (fun x=>p x&&q x)=l.any (fun x=>p x&&q x)
 | []=>rfl
 |x::l=>by
  rw [List.filter_cons]
  cases h:p x with
  |true=>simp only [if_true,List.any_cons,h];rw [R4 p q l]
  |false=>simp only [Bool.false_eq_true,if_false,List.any_cons,h,Bool.false_and,Bool.false_or];exact R4 p q l
theorem R3 {α:Type}(p:α->Bool):∀ (l:List α),(l.filter p).any p=l.any p
 | []=>rfl
 |x::l=>by
  rw [List.filter_cons]
  cases h:p x with
  |true=>simp only [if_true,List.any_cons,h];rw [R3 p l]
  |false=>simp only [Bool.false_eq_true,if_false,List.any_cons,h,Bool.false_or];exact R3 p l
theorem J1 (op:Int)(s:ByteArray)(ts:List Int)(l:List Ab)(kn fi:Bool):AV op s ts l kn fi=AV op s ts (l.filter (hit op s)) kn fi:=by
 unfold AV pick known Gr
 rw [Pe,R3,R4]
def Hw (r:(Bool×Bool) ⊕ (Int×Ab×Av)):Int×Int:=match r with
 |.inr o=>(o.1,0)
 |.inl (kn,fi)=>(0,if kn=false then 6 else if fi=false then 1 else 7)
theorem LG (name:ByteArray)(t k:Int)(d:Do)(hk:k≠0)(hf:CO.filter (hit 4 name)=[⟨4,name,[t],k,d⟩])(hc:∀ ts:List Int,CQ name ts=some (if ts.length=1 then (if ts=[t] then (k,0) else (0,7)) else (0,1)))(ts:List Int) :
 CQ name ts=some (Hw (AV 4 name ts CO false false)):=by
 rw [hc,J1,hf]
 have hh:hit 4 name ⟨4,name,[t],k,d⟩=true:=by simp [hit]
 by_cases h1:ts=[t]
 . subst h1
   simp [AV,pick,hh,Hw]
 . have h2:¬ [t]=ts:=fun e=>h1 e.symm
   by_cases h3:ts.length=1
   . simp [AV,pick,known,Gr,hh,h1,h2,h3,Hw]
   . have h4:¬ (1:Int)=(ts.length:Int):=by omega
     simp [AV,pick,known,Gr,hh,h2,h3,h4,Hw]
theorem W3 (name:ByteArray)(d:Do)(hf:CO.filter (hit 4 name)=[⟨4,name,[1,1],1,d⟩,⟨4,name,[2,2],2,d⟩])(hc:∀ ts:List Int,CQ name ts=some (match ts with | [a,b]=>if a=b/\a<=2 then (a,0) else (0,7)|_=>(0,1)))(ts:List Int)(ht:∀ t∈ts,IM t) :
 CQ name ts=some (Hw (AV 4 name ts CO false false)):=by
 rw [hc,J1,hf]
 have hh:∀ a k,hit 4 name ⟨4,name,a,k,d⟩=true:=fun a k=>by simp [hit]
 match ts,ht with
 | [],_=>simp [AV,pick,known,Gr,hh,Hw]
 | [a],_=>simp [AV,pick,known,Gr,hh,Hw]
 | [a,b],ht =>
  have h1:IM a:=ht a (by simp)
  unfold IM at h1
  by_cases c1:a=1
  . subst c1
    by_cases c2:b=1
    . subst c2;simp [AV,pick,hh,Hw]
    . have:¬ (1:Int)=b:=fun e=>c2 e.symm
      simp [AV,pick,known,Gr,hh,Hw,this]
  . by_cases c3:a=2
    . subst c3
      by_cases c2:b=2
      . subst c2;simp [AV,pick,hh,Hw]
      . have:¬ (2:Int)=b:=fun e=>c2 e.symm
        simp [AV,pick,known,Gr,hh,Hw,this]
    . have e1:¬ (1:Int)=a:=fun e=>c1 e.symm
      have e2:¬ (2:Int)=a:=fun e=>c3 e.symm
      have e3:¬ a<=2:=by omega
      simp [AV,pick,known,Gr,hh,Hw,e1,e2,e3]
 |a::b::c::r,_ =>
  have:¬ (2:Int)=((a::b::c::r).length:Int):=by simp;omega
  simp [AV,pick,known,Gr,hh,Hw,this]
  omega
def IE (f:Int)(dy ps mn mx:Bool)(t:List Int):Option (Int×Int) :=
 ((bif (decide (0<f)) then
  some true
 else
  bif dy then
   some true
  else
   some ps
 ):Option Bool).bind fun one =>
  ((bif mn then
   some true
  else
   some mx
  ):Option Bool).bind fun two =>
   ((bif (!one) then
    some (!two)
   else
    some false
   ):Option Bool).bind fun v32 =>
    bif v32 then
     some (0,6)
    else
     ((bif one then
      bif ((t.length:Int) != 1) then
       some true
      else
       bif two then
        some ((t.length:Int) != 2)
       else
        some false
     else
      bif two then
       some ((t.length:Int) != 2)
      else
       some false
     ):Option Bool).bind fun v46 =>
      bif v46 then
       some (0,1)
      else
       ((bif (decide (0<f)) then
        (gi t 0).bind fun x4 =>
        bif (x4 == 4) then
         some true
        else
         bif dy then
          some (x4 == 1)
         else
          some false
       else
        bif dy then
         (gi t 0).bind fun x5 =>
         some (x5 == 1)
        else
         some false
       ):Option Bool).bind fun v63 =>
        bif v63 then
         some (2,0)
        else
         ((bif ps then
          (gi t 0).bind fun x3 =>
          some (x3 == 1)
         else
          some false
         ):Option Bool).bind fun v71 =>
          bif v71 then
           some (4,0)
          else
           ((bif two then
            (gi t 0).bind fun x1 =>
            (gi t 1).bind fun x2 =>
            bif (x1 == x2) then
             some (decide (x1<=2))
            else
             some false
           else
            some false
           ):Option Bool).bind fun v87 =>
            bif v87 then
             (gi t 0).bind fun x =>
             some (x,0)
            else
             some (0,7)
theorem FB (name:ByteArray)(f:Int)(h:DC name=some f)(ts:List Int):CQ name ts=IE f (decide (name=⟨#[100,97,121]⟩)) (decide (name=⟨#[112,101,114,115,111,110]⟩)) (decide (name=⟨#[109,105,110]⟩)) (decide (name=⟨#[109,97,120]⟩)) ts:=by
 unfold CQ
 rw [h];rfl
theorem Ach (a b:Int)(l:List Int):(((a::b::l).length:Int) != 1)=true:=by simp;omega
theorem Acg (a b c:Int)(l:List Int):(((a::b::c::l).length:Int) != 2)=true:=by simp;omega
theorem gi00 (a:Int)(l:List Int):gi (a::l) 0=some a:=rfl
theorem gi11 (a b:Int)(l:List Int):gi (a::b::l) 1=some b:=rfl
theorem L6 {f:Int}{dy ps:Bool}{t k:Int}(h:(0<f/\dy=false/\ps=false/\t=4/\k=2)∨(f=0/\dy=true/\ps=false/\t=1/\k=2)∨(f=0/\dy=false/\ps=true/\t=1/\k=4))(ts:List Int) :
 IE f dy ps false false ts=some (if ts.length=1 then (if ts=[t] then (k,0) else (0,7)) else (0,1)):=by
 match ts with
 | []=>rcases h with⟨h,rfl,rfl,rfl,rfl⟩|⟨rfl,rfl,rfl,rfl,rfl⟩|⟨rfl,rfl,rfl,rfl,rfl⟩<;>simp [IE, *]
 | [x] =>
  rcases h with⟨h,rfl,rfl,rfl,rfl⟩|⟨rfl,rfl,rfl,rfl,rfl⟩|⟨rfl,rfl,rfl,rfl,rfl⟩
  . by_cases c:x=4
    . subst c;simp [IE,gi00,h]
    . have b:(x == 4)=false:=by simpa using c
      simp [IE,gi00,b,c,h]
  . by_cases c:x=1
    . subst c;simp [IE,gi00]
    . have b:(x == 1)=false:=by simpa using c
      simp [IE,gi00,b,c]
  . by_cases c:x=1
    . subst c;simp [IE,gi00]
    . have b:(x == 1)=false:=by simpa using c
      simp [IE,gi00,b,c]
 |a::b::l =>
  have e:¬ (a::b::l).length=1:=by simp
  rw [if_neg e]
  rcases h with⟨h,rfl,rfl,rfl,rfl⟩|⟨rfl,rfl,rfl,rfl,rfl⟩|⟨rfl,rfl,rfl,rfl,rfl⟩<;>simp only [IE,Ach,decide_eq_true, *,cond_true,cond_false,Option.bind_some,Bool.not_true,Bool.not_false,Int.lt_irrefl,decide_false]
theorem WA {mn mx:Bool}(h:(mn=true/\mx=false)∨(mn=false/\mx=true))(ts:List Int) :
 IE 0 false false mn mx ts=some (match ts with | [a,b]=>if a=b/\a<=2 then (a,0) else (0,7)|_=>(0,1)):=by
 match ts with
 | []=>rcases h with⟨rfl,rfl⟩|⟨rfl,rfl⟩<;>rfl
 | [x]=>rcases h with⟨rfl,rfl⟩|⟨rfl,rfl⟩<;>rfl
 | [x,y] =>
  by_cases c:x=y
  . subst c
    rcases h with⟨rfl,rfl⟩|⟨rfl,rfl⟩<;>(by_cases c2:x<=2)<;>simp [IE,gi00,gi11,c2]
  . have b:(x == y)=false:=by simpa using c
    rcases h with⟨rfl,rfl⟩|⟨rfl,rfl⟩<;>simp [IE,gi00,gi11,b,c]
 |a::b::c::l =>
  rcases h with⟨rfl,rfl⟩|⟨rfl,rfl⟩<;>simp only [IE,Acg,cond_true,cond_false,Option.bind_some,Bool.not_true,Bool.not_false,Int.lt_irrefl,decide_false]
theorem Y8 (name:ByteArray)(ts:List Int)(ht:∀ t∈ts,IM t):CQ name ts=some (Hw (AV 4 name ts CO false false)):=by
 by_cases h_day:name=⟨#[100,97,121]⟩
 . subst h_day
   exact LG ⟨#[100,97,121]⟩ 1 2 (.c 90) (by decide) (by kernel_rfl) (fun ts=>(FB ⟨#[100,97,121]⟩ 0 (by kernel_rfl) ts).trans (L6 (dy:=true) (ps:=false) (.inr (.inl ⟨rfl,rfl,rfl,rfl,rfl⟩)) ts)) ts
 by_cases h_person:name=⟨#[112,101,114,115,111,110]⟩
 . subst h_person
   exact LG ⟨#[112,101,114,115,111,110]⟩ 1 4 (.c 92) (by decide) (by kernel_rfl) (fun ts=>(FB ⟨#[112,101,114,115,111,110]⟩ 0 (by kernel_rfl) ts).trans (L6 (dy:=false) (ps:=true) (.inr (.inr ⟨rfl,rfl,rfl,rfl,rfl⟩)) ts)) ts
 by_cases h_born:name=⟨#[98,111,114,110]⟩
 . subst h_born
   exact LG ⟨#[98,111,114,110]⟩ 4 2 (.k 0) (by decide) (by kernel_rfl) (fun ts=>(FB ⟨#[98,111,114,110]⟩ 1 (by kernel_rfl) ts).trans (L6 (dy:=false) (ps:=false) (.inl ⟨by decide,rfl,rfl,rfl,rfl⟩) ts)) ts
 by_cases h_died:name=⟨#[100,105,101,100]⟩
 . subst h_died
   exact LG ⟨#[100,105,101,100]⟩ 4 2 (.k 1) (by decide) (by kernel_rfl) (fun ts=>(FB ⟨#[100,105,101,100]⟩ 2 (by kernel_rfl) ts).trans (L6 (dy:=false) (ps:=false) (.inl ⟨by decide,rfl,rfl,rfl,rfl⟩) ts)) ts
 by_cases h_asked:name=⟨#[97,115,107,101,100]⟩
 . subst h_asked
   exact LG ⟨#[97,115,107,101,100]⟩ 4 2 (.k 2) (by decide) (by kernel_rfl) (fun ts=>(FB ⟨#[97,115,107,101,100]⟩ 3 (by kernel_rfl) ts).trans (L6 (dy:=false) (ps:=false) (.inl ⟨by decide,rfl,rfl,rfl,rfl⟩) ts)) ts
 by_cases h_held:name=⟨#[104,101,108,100]⟩
 . subst h_held
   exact LG ⟨#[104,101,108,100]⟩ 4 2 (.k 3) (by decide) (by kernel_rfl) (fun ts=>(FB ⟨#[104,101,108,100]⟩ 4 (by kernel_rfl) ts).trans (L6 (dy:=false) (ps:=false) (.inl ⟨by decide,rfl,rfl,rfl,rfl⟩) ts)) ts
 by_cases h_lifted:name=⟨#[108,105,102,116,101,100]⟩
 . subst h_lifted
   exact LG ⟨#[108,105,102,116,101,100]⟩ 4 2 (.k 4) (by decide) (by kernel_rfl) (fun ts=>(FB ⟨#[108,105,102,116,101,100]⟩ 5 (by kernel_rfl) ts).trans (L6 (dy:=false) (ps:=false) (.inl ⟨by decide,rfl,rfl,rfl,rfl⟩) ts)) ts
 by_cases h_min:name=⟨#[109,105,110]⟩
 . subst h_min
   exact W3 ⟨#[109,105,110]⟩ (.c 104) (by kernel_rfl) (fun ts=>(FB ⟨#[109,105,110]⟩ 0 (by kernel_rfl) ts).trans (WA (mn:=true) (mx:=false) (.inl ⟨rfl,rfl⟩) ts)) ts ht
 by_cases h_max:name=⟨#[109,97,120]⟩
 . subst h_max
   exact W3 ⟨#[109,97,120]⟩ (.c 105) (by kernel_rfl) (fun ts=>(FB ⟨#[109,97,120]⟩ 0 (by kernel_rfl) ts).trans (WA (mn:=false) (mx:=true) (.inr ⟨rfl,rfl⟩) ts)) ts ht
 have hf:DC name=some 0:=by
  unfold DC
  simp only [decide_eq_false h_born,decide_eq_false h_died,decide_eq_false h_asked,decide_eq_false h_held,decide_eq_false h_lifted,cond_false]
 have hc:CQ name ts=some (0,6):=by
  rw [FB name 0 hf ts,decide_eq_false h_day,decide_eq_false h_person,decide_eq_false h_min,decide_eq_false h_max];rfl
 have hflt:CO.filter (hit 4 name)=[]:=by
  rw [List.filter_eq_nil_iff]
  intro o ho hh
  have h1:(o.op == 4)=true:=Rj hh
  have h2:(CO.all fun o=>!(o.op == 4)||nm9.any fun n=>decide (o.name=n))=true:=by kernel_rfl
  rw [List.all_eq_true] at h2
  have h3:=h2 o ho
  rw [h1,Bool.not_true,Bool.false_or,List.any_eq_true] at h3
  obtain⟨n,h3,h5⟩:=h3
  rw [<- of_decide_eq_true h5] at h3
  unfold hit at hh
  rw [h1,Bool.true_and] at hh
  have h4:o.name=name:=by simpa using hh
  rw [h4] at h3
  unfold nm9 at h3
  simp only [List.mem_cons,List.not_mem_nil,or_false] at h3
  rcases h3 with h|h|h|h|h|h|h|h|h
  . exact h_day h
  . exact h_person h
  . exact h_born h
  . exact h_died h
  . exact h_asked h
  . exact h_held h
  . exact h_lifted h
  . exact h_min h
  . exact h_max h
 rw [hc,J1,hflt];rfl
end Go.Sp
