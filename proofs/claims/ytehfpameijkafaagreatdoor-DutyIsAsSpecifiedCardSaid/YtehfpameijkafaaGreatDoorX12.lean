/-
  The closed facts of the row of DutyIsAsSpecified. The specification's types are those that find finds. No program. The specification's Type, Known and Last, in plain words. No program. Known, Last and products of the specification, in plain words. No program. The specification's values are those that value computes. No program. Few nodes, in plain words. No program. Value in plain words; StatuteIsTyped, the plain law. No program. Names: what the program and the specification call one. No program. Whether a clause of a list has a name. No program. Check, in plain words: the program's and the specification's. No program. Check of clauses: the program's and the specification's answer alike. No program. The stable sort of duty's spans: swaps, rotations. No program. The stable sort of duty's spans: insertion, rotation. No program. The stable sort of duty's spans: merging. No program. The stable sort of duty's spans: merging in place, the whole sort. No program. StatuteValuesAsSpecified, the plain law. No program. The spans of duty: what they are. No program. The duty on a day, by its spans, in plain words. No program. The duty on a day by what applies on it: in any order. No program. The duty on a day: clauses in addition, other numbers, the opposite order. No program. The stretches of duty, in plain words. No program. sanity, run by the kernel. No program. DutyStretchesCover: the plain law. No program. DutyRanksDecide as a plain function. (Printed by lift.py.) DutyRanksDecide: the plain law. No program. StatuteLearns, the plain law: later facts and the order of facts of different kinds or people do not change a value. No program. DutyKnowsTwoTimes as a plain function. (Printed by lift.py.) DutyKnowsTwoTimes: the plain law. No program. The specification of duty as plain functions. (Printed by lift.py.) DutyIsAsSpecified as a plain function. (Printed by lift.py.) DutyIsAsSpecified: the specification in plain words. No program. DutyIsAsSpecified: the plain law. No program.
-/
import Derived.JoinedOf
import Derived.KernelRfl
import Derived.Test.YtehfpameijkafaaGreatDoorX4
import Derived.Test.YtehfpameijkafaaGreatDoorX11
set_option linter.unusedVariables false
set_option linter.unusedSimpArgs false
namespace Go.Proofs.YtehfpameijkafaaGreatDoor
open Go.ChangeShapes Go.WideShapes Go.ChangeAt Go.RowKit
set_option maxRecDepth 100000
theorem GV {a b:Bool}(h:a=true)(k:b=true):(a&&b)=true:=by rw [h,k];rfl
theorem Ah2:(Rows.dutyIsAsSpecifiedRow.wf (OpenSpec.ofChange Rows.dutyIsAsSpecifiedSpec))=true:=by kernel_rfl
theorem Ah1:(laidOutB Tryz.prog)=true:=by kernel_rfl
theorem Ah0:(mapsRowed Tryz.prog)=true:=by kernel_rfl
theorem Ahz:(Tryz.f3.params.all (Tryz.prog.readableRec ·))=true:=by kernel_rfl
theorem Ahy:(namedTie Tryz.prog Rows.dutyIsAsSpecifiedRow.named Rows.dutyIsAsSpecifiedSpec.vars)=true:=by kernel_rfl
theorem Ahx:((Rows.dutyIsAsSpecifiedRow.stops == []))=true:=by kernel_rfl
theorem Ahw:((Tryz.prog.stops == []))=true:=by kernel_rfl
theorem Ahv:((Rows.dutyIsAsSpecifiedRow.knobs == []))=true:=by kernel_rfl
theorem Ahu:((Tryz.prog.stopKnobs == []))=true:=by kernel_rfl
theorem Aht:((Rows.dutyIsAsSpecifiedRow.inPlace == Tryz.prog.inPlace 3))=true:=by kernel_rfl
theorem Aga:((Rows.dutyIsAsSpecifiedRow.unfollowed == Tryz.prog.unfollowed 3))=true:=by kernel_rfl
theorem Af9:((Rows.dutyIsAsSpecifiedRow.recurses == Tryz.prog.recurses 3))=true:=by kernel_rfl
theorem Af8:((Rows.dutyIsAsSpecifiedRow.named == Tryz.prog.varsNamed 3))=true:=by kernel_rfl
theorem Af7:((Rows.dutyIsAsSpecifiedRow.maps == (Tryz.f3.params.toList++Rows.dutyIsAsSpecifiedSpec.plain.varTypes Tryz.prog).any (Tryz.prog.mapsRec ·)))=true:=by kernel_rfl
theorem Af6:((Rows.dutyIsAsSpecifiedRow.ifaces == (Tryz.f3.params.toList++Rows.dutyIsAsSpecifiedSpec.plain.varTypes Tryz.prog).any (Tryz.prog.ifacesRec ·)))=true:=by kernel_rfl
theorem Af5:((Rows.dutyIsAsSpecifiedRow.mapsOut == Tryz.prog.mapsAmong Tryz.f3.resultTypes.toList))=true:=by kernel_rfl
theorem Af4:((Rows.dutyIsAsSpecifiedRow.loops == (Tryz.f3.params.toList++Rows.dutyIsAsSpecifiedSpec.plain.varTypes Tryz.prog).any (Tryz.prog.loopsFrom ·)))=true:=by kernel_rfl
theorem Af3:((Rows.dutyIsAsSpecifiedRow.wideKeys == (Tryz.f3.params.toList++Rows.dutyIsAsSpecifiedSpec.plain.varTypes Tryz.prog++Tryz.f3.resultTypes.toList).any (Tryz.prog.wideKeysFrom ·)))=true:=by kernel_rfl
theorem Af2:(Rows.dutyIsAsSpecifiedSpec.vars.all (Tryz.prog.varReadable ·))=true:=by kernel_rfl
theorem Af1:(Tryz.f3.resultTypes.all (fun t=>Tryz.prog.readableRec t&&decide (t<Tryz.prog.types.size)))=true:=by kernel_rfl
theorem Af0:((Rows.dutyIsAsSpecifiedRow.ifacesOut == Tryz.f3.resultTypes.toList.any (Tryz.prog.ifacesRec ·)))=true:=by kernel_rfl
theorem Afz:((Rows.dutyIsAsSpecifiedRow.loopsOut == Tryz.f3.resultTypes.toList.any (Tryz.prog.loopsFrom ·)))=true:=by kernel_rfl
theorem Afy:((Rows.dutyIsAsSpecifiedRow.plainKeys == Tryz.prog.plainKeys))=true:=by kernel_rfl
theorem Afx:(Rows.dutyIsAsSpecifiedRow.shortTexts.isNone)=true:=by kernel_rfl
theorem Afw:(Tryz.prog.stopsHeard)=true:=by kernel_rfl
theorem Afv:(Tryz.prog.mayEnter)=true:=by kernel_rfl
theorem Afu:((Rows.dutyIsAsSpecifiedRow.lifted == Tryz.prog.liftsFinal))=true:=by kernel_rfl
theorem Aft:((Tryz.prog.make == some Rows.dutyIsAsSpecifiedRow.make))=true:=by kernel_rfl
theorem Afs:((Rows.dutyIsAsSpecifiedRow.kinds == (if Rows.dutyIsAsSpecifiedRow.domain.isEmpty then [] else Tryz.f3.params.toList.map fun t=>match Tryz.prog.underlying t with|some (.int k)=>some k|_=>none)))=true:=by kernel_rfl
theorem Afr:((Rows.dutyIsAsSpecifiedRow.pinned == Rows.dutyIsAsSpecifiedRow.pinnedBy))=true:=by kernel_rfl
theorem Afq:((Rows.dutyIsAsSpecifiedRow.veiled == (Tryz.f3.params.toList++Rows.dutyIsAsSpecifiedSpec.plain.varTypes Tryz.prog++Tryz.f3.resultTypes.toList).any (Tryz.prog.veiledRec ·)))=true:=by kernel_rfl
theorem Afp:(Rows.dutyIsAsSpecifiedRow.veiledFits Tryz.prog Tryz.f3.params.toList (Tryz.f3.params.toList++Rows.dutyIsAsSpecifiedSpec.plain.varTypes Tryz.prog++Tryz.f3.resultTypes.toList))=true:=by kernel_rfl
theorem jf3:joinedFacts Tryz.prog 3 Tryz.f3 Rows.dutyIsAsSpecifiedSpec Rows.dutyIsAsSpecifiedRow=true:=(GV (GV (GV (GV (GV (GV (GV (GV (GV (GV (GV (GV (GV (GV (GV (GV (GV (GV (GV (GV (GV (GV (GV (GV (GV (GV (GV (GV (GV (GV (GV Ah2 Ah1) Ah0) Ahz) Ahy) Ahx) Ahw) Ahv) Ahu) Aht) Aga) Af9) Af8) Af7) Af6) Af5) Af4) Af3) Af2) Af1) Af0) Afz) Afy) Afx) Afw) Afv) Afu) Aft) Afs) Afr) Afq) Afp)
end Go.Proofs.YtehfpameijkafaaGreatDoor
namespace Go.Sp
open Go
set_option maxRecDepth 100000
def JS (t:Int):Prop:=1<=t/\t<=4
theorem LY (op:Int)(h:1<=op):DX op=some (arity op):=by
 unfold DX arity
 rw [Í h,Î]
 by_cases e:op=1
 . subst e;rfl
 by_cases f:op=2
 . subst f;rfl
 by_cases g:op=3
 . subst g;rfl
 rw [Ç (show ¬ op<=3 by omega)]
 by_cases b:op=4
 . subst b;rfl
 by_cases c:op=5
 . subst c;rfl
 by_cases d:op=6
 . subst d;rfl
 by_cases a:op=20
 . subst a;rfl
 have b4:(op == 4)=false:=by simpa using b
 have b5:(op == 5)=false:=by simpa using c
 have b6:(op == 6)=false:=by simpa using d
 have b20:(op == 20)=false:=by simpa using a
 simp only [b4,b5,b6,b20,Ì,Á]
 simp [e,f,g,b,c,d,a]
theorem OS (op:Int):∃ v,DX op=some v:=by
 by_cases h:1<=op
 . exact⟨_,LY op h⟩
 . unfold DX
   rw [Ç h,Ì,Á,Ì]
   cases (op == 4)<;>cases (op == 5)<;>cases (op == 6)<;>cases (op == 20)<;>exact⟨_,rfl⟩
def Ab9:List (List Int):=[[1],[2],[3],[4]]
def Ag1:List (List Int):=Ab9.flatMap fun a=>Ab9.map fun b=>a++b
def Ais:List (List Int):=Ab9.flatMap fun a=>Ag1.map fun b=>a++b
def Aez (n:Int):List (List Int):=if n=1 then Ab9 else if n=3 then Ais else Ag1
theorem Adn {t:Int}(h:JS t):[t]∈Ab9:=by
 unfold JS at h
 have:t=1∨t=2∨t=3∨t=4:=by omega
 rcases this with rfl|rfl|rfl|rfl<;>decide
theorem Ahn {t u:Int}(h:JS t)(k:JS u):[t,u]∈Ag1:=List.mem_flatMap.2 ⟨[t],Adn h,List.mem_map.2 ⟨[u],Adn k,rfl⟩⟩
theorem Ai5 {t u v:Int}(h:JS t)(k:JS u)(l:JS v):[t,u,v]∈Ais:=List.mem_flatMap.2 ⟨[t],Adn h,List.mem_map.2 ⟨[u,v],Ahn k l,rfl⟩⟩
theorem Zo {op:Int}(h4:5<=op){ts:List Int}(hl:(ts.length:Int)=arity op)(ht:∀ t∈ts,JS t):ts∈Aez (arity op):=by
 have ha:arity op=1∨arity op=3∨arity op=2:=by
  unfold arity
  rw [Ä (by omega)]
  split
  . exact .inl rfl
  . split
    . exact .inr (.inl rfl)
    . rw [Ä (by omega)];exact .inr (.inr rfl)
 rcases ha with ha|ha|ha<;>rw [ha] at hl ⊢
 . match ts,hl with
   | [a],_=>exact Adn (ht a (by simp))
 . match ts,hl with
   | [a,b,c],_=>exact Ai5 (ht a (by simp)) (ht b (by simp)) (ht c (by simp))
 . match ts,hl with
   | [a,b],_=>exact Ahn (ht a (by simp)) (ht b (by simp))
def Ul (o:Option Ac):Int:=match o with|some o=>o.kind|none=>0
def Abz:Bool:=(List.range 16).all fun i=>(Aez (arity ((i:Int)+5))).all fun ts=>Hv ((i:Int)+5) ts == some (Ul (pick ((i:Int)+5) ⟨#[]⟩ ts D4))
theorem ZF:Abz=true:=by kernel_rfl
theorem Adw {op:Int}(h:op≠4)(s s':Æ):hit op s=hit op s':=by
 funext o
 unfold hit
 by_cases c:o.op=op
 . rw [show (o.op == 4)=false by simpa [c] using h];rfl
 . rw [show (o.op == op)=false by simpa using c];rfl
theorem Aao {op:Int}(h:op≠4)(s s':Æ)(ts:List Int)(l:List Ac):pick op s ts l=pick op s' ts l:=by
 unfold pick
 rw [Adw h s s']
theorem Zb {op:Int}(h1:5<=op)(h2:op<=20)(s:Æ){ts:List Int}(hl:(ts.length:Int)=arity op)(ht:∀ t∈ts,JS t):Hv op ts=some (Ul (pick op s ts D4)):=by
 have h:=ZF
 unfold Abz at h
 rw [Ø] at h
 have a:=h (op-5).toNat (List.mem_range.2 (by omega))
 rw [show (((op-5).toNat:Nat):Int)+5=op by omega] at a
 rw [Ø] at a
 have b:=a ts (Zo h1 hl ht)
 rw [Aao (by omega) s ⟨#[]⟩]
 simpa using b
def nm9:List Æ:=[⟨#[100,97,121]⟩,⟨#[112,101,114,115,111,110]⟩,⟨#[98,111,114,110]⟩,⟨#[100,105,101,100]⟩,⟨#[97,115,107,101,100]⟩,⟨#[104,101,108,100]⟩,⟨#[108,105,102,116,101,100]⟩,⟨#[109,105,110]⟩,⟨#[109,97,120]⟩]
theorem R7 {α:Type}(p q:α->Bool):∀ (l:List α),(l.filter p).find? (fun x=>p x&&q x)=l.find? (fun x=>p x&&q x)
 | []=>rfl
 |x::l=>by
  rw [ĩ]
  cases h:p x with
  |true=>simp only [ñ,List.find?_cons,h];rw [R7 p q l]
  |false=>simp only [Þ,ó,List.find?_cons,h,Ī];exact R7 p q l
theorem UI {α:Type}(p q:α->Bool):∀ (l:List α),(l.filter p).any (fun x=>p x&&q x)=l.any (fun x=>p x&&q x)
 | []=>rfl
 |x::l=>by
  rw [ĩ]
  cases h:p x with
  |true=>simp only [ñ,Ą,h];rw [UI p q l]
  |false=>simp only [Þ,ó,Ą,h,Ī,ē];exact UI p q l
theorem UH {α:Type}(p:α->Bool):∀ (l:List α),(l.filter p).any p=l.any p
 | []=>rfl
 |x::l=>by
  rw [ĩ]
  cases h:p x with
  |true=>simp only [ñ,Ą,h];rw [UH p l]
  |false=>simp only [Þ,ó,Ą,h,ē];exact UH p l
theorem KE (op:Int)(s:Æ)(ts:List Int)(l:List Ac)(kn fi:Bool):AY op s ts l kn fi=AY op s ts (l.filter (hit op s)) kn fi:=by
 unfold AY pick known H5
 rw [R7,UH,UI]
def I7 (r:(Bool×Bool) ⊕ (Int×Ac×Am)):Int×Int:=match r with
 |.inr o=>(o.1,0)
 |.inl (kn,fi)=>(0,if kn=false then 6 else if fi=false then 1 else 7)
theorem N2 (name:Æ)(t k:Int)(d:Do)(hk:k≠0)(hf:D4.filter (hit 4 name)=[⟨4,name,[t],k,d⟩])(hc:∀ ts:List Int,DY name ts=some (if ts.length=1 then (if ts=[t] then (k,0) else (0,7)) else (0,1)))(ts:List Int) :
 DY name ts=some (I7 (AY 4 name ts D4 false false)):=by
 rw [hc,KE,hf]
 have a:hit 4 name ⟨4,name,[t],k,d⟩=true:=by simp [hit]
 by_cases b:ts=[t]
 . subst b
   simp [AY,pick,a,I7]
 . have c:¬ [t]=ts:=fun e=>b e.symm
   by_cases f:ts.length=1
   . simp [AY,pick,known,H5,a,b,c,f,I7]
   . have g:¬ (1:Int)=(ts.length:Int):=by omega
     simp [AY,pick,known,H5,a,c,f,g,I7]
theorem ZV (name:Æ)(d:Do)(hf:D4.filter (hit 4 name)=[⟨4,name,[1,1],1,d⟩,⟨4,name,[2,2],2,d⟩])(hc:∀ ts:List Int,DY name ts=some (match ts with | [a,b]=>if a=b/\a<=2 then (a,0) else (0,7)|_=>(0,1)))(ts:List Int)(ht:∀ t∈ts,JS t) :
 DY name ts=some (I7 (AY 4 name ts D4 false false)):=by
 rw [hc,KE,hf]
 have f:∀ a k,hit 4 name ⟨4,name,a,k,d⟩=true:=fun a k=>by simp [hit]
 match ts,ht with
 | [],_=>simp [AY,pick,known,H5,f,I7]
 | [a],_=>simp [AY,pick,known,H5,f,I7]
 | [a,b],ht =>
  have g:JS a:=ht a (by simp)
  unfold JS at g
  by_cases c1:a=1
  . subst c1
    by_cases c2:b=1
    . subst c2;simp [AY,pick,f,I7]
    . have:¬ (1:Int)=b:=fun e=>c2 e.symm
      simp [AY,pick,known,H5,f,I7,this]
  . by_cases c3:a=2
    . subst c3
      by_cases c2:b=2
      . subst c2;simp [AY,pick,f,I7]
      . have:¬ (2:Int)=b:=fun e=>c2 e.symm
        simp [AY,pick,known,H5,f,I7,this]
    . have e1:¬ (1:Int)=a:=fun e=>c1 e.symm
      have e2:¬ (2:Int)=a:=fun e=>c3 e.symm
      have e3:¬ a<=2:=by omega
      simp [AY,pick,known,H5,f,I7,e1,e2,e3]
 |a::b::c::r,_ =>
  have:¬ (2:Int)=((a::b::c::r).length:Int):=by simp;omega
  simp [AY,pick,known,H5,f,I7,this]
  omega
def JC (f:Int)(dy ps mn mx:Bool)(t:List Int):Option (Int×Int) :=
 ((bif (decide (0<f)) then
  some true
 else
  bif dy then
   some true
  else
   some ps
 ):Option Bool).bind fun one =>
  ((bif mn then
   some true
  else
   some mx
  ):Option Bool).bind fun two =>
   ((bif (!one) then
    some (!two)
   else
    some false
   ):Option Bool).bind fun v32 =>
    bif v32 then
     some (0,6)
    else
     ((bif one then
      bif ((t.length:Int) != 1) then
       some true
      else
       bif two then
        some ((t.length:Int) != 2)
       else
        some false
     else
      bif two then
       some ((t.length:Int) != 2)
      else
       some false
     ):Option Bool).bind fun v46 =>
      bif v46 then
       some (0,1)
      else
       ((bif (decide (0<f)) then
        (gi t 0).bind fun x4 =>
        bif (x4 == 4) then
         some true
        else
         bif dy then
          some (x4 == 1)
         else
          some false
       else
        bif dy then
         (gi t 0).bind fun x5 =>
         some (x5 == 1)
        else
         some false
       ):Option Bool).bind fun v63 =>
        bif v63 then
         some (2,0)
        else
         ((bif ps then
          (gi t 0).bind fun x3 =>
          some (x3 == 1)
         else
          some false
         ):Option Bool).bind fun v71 =>
          bif v71 then
           some (4,0)
          else
           ((bif two then
            (gi t 0).bind fun x1 =>
            (gi t 1).bind fun x2 =>
            bif (x1 == x2) then
             some (decide (x1<=2))
            else
             some false
           else
            some false
           ):Option Bool).bind fun v87 =>
            bif v87 then
             (gi t 0).bind fun x =>
             some (x,0)
            else
             some (0,7)
theorem GI (name:Æ)(f:Int)(h:EU name=some f)(ts:List Int):DY name ts=JC f (decide (name=⟨#[100,97,121]⟩)) (decide (name=⟨#[112,101,114,115,111,110]⟩)) (decide (name=⟨#[109,105,110]⟩)) (decide (name=⟨#[109,97,120]⟩)) ts:=by
 unfold DY
 rw [h];rfl
theorem VR (a:Int)(l:List Int):gi (a::l) 0=some a:=rfl
theorem Ah9 (a b:Int)(l:List Int):gi (a::b::l) 1=some b:=rfl
theorem Ai7 (a b:Int)(l:List Int):(((a::b::l).length:Int) != 1)=true:=by simp;omega
theorem Ai6 (a b c:Int)(l:List Int):(((a::b::c::l).length:Int) != 2)=true:=by simp;omega
theorem Nw {f:Int}{dy ps:Bool}{t k:Int}(h:(0<f/\dy=false/\ps=false/\t=4/\k=2)∨(f=0/\dy=true/\ps=false/\t=1/\k=2)∨(f=0/\dy=false/\ps=true/\t=1/\k=4))(ts:List Int) :
 JC f dy ps false false ts=some (if ts.length=1 then (if ts=[t] then (k,0) else (0,7)) else (0,1)):=by
 match ts with
 | []=>rcases h with⟨h,rfl,rfl,rfl,rfl⟩|⟨rfl,rfl,rfl,rfl,rfl⟩|⟨rfl,rfl,rfl,rfl,rfl⟩<;>simp [JC, *]
 | [x] =>
  rcases h with⟨h,rfl,rfl,rfl,rfl⟩|⟨rfl,rfl,rfl,rfl,rfl⟩|⟨rfl,rfl,rfl,rfl,rfl⟩
  . by_cases c:x=4
    . subst c;simp [JC,VR,h]
    . have b:(x == 4)=false:=by simpa using c
      simp [JC,VR,b,c,h]
  . by_cases c:x=1
    . subst c;simp [JC,VR]
    . have b:(x == 1)=false:=by simpa using c
      simp [JC,VR,b,c]
  . by_cases c:x=1
    . subst c;simp [JC,VR]
    . have b:(x == 1)=false:=by simpa using c
      simp [JC,VR,b,c]
 |a::b::l =>
  have e:¬ (a::b::l).length=1:=by simp
  rw [Ä e]
  rcases h with⟨h,rfl,rfl,rfl,rfl⟩|⟨rfl,rfl,rfl,rfl,rfl⟩|⟨rfl,rfl,rfl,rfl,rfl⟩<;>simp only [JC,Ai7,Í, *,Î,Ì,Á,Ā,ć,Int.lt_irrefl,decide_false]
theorem Aae {mn mx:Bool}(h:(mn=true/\mx=false)∨(mn=false/\mx=true))(ts:List Int) :
 JC 0 false false mn mx ts=some (match ts with | [a,b]=>if a=b/\a<=2 then (a,0) else (0,7)|_=>(0,1)):=by
 match ts with
 | []=>rcases h with⟨rfl,rfl⟩|⟨rfl,rfl⟩<;>rfl
 | [x]=>rcases h with⟨rfl,rfl⟩|⟨rfl,rfl⟩<;>rfl
 | [x,y] =>
  by_cases c:x=y
  . subst c
    rcases h with⟨rfl,rfl⟩|⟨rfl,rfl⟩<;>(by_cases c2:x<=2)<;>simp [JC,VR,Ah9,c2]
  . have b:(x == y)=false:=by simpa using c
    rcases h with⟨rfl,rfl⟩|⟨rfl,rfl⟩<;>simp [JC,VR,Ah9,b,c]
 |a::b::c::l =>
  rcases h with⟨rfl,rfl⟩|⟨rfl,rfl⟩<;>simp only [JC,Ai6,Î,Ì,Á,Ā,ć,Int.lt_irrefl,decide_false]
theorem Aee (name:Æ)(ts:List Int)(ht:∀ t∈ts,JS t):DY name ts=some (I7 (AY 4 name ts D4 false false)):=by
 by_cases i:name=⟨#[100,97,121]⟩
 . subst i
   exact N2 ⟨#[100,97,121]⟩ 1 2 (.c 95) (by decide) (by kernel_rfl) (fun ts=>(GI ⟨#[100,97,121]⟩ 0 (by kernel_rfl) ts).trans (Nw (dy:=true) (ps:=false) (.inr (.inl ⟨rfl,rfl,rfl,rfl,rfl⟩)) ts)) ts
 by_cases a:name=⟨#[112,101,114,115,111,110]⟩
 . subst a
   exact N2 ⟨#[112,101,114,115,111,110]⟩ 1 4 (.c 97) (by decide) (by kernel_rfl) (fun ts=>(GI ⟨#[112,101,114,115,111,110]⟩ 0 (by kernel_rfl) ts).trans (Nw (dy:=false) (ps:=true) (.inr (.inr ⟨rfl,rfl,rfl,rfl,rfl⟩)) ts)) ts
 by_cases e:name=⟨#[98,111,114,110]⟩
 . subst e
   exact N2 ⟨#[98,111,114,110]⟩ 4 2 (.k 0) (by decide) (by kernel_rfl) (fun ts=>(GI ⟨#[98,111,114,110]⟩ 1 (by kernel_rfl) ts).trans (Nw (dy:=false) (ps:=false) (.inl ⟨by decide,rfl,rfl,rfl,rfl⟩) ts)) ts
 by_cases f:name=⟨#[100,105,101,100]⟩
 . subst f
   exact N2 ⟨#[100,105,101,100]⟩ 4 2 (.k 1) (by decide) (by kernel_rfl) (fun ts=>(GI ⟨#[100,105,101,100]⟩ 2 (by kernel_rfl) ts).trans (Nw (dy:=false) (ps:=false) (.inl ⟨by decide,rfl,rfl,rfl,rfl⟩) ts)) ts
 by_cases d:name=⟨#[97,115,107,101,100]⟩
 . subst d
   exact N2 ⟨#[97,115,107,101,100]⟩ 4 2 (.k 2) (by decide) (by kernel_rfl) (fun ts=>(GI ⟨#[97,115,107,101,100]⟩ 3 (by kernel_rfl) ts).trans (Nw (dy:=false) (ps:=false) (.inl ⟨by decide,rfl,rfl,rfl,rfl⟩) ts)) ts
 by_cases g:name=⟨#[104,101,108,100]⟩
 . subst g
   exact N2 ⟨#[104,101,108,100]⟩ 4 2 (.k 3) (by decide) (by kernel_rfl) (fun ts=>(GI ⟨#[104,101,108,100]⟩ 4 (by kernel_rfl) ts).trans (Nw (dy:=false) (ps:=false) (.inl ⟨by decide,rfl,rfl,rfl,rfl⟩) ts)) ts
 by_cases b:name=⟨#[108,105,102,116,101,100]⟩
 . subst b
   exact N2 ⟨#[108,105,102,116,101,100]⟩ 4 2 (.k 4) (by decide) (by kernel_rfl) (fun ts=>(GI ⟨#[108,105,102,116,101,100]⟩ 5 (by kernel_rfl) ts).trans (Nw (dy:=false) (ps:=false) (.inl ⟨by decide,rfl,rfl,rfl,rfl⟩) ts)) ts
 by_cases j:name=⟨#[109,105,110]⟩
 . subst j
   exact ZV ⟨#[109,105,110]⟩ (.c 109) (by kernel_rfl) (fun ts=>(GI ⟨#[109,105,110]⟩ 0 (by kernel_rfl) ts).trans (Aae (mn:=true) (mx:=false) (.inl ⟨rfl,rfl⟩) ts)) ts ht
 by_cases l:name=⟨#[109,97,120]⟩
 . subst l
   exact ZV ⟨#[109,97,120]⟩ (.c 110) (by kernel_rfl) (fun ts=>(GI ⟨#[109,97,120]⟩ 0 (by kernel_rfl) ts).trans (Aae (mn:=false) (mx:=true) (.inr ⟨rfl,rfl⟩) ts)) ts ht
 have u:EU name=some 0:=by
  unfold EU
  simp only [Ç e,Ç f,Ç d,Ç g,Ç b,Ì]
 have v:DY name ts=some (0,6):=by
  rw [GI name 0 u ts,Ç i,Ç a,Ç j,Ç l];rfl
 have p:D4.filter (hit 4 name)=[]:=by
  rw [Ĳ]
  intro o w q
  have r:(o.op == 4)=true:=Uo q
  have s:(D4.all fun o=>!(o.op == 4)||nm9.any fun n=>decide (o.name=n))=true:=by kernel_rfl
  rw [Ø] at s
  have m:=s o w
  rw [r,Ā,ē,List.any_eq_true] at m
  obtain⟨n,m,x⟩:=m
  rw [<- þ x] at m
  unfold hit at q
  rw [r,č] at q
  have y:o.name=name:=by simpa using q
  rw [y] at m
  unfold nm9 at m
  simp only [Ē,Ĝ,or_false] at m
  rcases m with h|h|h|h|h|h|h|h|h
  . exact i h
  . exact a h
  . exact e h
  . exact f h
  . exact d h
  . exact g h
  . exact b h
  . exact j h
  . exact l h
 rw [v,KE,p];rfl
end Go.Sp
namespace Go.Sp
open Go
set_option maxRecDepth 100000
theorem Ro:∀ o∈D4,JS o.kind:=by
 have h:(D4.all fun o=>decide (1<=o.kind/\o.kind<=4))=true:=by kernel_rfl
 rw [Ø] at h
 intro o a
 exact þ (p:=1<=o.kind/\o.kind<=4) (h o a)
theorem VB (s:Æ)(h:(B1 BX s).2=true):JS (B1 BX s).1:=by
 unfold JS
 unfold BX at h ⊢
 unfold B1 at h ⊢
 split
 . decide
 rename_i c1
 rw [Ä c1] at h
 unfold B1 at h ⊢
 split
 . decide
 rename_i c2
 rw [Ä c2] at h
 unfold B1 at h ⊢
 split
 . decide
 rename_i c3
 rw [Ä c3] at h
 unfold B1 at h ⊢
 split
 . decide
 . rename_i c4
   rw [Ä c4] at h
   cases h
theorem Ad3 {e:Af}(h:(AI e).2.2.E=0):JS (AI e).1/\(AI e).2.2=⟨0,0⟩:=by
 obtain⟨op,num,str,kids,at0⟩:=e
 obtain⟨ts,_,b⟩:=Ox h
 rcases b with⟨_,_,_,_,a⟩|⟨_,c,_,a⟩|⟨_,_,o,d,_,_,a⟩
 . rw [a];exact⟨⟨by decide,by decide⟩,rfl⟩
 . rw [a];exact⟨VB str c,rfl⟩
 . rw [a];exact⟨Ro o d,rfl⟩
theorem QD:∀ {l:List Af} {ts:List Int},Cc l=.inl ts->(∀ t∈ts,JS t)/\ts.length=l.length
 | [],ts,h=>by
  rw [Cc] at h;cases h
  exact⟨fun t ht=>by simp at ht,rfl⟩
 |e::l,ts,h=>by
  rw [Cc] at h
  by_cases c:(AI e).2.2.E=0
  . rw [Ä (by simpa using c)] at h
    cases h2:Cc l with
    |inr o=>rw [h2] at h;cases h
    |inl us =>
     rw [h2] at h;cases h
     obtain⟨k1,k2⟩:=QD h2
     refine⟨fun t ht=>?_,by simp [k2]⟩
     rcases List.mem_cons.1 ht with rfl|ht
     . exact (Ad3 c).1
     . exact k1 t ht
  . rw [È c] at h;cases h
theorem SF:∀ {l:List Af} {o:Int×Ac×Am},Cc l=.inr o->o.1=0/\o.2.2.E≠0
 | [],o,h=>by rw [Cc] at h;cases h
 |e::l,o,h=>by
  rw [Cc] at h
  split at h
  . rename_i h1;cases h;exact⟨rfl,h1⟩
  . split at h
    . cases h
    . rename_i h2;cases h;exact SF h2
theorem Abj {e:Af}(h:(AI e).2.2.E≠0):(AI e).1=0:=by
 obtain⟨op,num,str,kids,at0⟩:=e
 rw [AI] at h ⊢
 by_cases c:op<1∨20<op∨(0<=arity op/\(kids.length:Int)≠arity op)
 . rw [È c]
 rw [Ä c] at h ⊢
 cases b:Cc kids with
 |inr o=>exact (SF b).1
 |inl ts =>
  rw [b] at h
  simp only at h ⊢
  by_cases d:op=1
  . rw [È d] at h ⊢
    split
    . rfl
    . rename_i a;rw [Ä a] at h;exact absurd rfl h
  rw [Ä d] at h ⊢
  by_cases a:op=2
  . rw [È a]
  rw [Ä a] at h ⊢
  by_cases f:op=3
  . rw [È f] at h ⊢
    split
    . rename_i g;rw [È g] at h;exact absurd rfl h
    . rfl
  rw [Ä f] at h ⊢
  unfold AY at h ⊢
  cases i:pick op str ts D4 with
  |some o=>rw [i] at h;exact absurd rfl h
  |none =>
   simp only
   split
   . rfl
   . split<;>rfl
def I5 (e:Af):CO:=⟨(AI e).1,(AI e).2.2⟩
theorem Vg (e:Af)(hk:e.Kids.length<=1000000)(hf:∀ x∈e.Kids,Ev (fun n=>Bq n x) (I5 x)) :
 ∀ (r:List Af) (k:Nat) (ts:List Int),e.Kids.drop k=r->k<=e.Kids.length->ts.length=k->Ev (fun n=>DK n e ts (k:Int)) (match Cc r with|.inl us=>.inl (ts++us)|.inr o=>.inr ⟨o.1,o.2.2⟩)
 | [],k,ts,hr,hkl,_=>by
  have he:=Hh hr hkl
  refine Ev.step (f:=fun n=>some (.inl ts)) (fun n=>?_) ?_
  . rw [DK.eq_2,show (decide ((k:Int)<(e.Kids.length:Int)))=false by rw [Ò];omega];rfl
  . rw [Cc];simp only [ă];exact Ev.pure
 |x::r,k,ts,hr,hkl,hts=>by
  obtain⟨h1,h2⟩:=DM hr
  have hmem:x∈e.Kids:=á (by rw [hr];simp)
  refine Ev.step (f:=fun n=>(Bq n x).bind fun x1=>bif (x1.P.E != 0) then some (.inr x1) else DK n e (ts++[x1.T]) ((k+1:Nat):Int)) (fun n=>?_) ?_
  . rw [DK.eq_2,Mf h2,Î,L2 hr,Á]
    congr 1
    funext x1
    rw [Á,Y2 (by omega) (by simp),Á,L3 (by omega)]
  . refine Ev.bind (hf x hmem) ?_
    rw [Cc]
    by_cases c:(AI x).2.2.E=0
    . have ih:=Vg e hk hf r (k+1) (ts++[(AI x).1]) h1 (by omega) (by simp [hts])
      have b:((I5 x).P.E != 0)=false:=by simpa [I5] using c
      simp only [b,Ì]
      rw [Ä (by simpa using c)]
      cases a:Cc r with
      |inl us=>rw [a] at ih;simpa [ð,I5] using ih
      |inr o=>rw [a] at ih;exact ih
    . have b:((I5 x).P.E != 0)=true:=by simpa [I5] using c
      simp only [b,Î]
      rw [È c]
      have:I5 x=⟨0,(AI x).2.2⟩:=by unfold I5;rw [Abj c]
      rw [this];exact Ev.pure
theorem YM (s:Æ):(bif (decide (s=⟨#[121,101,97,114]⟩)) then some ((1:Int),(7:Int)) else
 ((bif (decide (s=⟨#[115,116,111,114,101,100]⟩)) then some (decide (s=⟨#[115,116,111,114,101,100]⟩)) else some (decide (s=⟨#[110,101,118,101,114]⟩))):Option Bool).bind fun v84 =>
  bif v84 then some (2,7) else bif (decide (s=⟨#[111,119,110,101,114]⟩)) then some (4,7) else some (0,6)) =
 some (if (B1 BX s).2=true then ((B1 BX s).1,7) else (0,6)):=by
 unfold BX
 by_cases c1:s=⟨#[121,101,97,114]⟩
 . subst c1;rfl
 rw [Ç c1,Ì]
 by_cases c2:s=⟨#[115,116,111,114,101,100]⟩
 . subst c2;rfl
 rw [Ç c2,Ì]
 by_cases c3:s=⟨#[110,101,118,101,114]⟩
 . subst c3;rfl
 rw [Ç c3,Á,Ì]
 by_cases c4:s=⟨#[111,119,110,101,114]⟩
 . subst c4;rfl
 rw [Ç c4,Ì]
 unfold B1;rw [Ä c1]
 unfold B1;rw [Ä c2]
 unfold B1;rw [Ä c3]
 unfold B1;rw [Ä c4]
 unfold B1;rfl
theorem YR (e:Af)(hk:e.Kids.length<=1000000)(hf:∀ x∈e.Kids,Ev (fun n=>Bq n x) (I5 x)):Ev (fun n=>Bq n e) (I5 e):=by
 obtain⟨op,num,str,kids,at0⟩:=e
 simp only at hk hf
 have b:=Vg ⟨op,num,str,kids,at0⟩ hk hf kids 0 [] rfl (ò _) rfl
 refine Ev.step (fun n=>Bq.eq_2 (n:=n) ⟨op,num,str,kids,at0⟩) ?_
 unfold I5
 rw [AI]
 obtain⟨v,l⟩:=OS op
 simp only [l,Á]
 have m:((bif (decide (op<1)) then some true else bif (decide (20<op)) then some true else bif (decide (0<=v)) then some ((kids.length:Int) != v) else some false):Option Bool) =
  some (decide (op<1∨20<op∨(0<=arity op/\(kids.length:Int)≠arity op))):=by
  by_cases c1:op<1
  . simp [c1]
  have:v=arity op:=by have:=LY op (by omega);rw [l] at this;exact Ag this
  subst this
  by_cases c2:20<op
  . simp [c1,c2]
  by_cases c3:0<=arity op
  . by_cases c4:(kids.length:Int)=arity op
    . simp [c1,c2,c3,c4]
    . simp [c1,c2,c3,c4]
  . simp [c1,c2,c3]
 simp only [m,Á]
 by_cases c:op<1∨20<op∨(0<=arity op/\(kids.length:Int)≠arity op)
 . rw [È c]
   simp only [Í c,Î]
   exact Ev.pure
 . rw [Ä c]
   simp only [Ç c,Ì]
   refine Ev.bind b ?_
   cases p:Cc kids with
   |inr o=>exact Ev.pure
   |inl ts =>
    obtain⟨t1,t2⟩:=QD p
    simp only [ê]
    by_cases f:op=1
    . subst f
      simp only [ì,Î,ñ]
      by_cases n1:num<0
      . simp only [n1,decide_true,Î,Á,true_or,ñ];exact Ev.pure
      . by_cases n2:999999999999999<num
        . simp only [n1,n2,decide_true,decide_false,Î,Ì,Á,or_true,ñ];exact Ev.pure
        . simp only [n1,n2,decide_false,Ì,Á,or_self,ó];exact Ev.pure
    simp only [show (op == 1)=false by simpa using f,Ì,Ä f]
    by_cases g:op=2
    . subst g
      simp only [ì,Î,ñ,Á];exact Ev.pure
    simp only [show (op == 2)=false by simpa using g,Ì,Ä g]
    by_cases i:op=3
    . subst i
      simp only [ì,Î,ñ,YM,Á]
      cases q:(B1 BX str).2 with
      |true =>
       have d:=VB str q
       unfold JS at d
       simp only [ñ]
       rw [show ((B1 BX str).1 == 0)=false by simp;omega]
       exact Ev.pure
      |false=>simp only [Þ,ó];exact Ev.pure
    simp only [show (op == 3)=false by simpa using i,Ì,Ä i]
    by_cases d:op=4
    . subst d
      simp only [ì,Î,Aee str ts t1,Á]
      unfold AY
      cases j:pick 4 str ts D4 with
      |some o =>
       have a:=j
       unfold pick at a
       have k:=Ro o (List.mem_of_find?_eq_some a)
       unfold JS at k
       simp only [I7]
       rw [show (o.kind == 0)=false by simp;omega]
       exact Ev.pure
      |none =>
       simp only [ē,I7]
       cases known 4 str D4 with
       |false=>exact Ev.pure
       |true =>
        cases H5 4 str ts D4 with
        |false=>exact Ev.pure
        |true=>exact Ev.pure
    . have r:(ts.length:Int)=arity op:=by
       rw [t2]
       by_cases c2:(kids.length:Int)=arity op
       . exact c2
       . exact absurd (.inr (.inr ⟨by unfold arity;(repeat' split)<;>first|omega|decide,c2⟩)) c
      simp only [show (op == 4)=false by simpa using d,Ì,Zb (show 5<=op by omega) (show op<=20 by omega) str r t1,Á]
      unfold AY
      cases j:pick op str ts D4 with
      |some o =>
       have a:=j
       unfold pick at a
       have k:=Ro o (List.mem_of_find?_eq_some a)
       unfold JS at k
       simp only [Ul]
       rw [show (o.kind == 0)=false by simp;omega]
       exact Ev.pure
      |none =>
       simp only [Ul,d,false_and,ó]
       exact Ev.pure
mutual
theorem Qb:∀ (e:Af),CY e=true->Ev (fun n=>Bq n e) (I5 e)
 |.mk op num str kids at0,h=>by
  rw [CY,Å,Ï] at h
  exact YR _ h.1 (Vf kids h.2)
theorem Vf:∀ (l:List Af),Gx l=true->∀ x∈l,Ev (fun n=>Bq n x) (I5 x)
 | [],_,x,hx=>by simp at hx
 |e::l,h,x,hx=>by
  rw [Gx,Å] at h
  rcases List.mem_cons.1 hx with hx|hx
  . rw [hx];exact Qb e h.1
  . exact Vf l h.2 x hx
end
end Go.Sp
namespace Go.Sp
open Go
set_option maxRecDepth 100000
theorem Aav (f:Br):((bif (decide (f.Kind<1)) then
 some true
 else
  bif (decide (5<f.Kind)) then
   some true
  else
   bif (decide (f.Who<1)) then
    some true
   else
    bif (decide (1000<f.Who)) then
     some true
    else
     bif (decide (f.Day<0)) then
      some true
     else
      bif (decide (41666<f.Day)) then
       some true
      else
       bif (decide (f.Known<0)) then
        some true
       else
        some (decide (41666<f.Known))
 ):Option Bool)=some (!okF f):=by
 unfold okF
 by_cases a:f.Kind<1
 . rw [Í a];(try rw [Î]);congr 1;symm;rw [å,Ò];omega
 rw [Ç a,Ì]
 by_cases b:5<f.Kind
 . rw [Í b];(try rw [Î]);congr 1;symm;rw [å,Ò];omega
 rw [Ç b,Ì]
 by_cases c:f.Who<1
 . rw [Í c];(try rw [Î]);congr 1;symm;rw [å,Ò];omega
 rw [Ç c,Ì]
 by_cases d:1000<f.Who
 . rw [Í d];(try rw [Î]);congr 1;symm;rw [å,Ò];omega
 rw [Ç d,Ì]
 by_cases e:f.Day<0
 . rw [Í e];(try rw [Î]);congr 1;symm;rw [å,Ò];omega
 rw [Ç e,Ì]
 by_cases g:41666<f.Day
 . rw [Í g];(try rw [Î]);congr 1;symm;rw [å,Ò];omega
 rw [Ç g,Ì]
 by_cases i:f.Known<0
 . rw [Í i];(try rw [Î]);congr 1;symm;rw [å,Ò];omega
 rw [Ç i,Ì]
 by_cases j:41666<f.Known
 . rw [Í j];(try rw [Î]);congr 1;symm;rw [å,Ò];omega
 . rw [Ç j];congr 1;symm;rw [Bool.not_eq_false',Ï];omega
theorem Xs (d:Ai)(known:Int):((bif (decide (d.Stored<0)) then
 some true
 else
  bif (decide (41666<d.Stored)) then
   some true
  else
   bif (decide (known<0)) then
    some true
   else
    bif (decide (41666<known)) then
     some true
    else
     bif (decide (d.Owner<0)) then
      some true
     else
      some (decide (1000<d.Owner))
 ):Option Bool)=some (!decide (0<=d.Stored/\d.Stored<=41666/\0<=known/\known<=41666/\0<=d.Owner/\d.Owner<=1000)):=by
 by_cases a:d.Stored<0
 . rw [Í a];(try rw [Î]);congr 1;symm;rw [å,Ò];omega
 rw [Ç a,Ì]
 by_cases b:41666<d.Stored
 . rw [Í b];(try rw [Î]);congr 1;symm;rw [å,Ò];omega
 rw [Ç b,Ì]
 by_cases c:known<0
 . rw [Í c];(try rw [Î]);congr 1;symm;rw [å,Ò];omega
 rw [Ç c,Ì]
 by_cases e:41666<known
 . rw [Í e];(try rw [Î]);congr 1;symm;rw [å,Ò];omega
 rw [Ç e,Ì]
 by_cases f:d.Owner<0
 . rw [Í f];(try rw [Î]);congr 1;symm;rw [å,Ò];omega
 rw [Ç f,Ì]
 by_cases g:1000<d.Owner
 . rw [Í g];(try rw [Î]);congr 1;symm;rw [å,Ò];omega
 . rw [Ç g];congr 1;symm;rw [Bool.not_eq_false',Ï];omega
theorem Tc (d:Ai)(hl:d.Facts.length<=200):∀ (r:List Br) (k:Nat),d.Facts.drop k=r->k<=d.Facts.length->Ev (fun n=>B7 n d (k:Int)) (if r.all okF=true then .inl () else .inr 1)
 | [],k,hr,hk=>by
  have he:=Hh hr hk
  refine Ev.step (f:=fun n=>some (.inl ())) (fun n=>?_) Ev.pure
  rw [B7.eq_2,show (decide ((k:Int)<(d.Facts.length:Int)))=false by rw [Ò];omega];rfl
 |f::r,k,hr,hk=>by
  obtain⟨h1,h2⟩:=DM hr
  have ih:=Tc d hl r (k+1) h1 (by omega)
  have e:∀ n,B7 (n+1) d (k:Int)=bif !okF f then some (.inr 1) else B7 n d ((k+1:Nat):Int):=fun n=>by
   rw [B7.eq_2,Mf h2,Î,L2 hr,Á,Aav,Á,L3 (by omega)]
  refine Ev.step e ?_
  cases hf:okF f with
  |true=>simp only [Ā,Ì,ĉ,hf,č];exact ih
  |false=>simp only [ć,Î,ĉ,hf,Ī,Þ,ó];exact Ev.pure
theorem Jn (d:Ai)(known:Int):Ev (fun n=>DI n d known) (Da d known):=by
 unfold DI Da
 by_cases a:200<d.Facts.length
 . rw [Í (show (200:Int)<(d.Facts.length:Int) by omega),È a];exact Ev.pure
 . rw [Ç (show ¬ (200:Int)<(d.Facts.length:Int) by omega),Ä a]
   simp only [Ì]
   refine Ev.bind (Tc d (by omega) d.Facts 0 rfl (ò _)) ?_
   cases b:d.Facts.all okF with
   |false=>simp only [Þ,ó,false_and];exact Ev.pure
   |true =>
    simp only [ñ,û,Xs,Á]
    by_cases c:0<=d.Stored/\d.Stored<=41666/\0<=known/\known<=41666/\0<=d.Owner/\d.Owner<=1000
    . simp only [Í c,È c];exact Ev.pure
    . simp only [Ç c,Ä c];exact Ev.pure
theorem P1 (d:Ai):∀ (n:Nat) (k:Int),EJ n d k=B7 n d k
 |0,k=>rfl
 |n+1,k=>by
  rw [EJ.eq_2,B7.eq_2]
  simp only [P1 d n]
theorem Vz (n:Nat)(d:Ai)(known:Int):Gg n d known=DI n d known:=by
 unfold Gg DI
 simp only [P1]
theorem LZ (d:Ai)(known:Int):Ev (fun n=>Gg n d known) (Da d known):=by
 simp only [Vz];exact Jn d known
def Ai2 (b:Option Br)(out best:Int):Prop:=match b with
 |none=>out=41667/\best = -1
 |some f=>out=f.Day/\best=f.Known
theorem Rm (d:Ai)(kind who known:Int)(hl:d.Facts.length<=200)(hF:∀ f∈d.Facts,okF f=true):∀ (r:List Br) (k:Nat) (out best:Int) (b:Option Br),d.Facts.drop k=r->k<=d.Facts.length->Ai2 b out best ->
 Ev (fun n=>Cu n d kind who known out best (k:Int)) (Aeb (Kr (Zx known kind who) r b))
 | [],k,out,best,b,hr,hk,hb=>by
  have he:=Hh hr hk
  refine Ev.step (f:=fun n=>some out) (fun n=>?_) ?_
  . rw [Cu.eq_2,show (decide ((k:Int)<(d.Facts.length:Int)))=false by rw [Ò];omega];rfl
  . have:out=Aeb (Kr (Zx known kind who) [] b):=by
     unfold Kr
     cases b with
     |none=>exact hb.1
     |some f=>exact hb.1
    rw [<- this];exact Ev.pure
 |f::r,k,out,best,b,hr,hk,hb=>by
  obtain⟨i,j⟩:=DM hr
  have a:f∈d.Facts:=á (by rw [hr];simp)
  have c:=hF f a
  unfold okF at c
  rw [Ï] at c
  have l:((bif (f.Kind == kind) then
   bif (f.Who == who) then
    bif (decide (f.Known<=known)) then
     some (decide (best<=f.Known))
    else
     some false
   else
    some false
   else
    some false
   ):Option Bool)=some (Zx known kind who f&&QX b f):=by
   unfold Zx
   have:decide (best<=f.Known)=QX b f:=by
    cases b with
    |none=>obtain⟨_,rfl⟩:=hb;exact Í (by omega)
    |some g=>obtain⟨_,rfl⟩:=hb;rfl
   rw [this]
   cases (f.Kind == kind)<;>cases (f.Who == who)<;>cases (decide (f.Known<=known))<;>rfl
  have e:∀ n,Cu (n+1) d kind who known out best (k:Int)=bif (Zx known kind who f&&QX b f) then Cu n d kind who known f.Day f.Known ((k+1:Nat):Int) else Cu n d kind who known out best ((k+1:Nat):Int):=fun n=>by
   rw [Cu.eq_2,Mf j,Î,L2 hr,Á,l,Á,L3 (by omega)]
  refine Ev.step e ?_
  unfold Kr
  cases m:(Zx known kind who f&&QX b f) with
  |true=>simp only [Î,ñ];exact Rm d kind who known hl hF r (k+1) f.Day f.Known (some f) i (by omega) ⟨rfl,rfl⟩
  |false=>simp only [Ì,Þ,ó];exact Rm d kind who known hl hF r (k+1) out best b i (by omega) hb
theorem On (m:Ah)(hm:NK m)(kind who:Int):Ev (fun n=>DZ n m.d m.known kind who) (Nd m kind who):=by
 unfold DZ Nd
 exact Ev.bind (Rm m.d kind who m.known hm.len hm.facts m.d.Facts 0 41667 (-1) none rfl (ò _) ⟨rfl,rfl⟩) Ev.pure
theorem YG {a:Int}(h : -999999999999999<=a/\a<=999999999999999):(if (À (0-a)) > a then (À (0-a)) else a)=if a<0 then -a else a:=by
 rw [BF (by omega) (by omega)]
 by_cases c:a<0
 . rw [È (by omega),È c];omega
 . rw [Ä (by omega),Ä c]
theorem Xa (a b:Int)(ha : -999999999999999<=a/\a<=999999999999999)(hb : -999999999999999<=b/\b<=999999999999999):E8 a b=some (Fp (a*b)):=by
 unfold E8
 rw [YG ha,YG hb]
 by_cases a0:a=0
 . subst a0
   rw [Int.zero_mul];rfl
 by_cases b0:b=0
 . subst b0
   rw [Int.mul_zero,show (a == 0)=false by simpa using a0];rfl
 rw [show (a == 0)=false by simpa using a0,show (b == 0)=false by simpa using b0]
 simp only [Ì,Á]
 generalize f:(if a<0 then -a else a)=x
 generalize g:(if b<0 then -b else b)=y
 have x0:1<=x/\x<=999999999999999:=by split at f<;>omega
 have y0:1<=y/\y<=999999999999999:=by split at g<;>omega
 have e:(999999999999999:Int).tdiv y=999999999999999 / y:=Int.tdiv_eq_ediv_of_nonneg (by decide)
 have l:0<=(999999999999999:Int) / y:=Int.ediv_nonneg (by decide) (by omega)
 have m:(999999999999999:Int) / y<=999999999999999:=Int.ediv_le_self _ (by decide)
 have d:x<=999999999999999 / y↔x*y<=999999999999999:=Int.le_ediv_iff_mul_le (by omega)
 have n:0<=x*y:=Int.mul_nonneg (by omega) (by omega)
 have i:1<=x*y:=by
  have:=Int.mul_le_mul x0.1 y0.1 (by decide) (by omega)
  simpa using this
 have j:a*b=if (decide (a<0)) == (decide (b<0)) then x*y else -(x*y):=by
  by_cases c1:a<0<;>by_cases c2:b<0<;>simp only [c1,c2,ñ,ó,decide_true,decide_false] at f g ⊢<;>subst f<;>subst g<;>simp [Int.neg_mul,Int.mul_neg]
 rw [e,BF (by omega) (by omega)]
 have o:gnz y (999999999999999 / y)=some (999999999999999 / y):=by
  unfold gnz
  rw [È (by omega)]
 rw [o,Á]
 rw [j]
 obtain⟨p,k⟩:∃ p,p=x*y:=⟨_,rfl⟩
 rw [<- k] at d n i ⊢
 have r:((bif (decide (x<=999999999999999 / y)) then some (À p) else some 999999999999999):Option Int)=some (if p<=999999999999999 then p else 999999999999999):=by
  by_cases c:x<=999999999999999 / y
  . rw [Í c,Î,È (d.1 c),BF (by omega) (by have:=d.1 c;omega)]
  . rw [Ç c,Ì,Ä (fun h=>c (d.2 h))]
 rw [r,Á]
 have hs:((bif (decide (a<0)) then
  bif (decide (0<b)) then
   some true
  else
   bif (decide (0<a)) then
    some (decide (b<0))
   else
    some false
  else
   bif (decide (0<a)) then
    some (decide (b<0))
   else
    some false
  ):Option Bool)=some (!((decide (a<0)) == (decide (b<0)))):=by
  by_cases c1:a<0
  . by_cases c2:b<0
    . rw [Í c1,Í c2,Ç (show ¬ 0<b by omega),Ç (show ¬ 0<a by omega)];rfl
    . rw [Í c1,Ç c2,Í (show 0<b by omega)];rfl
  . rw [Ç c1,Í (show 0<a by omega)]
    by_cases c2:b<0
    . rw [Í c2];rfl
    . rw [Ç c2];rfl
 rw [hs,Á]
 have e:∃ q,(if p<=999999999999999 then p else 999999999999999)=q/\0<=q/\q<=999999999999999/\(p<=999999999999999->q=p)/\(999999999999999<p->q=999999999999999):=by
  refine⟨_,rfl,?_⟩
  split<;>omega
 obtain⟨q,e,q1,q2,q3,q4⟩:=e
 rw [e]
 unfold Fp
 cases s:(decide (a<0)) == (decide (b<0)) with
 |true =>
  rw [Ā,Ì,È rfl,Ä (by omega)]
  congr 1
  by_cases c:999999999999999<p
  . rw [È c];omega
  . rw [Ä c];omega
 |false =>
  rw [ć,Î,Ä Bool.false_ne_true,BF (by omega) (by omega)]
  congr 1
  by_cases c:999999999999999<p
  . rw [È (by omega)];omega
  . rw [Ä (by omega),Ä (by omega)];omega
end Go.Sp
namespace Go.Sp
open Go
set_option maxRecDepth 100000
def EW (n:Nat)(e:Af)(d:Ai)(known:Int)(x:List Int):Option Int :=
 bif (e.Op == 1) then
  some e.N
 else
  bif (e.Op == 3) then
   bif (decide (e.S=⟨#[121,101,97,114]⟩)) then
    some 365
   else
    bif (decide (e.S=⟨#[115,116,111,114,101,100]⟩)) then
     some d.Stored
    else
     bif (decide (e.S=⟨#[111,119,110,101,114]⟩)) then
      some d.Owner
     else
      some 41667
  else
   bif (e.Op == 4) then
    bif (decide (e.S=⟨#[100,97,121]⟩)) then
     (gi x 0).bind fun x1 =>
     some (if (if 41667<x1 then 41667 else x1) > 0 then (if 41667<x1 then 41667 else x1) else 0)
    else
     bif (decide (e.S=⟨#[112,101,114,115,111,110]⟩)) then
      (gi x 0).bind fun x2 =>
      some (if (if 1000<x2 then 1000 else x2) > 0 then (if 1000<x2 then 1000 else x2) else 0)
     else
      bif (decide (e.S=⟨#[109,105,110]⟩)) then
       (gi x 0).bind fun x3 =>
       (gi x 1).bind fun x4 =>
       some (if x4<x3 then x4 else x3)
      else
       bif (decide (e.S=⟨#[109,97,120]⟩)) then
        (gi x 0).bind fun x5 =>
        (gi x 1).bind fun x6 =>
        some (if x6 > x5 then x6 else x5)
       else
        (gi x 0).bind fun x7 =>
        (EU e.S).bind fun f =>
        (DZ n d known f x7).bind fun l =>
        some l
   else
    bif (e.Op == 5) then
     (gi x 0).bind fun x8 =>
     some (À (1-x8))
    else
     bif (e.Op == 6) then
      (gi x 0).bind fun x9 =>
      some (À (0-x9))
     else
      bif (e.Op == 7) then
       (gi x 0).bind fun x10 =>
       (gi x 1).bind fun x11 =>
       (E8 x10 x11).bind fun p =>
       some p
      else
       ((bif (e.Op == 10) then
        some (e.Op == 10)
       else
        some (e.Op == 11)
       ):Option Bool).bind fun v116 =>
        bif v116 then
         (gi x 1).bind fun x12 =>
         ((bif (e.Op == 11) then
          some (À (0-x12))
         else
          some x12
         ):Option Int).bind fun n_ =>
          (gi e.Kids 0).bind fun x13 =>
          (Bq n x13).bind fun left =>
          (gi e.Kids 1).bind fun x14 =>
          (Bq n x14).bind fun right =>
          ((bif (left.T == 2) then
           some (right.T == 1)
          else
           some false
          ):Option Bool).bind fun v144 =>
           bif v144 then
            (gi x 0).bind fun x15 =>
            (ET x15 n_).bind fun m_ =>
            some m_
           else
            (gi x 0).bind fun x16 =>
            (DC (À (x16+n_))).bind fun n_1 =>
            some n_1
        else
         bif (e.Op == 18) then
          (gi x 0).bind fun x17 =>
          (gi x 1).bind fun x18 =>
          some (À (x17*x18))
         else
          bif (e.Op == 19) then
           (gi x 0).bind fun x19 =>
           (gi x 1).bind fun x20 =>
           some (if x20 > x19 then x20 else x19)
          else
           bif (e.Op == 20) then
            (gi x 0).bind fun x21 =>
            bif (x21 == 1) then
             (gi x 1).bind fun x22 =>
             some x22
            else
             (gi x 2).bind fun x23 =>
             some x23
           else
            (gi x 0).bind fun x24 =>
            (gi x 1).bind fun x25 =>
            (HV e.Op x24 x25).bind fun c =>
            some c
theorem Abm (n:Nat)(e:Af)(d:Ai)(known:Int):BJ (n+1) e d known=(Di n e d known [] 0).bind fun x=>EW n e d known x:=by
 rw [BJ.eq_2];rfl
section
variable (n:Nat) (num at0:Int) (s:Æ) (kids:List Af) (m:Ah)
def Ir (m:Ah)(o:Ac):Prop:=∀ (num at0:Int) (s:Æ) (kids:List Af) (xs:List Int),(o.op=4->s=o.name)->PY o.args xs->Cc kids=.inl o.args->Gx kids=true->Ev (fun n=>EW n (.mk o.op num s kids at0) m.d m.known xs) (Sy m o.do_ xs)
theorem Ww (n:Int):(if (if 999999999999999<n then 999999999999999 else n) > (-999999999999999) then (if 999999999999999<n then 999999999999999 else n) else (-999999999999999))=Fp n:=by
 unfold Fp
 repeat' split
 all_goals omega
theorem PI (n:Int):(if (if 41667<n then 41667 else n) > 0 then (if 41667<n then 41667 else n) else 0)=Mw n:=by
 unfold Mw
 repeat' split
 all_goals omega
theorem Wv (n:Int):(if (if 1000<n then 1000 else n) > 0 then (if 1000<n then 1000 else n) else 0)=NI n:=by
 unfold NI
 repeat' split
 all_goals omega
theorem Oe (n:Int):DC n=some (Fp n):=by
 unfold DC;rw [Ww]
theorem Vx {d n:Int}(h : -1000000000000000<=n/\n<=1000000000000000)(h2:0<=d/\d<=41667):ET d n=some (KI d n):=by
 unfold ET KI
 by_cases c:d=41667
 . rw [È c,show (d == 41667)=true by simpa using c];rfl
 . rw [Ä c,show (d == 41667)=false by simpa using c,Ì,BF (by omega) (by omega),PI]
theorem Ae7 {kids:List Af}{t u:Int}(h:Cc kids=.inl [t,u]):∃ a b,kids=[a,b]/\(AI a).1=t/\(AI b).1=u:=by
 have d:=(QD h).2
 match kids,h,d with
 | [a,b],h,_ =>
  refine⟨a,b,rfl,?_⟩
  rw [Cc] at h
  split at h
  . cases h
  . rw [Cc] at h
    split at h
    . rename_i c;split at c<;>cases c<;>cases h<;>exact⟨rfl,rfl⟩
    . cases h
theorem Ag2 (op:Int)(hop:op=10∨op=11)(n:Nat)(num at0:Int)(s:Æ)(p q:Af)(d:Ai)(known a b:Int):EW n (.mk op num s [p,q] at0) d known [a,b] =
 (Bq n p).bind fun left=>(Bq n q).bind fun right=>((bif (left.T == 2) then some (right.T == 1) else some false):Option Bool).bind fun v=>bif v then (ET a (if op=11 then À (0-b) else b)).bind (fun m_=>some m_) else (DC (À (a+(if op=11 then À (0-b) else b)))).bind fun n_1=>some n_1:=by
 rcases hop with rfl|rfl<;>kernel_rfl
theorem add_eq (m:Ah)(op t u k:Int)(dd:Do)(hop:op=10∨op=11)(hd:∀ a b,II t a->II u b->Sy m dd [a,b]=(if t=2/\u=1 then KI a (if op=11 then -b else b) else Fp (a+(if op=11 then -b else b))))
 (ht:(t=1/\u=1)∨(t=2/\u=1)∨(t=2/\u=2)):Ir m ⟨op,⟨#[]⟩,[t,u],k,dd⟩:=by
 intro num at0 s kids xs _ e f hs
 obtain⟨a,b,rfl,d,hb⟩:=VY e
 obtain⟨p,q,rfl,g,i⟩:=Ae7 f
 simp only [Ag2 op hop]
 rw [Gx,Gx,Å,Å] at hs
 refine Ev.bind (Qb p hs.1) (Ev.bind (Qb q hs.2.1) ?_)
 have e1:(I5 p).T=t:=g
 have e2:(I5 q).T=u:=i
 rw [e1,e2]
 have ra : -999999999999999<=a/\a<=999999999999999:=by unfold II at d;omega
 have rb : -999999999999999<=b/\b<=999999999999999:=by unfold II at hb;omega
 have j:(if op=11 then À (0-b) else b)=(if op=11 then -b else b):=by
  split
  . rw [BF (by omega) (by omega)];omega
  . rfl
 rw [j,hd a b d hb]
 have l : -999999999999999<=(if op=11 then -b else b)/\(if op=11 then -b else b)<=999999999999999:=by split<;>omega
 generalize (if op=11 then -b else b)=c at *
 rcases ht with⟨rfl,rfl⟩|⟨rfl,rfl⟩|⟨rfl,rfl⟩
 . rw [Ä (by decide)]
   show Ev (fun n=>(DC (À (a+c))).bind fun n_1=>some n_1) _
   rw [BF (by omega) (by omega),Oe];exact Ev.pure
 . rw [È (by decide)]
   show Ev (fun n=>(ET a c).bind fun n_1=>some n_1) _
   rw [Vx (by omega) (in2 d)];exact Ev.pure
 . rw [Ä (by decide)]
   show Ev (fun n=>(DC (À (a+c))).bind fun n_1=>some n_1) _
   rw [BF (by omega) (by omega),Oe];exact Ev.pure
theorem Aiq (m:Ah)(hm:NK m):Ir m ⟨6,⟨#[]⟩,[1],1,.c 82⟩:=by
 intro num at0 s kids xs _ b _ _
 obtain⟨a,rfl,f⟩:=S4 b
 have e:∀ n,EW n (.mk 6 num s kids at0) m.d m.known [a]=some (À (0-a)):=fun n=>by kernel_rfl
 have g:=ZN f
 refine Ev.of fun n=>(e n).trans ?_
 rw [BF (by omega) (by omega)]
 show some (0-a)=some (-a)
 congr 1;omega
theorem Aip (m:Ah)(hm:NK m):Ir m ⟨7,⟨#[]⟩,[1,1],1,.c 83⟩:=by
 intro num at0 s kids xs _ f _ _
 obtain⟨a,b,rfl,g,hb⟩:=VY f
 have e:∀ n,EW n (.mk 7 num s kids at0) m.d m.known [a,b]=(E8 a b).bind fun p=>some p:=fun n=>by kernel_rfl
 refine Ev.of fun n=>(e n).trans ?_
 rw [Xa a b (ZN g) (ZN hb)];rfl
theorem Aio (m:Ah)(hm:NK m):Ir m ⟨10,⟨#[]⟩,[1,1],1,.c 85⟩:=add_eq m 10 1 1 1 _ (.inl rfl) (fun a b _ _=>by simp only [show ¬ ((1:Int)=2/\(1:Int)=1) by decide,ó,show ¬ ((10:Int)=11) by decide];rfl) (.inl ⟨rfl,rfl⟩)
theorem Ain (m:Ah)(hm:NK m):Ir m ⟨10,⟨#[]⟩,[2,1],2,.c 87⟩:=add_eq m 10 2 1 2 _ (.inl rfl) (fun a b _ _=>by simp only [and_self,ñ,show ¬ ((10:Int)=11) by decide,ó];rfl) (.inr (.inl ⟨rfl,rfl⟩))
theorem Aim (m:Ah)(hm:NK m):Ir m ⟨11,⟨#[]⟩,[1,1],1,.c 89⟩:=add_eq m 11 1 1 1 _ (.inr rfl) (fun a b _ _=>by simp only [show ¬ ((1:Int)=2/\(1:Int)=1) by decide,ó,ñ,<- Int.sub_eq_add_neg];rfl) (.inl ⟨rfl,rfl⟩)
theorem Ail (m:Ah)(hm:NK m):Ir m ⟨11,⟨#[]⟩,[2,1],2,.c 90⟩:=add_eq m 11 2 1 2 _ (.inr rfl) (fun a b _ _=>by simp only [and_self,ñ];rfl) (.inr (.inl ⟨rfl,rfl⟩))
theorem Aik (m:Ah)(hm:NK m):Ir m ⟨11,⟨#[]⟩,[2,2],1,.c 91⟩:=add_eq m 11 2 2 1 _ (.inr rfl) (fun a b ha hb=>by
 have h1:=in2 ha
 have h2:=in2 hb
 simp only [show ¬ ((2:Int)=2/\(2:Int)=1) by decide,ó,ñ,<- Int.sub_eq_add_neg]
 have:Fp (a-b)=a-b:=by unfold Fp;rw [Ä (by omega),Ä (by omega)]
 rw [this];rfl) (.inr (.inr ⟨rfl,rfl⟩))
theorem Aij (m:Ah)(hm:NK m):Ir m ⟨5,⟨#[]⟩,[3],3,.c 92⟩:=by
 intro num at0 s kids xs _ b _ _
 obtain⟨a,rfl,f⟩:=S4 b
 have e:∀ n,EW n (.mk 5 num s kids at0) m.d m.known [a]=some (À (1-a)):=fun n=>by kernel_rfl
 have g:=Yw f
 refine Ev.of fun n=>(e n).trans ?_
 rw [BF (by omega) (by omega)];rfl
theorem Aii (m:Ah)(hm:NK m):Ir m ⟨18,⟨#[]⟩,[3,3],3,.c 93⟩:=by
 intro num at0 s kids xs _ f _ _
 obtain⟨a,b,rfl,g,hb⟩:=VY f
 have e:∀ n,EW n (.mk 18 num s kids at0) m.d m.known [a,b]=some (À (a*b)):=fun n=>by kernel_rfl
 refine Ev.of fun n=>(e n).trans ?_
 have i:a=0∨a=1:=by have:=Yw g;omega
 have j:b=0∨b=1:=by have:=Yw hb;omega
 rcases i with rfl|rfl<;>rcases j with rfl|rfl<;>rfl
theorem Aih (m:Ah)(hm:NK m):Ir m ⟨19,⟨#[]⟩,[3,3],3,.c 94⟩:=by
 intro num at0 s kids xs _ f _ _
 obtain⟨a,b,rfl,g,hb⟩:=VY f
 have e:∀ n,EW n (.mk 19 num s kids at0) m.d m.known [a,b]=some (if b > a then b else a):=fun n=>by kernel_rfl
 refine Ev.of fun n=>(e n).trans ?_
 show some (if b > a then b else a)=some (max a b)
 congr 1
 split<;>omega
theorem Ags (m:Ah)(hm:NK m):Ir m ⟨4,⟨#[100,97,121]⟩,[1],2,.c 95⟩:=by
 intro num at0 s kids xs hs b _ _
 obtain⟨a,rfl,f⟩:=S4 b
 have e:∀ n,EW n (.mk 4 num ⟨#[100,97,121]⟩ kids at0) m.d m.known [a]=some (if (if 41667<a then 41667 else a) > 0 then (if 41667<a then 41667 else a) else 0):=fun n=>by kernel_rfl
 obtain rfl:=hs rfl
 refine Ev.of fun n=>(e n).trans ?_
 rw [PI];rfl
theorem Agr (m:Ah)(hm:NK m):Ir m ⟨4,⟨#[112,101,114,115,111,110]⟩,[1],4,.c 97⟩:=by
 intro num at0 s kids xs hs b _ _
 obtain⟨a,rfl,f⟩:=S4 b
 have e:∀ n,EW n (.mk 4 num ⟨#[112,101,114,115,111,110]⟩ kids at0) m.d m.known [a]=some (if (if 1000<a then 1000 else a) > 0 then (if 1000<a then 1000 else a) else 0):=fun n=>by kernel_rfl
 obtain rfl:=hs rfl
 refine Ev.of fun n=>(e n).trans ?_
 rw [Wv];rfl
theorem Agq (m:Ah)(hm:NK m):Ir m ⟨4,⟨#[98,111,114,110]⟩,[4],2,.k 0⟩:=by
 intro num at0 s kids xs hs b _ _
 obtain⟨a,rfl,c⟩:=S4 b
 have e:∀ n,EW n (.mk 4 num ⟨#[98,111,114,110]⟩ kids at0) m.d m.known [a]=(DZ n m.d m.known 1 a).bind fun l=>some l:=fun n=>by kernel_rfl
 obtain rfl:=hs rfl
 exact Ev.congr (Ev.bind (On m hm 1 a) Ev.pure) e
theorem Agp (m:Ah)(hm:NK m):Ir m ⟨4,⟨#[100,105,101,100]⟩,[4],2,.k 1⟩:=by
 intro num at0 s kids xs hs b _ _
 obtain⟨a,rfl,c⟩:=S4 b
 have e:∀ n,EW n (.mk 4 num ⟨#[100,105,101,100]⟩ kids at0) m.d m.known [a]=(DZ n m.d m.known 2 a).bind fun l=>some l:=fun n=>by kernel_rfl
 obtain rfl:=hs rfl
 exact Ev.congr (Ev.bind (On m hm 2 a) Ev.pure) e
theorem Ago (m:Ah)(hm:NK m):Ir m ⟨4,⟨#[97,115,107,101,100]⟩,[4],2,.k 2⟩:=by
 intro num at0 s kids xs hs b _ _
 obtain⟨a,rfl,c⟩:=S4 b
 have e:∀ n,EW n (.mk 4 num ⟨#[97,115,107,101,100]⟩ kids at0) m.d m.known [a]=(DZ n m.d m.known 3 a).bind fun l=>some l:=fun n=>by kernel_rfl
 obtain rfl:=hs rfl
 exact Ev.congr (Ev.bind (On m hm 3 a) Ev.pure) e
theorem Agn (m:Ah)(hm:NK m):Ir m ⟨4,⟨#[104,101,108,100]⟩,[4],2,.k 3⟩:=by
 intro num at0 s kids xs hs b _ _
 obtain⟨a,rfl,c⟩:=S4 b
 have e:∀ n,EW n (.mk 4 num ⟨#[104,101,108,100]⟩ kids at0) m.d m.known [a]=(DZ n m.d m.known 4 a).bind fun l=>some l:=fun n=>by kernel_rfl
 obtain rfl:=hs rfl
 exact Ev.congr (Ev.bind (On m hm 4 a) Ev.pure) e
theorem Agm (m:Ah)(hm:NK m):Ir m ⟨4,⟨#[108,105,102,116,101,100]⟩,[4],2,.k 4⟩:=by
 intro num at0 s kids xs hs b _ _
 obtain⟨a,rfl,c⟩:=S4 b
 have e:∀ n,EW n (.mk 4 num ⟨#[108,105,102,116,101,100]⟩ kids at0) m.d m.known [a]=(DZ n m.d m.known 5 a).bind fun l=>some l:=fun n=>by kernel_rfl
 obtain rfl:=hs rfl
 exact Ev.congr (Ev.bind (On m hm 5 a) Ev.pure) e
theorem Ad9 (m:Ah)(hm:NK m):∀ o∈Fq,Ir m o:=by
 unfold Fq
 simp only [List.forall_mem_cons,Ĝ,false_imp_iff,implies_true,and_true]
 exact⟨Aiq m hm,Aip m hm,Aio m hm,Ain m hm,Aim m hm,Ail m hm,Aik m hm,Aij m hm,Aii m hm,Aih m hm,Ags m hm,Agr m hm,Agq m hm,Agp m hm,Ago m hm,Agn m hm,Agm m hm⟩
theorem Agl (m:Ah)(i:Nat):∀ o∈Hd i,Ir m o:=by
 have tr:∀ b:Bool,(Ch b).bind (fun t=>some t)=some (Ow b):=fun b=>by cases b<;>rfl
 have cmp:∀ (p:Int×Nat),p∈opk->∀ t:Int,Ir m ⟨p.1,⟨#[]⟩,[t,t],3,.is p.2⟩:=by
  intro p j t num at0 s kids xs _ k _ _
  obtain⟨a,b,rfl,_,_⟩:=VY k
  unfold opk at j
  simp only [Ē,Ĝ,or_false] at j
  rcases j with rfl|rfl|rfl|rfl|rfl|rfl
  . have e:∀ n,EW n (.mk 14 num s kids at0) m.d m.known [a,b]=((Ch (decide (a<b))).bind fun t=>some t).bind (fun c=>some c):=fun n=>by kernel_rfl
    refine Ev.of fun n=>(e n).trans ?_
    rw [tr];rfl
  . have e:∀ n,EW n (.mk 15 num s kids at0) m.d m.known [a,b]=((Ch (decide (a<=b))).bind fun t=>some t).bind (fun c=>some c):=fun n=>by kernel_rfl
    refine Ev.of fun n=>(e n).trans ?_
    rw [tr];rfl
  . have e:∀ n,EW n (.mk 16 num s kids at0) m.d m.known [a,b]=((Ch (decide (b<a))).bind fun t=>some t).bind (fun c=>some c):=fun n=>by kernel_rfl
    refine Ev.of fun n=>(e n).trans ?_
    rw [tr];rfl
  . have e:∀ n,EW n (.mk 17 num s kids at0) m.d m.known [a,b]=((Ch (decide (b<=a))).bind fun t=>some t).bind (fun c=>some c):=fun n=>by kernel_rfl
    refine Ev.of fun n=>(e n).trans ?_
    rw [tr];rfl
  . have e:∀ n,EW n (.mk 12 num s kids at0) m.d m.known [a,b]=((Ch (a == b)).bind fun t=>some t).bind (fun c=>some c):=fun n=>by kernel_rfl
    refine Ev.of fun n=>(e n).trans ?_
    rw [tr];rfl
  . have e:∀ n,EW n (.mk 13 num s kids at0) m.d m.known [a,b]=((Ch (a != b)).bind fun t=>some t).bind (fun c=>some c):=fun n=>by kernel_rfl
    refine Ev.of fun n=>(e n).trans ?_
    rw [tr];rfl
 intro o g
 unfold Hd at g
 split at g
 . rename_i op f e
   have j:=Ð e
   unfold Jq at g
   split at g<;>simp at g
   . rcases g with rfl|rfl|rfl<;>exact cmp (op,f) j _
   . rcases g with rfl|rfl<;>exact cmp (op,f) j _
 . simp at g
theorem Ad8 (m:Ah):∀ o∈MV,Ir m o:=by
 have ite:∀ t:Int,Ir m ⟨20,⟨#[]⟩,[3,t,t],t,.c 108⟩:=by
  intro t num at0 s kids xs _ f _ _
  obtain⟨a,b,c,rfl,g,_,_⟩:=Aif f
  have e:∀ n,EW n (.mk 20 num s kids at0) m.d m.known [a,b,c]=bif (a == 1) then some b else some c:=fun n=>by kernel_rfl
  refine Ev.of fun n=>(e n).trans ?_
  have i:a=0∨a=1:=by have:=Yw g;omega
  rcases i with rfl|rfl<;>rfl
 have minc:∀ t:Int,Ir m ⟨4,⟨#[109,105,110]⟩,[t,t],t,.c 109⟩:=by
  intro t num at0 s kids xs hs f _ _
  obtain⟨a,b,rfl,_,_⟩:=VY f
  have e:∀ n,EW n (.mk 4 num ⟨#[109,105,110]⟩ kids at0) m.d m.known [a,b]=some (if b<a then b else a):=fun n=>by kernel_rfl
  obtain rfl:=hs rfl
  refine Ev.of fun n=>(e n).trans ?_
  show some (if b<a then b else a)=some (min a b)
  congr 1
  split<;>omega
 have maxc:∀ t:Int,Ir m ⟨4,⟨#[109,97,120]⟩,[t,t],t,.c 110⟩:=by
  intro t num at0 s kids xs hs f _ _
  obtain⟨a,b,rfl,_,_⟩:=VY f
  have e:∀ n,EW n (.mk 4 num ⟨#[109,97,120]⟩ kids at0) m.d m.known [a,b]=some (if b > a then b else a):=fun n=>by kernel_rfl
  obtain rfl:=hs rfl
  refine Ev.of fun n=>(e n).trans ?_
  show some (if b > a then b else a)=some (max a b)
  congr 1
  split<;>omega
 unfold MV
 simp only [List.forall_mem_cons,Ĝ,false_imp_iff,implies_true,and_true]
 exact⟨ite 1,minc 1,maxc 1,ite 2,minc 2,maxc 2,ite 3,ite 4⟩
theorem Agk (m:Ah)(hm:NK m)(os:List Nat):∀ o∈opsOf os,Ir m o:=by
 intro o ho
 unfold opsOf at ho
 rcases List.mem_append.1 ho with ho|ho
 . rcases List.mem_append.1 ho with ho|ho
   . exact Ad9 m hm o ho
   . obtain⟨i,_,a⟩:=List.mem_flatMap.1 ho
     exact Agl m i o a
 . exact Ad8 m o ho
theorem Wf (m:Ah)(e:Af)(hk:e.Kids.length<=1000000)(hf:∀ x∈e.Kids,Ev (fun n=>BJ n x m.d m.known) (HD m x)) :
 ∀ (r:List Af) (k:Nat) (vs:List Int),e.Kids.drop k=r->k<=e.Kids.length->vs.length=k->Ev (fun n=>Di n e m.d m.known vs (k:Int)) (vs++Mp m r)
 | [],k,vs,hr,hkl,_=>by
  have he:=Hh hr hkl
  refine Ev.step (f:=fun n=>some vs) (fun n=>?_) ?_
  . rw [Di.eq_2,show (decide ((k:Int)<(e.Kids.length:Int)))=false by rw [Ò];omega];rfl
  . rw [Mp,ă];exact Ev.pure
 |x::r,k,vs,hr,hkl,hvs=>by
  obtain⟨h1,h2⟩:=DM hr
  have hmem:x∈e.Kids:=á (by rw [hr];simp)
  refine Ev.step (f:=fun n=>(BJ n x m.d m.known).bind fun v=>Di n e m.d m.known (vs++[v]) ((k+1:Nat):Int)) (fun n=>?_) ?_
  . rw [Di.eq_2,Mf h2,Î,L2 hr,Á]
    congr 1
    funext v
    rw [Á,Y2 (by omega) (by simp),Á,L3 (by omega)]
  . refine Ev.bind (hf x hmem) ?_
    have ih:=Wf m e hk hf r (k+1) (vs++[HD m x]) h1 (by omega) (by simp [hvs])
    rw [Mp]
    simpa [ð] using ih
theorem Zn (m:Ah)(s:Æ)(h:(B1 BX s).2=true):(bif (decide (s=⟨#[121,101,97,114]⟩)) then some (365:Int) else bif (decide (s=⟨#[115,116,111,114,101,100]⟩)) then some m.d.Stored else bif (decide (s=⟨#[111,119,110,101,114]⟩)) then some m.d.Owner else some 41667) =
 some (B1 [(⟨#[121,101,97,114]⟩,365),(⟨#[115,116,111,114,101,100]⟩,m.d.Stored),(⟨#[110,101,118,101,114]⟩,41667),(⟨#[111,119,110,101,114]⟩,m.d.Owner)] s).1:=by
 by_cases c1:s=⟨#[121,101,97,114]⟩
 . subst c1;rfl
 by_cases c2:s=⟨#[115,116,111,114,101,100]⟩
 . subst c2;rfl
 by_cases c3:s=⟨#[110,101,118,101,114]⟩
 . subst c3;rfl
 by_cases c4:s=⟨#[111,119,110,101,114]⟩
 . subst c4;rfl
 exfalso
 unfold BX at h
 unfold B1 at h;rw [Ä c1] at h
 unfold B1 at h;rw [Ä c2] at h
 unfold B1 at h;rw [Ä c3] at h
 unfold B1 at h;rw [Ä c4] at h
 cases h
theorem Z5 (m:Ah)(hm:NK m)(op num at0:Int)(str:Æ)(kids:List Af)(hs:CY (.mk op num str kids at0)=true)(ht:(AI (.mk op num str kids at0)).2.2.E=0)
 (hkids:∀ x∈kids,Ev (fun n=>BJ n x m.d m.known) (HD m x)):Ev (fun n=>BJ n (.mk op num str kids at0) m.d m.known) (HD m (.mk op num str kids at0)):=by
 have a:=hs
 rw [CY,Å,Ï] at a
 obtain⟨ts,p,s⟩:=Ox ht
 have loop:=Wf m (.mk op num str kids at0) a.1 hkids kids 0 [] rfl (ò _) rfl
 refine Ev.step (fun n=>Abm n (.mk op num str kids at0) m.d m.known) (Ev.bind loop ?_)
 rw [ê]
 rcases s with⟨rfl,n1,n2,_,f⟩|⟨rfl,n1,_,f⟩|⟨c1,c3,o,g,i,b,f⟩
 . have e:∀ n,EW n (.mk 1 num str kids at0) m.d m.known (Mp m kids)=some num:=fun n=>by kernel_rfl
   rw [HD,È rfl]
   exact Ev.of e
 . rw [HD,Ä (by decide),È rfl]
   refine Ev.of fun n=>?_
   have e:EW n (.mk 3 num str kids at0) m.d m.known (Mp m kids)=(bif (decide (str=⟨#[121,101,97,114]⟩)) then some (365:Int) else bif (decide (str=⟨#[115,116,111,114,101,100]⟩)) then some m.d.Stored else bif (decide (str=⟨#[111,119,110,101,114]⟩)) then some m.d.Owner else some 41667):=by kernel_rfl
   rw [e,Zn m str n1]
 . have t:HD m (.mk op num str kids at0)=Sy m o.do_ (Mp m kids):=by rw [HD,Ä c1,Ä c3,f]
   have q:=i
   unfold pick at q
   have j:=List.find?_some q
   rw [Å] at j
   have k:o.op=op:=by have:=Uo j.1;simpa using this
   have l:o.op=4->str=o.name:=fun u=>by
    have:=j.1
    unfold hit at this
    rw [Å] at this
    have r:=this.2
    rw [u] at r
    have:o.name=str:=by simpa using r
    exact this.symm
   have c:PY o.args (Mp m kids):=by rw [b];exact (ON Ud m hm kids ts a.2 p).1
   have:=Agk m hm _ o g num at0 str kids (Mp m kids) l c (by rw [b];exact p) a.2
   rw [k] at this
   rw [t];exact this
theorem SE:∀ {l:List Af} {ts:List Int},Cc l=.inl ts->∀ e∈l,(AI e).2.2.E=0
 | [],_,_,e,he=>by simp at he
 |x::l,ts,h,e,he=>by
  rw [Cc] at h
  by_cases c:(AI x).2.2.E=0
  . rw [Ä (by simpa using c)] at h
    cases h2:Cc l with
    |inr o=>rw [h2] at h;cases h
    |inl us =>
     rcases List.mem_cons.1 he with rfl|he
     . exact c
     . exact SE h2 e he
  . rw [È c] at h;cases h
mutual
theorem Qj (m:Ah)(hm:NK m):∀ (e:Af),CY e=true->(AI e).2.2.E=0->Ev (fun n=>BJ n e m.d m.known) (HD m e)
 |.mk op num str kids at0,hs,ht=>by
  have hs2:=hs
  rw [CY,Å] at hs2
  obtain⟨ts,h1,_⟩:=Ox ht
  exact Z5 m hm op num at0 str kids hs ht (We m hm kids hs2.2 (SE h1))
theorem We (m:Ah)(hm:NK m):∀ (l:List Af),Gx l=true->(∀ e∈l,(AI e).2.2.E=0)->∀ x∈l,Ev (fun n=>BJ n x m.d m.known) (HD m x)
 | [],_,_,x,hx=>by simp at hx
 |e::l,hs,ht,x,hx=>by
  rw [Gx,Å] at hs
  rcases List.mem_cons.1 hx with hx|hx
  . rw [hx];exact Qj m hm e hs.1 (ht e (by simp))
  . exact We m hm l hs.2 (fun e he=>ht e (by simp [he])) x hx
end
end
end Go.Sp
namespace Go.Sp
open Go
mutual
def I6:Af->Int->Int
 |.mk _ _ _ kids _,n=>H3 kids (n-1)
def H3:List Af->Int->Int
 | [],n=>n
 |e::l,n=>if n<0 then n else H3 l (I6 e n)
end
mutual
theorem Mh:∀ (e:Af) (n:Int),I6 e n<=n-1
 |.mk _ _ _ kids _,n=>by rw [I6];exact Pc kids (n-1)
theorem Pc:∀ (l:List Af) (n:Int),H3 l n<=n
 | [],n=>by rw [H3];omega
 |e::l,n=>by
  rw [H3]
  split
  . omega
  . have h1:=Mh e n
    have h2:=Pc l (I6 e n)
    omega
end
theorem Rj:∀ (l:List Af) (n:Int),0<=H3 l n->(l.length:Int)<=n
 | [],n,h=>by rw [H3] at h;simpa using h
 |e::l,n,h=>by
  rw [H3] at h
  split at h
  . omega
  . have h1:=Mh e n
    have h2:=Rj l _ h
    simp only [à]
    omega
mutual
theorem Rk:∀ (e:Af) (n:Int),0<=I6 e n->n<=1000000->CY e=true
 |.mk _ _ _ kids _,n,h,hn=>by
  rw [I6] at h
  have:=Rj kids (n-1) h
  rw [CY,Å,Ï]
  exact⟨by omega,P9 kids (n-1) h (by omega)⟩
theorem P9:∀ (l:List Af) (n:Int),0<=H3 l n->n<=1000000->Gx l=true
 | [],_,_,_=>by rw [Gx]
 |e::l,n,h,hn=>by
  rw [H3] at h
  split at h
  . omega
  . have h1:=Mh e n
    have h2:=Pc l (I6 e n)
    rw [Gx,Å]
    exact⟨Rk e n (by omega) hn,P9 l _ h (by omega)⟩
end
theorem VJ (e:Af)(hf:∀ x∈e.Kids,∀ n,0<=n->n<=1000->Ev (fun k=>C4 k x n) (I6 x n)/\-1<=I6 x n) :
 ∀ (r:List Af) (k:Nat) (n:Int),e.Kids.drop k=r->k<=e.Kids.length->-1<=n->(k:Int)+n<=1000->Ev (fun m=>Dh m e n (k:Int)) (H3 r n)/\-1<=H3 r n
 | [],k,n,hr,hkl,hn,_=>by
  have he:=Hh hr hkl
  rw [H3]
  refine⟨Ev.step (f:=fun _=>some n) (fun m=>?_) Ev.pure,hn⟩
  rw [Dh.eq_2,show (decide ((k:Int)<(e.Kids.length:Int)))=false by rw [Ò];omega];rfl
 |x::r,k,n,hr,hkl,hn,hb=>by
  obtain⟨h1,h2⟩:=DM hr
  rw [H3]
  by_cases c:n<0
  . rw [È c]
    refine⟨Ev.step (f:=fun _=>some n) (fun m=>?_) Ev.pure,hn⟩
    rw [Dh.eq_2,Mf h2,Î,Ç (by omega)];rfl
  . rw [Ä c]
    have hmem:x∈e.Kids:=á (by rw [hr];simp)
    obtain⟨f1,f2⟩:=hf x hmem n (by omega) (by omega)
    have f3:=Mh x n
    obtain⟨i1,i2⟩:=VJ e hf r (k+1) (I6 x n) h1 (by omega) f2 (by omega)
    refine⟨Ev.step (f:=fun m=>(C4 m x n).bind fun n3=>Dh m e n3 ((k+1:Nat):Int)) (fun m=>?_) (Ev.bind f1 i1),i2⟩
    rw [Dh.eq_2,Mf h2,Î,Í (by omega),Á,Î,L2 hr,Á,L3 (by omega)]
mutual
theorem Ui:∀ (e:Af) (n:Int),0<=n->n<=1000->Ev (fun k=>C4 k e n) (I6 e n)/\-1<=I6 e n
 |.mk op num s kids at0,n,h0,h1=>by
  have h:=VJ (.mk op num s kids at0) (VI kids) kids 0 (n-1) rfl (ò _) (by omega) (by simp;omega)
  rw [I6]
  refine⟨Ev.step (fun k=>C4.eq_2 (n:=k) (.mk op num s kids at0) n) (Ev.bind ?_ Ev.pure),h.2⟩
  rw [BF (by omega) (by omega)]
  exact h.1
theorem VI:∀ (l:List Af),∀ x∈l,∀ n,0<=n->n<=1000->Ev (fun k=>C4 k x n) (I6 x n)/\-1<=I6 x n
 | [],x,hx=>by simp at hx
 |e::l,x,hx=>by
  rcases List.mem_cons.1 hx with hx|hx
  . rw [hx];exact Ui e
  . exact VI l x hx
end
def Gw (e:Af)(n:Int):Int:=if n<0 then n else I6 e n
def Fo (c:Aa)(n:Int):Int:=Gw c.When (Gw c.To (Gw c.From n))
def Mo:List Aa->Int->Int
 | [],n=>n
 |c::l,n=>if n<0 then n else Mo l (Fo c n)
theorem Ho (e:Af)(n:Int):Gw e n<=n:=by
 unfold Gw
 split
 . omega
 . have:=Mh e n;omega
theorem LL {e:Af}{n:Int}(h : -1<=n)(h1:n<=1000) : -1<=Gw e n:=by
 unfold Gw
 split
 . omega
 . exact (Ui e n (by omega) h1).2
theorem NH (c:Aa)(n:Int):Fo c n<=n:=by
 unfold Fo
 have a:=Ho c.From n
 have b:=Ho c.To (Gw c.From n)
 have d:=Ho c.When (Gw c.To (Gw c.From n))
 omega
theorem Wd:∀ (l:List Aa) (n:Int),Mo l n<=n
 | [],n=>by rw [Mo];omega
 |c::l,n=>by
  rw [Mo]
  split
  . omega
  . have h1:=NH c n
    have h2:=Wd l (Fo c n)
    omega
theorem RA (l:List Aa)(i:Int)(c:Aa)(hi:gi l i=some c)(p:Af)(k:Nat)(hp:HM c (k:Int)=some p)(hk:k<3)(n:Int)(h0 : -1<=n)(h1:n<=1000){v:Int}
 (h:Ev (fun m=>Cm m l i (Gw p n) ((k+1:Nat):Int)) v) (hv:n<0->v=n):Ev (fun m=>Cm m l i n (k:Int)) v:=by
 by_cases c0:n<0
 . rw [hv c0]
   refine Ev.step (f:=fun _=>some n) (fun m=>?_) Ev.pure
   rw [Cm.eq_2,Í (show (k:Int)<3 by omega),Î,Ç (by omega)];rfl
 . refine Ev.step (f:=fun m=>(C4 m p n).bind fun n3=>Cm m l i n3 ((k+1:Nat):Int)) (fun m=>?_) (Ev.bind (Ui p n (by omega) h1).1 ?_)
   . rw [Cm.eq_2,Í (show (k:Int)<3 by omega),Î,Í (by omega),Á,Î,hi,Á,hp,Á,L3 (by omega)]
   . unfold Gw at h
     rw [Ä c0] at h
     exact h
theorem X5 (l:List Aa)(i:Int)(c:Aa)(hi:gi l i=some c)(n:Int)(h0 : -1<=n)(h1:n<=1000):Ev (fun m=>Cm m l i n 0) (Fo c n):=by
 have g1:=LL (e:=c.From) h0 h1
 have g2:=Ho c.From n
 have g3:=LL (e:=c.To) g1 (by omega)
 have g4:=Ho c.To (Gw c.From n)
 have a:Ev (fun m=>Cm m l i (Fo c n) ((2+1:Nat):Int)) (Fo c n):=by
  refine Ev.step (f:=fun _=>some (Fo c n)) (fun m=>?_) Ev.pure
  rw [Cm.eq_2];rfl
 have neg:∀ {e:Af} {n:Int},n<0->Gw e n=n:=fun h=>by unfold Gw;rw [È h]
 have s2:=RA l i c hi c.When 2 rfl (by decide) (Gw c.To (Gw c.From n)) g3 (by omega) a (fun h=>by unfold Fo;exact neg h)
 have s1:=RA l i c hi c.To 1 rfl (by decide) (Gw c.From n) g1 (by omega) s2 (fun h=>by unfold Fo;rw [neg (e:=c.To) h,neg h])
 exact RA l i c hi c.From 0 rfl (by decide) n h0 h1 s1 (fun h=>by unfold Fo;rw [neg (e:=c.From) h,neg (e:=c.To) h,neg h])
theorem Y5 (l:List Aa)(hl:l.length<=50):∀ (r:List Aa) (k:Nat) (n:Int),l.drop k=r->k<=l.length->-1<=n->n<=1000->Ev (fun m=>DD m l n (k:Int)) (Mo r n)
 | [],k,n,hr,hkl,_,_=>by
  have he:=Hh hr hkl
  rw [Mo]
  refine Ev.step (f:=fun _=>some n) (fun m=>?_) Ev.pure
  rw [DD.eq_2,show (decide ((k:Int)<(l.length:Int)))=false by rw [Ò];omega];rfl
 |c::r,k,n,hr,hkl,h0,h1=>by
  obtain⟨d1,d2⟩:=DM hr
  rw [Mo]
  by_cases c0:n<0
  . rw [È c0]
    refine Ev.step (f:=fun _=>some n) (fun m=>?_) Ev.pure
    rw [DD.eq_2,Mf d2,Î,Ç (by omega)];rfl
  . rw [Ä c0]
    have g1 : -1<=Fo c n:=by
     have a1:=LL (e:=c.From) h0 h1
     have a2:=Ho c.From n
     have a3:=LL (e:=c.To) a1 (by omega)
     have a4:=Ho c.To (Gw c.From n)
     exact LL (e:=c.When) a3 (by omega)
    have g2:=NH c n
    refine Ev.step (f:=fun m=>(Cm m l (k:Int) n 0).bind fun n3=>DD m l n3 ((k+1:Nat):Int)) (fun m=>?_) (Ev.bind (X5 l (k:Int) c (L2 hr) n h0 h1) (Y5 l hl r (k+1) _ d1 (by omega) g1 (by omega)))
    rw [DD.eq_2,Mf d2,Î,Í (by omega),Á,Î,L3 (by omega)]
theorem Agh (l:List Aa)(n:Int)(h0:0<=n)(h1:n<=1000):Ev (fun m=>Kh m l n) (decide (l.length<=50/\0<=Mo l n)):=by
 unfold Kh
 by_cases c:l.length<=50
 . rw [Ç (show ¬ (50:Int)<(l.length:Int) by omega)]
   simp only [Ì]
   refine Ev.bind (Y5 l c l 0 n rfl (ò _) (by omega) h1) ?_
   simp only [c,û]
   exact Ev.pure
 . rw [Í (show (50:Int)<(l.length:Int) by omega),Ç (fun h=>c h.1)]
   exact Ev.pure
def Fi (c:Aa):Prop:=CY c.From=true/\CY c.To=true/\CY c.When=true
theorem Nt {e:Af}{n:Int}(h:0<=Gw e n)(hn:n<=1000000):CY e=true/\0<=n:=by
 unfold Gw at h
 split at h
 . omega
 . exact⟨Rk e n h hn,by omega⟩
theorem UB {c:Aa}{n:Int}(h:0<=Fo c n)(hn:n<=1000):Fi c/\0<=n:=by
 unfold Fo at h
 have g2:=Ho c.From n
 have g4:=Ho c.To (Gw c.From n)
 obtain⟨a1,a2⟩:=Nt h (by omega)
 obtain⟨b1,b2⟩:=Nt a2 (by omega)
 obtain⟨c1,c2⟩:=Nt b2 (by omega)
 exact⟨⟨c1,b1,a1⟩,c2⟩
theorem R9:∀ (l:List Aa) (n:Int),0<=Mo l n->n<=1000->∀ c∈l,Fi c
 | [],_,_,_,c,hc=>by simp at hc
 |x::l,n,h,hn,c,hc=>by
  rw [Mo] at h
  split at h
  . omega
  . have g:=NH x n
    have g2:=Wd l (Fo x n)
    rcases List.mem_cons.1 hc with rfl|hc
    . exact (UB (by omega) hn).1
    . exact R9 l _ h (by omega) c hc
end Go.Sp
namespace Go.Sp
open Go
set_option maxRecDepth 100000
theorem Abk {e:Af}(h:CY e=true):Mn e=some (AI e):=by unfold Mn;rw [È h]
end Go.Sp
namespace Go.Sp
open Go
def CG (c:Int):Bool:=decide ((97<=c/\c<=122)∨(65<=c/\c<=90)∨c=95)
def Dc (c:Int):Bool:=decide (48<=c/\c<=57)
def Js (s:Æ):List Int:=s.data.toList.map fun b=>(b.toNat:Int)
def J7 (s:Æ):Bool:=decide (1<=s.size/\s.size<=32)&&(Js s).all (fun c=>CG c||Dc c)&&!Dc ((Js s).getD 0 0)
theorem Jr (s:Æ):(Js s).length=s.size:=by
 unfold Js
 rw [Ñ];rfl
theorem Aer {s:Æ}{k:Nat}{x:Int}{r:List Int}(h:(Js s).drop k=x::r):gb s (k:Int)=some x:=by
 obtain⟨_,c⟩:=DM h
 rw [Jr] at c
 unfold gb
 rw [È (by omega)]
 have a:=L2 h
 unfold gi at a
 rw [È (by omega)] at a
 unfold Js at a
 rw [è] at a
 rw [Int.toNat_natCast] at a ⊢
 cases e:s.data.toList[k]? with
 |none=>rw [e] at a;cases a
 |some b =>
  rw [e] at a
  rw [List.getD_eq_getElem?_getD,e]
  exact a
theorem Xu (c:Int):EH c=some (!(CG c||Dc c)):=by
 unfold EH CG Dc
 by_cases f:97<=c<;>by_cases g:c<=122<;>by_cases i:65<=c<;>by_cases j:c<=90<;>by_cases e:c=95<;>by_cases k:48<=c<;>by_cases l:c<=57<;>(have d:=e;rw [<- ą (a:=c) (b:=95)] at d;simp [f,g,i,j,e,k,l,d])
theorem Te (l:List Int)(hl:l.length<=1000000):∀ (r:List Int) (k:Nat),l.drop k=r->k<=l.length->∃ v,Ev (fun n=>AU n l (k:Int)) v/\(match v with|.inl _=>r.all (fun c=>CG c||Dc c)=true|.inr i=>0<=i/\r.all (fun c=>CG c||Dc c)=false)
 | [],k,hr,hk=>by
  have he:=Hh hr hk
  refine⟨.inl (),Ev.step (f:=fun _=>some (.inl ())) (fun n=>?_) Ev.pure,rfl⟩
  rw [AU.eq_2,show (decide ((k:Int)<(l.length:Int)))=false by rw [Ò];omega];rfl
 |x::r,k,hr,hk=>by
  obtain⟨h1,h2⟩:=DM hr
  have e:∀ n,AU (n+1) l (k:Int)=bif !(CG x||Dc x) then some (.inr (k:Int)) else AU n l ((k+1:Nat):Int):=fun n=>by
   rw [AU.eq_2,Mf h2,Î,L2 hr,Á,Xu,Á,L3 (by omega)]
  cases hx:(CG x||Dc x) with
  |false =>
   refine⟨.inr (k:Int),Ev.step e ?_,by omega,by rw [ĉ,hx];rfl⟩
   rw [hx];exact Ev.pure
  |true =>
   obtain⟨v,k1,k2⟩:=Te l hl r (k+1) h1 (by omega)
   refine⟨v,Ev.step e ?_,?_⟩
   . rw [hx];exact k1
   . cases v with
     |inl _=>simp only at k2 ⊢;rw [ĉ,hx,k2];rfl
     |inr i=>simp only at k2 ⊢;rw [ĉ,hx,k2.2];exact⟨k2.1,rfl⟩
theorem Wr (l:List Int)(hl:l.length<=1000000):Ev (fun n=>Cn n l) (!(l.all fun c=>CG c||Dc c)):=by
 obtain⟨v,b,a⟩:=Te l hl l 0 rfl (ò _)
 unfold Cn Dw
 cases v with
 |inl _ =>
  have a:l.all (fun c=>CG c||Dc c)=true:=a
  rw [a]
  exact Ev.bind (Ev.bind b Ev.pure) Ev.pure
 |inr i =>
  have a:0<=i/\l.all (fun c=>CG c||Dc c)=false:=a
  rw [a.2]
  refine Ev.bind (Ev.bind b Ev.pure) ?_
  rw [Í a.1];exact Ev.pure
theorem Zv (s:Æ):Ev (fun n=>FZ n s) (J7 s):=by
 unfold FZ J7
 by_cases f:s.size=0
 . have:s=⟨#[]⟩:=by
    cases s with
    |mk d=>congr 1;exact ī f
   rw [Í this,Ç (show ¬ (1<=s.size/\s.size<=32) by omega)]
   exact Ev.pure
 have a:¬ s=⟨#[]⟩:=fun e=>f (by rw [e];rfl)
 rw [Ç a]
 simp only [Ì]
 by_cases g:s.size<=32
 . rw [Ç (show ¬ (32:Int)<(s.size:Int) by omega),Í (show 1<=s.size/\s.size<=32 by omega)]
   simp only [Ì]
   have b:=Jr s
   cases hb:Js s with
   |nil=>rw [hb] at b;simp at b;omega
   |cons x r =>
    have i:gb s 0=some x:=Aer (k:=0) hb
    have j:(bif (decide (48<=x)) then some (decide (x<=57)) else some false:Option Bool)=some (Dc x):=by
     unfold Dc
     by_cases a1:48<=x
     . rw [Í a1,Î];congr 1;rw [decide_eq_decide];omega
     . rw [Ç a1,Ì];congr 1;symm;rw [Ò];omega
    simp only [i,Á,j]
    have c:R2 s=some (x::r):=by
     unfold R2
     rw [È (by omega)]
     exact congrArg some hb
    simp only [List.getD_cons_zero,č]
    cases l:Dc x with
    |true=>simp only [Î,Ā,Bool.and_false];exact Ev.pure
    |false =>
     simp only [Ì,c,Á,ć,Ķ]
     refine Ev.bind (Wr (x::r) (by rw [<- hb,b];omega)) ?_
     rw [Bool.not_not]
     exact Ev.pure
 . rw [Í (show (32:Int)<(s.size:Int) by omega),Ç (show ¬ (1<=s.size/\s.size<=32) by omega)]
   exact Ev.pure
theorem Zq (c:Int):((bif (decide (97<=c)) then
 bif (decide (c<=122)) then
  some true
 else
  bif (decide (65<=c)) then
   bif (decide (c<=90)) then
    some true
   else
    some (c == 95)
  else
   some (c == 95)
 else
  bif (decide (65<=c)) then
   bif (decide (c<=90)) then
    some true
   else
    some (c == 95)
  else
   some (c == 95)
 ):Option Bool)=some (CG c):=by
 unfold CG
 by_cases f:97<=c<;>by_cases g:c<=122<;>by_cases i:65<=c<;>by_cases j:c<=90<;>by_cases e:c=95<;>(have d:=e;rw [<- ą (a:=c) (b:=95)] at d;simp [f,g,i,j,e,d])
theorem Afi (c:Int)(k:Nat):((bif (!CG c) then
 bif ((k:Int) == 0) then
  some true
 else
  bif (decide (c<48)) then
   some true
  else
   some (decide (57<c))
 else
  some false
 ):Option Bool)=some (!(CG c||(decide (k≠0)&&Dc c))):=by
 cases CG c with
 |true=>rfl
 |false =>
  rw [ć,Î,ē]
  cases k with
  |zero=>rfl
  |succ k =>
   rw [show (((k+1:Nat):Int) == 0)=false by simp;omega,Ì,Í (show k+1≠0 by omega),č]
   unfold Dc
   by_cases a1:c<48
   . rw [Í a1,Î];congr 1;symm;rw [å,Ò];omega
   . rw [Ç a1,Ì]
     by_cases a2:57<c
     . rw [Í a2];congr 1;symm;rw [å,Ò];omega
     . rw [Ç a2];congr 1;symm;rw [Bool.not_eq_false',Ï];omega
def N3:Nat->List Int->Bool
 |_,[]=>true
 |k,c::r=>(CG c||(decide (k≠0)&&Dc c))&&N3 (k+1) r
theorem P7:∀ (r:List Int) (k:Nat),N3 (k+1) r=r.all (fun c=>CG c||Dc c)
 | [],_=>rfl
 |c::r,k=>by rw [N3,P7 r (k+1),Í (show k+1≠0 by omega),č,ĉ]
theorem P0 (s:Æ)(hs:s.size<=32):∀ (r:List Int) (k:Nat),(Js s).drop k=r->k<=(Js s).length->Ev (fun n=>C2 n s (k:Int)) (if N3 k r=true then .inl () else .inr false)
 | [],k,hr,hk=>by
  have he:=Hh hr hk
  rw [Jr] at he
  refine Ev.step (f:=fun _=>some (.inl ())) (fun n=>?_) Ev.pure
  rw [C2.eq_2,show (decide ((k:Int)<(s.size:Int)))=false by rw [Ò];omega];rfl
 |c::r,k,hr,hk=>by
  obtain⟨h1,h2⟩:=DM hr
  have h2b:k<s.size:=by rw [Jr] at h2;exact h2
  have e:∀ n,C2 (n+1) s (k:Int)=bif !(CG c||(decide (k≠0)&&Dc c)) then some (.inr false) else C2 n s ((k+1:Nat):Int):=fun n=>by
   rw [C2.eq_2,Mf h2b,Î,Aer hr,Á,Zq,Á,Afi,Á,L3 (by omega)]
  refine Ev.step e ?_
  rw [N3]
  cases (CG c||(decide (k≠0)&&Dc c)) with
  |false=>exact Ev.pure
  |true =>
   simp only [Ā,Ì,č]
   exact P0 s hs r (k+1) h1 (by omega)
theorem TS (s:Æ):Ev (fun n=>Hw n s) (J7 s):=by
 unfold Hw J7
 by_cases f:s.size=0
 . rw [Í (show (s.size:Int)<1 by omega),Ç (show ¬ (1<=s.size/\s.size<=32) by omega)]
   exact Ev.pure
 rw [Ç (show ¬ (s.size:Int)<1 by omega)]
 simp only [Ì,Á]
 by_cases a:s.size<=32
 . rw [Ç (show ¬ (32:Int)<(s.size:Int) by omega),Í (show 1<=s.size/\s.size<=32 by omega)]
   simp only [Ì]
   refine Ev.bind (P0 s a (Js s) 0 rfl (ò _)) ?_
   have b:=Jr s
   cases hb:Js s with
   |nil=>rw [hb] at b;simp at b;omega
   |cons x r =>
    have:N3 0 (x::r)=((x::r).all (fun c=>CG c||Dc c)&&!Dc x):=by
     rw [N3,P7,ĉ]
     have d:Dc x=true->CG x=false:=fun h=>by
      unfold Dc at h
      unfold CG
      rw [Ï] at h
      rw [Ò];omega
     cases e:Dc x with
     |true=>rw [d e];simp
     |false=>simp
    rw [this]
    simp only [List.getD_cons_zero,č]
    cases ((x::r).all (fun c=>CG c||Dc c)&&!Dc x) with
    |true=>exact Ev.pure
    |false=>exact Ev.pure
 . rw [Í (show (32:Int)<(s.size:Int) by omega),Ç (show ¬ (1<=s.size/\s.size<=32) by omega)]
   exact Ev.pure
end Go.Sp
namespace Go.Sp
open Go
def Gz (l:List Aa)(s:Æ):Bool:=l.any fun c=>decide (c.Name=s)
theorem Of (l:List Aa)(s:Æ)(hl:l.length<=1000000):∀ (r:List Aa) (k:Nat),l.drop k=r->k<=l.length->Ev (fun n=>CE n l s (k:Int)) (if Gz r s=true then .inr true else .inl ())
 | [],k,hr,hk=>by
  have he:=Hh hr hk
  refine Ev.step (f:=fun _=>some (.inl ())) (fun n=>?_) Ev.pure
  rw [CE.eq_2,show (decide ((k:Int)<(l.length:Int)))=false by rw [Ò];omega];rfl
 |c::r,k,hr,hk=>by
  obtain⟨h1,h2⟩:=DM hr
  have e:∀ n,CE (n+1) l s (k:Int)=bif decide (c.Name=s) then some (.inr true) else CE n l s ((k+1:Nat):Int):=fun n=>by
   rw [CE.eq_2,Mf h2,Î,L2 hr,Á,L3 (by omega)]
  refine Ev.step e ?_
  unfold Gz
  rw [Ą]
  cases (decide (c.Name=s)) with
  |true=>exact Ev.pure
  |false =>
   simp only [Ì,ē]
   exact Of l s hl r (k+1) h1 (by omega)
theorem Vw (l:List Aa)(s:Æ)(hl:l.length<=1000000):Ev (fun n=>Il n l s) (Gz l s):=by
 unfold Il
 refine Ev.bind (Of l s hl l 0 rfl (ò _)) ?_
 cases Gz l s with
 |true=>exact Ev.pure
 |false=>exact Ev.pure
section
variable (c:Æ) (c1 c2 c3 c4 c5:Int) (c6:Æ) (c7:List Af) (c8 c9 c10:Int) (c11:Æ) (c12:List Af) (c13 c14 c15:Int) (c16:Æ) (c17:List Af) (c18 c19:Int)
theorem Ry (l:List Aa)(hl:l.length<=1000000):∀ (r:List Aa) (k:Nat),l.drop k=r->k<=l.length ->
 ∃ v,Ev (fun n=>AJ n l c c1 c2 c3 c4 c5 c6 c7 c8 c9 c10 c11 c12 c13 c14 c15 c16 c17 c18 c19 (k:Int)) v/\(match v with|.inl _=>Gz r c=false|.inr i=>0<=i/\Gz r c=true)
 | [],k,hr,hk=>by
  have he:=Hh hr hk
  refine⟨.inl (),Ev.step (f:=fun _=>some (.inl ())) (fun n=>?_) Ev.pure,rfl⟩
  rw [AJ.eq_2,show (decide ((k:Int)<(l.length:Int)))=false by rw [Ò];omega];rfl
 |x::r,k,hr,hk=>by
  obtain⟨h1,h2⟩:=DM hr
  have e:∀ n,AJ (n+1) l c c1 c2 c3 c4 c5 c6 c7 c8 c9 c10 c11 c12 c13 c14 c15 c16 c17 c18 c19 (k:Int)=bif decide (x.Name=c) then some (.inr (k:Int)) else AJ n l c c1 c2 c3 c4 c5 c6 c7 c8 c9 c10 c11 c12 c13 c14 c15 c16 c17 c18 c19 ((k+1:Nat):Int):=fun n=>by
   rw [AJ.eq_2,Mf h2,Î,L2 hr,Á]
   unfold Fh
   rw [Á,L3 (by omega)]
  have hc:Gz (x::r) c=(decide (x.Name=c)||Gz r c):=by unfold Gz;rw [Ą]
  rw [hc]
  cases a:(decide (x.Name=c)) with
  |true =>
   refine⟨.inr (k:Int),Ev.step e ?_,by omega,rfl⟩
   rw [a];exact Ev.pure
  |false =>
   obtain⟨v,k1,k2⟩:=Ry l hl r (k+1) h1 (by omega)
   refine⟨v,Ev.step e ?_,?_⟩
   . rw [a];exact k1
   . rw [ē];exact k2
theorem UA (l:List Aa)(hl:l.length<=1000000):Ev (fun n=>BN n c c1 c2 c3 c4 c5 c6 c7 c8 c9 c10 c11 c12 c13 c14 c15 c16 c17 c18 c19 l) (Gz l c):=by
 obtain⟨v,b,a⟩:=Ry c c1 c2 c3 c4 c5 c6 c7 c8 c9 c10 c11 c12 c13 c14 c15 c16 c17 c18 c19 l hl l 0 rfl (ò _)
 unfold BN CR
 cases v with
 |inl _ =>
  have a:Gz l c=false:=a
  rw [a]
  exact Ev.bind (Ev.bind b Ev.pure) Ev.pure
 |inr i =>
  have a:0<=i/\Gz l c=true:=a
  rw [a.2]
  refine Ev.bind (Ev.bind b Ev.pure) ?_
  rw [Í a.1];exact Ev.pure
end
end Go.Sp
namespace Go.Sp
open Go
set_option maxRecDepth 100000
def GF (x:Aa):Bool:=decide (x.Rank<0∨9<x.Rank∨x.Known<0∨41666<x.Known∨(x.Kind<3/\x.Houses≠0)∨(x.Kind=3/\(x.Houses<1∨4095<x.Houses)))
def DS (e:Af)(t:Int):Int:=if (AI e).2.2.E≠0 then (AI e).2.2.E else if (AI e).1≠t then 7 else 0
def DT (x:Aa):Int:=if DS x.From 2≠0 then DS x.From 2 else if DS x.To 2≠0 then DS x.To 2 else DS x.When 3
def BM (l:List Aa)(x:Aa):Int :=
 if J7 x.Name=false then 6 else if Gz l x.Name=true then 9 else if x.Kind<1∨3<x.Kind then 1 else if GF x=true then 3 else DT x
theorem WZ (x:Aa)(hk:1<=x.Kind/\x.Kind<=3):((bif (decide (x.Rank<0)) then
 some true
 else
  bif (decide (9<x.Rank)) then
   some true
  else
   bif (decide (x.Known<0)) then
    some true
   else
    bif (decide (41666<x.Known)) then
     some true
    else
     bif (!(x.Kind == 3)) then
      bif (x.Houses != 0) then
       some true
      else
       bif (x.Kind == 3) then
        bif (decide (x.Houses<1)) then
         some true
        else
         some (decide (4096<=x.Houses))
       else
        some false
     else
      bif (x.Kind == 3) then
       bif (decide (x.Houses<1)) then
        some true
       else
        some (decide (4096<=x.Houses))
      else
       some false
 ):Option Bool)=some (GF x):=by
 unfold GF
 by_cases a:x.Rank<0
 . simp [a]
 by_cases c:9<x.Rank
 . simp [a,c]
 by_cases d:x.Known<0
 . simp [a,c,d]
 by_cases f:41666<x.Known
 . simp [a,c,d,f]
 by_cases g:x.Kind=3
 . by_cases e:x.Houses<1
   . simp [a,c,d,f,g,e]
   . have:(4096<=x.Houses)↔(4095<x.Houses):=by omega
     simp [a,c,d,f,g,e,this]
 . have i:x.Kind<3:=by omega
   have b:(x.Kind == 3)=false:=by simpa using g
   by_cases e:x.Houses=0
   . simp [a,c,d,f,g,e,i,b]
   . have b2:(x.Houses != 0)=true:=by simpa using e
     simp [a,c,d,f,g,e,i,b,b2]
theorem Ze (x:Aa)(hk:1<=x.Kind/\x.Kind<=3):((bif (decide (x.Rank<0)) then
 some true
 else
  bif (decide (9<x.Rank)) then
   some true
  else
   bif (decide (x.Known<0)) then
    some true
   else
    bif (decide (41666<x.Known)) then
     some true
    else
     bif (decide (x.Kind<3)) then
      bif (x.Houses != 0) then
       some true
      else
       bif (x.Kind == 3) then
        bif (decide (x.Houses<1)) then
         some true
        else
         some (decide (4095<x.Houses))
       else
        some false
     else
      bif (x.Kind == 3) then
       bif (decide (x.Houses<1)) then
        some true
       else
        some (decide (4095<x.Houses))
      else
       some false
 ):Option Bool)=some (GF x):=by
 unfold GF
 by_cases a:x.Rank<0
 . simp [a]
 by_cases c:9<x.Rank
 . simp [a,c]
 by_cases d:x.Known<0
 . simp [a,c,d]
 by_cases f:41666<x.Known
 . simp [a,c,d,f]
 by_cases g:x.Kind=3
 . by_cases e:x.Houses<1
   . simp [a,c,d,f,g,e]
   . simp [a,c,d,f,g,e]
 . have i:x.Kind<3:=by omega
   have b:(x.Kind == 3)=false:=by simpa using g
   by_cases e:x.Houses=0
   . simp [a,c,d,f,g,e,i,b]
   . have b2:(x.Houses != 0)=true:=by simpa using e
     simp [a,c,d,f,g,e,i,b,b2]
theorem OH {n:Nat}{e:Af}{t:Int}(hs:CY e=true)(r:Option (Unit ⊕ Int)):((Mn e).bind fun f=>bif (f.2.2.E != 0) then some (.inr f.2.2.E) else bif (f.1 != t) then some (.inr 7) else r)=if DS e t≠0 then some (.inr (DS e t)) else r:=by
 rw [Abk hs,Á]
 unfold DS
 by_cases c:(AI e).2.2.E=0
 . rw [show ((AI e).2.2.E != 0)=false by simpa using c,Ì,Ä (show ¬ (AI e).2.2.E≠0 by simpa using c)]
   by_cases c2:(AI e).1=t
   . rw [show ((AI e).1 != t)=false by simpa using c2,Ä (show ¬ (AI e).1≠t by simpa using c2)];rfl
   . rw [show ((AI e).1 != t)=true by simpa using c2,È c2];rfl
 . rw [show ((AI e).2.2.E != 0)=true by simpa using c,È (show (AI e).2.2.E≠0 from c),È (show (AI e).2.2.E≠0 from c)];rfl
theorem WJ (x:Aa)(hs:Fi x)(n:Nat):AB (n+4) x 0=if DT x=0 then some (.inl ()) else some (.inr (DT x)):=by
 obtain⟨s1,s2,s3⟩:=hs
 have e3:AB (n+1) x 3=some (.inl ()):=by rw [AB.eq_2];rfl
 have e2:AB (n+2) x 2=if DS x.When 3≠0 then some (.inr (DS x.When 3)) else some (.inl ()):=by
  rw [AB.eq_2,<- e3,<- OH (n:=n) (t:=3) s3];rfl
 have e1:AB (n+3) x 1=if DS x.To 2≠0 then some (.inr (DS x.To 2)) else AB (n+2) x 2:=by
  rw [AB.eq_2,<- OH (n:=n) (t:=2) s2];rfl
 have e0:AB (n+4) x 0=if DS x.From 2≠0 then some (.inr (DS x.From 2)) else AB (n+3) x 1:=by
  rw [AB.eq_2,<- OH (n:=n) (t:=2) s1];rfl
 rw [e0,e1,e2]
 unfold DT
 by_cases a:DS x.From 2=0
 . by_cases b:DS x.To 2=0
   . by_cases c:DS x.When 3=0
     . simp [a,b,c]
     . simp [a,b,c]
   . simp [a,b]
 . simp [a]
theorem QR (x:Aa)(p:Af)(k:Nat)(t:Int)(hp:HM x (k:Int)=some p)(hk:(k<2/\t=2)∨(k=2/\t=3))(hs:CY p=true){v:Unit ⊕ Int}(h:Ev (fun n=>BQ n x ((k+1:Nat):Int)) v) :
 Ev (fun n=>BQ n x (k:Int)) (if DS p t≠0 then .inr (DS p t) else v):=by
 have a:∀ T:Int,((bif (decide ((k:Int)<2)) then
  bif (T != 2) then
   some true
  else
   bif ((k:Int) == 2) then
    some (T != 3)
   else
    some false
  else
   bif ((k:Int) == 2) then
    some (T != 3)
   else
    some false
  ):Option Bool)=some (T != t):=fun T=>by
  rcases hk with⟨b,rfl⟩|⟨rfl,rfl⟩
  . rw [Í (show (k:Int)<2 by omega),show ((k:Int) == 2)=false by simp;omega]
    cases (T != 2)<;>rfl
  . rfl
 have e:∀ n,BQ (n+1) x (k:Int)=(Bq n p).bind fun tt=>bif (tt.P.E != 0) then some (.inr tt.P.E) else bif (tt.T != t) then some (.inr 7) else BQ n x ((k+1:Nat):Int):=fun n=>by
  rw [BQ.eq_2,Í (show (k:Int)<3 by omega),Î,hp,Á]
  congr 1
  funext tt
  rw [a,Á,L3 (by omega)]
 refine Ev.step e (Ev.bind (Qb p hs) ?_)
 unfold DS I5
 simp only
 by_cases c:(AI p).2.2.E=0
 . rw [show ((AI p).2.2.E != 0)=false by simpa using c,Ä (show ¬ (AI p).2.2.E≠0 by simpa using c)]
   simp only [Ì]
   by_cases c2:(AI p).1=t
   . rw [show ((AI p).1 != t)=false by simpa using c2,Ä (show ¬ (AI p).1≠t by simpa using c2)]
     simp only [Ì,ne_eq,not_true_eq_false,ó]
     exact h
   . rw [show ((AI p).1 != t)=true by simpa using c2,È c2]
     exact Ev.pure
 . rw [show ((AI p).2.2.E != 0)=true by simpa using c,È (show (AI p).2.2.E≠0 from c),È (show (AI p).2.2.E≠0 from c)]
   exact Ev.pure
theorem YQ (x:Aa)(hs:Fi x):Ev (fun n=>BQ n x 0) (if DT x=0 then .inl () else .inr (DT x)):=by
 obtain⟨s1,s2,s3⟩:=hs
 have e3:Ev (fun n=>BQ n x ((2+1:Nat):Int)) (.inl ()):=Ev.step (f:=fun _=>some (.inl ())) (fun n=>by rw [BQ.eq_2];rfl) Ev.pure
 have h:=QR x x.From 0 2 rfl (.inl ⟨by decide,rfl⟩) s1 (QR x x.To 1 2 rfl (.inl ⟨by decide,rfl⟩) s2 (QR x x.When 2 3 rfl (.inr ⟨rfl,rfl⟩) s3 e3))
 unfold DT
 by_cases a:DS x.From 2=0
 . by_cases b:DS x.To 2=0
   . by_cases c:DS x.When 3=0
     . simpa [a,b,c] using h
     . simpa [a,b,c] using h
   . simpa [a,b] using h
 . simpa [a] using h
end Go.Sp
namespace Go.Sp
open Go
set_option maxRecDepth 100000
def Et (l:List Aa):List Aa->Nat->Int
 | [],_=>0
 |x::r,k=>if BM (l.take k) x≠0 then BM (l.take k) x else Et l r (k+1)
def Cp (l:List Aa):Int:=if 40<l.length then 2 else Et l l 0
def Uc (e:Int):Unit ⊕ Int:=if e=0 then .inl () else .inr e
theorem Ah7 {l:List Aa}{k:Nat}(h:k<=l.length):gsl l 0 (k:Int)=some (l.take k):=by
 unfold gsl
 rw [È (by omega)];simp
theorem Td (x:Aa):((bif (decide (x.Kind<1)) then some true else some (decide (3<x.Kind))):Option Bool)=some (decide (x.Kind<1∨3<x.Kind)):=by
 by_cases h:x.Kind<1
 . simp [h]
 . simp [h]
theorem Aiu {e:Int}:(if e=0 then (.inl ():Unit ⊕ Int) else .inr e)=Uc e:=rfl
theorem V2 (l:List Aa)(hl:l.length<=40)(hs:∀ c∈l,Fi c):∀ (r:List Aa) (k:Nat),l.drop k=r->k<=l.length->Ev (fun n=>CX n l (k:Int)) (Uc (Et l r k))
 | [],k,hr,hk=>by
  have he:=Hh hr hk
  refine Ev.step (f:=fun _=>some (.inl ())) (fun n=>?_) Ev.pure
  rw [CX.eq_2,show (decide ((k:Int)<(l.length:Int)))=false by rw [Ò];omega];rfl
 |x::r,k,hr,hk=>by
  obtain⟨h1,h2⟩:=DM hr
  have hmem:x∈l:=á (by rw [hr];simp)
  have ih:=V2 l hl hs r (k+1) h1 (by omega)
  refine Ev.step (fun n=>CX.eq_2 (n:=n) l (k:Int)) ?_
  simp only [Mf h2,Î,L2 hr,Á,Ah7 hk,Td,L3 (show k<4611686018427387904 by omega)]
  rw [Et]
  refine Ev.bind (Zv x.Name) ?_
  cases hn:J7 x.Name with
  |false =>
   have:BM (l.take k) x=6:=by unfold BM;rw [È hn]
   rw [this,È (by decide)]
   exact Ev.pure
  |true =>
   simp only [Ā,Ì]
   refine Ev.bind (UA _ _ _ _ _ _ _ _ _ _ _ _ _ _ _ _ _ _ _ _ (l.take k) (by rw [List.length_take];omega)) ?_
   cases d:Gz (l.take k) x.Name with
   |true =>
    have:BM (l.take k) x=9:=by unfold BM;rw [Ä (by rw [hn];simp),È d]
    rw [this,È (by decide)]
    exact Ev.pure
   |false =>
    simp only [Ì]
    by_cases a:x.Kind<1∨3<x.Kind
    . have:BM (l.take k) x=1:=by unfold BM;rw [Ä (by rw [hn];simp),Ä (by rw [d];simp),È a]
      rw [this,È (by decide),Í a]
      exact Ev.pure
    . rw [Ç a]
      simp only [Ì,WZ x (by omega),Á]
      cases b:GF x with
      |true =>
       have:BM (l.take k) x=3:=by unfold BM;rw [Ä (by rw [hn];simp),Ä (by rw [d];simp),Ä a,È b]
       rw [this,È (by decide)]
       exact Ev.pure
      |false =>
       have e:BM (l.take k) x=DT x:=by unfold BM;rw [Ä (by rw [hn];simp),Ä (by rw [d];simp),Ä a,Ä (by rw [b];simp)]
       rw [e]
       simp only [Ì]
       have g:∀ n,Gp x.Name x.Kind x.Rank x.Known x.From.Op x.From.N x.From.S x.From.Kids x.From.At x.To.Op x.To.N x.To.S x.To.Kids x.To.At x.When.Op x.When.N x.When.S x.When.Kids x.When.At x.Houses=some n:=fun n=>rfl
       simp only [g (),Á]
       have i:Ev (fun n=>AB n x 0) (if DT x=0 then .inl () else .inr (DT x)):=⟨4,fun n hn=>by
        obtain⟨m,rfl⟩:∃ m,n=m+4:=⟨n-4,by omega⟩
        show AB (m+4) x 0=_
        rw [WJ x (hs x hmem) m];split<;>rfl⟩
       refine Ev.bind i ?_
       by_cases c:DT x=0
       . rw [È c,Ä (show ¬ DT x≠0 by simpa using c)]
         exact ih
       . rw [Ä c,È c]
         have:Uc (DT x)=.inr (DT x):=by unfold Uc;rw [Ä c]
         rw [this]
         exact Ev.pure
theorem H9 (l:List Aa)(hs:∀ c∈l,Fi c):Ev (fun n=>Fw n l) (Cp l):=by
 unfold Fw Cp
 by_cases h:40<l.length
 . rw [Í (show (40:Int)<(l.length:Int) by omega),È h];exact Ev.pure
 . rw [Ç (show ¬ (40:Int)<(l.length:Int) by omega),Ä h]
   simp only [Ì,Á]
   refine Ev.bind (V2 l (by omega) hs l 0 rfl (ò _)) ?_
   unfold Uc
   by_cases c:Et l l 0=0
   . rw [È c,c];exact Ev.pure
   . rw [Ä c];exact Ev.pure
theorem Yl (l:List Aa)(hl:l.length<=40)(hs:∀ c∈l,Fi c):∀ (r:List Aa) (k:Nat),l.drop k=r->k<=l.length->Ev (fun n=>Ea n l (k:Int)) (Uc (Et l r k))
 | [],k,hr,hk=>by
  have he:=Hh hr hk
  refine Ev.step (f:=fun _=>some (.inl ())) (fun n=>?_) Ev.pure
  rw [Ea.eq_2,show (decide ((k:Int)<(l.length:Int)))=false by rw [Ò];omega];rfl
 |x::r,k,hr,hk=>by
  obtain⟨h1,h2⟩:=DM hr
  have hmem:x∈l:=á (by rw [hr];simp)
  have ih:=Yl l hl hs r (k+1) h1 (by omega)
  refine Ev.step (fun n=>Ea.eq_2 (n:=n) l (k:Int)) ?_
  simp only [Mf h2,Î,L2 hr,Á,Ah7 hk,Td,L3 (show k<4611686018427387904 by omega)]
  rw [Et]
  refine Ev.bind (TS x.Name) ?_
  cases hn:J7 x.Name with
  |false =>
   have:BM (l.take k) x=6:=by unfold BM;rw [È hn]
   rw [this,È (by decide)]
   exact Ev.pure
  |true =>
   simp only [Ā,Ì]
   refine Ev.bind (Vw (l.take k) x.Name (by rw [List.length_take];omega)) ?_
   cases d:Gz (l.take k) x.Name with
   |true =>
    have:BM (l.take k) x=9:=by unfold BM;rw [Ä (by rw [hn];simp),È d]
    rw [this,È (by decide)]
    exact Ev.pure
   |false =>
    simp only [Ì]
    by_cases a:x.Kind<1∨3<x.Kind
    . have:BM (l.take k) x=1:=by unfold BM;rw [Ä (by rw [hn];simp),Ä (by rw [d];simp),È a]
      rw [this,È (by decide),Í a]
      exact Ev.pure
    . rw [Ç a]
      simp only [Ì,Ze x (by omega),Á]
      cases b:GF x with
      |true =>
       have:BM (l.take k) x=3:=by unfold BM;rw [Ä (by rw [hn];simp),Ä (by rw [d];simp),Ä a,È b]
       rw [this,È (by decide)]
       exact Ev.pure
      |false =>
       have e:BM (l.take k) x=DT x:=by unfold BM;rw [Ä (by rw [hn];simp),Ä (by rw [d];simp),Ä a,Ä (by rw [b];simp)]
       rw [e]
       simp only [Ì]
       have g:=YQ x (hs x hmem)
       refine Ev.bind g ?_
       by_cases c:DT x=0
       . rw [È c,Ä (show ¬ DT x≠0 by simpa using c)]
         exact ih
       . rw [Ä c,È c]
         have:Uc (DT x)=.inr (DT x):=by unfold Uc;rw [Ä c]
         rw [this]
         exact Ev.pure
theorem J4 (l:List Aa)(hs:∀ c∈l,Fi c):Ev (fun n=>Ha n l) (Cp l):=by
 unfold Ha Cp
 by_cases h:40<l.length
 . rw [Í (show (40:Int)<(l.length:Int) by omega),È h];exact Ev.pure
 . rw [Ç (show ¬ (40:Int)<(l.length:Int) by omega),Ä h]
   simp only [Ì]
   refine Ev.bind (Yl l (by omega) hs l 0 rfl (ò _)) ?_
   unfold Uc
   by_cases c:Et l l 0=0
   . rw [È c,c];exact Ev.pure
   . rw [Ä c];exact Ev.pure
end Go.Sp
namespace Go.Sp
open Go
structure RP {α:Type} (l l':List α) (a b:Nat):Prop where
 len:l'.length=l.length
 out:∀ i,i<a∨b<=i->l'[i]?=l[i]?
 inn:∀ i,a<=i->i<b->∃ k,a<=k/\k<b/\l'[i]?=l[k]?
 perm:l'.Perm l
section
variable {α:Type} {l l' l2:List α} {a b:Nat}
theorem RP.refl:RP l l a b:=⟨rfl,fun _ _=>rfl,fun i h1 h2=>⟨i,h1,h2,rfl⟩,.refl _⟩
theorem RP.trans (h:RP l l' a b)(k:RP l' l2 a b):RP l l2 a b:=by
 refine⟨k.len.trans h.len,fun i c=>(k.out i c).trans (h.out i c),fun i d e=>?_,k.perm.trans h.perm⟩
 obtain⟨j,f,g,m⟩:=k.inn i d e
 obtain⟨j2,n,o,p⟩:=h.inn j f g
 exact⟨j2,n,o,m.trans p⟩
theorem RP.mono {a' b':Nat}(h:RP l l' a b)(ha:a'<=a)(hb:b<=b'):RP l l' a' b':=by
 refine⟨h.len,fun i c=>h.out i (by omega),fun i d e=>?_,h.perm⟩
 by_cases c:a<=i/\i<b
 . obtain⟨k,g,j,f⟩:=h.inn i c.1 c.2
   exact⟨k,by omega,by omega,f⟩
 . exact⟨i,d,e,h.out i (by omega)⟩
theorem swp_get {i j:Nat}(hi:i<l.length)(hj:j<l.length)(x:Nat):((l.set i l[j]).set j l[i])[x]?=if x=j then l[i]? else if x=i then l[j]? else l[x]?:=by
 rw [List.getElem?_set]
 by_cases h:x=j
 . subst h;simp [hi,hj]
 . rw [Ä (fun e=>h e.symm),Ä h,List.getElem?_set]
   by_cases a:x=i
   . subst a;simp [hi,hj]
   . rw [Ä (fun e=>a e.symm),Ä a]
theorem ZY {i j:Nat}(hi:i<l.length)(hj:j<l.length):((l.set i l[j]).set j l[i]).Perm l:=by
 have h:=Array.swap_perm (xs:=l.toArray) (i:=i) (j:=j) (by simpa using hi) (by simpa using hj)
 have a:=Array.perm_iff_toList_perm.1 h
 have e:(l.toArray.swap i j (by simpa using hi) (by simpa using hj)).toList=(l.set i l[j]).set j l[i]:=by simp [Array.swap]
 rw [e] at a
 simpa using a
theorem RP.swp {i j:Nat}(hi:i<l.length)(hj:j<l.length)(h1:a<=i/\i<b)(h2:a<=j/\j<b):RP l ((l.set i l[j]).set j l[i]) a b:=by
 refine⟨by simp,fun x e=>?_,fun x c d=>?_,ZY hi hj⟩
 . rw [swp_get hi hj,Ä (by omega),Ä (by omega)]
 . rw [swp_get hi hj]
   split
   . exact⟨i,h1.1,h1.2,rfl⟩
   . split
     . exact⟨j,h2.1,h2.2,rfl⟩
     . exact⟨x,c,d,rfl⟩
end
end Go.Sp
namespace Go.Sp
open Go Go.Vl
section
variable {α:Type}
theorem giN (l:List α)(i:Nat):gi l (i:Int)=l[i]?:=by unfold gi;rw [È (by omega)];rfl
theorem Y0 {l:List α}{i:Nat}(h:i<l.length)(x:α):Lv l (i:Int) x=some (l.set i x):=by unfold Lv;rw [È (by omega)];rfl
theorem gxN {n i:Nat}(h:i<n):gx n (i:Int)=some ():=by unfold gx;rw [È (by omega)]
def swp (l:List α)(i j:Nat):List α:=match l[i]?,l[j]? with
 |some x,some y=>(l.set i y).set j x
 |_,_=>l
theorem WK {l:List α}{i j:Nat}(hi:i<l.length)(hj:j<l.length):swp l i j=(l.set i l[j]).set j l[i]:=by
 unfold swp;rw [Ã hi,Ã hj]
theorem TG {l:List α}{i j:Nat}(hi:i<l.length)(hj:j<l.length)(x:Nat):(swp l i j)[x]?=if x=j then l[i]? else if x=i then l[j]? else l[x]?:=by
 rw [WK hi hj,swp_get hi hj]
theorem TF {l:List α}{a b i j:Nat}(hi:i<l.length)(hj:j<l.length)(h1:a<=i/\i<b)(h2:a<=j/\j<b):RP l (swp l i j) a b:=by
 rw [WK hi hj];exact .swp hi hj h1 h2
theorem Qd {β:Type}{l:List α}{i j n:Nat}{ii jj:Int}(hi:i<l.length)(hj:j<l.length)(hn:l.length<=n)(ei:ii=i)(ej:jj=j)(k:List α->Option β) :
 ((gx n jj).bind fun _=>(gi l jj).bind fun x=>(gx n ii).bind fun _=>(gi l ii).bind fun x1=>(Lv l ii x).bind fun d=>(Lv d jj x1).bind k)=k (swp l i j):=by
 subst ei;subst ej
 rw [gxN (by omega),giN,giN,Ã hi,Ã hj,gxN (by omega)]
 simp only [Á]
 rw [Y0 hi]
 simp only [Á]
 rw [Y0 (by simpa using hj)]
 rw [WK hi hj];rfl
end
section
variable (cv:List Aa)
def rk (x:Ae):Int:=match gi cv x.clause with
 |some c=>c.Rank
 |none=>0
def Hf (l:List Ae)(i:Nat):Int:=match l[i]? with
 |some x=>rk cv x
 |none=>0
def okC (x:Ae):Prop:=∃ c,gi cv x.clause=some c/\0<=c.Rank/\c.Rank<=9
def Sz (l:List Ae):Prop:=∀ x∈l,okC cv x
def SR (l:List Ae)(a b:Nat):Prop:=∀ i j,a<=i->i<j->j<b->Hf cv l j<=Hf cv l i
end
variable {cv:List Aa}
theorem Sz.rp {l l':List Ae}{a b:Nat}(h:Sz cv l)(r:RP l l' a b):Sz cv l':=fun x hx=>h x (r.perm.mem_iff.1 hx)
theorem JQ {l l':List Ae}{i j:Nat}(h:l'[i]?=l[j]?):Hf cv l' i=Hf cv l j:=by unfold Hf;rw [h]
theorem Agv {x y:Ae}(hx:okC cv x)(hy:okC cv y):DE cv x y=some (rk cv y-rk cv x):=by
 obtain⟨c,a,d,f⟩:=hx
 obtain⟨e,b,g,i⟩:=hy
 unfold DE rk
 rw [a,b]
 simp only [Á]
 rw [BF (by omega) (by omega)]
theorem Qo {β:Type}{l:List Ae}{i j n:Nat}{ii jj:Int}(ok:Sz cv l)(hi:i<l.length)(hj:j<l.length)(hn:l.length<=n)(ei:ii=i)(ej:jj=j)(k:Int->Option β) :
 ((gx n ii).bind fun _=>(gi l ii).bind fun x=>(gx n jj).bind fun _=>(gi l jj).bind fun y=>(DE cv x y).bind k)=k (Hf cv l j-Hf cv l i):=by
 subst ei;subst ej
 rw [gxN (by omega),giN,giN,Ã hi,Ã hj,gxN (by omega)]
 simp only [Á]
 rw [Agv (ok _ (Û hi)) (ok _ (Û hj))]
 unfold Hf
 rw [Ã hi,Ã hj];rfl
theorem wN {x:Int}{k:Nat}(h:x=k)(hk:k<1000000):À x=k:=by rw [BF (by omega) (by omega),h]
theorem Adm {x:Int}{i j:Nat}(h:x=(i:Int)+j)(hk:i+j<1000000):(À ((IntKind.u64.wrap (À x)).fdiv (2 ^ min (1:Int).toNat IntKind.u64.bits)))=(((i+j) / 2:Nat):Int):=by
 have e1:À x=((i+j:Nat):Int):=wN (by omega) hk
 have e2:IntKind.u64.wrap ((i+j:Nat):Int)=((i+j:Nat):Int):=by
  simp only [IntKind.wrap,IntKind.bits,IntKind.signed]
  simp
  omega
 rw [e1,e2]
 have e3:(2 ^ min (1:Int).toNat IntKind.u64.bits:Int)=2:=rfl
 rw [e3]
 have e4:(((i+j:Nat):Int)).fdiv 2=(((i+j) / 2:Nat):Int):=by
  rw [Int.fdiv_eq_ediv_of_nonneg _ (by decide)];omega
 rw [e4]
 exact wN rfl (by omega)
theorem Ah5 {N a J:Nat}(hJN:J<100000):∀ (j:Nat) (l:List Ae),l.length<=N->Sz cv l->a<=j->j<=J->J<l.length ->
 (∀ i k,a<=i->i<k->k<=J->i≠j->k≠j->Hf cv l k<=Hf cv l i)->(∀ k,j<k->k<=J->Hf cv l k<=Hf cv l j) ->
 ∃ l',RP l l' a (J+1)/\SR cv l' a (J+1)/\Ev (fun n=>Aw n (a:Int) N cv (j:Int) l) l':=by
 intro j
 induction j with
 |zero =>
  intro l hN ok u v hJ m p
  refine⟨l,.refl,fun i k d c q=>?_,.step (fun n=>Aw.eq_2 (n:=n) a N cv _ l) ?_⟩
  . by_cases b:i=0
    . subst b;exact p k c (by omega)
    . exact m i k d c (by omega) b (by omega)
  . refine .of fun n=>?_
    have:decide ((a:Int)<((0:Nat):Int))=false:=by simp
    rw [this];rfl
 |succ j ih =>
  intro l hN ok u v hJ m p
  have w1:À (((j+1:Nat):Int)-1)=(j:Int):=wN (by omega) (by omega)
  by_cases w:a=j+1
  . refine⟨l,.refl,fun i k d c q=>?_,.step (fun n=>Aw.eq_2 (n:=n) a N cv _ l) ?_⟩
    . by_cases b:i=j+1
      . subst b;exact p k c (by omega)
      . exact m i k d c (by omega) b (by omega)
    . refine .of fun n=>?_
      have:decide ((a:Int)<((j+1:Nat):Int))=false:=by simp;omega
      rw [this];rfl
  have r:decide ((a:Int)<((j+1:Nat):Int))=true:=by simp;omega
  have e:∀ n,Aw (n+1) (a:Int) N cv ((j+1:Nat):Int) l=if Hf cv l j-Hf cv l (j+1)<0 then Aw n (a:Int) N cv (j:Int) (swp l (j+1) j) else some l:=by
   intro n
   rw [Aw.eq_2,r]
   simp only [Î]
   rw [Qo (i:=j+1) (j:=j) ok (by omega) (by omega) hN rfl w1]
   simp only [Á]
   by_cases o:Hf cv l j-Hf cv l (j+1)<0
   . rw [È o,Í o]
     simp only [Î]
     rw [Qd (i:=j+1) (j:=j) (by omega) (by omega) hN rfl w1,w1]
   . rw [Ä o,Ç o];rfl
  by_cases o:Hf cv l j-Hf cv l (j+1)<0
  . have r1:RP l (swp l (j+1) j) a (J+1):=TF (by omega) (by omega) ⟨by omega,by omega⟩ ⟨by omega,by omega⟩
    have g:∀ x,Hf cv (swp l (j+1) j) x=if x=j then Hf cv l (j+1) else if x=j+1 then Hf cv l j else Hf cv l x:=by
     intro x
     have:=TG (l:=l) (i:=j+1) (j:=j) (by omega) (by omega) x
     split
     . rw [È (by assumption)] at this;exact JQ this
     . rw [Ä (by assumption)] at this
       split
       . rw [È (by assumption)] at this;exact JQ this
       . rw [Ä (by assumption)] at this;exact JQ this
    obtain⟨l',q1,q2,q3⟩:=ih (swp l (j+1) j) (by rw [r1.len];exact hN) (ok.rp r1) (by omega) (by omega) (by rw [r1.len];exact hJ) (by
     intro i k d c q y z
     rw [g,g,Ä z,Ä y]
     by_cases f:k=j+1
     . rw [È f,Ä (by omega)]
       exact m i j d (by omega) (by omega) (by omega) (by omega)
     . rw [Ä f]
       by_cases b:i=j+1
       . rw [È b];exact m j k (by omega) (by omega) q (by omega) f
       . rw [Ä b];exact m i k d c q b f) (by
     intro k d c
     rw [g,g,Ä (by omega),È rfl]
     by_cases f:k=j+1
     . rw [È f];omega
     . rw [Ä f];exact p k (by omega) c)
    refine⟨l',r1.trans q1,q2,.step e (q3.congr fun n=>by rw [È o])⟩
  . refine⟨l,.refl,fun i k d c q=>?_,.step e (.of fun n=>by rw [Ä o])⟩
    have s:Hf cv l (j+1)<=Hf cv l j:=by omega
    by_cases b:i=j+1
    . subst b;exact p k c (by omega)
    . by_cases f:k=j+1
      . subst f
        by_cases t:i=j
        . subst t;exact s
        . have:=m i j d (by omega) (by omega) b (by omega);omega
      . exact m i k d c (by omega) b f
theorem Ah6 {N a b:Nat}(hb:b<100000):∀ (m i:Nat) (l:List Ae),b-i=m->l.length<=N->Sz cv l->a<i->b<=l.length->SR cv l a i ->
 ∃ l',RP l l' a b/\SR cv l' a b/\Ev (fun n=>AD n (b:Int) (a:Int) N cv (i:Int) l) l':=by
 intro m
 induction m with
 |zero =>
  intro i l j hN ok o c hs
  refine⟨l,.refl,fun x y d e p=>hs x y d e (by omega),.step (fun n=>AD.eq_2 (n:=n) b a N cv _ l) (.of fun n=>?_)⟩
  have:decide ((i:Int)<(b:Int))=false:=by simp;omega
  rw [this];rfl
 |succ m ih =>
  intro i l j hN ok o c hs
  obtain⟨l1,r1,s1,e1⟩:=Ah5 (cv:=cv) (N:=N) (a:=a) (J:=i) (by omega) i l hN ok (by omega) (by omega) (by omega) (fun x y d e p q r=>hs x y d e (by omega)) (fun k d e=>by omega)
  obtain⟨l2,r2,s2,e2⟩:=ih (i+1) l1 (by omega) (by rw [r1.len];exact hN) (ok.rp r1) (by omega) (by rw [r1.len];exact c) s1
  refine⟨l2,(r1.mono (by omega) (by omega)).trans r2,s2,.step (fun n=>AD.eq_2 (n:=n) b a N cv _ l) ?_⟩
  have g:decide ((i:Int)<(b:Int))=true:=by simp;omega
  have w1:À ((i:Int)+1)=((i+1:Nat):Int):=wN (by omega) (by omega)
  refine Ev.congr (f:=_) (e1.bind e2) fun n=>?_
  rw [g,w1];rfl
theorem Rv {N a b:Nat}{l:List Ae}(hb:b<100000)(hab:a<100000)(hN:l.length<=N)(ok:Sz cv l)(hbl:b<=l.length) :
 ∃ l',RP l l' a b/\SR cv l' a b/\Ev (fun n=>AA n cv N l (a:Int) (b:Int)) l':=by
 obtain⟨l',r,s,e⟩:=Ah6 (cv:=cv) (N:=N) (a:=a) (b:=b) hb (b-(a+1)) (a+1) l rfl hN ok (by omega) hbl (fun x y c d f=>by omega)
 refine⟨l',r,s,(e.bind (g:=fun _=>some) .pure).congr fun n=>?_⟩
 unfold AA
 rw [wN (k:=a+1) (by omega) (by omega)]
def SwD (l l':List Ae)(a b c i:Nat):Prop:=∀ x,l'[x]?=if a+i<=x/\x<a+c then l[b+(x-a)]? else if b+i<=x/\x<b+c then l[a+(x-b)]? else l[x]?
theorem Ahf {N a b c:Nat}(hab:a+c<=b)(hb:b+c<100000):∀ (m i:Nat) (l:List Ae),c-i=m->i<=c->l.length<=N->b+c<=l.length ->
 ∃ l',RP l l' a (b+c)/\SwD l l' a b c i/\Ev (fun n=>AM n (c:Int) N (b:Int) (a:Int) (i:Int) l) l':=by
 intro m
 induction m with
 |zero =>
  intro i l o p hN f
  refine⟨l,.refl,fun x=>?_,.step (fun n=>AM.eq_2 (n:=n) c N b a _ l) (.of fun n=>?_)⟩
  . rw [Ä (by omega),Ä (by omega)]
  . have:decide ((i:Int)<(c:Int))=false:=by simp;omega
    rw [this];rfl
 |succ m ih =>
  intro i l o p hN f
  have r1:RP l (swp l (a+i) (b+i)) a (b+c):=TF (by omega) (by omega) ⟨by omega,by omega⟩ ⟨by omega,by omega⟩
  obtain⟨l2,r2,s2,e2⟩:=ih (i+1) (swp l (a+i) (b+i)) (by omega) (by omega) (by rw [r1.len];exact hN) (by rw [r1.len];exact f)
  refine⟨l2,r1.trans r2,fun x=>?_,.step (fun n=>AM.eq_2 (n:=n) c N b a _ l) (e2.congr fun n=>?_)⟩
  . rw [s2 x]
    have g:=fun y=>TG (l:=l) (i:=a+i) (j:=b+i) (by omega) (by omega) y
    by_cases k:a+i<=x/\x<a+c
    . rw [È k]
      by_cases d:x=a+i
      . subst d
        rw [Ä (by omega),Ä (by omega),g,Ä (by omega),È rfl]
        congr 1;omega
      . rw [È (by omega),g,Ä (by omega),Ä (by omega)]
    . rw [Ä k,Ä (by omega)]
      by_cases d:b+i<=x/\x<b+c
      . rw [È d]
        by_cases q:x=b+i
        . subst q
          rw [Ä (by omega),g,È rfl];congr 1;omega
        . rw [È (by omega),g,Ä (by omega),Ä (by omega)]
      . rw [Ä d,Ä (by omega),g,Ä (by omega),Ä (by omega)]
  . have e:decide ((i:Int)<(c:Int))=true:=by simp;omega
    have w1:À ((i:Int)+1)=((i+1:Nat):Int):=wN (by omega) (by omega)
    have w2:À ((b:Int)+i)=((b+i:Nat):Int):=wN (by omega) (by omega)
    have w3:À ((a:Int)+i)=((a+i:Nat):Int):=wN (by omega) (by omega)
    rw [e,w1,w2,w3]
    simp only [Î]
    rw [Qd (i:=a+i) (j:=b+i) (by omega) (by omega) hN rfl rfl]
theorem TH {N a b c:Nat}{l:List Ae}{aa bb cc:Int}(ea:aa=a)(eb:bb=b)(ec:cc=c)(hab:a+c<=b)(hb:b+c<100000)(hN:l.length<=N)(hl:b+c<=l.length) :
 ∃ l',RP l l' a (b+c)/\SwD l l' a b c 0/\Ev (fun n=>Bn n cv N l aa bb cc) l':=by
 subst ea;subst eb;subst ec
 obtain⟨l',r,s,e⟩:=Ahf (N:=N) hab hb c 0 l rfl (by omega) hN hl
 exact⟨l',r,s,e.bind .pure⟩
end Go.Sp
namespace Go.Sp
open Go Go.Vl
variable {cv:List Aa}
def UQ (l l':List Ae)(p m q:Nat):Prop:=∀ x,l'[x]?=if p<=x/\x<p+(q-m) then l[x+(m-p)]? else if p+(q-m)<=x/\x<q then l[x-(q-m)]? else l[x]?
theorem Aiz {N m:Nat}:∀ (s i j:Nat) (l:List Ae),i+j<=s->0<i->0<j->i<=m->m+j<100000->m+j<=l.length->l.length<=N ->
 ∃ k l1,RP l l1 (m-i) (m+j)/\k<=i/\k<=j/\Ev (fun n=>A1 n cv N (m:Int) (i:Int) (j:Int) l) ((k:Int),l1)/\∀ l',SwD l1 l' (m-k) m k 0->UQ l l' (m-i) m (m+j):=by
 intro s
 induction s with
 |zero=>intro i j l e f;omega
 |succ s ih =>
  intro i j l hs u v p hb t hN
  by_cases q:i=j
  . subst q
    refine⟨i,l,.refl,by omega,by omega,.step (fun n=>A1.eq_2 (n:=n) cv N m i i l) (.of fun n=>?_),fun l' h x=>?_⟩
    . have:((i:Int) != (i:Int))=false:=by simp
      rw [this];rfl
    . rw [h x]
      by_cases e:m-i<=x/\x<m
      . rw [È (by omega),È (by omega)];congr 1;omega
      . by_cases f:m<=x/\x<m+i
        . rw [Ä (by omega),È (by omega),Ä (by omega),È (by omega)];congr 1;omega
        . rw [Ä (by omega),Ä (by omega),Ä (by omega),Ä (by omega)]
  have o:((i:Int) != (j:Int))=true:=by simp;omega
  have w1:À ((m:Int)-i)=((m-i:Nat):Int):=wN (by omega) (by omega)
  by_cases w:j<i
  . have w2:À ((i:Int)-j)=((i-j:Nat):Int):=wN (by omega) (by omega)
    obtain⟨l1,r1,s1,e1⟩:=TH (cv:=cv) (N:=N) (a:=m-i) (b:=m) (c:=j) (l:=l) w1 rfl rfl (by omega) (by omega) hN t
    obtain⟨k,l2,r2,k1,k2,e2,d2⟩:=ih (i-j) j l1 (by omega) (by omega) v (by omega) hb (by rw [r1.len];exact t) (by rw [r1.len];exact hN)
    refine⟨k,l2,r1.trans (r2.mono (by omega) (by omega)),by omega,k2,.step (fun n=>A1.eq_2 (n:=n) cv N m i j l) ?_,fun l' h x=>?_⟩
    . have r:decide ((j:Int)<(i:Int))=true:=by simp;omega
      refine (e1.bind (g:=fun n d=>A1 n cv N (m:Int) ((i-j:Nat):Int) (j:Int) d) e2).congr fun n=>?_
      rw [o,r,w2];rfl
    . rw [d2 l' h x]
      by_cases e:m-(i-j)<=x/\x<m-(i-j)+(m+j-m)
      . rw [È e,s1,Ä (by omega),È (by omega),Ä (by omega),È (by omega)];congr 1;omega
      . rw [Ä e]
        by_cases f:m-(i-j)+(m+j-m)<=x/\x<m+j
        . rw [È f,s1,Ä (by omega),Ä (by omega),Ä (by omega),È (by omega)]
        . rw [Ä f,s1]
          by_cases y:m-i<=x/\x<m-i+j
          . rw [È (by omega),È (by omega)];congr 1;omega
          . rw [Ä (by omega),Ä (by omega),Ä (by omega),Ä (by omega)]
  . have w2:À ((j:Int)-i)=((j-i:Nat):Int):=wN (by omega) (by omega)
    have w3:À ((À ((m:Int)+j))-i)=((m+j-i:Nat):Int):=by
     have w4:À ((m:Int)+j)=((m+j:Nat):Int):=wN (by omega) (by omega)
     rw [w4];exact wN (by omega) (by omega)
    obtain⟨l1,r1,s1,e1⟩:=TH (cv:=cv) (N:=N) (a:=m-i) (b:=m+j-i) (c:=i) (l:=l) w1 w3 rfl (by omega) (by omega) hN (by omega)
    obtain⟨k,l2,r2,k1,k2,e2,d2⟩:=ih i (j-i) l1 (by omega) u (by omega) p (by omega) (by rw [r1.len];omega) (by rw [r1.len];exact hN)
    refine⟨k,l2,(r1.mono (by omega) (by omega)).trans (r2.mono (by omega) (by omega)),k1,by omega,.step (fun n=>A1.eq_2 (n:=n) cv N m i j l) ?_,fun l' h x=>?_⟩
    . have r:decide ((j:Int)<(i:Int))=false:=by simp;omega
      refine (e1.bind (g:=fun n d=>A1 n cv N (m:Int) (i:Int) ((j-i:Nat):Int) d) e2).congr fun n=>?_
      rw [o,r,w2];rfl
    . rw [d2 l' h x]
      by_cases e:m-i<=x/\x<m-i+(m+(j-i)-m)
      . rw [È e,s1,Ä (by omega),Ä (by omega),È (by omega)]
      . rw [Ä e]
        by_cases f:m-i+(m+(j-i)-m)<=x/\x<m+(j-i)
        . rw [È f,s1,È (by omega),È (by omega)];congr 1;omega
        . rw [Ä f,s1,Ä (by omega)]
          by_cases y:m+j-i<=x/\x<m+j
          . rw [È (by omega),Ä (by omega),È (by omega)];congr 1;omega
          . rw [Ä (by omega),Ä (by omega),Ä (by omega)]
theorem Afb {N p m q:Nat}{l:List Ae}{pp qq:Int}(ep:pp=p)(eq:qq=q)(hp:p<m)(hq:m<q)(hb:q<100000)(hl:q<=l.length)(hN:l.length<=N) :
 ∃ l',RP l l' p q/\UQ l l' p m q/\Ev (fun n=>B2 n cv N l pp (m:Int) qq) l':=by
 subst ep;subst eq
 obtain⟨k,l1,r1,k1,k2,e1,d1⟩:=Aiz (cv:=cv) (N:=N) (m:=m) ((m-p)+(q-m)) (m-p) (q-m) l (by omega) (by omega) (by omega) (by omega) (by omega) (by omega) hN
 have w1:À ((m:Int)-p)=((m-p:Nat):Int):=wN (by omega) (by omega)
 have w2:À ((q:Int)-m)=((q-m:Nat):Int):=wN (by omega) (by omega)
 have w3:À ((m:Int)-k)=((m-k:Nat):Int):=wN (by omega) (by omega)
 have a1:m-(m-p)=p:=by omega
 have a2:m+(q-m)=q:=by omega
 rw [a1,a2] at r1 d1
 obtain⟨l2,r2,s2,e2⟩:=TH (cv:=cv) (N:=N) (a:=m-k) (b:=m) (c:=k) (l:=l1) w3 rfl rfl (by omega) (by omega) (by rw [r1.len];exact hN) (by rw [r1.len];omega)
 refine⟨l2,r1.trans (r2.mono (by omega) (by omega)),d1 l2 s2,?_⟩
 unfold B2
 rw [w1,w2]
 exact e1.bind (e2.bind .pure)
theorem half {F:Nat->Int->Int->Option Int}{T:Nat->Bool}{lo hi:Nat}(h:∀ n i j:Nat,lo<=i->i<j->j<=hi->F (n+1) (i:Int) (j:Int)=bif T ((i+j) / 2) then F n (((i+j) / 2+1:Nat):Int) (j:Int) else F n (i:Int) (((i+j) / 2:Nat):Int))
 (h0:∀ n i:Nat,F (n+1) (i:Int) (i:Int)=some (i:Int)):∀ (s i j:Nat),j-i<=s->lo<=i->i<=j->j<=hi->(i=lo∨T (i-1)=true)->(j=hi∨T j=false) ->
 ∃ r:Nat,lo<=r/\r<=hi/\(r=lo∨T (r-1)=true)/\(r=hi∨T r=false)/\Ev (fun n=>F n (i:Int) (j:Int)) (r:Int):=by
 intro s
 induction s with
 |zero =>
  intro i j hs a k b d e
  have:i=j:=by omega
  subst this
  exact⟨i,a,b,d,e,.step (h0 · i) .pure⟩
 |succ s ih =>
  intro i j hs a k b d e
  by_cases f:i=j
  . subst f
    exact⟨i,a,b,d,e,.step (h0 · i) .pure⟩
  by_cases g:T ((i+j) / 2)=true
  . obtain⟨r,q1,q2,q3,q4,q5⟩:=ih ((i+j) / 2+1) j (by omega) (by omega) (by omega) b (.inr (by simpa using g)) e
    exact⟨r,q1,q2,q3,q4,.step (fun n=>h n i j a (by omega) b) (q5.congr fun n=>by rw [g];rfl)⟩
  . have c:T ((i+j) / 2)=false:=by simpa using g
    obtain⟨r,q1,q2,q3,q4,q5⟩:=ih i ((i+j) / 2) (by omega) a (by omega) (by omega) d (.inr c)
    exact⟨r,q1,q2,q3,q4,.step (fun n=>h n i j a (by omega) b) (q5.congr fun n=>by rw [c];rfl)⟩
theorem mv1 {N i:Nat}(hi:i<100000):∀ (s k:Nat) (l:List Ae),i-k=s->k<i->i<=l.length->l.length<=N ->
 ∃ l',RP l l' k i/\UQ l l' k (k+1) i/\Ev (fun n=>AT n (i:Int) N (k:Int) l) l':=by
 intro s
 induction s with
 |zero=>intro k l a b;omega
 |succ s ih =>
  intro k l hs m e hN
  have w1:À ((i:Int)-1)=((i-1:Nat):Int):=wN (by omega) (by omega)
  by_cases f:k+1=i
  . refine⟨l,.refl,fun x=>?_,.step (fun n=>AT.eq_2 (n:=n) i N k l) (.of fun n=>?_)⟩
    . rw [Ä (by omega)]
      by_cases h:k+(i-(k+1))<=x/\x<i
      . rw [È h];congr 1;omega
      . rw [Ä h]
    . have:decide ((k:Int)<((i-1:Nat):Int))=false:=by simp;omega
      rw [w1,this];rfl
  have w2:À ((k:Int)+1)=((k+1:Nat):Int):=wN (by omega) (by omega)
  have r1:RP l (swp l k (k+1)) k i:=TF (by omega) (by omega) ⟨by omega,by omega⟩ ⟨by omega,by omega⟩
  obtain⟨l2,r2,s2,e2⟩:=ih (k+1) (swp l k (k+1)) (by omega) (by omega) (by rw [r1.len];exact e) (by rw [r1.len];exact hN)
  refine⟨l2,r1.trans (r2.mono (by omega) (by omega)),fun x=>?_,.step (fun n=>AT.eq_2 (n:=n) i N k l) (e2.congr fun n=>?_)⟩
  . have g:=fun y=>TG (l:=l) (i:=k) (j:=k+1) (by omega) (by omega) y
    rw [s2 x]
    by_cases a:k+1<=x/\x<k+1+(i-(k+1+1))
    . rw [È a,g,Ä (by omega),Ä (by omega),È (by omega)];congr 1;omega
    . rw [Ä a]
      by_cases b:k+1+(i-(k+1+1))<=x/\x<i
      . rw [È b,g,È (by omega),Ä (by omega),È (by omega)];congr 1;omega
      . rw [Ä b,g]
        by_cases d:x=k
        . rw [Ä (by omega),È d,È (by omega)];congr 1;omega
        . rw [Ä (by omega),Ä d,Ä (by omega),Ä (by omega)]
  . have c:decide ((k:Int)<((i-1:Nat):Int))=true:=by simp;omega
    rw [w1,w2,c]
    simp only [Î]
    rw [Qd (i:=k) (j:=k+1) (by omega) (by omega) hN rfl rfl]
theorem mv3 {N i:Nat}:∀ (s m:Nat) (l:List Ae),m-i=s->m<100000->i<=m->m<l.length->l.length<=N ->
 ∃ l',RP l l' i (m+1)/\UQ l l' i m (m+1)/\Ev (fun n=>AS n (i:Int) N (m:Int) l) l':=by
 intro s
 induction s with
 |zero =>
  intro m l hs f a k hN
  refine⟨l,.refl,fun x=>?_,.step (fun n=>AS.eq_2 (n:=n) i N m l) (.of fun n=>?_)⟩
  . by_cases h:i<=x/\x<i+(m+1-m)
    . rw [È h];congr 1;omega
    . rw [Ä h,Ä (by omega)]
  . have:decide ((i:Int)<(m:Int))=false:=by simp;omega
    rw [this];rfl
 |succ s ih =>
  intro m l hs f a k hN
  have w2:À ((m:Int)-1)=((m-1:Nat):Int):=wN (by omega) (by omega)
  have r1:RP l (swp l m (m-1)) i (m+1):=TF (by omega) (by omega) ⟨by omega,by omega⟩ ⟨by omega,by omega⟩
  obtain⟨l2,r2,s2,e2⟩:=ih (m-1) (swp l m (m-1)) (by omega) (by omega) (by omega) (by rw [r1.len];omega) (by rw [r1.len];exact hN)
  refine⟨l2,r1.trans (r2.mono (by omega) (by omega)),fun x=>?_,.step (fun n=>AS.eq_2 (n:=n) i N m l) (e2.congr fun n=>?_)⟩
  . have g:=fun y=>TG (l:=l) (i:=m) (j:=m-1) (by omega) (by omega) y
    rw [s2 x]
    by_cases c:i<=x/\x<i+(m-1+1-(m-1))
    . rw [È c,g,È (by omega),È (by omega)];congr 1;omega
    . rw [Ä c]
      by_cases d:i+(m-1+1-(m-1))<=x/\x<m-1+1
      . rw [È d,g,Ä (by omega),Ä (by omega),Ä (by omega),È (by omega)];congr 1;omega
      . rw [Ä d,g,Ä (by omega)]
        by_cases e:x=m
        . rw [È e,Ä (by omega),È (by omega)];congr 1;omega
        . rw [Ä e,Ä (by omega),Ä (by omega)]
  . have b:decide ((i:Int)<(m:Int))=true:=by simp;omega
    rw [b,w2]
    simp only [Î]
    rw [Qd (i:=m) (j:=m-1) (by omega) (by omega) hN rfl rfl]
end Go.Sp
namespace Go.Sp
open Go Go.Vl
variable {cv:List Aa}
section
variable {l l':List Ae} {a b m:Nat}
theorem SR.join (h1:SR cv l a m)(h2:SR cv l m b)(h3:∀ i j,a<=i->i<m->m<=j->j<b->Hf cv l j<=Hf cv l i):SR cv l a b:=by
 intro i j d c e
 by_cases c1:j<m
 . exact h1 i j d c c1
 . by_cases c2:m<=i
   . exact h2 i j c2 c e
   . exact h3 i j d (by omega) (by omega) e
theorem SR.le (h:SR cv l a b){i j:Nat}(h1:a<=i)(h2:i<=j)(h3:j<b):Hf cv l j<=Hf cv l i:=by
 by_cases c:i=j
 . subst c;omega
 . exact h i j h1 (by omega) h3
theorem SR.keep {x y:Nat}(h:SR cv l x y)(r:RP l l' a b)(hx:y<=a∨b<=x):SR cv l' x y:=by
 intro i j c d e
 rw [JQ (r.out i (by omega)),JQ (r.out j (by omega))]
 exact h i j c d e
end
theorem UQ.rk {l l':List Ae}{p m q:Nat}(h:UQ l l' p m q)(x:Nat):Hf cv l' x=if p<=x/\x<p+(q-m) then Hf cv l (x+(m-p)) else if p+(q-m)<=x/\x<q then Hf cv l (x-(q-m)) else Hf cv l x:=by
 have e:=h x
 split
 . rw [È (by assumption)] at e;exact JQ e
 . rw [Ä (by assumption)] at e
   split
   . rw [È (by assumption)] at e;exact JQ e
   . rw [Ä (by assumption)] at e;exact JQ e
theorem UQ.parts {l l':List Ae}{a b p m q:Nat}(h:UQ l l' p m q)(s1:SR cv l a m)(s2:SR cv l m b)(ap:a<=p)(pm:p<=m)(mq:m<=q)(qb:q<=b)
 (c1:a<p->q<b->Hf cv l q<=Hf cv l (p-1)) (c2:p<m->m<q->Hf cv l p<=Hf cv l (q-1)) :
 SR cv l' a p/\SR cv l' p (p+(q-m))/\SR cv l' (p+(q-m)) q/\SR cv l' q b/\(∀ i j,a<=i->i<p+(q-m)->p+(q-m)<=j->j<b->Hf cv l' j<=Hf cv l' i):=by
 have e:=h.rk (cv:=cv)
 refine⟨fun i j d f g=>?_,fun i j d f g=>?_,fun i j d f g=>?_,fun i j d f g=>?_,fun i j d f g k=>?_⟩
 . rw [e,e,Ä (by omega),Ä (by omega),Ä (by omega),Ä (by omega)];exact s1 i j d f (by omega)
 . rw [e,e,È (by omega),È (by omega)];exact s2 _ _ (by omega) (by omega) (by omega)
 . rw [e,e,Ä (by omega),È (by omega),Ä (by omega),È (by omega)];exact s1 _ _ (by omega) (by omega) (by omega)
 . rw [e,e,Ä (by omega),Ä (by omega),Ä (by omega),Ä (by omega)];exact s2 i j (by omega) f g
 . rw [e,e,Ä (by omega)]
   by_cases ci:i<p
   . rw [Ä (c:=p<=i/\i<p+(q-m)) (by omega),Ä (c:=p+(q-m)<=i/\i<q) (by omega)]
     by_cases cj:j<q
     . rw [È (by omega)];exact s1.le d (by omega) (by omega)
     . rw [Ä (by omega)]
       have x1:=s2.le (i:=q) (j:=j) mq (by omega) k
       have x2:=s1.le (i:=i) (j:=p-1) d (by omega) (by omega)
       have x3:=c1 (by omega) (by omega)
       omega
   . rw [È (c:=p<=i/\i<p+(q-m)) (by omega)]
     by_cases cj:j<q
     . rw [È (by omega)]
       have x1:=s1.le (i:=p) (j:=j-(q-m)) ap (by omega) (by omega)
       have x2:=s2.le (i:=i+(m-p)) (j:=q-1) (by omega) (by omega) (by omega)
       have x3:=c2 (by omega) (by omega)
       omega
     . rw [Ä (by omega)];exact s2.le (by omega) (by omega) k
theorem Ag0 {p q:Prop}[Decidable p][Decidable q]:(bif decide p then some (decide q) else some false)=some (decide (p/\q)):=by
 by_cases a:p<;>by_cases b:q<;>simp [a,b]
theorem Ya {N:Nat}:∀ (s a m b:Nat) (l:List Ae),b-a<=s->a<m->m<b->b<100000->b<=l.length->l.length<=N->Sz cv l->SR cv l a m->SR cv l m b ->
 ∃ l',RP l l' a b/\SR cv l' a b/\Ev (fun k=>Ap k cv N l (a:Int) (m:Int) (b:Int)) l':=by
 intro s
 induction s with
 |zero=>intro a m b l o t v;omega
 |succ s ih =>
  intro a m b l hs z A hb D hN ok s1 s2
  have w1:À ((m:Int)-a)=((m-a:Nat):Int):=wN (by omega) (by omega)
  have w2:À ((b:Int)-m)=((b-m:Nat):Int):=wN (by omega) (by omega)
  by_cases c1:m=a+1
  . have o:(((m-a:Nat):Int) == 1)=true:=by simp;omega
    obtain⟨r,q1,q2,q3,q4,q5⟩:=half (F:=fun n i j=>A3 n N l (a:Int) cv i j) (T:=fun h=>decide (Hf cv l a-Hf cv l h<0)) (lo:=m) (hi:=b) (by
     intro n i j o t v
     show A3 (n+1) N l (a:Int) cv i j=_
     have f:decide ((i:Int)<(j:Int))=true:=by simp;omega
     rw [A3.eq_2,f,Adm (i:=i) (j:=j) rfl (by omega)]
     simp only [Î]
     rw [Qo (i:=(i+j) / 2) (j:=a) ok (by omega) (by omega) hN rfl rfl,wN (k:=(i+j) / 2+1) (by omega) (by omega)]) (by
     intro n i
     show A3 (n+1) N l (a:Int) cv i i=_
     have f:decide ((i:Int)<(i:Int))=false:=by simp
     rw [A3.eq_2,f];rfl) (b-m) m b (by omega) (by omega) (by omega) (by omega) (.inl rfl) (.inl rfl)
    obtain⟨l',r1,d1,e1⟩:=mv1 (N:=N) (i:=r) (by omega) (r-a) a l rfl (by omega) (by omega) hN
    have g:=d1.rk (cv:=cv)
    subst c1
    obtain⟨p1,p2,p3,p4,p5⟩:=d1.parts (cv:=cv) (a:=a) (b:=b) s1 s2 (by omega) (by omega) (by omega) (by omega) (fun h=>by omega) (fun h u=>by
     rcases q3 with q3|q3
     . omega
     . have:=þ q3;omega)
    refine⟨l',r1.mono (by omega) (by omega),SR.join p2 (SR.join p3 p4 fun i j o t v w=>?_) p5,.step (fun k=>Ap.eq_2 (n:=k) cv N l a _ b) ?_⟩
    . rcases q4 with q4|q4
      . omega
      have q4:=of_decide_eq_false q4
      rw [g,g,Ä (by omega),Ä (by omega),Ä (by omega),È (by omega)]
      have x:=s2.le (i:=r) (j:=j) (by omega) (by omega) w
      have:i-(r-(a+1))=a:=by omega
      rw [this];omega
    . rw [w1,o]
      exact q5.bind (e1.bind .pure)
  have o:(((m-a:Nat):Int) == 1)=false:=by simp;omega
  by_cases c2:b=m+1
  . have t:(((b-m:Nat):Int) == 1)=true:=by simp;omega
    obtain⟨r,q1,q2,q3,q4,q5⟩:=half (F:=fun n i j=>A2 n N (m:Int) l cv i j) (T:=fun h=>!decide (Hf cv l h-Hf cv l m<0)) (lo:=a) (hi:=m) (by
     intro n i j o t v
     show A2 (n+1) N (m:Int) l cv i j=_
     have f:decide ((i:Int)<(j:Int))=true:=by simp;omega
     rw [A2.eq_2,f,Adm (i:=i) (j:=j) rfl (by omega)]
     simp only [Î]
     rw [Qo (i:=m) (j:=(i+j) / 2) ok (by omega) (by omega) hN rfl rfl,wN (k:=(i+j) / 2+1) (by omega) (by omega)]) (by
     intro n i
     show A2 (n+1) N (m:Int) l cv i i=_
     have f:decide ((i:Int)<(i:Int))=false:=by simp
     rw [A2.eq_2,f];rfl) (m-a) a m (by omega) (by omega) (by omega) (by omega) (.inl rfl) (.inl rfl)
    obtain⟨l',r1,d1,e1⟩:=mv3 (N:=N) (i:=r) (m-r) m l rfl (by omega) (by omega) (by omega) hN
    have g:=d1.rk (cv:=cv)
    subst c2
    obtain⟨p1,p2,p3,p4,p5⟩:=d1.parts (cv:=cv) (a:=a) (b:=m+1) s1 s2 (by omega) (by omega) (by omega) (by omega) (fun h u=>by omega) (fun h u=>by
     rcases q4 with q4|q4
     . omega
     . have:=þ (by simpa using q4:decide (Hf cv l r-Hf cv l m<0)=true)
       have e:m+1-1=m:=by omega
       rw [e];omega)
    refine⟨l',r1.mono (by omega) (by omega),SR.join (SR.join p1 p2 fun i j o t v w=>?_) p3 p5,.step (fun k=>Ap.eq_2 (n:=k) cv N l a m _) ?_⟩
    . rcases q3 with q3|q3
      . omega
      have q3:=of_decide_eq_false (by simpa using q3:decide (Hf cv l (r-1)-Hf cv l m<0)=false)
      rw [g,g,È (by omega),Ä (by omega),Ä (by omega)]
      have x:=s1.le (i:=i) (j:=r-1) (by omega) (by omega) (by omega)
      have:j+(m-r)=m:=by omega
      rw [this];omega
    . rw [w1,o,w2,t]
      exact q5.bind (e1.bind .pure)
  have t:(((b-m:Nat):Int) == 1)=false:=by simp;omega
  have wm:=Adm (x:=(a:Int)+b) (i:=a) (j:=b) rfl (by omega)
  generalize y:(a+b) / 2=mid at wm
  have B:a<mid:=by omega
  have C:mid<b:=by omega
  have wn:À ((mid:Int)+m)=((mid+m:Nat):Int):=wN (by omega) (by omega)
  have key:∀ lo hi:Nat,a<=lo->lo<=hi->hi<=m->hi<=mid∨m<=mid->mid+m-b<=lo->(lo=a∨lo+b=mid+m)->(hi=m∨hi=mid) ->
   ∃ r:Nat,lo<=r/\r<=hi/\(r=lo∨Hf cv l (mid+m-r)<=Hf cv l (r-1))/\(r=hi∨Hf cv l r<=Hf cv l (mid+m-r-1))/\Ev (fun n=>Av n N (a:Int) (b:Int) (m:Int) l cv (lo:Int) (hi:Int)) (r:Int):=by
   intro lo hi k1 k2 k3 k4 k5 k6 k7
   obtain⟨r,q1,q2,q3,q4,q5⟩:=half (F:=fun n i j=>Av n N (a:Int) (b:Int) (m:Int) l cv i j) (T:=fun c=>!decide (Hf cv l c-Hf cv l (mid+m-1-c)<0)) (lo:=lo) (hi:=hi) (by
    intro n i j o t v
    show Av (n+1) N (a:Int) (b:Int) (m:Int) l cv i j=_
    have f:decide ((i:Int)<(j:Int))=true:=by simp;omega
    rw [Av.eq_2,f,Adm (i:=i) (j:=j) rfl (by omega),wm,wn]
    simp only [Î]
    rw [wN (x:=((mid+m:Nat):Int)-1) (k:=mid+m-1) (by omega) (by omega),wN (x:=((mid+m-1:Nat):Int)-(((i+j) / 2:Nat):Int)) (k:=mid+m-1-(i+j) / 2) (by omega) (by omega)]
    rw [Qo (i:=mid+m-1-(i+j) / 2) (j:=(i+j) / 2) ok (by omega) (by omega) hN rfl rfl,wN (x:=(((i+j) / 2:Nat):Int)+1) (k:=(i+j) / 2+1) (by omega) (by omega)]) (by
    intro n i
    show Av (n+1) N (a:Int) (b:Int) (m:Int) l cv i i=_
    have f:decide ((i:Int)<(i:Int))=false:=by simp
    rw [Av.eq_2,f];rfl) (hi-lo) lo hi (by omega) (by omega) (by omega) (by omega) (.inl rfl) (.inl rfl)
   refine⟨r,q1,q2,?_,?_,q5⟩
   . by_cases c:r=lo
     . exact .inl c
     . rcases q3 with q3|q3
       . exact absurd q3 c
       . have x:=of_decide_eq_false (by simpa using q3:decide (Hf cv l (r-1)-Hf cv l (mid+m-1-(r-1))<0)=false)
         have e:mid+m-1-(r-1)=mid+m-r:=by omega
         rw [e] at x
         exact .inr (by omega)
   . rcases q4 with q4|q4
     . exact .inl q4
     . have x:=þ (by simpa using q4:decide (Hf cv l r-Hf cv l (mid+m-1-r)<0)=true)
       have e:mid+m-1-r=mid+m-r-1:=by omega
       rw [e] at x
       exact .inr (by omega)
  have key2:∃ lo hi r:Nat,(bif decide ((mid:Int)<(m:Int)) then some (À (((mid+m:Nat):Int)-(b:Int)),(mid:Int)) else some ((a:Int),(m:Int)))=some ((lo:Int),(hi:Int))/\a<=r/\r<=m/\r<=mid/\m<=mid+m-r/\mid+m-r<=b/\(a<r->mid+m-r<b->Hf cv l (mid+m-r)<=Hf cv l (r-1))/\(r<m->m<mid+m-r->Hf cv l r<=Hf cv l (mid+m-r-1))/\Ev (fun n=>Av n N (a:Int) (b:Int) (m:Int) l cv (lo:Int) (hi:Int)) (r:Int):=by
   by_cases c:mid<m
   . obtain⟨r,q1,q2,q3,q4,q5⟩:=key (mid+m-b) mid (by omega) (by omega) (by omega) (by omega) (by omega) (by omega) (by omega)
     refine⟨mid+m-b,mid,r,?_,by omega,by omega,by omega,by omega,by omega,fun h u=>q3.elim (fun h=>by omega) id,fun h u=>q4.elim (fun h=>by omega) id,q5⟩
     rw [Í (by omega),wN (k:=mid+m-b) (by omega) (by omega)];rfl
   . obtain⟨r,q1,q2,q3,q4,q5⟩:=key a m (by omega) (by omega) (by omega) (by omega) (by omega) (by omega) (by omega)
     refine⟨a,m,r,?_,by omega,by omega,by omega,by omega,by omega,fun h u=>q3.elim (fun h=>by omega) id,fun h u=>q4.elim (fun h=>by omega) id,q5⟩
     rw [Ç (by omega)];rfl
  obtain⟨lo,hi,r,f1,f2,f3,f4,f5,f6,f7,f8,f9⟩:=key2
  have wq:À (((mid+m:Nat):Int)-(r:Int))=((mid+m-r:Nat):Int):=wN (by omega) (by omega)
  have emid:r+(mid+m-r-m)=mid:=by omega
  generalize E:mid+m-r=q at *
  -- the rotation
  have rot:∃ l1,RP l l1 r q/\UQ l l1 r m q/\Ev (fun n=>bif decide (r<m/\m<q) then (B2 n cv N l (r:Int) (m:Int) (q:Int)).bind fun d=>some d else some l) l1:=by
   by_cases c:r<m/\m<q
   . obtain⟨l1,r1,d1,e1⟩:=Afb (cv:=cv) (N:=N) (p:=r) (m:=m) (q:=q) (l:=l) rfl rfl c.1 c.2 (by omega) (by omega) hN
     refine⟨l1,r1,d1,?_⟩
     rw [Í c]
     exact e1.bind .pure
   . refine⟨l,.refl,fun x=>?_,?_⟩
     . by_cases c3:r=m
       . subst c3
         by_cases h:r<=x/\x<r+(q-r)
         . rw [È h];congr 1;omega
         . rw [Ä h,Ä (by omega)]
       . rw [Ä (by omega)]
         by_cases h:r+(q-m)<=x/\x<q
         . rw [È h];congr 1;omega
         . rw [Ä h]
     . rw [Ç c];exact .pure
  obtain⟨l1,r1,d1,e1⟩:=rot
  obtain⟨p1,p2,p3,p4,p5⟩:=d1.parts (cv:=cv) (a:=a) (b:=b) s1 s2 f2 f3 f5 f6 f7 f8
  rw [emid] at p2 p3 p5
  have ok1:=ok.rp r1
  have left:∃ l2,RP l1 l2 a mid/\SR cv l2 a mid/\Ev (fun n=>bif decide (a<r/\r<mid) then (Ap n cv N l1 (a:Int) (r:Int) (mid:Int)).bind fun d=>some d else some l1) l2:=by
   by_cases c:a<r/\r<mid
   . obtain⟨l2,r2,t2,e2⟩:=ih a r mid l1 (by omega) c.1 c.2 (by omega) (by rw [r1.len];omega) (by rw [r1.len];exact hN) ok1 p1 p2
     refine⟨l2,r2,t2,?_⟩
     rw [Í c]
     exact e2.bind .pure
   . refine⟨l1,.refl,?_,?_⟩
     . by_cases c3:a=r
       . rw [c3];exact p2
       . have:r=mid:=by omega
         rw [<- this];exact p1
     . rw [Ç c];exact .pure
  obtain⟨l2,r2,t2,e2⟩:=left
  have ok2:=ok1.rp r2
  have right:∃ l3,RP l2 l3 mid b/\SR cv l3 mid b/\Ev (fun n=>bif decide (mid<q/\q<b) then (Ap n cv N l2 (mid:Int) (q:Int) (b:Int)).bind fun d=>some d else some l2) l3:=by
   have p3':SR cv l2 mid q:=p3.keep r2 (.inr (by omega))
   have p4':SR cv l2 q b:=p4.keep r2 (.inr (by omega))
   by_cases c:mid<q/\q<b
   . obtain⟨l3,r3,t3,e3⟩:=ih mid q b l2 (by omega) c.1 c.2 (by omega) (by rw [r2.len,r1.len];omega) (by rw [r2.len,r1.len];exact hN) ok2 p3' p4'
     refine⟨l3,r3,t3,?_⟩
     rw [Í c]
     exact e3.bind .pure
   . refine⟨l2,.refl,?_,?_⟩
     . by_cases c3:mid=q
       . rw [c3];exact p4'
       . have:q=b:=by omega
         rw [<- this];exact p3'
     . rw [Ç c];exact .pure
  obtain⟨l3,r3,t3,e3⟩:=right
  refine⟨l3,((r1.mono (by omega) (by omega)).trans (r2.mono (by omega) (by omega))).trans (r3.mono (by omega) (by omega)),SR.join (t2.keep r3 (.inl (by omega))) t3 fun i j k1 k2 k3 k4=>?_,.step (fun k=>Ap.eq_2 (n:=k) cv N l a m b) ?_⟩
  . obtain⟨i2,k5,k6,k7⟩:=r2.inn i k1 k2
    obtain⟨j2,k8,k9,k10⟩:=r3.inn j k3 k4
    rw [JQ ((r3.out i (by omega)).trans k7),JQ (k10.trans (r2.out j2 (by omega)))]
    exact p5 i2 j2 k5 k6 k8 k9
  . rw [w1,o,w2,t,wm,wn,f1]
    simp only [Ì,Á]
    refine f9.bind ?_
    rw [wq]
    simp only [Int.ofNat_lt,Ag0,Á]
    refine e1.bind ?_
    refine e2.bind ?_
    refine e3.congr fun n=>?_
    rfl
section
variable {N n:Nat} {l d:List Ae}
theorem Uj {x b:Int}(h:(n:Int)<b):Ev (fun k=>A8 k (n:Int) cv N x b l) (x,b,l):=.step (fun k=>A8.eq_2 (n:=k) n cv N x b l) (.of fun k=>by rw [Ç (by omega)];rfl)
theorem Adr {x b:Int}{r:Int×Int×List Ae}(h:b<=(n:Int))(e:Ev (fun k=>AA k cv N l x b) d)(e2:Ev (fun k=>A8 k (n:Int) cv N b (À (b+20)) d) r):Ev (fun k=>A8 k (n:Int) cv N x b l) r:=by
 refine .step (fun k=>A8.eq_2 (n:=k) n cv N x b l) ?_
 rw [Í h]
 exact e.bind e2
theorem Aa4 {s x b:Int}(h:(n:Int)<b):Ev (fun k=>A9 k (n:Int) cv N s x b l) (x,b,l):=.step (fun k=>A9.eq_2 (n:=k) n cv N s x b l) (.of fun k=>by rw [Ç (by omega)];rfl)
theorem Ai8 {s x b:Int}{r:Int×Int×List Ae}(h:b<=(n:Int))(e:Ev (fun k=>Ap k cv N l x (À (x+s)) b) d)(e2:Ev (fun k=>A9 k (n:Int) cv N s b (À (b+(À (2*s)))) d) r):Ev (fun k=>A9 k (n:Int) cv N s x b l) r:=by
 refine .step (fun k=>A9.eq_2 (n:=k) n cv N s x b l) ?_
 rw [Í h]
 exact e.bind e2
theorem Uk {s x b:Int}(h:(n:Int)<=s):Ev (fun k=>A4 k (n:Int) cv N s x b l) l:=.step (fun k=>A4.eq_2 (n:=k) n cv N s x b l) (.of fun k=>by rw [Ç (by omega)];rfl)
theorem Ahr {s x b x2 b2:Int}{l5 l6 r:List Ae}(h:s<(n:Int))(e:Ev (fun k=>A9 k (n:Int) cv N s 0 (À (2*s)) l) (x2,b2,l5))
 (e2:Ev (fun k=>bif decide (À (x2+s)<(n:Int)) then Ap k cv N l5 x2 (À (x2+s)) (n:Int) else some l5) l6) (e3:Ev (fun k=>A4 k (n:Int) cv N (À (s*2)) x2 b2 l6) r):Ev (fun k=>A4 k (n:Int) cv N s x b l) r:=by
 refine .step (fun k=>A4.eq_2 (n:=k) n cv N s x b l) ?_
 rw [Í h]
 refine e.bind ?_
 cases a:decide (À (x2+s)<(n:Int))
 . rw [a] at e2
   obtain⟨K,c⟩:=e2
   have:l5=l6:=by simpa using c K (ä _)
   subst this
   refine e3.congr fun k=>?_
   show (bif decide (À (x2+s)<(n:Int)) then _ else _)=_
   rw [a];rfl
 . rw [a] at e2
   refine (e2.bind e3).congr fun k=>?_
   show (bif decide (À (x2+s)<(n:Int)) then _ else _)=_
   rw [a];rfl
end
theorem YU {N n:Nat}{l:List Ae}(hn:n<=40)(hl:l.length=n)(hN:n<=N)(ok:Sz cv l):∃ l',RP l l' 0 n/\SR cv l' 0 n/\Ev (fun k=>B8 k cv N l (n:Int)) l':=by
 have fin:∀ {x b:Int} {l1 l2 l3:List Ae},Ev (fun k=>A8 k (n:Int) cv N 0 20 l) (x,b,l1)->Ev (fun k=>AA k cv N l1 x (n:Int)) l2->Ev (fun k=>A4 k (n:Int) cv N 20 x b l2) l3->Ev (fun k=>B8 k cv N l (n:Int)) l3:=by
  intro x b l1 l2 l3 e1 e2 e3
  unfold B8
  exact e1.bind (e2.bind (e3.bind .pure))
 by_cases f:n<20
 . obtain⟨l',r,s,e⟩:=Rv (cv:=cv) (N:=N) (a:=0) (b:=n) (l:=l) (by omega) (by omega) (by omega) ok (by omega)
   exact⟨l',r,s,fin (Uj (by omega)) e (Uk (by omega))⟩
 obtain⟨l1,r1,s1,e1⟩:=Rv (cv:=cv) (N:=N) (a:=0) (b:=20) (l:=l) (by omega) (by omega) (by omega) ok (by omega)
 have ok1:=ok.rp r1
 by_cases g:n<40
 . obtain⟨l2,r2,s2,e2⟩:=Rv (cv:=cv) (N:=N) (a:=20) (b:=n) (l:=l1) (by omega) (by omega) (by rw [r1.len];omega) ok1 (by rw [r1.len];omega)
   have s1':SR cv l2 0 20:=s1.keep r2 (.inl (by omega))
   have r12:RP l l2 0 n:=(r1.mono (by omega) (by omega)).trans (r2.mono (by omega) (by omega))
   by_cases c:n=20
   . subst c
     exact⟨l2,r12,s1',fin (Adr (by omega) e1 (Uj (b:=À (20+20)) (by decide))) e2 (Uk (by omega))⟩
   . obtain⟨l3,r3,s3,e3⟩:=Ya (cv:=cv) (N:=N) n 0 20 n l2 (by omega) (by omega) (by omega) (by omega) (by rw [r2.len,r1.len];omega) (by rw [r2.len,r1.len];omega) (ok1.rp r2) s1' s2
     have w40:À (20+20)=40:=by decide
     have w2:À (2*20)=40:=by decide
     have w0:À (0+20)=20:=by decide
     have w4:À (20*2)=40:=by decide
     refine⟨l3,r12.trans r3,s3,fin (Adr (by omega) e1 (Uj (by rw [w40];omega))) e2 (Ahr (x2:=0) (b2:=40) (l5:=l2) (l6:=l3) (by omega) (by rw [w2];exact Aa4 (by omega)) ?_ (Uk (by rw [w4];omega)))⟩
     rw [w0,Í (by omega)]
     exact e3
 . have d:n=40:=by omega
   subst d
   have w40:À (20+20)=40:=by decide
   have w60:À (40+20)=60:=by decide
   have w2:À (2*20)=40:=by decide
   have w0:À (0+20)=20:=by decide
   have w4:À (20*2)=40:=by decide
   obtain⟨l2,r2,s2,e2⟩:=Rv (cv:=cv) (N:=N) (a:=20) (b:=40) (l:=l1) (by omega) (by omega) (by rw [r1.len];omega) ok1 (by rw [r1.len];omega)
   have s1':SR cv l2 0 20:=s1.keep r2 (.inl (by omega))
   obtain⟨l3,r3,s3,e3⟩:=Rv (cv:=cv) (N:=N) (a:=40) (b:=40) (l:=l2) (by omega) (by omega) (by rw [r2.len,r1.len];omega) (ok1.rp r2) (by rw [r2.len,r1.len];omega)
   obtain⟨l4,r4,s4,e4⟩:=Ya (cv:=cv) (N:=N) 40 0 20 40 l3 (by omega) (by omega) (by omega) (by omega) (by rw [r3.len,r2.len,r1.len];omega) (by rw [r3.len,r2.len,r1.len];omega) ((ok1.rp r2).rp r3) (s1'.keep r3 (.inl (by omega))) (s2.keep r3 (.inl (by omega)))
   refine⟨l4,(((r1.mono (by omega) (by omega)).trans (r2.mono (by omega) (by omega))).trans (r3.mono (by omega) (by omega))).trans r4,s4,fin (x:=40) (b:=60) (Adr (by omega) e1 ?_) e3 (Ahr (x2:=40) (b2:=80) (l5:=l4) (l6:=l4) (by omega) ?_ ?_ (Uk (by rw [w4];omega)))⟩
   . rw [w40]
     refine Adr (by omega) e2 ?_
     rw [w60]
     exact Uj (by omega)
   . rw [w2]
     refine Ai8 (by omega) (by rw [w0];exact e4) ?_
     rw [w2]
     have:À (40+40)=80:=by decide
     rw [this]
     exact Aa4 (by omega)
   . have:À (40+20)=60:=by decide
     rw [this,Ç (by omega)]
     exact .pure
theorem Ac2 {l:List Ae}(hn:l.length<=40)(ok:Sz cv l):∃ l',l'.Perm l/\SR cv l' 0 l'.length/\Ev (fun k=>Ca k cv l.length l) l':=by
 obtain⟨l',r,s,e⟩:=YU (cv:=cv) (N:=l.length) hn rfl (ä _) ok
 refine⟨l',r.perm,by rw [r.len];exact s,?_⟩
 unfold Ca
 exact e.bind .pure
end Go.Sp
namespace Go.Sp
open Go
set_option maxRecDepth 100000
def MX (c:Aa)(d:Ai)(known:Int):Int×Int×Bool×Int :=
 if Cp [c]≠0 then (0,0,false,Cp [c]) else if Da d known≠0 then (0,0,false,Da d known)
 else (HD ⟨d,known⟩ c.From,HD ⟨d,known⟩ c.To,decide (c.Known<=known)&&(HD ⟨d,known⟩ c.When == 1),0)
theorem UW {e:Af}{t:Int}(h:DS e t=0):(AI e).2.2.E=0:=by
 unfold DS at h
 by_cases c:(AI e).2.2.E=0
 . exact c
 . rw [È c] at h;exact absurd h c
theorem Ab0 {c:Aa}(h:Cp [c]=0):(AI c.From).2.2.E=0/\(AI c.To).2.2.E=0/\(AI c.When).2.2.E=0:=by
 unfold Cp at h
 rw [Ä (by simp),Et] at h
 by_cases d:BM (List.take 0 [c]) c=0
 . have e:DT c=0:=by
    unfold BM at d
    split at d
    . cases d
    . split at d
      . cases d
      . split at d
        . cases d
        . split at d
          . cases d
          . exact d
   unfold DT at e
   by_cases a:DS c.From 2=0
   . rw [Ä (by simpa using a)] at e
     by_cases b:DS c.To 2=0
     . rw [Ä (by simpa using b)] at e
       exact⟨UW a,UW b,UW e⟩
     . rw [È b] at e;exact absurd e b
   . rw [È a] at e;exact absurd e a
 . rw [È d] at h;exact absurd h d
theorem Ac1 (c:Aa)(d:Ai)(known:Int)(hs:Fi c):Ev (fun n=>Eu n c d known) (MX c d known)/\Ev (fun n=>Jk n c d known) ⟨(MX c d known).1,(MX c d known).2.1,(MX c d known).2.2.1,(MX c d known).2.2.2⟩:=by
 have f:∀ x∈[c],Fi x:=fun x k=>by rw [List.mem_singleton.1 k];exact hs
 unfold Eu Jk MX
 simp only [Á]
 by_cases g:Cp [c]=0
 . obtain⟨f1,f2,f3⟩:=Ab0 g
   by_cases i:Da d known=0
   . have v1:∀ e,CY e=true->(AI e).2.2.E=0->TC e ⟨d,known⟩=some (HD ⟨d,known⟩ e):=fun e a b=>by unfold TC;rw [È ⟨a,b,i⟩]
     rw [Ä (by simpa using g),Ä (by simpa using i)]
     constructor
     . refine Ev.bind (H9 [c] f) ?_
       rw [show (Cp [c] != 0)=false by simpa using g]
       simp only [Ì]
       refine Ev.bind (Jn d known) ?_
       rw [show (Da d known != 0)=false by simpa using i]
       simp only [Ì,v1 _ hs.1 f1,v1 _ hs.2.1 f2,v1 _ hs.2.2 f3,Á]
       cases decide (c.Known<=known)<;>exact Ev.pure
     . refine Ev.bind (J4 [c] f) ?_
       rw [show (Cp [c] != 0)=false by simpa using g]
       simp only [Ì]
       refine Ev.bind (LZ d known) ?_
       rw [show (Da d known != 0)=false by simpa using i]
       simp only [Ì]
       have j:=Xi (m:=⟨d,known⟩) i
       refine Ev.bind (a:=(HD ⟨d,known⟩ c.From,HD ⟨d,known⟩ c.To,decide (c.Known<=known)&&(HD ⟨d,known⟩ c.When == 1))) (Ev.bind (Qj ⟨d,known⟩ j c.From hs.1 f1) (Ev.bind (Qj ⟨d,known⟩ j c.To hs.2.1 f2) ?_)) Ev.pure
       cases decide (c.Known<=known) with
       |true=>exact Ev.bind (Qj ⟨d,known⟩ j c.When hs.2.2 f3) Ev.pure
       |false=>exact Ev.pure
   . rw [Ä (by simpa using g),È i]
     constructor
     . refine Ev.bind (H9 [c] f) ?_
       rw [show (Cp [c] != 0)=false by simpa using g]
       refine Ev.bind (Jn d known) ?_
       rw [show (Da d known != 0)=true by simpa using i]
       exact Ev.pure
     . refine Ev.bind (J4 [c] f) ?_
       rw [show (Cp [c] != 0)=false by simpa using g]
       refine Ev.bind (LZ d known) ?_
       rw [show (Da d known != 0)=true by simpa using i]
       exact Ev.pure
 . rw [È g]
   constructor
   . refine Ev.bind (H9 [c] f) ?_
     rw [show (Cp [c] != 0)=true by simpa using g]
     exact Ev.pure
   . refine Ev.bind (J4 [c] f) ?_
     rw [show (Cp [c] != 0)=true by simpa using g]
     exact Ev.pure
end Go.Sp
namespace Go.Sp
open Go
set_option maxRecDepth 100000
theorem Aed {ks:List Aa}{c:Aa}(h:BM ks c=0):J7 c.Name=true/\1<=c.Kind/\c.Kind<=3/\GF c=false/\DT c=0:=by
 unfold BM at h
 split at h
 . cases h
 . split at h
   . cases h
   . split at h
     . cases h
     . split at h
       . cases h
       . rename_i a d e b
         exact⟨by simpa using a,by omega,by omega,by simpa using b,h⟩
theorem RL {l:List Aa}:∀ (r:List Aa) (k:Nat),Et l r k=0->∀ c∈r,∃ j,BM (l.take j) c=0
 | [],_,_,c,hc=>by cases hc
 |x::r,k,h,c,hc=>by
  rw [Et] at h
  by_cases h1:BM (l.take k) x=0
  . rw [Ä (by simpa using h1)] at h
    rcases List.mem_cons.1 hc with rfl|hc
    . exact⟨k,h1⟩
    . exact RL r (k+1) h c hc
  . rw [È h1] at h;exact absurd h h1
structure JD (c:Aa):Prop where
 kind:1<=c.Kind/\c.Kind<=3
 rank:0<=c.Rank/\c.Rank<=9
 known:0<=c.Known/\c.Known<=41666
 houses:(c.Kind<3->c.Houses=0)/\(c.Kind=3->1<=c.Houses/\c.Houses<=4095)
 one:Cp [c]=0
 from_:(AI c.From).2.2.E=0/\(AI c.From).1=2
 to_:(AI c.To).2.2.E=0/\(AI c.To).1=2
 when_:(AI c.When).2.2.E=0/\(AI c.When).1=3
theorem ZR {e:Af}{t:Int}(h:DS e t=0):(AI e).2.2.E=0/\(AI e).1=t:=by
 refine⟨UW h,?_⟩
 unfold DS at h
 rw [Ä (by simpa using UW h)] at h
 by_cases c:(AI e).1=t
 . exact c
 . rw [È c] at h;cases h
theorem Aig {ks:List Aa}{c:Aa}(h:BM ks c=0):JD c:=by
 obtain⟨f,g,i,e,d⟩:=Aed h
 unfold GF at e
 have e:=of_decide_eq_false e
 have e1:Cp [c]=0:=by
  unfold Cp
  rw [Ä (by simp),Et]
  have:BM (List.take 0 [c]) c=0:=by
   unfold BM
   rw [Ä (by rw [f];decide),Ä (by unfold Gz;simp),Ä (by omega),Ä (by unfold GF;rw [Ç e];decide)]
   exact d
  rw [this];rfl
 unfold DT at d
 by_cases a:DS c.From 2=0
 . rw [Ä (by simpa using a)] at d
   by_cases b:DS c.To 2=0
   . rw [Ä (by simpa using b)] at d
     exact⟨⟨g,i⟩,by omega,by omega,⟨by omega,by omega⟩,e1,ZR a,ZR b,ZR d⟩
   . rw [È b] at d;exact absurd d b
 . rw [È a] at d;exact absurd d a
theorem RJ {l:List Aa}(h:Cp l=0):l.length<=40/\∀ c∈l,JD c:=by
 unfold Cp at h
 by_cases b:40<l.length
 . rw [È b] at h;cases h
 . rw [Ä b] at h
   refine⟨by omega,fun c d=>?_⟩
   obtain⟨j,e⟩:=RL l 0 h c d
   exact Aig e
def IK (d:Ai)(known:Int)(c:Aa):Bool:=decide (c.Known<=known)&&(HD ⟨d,known⟩ c.When == 1)
theorem Yf {c:Aa}{d:Ai}{known:Int}(hc:JD c)(hk:Da d known=0):MX c d known=(HD ⟨d,known⟩ c.From,HD ⟨d,known⟩ c.To,IK d known c,0):=by
 unfold MX
 rw [Ä (by simpa using hc.one),Ä (by simpa using hk)];rfl
theorem Yg {e:Af}{d:Ai}{known:Int}(hk:Da d known=0)(hs:CY e=true)(h:(AI e).2.2.E=0/\(AI e).1=2):0<=HD ⟨d,known⟩ e/\HD ⟨d,known⟩ e<=41667:=by
 have:=(QB Ud ⟨d,known⟩ (Xi (m:=⟨d,known⟩) hk) e hs h.1).2
 rw [h.2] at this
 exact in2 this
theorem Aad (c:Aa)(d:Ai)(known:Int)(hs:Fi c):Ev (fun n=>Eu n c d known) (MX c d known):=by
 have f:∀ x∈[c],Fi x:=fun x j=>by rw [List.mem_singleton.1 j];exact hs
 unfold Eu MX
 simp only [Á]
 by_cases g:Cp [c]=0
 . obtain⟨f1,f2,f3⟩:=Ab0 g
   by_cases i:Da d known=0
   . have v1:∀ e,CY e=true->(AI e).2.2.E=0->TC e ⟨d,known⟩=some (HD ⟨d,known⟩ e):=fun e a b=>by unfold TC;rw [È ⟨a,b,i⟩]
     rw [Ä (by simpa using g),Ä (by simpa using i)]
     refine Ev.bind (H9 [c] f) ?_
     rw [show (Cp [c] != 0)=false by simpa using g]
     simp only [Ì]
     refine Ev.bind (Jn d known) ?_
     rw [show (Da d known != 0)=false by simpa using i]
     simp only [Ì,v1 _ hs.1 f1,v1 _ hs.2.1 f2,v1 _ hs.2.2 f3,Á]
     cases decide (c.Known<=known)<;>exact Ev.pure
   . rw [Ä (by simpa using g),È i]
     refine Ev.bind (H9 [c] f) ?_
     rw [show (Cp [c] != 0)=false by simpa using g]
     refine Ev.bind (Jn d known) ?_
     rw [show (Da d known != 0)=true by simpa using i]
     exact Ev.pure
 . rw [È g]
   refine Ev.bind (H9 [c] f) ?_
   rw [show (Cp [c] != 0)=true by simpa using g]
   exact Ev.pure
def Lu (d:Ai)(known:Int):List Aa->Nat->List Ae
 | [],_=>[]
 |c::r,k=>(if IK d known c=true then [⟨HD ⟨d,known⟩ c.From,HD ⟨d,known⟩ c.To,(k:Int)⟩] else [])++Lu d known r (k+1)
theorem QJ (d:Ai)(known:Int):∀ (r:List Aa) (k:Nat),(Lu d known r k).length<=r.length
 | [],_=>by simp [Lu]
 |c::r,k=>by
  have:=QJ d known r (k+1)
  rw [Lu,Ú,à]
  split<;>simp<;>omega
theorem QI {d:Ai}{known:Int}{x:Ae}:∀ (r:List Aa) (k:Nat),x∈Lu d known r k↔∃ (i:Nat) (c:Aa),r[i]?=some c/\IK d known c=true/\x=⟨HD ⟨d,known⟩ c.From,HD ⟨d,known⟩ c.To,((k+i:Nat):Int)⟩
 | [],k=>by simp [Lu]
 |c::r,k=>by
  rw [Lu,List.mem_append,QI r (k+1)]
  constructor
  . rintro (h|⟨i,e,h1,h2,h3⟩)
    . by_cases ha:IK d known c=true
      . rw [È ha] at h
        exact⟨0,c,rfl,ha,by simpa using h⟩
      . rw [Ä ha] at h;cases h
    . exact⟨i+1,e,by simpa using h1,h2,by rw [h3];congr 1;omega⟩
  . rintro⟨i,e,h1,h2,h3⟩
    cases i with
    |zero =>
     have:c=e:=by simpa using h1
     subst this
     left;rw [È h2,h3];simp
    |succ i=>right;exact⟨i,e,by simpa using h1,h2,by rw [h3];congr 1;omega⟩
theorem Ajc {l:List Ae}{y:Ae}(h:l.length<=1000):CC 24 l [y]=some (l++[y]):=by
 unfold CC
 rw [È (by simp;omega)]
theorem OQ {l:List Aa}{d:Ai}{known:Int}(hl:l.length<=40)(hf:∀ c∈l,JD c)(hs:∀ c∈l,Fi c)(hk:Da d known=0) :
 ∀ (r:List Aa) (k:Nat) (out:List Ae),l.drop k=r->k<=l.length->out.length<=k->Ev (fun n=>Cx n l d known out (k:Int)) (out++Lu d known r k)
 | [],k,out,hr,h1,h2=>by
  have he:=Hh hr h1
  refine Ev.step (f:=fun n=>some out) (fun n=>?_) (by rw [Lu,ă];exact Ev.pure)
  rw [Cx.eq_2,Ç (by omega)];rfl
 |c::r,k,out,hr,h1,h2=>by
  obtain⟨h3,h4⟩:=DM hr
  have hc:c∈l:=á (i:=k) (by rw [hr];exact Ü)
  have e:∀ n,Cx (n+1) l d known out (k:Int)=(Eu n c d known).bind fun s=>bif s.2.2.1 then (CC 24 out [(Ae.mk s.1 s.2.1 (k:Int))]).bind fun l2=>Cx n l d known l2 ((k+1:Nat):Int) else Cx n l d known out ((k+1:Nat):Int):=fun n=>by
   rw [Cx.eq_2,Mf h4,Î,L2 hr,Á,L3 (by omega)]
  refine Ev.step e ((Aad c d known (hs c hc)).bind ?_)
  rw [Yf (hf c hc) hk,Lu]
  cases ha:IK d known c with
  |true =>
   simp only [Î,ñ,Ajc (show out.length<=1000 by omega),Á]
   rw [<- ð]
   exact OQ hl hf hs hk r (k+1) _ h3 (by omega) (by simp;omega)
  |false =>
   simp only [Ì,Þ,ó,ê]
   exact OQ hl hf hs hk r (k+1) out h3 (by omega) (by omega)
structure T1 (l:List Aa) (d:Ai) (known:Int) (s:List Ae):Prop where
 perm:s.Perm (Lu d known l 0)
 sorted:SR l s 0 s.length
 ok:Sz l s
 len:s.length<=40
 rng:∀ x∈s,0<=x.from_/\x.from_<=41667/\0<=x.to_/\x.to_<=41667
def Iy (l:List Aa)(d:Ai)(known:Int):Int:=if Cp l≠0 then Cp l else Da d known
theorem Aab {l:List Aa}{d:Ai}{known:Int}(hf:∀ c∈l,JD c):Sz l (Lu d known l 0):=by
 intro x b
 obtain⟨i,c,a,f,e⟩:=(QI l 0).1 b
 refine⟨c,?_,(hf c (Ð a)).rank⟩
 rw [e]
 show gi l ((0+i:Nat):Int)=_
 rw [giN,ø];exact a
theorem Vp {l:List Aa}{d:Ai}{known:Int}(hs:∀ c∈l,Fi c) :
 (Iy l d known≠0/\Ev (fun n=>BY n l d known) ([],Iy l d known))∨(Iy l d known=0/\∃ s,T1 l d known s/\Ev (fun n=>BY n l d known) (s,0)):=by
 unfold Iy
 by_cases e:Cp l=0
 . rw [Ä (by simpa using e)]
   by_cases f:Da d known=0
   . right
     refine⟨f,?_⟩
     obtain⟨o,g⟩:=RJ e
     have lp:=OQ o g hs f l 0 [] rfl (ò _) (ä _)
     rw [ê] at lp
     have rng:∀ x∈Lu d known l 0,0<=x.from_/\x.from_<=41667/\0<=x.to_/\x.to_<=41667:=by
      intro x j
      obtain⟨i,c,q1,q2,q3⟩:=(QI l 0).1 j
      have k:=Ð q1
      have a:=Yg f (hs c k).1 (g c k).from_
      have b:=Yg f (hs c k).2.1 (g c k).to_
      rw [q3]
      exact⟨a.1,a.2,b.1,b.2⟩
     have m:=QJ d known l 0
     obtain⟨s,p,so,es⟩:=Ac2 (cv:=l) (l:=Lu d known l 0) (by omega) (Aab g)
     refine⟨s,⟨p,so,fun x j=>Aab g x (p.mem_iff.1 j),by rw [p.length_eq];omega,fun x j=>rng x (p.mem_iff.1 j)⟩,?_⟩
     unfold BY
     refine (H9 l hs).bind ?_
     rw [e]
     simp only [é,Ì]
     refine (Jn d known).bind ?_
     rw [f]
     simp only [é,Ì]
     refine lp.bind ?_
     cases q:(Lu d known l 0).isEmpty with
     |true =>
      have:Lu d known l 0=[]:=List.isEmpty_iff.1 q
      rw [this] at p
      rw [p.eq_nil]
      exact Ev.pure
     |false =>
      simp only [Ì]
      refine es.bind ?_
      rw [p.length_eq]
      simp only [ì,Î]
      exact Ev.pure
   . left
     refine⟨f,?_⟩
     unfold BY
     refine (H9 l hs).bind ?_
     rw [e]
     simp only [é,Ì]
     refine (Jn d known).bind ?_
     rw [show (Da d known != 0)=true by simpa using f]
     exact Ev.pure
 . left
   rw [È e]
   refine⟨e,?_⟩
   unfold BY
   refine (H9 l hs).bind ?_
   rw [show (Cp l != 0)=true by simpa using e]
   exact Ev.pure
end Go.Sp
namespace Go.Sp
open Go
set_option maxRecDepth 100000
def Lz (x:Ae)(day:Int):Bool:=decide (x.from_<=day/\day<=x.to_)
theorem Ty (x:Ae)(day:Int):DO x day=some (Lz x day):=by
 unfold DO Lz
 rw [Ag0];rfl
def KH (h o:Int):Int:=bif bits .and .i64 h o == 0 then h else bits .and .i64 h o
theorem Zm (h o:Int):Ec h o=some (KH h o):=by
 unfold Ec KH
 cases bits .and .i64 h o == 0<;>rfl
section
variable (l:List Aa) (act:Ae->Bool)
def kdC (x:Ae):Int:=match gi l x.clause with
 |some c=>c.Kind
 |none=>0
def hsC (x:Ae):Int:=match gi l x.clause with
 |some c=>c.Houses
 |none=>0
def WC (x:Ae):Bool:=kdC l x == 3&&act x
def Nf:List Ae->Int->Int
 | [],c=>c
 |x::r,c=>Nf r (bits .and .i64 c (hsC l x))
def EP (ρ:Int)(x:Ae):Bool:=rk l x == ρ
def L5:Nat->List Ae->Int->Int ⊕ Int
 |_,[],out=>.inl out
 |0,_::_,out=>.inl out
 |m+1,x::r,out =>
  bif ((x::r).takeWhile (EP l (rk l x))).any (WC l act) then
   (bif Nf l (((x::r).takeWhile (EP l (rk l x))).filter (WC l act)) 4095 == 0 then .inr 0
   else L5 m ((x::r).dropWhile (EP l (rk l x))) (KH out (Nf l (((x::r).takeWhile (EP l (rk l x))).filter (WC l act)) 4095)))
  else L5 m ((x::r).dropWhile (EP l (rk l x))) out
def T6 (s:List Ae):Int:=match L5 l act s.length s 4095 with
 |.inl o=>o
 |.inr o=>o
def ZO:List Ae->Int->Int->List Int->Int×List Int
 | [],_,st,by_=>(st,by_)
 |x::r,ρ,st,by_=>bif kdC l x == 3||!act x||decide (rk l x<ρ) then ZO r ρ st by_ else ZO r (rk l x) (bif st == 0 then kdC l x else bif st != kdC l x then 3 else st) (by_++[x.clause])
def atV (s:List Ae):A7:=⟨(ZO l act s (-1) 0 []).1,T6 l act s,BK (ZO l act s (-1) 0 []).2⟩
end
theorem Y9 {α:Type}(p:α->Bool):∀ l:List α,l.drop (l.takeWhile p).length=l.dropWhile p
 | []=>rfl
 |x::l=>by
  rw [ę,Ĩ]
  cases p x with
  |true=>simpa using Y9 p l
  |false=>rfl
section
variable {l:List Aa} {act:Ae->Bool} {s:List Ae} {day:Int}
theorem Aby {x:Ae}(h:okC l x):∃ c,gi l x.clause=some c/\rk l x=c.Rank/\kdC l x=c.Kind/\hsC l x=c.Houses:=by
 obtain⟨c,a,_⟩:=h
 refine⟨c,a,?_,?_,?_⟩
 . unfold rk;rw [a]
 . unfold kdC;rw [a]
 . unfold hsC;rw [a]
theorem OG (ok:Sz l s)(hl:s.length<=40)(H:∀ x∈s,Lz x day=act x)(x1:Aa):∀ (r:List Ae) (k:Nat) (c:Int) (b:Bool),s.drop k=r->k<=s.length ->
 Ev (fun n=>Ck n s l x1 day (k:Int) c b) (((k+(r.takeWhile (EP l x1.Rank)).length:Nat):Int),Nf l ((r.takeWhile (EP l x1.Rank)).filter (WC l act)) c,b||(r.takeWhile (EP l x1.Rank)).any (WC l act))
 | [],k,c,b,hr,hk=>by
  have he:=Hh hr hk
  refine Ev.step (f:=fun n=>some ((k:Int),c,b)) (fun n=>?_) ?_
  . rw [Ck.eq_2,Ç (by omega)];rfl
  . have:(((k+(([]:List Ae).takeWhile (EP l x1.Rank)).length:Nat):Int),Nf l ((([]:List Ae).takeWhile (EP l x1.Rank)).filter (WC l act)) c,b||(([]:List Ae).takeWhile (EP l x1.Rank)).any (WC l act))=((k:Int),c,b):=by cases b<;>rfl
    rw [this];exact Ev.pure
 |x::r,k,c,b,hr,hk=>by
  obtain⟨a,j⟩:=DM hr
  have d:x∈s:=á (i:=k) (by rw [hr];exact Ü)
  obtain⟨c0,g0,g1,g2,g3⟩:=Aby (ok x d)
  have tw:(x::r).takeWhile (EP l x1.Rank)=if c0.Rank == x1.Rank then x::r.takeWhile (EP l x1.Rank) else []:=by
   rw [ę]
   unfold EP
   rw [g1]
  have e:∀ n,Ck (n+1) s l x1 day (k:Int) c b=bif c0.Rank == x1.Rank then (bif WC l act x then Ck n s l x1 day ((k+1:Nat):Int) (bits .and .i64 c c0.Houses) true else Ck n s l x1 day ((k+1:Nat):Int) c b) else some ((k:Int),c,b):=fun n=>by
   rw [Ck.eq_2,Mf j,Î,L2 hr]
   simp only [Á,g0,L3 (show k<4611686018427387904 by omega),Ty,H x d]
   have:WC l act x=(c0.Kind == 3&&act x):=by unfold WC;rw [g2]
   rw [this]
   cases c0.Rank == x1.Rank<;>cases c0.Kind == 3<;>cases act x<;>rfl
  refine Ev.step e ?_
  rw [tw]
  cases m:c0.Rank == x1.Rank with
  |false =>
   simp only [Ì,Þ,ó]
   have:((((k+([]:List Ae).length:Nat)):Int),Nf l (([]:List Ae).filter (WC l act)) c,b||([]:List Ae).any (WC l act))=((k:Int),c,b):=by cases b<;>rfl
   rw [this];exact Ev.pure
  |true =>
   simp only [Î,ñ,à,Ą]
   have ea:k+((r.takeWhile (EP l x1.Rank)).length+1)=k+1+(r.takeWhile (EP l x1.Rank)).length:=by omega
   rw [ea]
   cases g:WC l act x with
   |true =>
    rw [Ĭ g,Nf,g3]
    have:=OG ok hl H x1 r (k+1) (bits .and .i64 c c0.Houses) true a (by omega)
    simpa using this
   |false =>
    rw [Ę (by rw [g];decide),ē]
    exact OG ok hl H x1 r (k+1) c b a (by omega)
theorem YN (ok:Sz l s)(hl:s.length<=40)(H:∀ x∈s,Lz x day=act x):∀ (m k:Nat) (out:Int),s.length-k<=m->k<=s.length->Ev (fun n=>Cw n s l day out (k:Int)) (L5 l act m (s.drop k) out):=by
 intro m
 induction m with
 |zero =>
  intro k out e c
  have d:k=s.length:=by omega
  refine Ev.step (f:=fun n=>some (.inl out)) (fun n=>?_) ?_
  . rw [Cw.eq_2,Ç (by omega)];rfl
  . rw [d,List.drop_length];exact Ev.pure
 |succ m ih =>
  intro k out e c
  cases a:s.drop k with
  |nil =>
   have d:=Hh a c
   refine Ev.step (f:=fun n=>some (.inl out)) (fun n=>?_) Ev.pure
   rw [Cw.eq_2,Ç (by omega)];rfl
  |cons x r =>
   obtain⟨p,g⟩:=DM a
   have j:x∈s:=á (i:=k) (by rw [a];exact Ü)
   obtain⟨c0,g0,g1,g2,g3⟩:=Aby (ok x j)
   have e2:=OG ok hl H c0 (x::r) k 4095 false a c
   rw [L5,g1]
   have tl:((x::r).takeWhile (EP l c0.Rank)).length≠0:=by
    rw [ę,show EP l c0.Rank x=true by unfold EP;rw [g1];simp,È rfl];simp
   have tl2:((x::r).takeWhile (EP l c0.Rank)).length<=(x::r).length:=(List.takeWhile_sublist _).length_le
   have dl:(x::r).length=s.length-k:=by rw [<- a,List.length_drop]
   have dw:s.drop (k+((x::r).takeWhile (EP l c0.Rank)).length)=(x::r).dropWhile (EP l c0.Rank):=by
    rw [<- List.drop_drop,a,Y9]
   have nxt:=fun o=>ih (k+((x::r).takeWhile (EP l c0.Rank)).length) o (by omega) (by omega)
   rw [dw] at nxt
   generalize (x::r).takeWhile (EP l c0.Rank)=tw at *
   refine Ev.step (f:=fun n=>(Ck n s l c0 day (k:Int) 4095 false).bind fun y1=>match y1 with
    |(i1,common,some_)=>bif some_ then (bif common == 0 then some (.inr 0) else Cw n s l day (KH out common) i1) else Cw n s l day out i1) (fun n=>?_) ?_
   . rw [Cw.eq_2,Mf g,Î,L2 a]
     simp only [Á,g0]
     refine congrArg _ (funext fun y1=>?_)
     obtain⟨i1,common,b⟩:=y1
     simp only [Zm,Á]
     cases b<;>cases common == 0<;>rfl
   . refine e2.bind ?_
     simp only [ē]
     cases q:tw.any (WC l act) with
     |false=>exact nxt out
     |true =>
      simp only [Î]
      cases t:Nf l (tw.filter (WC l act)) 4095 == 0 with
      |true=>exact Ev.pure
      |false=>exact nxt _
theorem ZQ (ok:Sz l s)(hl:s.length<=40)(H:∀ x∈s,Lz x day=act x):Ev (fun n=>Jp n l s day) (T6 l act s):=by
 unfold Jp T6
 have:=YN ok hl H s.length 0 4095 (by omega) (by omega)
 rw [List.drop_zero] at this
 refine this.bind ?_
 cases L5 l act s.length s 4095<;>exact Ev.pure
theorem ga9 {l:List Int}{y:Int}(h:l.length<=1000):CC 8 l [y]=some (l++[y]):=by
 unfold CC
 rw [È (by simp;omega)]
theorem XN (ok:Sz l s)(hl:s.length<=40)(H:∀ x∈s,Lz x day=act x):∀ (r:List Ae) (k:Nat) (ρ st:Int) (by_:List Int),s.drop k=r->k<=s.length->by_.length<=k->Ev (fun n=>Db n s l day ρ (k:Int) st by_) (ZO l act r ρ st by_)
 | [],k,ρ,st,by_,hr,hk,hb=>by
  have he:=Hh hr hk
  refine Ev.step (f:=fun n=>some (st,by_)) (fun n=>?_) Ev.pure
  rw [Db.eq_2,Ç (by omega)];rfl
 |x::r,k,ρ,st,by_,hr,hk,hb=>by
  obtain⟨h1,h2⟩:=DM hr
  have hx:x∈s:=á (i:=k) (by rw [hr];exact Ü)
  obtain⟨c0,g0,g1,g2,g3⟩:=Aby (ok x hx)
  have e:∀ n,Db (n+1) s l day ρ (k:Int) st by_=bif c0.Kind == 3||!act x||decide (c0.Rank<ρ) then Db n s l day ρ ((k+1:Nat):Int) st by_ else Db n s l day c0.Rank ((k+1:Nat):Int) (bif st == 0 then c0.Kind else bif st != c0.Kind then 3 else st) (by_++[x.clause]):=fun n=>by
   rw [Db.eq_2,Mf h2,Î,L2 hr]
   simp only [Á,g0,L3 (show k<4611686018427387904 by omega),Ty,H x hx,ga9 (show by_.length<=1000 by omega)]
   cases c0.Kind == 3<;>cases act x<;>cases decide (c0.Rank<ρ)<;>cases st == 0<;>cases st != c0.Kind<;>rfl
  refine Ev.step e ?_
  rw [ZO,g1,g2]
  cases c0.Kind == 3||!act x||decide (c0.Rank<ρ) with
  |true=>exact XN ok hl H r (k+1) ρ st by_ h1 (by omega) (by omega)
  |false=>exact XN ok hl H r (k+1) _ _ _ h1 (by omega) (by simp;omega)
theorem UE:∀ (r:List Ae) (ρ st:Int) (by_:List Int),(ZO l act r ρ st by_).2.length<=by_.length+r.length
 | [],ρ,st,by_=>by rw [ZO];simp
 |x::r,ρ,st,by_=>by
  rw [ZO]
  cases kdC l x == 3||!act x||decide (rk l x<ρ) with
  |true=>have:=UE r ρ st by_;simp only [Î,à];omega
  |false=>have:=UE r (rk l x) (bif st == 0 then kdC l x else bif st != kdC l x then 3 else st) (by_++[x.clause]);simp only [Ì,à,Ú,ö] at this ⊢;omega
theorem Tx (ok:Sz l s)(hl:s.length<=40)(H:∀ x∈s,Lz x day=act x):Ev (fun n=>GP n l s day) (atV l act s):=by
 unfold GP atV
 refine (ZQ ok hl H).bind ?_
 refine (XN ok hl H s 0 (-1) 0 [] rfl (ò _) (ä _)).bind ?_
 have hb:=UE (l:=l) (act:=act) s (-1) 0 []
 generalize ZO l act s (-1) 0 []=y at *
 obtain⟨st,by_⟩:=y
 cases a:by_.isEmpty with
 |true =>
  have:by_=[]:=List.isEmpty_iff.1 a
  subst this
  exact Ev.pure
 |false =>
  have b:PC by_=some (BK by_):=by
   unfold PC
   simp only [ö] at hb
   rw [È (by omega)]
  simp only [a,Ì,b,Á]
  rw [(Du by_).length_eq]
  simp only [ì,Î]
  exact Ev.pure
end
end Go.Sp
namespace Go.Sp
open Go
set_option maxRecDepth 100000
structure Kt where
 rk:Int
 kd:Int
 hs:Int
 act:Bool
 ix:Int
def Eg (a:Kt):Bool:=a.kd != 3&&a.act
def QV (a:Kt):Bool:=a.kd == 3&&a.act
def G8:List Kt->Int
 | []=>-1
 |a::r=>if Eg a=true/\G8 r<a.rk then a.rk else G8 r
def Ly (I:List Kt):List Kt:=I.filter fun a=>Eg a&&a.rk == G8 I
def Ye:Int->List Kt->Int
 |st,[]=>st
 |st,a::r=>Ye (bif st == 0 then a.kd else bif st != a.kd then 3 else st) r
def Nu (D:List Kt):Int:=bif D.any (fun a=>a.kd == 1) then (bif D.any (fun a=>a.kd == 2) then 3 else 1) else bif D.any (fun a=>a.kd == 2) then 2 else 0
def JV:List Kt->Int->Int
 | [],c=>c
 |a::r,c=>JV r (bits .and .i64 c a.hs)
def GG (ρ:Int)(I:List Kt):List Kt:=I.filter fun a=>a.rk == ρ&&QV a
def NB:Nat->List Kt->Int->Int ⊕ Int
 |0,_,out=>.inl out
 |k+1,I,out=>bif (GG (k:Int) I).isEmpty then NB k I out else bif JV (GG (k:Int) I) 4095 == 0 then .inr 0 else NB k I (KH out (JV (GG (k:Int) I) 4095))
def Ahk:Int ⊕ Int->Int
 |.inl o=>o
 |.inr o=>o
def BW (I:List Kt):A7:=⟨Nu (Ly I),Ahk (NB 10 I 4095),BK ((Ly I).map (·.ix))⟩
def SI (I:List Kt):Prop:=I.Pairwise fun a b=>b.rk<=a.rk
structure OD (a:Kt):Prop where
 rk:0<=a.rk/\a.rk<=9
 kd:1<=a.kd/\a.kd<=3
theorem Qc:∀ I:List Kt,(∀ a∈I,OD a)->-1<=G8 I
 | [],_=>by rw [G8];omega
 |a::r,h=>by
  have:=Qc r fun b hb=>h b (â _ hb)
  rw [G8];split<;>omega
theorem TE:∀ I:List Kt,∀ a∈I,Eg a=true->a.rk<=G8 I
 |b::r,a,ha,hc=>by
  rw [G8]
  rcases List.mem_cons.1 ha with rfl|ha
  . split
    . omega
    . rename_i h
      by_cases h2:G8 r<a.rk
      . exact absurd ⟨hc,h2⟩ h
      . omega
  . have:=TE r a ha hc
    split<;>omega
theorem TD:∀ I:List Kt,G8 I = -1∨∃ a∈I,Eg a=true/\a.rk=G8 I
 | []=>.inl rfl
 |b::r=>by
  rw [G8]
  split
  . rename_i h;exact .inr ⟨b,Ü,h.1,rfl⟩
  . rcases TD r with h|⟨a,h1,h2,h3⟩
    . exact .inl h
    . exact .inr ⟨a,â _ h1,h2,h3⟩
theorem XY {I J:List Kt}(hJ:∀ a∈J,OD a)(h:∀ a∈I,Eg a=true->a∈J):G8 I<=G8 J:=by
 rcases TD I with e|⟨a,c,b,d⟩
 . rw [e];exact Qc J hJ
 . rw [<- d];exact TE J a (h a c b) b
theorem YS {I J:List Kt}(p:I.Perm J)(h:∀ a∈I,OD a):G8 I=G8 J :=
 Int.le_antisymm (XY (fun a ha=>h a (p.mem_iff.2 ha)) fun a ha _=>p.mem_iff.1 ha) (XY h fun a ha _=>p.mem_iff.2 ha)
theorem Ae8:∀ D:List Kt,(∀ a∈D,a.kd=1∨a.kd=2)->Ye 3 D=3
 | [],_=>rfl
 |a::r,h=>by
  rw [Ye]
  have:(bif (3:Int) == 0 then a.kd else bif (3:Int) != a.kd then 3 else 3)=3:=by
   rcases h a Ü with e|e<;>rw [e]<;>rfl
  rw [this];exact Ae8 r fun b hb=>h b (â _ hb)
theorem Ahh:∀ D:List Kt,(∀ a∈D,a.kd=1∨a.kd=2)->Ye 1 D=bif D.any (fun a=>a.kd == 2) then 3 else 1
 | [],_=>rfl
 |a::r,h=>by
  rw [Ye,Ą]
  have ih:=Ahh r fun b hb=>h b (â _ hb)
  have i3:=Ae8 r fun b hb=>h b (â _ hb)
  rcases h a Ü with e|e<;>rw [e]
  . exact ih
  . exact i3
theorem Ahg:∀ D:List Kt,(∀ a∈D,a.kd=1∨a.kd=2)->Ye 2 D=bif D.any (fun a=>a.kd == 1) then 3 else 2
 | [],_=>rfl
 |a::r,h=>by
  rw [Ye,Ą]
  have ih:=Ahg r fun b hb=>h b (â _ hb)
  have i3:=Ae8 r fun b hb=>h b (â _ hb)
  rcases h a Ü with e|e<;>rw [e]
  . exact i3
  . exact ih
theorem Aiy (D:List Kt)(h:∀ a∈D,a.kd=1∨a.kd=2):Ye 0 D=Nu D:=by
 cases D with
 |nil=>rfl
 |cons a r =>
  have c:=Ahh r fun b hb=>h b (â _ hb)
  have d:=Ahg r fun b hb=>h b (â _ hb)
  rw [Ye]
  unfold Nu
  rw [Ą,Ą]
  rcases h a Ü with e|e<;>rw [e]
  . exact c
  . refine d.trans ?_
    show _=bif (false||r.any fun a=>a.kd == 1) then _ else _
    rw [ē];rfl
theorem W0 {α:Type}{p:α->Bool}{I J:List α}(h:I.Perm J):I.any p=J.any p:=by
 rw [Bool.eq_iff_iff,List.any_eq_true,List.any_eq_true]
 exact⟨fun ⟨a,b,c⟩=>⟨a,h.mem_iff.1 b,c⟩,fun ⟨a,b,c⟩=>⟨a,h.mem_iff.2 b,c⟩⟩
theorem Vn {D E:List Kt}(h:D.Perm E):Nu D=Nu E:=by
 unfold Nu;rw [W0 h,W0 h]
theorem Tq {I J:List Kt}(p:I.Perm J)(h:∀ a∈I,OD a):(Ly I).Perm (Ly J):=by
 unfold Ly
 rw [YS p h]
 exact p.filter _
def atI:List Kt->Int->Int->List Int->Int×List Int
 | [],_,st,by_=>(st,by_)
 |a::r,ρ,st,by_=>bif a.kd == 3||!a.act||decide (a.rk<ρ) then atI r ρ st by_ else atI r a.rk (bif st == 0 then a.kd else bif st != a.kd then 3 else st) (by_++[a.ix])
theorem Aew (ρ:Int):∀ (I:List Kt) (st:Int) (by_:List Int),(∀ a∈I,a.rk<=ρ)->atI I ρ st by_=(Ye st (I.filter fun a=>Eg a&&a.rk == ρ),by_++(I.filter fun a=>Eg a&&a.rk == ρ).map (·.ix))
 | [],st,by_,_=>by simp [atI,Ye]
 |a::r,st,by_,h=>by
  have ih:=fun st by_=>Aew ρ r st by_ fun b hb=>h b (â _ hb)
  have ha:=h a Ü
  rw [atI]
  cases hc:Eg a&&a.rk == ρ with
  |true =>
   rw [Ĭ (p:=fun b:Kt=>Eg b&&b.rk == ρ) hc,Ye,ß]
   rw [Å] at hc
   have e:a.rk=ρ:=by simpa using hc.2
   have c:(a.kd == 3||!a.act||decide (a.rk<ρ))=false:=by
    have d:=hc.1
    unfold Eg at d
    rw [Ç (by omega)]
    cases c:a.kd == 3<;>cases ha:a.act<;>simp_all
   rw [c,Ì,e,ih,ð];rfl
  |false =>
   rw [Ę (p:=fun b:Kt=>Eg b&&b.rk == ρ) (by simp [hc])]
   have c:(a.kd == 3||!a.act||decide (a.rk<ρ))=true:=by
    by_cases f:a.rk=ρ
    . have:Eg a=false:=by
       cases d:Eg a with
       |false=>rfl
       |true=>rw [d,f] at hc;simp at hc
      unfold Eg at this
      cases c:a.kd == 3<;>cases ha:a.act<;>simp_all
    . rw [Í (by omega)];simp
   rw [c,Î];exact ih st by_
theorem Aex:∀ (I:List Kt),SI I->(∀ a∈I,OD a)->atI I (-1) 0 []=(Ye 0 (Ly I),(Ly I).map (·.ix))
 | [],_,_=>rfl
 |a::r,hs,hf=>by
  have hs1:=List.pairwise_cons.1 hs
  have ih:=Aex r hs1.2 fun b hb=>hf b (â _ hb)
  have fa:=hf a Ü
  have frk:=fa.rk
  rw [atI]
  cases hc:Eg a with
  |false =>
   have hk:(a.kd == 3||!a.act||decide (a.rk < -1))=true:=by
    unfold Eg at hc
    cases hk:a.kd == 3<;>cases d:a.act<;>simp_all
   have c:G8 (a::r)=G8 r:=by rw [G8,hc];simp
   rw [hk,Î,ih]
   unfold Ly
   rw [c,Ę (by simp [hc])]
  |true =>
   have hk:(a.kd == 3||!a.act||decide (a.rk < -1))=false:=by
    rw [Ç (by omega)]
    unfold Eg at hc
    cases hk:a.kd == 3<;>cases d:a.act<;>simp_all
   have c:G8 (a::r)=a.rk:=by
    have g:=TE (a::r) a Ü hc
    rcases TD (a::r) with e|⟨b,h2,_,f⟩
    . omega
    . rcases List.mem_cons.1 h2 with rfl|h2
      . exact f.symm
      . have:=hs1.1 b h2;omega
   rw [hk,Ì,Aew a.rk r _ _ hs1.1]
   unfold Ly
   rw [c,Ĭ (by rw [hc];simp),Ye];rfl
theorem YB (x:Int):BitVec.ofInt 64 (À x)=BitVec.ofInt 64 x:=by
 apply BitVec.eq_of_toInt_eq
 rw [BitVec.toInt_ofInt,BitVec.toInt_ofInt]
 unfold À;rw [IntKind.wrap_i64]
 simp only [Int.bmod]
 split<;>split<;>omega
theorem Ab1 (x:BitVec 64):BitVec.ofInt 64 (x.toNat:Int)=x:=by
 rw [BitVec.ofInt_natCast,BitVec.ofNat_toNat,BitVec.setWidth_eq]
theorem Ab7 (c a b:Int):bits .and .i64 (bits .and .i64 c a) b=bits .and .i64 (bits .and .i64 c b) a:=by
 show À ((BitVec.ofInt 64 (À ((BitVec.ofInt 64 c &&& BitVec.ofInt 64 a).toNat:Int)) &&& BitVec.ofInt 64 b).toNat:Int)=À ((BitVec.ofInt 64 (À ((BitVec.ofInt 64 c &&& BitVec.ofInt 64 b).toNat:Int)) &&& BitVec.ofInt 64 a).toNat:Int)
 rw [YB,YB,Ab1,Ab1,BitVec.and_assoc,BitVec.and_assoc,BitVec.and_comm (BitVec.ofInt 64 a)]
theorem ZI {D E:List Kt}(h:D.Perm E):∀ c,JV D c=JV E c:=by
 induction h with
 |nil=>exact fun _=>rfl
 |cons a _ ih=>exact fun c=>by rw [JV,JV];exact ih _
 |swap a b r=>exact fun c=>by rw [JV,JV,JV,JV,Ab7]
 |trans _ _ d e=>exact fun c=>(d c).trans (e c)
theorem Zz {I J:List Kt}(ρ:Int)(h:I.Perm J):(GG ρ I).Perm (GG ρ J):=h.filter _
theorem Pe {I J:List Kt}:∀ (k:Nat),(∀ j:Nat,j<k->(GG (j:Int) I).Perm (GG (j:Int) J))->∀ out,NB k I out=NB k J out
 |0,_,_=>rfl
 |k+1,h,out=>by
  have ih:=Pe k fun j hj=>h j (by omega)
  have p:=h k (by omega)
  have e:(GG (k:Int) I).isEmpty=(GG (k:Int) J).isEmpty:=by rw [Bool.eq_iff_iff,List.isEmpty_iff,List.isEmpty_iff];exact⟨fun h=>by rw [h] at p;exact p.nil_eq.symm,fun h=>by rw [h] at p;exact p.eq_nil⟩
  rw [NB,NB,e,ZI p,ih out,ih]
def OF:Nat->List Kt->Int->Int ⊕ Int
 |_,[],out=>.inl out
 |0,_::_,out=>.inl out
 |m+1,a::r,out =>
  bif ((a::r).takeWhile (fun b=>b.rk == a.rk)).any QV then
   (bif JV (((a::r).takeWhile (fun b=>b.rk == a.rk)).filter QV) 4095 == 0 then .inr 0
   else OF m ((a::r).dropWhile (fun b=>b.rk == a.rk)) (KH out (JV (((a::r).takeWhile (fun b=>b.rk == a.rk)).filter QV) 4095)))
  else OF m ((a::r).dropWhile (fun b=>b.rk == a.rk)) out
theorem Vh {ρ:Int}:∀ I:List Kt,SI I->(∀ a∈I,a.rk<=ρ)->(I.takeWhile fun b=>b.rk == ρ).filter QV=GG ρ I/\(∀ a∈I.dropWhile (fun b=>b.rk == ρ),a.rk<ρ)/\SI (I.dropWhile fun b=>b.rk == ρ)/\(∀ a∈I.dropWhile (fun b=>b.rk == ρ),a∈I)/\∀ j:Int,j<ρ->GG j (I.dropWhile fun b=>b.rk == ρ)=GG j I
 | [],_,_=>⟨rfl,fun a ha=>by simp at ha,.nil,fun a ha=>by simp at ha,fun _ _=>rfl⟩
 |a::r,hs,hm=>by
  have hs1:=List.pairwise_cons.1 hs
  obtain⟨i1,i2,i3,i4,i5⟩:=Vh r hs1.2 fun b hb=>hm b (â _ hb)
  have ha:=hm a Ü
  cases hc:a.rk == ρ with
  |true =>
   have e:a.rk=ρ:=by simpa using hc
   rw [ę,Ĩ,hc]
   simp only [ñ]
   refine⟨?_,i2,i3,fun b hb=>â _ (i4 b hb),fun j c=>?_⟩
   . unfold GG at i1 ⊢
     rw [ĩ,ĩ,i1,hc,č]
   . rw [i5 j c]
     unfold GG
     rw [Ę (by simp;omega)]
  |false =>
   have e:a.rk<ρ:=by
    have:a.rk≠ρ:=by simpa using hc
    omega
   rw [ę,Ĩ,hc]
   simp only [Þ,ó]
   refine⟨?_,fun b hb=>?_,hs,fun b hb=>hb,fun _ _=>trivial⟩
   . unfold GG
     rw [List.filter_nil,eq_comm,Ĳ]
     intro b hb
     rcases List.mem_cons.1 hb with rfl|hb
     . simp [hc]
     . have:=hs1.1 b hb
       simp;omega
   . rcases List.mem_cons.1 hb with rfl|hb
     . exact e
     . have:=hs1.1 b hb;omega
theorem M6:∀ (k m:Nat) (I:List Kt) (out:Int),SI I->(∀ a∈I,0<=a.rk/\a.rk<(k:Int))->I.length<=m->OF m I out=NB k I out
 |0,m,I,out,_,h,_=>by
  cases I with
  |nil=>cases m<;>rfl
  |cons a r=>have:=h a Ü;omega
 |k+1,m,I,out,hs,h,hm=>by
  cases I with
  |nil =>
   have:=M6 k m [] out hs (fun a ha=>by cases ha) hm
   rw [this];rfl
  |cons a r =>
   have ha:=h a Ü
   by_cases hk:a.rk=(k:Int)
   . cases m with
     |zero=>simp at hm
     |succ m =>
      have hle:∀ b∈a::r,b.rk<=(k:Int):=fun b hb=>by have:=h b hb;omega
      obtain⟨i1,i2,i3,i4,i5⟩:=Vh (a::r) hs hle
      have hdl:((a::r).dropWhile fun b=>b.rk == (k:Int)).length<=m:=by
       have:(a::r).dropWhile (fun b=>b.rk == (k:Int))=r.dropWhile (fun b=>b.rk == (k:Int)):=by rw [Ĩ,hk];simp
       rw [this]
       have:=(List.dropWhile_sublist (l:=r) fun b=>b.rk == (k:Int)).length_le
       simp at hm;omega
      have ih:=fun o=>M6 k m _ o i3 (fun b hb=>⟨(h b (i4 b hb)).1,i2 b hb⟩) hdl
      have sm:=fun o=>Pe (I:=(a::r).dropWhile fun b=>b.rk == (k:Int)) (J:=a::r) k (fun j p=>by rw [i5 j (by omega)]) o
      have c:((a::r).takeWhile fun b=>b.rk == (k:Int)).any QV = !(GG (k:Int) (a::r)).isEmpty:=by
       rw [<- i1,Bool.eq_iff_iff,List.any_eq_true,å,<- Bool.not_eq_true,List.isEmpty_iff,Ĳ]
       exact⟨fun ⟨b,e,f⟩ d=>d b e f,fun d=>by
        apply Classical.byContradiction
        intro g
        exact d fun b hb i=>g ⟨b,hb,i⟩⟩
      rw [OF,NB,hk,c,i1,ih,ih,sm,sm]
      cases (GG (k:Int) (a::r)).isEmpty<;>rfl
   . have hle:∀ b∈a::r,b.rk<(k:Int):=fun b hb=>by
      rcases List.mem_cons.1 hb with rfl|hb
      . have:=ha.2;omega
      . have:=(List.pairwise_cons.1 hs).1 b hb
        have:=ha.2
        omega
     have n:GG (k:Int) (a::r)=[]:=by
      unfold GG
      rw [Ĳ]
      intro b hb
      have:=hle b hb
      simp;omega
     rw [NB,n,M6 k m (a::r) out hs (fun b hb=>⟨(h b hb).1,hle b hb⟩) hm];rfl
theorem Rq {a b:List Int}(h:a.Perm b):BK a=BK b :=
 List.Perm.eq_of_pairwise (le:=fun x y:Int=>x<=y) (fun _ _ _ _ h1 h2=>Int.le_antisymm h1 h2) (E9 a) (E9 b) (((Du a).trans h).trans (Du b).symm)
theorem XE {I J:List Kt}(p:I.Perm J)(h:∀ a∈I,OD a):BW I=BW J:=by
 unfold BW
 rw [Vn (Tq p h),Rq ((Tq p h).map _),Pe 10 (fun j _=>Zz _ p)]
section
variable (l:List Aa) (act:Ae->Bool)
def Ou (x:Ae):Kt:=⟨rk l x,kdC l x,hsC l x,act x,x.clause⟩
theorem UF:∀ (s:List Ae) (ρ st:Int) (b:List Int),ZO l act s ρ st b=atI (s.map (Ou l act)) ρ st b
 | [],_,_,_=>rfl
 |x::r,ρ,st,b=>by
  rw [ZO,ß,atI,UF r,UF r];rfl
theorem Th:∀ (s:List Ae) (c:Int),Nf l s c=JV (s.map (Ou l act)) c
 | [],_=>rfl
 |x::r,c=>by rw [Nf,ß,JV,Th r];rfl
theorem Xm {α β:Type}(f:α->β)(p:α->Bool)(q:β->Bool)(h:∀ x,p x=q (f x)):∀ s:List α,(s.takeWhile p).map f=(s.map f).takeWhile q/\(s.dropWhile p).map f=(s.map f).dropWhile q/\(s.filter p).map f=(s.map f).filter q/\s.any p=(s.map f).any q
 | []=>⟨rfl,rfl,rfl,rfl⟩
 |x::r=>by
  obtain⟨h1,h2,h3,h4⟩:=Xm f p q h r
  rw [ß,ę,ę,Ĩ,Ĩ,ĩ,ĩ,Ą,Ą,<- h x,<- h4]
  cases p x
  . exact⟨rfl,rfl,h3,rfl⟩
  . exact⟨by simp [h1],by simp [h2],by simp [h3],rfl⟩
theorem Nk:∀ (m:Nat) (s:List Ae) (out:Int),L5 l act m s out=OF m (s.map (Ou l act)) out
 |0,[],_=>rfl
 |0,_::_,_=>rfl
 |m+1,[],_=>rfl
 |m+1,x::r,out=>by
  obtain⟨h1,h2,_,_⟩:=Xm (Ou l act) (EP l (rk l x)) (fun b:Kt=>b.rk == rk l x) (fun _=>rfl) (x::r)
  obtain⟨_,_,h3,h4⟩:=Xm (Ou l act) (WC l act) QV (fun _=>rfl) ((x::r).takeWhile (EP l (rk l x)))
  rw [L5,ß,OF,Nk m,Nk m,Th l act,h3,h4,h1,h2]
  rfl
end
theorem SR.itm {l:List Aa}{act:Ae->Bool}{s:List Ae}(h:SR l s 0 s.length):SI (s.map (Ou l act)):=by
 unfold SI
 rw [List.pairwise_map,List.pairwise_iff_getElem]
 intro i j c b a
 have:=h i j (ò _) a b
 unfold Hf at this
 rw [Ã c,Ã b] at this
 exact this
theorem Agz {l:List Aa}{act:Ae->Bool}{s:List Ae}(h:SR l s 0 s.length)(hf:∀ a∈s.map (Ou l act),OD a):atV l act s=BW (s.map (Ou l act)):=by
 have e:∀ a∈Ly (s.map (Ou l act)),a.kd=1∨a.kd=2:=fun a b=>by
  unfold Ly at b
  obtain⟨f,d⟩:=List.mem_filter.1 b
  have:=(hf a f).kd
  rw [Å] at d
  have c:=d.1
  unfold Eg at c
  have:a.kd≠3:=by simp at c;exact c.1
  omega
 unfold atV T6 BW
 rw [UF,Aex _ h.itm hf,Aiy _ e,Nk,M6 10 _ _ _ h.itm (fun a b=>⟨(hf a b).rk.1,by have:=(hf a b).rk.2;omega⟩) (by simp)]
 cases NB 10 (s.map (Ou l act)) 4095<;>rfl
def Bk (d:Ai)(known t:Int):List Aa->Nat->List Kt
 | [],_=>[]
 |c::r,k=>(if IK d known c=true then [⟨c.Rank,c.Kind,c.Houses,decide (HD ⟨d,known⟩ c.From<=t/\t<=HD ⟨d,known⟩ c.To),(k:Int)⟩] else [])++Bk d known t r (k+1)
theorem Um {l:List Aa}{d:Ai}{known t:Int}:∀ (r:List Aa) (k:Nat),l.drop k=r->(Lu d known r k).map (Ou l fun x=>Lz x t)=Bk d known t r k
 | [],_,_=>rfl
 |c::r,k,h=>by
  obtain⟨h1,h2⟩:=DM h
  rw [Lu,Bk,Ĥ,Um r (k+1) h1]
  congr 1
  split
  . have g:gi l (k:Int)=some c:=L2 h
    unfold Ou rk kdC hsC
    simp only [ß,õ,g];rfl
  . rfl
theorem MF {d:Ai}{known t:Int}:∀ (r:List Aa) (k:Nat),(∀ c∈r,JD c)->∀ a∈Bk d known t r k,OD a
 | [],_,_,a,ha=>by cases ha
 |c::r,k,h,a,ha=>by
  rw [Bk,List.mem_append] at ha
  rcases ha with ha|ha
  . split at ha
    . rw [ď] at ha
      subst ha
      have:=h c Ü
      exact⟨this.rank,this.kind⟩
    . cases ha
  . exact MF r (k+1) (fun c hc=>h c (â _ hc)) a ha
theorem Wp {l:List Aa}{d:Ai}{known t:Int}{s:List Ae}(h:T1 l d known s)(hf:∀ c∈l,JD c):atV l (fun x=>Lz x t) s=BW (Bk d known t l 0):=by
 have e:=Um (l:=l) (d:=d) (known:=known) (t:=t) l 0 rfl
 have p:=h.perm.map (Ou l fun x=>Lz x t)
 rw [e] at p
 have b:∀ a∈s.map (Ou l fun x=>Lz x t),OD a:=fun a f=>MF l 0 hf a (p.mem_iff.1 f)
 rw [Agz h.sorted b]
 exact XE p b
end Go.Sp
namespace Go.Sp
open Go
set_option maxRecDepth 100000
theorem Xt (l:List Int):(BK l).length=l.length:=(Du l).length_eq
end Go.Sp
namespace Go.Sp
open Go
set_option maxRecDepth 100000
def Ee:List Ae->List Int
 | []=>[]
 |x::r=>x.from_::(x.to_+1)::Ee r
theorem O8:∀ s:List Ae,(Ee s).length=2*s.length
 | []=>rfl
 |x::r=>by rw [Ee,à,à,O8 r,à];omega
theorem Mz {v:Int}:∀ s:List Ae,v∈Ee s↔∃ x∈s,v=x.from_∨v=x.to_+1
 | []=>by simp [Ee]
 |x::r=>by
  rw [Ee,Ē,Ē,Mz r]
  constructor
  . rintro (h|h|⟨y,h1,h2⟩)
    . exact⟨x,Ü,.inl h⟩
    . exact⟨x,Ü,.inr h⟩
    . exact⟨y,â _ h1,h2⟩
  . rintro⟨y,h1,h2⟩
    rcases List.mem_cons.1 h1 with rfl|h1
    . exact h2.elim .inl fun h=>.inr (.inl h)
    . exact .inr (.inr ⟨y,h1,h2⟩)
theorem Aja {l:List Int}{x y:Int}(h:l.length<=1000):CC 8 l [x,y]=some (l++[x,y]):=by
 unfold CC
 rw [È (by simp;omega)]
theorem YC {s:List Ae}(hl:s.length<=400)(hr:∀ x∈s,0<=x.to_/\x.to_<=41667):∀ (r:List Ae) (k:Nat) (acc:List Int),s.drop k=r->k<=s.length->acc.length<=2*k+1->Ev (fun n=>CH n s (k:Int) acc) (acc++Ee r)
 | [],k,acc,h,hk,ha=>by
  have he:=Hh h hk
  rw [Ee,ă]
  refine Ev.step (f:=fun n=>some acc) (fun n=>?_) Ev.pure
  rw [CH.eq_2,Ç (by omega)];rfl
 |x::r,k,acc,h,hk,ha=>by
  obtain⟨h1,h2⟩:=DM h
  have hx:x∈s:=á (i:=k) (by rw [h];exact Ü)
  have:=hr x hx
  have e:∀ n,CH (n+1) s (k:Int) acc=CH n s ((k+1:Nat):Int) (acc++[x.from_,x.to_+1]):=fun n=>by
   rw [CH.eq_2,Mf h2,Î,L2 h]
   simp only [Á]
   rw [L3 (by omega),BF (x:=x.to_+1) (by omega) (by omega),Aja (by omega)];rfl
  refine Ev.step e ?_
  have ih:=YC hl hr r (k+1) (acc++[x.from_,x.to_+1]) h1 (by omega) (by simp;omega)
  rw [ð] at ih
  exact ih
theorem Ab2 {s:List Ae}(hl:s.length<=400)(hr:∀ x∈s,0<=x.to_/\x.to_<=41667):Ev (fun n=>EY n s) (BK (0::Ee s)):=by
 unfold EY
 refine (YC hl hr s 0 [0] rfl (ò _) (by simp)).bind ?_
 show Ev (fun n=>bif (0::Ee s).isEmpty then none else _) _
 have a:PC (0::Ee s)=some (BK (0::Ee s)):=by
  unfold PC
  rw [È (by rw [à,O8];omega)]
 simp only [List.isEmpty_cons,Ì,List.singleton_append,a,Á]
 rw [(Du _).length_eq]
 simp only [ì,Î]
 exact Ev.pure
theorem Qg {v:Int}:∀ l:List Int,v∈O5 l↔v∈l
 | []=>Iff.rfl
 | [x]=>Iff.rfl
 |x::y::r=>by
  have ih:=Qg (v:=v) (y::r)
  rw [O5]
  by_cases h:x=y
  . rw [Í h,Î,ih,Ē (a:=v) (b:=x),h]
    constructor
    . exact .inr
    . rintro (h|h)
      . rw [h];exact Ü
      . exact h
  . rw [Ç h,Ì,Ē,ih,Ē (a:=v) (b:=x)]
theorem YA:∀ l:List Int,(O5 l).length<=l.length
 | []=>ä _
 | [x]=>ä _
 |x::y::r=>by
  have ih:=YA (y::r)
  rw [O5]
  cases decide (x=y)
  . simp only [Ì,à] at ih ⊢;omega
  . simp only [Î,à] at ih ⊢;omega
theorem XI:∀ l:List Int,l.Pairwise (·<=·)->(O5 l).Pairwise (· < ·)
 | [],_=>.nil
 | [x],_=>by simp [O5]
 |x::y::r,h=>by
  have h1:=List.pairwise_cons.1 h
  have ih:=XI (y::r) h1.2
  rw [O5]
  by_cases e:x=y
  . rw [Í e,Î];exact ih
  . rw [Ç e,Ì,List.pairwise_cons]
    refine⟨fun v hv=>?_,ih⟩
    have hv:=(Qg _).1 hv
    have a:=h1.1 y Ü
    have b:y<=v:=by
     rcases List.mem_cons.1 hv with rfl|hv
     . omega
     . exact (List.pairwise_cons.1 h1.2).1 v hv
    omega
def Up:List Int->Int
 | []=>41667
 |v::_=>v
def Sf (A:Int->A7):List Int->Prop
 | []=>True
 |v::r=>0<=v/\v<=41666/\v<Up r/\(∀ t,v<=t->t<Up r->A t=A v)/\Sf A r
theorem Adx {r:List Int}(h:∀ v∈r,v<=41666):Up r<=41667:=by
 cases r with
 |nil=>exact Int.le_refl _
 |cons v r=>have:=h v Ü;show v<=41667;omega
theorem U8 {A:Int->A7}{s:List Ae}(hA:∀ t u,(∀ x∈s,Lz x t=Lz x u)->A t=A u):∀ ds:List Int,ds.Pairwise (· < ·)->(∀ v∈ds,0<=v/\v<=41666)->(∀ v∈Ee s,v<=41666->v∈ds∨v<Up ds)->Sf A ds
 | [],_,_,_=>trivial
 |d::r,hp,hv,hb=>by
  have hp1:=List.pairwise_cons.1 hp
  have hd:=hv d Ü
  have hlt:d<Up r:=by
   cases r with
   |nil=>show d<41667;omega
   |cons v r=>exact hp1.1 v Ü
  have j:=Adx (r:=r) fun v h=>(hv v (â _ h)).2
  have a:∀ v∈r,Up r<=v:=by
   cases r with
   |nil=>intro v h;cases h
   |cons w r =>
    intro v h
    rcases List.mem_cons.1 h with rfl|h
    . exact Int.le_refl _
    . exact Int.le_of_lt ((List.pairwise_cons.1 hp1.2).1 v h)
  refine⟨hd.1,hd.2,hlt,fun t e f=>hA t d fun x g=>?_,U8 hA r hp1.2 (fun v h=>hv v (â _ h)) fun v e f=>?_⟩
  . have key:∀ v∈Ee s,v<=t->v<=d:=by
     intro v h3 k
     rcases hb v h3 (by omega) with h5|h5
     . rcases List.mem_cons.1 h5 with h5|h5
       . omega
       . have:=a v h5;omega
     . have:v<d:=h5
       omega
    have k1:=key x.from_ ((Mz s).2 ⟨x,g,.inl rfl⟩)
    have k2:=key (x.to_+1) ((Mz s).2 ⟨x,g,.inr rfl⟩)
    unfold Lz
    by_cases c:x.from_<=d/\d<=x.to_
    . rw [Í c,Í]
      constructor
      . omega
      . by_cases c2:x.to_+1<=t
        . have:=k2 c2;omega
        . omega
    . rw [Ç c,Ç]
      intro c2
      have:=k1 c2.1
      exact c ⟨this,by omega⟩
  . rcases hb v e f with h3|h3
    . rcases List.mem_cons.1 h3 with h3|h3
      . exact .inr (by omega)
      . exact .inl h3
    . have:v<d:=h3
      exact .inr (by omega)
structure OE (A:Int->A7) (pre:List Al) (z:Al) (b:Int):Prop where
 first:∀ x,(pre++[z])[0]?=some x->x.From=0
 rng:∀ x∈pre++[z],0<=x.From/\x.From<=x.To/\x.To<=41666
 nxt:∀ i x y,(pre++[z])[i]?=some x->(pre++[z])[i+1]?=some y->y.From=x.To+1/\¬ (y.State=x.State/\y.Houses=x.Houses)
 last:z.To=41666
 lo:z.From<b
 low:∀ x∈pre,x.To<z.From
 day:∀ x∈pre++[z],∀ t,x.From<=t->t<=x.To->t<b->(A t).State=x.State/\(A t).Houses=x.Houses
theorem OE.start {A:Int->A7}{hi:Int}(h0:0<hi)(hc:∀ t,0<=t->t<hi->A t=A 0):OE A [] ⟨0,41666,(A 0).State,(A 0).Houses⟩ hi:=by
 refine⟨fun x a=>?_,fun x a=>?_,fun i x y b c=>?_,rfl,h0,fun x a=>(by cases a),fun x a t b c d=>?_⟩
 . simp at a;rw [<- a]
 . rw [ê,ď] at a;subst a;show (0:Int)<=0/\(0:Int)<=41666/\(41666:Int)<=41666;omega
 . simp at c
 . rw [ê,ď] at a;subst a
   rw [hc t b d];exact⟨rfl,rfl⟩
theorem OE.same {A:Int->A7}{pre:List Al}{z:Al}{d hi:Int}(h:OE A pre z d)(h0:d<hi)(hc:∀ t,d<=t->t<hi->A t=A d)(e:z.State=(A d).State/\z.Houses=(A d).Houses):OE A pre z hi:=by
 refine⟨h.first,h.rng,h.nxt,h.last,by have:=h.lo;omega,h.low,fun x c t f g i=>?_⟩
 by_cases j:t<d
 . exact h.day x c t f g j
 . rcases List.mem_append.1 c with hp|hp
   . have a:=h.low x hp
     have b:=h.lo
     omega
   . rw [ď] at hp
     subst hp
     rw [hc t (by omega) i]
     exact⟨e.1.symm,e.2.symm⟩
theorem OE.turn {A:Int->A7}{pre:List Al}{z:Al}{d hi:Int}(h:OE A pre z d)(hd:0<=d/\d<=41666)(h0:d<hi)(hc:∀ t,d<=t->t<hi->A t=A d)(e:¬ (z.State=(A d).State/\z.Houses=(A d).Houses)) :
 OE A (pre++[⟨z.From,d-1,z.State,z.Houses⟩]) ⟨d,41666,(A d).State,(A d).Houses⟩ hi:=by
 have zr:=h.rng z (Č _ Ü)
 have lo:=h.lo
 have g:∀ i,((pre++[(⟨z.From,d-1,z.State,z.Houses⟩:Al)])++[(⟨d,41666,(A d).State,(A d).Houses⟩:Al)])[i]?=if i<pre.length then (pre++[z])[i]? else if i=pre.length then some ⟨z.From,d-1,z.State,z.Houses⟩ else if i=pre.length+1 then some ⟨d,41666,(A d).State,(A d).Houses⟩ else none:=by
  intro i
  rw [ð,List.getElem?_append]
  by_cases c:i<pre.length
  . rw [È c,È c,Õ c]
  . rw [Ä c,Ä c]
    by_cases c2:i=pre.length
    . rw [È c2,c2];simp
    . rw [Ä c2]
      by_cases c3:i=pre.length+1
      . rw [È c3,c3];simp
      . rw [Ä c3]
        exact Ġ (by show 2<=_;omega)
 have gz:(pre++[z])[pre.length]?=some z:=by simp
 refine⟨fun x hx=>?_,fun x hx=>?_,fun i x y b a=>?_,rfl,h0,fun x hx=>?_,fun x hx t b a f=>?_⟩
 . rw [g] at hx
   by_cases c:0<pre.length
   . rw [È c] at hx;exact h.first x hx
   . have c0:0=pre.length:=by omega
     rw [Ä c,È c0] at hx
     have:=h.first z (by rw [c0];exact gz)
     rw [<- Ag hx];exact this
 . rcases List.mem_append.1 hx with hx|hx
   . rcases List.mem_append.1 hx with hx|hx
     . exact h.rng x (ā _ hx)
     . rw [ď] at hx;subst hx
       show 0<=z.From/\z.From<=d-1/\d-1<=41666
       omega
   . rw [ď] at hx;subst hx
     show 0<=d/\d<=41666/\(41666:Int)<=41666
     omega
 . rw [g] at b a
   by_cases c:i+1<pre.length
   . rw [È c] at a
     rw [È (by omega)] at b
     exact h.nxt i x y b a
   . rw [Ä c] at a
     by_cases c2:i+1=pre.length
     . rw [È c2] at a
       rw [È (by omega)] at b
       have:=h.nxt i x z b (by rw [c2];exact gz)
       rw [<- Ag a];exact this
     . rw [Ä c2] at a
       by_cases c3:i+1=pre.length+1
       . rw [È c3] at a
         rw [Ä (by omega),È (by omega)] at b
         rw [<- Ag a,<- Ag b]
         refine⟨by show d=d-1+1;omega,fun k=>e ⟨k.1.symm,k.2.symm⟩⟩
       . rw [Ä c3] at a;cases a
 . rcases List.mem_append.1 hx with hx|hx
   . have:=h.low x hx
     show x.To<d
     omega
   . rw [ď] at hx;subst hx
     show d-1<d
     omega
 . rcases List.mem_append.1 hx with hx|hx
   . rcases List.mem_append.1 hx with hx|hx
     . have:=h.low x hx
       exact h.day x (ā _ hx) t b a (by omega)
     . rw [ď] at hx;subst hx
       have b:z.From<=t:=b
       have a:t<=d-1:=a
       exact h.day z (Č _ Ü) t b (by rw [h.last];omega) (by omega)
   . rw [ď] at hx;subst hx
     rw [hc t b f];exact⟨rfl,rfl⟩
theorem Ajb {l:List Al}{y:Al}(h:l.length<=1000):CC 32 l [y]=some (l++[y]):=by
 unfold CC
 rw [È (by simp;omega)]
theorem Ael {α:Type}{pre:List α}{z:α}(h:pre.length<=1000):À (((pre++[z]).length:Int)-1)=(pre.length:Int):=by
 rw [BF (by simp<;>omega) (by simp<;>omega)];simp
theorem Ut {l:List Aa}{s:List Ae×Int}{A:Int->A7}(hA:∀ t,0<=t->t<=41666->Ev (fun n=>GP n l s.1 t) (A t)):∀ (r:List Int) (pre:List Al) (z:Al),Sf A r->OE A pre z (Up r)->pre.length+r.length<=900 ->
 ∃ pre' z',OE A pre' z' 41667/\pre'.length<=900/\Ev (fun n=>Bi n l s r (pre++[z])) (pre'++[z'],0)
 | [],pre,z,_,h,hl=>⟨pre,z,h,by simpa using hl,Ev.pure⟩
 |d::r,pre,z,hd,h,hl=>by
  obtain⟨d1,d2,d3,d4,d5⟩:=hd
  rw [à] at hl
  have h:OE A pre z d:=h
  have el:((pre++[z]).isEmpty)=false:=by simp
  have pl:decide (0<((pre++[z]).length:Int))=true:=by simp<;>omega
  have gl:gi (pre++[z]) (pre.length:Int)=some z:=by rw [giN];simp
  have gxl:gx (pre++[z]).length (pre.length:Int)=some ():=gxN (by simp)
  by_cases c:z.State=(A d).State/\z.Houses=(A d).Houses
  . obtain⟨pre',z',b,e,f⟩:=Ut hA r pre z d5 (h.same d3 d4 c) (by omega)
    refine⟨pre',z',b,e,?_⟩
    simp only [Bi]
    refine (hA d d1 d2).bind ?_
    simp only [el,Ì,pl,Î,Ael (show pre.length<=1000 by omega),gxl,gl,Á,c.1,c.2,ì]
    exact f
  . obtain⟨pre',z',b,e,f⟩:=Ut hA r _ _ d5 (h.turn ⟨d1,d2⟩ d3 d4 c) (by simp;omega)
    refine⟨pre',z',b,e,?_⟩
    have gm:Ur (pre++[z]) (pre.length:Int) (fun z=>{ z with To:=À (d-1) })=some (pre++[⟨z.From,d-1,z.State,z.Houses⟩]):=by
     unfold Ur
     rw [gl]
     simp only [Á]
     rw [Y0 (by simp),BF (by omega) (by omega)]
     simp
    have cc:(bif z.State == (A d).State then some (z.Houses == (A d).Houses) else some false)=some false:=by
     cases e1:z.State == (A d).State with
     |false=>rfl
     |true =>
      cases e2:z.Houses == (A d).Houses with
      |false=>rfl
      |true=>exact absurd ⟨by simpa using e1,by simpa using e2⟩ c
    simp only [Bi]
    refine (hA d d1 d2).bind ?_
    simp only [el,Ì,pl,Î,Ael (show pre.length<=1000 by omega),gxl,gl,Á,cc,gm]
    have e3:(pre++[(⟨z.From,d-1,z.State,z.Houses⟩:Al)]).length=(pre++[z]).length:=by simp
    rw [e3]
    simp only [ì,Î]
    rw [Ajb (by simp;omega)]
    exact f
def HG (l:List Aa)(s:List Ae)(t:Int):A7:=atV l (fun x=>Lz x t) s
theorem NG {l:List Aa}{s:List Ae}(ok:Sz l s)(hl:s.length<=40)(t u:Int)(h:∀ x∈s,Lz x t=Lz x u):HG l s t=HG l s u :=
 (Tx (l:=l) (s:=s) (day:=t) ok hl (act:=fun x=>Lz x t) fun _ _=>rfl).uniq (Tx ok hl h)
theorem TJ {l:List Aa}{d:Ai}{known:Int}{s:List Ae}(h:T1 l d known s)(e:Ev (fun n=>BY n l d known) (s,0)) :
 ∃ pre z,OE (HG l s) pre z 41667/\pre.length<=900/\Ev (fun n=>Cj n l d known) (pre++[z],0):=by
 have hb:=Ab2 (s:=s) (by have:=h.len;omega) fun x q=>(h.rng x q).2.2
 have a:=Du (0::Ee s)
 have c:=E9 (0::Ee s)
 have i:(BK (0::Ee s)).length<=81:=by rw [a.length_eq,à,O8];have:=h.len;omega
 have u:(BK (0::Ee s)).isEmpty=false:=by
  cases o:BK (0::Ee s) with
  |nil=>rw [o] at a;have:=a.length_eq;simp at this
  |cons=>rfl
 have j:∀ v,v∈BK (0::Ee s)↔v=0∨v∈Ee s:=fun v=>by rw [a.mem_iff,Ē]
 have f:∀ v,v∈BV (BK (0::Ee s))↔(v=0∨v∈Ee s)/\v<=41666:=fun v=>by
  unfold BV
  rw [List.mem_filter,Qg,j,Ï]
 have w:∀ v∈Ee s,0<=v:=fun v g=>by
  obtain⟨x,q,g⟩:=(Mz s).1 g
  have:=h.rng x q
  rcases g with rfl|rfl<;>omega
 have y:(BV (BK (0::Ee s))).Pairwise (· < ·):=(XI _ c).filter _
 have k:(BV (BK (0::Ee s))).length<=81:=ĕ (List.length_filter_le _ _) (ĕ (YA _) i)
 have b:=U8 (A:=HG l s) (NG h.ok h.len) _ y (fun v g=>by
  have:=(f v).1 g
  refine⟨?_,this.2⟩
  rcases this.1 with rfl|h2
  . exact Int.le_refl _
  . exact w v h2) fun v h1 h2=>.inl ((f v).2 ⟨.inr h1,h2⟩)
 have p:(0:Int)∈BV (BK (0::Ee s)):=(f 0).2 ⟨.inl rfl,by decide⟩
 have m:∀ {r:List Al×Int},Ev (fun n=>Bi n l (s,0) (BV (BK (0::Ee s))) []) r->Ev (fun n=>Cj n l d known) r:=by
  intro r B
  unfold Cj
  refine e.bind ?_
  simp only [é,Ì]
  refine hb.bind ?_
  simp only [u,Ì,Í (show (BK (0::Ee s)).length*8<=140737488351232 by omega),Î]
  exact B
 have hA:∀ t,0<=t->t<=41666->Ev (fun n=>GP n l (s,(0:Int)).1 t) (HG l s t):=fun t _ _=>Tx h.ok h.len fun _ _=>rfl
 cases o:BV (BK (0::Ee s)) with
 |nil=>rw [o] at p;cases p
 |cons v r =>
  rw [o] at p y b m k
  obtain⟨d1,d2,d3,d4,d5⟩:=b
  have g:v=0:=by
   rcases List.mem_cons.1 p with h1|h1
   . exact h1.symm
   . have:=(List.pairwise_cons.1 y).1 0 h1;omega
  subst g
  obtain⟨pre,z,q1,q2,q3⟩:=Ut (s:=(s,0)) hA r [] _ d5 (OE.start d3 d4) (by simp at k ⊢;omega)
  refine⟨pre,z,q1,q2,m ?_⟩
  simp only [Bi,List.isEmpty_nil,Î]
  refine (hA 0 d1 d2).bind ?_
  exact q3
end Go.Sp
namespace Go.Sp
open Go
set_option maxRecDepth 100000
theorem WV:Yi=some true:=by kernel_rfl
end Go.Sp
namespace Go.Sp
open Go
set_option maxRecDepth 100000
theorem Abl (l:List Aa)(d:Ai):∃ b,Ev (fun n=>IN n l d) b/\(b=true->(∀ c∈l,Fi c)/\(d.Facts.length<=30∨200<d.Facts.length)):=by
 have h:=Agh l 300 (by decide) (by decide)
 by_cases c:l.length<=50/\0<=Mo l 300
 . rw [Í c] at h
   refine⟨decide (d.Facts.length<=30∨200<d.Facts.length/\d.Facts.length<205),?_,fun e=>?_⟩
   . unfold IN
     refine Ev.bind (h.bind (b:=decide (d.Facts.length<=30∨200<d.Facts.length/\d.Facts.length<205)) (g:=fun _ f=>bif f then (bif (decide ((d.Facts.length:Int)<=30)) then some true else bif (decide (200<(d.Facts.length:Int))) then some (decide ((d.Facts.length:Int)<205)) else some false) else some false) ?_) Ev.pure
     simp only [Î]
     by_cases c1:d.Facts.length<=30
     . rw [Í (show (d.Facts.length:Int)<=30 by omega),Í (show d.Facts.length<=30∨200<d.Facts.length/\d.Facts.length<205 from .inl c1)];exact Ev.pure
     . rw [Ç (show ¬ (d.Facts.length:Int)<=30 by omega)]
       by_cases c2:200<d.Facts.length
       . rw [Í (show (200:Int)<(d.Facts.length:Int) by omega)]
         by_cases c3:d.Facts.length<205
         . rw [Í (show (d.Facts.length:Int)<205 by omega),Í (show d.Facts.length<=30∨200<d.Facts.length/\d.Facts.length<205 from .inr ⟨c2,c3⟩)];exact Ev.pure
         . rw [Ç (show ¬ (d.Facts.length:Int)<205 by omega),Ç (show ¬ (d.Facts.length<=30∨200<d.Facts.length/\d.Facts.length<205) by omega)];exact Ev.pure
       . rw [Ç (show ¬ (200:Int)<(d.Facts.length:Int) by omega),Ç (show ¬ (d.Facts.length<=30∨200<d.Facts.length/\d.Facts.length<205) by omega)];exact Ev.pure
   . have:=þ e
     exact⟨R9 l 300 c.2 (by decide),by omega⟩
 . rw [Ç c] at h
   refine⟨false,?_,fun e=>by cases e⟩
   unfold IN
   exact Ev.bind (h.bind (b:=false) (g:=fun _ f=>bif f then (bif (decide ((d.Facts.length:Int)<=30)) then some true else bif (decide (200<(d.Facts.length:Int))) then some (decide ((d.Facts.length:Int)<205)) else some false) else some false) Ev.pure) Ev.pure
section
variable {l:List Aa} {d:Ai} {known:Int} {s:List Ae}
theorem Agy (h:T1 l d known s)(e:Ev (fun n=>BY n l d known) (s,0)){t:Int}(h0:0<=t)(h1:t<=41666):Ev (fun n=>H8 n l d t known) (HG l s t,0):=by
 unfold H8
 refine e.bind ?_
 simp only [é,Ì,Ç (show ¬ t<0 by omega),Ç (show ¬ 41666<t by omega),Á]
 exact (Tx h.ok h.len fun _ _=>rfl).bind Ev.pure
theorem Agw (e:Ev (fun n=>BY n l d known) (s,0)){t:Int}(h0:t<0∨41666<t):Ev (fun n=>H8 n l d t known) (⟨0,0,[]⟩,1):=by
 unfold H8
 refine e.bind ?_
 simp only [é,Ì]
 by_cases c:t<0
 . simp only [Í c,Î,Á];exact Ev.pure
 . simp only [Ç c,Ì,Á,Í (show 41666<t by omega),Î];exact Ev.pure
theorem YW {x:Int}(hx:x≠0)(e:Ev (fun n=>BY n l d known) ([],x)):Ev (fun n=>Cj n l d known) ([],x)/\Ev (fun n=>EZ n l d known) (0,0,x):=by
 have hb:(x != 0)=true:=by simpa using hx
 have a:Ev (fun n=>Cj n l d known) ([],x):=by
  unfold Cj
  refine e.bind ?_
  simp only [hb,Î]
  exact Ev.pure
 refine⟨a,?_⟩
 unfold EZ
 refine a.bind ?_
 simp only [hb,Î]
 exact Ev.pure
theorem Agx {x:Int}(hx:x≠0)(e:Ev (fun n=>BY n l d known) ([],x))(t:Int):Ev (fun n=>H8 n l d t known) (⟨0,0,[]⟩,x):=by
 unfold H8
 refine e.bind ?_
 rw [show (x != 0)=true by simpa using hx]
 exact Ev.pure
end
end Go.Sp

namespace Go.Sp
open Go
set_option maxRecDepth 100000
theorem Tf {α:Type}{b:Nat}{x y:List α}(h:(x.length+y.length)*b<=140737488355328):CC b x y=some (x++y):=by unfold CC;rw [È h]
end Go.Sp


namespace Go.Sp
open Go
set_option maxRecDepth 100000
def alike (a b:A7):Prop:=a.State=b.State/\a.Houses=b.Houses
theorem VK {l:List Aa}{s s1:List Ae×Int}{A B:Int->A7}(hA:∀ t,0<=t->t<=41666->Ev (fun n=>GP n l s.1 t) (A t))(hB:∀ t,0<=t->t<=41666->Ev (fun n=>GP n l s1.1 t) (B t)) :
 ∀ ds:List Int,(∀ v∈ds,0<=v/\v<=41666)->∃ m,Ev (fun n=>CP n l s s1 ds) (m,0)/\((m=41667/\∀ v∈ds,alike (A v) (B v))∨∃ p q,ds=p++m::q/\(∀ v∈p,alike (A v) (B v))/\¬ alike (A m) (B m))
 | [],_=>⟨41667,Ev.pure,.inl ⟨rfl,fun v h=>by cases h⟩⟩
 |v::r,h=>by
  have hv:=h v Ü
  by_cases c:alike (A v) (B v)
  . obtain⟨m,h1,h2⟩:=VK hA hB r fun w hw=>h w (â _ hw)
    refine⟨m,?_,?_⟩
    . simp only [CP]
      refine (hA v hv.1 hv.2).bind ((hB v hv.1 hv.2).bind ?_)
      rw [c.1,c.2]
      simp only [é,Ì,Á]
      exact h1
    . rcases h2 with⟨e,h2⟩|⟨p,q,e,h2,h3⟩
      . refine .inl ⟨e,fun w hw=>?_⟩
        rcases List.mem_cons.1 hw with rfl|hw
        . exact c
        . exact h2 w hw
      . refine .inr ⟨v::p,q,by rw [e];rfl,fun w hw=>?_,h3⟩
        rcases List.mem_cons.1 hw with rfl|hw
        . exact c
        . exact h2 w hw
  . refine⟨v,?_,.inr ⟨[],r,rfl,(fun w hw=>by cases hw),c⟩⟩
    simp only [CP]
    refine (hA v hv.1 hv.2).bind ((hB v hv.1 hv.2).bind ?_)
    have:(bif ((A v).State != (B v).State) then some true else some ((A v).Houses != (B v).Houses))=some true:=by
     cases e1:(A v).State != (B v).State with
     |true=>rfl
     |false =>
      cases e2:(A v).Houses != (B v).Houses with
      |true=>rfl
      |false=>exact absurd ⟨by simpa using e1,by simpa using e2⟩ c
    rw [this]
    exact Ev.pure
theorem Wa {A B:Int->A7}{t:Int}(ht:t<=41666):∀ ds:List Int,Sf A ds->Sf B ds->(∃ v r,ds=v::r/\v<=t)->∃ v∈ds,v<=t/\A t=A v/\B t=B v
 | [],_,_,⟨_,_,h,_⟩=>by cases h
 |v::r,⟨a1,a2,a3,a4,a5⟩,⟨b1,b2,b3,b4,b5⟩,⟨w,q,h,hw⟩=>by
  cases h
  by_cases c:t<Up r
  . exact⟨v,Ü,hw,a4 t hw c,b4 t hw c⟩
  . cases r with
    |nil=>exact absurd (show t<41667 by omega) c
    |cons u r =>
     have hu:u<=t:=by have:¬ t<u:=c;omega
     obtain⟨x,a,b,d⟩:=Wa ht (u::r) a5 b5 ⟨u,r,rfl,hu⟩
     exact⟨x,â _ a,b,d⟩
theorem Xr {l:List Aa}{d:Ai}{known later:Int}{s s1:List Ae}(hS:T1 l d known s)(hS1:T1 l d later s1)(e:Ev (fun n=>BY n l d known) (s,0))(e1:Ev (fun n=>BY n l d later) (s1,0)) :
 ∃ m,Ev (fun n=>CI n l d known later) (m,0)/\(∀ t,0<=t->t<=41666->(t<m->alike (HG l s t) (HG l s1 t))/\(t=m->¬ alike (HG l s t) (HG l s1 t)))/\0<=m/\m<=41667:=by
 have E:(s++s1).length<=80:=by rw [Ú];have:=hS.len;have:=hS1.len;omega
 have f:∀ x∈s++s1,0<=x.from_/\x.from_<=41667/\0<=x.to_/\x.to_<=41667:=fun x c=>(List.mem_append.1 c).elim (hS.rng x) (hS1.rng x)
 have hb:=Ab2 (s:=s++s1) (by omega) fun x c=>(f x c).2.2
 have b:=Du (0::Ee (s++s1))
 have i:=E9 (0::Ee (s++s1))
 have G:(BK (0::Ee (s++s1))).length<=161:=by rw [b.length_eq,à,O8];omega
 have z:(BK (0::Ee (s++s1))).isEmpty=false:=by
  cases k:BK (0::Ee (s++s1)) with
  |nil=>rw [k] at b;have:=b.length_eq;simp at this
  |cons=>rfl
 have j:∀ v,v∈BV (BK (0::Ee (s++s1)))↔(v=0∨v∈Ee (s++s1))/\v<=41666:=fun v=>by
  unfold BV
  rw [List.mem_filter,Qg,b.mem_iff,Ē,Ï]
 have o:(BV (BK (0::Ee (s++s1)))).Pairwise (· < ·):=(XI _ i).filter _
 have w:∀ v∈BV (BK (0::Ee (s++s1))),0<=v/\v<=41666:=fun v h=>by
  have h:=(j v).1 h
  refine⟨?_,h.2⟩
  rcases h.1 with rfl|h2
  . exact Int.le_refl _
  . obtain⟨x,c,C⟩:=(Mz _).1 h2
    have:=f x c
    rcases C with rfl|rfl<;>omega
 have g:∀ v∈Ee (s++s1),v<=41666->v∈BV (BK (0::Ee (s++s1)))∨v<Up (BV (BK (0::Ee (s++s1)))):=fun v h1 h2=>.inl ((j v).2 ⟨.inr h1,h2⟩)
 have dA:=U8 (A:=HG l s) (s:=s++s1) (fun t u h=>NG hS.ok hS.len t u fun x c=>h x (ā _ c)) _ o w g
 have dB:=U8 (A:=HG l s1) (s:=s++s1) (fun t u h=>NG hS1.ok hS1.len t u fun x c=>h x (Č _ c)) _ o w g
 have y:(0:Int)∈BV (BK (0::Ee (s++s1))):=(j 0).2 ⟨.inl rfl,by decide⟩
 obtain⟨m,q1,q2⟩:=VK (l:=l) (s:=(s,0)) (s1:=(s1,0)) (A:=HG l s) (B:=HG l s1) (fun t _ _=>Tx hS.ok hS.len fun _ _=>rfl) (fun t _ _=>Tx hS1.ok hS1.len fun _ _=>rfl) _ w
 refine⟨m,?_,⟨fun t H D=>⟨fun F=>?_,fun F=>?_⟩,?_⟩⟩
 . unfold CI
   refine e.bind ?_
   simp only [é,Ì]
   refine e1.bind ?_
   simp only [é,Ì]
   refine Ev.bind (a:=BK (0::Ee (s++s1))) ?_ ?_
   . cases k:s.isEmpty with
     |true =>
      have:s=[]:=List.isEmpty_iff.1 k
      subst this
      simp only [Î]
      rw [Tf (by have:=hS1.len;simp;omega)]
      exact hb.bind Ev.pure
     |false =>
      simp only [Ì]
      rw [Tf (x:=([]:List Ae)) (by have:=hS.len;simp;omega)]
      simp only [Á,ê]
      rw [Tf (x:=s) (by have:=hS.len;have:=hS1.len;simp;omega)]
      exact hb.bind Ev.pure
   . simp only [z,Ì,Í (show (BK (0::Ee (s++s1))).length*8<=140737488351232 by omega),Î]
     exact q1
 . obtain⟨v,h1,h2,C,I⟩:=Wa (A:=HG l s) (B:=HG l s1) D _ dA dB (by
    cases k:BV (BK (0::Ee (s++s1))) with
    |nil=>rw [k] at y;cases y
    |cons v r =>
     refine⟨v,r,rfl,?_⟩
     rw [k] at y o
     rcases List.mem_cons.1 y with h|h
     . omega
     . have:=(List.pairwise_cons.1 o).1 0 h;omega)
   rw [C,I]
   rcases q2 with⟨_,q2⟩|⟨p,q,q3,q4,_⟩
   . exact q2 v h1
   . rw [q3] at h1 o
     rcases List.mem_append.1 h1 with h1|h1
     . exact q4 v h1
     . have J:=(List.pairwise_append.1 o).2.1
       rcases List.mem_cons.1 h1 with h1|h1
       . omega
       . have:=(List.pairwise_cons.1 J).1 v h1;omega
 . rcases q2 with⟨q2,_⟩|⟨p,q,_,_,q5⟩
   . omega
   . rw [F];exact q5
 . rcases q2 with⟨e,_⟩|⟨p,q,e,_,_⟩
   . omega
   . have:=w m (by rw [e];simp);omega
end Go.Sp
namespace Go.Sp
open Go Go.Vl
set_option linter.unusedVariables false
structure IM where
 D:A7
 E:Int
structure AE where
 From:Int
 To:Int
 Is:Bool
def Gd (x:AE):List PV:=[iP x.From,iP x.To,bP x.Is]
theorem Ob (x:AE):Gd x=[iP x.From,iP x.To,bP x.Is]:=rfl
theorem Ny (x:AE):(Gd x).length=3:=rfl
def De:Rw AE:=⟨Gd,_,3,Ob,Ny⟩
structure Fk where
 L:(List Al)
 E:Int
structure Hu where
 Keep:Int
 Drop:Int
 E:Int
structure Dg where
 N:Int
 E:Int
def Dp (n:Nat)(l:(List Aa))(d:Ai)(known:Int):Option Int :=
 (Ha n l).bind fun e =>
 bif (e != 0) then
  some e
 else
  (Gg n d known).bind fun k =>
  some k
def DW:Nat->(List Aa)->Ai->Int->(List AE)->Int->Option (List AE)
 |0,_,_,_,_,_=>none
 |n+1,l,d,known,out1,k =>
  bif (decide (k<(l.length:Int))) then
   (gi l k).bind fun x =>
   (Jk n x d known).bind fun s =>
   (some [(AE.mk s.From s.To s.Is)]).bind fun l1 =>
   (CC 24 out1 l1).bind fun l2 =>
   DW n l d known l2 (À (k+1))
  else
   some out1
def ES (n:Nat)(l:(List Aa))(d:Ai)(known:Int):Option (List AE) :=
 ((DW n l d known [] 0
 ):Option (List AE)).bind fun out =>
  some out
def Ey (s:AE)(day:Int):Option Bool :=
 ((bif s.Is then
  bif (decide (s.From<=day)) then
   some (decide (day<=s.To))
  else
   some false
 else
  some false
 ):Option Bool).bind fun v4 =>
  some v4
def GS (a_:Int)(b:Int):Option Int :=
 some (bits .and .i64 a_ b)
def BO:Nat->(List Aa)->(List AE)->Int->Int->Int->Bool->Int->Option (Int×Bool)
 |0,_,_,_,_,_,_,_=>none
 |n+1,l,s,day,rank,common1,some_1,k =>
  bif (decide (k<(l.length:Int))) then
   (gi s k).bind fun x =>
   (Ey x day).bind fun is_ =>
   ((bif is_ then
    (gi l k).bind fun x2 =>
    bif (x2.Kind == 3) then
     some (x2.Rank == rank)
    else
     some false
   else
    some false
   ):Option Bool).bind fun v46 =>
    bif v46 then
     (gi l k).bind fun x1 =>
     (GS common1 x1.Houses).bind fun common2 =>
     BO n l s day rank common2 true (À (k+1))
    else
     BO n l s day rank common1 some_1 (À (k+1))
  else
   some (common1,some_1)
def C0:Nat->(List Aa)->(List AE)->Int->Int->Int->Option (Int ⊕ Int)
 |0,_,_,_,_,_=>none
 |n+1,l,s,day,out1,rank =>
  bif (decide (0<=rank)) then
   ((BO n l s day rank 4095 false 0
   ):Option (Int×Bool)).bind fun y1=>match y1 with
   |(common,some_) =>
    bif (!some_) then
     C0 n l s day out1 (À (rank-1))
    else
     bif (common == 0) then
      some (.inr 0)
     else
      (GS out1 common).bind fun b =>
      bif (b != 0) then
       (GS out1 common).bind fun out2 =>
       C0 n l s day out2 (À (rank-1))
      else
       C0 n l s day out1 (À (rank-1))
  else
   some (.inl out1)
def Ht (n:Nat)(l:(List Aa))(s:(List AE))(day:Int):Option Int :=
 ((C0 n l s day 4095 9
 ):Option (Int ⊕ Int)).bind fun y=>match y with
 |.inl out =>
  some out
 |.inr o=>some o
def Dn:Nat->(List Aa)->(List AE)->Int->Int->Bool->Bool->Int->(List Int)->Option (Bool×Bool×(List Int))
 |0,_,_,_,_,_,_,_,_=>none
 |n+1,l,s,day,rank,keep1,drop1,k,out3 =>
  bif (decide (k<(l.length:Int))) then
   (gi s k).bind fun x =>
   (Ey x day).bind fun is_ =>
   ((bif is_ then
    (gi l k).bind fun x3 =>
    bif (x3.Kind != 3) then
     some (x3.Rank == rank)
    else
     some false
   else
    some false
   ):Option Bool).bind fun v77 =>
    bif v77 then
     (some [k]).bind fun l1 =>
     (CC 8 out3 l1).bind fun l2 =>
     ((bif keep1 then
      some true
     else
      (gi l k).bind fun x2 =>
      some (x2.Kind == 1)
     ):Option Bool).bind fun keep2 =>
      ((bif drop1 then
       some true
      else
       (gi l k).bind fun x1 =>
       some (x1.Kind == 2)
      ):Option Bool).bind fun Tp =>
       Dn n l s day rank keep2 Tp (À (k+1)) l2
    else
     Dn n l s day rank keep1 drop1 (À (k+1)) out3
  else
   some (keep1,drop1,out3)
def Dm:Nat->(List Aa)->(List AE)->Int->Int->Int->Option Int
 |0,_,_,_,_,_=>none
 |n+1,l,s,day,rank1,k1 =>
  bif (decide (k1<(l.length:Int))) then
   (gi s k1).bind fun x4 =>
   (Ey x4 day).bind fun is_1 =>
   ((bif is_1 then
    (gi l k1).bind fun x6 =>
    some (x6.Kind != 3)
   else
    some false
   ):Option Bool).bind fun v35 =>
    bif v35 then
     (gi l k1).bind fun x5 =>
     Dm n l s day (if x5.Rank > rank1 then x5.Rank else rank1) (À (k1+1))
    else
     Dm n l s day rank1 (À (k1+1))
  else
   some rank1
def Gf (n:Nat)(l:(List Aa))(s:(List AE))(day:Int):Option A7 :=
 ((Dm n l s day (-1) 0
 ):Option Int).bind fun rank =>
  (Ht n l s day).bind fun h_ =>
  ((Dn n l s day rank false false 0 []
  ):Option (Bool×Bool×(List Int))).bind fun y1=>match y1 with
  |(keep,drop,out) =>
   ((bif keep then
    some 1
   else
    some 0
   ):Option Int).bind fun out1 =>
    ((bif drop then
     some 2
    else
     some out1
    ):Option Int).bind fun out2 =>
     ((bif keep then
      some drop
     else
      some false
     ):Option Bool).bind fun v109 =>
      bif v109 then
       some (A7.mk 3 h_ out)
      else
       some (A7.mk out2 h_ out)
def Ik (n:Nat)(l:(List Aa))(d:Ai)(day:Int)(known:Int):Option IM :=
 (Dp n l d known).bind fun e =>
 bif (e != 0) then
  some (IM.mk (A7.mk 0 0 []) e)
 else
  ((bif (decide (day<0)) then
   some true
  else
   some (decide (41666<day))
  ):Option Bool).bind fun v23 =>
   bif v23 then
    some (IM.mk (A7.mk 0 0 []) 1)
   else
    (ES n l d known).bind fun s =>
    (Gf n l s day).bind fun a_ =>
    some (IM.mk a_ 0)
def C1:Nat->(List AE)->Int->Int->Option (Unit ⊕ Bool)
 |0,_,_,_=>none
 |n+1,s,day,k =>
  bif (decide (k<(s.length:Int))) then
   (((gi s k).bind fun x =>
   bif (x.From == day) then
    some true
   else
    some (x.To == (À (day-1)))
   ):Option Bool).bind fun v28 =>
    bif v28 then
     some (.inr true)
    else
     C1 n s day (À (k+1))
  else
   some (.inl ())
def Ew (n:Nat)(s:(List AE))(day:Int):Option Bool :=
 ((C1 n s day 0
 ):Option (Unit ⊕ Bool)).bind fun y=>match y with
 |.inl _ =>
  some false
 |.inr o=>some o
def AV:Nat->(List Aa)->(List AE)->(List Al)->Int->Option (List Al)
 |0,_,_,_,_=>none
 |n+1,l,s,out1,day =>
  bif (decide (day<=41666)) then
   bif out1.isEmpty then
    (Gf n l s day).bind fun x =>
    (CC 32 [] [(Al.mk day day x.State x.Houses)]).bind fun l1 =>
    AV n l s l1 (À (day+1))
   else
    bif (out1.length == out1.length) then
     ((bif ((out1.length:Int) == 0) then
      some true
     else
      (Ew n s day).bind fun c =>
      some c
     ):Option Bool).bind fun may =>
      bif (!may) then
       bif out1.isEmpty then
        none
       else
        (gx out1.length (À ((out1.length:Int)-1))).bind fun _ =>
        (Ur out1 (À ((out1.length:Int)-1)) (fun z=>{ z with To:=day })).bind fun l2 =>
        bif (l2.length == out1.length) then
         AV n l s l2 (À (day+1))
        else
         none
      else
       (Gf n l s day).bind fun x1 =>
       bif out1.isEmpty then
        none
       else
        ((bif (decide (0<(out1.length:Int))) then
         (gx out1.length (À ((out1.length:Int)-1))).bind fun _ =>
         (gi out1 (À ((out1.length:Int)-1))).bind fun x2 =>
         bif (x2.State == x1.State) then
          some (x2.Houses == x1.Houses)
         else
          some false
        else
         some false
        ):Option Bool).bind fun v74 =>
         bif v74 then
          (gx out1.length (À ((out1.length:Int)-1))).bind fun _ =>
          (Ur out1 (À ((out1.length:Int)-1)) (fun z=>{ z with To:=day })).bind fun l3 =>
          bif (l3.length == out1.length) then
           AV n l s l3 (À (day+1))
          else
           none
         else
          bif (out1.length == out1.length) then
           (CC 32 out1 [(Al.mk day day x1.State x1.Houses)]).bind fun l4 =>
           AV n l s l4 (À (day+1))
          else
           none
    else
     none
  else
   some out1
def CN (n:Nat)(l:(List Aa))(d:Ai)(known:Int):Option Fk :=
 (Dp n l d known).bind fun e =>
 bif (e != 0) then
  some (Fk.mk [] e)
 else
  (ES n l d known).bind fun s =>
  ((AV n l s [] 0
  ):Option (List Al)).bind fun out =>
   some (Fk.mk out 0)
def BP:Nat->Fk->Ai->Int->Int->Int->Option (Int×Int)
 |0,_,_,_,_,_=>none
 |n+1,s,d,k,out2,out3 =>
  bif (decide (k<(s.L.length:Int))) then
   (gi s.L k).bind fun x =>
   ((bif (x.State == 1) then
    some x.To
   else
    some out2
   ):Option Int).bind fun out4 =>
    ((bif (x.State == 2) then
     bif (decide (d.Stored<=x.To)) then
      some (out3 == 41667)
     else
      some false
    else
     some false
    ):Option Bool).bind fun v54 =>
     bif v54 then
      BP n s d (À (k+1)) out4 (if d.Stored > x.From then d.Stored else x.From)
     else
      BP n s d (À (k+1)) out4 out3
  else
   some (out2,out3)
def Fl (n:Nat)(l:(List Aa))(d:Ai)(known:Int):Option Hu :=
 (CN n l d known).bind fun s =>
 bif (s.E != 0) then
  some (Hu.mk 0 0 s.E)
 else
  ((BP n s d 0 (-1) 41667
  ):Option (Int×Int)).bind fun y=>match y with
  |(out,out1) =>
   some (Hu.mk out out1 0)
def BT:Nat->(List AE)->(List AE)->(List Aa)->Int->Option (Unit ⊕ Dg)
 |0,_,_,_,_=>none
 |n+1,s,t,l,day =>
  bif (decide (day<=41666)) then
   ((bif (day == 0) then
    some true
   else
    (Ew n s day).bind fun c1 =>
    some c1
   ):Option Bool).bind fun one =>
    ((bif (day == 0) then
     some true
    else
     (Ew n t day).bind fun c =>
     some c
    ):Option Bool).bind fun two =>
     ((bif one then
      some true
     else
      some two
     ):Option Bool).bind fun v63 =>
      bif v63 then
       (Gf n l s day).bind fun x =>
       (Gf n l t day).bind fun y4 =>
       ((bif (x.State != y4.State) then
        some true
       else
        some (x.Houses != y4.Houses)
       ):Option Bool).bind fun v83 =>
        bif v83 then
         some (.inr (Dg.mk day 0))
        else
         BT n s t l (À (day+1))
      else
       BT n s t l (À (day+1))
  else
   some (.inl ())
def DJ (n:Nat)(l:(List Aa))(d:Ai)(known:Int)(later:Int):Option Dg :=
 (Dp n l d known).bind fun e =>
 bif (e != 0) then
  some (Dg.mk 0 e)
 else
  (Dp n l d later).bind fun f =>
  bif (f != 0) then
   some (Dg.mk 0 f)
  else
   (ES n l d known).bind fun s =>
   (ES n l d later).bind fun t =>
   ((BT n s t l 0
   ):Option (Unit ⊕ Dg)).bind fun y=>match y with
   |.inl _ =>
    some (Dg.mk 41667 0)
   |.inr o=>some o
abbrev Hg (l:List AE):PV:=hP l Gd
abbrev Afk (l:List AE):PV:=oP l Gd
abbrev kX9 (x:IM):List PV:=[iP x.D.State,iP x.D.Houses,hI x.D.By,iP x.E]
abbrev Ahs (x:AE):List PV:=[iP x.From,iP x.To,bP x.Is]
abbrev Afo (x:Hu):List PV:=[iP x.Keep,iP x.Drop,iP x.E]
end Go.Sp
namespace Go.Sp
open Go Go.Vl
set_option linter.unusedVariables false
def D0 (n:Nat)(l:(List Aa))(d:Ai)(days:(Int×Int×Int)):Option Bool :=
 (IN n l d).bind fun f =>
 bif (!f) then
  (Yi).bind fun s =>
  some s
 else
  (H8 n l d days.1 days.2.1).bind fun a_ =>
  (Cj n l d days.2.1).bind fun s1 =>
  (EZ n l d days.2.1).bind fun b =>
  (CI n l d days.2.1 days.2.2).bind fun l1 =>
  (Ik n l d days.1 days.2.1).bind fun at_ =>
  (CN n l d days.2.1).bind fun all =>
  (Fl n l d days.2.1).bind fun bounds =>
  (DJ n l d days.2.1 days.2.2).bind fun learned =>
  (((HL n a_.1 at_.D).bind fun s3 =>
  bif s3 then
   bif (a_.2 == at_.E) then
    (CL n s1.1 all.L).bind fun s4 =>
    bif s4 then
     some (s1.2 == all.E)
    else
     some false
   else
    some false
  else
   some false
  ):Option Bool).bind fun one =>
   (((Yi).bind fun s2 =>
   bif s2 then
    bif one then
     bif (b.1 == bounds.Keep) then
      bif (b.2.1 == bounds.Drop) then
       bif (b.2.2 == bounds.E) then
        bif (l1.1 == learned.N) then
         some (l1.2 == learned.E)
        else
         some false
       else
        some false
      else
       some false
     else
      some false
    else
     some false
   else
    some false
   ):Option Bool).bind fun v6 =>
    some v6
end Go.Sp
namespace Go.Sp
open Go
set_option maxRecDepth 100000
def GC (l:List Aa)(d:Ai)(known:Int):List AE:=l.map fun c=>⟨HD ⟨d,known⟩ c.From,HD ⟨d,known⟩ c.To,IK d known c⟩
theorem GD {l:List Aa}{d:Ai}{known:Int}(hs:∀ c∈l,Fi c):Ev (fun n=>Dp n l d known) (Iy l d known):=by
 unfold Dp Iy
 refine (J4 l hs).bind ?_
 by_cases h:Cp l=0
 . rw [Ä (by simpa using h),show (Cp l != 0)=false by simpa using h]
   exact (LZ d known).bind Ev.pure
 . rw [È h,show (Cp l != 0)=true by simpa using h]
   exact Ev.pure
theorem Od {l:List Aa}{d:Ai}{known:Int}(hl:l.length<=40)(hs:∀ c∈l,Fi c)(hf:∀ c∈l,JD c)(hk:Da d known=0):∀ (r:List Aa) (k:Nat) (out:List AE),l.drop k=r->k<=l.length->out.length<=k ->
 Ev (fun n=>DW n l d known out (k:Int)) (out++GC r d known)
 | [],k,out,h,hk1,_=>by
  have he:=Hh h hk1
  refine .step (fun n=>DW.eq_2 (n:=n) l d known out _) (.of fun n=>?_)
  rw [Ç (by omega)]
  show some out=some (out++[])
  rw [ă]
 |c::r,k,out,h,hk1,ho=>by
  obtain⟨h1,h2⟩:=DM h
  have hc:c∈l:=á (i:=k) (by rw [h];exact Ü)
  have ih:=Od hl hs hf hk r (k+1) (out++[⟨HD ⟨d,known⟩ c.From,HD ⟨d,known⟩ c.To,IK d known c⟩]) h1 (by omega) (by simp;omega)
  refine .step (fun n=>DW.eq_2 (n:=n) l d known out _) ?_
  rw [Mf h2,L2 h,L3 (show k<4611686018427387904 by omega)]
  simp only [Î,Á]
  refine (Ac1 c d known (hs c hc)).2.bind ?_
  rw [Yf (hf c hc) hk]
  simp only []
  rw [Tf (by simp;omega)]
  simp only [Á]
  rw [ð] at ih
  exact ih
theorem J3 {l:List Aa}{d:Ai}{known:Int}(hl:l.length<=40)(hs:∀ c∈l,Fi c)(hf:∀ c∈l,JD c)(hk:Da d known=0):Ev (fun n=>ES n l d known) (GC l d known):=by
 unfold ES
 have:=Od hl hs hf hk l 0 [] rfl (ò _) (ä _)
 exact this.bind Ev.pure
theorem TT (a b:Int)(is_:Bool)(t:Int):Ey ⟨a,b,is_⟩ t=some (is_&&decide (a<=t/\t<=b)):=by
 unfold Ey
 cases is_ with
 |false=>rfl
 |true =>
  simp only [Î]
  rw [Ag0];rfl
section
variable {l:List Aa} {d:Ai} {known t:Int}
def ZM (d:Ai)(known t:Int)(c:Aa):Bool:=decide (HD ⟨d,known⟩ c.From<=t/\t<=HD ⟨d,known⟩ c.To)
def N8 (d:Ai)(known t:Int)(c:Aa)(k:Nat):Kt:=⟨c.Rank,c.Kind,c.Houses,ZM d known t c,(k:Int)⟩
theorem IP (c:Aa)(r:List Aa)(k:Nat):Bk d known t (c::r) k=(if IK d known c=true then [N8 d known t c k] else [])++Bk d known t r (k+1):=rfl
theorem giS {k:Nat}{c:Aa}{r:List Aa}(h:l.drop k=c::r):gi (GC l d known) (k:Int)=some ⟨HD ⟨d,known⟩ c.From,HD ⟨d,known⟩ c.To,IK d known c⟩:=by
 have:=L2 h
 rw [giN] at this ⊢
 unfold GC
 rw [è,this];rfl
theorem Ag3 (c:Aa):Ey ⟨HD ⟨d,known⟩ c.From,HD ⟨d,known⟩ c.To,IK d known c⟩ t=some (IK d known c&&ZM d known t c):=TT _ _ _ _
theorem Qh (hl:l.length<=40)(ρ:Int):∀ (r:List Aa) (k:Nat) (c:Int) (b:Bool),l.drop k=r->k<=l.length->Ev (fun n=>BO n l (GC l d known) t ρ c b (k:Int)) (JV (GG ρ (Bk d known t r k)) c,b||!(GG ρ (Bk d known t r k)).isEmpty)
 | [],k,c,b,h,hk=>by
  have he:=Hh h hk
  refine .step (fun n=>BO.eq_2 (n:=n) l _ t ρ c b _) (.of fun n=>?_)
  rw [Ç (by omega)]
  show some (c,b)=some (c,b||false)
  rw [Bool.or_false]
 |x::r,k,c,b,h,hk=>by
  obtain⟨h1,h2⟩:=DM h
  have e:∀ n,BO (n+1) l (GC l d known) t ρ c b (k:Int)=bif IK d known x&&(x.Rank == ρ&&(x.Kind == 3&&ZM d known t x)) then BO n l (GC l d known) t ρ (bits .and .i64 c x.Houses) true ((k+1:Nat):Int) else BO n l (GC l d known) t ρ c b ((k+1:Nat):Int):=fun n=>by
   rw [BO.eq_2,Mf h2,giS h,L2 h,L3 (show k<4611686018427387904 by omega)]
   simp only [Î,Á,Ag3,GS]
   cases IK d known x<;>cases x.Rank == ρ<;>cases x.Kind == 3<;>cases ZM d known t x<;>rfl
  refine .step e ?_
  rw [IP]
  cases ha:IK d known x with
  |false =>
   simp only [Ī,Ì,Þ,ó,ê]
   exact Qh hl ρ r (k+1) c b h1 (by omega)
  |true =>
   simp only [č,ñ,ĝ,ê]
   cases hp:x.Rank == ρ&&(x.Kind == 3&&ZM d known t x) with
   |false =>
    have hg:GG ρ (N8 d known t x k::Bk d known t r (k+1))=GG ρ (Bk d known t r (k+1)):=Ę (by rw [<- Bool.not_eq_true] at hp;exact hp)
    rw [hg]
    simp only [Ì]
    exact Qh hl ρ r (k+1) c b h1 (by omega)
   |true =>
    have hg:GG ρ (N8 d known t x k::Bk d known t r (k+1))=N8 d known t x k::GG ρ (Bk d known t r (k+1)):=Ĭ hp
    rw [hg,JV]
    simp only [Î]
    have ih:=Qh hl ρ r (k+1) (bits .and .i64 c x.Houses) true h1 (by omega)
    have e2:(b||!(N8 d known t x k::GG ρ (Bk d known t r (k+1))).isEmpty)=(true||!(GG ρ (Bk d known t r (k+1))).isEmpty):=by cases b<;>rfl
    rw [e2]
    exact ih
theorem Yx (hl:l.length<=40):∀ (k:Nat) (out:Int),k<=100->Ev (fun n=>C0 n l (GC l d known) t out ((k:Int)-1)) (NB k (Bk d known t l 0) out)
 |0,out,_=>by
  refine .step (fun n=>C0.eq_2 (n:=n) l _ t out _) (.of fun n=>?_)
  rw [Ç (by omega)];rfl
 |k+1,out,hk=>by
  have e:((k+1:Nat):Int)-1=(k:Int):=by omega
  have ih:=fun o=>Yx hl k o (by omega)
  rw [e]
  refine .step (fun n=>C0.eq_2 (n:=n) l _ t out _) ?_
  rw [Í (by omega),BF (x:=(k:Int)-1) (by omega) (by omega)]
  simp only [Î]
  refine (Qh hl (k:Int) l 0 4095 false rfl (ò _)).bind ?_
  rw [NB]
  simp only [ē,Bool.not_not,GS,Á]
  cases (GG (k:Int) (Bk d known t l 0)).isEmpty with
  |true=>exact ih out
  |false =>
   simp only [Ì]
   cases JV (GG (k:Int) (Bk d known t l 0)) 4095 == 0 with
   |true=>exact Ev.pure
   |false =>
    simp only [Ì]
    unfold KH
    cases hb:bits .and .i64 out (JV (GG (k:Int) (Bk d known t l 0)) 4095) == 0 with
    |true =>
     rw [show (bits .and .i64 out (JV (GG (k:Int) (Bk d known t l 0)) 4095) != 0)=false by simpa using hb]
     exact ih _
    |false =>
     rw [show (bits .and .i64 out (JV (GG (k:Int) (Bk d known t l 0)) 4095) != 0)=true by simpa using hb]
     exact ih _
theorem Agc (hl:l.length<=40):Ev (fun n=>Ht n l (GC l d known) t) (Ahk (NB 10 (Bk d known t l 0) 4095)):=by
 unfold Ht
 refine (Yx hl 10 4095 (by decide)).bind ?_
 cases NB 10 (Bk d known t l 0) 4095<;>exact Ev.pure
theorem Qp (hl:l.length<=40)(hf:∀ c∈l,JD c):∀ (r:List Aa) (k:Nat) (m:Int),l.drop k=r->k<=l.length->-1<=m->Ev (fun n=>Dm n l (GC l d known) t m (k:Int)) (max m (G8 (Bk d known t r k)))
 | [],k,m,h,hk,hm=>by
  have he:=Hh h hk
  refine .step (fun n=>Dm.eq_2 (n:=n) l _ t m _) (.of fun n=>?_)
  rw [Ç (by omega)]
  show some m=some (max m (-1))
  congr 1;omega
 |x::r,k,m,h,hk,hm=>by
  obtain⟨h1,h2⟩:=DM h
  have hx:=hf x (á (i:=k) (by rw [h];exact Ü))
  have e:∀ n,Dm (n+1) l (GC l d known) t m (k:Int)=bif IK d known x&&Eg (N8 d known t x k) then Dm n l (GC l d known) t (if x.Rank > m then x.Rank else m) ((k+1:Nat):Int) else Dm n l (GC l d known) t m ((k+1:Nat):Int):=fun n=>by
   rw [Dm.eq_2,Mf h2,giS h,L2 h,L3 (show k<4611686018427387904 by omega)]
   simp only [Î,Á,Ag3]
   show _=bif IK d known x&&(x.Kind != 3&&ZM d known t x) then _ else _
   cases IK d known x<;>cases x.Kind != 3<;>cases ZM d known t x<;>rfl
  refine .step e ?_
  rw [IP]
  have lo:=Qc (Bk d known t r (k+1)) (MF r (k+1) fun c hc=>hf c (á (i:=k) (by rw [h];exact â _ hc)))
  cases ha:IK d known x with
  |false =>
   simp only [Ī,Ì,Þ,ó,ê]
   exact Qp hl hf r (k+1) m h1 (by omega) hm
  |true =>
   simp only [č,ñ,ĝ,ê]
   cases hc:Eg (N8 d known t x k) with
   |false =>
    have:G8 (N8 d known t x k::Bk d known t r (k+1))=G8 (Bk d known t r (k+1)):=by rw [G8,hc];simp
    rw [this]
    simp only [Ì]
    exact Qp hl hf r (k+1) m h1 (by omega) hm
   |true =>
    have a:=hx.rank
    have ih:=Qp hl hf r (k+1) (if x.Rank > m then x.Rank else m) h1 (by omega) (by split<;>omega)
    simp only [Î]
    have:max m (G8 (N8 d known t x k::Bk d known t r (k+1)))=max (if x.Rank > m then x.Rank else m) (G8 (Bk d known t r (k+1))):=by
     rw [G8,hc]
     simp only [û]
     show max m (if G8 (Bk d known t r (k+1))<x.Rank then x.Rank else _)=_
     split<;>split<;>omega
    rw [this];exact ih
theorem Qq (hl:l.length<=40)(ρ:Int):∀ (r:List Aa) (k:Nat) (kp dp:Bool) (out:List Int),l.drop k=r->k<=l.length->out.length<=k ->
 Ev (fun n=>Dn n l (GC l d known) t ρ kp dp (k:Int) out) (kp||((Bk d known t r k).filter fun a=>Eg a&&a.rk == ρ).any (fun a=>a.kd == 1),dp||((Bk d known t r k).filter fun a=>Eg a&&a.rk == ρ).any (fun a=>a.kd == 2),out++((Bk d known t r k).filter fun a=>Eg a&&a.rk == ρ).map (·.ix))
 | [],k,kp,dp,out,h,hk,_=>by
  have he:=Hh h hk
  refine .step (fun n=>Dn.eq_2 (n:=n) l _ t ρ kp dp _ out) (.of fun n=>?_)
  rw [Ç (by omega)]
  show some (kp,dp,out)=some (kp||false,dp||false,out++[])
  rw [Bool.or_false,Bool.or_false,ă]
 |x::r,k,kp,dp,out,h,hk,ho=>by
  obtain⟨h1,h2⟩:=DM h
  have e:∀ n,Dn (n+1) l (GC l d known) t ρ kp dp (k:Int) out=bif IK d known x&&(Eg (N8 d known t x k)&&x.Rank == ρ) then Dn n l (GC l d known) t ρ (kp||x.Kind == 1) (dp||x.Kind == 2) ((k+1:Nat):Int) (out++[(k:Int)]) else Dn n l (GC l d known) t ρ kp dp ((k+1:Nat):Int) out:=fun n=>by
   rw [Dn.eq_2,Mf h2,giS h,L2 h,L3 (show k<4611686018427387904 by omega)]
   simp only [Î,Á,Ag3]
   rw [Tf (x:=out) (by simp;omega)]
   show _=bif IK d known x&&((x.Kind != 3&&ZM d known t x)&&x.Rank == ρ) then _ else _
   cases IK d known x<;>cases x.Kind != 3<;>cases ZM d known t x<;>cases x.Rank == ρ<;>cases kp<;>cases dp<;>rfl
  refine .step e ?_
  rw [IP]
  cases ha:IK d known x with
  |false =>
   simp only [Ī,Ì,Þ,ó,ê]
   exact Qq hl ρ r (k+1) kp dp out h1 (by omega) (by omega)
  |true =>
   simp only [č,ñ,ĝ,ê]
   cases hp:Eg (N8 d known t x k)&&x.Rank == ρ with
   |false =>
    have hg:(N8 d known t x k::Bk d known t r (k+1)).filter (fun a=>Eg a&&a.rk == ρ)=(Bk d known t r (k+1)).filter fun a=>Eg a&&a.rk == ρ:=Ę (by rw [<- Bool.not_eq_true] at hp;exact hp)
    rw [hg]
    simp only [Ì]
    exact Qq hl ρ r (k+1) kp dp out h1 (by omega) (by omega)
   |true =>
    have hg:(N8 d known t x k::Bk d known t r (k+1)).filter (fun a=>Eg a&&a.rk == ρ)=N8 d known t x k::(Bk d known t r (k+1)).filter fun a=>Eg a&&a.rk == ρ:=Ĭ hp
    rw [hg,Ą,Ą,ß]
    simp only [Î]
    have ih:=Qq hl ρ r (k+1) (kp||x.Kind == 1) (dp||x.Kind == 2) (out++[(k:Int)]) h1 (by omega) (by simp;omega)
    rw [ð,Bool.or_assoc,Bool.or_assoc] at ih
    exact ih
theorem Yu:∀ (r:List Aa) (k:Nat),((Bk d known t r k).map (·.ix)).Pairwise (· < ·)/\∀ a∈Bk d known t r k,(k:Int)<=a.ix
 | [],_=>⟨.nil,fun a h=>by cases h⟩
 |c::r,k=>by
  obtain⟨h1,h2⟩:=Yu r (k+1)
  rw [IP]
  split
  . refine⟨?_,fun a ha=>?_⟩
    . rw [ĝ,ê,ß,List.pairwise_cons]
      refine⟨fun v hv=>?_,h1⟩
      obtain⟨a,ha,rfl⟩:=List.mem_map.1 hv
      have:=h2 a ha
      show (k:Int)<a.ix
      omega
    . rw [ĝ,ê] at ha
      rcases List.mem_cons.1 ha with rfl|ha
      . exact Int.le_refl _
      . have:=h2 a ha;omega
  . rw [ê]
    exact⟨h1,fun a ha=>by have:=h2 a ha;omega⟩
theorem Zu {x:List Int}(h:x.Pairwise (· < ·)):BK x=x :=
 List.Perm.eq_of_pairwise (le:=fun x y:Int=>x<=y) (fun _ _ _ _ h1 h2=>Int.le_antisymm h1 h2) (E9 x) (h.imp fun h=>Int.le_of_lt h) (Du x)
theorem Ma (hl:l.length<=40)(hf:∀ c∈l,JD c):Ev (fun n=>Gf n l (GC l d known) t) (BW (Bk d known t l 0)):=by
 unfold Gf
 refine (Qp hl hf l 0 (-1) rfl (ò _) (by decide)).bind ?_
 refine (Agc hl).bind ?_
 have lo:=Qc (Bk d known t l 0) (MF l 0 hf)
 have em:max (-1) (G8 (Bk d known t l 0))=G8 (Bk d known t l 0):=by omega
 rw [em]
 refine (Qq hl (G8 (Bk d known t l 0)) l 0 false false [] rfl (ò _) (ä _)).bind ?_
 have e:((Bk d known t l 0).filter fun a=>Eg a&&a.rk == G8 (Bk d known t l 0))=Ly (Bk d known t l 0):=rfl
 have b:BK ((Ly (Bk d known t l 0)).map (·.ix))=(Ly (Bk d known t l 0)).map (·.ix):=by
  refine Zu ?_
  have:=(Yu (d:=d) (known:=known) (t:=t) l 0).1
  exact this.sublist (List.Sublist.map _ List.filter_sublist)
 rw [e]
 simp only [ē,ê]
 unfold BW Nu
 rw [b]
 cases (Ly (Bk d known t l 0)).any (fun a=>a.kd == 1)<;>cases (Ly (Bk d known t l 0)).any (fun a=>a.kd == 2)<;>exact Ev.pure
theorem RM (s:List AE)(day:Int)(hd:0<=day/\day<=41666)(hl:s.length<=1000):∀ (r:List AE) (k:Nat),s.drop k=r->k<=s.length->∃ v,Ev (fun n=>C1 n s day (k:Int)) v/\(v=.inr true∨v=.inl ()/\∀ x∈r,x.From≠day/\x.To≠day-1)
 | [],k,h,hk=>by
  have he:=Hh h hk
  refine⟨.inl (),.step (fun n=>C1.eq_2 (n:=n) s day _) (.of fun n=>?_),.inr ⟨rfl,fun x hx=>by cases hx⟩⟩
  rw [Ç (by omega)];rfl
 |x::r,k,h,hk=>by
  obtain⟨h1,h2⟩:=DM h
  have e:∀ n,C1 (n+1) s day (k:Int)=bif x.From == day||x.To == day-1 then some (.inr true) else C1 n s day ((k+1:Nat):Int):=fun n=>by
   rw [C1.eq_2,Mf h2,L2 h,L3 (show k<4611686018427387904 by omega),BF (x:=day-1) (by omega) (by omega)]
   simp only [Î,Á]
   cases x.From == day<;>cases x.To == day-1<;>rfl
  cases hc:x.From == day||x.To == day-1 with
  |true=>exact⟨.inr true,.step e (.of fun n=>by rw [hc];rfl),.inl rfl⟩
  |false =>
   obtain⟨v,h3,h4⟩:=RM s day hd hl r (k+1) h1 (by omega)
   refine⟨v,.step e (h3.congr fun n=>by rw [hc];rfl),?_⟩
   rcases h4 with h4|⟨h4,h5⟩
   . exact .inl h4
   . refine .inr ⟨h4,fun y hy=>?_⟩
     rcases List.mem_cons.1 hy with rfl|hy
     . simp at hc;exact hc
     . exact h5 y hy
theorem Po (hl:l.length<=40){day:Int}(hd:0<=day/\day<=41666):∃ b,Ev (fun n=>Ew n (GC l d known) day) b/\(b=false->Bk d known day l 0=Bk d known (day-1) l 0):=by
 obtain⟨v,f,a⟩:=RM (GC l d known) day hd (by unfold GC;rw [Ñ];omega) _ 0 rfl (ò _)
 rcases a with a|⟨a,g⟩
 . subst a
   refine⟨true,?_,fun h=>by cases h⟩
   unfold Ew
   exact f.bind Ev.pure
 . subst a
   refine⟨false,?_,fun _=>?_⟩
   . unfold Ew
     exact f.bind Ev.pure
   . have key:∀ (r:List Aa) (k:Nat),(∀ c∈r,HD ⟨d,known⟩ c.From≠day/\HD ⟨d,known⟩ c.To≠day-1)->Bk d known day r k=Bk d known (day-1) r k:=by
      intro r
      induction r with
      |nil=>intro k _;rfl
      |cons c r ih =>
       intro k h
       rw [IP,IP,ih (k+1) fun c e=>h c (â _ e)]
       have e:=h c Ü
       have:ZM d known day c=ZM d known (day-1) c:=by
        unfold ZM
        rw [decide_eq_decide];omega
       unfold N8
       rw [this]
     refine key l 0 fun c e=>?_
     exact g ⟨HD ⟨d,known⟩ c.From,HD ⟨d,known⟩ c.To,IK d known c⟩ (List.mem_map.2 ⟨c,e,rfl⟩)
end
end Go.Sp
namespace Go.Sp
open Go
set_option maxRecDepth 100000
theorem Ae3 {α:Type}{pre:List α}{z:α}(h:pre.length<=100000):À (((pre++[z]).length:Int)-1)=(pre.length:Int):=by
 rw [BF (by simp<;>omega) (by simp<;>omega)];simp
section
variable {l:List Aa} {d:Ai} {known:Int}
theorem Zc (hl:l.length<=40)(hf:∀ c∈l,JD c):∀ (m k:Nat) (pre:List Al) (z:Al),k+m=41667->0<k->z.To=(k:Int)-1->OE (fun t=>BW (Bk d known t l 0)) pre ⟨z.From,41666,z.State,z.Houses⟩ (k:Int)->pre.length<=k ->
 ∃ pre' z',OE (fun t=>BW (Bk d known t l 0)) pre' z' 41667/\Ev (fun n=>AV n l (GC l d known) (pre++[z]) (k:Int)) (pre'++[z']):=by
 intro m
 induction m with
 |zero =>
  intro k pre z p q i hI r
  have e:z=⟨z.From,41666,z.State,z.Houses⟩:=by
   obtain⟨f,tt,s,h⟩:=z
   have v:tt=(k:Int)-1:=i
   have u:tt=41666:=by omega
   rw [u]
  refine⟨pre,z,?_,.step (fun n=>AV.eq_2 (n:=n) l _ _ _) (.of fun n=>?_)⟩
  . rw [e]
    have:(k:Int)=41667:=by omega
    rw [this] at hI;exact hI
  . rw [Ç (by omega)];rfl
 |succ m ih =>
  intro k pre z p q i hI r
  have el:((pre++[z]).isEmpty)=false:=by simp
  have pl:decide (0<((pre++[z]).length:Int))=true:=by simp<;>omega
  have pz:(((pre++[z]).length:Int) == 0)=false:=by simp<;>omega
  have gl:gi (pre++[z]) (pre.length:Int)=some z:=by rw [giN];simp
  have gxl:gx (pre++[z]).length (pre.length:Int)=some ():=gxN (by simp)
  have w1:=Ae3 (pre:=pre) (z:=z) (by omega)
  have wk:À ((k:Int)+1)=((k+1:Nat):Int):=L3 (by omega)
  have gm:Ur (pre++[z]) (pre.length:Int) (fun z=>{ z with To:=(k:Int) })=some (pre++[⟨z.From,(k:Int),z.State,z.Houses⟩]):=by
   unfold Ur
   rw [gl]
   simp only [Á]
   rw [Y0 (by simp)]
   simp
  have el3:(pre++[(⟨z.From,(k:Int),z.State,z.Houses⟩:Al)]).length=(pre++[z]).length:=by simp
  have one:∀ t,(k:Int)<=t->t<(((k+1:Nat):Int))->BW (Bk d known t l 0)=BW (Bk d known (k:Int) l 0):=fun t w x=>by
   have:t=(k:Int):=by omega
   rw [this]
  have ext:z.State=(BW (Bk d known (k:Int) l 0)).State/\z.Houses=(BW (Bk d known (k:Int) l 0)).Houses ->
   ∃ pre' z',OE (fun t=>BW (Bk d known t l 0)) pre' z' 41667/\Ev (fun n=>AV n l (GC l d known) (pre++[⟨z.From,(k:Int),z.State,z.Houses⟩]) ((k+1:Nat):Int)) (pre'++[z']):=fun e =>
   ih (k+1) pre ⟨z.From,(k:Int),z.State,z.Houses⟩ (by omega) (by omega) (by show (k:Int)=_;omega) (hI.same (by omega) one e) (by omega)
  obtain⟨b,hb,j⟩:=Po (l:=l) (d:=d) (known:=known) hl (day:=(k:Int)) ⟨by omega,by omega⟩
  cases b with
  |false =>
   have a:=j rfl
   have o:z.State=(BW (Bk d known (k:Int) l 0)).State/\z.Houses=(BW (Bk d known (k:Int) l 0)).Houses:=by
    rw [a]
    have lo:z.From<(k:Int):=hI.lo
    have:=hI.day ⟨z.From,41666,z.State,z.Houses⟩ (Č _ Ü) ((k:Int)-1) (by show z.From<=_;omega) (by show _<=(41666:Int);omega) (by omega)
    exact⟨this.1.symm,this.2.symm⟩
   obtain⟨pre',z',q1,q2⟩:=ext o
   refine⟨pre',z',q1,.step (fun n=>AV.eq_2 (n:=n) l _ _ _) ?_⟩
   rw [Í (by omega)]
   simp only [Î,el,Ì,ì,pz]
   refine Ev.bind (hb.bind Ev.pure) ?_
   simp only [ć,Î,w1,gxl,gm,el3,ì,Á,wk]
   exact q2
  |true =>
   have g:=Ma (d:=d) (known:=known) (t:=(k:Int)) hl hf
   by_cases c:z.State=(BW (Bk d known (k:Int) l 0)).State/\z.Houses=(BW (Bk d known (k:Int) l 0)).Houses
   . obtain⟨pre',z',q1,q2⟩:=ext c
     refine⟨pre',z',q1,.step (fun n=>AV.eq_2 (n:=n) l _ _ _) ?_⟩
     rw [Í (by omega)]
     simp only [Î,el,Ì,ì,pz]
     refine Ev.bind (hb.bind Ev.pure) ?_
     simp only [Ā,Ì]
     refine g.bind ?_
     rw [<- c.1,<- c.2]
     simp only [pl,Î,w1,gxl,gl,gm,el3,ì,Á,wk]
     exact q2
   . have cc:(bif z.State == (BW (Bk d known (k:Int) l 0)).State then some (z.Houses == (BW (Bk d known (k:Int) l 0)).Houses) else some false)=some false:=by
      cases e1:z.State == (BW (Bk d known (k:Int) l 0)).State with
      |false=>rfl
      |true =>
       cases e2:z.Houses == (BW (Bk d known (k:Int) l 0)).Houses with
       |false=>rfl
       |true=>exact absurd ⟨by simpa using e1,by simpa using e2⟩ c
     have ez:(⟨z.From,(k:Int)-1,z.State,z.Houses⟩:Al)=z:=by cases z;rw [<- i]
     have tn:=hI.turn (hi:=((k+1:Nat):Int)) ⟨by omega,by omega⟩ (by omega) one c
     have tn:OE (fun t=>BW (Bk d known t l 0)) (pre++[z]) ⟨(k:Int),41666,(BW (Bk d known (k:Int) l 0)).State,(BW (Bk d known (k:Int) l 0)).Houses⟩ ((k+1:Nat):Int):=by
      rw [<- ez];exact tn
     obtain⟨pre',z',q1,q2⟩:=ih (k+1) (pre++[z]) ⟨(k:Int),(k:Int),(BW (Bk d known (k:Int) l 0)).State,(BW (Bk d known (k:Int) l 0)).Houses⟩ (by omega) (by omega) (by show (k:Int)=_;omega) tn (by simp;omega)
     refine⟨pre',z',q1,.step (fun n=>AV.eq_2 (n:=n) l _ _ _) ?_⟩
     rw [Í (by omega)]
     simp only [Î,el,Ì,ì,pz]
     refine Ev.bind (hb.bind Ev.pure) ?_
     simp only [Ā,Ì]
     refine g.bind ?_
     simp only [pl,Î,w1,gxl,gl,Á,cc,Ì,wk]
     rw [Tf (by simp;omega)]
     simp only [Á]
     exact q2
theorem PU (hl:l.length<=40)(hs:∀ c∈l,Fi c)(hf:∀ c∈l,JD c)(hE:Iy l d known=0)(hk:Da d known=0):∃ pre z,OE (fun t=>BW (Bk d known t l 0)) pre z 41667/\Ev (fun n=>CN n l d known) ⟨pre++[z],0⟩:=by
 obtain⟨pre,z,b,e⟩:=Zc (d:=d) (known:=known) hl hf 41666 1 [] ⟨0,0,(BW (Bk d known 0 l 0)).State,(BW (Bk d known 0 l 0)).Houses⟩ rfl (by decide) rfl (OE.start (A:=fun t=>BW (Bk d known t l 0)) (hi:=1) (by decide) fun t f hb=>by
  have:t=0:=by omega
  rw [this]) (by simp)
 refine⟨pre,z,b,?_⟩
 unfold CN
 refine (GD hs).bind ?_
 rw [hE]
 simp only [é,Ì]
 refine (J3 hl hs hf hk).bind ?_
 refine Ev.bind (a:=pre++[z]) ?_ Ev.pure
 refine .step (fun n=>AV.eq_2 (n:=n) l _ _ _) ?_
 simp only [show decide ((0:Int)<=41666)=true from rfl,Î,List.isEmpty_nil]
 refine (Ma (d:=d) (known:=known) (t:=0) hl hf).bind ?_
 exact e
end
theorem OE.same_at {A:Int->A7}{p q:List Al}{z w:Al}(h:OE A p z 41667)(g:OE A q w 41667){i:Nat}{x y:Al}(hx:(p++[z])[i]?=some x)(hy:(q++[w])[i]?=some y)(e:x.From=y.From) :
 x.State=y.State/\x.Houses=y.Houses/\¬ x.To<y.To:=by
 have mx:=Ð hx
 have my:=Ð hy
 have rx:=h.rng x mx
 have ry:=g.rng y my
 have dx:=h.day x mx x.From (by omega) (by omega) (by omega)
 have dy:=g.day y my x.From (by omega) (by omega) (by omega)
 have e1:x.State=y.State:=dx.1.symm.trans dy.1
 have e2:x.Houses=y.Houses:=dx.2.symm.trans dy.2
 refine⟨e1,e2,fun a=>?_⟩
 have d:i<p.length:=by
  have b:=(List.getElem?_eq_some_iff.1 hx).1
  rw [Ú,à,ö] at b
  by_cases c:i<p.length
  . exact c
  . have c2:i=p.length:=by omega
    rw [c2] at hx
    have:x=z:=by simpa using hx.symm
    rw [this,h.last] at a
    omega
 have g1:(p++[z])[i+1]?=some ((p++[z])[i+1]'(by simp;omega)):=Ã _
 obtain⟨n1,n2⟩:=h.nxt i x _ hx g1
 have m2:=Ð g1
 have r2:=h.rng _ m2
 have d2:=h.day _ m2 (x.To+1) (by omega) (by omega) (by omega)
 have d3:=g.day y my (x.To+1) (by omega) (by omega) (by omega)
 exact n2 ⟨d2.1.symm.trans (d3.1.trans e1.symm),d2.2.symm.trans (d3.2.trans e2.symm)⟩
theorem OE.uniq {A:Int->A7}{p q:List Al}{z w:Al}(h:OE A p z 41667)(g:OE A q w 41667):p++[z]=q++[w]:=by
 have same:∀ {i:Nat} {x y:Al},(p++[z])[i]?=some x->(q++[w])[i]?=some y->x.From=y.From->x=y:=fun {i x y} c l e=>by
  obtain⟨e1,e2,e3⟩:=h.same_at g c l e
  obtain⟨_,_,e4⟩:=g.same_at h l c e.symm
  have:x.To=y.To:=by omega
  cases x;cases y;simp_all
 have stop:∀ {p:List Al} {z:Al},OE A p z 41667->∀ {i:Nat} {x:Al},(p++[z])[i]?=some x->(∃ y,(p++[z])[i+1]?=some y/\y.From=x.To+1/\x.To<41666)∨((p++[z])[i+1]?=none/\x.To=41666):=fun {p z} h {i x} c=>by
  cases j:(p++[z])[i+1]? with
  |some y =>
   have n1:=(h.nxt i x y c j).1
   have r:=h.rng y (Ð j)
   exact .inl ⟨y,rfl,n1,by omega⟩
  |none =>
   refine .inr ⟨rfl,?_⟩
   have d:=(List.getElem?_eq_some_iff.1 c).1
   have k:=List.getElem?_eq_none_iff.1 j
   rw [Ú,à,ö] at d k
   have c2:i=p.length:=by omega
   rw [c2] at c
   have:x=z:=by simpa using c.symm
   rw [this,h.last]
 apply List.ext_getElem?
 intro i
 induction i with
 |zero =>
  have g0:(p++[z])[0]?=some ((p++[z])[0]'(by simp)):=Ã _
  have g1:(q++[w])[0]?=some ((q++[w])[0]'(by simp)):=Ã _
  have:=same g0 g1 ((h.first _ g0).trans (g.first _ g1).symm)
  rw [g0,g1,this]
 |succ i ih =>
  cases c:(p++[z])[i]? with
  |none =>
   rw [c] at ih
   have a:=List.getElem?_eq_none_iff.1 c
   have b:=List.getElem?_eq_none_iff.1 ih.symm
   rw [Ġ (by omega),Ġ (by omega)]
  |some x =>
   rw [c] at ih
   rcases stop h c with⟨y,d,k,n⟩|⟨d,k⟩
   . rcases stop g ih.symm with⟨v,f,m,_⟩|⟨_,m⟩
     . rw [d,f,same d f (by omega)]
     . omega
   . rcases stop g ih.symm with⟨v,_,_,m⟩|⟨f,_⟩
     . omega
     . rw [d,f]
theorem OE.order {A:Int->A7}{p:List Al}{z:Al}{hi:Int}(h:OE A p z hi):∀ (m i:Nat) (x y:Al),(p++[z])[i]?=some x->(p++[z])[i+m+1]?=some y->x.From<y.From:=by
 intro m
 induction m with
 |zero =>
  intro i x y c d
  have:=(h.nxt i x y c d).1
  have r:=h.rng x (Ð c)
  omega
 |succ m ih =>
  intro i x y c d
  have f:=(List.getElem?_eq_some_iff.1 d).1
  have e:(p++[z])[i+m+1]?=some ((p++[z])[i+m+1]'(by omega)):=Ã _
  have a:=ih i x _ c e
  have b:=(h.nxt _ _ y e d).1
  have r:=h.rng _ (Ð e)
  omega
theorem RS {L:List Al}{d:Ai}(hl:L.length<=1000)(hr:∀ x∈L,0<=x.From/\x.From<=x.To/\x.To<=41666)(ho:∀ (i j:Nat) (x y:Al),i<j->L[i]?=some x->L[j]?=some y->x.From<y.From) :
 ∀ (r:List Al) (k:Nat) (keep drop:Int),L.drop k=r->k<=L.length->(drop=41667∨drop<=41666/\∀ x∈r,drop<=(if d.Stored > x.From then d.Stored else x.From)) ->
 ∃ p q,Ev (fun n=>BA n (L,0) d keep drop (k:Int)) (p,q)/\Ev (fun n=>BP n ⟨L,0⟩ d (k:Int) keep drop) (p,q)
 | [],k,keep,drop,h,hk,_=>by
  have he:=Hh h hk
  refine⟨keep,drop,.step (fun n=>BA.eq_2 (n:=n) _ d keep drop _) (.of fun n=>?_),.step (fun n=>BP.eq_2 (n:=n) _ d _ keep drop) (.of fun n=>?_)⟩
  . rw [Ç (by simp;omega)];rfl
  . rw [Ç (by simp;omega)];rfl
 |x::r,k,keep,drop,h,hk,hd=>by
  obtain⟨h1,h2⟩:=DM h
  have hx:x∈L:=á (i:=k) (by rw [h];exact Ü)
  have gx:L[k]?=some x:=by have:=L2 h;rwa [giN] at this
  have g:=hr x hx
  have wk:À ((k:Int)+1)=((k+1:Nat):Int):=L3 (by omega)
  obtain⟨mx,a⟩:∃ m,m=(if d.Stored > x.From then d.Stored else x.From):=⟨_,rfl⟩
  have eb:∀ n,BA (n+1) (L,0) d keep drop (k:Int)=bif x.State == 1 then BA n (L,0) d x.To drop ((k+1:Nat):Int) else bif x.State == 2&&decide (d.Stored<=x.To) then BA n (L,0) d keep (if mx<drop then mx else drop) ((k+1:Nat):Int) else BA n (L,0) d keep drop ((k+1:Nat):Int):=fun n=>by
   rw [BA.eq_2,show decide ((k:Int)<(((L,(0:Int)).1.length:Nat):Int))=true from Mf h2,show gi (L,(0:Int)).1 (k:Int)=some x from L2 h,wk]
   simp only [Î,Á]
   rw [a]
   cases x.State == 1<;>cases x.State == 2<;>cases decide (d.Stored<=x.To)<;>rfl
  have er:∀ n,BP (n+1) ⟨L,0⟩ d (k:Int) keep drop=bif x.State == 2&&(decide (d.Stored<=x.To)&&drop == 41667) then BP n ⟨L,0⟩ d ((k+1:Nat):Int) (bif x.State == 1 then x.To else keep) mx else BP n ⟨L,0⟩ d ((k+1:Nat):Int) (bif x.State == 1 then x.To else keep) drop:=fun n=>by
   rw [BP.eq_2,show decide ((k:Int)<(((⟨L,0⟩:Fk).L.length:Nat):Int))=true from Mf h2,show gi (⟨L,0⟩:Fk).L (k:Int)=some x from L2 h,wk]
   simp only [Î,Á]
   rw [a]
   cases x.State == 1<;>cases x.State == 2<;>cases decide (d.Stored<=x.To)<;>cases drop == 41667<;>rfl
  have later:∀ y∈r,mx<=(if d.Stored > y.From then d.Stored else y.From):=fun y b=>by
   obtain⟨j,f⟩:=List.mem_iff_getElem?.1 b
   rw [<- h1,List.getElem?_drop] at f
   have:=ho k (k+1+j) x y (by omega) gx f
   rw [a];split<;>split<;>omega
  have keepd:(drop=41667∨drop<=41666/\∀ x∈r,drop<=(if d.Stored > x.From then d.Stored else x.From)):=hd.imp id fun h=>⟨h.1,fun y b=>h.2 y (â _ b)⟩
  by_cases c1:x.State=1
  . have b1:(x.State == 1)=true:=by simpa using c1
    have b2:(x.State == 2)=false:=by rw [c1];rfl
    obtain⟨p,q,f1,f2⟩:=RS hl hr ho r (k+1) x.To drop h1 (by omega) keepd
    exact⟨p,q,.step eb (f1.congr fun n=>by rw [b1];rfl),.step er (f2.congr fun n=>by rw [b1,b2];rfl)⟩
  . have b1:(x.State == 1)=false:=by simpa using c1
    cases b2:x.State == 2&&decide (d.Stored<=x.To) with
    |false =>
     obtain⟨p,q,f1,f2⟩:=RS hl hr ho r (k+1) keep drop h1 (by omega) keepd
     refine⟨p,q,.step eb (f1.congr fun n=>by rw [b1,b2];rfl),.step er (f2.congr fun n=>?_)⟩
     rw [<- Bool.and_assoc,b2,b1];rfl
    |true =>
     have l:d.Stored<=x.To:=by
      rw [Å] at b2
      exact þ b2.2
     have o:mx<=41666:=by rw [a];split<;>omega
     rcases hd with hd|⟨s,c⟩
     . obtain⟨p,q,f1,f2⟩:=RS hl hr ho r (k+1) keep mx h1 (by omega) (.inr ⟨o,later⟩)
       refine⟨p,q,.step eb (f1.congr fun n=>?_),.step er (f2.congr fun n=>?_)⟩
       . rw [b1,b2,È (by omega)];rfl
       . rw [<- Bool.and_assoc,b2,b1,hd];rfl
     . have e:=c x Ü
       rw [<- a] at e
       obtain⟨p,q,f1,f2⟩:=RS hl hr ho r (k+1) keep drop h1 (by omega) keepd
       refine⟨p,q,.step eb (f1.congr fun n=>?_),.step er (f2.congr fun n=>?_)⟩
       . rw [b1,b2,Ä (by omega)];rfl
       . rw [<- Bool.and_assoc,b2,b1,show (drop == 41667)=false by simp;omega];rfl
theorem Vy {l:List Aa}{d:Ai}{known later M:Int}(hl:l.length<=40)(hf:∀ c∈l,JD c)(hM:0<=M/\M<=41667)
 (h1:∀ t,0<=t->t<=41666->(t<M->alike (BW (Bk d known t l 0)) (BW (Bk d later t l 0)))/\(t=M->¬ alike (BW (Bk d known t l 0)) (BW (Bk d later t l 0)))) :
 ∀ (m k:Nat),k+m=41667->(k:Int)<=M->Ev (fun n=>BT n (GC l d known) (GC l d later) l (k:Int)) (if M=41667 then .inl () else .inr ⟨M,0⟩):=by
 intro m
 induction m with
 |zero =>
  intro k q b
  refine .step (fun n=>BT.eq_2 (n:=n) _ _ l _) (.of fun n=>?_)
  rw [Ç (by omega),È (by omega)];rfl
 |succ m ih =>
  intro k q b
  have wk:À ((k:Int)+1)=((k+1:Nat):Int):=L3 (by omega)
  obtain⟨b1,f,g⟩:=Po (l:=l) (d:=d) (known:=known) hl (day:=(k:Int)) ⟨by omega,by omega⟩
  obtain⟨b2,i,j⟩:=Po (l:=l) (d:=d) (known:=later) hl (day:=(k:Int)) ⟨by omega,by omega⟩
  obtain⟨al,na⟩:=h1 (k:Int) (by omega) (by omega)
  have go:∀ o1 o2:Bool,(o1=((k:Int) == 0||b1))->(o2=((k:Int) == 0||b2))->Ev (fun n=>(bif o1 then some true else some o2).bind fun v63=>bif v63 then
   (Gf n l (GC l d known) (k:Int)).bind fun x=>(Gf n l (GC l d later) (k:Int)).bind fun y4=>((bif (x.State != y4.State) then some true else some (x.Houses != y4.Houses)):Option Bool).bind fun v83=>bif v83 then some (.inr (Dg.mk (k:Int) 0)) else BT n (GC l d known) (GC l d later) l (À ((k:Int)+1))
   else BT n (GC l d known) (GC l d later) l (À ((k:Int)+1))) (if M=41667 then .inl () else .inr ⟨M,0⟩):=by
   intro o1 o2 e1 e2
   have eo:(bif o1 then some true else some o2)=some (o1||o2):=by cases o1<;>rfl
   rw [eo]
   simp only [Á,wk]
   cases o:o1||o2 with
   |true =>
    simp only [Î]
    refine (Ma hl hf).bind ((Ma hl hf).bind ?_)
    by_cases c:alike (BW (Bk d known (k:Int) l 0)) (BW (Bk d later (k:Int) l 0))
    . rw [c.1,c.2]
      simp only [é,Ì,Á]
      refine ih (k+1) (by omega) ?_
      by_cases e:(k:Int)=M
      . exact absurd c (na e)
      . omega
    . have p:(k:Int)=M:=by
       by_cases e:(k:Int)<M
       . exact absurd (al e) c
       . omega
      have:(bif ((BW (Bk d known (k:Int) l 0)).State != (BW (Bk d later (k:Int) l 0)).State) then some true else some ((BW (Bk d known (k:Int) l 0)).Houses != (BW (Bk d later (k:Int) l 0)).Houses))=some true:=by
       cases e1:(BW (Bk d known (k:Int) l 0)).State != (BW (Bk d later (k:Int) l 0)).State with
       |true=>rfl
       |false =>
        cases e2:(BW (Bk d known (k:Int) l 0)).Houses != (BW (Bk d later (k:Int) l 0)).Houses with
        |true=>rfl
        |false=>exact absurd ⟨by simpa using e1,by simpa using e2⟩ c
      rw [this,Ä (by omega),<- p]
      exact Ev.pure
   |false =>
    simp only [Ì]
    rw [Bool.or_eq_false_iff] at o
    rw [o.1,eq_comm,Bool.or_eq_false_iff] at e1
    rw [o.2,eq_comm,Bool.or_eq_false_iff] at e2
    have k0:(k:Int)≠0:=by simpa using e1.1
    have s1:=g e1.2
    have s2:=j e2.2
    refine ih (k+1) (by omega) ?_
    by_cases e:(k:Int)=M
    . refine absurd ?_ (na e)
      rw [s1,s2]
      exact (h1 ((k:Int)-1) (by omega) (by omega)).1 (by omega)
    . omega
  refine .step (fun n=>BT.eq_2 (n:=n) _ _ l _) ?_
  rw [Í (by omega)]
  simp only [Î]
  cases a:(k:Int) == 0 with
  |true =>
   have:=go true true (by rw [a];rfl) (by rw [a];rfl)
   simp only [Î,Á] at this ⊢
   exact this
  |false =>
   simp only [Ì]
   refine Ev.bind (f.bind Ev.pure) ?_
   refine Ev.bind (i.bind Ev.pure) ?_
   exact go b1 b2 (by rw [a];rfl) (by rw [a];rfl)
theorem Vr (a:A7)(hl:a.By.length<=1000):∀ (r:List Int) (k:Nat),a.By.drop k=r->k<=a.By.length->Ev (fun n=>E7 n a a (k:Int)) (.inl ())
 | [],k,h,hk=>by
  have he:=Hh h hk
  refine .step (fun n=>E7.eq_2 (n:=n) a a _) (.of fun n=>?_)
  rw [Ç (by omega)];rfl
 |x::r,k,h,hk=>by
  obtain⟨h1,h2⟩:=DM h
  refine .step (fun n=>E7.eq_2 (n:=n) a a _) ((Vr a hl r (k+1) h1 (by omega)).congr fun n=>?_)
  rw [Mf h2,L2 h,L3 (show k<4611686018427387904 by omega)]
  simp only [Î,Á,é,Ì]
theorem Yj (a:A7)(hl:a.By.length<=1000):Ev (fun n=>HL n a a) true:=by
 unfold HL
 simp only [é,Ì,Á]
 exact (Vr a hl a.By 0 rfl (ò _)).bind Ev.pure
theorem SK (a:List Al)(hl:a.length<=1000):∀ (r:List Al) (k:Nat),a.drop k=r->k<=a.length->Ev (fun n=>BI n a a (k:Int)) (.inl ())
 | [],k,h,hk=>by
  have he:=Hh h hk
  refine .step (fun n=>BI.eq_2 (n:=n) a a _) (.of fun n=>?_)
  rw [Ç (by omega)];rfl
 |x::r,k,h,hk=>by
  obtain⟨h1,h2⟩:=DM h
  refine .step (fun n=>BI.eq_2 (n:=n) a a _) ((SK a hl r (k+1) h1 (by omega)).congr fun n=>?_)
  rw [Mf h2,L2 h,L3 (show k<4611686018427387904 by omega)]
  simp only [Î,Á,ì,Bool.and_self,Ā,Ì]
theorem Vq (a:List Al)(hl:a.length<=1000):Ev (fun n=>CL n a a) true:=by
 unfold CL
 simp only [é,Ì]
 exact (SK a hl a 0 rfl (ò _)).bind Ev.pure
theorem Aac (l:List Aa)(d:Ai)(days:Int×Int×Int):Ev (fun n=>D0 n l d days) true:=by
 unfold D0
 obtain⟨b,hb,hs⟩:=Abl l d
 refine hb.bind ?_
 cases b with
 |false=>simp only [ć,Î,WV];exact Ev.pure
 |true =>
 obtain⟨f,_⟩:=hs rfl
 simp only [Ā,Ì]
 rcases Vp (d:=d) (known:=days.2.1) f with⟨r,ev⟩|⟨r,s,hS,ev⟩
 . -- an error
   obtain⟨x,v⟩:∃ x,x=Iy l d days.2.1:=⟨_,rfl⟩
   rw [<- v] at r ev
   have hb:(x != 0)=true:=by simpa using r
   obtain⟨e1,e2⟩:=YW r ev
   have rc:Ev (fun n=>Dp n l d days.2.1) x:=by rw [v];exact GD f
   have r1:Ev (fun n=>Ik n l d days.1 days.2.1) ⟨⟨0,0,[]⟩,x⟩:=by
    unfold Ik
    refine rc.bind ?_
    rw [hb];exact Ev.pure
   have r2:Ev (fun n=>CN n l d days.2.1) ⟨[],x⟩:=by
    unfold CN
    refine rc.bind ?_
    rw [hb];exact Ev.pure
   have r3:Ev (fun n=>Fl n l d days.2.1) ⟨0,0,x⟩:=by
    unfold Fl
    refine r2.bind ?_
    simp only [hb,Î];exact Ev.pure
   have r4:Ev (fun n=>DJ n l d days.2.1 days.2.2) ⟨0,x⟩:=by
    unfold DJ
    refine rc.bind ?_
    rw [hb];exact Ev.pure
   have p4:Ev (fun n=>CI n l d days.2.1 days.2.2) (0,x):=by
    unfold CI
    refine ev.bind ?_
    simp only [hb,Î];exact Ev.pure
   refine (Agx r ev days.1).bind (e1.bind (e2.bind (p4.bind (r1.bind (r2.bind (r3.bind (r4.bind ?_)))))))
   refine Ev.bind (a:=true) ?_ ?_
   . refine (Yj ⟨0,0,[]⟩ (by decide)).bind ?_
     simp only [Î,ì]
     refine (Vq [] (by decide)).bind ?_
     exact Ev.pure
   . simp only [WV,Á,Î,ì]
     exact Ev.pure
 . have hC:Cp l=0/\Da d days.2.1=0:=by
    unfold Iy at r
    by_cases h:Cp l=0
    . rw [Ä (by simpa using h)] at r;exact⟨h,r⟩
    . rw [È h] at r;exact absurd r h
   obtain⟨hC,w⟩:=hC
   obtain⟨g,k⟩:=RJ hC
   have rc:Ev (fun n=>Dp n l d days.2.1) 0:=by have:=GD (d:=d) (known:=days.2.1) f;rw [r] at this;exact this
   have A:HG l s=fun t=>BW (Bk d days.2.1 t l 0):=funext fun t=>Wp hS k
   -- At
   have atE:∃ (a:A7) (e:Int),Ev (fun n=>H8 n l d days.1 days.2.1) (a,e)/\Ev (fun n=>Ik n l d days.1 days.2.1) ⟨a,e⟩/\a.By.length<=1000:=by
    by_cases F:days.1<0∨41666<days.1
    . refine⟨⟨0,0,[]⟩,1,Agw ev F,?_,by decide⟩
      unfold Ik
      refine rc.bind ?_
      simp only [é,Ì]
      by_cases c:days.1<0
      . simp only [Í c,Î,Á];exact Ev.pure
      . simp only [Ç c,Ì,Á,Í (show 41666<days.1 by omega),Î];exact Ev.pure
    . refine⟨BW (Bk d days.2.1 days.1 l 0),0,?_,?_,?_⟩
      . have:=Agy hS ev (t:=days.1) (by omega) (by omega)
        rw [A] at this;exact this
      . unfold Ik
        refine rc.bind ?_
        simp only [é,Ì,Ç (show ¬ days.1<0 by omega),Ç (show ¬ 41666<days.1 by omega),Á]
        refine (J3 g f k w).bind ?_
        exact (Ma g k).bind Ev.pure
      . have I:(BW (Bk d days.2.1 days.1 l 0)).By.length=(Ly (Bk d days.2.1 days.1 l 0)).length:=by
         show (BK _).length=_
         rw [Xt,Ñ]
        have J:(Ly (Bk d days.2.1 days.1 l 0)).length<=(Bk d days.2.1 days.1 l 0).length:=List.length_filter_le _ _
        have K:(Bk d days.2.1 days.1 l 0).length<=l.length:=by rw [<- Um (l:=l) l 0 rfl,Ñ];exact QJ _ _ _ _
        omega
   obtain⟨a,e,a1,a2,a3⟩:=atE
   -- Stretches
   obtain⟨pre,z,hI,L,s1⟩:=TJ hS ev
   obtain⟨pre2,z2,B,s2⟩:=PU (d:=d) (known:=days.2.1) g f k r w
   rw [A] at hI
   rw [<- hI.uniq B] at s2
   have u:(pre++[z]).length<=1000:=by simp;omega
   -- Bounds
   obtain⟨p,q,b1,b2⟩:=RS (d:=d) u hI.rng (fun i j x y G v H=>hI.order (j-i-1) i x y v (by rw [show i+(j-i-1)+1=j by omega];exact H)) (pre++[z]) 0 (-1) 41667 rfl (ò _) (.inl rfl)
   have e2:Ev (fun n=>EZ n l d days.2.1) (p,q,0):=by
    unfold EZ
    refine s1.bind ?_
    simp only [é,Ì]
    exact b1.bind Ev.pure
   have e3:Ev (fun n=>Fl n l d days.2.1) ⟨p,q,0⟩:=by
    unfold Fl
    refine s2.bind ?_
    simp only [é,Ì]
    exact b2.bind Ev.pure
   -- Learned
   have learn:∃ (m e:Int),Ev (fun n=>CI n l d days.2.1 days.2.2) (m,e)/\Ev (fun n=>DJ n l d days.2.1 days.2.2) ⟨m,e⟩:=by
    rcases Vp (d:=d) (known:=days.2.2) f with⟨o,ev1⟩|⟨o,t1,hT,ev1⟩
    . have hb:(Iy l d days.2.2 != 0)=true:=by simpa using o
      refine⟨0,Iy l d days.2.2,?_,?_⟩
      . unfold CI
        refine ev.bind ?_
        simp only [é,Ì]
        refine ev1.bind ?_
        simp only [hb,Î];exact Ev.pure
      . unfold DJ
        refine rc.bind ?_
        simp only [é,Ì]
        refine (GD f).bind ?_
        simp only [hb,Î];exact Ev.pure
    . have C:Da d days.2.2=0:=by
       unfold Iy at o
       rw [Ä (by simpa using hC)] at o;exact o
      have D:HG l t1=fun t=>BW (Bk d days.2.2 t l 0):=funext fun t=>Wp hT k
      obtain⟨m,hL,E,hM⟩:=Xr hS hT ev ev1
      rw [A,D] at E
      refine⟨m,0,hL,?_⟩
      unfold DJ
      refine rc.bind ?_
      simp only [é,Ì]
      have rc2:Ev (fun n=>Dp n l d days.2.2) 0:=by have:=GD (d:=d) (known:=days.2.2) f;rw [o] at this;exact this
      refine rc2.bind ?_
      simp only [é,Ì]
      refine (J3 g f k w).bind ((J3 g f k C).bind ?_)
      refine (Vy g k hM E 41667 0 rfl (by omega)).bind ?_
      by_cases c:m=41667
      . rw [È c,c];exact Ev.pure
      . rw [Ä c];exact Ev.pure
   obtain⟨m,e4,l1,l2⟩:=learn
   refine a1.bind (s1.bind (e2.bind (l1.bind (a2.bind (s2.bind (e3.bind (l2.bind ?_)))))))
   refine Ev.bind (a:=true) ?_ ?_
   . refine (Yj a a3).bind ?_
     simp only [Î,ì]
     refine (Vq _ u).bind ?_
     exact Ev.pure
   . simp only [WV,Á,Î,ì]
     exact Ev.pure
end Go.Sp
