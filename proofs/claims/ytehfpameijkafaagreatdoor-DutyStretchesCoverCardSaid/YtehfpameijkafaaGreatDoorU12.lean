/-
  DutyStretchesCover as a plain function. (Printed by lift.py.) Lists of 16-bit numbers and triples of days in memory, opened. The closed facts of the row of DutyStretchesCover. The specification's types are those that find finds. No program. The specification's Type, Known and Last, in plain words. No program. Known, Last and products of the specification, in plain words. No program. The specification's values are those that value computes. No program. Few nodes, in plain words. No program. Value in plain words; StatuteIsTyped, the plain law. No program. Names: what the program and the specification call one. No program. Whether a clause of a list has a name. No program. Check, in plain words: the program's and the specification's. No program. Check of clauses: the program's and the specification's answer alike. No program. The stable sort of duty's spans: swaps, rotations. No program. The stable sort of duty's spans: insertion, rotation. No program. The stable sort of duty's spans: merging. No program. The stable sort of duty's spans: merging in place, the whole sort. No program. StatuteValuesAsSpecified, the plain law. No program. The spans of duty: what they are. No program. The duty on a day, by its spans, in plain words. No program. The stretches of duty, in plain words. No program. sanity, run by the kernel. No program. DutyStretchesCover: the plain law. No program.
-/
import Derived.JoinedOf
import Derived.KernelRfl
import Derived.Test.YtehfpameijkafaaGreatDoorU4
import Derived.Test.YtehfpameijkafaaGreatDoorU11
set_option linter.unusedVariables false
set_option linter.unusedSimpArgs false
namespace Go.Sp
open Go Go.Vl
set_option linter.unusedVariables false
def CL (x:Int):List PV:=[.lit (.int .u16 x)]
theorem Vi (x:Int):CL x=[.lit (.int .u16 x)]:=rfl
theorem Ox (x:Int):(CL x).length=1:=rfl
def Vg:Rw Int:=⟨CL,_,1,Vi,Ox⟩
def AU:Nat->((List Ar)×Int)->Int->(Bh×Int)->Int->Option (Unit ⊕ Bool)
 |0,_,_,_,_=>none
 |n+1,s1,x,a_,v236 =>
  bif (decide (v236<(s1.1.length:Int))) then
   (gi s1.1 v236).bind fun x1 =>
   ((bif (decide (x1.From<=((À x).tmod 41667))) then
    bif (decide (((À x).tmod 41667)<=x1.To)) then
     bif (a_.2 != 0) then
      some true
     else
      bif (a_.1.State != x1.State) then
       some true
      else
       some (a_.1.Houses != x1.Houses)
    else
     some false
   else
    some false
   ):Option Bool).bind fun v267 =>
    bif v267 then
     some (.inr false)
    else
     AU n s1 x a_ (À (v236+1))
  else
   some (.inl ())
theorem Ef (n:Nat)(s1:((List Ar)×Int))(x:Int)(a_:(Bh×Int))(v236:Int):AU (n+1) s1 x a_ v236 =
 bif (decide (v236<(s1.1.length:Int))) then
  (gi s1.1 v236).bind fun x1 =>
  ((bif (decide (x1.From<=((À x).tmod 41667))) then
   bif (decide (((À x).tmod 41667)<=x1.To)) then
    bif (a_.2 != 0) then
     some true
    else
     bif (a_.1.State != x1.State) then
      some true
     else
      some (a_.1.Houses != x1.Houses)
   else
    some false
  else
   some false
  ):Option Bool).bind fun v267 =>
   bif v267 then
    some (.inr false)
   else
    AU n s1 x a_ (À (v236+1))
 else
  some (.inl ()):=by rw [AU]
def Bc:Nat->(List Int)->(List Ab)->Al->Int->((List Ar)×Int)->Int->Option (Unit ⊕ Bool)
 |0,_,_,_,_,_,_=>none
 |n+1,days,l,d,known,s1,v219 =>
  bif (decide (v219<(days.length:Int))) then
   (gi days v219).bind fun x =>
   (DH n l d ((À x).tmod 41667) known).bind fun a_ =>
   ((AU n s1 x a_ 0
   ):Option (Unit ⊕ Bool)).bind fun y7=>match y7 with
   |.inl _ =>
    Bc n days l d known s1 (À (v219+1))
   |.inr o=>some (.inr o)
  else
   some (.inl ())
theorem Eg (n:Nat)(days:(List Int))(l:(List Ab))(d:Al)(known:Int)(s1:((List Ar)×Int))(v219:Int):Bc (n+1) days l d known s1 v219 =
 bif (decide (v219<(days.length:Int))) then
  (gi days v219).bind fun x =>
  (DH n l d ((À x).tmod 41667) known).bind fun a_ =>
  ((AU n s1 x a_ 0
  ):Option (Unit ⊕ Bool)).bind fun y7=>match y7 with
  |.inl _ =>
   Bc n days l d known s1 (À (v219+1))
  |.inr o=>some (.inr o)
 else
  some (.inl ()):=by rw [Bc]
def Au:Nat->((List Ar)×Int)->(List Ab)->Al->Int->Int->Int->Int->Option ((Int×Int) ⊕ Bool)
 |0,_,_,_,_,_,_,_=>none
 |n+1,s1,l,d,known,last1,first1,v94 =>
  bif (decide (v94<(s1.1.length:Int))) then
   (gi s1.1 v94).bind fun x2 =>
   ((bif (decide (x2.To<x2.From)) then
    some true
   else
    bif (decide (0<v94)) then
     (gi s1.1 (À (v94-1))).bind fun x3 =>
     bif (x2.From != (À (x3.To+1))) then
      some true
     else
      bif (x2.State == x3.State) then
       some (x2.Houses == x3.Houses)
      else
       some false
    else
     some false
   ):Option Bool).bind fun v141 =>
    bif v141 then
     some (.inr false)
    else
     (DH n l d x2.From known).bind fun a_1 =>
     (DH n l d x2.To known).bind fun a_2 =>
     ((bif (a_1.2 != 0) then
      some true
     else
      bif (a_2.2 != 0) then
       some true
      else
       bif (a_1.1.State != x2.State) then
        some true
       else
        bif (a_1.1.Houses != x2.Houses) then
         some true
        else
         bif (a_2.1.State != x2.State) then
          some true
         else
          some (a_2.1.Houses != x2.Houses)
     ):Option Bool).bind fun v193 =>
      bif v193 then
       some (.inr false)
      else
       ((bif (x2.State == 1) then
        some x2.To
       else
        some last1
       ):Option Int).bind fun last2 =>
        ((bif (x2.State == 2) then
         some (decide (d.Stored<=x2.To))
        else
         some false
        ):Option Bool).bind fun v208 =>
         bif v208 then
          Au n s1 l d known last2 (if (if d.Stored > x2.From then d.Stored else x2.From)<first1 then (if d.Stored > x2.From then d.Stored else x2.From) else first1) (À (v94+1))
         else
          Au n s1 l d known last2 first1 (À (v94+1))
  else
   some (.inl (last1,first1))
theorem Ee (n:Nat)(s1:((List Ar)×Int))(l:(List Ab))(d:Al)(known:Int)(last1:Int)(first1:Int)(v94:Int):Au (n+1) s1 l d known last1 first1 v94 =
 bif (decide (v94<(s1.1.length:Int))) then
  (gi s1.1 v94).bind fun x2 =>
  ((bif (decide (x2.To<x2.From)) then
   some true
  else
   bif (decide (0<v94)) then
    (gi s1.1 (À (v94-1))).bind fun x3 =>
    bif (x2.From != (À (x3.To+1))) then
     some true
    else
     bif (x2.State == x3.State) then
      some (x2.Houses == x3.Houses)
     else
      some false
   else
    some false
  ):Option Bool).bind fun v141 =>
   bif v141 then
    some (.inr false)
   else
    (DH n l d x2.From known).bind fun a_1 =>
    (DH n l d x2.To known).bind fun a_2 =>
    ((bif (a_1.2 != 0) then
     some true
    else
     bif (a_2.2 != 0) then
      some true
     else
      bif (a_1.1.State != x2.State) then
       some true
      else
       bif (a_1.1.Houses != x2.Houses) then
        some true
       else
        bif (a_2.1.State != x2.State) then
         some true
        else
         some (a_2.1.Houses != x2.Houses)
    ):Option Bool).bind fun v193 =>
     bif v193 then
      some (.inr false)
     else
      ((bif (x2.State == 1) then
       some x2.To
      else
       some last1
      ):Option Int).bind fun last2 =>
       ((bif (x2.State == 2) then
        some (decide (d.Stored<=x2.To))
       else
        some false
       ):Option Bool).bind fun v208 =>
        bif v208 then
         Au n s1 l d known last2 (if (if d.Stored > x2.From then d.Stored else x2.From)<first1 then (if d.Stored > x2.From then d.Stored else x2.From) else first1) (À (v94+1))
        else
         Au n s1 l d known last2 first1 (À (v94+1))
 else
  some (.inl (last1,first1)):=by rw [Au]
def CN (n:Nat)(l:(List Ab))(d:Al)(known:Int)(days:(List Int)):Option Bool :=
 (((Ih n l d).bind fun f =>
 bif (!f) then
  some true
 else
  some (decide (20<(days.length:Int)))
 ):Option Bool).bind fun v37 =>
  bif v37 then
   (TA).bind fun s =>
   some s
  else
   (Ca n l d known).bind fun s1 =>
   (EB n l d known).bind fun b =>
   ((bif (s1.2 != b.2.2) then
    some true
   else
    some (s1.2 != 0)
   ):Option Bool).bind fun v60 =>
    bif v60 then
     (((TA).bind fun s2 =>
     bif s2 then
      bif (s1.2 == b.2.2) then
       some ((s1.1.length:Int) == 0)
      else
       some false
     else
      some false
     ):Option Bool).bind fun v8 =>
      some v8
    else
     ((bif ((s1.1.length:Int) == 0) then
      some true
     else
      (gi s1.1 0).bind fun x4 =>
      bif (x4.From != 0) then
       some true
      else
       (gi s1.1 (À ((s1.1.length:Int)-1))).bind fun x5 =>
       some (x5.To != 41666)
     ):Option Bool).bind fun v91 =>
      bif v91 then
       some false
      else
       ((Au n s1 l d known (-1) 41667 0
       ):Option ((Int×Int) ⊕ Bool)).bind fun y4=>match y4 with
       |.inl (last,first) =>
        ((Bc n days l d known s1 0
        ):Option (Unit ⊕ Bool)).bind fun y5=>match y5 with
        |.inl _ =>
         (((TA).bind fun s3 =>
         bif s3 then
          bif (b.1 == last) then
           some (b.2.1 == first)
          else
           some false
         else
          some false
         ):Option Bool).bind fun v81 =>
          some v81
        |.inr o=>some o
       |.inr o=>some o
end Go.Sp
namespace Go.Proofs.YtehfpameijkafaaGreatDoor
open Go.ChangeShapes Go.WideShapes Go.ChangeAt Go.RowKit Go.Q Go.Vl Go.Sp
set_option maxRecDepth 100000
theorem Aap {H:Type}{enc:TypeId×Value->H}{w:World}{held:Bool}{fuel:Nat}{v:Value}{x:DataW H×List MemPlace}(hv:v.cells.toList=[v])(h:DataW.trod enc Tryz.prog w 0 (fun _=>true) held fuel 57 v.cells.toList=some x) :
 ∃ l:List Int,∀ φ,V w (UC w) φ (hP l CL) v:=by
 have c60:Tryz.prog.cellsOf 60=1:=by kernel_rfl
 rw [hv] at h
 obtain⟨l,u,e,_,q,g,r⟩:=Sx CL (fun _=>True) Tryz.underlying57 c60 (by decide) Ox (fun m cs x hm h=>by
  obtain⟨k,e,_,_⟩:=ā Tryz.underlying60 h
  subst e
  exact⟨k,trivial,.cons rfl (fun φ=>.lit _ _) .nil⟩) h
 obtain rfl:v=u:=by simpa using e
 exact⟨l,q⟩
end Go.Proofs.YtehfpameijkafaaGreatDoor
namespace Go.Proofs.YtehfpameijkafaaGreatDoor
open Go.ChangeShapes Go.WideShapes Go.ChangeAt Go.RowKit
set_option maxRecDepth 100000
theorem Gu {a b:Bool}(h:a=true)(k:b=true):(a&&b)=true:=by rw [h,k];rfl
theorem Aee:(Rows.dutyStretchesCoverRow.wf (OpenSpec.ofChange Rows.dutyStretchesCoverSpec))=true:=by kernel_rfl
theorem Aed:(laidOutB Tryz.prog)=true:=by kernel_rfl
theorem Aec:(mapsRowed Tryz.prog)=true:=by kernel_rfl
theorem Aeb:(Tryz.f4.params.all (Tryz.prog.readableRec ·))=true:=by kernel_rfl
theorem Aea:(namedTie Tryz.prog Rows.dutyStretchesCoverRow.named Rows.dutyStretchesCoverSpec.vars)=true:=by kernel_rfl
theorem Ad9:((Rows.dutyStretchesCoverRow.stops == []))=true:=by kernel_rfl
theorem Ad8:((Tryz.prog.stops == []))=true:=by kernel_rfl
theorem Ad7:((Rows.dutyStretchesCoverRow.knobs == []))=true:=by kernel_rfl
theorem Ad6:((Tryz.prog.stopKnobs == []))=true:=by kernel_rfl
theorem Ad5:((Rows.dutyStretchesCoverRow.inPlace == Tryz.prog.inPlace 4))=true:=by kernel_rfl
theorem Ac7:((Rows.dutyStretchesCoverRow.unfollowed == Tryz.prog.unfollowed 4))=true:=by kernel_rfl
theorem Ac6:((Rows.dutyStretchesCoverRow.recurses == Tryz.prog.recurses 4))=true:=by kernel_rfl
theorem Ac5:((Rows.dutyStretchesCoverRow.named == Tryz.prog.varsNamed 4))=true:=by kernel_rfl
theorem Ac4:((Rows.dutyStretchesCoverRow.maps == (Tryz.f4.params.toList++Rows.dutyStretchesCoverSpec.plain.varTypes Tryz.prog).any (Tryz.prog.mapsRec ·)))=true:=by kernel_rfl
theorem Ac3:((Rows.dutyStretchesCoverRow.ifaces == (Tryz.f4.params.toList++Rows.dutyStretchesCoverSpec.plain.varTypes Tryz.prog).any (Tryz.prog.ifacesRec ·)))=true:=by kernel_rfl
theorem Ac2:((Rows.dutyStretchesCoverRow.mapsOut == Tryz.prog.mapsAmong Tryz.f4.resultTypes.toList))=true:=by kernel_rfl
theorem Ac1:((Rows.dutyStretchesCoverRow.loops == (Tryz.f4.params.toList++Rows.dutyStretchesCoverSpec.plain.varTypes Tryz.prog).any (Tryz.prog.loopsFrom ·)))=true:=by kernel_rfl
theorem Ac0:((Rows.dutyStretchesCoverRow.wideKeys == (Tryz.f4.params.toList++Rows.dutyStretchesCoverSpec.plain.varTypes Tryz.prog++Tryz.f4.resultTypes.toList).any (Tryz.prog.wideKeysFrom ·)))=true:=by kernel_rfl
theorem Acz:(Rows.dutyStretchesCoverSpec.vars.all (Tryz.prog.varReadable ·))=true:=by kernel_rfl
theorem Acy:(Tryz.f4.resultTypes.all (fun t=>Tryz.prog.readableRec t&&decide (t<Tryz.prog.types.size)))=true:=by kernel_rfl
theorem Acx:((Rows.dutyStretchesCoverRow.ifacesOut == Tryz.f4.resultTypes.toList.any (Tryz.prog.ifacesRec ·)))=true:=by kernel_rfl
theorem Acw:((Rows.dutyStretchesCoverRow.loopsOut == Tryz.f4.resultTypes.toList.any (Tryz.prog.loopsFrom ·)))=true:=by kernel_rfl
theorem Acv:((Rows.dutyStretchesCoverRow.plainKeys == Tryz.prog.plainKeys))=true:=by kernel_rfl
theorem Acu:(Rows.dutyStretchesCoverRow.shortTexts.isNone)=true:=by kernel_rfl
theorem Acs:(Tryz.prog.stopsHeard)=true:=by kernel_rfl
theorem Acr:(Tryz.prog.mayEnter)=true:=by kernel_rfl
theorem Acq:((Rows.dutyStretchesCoverRow.lifted == Tryz.prog.liftsFinal))=true:=by kernel_rfl
theorem Acp:((Tryz.prog.make == some Rows.dutyStretchesCoverRow.make))=true:=by kernel_rfl
theorem Aco:((Rows.dutyStretchesCoverRow.kinds == (if Rows.dutyStretchesCoverRow.domain.isEmpty then [] else Tryz.f4.params.toList.map fun t=>match Tryz.prog.underlying t with|some (.int k)=>some k|_=>none)))=true:=by kernel_rfl
theorem Acn:((Rows.dutyStretchesCoverRow.pinned == Rows.dutyStretchesCoverRow.pinnedBy))=true:=by kernel_rfl
theorem Acm:((Rows.dutyStretchesCoverRow.veiled == (Tryz.f4.params.toList++Rows.dutyStretchesCoverSpec.plain.varTypes Tryz.prog++Tryz.f4.resultTypes.toList).any (Tryz.prog.veiledRec ·)))=true:=by kernel_rfl
theorem Acl:(Rows.dutyStretchesCoverRow.veiledFits Tryz.prog Tryz.f4.params.toList (Tryz.f4.params.toList++Rows.dutyStretchesCoverSpec.plain.varTypes Tryz.prog++Tryz.f4.resultTypes.toList))=true:=by kernel_rfl
theorem jf4:joinedFacts Tryz.prog 4 Tryz.f4 Rows.dutyStretchesCoverSpec Rows.dutyStretchesCoverRow=true:=(Gu (Gu (Gu (Gu (Gu (Gu (Gu (Gu (Gu (Gu (Gu (Gu (Gu (Gu (Gu (Gu (Gu (Gu (Gu (Gu (Gu (Gu (Gu (Gu (Gu (Gu (Gu (Gu (Gu (Gu (Gu Aee Aed) Aec) Aeb) Aea) Ad9) Ad8) Ad7) Ad6) Ad5) Ac7) Ac6) Ac5) Ac4) Ac3) Ac2) Ac1) Ac0) Acz) Acy) Acx) Acw) Acv) Acu) Acs) Acr) Acq) Acp) Aco) Acn) Acm) Acl)
end Go.Proofs.YtehfpameijkafaaGreatDoor
namespace Go.Sp
open Go
set_option maxRecDepth 100000
theorem Afi (a:Int)(l:List Int):gi (a::l) 0=some a:=rfl
theorem Afh (a b:Int)(l:List Int):gi (a::b::l) 1=some b:=rfl
end Go.Sp

namespace Go.Sp
open Go
set_option maxRecDepth 100000
theorem Y7 (f:BA):((bif (decide (f.Kind<1)) then
 some true
 else
  bif (decide (5<f.Kind)) then
   some true
  else
   bif (decide (f.Who<1)) then
    some true
   else
    bif (decide (1000<f.Who)) then
     some true
    else
     bif (decide (f.Day<0)) then
      some true
     else
      bif (decide (41666<f.Day)) then
       some true
      else
       bif (decide (f.Known<0)) then
        some true
       else
        some (decide (41666<f.Known))
 ):Option Bool)=some (!okF f):=by
 unfold okF
 by_cases h1:f.Kind<1
 . rw [Ì h1];(try rw [Ï]);congr 1;symm;rw [ä,Ù];omega
 rw [Ë h1,Ð]
 by_cases h2:5<f.Kind
 . rw [Ì h2];(try rw [Ï]);congr 1;symm;rw [ä,Ù];omega
 rw [Ë h2,Ð]
 by_cases h3:f.Who<1
 . rw [Ì h3];(try rw [Ï]);congr 1;symm;rw [ä,Ù];omega
 rw [Ë h3,Ð]
 by_cases h4:1000<f.Who
 . rw [Ì h4];(try rw [Ï]);congr 1;symm;rw [ä,Ù];omega
 rw [Ë h4,Ð]
 by_cases h5:f.Day<0
 . rw [Ì h5];(try rw [Ï]);congr 1;symm;rw [ä,Ù];omega
 rw [Ë h5,Ð]
 by_cases h6:41666<f.Day
 . rw [Ì h6];(try rw [Ï]);congr 1;symm;rw [ä,Ù];omega
 rw [Ë h6,Ð]
 by_cases h7:f.Known<0
 . rw [Ì h7];(try rw [Ï]);congr 1;symm;rw [ä,Ù];omega
 rw [Ë h7,Ð]
 by_cases h8:41666<f.Known
 . rw [Ì h8];(try rw [Ï]);congr 1;symm;rw [ä,Ù];omega
 . rw [Ë h8];congr 1;symm;rw [Bool.not_eq_false',Î];omega
theorem V1 (d:Al)(known:Int):((bif (decide (d.Stored<0)) then
 some true
 else
  bif (decide (41666<d.Stored)) then
   some true
  else
   bif (decide (known<0)) then
    some true
   else
    bif (decide (41666<known)) then
     some true
    else
     bif (decide (d.Owner<0)) then
      some true
     else
      some (decide (1000<d.Owner))
 ):Option Bool)=some (!decide (0<=d.Stored/\d.Stored<=41666/\0<=known/\known<=41666/\0<=d.Owner/\d.Owner<=1000)):=by
 by_cases h1:d.Stored<0
 . rw [Ì h1];(try rw [Ï]);congr 1;symm;rw [ä,Ù];omega
 rw [Ë h1,Ð]
 by_cases h2:41666<d.Stored
 . rw [Ì h2];(try rw [Ï]);congr 1;symm;rw [ä,Ù];omega
 rw [Ë h2,Ð]
 by_cases h3:known<0
 . rw [Ì h3];(try rw [Ï]);congr 1;symm;rw [ä,Ù];omega
 rw [Ë h3,Ð]
 by_cases h4:41666<known
 . rw [Ì h4];(try rw [Ï]);congr 1;symm;rw [ä,Ù];omega
 rw [Ë h4,Ð]
 by_cases h5:d.Owner<0
 . rw [Ì h5];(try rw [Ï]);congr 1;symm;rw [ä,Ù];omega
 rw [Ë h5,Ð]
 by_cases h6:1000<d.Owner
 . rw [Ì h6];(try rw [Ï]);congr 1;symm;rw [ä,Ù];omega
 . rw [Ë h6];congr 1;symm;rw [Bool.not_eq_false',Î];omega
theorem RB (d:Al)(hl:d.Facts.length<=200):∀ (r:List BA) (k:Nat),d.Facts.drop k=r->k<=d.Facts.length->Ev (fun n=>BN n d (k:Int)) (if r.all okF=true then .inl () else .inr 1)
 | [],k,hr,hk=>by
  have he:=J8 hr hk
  refine Ev.step (f:=fun n=>some (.inl ())) (fun n=>?_) Ev.pure
  rw [GZ,show (decide ((k:Int)<(d.Facts.length:Int)))=false by rw [Ù];omega];rfl
 |f::r,k,hr,hk=>by
  obtain⟨h1,h2⟩:=Ge hr
  have ih:=RB d hl r (k+1) h1 (by omega)
  have e:∀ n,BN (n+1) d (k:Int)=bif !okF f then some (.inr 1) else BN n d ((k+1:Nat):Int):=fun n=>by
   rw [GZ,Pb h2,Ï,Pc hr,Á,Y7,Á,Nz (by omega)]
  refine Ev.step e ?_
  cases hf:okF f with
  |true=>simp only [Ĕ,Ð,Č,hf,Bool.true_and];exact ih
  |false=>simp only [Bool.not_false,Ï,Č,hf,Bool.false_and,è,ÿ];exact Ev.pure
theorem Na (d:Al)(known:Int):Ev (fun n=>EW n d known) (FY d known):=by
 unfold EW FY
 by_cases hl:200<d.Facts.length
 . rw [Ì (show (200:Int)<(d.Facts.length:Int) by omega),Ç hl];exact Ev.pure
 . rw [Ë (show ¬ (200:Int)<(d.Facts.length:Int) by omega),Å hl]
   simp only [Ð]
   refine Ev.bind (RB d (by omega) d.Facts 0 rfl (ü _)) ?_
   cases hf:d.Facts.all okF with
   |false=>simp only [è,ÿ,false_and];exact Ev.pure
   |true =>
    simp only [ø,ô,V1,Á]
    by_cases c:0<=d.Stored/\d.Stored<=41666/\0<=known/\known<=41666/\0<=d.Owner/\d.Owner<=1000
    . simp only [Ì c,Ç c];exact Ev.pure
    . simp only [Ë c,Å c];exact Ev.pure
end Go.Sp

namespace Go.Sp
open Go
mutual
def HQ:Ag->Int->Int
 |.mk _ _ _ kids _,n=>GQ kids (n-1)
def GQ:List Ag->Int->Int
 | [],n=>n
 |e::l,n=>if n<0 then n else GQ l (HQ e n)
end
mutual
theorem Ll:∀ (e:Ag) (n:Int),HQ e n<=n-1
 |.mk _ _ _ kids _,n=>by rw [HQ];exact NW kids (n-1)
theorem NW:∀ (l:List Ag) (n:Int),GQ l n<=n
 | [],n=>by rw [GQ];omega
 |e::l,n=>by
  rw [GQ]
  split
  . omega
  . have h1:=Ll e n
    have h2:=NW l (HQ e n)
    omega
end
theorem Qd:∀ (l:List Ag) (n:Int),0<=GQ l n->(l.length:Int)<=n
 | [],n,h=>by rw [GQ] at h;simpa using h
 |e::l,n,h=>by
  rw [GQ] at h
  split at h
  . omega
  . have h1:=Ll e n
    have h2:=Qd l _ h
    simp only [Ý]
    omega
mutual
theorem Qe:∀ (e:Ag) (n:Int),0<=HQ e n->n<=1000000->EI e=true
 |.mk _ _ _ kids _,n,h,hn=>by
  rw [HQ] at h
  have:=Qd kids (n-1) h
  rw [EI,Æ,Î]
  exact⟨by omega,O7 kids (n-1) h (by omega)⟩
theorem O7:∀ (l:List Ag) (n:Int),0<=GQ l n->n<=1000000->JX l=true
 | [],_,_,_=>by rw [JX]
 |e::l,n,h,hn=>by
  rw [GQ] at h
  split at h
  . omega
  . have h1:=Ll e n
    have h2:=NW l (HQ e n)
    rw [JX,Æ]
    exact⟨Qe e n (by omega) hn,O7 l _ h (by omega)⟩
end
theorem Ue (e:Ag)(hf:∀ x∈e.Kids,∀ n,0<=n->n<=1000->Ev (fun k=>BR k x n) (HQ x n)/\-1<=HQ x n) :
 ∀ (r:List Ag) (k:Nat) (n:Int),e.Kids.drop k=r->k<=e.Kids.length->-1<=n->(k:Int)+n<=1000->Ev (fun m=>C4 m e n (k:Int)) (GQ r n)/\-1<=GQ r n
 | [],k,n,hr,hkl,hn,_=>by
  have he:=J8 hr hkl
  rw [GQ]
  refine⟨Ev.step (f:=fun _=>some n) (fun m=>?_) Ev.pure,hn⟩
  rw [Gp,show (decide ((k:Int)<(e.Kids.length:Int)))=false by rw [Ù];omega];rfl
 |x::r,k,n,hr,hkl,hn,hb=>by
  obtain⟨h1,h2⟩:=Ge hr
  rw [GQ]
  by_cases c:n<0
  . rw [Ç c]
    refine⟨Ev.step (f:=fun _=>some n) (fun m=>?_) Ev.pure,hn⟩
    rw [Gp,Pb h2,Ï,Ë (by omega)];rfl
  . rw [Å c]
    have hmem:x∈e.Kids:=æ (by rw [hr];simp)
    obtain⟨f1,f2⟩:=hf x hmem n (by omega) (by omega)
    have f3:=Ll x n
    obtain⟨i1,i2⟩:=Ue e hf r (k+1) (HQ x n) h1 (by omega) f2 (by omega)
    refine⟨Ev.step (f:=fun m=>(BR m x n).bind fun n3=>C4 m e n3 ((k+1:Nat):Int)) (fun m=>?_) (Ev.bind f1 i1),i2⟩
    rw [Gp,Pb h2,Ï,Ì (by omega),Á,Ï,Pc hr,Á,Nz (by omega)]
mutual
theorem S5:∀ (e:Ag) (n:Int),0<=n->n<=1000->Ev (fun k=>BR k e n) (HQ e n)/\-1<=HQ e n
 |.mk op num s kids at0,n,h0,h1=>by
  have h:=Ue (.mk op num s kids at0) (Ud kids) kids 0 (n-1) rfl (ü _) (by omega) (by simp;omega)
  rw [HQ]
  refine⟨Ev.step (fun k=>OR k (.mk op num s kids at0) n) (Ev.bind ?_ Ev.pure),h.2⟩
  rw [CW (by omega) (by omega)]
  exact h.1
theorem Ud:∀ (l:List Ag),∀ x∈l,∀ n,0<=n->n<=1000->Ev (fun k=>BR k x n) (HQ x n)/\-1<=HQ x n
 | [],x,hx=>by simp at hx
 |e::l,x,hx=>by
  rcases List.mem_cons.1 hx with hx|hx
  . rw [hx];exact S5 e
  . exact Ud l x hx
end
def FU (e:Ag)(n:Int):Int:=if n<0 then n else HQ e n
def EM (c:Ab)(n:Int):Int:=FU c.When (FU c.To (FU c.From n))
def Ls:List Ab->Int->Int
 | [],n=>n
 |c::l,n=>if n<0 then n else Ls l (EM c n)
theorem GJ (e:Ag)(n:Int):FU e n<=n:=by
 unfold FU
 split
 . omega
 . have:=Ll e n;omega
theorem KS {e:Ag}{n:Int}(h : -1<=n)(h1:n<=1000) : -1<=FU e n:=by
 unfold FU
 split
 . omega
 . exact (S5 e n (by omega) h1).2
theorem M8 (c:Ab)(n:Int):EM c n<=n:=by
 unfold EM
 have h1:=GJ c.From n
 have h2:=GJ c.To (FU c.From n)
 have h3:=GJ c.When (FU c.To (FU c.From n))
 omega
theorem Uv:∀ (l:List Ab) (n:Int),Ls l n<=n
 | [],n=>by rw [Ls];omega
 |c::l,n=>by
  rw [Ls]
  split
  . omega
  . have h1:=M8 c n
    have h2:=Uv l (EM c n)
    omega
theorem Qx (l:List Ab)(i:Int)(c:Ab)(hi:gi l i=some c)(p:Ag)(k:Nat)(hp:I5 c (k:Int)=some p)(hk:k<3)(n:Int)(h0 : -1<=n)(h1:n<=1000){v:Int}
 (h:Ev (fun m=>BT m l i (FU p n) ((k+1:Nat):Int)) v) (hv:n<0->v=n):Ev (fun m=>BT m l i n (k:Int)) v:=by
 by_cases c0:n<0
 . rw [hv c0]
   refine Ev.step (f:=fun _=>some n) (fun m=>?_) Ev.pure
   rw [GN,Ì (show (k:Int)<3 by omega),Ï,Ë (by omega)];rfl
 . refine Ev.step (f:=fun m=>(BR m p n).bind fun n3=>BT m l i n3 ((k+1:Nat):Int)) (fun m=>?_) (Ev.bind (S5 p n (by omega) h1).1 ?_)
   . rw [GN,Ì (show (k:Int)<3 by omega),Ï,Ì (by omega),Á,Ï,hi,Á,hp,Á,Nz (by omega)]
   . unfold FU at h
     rw [Å c0] at h
     exact h
theorem VE (l:List Ab)(i:Int)(c:Ab)(hi:gi l i=some c)(n:Int)(h0 : -1<=n)(h1:n<=1000):Ev (fun m=>BT m l i n 0) (EM c n):=by
 have g1:=KS (e:=c.From) h0 h1
 have g2:=GJ c.From n
 have g3:=KS (e:=c.To) g1 (by omega)
 have g4:=GJ c.To (FU c.From n)
 have hend:Ev (fun m=>BT m l i (EM c n) ((2+1:Nat):Int)) (EM c n):=by
  refine Ev.step (f:=fun _=>some (EM c n)) (fun m=>?_) Ev.pure
  rw [GN];rfl
 have neg:∀ {e:Ag} {n:Int},n<0->FU e n=n:=fun h=>by unfold FU;rw [Ç h]
 have s2:=Qx l i c hi c.When 2 rfl (by decide) (FU c.To (FU c.From n)) g3 (by omega) hend (fun h=>by unfold EM;exact neg h)
 have s1:=Qx l i c hi c.To 1 rfl (by decide) (FU c.From n) g1 (by omega) s2 (fun h=>by unfold EM;rw [neg (e:=c.To) h,neg h])
 exact Qx l i c hi c.From 0 rfl (by decide) n h0 h1 s1 (fun h=>by unfold EM;rw [neg (e:=c.From) h,neg (e:=c.To) h,neg h])
theorem WL (l:List Ab)(hl:l.length<=50):∀ (r:List Ab) (k:Nat) (n:Int),l.drop k=r->k<=l.length->-1<=n->n<=1000->Ev (fun m=>Du m l n (k:Int)) (Ls r n)
 | [],k,n,hr,hkl,_,_=>by
  have he:=J8 hr hkl
  rw [Ls]
  refine Ev.step (f:=fun _=>some n) (fun m=>?_) Ev.pure
  rw [GO,show (decide ((k:Int)<(l.length:Int)))=false by rw [Ù];omega];rfl
 |c::r,k,n,hr,hkl,h0,h1=>by
  obtain⟨d1,d2⟩:=Ge hr
  rw [Ls]
  by_cases c0:n<0
  . rw [Ç c0]
    refine Ev.step (f:=fun _=>some n) (fun m=>?_) Ev.pure
    rw [GO,Pb d2,Ï,Ë (by omega)];rfl
  . rw [Å c0]
    have g1 : -1<=EM c n:=by
     have a1:=KS (e:=c.From) h0 h1
     have a2:=GJ c.From n
     have a3:=KS (e:=c.To) a1 (by omega)
     have a4:=GJ c.To (FU c.From n)
     exact KS (e:=c.When) a3 (by omega)
    have g2:=M8 c n
    refine Ev.step (f:=fun m=>(BT m l (k:Int) n 0).bind fun n3=>Du m l n3 ((k+1:Nat):Int)) (fun m=>?_) (Ev.bind (VE l (k:Int) c (Pc hr) n h0 h1) (WL l hl r (k+1) _ d1 (by omega) g1 (by omega)))
    rw [GO,Pb d2,Ï,Ì (by omega),Á,Ï,Nz (by omega)]
theorem Adc (l:List Ab)(n:Int)(h0:0<=n)(h1:n<=1000):Ev (fun m=>J0 m l n) (decide (l.length<=50/\0<=Ls l n)):=by
 unfold J0
 by_cases c:l.length<=50
 . rw [Ë (show ¬ (50:Int)<(l.length:Int) by omega)]
   simp only [Ð]
   refine Ev.bind (WL l c l 0 n rfl (ü _) (by omega) h1) ?_
   simp only [c,ô]
   exact Ev.pure
 . rw [Ì (show (50:Int)<(l.length:Int) by omega),Ë (fun h=>c h.1)]
   exact Ev.pure
def Ji (c:Ab):Prop:=EI c.From=true/\EI c.To=true/\EI c.When=true
theorem Mq {e:Ag}{n:Int}(h:0<=FU e n)(hn:n<=1000000):EI e=true/\0<=n:=by
 unfold FU at h
 split at h
 . omega
 . exact⟨Qe e n h hn,by omega⟩
theorem SV {c:Ab}{n:Int}(h:0<=EM c n)(hn:n<=1000):Ji c/\0<=n:=by
 unfold EM at h
 have g2:=GJ c.From n
 have g4:=GJ c.To (FU c.From n)
 obtain⟨a1,a2⟩:=Mq h (by omega)
 obtain⟨b1,b2⟩:=Mq a2 (by omega)
 obtain⟨c1,c2⟩:=Mq b2 (by omega)
 exact⟨⟨c1,b1,a1⟩,c2⟩
theorem Qw:∀ (l:List Ab) (n:Int),0<=Ls l n->n<=1000->∀ c∈l,Ji c
 | [],_,_,_,c,hc=>by simp at hc
 |x::l,n,h,hn,c,hc=>by
  rw [Ls] at h
  split at h
  . omega
  . have g:=M8 x n
    have g2:=Uv l (EM x n)
    rcases List.mem_cons.1 hc with rfl|hc
    . exact (SV (by omega) hn).1
    . exact Qw l _ h (by omega) c hc
end Go.Sp
namespace Go.Sp
open Go
set_option maxRecDepth 100000
theorem Za {e:Ag}(h:EI e=true):IX e=some (B5 e):=by unfold IX;rw [Ç h]
end Go.Sp
namespace Go.Sp
open Go
def Hu (c:Int):Bool:=decide ((97<=c/\c<=122)∨(65<=c/\c<=90)∨c=95)
def GV (c:Int):Bool:=decide (48<=c/\c<=57)
def MA (s:Ä):List Int:=s.data.toList.map fun b=>(b.toNat:Int)
def Nc (s:Ä):Bool:=decide (1<=s.size/\s.size<=32)&&(MA s).all (fun c=>Hu c||GV c)&&!GV ((MA s).getD 0 0)
theorem QB (s:Ä):(MA s).length=s.size:=by
 unfold MA
 rw [Í];rfl
theorem Ael {s:Ä}{k:Nat}{x:Int}{r:List Int}(h:(MA s).drop k=x::r):gb s (k:Int)=some x:=by
 obtain⟨_,h2⟩:=Ge h
 rw [QB] at h2
 unfold gb
 rw [Ç (by omega)]
 have h3:=Pc h
 unfold gi at h3
 rw [Ç (by omega)] at h3
 unfold MA at h3
 rw [å] at h3
 rw [Int.toNat_natCast] at h3 ⊢
 cases e:s.data.toList[k]? with
 |none=>rw [e] at h3;cases h3
 |some b =>
  rw [e] at h3
  rw [List.getD_eq_getElem?_getD,e]
  exact h3
theorem V2 (c:Int):D0 c=some (!(Hu c||GV c)):=by
 unfold D0 Hu GV
 by_cases h1:97<=c<;>by_cases h2:c<=122<;>by_cases h3:65<=c<;>by_cases h4:c<=90<;>by_cases h5:c=95<;>by_cases h6:48<=c<;>by_cases h7:c<=57<;>(have h5b:=h5;rw [<- þ (a:=c) (b:=95)] at h5b;simp [h1,h2,h3,h4,h5,h6,h7,h5b])
theorem RC (l:List Int)(hl:l.length<=1000000):∀ (r:List Int) (k:Nat),l.drop k=r->k<=l.length->∃ v,Ev (fun n=>AN n l (k:Int)) v/\(match v with|.inl _=>r.all (fun c=>Hu c||GV c)=true|.inr i=>0<=i/\r.all (fun c=>Hu c||GV c)=false)
 | [],k,hr,hk=>by
  have he:=J8 hr hk
  refine⟨.inl (),Ev.step (f:=fun _=>some (.inl ())) (fun n=>?_) Ev.pure,rfl⟩
  rw [El,show (decide ((k:Int)<(l.length:Int)))=false by rw [Ù];omega];rfl
 |x::r,k,hr,hk=>by
  obtain⟨h1,h2⟩:=Ge hr
  have e:∀ n,AN (n+1) l (k:Int)=bif !(Hu x||GV x) then some (.inr (k:Int)) else AN n l ((k+1:Nat):Int):=fun n=>by
   rw [El,Pb h2,Ï,Pc hr,Á,V2,Á,Nz (by omega)]
  cases hx:(Hu x||GV x) with
  |false =>
   refine⟨.inr (k:Int),Ev.step e ?_,by omega,by rw [Č,hx];rfl⟩
   rw [hx];exact Ev.pure
  |true =>
   obtain⟨v,k1,k2⟩:=RC l hl r (k+1) h1 (by omega)
   refine⟨v,Ev.step e ?_,?_⟩
   . rw [hx];exact k1
   . cases v with
     |inl _=>simp only at k2 ⊢;rw [Č,hx,k2];rfl
     |inr i=>simp only at k2 ⊢;rw [Č,hx,k2.2];exact⟨k2.1,rfl⟩
theorem U6 (l:List Int)(hl:l.length<=1000000):Ev (fun n=>Ce n l) (!(l.all fun c=>Hu c||GV c)):=by
 obtain⟨v,h1,h2⟩:=RC l hl l 0 rfl (ü _)
 unfold Ce Dd
 cases v with
 |inl _ =>
  have h2:l.all (fun c=>Hu c||GV c)=true:=h2
  rw [h2]
  exact Ev.bind (Ev.bind h1 Ev.pure) Ev.pure
 |inr i =>
  have h2:0<=i/\l.all (fun c=>Hu c||GV c)=false:=h2
  rw [h2.2]
  refine Ev.bind (Ev.bind h1 Ev.pure) ?_
  rw [Ì h2.1];exact Ev.pure
theorem X5 (s:Ä):Ev (fun n=>Ey n s) (Nc s):=by
 unfold Ey Nc
 by_cases h0:s.size=0
 . have:s=⟨#[]⟩:=by
    cases s with
    |mk d=>congr 1;exact ĥ h0
   rw [Ì this,Ë (show ¬ (1<=s.size/\s.size<=32) by omega)]
   exact Ev.pure
 have hne:¬ s=⟨#[]⟩:=fun e=>h0 (by rw [e];rfl)
 rw [Ë hne]
 simp only [Ð]
 by_cases h32:s.size<=32
 . rw [Ë (show ¬ (32:Int)<(s.size:Int) by omega),Ì (show 1<=s.size/\s.size<=32 by omega)]
   simp only [Ð]
   have hl:=QB s
   cases hb:MA s with
   |nil=>rw [hb] at hl;simp at hl;omega
   |cons x r =>
    have hg:gb s 0=some x:=Ael (k:=0) hb
    have hd:(bif (decide (48<=x)) then some (decide (x<=57)) else some false:Option Bool)=some (GV x):=by
     unfold GV
     by_cases a1:48<=x
     . rw [Ì a1,Ï];congr 1;rw [decide_eq_decide];omega
     . rw [Ë a1,Ð];congr 1;symm;rw [Ù];omega
    simp only [hg,Á,hd]
    have hgb:Qp s=some (x::r):=by
     unfold Qp
     rw [Ç (by omega)]
     exact Ĝ some hb
    simp only [List.getD_cons_zero,Bool.true_and]
    cases hx:GV x with
    |true=>simp only [Ï,Ĕ,Bool.and_false];exact Ev.pure
    |false =>
     simp only [Ð,hgb,Á,Bool.not_false,ī]
     refine Ev.bind (U6 (x::r) (by rw [<- hb,hl];omega)) ?_
     rw [Bool.not_not]
     exact Ev.pure
 . rw [Ì (show (32:Int)<(s.size:Int) by omega),Ë (show ¬ (1<=s.size/\s.size<=32) by omega)]
   exact Ev.pure
end Go.Sp
namespace Go.Sp
open Go
def I8 (l:List Ab)(s:Ä):Bool:=l.any fun c=>decide (c.Name=s)
section
variable (c:Ä) (c1 c2 c3 c4 c5:Int) (c6:Ä) (c7:List Ag) (c8 c9 c10:Int) (c11:Ä) (c12:List Ag) (c13 c14 c15:Int) (c16:Ä) (c17:List Ag) (c18 c19:Int)
theorem Qk (l:List Ab)(hl:l.length<=1000000):∀ (r:List Ab) (k:Nat),l.drop k=r->k<=l.length ->
 ∃ v,Ev (fun n=>AH n l c c1 c2 c3 c4 c5 c6 c7 c8 c9 c10 c11 c12 c13 c14 c15 c16 c17 c18 c19 (k:Int)) v/\(match v with|.inl _=>I8 r c=false|.inr i=>0<=i/\I8 r c=true)
 | [],k,hr,hk=>by
  have he:=J8 hr hk
  refine⟨.inl (),Ev.step (f:=fun _=>some (.inl ())) (fun n=>?_) Ev.pure,rfl⟩
  rw [DI,show (decide ((k:Int)<(l.length:Int)))=false by rw [Ù];omega];rfl
 |x::r,k,hr,hk=>by
  obtain⟨h1,h2⟩:=Ge hr
  have e:∀ n,AH (n+1) l c c1 c2 c3 c4 c5 c6 c7 c8 c9 c10 c11 c12 c13 c14 c15 c16 c17 c18 c19 (k:Int)=bif decide (x.Name=c) then some (.inr (k:Int)) else AH n l c c1 c2 c3 c4 c5 c6 c7 c8 c9 c10 c11 c12 c13 c14 c15 c16 c17 c18 c19 ((k+1:Nat):Int):=fun n=>by
   rw [DI,Pb h2,Ï,Pc hr,Á]
   unfold D8
   rw [Á,Nz (by omega)]
  have hc:I8 (x::r) c=(decide (x.Name=c)||I8 r c):=by unfold I8;rw [List.any_cons]
  rw [hc]
  cases hx:(decide (x.Name=c)) with
  |true =>
   refine⟨.inr (k:Int),Ev.step e ?_,by omega,rfl⟩
   rw [hx];exact Ev.pure
  |false =>
   obtain⟨v,k1,k2⟩:=Qk l hl r (k+1) h1 (by omega)
   refine⟨v,Ev.step e ?_,?_⟩
   . rw [hx];exact k1
   . rw [Bool.false_or];exact k2
theorem SU (l:List Ab)(hl:l.length<=1000000):Ev (fun n=>Bw n c c1 c2 c3 c4 c5 c6 c7 c8 c9 c10 c11 c12 c13 c14 c15 c16 c17 c18 c19 l) (I8 l c):=by
 obtain⟨v,h1,h2⟩:=Qk c c1 c2 c3 c4 c5 c6 c7 c8 c9 c10 c11 c12 c13 c14 c15 c16 c17 c18 c19 l hl l 0 rfl (ü _)
 unfold Bw CB
 cases v with
 |inl _ =>
  have h2:I8 l c=false:=h2
  rw [h2]
  exact Ev.bind (Ev.bind h1 Ev.pure) Ev.pure
 |inr i =>
  have h2:0<=i/\I8 l c=true:=h2
  rw [h2.2]
  refine Ev.bind (Ev.bind h1 Ev.pure) ?_
  rw [Ì h2.1];exact Ev.pure
end
end Go.Sp
namespace Go.Sp
open Go
set_option maxRecDepth 100000
def I6 (x:Ab):Bool:=decide (x.Rank<0∨9<x.Rank∨x.Known<0∨41666<x.Known∨(x.Kind<3/\x.Houses≠0)∨(x.Kind=3/\(x.Houses<1∨4095<x.Houses)))
def EO (e:Ag)(t:Int):Int:=if (B5 e).2.2.E≠0 then (B5 e).2.2.E else if (B5 e).1≠t then 7 else 0
def Gn (x:Ab):Int:=if EO x.From 2≠0 then EO x.From 2 else if EO x.To 2≠0 then EO x.To 2 else EO x.When 3
def CO (l:List Ab)(x:Ab):Int :=
 if Nc x.Name=false then 6 else if I8 l x.Name=true then 9 else if x.Kind<1∨3<x.Kind then 1 else if I6 x=true then 3 else Gn x
theorem Vk (x:Ab)(hk:1<=x.Kind/\x.Kind<=3):((bif (decide (x.Rank<0)) then
 some true
 else
  bif (decide (9<x.Rank)) then
   some true
  else
   bif (decide (x.Known<0)) then
    some true
   else
    bif (decide (41666<x.Known)) then
     some true
    else
     bif (!(x.Kind == 3)) then
      bif (x.Houses != 0) then
       some true
      else
       bif (x.Kind == 3) then
        bif (decide (x.Houses<1)) then
         some true
        else
         some (decide (4096<=x.Houses))
       else
        some false
     else
      bif (x.Kind == 3) then
       bif (decide (x.Houses<1)) then
        some true
       else
        some (decide (4096<=x.Houses))
      else
       some false
 ):Option Bool)=some (I6 x):=by
 unfold I6
 by_cases h1:x.Rank<0
 . simp [h1]
 by_cases h2:9<x.Rank
 . simp [h1,h2]
 by_cases h3:x.Known<0
 . simp [h1,h2,h3]
 by_cases h4:41666<x.Known
 . simp [h1,h2,h3,h4]
 by_cases h5:x.Kind=3
 . by_cases h6:x.Houses<1
   . simp [h1,h2,h3,h4,h5,h6]
   . have:(4096<=x.Houses)↔(4095<x.Houses):=by omega
     simp [h1,h2,h3,h4,h5,h6,this]
 . have h7:x.Kind<3:=by omega
   have b:(x.Kind == 3)=false:=by simpa using h5
   by_cases h6:x.Houses=0
   . simp [h1,h2,h3,h4,h5,h6,h7,b]
   . have b2:(x.Houses != 0)=true:=by simpa using h6
     simp [h1,h2,h3,h4,h5,h6,h7,b,b2]
theorem N5 {n:Nat}{e:Ag}{t:Int}(hs:EI e=true)(r:Option (Unit ⊕ Int)):((IX e).bind fun f=>bif (f.2.2.E != 0) then some (.inr f.2.2.E) else bif (f.1 != t) then some (.inr 7) else r)=if EO e t≠0 then some (.inr (EO e t)) else r:=by
 rw [Za hs,Á]
 unfold EO
 by_cases c:(B5 e).2.2.E=0
 . rw [show ((B5 e).2.2.E != 0)=false by simpa using c,Ð,Å (show ¬ (B5 e).2.2.E≠0 by simpa using c)]
   by_cases c2:(B5 e).1=t
   . rw [show ((B5 e).1 != t)=false by simpa using c2,Å (show ¬ (B5 e).1≠t by simpa using c2)];rfl
   . rw [show ((B5 e).1 != t)=true by simpa using c2,Ç c2];rfl
 . rw [show ((B5 e).2.2.E != 0)=true by simpa using c,Ç (show (B5 e).2.2.E≠0 from c),Ç (show (B5 e).2.2.E≠0 from c)];rfl
theorem US (x:Ab)(hs:Ji x)(n:Nat):AA (n+4) x 0=if Gn x=0 then some (.inl ()) else some (.inr (Gn x)):=by
 obtain⟨s1,s2,s3⟩:=hs
 have e3:AA (n+1) x 3=some (.inl ()):=by rw [DF];rfl
 have e2:AA (n+2) x 2=if EO x.When 3≠0 then some (.inr (EO x.When 3)) else some (.inl ()):=by
  rw [DF,<- e3,<- N5 (n:=n) (t:=3) s3];rfl
 have e1:AA (n+3) x 1=if EO x.To 2≠0 then some (.inr (EO x.To 2)) else AA (n+2) x 2:=by
  rw [DF,<- N5 (n:=n) (t:=2) s2];rfl
 have e0:AA (n+4) x 0=if EO x.From 2≠0 then some (.inr (EO x.From 2)) else AA (n+3) x 1:=by
  rw [DF,<- N5 (n:=n) (t:=2) s1];rfl
 rw [e0,e1,e2]
 unfold Gn
 by_cases a:EO x.From 2=0
 . by_cases b:EO x.To 2=0
   . by_cases c:EO x.When 3=0
     . simp [a,b,c]
     . simp [a,b,c]
   . simp [a,b]
 . simp [a]
end Go.Sp
namespace Go.Sp
open Go
set_option maxRecDepth 100000
def FQ (l:List Ab):List Ab->Nat->Int
 | [],_=>0
 |x::r,k=>if CO (l.take k) x≠0 then CO (l.take k) x else FQ l r (k+1)
def EN (l:List Ab):Int:=if 40<l.length then 2 else FQ l l 0
def Yx (e:Int):Unit ⊕ Int:=if e=0 then .inl () else .inr e
theorem Ae6 {l:List Ab}{k:Nat}(h:k<=l.length):YK l 0 (k:Int)=some (l.take k):=by
 unfold YK
 rw [Ç (by omega)];simp
theorem X2 (x:Ab):((bif (decide (x.Kind<1)) then some true else some (decide (3<x.Kind))):Option Bool)=some (decide (x.Kind<1∨3<x.Kind)):=by
 by_cases h:x.Kind<1
 . simp [h]
 . simp [h]
theorem Aew {e:Int}:(if e=0 then (.inl ():Unit ⊕ Int) else .inr e)=Yx e:=rfl
theorem TJ (l:List Ab)(hl:l.length<=40)(hs:∀ c∈l,Ji c):∀ (r:List Ab) (k:Nat),l.drop k=r->k<=l.length->Ev (fun n=>Cz n l (k:Int)) (Yx (FQ l r k))
 | [],k,hr,hk=>by
  have he:=J8 hr hk
  refine Ev.step (f:=fun _=>some (.inl ())) (fun n=>?_) Ev.pure
  rw [Ha,show (decide ((k:Int)<(l.length:Int)))=false by rw [Ù];omega];rfl
 |x::r,k,hr,hk=>by
  obtain⟨h1,h2⟩:=Ge hr
  have hmem:x∈l:=æ (by rw [hr];simp)
  have ih:=TJ l hl hs r (k+1) h1 (by omega)
  refine Ev.step (fun n=>Ha n l (k:Int)) ?_
  simp only [Pb h2,Ï,Pc hr,Á,Ae6 hk,X2,Nz (show k<4611686018427387904 by omega)]
  rw [FQ]
  refine Ev.bind (X5 x.Name) ?_
  cases hn:Nc x.Name with
  |false =>
   have:CO (l.take k) x=6:=by unfold CO;rw [Ç hn]
   rw [this,Ç (by decide)]
   exact Ev.pure
  |true =>
   simp only [Ĕ,Ð]
   refine Ev.bind (SU _ _ _ _ _ _ _ _ _ _ _ _ _ _ _ _ _ _ _ _ (l.take k) (by rw [List.length_take];omega)) ?_
   cases hm:I8 (l.take k) x.Name with
   |true =>
    have:CO (l.take k) x=9:=by unfold CO;rw [Å (by rw [hn];simp),Ç hm]
    rw [this,Ç (by decide)]
    exact Ev.pure
   |false =>
    simp only [Ð]
    by_cases hkd:x.Kind<1∨3<x.Kind
    . have:CO (l.take k) x=1:=by unfold CO;rw [Å (by rw [hn];simp),Å (by rw [hm];simp),Ç hkd]
      rw [this,Ç (by decide),Ì hkd]
      exact Ev.pure
    . rw [Ë hkd]
      simp only [Ð,Vk x (by omega),Á]
      cases hrg:I6 x with
      |true =>
       have:CO (l.take k) x=3:=by unfold CO;rw [Å (by rw [hn];simp),Å (by rw [hm];simp),Å hkd,Ç hrg]
       rw [this,Ç (by decide)]
       exact Ev.pure
      |false =>
       have hce:CO (l.take k) x=Gn x:=by unfold CO;rw [Å (by rw [hn];simp),Å (by rw [hm];simp),Å hkd,Å (by rw [hrg];simp)]
       rw [hce]
       simp only [Ð]
       have hw:∀ n,Eu x.Name x.Kind x.Rank x.Known x.From.Op x.From.N x.From.S x.From.Kids x.From.At x.To.Op x.To.N x.To.S x.To.Kids x.To.At x.When.Op x.When.N x.When.S x.When.Kids x.When.At x.Houses=some n:=fun n=>rfl
       simp only [hw (),Á]
       have ht:Ev (fun n=>AA n x 0) (if Gn x=0 then .inl () else .inr (Gn x)):=⟨4,fun n hn=>by
        obtain⟨m,rfl⟩:∃ m,n=m+4:=⟨n-4,by omega⟩
        show AA (m+4) x 0=_
        rw [US x (hs x hmem) m];split<;>rfl⟩
       refine Ev.bind ht ?_
       by_cases c:Gn x=0
       . rw [Ç c,Å (show ¬ Gn x≠0 by simpa using c)]
         exact ih
       . rw [Å c,Ç c]
         have:Yx (Gn x)=.inr (Gn x):=by unfold Yx;rw [Å c]
         rw [this]
         exact Ev.pure
theorem JB (l:List Ab)(hs:∀ c∈l,Ji c):Ev (fun n=>EX n l) (EN l):=by
 unfold EX EN
 by_cases h:40<l.length
 . rw [Ì (show (40:Int)<(l.length:Int) by omega),Ç h];exact Ev.pure
 . rw [Ë (show ¬ (40:Int)<(l.length:Int) by omega),Å h]
   simp only [Ð,Á]
   refine Ev.bind (TJ l (by omega) hs l 0 rfl (ü _)) ?_
   unfold Yx
   by_cases c:FQ l l 0=0
   . rw [Ç c,c];exact Ev.pure
   . rw [Å c];exact Ev.pure
end Go.Sp
namespace Go.Sp
open Go
structure RP {α:Type} (l l':List α) (a b:Nat):Prop where
 len:l'.length=l.length
 out:∀ i,i<a∨b<=i->l'[i]?=l[i]?
 inn:∀ i,a<=i->i<b->∃ k,a<=k/\k<b/\l'[i]?=l[k]?
 perm:l'.Perm l
section
variable {α:Type} {l l' l2:List α} {a b:Nat}
theorem RP.refl:RP l l a b:=⟨rfl,fun _ _=>rfl,fun i h1 h2=>⟨i,h1,h2,rfl⟩,.refl _⟩
theorem RP.trans (h:RP l l' a b)(k:RP l' l2 a b):RP l l2 a b:=by
 refine⟨k.len.trans h.len,fun i hi=>(k.out i hi).trans (h.out i hi),fun i h1 h2=>?_,k.perm.trans h.perm⟩
 obtain⟨j,h3,h4,h5⟩:=k.inn i h1 h2
 obtain⟨j2,h6,h7,h8⟩:=h.inn j h3 h4
 exact⟨j2,h6,h7,h5.trans h8⟩
theorem RP.mono {a' b':Nat}(h:RP l l' a b)(ha:a'<=a)(hb:b<=b'):RP l l' a' b':=by
 refine⟨h.len,fun i hi=>h.out i (by omega),fun i h1 h2=>?_,h.perm⟩
 by_cases hi:a<=i/\i<b
 . obtain⟨k,h3,h4,h5⟩:=h.inn i hi.1 hi.2
   exact⟨k,by omega,by omega,h5⟩
 . exact⟨i,h1,h2,h.out i (by omega)⟩
theorem swp_get {i j:Nat}(hi:i<l.length)(hj:j<l.length)(x:Nat):((l.set i l[j]).set j l[i])[x]?=if x=j then l[i]? else if x=i then l[j]? else l[x]?:=by
 rw [List.getElem?_set]
 by_cases h:x=j
 . subst h;simp [hi,hj]
 . rw [Å (fun e=>h e.symm),Å h,List.getElem?_set]
   by_cases h2:x=i
   . subst h2;simp [hi,hj]
   . rw [Å (fun e=>h2 e.symm),Å h2]
theorem Yh {i j:Nat}(hi:i<l.length)(hj:j<l.length):((l.set i l[j]).set j l[i]).Perm l:=by
 have h:=Array.swap_perm (xs:=l.toArray) (i:=i) (j:=j) (by simpa using hi) (by simpa using hj)
 have h2:=Array.perm_iff_toList_perm.1 h
 have e:(l.toArray.swap i j (by simpa using hi) (by simpa using hj)).toList=(l.set i l[j]).set j l[i]:=by simp [Array.swap]
 rw [e] at h2
 simpa using h2
theorem RP.swp {i j:Nat}(hi:i<l.length)(hj:j<l.length)(h1:a<=i/\i<b)(h2:a<=j/\j<b):RP l ((l.set i l[j]).set j l[i]) a b:=by
 refine⟨by simp,fun x hx=>?_,fun x h3 h4=>?_,Yh hi hj⟩
 . rw [swp_get hi hj,Å (by omega),Å (by omega)]
 . rw [swp_get hi hj]
   split
   . exact⟨i,h1.1,h1.2,rfl⟩
   . split
     . exact⟨j,h2.1,h2.2,rfl⟩
     . exact⟨x,h3,h4,rfl⟩
end
end Go.Sp
namespace Go.Sp
open Go Go.Vl
section
variable {α:Type}
theorem giN (l:List α)(i:Nat):gi l (i:Int)=l[i]?:=by unfold gi;rw [Ç (by omega)];rfl
theorem YL {l:List α}{i:Nat}(h:i<l.length)(x:α):H8 l (i:Int) x=some (l.set i x):=by unfold H8;rw [Ç (by omega)];rfl
theorem gxN {n i:Nat}(h:i<n):gx n (i:Int)=some ():=by unfold gx;rw [Ç (by omega)]
def swp (l:List α)(i j:Nat):List α:=match l[i]?,l[j]? with
 |some x,some y=>(l.set i y).set j x
 |_,_=>l
theorem UU {l:List α}{i j:Nat}(hi:i<l.length)(hj:j<l.length):swp l i j=(l.set i l[j]).set j l[i]:=by
 unfold swp;rw [Ã hi,Ã hj]
theorem Sb {l:List α}{i j:Nat}(hi:i<l.length)(hj:j<l.length)(x:Nat):(swp l i j)[x]?=if x=j then l[i]? else if x=i then l[j]? else l[x]?:=by
 rw [UU hi hj,swp_get hi hj]
theorem Sa {l:List α}{a b i j:Nat}(hi:i<l.length)(hj:j<l.length)(h1:a<=i/\i<b)(h2:a<=j/\j<b):RP l (swp l i j) a b:=by
 rw [UU hi hj];exact .swp hi hj h1 h2
theorem OX {β:Type}{l:List α}{i j n:Nat}{ii jj:Int}(hi:i<l.length)(hj:j<l.length)(hn:l.length<=n)(ei:ii=i)(ej:jj=j)(k:List α->Option β) :
 ((gx n jj).bind fun _=>(gi l jj).bind fun x=>(gx n ii).bind fun _=>(gi l ii).bind fun x1=>(H8 l ii x).bind fun d=>(H8 d jj x1).bind k)=k (swp l i j):=by
 subst ei;subst ej
 rw [gxN (by omega),giN,giN,Ã hi,Ã hj,gxN (by omega)]
 simp only [Á]
 rw [YL hi]
 simp only [Á]
 rw [YL (by simpa using hj)]
 rw [UU hi hj];rfl
end
section
variable (cv:List Ab)
def rk (x:Ac):Int:=match gi cv x.clause with
 |some c=>c.Rank
 |none=>0
def GC (l:List Ac)(i:Nat):Int:=match l[i]? with
 |some x=>rk cv x
 |none=>0
def okC (x:Ac):Prop:=∃ c,gi cv x.clause=some c/\0<=c.Rank/\c.Rank<=9
def Ra (l:List Ac):Prop:=∀ x∈l,okC cv x
def SR (l:List Ac)(a b:Nat):Prop:=∀ i j,a<=i->i<j->j<b->GC cv l j<=GC cv l i
end
variable {cv:List Ab}
theorem Ra.rp {l l':List Ac}{a b:Nat}(h:Ra cv l)(r:RP l l' a b):Ra cv l':=fun x hx=>h x (r.perm.mem_iff.1 hx)
theorem Jl {l l':List Ac}{i j:Nat}(h:l'[i]?=l[j]?):GC cv l' i=GC cv l j:=by unfold GC;rw [h]
theorem Adi {x y:Ac}(hx:okC cv x)(hy:okC cv y):Cd cv x y=some (rk cv y-rk cv x):=by
 obtain⟨c,h1,h2,h3⟩:=hx
 obtain⟨e,h4,h5,h6⟩:=hy
 unfold Cd rk
 rw [h1,h4]
 simp only [Á]
 rw [CW (by omega) (by omega)]
theorem Pj {β:Type}{l:List Ac}{i j n:Nat}{ii jj:Int}(ok:Ra cv l)(hi:i<l.length)(hj:j<l.length)(hn:l.length<=n)(ei:ii=i)(ej:jj=j)(k:Int->Option β) :
 ((gx n ii).bind fun _=>(gi l ii).bind fun x=>(gx n jj).bind fun _=>(gi l jj).bind fun y=>(Cd cv x y).bind k)=k (GC cv l j-GC cv l i):=by
 subst ei;subst ej
 rw [gxN (by omega),giN,giN,Ã hi,Ã hj,gxN (by omega)]
 simp only [Á]
 rw [Adi (ok _ (Ú hi)) (ok _ (Ú hj))]
 unfold GC
 rw [Ã hi,Ã hj];rfl
theorem wN {x:Int}{k:Nat}(h:x=k)(hk:k<1000000):À x=k:=by rw [CW (by omega) (by omega),h]
theorem Aaz {x:Int}{i j:Nat}(h:x=(i:Int)+j)(hk:i+j<1000000):(À ((IntKind.u64.wrap (À x)).fdiv (2 ^ min (1:Int).toNat IntKind.u64.bits)))=(((i+j) / 2:Nat):Int):=by
 have e1:À x=((i+j:Nat):Int):=wN (by omega) hk
 have e2:IntKind.u64.wrap ((i+j:Nat):Int)=((i+j:Nat):Int):=by
  simp only [IntKind.wrap,IntKind.bits,IntKind.signed]
  simp
  omega
 rw [e1,e2]
 have e3:(2 ^ min (1:Int).toNat IntKind.u64.bits:Int)=2:=rfl
 rw [e3]
 have e4:(((i+j:Nat):Int)).fdiv 2=(((i+j) / 2:Nat):Int):=by
  rw [Int.fdiv_eq_ediv_of_nonneg _ (by decide)];omega
 rw [e4]
 exact wN rfl (by omega)
theorem Aeh {N a J:Nat}(hJN:J<100000):∀ (j:Nat) (l:List Ac),l.length<=N->Ra cv l->a<=j->j<=J->J<l.length ->
 (∀ i k,a<=i->i<k->k<=J->i≠j->k≠j->GC cv l k<=GC cv l i)->(∀ k,j<k->k<=J->GC cv l k<=GC cv l j) ->
 ∃ l',RP l l' a (J+1)/\SR cv l' a (J+1)/\Ev (fun n=>Ax n (a:Int) N cv (j:Int) l) l':=by
 intro j
 induction j with
 |zero =>
  intro l hN ok ha hj hJ h1 h2
  refine⟨l,.refl,fun i k h3 h4 h5=>?_,.step (fun n=>BI n a N cv _ l) ?_⟩
  . by_cases hi:i=0
    . subst hi;exact h2 k h4 (by omega)
    . exact h1 i k h3 h4 (by omega) hi (by omega)
  . refine .of fun n=>?_
    have:decide ((a:Int)<((0:Nat):Int))=false:=by simp
    rw [this];rfl
 |succ j ih =>
  intro l hN ok ha hj hJ h1 h2
  have w1:À (((j+1:Nat):Int)-1)=(j:Int):=wN (by omega) (by omega)
  by_cases haj:a=j+1
  . refine⟨l,.refl,fun i k h3 h4 h5=>?_,.step (fun n=>BI n a N cv _ l) ?_⟩
    . by_cases hi:i=j+1
      . subst hi;exact h2 k h4 (by omega)
      . exact h1 i k h3 h4 (by omega) hi (by omega)
    . refine .of fun n=>?_
      have:decide ((a:Int)<((j+1:Nat):Int))=false:=by simp;omega
      rw [this];rfl
  have hlt:decide ((a:Int)<((j+1:Nat):Int))=true:=by simp;omega
  have e:∀ n,Ax (n+1) (a:Int) N cv ((j+1:Nat):Int) l=if GC cv l j-GC cv l (j+1)<0 then Ax n (a:Int) N cv (j:Int) (swp l (j+1) j) else some l:=by
   intro n
   rw [BI,hlt]
   simp only [Ï]
   rw [Pj (i:=j+1) (j:=j) ok (by omega) (by omega) hN rfl w1]
   simp only [Á]
   by_cases hc:GC cv l j-GC cv l (j+1)<0
   . rw [Ç hc,Ì hc]
     simp only [Ï]
     rw [OX (i:=j+1) (j:=j) (by omega) (by omega) hN rfl w1,w1]
   . rw [Å hc,Ë hc];rfl
  by_cases hc:GC cv l j-GC cv l (j+1)<0
  . have r1:RP l (swp l (j+1) j) a (J+1):=Sa (by omega) (by omega) ⟨by omega,by omega⟩ ⟨by omega,by omega⟩
    have g:∀ x,GC cv (swp l (j+1) j) x=if x=j then GC cv l (j+1) else if x=j+1 then GC cv l j else GC cv l x:=by
     intro x
     have:=Sb (l:=l) (i:=j+1) (j:=j) (by omega) (by omega) x
     split
     . rw [Ç (by assumption)] at this;exact Jl this
     . rw [Å (by assumption)] at this
       split
       . rw [Ç (by assumption)] at this;exact Jl this
       . rw [Å (by assumption)] at this;exact Jl this
    obtain⟨l',q1,q2,q3⟩:=ih (swp l (j+1) j) (by rw [r1.len];exact hN) (ok.rp r1) (by omega) (by omega) (by rw [r1.len];exact hJ) (by
     intro i k h3 h4 h5 h6 h7
     rw [g,g,Å h7,Å h6]
     by_cases hk:k=j+1
     . rw [Ç hk,Å (by omega)]
       exact h1 i j h3 (by omega) (by omega) (by omega) (by omega)
     . rw [Å hk]
       by_cases hi:i=j+1
       . rw [Ç hi];exact h1 j k (by omega) (by omega) h5 (by omega) hk
       . rw [Å hi];exact h1 i k h3 h4 h5 hi hk) (by
     intro k h3 h4
     rw [g,g,Å (by omega),Ç rfl]
     by_cases hk:k=j+1
     . rw [Ç hk];omega
     . rw [Å hk];exact h2 k (by omega) h4)
    refine⟨l',r1.trans q1,q2,.step e (q3.congr fun n=>by rw [Ç hc])⟩
  . refine⟨l,.refl,fun i k h3 h4 h5=>?_,.step e (.of fun n=>by rw [Å hc])⟩
    have hjj:GC cv l (j+1)<=GC cv l j:=by omega
    by_cases hi:i=j+1
    . subst hi;exact h2 k h4 (by omega)
    . by_cases hk:k=j+1
      . subst hk
        by_cases hij:i=j
        . subst hij;exact hjj
        . have:=h1 i j h3 (by omega) (by omega) hi (by omega);omega
      . exact h1 i k h3 h4 (by omega) hi hk
theorem Aei {N a b:Nat}(hb:b<100000):∀ (m i:Nat) (l:List Ac),b-i=m->l.length<=N->Ra cv l->a<i->b<=l.length->SR cv l a i ->
 ∃ l',RP l l' a b/\SR cv l' a b/\Ev (fun n=>A9 n (b:Int) (a:Int) N cv (i:Int) l) l':=by
 intro m
 induction m with
 |zero =>
  intro i l hm hN ok ha hbl hs
  refine⟨l,.refl,fun x y h1 h2 h3=>hs x y h1 h2 (by omega),.step (fun n=>C6 n b a N cv _ l) (.of fun n=>?_)⟩
  have:decide ((i:Int)<(b:Int))=false:=by simp;omega
  rw [this];rfl
 |succ m ih =>
  intro i l hm hN ok ha hbl hs
  obtain⟨l1,r1,s1,e1⟩:=Aeh (cv:=cv) (N:=N) (a:=a) (J:=i) (by omega) i l hN ok (by omega) (by omega) (by omega) (fun x y h1 h2 h3 h4 h5=>hs x y h1 h2 (by omega)) (fun k h1 h2=>by omega)
  obtain⟨l2,r2,s2,e2⟩:=ih (i+1) l1 (by omega) (by rw [r1.len];exact hN) (ok.rp r1) (by omega) (by rw [r1.len];exact hbl) s1
  refine⟨l2,(r1.mono (by omega) (by omega)).trans r2,s2,.step (fun n=>C6 n b a N cv _ l) ?_⟩
  have hlt:decide ((i:Int)<(b:Int))=true:=by simp;omega
  have w1:À ((i:Int)+1)=((i+1:Nat):Int):=wN (by omega) (by omega)
  refine Ev.congr (f:=_) (e1.bind e2) fun n=>?_
  rw [hlt,w1];rfl
theorem Qi {N a b:Nat}{l:List Ac}(hb:b<100000)(hab:a<100000)(hN:l.length<=N)(ok:Ra cv l)(hbl:b<=l.length) :
 ∃ l',RP l l' a b/\SR cv l' a b/\Ev (fun n=>A8 n cv N l (a:Int) (b:Int)) l':=by
 obtain⟨l',r,s,e⟩:=Aei (cv:=cv) (N:=N) (a:=a) (b:=b) hb (b-(a+1)) (a+1) l rfl hN ok (by omega) hbl (fun x y h1 h2 h3=>by omega)
 refine⟨l',r,s,(e.bind (g:=fun _=>some) .pure).congr fun n=>?_⟩
 unfold A8
 rw [wN (k:=a+1) (by omega) (by omega)]
def SwD (l l':List Ac)(a b c i:Nat):Prop:=∀ x,l'[x]?=if a+i<=x/\x<a+c then l[b+(x-a)]? else if b+i<=x/\x<b+c then l[a+(x-b)]? else l[x]?
theorem Adw {N a b c:Nat}(hab:a+c<=b)(hb:b+c<100000):∀ (m i:Nat) (l:List Ac),c-i=m->i<=c->l.length<=N->b+c<=l.length ->
 ∃ l',RP l l' a (b+c)/\SwD l l' a b c i/\Ev (fun n=>AI n (c:Int) N (b:Int) (a:Int) (i:Int) l) l':=by
 intro m
 induction m with
 |zero =>
  intro i l hm hi hN hl
  refine⟨l,.refl,fun x=>?_,.step (fun n=>CQ n c N b a _ l) (.of fun n=>?_)⟩
  . rw [Å (by omega),Å (by omega)]
  . have:decide ((i:Int)<(c:Int))=false:=by simp;omega
    rw [this];rfl
 |succ m ih =>
  intro i l hm hi hN hl
  have r1:RP l (swp l (a+i) (b+i)) a (b+c):=Sa (by omega) (by omega) ⟨by omega,by omega⟩ ⟨by omega,by omega⟩
  obtain⟨l2,r2,s2,e2⟩:=ih (i+1) (swp l (a+i) (b+i)) (by omega) (by omega) (by rw [r1.len];exact hN) (by rw [r1.len];exact hl)
  refine⟨l2,r1.trans r2,fun x=>?_,.step (fun n=>CQ n c N b a _ l) (e2.congr fun n=>?_)⟩
  . rw [s2 x]
    have g:=fun y=>Sb (l:=l) (i:=a+i) (j:=b+i) (by omega) (by omega) y
    by_cases h1:a+i<=x/\x<a+c
    . rw [Ç h1]
      by_cases h2:x=a+i
      . subst h2
        rw [Å (by omega),Å (by omega),g,Å (by omega),Ç rfl]
        congr 1;omega
      . rw [Ç (by omega),g,Å (by omega),Å (by omega)]
    . rw [Å h1,Å (by omega)]
      by_cases h2:b+i<=x/\x<b+c
      . rw [Ç h2]
        by_cases h3:x=b+i
        . subst h3
          rw [Å (by omega),g,Ç rfl];congr 1;omega
        . rw [Ç (by omega),g,Å (by omega),Å (by omega)]
      . rw [Å h2,Å (by omega),g,Å (by omega),Å (by omega)]
  . have hlt:decide ((i:Int)<(c:Int))=true:=by simp;omega
    have w1:À ((i:Int)+1)=((i+1:Nat):Int):=wN (by omega) (by omega)
    have w2:À ((b:Int)+i)=((b+i:Nat):Int):=wN (by omega) (by omega)
    have w3:À ((a:Int)+i)=((a+i:Nat):Int):=wN (by omega) (by omega)
    rw [hlt,w1,w2,w3]
    simp only [Ï]
    rw [OX (i:=a+i) (j:=b+i) (by omega) (by omega) hN rfl rfl]
theorem Sc {N a b c:Nat}{l:List Ac}{aa bb cc:Int}(ea:aa=a)(eb:bb=b)(ec:cc=c)(hab:a+c<=b)(hb:b+c<100000)(hN:l.length<=N)(hl:b+c<=l.length) :
 ∃ l',RP l l' a (b+c)/\SwD l l' a b c 0/\Ev (fun n=>AS n cv N l aa bb cc) l':=by
 subst ea;subst eb;subst ec
 obtain⟨l',r,s,e⟩:=Adw (N:=N) hab hb c 0 l rfl (by omega) hN hl
 exact⟨l',r,s,e.bind .pure⟩
end Go.Sp
namespace Go.Sp
open Go Go.Vl
variable {cv:List Ab}
def Th (l l':List Ac)(p m q:Nat):Prop:=∀ x,l'[x]?=if p<=x/\x<p+(q-m) then l[x+(m-p)]? else if p+(q-m)<=x/\x<q then l[x-(q-m)]? else l[x]?
theorem Aez {N m:Nat}:∀ (s i j:Nat) (l:List Ac),i+j<=s->0<i->0<j->i<=m->m+j<100000->m+j<=l.length->l.length<=N ->
 ∃ k l1,RP l l1 (m-i) (m+j)/\k<=i/\k<=j/\Ev (fun n=>A3 n cv N (m:Int) (i:Int) (j:Int) l) ((k:Int),l1)/\∀ l',SwD l1 l' (m-k) m k 0->Th l l' (m-i) m (m+j):=by
 intro s
 induction s with
 |zero=>intro i j l h1 h2;omega
 |succ s ih =>
  intro i j l hs hi hj him hb hl hN
  by_cases hij:i=j
  . subst hij
    refine⟨i,l,.refl,by omega,by omega,.step (fun n=>Cl n cv N m i i l) (.of fun n=>?_),fun l' h x=>?_⟩
    . have:((i:Int) != (i:Int))=false:=by simp
      rw [this];rfl
    . rw [h x]
      by_cases h1:m-i<=x/\x<m
      . rw [Ç (by omega),Ç (by omega)];congr 1;omega
      . by_cases h2:m<=x/\x<m+i
        . rw [Å (by omega),Ç (by omega),Å (by omega),Ç (by omega)];congr 1;omega
        . rw [Å (by omega),Å (by omega),Å (by omega),Å (by omega)]
  have hne:((i:Int) != (j:Int))=true:=by simp;omega
  have w1:À ((m:Int)-i)=((m-i:Nat):Int):=wN (by omega) (by omega)
  by_cases hlt:j<i
  . have w2:À ((i:Int)-j)=((i-j:Nat):Int):=wN (by omega) (by omega)
    obtain⟨l1,r1,s1,e1⟩:=Sc (cv:=cv) (N:=N) (a:=m-i) (b:=m) (c:=j) (l:=l) w1 rfl rfl (by omega) (by omega) hN hl
    obtain⟨k,l2,r2,k1,k2,e2,d2⟩:=ih (i-j) j l1 (by omega) (by omega) hj (by omega) hb (by rw [r1.len];exact hl) (by rw [r1.len];exact hN)
    refine⟨k,l2,r1.trans (r2.mono (by omega) (by omega)),by omega,k2,.step (fun n=>Cl n cv N m i j l) ?_,fun l' h x=>?_⟩
    . have hd:decide ((j:Int)<(i:Int))=true:=by simp;omega
      refine (e1.bind (g:=fun n d=>A3 n cv N (m:Int) ((i-j:Nat):Int) (j:Int) d) e2).congr fun n=>?_
      rw [hne,hd,w2];rfl
    . rw [d2 l' h x]
      by_cases h1:m-(i-j)<=x/\x<m-(i-j)+(m+j-m)
      . rw [Ç h1,s1,Å (by omega),Ç (by omega),Å (by omega),Ç (by omega)];congr 1;omega
      . rw [Å h1]
        by_cases h2:m-(i-j)+(m+j-m)<=x/\x<m+j
        . rw [Ç h2,s1,Å (by omega),Å (by omega),Å (by omega),Ç (by omega)]
        . rw [Å h2,s1]
          by_cases h3:m-i<=x/\x<m-i+j
          . rw [Ç (by omega),Ç (by omega)];congr 1;omega
          . rw [Å (by omega),Å (by omega),Å (by omega),Å (by omega)]
  . have w2:À ((j:Int)-i)=((j-i:Nat):Int):=wN (by omega) (by omega)
    have w3:À ((À ((m:Int)+j))-i)=((m+j-i:Nat):Int):=by
     have w4:À ((m:Int)+j)=((m+j:Nat):Int):=wN (by omega) (by omega)
     rw [w4];exact wN (by omega) (by omega)
    obtain⟨l1,r1,s1,e1⟩:=Sc (cv:=cv) (N:=N) (a:=m-i) (b:=m+j-i) (c:=i) (l:=l) w1 w3 rfl (by omega) (by omega) hN (by omega)
    obtain⟨k,l2,r2,k1,k2,e2,d2⟩:=ih i (j-i) l1 (by omega) hi (by omega) him (by omega) (by rw [r1.len];omega) (by rw [r1.len];exact hN)
    refine⟨k,l2,(r1.mono (by omega) (by omega)).trans (r2.mono (by omega) (by omega)),k1,by omega,.step (fun n=>Cl n cv N m i j l) ?_,fun l' h x=>?_⟩
    . have hd:decide ((j:Int)<(i:Int))=false:=by simp;omega
      refine (e1.bind (g:=fun n d=>A3 n cv N (m:Int) (i:Int) ((j-i:Nat):Int) d) e2).congr fun n=>?_
      rw [hne,hd,w2];rfl
    . rw [d2 l' h x]
      by_cases h1:m-i<=x/\x<m-i+(m+(j-i)-m)
      . rw [Ç h1,s1,Å (by omega),Å (by omega),Ç (by omega)]
      . rw [Å h1]
        by_cases h2:m-i+(m+(j-i)-m)<=x/\x<m+(j-i)
        . rw [Ç h2,s1,Ç (by omega),Ç (by omega)];congr 1;omega
        . rw [Å h2,s1,Å (by omega)]
          by_cases h3:m+j-i<=x/\x<m+j
          . rw [Ç (by omega),Å (by omega),Ç (by omega)];congr 1;omega
          . rw [Å (by omega),Å (by omega),Å (by omega)]
theorem Acb {N p m q:Nat}{l:List Ac}{pp qq:Int}(ep:pp=p)(eq:qq=q)(hp:p<m)(hq:m<q)(hb:q<100000)(hl:q<=l.length)(hN:l.length<=N) :
 ∃ l',RP l l' p q/\Th l l' p m q/\Ev (fun n=>Bp n cv N l pp (m:Int) qq) l':=by
 subst ep;subst eq
 obtain⟨k,l1,r1,k1,k2,e1,d1⟩:=Aez (cv:=cv) (N:=N) (m:=m) ((m-p)+(q-m)) (m-p) (q-m) l (by omega) (by omega) (by omega) (by omega) (by omega) (by omega) hN
 have w1:À ((m:Int)-p)=((m-p:Nat):Int):=wN (by omega) (by omega)
 have w2:À ((q:Int)-m)=((q-m:Nat):Int):=wN (by omega) (by omega)
 have w3:À ((m:Int)-k)=((m-k:Nat):Int):=wN (by omega) (by omega)
 have a1:m-(m-p)=p:=by omega
 have a2:m+(q-m)=q:=by omega
 rw [a1,a2] at r1 d1
 obtain⟨l2,r2,s2,e2⟩:=Sc (cv:=cv) (N:=N) (a:=m-k) (b:=m) (c:=k) (l:=l1) w3 rfl rfl (by omega) (by omega) (by rw [r1.len];exact hN) (by rw [r1.len];omega)
 refine⟨l2,r1.trans (r2.mono (by omega) (by omega)),d1 l2 s2,?_⟩
 unfold Bp
 rw [w1,w2]
 exact e1.bind (e2.bind .pure)
theorem half {F:Nat->Int->Int->Option Int}{T:Nat->Bool}{lo hi:Nat}(h:∀ n i j:Nat,lo<=i->i<j->j<=hi->F (n+1) (i:Int) (j:Int)=bif T ((i+j) / 2) then F n (((i+j) / 2+1:Nat):Int) (j:Int) else F n (i:Int) (((i+j) / 2:Nat):Int))
 (h0:∀ n i:Nat,F (n+1) (i:Int) (i:Int)=some (i:Int)):∀ (s i j:Nat),j-i<=s->lo<=i->i<=j->j<=hi->(i=lo∨T (i-1)=true)->(j=hi∨T j=false) ->
 ∃ r:Nat,lo<=r/\r<=hi/\(r=lo∨T (r-1)=true)/\(r=hi∨T r=false)/\Ev (fun n=>F n (i:Int) (j:Int)) (r:Int):=by
 intro s
 induction s with
 |zero =>
  intro i j hs h1 h2 h3 h4 h5
  have:i=j:=by omega
  subst this
  exact⟨i,h1,h3,h4,h5,.step (h0 · i) .pure⟩
 |succ s ih =>
  intro i j hs h1 h2 h3 h4 h5
  by_cases hij:i=j
  . subst hij
    exact⟨i,h1,h3,h4,h5,.step (h0 · i) .pure⟩
  by_cases ht:T ((i+j) / 2)=true
  . obtain⟨r,q1,q2,q3,q4,q5⟩:=ih ((i+j) / 2+1) j (by omega) (by omega) (by omega) h3 (.inr (by simpa using ht)) h5
    exact⟨r,q1,q2,q3,q4,.step (fun n=>h n i j h1 (by omega) h3) (q5.congr fun n=>by rw [ht];rfl)⟩
  . have ht':T ((i+j) / 2)=false:=by simpa using ht
    obtain⟨r,q1,q2,q3,q4,q5⟩:=ih i ((i+j) / 2) (by omega) h1 (by omega) (by omega) h4 (.inr ht')
    exact⟨r,q1,q2,q3,q4,.step (fun n=>h n i j h1 (by omega) h3) (q5.congr fun n=>by rw [ht'];rfl)⟩
theorem mv1 {N i:Nat}(hi:i<100000):∀ (s k:Nat) (l:List Ac),i-k=s->k<i->i<=l.length->l.length<=N ->
 ∃ l',RP l l' k i/\Th l l' k (k+1) i/\Ev (fun n=>AF n (i:Int) N (k:Int) l) l':=by
 intro s
 induction s with
 |zero=>intro k l h1 h2;omega
 |succ s ih =>
  intro k l hs hk hl hN
  have w1:À ((i:Int)-1)=((i-1:Nat):Int):=wN (by omega) (by omega)
  by_cases hki:k+1=i
  . refine⟨l,.refl,fun x=>?_,.step (fun n=>Dc n i N k l) (.of fun n=>?_)⟩
    . rw [Å (by omega)]
      by_cases h:k+(i-(k+1))<=x/\x<i
      . rw [Ç h];congr 1;omega
      . rw [Å h]
    . have:decide ((k:Int)<((i-1:Nat):Int))=false:=by simp;omega
      rw [w1,this];rfl
  have w2:À ((k:Int)+1)=((k+1:Nat):Int):=wN (by omega) (by omega)
  have r1:RP l (swp l k (k+1)) k i:=Sa (by omega) (by omega) ⟨by omega,by omega⟩ ⟨by omega,by omega⟩
  obtain⟨l2,r2,s2,e2⟩:=ih (k+1) (swp l k (k+1)) (by omega) (by omega) (by rw [r1.len];exact hl) (by rw [r1.len];exact hN)
  refine⟨l2,r1.trans (r2.mono (by omega) (by omega)),fun x=>?_,.step (fun n=>Dc n i N k l) (e2.congr fun n=>?_)⟩
  . have g:=fun y=>Sb (l:=l) (i:=k) (j:=k+1) (by omega) (by omega) y
    rw [s2 x]
    by_cases h1:k+1<=x/\x<k+1+(i-(k+1+1))
    . rw [Ç h1,g,Å (by omega),Å (by omega),Ç (by omega)];congr 1;omega
    . rw [Å h1]
      by_cases h2:k+1+(i-(k+1+1))<=x/\x<i
      . rw [Ç h2,g,Ç (by omega),Å (by omega),Ç (by omega)];congr 1;omega
      . rw [Å h2,g]
        by_cases h3:x=k
        . rw [Å (by omega),Ç h3,Ç (by omega)];congr 1;omega
        . rw [Å (by omega),Å h3,Å (by omega),Å (by omega)]
  . have hlt:decide ((k:Int)<((i-1:Nat):Int))=true:=by simp;omega
    rw [w1,w2,hlt]
    simp only [Ï]
    rw [OX (i:=k) (j:=k+1) (by omega) (by omega) hN rfl rfl]
theorem mv3 {N i:Nat}:∀ (s m:Nat) (l:List Ac),m-i=s->m<100000->i<=m->m<l.length->l.length<=N ->
 ∃ l',RP l l' i (m+1)/\Th l l' i m (m+1)/\Ev (fun n=>AE n (i:Int) N (m:Int) l) l':=by
 intro s
 induction s with
 |zero =>
  intro m l hs hm him hl hN
  refine⟨l,.refl,fun x=>?_,.step (fun n=>Da n i N m l) (.of fun n=>?_)⟩
  . by_cases h:i<=x/\x<i+(m+1-m)
    . rw [Ç h];congr 1;omega
    . rw [Å h,Å (by omega)]
  . have:decide ((i:Int)<(m:Int))=false:=by simp;omega
    rw [this];rfl
 |succ s ih =>
  intro m l hs hm him hl hN
  have w2:À ((m:Int)-1)=((m-1:Nat):Int):=wN (by omega) (by omega)
  have r1:RP l (swp l m (m-1)) i (m+1):=Sa (by omega) (by omega) ⟨by omega,by omega⟩ ⟨by omega,by omega⟩
  obtain⟨l2,r2,s2,e2⟩:=ih (m-1) (swp l m (m-1)) (by omega) (by omega) (by omega) (by rw [r1.len];omega) (by rw [r1.len];exact hN)
  refine⟨l2,r1.trans (r2.mono (by omega) (by omega)),fun x=>?_,.step (fun n=>Da n i N m l) (e2.congr fun n=>?_)⟩
  . have g:=fun y=>Sb (l:=l) (i:=m) (j:=m-1) (by omega) (by omega) y
    rw [s2 x]
    by_cases h1:i<=x/\x<i+(m-1+1-(m-1))
    . rw [Ç h1,g,Ç (by omega),Ç (by omega)];congr 1;omega
    . rw [Å h1]
      by_cases h2:i+(m-1+1-(m-1))<=x/\x<m-1+1
      . rw [Ç h2,g,Å (by omega),Å (by omega),Å (by omega),Ç (by omega)];congr 1;omega
      . rw [Å h2,g,Å (by omega)]
        by_cases h3:x=m
        . rw [Ç h3,Å (by omega),Ç (by omega)];congr 1;omega
        . rw [Å h3,Å (by omega),Å (by omega)]
  . have hlt:decide ((i:Int)<(m:Int))=true:=by simp;omega
    rw [hlt,w2]
    simp only [Ï]
    rw [OX (i:=m) (j:=m-1) (by omega) (by omega) hN rfl rfl]
end Go.Sp
namespace Go.Sp
open Go Go.Vl
variable {cv:List Ab}
section
variable {l l':List Ac} {a b m:Nat}
theorem SR.join (h1:SR cv l a m)(h2:SR cv l m b)(h3:∀ i j,a<=i->i<m->m<=j->j<b->GC cv l j<=GC cv l i):SR cv l a b:=by
 intro i j hi hij hj
 by_cases c1:j<m
 . exact h1 i j hi hij c1
 . by_cases c2:m<=i
   . exact h2 i j c2 hij hj
   . exact h3 i j hi (by omega) (by omega) hj
theorem SR.le (h:SR cv l a b){i j:Nat}(h1:a<=i)(h2:i<=j)(h3:j<b):GC cv l j<=GC cv l i:=by
 by_cases c:i=j
 . subst c;omega
 . exact h i j h1 (by omega) h3
theorem SR.keep {x y:Nat}(h:SR cv l x y)(r:RP l l' a b)(hx:y<=a∨b<=x):SR cv l' x y:=by
 intro i j h1 h2 h3
 rw [Jl (r.out i (by omega)),Jl (r.out j (by omega))]
 exact h i j h1 h2 h3
end
theorem Th.rk {l l':List Ac}{p m q:Nat}(h:Th l l' p m q)(x:Nat):GC cv l' x=if p<=x/\x<p+(q-m) then GC cv l (x+(m-p)) else if p+(q-m)<=x/\x<q then GC cv l (x-(q-m)) else GC cv l x:=by
 have e:=h x
 split
 . rw [Ç (by assumption)] at e;exact Jl e
 . rw [Å (by assumption)] at e
   split
   . rw [Ç (by assumption)] at e;exact Jl e
   . rw [Å (by assumption)] at e;exact Jl e
theorem Th.parts {l l':List Ac}{a b p m q:Nat}(h:Th l l' p m q)(s1:SR cv l a m)(s2:SR cv l m b)(ap:a<=p)(pm:p<=m)(mq:m<=q)(qb:q<=b)
 (c1:a<p->q<b->GC cv l q<=GC cv l (p-1)) (c2:p<m->m<q->GC cv l p<=GC cv l (q-1)) :
 SR cv l' a p/\SR cv l' p (p+(q-m))/\SR cv l' (p+(q-m)) q/\SR cv l' q b/\(∀ i j,a<=i->i<p+(q-m)->p+(q-m)<=j->j<b->GC cv l' j<=GC cv l' i):=by
 have e:=h.rk (cv:=cv)
 refine⟨fun i j h1 h2 h3=>?_,fun i j h1 h2 h3=>?_,fun i j h1 h2 h3=>?_,fun i j h1 h2 h3=>?_,fun i j h1 h2 h3 h4=>?_⟩
 . rw [e,e,Å (by omega),Å (by omega),Å (by omega),Å (by omega)];exact s1 i j h1 h2 (by omega)
 . rw [e,e,Ç (by omega),Ç (by omega)];exact s2 _ _ (by omega) (by omega) (by omega)
 . rw [e,e,Å (by omega),Ç (by omega),Å (by omega),Ç (by omega)];exact s1 _ _ (by omega) (by omega) (by omega)
 . rw [e,e,Å (by omega),Å (by omega),Å (by omega),Å (by omega)];exact s2 i j (by omega) h2 h3
 . rw [e,e,Å (by omega)]
   by_cases ci:i<p
   . rw [Å (c:=p<=i/\i<p+(q-m)) (by omega),Å (c:=p+(q-m)<=i/\i<q) (by omega)]
     by_cases cj:j<q
     . rw [Ç (by omega)];exact s1.le h1 (by omega) (by omega)
     . rw [Å (by omega)]
       have x1:=s2.le (i:=q) (j:=j) mq (by omega) h4
       have x2:=s1.le (i:=i) (j:=p-1) h1 (by omega) (by omega)
       have x3:=c1 (by omega) (by omega)
       omega
   . rw [Ç (c:=p<=i/\i<p+(q-m)) (by omega)]
     by_cases cj:j<q
     . rw [Ç (by omega)]
       have x1:=s1.le (i:=p) (j:=j-(q-m)) ap (by omega) (by omega)
       have x2:=s2.le (i:=i+(m-p)) (j:=q-1) (by omega) (by omega) (by omega)
       have x3:=c2 (by omega) (by omega)
       omega
     . rw [Å (by omega)];exact s2.le (by omega) (by omega) h4
theorem Aeu {p q:Prop}[Decidable p][Decidable q]:(bif decide p then some (decide q) else some false)=some (decide (p/\q)):=by
 by_cases hp:p<;>by_cases hq:q<;>simp [hp,hq]
theorem Wo {N:Nat}:∀ (s a m b:Nat) (l:List Ac),b-a<=s->a<m->m<b->b<100000->b<=l.length->l.length<=N->Ra cv l->SR cv l a m->SR cv l m b ->
 ∃ l',RP l l' a b/\SR cv l' a b/\Ev (fun k=>Ak k cv N l (a:Int) (m:Int) (b:Int)) l':=by
 intro s
 induction s with
 |zero=>intro a m b l h1 h2 h3;omega
 |succ s ih =>
  intro a m b l hs ham hmb hb hl hN ok s1 s2
  have w1:À ((m:Int)-a)=((m-a:Nat):Int):=wN (by omega) (by omega)
  have w2:À ((b:Int)-m)=((b-m:Nat):Int):=wN (by omega) (by omega)
  by_cases c1:m=a+1
  . have h1:(((m-a:Nat):Int) == 1)=true:=by simp;omega
    obtain⟨r,q1,q2,q3,q4,q5⟩:=half (F:=fun n i j=>Aw n N l (a:Int) cv i j) (T:=fun h=>decide (GC cv l a-GC cv l h<0)) (lo:=m) (hi:=b) (by
     intro n i j h1 h2 h3
     show Aw (n+1) N l (a:Int) cv i j=_
     have hd:decide ((i:Int)<(j:Int))=true:=by simp;omega
     rw [Db,hd,Aaz (i:=i) (j:=j) rfl (by omega)]
     simp only [Ï]
     rw [Pj (i:=(i+j) / 2) (j:=a) ok (by omega) (by omega) hN rfl rfl,wN (k:=(i+j) / 2+1) (by omega) (by omega)]) (by
     intro n i
     show Aw (n+1) N l (a:Int) cv i i=_
     have hd:decide ((i:Int)<(i:Int))=false:=by simp
     rw [Db,hd];rfl) (b-m) m b (by omega) (by omega) (by omega) (by omega) (.inl rfl) (.inl rfl)
    obtain⟨l',r1,d1,e1⟩:=mv1 (N:=N) (i:=r) (by omega) (r-a) a l rfl (by omega) (by omega) hN
    have g:=d1.rk (cv:=cv)
    subst c1
    obtain⟨p1,p2,p3,p4,p5⟩:=d1.parts (cv:=cv) (a:=a) (b:=b) s1 s2 (by omega) (by omega) (by omega) (by omega) (fun h=>by omega) (fun h h'=>by
     rcases q3 with q3|q3
     . omega
     . have:=ą q3;omega)
    refine⟨l',r1.mono (by omega) (by omega),SR.join p2 (SR.join p3 p4 fun i j h1 h2 h3 h4=>?_) p5,.step (fun k=>Ct k cv N l a _ b) ?_⟩
    . rcases q4 with q4|q4
      . omega
      have q4:=of_decide_eq_false q4
      rw [g,g,Å (by omega),Å (by omega),Å (by omega),Ç (by omega)]
      have x:=s2.le (i:=r) (j:=j) (by omega) (by omega) h4
      have:i-(r-(a+1))=a:=by omega
      rw [this];omega
    . rw [w1,h1]
      exact q5.bind (e1.bind .pure)
  have h1:(((m-a:Nat):Int) == 1)=false:=by simp;omega
  by_cases c2:b=m+1
  . have h2:(((b-m:Nat):Int) == 1)=true:=by simp;omega
    obtain⟨r,q1,q2,q3,q4,q5⟩:=half (F:=fun n i j=>Av n N (m:Int) l cv i j) (T:=fun h=>!decide (GC cv l h-GC cv l m<0)) (lo:=a) (hi:=m) (by
     intro n i j h1 h2 h3
     show Av (n+1) N (m:Int) l cv i j=_
     have hd:decide ((i:Int)<(j:Int))=true:=by simp;omega
     rw [CZ,hd,Aaz (i:=i) (j:=j) rfl (by omega)]
     simp only [Ï]
     rw [Pj (i:=m) (j:=(i+j) / 2) ok (by omega) (by omega) hN rfl rfl,wN (k:=(i+j) / 2+1) (by omega) (by omega)]) (by
     intro n i
     show Av (n+1) N (m:Int) l cv i i=_
     have hd:decide ((i:Int)<(i:Int))=false:=by simp
     rw [CZ,hd];rfl) (m-a) a m (by omega) (by omega) (by omega) (by omega) (.inl rfl) (.inl rfl)
    obtain⟨l',r1,d1,e1⟩:=mv3 (N:=N) (i:=r) (m-r) m l rfl (by omega) (by omega) (by omega) hN
    have g:=d1.rk (cv:=cv)
    subst c2
    obtain⟨p1,p2,p3,p4,p5⟩:=d1.parts (cv:=cv) (a:=a) (b:=m+1) s1 s2 (by omega) (by omega) (by omega) (by omega) (fun h h'=>by omega) (fun h h'=>by
     rcases q4 with q4|q4
     . omega
     . have:=ą (by simpa using q4:decide (GC cv l r-GC cv l m<0)=true)
       have e:m+1-1=m:=by omega
       rw [e];omega)
    refine⟨l',r1.mono (by omega) (by omega),SR.join (SR.join p1 p2 fun i j h1 h2 h3 h4=>?_) p3 p5,.step (fun k=>Ct k cv N l a m _) ?_⟩
    . rcases q3 with q3|q3
      . omega
      have q3:=of_decide_eq_false (by simpa using q3:decide (GC cv l (r-1)-GC cv l m<0)=false)
      rw [g,g,Ç (by omega),Å (by omega),Å (by omega)]
      have x:=s1.le (i:=i) (j:=r-1) (by omega) (by omega) (by omega)
      have:j+(m-r)=m:=by omega
      rw [this];omega
    . rw [w1,h1,w2,h2]
      exact q5.bind (e1.bind .pure)
  have h2:(((b-m:Nat):Int) == 1)=false:=by simp;omega
  have wm:=Aaz (x:=(a:Int)+b) (i:=a) (j:=b) rfl (by omega)
  generalize hmid:(a+b) / 2=mid at wm
  have hm1:a<mid:=by omega
  have hm2:mid<b:=by omega
  have wn:À ((mid:Int)+m)=((mid+m:Nat):Int):=wN (by omega) (by omega)
  have key:∀ lo hi:Nat,a<=lo->lo<=hi->hi<=m->hi<=mid∨m<=mid->mid+m-b<=lo->(lo=a∨lo+b=mid+m)->(hi=m∨hi=mid) ->
   ∃ r:Nat,lo<=r/\r<=hi/\(r=lo∨GC cv l (mid+m-r)<=GC cv l (r-1))/\(r=hi∨GC cv l r<=GC cv l (mid+m-r-1))/\Ev (fun n=>Aq n N (a:Int) (b:Int) (m:Int) l cv (lo:Int) (hi:Int)) (r:Int):=by
   intro lo hi k1 k2 k3 k4 k5 k6 k7
   obtain⟨r,q1,q2,q3,q4,q5⟩:=half (F:=fun n i j=>Aq n N (a:Int) (b:Int) (m:Int) l cv i j) (T:=fun c=>!decide (GC cv l c-GC cv l (mid+m-1-c)<0)) (lo:=lo) (hi:=hi) (by
    intro n i j h1 h2 h3
    show Aq (n+1) N (a:Int) (b:Int) (m:Int) l cv i j=_
    have hd:decide ((i:Int)<(j:Int))=true:=by simp;omega
    rw [CY,hd,Aaz (i:=i) (j:=j) rfl (by omega),wm,wn]
    simp only [Ï]
    rw [wN (x:=((mid+m:Nat):Int)-1) (k:=mid+m-1) (by omega) (by omega),wN (x:=((mid+m-1:Nat):Int)-(((i+j) / 2:Nat):Int)) (k:=mid+m-1-(i+j) / 2) (by omega) (by omega)]
    rw [Pj (i:=mid+m-1-(i+j) / 2) (j:=(i+j) / 2) ok (by omega) (by omega) hN rfl rfl,wN (x:=(((i+j) / 2:Nat):Int)+1) (k:=(i+j) / 2+1) (by omega) (by omega)]) (by
    intro n i
    show Aq (n+1) N (a:Int) (b:Int) (m:Int) l cv i i=_
    have hd:decide ((i:Int)<(i:Int))=false:=by simp
    rw [CY,hd];rfl) (hi-lo) lo hi (by omega) (by omega) (by omega) (by omega) (.inl rfl) (.inl rfl)
   refine⟨r,q1,q2,?_,?_,q5⟩
   . by_cases c:r=lo
     . exact .inl c
     . rcases q3 with q3|q3
       . exact absurd q3 c
       . have x:=of_decide_eq_false (by simpa using q3:decide (GC cv l (r-1)-GC cv l (mid+m-1-(r-1))<0)=false)
         have e:mid+m-1-(r-1)=mid+m-r:=by omega
         rw [e] at x
         exact .inr (by omega)
   . rcases q4 with q4|q4
     . exact .inl q4
     . have x:=ą (by simpa using q4:decide (GC cv l r-GC cv l (mid+m-1-r)<0)=true)
       have e:mid+m-1-r=mid+m-r-1:=by omega
       rw [e] at x
       exact .inr (by omega)
  have key2:∃ lo hi r:Nat,(bif decide ((mid:Int)<(m:Int)) then some (À (((mid+m:Nat):Int)-(b:Int)),(mid:Int)) else some ((a:Int),(m:Int)))=some ((lo:Int),(hi:Int))/\a<=r/\r<=m/\r<=mid/\m<=mid+m-r/\mid+m-r<=b/\(a<r->mid+m-r<b->GC cv l (mid+m-r)<=GC cv l (r-1))/\(r<m->m<mid+m-r->GC cv l r<=GC cv l (mid+m-r-1))/\Ev (fun n=>Aq n N (a:Int) (b:Int) (m:Int) l cv (lo:Int) (hi:Int)) (r:Int):=by
   by_cases c:mid<m
   . obtain⟨r,q1,q2,q3,q4,q5⟩:=key (mid+m-b) mid (by omega) (by omega) (by omega) (by omega) (by omega) (by omega) (by omega)
     refine⟨mid+m-b,mid,r,?_,by omega,by omega,by omega,by omega,by omega,fun h h'=>q3.elim (fun h=>by omega) id,fun h h'=>q4.elim (fun h=>by omega) id,q5⟩
     rw [Ì (by omega),wN (k:=mid+m-b) (by omega) (by omega)];rfl
   . obtain⟨r,q1,q2,q3,q4,q5⟩:=key a m (by omega) (by omega) (by omega) (by omega) (by omega) (by omega) (by omega)
     refine⟨a,m,r,?_,by omega,by omega,by omega,by omega,by omega,fun h h'=>q3.elim (fun h=>by omega) id,fun h h'=>q4.elim (fun h=>by omega) id,q5⟩
     rw [Ë (by omega)];rfl
  obtain⟨lo,hi,r,f1,f2,f3,f4,f5,f6,f7,f8,f9⟩:=key2
  have wq:À (((mid+m:Nat):Int)-(r:Int))=((mid+m-r:Nat):Int):=wN (by omega) (by omega)
  have emid:r+(mid+m-r-m)=mid:=by omega
  generalize hq:mid+m-r=q at *
  -- the rotation
  have rot:∃ l1,RP l l1 r q/\Th l l1 r m q/\Ev (fun n=>bif decide (r<m/\m<q) then (Bp n cv N l (r:Int) (m:Int) (q:Int)).bind fun d=>some d else some l) l1:=by
   by_cases c:r<m/\m<q
   . obtain⟨l1,r1,d1,e1⟩:=Acb (cv:=cv) (N:=N) (p:=r) (m:=m) (q:=q) (l:=l) rfl rfl c.1 c.2 (by omega) (by omega) hN
     refine⟨l1,r1,d1,?_⟩
     rw [Ì c]
     exact e1.bind .pure
   . refine⟨l,.refl,fun x=>?_,?_⟩
     . by_cases c3:r=m
       . subst c3
         by_cases h:r<=x/\x<r+(q-r)
         . rw [Ç h];congr 1;omega
         . rw [Å h,Å (by omega)]
       . rw [Å (by omega)]
         by_cases h:r+(q-m)<=x/\x<q
         . rw [Ç h];congr 1;omega
         . rw [Å h]
     . rw [Ë c];exact .pure
  obtain⟨l1,r1,d1,e1⟩:=rot
  obtain⟨p1,p2,p3,p4,p5⟩:=d1.parts (cv:=cv) (a:=a) (b:=b) s1 s2 f2 f3 f5 f6 f7 f8
  rw [emid] at p2 p3 p5
  have ok1:=ok.rp r1
  have left:∃ l2,RP l1 l2 a mid/\SR cv l2 a mid/\Ev (fun n=>bif decide (a<r/\r<mid) then (Ak n cv N l1 (a:Int) (r:Int) (mid:Int)).bind fun d=>some d else some l1) l2:=by
   by_cases c:a<r/\r<mid
   . obtain⟨l2,r2,t2,e2⟩:=ih a r mid l1 (by omega) c.1 c.2 (by omega) (by rw [r1.len];omega) (by rw [r1.len];exact hN) ok1 p1 p2
     refine⟨l2,r2,t2,?_⟩
     rw [Ì c]
     exact e2.bind .pure
   . refine⟨l1,.refl,?_,?_⟩
     . by_cases c3:a=r
       . rw [c3];exact p2
       . have:r=mid:=by omega
         rw [<- this];exact p1
     . rw [Ë c];exact .pure
  obtain⟨l2,r2,t2,e2⟩:=left
  have ok2:=ok1.rp r2
  have right:∃ l3,RP l2 l3 mid b/\SR cv l3 mid b/\Ev (fun n=>bif decide (mid<q/\q<b) then (Ak n cv N l2 (mid:Int) (q:Int) (b:Int)).bind fun d=>some d else some l2) l3:=by
   have p3':SR cv l2 mid q:=p3.keep r2 (.inr (by omega))
   have p4':SR cv l2 q b:=p4.keep r2 (.inr (by omega))
   by_cases c:mid<q/\q<b
   . obtain⟨l3,r3,t3,e3⟩:=ih mid q b l2 (by omega) c.1 c.2 (by omega) (by rw [r2.len,r1.len];omega) (by rw [r2.len,r1.len];exact hN) ok2 p3' p4'
     refine⟨l3,r3,t3,?_⟩
     rw [Ì c]
     exact e3.bind .pure
   . refine⟨l2,.refl,?_,?_⟩
     . by_cases c3:mid=q
       . rw [c3];exact p4'
       . have:q=b:=by omega
         rw [<- this];exact p3'
     . rw [Ë c];exact .pure
  obtain⟨l3,r3,t3,e3⟩:=right
  refine⟨l3,((r1.mono (by omega) (by omega)).trans (r2.mono (by omega) (by omega))).trans (r3.mono (by omega) (by omega)),SR.join (t2.keep r3 (.inl (by omega))) t3 fun i j k1 k2 k3 k4=>?_,.step (fun k=>Ct k cv N l a m b) ?_⟩
  . obtain⟨i2,k5,k6,k7⟩:=r2.inn i k1 k2
    obtain⟨j2,k8,k9,k10⟩:=r3.inn j k3 k4
    rw [Jl ((r3.out i (by omega)).trans k7),Jl (k10.trans (r2.out j2 (by omega)))]
    exact p5 i2 j2 k5 k6 k8 k9
  . rw [w1,h1,w2,h2,wm,wn,f1]
    simp only [Ð,Á]
    refine f9.bind ?_
    rw [wq]
    simp only [Int.ofNat_lt,Aeu,Á]
    refine e1.bind ?_
    refine e2.bind ?_
    refine e3.congr fun n=>?_
    rfl
section
variable {N n:Nat} {l d:List Ac}
theorem S6 {x b:Int}(h:(n:Int)<b):Ev (fun k=>A6 k (n:Int) cv N x b l) (x,b,l):=.step (fun k=>D9 k n cv N x b l) (.of fun k=>by rw [Ë (by omega)];rfl)
theorem Aa3 {x b:Int}{r:Int×Int×List Ac}(h:b<=(n:Int))(e:Ev (fun k=>A8 k cv N l x b) d)(e2:Ev (fun k=>A6 k (n:Int) cv N b (À (b+20)) d) r):Ev (fun k=>A6 k (n:Int) cv N x b l) r:=by
 refine .step (fun k=>D9 k n cv N x b l) ?_
 rw [Ì h]
 exact e.bind e2
theorem YE {s x b:Int}(h:(n:Int)<b):Ev (fun k=>A4 k (n:Int) cv N s x b l) (x,b,l):=.step (fun k=>DA k n cv N s x b l) (.of fun k=>by rw [Ë (by omega)];rfl)
theorem Ae4 {s x b:Int}{r:Int×Int×List Ac}(h:b<=(n:Int))(e:Ev (fun k=>Ak k cv N l x (À (x+s)) b) d)(e2:Ev (fun k=>A4 k (n:Int) cv N s b (À (b+(À (2*s)))) d) r):Ev (fun k=>A4 k (n:Int) cv N s x b l) r:=by
 refine .step (fun k=>DA k n cv N s x b l) ?_
 rw [Ì h]
 exact e.bind e2
theorem S7 {s x b:Int}(h:(n:Int)<=s):Ev (fun k=>Ay k (n:Int) cv N s x b l) l:=.step (fun k=>DB k n cv N s x b l) (.of fun k=>by rw [Ë (by omega)];rfl)
theorem Ad4 {s x b x2 b2:Int}{l5 l6 r:List Ac}(h:s<(n:Int))(e:Ev (fun k=>A4 k (n:Int) cv N s 0 (À (2*s)) l) (x2,b2,l5))
 (e2:Ev (fun k=>bif decide (À (x2+s)<(n:Int)) then Ak k cv N l5 x2 (À (x2+s)) (n:Int) else some l5) l6) (e3:Ev (fun k=>Ay k (n:Int) cv N (À (s*2)) x2 b2 l6) r):Ev (fun k=>Ay k (n:Int) cv N s x b l) r:=by
 refine .step (fun k=>DB k n cv N s x b l) ?_
 rw [Ì h]
 refine e.bind ?_
 cases hc:decide (À (x2+s)<(n:Int))
 . rw [hc] at e2
   obtain⟨K,hK⟩:=e2
   have:l5=l6:=by simpa using hK K (Þ _)
   subst this
   refine e3.congr fun k=>?_
   show (bif decide (À (x2+s)<(n:Int)) then _ else _)=_
   rw [hc];rfl
 . rw [hc] at e2
   refine (e2.bind e3).congr fun k=>?_
   show (bif decide (À (x2+s)<(n:Int)) then _ else _)=_
   rw [hc];rfl
end
theorem Xj {N n:Nat}{l:List Ac}(hn:n<=40)(hl:l.length=n)(hN:n<=N)(ok:Ra cv l):∃ l',RP l l' 0 n/\SR cv l' 0 n/\Ev (fun k=>B7 k cv N l (n:Int)) l':=by
 have fin:∀ {x b:Int} {l1 l2 l3:List Ac},Ev (fun k=>A6 k (n:Int) cv N 0 20 l) (x,b,l1)->Ev (fun k=>A8 k cv N l1 x (n:Int)) l2->Ev (fun k=>Ay k (n:Int) cv N 20 x b l2) l3->Ev (fun k=>B7 k cv N l (n:Int)) l3:=by
  intro x b l1 l2 l3 e1 e2 e3
  unfold B7
  exact e1.bind (e2.bind (e3.bind .pure))
 by_cases h1:n<20
 . obtain⟨l',r,s,e⟩:=Qi (cv:=cv) (N:=N) (a:=0) (b:=n) (l:=l) (by omega) (by omega) (by omega) ok (by omega)
   exact⟨l',r,s,fin (S6 (by omega)) e (S7 (by omega))⟩
 obtain⟨l1,r1,s1,e1⟩:=Qi (cv:=cv) (N:=N) (a:=0) (b:=20) (l:=l) (by omega) (by omega) (by omega) ok (by omega)
 have ok1:=ok.rp r1
 by_cases h2:n<40
 . obtain⟨l2,r2,s2,e2⟩:=Qi (cv:=cv) (N:=N) (a:=20) (b:=n) (l:=l1) (by omega) (by omega) (by rw [r1.len];omega) ok1 (by rw [r1.len];omega)
   have s1':SR cv l2 0 20:=s1.keep r2 (.inl (by omega))
   have r12:RP l l2 0 n:=(r1.mono (by omega) (by omega)).trans (r2.mono (by omega) (by omega))
   by_cases h3:n=20
   . subst h3
     exact⟨l2,r12,s1',fin (Aa3 (by omega) e1 (S6 (b:=À (20+20)) (by decide))) e2 (S7 (by omega))⟩
   . obtain⟨l3,r3,s3,e3⟩:=Wo (cv:=cv) (N:=N) n 0 20 n l2 (by omega) (by omega) (by omega) (by omega) (by rw [r2.len,r1.len];omega) (by rw [r2.len,r1.len];omega) (ok1.rp r2) s1' s2
     have w40:À (20+20)=40:=by decide
     have w2:À (2*20)=40:=by decide
     have w0:À (0+20)=20:=by decide
     have w4:À (20*2)=40:=by decide
     refine⟨l3,r12.trans r3,s3,fin (Aa3 (by omega) e1 (S6 (by rw [w40];omega))) e2 (Ad4 (x2:=0) (b2:=40) (l5:=l2) (l6:=l3) (by omega) (by rw [w2];exact YE (by omega)) ?_ (S7 (by rw [w4];omega)))⟩
     rw [w0,Ì (by omega)]
     exact e3
 . have h4:n=40:=by omega
   subst h4
   have w40:À (20+20)=40:=by decide
   have w60:À (40+20)=60:=by decide
   have w2:À (2*20)=40:=by decide
   have w0:À (0+20)=20:=by decide
   have w4:À (20*2)=40:=by decide
   obtain⟨l2,r2,s2,e2⟩:=Qi (cv:=cv) (N:=N) (a:=20) (b:=40) (l:=l1) (by omega) (by omega) (by rw [r1.len];omega) ok1 (by rw [r1.len];omega)
   have s1':SR cv l2 0 20:=s1.keep r2 (.inl (by omega))
   obtain⟨l3,r3,s3,e3⟩:=Qi (cv:=cv) (N:=N) (a:=40) (b:=40) (l:=l2) (by omega) (by omega) (by rw [r2.len,r1.len];omega) (ok1.rp r2) (by rw [r2.len,r1.len];omega)
   obtain⟨l4,r4,s4,e4⟩:=Wo (cv:=cv) (N:=N) 40 0 20 40 l3 (by omega) (by omega) (by omega) (by omega) (by rw [r3.len,r2.len,r1.len];omega) (by rw [r3.len,r2.len,r1.len];omega) ((ok1.rp r2).rp r3) (s1'.keep r3 (.inl (by omega))) (s2.keep r3 (.inl (by omega)))
   refine⟨l4,(((r1.mono (by omega) (by omega)).trans (r2.mono (by omega) (by omega))).trans (r3.mono (by omega) (by omega))).trans r4,s4,fin (x:=40) (b:=60) (Aa3 (by omega) e1 ?_) e3 (Ad4 (x2:=40) (b2:=80) (l5:=l4) (l6:=l4) (by omega) ?_ ?_ (S7 (by rw [w4];omega)))⟩
   . rw [w40]
     refine Aa3 (by omega) e2 ?_
     rw [w60]
     exact S6 (by omega)
   . rw [w2]
     refine Ae4 (by omega) (by rw [w0];exact e4) ?_
     rw [w2]
     have:À (40+40)=80:=by decide
     rw [this]
     exact YE (by omega)
   . have:À (40+20)=60:=by decide
     rw [this,Ë (by omega)]
     exact .pure
theorem Aac {l:List Ac}(hn:l.length<=40)(ok:Ra cv l):∃ l',l'.Perm l/\SR cv l' 0 l'.length/\Ev (fun k=>BS k cv l.length l) l':=by
 obtain⟨l',r,s,e⟩:=Xj (cv:=cv) (N:=l.length) hn rfl (Þ _) ok
 refine⟨l',r.perm,by rw [r.len];exact s,?_⟩
 unfold BS
 exact e.bind .pure
end Go.Sp
namespace Go.Sp
open Go
set_option maxRecDepth 100000
def Wu (c:Ab)(d:Al)(known:Int):Int×Int×Bool×Int :=
 if EN [c]≠0 then (0,0,false,EN [c]) else if FY d known≠0 then (0,0,false,FY d known)
 else (N2 ⟨d,known⟩ c.From,N2 ⟨d,known⟩ c.To,decide (c.Known<=known)&&(N2 ⟨d,known⟩ c.When == 1),0)
theorem Tp {e:Ag}{t:Int}(h:EO e t=0):(B5 e).2.2.E=0:=by
 unfold EO at h
 by_cases c:(B5 e).2.2.E=0
 . exact c
 . rw [Ç c] at h;exact absurd h c
theorem Adj {c:Ab}(h:EN [c]=0):(B5 c.From).2.2.E=0/\(B5 c.To).2.2.E=0/\(B5 c.When).2.2.E=0:=by
 unfold EN at h
 rw [Å (by simp),FQ] at h
 by_cases h1:CO (List.take 0 [c]) c=0
 . have h2:Gn c=0:=by
    unfold CO at h1
    split at h1
    . cases h1
    . split at h1
      . cases h1
      . split at h1
        . cases h1
        . split at h1
          . cases h1
          . exact h1
   unfold Gn at h2
   by_cases a:EO c.From 2=0
   . rw [Å (by simpa using a)] at h2
     by_cases b:EO c.To 2=0
     . rw [Å (by simpa using b)] at h2
       exact⟨Tp a,Tp b,Tp h2⟩
     . rw [Ç b] at h2;exact absurd h2 b
   . rw [Ç a] at h2;exact absurd h2 a
 . rw [Ç h1] at h;exact absurd h h1
end Go.Sp
namespace Go.Sp
open Go
set_option maxRecDepth 100000
theorem Abk {ks:List Ab}{c:Ab}(h:CO ks c=0):Nc c.Name=true/\1<=c.Kind/\c.Kind<=3/\I6 c=false/\Gn c=0:=by
 unfold CO at h
 split at h
 . cases h
 . split at h
   . cases h
   . split at h
     . cases h
     . split at h
       . cases h
       . rename_i h1 h2 h3 h4
         exact⟨by simpa using h1,by omega,by omega,by simpa using h4,h⟩
theorem Q8 {l:List Ab}:∀ (r:List Ab) (k:Nat),FQ l r k=0->∀ c∈r,∃ j,CO (l.take j) c=0
 | [],_,_,c,hc=>by cases hc
 |x::r,k,h,c,hc=>by
  rw [FQ] at h
  by_cases h1:CO (l.take k) x=0
  . rw [Å (by simpa using h1)] at h
    rcases List.mem_cons.1 hc with rfl|hc
    . exact⟨k,h1⟩
    . exact Q8 r (k+1) h c hc
  . rw [Ç h1] at h;exact absurd h h1
structure UK (c:Ab):Prop where
 kind:1<=c.Kind/\c.Kind<=3
 rank:0<=c.Rank/\c.Rank<=9
 known:0<=c.Known/\c.Known<=41666
 houses:(c.Kind<3->c.Houses=0)/\(c.Kind=3->1<=c.Houses/\c.Houses<=4095)
 one:EN [c]=0
 from_:(B5 c.From).2.2.E=0/\(B5 c.From).1=2
 to_:(B5 c.To).2.2.E=0/\(B5 c.To).1=2
 when_:(B5 c.When).2.2.E=0/\(B5 c.When).1=3
theorem XZ {e:Ag}{t:Int}(h:EO e t=0):(B5 e).2.2.E=0/\(B5 e).1=t:=by
 refine⟨Tp h,?_⟩
 unfold EO at h
 rw [Å (by simpa using Tp h)] at h
 by_cases c:(B5 e).1=t
 . exact c
 . rw [Ç c] at h;cases h
theorem Aeq {ks:List Ab}{c:Ab}(h:CO ks c=0):UK c:=by
 obtain⟨h0,h1,h2,h3,h4⟩:=Abk h
 unfold I6 at h3
 have h3:=of_decide_eq_false h3
 have e1:EN [c]=0:=by
  unfold EN
  rw [Å (by simp),FQ]
  have:CO (List.take 0 [c]) c=0:=by
   unfold CO
   rw [Å (by rw [h0];decide),Å (by unfold I8;simp),Å (by omega),Å (by unfold I6;rw [Ë h3];decide)]
   exact h4
  rw [this];rfl
 unfold Gn at h4
 by_cases a:EO c.From 2=0
 . rw [Å (by simpa using a)] at h4
   by_cases b:EO c.To 2=0
   . rw [Å (by simpa using b)] at h4
     exact⟨⟨h1,h2⟩,by omega,by omega,⟨by omega,by omega⟩,e1,XZ a,XZ b,XZ h4⟩
   . rw [Ç b] at h4;exact absurd h4 b
 . rw [Ç a] at h4;exact absurd h4 a
theorem VU {l:List Ab}(h:EN l=0):l.length<=40/\∀ c∈l,UK c:=by
 unfold EN at h
 by_cases hl:40<l.length
 . rw [Ç hl] at h;cases h
 . rw [Å hl] at h
   refine⟨by omega,fun c hc=>?_⟩
   obtain⟨j,hj⟩:=Q8 l 0 h c hc
   exact Aeq hj
def Zy (d:Al)(known:Int)(c:Ab):Bool:=decide (c.Known<=known)&&(N2 ⟨d,known⟩ c.When == 1)
theorem Aab {c:Ab}{d:Al}{known:Int}(hc:UK c)(hk:FY d known=0):Wu c d known=(N2 ⟨d,known⟩ c.From,N2 ⟨d,known⟩ c.To,Zy d known c,0):=by
 unfold Wu
 rw [Å (by simpa using hc.one),Å (by simpa using hk)];rfl
theorem Ws {e:Ag}{d:Al}{known:Int}(hk:FY d known=0)(hs:EI e=true)(h:(B5 e).2.2.E=0/\(B5 e).1=2):0<=N2 ⟨d,known⟩ e/\N2 ⟨d,known⟩ e<=41667:=by
 have:=(P1 W7 ⟨d,known⟩ (Y6 (m:=⟨d,known⟩) hk) e hs h.1).2
 rw [h.2] at this
 exact in2 this
theorem Ym (c:Ab)(d:Al)(known:Int)(hs:Ji c):Ev (fun n=>EG n c d known) (Wu c d known):=by
 have hall:∀ x∈[c],Ji x:=fun x hx=>by rw [List.mem_singleton.1 hx];exact hs
 unfold EG Wu
 simp only [Á]
 by_cases h1:EN [c]=0
 . obtain⟨f1,f2,f3⟩:=Adj h1
   by_cases h2:FY d known=0
   . have v1:∀ e,EI e=true->(B5 e).2.2.E=0->UQ e ⟨d,known⟩=some (N2 ⟨d,known⟩ e):=fun e a b=>by unfold UQ;rw [Ç ⟨a,b,h2⟩]
     rw [Å (by simpa using h1),Å (by simpa using h2)]
     refine Ev.bind (JB [c] hall) ?_
     rw [show (EN [c] != 0)=false by simpa using h1]
     simp only [Ð]
     refine Ev.bind (Na d known) ?_
     rw [show (FY d known != 0)=false by simpa using h2]
     simp only [Ð,v1 _ hs.1 f1,v1 _ hs.2.1 f2,v1 _ hs.2.2 f3,Á]
     cases decide (c.Known<=known)<;>exact Ev.pure
   . rw [Å (by simpa using h1),Ç h2]
     refine Ev.bind (JB [c] hall) ?_
     rw [show (EN [c] != 0)=false by simpa using h1]
     refine Ev.bind (Na d known) ?_
     rw [show (FY d known != 0)=true by simpa using h2]
     exact Ev.pure
 . rw [Ç h1]
   refine Ev.bind (JB [c] hall) ?_
   rw [show (EN [c] != 0)=true by simpa using h1]
   exact Ev.pure
def LR (d:Al)(known:Int):List Ab->Nat->List Ac
 | [],_=>[]
 |c::r,k=>(if Zy d known c=true then [⟨N2 ⟨d,known⟩ c.From,N2 ⟨d,known⟩ c.To,(k:Int)⟩] else [])++LR d known r (k+1)
theorem T8 (d:Al)(known:Int):∀ (r:List Ab) (k:Nat),(LR d known r k).length<=r.length
 | [],_=>by simp [LR]
 |c::r,k=>by
  have:=T8 d known r (k+1)
  rw [LR,Õ,Ý]
  split<;>simp<;>omega
theorem P9 {d:Al}{known:Int}{x:Ac}:∀ (r:List Ab) (k:Nat),x∈LR d known r k↔∃ (i:Nat) (c:Ab),r[i]?=some c/\Zy d known c=true/\x=⟨N2 ⟨d,known⟩ c.From,N2 ⟨d,known⟩ c.To,((k+i:Nat):Int)⟩
 | [],k=>by simp [LR]
 |c::r,k=>by
  rw [LR,List.mem_append,P9 r (k+1)]
  constructor
  . rintro (h|⟨i,e,h1,h2,h3⟩)
    . by_cases ha:Zy d known c=true
      . rw [Ç ha] at h
        exact⟨0,c,rfl,ha,by simpa using h⟩
      . rw [Å ha] at h;cases h
    . exact⟨i+1,e,by simpa using h1,h2,by rw [h3];congr 1;omega⟩
  . rintro⟨i,e,h1,h2,h3⟩
    cases i with
    |zero =>
     have:c=e:=by simpa using h1
     subst this
     left;rw [Ç h2,h3];simp
    |succ i=>right;exact⟨i,e,by simpa using h1,h2,by rw [h3];congr 1;omega⟩
theorem Ae9 {l:List Ac}{y:Ac}(h:l.length<=1000):Cs 25 l [y]=some (l++[y]):=by
 unfold Cs
 rw [Ç (by simp;omega)]
theorem ND {l:List Ab}{d:Al}{known:Int}(hl:l.length<=40)(hf:∀ c∈l,UK c)(hs:∀ c∈l,Ji c)(hk:FY d known=0) :
 ∀ (r:List Ab) (k:Nat) (out:List Ac),l.drop k=r->k<=l.length->out.length<=k->Ev (fun n=>BP n l d known out (k:Int)) (out++LR d known r k)
 | [],k,out,hr,h1,h2=>by
  have he:=J8 hr h1
  refine Ev.step (f:=fun n=>some out) (fun n=>?_) (by rw [LR,đ];exact Ev.pure)
  rw [ID,Ë (by omega)];rfl
 |c::r,k,out,hr,h1,h2=>by
  obtain⟨h3,h4⟩:=Ge hr
  have hc:c∈l:=æ (i:=k) (by rw [hr];exact ì)
  have e:∀ n,BP (n+1) l d known out (k:Int)=(EG n c d known).bind fun s=>bif s.2.2.1 then (Cs 25 out [(Ac.mk s.1 s.2.1 (k:Int))]).bind fun l2=>BP n l d known l2 ((k+1:Nat):Int) else BP n l d known out ((k+1:Nat):Int):=fun n=>by
   rw [ID,Pb h4,Ï,Pc hr,Á,Nz (by omega)]
  refine Ev.step e ((Ym c d known (hs c hc)).bind ?_)
  rw [Aab (hf c hc) hk,LR]
  cases ha:Zy d known c with
  |true =>
   simp only [Ï,ø,Ae9 (show out.length<=1000 by omega),Á]
   rw [<- ñ]
   exact ND hl hf hs hk r (k+1) _ h3 (by omega) (by simp;omega)
  |false =>
   simp only [Ð,è,ÿ,Ā]
   exact ND hl hf hs hk r (k+1) out h3 (by omega) (by omega)
structure ZG (l:List Ab) (d:Al) (known:Int) (s:List Ac):Prop where
 perm:s.Perm (LR d known l 0)
 sorted:SR l s 0 s.length
 ok:Ra l s
 len:s.length<=40
 rng:∀ x∈s,0<=x.from_/\x.from_<=41667/\0<=x.to_/\x.to_<=41667
def PB (l:List Ab)(d:Al)(known:Int):Int:=if EN l≠0 then EN l else FY d known
theorem Yk {l:List Ab}{d:Al}{known:Int}(hf:∀ c∈l,UK c):Ra l (LR d known l 0):=by
 intro x hx
 obtain⟨i,c,h1,h2,h3⟩:=(P9 l 0).1 hx
 refine⟨c,?_,(hf c (Ò h1)).rank⟩
 rw [h3]
 show gi l ((0+i:Nat):Int)=_
 rw [giN,ð];exact h1
theorem Yl {l:List Ab}{d:Al}{known:Int}(hs:∀ c∈l,Ji c) :
 (PB l d known≠0/\Ev (fun n=>Cw n l d known) ([],PB l d known))∨(PB l d known=0/\∃ s,ZG l d known s/\Ev (fun n=>Cw n l d known) (s,0)):=by
 unfold PB
 by_cases h1:EN l=0
 . rw [Å (by simpa using h1)]
   by_cases h2:FY d known=0
   . right
     refine⟨h2,?_⟩
     obtain⟨hl,hf⟩:=VU h1
     have lp:=ND hl hf hs h2 l 0 [] rfl (ü _) (Þ _)
     rw [Ā] at lp
     have rng:∀ x∈LR d known l 0,0<=x.from_/\x.from_<=41667/\0<=x.to_/\x.to_<=41667:=by
      intro x hx
      obtain⟨i,c,q1,q2,q3⟩:=(P9 l 0).1 hx
      have hc:=Ò q1
      have a:=Ws h2 (hs c hc).1 (hf c hc).from_
      have b:=Ws h2 (hs c hc).2.1 (hf c hc).to_
      rw [q3]
      exact⟨a.1,a.2,b.1,b.2⟩
     have hlen:=T8 d known l 0
     obtain⟨s,p,so,es⟩:=Aac (cv:=l) (l:=LR d known l 0) (by omega) (Yk hf)
     refine⟨s,⟨p,so,fun x hx=>Yk hf x (p.mem_iff.1 hx),by rw [p.length_eq];omega,fun x hx=>rng x (p.mem_iff.1 hx)⟩,?_⟩
     unfold Cw
     refine (JB l hs).bind ?_
     rw [h1]
     simp only [ö,Ð]
     refine (Na d known).bind ?_
     rw [h2]
     simp only [ö,Ð]
     refine lp.bind ?_
     cases hz:(LR d known l 0).isEmpty with
     |true =>
      have:LR d known l 0=[]:=List.isEmpty_iff.1 hz
      rw [this] at p
      rw [p.eq_nil]
      exact Ev.pure
     |false =>
      simp only [Ð]
      refine es.bind ?_
      rw [p.length_eq]
      simp only [ú,Ï]
      exact Ev.pure
   . left
     refine⟨h2,?_⟩
     unfold Cw
     refine (JB l hs).bind ?_
     rw [h1]
     simp only [ö,Ð]
     refine (Na d known).bind ?_
     rw [show (FY d known != 0)=true by simpa using h2]
     exact Ev.pure
 . left
   rw [Ç h1]
   refine⟨h1,?_⟩
   unfold Cw
   refine (JB l hs).bind ?_
   rw [show (EN l != 0)=true by simpa using h1]
   exact Ev.pure
end Go.Sp
namespace Go.Sp
open Go
set_option maxRecDepth 100000
def Nx (x:Ac)(day:Int):Bool:=decide (x.from_<=day/\day<=x.to_)
theorem RT (x:Ac)(day:Int):C0 x day=some (Nx x day):=by
 unfold C0 Nx
 rw [Aeu];rfl
def Pa (h o:Int):Int:=bif bits .and .i64 h o == 0 then h else bits .and .i64 h o
theorem Xz (h o:Int):CJ h o=some (Pa h o):=by
 unfold CJ Pa
 cases bits .and .i64 h o == 0<;>rfl
section
variable (l:List Ab) (act:Ac->Bool)
def kdC (x:Ac):Int:=match gi l x.clause with
 |some c=>c.Kind
 |none=>0
def hsC (x:Ac):Int:=match gi l x.clause with
 |some c=>c.Houses
 |none=>0
def Vp (x:Ac):Bool:=kdC l x == 3&&act x
def OE:List Ac->Int->Int
 | [],c=>c
 |x::r,c=>OE r (bits .and .i64 c (hsC l x))
def Fz (ρ:Int)(x:Ac):Bool:=rk l x == ρ
def N3:Nat->List Ac->Int->Int ⊕ Int
 |_,[],out=>.inl out
 |0,_::_,out=>.inl out
 |m+1,x::r,out =>
  bif ((x::r).takeWhile (Fz l (rk l x))).any (Vp l act) then
   (bif OE l (((x::r).takeWhile (Fz l (rk l x))).filter (Vp l act)) 4095 == 0 then .inr 0
   else N3 m ((x::r).dropWhile (Fz l (rk l x))) (Pa out (OE l (((x::r).takeWhile (Fz l (rk l x))).filter (Vp l act)) 4095)))
  else N3 m ((x::r).dropWhile (Fz l (rk l x))) out
def UO (s:List Ac):Int:=match N3 l act s.length s 4095 with
 |.inl o=>o
 |.inr o=>o
def ZO:List Ac->Int->Int->List Int->Int×List Int
 | [],_,st,by_=>(st,by_)
 |x::r,ρ,st,by_=>bif kdC l x == 3||!act x||decide (rk l x<ρ) then ZO r ρ st by_ else ZO r (rk l x) (bif st == 0 then kdC l x else bif st != kdC l x then 3 else st) (by_++[x.clause])
def atV (s:List Ac):Bh:=⟨(ZO l act s (-1) 0 []).1,UO l act s,E4 (ZO l act s (-1) 0 []).2⟩
end
theorem WQ {α:Type}(p:α->Bool):∀ l:List α,l.drop (l.takeWhile p).length=l.dropWhile p
 | []=>rfl
 |x::l=>by
  rw [List.takeWhile_cons,List.dropWhile_cons]
  cases p x with
  |true=>simpa using WQ p l
  |false=>rfl
section
variable {l:List Ab} {act:Ac->Bool} {s:List Ac} {day:Int}
theorem Zt {x:Ac}(h:okC l x):∃ c,gi l x.clause=some c/\rk l x=c.Rank/\kdC l x=c.Kind/\hsC l x=c.Houses:=by
 obtain⟨c,h1,_⟩:=h
 refine⟨c,h1,?_,?_,?_⟩
 . unfold rk;rw [h1]
 . unfold kdC;rw [h1]
 . unfold hsC;rw [h1]
theorem N4 (ok:Ra l s)(hl:s.length<=40)(H:∀ x∈s,Nx x day=act x)(x1:Ab):∀ (r:List Ac) (k:Nat) (c:Int) (b:Bool),s.drop k=r->k<=s.length ->
 Ev (fun n=>B0 n s l x1 day (k:Int) c b) (((k+(r.takeWhile (Fz l x1.Rank)).length:Nat):Int),OE l ((r.takeWhile (Fz l x1.Rank)).filter (Vp l act)) c,b||(r.takeWhile (Fz l x1.Rank)).any (Vp l act))
 | [],k,c,b,hr,hk=>by
  have he:=J8 hr hk
  refine Ev.step (f:=fun n=>some ((k:Int),c,b)) (fun n=>?_) ?_
  . rw [IB,Ë (by omega)];rfl
  . have:(((k+(([]:List Ac).takeWhile (Fz l x1.Rank)).length:Nat):Int),OE l ((([]:List Ac).takeWhile (Fz l x1.Rank)).filter (Vp l act)) c,b||(([]:List Ac).takeWhile (Fz l x1.Rank)).any (Vp l act))=((k:Int),c,b):=by cases b<;>rfl
    rw [this];exact Ev.pure
 |x::r,k,c,b,hr,hk=>by
  obtain⟨h1,h2⟩:=Ge hr
  have hx:x∈s:=æ (i:=k) (by rw [hr];exact ì)
  obtain⟨c0,g0,g1,g2,g3⟩:=Zt (ok x hx)
  have tw:(x::r).takeWhile (Fz l x1.Rank)=if c0.Rank == x1.Rank then x::r.takeWhile (Fz l x1.Rank) else []:=by
   rw [List.takeWhile_cons]
   unfold Fz
   rw [g1]
  have e:∀ n,B0 (n+1) s l x1 day (k:Int) c b=bif c0.Rank == x1.Rank then (bif Vp l act x then B0 n s l x1 day ((k+1:Nat):Int) (bits .and .i64 c c0.Houses) true else B0 n s l x1 day ((k+1:Nat):Int) c b) else some ((k:Int),c,b):=fun n=>by
   rw [IB,Pb h2,Ï,Pc hr]
   simp only [Á,g0,Nz (show k<4611686018427387904 by omega),RT,H x hx]
   have:Vp l act x=(c0.Kind == 3&&act x):=by unfold Vp;rw [g2]
   rw [this]
   cases c0.Rank == x1.Rank<;>cases c0.Kind == 3<;>cases act x<;>rfl
  refine Ev.step e ?_
  rw [tw]
  cases hc:c0.Rank == x1.Rank with
  |false =>
   simp only [Ð,è,ÿ]
   have:((((k+([]:List Ac).length:Nat)):Int),OE l (([]:List Ac).filter (Vp l act)) c,b||([]:List Ac).any (Vp l act))=((k:Int),c,b):=by cases b<;>rfl
   rw [this];exact Ev.pure
  |true =>
   simp only [Ï,ø,Ý,List.any_cons]
   have ea:k+((r.takeWhile (Fz l x1.Rank)).length+1)=k+1+(r.takeWhile (Fz l x1.Rank)).length:=by omega
   rw [ea]
   cases hp:Vp l act x with
   |true =>
    rw [List.filter_cons_of_pos hp,OE,g3]
    have:=N4 ok hl H x1 r (k+1) (bits .and .i64 c c0.Houses) true h1 (by omega)
    simpa using this
   |false =>
    rw [List.filter_cons_of_neg (by rw [hp];decide),Bool.false_or]
    exact N4 ok hl H x1 r (k+1) c b h1 (by omega)
theorem Xf (ok:Ra l s)(hl:s.length<=40)(H:∀ x∈s,Nx x day=act x):∀ (m k:Nat) (out:Int),s.length-k<=m->k<=s.length->Ev (fun n=>Cb n s l day out (k:Int)) (N3 l act m (s.drop k) out):=by
 intro m
 induction m with
 |zero =>
  intro k out hm hk
  have he:k=s.length:=by omega
  refine Ev.step (f:=fun n=>some (.inl out)) (fun n=>?_) ?_
  . rw [Gr,Ë (by omega)];rfl
  . rw [he,List.drop_length];exact Ev.pure
 |succ m ih =>
  intro k out hm hk
  cases hr:s.drop k with
  |nil =>
   have he:=J8 hr hk
   refine Ev.step (f:=fun n=>some (.inl out)) (fun n=>?_) Ev.pure
   rw [Gr,Ë (by omega)];rfl
  |cons x r =>
   obtain⟨h1,h2⟩:=Ge hr
   have hx:x∈s:=æ (i:=k) (by rw [hr];exact ì)
   obtain⟨c0,g0,g1,g2,g3⟩:=Zt (ok x hx)
   have e2:=N4 ok hl H c0 (x::r) k 4095 false hr hk
   rw [N3,g1]
   have tl:((x::r).takeWhile (Fz l c0.Rank)).length≠0:=by
    rw [List.takeWhile_cons,show Fz l c0.Rank x=true by unfold Fz;rw [g1];simp,Ç rfl];simp
   have tl2:((x::r).takeWhile (Fz l c0.Rank)).length<=(x::r).length:=(List.takeWhile_sublist _).length_le
   have dl:(x::r).length=s.length-k:=by rw [<- hr,ù]
   have dw:s.drop (k+((x::r).takeWhile (Fz l c0.Rank)).length)=(x::r).dropWhile (Fz l c0.Rank):=by
    rw [<- Ĥ,hr,WQ]
   have nxt:=fun o=>ih (k+((x::r).takeWhile (Fz l c0.Rank)).length) o (by omega) (by omega)
   rw [dw] at nxt
   generalize (x::r).takeWhile (Fz l c0.Rank)=tw at *
   refine Ev.step (f:=fun n=>(B0 n s l c0 day (k:Int) 4095 false).bind fun y1=>match y1 with
    |(i1,common,some_)=>bif some_ then (bif common == 0 then some (.inr 0) else Cb n s l day (Pa out common) i1) else Cb n s l day out i1) (fun n=>?_) ?_
   . rw [Gr,Pb h2,Ï,Pc hr]
     simp only [Á,g0]
     refine Ĝ _ (funext fun y1=>?_)
     obtain⟨i1,common,b⟩:=y1
     simp only [Xz,Á]
     cases b<;>cases common == 0<;>rfl
   . refine e2.bind ?_
     simp only [Bool.false_or]
     cases ha:tw.any (Vp l act) with
     |false=>exact nxt out
     |true =>
      simp only [Ï]
      cases hz:OE l (tw.filter (Vp l act)) 4095 == 0 with
      |true=>exact Ev.pure
      |false=>exact nxt _
theorem XY (ok:Ra l s)(hl:s.length<=40)(H:∀ x∈s,Nx x day=act x):Ev (fun n=>IC n l s day) (UO l act s):=by
 unfold IC UO
 have:=Xf ok hl H s.length 0 4095 (by omega) (by omega)
 rw [List.drop_zero] at this
 refine this.bind ?_
 cases N3 l act s.length s 4095<;>exact Ev.pure
theorem ga9 {l:List Int}{y:Int}(h:l.length<=1000):Cs 9 l [y]=some (l++[y]):=by
 unfold Cs
 rw [Ç (by simp;omega)]
theorem VZ (ok:Ra l s)(hl:s.length<=40)(H:∀ x∈s,Nx x day=act x):∀ (r:List Ac) (k:Nat) (ρ st:Int) (by_:List Int),s.drop k=r->k<=s.length->by_.length<=k->Ev (fun n=>BZ n s l day ρ (k:Int) st by_) (ZO l act r ρ st by_)
 | [],k,ρ,st,by_,hr,hk,hb=>by
  have he:=J8 hr hk
  refine Ev.step (f:=fun n=>some (st,by_)) (fun n=>?_) Ev.pure
  rw [K0,Ë (by omega)];rfl
 |x::r,k,ρ,st,by_,hr,hk,hb=>by
  obtain⟨h1,h2⟩:=Ge hr
  have hx:x∈s:=æ (i:=k) (by rw [hr];exact ì)
  obtain⟨c0,g0,g1,g2,g3⟩:=Zt (ok x hx)
  have e:∀ n,BZ (n+1) s l day ρ (k:Int) st by_=bif c0.Kind == 3||!act x||decide (c0.Rank<ρ) then BZ n s l day ρ ((k+1:Nat):Int) st by_ else BZ n s l day c0.Rank ((k+1:Nat):Int) (bif st == 0 then c0.Kind else bif st != c0.Kind then 3 else st) (by_++[x.clause]):=fun n=>by
   rw [K0,Pb h2,Ï,Pc hr]
   simp only [Á,g0,Nz (show k<4611686018427387904 by omega),RT,H x hx,ga9 (show by_.length<=1000 by omega)]
   cases c0.Kind == 3<;>cases act x<;>cases decide (c0.Rank<ρ)<;>cases st == 0<;>cases st != c0.Kind<;>rfl
  refine Ev.step e ?_
  rw [ZO,g1,g2]
  cases c0.Kind == 3||!act x||decide (c0.Rank<ρ) with
  |true=>exact VZ ok hl H r (k+1) ρ st by_ h1 (by omega) (by omega)
  |false=>exact VZ ok hl H r (k+1) _ _ _ h1 (by omega) (by simp;omega)
theorem SX:∀ (r:List Ac) (ρ st:Int) (by_:List Int),(ZO l act r ρ st by_).2.length<=by_.length+r.length
 | [],ρ,st,by_=>by rw [ZO];simp
 |x::r,ρ,st,by_=>by
  rw [ZO]
  cases kdC l x == 3||!act x||decide (rk l x<ρ) with
  |true=>have:=SX r ρ st by_;simp only [Ï,Ý];omega
  |false=>have:=SX r (rk l x) (bif st == 0 then kdC l x else bif st != kdC l x then 3 else st) (by_++[x.clause]);simp only [Ð,Ý,Õ,ë] at this ⊢;omega
theorem WW (ok:Ra l s)(hl:s.length<=40)(H:∀ x∈s,Nx x day=act x):Ev (fun n=>Hx n l s day) (atV l act s):=by
 unfold Hx atV
 refine (XY ok hl H).bind ?_
 refine (VZ ok hl H s 0 (-1) 0 [] rfl (ü _) (Þ _)).bind ?_
 have hb:=SX (l:=l) (act:=act) s (-1) 0 []
 generalize ZO l act s (-1) 0 []=y at *
 obtain⟨st,by_⟩:=y
 cases hz:by_.isEmpty with
 |true =>
  have:by_=[]:=List.isEmpty_iff.1 hz
  subst this
  exact Ev.pure
 |false =>
  have hg:OB by_=some (E4 by_):=by
   unfold OB
   simp only [ë] at hb
   rw [Ç (by omega)]
  simp only [hz,Ð,hg,Á]
  rw [(G6 by_).length_eq]
  simp only [ú,Ï]
  exact Ev.pure
end
end Go.Sp
namespace Go.Sp
open Go
set_option maxRecDepth 100000
def G8:List Ac->List Int
 | []=>[]
 |x::r=>x.from_::(x.to_+1)::G8 r
theorem QD:∀ s:List Ac,(G8 s).length=2*s.length
 | []=>rfl
 |x::r=>by rw [G8,Ý,Ý,QD r,Ý];omega
theorem Ns {v:Int}:∀ s:List Ac,v∈G8 s↔∃ x∈s,v=x.from_∨v=x.to_+1
 | []=>by simp [G8]
 |x::r=>by
  rw [G8,ĕ,ĕ,Ns r]
  constructor
  . rintro (h|h|⟨y,h1,h2⟩)
    . exact⟨x,ì,.inl h⟩
    . exact⟨x,ì,.inr h⟩
    . exact⟨y,ĝ _ h1,h2⟩
  . rintro⟨y,h1,h2⟩
    rcases List.mem_cons.1 h1 with rfl|h1
    . exact h2.elim .inl fun h=>.inr (.inl h)
    . exact .inr (.inr ⟨y,h1,h2⟩)
theorem Ae7 {l:List Int}{x y:Int}(h:l.length<=1000):Cs 9 l [x,y]=some (l++[x,y]):=by
 unfold Cs
 rw [Ç (by simp;omega)]
theorem WT {s:List Ac}(hl:s.length<=400)(hr:∀ x∈s,0<=x.to_/\x.to_<=41667):∀ (r:List Ac) (k:Nat) (acc:List Int),s.drop k=r->k<=s.length->acc.length<=2*k+1->Ev (fun n=>Cn n s (k:Int) acc) (acc++G8 r)
 | [],k,acc,h,hk,ha=>by
  have he:=J8 h hk
  rw [G8,đ]
  refine Ev.step (f:=fun n=>some acc) (fun n=>?_) Ev.pure
  rw [HR,Ë (by omega)];rfl
 |x::r,k,acc,h,hk,ha=>by
  obtain⟨h1,h2⟩:=Ge h
  have hx:x∈s:=æ (i:=k) (by rw [h];exact ì)
  have:=hr x hx
  have e:∀ n,Cn (n+1) s (k:Int) acc=Cn n s ((k+1:Nat):Int) (acc++[x.from_,x.to_+1]):=fun n=>by
   rw [HR,Pb h2,Ï,Pc h]
   simp only [Á]
   rw [Nz (by omega),CW (x:=x.to_+1) (by omega) (by omega),Ae7 (by omega)];rfl
  refine Ev.step e ?_
  have ih:=WT hl hr r (k+1) (acc++[x.from_,x.to_+1]) h1 (by omega) (by simp;omega)
  rw [ñ] at ih
  exact ih
theorem Adk {s:List Ac}(hl:s.length<=400)(hr:∀ x∈s,0<=x.to_/\x.to_<=41667):Ev (fun n=>EA n s) (E4 (0::G8 s)):=by
 unfold EA
 refine (WT hl hr s 0 [0] rfl (ü _) (by simp)).bind ?_
 show Ev (fun n=>bif (0::G8 s).isEmpty then none else _) _
 have hg:OB (0::G8 s)=some (E4 (0::G8 s)):=by
  unfold OB
  rw [Ç (by rw [Ý,QD];omega)]
 simp only [List.isEmpty_cons,Ð,List.singleton_append,hg,Á]
 rw [(G6 _).length_eq]
 simp only [ú,Ï]
 exact Ev.pure
theorem S0 {v:Int}:∀ l:List Int,v∈Np l↔v∈l
 | []=>Iff.rfl
 | [x]=>Iff.rfl
 |x::y::r=>by
  have ih:=S0 (v:=v) (y::r)
  rw [Np]
  by_cases h:x=y
  . rw [Ì h,Ï,ih,ĕ (a:=v) (b:=x),h]
    constructor
    . exact .inr
    . rintro (h|h)
      . rw [h];exact ì
      . exact h
  . rw [Ë h,Ð,ĕ,ih,ĕ (a:=v) (b:=x)]
theorem WR:∀ l:List Int,(Np l).length<=l.length
 | []=>Þ _
 | [x]=>Þ _
 |x::y::r=>by
  have ih:=WR (y::r)
  rw [Np]
  cases decide (x=y)
  . simp only [Ð,Ý] at ih ⊢;omega
  . simp only [Ï,Ý] at ih ⊢;omega
theorem Zn:∀ l:List Int,l.Pairwise (·<=·)->(Np l).Pairwise (· < ·)
 | [],_=>.nil
 | [x],_=>by simp [Np]
 |x::y::r,h=>by
  have h1:=List.pairwise_cons.1 h
  have ih:=Zn (y::r) h1.2
  rw [Np]
  by_cases e:x=y
  . rw [Ì e,Ï];exact ih
  . rw [Ë e,Ð,List.pairwise_cons]
    refine⟨fun v hv=>?_,ih⟩
    have hv:=(S0 _).1 hv
    have a:=h1.1 y ì
    have b:y<=v:=by
     rcases List.mem_cons.1 hv with rfl|hv
     . omega
     . exact (List.pairwise_cons.1 h1.2).1 v hv
    omega
def V5:List Int->Int
 | []=>41667
 |v::_=>v
def Wh (A:Int->Bh):List Int->Prop
 | []=>True
 |v::r=>0<=v/\v<=41666/\v<V5 r/\(∀ t,v<=t->t<V5 r->A t=A v)/\Wh A r
theorem Aa7 {r:List Int}(h:∀ v∈r,v<=41666):V5 r<=41667:=by
 cases r with
 |nil=>exact Int.le_refl _
 |cons v r=>have:=h v ì;show v<=41667;omega
theorem Zo {A:Int->Bh}{s:List Ac}(hA:∀ t u,(∀ x∈s,Nx x t=Nx x u)->A t=A u):∀ ds:List Int,ds.Pairwise (· < ·)->(∀ v∈ds,0<=v/\v<=41666)->(∀ v∈G8 s,v<=41666->v∈ds∨v<V5 ds)->Wh A ds
 | [],_,_,_=>trivial
 |d::r,hp,hv,hb=>by
  have hp1:=List.pairwise_cons.1 hp
  have hd:=hv d ì
  have hlt:d<V5 r:=by
   cases r with
   |nil=>show d<41667;omega
   |cons v r=>exact hp1.1 v ì
  have hle:=Aa7 (r:=r) fun v h=>(hv v (ĝ _ h)).2
  have hge:∀ v∈r,V5 r<=v:=by
   cases r with
   |nil=>intro v h;cases h
   |cons w r =>
    intro v h
    rcases List.mem_cons.1 h with rfl|h
    . exact Int.le_refl _
    . exact Int.le_of_lt ((List.pairwise_cons.1 hp1.2).1 v h)
  refine⟨hd.1,hd.2,hlt,fun t h1 h2=>hA t d fun x hx=>?_,Zo hA r hp1.2 (fun v h=>hv v (ĝ _ h)) fun v h1 h2=>?_⟩
  . have key:∀ v∈G8 s,v<=t->v<=d:=by
     intro v h3 h4
     rcases hb v h3 (by omega) with h5|h5
     . rcases List.mem_cons.1 h5 with h5|h5
       . omega
       . have:=hge v h5;omega
     . have:v<d:=h5
       omega
    have k1:=key x.from_ ((Ns s).2 ⟨x,hx,.inl rfl⟩)
    have k2:=key (x.to_+1) ((Ns s).2 ⟨x,hx,.inr rfl⟩)
    unfold Nx
    by_cases c:x.from_<=d/\d<=x.to_
    . rw [Ì c,Ì]
      constructor
      . omega
      . by_cases c2:x.to_+1<=t
        . have:=k2 c2;omega
        . omega
    . rw [Ë c,Ë]
      intro c2
      have:=k1 c2.1
      exact c ⟨this,by omega⟩
  . rcases hb v h1 h2 with h3|h3
    . rcases List.mem_cons.1 h3 with h3|h3
      . exact .inr (by omega)
      . exact .inl h3
    . have:v<d:=h3
      exact .inr (by omega)
structure XT (A:Int->Bh) (pre:List Ar) (z:Ar) (hi:Int):Prop where
 first:∀ x,(pre++[z])[0]?=some x->x.From=0
 rng:∀ x∈pre++[z],0<=x.From/\x.From<=x.To/\x.To<=41666
 nxt:∀ i x y,(pre++[z])[i]?=some x->(pre++[z])[i+1]?=some y->y.From=x.To+1/\¬ (y.State=x.State/\y.Houses=x.Houses)
 last:z.To=41666
 lo:z.From<hi
 low:∀ x∈pre,x.To<z.From
 day:∀ x∈pre++[z],∀ t,x.From<=t->t<=x.To->t<hi->(A t).State=x.State/\(A t).Houses=x.Houses
theorem XT.start {A:Int->Bh}{hi:Int}(h0:0<hi)(hc:∀ t,0<=t->t<hi->A t=A 0):XT A [] ⟨0,41666,(A 0).State,(A 0).Houses⟩ hi:=by
 refine⟨fun x hx=>?_,fun x hx=>?_,fun i x y h1 h2=>?_,rfl,h0,fun x hx=>(by cases hx),fun x hx t h1 h2 h3=>?_⟩
 . simp at hx;rw [<- hx]
 . rw [Ā,ĉ] at hx;subst hx;show (0:Int)<=0/\(0:Int)<=41666/\(41666:Int)<=41666;omega
 . simp at h2
 . rw [Ā,ĉ] at hx;subst hx
   rw [hc t h1 h3];exact⟨rfl,rfl⟩
theorem XT.same {A:Int->Bh}{pre:List Ar}{z:Ar}{d hi:Int}(h:XT A pre z d)(h0:d<hi)(hc:∀ t,d<=t->t<hi->A t=A d)(e:z.State=(A d).State/\z.Houses=(A d).Houses):XT A pre z hi:=by
 refine⟨h.first,h.rng,h.nxt,h.last,by have:=h.lo;omega,h.low,fun x hx t h1 h2 h3=>?_⟩
 by_cases ht:t<d
 . exact h.day x hx t h1 h2 ht
 . rcases List.mem_append.1 hx with hp|hp
   . have a:=h.low x hp
     have b:=h.lo
     omega
   . rw [ĉ] at hp
     subst hp
     rw [hc t (by omega) h3]
     exact⟨e.1.symm,e.2.symm⟩
theorem XT.turn {A:Int->Bh}{pre:List Ar}{z:Ar}{d hi:Int}(h:XT A pre z d)(hd:0<=d/\d<=41666)(h0:d<hi)(hc:∀ t,d<=t->t<hi->A t=A d)(e:¬ (z.State=(A d).State/\z.Houses=(A d).Houses)) :
 XT A (pre++[⟨z.From,d-1,z.State,z.Houses⟩]) ⟨d,41666,(A d).State,(A d).Houses⟩ hi:=by
 have zr:=h.rng z (ę _ ì)
 have lo:=h.lo
 have g:∀ i,((pre++[(⟨z.From,d-1,z.State,z.Houses⟩:Ar)])++[(⟨d,41666,(A d).State,(A d).Houses⟩:Ar)])[i]?=if i<pre.length then (pre++[z])[i]? else if i=pre.length then some ⟨z.From,d-1,z.State,z.Houses⟩ else if i=pre.length+1 then some ⟨d,41666,(A d).State,(A d).Houses⟩ else none:=by
  intro i
  rw [ñ,List.getElem?_append]
  by_cases c:i<pre.length
  . rw [Ç c,Ç c,Ô c]
  . rw [Å c,Å c]
    by_cases c2:i=pre.length
    . rw [Ç c2,c2];simp
    . rw [Å c2]
      by_cases c3:i=pre.length+1
      . rw [Ç c3,c3];simp
      . rw [Å c3]
        exact List.getElem?_eq_none (by show 2<=_;omega)
 have gz:(pre++[z])[pre.length]?=some z:=by simp
 refine⟨fun x hx=>?_,fun x hx=>?_,fun i x y h1 h2=>?_,rfl,h0,fun x hx=>?_,fun x hx t h1 h2 h3=>?_⟩
 . rw [g] at hx
   by_cases c:0<pre.length
   . rw [Ç c] at hx;exact h.first x hx
   . have c0:0=pre.length:=by omega
     rw [Å c,Ç c0] at hx
     have:=h.first z (by rw [c0];exact gz)
     rw [<- Af hx];exact this
 . rcases List.mem_append.1 hx with hx|hx
   . rcases List.mem_append.1 hx with hx|hx
     . exact h.rng x (Ă _ hx)
     . rw [ĉ] at hx;subst hx
       show 0<=z.From/\z.From<=d-1/\d-1<=41666
       omega
   . rw [ĉ] at hx;subst hx
     show 0<=d/\d<=41666/\(41666:Int)<=41666
     omega
 . rw [g] at h1 h2
   by_cases c:i+1<pre.length
   . rw [Ç c] at h2
     rw [Ç (by omega)] at h1
     exact h.nxt i x y h1 h2
   . rw [Å c] at h2
     by_cases c2:i+1=pre.length
     . rw [Ç c2] at h2
       rw [Ç (by omega)] at h1
       have:=h.nxt i x z h1 (by rw [c2];exact gz)
       rw [<- Af h2];exact this
     . rw [Å c2] at h2
       by_cases c3:i+1=pre.length+1
       . rw [Ç c3] at h2
         rw [Å (by omega),Ç (by omega)] at h1
         rw [<- Af h2,<- Af h1]
         refine⟨by show d=d-1+1;omega,fun k=>e ⟨k.1.symm,k.2.symm⟩⟩
       . rw [Å c3] at h2;cases h2
 . rcases List.mem_append.1 hx with hx|hx
   . have:=h.low x hx
     show x.To<d
     omega
   . rw [ĉ] at hx;subst hx
     show d-1<d
     omega
 . rcases List.mem_append.1 hx with hx|hx
   . rcases List.mem_append.1 hx with hx|hx
     . have:=h.low x hx
       exact h.day x (Ă _ hx) t h1 h2 (by omega)
     . rw [ĉ] at hx;subst hx
       have h1:z.From<=t:=h1
       have h2:t<=d-1:=h2
       exact h.day z (ę _ ì) t h1 (by rw [h.last];omega) (by omega)
   . rw [ĉ] at hx;subst hx
     rw [hc t h1 h3];exact⟨rfl,rfl⟩
theorem Ae8 {l:List Ar}{y:Ar}(h:l.length<=1000):Cs 33 l [y]=some (l++[y]):=by
 unfold Cs
 rw [Ç (by simp;omega)]
theorem Ya {α:Type}{pre:List α}{z:α}(h:pre.length<=1000):À (((pre++[z]).length:Int)-1)=(pre.length:Int):=by
 rw [CW (by simp<;>omega) (by simp<;>omega)];simp
theorem SA {l:List Ab}{s:List Ac×Int}{A:Int->Bh}(hA:∀ t,0<=t->t<=41666->Ev (fun n=>Hx n l s.1 t) (A t)):∀ (r:List Int) (pre:List Ar) (z:Ar),Wh A r->XT A pre z (V5 r)->pre.length+r.length<=900 ->
 ∃ pre' z',XT A pre' z' 41667/\pre'.length<=900/\Ev (fun n=>Bj n l s r (pre++[z])) (pre'++[z'],0)
 | [],pre,z,_,h,hl=>⟨pre,z,h,by simpa using hl,Ev.pure⟩
 |d::r,pre,z,hd,h,hl=>by
  obtain⟨d1,d2,d3,d4,d5⟩:=hd
  rw [Ý] at hl
  have h:XT A pre z d:=h
  have el:((pre++[z]).isEmpty)=false:=by simp
  have pl:decide (0<((pre++[z]).length:Int))=true:=by simp<;>omega
  have gl:gi (pre++[z]) (pre.length:Int)=some z:=by rw [giN];simp
  have gxl:gx (pre++[z]).length (pre.length:Int)=some ():=gxN (by simp)
  by_cases c:z.State=(A d).State/\z.Houses=(A d).Houses
  . obtain⟨pre',z',h1,h2,h3⟩:=SA hA r pre z d5 (h.same d3 d4 c) (by omega)
    refine⟨pre',z',h1,h2,?_⟩
    simp only [Bj]
    refine (hA d d1 d2).bind ?_
    simp only [el,Ð,pl,Ï,Ya (show pre.length<=1000 by omega),gxl,gl,Á,c.1,c.2,ú]
    exact h3
  . obtain⟨pre',z',h1,h2,h3⟩:=SA hA r _ _ d5 (h.turn ⟨d1,d2⟩ d3 d4 c) (by simp;omega)
    refine⟨pre',z',h1,h2,?_⟩
    have gm:YM (pre++[z]) (pre.length:Int) (fun z=>{ z with To:=À (d-1) })=some (pre++[⟨z.From,d-1,z.State,z.Houses⟩]):=by
     unfold YM
     rw [gl]
     simp only [Á]
     rw [YL (by simp),CW (by omega) (by omega)]
     simp
    have cc:(bif z.State == (A d).State then some (z.Houses == (A d).Houses) else some false)=some false:=by
     cases e1:z.State == (A d).State with
     |false=>rfl
     |true =>
      cases e2:z.Houses == (A d).Houses with
      |false=>rfl
      |true=>exact absurd ⟨by simpa using e1,by simpa using e2⟩ c
    simp only [Bj]
    refine (hA d d1 d2).bind ?_
    simp only [el,Ð,pl,Ï,Ya (show pre.length<=1000 by omega),gxl,gl,Á,cc,gm]
    have e3:(pre++[(⟨z.From,d-1,z.State,z.Houses⟩:Ar)]).length=(pre++[z]).length:=by simp
    rw [e3]
    simp only [ú,Ï]
    rw [Ae8 (by simp;omega)]
    exact h3
def RJ (l:List Ab)(s:List Ac)(t:Int):Bh:=atV l (fun x=>Nx x t) s
theorem VN {l:List Ab}{s:List Ac}(ok:Ra l s)(hl:s.length<=40)(t u:Int)(h:∀ x∈s,Nx x t=Nx x u):RJ l s t=RJ l s u :=
 (WW (l:=l) (s:=s) (day:=t) ok hl (act:=fun x=>Nx x t) fun _ _=>rfl).uniq (WW ok hl h)
theorem Sd {l:List Ab}{d:Al}{known:Int}{s:List Ac}(h:ZG l d known s)(e:Ev (fun n=>Cw n l d known) (s,0)) :
 ∃ pre z,XT (RJ l s) pre z 41667/\pre.length<=900/\Ev (fun n=>Ca n l d known) (pre++[z],0):=by
 have hb:=Adk (s:=s) (by have:=h.len;omega) fun x hx=>(h.rng x hx).2.2
 have hperm:=G6 (0::G8 s)
 have hsort:=Jm (0::G8 s)
 have hlen:(E4 (0::G8 s)).length<=81:=by rw [hperm.length_eq,Ý,QD];have:=h.len;omega
 have hne:(E4 (0::G8 s)).isEmpty=false:=by
  cases hz:E4 (0::G8 s) with
  |nil=>rw [hz] at hperm;have:=hperm.length_eq;simp at this
  |cons=>rfl
 have hmem:∀ v,v∈E4 (0::G8 s)↔v=0∨v∈G8 s:=fun v=>by rw [hperm.mem_iff,ĕ]
 have hbd:∀ v,v∈D4 (E4 (0::G8 s))↔(v=0∨v∈G8 s)/\v<=41666:=fun v=>by
  unfold D4
  rw [List.mem_filter,S0,hmem,Î]
 have hnn:∀ v∈G8 s,0<=v:=fun v hv=>by
  obtain⟨x,hx,hv⟩:=(Ns s).1 hv
  have:=h.rng x hx
  rcases hv with rfl|rfl<;>omega
 have hp:(D4 (E4 (0::G8 s))).Pairwise (· < ·):=(Zn _ hsort).filter _
 have hl2:(D4 (E4 (0::G8 s))).length<=81:=ğ (List.length_filter_le _ _) (ğ (WR _) hlen)
 have hdays:=Zo (A:=RJ l s) (VN h.ok h.len) _ hp (fun v hv=>by
  have:=(hbd v).1 hv
  refine⟨?_,this.2⟩
  rcases this.1 with rfl|h2
  . exact Int.le_refl _
  . exact hnn v h2) fun v h1 h2=>.inl ((hbd v).2 ⟨.inr h1,h2⟩)
 have h0:(0:Int)∈D4 (E4 (0::G8 s)):=(hbd 0).2 ⟨.inl rfl,by decide⟩
 have hev:∀ {r:List Ar×Int},Ev (fun n=>Bj n l (s,0) (D4 (E4 (0::G8 s))) []) r->Ev (fun n=>Ca n l d known) r:=by
  intro r hr
  unfold Ca
  refine e.bind ?_
  simp only [ö,Ð]
  refine hb.bind ?_
  simp only [hne,Ð,Ì (show (E4 (0::G8 s)).length*8<=140737488351232 by omega),Ï]
  exact hr
 have hA:∀ t,0<=t->t<=41666->Ev (fun n=>Hx n l (s,(0:Int)).1 t) (RJ l s t):=fun t _ _=>WW h.ok h.len fun _ _=>rfl
 cases hz:D4 (E4 (0::G8 s)) with
 |nil=>rw [hz] at h0;cases h0
 |cons v r =>
  rw [hz] at h0 hp hdays hev hl2
  obtain⟨d1,d2,d3,d4,d5⟩:=hdays
  have hv:v=0:=by
   rcases List.mem_cons.1 h0 with h1|h1
   . exact h1.symm
   . have:=(List.pairwise_cons.1 hp).1 0 h1;omega
  subst hv
  obtain⟨pre,z,q1,q2,q3⟩:=SA (s:=(s,0)) hA r [] _ d5 (XT.start d3 d4) (by simp at hl2 ⊢;omega)
  refine⟨pre,z,q1,q2,hev ?_⟩
  simp only [Bj,List.isEmpty_nil,Ï]
  refine (hA 0 d1 d2).bind ?_
  exact q3
end Go.Sp
namespace Go.Sp
open Go
set_option maxRecDepth 100000
theorem Vf:TA=some true:=by kernel_rfl
end Go.Sp
namespace Go.Sp
open Go
set_option maxRecDepth 100000
theorem Zb (l:List Ab)(d:Al):∃ b,Ev (fun n=>Ih n l d) b/\(b=true->(∀ c∈l,Ji c)/\(d.Facts.length<=30∨200<d.Facts.length)):=by
 have h:=Adc l 300 (by decide) (by decide)
 by_cases c:l.length<=50/\0<=Ls l 300
 . rw [Ì c] at h
   refine⟨decide (d.Facts.length<=30∨200<d.Facts.length/\d.Facts.length<205),?_,fun e=>?_⟩
   . unfold Ih
     refine Ev.bind (h.bind (b:=decide (d.Facts.length<=30∨200<d.Facts.length/\d.Facts.length<205)) (g:=fun _ f=>bif f then (bif (decide ((d.Facts.length:Int)<=30)) then some true else bif (decide (200<(d.Facts.length:Int))) then some (decide ((d.Facts.length:Int)<205)) else some false) else some false) ?_) Ev.pure
     simp only [Ï]
     by_cases c1:d.Facts.length<=30
     . rw [Ì (show (d.Facts.length:Int)<=30 by omega),Ì (show d.Facts.length<=30∨200<d.Facts.length/\d.Facts.length<205 from .inl c1)];exact Ev.pure
     . rw [Ë (show ¬ (d.Facts.length:Int)<=30 by omega)]
       by_cases c2:200<d.Facts.length
       . rw [Ì (show (200:Int)<(d.Facts.length:Int) by omega)]
         by_cases c3:d.Facts.length<205
         . rw [Ì (show (d.Facts.length:Int)<205 by omega),Ì (show d.Facts.length<=30∨200<d.Facts.length/\d.Facts.length<205 from .inr ⟨c2,c3⟩)];exact Ev.pure
         . rw [Ë (show ¬ (d.Facts.length:Int)<205 by omega),Ë (show ¬ (d.Facts.length<=30∨200<d.Facts.length/\d.Facts.length<205) by omega)];exact Ev.pure
       . rw [Ë (show ¬ (200:Int)<(d.Facts.length:Int) by omega),Ë (show ¬ (d.Facts.length<=30∨200<d.Facts.length/\d.Facts.length<205) by omega)];exact Ev.pure
   . have:=ą e
     exact⟨Qw l 300 c.2 (by decide),by omega⟩
 . rw [Ë c] at h
   refine⟨false,?_,fun e=>by cases e⟩
   unfold Ih
   exact Ev.bind (h.bind (b:=false) (g:=fun _ f=>bif f then (bif (decide ((d.Facts.length:Int)<=30)) then some true else bif (decide (200<(d.Facts.length:Int))) then some (decide ((d.Facts.length:Int)<205)) else some false) else some false) Ev.pure) Ev.pure
section
variable {l:List Ab} {d:Al} {known:Int} {s:List Ac}
theorem Zw (h:ZG l d known s)(e:Ev (fun n=>Cw n l d known) (s,0)){t:Int}(h0:0<=t)(h1:t<=41666):Ev (fun n=>DH n l d t known) (RJ l s t,0):=by
 unfold DH
 refine e.bind ?_
 simp only [ö,Ð,Ë (show ¬ t<0 by omega),Ë (show ¬ 41666<t by omega),Á]
 exact (WW h.ok h.len fun _ _=>rfl).bind Ev.pure
theorem Adl (e:Ev (fun n=>Cw n l d known) (s,0)){t:Int}(h0:t<0∨41666<t):Ev (fun n=>DH n l d t known) (⟨0,0,[]⟩,1):=by
 unfold DH
 refine e.bind ?_
 simp only [ö,Ð]
 by_cases c:t<0
 . simp only [Ì c,Ï,Á];exact Ev.pure
 . simp only [Ë c,Ð,Á,Ì (show 41666<t by omega),Ï];exact Ev.pure
theorem Xl {x:Int}(hx:x≠0)(e:Ev (fun n=>Cw n l d known) ([],x)):Ev (fun n=>Ca n l d known) ([],x)/\Ev (fun n=>EB n l d known) (0,0,x):=by
 have hb:(x != 0)=true:=by simpa using hx
 have h1:Ev (fun n=>Ca n l d known) ([],x):=by
  unfold Ca
  refine e.bind ?_
  simp only [hb,Ï]
  exact Ev.pure
 refine⟨h1,?_⟩
 unfold EB
 refine h1.bind ?_
 simp only [hb,Ï]
 exact Ev.pure
theorem SQ {sts:List Ar}(hl:sts.length<=1000)(hr:∀ x∈sts,0<=x.From/\x.From<=x.To/\x.To<=41666)
 (hn:∀ i x y,sts[i]?=some x->sts[i+1]?=some y->y.From=x.To+1/\¬ (y.State=x.State/\y.Houses=x.Houses))
 (hA:∀ x∈sts,∀ t,x.From<=t->t<=x.To->∃ a,Ev (fun n=>DH n l d t known) (a,0)/\a.State=x.State/\a.Houses=x.Houses) :
 ∀ (r:List Ar) (k:Nat) (keep drop:Int),sts.drop k=r->k<=sts.length->∃ p q,Ev (fun n=>Bm n (sts,0) d keep drop (k:Int)) (p,q)/\Ev (fun n=>Au n (sts,0) l d known keep drop (k:Int)) (.inl (p,q))
 | [],k,keep,drop,h,hk=>by
  have he:=J8 h hk
  refine⟨keep,drop,.step (fun n=>HS n _ d keep drop _) (.of fun n=>?_),.step (fun n=>Ee n _ l d known keep drop _) (.of fun n=>?_)⟩
  . rw [Ë (by simp;omega)];rfl
  . rw [Ë (by simp;omega)];rfl
 |x::r,k,keep,drop,h,hk=>by
  obtain⟨h1,h2⟩:=Ge h
  have hx:x∈sts:=æ (i:=k) (by rw [h];exact ì)
  have gx:sts[k]?=some x:=by have:=Pc h;rwa [giN] at this
  obtain⟨r1,r2,r3⟩:=hr x hx
  obtain⟨a1,e1,s1,q1⟩:=hA x hx x.From (by omega) (by omega)
  obtain⟨a2,e2,s2,q2⟩:=hA x hx x.To (by omega) (by omega)
  have v1:(bif (decide (x.To<x.From)) then some true else bif (decide (0<(k:Int))) then (gi sts (À ((k:Int)-1))).bind fun x3=>bif (x.From != (À (x3.To+1))) then some true else bif (x.State == x3.State) then some (x.Houses == x3.Houses) else some false else some false)=some false:=by
   rw [Ë (by omega),Ð]
   by_cases c:k=0
   . rw [Ë (by omega)];rfl
   . obtain⟨j,rfl⟩:∃ j,k=j+1:=⟨k-1,by omega⟩
     have wj:À (((j+1:Nat):Int)-1)=(j:Int):=by rw [CW (by omega) (by omega)];omega
     have hj:j<sts.length:=by omega
     have gy:sts[j]?=some sts[j]:=Ã hj
     have hy:=hr _ (Ú hj)
     obtain⟨n1,n2⟩:=hn j _ x gy gx
     rw [Ì (by omega),wj,giN,gy]
     simp only [Ï,Á]
     rw [CW (by omega) (by omega),<- n1]
     simp only [ö,Ð]
     cases e1:x.State == sts[j].State with
     |false=>rfl
     |true =>
      cases e2:x.Houses == sts[j].Houses with
      |false=>rfl
      |true=>exact absurd ⟨by simpa using e1,by simpa using e2⟩ n2
  have v2:(bif ((a1,(0:Int)).2 != 0) then some true else bif ((a2,(0:Int)).2 != 0) then some true else bif ((a1,(0:Int)).1.State != x.State) then some true else bif ((a1,(0:Int)).1.Houses != x.Houses) then some true else bif ((a2,(0:Int)).1.State != x.State) then some true else some ((a2,(0:Int)).1.Houses != x.Houses))=some false:=by
   simp only [ö,Ð,s1,q1,s2,q2]
  have lt:decide ((k:Int)<(((sts,(0:Int)).1.length:Nat):Int))=true:=Pb h2
  have gk:gi (sts,(0:Int)).1 (k:Int)=some x:=Pc h
  have wk:À ((k:Int)+1)=((k+1:Nat):Int):=Nz (by omega)
  have eb:∀ n,Bm (n+1) (sts,0) d keep drop (k:Int)=bif x.State == 1 then Bm n (sts,0) d x.To drop ((k+1:Nat):Int) else bif x.State == 2&&decide (d.Stored<=x.To) then Bm n (sts,0) d keep (if (if d.Stored > x.From then d.Stored else x.From)<drop then (if d.Stored > x.From then d.Stored else x.From) else drop) ((k+1:Nat):Int) else Bm n (sts,0) d keep drop ((k+1:Nat):Int):=fun n=>by
   rw [HS,lt,gk,wk]
   simp only [Ï,Á]
   cases x.State == 1<;>cases x.State == 2<;>cases decide (d.Stored<=x.To)<;>rfl
  have el:∀ n,Au (n+1) (sts,0) l d known keep drop (k:Int)=(DH n l d x.From known).bind fun a_1=>(DH n l d x.To known).bind fun a_2=>((bif (a_1.2 != 0) then some true else bif (a_2.2 != 0) then some true else bif (a_1.1.State != x.State) then some true else bif (a_1.1.Houses != x.Houses) then some true else bif (a_2.1.State != x.State) then some true else some (a_2.1.Houses != x.Houses)):Option Bool).bind fun v193=>bif v193 then some (.inr false) else
   bif x.State == 2&&decide (d.Stored<=x.To) then Au n (sts,0) l d known (bif x.State == 1 then x.To else keep) (if (if d.Stored > x.From then d.Stored else x.From)<drop then (if d.Stored > x.From then d.Stored else x.From) else drop) ((k+1:Nat):Int) else Au n (sts,0) l d known (bif x.State == 1 then x.To else keep) drop ((k+1:Nat):Int):=fun n=>by
   rw [Ee,lt,gk,wk]
   simp only [Ï,Á]
   rw [v1]
   simp only [Á,Ð]
   refine Ĝ _ (funext fun a_1=>Ĝ _ (funext fun a_2=>Ĝ _ (funext fun v=>?_)))
   cases v<;>cases x.State == 1<;>cases x.State == 2<;>cases decide (d.Stored<=x.To)<;>rfl
  have fin:∀ {v:(Int×Int) ⊕ Bool},Ev (fun n=>bif x.State == 2&&decide (d.Stored<=x.To) then Au n (sts,0) l d known (bif x.State == 1 then x.To else keep) (if (if d.Stored > x.From then d.Stored else x.From)<drop then (if d.Stored > x.From then d.Stored else x.From) else drop) ((k+1:Nat):Int) else Au n (sts,0) l d known (bif x.State == 1 then x.To else keep) drop ((k+1:Nat):Int)) v->Ev (fun n=>Au n (sts,0) l d known keep drop (k:Int)) v:=by
   intro v hv
   refine .step el (e1.bind (e2.bind ?_))
   rw [v2]
   exact hv
  by_cases c1:x.State=1
  . have b1:(x.State == 1)=true:=by simpa using c1
    have b2:(x.State == 2)=false:=by rw [c1];rfl
    obtain⟨p,q,f1,f2⟩:=SQ hl hr hn hA r (k+1) x.To drop h1 (by omega)
    refine⟨p,q,.step eb (f1.congr fun n=>by rw [b1];rfl),fin (f2.congr fun n=>by rw [b1,b2];rfl)⟩
  . have b1:(x.State == 1)=false:=by simpa using c1
    cases b2:x.State == 2&&decide (d.Stored<=x.To) with
    |true =>
     obtain⟨p,q,f1,f2⟩:=SQ hl hr hn hA r (k+1) keep (if (if d.Stored > x.From then d.Stored else x.From)<drop then (if d.Stored > x.From then d.Stored else x.From) else drop) h1 (by omega)
     refine⟨p,q,.step eb (f1.congr fun n=>by rw [b1,b2];rfl),fin (f2.congr fun n=>by rw [b1,b2];rfl)⟩
    |false =>
     obtain⟨p,q,f1,f2⟩:=SQ hl hr hn hA r (k+1) keep drop h1 (by omega)
     refine⟨p,q,.step eb (f1.congr fun n=>by rw [b1,b2];rfl),fin (f2.congr fun n=>by rw [b1,b2];rfl)⟩
theorem Zq {sts:List Ar}(hl:sts.length<=1000){x:Int}{a:Bh×Int}(ha:∀ y∈sts,y.From<=(À x).tmod 41667->(À x).tmod 41667<=y.To->a.2=0/\a.1.State=y.State/\a.1.Houses=y.Houses) :
 ∀ (r:List Ar) (k:Nat),sts.drop k=r->k<=sts.length->Ev (fun n=>AU n (sts,0) x a (k:Int)) (.inl ())
 | [],k,h,hk=>by
  have he:=J8 h hk
  refine .step (fun n=>Ef n _ x a _) (.of fun n=>?_)
  rw [Ë (by simp;omega)];rfl
 |y::r,k,h,hk=>by
  obtain⟨h1,h2⟩:=Ge h
  have hy:y∈sts:=æ (i:=k) (by rw [h];exact ì)
  refine .step (fun n=>Ef n _ x a _) ((Zq hl ha r (k+1) h1 (by omega)).congr fun n=>?_)
  have lt:decide ((k:Int)<(((sts,(0:Int)).1.length:Nat):Int))=true:=Pb h2
  have gk:gi (sts,(0:Int)).1 (k:Int)=some y:=Pc h
  rw [lt,gk,Nz (show k<4611686018427387904 by omega)]
  simp only [Ï,Á]
  by_cases c1:y.From<=(À x).tmod 41667
  . by_cases c2:(À x).tmod 41667<=y.To
    . obtain⟨g1,g2,g3⟩:=ha y hy c1 c2
      rw [Ì c1,Ì c2,g1,g2,g3]
      simp only [Ï,ö,Ð,Á]
    . rw [Ì c1,Ë c2];rfl
  . rw [Ë c1];rfl
theorem Zr {sts:List Ar}{days:List Int}(hd:days.length<=1000)(hl:sts.length<=1000)(hA:∀ m,m<41667->∃ a,Ev (fun n=>DH n l d m known) a/\∀ y∈sts,y.From<=m->m<=y.To->a.2=0/\a.1.State=y.State/\a.1.Houses=y.Houses) :
 ∀ (r:List Int) (k:Nat),days.drop k=r->k<=days.length->Ev (fun n=>Bc n days l d known (sts,0) (k:Int)) (.inl ())
 | [],k,h,hk=>by
  have he:=J8 h hk
  refine .step (fun n=>Eg n days l d known _ _) (.of fun n=>?_)
  rw [Ë (by omega)];rfl
 |x::r,k,h,hk=>by
  obtain⟨h1,h2⟩:=Ge h
  obtain⟨a,e,ha⟩:=hA ((À x).tmod 41667) (Int.tmod_lt_of_pos _ (by decide))
  refine .step (fun n=>Eg n days l d known _ _) ?_
  rw [Pb h2,Pc h,Nz (show k<4611686018427387904 by omega)]
  simp only [Ï,Á]
  refine e.bind ((Zq hl ha sts 0 rfl (ü _)).bind ?_)
  exact Zr hd hl hA r (k+1) h1 (by omega)
end
theorem XM (l:List Ab)(d:Al)(known:Int)(days:List Int):Ev (fun n=>CN n l d known days) true:=by
 obtain⟨b,hb,hs⟩:=Zb l d
 unfold CN
 refine Ev.bind (a:=bif !b then true else decide (20<(days.length:Int))) (hb.bind (by cases b<;>exact Ev.pure)) ?_
 cases hv:(bif !b then true else decide (20<(days.length:Int))) with
 |true=>rw [Vf];exact Ev.pure
 |false =>
  have hbt:b=true:=by cases b with
   |true=>rfl
   |false=>cases hv
  subst hbt
  have hd:days.length<=20:=by
   have:=of_decide_eq_false (by simpa using hv:decide (20<(days.length:Int))=false)
   omega
  obtain⟨hsm,_⟩:=hs rfl
  simp only [Ð]
  rcases Yl (d:=d) (known:=known) hsm with⟨he,ev⟩|⟨he,s,hS,ev⟩
  . obtain⟨e1,e2⟩:=Xl he ev
    refine e1.bind (e2.bind ?_)
    simp only [ö,Ð,show (PB l d known != 0)=true by simpa using he,Á,Ï,Vf,ú]
    exact Ev.pure
  . obtain⟨pre,z,hI,hl,e1⟩:=Sd hS ev
    have hlen:(pre++[z]).length<=1000:=by simp;omega
    have hA:∀ x∈pre++[z],∀ t,x.From<=t->t<=x.To->∃ a,Ev (fun n=>DH n l d t known) (a,0)/\a.State=x.State/\a.Houses=x.Houses:=fun x hx t h1 h2=>by
     have hr:=hI.rng x hx
     obtain⟨q1,q2⟩:=hI.day x hx t h1 h2 (by omega)
     exact⟨_,Zw hS ev (by omega) (by omega),q1,q2⟩
    obtain⟨p,q,f1,f2⟩:=SQ hlen hI.rng hI.nxt hA (pre++[z]) 0 (-1) 41667 rfl (ü _)
    have e2:Ev (fun n=>EB n l d known) (p,q,0):=by
     unfold EB
     refine e1.bind ?_
     simp only [ö,Ð]
     exact f1.bind Ev.pure
    have f3:=Zr (days:=days) (l:=l) (d:=d) (known:=known) (by omega) hlen (fun m hm=>by
     by_cases c:m<0
     . refine⟨_,Adl ev (.inl c),fun y hy h1 h2=>?_⟩
       have:=hI.rng y hy
       omega
     . refine⟨_,Zw hS ev (by omega) (by omega),fun y hy h1 h2=>?_⟩
       obtain⟨q1,q2⟩:=hI.day y hy m h1 h2 (by omega)
       exact⟨rfl,q1,q2⟩) days 0 rfl (ü _)
    refine e1.bind (e2.bind ?_)
    have w:À (((pre++[z]).length:Int)-1)=(pre.length:Int):=Ya (by omega)
    have g0:∃ x,gi (pre++[z]) 0=some x/\x.From=0:=by
     have:(pre++[z])[0]?=some ((pre++[z])[0]'(by simp)):=Ã _
     exact⟨_,this,hI.first _ this⟩
    obtain⟨x0,g0,g1⟩:=g0
    have g2:gi (pre++[z]) (pre.length:Int)=some z:=by rw [giN];simp
    have g3:(((pre++[z]).length:Int) == 0)=false:=by simp;omega
    simp only [ö,Ð,Á,g3,g0,g1,w,g2,hI.last]
    refine f2.bind ?_
    refine f3.bind ?_
    simp only [Vf,Á,Ï,ú]
    exact Ev.pure
end Go.Sp
