/-
  The closed facts of the row of DutyKnowsTwoTimes. The specification's types are those that find finds. No program. The specification's Type, Known and Last, in plain words. No program. Known, Last and products of the specification, in plain words. No program. The specification's values are those that value computes. No program. Few nodes, in plain words. No program. Value in plain words; StatuteIsTyped, the plain law. No program. Names: what the program and the specification call one. No program. Whether a clause of a list has a name. No program. Check, in plain words: the program's and the specification's. No program. Check of clauses: the program's and the specification's answer alike. No program. The stable sort of duty's spans: swaps, rotations. No program. The stable sort of duty's spans: insertion, rotation. No program. The stable sort of duty's spans: merging. No program. The stable sort of duty's spans: merging in place, the whole sort. No program. StatuteValuesAsSpecified, the plain law. No program. The spans of duty: what they are. No program. The duty on a day, by its spans, in plain words. No program. The duty on a day by what applies on it: in any order. No program. The duty on a day: clauses in addition, other numbers, the opposite order. No program. The stretches of duty, in plain words. No program. sanity, run by the kernel. No program. DutyStretchesCover: the plain law. No program. DutyRanksDecide as a plain function. (Printed by lift.py.) DutyRanksDecide: the plain law. No program. StatuteLearns, the plain law: later facts and the order of facts of different kinds or people do not change a value. No program. DutyKnowsTwoTimes as a plain function. (Printed by lift.py.) DutyKnowsTwoTimes: the plain law. No program.
-/
import Derived.JoinedOf
import Derived.KernelRfl
import Derived.Test.YtehfpameijkafaaGreatDoorW4
import Derived.Test.YtehfpameijkafaaGreatDoorW11
set_option linter.unusedVariables false
set_option linter.unusedSimpArgs false
namespace Go.Proofs.YtehfpameijkafaaGreatDoor
open Go.ChangeShapes Go.WideShapes Go.ChangeAt Go.RowKit
set_option maxRecDepth 100000
theorem Gz {a b:Bool}(h:a=true)(k:b=true):(a&&b)=true:=by rw [h,k];rfl
theorem Aga:(Rows.dutyKnowsTwoTimesRow.wf (OpenSpec.ofChange Rows.dutyKnowsTwoTimesSpec))=true:=by kernel_rfl
theorem Af9:(laidOutB Tryz.prog)=true:=by kernel_rfl
theorem Af8:(mapsRowed Tryz.prog)=true:=by kernel_rfl
theorem Af7:(Tryz.f6.params.all (Tryz.prog.readableRec ·))=true:=by kernel_rfl
theorem Af6:(namedTie Tryz.prog Rows.dutyKnowsTwoTimesRow.named Rows.dutyKnowsTwoTimesSpec.vars)=true:=by kernel_rfl
theorem Af5:((Rows.dutyKnowsTwoTimesRow.stops == []))=true:=by kernel_rfl
theorem Af4:((Tryz.prog.stops == []))=true:=by kernel_rfl
theorem Af3:((Rows.dutyKnowsTwoTimesRow.knobs == []))=true:=by kernel_rfl
theorem Af2:((Tryz.prog.stopKnobs == []))=true:=by kernel_rfl
theorem Af1:((Rows.dutyKnowsTwoTimesRow.inPlace == Tryz.prog.inPlace 6))=true:=by kernel_rfl
theorem Aez:((Rows.dutyKnowsTwoTimesRow.unfollowed == Tryz.prog.unfollowed 6))=true:=by kernel_rfl
theorem Aey:((Rows.dutyKnowsTwoTimesRow.recurses == Tryz.prog.recurses 6))=true:=by kernel_rfl
theorem Aex:((Rows.dutyKnowsTwoTimesRow.named == Tryz.prog.varsNamed 6))=true:=by kernel_rfl
theorem Aew:((Rows.dutyKnowsTwoTimesRow.maps == (Tryz.f6.params.toList++Rows.dutyKnowsTwoTimesSpec.plain.varTypes Tryz.prog).any (Tryz.prog.mapsRec ·)))=true:=by kernel_rfl
theorem Aev:((Rows.dutyKnowsTwoTimesRow.ifaces == (Tryz.f6.params.toList++Rows.dutyKnowsTwoTimesSpec.plain.varTypes Tryz.prog).any (Tryz.prog.ifacesRec ·)))=true:=by kernel_rfl
theorem Aeu:((Rows.dutyKnowsTwoTimesRow.mapsOut == Tryz.prog.mapsAmong Tryz.f6.resultTypes.toList))=true:=by kernel_rfl
theorem Aet:((Rows.dutyKnowsTwoTimesRow.loops == (Tryz.f6.params.toList++Rows.dutyKnowsTwoTimesSpec.plain.varTypes Tryz.prog).any (Tryz.prog.loopsFrom ·)))=true:=by kernel_rfl
theorem Aes:((Rows.dutyKnowsTwoTimesRow.wideKeys == (Tryz.f6.params.toList++Rows.dutyKnowsTwoTimesSpec.plain.varTypes Tryz.prog++Tryz.f6.resultTypes.toList).any (Tryz.prog.wideKeysFrom ·)))=true:=by kernel_rfl
theorem Aer:(Rows.dutyKnowsTwoTimesSpec.vars.all (Tryz.prog.varReadable ·))=true:=by kernel_rfl
theorem Aeq:(Tryz.f6.resultTypes.all (fun t=>Tryz.prog.readableRec t&&decide (t<Tryz.prog.types.size)))=true:=by kernel_rfl
theorem Aep:((Rows.dutyKnowsTwoTimesRow.ifacesOut == Tryz.f6.resultTypes.toList.any (Tryz.prog.ifacesRec ·)))=true:=by kernel_rfl
theorem Aeo:((Rows.dutyKnowsTwoTimesRow.loopsOut == Tryz.f6.resultTypes.toList.any (Tryz.prog.loopsFrom ·)))=true:=by kernel_rfl
theorem Aen:((Rows.dutyKnowsTwoTimesRow.plainKeys == Tryz.prog.plainKeys))=true:=by kernel_rfl
theorem Aem:(Rows.dutyKnowsTwoTimesRow.shortTexts.isNone)=true:=by kernel_rfl
theorem Ael:(Tryz.prog.stopsHeard)=true:=by kernel_rfl
theorem Aek:(Tryz.prog.mayEnter)=true:=by kernel_rfl
theorem Aej:((Rows.dutyKnowsTwoTimesRow.lifted == Tryz.prog.liftsFinal))=true:=by kernel_rfl
theorem Aei:((Tryz.prog.make == some Rows.dutyKnowsTwoTimesRow.make))=true:=by kernel_rfl
theorem Aeh:((Rows.dutyKnowsTwoTimesRow.kinds == (if Rows.dutyKnowsTwoTimesRow.domain.isEmpty then [] else Tryz.f6.params.toList.map fun t=>match Tryz.prog.underlying t with|some (.int k)=>some k|_=>none)))=true:=by kernel_rfl
theorem Aeg:((Rows.dutyKnowsTwoTimesRow.pinned == Rows.dutyKnowsTwoTimesRow.pinnedBy))=true:=by kernel_rfl
theorem Aef:((Rows.dutyKnowsTwoTimesRow.veiled == (Tryz.f6.params.toList++Rows.dutyKnowsTwoTimesSpec.plain.varTypes Tryz.prog++Tryz.f6.resultTypes.toList).any (Tryz.prog.veiledRec ·)))=true:=by kernel_rfl
theorem Aee:(Rows.dutyKnowsTwoTimesRow.veiledFits Tryz.prog Tryz.f6.params.toList (Tryz.f6.params.toList++Rows.dutyKnowsTwoTimesSpec.plain.varTypes Tryz.prog++Tryz.f6.resultTypes.toList))=true:=by kernel_rfl
theorem jf6:joinedFacts Tryz.prog 6 Tryz.f6 Rows.dutyKnowsTwoTimesSpec Rows.dutyKnowsTwoTimesRow=true:=(Gz (Gz (Gz (Gz (Gz (Gz (Gz (Gz (Gz (Gz (Gz (Gz (Gz (Gz (Gz (Gz (Gz (Gz (Gz (Gz (Gz (Gz (Gz (Gz (Gz (Gz (Gz (Gz (Gz (Gz (Gz Aga Af9) Af8) Af7) Af6) Af5) Af4) Af3) Af2) Af1) Aez) Aey) Aex) Aew) Aev) Aeu) Aet) Aes) Aer) Aeq) Aep) Aeo) Aen) Aem) Ael) Aek) Aej) Aei) Aeh) Aeg) Aef) Aee)
end Go.Proofs.YtehfpameijkafaaGreatDoor
namespace Go.Sp
open Go
set_option maxRecDepth 100000
theorem Ahf (a:Int)(l:List Int):gi (a::l) 0=some a:=rfl
theorem Ahe (a b:Int)(l:List Int):gi (a::b::l) 1=some b:=rfl
end Go.Sp

namespace Go.Sp
open Go
set_option maxRecDepth 100000
theorem ZE (f:Bb):((bif (decide (f.Kind<1)) then
 some true
 else
  bif (decide (5<f.Kind)) then
   some true
  else
   bif (decide (f.Who<1)) then
    some true
   else
    bif (decide (1000<f.Who)) then
     some true
    else
     bif (decide (f.Day<0)) then
      some true
     else
      bif (decide (41666<f.Day)) then
       some true
      else
       bif (decide (f.Known<0)) then
        some true
       else
        some (decide (41666<f.Known))
 ):Option Bool)=some (!okF f):=by
 unfold okF
 by_cases h1:f.Kind<1
 . rw [Ì h1];(try rw [Ð]);congr 1;symm;rw [ç,Ù];omega
 rw [Ë h1,Ï]
 by_cases h2:5<f.Kind
 . rw [Ì h2];(try rw [Ð]);congr 1;symm;rw [ç,Ù];omega
 rw [Ë h2,Ï]
 by_cases h3:f.Who<1
 . rw [Ì h3];(try rw [Ð]);congr 1;symm;rw [ç,Ù];omega
 rw [Ë h3,Ï]
 by_cases h4:1000<f.Who
 . rw [Ì h4];(try rw [Ð]);congr 1;symm;rw [ç,Ù];omega
 rw [Ë h4,Ï]
 by_cases h5:f.Day<0
 . rw [Ì h5];(try rw [Ð]);congr 1;symm;rw [ç,Ù];omega
 rw [Ë h5,Ï]
 by_cases h6:41666<f.Day
 . rw [Ì h6];(try rw [Ð]);congr 1;symm;rw [ç,Ù];omega
 rw [Ë h6,Ï]
 by_cases h7:f.Known<0
 . rw [Ì h7];(try rw [Ð]);congr 1;symm;rw [ç,Ù];omega
 rw [Ë h7,Ï]
 by_cases h8:41666<f.Known
 . rw [Ì h8];(try rw [Ð]);congr 1;symm;rw [ç,Ù];omega
 . rw [Ë h8];congr 1;symm;rw [Bool.not_eq_false',Î];omega
theorem W6 (d:Aj)(known:Int):((bif (decide (d.Stored<0)) then
 some true
 else
  bif (decide (41666<d.Stored)) then
   some true
  else
   bif (decide (known<0)) then
    some true
   else
    bif (decide (41666<known)) then
     some true
    else
     bif (decide (d.Owner<0)) then
      some true
     else
      some (decide (1000<d.Owner))
 ):Option Bool)=some (!decide (0<=d.Stored/\d.Stored<=41666/\0<=known/\known<=41666/\0<=d.Owner/\d.Owner<=1000)):=by
 by_cases h1:d.Stored<0
 . rw [Ì h1];(try rw [Ð]);congr 1;symm;rw [ç,Ù];omega
 rw [Ë h1,Ï]
 by_cases h2:41666<d.Stored
 . rw [Ì h2];(try rw [Ð]);congr 1;symm;rw [ç,Ù];omega
 rw [Ë h2,Ï]
 by_cases h3:known<0
 . rw [Ì h3];(try rw [Ð]);congr 1;symm;rw [ç,Ù];omega
 rw [Ë h3,Ï]
 by_cases h4:41666<known
 . rw [Ì h4];(try rw [Ð]);congr 1;symm;rw [ç,Ù];omega
 rw [Ë h4,Ï]
 by_cases h5:d.Owner<0
 . rw [Ì h5];(try rw [Ð]);congr 1;symm;rw [ç,Ù];omega
 rw [Ë h5,Ï]
 by_cases h6:1000<d.Owner
 . rw [Ì h6];(try rw [Ð]);congr 1;symm;rw [ç,Ù];omega
 . rw [Ë h6];congr 1;symm;rw [Bool.not_eq_false',Î];omega
theorem Su (d:Aj)(hl:d.Facts.length<=200):∀ (r:List Bb) (k:Nat),d.Facts.drop k=r->k<=d.Facts.length->Ev (fun n=>BL n d (k:Int)) (if r.all okF=true then .inl () else .inr 1)
 | [],k,hr,hk=>by
  have he:=JI hr hk
  refine Ev.step (f:=fun n=>some (.inl ())) (fun n=>?_) Ev.pure
  rw [Hj,show (decide ((k:Int)<(d.Facts.length:Int)))=false by rw [Ù];omega];rfl
 |f::r,k,hr,hk=>by
  obtain⟨h1,h2⟩:=F6 hr
  have ih:=Su d hl r (k+1) h1 (by omega)
  have e:∀ n,BL (n+1) d (k:Int)=bif !okF f then some (.inr 1) else BL n d ((k+1:Nat):Int):=fun n=>by
   rw [Hj,P2 h2,Ð,O5 hr,Á,ZE,Á,NU (by omega)]
  refine Ev.step e ?_
  cases hf:okF f with
  |true=>simp only [ē,Ï,Ď,hf,Bool.true_and];exact ih
  |false=>simp only [ĥ,Ð,Ď,hf,Bool.false_and,è,Ā];exact Ev.pure
theorem N5 (d:Aj)(known:Int):Ev (fun n=>Fe n d known) (Dy d known):=by
 unfold Fe Dy
 by_cases hl:200<d.Facts.length
 . rw [Ì (show (200:Int)<(d.Facts.length:Int) by omega),Ç hl];exact Ev.pure
 . rw [Ë (show ¬ (200:Int)<(d.Facts.length:Int) by omega),Ä hl]
   simp only [Ï]
   refine Ev.bind (Su d (by omega) d.Facts 0 rfl (ü _)) ?_
   cases hf:d.Facts.all okF with
   |false=>simp only [è,Ā,false_and];exact Ev.pure
   |true =>
    simp only [ù,õ,W6,Á]
    by_cases c:0<=d.Stored/\d.Stored<=41666/\0<=known/\known<=41666/\0<=d.Owner/\d.Owner<=1000
    . simp only [Ì c,Ç c];exact Ev.pure
    . simp only [Ë c,Ä c];exact Ev.pure
end Go.Sp

namespace Go.Sp
open Go
mutual
def HZ:Ag->Int->Int
 |.mk _ _ _ kids _,n=>GY kids (n-1)
def GY:List Ag->Int->Int
 | [],n=>n
 |e::l,n=>if n<0 then n else GY l (HZ e n)
end
mutual
theorem L5:∀ (e:Ag) (n:Int),HZ e n<=n-1
 |.mk _ _ _ kids _,n=>by rw [HZ];exact O1 kids (n-1)
theorem O1:∀ (l:List Ag) (n:Int),GY l n<=n
 | [],n=>by rw [GY];omega
 |e::l,n=>by
  rw [GY]
  split
  . omega
  . have h1:=L5 e n
    have h2:=O1 l (HZ e n)
    omega
end
theorem Q7:∀ (l:List Ag) (n:Int),0<=GY l n->(l.length:Int)<=n
 | [],n,h=>by rw [GY] at h;simpa using h
 |e::l,n,h=>by
  rw [GY] at h
  split at h
  . omega
  . have h1:=L5 e n
    have h2:=Q7 l _ h
    simp only [ß]
    omega
mutual
theorem Q8:∀ (e:Ag) (n:Int),0<=HZ e n->n<=1000000->ER e=true
 |.mk _ _ _ kids _,n,h,hn=>by
  rw [HZ] at h
  have:=Q7 kids (n-1) h
  rw [ER,Å,Î]
  exact⟨by omega,Pb kids (n-1) h (by omega)⟩
theorem Pb:∀ (l:List Ag) (n:Int),0<=GY l n->n<=1000000->Kj l=true
 | [],_,_,_=>by rw [Kj]
 |e::l,n,h,hn=>by
  rw [GY] at h
  split at h
  . omega
  . have h1:=L5 e n
    have h2:=O1 l (HZ e n)
    rw [Kj,Å]
    exact⟨Q8 e n (by omega) hn,Pb l _ h (by omega)⟩
end
theorem US (e:Ag)(hf:∀ x∈e.Kids,∀ n,0<=n->n<=1000->Ev (fun k=>BQ k x n) (HZ x n)/\-1<=HZ x n) :
 ∀ (r:List Ag) (k:Nat) (n:Int),e.Kids.drop k=r->k<=e.Kids.length->-1<=n->(k:Int)+n<=1000->Ev (fun m=>C4 m e n (k:Int)) (GY r n)/\-1<=GY r n
 | [],k,n,hr,hkl,hn,_=>by
  have he:=JI hr hkl
  rw [GY]
  refine⟨Ev.step (f:=fun _=>some n) (fun m=>?_) Ev.pure,hn⟩
  rw [Gu,show (decide ((k:Int)<(e.Kids.length:Int)))=false by rw [Ù];omega];rfl
 |x::r,k,n,hr,hkl,hn,hb=>by
  obtain⟨h1,h2⟩:=F6 hr
  rw [GY]
  by_cases c:n<0
  . rw [Ç c]
    refine⟨Ev.step (f:=fun _=>some n) (fun m=>?_) Ev.pure,hn⟩
    rw [Gu,P2 h2,Ð,Ë (by omega)];rfl
  . rw [Ä c]
    have hmem:x∈e.Kids:=ë (by rw [hr];simp)
    obtain⟨f1,f2⟩:=hf x hmem n (by omega) (by omega)
    have f3:=L5 x n
    obtain⟨i1,i2⟩:=US e hf r (k+1) (HZ x n) h1 (by omega) f2 (by omega)
    refine⟨Ev.step (f:=fun m=>(BQ m x n).bind fun n3=>C4 m e n3 ((k+1:Nat):Int)) (fun m=>?_) (Ev.bind f1 i1),i2⟩
    rw [Gu,P2 h2,Ð,Ì (by omega),Á,Ð,O5 hr,Á,NU (by omega)]
mutual
theorem Tw:∀ (e:Ag) (n:Int),0<=n->n<=1000->Ev (fun k=>BQ k e n) (HZ e n)/\-1<=HZ e n
 |.mk op num s kids at0,n,h0,h1=>by
  have h:=US (.mk op num s kids at0) (UR kids) kids 0 (n-1) rfl (ü _) (by omega) (by simp;omega)
  rw [HZ]
  refine⟨Ev.step (fun k=>Pu k (.mk op num s kids at0) n) (Ev.bind ?_ Ev.pure),h.2⟩
  rw [Ew (by omega) (by omega)]
  exact h.1
theorem UR:∀ (l:List Ag),∀ x∈l,∀ n,0<=n->n<=1000->Ev (fun k=>BQ k x n) (HZ x n)/\-1<=HZ x n
 | [],x,hx=>by simp at hx
 |e::l,x,hx=>by
  rcases List.mem_cons.1 hx with hx|hx
  . rw [hx];exact Tw e
  . exact UR l x hx
end
def Ga (e:Ag)(n:Int):Int:=if n<0 then n else HZ e n
def EV (c:Aa)(n:Int):Int:=Ga c.When (Ga c.To (Ga c.From n))
def LD:List Aa->Int->Int
 | [],n=>n
 |c::l,n=>if n<0 then n else LD l (EV c n)
theorem GQ (e:Ag)(n:Int):Ga e n<=n:=by
 unfold Ga
 split
 . omega
 . have:=L5 e n;omega
theorem Lm {e:Ag}{n:Int}(h : -1<=n)(h1:n<=1000) : -1<=Ga e n:=by
 unfold Ga
 split
 . omega
 . exact (Tw e n (by omega) h1).2
theorem MY (c:Aa)(n:Int):EV c n<=n:=by
 unfold EV
 have h1:=GQ c.From n
 have h2:=GQ c.To (Ga c.From n)
 have h3:=GQ c.When (Ga c.To (Ga c.From n))
 omega
theorem Vp:∀ (l:List Aa) (n:Int),LD l n<=n
 | [],n=>by rw [LD];omega
 |c::l,n=>by
  rw [LD]
  split
  . omega
  . have h1:=MY c n
    have h2:=Vp l (EV c n)
    omega
theorem QS (l:List Aa)(i:Int)(c:Aa)(hi:gi l i=some c)(p:Ag)(k:Nat)(hp:IE c (k:Int)=some p)(hk:k<3)(n:Int)(h0 : -1<=n)(h1:n<=1000){v:Int}
 (h:Ev (fun m=>BS m l i (Ga p n) ((k+1:Nat):Int)) v) (hv:n<0->v=n):Ev (fun m=>BS m l i n (k:Int)) v:=by
 by_cases c0:n<0
 . rw [hv c0]
   refine Ev.step (f:=fun _=>some n) (fun m=>?_) Ev.pure
   rw [GV,Ì (show (k:Int)<3 by omega),Ð,Ë (by omega)];rfl
 . refine Ev.step (f:=fun m=>(BQ m p n).bind fun n3=>BS m l i n3 ((k+1:Nat):Int)) (fun m=>?_) (Ev.bind (Tw p n (by omega) h1).1 ?_)
   . rw [GV,Ì (show (k:Int)<3 by omega),Ð,Ì (by omega),Á,Ð,hi,Á,hp,Á,NU (by omega)]
   . unfold Ga at h
     rw [Ä c0] at h
     exact h
theorem WK (l:List Aa)(i:Int)(c:Aa)(hi:gi l i=some c)(n:Int)(h0 : -1<=n)(h1:n<=1000):Ev (fun m=>BS m l i n 0) (EV c n):=by
 have g1:=Lm (e:=c.From) h0 h1
 have g2:=GQ c.From n
 have g3:=Lm (e:=c.To) g1 (by omega)
 have g4:=GQ c.To (Ga c.From n)
 have hend:Ev (fun m=>BS m l i (EV c n) ((2+1:Nat):Int)) (EV c n):=by
  refine Ev.step (f:=fun _=>some (EV c n)) (fun m=>?_) Ev.pure
  rw [GV];rfl
 have neg:∀ {e:Ag} {n:Int},n<0->Ga e n=n:=fun h=>by unfold Ga;rw [Ç h]
 have s2:=QS l i c hi c.When 2 rfl (by decide) (Ga c.To (Ga c.From n)) g3 (by omega) hend (fun h=>by unfold EV;exact neg h)
 have s1:=QS l i c hi c.To 1 rfl (by decide) (Ga c.From n) g1 (by omega) s2 (fun h=>by unfold EV;rw [neg (e:=c.To) h,neg h])
 exact QS l i c hi c.From 0 rfl (by decide) n h0 h1 s1 (fun h=>by unfold EV;rw [neg (e:=c.From) h,neg (e:=c.To) h,neg h])
theorem XT (l:List Aa)(hl:l.length<=50):∀ (r:List Aa) (k:Nat) (n:Int),l.drop k=r->k<=l.length->-1<=n->n<=1000->Ev (fun m=>Dw m l n (k:Int)) (LD r n)
 | [],k,n,hr,hkl,_,_=>by
  have he:=JI hr hkl
  rw [LD]
  refine Ev.step (f:=fun _=>some n) (fun m=>?_) Ev.pure
  rw [GW,show (decide ((k:Int)<(l.length:Int)))=false by rw [Ù];omega];rfl
 |c::r,k,n,hr,hkl,h0,h1=>by
  obtain⟨d1,d2⟩:=F6 hr
  rw [LD]
  by_cases c0:n<0
  . rw [Ç c0]
    refine Ev.step (f:=fun _=>some n) (fun m=>?_) Ev.pure
    rw [GW,P2 d2,Ð,Ë (by omega)];rfl
  . rw [Ä c0]
    have g1 : -1<=EV c n:=by
     have a1:=Lm (e:=c.From) h0 h1
     have a2:=GQ c.From n
     have a3:=Lm (e:=c.To) a1 (by omega)
     have a4:=GQ c.To (Ga c.From n)
     exact Lm (e:=c.When) a3 (by omega)
    have g2:=MY c n
    refine Ev.step (f:=fun m=>(BS m l (k:Int) n 0).bind fun n3=>Dw m l n3 ((k+1:Nat):Int)) (fun m=>?_) (Ev.bind (WK l (k:Int) c (O5 hr) n h0 h1) (XT l hl r (k+1) _ d1 (by omega) g1 (by omega)))
    rw [GW,P2 d2,Ð,Ì (by omega),Á,Ð,NU (by omega)]
theorem Ae6 (l:List Aa)(n:Int)(h0:0<=n)(h1:n<=1000):Ev (fun m=>JA m l n) (decide (l.length<=50/\0<=LD l n)):=by
 unfold JA
 by_cases c:l.length<=50
 . rw [Ë (show ¬ (50:Int)<(l.length:Int) by omega)]
   simp only [Ï]
   refine Ev.bind (XT l c l 0 n rfl (ü _) (by omega) h1) ?_
   simp only [c,õ]
   exact Ev.pure
 . rw [Ì (show (50:Int)<(l.length:Int) by omega),Ë (fun h=>c h.1)]
   exact Ev.pure
def I8 (c:Aa):Prop:=ER c.From=true/\ER c.To=true/\ER c.When=true
theorem MC {e:Ag}{n:Int}(h:0<=Ga e n)(hn:n<=1000000):ER e=true/\0<=n:=by
 unfold Ga at h
 split at h
 . omega
 . exact⟨Q8 e n h hn,by omega⟩
theorem TO {c:Aa}{n:Int}(h:0<=EV c n)(hn:n<=1000):I8 c/\0<=n:=by
 unfold EV at h
 have g2:=GQ c.From n
 have g4:=GQ c.To (Ga c.From n)
 obtain⟨a1,a2⟩:=MC h (by omega)
 obtain⟨b1,b2⟩:=MC a2 (by omega)
 obtain⟨c1,c2⟩:=MC b2 (by omega)
 exact⟨⟨c1,b1,a1⟩,c2⟩
theorem QR:∀ (l:List Aa) (n:Int),0<=LD l n->n<=1000->∀ c∈l,I8 c
 | [],_,_,_,c,hc=>by simp at hc
 |x::l,n,h,hn,c,hc=>by
  rw [LD] at h
  split at h
  . omega
  . have g:=MY x n
    have g2:=Vp l (EV x n)
    rcases List.mem_cons.1 hc with rfl|hc
    . exact (TO (by omega) hn).1
    . exact QR l _ h (by omega) c hc
end Go.Sp
namespace Go.Sp
open Go
set_option maxRecDepth 100000
theorem Aah {e:Ag}(h:ER e=true):Jg e=some (B4 e):=by unfold Jg;rw [Ç h]
end Go.Sp
namespace Go.Sp
open Go
def H5 (c:Int):Bool:=decide ((97<=c/\c<=122)∨(65<=c/\c<=90)∨c=95)
def Hd (c:Int):Bool:=decide (48<=c/\c<=57)
def Nb (s:Æ):List Int:=s.data.toList.map fun b=>(b.toNat:Int)
def Me (s:Æ):Bool:=decide (1<=s.size/\s.size<=32)&&(Nb s).all (fun c=>H5 c||Hd c)&&!Hd ((Nb s).getD 0 0)
theorem Rk (s:Æ):(Nb s).length=s.size:=by
 unfold Nb
 rw [Í];rfl
theorem Agh {s:Æ}{k:Nat}{x:Int}{r:List Int}(h:(Nb s).drop k=x::r):gb s (k:Int)=some x:=by
 obtain⟨_,h2⟩:=F6 h
 rw [Rk] at h2
 unfold gb
 rw [Ç (by omega)]
 have h3:=O5 h
 unfold gi at h3
 rw [Ç (by omega)] at h3
 unfold Nb at h3
 rw [æ] at h3
 rw [Int.toNat_natCast] at h3 ⊢
 cases e:s.data.toList[k]? with
 |none=>rw [e] at h3;cases h3
 |some b =>
  rw [e] at h3
  rw [List.getD_eq_getElem?_getD,e]
  exact h3
theorem W8 (c:Int):D7 c=some (!(H5 c||Hd c)):=by
 unfold D7 H5 Hd
 by_cases h1:97<=c<;>by_cases h2:c<=122<;>by_cases h3:65<=c<;>by_cases h4:c<=90<;>by_cases h5:c=95<;>by_cases h6:48<=c<;>by_cases h7:c<=57<;>(have h5b:=h5;rw [<- ā (a:=c) (b:=95)] at h5b;simp [h1,h2,h3,h4,h5,h6,h7,h5b])
theorem Sw (l:List Int)(hl:l.length<=1000000):∀ (r:List Int) (k:Nat),l.drop k=r->k<=l.length->∃ v,Ev (fun n=>AK n l (k:Int)) v/\(match v with|.inl _=>r.all (fun c=>H5 c||Hd c)=true|.inr i=>0<=i/\r.all (fun c=>H5 c||Hd c)=false)
 | [],k,hr,hk=>by
  have he:=JI hr hk
  refine⟨.inl (),Ev.step (f:=fun _=>some (.inl ())) (fun n=>?_) Ev.pure,rfl⟩
  rw [Eo,show (decide ((k:Int)<(l.length:Int)))=false by rw [Ù];omega];rfl
 |x::r,k,hr,hk=>by
  obtain⟨h1,h2⟩:=F6 hr
  have e:∀ n,AK (n+1) l (k:Int)=bif !(H5 x||Hd x) then some (.inr (k:Int)) else AK n l ((k+1:Nat):Int):=fun n=>by
   rw [Eo,P2 h2,Ð,O5 hr,Á,W8,Á,NU (by omega)]
  cases hx:(H5 x||Hd x) with
  |false =>
   refine⟨.inr (k:Int),Ev.step e ?_,by omega,by rw [Ď,hx];rfl⟩
   rw [hx];exact Ev.pure
  |true =>
   obtain⟨v,k1,k2⟩:=Sw l hl r (k+1) h1 (by omega)
   refine⟨v,Ev.step e ?_,?_⟩
   . rw [hx];exact k1
   . cases v with
     |inl _=>simp only at k2 ⊢;rw [Ď,hx,k2];rfl
     |inr i=>simp only at k2 ⊢;rw [Ď,hx,k2.2];exact⟨k2.1,rfl⟩
theorem V2 (l:List Int)(hl:l.length<=1000000):Ev (fun n=>Ce n l) (!(l.all fun c=>H5 c||Hd c)):=by
 obtain⟨v,h1,h2⟩:=Sw l hl l 0 rfl (ü _)
 unfold Ce De
 cases v with
 |inl _ =>
  have h2:l.all (fun c=>H5 c||Hd c)=true:=h2
  rw [h2]
  exact Ev.bind (Ev.bind h1 Ev.pure) Ev.pure
 |inr i =>
  have h2:0<=i/\l.all (fun c=>H5 c||Hd c)=false:=h2
  rw [h2.2]
  refine Ev.bind (Ev.bind h1 Ev.pure) ?_
  rw [Ì h2.1];exact Ev.pure
theorem YC (s:Æ):Ev (fun n=>E5 n s) (Me s):=by
 unfold E5 Me
 by_cases h0:s.size=0
 . have:s=⟨#[]⟩:=by
    cases s with
    |mk d=>congr 1;exact ĩ h0
   rw [Ì this,Ë (show ¬ (1<=s.size/\s.size<=32) by omega)]
   exact Ev.pure
 have hne:¬ s=⟨#[]⟩:=fun e=>h0 (by rw [e];rfl)
 rw [Ë hne]
 simp only [Ï]
 by_cases h32:s.size<=32
 . rw [Ë (show ¬ (32:Int)<(s.size:Int) by omega),Ì (show 1<=s.size/\s.size<=32 by omega)]
   simp only [Ï]
   have hl:=Rk s
   cases hb:Nb s with
   |nil=>rw [hb] at hl;simp at hl;omega
   |cons x r =>
    have hg:gb s 0=some x:=Agh (k:=0) hb
    have hd:(bif (decide (48<=x)) then some (decide (x<=57)) else some false:Option Bool)=some (Hd x):=by
     unfold Hd
     by_cases a1:48<=x
     . rw [Ì a1,Ð];congr 1;rw [decide_eq_decide];omega
     . rw [Ë a1,Ï];congr 1;symm;rw [Ù];omega
    simp only [hg,Á,hd]
    have hgb:QL s=some (x::r):=by
     unfold QL
     rw [Ç (by omega)]
     exact congrArg some hb
    simp only [List.getD_cons_zero,Bool.true_and]
    cases hx:Hd x with
    |true=>simp only [Ð,ē,Bool.and_false];exact Ev.pure
    |false =>
     simp only [Ï,hgb,Á,ĥ,İ]
     refine Ev.bind (V2 (x::r) (by rw [<- hb,hl];omega)) ?_
     rw [Bool.not_not]
     exact Ev.pure
 . rw [Ì (show (32:Int)<(s.size:Int) by omega),Ë (show ¬ (1<=s.size/\s.size<=32) by omega)]
   exact Ev.pure
end Go.Sp
namespace Go.Sp
open Go
def Gv (l:List Aa)(s:Æ):Bool:=l.any fun c=>decide (c.Name=s)
section
variable (c:Æ) (c1 c2 c3 c4 c5:Int) (c6:Æ) (c7:List Ag) (c8 c9 c10:Int) (c11:Æ) (c12:List Ag) (c13 c14 c15:Int) (c16:Æ) (c17:List Ag) (c18 c19:Int)
theorem QF (l:List Aa)(hl:l.length<=1000000):∀ (r:List Aa) (k:Nat),l.drop k=r->k<=l.length ->
 ∃ v,Ev (fun n=>AF n l c c1 c2 c3 c4 c5 c6 c7 c8 c9 c10 c11 c12 c13 c14 c15 c16 c17 c18 c19 (k:Int)) v/\(match v with|.inl _=>Gv r c=false|.inr i=>0<=i/\Gv r c=true)
 | [],k,hr,hk=>by
  have he:=JI hr hk
  refine⟨.inl (),Ev.step (f:=fun _=>some (.inl ())) (fun n=>?_) Ev.pure,rfl⟩
  rw [DL,show (decide ((k:Int)<(l.length:Int)))=false by rw [Ù];omega];rfl
 |x::r,k,hr,hk=>by
  obtain⟨h1,h2⟩:=F6 hr
  have e:∀ n,AF (n+1) l c c1 c2 c3 c4 c5 c6 c7 c8 c9 c10 c11 c12 c13 c14 c15 c16 c17 c18 c19 (k:Int)=bif decide (x.Name=c) then some (.inr (k:Int)) else AF n l c c1 c2 c3 c4 c5 c6 c7 c8 c9 c10 c11 c12 c13 c14 c15 c16 c17 c18 c19 ((k+1:Nat):Int):=fun n=>by
   rw [DL,P2 h2,Ð,O5 hr,Á]
   unfold DC
   rw [Á,NU (by omega)]
  have hc:Gv (x::r) c=(decide (x.Name=c)||Gv r c):=by unfold Gv;rw [ı]
  rw [hc]
  cases hx:(decide (x.Name=c)) with
  |true =>
   refine⟨.inr (k:Int),Ev.step e ?_,by omega,rfl⟩
   rw [hx];exact Ev.pure
  |false =>
   obtain⟨v,k1,k2⟩:=QF l hl r (k+1) h1 (by omega)
   refine⟨v,Ev.step e ?_,?_⟩
   . rw [hx];exact k1
   . rw [Bool.false_or];exact k2
theorem TN (l:List Aa)(hl:l.length<=1000000):Ev (fun n=>Bu n c c1 c2 c3 c4 c5 c6 c7 c8 c9 c10 c11 c12 c13 c14 c15 c16 c17 c18 c19 l) (Gv l c):=by
 obtain⟨v,h1,h2⟩:=QF c c1 c2 c3 c4 c5 c6 c7 c8 c9 c10 c11 c12 c13 c14 c15 c16 c17 c18 c19 l hl l 0 rfl (ü _)
 unfold Bu CC
 cases v with
 |inl _ =>
  have h2:Gv l c=false:=h2
  rw [h2]
  exact Ev.bind (Ev.bind h1 Ev.pure) Ev.pure
 |inr i =>
  have h2:0<=i/\Gv l c=true:=h2
  rw [h2.2]
  refine Ev.bind (Ev.bind h1 Ev.pure) ?_
  rw [Ì h2.1];exact Ev.pure
end
end Go.Sp
namespace Go.Sp
open Go
set_option maxRecDepth 100000
def IF (x:Aa):Bool:=decide (x.Rank<0∨9<x.Rank∨x.Known<0∨41666<x.Known∨(x.Kind<3/\x.Houses≠0)∨(x.Kind=3/\(x.Houses<1∨4095<x.Houses)))
def EW (e:Ag)(t:Int):Int:=if (B4 e).2.2.E≠0 then (B4 e).2.2.E else if (B4 e).1≠t then 7 else 0
def Gt (x:Aa):Int:=if EW x.From 2≠0 then EW x.From 2 else if EW x.To 2≠0 then EW x.To 2 else EW x.When 3
def Cd (l:List Aa)(x:Aa):Int :=
 if Me x.Name=false then 6 else if Gv l x.Name=true then 9 else if x.Kind<1∨3<x.Kind then 1 else if IF x=true then 3 else Gt x
theorem Wi (x:Aa)(hk:1<=x.Kind/\x.Kind<=3):((bif (decide (x.Rank<0)) then
 some true
 else
  bif (decide (9<x.Rank)) then
   some true
  else
   bif (decide (x.Known<0)) then
    some true
   else
    bif (decide (41666<x.Known)) then
     some true
    else
     bif (!(x.Kind == 3)) then
      bif (x.Houses != 0) then
       some true
      else
       bif (x.Kind == 3) then
        bif (decide (x.Houses<1)) then
         some true
        else
         some (decide (4096<=x.Houses))
       else
        some false
     else
      bif (x.Kind == 3) then
       bif (decide (x.Houses<1)) then
        some true
       else
        some (decide (4096<=x.Houses))
      else
       some false
 ):Option Bool)=some (IF x):=by
 unfold IF
 by_cases h1:x.Rank<0
 . simp [h1]
 by_cases h2:9<x.Rank
 . simp [h1,h2]
 by_cases h3:x.Known<0
 . simp [h1,h2,h3]
 by_cases h4:41666<x.Known
 . simp [h1,h2,h3,h4]
 by_cases h5:x.Kind=3
 . by_cases h6:x.Houses<1
   . simp [h1,h2,h3,h4,h5,h6]
   . have:(4096<=x.Houses)↔(4095<x.Houses):=by omega
     simp [h1,h2,h3,h4,h5,h6,this]
 . have h7:x.Kind<3:=by omega
   have b:(x.Kind == 3)=false:=by simpa using h5
   by_cases h6:x.Houses=0
   . simp [h1,h2,h3,h4,h5,h6,h7,b]
   . have b2:(x.Houses != 0)=true:=by simpa using h6
     simp [h1,h2,h3,h4,h5,h6,h7,b,b2]
theorem NY {n:Nat}{e:Ag}{t:Int}(hs:ER e=true)(r:Option (Unit ⊕ Int)):((Jg e).bind fun f=>bif (f.2.2.E != 0) then some (.inr f.2.2.E) else bif (f.1 != t) then some (.inr 7) else r)=if EW e t≠0 then some (.inr (EW e t)) else r:=by
 rw [Aah hs,Á]
 unfold EW
 by_cases c:(B4 e).2.2.E=0
 . rw [show ((B4 e).2.2.E != 0)=false by simpa using c,Ï,Ä (show ¬ (B4 e).2.2.E≠0 by simpa using c)]
   by_cases c2:(B4 e).1=t
   . rw [show ((B4 e).1 != t)=false by simpa using c2,Ä (show ¬ (B4 e).1≠t by simpa using c2)];rfl
   . rw [show ((B4 e).1 != t)=true by simpa using c2,Ç c2];rfl
 . rw [show ((B4 e).2.2.E != 0)=true by simpa using c,Ç (show (B4 e).2.2.E≠0 from c),Ç (show (B4 e).2.2.E≠0 from c)];rfl
theorem VT (x:Aa)(hs:I8 x)(n:Nat):A9 (n+4) x 0=if Gt x=0 then some (.inl ()) else some (.inr (Gt x)):=by
 obtain⟨s1,s2,s3⟩:=hs
 have e3:A9 (n+1) x 3=some (.inl ()):=by rw [DJ];rfl
 have e2:A9 (n+2) x 2=if EW x.When 3≠0 then some (.inr (EW x.When 3)) else some (.inl ()):=by
  rw [DJ,<- e3,<- NY (n:=n) (t:=3) s3];rfl
 have e1:A9 (n+3) x 1=if EW x.To 2≠0 then some (.inr (EW x.To 2)) else A9 (n+2) x 2:=by
  rw [DJ,<- NY (n:=n) (t:=2) s2];rfl
 have e0:A9 (n+4) x 0=if EW x.From 2≠0 then some (.inr (EW x.From 2)) else A9 (n+3) x 1:=by
  rw [DJ,<- NY (n:=n) (t:=2) s1];rfl
 rw [e0,e1,e2]
 unfold Gt
 by_cases a:EW x.From 2=0
 . by_cases b:EW x.To 2=0
   . by_cases c:EW x.When 3=0
     . simp [a,b,c]
     . simp [a,b,c]
   . simp [a,b]
 . simp [a]
end Go.Sp
namespace Go.Sp
open Go
set_option maxRecDepth 100000
def DZ (l:List Aa):List Aa->Nat->Int
 | [],_=>0
 |x::r,k=>if Cd (l.take k) x≠0 then Cd (l.take k) x else DZ l r (k+1)
def CX (l:List Aa):Int:=if 40<l.length then 2 else DZ l l 0
def Z4 (e:Int):Unit ⊕ Int:=if e=0 then .inl () else .inr e
theorem Ag4 {l:List Aa}{k:Nat}(h:k<=l.length):ZS l 0 (k:Int)=some (l.take k):=by
 unfold ZS
 rw [Ç (by omega)];simp
theorem Y9 (x:Aa):((bif (decide (x.Kind<1)) then some true else some (decide (3<x.Kind))):Option Bool)=some (decide (x.Kind<1∨3<x.Kind)):=by
 by_cases h:x.Kind<1
 . simp [h]
 . simp [h]
theorem Ags {e:Int}:(if e=0 then (.inl ():Unit ⊕ Int) else .inr e)=Z4 e:=rfl
theorem U6 (l:List Aa)(hl:l.length<=40)(hs:∀ c∈l,I8 c):∀ (r:List Aa) (k:Nat),l.drop k=r->k<=l.length->Ev (fun n=>Cz n l (k:Int)) (Z4 (DZ l r k))
 | [],k,hr,hk=>by
  have he:=JI hr hk
  refine Ev.step (f:=fun _=>some (.inl ())) (fun n=>?_) Ev.pure
  rw [Hk,show (decide ((k:Int)<(l.length:Int)))=false by rw [Ù];omega];rfl
 |x::r,k,hr,hk=>by
  obtain⟨h1,h2⟩:=F6 hr
  have hmem:x∈l:=ë (by rw [hr];simp)
  have ih:=U6 l hl hs r (k+1) h1 (by omega)
  refine Ev.step (fun n=>Hk n l (k:Int)) ?_
  simp only [P2 h2,Ð,O5 hr,Á,Ag4 hk,Y9,NU (show k<4611686018427387904 by omega)]
  rw [DZ]
  refine Ev.bind (YC x.Name) ?_
  cases hn:Me x.Name with
  |false =>
   have:Cd (l.take k) x=6:=by unfold Cd;rw [Ç hn]
   rw [this,Ç (by decide)]
   exact Ev.pure
  |true =>
   simp only [ē,Ï]
   refine Ev.bind (TN _ _ _ _ _ _ _ _ _ _ _ _ _ _ _ _ _ _ _ _ (l.take k) (by rw [List.length_take];omega)) ?_
   cases hm:Gv (l.take k) x.Name with
   |true =>
    have:Cd (l.take k) x=9:=by unfold Cd;rw [Ä (by rw [hn];simp),Ç hm]
    rw [this,Ç (by decide)]
    exact Ev.pure
   |false =>
    simp only [Ï]
    by_cases hkd:x.Kind<1∨3<x.Kind
    . have:Cd (l.take k) x=1:=by unfold Cd;rw [Ä (by rw [hn];simp),Ä (by rw [hm];simp),Ç hkd]
      rw [this,Ç (by decide),Ì hkd]
      exact Ev.pure
    . rw [Ë hkd]
      simp only [Ï,Wi x (by omega),Á]
      cases hrg:IF x with
      |true =>
       have:Cd (l.take k) x=3:=by unfold Cd;rw [Ä (by rw [hn];simp),Ä (by rw [hm];simp),Ä hkd,Ç hrg]
       rw [this,Ç (by decide)]
       exact Ev.pure
      |false =>
       have hce:Cd (l.take k) x=Gt x:=by unfold Cd;rw [Ä (by rw [hn];simp),Ä (by rw [hm];simp),Ä hkd,Ä (by rw [hrg];simp)]
       rw [hce]
       simp only [Ï]
       have hw:∀ n,E3 x.Name x.Kind x.Rank x.Known x.From.Op x.From.N x.From.S x.From.Kids x.From.At x.To.Op x.To.N x.To.S x.To.Kids x.To.At x.When.Op x.When.N x.When.S x.When.Kids x.When.At x.Houses=some n:=fun n=>rfl
       simp only [hw (),Á]
       have ht:Ev (fun n=>A9 n x 0) (if Gt x=0 then .inl () else .inr (Gt x)):=⟨4,fun n hn=>by
        obtain⟨m,rfl⟩:∃ m,n=m+4:=⟨n-4,by omega⟩
        show A9 (m+4) x 0=_
        rw [VT x (hs x hmem) m];split<;>rfl⟩
       refine Ev.bind ht ?_
       by_cases c:Gt x=0
       . rw [Ç c,Ä (show ¬ Gt x≠0 by simpa using c)]
         exact ih
       . rw [Ä c,Ç c]
         have:Z4 (Gt x)=.inr (Gt x):=by unfold Z4;rw [Ä c]
         rw [this]
         exact Ev.pure
theorem JM (l:List Aa)(hs:∀ c∈l,I8 c):Ev (fun n=>Ff n l) (CX l):=by
 unfold Ff CX
 by_cases h:40<l.length
 . rw [Ì (show (40:Int)<(l.length:Int) by omega),Ç h];exact Ev.pure
 . rw [Ë (show ¬ (40:Int)<(l.length:Int) by omega),Ä h]
   simp only [Ï,Á]
   refine Ev.bind (U6 l (by omega) hs l 0 rfl (ü _)) ?_
   unfold Z4
   by_cases c:DZ l l 0=0
   . rw [Ç c,c];exact Ev.pure
   . rw [Ä c];exact Ev.pure
end Go.Sp
namespace Go.Sp
open Go
structure RP {α:Type} (l l':List α) (a b:Nat):Prop where
 len:l'.length=l.length
 out:∀ i,i<a∨b<=i->l'[i]?=l[i]?
 inn:∀ i,a<=i->i<b->∃ k,a<=k/\k<b/\l'[i]?=l[k]?
 perm:l'.Perm l
section
variable {α:Type} {l l' l2:List α} {a b:Nat}
theorem RP.refl:RP l l a b:=⟨rfl,fun _ _=>rfl,fun i h1 h2=>⟨i,h1,h2,rfl⟩,.refl _⟩
theorem RP.trans (h:RP l l' a b)(k:RP l' l2 a b):RP l l2 a b:=by
 refine⟨k.len.trans h.len,fun i hi=>(k.out i hi).trans (h.out i hi),fun i h1 h2=>?_,k.perm.trans h.perm⟩
 obtain⟨j,h3,h4,h5⟩:=k.inn i h1 h2
 obtain⟨j2,h6,h7,h8⟩:=h.inn j h3 h4
 exact⟨j2,h6,h7,h5.trans h8⟩
theorem RP.mono {a' b':Nat}(h:RP l l' a b)(ha:a'<=a)(hb:b<=b'):RP l l' a' b':=by
 refine⟨h.len,fun i hi=>h.out i (by omega),fun i h1 h2=>?_,h.perm⟩
 by_cases hi:a<=i/\i<b
 . obtain⟨k,h3,h4,h5⟩:=h.inn i hi.1 hi.2
   exact⟨k,by omega,by omega,h5⟩
 . exact⟨i,h1,h2,h.out i (by omega)⟩
theorem swp_get {i j:Nat}(hi:i<l.length)(hj:j<l.length)(x:Nat):((l.set i l[j]).set j l[i])[x]?=if x=j then l[i]? else if x=i then l[j]? else l[x]?:=by
 rw [List.getElem?_set]
 by_cases h:x=j
 . subst h;simp [hi,hj]
 . rw [Ä (fun e=>h e.symm),Ä h,List.getElem?_set]
   by_cases h2:x=i
   . subst h2;simp [hi,hj]
   . rw [Ä (fun e=>h2 e.symm),Ä h2]
theorem Zp {i j:Nat}(hi:i<l.length)(hj:j<l.length):((l.set i l[j]).set j l[i]).Perm l:=by
 have h:=Array.swap_perm (xs:=l.toArray) (i:=i) (j:=j) (by simpa using hi) (by simpa using hj)
 have h2:=Array.perm_iff_toList_perm.1 h
 have e:(l.toArray.swap i j (by simpa using hi) (by simpa using hj)).toList=(l.set i l[j]).set j l[i]:=by simp [Array.swap]
 rw [e] at h2
 simpa using h2
theorem RP.swp {i j:Nat}(hi:i<l.length)(hj:j<l.length)(h1:a<=i/\i<b)(h2:a<=j/\j<b):RP l ((l.set i l[j]).set j l[i]) a b:=by
 refine⟨by simp,fun x hx=>?_,fun x h3 h4=>?_,Zp hi hj⟩
 . rw [swp_get hi hj,Ä (by omega),Ä (by omega)]
 . rw [swp_get hi hj]
   split
   . exact⟨i,h1.1,h1.2,rfl⟩
   . split
     . exact⟨j,h2.1,h2.2,rfl⟩
     . exact⟨x,h3,h4,rfl⟩
end
end Go.Sp
namespace Go.Sp
open Go Go.Vl
section
variable {α:Type}
theorem giN (l:List α)(i:Nat):gi l (i:Int)=l[i]?:=by unfold gi;rw [Ç (by omega)];rfl
theorem Adn {l:List α}{i:Nat}(h:i<l.length)(x:α):HI l (i:Int) x=some (l.set i x):=by unfold HI;rw [Ç (by omega)];rfl
theorem gxN {n i:Nat}(h:i<n):gx n (i:Int)=some ():=by unfold gx;rw [Ç (by omega)]
def swp (l:List α)(i j:Nat):List α:=match l[i]?,l[j]? with
 |some x,some y=>(l.set i y).set j x
 |_,_=>l
theorem VV {l:List α}{i j:Nat}(hi:i<l.length)(hj:j<l.length):swp l i j=(l.set i l[j]).set j l[i]:=by
 unfold swp;rw [Ã hi,Ã hj]
theorem SV {l:List α}{i j:Nat}(hi:i<l.length)(hj:j<l.length)(x:Nat):(swp l i j)[x]?=if x=j then l[i]? else if x=i then l[j]? else l[x]?:=by
 rw [VV hi hj,swp_get hi hj]
theorem SU {l:List α}{a b i j:Nat}(hi:i<l.length)(hj:j<l.length)(h1:a<=i/\i<b)(h2:a<=j/\j<b):RP l (swp l i j) a b:=by
 rw [VV hi hj];exact .swp hi hj h1 h2
theorem Pz {β:Type}{l:List α}{i j n:Nat}{ii jj:Int}(hi:i<l.length)(hj:j<l.length)(hn:l.length<=n)(ei:ii=i)(ej:jj=j)(k:List α->Option β) :
 ((gx n jj).bind fun _=>(gi l jj).bind fun x=>(gx n ii).bind fun _=>(gi l ii).bind fun x1=>(HI l ii x).bind fun d=>(HI d jj x1).bind k)=k (swp l i j):=by
 subst ei;subst ej
 rw [gxN (by omega),giN,giN,Ã hi,Ã hj,gxN (by omega)]
 simp only [Á]
 rw [Adn hi]
 simp only [Á]
 rw [Adn (by simpa using hj)]
 rw [VV hi hj];rfl
end
section
variable (cv:List Aa)
def rk (x:Ac):Int:=match gi cv x.clause with
 |some c=>c.Rank
 |none=>0
def GH (l:List Ac)(i:Nat):Int:=match l[i]? with
 |some x=>rk cv x
 |none=>0
def okC (x:Ac):Prop:=∃ c,gi cv x.clause=some c/\0<=c.Rank/\c.Rank<=9
def RF (l:List Ac):Prop:=∀ x∈l,okC cv x
def SR (l:List Ac)(a b:Nat):Prop:=∀ i j,a<=i->i<j->j<b->GH cv l j<=GH cv l i
end
variable {cv:List Aa}
theorem RF.rp {l l':List Ac}{a b:Nat}(h:RF cv l)(r:RP l l' a b):RF cv l':=fun x hx=>h x (r.perm.mem_iff.1 hx)
theorem Jw {l l':List Ac}{i j:Nat}(h:l'[i]?=l[j]?):GH cv l' i=GH cv l j:=by unfold GH;rw [h]
theorem Afb {x y:Ac}(hx:okC cv x)(hy:okC cv y):Cc cv x y=some (rk cv y-rk cv x):=by
 obtain⟨c,h1,h2,h3⟩:=hx
 obtain⟨e,h4,h5,h6⟩:=hy
 unfold Cc rk
 rw [h1,h4]
 simp only [Á]
 rw [Ew (by omega) (by omega)]
theorem P8 {β:Type}{l:List Ac}{i j n:Nat}{ii jj:Int}(ok:RF cv l)(hi:i<l.length)(hj:j<l.length)(hn:l.length<=n)(ei:ii=i)(ej:jj=j)(k:Int->Option β) :
 ((gx n ii).bind fun _=>(gi l ii).bind fun x=>(gx n jj).bind fun _=>(gi l jj).bind fun y=>(Cc cv x y).bind k)=k (GH cv l j-GH cv l i):=by
 subst ei;subst ej
 rw [gxN (by omega),giN,giN,Ã hi,Ã hj,gxN (by omega)]
 simp only [Á]
 rw [Afb (ok _ (Ú hi)) (ok _ (Ú hj))]
 unfold GH
 rw [Ã hi,Ã hj];rfl
theorem wN {x:Int}{k:Nat}(h:x=k)(hk:k<1000000):À x=k:=by rw [Ew (by omega) (by omega),h]
theorem Acm {x:Int}{i j:Nat}(h:x=(i:Int)+j)(hk:i+j<1000000):(À ((IntKind.u64.wrap (À x)).fdiv (2 ^ min (1:Int).toNat IntKind.u64.bits)))=(((i+j) / 2:Nat):Int):=by
 have e1:À x=((i+j:Nat):Int):=wN (by omega) hk
 have e2:IntKind.u64.wrap ((i+j:Nat):Int)=((i+j:Nat):Int):=by
  simp only [IntKind.wrap,IntKind.bits,IntKind.signed]
  simp
  omega
 rw [e1,e2]
 have e3:(2 ^ min (1:Int).toNat IntKind.u64.bits:Int)=2:=rfl
 rw [e3]
 have e4:(((i+j:Nat):Int)).fdiv 2=(((i+j) / 2:Nat):Int):=by
  rw [Int.fdiv_eq_ediv_of_nonneg _ (by decide)];omega
 rw [e4]
 exact wN rfl (by omega)
theorem Agd {N a J:Nat}(hJN:J<100000):∀ (j:Nat) (l:List Ac),l.length<=N->RF cv l->a<=j->j<=J->J<l.length ->
 (∀ i k,a<=i->i<k->k<=J->i≠j->k≠j->GH cv l k<=GH cv l i)->(∀ k,j<k->k<=J->GH cv l k<=GH cv l j) ->
 ∃ l',RP l l' a (J+1)/\SR cv l' a (J+1)/\Ev (fun n=>Av n (a:Int) N cv (j:Int) l) l':=by
 intro j
 induction j with
 |zero =>
  intro l hN ok ha hj hJ h1 h2
  refine⟨l,.refl,fun i k h3 h4 h5=>?_,.step (fun n=>BG n a N cv _ l) ?_⟩
  . by_cases hi:i=0
    . subst hi;exact h2 k h4 (by omega)
    . exact h1 i k h3 h4 (by omega) hi (by omega)
  . refine .of fun n=>?_
    have:decide ((a:Int)<((0:Nat):Int))=false:=by simp
    rw [this];rfl
 |succ j ih =>
  intro l hN ok ha hj hJ h1 h2
  have w1:À (((j+1:Nat):Int)-1)=(j:Int):=wN (by omega) (by omega)
  by_cases haj:a=j+1
  . refine⟨l,.refl,fun i k h3 h4 h5=>?_,.step (fun n=>BG n a N cv _ l) ?_⟩
    . by_cases hi:i=j+1
      . subst hi;exact h2 k h4 (by omega)
      . exact h1 i k h3 h4 (by omega) hi (by omega)
    . refine .of fun n=>?_
      have:decide ((a:Int)<((j+1:Nat):Int))=false:=by simp;omega
      rw [this];rfl
  have hlt:decide ((a:Int)<((j+1:Nat):Int))=true:=by simp;omega
  have e:∀ n,Av (n+1) (a:Int) N cv ((j+1:Nat):Int) l=if GH cv l j-GH cv l (j+1)<0 then Av n (a:Int) N cv (j:Int) (swp l (j+1) j) else some l:=by
   intro n
   rw [BG,hlt]
   simp only [Ð]
   rw [P8 (i:=j+1) (j:=j) ok (by omega) (by omega) hN rfl w1]
   simp only [Á]
   by_cases hc:GH cv l j-GH cv l (j+1)<0
   . rw [Ç hc,Ì hc]
     simp only [Ð]
     rw [Pz (i:=j+1) (j:=j) (by omega) (by omega) hN rfl w1,w1]
   . rw [Ä hc,Ë hc];rfl
  by_cases hc:GH cv l j-GH cv l (j+1)<0
  . have r1:RP l (swp l (j+1) j) a (J+1):=SU (by omega) (by omega) ⟨by omega,by omega⟩ ⟨by omega,by omega⟩
    have g:∀ x,GH cv (swp l (j+1) j) x=if x=j then GH cv l (j+1) else if x=j+1 then GH cv l j else GH cv l x:=by
     intro x
     have:=SV (l:=l) (i:=j+1) (j:=j) (by omega) (by omega) x
     split
     . rw [Ç (by assumption)] at this;exact Jw this
     . rw [Ä (by assumption)] at this
       split
       . rw [Ç (by assumption)] at this;exact Jw this
       . rw [Ä (by assumption)] at this;exact Jw this
    obtain⟨l',q1,q2,q3⟩:=ih (swp l (j+1) j) (by rw [r1.len];exact hN) (ok.rp r1) (by omega) (by omega) (by rw [r1.len];exact hJ) (by
     intro i k h3 h4 h5 h6 h7
     rw [g,g,Ä h7,Ä h6]
     by_cases hk:k=j+1
     . rw [Ç hk,Ä (by omega)]
       exact h1 i j h3 (by omega) (by omega) (by omega) (by omega)
     . rw [Ä hk]
       by_cases hi:i=j+1
       . rw [Ç hi];exact h1 j k (by omega) (by omega) h5 (by omega) hk
       . rw [Ä hi];exact h1 i k h3 h4 h5 hi hk) (by
     intro k h3 h4
     rw [g,g,Ä (by omega),Ç rfl]
     by_cases hk:k=j+1
     . rw [Ç hk];omega
     . rw [Ä hk];exact h2 k (by omega) h4)
    refine⟨l',r1.trans q1,q2,.step e (q3.congr fun n=>by rw [Ç hc])⟩
  . refine⟨l,.refl,fun i k h3 h4 h5=>?_,.step e (.of fun n=>by rw [Ä hc])⟩
    have hjj:GH cv l (j+1)<=GH cv l j:=by omega
    by_cases hi:i=j+1
    . subst hi;exact h2 k h4 (by omega)
    . by_cases hk:k=j+1
      . subst hk
        by_cases hij:i=j
        . subst hij;exact hjj
        . have:=h1 i j h3 (by omega) (by omega) hi (by omega);omega
      . exact h1 i k h3 h4 (by omega) hi hk
theorem Age {N a b:Nat}(hb:b<100000):∀ (m i:Nat) (l:List Ac),b-i=m->l.length<=N->RF cv l->a<i->b<=l.length->SR cv l a i ->
 ∃ l',RP l l' a b/\SR cv l' a b/\Ev (fun n=>A8 n (b:Int) (a:Int) N cv (i:Int) l) l':=by
 intro m
 induction m with
 |zero =>
  intro i l hm hN ok ha hbl hs
  refine⟨l,.refl,fun x y h1 h2 h3=>hs x y h1 h2 (by omega),.step (fun n=>C6 n b a N cv _ l) (.of fun n=>?_)⟩
  have:decide ((i:Int)<(b:Int))=false:=by simp;omega
  rw [this];rfl
 |succ m ih =>
  intro i l hm hN ok ha hbl hs
  obtain⟨l1,r1,s1,e1⟩:=Agd (cv:=cv) (N:=N) (a:=a) (J:=i) (by omega) i l hN ok (by omega) (by omega) (by omega) (fun x y h1 h2 h3 h4 h5=>hs x y h1 h2 (by omega)) (fun k h1 h2=>by omega)
  obtain⟨l2,r2,s2,e2⟩:=ih (i+1) l1 (by omega) (by rw [r1.len];exact hN) (ok.rp r1) (by omega) (by rw [r1.len];exact hbl) s1
  refine⟨l2,(r1.mono (by omega) (by omega)).trans r2,s2,.step (fun n=>C6 n b a N cv _ l) ?_⟩
  have hlt:decide ((i:Int)<(b:Int))=true:=by simp;omega
  have w1:À ((i:Int)+1)=((i+1:Nat):Int):=wN (by omega) (by omega)
  refine Ev.congr (f:=_) (e1.bind e2) fun n=>?_
  rw [hlt,w1];rfl
theorem QD {N a b:Nat}{l:List Ac}(hb:b<100000)(hab:a<100000)(hN:l.length<=N)(ok:RF cv l)(hbl:b<=l.length) :
 ∃ l',RP l l' a b/\SR cv l' a b/\Ev (fun n=>A6 n cv N l (a:Int) (b:Int)) l':=by
 obtain⟨l',r,s,e⟩:=Age (cv:=cv) (N:=N) (a:=a) (b:=b) hb (b-(a+1)) (a+1) l rfl hN ok (by omega) hbl (fun x y h1 h2 h3=>by omega)
 refine⟨l',r,s,(e.bind (g:=fun _=>some) .pure).congr fun n=>?_⟩
 unfold A6
 rw [wN (k:=a+1) (by omega) (by omega)]
def SwD (l l':List Ac)(a b c i:Nat):Prop:=∀ x,l'[x]?=if a+i<=x/\x<a+c then l[b+(x-a)]? else if b+i<=x/\x<b+c then l[a+(x-b)]? else l[x]?
theorem Afq {N a b c:Nat}(hab:a+c<=b)(hb:b+c<100000):∀ (m i:Nat) (l:List Ac),c-i=m->i<=c->l.length<=N->b+c<=l.length ->
 ∃ l',RP l l' a (b+c)/\SwD l l' a b c i/\Ev (fun n=>AG n (c:Int) N (b:Int) (a:Int) (i:Int) l) l':=by
 intro m
 induction m with
 |zero =>
  intro i l hm hi hN hl
  refine⟨l,.refl,fun x=>?_,.step (fun n=>CQ n c N b a _ l) (.of fun n=>?_)⟩
  . rw [Ä (by omega),Ä (by omega)]
  . have:decide ((i:Int)<(c:Int))=false:=by simp;omega
    rw [this];rfl
 |succ m ih =>
  intro i l hm hi hN hl
  have r1:RP l (swp l (a+i) (b+i)) a (b+c):=SU (by omega) (by omega) ⟨by omega,by omega⟩ ⟨by omega,by omega⟩
  obtain⟨l2,r2,s2,e2⟩:=ih (i+1) (swp l (a+i) (b+i)) (by omega) (by omega) (by rw [r1.len];exact hN) (by rw [r1.len];exact hl)
  refine⟨l2,r1.trans r2,fun x=>?_,.step (fun n=>CQ n c N b a _ l) (e2.congr fun n=>?_)⟩
  . rw [s2 x]
    have g:=fun y=>SV (l:=l) (i:=a+i) (j:=b+i) (by omega) (by omega) y
    by_cases h1:a+i<=x/\x<a+c
    . rw [Ç h1]
      by_cases h2:x=a+i
      . subst h2
        rw [Ä (by omega),Ä (by omega),g,Ä (by omega),Ç rfl]
        congr 1;omega
      . rw [Ç (by omega),g,Ä (by omega),Ä (by omega)]
    . rw [Ä h1,Ä (by omega)]
      by_cases h2:b+i<=x/\x<b+c
      . rw [Ç h2]
        by_cases h3:x=b+i
        . subst h3
          rw [Ä (by omega),g,Ç rfl];congr 1;omega
        . rw [Ç (by omega),g,Ä (by omega),Ä (by omega)]
      . rw [Ä h2,Ä (by omega),g,Ä (by omega),Ä (by omega)]
  . have hlt:decide ((i:Int)<(c:Int))=true:=by simp;omega
    have w1:À ((i:Int)+1)=((i+1:Nat):Int):=wN (by omega) (by omega)
    have w2:À ((b:Int)+i)=((b+i:Nat):Int):=wN (by omega) (by omega)
    have w3:À ((a:Int)+i)=((a+i:Nat):Int):=wN (by omega) (by omega)
    rw [hlt,w1,w2,w3]
    simp only [Ð]
    rw [Pz (i:=a+i) (j:=b+i) (by omega) (by omega) hN rfl rfl]
theorem SW {N a b c:Nat}{l:List Ac}{aa bb cc:Int}(ea:aa=a)(eb:bb=b)(ec:cc=c)(hab:a+c<=b)(hb:b+c<100000)(hN:l.length<=N)(hl:b+c<=l.length) :
 ∃ l',RP l l' a (b+c)/\SwD l l' a b c 0/\Ev (fun n=>AR n cv N l aa bb cc) l':=by
 subst ea;subst eb;subst ec
 obtain⟨l',r,s,e⟩:=Afq (N:=N) hab hb c 0 l rfl (by omega) hN hl
 exact⟨l',r,s,e.bind .pure⟩
end Go.Sp
namespace Go.Sp
open Go Go.Vl
variable {cv:List Aa}
def Ua (l l':List Ac)(p m q:Nat):Prop:=∀ x,l'[x]?=if p<=x/\x<p+(q-m) then l[x+(m-p)]? else if p+(q-m)<=x/\x<q then l[x-(q-m)]? else l[x]?
theorem Agw {N m:Nat}:∀ (s i j:Nat) (l:List Ac),i+j<=s->0<i->0<j->i<=m->m+j<100000->m+j<=l.length->l.length<=N ->
 ∃ k l1,RP l l1 (m-i) (m+j)/\k<=i/\k<=j/\Ev (fun n=>A1 n cv N (m:Int) (i:Int) (j:Int) l) ((k:Int),l1)/\∀ l',SwD l1 l' (m-k) m k 0->Ua l l' (m-i) m (m+j):=by
 intro s
 induction s with
 |zero=>intro i j l h1 h2;omega
 |succ s ih =>
  intro i j l hs hi hj him hb hl hN
  by_cases hij:i=j
  . subst hij
    refine⟨i,l,.refl,by omega,by omega,.step (fun n=>Cm n cv N m i i l) (.of fun n=>?_),fun l' h x=>?_⟩
    . have:((i:Int) != (i:Int))=false:=by simp
      rw [this];rfl
    . rw [h x]
      by_cases h1:m-i<=x/\x<m
      . rw [Ç (by omega),Ç (by omega)];congr 1;omega
      . by_cases h2:m<=x/\x<m+i
        . rw [Ä (by omega),Ç (by omega),Ä (by omega),Ç (by omega)];congr 1;omega
        . rw [Ä (by omega),Ä (by omega),Ä (by omega),Ä (by omega)]
  have hne:((i:Int) != (j:Int))=true:=by simp;omega
  have w1:À ((m:Int)-i)=((m-i:Nat):Int):=wN (by omega) (by omega)
  by_cases hlt:j<i
  . have w2:À ((i:Int)-j)=((i-j:Nat):Int):=wN (by omega) (by omega)
    obtain⟨l1,r1,s1,e1⟩:=SW (cv:=cv) (N:=N) (a:=m-i) (b:=m) (c:=j) (l:=l) w1 rfl rfl (by omega) (by omega) hN hl
    obtain⟨k,l2,r2,k1,k2,e2,d2⟩:=ih (i-j) j l1 (by omega) (by omega) hj (by omega) hb (by rw [r1.len];exact hl) (by rw [r1.len];exact hN)
    refine⟨k,l2,r1.trans (r2.mono (by omega) (by omega)),by omega,k2,.step (fun n=>Cm n cv N m i j l) ?_,fun l' h x=>?_⟩
    . have hd:decide ((j:Int)<(i:Int))=true:=by simp;omega
      refine (e1.bind (g:=fun n d=>A1 n cv N (m:Int) ((i-j:Nat):Int) (j:Int) d) e2).congr fun n=>?_
      rw [hne,hd,w2];rfl
    . rw [d2 l' h x]
      by_cases h1:m-(i-j)<=x/\x<m-(i-j)+(m+j-m)
      . rw [Ç h1,s1,Ä (by omega),Ç (by omega),Ä (by omega),Ç (by omega)];congr 1;omega
      . rw [Ä h1]
        by_cases h2:m-(i-j)+(m+j-m)<=x/\x<m+j
        . rw [Ç h2,s1,Ä (by omega),Ä (by omega),Ä (by omega),Ç (by omega)]
        . rw [Ä h2,s1]
          by_cases h3:m-i<=x/\x<m-i+j
          . rw [Ç (by omega),Ç (by omega)];congr 1;omega
          . rw [Ä (by omega),Ä (by omega),Ä (by omega),Ä (by omega)]
  . have w2:À ((j:Int)-i)=((j-i:Nat):Int):=wN (by omega) (by omega)
    have w3:À ((À ((m:Int)+j))-i)=((m+j-i:Nat):Int):=by
     have w4:À ((m:Int)+j)=((m+j:Nat):Int):=wN (by omega) (by omega)
     rw [w4];exact wN (by omega) (by omega)
    obtain⟨l1,r1,s1,e1⟩:=SW (cv:=cv) (N:=N) (a:=m-i) (b:=m+j-i) (c:=i) (l:=l) w1 w3 rfl (by omega) (by omega) hN (by omega)
    obtain⟨k,l2,r2,k1,k2,e2,d2⟩:=ih i (j-i) l1 (by omega) hi (by omega) him (by omega) (by rw [r1.len];omega) (by rw [r1.len];exact hN)
    refine⟨k,l2,(r1.mono (by omega) (by omega)).trans (r2.mono (by omega) (by omega)),k1,by omega,.step (fun n=>Cm n cv N m i j l) ?_,fun l' h x=>?_⟩
    . have hd:decide ((j:Int)<(i:Int))=false:=by simp;omega
      refine (e1.bind (g:=fun n d=>A1 n cv N (m:Int) (i:Int) ((j-i:Nat):Int) d) e2).congr fun n=>?_
      rw [hne,hd,w2];rfl
    . rw [d2 l' h x]
      by_cases h1:m-i<=x/\x<m-i+(m+(j-i)-m)
      . rw [Ç h1,s1,Ä (by omega),Ä (by omega),Ç (by omega)]
      . rw [Ä h1]
        by_cases h2:m-i+(m+(j-i)-m)<=x/\x<m+(j-i)
        . rw [Ç h2,s1,Ç (by omega),Ç (by omega)];congr 1;omega
        . rw [Ä h2,s1,Ä (by omega)]
          by_cases h3:m+j-i<=x/\x<m+j
          . rw [Ç (by omega),Ä (by omega),Ç (by omega)];congr 1;omega
          . rw [Ä (by omega),Ä (by omega),Ä (by omega)]
theorem Ad5 {N p m q:Nat}{l:List Ac}{pp qq:Int}(ep:pp=p)(eq:qq=q)(hp:p<m)(hq:m<q)(hb:q<100000)(hl:q<=l.length)(hN:l.length<=N) :
 ∃ l',RP l l' p q/\Ua l l' p m q/\Ev (fun n=>Bn n cv N l pp (m:Int) qq) l':=by
 subst ep;subst eq
 obtain⟨k,l1,r1,k1,k2,e1,d1⟩:=Agw (cv:=cv) (N:=N) (m:=m) ((m-p)+(q-m)) (m-p) (q-m) l (by omega) (by omega) (by omega) (by omega) (by omega) (by omega) hN
 have w1:À ((m:Int)-p)=((m-p:Nat):Int):=wN (by omega) (by omega)
 have w2:À ((q:Int)-m)=((q-m:Nat):Int):=wN (by omega) (by omega)
 have w3:À ((m:Int)-k)=((m-k:Nat):Int):=wN (by omega) (by omega)
 have a1:m-(m-p)=p:=by omega
 have a2:m+(q-m)=q:=by omega
 rw [a1,a2] at r1 d1
 obtain⟨l2,r2,s2,e2⟩:=SW (cv:=cv) (N:=N) (a:=m-k) (b:=m) (c:=k) (l:=l1) w3 rfl rfl (by omega) (by omega) (by rw [r1.len];exact hN) (by rw [r1.len];omega)
 refine⟨l2,r1.trans (r2.mono (by omega) (by omega)),d1 l2 s2,?_⟩
 unfold Bn
 rw [w1,w2]
 exact e1.bind (e2.bind .pure)
theorem half {F:Nat->Int->Int->Option Int}{T:Nat->Bool}{lo hi:Nat}(h:∀ n i j:Nat,lo<=i->i<j->j<=hi->F (n+1) (i:Int) (j:Int)=bif T ((i+j) / 2) then F n (((i+j) / 2+1:Nat):Int) (j:Int) else F n (i:Int) (((i+j) / 2:Nat):Int))
 (h0:∀ n i:Nat,F (n+1) (i:Int) (i:Int)=some (i:Int)):∀ (s i j:Nat),j-i<=s->lo<=i->i<=j->j<=hi->(i=lo∨T (i-1)=true)->(j=hi∨T j=false) ->
 ∃ r:Nat,lo<=r/\r<=hi/\(r=lo∨T (r-1)=true)/\(r=hi∨T r=false)/\Ev (fun n=>F n (i:Int) (j:Int)) (r:Int):=by
 intro s
 induction s with
 |zero =>
  intro i j hs h1 h2 h3 h4 h5
  have:i=j:=by omega
  subst this
  exact⟨i,h1,h3,h4,h5,.step (h0 · i) .pure⟩
 |succ s ih =>
  intro i j hs h1 h2 h3 h4 h5
  by_cases hij:i=j
  . subst hij
    exact⟨i,h1,h3,h4,h5,.step (h0 · i) .pure⟩
  by_cases ht:T ((i+j) / 2)=true
  . obtain⟨r,q1,q2,q3,q4,q5⟩:=ih ((i+j) / 2+1) j (by omega) (by omega) (by omega) h3 (.inr (by simpa using ht)) h5
    exact⟨r,q1,q2,q3,q4,.step (fun n=>h n i j h1 (by omega) h3) (q5.congr fun n=>by rw [ht];rfl)⟩
  . have ht':T ((i+j) / 2)=false:=by simpa using ht
    obtain⟨r,q1,q2,q3,q4,q5⟩:=ih i ((i+j) / 2) (by omega) h1 (by omega) (by omega) h4 (.inr ht')
    exact⟨r,q1,q2,q3,q4,.step (fun n=>h n i j h1 (by omega) h3) (q5.congr fun n=>by rw [ht'];rfl)⟩
theorem mv1 {N i:Nat}(hi:i<100000):∀ (s k:Nat) (l:List Ac),i-k=s->k<i->i<=l.length->l.length<=N ->
 ∃ l',RP l l' k i/\Ua l l' k (k+1) i/\Ev (fun n=>AE n (i:Int) N (k:Int) l) l':=by
 intro s
 induction s with
 |zero=>intro k l h1 h2;omega
 |succ s ih =>
  intro k l hs hk hl hN
  have w1:À ((i:Int)-1)=((i-1:Nat):Int):=wN (by omega) (by omega)
  by_cases hki:k+1=i
  . refine⟨l,.refl,fun x=>?_,.step (fun n=>Dd n i N k l) (.of fun n=>?_)⟩
    . rw [Ä (by omega)]
      by_cases h:k+(i-(k+1))<=x/\x<i
      . rw [Ç h];congr 1;omega
      . rw [Ä h]
    . have:decide ((k:Int)<((i-1:Nat):Int))=false:=by simp;omega
      rw [w1,this];rfl
  have w2:À ((k:Int)+1)=((k+1:Nat):Int):=wN (by omega) (by omega)
  have r1:RP l (swp l k (k+1)) k i:=SU (by omega) (by omega) ⟨by omega,by omega⟩ ⟨by omega,by omega⟩
  obtain⟨l2,r2,s2,e2⟩:=ih (k+1) (swp l k (k+1)) (by omega) (by omega) (by rw [r1.len];exact hl) (by rw [r1.len];exact hN)
  refine⟨l2,r1.trans (r2.mono (by omega) (by omega)),fun x=>?_,.step (fun n=>Dd n i N k l) (e2.congr fun n=>?_)⟩
  . have g:=fun y=>SV (l:=l) (i:=k) (j:=k+1) (by omega) (by omega) y
    rw [s2 x]
    by_cases h1:k+1<=x/\x<k+1+(i-(k+1+1))
    . rw [Ç h1,g,Ä (by omega),Ä (by omega),Ç (by omega)];congr 1;omega
    . rw [Ä h1]
      by_cases h2:k+1+(i-(k+1+1))<=x/\x<i
      . rw [Ç h2,g,Ç (by omega),Ä (by omega),Ç (by omega)];congr 1;omega
      . rw [Ä h2,g]
        by_cases h3:x=k
        . rw [Ä (by omega),Ç h3,Ç (by omega)];congr 1;omega
        . rw [Ä (by omega),Ä h3,Ä (by omega),Ä (by omega)]
  . have hlt:decide ((k:Int)<((i-1:Nat):Int))=true:=by simp;omega
    rw [w1,w2,hlt]
    simp only [Ð]
    rw [Pz (i:=k) (j:=k+1) (by omega) (by omega) hN rfl rfl]
theorem mv3 {N i:Nat}:∀ (s m:Nat) (l:List Ac),m-i=s->m<100000->i<=m->m<l.length->l.length<=N ->
 ∃ l',RP l l' i (m+1)/\Ua l l' i m (m+1)/\Ev (fun n=>AD n (i:Int) N (m:Int) l) l':=by
 intro s
 induction s with
 |zero =>
  intro m l hs hm him hl hN
  refine⟨l,.refl,fun x=>?_,.step (fun n=>Db n i N m l) (.of fun n=>?_)⟩
  . by_cases h:i<=x/\x<i+(m+1-m)
    . rw [Ç h];congr 1;omega
    . rw [Ä h,Ä (by omega)]
  . have:decide ((i:Int)<(m:Int))=false:=by simp;omega
    rw [this];rfl
 |succ s ih =>
  intro m l hs hm him hl hN
  have w2:À ((m:Int)-1)=((m-1:Nat):Int):=wN (by omega) (by omega)
  have r1:RP l (swp l m (m-1)) i (m+1):=SU (by omega) (by omega) ⟨by omega,by omega⟩ ⟨by omega,by omega⟩
  obtain⟨l2,r2,s2,e2⟩:=ih (m-1) (swp l m (m-1)) (by omega) (by omega) (by omega) (by rw [r1.len];omega) (by rw [r1.len];exact hN)
  refine⟨l2,r1.trans (r2.mono (by omega) (by omega)),fun x=>?_,.step (fun n=>Db n i N m l) (e2.congr fun n=>?_)⟩
  . have g:=fun y=>SV (l:=l) (i:=m) (j:=m-1) (by omega) (by omega) y
    rw [s2 x]
    by_cases h1:i<=x/\x<i+(m-1+1-(m-1))
    . rw [Ç h1,g,Ç (by omega),Ç (by omega)];congr 1;omega
    . rw [Ä h1]
      by_cases h2:i+(m-1+1-(m-1))<=x/\x<m-1+1
      . rw [Ç h2,g,Ä (by omega),Ä (by omega),Ä (by omega),Ç (by omega)];congr 1;omega
      . rw [Ä h2,g,Ä (by omega)]
        by_cases h3:x=m
        . rw [Ç h3,Ä (by omega),Ç (by omega)];congr 1;omega
        . rw [Ä h3,Ä (by omega),Ä (by omega)]
  . have hlt:decide ((i:Int)<(m:Int))=true:=by simp;omega
    rw [hlt,w2]
    simp only [Ð]
    rw [Pz (i:=m) (j:=m-1) (by omega) (by omega) hN rfl rfl]
end Go.Sp
namespace Go.Sp
open Go Go.Vl
variable {cv:List Aa}
section
variable {l l':List Ac} {a b m:Nat}
theorem SR.join (h1:SR cv l a m)(h2:SR cv l m b)(h3:∀ i j,a<=i->i<m->m<=j->j<b->GH cv l j<=GH cv l i):SR cv l a b:=by
 intro i j hi hij hj
 by_cases c1:j<m
 . exact h1 i j hi hij c1
 . by_cases c2:m<=i
   . exact h2 i j c2 hij hj
   . exact h3 i j hi (by omega) (by omega) hj
theorem SR.le (h:SR cv l a b){i j:Nat}(h1:a<=i)(h2:i<=j)(h3:j<b):GH cv l j<=GH cv l i:=by
 by_cases c:i=j
 . subst c;omega
 . exact h i j h1 (by omega) h3
theorem SR.keep {x y:Nat}(h:SR cv l x y)(r:RP l l' a b)(hx:y<=a∨b<=x):SR cv l' x y:=by
 intro i j h1 h2 h3
 rw [Jw (r.out i (by omega)),Jw (r.out j (by omega))]
 exact h i j h1 h2 h3
end
theorem Ua.rk {l l':List Ac}{p m q:Nat}(h:Ua l l' p m q)(x:Nat):GH cv l' x=if p<=x/\x<p+(q-m) then GH cv l (x+(m-p)) else if p+(q-m)<=x/\x<q then GH cv l (x-(q-m)) else GH cv l x:=by
 have e:=h x
 split
 . rw [Ç (by assumption)] at e;exact Jw e
 . rw [Ä (by assumption)] at e
   split
   . rw [Ç (by assumption)] at e;exact Jw e
   . rw [Ä (by assumption)] at e;exact Jw e
theorem Ua.parts {l l':List Ac}{a b p m q:Nat}(h:Ua l l' p m q)(s1:SR cv l a m)(s2:SR cv l m b)(ap:a<=p)(pm:p<=m)(mq:m<=q)(qb:q<=b)
 (c1:a<p->q<b->GH cv l q<=GH cv l (p-1)) (c2:p<m->m<q->GH cv l p<=GH cv l (q-1)) :
 SR cv l' a p/\SR cv l' p (p+(q-m))/\SR cv l' (p+(q-m)) q/\SR cv l' q b/\(∀ i j,a<=i->i<p+(q-m)->p+(q-m)<=j->j<b->GH cv l' j<=GH cv l' i):=by
 have e:=h.rk (cv:=cv)
 refine⟨fun i j h1 h2 h3=>?_,fun i j h1 h2 h3=>?_,fun i j h1 h2 h3=>?_,fun i j h1 h2 h3=>?_,fun i j h1 h2 h3 h4=>?_⟩
 . rw [e,e,Ä (by omega),Ä (by omega),Ä (by omega),Ä (by omega)];exact s1 i j h1 h2 (by omega)
 . rw [e,e,Ç (by omega),Ç (by omega)];exact s2 _ _ (by omega) (by omega) (by omega)
 . rw [e,e,Ä (by omega),Ç (by omega),Ä (by omega),Ç (by omega)];exact s1 _ _ (by omega) (by omega) (by omega)
 . rw [e,e,Ä (by omega),Ä (by omega),Ä (by omega),Ä (by omega)];exact s2 i j (by omega) h2 h3
 . rw [e,e,Ä (by omega)]
   by_cases ci:i<p
   . rw [Ä (c:=p<=i/\i<p+(q-m)) (by omega),Ä (c:=p+(q-m)<=i/\i<q) (by omega)]
     by_cases cj:j<q
     . rw [Ç (by omega)];exact s1.le h1 (by omega) (by omega)
     . rw [Ä (by omega)]
       have x1:=s2.le (i:=q) (j:=j) mq (by omega) h4
       have x2:=s1.le (i:=i) (j:=p-1) h1 (by omega) (by omega)
       have x3:=c1 (by omega) (by omega)
       omega
   . rw [Ç (c:=p<=i/\i<p+(q-m)) (by omega)]
     by_cases cj:j<q
     . rw [Ç (by omega)]
       have x1:=s1.le (i:=p) (j:=j-(q-m)) ap (by omega) (by omega)
       have x2:=s2.le (i:=i+(m-p)) (j:=q-1) (by omega) (by omega) (by omega)
       have x3:=c2 (by omega) (by omega)
       omega
     . rw [Ä (by omega)];exact s2.le (by omega) (by omega) h4
theorem Agq {p q:Prop}[Decidable p][Decidable q]:(bif decide p then some (decide q) else some false)=some (decide (p/\q)):=by
 by_cases hp:p<;>by_cases hq:q<;>simp [hp,hq]
theorem Xy {N:Nat}:∀ (s a m b:Nat) (l:List Ac),b-a<=s->a<m->m<b->b<100000->b<=l.length->l.length<=N->RF cv l->SR cv l a m->SR cv l m b ->
 ∃ l',RP l l' a b/\SR cv l' a b/\Ev (fun k=>Al k cv N l (a:Int) (m:Int) (b:Int)) l':=by
 intro s
 induction s with
 |zero=>intro a m b l h1 h2 h3;omega
 |succ s ih =>
  intro a m b l hs ham hmb hb hl hN ok s1 s2
  have w1:À ((m:Int)-a)=((m-a:Nat):Int):=wN (by omega) (by omega)
  have w2:À ((b:Int)-m)=((b-m:Nat):Int):=wN (by omega) (by omega)
  by_cases c1:m=a+1
  . have h1:(((m-a:Nat):Int) == 1)=true:=by simp;omega
    obtain⟨r,q1,q2,q3,q4,q5⟩:=half (F:=fun n i j=>Au n N l (a:Int) cv i j) (T:=fun h=>decide (GH cv l a-GH cv l h<0)) (lo:=m) (hi:=b) (by
     intro n i j h1 h2 h3
     show Au (n+1) N l (a:Int) cv i j=_
     have hd:decide ((i:Int)<(j:Int))=true:=by simp;omega
     rw [Dc,hd,Acm (i:=i) (j:=j) rfl (by omega)]
     simp only [Ð]
     rw [P8 (i:=(i+j) / 2) (j:=a) ok (by omega) (by omega) hN rfl rfl,wN (k:=(i+j) / 2+1) (by omega) (by omega)]) (by
     intro n i
     show Au (n+1) N l (a:Int) cv i i=_
     have hd:decide ((i:Int)<(i:Int))=false:=by simp
     rw [Dc,hd];rfl) (b-m) m b (by omega) (by omega) (by omega) (by omega) (.inl rfl) (.inl rfl)
    obtain⟨l',r1,d1,e1⟩:=mv1 (N:=N) (i:=r) (by omega) (r-a) a l rfl (by omega) (by omega) hN
    have g:=d1.rk (cv:=cv)
    subst c1
    obtain⟨p1,p2,p3,p4,p5⟩:=d1.parts (cv:=cv) (a:=a) (b:=b) s1 s2 (by omega) (by omega) (by omega) (by omega) (fun h=>by omega) (fun h h'=>by
     rcases q3 with q3|q3
     . omega
     . have:=ć q3;omega)
    refine⟨l',r1.mono (by omega) (by omega),SR.join p2 (SR.join p3 p4 fun i j h1 h2 h3 h4=>?_) p5,.step (fun k=>Ct k cv N l a _ b) ?_⟩
    . rcases q4 with q4|q4
      . omega
      have q4:=of_decide_eq_false q4
      rw [g,g,Ä (by omega),Ä (by omega),Ä (by omega),Ç (by omega)]
      have x:=s2.le (i:=r) (j:=j) (by omega) (by omega) h4
      have:i-(r-(a+1))=a:=by omega
      rw [this];omega
    . rw [w1,h1]
      exact q5.bind (e1.bind .pure)
  have h1:(((m-a:Nat):Int) == 1)=false:=by simp;omega
  by_cases c2:b=m+1
  . have h2:(((b-m:Nat):Int) == 1)=true:=by simp;omega
    obtain⟨r,q1,q2,q3,q4,q5⟩:=half (F:=fun n i j=>As n N (m:Int) l cv i j) (T:=fun h=>!decide (GH cv l h-GH cv l m<0)) (lo:=a) (hi:=m) (by
     intro n i j h1 h2 h3
     show As (n+1) N (m:Int) l cv i j=_
     have hd:decide ((i:Int)<(j:Int))=true:=by simp;omega
     rw [Da,hd,Acm (i:=i) (j:=j) rfl (by omega)]
     simp only [Ð]
     rw [P8 (i:=m) (j:=(i+j) / 2) ok (by omega) (by omega) hN rfl rfl,wN (k:=(i+j) / 2+1) (by omega) (by omega)]) (by
     intro n i
     show As (n+1) N (m:Int) l cv i i=_
     have hd:decide ((i:Int)<(i:Int))=false:=by simp
     rw [Da,hd];rfl) (m-a) a m (by omega) (by omega) (by omega) (by omega) (.inl rfl) (.inl rfl)
    obtain⟨l',r1,d1,e1⟩:=mv3 (N:=N) (i:=r) (m-r) m l rfl (by omega) (by omega) (by omega) hN
    have g:=d1.rk (cv:=cv)
    subst c2
    obtain⟨p1,p2,p3,p4,p5⟩:=d1.parts (cv:=cv) (a:=a) (b:=m+1) s1 s2 (by omega) (by omega) (by omega) (by omega) (fun h h'=>by omega) (fun h h'=>by
     rcases q4 with q4|q4
     . omega
     . have:=ć (by simpa using q4:decide (GH cv l r-GH cv l m<0)=true)
       have e:m+1-1=m:=by omega
       rw [e];omega)
    refine⟨l',r1.mono (by omega) (by omega),SR.join (SR.join p1 p2 fun i j h1 h2 h3 h4=>?_) p3 p5,.step (fun k=>Ct k cv N l a m _) ?_⟩
    . rcases q3 with q3|q3
      . omega
      have q3:=of_decide_eq_false (by simpa using q3:decide (GH cv l (r-1)-GH cv l m<0)=false)
      rw [g,g,Ç (by omega),Ä (by omega),Ä (by omega)]
      have x:=s1.le (i:=i) (j:=r-1) (by omega) (by omega) (by omega)
      have:j+(m-r)=m:=by omega
      rw [this];omega
    . rw [w1,h1,w2,h2]
      exact q5.bind (e1.bind .pure)
  have h2:(((b-m:Nat):Int) == 1)=false:=by simp;omega
  have wm:=Acm (x:=(a:Int)+b) (i:=a) (j:=b) rfl (by omega)
  generalize hmid:(a+b) / 2=mid at wm
  have hm1:a<mid:=by omega
  have hm2:mid<b:=by omega
  have wn:À ((mid:Int)+m)=((mid+m:Nat):Int):=wN (by omega) (by omega)
  have key:∀ lo hi:Nat,a<=lo->lo<=hi->hi<=m->hi<=mid∨m<=mid->mid+m-b<=lo->(lo=a∨lo+b=mid+m)->(hi=m∨hi=mid) ->
   ∃ r:Nat,lo<=r/\r<=hi/\(r=lo∨GH cv l (mid+m-r)<=GH cv l (r-1))/\(r=hi∨GH cv l r<=GH cv l (mid+m-r-1))/\Ev (fun n=>Aq n N (a:Int) (b:Int) (m:Int) l cv (lo:Int) (hi:Int)) (r:Int):=by
   intro lo hi k1 k2 k3 k4 k5 k6 k7
   obtain⟨r,q1,q2,q3,q4,q5⟩:=half (F:=fun n i j=>Aq n N (a:Int) (b:Int) (m:Int) l cv i j) (T:=fun c=>!decide (GH cv l c-GH cv l (mid+m-1-c)<0)) (lo:=lo) (hi:=hi) (by
    intro n i j h1 h2 h3
    show Aq (n+1) N (a:Int) (b:Int) (m:Int) l cv i j=_
    have hd:decide ((i:Int)<(j:Int))=true:=by simp;omega
    rw [CZ,hd,Acm (i:=i) (j:=j) rfl (by omega),wm,wn]
    simp only [Ð]
    rw [wN (x:=((mid+m:Nat):Int)-1) (k:=mid+m-1) (by omega) (by omega),wN (x:=((mid+m-1:Nat):Int)-(((i+j) / 2:Nat):Int)) (k:=mid+m-1-(i+j) / 2) (by omega) (by omega)]
    rw [P8 (i:=mid+m-1-(i+j) / 2) (j:=(i+j) / 2) ok (by omega) (by omega) hN rfl rfl,wN (x:=(((i+j) / 2:Nat):Int)+1) (k:=(i+j) / 2+1) (by omega) (by omega)]) (by
    intro n i
    show Aq (n+1) N (a:Int) (b:Int) (m:Int) l cv i i=_
    have hd:decide ((i:Int)<(i:Int))=false:=by simp
    rw [CZ,hd];rfl) (hi-lo) lo hi (by omega) (by omega) (by omega) (by omega) (.inl rfl) (.inl rfl)
   refine⟨r,q1,q2,?_,?_,q5⟩
   . by_cases c:r=lo
     . exact .inl c
     . rcases q3 with q3|q3
       . exact absurd q3 c
       . have x:=of_decide_eq_false (by simpa using q3:decide (GH cv l (r-1)-GH cv l (mid+m-1-(r-1))<0)=false)
         have e:mid+m-1-(r-1)=mid+m-r:=by omega
         rw [e] at x
         exact .inr (by omega)
   . rcases q4 with q4|q4
     . exact .inl q4
     . have x:=ć (by simpa using q4:decide (GH cv l r-GH cv l (mid+m-1-r)<0)=true)
       have e:mid+m-1-r=mid+m-r-1:=by omega
       rw [e] at x
       exact .inr (by omega)
  have key2:∃ lo hi r:Nat,(bif decide ((mid:Int)<(m:Int)) then some (À (((mid+m:Nat):Int)-(b:Int)),(mid:Int)) else some ((a:Int),(m:Int)))=some ((lo:Int),(hi:Int))/\a<=r/\r<=m/\r<=mid/\m<=mid+m-r/\mid+m-r<=b/\(a<r->mid+m-r<b->GH cv l (mid+m-r)<=GH cv l (r-1))/\(r<m->m<mid+m-r->GH cv l r<=GH cv l (mid+m-r-1))/\Ev (fun n=>Aq n N (a:Int) (b:Int) (m:Int) l cv (lo:Int) (hi:Int)) (r:Int):=by
   by_cases c:mid<m
   . obtain⟨r,q1,q2,q3,q4,q5⟩:=key (mid+m-b) mid (by omega) (by omega) (by omega) (by omega) (by omega) (by omega) (by omega)
     refine⟨mid+m-b,mid,r,?_,by omega,by omega,by omega,by omega,by omega,fun h h'=>q3.elim (fun h=>by omega) id,fun h h'=>q4.elim (fun h=>by omega) id,q5⟩
     rw [Ì (by omega),wN (k:=mid+m-b) (by omega) (by omega)];rfl
   . obtain⟨r,q1,q2,q3,q4,q5⟩:=key a m (by omega) (by omega) (by omega) (by omega) (by omega) (by omega) (by omega)
     refine⟨a,m,r,?_,by omega,by omega,by omega,by omega,by omega,fun h h'=>q3.elim (fun h=>by omega) id,fun h h'=>q4.elim (fun h=>by omega) id,q5⟩
     rw [Ë (by omega)];rfl
  obtain⟨lo,hi,r,f1,f2,f3,f4,f5,f6,f7,f8,f9⟩:=key2
  have wq:À (((mid+m:Nat):Int)-(r:Int))=((mid+m-r:Nat):Int):=wN (by omega) (by omega)
  have emid:r+(mid+m-r-m)=mid:=by omega
  generalize hq:mid+m-r=q at *
  -- the rotation
  have rot:∃ l1,RP l l1 r q/\Ua l l1 r m q/\Ev (fun n=>bif decide (r<m/\m<q) then (Bn n cv N l (r:Int) (m:Int) (q:Int)).bind fun d=>some d else some l) l1:=by
   by_cases c:r<m/\m<q
   . obtain⟨l1,r1,d1,e1⟩:=Ad5 (cv:=cv) (N:=N) (p:=r) (m:=m) (q:=q) (l:=l) rfl rfl c.1 c.2 (by omega) (by omega) hN
     refine⟨l1,r1,d1,?_⟩
     rw [Ì c]
     exact e1.bind .pure
   . refine⟨l,.refl,fun x=>?_,?_⟩
     . by_cases c3:r=m
       . subst c3
         by_cases h:r<=x/\x<r+(q-r)
         . rw [Ç h];congr 1;omega
         . rw [Ä h,Ä (by omega)]
       . rw [Ä (by omega)]
         by_cases h:r+(q-m)<=x/\x<q
         . rw [Ç h];congr 1;omega
         . rw [Ä h]
     . rw [Ë c];exact .pure
  obtain⟨l1,r1,d1,e1⟩:=rot
  obtain⟨p1,p2,p3,p4,p5⟩:=d1.parts (cv:=cv) (a:=a) (b:=b) s1 s2 f2 f3 f5 f6 f7 f8
  rw [emid] at p2 p3 p5
  have ok1:=ok.rp r1
  have left:∃ l2,RP l1 l2 a mid/\SR cv l2 a mid/\Ev (fun n=>bif decide (a<r/\r<mid) then (Al n cv N l1 (a:Int) (r:Int) (mid:Int)).bind fun d=>some d else some l1) l2:=by
   by_cases c:a<r/\r<mid
   . obtain⟨l2,r2,t2,e2⟩:=ih a r mid l1 (by omega) c.1 c.2 (by omega) (by rw [r1.len];omega) (by rw [r1.len];exact hN) ok1 p1 p2
     refine⟨l2,r2,t2,?_⟩
     rw [Ì c]
     exact e2.bind .pure
   . refine⟨l1,.refl,?_,?_⟩
     . by_cases c3:a=r
       . rw [c3];exact p2
       . have:r=mid:=by omega
         rw [<- this];exact p1
     . rw [Ë c];exact .pure
  obtain⟨l2,r2,t2,e2⟩:=left
  have ok2:=ok1.rp r2
  have right:∃ l3,RP l2 l3 mid b/\SR cv l3 mid b/\Ev (fun n=>bif decide (mid<q/\q<b) then (Al n cv N l2 (mid:Int) (q:Int) (b:Int)).bind fun d=>some d else some l2) l3:=by
   have p3':SR cv l2 mid q:=p3.keep r2 (.inr (by omega))
   have p4':SR cv l2 q b:=p4.keep r2 (.inr (by omega))
   by_cases c:mid<q/\q<b
   . obtain⟨l3,r3,t3,e3⟩:=ih mid q b l2 (by omega) c.1 c.2 (by omega) (by rw [r2.len,r1.len];omega) (by rw [r2.len,r1.len];exact hN) ok2 p3' p4'
     refine⟨l3,r3,t3,?_⟩
     rw [Ì c]
     exact e3.bind .pure
   . refine⟨l2,.refl,?_,?_⟩
     . by_cases c3:mid=q
       . rw [c3];exact p4'
       . have:q=b:=by omega
         rw [<- this];exact p3'
     . rw [Ë c];exact .pure
  obtain⟨l3,r3,t3,e3⟩:=right
  refine⟨l3,((r1.mono (by omega) (by omega)).trans (r2.mono (by omega) (by omega))).trans (r3.mono (by omega) (by omega)),SR.join (t2.keep r3 (.inl (by omega))) t3 fun i j k1 k2 k3 k4=>?_,.step (fun k=>Ct k cv N l a m b) ?_⟩
  . obtain⟨i2,k5,k6,k7⟩:=r2.inn i k1 k2
    obtain⟨j2,k8,k9,k10⟩:=r3.inn j k3 k4
    rw [Jw ((r3.out i (by omega)).trans k7),Jw (k10.trans (r2.out j2 (by omega)))]
    exact p5 i2 j2 k5 k6 k8 k9
  . rw [w1,h1,w2,h2,wm,wn,f1]
    simp only [Ï,Á]
    refine f9.bind ?_
    rw [wq]
    simp only [Int.ofNat_lt,Agq,Á]
    refine e1.bind ?_
    refine e2.bind ?_
    refine e3.congr fun n=>?_
    rfl
section
variable {N n:Nat} {l d:List Ac}
theorem Tx {x b:Int}(h:(n:Int)<b):Ev (fun k=>A5 k (n:Int) cv N x b l) (x,b,l):=.step (fun k=>DD k n cv N x b l) (.of fun k=>by rw [Ë (by omega)];rfl)
theorem Acq {x b:Int}{r:Int×Int×List Ac}(h:b<=(n:Int))(e:Ev (fun k=>A6 k cv N l x b) d)(e2:Ev (fun k=>A5 k (n:Int) cv N b (À (b+20)) d) r):Ev (fun k=>A5 k (n:Int) cv N x b l) r:=by
 refine .step (fun k=>DD k n cv N x b l) ?_
 rw [Ì h]
 exact e.bind e2
theorem ZL {s x b:Int}(h:(n:Int)<b):Ev (fun k=>A3 k (n:Int) cv N s x b l) (x,b,l):=.step (fun k=>DE k n cv N s x b l) (.of fun k=>by rw [Ë (by omega)];rfl)
theorem Ag2 {s x b:Int}{r:Int×Int×List Ac}(h:b<=(n:Int))(e:Ev (fun k=>Al k cv N l x (À (x+s)) b) d)(e2:Ev (fun k=>A3 k (n:Int) cv N s b (À (b+(À (2*s)))) d) r):Ev (fun k=>A3 k (n:Int) cv N s x b l) r:=by
 refine .step (fun k=>DE k n cv N s x b l) ?_
 rw [Ì h]
 exact e.bind e2
theorem Ty {s x b:Int}(h:(n:Int)<=s):Ev (fun k=>Aw k (n:Int) cv N s x b l) l:=.step (fun k=>DF k n cv N s x b l) (.of fun k=>by rw [Ë (by omega)];rfl)
theorem Af0 {s x b x2 b2:Int}{l5 l6 r:List Ac}(h:s<(n:Int))(e:Ev (fun k=>A3 k (n:Int) cv N s 0 (À (2*s)) l) (x2,b2,l5))
 (e2:Ev (fun k=>bif decide (À (x2+s)<(n:Int)) then Al k cv N l5 x2 (À (x2+s)) (n:Int) else some l5) l6) (e3:Ev (fun k=>Aw k (n:Int) cv N (À (s*2)) x2 b2 l6) r):Ev (fun k=>Aw k (n:Int) cv N s x b l) r:=by
 refine .step (fun k=>DF k n cv N s x b l) ?_
 rw [Ì h]
 refine e.bind ?_
 cases hc:decide (À (x2+s)<(n:Int))
 . rw [hc] at e2
   obtain⟨K,hK⟩:=e2
   have:l5=l6:=by simpa using hK K (à _)
   subst this
   refine e3.congr fun k=>?_
   show (bif decide (À (x2+s)<(n:Int)) then _ else _)=_
   rw [hc];rfl
 . rw [hc] at e2
   refine (e2.bind e3).congr fun k=>?_
   show (bif decide (À (x2+s)<(n:Int)) then _ else _)=_
   rw [hc];rfl
end
theorem Yp {N n:Nat}{l:List Ac}(hn:n<=40)(hl:l.length=n)(hN:n<=N)(ok:RF cv l):∃ l',RP l l' 0 n/\SR cv l' 0 n/\Ev (fun k=>B6 k cv N l (n:Int)) l':=by
 have fin:∀ {x b:Int} {l1 l2 l3:List Ac},Ev (fun k=>A5 k (n:Int) cv N 0 20 l) (x,b,l1)->Ev (fun k=>A6 k cv N l1 x (n:Int)) l2->Ev (fun k=>Aw k (n:Int) cv N 20 x b l2) l3->Ev (fun k=>B6 k cv N l (n:Int)) l3:=by
  intro x b l1 l2 l3 e1 e2 e3
  unfold B6
  exact e1.bind (e2.bind (e3.bind .pure))
 by_cases h1:n<20
 . obtain⟨l',r,s,e⟩:=QD (cv:=cv) (N:=N) (a:=0) (b:=n) (l:=l) (by omega) (by omega) (by omega) ok (by omega)
   exact⟨l',r,s,fin (Tx (by omega)) e (Ty (by omega))⟩
 obtain⟨l1,r1,s1,e1⟩:=QD (cv:=cv) (N:=N) (a:=0) (b:=20) (l:=l) (by omega) (by omega) (by omega) ok (by omega)
 have ok1:=ok.rp r1
 by_cases h2:n<40
 . obtain⟨l2,r2,s2,e2⟩:=QD (cv:=cv) (N:=N) (a:=20) (b:=n) (l:=l1) (by omega) (by omega) (by rw [r1.len];omega) ok1 (by rw [r1.len];omega)
   have s1':SR cv l2 0 20:=s1.keep r2 (.inl (by omega))
   have r12:RP l l2 0 n:=(r1.mono (by omega) (by omega)).trans (r2.mono (by omega) (by omega))
   by_cases h3:n=20
   . subst h3
     exact⟨l2,r12,s1',fin (Acq (by omega) e1 (Tx (b:=À (20+20)) (by decide))) e2 (Ty (by omega))⟩
   . obtain⟨l3,r3,s3,e3⟩:=Xy (cv:=cv) (N:=N) n 0 20 n l2 (by omega) (by omega) (by omega) (by omega) (by rw [r2.len,r1.len];omega) (by rw [r2.len,r1.len];omega) (ok1.rp r2) s1' s2
     have w40:À (20+20)=40:=by decide
     have w2:À (2*20)=40:=by decide
     have w0:À (0+20)=20:=by decide
     have w4:À (20*2)=40:=by decide
     refine⟨l3,r12.trans r3,s3,fin (Acq (by omega) e1 (Tx (by rw [w40];omega))) e2 (Af0 (x2:=0) (b2:=40) (l5:=l2) (l6:=l3) (by omega) (by rw [w2];exact ZL (by omega)) ?_ (Ty (by rw [w4];omega)))⟩
     rw [w0,Ì (by omega)]
     exact e3
 . have h4:n=40:=by omega
   subst h4
   have w40:À (20+20)=40:=by decide
   have w60:À (40+20)=60:=by decide
   have w2:À (2*20)=40:=by decide
   have w0:À (0+20)=20:=by decide
   have w4:À (20*2)=40:=by decide
   obtain⟨l2,r2,s2,e2⟩:=QD (cv:=cv) (N:=N) (a:=20) (b:=40) (l:=l1) (by omega) (by omega) (by rw [r1.len];omega) ok1 (by rw [r1.len];omega)
   have s1':SR cv l2 0 20:=s1.keep r2 (.inl (by omega))
   obtain⟨l3,r3,s3,e3⟩:=QD (cv:=cv) (N:=N) (a:=40) (b:=40) (l:=l2) (by omega) (by omega) (by rw [r2.len,r1.len];omega) (ok1.rp r2) (by rw [r2.len,r1.len];omega)
   obtain⟨l4,r4,s4,e4⟩:=Xy (cv:=cv) (N:=N) 40 0 20 40 l3 (by omega) (by omega) (by omega) (by omega) (by rw [r3.len,r2.len,r1.len];omega) (by rw [r3.len,r2.len,r1.len];omega) ((ok1.rp r2).rp r3) (s1'.keep r3 (.inl (by omega))) (s2.keep r3 (.inl (by omega)))
   refine⟨l4,(((r1.mono (by omega) (by omega)).trans (r2.mono (by omega) (by omega))).trans (r3.mono (by omega) (by omega))).trans r4,s4,fin (x:=40) (b:=60) (Acq (by omega) e1 ?_) e3 (Af0 (x2:=40) (b2:=80) (l5:=l4) (l6:=l4) (by omega) ?_ ?_ (Ty (by rw [w4];omega)))⟩
   . rw [w40]
     refine Acq (by omega) e2 ?_
     rw [w60]
     exact Tx (by omega)
   . rw [w2]
     refine Ag2 (by omega) (by rw [w0];exact e4) ?_
     rw [w2]
     have:À (40+40)=80:=by decide
     rw [this]
     exact ZL (by omega)
   . have:À (40+20)=60:=by decide
     rw [this,Ë (by omega)]
     exact .pure
theorem Ab0 {l:List Ac}(hn:l.length<=40)(ok:RF cv l):∃ l',l'.Perm l/\SR cv l' 0 l'.length/\Ev (fun k=>BR k cv l.length l) l':=by
 obtain⟨l',r,s,e⟩:=Yp (cv:=cv) (N:=l.length) hn rfl (à _) ok
 refine⟨l',r.perm,by rw [r.len];exact s,?_⟩
 unfold BR
 exact e.bind .pure
end Go.Sp
namespace Go.Sp
open Go
set_option maxRecDepth 100000
def X5 (c:Aa)(d:Aj)(known:Int):Int×Int×Bool×Int :=
 if CX [c]≠0 then (0,0,false,CX [c]) else if Dy d known≠0 then (0,0,false,Dy d known)
 else (KZ ⟨d,known⟩ c.From,KZ ⟨d,known⟩ c.To,decide (c.Known<=known)&&(KZ ⟨d,known⟩ c.When == 1),0)
theorem Uh {e:Ag}{t:Int}(h:EW e t=0):(B4 e).2.2.E=0:=by
 unfold EW at h
 by_cases c:(B4 e).2.2.E=0
 . exact c
 . rw [Ç c] at h;exact absurd h c
theorem Afc {c:Aa}(h:CX [c]=0):(B4 c.From).2.2.E=0/\(B4 c.To).2.2.E=0/\(B4 c.When).2.2.E=0:=by
 unfold CX at h
 rw [Ä (by simp),DZ] at h
 by_cases h1:Cd (List.take 0 [c]) c=0
 . have h2:Gt c=0:=by
    unfold Cd at h1
    split at h1
    . cases h1
    . split at h1
      . cases h1
      . split at h1
        . cases h1
        . split at h1
          . cases h1
          . exact h1
   unfold Gt at h2
   by_cases a:EW c.From 2=0
   . rw [Ä (by simpa using a)] at h2
     by_cases b:EW c.To 2=0
     . rw [Ä (by simpa using b)] at h2
       exact⟨Uh a,Uh b,Uh h2⟩
     . rw [Ç b] at h2;exact absurd h2 b
   . rw [Ç a] at h2;exact absurd h2 a
 . rw [Ç h1] at h;exact absurd h h1
end Go.Sp
namespace Go.Sp
open Go
set_option maxRecDepth 100000
theorem Ac8 {ks:List Aa}{c:Aa}(h:Cd ks c=0):Me c.Name=true/\1<=c.Kind/\c.Kind<=3/\IF c=false/\Gt c=0:=by
 unfold Cd at h
 split at h
 . cases h
 . split at h
   . cases h
   . split at h
     . cases h
     . split at h
       . cases h
       . rename_i h1 h2 h3 h4
         exact⟨by simpa using h1,by omega,by omega,by simpa using h4,h⟩
theorem Rh {l:List Aa}:∀ (r:List Aa) (k:Nat),DZ l r k=0->∀ c∈r,∃ j,Cd (l.take j) c=0
 | [],_,_,c,hc=>by cases hc
 |x::r,k,h,c,hc=>by
  rw [DZ] at h
  by_cases h1:Cd (l.take k) x=0
  . rw [Ä (by simpa using h1)] at h
    rcases List.mem_cons.1 hc with rfl|hc
    . exact⟨k,h1⟩
    . exact Rh r (k+1) h c hc
  . rw [Ç h1] at h;exact absurd h h1
structure R3 (c:Aa):Prop where
 kind:1<=c.Kind/\c.Kind<=3
 rank:0<=c.Rank/\c.Rank<=9
 known:0<=c.Known/\c.Known<=41666
 houses:(c.Kind<3->c.Houses=0)/\(c.Kind=3->1<=c.Houses/\c.Houses<=4095)
 one:CX [c]=0
 from_:(B4 c.From).2.2.E=0/\(B4 c.From).1=2
 to_:(B4 c.To).2.2.E=0/\(B4 c.To).1=2
 when_:(B4 c.When).2.2.E=0/\(B4 c.When).1=3
theorem Zi {e:Ag}{t:Int}(h:EW e t=0):(B4 e).2.2.E=0/\(B4 e).1=t:=by
 refine⟨Uh h,?_⟩
 unfold EW at h
 rw [Ä (by simpa using Uh h)] at h
 by_cases c:(B4 e).1=t
 . exact c
 . rw [Ç c] at h;cases h
theorem Agm {ks:List Aa}{c:Aa}(h:Cd ks c=0):R3 c:=by
 obtain⟨h0,h1,h2,h3,h4⟩:=Ac8 h
 unfold IF at h3
 have h3:=of_decide_eq_false h3
 have e1:CX [c]=0:=by
  unfold CX
  rw [Ä (by simp),DZ]
  have:Cd (List.take 0 [c]) c=0:=by
   unfold Cd
   rw [Ä (by rw [h0];decide),Ä (by unfold Gv;simp),Ä (by omega),Ä (by unfold IF;rw [Ë h3];decide)]
   exact h4
  rw [this];rfl
 unfold Gt at h4
 by_cases a:EW c.From 2=0
 . rw [Ä (by simpa using a)] at h4
   by_cases b:EW c.To 2=0
   . rw [Ä (by simpa using b)] at h4
     exact⟨⟨h1,h2⟩,by omega,by omega,⟨by omega,by omega⟩,e1,Zi a,Zi b,Zi h4⟩
   . rw [Ç b] at h4;exact absurd h4 b
 . rw [Ç a] at h4;exact absurd h4 a
theorem MZ {l:List Aa}(h:CX l=0):l.length<=40/\∀ c∈l,R3 c:=by
 unfold CX at h
 by_cases hl:40<l.length
 . rw [Ç hl] at h;cases h
 . rw [Ä hl] at h
   refine⟨by omega,fun c hc=>?_⟩
   obtain⟨j,hj⟩:=Rh l 0 h c hc
   exact Agm hj
def Rs (d:Aj)(known:Int)(c:Aa):Bool:=decide (c.Known<=known)&&(KZ ⟨d,known⟩ c.When == 1)
theorem Abz {c:Aa}{d:Aj}{known:Int}(hc:R3 c)(hk:Dy d known=0):X5 c d known=(KZ ⟨d,known⟩ c.From,KZ ⟨d,known⟩ c.To,Rs d known c,0):=by
 unfold X5
 rw [Ä (by simpa using hc.one),Ä (by simpa using hk)];rfl
theorem X3 {e:Ag}{d:Aj}{known:Int}(hk:Dy d known=0)(hs:ER e=true)(h:(B4 e).2.2.E=0/\(B4 e).1=2):0<=KZ ⟨d,known⟩ e/\KZ ⟨d,known⟩ e<=41667:=by
 have:=(PR XD ⟨d,known⟩ (Ts (m:=⟨d,known⟩) hk) e hs h.1).2
 rw [h.2] at this
 exact in2 this
theorem Zt (c:Aa)(d:Aj)(known:Int)(hs:I8 c):Ev (fun n=>EO n c d known) (X5 c d known):=by
 have hall:∀ x∈[c],I8 x:=fun x hx=>by rw [List.mem_singleton.1 hx];exact hs
 unfold EO X5
 simp only [Á]
 by_cases h1:CX [c]=0
 . obtain⟨f1,f2,f3⟩:=Afc h1
   by_cases h2:Dy d known=0
   . have v1:∀ e,ER e=true->(B4 e).2.2.E=0->VR e ⟨d,known⟩=some (KZ ⟨d,known⟩ e):=fun e a b=>by unfold VR;rw [Ç ⟨a,b,h2⟩]
     rw [Ä (by simpa using h1),Ä (by simpa using h2)]
     refine Ev.bind (JM [c] hall) ?_
     rw [show (CX [c] != 0)=false by simpa using h1]
     simp only [Ï]
     refine Ev.bind (N5 d known) ?_
     rw [show (Dy d known != 0)=false by simpa using h2]
     simp only [Ï,v1 _ hs.1 f1,v1 _ hs.2.1 f2,v1 _ hs.2.2 f3,Á]
     cases decide (c.Known<=known)<;>exact Ev.pure
   . rw [Ä (by simpa using h1),Ç h2]
     refine Ev.bind (JM [c] hall) ?_
     rw [show (CX [c] != 0)=false by simpa using h1]
     refine Ev.bind (N5 d known) ?_
     rw [show (Dy d known != 0)=true by simpa using h2]
     exact Ev.pure
 . rw [Ç h1]
   refine Ev.bind (JM [c] hall) ?_
   rw [show (CX [c] != 0)=true by simpa using h1]
   exact Ev.pure
def KV (d:Aj)(known:Int):List Aa->Nat->List Ac
 | [],_=>[]
 |c::r,k=>(if Rs d known c=true then [⟨KZ ⟨d,known⟩ c.From,KZ ⟨d,known⟩ c.To,(k:Int)⟩] else [])++KV d known r (k+1)
theorem Qb (d:Aj)(known:Int):∀ (r:List Aa) (k:Nat),(KV d known r k).length<=r.length
 | [],_=>by simp [KV]
 |c::r,k=>by
  have:=Qb d known r (k+1)
  rw [KV,Õ,ß]
  split<;>simp<;>omega
theorem Qa {d:Aj}{known:Int}{x:Ac}:∀ (r:List Aa) (k:Nat),x∈KV d known r k↔∃ (i:Nat) (c:Aa),r[i]?=some c/\Rs d known c=true/\x=⟨KZ ⟨d,known⟩ c.From,KZ ⟨d,known⟩ c.To,((k+i:Nat):Int)⟩
 | [],k=>by simp [KV]
 |c::r,k=>by
  rw [KV,List.mem_append,Qa r (k+1)]
  constructor
  . rintro (h|⟨i,e,h1,h2,h3⟩)
    . by_cases ha:Rs d known c=true
      . rw [Ç ha] at h
        exact⟨0,c,rfl,ha,by simpa using h⟩
      . rw [Ä ha] at h;cases h
    . exact⟨i+1,e,by simpa using h1,h2,by rw [h3];congr 1;omega⟩
  . rintro⟨i,e,h1,h2,h3⟩
    cases i with
    |zero =>
     have:c=e:=by simpa using h1
     subst this
     left;rw [Ç h2,h3];simp
    |succ i=>right;exact⟨i,e,by simpa using h1,h2,by rw [h3];congr 1;omega⟩
theorem Ag6 {l:List Ac}{y:Ac}(h:l.length<=1000):Ca 24 l [y]=some (l++[y]):=by
 unfold Ca
 rw [Ç (by simp;omega)]
theorem Og {l:List Aa}{d:Aj}{known:Int}(hl:l.length<=40)(hf:∀ c∈l,R3 c)(hs:∀ c∈l,I8 c)(hk:Dy d known=0) :
 ∀ (r:List Aa) (k:Nat) (out:List Ac),l.drop k=r->k<=l.length->out.length<=k->Ev (fun n=>BN n l d known out (k:Int)) (out++KV d known r k)
 | [],k,out,hr,h1,h2=>by
  have he:=JI hr h1
  refine Ev.step (f:=fun n=>some out) (fun n=>?_) (by rw [KV,ą];exact Ev.pure)
  rw [IM,Ë (by omega)];rfl
 |c::r,k,out,hr,h1,h2=>by
  obtain⟨h3,h4⟩:=F6 hr
  have hc:c∈l:=ë (i:=k) (by rw [hr];exact Ü)
  have e:∀ n,BN (n+1) l d known out (k:Int)=(EO n c d known).bind fun s=>bif s.2.2.1 then (Ca 24 out [(Ac.mk s.1 s.2.1 (k:Int))]).bind fun l2=>BN n l d known l2 ((k+1:Nat):Int) else BN n l d known out ((k+1:Nat):Int):=fun n=>by
   rw [IM,P2 h4,Ð,O5 hr,Á,NU (by omega)]
  refine Ev.step e ((Zt c d known (hs c hc)).bind ?_)
  rw [Abz (hf c hc) hk,KV]
  cases ha:Rs d known c with
  |true =>
   simp only [Ð,ù,Ag6 (show out.length<=1000 by omega),Á]
   rw [<- î]
   exact Og hl hf hs hk r (k+1) _ h3 (by omega) (by simp;omega)
  |false =>
   simp only [Ï,è,Ā,þ]
   exact Og hl hf hs hk r (k+1) out h3 (by omega) (by omega)
structure VI (l:List Aa) (d:Aj) (known:Int) (s:List Ac):Prop where
 perm:s.Perm (KV d known l 0)
 sorted:SR l s 0 s.length
 ok:RF l s
 len:s.length<=40
 rng:∀ x∈s,0<=x.from_/\x.from_<=41667/\0<=x.to_/\x.to_<=41667
def I7 (l:List Aa)(d:Aj)(known:Int):Int:=if CX l≠0 then CX l else Dy d known
theorem Zs {l:List Aa}{d:Aj}{known:Int}(hf:∀ c∈l,R3 c):RF l (KV d known l 0):=by
 intro x hx
 obtain⟨i,c,h1,h2,h3⟩:=(Qa l 0).1 hx
 refine⟨c,?_,(hf c (Ò h1)).rank⟩
 rw [h3]
 show gi l ((0+i:Nat):Int)=_
 rw [giN,ñ];exact h1
theorem Qd {l:List Aa}{d:Aj}{known:Int}(hs:∀ c∈l,I8 c) :
 (I7 l d known≠0/\Ev (fun n=>Ch n l d known) ([],I7 l d known))∨(I7 l d known=0/\∃ s,VI l d known s/\Ev (fun n=>Ch n l d known) (s,0)):=by
 unfold I7
 by_cases h1:CX l=0
 . rw [Ä (by simpa using h1)]
   by_cases h2:Dy d known=0
   . right
     refine⟨h2,?_⟩
     obtain⟨hl,hf⟩:=MZ h1
     have lp:=Og hl hf hs h2 l 0 [] rfl (ü _) (à _)
     rw [þ] at lp
     have rng:∀ x∈KV d known l 0,0<=x.from_/\x.from_<=41667/\0<=x.to_/\x.to_<=41667:=by
      intro x hx
      obtain⟨i,c,q1,q2,q3⟩:=(Qa l 0).1 hx
      have hc:=Ò q1
      have a:=X3 h2 (hs c hc).1 (hf c hc).from_
      have b:=X3 h2 (hs c hc).2.1 (hf c hc).to_
      rw [q3]
      exact⟨a.1,a.2,b.1,b.2⟩
     have hlen:=Qb d known l 0
     obtain⟨s,p,so,es⟩:=Ab0 (cv:=l) (l:=KV d known l 0) (by omega) (Zs hf)
     refine⟨s,⟨p,so,fun x hx=>Zs hf x (p.mem_iff.1 hx),by rw [p.length_eq];omega,fun x hx=>rng x (p.mem_iff.1 hx)⟩,?_⟩
     unfold Ch
     refine (JM l hs).bind ?_
     rw [h1]
     simp only [ô,Ï]
     refine (N5 d known).bind ?_
     rw [h2]
     simp only [ô,Ï]
     refine lp.bind ?_
     cases hz:(KV d known l 0).isEmpty with
     |true =>
      have:KV d known l 0=[]:=List.isEmpty_iff.1 hz
      rw [this] at p
      rw [p.eq_nil]
      exact Ev.pure
     |false =>
      simp only [Ï]
      refine es.bind ?_
      rw [p.length_eq]
      simp only [ċ,Ð]
      exact Ev.pure
   . left
     refine⟨h2,?_⟩
     unfold Ch
     refine (JM l hs).bind ?_
     rw [h1]
     simp only [ô,Ï]
     refine (N5 d known).bind ?_
     rw [show (Dy d known != 0)=true by simpa using h2]
     exact Ev.pure
 . left
   rw [Ç h1]
   refine⟨h1,?_⟩
   unfold Ch
   refine (JM l hs).bind ?_
   rw [show (CX l != 0)=true by simpa using h1]
   exact Ev.pure
end Go.Sp
namespace Go.Sp
open Go
set_option maxRecDepth 100000
def KW (x:Ac)(day:Int):Bool:=decide (x.from_<=day/\day<=x.to_)
theorem SG (x:Ac)(day:Int):C0 x day=some (KW x day):=by
 unfold C0 KW
 rw [Agq];rfl
def Ma (h o:Int):Int:=bif bits .and .i64 h o == 0 then h else bits .and .i64 h o
theorem Y5 (h o:Int):CL h o=some (Ma h o):=by
 unfold CL Ma
 cases bits .and .i64 h o == 0<;>rfl
section
variable (l:List Aa) (act:Ac->Bool)
def ZM (x:Ac):Int:=match gi l x.clause with
 |some c=>c.Kind
 |none=>0
def hsC (x:Ac):Int:=match gi l x.clause with
 |some c=>c.Houses
 |none=>0
def VL (x:Ac):Bool:=ZM l x == 3&&act x
def My:List Ac->Int->Int
 | [],c=>c
 |x::r,c=>My r (bits .and .i64 c (hsC l x))
def EE (ρ:Int)(x:Ac):Bool:=rk l x == ρ
def Lb:Nat->List Ac->Int->Int ⊕ Int
 |_,[],out=>.inl out
 |0,_::_,out=>.inl out
 |m+1,x::r,out =>
  bif ((x::r).takeWhile (EE l (rk l x))).any (VL l act) then
   (bif My l (((x::r).takeWhile (EE l (rk l x))).filter (VL l act)) 4095 == 0 then .inr 0
   else Lb m ((x::r).dropWhile (EE l (rk l x))) (Ma out (My l (((x::r).takeWhile (EE l (rk l x))).filter (VL l act)) 4095)))
  else Lb m ((x::r).dropWhile (EE l (rk l x))) out
def SK (s:List Ac):Int:=match Lb l act s.length s 4095 with
 |.inl o=>o
 |.inr o=>o
def Zf:List Ac->Int->Int->List Int->Int×List Int
 | [],_,st,by_=>(st,by_)
 |x::r,ρ,st,by_=>bif ZM l x == 3||!act x||decide (rk l x<ρ) then Zf r ρ st by_ else Zf r (rk l x) (bif st == 0 then ZM l x else bif st != ZM l x then 3 else st) (by_++[x.clause])
def atV (s:List Ac):Bd:=⟨(Zf l act s (-1) 0 []).1,SK l act s,Cv (Zf l act s (-1) 0 []).2⟩
end
theorem XX {α:Type}(p:α->Bool):∀ l:List α,l.drop (l.takeWhile p).length=l.dropWhile p
 | []=>rfl
 |x::l=>by
  rw [ĕ,Ĥ]
  cases p x with
  |true=>simpa using XX p l
  |false=>rfl
section
variable {l:List Aa} {act:Ac->Bool} {s:List Ac} {day:Int}
theorem Aay {x:Ac}(h:okC l x):∃ c,gi l x.clause=some c/\rk l x=c.Rank/\ZM l x=c.Kind/\hsC l x=c.Houses:=by
 obtain⟨c,h1,_⟩:=h
 refine⟨c,h1,?_,?_,?_⟩
 . unfold rk;rw [h1]
 . unfold ZM;rw [h1]
 . unfold hsC;rw [h1]
theorem NX (ok:RF l s)(hl:s.length<=40)(H:∀ x∈s,KW x day=act x)(x1:Aa):∀ (r:List Ac) (k:Nat) (c:Int) (b:Bool),s.drop k=r->k<=s.length ->
 Ev (fun n=>Bw n s l x1 day (k:Int) c b) (((k+(r.takeWhile (EE l x1.Rank)).length:Nat):Int),My l ((r.takeWhile (EE l x1.Rank)).filter (VL l act)) c,b||(r.takeWhile (EE l x1.Rank)).any (VL l act))
 | [],k,c,b,hr,hk=>by
  have he:=JI hr hk
  refine Ev.step (f:=fun n=>some ((k:Int),c,b)) (fun n=>?_) ?_
  . rw [IK,Ë (by omega)];rfl
  . have:(((k+(([]:List Ac).takeWhile (EE l x1.Rank)).length:Nat):Int),My l ((([]:List Ac).takeWhile (EE l x1.Rank)).filter (VL l act)) c,b||(([]:List Ac).takeWhile (EE l x1.Rank)).any (VL l act))=((k:Int),c,b):=by cases b<;>rfl
    rw [this];exact Ev.pure
 |x::r,k,c,b,hr,hk=>by
  obtain⟨h1,h2⟩:=F6 hr
  have hx:x∈s:=ë (i:=k) (by rw [hr];exact Ü)
  obtain⟨c0,g0,g1,g2,g3⟩:=Aay (ok x hx)
  have tw:(x::r).takeWhile (EE l x1.Rank)=if c0.Rank == x1.Rank then x::r.takeWhile (EE l x1.Rank) else []:=by
   rw [ĕ]
   unfold EE
   rw [g1]
  have e:∀ n,Bw (n+1) s l x1 day (k:Int) c b=bif c0.Rank == x1.Rank then (bif VL l act x then Bw n s l x1 day ((k+1:Nat):Int) (bits .and .i64 c c0.Houses) true else Bw n s l x1 day ((k+1:Nat):Int) c b) else some ((k:Int),c,b):=fun n=>by
   rw [IK,P2 h2,Ð,O5 hr]
   simp only [Á,g0,NU (show k<4611686018427387904 by omega),SG,H x hx]
   have:VL l act x=(c0.Kind == 3&&act x):=by unfold VL;rw [g2]
   rw [this]
   cases c0.Rank == x1.Rank<;>cases c0.Kind == 3<;>cases act x<;>rfl
  refine Ev.step e ?_
  rw [tw]
  cases hc:c0.Rank == x1.Rank with
  |false =>
   simp only [Ï,è,Ā]
   have:((((k+([]:List Ac).length:Nat)):Int),My l (([]:List Ac).filter (VL l act)) c,b||([]:List Ac).any (VL l act))=((k:Int),c,b):=by cases b<;>rfl
   rw [this];exact Ev.pure
  |true =>
   simp only [Ð,ù,ß,ı]
   have ea:k+((r.takeWhile (EE l x1.Rank)).length+1)=k+1+(r.takeWhile (EE l x1.Rank)).length:=by omega
   rw [ea]
   cases hp:VL l act x with
   |true =>
    rw [List.filter_cons_of_pos hp,My,g3]
    have:=NX ok hl H x1 r (k+1) (bits .and .i64 c c0.Houses) true h1 (by omega)
    simpa using this
   |false =>
    rw [ħ (by rw [hp];decide),Bool.false_or]
    exact NX ok hl H x1 r (k+1) c b h1 (by omega)
theorem Yj (ok:RF l s)(hl:s.length<=40)(H:∀ x∈s,KW x day=act x):∀ (m k:Nat) (out:Int),s.length-k<=m->k<=s.length->Ev (fun n=>BZ n s l day out (k:Int)) (Lb l act m (s.drop k) out):=by
 intro m
 induction m with
 |zero =>
  intro k out hm hk
  have he:k=s.length:=by omega
  refine Ev.step (f:=fun n=>some (.inl out)) (fun n=>?_) ?_
  . rw [Gx,Ë (by omega)];rfl
  . rw [he,List.drop_length];exact Ev.pure
 |succ m ih =>
  intro k out hm hk
  cases hr:s.drop k with
  |nil =>
   have he:=JI hr hk
   refine Ev.step (f:=fun n=>some (.inl out)) (fun n=>?_) Ev.pure
   rw [Gx,Ë (by omega)];rfl
  |cons x r =>
   obtain⟨h1,h2⟩:=F6 hr
   have hx:x∈s:=ë (i:=k) (by rw [hr];exact Ü)
   obtain⟨c0,g0,g1,g2,g3⟩:=Aay (ok x hx)
   have e2:=NX ok hl H c0 (x::r) k 4095 false hr hk
   rw [Lb,g1]
   have tl:((x::r).takeWhile (EE l c0.Rank)).length≠0:=by
    rw [ĕ,show EE l c0.Rank x=true by unfold EE;rw [g1];simp,Ç rfl];simp
   have tl2:((x::r).takeWhile (EE l c0.Rank)).length<=(x::r).length:=(List.takeWhile_sublist _).length_le
   have dl:(x::r).length=s.length-k:=by rw [<- hr,û]
   have dw:s.drop (k+((x::r).takeWhile (EE l c0.Rank)).length)=(x::r).dropWhile (EE l c0.Rank):=by
    rw [<- Ħ,hr,XX]
   have nxt:=fun o=>ih (k+((x::r).takeWhile (EE l c0.Rank)).length) o (by omega) (by omega)
   rw [dw] at nxt
   generalize (x::r).takeWhile (EE l c0.Rank)=tw at *
   refine Ev.step (f:=fun n=>(Bw n s l c0 day (k:Int) 4095 false).bind fun y1=>match y1 with
    |(i1,common,some_)=>bif some_ then (bif common == 0 then some (.inr 0) else BZ n s l day (Ma out common) i1) else BZ n s l day out i1) (fun n=>?_) ?_
   . rw [Gx,P2 h2,Ð,O5 hr]
     simp only [Á,g0]
     refine congrArg _ (funext fun y1=>?_)
     obtain⟨i1,common,b⟩:=y1
     simp only [Y5,Á]
     cases b<;>cases common == 0<;>rfl
   . refine e2.bind ?_
     simp only [Bool.false_or]
     cases ha:tw.any (VL l act) with
     |false=>exact nxt out
     |true =>
      simp only [Ð]
      cases hz:My l (tw.filter (VL l act)) 4095 == 0 with
      |true=>exact Ev.pure
      |false=>exact nxt _
theorem Zh (ok:RF l s)(hl:s.length<=40)(H:∀ x∈s,KW x day=act x):Ev (fun n=>IL n l s day) (SK l act s):=by
 unfold IL SK
 have:=Yj ok hl H s.length 0 4095 (by omega) (by omega)
 rw [List.drop_zero] at this
 refine this.bind ?_
 cases Lb l act s.length s 4095<;>exact Ev.pure
theorem ga9 {l:List Int}{y:Int}(h:l.length<=1000):Ca 8 l [y]=some (l++[y]):=by
 unfold Ca
 rw [Ç (by simp;omega)]
theorem Xj (ok:RF l s)(hl:s.length<=40)(H:∀ x∈s,KW x day=act x):∀ (r:List Ac) (k:Nat) (ρ st:Int) (by_:List Int),s.drop k=r->k<=s.length->by_.length<=k->Ev (fun n=>BY n s l day ρ (k:Int) st by_) (Zf l act r ρ st by_)
 | [],k,ρ,st,by_,hr,hk,hb=>by
  have he:=JI hr hk
  refine Ev.step (f:=fun n=>some (st,by_)) (fun n=>?_) Ev.pure
  rw [KF,Ë (by omega)];rfl
 |x::r,k,ρ,st,by_,hr,hk,hb=>by
  obtain⟨h1,h2⟩:=F6 hr
  have hx:x∈s:=ë (i:=k) (by rw [hr];exact Ü)
  obtain⟨c0,g0,g1,g2,g3⟩:=Aay (ok x hx)
  have e:∀ n,BY (n+1) s l day ρ (k:Int) st by_=bif c0.Kind == 3||!act x||decide (c0.Rank<ρ) then BY n s l day ρ ((k+1:Nat):Int) st by_ else BY n s l day c0.Rank ((k+1:Nat):Int) (bif st == 0 then c0.Kind else bif st != c0.Kind then 3 else st) (by_++[x.clause]):=fun n=>by
   rw [KF,P2 h2,Ð,O5 hr]
   simp only [Á,g0,NU (show k<4611686018427387904 by omega),SG,H x hx,ga9 (show by_.length<=1000 by omega)]
   cases c0.Kind == 3<;>cases act x<;>cases decide (c0.Rank<ρ)<;>cases st == 0<;>cases st != c0.Kind<;>rfl
  refine Ev.step e ?_
  rw [Zf,g1,g2]
  cases c0.Kind == 3||!act x||decide (c0.Rank<ρ) with
  |true=>exact Xj ok hl H r (k+1) ρ st by_ h1 (by omega) (by omega)
  |false=>exact Xj ok hl H r (k+1) _ _ _ h1 (by omega) (by simp;omega)
theorem TQ:∀ (r:List Ac) (ρ st:Int) (by_:List Int),(Zf l act r ρ st by_).2.length<=by_.length+r.length
 | [],ρ,st,by_=>by rw [Zf];simp
 |x::r,ρ,st,by_=>by
  rw [Zf]
  cases ZM l x == 3||!act x||decide (rk l x<ρ) with
  |true=>have:=TQ r ρ st by_;simp only [Ð,ß];omega
  |false=>have:=TQ r (rk l x) (bif st == 0 then ZM l x else bif st != ZM l x then 3 else st) (by_++[x.clause]);simp only [Ï,ß,Õ,í] at this ⊢;omega
theorem VA (ok:RF l s)(hl:s.length<=40)(H:∀ x∈s,KW x day=act x):Ev (fun n=>H8 n l s day) (atV l act s):=by
 unfold H8 atV
 refine (Zh ok hl H).bind ?_
 refine (Xj ok hl H s 0 (-1) 0 [] rfl (ü _) (à _)).bind ?_
 have hb:=TQ (l:=l) (act:=act) s (-1) 0 []
 generalize Zf l act s (-1) 0 []=y at *
 obtain⟨st,by_⟩:=y
 cases hz:by_.isEmpty with
 |true =>
  have:by_=[]:=List.isEmpty_iff.1 hz
  subst this
  exact Ev.pure
 |false =>
  have hg:Pe by_=some (Cv by_):=by
   unfold Pe
   simp only [í] at hb
   rw [Ç (by omega)]
  simp only [hz,Ï,hg,Á]
  rw [(BO by_).length_eq]
  simp only [ċ,Ð]
  exact Ev.pure
end
end Go.Sp
namespace Go.Sp
open Go
set_option maxRecDepth 100000
structure Hi where
 rk:Int
 kd:Int
 hs:Int
 act:Bool
 ix:Int
def GF (a:Hi):Bool:=a.kd != 3&&a.act
def Nx (a:Hi):Bool:=a.kd == 3&&a.act
def Hh:List Hi->Int
 | []=>-1
 |a::r=>if GF a=true/\Hh r<a.rk then a.rk else Hh r
def JJ (I:List Hi):List Hi:=I.filter fun a=>GF a&&a.rk == Hh I
def X2:Int->List Hi->Int
 |st,[]=>st
 |st,a::r=>X2 (bif st == 0 then a.kd else bif st != a.kd then 3 else st) r
def Ki (D:List Hi):Int:=bif D.any (fun a=>a.kd == 1) then (bif D.any (fun a=>a.kd == 2) then 3 else 1) else bif D.any (fun a=>a.kd == 2) then 2 else 0
def K3:List Hi->Int->Int
 | [],c=>c
 |a::r,c=>K3 r (bits .and .i64 c a.hs)
def IV (ρ:Int)(I:List Hi):List Hi:=I.filter fun a=>a.rk == ρ&&Nx a
def MT:Nat->List Hi->Int->Int ⊕ Int
 |0,_,out=>.inl out
 |k+1,I,out=>bif (IV (k:Int) I).isEmpty then MT k I out else bif K3 (IV (k:Int) I) 4095 == 0 then .inr 0 else MT k I (Ma out (K3 (IV (k:Int) I) 4095))
def Agz:Int ⊕ Int->Int
 |.inl o=>o
 |.inr o=>o
def GD (I:List Hi):Bd:=⟨Ki (JJ I),Agz (MT 10 I 4095),Cv ((JJ I).map (·.ix))⟩
def SI (I:List Hi):Prop:=I.Pairwise fun a b=>b.rk<=a.rk
structure NT (a:Hi):Prop where
 rk:0<=a.rk/\a.rk<=9
 kd:1<=a.kd/\a.kd<=3
theorem Xu:∀ I:List Hi,(∀ a∈I,NT a)->-1<=Hh I
 | [],_=>by rw [Hh];omega
 |a::r,h=>by
  have:=Xu r fun b hb=>h b (á _ hb)
  rw [Hh];split<;>omega
theorem SQ:∀ I:List Hi,∀ a∈I,GF a=true->a.rk<=Hh I
 |b::r,a,ha,hc=>by
  rw [Hh]
  rcases List.mem_cons.1 ha with rfl|ha
  . split
    . omega
    . rename_i h
      by_cases h2:Hh r<a.rk
      . exact absurd ⟨hc,h2⟩ h
      . omega
  . have:=SQ r a ha hc
    split<;>omega
theorem SP:∀ I:List Hi,Hh I = -1∨∃ a∈I,GF a=true/\a.rk=Hh I
 | []=>.inl rfl
 |b::r=>by
  rw [Hh]
  split
  . rename_i h;exact .inr ⟨b,Ü,h.1,rfl⟩
  . rcases SP r with h|⟨a,h1,h2,h3⟩
    . exact .inl h
    . exact .inr ⟨a,á _ h1,h2,h3⟩
theorem Xv {I J:List Hi}(hJ:∀ a∈J,NT a)(h:∀ a∈I,GF a=true->a∈J):Hh I<=Hh J:=by
 rcases SP I with e|⟨a,h1,h2,h3⟩
 . rw [e];exact Xu J hJ
 . rw [<- h3];exact SQ J a (h a h1 h2) h2
theorem Yl {I J:List Hi}(p:I.Perm J)(h:∀ a∈I,NT a):Hh I=Hh J :=
 Int.le_antisymm (Xv (fun a ha=>h a (p.mem_iff.2 ha)) fun a ha _=>p.mem_iff.1 ha) (Xv h fun a ha _=>p.mem_iff.2 ha)
theorem Ad3:∀ D:List Hi,(∀ a∈D,a.kd=1∨a.kd=2)->X2 3 D=3
 | [],_=>rfl
 |a::r,h=>by
  rw [X2]
  have:(bif (3:Int) == 0 then a.kd else bif (3:Int) != a.kd then 3 else 3)=3:=by
   rcases h a Ü with e|e<;>rw [e]<;>rfl
  rw [this];exact Ad3 r fun b hb=>h b (á _ hb)
theorem Afs:∀ D:List Hi,(∀ a∈D,a.kd=1∨a.kd=2)->X2 1 D=bif D.any (fun a=>a.kd == 2) then 3 else 1
 | [],_=>rfl
 |a::r,h=>by
  rw [X2,ı]
  have ih:=Afs r fun b hb=>h b (á _ hb)
  have i3:=Ad3 r fun b hb=>h b (á _ hb)
  rcases h a Ü with e|e<;>rw [e]
  . exact ih
  . exact i3
theorem Afr:∀ D:List Hi,(∀ a∈D,a.kd=1∨a.kd=2)->X2 2 D=bif D.any (fun a=>a.kd == 1) then 3 else 2
 | [],_=>rfl
 |a::r,h=>by
  rw [X2,ı]
  have ih:=Afr r fun b hb=>h b (á _ hb)
  have i3:=Ad3 r fun b hb=>h b (á _ hb)
  rcases h a Ü with e|e<;>rw [e]
  . exact i3
  . exact ih
theorem Agv (D:List Hi)(h:∀ a∈D,a.kd=1∨a.kd=2):X2 0 D=Ki D:=by
 cases D with
 |nil=>rfl
 |cons a r =>
  have h1:=Afs r fun b hb=>h b (á _ hb)
  have h2:=Afr r fun b hb=>h b (á _ hb)
  rw [X2]
  unfold Ki
  rw [ı,ı]
  rcases h a Ü with e|e<;>rw [e]
  . exact h1
  . refine h2.trans ?_
    show _=bif (false||r.any fun a=>a.kd == 1) then _ else _
    rw [Bool.false_or];rfl
theorem VB {α:Type}{p:α->Bool}{I J:List α}(h:I.Perm J):I.any p=J.any p:=by
 rw [Bool.eq_iff_iff,List.any_eq_true,List.any_eq_true]
 exact⟨fun ⟨a,h1,h2⟩=>⟨a,h.mem_iff.1 h1,h2⟩,fun ⟨a,h1,h2⟩=>⟨a,h.mem_iff.2 h1,h2⟩⟩
theorem Ux {D E:List Hi}(h:D.Perm E):Ki D=Ki E:=by
 unfold Ki;rw [VB h,VB h]
theorem S8 {I J:List Hi}(p:I.Perm J)(h:∀ a∈I,NT a):(JJ I).Perm (JJ J):=by
 unfold JJ
 rw [Yl p h]
 exact p.filter _
def atI:List Hi->Int->Int->List Int->Int×List Int
 | [],_,st,by_=>(st,by_)
 |a::r,ρ,st,by_=>bif a.kd == 3||!a.act||decide (a.rk<ρ) then atI r ρ st by_ else atI r a.rk (bif st == 0 then a.kd else bif st != a.kd then 3 else st) (by_++[a.ix])
theorem Adu (ρ:Int):∀ (I:List Hi) (st:Int) (by_:List Int),(∀ a∈I,a.rk<=ρ)->atI I ρ st by_=(X2 st (I.filter fun a=>GF a&&a.rk == ρ),by_++(I.filter fun a=>GF a&&a.rk == ρ).map (·.ix))
 | [],st,by_,_=>by simp [atI,X2]
 |a::r,st,by_,h=>by
  have ih:=fun st by_=>Adu ρ r st by_ fun b hb=>h b (á _ hb)
  have ha:=h a Ü
  rw [atI]
  cases hc:GF a&&a.rk == ρ with
  |true =>
   rw [List.filter_cons_of_pos (p:=fun b:Hi=>GF b&&b.rk == ρ) hc,X2,Þ]
   rw [Å] at hc
   have e:a.rk=ρ:=by simpa using hc.2
   have hk:(a.kd == 3||!a.act||decide (a.rk<ρ))=false:=by
    have h1:=hc.1
    unfold GF at h1
    rw [Ë (by omega)]
    cases hk:a.kd == 3<;>cases ha:a.act<;>simp_all
   rw [hk,Ï,e,ih,î];rfl
  |false =>
   rw [ħ (p:=fun b:Hi=>GF b&&b.rk == ρ) (by simp [hc])]
   have hk:(a.kd == 3||!a.act||decide (a.rk<ρ))=true:=by
    by_cases hr:a.rk=ρ
    . have:GF a=false:=by
       cases h1:GF a with
       |false=>rfl
       |true=>rw [h1,hr] at hc;simp at hc
      unfold GF at this
      cases hk:a.kd == 3<;>cases ha:a.act<;>simp_all
    . rw [Ì (by omega)];simp
   rw [hk,Ð];exact ih st by_
theorem Adv:∀ (I:List Hi),SI I->(∀ a∈I,NT a)->atI I (-1) 0 []=(X2 0 (JJ I),(JJ I).map (·.ix))
 | [],_,_=>rfl
 |a::r,hs,hf=>by
  have hs1:=List.pairwise_cons.1 hs
  have ih:=Adv r hs1.2 fun b hb=>hf b (á _ hb)
  have fa:=hf a Ü
  have frk:=fa.rk
  rw [atI]
  cases hc:GF a with
  |false =>
   have hk:(a.kd == 3||!a.act||decide (a.rk < -1))=true:=by
    unfold GF at hc
    cases hk:a.kd == 3<;>cases ha:a.act<;>simp_all
   have ht:Hh (a::r)=Hh r:=by rw [Hh,hc];simp
   rw [hk,Ð,ih]
   unfold JJ
   rw [ht,ħ (by simp [hc])]
  |true =>
   have hk:(a.kd == 3||!a.act||decide (a.rk < -1))=false:=by
    rw [Ë (by omega)]
    unfold GF at hc
    cases hk:a.kd == 3<;>cases ha:a.act<;>simp_all
   have ht:Hh (a::r)=a.rk:=by
    have h1:=SQ (a::r) a Ü hc
    rcases SP (a::r) with e|⟨b,h2,_,h3⟩
    . omega
    . rcases List.mem_cons.1 h2 with rfl|h2
      . exact h3.symm
      . have:=hs1.1 b h2;omega
   rw [hk,Ï,Adu a.rk r _ _ hs1.1]
   unfold JJ
   rw [ht,List.filter_cons_of_pos (by rw [hc];simp),X2];rfl
theorem XY (x:Int):BitVec.ofInt 64 (À x)=BitVec.ofInt 64 x:=by
 apply BitVec.eq_of_toInt_eq
 rw [BitVec.toInt_ofInt,BitVec.toInt_ofInt]
 unfold À;rw [IntKind.wrap_i64]
 simp only [Int.bmod]
 split<;>split<;>omega
theorem Aaz (x:BitVec 64):BitVec.ofInt 64 (x.toNat:Int)=x:=by
 rw [BitVec.ofInt_natCast,BitVec.ofNat_toNat,BitVec.setWidth_eq]
theorem Aa7 (c a b:Int):bits .and .i64 (bits .and .i64 c a) b=bits .and .i64 (bits .and .i64 c b) a:=by
 show À ((BitVec.ofInt 64 (À ((BitVec.ofInt 64 c &&& BitVec.ofInt 64 a).toNat:Int)) &&& BitVec.ofInt 64 b).toNat:Int)=À ((BitVec.ofInt 64 (À ((BitVec.ofInt 64 c &&& BitVec.ofInt 64 b).toNat:Int)) &&& BitVec.ofInt 64 a).toNat:Int)
 rw [XY,XY,Aaz,Aaz,BitVec.and_assoc,BitVec.and_assoc,BitVec.and_comm (BitVec.ofInt 64 a)]
theorem Zb {D E:List Hi}(h:D.Perm E):∀ c,K3 D c=K3 E c:=by
 induction h with
 |nil=>exact fun _=>rfl
 |cons a _ ih=>exact fun c=>by rw [K3,K3];exact ih _
 |swap a b r=>exact fun c=>by rw [K3,K3,K3,K3,Aa7]
 |trans _ _ h1 h2=>exact fun c=>(h1 c).trans (h2 c)
theorem YF {I J:List Hi}(ρ:Int)(h:I.Perm J):(IV ρ I).Perm (IV ρ J):=h.filter _
theorem O3 {I J:List Hi}:∀ (k:Nat),(∀ j:Nat,j<k->(IV (j:Int) I).Perm (IV (j:Int) J))->∀ out,MT k I out=MT k J out
 |0,_,_=>rfl
 |k+1,h,out=>by
  have ih:=O3 k fun j hj=>h j (by omega)
  have p:=h k (by omega)
  have e:(IV (k:Int) I).isEmpty=(IV (k:Int) J).isEmpty:=by rw [Bool.eq_iff_iff,List.isEmpty_iff,List.isEmpty_iff];exact⟨fun h=>by rw [h] at p;exact p.nil_eq.symm,fun h=>by rw [h] at p;exact p.eq_nil⟩
  rw [MT,MT,e,Zb p,ih out,ih]
def NW:Nat->List Hi->Int->Int ⊕ Int
 |_,[],out=>.inl out
 |0,_::_,out=>.inl out
 |m+1,a::r,out =>
  bif ((a::r).takeWhile (fun b=>b.rk == a.rk)).any Nx then
   (bif K3 (((a::r).takeWhile (fun b=>b.rk == a.rk)).filter Nx) 4095 == 0 then .inr 0
   else NW m ((a::r).dropWhile (fun b=>b.rk == a.rk)) (Ma out (K3 (((a::r).takeWhile (fun b=>b.rk == a.rk)).filter Nx) 4095)))
  else NW m ((a::r).dropWhile (fun b=>b.rk == a.rk)) out
theorem Up {ρ:Int}:∀ I:List Hi,SI I->(∀ a∈I,a.rk<=ρ)->(I.takeWhile fun b=>b.rk == ρ).filter Nx=IV ρ I/\(∀ a∈I.dropWhile (fun b=>b.rk == ρ),a.rk<ρ)/\SI (I.dropWhile fun b=>b.rk == ρ)/\(∀ a∈I.dropWhile (fun b=>b.rk == ρ),a∈I)/\∀ j:Int,j<ρ->IV j (I.dropWhile fun b=>b.rk == ρ)=IV j I
 | [],_,_=>⟨rfl,fun a ha=>by simp at ha,.nil,fun a ha=>by simp at ha,fun _ _=>rfl⟩
 |a::r,hs,hm=>by
  have hs1:=List.pairwise_cons.1 hs
  obtain⟨i1,i2,i3,i4,i5⟩:=Up r hs1.2 fun b hb=>hm b (á _ hb)
  have ha:=hm a Ü
  cases hc:a.rk == ρ with
  |true =>
   have e:a.rk=ρ:=by simpa using hc
   rw [ĕ,Ĥ,hc]
   simp only [ù]
   refine⟨?_,i2,i3,fun b hb=>á _ (i4 b hb),fun j hj=>?_⟩
   . unfold IV at i1 ⊢
     rw [Ē,Ē,i1,hc,Bool.true_and]
   . rw [i5 j hj]
     unfold IV
     rw [ħ (by simp;omega)]
  |false =>
   have e:a.rk<ρ:=by
    have:a.rk≠ρ:=by simpa using hc
    omega
   rw [ĕ,Ĥ,hc]
   simp only [è,Ā]
   refine⟨?_,fun b hb=>?_,hs,fun b hb=>hb,fun _ _=>trivial⟩
   . unfold IV
     rw [List.filter_nil,eq_comm,List.filter_eq_nil_iff]
     intro b hb
     rcases List.mem_cons.1 hb with rfl|hb
     . simp [hc]
     . have:=hs1.1 b hb
       simp;omega
   . rcases List.mem_cons.1 hb with rfl|hb
     . exact e
     . have:=hs1.1 b hb;omega
theorem LU:∀ (k m:Nat) (I:List Hi) (out:Int),SI I->(∀ a∈I,0<=a.rk/\a.rk<(k:Int))->I.length<=m->NW m I out=MT k I out
 |0,m,I,out,_,h,_=>by
  cases I with
  |nil=>cases m<;>rfl
  |cons a r=>have:=h a Ü;omega
 |k+1,m,I,out,hs,h,hm=>by
  cases I with
  |nil =>
   have:=LU k m [] out hs (fun a ha=>by cases ha) hm
   rw [this];rfl
  |cons a r =>
   have ha:=h a Ü
   by_cases hk:a.rk=(k:Int)
   . cases m with
     |zero=>simp at hm
     |succ m =>
      have hle:∀ b∈a::r,b.rk<=(k:Int):=fun b hb=>by have:=h b hb;omega
      obtain⟨i1,i2,i3,i4,i5⟩:=Up (a::r) hs hle
      have hdl:((a::r).dropWhile fun b=>b.rk == (k:Int)).length<=m:=by
       have:(a::r).dropWhile (fun b=>b.rk == (k:Int))=r.dropWhile (fun b=>b.rk == (k:Int)):=by rw [Ĥ,hk];simp
       rw [this]
       have:=(List.dropWhile_sublist (l:=r) fun b=>b.rk == (k:Int)).length_le
       simp at hm;omega
      have ih:=fun o=>LU k m _ o i3 (fun b hb=>⟨(h b (i4 b hb)).1,i2 b hb⟩) hdl
      have sm:=fun o=>O3 (I:=(a::r).dropWhile fun b=>b.rk == (k:Int)) (J:=a::r) k (fun j hj=>by rw [i5 j (by omega)]) o
      have hany:((a::r).takeWhile fun b=>b.rk == (k:Int)).any Nx = !(IV (k:Int) (a::r)).isEmpty:=by
       rw [<- i1,Bool.eq_iff_iff,List.any_eq_true,ç,<- Bool.not_eq_true,List.isEmpty_iff,List.filter_eq_nil_iff]
       exact⟨fun ⟨b,h1,h2⟩ h3=>h3 b h1 h2,fun h3=>by
        apply Classical.byContradiction
        intro h4
        exact h3 fun b hb hp=>h4 ⟨b,hb,hp⟩⟩
      rw [NW,MT,hk,hany,i1,ih,ih,sm,sm]
      cases (IV (k:Int) (a::r)).isEmpty<;>rfl
   . have hle:∀ b∈a::r,b.rk<(k:Int):=fun b hb=>by
      rcases List.mem_cons.1 hb with rfl|hb
      . have:=ha.2;omega
      . have:=(List.pairwise_cons.1 hs).1 b hb
        have:=ha.2
        omega
     have hg:IV (k:Int) (a::r)=[]:=by
      unfold IV
      rw [List.filter_eq_nil_iff]
      intro b hb
      have:=hle b hb
      simp;omega
     rw [MT,hg,LU k m (a::r) out hs (fun b hb=>⟨(h b hb).1,hle b hb⟩) hm];rfl
theorem Q9 {a b:List Int}(h:a.Perm b):Cv a=Cv b :=
 List.Perm.eq_of_pairwise (le:=fun x y:Int=>x<=y) (fun _ _ _ _ h1 h2=>Int.le_antisymm h1 h2) (En a) (En b) (((BO a).trans h).trans (BO b).symm)
theorem WV {I J:List Hi}(p:I.Perm J)(h:∀ a∈I,NT a):GD I=GD J:=by
 unfold GD
 rw [Ux (S8 p h),Q9 ((S8 p h).map _),O3 10 (fun j _=>YF _ p)]
section
variable (l:List Aa) (act:Ac->Bool)
def N7 (x:Ac):Hi:=⟨rk l x,ZM l x,hsC l x,act x,x.clause⟩
theorem TR:∀ (s:List Ac) (ρ st:Int) (b:List Int),Zf l act s ρ st b=atI (s.map (N7 l act)) ρ st b
 | [],_,_,_=>rfl
 |x::r,ρ,st,b=>by
  rw [Zf,Þ,atI,TR r,TR r];rfl
theorem Sz:∀ (s:List Ac) (c:Int),My l s c=K3 (s.map (N7 l act)) c
 | [],_=>rfl
 |x::r,c=>by rw [My,Þ,K3,Sz r];rfl
theorem MM {α β:Type}(f:α->β)(p:α->Bool)(q:β->Bool)(h:∀ x,p x=q (f x)):∀ s:List α,(s.takeWhile p).map f=(s.map f).takeWhile q/\(s.dropWhile p).map f=(s.map f).dropWhile q/\(s.filter p).map f=(s.map f).filter q/\s.any p=(s.map f).any q
 | []=>⟨rfl,rfl,rfl,rfl⟩
 |x::r=>by
  obtain⟨h1,h2,h3,h4⟩:=MM f p q h r
  rw [Þ,ĕ,ĕ,Ĥ,Ĥ,Ē,Ē,ı,ı,<- h x,<- h4]
  cases p x
  . exact⟨rfl,rfl,h3,rfl⟩
  . exact⟨by simp [h1],by simp [h2],by simp [h3],rfl⟩
theorem M4:∀ (m:Nat) (s:List Ac) (out:Int),Lb l act m s out=NW m (s.map (N7 l act)) out
 |0,[],_=>rfl
 |0,_::_,_=>rfl
 |m+1,[],_=>rfl
 |m+1,x::r,out=>by
  obtain⟨h1,h2,_,_⟩:=MM (N7 l act) (EE l (rk l x)) (fun b:Hi=>b.rk == rk l x) (fun _=>rfl) (x::r)
  obtain⟨_,_,h3,h4⟩:=MM (N7 l act) (VL l act) Nx (fun _=>rfl) ((x::r).takeWhile (EE l (rk l x)))
  rw [Lb,Þ,NW,M4 m,M4 m,Sz l act,h3,h4,h1,h2]
  rfl
end
theorem SR.itm {l:List Aa}{act:Ac->Bool}{s:List Ac}(h:SR l s 0 s.length):SI (s.map (N7 l act)):=by
 unfold SI
 rw [List.pairwise_map,List.pairwise_iff_getElem]
 intro i j hi hj hij
 have:=h i j (ü _) hij hj
 unfold GH at this
 rw [Ã hi,Ã hj] at this
 exact this
theorem Aff {l:List Aa}{act:Ac->Bool}{s:List Ac}(h:SR l s 0 s.length)(hf:∀ a∈s.map (N7 l act),NT a):atV l act s=GD (s.map (N7 l act)):=by
 have hd:∀ a∈JJ (s.map (N7 l act)),a.kd=1∨a.kd=2:=fun a ha=>by
  unfold JJ at ha
  obtain⟨h1,h2⟩:=List.mem_filter.1 ha
  have:=(hf a h1).kd
  rw [Å] at h2
  have h3:=h2.1
  unfold GF at h3
  have:a.kd≠3:=by simp at h3;exact h3.1
  omega
 unfold atV SK GD
 rw [TR,Adv _ h.itm hf,Agv _ hd,M4,LU 10 _ _ _ h.itm (fun a ha=>⟨(hf a ha).rk.1,by have:=(hf a ha).rk.2;omega⟩) (by simp)]
 cases MT 10 (s.map (N7 l act)) 4095<;>rfl
def GI (d:Aj)(known t:Int):List Aa->Nat->List Hi
 | [],_=>[]
 |c::r,k=>(if Rs d known c=true then [⟨c.Rank,c.Kind,c.Houses,decide (KZ ⟨d,known⟩ c.From<=t/\t<=KZ ⟨d,known⟩ c.To),(k:Int)⟩] else [])++GI d known t r (k+1)
theorem Tz {l:List Aa}{d:Aj}{known t:Int}:∀ (r:List Aa) (k:Nat),l.drop k=r->(KV d known r k).map (N7 l fun x=>KW x t)=GI d known t r k
 | [],_,_=>rfl
 |c::r,k,h=>by
  obtain⟨h1,h2⟩:=F6 h
  rw [KV,GI,Ć,Tz r (k+1) h1]
  congr 1
  split
  . have g:gi l (k:Int)=some c:=O5 h
    unfold N7 rk ZM hsC
    simp only [Þ,ï,g];rfl
  . rfl
theorem Sv {d:Aj}{known t:Int}:∀ (r:List Aa) (k:Nat),(∀ c∈r,R3 c)->∀ a∈GI d known t r k,NT a
 | [],_,_,a,ha=>by cases ha
 |c::r,k,h,a,ha=>by
  rw [GI,List.mem_append] at ha
  rcases ha with ha|ha
  . split at ha
    . rw [List.mem_singleton] at ha
      subst ha
      have:=h c Ü
      exact⟨this.rank,this.kind⟩
    . cases ha
  . exact Sv r (k+1) (fun c hc=>h c (á _ hc)) a ha
theorem V0 {l:List Aa}{d:Aj}{known t:Int}{s:List Ac}(h:VI l d known s)(hf:∀ c∈l,R3 c):atV l (fun x=>KW x t) s=GD (GI d known t l 0):=by
 have e:=Tz (l:=l) (d:=d) (known:=known) (t:=t) l 0 rfl
 have p:=h.perm.map (N7 l fun x=>KW x t)
 rw [e] at p
 have hfi:∀ a∈s.map (N7 l fun x=>KW x t),NT a:=fun a ha=>Sv l 0 hf a (p.mem_iff.1 ha)
 rw [Aff h.sorted hfi]
 exact WV p hfi
end Go.Sp
namespace Go.Sp
open Go
set_option maxRecDepth 100000
theorem Rf (ks:List Aa)(c:Aa):Cd ks c=0↔Cd [] c=0/\∀ p∈ks,p.Name≠c.Name:=by
 have hn:Gv ks c.Name=false↔∀ p∈ks,p.Name≠c.Name:=by
  unfold Gv
  rw [<- Bool.not_eq_true,List.any_eq_true]
  exact⟨fun h p hp e=>h ⟨p,hp,by simpa using e⟩,fun h ⟨p,hp,e⟩=>h p hp (by simpa using e)⟩
 have h0:Gv [] c.Name=false:=rfl
 unfold Cd
 rw [h0,<- hn]
 by_cases h1:Me c.Name=false
 . rw [Ç h1,Ç h1];simp
 . rw [Ä h1,Ä h1,Ä (show ¬ (false=true) by decide)]
   cases hk:Gv ks c.Name with
   |true=>rw [Ç rfl];simp
   |false=>rw [Ä (show ¬ (false=true) by decide)];simp
theorem NK {l:List Aa}:∀ (r:List Aa) (k:Nat),l.drop k=r->(DZ l r k=0↔(∀ c∈r,Cd [] c=0)/\(∀ c∈r,∀ p∈l.take k,p.Name≠c.Name)/\r.Pairwise fun p c=>p.Name≠c.Name)
 | [],k,_=>by simp [DZ]
 |x::r,k,h=>by
  obtain⟨h1,h2⟩:=F6 h
  have ih:=NK r (k+1) h1
  have tk:l.take (k+1)=l.take k++[x]:=by
   rw [List.take_add_one]
   have:=O5 h
   rw [giN] at this
   rw [this];rfl
  rw [DZ]
  by_cases hc:Cd (l.take k) x=0
  . rw [Ä (by simpa using hc),ih,tk]
    obtain⟨c1,c2⟩:=(Rf _ _).1 hc
    constructor
    . rintro⟨a1,a2,a3⟩
      refine⟨fun c hc=>?_,fun c hc p hp=>?_,List.pairwise_cons.2 ⟨fun c hc=>a2 c hc x (Ě _ Ü),a3⟩⟩
      . rcases List.mem_cons.1 hc with rfl|hc
        . exact c1
        . exact a1 c hc
      . rcases List.mem_cons.1 hc with rfl|hc
        . exact c2 p hp
        . exact a2 c hc p (ă _ hp)
    . rintro⟨a1,a2,a3⟩
      have a3:=List.pairwise_cons.1 a3
      refine⟨fun c hc=>a1 c (á _ hc),fun c hm p hp=>?_,a3.2⟩
      rcases List.mem_append.1 hp with hp|hp
      . exact a2 c (á _ hm) p hp
      . rw [List.mem_singleton] at hp;subst hp;exact a3.1 c hm
  . rw [Ç hc]
    refine⟨fun e=>absurd e hc,fun ⟨a1,a2,_⟩=>?_⟩
    exact absurd ((Rf _ _).2 ⟨a1 x Ü,a2 x Ü⟩) hc
theorem SC (l:List Aa):CX l=0↔l.length<=40/\(∀ c∈l,Cd [] c=0)/\l.Pairwise fun p c=>p.Name≠c.Name:=by
 unfold CX
 by_cases h:40<l.length
 . rw [Ç h];constructor
   . intro e;cases e
   . intro e;omega
 . rw [Ä h,NK l 0 rfl]
   simp only [List.take_zero,List.not_mem_nil,false_implies,implies_true,õ]
   exact⟨fun a=>⟨by omega,a⟩,fun a=>a.2⟩
theorem Xd {l r:List Aa}(h:CX l=0)(hs:r.Sublist l):CX r=0:=by
 obtain⟨h1,h2,h3⟩:=(SC l).1 h
 exact (SC r).2 ⟨ď hs.length_le h1,fun c hc=>h2 c (hs.mem hc),h3.sublist hs⟩
def MH (f:Int->Int)(a:Hi):Hi:=⟨a.rk,a.kd,a.hs,a.act,f a.ix⟩
section
variable (f:Int->Int)
theorem Ur:∀ I:List Hi,Hh (I.map (MH f))=Hh I
 | []=>rfl
 |a::r=>by rw [Þ,Hh,Hh,Ur r];rfl
theorem Aau (I:List Hi):JJ (I.map (MH f))=(JJ I).map (MH f):=by
 unfold JJ
 rw [Ur]
 exact (MM (MH f) (fun a:Hi=>GF a&&a.rk == Hh I) (fun a:Hi=>GF a&&a.rk == Hh I) (fun _=>rfl) I).2.2.1.symm
theorem Wa (D:List Hi):Ki (D.map (MH f))=Ki D:=by
 unfold Ki
 rw [<- (MM (MH f) (fun a:Hi=>a.kd == 1) (fun a:Hi=>a.kd == 1) (fun _=>rfl) D).2.2.2,<- (MM (MH f) (fun a:Hi=>a.kd == 2) (fun a:Hi=>a.kd == 2) (fun _=>rfl) D).2.2.2]
theorem VE:∀ (D:List Hi) (c:Int),K3 (D.map (MH f)) c=K3 D c
 | [],_=>rfl
 |a::r,c=>by rw [Þ,K3,K3,VE r];rfl
theorem ZT (ρ:Int)(I:List Hi):IV ρ (I.map (MH f))=(IV ρ I).map (MH f) :=
 (MM (MH f) (fun a:Hi=>a.rk == ρ&&Nx a) (fun a:Hi=>a.rk == ρ&&Nx a) (fun _=>rfl) I).2.2.1.symm
theorem QG (I:List Hi):∀ (k:Nat) (out:Int),MT k (I.map (MH f)) out=MT k I out
 |0,_=>rfl
 |k+1,out=>by
  rw [MT,MT,ZT,VE,QG I k,QG I k]
  cases IV (k:Int) I<;>rfl
theorem YS (I:List Hi):GD (I.map (MH f))=⟨(GD I).State,(GD I).Houses,Cv (((JJ I).map (·.ix)).map f)⟩:=by
 unfold GD
 rw [Aau,Wa,QG,List.map_map,List.map_map];rfl
end
section
variable {d:Aj} {known t:Int}
theorem XK:∀ (r:List Aa) (k:Nat),∀ a∈GI d known t r k,∃ i c,r[i]?=some c/\a.ix=((k+i:Nat):Int)/\a.rk=c.Rank
 | [],_,a,ha=>by cases ha
 |c::r,k,a,ha=>by
  rw [GI,List.mem_append] at ha
  rcases ha with ha|ha
  . split at ha
    . rw [List.mem_singleton] at ha
      subst ha
      exact⟨0,c,rfl,rfl,rfl⟩
    . cases ha
  . obtain⟨i,e,h1,h2,h3⟩:=XK r (k+1) a ha
    exact⟨i+1,e,h1,by rw [h2];congr 1;omega,h3⟩
end
theorem W7 (l:List Int):(Cv l).length=l.length:=(BO l).length_eq
end Go.Sp
namespace Go.Sp
open Go
set_option maxRecDepth 100000
def GJ:List Ac->List Int
 | []=>[]
 |x::r=>x.from_::(x.to_+1)::GJ r
theorem Ro:∀ s:List Ac,(GJ s).length=2*s.length
 | []=>rfl
 |x::r=>by rw [GJ,ß,ß,Ro r,ß];omega
theorem NO {v:Int}:∀ s:List Ac,v∈GJ s↔∃ x∈s,v=x.from_∨v=x.to_+1
 | []=>by simp [GJ]
 |x::r=>by
  rw [GJ,Ę,Ę,NO r]
  constructor
  . rintro (h|h|⟨y,h1,h2⟩)
    . exact⟨x,Ü,.inl h⟩
    . exact⟨x,Ü,.inr h⟩
    . exact⟨y,á _ h1,h2⟩
  . rintro⟨y,h1,h2⟩
    rcases List.mem_cons.1 h1 with rfl|h1
    . exact h2.elim .inl fun h=>.inr (.inl h)
    . exact .inr (.inr ⟨y,h1,h2⟩)
theorem Ag5 {l:List Int}{x y:Int}(h:l.length<=1000):Ca 8 l [x,y]=some (l++[x,y]):=by
 unfold Ca
 rw [Ç (by simp;omega)]
theorem XZ {s:List Ac}(hl:s.length<=400)(hr:∀ x∈s,0<=x.to_/\x.to_<=41667):∀ (r:List Ac) (k:Nat) (acc:List Int),s.drop k=r->k<=s.length->acc.length<=2*k+1->Ev (fun n=>Co n s (k:Int) acc) (acc++GJ r)
 | [],k,acc,h,hk,ha=>by
  have he:=JI h hk
  rw [GJ,ą]
  refine Ev.step (f:=fun n=>some acc) (fun n=>?_) Ev.pure
  rw [Ia,Ë (by omega)];rfl
 |x::r,k,acc,h,hk,ha=>by
  obtain⟨h1,h2⟩:=F6 h
  have hx:x∈s:=ë (i:=k) (by rw [h];exact Ü)
  have:=hr x hx
  have e:∀ n,Co (n+1) s (k:Int) acc=Co n s ((k+1:Nat):Int) (acc++[x.from_,x.to_+1]):=fun n=>by
   rw [Ia,P2 h2,Ð,O5 h]
   simp only [Á]
   rw [NU (by omega),Ew (x:=x.to_+1) (by omega) (by omega),Ag5 (by omega)];rfl
  refine Ev.step e ?_
  have ih:=XZ hl hr r (k+1) (acc++[x.from_,x.to_+1]) h1 (by omega) (by simp;omega)
  rw [î] at ih
  exact ih
theorem Afd {s:List Ac}(hl:s.length<=400)(hr:∀ x∈s,0<=x.to_/\x.to_<=41667):Ev (fun n=>EJ n s) (Cv (0::GJ s)):=by
 unfold EJ
 refine (XZ hl hr s 0 [0] rfl (ü _) (by simp)).bind ?_
 show Ev (fun n=>bif (0::GJ s).isEmpty then none else _) _
 have hg:Pe (0::GJ s)=some (Cv (0::GJ s)):=by
  unfold Pe
  rw [Ç (by rw [ß,Ro];omega)]
 simp only [List.isEmpty_cons,Ï,List.singleton_append,hg,Á]
 rw [(BO _).length_eq]
 simp only [ċ,Ð]
 exact Ev.pure
theorem Tt {v:Int}:∀ l:List Int,v∈OE l↔v∈l
 | []=>Iff.rfl
 | [x]=>Iff.rfl
 |x::y::r=>by
  have ih:=Tt (v:=v) (y::r)
  rw [OE]
  by_cases h:x=y
  . rw [Ì h,Ð,ih,Ę (a:=v) (b:=x),h]
    constructor
    . exact .inr
    . rintro (h|h)
      . rw [h];exact Ü
      . exact h
  . rw [Ë h,Ï,Ę,ih,Ę (a:=v) (b:=x)]
theorem Aav:∀ l:List Int,l.Pairwise (·<=·)->(OE l).Pairwise (· < ·)
 | [],_=>.nil
 | [x],_=>by simp [OE]
 |x::y::r,h=>by
  have h1:=List.pairwise_cons.1 h
  have ih:=Aav (y::r) h1.2
  rw [OE]
  by_cases e:x=y
  . rw [Ì e,Ð];exact ih
  . rw [Ë e,Ï,List.pairwise_cons]
    refine⟨fun v hv=>?_,ih⟩
    have hv:=(Tt _).1 hv
    have a:=h1.1 y Ü
    have b:y<=v:=by
     rcases List.mem_cons.1 hv with rfl|hv
     . omega
     . exact (List.pairwise_cons.1 h1.2).1 v hv
    omega
def Vb:List Int->Int
 | []=>41667
 |v::_=>v
def Uc (A:Int->Bd):List Int->Prop
 | []=>True
 |v::r=>0<=v/\v<=41666/\v<Vb r/\(∀ t,v<=t->t<Vb r->A t=A v)/\Uc A r
theorem Acv {r:List Int}(h:∀ v∈r,v<=41666):Vb r<=41667:=by
 cases r with
 |nil=>exact Į _
 |cons v r=>have:=h v Ü;show v<=41667;omega
theorem Xa {A:Int->Bd}{s:List Ac}(hA:∀ t u,(∀ x∈s,KW x t=KW x u)->A t=A u):∀ ds:List Int,ds.Pairwise (· < ·)->(∀ v∈ds,0<=v/\v<=41666)->(∀ v∈GJ s,v<=41666->v∈ds∨v<Vb ds)->Uc A ds
 | [],_,_,_=>trivial
 |d::r,hp,hv,hb=>by
  have hp1:=List.pairwise_cons.1 hp
  have hd:=hv d Ü
  have hlt:d<Vb r:=by
   cases r with
   |nil=>show d<41667;omega
   |cons v r=>exact hp1.1 v Ü
  have hle:=Acv (r:=r) fun v h=>(hv v (á _ h)).2
  have hge:∀ v∈r,Vb r<=v:=by
   cases r with
   |nil=>intro v h;cases h
   |cons w r =>
    intro v h
    rcases List.mem_cons.1 h with rfl|h
    . exact Į _
    . exact Int.le_of_lt ((List.pairwise_cons.1 hp1.2).1 v h)
  refine⟨hd.1,hd.2,hlt,fun t h1 h2=>hA t d fun x hx=>?_,Xa hA r hp1.2 (fun v h=>hv v (á _ h)) fun v h1 h2=>?_⟩
  . have key:∀ v∈GJ s,v<=t->v<=d:=by
     intro v h3 h4
     rcases hb v h3 (by omega) with h5|h5
     . rcases List.mem_cons.1 h5 with h5|h5
       . omega
       . have:=hge v h5;omega
     . have:v<d:=h5
       omega
    have k1:=key x.from_ ((NO s).2 ⟨x,hx,.inl rfl⟩)
    have k2:=key (x.to_+1) ((NO s).2 ⟨x,hx,.inr rfl⟩)
    unfold KW
    by_cases c:x.from_<=d/\d<=x.to_
    . rw [Ì c,Ì]
      constructor
      . omega
      . by_cases c2:x.to_+1<=t
        . have:=k2 c2;omega
        . omega
    . rw [Ë c,Ë]
      intro c2
      have:=k1 c2.1
      exact c ⟨this,by omega⟩
  . rcases hb v h1 h2 with h3|h3
    . rcases List.mem_cons.1 h3 with h3|h3
      . exact .inr (by omega)
      . exact .inl h3
    . have:v<d:=h3
      exact .inr (by omega)
def Ek (l:List Aa)(s:List Ac)(t:Int):Bd:=atV l (fun x=>KW x t) s
theorem QZ {l:List Aa}{s:List Ac}(ok:RF l s)(hl:s.length<=40)(t u:Int)(h:∀ x∈s,KW x t=KW x u):Ek l s t=Ek l s u :=
 (VA (l:=l) (s:=s) (day:=t) ok hl (act:=fun x=>KW x t) fun _ _=>rfl).uniq (VA ok hl h)
end Go.Sp
namespace Go.Sp
open Go
set_option maxRecDepth 100000
theorem Qh:Sb=some true:=by kernel_rfl
end Go.Sp
namespace Go.Sp
open Go
set_option maxRecDepth 100000
theorem Aai (l:List Aa)(d:Aj):∃ b,Ev (fun n=>Ip n l d) b/\(b=true->(∀ c∈l,I8 c)/\(d.Facts.length<=30∨200<d.Facts.length)):=by
 have h:=Ae6 l 300 (by decide) (by decide)
 by_cases c:l.length<=50/\0<=LD l 300
 . rw [Ì c] at h
   refine⟨decide (d.Facts.length<=30∨200<d.Facts.length/\d.Facts.length<205),?_,fun e=>?_⟩
   . unfold Ip
     refine Ev.bind (h.bind (b:=decide (d.Facts.length<=30∨200<d.Facts.length/\d.Facts.length<205)) (g:=fun _ f=>bif f then (bif (decide ((d.Facts.length:Int)<=30)) then some true else bif (decide (200<(d.Facts.length:Int))) then some (decide ((d.Facts.length:Int)<205)) else some false) else some false) ?_) Ev.pure
     simp only [Ð]
     by_cases c1:d.Facts.length<=30
     . rw [Ì (show (d.Facts.length:Int)<=30 by omega),Ì (show d.Facts.length<=30∨200<d.Facts.length/\d.Facts.length<205 from .inl c1)];exact Ev.pure
     . rw [Ë (show ¬ (d.Facts.length:Int)<=30 by omega)]
       by_cases c2:200<d.Facts.length
       . rw [Ì (show (200:Int)<(d.Facts.length:Int) by omega)]
         by_cases c3:d.Facts.length<205
         . rw [Ì (show (d.Facts.length:Int)<205 by omega),Ì (show d.Facts.length<=30∨200<d.Facts.length/\d.Facts.length<205 from .inr ⟨c2,c3⟩)];exact Ev.pure
         . rw [Ë (show ¬ (d.Facts.length:Int)<205 by omega),Ë (show ¬ (d.Facts.length<=30∨200<d.Facts.length/\d.Facts.length<205) by omega)];exact Ev.pure
       . rw [Ë (show ¬ (200:Int)<(d.Facts.length:Int) by omega),Ë (show ¬ (d.Facts.length<=30∨200<d.Facts.length/\d.Facts.length<205) by omega)];exact Ev.pure
   . have:=ć e
     exact⟨QR l 300 c.2 (by decide),by omega⟩
 . rw [Ë c] at h
   refine⟨false,?_,fun e=>by cases e⟩
   unfold Ip
   exact Ev.bind (h.bind (b:=false) (g:=fun _ f=>bif f then (bif (decide ((d.Facts.length:Int)<=30)) then some true else bif (decide (200<(d.Facts.length:Int))) then some (decide ((d.Facts.length:Int)<205)) else some false) else some false) Ev.pure) Ev.pure
section
variable {l:List Aa} {d:Aj} {known:Int} {s:List Ac}
theorem Xi (h:VI l d known s)(e:Ev (fun n=>Ch n l d known) (s,0)){t:Int}(h0:0<=t)(h1:t<=41666):Ev (fun n=>FX n l d t known) (Ek l s t,0):=by
 unfold FX
 refine e.bind ?_
 simp only [ô,Ï,Ë (show ¬ t<0 by omega),Ë (show ¬ 41666<t by omega),Á]
 exact (VA h.ok h.len fun _ _=>rfl).bind Ev.pure
theorem Aa2 (e:Ev (fun n=>Ch n l d known) (s,0)){t:Int}(h0:t<0∨41666<t):Ev (fun n=>FX n l d t known) (⟨0,0,[]⟩,1):=by
 unfold FX
 refine e.bind ?_
 simp only [ô,Ï]
 by_cases c:t<0
 . simp only [Ì c,Ð,Á];exact Ev.pure
 . simp only [Ë c,Ï,Á,Ì (show 41666<t by omega),Ð];exact Ev.pure
theorem Aa3 {x:Int}(hx:x≠0)(e:Ev (fun n=>Ch n l d known) ([],x))(t:Int):Ev (fun n=>FX n l d t known) (⟨0,0,[]⟩,x):=by
 unfold FX
 refine e.bind ?_
 rw [show (x != 0)=true by simpa using hx]
 exact Ev.pure
end
end Go.Sp

namespace Go.Sp
open Go
set_option maxRecDepth 100000
theorem Sx {α:Type}{b:Nat}{x y:List α}(h:(x.length+y.length)*b<=140737488355328):Ca b x y=some (x++y):=by unfold Ca;rw [Ç h]
theorem Afe {l:List Aa}{d:Aj}{known:Int}(hs:∀ c∈l,I8 c)(hc:CX l=0)(t:Int) :
 Ev (fun n=>FX n l d t known) (if Dy d known≠0 then (⟨0,0,[]⟩,Dy d known) else if t<0∨41666<t then (⟨0,0,[]⟩,1) else (GD (GI d known t l 0),0)):=by
 have hE:I7 l d known=Dy d known:=by unfold I7;rw [Ä (by simpa using hc)]
 rcases Qd (d:=d) (known:=known) hs with⟨he,ev⟩|⟨he,s,hS,ev⟩
 . rw [hE] at he ev
   rw [Ç he]
   exact Aa3 he ev t
 . rw [hE] at he
   rw [Ä (by simpa using he)]
   by_cases ht:t<0∨41666<t
   . rw [Ç ht];exact Aa2 ev ht
   . rw [Ä ht,<- V0 hS (MZ hc).2]
     exact Xi hS ev (by omega) (by omega)
theorem Ae0 {d:Aj}{known t:Int}{l:List Aa}{i:Int}(h:i∈(GD (GI d known t l 0)).By):∃ (k:Nat) (c:Aa),l[k]?=some c/\i=(k:Int)/\c.Rank=Hh (GI d known t l 0):=by
 have h:=(BO _).mem_iff.1 h
 obtain⟨a,h1,rfl⟩:=List.mem_map.1 h
 unfold JJ at h1
 obtain⟨h2,h3⟩:=List.mem_filter.1 h1
 obtain⟨k,c,h4,h5,h6⟩:=XK l 0 a h2
 rw [Å] at h3
 have h7:a.rk=Hh (GI d known t l 0):=by simpa using h3.2
 exact⟨k,c,h4,by rw [h5];congr 1;omega,by rw [<- h6];exact h7⟩
end Go.Sp
namespace Go.Sp
open Go
set_option maxRecDepth 100000
theorem Z9 {m m':Ah}(hl:∀ k w,II m k w=II m' k w)(d:Do)(x:List Int):RE m d x=RE m' d x:=by
 unfold RE
 split<;>first|rfl|exact hl _ _
mutual
theorem Vq {m m':Ah}(hs:m.d.Stored=m'.d.Stored)(ho:m.d.Owner=m'.d.Owner)(hl:∀ k w,II m k w=II m' k w):∀ e,KZ m e=KZ m' e
 |.mk op n s kids p=>by
  rw [KZ,KZ,hs,ho,S5 hs ho hl kids,Z9 hl]
theorem S5 {m m':Ah}(hs:m.d.Stored=m'.d.Stored)(ho:m.d.Owner=m'.d.Owner)(hl:∀ k w,II m k w=II m' k w):∀ l,MU m l=MU m' l
 | []=>by rw [MU,MU]
 |e::l=>by rw [MU,MU,Vq hs ho hl e,S5 hs ho hl l]
end
theorem Nd {a b:Int}(hab:a<=b)(kind who:Int):∀ (l:List Bb) (c:Option Bb),Jl (XM b kind who) (l.filter fun f=>decide (f.Known<=a)) c=Jl (XM a kind who) l c
 | [],_=>rfl
 |f::l,c=>by
  by_cases h:f.Known<=a
  . have e:XM b kind who f=XM a kind who f:=by
     unfold XM
     rw [Ì h,Ì (show f.Known<=b by omega)]
    rw [Ē,Ç (by simpa using h),Jl,Jl,e,Nd hab kind who l]
  . have e:XM a kind who f=false:=by
     unfold XM
     rw [Ë h,Bool.and_false,Bool.and_false]
    rw [Ē,Ä (by simpa using h),Jl,e,Bool.false_and,Ä (by simp),Nd hab kind who l]
theorem Y8 {d:Aj}{a b:Int}{fs:List Bb}(h:Dy d a=0)(hb:0<=b/\b<=41666)(hl:fs.length<=200)(hf:∀ f∈fs,f∈d.Facts):Dy ⟨fs,d.Stored,d.Owner⟩ b=0:=by
 have hm:=Ts (m:=⟨d,a⟩) h
 unfold Dy
 rw [Ä (by show ¬ 200<fs.length;omega),Ç ?_]
 exact⟨List.all_eq_true.2 fun f h=>hm.facts f (hf f h),hm.st.1,hm.st.2,hb.1,hb.2,hm.ow.1,hm.ow.2⟩
end Go.Sp
namespace Go.Sp
open Go Go.Vl
set_option linter.unusedVariables false
def Bh:Nat->(Bd×Int)->(List Int)->(Bd×Int)->Int->Option (Unit ⊕ Bool)
 |0,_,_,_,_=>none
 |n+1,a_1,place,a_,v124 =>
  bif (decide (v124<(a_1.1.By.length:Int))) then
   (((gi a_1.1.By v124).bind fun x =>
   bif (decide (x<0)) then
    some true
   else
    bif (decide ((place.length:Int)<=x)) then
     some true
    else
     (gi place x).bind fun x1 =>
     (gi a_.1.By v124).bind fun x2 =>
     some (x1 != x2)
   ):Option Bool).bind fun v158 =>
    bif v158 then
     some (.inr false)
    else
     Bh n a_1 place a_ (À (v124+1))
  else
   some (.inl ())
theorem Et (n:Nat)(a_1:(Bd×Int))(place:(List Int))(a_:(Bd×Int))(v124:Int):Bh (n+1) a_1 place a_ v124 =
 bif (decide (v124<(a_1.1.By.length:Int))) then
  (((gi a_1.1.By v124).bind fun x =>
  bif (decide (x<0)) then
   some true
  else
   bif (decide ((place.length:Int)<=x)) then
    some true
   else
    (gi place x).bind fun x1 =>
    (gi a_.1.By v124).bind fun x2 =>
    some (x1 != x2)
  ):Option Bool).bind fun v158 =>
   bif v158 then
    some (.inr false)
   else
    Bh n a_1 place a_ (À (v124+1))
 else
  some (.inl ()):=by rw [Bh]
def AM:Nat->Aj->(Int×Int×Int)->Int->(List Bb)->Option (List Bb)
 |0,_,_,_,_=>none
 |n+1,d,days,v70,short1 =>
  bif (decide (v70<(d.Facts.length:Int))) then
   (gi d.Facts v70).bind fun x3 =>
   bif (decide (x3.Known<=days.2.1)) then
    (some [x3]).bind fun l2 =>
    (Ca 32 short1 l2).bind fun l3 =>
    AM n d days (À (v70+1)) l3
   else
    AM n d days (À (v70+1)) short1
  else
   some short1
theorem Es (n:Nat)(d:Aj)(days:(Int×Int×Int))(v70:Int)(short1:(List Bb)):AM (n+1) d days v70 short1 =
 bif (decide (v70<(d.Facts.length:Int))) then
  (gi d.Facts v70).bind fun x3 =>
  bif (decide (x3.Known<=days.2.1)) then
   (some [x3]).bind fun l2 =>
   (Ca 32 short1 l2).bind fun l3 =>
   AM n d days (À (v70+1)) l3
  else
   AM n d days (À (v70+1)) short1
 else
  some short1:=by rw [AM]
def AL:Nat->(List Aa)->(Int×Int×Int)->(List Aa)->(List Int)->Int->Option ((List Aa)×(List Int))
 |0,_,_,_,_,_=>none
 |n+1,l,days,early1,place1,v43 =>
  bif (decide (v43<(l.length:Int))) then
   (gi l v43).bind fun x4 =>
   bif (decide (x4.Known<=days.2.1)) then
    (some [x4]).bind fun l4 =>
    (Ca 240 early1 l4).bind fun l5 =>
    (some [v43]).bind fun l6 =>
    (Ca 8 place1 l6).bind fun l7 =>
    AL n l days l5 l7 (À (v43+1))
   else
    AL n l days early1 place1 (À (v43+1))
  else
   some (early1,place1)
theorem Er (n:Nat)(l:(List Aa))(days:(Int×Int×Int))(early1:(List Aa))(place1:(List Int))(v43:Int):AL (n+1) l days early1 place1 v43 =
 bif (decide (v43<(l.length:Int))) then
  (gi l v43).bind fun x4 =>
  bif (decide (x4.Known<=days.2.1)) then
   (some [x4]).bind fun l4 =>
   (Ca 240 early1 l4).bind fun l5 =>
   (some [v43]).bind fun l6 =>
   (Ca 8 place1 l6).bind fun l7 =>
   AL n l days l5 l7 (À (v43+1))
  else
   AL n l days early1 place1 (À (v43+1))
 else
  some (early1,place1):=by rw [AL]
def Di (n:Nat)(l:(List Aa))(d:Aj)(days:(Int×Int×Int)):Option Bool :=
 (Ip n l d).bind fun f =>
 bif (!f) then
  (Sb).bind fun s =>
  some s
 else
  (FX n l d days.1 days.2.1).bind fun a_ =>
  bif (a_.2 != 0) then
   (Sb).bind fun s1 =>
   some s1
  else
   ((AL n l days [] [] 0
   ):Option ((List Aa)×(List Int))).bind fun y=>match y with
   |(early,place) =>
    ((AM n d days 0 []
    ):Option (List Bb)).bind fun short =>
     (FX n early (Aj.mk short d.Stored d.Owner) days.1 days.2.1).bind fun a_1 =>
     ((bif (a_1.2 != 0) then
      some true
     else
      bif (a_1.1.State != a_.1.State) then
       some true
      else
       bif (a_1.1.Houses != a_.1.Houses) then
        some true
       else
        some ((a_1.1.By.length:Int) != (a_.1.By.length:Int))
     ):Option Bool).bind fun v120 =>
      bif v120 then
       some false
      else
       ((Bh n a_1 place a_ 0
       ):Option (Unit ⊕ Bool)).bind fun y3=>match y3 with
       |.inl _ =>
        (D0 n l d days.2.1 days.2.2).bind fun l1 =>
        bif (l1.2 != 0) then
         (Sb).bind fun s2 =>
         some s2
        else
         (FX n l d days.1 days.2.2).bind fun a_2 =>
         ((bif (a_2.2 != 0) then
          some true
         else
          bif (decide (days.1<l1.1)) then
           bif (a_2.1.State != a_.1.State) then
            some true
           else
            bif (a_2.1.Houses != a_.1.Houses) then
             some true
            else
             bif (days.1 == l1.1) then
              bif (a_2.1.State == a_.1.State) then
               some (a_2.1.Houses == a_.1.Houses)
              else
               some false
             else
              some false
          else
           bif (days.1 == l1.1) then
            bif (a_2.1.State == a_.1.State) then
             some (a_2.1.Houses == a_.1.Houses)
            else
             some false
           else
            some false
         ):Option Bool).bind fun v224 =>
          bif v224 then
           some false
          else
           (Sb).bind fun s3 =>
           some s3
       |.inr o=>some o
end Go.Sp
namespace Go.Sp
open Go
set_option maxRecDepth 100000
def CK (known:Int)(l:List Aa):List Aa:=l.filter fun c=>decide (c.Known<=known)
def Dx (known:Int):List Aa->Nat->List Int
 | [],_=>[]
 |c::r,k=>if c.Known<=known then (k:Int)::Dx known r (k+1) else Dx known r (k+1)
def E6 (d:Aj)(known:Int):Aj:=⟨d.Facts.filter fun f=>decide (f.Known<=known),d.Stored,d.Owner⟩
theorem On (known:Int):∀ (r:List Aa) (k:Nat),(Dx known r k).length=(CK known r).length
 | [],_=>rfl
 |c::r,k=>by
  unfold CK
  rw [Dx,Ē]
  by_cases h:c.Known<=known
  . rw [Ç h,Ç (by simpa using h),ß,ß,On known r];rfl
  . rw [Ä h,Ä (by simpa using h)];exact On known r (k+1)
theorem Qt (known:Int):∀ (r:List Aa) (k:Nat),∀ v∈Dx known r k,(k:Int)<=v
 | [],_,v,h=>by cases h
 |c::r,k,v,h=>by
  rw [Dx] at h
  split at h
  . rcases List.mem_cons.1 h with rfl|h
    . exact Į _
    . have:=Qt known r (k+1) v h;omega
  . have:=Qt known r (k+1) v h;omega
theorem Qs (known:Int):∀ (r:List Aa) (k:Nat),(Dx known r k).Pairwise (· < ·)
 | [],_=>.nil
 |c::r,k=>by
  rw [Dx]
  split
  . exact List.pairwise_cons.2 ⟨fun v hv=>by have:=Qt known r (k+1) v hv;omega,Qs known r (k+1)⟩
  . exact Qs known r (k+1)
theorem QY {l:List Aa}{days:Int×Int×Int}(hl:l.length<=40):∀ (r:List Aa) (k:Nat) (a:List Aa) (p:List Int),l.drop k=r->k<=l.length->a.length<=k->p.length<=k ->
 Ev (fun n=>AL n l days a p (k:Int)) (a++CK days.2.1 r,p++Dx days.2.1 r k)
 | [],k,a,p,h,hk,_,_=>by
  have he:=JI h hk
  refine .step (fun n=>Er n l days a p _) (.of fun n=>?_)
  rw [Ë (by omega)]
  show some (a,p)=some (a++[],p++[])
  rw [ą,ą]
 |c::r,k,a,p,h,hk,ha,hp=>by
  obtain⟨h1,h2⟩:=F6 h
  refine .step (fun n=>Er n l days a p _) ?_
  rw [P2 h2,O5 h,NU (show k<4611686018427387904 by omega)]
  simp only [Ð,Á]
  unfold CK
  rw [Dx,Ē]
  by_cases hc:c.Known<=days.2.1
  . have ih:=QY (days:=days) hl r (k+1) (a++[c]) (p++[(k:Int)]) h1 (by omega) (by simp;omega) (by simp;omega)
    rw [Ì hc,Ç hc,Ç rfl]
    rw [î,î] at ih
    simp only [Ð]
    rw [Sx (x:=a) (by simp;omega),Sx (x:=p) (by simp;omega)]
    simp only [Á]
    exact ih
  . rw [Ë hc,Ä hc,Ä (by decide)]
    exact QY hl r (k+1) a p h1 (by omega) (by omega) (by omega)
theorem Qf {d:Aj}{days:Int×Int×Int}(hl:d.Facts.length<=1000):∀ (r:List Bb) (k:Nat) (a:List Bb),d.Facts.drop k=r->k<=d.Facts.length->a.length<=k ->
 Ev (fun n=>AM n d days (k:Int) a) (a++r.filter fun f=>decide (f.Known<=days.2.1))
 | [],k,a,h,hk,_=>by
  have he:=JI h hk
  refine .step (fun n=>Es n d days _ a) (.of fun n=>?_)
  rw [Ë (by omega),List.filter_nil,ą];rfl
 |c::r,k,a,h,hk,ha=>by
  obtain⟨h1,h2⟩:=F6 h
  refine .step (fun n=>Es n d days _ a) ?_
  rw [P2 h2,O5 h,NU (show k<4611686018427387904 by omega)]
  simp only [Ð,Á]
  rw [Ē]
  by_cases hc:c.Known<=days.2.1
  . have ih:=Qf (days:=days) hl r (k+1) (a++[c]) h1 (by omega) (by simp;omega)
    rw [Ì hc,Ç rfl]
    rw [î] at ih
    simp only [Ð]
    rw [Sx (x:=a) (by simp;omega)]
    simp only [Á]
    exact ih
  . rw [Ë hc,Ä (by decide)]
    exact Qf hl r (k+1) a h1 (by omega) (by omega)
theorem ME (d:Aj)(known:Int)(e:Ag):KZ ⟨E6 d known,known⟩ e=KZ ⟨d,known⟩ e:=by
 refine Vq (m:=⟨E6 d known,known⟩) (m':=⟨d,known⟩) rfl rfl (fun k w=>?_) e
 unfold II E6
 rw [Nd (Į known)]
theorem Aa5 (d:Aj)(known:Int)(c:Aa):Rs (E6 d known) known c=Rs d known c:=by
 unfold Rs;rw [ME]
theorem OC {d:Aj}{known t:Int}(pl:List Int):∀ (r:List Aa) (k j:Nat),pl.drop j=Dx known r k->GI d known t r k=(GI (E6 d known) known t (CK known r) j).map (MH fun i=>(pl[i.toNat]?).getD 0)
 | [],_,_,_=>rfl
 |c::r,k,j,h=>by
  rw [Dx] at h
  rw [GI]
  by_cases hc:c.Known<=known
  . have ee:CK known (c::r)=c::CK known r:=List.filter_cons_of_pos (by simpa using hc)
    rw [Ç hc] at h
    obtain⟨h1,h2⟩:=F6 h
    have ih:=OC (d:=d) (t:=t) pl r (k+1) (j+1) h1
    have g:pl[j]?=some (k:Int):=by have:=O5 h;rwa [giN] at this
    rw [ee,GI,Ć,Aa5,ME,ME,ih]
    congr 1
    split
    . have g2:(pl[((j:Int)).toNat]?).getD 0=(k:Int):=by
       rw [Int.toNat_natCast,g];rfl
      simp only [Þ,ï,MH,g2]
    . rfl
  . rw [Ä hc] at h
    have ha:Rs d known c=false:=by unfold Rs;rw [Ë hc];rfl
    have ee:CK known (c::r)=CK known r:=ħ (by simpa using hc)
    rw [ee,ha]
    exact OC pl r (k+1) j h
theorem UX {f:Int->Int}{l:List Int}(h:∀ x∈l,∀ y∈l,x<=y->f x<=f y):Cv (l.map f)=(Cv l).map f:=by
 refine List.Perm.eq_of_pairwise (le:=fun x y:Int=>x<=y) (fun _ _ _ _ h1 h2=>Int.le_antisymm h1 h2) (En _) ?_ ((BO _).trans ((BO l).symm.map _))
 rw [List.pairwise_map]
 exact (En l).imp_of_mem fun ha hb hab=>h _ ((BO l).mem_iff.1 ha) _ ((BO l).mem_iff.1 hb) hab
theorem Ads {X Y:Bd}{pl:List Int}(hl:Y.By.length<=1000)(hb:∀ i∈Y.By,0<=i/\i<(pl.length:Int))(hX:X.By=Y.By.map fun i=>(pl[i.toNat]?).getD 0) :
 ∀ (r:List Int) (k:Nat),Y.By.drop k=r->k<=Y.By.length->Ev (fun n=>Bh n (Y,0) pl (X,0) (k:Int)) (.inl ())
 | [],k,h,hk=>by
  have he:=JI h hk
  refine .step (fun n=>Et n _ _ _ _) (.of fun n=>?_)
  rw [Ë (by show ¬ (k:Int)<(Y.By.length:Int);omega)];rfl
 |x::r,k,h,hk=>by
  obtain⟨h1,h2⟩:=F6 h
  have hx:=hb x (ë (i:=k) (by rw [h];exact Ü))
  refine .step (fun n=>Et n _ _ _ _) ((Ads hl hb hX r (k+1) h1 (by omega)).congr fun n=>?_)
  have lt:decide ((k:Int)<(((Y,(0:Int)).1.By.length:Nat):Int))=true:=P2 h2
  have gk:gi (Y,(0:Int)).1.By (k:Int)=some x:=O5 h
  have gp:pl[x.toNat]?=some (pl[x.toNat]'(by omega)):=Ã _
  have gp2:gi pl x=some (pl[x.toNat]'(by omega)):=by unfold gi;rw [Ç hx.1];exact gp
  have gx:gi (X,(0:Int)).1.By (k:Int)=some (pl[x.toNat]'(by omega)):=by
   show gi X.By (k:Int)=_
   rw [hX,giN,æ]
   have:Y.By[k]?=some x:=by have:=O5 h;rwa [giN] at this
   rw [this]
   show some ((pl[x.toNat]?).getD 0)=_
   rw [gp];rfl
  rw [lt,gk,NU (show k<4611686018427387904 by omega)]
  simp only [Ð,Á]
  rw [Ë (show ¬ x<0 by omega),Ë (show ¬ (pl.length:Int)<=x by omega),gp2,gx]
  simp only [Ï,Á,ô]
def alike (a b:Bd):Prop:=a.State=b.State/\a.Houses=b.Houses
theorem UT {l:List Aa}{s s1:List Ac×Int}{A B:Int->Bd}(hA:∀ t,0<=t->t<=41666->Ev (fun n=>H8 n l s.1 t) (A t))(hB:∀ t,0<=t->t<=41666->Ev (fun n=>H8 n l s1.1 t) (B t)) :
 ∀ ds:List Int,(∀ v∈ds,0<=v/\v<=41666)->∃ m,Ev (fun n=>C9 n l s s1 ds) (m,0)/\((m=41667/\∀ v∈ds,alike (A v) (B v))∨∃ p q,ds=p++m::q/\(∀ v∈p,alike (A v) (B v))/\¬ alike (A m) (B m))
 | [],_=>⟨41667,Ev.pure,.inl ⟨rfl,fun v h=>by cases h⟩⟩
 |v::r,h=>by
  have hv:=h v Ü
  by_cases c:alike (A v) (B v)
  . obtain⟨m,h1,h2⟩:=UT hA hB r fun w hw=>h w (á _ hw)
    refine⟨m,?_,?_⟩
    . simp only [C9]
      refine (hA v hv.1 hv.2).bind ((hB v hv.1 hv.2).bind ?_)
      rw [c.1,c.2]
      simp only [ô,Ï,Á]
      exact h1
    . rcases h2 with⟨e,h2⟩|⟨p,q,e,h2,h3⟩
      . refine .inl ⟨e,fun w hw=>?_⟩
        rcases List.mem_cons.1 hw with rfl|hw
        . exact c
        . exact h2 w hw
      . refine .inr ⟨v::p,q,by rw [e];rfl,fun w hw=>?_,h3⟩
        rcases List.mem_cons.1 hw with rfl|hw
        . exact c
        . exact h2 w hw
  . refine⟨v,?_,.inr ⟨[],r,rfl,(fun w hw=>by cases hw),c⟩⟩
    simp only [C9]
    refine (hA v hv.1 hv.2).bind ((hB v hv.1 hv.2).bind ?_)
    have:(bif ((A v).State != (B v).State) then some true else some ((A v).Houses != (B v).Houses))=some true:=by
     cases e1:(A v).State != (B v).State with
     |true=>rfl
     |false =>
      cases e2:(A v).Houses != (B v).Houses with
      |true=>rfl
      |false=>exact absurd ⟨by simpa using e1,by simpa using e2⟩ c
    rw [this]
    exact Ev.pure
theorem Vm {A B:Int->Bd}{t:Int}(ht:t<=41666):∀ ds:List Int,Uc A ds->Uc B ds->(∃ v r,ds=v::r/\v<=t)->∃ v∈ds,v<=t/\A t=A v/\B t=B v
 | [],_,_,⟨_,_,h,_⟩=>by cases h
 |v::r,⟨a1,a2,a3,a4,a5⟩,⟨b1,b2,b3,b4,b5⟩,⟨w,q,h,hw⟩=>by
  cases h
  by_cases c:t<Vb r
  . exact⟨v,Ü,hw,a4 t hw c,b4 t hw c⟩
  . cases r with
    |nil=>exact absurd (show t<41667 by omega) c
    |cons u r =>
     have hu:u<=t:=by have:¬ t<u:=c;omega
     obtain⟨x,h1,h2,h3⟩:=Vm ht (u::r) a5 b5 ⟨u,r,rfl,hu⟩
     exact⟨x,á _ h1,h2,h3⟩
theorem W0 {l:List Aa}{d:Aj}{known later:Int}{s s1:List Ac}(hS:VI l d known s)(hS1:VI l d later s1)(e:Ev (fun n=>Ch n l d known) (s,0))(e1:Ev (fun n=>Ch n l d later) (s1,0)) :
 ∃ m,Ev (fun n=>D0 n l d known later) (m,0)/\(∀ t,0<=t->t<=41666->(t<m->alike (Ek l s t) (Ek l s1 t))/\(t=m->¬ alike (Ek l s t) (Ek l s1 t)))/\0<=m/\m<=41667:=by
 have hlen:(s++s1).length<=80:=by rw [Õ];have:=hS.len;have:=hS1.len;omega
 have hrng:∀ x∈s++s1,0<=x.from_/\x.from_<=41667/\0<=x.to_/\x.to_<=41667:=fun x hx=>(List.mem_append.1 hx).elim (hS.rng x) (hS1.rng x)
 have hb:=Afd (s:=s++s1) (by omega) fun x hx=>(hrng x hx).2.2
 have hperm:=BO (0::GJ (s++s1))
 have hsort:=En (0::GJ (s++s1))
 have hql:(Cv (0::GJ (s++s1))).length<=161:=by rw [hperm.length_eq,ß,Ro];omega
 have hne:(Cv (0::GJ (s++s1))).isEmpty=false:=by
  cases hz:Cv (0::GJ (s++s1)) with
  |nil=>rw [hz] at hperm;have:=hperm.length_eq;simp at this
  |cons=>rfl
 have hbd:∀ v,v∈Dj (Cv (0::GJ (s++s1)))↔(v=0∨v∈GJ (s++s1))/\v<=41666:=fun v=>by
  unfold Dj
  rw [List.mem_filter,Tt,hperm.mem_iff,Ę,Î]
 have hp:(Dj (Cv (0::GJ (s++s1)))).Pairwise (· < ·):=(Aav _ hsort).filter _
 have hv:∀ v∈Dj (Cv (0::GJ (s++s1))),0<=v/\v<=41666:=fun v h=>by
  have h:=(hbd v).1 h
  refine⟨?_,h.2⟩
  rcases h.1 with rfl|h2
  . exact Į _
  . obtain⟨x,hx,h3⟩:=(NO _).1 h2
    have:=hrng x hx
    rcases h3 with rfl|rfl<;>omega
 have hcov:∀ v∈GJ (s++s1),v<=41666->v∈Dj (Cv (0::GJ (s++s1)))∨v<Vb (Dj (Cv (0::GJ (s++s1)))):=fun v h1 h2=>.inl ((hbd v).2 ⟨.inr h1,h2⟩)
 have dA:=Xa (A:=Ek l s) (s:=s++s1) (fun t u h=>QZ hS.ok hS.len t u fun x hx=>h x (ă _ hx)) _ hp hv hcov
 have dB:=Xa (A:=Ek l s1) (s:=s++s1) (fun t u h=>QZ hS1.ok hS1.len t u fun x hx=>h x (Ě _ hx)) _ hp hv hcov
 have h0:(0:Int)∈Dj (Cv (0::GJ (s++s1))):=(hbd 0).2 ⟨.inl rfl,by decide⟩
 obtain⟨m,q1,q2⟩:=UT (l:=l) (s:=(s,0)) (s1:=(s1,0)) (A:=Ek l s) (B:=Ek l s1) (fun t _ _=>VA hS.ok hS.len fun _ _=>rfl) (fun t _ _=>VA hS1.ok hS1.len fun _ _=>rfl) _ hv
 refine⟨m,?_,⟨fun t ht0 ht1=>⟨fun hm=>?_,fun hm=>?_⟩,?_⟩⟩
 . unfold D0
   refine e.bind ?_
   simp only [ô,Ï]
   refine e1.bind ?_
   simp only [ô,Ï]
   refine Ev.bind (a:=Cv (0::GJ (s++s1))) ?_ ?_
   . cases hz:s.isEmpty with
     |true =>
      have:s=[]:=List.isEmpty_iff.1 hz
      subst this
      simp only [Ð]
      rw [Sx (by have:=hS1.len;simp;omega)]
      exact hb.bind Ev.pure
     |false =>
      simp only [Ï]
      rw [Sx (x:=([]:List Ac)) (by have:=hS.len;simp;omega)]
      simp only [Á,þ]
      rw [Sx (x:=s) (by have:=hS.len;have:=hS1.len;simp;omega)]
      exact hb.bind Ev.pure
   . simp only [hne,Ï,Ì (show (Cv (0::GJ (s++s1))).length*8<=140737488351232 by omega),Ð]
     exact q1
 . obtain⟨v,h1,h2,h3,h4⟩:=Vm (A:=Ek l s) (B:=Ek l s1) ht1 _ dA dB (by
    cases hz:Dj (Cv (0::GJ (s++s1))) with
    |nil=>rw [hz] at h0;cases h0
    |cons v r =>
     refine⟨v,r,rfl,?_⟩
     rw [hz] at h0 hp
     rcases List.mem_cons.1 h0 with h|h
     . omega
     . have:=(List.pairwise_cons.1 hp).1 0 h;omega)
   rw [h3,h4]
   rcases q2 with⟨_,q2⟩|⟨p,q,q3,q4,_⟩
   . exact q2 v h1
   . rw [q3] at h1 hp
     rcases List.mem_append.1 h1 with h1|h1
     . exact q4 v h1
     . have hq:=(List.pairwise_append.1 hp).2.1
       rcases List.mem_cons.1 h1 with h1|h1
       . omega
       . have:=(List.pairwise_cons.1 hq).1 v h1;omega
 . rcases q2 with⟨q2,_⟩|⟨p,q,_,_,q5⟩
   . omega
   . rw [hm];exact q5
 . rcases q2 with⟨e,_⟩|⟨p,q,e,_,_⟩
   . omega
   . have:=hv m (by rw [e];simp);omega
theorem Yn (l:List Aa)(d:Aj)(days:Int×Int×Int):Ev (fun n=>Di n l d days) true:=by
 unfold Di
 obtain⟨b,hb,hs⟩:=Aai l d
 refine hb.bind ?_
 cases b with
 |false=>simp only [ĥ,Ð,Qh];exact Ev.pure
 |true =>
 obtain⟨hsm,_⟩:=hs rfl
 simp only [ē,Ï]
 rcases Qd (d:=d) (known:=days.2.1) hsm with⟨he,ev⟩|⟨he,s,hS,ev⟩
 . refine (Aa3 he ev days.1).bind ?_
   simp only [show (I7 l d days.2.1 != 0)=true by simpa using he,Ð,Qh]
   exact Ev.pure
 have hC:CX l=0/\Dy d days.2.1=0:=by
  unfold I7 at he
  by_cases h:CX l=0
  . rw [Ä (by simpa using h)] at he;exact⟨h,he⟩
  . rw [Ç h] at he;exact absurd he h
 obtain⟨hC,hk⟩:=hC
 obtain⟨hlen,hfl⟩:=MZ hC
 by_cases ht:days.1<0∨41666<days.1
 . refine (Aa2 ev ht).bind ?_
   simp only [show ((1:Int) != 0)=true from rfl,Ð,Qh]
   exact Ev.pure
 have hkn:=Ts (m:=⟨d,days.2.1⟩) hk
 have hfacts:d.Facts.length<=200:=hkn.len
 refine (Xi hS ev (t:=days.1) (by omega) (by omega)).bind ?_
 simp only [ô,Ï]
 refine (QY (days:=days) hlen l 0 [] [] rfl (ü _) (à _) (à _)).bind ?_
 simp only [þ]
 refine (Qf (days:=days) (by omega) d.Facts 0 [] rfl (ü _) (à _)).bind ?_
 simp only [þ]
 have hks:Dy (E6 d days.2.1) days.2.1=0:=Y8 hk hkn.kn (ď (List.length_filter_le _ _) hfacts) fun f hf=>(List.mem_filter.1 hf).1
 have hsub:(CK days.2.1 l).Sublist l:=List.filter_sublist
 have hY:=Afe (l:=CK days.2.1 l) (d:=E6 d days.2.1) (known:=days.2.1) (fun c hc=>hsm c (hsub.mem hc)) (Xd hC hsub) days.1
 rw [Ä (by simpa using hks),Ä ht] at hY
 refine hY.bind ?_
 have hX:Ek l s days.1=GD (GI d days.2.1 days.1 l 0):=V0 hS hfl
 have hI:=OC (d:=d) (known:=days.2.1) (t:=days.1) (Dx days.2.1 l 0) l 0 0 rfl
 have hbY:∀ i∈(GD (GI (E6 d days.2.1) days.2.1 days.1 (CK days.2.1 l) 0)).By,0<=i/\i<((Dx days.2.1 l 0).length:Int):=fun i hi=>by
  obtain⟨k,c,h1,h2,_⟩:=Ae0 hi
  have:=(List.getElem?_eq_some_iff.1 h1).1
  rw [On]
  omega
 have hmono:Cv (((JJ (GI (E6 d days.2.1) days.2.1 days.1 (CK days.2.1 l) 0)).map (·.ix)).map fun i=>((Dx days.2.1 l 0)[i.toNat]?).getD 0)=(Cv ((JJ (GI (E6 d days.2.1) days.2.1 days.1 (CK days.2.1 l) 0)).map (·.ix))).map fun i=>((Dx days.2.1 l 0)[i.toNat]?).getD 0:=by
  refine UX fun x hx y hy hxy=>?_
  have hx:=hbY x ((BO _).mem_iff.2 hx)
  have hy:=hbY y ((BO _).mem_iff.2 hy)
  have gx:(Dx days.2.1 l 0)[x.toNat]?=some ((Dx days.2.1 l 0)[x.toNat]'(by omega)):=Ã _
  have gy:(Dx days.2.1 l 0)[y.toNat]?=some ((Dx days.2.1 l 0)[y.toNat]'(by omega)):=Ã _
  rw [gx,gy]
  show (Dx days.2.1 l 0)[x.toNat]'(by omega)<=(Dx days.2.1 l 0)[y.toNat]'(by omega)
  by_cases e:x.toNat=y.toNat
  . simp only [e];exact Į _
  . exact Int.le_of_lt (List.pairwise_iff_getElem.1 (Qs days.2.1 l 0) _ _ (by omega) (by omega) (by omega))
 have hXY:Ek l s days.1=⟨(GD (GI (E6 d days.2.1) days.2.1 days.1 (CK days.2.1 l) 0)).State,(GD (GI (E6 d days.2.1) days.2.1 days.1 (CK days.2.1 l) 0)).Houses,(GD (GI (E6 d days.2.1) days.2.1 days.1 (CK days.2.1 l) 0)).By.map fun i=>((Dx days.2.1 l 0)[i.toNat]?).getD 0⟩:=by
  rw [hX,hI,YS,hmono];rfl
 have hBl:(GD (GI (E6 d days.2.1) days.2.1 days.1 (CK days.2.1 l) 0)).By.length<=1000:=by
  have h1:(GD (GI (E6 d days.2.1) days.2.1 days.1 (CK days.2.1 l) 0)).By.length=(JJ (GI (E6 d days.2.1) days.2.1 days.1 (CK days.2.1 l) 0)).length:=by
   show (Cv _).length=_
   rw [W7,Í]
  have h2:(JJ (GI (E6 d days.2.1) days.2.1 days.1 (CK days.2.1 l) 0)).length<=(GI (E6 d days.2.1) days.2.1 days.1 (CK days.2.1 l) 0).length:=List.length_filter_le _ _
  have h3:(GI (E6 d days.2.1) days.2.1 days.1 (CK days.2.1 l) 0).length<=(CK days.2.1 l).length:=by rw [<- Tz (l:=CK days.2.1 l) (CK days.2.1 l) 0 rfl,Í];exact Qb _ _ _ _
  have h4:=hsub.length_le
  omega
 generalize GD (GI (E6 d days.2.1) days.2.1 days.1 (CK days.2.1 l) 0)=Y at *
 have f1:(Ek l s days.1).State=Y.State:=by rw [hXY]
 have f2:(Ek l s days.1).Houses=Y.Houses:=by rw [hXY]
 have f3:(Ek l s days.1).By=Y.By.map fun i=>((Dx days.2.1 l 0)[i.toNat]?).getD 0:=by rw [hXY]
 have f4:(Ek l s days.1).By.length=Y.By.length:=by rw [f3,Í]
 simp only [ô,Ï,f1,f2,f4,Á]
 refine (Ads hBl hbY f3 Y.By 0 rfl (ü _)).bind ?_
 rcases Qd (d:=d) (known:=days.2.2) hsm with⟨he1,ev1⟩|⟨he1,s1,hS1,ev1⟩
 . have hL:Ev (fun n=>D0 n l d days.2.1 days.2.2) (0,I7 l d days.2.2):=by
    unfold D0
    refine ev.bind ?_
    simp only [ô,Ï]
    refine ev1.bind ?_
    rw [show (I7 l d days.2.2 != 0)=true by simpa using he1]
    exact Ev.pure
   refine hL.bind ?_
   simp only [show (I7 l d days.2.2 != 0)=true by simpa using he1,Ð,Qh]
   exact Ev.pure
 . obtain⟨m,hL,hm⟩:=W0 hS hS1 ev ev1
   refine hL.bind ?_
   simp only [ô,Ï]
   refine (Xi hS1 ev1 (t:=days.1) (by omega) (by omega)).bind ?_
   obtain⟨m1,m2⟩:=hm.1 days.1 (by omega) (by omega)
   simp only [ô,Ï]
   have v224:(bif (decide (days.1<m)) then (bif ((Ek l s1 days.1).State != Y.State) then some true else bif ((Ek l s1 days.1).Houses != Y.Houses) then some true else bif (days.1 == m) then (bif ((Ek l s1 days.1).State == Y.State) then some ((Ek l s1 days.1).Houses == Y.Houses) else some false) else some false)
    else bif (days.1 == m) then (bif ((Ek l s1 days.1).State == Y.State) then some ((Ek l s1 days.1).Houses == Y.Houses) else some false) else some false)=some false:=by
    by_cases c:days.1<m
    . obtain⟨g1,g2⟩:=m1 c
      rw [f1] at g1
      rw [f2] at g2
      rw [Ì c,<- g1,<- g2,show (days.1 == m)=false by simp;omega]
      simp
    . rw [Ë c,Ï]
      by_cases c2:days.1=m
      . have g:=m2 c2
        rw [show (days.1 == m)=true by simpa using c2,Ð]
        unfold alike at g
        rw [f1,f2] at g
        cases e1:(Ek l s1 days.1).State == Y.State with
        |false=>rfl
        |true =>
         cases e2:(Ek l s1 days.1).Houses == Y.Houses with
         |false=>rfl
         |true=>exact absurd ⟨(by simpa using e1:(Ek l s1 days.1).State=Y.State).symm,(by simpa using e2:(Ek l s1 days.1).Houses=Y.Houses).symm⟩ g
      . rw [show (days.1 == m)=false by simpa using c2];rfl
   rw [v224]
   simp only [Á,Ï,Qh]
   exact Ev.pure
end Go.Sp
