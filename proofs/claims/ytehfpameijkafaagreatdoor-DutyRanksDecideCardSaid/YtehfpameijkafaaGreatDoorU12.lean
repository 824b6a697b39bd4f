/-
  The closed facts of the row of DutyRanksDecide. The specification's types are those that find finds. No program. The specification's Type, Known and Last, in plain words. No program. Known, Last and products of the specification, in plain words. No program. The specification's values are those that value computes. No program. Few nodes, in plain words. No program. Value in plain words; StatuteIsTyped, the plain law. No program. Names: what the program and the specification call one. No program. Whether a clause of a list has a name. No program. Check, in plain words: the program's and the specification's. No program. Check of clauses: the program's and the specification's answer alike. No program. The stable sort of duty's spans: swaps, rotations. No program. The stable sort of duty's spans: insertion, rotation. No program. The stable sort of duty's spans: merging. No program. The stable sort of duty's spans: merging in place, the whole sort. No program. StatuteValuesAsSpecified, the plain law. No program. The spans of duty: what they are. No program. The duty on a day, by its spans, in plain words. No program. The duty on a day by what applies on it: in any order. No program. The duty on a day: clauses in addition, other numbers, the opposite order. No program. The stretches of duty, in plain words. No program. sanity, run by the kernel. No program. DutyStretchesCover: the plain law. No program. DutyRanksDecide as a plain function. (Printed by lift.py.) DutyRanksDecide: the plain law. No program.
-/
import Derived.JoinedOf
import Derived.KernelRfl
import Derived.Test.YtehfpameijkafaaGreatDoorU4
import Derived.Test.YtehfpameijkafaaGreatDoorU11
set_option linter.unusedVariables false
set_option linter.unusedSimpArgs false
namespace Go.Proofs.YtehfpameijkafaaGreatDoor
open Go.ChangeShapes Go.WideShapes Go.ChangeAt Go.RowKit
set_option maxRecDepth 100000
theorem Gx {a b:Bool}(h:a=true)(k:b=true):(a&&b)=true:=by rw [h,k];rfl
theorem Afr:(Rows.dutyRanksDecideRow.wf (OpenSpec.ofChange Rows.dutyRanksDecideSpec))=true:=by kernel_rfl
theorem Afq:(laidOutB Tryz.prog)=true:=by kernel_rfl
theorem Afp:(mapsRowed Tryz.prog)=true:=by kernel_rfl
theorem Afo:(Tryz.f5.params.all (Tryz.prog.readableRec ·))=true:=by kernel_rfl
theorem Afn:(namedTie Tryz.prog Rows.dutyRanksDecideRow.named Rows.dutyRanksDecideSpec.vars)=true:=by kernel_rfl
theorem Afm:((Rows.dutyRanksDecideRow.stops == []))=true:=by kernel_rfl
theorem Afl:((Tryz.prog.stops == []))=true:=by kernel_rfl
theorem Afk:((Rows.dutyRanksDecideRow.knobs == []))=true:=by kernel_rfl
theorem Afj:((Tryz.prog.stopKnobs == []))=true:=by kernel_rfl
theorem Afi:((Rows.dutyRanksDecideRow.inPlace == Tryz.prog.inPlace 5))=true:=by kernel_rfl
theorem Aeh:((Rows.dutyRanksDecideRow.unfollowed == Tryz.prog.unfollowed 5))=true:=by kernel_rfl
theorem Aeg:((Rows.dutyRanksDecideRow.recurses == Tryz.prog.recurses 5))=true:=by kernel_rfl
theorem Aef:((Rows.dutyRanksDecideRow.named == Tryz.prog.varsNamed 5))=true:=by kernel_rfl
theorem Aee:((Rows.dutyRanksDecideRow.maps == (Tryz.f5.params.toList++Rows.dutyRanksDecideSpec.plain.varTypes Tryz.prog).any (Tryz.prog.mapsRec ·)))=true:=by kernel_rfl
theorem Aed:((Rows.dutyRanksDecideRow.ifaces == (Tryz.f5.params.toList++Rows.dutyRanksDecideSpec.plain.varTypes Tryz.prog).any (Tryz.prog.ifacesRec ·)))=true:=by kernel_rfl
theorem Aec:((Rows.dutyRanksDecideRow.mapsOut == Tryz.prog.mapsAmong Tryz.f5.resultTypes.toList))=true:=by kernel_rfl
theorem Aeb:((Rows.dutyRanksDecideRow.loops == (Tryz.f5.params.toList++Rows.dutyRanksDecideSpec.plain.varTypes Tryz.prog).any (Tryz.prog.loopsFrom ·)))=true:=by kernel_rfl
theorem Aea:((Rows.dutyRanksDecideRow.wideKeys == (Tryz.f5.params.toList++Rows.dutyRanksDecideSpec.plain.varTypes Tryz.prog++Tryz.f5.resultTypes.toList).any (Tryz.prog.wideKeysFrom ·)))=true:=by kernel_rfl
theorem Ad9:(Rows.dutyRanksDecideSpec.vars.all (Tryz.prog.varReadable ·))=true:=by kernel_rfl
theorem Ad8:(Tryz.f5.resultTypes.all (fun t=>Tryz.prog.readableRec t&&decide (t<Tryz.prog.types.size)))=true:=by kernel_rfl
theorem Ad7:((Rows.dutyRanksDecideRow.ifacesOut == Tryz.f5.resultTypes.toList.any (Tryz.prog.ifacesRec ·)))=true:=by kernel_rfl
theorem Ad6:((Rows.dutyRanksDecideRow.loopsOut == Tryz.f5.resultTypes.toList.any (Tryz.prog.loopsFrom ·)))=true:=by kernel_rfl
theorem Ad5:((Rows.dutyRanksDecideRow.plainKeys == Tryz.prog.plainKeys))=true:=by kernel_rfl
theorem Ad4:(Rows.dutyRanksDecideRow.shortTexts.isNone)=true:=by kernel_rfl
theorem Ad3:(Tryz.prog.stopsHeard)=true:=by kernel_rfl
theorem Ad2:(Tryz.prog.mayEnter)=true:=by kernel_rfl
theorem Ad1:((Rows.dutyRanksDecideRow.lifted == Tryz.prog.liftsFinal))=true:=by kernel_rfl
theorem Ad0:((Tryz.prog.make == some Rows.dutyRanksDecideRow.make))=true:=by kernel_rfl
theorem Adz:((Rows.dutyRanksDecideRow.kinds == (if Rows.dutyRanksDecideRow.domain.isEmpty then [] else Tryz.f5.params.toList.map fun t=>match Tryz.prog.underlying t with|some (.int k)=>some k|_=>none)))=true:=by kernel_rfl
theorem Ady:((Rows.dutyRanksDecideRow.pinned == Rows.dutyRanksDecideRow.pinnedBy))=true:=by kernel_rfl
theorem Adx:((Rows.dutyRanksDecideRow.veiled == (Tryz.f5.params.toList++Rows.dutyRanksDecideSpec.plain.varTypes Tryz.prog++Tryz.f5.resultTypes.toList).any (Tryz.prog.veiledRec ·)))=true:=by kernel_rfl
theorem Adw:(Rows.dutyRanksDecideRow.veiledFits Tryz.prog Tryz.f5.params.toList (Tryz.f5.params.toList++Rows.dutyRanksDecideSpec.plain.varTypes Tryz.prog++Tryz.f5.resultTypes.toList))=true:=by kernel_rfl
theorem jf5:joinedFacts Tryz.prog 5 Tryz.f5 Rows.dutyRanksDecideSpec Rows.dutyRanksDecideRow=true:=(Gx (Gx (Gx (Gx (Gx (Gx (Gx (Gx (Gx (Gx (Gx (Gx (Gx (Gx (Gx (Gx (Gx (Gx (Gx (Gx (Gx (Gx (Gx (Gx (Gx (Gx (Gx (Gx (Gx (Gx (Gx Afr Afq) Afp) Afo) Afn) Afm) Afl) Afk) Afj) Afi) Aeh) Aeg) Aef) Aee) Aed) Aec) Aeb) Aea) Ad9) Ad8) Ad7) Ad6) Ad5) Ad4) Ad3) Ad2) Ad1) Ad0) Adz) Ady) Adx) Adw)
end Go.Proofs.YtehfpameijkafaaGreatDoor
namespace Go.Sp
open Go
set_option maxRecDepth 100000
theorem Agw (a:Int)(l:List Int):gi (a::l) 0=some a:=rfl
theorem Agv (a b:Int)(l:List Int):gi (a::b::l) 1=some b:=rfl
end Go.Sp

namespace Go.Sp
open Go
set_option maxRecDepth 100000
theorem Zx (f:B8):((bif (decide (f.Kind<1)) then
 some true
 else
  bif (decide (5<f.Kind)) then
   some true
  else
   bif (decide (f.Who<1)) then
    some true
   else
    bif (decide (1000<f.Who)) then
     some true
    else
     bif (decide (f.Day<0)) then
      some true
     else
      bif (decide (41666<f.Day)) then
       some true
      else
       bif (decide (f.Known<0)) then
        some true
       else
        some (decide (41666<f.Known))
 ):Option Bool)=some (!okF f):=by
 unfold okF
 by_cases h1:f.Kind<1
 . rw [Í h1];(try rw [Ð]);congr 1;symm;rw [å,Ù];omega
 rw [Ë h1,Ï]
 by_cases h2:5<f.Kind
 . rw [Í h2];(try rw [Ð]);congr 1;symm;rw [å,Ù];omega
 rw [Ë h2,Ï]
 by_cases h3:f.Who<1
 . rw [Í h3];(try rw [Ð]);congr 1;symm;rw [å,Ù];omega
 rw [Ë h3,Ï]
 by_cases h4:1000<f.Who
 . rw [Í h4];(try rw [Ð]);congr 1;symm;rw [å,Ù];omega
 rw [Ë h4,Ï]
 by_cases h5:f.Day<0
 . rw [Í h5];(try rw [Ð]);congr 1;symm;rw [å,Ù];omega
 rw [Ë h5,Ï]
 by_cases h6:41666<f.Day
 . rw [Í h6];(try rw [Ð]);congr 1;symm;rw [å,Ù];omega
 rw [Ë h6,Ï]
 by_cases h7:f.Known<0
 . rw [Í h7];(try rw [Ð]);congr 1;symm;rw [å,Ù];omega
 rw [Ë h7,Ï]
 by_cases h8:41666<f.Known
 . rw [Í h8];(try rw [Ð]);congr 1;symm;rw [å,Ù];omega
 . rw [Ë h8];congr 1;symm;rw [Bool.not_eq_false',Î];omega
theorem Wm (d:Am)(known:Int):((bif (decide (d.Stored<0)) then
 some true
 else
  bif (decide (41666<d.Stored)) then
   some true
  else
   bif (decide (known<0)) then
    some true
   else
    bif (decide (41666<known)) then
     some true
    else
     bif (decide (d.Owner<0)) then
      some true
     else
      some (decide (1000<d.Owner))
 ):Option Bool)=some (!decide (0<=d.Stored/\d.Stored<=41666/\0<=known/\known<=41666/\0<=d.Owner/\d.Owner<=1000)):=by
 by_cases h1:d.Stored<0
 . rw [Í h1];(try rw [Ð]);congr 1;symm;rw [å,Ù];omega
 rw [Ë h1,Ï]
 by_cases h2:41666<d.Stored
 . rw [Í h2];(try rw [Ð]);congr 1;symm;rw [å,Ù];omega
 rw [Ë h2,Ï]
 by_cases h3:known<0
 . rw [Í h3];(try rw [Ð]);congr 1;symm;rw [å,Ù];omega
 rw [Ë h3,Ï]
 by_cases h4:41666<known
 . rw [Í h4];(try rw [Ð]);congr 1;symm;rw [å,Ù];omega
 rw [Ë h4,Ï]
 by_cases h5:d.Owner<0
 . rw [Í h5];(try rw [Ð]);congr 1;symm;rw [å,Ù];omega
 rw [Ë h5,Ï]
 by_cases h6:1000<d.Owner
 . rw [Í h6];(try rw [Ð]);congr 1;symm;rw [å,Ù];omega
 . rw [Ë h6];congr 1;symm;rw [Bool.not_eq_false',Î];omega
theorem Si (d:Am)(hl:d.Facts.length<=200):∀ (r:List B8) (k:Nat),d.Facts.drop k=r->k<=d.Facts.length->Ev (fun n=>BL n d (k:Int)) (if r.all okF=true then .inl () else .inr 1)
 | [],k,hr,hk=>by
  have he:=LF hr hk
  refine Ev.step (f:=fun n=>some (.inl ())) (fun n=>?_) Ev.pure
  rw [Hg,show (decide ((k:Int)<(d.Facts.length:Int)))=false by rw [Ù];omega];rfl
 |f::r,k,hr,hk=>by
  obtain⟨h1,h2⟩:=GC hr
  have ih:=Si d hl r (k+1) h1 (by omega)
  have e:∀ n,BL (n+1) d (k:Int)=bif !okF f then some (.inr 1) else BL n d ((k+1:Nat):Int):=fun n=>by
   rw [Hg,R7 h2,Ð,QB hr,Á,Zx,Á,Pe (by omega)]
  refine Ev.step e ?_
  cases hf:okF f with
  |true=>simp only [ě,Ï,ď,hf,Bool.true_and];exact ih
  |false=>simp only [Bool.not_false,Ð,ď,hf,Bool.false_and,ç,Ā];exact Ev.pure
theorem Nz (d:Am)(known:Int):Ev (fun n=>EZ n d known) (DS d known):=by
 unfold EZ DS
 by_cases hl:200<d.Facts.length
 . rw [Í (show (200:Int)<(d.Facts.length:Int) by omega),Ç hl];exact Ev.pure
 . rw [Ë (show ¬ (200:Int)<(d.Facts.length:Int) by omega),Å hl]
   simp only [Ï]
   refine Ev.bind (Si d (by omega) d.Facts 0 rfl (Ą _)) ?_
   cases hf:d.Facts.all okF with
   |false=>simp only [ç,Ā,false_and];exact Ev.pure
   |true =>
    simp only [ø,ô,Wm,Á]
    by_cases c:0<=d.Stored/\d.Stored<=41666/\0<=known/\known<=41666/\0<=d.Owner/\d.Owner<=1000
    . simp only [Í c,Ç c];exact Ev.pure
    . simp only [Ë c,Å c];exact Ev.pure
end Go.Sp

namespace Go.Sp
open Go
mutual
def HW:Ag->Int->Int
 |.mk _ _ _ kids _,n=>GW kids (n-1)
def GW:List Ag->Int->Int
 | [],n=>n
 |e::l,n=>if n<0 then n else GW l (HW e n)
end
mutual
theorem Ly:∀ (e:Ag) (n:Int),HW e n<=n-1
 |.mk _ _ _ kids _,n=>by rw [HW];exact Ou kids (n-1)
theorem Ou:∀ (l:List Ag) (n:Int),GW l n<=n
 | [],n=>by rw [GW];omega
 |e::l,n=>by
  rw [GW]
  split
  . omega
  . have h1:=Ly e n
    have h2:=Ou l (HW e n)
    omega
end
theorem Qx:∀ (l:List Ag) (n:Int),0<=GW l n->(l.length:Int)<=n
 | [],n,h=>by rw [GW] at h;simpa using h
 |e::l,n,h=>by
  rw [GW] at h
  split at h
  . omega
  . have h1:=Ly e n
    have h2:=Qx l _ h
    simp only [à]
    omega
mutual
theorem Qy:∀ (e:Ag) (n:Int),0<=HW e n->n<=1000000->EM e=true
 |.mk _ _ _ kids _,n,h,hn=>by
  rw [HW] at h
  have:=Qx kids (n-1) h
  rw [EM,Ä,Î]
  exact⟨by omega,OR kids (n-1) h (by omega)⟩
theorem OR:∀ (l:List Ag) (n:Int),0<=GW l n->n<=1000000->Kd l=true
 | [],_,_,_=>by rw [Kd]
 |e::l,n,h,hn=>by
  rw [GW] at h
  split at h
  . omega
  . have h1:=Ly e n
    have h2:=Ou l (HW e n)
    rw [Kd,Ä]
    exact⟨Qy e n (by omega) hn,OR l _ h (by omega)⟩
end
theorem UH (e:Ag)(hf:∀ x∈e.Kids,∀ n,0<=n->n<=1000->Ev (fun k=>BP k x n) (HW x n)/\-1<=HW x n) :
 ∀ (r:List Ag) (k:Nat) (n:Int),e.Kids.drop k=r->k<=e.Kids.length->-1<=n->(k:Int)+n<=1000->Ev (fun m=>C2 m e n (k:Int)) (GW r n)/\-1<=GW r n
 | [],k,n,hr,hkl,hn,_=>by
  have he:=LF hr hkl
  rw [GW]
  refine⟨Ev.step (f:=fun _=>some n) (fun m=>?_) Ev.pure,hn⟩
  rw [Gr,show (decide ((k:Int)<(e.Kids.length:Int)))=false by rw [Ù];omega];rfl
 |x::r,k,n,hr,hkl,hn,hb=>by
  obtain⟨h1,h2⟩:=GC hr
  rw [GW]
  by_cases c:n<0
  . rw [Ç c]
    refine⟨Ev.step (f:=fun _=>some n) (fun m=>?_) Ev.pure,hn⟩
    rw [Gr,R7 h2,Ð,Ë (by omega)];rfl
  . rw [Å c]
    have hmem:x∈e.Kids:=í (by rw [hr];simp)
    obtain⟨f1,f2⟩:=hf x hmem n (by omega) (by omega)
    have f3:=Ly x n
    obtain⟨i1,i2⟩:=UH e hf r (k+1) (HW x n) h1 (by omega) f2 (by omega)
    refine⟨Ev.step (f:=fun m=>(BP m x n).bind fun n3=>C2 m e n3 ((k+1:Nat):Int)) (fun m=>?_) (Ev.bind f1 i1),i2⟩
    rw [Gr,R7 h2,Ð,Í (by omega),Á,Ð,QB hr,Á,Pe (by omega)]
mutual
theorem Tf:∀ (e:Ag) (n:Int),0<=n->n<=1000->Ev (fun k=>BP k e n) (HW e n)/\-1<=HW e n
 |.mk op num s kids at0,n,h0,h1=>by
  have h:=UH (.mk op num s kids at0) (UG kids) kids 0 (n-1) rfl (Ą _) (by omega) (by simp;omega)
  rw [HW]
  refine⟨Ev.step (fun k=>Pm k (.mk op num s kids at0) n) (Ev.bind ?_ Ev.pure),h.2⟩
  rw [CB (by omega) (by omega)]
  exact h.1
theorem UG:∀ (l:List Ag),∀ x∈l,∀ n,0<=n->n<=1000->Ev (fun k=>BP k x n) (HW x n)/\-1<=HW x n
 | [],x,hx=>by simp at hx
 |e::l,x,hx=>by
  rcases List.mem_cons.1 hx with hx|hx
  . rw [hx];exact Tf e
  . exact UG l x hx
end
def FY (e:Ag)(n:Int):Int:=if n<0 then n else HW e n
def ER (c:Aa)(n:Int):Int:=FY c.When (FY c.To (FY c.From n))
def L6:List Aa->Int->Int
 | [],n=>n
 |c::l,n=>if n<0 then n else L6 l (ER c n)
theorem GN (e:Ag)(n:Int):FY e n<=n:=by
 unfold FY
 split
 . omega
 . have:=Ly e n;omega
theorem Lg {e:Ag}{n:Int}(h : -1<=n)(h1:n<=1000) : -1<=FY e n:=by
 unfold FY
 split
 . omega
 . exact (Tf e n (by omega) h1).2
theorem MV (c:Aa)(n:Int):ER c n<=n:=by
 unfold ER
 have h1:=GN c.From n
 have h2:=GN c.To (FY c.From n)
 have h3:=GN c.When (FY c.To (FY c.From n))
 omega
theorem Vb:∀ (l:List Aa) (n:Int),L6 l n<=n
 | [],n=>by rw [L6];omega
 |c::l,n=>by
  rw [L6]
  split
  . omega
  . have h1:=MV c n
    have h2:=Vb l (ER c n)
    omega
theorem QL (l:List Aa)(i:Int)(c:Aa)(hi:gi l i=some c)(p:Ag)(k:Nat)(hp:IA c (k:Int)=some p)(hk:k<3)(n:Int)(h0 : -1<=n)(h1:n<=1000){v:Int}
 (h:Ev (fun m=>BR m l i (FY p n) ((k+1:Nat):Int)) v) (hv:n<0->v=n):Ev (fun m=>BR m l i n (k:Int)) v:=by
 by_cases c0:n<0
 . rw [hv c0]
   refine Ev.step (f:=fun _=>some n) (fun m=>?_) Ev.pure
   rw [GS,Í (show (k:Int)<3 by omega),Ð,Ë (by omega)];rfl
 . refine Ev.step (f:=fun m=>(BP m p n).bind fun n3=>BR m l i n3 ((k+1:Nat):Int)) (fun m=>?_) (Ev.bind (Tf p n (by omega) h1).1 ?_)
   . rw [GS,Í (show (k:Int)<3 by omega),Ð,Í (by omega),Á,Ð,hi,Á,hp,Á,Pe (by omega)]
   . unfold FY at h
     rw [Å c0] at h
     exact h
theorem Wx (l:List Aa)(i:Int)(c:Aa)(hi:gi l i=some c)(n:Int)(h0 : -1<=n)(h1:n<=1000):Ev (fun m=>BR m l i n 0) (ER c n):=by
 have g1:=Lg (e:=c.From) h0 h1
 have g2:=GN c.From n
 have g3:=Lg (e:=c.To) g1 (by omega)
 have g4:=GN c.To (FY c.From n)
 have hend:Ev (fun m=>BR m l i (ER c n) ((2+1:Nat):Int)) (ER c n):=by
  refine Ev.step (f:=fun _=>some (ER c n)) (fun m=>?_) Ev.pure
  rw [GS];rfl
 have neg:∀ {e:Ag} {n:Int},n<0->FY e n=n:=fun h=>by unfold FY;rw [Ç h]
 have s2:=QL l i c hi c.When 2 rfl (by decide) (FY c.To (FY c.From n)) g3 (by omega) hend (fun h=>by unfold ER;exact neg h)
 have s1:=QL l i c hi c.To 1 rfl (by decide) (FY c.From n) g1 (by omega) s2 (fun h=>by unfold ER;rw [neg (e:=c.To) h,neg h])
 exact QL l i c hi c.From 0 rfl (by decide) n h0 h1 s1 (fun h=>by unfold ER;rw [neg (e:=c.From) h,neg (e:=c.To) h,neg h])
theorem X9 (l:List Aa)(hl:l.length<=50):∀ (r:List Aa) (k:Nat) (n:Int),l.drop k=r->k<=l.length->-1<=n->n<=1000->Ev (fun m=>Dt m l n (k:Int)) (L6 r n)
 | [],k,n,hr,hkl,_,_=>by
  have he:=LF hr hkl
  rw [L6]
  refine Ev.step (f:=fun _=>some n) (fun m=>?_) Ev.pure
  rw [GU,show (decide ((k:Int)<(l.length:Int)))=false by rw [Ù];omega];rfl
 |c::r,k,n,hr,hkl,h0,h1=>by
  obtain⟨d1,d2⟩:=GC hr
  rw [L6]
  by_cases c0:n<0
  . rw [Ç c0]
    refine Ev.step (f:=fun _=>some n) (fun m=>?_) Ev.pure
    rw [GU,R7 d2,Ð,Ë (by omega)];rfl
  . rw [Å c0]
    have g1 : -1<=ER c n:=by
     have a1:=Lg (e:=c.From) h0 h1
     have a2:=GN c.From n
     have a3:=Lg (e:=c.To) a1 (by omega)
     have a4:=GN c.To (FY c.From n)
     exact Lg (e:=c.When) a3 (by omega)
    have g2:=MV c n
    refine Ev.step (f:=fun m=>(BR m l (k:Int) n 0).bind fun n3=>Dt m l n3 ((k+1:Nat):Int)) (fun m=>?_) (Ev.bind (Wx l (k:Int) c (QB hr) n h0 h1) (X9 l hl r (k+1) _ d1 (by omega) g1 (by omega)))
    rw [GU,R7 d2,Ð,Í (by omega),Á,Ð,Pe (by omega)]
theorem Aen (l:List Aa)(n:Int)(h0:0<=n)(h1:n<=1000):Ev (fun m=>J5 m l n) (decide (l.length<=50/\0<=L6 l n)):=by
 unfold J5
 by_cases c:l.length<=50
 . rw [Ë (show ¬ (50:Int)<(l.length:Int) by omega)]
   simp only [Ï]
   refine Ev.bind (X9 l c l 0 n rfl (Ą _) (by omega) h1) ?_
   simp only [c,ô]
   exact Ev.pure
 . rw [Í (show (50:Int)<(l.length:Int) by omega),Ë (fun h=>c h.1)]
   exact Ev.pure
def HO (c:Aa):Prop:=EM c.From=true/\EM c.To=true/\EM c.When=true
theorem MC {e:Ag}{n:Int}(h:0<=FY e n)(hn:n<=1000000):EM e=true/\0<=n:=by
 unfold FY at h
 split at h
 . omega
 . exact⟨Qy e n h hn,by omega⟩
theorem T7 {c:Aa}{n:Int}(h:0<=ER c n)(hn:n<=1000):HO c/\0<=n:=by
 unfold ER at h
 have g2:=GN c.From n
 have g4:=GN c.To (FY c.From n)
 obtain⟨a1,a2⟩:=MC h (by omega)
 obtain⟨b1,b2⟩:=MC a2 (by omega)
 obtain⟨c1,c2⟩:=MC b2 (by omega)
 exact⟨⟨c1,b1,a1⟩,c2⟩
theorem QK:∀ (l:List Aa) (n:Int),0<=L6 l n->n<=1000->∀ c∈l,HO c
 | [],_,_,_,c,hc=>by simp at hc
 |x::l,n,h,hn,c,hc=>by
  rw [L6] at h
  split at h
  . omega
  . have g:=MV x n
    have g2:=Vb l (ER x n)
    rcases List.mem_cons.1 hc with rfl|hc
    . exact (T7 (by omega) hn).1
    . exact QK l _ h (by omega) c hc
end Go.Sp
namespace Go.Sp
open Go
set_option maxRecDepth 100000
theorem ZS {e:Ag}(h:EM e=true):Jb e=some (B3 e):=by unfold Jb;rw [Ç h]
end Go.Sp
namespace Go.Sp
open Go
def H2 (c:Int):Bool:=decide ((97<=c/\c<=122)∨(65<=c/\c<=90)∨c=95)
def Hc (c:Int):Bool:=decide (48<=c/\c<=57)
def MX (s:Æ):List Int:=s.data.toList.map fun b=>(b.toNat:Int)
def Mb (s:Æ):Bool:=decide (1<=s.size/\s.size<=32)&&(MX s).all (fun c=>H2 c||Hc c)&&!Hc ((MX s).getD 0 0)
theorem Rb (s:Æ):(MX s).length=s.size:=by
 unfold MX
 rw [Ì];rfl
theorem Afy {s:Æ}{k:Nat}{x:Int}{r:List Int}(h:(MX s).drop k=x::r):gb s (k:Int)=some x:=by
 obtain⟨_,h2⟩:=GC h
 rw [Rb] at h2
 unfold gb
 rw [Ç (by omega)]
 have h3:=QB h
 unfold gi at h3
 rw [Ç (by omega)] at h3
 unfold MX at h3
 rw [æ] at h3
 rw [Int.toNat_natCast] at h3 ⊢
 cases e:s.data.toList[k]? with
 |none=>rw [e] at h3;cases h3
 |some b =>
  rw [e] at h3
  rw [List.getD_eq_getElem?_getD,e]
  exact h3
theorem Wn (c:Int):D0 c=some (!(H2 c||Hc c)):=by
 unfold D0 H2 Hc
 by_cases h1:97<=c<;>by_cases h2:c<=122<;>by_cases h3:65<=c<;>by_cases h4:c<=90<;>by_cases h5:c=95<;>by_cases h6:48<=c<;>by_cases h7:c<=57<;>(have h5b:=h5;rw [<- Ă (a:=c) (b:=95)] at h5b;simp [h1,h2,h3,h4,h5,h6,h7,h5b])
theorem Sj (l:List Int)(hl:l.length<=1000000):∀ (r:List Int) (k:Nat),l.drop k=r->k<=l.length->∃ v,Ev (fun n=>AK n l (k:Int)) v/\(match v with|.inl _=>r.all (fun c=>H2 c||Hc c)=true|.inr i=>0<=i/\r.all (fun c=>H2 c||Hc c)=false)
 | [],k,hr,hk=>by
  have he:=LF hr hk
  refine⟨.inl (),Ev.step (f:=fun _=>some (.inl ())) (fun n=>?_) Ev.pure,rfl⟩
  rw [Eo,show (decide ((k:Int)<(l.length:Int)))=false by rw [Ù];omega];rfl
 |x::r,k,hr,hk=>by
  obtain⟨h1,h2⟩:=GC hr
  have e:∀ n,AK (n+1) l (k:Int)=bif !(H2 x||Hc x) then some (.inr (k:Int)) else AK n l ((k+1:Nat):Int):=fun n=>by
   rw [Eo,R7 h2,Ð,QB hr,Á,Wn,Á,Pe (by omega)]
  cases hx:(H2 x||Hc x) with
  |false =>
   refine⟨.inr (k:Int),Ev.step e ?_,by omega,by rw [ď,hx];rfl⟩
   rw [hx];exact Ev.pure
  |true =>
   obtain⟨v,k1,k2⟩:=Sj l hl r (k+1) h1 (by omega)
   refine⟨v,Ev.step e ?_,?_⟩
   . rw [hx];exact k1
   . cases v with
     |inl _=>simp only at k2 ⊢;rw [ď,hx,k2];rfl
     |inr i=>simp only at k2 ⊢;rw [ď,hx,k2.2];exact⟨k2.1,rfl⟩
theorem Vo (l:List Int)(hl:l.length<=1000000):Ev (fun n=>Cd n l) (!(l.all fun c=>H2 c||Hc c)):=by
 obtain⟨v,h1,h2⟩:=Sj l hl l 0 rfl (Ą _)
 unfold Cd Dc
 cases v with
 |inl _ =>
  have h2:l.all (fun c=>H2 c||Hc c)=true:=h2
  rw [h2]
  exact Ev.bind (Ev.bind h1 Ev.pure) Ev.pure
 |inr i =>
  have h2:0<=i/\l.all (fun c=>H2 c||Hc c)=false:=h2
  rw [h2.2]
  refine Ev.bind (Ev.bind h1 Ev.pure) ?_
  rw [Í h2.1];exact Ev.pure
theorem Yq (s:Æ):Ev (fun n=>E1 n s) (Mb s):=by
 unfold E1 Mb
 by_cases h0:s.size=0
 . have:s=⟨#[]⟩:=by
    cases s with
    |mk d=>congr 1;exact Ĩ h0
   rw [Í this,Ë (show ¬ (1<=s.size/\s.size<=32) by omega)]
   exact Ev.pure
 have hne:¬ s=⟨#[]⟩:=fun e=>h0 (by rw [e];rfl)
 rw [Ë hne]
 simp only [Ï]
 by_cases h32:s.size<=32
 . rw [Ë (show ¬ (32:Int)<(s.size:Int) by omega),Í (show 1<=s.size/\s.size<=32 by omega)]
   simp only [Ï]
   have hl:=Rb s
   cases hb:MX s with
   |nil=>rw [hb] at hl;simp at hl;omega
   |cons x r =>
    have hg:gb s 0=some x:=Afy (k:=0) hb
    have hd:(bif (decide (48<=x)) then some (decide (x<=57)) else some false:Option Bool)=some (Hc x):=by
     unfold Hc
     by_cases a1:48<=x
     . rw [Í a1,Ð];congr 1;rw [decide_eq_decide];omega
     . rw [Ë a1,Ï];congr 1;symm;rw [Ù];omega
    simp only [hg,Á,hd]
    have hgb:QE s=some (x::r):=by
     unfold QE
     rw [Ç (by omega)]
     exact congrArg some hb
    simp only [List.getD_cons_zero,Bool.true_and]
    cases hx:Hc x with
    |true=>simp only [Ð,ě,Bool.and_false];exact Ev.pure
    |false =>
     simp only [Ï,hgb,Á,Bool.not_false,į]
     refine Ev.bind (Vo (x::r) (by rw [<- hb,hl];omega)) ?_
     rw [Bool.not_not]
     exact Ev.pure
 . rw [Í (show (32:Int)<(s.size:Int) by omega),Ë (show ¬ (1<=s.size/\s.size<=32) by omega)]
   exact Ev.pure
end Go.Sp
namespace Go.Sp
open Go
def Gt (l:List Aa)(s:Æ):Bool:=l.any fun c=>decide (c.Name=s)
section
variable (c:Æ) (c1 c2 c3 c4 c5:Int) (c6:Æ) (c7:List Ag) (c8 c9 c10:Int) (c11:Æ) (c12:List Ag) (c13 c14 c15:Int) (c16:Æ) (c17:List Ag) (c18 c19:Int)
theorem Q7 (l:List Aa)(hl:l.length<=1000000):∀ (r:List Aa) (k:Nat),l.drop k=r->k<=l.length ->
 ∃ v,Ev (fun n=>AF n l c c1 c2 c3 c4 c5 c6 c7 c8 c9 c10 c11 c12 c13 c14 c15 c16 c17 c18 c19 (k:Int)) v/\(match v with|.inl _=>Gt r c=false|.inr i=>0<=i/\Gt r c=true)
 | [],k,hr,hk=>by
  have he:=LF hr hk
  refine⟨.inl (),Ev.step (f:=fun _=>some (.inl ())) (fun n=>?_) Ev.pure,rfl⟩
  rw [DI,show (decide ((k:Int)<(l.length:Int)))=false by rw [Ù];omega];rfl
 |x::r,k,hr,hk=>by
  obtain⟨h1,h2⟩:=GC hr
  have e:∀ n,AF (n+1) l c c1 c2 c3 c4 c5 c6 c7 c8 c9 c10 c11 c12 c13 c14 c15 c16 c17 c18 c19 (k:Int)=bif decide (x.Name=c) then some (.inr (k:Int)) else AF n l c c1 c2 c3 c4 c5 c6 c7 c8 c9 c10 c11 c12 c13 c14 c15 c16 c17 c18 c19 ((k+1:Nat):Int):=fun n=>by
   rw [DI,R7 h2,Ð,QB hr,Á]
   unfold D7
   rw [Á,Pe (by omega)]
  have hc:Gt (x::r) c=(decide (x.Name=c)||Gt r c):=by unfold Gt;rw [Ě]
  rw [hc]
  cases hx:(decide (x.Name=c)) with
  |true =>
   refine⟨.inr (k:Int),Ev.step e ?_,by omega,rfl⟩
   rw [hx];exact Ev.pure
  |false =>
   obtain⟨v,k1,k2⟩:=Q7 l hl r (k+1) h1 (by omega)
   refine⟨v,Ev.step e ?_,?_⟩
   . rw [hx];exact k1
   . rw [Bool.false_or];exact k2
theorem T6 (l:List Aa)(hl:l.length<=1000000):Ev (fun n=>Bv n c c1 c2 c3 c4 c5 c6 c7 c8 c9 c10 c11 c12 c13 c14 c15 c16 c17 c18 c19 l) (Gt l c):=by
 obtain⟨v,h1,h2⟩:=Q7 c c1 c2 c3 c4 c5 c6 c7 c8 c9 c10 c11 c12 c13 c14 c15 c16 c17 c18 c19 l hl l 0 rfl (Ą _)
 unfold Bv CC
 cases v with
 |inl _ =>
  have h2:Gt l c=false:=h2
  rw [h2]
  exact Ev.bind (Ev.bind h1 Ev.pure) Ev.pure
 |inr i =>
  have h2:0<=i/\Gt l c=true:=h2
  rw [h2.2]
  refine Ev.bind (Ev.bind h1 Ev.pure) ?_
  rw [Í h2.1];exact Ev.pure
end
end Go.Sp
namespace Go.Sp
open Go
set_option maxRecDepth 100000
def IB (x:Aa):Bool:=decide (x.Rank<0∨9<x.Rank∨x.Known<0∨41666<x.Known∨(x.Kind<3/\x.Houses≠0)∨(x.Kind=3/\(x.Houses<1∨4095<x.Houses)))
def ES (e:Ag)(t:Int):Int:=if (B3 e).2.2.E≠0 then (B3 e).2.2.E else if (B3 e).1≠t then 7 else 0
def Gq (x:Aa):Int:=if ES x.From 2≠0 then ES x.From 2 else if ES x.To 2≠0 then ES x.To 2 else ES x.When 3
def Cc (l:List Aa)(x:Aa):Int :=
 if Mb x.Name=false then 6 else if Gt l x.Name=true then 9 else if x.Kind<1∨3<x.Kind then 1 else if IB x=true then 3 else Gq x
theorem VT (x:Aa)(hk:1<=x.Kind/\x.Kind<=3):((bif (decide (x.Rank<0)) then
 some true
 else
  bif (decide (9<x.Rank)) then
   some true
  else
   bif (decide (x.Known<0)) then
    some true
   else
    bif (decide (41666<x.Known)) then
     some true
    else
     bif (!(x.Kind == 3)) then
      bif (x.Houses != 0) then
       some true
      else
       bif (x.Kind == 3) then
        bif (decide (x.Houses<1)) then
         some true
        else
         some (decide (4096<=x.Houses))
       else
        some false
     else
      bif (x.Kind == 3) then
       bif (decide (x.Houses<1)) then
        some true
       else
        some (decide (4096<=x.Houses))
      else
       some false
 ):Option Bool)=some (IB x):=by
 unfold IB
 by_cases h1:x.Rank<0
 . simp [h1]
 by_cases h2:9<x.Rank
 . simp [h1,h2]
 by_cases h3:x.Known<0
 . simp [h1,h2,h3]
 by_cases h4:41666<x.Known
 . simp [h1,h2,h3,h4]
 by_cases h5:x.Kind=3
 . by_cases h6:x.Houses<1
   . simp [h1,h2,h3,h4,h5,h6]
   . have:(4096<=x.Houses)↔(4095<x.Houses):=by omega
     simp [h1,h2,h3,h4,h5,h6,this]
 . have h7:x.Kind<3:=by omega
   have b:(x.Kind == 3)=false:=by simpa using h5
   by_cases h6:x.Houses=0
   . simp [h1,h2,h3,h4,h5,h6,h7,b]
   . have b2:(x.Houses != 0)=true:=by simpa using h6
     simp [h1,h2,h3,h4,h5,h6,h7,b,b2]
theorem NR {n:Nat}{e:Ag}{t:Int}(hs:EM e=true)(r:Option (Unit ⊕ Int)):((Jb e).bind fun f=>bif (f.2.2.E != 0) then some (.inr f.2.2.E) else bif (f.1 != t) then some (.inr 7) else r)=if ES e t≠0 then some (.inr (ES e t)) else r:=by
 rw [ZS hs,Á]
 unfold ES
 by_cases c:(B3 e).2.2.E=0
 . rw [show ((B3 e).2.2.E != 0)=false by simpa using c,Ï,Å (show ¬ (B3 e).2.2.E≠0 by simpa using c)]
   by_cases c2:(B3 e).1=t
   . rw [show ((B3 e).1 != t)=false by simpa using c2,Å (show ¬ (B3 e).1≠t by simpa using c2)];rfl
   . rw [show ((B3 e).1 != t)=true by simpa using c2,Ç c2];rfl
 . rw [show ((B3 e).2.2.E != 0)=true by simpa using c,Ç (show (B3 e).2.2.E≠0 from c),Ç (show (B3 e).2.2.E≠0 from c)];rfl
theorem VB (x:Aa)(hs:HO x)(n:Nat):A9 (n+4) x 0=if Gq x=0 then some (.inl ()) else some (.inr (Gq x)):=by
 obtain⟨s1,s2,s3⟩:=hs
 have e3:A9 (n+1) x 3=some (.inl ()):=by rw [DF];rfl
 have e2:A9 (n+2) x 2=if ES x.When 3≠0 then some (.inr (ES x.When 3)) else some (.inl ()):=by
  rw [DF,<- e3,<- NR (n:=n) (t:=3) s3];rfl
 have e1:A9 (n+3) x 1=if ES x.To 2≠0 then some (.inr (ES x.To 2)) else A9 (n+2) x 2:=by
  rw [DF,<- NR (n:=n) (t:=2) s2];rfl
 have e0:A9 (n+4) x 0=if ES x.From 2≠0 then some (.inr (ES x.From 2)) else A9 (n+3) x 1:=by
  rw [DF,<- NR (n:=n) (t:=2) s1];rfl
 rw [e0,e1,e2]
 unfold Gq
 by_cases a:ES x.From 2=0
 . by_cases b:ES x.To 2=0
   . by_cases c:ES x.When 3=0
     . simp [a,b,c]
     . simp [a,b,c]
   . simp [a,b]
 . simp [a]
end Go.Sp
namespace Go.Sp
open Go
set_option maxRecDepth 100000
def DY (l:List Aa):List Aa->Nat->Int
 | [],_=>0
 |x::r,k=>if Cc (l.take k) x≠0 then Cc (l.take k) x else DY l r (k+1)
def C6 (l:List Aa):Int:=if 40<l.length then 2 else DY l l 0
def Zm (e:Int):Unit ⊕ Int:=if e=0 then .inl () else .inr e
theorem Agm {l:List Aa}{k:Nat}(h:k<=l.length):ZC l 0 (k:Int)=some (l.take k):=by
 unfold ZC
 rw [Ç (by omega)];simp
theorem Yn (x:Aa):((bif (decide (x.Kind<1)) then some true else some (decide (3<x.Kind))):Option Bool)=some (decide (x.Kind<1∨3<x.Kind)):=by
 by_cases h:x.Kind<1
 . simp [h]
 . simp [h]
theorem Aga {e:Int}:(if e=0 then (.inl ():Unit ⊕ Int) else .inr e)=Zm e:=rfl
theorem Uu (l:List Aa)(hl:l.length<=40)(hs:∀ c∈l,HO c):∀ (r:List Aa) (k:Nat),l.drop k=r->k<=l.length->Ev (fun n=>Cx n l (k:Int)) (Zm (DY l r k))
 | [],k,hr,hk=>by
  have he:=LF hr hk
  refine Ev.step (f:=fun _=>some (.inl ())) (fun n=>?_) Ev.pure
  rw [Hh,show (decide ((k:Int)<(l.length:Int)))=false by rw [Ù];omega];rfl
 |x::r,k,hr,hk=>by
  obtain⟨h1,h2⟩:=GC hr
  have hmem:x∈l:=í (by rw [hr];simp)
  have ih:=Uu l hl hs r (k+1) h1 (by omega)
  refine Ev.step (fun n=>Hh n l (k:Int)) ?_
  simp only [R7 h2,Ð,QB hr,Á,Agm hk,Yn,Pe (show k<4611686018427387904 by omega)]
  rw [DY]
  refine Ev.bind (Yq x.Name) ?_
  cases hn:Mb x.Name with
  |false =>
   have:Cc (l.take k) x=6:=by unfold Cc;rw [Ç hn]
   rw [this,Ç (by decide)]
   exact Ev.pure
  |true =>
   simp only [ě,Ï]
   refine Ev.bind (T6 _ _ _ _ _ _ _ _ _ _ _ _ _ _ _ _ _ _ _ _ (l.take k) (by rw [List.length_take];omega)) ?_
   cases hm:Gt (l.take k) x.Name with
   |true =>
    have:Cc (l.take k) x=9:=by unfold Cc;rw [Å (by rw [hn];simp),Ç hm]
    rw [this,Ç (by decide)]
    exact Ev.pure
   |false =>
    simp only [Ï]
    by_cases hkd:x.Kind<1∨3<x.Kind
    . have:Cc (l.take k) x=1:=by unfold Cc;rw [Å (by rw [hn];simp),Å (by rw [hm];simp),Ç hkd]
      rw [this,Ç (by decide),Í hkd]
      exact Ev.pure
    . rw [Ë hkd]
      simp only [Ï,VT x (by omega),Á]
      cases hrg:IB x with
      |true =>
       have:Cc (l.take k) x=3:=by unfold Cc;rw [Å (by rw [hn];simp),Å (by rw [hm];simp),Å hkd,Ç hrg]
       rw [this,Ç (by decide)]
       exact Ev.pure
      |false =>
       have hce:Cc (l.take k) x=Gq x:=by unfold Cc;rw [Å (by rw [hn];simp),Å (by rw [hm];simp),Å hkd,Å (by rw [hrg];simp)]
       rw [hce]
       simp only [Ï]
       have hw:∀ n,Ez x.Name x.Kind x.Rank x.Known x.From.Op x.From.N x.From.S x.From.Kids x.From.At x.To.Op x.To.N x.To.S x.To.Kids x.To.At x.When.Op x.When.N x.When.S x.When.Kids x.When.At x.Houses=some n:=fun n=>rfl
       simp only [hw (),Á]
       have ht:Ev (fun n=>A9 n x 0) (if Gq x=0 then .inl () else .inr (Gq x)):=⟨4,fun n hn=>by
        obtain⟨m,rfl⟩:∃ m,n=m+4:=⟨n-4,by omega⟩
        show A9 (m+4) x 0=_
        rw [VB x (hs x hmem) m];split<;>rfl⟩
       refine Ev.bind ht ?_
       by_cases c:Gq x=0
       . rw [Ç c,Å (show ¬ Gq x≠0 by simpa using c)]
         exact ih
       . rw [Å c,Ç c]
         have:Zm (Gq x)=.inr (Gq x):=by unfold Zm;rw [Å c]
         rw [this]
         exact Ev.pure
theorem IK (l:List Aa)(hs:∀ c∈l,HO c):Ev (fun n=>El n l) (C6 l):=by
 unfold El C6
 by_cases h:40<l.length
 . rw [Í (show (40:Int)<(l.length:Int) by omega),Ç h];exact Ev.pure
 . rw [Ë (show ¬ (40:Int)<(l.length:Int) by omega),Å h]
   simp only [Ï,Á]
   refine Ev.bind (Uu l (by omega) hs l 0 rfl (Ą _)) ?_
   unfold Zm
   by_cases c:DY l l 0=0
   . rw [Ç c,c];exact Ev.pure
   . rw [Å c];exact Ev.pure
end Go.Sp
namespace Go.Sp
open Go
structure RP {α:Type} (l l':List α) (a b:Nat):Prop where
 len:l'.length=l.length
 out:∀ i,i<a∨b<=i->l'[i]?=l[i]?
 inn:∀ i,a<=i->i<b->∃ k,a<=k/\k<b/\l'[i]?=l[k]?
 perm:l'.Perm l
section
variable {α:Type} {l l' l2:List α} {a b:Nat}
theorem RP.refl:RP l l a b:=⟨rfl,fun _ _=>rfl,fun i h1 h2=>⟨i,h1,h2,rfl⟩,.refl _⟩
theorem RP.trans (h:RP l l' a b)(k:RP l' l2 a b):RP l l2 a b:=by
 refine⟨k.len.trans h.len,fun i hi=>(k.out i hi).trans (h.out i hi),fun i h1 h2=>?_,k.perm.trans h.perm⟩
 obtain⟨j,h3,h4,h5⟩:=k.inn i h1 h2
 obtain⟨j2,h6,h7,h8⟩:=h.inn j h3 h4
 exact⟨j2,h6,h7,h5.trans h8⟩
theorem RP.mono {a' b':Nat}(h:RP l l' a b)(ha:a'<=a)(hb:b<=b'):RP l l' a' b':=by
 refine⟨h.len,fun i hi=>h.out i (by omega),fun i h1 h2=>?_,h.perm⟩
 by_cases hi:a<=i/\i<b
 . obtain⟨k,h3,h4,h5⟩:=h.inn i hi.1 hi.2
   exact⟨k,by omega,by omega,h5⟩
 . exact⟨i,h1,h2,h.out i (by omega)⟩
theorem swp_get {i j:Nat}(hi:i<l.length)(hj:j<l.length)(x:Nat):((l.set i l[j]).set j l[i])[x]?=if x=j then l[i]? else if x=i then l[j]? else l[x]?:=by
 rw [List.getElem?_set]
 by_cases h:x=j
 . subst h;simp [hi,hj]
 . rw [Å (fun e=>h e.symm),Å h,List.getElem?_set]
   by_cases h2:x=i
   . subst h2;simp [hi,hj]
   . rw [Å (fun e=>h2 e.symm),Å h2]
theorem YW {i j:Nat}(hi:i<l.length)(hj:j<l.length):((l.set i l[j]).set j l[i]).Perm l:=by
 have h:=Array.swap_perm (xs:=l.toArray) (i:=i) (j:=j) (by simpa using hi) (by simpa using hj)
 have h2:=Array.perm_iff_toList_perm.1 h
 have e:(l.toArray.swap i j (by simpa using hi) (by simpa using hj)).toList=(l.set i l[j]).set j l[i]:=by simp [Array.swap]
 rw [e] at h2
 simpa using h2
theorem RP.swp {i j:Nat}(hi:i<l.length)(hj:j<l.length)(h1:a<=i/\i<b)(h2:a<=j/\j<b):RP l ((l.set i l[j]).set j l[i]) a b:=by
 refine⟨by simp,fun x hx=>?_,fun x h3 h4=>?_,YW hi hj⟩
 . rw [swp_get hi hj,Å (by omega),Å (by omega)]
 . rw [swp_get hi hj]
   split
   . exact⟨i,h1.1,h1.2,rfl⟩
   . split
     . exact⟨j,h2.1,h2.2,rfl⟩
     . exact⟨x,h3,h4,rfl⟩
end
end Go.Sp
namespace Go.Sp
open Go Go.Vl
section
variable {α:Type}
theorem giN (l:List α)(i:Nat):gi l (i:Int)=l[i]?:=by unfold gi;rw [Ç (by omega)];rfl
theorem Ac5 {l:List α}{i:Nat}(h:i<l.length)(x:α):HE l (i:Int) x=some (l.set i x):=by unfold HE;rw [Ç (by omega)];rfl
theorem gxN {n i:Nat}(h:i<n):gx n (i:Int)=some ():=by unfold gx;rw [Ç (by omega)]
def swp (l:List α)(i j:Nat):List α:=match l[i]?,l[j]? with
 |some x,some y=>(l.set i y).set j x
 |_,_=>l
theorem VE {l:List α}{i j:Nat}(hi:i<l.length)(hj:j<l.length):swp l i j=(l.set i l[j]).set j l[i]:=by
 unfold swp;rw [Ã hi,Ã hj]
theorem SD {l:List α}{i j:Nat}(hi:i<l.length)(hj:j<l.length)(x:Nat):(swp l i j)[x]?=if x=j then l[i]? else if x=i then l[j]? else l[x]?:=by
 rw [VE hi hj,swp_get hi hj]
theorem SC {l:List α}{a b i j:Nat}(hi:i<l.length)(hj:j<l.length)(h1:a<=i/\i<b)(h2:a<=j/\j<b):RP l (swp l i j) a b:=by
 rw [VE hi hj];exact .swp hi hj h1 h2
theorem Pt {β:Type}{l:List α}{i j n:Nat}{ii jj:Int}(hi:i<l.length)(hj:j<l.length)(hn:l.length<=n)(ei:ii=i)(ej:jj=j)(k:List α->Option β) :
 ((gx n jj).bind fun _=>(gi l jj).bind fun x=>(gx n ii).bind fun _=>(gi l ii).bind fun x1=>(HE l ii x).bind fun d=>(HE d jj x1).bind k)=k (swp l i j):=by
 subst ei;subst ej
 rw [gxN (by omega),giN,giN,Ã hi,Ã hj,gxN (by omega)]
 simp only [Á]
 rw [Ac5 hi]
 simp only [Á]
 rw [Ac5 (by simpa using hj)]
 rw [VE hi hj];rfl
end
section
variable (cv:List Aa)
def rk (x:Ac):Int:=match gi cv x.clause with
 |some c=>c.Rank
 |none=>0
def GF (l:List Ac)(i:Nat):Int:=match l[i]? with
 |some x=>rk cv x
 |none=>0
def okC (x:Ac):Prop:=∃ c,gi cv x.clause=some c/\0<=c.Rank/\c.Rank<=9
def Sb (l:List Ac):Prop:=∀ x∈l,okC cv x
def SR (l:List Ac)(a b:Nat):Prop:=∀ i j,a<=i->i<j->j<b->GF cv l j<=GF cv l i
end
variable {cv:List Aa}
theorem Sb.rp {l l':List Ac}{a b:Nat}(h:Sb cv l)(r:RP l l' a b):Sb cv l':=fun x hx=>h x (r.perm.mem_iff.1 hx)
theorem Jq {l l':List Ac}{i j:Nat}(h:l'[i]?=l[j]?):GF cv l' i=GF cv l j:=by unfold GF;rw [h]
theorem Aes {x y:Ac}(hx:okC cv x)(hy:okC cv y):Cb cv x y=some (rk cv y-rk cv x):=by
 obtain⟨c,h1,h2,h3⟩:=hx
 obtain⟨e,h4,h5,h6⟩:=hy
 unfold Cb rk
 rw [h1,h4]
 simp only [Á]
 rw [CB (by omega) (by omega)]
theorem P1 {β:Type}{l:List Ac}{i j n:Nat}{ii jj:Int}(ok:Sb cv l)(hi:i<l.length)(hj:j<l.length)(hn:l.length<=n)(ei:ii=i)(ej:jj=j)(k:Int->Option β) :
 ((gx n ii).bind fun _=>(gi l ii).bind fun x=>(gx n jj).bind fun _=>(gi l jj).bind fun y=>(Cb cv x y).bind k)=k (GF cv l j-GF cv l i):=by
 subst ei;subst ej
 rw [gxN (by omega),giN,giN,Ã hi,Ã hj,gxN (by omega)]
 simp only [Á]
 rw [Aes (ok _ (Ú hi)) (ok _ (Ú hj))]
 unfold GF
 rw [Ã hi,Ã hj];rfl
theorem wN {x:Int}{k:Nat}(h:x=k)(hk:k<1000000):À x=k:=by rw [CB (by omega) (by omega),h]
theorem Ab3 {x:Int}{i j:Nat}(h:x=(i:Int)+j)(hk:i+j<1000000):(À ((IntKind.u64.wrap (À x)).fdiv (2 ^ min (1:Int).toNat IntKind.u64.bits)))=(((i+j) / 2:Nat):Int):=by
 have e1:À x=((i+j:Nat):Int):=wN (by omega) hk
 have e2:IntKind.u64.wrap ((i+j:Nat):Int)=((i+j:Nat):Int):=by
  simp only [IntKind.wrap,IntKind.bits,IntKind.signed]
  simp
  omega
 rw [e1,e2]
 have e3:(2 ^ min (1:Int).toNat IntKind.u64.bits:Int)=2:=rfl
 rw [e3]
 have e4:(((i+j:Nat):Int)).fdiv 2=(((i+j) / 2:Nat):Int):=by
  rw [Int.fdiv_eq_ediv_of_nonneg _ (by decide)];omega
 rw [e4]
 exact wN rfl (by omega)
theorem Afu {N a J:Nat}(hJN:J<100000):∀ (j:Nat) (l:List Ac),l.length<=N->Sb cv l->a<=j->j<=J->J<l.length ->
 (∀ i k,a<=i->i<k->k<=J->i≠j->k≠j->GF cv l k<=GF cv l i)->(∀ k,j<k->k<=J->GF cv l k<=GF cv l j) ->
 ∃ l',RP l l' a (J+1)/\SR cv l' a (J+1)/\Ev (fun n=>Ax n (a:Int) N cv (j:Int) l) l':=by
 intro j
 induction j with
 |zero =>
  intro l hN ok ha hj hJ h1 h2
  refine⟨l,.refl,fun i k h3 h4 h5=>?_,.step (fun n=>BG n a N cv _ l) ?_⟩
  . by_cases hi:i=0
    . subst hi;exact h2 k h4 (by omega)
    . exact h1 i k h3 h4 (by omega) hi (by omega)
  . refine .of fun n=>?_
    have:decide ((a:Int)<((0:Nat):Int))=false:=by simp
    rw [this];rfl
 |succ j ih =>
  intro l hN ok ha hj hJ h1 h2
  have w1:À (((j+1:Nat):Int)-1)=(j:Int):=wN (by omega) (by omega)
  by_cases haj:a=j+1
  . refine⟨l,.refl,fun i k h3 h4 h5=>?_,.step (fun n=>BG n a N cv _ l) ?_⟩
    . by_cases hi:i=j+1
      . subst hi;exact h2 k h4 (by omega)
      . exact h1 i k h3 h4 (by omega) hi (by omega)
    . refine .of fun n=>?_
      have:decide ((a:Int)<((j+1:Nat):Int))=false:=by simp;omega
      rw [this];rfl
  have hlt:decide ((a:Int)<((j+1:Nat):Int))=true:=by simp;omega
  have e:∀ n,Ax (n+1) (a:Int) N cv ((j+1:Nat):Int) l=if GF cv l j-GF cv l (j+1)<0 then Ax n (a:Int) N cv (j:Int) (swp l (j+1) j) else some l:=by
   intro n
   rw [BG,hlt]
   simp only [Ð]
   rw [P1 (i:=j+1) (j:=j) ok (by omega) (by omega) hN rfl w1]
   simp only [Á]
   by_cases hc:GF cv l j-GF cv l (j+1)<0
   . rw [Ç hc,Í hc]
     simp only [Ð]
     rw [Pt (i:=j+1) (j:=j) (by omega) (by omega) hN rfl w1,w1]
   . rw [Å hc,Ë hc];rfl
  by_cases hc:GF cv l j-GF cv l (j+1)<0
  . have r1:RP l (swp l (j+1) j) a (J+1):=SC (by omega) (by omega) ⟨by omega,by omega⟩ ⟨by omega,by omega⟩
    have g:∀ x,GF cv (swp l (j+1) j) x=if x=j then GF cv l (j+1) else if x=j+1 then GF cv l j else GF cv l x:=by
     intro x
     have:=SD (l:=l) (i:=j+1) (j:=j) (by omega) (by omega) x
     split
     . rw [Ç (by assumption)] at this;exact Jq this
     . rw [Å (by assumption)] at this
       split
       . rw [Ç (by assumption)] at this;exact Jq this
       . rw [Å (by assumption)] at this;exact Jq this
    obtain⟨l',q1,q2,q3⟩:=ih (swp l (j+1) j) (by rw [r1.len];exact hN) (ok.rp r1) (by omega) (by omega) (by rw [r1.len];exact hJ) (by
     intro i k h3 h4 h5 h6 h7
     rw [g,g,Å h7,Å h6]
     by_cases hk:k=j+1
     . rw [Ç hk,Å (by omega)]
       exact h1 i j h3 (by omega) (by omega) (by omega) (by omega)
     . rw [Å hk]
       by_cases hi:i=j+1
       . rw [Ç hi];exact h1 j k (by omega) (by omega) h5 (by omega) hk
       . rw [Å hi];exact h1 i k h3 h4 h5 hi hk) (by
     intro k h3 h4
     rw [g,g,Å (by omega),Ç rfl]
     by_cases hk:k=j+1
     . rw [Ç hk];omega
     . rw [Å hk];exact h2 k (by omega) h4)
    refine⟨l',r1.trans q1,q2,.step e (q3.congr fun n=>by rw [Ç hc])⟩
  . refine⟨l,.refl,fun i k h3 h4 h5=>?_,.step e (.of fun n=>by rw [Å hc])⟩
    have hjj:GF cv l (j+1)<=GF cv l j:=by omega
    by_cases hi:i=j+1
    . subst hi;exact h2 k h4 (by omega)
    . by_cases hk:k=j+1
      . subst hk
        by_cases hij:i=j
        . subst hij;exact hjj
        . have:=h1 i j h3 (by omega) (by omega) hi (by omega);omega
      . exact h1 i k h3 h4 (by omega) hi hk
theorem Afv {N a b:Nat}(hb:b<100000):∀ (m i:Nat) (l:List Ac),b-i=m->l.length<=N->Sb cv l->a<i->b<=l.length->SR cv l a i ->
 ∃ l',RP l l' a b/\SR cv l' a b/\Ev (fun n=>A8 n (b:Int) (a:Int) N cv (i:Int) l) l':=by
 intro m
 induction m with
 |zero =>
  intro i l hm hN ok ha hbl hs
  refine⟨l,.refl,fun x y h1 h2 h3=>hs x y h1 h2 (by omega),.step (fun n=>C4 n b a N cv _ l) (.of fun n=>?_)⟩
  have:decide ((i:Int)<(b:Int))=false:=by simp;omega
  rw [this];rfl
 |succ m ih =>
  intro i l hm hN ok ha hbl hs
  obtain⟨l1,r1,s1,e1⟩:=Afu (cv:=cv) (N:=N) (a:=a) (J:=i) (by omega) i l hN ok (by omega) (by omega) (by omega) (fun x y h1 h2 h3 h4 h5=>hs x y h1 h2 (by omega)) (fun k h1 h2=>by omega)
  obtain⟨l2,r2,s2,e2⟩:=ih (i+1) l1 (by omega) (by rw [r1.len];exact hN) (ok.rp r1) (by omega) (by rw [r1.len];exact hbl) s1
  refine⟨l2,(r1.mono (by omega) (by omega)).trans r2,s2,.step (fun n=>C4 n b a N cv _ l) ?_⟩
  have hlt:decide ((i:Int)<(b:Int))=true:=by simp;omega
  have w1:À ((i:Int)+1)=((i+1:Nat):Int):=wN (by omega) (by omega)
  refine Ev.congr (f:=_) (e1.bind e2) fun n=>?_
  rw [hlt,w1];rfl
theorem Q5 {N a b:Nat}{l:List Ac}(hb:b<100000)(hab:a<100000)(hN:l.length<=N)(ok:Sb cv l)(hbl:b<=l.length) :
 ∃ l',RP l l' a b/\SR cv l' a b/\Ev (fun n=>A7 n cv N l (a:Int) (b:Int)) l':=by
 obtain⟨l',r,s,e⟩:=Afv (cv:=cv) (N:=N) (a:=a) (b:=b) hb (b-(a+1)) (a+1) l rfl hN ok (by omega) hbl (fun x y h1 h2 h3=>by omega)
 refine⟨l',r,s,(e.bind (g:=fun _=>some) .pure).congr fun n=>?_⟩
 unfold A7
 rw [wN (k:=a+1) (by omega) (by omega)]
def SwD (l l':List Ac)(a b c i:Nat):Prop:=∀ x,l'[x]?=if a+i<=x/\x<a+c then l[b+(x-a)]? else if b+i<=x/\x<b+c then l[a+(x-b)]? else l[x]?
theorem Ae9 {N a b c:Nat}(hab:a+c<=b)(hb:b+c<100000):∀ (m i:Nat) (l:List Ac),c-i=m->i<=c->l.length<=N->b+c<=l.length ->
 ∃ l',RP l l' a (b+c)/\SwD l l' a b c i/\Ev (fun n=>AG n (c:Int) N (b:Int) (a:Int) (i:Int) l) l':=by
 intro m
 induction m with
 |zero =>
  intro i l hm hi hN hl
  refine⟨l,.refl,fun x=>?_,.step (fun n=>CP n c N b a _ l) (.of fun n=>?_)⟩
  . rw [Å (by omega),Å (by omega)]
  . have:decide ((i:Int)<(c:Int))=false:=by simp;omega
    rw [this];rfl
 |succ m ih =>
  intro i l hm hi hN hl
  have r1:RP l (swp l (a+i) (b+i)) a (b+c):=SC (by omega) (by omega) ⟨by omega,by omega⟩ ⟨by omega,by omega⟩
  obtain⟨l2,r2,s2,e2⟩:=ih (i+1) (swp l (a+i) (b+i)) (by omega) (by omega) (by rw [r1.len];exact hN) (by rw [r1.len];exact hl)
  refine⟨l2,r1.trans r2,fun x=>?_,.step (fun n=>CP n c N b a _ l) (e2.congr fun n=>?_)⟩
  . rw [s2 x]
    have g:=fun y=>SD (l:=l) (i:=a+i) (j:=b+i) (by omega) (by omega) y
    by_cases h1:a+i<=x/\x<a+c
    . rw [Ç h1]
      by_cases h2:x=a+i
      . subst h2
        rw [Å (by omega),Å (by omega),g,Å (by omega),Ç rfl]
        congr 1;omega
      . rw [Ç (by omega),g,Å (by omega),Å (by omega)]
    . rw [Å h1,Å (by omega)]
      by_cases h2:b+i<=x/\x<b+c
      . rw [Ç h2]
        by_cases h3:x=b+i
        . subst h3
          rw [Å (by omega),g,Ç rfl];congr 1;omega
        . rw [Ç (by omega),g,Å (by omega),Å (by omega)]
      . rw [Å h2,Å (by omega),g,Å (by omega),Å (by omega)]
  . have hlt:decide ((i:Int)<(c:Int))=true:=by simp;omega
    have w1:À ((i:Int)+1)=((i+1:Nat):Int):=wN (by omega) (by omega)
    have w2:À ((b:Int)+i)=((b+i:Nat):Int):=wN (by omega) (by omega)
    have w3:À ((a:Int)+i)=((a+i:Nat):Int):=wN (by omega) (by omega)
    rw [hlt,w1,w2,w3]
    simp only [Ð]
    rw [Pt (i:=a+i) (j:=b+i) (by omega) (by omega) hN rfl rfl]
theorem SE {N a b c:Nat}{l:List Ac}{aa bb cc:Int}(ea:aa=a)(eb:bb=b)(ec:cc=c)(hab:a+c<=b)(hb:b+c<100000)(hN:l.length<=N)(hl:b+c<=l.length) :
 ∃ l',RP l l' a (b+c)/\SwD l l' a b c 0/\Ev (fun n=>AP n cv N l aa bb cc) l':=by
 subst ea;subst eb;subst ec
 obtain⟨l',r,s,e⟩:=Ae9 (N:=N) hab hb c 0 l rfl (by omega) hN hl
 exact⟨l',r,s,e.bind .pure⟩
end Go.Sp
namespace Go.Sp
open Go Go.Vl
variable {cv:List Aa}
def TL (l l':List Ac)(p m q:Nat):Prop:=∀ x,l'[x]?=if p<=x/\x<p+(q-m) then l[x+(m-p)]? else if p+(q-m)<=x/\x<q then l[x-(q-m)]? else l[x]?
theorem Age {N m:Nat}:∀ (s i j:Nat) (l:List Ac),i+j<=s->0<i->0<j->i<=m->m+j<100000->m+j<=l.length->l.length<=N ->
 ∃ k l1,RP l l1 (m-i) (m+j)/\k<=i/\k<=j/\Ev (fun n=>A3 n cv N (m:Int) (i:Int) (j:Int) l) ((k:Int),l1)/\∀ l',SwD l1 l' (m-k) m k 0->TL l l' (m-i) m (m+j):=by
 intro s
 induction s with
 |zero=>intro i j l h1 h2;omega
 |succ s ih =>
  intro i j l hs hi hj him hb hl hN
  by_cases hij:i=j
  . subst hij
    refine⟨i,l,.refl,by omega,by omega,.step (fun n=>Cl n cv N m i i l) (.of fun n=>?_),fun l' h x=>?_⟩
    . have:((i:Int) != (i:Int))=false:=by simp
      rw [this];rfl
    . rw [h x]
      by_cases h1:m-i<=x/\x<m
      . rw [Ç (by omega),Ç (by omega)];congr 1;omega
      . by_cases h2:m<=x/\x<m+i
        . rw [Å (by omega),Ç (by omega),Å (by omega),Ç (by omega)];congr 1;omega
        . rw [Å (by omega),Å (by omega),Å (by omega),Å (by omega)]
  have hne:((i:Int) != (j:Int))=true:=by simp;omega
  have w1:À ((m:Int)-i)=((m-i:Nat):Int):=wN (by omega) (by omega)
  by_cases hlt:j<i
  . have w2:À ((i:Int)-j)=((i-j:Nat):Int):=wN (by omega) (by omega)
    obtain⟨l1,r1,s1,e1⟩:=SE (cv:=cv) (N:=N) (a:=m-i) (b:=m) (c:=j) (l:=l) w1 rfl rfl (by omega) (by omega) hN hl
    obtain⟨k,l2,r2,k1,k2,e2,d2⟩:=ih (i-j) j l1 (by omega) (by omega) hj (by omega) hb (by rw [r1.len];exact hl) (by rw [r1.len];exact hN)
    refine⟨k,l2,r1.trans (r2.mono (by omega) (by omega)),by omega,k2,.step (fun n=>Cl n cv N m i j l) ?_,fun l' h x=>?_⟩
    . have hd:decide ((j:Int)<(i:Int))=true:=by simp;omega
      refine (e1.bind (g:=fun n d=>A3 n cv N (m:Int) ((i-j:Nat):Int) (j:Int) d) e2).congr fun n=>?_
      rw [hne,hd,w2];rfl
    . rw [d2 l' h x]
      by_cases h1:m-(i-j)<=x/\x<m-(i-j)+(m+j-m)
      . rw [Ç h1,s1,Å (by omega),Ç (by omega),Å (by omega),Ç (by omega)];congr 1;omega
      . rw [Å h1]
        by_cases h2:m-(i-j)+(m+j-m)<=x/\x<m+j
        . rw [Ç h2,s1,Å (by omega),Å (by omega),Å (by omega),Ç (by omega)]
        . rw [Å h2,s1]
          by_cases h3:m-i<=x/\x<m-i+j
          . rw [Ç (by omega),Ç (by omega)];congr 1;omega
          . rw [Å (by omega),Å (by omega),Å (by omega),Å (by omega)]
  . have w2:À ((j:Int)-i)=((j-i:Nat):Int):=wN (by omega) (by omega)
    have w3:À ((À ((m:Int)+j))-i)=((m+j-i:Nat):Int):=by
     have w4:À ((m:Int)+j)=((m+j:Nat):Int):=wN (by omega) (by omega)
     rw [w4];exact wN (by omega) (by omega)
    obtain⟨l1,r1,s1,e1⟩:=SE (cv:=cv) (N:=N) (a:=m-i) (b:=m+j-i) (c:=i) (l:=l) w1 w3 rfl (by omega) (by omega) hN (by omega)
    obtain⟨k,l2,r2,k1,k2,e2,d2⟩:=ih i (j-i) l1 (by omega) hi (by omega) him (by omega) (by rw [r1.len];omega) (by rw [r1.len];exact hN)
    refine⟨k,l2,(r1.mono (by omega) (by omega)).trans (r2.mono (by omega) (by omega)),k1,by omega,.step (fun n=>Cl n cv N m i j l) ?_,fun l' h x=>?_⟩
    . have hd:decide ((j:Int)<(i:Int))=false:=by simp;omega
      refine (e1.bind (g:=fun n d=>A3 n cv N (m:Int) (i:Int) ((j-i:Nat):Int) d) e2).congr fun n=>?_
      rw [hne,hd,w2];rfl
    . rw [d2 l' h x]
      by_cases h1:m-i<=x/\x<m-i+(m+(j-i)-m)
      . rw [Ç h1,s1,Å (by omega),Å (by omega),Ç (by omega)]
      . rw [Å h1]
        by_cases h2:m-i+(m+(j-i)-m)<=x/\x<m+(j-i)
        . rw [Ç h2,s1,Ç (by omega),Ç (by omega)];congr 1;omega
        . rw [Å h2,s1,Å (by omega)]
          by_cases h3:m+j-i<=x/\x<m+j
          . rw [Ç (by omega),Å (by omega),Ç (by omega)];congr 1;omega
          . rw [Å (by omega),Å (by omega),Å (by omega)]
theorem Ado {N p m q:Nat}{l:List Ac}{pp qq:Int}(ep:pp=p)(eq:qq=q)(hp:p<m)(hq:m<q)(hb:q<100000)(hl:q<=l.length)(hN:l.length<=N) :
 ∃ l',RP l l' p q/\TL l l' p m q/\Ev (fun n=>Bn n cv N l pp (m:Int) qq) l':=by
 subst ep;subst eq
 obtain⟨k,l1,r1,k1,k2,e1,d1⟩:=Age (cv:=cv) (N:=N) (m:=m) ((m-p)+(q-m)) (m-p) (q-m) l (by omega) (by omega) (by omega) (by omega) (by omega) (by omega) hN
 have w1:À ((m:Int)-p)=((m-p:Nat):Int):=wN (by omega) (by omega)
 have w2:À ((q:Int)-m)=((q-m:Nat):Int):=wN (by omega) (by omega)
 have w3:À ((m:Int)-k)=((m-k:Nat):Int):=wN (by omega) (by omega)
 have a1:m-(m-p)=p:=by omega
 have a2:m+(q-m)=q:=by omega
 rw [a1,a2] at r1 d1
 obtain⟨l2,r2,s2,e2⟩:=SE (cv:=cv) (N:=N) (a:=m-k) (b:=m) (c:=k) (l:=l1) w3 rfl rfl (by omega) (by omega) (by rw [r1.len];exact hN) (by rw [r1.len];omega)
 refine⟨l2,r1.trans (r2.mono (by omega) (by omega)),d1 l2 s2,?_⟩
 unfold Bn
 rw [w1,w2]
 exact e1.bind (e2.bind .pure)
theorem half {F:Nat->Int->Int->Option Int}{T:Nat->Bool}{lo hi:Nat}(h:∀ n i j:Nat,lo<=i->i<j->j<=hi->F (n+1) (i:Int) (j:Int)=bif T ((i+j) / 2) then F n (((i+j) / 2+1:Nat):Int) (j:Int) else F n (i:Int) (((i+j) / 2:Nat):Int))
 (h0:∀ n i:Nat,F (n+1) (i:Int) (i:Int)=some (i:Int)):∀ (s i j:Nat),j-i<=s->lo<=i->i<=j->j<=hi->(i=lo∨T (i-1)=true)->(j=hi∨T j=false) ->
 ∃ r:Nat,lo<=r/\r<=hi/\(r=lo∨T (r-1)=true)/\(r=hi∨T r=false)/\Ev (fun n=>F n (i:Int) (j:Int)) (r:Int):=by
 intro s
 induction s with
 |zero =>
  intro i j hs h1 h2 h3 h4 h5
  have:i=j:=by omega
  subst this
  exact⟨i,h1,h3,h4,h5,.step (h0 · i) .pure⟩
 |succ s ih =>
  intro i j hs h1 h2 h3 h4 h5
  by_cases hij:i=j
  . subst hij
    exact⟨i,h1,h3,h4,h5,.step (h0 · i) .pure⟩
  by_cases ht:T ((i+j) / 2)=true
  . obtain⟨r,q1,q2,q3,q4,q5⟩:=ih ((i+j) / 2+1) j (by omega) (by omega) (by omega) h3 (.inr (by simpa using ht)) h5
    exact⟨r,q1,q2,q3,q4,.step (fun n=>h n i j h1 (by omega) h3) (q5.congr fun n=>by rw [ht];rfl)⟩
  . have ht':T ((i+j) / 2)=false:=by simpa using ht
    obtain⟨r,q1,q2,q3,q4,q5⟩:=ih i ((i+j) / 2) (by omega) h1 (by omega) (by omega) h4 (.inr ht')
    exact⟨r,q1,q2,q3,q4,.step (fun n=>h n i j h1 (by omega) h3) (q5.congr fun n=>by rw [ht'];rfl)⟩
theorem mv1 {N i:Nat}(hi:i<100000):∀ (s k:Nat) (l:List Ac),i-k=s->k<i->i<=l.length->l.length<=N ->
 ∃ l',RP l l' k i/\TL l l' k (k+1) i/\Ev (fun n=>AE n (i:Int) N (k:Int) l) l':=by
 intro s
 induction s with
 |zero=>intro k l h1 h2;omega
 |succ s ih =>
  intro k l hs hk hl hN
  have w1:À ((i:Int)-1)=((i-1:Nat):Int):=wN (by omega) (by omega)
  by_cases hki:k+1=i
  . refine⟨l,.refl,fun x=>?_,.step (fun n=>Db n i N k l) (.of fun n=>?_)⟩
    . rw [Å (by omega)]
      by_cases h:k+(i-(k+1))<=x/\x<i
      . rw [Ç h];congr 1;omega
      . rw [Å h]
    . have:decide ((k:Int)<((i-1:Nat):Int))=false:=by simp;omega
      rw [w1,this];rfl
  have w2:À ((k:Int)+1)=((k+1:Nat):Int):=wN (by omega) (by omega)
  have r1:RP l (swp l k (k+1)) k i:=SC (by omega) (by omega) ⟨by omega,by omega⟩ ⟨by omega,by omega⟩
  obtain⟨l2,r2,s2,e2⟩:=ih (k+1) (swp l k (k+1)) (by omega) (by omega) (by rw [r1.len];exact hl) (by rw [r1.len];exact hN)
  refine⟨l2,r1.trans (r2.mono (by omega) (by omega)),fun x=>?_,.step (fun n=>Db n i N k l) (e2.congr fun n=>?_)⟩
  . have g:=fun y=>SD (l:=l) (i:=k) (j:=k+1) (by omega) (by omega) y
    rw [s2 x]
    by_cases h1:k+1<=x/\x<k+1+(i-(k+1+1))
    . rw [Ç h1,g,Å (by omega),Å (by omega),Ç (by omega)];congr 1;omega
    . rw [Å h1]
      by_cases h2:k+1+(i-(k+1+1))<=x/\x<i
      . rw [Ç h2,g,Ç (by omega),Å (by omega),Ç (by omega)];congr 1;omega
      . rw [Å h2,g]
        by_cases h3:x=k
        . rw [Å (by omega),Ç h3,Ç (by omega)];congr 1;omega
        . rw [Å (by omega),Å h3,Å (by omega),Å (by omega)]
  . have hlt:decide ((k:Int)<((i-1:Nat):Int))=true:=by simp;omega
    rw [w1,w2,hlt]
    simp only [Ð]
    rw [Pt (i:=k) (j:=k+1) (by omega) (by omega) hN rfl rfl]
theorem mv3 {N i:Nat}:∀ (s m:Nat) (l:List Ac),m-i=s->m<100000->i<=m->m<l.length->l.length<=N ->
 ∃ l',RP l l' i (m+1)/\TL l l' i m (m+1)/\Ev (fun n=>AD n (i:Int) N (m:Int) l) l':=by
 intro s
 induction s with
 |zero =>
  intro m l hs hm him hl hN
  refine⟨l,.refl,fun x=>?_,.step (fun n=>CZ n i N m l) (.of fun n=>?_)⟩
  . by_cases h:i<=x/\x<i+(m+1-m)
    . rw [Ç h];congr 1;omega
    . rw [Å h,Å (by omega)]
  . have:decide ((i:Int)<(m:Int))=false:=by simp;omega
    rw [this];rfl
 |succ s ih =>
  intro m l hs hm him hl hN
  have w2:À ((m:Int)-1)=((m-1:Nat):Int):=wN (by omega) (by omega)
  have r1:RP l (swp l m (m-1)) i (m+1):=SC (by omega) (by omega) ⟨by omega,by omega⟩ ⟨by omega,by omega⟩
  obtain⟨l2,r2,s2,e2⟩:=ih (m-1) (swp l m (m-1)) (by omega) (by omega) (by omega) (by rw [r1.len];omega) (by rw [r1.len];exact hN)
  refine⟨l2,r1.trans (r2.mono (by omega) (by omega)),fun x=>?_,.step (fun n=>CZ n i N m l) (e2.congr fun n=>?_)⟩
  . have g:=fun y=>SD (l:=l) (i:=m) (j:=m-1) (by omega) (by omega) y
    rw [s2 x]
    by_cases h1:i<=x/\x<i+(m-1+1-(m-1))
    . rw [Ç h1,g,Ç (by omega),Ç (by omega)];congr 1;omega
    . rw [Å h1]
      by_cases h2:i+(m-1+1-(m-1))<=x/\x<m-1+1
      . rw [Ç h2,g,Å (by omega),Å (by omega),Å (by omega),Ç (by omega)];congr 1;omega
      . rw [Å h2,g,Å (by omega)]
        by_cases h3:x=m
        . rw [Ç h3,Å (by omega),Ç (by omega)];congr 1;omega
        . rw [Å h3,Å (by omega),Å (by omega)]
  . have hlt:decide ((i:Int)<(m:Int))=true:=by simp;omega
    rw [hlt,w2]
    simp only [Ð]
    rw [Pt (i:=m) (j:=m-1) (by omega) (by omega) hN rfl rfl]
end Go.Sp
namespace Go.Sp
open Go Go.Vl
variable {cv:List Aa}
section
variable {l l':List Ac} {a b m:Nat}
theorem SR.join (h1:SR cv l a m)(h2:SR cv l m b)(h3:∀ i j,a<=i->i<m->m<=j->j<b->GF cv l j<=GF cv l i):SR cv l a b:=by
 intro i j hi hij hj
 by_cases c1:j<m
 . exact h1 i j hi hij c1
 . by_cases c2:m<=i
   . exact h2 i j c2 hij hj
   . exact h3 i j hi (by omega) (by omega) hj
theorem SR.le (h:SR cv l a b){i j:Nat}(h1:a<=i)(h2:i<=j)(h3:j<b):GF cv l j<=GF cv l i:=by
 by_cases c:i=j
 . subst c;omega
 . exact h i j h1 (by omega) h3
theorem SR.keep {x y:Nat}(h:SR cv l x y)(r:RP l l' a b)(hx:y<=a∨b<=x):SR cv l' x y:=by
 intro i j h1 h2 h3
 rw [Jq (r.out i (by omega)),Jq (r.out j (by omega))]
 exact h i j h1 h2 h3
end
theorem TL.rk {l l':List Ac}{p m q:Nat}(h:TL l l' p m q)(x:Nat):GF cv l' x=if p<=x/\x<p+(q-m) then GF cv l (x+(m-p)) else if p+(q-m)<=x/\x<q then GF cv l (x-(q-m)) else GF cv l x:=by
 have e:=h x
 split
 . rw [Ç (by assumption)] at e;exact Jq e
 . rw [Å (by assumption)] at e
   split
   . rw [Ç (by assumption)] at e;exact Jq e
   . rw [Å (by assumption)] at e;exact Jq e
theorem TL.parts {l l':List Ac}{a b p m q:Nat}(h:TL l l' p m q)(s1:SR cv l a m)(s2:SR cv l m b)(ap:a<=p)(pm:p<=m)(mq:m<=q)(qb:q<=b)
 (c1:a<p->q<b->GF cv l q<=GF cv l (p-1)) (c2:p<m->m<q->GF cv l p<=GF cv l (q-1)) :
 SR cv l' a p/\SR cv l' p (p+(q-m))/\SR cv l' (p+(q-m)) q/\SR cv l' q b/\(∀ i j,a<=i->i<p+(q-m)->p+(q-m)<=j->j<b->GF cv l' j<=GF cv l' i):=by
 have e:=h.rk (cv:=cv)
 refine⟨fun i j h1 h2 h3=>?_,fun i j h1 h2 h3=>?_,fun i j h1 h2 h3=>?_,fun i j h1 h2 h3=>?_,fun i j h1 h2 h3 h4=>?_⟩
 . rw [e,e,Å (by omega),Å (by omega),Å (by omega),Å (by omega)];exact s1 i j h1 h2 (by omega)
 . rw [e,e,Ç (by omega),Ç (by omega)];exact s2 _ _ (by omega) (by omega) (by omega)
 . rw [e,e,Å (by omega),Ç (by omega),Å (by omega),Ç (by omega)];exact s1 _ _ (by omega) (by omega) (by omega)
 . rw [e,e,Å (by omega),Å (by omega),Å (by omega),Å (by omega)];exact s2 i j (by omega) h2 h3
 . rw [e,e,Å (by omega)]
   by_cases ci:i<p
   . rw [Å (c:=p<=i/\i<p+(q-m)) (by omega),Å (c:=p+(q-m)<=i/\i<q) (by omega)]
     by_cases cj:j<q
     . rw [Ç (by omega)];exact s1.le h1 (by omega) (by omega)
     . rw [Å (by omega)]
       have x1:=s2.le (i:=q) (j:=j) mq (by omega) h4
       have x2:=s1.le (i:=i) (j:=p-1) h1 (by omega) (by omega)
       have x3:=c1 (by omega) (by omega)
       omega
   . rw [Ç (c:=p<=i/\i<p+(q-m)) (by omega)]
     by_cases cj:j<q
     . rw [Ç (by omega)]
       have x1:=s1.le (i:=p) (j:=j-(q-m)) ap (by omega) (by omega)
       have x2:=s2.le (i:=i+(m-p)) (j:=q-1) (by omega) (by omega) (by omega)
       have x3:=c2 (by omega) (by omega)
       omega
     . rw [Å (by omega)];exact s2.le (by omega) (by omega) h4
theorem Aey {p q:Prop}[Decidable p][Decidable q]:(bif decide p then some (decide q) else some false)=some (decide (p/\q)):=by
 by_cases hp:p<;>by_cases hq:q<;>simp [hp,hq]
theorem Xe {N:Nat}:∀ (s a m b:Nat) (l:List Ac),b-a<=s->a<m->m<b->b<100000->b<=l.length->l.length<=N->Sb cv l->SR cv l a m->SR cv l m b ->
 ∃ l',RP l l' a b/\SR cv l' a b/\Ev (fun k=>Al k cv N l (a:Int) (m:Int) (b:Int)) l':=by
 intro s
 induction s with
 |zero=>intro a m b l h1 h2 h3;omega
 |succ s ih =>
  intro a m b l hs ham hmb hb hl hN ok s1 s2
  have w1:À ((m:Int)-a)=((m-a:Nat):Int):=wN (by omega) (by omega)
  have w2:À ((b:Int)-m)=((b-m:Nat):Int):=wN (by omega) (by omega)
  by_cases c1:m=a+1
  . have h1:(((m-a:Nat):Int) == 1)=true:=by simp;omega
    obtain⟨r,q1,q2,q3,q4,q5⟩:=half (F:=fun n i j=>Aw n N l (a:Int) cv i j) (T:=fun h=>decide (GF cv l a-GF cv l h<0)) (lo:=m) (hi:=b) (by
     intro n i j h1 h2 h3
     show Aw (n+1) N l (a:Int) cv i j=_
     have hd:decide ((i:Int)<(j:Int))=true:=by simp;omega
     rw [Da,hd,Ab3 (i:=i) (j:=j) rfl (by omega)]
     simp only [Ð]
     rw [P1 (i:=(i+j) / 2) (j:=a) ok (by omega) (by omega) hN rfl rfl,wN (k:=(i+j) / 2+1) (by omega) (by omega)]) (by
     intro n i
     show Aw (n+1) N l (a:Int) cv i i=_
     have hd:decide ((i:Int)<(i:Int))=false:=by simp
     rw [Da,hd];rfl) (b-m) m b (by omega) (by omega) (by omega) (by omega) (.inl rfl) (.inl rfl)
    obtain⟨l',r1,d1,e1⟩:=mv1 (N:=N) (i:=r) (by omega) (r-a) a l rfl (by omega) (by omega) hN
    have g:=d1.rk (cv:=cv)
    subst c1
    obtain⟨p1,p2,p3,p4,p5⟩:=d1.parts (cv:=cv) (a:=a) (b:=b) s1 s2 (by omega) (by omega) (by omega) (by omega) (fun h=>by omega) (fun h h'=>by
     rcases q3 with q3|q3
     . omega
     . have:=þ q3;omega)
    refine⟨l',r1.mono (by omega) (by omega),SR.join p2 (SR.join p3 p4 fun i j h1 h2 h3 h4=>?_) p5,.step (fun k=>Cs k cv N l a _ b) ?_⟩
    . rcases q4 with q4|q4
      . omega
      have q4:=of_decide_eq_false q4
      rw [g,g,Å (by omega),Å (by omega),Å (by omega),Ç (by omega)]
      have x:=s2.le (i:=r) (j:=j) (by omega) (by omega) h4
      have:i-(r-(a+1))=a:=by omega
      rw [this];omega
    . rw [w1,h1]
      exact q5.bind (e1.bind .pure)
  have h1:(((m-a:Nat):Int) == 1)=false:=by simp;omega
  by_cases c2:b=m+1
  . have h2:(((b-m:Nat):Int) == 1)=true:=by simp;omega
    obtain⟨r,q1,q2,q3,q4,q5⟩:=half (F:=fun n i j=>Av n N (m:Int) l cv i j) (T:=fun h=>!decide (GF cv l h-GF cv l m<0)) (lo:=a) (hi:=m) (by
     intro n i j h1 h2 h3
     show Av (n+1) N (m:Int) l cv i j=_
     have hd:decide ((i:Int)<(j:Int))=true:=by simp;omega
     rw [CY,hd,Ab3 (i:=i) (j:=j) rfl (by omega)]
     simp only [Ð]
     rw [P1 (i:=m) (j:=(i+j) / 2) ok (by omega) (by omega) hN rfl rfl,wN (k:=(i+j) / 2+1) (by omega) (by omega)]) (by
     intro n i
     show Av (n+1) N (m:Int) l cv i i=_
     have hd:decide ((i:Int)<(i:Int))=false:=by simp
     rw [CY,hd];rfl) (m-a) a m (by omega) (by omega) (by omega) (by omega) (.inl rfl) (.inl rfl)
    obtain⟨l',r1,d1,e1⟩:=mv3 (N:=N) (i:=r) (m-r) m l rfl (by omega) (by omega) (by omega) hN
    have g:=d1.rk (cv:=cv)
    subst c2
    obtain⟨p1,p2,p3,p4,p5⟩:=d1.parts (cv:=cv) (a:=a) (b:=m+1) s1 s2 (by omega) (by omega) (by omega) (by omega) (fun h h'=>by omega) (fun h h'=>by
     rcases q4 with q4|q4
     . omega
     . have:=þ (by simpa using q4:decide (GF cv l r-GF cv l m<0)=true)
       have e:m+1-1=m:=by omega
       rw [e];omega)
    refine⟨l',r1.mono (by omega) (by omega),SR.join (SR.join p1 p2 fun i j h1 h2 h3 h4=>?_) p3 p5,.step (fun k=>Cs k cv N l a m _) ?_⟩
    . rcases q3 with q3|q3
      . omega
      have q3:=of_decide_eq_false (by simpa using q3:decide (GF cv l (r-1)-GF cv l m<0)=false)
      rw [g,g,Ç (by omega),Å (by omega),Å (by omega)]
      have x:=s1.le (i:=i) (j:=r-1) (by omega) (by omega) (by omega)
      have:j+(m-r)=m:=by omega
      rw [this];omega
    . rw [w1,h1,w2,h2]
      exact q5.bind (e1.bind .pure)
  have h2:(((b-m:Nat):Int) == 1)=false:=by simp;omega
  have wm:=Ab3 (x:=(a:Int)+b) (i:=a) (j:=b) rfl (by omega)
  generalize hmid:(a+b) / 2=mid at wm
  have hm1:a<mid:=by omega
  have hm2:mid<b:=by omega
  have wn:À ((mid:Int)+m)=((mid+m:Nat):Int):=wN (by omega) (by omega)
  have key:∀ lo hi:Nat,a<=lo->lo<=hi->hi<=m->hi<=mid∨m<=mid->mid+m-b<=lo->(lo=a∨lo+b=mid+m)->(hi=m∨hi=mid) ->
   ∃ r:Nat,lo<=r/\r<=hi/\(r=lo∨GF cv l (mid+m-r)<=GF cv l (r-1))/\(r=hi∨GF cv l r<=GF cv l (mid+m-r-1))/\Ev (fun n=>As n N (a:Int) (b:Int) (m:Int) l cv (lo:Int) (hi:Int)) (r:Int):=by
   intro lo hi k1 k2 k3 k4 k5 k6 k7
   obtain⟨r,q1,q2,q3,q4,q5⟩:=half (F:=fun n i j=>As n N (a:Int) (b:Int) (m:Int) l cv i j) (T:=fun c=>!decide (GF cv l c-GF cv l (mid+m-1-c)<0)) (lo:=lo) (hi:=hi) (by
    intro n i j h1 h2 h3
    show As (n+1) N (a:Int) (b:Int) (m:Int) l cv i j=_
    have hd:decide ((i:Int)<(j:Int))=true:=by simp;omega
    rw [CX,hd,Ab3 (i:=i) (j:=j) rfl (by omega),wm,wn]
    simp only [Ð]
    rw [wN (x:=((mid+m:Nat):Int)-1) (k:=mid+m-1) (by omega) (by omega),wN (x:=((mid+m-1:Nat):Int)-(((i+j) / 2:Nat):Int)) (k:=mid+m-1-(i+j) / 2) (by omega) (by omega)]
    rw [P1 (i:=mid+m-1-(i+j) / 2) (j:=(i+j) / 2) ok (by omega) (by omega) hN rfl rfl,wN (x:=(((i+j) / 2:Nat):Int)+1) (k:=(i+j) / 2+1) (by omega) (by omega)]) (by
    intro n i
    show As (n+1) N (a:Int) (b:Int) (m:Int) l cv i i=_
    have hd:decide ((i:Int)<(i:Int))=false:=by simp
    rw [CX,hd];rfl) (hi-lo) lo hi (by omega) (by omega) (by omega) (by omega) (.inl rfl) (.inl rfl)
   refine⟨r,q1,q2,?_,?_,q5⟩
   . by_cases c:r=lo
     . exact .inl c
     . rcases q3 with q3|q3
       . exact absurd q3 c
       . have x:=of_decide_eq_false (by simpa using q3:decide (GF cv l (r-1)-GF cv l (mid+m-1-(r-1))<0)=false)
         have e:mid+m-1-(r-1)=mid+m-r:=by omega
         rw [e] at x
         exact .inr (by omega)
   . rcases q4 with q4|q4
     . exact .inl q4
     . have x:=þ (by simpa using q4:decide (GF cv l r-GF cv l (mid+m-1-r)<0)=true)
       have e:mid+m-1-r=mid+m-r-1:=by omega
       rw [e] at x
       exact .inr (by omega)
  have key2:∃ lo hi r:Nat,(bif decide ((mid:Int)<(m:Int)) then some (À (((mid+m:Nat):Int)-(b:Int)),(mid:Int)) else some ((a:Int),(m:Int)))=some ((lo:Int),(hi:Int))/\a<=r/\r<=m/\r<=mid/\m<=mid+m-r/\mid+m-r<=b/\(a<r->mid+m-r<b->GF cv l (mid+m-r)<=GF cv l (r-1))/\(r<m->m<mid+m-r->GF cv l r<=GF cv l (mid+m-r-1))/\Ev (fun n=>As n N (a:Int) (b:Int) (m:Int) l cv (lo:Int) (hi:Int)) (r:Int):=by
   by_cases c:mid<m
   . obtain⟨r,q1,q2,q3,q4,q5⟩:=key (mid+m-b) mid (by omega) (by omega) (by omega) (by omega) (by omega) (by omega) (by omega)
     refine⟨mid+m-b,mid,r,?_,by omega,by omega,by omega,by omega,by omega,fun h h'=>q3.elim (fun h=>by omega) id,fun h h'=>q4.elim (fun h=>by omega) id,q5⟩
     rw [Í (by omega),wN (k:=mid+m-b) (by omega) (by omega)];rfl
   . obtain⟨r,q1,q2,q3,q4,q5⟩:=key a m (by omega) (by omega) (by omega) (by omega) (by omega) (by omega) (by omega)
     refine⟨a,m,r,?_,by omega,by omega,by omega,by omega,by omega,fun h h'=>q3.elim (fun h=>by omega) id,fun h h'=>q4.elim (fun h=>by omega) id,q5⟩
     rw [Ë (by omega)];rfl
  obtain⟨lo,hi,r,f1,f2,f3,f4,f5,f6,f7,f8,f9⟩:=key2
  have wq:À (((mid+m:Nat):Int)-(r:Int))=((mid+m-r:Nat):Int):=wN (by omega) (by omega)
  have emid:r+(mid+m-r-m)=mid:=by omega
  generalize hq:mid+m-r=q at *
  -- the rotation
  have rot:∃ l1,RP l l1 r q/\TL l l1 r m q/\Ev (fun n=>bif decide (r<m/\m<q) then (Bn n cv N l (r:Int) (m:Int) (q:Int)).bind fun d=>some d else some l) l1:=by
   by_cases c:r<m/\m<q
   . obtain⟨l1,r1,d1,e1⟩:=Ado (cv:=cv) (N:=N) (p:=r) (m:=m) (q:=q) (l:=l) rfl rfl c.1 c.2 (by omega) (by omega) hN
     refine⟨l1,r1,d1,?_⟩
     rw [Í c]
     exact e1.bind .pure
   . refine⟨l,.refl,fun x=>?_,?_⟩
     . by_cases c3:r=m
       . subst c3
         by_cases h:r<=x/\x<r+(q-r)
         . rw [Ç h];congr 1;omega
         . rw [Å h,Å (by omega)]
       . rw [Å (by omega)]
         by_cases h:r+(q-m)<=x/\x<q
         . rw [Ç h];congr 1;omega
         . rw [Å h]
     . rw [Ë c];exact .pure
  obtain⟨l1,r1,d1,e1⟩:=rot
  obtain⟨p1,p2,p3,p4,p5⟩:=d1.parts (cv:=cv) (a:=a) (b:=b) s1 s2 f2 f3 f5 f6 f7 f8
  rw [emid] at p2 p3 p5
  have ok1:=ok.rp r1
  have left:∃ l2,RP l1 l2 a mid/\SR cv l2 a mid/\Ev (fun n=>bif decide (a<r/\r<mid) then (Al n cv N l1 (a:Int) (r:Int) (mid:Int)).bind fun d=>some d else some l1) l2:=by
   by_cases c:a<r/\r<mid
   . obtain⟨l2,r2,t2,e2⟩:=ih a r mid l1 (by omega) c.1 c.2 (by omega) (by rw [r1.len];omega) (by rw [r1.len];exact hN) ok1 p1 p2
     refine⟨l2,r2,t2,?_⟩
     rw [Í c]
     exact e2.bind .pure
   . refine⟨l1,.refl,?_,?_⟩
     . by_cases c3:a=r
       . rw [c3];exact p2
       . have:r=mid:=by omega
         rw [<- this];exact p1
     . rw [Ë c];exact .pure
  obtain⟨l2,r2,t2,e2⟩:=left
  have ok2:=ok1.rp r2
  have right:∃ l3,RP l2 l3 mid b/\SR cv l3 mid b/\Ev (fun n=>bif decide (mid<q/\q<b) then (Al n cv N l2 (mid:Int) (q:Int) (b:Int)).bind fun d=>some d else some l2) l3:=by
   have p3':SR cv l2 mid q:=p3.keep r2 (.inr (by omega))
   have p4':SR cv l2 q b:=p4.keep r2 (.inr (by omega))
   by_cases c:mid<q/\q<b
   . obtain⟨l3,r3,t3,e3⟩:=ih mid q b l2 (by omega) c.1 c.2 (by omega) (by rw [r2.len,r1.len];omega) (by rw [r2.len,r1.len];exact hN) ok2 p3' p4'
     refine⟨l3,r3,t3,?_⟩
     rw [Í c]
     exact e3.bind .pure
   . refine⟨l2,.refl,?_,?_⟩
     . by_cases c3:mid=q
       . rw [c3];exact p4'
       . have:q=b:=by omega
         rw [<- this];exact p3'
     . rw [Ë c];exact .pure
  obtain⟨l3,r3,t3,e3⟩:=right
  refine⟨l3,((r1.mono (by omega) (by omega)).trans (r2.mono (by omega) (by omega))).trans (r3.mono (by omega) (by omega)),SR.join (t2.keep r3 (.inl (by omega))) t3 fun i j k1 k2 k3 k4=>?_,.step (fun k=>Cs k cv N l a m b) ?_⟩
  . obtain⟨i2,k5,k6,k7⟩:=r2.inn i k1 k2
    obtain⟨j2,k8,k9,k10⟩:=r3.inn j k3 k4
    rw [Jq ((r3.out i (by omega)).trans k7),Jq (k10.trans (r2.out j2 (by omega)))]
    exact p5 i2 j2 k5 k6 k8 k9
  . rw [w1,h1,w2,h2,wm,wn,f1]
    simp only [Ï,Á]
    refine f9.bind ?_
    rw [wq]
    simp only [Int.ofNat_lt,Aey,Á]
    refine e1.bind ?_
    refine e2.bind ?_
    refine e3.congr fun n=>?_
    rfl
section
variable {N n:Nat} {l d:List Ac}
theorem Tg {x b:Int}(h:(n:Int)<b):Ev (fun k=>A6 k (n:Int) cv N x b l) (x,b,l):=.step (fun k=>D8 k n cv N x b l) (.of fun k=>by rw [Ë (by omega)];rfl)
theorem Ab7 {x b:Int}{r:Int×Int×List Ac}(h:b<=(n:Int))(e:Ev (fun k=>A7 k cv N l x b) d)(e2:Ev (fun k=>A6 k (n:Int) cv N b (À (b+20)) d) r):Ev (fun k=>A6 k (n:Int) cv N x b l) r:=by
 refine .step (fun k=>D8 k n cv N x b l) ?_
 rw [Í h]
 exact e.bind e2
theorem Z4 {s x b:Int}(h:(n:Int)<b):Ev (fun k=>A4 k (n:Int) cv N s x b l) (x,b,l):=.step (fun k=>D9 k n cv N s x b l) (.of fun k=>by rw [Ë (by omega)];rfl)
theorem Agk {s x b:Int}{r:Int×Int×List Ac}(h:b<=(n:Int))(e:Ev (fun k=>Al k cv N l x (À (x+s)) b) d)(e2:Ev (fun k=>A4 k (n:Int) cv N s b (À (b+(À (2*s)))) d) r):Ev (fun k=>A4 k (n:Int) cv N s x b l) r:=by
 refine .step (fun k=>D9 k n cv N s x b l) ?_
 rw [Í h]
 exact e.bind e2
theorem Th {s x b:Int}(h:(n:Int)<=s):Ev (fun k=>Ay k (n:Int) cv N s x b l) l:=.step (fun k=>DA k n cv N s x b l) (.of fun k=>by rw [Ë (by omega)];rfl)
theorem Afh {s x b x2 b2:Int}{l5 l6 r:List Ac}(h:s<(n:Int))(e:Ev (fun k=>A4 k (n:Int) cv N s 0 (À (2*s)) l) (x2,b2,l5))
 (e2:Ev (fun k=>bif decide (À (x2+s)<(n:Int)) then Al k cv N l5 x2 (À (x2+s)) (n:Int) else some l5) l6) (e3:Ev (fun k=>Ay k (n:Int) cv N (À (s*2)) x2 b2 l6) r):Ev (fun k=>Ay k (n:Int) cv N s x b l) r:=by
 refine .step (fun k=>DA k n cv N s x b l) ?_
 rw [Í h]
 refine e.bind ?_
 cases hc:decide (À (x2+s)<(n:Int))
 . rw [hc] at e2
   obtain⟨K,hK⟩:=e2
   have:l5=l6:=by simpa using hK K (Þ _)
   subst this
   refine e3.congr fun k=>?_
   show (bif decide (À (x2+s)<(n:Int)) then _ else _)=_
   rw [hc];rfl
 . rw [hc] at e2
   refine (e2.bind e3).congr fun k=>?_
   show (bif decide (À (x2+s)<(n:Int)) then _ else _)=_
   rw [hc];rfl
end
theorem XU {N n:Nat}{l:List Ac}(hn:n<=40)(hl:l.length=n)(hN:n<=N)(ok:Sb cv l):∃ l',RP l l' 0 n/\SR cv l' 0 n/\Ev (fun k=>B5 k cv N l (n:Int)) l':=by
 have fin:∀ {x b:Int} {l1 l2 l3:List Ac},Ev (fun k=>A6 k (n:Int) cv N 0 20 l) (x,b,l1)->Ev (fun k=>A7 k cv N l1 x (n:Int)) l2->Ev (fun k=>Ay k (n:Int) cv N 20 x b l2) l3->Ev (fun k=>B5 k cv N l (n:Int)) l3:=by
  intro x b l1 l2 l3 e1 e2 e3
  unfold B5
  exact e1.bind (e2.bind (e3.bind .pure))
 by_cases h1:n<20
 . obtain⟨l',r,s,e⟩:=Q5 (cv:=cv) (N:=N) (a:=0) (b:=n) (l:=l) (by omega) (by omega) (by omega) ok (by omega)
   exact⟨l',r,s,fin (Tg (by omega)) e (Th (by omega))⟩
 obtain⟨l1,r1,s1,e1⟩:=Q5 (cv:=cv) (N:=N) (a:=0) (b:=20) (l:=l) (by omega) (by omega) (by omega) ok (by omega)
 have ok1:=ok.rp r1
 by_cases h2:n<40
 . obtain⟨l2,r2,s2,e2⟩:=Q5 (cv:=cv) (N:=N) (a:=20) (b:=n) (l:=l1) (by omega) (by omega) (by rw [r1.len];omega) ok1 (by rw [r1.len];omega)
   have s1':SR cv l2 0 20:=s1.keep r2 (.inl (by omega))
   have r12:RP l l2 0 n:=(r1.mono (by omega) (by omega)).trans (r2.mono (by omega) (by omega))
   by_cases h3:n=20
   . subst h3
     exact⟨l2,r12,s1',fin (Ab7 (by omega) e1 (Tg (b:=À (20+20)) (by decide))) e2 (Th (by omega))⟩
   . obtain⟨l3,r3,s3,e3⟩:=Xe (cv:=cv) (N:=N) n 0 20 n l2 (by omega) (by omega) (by omega) (by omega) (by rw [r2.len,r1.len];omega) (by rw [r2.len,r1.len];omega) (ok1.rp r2) s1' s2
     have w40:À (20+20)=40:=by decide
     have w2:À (2*20)=40:=by decide
     have w0:À (0+20)=20:=by decide
     have w4:À (20*2)=40:=by decide
     refine⟨l3,r12.trans r3,s3,fin (Ab7 (by omega) e1 (Tg (by rw [w40];omega))) e2 (Afh (x2:=0) (b2:=40) (l5:=l2) (l6:=l3) (by omega) (by rw [w2];exact Z4 (by omega)) ?_ (Th (by rw [w4];omega)))⟩
     rw [w0,Í (by omega)]
     exact e3
 . have h4:n=40:=by omega
   subst h4
   have w40:À (20+20)=40:=by decide
   have w60:À (40+20)=60:=by decide
   have w2:À (2*20)=40:=by decide
   have w0:À (0+20)=20:=by decide
   have w4:À (20*2)=40:=by decide
   obtain⟨l2,r2,s2,e2⟩:=Q5 (cv:=cv) (N:=N) (a:=20) (b:=40) (l:=l1) (by omega) (by omega) (by rw [r1.len];omega) ok1 (by rw [r1.len];omega)
   have s1':SR cv l2 0 20:=s1.keep r2 (.inl (by omega))
   obtain⟨l3,r3,s3,e3⟩:=Q5 (cv:=cv) (N:=N) (a:=40) (b:=40) (l:=l2) (by omega) (by omega) (by rw [r2.len,r1.len];omega) (ok1.rp r2) (by rw [r2.len,r1.len];omega)
   obtain⟨l4,r4,s4,e4⟩:=Xe (cv:=cv) (N:=N) 40 0 20 40 l3 (by omega) (by omega) (by omega) (by omega) (by rw [r3.len,r2.len,r1.len];omega) (by rw [r3.len,r2.len,r1.len];omega) ((ok1.rp r2).rp r3) (s1'.keep r3 (.inl (by omega))) (s2.keep r3 (.inl (by omega)))
   refine⟨l4,(((r1.mono (by omega) (by omega)).trans (r2.mono (by omega) (by omega))).trans (r3.mono (by omega) (by omega))).trans r4,s4,fin (x:=40) (b:=60) (Ab7 (by omega) e1 ?_) e3 (Afh (x2:=40) (b2:=80) (l5:=l4) (l6:=l4) (by omega) ?_ ?_ (Th (by rw [w4];omega)))⟩
   . rw [w40]
     refine Ab7 (by omega) e2 ?_
     rw [w60]
     exact Tg (by omega)
   . rw [w2]
     refine Agk (by omega) (by rw [w0];exact e4) ?_
     rw [w2]
     have:À (40+40)=80:=by decide
     rw [this]
     exact Z4 (by omega)
   . have:À (40+20)=60:=by decide
     rw [this,Ë (by omega)]
     exact .pure
theorem Abi {l:List Ac}(hn:l.length<=40)(ok:Sb cv l):∃ l',l'.Perm l/\SR cv l' 0 l'.length/\Ev (fun k=>BQ k cv l.length l) l':=by
 obtain⟨l',r,s,e⟩:=XU (cv:=cv) (N:=l.length) hn rfl (Þ _) ok
 refine⟨l',r.perm,by rw [r.len];exact s,?_⟩
 unfold BQ
 exact e.bind .pure
end Go.Sp
namespace Go.Sp
open Go
set_option maxRecDepth 100000
def Xm (c:Aa)(d:Am)(known:Int):Int×Int×Bool×Int :=
 if C6 [c]≠0 then (0,0,false,C6 [c]) else if DS d known≠0 then (0,0,false,DS d known)
 else (Md ⟨d,known⟩ c.From,Md ⟨d,known⟩ c.To,decide (c.Known<=known)&&(Md ⟨d,known⟩ c.When == 1),0)
theorem TS {e:Ag}{t:Int}(h:ES e t=0):(B3 e).2.2.E=0:=by
 unfold ES at h
 by_cases c:(B3 e).2.2.E=0
 . exact c
 . rw [Ç c] at h;exact absurd h c
theorem Aet {c:Aa}(h:C6 [c]=0):(B3 c.From).2.2.E=0/\(B3 c.To).2.2.E=0/\(B3 c.When).2.2.E=0:=by
 unfold C6 at h
 rw [Å (by simp),DY] at h
 by_cases h1:Cc (List.take 0 [c]) c=0
 . have h2:Gq c=0:=by
    unfold Cc at h1
    split at h1
    . cases h1
    . split at h1
      . cases h1
      . split at h1
        . cases h1
        . split at h1
          . cases h1
          . exact h1
   unfold Gq at h2
   by_cases a:ES c.From 2=0
   . rw [Å (by simpa using a)] at h2
     by_cases b:ES c.To 2=0
     . rw [Å (by simpa using b)] at h2
       exact⟨TS a,TS b,TS h2⟩
     . rw [Ç b] at h2;exact absurd h2 b
   . rw [Ç a] at h2;exact absurd h2 a
 . rw [Ç h1] at h;exact absurd h h1
end Go.Sp
namespace Go.Sp
open Go
set_option maxRecDepth 100000
theorem Acq {ks:List Aa}{c:Aa}(h:Cc ks c=0):Mb c.Name=true/\1<=c.Kind/\c.Kind<=3/\IB c=false/\Gq c=0:=by
 unfold Cc at h
 split at h
 . cases h
 . split at h
   . cases h
   . split at h
     . cases h
     . split at h
       . cases h
       . rename_i h1 h2 h3 h4
         exact⟨by simpa using h1,by omega,by omega,by simpa using h4,h⟩
theorem QY {l:List Aa}:∀ (r:List Aa) (k:Nat),DY l r k=0->∀ c∈r,∃ j,Cc (l.take j) c=0
 | [],_,_,c,hc=>by cases hc
 |x::r,k,h,c,hc=>by
  rw [DY] at h
  by_cases h1:Cc (l.take k) x=0
  . rw [Å (by simpa using h1)] at h
    rcases List.mem_cons.1 hc with rfl|hc
    . exact⟨k,h1⟩
    . exact QY r (k+1) h c hc
  . rw [Ç h1] at h;exact absurd h h1
structure Rt (c:Aa):Prop where
 kind:1<=c.Kind/\c.Kind<=3
 rank:0<=c.Rank/\c.Rank<=9
 known:0<=c.Known/\c.Known<=41666
 houses:(c.Kind<3->c.Houses=0)/\(c.Kind=3->1<=c.Houses/\c.Houses<=4095)
 one:C6 [c]=0
 from_:(B3 c.From).2.2.E=0/\(B3 c.From).1=2
 to_:(B3 c.To).2.2.E=0/\(B3 c.To).1=2
 when_:(B3 c.When).2.2.E=0/\(B3 c.When).1=3
theorem YP {e:Ag}{t:Int}(h:ES e t=0):(B3 e).2.2.E=0/\(B3 e).1=t:=by
 refine⟨TS h,?_⟩
 unfold ES at h
 rw [Å (by simpa using TS h)] at h
 by_cases c:(B3 e).1=t
 . exact c
 . rw [Ç c] at h;cases h
theorem Af3 {ks:List Aa}{c:Aa}(h:Cc ks c=0):Rt c:=by
 obtain⟨h0,h1,h2,h3,h4⟩:=Acq h
 unfold IB at h3
 have h3:=of_decide_eq_false h3
 have e1:C6 [c]=0:=by
  unfold C6
  rw [Å (by simp),DY]
  have:Cc (List.take 0 [c]) c=0:=by
   unfold Cc
   rw [Å (by rw [h0];decide),Å (by unfold Gt;simp),Å (by omega),Å (by unfold IB;rw [Ë h3];decide)]
   exact h4
  rw [this];rfl
 unfold Gq at h4
 by_cases a:ES c.From 2=0
 . rw [Å (by simpa using a)] at h4
   by_cases b:ES c.To 2=0
   . rw [Å (by simpa using b)] at h4
     exact⟨⟨h1,h2⟩,by omega,by omega,⟨by omega,by omega⟩,e1,YP a,YP b,YP h4⟩
   . rw [Ç b] at h4;exact absurd h4 b
 . rw [Ç a] at h4;exact absurd h4 a
theorem Ky {l:List Aa}(h:C6 l=0):l.length<=40/\∀ c∈l,Rt c:=by
 unfold C6 at h
 by_cases hl:40<l.length
 . rw [Ç hl] at h;cases h
 . rw [Å hl] at h
   refine⟨by omega,fun c hc=>?_⟩
   obtain⟨j,hj⟩:=QY l 0 h c hc
   exact Af3 hj
def Rh (d:Am)(known:Int)(c:Aa):Bool:=decide (c.Known<=known)&&(Md ⟨d,known⟩ c.When == 1)
theorem Xj {c:Aa}{d:Am}{known:Int}(hc:Rt c)(hk:DS d known=0):Xm c d known=(Md ⟨d,known⟩ c.From,Md ⟨d,known⟩ c.To,Rh d known c,0):=by
 unfold Xm
 rw [Å (by simpa using hc.one),Å (by simpa using hk)];rfl
theorem Xk {e:Ag}{d:Am}{known:Int}(hk:DS d known=0)(hs:EM e=true)(h:(B3 e).2.2.E=0/\(B3 e).1=2):0<=Md ⟨d,known⟩ e/\Md ⟨d,known⟩ e<=41667:=by
 have:=(PI Xu ⟨d,known⟩ (Zw (m:=⟨d,known⟩) hk) e hs h.1).2
 rw [h.2] at this
 exact in2 this
theorem Um (c:Aa)(d:Am)(known:Int)(hs:HO c):Ev (fun n=>DZ n c d known) (Xm c d known):=by
 have hall:∀ x∈[c],HO x:=fun x hx=>by rw [List.mem_singleton.1 hx];exact hs
 unfold DZ Xm
 simp only [Á]
 by_cases h1:C6 [c]=0
 . obtain⟨f1,f2,f3⟩:=Aet h1
   by_cases h2:DS d known=0
   . have v1:∀ e,EM e=true->(B3 e).2.2.E=0->V9 e ⟨d,known⟩=some (Md ⟨d,known⟩ e):=fun e a b=>by unfold V9;rw [Ç ⟨a,b,h2⟩]
     rw [Å (by simpa using h1),Å (by simpa using h2)]
     refine Ev.bind (IK [c] hall) ?_
     rw [show (C6 [c] != 0)=false by simpa using h1]
     simp only [Ï]
     refine Ev.bind (Nz d known) ?_
     rw [show (DS d known != 0)=false by simpa using h2]
     simp only [Ï,v1 _ hs.1 f1,v1 _ hs.2.1 f2,v1 _ hs.2.2 f3,Á]
     cases decide (c.Known<=known)<;>exact Ev.pure
   . rw [Å (by simpa using h1),Ç h2]
     refine Ev.bind (IK [c] hall) ?_
     rw [show (C6 [c] != 0)=false by simpa using h1]
     refine Ev.bind (Nz d known) ?_
     rw [show (DS d known != 0)=true by simpa using h2]
     exact Ev.pure
 . rw [Ç h1]
   refine Ev.bind (IK [c] hall) ?_
   rw [show (C6 [c] != 0)=true by simpa using h1]
   exact Ev.pure
def KO (d:Am)(known:Int):List Aa->Nat->List Ac
 | [],_=>[]
 |c::r,k=>(if Rh d known c=true then [⟨Md ⟨d,known⟩ c.From,Md ⟨d,known⟩ c.To,(k:Int)⟩] else [])++KO d known r (k+1)
theorem PU (d:Am)(known:Int):∀ (r:List Aa) (k:Nat),(KO d known r k).length<=r.length
 | [],_=>by simp [KO]
 |c::r,k=>by
  have:=PU d known r (k+1)
  rw [KO,Õ,à]
  split<;>simp<;>omega
theorem PT {d:Am}{known:Int}{x:Ac}:∀ (r:List Aa) (k:Nat),x∈KO d known r k↔∃ (i:Nat) (c:Aa),r[i]?=some c/\Rh d known c=true/\x=⟨Md ⟨d,known⟩ c.From,Md ⟨d,known⟩ c.To,((k+i:Nat):Int)⟩
 | [],k=>by simp [KO]
 |c::r,k=>by
  rw [KO,List.mem_append,PT r (k+1)]
  constructor
  . rintro (h|⟨i,e,h1,h2,h3⟩)
    . by_cases ha:Rh d known c=true
      . rw [Ç ha] at h
        exact⟨0,c,rfl,ha,by simpa using h⟩
      . rw [Å ha] at h;cases h
    . exact⟨i+1,e,by simpa using h1,h2,by rw [h3];congr 1;omega⟩
  . rintro⟨i,e,h1,h2,h3⟩
    cases i with
    |zero =>
     have:c=e:=by simpa using h1
     subst this
     left;rw [Ç h2,h3];simp
    |succ i=>right;exact⟨i,e,by simpa using h1,h2,by rw [h3];congr 1;omega⟩
theorem Agn {l:List Ac}{y:Ac}(h:l.length<=1000):Cn 24 l [y]=some (l++[y]):=by
 unfold Cn
 rw [Ç (by simp;omega)]
theorem NZ {l:List Aa}{d:Am}{known:Int}(hl:l.length<=40)(hf:∀ c∈l,Rt c)(hs:∀ c∈l,HO c)(hk:DS d known=0) :
 ∀ (r:List Aa) (k:Nat) (out:List Ac),l.drop k=r->k<=l.length->out.length<=k->Ev (fun n=>BN n l d known out (k:Int)) (out++KO d known r k)
 | [],k,out,hr,h1,h2=>by
  have he:=LF hr h1
  refine Ev.step (f:=fun n=>some out) (fun n=>?_) (by rw [KO,ă];exact Ev.pure)
  rw [IH,Ë (by omega)];rfl
 |c::r,k,out,hr,h1,h2=>by
  obtain⟨h3,h4⟩:=GC hr
  have hc:c∈l:=í (i:=k) (by rw [hr];exact â)
  have e:∀ n,BN (n+1) l d known out (k:Int)=(DZ n c d known).bind fun s=>bif s.2.2.1 then (Cn 24 out [(Ac.mk s.1 s.2.1 (k:Int))]).bind fun l2=>BN n l d known l2 ((k+1:Nat):Int) else BN n l d known out ((k+1:Nat):Int):=fun n=>by
   rw [IH,R7 h4,Ð,QB hr,Á,Pe (by omega)]
  refine Ev.step e ((Um c d known (hs c hc)).bind ?_)
  rw [Xj (hf c hc) hk,KO]
  cases ha:Rh d known c with
  |true =>
   simp only [Ð,ø,Agn (show out.length<=1000 by omega),Á]
   rw [<- ï]
   exact NZ hl hf hs hk r (k+1) _ h3 (by omega) (by simp;omega)
  |false =>
   simp only [Ï,ç,Ā,ý]
   exact NZ hl hf hs hk r (k+1) out h3 (by omega) (by omega)
structure Aa4 (l:List Aa) (d:Am) (known:Int) (s:List Ac):Prop where
 perm:s.Perm (KO d known l 0)
 sorted:SR l s 0 s.length
 ok:Sb l s
 len:s.length<=40
 rng:∀ x∈s,0<=x.from_/\x.from_<=41667/\0<=x.to_/\x.to_<=41667
def Oa (l:List Aa)(d:Am)(known:Int):Int:=if C6 l≠0 then C6 l else DS d known
theorem YZ {l:List Aa}{d:Am}{known:Int}(hf:∀ c∈l,Rt c):Sb l (KO d known l 0):=by
 intro x hx
 obtain⟨i,c,h1,h2,h3⟩:=(PT l 0).1 hx
 refine⟨c,?_,(hf c (Ò h1)).rank⟩
 rw [h3]
 show gi l ((0+i:Nat):Int)=_
 rw [giN,î];exact h1
theorem Za {l:List Aa}{d:Am}{known:Int}(hs:∀ c∈l,HO c) :
 (Oa l d known≠0/\Ev (fun n=>C5 n l d known) ([],Oa l d known))∨(Oa l d known=0/\∃ s,Aa4 l d known s/\Ev (fun n=>C5 n l d known) (s,0)):=by
 unfold Oa
 by_cases h1:C6 l=0
 . rw [Å (by simpa using h1)]
   by_cases h2:DS d known=0
   . right
     refine⟨h2,?_⟩
     obtain⟨hl,hf⟩:=Ky h1
     have lp:=NZ hl hf hs h2 l 0 [] rfl (Ą _) (Þ _)
     rw [ý] at lp
     have rng:∀ x∈KO d known l 0,0<=x.from_/\x.from_<=41667/\0<=x.to_/\x.to_<=41667:=by
      intro x hx
      obtain⟨i,c,q1,q2,q3⟩:=(PT l 0).1 hx
      have hc:=Ò q1
      have a:=Xk h2 (hs c hc).1 (hf c hc).from_
      have b:=Xk h2 (hs c hc).2.1 (hf c hc).to_
      rw [q3]
      exact⟨a.1,a.2,b.1,b.2⟩
     have hlen:=PU d known l 0
     obtain⟨s,p,so,es⟩:=Abi (cv:=l) (l:=KO d known l 0) (by omega) (YZ hf)
     refine⟨s,⟨p,so,fun x hx=>YZ hf x (p.mem_iff.1 hx),by rw [p.length_eq];omega,fun x hx=>rng x (p.mem_iff.1 hx)⟩,?_⟩
     unfold C5
     refine (IK l hs).bind ?_
     rw [h1]
     simp only [ù,Ï]
     refine (Nz d known).bind ?_
     rw [h2]
     simp only [ù,Ï]
     refine lp.bind ?_
     cases hz:(KO d known l 0).isEmpty with
     |true =>
      have:KO d known l 0=[]:=List.isEmpty_iff.1 hz
      rw [this] at p
      rw [p.eq_nil]
      exact Ev.pure
     |false =>
      simp only [Ï]
      refine es.bind ?_
      rw [p.length_eq]
      simp only [ĉ,Ð]
      exact Ev.pure
   . left
     refine⟨h2,?_⟩
     unfold C5
     refine (IK l hs).bind ?_
     rw [h1]
     simp only [ù,Ï]
     refine (Nz d known).bind ?_
     rw [show (DS d known != 0)=true by simpa using h2]
     exact Ev.pure
 . left
   rw [Ç h1]
   refine⟨h1,?_⟩
   unfold C5
   refine (IK l hs).bind ?_
   rw [show (C6 l != 0)=true by simpa using h1]
   exact Ev.pure
end Go.Sp
namespace Go.Sp
open Go
set_option maxRecDepth 100000
def Pr (x:Ac)(day:Int):Bool:=decide (x.from_<=day/\day<=x.to_)
theorem S4 (x:Ac)(day:Int):Cy x day=some (Pr x day):=by
 unfold Cy Pr
 rw [Aey];rfl
def LX (h o:Int):Int:=bif bits .and .i64 h o == 0 then h else bits .and .i64 h o
theorem Yk (h o:Int):CL h o=some (LX h o):=by
 unfold CL LX
 cases bits .and .i64 h o == 0<;>rfl
section
variable (l:List Aa) (act:Ac->Bool)
def Z5 (x:Ac):Int:=match gi l x.clause with
 |some c=>c.Kind
 |none=>0
def hsC (x:Ac):Int:=match gi l x.clause with
 |some c=>c.Houses
 |none=>0
def V5 (x:Ac):Bool:=Z5 l x == 3&&act x
def My:List Ac->Int->Int
 | [],c=>c
 |x::r,c=>My r (bits .and .i64 c (hsC l x))
def EA (ρ:Int)(x:Ac):Bool:=rk l x == ρ
def KU:Nat->List Ac->Int->Int ⊕ Int
 |_,[],out=>.inl out
 |0,_::_,out=>.inl out
 |m+1,x::r,out =>
  bif ((x::r).takeWhile (EA l (rk l x))).any (V5 l act) then
   (bif My l (((x::r).takeWhile (EA l (rk l x))).filter (V5 l act)) 4095 == 0 then .inr 0
   else KU m ((x::r).dropWhile (EA l (rk l x))) (LX out (My l (((x::r).takeWhile (EA l (rk l x))).filter (V5 l act)) 4095)))
  else KU m ((x::r).dropWhile (EA l (rk l x))) out
def S7 (s:List Ac):Int:=match KU l act s.length s 4095 with
 |.inl o=>o
 |.inr o=>o
def YM:List Ac->Int->Int->List Int->Int×List Int
 | [],_,st,by_=>(st,by_)
 |x::r,ρ,st,by_=>bif Z5 l x == 3||!act x||decide (rk l x<ρ) then YM r ρ st by_ else YM r (rk l x) (bif st == 0 then Z5 l x else bif st != Z5 l x then 3 else st) (by_++[x.clause])
def atV (s:List Ac):Bq:=⟨(YM l act s (-1) 0 []).1,S7 l act s,DT (YM l act s (-1) 0 []).2⟩
end
theorem XD {α:Type}(p:α->Bool):∀ l:List α,l.drop (l.takeWhile p).length=l.dropWhile p
 | []=>rfl
 |x::l=>by
  rw [Ė,ģ]
  cases p x with
  |true=>simpa using XD p l
  |false=>rfl
section
variable {l:List Aa} {act:Ac->Bool} {s:List Ac} {day:Int}
theorem Aaj {x:Ac}(h:okC l x):∃ c,gi l x.clause=some c/\rk l x=c.Rank/\Z5 l x=c.Kind/\hsC l x=c.Houses:=by
 obtain⟨c,h1,_⟩:=h
 refine⟨c,h1,?_,?_,?_⟩
 . unfold rk;rw [h1]
 . unfold Z5;rw [h1]
 . unfold hsC;rw [h1]
theorem NQ (ok:Sb l s)(hl:s.length<=40)(H:∀ x∈s,Pr x day=act x)(x1:Aa):∀ (r:List Ac) (k:Nat) (c:Int) (b:Bool),s.drop k=r->k<=s.length ->
 Ev (fun n=>Bw n s l x1 day (k:Int) c b) (((k+(r.takeWhile (EA l x1.Rank)).length:Nat):Int),My l ((r.takeWhile (EA l x1.Rank)).filter (V5 l act)) c,b||(r.takeWhile (EA l x1.Rank)).any (V5 l act))
 | [],k,c,b,hr,hk=>by
  have he:=LF hr hk
  refine Ev.step (f:=fun n=>some ((k:Int),c,b)) (fun n=>?_) ?_
  . rw [IF,Ë (by omega)];rfl
  . have:(((k+(([]:List Ac).takeWhile (EA l x1.Rank)).length:Nat):Int),My l ((([]:List Ac).takeWhile (EA l x1.Rank)).filter (V5 l act)) c,b||(([]:List Ac).takeWhile (EA l x1.Rank)).any (V5 l act))=((k:Int),c,b):=by cases b<;>rfl
    rw [this];exact Ev.pure
 |x::r,k,c,b,hr,hk=>by
  obtain⟨h1,h2⟩:=GC hr
  have hx:x∈s:=í (i:=k) (by rw [hr];exact â)
  obtain⟨c0,g0,g1,g2,g3⟩:=Aaj (ok x hx)
  have tw:(x::r).takeWhile (EA l x1.Rank)=if c0.Rank == x1.Rank then x::r.takeWhile (EA l x1.Rank) else []:=by
   rw [Ė]
   unfold EA
   rw [g1]
  have e:∀ n,Bw (n+1) s l x1 day (k:Int) c b=bif c0.Rank == x1.Rank then (bif V5 l act x then Bw n s l x1 day ((k+1:Nat):Int) (bits .and .i64 c c0.Houses) true else Bw n s l x1 day ((k+1:Nat):Int) c b) else some ((k:Int),c,b):=fun n=>by
   rw [IF,R7 h2,Ð,QB hr]
   simp only [Á,g0,Pe (show k<4611686018427387904 by omega),S4,H x hx]
   have:V5 l act x=(c0.Kind == 3&&act x):=by unfold V5;rw [g2]
   rw [this]
   cases c0.Rank == x1.Rank<;>cases c0.Kind == 3<;>cases act x<;>rfl
  refine Ev.step e ?_
  rw [tw]
  cases hc:c0.Rank == x1.Rank with
  |false =>
   simp only [Ï,ç,Ā]
   have:((((k+([]:List Ac).length:Nat)):Int),My l (([]:List Ac).filter (V5 l act)) c,b||([]:List Ac).any (V5 l act))=((k:Int),c,b):=by cases b<;>rfl
   rw [this];exact Ev.pure
  |true =>
   simp only [Ð,ø,à,Ě]
   have ea:k+((r.takeWhile (EA l x1.Rank)).length+1)=k+1+(r.takeWhile (EA l x1.Rank)).length:=by omega
   rw [ea]
   cases hp:V5 l act x with
   |true =>
    rw [ĥ hp,My,g3]
    have:=NQ ok hl H x1 r (k+1) (bits .and .i64 c c0.Houses) true h1 (by omega)
    simpa using this
   |false =>
    rw [List.filter_cons_of_neg (by rw [hp];decide),Bool.false_or]
    exact NQ ok hl H x1 r (k+1) c b h1 (by omega)
theorem XP (ok:Sb l s)(hl:s.length<=40)(H:∀ x∈s,Pr x day=act x):∀ (m k:Nat) (out:Int),s.length-k<=m->k<=s.length->Ev (fun n=>BZ n s l day out (k:Int)) (KU l act m (s.drop k) out):=by
 intro m
 induction m with
 |zero =>
  intro k out hm hk
  have he:k=s.length:=by omega
  refine Ev.step (f:=fun n=>some (.inl out)) (fun n=>?_) ?_
  . rw [Gv,Ë (by omega)];rfl
  . rw [he,List.drop_length];exact Ev.pure
 |succ m ih =>
  intro k out hm hk
  cases hr:s.drop k with
  |nil =>
   have he:=LF hr hk
   refine Ev.step (f:=fun n=>some (.inl out)) (fun n=>?_) Ev.pure
   rw [Gv,Ë (by omega)];rfl
  |cons x r =>
   obtain⟨h1,h2⟩:=GC hr
   have hx:x∈s:=í (i:=k) (by rw [hr];exact â)
   obtain⟨c0,g0,g1,g2,g3⟩:=Aaj (ok x hx)
   have e2:=NQ ok hl H c0 (x::r) k 4095 false hr hk
   rw [KU,g1]
   have tl:((x::r).takeWhile (EA l c0.Rank)).length≠0:=by
    rw [Ė,show EA l c0.Rank x=true by unfold EA;rw [g1];simp,Ç rfl];simp
   have tl2:((x::r).takeWhile (EA l c0.Rank)).length<=(x::r).length:=(List.takeWhile_sublist _).length_le
   have dl:(x::r).length=s.length-k:=by rw [<- hr,ú]
   have dw:s.drop (k+((x::r).takeWhile (EA l c0.Rank)).length)=(x::r).dropWhile (EA l c0.Rank):=by
    rw [<- Ħ,hr,XD]
   have nxt:=fun o=>ih (k+((x::r).takeWhile (EA l c0.Rank)).length) o (by omega) (by omega)
   rw [dw] at nxt
   generalize (x::r).takeWhile (EA l c0.Rank)=tw at *
   refine Ev.step (f:=fun n=>(Bw n s l c0 day (k:Int) 4095 false).bind fun y1=>match y1 with
    |(i1,common,some_)=>bif some_ then (bif common == 0 then some (.inr 0) else BZ n s l day (LX out common) i1) else BZ n s l day out i1) (fun n=>?_) ?_
   . rw [Gv,R7 h2,Ð,QB hr]
     simp only [Á,g0]
     refine congrArg _ (funext fun y1=>?_)
     obtain⟨i1,common,b⟩:=y1
     simp only [Yk,Á]
     cases b<;>cases common == 0<;>rfl
   . refine e2.bind ?_
     simp only [Bool.false_or]
     cases ha:tw.any (V5 l act) with
     |false=>exact nxt out
     |true =>
      simp only [Ð]
      cases hz:My l (tw.filter (V5 l act)) 4095 == 0 with
      |true=>exact Ev.pure
      |false=>exact nxt _
theorem YO (ok:Sb l s)(hl:s.length<=40)(H:∀ x∈s,Pr x day=act x):Ev (fun n=>IG n l s day) (S7 l act s):=by
 unfold IG S7
 have:=XP ok hl H s.length 0 4095 (by omega) (by omega)
 rw [List.drop_zero] at this
 refine this.bind ?_
 cases KU l act s.length s 4095<;>exact Ev.pure
theorem ga9 {l:List Int}{y:Int}(h:l.length<=1000):Cn 8 l [y]=some (l++[y]):=by
 unfold Cn
 rw [Ç (by simp;omega)]
theorem WO (ok:Sb l s)(hl:s.length<=40)(H:∀ x∈s,Pr x day=act x):∀ (r:List Ac) (k:Nat) (ρ st:Int) (by_:List Int),s.drop k=r->k<=s.length->by_.length<=k->Ev (fun n=>BY n s l day ρ (k:Int) st by_) (YM l act r ρ st by_)
 | [],k,ρ,st,by_,hr,hk,hb=>by
  have he:=LF hr hk
  refine Ev.step (f:=fun n=>some (st,by_)) (fun n=>?_) Ev.pure
  rw [KB,Ë (by omega)];rfl
 |x::r,k,ρ,st,by_,hr,hk,hb=>by
  obtain⟨h1,h2⟩:=GC hr
  have hx:x∈s:=í (i:=k) (by rw [hr];exact â)
  obtain⟨c0,g0,g1,g2,g3⟩:=Aaj (ok x hx)
  have e:∀ n,BY (n+1) s l day ρ (k:Int) st by_=bif c0.Kind == 3||!act x||decide (c0.Rank<ρ) then BY n s l day ρ ((k+1:Nat):Int) st by_ else BY n s l day c0.Rank ((k+1:Nat):Int) (bif st == 0 then c0.Kind else bif st != c0.Kind then 3 else st) (by_++[x.clause]):=fun n=>by
   rw [KB,R7 h2,Ð,QB hr]
   simp only [Á,g0,Pe (show k<4611686018427387904 by omega),S4,H x hx,ga9 (show by_.length<=1000 by omega)]
   cases c0.Kind == 3<;>cases act x<;>cases decide (c0.Rank<ρ)<;>cases st == 0<;>cases st != c0.Kind<;>rfl
  refine Ev.step e ?_
  rw [YM,g1,g2]
  cases c0.Kind == 3||!act x||decide (c0.Rank<ρ) with
  |true=>exact WO ok hl H r (k+1) ρ st by_ h1 (by omega) (by omega)
  |false=>exact WO ok hl H r (k+1) _ _ _ h1 (by omega) (by simp;omega)
theorem T9:∀ (r:List Ac) (ρ st:Int) (by_:List Int),(YM l act r ρ st by_).2.length<=by_.length+r.length
 | [],ρ,st,by_=>by rw [YM];simp
 |x::r,ρ,st,by_=>by
  rw [YM]
  cases Z5 l x == 3||!act x||decide (rk l x<ρ) with
  |true=>have:=T9 r ρ st by_;simp only [Ð,à];omega
  |false=>have:=T9 r (rk l x) (bif st == 0 then Z5 l x else bif st != Z5 l x then 3 else st) (by_++[x.clause]);simp only [Ï,à,Õ,ì] at this ⊢;omega
theorem Af8 (ok:Sb l s)(hl:s.length<=40)(H:∀ x∈s,Pr x day=act x):Ev (fun n=>Je n l s day) (atV l act s):=by
 unfold Je atV
 refine (YO ok hl H).bind ?_
 refine (WO ok hl H s 0 (-1) 0 [] rfl (Ą _) (Þ _)).bind ?_
 have hb:=T9 (l:=l) (act:=act) s (-1) 0 []
 generalize YM l act s (-1) 0 []=y at *
 obtain⟨st,by_⟩:=y
 cases hz:by_.isEmpty with
 |true =>
  have:by_=[]:=List.isEmpty_iff.1 hz
  subst this
  exact Ev.pure
 |false =>
  have hg:Sk by_=some (DT by_):=by
   unfold Sk
   simp only [ì] at hb
   rw [Ç (by omega)]
  simp only [hz,Ï,hg,Á]
  rw [(Dy by_).length_eq]
  simp only [ĉ,Ð]
  exact Ev.pure
end
end Go.Sp
namespace Go.Sp
open Go
set_option maxRecDepth 100000
structure FW where
 rk:Int
 kd:Int
 hs:Int
 act:Bool
 ix:Int
def DD (a:FW):Bool:=a.kd != 3&&a.act
def Ns (a:FW):Bool:=a.kd == 3&&a.act
def CH:List FW->Int
 | []=>-1
 |a::r=>if DD a=true/\CH r<a.rk then a.rk else CH r
def En (I:List FW):List FW:=I.filter fun a=>DD a&&a.rk == CH I
def Xi:Int->List FW->Int
 |st,[]=>st
 |st,a::r=>Xi (bif st == 0 then a.kd else bif st != a.kd then 3 else st) r
def FG (D:List FW):Int:=bif D.any (fun a=>a.kd == 1) then (bif D.any (fun a=>a.kd == 2) then 3 else 1) else bif D.any (fun a=>a.kd == 2) then 2 else 0
def Kz:List FW->Int->Int
 | [],c=>c
 |a::r,c=>Kz r (bits .and .i64 c a.hs)
def IQ (ρ:Int)(I:List FW):List FW:=I.filter fun a=>a.rk == ρ&&Ns a
def MR:Nat->List FW->Int->Int ⊕ Int
 |0,_,out=>.inl out
 |k+1,I,out=>bif (IQ (k:Int) I).isEmpty then MR k I out else bif Kz (IQ (k:Int) I) 4095 == 0 then .inr 0 else MR k I (LX out (Kz (IQ (k:Int) I) 4095))
def Agh:Int ⊕ Int->Int
 |.inl o=>o
 |.inr o=>o
def Bk (I:List FW):Bq:=⟨FG (En I),Agh (MR 10 I 4095),DT ((En I).map (·.ix))⟩
def SI (I:List FW):Prop:=I.Pairwise fun a b=>b.rk<=a.rk
structure E8 (a:FW):Prop where
 rk:0<=a.rk/\a.rk<=9
 kd:1<=a.kd/\a.kd<=3
theorem Nh:∀ I:List FW,(∀ a∈I,E8 a)->-1<=CH I
 | [],_=>by rw [CH];omega
 |a::r,h=>by
  have:=Nh r fun b hb=>h b (è _ hb)
  rw [CH];split<;>omega
theorem LQ:∀ I:List FW,∀ a∈I,DD a=true->a.rk<=CH I
 |b::r,a,ha,hc=>by
  rw [CH]
  rcases List.mem_cons.1 ha with rfl|ha
  . split
    . omega
    . rename_i h
      by_cases h2:CH r<a.rk
      . exact absurd ⟨hc,h2⟩ h
      . omega
  . have:=LQ r a ha hc
    split<;>omega
theorem LP:∀ I:List FW,CH I = -1∨∃ a∈I,DD a=true/\a.rk=CH I
 | []=>.inl rfl
 |b::r=>by
  rw [CH]
  split
  . rename_i h;exact .inr ⟨b,â,h.1,rfl⟩
  . rcases LP r with h|⟨a,h1,h2,h3⟩
    . exact .inl h
    . exact .inr ⟨a,è _ h1,h2,h3⟩
theorem Ps {I J:List FW}(hJ:∀ a∈J,E8 a)(h:∀ a∈I,DD a=true->a∈J):CH I<=CH J:=by
 rcases LP I with e|⟨a,h1,h2,h3⟩
 . rw [e];exact Nh J hJ
 . rw [<- h3];exact LQ J a (h a h1 h2) h2
theorem XR {I J:List FW}(p:I.Perm J)(h:∀ a∈I,E8 a):CH I=CH J :=
 Int.le_antisymm (Ps (fun a ha=>h a (p.mem_iff.2 ha)) fun a ha _=>p.mem_iff.1 ha) (Ps h fun a ha _=>p.mem_iff.2 ha)
theorem Adl:∀ D:List FW,(∀ a∈D,a.kd=1∨a.kd=2)->Xi 3 D=3
 | [],_=>rfl
 |a::r,h=>by
  rw [Xi]
  have:(bif (3:Int) == 0 then a.kd else bif (3:Int) != a.kd then 3 else 3)=3:=by
   rcases h a â with e|e<;>rw [e]<;>rfl
  rw [this];exact Adl r fun b hb=>h b (è _ hb)
theorem Afb:∀ D:List FW,(∀ a∈D,a.kd=1∨a.kd=2)->Xi 1 D=bif D.any (fun a=>a.kd == 2) then 3 else 1
 | [],_=>rfl
 |a::r,h=>by
  rw [Xi,Ě]
  have ih:=Afb r fun b hb=>h b (è _ hb)
  have i3:=Adl r fun b hb=>h b (è _ hb)
  rcases h a â with e|e<;>rw [e]
  . exact ih
  . exact i3
theorem Afa:∀ D:List FW,(∀ a∈D,a.kd=1∨a.kd=2)->Xi 2 D=bif D.any (fun a=>a.kd == 1) then 3 else 2
 | [],_=>rfl
 |a::r,h=>by
  rw [Xi,Ě]
  have ih:=Afa r fun b hb=>h b (è _ hb)
  have i3:=Adl r fun b hb=>h b (è _ hb)
  rcases h a â with e|e<;>rw [e]
  . exact i3
  . exact ih
theorem Agd (D:List FW)(h:∀ a∈D,a.kd=1∨a.kd=2):Xi 0 D=FG D:=by
 cases D with
 |nil=>rfl
 |cons a r =>
  have h1:=Afb r fun b hb=>h b (è _ hb)
  have h2:=Afa r fun b hb=>h b (è _ hb)
  rw [Xi]
  unfold FG
  rw [Ě,Ě]
  rcases h a â with e|e<;>rw [e]
  . exact h1
  . refine h2.trans ?_
    show _=bif (false||r.any fun a=>a.kd == 1) then _ else _
    rw [Bool.false_or];rfl
theorem Vx {α:Type}{p:α->Bool}{I J:List α}(h:I.Perm J):I.any p=J.any p:=by
 rw [Bool.eq_iff_iff,List.any_eq_true,List.any_eq_true]
 exact⟨fun ⟨a,h1,h2⟩=>⟨a,h.mem_iff.1 h1,h2⟩,fun ⟨a,h1,h2⟩=>⟨a,h.mem_iff.2 h1,h2⟩⟩
theorem Uj {D E:List FW}(h:D.Perm E):FG D=FG E:=by
 unfold FG;rw [Vx h,Vx h]
theorem Sv {I J:List FW}(p:I.Perm J)(h:∀ a∈I,E8 a):(En I).Perm (En J):=by
 unfold En
 rw [XR p h]
 exact p.filter _
def atI:List FW->Int->Int->List Int->Int×List Int
 | [],_,st,by_=>(st,by_)
 |a::r,ρ,st,by_=>bif a.kd == 3||!a.act||decide (a.rk<ρ) then atI r ρ st by_ else atI r a.rk (bif st == 0 then a.kd else bif st != a.kd then 3 else st) (by_++[a.ix])
theorem Adb (ρ:Int):∀ (I:List FW) (st:Int) (by_:List Int),(∀ a∈I,a.rk<=ρ)->atI I ρ st by_=(Xi st (I.filter fun a=>DD a&&a.rk == ρ),by_++(I.filter fun a=>DD a&&a.rk == ρ).map (·.ix))
 | [],st,by_,_=>by simp [atI,Xi]
 |a::r,st,by_,h=>by
  have ih:=fun st by_=>Adb ρ r st by_ fun b hb=>h b (è _ hb)
  have ha:=h a â
  rw [atI]
  cases hc:DD a&&a.rk == ρ with
  |true =>
   rw [ĥ (p:=fun b:FW=>DD b&&b.rk == ρ) hc,Xi,Ý]
   rw [Ä] at hc
   have e:a.rk=ρ:=by simpa using hc.2
   have hk:(a.kd == 3||!a.act||decide (a.rk<ρ))=false:=by
    have h1:=hc.1
    unfold DD at h1
    rw [Ë (by omega)]
    cases hk:a.kd == 3<;>cases ha:a.act<;>simp_all
   rw [hk,Ï,e,ih,ï];rfl
  |false =>
   rw [List.filter_cons_of_neg (p:=fun b:FW=>DD b&&b.rk == ρ) (by simp [hc])]
   have hk:(a.kd == 3||!a.act||decide (a.rk<ρ))=true:=by
    by_cases hr:a.rk=ρ
    . have:DD a=false:=by
       cases h1:DD a with
       |false=>rfl
       |true=>rw [h1,hr] at hc;simp at hc
      unfold DD at this
      cases hk:a.kd == 3<;>cases ha:a.act<;>simp_all
    . rw [Í (by omega)];simp
   rw [hk,Ð];exact ih st by_
theorem Adc:∀ (I:List FW),SI I->(∀ a∈I,E8 a)->atI I (-1) 0 []=(Xi 0 (En I),(En I).map (·.ix))
 | [],_,_=>rfl
 |a::r,hs,hf=>by
  have hs1:=List.pairwise_cons.1 hs
  have ih:=Adc r hs1.2 fun b hb=>hf b (è _ hb)
  have fa:=hf a â
  have frk:=fa.rk
  rw [atI]
  cases hc:DD a with
  |false =>
   have hk:(a.kd == 3||!a.act||decide (a.rk < -1))=true:=by
    unfold DD at hc
    cases hk:a.kd == 3<;>cases ha:a.act<;>simp_all
   have ht:CH (a::r)=CH r:=by rw [CH,hc];simp
   rw [hk,Ð,ih]
   unfold En
   rw [ht,List.filter_cons_of_neg (by simp [hc])]
  |true =>
   have hk:(a.kd == 3||!a.act||decide (a.rk < -1))=false:=by
    rw [Ë (by omega)]
    unfold DD at hc
    cases hk:a.kd == 3<;>cases ha:a.act<;>simp_all
   have ht:CH (a::r)=a.rk:=by
    have h1:=LQ (a::r) a â hc
    rcases LP (a::r) with e|⟨b,h2,_,h3⟩
    . omega
    . rcases List.mem_cons.1 h2 with rfl|h2
      . exact h3.symm
      . have:=hs1.1 b h2;omega
   rw [hk,Ï,Adb a.rk r _ _ hs1.1]
   unfold En
   rw [ht,ĥ (by rw [hc];simp),Xi];rfl
theorem XE (x:Int):BitVec.ofInt 64 (À x)=BitVec.ofInt 64 x:=by
 apply BitVec.eq_of_toInt_eq
 rw [BitVec.toInt_ofInt,BitVec.toInt_ofInt];unfold À;rw [IntKind.wrap_i64]
 simp only [Int.bmod]
 split<;>split<;>omega
theorem Aak (x:BitVec 64):BitVec.ofInt 64 (x.toNat:Int)=x:=by
 rw [BitVec.ofInt_natCast,BitVec.ofNat_toNat,BitVec.setWidth_eq]
theorem Aap (c a b:Int):bits .and .i64 (bits .and .i64 c a) b=bits .and .i64 (bits .and .i64 c b) a:=by
 show À ((BitVec.ofInt 64 (À ((BitVec.ofInt 64 c &&& BitVec.ofInt 64 a).toNat:Int)) &&& BitVec.ofInt 64 b).toNat:Int)=À ((BitVec.ofInt 64 (À ((BitVec.ofInt 64 c &&& BitVec.ofInt 64 b).toNat:Int)) &&& BitVec.ofInt 64 a).toNat:Int)
 rw [XE,XE,Aak,Aak,BitVec.and_assoc,BitVec.and_assoc,BitVec.and_comm (BitVec.ofInt 64 a)]
theorem YI {D E:List FW}(h:D.Perm E):∀ c,Kz D c=Kz E c:=by
 induction h with
 |nil=>exact fun _=>rfl
 |cons a _ ih=>exact fun c=>by rw [Kz,Kz];exact ih _
 |swap a b r=>exact fun c=>by rw [Kz,Kz,Kz,Kz,Aap]
 |trans _ _ h1 h2=>exact fun c=>(h1 c).trans (h2 c)
theorem Yu {I J:List FW}(ρ:Int)(h:I.Perm J):(IQ ρ I).Perm (IQ ρ J):=h.filter _
theorem Ow {I J:List FW}:∀ (k:Nat),(∀ j:Nat,j<k->(IQ (j:Int) I).Perm (IQ (j:Int) J))->∀ out,MR k I out=MR k J out
 |0,_,_=>rfl
 |k+1,h,out=>by
  have ih:=Ow k fun j hj=>h j (by omega)
  have p:=h k (by omega)
  have e:(IQ (k:Int) I).isEmpty=(IQ (k:Int) J).isEmpty:=by rw [Bool.eq_iff_iff,List.isEmpty_iff,List.isEmpty_iff];exact⟨fun h=>by rw [h] at p;exact p.nil_eq.symm,fun h=>by rw [h] at p;exact p.eq_nil⟩
  rw [MR,MR,e,YI p,ih out,ih]
def NP:Nat->List FW->Int->Int ⊕ Int
 |_,[],out=>.inl out
 |0,_::_,out=>.inl out
 |m+1,a::r,out =>
  bif ((a::r).takeWhile (fun b=>b.rk == a.rk)).any Ns then
   (bif Kz (((a::r).takeWhile (fun b=>b.rk == a.rk)).filter Ns) 4095 == 0 then .inr 0
   else NP m ((a::r).dropWhile (fun b=>b.rk == a.rk)) (LX out (Kz (((a::r).takeWhile (fun b=>b.rk == a.rk)).filter Ns) 4095)))
  else NP m ((a::r).dropWhile (fun b=>b.rk == a.rk)) out
theorem Ua {ρ:Int}:∀ I:List FW,SI I->(∀ a∈I,a.rk<=ρ)->(I.takeWhile fun b=>b.rk == ρ).filter Ns=IQ ρ I/\(∀ a∈I.dropWhile (fun b=>b.rk == ρ),a.rk<ρ)/\SI (I.dropWhile fun b=>b.rk == ρ)/\(∀ a∈I.dropWhile (fun b=>b.rk == ρ),a∈I)/\∀ j:Int,j<ρ->IQ j (I.dropWhile fun b=>b.rk == ρ)=IQ j I
 | [],_,_=>⟨rfl,fun a ha=>by simp at ha,.nil,fun a ha=>by simp at ha,fun _ _=>rfl⟩
 |a::r,hs,hm=>by
  have hs1:=List.pairwise_cons.1 hs
  obtain⟨i1,i2,i3,i4,i5⟩:=Ua r hs1.2 fun b hb=>hm b (è _ hb)
  have ha:=hm a â
  cases hc:a.rk == ρ with
  |true =>
   have e:a.rk=ρ:=by simpa using hc
   rw [Ė,ģ,hc]
   simp only [ø]
   refine⟨?_,i2,i3,fun b hb=>è _ (i4 b hb),fun j hj=>?_⟩
   . unfold IQ at i1 ⊢
     rw [List.filter_cons,List.filter_cons,i1,hc,Bool.true_and]
   . rw [i5 j hj]
     unfold IQ
     rw [List.filter_cons_of_neg (by simp;omega)]
  |false =>
   have e:a.rk<ρ:=by
    have:a.rk≠ρ:=by simpa using hc
    omega
   rw [Ė,ģ,hc]
   simp only [ç,Ā]
   refine⟨?_,fun b hb=>?_,hs,fun b hb=>hb,fun _ _=>trivial⟩
   . unfold IQ
     rw [List.filter_nil,eq_comm,ė]
     intro b hb
     rcases List.mem_cons.1 hb with rfl|hb
     . simp [hc]
     . have:=hs1.1 b hb
       simp;omega
   . rcases List.mem_cons.1 hb with rfl|hb
     . exact e
     . have:=hs1.1 b hb;omega
theorem LO:∀ (k m:Nat) (I:List FW) (out:Int),SI I->(∀ a∈I,0<=a.rk/\a.rk<(k:Int))->I.length<=m->NP m I out=MR k I out
 |0,m,I,out,_,h,_=>by
  cases I with
  |nil=>cases m<;>rfl
  |cons a r=>have:=h a â;omega
 |k+1,m,I,out,hs,h,hm=>by
  cases I with
  |nil =>
   have:=LO k m [] out hs (fun a ha=>by cases ha) hm
   rw [this];rfl
  |cons a r =>
   have ha:=h a â
   by_cases hk:a.rk=(k:Int)
   . cases m with
     |zero=>simp at hm
     |succ m =>
      have hle:∀ b∈a::r,b.rk<=(k:Int):=fun b hb=>by have:=h b hb;omega
      obtain⟨i1,i2,i3,i4,i5⟩:=Ua (a::r) hs hle
      have hdl:((a::r).dropWhile fun b=>b.rk == (k:Int)).length<=m:=by
       have:(a::r).dropWhile (fun b=>b.rk == (k:Int))=r.dropWhile (fun b=>b.rk == (k:Int)):=by rw [ģ,hk];simp
       rw [this]
       have:=(List.dropWhile_sublist (l:=r) fun b=>b.rk == (k:Int)).length_le
       simp at hm;omega
      have ih:=fun o=>LO k m _ o i3 (fun b hb=>⟨(h b (i4 b hb)).1,i2 b hb⟩) hdl
      have sm:=fun o=>Ow (I:=(a::r).dropWhile fun b=>b.rk == (k:Int)) (J:=a::r) k (fun j hj=>by rw [i5 j (by omega)]) o
      have hany:((a::r).takeWhile fun b=>b.rk == (k:Int)).any Ns = !(IQ (k:Int) (a::r)).isEmpty:=by
       rw [<- i1,Bool.eq_iff_iff,List.any_eq_true,å,<- Bool.not_eq_true,List.isEmpty_iff,ė]
       exact⟨fun ⟨b,h1,h2⟩ h3=>h3 b h1 h2,fun h3=>by
        apply Classical.byContradiction
        intro h4
        exact h3 fun b hb hp=>h4 ⟨b,hb,hp⟩⟩
      rw [NP,MR,hk,hany,i1,ih,ih,sm,sm]
      cases (IQ (k:Int) (a::r)).isEmpty<;>rfl
   . have hle:∀ b∈a::r,b.rk<(k:Int):=fun b hb=>by
      rcases List.mem_cons.1 hb with rfl|hb
      . have:=ha.2;omega
      . have:=(List.pairwise_cons.1 hs).1 b hb
        have:=ha.2
        omega
     have hg:IQ (k:Int) (a::r)=[]:=by
      unfold IQ
      rw [ė]
      intro b hb
      have:=hle b hb
      simp;omega
     rw [MR,hg,LO k m (a::r) out hs (fun b hb=>⟨(h b hb).1,hle b hb⟩) hm];rfl
theorem Q1 {a b:List Int}(h:a.Perm b):DT a=DT b :=
 List.Perm.eq_of_pairwise (le:=fun x y:Int=>x<=y) (fun _ _ _ _ h1 h2=>Int.le_antisymm h1 h2) (Fc a) (Fc b) (((Dy a).trans h).trans (Dy b).symm)
theorem QR {I J:List FW}(p:I.Perm J)(h:∀ a∈I,E8 a):Bk I=Bk J:=by
 unfold Bk
 rw [Uj (Sv p h),Q1 ((Sv p h).map _),Ow 10 (fun j _=>Yu _ p)]
section
variable (l:List Aa) (act:Ac->Bool)
def N2 (x:Ac):FW:=⟨rk l x,Z5 l x,hsC l x,act x,x.clause⟩
theorem TA:∀ (s:List Ac) (ρ st:Int) (b:List Int),YM l act s ρ st b=atI (s.map (N2 l act)) ρ st b
 | [],_,_,_=>rfl
 |x::r,ρ,st,b=>by
  rw [YM,Ý,atI,TA r,TA r];rfl
theorem Sm:∀ (s:List Ac) (c:Int),My l s c=Kz (s.map (N2 l act)) c
 | [],_=>rfl
 |x::r,c=>by rw [My,Ý,Kz,Sm r];rfl
theorem MK {α β:Type}(f:α->β)(p:α->Bool)(q:β->Bool)(h:∀ x,p x=q (f x)):∀ s:List α,(s.takeWhile p).map f=(s.map f).takeWhile q/\(s.dropWhile p).map f=(s.map f).dropWhile q/\(s.filter p).map f=(s.map f).filter q/\s.any p=(s.map f).any q
 | []=>⟨rfl,rfl,rfl,rfl⟩
 |x::r=>by
  obtain⟨h1,h2,h3,h4⟩:=MK f p q h r
  rw [Ý,Ė,Ė,ģ,ģ,List.filter_cons,List.filter_cons,Ě,Ě,<- h x,<- h4]
  cases p x
  . exact⟨rfl,rfl,h3,rfl⟩
  . exact⟨by simp [h1],by simp [h2],by simp [h3],rfl⟩
theorem M4:∀ (m:Nat) (s:List Ac) (out:Int),KU l act m s out=NP m (s.map (N2 l act)) out
 |0,[],_=>rfl
 |0,_::_,_=>rfl
 |m+1,[],_=>rfl
 |m+1,x::r,out=>by
  obtain⟨h1,h2,_,_⟩:=MK (N2 l act) (EA l (rk l x)) (fun b:FW=>b.rk == rk l x) (fun _=>rfl) (x::r)
  obtain⟨_,_,h3,h4⟩:=MK (N2 l act) (V5 l act) Ns (fun _=>rfl) ((x::r).takeWhile (EA l (rk l x)))
  rw [KU,Ý,NP,M4 m,M4 m,Sm l act,h3,h4,h1,h2]
  rfl
end
theorem SR.itm {l:List Aa}{act:Ac->Bool}{s:List Ac}(h:SR l s 0 s.length):SI (s.map (N2 l act)):=by
 unfold SI
 rw [List.pairwise_map,List.pairwise_iff_getElem]
 intro i j hi hj hij
 have:=h i j (Ą _) hij hj
 unfold GF at this
 rw [Ã hi,Ã hj] at this
 exact this
theorem Aex {l:List Aa}{act:Ac->Bool}{s:List Ac}(h:SR l s 0 s.length)(hf:∀ a∈s.map (N2 l act),E8 a):atV l act s=Bk (s.map (N2 l act)):=by
 have hd:∀ a∈En (s.map (N2 l act)),a.kd=1∨a.kd=2:=fun a ha=>by
  unfold En at ha
  obtain⟨h1,h2⟩:=List.mem_filter.1 ha
  have:=(hf a h1).kd
  rw [Ä] at h2
  have h3:=h2.1
  unfold DD at h3
  have:a.kd≠3:=by simp at h3;exact h3.1
  omega
 unfold atV S7 Bk
 rw [TA,Adc _ h.itm hf,Agd _ hd,M4,LO 10 _ _ _ h.itm (fun a ha=>⟨(hf a ha).rk.1,by have:=(hf a ha).rk.2;omega⟩) (by simp)]
 cases MR 10 (s.map (N2 l act)) 4095<;>rfl
def BX (d:Am)(known t:Int):List Aa->Nat->List FW
 | [],_=>[]
 |c::r,k=>(if Rh d known c=true then [⟨c.Rank,c.Kind,c.Houses,decide (Md ⟨d,known⟩ c.From<=t/\t<=Md ⟨d,known⟩ c.To),(k:Int)⟩] else [])++BX d known t r (k+1)
theorem Ti {l:List Aa}{d:Am}{known t:Int}:∀ (r:List Aa) (k:Nat),l.drop k=r->(KO d known r k).map (N2 l fun x=>Pr x t)=BX d known t r k
 | [],_,_=>rfl
 |c::r,k,h=>by
  obtain⟨h1,h2⟩:=GC h
  rw [KO,BX,ü,Ti r (k+1) h1]
  congr 1
  split
  . have g:gi l (k:Int)=some c:=QB h
    unfold N2 rk Z5 hsC
    simp only [Ý,ñ,g];rfl
  . rfl
theorem J9 {d:Am}{known t:Int}:∀ (r:List Aa) (k:Nat),(∀ c∈r,Rt c)->∀ a∈BX d known t r k,E8 a
 | [],_,_,a,ha=>by cases ha
 |c::r,k,h,a,ha=>by
  rw [BX,List.mem_append] at ha
  rcases ha with ha|ha
  . split at ha
    . rw [ē] at ha
      subst ha
      have:=h c â
      exact⟨this.rank,this.kind⟩
    . cases ha
  . exact J9 r (k+1) (fun c hc=>h c (è _ hc)) a ha
theorem Aae {l:List Aa}{d:Am}{known t:Int}{s:List Ac}(h:Aa4 l d known s)(hf:∀ c∈l,Rt c):atV l (fun x=>Pr x t) s=Bk (BX d known t l 0):=by
 have e:=Ti (l:=l) (d:=d) (known:=known) (t:=t) l 0 rfl
 have p:=h.perm.map (N2 l fun x=>Pr x t)
 rw [e] at p
 have hfi:∀ a∈s.map (N2 l fun x=>Pr x t),E8 a:=fun a ha=>J9 l 0 hf a (p.mem_iff.1 ha)
 rw [Aex h.sorted hfi]
 exact QR p hfi
end Go.Sp
namespace Go.Sp
open Go
set_option maxRecDepth 100000
theorem QW (ks:List Aa)(c:Aa):Cc ks c=0↔Cc [] c=0/\∀ p∈ks,p.Name≠c.Name:=by
 have hn:Gt ks c.Name=false↔∀ p∈ks,p.Name≠c.Name:=by
  unfold Gt
  rw [<- Bool.not_eq_true,List.any_eq_true]
  exact⟨fun h p hp e=>h ⟨p,hp,by simpa using e⟩,fun h ⟨p,hp,e⟩=>h p hp (by simpa using e)⟩
 have h0:Gt [] c.Name=false:=rfl
 unfold Cc
 rw [h0,<- hn]
 by_cases h1:Mb c.Name=false
 . rw [Ç h1,Ç h1];simp
 . rw [Å h1,Å h1,Å (show ¬ (false=true) by decide)]
   cases hk:Gt ks c.Name with
   |true=>rw [Ç rfl];simp
   |false=>rw [Å (show ¬ (false=true) by decide)];simp
theorem NF {l:List Aa}:∀ (r:List Aa) (k:Nat),l.drop k=r->(DY l r k=0↔(∀ c∈r,Cc [] c=0)/\(∀ c∈r,∀ p∈l.take k,p.Name≠c.Name)/\r.Pairwise fun p c=>p.Name≠c.Name)
 | [],k,_=>by simp [DY]
 |x::r,k,h=>by
  obtain⟨h1,h2⟩:=GC h
  have ih:=NF r (k+1) h1
  have tk:l.take (k+1)=l.take k++[x]:=by
   rw [List.take_add_one]
   have:=QB h
   rw [giN] at this
   rw [this];rfl
  rw [DY]
  by_cases hc:Cc (l.take k) x=0
  . rw [Å (by simpa using hc),ih,tk]
    obtain⟨c1,c2⟩:=(QW _ _).1 hc
    constructor
    . rintro⟨a1,a2,a3⟩
      refine⟨fun c hc=>?_,fun c hc p hp=>?_,List.pairwise_cons.2 ⟨fun c hc=>a2 c hc x (Ē _ â),a3⟩⟩
      . rcases List.mem_cons.1 hc with rfl|hc
        . exact c1
        . exact a1 c hc
      . rcases List.mem_cons.1 hc with rfl|hc
        . exact c2 p hp
        . exact a2 c hc p (Ĉ _ hp)
    . rintro⟨a1,a2,a3⟩
      have a3:=List.pairwise_cons.1 a3
      refine⟨fun c hc=>a1 c (è _ hc),fun c hm p hp=>?_,a3.2⟩
      rcases List.mem_append.1 hp with hp|hp
      . exact a2 c (è _ hm) p hp
      . rw [ē] at hp;subst hp;exact a3.1 c hm
  . rw [Ç hc]
    refine⟨fun e=>absurd e hc,fun ⟨a1,a2,_⟩=>?_⟩
    exact absurd ((QW _ _).2 ⟨a1 x â,a2 x â⟩) hc
theorem Mi (l:List Aa):C6 l=0↔l.length<=40/\(∀ c∈l,Cc [] c=0)/\l.Pairwise fun p c=>p.Name≠c.Name:=by
 unfold C6
 by_cases h:40<l.length
 . rw [Ç h];constructor
   . intro e;cases e
   . intro e;omega
 . rw [Å h,NF l 0 rfl]
   simp only [List.take_zero,List.not_mem_nil,false_implies,implies_true,ô]
   exact⟨fun a=>⟨by omega,a⟩,fun a=>a.2⟩
theorem WH {l r:List Aa}(h:C6 l=0)(hs:r.Sublist l):C6 r=0:=by
 obtain⟨h1,h2,h3⟩:=(Mi l).1 h
 exact (Mi r).2 ⟨Ĕ hs.length_le h1,fun c hc=>h2 c (hs.mem hc),h3.sublist hs⟩
theorem WI {l:List Aa}(h:C6 l=0):C6 l.reverse=0:=by
 obtain⟨h1,h2,h3⟩:=(Mi l).1 h
 refine (Mi _).2 ⟨by rw [List.length_reverse];exact h1,fun c hc=>h2 c (List.mem_reverse.1 hc),?_⟩
 rw [List.pairwise_reverse]
 exact h3.imp fun h=>h.symm
def Jr (f:Int->Int)(a:FW):FW:=⟨a.rk,a.kd,a.hs,a.act,f a.ix⟩
section
variable (f:Int->Int)
theorem Uc:∀ I:List FW,CH (I.map (Jr f))=CH I
 | []=>rfl
 |a::r=>by rw [Ý,CH,CH,Uc r];rfl
theorem Aag (I:List FW):En (I.map (Jr f))=(En I).map (Jr f):=by
 unfold En
 rw [Uc]
 exact (MK (Jr f) (fun a:FW=>DD a&&a.rk == CH I) (fun a:FW=>DD a&&a.rk == CH I) (fun _=>rfl) I).2.2.1.symm
theorem VJ (D:List FW):FG (D.map (Jr f))=FG D:=by
 unfold FG
 rw [<- (MK (Jr f) (fun a:FW=>a.kd == 1) (fun a:FW=>a.kd == 1) (fun _=>rfl) D).2.2.2,<- (MK (Jr f) (fun a:FW=>a.kd == 2) (fun a:FW=>a.kd == 2) (fun _=>rfl) D).2.2.2]
theorem Vz:∀ (D:List FW) (c:Int),Kz (D.map (Jr f)) c=Kz D c
 | [],_=>rfl
 |a::r,c=>by rw [Ý,Kz,Kz,Vz r];rfl
theorem ZD (ρ:Int)(I:List FW):IQ ρ (I.map (Jr f))=(IQ ρ I).map (Jr f) :=
 (MK (Jr f) (fun a:FW=>a.rk == ρ&&Ns a) (fun a:FW=>a.rk == ρ&&Ns a) (fun _=>rfl) I).2.2.1.symm
theorem Q8 (I:List FW):∀ (k:Nat) (out:Int),MR k (I.map (Jr f)) out=MR k I out
 |0,_=>rfl
 |k+1,out=>by
  rw [MR,MR,ZD,Vz,Q8 I k,Q8 I k]
  cases IQ (k:Int) I<;>rfl
theorem Y7 (I:List FW):Bk (I.map (Jr f))=⟨(Bk I).State,(Bk I).Houses,DT (((En I).map (·.ix)).map f)⟩:=by
 unfold Bk
 rw [Aag,VJ,Q8,List.map_map,List.map_map];rfl
end
section
variable {d:Am} {known t:Int}
theorem Q0:∀ (a b:List Aa) (k:Nat),BX d known t (a++b) k=BX d known t a k++BX d known t b (k+a.length)
 | [],b,k=>rfl
 |c::a,b,k=>by
  rw [List.cons_append,BX,BX,Q0 a b (k+1),ï]
  have:k+1+a.length=k+(c::a).length:=by rw [à];omega
  rw [this]
theorem Qz:∀ (r:List Aa) (k:Nat),BX d known t r (k+1)=(BX d known t r k).map (Jr fun i=>i+1)
 | [],_=>rfl
 |c::r,k=>by
  rw [BX,BX,ü,Qz r (k+1)]
  congr 1
  split<;>rfl
theorem X1:∀ (r:List Aa) (k:Nat),∀ a∈BX d known t r k,∃ i c,r[i]?=some c/\a.ix=((k+i:Nat):Int)/\a.rk=c.Rank
 | [],_,a,ha=>by cases ha
 |c::r,k,a,ha=>by
  rw [BX,List.mem_append] at ha
  rcases ha with ha|ha
  . split at ha
    . rw [ē] at ha
      subst ha
      exact⟨0,c,rfl,rfl,rfl⟩
    . cases ha
  . obtain⟨i,e,h1,h2,h3⟩:=X1 r (k+1) a ha
    exact⟨i+1,e,h1,by rw [h2];congr 1;omega,h3⟩
theorem UK:∀ r:List Aa,(BX d known t r.reverse 0).Perm ((BX d known t r 0).map (Jr fun i=>(r.length:Int)-1-i))
 | []=>.refl _
 |c::r=>by
  rw [List.reverse_cons,Q0,List.length_reverse,î]
  have e:BX d known t (c::r) 0=BX d known t [c] 0++BX d known t r (0+1):=by rw [BX,BX,BX,ă]
  rw [e,ü,Qz,List.map_map]
  have e1:(BX d known t [c] 0).map (Jr fun i=>((c::r).length:Int)-1-i)=BX d known t [c] r.length:=by
   rw [BX,BX,BX,BX,ă,ă]
   split
   . simp [Jr]
   . rfl
  have e2:(Jr fun i=>((c::r).length:Int)-1-i)∘(Jr fun i=>i+1)=Jr fun i=>(r.length:Int)-1-i:=by
   funext a
   simp only [Function.comp,Jr,à]
   congr 1
   omega
  rw [e1,e2]
  exact ((UK r).append_right _).trans List.perm_append_comm
end
theorem PK {I T:List FW}(hI:∀ a∈I,E8 a)(hT:∀ a∈T,E8 a):CH (I++T)=max (CH I) (CH T):=by
 have hf:∀ a∈I++T,E8 a:=fun a ha=>(List.mem_append.1 ha).elim (hI a) (hT a)
 have h1:=Ps (I:=I) hf fun a ha _=>Ĉ _ ha
 have h2:=Ps (I:=T) hf fun a ha _=>Ē _ ha
 rcases LP (I++T) with e|⟨a,h3,h4,h5⟩
 . have:=Nh I hI;have:=Nh T hT;omega
 . rcases List.mem_append.1 h3 with h3|h3
   . have:=LQ I a h3 h4;omega
   . have:=LQ T a h3 h4;omega
theorem YA {I T:List FW}(hI:∀ a∈I,E8 a)(hT:∀ a∈T,E8 a)(h:∀ a∈T,DD a=false∨a.rk<CH I):En (I++T)=En I:=by
 have hl:=Nh I hI
 have e:CH (I++T)=CH I:=by
  rw [PK hI hT]
  rcases LP T with e|⟨a,h1,h2,h3⟩
  . omega
  . rcases h a h1 with h4|h4
    . rw [h4] at h2;cases h2
    . omega
 unfold En
 rw [e,Ć]
 have:T.filter (fun a=>DD a&&a.rk == CH I)=[]:=by
  rw [ė]
  intro a ha
  rcases h a ha with h1|h1
  . simp [h1]
  . have:a.rk≠CH I:=by omega
    simp [this]
 rw [this,ă]
theorem Ud {m:FW}(h:DD m=true)(hm:E8 m):CH [m]=m.rk:=by
 rw [CH,CH,Ç ⟨h,by have:=hm.rk;omega⟩]
theorem YB {I:List FW}{m:FW}(hI:∀ a∈I,E8 a)(hm:E8 m)(hc:DD m=true)(h:CH I<m.rk):En (I++[m])=[m]:=by
 have hT:∀ a∈[m],E8 a:=fun a ha=>by rw [ē] at ha;subst ha;exact hm
 have e:CH (I++[m])=m.rk:=by rw [PK hI hT,Ud hc hm];omega
 unfold En
 rw [e,Ć]
 have h1:I.filter (fun a=>DD a&&a.rk == m.rk)=[]:=by
  rw [ė]
  intro a ha hp
  rw [Ä] at hp
  have h2:=LQ I a ha hp.1
  have h3:a.rk=m.rk:=by simpa using hp.2
  omega
 rw [h1,ý,ĥ (by rw [hc];simp),List.filter_nil]
theorem Acn {I:List FW}{m:FW}(hI:∀ a∈I,E8 a)(hm:E8 m)(hc:DD m=true)(h:m.rk=CH I):En (I++[m])=En I++[m]:=by
 have hT:∀ a∈[m],E8 a:=fun a ha=>by rw [ē] at ha;subst ha;exact hm
 have e:CH (I++[m])=CH I:=by rw [PK hI hT,Ud hc hm];omega
 unfold En
 rw [e,Ć,ĥ (by rw [hc,h];simp),List.filter_nil]
theorem Acm {I:List FW}(hI:∀ a∈I,E8 a):∀ a∈En I,(a.kd=1∨a.kd=2)/\a.rk=CH I/\a∈I:=fun a ha=>by
 unfold En at ha
 obtain⟨h1,h2⟩:=List.mem_filter.1 ha
 rw [Ä] at h2
 have h3:=h2.1
 unfold DD at h3
 have:a.kd≠3:=by simp at h3;exact h3.1
 have:=(hI a h1).kd
 exact⟨by omega,by simpa using h2.2,h1⟩
theorem Vn {I:List FW}:En I=[]->CH I = -1:=fun h=>by
 rcases LP I with e|⟨a,h1,h2,h3⟩
 . exact e
 . have:a∈En I:=by
    unfold En
    rw [List.mem_filter]
    exact⟨h1,by rw [h2,h3];simp⟩
   rw [h] at this;cases this
theorem VK {D:List FW}{m:FW}(hD:∀ a∈D,a.kd=1∨a.kd=2)(hm:m.kd=1∨m.kd=2)(hn:D≠[])(h:FG D≠m.kd):FG (D++[m])=3:=by
 have hpq:(D.any (fun a=>a.kd == 1)||D.any (fun a=>a.kd == 2))=true:=by
  cases D with
  |nil=>exact absurd rfl hn
  |cons a r =>
   rw [Ě,Ě]
   rcases hD a â with e|e<;>rw [e]<;>simp
 unfold FG at h ⊢
 rw [List.any_append,List.any_append]
 rcases hm with e|e<;>rw [e] at h
 . have e1:[m].any (fun a=>a.kd == 1)=true:=by simp [e]
   have e2:[m].any (fun a=>a.kd == 2)=false:=by simp [e]
   rw [e1,e2]
   cases hp:D.any (fun a=>a.kd == 1)<;>cases hq:D.any (fun a=>a.kd == 2)<;>simp_all
 . have e1:[m].any (fun a=>a.kd == 1)=false:=by simp [e]
   have e2:[m].any (fun a=>a.kd == 2)=true:=by simp [e]
   rw [e1,e2]
   cases hp:D.any (fun a=>a.kd == 1)<;>cases hq:D.any (fun a=>a.kd == 2)<;>simp_all
theorem Kk (l:List Int):(DT l).length=l.length:=(Dy l).length_eq
theorem UL (N:Int)(l:List Int):DT (l.map fun i=>N-i)=((DT l).map fun i=>N-i).reverse:=by
 refine List.Perm.eq_of_pairwise (le:=fun x y:Int=>x<=y) (fun _ _ _ _ h1 h2=>Int.le_antisymm h1 h2) (Fc _) ?_ ((Dy _).trans (((Dy l).symm.map _).trans (List.reverse_perm _).symm))
 rw [List.pairwise_reverse,List.pairwise_map]
 exact (Fc l).imp fun h=>by omega
end Go.Sp
namespace Go.Sp
open Go
set_option maxRecDepth 100000
def Af4 (l:List Aa)(s:List Ac)(t:Int):Bq:=atV l (fun x=>Pr x t) s
end Go.Sp
namespace Go.Sp
open Go
set_option maxRecDepth 100000
theorem SL:Un=some true:=by kernel_rfl
end Go.Sp
namespace Go.Sp
open Go
set_option maxRecDepth 100000
theorem ZT (l:List Aa)(d:Am):∃ b,Ev (fun n=>Il n l d) b/\(b=true->(∀ c∈l,HO c)/\(d.Facts.length<=30∨200<d.Facts.length)):=by
 have h:=Aen l 300 (by decide) (by decide)
 by_cases c:l.length<=50/\0<=L6 l 300
 . rw [Í c] at h
   refine⟨decide (d.Facts.length<=30∨200<d.Facts.length/\d.Facts.length<205),?_,fun e=>?_⟩
   . unfold Il
     refine Ev.bind (h.bind (b:=decide (d.Facts.length<=30∨200<d.Facts.length/\d.Facts.length<205)) (g:=fun _ f=>bif f then (bif (decide ((d.Facts.length:Int)<=30)) then some true else bif (decide (200<(d.Facts.length:Int))) then some (decide ((d.Facts.length:Int)<205)) else some false) else some false) ?_) Ev.pure
     simp only [Ð]
     by_cases c1:d.Facts.length<=30
     . rw [Í (show (d.Facts.length:Int)<=30 by omega),Í (show d.Facts.length<=30∨200<d.Facts.length/\d.Facts.length<205 from .inl c1)];exact Ev.pure
     . rw [Ë (show ¬ (d.Facts.length:Int)<=30 by omega)]
       by_cases c2:200<d.Facts.length
       . rw [Í (show (200:Int)<(d.Facts.length:Int) by omega)]
         by_cases c3:d.Facts.length<205
         . rw [Í (show (d.Facts.length:Int)<205 by omega),Í (show d.Facts.length<=30∨200<d.Facts.length/\d.Facts.length<205 from .inr ⟨c2,c3⟩)];exact Ev.pure
         . rw [Ë (show ¬ (d.Facts.length:Int)<205 by omega),Ë (show ¬ (d.Facts.length<=30∨200<d.Facts.length/\d.Facts.length<205) by omega)];exact Ev.pure
       . rw [Ë (show ¬ (200:Int)<(d.Facts.length:Int) by omega),Ë (show ¬ (d.Facts.length<=30∨200<d.Facts.length/\d.Facts.length<205) by omega)];exact Ev.pure
   . have:=þ e
     exact⟨QK l 300 c.2 (by decide),by omega⟩
 . rw [Ë c] at h
   refine⟨false,?_,fun e=>by cases e⟩
   unfold Il
   exact Ev.bind (h.bind (b:=false) (g:=fun _ f=>bif f then (bif (decide ((d.Facts.length:Int)<=30)) then some true else bif (decide (200<(d.Facts.length:Int))) then some (decide ((d.Facts.length:Int)<205)) else some false) else some false) Ev.pure) Ev.pure
section
variable {l:List Aa} {d:Am} {known:Int} {s:List Ac}
theorem Aew (h:Aa4 l d known s)(e:Ev (fun n=>C5 n l d known) (s,0)){t:Int}(h0:0<=t)(h1:t<=41666):Ev (fun n=>FU n l d t known) (Af4 l s t,0):=by
 unfold FU
 refine e.bind ?_
 simp only [ù,Ï,Ë (show ¬ t<0 by omega),Ë (show ¬ 41666<t by omega),Á]
 exact (Af8 h.ok h.len fun _ _=>rfl).bind Ev.pure
theorem Aeu (e:Ev (fun n=>C5 n l d known) (s,0)){t:Int}(h0:t<0∨41666<t):Ev (fun n=>FU n l d t known) (⟨0,0,[]⟩,1):=by
 unfold FU
 refine e.bind ?_
 simp only [ù,Ï]
 by_cases c:t<0
 . simp only [Í c,Ð,Á];exact Ev.pure
 . simp only [Ë c,Ï,Á,Í (show 41666<t by omega),Ð];exact Ev.pure
theorem Aev {x:Int}(hx:x≠0)(e:Ev (fun n=>C5 n l d known) ([],x))(t:Int):Ev (fun n=>FU n l d t known) (⟨0,0,[]⟩,x):=by
 unfold FU
 refine e.bind ?_
 rw [show (x != 0)=true by simpa using hx]
 exact Ev.pure
end
end Go.Sp
namespace Go.Sp
open Go Go.Vl
set_option linter.unusedVariables false
def AV:Nat->(Bq×Int)->(Bq×Int)->(List Aa)->Int->Option (Unit ⊕ Bool)
 |0,_,_,_,_=>none
 |n+1,a_2,a_1,l3,v260 =>
  bif (decide (v260<(a_2.1.By.length:Int))) then
   (gi a_2.1.By v260).bind fun x =>
   (gi a_1.1.By (À ((À ((a_1.1.By.length:Int)-1))-v260))).bind fun x1 =>
   bif (x != (À ((À ((l3.length:Int)-1))-x1))) then
    some (.inr false)
   else
    AV n a_2 a_1 l3 (À (v260+1))
  else
   some (.inl ())
theorem EF (n:Nat)(a_2:(Bq×Int))(a_1:(Bq×Int))(l3:(List Aa))(v260:Int):AV (n+1) a_2 a_1 l3 v260 =
 bif (decide (v260<(a_2.1.By.length:Int))) then
  (gi a_2.1.By v260).bind fun x =>
  (gi a_1.1.By (À ((À ((a_1.1.By.length:Int)-1))-v260))).bind fun x1 =>
  bif (x != (À ((À ((l3.length:Int)-1))-x1))) then
   some (.inr false)
  else
   AV n a_2 a_1 l3 (À (v260+1))
 else
  some (.inl ()):=by rw [AV]
def AU:Nat->(List Aa)->(List Aa)->Int->Option (List Aa)
 |0,_,_,_=>none
 |n+1,l3,turned1,k =>
  bif (decide (0<=k)) then
   (gi l3 k).bind fun x2 =>
   (some [x2]).bind fun l4 =>
   (Cn 240 turned1 l4).bind fun l5 =>
   AU n l3 l5 (À (k-1))
  else
   some turned1
theorem EE (n:Nat)(l3:(List Aa))(turned1:(List Aa))(k:Int):AU (n+1) l3 turned1 k =
 bif (decide (0<=k)) then
  (gi l3 k).bind fun x2 =>
  (some [x2]).bind fun l4 =>
  (Cn 240 turned1 l4).bind fun l5 =>
  AU n l3 l5 (À (k-1))
 else
  some turned1:=by rw [AU]
def DH (n:Nat)(l:(List Aa))(more:Aa)(d:Am)(days:(Int×Int)):Option Bool :=
 (Cn 240 [] l).bind fun l1 =>
 (some [more]).bind fun l2 =>
 (Cn 240 l1 l2).bind fun l3 =>
 (((Il n l3 d).bind fun f =>
 bif (!f) then
  some true
 else
  (El n l3).bind fun c =>
  some (c != 0)
 ):Option Bool).bind fun v39 =>
  bif v39 then
   (Un).bind fun s =>
   some s
  else
   (FU n l d days.1 days.2).bind fun a_ =>
   (FU n l3 d days.1 days.2).bind fun a_1 =>
   (DZ n more d days.2).bind fun s1 =>
   ((bif (a_.2 != a_1.2) then
    some true
   else
    some (a_.2 != 0)
   ):Option Bool).bind fun v77 =>
    bif v77 then
     (((Un).bind fun s2 =>
     bif s2 then
      some (a_.2 == a_1.2)
     else
      some false
     ):Option Bool).bind fun v8 =>
      some v8
    else
     bif (s1.2.2.2 != 0) then
      some false
     else
      ((bif s1.2.2.1 then
       bif (decide (s1.1<=days.1)) then
        some (decide (days.1<=s1.2.1))
       else
        some false
      else
       some false
      ):Option Bool).bind fun active =>
       ((bif (decide (0<(a_.1.By.length:Int))) then
        (gi a_.1.By 0).bind fun x4 =>
        (gi l x4).bind fun x5 =>
        some x5.Rank
       else
        some (-1)
       ):Option Int).bind fun rank =>
        ((bif (!active) then
         bif (a_1.1.State != a_.1.State) then
          some true
         else
          some ((a_1.1.By.length:Int) != (a_.1.By.length:Int))
        else
         bif (more.Kind == 3) then
          bif (a_1.1.State != a_.1.State) then
           some true
          else
           some ((a_1.1.By.length:Int) != (a_.1.By.length:Int))
         else
          bif (decide (more.Rank<rank)) then
           bif (a_1.1.State != a_.1.State) then
            some true
           else
            some ((a_1.1.By.length:Int) != (a_.1.By.length:Int))
          else
           some false
        ):Option Bool).bind fun v139 =>
         bif v139 then
          some false
         else
          ((bif active then
           bif (more.Kind != 3) then
            bif (decide (rank<more.Rank)) then
             bif (a_1.1.State != more.Kind) then
              some true
             else
              bif ((a_1.1.By.length:Int) != 1) then
               some true
              else
               (gi a_1.1.By 0).bind fun x3 =>
               some (x3 != (l.length:Int))
            else
             some false
           else
            some false
          else
           some false
          ):Option Bool).bind fun v173 =>
           bif v173 then
            some false
           else
            ((bif active then
             bif (more.Kind != 3) then
              bif (more.Rank == rank) then
               bif ((a_1.1.By.length:Int) != (À ((a_.1.By.length:Int)+1))) then
                some true
               else
                bif (a_.1.State != more.Kind) then
                 some (a_1.1.State != 3)
                else
                 some false
              else
               some false
             else
              some false
            else
             some false
            ):Option Bool).bind fun v207 =>
             bif v207 then
              some false
             else
              ((AU n l3 [] (À ((l3.length:Int)-1))
              ):Option (List Aa)).bind fun turned =>
               (FU n turned d days.1 days.2).bind fun a_2 =>
               ((bif (a_2.2 != 0) then
                some true
               else
                bif (a_2.1.State != a_1.1.State) then
                 some true
                else
                 bif (a_2.1.Houses != a_1.1.Houses) then
                  some true
                 else
                  some ((a_2.1.By.length:Int) != (a_1.1.By.length:Int))
               ):Option Bool).bind fun v256 =>
                bif v256 then
                 some false
                else
                 ((AV n a_2 a_1 l3 0
                 ):Option (Unit ⊕ Bool)).bind fun y10=>match y10 with
                 |.inl _ =>
                  (Un).bind fun s3 =>
                  some s3
                 |.inr o=>some o
end Go.Sp
namespace Go.Sp
open Go
set_option maxRecDepth 100000
theorem ZG {α:Type}{b:Nat}{x y:List α}(h:(x.length+y.length)*b<=140737488355328):Cn b x y=some (x++y):=by unfold Cn;rw [Ç h]
theorem WN {l:List Aa}{d:Am}{known:Int}(hs:∀ c∈l,HO c)(hc:C6 l=0)(t:Int) :
 Ev (fun n=>FU n l d t known) (if DS d known≠0 then (⟨0,0,[]⟩,DS d known) else if t<0∨41666<t then (⟨0,0,[]⟩,1) else (Bk (BX d known t l 0),0)):=by
 have hE:Oa l d known=DS d known:=by unfold Oa;rw [Å (by simpa using hc)]
 rcases Za (d:=d) (known:=known) hs with⟨he,ev⟩|⟨he,s,hS,ev⟩
 . rw [hE] at he ev
   rw [Ç he]
   exact Aev he ev t
 . rw [hE] at he
   rw [Å (by simpa using he)]
   by_cases ht:t<0∨41666<t
   . rw [Ç ht];exact Aeu ev ht
   . rw [Å ht,<- Aae hS (Ky hc).2]
     exact Aew hS ev (by omega) (by omega)
theorem Zg {all:List Aa}(hl:all.length<=1000):∀ (k:Nat) (acc:List Aa),k<=all.length->acc.length+k<=1000->Ev (fun n=>AU n all acc ((k:Int)-1)) (acc++(all.take k).reverse)
 |0,acc,_,_=>by
  refine .step (fun n=>EE n all acc _) (.of fun n=>?_)
  rw [Ë (by omega)];simp
 |k+1,acc,h1,h2=>by
  have e:((k+1:Nat):Int)-1=(k:Int):=by omega
  have g:all[k]?=some (all[k]'(by omega)):=Ã (by omega)
  have ih:=Zg hl k (acc++[all[k]'(by omega)]) (by omega) (by simp;omega)
  rw [e]
  refine .step (fun n=>EE n all acc _) ?_
  rw [Í (by omega),giN,g,CB (x:=(k:Int)-1) (by omega) (by omega)]
  simp only [Ð,Á]
  rw [ZG (by simp;omega)]
  rw [ï] at ih
  have e3:(all.take (k+1)).reverse=[all[k]'(by omega)]++(all.take k).reverse:=by
   rw [List.take_add_one,g];simp
  rw [e3]
  exact ih
theorem XG {Z Y:Bq}{all:List Aa}{x:Bq}(hN:all.length<=1000)(hY:∀ i∈Y.By,0<=i/\i<(all.length:Int))(hlen:Y.By.length<=1000)
 (hZ:Z.By=(Y.By.map fun i=>(all.length:Int)-1-i).reverse):∀ (r:List Int) (k:Nat),Z.By.drop k=r->k<=Z.By.length->Ev (fun n=>AV n (Z,0) (Y,0) all (k:Int)) (.inl ())
 | [],k,h,hk=>by
  have he:=LF h hk
  refine .step (fun n=>EF n _ _ _ _) (.of fun n=>?_)
  rw [Ë (by show ¬ (k:Int)<(Z.By.length:Int);omega)];rfl
 |z::r,k,h,hk=>by
  obtain⟨h1,h2⟩:=GC h
  have zl:Z.By.length=Y.By.length:=by rw [hZ];simp
  refine .step (fun n=>EF n _ _ _ _) ((XG (x:=x) hN hY hlen hZ r (k+1) h1 (by omega)).congr fun n=>?_)
  have gz:Z.By[k]?=some z:=by have:=QB h;rwa [giN] at this
  have gy:Y.By[Y.By.length-1-k]?=some (Y.By[Y.By.length-1-k]'(by omega)):=Ã _
  have hb:=hY _ (Ú (show Y.By.length-1-k<Y.By.length by omega))
  have ez:z=(all.length:Int)-1-(Y.By[Y.By.length-1-k]'(by omega)):=by
   have:=gz
   rw [hZ,List.getElem?_reverse (by simp;omega),æ,Ì,gy] at this
   exact (Af this).symm
  generalize Y.By[Y.By.length-1-k]'(by omega)=y at gy hb ez
  have lt:decide ((k:Int)<(((Z,(0:Int)).1.By.length:Nat):Int))=true:=R7 h2
  have gk:gi (Z,(0:Int)).1.By (k:Int)=some z:=QB h
  have w1:À ((((Y,(0:Int)).1.By.length:Nat):Int)-1)=((Y.By.length-1:Nat):Int):=by
   show À ((Y.By.length:Int)-1)=_
   rw [CB (by omega) (by omega)];omega
  have w2:À (((Y.By.length-1:Nat):Int)-(k:Int))=((Y.By.length-1-k:Nat):Int):=by
   rw [CB (by omega) (by omega)];omega
  have w3:À (À ((all.length:Int)-1)-y)=(all.length:Int)-1-y:=by
   rw [CB (x:=(all.length:Int)-1) (by omega) (by omega),CB (by omega) (by omega)]
  have gy':gi (Y,(0:Int)).1.By ((Y.By.length-1-k:Nat):Int)=some y:=by rw [giN];exact gy
  rw [lt,gk,w1,w2,gy',Pe (show k<4611686018427387904 by omega)]
  simp only [Ð,Á]
  rw [w3,<- ez]
  simp only [ù,Ï]
theorem Z6 {d:Am}{known t:Int}{l:List Aa}{i:Int}(h:i∈(Bk (BX d known t l 0)).By):∃ (k:Nat) (c:Aa),l[k]?=some c/\i=(k:Int)/\c.Rank=CH (BX d known t l 0):=by
 have h:=(Dy _).mem_iff.1 h
 obtain⟨a,h1,rfl⟩:=List.mem_map.1 h
 unfold En at h1
 obtain⟨h2,h3⟩:=List.mem_filter.1 h1
 obtain⟨k,c,h4,h5,h6⟩:=X1 l 0 a h2
 rw [Ä] at h3
 have h7:a.rk=CH (BX d known t l 0):=by simpa using h3.2
 exact⟨k,c,h4,by rw [h5];congr 1;omega,by rw [<- h6];exact h7⟩
theorem Yb (l:List Aa)(more:Aa)(d:Am)(days:Int×Int)(hlen:(l.length+1)*240<=140737488355328):Ev (fun n=>DH n l more d days) true:=by
 obtain⟨t,known⟩:=days
 unfold DH
 rw [ZG (x:=([]:List Aa)) (by simp;omega)]
 simp only [Á,ý]
 rw [ZG (x:=l) (y:=[more]) (by simpa using hlen)]
 simp only [Á]
 obtain⟨all,hall⟩:∃ a,a=l++[more]:=⟨_,rfl⟩
 rw [<- hall]
 obtain⟨b,hb,hs⟩:=ZT all d
 refine Ev.bind (a:=bif !b then true else C6 all != 0) ?_ ?_
 . refine hb.bind ?_
   cases b with
   |false=>exact Ev.pure
   |true=>exact (IK all (hs rfl).1).bind Ev.pure
 cases hv:(bif !b then true else C6 all != 0) with
 |true=>rw [SL];exact Ev.pure
 |false =>
  have hbt:b=true:=by cases b with
   |true=>rfl
   |false=>cases hv
  subst hbt
  have hC:C6 all=0:=by simpa using hv
  obtain⟨hsm,_⟩:=hs rfl
  simp only [Ï]
  obtain⟨hlA,hfA⟩:=Ky hC
  have sub:l.Sublist all:=by rw [hall];exact List.sublist_append_left _ _
  have hCl:=WH hC sub
  obtain⟨hll,hfl⟩:=Ky hCl
  have hsl:∀ c∈l,HO c:=fun c hc=>hsm c (sub.mem hc)
  have hmem:more∈all:=by rw [hall];exact Ē _ â
  have hfm:=hfA more hmem
  have hX:=WN (d:=d) (known:=known) hsl hCl t
  have hY:=WN (d:=d) (known:=known) hsm hC t
  have hSp:=Um more d known (hsm more hmem)
  by_cases hk:DS d known≠0
  . rw [Ç hk] at hX hY
    refine hX.bind (hY.bind (hSp.bind ?_))
    simp only [ù,Ï,show (DS d known != 0)=true by simpa using hk,Á,Ð,SL,ĉ]
    exact Ev.pure
  have hk:DS d known=0:=by simpa using hk
  rw [Å (by simpa using hk)] at hX hY
  by_cases ht:t<0∨41666<t
  . rw [Ç ht] at hX hY
    refine hX.bind (hY.bind (hSp.bind ?_))
    simp only [ù,Ï,show ((1:Int) != 0)=true from rfl,Á,Ð,SL,ĉ]
    exact Ev.pure
  rw [Å ht] at hX hY
  rw [Xj hfm hk] at hSp
  have hfI:∀ a∈BX d known t l 0,E8 a:=J9 l 0 hfl
  have hfAll:∀ a∈BX d known t all 0,E8 a:=J9 all 0 hfA
  have happ:BX d known t all 0=BX d known t l 0++BX d known t [more] l.length:=by rw [hall,Q0,î]
  obtain⟨inB,hin⟩:∃ b,b=decide (Md ⟨d,known⟩ more.From<=t/\t<=Md ⟨d,known⟩ more.To):=⟨_,rfl⟩
  obtain⟨m,hm⟩:∃ m:FW,m=⟨more.Rank,more.Kind,more.Houses,inB,(l.length:Int)⟩:=⟨_,rfl⟩
  have hT:BX d known t [more] l.length=if Rh d known more=true then [m] else []:=by
   rw [BX,BX,ă,hm,hin]
  have hfmI:E8 m:=by rw [hm];exact⟨hfm.rank,hfm.kind⟩
  have hfT:∀ a∈BX d known t [more] l.length,E8 a:=by
   rw [hT];intro a ha
   split at ha
   . rw [ē] at ha;subst ha;exact hfmI
   . cases ha
  have hTurn:=WN (l:=all.reverse) (d:=d) (known:=known) (fun c hc=>hsm c (List.mem_reverse.1 hc)) (WI hC) t
  rw [Å (by simpa using hk),Å ht] at hTurn
  have hrev:=UK (d:=d) (known:=known) (t:=t) all
  have hfR:∀ a∈BX d known t all.reverse 0,E8 a:=J9 _ 0 fun c hc=>hfA c (List.mem_reverse.1 hc)
  have hZd:Bk (BX d known t all.reverse 0)=⟨(Bk (BX d known t all 0)).State,(Bk (BX d known t all 0)).Houses,DT (((En (BX d known t all 0)).map (·.ix)).map fun i=>(all.length:Int)-1-i)⟩:=by
   rw [QR hrev hfR,Y7]
  have hZb:(Bk (BX d known t all.reverse 0)).By=((Bk (BX d known t all 0)).By.map fun i=>(all.length:Int)-1-i).reverse:=by
   rw [hZd];exact UL _ _
  have hYb:∀ i∈(Bk (BX d known t all 0)).By,0<=i/\i<(all.length:Int):=fun i hi=>by
   obtain⟨k,c,h1,h2,_⟩:=Z6 hi
   have:=(List.getElem?_eq_some_iff.1 h1).1
   omega
  have hZs:(Bk (BX d known t all.reverse 0)).State=(Bk (BX d known t all 0)).State:=by rw [hZd]
  have hZh:(Bk (BX d known t all.reverse 0)).Houses=(Bk (BX d known t all 0)).Houses:=by rw [hZd]
  have hBl:(Bk (BX d known t all 0)).By.length<=1000:=by
   have h1:(Bk (BX d known t all 0)).By.length=(En (BX d known t all 0)).length:=by
    show (DT _).length=_
    rw [Kk,Ì]
   have h2:(En (BX d known t all 0)).length<=(BX d known t all 0).length:=List.length_filter_le _ _
   have h3:(BX d known t all 0).length<=all.length:=by rw [<- Ti (l:=all) all 0 rfl,Ì];exact PU _ _ _ _
   omega
  have hrank:(bif decide (0<((Bk (BX d known t l 0)).By.length:Int)) then (gi (Bk (BX d known t l 0)).By 0).bind fun x4=>(gi l x4).bind fun x5=>some x5.Rank else some (-1))=some (CH (BX d known t l 0)):=by
   cases hz:(Bk (BX d known t l 0)).By with
   |nil =>
    have:(DT ((En (BX d known t l 0)).map (·.ix))).length=0:=by
     show (Bk (BX d known t l 0)).By.length=0
     rw [hz];rfl
    rw [Kk,Ì] at this
    rw [Vn (á this)];rfl
   |cons i r =>
    obtain⟨k,c,h1,h2,h3⟩:=Z6 (d:=d) (known:=known) (t:=t) (l:=l) (i:=i) (by rw [hz];exact â)
    have g:gi l i=some c:=by rw [h2,giN];exact h1
    rw [Í (by simp<;>omega)]
    have g0:gi (i::r) 0=some i:=rfl
    simp only [Ð,g0,Á,g,h3]
  generalize hI:BX d known t l 0=I at *
  generalize hJ:BX d known t [more] l.length=T at *
  rw [happ] at hY hZb hYb hZs hZh hBl
  generalize hR:Bk (BX d known t all.reverse 0)=Z at *
  obtain⟨act,hact⟩:∃ b,b=(Rh d known more&&inB):=⟨_,rfl⟩
  have hno:(act=false∨more.Kind=3∨more.Rank<CH I)->En (I++T)=En I:=fun h=>by
   refine YA hfI hfT fun a ha=>?_
   rw [hT] at ha
   by_cases hap:Rh d known more=true
   . rw [Ç hap,ē] at ha
     subst ha
     rw [hap,Bool.true_and] at hact
     rw [hm]
     rcases h with h|h|h
     . left;unfold DD;show (_&&inB)=false;rw [<- hact,h,Bool.and_false]
     . left;unfold DD;show (more.Kind != 3&&_)=false;rw [h];rfl
     . exact .inr h
   . rw [Å hap] at ha;cases ha
  have hyes:act=true->more.Kind≠3->T=[m]/\DD m=true:=fun h1 h2=>by
   rw [h1,eq_comm,Ä] at hact
   rw [hT,Ç hact.1]
   refine⟨rfl,?_⟩
   rw [hm];unfold DD
   show (more.Kind != 3&&inB)=true
   rw [hact.2];simpa using h2
  have same:En (I++T)=En I->(Bk (I++T)).State=(Bk I).State/\(Bk (I++T)).By.length=(Bk I).By.length:=fun h=>by
   refine⟨?_,?_⟩
   . show FG _=FG _;rw [h]
   . show (DT _).length=(DT _).length;rw [h]
  have v139:(bif (!act) then (bif ((Bk (I++T)).State != (Bk I).State) then some true else some (((Bk (I++T)).By.length:Int) != ((Bk I).By.length:Int))) else
   bif (more.Kind == 3) then (bif ((Bk (I++T)).State != (Bk I).State) then some true else some (((Bk (I++T)).By.length:Int) != ((Bk I).By.length:Int))) else
   bif (decide (more.Rank<CH I)) then (bif ((Bk (I++T)).State != (Bk I).State) then some true else some (((Bk (I++T)).By.length:Int) != ((Bk I).By.length:Int))) else some false)=some false:=by
   have fine:En (I++T)=En I->(bif ((Bk (I++T)).State != (Bk I).State) then some true else some (((Bk (I++T)).By.length:Int) != ((Bk I).By.length:Int)))=some false:=fun h=>by
    obtain⟨h1,h2⟩:=same h
    rw [h1,h2];simp
   cases hc1:act with
   |false=>exact fine (hno (.inl hc1))
   |true =>
    cases hc2:more.Kind == 3 with
    |true=>exact fine (hno (.inr (.inl (by simpa using hc2))))
    |false =>
     cases hc3:decide (more.Rank<CH I) with
     |true=>exact fine (hno (.inr (.inr (þ hc3))))
     |false=>rfl
  have v173:(bif act then bif (more.Kind != 3) then bif (decide (CH I<more.Rank)) then bif ((Bk (I++T)).State != more.Kind) then some true else bif (((Bk (I++T)).By.length:Int) != 1) then some true else (gi (Bk (I++T)).By 0).bind fun x3=>some (x3 != (l.length:Int)) else some false else some false else some false)=some false:=by
   cases hc1:act with
   |false=>rfl
   |true =>
    cases hc2:more.Kind != 3 with
    |false=>rfl
    |true =>
     cases hc3:decide (CH I<more.Rank) with
     |false=>rfl
     |true =>
      obtain⟨h1,h2⟩:=hyes hc1 (by simpa using hc2)
      have h3:En (I++T)=[m]:=by rw [h1];exact YB hfI hfmI h2 (by rw [hm];exact þ hc3)
      have h4:(Bk (I++T)).State=more.Kind:=by
       show FG _=_
       rw [h3]
       have hk3:more.Kind≠3:=by simpa using hc2
       have hkk:=hfm.kind
       have:more.Kind=1∨more.Kind=2:=by omega
       unfold FG
       rw [hm]
       rcases this with e|e<;>simp [e]
      have h5:(Bk (I++T)).By=[(l.length:Int)]:=by
       show DT _=_
       rw [h3,hm];rfl
      rw [h4,h5]
      simp only [ù,Ï,Ð]
      have g0:gi [(l.length:Int)] 0=some (l.length:Int):=rfl
      have g1:(([(l.length:Int)].length:Int) != 1)=false:=rfl
      rw [g1,g0]
      simp
  have v207:(bif act then bif (more.Kind != 3) then bif (more.Rank == CH I) then bif (((Bk (I++T)).By.length:Int) != (À (((Bk I).By.length:Int)+1))) then some true else bif ((Bk I).State != more.Kind) then some ((Bk (I++T)).State != 3) else some false else some false else some false else some false)=some false:=by
   cases hc1:act with
   |false=>rfl
   |true =>
    cases hc2:more.Kind != 3 with
    |false=>rfl
    |true =>
     cases hc3:more.Rank == CH I with
     |false=>rfl
     |true =>
      obtain⟨h1,h2⟩:=hyes hc1 (by simpa using hc2)
      have hr:m.rk=CH I:=by rw [hm];simpa using hc3
      have h3:En (I++T)=En I++[m]:=by rw [h1];exact Acn hfI hfmI h2 hr
      have h5:(Bk (I++T)).By.length=(Bk I).By.length+1:=by
       show (DT _).length=(DT _).length+1
       rw [h3,Kk,Kk,ü,Õ];rfl
      have hw:À (((Bk I).By.length:Int)+1)=((Bk (I++T)).By.length:Int):=by
       rw [CB (by omega) (by omega)];omega
      rw [hw]
      simp only [ù,Ï,Ð]
      cases hc4:(Bk I).State != more.Kind with
      |false=>rfl
      |true =>
       have hk3:more.Kind≠3:=by simpa using hc2
       have hkk:=hfm.kind
       have hD:En I≠[]:=fun h=>by
        have h6:=Vn h
        have:=hfmI.rk
        omega
       have h4:(Bk (I++T)).State=3:=by
        show FG _=_
        rw [h3]
        refine VK (fun a ha=>(Acm hfI a ha).1) (by rw [hm];show more.Kind=1∨more.Kind=2;omega) hD ?_
        rw [hm]
        have e4:(Bk I).State≠more.Kind:=by simpa using hc4
        exact e4
       rw [h4];rfl
  have vact:(bif Rh d known more then bif (decide (Md ⟨d,known⟩ more.From<=t)) then some (decide (t<=Md ⟨d,known⟩ more.To)) else some false else some false)=some act:=by
   rw [hact,hin]
   cases Rh d known more with
   |false=>rfl
   |true=>rw [Ð,Aey,Bool.true_and]
  refine hX.bind (hY.bind (hSp.bind ?_))
  simp only [ù,Ï,Á]
  rw [vact,hrank]
  simp only [Á]
  rw [v139]
  simp only [Á,Ï]
  rw [v173]
  simp only [Á,Ï]
  rw [v207]
  simp only [Á,Ï]
  have hre:=Zg (all:=all) (by omega) all.length [] (Þ _) (by simp;omega)
  rw [ý,List.take_length] at hre
  rw [CB (x:=(all.length:Int)-1) (by omega) (by omega)]
  refine hre.bind (hTurn.bind ?_)
  have hzl:Z.By.length=(Bk (I++T)).By.length:=by rw [hZb];simp
  simp only [ù,Ï,hZs,hZh,hzl,Á]
  refine (XG (x:=Z) (by omega) hYb hBl hZb Z.By 0 rfl (Ą _)).bind ?_
  simp only [SL,Á]
  exact Ev.pure
end Go.Sp
