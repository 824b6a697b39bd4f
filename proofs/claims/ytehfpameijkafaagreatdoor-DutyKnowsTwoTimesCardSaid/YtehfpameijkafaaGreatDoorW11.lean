/-
  Chapter 33 as plain functions, first part: parsing, the operations, find and value; no program. (Printed by lift.py, but for what the lexer answers.) Plain functions with fuel: what holds for all large fuel. No program. The table of operations, as a plain list for every order of the map of comparisons. (The pieces printed by lift.py.) The table of operations: what its pieces compute. The names' types; the table as one of many lists. No program. What find finds, in plain words, whatever order the table of operations is in. No program. The search ends alike in every order of the table; find, in plain words. No program. What value computes, in plain words, whatever order the table of operations is in. No program. Statute as plain functions: what is exported, the specification; no program. (Printed by lift.py.) Expressions and dossiers in memory, opened. Lists of clauses in memory, opened. Pairs of days and bytes, opened. Private vectors: slices that are written in place later. No program. Words for private vectors and arrays that are written in place. No program. A range over a function, in plain values. The iterator reads a slice of ints that is behind a box, and may write the array; the two are no places of the walk while the loop runs. The rule for a range over a function. A function that ranges over a function. Words for a range over a function. The contracts of slices.Sort and slices.Compact, laid at this program (written by the kit's own tools, in plain words). slices.Sort of ints, as a function of an array that is a place. Duty as plain functions. (Printed by lift.py.) What the laws of duty share, as plain functions. (Printed by lift.py.) DutyStretchesCover as a plain function. (Printed by lift.py.) Lists of 16-bit numbers and triples of days in memory, opened.
-/
import Derived.Lib.Join
import Derived.Lib.ItoaNum
import Derived.Lib.EndianBits
import Derived.Shelf.Sort.Plain
import Derived.Shelf.Slices.In.SortNone
import Derived.Shelf.Slices.CompactI
import Derived.Test.YtehfpameijkafaaGreatDoorProg
import Derived.SizedLaws
import Derived.Test.YtehfpameijkafaaGreatDoorW4
import Derived.Test.YtehfpameijkafaaGreatDoorW6
import Derived.Test.YtehfpameijkafaaGreatDoorW9
import Derived.Test.YtehfpameijkafaaGreatDoorW10
set_option linter.unusedVariables false
set_option linter.unusedSimpArgs false
namespace Go.Sp
open Go Go.Vl
set_option linter.unusedVariables false
structure Ap where
 Kind:Int
 At:Int
 S:Æ
 N:Int
def Fg (x:Ap):List PV:=[iP x.Kind,iP x.At,tP x.S,iP x.N]
theorem J5 (x:Ap):Fg x=[iP x.Kind,iP x.At,tP x.S,iP x.N]:=rfl
theorem Jc (x:Ap):(Fg x).length=4:=rfl
def Cp:Rw Ap:=⟨Fg,_,4,J5,Jc⟩
structure An where
 At:Int
 E:Int
structure AJ where
 sign:Æ
 op:Int
 level:Int
def E7 (x:AJ):List PV:=[tP x.sign,iP x.op,iP x.level]
theorem Mo (x:AJ):E7 x=[tP x.sign,iP x.op,iP x.level]:=rfl
theorem Lt (x:AJ):(E7 x).length=3:=rfl
def EY:Rw AJ:=⟨E7,_,3,Mo,Lt⟩
structure Ad where
 l:(List Ap)
 forms:Int
structure Ag where
 Op:Int
 N:Int
 S:Æ
 Kids:(List Ag)
 At:Int
mutual
def Bf:Ag->List PV
 |.mk fOp fN fS fKids fAt=>[iP fOp,iP fN,tP fS,.sl (H0 fKids) .shared,iP fAt]
def H0:List Ag->List (List PV)
 | []=>[]
 |x::l=>Bf x::H0 l
end
theorem J4:∀ l:List Ag,H0 l=l.map Bf
 | []=>rfl
 |x::l=>by rw [H0,J4 l];rfl
theorem Gm (x:Ag):Bf x=[iP x.Op,iP x.N,tP x.S,hP x.Kids Bf,iP x.At]:=by
 cases x;rw [Bf];simp only [J4]
theorem J7 (x:Ag):(Bf x).length=5:=by rw [Gm];rfl
def B3:Rw Ag:=⟨Bf,_,5,Gm,J7⟩
structure BB where
 Kind:Int
 N:Int
 S:Æ
 E:Ag
 At:Int
def FM (x:BB):List PV:=[iP x.Kind,iP x.N,tP x.S,iP x.E.Op,iP x.E.N,tP x.E.S,hP x.E.Kids Bf,iP x.E.At,iP x.At]
theorem Qm (x:BB):FM x=[iP x.Kind,iP x.N,tP x.S,iP x.E.Op,iP x.E.N,tP x.E.S,hP x.E.Kids Bf,iP x.E.At,iP x.At]:=rfl
theorem Pt (x:BB):(FM x).length=9:=rfl
def Bo:Rw BB:=⟨FM,_,9,Qm,Pt⟩
structure Ax where
 Word:Æ
 Args:(List BB)
 Body:(List Ax)
 At:Int
mutual
def Cq:Ax->List PV
 |.mk fWord fArgs fBody fAt=>[tP fWord,hP fArgs FM,.sl (Hz fBody) .shared,iP fAt]
def Hz:List Ax->List (List PV)
 | []=>[]
 |x::l=>Cq x::Hz l
end
theorem J3:∀ l:List Ax,Hz l=l.map Cq
 | []=>rfl
 |x::l=>by rw [Hz,J3 l];rfl
theorem Gl (x:Ax):Cq x=[tP x.Word,hP x.Args FM,hP x.Body Cq,iP x.At]:=by
 cases x;rw [Cq];simp only [J3]
theorem Hs (x:Ax):(Cq x).length=4:=by rw [Gl];rfl
def EF:Rw Ax:=⟨Cq,_,4,Gl,Hs⟩
structure Ao where
 At:Int
 E:Int
structure Bb where
 Kind:Int
 Who:Int
 Day:Int
 Known:Int
def CO (x:Bb):List PV:=[iP x.Kind,iP x.Who,iP x.Day,iP x.Known]
theorem KD (x:Bb):CO x=[iP x.Kind,iP x.Who,iP x.Day,iP x.Known]:=rfl
theorem J6 (x:Bb):(CO x).length=4:=rfl
def B2:Rw Bb:=⟨CO,_,4,KD,J6⟩
structure Aj where
 Facts:(List Bb)
 Stored:Int
 Owner:Int
def HU (x:Aj):List PV:=[hP x.Facts CO,iP x.Stored,iP x.Owner]
theorem IB (x:Aj):HU x=[hP x.Facts CO,iP x.Stored,iP x.Owner]:=rfl
structure Ah where
 d:Aj
 known:Int
structure Ab where
 op:Int
 name:Æ
 args:(List Int)
 kind:Int
 do_:Do
def BJ (x:Int):List PV:=[iP x]
theorem Bt (x:Int):BJ x=[iP x]:=rfl
theorem Lu (x:Int):(BJ x).length=1:=rfl
def A2:Rw Int:=⟨BJ,_,1,Bt,Lu⟩
def AT (x:Ab):List PV:=[iP x.op,tP x.name,hP x.args BJ,iP x.kind,.fno (LB x.do_) (Kt x.do_) (KE x.do_)]
theorem BM (x:Ab):AT x=[iP x.op,tP x.name,hP x.args BJ,iP x.kind,.fno (LB x.do_) (Kt x.do_) (KE x.do_)]:=rfl
theorem Cg (x:Ab):(AT x).length=5:=rfl
def HG:Rw Ab:=⟨AT,_,5,BM,Cg⟩
structure AW where
 ops:(List Ab)
 names:(List (ByteArray×Int))
def FL (x:Æ):List PV:=[tP x]
theorem Jv (x:Æ):FL x=[tP x]:=rfl
theorem Ls (x:Æ):(FL x).length=1:=rfl
def LV:Rw Æ:=⟨FL,_,1,Jv,Ls⟩
def tkT (t:Lx.Tok):Ap:=⟨(t.kind:Int),(t.at_:Int),⟨⟨t.s⟩⟩,(t.n:Int)⟩
def Q6 (src:Æ):List Ap×An :=
 if 65536<src.size then ([],⟨0,2⟩)
 else match Lx.tokens src.data.toList with
  |.ok ts=>(ts.map tkT,⟨0,0⟩)
  |.error (p,e)=>([],⟨(p:Int),(e:Int)⟩)
def Ss (src:Æ):Option (List Ap×An):=some (Q6 src)
def Gq:Option (List AJ) :=
 (some [(AJ.mk ⟨#[42]⟩ 7 6),(AJ.mk ⟨#[47]⟩ 8 6),(AJ.mk ⟨#[37]⟩ 9 6),(AJ.mk ⟨#[43]⟩ 10 5),(AJ.mk ⟨#[45]⟩ 11 5),(AJ.mk ⟨#[61,61]⟩ 12 4),(AJ.mk ⟨#[33,61]⟩ 13 4),(AJ.mk ⟨#[60]⟩ 14 4),(AJ.mk ⟨#[60,61]⟩ 15 4),(AJ.mk ⟨#[62]⟩ 16 4),(AJ.mk ⟨#[62,61]⟩ 17 4),(AJ.mk ⟨#[38,38]⟩ 18 2),(AJ.mk ⟨#[124,124]⟩ 19 1)]).bind fun l =>
 some l
def Bi (p:Ad)(e:Int):Option (Ex Ao Ad Unit) :=
 (gi p.l 0).bind fun x =>
 some (.pan (Ao.mk x.At e) p)
def AI (p:Ad):Option (Ap×Ad) :=
 (gi p.l 0).bind fun x =>
 (ZS p.l 1 (p.l.length:Int)).bind fun l =>
 some (x,(Ad.mk l p.forms))
def Be (p:Ad)(s:Æ):Option Bool :=
 (((gi p.l 0).bind fun x =>
 bif (x.Kind == 4) then
  some (decide (x.S=s))
 else
  some false
 ):Option Bool).bind fun v4 =>
  some v4
def Dn (p:Ad):Option Bool :=
 (gi p.l 0).bind fun x =>
 ((bif (x.Kind == 1) then
  some (x.Kind == 1)
 else
  bif (x.Kind == 2) then
   some (x.Kind == 2)
  else
   some (x.Kind == 3)
 ):Option Bool).bind fun v10 =>
  bif v10 then
   some true
  else
   (((Be p ⟨#[40]⟩).bind fun i =>
   bif i then
    some true
   else
    (Be p ⟨#[45]⟩).bind fun i1 =>
    some i1
   ):Option Bool).bind fun v2 =>
    some v2
def Gd (p:Ad):Option (Ex Ao Ad Int) :=
 (gi p.l 0).bind fun x =>
 bif (x.Kind != 2) then
  (Bi p 5).bind fun y=>match y with
  |.ok f p1 =>
   (AI p1).bind fun n_ =>
   some (.ok n_.1.N n_.2)
  |.pan e p2=>some (.pan e p2)
 else
  (AI p).bind fun n_1 =>
  some (.ok n_1.1.N n_1.2)
def Dg (p:Ad)(depth:Int)(not_:Bool):Option (Ex Ao Ad Unit) :=
 (((Dn p).bind fun b =>
 bif (!b) then
  bif not_ then
   (Be p ⟨#[33]⟩).bind fun i =>
   some (!i)
  else
   some true
 else
  some false
 ):Option Bool).bind fun v16 =>
  ((bif v16 then
   (Bi p 5).bind fun y3=>match y3 with
   |.ok f1 p5 =>
    some (.inl (p5.l,p5.forms))
   |.pan e3 p6=>some (.inr (.pan e3 p6))
  else
   some (.inl (p.l,p.forms))
  ):Option (((List Ap)×Int) ⊕ (Ex Ao Ad Unit))).bind fun y1=>match y1 with
  |.inl (p1,p2) =>
   bif (decide (30<depth)) then
    (Bi (Ad.mk p1 p2) 2).bind fun y2=>match y2 with
    |.ok f p3 =>
     some (.ok () p3)
    |.pan e2 p4=>some (.pan e2 p4)
   else
    some (.ok () (Ad.mk p1 p2))
  |.inr o=>some o
def Df (p:Ad)(s:Æ):Option (Ex Ao Ad Unit) :=
 (Be p s).bind fun i =>
 bif (!i) then
  (Bi p 5).bind fun y=>match y with
  |.ok f p1 =>
   (AI p1).bind fun n_ =>
   some (.ok () n_.2)
  |.pan e p2=>some (.pan e p2)
 else
  (AI p).bind fun n_1 =>
  some (.ok () n_1.2)
def EA (p:(List Ap))(p1:Int)(n_:Int)(q:Int)(q1:Int)(q2:Æ)(q3:(List Ag))(q4:Int)(e:Int)(e1:Int)(e2:Æ)(e3:(List Ag))(e4:Int)(b:AJ):Option Bool :=
 ((bif (b.level == n_) then
  (Be (Ad.mk p p1) b.sign).bind fun i =>
  some i
 else
  some false
 ):Option Bool).bind fun v4 =>
  some v4
def Cb:Nat->(List AJ)->(List Ap)->Int->Int->Int->Int->Æ->(List Ag)->Int->Int->Int->Æ->(List Ag)->Int->Int->Option (Unit ⊕ Int)
 |0,_,_,_,_,_,_,_,_,_,_,_,_,_,_,_=>none
 |n+1,s,p,p1,n_,q,q1,q2,q3,q4,e,e1,e2,e3,e4,v8 =>
  bif (decide (v8<(s.length:Int))) then
   (gi s v8).bind fun x =>
   (EA p p1 n_ q q1 q2 q3 q4 e e1 e2 e3 e4 x).bind fun l =>
   bif l then
    some (.inr v8)
   else
    Cb n s p p1 n_ q q1 q2 q3 q4 e e1 e2 e3 e4 (À (v8+1))
  else
   some (.inl ())
def Du (n:Nat)(p:(List Ap))(p1:Int)(n_:Int)(q:Int)(q1:Int)(q2:Æ)(q3:(List Ag))(q4:Int)(e:Int)(e1:Int)(e2:Æ)(e3:(List Ag))(e4:Int)(s:(List AJ)):Option Int :=
 ((Cb n s p p1 n_ q q1 q2 q3 q4 e e1 e2 e3 e4 0
 ):Option (Unit ⊕ Int)).bind fun y=>match y with
 |.inl _ =>
  some (-1)
 |.inr o=>some o
mutual
def AP:Nat->Ad->Int->Option (Ex Ao Ad Ag)
 |0,_,_=>none
 |n+1,p,depth =>
  (Dg p depth true).bind fun y=>match y with
  |.ok d p1 =>
   (Bc n p1 1 depth).bind fun y1=>match y1 with
   |.ok e1 p3 =>
    (Be p3 ⟨#[63]⟩).bind fun i =>
    bif (!i) then
     some (.ok e1 p3)
    else
     (AI p3).bind fun n_ =>
     (AP n n_.2 (À (depth+1))).bind fun y2=>match y2 with
     |.ok a_ p5 =>
      (Df p5 ⟨#[58]⟩).bind fun y3=>match y3 with
      |.ok n_1 p7 =>
       (AP n p7 (À (depth+1))).bind fun y4=>match y4 with
       |.ok e5 p9 =>
        (some [e1,a_,e5]).bind fun l =>
        some (.ok (Ag.mk 20 0 ⟨#[]⟩ l e1.At) p9)
       |.pan e6 p10=>some (.pan e6 p10)
      |.pan e4 p8=>some (.pan e4 p8)
     |.pan e3 p6=>some (.pan e3 p6)
   |.pan e2 p4=>some (.pan e2 p4)
  |.pan e p2=>some (.pan e p2)
def DK:Nat->Int->Ag->Int->(List Ap)->Int->Int->Int->Æ->(List Ag)->Option (Ex Ao Ad Ag)
 |0,_,_,_,_,_,_,_,_,_=>none
 |n+1,n_1,e2,depth,p5,p6,e4,e5,e6,e7 =>
  (Gq).bind fun o_ =>
  (Du n p5 p6 n_1 0 0 ⟨#[]⟩ [] 0 e4 e5 e6 e7 e2.At o_).bind fun k =>
  bif (decide (k<0)) then
   some (.ok (Ag.mk e4 e5 e6 e7 e2.At) (Ad.mk p5 p6))
  else
   (AI (Ad.mk p5 p6)).bind fun n_3 =>
   (Gq).bind fun o_1 =>
   (gi o_1 k).bind fun x =>
   (Bc n n_3.2 (À (n_1+1)) depth).bind fun y3=>match y3 with
   |.ok l p7 =>
    (some [(Ag.mk e4 e5 e6 e7 e2.At),l]).bind fun l1 =>
    bif (n_1 == 4) then
     some (.ok (Ag.mk x.op 0 ⟨#[]⟩ l1 e2.At) p7)
    else
     DK n n_1 e2 depth p7.l p7.forms x.op 0 ⟨#[]⟩ l1
   |.pan e8 p8=>some (.pan e8 p8)
def Bc:Nat->Ad->Int->Int->Option (Ex Ao Ad Ag)
 |0,_,_,_=>none
 |n+1,p,n_,depth =>
  ((bif (n_ == 3) then
   (Be p ⟨#[33]⟩).bind fun i =>
   bif i then
    (AI p).bind fun n_4 =>
    (Dg n_4.2 (À (depth+1)) true).bind fun y4=>match y4 with
    |.ok d p9 =>
     (Bc n p9 3 (À (depth+1))).bind fun y5=>match y5 with
     |.ok l2 p11 =>
      (some [l2]).bind fun l3 =>
      some (.inr (.ok (Ag.mk 5 0 ⟨#[]⟩ l3 n_4.1.At) p11))
     |.pan e10 p12=>some (.inr (.pan e10 p12))
    |.pan e9 p10=>some (.inr (.pan e9 p10))
   else
    some (.inl (À (n_+1)))
  else
   some (.inl n_)
  ):Option (Int ⊕ (Ex Ao Ad Ag))).bind fun y=>match y with
  |.inl n_1 =>
   bif (n_1 == 7) then
    (B7 n p depth).bind fun y1=>match y1 with
    |.ok n_2 p1 =>
     some (.ok n_2 p1)
    |.pan e1 p2=>some (.pan e1 p2)
   else
    (Bc n p (À (n_1+1)) depth).bind fun y2=>match y2 with
    |.ok e2 p3 =>
     DK n n_1 e2 depth p3.l p3.forms e2.Op e2.N e2.S e2.Kids
    |.pan e3 p4=>some (.pan e3 p4)
  |.inr o=>some o
def B7:Nat->Ad->Int->Option (Ex Ao Ad Ag)
 |0,_,_=>none
 |n+1,p,depth =>
  (Be p ⟨#[45]⟩).bind fun i =>
  bif (!i) then
   (B9 n p depth).bind fun y=>match y with
   |.ok a_ p1 =>
    some (.ok a_ p1)
   |.pan e p2=>some (.pan e p2)
  else
   (AI p).bind fun n_ =>
   (Dg n_.2 (À (depth+1)) false).bind fun y1=>match y1 with
   |.ok d p3 =>
    (B7 n p3 (À (depth+1))).bind fun y2=>match y2 with
    |.ok n_1 p5 =>
     (some [n_1]).bind fun l =>
     some (.ok (Ag.mk 6 0 ⟨#[]⟩ l n_.1.At) p5)
    |.pan e2 p6=>some (.pan e2 p6)
   |.pan e1 p4=>some (.pan e1 p4)
def CV:Nat->Int->(List Ap)->Int->(List Ag)->Option (((List Ap)×Int×(List Ag)) ⊕ (Ex Ao Ad Ag))
 |0,_,_,_,_=>none
 |n+1,depth,p5,p6,e3 =>
  (Be (Ad.mk p5 p6) ⟨#[41]⟩).bind fun i1 =>
  bif (!i1) then
   ((bif (decide (0<(e3.length:Int))) then
    (Df (Ad.mk p5 p6) ⟨#[44]⟩).bind fun y7=>match y7 with
    |.ok n_2 p17 =>
     some (.inl (p17.l,p17.forms))
    |.pan e11 p18=>some (.inr (.pan e11 p18))
   else
    some (.inl (p5,p6))
   ):Option (((List Ap)×Int) ⊕ (Ex Ao Ad Ag))).bind fun y2=>match y2 with
   |.inl (p7,p8) =>
    bif ((e3.length:Int) == 40) then
     (Dg (Ad.mk p7 p8) 0 true).bind fun y3=>match y3 with
     |.ok d p9 =>
      (Bi p9 2).bind fun y4=>match y4 with
      |.ok f p11 =>
       (AP n p11 (À (depth+1))).bind fun y5=>match y5 with
       |.ok e7 p13 =>
        (some [e7]).bind fun l =>
        (Ca 64 e3 l).bind fun l1 =>
        CV n depth p13.l p13.forms l1
       |.pan e8 p14=>some (.inr (.pan e8 p14))
      |.pan e6 p12=>some (.inr (.pan e6 p12))
     |.pan e5 p10=>some (.inr (.pan e5 p10))
    else
     (AP n (Ad.mk p7 p8) (À (depth+1))).bind fun y6=>match y6 with
     |.ok e9 p15 =>
      (some [e9]).bind fun l2 =>
      (Ca 64 e3 l2).bind fun l3 =>
      CV n depth p15.l p15.forms l3
     |.pan e10 p16=>some (.inr (.pan e10 p16))
   |.inr o=>some (.inr o)
  else
   some (.inl (p5,p6,e3))
def B9:Nat->Ad->Int->Option (Ex Ao Ad Ag)
 |0,_,_=>none
 |n+1,p,depth =>
  (Dn p).bind fun b =>
  ((bif (!b) then
   (Bi p 5).bind fun y10=>match y10 with
   |.ok f1 p23 =>
    some (.inl (p23.l,p23.forms))
   |.pan e15 p24=>some (.inr (.pan e15 p24))
  else
   some (.inl (p.l,p.forms))
  ):Option (((List Ap)×Int) ⊕ (Ex Ao Ad Ag))).bind fun y=>match y with
  |.inl (p1,p2) =>
   (AI (Ad.mk p1 p2)).bind fun t =>
   bif (t.1.Kind == 2) then
    some (.ok (Ag.mk 1 t.1.N t.1.S [] t.1.At) t.2)
   else
    bif (t.1.Kind == 3) then
     some (.ok (Ag.mk 2 t.1.N t.1.S [] t.1.At) t.2)
    else
     bif (t.1.Kind == 1) then
      (Be t.2 ⟨#[40]⟩).bind fun i =>
      bif (!i) then
       some (.ok (Ag.mk 3 t.1.N t.1.S [] t.1.At) t.2)
      else
       (AI t.2).bind fun n_ =>
       ((CV n depth n_.2.l n_.2.forms []
       ):Option (((List Ap)×Int×(List Ag)) ⊕ (Ex Ao Ad Ag))).bind fun y1=>match y1 with
       |.inl (p3,p4,e1) =>
        (AI (Ad.mk p3 p4)).bind fun n_1 =>
        some (.ok (Ag.mk 4 t.1.N t.1.S e1 t.1.At) n_1.2)
       |.inr o=>some o
     else
      (AP n t.2 (À (depth+1))).bind fun y8=>match y8 with
      |.ok e12 p19 =>
       (Df p19 ⟨#[41]⟩).bind fun y9=>match y9 with
       |.ok n_3 p21 =>
        some (.ok e12 p21)
       |.pan e14 p22=>some (.pan e14 p22)
      |.pan e13 p20=>some (.pan e13 p20)
  |.inr o=>some o
end
def FV (n:Nat)(p:Ad):Option (Ex Ao Ad BB) :=
 (AI p).bind fun t =>
 bif (t.1.Kind == 1) then
  some (.ok (BB.mk 1 t.1.N t.1.S (Ag.mk 0 0 ⟨#[]⟩ [] 0) t.1.At) t.2)
 else
  bif (t.1.Kind == 2) then
   some (.ok (BB.mk 2 t.1.N t.1.S (Ag.mk 0 0 ⟨#[]⟩ [] 0) t.1.At) t.2)
  else
   bif (t.1.Kind == 3) then
    some (.ok (BB.mk 3 t.1.N t.1.S (Ag.mk 0 0 ⟨#[]⟩ [] 0) t.1.At) t.2)
   else
    bif (decide (t.1.S=⟨#[45]⟩)) then
     (Gd t.2).bind fun y=>match y with
     |.ok n_ p1 =>
      some (.ok (BB.mk 2 (À (0-n_)) ⟨#[]⟩ (Ag.mk 0 0 ⟨#[]⟩ [] 0) t.1.At) p1)
     |.pan e p2=>some (.pan e p2)
    else
     bif (decide (t.1.S=⟨#[45,62]⟩)) then
      some (.ok (BB.mk 4 t.1.N ⟨#[]⟩ (Ag.mk 0 0 ⟨#[]⟩ [] 0) t.1.At) t.2)
     else
      bif (decide (t.1.S=⟨#[40]⟩)) then
       (AP n t.2 1).bind fun y1=>match y1 with
       |.ok e1 p3 =>
        (Df p3 ⟨#[41]⟩).bind fun y2=>match y2 with
        |.ok n_1 p5 =>
         some (.ok (BB.mk 5 t.1.N ⟨#[]⟩ e1 t.1.At) p5)
        |.pan e3 p6=>some (.pan e3 p6)
       |.pan e2 p4=>some (.pan e2 p4)
      else
       some (.ok (BB.mk 0 t.1.N ⟨#[]⟩ (Ag.mk 0 0 ⟨#[]⟩ [] 0) t.1.At) t.2)
mutual
def Eb:Nat->Int->(List Ap)->Int->(List Ax)->Option (((List Ap)×Int×(List Ax)) ⊕ (Ex Ao Ad Ax))
 |0,_,_,_,_=>none
 |n+1,depth,p9,p10,f2 =>
  (Be (Ad.mk p9 p10) ⟨#[125]⟩).bind fun i =>
  bif (!i) then
   (BT n (Ad.mk p9 p10) (À (depth+1))).bind fun y5=>match y5 with
   |.ok f3 p11 =>
    (some [f3]).bind fun l =>
    (Ca 72 f2 l).bind fun l1 =>
    Eb n depth p11.l p11.forms l1
   |.pan e5 p12=>some (.inr (.pan e5 p12))
  else
   some (.inl (p9,p10,f2))
def CU:Nat->(List Ap)->Int->(List BB)->Option (((List Ap)×Int×(List BB)) ⊕ (Ex Ao Ad Ax))
 |0,_,_,_=>none
 |n+1,p13,p14,f4 =>
  (((Be (Ad.mk p13 p14) ⟨#[59]⟩).bind fun i2 =>
  bif (!i2) then
   (Be (Ad.mk p13 p14) ⟨#[123]⟩).bind fun i3 =>
   some (!i3)
  else
   some false
  ):Option Bool).bind fun v49 =>
   bif v49 then
    (((Dn (Ad.mk p13 p14)).bind fun b =>
    bif (!b) then
     (Be (Ad.mk p13 p14) ⟨#[45,62]⟩).bind fun i1 =>
     some (!i1)
    else
     some false
    ):Option Bool).bind fun v57 =>
     ((bif v57 then
      (Bi (Ad.mk p13 p14) 5).bind fun y12=>match y12 with
      |.ok f6 p23 =>
       some (.inl (p23.l,p23.forms))
      |.pan e12 p24=>some (.inr (.pan e12 p24))
     else
      some (.inl (p13,p14))
     ):Option (((List Ap)×Int) ⊕ (Ex Ao Ad Ax))).bind fun y8=>match y8 with
     |.inl (p15,p16) =>
      bif ((f4.length:Int) == 40) then
       (Bi (Ad.mk p15 p16) 2).bind fun y9=>match y9 with
       |.ok f5 p17 =>
        (FV n p17).bind fun y10=>match y10 with
        |.ok a_ p19 =>
         (some [a_]).bind fun l2 =>
         (Ca 104 f4 l2).bind fun l3 =>
         CU n p19.l p19.forms l3
        |.pan e10 p20=>some (.inr (.pan e10 p20))
       |.pan e9 p18=>some (.inr (.pan e9 p18))
      else
       (FV n (Ad.mk p15 p16)).bind fun y11=>match y11 with
       |.ok a_1 p21 =>
        (some [a_1]).bind fun l4 =>
        (Ca 104 f4 l4).bind fun l5 =>
        CU n p21.l p21.forms l5
       |.pan e11 p22=>some (.inr (.pan e11 p22))
     |.inr o=>some (.inr o)
   else
    some (.inl (p13,p14,f4))
def BT:Nat->Ad->Int->Option (Ex Ao Ad Ax)
 |0,_,_=>none
 |n+1,p,depth =>
  (gi p.l 0).bind fun x =>
  ((bif (x.Kind != 1) then
   (Bi p 5).bind fun y14=>match y14 with
   |.ok f8 p27 =>
    some (.inl (p27.l,p27.forms))
   |.pan e14 p28=>some (.inr (.pan e14 p28))
  else
   some (.inl (p.l,p.forms))
  ):Option (((List Ap)×Int) ⊕ (Ex Ao Ad Ax))).bind fun y=>match y with
  |.inl (p1,p2) =>
   ((bif (decide (30<depth)) then
    some true
   else
    some (decide (2000<(À (p2+1))))
   ):Option Bool).bind fun v32 =>
    ((bif v32 then
     (Bi (Ad.mk p1 (À (p2+1))) 2).bind fun y13=>match y13 with
     |.ok f7 p25 =>
      some (.inl (p25.l,p25.forms))
     |.pan e13 p26=>some (.inr (.pan e13 p26))
    else
     some (.inl (p1,(À (p2+1))))
    ):Option (((List Ap)×Int) ⊕ (Ex Ao Ad Ax))).bind fun y2=>match y2 with
    |.inl (p3,p4) =>
     (AI (Ad.mk p3 p4)).bind fun t =>
     ((CU n t.2.l t.2.forms []
     ):Option (((List Ap)×Int×(List BB)) ⊕ (Ex Ao Ad Ax))).bind fun y3=>match y3 with
     |.inl (p5,p6,f) =>
      (AI (Ad.mk p5 p6)).bind fun n_ =>
      bif (decide (n_.1.S=⟨#[59]⟩)) then
       some (.ok (Ax.mk t.1.S f [] t.1.At) n_.2)
      else
       ((Eb n depth n_.2.l n_.2.forms []
       ):Option (((List Ap)×Int×(List Ax)) ⊕ (Ex Ao Ad Ax))).bind fun y4=>match y4 with
       |.inl (p7,p8,f1) =>
        (AI (Ad.mk p7 p8)).bind fun n_1 =>
        some (.ok (Ax.mk t.1.S f f1 t.1.At) n_1.2)
       |.inr o=>some o
     |.inr o=>some o
    |.inr o=>some o
  |.inr o=>some o
end
def Ey:Nat->(List Ax)->(List Ap)->Int->Option (((List Ax)×(List Ap)×Int) ⊕ (Ex Ao ((List Ax)×(List Ap)×Int) Unit))
 |0,_,_,_=>none
 |n+1,out2,q6,q7 =>
  (gi q6 0).bind fun x =>
  bif (x.Kind != 5) then
   (BT n (Ad.mk q6 q7) 1).bind fun y1=>match y1 with
   |.ok f s =>
    (Ca 72 out2 [f]).bind fun out3 =>
    Ey n out3 s.l s.forms
   |.pan e1 s1=>some (.inr (.pan e1 (out2,s1.l,s1.forms)))
  else
   some (.inl (out2,q6,q7))
def Ht (n:Nat)(q:Int)(q1:Int)(out:(List Ax))(bad:Int)(bad1:Int)(q2:(List Ap))(q3:Int):Option (Ex Ao ((List Ax)×(List Ap)×Int) Unit) :=
 ((Ey n out q2 q3
 ):Option (((List Ax)×(List Ap)×Int) ⊕ (Ex Ao ((List Ax)×(List Ap)×Int) Unit))).bind fun y=>match y with
 |.inl (out1,q4,q5) =>
  some (.ok () (out1,q4,q5))
 |.inr o=>some o
def Gp (n:Nat)(q:Int)(q1:Int)(out:(List Ax))(src:Æ):Option (An×(List Ax)) :=
 (Ss src).bind fun t =>
 bif (t.2.E != 0) then
  some (t.2,out)
 else
  (Ht n q q1 out t.2.At t.2.E t.1 0).bind fun y=>match y with
  |.ok f c =>
   (gi c.2.1 0).bind fun x =>
   bif (x.Kind != 5) then
    (Bi (Ad.mk c.2.1 c.2.2) 5).bind fun y1=>match y1 with
    |.ok f1 s =>
     some ((An.mk 0 0),c.1)
    |.pan e1 s1=>some ((An.mk e1.At e1.E),c.1)
   else
    some ((An.mk 0 0),c.1)
  |.pan e c1=>some ((An.mk e.At e.E),c1.1)
def L1 (n:Nat)(src:Æ):Option ((List Ax)×An) :=
 (Gp n 0 0 [] src).bind fun bad =>
 bif (bad.1.E != 0) then
  some ([],bad.1)
 else
  some (bad.2,bad.1)
def FI (m_:Ah)(x:(List Int)):Option Int :=
 (gi x 0).bind fun x1 =>
 some (À (0-x1))
def EZ (x:Int)(y:Int):Option (Int×Int) :=
 some ((IntKind.u64.wrap ((IntKind.u64.wrap ((IntKind.u64.wrap ((x.fdiv (2 ^ min (32:Int).toNat IntKind.u64.bits))*(y.fdiv (2 ^ min (32:Int).toNat IntKind.u64.bits))))+((IntKind.u64.wrap ((IntKind.u64.wrap ((x.fdiv (2 ^ min (32:Int).toNat IntKind.u64.bits))*(bits .and .u64 y 4294967295)))+((IntKind.u64.wrap ((bits .and .u64 x 4294967295)*(bits .and .u64 y 4294967295))).fdiv (2 ^ min (32:Int).toNat IntKind.u64.bits)))).fdiv (2 ^ min (32:Int).toNat IntKind.u64.bits))))+((IntKind.u64.wrap ((bits .and .u64 (IntKind.u64.wrap ((IntKind.u64.wrap ((x.fdiv (2 ^ min (32:Int).toNat IntKind.u64.bits))*(bits .and .u64 y 4294967295)))+((IntKind.u64.wrap ((bits .and .u64 x 4294967295)*(bits .and .u64 y 4294967295))).fdiv (2 ^ min (32:Int).toNat IntKind.u64.bits)))) 4294967295)+(IntKind.u64.wrap ((bits .and .u64 x 4294967295)*(y.fdiv (2 ^ min (32:Int).toNat IntKind.u64.bits)))))).fdiv (2 ^ min (32:Int).toNat IntKind.u64.bits)))),(IntKind.u64.wrap (x*y)))
def D4 (a_:Int)(b:Int):Option Int :=
 (EZ (IntKind.u64.wrap (if (À (0-a_)) > a_ then (À (0-a_)) else a_)) (IntKind.u64.wrap (if (À (0-b)) > b then (À (0-b)) else b))).bind fun m_ =>
 ((bif (m_.1 == 0) then
  some (decide (m_.2<999999999999999))
 else
  some false
 ):Option Bool).bind fun v27 =>
  ((bif v27 then
   some (À m_.2)
  else
   some 999999999999999
  ):Option Int).bind fun n_ =>
   bif (!((decide (a_<0)) == (decide (b<0)))) then
    some (À (0-n_))
   else
    some n_
def FH (m_:Ah)(x:(List Int)):Option Int :=
 (gi x 0).bind fun x1 =>
 (gi x 1).bind fun x2 =>
 (D4 x1 x2).bind fun t =>
 some t
def CP (n_:Int):Option Int :=
 some (if (if 999999999999999<n_ then 999999999999999 else n_) > (-999999999999999) then (if 999999999999999<n_ then 999999999999999 else n_) else (-999999999999999))
def FG (m_:Ah)(x:(List Int)):Option Int :=
 (gi x 0).bind fun x1 =>
 (gi x 1).bind fun x2 =>
 (CP (À (x1+x2))).bind fun n_ =>
 some n_
def FJ (n_:Int):Option Int :=
 some (if (if 41667<n_ then 41667 else n_) > 0 then (if 41667<n_ then 41667 else n_) else 0)
def D5 (d:Int)(n_:Int):Option Int :=
 bif (d == 41667) then
  some d
 else
  (FJ (À (d+n_))).bind fun d1 =>
  some d1
def FF (m_:Ah)(x:(List Int)):Option Int :=
 (gi x 0).bind fun x1 =>
 (gi x 1).bind fun x2 =>
 (D5 x1 x2).bind fun m_1 =>
 some m_1
def FE (m_:Ah)(x:(List Int)):Option Int :=
 (gi x 0).bind fun x1 =>
 (gi x 1).bind fun x2 =>
 (CP (À (x1-x2))).bind fun n_ =>
 some n_
def FD (m_:Ah)(x:(List Int)):Option Int :=
 (gi x 0).bind fun x1 =>
 (gi x 1).bind fun x2 =>
 (D5 x1 (À (0-x2))).bind fun m_1 =>
 some m_1
def FC (m_:Ah)(x:(List Int)):Option Int :=
 (gi x 0).bind fun x1 =>
 (gi x 1).bind fun x2 =>
 some (À (x1-x2))
def FB (m_:Ah)(x:(List Int)):Option Int :=
 (gi x 0).bind fun x1 =>
 some (À (1-x1))
def FA (m_:Ah)(x:(List Int)):Option Int :=
 (gi x 0).bind fun x1 =>
 (gi x 1).bind fun x2 =>
 some (bits .and .i64 x1 x2)
def Fw (m_:Ah)(x:(List Int)):Option Int :=
 (gi x 0).bind fun x1 =>
 (gi x 1).bind fun x2 =>
 some (bits .or .i64 x1 x2)
def Fv (m_:Ah)(x:(List Int)):Option Int :=
 (gi x 0).bind fun x1 =>
 (FJ x1).bind fun d =>
 some d
def Fu (m_:Ah)(x:(List Int)):Option Int :=
 (gi x 0).bind fun x1 =>
 some (if (if 1000<x1 then 1000 else x1) > 0 then (if 1000<x1 then 1000 else x1) else 0)
def Fk (m_:Ah)(x:(List Int)):Option Int :=
 (gi x 0).bind fun x1 =>
 (gi x (À (2-x1))).bind fun x2 =>
 some x2
def Fj (m_:Ah)(x:(List Int)):Option Int :=
 (gi x 0).bind fun x1 =>
 (gi x 1).bind fun x2 =>
 some (if x2<x1 then x2 else x1)
def Fi (m_:Ah)(x:(List Int)):Option Int :=
 (gi x 0).bind fun x1 =>
 (gi x 1).bind fun x2 =>
 some (if x2 > x1 then x2 else x1)
def Fs (a_:Int)(b:Int):Option Bool :=
 some (decide (a_<b))
def Fq (a_:Int)(b:Int):Option Bool :=
 some (decide (a_<=b))
def Fp (a_:Int)(b:Int):Option Bool :=
 some (decide (b<a_))
def Fo (a_:Int)(b:Int):Option Bool :=
 some (decide (b<=a_))
def Fm (a_:Int)(b:Int):Option Bool :=
 some (a_ == b)
def Fl (a_:Int)(b:Int):Option Bool :=
 some (a_ != b)
def Bp:Nat->Ah->Int->Int->Int->Int->Option Int
 |0,_,_,_,_,_=>none
 |n+1,m_,kind,who,best1,v14 =>
  bif (decide (v14<(m_.d.Facts.length:Int))) then
   (gi m_.d.Facts v14).bind fun x1 =>
   ((bif (x1.Kind == kind) then
    bif (x1.Who == who) then
     bif (decide (x1.Known<=m_.known)) then
      bif (decide (best1<0)) then
       some true
      else
       (gi m_.d.Facts best1).bind fun x2 =>
       some (decide (x2.Known<=x1.Known))
     else
      some false
    else
     some false
   else
    some false
   ):Option Bool).bind fun v51 =>
    bif v51 then
     Bp n m_ kind who v14 (À (v14+1))
    else
     Bp n m_ kind who best1 (À (v14+1))
  else
   some best1
theorem DU (n:Nat)(m_:Ah)(kind:Int)(who:Int)(best1:Int)(v14:Int):Bp (n+1) m_ kind who best1 v14 =
 bif (decide (v14<(m_.d.Facts.length:Int))) then
  (gi m_.d.Facts v14).bind fun x1 =>
  ((bif (x1.Kind == kind) then
   bif (x1.Who == who) then
    bif (decide (x1.Known<=m_.known)) then
     bif (decide (best1<0)) then
      some true
     else
      (gi m_.d.Facts best1).bind fun x2 =>
      some (decide (x2.Known<=x1.Known))
    else
     some false
   else
    some false
  else
   some false
  ):Option Bool).bind fun v51 =>
   bif v51 then
    Bp n m_ kind who v14 (À (v14+1))
   else
    Bp n m_ kind who best1 (À (v14+1))
 else
  some best1:=by rw [Bp]
def C5 (n:Nat)(m_:Ah)(kind:Int)(who:Int):Option Int :=
 ((Bp n m_ kind who (-1) 0
 ):Option Int).bind fun best =>
  bif (decide (best<0)) then
   some 41667
  else
   (gi m_.d.Facts best).bind fun x =>
   some x.Day
def Dt (b:Bool):Option Int :=
 bif b then
  some 1
 else
  some 0
def Ft (n:Nat)(k:Int)(m_:Ah)(x:(List Int)):Option Int :=
 (gi x 0).bind fun x1 =>
 (C5 n m_ (À (k+1)) x1).bind fun f =>
 some f
def DT (m_:Ah)(x:(List Int)):Option Int :=
 (gi x 0).bind fun x1 =>
 (gi x 1).bind fun x2 =>
 (Fs x1 x2).bind fun o_ =>
 (Dt o_).bind fun f =>
 some f
def DS (m_:Ah)(x:(List Int)):Option Int :=
 (gi x 0).bind fun x1 =>
 (gi x 1).bind fun x2 =>
 (Fq x1 x2).bind fun o_ =>
 (Dt o_).bind fun f =>
 some f
def DR (m_:Ah)(x:(List Int)):Option Int :=
 (gi x 0).bind fun x1 =>
 (gi x 1).bind fun x2 =>
 (Fp x1 x2).bind fun o_ =>
 (Dt o_).bind fun f =>
 some f
def DQ (m_:Ah)(x:(List Int)):Option Int :=
 (gi x 0).bind fun x1 =>
 (gi x 1).bind fun x2 =>
 (Fo x1 x2).bind fun o_ =>
 (Dt o_).bind fun f =>
 some f
def DP (m_:Ah)(x:(List Int)):Option Int :=
 (gi x 0).bind fun x1 =>
 (gi x 1).bind fun x2 =>
 (Fm x1 x2).bind fun o_ =>
 (Dt o_).bind fun f =>
 some f
def DO (m_:Ah)(x:(List Int)):Option Int :=
 (gi x 0).bind fun x1 =>
 (gi x 1).bind fun x2 =>
 (Fl x1 x2).bind fun o_ =>
 (Dt o_).bind fun f =>
 some f
def E4 (op:Int):Option Int :=
 ((bif (op == 1) then
  some (op == 1)
 else
  bif (op == 2) then
   some (op == 2)
  else
   some (op == 3)
 ):Option Bool).bind fun v4 =>
  bif v4 then
   some 0
  else
   ((bif (op == 5) then
    some (op == 5)
   else
    some (op == 6)
   ):Option Bool).bind fun v8 =>
    bif v8 then
     some 1
    else
     bif (op == 20) then
      some 3
     else
      bif (op == 4) then
       some (-1)
      else
       some 2
def AV (s:(List Ab))(s1:(List (ByteArray×Int)))(e:Int)(e1:Int)(e2:Æ)(e3:(List Ag))(e4:Int)(o_:Int)(o_1:Æ)(o_2:(List Int))(o_3:Int)(o_4:Do)(p:Int)(p1:Int)(x:Int):Option (Int×Ab×An) :=
 some (0,(Ab.mk 0 ⟨#[]⟩ [] 0 Do.nil),(An.mk e4 x))
def BH:Nat->(List Int)->(List Int)->Int->Option (Unit ⊕ Bool)
 |0,_,_,_=>none
 |n+1,s1,s2,v13 =>
  bif (decide (v13<(s1.length:Int))) then
   (gi s1 v13).bind fun x =>
   (gi s2 v13).bind fun x1 =>
   bif (x != x1) then
    some (.inr false)
   else
    BH n s1 s2 (À (v13+1))
  else
   some (.inl ())
theorem G7 (n:Nat)(s1:(List Int))(s2:(List Int))(v13:Int):BH (n+1) s1 s2 v13 =
 bif (decide (v13<(s1.length:Int))) then
  (gi s1 v13).bind fun x =>
  (gi s2 v13).bind fun x1 =>
  bif (x != x1) then
   some (.inr false)
  else
   BH n s1 s2 (À (v13+1))
 else
  some (.inl ()):=by rw [BH]
def Dl (n:Nat)(s1:(List Int))(s2:(List Int)):Option Bool :=
 bif ((s1.length:Int) != (s2.length:Int)) then
  some false
 else
  ((BH n s1 s2 0
  ):Option (Unit ⊕ Bool)).bind fun y=>match y with
  |.inl _ =>
   some true
  |.inr o=>some o
mutual
def AN:Nat->AW->Ag->(List Int)->Bool->Bool->Int->Option ((Bool×Bool) ⊕ (Int×Ab×An))
 |0,_,_,_,_,_,_=>none
 |n+1,s,e,types,known1,fits1,v121 =>
  bif (decide (v121<(s.ops.length:Int))) then
   (gi s.ops v121).bind fun x =>
   ((bif (x.op != e.Op) then
    some true
   else
    bif (x.op == 4) then
     some (!decide (x.name=e.S))
    else
     some false
   ):Option Bool).bind fun v141 =>
    bif v141 then
     AN n s e types known1 fits1 (À (v121+1))
    else
     ((bif fits1 then
      some true
     else
      some ((x.args.length:Int) == (types.length:Int))
     ):Option Bool).bind fun fits2 =>
      (Dl n x.args types).bind fun e9 =>
      bif e9 then
       some (.inr (x.kind,x,(An.mk 0 0)))
      else
       AN n s e types true fits2 (À (v121+1))
  else
   some (.inl (known1,fits1))
def Bl:Nat->Ag->AW->(List Int)->Int->Option ((List Int) ⊕ (Int×Ab×An))
 |0,_,_,_,_=>none
 |n+1,e,s,types1,v52 =>
  bif (decide (v52<(e.Kids.length:Int))) then
   (gi e.Kids v52).bind fun x1 =>
   (A4 n s x1).bind fun f7 =>
   bif (f7.2.2.E != 0) then
    some (.inr (0,(Ab.mk 0 ⟨#[]⟩ [] 0 Do.nil),f7.2.2))
   else
    (some [f7.1]).bind fun l =>
    (Ca 8 types1 l).bind fun l1 =>
    Bl n e s l1 (À (v52+1))
  else
   some (.inl types1)
def A4:Nat->AW->Ag->Option (Int×Ab×An)
 |0,_,_=>none
 |n+1,s,e =>
  (E4 e.Op).bind fun n_ =>
  ((bif (decide (e.Op<1)) then
   some true
  else
   bif (decide (20<e.Op)) then
    some true
   else
    bif (decide (0<=n_)) then
     some ((e.Kids.length:Int) != n_)
    else
     some false
  ):Option Bool).bind fun v43 =>
   bif v43 then
    (AV s.ops s.names e.Op e.N e.S e.Kids e.At 0 ⟨#[]⟩ [] 0 Do.nil 0 0 1).bind fun f =>
    some (f.1,f.2.1,f.2.2)
   else
    ((Bl n e s [] 0
    ):Option ((List Int) ⊕ (Int×Ab×An))).bind fun y1=>match y1 with
    |.inl types =>
     bif (e.Op == 1) then
      ((bif (decide (e.N<0)) then
       some true
      else
       some (decide (999999999999999<e.N))
      ):Option Bool).bind fun v84 =>
       bif v84 then
        (AV s.ops s.names e.Op e.N e.S e.Kids e.At 0 ⟨#[]⟩ [] 0 Do.nil 0 0 1).bind fun f1 =>
        some (f1.1,f1.2.1,f1.2.2)
       else
        some (1,(Ab.mk 0 ⟨#[]⟩ [] 0 Do.nil),(An.mk 0 0))
     else
      bif (e.Op == 2) then
       (AV s.ops s.names e.Op e.N e.S e.Kids e.At 0 ⟨#[]⟩ [] 0 Do.nil 0 0 7).bind fun f2 =>
       some (f2.1,f2.2.1,f2.2.2)
      else
       bif (e.Op == 3) then
        bif (Dz s.names e.S).2 then
         some ((Dz s.names e.S).1,(Ab.mk 0 ⟨#[]⟩ [] 0 Do.nil),(An.mk 0 0))
        else
         (AV s.ops s.names e.Op e.N e.S e.Kids e.At 0 ⟨#[]⟩ [] 0 Do.nil 0 0 6).bind fun f3 =>
         some (f3.1,f3.2.1,f3.2.2)
       else
        ((AN n s e types false false 0
        ):Option ((Bool×Bool) ⊕ (Int×Ab×An))).bind fun y3=>match y3 with
        |.inl (known,fits) =>
         ((bif (e.Op == 4) then
          some (!known)
         else
          some false
         ):Option Bool).bind fun v160 =>
          bif v160 then
           (AV s.ops s.names e.Op e.N e.S e.Kids e.At 0 ⟨#[]⟩ [] 0 Do.nil 0 0 6).bind fun f4 =>
           some (f4.1,f4.2.1,f4.2.2)
          else
           ((bif (e.Op == 4) then
            some (!fits)
           else
            some false
           ):Option Bool).bind fun v173 =>
            bif v173 then
             (AV s.ops s.names e.Op e.N e.S e.Kids e.At 0 ⟨#[]⟩ [] 0 Do.nil 0 0 1).bind fun f5 =>
             some (f5.1,f5.2.1,f5.2.2)
            else
             (AV s.ops s.names e.Op e.N e.S e.Kids e.At 0 ⟨#[]⟩ [] 0 Do.nil 0 0 7).bind fun f6 =>
             some (f6.1,f6.2.1,f6.2.2)
        |.inr o=>some o
    |.inr o=>some o
end
theorem Dr (n:Nat)(s:AW)(e:Ag)(types:(List Int))(known1:Bool)(fits1:Bool)(v121:Int):AN (n+1) s e types known1 fits1 v121 =
 bif (decide (v121<(s.ops.length:Int))) then
  (gi s.ops v121).bind fun x =>
  ((bif (x.op != e.Op) then
   some true
  else
   bif (x.op == 4) then
    some (!decide (x.name=e.S))
   else
    some false
  ):Option Bool).bind fun v141 =>
   bif v141 then
    AN n s e types known1 fits1 (À (v121+1))
   else
    ((bif fits1 then
     some true
    else
     some ((x.args.length:Int) == (types.length:Int))
    ):Option Bool).bind fun fits2 =>
     (Dl n x.args types).bind fun e9 =>
     bif e9 then
      some (.inr (x.kind,x,(An.mk 0 0)))
     else
      AN n s e types true fits2 (À (v121+1))
 else
  some (.inl (known1,fits1)):=by rw [AN]
theorem F3 (n:Nat)(e:Ag)(s:AW)(types1:(List Int))(v52:Int):Bl (n+1) e s types1 v52 =
 bif (decide (v52<(e.Kids.length:Int))) then
  (gi e.Kids v52).bind fun x1 =>
  (A4 n s x1).bind fun f7 =>
  bif (f7.2.2.E != 0) then
   some (.inr (0,(Ab.mk 0 ⟨#[]⟩ [] 0 Do.nil),f7.2.2))
  else
   (some [f7.1]).bind fun l =>
   (Ca 8 types1 l).bind fun l1 =>
   Bl n e s l1 (À (v52+1))
 else
  some (.inl types1):=by rw [Bl]
def Gy (n:Nat)(d:Do)(m:Ah)(x:List Int):Option Int:=match d with
 |.c 82=>FI m x
 |.c 83=>FH m x
 |.c 85=>FG m x
 |.c 87=>FF m x
 |.c 89=>FE m x
 |.c 90=>FD m x
 |.c 91=>FC m x
 |.c 92=>FB m x
 |.c 93=>FA m x
 |.c 94=>Fw m x
 |.c 95=>Fv m x
 |.c 97=>Fu m x
 |.c 108=>Fk m x
 |.c 109=>Fj m x
 |.c 110=>Fi m x
 |.k k=>Ft n k m x
 |.is 100=>DT m x
 |.is 101=>DS m x
 |.is 102=>DR m x
 |.is 103=>DQ m x
 |.is 104=>DP m x
 |.is 105=>DO m x
 |_=>none
mutual
def AQ:Nat->Ag->AW->Ah->(List Int)->Int->Option (List Int)
 |0,_,_,_,_,_=>none
 |n+1,e,s,m_,x1,v35 =>
  bif (decide (v35<(e.Kids.length:Int))) then
   (gi e.Kids v35).bind fun x2 =>
   (AA n s x2 m_).bind fun v_ =>
   (some [v_]).bind fun l =>
   (Ca 8 x1 l).bind fun l1 =>
   AQ n e s m_ l1 (À (v35+1))
  else
   some x1
def AA:Nat->AW->Ag->Ah->Option Int
 |0,_,_,_=>none
 |n+1,s,e,m_ =>
  bif (e.Op == 1) then
   some e.N
  else
   bif (e.Op == 3) then
    some ((Dz [(⟨#[121,101,97,114]⟩,365),(⟨#[115,116,111,114,101,100]⟩,m_.d.Stored),(⟨#[110,101,118,101,114]⟩,41667),(⟨#[111,119,110,101,114]⟩,m_.d.Owner)] e.S).1)
   else
    ((AQ n e s m_ [] 0
    ):Option (List Int)).bind fun x =>
     (A4 n s (Ag.mk e.Op e.N e.S e.Kids e.At)).bind fun f =>
     (gfn f.2.1.do_).bind fun d =>
     (Gy n d m_ x).bind fun r1 =>
     some r1
end
theorem EX (n:Nat)(e:Ag)(s:AW)(m_:Ah)(x1:(List Int))(v35:Int):AQ (n+1) e s m_ x1 v35 =
 bif (decide (v35<(e.Kids.length:Int))) then
  (gi e.Kids v35).bind fun x2 =>
  (AA n s x2 m_).bind fun v_ =>
  (some [v_]).bind fun l =>
  (Ca 8 x1 l).bind fun l1 =>
  AQ n e s m_ l1 (À (v35+1))
 else
  some x1:=by rw [AQ]
theorem DN (n:Nat)(s:AW)(e:Ag)(m_:Ah):AA (n+1) s e m_ =
 bif (e.Op == 1) then
  some e.N
 else
  bif (e.Op == 3) then
   some ((Dz [(⟨#[121,101,97,114]⟩,365),(⟨#[115,116,111,114,101,100]⟩,m_.d.Stored),(⟨#[110,101,118,101,114]⟩,41667),(⟨#[111,119,110,101,114]⟩,m_.d.Owner)] e.S).1)
  else
   ((AQ n e s m_ [] 0
   ):Option (List Int)).bind fun x =>
    (A4 n s (Ag.mk e.Op e.N e.S e.Kids e.At)).bind fun f =>
    (gfn f.2.1.do_).bind fun d =>
    (Gy n d m_ x).bind fun r1 =>
    some r1:=by rw [AA]
abbrev hT (l:List Ap):PV:=hP l Fg
abbrev oT (l:List Ap):PV:=oP l Fg
abbrev hX (l:List Ag):PV:=hP l Bf
abbrev oX (l:List Ag):PV:=oP l Bf
abbrev hF (l:List Ax):PV:=hP l Cq
abbrev oF (l:List Ax):PV:=oP l Cq
abbrev hA (l:List BB):PV:=hP l FM
abbrev oA (l:List BB):PV:=oP l FM
abbrev hS (l:List Æ):PV:=hP l FL
abbrev oS (l:List Æ):PV:=oP l FL
abbrev hI (l:List Int):PV:=hP l BJ
abbrev oI (l:List Int):PV:=oP l BJ
abbrev hZ (l:List Bb):PV:=hP l CO
abbrev oZ (l:List Bb):PV:=oP l CO
abbrev hO (l:List Ab):PV:=hP l AT
abbrev oO (l:List Ab):PV:=oP l AT
abbrev hE (l:List AJ):PV:=hP l E7
abbrev oE (l:List AJ):PV:=oP l E7
end Go.Sp
namespace Go.Sp
open Go
def Ev {α:Type}(f:Nat->Option α)(a:α):Prop:=∃ N,∀ n,N<=n->f n=some a
namespace Ev
variable {α β:Type} {f:Nat->Option α} {a:α} {b:β}
theorem const {x:Option α}(h:x=some a):Ev (fun _=>x) a:=⟨0,fun _ _=>h⟩
theorem pure:Ev (fun _=>some a) a:=const rfl
theorem of (h:∀ n,f n=some a):Ev f a:=⟨0,fun n _=>h n⟩
theorem bind {g:Nat->α->Option β}(h:Ev f a)(k:Ev (fun n=>g n a) b):Ev (fun n=>(f n).bind (g n)) b:=by
 obtain⟨N,h⟩:=h
 obtain⟨M,k⟩:=k
 exact⟨max N M,fun n hn=>by
  show (f n).bind (g n)=some b
  rw [h n (by omega)];exact k n (by omega)⟩
theorem step {F:Nat->Option α}(e:∀ n,F (n+1)=f n)(h:Ev f a):Ev F a:=by
 obtain⟨N,h⟩:=h
 refine⟨N+1,fun n hn=>?_⟩
 obtain⟨m,rfl⟩:∃ m,n=m+1:=⟨n-1,by omega⟩
 rw [e];exact h m (by omega)
theorem congr {g:Nat->Option α}(h:Ev g a)(e:∀ n,f n=g n):Ev f a:=by
 obtain⟨N,h⟩:=h
 exact⟨N,fun n hn=>(e n).trans (h n hn)⟩
theorem get (h:Ev f a):∃ n,f n=some a:=by
 obtain⟨N,h⟩:=h
 exact⟨N,h N (à _)⟩
theorem uniq {a':α}(h:Ev f a)(k:Ev f a'):a=a':=by
 obtain⟨N,h⟩:=h
 obtain⟨M,k⟩:=k
 have:=(h (max N M) (by omega)).symm.trans (k (max N M) (by omega))
 exact Af this
end Ev
theorem Ew {x:Int}(h1 : -9223372036854775808<=x)(h2:x<9223372036854775808):À x=x:=by
 unfold À;rw [IntKind.wrap_i64];omega
end Go.Sp
namespace Go.Sp
open Go Go.Vl
set_option linter.unusedVariables false
def AY:Nat->(List Int)->(List Ab)->Int->Option (List Ab)
 |0,_,_,_=>none
 |n+1,l1,l3,v86 =>
  bif (decide (v86<(l1.length:Int))) then
   (gi l1 v86).bind fun x =>
   (some [3,x,x]).bind fun l4 =>
   (some [(Ab.mk 20 ⟨#[]⟩ l4 x (Do.c 108))]).bind fun l5 =>
   (Ca 64 l3 l5).bind fun l6 =>
   ((bif (x == 1) then
    some true
   else
    some (x == 2)
   ):Option Bool).bind fun v103 =>
    bif v103 then
     (some [x,x]).bind fun l7 =>
     (some [x,x]).bind fun l8 =>
     (some [(Ab.mk 4 ⟨#[109,105,110]⟩ l7 x (Do.c 109)),(Ab.mk 4 ⟨#[109,97,120]⟩ l8 x (Do.c 110))]).bind fun l9 =>
     (Ca 64 l6 l9).bind fun l10 =>
     AY n l1 l10 (À (v86+1))
    else
     AY n l1 l6 (À (v86+1))
  else
   some l3
theorem Ds (n:Nat)(l1:(List Int))(l3:(List Ab))(v86:Int):AY (n+1) l1 l3 v86 =
 bif (decide (v86<(l1.length:Int))) then
  (gi l1 v86).bind fun x =>
  (some [3,x,x]).bind fun l4 =>
  (some [(Ab.mk 20 ⟨#[]⟩ l4 x (Do.c 108))]).bind fun l5 =>
  (Ca 64 l3 l5).bind fun l6 =>
  ((bif (x == 1) then
   some true
  else
   some (x == 2)
  ):Option Bool).bind fun v103 =>
   bif v103 then
    (some [x,x]).bind fun l7 =>
    (some [x,x]).bind fun l8 =>
    (some [(Ab.mk 4 ⟨#[109,105,110]⟩ l7 x (Do.c 109)),(Ab.mk 4 ⟨#[109,97,120]⟩ l8 x (Do.c 110))]).bind fun l9 =>
    (Ca 64 l6 l9).bind fun l10 =>
    AY n l1 l10 (À (v86+1))
   else
    AY n l1 l6 (À (v86+1))
 else
  some l3:=by rw [AY]
def Z6 (n:Nat)(l:(List Ab)):Option (List Ab) :=
 (some [1,2,3,4]).bind fun l1 =>
 ((AY n l1 l 0
 ):Option (List Ab)).bind fun l2 =>
  some l2
def Bm:Nat->(List Int)->Int->Nat->(List Ab)->Int->Option ((List Ab)×Int×Bool)
 |0,_,_,_,_,_=>none
 |n+1,l1,op,f,l3,v601 =>
  bif (decide (v601<(l1.length:Int))) then
   (gi l1 v601).bind fun x =>
   ((bif (x != 4) then
    some true
   else
    bif (op == 12) then
     some true
    else
     some (op == 13)
   ):Option Bool).bind fun v73 =>
    bif v73 then
     (some [x,x]).bind fun l4 =>
     (some [(Ab.mk op ⟨#[]⟩ l4 3 (Do.is f))]).bind fun l5 =>
     (Ca 64 l3 l5).bind fun l6 =>
     Bm n l1 op f l6 (À (v601+1))
    else
     Bm n l1 op f l3 (À (v601+1))
  else
   some (l3,v601,(decide (v601<(l1.length:Int))))
theorem Bz (n:Nat)(l1:(List Int))(op:Int)(f:Nat)(l3:(List Ab))(v601:Int):Bm (n+1) l1 op f l3 v601 =
 bif (decide (v601<(l1.length:Int))) then
  (gi l1 v601).bind fun x =>
  ((bif (x != 4) then
   some true
  else
   bif (op == 12) then
    some true
   else
    some (op == 13)
  ):Option Bool).bind fun v73 =>
   bif v73 then
    (some [x,x]).bind fun l4 =>
    (some [(Ab.mk op ⟨#[]⟩ l4 3 (Do.is f))]).bind fun l5 =>
    (Ca 64 l3 l5).bind fun l6 =>
    Bm n l1 op f l6 (À (v601+1))
   else
    Bm n l1 op f l3 (À (v601+1))
 else
  some (l3,v601,(decide (v601<(l1.length:Int)))):=by rw [Bm]
def Acb (n:Nat)(l:(List Ab))(op:Int)(f:Nat):Option (List Ab) :=
 (some [1,2,4]).bind fun l1 =>
 ((Bm n l1 op f l 0
 ):Option ((List Ab)×Int×Bool)).bind fun y=>match y with
 |(l2,v60,v61) =>
  some l2
def BP:Nat->(List Æ)->(List Ab)->Int->Option ((List Ab)×Int×Bool)
 |0,_,_,_=>none
 |n+1,l13,l15,v371 =>
  bif (decide (v371<(l13.length:Int))) then
   (gi l13 v371).bind fun x =>
   (some [4]).bind fun l16 =>
   (some [(Ab.mk 4 x l16 2 (Do.k v371))]).bind fun l17 =>
   (Ca 64 l15 l17).bind fun l18 =>
   BP n l13 l18 (À (v371+1))
  else
   some (l15,v371,(decide (v371<(l13.length:Int))))
theorem I6 (n:Nat)(l13:(List Æ))(l15:(List Ab))(v371:Int):BP (n+1) l13 l15 v371 =
 bif (decide (v371<(l13.length:Int))) then
  (gi l13 v371).bind fun x =>
  (some [4]).bind fun l16 =>
  (some [(Ab.mk 4 x l16 2 (Do.k v371))]).bind fun l17 =>
  (Ca 64 l15 l17).bind fun l18 =>
  BP n l13 l18 (À (v371+1))
 else
  some (l15,v371,(decide (v371<(l13.length:Int)))):=by rw [BP]
def Ad9 (n:Nat):Option (List Ab) :=
 (some [1]).bind fun l =>
 (some [1,1]).bind fun l1 =>
 (some [1,1]).bind fun l2 =>
 (some [2,1]).bind fun l3 =>
 (some [1,1]).bind fun l4 =>
 (some [2,1]).bind fun l5 =>
 (some [2,2]).bind fun l6 =>
 (some [3]).bind fun l7 =>
 (some [3,3]).bind fun l8 =>
 (some [3,3]).bind fun l9 =>
 (some [1]).bind fun l10 =>
 (some [1]).bind fun l11 =>
 (some [(Ab.mk 6 ⟨#[]⟩ l 1 (Do.c 82)),(Ab.mk 7 ⟨#[]⟩ l1 1 (Do.c 83)),(Ab.mk 10 ⟨#[]⟩ l2 1 (Do.c 85)),(Ab.mk 10 ⟨#[]⟩ l3 2 (Do.c 87)),(Ab.mk 11 ⟨#[]⟩ l4 1 (Do.c 89)),(Ab.mk 11 ⟨#[]⟩ l5 2 (Do.c 90)),(Ab.mk 11 ⟨#[]⟩ l6 1 (Do.c 91)),(Ab.mk 5 ⟨#[]⟩ l7 3 (Do.c 92)),(Ab.mk 18 ⟨#[]⟩ l8 3 (Do.c 93)),(Ab.mk 19 ⟨#[]⟩ l9 3 (Do.c 94)),(Ab.mk 4 ⟨#[100,97,121]⟩ l10 2 (Do.c 95)),(Ab.mk 4 ⟨#[112,101,114,115,111,110]⟩ l11 4 (Do.c 97))]).bind fun l12 =>
 (some [⟨#[98,111,114,110]⟩,⟨#[100,105,101,100]⟩,⟨#[97,115,107,101,100]⟩,⟨#[104,101,108,100]⟩,⟨#[108,105,102,116,101,100]⟩]).bind fun l13 =>
 ((BP n l13 l12 0
 ):Option ((List Ab)×Int×Bool)).bind fun y=>match y with
 |(l14,v37,v38) =>
  some l14
def CM:List (Value×Value):=[(.int .i64 14,.func (.func 100) #[] #[]),(.int .i64 15,.func (.func 101) #[] #[]),(.int .i64 16,.func (.func 102) #[] #[]),(.int .i64 17,.func (.func 103) #[] #[]),(.int .i64 12,.func (.func 104) #[] #[]),(.int .i64 13,.func (.func 105) #[] #[])]
def opk:List (Int×Nat):=[(14,100),(15,101),(16,102),(17,103),(12,104),(13,105)]
end Go.Sp
namespace Go.Sp
open Go Go.Vl
def FT:List Ab :=
 [⟨6,⟨#[]⟩,[1],1,.c 82⟩,⟨7,⟨#[]⟩,[1,1],1,.c 83⟩,⟨10,⟨#[]⟩,[1,1],1,.c 85⟩,⟨10,⟨#[]⟩,[2,1],2,.c 87⟩,⟨11,⟨#[]⟩,[1,1],1,.c 89⟩,⟨11,⟨#[]⟩,[2,1],2,.c 90⟩,
  ⟨11,⟨#[]⟩,[2,2],1,.c 91⟩,⟨5,⟨#[]⟩,[3],3,.c 92⟩,⟨18,⟨#[]⟩,[3,3],3,.c 93⟩,⟨19,⟨#[]⟩,[3,3],3,.c 94⟩,⟨4,⟨#[100,97,121]⟩,[1],2,.c 95⟩,⟨4,⟨#[112,101,114,115,111,110]⟩,[1],4,.c 97⟩,
  ⟨4,⟨#[98,111,114,110]⟩,[4],2,.k 0⟩,⟨4,⟨#[100,105,101,100]⟩,[4],2,.k 1⟩,⟨4,⟨#[97,115,107,101,100]⟩,[4],2,.k 2⟩,⟨4,⟨#[104,101,108,100]⟩,[4],2,.k 3⟩,⟨4,⟨#[108,105,102,116,101,100]⟩,[4],2,.k 4⟩]
def J0 (op:Int)(f:Nat):List Ab :=
 [⟨op,⟨#[]⟩,[1,1],3,.is f⟩,⟨op,⟨#[]⟩,[2,2],3,.is f⟩]++if op=12∨op=13 then [⟨op,⟨#[]⟩,[4,4],3,.is f⟩] else []
def Ho (i:Nat):List Ab:=match opk[i]? with
 |some (op,f)=>J0 op f
 |none=>[]
def OM:List Ab :=
 [⟨20,⟨#[]⟩,[3,1,1],1,.c 108⟩,⟨4,⟨#[109,105,110]⟩,[1,1],1,.c 109⟩,⟨4,⟨#[109,97,120]⟩,[1,1],1,.c 110⟩,⟨20,⟨#[]⟩,[3,2,2],2,.c 108⟩,⟨4,⟨#[109,105,110]⟩,[2,2],2,.c 109⟩,⟨4,⟨#[109,97,120]⟩,[2,2],2,.c 110⟩,
  ⟨20,⟨#[]⟩,[3,3,3],3,.c 108⟩,⟨20,⟨#[]⟩,[3,4,4],4,.c 108⟩]
def Ord (os:List Nat):Prop:=os.Nodup/\(∀ i∈os,i<6)/\∀ i,i<6->i∈os
theorem Acd:Ad9 20=some FT:=by kernel_rfl
theorem ZW {l ys:List Ab}(h1:l.length<=100)(h2:ys.length<=100):Ca 64 l ys=some (l++ys):=by
 unfold Ca
 rw [Ç (by omega)]
theorem Aca (l:List Ab)(op:Int)(f:Nat)(hl:l.length<=40):Acb 20 l op f=some (l++J0 op f):=by
 unfold Acb
 rw [Á]
 rw [Bz]
 rw [show (decide ((0:Int)<(([1,2,4]:List Int).length:Int)))=true from rfl,Ð,show gi ([1,2,4]:List Int) 0=some 1 from rfl,Á]
 rw [show ((1:Int) != 4)=true from rfl,Ð,Á,Ð,Á,Á,ZW (by omega) (by simp),Á]
 rw [Bz]
 rw [show (decide (À (0+1)<(([1,2,4]:List Int).length:Int)))=true from rfl,Ð,show gi ([1,2,4]:List Int) (À (0+1))=some 2 from rfl,Á]
 rw [show ((2:Int) != 4)=true from rfl,Ð,Á,Ð,Á,Á,ZW (by simp;omega) (by simp),Á]
 rw [Bz]
 rw [show (decide (À (À (0+1)+1)<(([1,2,4]:List Int).length:Int)))=true from rfl,Ð,show gi ([1,2,4]:List Int) (À (À (0+1)+1))=some 4 from rfl,Á]
 rw [show ((4:Int) != 4)=false from rfl,Ï]
 by_cases h:op=12∨op=13
 . have e:((bif (op == 12) then some true else some (op == 13)):Option Bool)=some true:=by
    rcases h with h|h<;>subst h<;>rfl
   rw [e,Á,Ð,Á,Á,ZW (by simp;omega) (by simp),Á,Bz]
   rw [show (decide (À (À (À (0+1)+1)+1)<(([1,2,4]:List Int).length:Int)))=false from rfl,Ï,Á]
   unfold J0
   rw [Ç h]
   simp only [î]
   rfl
 . have e:((bif (op == 12) then some true else some (op == 13)):Option Bool)=some false:=by
    have h1:(op == 12)=false:=by simpa using fun e=>h (.inl e)
    have h2:(op == 13)=false:=by simpa using fun e=>h (.inr e)
    rw [h1,h2];rfl
   rw [e,Á,Ï,Bz]
   rw [show (decide (À (À (À (0+1)+1)+1)<(([1,2,4]:List Int).length:Int)))=false from rfl,Ï,Á]
   unfold J0
   rw [Ä h]
   simp only [î]
   rfl
theorem XE (l:List Ab)(hl:l.length<=40):Z6 20 l=some (l++OM):=by
 unfold Z6
 rw [Á]
 have step:∀ (n:Nat) (v x:Int) (m:List Ab),m.length<=60->(decide (v<(([1,2,3,4]:List Int).length:Int)))=true->gi [1,2,3,4] v=some x ->
  AY (n+1) [1,2,3,4] m v=AY n [1,2,3,4] (m++(⟨20,⟨#[]⟩,[3,x,x],x,.c 108⟩::if x=1∨x=2 then [⟨4,⟨#[109,105,110]⟩,[x,x],x,.c 109⟩,⟨4,⟨#[109,97,120]⟩,[x,x],x,.c 110⟩] else [])) (À (v+1)):=by
  intro n v x m hm h1 h2
  rw [Ds,h1,Ð,h2,Á,Á,Á,ZW (by omega) (by simp),Á]
  by_cases h:x=1∨x=2
  . have e:((bif (x == 1) then some true else some (x == 2)):Option Bool)=some true:=by
     rcases h with h|h<;>subst h<;>rfl
    rw [e,Á,Ð,Á,Á,Á,ZW (by simp;omega) (by simp),Á,Ç h,î]
    rfl
  . have e:((bif (x == 1) then some true else some (x == 2)):Option Bool)=some false:=by
     have h1:(x == 1)=false:=by simpa using fun e=>h (.inl e)
     have h2:(x == 2)=false:=by simpa using fun e=>h (.inr e)
     rw [h1,h2];rfl
    rw [e,Á,Ï,Ä h]
 rw [step 19 0 1 l (by omega) rfl rfl,step 18 _ 2 _ (by simp;omega) rfl rfl,step 17 _ 3 _ (by simp;omega) rfl rfl,step 16 _ 4 _ (by simp;omega) rfl rfl,Ds,
  show (decide (À (À (À (À (0+1)+1)+1)+1)<(([1,2,3,4]:List Int).length:Int)))=false from rfl,Ï,Á]
 simp only [î]
 rfl
theorem Ab9 (l:List Ab)(hl:l.length<=40):∃ r,Z6 20 l=some r:=⟨_,XE l hl⟩
theorem ndl:∀ (n:Nat) (l:List Nat),l.Nodup->(∀ i∈l,i<n)->l.length<=n
 |0,l,_,h=>by
  cases l with
  |nil=>simp
  |cons a r=>exact absurd (h a (by simp)) (by omega)
 |n+1,l,hn,h=>by
  have h1:=ndl n (l.erase n) (hn.erase n) (fun i hi=>by
   have h2:=h i (List.mem_of_mem_erase hi)
   have h3:i≠n:=fun e=>by
    subst e
    exact (List.Nodup.not_mem_erase hn) hi
   omega)
  rw [List.length_erase] at h1
  split at h1<;>omega
theorem YV (i:Nat):(Ho i).length<=3:=by
 unfold Ho
 split
 . unfold J0;split<;>simp
 . simp
theorem QN:∀ (s:List Nat),(s.flatMap Ho).length<=3*s.length
 | []=>by simp
 |a::r=>by
  have h1:=QN r
  have h2:=YV a
  rw [List.flatMap_cons,Õ,ß]
  omega
section
variable {seen:List Nat} {i:Nat} {l l' r:List Ab} {op:Int} {f:Nat}
theorem Wz (hlen:seen.length<=6)(hl:l=FT++seen.flatMap Ho):l.length<=40:=by
 have:=QN seen
 rw [hl,Õ]
 have e:FT.length=17:=rfl
 omega
theorem Ag3 (i:Nat)(h:i<CM.length):∃ op f,CM[i]?=some (.int .i64 op,.func (.func f) #[] #[])/\opk[i]?=some (op,f):=by
 have h6:i<6:=h
 match i,h6 with
 |0,_=>exact⟨14,100,rfl,rfl⟩
 |1,_=>exact⟨15,101,rfl,rfl⟩
 |2,_=>exact⟨16,102,rfl,rfl⟩
 |3,_=>exact⟨17,103,rfl,rfl⟩
 |4,_=>exact⟨12,104,rfl,rfl⟩
 |5,_=>exact⟨13,105,rfl,rfl⟩
theorem Ad7 (hnd:seen.Nodup)(hlt:∀ i∈seen,i<6)(hall:∀ i,i<CM.length->i∈seen):Ord seen:=⟨hnd,hlt,fun i hi=>hall i hi⟩
theorem nd1 (hnd:seen.Nodup)(hn:i∉seen):(seen++[i]).Nodup:=by
 rw [Ĕ]
 refine⟨hnd,by simp,fun a ha b hb=>?_⟩
 rw [List.mem_singleton.1 hb]
 rintro rfl;exact hn ha
theorem lt1 (hlt:∀ i∈seen,i<6)(hi:i<CM.length):∀ j∈seen++[i],j<6:=fun j hj=>by
 rcases List.mem_append.1 hj with h|h
 . exact hlt j h
 . rw [List.mem_singleton.1 h];exact hi
theorem Agx (hnd:seen.Nodup)(hlt:∀ i∈seen,i<6)(hn:i∉seen)(hi:i<CM.length):6-(seen++[i]).length<6-seen.length:=by
 have:=ndl 6 _ (nd1 hnd hn) (lt1 hlt hi)
 rw [Õ,List.length_singleton] at this ⊢
 omega
theorem Agy (hnd:seen.Nodup)(hlt:∀ i∈seen,i<6)(hl:l=FT++seen.flatMap Ho)(hn:i∉seen)(hi:i<CM.length)(hop:opk[i]?=some (op,f))(hB:r=l++J0 op f)(h:some l'=some r) :
 (seen++[i]).Nodup/\(∀ j∈seen++[i],j<6)/\(seen++[i]).length<=6/\l'=FT++(seen++[i]).flatMap Ho:=by
 refine⟨nd1 hnd hn,lt1 hlt hi,ndl 6 _ (nd1 hnd hn) (lt1 hlt hi),?_⟩
 rw [Af h,hB,hl,List.flatMap_append,î]
 congr 2
 rw [List.flatMap_cons,List.flatMap_nil,ą]
 unfold Ho
 rw [hop]
end
def opsOf (os:List Nat):List Ab:=FT++os.flatMap Ho++OM
end Go.Sp
namespace Go.Sp
open Go Go.Vl
def CJ:List (ByteArray×Int):=[(⟨#[121,101,97,114]⟩,1),(⟨#[115,116,111,114,101,100]⟩,2),(⟨#[110,101,118,101,114]⟩,2),(⟨#[111,119,110,101,114]⟩,4)]
instance (os:List Nat):Decidable (Ord os):=by unfold Ord;exact inferInstance
def Sj (os:List Nat):List Nat:=if Ord os then os else [0,1,2,3,4,5]
theorem Si (os:List Nat):Ord (Sj os):=by
 unfold Sj
 split
 . assumption
 . decide
theorem Z5 {os:List Nat}(h:Ord os):Sj os=os:=Ç h
abbrev Bj:PV:=.dis fun os=>(opsOf (Sj os)).map AT
abbrev Dk:PV:=.vmp (N3 CJ)
end Go.Sp
namespace Go.Sp
open Go
def op0:Ab:=⟨0,⟨#[]⟩,[],0,.nil⟩
abbrev V8 (p x:Int):Int×Ab×An:=(0,op0,⟨p,x⟩)
def arity (op:Int):Int:=if op=1∨op=2∨op=3 then 0 else if op=5∨op=6 then 1 else if op=20 then 3 else if op=4 then -1 else 2
theorem U9 (op:Int):E4 op=some (arity op):=by
 by_cases h1:op=1
 . subst h1;rfl
 by_cases h2:op=2
 . subst h2;rfl
 by_cases h3:op=3
 . subst h3;rfl
 by_cases h5:op=5
 . subst h5;rfl
 by_cases h6:op=6
 . subst h6;rfl
 by_cases h20:op=20
 . subst h20;rfl
 by_cases h4:op=4
 . subst h4;rfl
 unfold E4 arity
 have b1:(op == 1)=false:=by simpa using h1
 have b2:(op == 2)=false:=by simpa using h2
 have b3:(op == 3)=false:=by simpa using h3
 have b4:(op == 4)=false:=by simpa using h4
 have b5:(op == 5)=false:=by simpa using h5
 have b6:(op == 6)=false:=by simpa using h6
 have b20:(op == 20)=false:=by simpa using h20
 simp only [b1,b2,b3,b4,b5,b6,b20,Ï,Á]
 simp [h1,h2,h3,h4,h5,h6,h20]
def hit (op:Int)(s:Æ)(o:Ab):Bool:=o.op == op&&(!(o.op == 4)||decide (o.name=s))
def pick (op:Int)(s:Æ)(ts:List Int)(l:List Ab):Option Ab:=l.find? fun o=>hit op s o&&decide (o.args=ts)
def known (op:Int)(s:Æ)(l:List Ab):Bool:=l.any (hit op s)
def NA (op:Int)(s:Æ)(ts:List Int)(l:List Ab):Bool:=l.any fun o=>hit op s o&&((o.args.length:Int) == (ts.length:Int))
theorem NU {k:Nat}(h:k<4611686018427387904):À ((k:Int)+1)=((k+1:Nat):Int):=by
 rw [Ew (by omega) (by omega)];omega
theorem O5 {α:Type}{l:List α}{k:Nat}{x:α}{r:List α}(h:l.drop k=x::r):gi l (k:Int)=some x:=by
 have h2:l[k]?=some x:=by
  have:=congrArg (·[0]?) h
  simpa [List.getElem?_drop] using this
 unfold gi
 rw [Ç (by omega)];exact h2
theorem F6 {α:Type}{l:List α}{k:Nat}{x:α}{r:List α}(h:l.drop k=x::r):l.drop (k+1)=r/\k<l.length:=by
 constructor
 . have:=congrArg (List.drop 1) h
   rw [Ħ] at this
   rw [this];rfl
 . by_cases hk:k<l.length
   . exact hk
   . rw [Đ (by omega)] at h;cases h
theorem JI {α:Type}{l:List α}{k:Nat}(h:l.drop k=[])(hk:k<=l.length):k=l.length:=by
 have:=congrArg List.length h
 rw [û,í] at this
 omega
theorem P2 {k n:Nat}(h:k<n):(decide ((k:Int)<(n:Int)))=true:=by rw [Î];omega
theorem Aaq (a b:List Int)(hab:a.length=b.length)(ha:a.length<=1000000000):∀ (r:List Int) (k:Nat),a.drop k=r->k<=a.length->Ev (fun n=>BH n a b (k:Int)) (if a.drop k=b.drop k then .inl () else .inr false)
 | [],k,hr,hk=>by
  have he:=JI hr hk
  refine Ev.step (f:=fun n=>some (.inl ())) (fun n=>?_) ?_
  . rw [G7,show (decide ((k:Int)<(a.length:Int)))=false by rw [Ù];omega];rfl
  . rw [Ç (by rw [hr,Đ (by omega)])];exact Ev.pure
 |x::r,k,hr,hk=>by
  obtain⟨h1,h2⟩:=F6 hr
  have hkb:k<b.length:=by omega
  have hb:b.drop k=b[k]::b.drop (k+1):=Ğ hkb
  have ih:=Aaq a b hab ha r (k+1) h1 (by omega)
  refine Ev.step (f:=fun n=>bif (x != b[k]) then some (.inr false) else BH n a b ((k+1:Nat):Int)) (fun n=>?_) ?_
  . rw [G7,P2 h2,Ð,O5 hr,Á,O5 hb,Á,NU (by omega)]
  . by_cases hx:x=b[k]
    . subst hx
      simp only [ô,Ï]
      have e:(a.drop k=b.drop k)↔(a.drop (k+1)=b.drop (k+1)):=by
       rw [hr,hb,h1]
       exact⟨fun h=>(Ġ h).2,fun h=>by rw [h]⟩
      by_cases h3:a.drop (k+1)=b.drop (k+1)
      . rw [Ç (e.2 h3)];rw [Ç h3] at ih;exact ih
      . rw [Ä (fun h=>h3 (e.1 h))];rw [Ä h3] at ih;exact ih
    . rw [Ä (by rw [hr,hb];intro h;exact hx (Ġ h).1)]
      simp only [show (x != b[k])=true by simpa using hx,Ð]
      exact Ev.pure
theorem Aap (a b:List Int)(ha:a.length<=1000000000):Ev (fun n=>Dl n a b) (decide (a=b)):=by
 unfold Dl
 by_cases h:a.length=b.length
 . rw [show ((a.length:Int) != (b.length:Int))=false by simp [h]]
   simp only [Ï]
   refine Ev.bind (Aaq a b h ha _ 0 rfl (ü _)) ?_
   simp only [List.drop_zero]
   by_cases e:a=b
   . rw [Ç e,Ì e];exact Ev.pure
   . rw [Ä e,Ë e];exact Ev.pure
 . rw [show ((a.length:Int) != (b.length:Int))=true by simp;omega]
   rw [Ë (fun e=>h (by rw [e]))]
   exact Ev.pure
def CF (op:Int)(s:Æ)(ts:List Int)(l:List Ab)(kn fi:Bool):(Bool×Bool) ⊕ (Int×Ab×An) :=
 match pick op s ts l with
 |some o=>.inr (o.kind,o,⟨0,0⟩)
 |none=>.inl (kn||known op s l,fi||NA op s ts l)
theorem MF (l:List Ab)(ns:List (ByteArray×Int))(e:Ag)(ts:List Int)(hl:l.length<=1000000)(ha:∀ o∈l,o.args.length<=1000) :
 ∀ (r:List Ab) (k:Nat) (kn fi:Bool),l.drop k=r->k<=l.length->Ev (fun n=>AN n ⟨l,ns⟩ e ts kn fi (k:Int)) (CF e.Op e.S ts r kn fi)
 | [],k,kn,fi,hr,hk=>by
  have he:=JI hr hk
  refine Ev.step (f:=fun n=>some (.inl (kn,fi))) (fun n=>?_) ?_
  . rw [Dr,show (decide ((k:Int)<(l.length:Int)))=false by rw [Ù];omega];rfl
  . have:CF e.Op e.S ts [] kn fi=.inl (kn,fi):=by simp [CF,pick,known,NA]
    rw [this];exact Ev.pure
 |o::r,k,kn,fi,hr,hk=>by
  obtain⟨h1,h2⟩:=F6 hr
  have hmem:o∈l:=ë (by rw [hr];simp)
  have hcond:((bif (o.op != e.Op) then some true else bif (o.op == 4) then some (!decide (o.name=e.S)) else some false):Option Bool)=some (!hit e.Op e.S o):=by
   unfold hit
   by_cases c1:o.op=e.Op
   . rw [show (o.op != e.Op)=false by simp [c1],show (o.op == e.Op)=true by simp [c1],Ï,Bool.true_and]
     cases c2:(o.op == 4) with
     |true=>simp
     |false=>simp
   . rw [show (o.op != e.Op)=true by simp [c1],show (o.op == e.Op)=false by simp [c1],Ð,Bool.false_and];rfl
  cases hh:hit e.Op e.S o with
  |false =>
   have ih:=MF l ns e ts hl ha r (k+1) kn fi h1 (by omega)
   have es:CF e.Op e.S ts (o::r) kn fi=CF e.Op e.S ts r kn fi:=by simp [CF,pick,known,NA,hh]
   rw [es]
   refine Ev.step (fun n=>?_) ih
   rw [Dr,P2 h2,Ð,O5 hr,Á,hcond,hh,Á,ĥ,Ð,NU (by omega)]
  |true =>
   have hfit:((bif fi then some true else some ((o.args.length:Int) == (ts.length:Int))):Option Bool)=some (fi||((o.args.length:Int) == (ts.length:Int))):=by cases fi<;>rfl
   refine Ev.step (f:=fun n=>(Dl n o.args ts).bind fun e9=>bif e9 then some (.inr (o.kind,o,⟨0,0⟩)) else AN n ⟨l,ns⟩ e ts true (fi||((o.args.length:Int) == (ts.length:Int))) ((k+1:Nat):Int)) (fun n=>?_) ?_
   . rw [Dr,P2 h2,Ð,O5 hr,Á,hcond,hh,Á,ē,Ï,hfit,Á,NU (by omega)]
   . refine Ev.bind (Aap o.args ts (by have:=ha o hmem;omega)) ?_
     by_cases e1:o.args=ts
     . have es:CF e.Op e.S ts (o::r) kn fi=.inr (o.kind,o,⟨0,0⟩):=by simp [CF,pick,hh,e1]
       rw [Ì e1,es];exact Ev.pure
     . have ih:=MF l ns e ts hl ha r (k+1) true (fi||((o.args.length:Int) == (ts.length:Int))) h1 (by omega)
       have es:CF e.Op e.S ts (o::r) kn fi=CF e.Op e.S ts r true (fi||((o.args.length:Int) == (ts.length:Int))):=by
        have hp:pick e.Op e.S ts (o::r)=pick e.Op e.S ts r:=by simp [pick,hh,e1]
        have hk2:known e.Op e.S (o::r)=true:=by simp [known,hh]
        have hf2:NA e.Op e.S ts (o::r)=(((o.args.length:Int) == (ts.length:Int))||NA e.Op e.S ts r):=by simp [NA,hh]
        unfold CF
        rw [hp,hk2,hf2]
        cases pick e.Op e.S ts r with
        |some o'=>rfl
        |none=>simp only [Bool.or_true,Bool.true_or,Bool.or_assoc]
       rw [Ë e1,es]
       exact ih
end Go.Sp
namespace Go.Sp
open Go
def Tp (i:Nat):Int:=((opk[i]?).map (·.1)).getD 0
theorem V4 {i:Nat}{o:Ab}(h:o∈Ho i):o.op=Tp i:=by
 unfold Ho at h
 unfold Tp
 split at h
 . rename_i op f e
   rw [e]
   unfold J0 at h
   split at h<;>simp at h
   . rcases h with rfl|rfl|rfl<;>rfl
   . rcases h with rfl|rfl<;>rfl
 . simp at h
theorem ZA:∀ i,i<6->∀ j,j<6->Tp i=Tp j->i=j:=by decide
theorem O6 {l:List Nat}{op:Int}(h:∀ i∈l,Tp i≠op):(l.flatMap Ho).filter (fun o=>o.op == op)=[]:=by
 rw [List.filter_eq_nil_iff]
 intro o ho
 obtain⟨i,hi,ho2⟩:=List.mem_flatMap.1 ho
 have:=h i hi
 rw [<- V4 ho2] at this
 simpa using this
theorem Vj {os:List Nat}(h:Ord os)(op:Int):(os.flatMap Ho).filter (fun o=>o.op == op)=match (List.range 6).find? (fun i=>Tp i == op) with|some i=>Ho i|none=>[]:=by
 cases hf:(List.range 6).find? (fun i=>Tp i == op) with
 |none =>
  rw [List.find?_eq_none] at hf
  refine O6 fun i hi=>?_
  have:=hf i (List.mem_range.2 (h.2.1 i hi))
  simpa using this
 |some i =>
  have h1:=List.find?_some hf
  have h2:=List.mem_range.1 (List.mem_of_find?_eq_some hf)
  have h1:Tp i=op:=by simpa using h1
  obtain⟨l1,l2,rfl⟩:=List.append_of_mem (h.2.2 i h2)
  have hnd:=h.1
  rw [Ĕ] at hnd
  have hn1:i∉l1:=fun hm=>hnd.2.2 i hm i (by simp) rfl
  have hn2:i∉l2:=(List.nodup_cons.1 hnd.2.1).1
  have other:∀ j∈l1++i::l2,j≠i->Tp j≠op:=fun j hj hne e=>hne (ZA j (h.2.1 j hj) i h2 (e.trans h1.symm))
  rw [List.flatMap_append,ę,List.flatMap_cons,ę]
  rw [O6 (fun j hj=>other j (by simp [hj]) (fun e=>hn1 (e ▸ hj))),O6 (fun j hj=>other j (by simp [hj]) (fun e=>hn2 (e ▸ hj)))]
  rw [þ,ą]
  refine List.filter_eq_self.2 fun o ho=>?_
  rw [V4 ho,h1];simp
def Kh:List Ab:=opsOf [0,1,2,3,4,5]
theorem XD:Ord [0,1,2,3,4,5]:=by decide
theorem WJ {os:List Nat}(h:Ord os)(op:Int):(opsOf os).filter (fun o=>o.op == op)=Kh.filter (fun o=>o.op == op):=by
 unfold Kh opsOf
 rw [ę,ę,ę,ę,Vj h,Vj XD]
theorem ZQ {op:Int}{s:Æ}{o:Ab}(h:hit op s o=true):(o.op == op)=true:=by
 unfold hit at h
 rw [Å] at h
 exact h.1
theorem XO (op:Int)(s:Æ)(o:Ab):((o.op == op)&&hit op s o)=hit op s o:=by
 cases h:hit op s o with
 |false=>simp
 |true=>simp [ZQ h]
theorem OV (op:Int)(s:Æ)(ts:List Int)(l:List Ab):pick op s ts (l.filter fun o=>o.op == op)=pick op s ts l:=by
 unfold pick
 rw [List.find?_filter]
 congr 1
 funext o
 cases h:hit op s o with
 |false=>simp
 |true=>simp [ZQ h]
theorem N4 (op:Int)(s:Æ)(l:List Ab):known op s (l.filter fun o=>o.op == op)=known op s l:=by
 unfold known
 rw [List.any_filter]
 congr 1
 funext o
 exact XO op s o
theorem Pj (op:Int)(s:Æ)(ts:List Int)(l:List Ab):NA op s ts (l.filter fun o=>o.op == op)=NA op s ts l:=by
 unfold NA
 rw [List.any_filter]
 congr 1
 funext o
 rw [<- Bool.and_assoc,XO]
theorem Tc {os:List Nat}(h:Ord os)(op:Int)(s:Æ)(ts:List Int)(kn fi:Bool):CF op s ts (opsOf os) kn fi=CF op s ts Kh kn fi:=by
 unfold CF
 rw [<- OV,<- N4,<- Pj,WJ h,OV,N4,Pj]
theorem Yz {os:List Nat}(h:Ord os):(opsOf os).length<=1000000:=by
 unfold opsOf
 have:=QN os
 have h6:=ndl 6 os h.1 h.2.1
 rw [Õ,Õ]
 have e1:FT.length=17:=rfl
 have e2:OM.length=8:=rfl
 omega
theorem Wn {os:List Nat}:∀ o∈opsOf os,o.args.length<=1000:=by
 intro o ho
 unfold opsOf at ho
 rcases List.mem_append.1 ho with ho|ho
 . rcases List.mem_append.1 ho with ho|ho
   . have:FT.all (fun o=>decide (o.args.length<=1000))=true:=by decide
     rw [Û] at this
     simpa using this o ho
   . obtain⟨i,_,h2⟩:=List.mem_flatMap.1 ho
     unfold Ho at h2
     split at h2
     . unfold J0 at h2
       split at h2<;>simp at h2
       . rcases h2 with rfl|rfl|rfl<;>simp
       . rcases h2 with rfl|rfl<;>simp
     . simp at h2
 . have:OM.all (fun o=>decide (o.args.length<=1000))=true:=by decide
   rw [Û] at this
   simpa using this o ho
mutual
def ER:Ag->Bool
 |.mk _ _ _ kids _=>decide (kids.length<=1000000)&&Kj kids
def Kj:List Ag->Bool
 | []=>true
 |e::l=>ER e&&Kj l
end
mutual
def B4:Ag->Int×Ab×An
 |.mk op n s kids p =>
  if op<1∨20<op∨(0<=arity op/\(kids.length:Int)≠arity op) then V8 p 1
  else match Gb kids with
   |.inr o=>o
   |.inl ts =>
    if op=1 then (if n<0∨999999999999999<n then V8 p 1 else (1,op0,⟨0,0⟩))
    else if op=2 then V8 p 7
    else if op=3 then (if (Dz CJ s).2=true then ((Dz CJ s).1,op0,⟨0,0⟩) else V8 p 6)
    else match CF op s ts Kh false false with
     |.inr o=>o
     |.inl (kn,fi)=>if op=4/\kn=false then V8 p 6 else if op=4/\fi=false then V8 p 1 else V8 p 7
def Gb:List Ag->List Int ⊕ (Int×Ab×An)
 | []=>.inl []
 |e::l =>
  if (B4 e).2.2.E≠0 then .inr (0,op0,(B4 e).2.2)
  else match Gb l with
   |.inl ts=>.inl ((B4 e).1::ts)
   |.inr o=>.inr o
end
theorem Ado {l ys:List Int}(h1:l.length<=1000000)(h2:ys.length<=1000000):Ca 8 l ys=some (l++ys):=by
 unfold Ca
 rw [Ç (by omega)]
theorem UW (s:AW)(e:Ag)(hk:e.Kids.length<=1000000)(hf:∀ x∈e.Kids,Ev (fun n=>A4 n s x) (B4 x)) :
 ∀ (r:List Ag) (k:Nat) (ts:List Int),e.Kids.drop k=r->k<=e.Kids.length->ts.length=k->Ev (fun n=>Bl n e s ts (k:Int)) (match Gb r with|.inl us=>.inl (ts++us)|.inr o=>.inr o)
 | [],k,ts,hr,hkl,_=>by
  have he:=JI hr hkl
  refine Ev.step (f:=fun n=>some (.inl ts)) (fun n=>?_) ?_
  . rw [F3,show (decide ((k:Int)<(e.Kids.length:Int)))=false by rw [Ù];omega];rfl
  . rw [Gb];simp only [ą];exact Ev.pure
 |x::r,k,ts,hr,hkl,hts=>by
  obtain⟨h1,h2⟩:=F6 hr
  have hmem:x∈e.Kids:=ë (by rw [hr];simp)
  refine Ev.step (f:=fun n=>(A4 n s x).bind fun f7=>bif (f7.2.2.E != 0) then some (.inr (0,op0,f7.2.2)) else Bl n e s (ts++[f7.1]) ((k+1:Nat):Int)) (fun n=>?_) ?_
  . rw [F3,P2 h2,Ð,O5 hr,Á]
    congr 1
    funext f7
    rw [Á,Ado (by omega) (by simp),Á,NU (by omega)]
    rfl
  . refine Ev.bind (hf x hmem) ?_
    rw [Gb]
    by_cases c:(B4 x).2.2.E=0
    . have ih:=UW s e hk hf r (k+1) (ts++[(B4 x).1]) h1 (by omega) (by simp [hts])
      simp only [show ((B4 x).2.2.E != 0)=false by simpa using c,Ï]
      rw [Ä (by simpa using c)]
      cases ht:Gb r with
      |inl us=>rw [ht] at ih;simpa [î] using ih
      |inr o=>rw [ht] at ih;exact ih
    . simp only [show ((B4 x).2.2.E != 0)=true by simpa using c,Ð]
      rw [Ç c];exact Ev.pure
theorem YJ (ops:List Ab)(os:List Nat)(ho:Ord os)(hops:ops=opsOf os)(e:Ag)(hk:e.Kids.length<=1000000)(hf:∀ x∈e.Kids,Ev (fun n=>A4 n ⟨ops,CJ⟩ x) (B4 x)) :
 Ev (fun n=>A4 n ⟨ops,CJ⟩ e) (B4 e):=by
 obtain⟨op,num,str,kids,at0⟩:=e
 simp only at hk hf
 have hkids:=UW ⟨ops,CJ⟩ ⟨op,num,str,kids,at0⟩ hk hf kids 0 [] rfl (ü _) rfl
 have hsearch:∀ ts,Ev (fun n=>AN n ⟨ops,CJ⟩ ⟨op,num,str,kids,at0⟩ ts false false 0) (CF op str ts Kh false false):=fun ts=>by
  have:=MF ops CJ ⟨op,num,str,kids,at0⟩ ts (by rw [hops];exact Yz ho) (by rw [hops];exact Wn) ops 0 false false rfl (ü _)
  rw [hops,Tc ho] at this
  rw [hops];exact this
 refine Ev.step (fun n=>A4.eq_2 ⟨ops,CJ⟩ ⟨op,num,str,kids,at0⟩ n) ?_
 simp only [U9,Á,AV]
 rw [B4]
 have hc:((bif (decide (op<1)) then some true else bif (decide (20<op)) then some true else bif (decide (0<=arity op)) then some ((kids.length:Int) != arity op) else some false):Option Bool) =
  some (decide (op<1∨20<op∨(0<=arity op/\(kids.length:Int)≠arity op))):=by
  by_cases c1:op<1
  . simp [c1]
  by_cases c2:20<op
  . simp [c1,c2]
  by_cases c3:0<=arity op
  . by_cases c4:(kids.length:Int)=arity op
    . simp [c1,c2,c3,c4]
    . simp [c1,c2,c3,c4]
  . simp [c1,c2,c3]
 simp only [hc,Á]
 by_cases c:op<1∨20<op∨(0<=arity op/\(kids.length:Int)≠arity op)
 . rw [Ç c]
   simp only [Ì c,Ð,Á]
   exact Ev.pure
 . rw [Ä c]
   simp only [Ë c,Ï]
   refine Ev.bind hkids ?_
   cases ht:Gb kids with
   |inr o=>exact Ev.pure
   |inl ts =>
    simp only [þ]
    by_cases h1:op=1
    . subst h1
      simp only [ċ,Ð,ù]
      by_cases n1:num<0
      . simp only [n1,decide_true,Ð,Á,true_or,ù];exact Ev.pure
      . by_cases n2:999999999999999<num
        . simp only [n1,n2,decide_true,decide_false,Ð,Ï,Á,or_true,ù];exact Ev.pure
        . simp only [n1,n2,decide_false,Ï,Á,or_self,Ā];exact Ev.pure
    simp only [show (op == 1)=false by simpa using h1,Ï,Ä h1]
    by_cases h2:op=2
    . subst h2
      simp only [ċ,Ð,ù,Á];exact Ev.pure
    simp only [show (op == 2)=false by simpa using h2,Ï,Ä h2]
    by_cases h3:op=3
    . subst h3
      simp only [ċ,Ð,ù]
      cases hg:(Dz CJ str).2 with
      |true=>simp only [Ð,ù];exact Ev.pure
      |false=>simp only [Ï,è,Ā,Á];exact Ev.pure
    simp only [show (op == 3)=false by simpa using h3,Ï,Ä h3]
    refine Ev.bind (hsearch ts) ?_
    cases hs:CF op str ts Kh false false with
    |inr o=>exact Ev.pure
    |inl y =>
     obtain⟨kn,fi⟩:=y
     simp only
     by_cases h4:op=4
     . subst h4
       simp only [ċ,Ð,Á,õ]
       cases kn with
       |false=>simp only [ĥ,Ð,ù,Á];exact Ev.pure
       |true =>
        cases fi with
        |false=>simp only [ē,ĥ,Ð,Ï,ù,Á,Bool.true_eq_false,Ā];exact Ev.pure
        |true=>simp only [ē,Ï,Á,Bool.true_eq_false,Ā];exact Ev.pure
     . simp only [show (op == 4)=false by simpa using h4,Ï,Á,h4,false_and,Ā];exact Ev.pure
mutual
theorem T6 {os:List Nat}(ho:Ord os):∀ (e:Ag),ER e=true->Ev (fun n=>A4 n ⟨opsOf os,CJ⟩ e) (B4 e)
 |.mk op num str kids at0,h=>by
  rw [ER,Å,Î] at h
  exact YJ (opsOf os) os ho rfl _ h.1 (Vk ho kids h.2)
theorem Vk {os:List Nat}(ho:Ord os):∀ (l:List Ag),Kj l=true->∀ x∈l,Ev (fun n=>A4 n ⟨opsOf os,CJ⟩ x) (B4 x)
 | [],_,x,hx=>by simp at hx
 |e::l,h,x,hx=>by
  rw [Kj,Å] at h
  rcases List.mem_cons.1 hx with hx|hx
  . rw [hx];exact T6 ho e h.1
  . exact Vk ho l h.2 x hx
end
def Jg (e:Ag):Option (Int×Ab×An):=if ER e=true then some (B4 e) else none
end Go.Sp
namespace Go.Sp
open Go
def IP (n:Int):Int:=if n < -999999999999999 then -999999999999999 else if 999999999999999<n then 999999999999999 else n
def OG (n:Int):Int:=if n<0 then 0 else if 41667<n then 41667 else n
def Rg (n:Int):Int:=if n<0 then 0 else if 1000<n then 1000 else n
def Ov (d n:Int):Int:=if d=41667 then d else OG (d+n)
def IU (t v:Int):Prop:=(t=1/\-999999999999999<=v/\v<=999999999999999)∨(t=2/\0<=v/\v<=41667)∨(t=3/\0<=v/\v<=1)∨(t=4/\0<=v/\v<=1000)
def okF (f:Bb):Bool:=decide (1<=f.Kind/\f.Kind<=5/\1<=f.Who/\f.Who<=1000/\0<=f.Day/\f.Day<=41666/\0<=f.Known/\f.Known<=41666)
def Dy (d:Aj)(known:Int):Int :=
 if 200<d.Facts.length then 2
 else if d.Facts.all okF=true/\0<=d.Stored/\d.Stored<=41666/\0<=known/\known<=41666/\0<=d.Owner/\d.Owner<=1000 then 0 else 1
structure OkM (m:Ah):Prop where
 len:m.d.Facts.length<=200
 facts:∀ f∈m.d.Facts,okF f=true
 st:0<=m.d.Stored/\m.d.Stored<=41666
 kn:0<=m.known/\m.known<=41666
 ow:0<=m.d.Owner/\m.d.Owner<=1000
theorem Ts {m:Ah}(h:Dy m.d m.known=0):OkM m:=by
 unfold Dy at h
 split at h
 . cases h
 . rename_i h1
   split at h
   . rename_i h2
     exact⟨by omega,List.all_eq_true.1 h2.1,⟨h2.2.1,h2.2.2.1⟩,⟨h2.2.2.2.1,h2.2.2.2.2.1⟩,h2.2.2.2.2.2⟩
   . cases h
theorem Wj (x1 x0 y1 y0:Int):(4294967296*x1+x0)*(4294967296*y1+y0)=18446744073709551616*(x1*y1)+4294967296*(x1*y0)+4294967296*(x0*y1)+x0*y0:=by
 grind
theorem Aa8 {x:Int}(h0:0<=x)(h1:x<18446744073709551616):bits .and .u64 x 4294967295=x % 4294967296:=by
 have h:=bits_mask .u64 64 (by decide) wraps_u64 32 (by decide) x h0 (by omega)
 simpa using h
theorem ZH (x y:Int)(hx:0<=x)(hx2:x<=999999999999999)(hy:0<=y)(hy2:y<=999999999999999):EZ x y=some (x*y / 18446744073709551616,x*y % 18446744073709551616):=by
 have hs:(2:Int) ^ min (32:Int).toNat IntKind.u64.bits=4294967296:=by decide
 unfold EZ
 rw [hs,Aa8 hx (by omega),Aa8 hy (by omega)]
 simp only [Int.fdiv_eq_ediv_of_nonneg _ (show (0:Int)<=4294967296 by decide)]
 have ex:x=4294967296*(x / 4294967296)+x % 4294967296:=by omega
 have ey:y=4294967296*(y / 4294967296)+y % 4294967296:=by omega
 have hp:=Wj (x / 4294967296) (x % 4294967296) (y / 4294967296) (y % 4294967296)
 rw [<- ex,<- ey] at hp
 rw [IntKind.wrap_u64 (x*y)]
 have b1:0<=x / 4294967296/\x / 4294967296<=232831:=by omega
 have b2:0<=x % 4294967296/\x % 4294967296<=4294967295:=by omega
 have b3:0<=y / 4294967296/\y / 4294967296<=232831:=by omega
 have b4:0<=y % 4294967296/\y % 4294967296<=4294967295:=by omega
 generalize x / 4294967296=x1 at *
 generalize x % 4294967296=x0 at *
 generalize y / 4294967296=y1 at *
 generalize y % 4294967296=y0 at *
 have p1:=Int.mul_le_mul b1.2 b3.2 b3.1 (by decide)
 have p2:=Int.mul_le_mul b1.2 b4.2 b4.1 (by decide)
 have p3:=Int.mul_le_mul b2.2 b3.2 b3.1 (by decide)
 have p4:=Int.mul_le_mul b2.2 b4.2 b4.1 (by decide)
 have q1:=Int.mul_nonneg b1.1 b3.1
 have q2:=Int.mul_nonneg b1.1 b4.1
 have q3:=Int.mul_nonneg b2.1 b3.1
 have q4:=Int.mul_nonneg b2.1 b4.1
 rw [hp]
 generalize x1*y1=A at *
 generalize x1*y0=B at *
 generalize x0*y1=E at *
 generalize x0*y0=C at *
 rw [wraps_u64 A (by omega) (by omega),wraps_u64 B (by omega) (by omega),wraps_u64 C (by omega) (by omega),wraps_u64 E (by omega) (by omega)]
 rw [wraps_u64 (B+C / 4294967296) (by omega) (by omega)]
 rw [Aa8 (by omega) (by omega)]
 rw [wraps_u64 (A+(B+C / 4294967296) / 4294967296) (by omega) (by omega),wraps_u64 ((B+C / 4294967296) % 4294967296+E) (by omega) (by omega)]
 rw [wraps_u64 _ (by omega) (by omega)]
 congr 2
 omega
theorem Abb {a:Int}(h : -999999999999999<=a/\a<=999999999999999):IntKind.u64.wrap (if (À (0-a)) > a then (À (0-a)) else a)=if a<0 then -a else a:=by
 rw [Ew (by omega) (by omega)]
 by_cases c:a<0
 . rw [Ç (by omega),Ç c,wraps_u64 _ (by omega) (by omega)];omega
 . rw [Ä (by omega),Ä c,wraps_u64 _ (by omega) (by omega)]
theorem Zn (a b:Int)(ha : -999999999999999<=a/\a<=999999999999999)(hb : -999999999999999<=b/\b<=999999999999999):D4 a b=some (IP (a*b)):=by
 unfold D4
 rw [Abb ha,Abb hb]
 generalize hx:(if a<0 then -a else a)=x
 generalize hy:(if b<0 then -b else b)=y
 have x0:0<=x/\x<=999999999999999:=by split at hx<;>omega
 have y0:0<=y/\y<=999999999999999:=by split at hy<;>omega
 rw [ZH x y x0.1 x0.2 y0.1 y0.2,Á]
 have hp:=Int.mul_nonneg x0.1 y0.1
 have hab:a*b=if (decide (a<0)) == (decide (b<0)) then x*y else -(x*y):=by
  grind [D4,IP]
 generalize x*y=p at *
 have hn:((bif ((p / 18446744073709551616:Int) == 0) then some (decide ((p % 18446744073709551616:Int)<999999999999999)) else some false):Option Bool)=some (decide (p<999999999999999)):=by
  by_cases c:p / 18446744073709551616=0
  . grind [D4,IP]
  . rw [show ((p / 18446744073709551616:Int) == 0)=false by simpa using c,Ï]
    congr 1
    symm;rw [Ù];omega
 simp only [hn,Á]
 have hm:((bif (decide (p<999999999999999)) then some (À (p % 18446744073709551616)) else some 999999999999999):Option Int)=some (if p<999999999999999 then p else 999999999999999):=by
  by_cases c:p<999999999999999
  . rw [Ì c,Ð,Ç c,Ew (by omega) (by omega)];congr 1;omega
  . rw [Ë c,Ï,Ä c]
 simp only [hm,Á]
 rw [hab]
 have hq:∃ q,(if p<999999999999999 then p else 999999999999999)=q/\0<=q/\q<=999999999999999/\(p<=999999999999999->q=p)/\(999999999999999<p->q=999999999999999):=by
  refine⟨_,rfl,?_⟩
  split<;>omega
 obtain⟨q,hq,q1,q2,q3,q4⟩:=hq
 rw [hq]
 unfold IP
 cases hc:(decide (a<0)) == (decide (b<0)) with
 |true =>
  rw [ē,Ï,Ç rfl,Ä (by omega)]
  congr 1
  by_cases c:999999999999999<p
  . rw [Ç c];omega
  . rw [Ä c];omega
 |false =>
  rw [ĥ,Ð,Ä Bool.false_ne_true,Ew (by omega) (by omega)]
  congr 1
  by_cases c:999999999999999<p
  . rw [Ç (by omega)];omega
  . rw [Ä (by omega),Ä (by omega)];omega
def XM (known kind who:Int)(f:Bb):Bool:=f.Kind == kind&&(f.Who == who&&decide (f.Known<=known))
def Z3 (b:Option Bb)(f:Bb):Bool:=match b with
 |none=>true
 |some g=>decide (g.Known<=f.Known)
def Jl (p:Bb->Bool):List Bb->Option Bb->Option Bb
 | [],b=>b
 |f::r,b=>Jl p r (if (p f&&Z3 b f)=true then some f else b)
def Ago:Option Bb->Int
 |none=>41667
 |some f=>f.Day
def II (m:Ah)(kind who:Int):Int:=Ago (Jl (XM m.known kind who) m.d.Facts none)
def Afu (l:List Bb)(i:Int)(b:Option Bb):Prop:=match b with
 |none=>i = -1
 |some f=>0<=i/\gi l i=some f
theorem QT (m:Ah)(kind who:Int)(hl:m.d.Facts.length<=200):∀ (r:List Bb) (k:Nat) (i:Int) (b:Option Bb),m.d.Facts.drop k=r->k<=m.d.Facts.length->Afu m.d.Facts i b ->
 ∃ j,Ev (fun n=>Bp n m kind who i (k:Int)) j/\Afu m.d.Facts j (Jl (XM m.known kind who) r b)
 | [],k,i,b,hr,hk,hb=>by
  have he:=JI hr hk
  refine⟨i,Ev.step (f:=fun n=>some i) (fun n=>?_) Ev.pure,hb⟩
  rw [DU,show (decide ((k:Int)<(m.d.Facts.length:Int)))=false by rw [Ù];omega];rfl
 |f::r,k,i,b,hr,hk,hb=>by
  obtain⟨h1,h2⟩:=F6 hr
  have hg:=O5 hr
  have hc:((bif (f.Kind == kind) then
   bif (f.Who == who) then
    bif (decide (f.Known<=m.known)) then
     bif (decide (i<0)) then
      some true
     else
      (gi m.d.Facts i).bind fun x2 =>
      some (decide (x2.Known<=f.Known))
    else
     some false
   else
    some false
   else
    some false
   ):Option Bool)=some (XM m.known kind who f&&Z3 b f):=by
   unfold XM
   cases (f.Kind == kind)<;>cases (f.Who == who)<;>cases (decide (f.Known<=m.known))<;>simp only [Ð,Ï,İ,Bool.true_and,Bool.false_and,Bool.and_false]
   cases b with
   |none =>
    have:i = -1:=hb
    subst this
    rfl
   |some g =>
    have hb:0<=i/\gi m.d.Facts i=some g:=hb
    rw [show decide (i<0)=false by rw [Ù];omega,Ï,hb.2];rfl
  cases hx:(XM m.known kind who f&&Z3 b f) with
  |true =>
   obtain⟨j,h3,h4⟩:=QT m kind who hl r (k+1) (k:Int) (some f) h1 (by omega) ⟨by omega,hg⟩
   refine⟨j,Ev.step (fun n=>?_) h3,?_⟩
   . grind [DU,P2,NU]
   . rw [Jl,Ç hx];exact h4
  |false =>
   obtain⟨j,h3,h4⟩:=QT m kind who hl r (k+1) i b h1 (by omega) hb
   refine⟨j,Ev.step (fun n=>?_) h3,?_⟩
   . grind [DU,P2,NU]
   . rw [Jl,Ä (by rw [hx];exact Bool.false_ne_true)];exact h4
theorem Ac4 (m:Ah)(kind who:Int)(hl:m.d.Facts.length<=200):Ev (fun n=>C5 n m kind who) (II m kind who):=by
 obtain⟨j,h1,h2⟩:=QT m kind who hl m.d.Facts 0 (-1) none rfl (ü _) rfl
 unfold C5
 refine Ev.bind h1 ?_
 unfold II
 cases hb:Jl (XM m.known kind who) m.d.Facts none with
 |none =>
  rw [hb] at h2
  have:j = -1:=h2
  subst this
  exact Ev.pure
 |some f =>
  rw [hb] at h2
  have h2:0<=j/\gi m.d.Facts j=some f:=h2
  simp only [show decide (j<0)=false by rw [Ù];omega,Ï,h2.2,Á]
  exact Ev.pure
theorem SE {p:Bb->Bool}:∀ {l:List Bb} {b:Option Bb} {f:Bb},Jl p l b=some f->f∈l∨b=some f
 | [],b,f,h=>.inr h
 |x::l,b,f,h=>by
  rw [Jl] at h
  rcases SE h with h|h
  . exact .inl (á _ h)
  . split at h
    . exact .inl (by rw [Af h];simp)
    . exact .inr h
theorem ZK {m:Ah}(hm:OkM m)(kind who:Int):0<=II m kind who/\II m kind who<=41667:=by
 unfold II
 cases hb:Jl (XM m.known kind who) m.d.Facts none with
 |none=>exact⟨by decide,by decide⟩
 |some f =>
  rcases SE hb with h|h
  . have:=hm.facts f h
    unfold okF at this
    rw [Î] at this
    unfold Ago
    simp only
    omega
  . cases h
def Ph (b:Bool):Int:=if b=true then 1 else 0
def RE (m:Ah)(d:Do)(x:List Int):Int:=match d with
 |.c 82=>-(x.getD 0 0)
 |.c 83=>IP (x.getD 0 0*x.getD 1 0)
 |.c 85=>IP (x.getD 0 0+x.getD 1 0)
 |.c 87=>Ov (x.getD 0 0) (x.getD 1 0)
 |.c 89=>IP (x.getD 0 0-x.getD 1 0)
 |.c 90=>Ov (x.getD 0 0) (-(x.getD 1 0))
 |.c 91=>x.getD 0 0-x.getD 1 0
 |.c 92=>1-x.getD 0 0
 |.c 93=>x.getD 0 0*x.getD 1 0
 |.c 94=>max (x.getD 0 0) (x.getD 1 0)
 |.c 95=>OG (x.getD 0 0)
 |.c 97=>Rg (x.getD 0 0)
 |.c 108=>if x.getD 0 0=1 then x.getD 1 0 else x.getD 2 0
 |.c 109=>min (x.getD 0 0) (x.getD 1 0)
 |.c 110=>max (x.getD 0 0) (x.getD 1 0)
 |.k k=>II m (k+1) (x.getD 0 0)
 |.is 100=>Ph (decide (x.getD 0 0<x.getD 1 0))
 |.is 101=>Ph (decide (x.getD 0 0<=x.getD 1 0))
 |.is 102=>Ph (decide (x.getD 1 0<x.getD 0 0))
 |.is 103=>Ph (decide (x.getD 1 0<=x.getD 0 0))
 |.is 104=>Ph (x.getD 0 0 == x.getD 1 0)
 |.is 105=>Ph (x.getD 0 0 != x.getD 1 0)
 |_=>0
def RH:List Int->List Int->Prop
 | [],[]=>True
 |t::ts,x::xs=>IU t x/\RH ts xs
 |_,_=>False
theorem Aha {t:Int}{xs:List Int}(h:RH [t] xs):∃ a,xs=[a]/\IU t a:=by
 match xs,h with
 | [a],h=>exact⟨a,rfl,h.1⟩
theorem Ag9 {t u:Int}{xs:List Int}(h:RH [t,u] xs):∃ a b,xs=[a,b]/\IU t a/\IU u b:=by
 match xs,h with
 | [a,b],h=>exact⟨a,b,rfl,h.1,h.2.1⟩
theorem Ag8 {t u v:Int}{xs:List Int}(h:RH [t,u,v] xs):∃ a b c,xs=[a,b,c]/\IU t a/\IU u b/\IU v c:=by
 match xs,h with
 | [a,b,c],h=>exact⟨a,b,c,rfl,h.1,h.2.1,h.2.2.1⟩
theorem Sl (n:Int):CP n=some (IP n):=by
 unfold CP IP
 congr 1
 repeat' split
 all_goals omega
theorem Aaw (n:Int):FJ n=some (OG n):=by
 unfold FJ OG
 congr 1
 repeat' split
 all_goals omega
theorem UL {d n:Int}(h : -1000000000000000<=n/\n<=1000000000000000)(h2:0<=d/\d<=41667):D5 d n=some (Ov d n):=by
 grind [D5,Ov,Aaw,Ew]
theorem Adw {a b:Int}(ha:0<=a/\a<=1)(hb:0<=b/\b<=1):bits .and .i64 a b=a*b/\bits .or .i64 a b=max a b:=by
 have h1:a=0∨a=1:=by omega
 have h2:b=0∨b=1:=by omega
 rcases h1 with rfl|rfl<;>rcases h2 with rfl|rfl<;>decide
theorem Aae (b:Bool):(Dt b).bind (fun f=>some f)=some (Ph b):=by cases b<;>rfl
instance (t v:Int):Decidable (IU t v):=by unfold IU;exact inferInstance
theorem Ac0 (b:Bool):IU 3 (Ph b):=by cases b<;>decide
theorem op1 {t:Int}(m:Ah){d:Do}{k:Int}(h:∀ a,IU t a->Ev (fun n=>Gy n d m [a]) (RE m d [a])/\IU k (RE m d [a])):∀ xs,RH [t] xs->Ev (fun n=>Gy n d m xs) (RE m d xs)/\IU k (RE m d xs):=by
 intro xs hx
 obtain⟨a,rfl,h1⟩:=Aha hx
 exact h a h1
theorem ZB {t u:Int}(m:Ah){d:Do}{k:Int}(h:∀ a b,IU t a->IU u b->Ev (fun n=>Gy n d m [a,b]) (RE m d [a,b])/\IU k (RE m d [a,b])):∀ xs,RH [t,u] xs->Ev (fun n=>Gy n d m xs) (RE m d xs)/\IU k (RE m d xs):=by
 intro xs hx
 obtain⟨a,b,rfl,h1,h2⟩:=Ag9 hx
 exact h a b h1 h2
theorem op3 {t u v:Int}(m:Ah){d:Do}{k:Int}(h:∀ a b c,IU t a->IU u b->IU v c->Ev (fun n=>Gy n d m [a,b,c]) (RE m d [a,b,c])/\IU k (RE m d [a,b,c])):∀ xs,RH [t,u,v] xs->Ev (fun n=>Gy n d m xs) (RE m d xs)/\IU k (RE m d xs):=by
 intro xs hx
 obtain⟨a,b,c,rfl,h1,h2,h3⟩:=Ag8 hx
 exact h a b c h1 h2 h3
theorem in1 {v:Int}(h:IU 1 v) : -999999999999999<=v/\v<=999999999999999:=by unfold IU at h;omega
theorem in2 {v:Int}(h:IU 2 v):0<=v/\v<=41667:=by unfold IU at h;omega
theorem in3 {v:Int}(h:IU 3 v):0<=v/\v<=1:=by unfold IU at h;omega
theorem to1 {v:Int}(h : -999999999999999<=v/\v<=999999999999999):IU 1 v:=by unfold IU;omega
theorem to2 {v:Int}(h:0<=v/\v<=41667):IU 2 v:=by unfold IU;omega
theorem to3 {v:Int}(h:0<=v/\v<=1):IU 3 v:=by unfold IU;omega
theorem to4 {v:Int}(h:0<=v/\v<=1000):IU 4 v:=by unfold IU;omega
theorem OF (n:Int):IU 1 (IP n):=to1 (by unfold IP;split<;>(try split)<;>omega)
theorem SB (n:Int):IU 2 (OG n):=to2 (by unfold OG;split<;>(try split)<;>omega)
theorem YY (n:Int):IU 4 (Rg n):=to4 (by unfold Rg;split<;>(try split)<;>omega)
theorem UM {d:Int}(n:Int)(h:0<=d/\d<=41667):IU 2 (Ov d n):=by
 unfold Ov
 split
 . exact to2 h
 . exact SB _
def Ub (m:Ah)(o:Ab):Prop:=∀ xs,RH o.args xs->Ev (fun n=>Gy n o.do_ m xs) (RE m o.do_ xs)/\IU o.kind (RE m o.do_ xs)
theorem Acg (m:Ah)(hm:OkM m):∀ o∈FT,Ub m o:=by
 have fact:∀ (s:Æ) (k:Int),k=0∨k=1∨k=2∨k=3∨k=4->Ub m ⟨4,s,[4],2,.k k⟩:=fun s k hk=>op1 m fun a ha=>by
  refine⟨?_,to2 (ZK hm _ _)⟩
  show Ev (fun n=>(gi [a] 0).bind fun x1=>(C5 n m (À (k+1)) x1).bind fun f=>some f) (II m (k+1) a)
  rw [Ew (by omega) (by omega)]
  show Ev (fun n=>(C5 n m (k+1) a).bind fun f=>some f) (II m (k+1) a)
  exact Ev.bind (Ac4 m (k+1) a hm.len) Ev.pure
 unfold FT
 simp only [List.forall_mem_cons,List.not_mem_nil,false_imp_iff,implies_true,and_true]
 refine⟨?_,?_,?_,?_,?_,?_,?_,?_,?_,?_,?_,?_,fact _ _ (by simp),fact _ _ (by simp),fact _ _ (by simp),fact _ _ (by simp),fact _ _ (by simp)⟩
 . refine op1 m fun a ha=>?_
   have:=in1 ha
   refine⟨Ev.const ?_,to1 (by show _<=-a/\-a<=_;omega)⟩
   show some (À (0-a))=some (-a)
   rw [Ew (by omega) (by omega)];congr 1;omega
 . refine ZB m fun a b ha hb=>⟨Ev.const ?_,OF _⟩
   show (D4 a b).bind _=_
   rw [Zn a b (in1 ha) (in1 hb)];rfl
 . refine ZB m fun a b ha hb=>⟨Ev.const ?_,OF _⟩
   have:=in1 ha
   have:=in1 hb
   show (CP (À (a+b))).bind _=_
   rw [Ew (by omega) (by omega),Sl];rfl
 . refine ZB m fun a b ha hb=>⟨Ev.const ?_,UM _ (in2 ha)⟩
   have:=in1 hb
   show (D5 a b).bind _=_
   rw [UL (by omega) (in2 ha)];rfl
 . refine ZB m fun a b ha hb=>⟨Ev.const ?_,OF _⟩
   have:=in1 ha
   have:=in1 hb
   show (CP (À (a-b))).bind _=_
   rw [Ew (by omega) (by omega),Sl];rfl
 . refine ZB m fun a b ha hb=>⟨Ev.const ?_,UM _ (in2 ha)⟩
   have:=in1 hb
   show (D5 a (À (0-b))).bind _=_
   rw [Ew (by omega) (by omega),UL (by omega) (in2 ha),show (0:Int)-b = -b by omega];rfl
 . refine ZB m fun a b ha hb=>?_
   have:=in2 ha
   have:=in2 hb
   refine⟨Ev.const ?_,to1 (by show _<=a-b/\a-b<=_;omega)⟩
   show some (À (a-b))=some (a-b)
   rw [Ew (by omega) (by omega)]
 . refine op1 m fun a ha=>?_
   have:=in3 ha
   refine⟨Ev.const ?_,to3 (by show _<=1-a/\1-a<=_;omega)⟩
   show some (À (1-a))=some (1-a)
   rw [Ew (by omega) (by omega)]
 . refine ZB m fun a b ha hb=>?_
   have h1:a=0∨a=1:=by have:=in3 ha;omega
   have h2:b=0∨b=1:=by have:=in3 hb;omega
   refine⟨Ev.const ?_,?_⟩
   . show some (bits .and .i64 a b)=some (a*b)
     rw [(Adw (in3 ha) (in3 hb)).1]
   . show IU 3 (a*b)
     rcases h1 with rfl|rfl<;>rcases h2 with rfl|rfl<;>decide
 . refine ZB m fun a b ha hb=>?_
   have h1:a=0∨a=1:=by have:=in3 ha;omega
   have h2:b=0∨b=1:=by have:=in3 hb;omega
   refine⟨Ev.const ?_,?_⟩
   . show some (bits .or .i64 a b)=some (max a b)
     rw [(Adw (in3 ha) (in3 hb)).2]
   . show IU 3 (max a b)
     rcases h1 with rfl|rfl<;>rcases h2 with rfl|rfl<;>decide
 . refine op1 m fun a ha=>⟨Ev.const ?_,SB _⟩
   show (FJ a).bind _=_
   rw [Aaw];rfl
 . refine op1 m fun a ha=>⟨Ev.const ?_,YY _⟩
   show some (if (if 1000<a then 1000 else a) > 0 then (if 1000<a then 1000 else a) else 0)=some (Rg a)
   unfold Rg
   congr 1
   repeat' split
   all_goals omega
theorem Aeb (m:Ah)(i:Nat):∀ o∈Ho i,Ub m o:=by
 have cmp:∀ (op t:Int) (f:Nat),f=100∨f=101∨f=102∨f=103∨f=104∨f=105->Ub m ⟨op,⟨#[]⟩,[t,t],3,.is f⟩:=fun op t f hf=>ZB m fun a b _ _=>by
  rcases hf with rfl|rfl|rfl|rfl|rfl|rfl<;>exact⟨Ev.const (Aae _),Ac0 _⟩
 intro o ho
 unfold Ho at ho
 split at ho
 . rename_i op f e
   have hf:f=100∨f=101∨f=102∨f=103∨f=104∨f=105:=by
    grind [opk,List.mem_of_getElem?]
   unfold J0 at ho
   split at ho<;>simp at ho
   . rcases ho with rfl|rfl|rfl<;>exact cmp _ _ _ hf
   . rcases ho with rfl|rfl<;>exact cmp _ _ _ hf
 . simp at ho
theorem Acf (m:Ah):∀ o∈OM,Ub m o:=by
 have ite:∀ t:Int,Ub m ⟨20,⟨#[]⟩,[3,t,t],t,.c 108⟩:=fun t=>op3 m fun a b c ha hb hc=>by
  have h1:a=0∨a=1:=by have:=in3 ha;omega
  rcases h1 with rfl|rfl
  . exact⟨Ev.const rfl,hc⟩
  . exact⟨Ev.const rfl,hb⟩
 have mn:∀ t:Int,Ub m ⟨4,⟨#[109,105,110]⟩,[t,t],t,.c 109⟩:=fun t=>ZB m fun a b ha hb=>by
  have e:RE m (.c 109) [a,b]=min a b:=rfl
  rw [e]
  refine⟨Ev.const ?_,?_⟩
  . show some (if b<a then b else a)=some (min a b)
    congr 1
    split<;>omega
  . grind [OM]
 have mx:∀ t:Int,Ub m ⟨4,⟨#[109,97,120]⟩,[t,t],t,.c 110⟩:=fun t=>ZB m fun a b ha hb=>by
  have e:RE m (.c 110) [a,b]=max a b:=rfl
  rw [e]
  refine⟨Ev.const ?_,?_⟩
  . show some (if b > a then b else a)=some (max a b)
    congr 1
    split<;>omega
  . grind [OM]
 unfold OM
 simp only [List.forall_mem_cons,List.not_mem_nil,false_imp_iff,implies_true,and_true]
 exact⟨ite 1,mn 1,mx 1,ite 2,mn 2,mx 2,ite 3,ite 4⟩
theorem Ad8 (m:Ah)(hm:OkM m)(os:List Nat):∀ o∈opsOf os,Ub m o:=by
 grind [opsOf,Acg,Aeb,Acf]
theorem SF {p x:Int}(h:x≠0):¬ (V8 p x).2.2.E=0:=h
theorem Aag {op num at0:Int}{str:Æ}{kids:List Ag}(h:(B4 (.mk op num str kids at0)).2.2.E=0) :
 ∃ ts,Gb kids=.inl ts/\((op=1/\0<=num/\num<=999999999999999/\kids=[]/\B4 (.mk op num str kids at0)=(1,op0,⟨0,0⟩))
  ∨ (op=3/\(Dz CJ str).2=true/\kids=[]/\B4 (.mk op num str kids at0)=((Dz CJ str).1,op0,⟨0,0⟩))
  ∨ (op≠1/\op≠3/\∃ o,o∈Kh/\pick op str ts Kh=some o/\o.args=ts/\B4 (.mk op num str kids at0)=(o.kind,o,⟨0,0⟩))):=by
 rw [B4] at h ⊢
 by_cases c:op<1∨20<op∨(0<=arity op/\(kids.length:Int)≠arity op)
 . rw [Ç c] at h;exact absurd h (SF (by decide))
 rw [Ä c] at h ⊢
 cases ht:Gb kids with
 |inr o =>
  rw [ht] at h
  exfalso
  have key:∀ (l:List Ag) (o:Int×Ab×An),Gb l=.inr o->o.2.2.E≠0:=by
   intro l
   induction l with
   |nil=>intro o h;cases h
   |cons e l ih =>
    intro o h
    rw [Gb] at h
    split at h
    . rename_i h1;cases h;exact h1
    . split at h
      . cases h
      . rename_i h2;cases h;exact ih _ h2
  exact key _ _ ht h
 |inl ts =>
  refine⟨ts,rfl,?_⟩
  rw [ht] at h
  simp only at h ⊢
  have a1:arity op=0->kids=[]:=fun ha=>by
   grind [arity,List.length_eq_zero_iff]
  by_cases h1:op=1
  . rw [Ç h1] at h ⊢
    split at h
    . exact absurd h (SF (by decide))
    . rename_i h2
      rw [Ä h2]
      exact .inl ⟨h1,by omega,by omega,a1 (by subst h1;rfl),rfl⟩
  rw [Ä h1] at h ⊢
  by_cases h2:op=2
  . rw [Ç h2] at h;exact absurd h (SF (by decide))
  rw [Ä h2] at h ⊢
  by_cases h3:op=3
  . rw [Ç h3] at h ⊢
    split at h
    . rename_i h4
      rw [Ç h4]
      exact .inr (.inl ⟨h3,h4,a1 (by subst h3;rfl),rfl⟩)
    . exact absurd h (SF (by decide))
  rw [Ä h3] at h ⊢
  refine .inr (.inr ⟨h1,h3,?_⟩)
  unfold CF at h ⊢
  cases hp:pick op str ts Kh with
  |some o =>
   have hp2:=hp
   unfold pick at hp2
   have m1:=List.mem_of_find?_eq_some hp2
   have m2:=List.find?_some hp2
   rw [Å,Î] at m2
   exact⟨o,m1,rfl,m2.2,rfl⟩
  |none =>
   rw [hp] at h
   simp only at h
   split at h
   . exact absurd h (SF (by decide))
   . split at h<;>exact absurd h (SF (by decide))
mutual
def KZ (m:Ah):Ag->Int
 |.mk op n s kids p =>
  if op=1 then n
  else if op=3 then (Dz [(⟨#[121,101,97,114]⟩,365),(⟨#[115,116,111,114,101,100]⟩,m.d.Stored),(⟨#[110,101,118,101,114]⟩,41667),(⟨#[111,119,110,101,114]⟩,m.d.Owner)] s).1
  else RE m (B4 (.mk op n s kids p)).2.1.do_ (MU m kids)
def MU (m:Ah):List Ag->List Int
 | []=>[]
 |e::l=>KZ m e::MU m l
end
theorem Ack (m:Ah)(hm:OkM m)(s:Æ)(h:(Dz CJ s).2=true) :
 IU (Dz CJ s).1 (Dz [(⟨#[121,101,97,114]⟩,365),(⟨#[115,116,111,114,101,100]⟩,m.d.Stored),(⟨#[110,101,118,101,114]⟩,41667),(⟨#[111,119,110,101,114]⟩,m.d.Owner)] s).1:=by
 have h1:=hm.st
 have h2:=hm.ow
 all_goals grind [CJ,Dz,to1,to2,to4]
theorem ZV {m:Ah}{d:Do}{xs:List Int}{v:Int}(h:Ev (fun n=>Gy n d m xs) v):gfn d=some d:=by
 obtain⟨n,h⟩:=h.get
 cases d with
 |nil=>cases h
 |_=>rfl
theorem Uo (s:AW)(m:Ah)(e:Ag)(hk:e.Kids.length<=1000000)(hf:∀ x∈e.Kids,Ev (fun n=>AA n s x m) (KZ m x)) :
 ∀ (r:List Ag) (k:Nat) (vs:List Int),e.Kids.drop k=r->k<=e.Kids.length->vs.length=k->Ev (fun n=>AQ n e s m vs (k:Int)) (vs++MU m r)
 | [],k,vs,hr,hkl,_=>by
  have he:=JI hr hkl
  refine Ev.step (f:=fun n=>some vs) (fun n=>?_) ?_
  . rw [EX,show (decide ((k:Int)<(e.Kids.length:Int)))=false by rw [Ù];omega];rfl
  . rw [MU,ą];exact Ev.pure
 |x::r,k,vs,hr,hkl,hvs=>by
  obtain⟨h1,h2⟩:=F6 hr
  have hmem:x∈e.Kids:=ë (by rw [hr];simp)
  refine Ev.step (f:=fun n=>(AA n s x m).bind fun v=>AQ n e s m (vs++[v]) ((k+1:Nat):Int)) (fun n=>?_) ?_
  . rw [EX,P2 h2,Ð,O5 hr,Á]
    congr 1
    funext v
    rw [Á,Ado (by omega) (by simp),Á,NU (by omega)]
  . refine Ev.bind (hf x hmem) ?_
    have ih:=Uo s m e hk hf r (k+1) (vs++[KZ m x]) h1 (by omega) (by simp [hvs])
    rw [MU]
    simpa [î] using ih
def Ady (os:List Nat)(m:Ah)(e:Ag):Prop:=Ev (fun n=>AA n ⟨opsOf os,CJ⟩ e m) (KZ m e)/\IU (B4 e).1 (KZ m e)
theorem VQ {os:List Nat}(ho:Ord os)(m:Ah)(hm:OkM m)(op num at0:Int)(str:Æ)(kids:List Ag)(hs:ER (.mk op num str kids at0)=true)(ht:(B4 (.mk op num str kids at0)).2.2.E=0)
 (hkids:∀ ts,Gb kids=.inl ts->RH ts (MU m kids)/\∀ x∈kids,Ev (fun n=>AA n ⟨opsOf os,CJ⟩ x m) (KZ m x)):Ady os m (.mk op num str kids at0):=by
 have hfind:=T6 ho _ hs
 have hs2:=hs
 rw [ER,Å,Î] at hs2
 obtain⟨ts,h1,h2⟩:=Aag ht
 obtain⟨k1,k2⟩:=hkids ts h1
 rcases h2 with⟨rfl,n1,n2,_,hf⟩|⟨rfl,n1,_,hf⟩|⟨c1,c3,o,ho1,ho2,ho3,hf⟩
 . refine⟨?_,?_⟩
   . refine Ev.step (f:=fun n=>some num) (fun n=>?_) ?_
     . rw [DN];rfl
     . rw [KZ,Ç rfl];exact Ev.pure
   . rw [hf,KZ,Ç rfl];exact to1 ⟨by omega,n2⟩
 . refine⟨?_,?_⟩
   . refine Ev.step (f:=fun n=>some (KZ m (.mk 3 num str kids at0))) (fun n=>?_) Ev.pure
     rw [DN,KZ,Ä (by decide),Ç rfl];rfl
   . rw [hf,KZ,Ä (by decide),Ç rfl];exact Ack m hm str n1
 . have hop:=Ad8 m hm _ o ho1 (MU m kids) (by rw [ho3];exact k1)
   have hv:KZ m (.mk op num str kids at0)=RE m o.do_ (MU m kids):=by rw [KZ,Ä c1,Ä c3,hf]
   refine⟨?_,?_⟩
   . have loop:=Uo ⟨opsOf os,CJ⟩ m (.mk op num str kids at0) hs2.1 k2 kids 0 [] rfl (ü _) rfl
     refine Ev.step (f:=fun n=>(AQ n (.mk op num str kids at0) ⟨opsOf os,CJ⟩ m [] 0).bind fun x=>(A4 n ⟨opsOf os,CJ⟩ (.mk op num str kids at0)).bind fun f=>(gfn f.2.1.do_).bind fun d=>(Gy n d m x).bind fun r1=>some r1) (fun n=>?_) ?_
     . grind [DN]
     . refine Ev.bind loop (Ev.bind hfind ?_)
       rw [hf,hv]
       simp only [þ,ZV hop.1,Á]
       exact Ev.bind hop.1 Ev.pure
   . rw [hf,hv];exact hop.2
mutual
theorem PR {os:List Nat}(ho:Ord os)(m:Ah)(hm:OkM m):∀ (e:Ag),ER e=true->(B4 e).2.2.E=0->Ady os m e
 |.mk op num str kids at0,hs,ht=>by
  refine VQ ho m hm op num at0 str kids hs ht fun ts hts=>?_
  rw [ER,Å] at hs
  exact RV ho m hm kids ts hs.2 hts
theorem RV {os:List Nat}(ho:Ord os)(m:Ah)(hm:OkM m):∀ (l:List Ag) (ts:List Int),Kj l=true->Gb l=.inl ts->RH ts (MU m l)/\∀ x∈l,Ev (fun n=>AA n ⟨opsOf os,CJ⟩ x m) (KZ m x)
 | [],ts,_,ht=>by
  rw [Gb] at ht
  cases ht
  exact⟨trivial,fun x hx=>by simp at hx⟩
 |e::l,ts,hs,ht=>by
  rw [Kj,Å] at hs
  rw [Gb] at ht
  by_cases c:(B4 e).2.2.E=0
  . rw [Ä (by simpa using c)] at ht
    cases ht2:Gb l with
    |inr o=>rw [ht2] at ht;cases ht
    |inl us =>
     rw [ht2] at ht
     cases ht
     obtain⟨g1,g2⟩:=PR ho m hm e hs.1 c
     obtain⟨r1,r2⟩:=RV ho m hm l us hs.2 ht2
     refine⟨⟨g2,r1⟩,fun x hx=>?_⟩
     rcases List.mem_cons.1 hx with hx|hx
     . rw [hx];exact g1
     . exact r2 x hx
  . rw [Ç c] at ht;cases ht
end
def VR (e:Ag)(m:Ah):Option Int:=if ER e=true/\(B4 e).2.2.E=0/\Dy m.d m.known=0 then some (KZ m e) else none
end Go.Sp
namespace Go.Sp
open Go Go.Vl
set_option linter.unusedVariables false
structure Aa where
 Name:Æ
 Kind:Int
 Rank:Int
 Known:Int
 From:Ag
 To:Ag
 When:Ag
 Houses:Int
def Bv (x:Aa):List PV:=[tP x.Name,iP x.Kind,iP x.Rank,iP x.Known,iP x.From.Op,iP x.From.N,tP x.From.S,hP x.From.Kids Bf,iP x.From.At,iP x.To.Op,iP x.To.N,tP x.To.S,hP x.To.Kids Bf,iP x.To.At,iP x.When.Op,iP x.When.N,tP x.When.S,hP x.When.Kids Bf,iP x.When.At,iP x.Houses]
theorem Jd (x:Aa):Bv x=[tP x.Name,iP x.Kind,iP x.Rank,iP x.Known,iP x.From.Op,iP x.From.N,tP x.From.S,hP x.From.Kids Bf,iP x.From.At,iP x.To.Op,iP x.To.N,tP x.To.S,hP x.To.Kids Bf,iP x.To.At,iP x.When.Op,iP x.When.N,tP x.When.S,hP x.When.Kids Bf,iP x.When.At,iP x.Houses]:=rfl
theorem IC (x:Aa):(Bv x).length=20:=rfl
def A7:Rw Aa:=⟨Bv,_,20,Jd,IC⟩
def Ju (x:Int):List PV:=[uP x]
theorem Yu (x:Int):Ju x=[uP x]:=rfl
theorem Wg (x:Int):(Ju x).length=1:=rfl
def OQ:Rw Int:=⟨Ju,_,1,Yu,Wg⟩
def BL:Nat->Aj->Int->Option (Unit ⊕ Int)
 |0,_,_=>none
 |n+1,d,v14 =>
  bif (decide (v14<(d.Facts.length:Int))) then
   (gi d.Facts v14).bind fun x =>
   ((bif (decide (x.Kind<1)) then
    some true
   else
    bif (decide (5<x.Kind)) then
     some true
    else
     bif (decide (x.Who<1)) then
      some true
     else
      bif (decide (1000<x.Who)) then
       some true
      else
       bif (decide (x.Day<0)) then
        some true
       else
        bif (decide (41666<x.Day)) then
         some true
        else
         bif (decide (x.Known<0)) then
          some true
         else
          some (decide (41666<x.Known))
   ):Option Bool).bind fun v55 =>
    bif v55 then
     some (.inr 1)
    else
     BL n d (À (v14+1))
  else
   some (.inl ())
theorem Hj (n:Nat)(d:Aj)(v14:Int):BL (n+1) d v14 =
 bif (decide (v14<(d.Facts.length:Int))) then
  (gi d.Facts v14).bind fun x =>
  ((bif (decide (x.Kind<1)) then
   some true
  else
   bif (decide (5<x.Kind)) then
    some true
   else
    bif (decide (x.Who<1)) then
     some true
    else
     bif (decide (1000<x.Who)) then
      some true
     else
      bif (decide (x.Day<0)) then
       some true
      else
       bif (decide (41666<x.Day)) then
        some true
       else
        bif (decide (x.Known<0)) then
         some true
        else
         some (decide (41666<x.Known))
  ):Option Bool).bind fun v55 =>
   bif v55 then
    some (.inr 1)
   else
    BL n d (À (v14+1))
 else
  some (.inl ()):=by rw [BL]
def Fe (n:Nat)(d:Aj)(known:Int):Option Int :=
 bif (decide (200<(d.Facts.length:Int))) then
  some 2
 else
  ((BL n d 0
  ):Option (Unit ⊕ Int)).bind fun y=>match y with
  |.inl _ =>
   ((bif (decide (d.Stored<0)) then
    some true
   else
    bif (decide (41666<d.Stored)) then
     some true
    else
     bif (decide (known<0)) then
      some true
     else
      bif (decide (41666<known)) then
       some true
      else
       bif (decide (d.Owner<0)) then
        some true
       else
        some (decide (1000<d.Owner))
   ):Option Bool).bind fun v82 =>
    bif v82 then
     some 1
    else
     some 0
  |.inr o=>some o
def D7 (c:Int):Option Bool :=
 ((bif (decide (97<=c)) then
  bif (decide (c<=122)) then
   some false
  else
   bif (decide (65<=c)) then
    bif (decide (c<=90)) then
     some false
    else
     bif (c == 95) then
      some false
     else
      bif (decide (48<=c)) then
       some (!(decide (c<=57)))
      else
       some true
   else
    bif (c == 95) then
     some false
    else
     bif (decide (48<=c)) then
      some (!(decide (c<=57)))
     else
      some true
 else
  bif (decide (65<=c)) then
   bif (decide (c<=90)) then
    some false
   else
    bif (c == 95) then
     some false
    else
     bif (decide (48<=c)) then
      some (!(decide (c<=57)))
     else
      some true
  else
   bif (c == 95) then
    some false
   else
    bif (decide (48<=c)) then
     some (!(decide (c<=57)))
    else
     some true
 ):Option Bool).bind fun v2 =>
  some v2
def AK:Nat->(List Int)->Int->Option (Unit ⊕ Int)
 |0,_,_=>none
 |n+1,s,v8 =>
  bif (decide (v8<(s.length:Int))) then
   (gi s v8).bind fun x =>
   (D7 x).bind fun i =>
   bif i then
    some (.inr v8)
   else
    AK n s (À (v8+1))
  else
   some (.inl ())
theorem Eo (n:Nat)(s:(List Int))(v8:Int):AK (n+1) s v8 =
 bif (decide (v8<(s.length:Int))) then
  (gi s v8).bind fun x =>
  (D7 x).bind fun i =>
  bif i then
   some (.inr v8)
  else
   AK n s (À (v8+1))
 else
  some (.inl ()):=by rw [AK]
def De (n:Nat)(s:(List Int)):Option Int :=
 ((AK n s 0
 ):Option (Unit ⊕ Int)).bind fun y=>match y with
 |.inl _ =>
  some (-1)
 |.inr o=>some o
def Ce (n:Nat)(s:(List Int)):Option Bool :=
 (De n s).bind fun i =>
 some (decide (0<=i))
def E5 (n:Nat)(s:Æ):Option Bool :=
 ((bif (decide (s=⟨#[]⟩)) then
  some true
 else
  bif (decide (32<(s.size:Int))) then
   some true
  else
   (gb s 0).bind fun c1 =>
   bif (decide (48<=c1)) then
    some (decide (c1<=57))
   else
    some false
 ):Option Bool).bind fun v19 =>
  bif v19 then
   some false
  else
   (QL s).bind fun b =>
   (Ce n b).bind fun c =>
   some (!c)
def DC (c:Æ)(c1:Int)(c2:Int)(c3:Int)(c4:Int)(c5:Int)(c6:Æ)(c7:(List Ag))(c8:Int)(c9:Int)(c10:Int)(c11:Æ)(c12:(List Ag))(c13:Int)(c14:Int)(c15:Int)(c16:Æ)(c17:(List Ag))(c18:Int)(c19:Int)(x:Aa):Option Bool :=
 some (decide (x.Name=c))
def AF:Nat->(List Aa)->Æ->Int->Int->Int->Int->Int->Æ->(List Ag)->Int->Int->Int->Æ->(List Ag)->Int->Int->Int->Æ->(List Ag)->Int->Int->Int->Option (Unit ⊕ Int)
 |0,_,_,_,_,_,_,_,_,_,_,_,_,_,_,_,_,_,_,_,_,_,_=>none
 |n+1,s,c,c1,c2,c3,c4,c5,c6,c7,c8,c9,c10,c11,c12,c13,c14,c15,c16,c17,c18,c19,v8 =>
  bif (decide (v8<(s.length:Int))) then
   (gi s v8).bind fun x =>
   (DC c c1 c2 c3 c4 c5 c6 c7 c8 c9 c10 c11 c12 c13 c14 c15 c16 c17 c18 c19 x).bind fun c20 =>
   bif c20 then
    some (.inr v8)
   else
    AF n s c c1 c2 c3 c4 c5 c6 c7 c8 c9 c10 c11 c12 c13 c14 c15 c16 c17 c18 c19 (À (v8+1))
  else
   some (.inl ())
theorem DL (n:Nat)(s:(List Aa))(c:Æ)(c1:Int)(c2:Int)(c3:Int)(c4:Int)(c5:Int)(c6:Æ)(c7:(List Ag))(c8:Int)(c9:Int)(c10:Int)(c11:Æ)(c12:(List Ag))(c13:Int)(c14:Int)(c15:Int)(c16:Æ)(c17:(List Ag))(c18:Int)(c19:Int)(v8:Int):AF (n+1) s c c1 c2 c3 c4 c5 c6 c7 c8 c9 c10 c11 c12 c13 c14 c15 c16 c17 c18 c19 v8 =
 bif (decide (v8<(s.length:Int))) then
  (gi s v8).bind fun x =>
  (DC c c1 c2 c3 c4 c5 c6 c7 c8 c9 c10 c11 c12 c13 c14 c15 c16 c17 c18 c19 x).bind fun c20 =>
  bif c20 then
   some (.inr v8)
  else
   AF n s c c1 c2 c3 c4 c5 c6 c7 c8 c9 c10 c11 c12 c13 c14 c15 c16 c17 c18 c19 (À (v8+1))
 else
  some (.inl ()):=by rw [AF]
def CC (n:Nat)(c:Æ)(c1:Int)(c2:Int)(c3:Int)(c4:Int)(c5:Int)(c6:Æ)(c7:(List Ag))(c8:Int)(c9:Int)(c10:Int)(c11:Æ)(c12:(List Ag))(c13:Int)(c14:Int)(c15:Int)(c16:Æ)(c17:(List Ag))(c18:Int)(c19:Int)(s:(List Aa)):Option Int :=
 ((AF n s c c1 c2 c3 c4 c5 c6 c7 c8 c9 c10 c11 c12 c13 c14 c15 c16 c17 c18 c19 0
 ):Option (Unit ⊕ Int)).bind fun y=>match y with
 |.inl _ =>
  some (-1)
 |.inr o=>some o
def Bu (n:Nat)(c:Æ)(c1:Int)(c2:Int)(c3:Int)(c4:Int)(c5:Int)(c6:Æ)(c7:(List Ag))(c8:Int)(c9:Int)(c10:Int)(c11:Æ)(c12:(List Ag))(c13:Int)(c14:Int)(c15:Int)(c16:Æ)(c17:(List Ag))(c18:Int)(c19:Int)(s:(List Aa)):Option Bool :=
 (CC n c c1 c2 c3 c4 c5 c6 c7 c8 c9 c10 c11 c12 c13 c14 c15 c16 c17 c18 c19 s).bind fun c20 =>
 some (decide (0<=c20))
def E3 (c:Æ)(c1:Int)(c2:Int)(c3:Int)(c4:Int)(c5:Int)(c6:Æ)(c7:(List Ag))(c8:Int)(c9:Int)(c10:Int)(c11:Æ)(c12:(List Ag))(c13:Int)(c14:Int)(c15:Int)(c16:Æ)(c17:(List Ag))(c18:Int)(c19:Int):Option Unit :=
 some ()
def A9:Nat->Aa->Int->Option (Unit ⊕ Int)
 |0,_,_=>none
 |n+1,x,v94 =>
  bif (v94 == 0) then
   (Jg x.From).bind fun f2 =>
   bif (f2.2.2.E != 0) then
    some (.inr f2.2.2.E)
   else
    bif (f2.1 != 2) then
     some (.inr 7)
    else
     A9 n x 1
  else
   bif (v94 == 1) then
    (Jg x.To).bind fun f1 =>
    bif (f1.2.2.E != 0) then
     some (.inr f1.2.2.E)
    else
     bif (f1.1 != 2) then
      some (.inr 7)
     else
      A9 n x 2
   else
    bif (v94 == 2) then
     (Jg x.When).bind fun f =>
     bif (f.2.2.E != 0) then
      some (.inr f.2.2.E)
     else
      bif (f.1 != 3) then
       some (.inr 7)
      else
       A9 n x 3
    else
     bif (v94 == 3) then
      some (.inl ())
     else
      none
theorem DJ (n:Nat)(x:Aa)(v94:Int):A9 (n+1) x v94 =
 bif (v94 == 0) then
  (Jg x.From).bind fun f2 =>
  bif (f2.2.2.E != 0) then
   some (.inr f2.2.2.E)
  else
   bif (f2.1 != 2) then
    some (.inr 7)
   else
    A9 n x 1
 else
  bif (v94 == 1) then
   (Jg x.To).bind fun f1 =>
   bif (f1.2.2.E != 0) then
    some (.inr f1.2.2.E)
   else
    bif (f1.1 != 2) then
     some (.inr 7)
    else
     A9 n x 2
  else
   bif (v94 == 2) then
    (Jg x.When).bind fun f =>
    bif (f.2.2.E != 0) then
     some (.inr f.2.2.E)
    else
     bif (f.1 != 3) then
      some (.inr 7)
     else
      A9 n x 3
   else
    bif (v94 == 3) then
     some (.inl ())
    else
     none:=by rw [A9]
def Cz:Nat->(List Aa)->Int->Option (Unit ⊕ Int)
 |0,_,_=>none
 |n+1,l,v20 =>
  bif (decide (v20<(l.length:Int))) then
   (gi l v20).bind fun x =>
   (E5 n x.Name).bind fun i =>
   bif (!i) then
    some (.inr 6)
   else
    (ZS l 0 v20).bind fun l1 =>
    (Bu n x.Name x.Kind x.Rank x.Known x.From.Op x.From.N x.From.S x.From.Kids x.From.At x.To.Op x.To.N x.To.S x.To.Kids x.To.At x.When.Op x.When.N x.When.S x.When.Kids x.When.At x.Houses l1).bind fun c =>
    bif c then
     some (.inr 9)
    else
     ((bif (decide (x.Kind<1)) then
      some true
     else
      some (decide (3<x.Kind))
     ):Option Bool).bind fun v39 =>
      bif v39 then
       some (.inr 1)
      else
       ((bif (decide (x.Rank<0)) then
        some true
       else
        bif (decide (9<x.Rank)) then
         some true
        else
         bif (decide (x.Known<0)) then
          some true
         else
          bif (decide (41666<x.Known)) then
           some true
          else
           bif (!(x.Kind == 3)) then
            bif (x.Houses != 0) then
             some true
            else
             bif (x.Kind == 3) then
              bif (decide (x.Houses<1)) then
               some true
              else
               some (decide (4096<=x.Houses))
             else
              some false
           else
            bif (x.Kind == 3) then
             bif (decide (x.Houses<1)) then
              some true
             else
              some (decide (4096<=x.Houses))
            else
             some false
       ):Option Bool).bind fun v48 =>
        bif v48 then
         some (.inr 3)
        else
         (E3 x.Name x.Kind x.Rank x.Known x.From.Op x.From.N x.From.S x.From.Kids x.From.At x.To.Op x.To.N x.To.S x.To.Kids x.To.At x.When.Op x.When.N x.When.S x.When.Kids x.When.At x.Houses).bind fun w =>
         ((A9 n x 0
         ):Option (Unit ⊕ Int)).bind fun y3=>match y3 with
         |.inl _ =>
          Cz n l (À (v20+1))
         |.inr o=>some (.inr o)
  else
   some (.inl ())
theorem Hk (n:Nat)(l:(List Aa))(v20:Int):Cz (n+1) l v20 =
 bif (decide (v20<(l.length:Int))) then
  (gi l v20).bind fun x =>
  (E5 n x.Name).bind fun i =>
  bif (!i) then
   some (.inr 6)
  else
   (ZS l 0 v20).bind fun l1 =>
   (Bu n x.Name x.Kind x.Rank x.Known x.From.Op x.From.N x.From.S x.From.Kids x.From.At x.To.Op x.To.N x.To.S x.To.Kids x.To.At x.When.Op x.When.N x.When.S x.When.Kids x.When.At x.Houses l1).bind fun c =>
   bif c then
    some (.inr 9)
   else
    ((bif (decide (x.Kind<1)) then
     some true
    else
     some (decide (3<x.Kind))
    ):Option Bool).bind fun v39 =>
     bif v39 then
      some (.inr 1)
     else
      ((bif (decide (x.Rank<0)) then
       some true
      else
       bif (decide (9<x.Rank)) then
        some true
       else
        bif (decide (x.Known<0)) then
         some true
        else
         bif (decide (41666<x.Known)) then
          some true
         else
          bif (!(x.Kind == 3)) then
           bif (x.Houses != 0) then
            some true
           else
            bif (x.Kind == 3) then
             bif (decide (x.Houses<1)) then
              some true
             else
              some (decide (4096<=x.Houses))
            else
             some false
          else
           bif (x.Kind == 3) then
            bif (decide (x.Houses<1)) then
             some true
            else
             some (decide (4096<=x.Houses))
           else
            some false
      ):Option Bool).bind fun v48 =>
       bif v48 then
        some (.inr 3)
       else
        (E3 x.Name x.Kind x.Rank x.Known x.From.Op x.From.N x.From.S x.From.Kids x.From.At x.To.Op x.To.N x.To.S x.To.Kids x.To.At x.When.Op x.When.N x.When.S x.When.Kids x.When.At x.Houses).bind fun w =>
        ((A9 n x 0
        ):Option (Unit ⊕ Int)).bind fun y3=>match y3 with
        |.inl _ =>
         Cz n l (À (v20+1))
        |.inr o=>some (.inr o)
 else
  some (.inl ()):=by rw [Cz]
def Ff (n:Nat)(l:(List Aa)):Option Int :=
 bif (decide (40<(l.length:Int))) then
  some 2
 else
  (some ()).bind fun u =>
  ((Cz n l 0
  ):Option (Unit ⊕ Int)).bind fun y=>match y with
  |.inl _ =>
   some 0
  |.inr o=>some o
def EO (n:Nat)(c:Aa)(d:Aj)(known:Int):Option (Int×Int×Bool×Int) :=
 (some [c]).bind fun l =>
 (Ff n l).bind fun e =>
 bif (e != 0) then
  some (0,0,false,e)
 else
  (Fe n d known).bind fun e1 =>
  bif (e1 != 0) then
   some (0,0,false,e1)
  else
   (some ()).bind fun u =>
   (((VR c.From (Ah.mk d known)).bind fun from_1 =>
   (VR c.To (Ah.mk d known)).bind fun to_1 =>
   bif (decide (c.Known<=known)) then
    (VR c.When (Ah.mk d known)).bind fun v_ =>
    some (from_1,to_1,(v_ == 1))
   else
    some (from_1,to_1,false)
   ):Option (Int×Int×Bool)).bind fun y=>match y with
   |(from_,to_,applies) =>
    some (from_,to_,applies,0)
def Js:Option (ByteArray×ByteArray×ByteArray×ByteArray) :=
 some (⟨#[]⟩,⟨#[107,101,101,112]⟩,⟨#[100,114,111,112]⟩,⟨#[112,108,97,99,101]⟩)
def ES:Nat->(List Æ)->Æ->Int->Option (Unit ⊕ Int)
 |0,_,_,_=>none
 |n+1,s,v_,v8 =>
  bif (decide (v8<(s.length:Int))) then
   (gi s v8).bind fun x =>
   bif (decide (v_=x)) then
    some (.inr v8)
   else
    ES n s v_ (À (v8+1))
  else
   some (.inl ())
def HS (n:Nat)(s:(List Æ))(v_:Æ):Option Int :=
 ((ES n s v_ 0
 ):Option (Unit ⊕ Int)).bind fun y=>match y with
 |.inl _ =>
  some (-1)
 |.inr o=>some o
def F4:Nat->Ax->(List Int)->Int->Option (Unit ⊕ (Int×Bool))
 |0,_,_,_=>none
 |n+1,f,want,v52 =>
  bif (decide (v52<(f.Args.length:Int))) then
   (gi f.Args v52).bind fun x =>
   (gi want (if (À ((want.length:Int)-1))<v52 then (À ((want.length:Int)-1)) else v52)).bind fun x1 =>
   bif (x.Kind != x1) then
    some (.inr (0,false))
   else
    F4 n f want (À (v52+1))
  else
   some (.inl ())
def I5 (n:Nat)(f:Ax):Option (Int×Bool) :=
 (Js).bind fun l =>
 (HS n [l.2.1,l.2.2.1,l.2.2.2] f.Word).bind fun i =>
 (some [1,2,2,5,5,5]).bind fun l1 =>
 ((bif ((À (i+1)) == 3) then
  (some [4,2]).bind fun l2 =>
  (Ca 8 l1 l2).bind fun l3 =>
  some l3
 else
  some l1
 ):Option (List Int)).bind fun want =>
  ((bif ((À (i+1)) == 0) then
   some true
  else
   bif (decide (0<(f.Body.length:Int))) then
    some true
   else
    bif (decide ((f.Args.length:Int)<(want.length:Int))) then
     some true
    else
     bif ((À (i+1)) != 3) then
      some (decide ((want.length:Int)<(f.Args.length:Int)))
     else
      some false
  ):Option Bool).bind fun v48 =>
   bif v48 then
    some (0,false)
   else
    ((F4 n f want 0
    ):Option (Unit ⊕ (Int×Bool))).bind fun y2=>match y2 with
    |.inl _ =>
     some ((À (i+1)),true)
    |.inr o=>some o
def Fx (q:Int)(q1:Int)(p:Int)(p1:Int)(f:Æ)(f1:(List BB))(f2:(List Ax))(f3:Int)(c:Aa):Option Bool :=
 (gi f1 0).bind fun x =>
 some (decide (c.Name=x.S))
def Ci:Nat->(List Aa)->Int->Int->Int->Int->Æ->(List BB)->(List Ax)->Int->Int->Option (Unit ⊕ Int)
 |0,_,_,_,_,_,_,_,_,_,_=>none
 |n+1,s,q,q1,p,p1,f,f1,f2,f3,v8 =>
  bif (decide (v8<(s.length:Int))) then
   (gi s v8).bind fun x =>
   (Fx q q1 p p1 f f1 f2 f3 x).bind fun c =>
   bif c then
    some (.inr v8)
   else
    Ci n s q q1 p p1 f f1 f2 f3 (À (v8+1))
  else
   some (.inl ())
def DG (n:Nat)(q:Int)(q1:Int)(p:Int)(p1:Int)(f:Æ)(f1:(List BB))(f2:(List Ax))(f3:Int)(s:(List Aa)):Option Int :=
 ((Ci n s q q1 p p1 f f1 f2 f3 0
 ):Option (Unit ⊕ Int)).bind fun y=>match y with
 |.inl _ =>
  some (-1)
 |.inr o=>some o
def CR (n:Nat)(q:Int)(q1:Int)(p:Int)(p1:Int)(f:Æ)(f1:(List BB))(f2:(List Ax))(f3:Int)(s:(List Aa)):Option Bool :=
 (DG n q q1 p p1 f f1 f2 f3 s).bind fun c =>
 some (decide (0<=c))
def GR (q:Int)(q1:Int)(p:Int)(p1:Int)(f:Æ)(f1:(List BB))(f2:(List Ax))(f3:Int)(c:Æ)(c1:Int)(c2:Int)(c3:Int)(c4:Int)(c5:Int)(c6:Æ)(c7:(List Ag))(c8:Int)(c9:Int)(c10:Int)(c11:Æ)(c12:(List Ag))(c13:Int)(c14:Int)(c15:Int)(c16:Æ)(c17:(List Ag))(c18:Int)(c19:Int):Option Unit :=
 some ()
def CH:Nat->BB->BB->BB->Int->Option (Unit ⊕ ((List Aa)×An))
 |0,_,_,_,_=>none
 |n+1,x5,x6,x7,v170 =>
  bif (v170 == 0) then
   (Jg x5.E).bind fun f3 =>
   bif (f3.2.2.E != 0) then
    some (.inr ([],f3.2.2))
   else
    bif (f3.1 != 2) then
     some (.inr ([],(An.mk x5.At 7)))
    else
     CH n x5 x6 x7 1
  else
   bif (v170 == 1) then
    (Jg x6.E).bind fun f2 =>
    bif (f2.2.2.E != 0) then
     some (.inr ([],f2.2.2))
    else
     bif (f2.1 != 2) then
      some (.inr ([],(An.mk x6.At 7)))
     else
      CH n x5 x6 x7 2
   else
    bif (v170 == 2) then
     (Jg x7.E).bind fun f1 =>
     bif (f1.2.2.E != 0) then
      some (.inr ([],f1.2.2))
     else
      bif (f1.1 != 3) then
       some (.inr ([],(An.mk x7.At 7)))
      else
       CH n x5 x6 x7 3
    else
     bif (v170 == 3) then
      some (.inl ())
     else
      none
def DB:Nat->Ax->Int->Int->Int->Option (Int ⊕ ((List Aa)×An))
 |0,_,_,_,_=>none
 |n+1,x,v103,last,c2 =>
  bif (decide (v103<(x.Args.length:Int))) then
   (gi x.Args v103).bind fun x8 =>
   ((bif (v103 == 1) then
    bif (decide (x8.N<0)) then
     some true
    else
     bif (decide (9<x8.N)) then
      some true
     else
      bif (v103 == 2) then
       bif (decide (x8.N<0)) then
        some true
       else
        bif (decide (41666<x8.N)) then
         some true
        else
         bif (decide (6<v103)) then
          bif (decide (x8.N<=last)) then
           some true
          else
           some (decide (12<=x8.N))
         else
          some false
      else
       bif (decide (6<v103)) then
        bif (decide (x8.N<=last)) then
         some true
        else
         some (decide (12<=x8.N))
       else
        some false
   else
    bif (v103 == 2) then
     bif (decide (x8.N<0)) then
      some true
     else
      bif (decide (41666<x8.N)) then
       some true
      else
       bif (decide (6<v103)) then
        bif (decide (x8.N<=last)) then
         some true
        else
         some (decide (12<=x8.N))
       else
        some false
    else
     bif (decide (6<v103)) then
      bif (decide (x8.N<=last)) then
       some true
      else
       some (decide (12<=x8.N))
     else
      some false
   ):Option Bool).bind fun odd =>
    bif odd then
     some (.inr ([],(An.mk x8.At 3)))
    else
     bif (decide (6<v103)) then
      (gnn x8.N (À (1*2 ^ min x8.N.toNat IntKind.i64.bits))).bind fun q =>
      DB n x (À (v103+1)) x8.N (bits .or .i64 c2 q)
     else
      DB n x (À (v103+1)) last c2
  else
   some (.inl c2)
def EP:Nat->((List Ax)×An)->(List Aa)->Int->Option ((List Aa) ⊕ ((List Aa)×An))
 |0,_,_,_=>none
 |n+1,f,out1,v36 =>
  bif (decide (v36<(f.1.length:Int))) then
   (gi f.1 v36).bind fun x =>
   (I5 n x).bind fun s =>
   bif (!s.2) then
    some (.inr ([],(An.mk x.At 5)))
   else
    bif ((out1.length:Int) == 40) then
     some (.inr ([],(An.mk x.At 2)))
    else
     (CR n 0 0 f.2.At f.2.E x.Word x.Args x.Body x.At out1).bind fun c =>
     bif c then
      (gi x.Args 0).bind fun x1 =>
      some (.inr ([],(An.mk x1.At 9)))
     else
      (gi x.Args 0).bind fun x2 =>
      (gi x.Args 1).bind fun x3 =>
      (gi x.Args 2).bind fun x4 =>
      (gi x.Args 3).bind fun x5 =>
      (gi x.Args 4).bind fun x6 =>
      (gi x.Args 5).bind fun x7 =>
      ((DB n x 0 (-1) 0
      ):Option (Int ⊕ ((List Aa)×An))).bind fun y1=>match y1 with
      |.inl c1 =>
       (GR 0 0 f.2.At f.2.E x.Word x.Args x.Body x.At x2.S s.1 x3.N x4.N x5.E.Op x5.E.N x5.E.S x5.E.Kids x5.E.At x6.E.Op x6.E.N x6.E.S x6.E.Kids x6.E.At x7.E.Op x7.E.N x7.E.S x7.E.Kids x7.E.At c1).bind fun w =>
       ((CH n x5 x6 x7 0
       ):Option (Unit ⊕ ((List Aa)×An))).bind fun y2=>match y2 with
       |.inl _ =>
        (some [(Aa.mk x2.S s.1 x3.N x4.N x5.E x6.E x7.E c1)]).bind fun l =>
        (Ca 240 out1 l).bind fun l1 =>
        EP n f l1 (À (v36+1))
       |.inr o=>some (.inr o)
      |.inr o=>some (.inr o)
  else
   some (.inl out1)
def HR (n:Nat)(src:Æ):Option ((List Aa)×An) :=
 (L1 n src).bind fun f =>
 bif (f.2.E != 0) then
  some ([],f.2)
 else
  (some ()).bind fun u =>
  ((EP n f [] 0
  ):Option ((List Aa) ⊕ ((List Aa)×An))).bind fun y=>match y with
  |.inl out =>
   some (out,(An.mk 0 0))
  |.inr o=>some o
def IE (c:Aa)(k:Int):Option Ag :=
 bif (k == 0) then
  some c.From
 else
  bif (k == 1) then
   some c.To
  else
   some c.When
mutual
def C4:Nat->Ag->Int->Int->Option Int
 |0,_,_,_=>none
 |n+1,e,n_2,k =>
  ((bif (decide (k<(e.Kids.length:Int))) then
   some (decide (0<=n_2))
  else
   some false
  ):Option Bool).bind fun v16 =>
   bif v16 then
    (gi e.Kids k).bind fun x =>
    (BQ n x n_2).bind fun n_3 =>
    C4 n e n_3 (À (k+1))
   else
    some n_2
def BQ:Nat->Ag->Int->Option Int
 |0,_,_=>none
 |n+1,e,n_ =>
  ((C4 n e (À (n_-1)) 0
  ):Option Int).bind fun n_1 =>
   some n_1
end
theorem Gu (n:Nat)(e:Ag)(n_2:Int)(k:Int):C4 (n+1) e n_2 k =
 ((bif (decide (k<(e.Kids.length:Int))) then
  some (decide (0<=n_2))
 else
  some false
 ):Option Bool).bind fun v16 =>
  bif v16 then
   (gi e.Kids k).bind fun x =>
   (BQ n x n_2).bind fun n_3 =>
   C4 n e n_3 (À (k+1))
  else
   some n_2:=by rw [C4]
theorem Pu (n:Nat)(e:Ag)(n_:Int):BQ (n+1) e n_ =
 ((C4 n e (À (n_-1)) 0
 ):Option Int).bind fun n_1 =>
  some n_1:=by rw [BQ]
def BS:Nat->(List Aa)->Int->Int->Int->Option Int
 |0,_,_,_,_=>none
 |n+1,l,i,n_4,k =>
  ((bif (decide (k<3)) then
   some (decide (0<=n_4))
  else
   some false
  ):Option Bool).bind fun v25 =>
   bif v25 then
    (gi l i).bind fun x =>
    (IE x k).bind fun p =>
    (BQ n p n_4).bind fun n_5 =>
    BS n l i n_5 (À (k+1))
   else
    some n_4
theorem GV (n:Nat)(l:(List Aa))(i:Int)(n_4:Int)(k:Int):BS (n+1) l i n_4 k =
 ((bif (decide (k<3)) then
  some (decide (0<=n_4))
 else
  some false
 ):Option Bool).bind fun v25 =>
  bif v25 then
   (gi l i).bind fun x =>
   (IE x k).bind fun p =>
   (BQ n p n_4).bind fun n_5 =>
   BS n l i n_5 (À (k+1))
  else
   some n_4:=by rw [BS]
def Dw:Nat->(List Aa)->Int->Int->Option Int
 |0,_,_,_=>none
 |n+1,l,n_2,i =>
  ((bif (decide (i<(l.length:Int))) then
   some (decide (0<=n_2))
  else
   some false
  ):Option Bool).bind fun v17 =>
   bif v17 then
    ((BS n l i n_2 0
    ):Option Int).bind fun n_3 =>
     Dw n l n_3 (À (i+1))
   else
    some n_2
theorem GW (n:Nat)(l:(List Aa))(n_2:Int)(i:Int):Dw (n+1) l n_2 i =
 ((bif (decide (i<(l.length:Int))) then
  some (decide (0<=n_2))
 else
  some false
 ):Option Bool).bind fun v17 =>
  bif v17 then
   ((BS n l i n_2 0
   ):Option Int).bind fun n_3 =>
    Dw n l n_3 (À (i+1))
  else
   some n_2:=by rw [Dw]
def JA (n:Nat)(l:(List Aa))(n_:Int):Option Bool :=
 bif (decide (50<(l.length:Int))) then
  some false
 else
  ((Dw n l n_ 0
  ):Option Int).bind fun n_1 =>
   some (decide (0<=n_1))
abbrev hC (l:List Aa):PV:=hP l Bv
abbrev oC (l:List Aa):PV:=oP l Bv
end Go.Sp
namespace Go.Proofs.YtehfpameijkafaaGreatDoor
open Go.ChangeShapes Go.WideShapes Go.ChangeAt Go.RowKit Go.Q Go.Vl Go.Sp
set_option maxRecDepth 100000
abbrev UC (w:World):Nat->Nat->Prop:=fun b i=>(w.cell? ⟨b,i,none⟩).isSome=true
def Row (w:World)(r:List PV)(cs:List Value):Prop:=cs.length=r.length/\∀ j (hj:j<r.length),∃ u,cs[j]?=some u/\u.oneCell'=true/\∀ φ,V w (UC w) φ r[j] u
theorem Row.nil {w:World}:Row w [] []:=⟨rfl,fun j hj=>absurd hj (by simp)⟩
theorem Row.cons {w:World}{p:PV}{r:List PV}{u:Value}{cs:List Value}(h1:u.oneCell'=true)(h:∀ φ,V w (UC w) φ p u)(k:Row w r cs):Row w (p::r) (u::cs):=by
 refine⟨by simp [k.1],fun j hj=>?_⟩
 cases j with
 |zero=>exact⟨u,rfl,h1,h⟩
 |succ j=>exact k.2 j (by simpa using hj)
theorem Wo {H:Type}{enc:TypeId×Value->H}{w:World}{held:Bool}{fuel:Nat}{t e:TypeId}{sz:Nat}{cs:List Value}{x:DataW H×List MemPlace}{α:Type}(row:α->List PV)(R:α->Prop)
 (ht:Tryz.prog.underlying t=some (.slice e)) (hsz:Tryz.prog.cellsOf e=sz) (h0:0<sz) (hr:∀ y,(row y).length=sz)
 (hel:∀ n cs x,n<fuel->DataW.trod enc Tryz.prog w 0 (fun _=>true) held n e cs=some x->∃ y,R y/\Row w (row y) cs)
 (h:DataW.trod enc Tryz.prog w 0 (fun _=>true) held fuel t cs=some x) :
 ∃ (l:List α) (v:Value),cs=[v]/\v.oneCell'=true/\(∀ φ,V w (UC w) φ (.sl (l.map row) .shared) v)/\(∀ y∈l,R y)/\l.length<=9223372036854775807:=by
 rcases DataW.trod_slice ht h with⟨e0,_⟩|⟨a,len,cap,elems,rest,n,hn,e0,_,_,hlc,hcm,hel2,hi,hsp,_⟩
 . exact⟨[],_,e0,rfl,fun φ=>.nil _ _,by simp,by simp⟩
 . have hm:cap<=9223372036854775807:=by unfold maxLen at hcm;exact hcm
   rw [hsz] at hi hsp
   obtain⟨b,o,sp⟩:=a
   have key:∀ i,i<len->∃ y,R y/\∃ cs,Row w (row y) cs/\∀ j,j<sz->w.cell? (((Addr.mk b o sp).add (i*sz)).add j)=cs[j]?:=fun i hil=>by
    have h1:=hi i hil
    rw [Ã (by omega)] at h1
    obtain⟨cs,hc,hd⟩:=Option.bind_eq_some_iff.1 h1
    obtain⟨_,_,hcell⟩:=World.cells?_some hc
    obtain⟨y,hy,hrow⟩:=hel n cs _ (by omega) hd
    exact⟨y,hy,cs,hrow,hcell⟩
   have hsp0:0<len->sp=none:=fun hl=>by
    obtain⟨y,_,cs,hrow,hc⟩:=key 0 hl
    obtain⟨u,hu,_⟩:=hrow.2 0 (by rw [hr];exact h0)
    have:=World.cell?_spot ((hc 0 h0).trans hu)
    simpa [Addr.add] using this
   have hsp1:sp≠none->cap=0:=fun hne=>by
    rcases Nat.eq_zero_or_pos cap with e|e
    . exact e
    . exfalso
      rcases Nat.eq_zero_or_pos len with e1|e1
      . subst e1
        obtain⟨k1,k2⟩:=hsp rfl
        have k3:=k2 0 (by omega)
        rw [Ã (by omega)] at k3
        obtain⟨cs,hc,_⟩:=Option.bind_eq_some_iff.1 k3
        obtain⟨_,hlen,hcell⟩:=World.cells?_some hc
        have k4:=hcell 0 h0
        rw [Ã (by omega)] at k4
        have:=World.cell?_spot k4
        exact hne (by simpa [Addr.add] using this)
      . exact hne (hsp0 e1)
   cases sp with
   |some k =>
    have hc0:=hsp1 (by simp)
    have hl0:len=0:=by omega
    subst hc0 hl0
    exact⟨[],_,e0,rfl,fun φ=>.emp _ _ _ _ _ (by simp),by simp,by simp⟩
   |none =>
    have hlen:(List.ofFn (fun i:Fin len=>(key i i.isLt).choose)).length=len:=by simp
    refine⟨List.ofFn (fun i:Fin len=>(key i i.isLt).choose),_,e0,rfl,fun φ=>?_,fun y hy=>?_,by rw [hlen];omega⟩
    . have hget:∀ i (hi:i<((List.ofFn (fun i:Fin len=>(key i i.isLt).choose)).map row).length) (hi2:i<len),((List.ofFn (fun i:Fin len=>(key i i.isLt).choose)).map row)[i]=row (key i hi2).choose:=fun i hi hi2=>by simp
      have hcell:∀ i j (hi:i<len),j<sz->∃ u,w.cell? ⟨b,o+i*sz+j,none⟩=some u/\u.oneCell'=true/\∀ (hj:j<(row (key i hi).choose).length) φ,V w (UC w) φ (row (key i hi).choose)[j] u:=fun i j hi hj=>by
       obtain⟨_,cs,hrow,hc⟩:=(key i hi).choose_spec
       obtain⟨u,hu,h1,hv⟩:=hrow.2 j (by rw [hr];exact hj)
       refine⟨u,?_,h1,fun _=>hv⟩
       have:=(hc j hj).trans hu
       rw [Yd,Yd] at this
       exact this
      have hlm:((List.ofFn (fun i:Fin len=>(key i i.isLt).choose)).map row).length=len:=by simp
      have key2:=V.sl (w:=w) (U:=UC w) φ ((List.ofFn (fun i:Fin len=>(key i i.isLt).choose)).map row) .shared b o sz cap (fun i j=>(w.cell? ⟨b,o+i*sz+j,none⟩).getD Go.undef)
       (by rw [hlm];exact hlc) hm (fun i hi=>by rw [hget i hi (by rw [hlm] at hi;exact hi),hr])
       (fun i j hi hj=>by rw [hlm] at hi;obtain⟨u,hu,_⟩:=hcell i j hi hj;show (w.cell? ⟨b,o+i*sz+j,none⟩).isSome=true;rw [hu];rfl)
       (fun i j hi hj=>by rw [hlm] at hi;obtain⟨u,hu,_⟩:=hcell i j hi hj;rw [hu];rfl)
       (fun i j hi hj=>by rw [hlm] at hi;obtain⟨u,hu,h1,_⟩:=hcell i j hi hj;simp only [hu,Option.getD_some];exact h1)
       (fun i hi j hj=>by
        have hi2:i<len:=by rw [hlm] at hi;exact hi
        have hj2:j<sz:=by rw [hget i hi hi2,hr] at hj;exact hj
        obtain⟨u,hu,_,hv⟩:=hcell i j hi2 hj2
        simp only [hu,Option.getD_some,hget i hi hi2]
        exact hv (by rw [hr];exact hj2) [])
       (by simp) (by simp)
      rw [hlm] at key2
      exact key2
    . obtain⟨i,rfl⟩:=List.mem_ofFn.1 hy
      exact (key i i.isLt).choose_spec.1
theorem Z8 {H:Type}{enc:TypeId×Value->H}{w:World}{held:Bool}:∀ (fuel:Nat) {cs:List Value} {x:DataW H×List MemPlace},DataW.trod enc Tryz.prog w 0 (fun _=>true) held fuel 64 cs=some x->∃ y:Ag,Row w (Bf y) cs:=by
 have c24:Tryz.prog.cellsOf 64=5:=by kernel_rfl
 have c3:Tryz.prog.cellsOf 3=1:=by kernel_rfl
 have c9:Tryz.prog.cellsOf 9=1:=by kernel_rfl
 have c22:Tryz.prog.cellsOf 62=1:=by kernel_rfl
 intro fuel
 induction fuel using Nat.strongRecOn with
 |ind fuel ih =>
 intro cs x h
 obtain⟨xs,n,hn,rfl,hl,hxl,hf⟩:=DataW.trod_struct Tryz.underlying64 h
 rw [c24] at hl
 match cs,hl with
 | [v0,v1,v2,v3,v4],_ =>
  have hx4:xs.length=5:=hxl
  have f0:DataW.trod enc Tryz.prog w 0 (fun _=>true) held n 3 (List.take (Tryz.prog.cellsOf 3) [v0,v1,v2,v3,v4])=xs[0]?:=hf 0 _ rfl
  have f1:DataW.trod enc Tryz.prog w 0 (fun _=>true) held n 3 (List.take (Tryz.prog.cellsOf 3) [v1,v2,v3,v4])=xs[1]?:=hf 1 _ rfl
  have f2:DataW.trod enc Tryz.prog w 0 (fun _=>true) held n 9 (List.take (Tryz.prog.cellsOf 9) [v2,v3,v4])=xs[2]?:=hf 2 _ rfl
  have f3:DataW.trod enc Tryz.prog w 0 (fun _=>true) held n 62 (List.take (Tryz.prog.cellsOf 62) [v3,v4])=xs[3]?:=hf 3 _ rfl
  have f4:DataW.trod enc Tryz.prog w 0 (fun _=>true) held n 3 (List.take (Tryz.prog.cellsOf 3) [v4])=xs[4]?:=hf 4 _ rfl
  rw [c3] at f0 f1 f4
  rw [c9] at f2
  rw [c22] at f3
  simp only [ģ,List.take_zero] at f0 f1 f2 f3 f4
  rw [Ã (by omega)] at f0 f1 f2 f3 f4
  obtain⟨k0,e0,_,_⟩:=ý Tryz.underlying3 f0
  obtain⟨k1,e1,_,_⟩:=ý Tryz.underlying3 f1
  obtain⟨s,e2,_,_⟩:=DataW.trod_string Tryz.underlying9 f2
  obtain⟨l,u,e3,hu,hV,_,_⟩:=Wo Bf (fun _=>True) Tryz.underlying62 c24 (by decide) J7 (fun m cs x hm h=>by obtain⟨y,hy⟩:=ih m (by omega) h;exact⟨y,trivial,hy⟩) f3
  obtain⟨k4,e4,_,_⟩:=ý Tryz.underlying3 f4
  simp only [List.cons.injEq,and_true] at e0 e1 e2 e3 e4
  subst e0 e1 e2 e3 e4
  refine⟨⟨k0,k1,s,l,k4⟩,?_⟩
  rw [Gm]
  exact .cons rfl (fun φ=>.lit _ _) (.cons rfl (fun φ=>.lit _ _) (.cons rfl (fun φ=>.lit _ _) (.cons hu hV (.cons rfl (fun φ=>.lit _ _) .nil))))
theorem XF {w:World}{r:List PV}{cs:Array Value}(hy:Row w r cs.toList):∀ φ,V w (UC w) φ (.agg r) (.agg cs):=by
 have hl:cs.size=r.length:=by have:=hy.1;simpa using this
 refine fun φ=>.agg _ _ _ hl (fun i hi=>?_) (fun i hi=>?_)
 . obtain⟨u,h1,_,h2⟩:=hy.2 i hi
   have e:cs.getD i Go.undef=u:=by
    rw [ĉ] at h1
    rw [É,h1];rfl
   rw [e];exact h2 φ
 . obtain⟨u,h1,h3,_⟩:=hy.2 i (by rw [hl] at hi;exact hi)
   have e:cs.getD i Go.undef=u:=by
    rw [ĉ] at h1
    rw [É,h1];rfl
   rw [e];exact h3
theorem Z7 {H:Type}{enc:TypeId×Value->H}{w:World}{held:Bool}{fuel:Nat}{cs:List Value}{x:DataW H×List MemPlace}(h:DataW.trod enc Tryz.prog w 0 (fun _=>true) held fuel 73 cs=some x):∃ y:Bb,Row w (CO y) cs:=by
 have c59:Tryz.prog.cellsOf 73=4:=by kernel_rfl
 have c3:Tryz.prog.cellsOf 3=1:=by kernel_rfl
 obtain⟨xs,n,hn,rfl,hl,hxl,hf⟩:=DataW.trod_struct Tryz.underlying73 h
 rw [c59] at hl
 match cs,hl with
 | [v0,v1,v2,v3],_ =>
  have hx4:xs.length=4:=hxl
  have f0:DataW.trod enc Tryz.prog w 0 (fun _=>true) held n 3 (List.take (Tryz.prog.cellsOf 3) [v0,v1,v2,v3])=xs[0]?:=hf 0 _ rfl
  have f1:DataW.trod enc Tryz.prog w 0 (fun _=>true) held n 3 (List.take (Tryz.prog.cellsOf 3) [v1,v2,v3])=xs[1]?:=hf 1 _ rfl
  have f2:DataW.trod enc Tryz.prog w 0 (fun _=>true) held n 3 (List.take (Tryz.prog.cellsOf 3) [v2,v3])=xs[2]?:=hf 2 _ rfl
  have f3:DataW.trod enc Tryz.prog w 0 (fun _=>true) held n 3 (List.take (Tryz.prog.cellsOf 3) [v3])=xs[3]?:=hf 3 _ rfl
  rw [c3] at f0 f1 f2 f3
  simp only [ģ,List.take_zero] at f0 f1 f2 f3
  rw [Ã (by omega)] at f0 f1 f2 f3
  obtain⟨k0,e0,_,_⟩:=ý Tryz.underlying3 f0
  obtain⟨k1,e1,_,_⟩:=ý Tryz.underlying3 f1
  obtain⟨k2,e2,_,_⟩:=ý Tryz.underlying3 f2
  obtain⟨k3,e3,_,_⟩:=ý Tryz.underlying3 f3
  simp only [List.cons.injEq,and_true] at e0 e1 e2 e3
  subst e0 e1 e2 e3
  refine⟨⟨k0,k1,k2,k3⟩,?_⟩
  rw [KD]
  exact .cons rfl (fun φ=>.lit _ _) (.cons rfl (fun φ=>.lit _ _) (.cons rfl (fun φ=>.lit _ _) (.cons rfl (fun φ=>.lit _ _) .nil)))
theorem UA {H:Type}{enc:TypeId×Value->H}{w:World}{held:Bool}{fuel:Nat}{cs:Array Value}{x:DataW H×List MemPlace}(h:DataW.trod enc Tryz.prog w 0 (fun _=>true) held fuel 25 (Value.agg cs).cells.toList=some x) :
 ∃ y:Aj,(∀ φ,V w (UC w) φ (.agg (HU y)) (.agg cs))/\y.Facts.length<=9223372036854775807:=by
 have c29:Tryz.prog.cellsOf 25=3:=by kernel_rfl
 have c59:Tryz.prog.cellsOf 73=4:=by kernel_rfl
 have c3:Tryz.prog.cellsOf 3=1:=by kernel_rfl
 have c27:Tryz.prog.cellsOf 23=1:=by kernel_rfl
 have h:DataW.trod enc Tryz.prog w 0 (fun _=>true) held fuel 25 cs.toList=some x:=h
 obtain⟨xs,n,hn,rfl,hl,hxl,hf⟩:=DataW.trod_struct Tryz.underlying25 h
 rw [c29] at hl
 match hcs:cs.toList,hl with
 | [v0,v1,v2],_ =>
  rw [hcs] at hf
  have hx4:xs.length=3:=hxl
  have f0:DataW.trod enc Tryz.prog w 0 (fun _=>true) held n 23 (List.take (Tryz.prog.cellsOf 23) [v0,v1,v2])=xs[0]?:=hf 0 _ rfl
  have f1:DataW.trod enc Tryz.prog w 0 (fun _=>true) held n 3 (List.take (Tryz.prog.cellsOf 3) [v1,v2])=xs[1]?:=hf 1 _ rfl
  have f2:DataW.trod enc Tryz.prog w 0 (fun _=>true) held n 3 (List.take (Tryz.prog.cellsOf 3) [v2])=xs[2]?:=hf 2 _ rfl
  rw [c27] at f0
  rw [c3] at f1 f2
  simp only [ģ,List.take_zero] at f0 f1 f2
  rw [Ã (by omega)] at f0 f1 f2
  obtain⟨l,u,e0,hu,hV,_,hlen⟩:=Wo CO (fun _=>True) Tryz.underlying23 c59 (by decide) J6 (fun m cs x hm h=>by obtain⟨y,hy⟩:=Z7 h;exact⟨y,trivial,hy⟩) f0
  obtain⟨k1,e1,_,_⟩:=ý Tryz.underlying3 f1
  obtain⟨k2,e2,_,_⟩:=ý Tryz.underlying3 f2
  simp only [List.cons.injEq,and_true] at e0 e1 e2
  subst e0 e1 e2
  refine⟨⟨l,k1,k2⟩,XF ?_,hlen⟩
  rw [hcs,IB]
  exact .cons hu hV (.cons rfl (fun φ=>.lit _ _) (.cons rfl (fun φ=>.lit _ _) .nil))
theorem Qv {w:World}{r:Reach}{b0:Nat}{v:Value}(h:Value.okWide Tryz.prog w r b0 25 v):∃ cs,v=.agg cs:=by
 unfold Value.okWide at h
 rw [Tryz.underlying25] at h
 obtain⟨cs,e,_⟩:=h
 exact⟨cs,e⟩
theorem UD {H:Type}{enc:TypeId×Value->H}{w:World}{held:Bool}{fuel:Nat}{cs:List Value}{x:DataW H×List MemPlace}(h:DataW.trod enc Tryz.prog w 0 (fun _=>true) held fuel 66 cs=some x):∃ y:Aa,Row w (Bv y) cs:=by
 have c26:Tryz.prog.cellsOf 66=20:=by kernel_rfl
 have c24:Tryz.prog.cellsOf 64=5:=by kernel_rfl
 have c3:Tryz.prog.cellsOf 3=1:=by kernel_rfl
 have c9:Tryz.prog.cellsOf 9=1:=by kernel_rfl
 obtain⟨xs,n,hn,rfl,hl,hxl,hf⟩:=DataW.trod_struct Tryz.underlying66 h
 rw [c26] at hl
 match cs,hl with
 | [a0,a1,a2,a3,b0,b1,b2,b3,b4,u0,u1,u2,u3,u4,d0,d1,d2,d3,d4,a7],_ =>
  have hx4:xs.length=8:=hxl
  have f0:DataW.trod enc Tryz.prog w 0 (fun _=>true) held n 9 (List.take (Tryz.prog.cellsOf 9) [a0,a1,a2,a3,b0,b1,b2,b3,b4,u0,u1,u2,u3,u4,d0,d1,d2,d3,d4,a7])=xs[0]?:=hf 0 _ rfl
  have f1:DataW.trod enc Tryz.prog w 0 (fun _=>true) held n 3 (List.take (Tryz.prog.cellsOf 3) [a1,a2,a3,b0,b1,b2,b3,b4,u0,u1,u2,u3,u4,d0,d1,d2,d3,d4,a7])=xs[1]?:=hf 1 _ rfl
  have f2:DataW.trod enc Tryz.prog w 0 (fun _=>true) held n 3 (List.take (Tryz.prog.cellsOf 3) [a2,a3,b0,b1,b2,b3,b4,u0,u1,u2,u3,u4,d0,d1,d2,d3,d4,a7])=xs[2]?:=hf 2 _ rfl
  have f3:DataW.trod enc Tryz.prog w 0 (fun _=>true) held n 3 (List.take (Tryz.prog.cellsOf 3) [a3,b0,b1,b2,b3,b4,u0,u1,u2,u3,u4,d0,d1,d2,d3,d4,a7])=xs[3]?:=hf 3 _ rfl
  have f4:DataW.trod enc Tryz.prog w 0 (fun _=>true) held n 64 (List.take (Tryz.prog.cellsOf 64) [b0,b1,b2,b3,b4,u0,u1,u2,u3,u4,d0,d1,d2,d3,d4,a7])=xs[4]?:=hf 4 _ rfl
  have f5:DataW.trod enc Tryz.prog w 0 (fun _=>true) held n 64 (List.take (Tryz.prog.cellsOf 64) [u0,u1,u2,u3,u4,d0,d1,d2,d3,d4,a7])=xs[5]?:=hf 5 _ rfl
  have f6:DataW.trod enc Tryz.prog w 0 (fun _=>true) held n 64 (List.take (Tryz.prog.cellsOf 64) [d0,d1,d2,d3,d4,a7])=xs[6]?:=hf 6 _ rfl
  have f7:DataW.trod enc Tryz.prog w 0 (fun _=>true) held n 3 (List.take (Tryz.prog.cellsOf 3) [a7])=xs[7]?:=hf 7 _ rfl
  rw [c9] at f0
  rw [c3] at f1 f2 f3 f7
  rw [c24] at f4 f5 f6
  simp only [ģ,List.take_zero] at f0 f1 f2 f3 f4 f5 f6 f7
  rw [Ã (by omega)] at f0 f1 f2 f3 f4 f5 f6 f7
  obtain⟨s,e0,_,_⟩:=DataW.trod_string Tryz.underlying9 f0
  obtain⟨k1,e1,_,_⟩:=ý Tryz.underlying3 f1
  obtain⟨k2,e2,_,_⟩:=ý Tryz.underlying3 f2
  obtain⟨k3,e3,_,_⟩:=ý Tryz.underlying3 f3
  obtain⟨y4,r4⟩:=Z8 n f4
  obtain⟨y5,r5⟩:=Z8 n f5
  obtain⟨y6,r6⟩:=Z8 n f6
  obtain⟨k7,e7,_,_⟩:=ý Tryz.underlying3 f7
  simp only [List.cons.injEq,and_true] at e0 e1 e2 e3 e7
  subst e0 e1 e2 e3 e7
  refine⟨⟨s,k1,k2,k3,y4,y5,y6,k7⟩,?_⟩
  rw [Gm] at r4 r5 r6
  rw [Jd]
  have one:∀ {p q r t u:PV} {a b c d e:Value} {R:List PV} {C:List Value},Row w [p,q,r,t,u] [a,b,c,d,e]->Row w R C->Row w (p::q::r::t::u::R) (a::b::c::d::e::C):=fun {p q r t u a b c d e R C} g k=>by
   have g:∀ (j:Nat) (hj:j<5),∃ z,[a,b,c,d,e][j]?=some z/\z.oneCell'=true/\∀ φ,V w (UC w) φ ([p,q,r,t,u][j]'hj) z:=g.2
   obtain⟨_,h0,p0,q0⟩:=g 0 (by decide)
   obtain⟨_,h1,p1,q1⟩:=g 1 (by decide)
   obtain⟨_,h2,p2,q2⟩:=g 2 (by decide)
   obtain⟨_,h3,p3,q3⟩:=g 3 (by decide)
   obtain⟨_,h4,p4,q4⟩:=g 4 (by decide)
   obtain rfl:=Af h0
   obtain rfl:=Af h1
   obtain rfl:=Af h2
   obtain rfl:=Af h3
   obtain rfl:=Af h4
   exact .cons p0 q0 (.cons p1 q1 (.cons p2 q2 (.cons p3 q3 (.cons p4 q4 k))))
  exact .cons rfl (fun φ=>.lit _ _) (.cons rfl (fun φ=>.lit _ _) (.cons rfl (fun φ=>.lit _ _) (.cons rfl (fun φ=>.lit _ _) (one r4 (one r5 (one r6 (.cons rfl (fun φ=>.lit _ _) .nil)))))))
theorem Aco {w:World}{f:Nat}{ps:List PV}{vs:Array Value}(hvc:VC Tryz.prog f ps [] fun x σ'=>x=.ret (.lit (.bool true))/\σ'=[])(hn:vs.size=ps.length)(hv:∀ i (hi:i<ps.length),V w (UC w) [] ps[i] (vs.getD i Go.undef))(hg:QI w)(hb:∀ b∈WC,b<w.heap.size) :
 Calls Tryz.prog f vs w fun e w'=>e=.returned (.bool true)/\Below w.heap.size w w':=by
 refine (hvc.out (U:=UC w) (vs:=vs) hg hb (fun b i hu=>?_) hn fun i hi=>hv i hi).mono fun e w' hpost=>?_
 . obtain⟨u,hu⟩:=Option.isSome_iff_exists.1 hu
   exact World.block_lt_of_cell? _ _ hu
 . obtain⟨⟨x,σ',G',⟨rfl,_⟩,v,h1,h2,_⟩,h3⟩:=hpost
   refine⟨?_,h3⟩
   have key:∀ {p:PV} {v:Value},V w' G'.U G'.φ p v->p=.lit (.bool true)->v=.bool true:=fun h e=>by
    cases h with
    |lit _ _=>injection e
    |_=>cases e
   rw [key h2 rfl] at h1;exact h1
end Go.Proofs.YtehfpameijkafaaGreatDoor
namespace Go.Proofs.YtehfpameijkafaaGreatDoor
open Go.ChangeShapes Go.WideShapes Go.ChangeAt Go.RowKit Go.Q Go.Vl Go.Sp
set_option maxRecDepth 100000
theorem UB {H:Type}{enc:TypeId×Value->H}{w:World}{held:Bool}{fuel:Nat}{v:Value}{x:DataW H×List MemPlace}(hv:v.cells.toList=[v])(h:DataW.trod enc Tryz.prog w 0 (fun _=>true) held fuel 22 v.cells.toList=some x) :
 ∃ l:List Aa,∀ φ,V w (UC w) φ (hC l) v:=by
 have c26:Tryz.prog.cellsOf 66=20:=by kernel_rfl
 rw [hv] at h
 obtain⟨l,u,e,_,q,g,r⟩:=Wo Bv (fun _=>True) Tryz.underlying22 c26 (by decide) IC (fun m cs x hm h=>by obtain⟨y,hy⟩:=UD h;exact⟨y,trivial,hy⟩) h
 obtain rfl:v=u:=by simpa using e
 exact⟨l,q⟩
end Go.Proofs.YtehfpameijkafaaGreatDoor

namespace Go.Vl
open Go Go.RowKit
def setL (st:St):Loc->PV->St
 |.tmp t,p=>st.put (some t) p
 |.cell k j,p=>{ st with σ:=st.σ.set k ((st.σ.getD k []).set j p) }
 |_,_=>st
def Oz:Loc->Bool
 |.tmp _=>true
 |.cell _ _=>true
 |_=>false
def Yi (w:World)(G:Gh)(tm:Nat->Value):Loc->Value->Prop
 |.tmp t,v=>tm t=v
 |.cell k j,v=>∃ b,G.φ[k]?=some b/\w.cell? ⟨b,j,none⟩=some v
 |_,_=>False
def RF:PV->Bool
 |.undef=>true
 |.asl _ _ _ _=>true
 |.prv _=>true
 |.sl _ .own=>true
 |.sl _ .shared=>true
 |_=>false
def DI (xs:List (List Value))(m:Nat):List PV:=xs.flatten.map .lit++List.replicate m .undef
section
variable {w w0:World} {G G0:Gh} {st:St} {tm:Nat->Value} {l:Loc} {p:PV} {v:Value}
theorem Inv.getL {xs:List (List Value)}(h:Inv w0 G0 st tm w G)(hl:Oz l=true)(hc:AU st l=.prv xs):∃ v,Yi w G tm l v/\V w G.U G.φ (.prv xs) v/\BC w G l xs v:=by
 cases l with
 |tmp t =>
  have hg:st.get t=.prv xs:=hc
  have hv:=h.env.v t
  have ht:=h.env.tag t
  rw [hg] at hv ht
  exact⟨tm t,rfl,hv,ht⟩
 |cell k j =>
  have hc:(st.σ.getD k []).getD j .undef=.prv xs:=hc
  cases hcs:st.σ[k]? with
  |none=>simp [List.getD,hcs] at hc
  |some cs =>
   cases hj:cs[j]? with
   |none=>simp [List.getD,hcs,hj] at hc
   |some p =>
    obtain rfl:p=.prv xs:=by simpa [List.getD,hcs,hj] using hc
    have hkl:=(List.getElem?_eq_some_iff.1 hcs).1
    have hk:G.φ[k]?=some (G.φ[k]'(by rw [h.store.len];exact hkl)):=Ã _
    obtain⟨⟨o',arr,hh,⟨hlay,hsz⟩,hcell⟩,hnoU⟩:=h.store.blk k _ cs hk hcs
    have hnm:NM cs:=fun q e=>by
     subst e
     match j,hj with
     |0,hj=>cases hj;rfl
    obtain⟨T,rfl⟩:=hlay.cells hnm
    obtain⟨u,hu,h1,h2,h3⟩:=hcell j _ hj
    exact⟨u,⟨_,hk,by simp only [World.cell?,hh];simpa using hu⟩,h2,h3⟩
 |_=>cases hl
theorem Inv.setL (h:Inv w0 G0 st tm w G)(hv:Yi w G tm l v)(hV:V w G.U G.φ p v)(hT:Ck w G l p v)(hp:RF p=true)(h1:v.oneCell'=true)(hno:∀ ys,AU st l≠.sl ys .own)(hm:(AU st l).isM=false) :
 Inv w0 G0 (Vl.setL st l p) tm w G:=by
 cases l with
 |tmp t =>
  obtain rfl:tm t=v:=hv
  have:=h.put t hV (by
   cases p with
   |sl xs g=>cases g<;>first|exact hT|cases hp|trivial
   |prv xs=>exact hT
   |asl=>trivial
   |undef=>trivial
   |_=>cases hp)
  rw [HC] at this
  exact this
 |cell k j =>
  obtain⟨b,hk,hcu⟩:=hv
  have hkl:k<st.σ.length:=by rw [<- h.store.len];exact (List.getElem?_eq_some_iff.1 hk).1
  have hcs:st.σ[k]?=some st.σ[k]:=Ã hkl
  have hgd:st.σ.getD k []=st.σ[k]:=by simp [List.getD,hkl]
  show Inv w0 G0 { st with σ:=st.σ.set k ((st.σ.getD k []).set j p) } tm w G
  rw [hgd]
  have hno:∀ ys,(st.σ[k]).getD j .undef≠.sl ys .own:=fun ys e=>hno ys (by show (st.σ.getD k []).getD j .undef=_;rw [hgd];exact e)
  have hm:((st.σ[k]).getD j .undef).isM=false:=by have:((st.σ.getD k []).getD j .undef).isM=false:=hm;rw [hgd] at this;exact this
  generalize st.σ[k]=cs at *
  obtain⟨⟨o',arr,hh,⟨hlay,hsz⟩,hcell⟩,hnoU⟩:=h.store.blk k b cs hk hcs
  by_cases hjl:j<cs.length
  . have hj:cs[j]?=some cs[j]:=Ã hjl
    have hgj:cs.getD j .undef=cs[j]:=by simp [List.getD,hjl]
    rw [hgj] at hno hm
    have hnm:NM cs:=fun q e=>by
     subst e
     have:j=0:=by simpa using hjl
     subst this;exact hm
    have hnoM:∀ p∈cs,p.isM=false:=by
     rcases hlay with hl2|⟨kvs,_,_,e,_⟩|⟨_,_,e,_⟩
     . exact hl2.2
     . exact absurd (hnm _ e) (by simp [PV.isM])
     . exact absurd (hnm _ e) (by simp [PV.isM])
    obtain⟨T,rfl⟩:=hlay.cells hnm
    have hu:arr[j]?=some v:=by simpa [World.cell?,hh] using hcu
    have hget:∀ i,(cs.set j p)[i]?=if i=j then some p else cs[i]?:=fun i=>by
     rw [List.getElem?_set]
     by_cases e:j=i
     . subst e;simp [hjl]
     . rw [Ä e,Ä (fun e2=>e e2.symm)]
    have hget2:∀ i c,(cs.set j p)[i]?=some c->∃ u,arr[i]?=some u/\u.oneCell'=true/\V w G.U G.φ c u/\Ck w G (.cell k i) c u:=by
     intro i c hi
     rw [hget i] at hi
     by_cases e:i=j
     . subst e
       rw [Ç rfl] at hi
       obtain rfl:=Af hi
       exact⟨v,hu,h1,hV,hT⟩
     . rw [Ä e] at hi
       exact hcell i c hi
    refine h.setBlock (cs:=cs) (cs':=cs.set j p) hk hcs hh hh (fun kvs hm=>?_) (fun _ _=>rfl) rfl rfl rfl ⟨by simpa using hsz,fun i hi=>?_⟩ (fun i c hi=>?_) (fun t ys i hi=>?_)
    . rcases List.mem_or_eq_of_mem_set hm with h1|rfl
      . exact hnoM kvs h1
      . cases kvs<;>first|rfl|cases hp
    . obtain⟨u,h1,h2,h3,_⟩:=hget2 i _ (Ã hi)
      have:arr.getD i Go.undef=u:=by simp [h1]
      rw [this];exact⟨h3,h2⟩
    . obtain⟨u,h1,h2,h3,h4⟩:=hget2 i c hi
      have:arr.getD i Go.undef=u:=by simp [h1]
      rw [this];exact h4
    . have ht:=h.env.tag t
      rw [hi] at ht
      obtain⟨cs2,b2,e1,e2,_,_⟩:=ht
      obtain rfl:=Af (hcs.symm.trans e1)
      have hne:i≠j:=by
       rintro rfl
       exact hno ys (by rw [hj] at e2;exact Af e2)
      exact⟨by rw [hget i,Ä hne],rfl⟩
  . have e1:cs.set j p=cs:=List.set_eq_of_length_le (Nat.le_of_not_lt hjl)
    have e2:st.σ.set k cs=st.σ:=List.ext_getElem? fun i=>by
     rw [List.getElem?_set]
     by_cases e:k=i
     . subst e;rw [Ç rfl,Ç hkl];exact hcs.symm
     . rw [Ä e]
    rw [e1,e2]
    exact h
 |_=>exact hv.elim
theorem LM (hl:Oz l=true):AU (Vl.setL st l .undef) l=.undef:=by
 cases l with
 |tmp t=>rw [AU];show (st.put (some t) .undef).get t=_;rw [BA,Ç rfl]
 |cell k j =>
  show ((st.σ.set k ((st.σ.getD k []).set j .undef)).getD k []).getD j .undef=_
  by_cases hk:k<st.σ.length
  . by_cases hj:j<(st.σ[k]).length
    . simp [List.getD,hk,hj]
    . simp [List.getD,hk,hj]
  . simp [List.getD,hk]
 |_=>cases hl
theorem Inv.setUndef (h:Inv w0 G0 st tm w G)(hc:RF (AU st l)=true)(hno:∀ ys,AU st l≠.sl ys .own)(hv:Yi w G tm l v)(h1:v.oneCell'=true):Inv w0 G0 (Vl.setL st l .undef) tm w G :=
 h.setL hv (.undef _ _) trivial rfl h1 hno (by revert hc;generalize AU st l=q;intro hc;cases q<;>first|rfl|cases hc)
theorem XB {φ:List Nat}{U:Nat->Nat->Prop}{xs:List (List Value)}(h:V w U φ (.prv xs) v):v.oneCell'=true:=by cases h;rfl
theorem Inv.toOwn {xs:List (List Value)}(h:Inv w0 G0 st tm w G)(hl:Oz l=true)(hc:AU st l=.prv xs):∃ G',Inv w0 G0 (Vl.setL (Vl.setL st l .undef) l (.sl (xs.map fun x=>x.map .lit) .own)) tm w G':=by
 obtain⟨v,hv,hV,hT⟩:=h.getL hl hc
 have hv1:=XB hV
 have h0:=h.setUndef (by rw [hc];rfl) (by rw [hc];simp) hv hv1
 have hcu:=LM (st:=st) hl
 have hno:∀ l',some l=some l'->∀ ys,AU (Vl.setL st l .undef) l'≠.sl ys .own:=fun l' e ys e2=>by
  obtain rfl:=Af e
  rw [hcu] at e2;cases e2
 have hno2:∀ l',some l=some l'->∀ ys,AU (Vl.setL st l .undef) l'≠.prv ys:=fun l' e ys e2=>by
  obtain rfl:=Af e
  rw [hcu] at e2;cases e2
 rcases hT with⟨rfl,rfl⟩|⟨b,cap,sz,T,arr,rfl,hne,hcap,hrow,hΩ,hb,⟨hsz,ho,hval⟩,hU⟩
 . exact⟨G,h0.setL hv (.nil _ _) (.inl ⟨rfl,rfl⟩) rfl rfl (hno l rfl) (by rw [hcu];rfl)⟩
 . have hob:=h.store.ob b (by rw [hΩ];simp)
   have h2:=h0.reblk (w':=w) (m:=xs.length*sz) (l0:=l) hob.2 (.inr (by rw [hΩ];simp)) (by rw [hΩ];exact hno) (by rw [hΩ];exact hno2) rfl rfl rfl (à _) (fun _ _ _=>rfl) (fun i hu=>absurd hu (hU i)) hb
   have hle:xs.length*sz<=arr.size:=by rw [hsz];exact ð _ hcap.1
   have hlt:∀ i j,i<xs.length->j<sz->i*sz+j<arr.size:=fun i j hi hj=>ò (Jy hi hj) hle
   have hln:(xs.map fun x=>x.map PV.lit).length=xs.length:=by simp
   refine⟨_,h2.setL ?_ (p:=.sl (xs.map fun x=>x.map .lit) .own) ?_ ?_ rfl hv1 (hno l rfl) (by rw [hcu];rfl)⟩
   . cases l with
     |tmp t=>exact hv
     |cell k j=>exact hv
     |_=>cases hl
   . rw [<- hln]
     refine .sl _ _ _ b 0 sz cap (fun i j=>arr.getD (i*sz+j) Go.undef) (by rw [hln];exact hcap.1) hcap.2 (fun i hi=>?_) (fun i j hi hj=>.inr ⟨rfl,?_⟩) (fun i j hi hj=>?_) (fun i j hi hj=>?_) (fun i hi j hj=>?_) (by simp) (by simp)
     . rw [é,Í];exact hrow _ (Ú _)
     . rw [hln] at hi ⊢
       have:=Jy hi hj;omega
     . rw [hln] at hi
       have:=hlt i j hi hj
       simp only [World.cell?,hb,ñ]
       simp [this]
     . rw [hln] at hi
       exact ho _ (hlt i j hi hj)
     . rw [hln] at hi
       have hj':j<(xs[i]).length:=by simpa using hj
       rw [hval i hi j hj']
       simp only [é]
       exact .lit _ _
   . exact .inr ⟨b,cap,sz,T,arr,by rw [hln],by simpa using hne,fun x hx=>by
      obtain⟨y,hy,rfl⟩:=List.mem_map.1 hx
      rw [Í];exact hrow y hy,Ç rfl,hb,hsz,fun i hi=>by
      rw [hln]
      rcases hi with hi|hi
      . exact absurd hi (hU i)
      . exact hi.2⟩
def unC (st:St):Loc->St
 |.cell k j=>{ (st.stripC k j 1) with σ:=st.σ.set k ((st.σ.getD k []).set j (.sl [] .shared)) }
 |.tmp t=>st.put (some t) (.sl [] .shared)
 |_=>st
theorem Inv.toPrv (h:Inv w0 G0 st tm w G)(hl:Oz l=true)(hc:AU st l=.sl [] .own):Inv w0 G0 (Vl.setL (unC st l) l (.prv [])) tm w G:=by
 have nilV:∀ {v:Value},A0 w G l [] v->v=.slice none 0 0:=fun h=>by
  rcases h with⟨_,e⟩|⟨b,cap,sz,T,arr,_,hne,_⟩
  . exact e
  . exact absurd rfl hne
 cases l with
 |tmp t =>
  have hg:st.get t=.sl [] .own:=hc
  have ht:=h.env.tag t
  rw [hg] at ht
  have e:=nilV ht
  have h1:=h.share hg
  exact h1.setL (l:=.tmp t) rfl (p:=.prv []) (by rw [e];exact .prv _ [] none 0) (.inl ⟨rfl,e⟩) rfl (by rw [e];rfl) (fun ys e2=>by rw [AU,BA,Ç rfl] at e2;cases e2) (by rw [AU,BA,Ç rfl];rfl)
 |cell k j =>
  have hc:(st.σ.getD k []).getD j .undef=.sl [] .own:=hc
  cases hcs:st.σ[k]? with
  |none=>simp [List.getD,hcs] at hc
  |some cs =>
   cases hj:cs[j]? with
   |none=>simp [List.getD,hcs,hj] at hc
   |some p =>
    obtain rfl:p=.sl [] .own:=by simpa [List.getD,hcs,hj] using hc
    have hkl:=(List.getElem?_eq_some_iff.1 hcs).1
    have hjl:=(List.getElem?_eq_some_iff.1 hj).1
    have hk:G.φ[k]?=some (G.φ[k]'(by rw [h.store.len];exact hkl)):=Ã _
    obtain⟨⟨o',arr,hh,⟨hlay,hsz⟩,hcell⟩,hnoU⟩:=h.store.blk k _ cs hk hcs
    have hnm:NM cs:=fun q e=>by
     subst e
     match j,hj with
     |0,hj=>cases hj;rfl
    obtain⟨T,rfl⟩:=hlay.cells hnm
    obtain⟨u,hu,h1,h2,h3⟩:=hcell j _ hj
    have e:=nilV h3
    have hI:=h.shareCell hcs hj
    have hgd:st.σ.getD k []=cs:=by simp [List.getD,hcs]
    have hcl:AU (unC st (.cell k j)) (.cell k j)=.sl [] .shared:=by
     show ((st.σ.set k ((st.σ.getD k []).set j (.sl [] .shared))).getD k []).getD j .undef=_
     rw [hgd];simp [List.getD,hkl,hjl]
    have hI2:Inv w0 G0 (unC st (.cell k j)) tm w G:=by
     show Inv w0 G0 { (st.stripC k j 1) with σ:=st.σ.set k ((st.σ.getD k []).set j (.sl [] .shared)) } tm w G
     rw [hgd];exact hI
    exact hI2.setL (l:=.cell k j) ⟨_,hk,by simp only [World.cell?,hh];simpa using hu⟩ (p:=.prv []) (by rw [e];exact .prv _ [] none 0) (.inl ⟨rfl,e⟩) rfl (by rw [e];rfl) (fun ys e2=>by rw [hcl] at e2;cases e2) (by rw [hcl];rfl)
 |_=>cases hl
def Xm (st:St)(cs:List PV):St:={ st with σ:=st.σ++[cs] }
theorem Inv.addPlace {b:Nat}{cs:List PV}{arr:Array Value}{T:TypeId}{l0:Loc}(h:Inv w0 G0 st tm w G)(hΩ:G.Ω b=some l0)(hno:∀ ys,AU st l0≠.sl ys .own)(hno2:∀ ys,AU st l0≠.prv ys)
 (hb:w.heap[b]?=some (.cells arr T (0,0))) (hsz:arr.size=cs.length) (hm:∀ p∈cs,p.isM=false) (hU:∀ i,¬ G.U b i)
 (hv:∀ j c,cs[j]?=some c->(arr.getD j Go.undef).oneCell'=true/\V w G.U [] c (arr.getD j Go.undef)/\(∀ xs,c≠.sl xs .own)/\∀ xs,c≠.prv xs) :
 Inv w0 G0 (Xm st cs) tm w { U:=G.U,φ:=G.φ++[b],Ω:=fun b'=>if b'=b then none else G.Ω b' }:=by
 have hob:=h.store.ob b (by rw [hΩ];simp)
 have hlen:=h.store.len
 have hφ:∀ (k x:Nat),G.φ[k]?=some x->(G.φ++[b])[k]?=some x:=fun k x hk=>by
  rw [Ô (List.getElem?_eq_some_iff.1 hk).1];exact hk
 have hV:∀ {p:PV} {v:Value},V w G.U G.φ p v->V w G.U (G.φ++[b]) p v:=fun hv=>hv.mono (fun _ _ h=>⟨h,Kp.refl⟩) hφ
 have own:∀ {l xs v},l≠l0->A0 w G l xs v->A0 w { U:=G.U,φ:=G.φ++[b],Ω:=fun b'=>if b'=b then none else G.Ω b' } l xs v:=fun hne h1=>h1.to rfl fun b2 hb2=>by
  show (if b2=b then none else G.Ω b2)=_
  rw [Ä (fun e=>hne (by rw [e,hΩ] at hb2;exact (Af hb2).symm))];exact hb2
 have prv:∀ {l xs v},l≠l0->BC w G l xs v->BC w { U:=G.U,φ:=G.φ++[b],Ω:=fun b'=>if b'=b then none else G.Ω b' } l xs v:=fun hne h1=>h1.to rfl fun b2 hb2=>by
  show (if b2=b then none else G.Ω b2)=_
  rw [Ä (fun e=>hne (by rw [e,hΩ] at hb2;exact (Af hb2).symm))];exact hb2
 refine⟨h.ext.trans ⟨rfl,rfl,rfl,à _,fun _ _ _ _=>rfl,fun _ _ h=>⟨h,Kp.refl⟩,fun _ _ h=>.inl h,fun b' hb'=>.inr (fun e=>hb' (by show (if b'=b then none else G.Ω b')=none;split<;>first|rfl|exact e)),[b],rfl,fun b' hb'=>by
  obtain rfl:b'=b:=by simpa using hb'
  exact .inr (by rw [hΩ];simp)⟩,⟨by simp [Xm,hlen],?_,fun k b' cs2 hk hc2=>?_,h.store.ub,fun b' hb'=>?_⟩,fun t=>hV (h.env.v t),fun t=>?_⟩
 . rw [Ĕ]
   refine⟨h.store.nodup,by simp,fun x hx y hy e=>?_⟩
   obtain rfl:y=b:=by simpa using hy
   exact hob.2 (e ▸ hx)
 . by_cases hkl:k<st.σ.length
   . have hk':G.φ[k]?=some b':=by rw [Ô (by omega)] at hk;exact hk
     have hc':st.σ[k]?=some cs2:=by
      have:(st.σ++[cs])[k]?=some cs2:=hc2
      rw [Ô hkl] at this;exact this
     obtain⟨⟨o',arr',g1,⟨g2,g3⟩,g4⟩,g5⟩:=h.store.blk k b' cs2 hk' hc'
     refine⟨⟨o',arr',g1,⟨g2,g3⟩,fun j c hj=>?_⟩,g5⟩
     obtain⟨v,k1,k2,k3,k4⟩:=g4 j c hj
     refine⟨v,k1,k2,hV k3,?_⟩
     unfold Ck at k4 ⊢
     split
     . rename_i xs
       refine own (fun e=>hno xs ?_) k4
       rw [<- e];simp [AU,List.getD,hc',hj]
     . rename_i xs
       refine prv (fun e=>hno2 xs ?_) k4
       rw [<- e];simp [AU,List.getD,hc',hj]
     . trivial
   . have hk2:k=st.σ.length:=by
      have:=(List.getElem?_eq_some_iff.1 hc2).1
      simp [Xm] at this;omega
     subst hk2
     obtain rfl:b=b':=by
      rw [â (by omega)] at hk
      simpa [hlen] using hk
     obtain rfl:cs=cs2:=by
      have:(st.σ++[cs])[st.σ.length]?=some cs2:=hc2
      simpa using this
     refine⟨⟨_,arr,hb,⟨.inl ⟨⟨T,rfl⟩,hm⟩,hsz⟩,fun j c hj=>?_⟩,hU⟩
     obtain⟨k1,k2,k3,k4⟩:=hv j c hj
     have hjl:j<arr.size:=by rw [hsz];exact (List.getElem?_eq_some_iff.1 hj).1
     refine⟨arr.getD j Go.undef,by simp [hjl],k1,k2.mono (fun _ _ h=>⟨h,Kp.refl⟩) (fun k x hk=>by simp at hk),?_⟩
     unfold Ck
     split
     . exact absurd rfl (k3 _)
     . exact absurd rfl (k4 _)
     . trivial
 . have hb2:(if b'=b then none else G.Ω b')≠none:=hb'
   split at hb2
   . exact absurd rfl hb2
   . rename_i hne
     have:=h.store.ob b' hb2
     refine⟨this.1,fun hm=>?_⟩
     rcases List.mem_append.1 hm with hm|hm
     . exact this.2 hm
     . exact hne (by simpa using hm)
 . have ht:=h.env.tag t
   show DV w _ (Xm st cs) tm t (st.get t) (tm t)
   have hcl1:∀ xs,st.get t=.sl xs .own->Loc.tmp t≠l0:=fun xs e e2=>hno xs (by rw [<- e2];exact e)
   have hcl2:∀ xs,st.get t=.prv xs->Loc.tmp t≠l0:=fun xs e e2=>hno2 xs (by rw [<- e2];exact e)
   have hcl3:∀ c2 i xs,st.get t=.tup c2->c2[i]?=some (.sl xs .own)->Loc.tcomp t i≠l0:=fun c2 i xs e e3 e2=>hno xs (by rw [<- e2];simp [AU,e,List.getD,e3])
   revert ht hcl1 hcl2 hcl3
   generalize st.get t=q
   intro ht hcl1 hcl2 hcl3
   cases q with
   |prv xs=>exact prv (hcl2 xs rfl) ht
   |sl xs g =>
    cases g with
    |own=>exact own (hcl1 xs rfl) ht
    |view m =>
     cases m with
     |cell k j =>
      obtain⟨c2,b2,e1,e2,e3,e4⟩:=ht
      exact⟨c2,b2,by show (st.σ++[cs])[k]?=_;rw [Ô (List.getElem?_eq_some_iff.1 e1).1];exact e1,e2,hφ _ _ e3,e4⟩
     |_=>exact ht
    |_=>trivial
   |tup c2 =>
    intro i xs hi
    obtain⟨arr2,u,k1,k2,k3⟩:=ht i xs hi
    exact⟨arr2,u,k1,k2,own (hcl3 c2 i xs rfl hi) k3⟩
   |_=>trivial
def Xx (st:St)(l:Loc)(xs:List (List Value))(cap m:Nat):St:=Vl.setL (Xm (Vl.setL st l .undef) (DI xs m)) l (.asl st.σ.length 0 xs.length cap)
theorem Zv (l:Loc)(p:PV):(Vl.setL st l p).σ.length=st.σ.length:=by
 cases l with
 |tmp t=>show (st.put (some t) p).σ.length=_;rw [Ly]
 |cell k j=>show (st.σ.set _ _).length=_;simp
 |_=>rfl
theorem PB {xs:List (List Value)}{m sz:Nat}(hrow:∀ x∈xs,x.length=sz):(DI xs m).length=xs.length*sz+m:=by
 simp only [DI,Õ,Í,List.length_replicate,Ei xs hrow]
theorem TS {xs:List (List Value)}{m sz i j:Nat}(hrow:∀ x∈xs,x.length=sz)(hi:i<xs.length)(hj:j<(xs[i]).length):(DI xs m)[i*sz+j]?=some (.lit xs[i][j]):=by
 have e:=FQ xs hrow i hi j hj
 have hlt:=(List.getElem?_eq_some_iff.1 e).1
 unfold DI
 rw [Ô (by rw [Í];exact hlt),æ,e];rfl
theorem NR {xs:List (List Value)}{m:Nat}{p:PV}(h:p∈DI xs m):p=.undef∨∃ v,p=.lit v:=by
 unfold DI at h
 rcases List.mem_append.1 h with h|h
 . obtain⟨v,_,rfl⟩:=List.mem_map.1 h;exact .inr ⟨v,rfl⟩
 . exact .inl (List.eq_of_mem_replicate h)
theorem Inv.thaw {xs:List (List Value)}(h:Inv w0 G0 st tm w G)(hl:Oz l=true)(hc:AU st l=.prv xs)(hne:xs≠[]) :
 ∃ cap m sz G',xs.length<=cap/\cap*sz=xs.length*sz+m/\(∀ x∈xs,x.length=sz)/\Inv w0 G0 (Xx st l xs cap m) tm w G':=by
 obtain⟨v,hv,hV,hT⟩:=h.getL hl hc
 have hv1:=XB hV
 have h0:=h.setUndef (by rw [hc];rfl) (by rw [hc];simp) hv hv1
 have hcu:=LM (st:=st) hl
 rcases hT with⟨e,_⟩|⟨b,cap,sz,T,arr,rfl,hne,hcap,hrow,hΩ,hb,⟨hsz,ho,hval⟩,hU⟩
 . exact absurd e hne
 have hle:xs.length*sz<=arr.size:=by rw [hsz];exact ð _ hcap.1
 have hm:cap*sz=xs.length*sz+(cap*sz-xs.length*sz):=by omega
 have hal:arr.size=(DI xs (cap*sz-xs.length*sz)).length:=by rw [PB hrow,hsz];omega
 have hpos:0<sz∨sz=0:=by omega
 have h2:=h0.addPlace (cs:=DI xs (cap*sz-xs.length*sz)) (T:=T) hΩ (by rw [hcu];simp) (by rw [hcu];simp) hb hal (fun p hp=>by
  rcases NR hp with rfl|⟨v,rfl⟩<;>rfl) hU (fun q c hq=>by
  have hql:=(List.getElem?_eq_some_iff.1 hq).1
  refine⟨ho q (by omega),?_,?_,?_⟩
  . by_cases hqx:q<xs.length*sz
    . have hsp:0<sz:=by rcases hpos with h|h;exact h;rw [h] at hqx;omega
      have hi:q / sz<xs.length:=(Nat.div_lt_iff_lt_mul hsp).2 hqx
      have hj:q % sz<(xs[q / sz]).length:=by rw [hrow _ (Ú hi)];exact Nat.mod_lt _ hsp
      have e:q / sz*sz+q % sz=q:=by rw [Nat.mul_comm,Nat.div_add_mod]
      have k1:=TS (m:=cap*sz-xs.length*sz) hrow hi hj
      have k2:=hval _ hi _ hj
      rw [e] at k1 k2
      rw [hq] at k1
      rw [Af k1,k2]
      exact .lit _ _
    . have:c=.undef:=by
       unfold DI at hq
       rw [â (by rw [Í,Ei xs hrow];omega)] at hq
       exact List.eq_of_mem_replicate (Ò hq)
      rw [this];exact .undef _ _
  . rcases NR (Ò hq) with rfl|⟨v,rfl⟩<;>simp
  . rcases NR (Ò hq) with rfl|⟨v,rfl⟩<;>simp)
 have hlen:G.φ.length=st.σ.length:=h.store.len
 have hcl2:AU (Xm (Vl.setL st l .undef) (DI xs (cap*sz-xs.length*sz))) l=.undef:=by
  cases l with
  |tmp t=>exact hcu
  |cell k j =>
   have hk:k<st.σ.length:=by
    rw [<- hlen]
    obtain⟨b,hk,_⟩:=hv
    exact (List.getElem?_eq_some_iff.1 hk).1
   have hcu2:((Vl.setL st (.cell k j) .undef).σ.getD k []).getD j .undef=.undef:=hcu
   show (((Vl.setL st (.cell k j) .undef).σ++[_]).getD k []).getD j .undef=.undef
   simp only [List.getD] at hcu2 ⊢
   rw [Ô (by rw [Zv];exact hk)]
   exact hcu2
  |_=>cases hl
 refine⟨cap,cap*sz-xs.length*sz,sz,_,hcap.1,hm,hrow,h2.setL (p:=.asl st.σ.length 0 xs.length cap) (v:=.slice (some ⟨b,0,none⟩) xs.length cap) ?_ (.asl _ _ _ _ _ b (by rw [<- hlen];simp) hcap.1 hcap.2) trivial rfl hv1 (by rw [hcl2];simp) (by rw [hcl2];rfl)⟩
 cases l with
 |tmp t=>exact hv
 |cell k j =>
  obtain⟨b',hk,hcu⟩:=hv
  exact⟨b',by show (G.φ++[b])[k]?=_;rw [Ô (List.getElem?_eq_some_iff.1 hk).1];exact hk,hcu⟩
 |_=>cases hl
def V1 (st:St)(n:Nat):St:={ st with σ:=st.σ.take n }
def Xt (st:St)(l:Loc)(n:Nat)(xs:List (List Value)):St:=Vl.setL (V1 (Vl.setL st l .undef) n) l (.prv xs)
theorem Inv.unthaw {xs:List (List Value)}{n cap m sz:Nat}(h:Inv w0 G0 st tm w G)(hl:Oz l=true)(hc:AU st l=.asl n 0 xs.length cap)(hne:xs≠[])(hn:G0.φ.length<=n)(hk:st.σ[n]?=some (DI xs m))(hlast:st.σ.length=n+1)
 (hrow:∀ x∈xs,x.length=sz) (hsz:cap*sz=xs.length*sz+m) (hl2:(match l with|.cell k _=>decide (k<n)|_=>true)=true)
 (hf:(∀ t,(((Vl.setL st l .undef).get t).fits n&&Nl n ((Vl.setL st l .undef).get t))=true)/\Ej n ((Vl.setL st l .undef).σ.take n)=true) :
 ∃ G',Inv w0 G0 (Xt st l n xs) tm w G':=by
 have hlen:G.φ.length=st.σ.length:=h.store.len
 obtain⟨v,hv,hV⟩:∃ v,Yi w G tm l v/\V w G.U G.φ (.asl n 0 xs.length cap) v:=by
  cases l with
  |tmp t =>
   have hg:st.get t=_:=hc
   have hv:=h.env.v t
   rw [hg] at hv
   exact⟨tm t,rfl,hv⟩
  |cell k j =>
   have hc:(st.σ.getD k []).getD j .undef=.asl n 0 xs.length cap:=hc
   cases hcs:st.σ[k]? with
   |none=>simp [List.getD,hcs] at hc
   |some cs =>
    cases hj:cs[j]? with
    |none=>simp [List.getD,hcs,hj] at hc
    |some p =>
     obtain rfl:p=.asl n 0 xs.length cap:=by simpa [List.getD,hcs,hj] using hc
     have hkl:=(List.getElem?_eq_some_iff.1 hcs).1
     have hk:G.φ[k]?=some (G.φ[k]'(by rw [hlen];exact hkl)):=Ã _
     obtain⟨⟨o',arr,hh,⟨hlay,hsz⟩,hcell⟩,hnoU⟩:=h.store.blk k _ cs hk hcs
     have hnm:NM cs:=fun q e=>by
      subst e
      match j,hj with
      |0,hj=>cases hj;rfl
     obtain⟨T,rfl⟩:=hlay.cells hnm
     obtain⟨u,hu,h1,h2,h3⟩:=hcell j _ hj
     exact⟨u,⟨_,hk,by simp only [World.cell?,hh];simpa using hu⟩,h2⟩
  |_=>cases hl
 cases hV with
 |asl _ _ _ _ _ b hb hcap hcap2 =>
 have h0:=h.setUndef (by rw [hc];rfl) (by rw [hc];simp) hv rfl
 have hcu:=LM (st:=st) hl
 obtain⟨⟨o',arr,hh,⟨hlay,hasz⟩,hcell⟩,hnoU⟩:=h.store.blk n b _ hb hk
 obtain⟨T,rfl⟩:=hlay.cells (fun q e=>by
  rcases NR (xs:=xs) (m:=m) (p:=q) (by rw [e];simp) with rfl|⟨v,rfl⟩<;>rfl)
 have hbn:b∉G.φ.take n:=fun hm=>by
  obtain⟨i,hi,e⟩:=ø hm
  have hi2:i<n:=by simp at hi;omega
  have e2:G.φ[i]?=some b:=by rw [<- e,List.getElem_take];exact Ã _
  have:=(List.getElem?_inj (List.getElem?_eq_some_iff.1 e2).1 h.store.nodup).1 (e2.trans hb.symm)
  omega
 have hΩ:G.Ω b=none:=by
  cases e:G.Ω b with
  |none=>rfl
  |some l=>exact absurd (Ò hb) (h.store.ob b (by rw [e];simp)).2
 have hnew:w0.heap.size<=b∨G0.Ω b≠none:=by
  obtain⟨ψ,hφ,hψ⟩:=h.ext.phi
  refine hψ b ?_
  rw [hφ,â hn] at hb
  exact Ò hb
 have h2:=h0.take0 hn hf
 have hbl:b<w.heap.size:=(Array.getElem?_eq_some_iff.1 hh).1
 have own:∀ {l2 xs v},A0 w { G with φ:=G.φ.take n } l2 xs v->A0 w { U:=G.U,φ:=G.φ.take n,Ω:=fun b'=>if b'=b then some l else G.Ω b' } l2 xs v:=fun h1=>h1.to rfl fun b2 hb2=>by
  show (if b2=b then some l else G.Ω b2)=_
  rw [Ä (fun e=>by rw [e] at hb2;exact absurd (hΩ.symm.trans hb2) (by simp))];exact hb2
 have prv:∀ {l2 xs v},BC w { G with φ:=G.φ.take n } l2 xs v->BC w { U:=G.U,φ:=G.φ.take n,Ω:=fun b'=>if b'=b then some l else G.Ω b' } l2 xs v:=fun h1=>h1.to rfl fun b2 hb2=>by
  show (if b2=b then some l else G.Ω b2)=_
  rw [Ä (fun e=>by rw [e] at hb2;exact absurd (hΩ.symm.trans hb2) (by simp))];exact hb2
 have h3:Inv w0 G0 (V1 (Vl.setL st l .undef) n) tm w { U:=G.U,φ:=G.φ.take n,Ω:=fun b'=>if b'=b then some l else G.Ω b' }:=by
  refine⟨⟨h2.ext.os,h2.ext.tape,h2.ext.output,h2.ext.size,h2.ext.frame,h2.ext.cells,h2.ext.newU,fun b' hb'=>?_,h2.ext.phi⟩,⟨h2.store.len,h2.store.nodup,fun k b' cs hk hc=>?_,h2.store.ub,fun b' hb'=>?_⟩,h2.env.v,fun t=>?_⟩
  . have hb2:(if b'=b then some l else G.Ω b')≠none:=hb'
    by_cases e:b'=b
    . subst e;exact hnew
    . rw [Ä e] at hb2;exact h2.ext.newΩ b' hb2
  . obtain⟨⟨o',arr',g1,⟨g2,g3⟩,g4⟩,g5⟩:=h2.store.blk k b' cs hk hc
    refine⟨⟨o',arr',g1,⟨g2,g3⟩,fun j c hj=>?_⟩,g5⟩
    obtain⟨v,k1,k2,k3,k4⟩:=g4 j c hj
    refine⟨v,k1,k2,k3,?_⟩
    unfold Ck at k4 ⊢
    split
    . exact own k4
    . exact prv k4
    . trivial
  . have hb2:(if b'=b then some l else G.Ω b')≠none:=hb'
    by_cases e:b'=b
    . subst e;exact⟨hbl,hbn⟩
    . rw [Ä e] at hb2;exact h2.store.ob b' hb2
  . have ht:=h2.env.tag t
    show DV w _ (V1 (Vl.setL st l .undef) n) tm t ((Vl.setL st l .undef).get t) (tm t)
    revert ht
    show DV w _ (V1 (Vl.setL st l .undef) n) tm t ((Vl.setL st l .undef).get t) (tm t)->_
    generalize (Vl.setL st l .undef).get t=q
    intro ht
    cases q with
    |prv xs=>exact prv ht
    |sl xs g =>
     cases g with
     |own=>exact own ht
     |view m=>cases m<;>exact ht
     |_=>trivial
    |tup c2 =>
     intro i xs hi
     obtain⟨arr2,u,k1,k2,k3⟩:=ht i xs hi
     exact⟨arr2,u,k1,k2,own k3⟩
    |_=>trivial
 have hcl2:AU (V1 (Vl.setL st l .undef) n) l=.undef:=by
  cases l with
  |tmp t=>exact hcu
  |cell k j =>
   have hcu2:((Vl.setL st (.cell k j) .undef).σ.getD k []).getD j .undef=.undef:=hcu
   have hk2:k<n:=by simpa using hl2
   show (((Vl.setL st (.cell k j) .undef).σ.take n).getD k []).getD j .undef=.undef
   simp only [List.getD] at hcu2 ⊢
   rw [Ą,Ç hk2]
   exact hcu2
  |_=>cases hl
 have halen:(DI xs m).length=xs.length*sz+m:=PB hrow
 refine⟨_,h3.setL (p:=.prv xs) (v:=.slice (some ⟨b,0,none⟩) xs.length cap) ?_ (.prv _ _ _ _) (.inr ⟨b,cap,sz,T,arr,rfl,hne,⟨hcap,hcap2⟩,hrow,Ç rfl,hh,⟨by rw [hasz,halen,hsz],fun q hq=>?_,fun i hi j hj=>?_⟩,hnoU⟩) rfl rfl (by rw [hcl2];simp) (by rw [hcl2];rfl)⟩
 . cases l with
   |tmp t=>exact hv
   |cell k j =>
    obtain⟨b',hk,hcu⟩:=hv
    have hk2:k<n:=by simpa using hl2
    exact⟨b',by show (G.φ.take n)[k]?=_;rw [Ą,Ç hk2];exact hk,hcu⟩
   |_=>cases hl
 . obtain⟨v,k1,k2,_⟩:=hcell q _ (Ã (by omega))
   simpa [k1] using k2
 . obtain⟨v,k1,k2,k3,_⟩:=hcell _ _ (TS (m:=m) hrow hi hj)
   have e:arr.getD (i*sz+j) Go.undef=v:=by simp [k1]
   rw [e]
   cases k3
   rfl
end
end Go.Vl
namespace Go.Sp
open Go Go.RowKit Go.Q Go.Vl
def hdC (x:List TI×St):Bool:=match ML 99 x.1 with
 |.code _::_=>true
 |_=>false
section
variable {P:Program} {L:Cf} {N:Nat} {Q:AX->St->Prop} {x:List TI×St}
theorem Aa6 {X:St->Prop}(hc:hdC x=true)(hw:GK N x.2 X)(h:∀ s,X s->WX P L N Q (ML 99 x.1,s)):WX P L N Q x:=by
 unfold hdC at hc
 refine⟨zp (n:=99) ?_⟩
 split at hc
 . rename_i c k e
   rw [e]
   refine GK.bind hw fun s hs=>?_
   have:=(h s hs).s
   simp only at this
   rw [e] at this
   exact this
 . cases hc
theorem pvX (l:Vl.Loc)(h:WX P L N Q (ML 99 x.1,setL (unC x.2 l) l (.prv [])))(he:(hdC x&&Oz l,AU x.2 l)=(true,.sl [] .own):=by kernel_rfl):WX P L N Q x:=by
 obtain⟨e1,e2⟩:=Ó he
 rw [Å] at e1
 exact Aa6 e1.1 (GK.of (st2:=setL (unC x.2 l) l (.prv [])) (fun w0 G0 tm w G _ hI=>⟨G,hI.toPrv e1.2 e2⟩) rfl) fun s hs=>by subst hs;exact h
theorem poX (l:Vl.Loc)(xs:List (List Value))(h:WX P L N Q (ML 99 x.1,setL (setL x.2 l .undef) l (.sl (xs.map fun x=>x.map .lit) .own)))(he:(hdC x&&Oz l,AU x.2 l)=(true,.prv xs):=by kernel_rfl):WX P L N Q x:=by
 obtain⟨e1,e2⟩:=Ó he
 rw [Å] at e1
 exact Aa6 e1.1 (GK.of (st2:=setL (setL x.2 l .undef) l (.sl (xs.map fun x=>x.map .lit) .own)) (fun w0 G0 tm w G _ hI=>hI.toOwn e1.2 e2) rfl) fun s hs=>by subst hs;exact h
theorem thX (l:Vl.Loc)(xs:List (List Value))(hne:xs≠[])(h:∀ cap m sz,xs.length<=cap->cap*sz=xs.length*sz+m->(∀ x∈xs,x.length=sz)->WX P L N Q (ML 99 x.1,Xx x.2 l xs cap m))
 (he:(hdC x&&Oz l,AU x.2 l)=(true,.prv xs):=by kernel_rfl):WX P L N Q x:=by
 obtain⟨e1,e2⟩:=Ó he
 rw [Å] at e1
 refine Aa6 (X:=fun s=>∃ cap m sz,xs.length<=cap/\cap*sz=xs.length*sz+m/\(∀ x∈xs,x.length=sz)/\s=Xx x.2 l xs cap m) e1.1 (fun w0 G0 tm w G _ hI=>?_) fun s hs=>?_
 . obtain⟨cap,m,sz,G',h1,h2,h3,h4⟩:=hI.thaw e1.2 e2 hne
   exact⟨_,G',⟨cap,m,sz,h1,h2,h3,rfl⟩,h4⟩
 . obtain⟨cap,m,sz,h1,h2,h3,rfl⟩:=hs
   exact h cap m sz h1 h2 h3
def Aa1 (n:Nat):Vl.Loc->Bool
 |.cell k _=>Nat.ble (k+1) n
 |_=>true
theorem unX (l:Vl.Loc)(xs:List (List Value))(n cap m:Nat){sz:Nat}(hne:xs≠[])(hsz:cap*sz=xs.length*sz+m)(hrow:∀ x∈xs,x.length=sz)(h:WX P L N Q (ML 99 x.1,Xt x.2 l n xs))
 (he:((hdC x&&Oz l)&&((Nat.ble N n&&Nat.beq x.2.σ.length (n+1))&&(Aa1 n l&&((setL x.2 l .undef).env.all (fun z=>(Cs (setL x.2 l .undef).env z.1).fits n&&Nl n (Cs (setL x.2 l .undef).env z.1))&&Ej n ((setL x.2 l .undef).σ.take n)))),AU x.2 l,x.2.σ[n]?)=(true,.asl n 0 xs.length cap,some (DI xs m)):=by kernel_rfl):WX P L N Q x:=by
 simp only [È,Å] at he
 obtain⟨⟨⟨e1,e2⟩,⟨⟨e3,e4⟩,e5,e6,e7⟩⟩,e8,e9⟩:=he
 refine Aa6 e1 (GK.of (st2:=Xt x.2 l n xs) (fun w0 G0 tm w G hN hI=>hI.unthaw e2 e8 hne (ď hN (Ø e3)) e9 (Nat.eq_of_beq_eq_true e4) hrow hsz ?_ ⟨?_,e7⟩) rfl) fun s hs=>by subst hs;exact h
 . cases l with
   |cell k j=>exact Ì (Ø e5)
   |_=>rfl
 . exact YH (p:=fun q=>q.fits n&&Nl n q) rfl _ e6
end
structure Rl (α:Type) where
 vals:α->List Value
 n:Nat
 len:∀ x,(vals x).length=n
def HI {α:Type}(l:List α)(i:Int)(x:α):Option (List α):=if 0<=i/\i<(l.length:Int) then some (l.set i.toNat x) else none
def gx (n:Nat)(i:Int):Option Unit:=if 0<=i/\i<(n:Int) then some () else none
theorem Eu {n:Nat}{i:Int}{u:Unit}(h:gx n i=some u):0<=i/\i<(n:Int):=by
 unfold gx at h
 split at h
 . assumption
 . cases h
section
variable {α:Type} (R:Rl α)
theorem Rl.row (l:List α):∀ x∈l.map R.vals,x.length=R.n:=fun x hx=>by
 obtain⟨y,_,rfl⟩:=List.mem_map.1 hx
 exact R.len y
theorem ZU {l:List α}{i:Int}{x:α}(h:gi l i=some x):0<=i/\i.toNat<l.length/\l[i.toNat]?=some x:=by
 unfold gi at h
 split at h
 . rename_i h0
   exact⟨h0,(List.getElem?_eq_some_iff.1 h).1,h⟩
 . cases h
theorem Aa4 {l:List α}{m i j:Nat}{x:α}{v:Value}(h:l[i]?=some x)(hv:(R.vals x)[j]?=some v):(DI (l.map R.vals) m)[i*R.n+j]?=some (.lit v):=by
 have hi:=(List.getElem?_eq_some_iff.1 h).1
 have e:(l.map R.vals)[i]'(by simpa using hi)=R.vals x:=by
  rw [é];congr 1;rw [Ã hi] at h;exact Af h
 have hj:=(List.getElem?_eq_some_iff.1 hv)
 have:=TS (m:=m) (R.row l) (i:=i) (by simpa using hi) (j:=j) (by rw [e];exact hj.1)
 rw [this];congr 2
 simp only [e];exact hj.2
theorem Rr {xs:List (List Value)}{m:Nat}:∀ q∈DI xs m,q=.undef∨∃ v,q=.lit v:=fun _ hq=>NR hq
theorem ldE {l:List α}{m:Nat}{i:Int}{x:α}(h:gi l i=some x):LdA true (DI (l.map R.vals) m) (0+i.toNat*R.n) R.n (.agg ((R.vals x).map .lit)):=by
 obtain⟨_,h1,h2⟩:=ZU h
 have hlen:=PB (m:=m) (R.row l)
 have hle:(i.toNat+1)*R.n<=l.length*R.n:=ð _ h1
 rw [ó,ğ] at hle
 rw [Í] at hlen
 refine⟨Rr,?_⟩
 rw [Ç rfl,ñ]
 refine⟨by omega,?_⟩
 congr 1
 refine List.ext_getElem? fun j=>?_
 rw [Ą,æ]
 by_cases hj:j<R.n
 . rw [Ç hj,List.getElem?_drop]
   have hv:(R.vals x)[j]?=some ((R.vals x)[j]'(by rw [R.len];exact hj)):=Ã _
   rw [Aa4 R h2 hv,hv];rfl
 . rw [Ä hj,List.getElem?_eq_none (by rw [R.len];omega)];rfl
theorem ldF {l:List α}{m off:Nat}{i:Int}{x:α}{v:Value}(h:gi l i=some x)(hv:(R.vals x)[off]?=some v):LdA false (DI (l.map R.vals) m) (0+i.toNat*R.n+off) 1 (.lit v):=by
 obtain⟨_,h1,h2⟩:=ZU h
 have e:=Aa4 R (m:=m) h2 hv
 have hlt:=(List.getElem?_eq_some_iff.1 e).1
 refine⟨Rr,?_⟩
 rw [Ä (by simp),ñ]
 exact⟨hlt,by rw [List.getD,e];rfl⟩
theorem Vi {n:Nat}:∀ (xs:List (List Value)) (i j:Nat) (y:List Value),(∀ x∈xs,x.length=n)->i<xs.length->j+y.length<=n ->
 splice (xs.flatten.map PV.lit) (i*n+j) (y.map .lit)=((xs.set i (((xs.getD i []).take j)++y++((xs.getD i []).drop (j+y.length)))).flatten).map PV.lit
 | [],i,j,y,_,hi,_=>by simp at hi
 |x::xs,0,j,y,h,_,hj=>by
  have hx:=h x (by simp)
  unfold splice
  simp only [Nat.zero_mul,ñ,List.flatten_cons,Ć,List.set_cons_zero,List.getD_cons_zero,Í]
  rw [Ĭ (by simp;omega),ĭ (by simp;omega)]
  simp [List.map_take,List.map_drop,î]
 |x::xs,i+1,j,y,h,hi,hj=>by
  have hx:=h x (by simp)
  have ih:=Vi xs i j y (fun x hx=>h x (by simp [hx])) (by simpa using hi) hj
  unfold splice at ih ⊢
  simp only [List.flatten_cons,Ć,List.set_cons_succ,List.getD_cons_succ,Í] at ih ⊢
  rw [<- ih]
  have e:(i+1)*n+j=(x.map PV.lit).length+(i*n+j):=by rw [Í,hx,ó];omega
  rw [e,List.take_length_add_append,Ĳ,List.drop_length_add_append]
  simp [î]
theorem Wc {cs ds ns:List PV}{o:Nat}(h:o+ns.length<=cs.length):splice (cs++ds) o ns=splice cs o ns++ds:=by
 unfold splice
 rw [Ĭ (by omega),ĭ (by omega)]
 simp [î]
theorem stF {l l':List α}{m off:Nat}{i:Int}{x x':α}{y:List Value}(h:gi l i=some x)(h':HI l i x'=some l')(hy:off+y.length<=R.n)(hx:(R.vals x).take off++y++(R.vals x).drop (off+y.length)=R.vals x') :
 StA (DI (l.map R.vals) m) (0+i.toNat*R.n+off) y.length (y.map .lit) (DI (l'.map R.vals) m):=by
 obtain⟨h0,h1,h2⟩:=ZU h
 have hlen:=PB (m:=m) (R.row l)
 have hle:(i.toNat+1)*R.n<=l.length*R.n:=ð _ h1
 rw [ó,ğ] at hle
 rw [Í] at hlen
 obtain rfl:l.set i.toNat x'=l':=by
  unfold HI at h'
  rw [Ç ⟨h0,by omega⟩] at h'
  exact Af h'
 rw [ñ]
 refine⟨Rr,by simp,by omega,?_⟩
 unfold DI
 have hfl:=Ei (l.map R.vals) (R.row l)
 rw [Í] at hfl
 rw [Wc (by rw [Í,Í,hfl];omega),Vi (n:=R.n) _ _ _ _ (R.row l) (by simpa using h1) hy]
 congr 3
 have e:(l.map R.vals).getD i.toNat []=R.vals x:=by simp [List.getD,h2]
 rw [e,hx,List.map_set]
theorem stE {l l':List α}{m:Nat}{i:Int}{x':α}(h':HI l i x'=some l'):StA (DI (l.map R.vals) m) (0+i.toNat*R.n) R.n ((R.vals x').map .lit) (DI (l'.map R.vals) m):=by
 have hb:0<=i/\i<(l.length:Int):=by
  unfold HI at h'
  split at h'
  . assumption
  . cases h'
 have hi:i.toNat<l.length:=by omega
 have hx:gi l i=some l[i.toNat]:=by unfold gi;rw [Ç hb.1];exact Ã hi
 have:=stF R (m:=m) (off:=0) (y:=R.vals x') hx h' (by rw [R.len];omega) (by rw [List.take_zero,þ,ñ,R.len,Đ (by rw [R.len];exact à _),ą])
 rw [R.len,Nat.add_zero] at this
 exact this
theorem apP {b:Nat}{l z ys:List α}(hy:ys≠[])(h:Ca b l ys=some z) :
 (decide (((l.map R.vals).length+(ys.map R.vals).length)*b<=140737488355328)&&(!((ys.map R.vals).isEmpty)&&((l.map R.vals).all (fun x=>x.length == R.n)&&(ys.map R.vals).all (fun x=>x.length == R.n))))=true/\PV.prv (l.map R.vals++ys.map R.vals)=.prv (z.map R.vals):=by
 unfold Ca at h
 split at h
 . rename_i hb
   obtain rfl:=Af h
   refine⟨?_,by simp⟩
   have h1:∀ l:List α,(l.map R.vals).all (fun x=>x.length == R.n)=true:=fun l=>by
    rw [Û];intro y hy;rw [ā];exact R.row l y hy
   rw [h1,h1]
   simp only [Í,İ,Å,Î,ç,List.isEmpty_eq_false_iff]
   exact⟨hb,by simpa using hy⟩
 . cases h
def NV (b sz n:Nat){i:Int}(h:0<=i/\i<(n:Int)):Fa:=⟨.val (.ptr b (0+i.toNat*sz)),decide (0<=i/\i<(n:Int))=true/\PV.ptr b (0+i.toNat*sz)=.ptr b (0+i.toNat*sz),Ì h,rfl⟩
def VM {l:List α}(m:Nat){i:Int}{x:α}(h:gi l i=some x):Fa:=⟨.ald (.agg ((R.vals x).map .lit)),_,ldE R (m:=m) h⟩
def flf {l:List α}(m off:Nat){i:Int}{x:α}{v:Value}(h:gi l i=some x)(hv:(R.vals x)[off]?=some v):Fa:=⟨.ald (.lit v),_,ldF R (m:=m) (off:=off) h hv⟩
def fsE {l l':List α}(m:Nat){i:Int}{x':α}(h:HI l i x'=some l'):Fa:=⟨.ast (DI (l'.map R.vals) m),_,stE R (m:=m) h⟩
def fap {b:Nat}{l z ys:List α}(hy:ys≠[])(h:Ca b l ys=some z):Fa:=⟨.val (.prv (z.map R.vals)),_,apP R hy h⟩
end
section
variable {P:Program} {L:Cf} {N:Nat} {Q:AX->St->Prop} {x:List TI×St} {α:Type}
def Adg (st:St)(l:Vl.Loc)(xs:List (List Value))(n cap m:Nat):St:=setL (Xm (setL st l .undef) (DI xs m)) l (.asl st.σ.length 0 n cap)
theorem thR (R:Rl α)(lc:Vl.Loc)(l:List α)(n:Nat)(hn:l.length=n)(hne:l≠[])(h:∀ cap m,l.length<=cap->cap*R.n=n*R.n+m->WX P L N Q (ML 99 x.1,Adg x.2 lc (l.map R.vals) n cap m))
 (he:(hdC x&&Oz lc,AU x.2 lc)=(true,.prv (l.map R.vals)):=by kernel_rfl):WX P L N Q x:=by
 refine thX lc (l.map R.vals) (by simpa using hne) (fun cap m sz h1 h2 h3=>?_) he
 obtain⟨y,r,rfl⟩:∃ y r,l=y::r:=by cases l with|nil=>exact absurd rfl hne|cons y r=>exact⟨y,r,rfl⟩
 obtain rfl:R.n=sz:=by rw [<- h3 (R.vals y) (by simp),R.len]
 have e:((y::r).map R.vals).length=n:=by rw [Í];exact hn
 have h4:=h cap m (by rw [<- hn] at *;rw [Í] at h1;exact h1) (by rw [<- e];exact h2)
 unfold Adg at h4
 unfold Xx
 rw [e];exact h4
theorem unR (R:Rl α)(lc:Vl.Loc)(l:List α)(p n cap m:Nat)(hn:l.length=n)(hne:l≠[])(hsz:cap*R.n=n*R.n+m)(h:WX P L N Q (ML 99 x.1,Xt x.2 lc p (l.map R.vals)))
 (he:((hdC x&&Oz lc)&&((Nat.ble N p&&Nat.beq x.2.σ.length (p+1))&&(Aa1 p lc&&((setL x.2 lc .undef).env.all (fun z=>(Cs (setL x.2 lc .undef).env z.1).fits p&&Nl p (Cs (setL x.2 lc .undef).env z.1))&&Ej p ((setL x.2 lc .undef).σ.take p)))),AU x.2 lc,x.2.σ[p]?)=(true,.asl p 0 n cap,some (DI (l.map R.vals) m)):=by kernel_rfl):WX P L N Q x:=by
 subst hn
 have e:(l.map R.vals).length=l.length:=Í _
 refine unX lc (l.map R.vals) p cap m (by simpa using hne) (sz:=R.n) (by rw [e];exact hsz) (R.row l) h ?_
 rw [e];exact he
theorem poR (R:Rl α)(row:α->List PV)(lc:Vl.Loc)(l:List α)(h:WX P L N Q (ML 99 x.1,setL (setL x.2 lc .undef) lc (.sl (l.map row) .own)))(hr:∀ x,(R.vals x).map PV.lit=row x:=by intro _;rfl)
 (he:(hdC x&&Oz lc,AU x.2 lc)=(true,.prv (l.map R.vals)):=by kernel_rfl):WX P L N Q x:=by
 refine poX lc (l.map R.vals) ?_ he
 have e:(l.map R.vals).map (fun x=>x.map PV.lit)=l.map row:=by rw [List.map_map];exact List.map_congr_left fun x _=>hr x
 rw [e];exact h
theorem hwX (t:Nat)(h:WX P L N Q (ML 99 x.1,x.2.put (some t) (.mit [] [77])))(he:hdC x=true:=by kernel_rfl):WX P L N Q x :=
 Aa6 he (GK.of (st2:=x.2.put (some t) (.mit [] [77])) (fun w0 G0 tm w G _ hI=>⟨G,by have:=hI.put t (p:=.mit [] [77]) (.mit _ _ _ (tm t)) trivial;rwa [HC] at this⟩) rfl) fun s hs=>by subst hs;exact h
theorem JD {l:List α}(h:l.isEmpty=false):l≠[]:=by simpa using h
theorem Vz {l:List α}(h:l.isEmpty=true):l=[]:=by simpa using h
theorem HV {l:List α}{n:Nat}(h:(l.length == n)=true):l.length=n:=by simpa using h
theorem Ou {l r:List α}(h:r.length=l.length)(hl:l≠[]):r≠[]:=by rintro rfl;exact hl (å h.symm)
end
end Go.Sp
namespace Go.Vl
open Go Go.RowKit
structure SJ (b:Nat) (w w':World):Prop where
 os:w'.os=w.os
 tape:w'.tape=w.tape
 output:w'.output=w.output
 size:w.heap.size<=w'.heap.size
 same:∀ k,k<w.heap.size->k≠b->w'.heap[k]?=w.heap[k]?
structure Nf (G:Gh) (b:Nat):Prop where
 phi:b∉G.φ
 own:G.Ω b=none
 noU:∀ i,¬ G.U b i
section
variable {w w' w0:World} {G G' G0:Gh} {st st':St} {tm:Nat->Value} {b c:Nat} {σ:List (List PV)} {p:PV} {v:Value} {N:Nat}
theorem SJ.putObj (w:World)(b:Nat)(o:Obj):SJ b w (w.putObj b o):=⟨rfl,rfl,rfl,by simp,fun k _ h=>World.putObj_heap_other h⟩
theorem SJ.alloc (w:World)(b:Nat)(o:Obj):SJ b w (w.alloc o):=⟨rfl,rfl,rfl,by simp,fun k h _=>ê w o k h⟩
theorem Nf.ext (h:Nf G b)(hl:b<w.heap.size)(hx:Ext w G w' G'):Nf G' b:=by
 obtain⟨ψ,hφ,hψ⟩:=hx.phi
 refine⟨fun hm=>?_,?_,fun i hu=>?_⟩
 . rw [hφ] at hm
   rcases List.mem_append.1 hm with hm|hm
   . exact h.phi hm
   . rcases hψ b hm with k|k
     . omega
     . exact k h.own
 . cases e:G'.Ω b with
   |none=>rfl
   |some l =>
    rcases hx.newΩ b (by rw [e];simp) with k|k
    . omega
    . exact absurd h.own k
 . rcases hx.newU b i hu with k|k|k
   . exact h.noU i k
   . omega
   . exact k h.own
theorem Nf.same (h:Nf G b)(hl:b<w.heap.size)(hx:Ext w G w' G'):w'.heap[b]?=w.heap[b]?:=hx.frame b hl h.phi h.own
theorem Az.phi_lt (h:Az w G σ)(hb:b∈G.φ):b<w.heap.size:=by
 obtain⟨k,hk,he⟩:=ø hb
 have h2:k<σ.length:=by rw [<- h.len];exact hk
 obtain⟨⟨o,arr,h3,_⟩,_⟩:=h.blk k b σ[k] (by rw [Ã hk,he]) (Ã h2)
 exact (Array.getElem?_eq_some_iff.1 h3).1
theorem Az.fresh (h:Az w G σ)(hb:w.heap.size<=b):Nf G b:=by
 refine⟨fun hm=>?_,?_,fun i hu=>?_⟩
 . have:=h.phi_lt hm;omega
 . cases e:G.Ω b with
   |none=>rfl
   |some l=>have:=(h.ob b (by rw [e];simp)).1;omega
 . have:=h.ub b i hu;omega
theorem V.but (hs:Az w G σ)(hu:Nf G b)(hb:SJ b w w'){φ:List Nat}(h:V w G.U φ p v):V w' G.U φ p v :=
 h.mono (fun b2 i hu2=>⟨hu2,Kp.of (hb.same b2 (hs.ub b2 i hu2) (fun e=>hu.noU i (e ▸ hu2)))⟩) (fun _ _ h=>h)
theorem LN (hs:Az w G σ)(hu:Nf G b)(hb:SJ b w w'){l:Loc}:∀ b2,G.Ω b2=some l->G.Ω b2=some l/\w'.heap[b2]?=w.heap[b2]?/\∀ i,G.U b2 i->G.U b2 i:=fun b2 h =>
 ⟨h,hb.same b2 (hs.ob b2 (by rw [h];simp)).1 (fun e=>by rw [e,hu.own] at h;cases h),fun _ h=>h⟩
theorem Az.but (h:Az w G σ)(hu:Nf G b)(hb:SJ b w w'):Az w' G σ:=by
 refine⟨h.len,h.nodup,fun k b1 cs h1 h2=>?_,fun b1 i hu1=>ò (h.ub b1 i hu1) hb.size,fun b1 hB=>⟨ò (h.ob b1 hB).1 hb.size,(h.ob b1 hB).2⟩⟩
 obtain⟨⟨T,arr,h3,h4,h5⟩,h6⟩:=h.blk k b1 cs h1 h2
 have hlt:b1<w.heap.size:=(Array.getElem?_eq_some_iff.1 h3).1
 have hne:b1≠b:=fun e=>hu.phi (e ▸ Ò h1)
 refine⟨⟨T,arr,(hb.same b1 hlt hne).trans h3,⟨h4.1.mono (fun b2 i hu2=>⟨hu2,Kp.of (hb.same b2 (h.ub b2 i hu2) (fun e=>hu.noU i (e ▸ hu2)))⟩),h4.2⟩,fun j c hc=>?_⟩,h6⟩
 obtain⟨v,h7,h8,h9,h10⟩:=h5 j c hc
 refine⟨v,h7,h8,h9.but h hu hb,?_⟩
 unfold Ck at h10 ⊢
 split
 . exact A0.keep h10 (LN h hu hb)
 . exact BC.keep h10 (LN h hu hb)
 . trivial
theorem Ib.but (hs:Az w G st.σ)(h:Ib w G st tm)(hu:Nf G b)(hb:SJ b w w'):Ib w' G st tm:=by
 refine⟨fun t=>(h.v t).but hs hu hb,fun t=>?_⟩
 have ht:=h.tag t
 revert ht
 generalize st.get t=p
 generalize tm t=v
 intro ht
 cases p with
 |sl xs g=>cases g with
  |own=>exact A0.keep (show A0 w G (.tmp t) xs v from ht) (LN hs hu hb)
  |view l=>cases l with
   |cell k j =>
    obtain⟨cs,b1,h1,h2,h3,h4⟩:=ht
    have hm:=Ò h3
    exact⟨cs,b1,h1,h2,h3,(Č (w:=w) (hb.same b1 (hs.phi_lt hm) (fun e=>hu.phi (e ▸ hm)))).trans h4⟩
   |_=>exact ht
  |_=>trivial
 |prv xs=>exact BC.keep (show BC w G (.tmp t) xs v from ht) (LN hs hu hb)
 |tup cs =>
  intro i xs hi
  obtain⟨arr,u,k1,k2,k3⟩:=ht i xs hi
  exact⟨arr,u,k1,k2,A0.keep k3 (LN hs hu hb)⟩
 |_=>trivial
theorem Ext.but (h:Ext w0 G0 w G)(hs:Az w G σ)(hu:Nf G b)(hn:w0.heap.size<=b∨b∈G0.φ∨G0.Ω b≠none)(hb:SJ b w w'):Ext w0 G0 w' G:=by
 refine⟨hb.os.trans h.os,hb.tape.trans h.tape,hb.output.trans h.output,ď h.size hb.size,fun k h1 h2 h3=>?_,fun b2 i hu2=>?_,h.newU,h.newΩ,h.phi⟩
 . rw [hb.same k (ò h1 h.size) ?_,h.frame k h1 h2 h3]
   rintro rfl
   rcases hn with k1|k1|k1
   . omega
   . exact h2 k1
   . exact k1 h3
 . obtain⟨k1,k2⟩:=h.cells b2 i hu2
   exact⟨k1,k2.trans (Kp.of (hb.same b2 (hs.ub b2 i k1) (fun e=>hu.noU i (e ▸ k1))))⟩
theorem Inv.but (h:Inv w0 G0 st tm w G)(hu:Nf G b)(hn:w0.heap.size<=b∨b∈G0.φ∨G0.Ω b≠none)(hb:SJ b w w'):Inv w0 G0 st tm w' G :=
 ⟨h.ext.but h.store hu hn hb,h.store.but hu hb,h.env.but h.store hu hb⟩
def Gh.reb (G:Gh)(N:Nat):Gh:={ U:=G.U,φ:=G.φ.take N,Ω:=fun b=>if b∈G.φ.drop N then some (.tmp 0) else G.Ω b }
theorem Zz:Ext w (G.reb N) w G:=by
 refine⟨rfl,rfl,rfl,à _,fun _ _ _ _=>rfl,fun _ _ h=>⟨h,Kp.refl⟩,fun _ _ h=>.inl h,fun b hb=>.inr ?_,G.φ.drop N,(Ĉ N G.φ).symm,fun b hb=>.inr ?_⟩
 . show (if b∈G.φ.drop N then some (Loc.tmp 0) else G.Ω b)≠none
   split
   . simp
   . exact hb
 . show (if b∈G.φ.drop N then some (Loc.tmp 0) else G.Ω b)≠none
   rw [Ç hb];simp
theorem Ext.drop_new (h:Ext w0 G0 w G)(hN:G0.φ.length<=N)(hb:b∈G.φ.drop N):w0.heap.size<=b∨G0.Ω b≠none:=by
 obtain⟨ψ,hφ,hψ⟩:=h.phi
 rw [hφ,List.drop_append,Đ hN,þ] at hb
 exact hψ b (ë hb)
theorem Ext.reb (h:Ext w0 G0 w G)(hN:G0.φ.length<=N):Ext w0 G0 w (G.reb N):=by
 refine⟨h.os,h.tape,h.output,h.size,h.frame,h.cells,h.newU,fun b hb=>?_,?_⟩
 . change (if b∈G.φ.drop N then some (Loc.tmp 0) else G.Ω b)≠none at hb
   split at hb
   . rename_i hm;exact h.drop_new hN hm
   . exact h.newΩ b hb
 . obtain⟨ψ,hφ,hψ⟩:=h.phi
   refine⟨ψ.take (N-G0.φ.length),?_,fun b hb=>hψ b (ÿ hb)⟩
   show G.φ.take N=_
   rw [hφ,List.take_append,List.take_of_length_le hN]
theorem C8.reb (h:C8 w G):C8 w (G.reb N):=by
 refine⟨h.1,fun b hb=>?_⟩
 obtain⟨h1,h2,h3⟩:=h.2 b hb
 refine⟨h1,fun hm=>h2 (ÿ hm),?_⟩
 show (if b∈G.φ.drop N then some (Loc.tmp 0) else G.Ω b)=none
 rw [Ä (fun hm=>h2 (ë hm))];exact h3
theorem Nf.reb (h:Nf G b):Nf (G.reb N) b:=by
 refine⟨fun hm=>h.phi (ÿ hm),?_,h.noU⟩
 show (if b∈G.φ.drop N then some (Loc.tmp 0) else G.Ω b)=none
 rw [Ä (fun hm=>h.phi (ë hm))];exact h.own
end
end Go.Vl
namespace Go.Vl
open Go Go.RowKit
def Iter (P:Program)(gf:FuncId)(lb:Array Value)(ba:Nat)(H:World->Prop)(xs:List Int):Prop :=
 ∀ W:World,H W->∀ (l:Nat) (J Jx:List Int->World->Prop),
  (∀ s A B,J s A->SJ ba A B->J s B)->(∀ s A B,Jx s A->SJ ba A B->Jx s B) ->
  (∀ pre x W1,J pre W1->pre++[x] <+: xs->YieldAt (FZ none) 0 P l #[.int .i64 x] W1 fun e W' =>
   (e=.returned (.bool true)/\J (pre++[x]) W'/\W'.heap[ba]?=W1.heap[ba]?)∨(e=.returned (.bool false)/\Jx (pre++[x]) W')) ->
  J [] W ->
  CallsIn (FZ none) 0 P gf (#[.func (.yield l) #[] #[]]++lb) W fun e W'=>(∃ v,e=.returned v)/\(J xs W'∨∃ pre,Jx pre W')
abbrev Lv (z:Int):List Value:=[.int .i64 z]
def Abn (P:Program)(gf:FuncId)(zs xs:List Int):Prop :=
 ∀ (b0 ba cap:Nat) (T Ta:TypeId) (arr:Array Value),b0≠ba->zs.length<=cap->cap<=9223372036854775807->(∀ i (h:i<zs.length),arr[i]?=some (.int .i64 zs[i])) ->
  Iter P gf #[.pointer (some ⟨b0,0,none⟩)] ba (fun W=>W.heap[b0]?=some (.cells #[.slice (some ⟨ba,0,none⟩) zs.length cap] T (0,0))/\W.heap[ba]?=some (.cells arr Ta (0,0))) xs
def Rnd (m:Nat)(X:List (List PV)->Prop)(st:St):Prop:=GK m st fun st2=>Ej m (st2.σ.take m)=true/\X (st2.σ.take m)
def VJ (m:Nat)(env0:List (Nat×PV))(I:List (List PV)->Prop)(KA:AX->St->Prop)(x:AX)(st:St):Prop :=
 match x with
 |.normal=>Rnd m I st
 |.pan _=>False
 |x=>Rnd m (fun σ=>KA x ⟨env0,σ⟩) st
def Abm (P:Program)(L:Cf)(N:Nat)(g:Operand)(ps:Array Tmp)(assign body:Code)(KA:AX->St->Prop)(st:St):Prop :=
 ∃ (m gf tv:Nat) (σm:List (List PV)) (env0:List (Nat×PV)) (zs xs:List Int) (I:List Int->List (List PV)->Prop),
  (st.σ=σm++[[.prv (zs.map Lv)]]/\σm.length=m/\N<=m/\Ej m σm=true/\zs≠[]) /\
  (Cu st g=.fn gf [.ptr m 0]/\Jk P gf=true/\ps = #[tv]/\Abn P gf zs xs) /\
  (∀ t,Cs env0 t=.undef∨(Cs env0 t=st.get t/\plain (st.get t)=true/\(st.get t).fits m=true)) /\
  (I [] σm/\∀ pre σ',I pre σ'->σ'.length=m) /\
  (∀ pre x σ',I pre σ'->pre++[x] <+: xs->WS P L m [.code assign] (fun ax st2=>ax=.normal/\st2.σ.length=m/\WS P L m [.code body] (VJ m env0 (I (pre++[x])) KA) st2) ⟨(tv,.lit (.int .i64 x))::env0,σ'⟩) /\
  ∀ σ',I xs σ'->KA .normal ⟨env0,σ'⟩
def Adm:Code->Option AX
 |.ret=>some .ret
 |.exit id=>some (.exit id)
 |_=>none
def NJ (D:Nat):Deferred:={ target:=.collected D,args:=#[] }
structure Over (w0:World) (G0:Gh) (a:Act) (D:Nat) (st:St) (w:World) (G:Gh):Prop where
 inv:Inv w0 G0 st (AH a) w G
 unc:Nf G D
 lt:D<w.heap.size
 ge:w0.heap.size<=D
 is:w.heap[D]?=some (.deferred (some []))
section
variable {w w' w0:World} {G G' G0:Gh} {P:Program} {st st':St} {a:Act} {n N:Nat} {L:Cf} {KA:AX->St->Prop} {Q:Exit->Act->World->Prop}
def Gh.lose (G:Gh)(m ba:Nat):Gh:={ U:=G.U,φ:=G.φ.take m,Ω:=fun b=>if b=ba then none else G.Ω b }
theorem Agn {m ba:Nat}{σm:List (List PV)}{c1:List PV}(h:Inv w0 G0 st (AH a) w G)(hσ:st.σ=σm++[c1])(hm:σm.length=m)(hN:G0.φ.length<=m)(hf:Ej m σm=true)(hba:G.Ω ba=some (.cell m 0)){env0:List (Nat×PV)}
 (he:∀ t,Cs env0 t=.undef∨(Cs env0 t=st.get t/\plain (st.get t)=true/\(st.get t).fits m=true)):Inv w0 G0 ⟨env0,σm⟩ (AH a) w (G.lose m ba):=by
 have ht:st.σ.take m=σm:=by rw [hσ,List.take_left' hm]
 have hΩ:∀ b,(G.lose m ba).Ω b≠none->G.Ω b≠none:=fun b hb=>by
  change (if b=ba then none else G.Ω b)≠none at hb
  split at hb
  . exact absurd rfl hb
  . exact hb
 refine⟨?_,?_,⟨fun t=>?_,fun t=>?_⟩⟩
 . have hx:=h.ext
   refine⟨hx.os,hx.tape,hx.output,hx.size,hx.frame,hx.cells,hx.newU,fun b hb=>hx.newΩ b (hΩ b hb),?_⟩
   obtain⟨ψ,hφ,hψ⟩:=hx.phi
   refine⟨ψ.take (m-G0.φ.length),?_,fun b hb=>hψ b (ÿ hb)⟩
   show G.φ.take m=_
   rw [hφ,List.take_append,List.take_of_length_le hN]
 . have hs:=h.store.take (N:=m) (by rw [ht];exact hf)
   rw [ht] at hs
   refine⟨hs.len,hs.nodup,fun k b cs h1 h2=>?_,hs.ub,fun b hb=>hs.ob b (hΩ b hb)⟩
   obtain⟨⟨T,arr,h3,h4,h5⟩,h6⟩:=hs.blk k b cs h1 h2
   have hk:k<m:=by rw [<- hm];exact (List.getElem?_eq_some_iff.1 h2).1
   have keep:∀ (j:Nat) (b2:Nat),G.Ω b2=some (.cell k j)->(G.lose m ba).Ω b2=some (.cell k j)/\w.heap[b2]?=w.heap[b2]?/\∀ i,(G.lose m ba).U b2 i->G.U b2 i:=fun j b2 hb2=>by
    refine⟨?_,rfl,fun _ h=>h⟩
    show (if b2=ba then none else G.Ω b2)=_
    rw [Ä,hb2]
    rintro rfl
    rw [hba] at hb2
    cases hb2;omega
   refine⟨⟨T,arr,h3,h4,fun j c hc=>?_⟩,h6⟩
   obtain⟨v,h7,h8,h9,h10⟩:=h5 j c hc
   refine⟨v,h7,h8,h9,?_⟩
   unfold Ck at h10 ⊢
   split
   . exact A0.keep (G:=G) h10 (keep j)
   . exact BC.keep (G:=G) h10 (keep j)
   . trivial
 . show V w G.U (G.φ.take m) (Cs env0 t) _
   rcases he t with k|⟨k1,_,k3⟩
   . rw [k];exact .undef _ _
   . rw [k1];exact (h.env.v t).fits k3
 . show DV _ _ _ _ t (Cs env0 t) _
   rcases he t with k|⟨k1,k2,_⟩
   . rw [k];trivial
   . rw [k1];exact E9 k2 _ _ _ _
theorem Wf {m:Nat}{σm:List (List PV)}{zs:List Int}(h:Az w G st.σ)(hσ:st.σ=σm++[[.prv (zs.map Lv)]])(hm:σm.length=m)(hz:zs≠[]) :
 ∃ b0 ba cap T Ta,∃ arr:Array Value,G.φ[m]?=some b0/\G.Ω ba=some (.cell m 0)/\(∀ i,¬ G.U ba i)/\b0≠ba/\zs.length<=cap/\cap<=9223372036854775807/\(∀ i (h:i<zs.length),arr[i]?=some (.int .i64 zs[i])) /\
  w.heap[b0]?=some (.cells #[.slice (some ⟨ba,0,none⟩) zs.length cap] T (0,0))/\w.heap[ba]?=some (.cells arr Ta (0,0)):=by
 have hl:=h.len
 rw [hσ] at hl
 simp only [Õ,ß,í,hm] at hl
 have h0:G.φ[m]?=some (G.φ[m]'(by omega)):=Ã _
 revert h0
 generalize (G.φ[m]'(by omega))=b0
 intro h0
 have s0:st.σ[m]?=some [.prv (zs.map Lv)]:=by rw [hσ,â (by omega),hm];simp
 obtain⟨⟨o0,arr0,k1,⟨k2,k3⟩,k4⟩,_⟩:=h.blk m b0 _ h0 s0
 have c0:∃ T,o0=.cells arr0 T (0,0):=by
  rcases k2 with k2|⟨kvs,es,c,k2,_⟩|⟨kvs,seen,k2,_⟩
  . exact k2.1
  . cases k2
  . cases k2
 obtain⟨T,rfl⟩:=c0
 obtain⟨v,v1,v2,v3,v4⟩:=k4 0 _ rfl
 have v5:BC w G (.cell m 0) (zs.map Lv) v:=v4
 rcases v5 with⟨e1,_⟩|⟨ba,cap,sz,Ta,arr,rfl,hne,⟨hc1,hc2⟩,hsz,hΩ,hheap,⟨ha1,ha2,ha3⟩,hU⟩
 . exact absurd (List.map_eq_nil_iff.1 e1) hz
 have hs1:sz=1:=by
  cases zs with
  |nil=>exact absurd rfl hz
  |cons z zs=>have:=hsz (Lv z) (by simp);exact this.symm
 subst hs1
 rw [Í] at hc1 v1
 refine⟨b0,ba,cap,T,Ta,arr,h0,hΩ,hU,?_,hc1,hc2,fun i hi=>?_,?_,hheap⟩
 . rintro rfl
   exact (h.ob _ (by rw [hΩ];simp)).2 (Ò h0)
 . have:=ha3 i (by simpa using hi) 0 (by simp)
   rw [Nat.mul_one,Nat.add_zero] at this
   have hlt:i<arr.size:=by omega
   rw [É,ã hlt] at this
   rw [ã hlt]
   simp at this
   rw [this]
 . rw [k1]
   have hz:arr0 = #[.slice (some ⟨ba,0,none⟩) zs.length cap]:=by
    have h3:arr0.size=1:=k3
    apply Array.ext'
    have:arr0.toList.length=1:=h3
    match hh:arr0.toList,this with
    | [x],_ =>
     have:arr0[0]?=some x:=by rw [<- ĉ,hh];rfl
     rw [v1] at this
     obtain rfl:=Af this
     rfl
   rw [hz]
theorem U4 (hgl:C8 w0 G0)(hm:P.follows .mixedOrders=true)(hN:G0.φ.length<=N){g:Operand}{ps:Array Tmp}{assign body:Code}(hok:Cn L.pl n assign=true/\Cn L.pl n body=true)
 (hnd:Dh assign=true/\Dh body=true) (htv:∀ t∈ps.toList,t<n) (h:Inv w0 G0 st (AH a) w G) (hs:a.tmps.size=n) (hr:Abm P L N g ps assign body KA st)
 (hdone:∀ D st' w' G',Over w0 G0 a D st' w' G'->KA .normal st'->Q .normal { a with defers:=NJ D::a.defers } w')
 (hstop:∀ D c x st' w' G',Adm c=some x->Over w0 G0 a D st' w' G'->KA x st'->c.wpIn (FZ none) 0 P Q { a with defers:=NJ D::a.defers } w') :
 (Code.rangeFunc g ps assign body).wpIn (FZ none) 0 P Q a w:=by
 obtain⟨m,gf,tv,σm,env0,zs,xs,I,⟨hσ,hml,hNm,hfit,hzne⟩,⟨hg,hct,rfl,hit⟩,henv,⟨hI0,hIl⟩,hround,hfin⟩:=hr
 have htv:tv<n:=htv tv (by simp)
 have hN2:G0.φ.length<=m:=by omega
 obtain⟨b0,ba,cap,T,Ta,arr,hb0,hba,hbaU,hne,hc,hcm,harr,hw0,hwa⟩:=Wf h.store hσ hml hzne
 have hgv:a.eval g=.func (.func gf) #[] #[.pointer (some ⟨b0,0,none⟩)]:=by
  have hv:=B1 (a:=a) h.env g
  rw [hg] at hv
  revert hv;generalize a.eval g=z;intro hv
  cases hv with
  |fn _ _ _ arrc hn hcaps =>
   have h1:=hcaps 0 (by simp)
   have e1:arrc = #[arrc.getD 0 Go.undef]:=by
    apply Array.ext
    . simpa using hn
    . intro i h1 h2
      have:i=0:=by simp at h2;exact h2
      subst this
      simp [Array.getD,h1]
   have h2:arrc.getD 0 Go.undef=.pointer (some ⟨b0,0,none⟩):=by
    revert h1;generalize arrc.getD 0 Go.undef=z;intro h1
    cases h1 with
    |ptr _ _ _ k hk=>rw [hb0] at hk;obtain rfl:=Af hk;rfl
   rw [e1,h2]
 have hd:=Agn h hσ hml hN2 hfit hba henv
 have hlen0:=h.store.len
 rw [hσ] at hlen0
 simp only [Õ,ß,í,hml] at hlen0
 have hba_ob:=h.store.ob ba (by rw [hba];simp)
 have hba_lt:ba<w.heap.size:=hba_ob.1
 have hua:Nf (G.lose m ba) ba:=⟨fun hmem=>hba_ob.2 (ÿ hmem),by show (if ba=ba then none else G.Ω ba)=none;rw [Ç rfl],hbaU⟩
 have hban:w0.heap.size<=ba∨ba∈G0.φ∨G0.Ω ba≠none:=by
  rcases h.ext.newΩ ba (by rw [hba];simp) with k|k
  . exact .inl k
  . exact .inr (.inr k)
 refine wpIn_rangeFunc ?_
 intro fn hfn
 obtain⟨rec,hrec⟩:∃ rec:LoopState->Option Code->Loop,rec=fun st pe=>{ state:=st,pending:=pe,fn,tmps:=a.tmps,params:=#[tv],assign,body,defers:=w.heap.size }:=⟨_,rfl⟩
 obtain⟨D,hD⟩:∃ D,D=w.heap.size:=⟨_,rfl⟩
 obtain⟨W1,hW1⟩:∃ W1,(w.alloc (.deferred (some []))).alloc (.loop (rec .ready none))=W1:=⟨_,rfl⟩
 have hbut1:SJ D w (w.alloc (.deferred (some []))):=.alloc _ _ _
 have hbut2:SJ (D+1) (w.alloc (.deferred (some []))) W1:=by rw [<- hW1];exact .alloc _ _ _
 have hs1:W1.heap.size=w.heap.size+2:=by rw [<- hW1];simp
 have hL1:W1.heap[D+1]?=some (.loop (rec .ready none)):=by
  rw [<- hW1,hD];have:=World.alloc_heap_new (w.alloc (.deferred (some []))) (.loop (rec .ready none));rwa [World.size_alloc] at this
 have hK1:W1.heap[D]?=some (.deferred (some [])):=by
  rw [<- hW1,hD];exact (ê _ _ _ (by simp)).trans (World.alloc_heap_new w _)
 have hge:w0.heap.size<=D:=by rw [hD];exact h.ext.size
 have huD:Nf (G.lose m ba) D:=hd.store.fresh (by omega)
 have huL:Nf (G.lose m ba) (D+1):=hd.store.fresh (by omega)
 have hinv1:Inv w0 G0 ⟨env0,σm⟩ (AH a) W1 (G.lose m ba):=(hd.but huD (.inl hge) hbut1).but huL (.inl (by omega)) hbut2
 have hold:∀ k,k<w.heap.size->W1.heap[k]?=w.heap[k]?:=fun k hk=>by rw [hbut2.same k (by simp;omega) (by omega),hbut1.same k hk (by omega)]
 obtain⟨J,hJ⟩:∃ J:List Int->World->Prop,J=fun pre W=>∃ σ' G',I pre σ'/\Inv w0 G0 ⟨env0,σ'⟩ (AH a) W G'/\Nf G' ba/\Nf G' (D+1)/\Nf G' D/\ba<W.heap.size/\W.heap[D+1]?=some (.loop (rec .ready none))/\W.heap[D]?=some (.deferred (some [])):=⟨_,rfl⟩
 obtain⟨Jx,hJx⟩:∃ Jx:List Int->World->Prop,Jx=fun _ W=>∃ c x σ' G',Adm c=some x/\KA x ⟨env0,σ'⟩/\Inv w0 G0 ⟨env0,σ'⟩ (AH a) W G'/\Nf G' ba/\Nf G' (D+1)/\Nf G' D/\ba<W.heap.size/\W.heap[D+1]?=some (.loop (rec .done (some c)))/\W.heap[D]?=some (.deferred (some [])):=⟨_,rfl⟩
 have hbaD:ba≠D/\ba≠D+1:=by omega
 have step:∀ {A B:World},SJ ba A B->∀ {k:Nat} {o:Obj},k≠ba->A.heap[k]?=some o->B.heap[k]?=some o:=fun hb k o hk ho=>(hb.same k (Array.getElem?_eq_some_iff.1 ho).1 hk).trans ho
 refine⟨D+1,[NJ D],W1,{ target:=.fn (.func gf) #[.pointer (some ⟨b0,0,none⟩)],args:=#[.func (.yield (D+1)) #[] #[]] },W1,gf,#[.func (.yield (D+1)) #[] #[]]++#[.pointer (some ⟨b0,0,none⟩)],W1,?_,?_,fun _ _=>trivial,?_,La,?_⟩
 . rw [<- hW1,hrec,hD];exact run_enterLoop_outer _ _ _ _ _
 . simp only [resolve,hgv]
   simp [go_sem]
 . simp [invoke,go_sem,JN hct]
 refine ((hit b0 ba cap T Ta arr hne hc hcm harr) W1 ⟨(hold b0 (Array.getElem?_eq_some_iff.1 hw0).1).trans hw0,(hold ba hba_lt).trans hwa⟩ (D+1) J Jx ?_ ?_ ?_ ?_).mono ?_
 . intro s A B hA hb
   rw [hJ] at hA ⊢
   obtain⟨σ',G',h1,h2,h3,h4,h5,h6,h7,h8⟩:=hA
   exact⟨σ',G',h1,h2.but h3 hban hb,h3,h4,h5,ò h6 hb.size,step hb (ě hbaD.2) h7,step hb (ě hbaD.1) h8⟩
 . intro s A B hA hb
   rw [hJx] at hA ⊢
   obtain⟨c,x,σ',G',h0,h1,h2,h3,h4,h5,h6,h7,h8⟩:=hA
   exact⟨c,x,σ',G',h0,h1,h2.but h3 hban hb,h3,h4,h5,ò h6 hb.size,step hb (ě hbaD.2) h7,step hb (ě hbaD.1) h8⟩
 . -- one round
   intro pre x W hA hpre
   rw [hJ] at hA
   obtain⟨σ',G',hI,hinv,hua',hul',huD',halt,hl,hk⟩:=hA
   have hllt:D+1<W.heap.size:=(Array.getElem?_eq_some_iff.1 hl).1
   have hy:=run_yield (P:=P) (args:=#[.int .i64 x]) hl (by rw [hrec];rfl)
   rw [hrec] at hy
   have hy2:(Instr.yield (D+1) #[.int .i64 x]).run P W=.ok (.round (D+1) fn (a.tmps.setIfInBounds tv (.int .i64 x)) assign body) W:=by simpa using hy
   refine⟨fn,_,assign,body,hy2,roundIn_of_wpIn hfn ?_⟩
   obtain⟨a0,ha0⟩:∃ a0:Act,a0 = { tmps:=a.tmps.setIfInBounds tv (.int .i64 x),defers:=[] }:=⟨_,rfl⟩
   have htm:∀ t,AH a0 t=if tv=t then .int .i64 x else AH a t:=fun t=>by
    have:=congrFun (Bq (a:=a) (d:=tv) (by omega) (.int .i64 x)) t
    rw [ha0];exact this
   have hlenm:G'.φ.length<=m:=by have:=hinv.store.len;have h2:=hIl pre σ' hI;simp only at this;omega
   have hinv0:Inv W G' ⟨(tv,.lit (.int .i64 x))::env0,σ'⟩ (AH a0) W G':=by
    refine⟨Ext.refl _ _,hinv.store,⟨fun t=>?_,fun t=>?_⟩⟩
    . rw [htm]
      show V W G'.U G'.φ (if tv=t then _ else Cs env0 t) _
      split
      . exact .lit _ _
      . exact hinv.env.v t
    . show DV _ _ _ _ t (if tv=t then _ else Cs env0 t) _
      split
      . trivial
      . rcases henv t with k|⟨k1,k2,_⟩
        . rw [k];trivial
        . rw [k1];exact E9 k2 _ _ _ _
   obtain⟨stA,GA,hWA,hinvA⟩:=hround pre x σ' hI hpre W G' (AH a0) W G' hlenm hinv0
   have hsz0:a0.tmps.size=n:=by rw [ha0];simpa using hs
   have hgoal:=Rx (P:=P) (L:=L) (r:=some (D+1)) (ds:=[]) (hgl.ext hinv.ext) hm hlenm assign _ stA a0 W GA hok.1 (fun _=>hnd.1) hinvA (by rw [ha0]) hsz0 hWA
   rw [ha0] at hgoal
   refine wpIn_mono hgoal ?_
   rintro e1 a1 W2 hp
   cases e1 with
   |normal =>
    obtain⟨hsz1,hd1,st2,G2,⟨_,hl2,hbody⟩,hinv2⟩:=hp
    have hxA:=hinv2.ext
    have hl2':W2.heap[D+1]?=some (.loop (rec .ready none)):=(hul'.same hllt hxA).trans hl
    have hul2:=hul'.ext hllt hxA
    have hba2:=(hua'.same halt hxA)
    have hua2:=hua'.ext halt hxA
    have hDlt:D<W.heap.size:=by omega
    have hk2:=(huD'.same hDlt hxA).trans hk
    have huD2:=huD'.ext hDlt hxA
    obtain⟨W3,hW3⟩:∃ W3,W3=W2.putObj (D+1) (.loop { rec .ready none with state:=.busy }):=⟨_,rfl⟩
    have hb3:SJ (D+1) W2 W3:=by rw [hW3];exact .putObj _ _ _
    have hx3:Ext w0 G0 W3 G2:=(hinv.ext.trans hxA).but hinv2.store hul2 (.inl (by omega)) hb3
    have inv3:Inv W3 G2 st2 (AH a1) W3 G2:=⟨Ext.refl _ _,hinv2.store.but hul2 hb3,hinv2.env.but hinv2.store hul2 hb3⟩
    have hs32:W2.heap.size=W3.heap.size:=by rw [hW3];simp
    have hs2:=hxA.size
    have hl3:W3.heap[D+1]?=some (.loop { rec .ready none with state:=.busy }):=by rw [hW3];exact World.putObj_heap_same (by omega)
    have hk3:W3.heap[D]?=some (.deferred (some [])):=by rw [hW3,World.putObj_heap_other (by omega)];exact hk2
    have hba3:W3.heap[ba]?=W.heap[ba]?:=by rw [hW3,World.putObj_heap_other hbaD.2];exact hba2
    have hlen2:G2.φ.length=m:=by rw [hinv2.store.len];exact hl2
    refine⟨W3,by rw [hW3];exact run_beginRound hl2' (by rw [hrec]),?_⟩
    obtain⟨stB,GB,hWB,hinvB⟩:=hbody W3 G2 (AH a1) W3 G2 (by omega) inv3
    refine wpIn_mono (Rx (P:=P) (L:=L) (r:=some (D+1)) (ds:=[]) (hgl.ext hx3) hm (Ă hlen2) body _ stB a1 W3 GB hok.2 (fun _=>hnd.2) hinvB hd1 hsz1 hWB) ?_
    rintro e3 a3 W4 hp
    have fin:∀ (X:List (List PV)->Prop) (st3:St) (G3:Gh) (jump:Option Code),Rnd m X st3->Inv W3 G2 st3 (AH a3) W4 G3->∃ σ'' G5 W5,X σ''/\(Instr.endRound (D+1) jump).run P W4=.ok (.bool jump.isNone) W5/\Inv w0 G0 ⟨env0,σ''⟩ (AH a) W5 G5/\Nf G5 ba/\Nf G5 (D+1)/\Nf G5 D /\
     ba<W5.heap.size/\W5.heap[D+1]?=some (.loop (rec (if jump.isNone then .ready else .done) jump))/\W5.heap[D]?=some (.deferred (some []))/\W5.heap[ba]?=W.heap[ba]?:=by
     intro X st3 G3 jump hX hinv3
     obtain⟨st4,G4,⟨hf4,hX4⟩,hinv4⟩:=hX W3 G2 (AH a3) W4 G3 (by omega) hinv3
     have hx4:=hinv4.ext.take hlen2
     have hs4:=hinv4.store.take hf4
     have hl4:W4.heap[D+1]?=some (.loop { rec .ready none with state:=.busy }):=(hul2.same (by omega) hx4).trans hl3
     have hul4:=hul2.ext (by omega) hx4
     have hua4:=hua2.ext (by omega) hx4
     have huD4:=huD2.ext (by omega) hx4
     have hk4:=(huD2.same (by omega) hx4).trans hk3
     have hba4:=(hua2.same (by omega) hx4).trans hba3
     have hz4:=hx4.size
     have hrun:=run_endRound (P:=P) jump hl4
     refine⟨_,_,W4.putObj (D+1) (.loop (rec (if jump.isNone then .ready else .done) jump)),hX4,by rw [hrec] at hrun ⊢;exact hrun,?_,hua4,hul4,huD4,by simp;omega,World.putObj_heap_same (by omega),by rw [World.putObj_heap_other (by omega)];exact hk4,by rw [World.putObj_heap_other hbaD.2];exact hba4⟩
     have hinv5:Inv w0 G0 ⟨env0,st4.σ.take m⟩ (AH a) W4 { G4 with φ:=G4.φ.take m }:=by
      refine⟨hx3.trans hx4,hs4,⟨fun t=>?_,fun t=>?_⟩⟩
      . exact hx4.V ((hxA.V (hinv.env.v t)).but hinv2.store hul2 hb3)
      . show DV _ _ _ _ t (Cs env0 t) _
        rcases henv t with k|⟨k1,k2,_⟩
        . rw [k];trivial
        . rw [k1];exact E9 k2 _ _ _ _
     exact hinv5.but hul4 (.inl (by omega)) (.putObj _ _ _)
    cases e3 with
    |normal =>
     obtain⟨_,_,st3,G3,hX,hinv3⟩:=hp
     obtain⟨σ'',G5,W5,k1,k2,k3,k4,k5,k6,k7,k8,k9,k10⟩:=fin _ st3 G3 none hX hinv3
     exact⟨_,_,k2,.inl ⟨rfl,by rw [hJ];exact⟨σ'',G5,k1,k3,k4,k5,k6,k7,k8,k9⟩,k10⟩⟩
    |ret =>
     obtain⟨_,_,st3,G3,hX,hinv3⟩:=hp
     obtain⟨σ'',G5,W5,k1,k2,k3,k4,k5,k6,k7,k8,k9,k10⟩:=fin (fun σ=>KA .ret ⟨env0,σ⟩) st3 G3 (some .ret) hX hinv3
     exact⟨_,_,k2,.inr ⟨rfl,by rw [hJx];exact⟨.ret,.ret,σ'',G5,rfl,k1,k3,k4,k5,k6,k7,k8,k9⟩⟩⟩
    |exit id =>
     obtain⟨_,_,st3,G3,hX,hinv3⟩:=hp
     obtain⟨σ'',G5,W5,k1,k2,k3,k4,k5,k6,k7,k8,k9,k10⟩:=fin (fun σ=>KA (.exit id) ⟨env0,σ⟩) st3 G3 (some (.exit id)) hX hinv3
     exact⟨_,_,k2,.inr ⟨rfl,by rw [hJx];exact⟨.exit id,.exit id,σ'',G5,rfl,k1,k3,k4,k5,k6,k7,k8,k9⟩⟩⟩
    |panic c=>obtain⟨_,st3,G3,hX,_⟩:=hp;exact hX.elim
    |goto t=>exact hp.elim
    |outgrown=>exact hp.elim
   |exit id=>obtain⟨_,_,_,_,⟨hax,_⟩,_⟩:=hp;cases hax
   |ret=>obtain⟨_,_,_,_,⟨hax,_⟩,_⟩:=hp;cases hax
   |panic c=>obtain⟨_,_,_,⟨hax,_⟩,_⟩:=hp;cases hax
   |goto t=>exact hp.elim
   |outgrown=>exact hp.elim
 . rw [hJ];exact⟨σm,_,hI0,hinv1,hua,huL,huD,by omega,hL1,hK1⟩
 . -- behind the iterator
   rintro e2 W2 ⟨⟨v,rfl⟩,hA|⟨pre,hA⟩⟩
   . rw [hJ] at hA
     obtain⟨σ',G',hI,hinv,hua',hul',huD',halt,hl,hk⟩:=hA
     have hlt2:=(Array.getElem?_eq_some_iff.1 hl).1
     have hrun:=run_endLoop (P:=P) hl (by rw [hrec];simp)
     rw [hrec] at hrun
     refine⟨none,_,hrun,hdone D _ _ G' ⟨hinv.but hul' (.inl (by omega)) (.putObj _ _ _),huD',by simp;omega,hge,by rw [World.putObj_heap_other (by omega)];exact hk⟩ (hfin σ' hI)⟩
   . rw [hJx] at hA
     obtain⟨c,x,σ',G',hj,hI,hinv,hua',hul',huD',halt,hl,hk⟩:=hA
     have hlt2:=(Array.getElem?_eq_some_iff.1 hl).1
     have hrun:=run_endLoop (P:=P) hl (by rw [hrec];simp)
     rw [hrec] at hrun
     exact⟨some c,_,hrun,hstop D c x _ _ G' hj ⟨hinv.but hul' (.inl (by omega)) (.putObj _ _ _),huD',by simp;omega,hge,by rw [World.putObj_heap_other (by omega)];exact hk⟩ hI⟩
end
end Go.Vl
namespace Go.Vl
open Go Go.RowKit
structure RgT where
 bid:Nat
 g:Operand
 ps:Array Tmp
 assign:Code
 body:Code
def RgT.code (t:RgT):Code:=.block t.bid (.rangeFunc t.g t.ps t.assign t.body)
def flat:Code->List Code
 |.seq a b=>flat a++flat b
 |c=>[c]
def Jt:List Code->Option (List Code×RgT×List Code)
 | []=>none
 |.block bid (.rangeFunc g ps assign body)::l=>some ([],⟨bid,g,ps,assign,body⟩,l)
 |c::l=>(Jt l).map fun r=>(c::r.1,r.2)
theorem RZ:∀ {l ags:List Code} {t:RgT} {bgs:List Code},Jt l=some (ags,t,bgs)->l=ags++t.code::bgs
 | [],_,_,_,h=>by cases h
 |c::l,ags,t,bgs,h=>by
  unfold Jt at h
  split at h
  . rename_i e;cases e
  . rename_i e
    obtain⟨rfl,rfl⟩:=Ġ e
    simp only [Â,È] at h
    obtain⟨rfl,rfl,rfl⟩:=h
    rfl
  . rename_i e
    obtain⟨rfl,rfl⟩:=Ġ e
    simp only [į,È,Prod.exists] at h
    obtain⟨a,t2,b2,h1,rfl,rfl,rfl⟩:=h
    rw [RZ h1];rfl
theorem M3 {P:Program}{Q:Exit->Act->World->Prop}{next:Act->World->Prop}:∀ (l1 l2:List Code),Ze P Q (l1++l2) next=Ze P Q l1 (Ze P Q l2 next)
 | [],_=>rfl
 |c::l1,l2=>by
  show (fun a w=>c.wp P (Exit.then (Ze P Q (l1++l2) next) Q) a w)=_
  rw [M3 l1 l2];rfl
theorem Acz {P:Program}{Q:Exit->Act->World->Prop}:∀ (c:Code) {next:Act->World->Prop} {a:Act} {w:World},Ze P Q (flat c) next a w->c.wp P (Exit.then next Q) a w:=by
 intro c
 induction c with
 |seq x y ihx ihy =>
  intro next a w h
  have h:Ze P Q (flat x++flat y) next a w:=h
  rw [M3] at h
  refine wp_seq (wp_mono (ihx h) fun e a' w' hp=>?_)
  cases e with
  |normal=>exact ihy hp
  |_=>exact hp
 |_=>intro next a w h;exact h
theorem Aac {P:Program}{Q:Exit->Act->World->Prop}{c:Code}{a:Act}{w:World}(h:Ze P Q (flat c) (Q .normal) a w):c.wp P Q a w :=
 wp_mono (Acz c h) fun e a w h=>by cases e<;>exact h
def Qp (P:Program)(L:Cf)(N:Nat)(t:RgT)(b:List Code)(Q:AX->St->Prop)(x:AX)(st:St):Prop:=match x with
 |.normal=>Bx (Abm P L N t.g t.ps t.assign t.body (KT P L N (.blk t.bid::(b.map TI.code++[.code .skip])) Q) st)
 |x=>Q x st
def okR (L:Cf)(n:Nat)(ags:List Code)(t:RgT)(b:List Code)(k:Nat):Bool :=
 ags.all (Cn L.pl n)&&(b.all (Cn L.pl n)&&(Cn L.pl n t.assign&&(Cn L.pl n t.body&&(Dh t.assign&&(Dh t.body&&(t.ps.toList.all (fun x=>decide (x<n))&&decide (k<=n)))))))
section
variable {w w' w0:World} {G G' G0:Gh} {P:Program} {st st':St} {a:Act} {n N:Nat} {L:Cf}
theorem VC.introR {f:FuncId}{fn:Func}{c:Code}{ags b:List Code}{t:RgT}{args:List PV}{σ:List (List PV)}{Q:Cl->List (List PV)->Prop}(L:Cf)
 (hf:P.funcs[f]?=some fn) (hb:fn.body=some c) (hm:P.follows .mixedOrders=true) (hs:Jt (flat c)=some (ags,t,b))
 (hok:okR L fn.ntmps ags t b args.length=true)
 (h:WS P L σ.length (ags.map TI.code++[.code .skip]) (Qp P L σ.length t b (CI P fn σ.length Q)) (IQ args σ)):VC P f args σ Q:=by
 unfold okR at hok
 simp only [Å,Î,Û] at hok
 obtain⟨hoka,hokb,hok1,hok2,hnd1,hnd2,htv,hn⟩:=hok
 intro w G vs hst hvs hv hΩ hgl
 have hc:CallsIn Fence.wide 0 P f vs w (fun e w'=>∃ x σ' G',Q x σ'/\Dq w' G' x e/\Az w' G' σ'/\Ext w G w' G'):=by
  refine callsIn_of_wp_marks hf hb trivial ((wpIn_wide (n:=0)).2 (Aac ?_))
  rw [RZ hs,M3]
  have hsz:(vs++Array.replicate (fn.ntmps-vs.size) Go.undef).size=fn.ntmps:=by simp;omega
  have hget:∀ t,(IQ args σ).get t=match args[t]? with|some p=>Bg p|none=>.undef:=by
   intro t
   show Cs (args.zipIdx.map fun x=>(x.2,Bg x.1)) t=_
   rw [L9 args 0 t];simp;rfl
  have hinv:Inv w G (IQ args σ) (AH { tmps:=vs++Array.replicate (fn.ntmps-vs.size) Go.undef,defers:=[] }) w G:=by
   refine⟨Ext.refl _ _,hst,⟨fun t=>?_,fun t=>?_⟩⟩
   . rw [hget]
     cases e:args[t]? with
     |none=>exact .undef _ _
     |some p =>
      have ht:=List.getElem?_eq_some_iff.1 e
      have:=hv t ht.1
      rw [ht.2] at this
      have e2:AH { tmps:=vs++Array.replicate (fn.ntmps-vs.size) Go.undef,defers:=[] } t=vs.getD t Go.undef:=by
       show (vs++_).getD t Go.undef=_
       rw [É,ö (by rw [hvs];exact ht.1),É]
      rw [e2];exact C2 this
   . rw [hget]
     cases e:args[t]? with
     |none=>trivial
     |some p=>exact E9 (Br p) _ _ _ _
  have hN:G.φ.length=σ.length:=hst.len
  have hN':=Ă hN
  -- at the function's end
  have fin1:∀ (a:Act) (w1:World) (st:St) (G1:Gh),a.defers=[]->Inv w G st (AH a) w1 G1->CI P fn σ.length Q .ret st->LeavesInM Fence.wide 0 P fn a.tmps (fun e w'=>∃ x σ' G',Q x σ'/\Dq w' G' x e/\Az w' G' σ'/\Ext w G w' G') a.defers .returning w1:=by
   intro a w1 st G1 hd hI hq
   rw [hd]
   exact LX hN hI hq
  have fin2:∀ (a:Act) (D:Nat) (w1:World) (st:St) (G1:Gh),a.defers=[NJ D]->Over w G a D st w1 G1->CI P fn σ.length Q .ret st->LeavesInM Fence.wide 0 P fn a.tmps (fun e w'=>∃ x σ' G',Q x σ'/\Dq w' G' x e/\Az w' G' σ'/\Ext w G w' G') a.defers .returning w1:=by
   intro a D w1 st G1 hd hO hq
   rw [hd]
   exact⟨by simp,.inl ⟨D,_,rfl,run_takeDeferred hO.is,LX hN (hO.inv.but hO.unc (.inl hO.ge) (.putObj _ _ _)) hq⟩⟩
  have finP:∀ (a:Act) (D:Nat) (w1:World) (st:St) (G1:Gh) (c:List PanicEntry),a.defers=[NJ D]->Ext w G w1 G1->Az w1 G1 st.σ->Nf G1 D->w.heap.size<=D->w1.heap[D]?=some (.deferred (some []))->CI P fn σ.length Q (.pan c) st ->
   LeavesInM Fence.wide 0 P fn a.tmps (fun e w'=>∃ x σ' G',Q x σ'/\Dq w' G' x e/\Az w' G' σ'/\Ext w G w' G') a.defers (.panicking c) w1:=by
   intro a D w1 st G1 c hd hx hs1 hu hge his hq
   rw [hd]
   have hb:=SJ.putObj w1 D (.deferred none)
   exact⟨by simp,.inl ⟨D,_,rfl,run_takeDeferred his,MX (p:=.undef) (hx.but hs1 hu (.inl hge) hb) (hs1.but hu hb) hN hq rfl (fun r e=>by cases e)⟩⟩
  refine LS (ds:=[]) hgl hm hN' ?_ ?_ ags _ _ w G (by rw [Û];exact hoka) hinv rfl hsz h
  . intro a1 w1 st1 G1 hs1 hd1 hI1 hq
    obtain⟨hq⟩:=hq
    have after:∀ D st2 w2 G2,Over w G a1 D st2 w2 G2->KT P L σ.length (.blk t.bid::(b.map TI.code++[.code .skip])) (CI P fn σ.length Q) .normal st2 ->
     Ze P (bodyPostM Fence.wide 0 P fn (fun e w'=>∃ x σ' G',Q x σ'/\Dq w' G' x e/\Az w' G' σ'/\Ext w G w' G')) b (bodyPostM Fence.wide 0 P fn (fun e w'=>∃ x σ' G',Q x σ'/\Dq w' G' x e/\Az w' G' σ'/\Ext w G w' G') .normal) { a1 with defers:=NJ D::a1.defers } w2:=by
     intro D st2 w2 G2 hO hk
     have hx0:=hO.inv.ext
     have hglr:C8 w2 (G2.reb σ.length):=(hgl.ext hx0).reb
     have hNr:(G2.reb σ.length).φ.length<=σ.length:=by show (G2.φ.take σ.length).length<=_;simp;omega
     have hir:Inv w2 (G2.reb σ.length) st2 (AH a1) w2 G2:=⟨Zz,hO.inv.store,hO.inv.env⟩
     have hxr:Ext w G w2 (G2.reb σ.length):=hx0.reb hN'
     have hur:Nf (G2.reb σ.length) D:=hO.unc.reb
     have over:∀ (a2:Act) (st4:St) (w4:World) (G4:Gh),Inv w2 (G2.reb σ.length) st4 (AH a2) w4 G4->Over w G a2 D st4 w4 G4:=fun a2 st4 w4 G4 hI =>
      ⟨⟨hxr.trans hI.ext,hI.store,hI.env⟩,hur.ext hO.lt hI.ext,ò hO.lt hI.ext.size,hO.ge,(hur.same hO.lt hI.ext).trans hO.is⟩
     refine LS (P:=P) (L:=L) (ds:=[NJ D]) hglr hm hNr ?_ ?_ b st2 { a1 with defers:=NJ D::a1.defers } w2 G2 (by rw [Û];exact hokb) hir (by simp [hd1]) hs1 hk
     . intro a2 w4 st4 G4 _ h2 h4 hk4
       exact fin2 a2 D w4 st4 G4 h2 (over a2 st4 w4 G4 h4) hk4
     . intro e a2 w4 hne hp
       cases e with
       |normal=>exact absurd rfl hne
       |ret =>
        obtain⟨_,h2,st4,G4,hk4,h4⟩:=hp
        exact fin2 a2 D w4 st4 G4 h2 (over a2 st4 w4 G4 h4) hk4
       |exit id=>obtain⟨_,_,st4,G4,hk4,_⟩:=hp;exact hk4.elim
       |panic c =>
        obtain⟨h2,st4,G4,hk4,hx4,hs4⟩:=hp
        exact finP a2 D w4 st4 G4 c h2 (hxr.trans hx4) hs4 (hur.ext hO.lt hx4) hO.ge ((hur.same hO.lt hx4).trans hO.is) hk4
       |goto l=>exact hp.elim
       |outgrown=>exact hp.elim
    have pass:∀ {x:AX} {st'},x≠.normal->KT P L σ.length (b.map TI.code++[.code .skip]) (CI P fn σ.length Q) x st'->CI P fn σ.length Q x st':=by
     intro x st' hx
     have key:∀ l:List Code,KT P L σ.length (l.map TI.code++[.code .skip]) (CI P fn σ.length Q) x st'->CI P fn σ.length Q x st':=by
      intro l
      induction l with
      |nil=>intro h;cases x<;>first|exact absurd rfl hx|exact h
      |cons c l ih=>intro h;cases x<;>first|exact absurd rfl hx|exact ih h
     exact key b
    refine (wpIn_wide (n:=0)).1 (wpIn_block ?_)
    refine U4 (N:=σ.length) (L:=L) hgl hm hN' ⟨hok1,hok2⟩ ⟨hnd1,hnd2⟩ htv hI1 hs1 hq ?_ ?_
    . intro D st2 w2 G2 hO hk
      exact after D st2 w2 G2 hO hk
    . intro D c x st2 w2 G2 hj hO hk
      cases c with
      |ret =>
       cases hj
       refine wpIn_ret ?_
       exact fin2 { a1 with defers:=NJ D::a1.defers } D w2 st2 G2 (by simp [hd1]) ⟨hO.inv,hO.unc,hO.lt,hO.ge,hO.is⟩ (pass (by simp) hk)
      |exit id =>
       cases hj
       refine wpIn_exit ?_
       have hk:(if id=t.bid then KT P L σ.length (b.map TI.code++[.code .skip]) (CI P fn σ.length Q) .normal st2 else KT P L σ.length (b.map TI.code++[.code .skip]) (CI P fn σ.length Q) (.exit id) st2):=hk
       show (if id=t.bid then _ else _)
       by_cases e:id=t.bid
       . rw [Ç e] at hk ⊢
         exact after D st2 w2 G2 hO hk
       . rw [Ä e] at hk
         exact (pass (by simp) hk).elim
      |_=>cases hj
  . intro e a1 w1 hne hp
    cases e with
    |normal=>exact absurd rfl hne
    |ret =>
     obtain⟨_,h2,st4,G4,hk4,h4⟩:=hp
     exact fin1 a1 w1 st4 G4 h2 h4 hk4
    |exit id=>obtain⟨_,_,st4,G4,hk4,_⟩:=hp;exact hk4.elim
    |panic c =>
     obtain⟨h2,st4,G4,hk4,hx4,hs4⟩:=hp
     show LeavesInM _ _ _ _ _ _ a1.defers _ _
     rw [h2]
     exact MX (p:=.undef) hx4 hs4 hN hk4 rfl (fun r e=>by cases e)
    |goto l=>exact hp.elim
    |outgrown=>exact hp.elim
 exact (callsIn_wide (n:=0)).1 hc
end
end Go.Vl
namespace Go.Sp
open Go Go.RowKit Go.Q Go.Vl
def Aa9 (fn:Func):List Code:=match Jt (flat (fn.body.getD .skip)) with|some r=>r.1|none=>[]
def tR (fn:Func):RgT:=match Jt (flat (fn.body.getD .skip)) with|some r=>r.2.1|none=>⟨0,.tmp 0,#[],.skip,.skip⟩
def bR (fn:Func):List Code:=match Jt (flat (fn.body.getD .skip)) with|some r=>r.2.2|none=>[]
def Aar:Code:=.cond (.const (.bool true)) .skip .skip
def Agp (fn:Func)(args:List PV)(σ:List (List PV)):List TI×St:=((Aa9 fn).map TI.code++[.code Aar],IQ args σ)
def Ahd (k:List TI):Bool:=match ML 99 k with
 | []=>true
 |_=>false
def isE (k:List TI):Bool:=match ML 99 k with
 | [.code (.cond (.const (.bool true)) .skip .skip)]=>true
 |_=>false
def Agb (k:List TI):Bool:=match ML 99 k with
 |.code .ret::_=>true
 |_=>false
section
variable {P:Program} {L:Cf} {N m:Nat} {Q:AX->St->Prop} {x:List TI×St} {fn:Func} {f:FuncId} {args:List PV} {R:PV}
theorem Xq:∀ (l:List Code) {x:AX} {st:St},KT P L N (l.map TI.code++[.code Aar]) Q x st->KT P L N (l.map TI.code++[.code .skip]) Q x st
 | [],x,st,h=>by
  cases x with
  |normal =>
   refine GK.bind (X:=fun s=>W P L N Aar (KT P L N [] Q) s) h fun s h=>?_
   have h:GK N s (W P L N .skip (KT P L N [] Q)):=h
   exact h
  |_=>exact h
 |c::l,x,st,h=>by
  cases x with
  |normal=>exact GK.mono h fun s h=>PC c (fun x st h=>Xq l h) s h
  |_=>exact Xq l h
theorem vR {σ:List (List PV)}{Q:Cl->List (List PV)->Prop}(L:Cf)(hf:P.funcs[f]?=some fn)(hm:P.follows .mixedOrders=true)(h:WX P L σ.length (Qp P L σ.length (tR fn) (bR fn) (CI P fn σ.length Q)) (Agp fn args σ))
 (hb:((Jt (flat (fn.body.getD .skip))).isSome&&(fn.body.isSome&&okR L fn.ntmps (Aa9 fn) (tR fn) (bR fn) args.length))=true:=by kernel_rfl):VC P f args σ Q:=by
 simp only [Å] at hb
 obtain⟨h1,h2,h3⟩:=hb
 refine VC.introR (c:=fn.body.getD .skip) (ags:=Aa9 fn) (t:=tR fn) (b:=bR fn) L hf ?_ hm ?_ h3 (Xq _ h.s)
 . cases e:fn.body with
   |none=>rw [e] at h2;cases h2
   |some c=>rfl
 . unfold Aa9 tR bR
   cases e:Jt (flat (fn.body.getD .skip)) with
   |none=>rw [e] at h1;cases h1
   |some r=>rfl
theorem vRP (L:Cf)(hf:P.funcs[f]?=some fn)(hm:P.follows .mixedOrders=true)(h:∀ Q:Cl->List (List PV)->Prop,(∀ y,shareP y=R->Q (.ret y) [])->WX P L 0 (Qp P L 0 (tR fn) (bR fn) (CI P fn 0 Q)) (Agp fn args []))
 (hb:((Jt (flat (fn.body.getD .skip))).isSome&&(fn.body.isSome&&okR L fn.ntmps (Aa9 fn) (tR fn) (bR fn) args.length))=true:=by kernel_rfl) (hp:(F5 args&&R.pure)=true:=by kernel_rfl):CA P f args R:=by
 rw [Å] at hp
 exact VC.fin (fun Q hQ=>vR L hf hm (h Q hQ) hb) hp.1 hp.2
theorem rtG {t:RgT}{b:List Code}{Q:Cl->List (List PV)->Prop}(n:Nat)(qs:List (Nat×Fa)){R:PV}{σ:List (List PV)}(hQ:∀ y,shareP y=R->Q (.ret y) σ)
 (he:(Ud P L n qs x,SZ (rtR P fn N (nx P L n qs x)))=(some (Fz qs),some (R,σ)):=by kernel_rfl):WX P L N (Qp P L N t b (CI P fn N Q)) x:=by
 obtain⟨e1,e2⟩:=Ó he
 refine VK ?_ e1
 generalize nx P L n qs x=z at e2
 obtain⟨k,st⟩:=z
 unfold rtR at e2
 refine⟨zp (n:=99) ?_⟩
 split at e2
 . rename_i k1 e
   simp only at e
   rw [e]
   refine IS ?_
   show CI P fn N Q .ret st
   cases e3:Te P fn N st with
   |none=>rw [e3] at e2;cases e2
   |some z =>
    obtain⟨p,σ1⟩:=z
    rw [e3] at e2
    obtain⟨rfl,rfl⟩:=Ó (Af e2)
    exact (J8 e3 (hQ p rfl)).1
 . cases e2
theorem Aas {k:List TI}{st:St}(h:isE k=true)(hq:Q .normal st):WS P L N k Q st:=by
 unfold isE at h
 refine zp (n:=99) ?_
 split at h
 . rename_i e
   rw [e]
   exact Gr rfl (Ye hq)
 . cases h
theorem rgE {env0:List (Nat×PV)}{J:List (List PV)->Prop}{KA:AX->St->Prop}(n:Nat)(qs:List (Nat×Fa)){σ1:List (List PV)}(h:J σ1)
 (he:(Ud P L n qs x,isE (nx P L n qs x).1,Ej m ((nx P L n qs x).2.σ.take m),(nx P L n qs x).2.σ.take m)=(some (Fz qs),true,true,σ1):=by kernel_rfl):WX P L m (VJ m env0 J KA) x:=by
 simp only [È] at he
 obtain⟨e1,e2,e3,e4⟩:=he
 exact VK ⟨Aas e2 (GK.rfl ⟨e3,by rw [e4];exact h⟩)⟩ e1
theorem rgT {env0:List (Nat×PV)}{J:List (List PV)->Prop}{t:RgT}{b:List Code}{Q:Cl->List (List PV)->Prop}(n:Nat)(qs:List (Nat×Fa)){R:PV}{σ:List (List PV)}(hQ:∀ y,shareP y=R->Q (.ret y) σ)
 (he:(Ud P L n qs x,Agb (nx P L n qs x).1,Ej m ((nx P L n qs x).2.σ.take m),SZ (Te P fn N ⟨env0,(nx P L n qs x).2.σ.take m⟩))=(some (Fz qs),true,true,some (R,σ)):=by kernel_rfl) :
 WX P L m (VJ m env0 J (KT P L N (.blk t.bid::(b.map TI.code++[.code .skip])) (CI P fn N Q))) x:=by
 simp only [È] at he
 obtain⟨e1,e2,e3,e4⟩:=he
 refine VK ⟨zp (n:=99) ?_⟩ e1
 unfold Agb at e2
 split at e2
 . rename_i k1 e
   rw [e]
   refine IS (GK.rfl ⟨e3,?_⟩)
   show KT P L N _ (CI P fn N Q) .ret _
   rw [R2]
   cases e5:Te P fn N ⟨env0,(nx P L n qs x).2.σ.take m⟩ with
   |none=>rw [e5] at e4;cases e4
   |some z =>
    obtain⟨p,σ1⟩:=z
    rw [e5] at e4
    obtain⟨rfl,rfl⟩:=Ó (Af e4)
    exact (J8 e5 (hQ p rfl)).1
 . cases e2
theorem Rnd.bind {X:List (List PV)->Prop}{st:St}(h:GK m st (Rnd m X)):Rnd m X st:=GK.bind h fun _ h=>h
theorem Xn {env0:List (Nat×PV)}{J:List (List PV)->Prop}{KA:AX->St->Prop}{a:Code}{st:St}(h:WS P L m [.code a,.code Aar] (VJ m env0 J KA) st):WS P L m [.code a] (VJ m env0 J KA) st:=by
 refine GK.mono h fun st2 h=>PC a (fun x st h=>?_) st2 h
 cases x with
 |normal =>
  refine Rnd.bind (GK.bind h fun s h=>?_)
  have h:GK m s (W P L m .skip (KT P L m [] (VJ m env0 J KA))):=h
  exact h
 |_=>exact h
def Afa (m:Nat)(env0:List (Nat×PV)):Bool:=env0.all fun x=>plain x.2&&x.2.fits m
theorem Ae9 {st:St}{env0:List (Nat×PV)}(h:env0.map (fun x=>(x.1,st.get x.1))=env0)(hb:Afa m env0=true):∀ t,Cs env0 t=.undef∨(Cs env0 t=st.get t/\plain (st.get t)=true/\(st.get t).fits m=true):=by
 intro t
 unfold Afa at hb
 induction env0 with
 |nil=>exact .inl rfl
 |cons y r ih =>
  obtain⟨k,v⟩:=y
  simp only [Þ,List.cons.injEq,È,õ] at h
  rw [Ď,Å,Å] at hb
  show (if k=t then v else Cs r t)=_∨(if k=t then v else Cs r t)=_/\_
  by_cases e:k=t
  . subst e
    rw [Ç rfl]
    refine .inr ⟨h.1.symm,?_⟩
    rw [h.1];exact hb.1
  . rw [Ä e];exact ih h.2 hb.2
theorem rgW {t:RgT}{b:List Code}{Qr:AX->St->Prop}{S Y:Type}(n:Nat)(qs:List (Nat×Fa))(m gf tv:Nat)(zs xs:List Int)(env0:List (Nat×PV))(g:List Int->S->Option Y)(C:S->List (List PV))(T:Int->S->St)(s0:S){y:Y}(hg:g xs s0=some y)(hne:zs≠[])(hit:Abn P gf zs xs)
 (hC:∀ s,(C s).length=m/\Ej m (C s)=true)
 (hT:∀ v s,(Ud P L 1 [] ([.code t.assign],⟨(tv,iP v)::env0,C s⟩),(nx P L 1 [] ([.code t.assign],⟨(tv,iP v)::env0,C s⟩)).1,(nx P L 1 [] ([.code t.assign],⟨(tv,iP v)::env0,C s⟩)).2.σ.length,low (keys (T v s)) m (nx P L 1 [] ([.code t.assign],⟨(tv,iP v)::env0,C s⟩)).2)=(some [],[],m,T v s))
 (he:(Ud P L n qs x,isE (nx P L n qs x).1,(nx P L n qs x).2.σ,Cu (nx P L n qs x).2 t.g,Jk P gf,t.ps,Nat.ble N m,env0.map (fun z=>(z.1,(nx P L n qs x).2.get z.1)),Afa m env0)=(some (Fz qs),true,C s0++[[.prv (zs.map Lv)]],.fn gf [.ptr m 0],true,#[tv],true,env0,true))
 (hr:∀ v rest s,g (v::rest) s=some y->∀ J:List (List PV)->Prop,(∀ s',g rest s'=some y->J (C s'))->WX P L m (VJ m env0 J (KT P L N (.blk t.bid::(b.map TI.code++[.code .skip])) Qr)) ([.code t.body,.code Aar],T v s))
 (hf:∀ s,g [] s=some y->WX P L N Qr ((.blk t.bid::(b.map TI.code++[.code .skip])),⟨env0,C s⟩)):WX P L N (Qp P L N t b Qr) x:=by
 simp only [È] at he
 obtain⟨e1,e2,e3,e4,e5,e6,e7,e8,e9⟩:=he
 refine VK ⟨Aas e2 ⟨m,gf,tv,C s0,env0,zs,xs,fun pre σ'=>∃ s rest,xs=pre++rest/\g rest s=some y/\σ'=C s,⟨e3,(hC s0).1,Ø e7,(hC s0).2,hne⟩,⟨e4,e5,e6,hit⟩,Ae9 e8 e9,⟨⟨s0,xs,rfl,hg,rfl⟩,?_⟩,?_,?_⟩⟩ e1
 . rintro pre σ' ⟨s,rest,_,_,rfl⟩;exact (hC s).1
 . rintro pre v σ' ⟨s,rest,hx,hgr,rfl⟩ hp
   have hp2:[v] <+: rest:=by rw [hx] at hp;exact (List.prefix_append_right_inj pre).1 hp
   obtain⟨rest',rfl⟩:=hp2
   have h3:=hT v s
   simp only [È] at h3
   obtain⟨k1,k2,k3,k4⟩:=h3
   have hb:=hr v rest' s hgr (fun σ'=>∃ s rest,xs=(pre++[v])++rest/\g rest s=some y/\σ'=C s) (fun s' hs'=>⟨s',rest',by rw [hx];simp,hs',rfl⟩)
   have hw:WX P L m (fun ax st2=>ax=.normal/\st2.σ.length=m/\WS P L m [.code t.body] (VJ m env0 (fun σ'=>∃ s rest,xs=(pre++[v])++rest/\g rest s=some y/\σ'=C s) (KT P L N (.blk t.bid::(b.map TI.code++[.code .skip])) Qr)) st2) ([.code t.assign],⟨(tv,iP v)::env0,C s⟩):=by
    refine VK (n:=1) (qs:=[]) ⟨?_⟩ k1
    rw [k2]
    exact⟨rfl,k3,Xn (KG _ _ rfl (à _) k4 hb.s)⟩
   exact hw.s
 . rintro σ' ⟨s,rest,hx,hgr,rfl⟩
   have:rest=[]:=by
    have:=congrArg List.length hx
    simp at this;exact this
   subst this
   exact (hf s hgr).s
end
def Ae5 {α:Type}(l:List α)(i:Int)(f:α->α):Option (List α):=(gi l i).bind fun x=>HI l i (f x)
section
variable {α:Type} (R:Rl α)
theorem stM {l l':List α}{m off:Nat}{i:Int}{f:α->α}{y:List Value}(h:Ae5 l i f=some l')(hy:off+y.length<=R.n)(hx:∀ x,(R.vals x).take off++y++(R.vals x).drop (off+y.length)=R.vals (f x)) :
 StA (DI (l.map R.vals) m) (0+i.toNat*R.n+off) y.length (y.map .lit) (DI (l'.map R.vals) m):=by
 obtain⟨x,h1,h2⟩:=Ae h
 exact stF R h1 h2 hy (hx x)
def fsM {l l':List α}(m off:Nat){i:Int}{f:α->α}(y:List Value)(h:Ae5 l i f=some l')(hy:off+y.length<=R.n)(hx:∀ x,(R.vals x).take off++y++(R.vals x).drop (off+y.length)=R.vals (f x)):Fa:=⟨.ast (DI (l'.map R.vals) m),_,stM R (m:=m) (off:=off) h hy hx⟩
end
def br2 (P:Program)(L:Cf)(k:List TI)(st:St):Option (List TI×(Bool->St)):=match ML 99 k with
 |.code (.region i ops false)::k'=>match DH L.pl i,ops.toList with
  |none,[o1,o2]=>match o1.guard,HX P o1 st,o2.op,o2.dst,o2.guard with
   |none,some (true,st1),.binOp .eql t x (.const (.slice none 0 0)) _,some d,none=>match Cu st1 x with
    |.sl [] _=>if ((HX P o2 st1).isNone&&Wd P t)=true then some (k',fun b=>clr L.L (st1.put (some d) (.lit (.bool b)))) else none
    |_=>none
   |_,_,_,_,_=>none
  |_,_=>none
 |_=>none
section
variable {P:Program} {L:Cf} {N:Nat} {Q:AX->St->Prop} {x:List TI×St}
theorem Aa0 {k k':List TI}{st:St}{f:Bool->St}(h:br2 P L k st=some (k',f))(hk:∀ b,WS P L N k' Q (f b)):WS P L N k Q st:=by
 unfold br2 at h
 refine zp (n:=99) ?_
 split at h
 . rename_i i ops k1 e
   rw [e]
   split at h
   . rename_i o1 o2 hpl hops
     split at h
     . rename_i st1 t y t2 d hg1 he1 hop hd hg2
       split at h
       . rename_i g hx
         split at h
         . rename_i hs
           simp only [Â,È] at h
           obtain⟨rfl,rfl⟩:=h
           refine Iq hpl fun K' hK hP=>?_
           rw [hops]
           unfold B5
           rw [show CD ops st o1=some true by unfold CD;rw [hg1]]
           simp only
           rw [he1]
           simp only
           refine⟨trivial,?_⟩
           unfold B5
           rw [show CD ops st1 o2=some true by unfold CD;rw [hg2]]
           simp only
           have hb:∀ b,B5 P ops K' [] (st1.put (some d) (.lit (.bool b))):=fun b=>hK _ _ rfl (hk b)
           rw [Å,Option.isNone_iff_eq_none] at hs
           rw [hs.1]
           simp only
           rw [show EU P o2 st1=none by unfold EU;rw [hop]]
           simp only
           rw [show Mz o2 st1=none by unfold Mz;rw [hop]]
           simp only
           unfold RN
           rw [hop,hd]
           simp only
           rw [hx]
           exact⟨hs.2,hb true,hb false⟩
         . cases h
       . cases h
     . cases h
   . cases h
 . cases h
def brT (P:Program)(L:Cf)(x:List TI×St)(b:Bool):List TI×St:=match br2 P L x.1 x.2 with
 |some (k,f)=>(k,f b)
 |none=>x
theorem brN (n:Nat)(qs:List (Nat×Fa))(h:∀ b,WX P L N Q (brT P L (nx P L n qs x) b))(he:(Ud P L n qs x,(br2 P L (nx P L n qs x).1 (nx P L n qs x).2).isSome)=(some (Fz qs),true):=by kernel_rfl):WX P L N Q x:=by
 simp only [È] at he
 obtain⟨e1,e2⟩:=he
 refine VK ⟨?_⟩ e1
 cases e:br2 P L (nx P L n qs x).1 (nx P L n qs x).2 with
 |none=>rw [e] at e2;cases e2
 |some z =>
  obtain⟨k',f⟩:=z
  refine Aa0 e fun b=>?_
  have:=(h b).s
  unfold brT at this
  rw [e] at this
  exact this
end
end Go.Sp
namespace Go.Proofs
open Go.Shelf
def Tryz.lays189_ren:Go.Shelf.Ren:=⟨fun|189=>52|125=>76|257=>75|128=>130|129=>131|294=>121|295=>122|296=>123|297=>124|298=>125|299=>126|216=>127|300=>128|301=>129|328=>149|329=>150|330=>151|331=>152|332=>153|215=>154|343=>165|n=>n,fun|28=>29|3=>3|46=>175|0=>0|51=>203|53=>205|4=>4|183=>197|182=>196|131=>129|5=>5|9=>9|218=>221|222=>225|228=>235|229=>236|n=>n,fun|n=>n⟩
theorem Tryz.lays189:Go.Proofs.Lays.n189 Tryz.prog Tryz.lays189_ren:={
 mixed:=by kernel_rfl
 f125:=Tryz.func76.trans (congrArg some (by kernel_rfl))
 f128:=Tryz.func130.trans (congrArg some (by kernel_rfl))
 f129:=Tryz.func131.trans (congrArg some (by kernel_rfl))
 f189:=Tryz.func52.trans (congrArg some (by kernel_rfl))
 f215:=Tryz.func154.trans (congrArg some (by kernel_rfl))
 f216:=Tryz.func127.trans (congrArg some (by kernel_rfl))
 f257:=Tryz.func75.trans (congrArg some (by kernel_rfl))
 f294:=Tryz.func121.trans (congrArg some (by kernel_rfl))
 f295:=Tryz.func122.trans (congrArg some (by kernel_rfl))
 f296:=Tryz.func123.trans (congrArg some (by kernel_rfl))
 f297:=Tryz.func124.trans (congrArg some (by kernel_rfl))
 f298:=Tryz.func125.trans (congrArg some (by kernel_rfl))
 f299:=Tryz.func126.trans (congrArg some (by kernel_rfl))
 f300:=Tryz.func128.trans (congrArg some (by kernel_rfl))
 f301:=Tryz.func129.trans (congrArg some (by kernel_rfl))
 f328:=Tryz.func149.trans (congrArg some (by kernel_rfl))
 f329:=Tryz.func150.trans (congrArg some (by kernel_rfl))
 f330:=Tryz.func151.trans (congrArg some (by kernel_rfl))
 f331:=Tryz.func152.trans (congrArg some (by kernel_rfl))
 f332:=Tryz.func153.trans (congrArg some (by kernel_rfl))
 f343:=Tryz.func165.trans (congrArg some (by kernel_rfl))
 t0:=Tryz.underlying0
 a0:=Tryz.isAgg0
 z0:=Tryz.sizeOf0
 v0:=Tryz.zeroValue0
 t3:=Tryz.underlying3
 a3:=Tryz.isAgg3
 z3:=Tryz.sizeOf3
 v3:=Tryz.zeroValue3
 t4:=Tryz.underlying4
 a4:=Tryz.isAgg4
 z4:=Tryz.sizeOf4
 v4:=Tryz.zeroValue4
 t5:=Tryz.underlying5
 a5:=Tryz.isAgg5
 z5:=Tryz.sizeOf5
 v5:=Tryz.zeroValue5
 t9:=Tryz.underlying9
 a9:=Tryz.isAgg9
 z9:=Tryz.sizeOf9
 v9:=Tryz.zeroValue9
 t28:=Tryz.underlying29
 a28:=Tryz.isAgg29
 z28:=Tryz.sizeOf29
 v28:=Tryz.zeroValue29
 t46:=Tryz.underlying175
 a46:=Tryz.isAgg175
 z46:=Tryz.sizeOf175
 v46:=Tryz.zeroValue175
 t51:=Tryz.underlying203
 a51:=Tryz.isAgg203
 z51:=Tryz.sizeOf203
 v51:=Tryz.zeroValue203
 t53:=Tryz.underlying205
 a53:=Tryz.isAgg205
 z53:=Tryz.sizeOf205
 v53:=Tryz.zeroValue205
 t131:=Tryz.underlying129
 a131:=Tryz.isAgg129
 z131:=Tryz.sizeOf129
 v131:=Tryz.zeroValue129
 t182:=Tryz.underlying196
 a182:=Tryz.isAgg196
 z182:=Tryz.sizeOf196
 v182:=Tryz.zeroValue196
 t183:=Tryz.underlying197
 a183:=Tryz.isAgg197
 z183:=Tryz.sizeOf197
 v183:=Tryz.zeroValue197
 t218:=Tryz.underlying221
 a218:=Tryz.isAgg221
 z218:=Tryz.sizeOf221
 v218:=Tryz.zeroValue221
 t222:=Tryz.underlying225
 a222:=Tryz.isAgg225
 z222:=Tryz.sizeOf225
 v222:=Tryz.zeroValue225
 t228:=Tryz.underlying235
 a228:=Tryz.isAgg235
 z228:=Tryz.sizeOf235
 v228:=Tryz.zeroValue235
 t229:=Tryz.underlying236
 a229:=Tryz.isAgg236
 z229:=Tryz.sizeOf236
 v229:=Tryz.zeroValue236 }
open Go.Sort Go.RowKit in
theorem Tryz.slices_Sort_int (blk off cap:Nat)(zs:List Int)(w:World)(hH:Holds (Value.int .i64) w blk off zs.toArray)(hblk:blk<w.heap.size)(hsz:zs.length<4611686018427387904) :
 Calls Tryz.prog 52 #[.slice (some ⟨blk,off,none⟩) zs.length cap] w fun e w' =>
  e=.returned (.tuple #[])/\∃ n os,w'=grow (putRow (Value.int .i64) (Sort.ahead w n) blk off (zs.mergeSort fun x y=>decide (x<=y)).toArray) os:=Any.slices_Sort_int Tryz.lays189 blk off cap zs w hH hblk hsz
def Tryz.laysNm220_ren:Go.Shelf.Ren:=⟨fun|20=>54|n=>n,fun|22=>29|3=>3|4=>4|0=>0|n=>n,fun|n=>n⟩
theorem Tryz.laysNm220:Go.Proofs.Lays2.n20 Tryz.prog Tryz.laysNm220_ren:={
 mixed:=by kernel_rfl
 f20:=Tryz.func54.trans (congrArg some (by kernel_rfl))
 t0:=Tryz.underlying0
 a0:=Tryz.isAgg0
 z0:=Tryz.sizeOf0
 v0:=Tryz.zeroValue0
 t3:=Tryz.underlying3
 a3:=Tryz.isAgg3
 z3:=Tryz.sizeOf3
 v3:=Tryz.zeroValue3
 t4:=Tryz.underlying4
 a4:=Tryz.isAgg4
 z4:=Tryz.sizeOf4
 v4:=Tryz.zeroValue4
 t22:=Tryz.underlying29
 a22:=Tryz.isAgg29
 z22:=Tryz.sizeOf29
 v22:=Tryz.zeroValue29
 i3:=by kernel_rfl }
open Go.RowKit Go.Lib Go.Sort in
theorem Tryz.slices_Compact_int (blk off cap:Nat)(zs:List Int)(w:World)(hH:Holds (Value.int .i64) w blk off zs.toArray)(hsz:zs.length<=9223372036854775807)(hcap:zs.length<=cap) :
 Calls Tryz.prog 54 #[.slice (some ⟨blk,off,none⟩) zs.length cap] w fun e w'=>e=.returned (.slice (some ⟨blk,off,none⟩) (Lib.compact zs).length cap)/\∃ q,w'=putRow (Value.int .i64) (Sort.ahead w q) blk off (Lib.compact zs++List.replicate (zs.length-(Lib.compact zs).length) 0).toArray:=Any.slices_Compact_int Tryz.laysNm220 blk off cap zs w hH hsz hcap
open Go.RowKit Go.Sort in
theorem Tryz.slices_Sort_int_none (p:Option Addr)(cap:Nat)(w:World) :
 Calls Tryz.prog 52 #[.slice p 0 cap] w fun e w'=>e=.returned (.tuple #[])/\w'=w:=Any.slices_Sort_int_none Tryz.lays189 p cap w
end Go.Proofs
namespace Go.Sp
open Go Go.RowKit Go.Proofs Go.Sort Go.Vl
theorem Aad (zs:List Int):(zs.map Lv).flatten.map PV.lit=zs.map fun z=>PV.lit (.int .i64 z):=by
 induction zs with
 |nil=>rfl
 |cons z zs ih=>simp only [Þ,List.flatten_cons,Ć,ih];rfl
theorem P9 (zs:List Int)(e:Nat):(DI (zs.map Lv) e).length=zs.length+e:=by
 unfold DI;rw [Aad];simp
theorem Yc (zs:List Int)(e i:Nat)(h:i<zs.length):(DI (zs.map Lv) e)[i]?=some (.lit (.int .i64 zs[i])):=by
 unfold DI
 rw [Aad,Ô (by simpa using h)]
 simp [h]
theorem PA (zs:List Int)(e:Nat):∀ p∈DI (zs.map Lv) e,p=.undef∨∃ v,p=.lit v:=by
 intro p hp
 unfold DI at hp
 rcases List.mem_append.1 hp with h|h
 . obtain⟨v,_,rfl⟩:=List.mem_map.1 h;exact .inr ⟨v,rfl⟩
 . exact .inl (List.mem_replicate.1 h).2
section
variable {w w':World} {G:Gh} {P:Program} {σ:List (List PV)}
theorem Za {k b e:Nat}{zs:List Int}(h:Az w G σ)(h1:G.φ[k]?=some b)(s1:σ[k]?=some (DI (zs.map Lv) e)) :
 ∃ T,∃ arr:Array Value,w.heap[b]?=some (.cells arr T (0,0))/\arr.size=zs.length+e/\(∀ i,i<arr.size->(arr.getD i Go.undef).oneCell'=true)/\∀ i (h:i<zs.length),arr[i]?=some (.int .i64 zs[i]):=by
 obtain⟨⟨o1,arr1,l1,⟨l2,l3⟩,l4⟩,_⟩:=h.blk k b _ h1 s1
 have c1:∃ T,o1=.cells arr1 T (0,0):=by
  rcases l2 with k2|⟨kvs,es,c,k2,_⟩|⟨kvs,seen,k2,_⟩
  . exact k2.1
  . exfalso
    have:=PA zs e (.mp kvs) (by rw [k2];simp)
    rcases this with h|⟨v,h⟩<;>cases h
  . exfalso
    have:=PA zs e (.mit kvs seen) (by rw [k2];simp)
    rcases this with h|⟨v,h⟩<;>cases h
 obtain⟨T,rfl⟩:=c1
 refine⟨T,arr1,l1,by rw [l3,P9],fun i hi=>?_,fun i hi=>?_⟩
 . obtain⟨u,u1,u2,_⟩:=l4 i _ (Ã (by rw [<- l3];exact hi))
   rw [É,u1];exact u2
 . obtain⟨u,u1,u2,u3,u4⟩:=l4 i _ (Yc zs e i hi)
   cases u3 with
   |lit=>exact u1
theorem OU (enc:Int->Value)(w:World)(b:Nat)(d:Array Int)(k:Nat)(hk:k≠b):(putRow enc w b 0 d).heap[k]?=w.heap[k]?:=by
 show (w.heap.modify b _)[k]?=_
 rw [Array.getElem?_modify,Ä (ě hk)]
theorem OS (enc:Int->Value)(w:World)(b:Nat)(d:Array Int){arr:Array Value}{T:TypeId}{f:Nat×Nat}(h:w.heap[b]?=some (.cells arr T f)):(putRow enc w b 0 d).heap[b]?=some (.cells (putCells enc 0 d arr) T f):=by
 show (w.heap.modify b _)[b]?=_
 rw [Array.getElem?_modify,Ç rfl,h];rfl
theorem Nu (zs:List Int)(arr:Array Value)(i:Nat):(putCells (Value.int .i64) 0 zs.toArray arr).getD i Go.undef=if h:i<zs.length/\i<arr.size then .int .i64 (zs[i]'h.1) else arr.getD i Go.undef:=by
 unfold putCells
 rw [É,Array.getElem?_mapIdx,É]
 by_cases h2:i<arr.size
 . rw [ã h2]
   by_cases h:i<zs.length
   . simp [h,h2]
   . simp [h]
 . rw [Array.getElem?_eq_none (by omega)]
   simp [h2]
theorem Mu (zs:List Int)(arr:Array Value):(putCells (Value.int .i64) 0 zs.toArray arr).size=arr.size:=by simp [putCells]
theorem VC.arrI {f:FuncId}{zs zs':List Int}{b cap e:Nat}(hl:zs'.length=zs.length)
 (hc:∀ (blk:Nat) (w:World),Holds (Value.int .i64) w blk 0 zs.toArray->blk<w.heap.size->Calls P f #[.slice (some ⟨blk,0,none⟩) zs.length cap] w fun e w'=>e=.returned (.tuple #[])/\∃ n os,w'=grow (putRow (Value.int .i64) (Sort.ahead w n) blk 0 zs'.toArray) os)
 (hσ:σ[b]?=some (DI (zs.map Lv) e)):J1 P f [.asl b 0 zs.length cap] σ (.ret (.tup [])) (σ.set b (DI (zs'.map Lv) e)):=by
 intro w G vs hs hvs hv hΩ hgl
 have h0:=hv 0 (by simp)
 have hvs1:vs.size=1:=hvs
 generalize hp:(PV.asl b 0 zs.length cap)=p at h0
 have hx:∃ blk,G.φ[b]?=some blk/\vs = #[.slice (some ⟨blk,0,none⟩) zs.length cap]:=by
  have e1:vs = #[vs.getD 0 Go.undef]:=by
   apply Array.ext
   . simpa using hvs1
   . intro i h1 h2
     have:i=0:=by simp at h2;exact h2
     subst this
     simp [Array.getD,h1]
  have h0':V w G.U G.φ p (vs.getD 0 Go.undef):=by rw [<- hp] at h0 ⊢;exact h0
  revert h0'
  generalize vs.getD 0 Go.undef=z at e1
  intro h0'
  cases h0' with
  |asl _ _ _ _ _ k hk hcc hm=>cases hp;exact⟨k,hk,e1⟩
  |_=>cases hp
 obtain⟨blk,hφ,rfl⟩:=hx
 obtain⟨T,arr,ha,hsz,hone,hget⟩:=Za hs hφ hσ
 have hlt:blk<w.heap.size:=hs.phi_lt (Ò hφ)
 have hH:Holds (Value.int .i64) w blk 0 zs.toArray:=by
  intro j hj
  have hj':j<zs.length:=by simpa using hj
  refine⟨?_,?_⟩
  . rw [ñ]
    have h:=hget j hj'
    simp [World.cell?,ha,h,hj']
  . simp [World.frozen?,ha]
 refine (hc blk w hH hlt).mono ?_
 rintro e2 w' ⟨rfl,n,os,rfl⟩
 have hI:Inv w G ⟨[],σ⟩ (fun _=>Go.undef) w G:=⟨Ext.refl _ _,hs,⟨fun t=>.undef _ _,fun t=>trivial⟩⟩
 have hI2:=hI.setBlock (w':=putRow (Value.int .i64) (Sort.ahead w n) blk 0 zs'.toArray) (cs':=DI (zs'.map Lv) e) (arr':=putCells (Value.int .i64) 0 zs'.toArray arr) hφ hσ ha
  (OS _ (Sort.ahead w n) blk _ ha) (fun p hp=>by rcases PA zs' e p hp with h|⟨v,h⟩<;>rw [h]<;>rfl) (fun i hi=>OU _ (Sort.ahead w n) blk _ i hi) rfl rfl rfl
  ⟨by rw [Mu,hsz,P9,hl],fun i hi=>?_⟩ ?_ (fun t xs j h=>by cases h)
 . have hx:∀ (w1 w2:World) (o:Array Obj),w2=grow w1 o->Below w1.heap.size w1 w2:=by
    rintro w1 w2 o rfl
    exact⟨rfl,rfl,rfl,by simp,fun k hk=>by show (w1.heap++o)[k]?=_;rw [ö hk]⟩
   have hB:=hx (putRow (Value.int .i64) (Sort.ahead w n) blk 0 zs'.toArray) _ os rfl
   refine⟨_,_,_,⟨rfl,rfl⟩,⟨_,rfl,.tup _ _ _ rfl (fun i hi=>by simp at hi),fun i xs hi=>by simp at hi⟩,hI2.store.below hB (fun b i hu=>.inl hu) (fun b i hu=>hu),hI2.ext.trans (Ext.ofBelow hI2.store hB (fun b i hu=>.inl hu) (fun b i hu=>hu))⟩
 . rw [P9,hl] at hi
   rw [Nu]
   split
   . rename_i h
     have e3:=Yc zs' e i h.1
     obtain⟨h4,h5⟩:=List.getElem?_eq_some_iff.1 e3
     rw [h5]
     exact⟨.lit _ _,rfl⟩
   . rename_i h
     have h6:¬ i<zs'.length:=fun h7=>h ⟨h7,by omega⟩
     refine⟨?_,hone i (by omega)⟩
     have:(DI (zs'.map Lv) e)[i]'(by rw [P9,hl];exact hi)=.undef:=by
      unfold DI
      simp only [Aad]
      rw [đ (by simpa using h6)]
      simp
     rw [this];exact .undef _ _
 . intro j c hj
   rcases PA zs' e c (Ò hj) with h|⟨v,h⟩<;>rw [h]<;>trivial
end
def WA (x:Int):List Int->List Int
 | []=>[x]
 |y::r=>bif decide (x<=y) then x::y::r else y::WA x r
def Cv:List Int->List Int
 | []=>[]
 |x::r=>WA x (Cv r)
theorem O2 (x:Int):∀ l,(WA x l).Perm (x::l)
 | []=>.refl _
 |y::r=>by
  unfold WA
  by_cases h:x<=y
  . rw [Ì h];exact .refl _
  . rw [Ë h];exact ((O2 x r).cons y).trans (.swap _ _ _)
theorem BO:∀ l,(Cv l).Perm l
 | []=>.refl _
 |x::r=>(O2 x _).trans ((BO r).cons x)
theorem Pd (x:Int):∀ l,l.Pairwise (·<=·)->(WA x l).Pairwise (·<=·)
 | [],_=>by simp [WA]
 |y::r,h=>by
  have hr:=List.pairwise_cons.1 h
  unfold WA
  by_cases hx:x<=y
  . rw [Ì hx]
    exact List.pairwise_cons.2 ⟨fun z hz=>by
     rcases List.mem_cons.1 hz with rfl|hz
     . exact hx
     . exact Int.le_trans hx (hr.1 z hz),h⟩
  . rw [Ë hx]
    refine List.pairwise_cons.2 ⟨fun z hz=>?_,Pd x r hr.2⟩
    rcases List.mem_cons.1 ((O2 x r).mem_iff.1 hz) with rfl|hz
    . omega
    . exact hr.1 z hz
theorem En:∀ l,(Cv l).Pairwise (·<=·)
 | []=>.nil
 |x::r=>Pd x _ (En r)
theorem YB (l:List Int):(l.mergeSort fun x y=>decide (x<=y))=Cv l:=by
 refine List.Perm.eq_of_pairwise (le:=fun x y:Int=>x<=y) (fun a b _ _ h1 h2=>Int.le_antisymm h1 h2) ?_ (En l) ((List.mergeSort_perm _ _).trans (BO l).symm)
 have:=List.pairwise_mergeSort (le:=fun x y:Int=>decide (x<=y)) (fun a b c h1 h2=>by simp at h1 h2 ⊢;omega) (fun a b=>by simp;omega) l
 exact this.imp (fun h=>by simpa using h)
def OE:List Int->List Int
 | []=>[]
 | [x]=>[x]
 |x::y::r=>bif decide (x=y) then OE (y::r) else x::OE (y::r)
theorem Rc:∀ (l:List Int) (y x:Int),OE (l++[y,x])=OE (l++[y])++(if y=x then [] else [x])
 | [],y,x=>by
  show OE [y,x]=OE [y]++_
  by_cases h:y=x
  . subst h;simp [OE]
  . simp [OE,h]
 | [z],y,x=>by
  show OE (z::y::[x])=OE [z,y]++_
  have ih:=Rc [] y x
  have ih:OE (y::[x])=OE [y]++(if y=x then [] else [x]):=ih
  rw [OE,ih]
  by_cases h:z=y
  . subst h;simp [OE]
  . simp [OE,h]
 |z::z2::l,y,x=>by
  have ih:=Rc (z2::l) y x
  simp only [List.cons_append] at ih ⊢
  rw [OE,OE,ih]
  by_cases h:z=z2
  . subst h;simp
  . simp [h]
theorem Jj (d e:Array Int):∀ m,(∀ j,j<m->d[j]! = e[j]!)->Lib.compactUpTo d m=Lib.compactUpTo e m
 |0,_=>rfl
 |m+1,h=>by
  rw [Lib.compactUpTo_succ,Lib.compactUpTo_succ,Jj d e m (fun j hj=>h j (by omega)),h m (by omega)]
  have:Lib.keeps d m=Lib.keeps e m:=by
   unfold Lib.keeps
   rw [h m (by omega)]
   by_cases hm:m=0
   . simp [hm]
   . rw [h (m-1) (by omega)]
  rw [this]
theorem Xb (l:List Int):Lib.compact l=OE l:=by
 have key:∀ r:List Int,Lib.compact r.reverse=OE r.reverse:=by
  intro r
  induction r with
  |nil=>rfl
  |cons x r ih =>
   cases r with
   |nil=>simp [Lib.compact,Lib.compactUpTo,OE,Lib.keeps,List.range_succ]
   |cons y r =>
    rw [List.reverse_cons,List.reverse_cons,î]
    show Lib.compact (r.reverse++[y,x])=OE (r.reverse++[y,x])
    rw [Rc]
    rw [List.reverse_cons] at ih
    rw [<- ih]
    unfold Lib.compact
    have hl:(r.reverse++[y,x]).length=(r.reverse++[y]).length+1:=by simp
    rw [hl,Lib.compactUpTo_succ]
    rw [Jj (r.reverse++[y,x]).toArray (r.reverse++[y]).toArray _ (fun j hj=>?_)]
    . congr 1
      have h1:(r.reverse++[y,x]).toArray[(r.reverse++[y]).length]! = x:=by simp
      have h2:(r.reverse++[y,x]).toArray[(r.reverse++[y]).length-1]! = y:=by simp
      unfold Lib.keeps
      rw [h1,h2]
      by_cases h:y=x
      . subst h;simp
      . have:¬ x=y:=fun e=>h e.symm
        simp [h,this]
    . simp only [Õ,List.length_reverse,ß,í] at hj
      simp only [List.getElem!_toArray,List.getElem!_eq_getElem?_getD]
      by_cases hj2:j<r.length
      . rw [Ô (by simpa using hj2),Ô (by simpa using hj2)]
      . have:j=r.length:=by omega
        subst this
        rw [â (by simp),â (by simp)]
        simp
 have:=key l.reverse
 rwa [List.reverse_reverse] at this
def Dj (zs:List Int):List Int:=(OE zs).filter fun x=>decide (x<=41666)
def Pe (zs:List Int):Option (List Int):=if zs.length<4611686018427387904 then some (Cv zs) else none
theorem Zj {zs r:List Int}{σ:List (List PV)}{b cap e:Nat}(h:Pe zs=some r)(hσ:σ[b]?=some (DI (zs.map Lv) e)):J1 Tryz.prog 52 [.asl b 0 zs.length cap] σ (.ret (.tup [])) (σ.set b (DI (r.map Lv) e)):=by
 unfold Pe at h
 split at h
 . rename_i hl
   cases h
   exact VC.arrI (BO zs).length_eq (fun blk w hH hlt=>by rw [<- YB];exact Tryz.slices_Sort_int blk 0 cap zs w hH hlt hl) hσ
 . cases h
end Go.Sp
namespace Go.Sp
open Go Go.Vl
set_option linter.unusedVariables false
structure Ac where
 from_:Int
 to_:Int
 clause:Int
def CN (x:Ac):List PV:=[iP x.from_,iP x.to_,iP x.clause]
theorem Ol (x:Ac):CN x=[iP x.from_,iP x.to_,iP x.clause]:=rfl
theorem Ns (x:Ac):(CN x).length=3:=rfl
def BI:Rw Ac:=⟨CN,_,3,Ol,Ns⟩
structure Bd where
 State:Int
 Houses:Int
 By:(List Int)
structure Ba where
 From:Int
 To:Int
 State:Int
 Houses:Int
def DX (x:Ba):List PV:=[iP x.From,iP x.To,iP x.State,iP x.Houses]
theorem MG (x:Ba):DX x=[iP x.From,iP x.To,iP x.State,iP x.Houses]:=rfl
theorem Mp (x:Ba):(DX x).length=4:=rfl
def CT:Rw Ba:=⟨DX,_,4,MG,Mp⟩
def Ai:Rl Ac:=⟨fun x=>[(.int .i64 x.from_),(.int .i64 x.to_),(.int .i64 x.clause)],3,fun _=>rfl⟩
def Fy:Rl Int:=⟨fun x=>[(.int .i64 x)],1,fun _=>rfl⟩
def Bk:Rl Ba:=⟨fun x=>[(.int .i64 x.From),(.int .i64 x.To),(.int .i64 x.State),(.int .i64 x.Houses)],4,fun _=>rfl⟩
def Cc (cv1:(List Aa))(a_:Ac)(b:Ac):Option Int :=
 (gi cv1 b.clause).bind fun x =>
 (gi cv1 a_.clause).bind fun x1 =>
 some (À (x.Rank-x1.Rank))
def Av:Nat->Int->Nat->(List Aa)->Int->(List Ac)->Option (List Ac)
 |0,_,_,_,_,_=>none
 |n+1,a_,n_,cv1,j,data4 =>
  ((bif (decide (a_<j)) then
   (gx n_ j).bind fun _ =>
   (gi data4 j).bind fun x2 =>
   (gx n_ (À (j-1))).bind fun _ =>
   (gi data4 (À (j-1))).bind fun x3 =>
   (Cc cv1 x2 x3).bind fun s =>
   some (decide (s<0))
  else
   some false
  ):Option Bool).bind fun v34 =>
   bif v34 then
    (gx n_ (À (j-1))).bind fun _ =>
    (gi data4 (À (j-1))).bind fun x =>
    (gx n_ j).bind fun _ =>
    (gi data4 j).bind fun x1 =>
    (HI data4 j x).bind fun data5 =>
    (HI data5 (À (j-1)) x1).bind fun data6 =>
    Av n a_ n_ cv1 (À (j-1)) data6
   else
    some data4
theorem BG (n:Nat)(a_:Int)(n_:Nat)(cv1:(List Aa))(j:Int)(data4:(List Ac)):Av (n+1) a_ n_ cv1 j data4 =
 ((bif (decide (a_<j)) then
  (gx n_ j).bind fun _ =>
  (gi data4 j).bind fun x2 =>
  (gx n_ (À (j-1))).bind fun _ =>
  (gi data4 (À (j-1))).bind fun x3 =>
  (Cc cv1 x2 x3).bind fun s =>
  some (decide (s<0))
 else
  some false
 ):Option Bool).bind fun v34 =>
  bif v34 then
   (gx n_ (À (j-1))).bind fun _ =>
   (gi data4 (À (j-1))).bind fun x =>
   (gx n_ j).bind fun _ =>
   (gi data4 j).bind fun x1 =>
   (HI data4 j x).bind fun data5 =>
   (HI data5 (À (j-1)) x1).bind fun data6 =>
   Av n a_ n_ cv1 (À (j-1)) data6
  else
   some data4:=by rw [Av]
def A8:Nat->Int->Int->Nat->(List Aa)->Int->(List Ac)->Option (List Ac)
 |0,_,_,_,_,_,_=>none
 |n+1,b,a_,n_,cv1,i,data2 =>
  bif (decide (i<b)) then
   ((Av n a_ n_ cv1 i data2
   ):Option (List Ac)).bind fun data3 =>
    A8 n b a_ n_ cv1 (À (i+1)) data3
  else
   some data2
theorem C6 (n:Nat)(b:Int)(a_:Int)(n_:Nat)(cv1:(List Aa))(i:Int)(data2:(List Ac)):A8 (n+1) b a_ n_ cv1 i data2 =
 bif (decide (i<b)) then
  ((Av n a_ n_ cv1 i data2
  ):Option (List Ac)).bind fun data3 =>
   A8 n b a_ n_ cv1 (À (i+1)) data3
 else
  some data2:=by rw [A8]
def A6 (n:Nat)(cv1:(List Aa))(n_:Nat)(data:(List Ac))(a_:Int)(b:Int):Option (List Ac) :=
 ((A8 n b a_ n_ cv1 (À (a_+1)) data
 ):Option (List Ac)).bind fun data1 =>
  some data1
def AG:Nat->Int->Nat->Int->Int->Int->(List Ac)->Option (List Ac)
 |0,_,_,_,_,_,_=>none
 |n+1,n_1,n_,b,a_,i,data2 =>
  bif (decide (i<n_1)) then
   (gx n_ (À (b+i))).bind fun _ =>
   (gi data2 (À (b+i))).bind fun x =>
   (gx n_ (À (a_+i))).bind fun _ =>
   (gi data2 (À (a_+i))).bind fun x1 =>
   (HI data2 (À (a_+i)) x).bind fun data3 =>
   (HI data3 (À (b+i)) x1).bind fun data4 =>
   AG n n_1 n_ b a_ (À (i+1)) data4
  else
   some data2
theorem CQ (n:Nat)(n_1:Int)(n_:Nat)(b:Int)(a_:Int)(i:Int)(data2:(List Ac)):AG (n+1) n_1 n_ b a_ i data2 =
 bif (decide (i<n_1)) then
  (gx n_ (À (b+i))).bind fun _ =>
  (gi data2 (À (b+i))).bind fun x =>
  (gx n_ (À (a_+i))).bind fun _ =>
  (gi data2 (À (a_+i))).bind fun x1 =>
  (HI data2 (À (a_+i)) x).bind fun data3 =>
  (HI data3 (À (b+i)) x1).bind fun data4 =>
  AG n n_1 n_ b a_ (À (i+1)) data4
 else
  some data2:=by rw [AG]
def AR (n:Nat)(cv1:(List Aa))(n_:Nat)(data:(List Ac))(a_:Int)(b:Int)(n_1:Int):Option (List Ac) :=
 ((AG n n_1 n_ b a_ 0 data
 ):Option (List Ac)).bind fun data1 =>
  some data1
def A1:Nat->(List Aa)->Nat->Int->Int->Int->(List Ac)->Option (Int×(List Ac))
 |0,_,_,_,_,_,_=>none
 |n+1,cv1,n_,m_1,i1,j,data3 =>
  bif (i1 != j) then
   bif (decide (j<i1)) then
    (AR n cv1 n_ data3 (À (m_1-i1)) m_1 j).bind fun data4 =>
    A1 n cv1 n_ m_1 (À (i1-j)) j data4
   else
    (AR n cv1 n_ data3 (À (m_1-i1)) (À ((À (m_1+j))-i1)) i1).bind fun data5 =>
    A1 n cv1 n_ m_1 i1 (À (j-i1)) data5
  else
   some (i1,data3)
theorem Cm (n:Nat)(cv1:(List Aa))(n_:Nat)(m_1:Int)(i1:Int)(j:Int)(data3:(List Ac)):A1 (n+1) cv1 n_ m_1 i1 j data3 =
 bif (i1 != j) then
  bif (decide (j<i1)) then
   (AR n cv1 n_ data3 (À (m_1-i1)) m_1 j).bind fun data4 =>
   A1 n cv1 n_ m_1 (À (i1-j)) j data4
  else
   (AR n cv1 n_ data3 (À (m_1-i1)) (À ((À (m_1+j))-i1)) i1).bind fun data5 =>
   A1 n cv1 n_ m_1 i1 (À (j-i1)) data5
 else
  some (i1,data3):=by rw [A1]
def Bn (n:Nat)(cv1:(List Aa))(n_:Nat)(data:(List Ac))(a_:Int)(m_1:Int)(b:Int):Option (List Ac) :=
 ((A1 n cv1 n_ m_1 (À (m_1-a_)) (À (b-m_1)) data
 ):Option (Int×(List Ac))).bind fun y=>match y with
 |(i,data1) =>
  (AR n cv1 n_ data1 (À (m_1-i)) m_1 i).bind fun data2 =>
  some data2
mutual
def AE:Nat->Int->Nat->Int->(List Ac)->Option (List Ac)
 |0,_,_,_,_=>none
 |n+1,i,n_,k,data2 =>
  bif (decide (k<(À (i-1)))) then
   (gx n_ (À (k+1))).bind fun _ =>
   (gi data2 (À (k+1))).bind fun x =>
   (gx n_ k).bind fun _ =>
   (gi data2 k).bind fun x1 =>
   (HI data2 k x).bind fun data3 =>
   (HI data3 (À (k+1)) x1).bind fun data4 =>
   AE n i n_ (À (k+1)) data4
  else
   some data2
def Au:Nat->Nat->(List Ac)->Int->(List Aa)->Int->Int->Option Int
 |0,_,_,_,_,_,_=>none
 |n+1,n_,data,a_,cv1,i1,j =>
  bif (decide (i1<j)) then
   (gx n_ (À ((IntKind.u64.wrap (À (i1+j))).fdiv (2 ^ min (1:Int).toNat IntKind.u64.bits)))).bind fun _ =>
   (gi data (À ((IntKind.u64.wrap (À (i1+j))).fdiv (2 ^ min (1:Int).toNat IntKind.u64.bits)))).bind fun x2 =>
   (gx n_ a_).bind fun _ =>
   (gi data a_).bind fun x3 =>
   (Cc cv1 x2 x3).bind fun s =>
   bif (decide (s<0)) then
    Au n n_ data a_ cv1 (À ((À ((IntKind.u64.wrap (À (i1+j))).fdiv (2 ^ min (1:Int).toNat IntKind.u64.bits)))+1)) j
   else
    Au n n_ data a_ cv1 i1 (À ((IntKind.u64.wrap (À (i1+j))).fdiv (2 ^ min (1:Int).toNat IntKind.u64.bits)))
  else
   some i1
def AD:Nat->Int->Nat->Int->(List Ac)->Option (List Ac)
 |0,_,_,_,_=>none
 |n+1,i2,n_,k1,data6 =>
  bif (decide (i2<k1)) then
   (gx n_ (À (k1-1))).bind fun _ =>
   (gi data6 (À (k1-1))).bind fun x4 =>
   (gx n_ k1).bind fun _ =>
   (gi data6 k1).bind fun x5 =>
   (HI data6 k1 x4).bind fun data7 =>
   (HI data7 (À (k1-1)) x5).bind fun data8 =>
   AD n i2 n_ (À (k1-1)) data8
  else
   some data6
def As:Nat->Nat->Int->(List Ac)->(List Aa)->Int->Int->Option Int
 |0,_,_,_,_,_,_=>none
 |n+1,n_,m_1,data,cv1,i3,j1 =>
  bif (decide (i3<j1)) then
   (gx n_ m_1).bind fun _ =>
   (gi data m_1).bind fun x6 =>
   (gx n_ (À ((IntKind.u64.wrap (À (i3+j1))).fdiv (2 ^ min (1:Int).toNat IntKind.u64.bits)))).bind fun _ =>
   (gi data (À ((IntKind.u64.wrap (À (i3+j1))).fdiv (2 ^ min (1:Int).toNat IntKind.u64.bits)))).bind fun x7 =>
   (Cc cv1 x6 x7).bind fun s1 =>
   bif (!(decide (s1<0))) then
    As n n_ m_1 data cv1 (À ((À ((IntKind.u64.wrap (À (i3+j1))).fdiv (2 ^ min (1:Int).toNat IntKind.u64.bits)))+1)) j1
   else
    As n n_ m_1 data cv1 i3 (À ((IntKind.u64.wrap (À (i3+j1))).fdiv (2 ^ min (1:Int).toNat IntKind.u64.bits)))
  else
   some i3
def Aq:Nat->Nat->Int->Int->Int->(List Ac)->(List Aa)->Int->Int->Option Int
 |0,_,_,_,_,_,_,_,_=>none
 |n+1,n_,a_,b,m_1,data,cv1,start2,r_1 =>
  bif (decide (start2<r_1)) then
   (gx n_ (À ((À ((À ((À ((IntKind.u64.wrap (À (a_+b))).fdiv (2 ^ min (1:Int).toNat IntKind.u64.bits)))+m_1))-1))-(À ((IntKind.u64.wrap (À (start2+r_1))).fdiv (2 ^ min (1:Int).toNat IntKind.u64.bits)))))).bind fun _ =>
   (gi data (À ((À ((À ((À ((IntKind.u64.wrap (À (a_+b))).fdiv (2 ^ min (1:Int).toNat IntKind.u64.bits)))+m_1))-1))-(À ((IntKind.u64.wrap (À (start2+r_1))).fdiv (2 ^ min (1:Int).toNat IntKind.u64.bits)))))).bind fun x8 =>
   (gx n_ (À ((IntKind.u64.wrap (À (start2+r_1))).fdiv (2 ^ min (1:Int).toNat IntKind.u64.bits)))).bind fun _ =>
   (gi data (À ((IntKind.u64.wrap (À (start2+r_1))).fdiv (2 ^ min (1:Int).toNat IntKind.u64.bits)))).bind fun x9 =>
   (Cc cv1 x8 x9).bind fun s2 =>
   bif (!(decide (s2<0))) then
    Aq n n_ a_ b m_1 data cv1 (À ((À ((IntKind.u64.wrap (À (start2+r_1))).fdiv (2 ^ min (1:Int).toNat IntKind.u64.bits)))+1)) r_1
   else
    Aq n n_ a_ b m_1 data cv1 start2 (À ((IntKind.u64.wrap (À (start2+r_1))).fdiv (2 ^ min (1:Int).toNat IntKind.u64.bits)))
  else
   some start2
def Al:Nat->(List Aa)->Nat->(List Ac)->Int->Int->Int->Option (List Ac)
 |0,_,_,_,_,_,_=>none
 |n+1,cv1,n_,data,a_,m_1,b =>
  bif ((À (m_1-a_)) == 1) then
   ((Au n n_ data a_ cv1 m_1 b
   ):Option Int).bind fun i =>
    ((AE n i n_ a_ data
    ):Option (List Ac)).bind fun data1 =>
     some data1
  else
   bif ((À (b-m_1)) == 1) then
    ((As n n_ m_1 data cv1 a_ m_1
    ):Option Int).bind fun i2 =>
     ((AD n i2 n_ m_1 data
     ):Option (List Ac)).bind fun data5 =>
      some data5
   else
    ((bif (decide ((À ((IntKind.u64.wrap (À (a_+b))).fdiv (2 ^ min (1:Int).toNat IntKind.u64.bits)))<m_1)) then
     some ((À ((À ((À ((IntKind.u64.wrap (À (a_+b))).fdiv (2 ^ min (1:Int).toNat IntKind.u64.bits)))+m_1))-b)),(À ((IntKind.u64.wrap (À (a_+b))).fdiv (2 ^ min (1:Int).toNat IntKind.u64.bits))))
    else
     some (a_,m_1)
    ):Option (Int×Int)).bind fun y4=>match y4 with
    |(start,r_) =>
     ((Aq n n_ a_ b m_1 data cv1 start r_
     ):Option Int).bind fun start1 =>
      ((bif (decide (start1<m_1)) then
       some (decide (m_1<(À ((À ((À ((IntKind.u64.wrap (À (a_+b))).fdiv (2 ^ min (1:Int).toNat IntKind.u64.bits)))+m_1))-start1))))
      else
       some false
      ):Option Bool).bind fun v185 =>
       ((bif v185 then
        (Bn n cv1 n_ data start1 m_1 (À ((À ((À ((IntKind.u64.wrap (À (a_+b))).fdiv (2 ^ min (1:Int).toNat IntKind.u64.bits)))+m_1))-start1))).bind fun data13 =>
        some data13
       else
        some data
       ):Option (List Ac)).bind fun data9 =>
        ((bif (decide (a_<start1)) then
         some (decide (start1<(À ((IntKind.u64.wrap (À (a_+b))).fdiv (2 ^ min (1:Int).toNat IntKind.u64.bits)))))
        else
         some false
        ):Option Bool).bind fun v199 =>
         ((bif v199 then
          (Al n cv1 n_ data9 a_ start1 (À ((IntKind.u64.wrap (À (a_+b))).fdiv (2 ^ min (1:Int).toNat IntKind.u64.bits)))).bind fun data12 =>
          some data12
         else
          some data9
         ):Option (List Ac)).bind fun data10 =>
          ((bif (decide ((À ((IntKind.u64.wrap (À (a_+b))).fdiv (2 ^ min (1:Int).toNat IntKind.u64.bits)))<(À ((À ((À ((IntKind.u64.wrap (À (a_+b))).fdiv (2 ^ min (1:Int).toNat IntKind.u64.bits)))+m_1))-start1)))) then
           some (decide ((À ((À ((À ((IntKind.u64.wrap (À (a_+b))).fdiv (2 ^ min (1:Int).toNat IntKind.u64.bits)))+m_1))-start1))<b))
          else
           some false
          ):Option Bool).bind fun v213 =>
           bif v213 then
            (Al n cv1 n_ data10 (À ((IntKind.u64.wrap (À (a_+b))).fdiv (2 ^ min (1:Int).toNat IntKind.u64.bits))) (À ((À ((À ((IntKind.u64.wrap (À (a_+b))).fdiv (2 ^ min (1:Int).toNat IntKind.u64.bits)))+m_1))-start1)) b).bind fun data11 =>
            some data11
           else
            some data10
end
theorem Dd (n:Nat)(i:Int)(n_:Nat)(k:Int)(data2:(List Ac)):AE (n+1) i n_ k data2 =
 bif (decide (k<(À (i-1)))) then
  (gx n_ (À (k+1))).bind fun _ =>
  (gi data2 (À (k+1))).bind fun x =>
  (gx n_ k).bind fun _ =>
  (gi data2 k).bind fun x1 =>
  (HI data2 k x).bind fun data3 =>
  (HI data3 (À (k+1)) x1).bind fun data4 =>
  AE n i n_ (À (k+1)) data4
 else
  some data2:=by rw [AE]
theorem Dc (n:Nat)(n_:Nat)(data:(List Ac))(a_:Int)(cv1:(List Aa))(i1:Int)(j:Int):Au (n+1) n_ data a_ cv1 i1 j =
 bif (decide (i1<j)) then
  (gx n_ (À ((IntKind.u64.wrap (À (i1+j))).fdiv (2 ^ min (1:Int).toNat IntKind.u64.bits)))).bind fun _ =>
  (gi data (À ((IntKind.u64.wrap (À (i1+j))).fdiv (2 ^ min (1:Int).toNat IntKind.u64.bits)))).bind fun x2 =>
  (gx n_ a_).bind fun _ =>
  (gi data a_).bind fun x3 =>
  (Cc cv1 x2 x3).bind fun s =>
  bif (decide (s<0)) then
   Au n n_ data a_ cv1 (À ((À ((IntKind.u64.wrap (À (i1+j))).fdiv (2 ^ min (1:Int).toNat IntKind.u64.bits)))+1)) j
  else
   Au n n_ data a_ cv1 i1 (À ((IntKind.u64.wrap (À (i1+j))).fdiv (2 ^ min (1:Int).toNat IntKind.u64.bits)))
 else
  some i1:=by rw [Au]
theorem Db (n:Nat)(i2:Int)(n_:Nat)(k1:Int)(data6:(List Ac)):AD (n+1) i2 n_ k1 data6 =
 bif (decide (i2<k1)) then
  (gx n_ (À (k1-1))).bind fun _ =>
  (gi data6 (À (k1-1))).bind fun x4 =>
  (gx n_ k1).bind fun _ =>
  (gi data6 k1).bind fun x5 =>
  (HI data6 k1 x4).bind fun data7 =>
  (HI data7 (À (k1-1)) x5).bind fun data8 =>
  AD n i2 n_ (À (k1-1)) data8
 else
  some data6:=by rw [AD]
theorem Da (n:Nat)(n_:Nat)(m_1:Int)(data:(List Ac))(cv1:(List Aa))(i3:Int)(j1:Int):As (n+1) n_ m_1 data cv1 i3 j1 =
 bif (decide (i3<j1)) then
  (gx n_ m_1).bind fun _ =>
  (gi data m_1).bind fun x6 =>
  (gx n_ (À ((IntKind.u64.wrap (À (i3+j1))).fdiv (2 ^ min (1:Int).toNat IntKind.u64.bits)))).bind fun _ =>
  (gi data (À ((IntKind.u64.wrap (À (i3+j1))).fdiv (2 ^ min (1:Int).toNat IntKind.u64.bits)))).bind fun x7 =>
  (Cc cv1 x6 x7).bind fun s1 =>
  bif (!(decide (s1<0))) then
   As n n_ m_1 data cv1 (À ((À ((IntKind.u64.wrap (À (i3+j1))).fdiv (2 ^ min (1:Int).toNat IntKind.u64.bits)))+1)) j1
  else
   As n n_ m_1 data cv1 i3 (À ((IntKind.u64.wrap (À (i3+j1))).fdiv (2 ^ min (1:Int).toNat IntKind.u64.bits)))
 else
  some i3:=by rw [As]
theorem CZ (n:Nat)(n_:Nat)(a_:Int)(b:Int)(m_1:Int)(data:(List Ac))(cv1:(List Aa))(start2:Int)(r_1:Int):Aq (n+1) n_ a_ b m_1 data cv1 start2 r_1 =
 bif (decide (start2<r_1)) then
  (gx n_ (À ((À ((À ((À ((IntKind.u64.wrap (À (a_+b))).fdiv (2 ^ min (1:Int).toNat IntKind.u64.bits)))+m_1))-1))-(À ((IntKind.u64.wrap (À (start2+r_1))).fdiv (2 ^ min (1:Int).toNat IntKind.u64.bits)))))).bind fun _ =>
  (gi data (À ((À ((À ((À ((IntKind.u64.wrap (À (a_+b))).fdiv (2 ^ min (1:Int).toNat IntKind.u64.bits)))+m_1))-1))-(À ((IntKind.u64.wrap (À (start2+r_1))).fdiv (2 ^ min (1:Int).toNat IntKind.u64.bits)))))).bind fun x8 =>
  (gx n_ (À ((IntKind.u64.wrap (À (start2+r_1))).fdiv (2 ^ min (1:Int).toNat IntKind.u64.bits)))).bind fun _ =>
  (gi data (À ((IntKind.u64.wrap (À (start2+r_1))).fdiv (2 ^ min (1:Int).toNat IntKind.u64.bits)))).bind fun x9 =>
  (Cc cv1 x8 x9).bind fun s2 =>
  bif (!(decide (s2<0))) then
   Aq n n_ a_ b m_1 data cv1 (À ((À ((IntKind.u64.wrap (À (start2+r_1))).fdiv (2 ^ min (1:Int).toNat IntKind.u64.bits)))+1)) r_1
  else
   Aq n n_ a_ b m_1 data cv1 start2 (À ((IntKind.u64.wrap (À (start2+r_1))).fdiv (2 ^ min (1:Int).toNat IntKind.u64.bits)))
 else
  some start2:=by rw [Aq]
theorem Ct (n:Nat)(cv1:(List Aa))(n_:Nat)(data:(List Ac))(a_:Int)(m_1:Int)(b:Int):Al (n+1) cv1 n_ data a_ m_1 b =
 bif ((À (m_1-a_)) == 1) then
  ((Au n n_ data a_ cv1 m_1 b
  ):Option Int).bind fun i =>
   ((AE n i n_ a_ data
   ):Option (List Ac)).bind fun data1 =>
    some data1
 else
  bif ((À (b-m_1)) == 1) then
   ((As n n_ m_1 data cv1 a_ m_1
   ):Option Int).bind fun i2 =>
    ((AD n i2 n_ m_1 data
    ):Option (List Ac)).bind fun data5 =>
     some data5
  else
   ((bif (decide ((À ((IntKind.u64.wrap (À (a_+b))).fdiv (2 ^ min (1:Int).toNat IntKind.u64.bits)))<m_1)) then
    some ((À ((À ((À ((IntKind.u64.wrap (À (a_+b))).fdiv (2 ^ min (1:Int).toNat IntKind.u64.bits)))+m_1))-b)),(À ((IntKind.u64.wrap (À (a_+b))).fdiv (2 ^ min (1:Int).toNat IntKind.u64.bits))))
   else
    some (a_,m_1)
   ):Option (Int×Int)).bind fun y4=>match y4 with
   |(start,r_) =>
    ((Aq n n_ a_ b m_1 data cv1 start r_
    ):Option Int).bind fun start1 =>
     ((bif (decide (start1<m_1)) then
      some (decide (m_1<(À ((À ((À ((IntKind.u64.wrap (À (a_+b))).fdiv (2 ^ min (1:Int).toNat IntKind.u64.bits)))+m_1))-start1))))
     else
      some false
     ):Option Bool).bind fun v185 =>
      ((bif v185 then
       (Bn n cv1 n_ data start1 m_1 (À ((À ((À ((IntKind.u64.wrap (À (a_+b))).fdiv (2 ^ min (1:Int).toNat IntKind.u64.bits)))+m_1))-start1))).bind fun data13 =>
       some data13
      else
       some data
      ):Option (List Ac)).bind fun data9 =>
       ((bif (decide (a_<start1)) then
        some (decide (start1<(À ((IntKind.u64.wrap (À (a_+b))).fdiv (2 ^ min (1:Int).toNat IntKind.u64.bits)))))
       else
        some false
       ):Option Bool).bind fun v199 =>
        ((bif v199 then
         (Al n cv1 n_ data9 a_ start1 (À ((IntKind.u64.wrap (À (a_+b))).fdiv (2 ^ min (1:Int).toNat IntKind.u64.bits)))).bind fun data12 =>
         some data12
        else
         some data9
        ):Option (List Ac)).bind fun data10 =>
         ((bif (decide ((À ((IntKind.u64.wrap (À (a_+b))).fdiv (2 ^ min (1:Int).toNat IntKind.u64.bits)))<(À ((À ((À ((IntKind.u64.wrap (À (a_+b))).fdiv (2 ^ min (1:Int).toNat IntKind.u64.bits)))+m_1))-start1)))) then
          some (decide ((À ((À ((À ((IntKind.u64.wrap (À (a_+b))).fdiv (2 ^ min (1:Int).toNat IntKind.u64.bits)))+m_1))-start1))<b))
         else
          some false
         ):Option Bool).bind fun v213 =>
          bif v213 then
           (Al n cv1 n_ data10 (À ((IntKind.u64.wrap (À (a_+b))).fdiv (2 ^ min (1:Int).toNat IntKind.u64.bits))) (À ((À ((À ((IntKind.u64.wrap (À (a_+b))).fdiv (2 ^ min (1:Int).toNat IntKind.u64.bits)))+m_1))-start1)) b).bind fun data11 =>
           some data11
          else
           some data10:=by rw [Al]
def A3:Nat->Int->(List Aa)->Nat->Int->Int->Int->(List Ac)->Option (Int×Int×(List Ac))
 |0,_,_,_,_,_,_,_=>none
 |n+1,n_1,cv1,n_,blockSize,a_3,b3,data7 =>
  bif (decide (b3<=n_1)) then
   (Al n cv1 n_ data7 a_3 (À (a_3+blockSize)) b3).bind fun data8 =>
   A3 n n_1 cv1 n_ blockSize b3 (À (b3+(À (2*blockSize)))) data8
  else
   some (a_3,b3,data7)
theorem DE (n:Nat)(n_1:Int)(cv1:(List Aa))(n_:Nat)(blockSize:Int)(a_3:Int)(b3:Int)(data7:(List Ac)):A3 (n+1) n_1 cv1 n_ blockSize a_3 b3 data7 =
 bif (decide (b3<=n_1)) then
  (Al n cv1 n_ data7 a_3 (À (a_3+blockSize)) b3).bind fun data8 =>
  A3 n n_1 cv1 n_ blockSize b3 (À (b3+(À (2*blockSize)))) data8
 else
  some (a_3,b3,data7):=by rw [A3]
def Aw:Nat->Int->(List Aa)->Nat->Int->Int->Int->(List Ac)->Option (List Ac)
 |0,_,_,_,_,_,_,_=>none
 |n+1,n_1,cv1,n_,blockSize,a_1,b1,data4 =>
  bif (decide (blockSize<n_1)) then
   ((A3 n n_1 cv1 n_ blockSize 0 (À (2*blockSize)) data4
   ):Option (Int×Int×(List Ac))).bind fun y2=>match y2 with
   |(a_2,b2,data5) =>
    bif (decide ((À (a_2+blockSize))<n_1)) then
     (Al n cv1 n_ data5 a_2 (À (a_2+blockSize)) n_1).bind fun data6 =>
     Aw n n_1 cv1 n_ (À (blockSize*2)) a_2 b2 data6
    else
     Aw n n_1 cv1 n_ (À (blockSize*2)) a_2 b2 data5
  else
   some data4
theorem DF (n:Nat)(n_1:Int)(cv1:(List Aa))(n_:Nat)(blockSize:Int)(a_1:Int)(b1:Int)(data4:(List Ac)):Aw (n+1) n_1 cv1 n_ blockSize a_1 b1 data4 =
 bif (decide (blockSize<n_1)) then
  ((A3 n n_1 cv1 n_ blockSize 0 (À (2*blockSize)) data4
  ):Option (Int×Int×(List Ac))).bind fun y2=>match y2 with
  |(a_2,b2,data5) =>
   bif (decide ((À (a_2+blockSize))<n_1)) then
    (Al n cv1 n_ data5 a_2 (À (a_2+blockSize)) n_1).bind fun data6 =>
    Aw n n_1 cv1 n_ (À (blockSize*2)) a_2 b2 data6
   else
    Aw n n_1 cv1 n_ (À (blockSize*2)) a_2 b2 data5
 else
  some data4:=by rw [Aw]
def A5:Nat->Int->(List Aa)->Nat->Int->Int->(List Ac)->Option (Int×Int×(List Ac))
 |0,_,_,_,_,_,_=>none
 |n+1,n_1,cv1,n_,a_4,b4,data9 =>
  bif (decide (b4<=n_1)) then
   (A6 n cv1 n_ data9 a_4 b4).bind fun data10 =>
   A5 n n_1 cv1 n_ b4 (À (b4+20)) data10
  else
   some (a_4,b4,data9)
theorem DD (n:Nat)(n_1:Int)(cv1:(List Aa))(n_:Nat)(a_4:Int)(b4:Int)(data9:(List Ac)):A5 (n+1) n_1 cv1 n_ a_4 b4 data9 =
 bif (decide (b4<=n_1)) then
  (A6 n cv1 n_ data9 a_4 b4).bind fun data10 =>
  A5 n n_1 cv1 n_ b4 (À (b4+20)) data10
 else
  some (a_4,b4,data9):=by rw [A5]
def B6 (n:Nat)(cv1:(List Aa))(n_:Nat)(data:(List Ac))(n_1:Int):Option (List Ac) :=
 ((A5 n n_1 cv1 n_ 0 20 data
 ):Option (Int×Int×(List Ac))).bind fun y=>match y with
 |(a_,b,data1) =>
  (A6 n cv1 n_ data1 a_ n_1).bind fun data2 =>
  ((Aw n n_1 cv1 n_ 20 a_ b data2
  ):Option (List Ac)).bind fun data3 =>
   some data3
def BR (n:Nat)(cv1:(List Aa))(n_:Nat)(x:(List Ac)):Option (List Ac) :=
 (B6 n cv1 n_ x (n_:Int)).bind fun x1 =>
 some x1
def BN:Nat->(List Aa)->Aj->Int->(List Ac)->Int->Option (List Ac)
 |0,_,_,_,_,_=>none
 |n+1,l,d,known,out1,v30 =>
  bif (decide (v30<(l.length:Int))) then
   (gi l v30).bind fun x =>
   (EO n x d known).bind fun s =>
   bif s.2.2.1 then
    (Ca 24 out1 [(Ac.mk s.1 s.2.1 v30)]).bind fun l2 =>
    BN n l d known l2 (À (v30+1))
   else
    BN n l d known out1 (À (v30+1))
  else
   some out1
theorem IM (n:Nat)(l:(List Aa))(d:Aj)(known:Int)(out1:(List Ac))(v30:Int):BN (n+1) l d known out1 v30 =
 bif (decide (v30<(l.length:Int))) then
  (gi l v30).bind fun x =>
  (EO n x d known).bind fun s =>
  bif s.2.2.1 then
   (Ca 24 out1 [(Ac.mk s.1 s.2.1 v30)]).bind fun l2 =>
   BN n l d known l2 (À (v30+1))
  else
   BN n l d known out1 (À (v30+1))
 else
  some out1:=by rw [BN]
def Ch (n:Nat)(l:(List Aa))(d:Aj)(known:Int):Option ((List Ac)×Int) :=
 (Ff n l).bind fun e =>
 bif (e != 0) then
  some ([],e)
 else
  (Fe n d known).bind fun e1 =>
  bif (e1 != 0) then
   some ([],e1)
  else
   ((BN n l d known [] 0
   ):Option (List Ac)).bind fun out =>
    bif out.isEmpty then
     some ([],0)
    else
     (BR n l out.length out).bind fun l1 =>
     bif (l1.length == out.length) then
      some (l1,0)
     else
      none
def C0 (s:Ac)(day:Int):Option Bool :=
 ((bif (decide (s.from_<=day)) then
  some (decide (day<=s.to_))
 else
  some false
 ):Option Bool).bind fun v4 =>
  some v4
def CL (h_:Int)(other:Int):Option Int :=
 bif ((bits .and .i64 h_ other) == 0) then
  some h_
 else
  some (bits .and .i64 h_ other)
def Bw:Nat->(List Ac)->(List Aa)->Aa->Int->Int->Int->Bool->Option (Int×Int×Bool)
 |0,_,_,_,_,_,_,_=>none
 |n+1,s,l,x1,day,i2,common1,some_1 =>
  ((bif (decide (i2<(s.length:Int))) then
   (gi s i2).bind fun x4 =>
   (gi l x4.clause).bind fun x5 =>
   some (x5.Rank == x1.Rank)
  else
   some false
  ):Option Bool).bind fun v43 =>
   bif v43 then
    (gi s i2).bind fun x2 =>
    (gi l x2.clause).bind fun x3 =>
    ((bif (x3.Kind == 3) then
     (C0 x2 day).bind fun a_ =>
     some a_
    else
     some false
    ):Option Bool).bind fun v64 =>
     bif v64 then
      Bw n s l x1 day (À (i2+1)) (bits .and .i64 common1 x3.Houses) true
     else
      Bw n s l x1 day (À (i2+1)) common1 some_1
   else
    some (i2,common1,some_1)
theorem IK (n:Nat)(s:(List Ac))(l:(List Aa))(x1:Aa)(day:Int)(i2:Int)(common1:Int)(some_1:Bool):Bw (n+1) s l x1 day i2 common1 some_1 =
 ((bif (decide (i2<(s.length:Int))) then
  (gi s i2).bind fun x4 =>
  (gi l x4.clause).bind fun x5 =>
  some (x5.Rank == x1.Rank)
 else
  some false
 ):Option Bool).bind fun v43 =>
  bif v43 then
   (gi s i2).bind fun x2 =>
   (gi l x2.clause).bind fun x3 =>
   ((bif (x3.Kind == 3) then
    (C0 x2 day).bind fun a_ =>
    some a_
   else
    some false
   ):Option Bool).bind fun v64 =>
    bif v64 then
     Bw n s l x1 day (À (i2+1)) (bits .and .i64 common1 x3.Houses) true
    else
     Bw n s l x1 day (À (i2+1)) common1 some_1
  else
   some (i2,common1,some_1):=by rw [Bw]
def BZ:Nat->(List Ac)->(List Aa)->Int->Int->Int->Option (Int ⊕ Int)
 |0,_,_,_,_,_=>none
 |n+1,s,l,day,out1,i =>
  bif (decide (i<(s.length:Int))) then
   (gi s i).bind fun x =>
   (gi l x.clause).bind fun x1 =>
   ((Bw n s l x1 day i 4095 false
   ):Option (Int×Int×Bool)).bind fun y1=>match y1 with
   |(i1,common,some_) =>
    ((bif some_ then
     some (common == 0)
    else
     some false
    ):Option Bool).bind fun v71 =>
     bif v71 then
      some (.inr 0)
     else
      bif some_ then
       (CL out1 common).bind fun out2 =>
       BZ n s l day out2 i1
      else
       BZ n s l day out1 i1
  else
   some (.inl out1)
theorem Gx (n:Nat)(s:(List Ac))(l:(List Aa))(day:Int)(out1:Int)(i:Int):BZ (n+1) s l day out1 i =
 bif (decide (i<(s.length:Int))) then
  (gi s i).bind fun x =>
  (gi l x.clause).bind fun x1 =>
  ((Bw n s l x1 day i 4095 false
  ):Option (Int×Int×Bool)).bind fun y1=>match y1 with
  |(i1,common,some_) =>
   ((bif some_ then
    some (common == 0)
   else
    some false
   ):Option Bool).bind fun v71 =>
    bif v71 then
     some (.inr 0)
    else
     bif some_ then
      (CL out1 common).bind fun out2 =>
      BZ n s l day out2 i1
     else
      BZ n s l day out1 i1
 else
  some (.inl out1):=by rw [BZ]
def IL (n:Nat)(l:(List Aa))(s:(List Ac))(day:Int):Option Int :=
 ((BZ n s l day 4095 0
 ):Option (Int ⊕ Int)).bind fun y=>match y with
 |.inl out =>
  some out
 |.inr o=>some o
def BY:Nat->(List Ac)->(List Aa)->Int->Int->Int->Int->(List Int)->Option (Int×(List Int))
 |0,_,_,_,_,_,_,_=>none
 |n+1,s,l,day,rank,v19,out2,out3 =>
  bif (decide (v19<(s.length:Int))) then
   (gi s v19).bind fun x =>
   (gi l x.clause).bind fun x1 =>
   ((bif (x1.Kind == 3) then
    some true
   else
    (C0 x day).bind fun a_ =>
    bif (!a_) then
     some true
    else
     some (decide (x1.Rank<rank))
   ):Option Bool).bind fun v42 =>
    bif v42 then
     BY n s l day rank (À (v19+1)) out2 out3
    else
     (Ca 8 out3 [x.clause]).bind fun l1 =>
     bif (out2 == 0) then
      BY n s l day x1.Rank (À (v19+1)) x1.Kind l1
     else
      bif (out2 != x1.Kind) then
       BY n s l day x1.Rank (À (v19+1)) 3 l1
      else
       BY n s l day x1.Rank (À (v19+1)) out2 l1
  else
   some (out2,out3)
theorem KF (n:Nat)(s:(List Ac))(l:(List Aa))(day:Int)(rank:Int)(v19:Int)(out2:Int)(out3:(List Int)):BY (n+1) s l day rank v19 out2 out3 =
 bif (decide (v19<(s.length:Int))) then
  (gi s v19).bind fun x =>
  (gi l x.clause).bind fun x1 =>
  ((bif (x1.Kind == 3) then
   some true
  else
   (C0 x day).bind fun a_ =>
   bif (!a_) then
    some true
   else
    some (decide (x1.Rank<rank))
  ):Option Bool).bind fun v42 =>
   bif v42 then
    BY n s l day rank (À (v19+1)) out2 out3
   else
    (Ca 8 out3 [x.clause]).bind fun l1 =>
    bif (out2 == 0) then
     BY n s l day x1.Rank (À (v19+1)) x1.Kind l1
    else
     bif (out2 != x1.Kind) then
      BY n s l day x1.Rank (À (v19+1)) 3 l1
     else
      BY n s l day x1.Rank (À (v19+1)) out2 l1
 else
  some (out2,out3):=by rw [BY]
def H8 (n:Nat)(l:(List Aa))(s:(List Ac))(day:Int):Option Bd :=
 (IL n l s day).bind fun w =>
 ((BY n s l day (-1) 0 0 []
 ):Option (Int×(List Int))).bind fun y=>match y with
 |(out,out1) =>
  bif out1.isEmpty then
   some (Bd.mk out w [])
  else
   (Pe out1).bind fun data =>
   bif (data.length == out1.length) then
    some (Bd.mk out w data)
   else
    none
def Co:Nat->(List Ac)->Int->(List Int)->Option (List Int)
 |0,_,_,_=>none
 |n+1,s,v9,l1 =>
  bif (decide (v9<(s.length:Int))) then
   (gi s v9).bind fun x =>
   (Ca 8 l1 [x.from_,(À (x.to_+1))]).bind fun l2 =>
   Co n s (À (v9+1)) l2
  else
   some l1
theorem Ia (n:Nat)(s:(List Ac))(v9:Int)(l1:(List Int)):Co (n+1) s v9 l1 =
 bif (decide (v9<(s.length:Int))) then
  (gi s v9).bind fun x =>
  (Ca 8 l1 [x.from_,(À (x.to_+1))]).bind fun l2 =>
  Co n s (À (v9+1)) l2
 else
  some l1:=by rw [Co]
def EJ (n:Nat)(s:(List Ac)):Option (List Int) :=
 ((Co n s 0 [0]
 ):Option (List Int)).bind fun l =>
  bif l.isEmpty then
   none
  else
   (Pe l).bind fun data =>
   bif (data.length == l.length) then
    some data
   else
    none
def Cj (n:Nat)(l:(List Aa))(s:((List Ac)×Int)):List Int->(List Ba)->Option ((List Ba)×Int)
 | [],out =>
  some (out,0)
 |day::days,out =>
  (H8 n l s.1 day).bind fun x =>
  bif out.isEmpty then
   (Ca 32 [] [(Ba.mk day 41666 x.State x.Houses)]).bind fun l1 =>
   Cj n l s days l1
  else
   ((bif (decide (0<(out.length:Int))) then
    (gx out.length (À ((out.length:Int)-1))).bind fun _ =>
    (gi out (À ((out.length:Int)-1))).bind fun x1 =>
    bif (x1.State == x.State) then
     some (x1.Houses == x.Houses)
    else
     some false
   else
    some false
   ):Option Bool).bind fun v56 =>
    bif v56 then
     bif (out.length == out.length) then
      Cj n l s days out
     else
      none
    else
     bif (decide (0<(out.length:Int))) then
      (gx out.length (À ((out.length:Int)-1))).bind fun _ =>
      (Ae5 out (À ((out.length:Int)-1)) (fun z=>{ z with To:=(À (day-1)) })).bind fun l2 =>
      bif (l2.length == out.length) then
       (Ca 32 l2 [(Ba.mk day 41666 x.State x.Houses)]).bind fun l3 =>
       Cj n l s days l3
      else
       none
     else
      bif (out.length == out.length) then
       (Ca 32 out [(Ba.mk day 41666 x.State x.Houses)]).bind fun l4 =>
       Cj n l s days l4
      else
       none
def Hc (n:Nat)(l:(List Aa))(d:Aj)(known:Int):Option ((List Ba)×Int) :=
 (Ch n l d known).bind fun s =>
 bif (s.2 != 0) then
  some ([],s.2)
 else
  (EJ n s.1).bind fun zs =>
  bif zs.isEmpty then
   none
  else
  bif decide (zs.length*8<=140737488351232) then
   Cj n l s (Dj zs) []
  else
   none
def FX (n:Nat)(l:(List Aa))(d:Aj)(day:Int)(known:Int):Option (Bd×Int) :=
 (Ch n l d known).bind fun s =>
 bif (s.2 != 0) then
  some ((Bd.mk 0 0 []),s.2)
 else
  ((bif (decide (day<0)) then
   some true
  else
   some (decide (41666<day))
  ):Option Bool).bind fun v28 =>
   bif v28 then
    some ((Bd.mk 0 0 []),1)
   else
    (H8 n l s.1 day).bind fun a_ =>
    some (a_,0)
def EC:Nat->((List Ba)×Int)->Aj->Int->Int->Int->Option (Int×Int)
 |0,_,_,_,_,_=>none
 |n+1,s,d,keep1,drop1,v24 =>
  bif (decide (v24<(s.1.length:Int))) then
   (gi s.1 v24).bind fun x =>
   bif (x.State == 1) then
    EC n s d x.To drop1 (À (v24+1))
   else
    ((bif (x.State == 2) then
     some (decide (d.Stored<=x.To))
    else
     some false
    ):Option Bool).bind fun v34 =>
     bif v34 then
      EC n s d keep1 (if (if d.Stored > x.From then d.Stored else x.From)<drop1 then (if d.Stored > x.From then d.Stored else x.From) else drop1) (À (v24+1))
     else
      EC n s d keep1 drop1 (À (v24+1))
  else
   some (keep1,drop1)
def LL (n:Nat)(l:(List Aa))(d:Aj)(known:Int):Option (Int×Int×Int) :=
 (Hc n l d known).bind fun s =>
 bif (s.2 != 0) then
  some (0,0,s.2)
 else
  ((EC n s d (-1) 41667 0
  ):Option (Int×Int)).bind fun y=>match y with
  |(keep,drop) =>
   some (keep,drop,0)
def C9 (n:Nat)(l:(List Aa))(s:((List Ac)×Int))(s1:((List Ac)×Int)):List Int->Option (Int×Int)
 | [] =>
  some (41667,0)
 |day::days =>
  (H8 n l s.1 day).bind fun x =>
  (H8 n l s1.1 day).bind fun y1 =>
  ((bif (x.State != y1.State) then
   some true
  else
   some (x.Houses != y1.Houses)
  ):Option Bool).bind fun v61 =>
   bif v61 then
    some (day,0)
   else
    C9 n l s s1 days
def D0 (n:Nat)(l:(List Aa))(d:Aj)(known:Int)(later:Int):Option (Int×Int) :=
 (Ch n l d known).bind fun s =>
 bif (s.2 != 0) then
  some (0,s.2)
 else
  (Ch n l d later).bind fun s1 =>
  bif (s1.2 != 0) then
   some (0,s1.2)
  else
   ((bif s.1.isEmpty then
    (Ca 24 [] s1.1).bind fun l1 =>
    (EJ n l1).bind fun zs =>
    some zs
   else
    (Ca 24 [] s.1).bind fun c =>
    (Ca 24 c s1.1).bind fun l2 =>
    (EJ n l2).bind fun zs1 =>
    some zs1
   ):Option (List Int)).bind fun q =>
    bif q.isEmpty then
     none
    else
    bif decide (q.length*8<=140737488351232) then
     C9 n l s s1 (Dj q)
    else
     none
abbrev L8 (l:List Ac):PV:=hP l CN
abbrev hX8 (l:List Ba):PV:=hP l DX
end Go.Sp
namespace Go.Sp
open Go Go.Vl
set_option linter.unusedVariables false
def H2:Nat->Bd->Bd->Int->Option (Unit ⊕ Bool)
 |0,_,_,_=>none
 |n+1,a_,b,k =>
  bif (decide (k<(a_.By.length:Int))) then
   (gi a_.By k).bind fun x =>
   (gi b.By k).bind fun x1 =>
   bif (x != x1) then
    some (.inr false)
   else
    H2 n a_ b (À (k+1))
  else
   some (.inl ())
def MI (n:Nat)(a_:Bd)(b:Bd):Option Bool :=
 ((bif (a_.State != b.State) then
  some true
 else
  bif (a_.Houses != b.Houses) then
   some true
  else
   some ((a_.By.length:Int) != (b.By.length:Int))
 ):Option Bool).bind fun v26 =>
  bif v26 then
   some false
  else
   ((H2 n a_ b 0
   ):Option (Unit ⊕ Bool)).bind fun y1=>match y1 with
   |.inl _ =>
    some true
   |.inr o=>some o
def Dv:Nat->(List Ba)->(List Ba)->Int->Option (Unit ⊕ Bool)
 |0,_,_,_=>none
 |n+1,a_,b,k =>
  bif (decide (k<(a_.length:Int))) then
   (gi a_ k).bind fun x =>
   (gi b k).bind fun x1 =>
   bif (!((x.From == x1.From)&&((x.To == x1.To)&&((x.State == x1.State)&&((x.Houses == x1.Houses)&&true))))) then
    some (.inr false)
   else
    Dv n a_ b (À (k+1))
  else
   some (.inl ())
def Gc (n:Nat)(a_:(List Ba))(b:(List Ba)):Option Bool :=
 bif ((a_.length:Int) != (b.length:Int)) then
  some false
 else
  ((Dv n a_ b 0
  ):Option (Unit ⊕ Bool)).bind fun y=>match y with
  |.inl _ =>
   some true
  |.inr o=>some o
def Ip (n:Nat)(l:(List Aa))(d:Aj):Option Bool :=
 (((JA n l 300).bind fun f =>
 bif f then
  bif (decide ((d.Facts.length:Int)<=30)) then
   some true
  else
   bif (decide (200<(d.Facts.length:Int))) then
    some (decide ((d.Facts.length:Int)<205))
   else
    some false
 else
  some false
 ):Option Bool).bind fun v4 =>
  some v4
def GZ (n:Nat)(l:(List Aa))(d:Aj)(day:Int)(known:Int)(want:Bd):Option Bool :=
 (FX n l d day known).bind fun a_ =>
 ((bif (a_.2 == 0) then
  (MI n a_.1 want).bind fun s =>
  some s
 else
  some false
 ):Option Bool).bind fun v10 =>
  some v10
def Kq (n:Nat):Option Bool :=
 (HR n ⟨#[107,101,101,112,32,116,97,120,32,50,32,48,32,40,115,116,111,114,101,100,41,32,40,115,116,111,114,101,100,32,43,32,49,48,48,41,32,40,48,32,61,61,32,48,41,59,32,100,114,111,112,32,119,105,115,104,32,49,32,48,32,40,97,115,107,101,100,40,111,119,110,101,114,41,41,32,40,110,101,118,101,114,41,32,40,97,115,107,101,100,40,111,119,110,101,114,41,32,60,32,110,101,118,101,114,41,59,32,100,114,111,112,32,101,110,100,32,50,32,48,32,40,115,116,111,114,101,100,32,43,32,49,48,48,41,32,40,110,101,118,101,114,41,32,40,48,32,61,61,32,48,41,59,32,112,108,97,99,101,32,104,111,109,101,32,49,32,48,32,40,100,97,121,40,48,41,41,32,40,110,101,118,101,114,41,32,40,48,32,61,61,32,48,41,32,45,62,32,48,32,50,59,32,112,108,97,99,101,32,119,97,114,32,51,32,50,48,32,40,100,97,121,40,53,48,41,41,32,40,110,101,118,101,114,41,32,40,48,32,61,61,32,48,41,32,45,62,32,49,32,50,59]⟩).bind fun c =>
 (some [(Bb.mk 3 4 30 40)]).bind fun l =>
 ((bif ((c.2.At == 0)&&((c.2.E == 0)&&true)) then
  (some [0]).bind fun l7 =>
  (GZ n c.1 (Aj.mk l 10 4) 30 40 (Bd.mk 1 5 l7)).bind fun i3 =>
  bif i3 then
   (GZ n c.1 (Aj.mk l 10 4) 5 40 (Bd.mk 0 5 [])).bind fun i4 =>
   bif i4 then
    (some [0]).bind fun l8 =>
    (GZ n c.1 (Aj.mk l 10 4) 60 40 (Bd.mk 1 4 l8)).bind fun i5 =>
    some i5
   else
    some false
  else
   some false
 else
  some false
 ):Option Bool).bind fun one =>
  (((some [0,2]).bind fun l4 =>
  (GZ n c.1 (Aj.mk l 10 4) 110 40 (Bd.mk 3 4 l4)).bind fun i =>
  bif i then
   (some [2]).bind fun l5 =>
   (GZ n c.1 (Aj.mk l 10 4) 120 40 (Bd.mk 2 4 l5)).bind fun i1 =>
   bif i1 then
    (some [0]).bind fun l6 =>
    (GZ n c.1 (Aj.mk l 10 4) 60 10 (Bd.mk 1 5 l6)).bind fun i2 =>
    some i2
   else
    some false
  else
   some false
  ):Option Bool).bind fun two =>
   (Hc n c.1 (Aj.mk l 10 4) 40).bind fun s =>
   (LL n c.1 (Aj.mk l 10 4) 40).bind fun b =>
   (D0 n c.1 (Aj.mk l 10 4) 10 40).bind fun l1 =>
   (D0 n c.1 (Aj.mk l 10 4) 20 40).bind fun l2 =>
   (some [(Ba.mk 0 9 0 5),(Ba.mk 10 49 1 5),(Ba.mk 50 109 1 4),(Ba.mk 110 110 3 4),(Ba.mk 111 41666 2 4)]).bind fun l3 =>
   ((bif one then
    bif two then
     bif (s.2 == 0) then
      (Gc n s.1 l3).bind fun s1 =>
      bif s1 then
       bif (b.2.2 == 0) then
        bif (b.1 == 109) then
         bif (b.2.1 == 111) then
          bif (l1.2 == 0) then
           bif (l1.1 == 50) then
            bif (l2.2 == 0) then
             some (l2.1 == 41667)
            else
             some false
           else
            some false
          else
           some false
         else
          some false
        else
         some false
       else
        some false
      else
       some false
     else
      some false
    else
     some false
   else
    some false
   ):Option Bool).bind fun v0_ =>
    some v0_
def Sb:Option Bool:=Kq 60
end Go.Sp

namespace Go.Proofs.YtehfpameijkafaaGreatDoor
open Go.ChangeShapes Go.WideShapes Go.ChangeAt Go.RowKit Go.Q Go.Vl Go.Sp
set_option maxRecDepth 100000
theorem Tq {w:World}{r:Reach}{b0:Nat}{v:Value}(h:Value.okWide Tryz.prog w r b0 26 v):∃ cs,v=.agg cs:=by
 simp only [Value.okWide,Tryz.underlying26] at h
 obtain⟨cs,e,_⟩:=h
 exact⟨cs,e⟩
theorem Y0 {H:Type}{enc:TypeId×Value->H}{w:World}{held:Bool}{fuel:Nat}{cs:Array Value}{x:DataW H×List MemPlace}(h:DataW.trod enc Tryz.prog w 0 (fun _=>true) held fuel 26 (Value.agg cs).cells.toList=some x)(hl:cs.size=3) :
 ∃ y:Int×Int×Int,∀ φ,V w (UC w) φ (.agg [iP y.1,iP y.2.1,iP y.2.2]) (.agg cs):=by
 have c3:Tryz.prog.cellsOf 3=1:=by kernel_rfl
 have h:DataW.trod enc Tryz.prog w 0 (fun _=>true) held fuel 26 cs.toList=some x:=h
 have hl:cs.toList.length=3:=by simpa using hl
 match hcs:cs.toList,hl with
 | [v1,v2,v3],_ =>
  rw [hcs] at h
  obtain⟨xs,m,rfl,rfl,_,hl,hx⟩:=DataW.trod_array Tryz.underlying26 h
  have h0:=hx 0 (by omega)
  have h1:=hx 1 (by omega)
  have h2:=hx 2 (by omega)
  rw [c3,Ã (by omega)] at h0 h1 h2
  obtain⟨k0,e0,_,_⟩:=ý Tryz.underlying3 h0
  obtain⟨k1,e1,_,_⟩:=ý Tryz.underlying3 h1
  obtain⟨k2,e2,_,_⟩:=ý Tryz.underlying3 h2
  have f0:v1=.int .i64 k0:=(Ġ e0).1
  have f1:v2=.int .i64 k1:=(Ġ e1).1
  have f2:v3=.int .i64 k2:=(Ġ e2).1
  clear e0 e1 e2
  subst f0 f1 f2
  refine⟨(k0,k1,k2),XF ?_⟩
  rw [hcs]
  exact .cons rfl (fun φ=>.lit _ _) (.cons rfl (fun φ=>.lit _ _) (.cons rfl (fun φ=>.lit _ _) .nil))
theorem W9 {w:World}{r:Reach}{b0:Nat}{cs:Array Value}(h:Value.okWide Tryz.prog w r b0 26 (.agg cs)):cs.size=3:=by
 have c26:Tryz.prog.cellsOf 26=3:=by kernel_rfl
 simp only [Value.okWide,Tryz.underlying26] at h
 obtain⟨c,e,h2,_⟩:=h
 rw [c26] at h2
 cases e
 exact h2
end Go.Proofs.YtehfpameijkafaaGreatDoor
