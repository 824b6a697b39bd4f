/-
  Chapter 32 as plain functions: what the program's and the reference's functions compute, in Option; no program. (Printed by lift.py.)
-/
import Derived.Test.YtgdalmleogphgaaGreatDoorU4
namespace Go.Sp
open Go Go.Vl
set_option linter.unusedVariables false
structure Aq where
 sign:ByteArray
 op:Int
 level:Int
def Ar (x:Aq):List PV:=[tP x.sign,iP x.op,iP x.level]
theorem Cn (x:Aq):Ar x=[tP x.sign,iP x.op,iP x.level]:=rfl
theorem Cz (x:Aq):(Ar x).length=3:=rfl
structure Ab where
 Kind:Int
 At:Int
 S:ByteArray
 N:Int
def Ch (x:Ab):List PV:=[iP x.Kind,iP x.At,tP x.S,iP x.N]
theorem Br (x:Ab):Ch x=[iP x.Kind,iP x.At,tP x.S,iP x.N]:=rfl
theorem Ba (x:Ab):(Ch x).length=4:=rfl
structure Ad where
 l:(List Ab)
 forms:Int
structure Aa where
 Op:Int
 N:Int
 S:ByteArray
 Kids:(List Aa)
 At:Int
mutual
def AH:Aa->List PV
 |.mk Wt fN fS fKids fAt=>[iP Wt,iP fN,tP fS,.sl (EL fKids) .shared,iP fAt]
def EL:List Aa->List (List PV)
 | []=>[]
 |x::l=>AH x::EL l
end
theorem GI:∀ l:List Aa,EL l=l.map AH
 | []=>rfl
 |x::l=>by rw [EL,GI l];rfl
theorem AE (x:Aa):AH x=[iP x.Op,iP x.N,tP x.S,hP x.Kids AH,iP x.At]:=by
 cases x;rw [AH];simp only [GI]
theorem Bw (x:Aa):(AH x).length=5:=by rw [AE];rfl
structure As where
 Kind:Int
 N:Int
 S:ByteArray
 E:Aa
 At:Int
def Bt (x:As):List PV:=[iP x.Kind,iP x.N,tP x.S,iP x.E.Op,iP x.E.N,tP x.E.S,hP x.E.Kids AH,iP x.E.At,iP x.At]
theorem BG (x:As):Bt x=[iP x.Kind,iP x.N,tP x.S,iP x.E.Op,iP x.E.N,tP x.E.S,hP x.E.Kids AH,iP x.E.At,iP x.At]:=rfl
theorem B5 (x:As):(Bt x).length=9:=rfl
structure Af where
 Word:ByteArray
 Args:(List As)
 Body:(List Af)
 At:Int
mutual
def AD:Af->List PV
 |.mk fWord fArgs fBody fAt=>[tP fWord,hP fArgs Bt,.sl (EK fBody) .shared,iP fAt]
def EK:List Af->List (List PV)
 | []=>[]
 |x::l=>AD x::EK l
end
theorem GH:∀ l:List Af,EK l=l.map AD
 | []=>rfl
 |x::l=>by rw [EK,GH l];rfl
theorem A4 (x:Af):AD x=[tP x.Word,hP x.Args Bt,hP x.Body AD,iP x.At]:=by
 cases x;rw [AD];simp only [GH]
theorem Az (x:Af):(AD x).length=4:=by rw [A4];rfl
structure Al where
 At:Int
 E:Int
structure Ag where
 l:(List Ab)
 bad:Bool
structure BJ where
 F:Af
 To:Int
 N:Int
 E:Int
structure BY where
 A:As
 To:Int
 E:Int
structure A0 where
 X:Aa
 To:Int
 E:Int
structure BH where
 N:Int
 Op:Int
def BD (x:ByteArray):List PV:=[tP x]
theorem By (x:ByteArray):BD x=[tP x]:=rfl
theorem LB (x:ByteArray):(BD x).length=1:=rfl
def Cv:Option (List Aq) :=
 (some [(Aq.mk ⟨#[42]⟩ 7 6),(Aq.mk ⟨#[47]⟩ 8 6),(Aq.mk ⟨#[37]⟩ 9 6),(Aq.mk ⟨#[43]⟩ 10 5),(Aq.mk ⟨#[45]⟩ 11 5),(Aq.mk ⟨#[61,61]⟩ 12 4),(Aq.mk ⟨#[33,61]⟩ 13 4),(Aq.mk ⟨#[60]⟩ 14 4),(Aq.mk ⟨#[60,61]⟩ 15 4),(Aq.mk ⟨#[62]⟩ 16 4),(Aq.mk ⟨#[62,61]⟩ 17 4),(Aq.mk ⟨#[38,38]⟩ 18 2),(Aq.mk ⟨#[124,124]⟩ 19 1)]).bind fun l =>
 some l
def AN (p:Ad)(e:Int):Option (Ex Al Ad Unit) :=
 (gi p.l 0).bind fun x =>
 some (.pan (Al.mk x.At e) p)
def AA (p:Ad):Option (Ab×Ad) :=
 (gi p.l 0).bind fun x =>
 (V9 p.l 1 (p.l.length:Int)).bind fun l =>
 some (x,(Ad.mk l p.forms))
def AP (p:Ad)(s:ByteArray):Option Bool :=
 (((gi p.l 0).bind fun x =>
 bif (x.Kind == 4) then
  some (decide (x.S=s))
 else
  some false
 ):Option Bool).bind fun v4 =>
  some v4
def BA (p:Ad):Option Bool :=
 (gi p.l 0).bind fun x =>
 ((bif (x.Kind == 1) then
  some (x.Kind == 1)
 else
  bif (x.Kind == 2) then
   some (x.Kind == 2)
  else
   some (x.Kind == 3)
 ):Option Bool).bind fun v10 =>
  bif v10 then
   some true
  else
   (((AP p ⟨#[40]⟩).bind fun i =>
   bif i then
    some true
   else
    (AP p ⟨#[45]⟩).bind fun i1 =>
    some i1
   ):Option Bool).bind fun v2 =>
    some v2
def Cp (p:Ad):Option (Ex Al Ad Int) :=
 (gi p.l 0).bind fun x =>
 bif (x.Kind != 2) then
  (AN p 5).bind fun y=>match y with
  |.ok f p1 =>
   (AA p1).bind fun n_ =>
   some (.ok n_.1.N n_.2)
  |.pan e p2=>some (.pan e p2)
 else
  (AA p).bind fun n_1 =>
  some (.ok n_1.1.N n_1.2)
def BP (p:Ad)(depth:Int)(not_:Bool):Option (Ex Al Ad Unit) :=
 (((BA p).bind fun b =>
 bif (!b) then
  bif not_ then
   (AP p ⟨#[33]⟩).bind fun i =>
   some (!i)
  else
   some true
 else
  some false
 ):Option Bool).bind fun v16 =>
  ((bif v16 then
   (AN p 5).bind fun y3=>match y3 with
   |.ok f1 p5 =>
    some (.inl (p5.l,p5.forms))
   |.pan e3 p6=>some (.inr (.pan e3 p6))
  else
   some (.inl (p.l,p.forms))
  ):Option (((List Ab)×Int) ⊕ (Ex Al Ad Unit))).bind fun y1=>match y1 with
  |.inl (p1,p2) =>
   bif (decide (30<depth)) then
    (AN (Ad.mk p1 p2) 2).bind fun y2=>match y2 with
    |.ok f p3 =>
     some (.ok () p3)
    |.pan e2 p4=>some (.pan e2 p4)
   else
    some (.ok () (Ad.mk p1 p2))
  |.inr o=>some o
def Bg (p:Ad)(s:ByteArray):Option (Ex Al Ad Unit) :=
 (AP p s).bind fun i =>
 bif (!i) then
  (AN p 5).bind fun y=>match y with
  |.ok f p1 =>
   (AA p1).bind fun n_ =>
   some (.ok () n_.2)
  |.pan e p2=>some (.pan e p2)
 else
  (AA p).bind fun n_1 =>
  some (.ok () n_1.2)
def Cc (p:(List Ab))(p1:Int)(n_:Int)(q:Int)(q1:Int)(q2:ByteArray)(q3:(List Aa))(q4:Int)(e:Int)(e1:Int)(e2:ByteArray)(e3:(List Aa))(e4:Int)(b:Aq):Option Bool :=
 ((bif (b.level == n_) then
  (AP (Ad.mk p p1) b.sign).bind fun i =>
  some i
 else
  some false
 ):Option Bool).bind fun v4 =>
  some v4
def Bj:Nat->(List Aq)->(List Ab)->Int->Int->Int->Int->ByteArray->(List Aa)->Int->Int->Int->ByteArray->(List Aa)->Int->Int->Option (Unit ⊕ Int)
 |0,_,_,_,_,_,_,_,_,_,_,_,_,_,_,_=>none
 |n+1,s,p,p1,n_,q,q1,q2,q3,q4,e,e1,e2,e3,e4,v8 =>
  bif (decide (v8<(s.length:Int))) then
   (gi s v8).bind fun x =>
   (Cc p p1 n_ q q1 q2 q3 q4 e e1 e2 e3 e4 x).bind fun l =>
   bif l then
    some (.inr v8)
   else
    Bj n s p p1 n_ q q1 q2 q3 q4 e e1 e2 e3 e4 (IntKind.i64.wrap (v8+1))
  else
   some (.inl ())
def Cm (n:Nat)(p:(List Ab))(p1:Int)(n_:Int)(q:Int)(q1:Int)(q2:ByteArray)(q3:(List Aa))(q4:Int)(e:Int)(e1:Int)(e2:ByteArray)(e3:(List Aa))(e4:Int)(s:(List Aq)):Option Int :=
 ((Bj n s p p1 n_ q q1 q2 q3 q4 e e1 e2 e3 e4 0
 ):Option (Unit ⊕ Int)).bind fun y=>match y with
 |.inl _ =>
  some (-1)
 |.inr o=>some o
mutual
def Ax:Nat->Ad->Int->Option (Ex Al Ad Aa)
 |0,_,_=>none
 |n+1,p,depth =>
  (BP p depth true).bind fun y=>match y with
  |.ok d p1 =>
   (A5 n p1 1 depth).bind fun y1=>match y1 with
   |.ok e1 p3 =>
    (AP p3 ⟨#[63]⟩).bind fun i =>
    bif (!i) then
     some (.ok e1 p3)
    else
     (AA p3).bind fun n_ =>
     (Ax n n_.2 (IntKind.i64.wrap (depth+1))).bind fun y2=>match y2 with
     |.ok a_ p5 =>
      (Bg p5 ⟨#[58]⟩).bind fun y3=>match y3 with
      |.ok n_1 p7 =>
       (Ax n p7 (IntKind.i64.wrap (depth+1))).bind fun y4=>match y4 with
       |.ok e5 p9 =>
        (some [e1,a_,e5]).bind fun l =>
        some (.ok (Aa.mk 20 0 ⟨#[]⟩ l e1.At) p9)
       |.pan e6 p10=>some (.pan e6 p10)
      |.pan e4 p8=>some (.pan e4 p8)
     |.pan e3 p6=>some (.pan e3 p6)
   |.pan e2 p4=>some (.pan e2 p4)
  |.pan e p2=>some (.pan e p2)
def Bd:Nat->Int->Aa->Int->(List Ab)->Int->Int->Int->ByteArray->(List Aa)->Option (Ex Al Ad Aa)
 |0,_,_,_,_,_,_,_,_,_=>none
 |n+1,n_1,e2,depth,p5,p6,e4,e5,e6,e7 =>
  (Cv).bind fun o_ =>
  (Cm n p5 p6 n_1 0 0 ⟨#[]⟩ [] 0 e4 e5 e6 e7 e2.At o_).bind fun k =>
  bif (decide (k<0)) then
   some (.ok (Aa.mk e4 e5 e6 e7 e2.At) (Ad.mk p5 p6))
  else
   (AA (Ad.mk p5 p6)).bind fun n_3 =>
   (Cv).bind fun o_1 =>
   (gi o_1 k).bind fun x =>
   (A5 n n_3.2 (IntKind.i64.wrap (n_1+1)) depth).bind fun y3=>match y3 with
   |.ok l p7 =>
    (some [(Aa.mk e4 e5 e6 e7 e2.At),l]).bind fun l1 =>
    bif (n_1 == 4) then
     some (.ok (Aa.mk x.op 0 ⟨#[]⟩ l1 e2.At) p7)
    else
     Bd n n_1 e2 depth p7.l p7.forms x.op 0 ⟨#[]⟩ l1
   |.pan e8 p8=>some (.pan e8 p8)
def A5:Nat->Ad->Int->Int->Option (Ex Al Ad Aa)
 |0,_,_,_=>none
 |n+1,p,n_,depth =>
  ((bif (n_ == 3) then
   (AP p ⟨#[33]⟩).bind fun i =>
   bif i then
    (AA p).bind fun n_4 =>
    (BP n_4.2 (IntKind.i64.wrap (depth+1)) true).bind fun y4=>match y4 with
    |.ok d p9 =>
     (A5 n p9 3 (IntKind.i64.wrap (depth+1))).bind fun y5=>match y5 with
     |.ok l2 p11 =>
      (some [l2]).bind fun l3 =>
      some (.inr (.ok (Aa.mk 5 0 ⟨#[]⟩ l3 n_4.1.At) p11))
     |.pan e10 p12=>some (.inr (.pan e10 p12))
    |.pan e9 p10=>some (.inr (.pan e9 p10))
   else
    some (.inl (IntKind.i64.wrap (n_+1)))
  else
   some (.inl n_)
  ):Option (Int ⊕ (Ex Al Ad Aa))).bind fun y=>match y with
  |.inl n_1 =>
   bif (n_1 == 7) then
    (Bc n p depth).bind fun y1=>match y1 with
    |.ok n_2 p1 =>
     some (.ok n_2 p1)
    |.pan e1 p2=>some (.pan e1 p2)
   else
    (A5 n p (IntKind.i64.wrap (n_1+1)) depth).bind fun y2=>match y2 with
    |.ok e2 p3 =>
     Bd n n_1 e2 depth p3.l p3.forms e2.Op e2.N e2.S e2.Kids
    |.pan e3 p4=>some (.pan e3 p4)
  |.inr o=>some o
def Bc:Nat->Ad->Int->Option (Ex Al Ad Aa)
 |0,_,_=>none
 |n+1,p,depth =>
  (AP p ⟨#[45]⟩).bind fun i =>
  bif (!i) then
   (Bb n p depth).bind fun y=>match y with
   |.ok a_ p1 =>
    some (.ok a_ p1)
   |.pan e p2=>some (.pan e p2)
  else
   (AA p).bind fun n_ =>
   (BP n_.2 (IntKind.i64.wrap (depth+1)) false).bind fun y1=>match y1 with
   |.ok d p3 =>
    (Bc n p3 (IntKind.i64.wrap (depth+1))).bind fun y2=>match y2 with
    |.ok n_1 p5 =>
     (some [n_1]).bind fun l =>
     some (.ok (Aa.mk 6 0 ⟨#[]⟩ l n_.1.At) p5)
    |.pan e2 p6=>some (.pan e2 p6)
   |.pan e1 p4=>some (.pan e1 p4)
def AS:Nat->Int->(List Ab)->Int->(List Aa)->Option (((List Ab)×Int×(List Aa)) ⊕ (Ex Al Ad Aa))
 |0,_,_,_,_=>none
 |n+1,depth,p5,p6,e3 =>
  (AP (Ad.mk p5 p6) ⟨#[41]⟩).bind fun i1 =>
  bif (!i1) then
   ((bif (decide (0<(e3.length:Int))) then
    (Bg (Ad.mk p5 p6) ⟨#[44]⟩).bind fun y7=>match y7 with
    |.ok n_2 p17 =>
     some (.inl (p17.l,p17.forms))
    |.pan e11 p18=>some (.inr (.pan e11 p18))
   else
    some (.inl (p5,p6))
   ):Option (((List Ab)×Int) ⊕ (Ex Al Ad Aa))).bind fun y2=>match y2 with
   |.inl (p7,p8) =>
    bif ((e3.length:Int) == 40) then
     (BP (Ad.mk p7 p8) 0 true).bind fun y3=>match y3 with
     |.ok d p9 =>
      (AN p9 2).bind fun y4=>match y4 with
      |.ok f p11 =>
       (Ax n p11 (IntKind.i64.wrap (depth+1))).bind fun y5=>match y5 with
       |.ok e7 p13 =>
        (some [e7]).bind fun l =>
        (CO 65 e3 l).bind fun l1 =>
        AS n depth p13.l p13.forms l1
       |.pan e8 p14=>some (.inr (.pan e8 p14))
      |.pan e6 p12=>some (.inr (.pan e6 p12))
     |.pan e5 p10=>some (.inr (.pan e5 p10))
    else
     (Ax n (Ad.mk p7 p8) (IntKind.i64.wrap (depth+1))).bind fun y6=>match y6 with
     |.ok e9 p15 =>
      (some [e9]).bind fun l2 =>
      (CO 65 e3 l2).bind fun l3 =>
      AS n depth p15.l p15.forms l3
     |.pan e10 p16=>some (.inr (.pan e10 p16))
   |.inr o=>some (.inr o)
  else
   some (.inl (p5,p6,e3))
def Bb:Nat->Ad->Int->Option (Ex Al Ad Aa)
 |0,_,_=>none
 |n+1,p,depth =>
  (BA p).bind fun b =>
  ((bif (!b) then
   (AN p 5).bind fun y10=>match y10 with
   |.ok f1 p23 =>
    some (.inl (p23.l,p23.forms))
   |.pan e15 p24=>some (.inr (.pan e15 p24))
  else
   some (.inl (p.l,p.forms))
  ):Option (((List Ab)×Int) ⊕ (Ex Al Ad Aa))).bind fun y=>match y with
  |.inl (p1,p2) =>
   (AA (Ad.mk p1 p2)).bind fun t =>
   bif (t.1.Kind == 2) then
    some (.ok (Aa.mk 1 t.1.N t.1.S [] t.1.At) t.2)
   else
    bif (t.1.Kind == 3) then
     some (.ok (Aa.mk 2 t.1.N t.1.S [] t.1.At) t.2)
    else
     bif (t.1.Kind == 1) then
      (AP t.2 ⟨#[40]⟩).bind fun i =>
      bif (!i) then
       some (.ok (Aa.mk 3 t.1.N t.1.S [] t.1.At) t.2)
      else
       (AA t.2).bind fun n_ =>
       ((AS n depth n_.2.l n_.2.forms []
       ):Option (((List Ab)×Int×(List Aa)) ⊕ (Ex Al Ad Aa))).bind fun y1=>match y1 with
       |.inl (p3,p4,e1) =>
        (AA (Ad.mk p3 p4)).bind fun n_1 =>
        some (.ok (Aa.mk 4 t.1.N t.1.S e1 t.1.At) n_1.2)
       |.inr o=>some o
     else
      (Ax n t.2 (IntKind.i64.wrap (depth+1))).bind fun y8=>match y8 with
      |.ok e12 p19 =>
       (Bg p19 ⟨#[41]⟩).bind fun y9=>match y9 with
       |.ok n_3 p21 =>
        some (.ok e12 p21)
       |.pan e14 p22=>some (.pan e14 p22)
      |.pan e13 p20=>some (.pan e13 p20)
  |.inr o=>some o
end
def Ck (n:Nat)(p:Ad):Option (Ex Al Ad As) :=
 (AA p).bind fun t =>
 bif (t.1.Kind == 1) then
  some (.ok (As.mk 1 t.1.N t.1.S (Aa.mk 0 0 ⟨#[]⟩ [] 0) t.1.At) t.2)
 else
  bif (t.1.Kind == 2) then
   some (.ok (As.mk 2 t.1.N t.1.S (Aa.mk 0 0 ⟨#[]⟩ [] 0) t.1.At) t.2)
  else
   bif (t.1.Kind == 3) then
    some (.ok (As.mk 3 t.1.N t.1.S (Aa.mk 0 0 ⟨#[]⟩ [] 0) t.1.At) t.2)
   else
    bif (decide (t.1.S=⟨#[45]⟩)) then
     (Cp t.2).bind fun y=>match y with
     |.ok n_ p1 =>
      some (.ok (As.mk 2 (IntKind.i64.wrap (0-n_)) ⟨#[]⟩ (Aa.mk 0 0 ⟨#[]⟩ [] 0) t.1.At) p1)
     |.pan e p2=>some (.pan e p2)
    else
     bif (decide (t.1.S=⟨#[45,62]⟩)) then
      some (.ok (As.mk 4 t.1.N ⟨#[]⟩ (Aa.mk 0 0 ⟨#[]⟩ [] 0) t.1.At) t.2)
     else
      bif (decide (t.1.S=⟨#[40]⟩)) then
       (Ax n t.2 1).bind fun y1=>match y1 with
       |.ok e1 p3 =>
        (Bg p3 ⟨#[41]⟩).bind fun y2=>match y2 with
        |.ok n_1 p5 =>
         some (.ok (As.mk 5 t.1.N ⟨#[]⟩ e1 t.1.At) p5)
        |.pan e3 p6=>some (.pan e3 p6)
       |.pan e2 p4=>some (.pan e2 p4)
      else
       some (.ok (As.mk 0 t.1.N ⟨#[]⟩ (Aa.mk 0 0 ⟨#[]⟩ [] 0) t.1.At) t.2)
mutual
def Bv:Nat->Int->(List Ab)->Int->(List Af)->Option (((List Ab)×Int×(List Af)) ⊕ (Ex Al Ad Af))
 |0,_,_,_,_=>none
 |n+1,depth,p9,p10,f2 =>
  (AP (Ad.mk p9 p10) ⟨#[125]⟩).bind fun i =>
  bif (!i) then
   (Bh n (Ad.mk p9 p10) (IntKind.i64.wrap (depth+1))).bind fun y5=>match y5 with
   |.ok f3 p11 =>
    (some [f3]).bind fun l =>
    (CO 73 f2 l).bind fun l1 =>
    Bv n depth p11.l p11.forms l1
   |.pan e5 p12=>some (.inr (.pan e5 p12))
  else
   some (.inl (p9,p10,f2))
def AV:Nat->(List Ab)->Int->(List As)->Option (((List Ab)×Int×(List As)) ⊕ (Ex Al Ad Af))
 |0,_,_,_=>none
 |n+1,p13,p14,f4 =>
  (((AP (Ad.mk p13 p14) ⟨#[59]⟩).bind fun i2 =>
  bif (!i2) then
   (AP (Ad.mk p13 p14) ⟨#[123]⟩).bind fun i3 =>
   some (!i3)
  else
   some false
  ):Option Bool).bind fun v49 =>
   bif v49 then
    (((BA (Ad.mk p13 p14)).bind fun b =>
    bif (!b) then
     (AP (Ad.mk p13 p14) ⟨#[45,62]⟩).bind fun i1 =>
     some (!i1)
    else
     some false
    ):Option Bool).bind fun v57 =>
     ((bif v57 then
      (AN (Ad.mk p13 p14) 5).bind fun y12=>match y12 with
      |.ok f6 p23 =>
       some (.inl (p23.l,p23.forms))
      |.pan e12 p24=>some (.inr (.pan e12 p24))
     else
      some (.inl (p13,p14))
     ):Option (((List Ab)×Int) ⊕ (Ex Al Ad Af))).bind fun y8=>match y8 with
     |.inl (p15,p16) =>
      bif ((f4.length:Int) == 40) then
       (AN (Ad.mk p15 p16) 2).bind fun y9=>match y9 with
       |.ok f5 p17 =>
        (Ck n p17).bind fun y10=>match y10 with
        |.ok a_ p19 =>
         (some [a_]).bind fun l2 =>
         (CO 105 f4 l2).bind fun l3 =>
         AV n p19.l p19.forms l3
        |.pan e10 p20=>some (.inr (.pan e10 p20))
       |.pan e9 p18=>some (.inr (.pan e9 p18))
      else
       (Ck n (Ad.mk p15 p16)).bind fun y11=>match y11 with
       |.ok a_1 p21 =>
        (some [a_1]).bind fun l4 =>
        (CO 105 f4 l4).bind fun l5 =>
        AV n p21.l p21.forms l5
       |.pan e11 p22=>some (.inr (.pan e11 p22))
     |.inr o=>some (.inr o)
   else
    some (.inl (p13,p14,f4))
def Bh:Nat->Ad->Int->Option (Ex Al Ad Af)
 |0,_,_=>none
 |n+1,p,depth =>
  (gi p.l 0).bind fun x =>
  ((bif (x.Kind != 1) then
   (AN p 5).bind fun y14=>match y14 with
   |.ok f8 p27 =>
    some (.inl (p27.l,p27.forms))
   |.pan e14 p28=>some (.inr (.pan e14 p28))
  else
   some (.inl (p.l,p.forms))
  ):Option (((List Ab)×Int) ⊕ (Ex Al Ad Af))).bind fun y=>match y with
  |.inl (p1,p2) =>
   ((bif (decide (30<depth)) then
    some true
   else
    some (decide (2000<(IntKind.i64.wrap (p2+1))))
   ):Option Bool).bind fun v32 =>
    ((bif v32 then
     (AN (Ad.mk p1 (IntKind.i64.wrap (p2+1))) 2).bind fun y13=>match y13 with
     |.ok f7 p25 =>
      some (.inl (p25.l,p25.forms))
     |.pan e13 p26=>some (.inr (.pan e13 p26))
    else
     some (.inl (p1,(IntKind.i64.wrap (p2+1))))
    ):Option (((List Ab)×Int) ⊕ (Ex Al Ad Af))).bind fun y2=>match y2 with
    |.inl (p3,p4) =>
     (AA (Ad.mk p3 p4)).bind fun t =>
     ((AV n t.2.l t.2.forms []
     ):Option (((List Ab)×Int×(List As)) ⊕ (Ex Al Ad Af))).bind fun y3=>match y3 with
     |.inl (p5,p6,f) =>
      (AA (Ad.mk p5 p6)).bind fun n_ =>
      bif (decide (n_.1.S=⟨#[59]⟩)) then
       some (.ok (Af.mk t.1.S f [] t.1.At) n_.2)
      else
       ((Bv n depth n_.2.l n_.2.forms []
       ):Option (((List Ab)×Int×(List Af)) ⊕ (Ex Al Ad Af))).bind fun y4=>match y4 with
       |.inl (p7,p8,f1) =>
        (AA (Ad.mk p7 p8)).bind fun n_1 =>
        some (.ok (Af.mk t.1.S f f1 t.1.At) n_1.2)
       |.inr o=>some o
     |.inr o=>some o
    |.inr o=>some o
  |.inr o=>some o
end
mutual
def Bp:Nat->Aa->Aa->Option Bool
 |0,_,_=>none
 |n+1,a_,b =>
  bif (a_.Op != b.Op) then
   some false
  else
   bif (a_.Op == 1) then
    some (a_.N == b.N)
   else
    ((bif (a_.Op == 2) then
     some (a_.Op == 2)
    else
     some (a_.Op == 3)
    ):Option Bool).bind fun v19 =>
     bif v19 then
      some (decide (a_.S=b.S))
     else
      bif (a_.Op == 4) then
       bif (!decide (a_.S=b.S)) then
        some false
       else
        (Bf n a_.Kids b.Kids).bind fun e1 =>
        some e1
      else
       (Bf n a_.Kids b.Kids).bind fun e2 =>
       some e2
def Bm:Nat->(List Aa)->(List Aa)->Int->Option (Unit ⊕ Bool)
 |0,_,_,_=>none
 |n+1,s1,s2,v17 =>
  bif (decide (v17<(s1.length:Int))) then
   (gi s1 v17).bind fun x =>
   (gi s2 v17).bind fun x1 =>
   (Bp n x x1).bind fun s =>
   bif (!s) then
    some (.inr false)
   else
    Bm n s1 s2 (IntKind.i64.wrap (v17+1))
  else
   some (.inl ())
def Bf:Nat->(List Aa)->(List Aa)->Option Bool
 |0,_,_=>none
 |n+1,s1,s2 =>
  bif ((s1.length:Int) != (s2.length:Int)) then
   some false
  else
   ((Bm n s1 s2 0
   ):Option (Unit ⊕ Bool)).bind fun y=>match y with
   |.inl _ =>
    some true
   |.inr o=>some o
end
def DE (n:Nat)(a_:As)(b:As):Option Bool :=
 bif (a_.Kind != b.Kind) then
  some false
 else
  ((bif (a_.Kind == 1) then
   some (a_.Kind == 1)
  else
   some (a_.Kind == 3)
  ):Option Bool).bind fun v12 =>
   bif v12 then
    some (decide (a_.S=b.S))
   else
    bif (a_.Kind == 2) then
     some (a_.N == b.N)
    else
     bif (a_.Kind == 5) then
      (Bp n a_.E b.E).bind fun s =>
      some s
     else
      some true
def Bk:Nat->(List As)->(List As)->Int->Option (Unit ⊕ Bool)
 |0,_,_,_=>none
 |n+1,s1,s2,v17 =>
  bif (decide (v17<(s1.length:Int))) then
   (gi s1 v17).bind fun x =>
   (gi s2 v17).bind fun x1 =>
   (DE n x x1).bind fun s =>
   bif (!s) then
    some (.inr false)
   else
    Bk n s1 s2 (IntKind.i64.wrap (v17+1))
  else
   some (.inl ())
def Cj (n:Nat)(s1:(List As))(s2:(List As)):Option Bool :=
 bif ((s1.length:Int) != (s2.length:Int)) then
  some false
 else
  ((Bk n s1 s2 0
  ):Option (Unit ⊕ Bool)).bind fun y=>match y with
  |.inl _ =>
   some true
  |.inr o=>some o
mutual
def BO:Nat->(List Af)->(List Af)->Option Bool
 |0,_,_=>none
 |n+1,a_,b =>
  (Bs n a_ b).bind fun f =>
  some f
def Bl:Nat->(List Af)->(List Af)->Int->Option (Unit ⊕ Bool)
 |0,_,_,_=>none
 |n+1,s1,s2,v17 =>
  bif (decide (v17<(s1.length:Int))) then
   (gi s1 v17).bind fun x =>
   (gi s2 v17).bind fun x1 =>
   (C3 n x x1).bind fun s =>
   bif (!s) then
    some (.inr false)
   else
    Bl n s1 s2 (IntKind.i64.wrap (v17+1))
  else
   some (.inl ())
def Bs:Nat->(List Af)->(List Af)->Option Bool
 |0,_,_=>none
 |n+1,s1,s2 =>
  bif ((s1.length:Int) != (s2.length:Int)) then
   some false
  else
   ((Bl n s1 s2 0
   ):Option (Unit ⊕ Bool)).bind fun y=>match y with
   |.inl _ =>
    some true
   |.inr o=>some o
def C3:Nat->Af->Af->Option Bool
 |0,_,_=>none
 |n+1,x,y =>
  ((bif (decide (x.Word=y.Word)) then
   (Cj n x.Args y.Args).bind fun a_ =>
   bif a_ then
    (BO n x.Body y.Body).bind fun s =>
    some s
   else
    some false
  else
   some false
  ):Option Bool).bind fun v4 =>
   some v4
end
def BR (p:Ag)(n_:Int):Option (Unit×Ag) :=
 ((bif p.bad then
  some true
 else
  bif (decide (n_<0)) then
   some true
  else
   some (decide (999999999999999<n_))
 ):Option Bool).bind fun p1 =>
  (some [(Ab.mk 2 0 ⟨#[]⟩ n_)]).bind fun l =>
  (CO 41 p.l l).bind fun l1 =>
  some ((),(Ag.mk l1 p1))
def BK:Nat->ByteArray->Int->Bool->Option Bool
 |0,_,_,_=>none
 |n+1,s,v19,p3 =>
  bif (decide (v19<(s.size:Int))) then
   ((bif p3 then
    some true
   else
    (gb s v19).bind fun c =>
    bif (c != 10) then
     bif (decide (c<32)) then
      some true
     else
      some (decide (126<c))
    else
     some false
   ):Option Bool).bind fun p4 =>
    BK n s (IntKind.i64.wrap (v19+1)) p4
  else
   some p3
def Cx (n:Nat)(p:Ag)(s:ByteArray):Option (Unit×Ag) :=
 ((bif p.bad then
  some true
 else
  some (decide (200<(s.size:Int)))
 ):Option Bool).bind fun p1 =>
  ((BK n s 0 p1
  ):Option Bool).bind fun p2 =>
   (some [(Ab.mk 3 0 s 0)]).bind fun l =>
   (CO 41 p.l l).bind fun l1 =>
   some ((),(Ag.mk l1 p2))
def BS (c:Int):Option Bool :=
 ((bif (decide (97<=(bits .or .u8 c 32))) then
  bif (decide ((bits .or .u8 c 32)<=122)) then
   some true
  else
   some (c == 95)
 else
  some (c == 95)
 ):Option Bool).bind fun v2 =>
  some v2
def Bz:Nat->ByteArray->Bool->Int->Option Bool
 |0,_,_,_=>none
 |n+1,s,ok2,v17 =>
  bif (decide (v17<(s.size:Int))) then
   ((bif ok2 then
    (gb s v17).bind fun c =>
    (BS c).bind fun n_ =>
    bif n_ then
     some true
    else
     bif (decide (0<v17)) then
      bif (decide (48<=c)) then
       some (decide (c<=57))
      else
       some false
     else
      some false
   else
    some false
   ):Option Bool).bind fun ok3 =>
    Bz n s ok3 (IntKind.i64.wrap (v17+1))
  else
   some ok2
def BW (n:Nat)(p:Ag)(s:ByteArray):Option (Unit×Ag) :=
 ((bif (decide (0<(s.size:Int))) then
  some (decide ((s.size:Int)<=32))
 else
  some false
 ):Option Bool).bind fun ok =>
  ((Bz n s ok 0
  ):Option Bool).bind fun ok1 =>
   ((bif p.bad then
    some true
   else
    some (!ok1)
   ):Option Bool).bind fun p1 =>
    (some [(Ab.mk 1 0 s 0)]).bind fun l =>
    (CO 41 p.l l).bind fun l1 =>
    some ((),(Ag.mk l1 p1))
def BV:Nat->(List ByteArray)->Int->(List Ab)->Option (List Ab)
 |0,_,_,_=>none
 |n+1,l,v8,p2 =>
  bif (decide (v8<(l.length:Int))) then
   (gi l v8).bind fun x =>
   (some [(Ab.mk 4 0 x 0)]).bind fun l1 =>
   (CO 41 p2 l1).bind fun l2 =>
   BV n l (IntKind.i64.wrap (v8+1)) l2
  else
   some p2
def A9 (n:Nat)(p:Ag)(l:(List ByteArray)):Option (Unit×Ag) :=
 ((BV n l 0 p.l
 ):Option (List Ab)).bind fun p1 =>
  some ((),(Ag.mk p1 p.bad))
def CH:Nat->(List Aq)->Aa->Int->Option (Unit ⊕ Int)
 |0,_,_,_=>none
 |n+1,o_,e,v15 =>
  bif (decide (v15<(o_.length:Int))) then
   (gi o_ v15).bind fun x =>
   bif (x.op == e.Op) then
    some (.inr x.level)
   else
    CH n o_ e (IntKind.i64.wrap (v15+1))
  else
   some (.inl ())
def Ep (n:Nat)(e:Aa):Option Int :=
 bif (e.Op == 20) then
  some 0
 else
  bif (e.Op == 5) then
   some 3
  else
   bif (e.Op == 6) then
    some 7
   else
    (Cv).bind fun o_ =>
    ((CH n o_ e 0
    ):Option (Unit ⊕ Int)).bind fun y=>match y with
    |.inl _ =>
     some 8
    |.inr o=>some o
def C1 (p:(List Ab))(p1:Bool)(e:Int)(e1:Int)(e2:ByteArray)(e3:(List Aa))(e4:Int)(b:Aq):Option Bool :=
 some (b.op == e)
def AT:Nat->(List Aq)->(List Ab)->Bool->Int->Int->ByteArray->(List Aa)->Int->Int->Option (Unit ⊕ Int)
 |0,_,_,_,_,_,_,_,_,_=>none
 |n+1,s,p,p1,e,e1,e2,e3,e4,v8 =>
  bif (decide (v8<(s.length:Int))) then
   (gi s v8).bind fun x =>
   (C1 p p1 e e1 e2 e3 e4 x).bind fun e6 =>
   bif e6 then
    some (.inr v8)
   else
    AT n s p p1 e e1 e2 e3 e4 (IntKind.i64.wrap (v8+1))
  else
   some (.inl ())
def BC (n:Nat)(p:(List Ab))(p1:Bool)(e:Int)(e1:Int)(e2:ByteArray)(e3:(List Aa))(e4:Int)(s:(List Aq)):Option Int :=
 ((AT n s p p1 e e1 e2 e3 e4 0
 ):Option (Unit ⊕ Int)).bind fun y=>match y with
 |.inl _ =>
  some (-1)
 |.inr o=>some o
mutual
def Bo:Nat->Aa->(List ByteArray)->Int->(List Ab)->Bool->Option ((List Ab)×Bool)
 |0,_,_,_,_,_=>none
 |n+1,e,l,v89,p3,p4 =>
  bif (decide (v89<(e.Kids.length:Int))) then
   (gi e.Kids v89).bind fun x =>
   bif (decide (0<v89)) then
    (some [⟨#[44]⟩]).bind fun l2 =>
    (A9 n (Ag.mk p3 p4) l2).bind fun s2 =>
    (A8 n s2.2 x 0).bind fun o_ =>
    Bo n e l (IntKind.i64.wrap (v89+1)) o_.2.l o_.2.bad
   else
    (A8 n (Ag.mk p3 p4) x 0).bind fun o_1 =>
    Bo n e l (IntKind.i64.wrap (v89+1)) o_1.2.l o_1.2.bad
  else
   some (p3,p4)
def AZ:Nat->Ag->Aa->Option (Unit×Ag)
 |0,_,_=>none
 |n+1,p,e =>
  bif (e.Op == 1) then
   (BR p e.N).bind fun n_ =>
   some ((),n_.2)
  else
   bif (e.Op == 2) then
    (Cx n p e.S).bind fun t =>
    some ((),t.2)
   else
    bif (e.Op == 3) then
     (BW n p e.S).bind fun n_1 =>
     some ((),n_1.2)
    else
     bif (e.Op == 4) then
      (BW n p e.S).bind fun n_2 =>
      (some [⟨#[40]⟩]).bind fun l =>
      (A9 n n_2.2 l).bind fun s =>
      ((Bo n e l 0 s.2.l s.2.bad
      ):Option ((List Ab)×Bool)).bind fun y=>match y with
      |(p1,p2) =>
       (some [⟨#[41]⟩]).bind fun l1 =>
       (A9 n (Ag.mk p1 p2) l1).bind fun s1 =>
       some ((),s1.2)
     else
      ((bif (e.Op == 5) then
       some (e.Op == 5)
      else
       bif (e.Op == 6) then
        some (e.Op == 6)
       else
        some (e.Op == 20)
      ):Option Bool).bind fun v106 =>
       bif v106 then
        bif ((e.Kids.length:Int) != ((FR [(5,1),(6,1),(20,3)] e.Op).1)) then
         some ((),(Ag.mk p.l true))
        else
         bif (e.Op == 5) then
          (some [⟨#[33]⟩]).bind fun l3 =>
          (A9 n p l3).bind fun s3 =>
          (gi e.Kids 0).bind fun x1 =>
          (A8 n s3.2 x1 3).bind fun o_2 =>
          some ((),o_2.2)
         else
          bif (e.Op == 6) then
           (some [⟨#[45]⟩]).bind fun l4 =>
           (A9 n p l4).bind fun s4 =>
           (gi e.Kids 0).bind fun x2 =>
           (A8 n s4.2 x2 7).bind fun o_3 =>
           some ((),o_3.2)
          else
           (gi e.Kids 0).bind fun x3 =>
           (A8 n p x3 1).bind fun o_4 =>
           (some [⟨#[63]⟩]).bind fun l5 =>
           (A9 n o_4.2 l5).bind fun s5 =>
           (gi e.Kids 1).bind fun x4 =>
           (A8 n s5.2 x4 0).bind fun o_5 =>
           (some [⟨#[58]⟩]).bind fun l6 =>
           (A9 n o_5.2 l6).bind fun s6 =>
           (gi e.Kids 2).bind fun x5 =>
           (A8 n s6.2 x5 0).bind fun o_6 =>
           some ((),o_6.2)
       else
        (Cv).bind fun o_7 =>
        (BC n p.l p.bad e.Op e.N e.S e.Kids e.At o_7).bind fun k =>
        ((bif (decide (k<0)) then
         some true
        else
         some ((e.Kids.length:Int) != 2)
        ):Option Bool).bind fun v24 =>
         bif v24 then
          some ((),(Ag.mk p.l true))
         else
          (Cv).bind fun o_8 =>
          (gi o_8 k).bind fun x6 =>
          ((bif (x6.level == 4) then
           some 5
          else
           some x6.level
          ):Option Int).bind fun left =>
           (gi e.Kids 0).bind fun x7 =>
           (A8 n p x7 left).bind fun o_9 =>
           (some [x6.sign]).bind fun l7 =>
           (A9 n o_9.2 l7).bind fun s7 =>
           (gi e.Kids 1).bind fun x8 =>
           (A8 n s7.2 x8 (if (IntKind.i64.wrap (x6.level+1)) > left then (IntKind.i64.wrap (x6.level+1)) else left)).bind fun o_10 =>
           some ((),o_10.2)
def A8:Nat->Ag->Aa->Int->Option (Unit×Ag)
 |0,_,_,_=>none
 |n+1,p,e,need =>
  (Ep n e).bind fun l =>
  bif (decide (need<=l)) then
   (AZ n p e).bind fun e1 =>
   some ((),e1.2)
  else
   (some [⟨#[40]⟩]).bind fun l1 =>
   (A9 n p l1).bind fun s =>
   (AZ n s.2 e).bind fun e2 =>
   (some [⟨#[41]⟩]).bind fun l2 =>
   (A9 n e2.2 l2).bind fun s1 =>
   some ((),s1.2)
end
def A2 (l:(List Ab))(k:Int)(s:ByteArray):Option Bool :=
 (((gi l k).bind fun x =>
 bif (x.Kind == 4) then
  some (decide (x.S=s))
 else
  some false
 ):Option Bool).bind fun v6 =>
  some v6
def DV (l:(List Ab))(k:Int):Option Bool :=
 (A2 l k ⟨#[40]⟩).bind fun open_ =>
 (A2 l k ⟨#[45]⟩).bind fun minus =>
 (((gi l k).bind fun x =>
 bif (decide (1<=x.Kind)) then
  bif (decide (x.Kind<=3)) then
   some true
  else
   bif open_ then
    some true
   else
    some minus
 else
  bif open_ then
   some true
  else
   some minus
 ):Option Bool).bind fun v4 =>
  some v4
def Dr (l:(List Ab))(k:Int)(depth:Int)(not_:Bool):Option Int :=
 (DV l k).bind fun can =>
 (A2 l k ⟨#[33]⟩).bind fun bang =>
 ((bif (!can) then
  bif (!not_) then
   some true
  else
   some (!bang)
 else
  some false
 ):Option Bool).bind fun v26 =>
  bif v26 then
   some 5
  else
   bif (decide (30<depth)) then
    some 2
   else
    some 0
def Cr:Nat->(List ByteArray)->(List Ab)->Int->(List Int)->Int->Option (Unit ⊕ BH)
 |0,_,_,_,_,_=>none
 |n+1,l1,l,k,l2,i =>
  bif (decide (i<(l1.length:Int))) then
   (gi l1 i).bind fun x =>
   (A2 l k x).bind fun is_ =>
   bif is_ then
    (gi l2 i).bind fun x1 =>
    some (.inr (BH.mk x1 (IntKind.i64.wrap (7+i))))
   else
    Cr n l1 l k l2 (IntKind.i64.wrap (i+1))
  else
   some (.inl ())
def EZ (n:Nat)(l:(List Ab))(k:Int):Option BH :=
 (some [⟨#[42]⟩,⟨#[47]⟩,⟨#[37]⟩,⟨#[43]⟩,⟨#[45]⟩,⟨#[61,61]⟩,⟨#[33,61]⟩,⟨#[60]⟩,⟨#[60,61]⟩,⟨#[62]⟩,⟨#[62,61]⟩,⟨#[38,38]⟩,⟨#[124,124]⟩]).bind fun l1 =>
 (some [6,6,6,5,5,4,4,4,4,4,4,2,1]).bind fun l2 =>
 ((Cr n l1 l k l2 0
 ):Option (Unit ⊕ BH)).bind fun y=>match y with
 |.inl _ =>
  some (BH.mk 0 0)
 |.inr o=>some o
mutual
def AI:Nat->(List Ab)->Int->Int->Option A0
 |0,_,_,_=>none
 |n+1,l,k,depth =>
  (Dr l k depth true).bind fun e =>
  bif (e != 0) then
   some (A0.mk (Aa.mk 0 0 ⟨#[]⟩ [] 0) k e)
  else
   (A1 n l k 1 depth).bind fun c =>
   bif (c.E != 0) then
    some c
   else
    (A2 l c.To ⟨#[63]⟩).bind fun ask =>
    bif (!ask) then
     some c
    else
     (AI n l (IntKind.i64.wrap (c.To+1)) (IntKind.i64.wrap (depth+1))).bind fun a_ =>
     bif (a_.E != 0) then
      some a_
     else
      (A2 l a_.To ⟨#[58]⟩).bind fun colon =>
      bif (!colon) then
       some (A0.mk (Aa.mk 0 0 ⟨#[]⟩ [] 0) a_.To 5)
      else
       (AI n l (IntKind.i64.wrap (a_.To+1)) (IntKind.i64.wrap (depth+1))).bind fun b =>
       bif (b.E != 0) then
        some b
       else
        (some [c.X,a_.X,b.X]).bind fun l1 =>
        some (A0.mk (Aa.mk 20 0 ⟨#[]⟩ l1 c.X.At) b.To 0)
def AF:Nat->(List Ab)->Int->A0->Int->Int->Int->ByteArray->(List Aa)->Int->Int->Option ((Int×Int×ByteArray×(List Aa)×Int×Int) ⊕ A0)
 |0,_,_,_,_,_,_,_,_,_,_=>none
 |n+1,l,n_,x,depth,x7,x8,x9,x10,x11,x12 =>
  bif (x12 == 0) then
   (EZ n l x11).bind fun op =>
   bif (op.N != n_) then
    some (.inr (A0.mk (Aa.mk x7 x8 x9 x10 x.X.At) x11 x12))
   else
    (A1 n l (IntKind.i64.wrap (x11+1)) (IntKind.i64.wrap (n_+1)) depth).bind fun y1 =>
    bif (y1.E != 0) then
     some (.inr y1)
    else
     (some [(Aa.mk x7 x8 x9 x10 x.X.At),y1.X]).bind fun l1 =>
     bif (n_ == 4) then
      some (.inr (A0.mk (Aa.mk op.Op 0 ⟨#[]⟩ l1 x.X.At) y1.To 0))
     else
      AF n l n_ x depth op.Op 0 ⟨#[]⟩ l1 y1.To 0
  else
   some (.inl (x7,x8,x9,x10,x11,x12))
def A1:Nat->(List Ab)->Int->Int->Int->Option A0
 |0,_,_,_,_=>none
 |n+1,l,k,n_,depth =>
  bif (decide (6<n_)) then
   (Bu n l k depth).bind fun m_ =>
   some m_
  else
   bif (n_ == 3) then
    (BE n l k depth).bind fun b =>
    some b
   else
    (A1 n l k (IntKind.i64.wrap (n_+1)) depth).bind fun x =>
    ((AF n l n_ x depth x.X.Op x.X.N x.X.S x.X.Kids x.To x.E
    ):Option ((Int×Int×ByteArray×(List Aa)×Int×Int) ⊕ A0)).bind fun y=>match y with
    |.inl (x1,x2,x3,x4,x5,x6) =>
     some (A0.mk (Aa.mk x1 x2 x3 x4 x.X.At) x5 x6)
    |.inr o=>some o
def Bu:Nat->(List Ab)->Int->Int->Option A0
 |0,_,_,_=>none
 |n+1,l,k,depth =>
  (A2 l k ⟨#[45]⟩).bind fun is_ =>
  bif (!is_) then
   (B0 n l k depth).bind fun a_ =>
   some a_
  else
   (Dr l (IntKind.i64.wrap (k+1)) (IntKind.i64.wrap (depth+1)) false).bind fun e =>
   bif (e != 0) then
    some (A0.mk (Aa.mk 0 0 ⟨#[]⟩ [] 0) (IntKind.i64.wrap (k+1)) e)
   else
    (Bu n l (IntKind.i64.wrap (k+1)) (IntKind.i64.wrap (depth+1))).bind fun x =>
    bif (x.E != 0) then
     some x
    else
     (gi l k).bind fun x1 =>
     (some [x.X]).bind fun l1 =>
     some (A0.mk (Aa.mk 6 0 ⟨#[]⟩ l1 x1.At) x.To 0)
def B0:Nat->(List Ab)->Int->Int->Option A0
 |0,_,_,_=>none
 |n+1,l,k,depth =>
  (gi l k).bind fun x =>
  (A2 l k ⟨#[40]⟩).bind fun open_ =>
  bif open_ then
   (AI n l (IntKind.i64.wrap (k+1)) (IntKind.i64.wrap (depth+1))).bind fun x1 =>
   bif (x1.E != 0) then
    some x1
   else
    (A2 l x1.To ⟨#[41]⟩).bind fun shut =>
    bif (!shut) then
     some (A0.mk (Aa.mk 0 0 ⟨#[]⟩ [] 0) x1.To 5)
    else
     some (A0.mk x1.X (IntKind.i64.wrap (x1.To+1)) 0)
  else
   bif (x.Kind == 2) then
    some (A0.mk (Aa.mk 1 x.N ⟨#[]⟩ [] x.At) (IntKind.i64.wrap (k+1)) 0)
   else
    bif (x.Kind == 3) then
     some (A0.mk (Aa.mk 2 0 x.S [] x.At) (IntKind.i64.wrap (k+1)) 0)
    else
     bif (x.Kind != 1) then
      some (A0.mk (Aa.mk 0 0 ⟨#[]⟩ [] 0) k 5)
     else
      (A2 l (IntKind.i64.wrap (k+1)) ⟨#[40]⟩).bind fun call =>
      bif (!call) then
       some (A0.mk (Aa.mk 3 0 x.S [] x.At) (IntKind.i64.wrap (k+1)) 0)
      else
       (Co n l k depth).bind fun a_ =>
       some a_
def BE:Nat->(List Ab)->Int->Int->Option A0
 |0,_,_,_=>none
 |n+1,l,k,depth =>
  (A2 l k ⟨#[33]⟩).bind fun is_ =>
  bif (!is_) then
   (A1 n l k 4 depth).bind fun b =>
   some b
  else
   (Dr l (IntKind.i64.wrap (k+1)) (IntKind.i64.wrap (depth+1)) true).bind fun e =>
   bif (e != 0) then
    some (A0.mk (Aa.mk 0 0 ⟨#[]⟩ [] 0) (IntKind.i64.wrap (k+1)) e)
   else
    (BE n l (IntKind.i64.wrap (k+1)) (IntKind.i64.wrap (depth+1))).bind fun x =>
    bif (x.E != 0) then
     some x
    else
     (gi l k).bind fun x1 =>
     (some [x.X]).bind fun l1 =>
     some (A0.mk (Aa.mk 5 0 ⟨#[]⟩ l1 x1.At) x.To 0)
def B3:Nat->(List Ab)->Int->Ab->Int->(List Aa)->Option A0
 |0,_,_,_,_,_=>none
 |n+1,l,depth,x,at_,out =>
  (Dr l at_ (IntKind.i64.wrap (depth+1)) true).bind fun e =>
  ((bif (e == 0) then
   bif ((out.length:Int) == 40) then
    some true
   else
    some (e == 2)
  else
   some (e == 2)
  ):Option Bool).bind fun v51 =>
   bif v51 then
    some (A0.mk (Aa.mk 0 0 ⟨#[]⟩ [] 0) at_ 2)
   else
    (AI n l at_ (IntKind.i64.wrap (depth+1))).bind fun x1 =>
    bif (x1.E != 0) then
     some x1
    else
     (some [x1.X]).bind fun l1 =>
     (CO 65 out l1).bind fun l2 =>
     (A2 l x1.To ⟨#[41]⟩).bind fun shut =>
     bif shut then
      some (A0.mk (Aa.mk 4 0 x.S l2 x.At) (IntKind.i64.wrap (x1.To+1)) 0)
     else
      (A2 l x1.To ⟨#[44]⟩).bind fun comma =>
      bif (!comma) then
       some (A0.mk (Aa.mk 0 0 ⟨#[]⟩ [] 0) x1.To 5)
      else
       B3 n l depth x (IntKind.i64.wrap (x1.To+1)) l2
def Co:Nat->(List Ab)->Int->Int->Option A0
 |0,_,_,_=>none
 |n+1,l,k,depth =>
  (gi l k).bind fun x =>
  (A2 l (IntKind.i64.wrap (k+2)) ⟨#[41]⟩).bind fun empty =>
  bif empty then
   some (A0.mk (Aa.mk 4 0 x.S [] x.At) (IntKind.i64.wrap ((IntKind.i64.wrap (k+2))+1)) 0)
  else
   B3 n l depth x (IntKind.i64.wrap (k+2)) []
end
def C6 (n:Nat)(l:(List Ab))(k:Int):Option BY :=
 (gi l k).bind fun x =>
 ((bif (decide (1<=x.Kind)) then
  some (decide (x.Kind<=3))
 else
  some false
 ):Option Bool).bind fun v21 =>
  bif v21 then
   some (BY.mk (As.mk x.Kind x.N x.S (Aa.mk 0 0 ⟨#[]⟩ [] 0) x.At) (IntKind.i64.wrap (k+1)) 0)
  else
   (A2 l k ⟨#[45,62]⟩).bind fun arrow =>
   bif arrow then
    some (BY.mk (As.mk 4 0 ⟨#[]⟩ (Aa.mk 0 0 ⟨#[]⟩ [] 0) x.At) (IntKind.i64.wrap (k+1)) 0)
   else
    (A2 l k ⟨#[45]⟩).bind fun minus =>
    bif minus then
     (gi l (IntKind.i64.wrap (k+1))).bind fun x1 =>
     bif (x1.Kind != 2) then
      some (BY.mk (As.mk 0 0 ⟨#[]⟩ (Aa.mk 0 0 ⟨#[]⟩ [] 0) 0) (IntKind.i64.wrap (k+1)) 5)
     else
      some (BY.mk (As.mk 2 (IntKind.i64.wrap (0-x1.N)) ⟨#[]⟩ (Aa.mk 0 0 ⟨#[]⟩ [] 0) x.At) (IntKind.i64.wrap (k+2)) 0)
    else
     (AI n l (IntKind.i64.wrap (k+1)) 1).bind fun x2 =>
     bif (x2.E != 0) then
      some (BY.mk (As.mk 0 0 ⟨#[]⟩ (Aa.mk 0 0 ⟨#[]⟩ [] 0) 0) x2.To x2.E)
     else
      (A2 l x2.To ⟨#[41]⟩).bind fun shut =>
      bif (!shut) then
       some (BY.mk (As.mk 0 0 ⟨#[]⟩ (Aa.mk 0 0 ⟨#[]⟩ [] 0) 0) x2.To 5)
      else
       some (BY.mk (As.mk 5 0 ⟨#[]⟩ x2.X x.At) (IntKind.i64.wrap (x2.To+1)) 0)
mutual
def Be:Nat->(List Ab)->Ab->(List As)->Int->(List Af)->Int->Int->Option BJ
 |0,_,_,_,_,_,_,_=>none
 |n+1,l,x,out,depth,out2,out3,out4 =>
  (A2 l out3 ⟨#[125]⟩).bind fun shut =>
  bif shut then
   some (BJ.mk (Af.mk x.S out out2 x.At) (IntKind.i64.wrap (out3+1)) out4 0)
  else
   (BU n l out3 (IntKind.i64.wrap (depth+1)) out4).bind fun x1 =>
   bif (x1.E != 0) then
    some x1
   else
    (some [x1.F]).bind fun l1 =>
    (CO 73 out2 l1).bind fun l2 =>
    Be n l x out depth l2 x1.To x1.N
def AU:Nat->(List Ab)->Ab->Int->(List As)->Int->Option (((List As)×Int) ⊕ BJ)
 |0,_,_,_,_,_=>none
 |n+1,l,x,n_,out5,out6 =>
  (A2 l out6 ⟨#[59]⟩).bind fun semi =>
  bif semi then
   some (.inr (BJ.mk (Af.mk x.S out5 [] x.At) (IntKind.i64.wrap (out6+1)) (IntKind.i64.wrap (n_+1)) 0))
  else
   (A2 l out6 ⟨#[123]⟩).bind fun open_ =>
   bif open_ then
    some (.inl (out5,out6))
   else
    (DV l out6).bind fun can =>
    (A2 l out6 ⟨#[45,62]⟩).bind fun arrow =>
    ((bif (!can) then
     some (!arrow)
    else
     some false
    ):Option Bool).bind fun v77 =>
     bif v77 then
      some (.inr (BJ.mk (Af.mk ⟨#[]⟩ [] [] 0) out6 0 5))
     else
      bif ((out5.length:Int) == 40) then
       some (.inr (BJ.mk (Af.mk ⟨#[]⟩ [] [] 0) out6 0 2))
      else
       (C6 n l out6).bind fun a_ =>
       bif (a_.E != 0) then
        some (.inr (BJ.mk (Af.mk ⟨#[]⟩ [] [] 0) a_.To 0 a_.E))
       else
        (some [a_.A]).bind fun l3 =>
        (CO 105 out5 l3).bind fun l4 =>
        AU n l x n_ l4 a_.To
def BU:Nat->(List Ab)->Int->Int->Int->Option BJ
 |0,_,_,_,_=>none
 |n+1,l,k,depth,n_ =>
  (gi l k).bind fun x =>
  bif (x.Kind != 1) then
   some (BJ.mk (Af.mk ⟨#[]⟩ [] [] 0) k 0 5)
  else
   ((bif (decide (30<depth)) then
    some true
   else
    some (decide (2000<=n_))
   ):Option Bool).bind fun v30 =>
    bif v30 then
     some (BJ.mk (Af.mk ⟨#[]⟩ [] [] 0) k 0 2)
    else
     ((AU n l x n_ [] (IntKind.i64.wrap (k+1))
     ):Option (((List As)×Int) ⊕ BJ)).bind fun y1=>match y1 with
     |.inl (out,out1) =>
      Be n l x out depth [] (IntKind.i64.wrap (out1+1)) (IntKind.i64.wrap (n_+1))
     |.inr o=>some o
end
mutual
def Ct:Nat->Aa->Int->Int->Option Int
 |0,_,_,_=>none
 |n+1,e,n_2,k =>
  ((bif (decide (k<(e.Kids.length:Int))) then
   some (decide (0<=n_2))
  else
   some false
  ):Option Bool).bind fun v24 =>
   bif v24 then
    (gi e.Kids k).bind fun x =>
    (Ca n x n_2).bind fun n_3 =>
    Ct n e n_3 (IntKind.i64.wrap (k+1))
   else
    some n_2
def Ca:Nat->Aa->Int->Option Int
 |0,_,_=>none
 |n+1,e,n_ =>
  ((bif (decide (n_<=0)) then
   some true
  else
   some (decide (300<(e.S.size:Int)))
  ):Option Bool).bind fun v13 =>
   bif v13 then
    some (-1)
   else
    ((Ct n e (IntKind.i64.wrap (n_-1)) 0
    ):Option Int).bind fun n_1 =>
     some n_1
end
mutual
def Cs:Nat->Af->Int->Int->Option (Int ⊕ Int)
 |0,_,_,_=>none
 |n+1,x,n_5,i =>
  ((bif (decide (i<(x.Args.length:Int))) then
   some (decide (0<=n_5))
  else
   some false
  ):Option Bool).bind fun v47 =>
   bif v47 then
    (gi x.Args i).bind fun x1 =>
    bif (decide (300<(x1.S.size:Int))) then
     some (.inr (-1))
    else
     (Ca n x1.E n_5).bind fun n_6 =>
     Cs n x n_6 (IntKind.i64.wrap (i+1))
   else
    some (.inl n_5)
def Bq:Nat->(List Af)->Int->Int->Option (Int ⊕ Int)
 |0,_,_,_=>none
 |n+1,l,n_2,k =>
  ((bif (decide (k<(l.length:Int))) then
   some (decide (0<=n_2))
  else
   some false
  ):Option Bool).bind fun v18 =>
   bif v18 then
    (gi l k).bind fun x =>
    bif (decide (300<(x.Word.size:Int))) then
     some (.inr (-1))
    else
     ((Cs n x (IntKind.i64.wrap (n_2-(x.Args.length:Int))) 0
     ):Option (Int ⊕ Int)).bind fun y2=>match y2 with
     |.inl n_3 =>
      bif (decide (0<=n_3)) then
       (Cg n x.Body n_3).bind fun n_4 =>
       Bq n l n_4 (IntKind.i64.wrap (k+1))
      else
       Bq n l n_3 (IntKind.i64.wrap (k+1))
     |.inr o=>some (.inr o)
   else
    some (.inl n_2)
def Cg:Nat->(List Af)->Int->Option Int
 |0,_,_=>none
 |n+1,l,n_ =>
  ((Bq n l (IntKind.i64.wrap (n_-(l.length:Int))) 0
  ):Option (Int ⊕ Int)).bind fun y=>match y with
  |.inl n_1 =>
   some (if (-1) > n_1 then (-1) else n_1)
  |.inr o=>some o
end
def F9 (n:Nat)(l:(List Af))(n_:Int):Option Bool :=
 (Cg n l n_).bind fun f =>
 some (decide (0<=f))
def Db (s:ByteArray):Option Aa :=
 some (Aa.mk 3 0 s [] 0)
def C5 (op:Int)(a_:Aa)(b:Aa):Option Aa :=
 (some [a_,b]).bind fun l =>
 some (Aa.mk op 0 ⟨#[]⟩ l 0)
abbrev hT (l:List Ab):PV:=hP l Ch
abbrev oT (l:List Ab):PV:=oP l Ch
abbrev hX (l:List Aa):PV:=hP l AH
abbrev oX (l:List Aa):PV:=oP l AH
abbrev hF (l:List Af):PV:=hP l AD
abbrev oF (l:List Af):PV:=oP l AD
abbrev hA (l:List As):PV:=hP l Bt
abbrev oA (l:List As):PV:=oP l Bt
abbrev hS (l:List ByteArray):PV:=hP l BD
abbrev oS (l:List ByteArray):PV:=oP l BD
abbrev kT (x:Ab):List PV:=[iP x.Kind,iP x.At,tP x.S,iP x.N]
abbrev kX (x:Aa):List PV:=[iP x.Op,iP x.N,tP x.S,hX x.Kids,iP x.At]
abbrev kF (x:Af):List PV:=[tP x.Word,hA x.Args,hF x.Body,iP x.At]
abbrev kA (x:As):List PV:=[iP x.Kind,iP x.N,tP x.S,iP x.E.Op,iP x.E.N,tP x.E.S,hX x.E.Kids,iP x.E.At,iP x.At]
abbrev kP (x:Ad):List PV:=[hT x.l,iP x.forms]
abbrev kR (x:Ag):List PV:=[oT x.l,bP x.bad]
abbrev pE (e:Al):List PanicEntry:=[{ v:=.iface 95 (.agg #[(.int .i64 e.At),(.int .i64 e.E)]),recovered:=false }]
end Go.Sp
