/-
  Chapter 33 as plain functions, first part: parsing, printing, the operations, find and value; no program. (Printed by lift.py, but for what the lexer answers.) Plain functions with fuel: what holds for all large fuel. No program.
-/
import Derived.Lib.Join
import Derived.Lib.ItoaNum
import Derived.Test.YtkcfmlfkfagejaaGreatDoorU10
import Derived.Test.YtkcfmlfkfagejaaGreatDoorU11
namespace Go.Sp
open Go Go.Vl
set_option linter.unusedVariables false
structure Ap where
 Kind:Int
 At:Int
 S:ByteArray
 N:Int
def Cg (x:Ap):List PV:=[iP x.Kind,iP x.At,tP x.S,iP x.N]
theorem H2 (x:Ap):Cg x=[iP x.Kind,iP x.At,tP x.S,iP x.N]:=rfl
theorem Hi (x:Ap):(Cg x).length=4:=rfl
def Bc:Rw Ap:=⟨Cg,_,4,H2,Hi⟩
structure Au where
 At:Int
 E:Int
structure A5 where
 sign:ByteArray
 op:Int
 level:Int
def Dy (x:A5):List PV:=[tP x.sign,iP x.op,iP x.level]
theorem JI (x:A5):Dy x=[tP x.sign,iP x.op,iP x.level]:=rfl
theorem Jh (x:A5):(Dy x).length=3:=rfl
def B7:Rw A5:=⟨Dy,_,3,JI,Jh⟩
structure Ac where
 l:(List Ap)
 forms:Int
structure Aa where
 Op:Int
 N:Int
 S:ByteArray
 Kids:(List Aa)
 At:Int
mutual
def AO:Aa->List PV
 |.mk fOp fN fS fKids fAt=>[iP fOp,iP fN,tP fS,.sl (FK fKids) .shared,iP fAt]
def FK:List Aa->List (List PV)
 | []=>[]
 |x::l=>AO x::FK l
end
theorem H0:∀ l:List Aa,FK l=l.map AO
 | []=>rfl
 |x::l=>by rw [FK,H0 l];rfl
theorem EM (x:Aa):AO x=[iP x.Op,iP x.N,tP x.S,hP x.Kids AO,iP x.At]:=by
 cases x;rw [AO];simp only [H0]
theorem H4 (x:Aa):(AO x).length=5:=by rw [EM];rfl
def A1:Rw Aa:=⟨AO,_,5,EM,H4⟩
structure AF where
 Kind:Int
 N:Int
 S:ByteArray
 E:Aa
 At:Int
def BV (x:AF):List PV:=[iP x.Kind,iP x.N,tP x.S,iP x.E.Op,iP x.E.N,tP x.E.S,hP x.E.Kids AO,iP x.E.At,iP x.At]
theorem ME (x:AF):BV x=[iP x.Kind,iP x.N,tP x.S,iP x.E.Op,iP x.E.N,tP x.E.S,hP x.E.Kids AO,iP x.E.At,iP x.At]:=rfl
theorem Mg (x:AF):(BV x).length=9:=rfl
def A4:Rw AF:=⟨BV,_,9,ME,Mg⟩
structure Av where
 Word:ByteArray
 Args:(List AF)
 Body:(List Av)
 At:Int
mutual
def BI:Av->List PV
 |.mk fWord fArgs fBody fAt=>[tP fWord,hP fArgs BV,.sl (FJ fBody) .shared,iP fAt]
def FJ:List Av->List (List PV)
 | []=>[]
 |x::l=>BI x::FJ l
end
theorem Hz:∀ l:List Av,FJ l=l.map BI
 | []=>rfl
 |x::l=>by rw [FJ,Hz l];rfl
theorem EL (x:Av):BI x=[tP x.Word,hP x.Args BV,hP x.Body BI,iP x.At]:=by
 cases x;rw [BI];simp only [Hz]
theorem F8 (x:Av):(BI x).length=4:=by rw [EL];rfl
def B3:Rw Av:=⟨BI,_,4,EL,F8⟩
structure As where
 At:Int
 E:Int
structure Ak where
 l:(List Ap)
 bad:Bool
structure Bm where
 Kind:Int
 Who:Int
 Day:Int
 Known:Int
def C6 (x:Bm):List PV:=[iP x.Kind,iP x.Who,iP x.Day,iP x.Known]
theorem I4 (x:Bm):C6 x=[iP x.Kind,iP x.Who,iP x.Day,iP x.Known]:=rfl
theorem H3 (x:Bm):(C6 x).length=4:=rfl
def CB:Rw Bm:=⟨C6,_,4,I4,H3⟩
structure AB where
 Facts:(List Bm)
 Stored:Int
 Owner:Int
def Gi (x:AB):List PV:=[hP x.Facts C6,iP x.Stored,iP x.Owner]
theorem GL (x:AB):Gi x=[hP x.Facts C6,iP x.Stored,iP x.Owner]:=rfl
structure Ah where
 d:AB
 known:Int
structure Ab where
 op:Int
 name:ByteArray
 args:(List Int)
 kind:Int
 do_:Do
def Aw (x:Int):List PV:=[iP x]
theorem Bf (x:Int):Aw x=[iP x]:=rfl
theorem Ji (x:Int):(Aw x).length=1:=rfl
def AN:Rw Int:=⟨Aw,_,1,Bf,Ji⟩
def Ad (x:Ab):List PV:=[iP x.op,tP x.name,hP x.args Aw,iP x.kind,.fno (IN x.do_) (H9 x.do_) (HG x.do_)]
theorem Bv (x:Ab):Ad x=[iP x.op,tP x.name,hP x.args Aw,iP x.kind,.fno (IN x.do_) (H9 x.do_) (HG x.do_)]:=rfl
theorem BB (x:Ab):(Ad x).length=5:=rfl
def FU:Rw Ab:=⟨Ad,_,5,Bv,BB⟩
structure AL where
 ops:(List Ab)
 names:(List (ByteArray×Int))
def B4 (x:ByteArray):List PV:=[tP x]
theorem Ht (x:ByteArray):B4 x=[tP x]:=rfl
theorem Jg (x:ByteArray):(B4 x).length=1:=rfl
def Bu:Rw ByteArray:=⟨B4,_,1,Ht,Jg⟩
def YM (t:Lx.Tok):Ap:=⟨(t.kind:Int),(t.at_:Int),⟨⟨t.s⟩⟩,(t.n:Int)⟩
def KD (src:ByteArray):List Ap×Au :=
 if 65536<src.size then ([],⟨0,2⟩)
 else match Lx.tokens src.data.toList with
  |.ok ts=>(ts.map YM,⟨0,0⟩)
  |.error (p,e)=>([],⟨(p:Int),(e:Int)⟩)
def Oy (src:ByteArray):Option (List Ap×Au):=some (KD src)
def VF (t:Ap):List (List UInt8):=if t.Kind=1∨t.Kind=4 then [t.S.data.toList] else if t.Kind=2 then [Lib.itoa t.N] else if t.Kind=3 then [34::Lx.quoted t.S.data.toList++[34]] else []
def VI (l:List Ap):ByteArray:=⟨⟨Lib.join (l.flatMap VF) [32]⟩⟩
def QW (l:List Ap):Prop:=l.length<=1000000/\(∀ t∈l,-9223372036854775808<=t.N/\t.N<=9223372036854775807)/\(VI l).size<=140737488355328/\∀ t∈l,t.Kind≠3∨t.S.size<=1000000
instance (l:List Ap):Decidable (QW l):=by unfold QW;exact inferInstance
def OZ (l:List Ap):Option ByteArray:=if QW l then some (VI l) else none
def Cw:Option (List A5) :=
 (some [(A5.mk ⟨#[42]⟩ 7 6),(A5.mk ⟨#[47]⟩ 8 6),(A5.mk ⟨#[37]⟩ 9 6),(A5.mk ⟨#[43]⟩ 10 5),(A5.mk ⟨#[45]⟩ 11 5),(A5.mk ⟨#[61,61]⟩ 12 4),(A5.mk ⟨#[33,61]⟩ 13 4),(A5.mk ⟨#[60]⟩ 14 4),(A5.mk ⟨#[60,61]⟩ 15 4),(A5.mk ⟨#[62]⟩ 16 4),(A5.mk ⟨#[62,61]⟩ 17 4),(A5.mk ⟨#[38,38]⟩ 18 2),(A5.mk ⟨#[124,124]⟩ 19 1)]).bind fun l =>
 some l
def AU (p:Ac)(e:Int):Option (Ex As Ac Unit) :=
 (gi p.l 0).bind fun x =>
 some (.pan (As.mk x.At e) p)
def AA (p:Ac):Option (Ap×Ac) :=
 (gi p.l 0).bind fun x =>
 (VS p.l 1 (p.l.length:Int)).bind fun l =>
 some (x,(Ac.mk l p.forms))
def AS (p:Ac)(s:ByteArray):Option Bool :=
 (((gi p.l 0).bind fun x =>
 bif (x.Kind == 4) then
  some (decide (x.S=s))
 else
  some false
 ):Option Bool).bind fun v4 =>
  some v4
def Cy (p:Ac):Option Bool :=
 (gi p.l 0).bind fun x =>
 ((bif (x.Kind == 1) then
  some (x.Kind == 1)
 else
  bif (x.Kind == 2) then
   some (x.Kind == 2)
  else
   some (x.Kind == 3)
 ):Option Bool).bind fun v10 =>
  bif v10 then
   some true
  else
   (((AS p ⟨#[40]⟩).bind fun i =>
   bif i then
    some true
   else
    (AS p ⟨#[45]⟩).bind fun i1 =>
    some i1
   ):Option Bool).bind fun v2 =>
    some v2
def ED (p:Ac):Option (Ex As Ac Int) :=
 (gi p.l 0).bind fun x =>
 bif (x.Kind != 2) then
  (AU p 5).bind fun y=>match y with
  |.ok f p1 =>
   (AA p1).bind fun n_ =>
   some (.ok n_.1.N n_.2)
  |.pan e p2=>some (.pan e p2)
 else
  (AA p).bind fun n_1 =>
  some (.ok n_1.1.N n_1.2)
def Ct (p:Ac)(depth:Int)(not_:Bool):Option (Ex As Ac Unit) :=
 (((Cy p).bind fun b =>
 bif (!b) then
  bif not_ then
   (AS p ⟨#[33]⟩).bind fun i =>
   some (!i)
  else
   some true
 else
  some false
 ):Option Bool).bind fun v16 =>
  ((bif v16 then
   (AU p 5).bind fun y3=>match y3 with
   |.ok f1 p5 =>
    some (.inl (p5.l,p5.forms))
   |.pan e3 p6=>some (.inr (.pan e3 p6))
  else
   some (.inl (p.l,p.forms))
  ):Option (((List Ap)×Int) ⊕ (Ex As Ac Unit))).bind fun y1=>match y1 with
  |.inl (p1,p2) =>
   bif (decide (30<depth)) then
    (AU (Ac.mk p1 p2) 2).bind fun y2=>match y2 with
    |.ok f p3 =>
     some (.ok () p3)
    |.pan e2 p4=>some (.pan e2 p4)
   else
    some (.ok () (Ac.mk p1 p2))
  |.inr o=>some o
def Cs (p:Ac)(s:ByteArray):Option (Ex As Ac Unit) :=
 (AS p s).bind fun i =>
 bif (!i) then
  (AU p 5).bind fun y=>match y with
  |.ok f p1 =>
   (AA p1).bind fun n_ =>
   some (.ok () n_.2)
  |.pan e p2=>some (.pan e p2)
 else
  (AA p).bind fun n_1 =>
  some (.ok () n_1.2)
def D3 (p:(List Ap))(p1:Int)(n_:Int)(q:Int)(q1:Int)(q2:ByteArray)(q3:(List Aa))(q4:Int)(e:Int)(e1:Int)(e2:ByteArray)(e3:(List Aa))(e4:Int)(b:A5):Option Bool :=
 ((bif (b.level == n_) then
  (AS (Ac.mk p p1) b.sign).bind fun i =>
  some i
 else
  some false
 ):Option Bool).bind fun v4 =>
  some v4
def B8:Nat->(List A5)->(List Ap)->Int->Int->Int->Int->ByteArray->(List Aa)->Int->Int->Int->ByteArray->(List Aa)->Int->Int->Option (Unit ⊕ Int)
 |0,_,_,_,_,_,_,_,_,_,_,_,_,_,_,_=>none
 |n+1,s,p,p1,n_,q,q1,q2,q3,q4,e,e1,e2,e3,e4,v8 =>
  bif (decide (v8<(s.length:Int))) then
   (gi s v8).bind fun x =>
   (D3 p p1 n_ q q1 q2 q3 q4 e e1 e2 e3 e4 x).bind fun l =>
   bif l then
    some (.inr v8)
   else
    B8 n s p p1 n_ q q1 q2 q3 q4 e e1 e2 e3 e4 (IntKind.i64.wrap (v8+1))
  else
   some (.inl ())
def C4 (n:Nat)(p:(List Ap))(p1:Int)(n_:Int)(q:Int)(q1:Int)(q2:ByteArray)(q3:(List Aa))(q4:Int)(e:Int)(e1:Int)(e2:ByteArray)(e3:(List Aa))(e4:Int)(s:(List A5)):Option Int :=
 ((B8 n s p p1 n_ q q1 q2 q3 q4 e e1 e2 e3 e4 0
 ):Option (Unit ⊕ Int)).bind fun y=>match y with
 |.inl _ =>
  some (-1)
 |.inr o=>some o
mutual
def AH:Nat->Ac->Int->Option (Ex As Ac Aa)
 |0,_,_=>none
 |n+1,p,depth =>
  (Ct p depth true).bind fun y=>match y with
  |.ok d p1 =>
   (AR n p1 1 depth).bind fun y1=>match y1 with
   |.ok e1 p3 =>
    (AS p3 ⟨#[63]⟩).bind fun i =>
    bif (!i) then
     some (.ok (Aa.mk e1.Op e1.N e1.S e1.Kids e1.At) p3)
    else
     (AA p3).bind fun n_ =>
     (AH n n_.2 (IntKind.i64.wrap (depth+1))).bind fun y2=>match y2 with
     |.ok a_ p5 =>
      (Cs p5 ⟨#[58]⟩).bind fun y3=>match y3 with
      |.ok n_1 p7 =>
       (AH n p7 (IntKind.i64.wrap (depth+1))).bind fun y4=>match y4 with
       |.ok e5 p9 =>
        (some [(Aa.mk e1.Op e1.N e1.S e1.Kids e1.At),a_,(Aa.mk e5.Op e5.N e5.S e5.Kids e5.At)]).bind fun l =>
        some (.ok (Aa.mk 20 0 ⟨#[]⟩ l e1.At) p9)
       |.pan e6 p10=>some (.pan e6 p10)
      |.pan e4 p8=>some (.pan e4 p8)
     |.pan e3 p6=>some (.pan e3 p6)
   |.pan e2 p4=>some (.pan e2 p4)
  |.pan e p2=>some (.pan e p2)
def CP:Nat->Int->Aa->Int->(List Ap)->Int->Int->Int->ByteArray->(List Aa)->Option (Ex As Ac Aa)
 |0,_,_,_,_,_,_,_,_,_=>none
 |n+1,n_1,e2,depth,p5,p6,e4,e5,e6,e7 =>
  (Cw).bind fun o_ =>
  (C4 n p5 p6 n_1 0 0 ⟨#[]⟩ [] 0 e4 e5 e6 e7 e2.At o_).bind fun k =>
  bif (decide (k<0)) then
   some (.ok (Aa.mk e4 e5 e6 e7 e2.At) (Ac.mk p5 p6))
  else
   (AA (Ac.mk p5 p6)).bind fun n_3 =>
   (Cw).bind fun o_1 =>
   (gi o_1 k).bind fun x =>
   (AR n n_3.2 (IntKind.i64.wrap (n_1+1)) depth).bind fun y3=>match y3 with
   |.ok l p7 =>
    (some [(Aa.mk e4 e5 e6 e7 e2.At),l]).bind fun l1 =>
    bif (n_1 == 4) then
     some (.ok (Aa.mk x.op 0 ⟨#[]⟩ l1 e2.At) p7)
    else
     CP n n_1 e2 depth p7.l p7.forms x.op 0 ⟨#[]⟩ l1
   |.pan e8 p8=>some (.pan e8 p8)
def AR:Nat->Ac->Int->Int->Option (Ex As Ac Aa)
 |0,_,_,_=>none
 |n+1,p,n_,depth =>
  ((bif (n_ == 3) then
   (AS p ⟨#[33]⟩).bind fun i =>
   bif i then
    (AA p).bind fun n_4 =>
    (Ct n_4.2 (IntKind.i64.wrap (depth+1)) true).bind fun y4=>match y4 with
    |.ok d p9 =>
     (AR n p9 3 (IntKind.i64.wrap (depth+1))).bind fun y5=>match y5 with
     |.ok l2 p11 =>
      (some [l2]).bind fun l3 =>
      some (.inr (.ok (Aa.mk 5 0 ⟨#[]⟩ l3 n_4.1.At) p11))
     |.pan e10 p12=>some (.inr (.pan e10 p12))
    |.pan e9 p10=>some (.inr (.pan e9 p10))
   else
    some (.inl (IntKind.i64.wrap (n_+1)))
  else
   some (.inl n_)
  ):Option (Int ⊕ (Ex As Ac Aa))).bind fun y=>match y with
  |.inl n_1 =>
   bif (n_1 == 7) then
    (Bl n p depth).bind fun y1=>match y1 with
    |.ok n_2 p1 =>
     some (.ok n_2 p1)
    |.pan e1 p2=>some (.pan e1 p2)
   else
    (AR n p (IntKind.i64.wrap (n_1+1)) depth).bind fun y2=>match y2 with
    |.ok e2 p3 =>
     CP n n_1 e2 depth p3.l p3.forms e2.Op e2.N e2.S e2.Kids
    |.pan e3 p4=>some (.pan e3 p4)
  |.inr o=>some o
def Bl:Nat->Ac->Int->Option (Ex As Ac Aa)
 |0,_,_=>none
 |n+1,p,depth =>
  (AS p ⟨#[45]⟩).bind fun i =>
  bif (!i) then
   (Bn n p depth).bind fun y=>match y with
   |.ok a_ p1 =>
    some (.ok a_ p1)
   |.pan e p2=>some (.pan e p2)
  else
   (AA p).bind fun n_ =>
   (Ct n_.2 (IntKind.i64.wrap (depth+1)) false).bind fun y1=>match y1 with
   |.ok d p3 =>
    (Bl n p3 (IntKind.i64.wrap (depth+1))).bind fun y2=>match y2 with
    |.ok n_1 p5 =>
     (some [n_1]).bind fun l =>
     some (.ok (Aa.mk 6 0 ⟨#[]⟩ l n_.1.At) p5)
    |.pan e2 p6=>some (.pan e2 p6)
   |.pan e1 p4=>some (.pan e1 p4)
def Cm:Nat->Int->(List Ap)->Int->(List Aa)->Option (((List Ap)×Int×(List Aa)) ⊕ (Ex As Ac Aa))
 |0,_,_,_,_=>none
 |n+1,depth,p5,p6,e3 =>
  (AS (Ac.mk p5 p6) ⟨#[41]⟩).bind fun i1 =>
  bif (!i1) then
   ((bif (decide (0<(e3.length:Int))) then
    (Cs (Ac.mk p5 p6) ⟨#[44]⟩).bind fun y7=>match y7 with
    |.ok n_2 p17 =>
     some (.inl (p17.l,p17.forms))
    |.pan e11 p18=>some (.inr (.pan e11 p18))
   else
    some (.inl (p5,p6))
   ):Option (((List Ap)×Int) ⊕ (Ex As Ac Aa))).bind fun y2=>match y2 with
   |.inl (p7,p8) =>
    bif ((e3.length:Int) == 40) then
     (Ct (Ac.mk p7 p8) 0 true).bind fun y3=>match y3 with
     |.ok d p9 =>
      (AU p9 2).bind fun y4=>match y4 with
      |.ok f p11 =>
       (AH n p11 (IntKind.i64.wrap (depth+1))).bind fun y5=>match y5 with
       |.ok e7 p13 =>
        (some [(Aa.mk e7.Op e7.N e7.S e7.Kids e7.At)]).bind fun l =>
        (D5 65 e3 l).bind fun l1 =>
        Cm n depth p13.l p13.forms l1
       |.pan e8 p14=>some (.inr (.pan e8 p14))
      |.pan e6 p12=>some (.inr (.pan e6 p12))
     |.pan e5 p10=>some (.inr (.pan e5 p10))
    else
     (AH n (Ac.mk p7 p8) (IntKind.i64.wrap (depth+1))).bind fun y6=>match y6 with
     |.ok e9 p15 =>
      (some [(Aa.mk e9.Op e9.N e9.S e9.Kids e9.At)]).bind fun l2 =>
      (D5 65 e3 l2).bind fun l3 =>
      Cm n depth p15.l p15.forms l3
     |.pan e10 p16=>some (.inr (.pan e10 p16))
   |.inr o=>some (.inr o)
  else
   some (.inl (p5,p6,e3))
def Bn:Nat->Ac->Int->Option (Ex As Ac Aa)
 |0,_,_=>none
 |n+1,p,depth =>
  (Cy p).bind fun b =>
  ((bif (!b) then
   (AU p 5).bind fun y10=>match y10 with
   |.ok f1 p23 =>
    some (.inl (p23.l,p23.forms))
   |.pan e15 p24=>some (.inr (.pan e15 p24))
  else
   some (.inl (p.l,p.forms))
  ):Option (((List Ap)×Int) ⊕ (Ex As Ac Aa))).bind fun y=>match y with
  |.inl (p1,p2) =>
   (AA (Ac.mk p1 p2)).bind fun t =>
   bif (t.1.Kind == 2) then
    some (.ok (Aa.mk 1 t.1.N t.1.S [] t.1.At) t.2)
   else
    bif (t.1.Kind == 3) then
     some (.ok (Aa.mk 2 t.1.N t.1.S [] t.1.At) t.2)
    else
     bif (t.1.Kind == 1) then
      (AS t.2 ⟨#[40]⟩).bind fun i =>
      bif (!i) then
       some (.ok (Aa.mk 3 t.1.N t.1.S [] t.1.At) t.2)
      else
       (AA t.2).bind fun n_ =>
       ((Cm n depth n_.2.l n_.2.forms []
       ):Option (((List Ap)×Int×(List Aa)) ⊕ (Ex As Ac Aa))).bind fun y1=>match y1 with
       |.inl (p3,p4,e1) =>
        (AA (Ac.mk p3 p4)).bind fun n_1 =>
        some (.ok (Aa.mk 4 t.1.N t.1.S e1 t.1.At) n_1.2)
       |.inr o=>some o
     else
      (AH n t.2 (IntKind.i64.wrap (depth+1))).bind fun y8=>match y8 with
      |.ok e12 p19 =>
       (Cs p19 ⟨#[41]⟩).bind fun y9=>match y9 with
       |.ok n_3 p21 =>
        some (.ok e12 p21)
       |.pan e14 p22=>some (.pan e14 p22)
      |.pan e13 p20=>some (.pan e13 p20)
  |.inr o=>some o
end
def EB (n:Nat)(p:Ac):Option (Ex As Ac AF) :=
 (AA p).bind fun t =>
 bif (t.1.Kind == 1) then
  some (.ok (AF.mk 1 t.1.N t.1.S (Aa.mk 0 0 ⟨#[]⟩ [] 0) t.1.At) t.2)
 else
  bif (t.1.Kind == 2) then
   some (.ok (AF.mk 2 t.1.N t.1.S (Aa.mk 0 0 ⟨#[]⟩ [] 0) t.1.At) t.2)
  else
   bif (t.1.Kind == 3) then
    some (.ok (AF.mk 3 t.1.N t.1.S (Aa.mk 0 0 ⟨#[]⟩ [] 0) t.1.At) t.2)
   else
    bif (decide (t.1.S=⟨#[45]⟩)) then
     (ED t.2).bind fun y=>match y with
     |.ok n_ p1 =>
      some (.ok (AF.mk 2 (IntKind.i64.wrap (0-n_)) ⟨#[]⟩ (Aa.mk 0 0 ⟨#[]⟩ [] 0) t.1.At) p1)
     |.pan e p2=>some (.pan e p2)
    else
     bif (decide (t.1.S=⟨#[45,62]⟩)) then
      some (.ok (AF.mk 4 t.1.N ⟨#[]⟩ (Aa.mk 0 0 ⟨#[]⟩ [] 0) t.1.At) t.2)
     else
      bif (decide (t.1.S=⟨#[40]⟩)) then
       (AH n t.2 1).bind fun y1=>match y1 with
       |.ok e1 p3 =>
        (Cs p3 ⟨#[41]⟩).bind fun y2=>match y2 with
        |.ok n_1 p5 =>
         some (.ok (AF.mk 5 t.1.N ⟨#[]⟩ (Aa.mk e1.Op e1.N e1.S e1.Kids e1.At) t.1.At) p5)
        |.pan e3 p6=>some (.pan e3 p6)
       |.pan e2 p4=>some (.pan e2 p4)
      else
       some (.ok (AF.mk 0 t.1.N ⟨#[]⟩ (Aa.mk 0 0 ⟨#[]⟩ [] 0) t.1.At) t.2)
mutual
def Db:Nat->Int->(List Ap)->Int->(List Av)->Option (((List Ap)×Int×(List Av)) ⊕ (Ex As Ac Av))
 |0,_,_,_,_=>none
 |n+1,depth,p9,p10,f2 =>
  (AS (Ac.mk p9 p10) ⟨#[125]⟩).bind fun i =>
  bif (!i) then
   (Bz n (Ac.mk p9 p10) (IntKind.i64.wrap (depth+1))).bind fun y5=>match y5 with
   |.ok f3 p11 =>
    (some [f3]).bind fun l =>
    (D5 73 f2 l).bind fun l1 =>
    Db n depth p11.l p11.forms l1
   |.pan e5 p12=>some (.inr (.pan e5 p12))
  else
   some (.inl (p9,p10,f2))
def Cl:Nat->(List Ap)->Int->(List AF)->Option (((List Ap)×Int×(List AF)) ⊕ (Ex As Ac Av))
 |0,_,_,_=>none
 |n+1,p13,p14,f4 =>
  (((AS (Ac.mk p13 p14) ⟨#[59]⟩).bind fun i2 =>
  bif (!i2) then
   (AS (Ac.mk p13 p14) ⟨#[123]⟩).bind fun i3 =>
   some (!i3)
  else
   some false
  ):Option Bool).bind fun v49 =>
   bif v49 then
    (((Cy (Ac.mk p13 p14)).bind fun b =>
    bif (!b) then
     (AS (Ac.mk p13 p14) ⟨#[45,62]⟩).bind fun i1 =>
     some (!i1)
    else
     some false
    ):Option Bool).bind fun v57 =>
     ((bif v57 then
      (AU (Ac.mk p13 p14) 5).bind fun y12=>match y12 with
      |.ok f6 p23 =>
       some (.inl (p23.l,p23.forms))
      |.pan e12 p24=>some (.inr (.pan e12 p24))
     else
      some (.inl (p13,p14))
     ):Option (((List Ap)×Int) ⊕ (Ex As Ac Av))).bind fun y8=>match y8 with
     |.inl (p15,p16) =>
      bif ((f4.length:Int) == 40) then
       (AU (Ac.mk p15 p16) 2).bind fun y9=>match y9 with
       |.ok f5 p17 =>
        (EB n p17).bind fun y10=>match y10 with
        |.ok a_ p19 =>
         (some [a_]).bind fun l2 =>
         (D5 105 f4 l2).bind fun l3 =>
         Cl n p19.l p19.forms l3
        |.pan e10 p20=>some (.inr (.pan e10 p20))
       |.pan e9 p18=>some (.inr (.pan e9 p18))
      else
       (EB n (Ac.mk p15 p16)).bind fun y11=>match y11 with
       |.ok a_1 p21 =>
        (some [a_1]).bind fun l4 =>
        (D5 105 f4 l4).bind fun l5 =>
        Cl n p21.l p21.forms l5
       |.pan e11 p22=>some (.inr (.pan e11 p22))
     |.inr o=>some (.inr o)
   else
    some (.inl (p13,p14,f4))
def Bz:Nat->Ac->Int->Option (Ex As Ac Av)
 |0,_,_=>none
 |n+1,p,depth =>
  (gi p.l 0).bind fun x =>
  ((bif (x.Kind != 1) then
   (AU p 5).bind fun y14=>match y14 with
   |.ok f8 p27 =>
    some (.inl (p27.l,p27.forms))
   |.pan e14 p28=>some (.inr (.pan e14 p28))
  else
   some (.inl (p.l,p.forms))
  ):Option (((List Ap)×Int) ⊕ (Ex As Ac Av))).bind fun y=>match y with
  |.inl (p1,p2) =>
   ((bif (decide (30<depth)) then
    some true
   else
    some (decide (2000<(IntKind.i64.wrap (p2+1))))
   ):Option Bool).bind fun v32 =>
    ((bif v32 then
     (AU (Ac.mk p1 (IntKind.i64.wrap (p2+1))) 2).bind fun y13=>match y13 with
     |.ok f7 p25 =>
      some (.inl (p25.l,p25.forms))
     |.pan e13 p26=>some (.inr (.pan e13 p26))
    else
     some (.inl (p1,(IntKind.i64.wrap (p2+1))))
    ):Option (((List Ap)×Int) ⊕ (Ex As Ac Av))).bind fun y2=>match y2 with
    |.inl (p3,p4) =>
     (AA (Ac.mk p3 p4)).bind fun t =>
     ((Cl n t.2.l t.2.forms []
     ):Option (((List Ap)×Int×(List AF)) ⊕ (Ex As Ac Av))).bind fun y3=>match y3 with
     |.inl (p5,p6,f) =>
      (AA (Ac.mk p5 p6)).bind fun n_ =>
      bif (decide (n_.1.S=⟨#[59]⟩)) then
       some (.ok (Av.mk t.1.S f [] t.1.At) n_.2)
      else
       ((Db n depth n_.2.l n_.2.forms []
       ):Option (((List Ap)×Int×(List Av)) ⊕ (Ex As Ac Av))).bind fun y4=>match y4 with
       |.inl (p7,p8,f1) =>
        (AA (Ac.mk p7 p8)).bind fun n_1 =>
        some (.ok (Av.mk t.1.S f f1 t.1.At) n_1.2)
       |.inr o=>some o
     |.inr o=>some o
    |.inr o=>some o
  |.inr o=>some o
end
mutual
def Eh:Nat->Aa->Aa->Bool->Int->Option (Unit ⊕ Bool)
 |0,_,_,_,_=>none
 |n+1,a_,b,offsets,k =>
  bif (decide (k<(a_.Kids.length:Int))) then
   (gi a_.Kids k).bind fun x =>
   (gi b.Kids k).bind fun x1 =>
   (B5 n x x1 offsets).bind fun same =>
   bif (!same) then
    some (.inr false)
   else
    Eh n a_ b offsets (IntKind.i64.wrap (k+1))
  else
   some (.inl ())
def B5:Nat->Aa->Aa->Bool->Option Bool
 |0,_,_,_=>none
 |n+1,a_,b,offsets =>
  ((bif (a_.Op != b.Op) then
   some true
  else
   bif (a_.Op == 1) then
    bif (a_.N != b.N) then
     some true
    else
     bif (decide (2<=a_.Op)) then
      bif (decide (a_.Op<=4)) then
       bif (!decide (a_.S=b.S)) then
        some true
       else
        bif offsets then
         some (a_.At != b.At)
        else
         some false
      else
       bif offsets then
        some (a_.At != b.At)
       else
        some false
     else
      bif offsets then
       some (a_.At != b.At)
      else
       some false
   else
    bif (decide (2<=a_.Op)) then
     bif (decide (a_.Op<=4)) then
      bif (!decide (a_.S=b.S)) then
       some true
      else
       bif offsets then
        some (a_.At != b.At)
       else
        some false
     else
      bif offsets then
       some (a_.At != b.At)
      else
       some false
    else
     bif offsets then
      some (a_.At != b.At)
     else
      some false
  ):Option Bool).bind fun v52 =>
   bif v52 then
    some false
   else
    ((bif (decide (1<=a_.Op)) then
     some (decide (a_.Op<=3))
    else
     some false
    ):Option Bool).bind fun v60 =>
     bif v60 then
      some true
     else
      bif ((a_.Kids.length:Int) != (b.Kids.length:Int)) then
       some false
      else
       ((Eh n a_ b offsets 0
       ):Option (Unit ⊕ Bool)).bind fun y2=>match y2 with
       |.inl _ =>
        some true
       |.inr o=>some o
end
def Ck (p:Ak)(n_:Int):Option (Unit×Ak) :=
 ((bif p.bad then
  some true
 else
  bif (decide (n_<0)) then
   some true
  else
   some (decide (999999999999999<n_))
 ):Option Bool).bind fun p1 =>
  (some [(Ap.mk 2 0 ⟨#[]⟩ n_)]).bind fun l =>
  (D5 41 p.l l).bind fun l1 =>
  some ((),(Ak.mk l1 p1))
def CM:Nat->ByteArray->Int->Bool->Option Bool
 |0,_,_,_=>none
 |n+1,s,v19,p3 =>
  bif (decide (v19<(s.size:Int))) then
   ((bif p3 then
    some true
   else
    (gb s v19).bind fun c =>
    bif (c != 10) then
     bif (decide (c<32)) then
      some true
     else
      some (decide (126<c))
    else
     some false
   ):Option Bool).bind fun p4 =>
    CM n s (IntKind.i64.wrap (v19+1)) p4
  else
   some p3
def DC (n:Nat)(p:Ak)(s:ByteArray):Option (Unit×Ak) :=
 ((bif p.bad then
  some true
 else
  some (decide (200<(s.size:Int)))
 ):Option Bool).bind fun p1 =>
  ((CM n s 0 p1
  ):Option Bool).bind fun p2 =>
   (some [(Ap.mk 3 0 s 0)]).bind fun l =>
   (D5 41 p.l l).bind fun l1 =>
   some ((),(Ak.mk l1 p2))
def E0 (c:Int):Option Bool :=
 ((bif (decide (97<=(bits .or .u8 c 32))) then
  bif (decide ((bits .or .u8 c 32)<=122)) then
   some true
  else
   some (c == 95)
 else
  some (c == 95)
 ):Option Bool).bind fun v2 =>
  some v2
def CN:Nat->ByteArray->Bool->Int->Option Bool
 |0,_,_,_=>none
 |n+1,s,ok2,v17 =>
  bif (decide (v17<(s.size:Int))) then
   ((bif ok2 then
    (gb s v17).bind fun c =>
    (E0 c).bind fun n_ =>
    bif n_ then
     some true
    else
     bif (decide (0<v17)) then
      bif (decide (48<=c)) then
       some (decide (c<=57))
      else
       some false
     else
      some false
   else
    some false
   ):Option Bool).bind fun ok3 =>
    CN n s ok3 (IntKind.i64.wrap (v17+1))
  else
   some ok2
def Cb (n:Nat)(p:Ak)(s:ByteArray):Option (Unit×Ak) :=
 ((bif (decide (0<(s.size:Int))) then
  some (decide ((s.size:Int)<=32))
 else
  some false
 ):Option Bool).bind fun ok =>
  ((CN n s ok 0
  ):Option Bool).bind fun ok1 =>
   ((bif p.bad then
    some true
   else
    some (!ok1)
   ):Option Bool).bind fun p1 =>
    (some [(Ap.mk 1 0 s 0)]).bind fun l =>
    (D5 41 p.l l).bind fun l1 =>
    some ((),(Ak.mk l1 p1))
def C7:Nat->(List ByteArray)->Int->(List Ap)->Option (List Ap)
 |0,_,_,_=>none
 |n+1,l,v8,p2 =>
  bif (decide (v8<(l.length:Int))) then
   (gi l v8).bind fun x =>
   (some [(Ap.mk 4 0 x 0)]).bind fun l1 =>
   (D5 41 p2 l1).bind fun l2 =>
   C7 n l (IntKind.i64.wrap (v8+1)) l2
  else
   some p2
def A3 (n:Nat)(p:Ak)(l:(List ByteArray)):Option (Unit×Ak) :=
 ((C7 n l 0 p.l
 ):Option (List Ap)).bind fun p1 =>
  some ((),(Ak.mk p1 p.bad))
def Ft:Nat->(List A5)->Aa->Int->Option (Unit ⊕ Int)
 |0,_,_,_=>none
 |n+1,o_,e,v15 =>
  bif (decide (v15<(o_.length:Int))) then
   (gi o_ v15).bind fun x =>
   bif (x.op == e.Op) then
    some (.inr x.level)
   else
    Ft n o_ e (IntKind.i64.wrap (v15+1))
  else
   some (.inl ())
def Jn (n:Nat)(e:Aa):Option Int :=
 bif (e.Op == 20) then
  some 0
 else
  bif (e.Op == 5) then
   some 3
  else
   bif (e.Op == 6) then
    some 7
   else
    (Cw).bind fun o_ =>
    ((Ft n o_ e 0
    ):Option (Unit ⊕ Int)).bind fun y=>match y with
    |.inl _ =>
     some 8
    |.inr o=>some o
def D0 (p:(List Ap))(p1:Bool)(e:Int)(e1:Int)(e2:ByteArray)(e3:(List Aa))(e4:Int)(b:A5):Option Bool :=
 some (b.op == e)
def B9:Nat->(List A5)->(List Ap)->Bool->Int->Int->ByteArray->(List Aa)->Int->Int->Option (Unit ⊕ Int)
 |0,_,_,_,_,_,_,_,_,_=>none
 |n+1,s,p,p1,e,e1,e2,e3,e4,v8 =>
  bif (decide (v8<(s.length:Int))) then
   (gi s v8).bind fun x =>
   (D0 p p1 e e1 e2 e3 e4 x).bind fun e6 =>
   bif e6 then
    some (.inr v8)
   else
    B9 n s p p1 e e1 e2 e3 e4 (IntKind.i64.wrap (v8+1))
  else
   some (.inl ())
def C5 (n:Nat)(p:(List Ap))(p1:Bool)(e:Int)(e1:Int)(e2:ByteArray)(e3:(List Aa))(e4:Int)(s:(List A5)):Option Int :=
 ((B9 n s p p1 e e1 e2 e3 e4 0
 ):Option (Unit ⊕ Int)).bind fun y=>match y with
 |.inl _ =>
  some (-1)
 |.inr o=>some o
mutual
def BX:Nat->Aa->(List ByteArray)->Int->(List Ap)->Bool->Option ((List Ap)×Bool)
 |0,_,_,_,_,_=>none
 |n+1,e,l,v89,p3,p4 =>
  bif (decide (v89<(e.Kids.length:Int))) then
   (gi e.Kids v89).bind fun x =>
   bif (decide (0<v89)) then
    (some [⟨#[44]⟩]).bind fun l2 =>
    (A3 n (Ak.mk p3 p4) l2).bind fun s2 =>
    (A7 n s2.2 x 0).bind fun o_ =>
    BX n e l (IntKind.i64.wrap (v89+1)) o_.2.l o_.2.bad
   else
    (A7 n (Ak.mk p3 p4) x 0).bind fun o_1 =>
    BX n e l (IntKind.i64.wrap (v89+1)) o_1.2.l o_1.2.bad
  else
   some (p3,p4)
def Bb:Nat->Ak->Aa->Option (Unit×Ak)
 |0,_,_=>none
 |n+1,p,e =>
  bif (e.Op == 1) then
   (Ck p e.N).bind fun n_ =>
   some ((),n_.2)
  else
   bif (e.Op == 2) then
    (DC n p e.S).bind fun t =>
    some ((),t.2)
   else
    bif (e.Op == 3) then
     (Cb n p e.S).bind fun n_1 =>
     some ((),n_1.2)
    else
     bif (e.Op == 4) then
      (Cb n p e.S).bind fun n_2 =>
      (some [⟨#[40]⟩]).bind fun l =>
      (A3 n n_2.2 l).bind fun s =>
      ((BX n e l 0 s.2.l s.2.bad
      ):Option ((List Ap)×Bool)).bind fun y=>match y with
      |(p1,p2) =>
       (some [⟨#[41]⟩]).bind fun l1 =>
       (A3 n (Ak.mk p1 p2) l1).bind fun s1 =>
       some ((),s1.2)
     else
      ((bif (e.Op == 5) then
       some (e.Op == 5)
      else
       bif (e.Op == 6) then
        some (e.Op == 6)
       else
        some (e.Op == 20)
      ):Option Bool).bind fun v106 =>
       bif v106 then
        bif ((e.Kids.length:Int) != ((Jr [(5,1),(6,1),(20,3)] e.Op).1)) then
         some ((),(Ak.mk p.l true))
        else
         bif (e.Op == 5) then
          (some [⟨#[33]⟩]).bind fun l3 =>
          (A3 n p l3).bind fun s3 =>
          (gi e.Kids 0).bind fun x1 =>
          (A7 n s3.2 x1 3).bind fun o_2 =>
          some ((),o_2.2)
         else
          bif (e.Op == 6) then
           (some [⟨#[45]⟩]).bind fun l4 =>
           (A3 n p l4).bind fun s4 =>
           (gi e.Kids 0).bind fun x2 =>
           (A7 n s4.2 x2 7).bind fun o_3 =>
           some ((),o_3.2)
          else
           (gi e.Kids 0).bind fun x3 =>
           (A7 n p x3 1).bind fun o_4 =>
           (some [⟨#[63]⟩]).bind fun l5 =>
           (A3 n o_4.2 l5).bind fun s5 =>
           (gi e.Kids 1).bind fun x4 =>
           (A7 n s5.2 x4 0).bind fun o_5 =>
           (some [⟨#[58]⟩]).bind fun l6 =>
           (A3 n o_5.2 l6).bind fun s6 =>
           (gi e.Kids 2).bind fun x5 =>
           (A7 n s6.2 x5 0).bind fun o_6 =>
           some ((),o_6.2)
       else
        (Cw).bind fun o_7 =>
        (C5 n p.l p.bad e.Op e.N e.S e.Kids e.At o_7).bind fun k =>
        ((bif (decide (k<0)) then
         some true
        else
         some ((e.Kids.length:Int) != 2)
        ):Option Bool).bind fun v24 =>
         bif v24 then
          some ((),(Ak.mk p.l true))
         else
          (Cw).bind fun o_8 =>
          (gi o_8 k).bind fun x6 =>
          ((bif (x6.level == 4) then
           some 5
          else
           some x6.level
          ):Option Int).bind fun left =>
           (gi e.Kids 0).bind fun x7 =>
           (A7 n p x7 left).bind fun o_9 =>
           (some [x6.sign]).bind fun l7 =>
           (A3 n o_9.2 l7).bind fun s7 =>
           (gi e.Kids 1).bind fun x8 =>
           (A7 n s7.2 x8 (if (IntKind.i64.wrap (x6.level+1)) > left then (IntKind.i64.wrap (x6.level+1)) else left)).bind fun o_10 =>
           some ((),o_10.2)
def A7:Nat->Ak->Aa->Int->Option (Unit×Ak)
 |0,_,_,_=>none
 |n+1,p,e,need =>
  (Jn n (Aa.mk e.Op e.N e.S e.Kids e.At)).bind fun l =>
  bif (decide (need<=l)) then
   (Bb n p (Aa.mk e.Op e.N e.S e.Kids e.At)).bind fun e1 =>
   some ((),e1.2)
  else
   (some [⟨#[40]⟩]).bind fun l1 =>
   (A3 n p l1).bind fun s =>
   (Bb n s.2 (Aa.mk e.Op e.N e.S e.Kids e.At)).bind fun e2 =>
   (some [⟨#[41]⟩]).bind fun l2 =>
   (A3 n e2.2 l2).bind fun s1 =>
   some ((),s1.2)
end
def Dr:Nat->(List Av)->(List Ap)->Int->Option (((List Av)×(List Ap)×Int) ⊕ (Ex As ((List Av)×(List Ap)×Int) Unit))
 |0,_,_,_=>none
 |n+1,out2,q6,q7 =>
  (gi q6 0).bind fun x =>
  bif (x.Kind != 5) then
   (Bz n (Ac.mk q6 q7) 1).bind fun y1=>match y1 with
   |.ok f s =>
    (D5 73 out2 [f]).bind fun out3 =>
    Dr n out3 s.l s.forms
   |.pan e1 s1=>some (.inr (.pan e1 (out2,s1.l,s1.forms)))
  else
   some (.inl (out2,q6,q7))
def FB (n:Nat)(q:Int)(q1:Int)(out:(List Av))(bad:Int)(bad1:Int)(q2:(List Ap))(q3:Int):Option (Ex As ((List Av)×(List Ap)×Int) Unit) :=
 ((Dr n out q2 q3
 ):Option (((List Av)×(List Ap)×Int) ⊕ (Ex As ((List Av)×(List Ap)×Int) Unit))).bind fun y=>match y with
 |.inl (out1,q4,q5) =>
  some (.ok () (out1,q4,q5))
 |.inr o=>some o
def EO (n:Nat)(q:Int)(q1:Int)(out:(List Av))(src:ByteArray):Option (Au×(List Av)) :=
 (Oy src).bind fun t =>
 bif (t.2.E != 0) then
  some (t.2,out)
 else
  (FB n q q1 out t.2.At t.2.E t.1 0).bind fun y=>match y with
  |.ok f c =>
   (gi c.2.1 0).bind fun x =>
   bif (x.Kind != 5) then
    (AU (Ac.mk c.2.1 c.2.2) 5).bind fun y1=>match y1 with
    |.ok f1 s =>
     some ((Au.mk 0 0),c.1)
    |.pan e1 s1=>some ((Au.mk e1.At e1.E),c.1)
   else
    some ((Au.mk 0 0),c.1)
  |.pan e c1=>some ((Au.mk e.At e.E),c1.1)
def Hj (n:Nat)(src:ByteArray):Option ((List Av)×Au) :=
 (EO n 0 0 [] src).bind fun bad =>
 bif (bad.1.E != 0) then
  some ([],bad.1)
 else
  some (bad.2,bad.1)
mutual
def CO:Nat->Av->Int->(List Ap)->Bool->Option ((List Ap)×Bool)
 |0,_,_,_,_=>none
 |n+1,f,v97,p5,p6 =>
  bif (decide (v97<(f.Body.length:Int))) then
   (gi f.Body v97).bind fun x =>
   (Bq n (Ak.mk p5 p6) x).bind fun f1 =>
   CO n f (IntKind.i64.wrap (v97+1)) f1.2.l f1.2.bad
  else
   some (p5,p6)
def AW:Nat->Av->Int->(List Ap)->Bool->Option ((List Ap)×Bool)
 |0,_,_,_,_=>none
 |n+1,f,v15,p7,p8 =>
  bif (decide (v15<(f.Args.length:Int))) then
   (gi f.Args v15).bind fun x1 =>
   bif (x1.Kind == 1) then
    (Cb n (Ak.mk p7 p8) x1.S).bind fun n_1 =>
    AW n f (IntKind.i64.wrap (v15+1)) n_1.2.l n_1.2.bad
   else
    bif (x1.Kind == 2) then
     bif (decide (x1.N<0)) then
      (some [⟨#[45]⟩]).bind fun l3 =>
      (A3 n (Ak.mk p7 p8) l3).bind fun s3 =>
      (Ck s3.2 (if 0 > (IntKind.i64.wrap (0-x1.N)) then 0 else (IntKind.i64.wrap (0-x1.N)))).bind fun n_2 =>
      ((bif n_2.2.bad then
       some true
      else
       some (decide (x1.N<(-999999999999999)))
      ):Option Bool).bind fun p9 =>
       AW n f (IntKind.i64.wrap (v15+1)) n_2.2.l p9
     else
      (Ck (Ak.mk p7 p8) x1.N).bind fun n_3 =>
      AW n f (IntKind.i64.wrap (v15+1)) n_3.2.l n_3.2.bad
    else
     bif (x1.Kind == 3) then
      (DC n (Ak.mk p7 p8) x1.S).bind fun t =>
      AW n f (IntKind.i64.wrap (v15+1)) t.2.l t.2.bad
     else
      bif (x1.Kind == 4) then
       (some [⟨#[45,62]⟩]).bind fun l4 =>
       (A3 n (Ak.mk p7 p8) l4).bind fun s4 =>
       AW n f (IntKind.i64.wrap (v15+1)) s4.2.l s4.2.bad
      else
       bif (x1.Kind == 5) then
        (some [⟨#[40]⟩]).bind fun l5 =>
        (A3 n (Ak.mk p7 p8) l5).bind fun s5 =>
        (Bb n s5.2 x1.E).bind fun e3 =>
        (some [⟨#[41]⟩]).bind fun l6 =>
        (A3 n e3.2 l6).bind fun s6 =>
        AW n f (IntKind.i64.wrap (v15+1)) s6.2.l s6.2.bad
       else
        AW n f (IntKind.i64.wrap (v15+1)) p7 true
  else
   some (p7,p8)
def Bq:Nat->Ak->Av->Option (Unit×Ak)
 |0,_,_=>none
 |n+1,p,f =>
  (Cb n p f.Word).bind fun n_ =>
  ((AW n f 0 n_.2.l n_.2.bad
  ):Option ((List Ap)×Bool)).bind fun y=>match y with
  |(p1,p2) =>
   bif ((f.Body.length:Int) == 0) then
    (some [⟨#[59]⟩]).bind fun l =>
    (A3 n (Ak.mk p1 p2) l).bind fun s =>
    some ((),s.2)
   else
    (some [⟨#[123]⟩]).bind fun l1 =>
    (A3 n (Ak.mk p1 p2) l1).bind fun s1 =>
    ((CO n f 0 s1.2.l s1.2.bad
    ):Option ((List Ap)×Bool)).bind fun y1=>match y1 with
    |(p3,p4) =>
     (some [⟨#[125]⟩]).bind fun l2 =>
     (A3 n (Ak.mk p3 p4) l2).bind fun s2 =>
     some ((),s2.2)
end
def Fu:Nat->(List Av)->Int->(List Ap)->Bool->Option ((List Ap)×Bool)
 |0,_,_,_,_=>none
 |n+1,l,v14,q2,q3 =>
  bif (decide (v14<(l.length:Int))) then
   (gi l v14).bind fun x =>
   (Bq n (Ak.mk q2 q3) x).bind fun f1 =>
   Fu n l (IntKind.i64.wrap (v14+1)) f1.2.l f1.2.bad
  else
   some (q2,q3)
def Jo (n:Nat)(l:(List Av)):Option (ByteArray×Int) :=
 ((Fu n l 0 [] false
 ):Option ((List Ap)×Bool)).bind fun y=>match y with
 |(q,q1) =>
  bif q1 then
   some (⟨#[]⟩,1)
  else
   (OZ q).bind fun s =>
   (Hj n s).bind fun f =>
   bif (f.2.E != 0) then
    some (⟨#[]⟩,2)
   else
    some (s,0)
def Eu (m_:Ah)(x:(List Int)):Option Int :=
 (gi x 0).bind fun x1 =>
 some (IntKind.i64.wrap (0-x1))
def DH (x:Int)(y:Int):Option (Int×Int) :=
 some ((IntKind.u64.wrap ((IntKind.u64.wrap ((IntKind.u64.wrap ((x.fdiv (2 ^ min (32:Int).toNat IntKind.u64.bits))*(y.fdiv (2 ^ min (32:Int).toNat IntKind.u64.bits))))+((IntKind.u64.wrap ((IntKind.u64.wrap ((x.fdiv (2 ^ min (32:Int).toNat IntKind.u64.bits))*(bits .and .u64 y 4294967295)))+((IntKind.u64.wrap ((bits .and .u64 x 4294967295)*(bits .and .u64 y 4294967295))).fdiv (2 ^ min (32:Int).toNat IntKind.u64.bits)))).fdiv (2 ^ min (32:Int).toNat IntKind.u64.bits))))+((IntKind.u64.wrap ((bits .and .u64 (IntKind.u64.wrap ((IntKind.u64.wrap ((x.fdiv (2 ^ min (32:Int).toNat IntKind.u64.bits))*(bits .and .u64 y 4294967295)))+((IntKind.u64.wrap ((bits .and .u64 x 4294967295)*(bits .and .u64 y 4294967295))).fdiv (2 ^ min (32:Int).toNat IntKind.u64.bits)))) 4294967295)+(IntKind.u64.wrap ((bits .and .u64 x 4294967295)*(y.fdiv (2 ^ min (32:Int).toNat IntKind.u64.bits)))))).fdiv (2 ^ min (32:Int).toNat IntKind.u64.bits)))),(IntKind.u64.wrap (x*y)))
def DK (a_:Int)(b:Int):Option Int :=
 (DH (IntKind.u64.wrap (if (IntKind.i64.wrap (0-a_)) > a_ then (IntKind.i64.wrap (0-a_)) else a_)) (IntKind.u64.wrap (if (IntKind.i64.wrap (0-b)) > b then (IntKind.i64.wrap (0-b)) else b))).bind fun m_ =>
 ((bif (m_.1 == 0) then
  some (decide (m_.2<999999999999999))
 else
  some false
 ):Option Bool).bind fun v27 =>
  ((bif v27 then
   some (IntKind.i64.wrap m_.2)
  else
   some 999999999999999
  ):Option Int).bind fun n_ =>
   bif (!((decide (a_<0)) == (decide (b<0)))) then
    some (IntKind.i64.wrap (0-n_))
   else
    some n_
def Et (m_:Ah)(x:(List Int)):Option Int :=
 (gi x 0).bind fun x1 =>
 (gi x 1).bind fun x2 =>
 (DK x1 x2).bind fun t =>
 some t
def Ch (n_:Int):Option Int :=
 some (if (if 999999999999999<n_ then 999999999999999 else n_) > (-999999999999999) then (if 999999999999999<n_ then 999999999999999 else n_) else (-999999999999999))
def Es (m_:Ah)(x:(List Int)):Option Int :=
 (gi x 0).bind fun x1 =>
 (gi x 1).bind fun x2 =>
 (Ch (IntKind.i64.wrap (x1+x2))).bind fun n_ =>
 some n_
def Ew (n_:Int):Option Int :=
 some (if (if 41667<n_ then 41667 else n_) > 0 then (if 41667<n_ then 41667 else n_) else 0)
def C9 (d:Int)(n_:Int):Option Int :=
 bif (d == 41667) then
  some d
 else
  (Ew (IntKind.i64.wrap (d+n_))).bind fun d1 =>
  some d1
def Er (m_:Ah)(x:(List Int)):Option Int :=
 (gi x 0).bind fun x1 =>
 (gi x 1).bind fun x2 =>
 (C9 x1 x2).bind fun m_1 =>
 some m_1
def Ep (m_:Ah)(x:(List Int)):Option Int :=
 (gi x 0).bind fun x1 =>
 (gi x 1).bind fun x2 =>
 (Ch (IntKind.i64.wrap (x1-x2))).bind fun n_ =>
 some n_
def Eo (m_:Ah)(x:(List Int)):Option Int :=
 (gi x 0).bind fun x1 =>
 (gi x 1).bind fun x2 =>
 (C9 x1 (IntKind.i64.wrap (0-x2))).bind fun m_1 =>
 some m_1
def En (m_:Ah)(x:(List Int)):Option Int :=
 (gi x 0).bind fun x1 =>
 (gi x 1).bind fun x2 =>
 some (IntKind.i64.wrap (x1-x2))
def Em (m_:Ah)(x:(List Int)):Option Int :=
 (gi x 0).bind fun x1 =>
 some (IntKind.i64.wrap (1-x1))
def El (m_:Ah)(x:(List Int)):Option Int :=
 (gi x 0).bind fun x1 =>
 (gi x 1).bind fun x2 =>
 some (bits .and .i64 x1 x2)
def DZ (m_:Ah)(x:(List Int)):Option Int :=
 (gi x 0).bind fun x1 =>
 (gi x 1).bind fun x2 =>
 some (bits .or .i64 x1 x2)
def DY (m_:Ah)(x:(List Int)):Option Int :=
 (gi x 0).bind fun x1 =>
 (Ew x1).bind fun d =>
 some d
def DX (m_:Ah)(x:(List Int)):Option Int :=
 (gi x 0).bind fun x1 =>
 some (if (if 1000<x1 then 1000 else x1) > 0 then (if 1000<x1 then 1000 else x1) else 0)
def DP (m_:Ah)(x:(List Int)):Option Int :=
 (gi x 0).bind fun x1 =>
 (gi x (IntKind.i64.wrap (2-x1))).bind fun x2 =>
 some x2
def DO (m_:Ah)(x:(List Int)):Option Int :=
 (gi x 0).bind fun x1 =>
 (gi x 1).bind fun x2 =>
 some (if x2<x1 then x2 else x1)
def DN (m_:Ah)(x:(List Int)):Option Int :=
 (gi x 0).bind fun x1 =>
 (gi x 1).bind fun x2 =>
 some (if x2 > x1 then x2 else x1)
def DV (a_:Int)(b:Int):Option Bool :=
 some (decide (a_<b))
def DU (a_:Int)(b:Int):Option Bool :=
 some (decide (a_<=b))
def DT (a_:Int)(b:Int):Option Bool :=
 some (decide (b<a_))
def DS (a_:Int)(b:Int):Option Bool :=
 some (decide (b<=a_))
def DR (a_:Int)(b:Int):Option Bool :=
 some (a_ == b)
def DQ (a_:Int)(b:Int):Option Bool :=
 some (a_ != b)
def Ba:Nat->Ah->Int->Int->Int->Int->Option Int
 |0,_,_,_,_,_=>none
 |n+1,m_,kind,who,best1,v14 =>
  bif (decide (v14<(m_.d.Facts.length:Int))) then
   (gi m_.d.Facts v14).bind fun x1 =>
   ((bif (x1.Kind == kind) then
    bif (x1.Who == who) then
     bif (decide (x1.Known<=m_.known)) then
      bif (decide (best1<0)) then
       some true
      else
       (gi m_.d.Facts best1).bind fun x2 =>
       some (decide (x2.Known<=x1.Known))
     else
      some false
    else
     some false
   else
    some false
   ):Option Bool).bind fun v51 =>
    bif v51 then
     Ba n m_ kind who v14 (IntKind.i64.wrap (v14+1))
    else
     Ba n m_ kind who best1 (IntKind.i64.wrap (v14+1))
  else
   some best1
theorem CV (n:Nat)(m_:Ah)(kind:Int)(who:Int)(best1:Int)(v14:Int):Ba (n+1) m_ kind who best1 v14 =
 bif (decide (v14<(m_.d.Facts.length:Int))) then
  (gi m_.d.Facts v14).bind fun x1 =>
  ((bif (x1.Kind == kind) then
   bif (x1.Who == who) then
    bif (decide (x1.Known<=m_.known)) then
     bif (decide (best1<0)) then
      some true
     else
      (gi m_.d.Facts best1).bind fun x2 =>
      some (decide (x2.Known<=x1.Known))
    else
     some false
   else
    some false
  else
   some false
  ):Option Bool).bind fun v51 =>
   bif v51 then
    Ba n m_ kind who v14 (IntKind.i64.wrap (v14+1))
   else
    Ba n m_ kind who best1 (IntKind.i64.wrap (v14+1))
 else
  some best1:=by rw [Ba]
def BP (n:Nat)(m_:Ah)(kind:Int)(who:Int):Option Int :=
 ((Ba n m_ kind who (-1) 0
 ):Option Int).bind fun best =>
  bif (decide (best<0)) then
   some 41667
  else
   (gi m_.d.Facts best).bind fun x =>
   some x.Day
def C3 (b:Bool):Option Int :=
 bif b then
  some 1
 else
  some 0
def DW (n:Nat)(k:Int)(m_:Ah)(x:(List Int)):Option Int :=
 (gi x 0).bind fun x1 =>
 (BP n m_ (IntKind.i64.wrap (k+1)) x1).bind fun f =>
 some f
def Dl (m_:Ah)(x:(List Int)):Option Int :=
 (gi x 0).bind fun x1 =>
 (gi x 1).bind fun x2 =>
 (DV x1 x2).bind fun o_ =>
 (C3 o_).bind fun f =>
 some f
def Dk (m_:Ah)(x:(List Int)):Option Int :=
 (gi x 0).bind fun x1 =>
 (gi x 1).bind fun x2 =>
 (DU x1 x2).bind fun o_ =>
 (C3 o_).bind fun f =>
 some f
def Dj (m_:Ah)(x:(List Int)):Option Int :=
 (gi x 0).bind fun x1 =>
 (gi x 1).bind fun x2 =>
 (DT x1 x2).bind fun o_ =>
 (C3 o_).bind fun f =>
 some f
def Di (m_:Ah)(x:(List Int)):Option Int :=
 (gi x 0).bind fun x1 =>
 (gi x 1).bind fun x2 =>
 (DS x1 x2).bind fun o_ =>
 (C3 o_).bind fun f =>
 some f
def Dh (m_:Ah)(x:(List Int)):Option Int :=
 (gi x 0).bind fun x1 =>
 (gi x 1).bind fun x2 =>
 (DR x1 x2).bind fun o_ =>
 (C3 o_).bind fun f =>
 some f
def CU (m_:Ah)(x:(List Int)):Option Int :=
 (gi x 0).bind fun x1 =>
 (gi x 1).bind fun x2 =>
 (DQ x1 x2).bind fun o_ =>
 (C3 o_).bind fun f =>
 some f
def Dv (op:Int):Option Int :=
 ((bif (op == 1) then
  some (op == 1)
 else
  bif (op == 2) then
   some (op == 2)
  else
   some (op == 3)
 ):Option Bool).bind fun v4 =>
  bif v4 then
   some 0
  else
   ((bif (op == 5) then
    some (op == 5)
   else
    some (op == 6)
   ):Option Bool).bind fun v8 =>
    bif v8 then
     some 1
    else
     bif (op == 20) then
      some 3
     else
      bif (op == 4) then
       some (-1)
      else
       some 2
def AK (s:(List Ab))(s1:(List (ByteArray×Int)))(e:Int)(e1:Int)(e2:ByteArray)(e3:(List Aa))(e4:Int)(o_:Int)(o_1:ByteArray)(o_2:(List Int))(o_3:Int)(o_4:Do)(p:Int)(p1:Int)(x:Int):Option (Int×Ab×Au) :=
 some (0,(Ab.mk 0 ⟨#[]⟩ [] 0 Do.nil),(Au.mk e4 x))
def Bp:Nat->(List Int)->(List Int)->Int->Option (Unit ⊕ Bool)
 |0,_,_,_=>none
 |n+1,s1,s2,v13 =>
  bif (decide (v13<(s1.length:Int))) then
   (gi s1 v13).bind fun x =>
   (gi s2 v13).bind fun x1 =>
   bif (x != x1) then
    some (.inr false)
   else
    Bp n s1 s2 (IntKind.i64.wrap (v13+1))
  else
   some (.inl ())
theorem EY (n:Nat)(s1:(List Int))(s2:(List Int))(v13:Int):Bp (n+1) s1 s2 v13 =
 bif (decide (v13<(s1.length:Int))) then
  (gi s1 v13).bind fun x =>
  (gi s2 v13).bind fun x1 =>
  bif (x != x1) then
   some (.inr false)
  else
   Bp n s1 s2 (IntKind.i64.wrap (v13+1))
 else
  some (.inl ()):=by rw [Bp]
def Cv (n:Nat)(s1:(List Int))(s2:(List Int)):Option Bool :=
 bif ((s1.length:Int) != (s2.length:Int)) then
  some false
 else
  ((Bp n s1 s2 0
  ):Option (Unit ⊕ Bool)).bind fun y=>match y with
  |.inl _ =>
   some true
  |.inr o=>some o
mutual
def AE:Nat->AL->Aa->(List Int)->Bool->Bool->Int->Option ((Bool×Bool) ⊕ (Int×Ab×Au))
 |0,_,_,_,_,_,_=>none
 |n+1,s,e,types,known1,fits1,v121 =>
  bif (decide (v121<(s.ops.length:Int))) then
   (gi s.ops v121).bind fun x =>
   ((bif (x.op != e.Op) then
    some true
   else
    bif (x.op == 4) then
     some (!decide (x.name=e.S))
    else
     some false
   ):Option Bool).bind fun v141 =>
    bif v141 then
     AE n s e types known1 fits1 (IntKind.i64.wrap (v121+1))
    else
     ((bif fits1 then
      some true
     else
      some ((x.args.length:Int) == (types.length:Int))
     ):Option Bool).bind fun fits2 =>
      (Cv n x.args types).bind fun e9 =>
      bif e9 then
       some (.inr (x.kind,x,(Au.mk 0 0)))
      else
       AE n s e types true fits2 (IntKind.i64.wrap (v121+1))
  else
   some (.inl (known1,fits1))
def AY:Nat->Aa->AL->(List Int)->Int->Option ((List Int) ⊕ (Int×Ab×Au))
 |0,_,_,_,_=>none
 |n+1,e,s,types1,v52 =>
  bif (decide (v52<(e.Kids.length:Int))) then
   (gi e.Kids v52).bind fun x1 =>
   (A2 n s x1).bind fun f7 =>
   bif (f7.2.2.E != 0) then
    some (.inr (0,(Ab.mk 0 ⟨#[]⟩ [] 0 Do.nil),f7.2.2))
   else
    (some [f7.1]).bind fun l =>
    (D5 9 types1 l).bind fun l1 =>
    AY n e s l1 (IntKind.i64.wrap (v52+1))
  else
   some (.inl types1)
def A2:Nat->AL->Aa->Option (Int×Ab×Au)
 |0,_,_=>none
 |n+1,s,e =>
  (Dv e.Op).bind fun n_ =>
  ((bif (decide (e.Op<1)) then
   some true
  else
   bif (decide (20<e.Op)) then
    some true
   else
    bif (decide (0<=n_)) then
     some ((e.Kids.length:Int) != n_)
    else
     some false
  ):Option Bool).bind fun v43 =>
   bif v43 then
    (AK s.ops s.names e.Op e.N e.S e.Kids e.At 0 ⟨#[]⟩ [] 0 Do.nil 0 0 1).bind fun f =>
    some (f.1,f.2.1,f.2.2)
   else
    ((AY n e s [] 0
    ):Option ((List Int) ⊕ (Int×Ab×Au))).bind fun y1=>match y1 with
    |.inl types =>
     bif (e.Op == 1) then
      ((bif (decide (e.N<0)) then
       some true
      else
       some (decide (999999999999999<e.N))
      ):Option Bool).bind fun v84 =>
       bif v84 then
        (AK s.ops s.names e.Op e.N e.S e.Kids e.At 0 ⟨#[]⟩ [] 0 Do.nil 0 0 1).bind fun f1 =>
        some (f1.1,f1.2.1,f1.2.2)
       else
        some (1,(Ab.mk 0 ⟨#[]⟩ [] 0 Do.nil),(Au.mk 0 0))
     else
      bif (e.Op == 2) then
       (AK s.ops s.names e.Op e.N e.S e.Kids e.At 0 ⟨#[]⟩ [] 0 Do.nil 0 0 7).bind fun f2 =>
       some (f2.1,f2.2.1,f2.2.2)
      else
       bif (e.Op == 3) then
        bif (BD s.names e.S).2 then
         some ((BD s.names e.S).1,(Ab.mk 0 ⟨#[]⟩ [] 0 Do.nil),(Au.mk 0 0))
        else
         (AK s.ops s.names e.Op e.N e.S e.Kids e.At 0 ⟨#[]⟩ [] 0 Do.nil 0 0 6).bind fun f3 =>
         some (f3.1,f3.2.1,f3.2.2)
       else
        ((AE n s e types false false 0
        ):Option ((Bool×Bool) ⊕ (Int×Ab×Au))).bind fun y3=>match y3 with
        |.inl (known,fits) =>
         ((bif (e.Op == 4) then
          some (!known)
         else
          some false
         ):Option Bool).bind fun v160 =>
          bif v160 then
           (AK s.ops s.names e.Op e.N e.S e.Kids e.At 0 ⟨#[]⟩ [] 0 Do.nil 0 0 6).bind fun f4 =>
           some (f4.1,f4.2.1,f4.2.2)
          else
           ((bif (e.Op == 4) then
            some (!fits)
           else
            some false
           ):Option Bool).bind fun v173 =>
            bif v173 then
             (AK s.ops s.names e.Op e.N e.S e.Kids e.At 0 ⟨#[]⟩ [] 0 Do.nil 0 0 1).bind fun f5 =>
             some (f5.1,f5.2.1,f5.2.2)
            else
             (AK s.ops s.names e.Op e.N e.S e.Kids e.At 0 ⟨#[]⟩ [] 0 Do.nil 0 0 7).bind fun f6 =>
             some (f6.1,f6.2.1,f6.2.2)
        |.inr o=>some o
    |.inr o=>some o
end
theorem C1 (n:Nat)(s:AL)(e:Aa)(types:(List Int))(known1:Bool)(fits1:Bool)(v121:Int):AE (n+1) s e types known1 fits1 v121 =
 bif (decide (v121<(s.ops.length:Int))) then
  (gi s.ops v121).bind fun x =>
  ((bif (x.op != e.Op) then
   some true
  else
   bif (x.op == 4) then
    some (!decide (x.name=e.S))
   else
    some false
  ):Option Bool).bind fun v141 =>
   bif v141 then
    AE n s e types known1 fits1 (IntKind.i64.wrap (v121+1))
   else
    ((bif fits1 then
     some true
    else
     some ((x.args.length:Int) == (types.length:Int))
    ):Option Bool).bind fun fits2 =>
     (Cv n x.args types).bind fun e9 =>
     bif e9 then
      some (.inr (x.kind,x,(Au.mk 0 0)))
     else
      AE n s e types true fits2 (IntKind.i64.wrap (v121+1))
 else
  some (.inl (known1,fits1)):=by rw [AE]
theorem Ee (n:Nat)(e:Aa)(s:AL)(types1:(List Int))(v52:Int):AY (n+1) e s types1 v52 =
 bif (decide (v52<(e.Kids.length:Int))) then
  (gi e.Kids v52).bind fun x1 =>
  (A2 n s x1).bind fun f7 =>
  bif (f7.2.2.E != 0) then
   some (.inr (0,(Ab.mk 0 ⟨#[]⟩ [] 0 Do.nil),f7.2.2))
  else
   (some [f7.1]).bind fun l =>
   (D5 9 types1 l).bind fun l1 =>
   AY n e s l1 (IntKind.i64.wrap (v52+1))
 else
  some (.inl types1):=by rw [AY]
def EV (n:Nat)(d:Do)(m:Ah)(x:List Int):Option Int:=match d with
 |.c 77=>Eu m x
 |.c 78=>Et m x
 |.c 80=>Es m x
 |.c 82=>Er m x
 |.c 84=>Ep m x
 |.c 85=>Eo m x
 |.c 86=>En m x
 |.c 87=>Em m x
 |.c 88=>El m x
 |.c 89=>DZ m x
 |.c 90=>DY m x
 |.c 92=>DX m x
 |.c 103=>DP m x
 |.c 104=>DO m x
 |.c 105=>DN m x
 |.k k=>DW n k m x
 |.is 95=>Dl m x
 |.is 96=>Dk m x
 |.is 97=>Dj m x
 |.is 98=>Di m x
 |.is 99=>Dh m x
 |.is 100=>CU m x
 |_=>none
mutual
def AI:Nat->Aa->AL->Ah->(List Int)->Int->Option (List Int)
 |0,_,_,_,_,_=>none
 |n+1,e,s,m_,x1,v35 =>
  bif (decide (v35<(e.Kids.length:Int))) then
   (gi e.Kids v35).bind fun x2 =>
   (A9 n s x2 m_).bind fun v_ =>
   (some [v_]).bind fun l =>
   (D5 9 x1 l).bind fun l1 =>
   AI n e s m_ l1 (IntKind.i64.wrap (v35+1))
  else
   some x1
def A9:Nat->AL->Aa->Ah->Option Int
 |0,_,_,_=>none
 |n+1,s,e,m_ =>
  bif (e.Op == 1) then
   some e.N
  else
   bif (e.Op == 3) then
    some ((BD [(⟨#[121,101,97,114]⟩,365),(⟨#[115,116,111,114,101,100]⟩,m_.d.Stored),(⟨#[110,101,118,101,114]⟩,41667),(⟨#[111,119,110,101,114]⟩,m_.d.Owner)] e.S).1)
   else
    ((AI n e s m_ [] 0
    ):Option (List Int)).bind fun x =>
     (A2 n s (Aa.mk e.Op e.N e.S e.Kids e.At)).bind fun f =>
     (WZ f.2.1.do_).bind fun d =>
     (EV n d m_ x).bind fun r1 =>
     some r1
end
theorem DE (n:Nat)(e:Aa)(s:AL)(m_:Ah)(x1:(List Int))(v35:Int):AI (n+1) e s m_ x1 v35 =
 bif (decide (v35<(e.Kids.length:Int))) then
  (gi e.Kids v35).bind fun x2 =>
  (A9 n s x2 m_).bind fun v_ =>
  (some [v_]).bind fun l =>
  (D5 9 x1 l).bind fun l1 =>
  AI n e s m_ l1 (IntKind.i64.wrap (v35+1))
 else
  some x1:=by rw [AI]
theorem CT (n:Nat)(s:AL)(e:Aa)(m_:Ah):A9 (n+1) s e m_ =
 bif (e.Op == 1) then
  some e.N
 else
  bif (e.Op == 3) then
   some ((BD [(⟨#[121,101,97,114]⟩,365),(⟨#[115,116,111,114,101,100]⟩,m_.d.Stored),(⟨#[110,101,118,101,114]⟩,41667),(⟨#[111,119,110,101,114]⟩,m_.d.Owner)] e.S).1)
  else
   ((AI n e s m_ [] 0
   ):Option (List Int)).bind fun x =>
    (A2 n s (Aa.mk e.Op e.N e.S e.Kids e.At)).bind fun f =>
    (WZ f.2.1.do_).bind fun d =>
    (EV n d m_ x).bind fun r1 =>
    some r1:=by rw [A9]
abbrev hT (l:List Ap):PV:=hP l Cg
abbrev oT (l:List Ap):PV:=oP l Cg
abbrev hX (l:List Aa):PV:=hP l AO
abbrev oX (l:List Aa):PV:=oP l AO
abbrev hF (l:List Av):PV:=hP l BI
abbrev oF (l:List Av):PV:=oP l BI
abbrev hA (l:List AF):PV:=hP l BV
abbrev oA (l:List AF):PV:=oP l BV
abbrev hS (l:List ByteArray):PV:=hP l B4
abbrev hI (l:List Int):PV:=hP l Aw
abbrev oI (l:List Int):PV:=oP l Aw
abbrev hZ (l:List Bm):PV:=hP l C6
abbrev hO (l:List Ab):PV:=hP l Ad
abbrev hE (l:List A5):PV:=hP l Dy
abbrev oE (l:List A5):PV:=oP l Dy
end Go.Sp
namespace Go.Sp
open Go
def Ev {α:Type}(f:Nat->Option α)(a:α):Prop:=∃ N,∀ n,N<=n->f n=some a
namespace Ev
variable {α β:Type} {f:Nat->Option α} {a:α} {b:β}
theorem const {x:Option α}(h:x=some a):Ev (fun _=>x) a:=⟨0,fun _ _=>h⟩
theorem pure:Ev (fun _=>some a) a:=const rfl
theorem bind {g:Nat->α->Option β}(h:Ev f a)(k:Ev (fun n=>g n a) b):Ev (fun n=>(f n).bind (g n)) b:=by
 obtain⟨N,h⟩:=h
 obtain⟨M,k⟩:=k
 exact⟨max N M,fun n hn=>by
  show (f n).bind (g n)=some b
  rw [h n (by omega)];exact k n (by omega)⟩
theorem step {F:Nat->Option α}(e:∀ n,F (n+1)=f n)(h:Ev f a):Ev F a:=by
 obtain⟨N,h⟩:=h
 refine⟨N+1,fun n hn=>?_⟩
 obtain⟨m,rfl⟩:∃ m,n=m+1:=⟨n-1,by omega⟩
 rw [e];exact h m (by omega)
theorem get (h:Ev f a):∃ n,f n=some a:=by
 obtain⟨N,h⟩:=h
 exact⟨N,h N (Nat.le_refl _)⟩
end Ev
theorem Ec {x:Int}(h1 : -9223372036854775808<=x)(h2:x<9223372036854775808):IntKind.i64.wrap x=x:=by
 rw [IntKind.wrap_i64];omega
end Go.Sp
