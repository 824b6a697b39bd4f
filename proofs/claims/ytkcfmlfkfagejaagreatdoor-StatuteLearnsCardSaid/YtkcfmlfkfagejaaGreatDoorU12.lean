/-
  Chapter 33 as plain functions, first part: parsing, printing, the operations, find and value; no program. (Printed by lift.py, but for what the lexer answers.) Plain functions with fuel: what holds for all large fuel. No program.
-/
import Derived.Lib.Join
import Derived.Lib.ItoaNum
import Derived.Test.YtkcfmlfkfagejaaGreatDoorU10
import Derived.Test.YtkcfmlfkfagejaaGreatDoorU11
set_option linter.unusedVariables false
set_option linter.unusedSimpArgs false
namespace Go.Sp
open Go Go.Vl
set_option linter.unusedVariables false
structure Ao where
 Kind:Int
 At:Int
 S:ByteArray
 N:Int
def Cg (x:Ao):List PV:=[iP x.Kind,iP x.At,tP x.S,iP x.N]
theorem Hy (x:Ao):Cg x=[iP x.Kind,iP x.At,tP x.S,iP x.N]:=rfl
theorem Hg (x:Ao):(Cg x).length=4:=rfl
def Bg:Rw Ao:=⟨Cg,_,4,Hy,Hg⟩
structure Au where
 At:Int
 E:Int
structure A7 where
 sign:ByteArray
 op:Int
 level:Int
def D0 (x:A7):List PV:=[tP x.sign,iP x.op,iP x.level]
theorem JJ (x:A7):D0 x=[tP x.sign,iP x.op,iP x.level]:=rfl
theorem Jh (x:A7):(D0 x).length=3:=rfl
def B7:Rw A7:=⟨D0,_,3,JJ,Jh⟩
structure Ac where
 l:(List Ao)
 forms:Int
structure Ab where
 Op:Int
 N:Int
 S:ByteArray
 Kids:(List Ab)
 At:Int
mutual
def AQ:Ab->List PV
 |.mk fOp fN fS fKids fAt=>[iP fOp,iP fN,tP fS,.sl (FL fKids) .shared,iP fAt]
def FL:List Ab->List (List PV)
 | []=>[]
 |x::l=>AQ x::FL l
end
theorem Hx:∀ l:List Ab,FL l=l.map AQ
 | []=>rfl
 |x::l=>by rw [FL,Hx l];rfl
theorem EN (x:Ab):AQ x=[iP x.Op,iP x.N,tP x.S,hP x.Kids AQ,iP x.At]:=by
 cases x;rw [AQ];simp only [Hx]
theorem H0 (x:Ab):(AQ x).length=5:=by rw [EN];rfl
def A3:Rw Ab:=⟨AQ,_,5,EN,H0⟩
structure AH where
 Kind:Int
 N:Int
 S:ByteArray
 E:Ab
 At:Int
def BU (x:AH):List PV:=[iP x.Kind,iP x.N,tP x.S,iP x.E.Op,iP x.E.N,tP x.E.S,hP x.E.Kids AQ,iP x.E.At,iP x.At]
theorem MH (x:AH):BU x=[iP x.Kind,iP x.N,tP x.S,iP x.E.Op,iP x.E.N,tP x.E.S,hP x.E.Kids AQ,iP x.E.At,iP x.At]:=rfl
theorem Mj (x:AH):(BU x).length=9:=rfl
def A6:Rw AH:=⟨BU,_,9,MH,Mj⟩
structure Av where
 Word:ByteArray
 Args:(List AH)
 Body:(List Av)
 At:Int
mutual
def BG:Av->List PV
 |.mk fWord fArgs fBody fAt=>[tP fWord,hP fArgs BU,.sl (FK fBody) .shared,iP fAt]
def FK:List Av->List (List PV)
 | []=>[]
 |x::l=>BG x::FK l
end
theorem Hw:∀ l:List Av,FK l=l.map BG
 | []=>rfl
 |x::l=>by rw [FK,Hw l];rfl
theorem EM (x:Av):BG x=[tP x.Word,hP x.Args BU,hP x.Body BG,iP x.At]:=by
 cases x;rw [BG];simp only [Hw]
theorem F8 (x:Av):(BG x).length=4:=by rw [EM];rfl
def B3:Rw Av:=⟨BG,_,4,EM,F8⟩
structure As where
 At:Int
 E:Int
structure Ak where
 l:(List Ao)
 bad:Bool
structure Az where
 Kind:Int
 Who:Int
 Day:Int
 Known:Int
def Ch (x:Az):List PV:=[iP x.Kind,iP x.Who,iP x.Day,iP x.Known]
theorem I5 (x:Az):Ch x=[iP x.Kind,iP x.Who,iP x.Day,iP x.Known]:=rfl
theorem Hz (x:Az):(Ch x).length=4:=rfl
def AD:Rw Az:=⟨Ch,_,4,I5,Hz⟩
structure A1 where
 Facts:(List Az)
 Stored:Int
 Owner:Int
def Gj (x:A1):List PV:=[hP x.Facts Ch,iP x.Stored,iP x.Owner]
theorem GK (x:A1):Gj x=[hP x.Facts Ch,iP x.Stored,iP x.Owner]:=rfl
structure Ah where
 d:A1
 known:Int
structure Aa where
 op:Int
 name:ByteArray
 args:(List Int)
 kind:Int
 do_:Do
def Aw (x:Int):List PV:=[iP x]
theorem Bi (x:Int):Aw x=[iP x]:=rfl
theorem Ji (x:Int):(Aw x).length=1:=rfl
def AP:Rw Int:=⟨Aw,_,1,Bi,Ji⟩
def Ad (x:Aa):List PV:=[iP x.op,tP x.name,hP x.args Aw,iP x.kind,.fno (Jr x.do_) (Iv x.do_) (I6 x.do_)]
theorem Bv (x:Aa):Ad x=[iP x.op,tP x.name,hP x.args Aw,iP x.kind,.fno (Jr x.do_) (Iv x.do_) (I6 x.do_)]:=rfl
theorem BA (x:Aa):(Ad x).length=5:=rfl
def FV:Rw Aa:=⟨Ad,_,5,Bv,BA⟩
structure AN where
 ops:(List Aa)
 names:(List (ByteArray×Int))
def B4 (x:ByteArray):List PV:=[tP x]
theorem Hr (x:ByteArray):B4 x=[tP x]:=rfl
theorem Jg (x:ByteArray):(B4 x).length=1:=rfl
def Bu:Rw ByteArray:=⟨B4,_,1,Hr,Jg⟩
def YT (t:Lx.Tok):Ao:=⟨(t.kind:Int),(t.at_:Int),⟨⟨t.s⟩⟩,(t.n:Int)⟩
def KG (src:ByteArray):List Ao×Au :=
 if 65536<src.size then ([],⟨0,2⟩)
 else match Lx.tokens src.data.toList with
  |.ok ts=>(ts.map YT,⟨0,0⟩)
  |.error (p,e)=>([],⟨(p:Int),(e:Int)⟩)
def Oz (src:ByteArray):Option (List Ao×Au):=some (KG src)
def VM (t:Ao):List (List UInt8):=if t.Kind=1∨t.Kind=4 then [t.S.data.toList] else if t.Kind=2 then [Lib.itoa t.N] else if t.Kind=3 then [34::Lx.quoted t.S.data.toList++[34]] else []
def VQ (l:List Ao):ByteArray:=⟨⟨Lib.join (l.flatMap VM) [32]⟩⟩
def Rf (l:List Ao):Prop:=l.length<=1000000/\(∀ t∈l,-9223372036854775808<=t.N/\t.N<=9223372036854775807)/\(VQ l).size<=140737488355328/\∀ t∈l,t.Kind≠3∨t.S.size<=1000000
instance (l:List Ao):Decidable (Rf l):=by unfold Rf;exact inferInstance
def Pd (l:List Ao):Option ByteArray:=if Rf l then some (VQ l) else none
def Cx:Option (List A7) :=
 (some [(A7.mk ⟨#[42]⟩ 7 6),(A7.mk ⟨#[47]⟩ 8 6),(A7.mk ⟨#[37]⟩ 9 6),(A7.mk ⟨#[43]⟩ 10 5),(A7.mk ⟨#[45]⟩ 11 5),(A7.mk ⟨#[61,61]⟩ 12 4),(A7.mk ⟨#[33,61]⟩ 13 4),(A7.mk ⟨#[60]⟩ 14 4),(A7.mk ⟨#[60,61]⟩ 15 4),(A7.mk ⟨#[62]⟩ 16 4),(A7.mk ⟨#[62,61]⟩ 17 4),(A7.mk ⟨#[38,38]⟩ 18 2),(A7.mk ⟨#[124,124]⟩ 19 1)]).bind fun l =>
 some l
def AZ (p:Ac)(e:Int):Option (Ex As Ac Unit) :=
 (gi p.l 0).bind fun x =>
 some (.pan (As.mk x.At e) p)
def AE (p:Ac):Option (Ao×Ac) :=
 (gi p.l 0).bind fun x =>
 (VY p.l 1 (p.l.length:Int)).bind fun l =>
 some (x,(Ac.mk l p.forms))
def AU (p:Ac)(s:ByteArray):Option Bool :=
 (((gi p.l 0).bind fun x =>
 bif (x.Kind == 4) then
  some (decide (x.S=s))
 else
  some false
 ):Option Bool).bind fun v4 =>
  some v4
def Cz (p:Ac):Option Bool :=
 (gi p.l 0).bind fun x =>
 ((bif (x.Kind == 1) then
  some (x.Kind == 1)
 else
  bif (x.Kind == 2) then
   some (x.Kind == 2)
  else
   some (x.Kind == 3)
 ):Option Bool).bind fun v10 =>
  bif v10 then
   some true
  else
   (((AU p ⟨#[40]⟩).bind fun i =>
   bif i then
    some true
   else
    (AU p ⟨#[45]⟩).bind fun i1 =>
    some i1
   ):Option Bool).bind fun v2 =>
    some v2
def EE (p:Ac):Option (Ex As Ac Int) :=
 (gi p.l 0).bind fun x =>
 bif (x.Kind != 2) then
  (AZ p 5).bind fun y=>match y with
  |.ok f p1 =>
   (AE p1).bind fun n_ =>
   some (.ok n_.1.N n_.2)
  |.pan e p2=>some (.pan e p2)
 else
  (AE p).bind fun n_1 =>
  some (.ok n_1.1.N n_1.2)
def Ct (p:Ac)(depth:Int)(not_:Bool):Option (Ex As Ac Unit) :=
 (((Cz p).bind fun b =>
 bif (!b) then
  bif not_ then
   (AU p ⟨#[33]⟩).bind fun i =>
   some (!i)
  else
   some true
 else
  some false
 ):Option Bool).bind fun v16 =>
  ((bif v16 then
   (AZ p 5).bind fun y3=>match y3 with
   |.ok f1 p5 =>
    some (.inl (p5.l,p5.forms))
   |.pan e3 p6=>some (.inr (.pan e3 p6))
  else
   some (.inl (p.l,p.forms))
  ):Option (((List Ao)×Int) ⊕ (Ex As Ac Unit))).bind fun y1=>match y1 with
  |.inl (p1,p2) =>
   bif (decide (30<depth)) then
    (AZ (Ac.mk p1 p2) 2).bind fun y2=>match y2 with
    |.ok f p3 =>
     some (.ok () p3)
    |.pan e2 p4=>some (.pan e2 p4)
   else
    some (.ok () (Ac.mk p1 p2))
  |.inr o=>some o
def Cs (p:Ac)(s:ByteArray):Option (Ex As Ac Unit) :=
 (AU p s).bind fun i =>
 bif (!i) then
  (AZ p 5).bind fun y=>match y with
  |.ok f p1 =>
   (AE p1).bind fun n_ =>
   some (.ok () n_.2)
  |.pan e p2=>some (.pan e p2)
 else
  (AE p).bind fun n_1 =>
  some (.ok () n_1.2)
def D5 (p:(List Ao))(p1:Int)(n_:Int)(q:Int)(q1:Int)(q2:ByteArray)(q3:(List Ab))(q4:Int)(e:Int)(e1:Int)(e2:ByteArray)(e3:(List Ab))(e4:Int)(b:A7):Option Bool :=
 ((bif (b.level == n_) then
  (AU (Ac.mk p p1) b.sign).bind fun i =>
  some i
 else
  some false
 ):Option Bool).bind fun v4 =>
  some v4
def B8:Nat->(List A7)->(List Ao)->Int->Int->Int->Int->ByteArray->(List Ab)->Int->Int->Int->ByteArray->(List Ab)->Int->Int->Option (Unit ⊕ Int)
 |0,_,_,_,_,_,_,_,_,_,_,_,_,_,_,_=>none
 |n+1,s,p,p1,n_,q,q1,q2,q3,q4,e,e1,e2,e3,e4,v8 =>
  bif (decide (v8<(s.length:Int))) then
   (gi s v8).bind fun x =>
   (D5 p p1 n_ q q1 q2 q3 q4 e e1 e2 e3 e4 x).bind fun l =>
   bif l then
    some (.inr v8)
   else
    B8 n s p p1 n_ q q1 q2 q3 q4 e e1 e2 e3 e4 (IntKind.i64.wrap (v8+1))
  else
   some (.inl ())
def C6 (n:Nat)(p:(List Ao))(p1:Int)(n_:Int)(q:Int)(q1:Int)(q2:ByteArray)(q3:(List Ab))(q4:Int)(e:Int)(e1:Int)(e2:ByteArray)(e3:(List Ab))(e4:Int)(s:(List A7)):Option Int :=
 ((B8 n s p p1 n_ q q1 q2 q3 q4 e e1 e2 e3 e4 0
 ):Option (Unit ⊕ Int)).bind fun y=>match y with
 |.inl _ =>
  some (-1)
 |.inr o=>some o
mutual
def AJ:Nat->Ac->Int->Option (Ex As Ac Ab)
 |0,_,_=>none
 |n+1,p,depth =>
  (Ct p depth true).bind fun y=>match y with
  |.ok d p1 =>
   (AT n p1 1 depth).bind fun y1=>match y1 with
   |.ok e1 p3 =>
    (AU p3 ⟨#[63]⟩).bind fun i =>
    bif (!i) then
     some (.ok (Ab.mk e1.Op e1.N e1.S e1.Kids e1.At) p3)
    else
     (AE p3).bind fun n_ =>
     (AJ n n_.2 (IntKind.i64.wrap (depth+1))).bind fun y2=>match y2 with
     |.ok a_ p5 =>
      (Cs p5 ⟨#[58]⟩).bind fun y3=>match y3 with
      |.ok n_1 p7 =>
       (AJ n p7 (IntKind.i64.wrap (depth+1))).bind fun y4=>match y4 with
       |.ok e5 p9 =>
        (some [(Ab.mk e1.Op e1.N e1.S e1.Kids e1.At),a_,(Ab.mk e5.Op e5.N e5.S e5.Kids e5.At)]).bind fun l =>
        some (.ok (Ab.mk 20 0 ⟨#[]⟩ l e1.At) p9)
       |.pan e6 p10=>some (.pan e6 p10)
      |.pan e4 p8=>some (.pan e4 p8)
     |.pan e3 p6=>some (.pan e3 p6)
   |.pan e2 p4=>some (.pan e2 p4)
  |.pan e p2=>some (.pan e p2)
def CS:Nat->Int->Ab->Int->(List Ao)->Int->Int->Int->ByteArray->(List Ab)->Option (Ex As Ac Ab)
 |0,_,_,_,_,_,_,_,_,_=>none
 |n+1,n_1,e2,depth,p5,p6,e4,e5,e6,e7 =>
  (Cx).bind fun o_ =>
  (C6 n p5 p6 n_1 0 0 ⟨#[]⟩ [] 0 e4 e5 e6 e7 e2.At o_).bind fun k =>
  bif (decide (k<0)) then
   some (.ok (Ab.mk e4 e5 e6 e7 e2.At) (Ac.mk p5 p6))
  else
   (AE (Ac.mk p5 p6)).bind fun n_3 =>
   (Cx).bind fun o_1 =>
   (gi o_1 k).bind fun x =>
   (AT n n_3.2 (IntKind.i64.wrap (n_1+1)) depth).bind fun y3=>match y3 with
   |.ok l p7 =>
    (some [(Ab.mk e4 e5 e6 e7 e2.At),l]).bind fun l1 =>
    bif (n_1 == 4) then
     some (.ok (Ab.mk x.op 0 ⟨#[]⟩ l1 e2.At) p7)
    else
     CS n n_1 e2 depth p7.l p7.forms x.op 0 ⟨#[]⟩ l1
   |.pan e8 p8=>some (.pan e8 p8)
def AT:Nat->Ac->Int->Int->Option (Ex As Ac Ab)
 |0,_,_,_=>none
 |n+1,p,n_,depth =>
  ((bif (n_ == 3) then
   (AU p ⟨#[33]⟩).bind fun i =>
   bif i then
    (AE p).bind fun n_4 =>
    (Ct n_4.2 (IntKind.i64.wrap (depth+1)) true).bind fun y4=>match y4 with
    |.ok d p9 =>
     (AT n p9 3 (IntKind.i64.wrap (depth+1))).bind fun y5=>match y5 with
     |.ok l2 p11 =>
      (some [l2]).bind fun l3 =>
      some (.inr (.ok (Ab.mk 5 0 ⟨#[]⟩ l3 n_4.1.At) p11))
     |.pan e10 p12=>some (.inr (.pan e10 p12))
    |.pan e9 p10=>some (.inr (.pan e9 p10))
   else
    some (.inl (IntKind.i64.wrap (n_+1)))
  else
   some (.inl n_)
  ):Option (Int ⊕ (Ex As Ac Ab))).bind fun y=>match y with
  |.inl n_1 =>
   bif (n_1 == 7) then
    (Bm n p depth).bind fun y1=>match y1 with
    |.ok n_2 p1 =>
     some (.ok n_2 p1)
    |.pan e1 p2=>some (.pan e1 p2)
   else
    (AT n p (IntKind.i64.wrap (n_1+1)) depth).bind fun y2=>match y2 with
    |.ok e2 p3 =>
     CS n n_1 e2 depth p3.l p3.forms e2.Op e2.N e2.S e2.Kids
    |.pan e3 p4=>some (.pan e3 p4)
  |.inr o=>some o
def Bm:Nat->Ac->Int->Option (Ex As Ac Ab)
 |0,_,_=>none
 |n+1,p,depth =>
  (AU p ⟨#[45]⟩).bind fun i =>
  bif (!i) then
   (Bn n p depth).bind fun y=>match y with
   |.ok a_ p1 =>
    some (.ok a_ p1)
   |.pan e p2=>some (.pan e p2)
  else
   (AE p).bind fun n_ =>
   (Ct n_.2 (IntKind.i64.wrap (depth+1)) false).bind fun y1=>match y1 with
   |.ok d p3 =>
    (Bm n p3 (IntKind.i64.wrap (depth+1))).bind fun y2=>match y2 with
    |.ok n_1 p5 =>
     (some [n_1]).bind fun l =>
     some (.ok (Ab.mk 6 0 ⟨#[]⟩ l n_.1.At) p5)
    |.pan e2 p6=>some (.pan e2 p6)
   |.pan e1 p4=>some (.pan e1 p4)
def Cn:Nat->Int->(List Ao)->Int->(List Ab)->Option (((List Ao)×Int×(List Ab)) ⊕ (Ex As Ac Ab))
 |0,_,_,_,_=>none
 |n+1,depth,p5,p6,e3 =>
  (AU (Ac.mk p5 p6) ⟨#[41]⟩).bind fun i1 =>
  bif (!i1) then
   ((bif (decide (0<(e3.length:Int))) then
    (Cs (Ac.mk p5 p6) ⟨#[44]⟩).bind fun y7=>match y7 with
    |.ok n_2 p17 =>
     some (.inl (p17.l,p17.forms))
    |.pan e11 p18=>some (.inr (.pan e11 p18))
   else
    some (.inl (p5,p6))
   ):Option (((List Ao)×Int) ⊕ (Ex As Ac Ab))).bind fun y2=>match y2 with
   |.inl (p7,p8) =>
    bif ((e3.length:Int) == 40) then
     (Ct (Ac.mk p7 p8) 0 true).bind fun y3=>match y3 with
     |.ok d p9 =>
      (AZ p9 2).bind fun y4=>match y4 with
      |.ok f p11 =>
       (AJ n p11 (IntKind.i64.wrap (depth+1))).bind fun y5=>match y5 with
       |.ok e7 p13 =>
        (some [(Ab.mk e7.Op e7.N e7.S e7.Kids e7.At)]).bind fun l =>
        (C0 65 e3 l).bind fun l1 =>
        Cn n depth p13.l p13.forms l1
       |.pan e8 p14=>some (.inr (.pan e8 p14))
      |.pan e6 p12=>some (.inr (.pan e6 p12))
     |.pan e5 p10=>some (.inr (.pan e5 p10))
    else
     (AJ n (Ac.mk p7 p8) (IntKind.i64.wrap (depth+1))).bind fun y6=>match y6 with
     |.ok e9 p15 =>
      (some [(Ab.mk e9.Op e9.N e9.S e9.Kids e9.At)]).bind fun l2 =>
      (C0 65 e3 l2).bind fun l3 =>
      Cn n depth p15.l p15.forms l3
     |.pan e10 p16=>some (.inr (.pan e10 p16))
   |.inr o=>some (.inr o)
  else
   some (.inl (p5,p6,e3))
def Bn:Nat->Ac->Int->Option (Ex As Ac Ab)
 |0,_,_=>none
 |n+1,p,depth =>
  (Cz p).bind fun b =>
  ((bif (!b) then
   (AZ p 5).bind fun y10=>match y10 with
   |.ok f1 p23 =>
    some (.inl (p23.l,p23.forms))
   |.pan e15 p24=>some (.inr (.pan e15 p24))
  else
   some (.inl (p.l,p.forms))
  ):Option (((List Ao)×Int) ⊕ (Ex As Ac Ab))).bind fun y=>match y with
  |.inl (p1,p2) =>
   (AE (Ac.mk p1 p2)).bind fun t =>
   bif (t.1.Kind == 2) then
    some (.ok (Ab.mk 1 t.1.N t.1.S [] t.1.At) t.2)
   else
    bif (t.1.Kind == 3) then
     some (.ok (Ab.mk 2 t.1.N t.1.S [] t.1.At) t.2)
    else
     bif (t.1.Kind == 1) then
      (AU t.2 ⟨#[40]⟩).bind fun i =>
      bif (!i) then
       some (.ok (Ab.mk 3 t.1.N t.1.S [] t.1.At) t.2)
      else
       (AE t.2).bind fun n_ =>
       ((Cn n depth n_.2.l n_.2.forms []
       ):Option (((List Ao)×Int×(List Ab)) ⊕ (Ex As Ac Ab))).bind fun y1=>match y1 with
       |.inl (p3,p4,e1) =>
        (AE (Ac.mk p3 p4)).bind fun n_1 =>
        some (.ok (Ab.mk 4 t.1.N t.1.S e1 t.1.At) n_1.2)
       |.inr o=>some o
     else
      (AJ n t.2 (IntKind.i64.wrap (depth+1))).bind fun y8=>match y8 with
      |.ok e12 p19 =>
       (Cs p19 ⟨#[41]⟩).bind fun y9=>match y9 with
       |.ok n_3 p21 =>
        some (.ok e12 p21)
       |.pan e14 p22=>some (.pan e14 p22)
      |.pan e13 p20=>some (.pan e13 p20)
  |.inr o=>some o
end
def EB (n:Nat)(p:Ac):Option (Ex As Ac AH) :=
 (AE p).bind fun t =>
 bif (t.1.Kind == 1) then
  some (.ok (AH.mk 1 t.1.N t.1.S (Ab.mk 0 0 ⟨#[]⟩ [] 0) t.1.At) t.2)
 else
  bif (t.1.Kind == 2) then
   some (.ok (AH.mk 2 t.1.N t.1.S (Ab.mk 0 0 ⟨#[]⟩ [] 0) t.1.At) t.2)
  else
   bif (t.1.Kind == 3) then
    some (.ok (AH.mk 3 t.1.N t.1.S (Ab.mk 0 0 ⟨#[]⟩ [] 0) t.1.At) t.2)
   else
    bif (decide (t.1.S=⟨#[45]⟩)) then
     (EE t.2).bind fun y=>match y with
     |.ok n_ p1 =>
      some (.ok (AH.mk 2 (IntKind.i64.wrap (0-n_)) ⟨#[]⟩ (Ab.mk 0 0 ⟨#[]⟩ [] 0) t.1.At) p1)
     |.pan e p2=>some (.pan e p2)
    else
     bif (decide (t.1.S=⟨#[45,62]⟩)) then
      some (.ok (AH.mk 4 t.1.N ⟨#[]⟩ (Ab.mk 0 0 ⟨#[]⟩ [] 0) t.1.At) t.2)
     else
      bif (decide (t.1.S=⟨#[40]⟩)) then
       (AJ n t.2 1).bind fun y1=>match y1 with
       |.ok e1 p3 =>
        (Cs p3 ⟨#[41]⟩).bind fun y2=>match y2 with
        |.ok n_1 p5 =>
         some (.ok (AH.mk 5 t.1.N ⟨#[]⟩ (Ab.mk e1.Op e1.N e1.S e1.Kids e1.At) t.1.At) p5)
        |.pan e3 p6=>some (.pan e3 p6)
       |.pan e2 p4=>some (.pan e2 p4)
      else
       some (.ok (AH.mk 0 t.1.N ⟨#[]⟩ (Ab.mk 0 0 ⟨#[]⟩ [] 0) t.1.At) t.2)
mutual
def De:Nat->Int->(List Ao)->Int->(List Av)->Option (((List Ao)×Int×(List Av)) ⊕ (Ex As Ac Av))
 |0,_,_,_,_=>none
 |n+1,depth,p9,p10,f2 =>
  (AU (Ac.mk p9 p10) ⟨#[125]⟩).bind fun i =>
  bif (!i) then
   (Bz n (Ac.mk p9 p10) (IntKind.i64.wrap (depth+1))).bind fun y5=>match y5 with
   |.ok f3 p11 =>
    (some [f3]).bind fun l =>
    (C0 73 f2 l).bind fun l1 =>
    De n depth p11.l p11.forms l1
   |.pan e5 p12=>some (.inr (.pan e5 p12))
  else
   some (.inl (p9,p10,f2))
def Cm:Nat->(List Ao)->Int->(List AH)->Option (((List Ao)×Int×(List AH)) ⊕ (Ex As Ac Av))
 |0,_,_,_=>none
 |n+1,p13,p14,f4 =>
  (((AU (Ac.mk p13 p14) ⟨#[59]⟩).bind fun i2 =>
  bif (!i2) then
   (AU (Ac.mk p13 p14) ⟨#[123]⟩).bind fun i3 =>
   some (!i3)
  else
   some false
  ):Option Bool).bind fun v49 =>
   bif v49 then
    (((Cz (Ac.mk p13 p14)).bind fun b =>
    bif (!b) then
     (AU (Ac.mk p13 p14) ⟨#[45,62]⟩).bind fun i1 =>
     some (!i1)
    else
     some false
    ):Option Bool).bind fun v57 =>
     ((bif v57 then
      (AZ (Ac.mk p13 p14) 5).bind fun y12=>match y12 with
      |.ok f6 p23 =>
       some (.inl (p23.l,p23.forms))
      |.pan e12 p24=>some (.inr (.pan e12 p24))
     else
      some (.inl (p13,p14))
     ):Option (((List Ao)×Int) ⊕ (Ex As Ac Av))).bind fun y8=>match y8 with
     |.inl (p15,p16) =>
      bif ((f4.length:Int) == 40) then
       (AZ (Ac.mk p15 p16) 2).bind fun y9=>match y9 with
       |.ok f5 p17 =>
        (EB n p17).bind fun y10=>match y10 with
        |.ok a_ p19 =>
         (some [a_]).bind fun l2 =>
         (C0 105 f4 l2).bind fun l3 =>
         Cm n p19.l p19.forms l3
        |.pan e10 p20=>some (.inr (.pan e10 p20))
       |.pan e9 p18=>some (.inr (.pan e9 p18))
      else
       (EB n (Ac.mk p15 p16)).bind fun y11=>match y11 with
       |.ok a_1 p21 =>
        (some [a_1]).bind fun l4 =>
        (C0 105 f4 l4).bind fun l5 =>
        Cm n p21.l p21.forms l5
       |.pan e11 p22=>some (.inr (.pan e11 p22))
     |.inr o=>some (.inr o)
   else
    some (.inl (p13,p14,f4))
def Bz:Nat->Ac->Int->Option (Ex As Ac Av)
 |0,_,_=>none
 |n+1,p,depth =>
  (gi p.l 0).bind fun x =>
  ((bif (x.Kind != 1) then
   (AZ p 5).bind fun y14=>match y14 with
   |.ok f8 p27 =>
    some (.inl (p27.l,p27.forms))
   |.pan e14 p28=>some (.inr (.pan e14 p28))
  else
   some (.inl (p.l,p.forms))
  ):Option (((List Ao)×Int) ⊕ (Ex As Ac Av))).bind fun y=>match y with
  |.inl (p1,p2) =>
   ((bif (decide (30<depth)) then
    some true
   else
    some (decide (2000<(IntKind.i64.wrap (p2+1))))
   ):Option Bool).bind fun v32 =>
    ((bif v32 then
     (AZ (Ac.mk p1 (IntKind.i64.wrap (p2+1))) 2).bind fun y13=>match y13 with
     |.ok f7 p25 =>
      some (.inl (p25.l,p25.forms))
     |.pan e13 p26=>some (.inr (.pan e13 p26))
    else
     some (.inl (p1,(IntKind.i64.wrap (p2+1))))
    ):Option (((List Ao)×Int) ⊕ (Ex As Ac Av))).bind fun y2=>match y2 with
    |.inl (p3,p4) =>
     (AE (Ac.mk p3 p4)).bind fun t =>
     ((Cm n t.2.l t.2.forms []
     ):Option (((List Ao)×Int×(List AH)) ⊕ (Ex As Ac Av))).bind fun y3=>match y3 with
     |.inl (p5,p6,f) =>
      (AE (Ac.mk p5 p6)).bind fun n_ =>
      bif (decide (n_.1.S=⟨#[59]⟩)) then
       some (.ok (Av.mk t.1.S f [] t.1.At) n_.2)
      else
       ((De n depth n_.2.l n_.2.forms []
       ):Option (((List Ao)×Int×(List Av)) ⊕ (Ex As Ac Av))).bind fun y4=>match y4 with
       |.inl (p7,p8,f1) =>
        (AE (Ac.mk p7 p8)).bind fun n_1 =>
        some (.ok (Av.mk t.1.S f f1 t.1.At) n_1.2)
       |.inr o=>some o
     |.inr o=>some o
    |.inr o=>some o
  |.inr o=>some o
end
mutual
def Ei:Nat->Ab->Ab->Bool->Int->Option (Unit ⊕ Bool)
 |0,_,_,_,_=>none
 |n+1,a_,b,offsets,k =>
  bif (decide (k<(a_.Kids.length:Int))) then
   (gi a_.Kids k).bind fun x =>
   (gi b.Kids k).bind fun x1 =>
   (B5 n x x1 offsets).bind fun same =>
   bif (!same) then
    some (.inr false)
   else
    Ei n a_ b offsets (IntKind.i64.wrap (k+1))
  else
   some (.inl ())
def B5:Nat->Ab->Ab->Bool->Option Bool
 |0,_,_,_=>none
 |n+1,a_,b,offsets =>
  ((bif (a_.Op != b.Op) then
   some true
  else
   bif (a_.Op == 1) then
    bif (a_.N != b.N) then
     some true
    else
     bif (decide (2<=a_.Op)) then
      bif (decide (a_.Op<=4)) then
       bif (!decide (a_.S=b.S)) then
        some true
       else
        bif offsets then
         some (a_.At != b.At)
        else
         some false
      else
       bif offsets then
        some (a_.At != b.At)
       else
        some false
     else
      bif offsets then
       some (a_.At != b.At)
      else
       some false
   else
    bif (decide (2<=a_.Op)) then
     bif (decide (a_.Op<=4)) then
      bif (!decide (a_.S=b.S)) then
       some true
      else
       bif offsets then
        some (a_.At != b.At)
       else
        some false
     else
      bif offsets then
       some (a_.At != b.At)
      else
       some false
    else
     bif offsets then
      some (a_.At != b.At)
     else
      some false
  ):Option Bool).bind fun v52 =>
   bif v52 then
    some false
   else
    ((bif (decide (1<=a_.Op)) then
     some (decide (a_.Op<=3))
    else
     some false
    ):Option Bool).bind fun v60 =>
     bif v60 then
      some true
     else
      bif ((a_.Kids.length:Int) != (b.Kids.length:Int)) then
       some false
      else
       ((Ei n a_ b offsets 0
       ):Option (Unit ⊕ Bool)).bind fun y2=>match y2 with
       |.inl _ =>
        some true
       |.inr o=>some o
end
def Cl (p:Ak)(n_:Int):Option (Unit×Ak) :=
 ((bif p.bad then
  some true
 else
  bif (decide (n_<0)) then
   some true
  else
   some (decide (999999999999999<n_))
 ):Option Bool).bind fun p1 =>
  (some [(Ao.mk 2 0 ⟨#[]⟩ n_)]).bind fun l =>
  (C0 41 p.l l).bind fun l1 =>
  some ((),(Ak.mk l1 p1))
def CP:Nat->ByteArray->Int->Bool->Option Bool
 |0,_,_,_=>none
 |n+1,s,v19,p3 =>
  bif (decide (v19<(s.size:Int))) then
   ((bif p3 then
    some true
   else
    (gb s v19).bind fun c =>
    bif (c != 10) then
     bif (decide (c<32)) then
      some true
     else
      some (decide (126<c))
    else
     some false
   ):Option Bool).bind fun p4 =>
    CP n s (IntKind.i64.wrap (v19+1)) p4
  else
   some p3
def DE (n:Nat)(p:Ak)(s:ByteArray):Option (Unit×Ak) :=
 ((bif p.bad then
  some true
 else
  some (decide (200<(s.size:Int)))
 ):Option Bool).bind fun p1 =>
  ((CP n s 0 p1
  ):Option Bool).bind fun p2 =>
   (some [(Ao.mk 3 0 s 0)]).bind fun l =>
   (C0 41 p.l l).bind fun l1 =>
   some ((),(Ak.mk l1 p2))
def E2 (c:Int):Option Bool :=
 ((bif (decide (97<=(bits .or .u8 c 32))) then
  bif (decide ((bits .or .u8 c 32)<=122)) then
   some true
  else
   some (c == 95)
 else
  some (c == 95)
 ):Option Bool).bind fun v2 =>
  some v2
def CQ:Nat->ByteArray->Bool->Int->Option Bool
 |0,_,_,_=>none
 |n+1,s,ok2,v17 =>
  bif (decide (v17<(s.size:Int))) then
   ((bif ok2 then
    (gb s v17).bind fun c =>
    (E2 c).bind fun n_ =>
    bif n_ then
     some true
    else
     bif (decide (0<v17)) then
      bif (decide (48<=c)) then
       some (decide (c<=57))
      else
       some false
     else
      some false
   else
    some false
   ):Option Bool).bind fun ok3 =>
    CQ n s ok3 (IntKind.i64.wrap (v17+1))
  else
   some ok2
def Ca (n:Nat)(p:Ak)(s:ByteArray):Option (Unit×Ak) :=
 ((bif (decide (0<(s.size:Int))) then
  some (decide ((s.size:Int)<=32))
 else
  some false
 ):Option Bool).bind fun ok =>
  ((CQ n s ok 0
  ):Option Bool).bind fun ok1 =>
   ((bif p.bad then
    some true
   else
    some (!ok1)
   ):Option Bool).bind fun p1 =>
    (some [(Ao.mk 1 0 s 0)]).bind fun l =>
    (C0 41 p.l l).bind fun l1 =>
    some ((),(Ak.mk l1 p1))
def C8:Nat->(List ByteArray)->Int->(List Ao)->Option (List Ao)
 |0,_,_,_=>none
 |n+1,l,v8,p2 =>
  bif (decide (v8<(l.length:Int))) then
   (gi l v8).bind fun x =>
   (some [(Ao.mk 4 0 x 0)]).bind fun l1 =>
   (C0 41 p2 l1).bind fun l2 =>
   C8 n l (IntKind.i64.wrap (v8+1)) l2
  else
   some p2
def A5 (n:Nat)(p:Ak)(l:(List ByteArray)):Option (Unit×Ak) :=
 ((C8 n l 0 p.l
 ):Option (List Ao)).bind fun p1 =>
  some ((),(Ak.mk p1 p.bad))
def Fp:Nat->(List A7)->Ab->Int->Option (Unit ⊕ Int)
 |0,_,_,_=>none
 |n+1,o_,e,v15 =>
  bif (decide (v15<(o_.length:Int))) then
   (gi o_ v15).bind fun x =>
   bif (x.op == e.Op) then
    some (.inr x.level)
   else
    Fp n o_ e (IntKind.i64.wrap (v15+1))
  else
   some (.inl ())
def Jn (n:Nat)(e:Ab):Option Int :=
 bif (e.Op == 20) then
  some 0
 else
  bif (e.Op == 5) then
   some 3
  else
   bif (e.Op == 6) then
    some 7
   else
    (Cx).bind fun o_ =>
    ((Fp n o_ e 0
    ):Option (Unit ⊕ Int)).bind fun y=>match y with
    |.inl _ =>
     some 8
    |.inr o=>some o
def D4 (p:(List Ao))(p1:Bool)(e:Int)(e1:Int)(e2:ByteArray)(e3:(List Ab))(e4:Int)(b:A7):Option Bool :=
 some (b.op == e)
def B9:Nat->(List A7)->(List Ao)->Bool->Int->Int->ByteArray->(List Ab)->Int->Int->Option (Unit ⊕ Int)
 |0,_,_,_,_,_,_,_,_,_=>none
 |n+1,s,p,p1,e,e1,e2,e3,e4,v8 =>
  bif (decide (v8<(s.length:Int))) then
   (gi s v8).bind fun x =>
   (D4 p p1 e e1 e2 e3 e4 x).bind fun e6 =>
   bif e6 then
    some (.inr v8)
   else
    B9 n s p p1 e e1 e2 e3 e4 (IntKind.i64.wrap (v8+1))
  else
   some (.inl ())
def C7 (n:Nat)(p:(List Ao))(p1:Bool)(e:Int)(e1:Int)(e2:ByteArray)(e3:(List Ab))(e4:Int)(s:(List A7)):Option Int :=
 ((B9 n s p p1 e e1 e2 e3 e4 0
 ):Option (Unit ⊕ Int)).bind fun y=>match y with
 |.inl _ =>
  some (-1)
 |.inr o=>some o
mutual
def BX:Nat->Ab->(List ByteArray)->Int->(List Ao)->Bool->Option ((List Ao)×Bool)
 |0,_,_,_,_,_=>none
 |n+1,e,l,v89,p3,p4 =>
  bif (decide (v89<(e.Kids.length:Int))) then
   (gi e.Kids v89).bind fun x =>
   bif (decide (0<v89)) then
    (some [⟨#[44]⟩]).bind fun l2 =>
    (A5 n (Ak.mk p3 p4) l2).bind fun s2 =>
    (A9 n s2.2 x 0).bind fun o_ =>
    BX n e l (IntKind.i64.wrap (v89+1)) o_.2.l o_.2.bad
   else
    (A9 n (Ak.mk p3 p4) x 0).bind fun o_1 =>
    BX n e l (IntKind.i64.wrap (v89+1)) o_1.2.l o_1.2.bad
  else
   some (p3,p4)
def Bf:Nat->Ak->Ab->Option (Unit×Ak)
 |0,_,_=>none
 |n+1,p,e =>
  bif (e.Op == 1) then
   (Cl p e.N).bind fun n_ =>
   some ((),n_.2)
  else
   bif (e.Op == 2) then
    (DE n p e.S).bind fun t =>
    some ((),t.2)
   else
    bif (e.Op == 3) then
     (Ca n p e.S).bind fun n_1 =>
     some ((),n_1.2)
    else
     bif (e.Op == 4) then
      (Ca n p e.S).bind fun n_2 =>
      (some [⟨#[40]⟩]).bind fun l =>
      (A5 n n_2.2 l).bind fun s =>
      ((BX n e l 0 s.2.l s.2.bad
      ):Option ((List Ao)×Bool)).bind fun y=>match y with
      |(p1,p2) =>
       (some [⟨#[41]⟩]).bind fun l1 =>
       (A5 n (Ak.mk p1 p2) l1).bind fun s1 =>
       some ((),s1.2)
     else
      ((bif (e.Op == 5) then
       some (e.Op == 5)
      else
       bif (e.Op == 6) then
        some (e.Op == 6)
       else
        some (e.Op == 20)
      ):Option Bool).bind fun v106 =>
       bif v106 then
        bif ((e.Kids.length:Int) != ((Jq [(5,1),(6,1),(20,3)] e.Op).1)) then
         some ((),(Ak.mk p.l true))
        else
         bif (e.Op == 5) then
          (some [⟨#[33]⟩]).bind fun l3 =>
          (A5 n p l3).bind fun s3 =>
          (gi e.Kids 0).bind fun x1 =>
          (A9 n s3.2 x1 3).bind fun o_2 =>
          some ((),o_2.2)
         else
          bif (e.Op == 6) then
           (some [⟨#[45]⟩]).bind fun l4 =>
           (A5 n p l4).bind fun s4 =>
           (gi e.Kids 0).bind fun x2 =>
           (A9 n s4.2 x2 7).bind fun o_3 =>
           some ((),o_3.2)
          else
           (gi e.Kids 0).bind fun x3 =>
           (A9 n p x3 1).bind fun o_4 =>
           (some [⟨#[63]⟩]).bind fun l5 =>
           (A5 n o_4.2 l5).bind fun s5 =>
           (gi e.Kids 1).bind fun x4 =>
           (A9 n s5.2 x4 0).bind fun o_5 =>
           (some [⟨#[58]⟩]).bind fun l6 =>
           (A5 n o_5.2 l6).bind fun s6 =>
           (gi e.Kids 2).bind fun x5 =>
           (A9 n s6.2 x5 0).bind fun o_6 =>
           some ((),o_6.2)
       else
        (Cx).bind fun o_7 =>
        (C7 n p.l p.bad e.Op e.N e.S e.Kids e.At o_7).bind fun k =>
        ((bif (decide (k<0)) then
         some true
        else
         some ((e.Kids.length:Int) != 2)
        ):Option Bool).bind fun v24 =>
         bif v24 then
          some ((),(Ak.mk p.l true))
         else
          (Cx).bind fun o_8 =>
          (gi o_8 k).bind fun x6 =>
          ((bif (x6.level == 4) then
           some 5
          else
           some x6.level
          ):Option Int).bind fun left =>
           (gi e.Kids 0).bind fun x7 =>
           (A9 n p x7 left).bind fun o_9 =>
           (some [x6.sign]).bind fun l7 =>
           (A5 n o_9.2 l7).bind fun s7 =>
           (gi e.Kids 1).bind fun x8 =>
           (A9 n s7.2 x8 (if (IntKind.i64.wrap (x6.level+1)) > left then (IntKind.i64.wrap (x6.level+1)) else left)).bind fun o_10 =>
           some ((),o_10.2)
def A9:Nat->Ak->Ab->Int->Option (Unit×Ak)
 |0,_,_,_=>none
 |n+1,p,e,need =>
  (Jn n (Ab.mk e.Op e.N e.S e.Kids e.At)).bind fun l =>
  bif (decide (need<=l)) then
   (Bf n p (Ab.mk e.Op e.N e.S e.Kids e.At)).bind fun e1 =>
   some ((),e1.2)
  else
   (some [⟨#[40]⟩]).bind fun l1 =>
   (A5 n p l1).bind fun s =>
   (Bf n s.2 (Ab.mk e.Op e.N e.S e.Kids e.At)).bind fun e2 =>
   (some [⟨#[41]⟩]).bind fun l2 =>
   (A5 n e2.2 l2).bind fun s1 =>
   some ((),s1.2)
end
def Ds:Nat->(List Av)->(List Ao)->Int->Option (((List Av)×(List Ao)×Int) ⊕ (Ex As ((List Av)×(List Ao)×Int) Unit))
 |0,_,_,_=>none
 |n+1,out2,q6,q7 =>
  (gi q6 0).bind fun x =>
  bif (x.Kind != 5) then
   (Bz n (Ac.mk q6 q7) 1).bind fun y1=>match y1 with
   |.ok f s =>
    (C0 73 out2 [f]).bind fun out3 =>
    Ds n out3 s.l s.forms
   |.pan e1 s1=>some (.inr (.pan e1 (out2,s1.l,s1.forms)))
  else
   some (.inl (out2,q6,q7))
def FB (n:Nat)(q:Int)(q1:Int)(out:(List Av))(bad:Int)(bad1:Int)(q2:(List Ao))(q3:Int):Option (Ex As ((List Av)×(List Ao)×Int) Unit) :=
 ((Ds n out q2 q3
 ):Option (((List Av)×(List Ao)×Int) ⊕ (Ex As ((List Av)×(List Ao)×Int) Unit))).bind fun y=>match y with
 |.inl (out1,q4,q5) =>
  some (.ok () (out1,q4,q5))
 |.inr o=>some o
def EP (n:Nat)(q:Int)(q1:Int)(out:(List Av))(src:ByteArray):Option (Au×(List Av)) :=
 (Oz src).bind fun t =>
 bif (t.2.E != 0) then
  some (t.2,out)
 else
  (FB n q q1 out t.2.At t.2.E t.1 0).bind fun y=>match y with
  |.ok f c =>
   (gi c.2.1 0).bind fun x =>
   bif (x.Kind != 5) then
    (AZ (Ac.mk c.2.1 c.2.2) 5).bind fun y1=>match y1 with
    |.ok f1 s =>
     some ((Au.mk 0 0),c.1)
    |.pan e1 s1=>some ((Au.mk e1.At e1.E),c.1)
   else
    some ((Au.mk 0 0),c.1)
  |.pan e c1=>some ((Au.mk e.At e.E),c1.1)
def Hh (n:Nat)(src:ByteArray):Option ((List Av)×Au) :=
 (EP n 0 0 [] src).bind fun bad =>
 bif (bad.1.E != 0) then
  some ([],bad.1)
 else
  some (bad.2,bad.1)
mutual
def CR:Nat->Av->Int->(List Ao)->Bool->Option ((List Ao)×Bool)
 |0,_,_,_,_=>none
 |n+1,f,v97,p5,p6 =>
  bif (decide (v97<(f.Body.length:Int))) then
   (gi f.Body v97).bind fun x =>
   (Bq n (Ak.mk p5 p6) x).bind fun f1 =>
   CR n f (IntKind.i64.wrap (v97+1)) f1.2.l f1.2.bad
  else
   some (p5,p6)
def Ba:Nat->Av->Int->(List Ao)->Bool->Option ((List Ao)×Bool)
 |0,_,_,_,_=>none
 |n+1,f,v15,p7,p8 =>
  bif (decide (v15<(f.Args.length:Int))) then
   (gi f.Args v15).bind fun x1 =>
   bif (x1.Kind == 1) then
    (Ca n (Ak.mk p7 p8) x1.S).bind fun n_1 =>
    Ba n f (IntKind.i64.wrap (v15+1)) n_1.2.l n_1.2.bad
   else
    bif (x1.Kind == 2) then
     bif (decide (x1.N<0)) then
      (some [⟨#[45]⟩]).bind fun l3 =>
      (A5 n (Ak.mk p7 p8) l3).bind fun s3 =>
      (Cl s3.2 (if 0 > (IntKind.i64.wrap (0-x1.N)) then 0 else (IntKind.i64.wrap (0-x1.N)))).bind fun n_2 =>
      ((bif n_2.2.bad then
       some true
      else
       some (decide (x1.N<(-999999999999999)))
      ):Option Bool).bind fun p9 =>
       Ba n f (IntKind.i64.wrap (v15+1)) n_2.2.l p9
     else
      (Cl (Ak.mk p7 p8) x1.N).bind fun n_3 =>
      Ba n f (IntKind.i64.wrap (v15+1)) n_3.2.l n_3.2.bad
    else
     bif (x1.Kind == 3) then
      (DE n (Ak.mk p7 p8) x1.S).bind fun t =>
      Ba n f (IntKind.i64.wrap (v15+1)) t.2.l t.2.bad
     else
      bif (x1.Kind == 4) then
       (some [⟨#[45,62]⟩]).bind fun l4 =>
       (A5 n (Ak.mk p7 p8) l4).bind fun s4 =>
       Ba n f (IntKind.i64.wrap (v15+1)) s4.2.l s4.2.bad
      else
       bif (x1.Kind == 5) then
        (some [⟨#[40]⟩]).bind fun l5 =>
        (A5 n (Ak.mk p7 p8) l5).bind fun s5 =>
        (Bf n s5.2 x1.E).bind fun e3 =>
        (some [⟨#[41]⟩]).bind fun l6 =>
        (A5 n e3.2 l6).bind fun s6 =>
        Ba n f (IntKind.i64.wrap (v15+1)) s6.2.l s6.2.bad
       else
        Ba n f (IntKind.i64.wrap (v15+1)) p7 true
  else
   some (p7,p8)
def Bq:Nat->Ak->Av->Option (Unit×Ak)
 |0,_,_=>none
 |n+1,p,f =>
  (Ca n p f.Word).bind fun n_ =>
  ((Ba n f 0 n_.2.l n_.2.bad
  ):Option ((List Ao)×Bool)).bind fun y=>match y with
  |(p1,p2) =>
   bif ((f.Body.length:Int) == 0) then
    (some [⟨#[59]⟩]).bind fun l =>
    (A5 n (Ak.mk p1 p2) l).bind fun s =>
    some ((),s.2)
   else
    (some [⟨#[123]⟩]).bind fun l1 =>
    (A5 n (Ak.mk p1 p2) l1).bind fun s1 =>
    ((CR n f 0 s1.2.l s1.2.bad
    ):Option ((List Ao)×Bool)).bind fun y1=>match y1 with
    |(p3,p4) =>
     (some [⟨#[125]⟩]).bind fun l2 =>
     (A5 n (Ak.mk p3 p4) l2).bind fun s2 =>
     some ((),s2.2)
end
def Fq:Nat->(List Av)->Int->(List Ao)->Bool->Option ((List Ao)×Bool)
 |0,_,_,_,_=>none
 |n+1,l,v14,q2,q3 =>
  bif (decide (v14<(l.length:Int))) then
   (gi l v14).bind fun x =>
   (Bq n (Ak.mk q2 q3) x).bind fun f1 =>
   Fq n l (IntKind.i64.wrap (v14+1)) f1.2.l f1.2.bad
  else
   some (q2,q3)
def Jo (n:Nat)(l:(List Av)):Option (ByteArray×Int) :=
 ((Fq n l 0 [] false
 ):Option ((List Ao)×Bool)).bind fun y=>match y with
 |(q,q1) =>
  bif q1 then
   some (⟨#[]⟩,1)
  else
   (Pd q).bind fun s =>
   (Hh n s).bind fun f =>
   bif (f.2.E != 0) then
    some (⟨#[]⟩,2)
   else
    some (s,0)
def Ey (m_:Ah)(x:(List Int)):Option Int :=
 (gi x 0).bind fun x1 =>
 some (IntKind.i64.wrap (0-x1))
def DJ (x:Int)(y:Int):Option (Int×Int) :=
 some ((IntKind.u64.wrap ((IntKind.u64.wrap ((IntKind.u64.wrap ((x.fdiv (2 ^ min (32:Int).toNat IntKind.u64.bits))*(y.fdiv (2 ^ min (32:Int).toNat IntKind.u64.bits))))+((IntKind.u64.wrap ((IntKind.u64.wrap ((x.fdiv (2 ^ min (32:Int).toNat IntKind.u64.bits))*(bits .and .u64 y 4294967295)))+((IntKind.u64.wrap ((bits .and .u64 x 4294967295)*(bits .and .u64 y 4294967295))).fdiv (2 ^ min (32:Int).toNat IntKind.u64.bits)))).fdiv (2 ^ min (32:Int).toNat IntKind.u64.bits))))+((IntKind.u64.wrap ((bits .and .u64 (IntKind.u64.wrap ((IntKind.u64.wrap ((x.fdiv (2 ^ min (32:Int).toNat IntKind.u64.bits))*(bits .and .u64 y 4294967295)))+((IntKind.u64.wrap ((bits .and .u64 x 4294967295)*(bits .and .u64 y 4294967295))).fdiv (2 ^ min (32:Int).toNat IntKind.u64.bits)))) 4294967295)+(IntKind.u64.wrap ((bits .and .u64 x 4294967295)*(y.fdiv (2 ^ min (32:Int).toNat IntKind.u64.bits)))))).fdiv (2 ^ min (32:Int).toNat IntKind.u64.bits)))),(IntKind.u64.wrap (x*y)))
def DL (a_:Int)(b:Int):Option Int :=
 (DJ (IntKind.u64.wrap (if (IntKind.i64.wrap (0-a_)) > a_ then (IntKind.i64.wrap (0-a_)) else a_)) (IntKind.u64.wrap (if (IntKind.i64.wrap (0-b)) > b then (IntKind.i64.wrap (0-b)) else b))).bind fun m_ =>
 ((bif (m_.1 == 0) then
  some (decide (m_.2<999999999999999))
 else
  some false
 ):Option Bool).bind fun v27 =>
  ((bif v27 then
   some (IntKind.i64.wrap m_.2)
  else
   some 999999999999999
  ):Option Int).bind fun n_ =>
   bif (!((decide (a_<0)) == (decide (b<0)))) then
    some (IntKind.i64.wrap (0-n_))
   else
    some n_
def Ew (m_:Ah)(x:(List Int)):Option Int :=
 (gi x 0).bind fun x1 =>
 (gi x 1).bind fun x2 =>
 (DL x1 x2).bind fun t =>
 some t
def Ci (n_:Int):Option Int :=
 some (if (if 999999999999999<n_ then 999999999999999 else n_) > (-999999999999999) then (if 999999999999999<n_ then 999999999999999 else n_) else (-999999999999999))
def Eu (m_:Ah)(x:(List Int)):Option Int :=
 (gi x 0).bind fun x1 =>
 (gi x 1).bind fun x2 =>
 (Ci (IntKind.i64.wrap (x1+x2))).bind fun n_ =>
 some n_
def Ez (n_:Int):Option Int :=
 some (if (if 41667<n_ then 41667 else n_) > 0 then (if 41667<n_ then 41667 else n_) else 0)
def CD (d:Int)(n_:Int):Option Int :=
 bif (d == 41667) then
  some d
 else
  (Ez (IntKind.i64.wrap (d+n_))).bind fun d1 =>
  some d1
def Et (m_:Ah)(x:(List Int)):Option Int :=
 (gi x 0).bind fun x1 =>
 (gi x 1).bind fun x2 =>
 (CD x1 x2).bind fun m_1 =>
 some m_1
def Es (m_:Ah)(x:(List Int)):Option Int :=
 (gi x 0).bind fun x1 =>
 (gi x 1).bind fun x2 =>
 (Ci (IntKind.i64.wrap (x1-x2))).bind fun n_ =>
 some n_
def Er (m_:Ah)(x:(List Int)):Option Int :=
 (gi x 0).bind fun x1 =>
 (gi x 1).bind fun x2 =>
 (CD x1 (IntKind.i64.wrap (0-x2))).bind fun m_1 =>
 some m_1
def Ep (m_:Ah)(x:(List Int)):Option Int :=
 (gi x 0).bind fun x1 =>
 (gi x 1).bind fun x2 =>
 some (IntKind.i64.wrap (x1-x2))
def Eo (m_:Ah)(x:(List Int)):Option Int :=
 (gi x 0).bind fun x1 =>
 some (IntKind.i64.wrap (1-x1))
def En (m_:Ah)(x:(List Int)):Option Int :=
 (gi x 0).bind fun x1 =>
 (gi x 1).bind fun x2 =>
 some (bits .and .i64 x1 x2)
def Ea (m_:Ah)(x:(List Int)):Option Int :=
 (gi x 0).bind fun x1 =>
 (gi x 1).bind fun x2 =>
 some (bits .or .i64 x1 x2)
def DZ (m_:Ah)(x:(List Int)):Option Int :=
 (gi x 0).bind fun x1 =>
 (Ez x1).bind fun d =>
 some d
def DY (m_:Ah)(x:(List Int)):Option Int :=
 (gi x 0).bind fun x1 =>
 some (if (if 1000<x1 then 1000 else x1) > 0 then (if 1000<x1 then 1000 else x1) else 0)
def DQ (m_:Ah)(x:(List Int)):Option Int :=
 (gi x 0).bind fun x1 =>
 (gi x (IntKind.i64.wrap (2-x1))).bind fun x2 =>
 some x2
def DP (m_:Ah)(x:(List Int)):Option Int :=
 (gi x 0).bind fun x1 =>
 (gi x 1).bind fun x2 =>
 some (if x2<x1 then x2 else x1)
def DO (m_:Ah)(x:(List Int)):Option Int :=
 (gi x 0).bind fun x1 =>
 (gi x 1).bind fun x2 =>
 some (if x2 > x1 then x2 else x1)
def DW (a_:Int)(b:Int):Option Bool :=
 some (decide (a_<b))
def DV (a_:Int)(b:Int):Option Bool :=
 some (decide (a_<=b))
def DU (a_:Int)(b:Int):Option Bool :=
 some (decide (b<a_))
def DT (a_:Int)(b:Int):Option Bool :=
 some (decide (b<=a_))
def DS (a_:Int)(b:Int):Option Bool :=
 some (a_ == b)
def DR (a_:Int)(b:Int):Option Bool :=
 some (a_ != b)
def Be:Nat->Ah->Int->Int->Int->Int->Option Int
 |0,_,_,_,_,_=>none
 |n+1,m_,kind,who,best1,v14 =>
  bif (decide (v14<(m_.d.Facts.length:Int))) then
   (gi m_.d.Facts v14).bind fun x1 =>
   ((bif (x1.Kind == kind) then
    bif (x1.Who == who) then
     bif (decide (x1.Known<=m_.known)) then
      bif (decide (best1<0)) then
       some true
      else
       (gi m_.d.Facts best1).bind fun x2 =>
       some (decide (x2.Known<=x1.Known))
     else
      some false
    else
     some false
   else
    some false
   ):Option Bool).bind fun v51 =>
    bif v51 then
     Be n m_ kind who v14 (IntKind.i64.wrap (v14+1))
    else
     Be n m_ kind who best1 (IntKind.i64.wrap (v14+1))
  else
   some best1
theorem CY (n:Nat)(m_:Ah)(kind:Int)(who:Int)(best1:Int)(v14:Int):Be (n+1) m_ kind who best1 v14 =
 bif (decide (v14<(m_.d.Facts.length:Int))) then
  (gi m_.d.Facts v14).bind fun x1 =>
  ((bif (x1.Kind == kind) then
   bif (x1.Who == who) then
    bif (decide (x1.Known<=m_.known)) then
     bif (decide (best1<0)) then
      some true
     else
      (gi m_.d.Facts best1).bind fun x2 =>
      some (decide (x2.Known<=x1.Known))
    else
     some false
   else
    some false
  else
   some false
  ):Option Bool).bind fun v51 =>
   bif v51 then
    Be n m_ kind who v14 (IntKind.i64.wrap (v14+1))
   else
    Be n m_ kind who best1 (IntKind.i64.wrap (v14+1))
 else
  some best1:=by rw [Be]
def BP (n:Nat)(m_:Ah)(kind:Int)(who:Int):Option Int :=
 ((Be n m_ kind who (-1) 0
 ):Option Int).bind fun best =>
  bif (decide (best<0)) then
   some 41667
  else
   (gi m_.d.Facts best).bind fun x =>
   some x.Day
def C5 (b:Bool):Option Int :=
 bif b then
  some 1
 else
  some 0
def DX (n:Nat)(k:Int)(m_:Ah)(x:(List Int)):Option Int :=
 (gi x 0).bind fun x1 =>
 (BP n m_ (IntKind.i64.wrap (k+1)) x1).bind fun f =>
 some f
def Dm (m_:Ah)(x:(List Int)):Option Int :=
 (gi x 0).bind fun x1 =>
 (gi x 1).bind fun x2 =>
 (DW x1 x2).bind fun o_ =>
 (C5 o_).bind fun f =>
 some f
def Dl (m_:Ah)(x:(List Int)):Option Int :=
 (gi x 0).bind fun x1 =>
 (gi x 1).bind fun x2 =>
 (DV x1 x2).bind fun o_ =>
 (C5 o_).bind fun f =>
 some f
def Dk (m_:Ah)(x:(List Int)):Option Int :=
 (gi x 0).bind fun x1 =>
 (gi x 1).bind fun x2 =>
 (DU x1 x2).bind fun o_ =>
 (C5 o_).bind fun f =>
 some f
def Dj (m_:Ah)(x:(List Int)):Option Int :=
 (gi x 0).bind fun x1 =>
 (gi x 1).bind fun x2 =>
 (DT x1 x2).bind fun o_ =>
 (C5 o_).bind fun f =>
 some f
def Di (m_:Ah)(x:(List Int)):Option Int :=
 (gi x 0).bind fun x1 =>
 (gi x 1).bind fun x2 =>
 (DS x1 x2).bind fun o_ =>
 (C5 o_).bind fun f =>
 some f
def CX (m_:Ah)(x:(List Int)):Option Int :=
 (gi x 0).bind fun x1 =>
 (gi x 1).bind fun x2 =>
 (DR x1 x2).bind fun o_ =>
 (C5 o_).bind fun f =>
 some f
def Dx (op:Int):Option Int :=
 ((bif (op == 1) then
  some (op == 1)
 else
  bif (op == 2) then
   some (op == 2)
  else
   some (op == 3)
 ):Option Bool).bind fun v4 =>
  bif v4 then
   some 0
  else
   ((bif (op == 5) then
    some (op == 5)
   else
    some (op == 6)
   ):Option Bool).bind fun v8 =>
    bif v8 then
     some 1
    else
     bif (op == 20) then
      some 3
     else
      bif (op == 4) then
       some (-1)
      else
       some 2
def AM (s:(List Aa))(s1:(List (ByteArray×Int)))(e:Int)(e1:Int)(e2:ByteArray)(e3:(List Ab))(e4:Int)(o_:Int)(o_1:ByteArray)(o_2:(List Int))(o_3:Int)(o_4:Do)(p:Int)(p1:Int)(x:Int):Option (Int×Aa×Au) :=
 some (0,(Aa.mk 0 ⟨#[]⟩ [] 0 Do.nil),(Au.mk e4 x))
def Bp:Nat->(List Int)->(List Int)->Int->Option (Unit ⊕ Bool)
 |0,_,_,_=>none
 |n+1,s1,s2,v13 =>
  bif (decide (v13<(s1.length:Int))) then
   (gi s1 v13).bind fun x =>
   (gi s2 v13).bind fun x1 =>
   bif (x != x1) then
    some (.inr false)
   else
    Bp n s1 s2 (IntKind.i64.wrap (v13+1))
  else
   some (.inl ())
theorem EW (n:Nat)(s1:(List Int))(s2:(List Int))(v13:Int):Bp (n+1) s1 s2 v13 =
 bif (decide (v13<(s1.length:Int))) then
  (gi s1 v13).bind fun x =>
  (gi s2 v13).bind fun x1 =>
  bif (x != x1) then
   some (.inr false)
  else
   Bp n s1 s2 (IntKind.i64.wrap (v13+1))
 else
  some (.inl ()):=by rw [Bp]
def Cw (n:Nat)(s1:(List Int))(s2:(List Int)):Option Bool :=
 bif ((s1.length:Int) != (s2.length:Int)) then
  some false
 else
  ((Bp n s1 s2 0
  ):Option (Unit ⊕ Bool)).bind fun y=>match y with
  |.inl _ =>
   some true
  |.inr o=>some o
mutual
def AG:Nat->AN->Ab->(List Int)->Bool->Bool->Int->Option ((Bool×Bool) ⊕ (Int×Aa×Au))
 |0,_,_,_,_,_,_=>none
 |n+1,s,e,types,known1,fits1,v121 =>
  bif (decide (v121<(s.ops.length:Int))) then
   (gi s.ops v121).bind fun x =>
   ((bif (x.op != e.Op) then
    some true
   else
    bif (x.op == 4) then
     some (!decide (x.name=e.S))
    else
     some false
   ):Option Bool).bind fun v141 =>
    bif v141 then
     AG n s e types known1 fits1 (IntKind.i64.wrap (v121+1))
    else
     ((bif fits1 then
      some true
     else
      some ((x.args.length:Int) == (types.length:Int))
     ):Option Bool).bind fun fits2 =>
      (Cw n x.args types).bind fun e9 =>
      bif e9 then
       some (.inr (x.kind,x,(Au.mk 0 0)))
      else
       AG n s e types true fits2 (IntKind.i64.wrap (v121+1))
  else
   some (.inl (known1,fits1))
def Bc:Nat->Ab->AN->(List Int)->Int->Option ((List Int) ⊕ (Int×Aa×Au))
 |0,_,_,_,_=>none
 |n+1,e,s,types1,v52 =>
  bif (decide (v52<(e.Kids.length:Int))) then
   (gi e.Kids v52).bind fun x1 =>
   (A4 n s x1).bind fun f7 =>
   bif (f7.2.2.E != 0) then
    some (.inr (0,(Aa.mk 0 ⟨#[]⟩ [] 0 Do.nil),f7.2.2))
   else
    (some [f7.1]).bind fun l =>
    (C0 9 types1 l).bind fun l1 =>
    Bc n e s l1 (IntKind.i64.wrap (v52+1))
  else
   some (.inl types1)
def A4:Nat->AN->Ab->Option (Int×Aa×Au)
 |0,_,_=>none
 |n+1,s,e =>
  (Dx e.Op).bind fun n_ =>
  ((bif (decide (e.Op<1)) then
   some true
  else
   bif (decide (20<e.Op)) then
    some true
   else
    bif (decide (0<=n_)) then
     some ((e.Kids.length:Int) != n_)
    else
     some false
  ):Option Bool).bind fun v43 =>
   bif v43 then
    (AM s.ops s.names e.Op e.N e.S e.Kids e.At 0 ⟨#[]⟩ [] 0 Do.nil 0 0 1).bind fun f =>
    some (f.1,f.2.1,f.2.2)
   else
    ((Bc n e s [] 0
    ):Option ((List Int) ⊕ (Int×Aa×Au))).bind fun y1=>match y1 with
    |.inl types =>
     bif (e.Op == 1) then
      ((bif (decide (e.N<0)) then
       some true
      else
       some (decide (999999999999999<e.N))
      ):Option Bool).bind fun v84 =>
       bif v84 then
        (AM s.ops s.names e.Op e.N e.S e.Kids e.At 0 ⟨#[]⟩ [] 0 Do.nil 0 0 1).bind fun f1 =>
        some (f1.1,f1.2.1,f1.2.2)
       else
        some (1,(Aa.mk 0 ⟨#[]⟩ [] 0 Do.nil),(Au.mk 0 0))
     else
      bif (e.Op == 2) then
       (AM s.ops s.names e.Op e.N e.S e.Kids e.At 0 ⟨#[]⟩ [] 0 Do.nil 0 0 7).bind fun f2 =>
       some (f2.1,f2.2.1,f2.2.2)
      else
       bif (e.Op == 3) then
        bif (Cd s.names e.S).2 then
         some ((Cd s.names e.S).1,(Aa.mk 0 ⟨#[]⟩ [] 0 Do.nil),(Au.mk 0 0))
        else
         (AM s.ops s.names e.Op e.N e.S e.Kids e.At 0 ⟨#[]⟩ [] 0 Do.nil 0 0 6).bind fun f3 =>
         some (f3.1,f3.2.1,f3.2.2)
       else
        ((AG n s e types false false 0
        ):Option ((Bool×Bool) ⊕ (Int×Aa×Au))).bind fun y3=>match y3 with
        |.inl (known,fits) =>
         ((bif (e.Op == 4) then
          some (!known)
         else
          some false
         ):Option Bool).bind fun v160 =>
          bif v160 then
           (AM s.ops s.names e.Op e.N e.S e.Kids e.At 0 ⟨#[]⟩ [] 0 Do.nil 0 0 6).bind fun f4 =>
           some (f4.1,f4.2.1,f4.2.2)
          else
           ((bif (e.Op == 4) then
            some (!fits)
           else
            some false
           ):Option Bool).bind fun v173 =>
            bif v173 then
             (AM s.ops s.names e.Op e.N e.S e.Kids e.At 0 ⟨#[]⟩ [] 0 Do.nil 0 0 1).bind fun f5 =>
             some (f5.1,f5.2.1,f5.2.2)
            else
             (AM s.ops s.names e.Op e.N e.S e.Kids e.At 0 ⟨#[]⟩ [] 0 Do.nil 0 0 7).bind fun f6 =>
             some (f6.1,f6.2.1,f6.2.2)
        |.inr o=>some o
    |.inr o=>some o
end
theorem C3 (n:Nat)(s:AN)(e:Ab)(types:(List Int))(known1:Bool)(fits1:Bool)(v121:Int):AG (n+1) s e types known1 fits1 v121 =
 bif (decide (v121<(s.ops.length:Int))) then
  (gi s.ops v121).bind fun x =>
  ((bif (x.op != e.Op) then
   some true
  else
   bif (x.op == 4) then
    some (!decide (x.name=e.S))
   else
    some false
  ):Option Bool).bind fun v141 =>
   bif v141 then
    AG n s e types known1 fits1 (IntKind.i64.wrap (v121+1))
   else
    ((bif fits1 then
     some true
    else
     some ((x.args.length:Int) == (types.length:Int))
    ):Option Bool).bind fun fits2 =>
     (Cw n x.args types).bind fun e9 =>
     bif e9 then
      some (.inr (x.kind,x,(Au.mk 0 0)))
     else
      AG n s e types true fits2 (IntKind.i64.wrap (v121+1))
 else
  some (.inl (known1,fits1)):=by rw [AG]
theorem Ef (n:Nat)(e:Ab)(s:AN)(types1:(List Int))(v52:Int):Bc (n+1) e s types1 v52 =
 bif (decide (v52<(e.Kids.length:Int))) then
  (gi e.Kids v52).bind fun x1 =>
  (A4 n s x1).bind fun f7 =>
  bif (f7.2.2.E != 0) then
   some (.inr (0,(Aa.mk 0 ⟨#[]⟩ [] 0 Do.nil),f7.2.2))
  else
   (some [f7.1]).bind fun l =>
   (C0 9 types1 l).bind fun l1 =>
   Bc n e s l1 (IntKind.i64.wrap (v52+1))
 else
  some (.inl types1):=by rw [Bc]
def ET (n:Nat)(d:Do)(m:Ah)(x:List Int):Option Int:=match d with
 |.c 77=>Ey m x
 |.c 78=>Ew m x
 |.c 80=>Eu m x
 |.c 82=>Et m x
 |.c 84=>Es m x
 |.c 85=>Er m x
 |.c 86=>Ep m x
 |.c 87=>Eo m x
 |.c 88=>En m x
 |.c 89=>Ea m x
 |.c 90=>DZ m x
 |.c 92=>DY m x
 |.c 103=>DQ m x
 |.c 104=>DP m x
 |.c 105=>DO m x
 |.k k=>DX n k m x
 |.is 95=>Dm m x
 |.is 96=>Dl m x
 |.is 97=>Dk m x
 |.is 98=>Dj m x
 |.is 99=>Di m x
 |.is 100=>CX m x
 |_=>none
mutual
def AK:Nat->Ab->AN->Ah->(List Int)->Int->Option (List Int)
 |0,_,_,_,_,_=>none
 |n+1,e,s,m_,x1,v35 =>
  bif (decide (v35<(e.Kids.length:Int))) then
   (gi e.Kids v35).bind fun x2 =>
   (AB n s x2 m_).bind fun v_ =>
   (some [v_]).bind fun l =>
   (C0 9 x1 l).bind fun l1 =>
   AK n e s m_ l1 (IntKind.i64.wrap (v35+1))
  else
   some x1
def AB:Nat->AN->Ab->Ah->Option Int
 |0,_,_,_=>none
 |n+1,s,e,m_ =>
  bif (e.Op == 1) then
   some e.N
  else
   bif (e.Op == 3) then
    some ((Cd [(⟨#[121,101,97,114]⟩,365),(⟨#[115,116,111,114,101,100]⟩,m_.d.Stored),(⟨#[110,101,118,101,114]⟩,41667),(⟨#[111,119,110,101,114]⟩,m_.d.Owner)] e.S).1)
   else
    ((AK n e s m_ [] 0
    ):Option (List Int)).bind fun x =>
     (A4 n s (Ab.mk e.Op e.N e.S e.Kids e.At)).bind fun f =>
     (Xg f.2.1.do_).bind fun d =>
     (ET n d m_ x).bind fun r1 =>
     some r1
end
theorem DG (n:Nat)(e:Ab)(s:AN)(m_:Ah)(x1:(List Int))(v35:Int):AK (n+1) e s m_ x1 v35 =
 bif (decide (v35<(e.Kids.length:Int))) then
  (gi e.Kids v35).bind fun x2 =>
  (AB n s x2 m_).bind fun v_ =>
  (some [v_]).bind fun l =>
  (C0 9 x1 l).bind fun l1 =>
  AK n e s m_ l1 (IntKind.i64.wrap (v35+1))
 else
  some x1:=by rw [AK]
theorem CW (n:Nat)(s:AN)(e:Ab)(m_:Ah):AB (n+1) s e m_ =
 bif (e.Op == 1) then
  some e.N
 else
  bif (e.Op == 3) then
   some ((Cd [(⟨#[121,101,97,114]⟩,365),(⟨#[115,116,111,114,101,100]⟩,m_.d.Stored),(⟨#[110,101,118,101,114]⟩,41667),(⟨#[111,119,110,101,114]⟩,m_.d.Owner)] e.S).1)
  else
   ((AK n e s m_ [] 0
   ):Option (List Int)).bind fun x =>
    (A4 n s (Ab.mk e.Op e.N e.S e.Kids e.At)).bind fun f =>
    (Xg f.2.1.do_).bind fun d =>
    (ET n d m_ x).bind fun r1 =>
    some r1:=by rw [AB]
abbrev hT (l:List Ao):PV:=hP l Cg
abbrev oT (l:List Ao):PV:=oP l Cg
abbrev hX (l:List Ab):PV:=hP l AQ
abbrev oX (l:List Ab):PV:=oP l AQ
abbrev hF (l:List Av):PV:=hP l BG
abbrev oF (l:List Av):PV:=oP l BG
abbrev hA (l:List AH):PV:=hP l BU
abbrev oA (l:List AH):PV:=oP l BU
abbrev hS (l:List ByteArray):PV:=hP l B4
abbrev hI (l:List Int):PV:=hP l Aw
abbrev oI (l:List Int):PV:=oP l Aw
abbrev hZ (l:List Az):PV:=hP l Ch
abbrev oZ (l:List Az):PV:=oP l Ch
abbrev hO (l:List Aa):PV:=hP l Ad
abbrev hE (l:List A7):PV:=hP l D0
abbrev oE (l:List A7):PV:=oP l D0
end Go.Sp
namespace Go.Sp
open Go
def Ev {α:Type}(f:Nat->Option α)(a:α):Prop:=∃ N,∀ n,N<=n->f n=some a
namespace Ev
variable {α β:Type} {f:Nat->Option α} {a:α} {b:β}
theorem const {x:Option α}(h:x=some a):Ev (fun _=>x) a:=⟨0,fun _ _=>h⟩
theorem pure:Ev (fun _=>some a) a:=const rfl
theorem bind {g:Nat->α->Option β}(h:Ev f a)(k:Ev (fun n=>g n a) b):Ev (fun n=>(f n).bind (g n)) b:=by
 obtain⟨N,h⟩:=h
 obtain⟨M,k⟩:=k
 exact⟨max N M,fun n hn=>by
  show (f n).bind (g n)=some b
  rw [h n (by omega)];exact k n (by omega)⟩
theorem step {F:Nat->Option α}(e:∀ n,F (n+1)=f n)(h:Ev f a):Ev F a:=by
 obtain⟨N,h⟩:=h
 refine⟨N+1,fun n hn=>?_⟩
 obtain⟨m,rfl⟩:∃ m,n=m+1:=⟨n-1,by omega⟩
 rw [e];exact h m (by omega)
theorem get (h:Ev f a):∃ n,f n=some a:=by
 obtain⟨N,h⟩:=h
 exact⟨N,h N (Nat.le_refl _)⟩
end Ev
theorem Ed {x:Int}(h1 : -9223372036854775808<=x)(h2:x<9223372036854775808):IntKind.i64.wrap x=x:=by
 rw [IntKind.wrap_i64];omega
end Go.Sp
