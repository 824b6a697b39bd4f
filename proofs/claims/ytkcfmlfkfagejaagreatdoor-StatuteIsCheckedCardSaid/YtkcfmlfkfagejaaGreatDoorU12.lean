/-
  Chapter 33 as plain functions, first part: parsing, printing, the operations, find and value; no program. (Printed by lift.py, but for what the lexer answers.) Plain functions with fuel: what holds for all large fuel. No program.
-/
import Derived.Lib.Join
import Derived.Lib.ItoaNum
import Derived.Test.YtkcfmlfkfagejaaGreatDoorU10
import Derived.Test.YtkcfmlfkfagejaaGreatDoorU11
set_option linter.unusedVariables false
set_option linter.unusedSimpArgs false
namespace Go.Sp
open Go Go.Vl
set_option linter.unusedVariables false
structure Ac where
 Kind:Int
 At:Int
 S:ByteArray
 N:Int
def CM (x:Ac):List PV:=[iP x.Kind,iP x.At,tP x.S,iP x.N]
theorem It (x:Ac):CM x=[iP x.Kind,iP x.At,tP x.S,iP x.N]:=rfl
theorem HW (x:Ac):(CM x).length=4:=rfl
def B0:Rw Ac:=⟨CM,_,4,It,HW⟩
structure Am where
 At:Int
 E:Int
structure Av where
 sign:ByteArray
 op:Int
 level:Int
def Eb (x:Av):List PV:=[tP x.sign,iP x.op,iP x.level]
theorem K4 (x:Av):Eb x=[tP x.sign,iP x.op,iP x.level]:=rfl
theorem JP (x:Av):(Eb x).length=3:=rfl
def Cc:Rw Av:=⟨Eb,_,3,K4,JP⟩
structure Ae where
 l:(List Ac)
 forms:Int
structure Ab where
 Op:Int
 N:Int
 S:ByteArray
 Kids:(List Ab)
 At:Int
mutual
def Bu:Ab->List PV
 |.mk ZF fN fS fKids fAt=>[iP ZF,iP fN,tP fS,.sl (GF fKids) .shared,iP fAt]
def GF:List Ab->List (List PV)
 | []=>[]
 |x::l=>Bu x::GF l
end
theorem Ir:∀ l:List Ab,GF l=l.map Bu
 | []=>rfl
 |x::l=>by rw [GF,Ir l];rfl
theorem Jm (x:Ab):Bu x=[iP x.Op,iP x.N,tP x.S,hP x.Kids Bu,iP x.At]:=by
 cases x;rw [Bu];simp only [Ir]
theorem Mc (x:Ab):(Bu x).length=5:=by rw [Jm];rfl
def AE:Rw Ab:=⟨Bu,_,5,Jm,Mc⟩
structure Aw where
 Kind:Int
 N:Int
 S:ByteArray
 E:Ab
 At:Int
def C8 (x:Aw):List PV:=[iP x.Kind,iP x.N,tP x.S,iP x.E.Op,iP x.E.N,tP x.E.S,hP x.E.Kids Bu,iP x.E.At,iP x.At]
theorem NG (x:Aw):C8 x=[iP x.Kind,iP x.N,tP x.S,iP x.E.Op,iP x.E.N,tP x.E.S,hP x.E.Kids Bu,iP x.E.At,iP x.At]:=rfl
theorem Na (x:Aw):(C8 x).length=9:=rfl
def AA:Rw Aw:=⟨C8,_,9,NG,Na⟩
structure Aj where
 Word:ByteArray
 Args:(List Aw)
 Body:(List Aj)
 At:Int
mutual
def Cr:Aj->List PV
 |.mk fWord fArgs fBody fAt=>[tP fWord,hP fArgs C8,.sl (GD fBody) .shared,iP fAt]
def GD:List Aj->List (List PV)
 | []=>[]
 |x::l=>Cr x::GD l
end
theorem Iq:∀ l:List Aj,GD l=l.map Cr
 | []=>rfl
 |x::l=>by rw [GD,Iq l];rfl
theorem F7 (x:Aj):Cr x=[tP x.Word,hP x.Args C8,hP x.Body Cr,iP x.At]:=by
 cases x;rw [Cr];simp only [Iq]
theorem Gw (x:Aj):(Cr x).length=4:=by rw [F7];rfl
def BW:Rw Aj:=⟨Cr,_,4,F7,Gw⟩
structure Au where
 At:Int
 E:Int
structure Ap where
 l:(List Ac)
 bad:Bool
structure BK where
 Kind:Int
 Who:Int
 Day:Int
 Known:Int
def FX (x:BK):List PV:=[iP x.Kind,iP x.Who,iP x.Day,iP x.Known]
theorem MZ (x:BK):FX x=[iP x.Kind,iP x.Who,iP x.Day,iP x.Known]:=rfl
theorem Mb (x:BK):(FX x).length=4:=rfl
def Ej:Rw BK:=⟨FX,_,4,MZ,Mb⟩
structure BC where
 Facts:(List BK)
 Stored:Int
 Owner:Int
structure Al where
 d:BC
 known:Int
structure Af where
 op:Int
 name:ByteArray
 args:(List Int)
 kind:Int
 do_:Do
def A1 (x:Int):List PV:=[iP x]
theorem B6 (x:Int):A1 x=[iP x]:=rfl
theorem JQ (x:Int):(A1 x).length=1:=rfl
def Bf:Rw Int:=⟨A1,_,1,B6,JQ⟩
def Ag (x:Af):List PV:=[iP x.op,tP x.name,hP x.args A1,iP x.kind,.fno (JZ x.do_) (Jb x.do_) (Jn x.do_)]
theorem BM (x:Af):Ag x=[iP x.op,tP x.name,hP x.args A1,iP x.kind,.fno (JZ x.do_) (Jb x.do_) (Jn x.do_)]:=rfl
theorem Cg (x:Af):(Ag x).length=5:=rfl
def GP:Rw Af:=⟨Ag,_,5,BM,Cg⟩
structure Bc where
 ops:(List Af)
 names:(List (ByteArray×Int))
def BX (x:ByteArray):List PV:=[tP x]
theorem Ij (x:ByteArray):BX x=[tP x]:=rfl
theorem JO (x:ByteArray):(BX x).length=1:=rfl
def BL:Rw ByteArray:=⟨BX,_,1,Ij,JO⟩
def QY (t:Lx.Tok):Ac:=⟨(t.kind:Int),(t.at_:Int),⟨⟨t.s⟩⟩,(t.n:Int)⟩
def Fi (src:ByteArray):List Ac×Am :=
 if 65536<src.size then ([],⟨0,2⟩)
 else match Lx.tokens src.data.toList with
  |.ok ts=>(ts.map QY,⟨0,0⟩)
  |.error (p,e)=>([],⟨(p:Int),(e:Int)⟩)
def Ml (src:ByteArray):Option (List Ac×Am):=some (Fi src)
def Hv (t:Ac):List (List UInt8):=if t.Kind=1∨t.Kind=4 then [t.S.data.toList] else if t.Kind=2 then [Lib.itoa t.N] else if t.Kind=3 then [34::Lx.quoted t.S.data.toList++[34]] else []
def Yt (l:List Ac):ByteArray:=⟨⟨Lib.join (l.flatMap Hv) [32]⟩⟩
def S8 (l:List Ac):Prop:=l.length<=1000000/\(∀ t∈l,-9223372036854775808<=t.N/\t.N<=9223372036854775807)/\(Yt l).size<=140737488355328/\∀ t∈l,t.Kind≠3
instance (l:List Ac):Decidable (S8 l):=by unfold S8;exact inferInstance
def Qr (l:List Ac):Option ByteArray:=if S8 l then some (Yt l) else none
def C9:Option (List Av) :=
 (some [(Av.mk ⟨#[42]⟩ 7 6),(Av.mk ⟨#[47]⟩ 8 6),(Av.mk ⟨#[37]⟩ 9 6),(Av.mk ⟨#[43]⟩ 10 5),(Av.mk ⟨#[45]⟩ 11 5),(Av.mk ⟨#[61,61]⟩ 12 4),(Av.mk ⟨#[33,61]⟩ 13 4),(Av.mk ⟨#[60]⟩ 14 4),(Av.mk ⟨#[60,61]⟩ 15 4),(Av.mk ⟨#[62]⟩ 16 4),(Av.mk ⟨#[62,61]⟩ 17 4),(Av.mk ⟨#[38,38]⟩ 18 2),(Av.mk ⟨#[124,124]⟩ 19 1)]).bind fun l =>
 some l
def AN (p:Ae)(e:Int):Option (Ex Au Ae Unit) :=
 (gi p.l 0).bind fun x =>
 some (.pan (Au.mk x.At e) p)
def A6 (p:Ae):Option (Ac×Ae) :=
 (gi p.l 0).bind fun x =>
 (Uc p.l 1 (p.l.length:Int)).bind fun l =>
 some (x,(Ae.mk l p.forms))
def AM (p:Ae)(s:ByteArray):Option Bool :=
 (((gi p.l 0).bind fun x =>
 bif (x.Kind == 4) then
  some (decide (x.S=s))
 else
  some false
 ):Option Bool).bind fun v4 =>
  some v4
def BD (p:Ae):Option Bool :=
 (gi p.l 0).bind fun x =>
 ((bif (x.Kind == 1) then
  some (x.Kind == 1)
 else
  bif (x.Kind == 2) then
   some (x.Kind == 2)
  else
   some (x.Kind == 3)
 ):Option Bool).bind fun v10 =>
  bif v10 then
   some true
  else
   (((AM p ⟨#[40]⟩).bind fun i =>
   bif i then
    some true
   else
    (AM p ⟨#[45]⟩).bind fun i1 =>
    some i1
   ):Option Bool).bind fun v2 =>
    some v2
def C7 (p:Ae):Option (Ex Au Ae Int) :=
 (gi p.l 0).bind fun x =>
 bif (x.Kind != 2) then
  (AN p 5).bind fun y=>match y with
  |.ok f p1 =>
   (A6 p1).bind fun n_ =>
   some (.ok n_.1.N n_.2)
  |.pan e p2=>some (.pan e p2)
 else
  (A6 p).bind fun n_1 =>
  some (.ok n_1.1.N n_1.2)
def BQ (p:Ae)(depth:Int)(not_:Bool):Option (Ex Au Ae Unit) :=
 (((BD p).bind fun b =>
 bif (!b) then
  bif not_ then
   (AM p ⟨#[33]⟩).bind fun i =>
   some (!i)
  else
   some true
 else
  some false
 ):Option Bool).bind fun v16 =>
  ((bif v16 then
   (AN p 5).bind fun y3=>match y3 with
   |.ok f1 p5 =>
    some (.inl (p5.l,p5.forms))
   |.pan e3 p6=>some (.inr (.pan e3 p6))
  else
   some (.inl (p.l,p.forms))
  ):Option (((List Ac)×Int) ⊕ (Ex Au Ae Unit))).bind fun y1=>match y1 with
  |.inl (p1,p2) =>
   bif (decide (30<depth)) then
    (AN (Ae.mk p1 p2) 2).bind fun y2=>match y2 with
    |.ok f p3 =>
     some (.ok () p3)
    |.pan e2 p4=>some (.pan e2 p4)
   else
    some (.ok () (Ae.mk p1 p2))
  |.inr o=>some o
def Bl (p:Ae)(s:ByteArray):Option (Ex Au Ae Unit) :=
 (AM p s).bind fun i =>
 bif (!i) then
  (AN p 5).bind fun y=>match y with
  |.ok f p1 =>
   (A6 p1).bind fun n_ =>
   some (.ok () n_.2)
  |.pan e p2=>some (.pan e p2)
 else
  (A6 p).bind fun n_1 =>
  some (.ok () n_1.2)
def Cw (p:(List Ac))(p1:Int)(n_:Int)(q:Int)(q1:Int)(q2:ByteArray)(q3:(List Ab))(q4:Int)(e:Int)(e1:Int)(e2:ByteArray)(e3:(List Ab))(e4:Int)(b:Av):Option Bool :=
 ((bif (b.level == n_) then
  (AM (Ae.mk p p1) b.sign).bind fun i =>
  some i
 else
  some false
 ):Option Bool).bind fun v4 =>
  some v4
def Bm:Nat->(List Av)->(List Ac)->Int->Int->Int->Int->ByteArray->(List Ab)->Int->Int->Int->ByteArray->(List Ab)->Int->Int->Option (Unit ⊕ Int)
 |0,_,_,_,_,_,_,_,_,_,_,_,_,_,_,_=>none
 |n+1,s,p,p1,n_,q,q1,q2,q3,q4,e,e1,e2,e3,e4,v8 =>
  bif (decide (v8<(s.length:Int))) then
   (gi s v8).bind fun x =>
   (Cw p p1 n_ q q1 q2 q3 q4 e e1 e2 e3 e4 x).bind fun l =>
   bif l then
    some (.inr v8)
   else
    Bm n s p p1 n_ q q1 q2 q3 q4 e e1 e2 e3 e4 (IntKind.i64.wrap (v8+1))
  else
   some (.inl ())
def Cz (n:Nat)(p:(List Ac))(p1:Int)(n_:Int)(q:Int)(q1:Int)(q2:ByteArray)(q3:(List Ab))(q4:Int)(e:Int)(e1:Int)(e2:ByteArray)(e3:(List Ab))(e4:Int)(s:(List Av)):Option Int :=
 ((Bm n s p p1 n_ q q1 q2 q3 q4 e e1 e2 e3 e4 0
 ):Option (Unit ⊕ Int)).bind fun y=>match y with
 |.inl _ =>
  some (-1)
 |.inr o=>some o
mutual
def Az:Nat->Ae->Int->Option (Ex Au Ae Ab)
 |0,_,_=>none
 |n+1,p,depth =>
  (BQ p depth true).bind fun y=>match y with
  |.ok d p1 =>
   (A2 n p1 1 depth).bind fun y1=>match y1 with
   |.ok e1 p3 =>
    (AM p3 ⟨#[63]⟩).bind fun i =>
    bif (!i) then
     some (.ok e1 p3)
    else
     (A6 p3).bind fun n_ =>
     (Az n n_.2 (IntKind.i64.wrap (depth+1))).bind fun y2=>match y2 with
     |.ok a_ p5 =>
      (Bl p5 ⟨#[58]⟩).bind fun y3=>match y3 with
      |.ok n_1 p7 =>
       (Az n p7 (IntKind.i64.wrap (depth+1))).bind fun y4=>match y4 with
       |.ok e5 p9 =>
        (some [e1,a_,e5]).bind fun l =>
        some (.ok (Ab.mk 20 0 ⟨#[]⟩ l e1.At) p9)
       |.pan e6 p10=>some (.pan e6 p10)
      |.pan e4 p8=>some (.pan e4 p8)
     |.pan e3 p6=>some (.pan e3 p6)
   |.pan e2 p4=>some (.pan e2 p4)
  |.pan e p2=>some (.pan e p2)
def Bk:Nat->Int->Ab->Int->(List Ac)->Int->Int->Int->ByteArray->(List Ab)->Option (Ex Au Ae Ab)
 |0,_,_,_,_,_,_,_,_,_=>none
 |n+1,n_1,e2,depth,p5,p6,e4,e5,e6,e7 =>
  (C9).bind fun o_ =>
  (Cz n p5 p6 n_1 0 0 ⟨#[]⟩ [] 0 e4 e5 e6 e7 e2.At o_).bind fun k =>
  bif (decide (k<0)) then
   some (.ok (Ab.mk e4 e5 e6 e7 e2.At) (Ae.mk p5 p6))
  else
   (A6 (Ae.mk p5 p6)).bind fun n_3 =>
   (C9).bind fun o_1 =>
   (gi o_1 k).bind fun x =>
   (A2 n n_3.2 (IntKind.i64.wrap (n_1+1)) depth).bind fun y3=>match y3 with
   |.ok l p7 =>
    (some [(Ab.mk e4 e5 e6 e7 e2.At),l]).bind fun l1 =>
    bif (n_1 == 4) then
     some (.ok (Ab.mk x.op 0 ⟨#[]⟩ l1 e2.At) p7)
    else
     Bk n n_1 e2 depth p7.l p7.forms x.op 0 ⟨#[]⟩ l1
   |.pan e8 p8=>some (.pan e8 p8)
def A2:Nat->Ae->Int->Int->Option (Ex Au Ae Ab)
 |0,_,_,_=>none
 |n+1,p,n_,depth =>
  ((bif (n_ == 3) then
   (AM p ⟨#[33]⟩).bind fun i =>
   bif i then
    (A6 p).bind fun n_4 =>
    (BQ n_4.2 (IntKind.i64.wrap (depth+1)) true).bind fun y4=>match y4 with
    |.ok d p9 =>
     (A2 n p9 3 (IntKind.i64.wrap (depth+1))).bind fun y5=>match y5 with
     |.ok l2 p11 =>
      (some [l2]).bind fun l3 =>
      some (.inr (.ok (Ab.mk 5 0 ⟨#[]⟩ l3 n_4.1.At) p11))
     |.pan e10 p12=>some (.inr (.pan e10 p12))
    |.pan e9 p10=>some (.inr (.pan e9 p10))
   else
    some (.inl (IntKind.i64.wrap (n_+1)))
  else
   some (.inl n_)
  ):Option (Int ⊕ (Ex Au Ae Ab))).bind fun y=>match y with
  |.inl n_1 =>
   bif (n_1 == 7) then
    (AV n p depth).bind fun y1=>match y1 with
    |.ok n_2 p1 =>
     some (.ok n_2 p1)
    |.pan e1 p2=>some (.pan e1 p2)
   else
    (A2 n p (IntKind.i64.wrap (n_1+1)) depth).bind fun y2=>match y2 with
    |.ok e2 p3 =>
     Bk n n_1 e2 depth p3.l p3.forms e2.Op e2.N e2.S e2.Kids
    |.pan e3 p4=>some (.pan e3 p4)
  |.inr o=>some o
def AV:Nat->Ae->Int->Option (Ex Au Ae Ab)
 |0,_,_=>none
 |n+1,p,depth =>
  (AM p ⟨#[45]⟩).bind fun i =>
  bif (!i) then
   (AT n p depth).bind fun y=>match y with
   |.ok a_ p1 =>
    some (.ok a_ p1)
   |.pan e p2=>some (.pan e p2)
  else
   (A6 p).bind fun n_ =>
   (BQ n_.2 (IntKind.i64.wrap (depth+1)) false).bind fun y1=>match y1 with
   |.ok d p3 =>
    (AV n p3 (IntKind.i64.wrap (depth+1))).bind fun y2=>match y2 with
    |.ok n_1 p5 =>
     (some [n_1]).bind fun l =>
     some (.ok (Ab.mk 6 0 ⟨#[]⟩ l n_.1.At) p5)
    |.pan e2 p6=>some (.pan e2 p6)
   |.pan e1 p4=>some (.pan e1 p4)
def AO:Nat->Int->(List Ac)->Int->(List Ab)->Option (((List Ac)×Int×(List Ab)) ⊕ (Ex Au Ae Ab))
 |0,_,_,_,_=>none
 |n+1,depth,p5,p6,e3 =>
  (AM (Ae.mk p5 p6) ⟨#[41]⟩).bind fun i1 =>
  bif (!i1) then
   ((bif (decide (0<(e3.length:Int))) then
    (Bl (Ae.mk p5 p6) ⟨#[44]⟩).bind fun y7=>match y7 with
    |.ok n_2 p17 =>
     some (.inl (p17.l,p17.forms))
    |.pan e11 p18=>some (.inr (.pan e11 p18))
   else
    some (.inl (p5,p6))
   ):Option (((List Ac)×Int) ⊕ (Ex Au Ae Ab))).bind fun y2=>match y2 with
   |.inl (p7,p8) =>
    bif ((e3.length:Int) == 40) then
     (BQ (Ae.mk p7 p8) 0 true).bind fun y3=>match y3 with
     |.ok d p9 =>
      (AN p9 2).bind fun y4=>match y4 with
      |.ok f p11 =>
       (Az n p11 (IntKind.i64.wrap (depth+1))).bind fun y5=>match y5 with
       |.ok e7 p13 =>
        (some [e7]).bind fun l =>
        (Cp 65 e3 l).bind fun l1 =>
        AO n depth p13.l p13.forms l1
       |.pan e8 p14=>some (.inr (.pan e8 p14))
      |.pan e6 p12=>some (.inr (.pan e6 p12))
     |.pan e5 p10=>some (.inr (.pan e5 p10))
    else
     (Az n (Ae.mk p7 p8) (IntKind.i64.wrap (depth+1))).bind fun y6=>match y6 with
     |.ok e9 p15 =>
      (some [e9]).bind fun l2 =>
      (Cp 65 e3 l2).bind fun l3 =>
      AO n depth p15.l p15.forms l3
     |.pan e10 p16=>some (.inr (.pan e10 p16))
   |.inr o=>some (.inr o)
  else
   some (.inl (p5,p6,e3))
def AT:Nat->Ae->Int->Option (Ex Au Ae Ab)
 |0,_,_=>none
 |n+1,p,depth =>
  (BD p).bind fun b =>
  ((bif (!b) then
   (AN p 5).bind fun y10=>match y10 with
   |.ok f1 p23 =>
    some (.inl (p23.l,p23.forms))
   |.pan e15 p24=>some (.inr (.pan e15 p24))
  else
   some (.inl (p.l,p.forms))
  ):Option (((List Ac)×Int) ⊕ (Ex Au Ae Ab))).bind fun y=>match y with
  |.inl (p1,p2) =>
   (A6 (Ae.mk p1 p2)).bind fun t =>
   bif (t.1.Kind == 2) then
    some (.ok (Ab.mk 1 t.1.N t.1.S [] t.1.At) t.2)
   else
    bif (t.1.Kind == 3) then
     some (.ok (Ab.mk 2 t.1.N t.1.S [] t.1.At) t.2)
    else
     bif (t.1.Kind == 1) then
      (AM t.2 ⟨#[40]⟩).bind fun i =>
      bif (!i) then
       some (.ok (Ab.mk 3 t.1.N t.1.S [] t.1.At) t.2)
      else
       (A6 t.2).bind fun n_ =>
       ((AO n depth n_.2.l n_.2.forms []
       ):Option (((List Ac)×Int×(List Ab)) ⊕ (Ex Au Ae Ab))).bind fun y1=>match y1 with
       |.inl (p3,p4,e1) =>
        (A6 (Ae.mk p3 p4)).bind fun n_1 =>
        some (.ok (Ab.mk 4 t.1.N t.1.S e1 t.1.At) n_1.2)
       |.inr o=>some o
     else
      (Az n t.2 (IntKind.i64.wrap (depth+1))).bind fun y8=>match y8 with
      |.ok e12 p19 =>
       (Bl p19 ⟨#[41]⟩).bind fun y9=>match y9 with
       |.ok n_3 p21 =>
        some (.ok e12 p21)
       |.pan e14 p22=>some (.pan e14 p22)
      |.pan e13 p20=>some (.pan e13 p20)
  |.inr o=>some o
end
def Cx (n:Nat)(p:Ae):Option (Ex Au Ae Aw) :=
 (A6 p).bind fun t =>
 bif (t.1.Kind == 1) then
  some (.ok (Aw.mk 1 t.1.N t.1.S (Ab.mk 0 0 ⟨#[]⟩ [] 0) t.1.At) t.2)
 else
  bif (t.1.Kind == 2) then
   some (.ok (Aw.mk 2 t.1.N t.1.S (Ab.mk 0 0 ⟨#[]⟩ [] 0) t.1.At) t.2)
  else
   bif (t.1.Kind == 3) then
    some (.ok (Aw.mk 3 t.1.N t.1.S (Ab.mk 0 0 ⟨#[]⟩ [] 0) t.1.At) t.2)
   else
    bif (decide (t.1.S=⟨#[45]⟩)) then
     (C7 t.2).bind fun y=>match y with
     |.ok n_ p1 =>
      some (.ok (Aw.mk 2 (IntKind.i64.wrap (0-n_)) ⟨#[]⟩ (Ab.mk 0 0 ⟨#[]⟩ [] 0) t.1.At) p1)
     |.pan e p2=>some (.pan e p2)
    else
     bif (decide (t.1.S=⟨#[45,62]⟩)) then
      some (.ok (Aw.mk 4 t.1.N ⟨#[]⟩ (Ab.mk 0 0 ⟨#[]⟩ [] 0) t.1.At) t.2)
     else
      bif (decide (t.1.S=⟨#[40]⟩)) then
       (Az n t.2 1).bind fun y1=>match y1 with
       |.ok e1 p3 =>
        (Bl p3 ⟨#[41]⟩).bind fun y2=>match y2 with
        |.ok n_1 p5 =>
         some (.ok (Aw.mk 5 t.1.N ⟨#[]⟩ e1 t.1.At) p5)
        |.pan e3 p6=>some (.pan e3 p6)
       |.pan e2 p4=>some (.pan e2 p4)
      else
       some (.ok (Aw.mk 0 t.1.N ⟨#[]⟩ (Ab.mk 0 0 ⟨#[]⟩ [] 0) t.1.At) t.2)
mutual
def Bw:Nat->Int->(List Ac)->Int->(List Aj)->Option (((List Ac)×Int×(List Aj)) ⊕ (Ex Au Ae Aj))
 |0,_,_,_,_=>none
 |n+1,depth,p9,p10,f2 =>
  (AM (Ae.mk p9 p10) ⟨#[125]⟩).bind fun i =>
  bif (!i) then
   (Bh n (Ae.mk p9 p10) (IntKind.i64.wrap (depth+1))).bind fun y5=>match y5 with
   |.ok f3 p11 =>
    (some [f3]).bind fun l =>
    (Cp 73 f2 l).bind fun l1 =>
    Bw n depth p11.l p11.forms l1
   |.pan e5 p12=>some (.inr (.pan e5 p12))
  else
   some (.inl (p9,p10,f2))
def AW:Nat->(List Ac)->Int->(List Aw)->Option (((List Ac)×Int×(List Aw)) ⊕ (Ex Au Ae Aj))
 |0,_,_,_=>none
 |n+1,p13,p14,f4 =>
  (((AM (Ae.mk p13 p14) ⟨#[59]⟩).bind fun i2 =>
  bif (!i2) then
   (AM (Ae.mk p13 p14) ⟨#[123]⟩).bind fun i3 =>
   some (!i3)
  else
   some false
  ):Option Bool).bind fun v49 =>
   bif v49 then
    (((BD (Ae.mk p13 p14)).bind fun b =>
    bif (!b) then
     (AM (Ae.mk p13 p14) ⟨#[45,62]⟩).bind fun i1 =>
     some (!i1)
    else
     some false
    ):Option Bool).bind fun v57 =>
     ((bif v57 then
      (AN (Ae.mk p13 p14) 5).bind fun y12=>match y12 with
      |.ok f6 p23 =>
       some (.inl (p23.l,p23.forms))
      |.pan e12 p24=>some (.inr (.pan e12 p24))
     else
      some (.inl (p13,p14))
     ):Option (((List Ac)×Int) ⊕ (Ex Au Ae Aj))).bind fun y8=>match y8 with
     |.inl (p15,p16) =>
      bif ((f4.length:Int) == 40) then
       (AN (Ae.mk p15 p16) 2).bind fun y9=>match y9 with
       |.ok f5 p17 =>
        (Cx n p17).bind fun y10=>match y10 with
        |.ok a_ p19 =>
         (some [a_]).bind fun l2 =>
         (Cp 105 f4 l2).bind fun l3 =>
         AW n p19.l p19.forms l3
        |.pan e10 p20=>some (.inr (.pan e10 p20))
       |.pan e9 p18=>some (.inr (.pan e9 p18))
      else
       (Cx n (Ae.mk p15 p16)).bind fun y11=>match y11 with
       |.ok a_1 p21 =>
        (some [a_1]).bind fun l4 =>
        (Cp 105 f4 l4).bind fun l5 =>
        AW n p21.l p21.forms l5
       |.pan e11 p22=>some (.inr (.pan e11 p22))
     |.inr o=>some (.inr o)
   else
    some (.inl (p13,p14,f4))
def Bh:Nat->Ae->Int->Option (Ex Au Ae Aj)
 |0,_,_=>none
 |n+1,p,depth =>
  (gi p.l 0).bind fun x =>
  ((bif (x.Kind != 1) then
   (AN p 5).bind fun y14=>match y14 with
   |.ok f8 p27 =>
    some (.inl (p27.l,p27.forms))
   |.pan e14 p28=>some (.inr (.pan e14 p28))
  else
   some (.inl (p.l,p.forms))
  ):Option (((List Ac)×Int) ⊕ (Ex Au Ae Aj))).bind fun y=>match y with
  |.inl (p1,p2) =>
   ((bif (decide (30<depth)) then
    some true
   else
    some (decide (2000<(IntKind.i64.wrap (p2+1))))
   ):Option Bool).bind fun v32 =>
    ((bif v32 then
     (AN (Ae.mk p1 (IntKind.i64.wrap (p2+1))) 2).bind fun y13=>match y13 with
     |.ok f7 p25 =>
      some (.inl (p25.l,p25.forms))
     |.pan e13 p26=>some (.inr (.pan e13 p26))
    else
     some (.inl (p1,(IntKind.i64.wrap (p2+1))))
    ):Option (((List Ac)×Int) ⊕ (Ex Au Ae Aj))).bind fun y2=>match y2 with
    |.inl (p3,p4) =>
     (A6 (Ae.mk p3 p4)).bind fun t =>
     ((AW n t.2.l t.2.forms []
     ):Option (((List Ac)×Int×(List Aw)) ⊕ (Ex Au Ae Aj))).bind fun y3=>match y3 with
     |.inl (p5,p6,f) =>
      (A6 (Ae.mk p5 p6)).bind fun n_ =>
      bif (decide (n_.1.S=⟨#[59]⟩)) then
       some (.ok (Aj.mk t.1.S f [] t.1.At) n_.2)
      else
       ((Bw n depth n_.2.l n_.2.forms []
       ):Option (((List Ac)×Int×(List Aj)) ⊕ (Ex Au Ae Aj))).bind fun y4=>match y4 with
       |.inl (p7,p8,f1) =>
        (A6 (Ae.mk p7 p8)).bind fun n_1 =>
        some (.ok (Aj.mk t.1.S f f1 t.1.At) n_1.2)
       |.inr o=>some o
     |.inr o=>some o
    |.inr o=>some o
  |.inr o=>some o
end
mutual
def EO:Nat->Ab->Ab->Bool->Int->Option (Unit ⊕ Bool)
 |0,_,_,_,_=>none
 |n+1,a_,b,offsets,k =>
  bif (decide (k<(a_.Kids.length:Int))) then
   (gi a_.Kids k).bind fun x =>
   (gi b.Kids k).bind fun x1 =>
   (BZ n x x1 offsets).bind fun same =>
   bif (!same) then
    some (.inr false)
   else
    EO n a_ b offsets (IntKind.i64.wrap (k+1))
  else
   some (.inl ())
def BZ:Nat->Ab->Ab->Bool->Option Bool
 |0,_,_,_=>none
 |n+1,a_,b,offsets =>
  ((bif (a_.Op != b.Op) then
   some true
  else
   bif (a_.Op == 1) then
    bif (a_.N != b.N) then
     some true
    else
     bif (decide (2<=a_.Op)) then
      bif (decide (a_.Op<=4)) then
       bif (!decide (a_.S=b.S)) then
        some true
       else
        bif offsets then
         some (a_.At != b.At)
        else
         some false
      else
       bif offsets then
        some (a_.At != b.At)
       else
        some false
     else
      bif offsets then
       some (a_.At != b.At)
      else
       some false
   else
    bif (decide (2<=a_.Op)) then
     bif (decide (a_.Op<=4)) then
      bif (!decide (a_.S=b.S)) then
       some true
      else
       bif offsets then
        some (a_.At != b.At)
       else
        some false
     else
      bif offsets then
       some (a_.At != b.At)
      else
       some false
    else
     bif offsets then
      some (a_.At != b.At)
     else
      some false
  ):Option Bool).bind fun v52 =>
   bif v52 then
    some false
   else
    ((bif (decide (1<=a_.Op)) then
     some (decide (a_.Op<=3))
    else
     some false
    ):Option Bool).bind fun v60 =>
     bif v60 then
      some true
     else
      bif ((a_.Kids.length:Int) != (b.Kids.length:Int)) then
       some false
      else
       ((EO n a_ b offsets 0
       ):Option (Unit ⊕ Bool)).bind fun y2=>match y2 with
       |.inl _ =>
        some true
       |.inr o=>some o
end
def CO (p:Ap)(n_:Int):Option (Unit×Ap) :=
 ((bif p.bad then
  some true
 else
  bif (decide (n_<0)) then
   some true
  else
   some (decide (999999999999999<n_))
 ):Option Bool).bind fun p1 =>
  (some [(Ac.mk 2 0 ⟨#[]⟩ n_)]).bind fun l =>
  (Cp 41 p.l l).bind fun l1 =>
  some ((),(Ap.mk l1 p1))
def Du:Nat->ByteArray->Int->Bool->Option Bool
 |0,_,_,_=>none
 |n+1,s,v19,p3 =>
  bif (decide (v19<(s.size:Int))) then
   ((bif p3 then
    some true
   else
    (gb s v19).bind fun c =>
    bif (c != 10) then
     bif (decide (c<32)) then
      some true
     else
      some (decide (126<c))
    else
     some false
   ):Option Bool).bind fun p4 =>
    Du n s (IntKind.i64.wrap (v19+1)) p4
  else
   some p3
def Ep (n:Nat)(p:Ap)(s:ByteArray):Option (Unit×Ap) :=
 ((bif p.bad then
  some true
 else
  some (decide (200<(s.size:Int)))
 ):Option Bool).bind fun p1 =>
  ((Du n s 0 p1
  ):Option Bool).bind fun p2 =>
   (some [(Ac.mk 3 0 s 0)]).bind fun l =>
   (Cp 41 p.l l).bind fun l1 =>
   some ((),(Ap.mk l1 p2))
def Fh (c:Int):Option Bool :=
 ((bif (decide (97<=(bits .or .u8 c 32))) then
  bif (decide ((bits .or .u8 c 32)<=122)) then
   some true
  else
   some (c == 95)
 else
  some (c == 95)
 ):Option Bool).bind fun v2 =>
  some v2
def Dv:Nat->ByteArray->Bool->Int->Option Bool
 |0,_,_,_=>none
 |n+1,s,ok2,v17 =>
  bif (decide (v17<(s.size:Int))) then
   ((bif ok2 then
    (gb s v17).bind fun c =>
    (Fh c).bind fun n_ =>
    bif n_ then
     some true
    else
     bif (decide (0<v17)) then
      bif (decide (48<=c)) then
       some (decide (c<=57))
      else
       some false
     else
      some false
   else
    some false
   ):Option Bool).bind fun ok3 =>
    Dv n s ok3 (IntKind.i64.wrap (v17+1))
  else
   some ok2
def CG (n:Nat)(p:Ap)(s:ByteArray):Option (Unit×Ap) :=
 ((bif (decide (0<(s.size:Int))) then
  some (decide ((s.size:Int)<=32))
 else
  some false
 ):Option Bool).bind fun ok =>
  ((Dv n s ok 0
  ):Option Bool).bind fun ok1 =>
   ((bif p.bad then
    some true
   else
    some (!ok1)
   ):Option Bool).bind fun p1 =>
    (some [(Ac.mk 1 0 s 0)]).bind fun l =>
    (Cp 41 p.l l).bind fun l1 =>
    some ((),(Ap.mk l1 p1))
def De:Nat->(List ByteArray)->Int->(List Ac)->Option (List Ac)
 |0,_,_,_=>none
 |n+1,l,v8,p2 =>
  bif (decide (v8<(l.length:Int))) then
   (gi l v8).bind fun x =>
   (some [(Ac.mk 4 0 x 0)]).bind fun l1 =>
   (Cp 41 p2 l1).bind fun l2 =>
   De n l (IntKind.i64.wrap (v8+1)) l2
  else
   some p2
def A9 (n:Nat)(p:Ap)(l:(List ByteArray)):Option (Unit×Ap) :=
 ((De n l 0 p.l
 ):Option (List Ac)).bind fun p1 =>
  some ((),(Ap.mk p1 p.bad))
def Ga:Nat->(List Av)->Ab->Int->Option (Unit ⊕ Int)
 |0,_,_,_=>none
 |n+1,o_,e,v15 =>
  bif (decide (v15<(o_.length:Int))) then
   (gi o_ v15).bind fun x =>
   bif (x.op == e.Op) then
    some (.inr x.level)
   else
    Ga n o_ e (IntKind.i64.wrap (v15+1))
  else
   some (.inl ())
def JV (n:Nat)(e:Ab):Option Int :=
 bif (e.Op == 20) then
  some 0
 else
  bif (e.Op == 5) then
   some 3
  else
   bif (e.Op == 6) then
    some 7
   else
    (C9).bind fun o_ =>
    ((Ga n o_ e 0
    ):Option (Unit ⊕ Int)).bind fun y=>match y with
    |.inl _ =>
     some 8
    |.inr o=>some o
def Ee (p:(List Ac))(p1:Bool)(e:Int)(e1:Int)(e2:ByteArray)(e3:(List Ab))(e4:Int)(b:Av):Option Bool :=
 some (b.op == e)
def Cd:Nat->(List Av)->(List Ac)->Bool->Int->Int->ByteArray->(List Ab)->Int->Int->Option (Unit ⊕ Int)
 |0,_,_,_,_,_,_,_,_,_=>none
 |n+1,s,p,p1,e,e1,e2,e3,e4,v8 =>
  bif (decide (v8<(s.length:Int))) then
   (gi s v8).bind fun x =>
   (Ee p p1 e e1 e2 e3 e4 x).bind fun e6 =>
   bif e6 then
    some (.inr v8)
   else
    Cd n s p p1 e e1 e2 e3 e4 (IntKind.i64.wrap (v8+1))
  else
   some (.inl ())
def Dd (n:Nat)(p:(List Ac))(p1:Bool)(e:Int)(e1:Int)(e2:ByteArray)(e3:(List Ab))(e4:Int)(s:(List Av)):Option Int :=
 ((Cd n s p p1 e e1 e2 e3 e4 0
 ):Option (Unit ⊕ Int)).bind fun y=>match y with
 |.inl _ =>
  some (-1)
 |.inr o=>some o
mutual
def CD:Nat->Ab->(List ByteArray)->Int->(List Ac)->Bool->Option ((List Ac)×Bool)
 |0,_,_,_,_,_=>none
 |n+1,e,l,v89,p3,p4 =>
  bif (decide (v89<(e.Kids.length:Int))) then
   (gi e.Kids v89).bind fun x =>
   bif (decide (0<v89)) then
    (some [⟨#[44]⟩]).bind fun l2 =>
    (A9 n (Ap.mk p3 p4) l2).bind fun s2 =>
    (AD n s2.2 x 0).bind fun o_ =>
    CD n e l (IntKind.i64.wrap (v89+1)) o_.2.l o_.2.bad
   else
    (AD n (Ap.mk p3 p4) x 0).bind fun o_1 =>
    CD n e l (IntKind.i64.wrap (v89+1)) o_1.2.l o_1.2.bad
  else
   some (p3,p4)
def Bz:Nat->Ap->Ab->Option (Unit×Ap)
 |0,_,_=>none
 |n+1,p,e =>
  bif (e.Op == 1) then
   (CO p e.N).bind fun n_ =>
   some ((),n_.2)
  else
   bif (e.Op == 2) then
    (Ep n p e.S).bind fun t =>
    some ((),t.2)
   else
    bif (e.Op == 3) then
     (CG n p e.S).bind fun n_1 =>
     some ((),n_1.2)
    else
     bif (e.Op == 4) then
      (CG n p e.S).bind fun n_2 =>
      (some [⟨#[40]⟩]).bind fun l =>
      (A9 n n_2.2 l).bind fun s =>
      ((CD n e l 0 s.2.l s.2.bad
      ):Option ((List Ac)×Bool)).bind fun y=>match y with
      |(p1,p2) =>
       (some [⟨#[41]⟩]).bind fun l1 =>
       (A9 n (Ap.mk p1 p2) l1).bind fun s1 =>
       some ((),s1.2)
     else
      ((bif (e.Op == 5) then
       some (e.Op == 5)
      else
       bif (e.Op == 6) then
        some (e.Op == 6)
       else
        some (e.Op == 20)
      ):Option Bool).bind fun v106 =>
       bif v106 then
        bif ((e.Kids.length:Int) != ((JY [(5,1),(6,1),(20,3)] e.Op).1)) then
         some ((),(Ap.mk p.l true))
        else
         bif (e.Op == 5) then
          (some [⟨#[33]⟩]).bind fun l3 =>
          (A9 n p l3).bind fun s3 =>
          (gi e.Kids 0).bind fun x1 =>
          (AD n s3.2 x1 3).bind fun o_2 =>
          some ((),o_2.2)
         else
          bif (e.Op == 6) then
           (some [⟨#[45]⟩]).bind fun l4 =>
           (A9 n p l4).bind fun s4 =>
           (gi e.Kids 0).bind fun x2 =>
           (AD n s4.2 x2 7).bind fun o_3 =>
           some ((),o_3.2)
          else
           (gi e.Kids 0).bind fun x3 =>
           (AD n p x3 1).bind fun o_4 =>
           (some [⟨#[63]⟩]).bind fun l5 =>
           (A9 n o_4.2 l5).bind fun s5 =>
           (gi e.Kids 1).bind fun x4 =>
           (AD n s5.2 x4 0).bind fun o_5 =>
           (some [⟨#[58]⟩]).bind fun l6 =>
           (A9 n o_5.2 l6).bind fun s6 =>
           (gi e.Kids 2).bind fun x5 =>
           (AD n s6.2 x5 0).bind fun o_6 =>
           some ((),o_6.2)
       else
        (C9).bind fun o_7 =>
        (Dd n p.l p.bad e.Op e.N e.S e.Kids e.At o_7).bind fun k =>
        ((bif (decide (k<0)) then
         some true
        else
         some ((e.Kids.length:Int) != 2)
        ):Option Bool).bind fun v24 =>
         bif v24 then
          some ((),(Ap.mk p.l true))
         else
          (C9).bind fun o_8 =>
          (gi o_8 k).bind fun x6 =>
          ((bif (x6.level == 4) then
           some 5
          else
           some x6.level
          ):Option Int).bind fun left =>
           (gi e.Kids 0).bind fun x7 =>
           (AD n p x7 left).bind fun o_9 =>
           (some [x6.sign]).bind fun l7 =>
           (A9 n o_9.2 l7).bind fun s7 =>
           (gi e.Kids 1).bind fun x8 =>
           (AD n s7.2 x8 (if (IntKind.i64.wrap (x6.level+1)) > left then (IntKind.i64.wrap (x6.level+1)) else left)).bind fun o_10 =>
           some ((),o_10.2)
def AD:Nat->Ap->Ab->Int->Option (Unit×Ap)
 |0,_,_,_=>none
 |n+1,p,e,need =>
  (JV n e).bind fun l =>
  bif (decide (need<=l)) then
   (Bz n p e).bind fun e1 =>
   some ((),e1.2)
  else
   (some [⟨#[40]⟩]).bind fun l1 =>
   (A9 n p l1).bind fun s =>
   (Bz n s.2 e).bind fun e2 =>
   (some [⟨#[41]⟩]).bind fun l2 =>
   (A9 n e2.2 l2).bind fun s1 =>
   some ((),s1.2)
end
def B4:Nat->(List Aj)->(List Ac)->Int->Option (((List Aj)×(List Ac)×Int) ⊕ (Ex Au ((List Aj)×(List Ac)×Int) Unit))
 |0,_,_,_=>none
 |n+1,out2,q6,q7 =>
  (gi q6 0).bind fun x =>
  bif (x.Kind != 5) then
   (Bh n (Ae.mk q6 q7) 1).bind fun y1=>match y1 with
   |.ok f s =>
    (Cp 73 out2 [f]).bind fun out3 =>
    B4 n out3 s.l s.forms
   |.pan e1 s1=>some (.inr (.pan e1 (out2,s1.l,s1.forms)))
  else
   some (.inl (out2,q6,q7))
def Fv (n:Nat)(q:Int)(q1:Int)(out:(List Aj))(bad:Int)(bad1:Int)(q2:(List Ac))(q3:Int):Option (Ex Au ((List Aj)×(List Ac)×Int) Unit) :=
 ((B4 n out q2 q3
 ):Option (((List Aj)×(List Ac)×Int) ⊕ (Ex Au ((List Aj)×(List Ac)×Int) Unit))).bind fun y=>match y with
 |.inl (out1,q4,q5) =>
  some (.ok () (out1,q4,q5))
 |.inr o=>some o
def D7 (n:Nat)(q:Int)(q1:Int)(out:(List Aj))(src:ByteArray):Option (Am×(List Aj)) :=
 (Ml src).bind fun t =>
 bif (t.2.E != 0) then
  some (t.2,out)
 else
  (Fv n q q1 out t.2.At t.2.E t.1 0).bind fun y=>match y with
  |.ok f c =>
   (gi c.2.1 0).bind fun x =>
   bif (x.Kind != 5) then
    (AN (Ae.mk c.2.1 c.2.2) 5).bind fun y1=>match y1 with
    |.ok f1 s =>
     some ((Am.mk 0 0),c.1)
    |.pan e1 s1=>some ((Am.mk e1.At e1.E),c.1)
   else
    some ((Am.mk 0 0),c.1)
  |.pan e c1=>some ((Am.mk e.At e.E),c1.1)
def Di (n:Nat)(src:ByteArray):Option ((List Aj)×Am) :=
 (D7 n 0 0 [] src).bind fun bad =>
 bif (bad.1.E != 0) then
  some ([],bad.1)
 else
  some (bad.2,bad.1)
mutual
def Dw:Nat->Aj->Int->(List Ac)->Bool->Option ((List Ac)×Bool)
 |0,_,_,_,_=>none
 |n+1,f,v97,p5,p6 =>
  bif (decide (v97<(f.Body.length:Int))) then
   (gi f.Body v97).bind fun x =>
   (BG n (Ap.mk p5 p6) x).bind fun f1 =>
   Dw n f (IntKind.i64.wrap (v97+1)) f1.2.l f1.2.bad
  else
   some (p5,p6)
def Bq:Nat->Aj->Int->(List Ac)->Bool->Option ((List Ac)×Bool)
 |0,_,_,_,_=>none
 |n+1,f,v15,p7,p8 =>
  bif (decide (v15<(f.Args.length:Int))) then
   (gi f.Args v15).bind fun x1 =>
   bif (x1.Kind == 1) then
    (CG n (Ap.mk p7 p8) x1.S).bind fun n_1 =>
    Bq n f (IntKind.i64.wrap (v15+1)) n_1.2.l n_1.2.bad
   else
    bif (x1.Kind == 2) then
     bif (decide (x1.N<0)) then
      (some [⟨#[45]⟩]).bind fun l3 =>
      (A9 n (Ap.mk p7 p8) l3).bind fun s3 =>
      (CO s3.2 (if 0 > (IntKind.i64.wrap (0-x1.N)) then 0 else (IntKind.i64.wrap (0-x1.N)))).bind fun n_2 =>
      ((bif n_2.2.bad then
       some true
      else
       some (decide (x1.N<(-999999999999999)))
      ):Option Bool).bind fun p9 =>
       Bq n f (IntKind.i64.wrap (v15+1)) n_2.2.l p9
     else
      (CO (Ap.mk p7 p8) x1.N).bind fun n_3 =>
      Bq n f (IntKind.i64.wrap (v15+1)) n_3.2.l n_3.2.bad
    else
     bif (x1.Kind == 3) then
      (Ep n (Ap.mk p7 p8) x1.S).bind fun t =>
      Bq n f (IntKind.i64.wrap (v15+1)) t.2.l t.2.bad
     else
      bif (x1.Kind == 4) then
       (some [⟨#[45,62]⟩]).bind fun l4 =>
       (A9 n (Ap.mk p7 p8) l4).bind fun s4 =>
       Bq n f (IntKind.i64.wrap (v15+1)) s4.2.l s4.2.bad
      else
       bif (x1.Kind == 5) then
        (some [⟨#[40]⟩]).bind fun l5 =>
        (A9 n (Ap.mk p7 p8) l5).bind fun s5 =>
        (Bz n s5.2 x1.E).bind fun e3 =>
        (some [⟨#[41]⟩]).bind fun l6 =>
        (A9 n e3.2 l6).bind fun s6 =>
        Bq n f (IntKind.i64.wrap (v15+1)) s6.2.l s6.2.bad
       else
        Bq n f (IntKind.i64.wrap (v15+1)) p7 true
  else
   some (p7,p8)
def BG:Nat->Ap->Aj->Option (Unit×Ap)
 |0,_,_=>none
 |n+1,p,f =>
  (CG n p f.Word).bind fun n_ =>
  ((Bq n f 0 n_.2.l n_.2.bad
  ):Option ((List Ac)×Bool)).bind fun y=>match y with
  |(p1,p2) =>
   bif ((f.Body.length:Int) == 0) then
    (some [⟨#[59]⟩]).bind fun l =>
    (A9 n (Ap.mk p1 p2) l).bind fun s =>
    some ((),s.2)
   else
    (some [⟨#[123]⟩]).bind fun l1 =>
    (A9 n (Ap.mk p1 p2) l1).bind fun s1 =>
    ((Dw n f 0 s1.2.l s1.2.bad
    ):Option ((List Ac)×Bool)).bind fun y1=>match y1 with
    |(p3,p4) =>
     (some [⟨#[125]⟩]).bind fun l2 =>
     (A9 n (Ap.mk p3 p4) l2).bind fun s2 =>
     some ((),s2.2)
end
def Gb:Nat->(List Aj)->Int->(List Ac)->Bool->Option ((List Ac)×Bool)
 |0,_,_,_,_=>none
 |n+1,l,v14,q2,q3 =>
  bif (decide (v14<(l.length:Int))) then
   (gi l v14).bind fun x =>
   (BG n (Ap.mk q2 q3) x).bind fun f1 =>
   Gb n l (IntKind.i64.wrap (v14+1)) f1.2.l f1.2.bad
  else
   some (q2,q3)
def JW (n:Nat)(l:(List Aj)):Option (ByteArray×Int) :=
 ((Gb n l 0 [] false
 ):Option ((List Ac)×Bool)).bind fun y=>match y with
 |(q,q1) =>
  bif q1 then
   some (⟨#[]⟩,1)
  else
   (Qr q).bind fun s =>
   (Di n s).bind fun f =>
   bif (f.2.E != 0) then
    some (⟨#[]⟩,2)
   else
    some (s,0)
def Fc (m_:Al)(x:(List Int)):Option Int :=
 (gi x 0).bind fun x1 =>
 some (IntKind.i64.wrap (0-x1))
def Ez (x:Int)(y:Int):Option (Int×Int) :=
 some ((IntKind.u64.wrap ((IntKind.u64.wrap ((IntKind.u64.wrap ((x.fdiv (2 ^ min (32:Int).toNat IntKind.u64.bits))*(y.fdiv (2 ^ min (32:Int).toNat IntKind.u64.bits))))+((IntKind.u64.wrap ((IntKind.u64.wrap ((x.fdiv (2 ^ min (32:Int).toNat IntKind.u64.bits))*(bits .and .u64 y 4294967295)))+((IntKind.u64.wrap ((bits .and .u64 x 4294967295)*(bits .and .u64 y 4294967295))).fdiv (2 ^ min (32:Int).toNat IntKind.u64.bits)))).fdiv (2 ^ min (32:Int).toNat IntKind.u64.bits))))+((IntKind.u64.wrap ((bits .and .u64 (IntKind.u64.wrap ((IntKind.u64.wrap ((x.fdiv (2 ^ min (32:Int).toNat IntKind.u64.bits))*(bits .and .u64 y 4294967295)))+((IntKind.u64.wrap ((bits .and .u64 x 4294967295)*(bits .and .u64 y 4294967295))).fdiv (2 ^ min (32:Int).toNat IntKind.u64.bits)))) 4294967295)+(IntKind.u64.wrap ((bits .and .u64 x 4294967295)*(y.fdiv (2 ^ min (32:Int).toNat IntKind.u64.bits)))))).fdiv (2 ^ min (32:Int).toNat IntKind.u64.bits)))),(IntKind.u64.wrap (x*y)))
def E2 (a_:Int)(b:Int):Option Int :=
 (Ez (IntKind.u64.wrap (if (IntKind.i64.wrap (0-a_)) > a_ then (IntKind.i64.wrap (0-a_)) else a_)) (IntKind.u64.wrap (if (IntKind.i64.wrap (0-b)) > b then (IntKind.i64.wrap (0-b)) else b))).bind fun m_ =>
 ((bif (m_.1 == 0) then
  some (decide (m_.2<999999999999999))
 else
  some false
 ):Option Bool).bind fun v27 =>
  ((bif v27 then
   some (IntKind.i64.wrap m_.2)
  else
   some 999999999999999
  ):Option Int).bind fun n_ =>
   bif (!((decide (a_<0)) == (decide (b<0)))) then
    some (IntKind.i64.wrap (0-n_))
   else
    some n_
def Fb (m_:Al)(x:(List Int)):Option Int :=
 (gi x 0).bind fun x1 =>
 (gi x 1).bind fun x2 =>
 (E2 x1 x2).bind fun t =>
 some t
def CN (n_:Int):Option Int :=
 some (if (if 999999999999999<n_ then 999999999999999 else n_) > (-999999999999999) then (if 999999999999999<n_ then 999999999999999 else n_) else (-999999999999999))
def EZ (m_:Al)(x:(List Int)):Option Int :=
 (gi x 0).bind fun x1 =>
 (gi x 1).bind fun x2 =>
 (CN (IntKind.i64.wrap (x1+x2))).bind fun n_ =>
 some n_
def Fe (n_:Int):Option Int :=
 some (if (if 41667<n_ then 41667 else n_) > 0 then (if 41667<n_ then 41667 else n_) else 0)
def Dg (d:Int)(n_:Int):Option Int :=
 bif (d == 41667) then
  some d
 else
  (Fe (IntKind.i64.wrap (d+n_))).bind fun d1 =>
  some d1
def EY (m_:Al)(x:(List Int)):Option Int :=
 (gi x 0).bind fun x1 =>
 (gi x 1).bind fun x2 =>
 (Dg x1 x2).bind fun m_1 =>
 some m_1
def EX (m_:Al)(x:(List Int)):Option Int :=
 (gi x 0).bind fun x1 =>
 (gi x 1).bind fun x2 =>
 (CN (IntKind.i64.wrap (x1-x2))).bind fun n_ =>
 some n_
def EW (m_:Al)(x:(List Int)):Option Int :=
 (gi x 0).bind fun x1 =>
 (gi x 1).bind fun x2 =>
 (Dg x1 (IntKind.i64.wrap (0-x2))).bind fun m_1 =>
 some m_1
def EV (m_:Al)(x:(List Int)):Option Int :=
 (gi x 0).bind fun x1 =>
 (gi x 1).bind fun x2 =>
 some (IntKind.i64.wrap (x1-x2))
def EU (m_:Al)(x:(List Int)):Option Int :=
 (gi x 0).bind fun x1 =>
 some (IntKind.i64.wrap (1-x1))
def ET (m_:Al)(x:(List Int)):Option Int :=
 (gi x 0).bind fun x1 =>
 (gi x 1).bind fun x2 =>
 some (bits .and .i64 x1 x2)
def EH (m_:Al)(x:(List Int)):Option Int :=
 (gi x 0).bind fun x1 =>
 (gi x 1).bind fun x2 =>
 some (bits .or .i64 x1 x2)
def EG (m_:Al)(x:(List Int)):Option Int :=
 (gi x 0).bind fun x1 =>
 (Fe x1).bind fun d =>
 some d
def EF (m_:Al)(x:(List Int)):Option Int :=
 (gi x 0).bind fun x1 =>
 some (if (if 1000<x1 then 1000 else x1) > 0 then (if 1000<x1 then 1000 else x1) else 0)
def E7 (m_:Al)(x:(List Int)):Option Int :=
 (gi x 0).bind fun x1 =>
 (gi x (IntKind.i64.wrap (2-x1))).bind fun x2 =>
 some x2
def E6 (m_:Al)(x:(List Int)):Option Int :=
 (gi x 0).bind fun x1 =>
 (gi x 1).bind fun x2 =>
 some (if x2<x1 then x2 else x1)
def E5 (m_:Al)(x:(List Int)):Option Int :=
 (gi x 0).bind fun x1 =>
 (gi x 1).bind fun x2 =>
 some (if x2 > x1 then x2 else x1)
def ED (a_:Int)(b:Int):Option Bool :=
 some (decide (a_<b))
def EC (a_:Int)(b:Int):Option Bool :=
 some (decide (a_<=b))
def EB (a_:Int)(b:Int):Option Bool :=
 some (decide (b<a_))
def EA (a_:Int)(b:Int):Option Bool :=
 some (decide (b<=a_))
def E9 (a_:Int)(b:Int):Option Bool :=
 some (a_ == b)
def E8 (a_:Int)(b:Int):Option Bool :=
 some (a_ != b)
def Bv:Nat->Al->Int->Int->Int->Int->Option Int
 |0,_,_,_,_,_=>none
 |n+1,m_,kind,who,best1,v14 =>
  bif (decide (v14<(m_.d.Facts.length:Int))) then
   (gi m_.d.Facts v14).bind fun x1 =>
   ((bif (x1.Kind == kind) then
    bif (x1.Who == who) then
     bif (decide (x1.Known<=m_.known)) then
      bif (decide (best1<0)) then
       some true
      else
       (gi m_.d.Facts best1).bind fun x2 =>
       some (decide (x2.Known<=x1.Known))
     else
      some false
    else
     some false
   else
    some false
   ):Option Bool).bind fun v51 =>
    bif v51 then
     Bv n m_ kind who v14 (IntKind.i64.wrap (v14+1))
    else
     Bv n m_ kind who best1 (IntKind.i64.wrap (v14+1))
  else
   some best1
theorem D5 (n:Nat)(m_:Al)(kind:Int)(who:Int)(best1:Int)(v14:Int):Bv (n+1) m_ kind who best1 v14 =
 bif (decide (v14<(m_.d.Facts.length:Int))) then
  (gi m_.d.Facts v14).bind fun x1 =>
  ((bif (x1.Kind == kind) then
   bif (x1.Who == who) then
    bif (decide (x1.Known<=m_.known)) then
     bif (decide (best1<0)) then
      some true
     else
      (gi m_.d.Facts best1).bind fun x2 =>
      some (decide (x2.Known<=x1.Known))
    else
     some false
   else
    some false
  else
   some false
  ):Option Bool).bind fun v51 =>
   bif v51 then
    Bv n m_ kind who v14 (IntKind.i64.wrap (v14+1))
   else
    Bv n m_ kind who best1 (IntKind.i64.wrap (v14+1))
 else
  some best1:=by rw [Bv]
def C2 (n:Nat)(m_:Al)(kind:Int)(who:Int):Option Int :=
 ((Bv n m_ kind who (-1) 0
 ):Option Int).bind fun best =>
  bif (decide (best<0)) then
   some 41667
  else
   (gi m_.d.Facts best).bind fun x =>
   some x.Day
def Dc (b:Bool):Option Int :=
 bif b then
  some 1
 else
  some 0
def EE (n:Nat)(k:Int)(m_:Al)(x:(List Int)):Option Int :=
 (gi x 0).bind fun x1 =>
 (C2 n m_ (IntKind.i64.wrap (k+1)) x1).bind fun f =>
 some f
def DN (m_:Al)(x:(List Int)):Option Int :=
 (gi x 0).bind fun x1 =>
 (gi x 1).bind fun x2 =>
 (ED x1 x2).bind fun o_ =>
 (Dc o_).bind fun f =>
 some f
def DM (m_:Al)(x:(List Int)):Option Int :=
 (gi x 0).bind fun x1 =>
 (gi x 1).bind fun x2 =>
 (EC x1 x2).bind fun o_ =>
 (Dc o_).bind fun f =>
 some f
def DL (m_:Al)(x:(List Int)):Option Int :=
 (gi x 0).bind fun x1 =>
 (gi x 1).bind fun x2 =>
 (EB x1 x2).bind fun o_ =>
 (Dc o_).bind fun f =>
 some f
def DK (m_:Al)(x:(List Int)):Option Int :=
 (gi x 0).bind fun x1 =>
 (gi x 1).bind fun x2 =>
 (EA x1 x2).bind fun o_ =>
 (Dc o_).bind fun f =>
 some f
def DJ (m_:Al)(x:(List Int)):Option Int :=
 (gi x 0).bind fun x1 =>
 (gi x 1).bind fun x2 =>
 (E9 x1 x2).bind fun o_ =>
 (Dc o_).bind fun f =>
 some f
def D4 (m_:Al)(x:(List Int)):Option Int :=
 (gi x 0).bind fun x1 =>
 (gi x 1).bind fun x2 =>
 (E8 x1 x2).bind fun o_ =>
 (Dc o_).bind fun f =>
 some f
def DY (op:Int):Option Int :=
 ((bif (op == 1) then
  some (op == 1)
 else
  bif (op == 2) then
   some (op == 2)
  else
   some (op == 3)
 ):Option Bool).bind fun v4 =>
  bif v4 then
   some 0
  else
   ((bif (op == 5) then
    some (op == 5)
   else
    some (op == 6)
   ):Option Bool).bind fun v8 =>
    bif v8 then
     some 1
    else
     bif (op == 20) then
      some 3
     else
      bif (op == 4) then
       some (-1)
      else
       some 2
def Bb (s:(List Af))(s1:(List (ByteArray×Int)))(e:Int)(e1:Int)(e2:ByteArray)(e3:(List Ab))(e4:Int)(o_:Int)(o_1:ByteArray)(o_2:(List Int))(o_3:Int)(o_4:Do)(p:Int)(p1:Int)(x:Int):Option (Int×Af×Am) :=
 some (0,(Af.mk 0 ⟨#[]⟩ [] 0 Do.nil),(Am.mk e4 x))
def BF:Nat->(List Int)->(List Int)->Int->Option (Unit ⊕ Bool)
 |0,_,_,_=>none
 |n+1,s1,s2,v13 =>
  bif (decide (v13<(s1.length:Int))) then
   (gi s1 v13).bind fun x =>
   (gi s2 v13).bind fun x1 =>
   bif (x != x1) then
    some (.inr false)
   else
    BF n s1 s2 (IntKind.i64.wrap (v13+1))
  else
   some (.inl ())
theorem FF (n:Nat)(s1:(List Int))(s2:(List Int))(v13:Int):BF (n+1) s1 s2 v13 =
 bif (decide (v13<(s1.length:Int))) then
  (gi s1 v13).bind fun x =>
  (gi s2 v13).bind fun x1 =>
  bif (x != x1) then
   some (.inr false)
  else
   BF n s1 s2 (IntKind.i64.wrap (v13+1))
 else
  some (.inl ()):=by rw [BF]
def CX (n:Nat)(s1:(List Int))(s2:(List Int)):Option Bool :=
 bif ((s1.length:Int) != (s2.length:Int)) then
  some false
 else
  ((BF n s1 s2 0
  ):Option (Unit ⊕ Bool)).bind fun y=>match y with
  |.inl _ =>
   some true
  |.inr o=>some o
mutual
def AR:Nat->Bc->Ab->(List Int)->Bool->Bool->Int->Option ((Bool×Bool) ⊕ (Int×Af×Am))
 |0,_,_,_,_,_,_=>none
 |n+1,s,e,types,known1,fits1,v121 =>
  bif (decide (v121<(s.ops.length:Int))) then
   (gi s.ops v121).bind fun x =>
   ((bif (x.op != e.Op) then
    some true
   else
    bif (x.op == 4) then
     some (!decide (x.name=e.S))
    else
     some false
   ):Option Bool).bind fun v141 =>
    bif v141 then
     AR n s e types known1 fits1 (IntKind.i64.wrap (v121+1))
    else
     ((bif fits1 then
      some true
     else
      some ((x.args.length:Int) == (types.length:Int))
     ):Option Bool).bind fun fits2 =>
      (CX n x.args types).bind fun e9 =>
      bif e9 then
       some (.inr (x.kind,x,(Am.mk 0 0)))
      else
       AR n s e types true fits2 (IntKind.i64.wrap (v121+1))
  else
   some (.inl (known1,fits1))
def Bs:Nat->Ab->Bc->(List Int)->Int->Option ((List Int) ⊕ (Int×Af×Am))
 |0,_,_,_,_=>none
 |n+1,e,s,types1,v52 =>
  bif (decide (v52<(e.Kids.length:Int))) then
   (gi e.Kids v52).bind fun x1 =>
   (A8 n s x1).bind fun f7 =>
   bif (f7.2.2.E != 0) then
    some (.inr (0,(Af.mk 0 ⟨#[]⟩ [] 0 Do.nil),f7.2.2))
   else
    (some [f7.1]).bind fun l =>
    (Cp 9 types1 l).bind fun l1 =>
    Bs n e s l1 (IntKind.i64.wrap (v52+1))
  else
   some (.inl types1)
def A8:Nat->Bc->Ab->Option (Int×Af×Am)
 |0,_,_=>none
 |n+1,s,e =>
  (DY e.Op).bind fun n_ =>
  ((bif (decide (e.Op<1)) then
   some true
  else
   bif (decide (20<e.Op)) then
    some true
   else
    bif (decide (0<=n_)) then
     some ((e.Kids.length:Int) != n_)
    else
     some false
  ):Option Bool).bind fun v43 =>
   bif v43 then
    (Bb s.ops s.names e.Op e.N e.S e.Kids e.At 0 ⟨#[]⟩ [] 0 Do.nil 0 0 1).bind fun f =>
    some (f.1,f.2.1,f.2.2)
   else
    ((Bs n e s [] 0
    ):Option ((List Int) ⊕ (Int×Af×Am))).bind fun y1=>match y1 with
    |.inl types =>
     bif (e.Op == 1) then
      ((bif (decide (e.N<0)) then
       some true
      else
       some (decide (999999999999999<e.N))
      ):Option Bool).bind fun v84 =>
       bif v84 then
        (Bb s.ops s.names e.Op e.N e.S e.Kids e.At 0 ⟨#[]⟩ [] 0 Do.nil 0 0 1).bind fun f1 =>
        some (f1.1,f1.2.1,f1.2.2)
       else
        some (1,(Af.mk 0 ⟨#[]⟩ [] 0 Do.nil),(Am.mk 0 0))
     else
      bif (e.Op == 2) then
       (Bb s.ops s.names e.Op e.N e.S e.Kids e.At 0 ⟨#[]⟩ [] 0 Do.nil 0 0 7).bind fun f2 =>
       some (f2.1,f2.2.1,f2.2.2)
      else
       bif (e.Op == 3) then
        bif (CJ s.names e.S).2 then
         some ((CJ s.names e.S).1,(Af.mk 0 ⟨#[]⟩ [] 0 Do.nil),(Am.mk 0 0))
        else
         (Bb s.ops s.names e.Op e.N e.S e.Kids e.At 0 ⟨#[]⟩ [] 0 Do.nil 0 0 6).bind fun f3 =>
         some (f3.1,f3.2.1,f3.2.2)
       else
        ((AR n s e types false false 0
        ):Option ((Bool×Bool) ⊕ (Int×Af×Am))).bind fun y3=>match y3 with
        |.inl (known,fits) =>
         ((bif (e.Op == 4) then
          some (!known)
         else
          some false
         ):Option Bool).bind fun v160 =>
          bif v160 then
           (Bb s.ops s.names e.Op e.N e.S e.Kids e.At 0 ⟨#[]⟩ [] 0 Do.nil 0 0 6).bind fun f4 =>
           some (f4.1,f4.2.1,f4.2.2)
          else
           ((bif (e.Op == 4) then
            some (!fits)
           else
            some false
           ):Option Bool).bind fun v173 =>
            bif v173 then
             (Bb s.ops s.names e.Op e.N e.S e.Kids e.At 0 ⟨#[]⟩ [] 0 Do.nil 0 0 1).bind fun f5 =>
             some (f5.1,f5.2.1,f5.2.2)
            else
             (Bb s.ops s.names e.Op e.N e.S e.Kids e.At 0 ⟨#[]⟩ [] 0 Do.nil 0 0 7).bind fun f6 =>
             some (f6.1,f6.2.1,f6.2.2)
        |.inr o=>some o
    |.inr o=>some o
end
theorem Da (n:Nat)(s:Bc)(e:Ab)(types:(List Int))(known1:Bool)(fits1:Bool)(v121:Int):AR (n+1) s e types known1 fits1 v121 =
 bif (decide (v121<(s.ops.length:Int))) then
  (gi s.ops v121).bind fun x =>
  ((bif (x.op != e.Op) then
   some true
  else
   bif (x.op == 4) then
    some (!decide (x.name=e.S))
   else
    some false
  ):Option Bool).bind fun v141 =>
   bif v141 then
    AR n s e types known1 fits1 (IntKind.i64.wrap (v121+1))
   else
    ((bif fits1 then
     some true
    else
     some ((x.args.length:Int) == (types.length:Int))
    ):Option Bool).bind fun fits2 =>
     (CX n x.args types).bind fun e9 =>
     bif e9 then
      some (.inr (x.kind,x,(Am.mk 0 0)))
     else
      AR n s e types true fits2 (IntKind.i64.wrap (v121+1))
 else
  some (.inl (known1,fits1)):=by rw [AR]
theorem EM (n:Nat)(e:Ab)(s:Bc)(types1:(List Int))(v52:Int):Bs (n+1) e s types1 v52 =
 bif (decide (v52<(e.Kids.length:Int))) then
  (gi e.Kids v52).bind fun x1 =>
  (A8 n s x1).bind fun f7 =>
  bif (f7.2.2.E != 0) then
   some (.inr (0,(Af.mk 0 ⟨#[]⟩ [] 0 Do.nil),f7.2.2))
  else
   (some [f7.1]).bind fun l =>
   (Cp 9 types1 l).bind fun l1 =>
   Bs n e s l1 (IntKind.i64.wrap (v52+1))
 else
  some (.inl types1):=by rw [Bs]
def F9 (n:Nat)(d:Do)(m:Al)(x:List Int):Option Int:=match d with
 |.c 77=>Fc m x
 |.c 78=>Fb m x
 |.c 80=>EZ m x
 |.c 82=>EY m x
 |.c 84=>EX m x
 |.c 85=>EW m x
 |.c 86=>EV m x
 |.c 87=>EU m x
 |.c 88=>ET m x
 |.c 89=>EH m x
 |.c 90=>EG m x
 |.c 92=>EF m x
 |.c 103=>E7 m x
 |.c 104=>E6 m x
 |.c 105=>E5 m x
 |.k k=>EE n k m x
 |.is 95=>DN m x
 |.is 96=>DM m x
 |.is 97=>DL m x
 |.is 98=>DK m x
 |.is 99=>DJ m x
 |.is 100=>D4 m x
 |_=>none
mutual
def AU:Nat->Ab->Bc->Al->(List Int)->Int->Option (List Int)
 |0,_,_,_,_,_=>none
 |n+1,e,s,m_,x1,v35 =>
  bif (decide (v35<(e.Kids.length:Int))) then
   (gi e.Kids v35).bind fun x2 =>
   (AI n s x2 m_).bind fun v_ =>
   (some [v_]).bind fun l =>
   (Cp 9 x1 l).bind fun l1 =>
   AU n e s m_ l1 (IntKind.i64.wrap (v35+1))
  else
   some x1
def AI:Nat->Bc->Ab->Al->Option Int
 |0,_,_,_=>none
 |n+1,s,e,m_ =>
  bif (e.Op == 1) then
   some e.N
  else
   bif (e.Op == 3) then
    some ((CJ [(⟨#[121,101,97,114]⟩,365),(⟨#[115,116,111,114,101,100]⟩,m_.d.Stored),(⟨#[110,101,118,101,114]⟩,41667),(⟨#[111,119,110,101,114]⟩,m_.d.Owner)] e.S).1)
   else
    ((AU n e s m_ [] 0
    ):Option (List Int)).bind fun x =>
     (A8 n s (Ab.mk e.Op e.N e.S e.Kids e.At)).bind fun f =>
     (ZB f.2.1.do_).bind fun d =>
     (F9 n d m_ x).bind fun r1 =>
     some r1
end
theorem Eu (n:Nat)(e:Ab)(s:Bc)(m_:Al)(x1:(List Int))(v35:Int):AU (n+1) e s m_ x1 v35 =
 bif (decide (v35<(e.Kids.length:Int))) then
  (gi e.Kids v35).bind fun x2 =>
  (AI n s x2 m_).bind fun v_ =>
  (some [v_]).bind fun l =>
  (Cp 9 x1 l).bind fun l1 =>
  AU n e s m_ l1 (IntKind.i64.wrap (v35+1))
 else
  some x1:=by rw [AU]
theorem D3 (n:Nat)(s:Bc)(e:Ab)(m_:Al):AI (n+1) s e m_ =
 bif (e.Op == 1) then
  some e.N
 else
  bif (e.Op == 3) then
   some ((CJ [(⟨#[121,101,97,114]⟩,365),(⟨#[115,116,111,114,101,100]⟩,m_.d.Stored),(⟨#[110,101,118,101,114]⟩,41667),(⟨#[111,119,110,101,114]⟩,m_.d.Owner)] e.S).1)
  else
   ((AU n e s m_ [] 0
   ):Option (List Int)).bind fun x =>
    (A8 n s (Ab.mk e.Op e.N e.S e.Kids e.At)).bind fun f =>
    (ZB f.2.1.do_).bind fun d =>
    (F9 n d m_ x).bind fun r1 =>
    some r1:=by rw [AI]
abbrev hT (l:List Ac):PV:=hP l CM
abbrev oT (l:List Ac):PV:=oP l CM
abbrev hX (l:List Ab):PV:=hP l Bu
abbrev oX (l:List Ab):PV:=oP l Bu
abbrev hF (l:List Aj):PV:=hP l Cr
abbrev oF (l:List Aj):PV:=oP l Cr
abbrev hA (l:List Aw):PV:=hP l C8
abbrev oA (l:List Aw):PV:=oP l C8
abbrev hS (l:List ByteArray):PV:=hP l BX
abbrev hI (l:List Int):PV:=hP l A1
abbrev oI (l:List Int):PV:=oP l A1
abbrev hZ (l:List BK):PV:=hP l FX
abbrev hO (l:List Af):PV:=hP l Ag
abbrev hE (l:List Av):PV:=hP l Eb
abbrev oE (l:List Av):PV:=oP l Eb
end Go.Sp
namespace Go.Sp
open Go
def Ev {α:Type}(f:Nat->Option α)(a:α):Prop:=∃ N,∀ n,N<=n->f n=some a
namespace Ev
variable {α β:Type} {f:Nat->Option α} {a:α} {b:β}
theorem const {x:Option α}(h:x=some a):Ev (fun _=>x) a:=⟨0,fun _ _=>h⟩
theorem pure:Ev (fun _=>some a) a:=const rfl
theorem of (h:∀ n,f n=some a):Ev f a:=⟨0,fun n _=>h n⟩
theorem bind {g:Nat->α->Option β}(h:Ev f a)(k:Ev (fun n=>g n a) b):Ev (fun n=>(f n).bind (g n)) b:=by
 obtain⟨N,h⟩:=h
 obtain⟨M,k⟩:=k
 exact⟨max N M,fun n hn=>by
  show (f n).bind (g n)=some b
  rw [h n (by omega)];exact k n (by omega)⟩
theorem step {F:Nat->Option α}(e:∀ n,F (n+1)=f n)(h:Ev f a):Ev F a:=by
 obtain⟨N,h⟩:=h
 refine⟨N+1,fun n hn=>?_⟩
 obtain⟨m,rfl⟩:∃ m,n=m+1:=⟨n-1,by omega⟩
 rw [e];exact h m (by omega)
theorem congr {g:Nat->Option α}(h:Ev g a)(e:∀ n,f n=g n):Ev f a:=by
 obtain⟨N,h⟩:=h
 exact⟨N,fun n hn=>(e n).trans (h n hn)⟩
theorem get (h:Ev f a):∃ n,f n=some a:=by
 obtain⟨N,h⟩:=h
 exact⟨N,h N (Nat.le_refl _)⟩
theorem uniq {a':α}(h:Ev f a)(k:Ev f a'):a=a':=by
 obtain⟨N,h⟩:=h
 obtain⟨M,k⟩:=k
 have:=(h (max N M) (by omega)).symm.trans (k (max N M) (by omega))
 exact Aa this
end Ev
theorem AJ {x:Int}(h1 : -9223372036854775808<=x)(h2:x<9223372036854775808):IntKind.i64.wrap x=x:=by
 rw [IntKind.wrap_i64];omega
theorem XU {α:Type}(l:List α){k:Int}(hk:0<=k):gi l k=gi (l.drop k.toNat) 0:=by
 unfold gi
 rw [if_pos hk,if_pos (by decide),List.getElem?_drop];rfl
theorem A0 {α:Type}{l:List α}{k:Int}{x:α}(h:gi l k=some x):l.drop k.toNat=x::l.drop (k+1).toNat/\0<=k/\k<(l.length:Int):=by
 unfold gi at h
 split at h
 . rename_i h0
   obtain⟨h1,h2⟩:=List.getElem?_eq_some_iff.1 h
   refine⟨?_,h0,by omega⟩
   rw [List.drop_eq_getElem_cons h1,h2,show (k+1).toNat=k.toNat+1 by omega]
 . cases h
end Go.Sp
