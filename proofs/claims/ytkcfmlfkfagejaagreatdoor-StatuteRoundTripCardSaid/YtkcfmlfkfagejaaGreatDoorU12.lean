/-
  Chapter 33 as plain functions, first part: parsing, printing, the operations, find and value; no program. (Printed by lift.py, but for what the lexer answers.) Plain functions with fuel: what holds for all large fuel. No program.
-/
import Derived.Lib.Join
import Derived.Lib.ItoaNum
import Derived.Test.YtkcfmlfkfagejaaGreatDoorU10
import Derived.Test.YtkcfmlfkfagejaaGreatDoorU11
set_option linter.unusedVariables false
set_option linter.unusedSimpArgs false
namespace Go.Sp
open Go Go.Vl
set_option linter.unusedVariables false
structure Ab where
 Kind:Int
 At:Int
 S:Â
 N:Int
def Ey (x:Ab):List PV:=[iP x.Kind,iP x.At,tP x.S,iP x.N]
theorem JC (x:Ab):Ey x=[iP x.Kind,iP x.At,tP x.S,iP x.N]:=rfl
theorem Jj (x:Ab):(Ey x).length=4:=rfl
def Bh:Rw Ab:=⟨Ey,_,4,JC,Jj⟩
structure Am where
 At:Int
 E:Int
structure Ar where
 sign:Â
 op:Int
 level:Int
def EE (x:Ar):List PV:=[tP x.sign,iP x.op,iP x.level]
theorem M6 (x:Ar):EE x=[tP x.sign,iP x.op,iP x.level]:=rfl
theorem L9 (x:Ar):(EE x).length=3:=rfl
def Cv:Rw Ar:=⟨EE,_,3,M6,L9⟩
structure Ae where
 l:(List Ab)
 forms:Int
structure Aa where
 Op:Int
 N:Int
 S:Â
 Kids:(List Aa)
 At:Int
mutual
def Bn:Aa->List PV
 |.mk fOp fN fS fKids fAt=>[iP fOp,iP fN,tP fS,.sl (HA fKids) .shared,iP fAt]
def HA:List Aa->List (List PV)
 | []=>[]
 |x::l=>Bn x::HA l
end
theorem JB:∀ l:List Aa,HA l=l.map Bn
 | []=>rfl
 |x::l=>by rw [HA,JB l];rfl
theorem Gv (x:Aa):Bn x=[iP x.Op,iP x.N,tP x.S,hP x.Kids Bn,iP x.At]:=by
 cases x;rw [Bn];simp only [JB]
theorem JD (x:Aa):(Bn x).length=5:=by rw [Gv];rfl
def A7:Rw Aa:=⟨Bn,_,5,Gv,JD⟩
structure Ao where
 Kind:Int
 N:Int
 S:Â
 E:Aa
 At:Int
def CS (x:Ao):List PV:=[iP x.Kind,iP x.N,tP x.S,iP x.E.Op,iP x.E.N,tP x.E.S,hP x.E.Kids Bn,iP x.E.At,iP x.At]
theorem Qy (x:Ao):CS x=[iP x.Kind,iP x.N,tP x.S,iP x.E.Op,iP x.E.N,tP x.E.S,hP x.E.Kids Bn,iP x.E.At,iP x.At]:=rfl
theorem P6 (x:Ao):(CS x).length=9:=rfl
def A9:Rw Ao:=⟨CS,_,9,Qy,P6⟩
structure Ai where
 Word:Â
 Args:(List Ao)
 Body:(List Ai)
 At:Int
mutual
def C6:Ai->List PV
 |.mk fWord fArgs fBody fAt=>[tP fWord,hP fArgs CS,.sl (H9 fBody) .shared,iP fAt]
def H9:List Ai->List (List PV)
 | []=>[]
 |x::l=>C6 x::H9 l
end
theorem JA:∀ l:List Ai,H9 l=l.map C6
 | []=>rfl
 |x::l=>by rw [H9,JA l];rfl
theorem Gu (x:Ai):C6 x=[tP x.Word,hP x.Args CS,hP x.Body C6,iP x.At]:=by
 cases x;rw [C6];simp only [JA]
theorem Hr (x:Ai):(C6 x).length=4:=by rw [Gu];rfl
def Co:Rw Ai:=⟨C6,_,4,Gu,Hr⟩
structure Ap where
 At:Int
 E:Int
structure Aj where
 l:(List Ab)
 bad:Bool
structure BS where
 Kind:Int
 Who:Int
 Day:Int
 Known:Int
def GW (x:BS):List PV:=[iP x.Kind,iP x.Who,iP x.Day,iP x.Known]
theorem P5 (x:BS):GW x=[iP x.Kind,iP x.Who,iP x.Day,iP x.Known]:=rfl
theorem Ow (x:BS):(GW x).length=4:=rfl
def EJ:Rw BS:=⟨GW,_,4,P5,Ow⟩
structure BG where
 Facts:(List BS)
 Stored:Int
 Owner:Int
structure Al where
 d:BG
 known:Int
structure Af where
 op:Int
 name:Â
 args:(List Int)
 kind:Int
 do_:Do
def Ay (x:Int):List PV:=[iP x]
theorem B7 (x:Int):Ay x=[iP x]:=rfl
theorem LB (x:Int):(Ay x).length=1:=rfl
def Bd:Rw Int:=⟨Ay,_,1,B7,LB⟩
def Ah (x:Af):List PV:=[iP x.op,tP x.name,hP x.args Ay,iP x.kind,.fno (LO x.do_) (K4 x.do_) (KM x.do_)]
theorem BT (x:Af):Ah x=[iP x.op,tP x.name,hP x.args Ay,iP x.kind,.fno (LO x.do_) (K4 x.do_) (KM x.do_)]:=rfl
theorem Cy (x:Af):(Ah x).length=5:=rfl
def HL:Rw Af:=⟨Ah,_,5,BT,Cy⟩
structure Ba where
 ops:(List Af)
 names:(List (ByteArray×Int))
def BA (x:Â):List PV:=[tP x]
theorem J1 (x:Â):BA x=[tP x]:=rfl
theorem L8 (x:Â):(BA x).length=1:=rfl
def Bv:Rw Â:=⟨BA,_,1,J1,L8⟩
def N4 (t:Lx.Tok):Ab:=⟨(t.kind:Int),(t.at_:Int),⟨⟨t.s⟩⟩,(t.n:Int)⟩
def FN (src:Â):List Ab×Am :=
 if 65536<src.size then ([],⟨0,2⟩)
 else match Lx.tokens src.data.toList with
  |.ok ts=>(ts.map N4,⟨0,0⟩)
  |.error (p,e)=>([],⟨(p:Int),(e:Int)⟩)
def OA (src:Â):Option (List Ab×Am):=some (FN src)
def F7 (t:Ab):List (List UInt8):=if t.Kind=1∨t.Kind=4 then [t.S.data.toList] else if t.Kind=2 then [Lib.itoa t.N] else if t.Kind=3 then [34::Lx.quoted t.S.data.toList++[34]] else []
def E0 (l:List Ab):Â:=⟨⟨Lib.join (l.flatMap F7) [32]⟩⟩
def Ww (l:List Ab):Prop:=l.length<=1000000/\(∀ t∈l,-9223372036854775808<=t.N/\t.N<=9223372036854775807)/\(E0 l).size<=140737488355328/\∀ t∈l,t.Kind≠3
instance (l:List Ab):Decidable (Ww l):=by unfold Ww;exact inferInstance
def NK (l:List Ab):Option Â:=if Ww l then some (E0 l) else none
def CT:Option (List Ar) :=
 (some [(Ar.mk ⟨#[42]⟩ 7 6),(Ar.mk ⟨#[47]⟩ 8 6),(Ar.mk ⟨#[37]⟩ 9 6),(Ar.mk ⟨#[43]⟩ 10 5),(Ar.mk ⟨#[45]⟩ 11 5),(Ar.mk ⟨#[61,61]⟩ 12 4),(Ar.mk ⟨#[33,61]⟩ 13 4),(Ar.mk ⟨#[60]⟩ 14 4),(Ar.mk ⟨#[60,61]⟩ 15 4),(Ar.mk ⟨#[62]⟩ 16 4),(Ar.mk ⟨#[62,61]⟩ 17 4),(Ar.mk ⟨#[38,38]⟩ 18 2),(Ar.mk ⟨#[124,124]⟩ 19 1)]).bind fun l =>
 some l
def AL (p:Ae)(e:Int):Option (Ex Ap Ae Unit) :=
 (gi p.l 0).bind fun x =>
 some (.pan (Ap.mk x.At e) p)
def A4 (p:Ae):Option (Ab×Ae) :=
 (gi p.l 0).bind fun x =>
 (Yh p.l 1 (p.l.length:Int)).bind fun l =>
 some (x,(Ae.mk l p.forms))
def AJ (p:Ae)(s:Â):Option Bool :=
 (((gi p.l 0).bind fun x =>
 bif (x.Kind == 4) then
  some (decide (x.S=s))
 else
  some false
 ):Option Bool).bind fun v4 =>
  some v4
def BH (p:Ae):Option Bool :=
 (gi p.l 0).bind fun x =>
 ((bif (x.Kind == 1) then
  some (x.Kind == 1)
 else
  bif (x.Kind == 2) then
   some (x.Kind == 2)
  else
   some (x.Kind == 3)
 ):Option Bool).bind fun v10 =>
  bif v10 then
   some true
  else
   (((AJ p ⟨#[40]⟩).bind fun i =>
   bif i then
    some true
   else
    (AJ p ⟨#[45]⟩).bind fun i1 =>
    some i1
   ):Option Bool).bind fun v2 =>
    some v2
def BX (p:Ae):Option (Ex Ap Ae Int) :=
 (gi p.l 0).bind fun x =>
 bif (x.Kind != 2) then
  (AL p 5).bind fun y=>match y with
  |.ok f p1 =>
   (A4 p1).bind fun n_ =>
   some (.ok n_.1.N n_.2)
  |.pan e p2=>some (.pan e p2)
 else
  (A4 p).bind fun n_1 =>
  some (.ok n_1.1.N n_1.2)
def Ci (p:Ae)(depth:Int)(not_:Bool):Option (Ex Ap Ae Unit) :=
 (((BH p).bind fun b =>
 bif (!b) then
  bif not_ then
   (AJ p ⟨#[33]⟩).bind fun i =>
   some (!i)
  else
   some true
 else
  some false
 ):Option Bool).bind fun v16 =>
  ((bif v16 then
   (AL p 5).bind fun y3=>match y3 with
   |.ok f1 p5 =>
    some (.inl (p5.l,p5.forms))
   |.pan e3 p6=>some (.inr (.pan e3 p6))
  else
   some (.inl (p.l,p.forms))
  ):Option (((List Ab)×Int) ⊕ (Ex Ap Ae Unit))).bind fun y1=>match y1 with
  |.inl (p1,p2) =>
   bif (decide (30<depth)) then
    (AL (Ae.mk p1 p2) 2).bind fun y2=>match y2 with
    |.ok f p3 =>
     some (.ok () p3)
    |.pan e2 p4=>some (.pan e2 p4)
   else
    some (.ok () (Ae.mk p1 p2))
  |.inr o=>some o
def Bj (p:Ae)(s:Â):Option (Ex Ap Ae Unit) :=
 (AJ p s).bind fun i =>
 bif (!i) then
  (AL p 5).bind fun y=>match y with
  |.ok f p1 =>
   (A4 p1).bind fun n_ =>
   some (.ok () n_.2)
  |.pan e p2=>some (.pan e p2)
 else
  (A4 p).bind fun n_1 =>
  some (.ok () n_1.2)
def CF (p:(List Ab))(p1:Int)(n_:Int)(q:Int)(q1:Int)(q2:Â)(q3:(List Aa))(q4:Int)(e:Int)(e1:Int)(e2:Â)(e3:(List Aa))(e4:Int)(b:Ar):Option Bool :=
 ((bif (b.level == n_) then
  (AJ (Ae.mk p p1) b.sign).bind fun i =>
  some i
 else
  some false
 ):Option Bool).bind fun v4 =>
  some v4
def Bk:Nat->(List Ar)->(List Ab)->Int->Int->Int->Int->Â->(List Aa)->Int->Int->Int->Â->(List Aa)->Int->Int->Option (Unit ⊕ Int)
 |0,_,_,_,_,_,_,_,_,_,_,_,_,_,_,_=>none
 |n+1,s,p,p1,n_,q,q1,q2,q3,q4,e,e1,e2,e3,e4,v8 =>
  bif (decide (v8<(s.length:Int))) then
   (gi s v8).bind fun x =>
   (CF p p1 n_ q q1 q2 q3 q4 e e1 e2 e3 e4 x).bind fun l =>
   bif l then
    some (.inr v8)
   else
    Bk n s p p1 n_ q q1 q2 q3 q4 e e1 e2 e3 e4 (À (v8+1))
  else
   some (.inl ())
def CH (n:Nat)(p:(List Ab))(p1:Int)(n_:Int)(q:Int)(q1:Int)(q2:Â)(q3:(List Aa))(q4:Int)(e:Int)(e1:Int)(e2:Â)(e3:(List Aa))(e4:Int)(s:(List Ar)):Option Int :=
 ((Bk n s p p1 n_ q q1 q2 q3 q4 e e1 e2 e3 e4 0
 ):Option (Unit ⊕ Int)).bind fun y=>match y with
 |.inl _ =>
  some (-1)
 |.inr o=>some o
mutual
def Av:Nat->Ae->Int->Option (Ex Ap Ae Aa)
 |0,_,_=>none
 |n+1,p,depth =>
  (Ci p depth true).bind fun y=>match y with
  |.ok d p1 =>
   (A0 n p1 1 depth).bind fun y1=>match y1 with
   |.ok e1 p3 =>
    (AJ p3 ⟨#[63]⟩).bind fun i =>
    bif (!i) then
     some (.ok e1 p3)
    else
     (A4 p3).bind fun n_ =>
     (Av n n_.2 (À (depth+1))).bind fun y2=>match y2 with
     |.ok a_ p5 =>
      (Bj p5 ⟨#[58]⟩).bind fun y3=>match y3 with
      |.ok n_1 p7 =>
       (Av n p7 (À (depth+1))).bind fun y4=>match y4 with
       |.ok e5 p9 =>
        (some [e1,a_,e5]).bind fun l =>
        some (.ok (Aa.mk 20 0 ⟨#[]⟩ l e1.At) p9)
       |.pan e6 p10=>some (.pan e6 p10)
      |.pan e4 p8=>some (.pan e4 p8)
     |.pan e3 p6=>some (.pan e3 p6)
   |.pan e2 p4=>some (.pan e2 p4)
  |.pan e p2=>some (.pan e p2)
def Bi:Nat->Int->Aa->Int->(List Ab)->Int->Int->Int->Â->(List Aa)->Option (Ex Ap Ae Aa)
 |0,_,_,_,_,_,_,_,_,_=>none
 |n+1,n_1,e2,depth,p5,p6,e4,e5,e6,e7 =>
  (CT).bind fun o_ =>
  (CH n p5 p6 n_1 0 0 ⟨#[]⟩ [] 0 e4 e5 e6 e7 e2.At o_).bind fun k =>
  bif (decide (k<0)) then
   some (.ok (Aa.mk e4 e5 e6 e7 e2.At) (Ae.mk p5 p6))
  else
   (A4 (Ae.mk p5 p6)).bind fun n_3 =>
   (CT).bind fun o_1 =>
   (gi o_1 k).bind fun x =>
   (A0 n n_3.2 (À (n_1+1)) depth).bind fun y3=>match y3 with
   |.ok l p7 =>
    (some [(Aa.mk e4 e5 e6 e7 e2.At),l]).bind fun l1 =>
    bif (n_1 == 4) then
     some (.ok (Aa.mk x.op 0 ⟨#[]⟩ l1 e2.At) p7)
    else
     Bi n n_1 e2 depth p7.l p7.forms x.op 0 ⟨#[]⟩ l1
   |.pan e8 p8=>some (.pan e8 p8)
def A0:Nat->Ae->Int->Int->Option (Ex Ap Ae Aa)
 |0,_,_,_=>none
 |n+1,p,n_,depth =>
  ((bif (n_ == 3) then
   (AJ p ⟨#[33]⟩).bind fun i =>
   bif i then
    (A4 p).bind fun n_4 =>
    (Ci n_4.2 (À (depth+1)) true).bind fun y4=>match y4 with
    |.ok d p9 =>
     (A0 n p9 3 (À (depth+1))).bind fun y5=>match y5 with
     |.ok l2 p11 =>
      (some [l2]).bind fun l3 =>
      some (.inr (.ok (Aa.mk 5 0 ⟨#[]⟩ l3 n_4.1.At) p11))
     |.pan e10 p12=>some (.inr (.pan e10 p12))
    |.pan e9 p10=>some (.inr (.pan e9 p10))
   else
    some (.inl (À (n_+1)))
  else
   some (.inl n_)
  ):Option (Int ⊕ (Ex Ap Ae Aa))).bind fun y=>match y with
  |.inl n_1 =>
   bif (n_1 == 7) then
    (AT n p depth).bind fun y1=>match y1 with
    |.ok n_2 p1 =>
     some (.ok n_2 p1)
    |.pan e1 p2=>some (.pan e1 p2)
   else
    (A0 n p (À (n_1+1)) depth).bind fun y2=>match y2 with
    |.ok e2 p3 =>
     Bi n n_1 e2 depth p3.l p3.forms e2.Op e2.N e2.S e2.Kids
    |.pan e3 p4=>some (.pan e3 p4)
  |.inr o=>some o
def AT:Nat->Ae->Int->Option (Ex Ap Ae Aa)
 |0,_,_=>none
 |n+1,p,depth =>
  (AJ p ⟨#[45]⟩).bind fun i =>
  bif (!i) then
   (AR n p depth).bind fun y=>match y with
   |.ok a_ p1 =>
    some (.ok a_ p1)
   |.pan e p2=>some (.pan e p2)
  else
   (A4 p).bind fun n_ =>
   (Ci n_.2 (À (depth+1)) false).bind fun y1=>match y1 with
   |.ok d p3 =>
    (AT n p3 (À (depth+1))).bind fun y2=>match y2 with
    |.ok n_1 p5 =>
     (some [n_1]).bind fun l =>
     some (.ok (Aa.mk 6 0 ⟨#[]⟩ l n_.1.At) p5)
    |.pan e2 p6=>some (.pan e2 p6)
   |.pan e1 p4=>some (.pan e1 p4)
def AM:Nat->Int->(List Ab)->Int->(List Aa)->Option (((List Ab)×Int×(List Aa)) ⊕ (Ex Ap Ae Aa))
 |0,_,_,_,_=>none
 |n+1,depth,p5,p6,e3 =>
  (AJ (Ae.mk p5 p6) ⟨#[41]⟩).bind fun i1 =>
  bif (!i1) then
   ((bif (decide (0<(e3.length:Int))) then
    (Bj (Ae.mk p5 p6) ⟨#[44]⟩).bind fun y7=>match y7 with
    |.ok n_2 p17 =>
     some (.inl (p17.l,p17.forms))
    |.pan e11 p18=>some (.inr (.pan e11 p18))
   else
    some (.inl (p5,p6))
   ):Option (((List Ab)×Int) ⊕ (Ex Ap Ae Aa))).bind fun y2=>match y2 with
   |.inl (p7,p8) =>
    bif ((e3.length:Int) == 40) then
     (Ci (Ae.mk p7 p8) 0 true).bind fun y3=>match y3 with
     |.ok d p9 =>
      (AL p9 2).bind fun y4=>match y4 with
      |.ok f p11 =>
       (Av n p11 (À (depth+1))).bind fun y5=>match y5 with
       |.ok e7 p13 =>
        (some [e7]).bind fun l =>
        (B4 65 e3 l).bind fun l1 =>
        AM n depth p13.l p13.forms l1
       |.pan e8 p14=>some (.inr (.pan e8 p14))
      |.pan e6 p12=>some (.inr (.pan e6 p12))
     |.pan e5 p10=>some (.inr (.pan e5 p10))
    else
     (Av n (Ae.mk p7 p8) (À (depth+1))).bind fun y6=>match y6 with
     |.ok e9 p15 =>
      (some [e9]).bind fun l2 =>
      (B4 65 e3 l2).bind fun l3 =>
      AM n depth p15.l p15.forms l3
     |.pan e10 p16=>some (.inr (.pan e10 p16))
   |.inr o=>some (.inr o)
  else
   some (.inl (p5,p6,e3))
def AR:Nat->Ae->Int->Option (Ex Ap Ae Aa)
 |0,_,_=>none
 |n+1,p,depth =>
  (BH p).bind fun b =>
  ((bif (!b) then
   (AL p 5).bind fun y10=>match y10 with
   |.ok f1 p23 =>
    some (.inl (p23.l,p23.forms))
   |.pan e15 p24=>some (.inr (.pan e15 p24))
  else
   some (.inl (p.l,p.forms))
  ):Option (((List Ab)×Int) ⊕ (Ex Ap Ae Aa))).bind fun y=>match y with
  |.inl (p1,p2) =>
   (A4 (Ae.mk p1 p2)).bind fun t =>
   bif (t.1.Kind == 2) then
    some (.ok (Aa.mk 1 t.1.N t.1.S [] t.1.At) t.2)
   else
    bif (t.1.Kind == 3) then
     some (.ok (Aa.mk 2 t.1.N t.1.S [] t.1.At) t.2)
    else
     bif (t.1.Kind == 1) then
      (AJ t.2 ⟨#[40]⟩).bind fun i =>
      bif (!i) then
       some (.ok (Aa.mk 3 t.1.N t.1.S [] t.1.At) t.2)
      else
       (A4 t.2).bind fun n_ =>
       ((AM n depth n_.2.l n_.2.forms []
       ):Option (((List Ab)×Int×(List Aa)) ⊕ (Ex Ap Ae Aa))).bind fun y1=>match y1 with
       |.inl (p3,p4,e1) =>
        (A4 (Ae.mk p3 p4)).bind fun n_1 =>
        some (.ok (Aa.mk 4 t.1.N t.1.S e1 t.1.At) n_1.2)
       |.inr o=>some o
     else
      (Av n t.2 (À (depth+1))).bind fun y8=>match y8 with
      |.ok e12 p19 =>
       (Bj p19 ⟨#[41]⟩).bind fun y9=>match y9 with
       |.ok n_3 p21 =>
        some (.ok e12 p21)
       |.pan e14 p22=>some (.pan e14 p22)
      |.pan e13 p20=>some (.pan e13 p20)
  |.inr o=>some o
end
def BV (n:Nat)(p:Ae):Option (Ex Ap Ae Ao) :=
 (A4 p).bind fun t =>
 bif (t.1.Kind == 1) then
  some (.ok (Ao.mk 1 t.1.N t.1.S (Aa.mk 0 0 ⟨#[]⟩ [] 0) t.1.At) t.2)
 else
  bif (t.1.Kind == 2) then
   some (.ok (Ao.mk 2 t.1.N t.1.S (Aa.mk 0 0 ⟨#[]⟩ [] 0) t.1.At) t.2)
  else
   bif (t.1.Kind == 3) then
    some (.ok (Ao.mk 3 t.1.N t.1.S (Aa.mk 0 0 ⟨#[]⟩ [] 0) t.1.At) t.2)
   else
    bif (decide (t.1.S=⟨#[45]⟩)) then
     (BX t.2).bind fun y=>match y with
     |.ok n_ p1 =>
      some (.ok (Ao.mk 2 (À (0-n_)) ⟨#[]⟩ (Aa.mk 0 0 ⟨#[]⟩ [] 0) t.1.At) p1)
     |.pan e p2=>some (.pan e p2)
    else
     bif (decide (t.1.S=⟨#[45,62]⟩)) then
      some (.ok (Ao.mk 4 t.1.N ⟨#[]⟩ (Aa.mk 0 0 ⟨#[]⟩ [] 0) t.1.At) t.2)
     else
      bif (decide (t.1.S=⟨#[40]⟩)) then
       (Av n t.2 1).bind fun y1=>match y1 with
       |.ok e1 p3 =>
        (Bj p3 ⟨#[41]⟩).bind fun y2=>match y2 with
        |.ok n_1 p5 =>
         some (.ok (Ao.mk 5 t.1.N ⟨#[]⟩ e1 t.1.At) p5)
        |.pan e3 p6=>some (.pan e3 p6)
       |.pan e2 p4=>some (.pan e2 p4)
      else
       some (.ok (Ao.mk 0 t.1.N ⟨#[]⟩ (Aa.mk 0 0 ⟨#[]⟩ [] 0) t.1.At) t.2)
mutual
def Bu:Nat->Int->(List Ab)->Int->(List Ai)->Option (((List Ab)×Int×(List Ai)) ⊕ (Ex Ap Ae Ai))
 |0,_,_,_,_=>none
 |n+1,depth,p9,p10,f2 =>
  (AJ (Ae.mk p9 p10) ⟨#[125]⟩).bind fun i =>
  bif (!i) then
   (Bf n (Ae.mk p9 p10) (À (depth+1))).bind fun y5=>match y5 with
   |.ok f3 p11 =>
    (some [f3]).bind fun l =>
    (B4 73 f2 l).bind fun l1 =>
    Bu n depth p11.l p11.forms l1
   |.pan e5 p12=>some (.inr (.pan e5 p12))
  else
   some (.inl (p9,p10,f2))
def AU:Nat->(List Ab)->Int->(List Ao)->Option (((List Ab)×Int×(List Ao)) ⊕ (Ex Ap Ae Ai))
 |0,_,_,_=>none
 |n+1,p13,p14,f4 =>
  (((AJ (Ae.mk p13 p14) ⟨#[59]⟩).bind fun i2 =>
  bif (!i2) then
   (AJ (Ae.mk p13 p14) ⟨#[123]⟩).bind fun i3 =>
   some (!i3)
  else
   some false
  ):Option Bool).bind fun v49 =>
   bif v49 then
    (((BH (Ae.mk p13 p14)).bind fun b =>
    bif (!b) then
     (AJ (Ae.mk p13 p14) ⟨#[45,62]⟩).bind fun i1 =>
     some (!i1)
    else
     some false
    ):Option Bool).bind fun v57 =>
     ((bif v57 then
      (AL (Ae.mk p13 p14) 5).bind fun y12=>match y12 with
      |.ok f6 p23 =>
       some (.inl (p23.l,p23.forms))
      |.pan e12 p24=>some (.inr (.pan e12 p24))
     else
      some (.inl (p13,p14))
     ):Option (((List Ab)×Int) ⊕ (Ex Ap Ae Ai))).bind fun y8=>match y8 with
     |.inl (p15,p16) =>
      bif ((f4.length:Int) == 40) then
       (AL (Ae.mk p15 p16) 2).bind fun y9=>match y9 with
       |.ok f5 p17 =>
        (BV n p17).bind fun y10=>match y10 with
        |.ok a_ p19 =>
         (some [a_]).bind fun l2 =>
         (B4 105 f4 l2).bind fun l3 =>
         AU n p19.l p19.forms l3
        |.pan e10 p20=>some (.inr (.pan e10 p20))
       |.pan e9 p18=>some (.inr (.pan e9 p18))
      else
       (BV n (Ae.mk p15 p16)).bind fun y11=>match y11 with
       |.ok a_1 p21 =>
        (some [a_1]).bind fun l4 =>
        (B4 105 f4 l4).bind fun l5 =>
        AU n p21.l p21.forms l5
       |.pan e11 p22=>some (.inr (.pan e11 p22))
     |.inr o=>some (.inr o)
   else
    some (.inl (p13,p14,f4))
def Bf:Nat->Ae->Int->Option (Ex Ap Ae Ai)
 |0,_,_=>none
 |n+1,p,depth =>
  (gi p.l 0).bind fun x =>
  ((bif (x.Kind != 1) then
   (AL p 5).bind fun y14=>match y14 with
   |.ok f8 p27 =>
    some (.inl (p27.l,p27.forms))
   |.pan e14 p28=>some (.inr (.pan e14 p28))
  else
   some (.inl (p.l,p.forms))
  ):Option (((List Ab)×Int) ⊕ (Ex Ap Ae Ai))).bind fun y=>match y with
  |.inl (p1,p2) =>
   ((bif (decide (30<depth)) then
    some true
   else
    some (decide (2000<(À (p2+1))))
   ):Option Bool).bind fun v32 =>
    ((bif v32 then
     (AL (Ae.mk p1 (À (p2+1))) 2).bind fun y13=>match y13 with
     |.ok f7 p25 =>
      some (.inl (p25.l,p25.forms))
     |.pan e13 p26=>some (.inr (.pan e13 p26))
    else
     some (.inl (p1,(À (p2+1))))
    ):Option (((List Ab)×Int) ⊕ (Ex Ap Ae Ai))).bind fun y2=>match y2 with
    |.inl (p3,p4) =>
     (A4 (Ae.mk p3 p4)).bind fun t =>
     ((AU n t.2.l t.2.forms []
     ):Option (((List Ab)×Int×(List Ao)) ⊕ (Ex Ap Ae Ai))).bind fun y3=>match y3 with
     |.inl (p5,p6,f) =>
      (A4 (Ae.mk p5 p6)).bind fun n_ =>
      bif (decide (n_.1.S=⟨#[59]⟩)) then
       some (.ok (Ai.mk t.1.S f [] t.1.At) n_.2)
      else
       ((Bu n depth n_.2.l n_.2.forms []
       ):Option (((List Ab)×Int×(List Ai)) ⊕ (Ex Ap Ae Ai))).bind fun y4=>match y4 with
       |.inl (p7,p8,f1) =>
        (A4 (Ae.mk p7 p8)).bind fun n_1 =>
        some (.ok (Ai.mk t.1.S f f1 t.1.At) n_1.2)
       |.inr o=>some o
     |.inr o=>some o
    |.inr o=>some o
  |.inr o=>some o
end
mutual
def C3:Nat->Aa->Aa->Bool->Int->Option (Unit ⊕ Bool)
 |0,_,_,_,_=>none
 |n+1,a_,b,offsets,k =>
  bif (decide (k<(a_.Kids.length:Int))) then
   (gi a_.Kids k).bind fun x =>
   (gi b.Kids k).bind fun x1 =>
   (BJ n x x1 offsets).bind fun same =>
   bif (!same) then
    some (.inr false)
   else
    C3 n a_ b offsets (À (k+1))
  else
   some (.inl ())
def BJ:Nat->Aa->Aa->Bool->Option Bool
 |0,_,_,_=>none
 |n+1,a_,b,offsets =>
  ((bif (a_.Op != b.Op) then
   some true
  else
   bif (a_.Op == 1) then
    bif (a_.N != b.N) then
     some true
    else
     bif (decide (2<=a_.Op)) then
      bif (decide (a_.Op<=4)) then
       bif (!decide (a_.S=b.S)) then
        some true
       else
        bif offsets then
         some (a_.At != b.At)
        else
         some false
      else
       bif offsets then
        some (a_.At != b.At)
       else
        some false
     else
      bif offsets then
       some (a_.At != b.At)
      else
       some false
   else
    bif (decide (2<=a_.Op)) then
     bif (decide (a_.Op<=4)) then
      bif (!decide (a_.S=b.S)) then
       some true
      else
       bif offsets then
        some (a_.At != b.At)
       else
        some false
     else
      bif offsets then
       some (a_.At != b.At)
      else
       some false
    else
     bif offsets then
      some (a_.At != b.At)
     else
      some false
  ):Option Bool).bind fun v52 =>
   bif v52 then
    some false
   else
    ((bif (decide (1<=a_.Op)) then
     some (decide (a_.Op<=3))
    else
     some false
    ):Option Bool).bind fun v60 =>
     bif v60 then
      some true
     else
      bif ((a_.Kids.length:Int) != (b.Kids.length:Int)) then
       some false
      else
       ((C3 n a_ b offsets 0
       ):Option (Unit ⊕ Bool)).bind fun y2=>match y2 with
       |.inl _ =>
        some true
       |.inr o=>some o
end
def Cq (p:Aj)(n_:Int):Option (Unit×Aj) :=
 ((bif p.bad then
  some true
 else
  bif (decide (n_<0)) then
   some true
  else
   some (decide (999999999999999<n_))
 ):Option Bool).bind fun p1 =>
  (some [(Ab.mk 2 0 ⟨#[]⟩ n_)]).bind fun l =>
  (B4 41 p.l l).bind fun l1 =>
  some ((),(Aj.mk l1 p1))
def Cc:Nat->Â->Int->Bool->Option Bool
 |0,_,_,_=>none
 |n+1,s,v19,p3 =>
  bif (decide (v19<(s.size:Int))) then
   ((bif p3 then
    some true
   else
    (gb s v19).bind fun c =>
    bif (c != 10) then
     bif (decide (c<32)) then
      some true
     else
      some (decide (126<c))
    else
     some false
   ):Option Bool).bind fun p4 =>
    Cc n s (À (v19+1)) p4
  else
   some p3
def Dc (n:Nat)(p:Aj)(s:Â):Option (Unit×Aj) :=
 ((bif p.bad then
  some true
 else
  some (decide (200<(s.size:Int)))
 ):Option Bool).bind fun p1 =>
  ((Cc n s 0 p1
  ):Option Bool).bind fun p2 =>
   (some [(Ab.mk 3 0 s 0)]).bind fun l =>
   (B4 41 p.l l).bind fun l1 =>
   some ((),(Aj.mk l1 p2))
def Cr (c:Int):Option Bool :=
 ((bif (decide (97<=(bits .or .u8 c 32))) then
  bif (decide ((bits .or .u8 c 32)<=122)) then
   some true
  else
   some (c == 95)
 else
  some (c == 95)
 ):Option Bool).bind fun v2 =>
  some v2
def B0:Nat->Â->Bool->Int->Option Bool
 |0,_,_,_=>none
 |n+1,s,ok2,v17 =>
  bif (decide (v17<(s.size:Int))) then
   ((bif ok2 then
    (gb s v17).bind fun c =>
    (Cr c).bind fun n_ =>
    bif n_ then
     some true
    else
     bif (decide (0<v17)) then
      bif (decide (48<=c)) then
       some (decide (c<=57))
      else
       some false
     else
      some false
   else
    some false
   ):Option Bool).bind fun ok3 =>
    B0 n s ok3 (À (v17+1))
  else
   some ok2
def Cs (n:Nat)(p:Aj)(s:Â):Option (Unit×Aj) :=
 ((bif (decide (0<(s.size:Int))) then
  some (decide ((s.size:Int)<=32))
 else
  some false
 ):Option Bool).bind fun ok =>
  ((B0 n s ok 0
  ):Option Bool).bind fun ok1 =>
   ((bif p.bad then
    some true
   else
    some (!ok1)
   ):Option Bool).bind fun p1 =>
    (some [(Ab.mk 1 0 s 0)]).bind fun l =>
    (B4 41 p.l l).bind fun l1 =>
    some ((),(Aj.mk l1 p1))
def Cw:Nat->(List Â)->Int->(List Ab)->Option (List Ab)
 |0,_,_,_=>none
 |n+1,l,v8,p2 =>
  bif (decide (v8<(l.length:Int))) then
   (gi l v8).bind fun x =>
   (some [(Ab.mk 4 0 x 0)]).bind fun l1 =>
   (B4 41 p2 l1).bind fun l2 =>
   Cw n l (À (v8+1)) l2
  else
   some p2
def A3 (n:Nat)(p:Aj)(l:(List Â)):Option (Unit×Aj) :=
 ((Cw n l 0 p.l
 ):Option (List Ab)).bind fun p1 =>
  some ((),(Aj.mk p1 p.bad))
def DO:Nat->(List Ar)->Aa->Int->Option (Unit ⊕ Int)
 |0,_,_,_=>none
 |n+1,o_,e,v15 =>
  bif (decide (v15<(o_.length:Int))) then
   (gi o_ v15).bind fun x =>
   bif (x.op == e.Op) then
    some (.inr x.level)
   else
    DO n o_ e (À (v15+1))
  else
   some (.inl ())
def HO (n:Nat)(e:Aa):Option Int :=
 bif (e.Op == 20) then
  some 0
 else
  bif (e.Op == 5) then
   some 3
  else
   bif (e.Op == 6) then
    some 7
   else
    (CT).bind fun o_ =>
    ((DO n o_ e 0
    ):Option (Unit ⊕ Int)).bind fun y=>match y with
    |.inl _ =>
     some 8
    |.inr o=>some o
def Ds (p:(List Ab))(p1:Bool)(e:Int)(e1:Int)(e2:Â)(e3:(List Aa))(e4:Int)(b:Ar):Option Bool :=
 some (b.op == e)
def AK:Nat->(List Ar)->(List Ab)->Bool->Int->Int->Â->(List Aa)->Int->Int->Option (Unit ⊕ Int)
 |0,_,_,_,_,_,_,_,_,_=>none
 |n+1,s,p,p1,e,e1,e2,e3,e4,v8 =>
  bif (decide (v8<(s.length:Int))) then
   (gi s v8).bind fun x =>
   (Ds p p1 e e1 e2 e3 e4 x).bind fun e6 =>
   bif e6 then
    some (.inr v8)
   else
    AK n s p p1 e e1 e2 e3 e4 (À (v8+1))
  else
   some (.inl ())
def BD (n:Nat)(p:(List Ab))(p1:Bool)(e:Int)(e1:Int)(e2:Â)(e3:(List Aa))(e4:Int)(s:(List Ar)):Option Int :=
 ((AK n s p p1 e e1 e2 e3 e4 0
 ):Option (Unit ⊕ Int)).bind fun y=>match y with
 |.inl _ =>
  some (-1)
 |.inr o=>some o
mutual
def Bo:Nat->Aa->(List Â)->Int->(List Ab)->Bool->Option ((List Ab)×Bool)
 |0,_,_,_,_,_=>none
 |n+1,e,l,v89,p3,p4 =>
  bif (decide (v89<(e.Kids.length:Int))) then
   (gi e.Kids v89).bind fun x =>
   bif (decide (0<v89)) then
    (some [⟨#[44]⟩]).bind fun l2 =>
    (A3 n (Aj.mk p3 p4) l2).bind fun s2 =>
    (Az n s2.2 x 0).bind fun o_ =>
    Bo n e l (À (v89+1)) o_.2.l o_.2.bad
   else
    (Az n (Aj.mk p3 p4) x 0).bind fun o_1 =>
    Bo n e l (À (v89+1)) o_1.2.l o_1.2.bad
  else
   some (p3,p4)
def Be:Nat->Aj->Aa->Option (Unit×Aj)
 |0,_,_=>none
 |n+1,p,e =>
  bif (e.Op == 1) then
   (Cq p e.N).bind fun n_ =>
   some ((),n_.2)
  else
   bif (e.Op == 2) then
    (Dc n p e.S).bind fun t =>
    some ((),t.2)
   else
    bif (e.Op == 3) then
     (Cs n p e.S).bind fun n_1 =>
     some ((),n_1.2)
    else
     bif (e.Op == 4) then
      (Cs n p e.S).bind fun n_2 =>
      (some [⟨#[40]⟩]).bind fun l =>
      (A3 n n_2.2 l).bind fun s =>
      ((Bo n e l 0 s.2.l s.2.bad
      ):Option ((List Ab)×Bool)).bind fun y=>match y with
      |(p1,p2) =>
       (some [⟨#[41]⟩]).bind fun l1 =>
       (A3 n (Aj.mk p1 p2) l1).bind fun s1 =>
       some ((),s1.2)
     else
      ((bif (e.Op == 5) then
       some (e.Op == 5)
      else
       bif (e.Op == 6) then
        some (e.Op == 6)
       else
        some (e.Op == 20)
      ):Option Bool).bind fun v106 =>
       bif v106 then
        bif ((e.Kids.length:Int) != ((Jo [(5,1),(6,1),(20,3)] e.Op).1)) then
         some ((),(Aj.mk p.l true))
        else
         bif (e.Op == 5) then
          (some [⟨#[33]⟩]).bind fun l3 =>
          (A3 n p l3).bind fun s3 =>
          (gi e.Kids 0).bind fun x1 =>
          (Az n s3.2 x1 3).bind fun o_2 =>
          some ((),o_2.2)
         else
          bif (e.Op == 6) then
           (some [⟨#[45]⟩]).bind fun l4 =>
           (A3 n p l4).bind fun s4 =>
           (gi e.Kids 0).bind fun x2 =>
           (Az n s4.2 x2 7).bind fun o_3 =>
           some ((),o_3.2)
          else
           (gi e.Kids 0).bind fun x3 =>
           (Az n p x3 1).bind fun o_4 =>
           (some [⟨#[63]⟩]).bind fun l5 =>
           (A3 n o_4.2 l5).bind fun s5 =>
           (gi e.Kids 1).bind fun x4 =>
           (Az n s5.2 x4 0).bind fun o_5 =>
           (some [⟨#[58]⟩]).bind fun l6 =>
           (A3 n o_5.2 l6).bind fun s6 =>
           (gi e.Kids 2).bind fun x5 =>
           (Az n s6.2 x5 0).bind fun o_6 =>
           some ((),o_6.2)
       else
        (CT).bind fun o_7 =>
        (BD n p.l p.bad e.Op e.N e.S e.Kids e.At o_7).bind fun k =>
        ((bif (decide (k<0)) then
         some true
        else
         some ((e.Kids.length:Int) != 2)
        ):Option Bool).bind fun v24 =>
         bif v24 then
          some ((),(Aj.mk p.l true))
         else
          (CT).bind fun o_8 =>
          (gi o_8 k).bind fun x6 =>
          ((bif (x6.level == 4) then
           some 5
          else
           some x6.level
          ):Option Int).bind fun left =>
           (gi e.Kids 0).bind fun x7 =>
           (Az n p x7 left).bind fun o_9 =>
           (some [x6.sign]).bind fun l7 =>
           (A3 n o_9.2 l7).bind fun s7 =>
           (gi e.Kids 1).bind fun x8 =>
           (Az n s7.2 x8 (if (À (x6.level+1)) > left then (À (x6.level+1)) else left)).bind fun o_10 =>
           some ((),o_10.2)
def Az:Nat->Aj->Aa->Int->Option (Unit×Aj)
 |0,_,_,_=>none
 |n+1,p,e,need =>
  (HO n e).bind fun l =>
  bif (decide (need<=l)) then
   (Be n p e).bind fun e1 =>
   some ((),e1.2)
  else
   (some [⟨#[40]⟩]).bind fun l1 =>
   (A3 n p l1).bind fun s =>
   (Be n s.2 e).bind fun e2 =>
   (some [⟨#[41]⟩]).bind fun l2 =>
   (A3 n e2.2 l2).bind fun s1 =>
   some ((),s1.2)
end
def B5:Nat->(List Ai)->(List Ab)->Int->Option (((List Ai)×(List Ab)×Int) ⊕ (Ex Ap ((List Ai)×(List Ab)×Int) Unit))
 |0,_,_,_=>none
 |n+1,out2,q6,q7 =>
  (gi q6 0).bind fun x =>
  bif (x.Kind != 5) then
   (Bf n (Ae.mk q6 q7) 1).bind fun y1=>match y1 with
   |.ok f s =>
    (B4 73 out2 [f]).bind fun out3 =>
    B5 n out3 s.l s.forms
   |.pan e1 s1=>some (.inr (.pan e1 (out2,s1.l,s1.forms)))
  else
   some (.inl (out2,q6,q7))
def Gb (n:Nat)(q:Int)(q1:Int)(out:(List Ai))(bad:Int)(bad1:Int)(q2:(List Ab))(q3:Int):Option (Ex Ap ((List Ai)×(List Ab)×Int) Unit) :=
 ((B5 n out q2 q3
 ):Option (((List Ai)×(List Ab)×Int) ⊕ (Ex Ap ((List Ai)×(List Ab)×Int) Unit))).bind fun y=>match y with
 |.inl (out1,q4,q5) =>
  some (.ok () (out1,q4,q5))
 |.inr o=>some o
def Ea (n:Nat)(q:Int)(q1:Int)(out:(List Ai))(src:Â):Option (Am×(List Ai)) :=
 (OA src).bind fun t =>
 bif (t.2.E != 0) then
  some (t.2,out)
 else
  (Gb n q q1 out t.2.At t.2.E t.1 0).bind fun y=>match y with
  |.ok f c =>
   (gi c.2.1 0).bind fun x =>
   bif (x.Kind != 5) then
    (AL (Ae.mk c.2.1 c.2.2) 5).bind fun y1=>match y1 with
    |.ok f1 s =>
     some ((Am.mk 0 0),c.1)
    |.pan e1 s1=>some ((Am.mk e1.At e1.E),c.1)
   else
    some ((Am.mk 0 0),c.1)
  |.pan e c1=>some ((Am.mk e.At e.E),c1.1)
def Dk (n:Nat)(src:Â):Option ((List Ai)×Am) :=
 (Ea n 0 0 [] src).bind fun bad =>
 bif (bad.1.E != 0) then
  some ([],bad.1)
 else
  some (bad.2,bad.1)
mutual
def Cd:Nat->Ai->Int->(List Ab)->Bool->Option ((List Ab)×Bool)
 |0,_,_,_,_=>none
 |n+1,f,v97,p5,p6 =>
  bif (decide (v97<(f.Body.length:Int))) then
   (gi f.Body v97).bind fun x =>
   (Bz n (Aj.mk p5 p6) x).bind fun f1 =>
   Cd n f (À (v97+1)) f1.2.l f1.2.bad
  else
   some (p5,p6)
def AG:Nat->Ai->Int->(List Ab)->Bool->Option ((List Ab)×Bool)
 |0,_,_,_,_=>none
 |n+1,f,v15,p7,p8 =>
  bif (decide (v15<(f.Args.length:Int))) then
   (gi f.Args v15).bind fun x1 =>
   bif (x1.Kind == 1) then
    (Cs n (Aj.mk p7 p8) x1.S).bind fun n_1 =>
    AG n f (À (v15+1)) n_1.2.l n_1.2.bad
   else
    bif (x1.Kind == 2) then
     bif (decide (x1.N<0)) then
      (some [⟨#[45]⟩]).bind fun l3 =>
      (A3 n (Aj.mk p7 p8) l3).bind fun s3 =>
      (Cq s3.2 (if 0 > (À (0-x1.N)) then 0 else (À (0-x1.N)))).bind fun n_2 =>
      ((bif n_2.2.bad then
       some true
      else
       some (decide (x1.N<(-999999999999999)))
      ):Option Bool).bind fun p9 =>
       AG n f (À (v15+1)) n_2.2.l p9
     else
      (Cq (Aj.mk p7 p8) x1.N).bind fun n_3 =>
      AG n f (À (v15+1)) n_3.2.l n_3.2.bad
    else
     bif (x1.Kind == 3) then
      (Dc n (Aj.mk p7 p8) x1.S).bind fun t =>
      AG n f (À (v15+1)) t.2.l t.2.bad
     else
      bif (x1.Kind == 4) then
       (some [⟨#[45,62]⟩]).bind fun l4 =>
       (A3 n (Aj.mk p7 p8) l4).bind fun s4 =>
       AG n f (À (v15+1)) s4.2.l s4.2.bad
      else
       bif (x1.Kind == 5) then
        (some [⟨#[40]⟩]).bind fun l5 =>
        (A3 n (Aj.mk p7 p8) l5).bind fun s5 =>
        (Be n s5.2 x1.E).bind fun e3 =>
        (some [⟨#[41]⟩]).bind fun l6 =>
        (A3 n e3.2 l6).bind fun s6 =>
        AG n f (À (v15+1)) s6.2.l s6.2.bad
       else
        AG n f (À (v15+1)) p7 true
  else
   some (p7,p8)
def Bz:Nat->Aj->Ai->Option (Unit×Aj)
 |0,_,_=>none
 |n+1,p,f =>
  (Cs n p f.Word).bind fun n_ =>
  ((AG n f 0 n_.2.l n_.2.bad
  ):Option ((List Ab)×Bool)).bind fun y=>match y with
  |(p1,p2) =>
   bif ((f.Body.length:Int) == 0) then
    (some [⟨#[59]⟩]).bind fun l =>
    (A3 n (Aj.mk p1 p2) l).bind fun s =>
    some ((),s.2)
   else
    (some [⟨#[123]⟩]).bind fun l1 =>
    (A3 n (Aj.mk p1 p2) l1).bind fun s1 =>
    ((Cd n f 0 s1.2.l s1.2.bad
    ):Option ((List Ab)×Bool)).bind fun y1=>match y1 with
    |(p3,p4) =>
     (some [⟨#[125]⟩]).bind fun l2 =>
     (A3 n (Aj.mk p3 p4) l2).bind fun s2 =>
     some ((),s2.2)
end
def DP:Nat->(List Ai)->Int->(List Ab)->Bool->Option ((List Ab)×Bool)
 |0,_,_,_,_=>none
 |n+1,l,v14,q2,q3 =>
  bif (decide (v14<(l.length:Int))) then
   (gi l v14).bind fun x =>
   (Bz n (Aj.mk q2 q3) x).bind fun f1 =>
   DP n l (À (v14+1)) f1.2.l f1.2.bad
  else
   some (q2,q3)
def Jl (n:Nat)(l:(List Ai)):Option (ByteArray×Int) :=
 ((DP n l 0 [] false
 ):Option ((List Ab)×Bool)).bind fun y=>match y with
 |(q,q1) =>
  bif q1 then
   some (⟨#[]⟩,1)
  else
   (NK q).bind fun s =>
   (Dk n s).bind fun f =>
   bif (f.2.E != 0) then
    some (⟨#[]⟩,2)
   else
    some (s,0)
def FJ (m_:Al)(x:(List Int)):Option Int :=
 (gi x 0).bind fun x1 =>
 some (À (0-x1))
def EZ (x:Int)(y:Int):Option (Int×Int) :=
 some ((IntKind.u64.wrap ((IntKind.u64.wrap ((IntKind.u64.wrap ((x.fdiv (2 ^ min (32:Int).toNat IntKind.u64.bits))*(y.fdiv (2 ^ min (32:Int).toNat IntKind.u64.bits))))+((IntKind.u64.wrap ((IntKind.u64.wrap ((x.fdiv (2 ^ min (32:Int).toNat IntKind.u64.bits))*(bits .and .u64 y 4294967295)))+((IntKind.u64.wrap ((bits .and .u64 x 4294967295)*(bits .and .u64 y 4294967295))).fdiv (2 ^ min (32:Int).toNat IntKind.u64.bits)))).fdiv (2 ^ min (32:Int).toNat IntKind.u64.bits))))+((IntKind.u64.wrap ((bits .and .u64 (IntKind.u64.wrap ((IntKind.u64.wrap ((x.fdiv (2 ^ min (32:Int).toNat IntKind.u64.bits))*(bits .and .u64 y 4294967295)))+((IntKind.u64.wrap ((bits .and .u64 x 4294967295)*(bits .and .u64 y 4294967295))).fdiv (2 ^ min (32:Int).toNat IntKind.u64.bits)))) 4294967295)+(IntKind.u64.wrap ((bits .and .u64 x 4294967295)*(y.fdiv (2 ^ min (32:Int).toNat IntKind.u64.bits)))))).fdiv (2 ^ min (32:Int).toNat IntKind.u64.bits)))),(IntKind.u64.wrap (x*y)))
def DB (a_:Int)(b:Int):Option Int :=
 (EZ (IntKind.u64.wrap (if (À (0-a_)) > a_ then (À (0-a_)) else a_)) (IntKind.u64.wrap (if (À (0-b)) > b then (À (0-b)) else b))).bind fun m_ =>
 ((bif (m_.1 == 0) then
  some (decide (m_.2<999999999999999))
 else
  some false
 ):Option Bool).bind fun v27 =>
  ((bif v27 then
   some (À m_.2)
  else
   some 999999999999999
  ):Option Int).bind fun n_ =>
   bif (!((decide (a_<0)) == (decide (b<0)))) then
    some (À (0-n_))
   else
    some n_
def FI (m_:Al)(x:(List Int)):Option Int :=
 (gi x 0).bind fun x1 =>
 (gi x 1).bind fun x2 =>
 (DB x1 x2).bind fun t =>
 some t
def Di (n_:Int):Option Int :=
 some (if (if 999999999999999<n_ then 999999999999999 else n_) > (-999999999999999) then (if 999999999999999<n_ then 999999999999999 else n_) else (-999999999999999))
def FH (m_:Al)(x:(List Int)):Option Int :=
 (gi x 0).bind fun x1 =>
 (gi x 1).bind fun x2 =>
 (Di (À (x1+x2))).bind fun n_ =>
 some n_
def FK (n_:Int):Option Int :=
 some (if (if 41667<n_ then 41667 else n_) > 0 then (if 41667<n_ then 41667 else n_) else 0)
def DC (d:Int)(n_:Int):Option Int :=
 bif (d == 41667) then
  some d
 else
  (FK (À (d+n_))).bind fun d1 =>
  some d1
def FG (m_:Al)(x:(List Int)):Option Int :=
 (gi x 0).bind fun x1 =>
 (gi x 1).bind fun x2 =>
 (DC x1 x2).bind fun m_1 =>
 some m_1
def FF (m_:Al)(x:(List Int)):Option Int :=
 (gi x 0).bind fun x1 =>
 (gi x 1).bind fun x2 =>
 (Di (À (x1-x2))).bind fun n_ =>
 some n_
def FE (m_:Al)(x:(List Int)):Option Int :=
 (gi x 0).bind fun x1 =>
 (gi x 1).bind fun x2 =>
 (DC x1 (À (0-x2))).bind fun m_1 =>
 some m_1
def FD (m_:Al)(x:(List Int)):Option Int :=
 (gi x 0).bind fun x1 =>
 (gi x 1).bind fun x2 =>
 some (À (x1-x2))
def FC (m_:Al)(x:(List Int)):Option Int :=
 (gi x 0).bind fun x1 =>
 some (À (1-x1))
def FB (m_:Al)(x:(List Int)):Option Int :=
 (gi x 0).bind fun x1 =>
 (gi x 1).bind fun x2 =>
 some (bits .and .i64 x1 x2)
def Fv (m_:Al)(x:(List Int)):Option Int :=
 (gi x 0).bind fun x1 =>
 (gi x 1).bind fun x2 =>
 some (bits .or .i64 x1 x2)
def Fu (m_:Al)(x:(List Int)):Option Int :=
 (gi x 0).bind fun x1 =>
 (FK x1).bind fun d =>
 some d
def Ft (m_:Al)(x:(List Int)):Option Int :=
 (gi x 0).bind fun x1 =>
 some (if (if 1000<x1 then 1000 else x1) > 0 then (if 1000<x1 then 1000 else x1) else 0)
def Fj (m_:Al)(x:(List Int)):Option Int :=
 (gi x 0).bind fun x1 =>
 (gi x (À (2-x1))).bind fun x2 =>
 some x2
def Fi (m_:Al)(x:(List Int)):Option Int :=
 (gi x 0).bind fun x1 =>
 (gi x 1).bind fun x2 =>
 some (if x2<x1 then x2 else x1)
def Fh (m_:Al)(x:(List Int)):Option Int :=
 (gi x 0).bind fun x1 =>
 (gi x 1).bind fun x2 =>
 some (if x2 > x1 then x2 else x1)
def Fq (a_:Int)(b:Int):Option Bool :=
 some (decide (a_<b))
def Fp (a_:Int)(b:Int):Option Bool :=
 some (decide (a_<=b))
def Fo (a_:Int)(b:Int):Option Bool :=
 some (decide (b<a_))
def Fm (a_:Int)(b:Int):Option Bool :=
 some (decide (b<=a_))
def Fl (a_:Int)(b:Int):Option Bool :=
 some (a_ == b)
def Fk (a_:Int)(b:Int):Option Bool :=
 some (a_ != b)
def Bs:Nat->Al->Int->Int->Int->Int->Option Int
 |0,_,_,_,_,_=>none
 |n+1,m_,kind,who,best1,v14 =>
  bif (decide (v14<(m_.d.Facts.length:Int))) then
   (gi m_.d.Facts v14).bind fun x1 =>
   ((bif (x1.Kind == kind) then
    bif (x1.Who == who) then
     bif (decide (x1.Known<=m_.known)) then
      bif (decide (best1<0)) then
       some true
      else
       (gi m_.d.Facts best1).bind fun x2 =>
       some (decide (x2.Known<=x1.Known))
     else
      some false
    else
     some false
   else
    some false
   ):Option Bool).bind fun v51 =>
    bif v51 then
     Bs n m_ kind who v14 (À (v14+1))
    else
     Bs n m_ kind who best1 (À (v14+1))
  else
   some best1
theorem DY (n:Nat)(m_:Al)(kind:Int)(who:Int)(best1:Int)(v14:Int):Bs (n+1) m_ kind who best1 v14 =
 bif (decide (v14<(m_.d.Facts.length:Int))) then
  (gi m_.d.Facts v14).bind fun x1 =>
  ((bif (x1.Kind == kind) then
   bif (x1.Who == who) then
    bif (decide (x1.Known<=m_.known)) then
     bif (decide (best1<0)) then
      some true
     else
      (gi m_.d.Facts best1).bind fun x2 =>
      some (decide (x2.Known<=x1.Known))
    else
     some false
   else
    some false
  else
   some false
  ):Option Bool).bind fun v51 =>
   bif v51 then
    Bs n m_ kind who v14 (À (v14+1))
   else
    Bs n m_ kind who best1 (À (v14+1))
 else
  some best1:=by rw [Bs]
def CK (n:Nat)(m_:Al)(kind:Int)(who:Int):Option Int :=
 ((Bs n m_ kind who (-1) 0
 ):Option Int).bind fun best =>
  bif (decide (best<0)) then
   some 41667
  else
   (gi m_.d.Facts best).bind fun x =>
   some x.Day
def D7 (b:Bool):Option Int :=
 bif b then
  some 1
 else
  some 0
def Fs (n:Nat)(k:Int)(m_:Al)(x:(List Int)):Option Int :=
 (gi x 0).bind fun x1 =>
 (CK n m_ (À (k+1)) x1).bind fun f =>
 some f
def Eu (m_:Al)(x:(List Int)):Option Int :=
 (gi x 0).bind fun x1 =>
 (gi x 1).bind fun x2 =>
 (Fq x1 x2).bind fun o_ =>
 (D7 o_).bind fun f =>
 some f
def Et (m_:Al)(x:(List Int)):Option Int :=
 (gi x 0).bind fun x1 =>
 (gi x 1).bind fun x2 =>
 (Fp x1 x2).bind fun o_ =>
 (D7 o_).bind fun f =>
 some f
def Es (m_:Al)(x:(List Int)):Option Int :=
 (gi x 0).bind fun x1 =>
 (gi x 1).bind fun x2 =>
 (Fo x1 x2).bind fun o_ =>
 (D7 o_).bind fun f =>
 some f
def Er (m_:Al)(x:(List Int)):Option Int :=
 (gi x 0).bind fun x1 =>
 (gi x 1).bind fun x2 =>
 (Fm x1 x2).bind fun o_ =>
 (D7 o_).bind fun f =>
 some f
def Ep (m_:Al)(x:(List Int)):Option Int :=
 (gi x 0).bind fun x1 =>
 (gi x 1).bind fun x2 =>
 (Fl x1 x2).bind fun o_ =>
 (D7 o_).bind fun f =>
 some f
def DX (m_:Al)(x:(List Int)):Option Int :=
 (gi x 0).bind fun x1 =>
 (gi x 1).bind fun x2 =>
 (Fk x1 x2).bind fun o_ =>
 (D7 o_).bind fun f =>
 some f
def EC (op:Int):Option Int :=
 ((bif (op == 1) then
  some (op == 1)
 else
  bif (op == 2) then
   some (op == 2)
  else
   some (op == 3)
 ):Option Bool).bind fun v4 =>
  bif v4 then
   some 0
  else
   ((bif (op == 5) then
    some (op == 5)
   else
    some (op == 6)
   ):Option Bool).bind fun v8 =>
    bif v8 then
     some 1
    else
     bif (op == 20) then
      some 3
     else
      bif (op == 4) then
       some (-1)
      else
       some 2
def AY (s:(List Af))(s1:(List (ByteArray×Int)))(e:Int)(e1:Int)(e2:Â)(e3:(List Aa))(e4:Int)(o_:Int)(o_1:Â)(o_2:(List Int))(o_3:Int)(o_4:Do)(p:Int)(p1:Int)(x:Int):Option (Int×Af×Am) :=
 some (0,(Af.mk 0 ⟨#[]⟩ [] 0 Do.nil),(Am.mk e4 x))
def BN:Nat->(List Int)->(List Int)->Int->Option (Unit ⊕ Bool)
 |0,_,_,_=>none
 |n+1,s1,s2,v13 =>
  bif (decide (v13<(s1.length:Int))) then
   (gi s1 v13).bind fun x =>
   (gi s2 v13).bind fun x1 =>
   bif (x != x1) then
    some (.inr false)
   else
    BN n s1 s2 (À (v13+1))
  else
   some (.inl ())
theorem GA (n:Nat)(s1:(List Int))(s2:(List Int))(v13:Int):BN (n+1) s1 s2 v13 =
 bif (decide (v13<(s1.length:Int))) then
  (gi s1 v13).bind fun x =>
  (gi s2 v13).bind fun x1 =>
  bif (x != x1) then
   some (.inr false)
  else
   BN n s1 s2 (À (v13+1))
 else
  some (.inl ()):=by rw [BN]
def Dx (n:Nat)(s1:(List Int))(s2:(List Int)):Option Bool :=
 bif ((s1.length:Int) != (s2.length:Int)) then
  some false
 else
  ((BN n s1 s2 0
  ):Option (Unit ⊕ Bool)).bind fun y=>match y with
  |.inl _ =>
   some true
  |.inr o=>some o
mutual
def AP:Nat->Ba->Aa->(List Int)->Bool->Bool->Int->Option ((Bool×Bool) ⊕ (Int×Af×Am))
 |0,_,_,_,_,_,_=>none
 |n+1,s,e,types,known1,fits1,v121 =>
  bif (decide (v121<(s.ops.length:Int))) then
   (gi s.ops v121).bind fun x =>
   ((bif (x.op != e.Op) then
    some true
   else
    bif (x.op == 4) then
     some (!decide (x.name=e.S))
    else
     some false
   ):Option Bool).bind fun v141 =>
    bif v141 then
     AP n s e types known1 fits1 (À (v121+1))
    else
     ((bif fits1 then
      some true
     else
      some ((x.args.length:Int) == (types.length:Int))
     ):Option Bool).bind fun fits2 =>
      (Dx n x.args types).bind fun e9 =>
      bif e9 then
       some (.inr (x.kind,x,(Am.mk 0 0)))
      else
       AP n s e types true fits2 (À (v121+1))
  else
   some (.inl (known1,fits1))
def Bq:Nat->Aa->Ba->(List Int)->Int->Option ((List Int) ⊕ (Int×Af×Am))
 |0,_,_,_,_=>none
 |n+1,e,s,types1,v52 =>
  bif (decide (v52<(e.Kids.length:Int))) then
   (gi e.Kids v52).bind fun x1 =>
   (A8 n s x1).bind fun f7 =>
   bif (f7.2.2.E != 0) then
    some (.inr (0,(Af.mk 0 ⟨#[]⟩ [] 0 Do.nil),f7.2.2))
   else
    (some [f7.1]).bind fun l =>
    (B4 9 types1 l).bind fun l1 =>
    Bq n e s l1 (À (v52+1))
  else
   some (.inl types1)
def A8:Nat->Ba->Aa->Option (Int×Af×Am)
 |0,_,_=>none
 |n+1,s,e =>
  (EC e.Op).bind fun n_ =>
  ((bif (decide (e.Op<1)) then
   some true
  else
   bif (decide (20<e.Op)) then
    some true
   else
    bif (decide (0<=n_)) then
     some ((e.Kids.length:Int) != n_)
    else
     some false
  ):Option Bool).bind fun v43 =>
   bif v43 then
    (AY s.ops s.names e.Op e.N e.S e.Kids e.At 0 ⟨#[]⟩ [] 0 Do.nil 0 0 1).bind fun f =>
    some (f.1,f.2.1,f.2.2)
   else
    ((Bq n e s [] 0
    ):Option ((List Int) ⊕ (Int×Af×Am))).bind fun y1=>match y1 with
    |.inl types =>
     bif (e.Op == 1) then
      ((bif (decide (e.N<0)) then
       some true
      else
       some (decide (999999999999999<e.N))
      ):Option Bool).bind fun v84 =>
       bif v84 then
        (AY s.ops s.names e.Op e.N e.S e.Kids e.At 0 ⟨#[]⟩ [] 0 Do.nil 0 0 1).bind fun f1 =>
        some (f1.1,f1.2.1,f1.2.2)
       else
        some (1,(Af.mk 0 ⟨#[]⟩ [] 0 Do.nil),(Am.mk 0 0))
     else
      bif (e.Op == 2) then
       (AY s.ops s.names e.Op e.N e.S e.Kids e.At 0 ⟨#[]⟩ [] 0 Do.nil 0 0 7).bind fun f2 =>
       some (f2.1,f2.2.1,f2.2.2)
      else
       bif (e.Op == 3) then
        bif (C5 s.names e.S).2 then
         some ((C5 s.names e.S).1,(Af.mk 0 ⟨#[]⟩ [] 0 Do.nil),(Am.mk 0 0))
        else
         (AY s.ops s.names e.Op e.N e.S e.Kids e.At 0 ⟨#[]⟩ [] 0 Do.nil 0 0 6).bind fun f3 =>
         some (f3.1,f3.2.1,f3.2.2)
       else
        ((AP n s e types false false 0
        ):Option ((Bool×Bool) ⊕ (Int×Af×Am))).bind fun y3=>match y3 with
        |.inl (known,fits) =>
         ((bif (e.Op == 4) then
          some (!known)
         else
          some false
         ):Option Bool).bind fun v160 =>
          bif v160 then
           (AY s.ops s.names e.Op e.N e.S e.Kids e.At 0 ⟨#[]⟩ [] 0 Do.nil 0 0 6).bind fun f4 =>
           some (f4.1,f4.2.1,f4.2.2)
          else
           ((bif (e.Op == 4) then
            some (!fits)
           else
            some false
           ):Option Bool).bind fun v173 =>
            bif v173 then
             (AY s.ops s.names e.Op e.N e.S e.Kids e.At 0 ⟨#[]⟩ [] 0 Do.nil 0 0 1).bind fun f5 =>
             some (f5.1,f5.2.1,f5.2.2)
            else
             (AY s.ops s.names e.Op e.N e.S e.Kids e.At 0 ⟨#[]⟩ [] 0 Do.nil 0 0 7).bind fun f6 =>
             some (f6.1,f6.2.1,f6.2.2)
        |.inr o=>some o
    |.inr o=>some o
end
theorem D5 (n:Nat)(s:Ba)(e:Aa)(types:(List Int))(known1:Bool)(fits1:Bool)(v121:Int):AP (n+1) s e types known1 fits1 v121 =
 bif (decide (v121<(s.ops.length:Int))) then
  (gi s.ops v121).bind fun x =>
  ((bif (x.op != e.Op) then
   some true
  else
   bif (x.op == 4) then
    some (!decide (x.name=e.S))
   else
    some false
  ):Option Bool).bind fun v141 =>
   bif v141 then
    AP n s e types known1 fits1 (À (v121+1))
   else
    ((bif fits1 then
     some true
    else
     some ((x.args.length:Int) == (types.length:Int))
    ):Option Bool).bind fun fits2 =>
     (Dx n x.args types).bind fun e9 =>
     bif e9 then
      some (.inr (x.kind,x,(Am.mk 0 0)))
     else
      AP n s e types true fits2 (À (v121+1))
 else
  some (.inl (known1,fits1)):=by rw [AP]
theorem F2 (n:Nat)(e:Aa)(s:Ba)(types1:(List Int))(v52:Int):Bq (n+1) e s types1 v52 =
 bif (decide (v52<(e.Kids.length:Int))) then
  (gi e.Kids v52).bind fun x1 =>
  (A8 n s x1).bind fun f7 =>
  bif (f7.2.2.E != 0) then
   some (.inr (0,(Af.mk 0 ⟨#[]⟩ [] 0 Do.nil),f7.2.2))
  else
   (some [f7.1]).bind fun l =>
   (B4 9 types1 l).bind fun l1 =>
   Bq n e s l1 (À (v52+1))
 else
  some (.inl types1):=by rw [Bq]
def Gz (n:Nat)(d:Do)(m:Al)(x:List Int):Option Int:=match d with
 |.c 77=>FJ m x
 |.c 78=>FI m x
 |.c 80=>FH m x
 |.c 82=>FG m x
 |.c 84=>FF m x
 |.c 85=>FE m x
 |.c 86=>FD m x
 |.c 87=>FC m x
 |.c 88=>FB m x
 |.c 89=>Fv m x
 |.c 90=>Fu m x
 |.c 92=>Ft m x
 |.c 103=>Fj m x
 |.c 104=>Fi m x
 |.c 105=>Fh m x
 |.k k=>Fs n k m x
 |.is 95=>Eu m x
 |.is 96=>Et m x
 |.is 97=>Es m x
 |.is 98=>Er m x
 |.is 99=>Ep m x
 |.is 100=>DX m x
 |_=>none
mutual
def AS:Nat->Aa->Ba->Al->(List Int)->Int->Option (List Int)
 |0,_,_,_,_,_=>none
 |n+1,e,s,m_,x1,v35 =>
  bif (decide (v35<(e.Kids.length:Int))) then
   (gi e.Kids v35).bind fun x2 =>
   (AE n s x2 m_).bind fun v_ =>
   (some [v_]).bind fun l =>
   (B4 9 x1 l).bind fun l1 =>
   AS n e s m_ l1 (À (v35+1))
  else
   some x1
def AE:Nat->Ba->Aa->Al->Option Int
 |0,_,_,_=>none
 |n+1,s,e,m_ =>
  bif (e.Op == 1) then
   some e.N
  else
   bif (e.Op == 3) then
    some ((C5 [(⟨#[121,101,97,114]⟩,365),(⟨#[115,116,111,114,101,100]⟩,m_.d.Stored),(⟨#[110,101,118,101,114]⟩,41667),(⟨#[111,119,110,101,114]⟩,m_.d.Owner)] e.S).1)
   else
    ((AS n e s m_ [] 0
    ):Option (List Int)).bind fun x =>
     (A8 n s (Aa.mk e.Op e.N e.S e.Kids e.At)).bind fun f =>
     (gfn f.2.1.do_).bind fun d =>
     (Gz n d m_ x).bind fun r1 =>
     some r1
end
theorem EV (n:Nat)(e:Aa)(s:Ba)(m_:Al)(x1:(List Int))(v35:Int):AS (n+1) e s m_ x1 v35 =
 bif (decide (v35<(e.Kids.length:Int))) then
  (gi e.Kids v35).bind fun x2 =>
  (AE n s x2 m_).bind fun v_ =>
  (some [v_]).bind fun l =>
  (B4 9 x1 l).bind fun l1 =>
  AS n e s m_ l1 (À (v35+1))
 else
  some x1:=by rw [AS]
theorem DW (n:Nat)(s:Ba)(e:Aa)(m_:Al):AE (n+1) s e m_ =
 bif (e.Op == 1) then
  some e.N
 else
  bif (e.Op == 3) then
   some ((C5 [(⟨#[121,101,97,114]⟩,365),(⟨#[115,116,111,114,101,100]⟩,m_.d.Stored),(⟨#[110,101,118,101,114]⟩,41667),(⟨#[111,119,110,101,114]⟩,m_.d.Owner)] e.S).1)
  else
   ((AS n e s m_ [] 0
   ):Option (List Int)).bind fun x =>
    (A8 n s (Aa.mk e.Op e.N e.S e.Kids e.At)).bind fun f =>
    (gfn f.2.1.do_).bind fun d =>
    (Gz n d m_ x).bind fun r1 =>
    some r1:=by rw [AE]
abbrev hT (l:List Ab):PV:=hP l Ey
abbrev oT (l:List Ab):PV:=oP l Ey
abbrev hX (l:List Aa):PV:=hP l Bn
abbrev oX (l:List Aa):PV:=oP l Bn
abbrev hF (l:List Ai):PV:=hP l C6
abbrev oF (l:List Ai):PV:=oP l C6
abbrev hA (l:List Ao):PV:=hP l CS
abbrev oA (l:List Ao):PV:=oP l CS
abbrev hS (l:List Â):PV:=hP l BA
abbrev oS (l:List Â):PV:=oP l BA
abbrev hI (l:List Int):PV:=hP l Ay
abbrev oI (l:List Int):PV:=oP l Ay
abbrev hZ (l:List BS):PV:=hP l GW
abbrev hO (l:List Af):PV:=hP l Ah
abbrev hE (l:List Ar):PV:=hP l EE
abbrev oE (l:List Ar):PV:=oP l EE
end Go.Sp
namespace Go.Sp
open Go
def Ev {α:Type}(f:Nat->Option α)(a:α):Prop:=∃ N,∀ n,N<=n->f n=some a
namespace Ev
variable {α β:Type} {f:Nat->Option α} {a:α} {b:β}
theorem const {x:Option α}(h:x=some a):Ev (fun _=>x) a:=⟨0,fun _ _=>h⟩
theorem pure:Ev (fun _=>some a) a:=const rfl
theorem of (h:∀ n,f n=some a):Ev f a:=⟨0,fun n _=>h n⟩
theorem bind {g:Nat->α->Option β}(h:Ev f a)(k:Ev (fun n=>g n a) b):Ev (fun n=>(f n).bind (g n)) b:=by
 obtain⟨N,h⟩:=h
 obtain⟨M,k⟩:=k
 exact⟨max N M,fun n hn=>by
  show (f n).bind (g n)=some b
  rw [h n (by omega)];exact k n (by omega)⟩
theorem step {F:Nat->Option α}(e:∀ n,F (n+1)=f n)(h:Ev f a):Ev F a:=by
 obtain⟨N,h⟩:=h
 refine⟨N+1,fun n hn=>?_⟩
 obtain⟨m,rfl⟩:∃ m,n=m+1:=⟨n-1,by omega⟩
 rw [e];exact h m (by omega)
theorem congr {g:Nat->Option α}(h:Ev g a)(e:∀ n,f n=g n):Ev f a:=by
 obtain⟨N,h⟩:=h
 exact⟨N,fun n hn=>(e n).trans (h n hn)⟩
theorem get (h:Ev f a):∃ n,f n=some a:=by
 obtain⟨N,h⟩:=h
 exact⟨N,h N (Õ _)⟩
theorem uniq {a':α}(h:Ev f a)(k:Ev f a'):a=a':=by
 obtain⟨N,h⟩:=h
 obtain⟨M,k⟩:=k
 have:=(h (max N M) (by omega)).symm.trans (k (max N M) (by omega))
 exact Ac this
end Ev
theorem A2 {x:Int}(h1 : -9223372036854775808<=x)(h2:x<9223372036854775808):À x=x:=by
 unfold À;rw [IntKind.wrap_i64];omega
theorem Aeg {α:Type}(l:List α){k:Int}(hk:0<=k):gi l k=gi (l.drop k.toNat) 0:=by
 unfold gi
 rw [Ê hk,Ê (by decide),List.getElem?_drop];rfl
theorem As {α:Type}{l:List α}{k:Int}{x:α}(h:gi l k=some x):l.drop k.toNat=x::l.drop (k+1).toNat/\0<=k/\k<(l.length:Int):=by
 unfold gi at h
 split at h
 . rename_i h0
   obtain⟨h1,h2⟩:=List.getElem?_eq_some_iff.1 h
   refine⟨?_,h0,by omega⟩
   rw [å h1,h2,show (k+1).toNat=k.toNat+1 by omega]
 . cases h
end Go.Sp
