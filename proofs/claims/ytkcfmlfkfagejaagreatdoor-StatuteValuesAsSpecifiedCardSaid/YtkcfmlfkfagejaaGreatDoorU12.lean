/-
  Chapter 33 as plain functions, first part: parsing, printing, the operations, find and value; no program. (Printed by lift.py, but for what the lexer answers.) Plain functions with fuel: what holds for all large fuel. No program.
-/
import Derived.Lib.Join
import Derived.Lib.ItoaNum
import Derived.Test.YtkcfmlfkfagejaaGreatDoorU10
import Derived.Test.YtkcfmlfkfagejaaGreatDoorU11
set_option linter.unusedVariables false
set_option linter.unusedSimpArgs false
namespace Go.Sp
open Go Go.Vl
set_option linter.unusedVariables false
structure Aq where
 Kind:Int
 At:Int
 S:ByteArray
 N:Int
def C3 (x:Aq):List PV:=[iP x.Kind,iP x.At,tP x.S,iP x.N]
theorem IU (x:Aq):C3 x=[iP x.Kind,iP x.At,tP x.S,iP x.N]:=rfl
theorem I9 (x:Aq):(C3 x).length=4:=rfl
def Bj:Rw Aq:=⟨C3,_,4,IU,I9⟩
structure Av where
 At:Int
 E:Int
structure A8 where
 sign:ByteArray
 op:Int
 level:Int
def Ed (x:A8):List PV:=[tP x.sign,iP x.op,iP x.level]
theorem Lj (x:A8):Ed x=[tP x.sign,iP x.op,iP x.level]:=rfl
theorem Kx (x:A8):(Ed x).length=3:=rfl
def BL:Rw A8:=⟨Ed,_,3,Lj,Kx⟩
structure Ad where
 l:(List Aq)
 forms:Int
structure Aa where
 Op:Int
 N:Int
 S:ByteArray
 Kids:(List Aa)
 At:Int
mutual
def Ba:Aa->List PV
 |.mk fOp fN fS fKids fAt=>[iP fOp,iP fN,tP fS,.sl (GN fKids) .shared,iP fAt]
def GN:List Aa->List (List PV)
 | []=>[]
 |x::l=>Ba x::GN l
end
theorem IT:∀ l:List Aa,GN l=l.map Ba
 | []=>rfl
 |x::l=>by rw [GN,IT l];rfl
theorem E1 (x:Aa):Ba x=[iP x.Op,iP x.N,tP x.S,hP x.Kids Ba,iP x.At]:=by
 cases x;rw [Ba];simp only [IT]
theorem GA (x:Aa):(Ba x).length=5:=by rw [E1];rfl
def A2:Rw Aa:=⟨Ba,_,5,E1,GA⟩
structure AK where
 Kind:Int
 N:Int
 S:ByteArray
 E:Aa
 At:Int
def Cq (x:AK):List PV:=[iP x.Kind,iP x.N,tP x.S,iP x.E.Op,iP x.E.N,tP x.E.S,hP x.E.Kids Ba,iP x.E.At,iP x.At]
theorem O6 (x:AK):Cq x=[iP x.Kind,iP x.N,tP x.S,iP x.E.Op,iP x.E.N,tP x.E.S,hP x.E.Kids Ba,iP x.E.At,iP x.At]:=rfl
theorem NP (x:AK):(Cq x).length=9:=rfl
def A7:Rw AK:=⟨Cq,_,9,O6,NP⟩
structure Ay where
 Word:ByteArray
 Args:(List AK)
 Body:(List Ay)
 At:Int
mutual
def BY:Ay->List PV
 |.mk fWord fArgs fBody fAt=>[tP fWord,hP fArgs Cq,.sl (GM fBody) .shared,iP fAt]
def GM:List Ay->List (List PV)
 | []=>[]
 |x::l=>BY x::GM l
end
theorem IS:∀ l:List Ay,GM l=l.map BY
 | []=>rfl
 |x::l=>by rw [GM,IS l];rfl
theorem FC (x:Ay):BY x=[tP x.Word,hP x.Args Cq,hP x.Body BY,iP x.At]:=by
 cases x;rw [BY];simp only [IS]
theorem G9 (x:Ay):(BY x).length=4:=by rw [FC];rfl
def BF:Rw Ay:=⟨BY,_,4,FC,G9⟩
structure Ax where
 At:Int
 E:Int
structure Am where
 l:(List Aq)
 bad:Bool
structure Bl where
 Kind:Int
 Who:Int
 Day:Int
 Known:Int
def Dc (x:Bl):List PV:=[iP x.Kind,iP x.Who,iP x.Day,iP x.Known]
theorem JJ (x:Bl):Dc x=[iP x.Kind,iP x.Who,iP x.Day,iP x.Known]:=rfl
theorem IV (x:Bl):(Dc x).length=4:=rfl
def BT:Rw Bl:=⟨Dc,_,4,JJ,IV⟩
structure Au where
 Facts:(List Bl)
 Stored:Int
 Owner:Int
def Hn (x:Au):List PV:=[hP x.Facts Dc,iP x.Stored,iP x.Owner]
theorem Ib (x:Au):Hn x=[hP x.Facts Dc,iP x.Stored,iP x.Owner]:=rfl
structure Ag where
 d:Au
 known:Int
structure Ab where
 op:Int
 name:ByteArray
 args:(List Int)
 kind:Int
 do_:Do
def Az (x:Int):List PV:=[iP x]
theorem Bn (x:Int):Az x=[iP x]:=rfl
theorem Ky (x:Int):(Az x).length=1:=rfl
def Aw:Rw Int:=⟨Az,_,1,Bn,Ky⟩
def Ae (x:Ab):List PV:=[iP x.op,tP x.name,hP x.args Az,iP x.kind,.fno (KB x.do_) (JA x.do_) (JK x.do_)]
theorem B3 (x:Ab):Ae x=[iP x.op,tP x.name,hP x.args Az,iP x.kind,.fno (KB x.do_) (JA x.do_) (JK x.do_)]:=rfl
theorem BR (x:Ab):(Ae x).length=5:=rfl
def GY:Rw Ab:=⟨Ae,_,5,B3,BR⟩
structure AR where
 ops:(List Ab)
 names:(List (ByteArray×Int))
def BG (x:ByteArray):List PV:=[tP x]
theorem IL (x:ByteArray):BG x=[tP x]:=rfl
theorem Kw (x:ByteArray):(BG x).length=1:=rfl
def B2:Rw ByteArray:=⟨BG,_,1,IL,Kw⟩
def tkT (t:Lx.Tok):Aq:=⟨(t.kind:Int),(t.at_:Int),⟨⟨t.s⟩⟩,(t.n:Int)⟩
def Ms (src:ByteArray):List Aq×Av :=
 if 65536<src.size then ([],⟨0,2⟩)
 else match Lx.tokens src.data.toList with
  |.ok ts=>(ts.map tkT,⟨0,0⟩)
  |.error (p,e)=>([],⟨(p:Int),(e:Int)⟩)
def Qz (src:ByteArray):Option (List Aq×Av):=some (Ms src)
def YG (t:Aq):List (List UInt8):=if t.Kind=1∨t.Kind=4 then [t.S.data.toList] else if t.Kind=2 then [Lib.itoa t.N] else if t.Kind=3 then [34::Lx.quoted t.S.data.toList++[34]] else []
def YJ (l:List Aq):ByteArray:=⟨⟨Lib.join (l.flatMap YG) [32]⟩⟩
def TE (l:List Aq):Prop:=l.length<=1000000/\(∀ t∈l,-9223372036854775808<=t.N/\t.N<=9223372036854775807)/\(YJ l).size<=140737488355328/\∀ t∈l,t.Kind≠3∨t.S.size<=1000000
instance (l:List Aq):Decidable (TE l):=by unfold TE;exact inferInstance
def Re (l:List Aq):Option ByteArray:=if TE l then some (YJ l) else none
def CS:Option (List A8) :=
 (some [(A8.mk ⟨#[42]⟩ 7 6),(A8.mk ⟨#[47]⟩ 8 6),(A8.mk ⟨#[37]⟩ 9 6),(A8.mk ⟨#[43]⟩ 10 5),(A8.mk ⟨#[45]⟩ 11 5),(A8.mk ⟨#[61,61]⟩ 12 4),(A8.mk ⟨#[33,61]⟩ 13 4),(A8.mk ⟨#[60]⟩ 14 4),(A8.mk ⟨#[60,61]⟩ 15 4),(A8.mk ⟨#[62]⟩ 16 4),(A8.mk ⟨#[62,61]⟩ 17 4),(A8.mk ⟨#[38,38]⟩ 18 2),(A8.mk ⟨#[124,124]⟩ 19 1)]).bind fun l =>
 some l
def Bb (p:Ad)(e:Int):Option (Ex Ax Ad Unit) :=
 (gi p.l 0).bind fun x =>
 some (.pan (Ax.mk x.At e) p)
def AG (p:Ad):Option (Aq×Ad) :=
 (gi p.l 0).bind fun x =>
 (VM p.l 1 (p.l.length:Int)).bind fun l =>
 some (x,(Ad.mk l p.forms))
def AZ (p:Ad)(s:ByteArray):Option Bool :=
 (((gi p.l 0).bind fun x =>
 bif (x.Kind == 4) then
  some (decide (x.S=s))
 else
  some false
 ):Option Bool).bind fun v4 =>
  some v4
def CU (p:Ad):Option Bool :=
 (gi p.l 0).bind fun x =>
 ((bif (x.Kind == 1) then
  some (x.Kind == 1)
 else
  bif (x.Kind == 2) then
   some (x.Kind == 2)
  else
   some (x.Kind == 3)
 ):Option Bool).bind fun v10 =>
  bif v10 then
   some true
  else
   (((AZ p ⟨#[40]⟩).bind fun i =>
   bif i then
    some true
   else
    (AZ p ⟨#[45]⟩).bind fun i1 =>
    some i1
   ):Option Bool).bind fun v2 =>
    some v2
def F1 (p:Ad):Option (Ex Ax Ad Int) :=
 (gi p.l 0).bind fun x =>
 bif (x.Kind != 2) then
  (Bb p 5).bind fun y=>match y with
  |.ok f p1 =>
   (AG p1).bind fun n_ =>
   some (.ok n_.1.N n_.2)
  |.pan e p2=>some (.pan e p2)
 else
  (AG p).bind fun n_1 =>
  some (.ok n_1.1.N n_1.2)
def CL (p:Ad)(depth:Int)(not_:Bool):Option (Ex Ax Ad Unit) :=
 (((CU p).bind fun b =>
 bif (!b) then
  bif not_ then
   (AZ p ⟨#[33]⟩).bind fun i =>
   some (!i)
  else
   some true
 else
  some false
 ):Option Bool).bind fun v16 =>
  ((bif v16 then
   (Bb p 5).bind fun y3=>match y3 with
   |.ok f1 p5 =>
    some (.inl (p5.l,p5.forms))
   |.pan e3 p6=>some (.inr (.pan e3 p6))
  else
   some (.inl (p.l,p.forms))
  ):Option (((List Aq)×Int) ⊕ (Ex Ax Ad Unit))).bind fun y1=>match y1 with
  |.inl (p1,p2) =>
   bif (decide (30<depth)) then
    (Bb (Ad.mk p1 p2) 2).bind fun y2=>match y2 with
    |.ok f p3 =>
     some (.ok () p3)
    |.pan e2 p4=>some (.pan e2 p4)
   else
    some (.ok () (Ad.mk p1 p2))
  |.inr o=>some o
def CK (p:Ad)(s:ByteArray):Option (Ex Ax Ad Unit) :=
 (AZ p s).bind fun i =>
 bif (!i) then
  (Bb p 5).bind fun y=>match y with
  |.ok f p1 =>
   (AG p1).bind fun n_ =>
   some (.ok () n_.2)
  |.pan e p2=>some (.pan e p2)
 else
  (AG p).bind fun n_1 =>
  some (.ok () n_1.2)
def Eg (p:(List Aq))(p1:Int)(n_:Int)(q:Int)(q1:Int)(q2:ByteArray)(q3:(List Aa))(q4:Int)(e:Int)(e1:Int)(e2:ByteArray)(e3:(List Aa))(e4:Int)(b:A8):Option Bool :=
 ((bif (b.level == n_) then
  (AZ (Ad.mk p p1) b.sign).bind fun i =>
  some i
 else
  some false
 ):Option Bool).bind fun v4 =>
  some v4
def BN:Nat->(List A8)->(List Aq)->Int->Int->Int->Int->ByteArray->(List Aa)->Int->Int->Int->ByteArray->(List Aa)->Int->Int->Option (Unit ⊕ Int)
 |0,_,_,_,_,_,_,_,_,_,_,_,_,_,_,_=>none
 |n+1,s,p,p1,n_,q,q1,q2,q3,q4,e,e1,e2,e3,e4,v8 =>
  bif (decide (v8<(s.length:Int))) then
   (gi s v8).bind fun x =>
   (Eg p p1 n_ q q1 q2 q3 q4 e e1 e2 e3 e4 x).bind fun l =>
   bif l then
    some (.inr v8)
   else
    BN n s p p1 n_ q q1 q2 q3 q4 e e1 e2 e3 e4 (IntKind.i64.wrap (v8+1))
  else
   some (.inl ())
def Da (n:Nat)(p:(List Aq))(p1:Int)(n_:Int)(q:Int)(q1:Int)(q2:ByteArray)(q3:(List Aa))(q4:Int)(e:Int)(e1:Int)(e2:ByteArray)(e3:(List Aa))(e4:Int)(s:(List A8)):Option Int :=
 ((BN n s p p1 n_ q q1 q2 q3 q4 e e1 e2 e3 e4 0
 ):Option (Unit ⊕ Int)).bind fun y=>match y with
 |.inl _ =>
  some (-1)
 |.inr o=>some o
mutual
def AM:Nat->Ad->Int->Option (Ex Ax Ad Aa)
 |0,_,_=>none
 |n+1,p,depth =>
  (CL p depth true).bind fun y=>match y with
  |.ok d p1 =>
   (AY n p1 1 depth).bind fun y1=>match y1 with
   |.ok e1 p3 =>
    (AZ p3 ⟨#[63]⟩).bind fun i =>
    bif (!i) then
     some (.ok (Aa.mk e1.Op e1.N e1.S e1.Kids e1.At) p3)
    else
     (AG p3).bind fun n_ =>
     (AM n n_.2 (IntKind.i64.wrap (depth+1))).bind fun y2=>match y2 with
     |.ok a_ p5 =>
      (CK p5 ⟨#[58]⟩).bind fun y3=>match y3 with
      |.ok n_1 p7 =>
       (AM n p7 (IntKind.i64.wrap (depth+1))).bind fun y4=>match y4 with
       |.ok e5 p9 =>
        (some [(Aa.mk e1.Op e1.N e1.S e1.Kids e1.At),a_,(Aa.mk e5.Op e5.N e5.S e5.Kids e5.At)]).bind fun l =>
        some (.ok (Aa.mk 20 0 ⟨#[]⟩ l e1.At) p9)
       |.pan e6 p10=>some (.pan e6 p10)
      |.pan e4 p8=>some (.pan e4 p8)
     |.pan e3 p6=>some (.pan e3 p6)
   |.pan e2 p4=>some (.pan e2 p4)
  |.pan e p2=>some (.pan e p2)
def Dx:Nat->Int->Aa->Int->(List Aq)->Int->Int->Int->ByteArray->(List Aa)->Option (Ex Ax Ad Aa)
 |0,_,_,_,_,_,_,_,_,_=>none
 |n+1,n_1,e2,depth,p5,p6,e4,e5,e6,e7 =>
  (CS).bind fun o_ =>
  (Da n p5 p6 n_1 0 0 ⟨#[]⟩ [] 0 e4 e5 e6 e7 e2.At o_).bind fun k =>
  bif (decide (k<0)) then
   some (.ok (Aa.mk e4 e5 e6 e7 e2.At) (Ad.mk p5 p6))
  else
   (AG (Ad.mk p5 p6)).bind fun n_3 =>
   (CS).bind fun o_1 =>
   (gi o_1 k).bind fun x =>
   (AY n n_3.2 (IntKind.i64.wrap (n_1+1)) depth).bind fun y3=>match y3 with
   |.ok l p7 =>
    (some [(Aa.mk e4 e5 e6 e7 e2.At),l]).bind fun l1 =>
    bif (n_1 == 4) then
     some (.ok (Aa.mk x.op 0 ⟨#[]⟩ l1 e2.At) p7)
    else
     Dx n n_1 e2 depth p7.l p7.forms x.op 0 ⟨#[]⟩ l1
   |.pan e8 p8=>some (.pan e8 p8)
def AY:Nat->Ad->Int->Int->Option (Ex Ax Ad Aa)
 |0,_,_,_=>none
 |n+1,p,n_,depth =>
  ((bif (n_ == 3) then
   (AZ p ⟨#[33]⟩).bind fun i =>
   bif i then
    (AG p).bind fun n_4 =>
    (CL n_4.2 (IntKind.i64.wrap (depth+1)) true).bind fun y4=>match y4 with
    |.ok d p9 =>
     (AY n p9 3 (IntKind.i64.wrap (depth+1))).bind fun y5=>match y5 with
     |.ok l2 p11 =>
      (some [l2]).bind fun l3 =>
      some (.inr (.ok (Aa.mk 5 0 ⟨#[]⟩ l3 n_4.1.At) p11))
     |.pan e10 p12=>some (.inr (.pan e10 p12))
    |.pan e9 p10=>some (.inr (.pan e9 p10))
   else
    some (.inl (IntKind.i64.wrap (n_+1)))
  else
   some (.inl n_)
  ):Option (Int ⊕ (Ex Ax Ad Aa))).bind fun y=>match y with
  |.inl n_1 =>
   bif (n_1 == 7) then
    (Bu n p depth).bind fun y1=>match y1 with
    |.ok n_2 p1 =>
     some (.ok n_2 p1)
    |.pan e1 p2=>some (.pan e1 p2)
   else
    (AY n p (IntKind.i64.wrap (n_1+1)) depth).bind fun y2=>match y2 with
    |.ok e2 p3 =>
     Dx n n_1 e2 depth p3.l p3.forms e2.Op e2.N e2.S e2.Kids
    |.pan e3 p4=>some (.pan e3 p4)
  |.inr o=>some o
def Bu:Nat->Ad->Int->Option (Ex Ax Ad Aa)
 |0,_,_=>none
 |n+1,p,depth =>
  (AZ p ⟨#[45]⟩).bind fun i =>
  bif (!i) then
   (Bv n p depth).bind fun y=>match y with
   |.ok a_ p1 =>
    some (.ok a_ p1)
   |.pan e p2=>some (.pan e p2)
  else
   (AG p).bind fun n_ =>
   (CL n_.2 (IntKind.i64.wrap (depth+1)) false).bind fun y1=>match y1 with
   |.ok d p3 =>
    (Bu n p3 (IntKind.i64.wrap (depth+1))).bind fun y2=>match y2 with
    |.ok n_1 p5 =>
     (some [n_1]).bind fun l =>
     some (.ok (Aa.mk 6 0 ⟨#[]⟩ l n_.1.At) p5)
    |.pan e2 p6=>some (.pan e2 p6)
   |.pan e1 p4=>some (.pan e1 p4)
def CD:Nat->Int->(List Aq)->Int->(List Aa)->Option (((List Aq)×Int×(List Aa)) ⊕ (Ex Ax Ad Aa))
 |0,_,_,_,_=>none
 |n+1,depth,p5,p6,e3 =>
  (AZ (Ad.mk p5 p6) ⟨#[41]⟩).bind fun i1 =>
  bif (!i1) then
   ((bif (decide (0<(e3.length:Int))) then
    (CK (Ad.mk p5 p6) ⟨#[44]⟩).bind fun y7=>match y7 with
    |.ok n_2 p17 =>
     some (.inl (p17.l,p17.forms))
    |.pan e11 p18=>some (.inr (.pan e11 p18))
   else
    some (.inl (p5,p6))
   ):Option (((List Aq)×Int) ⊕ (Ex Ax Ad Aa))).bind fun y2=>match y2 with
   |.inl (p7,p8) =>
    bif ((e3.length:Int) == 40) then
     (CL (Ad.mk p7 p8) 0 true).bind fun y3=>match y3 with
     |.ok d p9 =>
      (Bb p9 2).bind fun y4=>match y4 with
      |.ok f p11 =>
       (AM n p11 (IntKind.i64.wrap (depth+1))).bind fun y5=>match y5 with
       |.ok e7 p13 =>
        (some [(Aa.mk e7.Op e7.N e7.S e7.Kids e7.At)]).bind fun l =>
        (D7 65 e3 l).bind fun l1 =>
        CD n depth p13.l p13.forms l1
       |.pan e8 p14=>some (.inr (.pan e8 p14))
      |.pan e6 p12=>some (.inr (.pan e6 p12))
     |.pan e5 p10=>some (.inr (.pan e5 p10))
    else
     (AM n (Ad.mk p7 p8) (IntKind.i64.wrap (depth+1))).bind fun y6=>match y6 with
     |.ok e9 p15 =>
      (some [(Aa.mk e9.Op e9.N e9.S e9.Kids e9.At)]).bind fun l2 =>
      (D7 65 e3 l2).bind fun l3 =>
      CD n depth p15.l p15.forms l3
     |.pan e10 p16=>some (.inr (.pan e10 p16))
   |.inr o=>some (.inr o)
  else
   some (.inl (p5,p6,e3))
def Bv:Nat->Ad->Int->Option (Ex Ax Ad Aa)
 |0,_,_=>none
 |n+1,p,depth =>
  (CU p).bind fun b =>
  ((bif (!b) then
   (Bb p 5).bind fun y10=>match y10 with
   |.ok f1 p23 =>
    some (.inl (p23.l,p23.forms))
   |.pan e15 p24=>some (.inr (.pan e15 p24))
  else
   some (.inl (p.l,p.forms))
  ):Option (((List Aq)×Int) ⊕ (Ex Ax Ad Aa))).bind fun y=>match y with
  |.inl (p1,p2) =>
   (AG (Ad.mk p1 p2)).bind fun t =>
   bif (t.1.Kind == 2) then
    some (.ok (Aa.mk 1 t.1.N t.1.S [] t.1.At) t.2)
   else
    bif (t.1.Kind == 3) then
     some (.ok (Aa.mk 2 t.1.N t.1.S [] t.1.At) t.2)
    else
     bif (t.1.Kind == 1) then
      (AZ t.2 ⟨#[40]⟩).bind fun i =>
      bif (!i) then
       some (.ok (Aa.mk 3 t.1.N t.1.S [] t.1.At) t.2)
      else
       (AG t.2).bind fun n_ =>
       ((CD n depth n_.2.l n_.2.forms []
       ):Option (((List Aq)×Int×(List Aa)) ⊕ (Ex Ax Ad Aa))).bind fun y1=>match y1 with
       |.inl (p3,p4,e1) =>
        (AG (Ad.mk p3 p4)).bind fun n_1 =>
        some (.ok (Aa.mk 4 t.1.N t.1.S e1 t.1.At) n_1.2)
       |.inr o=>some o
     else
      (AM n t.2 (IntKind.i64.wrap (depth+1))).bind fun y8=>match y8 with
      |.ok e12 p19 =>
       (CK p19 ⟨#[41]⟩).bind fun y9=>match y9 with
       |.ok n_3 p21 =>
        some (.ok e12 p21)
       |.pan e14 p22=>some (.pan e14 p22)
      |.pan e13 p20=>some (.pan e13 p20)
  |.inr o=>some o
end
def Fw (n:Nat)(p:Ad):Option (Ex Ax Ad AK) :=
 (AG p).bind fun t =>
 bif (t.1.Kind == 1) then
  some (.ok (AK.mk 1 t.1.N t.1.S (Aa.mk 0 0 ⟨#[]⟩ [] 0) t.1.At) t.2)
 else
  bif (t.1.Kind == 2) then
   some (.ok (AK.mk 2 t.1.N t.1.S (Aa.mk 0 0 ⟨#[]⟩ [] 0) t.1.At) t.2)
  else
   bif (t.1.Kind == 3) then
    some (.ok (AK.mk 3 t.1.N t.1.S (Aa.mk 0 0 ⟨#[]⟩ [] 0) t.1.At) t.2)
   else
    bif (decide (t.1.S=⟨#[45]⟩)) then
     (F1 t.2).bind fun y=>match y with
     |.ok n_ p1 =>
      some (.ok (AK.mk 2 (IntKind.i64.wrap (0-n_)) ⟨#[]⟩ (Aa.mk 0 0 ⟨#[]⟩ [] 0) t.1.At) p1)
     |.pan e p2=>some (.pan e p2)
    else
     bif (decide (t.1.S=⟨#[45,62]⟩)) then
      some (.ok (AK.mk 4 t.1.N ⟨#[]⟩ (Aa.mk 0 0 ⟨#[]⟩ [] 0) t.1.At) t.2)
     else
      bif (decide (t.1.S=⟨#[40]⟩)) then
       (AM n t.2 1).bind fun y1=>match y1 with
       |.ok e1 p3 =>
        (CK p3 ⟨#[41]⟩).bind fun y2=>match y2 with
        |.ok n_1 p5 =>
         some (.ok (AK.mk 5 t.1.N ⟨#[]⟩ (Aa.mk e1.Op e1.N e1.S e1.Kids e1.At) t.1.At) p5)
        |.pan e3 p6=>some (.pan e3 p6)
       |.pan e2 p4=>some (.pan e2 p4)
      else
       some (.ok (AK.mk 0 t.1.N ⟨#[]⟩ (Aa.mk 0 0 ⟨#[]⟩ [] 0) t.1.At) t.2)
mutual
def DE:Nat->Int->(List Aq)->Int->(List Ay)->Option (((List Aq)×Int×(List Ay)) ⊕ (Ex Ax Ad Ay))
 |0,_,_,_,_=>none
 |n+1,depth,p9,p10,f2 =>
  (AZ (Ad.mk p9 p10) ⟨#[125]⟩).bind fun i =>
  bif (!i) then
   (BA n (Ad.mk p9 p10) (IntKind.i64.wrap (depth+1))).bind fun y5=>match y5 with
   |.ok f3 p11 =>
    (some [f3]).bind fun l =>
    (D7 73 f2 l).bind fun l1 =>
    DE n depth p11.l p11.forms l1
   |.pan e5 p12=>some (.inr (.pan e5 p12))
  else
   some (.inl (p9,p10,f2))
def CC:Nat->(List Aq)->Int->(List AK)->Option (((List Aq)×Int×(List AK)) ⊕ (Ex Ax Ad Ay))
 |0,_,_,_=>none
 |n+1,p13,p14,f4 =>
  (((AZ (Ad.mk p13 p14) ⟨#[59]⟩).bind fun i2 =>
  bif (!i2) then
   (AZ (Ad.mk p13 p14) ⟨#[123]⟩).bind fun i3 =>
   some (!i3)
  else
   some false
  ):Option Bool).bind fun v49 =>
   bif v49 then
    (((CU (Ad.mk p13 p14)).bind fun b =>
    bif (!b) then
     (AZ (Ad.mk p13 p14) ⟨#[45,62]⟩).bind fun i1 =>
     some (!i1)
    else
     some false
    ):Option Bool).bind fun v57 =>
     ((bif v57 then
      (Bb (Ad.mk p13 p14) 5).bind fun y12=>match y12 with
      |.ok f6 p23 =>
       some (.inl (p23.l,p23.forms))
      |.pan e12 p24=>some (.inr (.pan e12 p24))
     else
      some (.inl (p13,p14))
     ):Option (((List Aq)×Int) ⊕ (Ex Ax Ad Ay))).bind fun y8=>match y8 with
     |.inl (p15,p16) =>
      bif ((f4.length:Int) == 40) then
       (Bb (Ad.mk p15 p16) 2).bind fun y9=>match y9 with
       |.ok f5 p17 =>
        (Fw n p17).bind fun y10=>match y10 with
        |.ok a_ p19 =>
         (some [a_]).bind fun l2 =>
         (D7 105 f4 l2).bind fun l3 =>
         CC n p19.l p19.forms l3
        |.pan e10 p20=>some (.inr (.pan e10 p20))
       |.pan e9 p18=>some (.inr (.pan e9 p18))
      else
       (Fw n (Ad.mk p15 p16)).bind fun y11=>match y11 with
       |.ok a_1 p21 =>
        (some [a_1]).bind fun l4 =>
        (D7 105 f4 l4).bind fun l5 =>
        CC n p21.l p21.forms l5
       |.pan e11 p22=>some (.inr (.pan e11 p22))
     |.inr o=>some (.inr o)
   else
    some (.inl (p13,p14,f4))
def BA:Nat->Ad->Int->Option (Ex Ax Ad Ay)
 |0,_,_=>none
 |n+1,p,depth =>
  (gi p.l 0).bind fun x =>
  ((bif (x.Kind != 1) then
   (Bb p 5).bind fun y14=>match y14 with
   |.ok f8 p27 =>
    some (.inl (p27.l,p27.forms))
   |.pan e14 p28=>some (.inr (.pan e14 p28))
  else
   some (.inl (p.l,p.forms))
  ):Option (((List Aq)×Int) ⊕ (Ex Ax Ad Ay))).bind fun y=>match y with
  |.inl (p1,p2) =>
   ((bif (decide (30<depth)) then
    some true
   else
    some (decide (2000<(IntKind.i64.wrap (p2+1))))
   ):Option Bool).bind fun v32 =>
    ((bif v32 then
     (Bb (Ad.mk p1 (IntKind.i64.wrap (p2+1))) 2).bind fun y13=>match y13 with
     |.ok f7 p25 =>
      some (.inl (p25.l,p25.forms))
     |.pan e13 p26=>some (.inr (.pan e13 p26))
    else
     some (.inl (p1,(IntKind.i64.wrap (p2+1))))
    ):Option (((List Aq)×Int) ⊕ (Ex Ax Ad Ay))).bind fun y2=>match y2 with
    |.inl (p3,p4) =>
     (AG (Ad.mk p3 p4)).bind fun t =>
     ((CC n t.2.l t.2.forms []
     ):Option (((List Aq)×Int×(List AK)) ⊕ (Ex Ax Ad Ay))).bind fun y3=>match y3 with
     |.inl (p5,p6,f) =>
      (AG (Ad.mk p5 p6)).bind fun n_ =>
      bif (decide (n_.1.S=⟨#[59]⟩)) then
       some (.ok (Ay.mk t.1.S f [] t.1.At) n_.2)
      else
       ((DE n depth n_.2.l n_.2.forms []
       ):Option (((List Aq)×Int×(List Ay)) ⊕ (Ex Ax Ad Ay))).bind fun y4=>match y4 with
       |.inl (p7,p8,f1) =>
        (AG (Ad.mk p7 p8)).bind fun n_1 =>
        some (.ok (Ay.mk t.1.S f f1 t.1.At) n_1.2)
       |.inr o=>some o
     |.inr o=>some o
    |.inr o=>some o
  |.inr o=>some o
end
mutual
def ES:Nat->Aa->Aa->Bool->Int->Option (Unit ⊕ Bool)
 |0,_,_,_,_=>none
 |n+1,a_,b,offsets,k =>
  bif (decide (k<(a_.Kids.length:Int))) then
   (gi a_.Kids k).bind fun x =>
   (gi b.Kids k).bind fun x1 =>
   (BJ n x x1 offsets).bind fun same =>
   bif (!same) then
    some (.inr false)
   else
    ES n a_ b offsets (IntKind.i64.wrap (k+1))
  else
   some (.inl ())
def BJ:Nat->Aa->Aa->Bool->Option Bool
 |0,_,_,_=>none
 |n+1,a_,b,offsets =>
  ((bif (a_.Op != b.Op) then
   some true
  else
   bif (a_.Op == 1) then
    bif (a_.N != b.N) then
     some true
    else
     bif (decide (2<=a_.Op)) then
      bif (decide (a_.Op<=4)) then
       bif (!decide (a_.S=b.S)) then
        some true
       else
        bif offsets then
         some (a_.At != b.At)
        else
         some false
      else
       bif offsets then
        some (a_.At != b.At)
       else
        some false
     else
      bif offsets then
       some (a_.At != b.At)
      else
       some false
   else
    bif (decide (2<=a_.Op)) then
     bif (decide (a_.Op<=4)) then
      bif (!decide (a_.S=b.S)) then
       some true
      else
       bif offsets then
        some (a_.At != b.At)
       else
        some false
     else
      bif offsets then
       some (a_.At != b.At)
      else
       some false
    else
     bif offsets then
      some (a_.At != b.At)
     else
      some false
  ):Option Bool).bind fun v52 =>
   bif v52 then
    some false
   else
    ((bif (decide (1<=a_.Op)) then
     some (decide (a_.Op<=3))
    else
     some false
    ):Option Bool).bind fun v60 =>
     bif v60 then
      some true
     else
      bif ((a_.Kids.length:Int) != (b.Kids.length:Int)) then
       some false
      else
       ((ES n a_ b offsets 0
       ):Option (Unit ⊕ Bool)).bind fun y2=>match y2 with
       |.inl _ =>
        some true
       |.inr o=>some o
end
def CB (p:Am)(n_:Int):Option (Unit×Am) :=
 ((bif p.bad then
  some true
 else
  bif (decide (n_<0)) then
   some true
  else
   some (decide (999999999999999<n_))
 ):Option Bool).bind fun p1 =>
  (some [(Aq.mk 2 0 ⟨#[]⟩ n_)]).bind fun l =>
  (D7 41 p.l l).bind fun l1 =>
  some ((),(Am.mk l1 p1))
def Du:Nat->ByteArray->Int->Bool->Option Bool
 |0,_,_,_=>none
 |n+1,s,v19,p3 =>
  bif (decide (v19<(s.size:Int))) then
   ((bif p3 then
    some true
   else
    (gb s v19).bind fun c =>
    bif (c != 10) then
     bif (decide (c<32)) then
      some true
     else
      some (decide (126<c))
    else
     some false
   ):Option Bool).bind fun p4 =>
    Du n s (IntKind.i64.wrap (v19+1)) p4
  else
   some p3
def Es (n:Nat)(p:Am)(s:ByteArray):Option (Unit×Am) :=
 ((bif p.bad then
  some true
 else
  some (decide (200<(s.size:Int)))
 ):Option Bool).bind fun p1 =>
  ((Du n s 0 p1
  ):Option Bool).bind fun p2 =>
   (some [(Aq.mk 3 0 s 0)]).bind fun l =>
   (D7 41 p.l l).bind fun l1 =>
   some ((),(Am.mk l1 p2))
def Fk (c:Int):Option Bool :=
 ((bif (decide (97<=(bits .or .u8 c 32))) then
  bif (decide ((bits .or .u8 c 32)<=122)) then
   some true
  else
   some (c == 95)
 else
  some (c == 95)
 ):Option Bool).bind fun v2 =>
  some v2
def Dv:Nat->ByteArray->Bool->Int->Option Bool
 |0,_,_,_=>none
 |n+1,s,ok2,v17 =>
  bif (decide (v17<(s.size:Int))) then
   ((bif ok2 then
    (gb s v17).bind fun c =>
    (Fk c).bind fun n_ =>
    bif n_ then
     some true
    else
     bif (decide (0<v17)) then
      bif (decide (48<=c)) then
       some (decide (c<=57))
      else
       some false
     else
      some false
   else
    some false
   ):Option Bool).bind fun ok3 =>
    Dv n s ok3 (IntKind.i64.wrap (v17+1))
  else
   some ok2
def Cx (n:Nat)(p:Am)(s:ByteArray):Option (Unit×Am) :=
 ((bif (decide (0<(s.size:Int))) then
  some (decide ((s.size:Int)<=32))
 else
  some false
 ):Option Bool).bind fun ok =>
  ((Dv n s ok 0
  ):Option Bool).bind fun ok1 =>
   ((bif p.bad then
    some true
   else
    some (!ok1)
   ):Option Bool).bind fun p1 =>
    (some [(Aq.mk 1 0 s 0)]).bind fun l =>
    (D7 41 p.l l).bind fun l1 =>
    some ((),(Am.mk l1 p1))
def De:Nat->(List ByteArray)->Int->(List Aq)->Option (List Aq)
 |0,_,_,_=>none
 |n+1,l,v8,p2 =>
  bif (decide (v8<(l.length:Int))) then
   (gi l v8).bind fun x =>
   (some [(Aq.mk 4 0 x 0)]).bind fun l1 =>
   (D7 41 p2 l1).bind fun l2 =>
   De n l (IntKind.i64.wrap (v8+1)) l2
  else
   some p2
def A6 (n:Nat)(p:Am)(l:(List ByteArray)):Option (Unit×Am) :=
 ((De n l 0 p.l
 ):Option (List Aq)).bind fun p1 =>
  some ((),(Am.mk p1 p.bad))
def Gl:Nat->(List A8)->Aa->Int->Option (Unit ⊕ Int)
 |0,_,_,_=>none
 |n+1,o_,e,v15 =>
  bif (decide (v15<(o_.length:Int))) then
   (gi o_ v15).bind fun x =>
   bif (x.op == e.Op) then
    some (.inr x.level)
   else
    Gl n o_ e (IntKind.i64.wrap (v15+1))
  else
   some (.inl ())
def K5 (n:Nat)(e:Aa):Option Int :=
 bif (e.Op == 20) then
  some 0
 else
  bif (e.Op == 5) then
   some 3
  else
   bif (e.Op == 6) then
    some 7
   else
    (CS).bind fun o_ =>
    ((Gl n o_ e 0
    ):Option (Unit ⊕ Int)).bind fun y=>match y with
    |.inl _ =>
     some 8
    |.inr o=>some o
def Ef (p:(List Aq))(p1:Bool)(e:Int)(e1:Int)(e2:ByteArray)(e3:(List Aa))(e4:Int)(b:A8):Option Bool :=
 some (b.op == e)
def BO:Nat->(List A8)->(List Aq)->Bool->Int->Int->ByteArray->(List Aa)->Int->Int->Option (Unit ⊕ Int)
 |0,_,_,_,_,_,_,_,_,_=>none
 |n+1,s,p,p1,e,e1,e2,e3,e4,v8 =>
  bif (decide (v8<(s.length:Int))) then
   (gi s v8).bind fun x =>
   (Ef p p1 e e1 e2 e3 e4 x).bind fun e6 =>
   bif e6 then
    some (.inr v8)
   else
    BO n s p p1 e e1 e2 e3 e4 (IntKind.i64.wrap (v8+1))
  else
   some (.inl ())
def Db (n:Nat)(p:(List Aq))(p1:Bool)(e:Int)(e1:Int)(e2:ByteArray)(e3:(List Aa))(e4:Int)(s:(List A8)):Option Int :=
 ((BO n s p p1 e e1 e2 e3 e4 0
 ):Option (Unit ⊕ Int)).bind fun y=>match y with
 |.inl _ =>
  some (-1)
 |.inr o=>some o
mutual
def Cu:Nat->Aa->(List ByteArray)->Int->(List Aq)->Bool->Option ((List Aq)×Bool)
 |0,_,_,_,_,_=>none
 |n+1,e,l,v89,p3,p4 =>
  bif (decide (v89<(e.Kids.length:Int))) then
   (gi e.Kids v89).bind fun x =>
   bif (decide (0<v89)) then
    (some [⟨#[44]⟩]).bind fun l2 =>
    (A6 n (Am.mk p3 p4) l2).bind fun s2 =>
    (AA n s2.2 x 0).bind fun o_ =>
    Cu n e l (IntKind.i64.wrap (v89+1)) o_.2.l o_.2.bad
   else
    (AA n (Am.mk p3 p4) x 0).bind fun o_1 =>
    Cu n e l (IntKind.i64.wrap (v89+1)) o_1.2.l o_1.2.bad
  else
   some (p3,p4)
def Bi:Nat->Am->Aa->Option (Unit×Am)
 |0,_,_=>none
 |n+1,p,e =>
  bif (e.Op == 1) then
   (CB p e.N).bind fun n_ =>
   some ((),n_.2)
  else
   bif (e.Op == 2) then
    (Es n p e.S).bind fun t =>
    some ((),t.2)
   else
    bif (e.Op == 3) then
     (Cx n p e.S).bind fun n_1 =>
     some ((),n_1.2)
    else
     bif (e.Op == 4) then
      (Cx n p e.S).bind fun n_2 =>
      (some [⟨#[40]⟩]).bind fun l =>
      (A6 n n_2.2 l).bind fun s =>
      ((Cu n e l 0 s.2.l s.2.bad
      ):Option ((List Aq)×Bool)).bind fun y=>match y with
      |(p1,p2) =>
       (some [⟨#[41]⟩]).bind fun l1 =>
       (A6 n (Am.mk p1 p2) l1).bind fun s1 =>
       some ((),s1.2)
     else
      ((bif (e.Op == 5) then
       some (e.Op == 5)
      else
       bif (e.Op == 6) then
        some (e.Op == 6)
       else
        some (e.Op == 20)
      ):Option Bool).bind fun v106 =>
       bif v106 then
        bif ((e.Kids.length:Int) != ((KA [(5,1),(6,1),(20,3)] e.Op).1)) then
         some ((),(Am.mk p.l true))
        else
         bif (e.Op == 5) then
          (some [⟨#[33]⟩]).bind fun l3 =>
          (A6 n p l3).bind fun s3 =>
          (gi e.Kids 0).bind fun x1 =>
          (AA n s3.2 x1 3).bind fun o_2 =>
          some ((),o_2.2)
         else
          bif (e.Op == 6) then
           (some [⟨#[45]⟩]).bind fun l4 =>
           (A6 n p l4).bind fun s4 =>
           (gi e.Kids 0).bind fun x2 =>
           (AA n s4.2 x2 7).bind fun o_3 =>
           some ((),o_3.2)
          else
           (gi e.Kids 0).bind fun x3 =>
           (AA n p x3 1).bind fun o_4 =>
           (some [⟨#[63]⟩]).bind fun l5 =>
           (A6 n o_4.2 l5).bind fun s5 =>
           (gi e.Kids 1).bind fun x4 =>
           (AA n s5.2 x4 0).bind fun o_5 =>
           (some [⟨#[58]⟩]).bind fun l6 =>
           (A6 n o_5.2 l6).bind fun s6 =>
           (gi e.Kids 2).bind fun x5 =>
           (AA n s6.2 x5 0).bind fun o_6 =>
           some ((),o_6.2)
       else
        (CS).bind fun o_7 =>
        (Db n p.l p.bad e.Op e.N e.S e.Kids e.At o_7).bind fun k =>
        ((bif (decide (k<0)) then
         some true
        else
         some ((e.Kids.length:Int) != 2)
        ):Option Bool).bind fun v24 =>
         bif v24 then
          some ((),(Am.mk p.l true))
         else
          (CS).bind fun o_8 =>
          (gi o_8 k).bind fun x6 =>
          ((bif (x6.level == 4) then
           some 5
          else
           some x6.level
          ):Option Int).bind fun left =>
           (gi e.Kids 0).bind fun x7 =>
           (AA n p x7 left).bind fun o_9 =>
           (some [x6.sign]).bind fun l7 =>
           (A6 n o_9.2 l7).bind fun s7 =>
           (gi e.Kids 1).bind fun x8 =>
           (AA n s7.2 x8 (if (IntKind.i64.wrap (x6.level+1)) > left then (IntKind.i64.wrap (x6.level+1)) else left)).bind fun o_10 =>
           some ((),o_10.2)
def AA:Nat->Am->Aa->Int->Option (Unit×Am)
 |0,_,_,_=>none
 |n+1,p,e,need =>
  (K5 n (Aa.mk e.Op e.N e.S e.Kids e.At)).bind fun l =>
  bif (decide (need<=l)) then
   (Bi n p (Aa.mk e.Op e.N e.S e.Kids e.At)).bind fun e1 =>
   some ((),e1.2)
  else
   (some [⟨#[40]⟩]).bind fun l1 =>
   (A6 n p l1).bind fun s =>
   (Bi n s.2 (Aa.mk e.Op e.N e.S e.Kids e.At)).bind fun e2 =>
   (some [⟨#[41]⟩]).bind fun l2 =>
   (A6 n e2.2 l2).bind fun s1 =>
   some ((),s1.2)
end
def DV:Nat->(List Ay)->(List Aq)->Int->Option (((List Ay)×(List Aq)×Int) ⊕ (Ex Ax ((List Ay)×(List Aq)×Int) Unit))
 |0,_,_,_=>none
 |n+1,out2,q6,q7 =>
  (gi q6 0).bind fun x =>
  bif (x.Kind != 5) then
   (BA n (Ad.mk q6 q7) 1).bind fun y1=>match y1 with
   |.ok f s =>
    (D7 73 out2 [f]).bind fun out3 =>
    DV n out3 s.l s.forms
   |.pan e1 s1=>some (.inr (.pan e1 (out2,s1.l,s1.forms)))
  else
   some (.inl (out2,q6,q7))
def GD (n:Nat)(q:Int)(q1:Int)(out:(List Ay))(bad:Int)(bad1:Int)(q2:(List Aq))(q3:Int):Option (Ex Ax ((List Ay)×(List Aq)×Int) Unit) :=
 ((DV n out q2 q3
 ):Option (((List Ay)×(List Aq)×Int) ⊕ (Ex Ax ((List Ay)×(List Aq)×Int) Unit))).bind fun y=>match y with
 |.inl (out1,q4,q5) =>
  some (.ok () (out1,q4,q5))
 |.inr o=>some o
def FE (n:Nat)(q:Int)(q1:Int)(out:(List Ay))(src:ByteArray):Option (Av×(List Ay)) :=
 (Qz src).bind fun t =>
 bif (t.2.E != 0) then
  some (t.2,out)
 else
  (GD n q q1 out t.2.At t.2.E t.1 0).bind fun y=>match y with
  |.ok f c =>
   (gi c.2.1 0).bind fun x =>
   bif (x.Kind != 5) then
    (Bb (Ad.mk c.2.1 c.2.2) 5).bind fun y1=>match y1 with
    |.ok f1 s =>
     some ((Av.mk 0 0),c.1)
    |.pan e1 s1=>some ((Av.mk e1.At e1.E),c.1)
   else
    some ((Av.mk 0 0),c.1)
  |.pan e c1=>some ((Av.mk e.At e.E),c1.1)
def IB (n:Nat)(src:ByteArray):Option ((List Ay)×Av) :=
 (FE n 0 0 [] src).bind fun bad =>
 bif (bad.1.E != 0) then
  some ([],bad.1)
 else
  some (bad.2,bad.1)
mutual
def Dw:Nat->Ay->Int->(List Aq)->Bool->Option ((List Aq)×Bool)
 |0,_,_,_,_=>none
 |n+1,f,v97,p5,p6 =>
  bif (decide (v97<(f.Body.length:Int))) then
   (gi f.Body v97).bind fun x =>
   (Bz n (Am.mk p5 p6) x).bind fun f1 =>
   Dw n f (IntKind.i64.wrap (v97+1)) f1.2.l f1.2.bad
  else
   some (p5,p6)
def Bc:Nat->Ay->Int->(List Aq)->Bool->Option ((List Aq)×Bool)
 |0,_,_,_,_=>none
 |n+1,f,v15,p7,p8 =>
  bif (decide (v15<(f.Args.length:Int))) then
   (gi f.Args v15).bind fun x1 =>
   bif (x1.Kind == 1) then
    (Cx n (Am.mk p7 p8) x1.S).bind fun n_1 =>
    Bc n f (IntKind.i64.wrap (v15+1)) n_1.2.l n_1.2.bad
   else
    bif (x1.Kind == 2) then
     bif (decide (x1.N<0)) then
      (some [⟨#[45]⟩]).bind fun l3 =>
      (A6 n (Am.mk p7 p8) l3).bind fun s3 =>
      (CB s3.2 (if 0 > (IntKind.i64.wrap (0-x1.N)) then 0 else (IntKind.i64.wrap (0-x1.N)))).bind fun n_2 =>
      ((bif n_2.2.bad then
       some true
      else
       some (decide (x1.N<(-999999999999999)))
      ):Option Bool).bind fun p9 =>
       Bc n f (IntKind.i64.wrap (v15+1)) n_2.2.l p9
     else
      (CB (Am.mk p7 p8) x1.N).bind fun n_3 =>
      Bc n f (IntKind.i64.wrap (v15+1)) n_3.2.l n_3.2.bad
    else
     bif (x1.Kind == 3) then
      (Es n (Am.mk p7 p8) x1.S).bind fun t =>
      Bc n f (IntKind.i64.wrap (v15+1)) t.2.l t.2.bad
     else
      bif (x1.Kind == 4) then
       (some [⟨#[45,62]⟩]).bind fun l4 =>
       (A6 n (Am.mk p7 p8) l4).bind fun s4 =>
       Bc n f (IntKind.i64.wrap (v15+1)) s4.2.l s4.2.bad
      else
       bif (x1.Kind == 5) then
        (some [⟨#[40]⟩]).bind fun l5 =>
        (A6 n (Am.mk p7 p8) l5).bind fun s5 =>
        (Bi n s5.2 x1.E).bind fun e3 =>
        (some [⟨#[41]⟩]).bind fun l6 =>
        (A6 n e3.2 l6).bind fun s6 =>
        Bc n f (IntKind.i64.wrap (v15+1)) s6.2.l s6.2.bad
       else
        Bc n f (IntKind.i64.wrap (v15+1)) p7 true
  else
   some (p7,p8)
def Bz:Nat->Am->Ay->Option (Unit×Am)
 |0,_,_=>none
 |n+1,p,f =>
  (Cx n p f.Word).bind fun n_ =>
  ((Bc n f 0 n_.2.l n_.2.bad
  ):Option ((List Aq)×Bool)).bind fun y=>match y with
  |(p1,p2) =>
   bif ((f.Body.length:Int) == 0) then
    (some [⟨#[59]⟩]).bind fun l =>
    (A6 n (Am.mk p1 p2) l).bind fun s =>
    some ((),s.2)
   else
    (some [⟨#[123]⟩]).bind fun l1 =>
    (A6 n (Am.mk p1 p2) l1).bind fun s1 =>
    ((Dw n f 0 s1.2.l s1.2.bad
    ):Option ((List Aq)×Bool)).bind fun y1=>match y1 with
    |(p3,p4) =>
     (some [⟨#[125]⟩]).bind fun l2 =>
     (A6 n (Am.mk p3 p4) l2).bind fun s2 =>
     some ((),s2.2)
end
def Gm:Nat->(List Ay)->Int->(List Aq)->Bool->Option ((List Aq)×Bool)
 |0,_,_,_,_=>none
 |n+1,l,v14,q2,q3 =>
  bif (decide (v14<(l.length:Int))) then
   (gi l v14).bind fun x =>
   (Bz n (Am.mk q2 q3) x).bind fun f1 =>
   Gm n l (IntKind.i64.wrap (v14+1)) f1.2.l f1.2.bad
  else
   some (q2,q3)
def K6 (n:Nat)(l:(List Ay)):Option (ByteArray×Int) :=
 ((Gm n l 0 [] false
 ):Option ((List Aq)×Bool)).bind fun y=>match y with
 |(q,q1) =>
  bif q1 then
   some (⟨#[]⟩,1)
  else
   (Re q).bind fun s =>
   (IB n s).bind fun f =>
   bif (f.2.E != 0) then
    some (⟨#[]⟩,2)
   else
    some (s,0)
def Fh (m_:Ag)(x:(List Int)):Option Int :=
 (gi x 0).bind fun x1 =>
 some (IntKind.i64.wrap (0-x1))
def E2 (x:Int)(y:Int):Option (Int×Int) :=
 some ((IntKind.u64.wrap ((IntKind.u64.wrap ((IntKind.u64.wrap ((x.fdiv (2 ^ min (32:Int).toNat IntKind.u64.bits))*(y.fdiv (2 ^ min (32:Int).toNat IntKind.u64.bits))))+((IntKind.u64.wrap ((IntKind.u64.wrap ((x.fdiv (2 ^ min (32:Int).toNat IntKind.u64.bits))*(bits .and .u64 y 4294967295)))+((IntKind.u64.wrap ((bits .and .u64 x 4294967295)*(bits .and .u64 y 4294967295))).fdiv (2 ^ min (32:Int).toNat IntKind.u64.bits)))).fdiv (2 ^ min (32:Int).toNat IntKind.u64.bits))))+((IntKind.u64.wrap ((bits .and .u64 (IntKind.u64.wrap ((IntKind.u64.wrap ((x.fdiv (2 ^ min (32:Int).toNat IntKind.u64.bits))*(bits .and .u64 y 4294967295)))+((IntKind.u64.wrap ((bits .and .u64 x 4294967295)*(bits .and .u64 y 4294967295))).fdiv (2 ^ min (32:Int).toNat IntKind.u64.bits)))) 4294967295)+(IntKind.u64.wrap ((bits .and .u64 x 4294967295)*(y.fdiv (2 ^ min (32:Int).toNat IntKind.u64.bits)))))).fdiv (2 ^ min (32:Int).toNat IntKind.u64.bits)))),(IntKind.u64.wrap (x*y)))
def E4 (a_:Int)(b:Int):Option Int :=
 (E2 (IntKind.u64.wrap (if (IntKind.i64.wrap (0-a_)) > a_ then (IntKind.i64.wrap (0-a_)) else a_)) (IntKind.u64.wrap (if (IntKind.i64.wrap (0-b)) > b then (IntKind.i64.wrap (0-b)) else b))).bind fun m_ =>
 ((bif (m_.1 == 0) then
  some (decide (m_.2<999999999999999))
 else
  some false
 ):Option Bool).bind fun v27 =>
  ((bif v27 then
   some (IntKind.i64.wrap m_.2)
  else
   some 999999999999999
  ):Option Int).bind fun n_ =>
   bif (!((decide (a_<0)) == (decide (b<0)))) then
    some (IntKind.i64.wrap (0-n_))
   else
    some n_
def Fg (m_:Ag)(x:(List Int)):Option Int :=
 (gi x 0).bind fun x1 =>
 (gi x 1).bind fun x2 =>
 (E4 x1 x2).bind fun t =>
 some t
def C5 (n_:Int):Option Int :=
 some (if (if 999999999999999<n_ then 999999999999999 else n_) > (-999999999999999) then (if 999999999999999<n_ then 999999999999999 else n_) else (-999999999999999))
def Ff (m_:Ag)(x:(List Int)):Option Int :=
 (gi x 0).bind fun x1 =>
 (gi x 1).bind fun x2 =>
 (C5 (IntKind.i64.wrap (x1+x2))).bind fun n_ =>
 some n_
def Fi (n_:Int):Option Int :=
 some (if (if 41667<n_ then 41667 else n_) > 0 then (if 41667<n_ then 41667 else n_) else 0)
def Df (d:Int)(n_:Int):Option Int :=
 bif (d == 41667) then
  some d
 else
  (Fi (IntKind.i64.wrap (d+n_))).bind fun d1 =>
  some d1
def Fe (m_:Ag)(x:(List Int)):Option Int :=
 (gi x 0).bind fun x1 =>
 (gi x 1).bind fun x2 =>
 (Df x1 x2).bind fun m_1 =>
 some m_1
def Fc (m_:Ag)(x:(List Int)):Option Int :=
 (gi x 0).bind fun x1 =>
 (gi x 1).bind fun x2 =>
 (C5 (IntKind.i64.wrap (x1-x2))).bind fun n_ =>
 some n_
def Fb (m_:Ag)(x:(List Int)):Option Int :=
 (gi x 0).bind fun x1 =>
 (gi x 1).bind fun x2 =>
 (Df x1 (IntKind.i64.wrap (0-x2))).bind fun m_1 =>
 some m_1
def EZ (m_:Ag)(x:(List Int)):Option Int :=
 (gi x 0).bind fun x1 =>
 (gi x 1).bind fun x2 =>
 some (IntKind.i64.wrap (x1-x2))
def EY (m_:Ag)(x:(List Int)):Option Int :=
 (gi x 0).bind fun x1 =>
 some (IntKind.i64.wrap (1-x1))
def EX (m_:Ag)(x:(List Int)):Option Int :=
 (gi x 0).bind fun x1 =>
 (gi x 1).bind fun x2 =>
 some (bits .and .i64 x1 x2)
def EJ (m_:Ag)(x:(List Int)):Option Int :=
 (gi x 0).bind fun x1 =>
 (gi x 1).bind fun x2 =>
 some (bits .or .i64 x1 x2)
def EI (m_:Ag)(x:(List Int)):Option Int :=
 (gi x 0).bind fun x1 =>
 (Fi x1).bind fun d =>
 some d
def EH (m_:Ag)(x:(List Int)):Option Int :=
 (gi x 0).bind fun x1 =>
 some (if (if 1000<x1 then 1000 else x1) > 0 then (if 1000<x1 then 1000 else x1) else 0)
def E9 (m_:Ag)(x:(List Int)):Option Int :=
 (gi x 0).bind fun x1 =>
 (gi x (IntKind.i64.wrap (2-x1))).bind fun x2 =>
 some x2
def E8 (m_:Ag)(x:(List Int)):Option Int :=
 (gi x 0).bind fun x1 =>
 (gi x 1).bind fun x2 =>
 some (if x2<x1 then x2 else x1)
def E7 (m_:Ag)(x:(List Int)):Option Int :=
 (gi x 0).bind fun x1 =>
 (gi x 1).bind fun x2 =>
 some (if x2 > x1 then x2 else x1)
def EF (a_:Int)(b:Int):Option Bool :=
 some (decide (a_<b))
def EE (a_:Int)(b:Int):Option Bool :=
 some (decide (a_<=b))
def ED (a_:Int)(b:Int):Option Bool :=
 some (decide (b<a_))
def EC (a_:Int)(b:Int):Option Bool :=
 some (decide (b<=a_))
def EB (a_:Int)(b:Int):Option Bool :=
 some (a_ == b)
def EA (a_:Int)(b:Int):Option Bool :=
 some (a_ != b)
def Bg:Nat->Ag->Int->Int->Int->Int->Option Int
 |0,_,_,_,_,_=>none
 |n+1,m_,kind,who,best1,v14 =>
  bif (decide (v14<(m_.d.Facts.length:Int))) then
   (gi m_.d.Facts v14).bind fun x1 =>
   ((bif (x1.Kind == kind) then
    bif (x1.Who == who) then
     bif (decide (x1.Known<=m_.known)) then
      bif (decide (best1<0)) then
       some true
      else
       (gi m_.d.Facts best1).bind fun x2 =>
       some (decide (x2.Known<=x1.Known))
     else
      some false
    else
     some false
   else
    some false
   ):Option Bool).bind fun v51 =>
    bif v51 then
     Bg n m_ kind who v14 (IntKind.i64.wrap (v14+1))
    else
     Bg n m_ kind who best1 (IntKind.i64.wrap (v14+1))
  else
   some best1
theorem D6 (n:Nat)(m_:Ag)(kind:Int)(who:Int)(best1:Int)(v14:Int):Bg (n+1) m_ kind who best1 v14 =
 bif (decide (v14<(m_.d.Facts.length:Int))) then
  (gi m_.d.Facts v14).bind fun x1 =>
  ((bif (x1.Kind == kind) then
   bif (x1.Who == who) then
    bif (decide (x1.Known<=m_.known)) then
     bif (decide (best1<0)) then
      some true
     else
      (gi m_.d.Facts best1).bind fun x2 =>
      some (decide (x2.Known<=x1.Known))
    else
     some false
   else
    some false
  else
   some false
  ):Option Bool).bind fun v51 =>
   bif v51 then
    Bg n m_ kind who v14 (IntKind.i64.wrap (v14+1))
   else
    Bg n m_ kind who best1 (IntKind.i64.wrap (v14+1))
 else
  some best1:=by rw [Bg]
def Cl (n:Nat)(m_:Ag)(kind:Int)(who:Int):Option Int :=
 ((Bg n m_ kind who (-1) 0
 ):Option Int).bind fun best =>
  bif (decide (best<0)) then
   some 41667
  else
   (gi m_.d.Facts best).bind fun x =>
   some x.Day
def CY (b:Bool):Option Int :=
 bif b then
  some 1
 else
  some 0
def EG (n:Nat)(k:Int)(m_:Ag)(x:(List Int)):Option Int :=
 (gi x 0).bind fun x1 =>
 (Cl n m_ (IntKind.i64.wrap (k+1)) x1).bind fun f =>
 some f
def DN (m_:Ag)(x:(List Int)):Option Int :=
 (gi x 0).bind fun x1 =>
 (gi x 1).bind fun x2 =>
 (EF x1 x2).bind fun o_ =>
 (CY o_).bind fun f =>
 some f
def DM (m_:Ag)(x:(List Int)):Option Int :=
 (gi x 0).bind fun x1 =>
 (gi x 1).bind fun x2 =>
 (EE x1 x2).bind fun o_ =>
 (CY o_).bind fun f =>
 some f
def DL (m_:Ag)(x:(List Int)):Option Int :=
 (gi x 0).bind fun x1 =>
 (gi x 1).bind fun x2 =>
 (ED x1 x2).bind fun o_ =>
 (CY o_).bind fun f =>
 some f
def DK (m_:Ag)(x:(List Int)):Option Int :=
 (gi x 0).bind fun x1 =>
 (gi x 1).bind fun x2 =>
 (EC x1 x2).bind fun o_ =>
 (CY o_).bind fun f =>
 some f
def DJ (m_:Ag)(x:(List Int)):Option Int :=
 (gi x 0).bind fun x1 =>
 (gi x 1).bind fun x2 =>
 (EB x1 x2).bind fun o_ =>
 (CY o_).bind fun f =>
 some f
def D5 (m_:Ag)(x:(List Int)):Option Int :=
 (gi x 0).bind fun x1 =>
 (gi x 1).bind fun x2 =>
 (EA x1 x2).bind fun o_ =>
 (CY o_).bind fun f =>
 some f
def Ea (op:Int):Option Int :=
 ((bif (op == 1) then
  some (op == 1)
 else
  bif (op == 2) then
   some (op == 2)
  else
   some (op == 3)
 ):Option Bool).bind fun v4 =>
  bif v4 then
   some 0
  else
   ((bif (op == 5) then
    some (op == 5)
   else
    some (op == 6)
   ):Option Bool).bind fun v8 =>
    bif v8 then
     some 1
    else
     bif (op == 20) then
      some 3
     else
      bif (op == 4) then
       some (-1)
      else
       some 2
def AQ (s:(List Ab))(s1:(List (ByteArray×Int)))(e:Int)(e1:Int)(e2:ByteArray)(e3:(List Aa))(e4:Int)(o_:Int)(o_1:ByteArray)(o_2:(List Int))(o_3:Int)(o_4:Do)(p:Int)(p1:Int)(x:Int):Option (Int×Ab×Av) :=
 some (0,(Ab.mk 0 ⟨#[]⟩ [] 0 Do.nil),(Av.mk e4 x))
def By:Nat->(List Int)->(List Int)->Int->Option (Unit ⊕ Bool)
 |0,_,_,_=>none
 |n+1,s1,s2,v13 =>
  bif (decide (v13<(s1.length:Int))) then
   (gi s1 v13).bind fun x =>
   (gi s2 v13).bind fun x1 =>
   bif (x != x1) then
    some (.inr false)
   else
    By n s1 s2 (IntKind.i64.wrap (v13+1))
  else
   some (.inl ())
theorem FM (n:Nat)(s1:(List Int))(s2:(List Int))(v13:Int):By (n+1) s1 s2 v13 =
 bif (decide (v13<(s1.length:Int))) then
  (gi s1 v13).bind fun x =>
  (gi s2 v13).bind fun x1 =>
  bif (x != x1) then
   some (.inr false)
  else
   By n s1 s2 (IntKind.i64.wrap (v13+1))
 else
  some (.inl ()):=by rw [By]
def CP (n:Nat)(s1:(List Int))(s2:(List Int)):Option Bool :=
 bif ((s1.length:Int) != (s2.length:Int)) then
  some false
 else
  ((By n s1 s2 0
  ):Option (Unit ⊕ Bool)).bind fun y=>match y with
  |.inl _ =>
   some true
  |.inr o=>some o
mutual
def AJ:Nat->AR->Aa->(List Int)->Bool->Bool->Int->Option ((Bool×Bool) ⊕ (Int×Ab×Av))
 |0,_,_,_,_,_,_=>none
 |n+1,s,e,types,known1,fits1,v121 =>
  bif (decide (v121<(s.ops.length:Int))) then
   (gi s.ops v121).bind fun x =>
   ((bif (x.op != e.Op) then
    some true
   else
    bif (x.op == 4) then
     some (!decide (x.name=e.S))
    else
     some false
   ):Option Bool).bind fun v141 =>
    bif v141 then
     AJ n s e types known1 fits1 (IntKind.i64.wrap (v121+1))
    else
     ((bif fits1 then
      some true
     else
      some ((x.args.length:Int) == (types.length:Int))
     ):Option Bool).bind fun fits2 =>
      (CP n x.args types).bind fun e9 =>
      bif e9 then
       some (.inr (x.kind,x,(Av.mk 0 0)))
      else
       AJ n s e types true fits2 (IntKind.i64.wrap (v121+1))
  else
   some (.inl (known1,fits1))
def Be:Nat->Aa->AR->(List Int)->Int->Option ((List Int) ⊕ (Int×Ab×Av))
 |0,_,_,_,_=>none
 |n+1,e,s,types1,v52 =>
  bif (decide (v52<(e.Kids.length:Int))) then
   (gi e.Kids v52).bind fun x1 =>
   (A5 n s x1).bind fun f7 =>
   bif (f7.2.2.E != 0) then
    some (.inr (0,(Ab.mk 0 ⟨#[]⟩ [] 0 Do.nil),f7.2.2))
   else
    (some [f7.1]).bind fun l =>
    (D7 9 types1 l).bind fun l1 =>
    Be n e s l1 (IntKind.i64.wrap (v52+1))
  else
   some (.inl types1)
def A5:Nat->AR->Aa->Option (Int×Ab×Av)
 |0,_,_=>none
 |n+1,s,e =>
  (Ea e.Op).bind fun n_ =>
  ((bif (decide (e.Op<1)) then
   some true
  else
   bif (decide (20<e.Op)) then
    some true
   else
    bif (decide (0<=n_)) then
     some ((e.Kids.length:Int) != n_)
    else
     some false
  ):Option Bool).bind fun v43 =>
   bif v43 then
    (AQ s.ops s.names e.Op e.N e.S e.Kids e.At 0 ⟨#[]⟩ [] 0 Do.nil 0 0 1).bind fun f =>
    some (f.1,f.2.1,f.2.2)
   else
    ((Be n e s [] 0
    ):Option ((List Int) ⊕ (Int×Ab×Av))).bind fun y1=>match y1 with
    |.inl types =>
     bif (e.Op == 1) then
      ((bif (decide (e.N<0)) then
       some true
      else
       some (decide (999999999999999<e.N))
      ):Option Bool).bind fun v84 =>
       bif v84 then
        (AQ s.ops s.names e.Op e.N e.S e.Kids e.At 0 ⟨#[]⟩ [] 0 Do.nil 0 0 1).bind fun f1 =>
        some (f1.1,f1.2.1,f1.2.2)
       else
        some (1,(Ab.mk 0 ⟨#[]⟩ [] 0 Do.nil),(Av.mk 0 0))
     else
      bif (e.Op == 2) then
       (AQ s.ops s.names e.Op e.N e.S e.Kids e.At 0 ⟨#[]⟩ [] 0 Do.nil 0 0 7).bind fun f2 =>
       some (f2.1,f2.2.1,f2.2.2)
      else
       bif (e.Op == 3) then
        bif (Bh s.names e.S).2 then
         some ((Bh s.names e.S).1,(Ab.mk 0 ⟨#[]⟩ [] 0 Do.nil),(Av.mk 0 0))
        else
         (AQ s.ops s.names e.Op e.N e.S e.Kids e.At 0 ⟨#[]⟩ [] 0 Do.nil 0 0 6).bind fun f3 =>
         some (f3.1,f3.2.1,f3.2.2)
       else
        ((AJ n s e types false false 0
        ):Option ((Bool×Bool) ⊕ (Int×Ab×Av))).bind fun y3=>match y3 with
        |.inl (known,fits) =>
         ((bif (e.Op == 4) then
          some (!known)
         else
          some false
         ):Option Bool).bind fun v160 =>
          bif v160 then
           (AQ s.ops s.names e.Op e.N e.S e.Kids e.At 0 ⟨#[]⟩ [] 0 Do.nil 0 0 6).bind fun f4 =>
           some (f4.1,f4.2.1,f4.2.2)
          else
           ((bif (e.Op == 4) then
            some (!fits)
           else
            some false
           ):Option Bool).bind fun v173 =>
            bif v173 then
             (AQ s.ops s.names e.Op e.N e.S e.Kids e.At 0 ⟨#[]⟩ [] 0 Do.nil 0 0 1).bind fun f5 =>
             some (f5.1,f5.2.1,f5.2.2)
            else
             (AQ s.ops s.names e.Op e.N e.S e.Kids e.At 0 ⟨#[]⟩ [] 0 Do.nil 0 0 7).bind fun f6 =>
             some (f6.1,f6.2.1,f6.2.2)
        |.inr o=>some o
    |.inr o=>some o
end
theorem CW (n:Nat)(s:AR)(e:Aa)(types:(List Int))(known1:Bool)(fits1:Bool)(v121:Int):AJ (n+1) s e types known1 fits1 v121 =
 bif (decide (v121<(s.ops.length:Int))) then
  (gi s.ops v121).bind fun x =>
  ((bif (x.op != e.Op) then
   some true
  else
   bif (x.op == 4) then
    some (!decide (x.name=e.S))
   else
    some false
  ):Option Bool).bind fun v141 =>
   bif v141 then
    AJ n s e types known1 fits1 (IntKind.i64.wrap (v121+1))
   else
    ((bif fits1 then
     some true
    else
     some ((x.args.length:Int) == (types.length:Int))
    ):Option Bool).bind fun fits2 =>
     (CP n x.args types).bind fun e9 =>
     bif e9 then
      some (.inr (x.kind,x,(Av.mk 0 0)))
     else
      AJ n s e types true fits2 (IntKind.i64.wrap (v121+1))
 else
  some (.inl (known1,fits1)):=by rw [AJ]
theorem EO (n:Nat)(e:Aa)(s:AR)(types1:(List Int))(v52:Int):Be (n+1) e s types1 v52 =
 bif (decide (v52<(e.Kids.length:Int))) then
  (gi e.Kids v52).bind fun x1 =>
  (A5 n s x1).bind fun f7 =>
  bif (f7.2.2.E != 0) then
   some (.inr (0,(Ab.mk 0 ⟨#[]⟩ [] 0 Do.nil),f7.2.2))
  else
   (some [f7.1]).bind fun l =>
   (D7 9 types1 l).bind fun l1 =>
   Be n e s l1 (IntKind.i64.wrap (v52+1))
 else
  some (.inl types1):=by rw [Be]
def FI (n:Nat)(d:Do)(m:Ag)(x:List Int):Option Int:=match d with
 |.c 77=>Fh m x
 |.c 78=>Fg m x
 |.c 80=>Ff m x
 |.c 82=>Fe m x
 |.c 84=>Fc m x
 |.c 85=>Fb m x
 |.c 86=>EZ m x
 |.c 87=>EY m x
 |.c 88=>EX m x
 |.c 89=>EJ m x
 |.c 90=>EI m x
 |.c 92=>EH m x
 |.c 103=>E9 m x
 |.c 104=>E8 m x
 |.c 105=>E7 m x
 |.k k=>EG n k m x
 |.is 95=>DN m x
 |.is 96=>DM m x
 |.is 97=>DL m x
 |.is 98=>DK m x
 |.is 99=>DJ m x
 |.is 100=>D5 m x
 |_=>none
mutual
def AO:Nat->Aa->AR->Ag->(List Int)->Int->Option (List Int)
 |0,_,_,_,_,_=>none
 |n+1,e,s,m_,x1,v35 =>
  bif (decide (v35<(e.Kids.length:Int))) then
   (gi e.Kids v35).bind fun x2 =>
   (AE n s x2 m_).bind fun v_ =>
   (some [v_]).bind fun l =>
   (D7 9 x1 l).bind fun l1 =>
   AO n e s m_ l1 (IntKind.i64.wrap (v35+1))
  else
   some x1
def AE:Nat->AR->Aa->Ag->Option Int
 |0,_,_,_=>none
 |n+1,s,e,m_ =>
  bif (e.Op == 1) then
   some e.N
  else
   bif (e.Op == 3) then
    some ((Bh [(⟨#[121,101,97,114]⟩,365),(⟨#[115,116,111,114,101,100]⟩,m_.d.Stored),(⟨#[110,101,118,101,114]⟩,41667),(⟨#[111,119,110,101,114]⟩,m_.d.Owner)] e.S).1)
   else
    ((AO n e s m_ [] 0
    ):Option (List Int)).bind fun x =>
     (A5 n s (Aa.mk e.Op e.N e.S e.Kids e.At)).bind fun f =>
     (ZQ f.2.1.do_).bind fun d =>
     (FI n d m_ x).bind fun r1 =>
     some r1
end
theorem Ey (n:Nat)(e:Aa)(s:AR)(m_:Ag)(x1:(List Int))(v35:Int):AO (n+1) e s m_ x1 v35 =
 bif (decide (v35<(e.Kids.length:Int))) then
  (gi e.Kids v35).bind fun x2 =>
  (AE n s x2 m_).bind fun v_ =>
  (some [v_]).bind fun l =>
  (D7 9 x1 l).bind fun l1 =>
  AO n e s m_ l1 (IntKind.i64.wrap (v35+1))
 else
  some x1:=by rw [AO]
theorem D4 (n:Nat)(s:AR)(e:Aa)(m_:Ag):AE (n+1) s e m_ =
 bif (e.Op == 1) then
  some e.N
 else
  bif (e.Op == 3) then
   some ((Bh [(⟨#[121,101,97,114]⟩,365),(⟨#[115,116,111,114,101,100]⟩,m_.d.Stored),(⟨#[110,101,118,101,114]⟩,41667),(⟨#[111,119,110,101,114]⟩,m_.d.Owner)] e.S).1)
  else
   ((AO n e s m_ [] 0
   ):Option (List Int)).bind fun x =>
    (A5 n s (Aa.mk e.Op e.N e.S e.Kids e.At)).bind fun f =>
    (ZQ f.2.1.do_).bind fun d =>
    (FI n d m_ x).bind fun r1 =>
    some r1:=by rw [AE]
abbrev hT (l:List Aq):PV:=hP l C3
abbrev oT (l:List Aq):PV:=oP l C3
abbrev hX (l:List Aa):PV:=hP l Ba
abbrev oX (l:List Aa):PV:=oP l Ba
abbrev hF (l:List Ay):PV:=hP l BY
abbrev oF (l:List Ay):PV:=oP l BY
abbrev hA (l:List AK):PV:=hP l Cq
abbrev oA (l:List AK):PV:=oP l Cq
abbrev hS (l:List ByteArray):PV:=hP l BG
abbrev hI (l:List Int):PV:=hP l Az
abbrev oI (l:List Int):PV:=oP l Az
abbrev hZ (l:List Bl):PV:=hP l Dc
abbrev hO (l:List Ab):PV:=hP l Ae
abbrev hE (l:List A8):PV:=hP l Ed
abbrev oE (l:List A8):PV:=oP l Ed
end Go.Sp
namespace Go.Sp
open Go
def Ev {α:Type}(f:Nat->Option α)(a:α):Prop:=∃ N,∀ n,N<=n->f n=some a
namespace Ev
variable {α β:Type} {f:Nat->Option α} {a:α} {b:β}
theorem const {x:Option α}(h:x=some a):Ev (fun _=>x) a:=⟨0,fun _ _=>h⟩
theorem pure:Ev (fun _=>some a) a:=const rfl
theorem of (h:∀ n,f n=some a):Ev f a:=⟨0,fun n _=>h n⟩
theorem bind {g:Nat->α->Option β}(h:Ev f a)(k:Ev (fun n=>g n a) b):Ev (fun n=>(f n).bind (g n)) b:=by
 obtain⟨N,h⟩:=h
 obtain⟨M,k⟩:=k
 exact⟨max N M,fun n hn=>by
  show (f n).bind (g n)=some b
  rw [h n (by omega)];exact k n (by omega)⟩
theorem step {F:Nat->Option α}(e:∀ n,F (n+1)=f n)(h:Ev f a):Ev F a:=by
 obtain⟨N,h⟩:=h
 refine⟨N+1,fun n hn=>?_⟩
 obtain⟨m,rfl⟩:∃ m,n=m+1:=⟨n-1,by omega⟩
 rw [e];exact h m (by omega)
theorem congr {g:Nat->Option α}(h:Ev g a)(e:∀ n,f n=g n):Ev f a:=by
 obtain⟨N,h⟩:=h
 exact⟨N,fun n hn=>(e n).trans (h n hn)⟩
theorem get (h:Ev f a):∃ n,f n=some a:=by
 obtain⟨N,h⟩:=h
 exact⟨N,h N (Nat.le_refl _)⟩
end Ev
theorem Ck {x:Int}(h1 : -9223372036854775808<=x)(h2:x<9223372036854775808):IntKind.i64.wrap x=x:=by
 rw [IntKind.wrap_i64];omega
end Go.Sp
