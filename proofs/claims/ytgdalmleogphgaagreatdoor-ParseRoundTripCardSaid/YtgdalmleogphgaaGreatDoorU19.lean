/-
  Chapter 32 as plain functions, second part: what the lexer answers, then Forms, Expr, Print, and what the statements compute; no program. (Printed by lift.py, but for the lexer's.)
-/
import Derived.Lib.Join
import Derived.Lib.ItoaNum
import Derived.Test.YtgdalmleogphgaaGreatDoorU5
import Derived.Test.YtgdalmleogphgaaGreatDoorU15
namespace Go.Sp
open Go Go.Vl
set_option linter.unusedVariables false
structure Ay where
 At:Int
 E:Int
structure Jf where
 L:(List Ab)
 P:Ay
structure AO where
 L:(List Af)
 X:Aa
 P:Ay
def E9 (t:Lx.Tok):Ab:=⟨(t.kind:Int),(t.at_:Int),⟨⟨t.s⟩⟩,(t.n:Int)⟩
def CJ (src:ByteArray):List Ab×Ay :=
 if 65536<src.size then ([],⟨0,2⟩)
 else match Lx.tokens src.data.toList with
  |.ok ts=>(ts.map E9,⟨0,0⟩)
  |.error (p,e)=>([],⟨(p:Int),(e:Int)⟩)
def IB (src:ByteArray):Option (List Ab×Ay):=some (CJ src)
def C0 (src:ByteArray):Option Jf:=some ⟨(CJ src).1,(CJ src).2⟩
def Em (t:Ab):List (List UInt8):=if t.Kind=1∨t.Kind=4 then [t.S.data.toList] else if t.Kind=2 then [Lib.itoa t.N] else if t.Kind=3 then [34::Lx.quoted t.S.data.toList++[34]] else []
def CE (l:List Ab):ByteArray:=⟨⟨Lib.join (l.flatMap Em) [32]⟩⟩
def PD (l:List Ab):Prop:=l.length<=1000000/\(∀ t∈l,-9223372036854775808<=t.N/\t.N<=9223372036854775807)/\(CE l).size<=140737488355328/\∀ t∈l,t.Kind≠3∨t.S.size<=1000000
instance (l:List Ab):Decidable (PD l):=by unfold PD;exact inferInstance
def Gr (l:List Ab):Option ByteArray:=if PD l then some (CE l) else none
def B2:Nat->(List Af)->(List Ab)->Int->Option (((List Af)×(List Ab)×Int) ⊕ (Ex Al ((List Af)×(List Ab)×Int) Unit))
 |0,_,_,_=>none
 |n+1,out2,q6,q7 =>
  (gi q6 0).bind fun x =>
  bif (x.Kind != 5) then
   (Bh n (Ad.mk q6 q7) 1).bind fun y1=>match y1 with
   |.ok f s =>
    (CO 73 out2 [f]).bind fun out3 =>
    B2 n out3 s.l s.forms
   |.pan e1 s1=>some (.inr (.pan e1 (out2,s1.l,s1.forms)))
  else
   some (.inl (out2,q6,q7))
def D6 (n:Nat)(q:Int)(q1:Int)(out:(List Af))(bad:Int)(bad1:Int)(q2:(List Ab))(q3:Int):Option (Ex Al ((List Af)×(List Ab)×Int) Unit) :=
 ((B2 n out q2 q3
 ):Option (((List Af)×(List Ab)×Int) ⊕ (Ex Al ((List Af)×(List Ab)×Int) Unit))).bind fun y=>match y with
 |.inl (out1,q4,q5) =>
  some (.ok () (out1,q4,q5))
 |.inr o=>some o
def Dm (n:Nat)(q:Int)(q1:Int)(out:(List Af))(src:ByteArray):Option (Ay×(List Af)) :=
 (IB src).bind fun t =>
 bif (t.2.E != 0) then
  some (t.2,out)
 else
  (D6 n q q1 out t.2.At t.2.E t.1 0).bind fun y=>match y with
  |.ok f c =>
   (gi c.2.1 0).bind fun x =>
   bif (x.Kind != 5) then
    (AN (Ad.mk c.2.1 c.2.2) 5).bind fun y1=>match y1 with
    |.ok f1 s =>
     some ((Ay.mk 0 0),c.1)
    |.pan e1 s1=>some ((Ay.mk e1.At e1.E),c.1)
   else
    some ((Ay.mk 0 0),c.1)
  |.pan e c1=>some ((Ay.mk e.At e.E),c1.1)
def BM (n:Nat)(src:ByteArray):Option ((List Af)×Ay) :=
 (Dm n 0 0 [] src).bind fun bad =>
 bif (bad.1.E != 0) then
  some ([],bad.1)
 else
  some (bad.2,bad.1)
def DC (n:Nat)(q:Int)(q1:Int)(q2:ByteArray)(q3:(List Aa))(q4:Int)(q5:Int)(q6:Int)(out:Int)(out1:Int)(out2:ByteArray)(out3:(List Aa))(out4:Int)(bad:Int)(bad1:Int)(q7:(List Ab))(q8:Int):Option (Ex Al (Int×Int×ByteArray×(List Aa)×Int×(List Ab)×Int) Unit) :=
 (Ax n (Ad.mk q7 q8) 1).bind fun y=>match y with
 |.ok e s =>
  some (.ok () (e.Op,e.N,e.S,e.Kids,e.At,s.l,s.forms))
 |.pan e1 s1=>some (.pan e1 (out,out1,out2,out3,out4,s1.l,s1.forms))
def Dl (n:Nat)(q:Int)(q1:Int)(q2:ByteArray)(q3:(List Aa))(q4:Int)(q5:Int)(q6:Int)(out:Int)(out1:Int)(out2:ByteArray)(out3:(List Aa))(out4:Int)(src:ByteArray):Option (Ay×Int×Int×ByteArray×(List Aa)×Int) :=
 (IB src).bind fun t =>
 bif (t.2.E != 0) then
  some (t.2,out,out1,out2,out3,out4)
 else
  (DC n q q1 q2 q3 q4 q5 q6 out out1 out2 out3 out4 t.2.At t.2.E t.1 0).bind fun y=>match y with
  |.ok e c =>
   (gi c.2.2.2.2.2.1 0).bind fun x =>
   bif (x.Kind != 5) then
    (AN (Ad.mk c.2.2.2.2.2.1 c.2.2.2.2.2.2) 5).bind fun y1=>match y1 with
    |.ok f s =>
     some ((Ay.mk 0 0),c.1,c.2.1,c.2.2.1,c.2.2.2.1,c.2.2.2.2.1)
    |.pan e2 s1=>some ((Ay.mk e2.At e2.E),c.1,c.2.1,c.2.2.1,c.2.2.2.1,c.2.2.2.2.1)
   else
    some ((Ay.mk 0 0),c.1,c.2.1,c.2.2.1,c.2.2.2.1,c.2.2.2.2.1)
  |.pan e1 c1=>some ((Ay.mk e1.At e1.E),c1.1,c1.2.1,c1.2.2.1,c1.2.2.2.1,c1.2.2.2.2.1)
def BF (n:Nat)(src:ByteArray):Option (Aa×Ay) :=
 (Dl n 0 0 ⟨#[]⟩ [] 0 0 0 0 0 ⟨#[]⟩ [] 0 src).bind fun bad =>
 bif (bad.1.E != 0) then
  some ((Aa.mk 0 0 ⟨#[]⟩ [] 0),bad.1)
 else
  some ((Aa.mk bad.2.1 bad.2.2.1 bad.2.2.2.1 bad.2.2.2.2.1 bad.2.2.2.2.2),bad.1)
def Bn:Nat->Jf->(List Af)->Int->Int->Option ((List Af) ⊕ AO)
 |0,_,_,_,_=>none
 |n+1,t,out1,k,n_ =>
  (gi t.L k).bind fun x =>
  bif (x.Kind != 5) then
   (BU n t.L k 1 n_).bind fun x1 =>
   bif (x1.E != 0) then
    (gi t.L x1.To).bind fun x2 =>
    some (.inr (AO.mk [] (Aa.mk 0 0 ⟨#[]⟩ [] 0) (Ay.mk x2.At x1.E)))
   else
    (some [x1.F]).bind fun l =>
    (CO 73 out1 l).bind fun l1 =>
    Bn n t l1 x1.To x1.N
  else
   some (.inl out1)
def CG (n:Nat)(src:ByteArray):Option AO :=
 (C0 src).bind fun t =>
 bif (t.P.E != 0) then
  some (AO.mk [] (Aa.mk 0 0 ⟨#[]⟩ [] 0) t.P)
 else
  ((Bn n t [] 0 0
  ):Option ((List Af) ⊕ AO)).bind fun y=>match y with
  |.inl out =>
   some (AO.mk out (Aa.mk 0 0 ⟨#[]⟩ [] 0) (Ay.mk 0 0))
  |.inr o=>some o
def Da (n:Nat)(src:ByteArray):Option AO :=
 (C0 src).bind fun t =>
 bif (t.P.E != 0) then
  some (AO.mk [] (Aa.mk 0 0 ⟨#[]⟩ [] 0) t.P)
 else
  (AI n t.L 0 1).bind fun x =>
  bif (x.E != 0) then
   (gi t.L x.To).bind fun x1 =>
   some (AO.mk [] (Aa.mk 0 0 ⟨#[]⟩ [] 0) (Ay.mk x1.At x.E))
  else
   (gi t.L x.To).bind fun x2 =>
   bif (x2.Kind != 5) then
    some (AO.mk [] (Aa.mk 0 0 ⟨#[]⟩ [] 0) (Ay.mk x2.At 5))
   else
    some (AO.mk [] x.X (Ay.mk 0 0))
mutual
def BL:Nat->Af->Int->(List Ab)->Bool->Option ((List Ab)×Bool)
 |0,_,_,_,_=>none
 |n+1,f,v97,p5,p6 =>
  bif (decide (v97<(f.Body.length:Int))) then
   (gi f.Body v97).bind fun x =>
   (B6 n (Ag.mk p5 p6) x).bind fun f1 =>
   BL n f (IntKind.i64.wrap (v97+1)) f1.2.l f1.2.bad
  else
   some (p5,p6)
def AL:Nat->Af->Int->(List Ab)->Bool->Option ((List Ab)×Bool)
 |0,_,_,_,_=>none
 |n+1,f,v15,p7,p8 =>
  bif (decide (v15<(f.Args.length:Int))) then
   (gi f.Args v15).bind fun x1 =>
   bif (x1.Kind == 1) then
    (BW n (Ag.mk p7 p8) x1.S).bind fun n_1 =>
    AL n f (IntKind.i64.wrap (v15+1)) n_1.2.l n_1.2.bad
   else
    bif (x1.Kind == 2) then
     bif (decide (x1.N<0)) then
      (some [⟨#[45]⟩]).bind fun l3 =>
      (A9 n (Ag.mk p7 p8) l3).bind fun s3 =>
      (BR s3.2 (if 0 > (IntKind.i64.wrap (0-x1.N)) then 0 else (IntKind.i64.wrap (0-x1.N)))).bind fun n_2 =>
      ((bif n_2.2.bad then
       some true
      else
       some (decide (x1.N<(-999999999999999)))
      ):Option Bool).bind fun p9 =>
       AL n f (IntKind.i64.wrap (v15+1)) n_2.2.l p9
     else
      (BR (Ag.mk p7 p8) x1.N).bind fun n_3 =>
      AL n f (IntKind.i64.wrap (v15+1)) n_3.2.l n_3.2.bad
    else
     bif (x1.Kind == 3) then
      (Cx n (Ag.mk p7 p8) x1.S).bind fun t =>
      AL n f (IntKind.i64.wrap (v15+1)) t.2.l t.2.bad
     else
      bif (x1.Kind == 4) then
       (some [⟨#[45,62]⟩]).bind fun l4 =>
       (A9 n (Ag.mk p7 p8) l4).bind fun s4 =>
       AL n f (IntKind.i64.wrap (v15+1)) s4.2.l s4.2.bad
      else
       bif (x1.Kind == 5) then
        (some [⟨#[40]⟩]).bind fun l5 =>
        (A9 n (Ag.mk p7 p8) l5).bind fun s5 =>
        (AZ n s5.2 x1.E).bind fun e3 =>
        (some [⟨#[41]⟩]).bind fun l6 =>
        (A9 n e3.2 l6).bind fun s6 =>
        AL n f (IntKind.i64.wrap (v15+1)) s6.2.l s6.2.bad
       else
        AL n f (IntKind.i64.wrap (v15+1)) p7 true
  else
   some (p7,p8)
def B6:Nat->Ag->Af->Option (Unit×Ag)
 |0,_,_=>none
 |n+1,p,f =>
  (BW n p f.Word).bind fun n_ =>
  ((AL n f 0 n_.2.l n_.2.bad
  ):Option ((List Ab)×Bool)).bind fun y=>match y with
  |(p1,p2) =>
   bif ((f.Body.length:Int) == 0) then
    (some [⟨#[59]⟩]).bind fun l =>
    (A9 n (Ag.mk p1 p2) l).bind fun s =>
    some ((),s.2)
   else
    (some [⟨#[123]⟩]).bind fun l1 =>
    (A9 n (Ag.mk p1 p2) l1).bind fun s1 =>
    ((BL n f 0 s1.2.l s1.2.bad
    ):Option ((List Ab)×Bool)).bind fun y1=>match y1 with
    |(p3,p4) =>
     (some [⟨#[125]⟩]).bind fun l2 =>
     (A9 n (Ag.mk p3 p4) l2).bind fun s2 =>
     some ((),s2.2)
end
def CI:Nat->(List Af)->Int->(List Ab)->Bool->Option ((List Ab)×Bool)
 |0,_,_,_,_=>none
 |n+1,l,v14,q2,q3 =>
  bif (decide (v14<(l.length:Int))) then
   (gi l v14).bind fun x =>
   (B6 n (Ag.mk q2 q3) x).bind fun f1 =>
   CI n l (IntKind.i64.wrap (v14+1)) f1.2.l f1.2.bad
  else
   some (q2,q3)
def Ds (n:Nat)(l:(List Af)):Option (ByteArray×Int) :=
 ((CI n l 0 [] false
 ):Option ((List Ab)×Bool)).bind fun y=>match y with
 |(q,q1) =>
  bif q1 then
   some (⟨#[]⟩,1)
  else
   (Gr q).bind fun s =>
   (BM n s).bind fun f =>
   bif (f.2.E != 0) then
    some (⟨#[]⟩,2)
   else
    some (s,0)
def Cw (n:Nat)(e:Aa):Option (ByteArray×Int) :=
 (AZ n (Ag.mk [] false) (Aa.mk e.Op e.N e.S e.Kids e.At)).bind fun e1 =>
 bif e1.2.bad then
  some (⟨#[]⟩,1)
 else
  (Gr e1.2.l).bind fun s =>
  (BF n s).bind fun e2 =>
  bif (e2.2.E != 0) then
   some (⟨#[]⟩,2)
  else
   some (s,0)
def F1 (n:Nat):Option Bool :=
 (BM n ⟨#[108,105,102,116,32,108,49,32,45,53,32,34,97,34,32,45,62,32,40,120,32,43,32,49,41,32,123,32,100,111,103,59,32,125]⟩).bind fun f =>
 ((bif (!((f.2.At == 0)&&((f.2.E == 0)&&true))) then
  some true
 else
  bif ((f.1.length:Int) != 1) then
   some true
  else
   (gi f.1 0).bind fun x =>
   bif (!decide (x.Word=⟨#[108,105,102,116]⟩)) then
    some true
   else
    bif ((x.Args.length:Int) != 5) then
     some true
    else
     bif ((x.Body.length:Int) != 1) then
      some true
     else
      (gi x.Args 1).bind fun x1 =>
      bif (x1.N != (-5)) then
       some true
      else
       (gi x.Args 3).bind fun x2 =>
       bif (x2.Kind != 4) then
        some true
       else
        (gi x.Args 4).bind fun x3 =>
        some (x3.E.Op != 10)
 ):Option Bool).bind fun v90 =>
  bif v90 then
   some false
  else
   (Db ⟨#[97]⟩).bind fun a_ =>
   (Db ⟨#[98]⟩).bind fun b =>
   (Db ⟨#[99]⟩).bind fun c =>
   (BF n ⟨#[97,32,45,32,98,32,45,32,99,32,42,32,45,100]⟩).bind fun e1 =>
   (BF n ⟨#[33,97,32,61,61,32,98,32,63,32,102,40,49,44,32,50,41,32,58,32,40,97,32,60,32,98,41,32,61,61,32,99]⟩).bind fun e2 =>
   (Db ⟨#[100]⟩).bind fun s =>
   (some [s]).bind fun l =>
   (C5 12 a_ b).bind fun s1 =>
   (some [s1]).bind fun l1 =>
   (some [(Aa.mk 1 1 ⟨#[]⟩ [] 0),(Aa.mk 1 2 ⟨#[]⟩ [] 0)]).bind fun l2 =>
   ((bif (!((e1.2.At == 0)&&((e1.2.E == 0)&&true))) then
    some true
   else
    bif (!((e2.2.At == 0)&&((e2.2.E == 0)&&true))) then
     some true
    else
     (C5 11 a_ b).bind fun s4 =>
     (C5 7 c (Aa.mk 6 0 ⟨#[]⟩ l 0)).bind fun s5 =>
     (C5 11 s4 s5).bind fun s6 =>
     (Bp n e1.1 s6).bind fun s7 =>
     bif (!s7) then
      some true
     else
      (C5 14 a_ b).bind fun s8 =>
      (C5 12 s8 c).bind fun s9 =>
      (some [(Aa.mk 5 0 ⟨#[]⟩ l1 0),(Aa.mk 4 0 ⟨#[102]⟩ l2 0),s9]).bind fun l3 =>
      (Bp n e2.1 (Aa.mk 20 0 ⟨#[]⟩ l3 0)).bind fun s10 =>
      some (!s10)
   ):Option Bool).bind fun v157 =>
    bif v157 then
     some false
    else
     (Cw n e2.1).bind fun p =>
     (BF n ⟨#[97,32,60,32,98,32,60,32,99]⟩).bind fun e4 =>
     (BF n ⟨#[97,32,98]⟩).bind fun e5 =>
     (BF n ⟨#[120,32,40]⟩).bind fun e6 =>
     (BM n ⟨#[120,32,45,32,121,59]⟩).bind fun f1 =>
     ((bif (p.2 == 0) then
      bif (decide (p.1=⟨#[33,32,97,32,61,61,32,98,32,63,32,102,32,40,32,49,32,44,32,50,32,41,32,58,32,40,32,97,32,60,32,98,32,41,32,61,61,32,99]⟩)) then
       bif ((e4.2.At == 6)&&((e4.2.E == 5)&&true)) then
        bif ((e5.2.At == 2)&&((e5.2.E == 5)&&true)) then
         bif ((e6.2.At == 3)&&((e6.2.E == 5)&&true)) then
          bif ((f1.2.At == 4)&&((f1.2.E == 5)&&true)) then
           (BO n f.1 f.1).bind fun s2 =>
           bif s2 then
            (Bp n a_ b).bind fun s3 =>
            some (!s3)
           else
            some false
          else
           some false
         else
          some false
        else
         some false
       else
        some false
      else
       some false
     else
      some false
     ):Option Bool).bind fun v0_ =>
      some v0_
def ON:Option Bool:=F1 60
def BT (n:Nat)(l:(List Af))(x:Aa)(src:ByteArray):Option Bool :=
 (((F9 n l 200).bind fun f3 =>
 bif (!f3) then
  some true
 else
  (Ca n x 200).bind fun e11 =>
  bif (decide (e11<0)) then
   some true
  else
   some (decide (500<(src.size:Int)))
 ):Option Bool).bind fun v41 =>
  bif v41 then
   (ON).bind fun s =>
   some s
  else
   (Ds n l).bind fun p =>
   ((bif (p.2 == 0) then
    (BM n p.1).bind fun f2 =>
    ((bif (!((f2.2.At == 0)&&((f2.2.E == 0)&&true))) then
     some true
    else
     (BO n l f2.1).bind fun s6 =>
     some (!s6)
    ):Option Bool).bind fun v63 =>
     bif v63 then
      some (.inr false)
     else
      some (.inl ())
   else
    some (.inl ())
   ):Option (Unit ⊕ Bool)).bind fun y1=>match y1 with
   |.inl _ =>
    (Cw n x).bind fun p1 =>
    ((bif (p1.2 == 0) then
     (BF n p1.1).bind fun e8 =>
     ((bif (!((e8.2.At == 0)&&((e8.2.E == 0)&&true))) then
      some true
     else
      (Bp n x e8.1).bind fun s5 =>
      some (!s5)
     ):Option Bool).bind fun v84 =>
      bif v84 then
       some (.inr false)
      else
       some (.inl ())
    else
     some (.inl ())
    ):Option (Unit ⊕ Bool)).bind fun y2=>match y2 with
    |.inl _ =>
     (BM n src).bind fun f =>
     ((bif (f.2.E == 0) then
      (Ds n f.1).bind fun p3 =>
      (BM n p3.1).bind fun f1 =>
      (Ds n f1.1).bind fun p4 =>
      ((bif (p3.2 != 0) then
       some true
      else
       bif (!((f1.2.At == 0)&&((f1.2.E == 0)&&true))) then
        some true
       else
        bif (p4.2 != 0) then
         some true
        else
         bif (!decide (p3.1=p4.1)) then
          some true
         else
          (BO n f.1 f1.1).bind fun s4 =>
          some (!s4)
      ):Option Bool).bind fun v129 =>
       bif v129 then
        some (.inr false)
       else
        some (.inl ())
     else
      some (.inl ())
     ):Option (Unit ⊕ Bool)).bind fun y3=>match y3 with
     |.inl _ =>
      (BF n src).bind fun e4 =>
      bif (e4.2.E != 0) then
       (ON).bind fun s1 =>
       some s1
      else
       (Cw n e4.1).bind fun p2 =>
       (BF n p2.1).bind fun e5 =>
       (((ON).bind fun s2 =>
       bif s2 then
        bif (p2.2 == 0) then
         bif ((e5.2.At == 0)&&((e5.2.E == 0)&&true)) then
          (Bp n e4.1 e5.1).bind fun s3 =>
          some s3
         else
          some false
        else
         some false
       else
        some false
       ):Option Bool).bind fun v6 =>
        some v6
     |.inr o=>some o
    |.inr o=>some o
   |.inr o=>some o
end Go.Sp
