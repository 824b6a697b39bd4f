/-
  Chapter 33 as plain functions, second part: what is exported, the specification, the laws; no program. (Printed by lift.py.)
-/
import Derived.Test.YtkcfmlfkfagejaaGreatDoorU15
namespace Go.Sp
open Go Go.Vl
set_option linter.unusedVariables false
structure Az where
 Name:ByteArray
 Kind:Int
 Rank:Int
 Known:Int
 From:Aa
 To:Aa
 When:Aa
 Houses:Int
def Ey (x:Az):List PV:=[tP x.Name,iP x.Kind,iP x.Rank,iP x.Known,iP x.From.Op,iP x.From.N,tP x.From.S,hP x.From.Kids AO,iP x.From.At,iP x.To.Op,iP x.To.N,tP x.To.S,hP x.To.Kids AO,iP x.To.At,iP x.When.Op,iP x.When.N,tP x.When.S,hP x.When.Kids AO,iP x.When.At,iP x.Houses]
theorem K4 (x:Az):Ey x=[tP x.Name,iP x.Kind,iP x.Rank,iP x.Known,iP x.From.Op,iP x.From.N,tP x.From.S,hP x.From.Kids AO,iP x.From.At,iP x.To.Op,iP x.To.N,tP x.To.S,hP x.To.Kids AO,iP x.To.At,iP x.When.Op,iP x.When.N,tP x.When.S,hP x.When.Kids AO,iP x.When.At,iP x.Houses]:=rfl
theorem Ke (x:Az):(Ey x).length=20:=rfl
def Ai:Rw Az:=⟨Ey,_,20,K4,Ke⟩
def Kd (x:Int):List PV:=[uP x]
theorem SA (x:Int):Kd x=[uP x]:=rfl
theorem Rd (x:Int):(Kd x).length=1:=rfl
def VJ:Rw Int:=⟨Kd,_,1,SA,Rd⟩
def Bt:Nat->AB->Int->Option (Unit ⊕ Int)
 |0,_,_=>none
 |n+1,d,v14 =>
  bif (decide (v14<(d.Facts.length:Int))) then
   (gi d.Facts v14).bind fun x =>
   ((bif (decide (x.Kind<1)) then
    some true
   else
    bif (decide (5<x.Kind)) then
     some true
    else
     bif (decide (x.Who<1)) then
      some true
     else
      bif (decide (1000<x.Who)) then
       some true
      else
       bif (decide (x.Day<0)) then
        some true
       else
        bif (decide (41666<x.Day)) then
         some true
        else
         bif (decide (x.Known<0)) then
          some true
         else
          some (decide (41666<x.Known))
   ):Option Bool).bind fun v55 =>
    bif v55 then
     some (.inr 1)
    else
     Bt n d (IntKind.i64.wrap (v14+1))
  else
   some (.inl ())
theorem F0 (n:Nat)(d:AB)(v14:Int):Bt (n+1) d v14 =
 bif (decide (v14<(d.Facts.length:Int))) then
  (gi d.Facts v14).bind fun x =>
  ((bif (decide (x.Kind<1)) then
   some true
  else
   bif (decide (5<x.Kind)) then
    some true
   else
    bif (decide (x.Who<1)) then
     some true
    else
     bif (decide (1000<x.Who)) then
      some true
     else
      bif (decide (x.Day<0)) then
       some true
      else
       bif (decide (41666<x.Day)) then
        some true
       else
        bif (decide (x.Known<0)) then
         some true
        else
         some (decide (41666<x.Known))
  ):Option Bool).bind fun v55 =>
   bif v55 then
    some (.inr 1)
   else
    Bt n d (IntKind.i64.wrap (v14+1))
 else
  some (.inl ()):=by rw [Bt]
def CA (n:Nat)(d:AB)(known:Int):Option Int :=
 bif (decide (200<(d.Facts.length:Int))) then
  some 2
 else
  ((Bt n d 0
  ):Option (Unit ⊕ Int)).bind fun y=>match y with
  |.inl _ =>
   ((bif (decide (d.Stored<0)) then
    some true
   else
    bif (decide (41666<d.Stored)) then
     some true
    else
     bif (decide (known<0)) then
      some true
     else
      bif (decide (41666<known)) then
       some true
      else
       bif (decide (d.Owner<0)) then
        some true
       else
        some (decide (1000<d.Owner))
   ):Option Bool).bind fun v82 =>
    bif v82 then
     some 1
    else
     some 0
  |.inr o=>some o
def Fl (e:Aa):Option (Int×Int) :=
 (some ()).bind fun u =>
 (I5 (Aa.mk e.Op e.N e.S e.Kids e.At)).bind fun f =>
 some (f.1,f.2.2.E)
def Bd (n:Nat)(e:Aa)(d:AB)(known:Int):Option (Int×Int) :=
 (some ()).bind fun u =>
 (I5 (Aa.mk e.Op e.N e.S e.Kids e.At)).bind fun f =>
 bif (f.2.2.E != 0) then
  some (0,f.2.2.E)
 else
  (CA n d known).bind fun x =>
  bif (x != 0) then
   some (0,x)
  else
   (P6 (Aa.mk e.Op e.N e.S e.Kids e.At) (Ah.mk d known)).bind fun v_ =>
   some (v_,0)
def F7 (c:Int):Option Bool :=
 ((bif (decide (97<=c)) then
  bif (decide (c<=122)) then
   some false
  else
   bif (decide (65<=c)) then
    bif (decide (c<=90)) then
     some false
    else
     bif (c == 95) then
      some false
     else
      bif (decide (48<=c)) then
       some (!(decide (c<=57)))
      else
       some true
   else
    bif (c == 95) then
     some false
    else
     bif (decide (48<=c)) then
      some (!(decide (c<=57)))
     else
      some true
 else
  bif (decide (65<=c)) then
   bif (decide (c<=90)) then
    some false
   else
    bif (c == 95) then
     some false
    else
     bif (decide (48<=c)) then
      some (!(decide (c<=57)))
     else
      some true
  else
   bif (c == 95) then
    some false
   else
    bif (decide (48<=c)) then
     some (!(decide (c<=57)))
    else
     some true
 ):Option Bool).bind fun v2 =>
  some v2
def BQ:Nat->(List Int)->Int->Option (Unit ⊕ Int)
 |0,_,_=>none
 |n+1,s,v8 =>
  bif (decide (v8<(s.length:Int))) then
   (gi s v8).bind fun x =>
   (F7 x).bind fun i =>
   bif i then
    some (.inr v8)
   else
    BQ n s (IntKind.i64.wrap (v8+1))
  else
   some (.inl ())
def Dx (n:Nat)(s:(List Int)):Option Int :=
 ((BQ n s 0
 ):Option (Unit ⊕ Int)).bind fun y=>match y with
 |.inl _ =>
  some (-1)
 |.inr o=>some o
def CX (n:Nat)(s:(List Int)):Option Bool :=
 (Dx n s).bind fun i =>
 some (decide (0<=i))
def GG (n:Nat)(s:ByteArray):Option Bool :=
 ((bif (decide (s=⟨#[]⟩)) then
  some true
 else
  bif (decide (32<(s.size:Int))) then
   some true
  else
   (gb s 0).bind fun c1 =>
   bif (decide (48<=c1)) then
    some (decide (c1<=57))
   else
    some false
 ):Option Bool).bind fun v19 =>
  bif v19 then
   some false
  else
   (Ru s).bind fun b =>
   (CX n b).bind fun c =>
   some (!c)
def ER (c:ByteArray)(c1:Int)(c2:Int)(c3:Int)(c4:Int)(c5:Int)(c6:ByteArray)(c7:(List Aa))(c8:Int)(c9:Int)(c10:Int)(c11:ByteArray)(c12:(List Aa))(c13:Int)(c14:Int)(c15:Int)(c16:ByteArray)(c17:(List Aa))(c18:Int)(c19:Int)(x:Az):Option Bool :=
 some (decide (x.Name=c))
def BH:Nat->(List Az)->ByteArray->Int->Int->Int->Int->Int->ByteArray->(List Aa)->Int->Int->Int->ByteArray->(List Aa)->Int->Int->Int->ByteArray->(List Aa)->Int->Int->Int->Option (Unit ⊕ Int)
 |0,_,_,_,_,_,_,_,_,_,_,_,_,_,_,_,_,_,_,_,_,_,_=>none
 |n+1,s,c,c1,c2,c3,c4,c5,c6,c7,c8,c9,c10,c11,c12,c13,c14,c15,c16,c17,c18,c19,v8 =>
  bif (decide (v8<(s.length:Int))) then
   (gi s v8).bind fun x =>
   (ER c c1 c2 c3 c4 c5 c6 c7 c8 c9 c10 c11 c12 c13 c14 c15 c16 c17 c18 c19 x).bind fun c20 =>
   bif c20 then
    some (.inr v8)
   else
    BH n s c c1 c2 c3 c4 c5 c6 c7 c8 c9 c10 c11 c12 c13 c14 c15 c16 c17 c18 c19 (IntKind.i64.wrap (v8+1))
  else
   some (.inl ())
def CW (n:Nat)(c:ByteArray)(c1:Int)(c2:Int)(c3:Int)(c4:Int)(c5:Int)(c6:ByteArray)(c7:(List Aa))(c8:Int)(c9:Int)(c10:Int)(c11:ByteArray)(c12:(List Aa))(c13:Int)(c14:Int)(c15:Int)(c16:ByteArray)(c17:(List Aa))(c18:Int)(c19:Int)(s:(List Az)):Option Int :=
 ((BH n s c c1 c2 c3 c4 c5 c6 c7 c8 c9 c10 c11 c12 c13 c14 c15 c16 c17 c18 c19 0
 ):Option (Unit ⊕ Int)).bind fun y=>match y with
 |.inl _ =>
  some (-1)
 |.inr o=>some o
def Ci (n:Nat)(c:ByteArray)(c1:Int)(c2:Int)(c3:Int)(c4:Int)(c5:Int)(c6:ByteArray)(c7:(List Aa))(c8:Int)(c9:Int)(c10:Int)(c11:ByteArray)(c12:(List Aa))(c13:Int)(c14:Int)(c15:Int)(c16:ByteArray)(c17:(List Aa))(c18:Int)(c19:Int)(s:(List Az)):Option Bool :=
 (CW n c c1 c2 c3 c4 c5 c6 c7 c8 c9 c10 c11 c12 c13 c14 c15 c16 c17 c18 c19 s).bind fun c20 =>
 some (decide (0<=c20))
def Fk (c:ByteArray)(c1:Int)(c2:Int)(c3:Int)(c4:Int)(c5:Int)(c6:ByteArray)(c7:(List Aa))(c8:Int)(c9:Int)(c10:Int)(c11:ByteArray)(c12:(List Aa))(c13:Int)(c14:Int)(c15:Int)(c16:ByteArray)(c17:(List Aa))(c18:Int)(c19:Int):Option Unit :=
 some ()
def CD:Nat->Az->Int->Option (Unit ⊕ Int)
 |0,_,_=>none
 |n+1,x,v94 =>
  bif (v94 == 0) then
   (I5 x.From).bind fun f2 =>
   bif (f2.2.2.E != 0) then
    some (.inr f2.2.2.E)
   else
    bif (f2.1 != 2) then
     some (.inr 7)
    else
     CD n x 1
  else
   bif (v94 == 1) then
    (I5 x.To).bind fun f1 =>
    bif (f1.2.2.E != 0) then
     some (.inr f1.2.2.E)
    else
     bif (f1.1 != 2) then
      some (.inr 7)
     else
      CD n x 2
   else
    bif (v94 == 2) then
     (I5 x.When).bind fun f =>
     bif (f.2.2.E != 0) then
      some (.inr f.2.2.E)
     else
      bif (f.1 != 3) then
       some (.inr 7)
      else
       CD n x 3
    else
     bif (v94 == 3) then
      some (.inl ())
     else
      none
def EA:Nat->(List Az)->Int->Option (Unit ⊕ Int)
 |0,_,_=>none
 |n+1,l,v20 =>
  bif (decide (v20<(l.length:Int))) then
   (gi l v20).bind fun x =>
   (GG n x.Name).bind fun i =>
   bif (!i) then
    some (.inr 6)
   else
    (VS l 0 v20).bind fun l1 =>
    (Ci n x.Name x.Kind x.Rank x.Known x.From.Op x.From.N x.From.S x.From.Kids x.From.At x.To.Op x.To.N x.To.S x.To.Kids x.To.At x.When.Op x.When.N x.When.S x.When.Kids x.When.At x.Houses l1).bind fun c =>
    bif c then
     some (.inr 9)
    else
     ((bif (decide (x.Kind<1)) then
      some true
     else
      some (decide (3<x.Kind))
     ):Option Bool).bind fun v39 =>
      bif v39 then
       some (.inr 1)
      else
       ((bif (decide (x.Rank<0)) then
        some true
       else
        bif (decide (9<x.Rank)) then
         some true
        else
         bif (decide (x.Known<0)) then
          some true
         else
          bif (decide (41666<x.Known)) then
           some true
          else
           bif (!(x.Kind == 3)) then
            bif (x.Houses != 0) then
             some true
            else
             bif (x.Kind == 3) then
              bif (decide (x.Houses<1)) then
               some true
              else
               some (decide (4096<=x.Houses))
             else
              some false
           else
            bif (x.Kind == 3) then
             bif (decide (x.Houses<1)) then
              some true
             else
              some (decide (4096<=x.Houses))
            else
             some false
       ):Option Bool).bind fun v48 =>
        bif v48 then
         some (.inr 3)
        else
         (Fk x.Name x.Kind x.Rank x.Known x.From.Op x.From.N x.From.S x.From.Kids x.From.At x.To.Op x.To.N x.To.S x.To.Kids x.To.At x.When.Op x.When.N x.When.S x.When.Kids x.When.At x.Houses).bind fun w =>
         ((CD n x 0
         ):Option (Unit ⊕ Int)).bind fun y3=>match y3 with
         |.inl _ =>
          EA n l (IntKind.i64.wrap (v20+1))
         |.inr o=>some (.inr o)
  else
   some (.inl ())
def EG (n:Nat)(l:(List Az)):Option Int :=
 bif (decide (40<(l.length:Int))) then
  some 2
 else
  (some ()).bind fun u =>
  ((EA n l 0
  ):Option (Unit ⊕ Int)).bind fun y=>match y with
  |.inl _ =>
   some 0
  |.inr o=>some o
def E9 (n:Nat)(c:Az)(d:AB)(known:Int):Option (Int×Int×Bool×Int) :=
 (some [c]).bind fun l =>
 (EG n l).bind fun e =>
 bif (e != 0) then
  some (0,0,false,e)
 else
  (CA n d known).bind fun e1 =>
  bif (e1 != 0) then
   some (0,0,false,e1)
  else
   (some ()).bind fun u =>
   (((P6 c.From (Ah.mk d known)).bind fun from_1 =>
   (P6 c.To (Ah.mk d known)).bind fun UQ =>
   bif (decide (c.Known<=known)) then
    (P6 c.When (Ah.mk d known)).bind fun v_ =>
    some (from_1,UQ,(v_ == 1))
   else
    some (from_1,UQ,false)
   ):Option (Int×Int×Bool)).bind fun y=>match y with
   |(from_,to,applies) =>
    some (from_,to,applies,0)
def FI:Option (ByteArray×ByteArray×ByteArray×ByteArray) :=
 some (⟨#[]⟩,⟨#[107,101,101,112]⟩,⟨#[100,114,111,112]⟩,⟨#[112,108,97,99,101]⟩)
def Fj (c:ByteArray)(c1:Int)(c2:Int)(c3:Int)(c4:Int)(c5:Int)(c6:ByteArray)(c7:(List Aa))(c8:Int)(c9:Int)(c10:Int)(c11:ByteArray)(c12:(List Aa))(c13:Int)(c14:Int)(c15:Int)(c16:ByteArray)(c17:(List Aa))(c18:Int)(c19:Int)(f:ByteArray)(f1:(List AF))(f2:(List Av))(f3:Int):Option Unit :=
 some ()
def CZ:Nat->Az->Int->(List AF)->Option (List AF)
 |0,_,_,_=>none
 |n+1,x,v67,f3 =>
  bif (decide (v67<12)) then
   (Xi v67 (x.Houses.fdiv (2 ^ min v67.toNat IntKind.i64.bits))).bind fun q =>
   bif ((bits .and .i64 q 1) == 1) then
    (some [(AF.mk 2 v67 ⟨#[]⟩ (Aa.mk 0 0 ⟨#[]⟩ [] 0) 0)]).bind fun l4 =>
    (D5 105 f3 l4).bind fun l5 =>
    CZ n x (IntKind.i64.wrap (v67+1)) l5
   else
    CZ n x (IntKind.i64.wrap (v67+1)) f3
  else
   some f3
def Cr:Nat->Az->Int->(List AF)->Option (List AF)
 |0,_,_,_=>none
 |n+1,x,v45,f4 =>
  bif (v45 == 0) then
   (some [(AF.mk 5 0 ⟨#[]⟩ x.From 0)]).bind fun l12 =>
   (D5 105 f4 l12).bind fun l13 =>
   Cr n x 1 l13
  else
   bif (v45 == 1) then
    (some [(AF.mk 5 0 ⟨#[]⟩ x.To 0)]).bind fun l10 =>
    (D5 105 f4 l10).bind fun l11 =>
    Cr n x 2 l11
   else
    bif (v45 == 2) then
     (some [(AF.mk 5 0 ⟨#[]⟩ x.When 0)]).bind fun l8 =>
     (D5 105 f4 l8).bind fun l9 =>
     Cr n x 3 l9
    else
     bif (v45 == 3) then
      some f4
     else
      none
def Eg:Nat->(List Az)->(List Av)->Int->Option (List Av)
 |0,_,_,_=>none
 |n+1,l,forms1,v21 =>
  bif (decide (v21<(l.length:Int))) then
   (gi l v21).bind fun x =>
   (FI).bind fun w =>
   (gi [w.1,w.2.1,w.2.2.1,w.2.2.2] x.Kind).bind fun x1 =>
   (some [(AF.mk 1 0 x.Name (Aa.mk 0 0 ⟨#[]⟩ [] 0) 0),(AF.mk 2 x.Rank ⟨#[]⟩ (Aa.mk 0 0 ⟨#[]⟩ [] 0) 0),(AF.mk 2 x.Known ⟨#[]⟩ (Aa.mk 0 0 ⟨#[]⟩ [] 0) 0)]).bind fun l1 =>
   (Fj x.Name x.Kind x.Rank x.Known x.From.Op x.From.N x.From.S x.From.Kids x.From.At x.To.Op x.To.N x.To.S x.To.Kids x.To.At x.When.Op x.When.N x.When.S x.When.Kids x.When.At x.Houses x1 l1 [] 0).bind fun w1 =>
   ((Cr n x 0 l1
   ):Option (List AF)).bind fun f =>
    ((bif (x.Kind == 3) then
     (some [(AF.mk 4 0 ⟨#[]⟩ (Aa.mk 0 0 ⟨#[]⟩ [] 0) 0)]).bind fun l6 =>
     (D5 105 f l6).bind fun l7 =>
     some l7
    else
     some f
    ):Option (List AF)).bind fun f1 =>
     ((CZ n x 0 f1
     ):Option (List AF)).bind fun f2 =>
      (some [(Av.mk x1 f2 [] 0)]).bind fun l2 =>
      (D5 73 forms1 l2).bind fun l3 =>
      Eg n l l3 (IntKind.i64.wrap (v21+1))
  else
   some forms1
def GH (n:Nat)(l:(List Az)):Option (ByteArray×Int) :=
 (EG n l).bind fun e =>
 bif (e != 0) then
  some (⟨#[]⟩,e)
 else
  ((Eg n l [] 0
  ):Option (List Av)).bind fun forms =>
   (Jo n forms).bind fun p =>
   some (p.1,p.2)
def DB:Nat->(List ByteArray)->ByteArray->Int->Option (Unit ⊕ Int)
 |0,_,_,_=>none
 |n+1,s,v_,v8 =>
  bif (decide (v8<(s.length:Int))) then
   (gi s v8).bind fun x =>
   bif (decide (v_=x)) then
    some (.inr v8)
   else
    DB n s v_ (IntKind.i64.wrap (v8+1))
  else
   some (.inl ())
def Gf (n:Nat)(s:(List ByteArray))(v_:ByteArray):Option Int :=
 ((DB n s v_ 0
 ):Option (Unit ⊕ Int)).bind fun y=>match y with
 |.inl _ =>
  some (-1)
 |.inr o=>some o
def Ef:Nat->Av->(List Int)->Int->Option (Unit ⊕ (Int×Bool))
 |0,_,_,_=>none
 |n+1,f,want,v52 =>
  bif (decide (v52<(f.Args.length:Int))) then
   (gi f.Args v52).bind fun x =>
   (gi want (if (IntKind.i64.wrap ((want.length:Int)-1))<v52 then (IntKind.i64.wrap ((want.length:Int)-1)) else v52)).bind fun x1 =>
   bif (x.Kind != x1) then
    some (.inr (0,false))
   else
    Ef n f want (IntKind.i64.wrap (v52+1))
  else
   some (.inl ())
def GD (n:Nat)(f:Av):Option (Int×Bool) :=
 (FI).bind fun l =>
 (Gf n [l.2.1,l.2.2.1,l.2.2.2] f.Word).bind fun i =>
 (some [1,2,2,5,5,5]).bind fun l1 =>
 ((bif ((IntKind.i64.wrap (i+1)) == 3) then
  (some [4,2]).bind fun l2 =>
  (D5 9 l1 l2).bind fun l3 =>
  some l3
 else
  some l1
 ):Option (List Int)).bind fun want =>
  ((bif ((IntKind.i64.wrap (i+1)) == 0) then
   some true
  else
   bif (decide (0<(f.Body.length:Int))) then
    some true
   else
    bif (decide ((f.Args.length:Int)<(want.length:Int))) then
     some true
    else
     bif ((IntKind.i64.wrap (i+1)) != 3) then
      some (decide ((want.length:Int)<(f.Args.length:Int)))
     else
      some false
  ):Option Bool).bind fun v48 =>
   bif v48 then
    some (0,false)
   else
    ((Ef n f want 0
    ):Option (Unit ⊕ (Int×Bool))).bind fun y2=>match y2 with
    |.inl _ =>
     some ((IntKind.i64.wrap (i+1)),true)
    |.inr o=>some o
def Ea (q:Int)(q1:Int)(p:Int)(p1:Int)(f:ByteArray)(f1:(List AF))(f2:(List Av))(f3:Int)(c:Az):Option Bool :=
 (gi f1 0).bind fun x =>
 some (decide (c.Name=x.S))
def BE:Nat->(List Az)->Int->Int->Int->Int->ByteArray->(List AF)->(List Av)->Int->Int->Option (Unit ⊕ Int)
 |0,_,_,_,_,_,_,_,_,_,_=>none
 |n+1,s,q,q1,p,p1,f,f1,f2,f3,v8 =>
  bif (decide (v8<(s.length:Int))) then
   (gi s v8).bind fun x =>
   (Ea q q1 p p1 f f1 f2 f3 x).bind fun c =>
   bif c then
    some (.inr v8)
   else
    BE n s q q1 p p1 f f1 f2 f3 (IntKind.i64.wrap (v8+1))
  else
   some (.inl ())
def CH (n:Nat)(q:Int)(q1:Int)(p:Int)(p1:Int)(f:ByteArray)(f1:(List AF))(f2:(List Av))(f3:Int)(s:(List Az)):Option Int :=
 ((BE n s q q1 p p1 f f1 f2 f3 0
 ):Option (Unit ⊕ Int)).bind fun y=>match y with
 |.inl _ =>
  some (-1)
 |.inr o=>some o
def Cj (n:Nat)(q:Int)(q1:Int)(p:Int)(p1:Int)(f:ByteArray)(f1:(List AF))(f2:(List Av))(f3:Int)(s:(List Az)):Option Bool :=
 (CH n q q1 p p1 f f1 f2 f3 s).bind fun c =>
 some (decide (0<=c))
def Fi (q:Int)(q1:Int)(p:Int)(p1:Int)(f:ByteArray)(f1:(List AF))(f2:(List Av))(f3:Int)(c:ByteArray)(c1:Int)(c2:Int)(c3:Int)(c4:Int)(c5:Int)(c6:ByteArray)(c7:(List Aa))(c8:Int)(c9:Int)(c10:Int)(c11:ByteArray)(c12:(List Aa))(c13:Int)(c14:Int)(c15:Int)(c16:ByteArray)(c17:(List Aa))(c18:Int)(c19:Int):Option Unit :=
 some ()
def BZ:Nat->AF->AF->AF->Int->Option (Unit ⊕ ((List Az)×Au))
 |0,_,_,_,_=>none
 |n+1,x5,x6,x7,v170 =>
  bif (v170 == 0) then
   (I5 x5.E).bind fun f3 =>
   bif (f3.2.2.E != 0) then
    some (.inr ([],f3.2.2))
   else
    bif (f3.1 != 2) then
     some (.inr ([],(Au.mk x5.At 7)))
    else
     BZ n x5 x6 x7 1
  else
   bif (v170 == 1) then
    (I5 x6.E).bind fun f2 =>
    bif (f2.2.2.E != 0) then
     some (.inr ([],f2.2.2))
    else
     bif (f2.1 != 2) then
      some (.inr ([],(Au.mk x6.At 7)))
     else
      BZ n x5 x6 x7 2
   else
    bif (v170 == 2) then
     (I5 x7.E).bind fun f1 =>
     bif (f1.2.2.E != 0) then
      some (.inr ([],f1.2.2))
     else
      bif (f1.1 != 3) then
       some (.inr ([],(Au.mk x7.At 7)))
      else
       BZ n x5 x6 x7 3
    else
     bif (v170 == 3) then
      some (.inl ())
     else
      none
def CF:Nat->Av->Int->Int->Int->Option (Int ⊕ ((List Az)×Au))
 |0,_,_,_,_=>none
 |n+1,x,v103,last,c2 =>
  bif (decide (v103<(x.Args.length:Int))) then
   (gi x.Args v103).bind fun x8 =>
   ((bif (v103 == 1) then
    bif (decide (x8.N<0)) then
     some true
    else
     bif (decide (9<x8.N)) then
      some true
     else
      bif (v103 == 2) then
       bif (decide (x8.N<0)) then
        some true
       else
        bif (decide (41666<x8.N)) then
         some true
        else
         bif (decide (6<v103)) then
          bif (decide (x8.N<=last)) then
           some true
          else
           some (decide (12<=x8.N))
         else
          some false
      else
       bif (decide (6<v103)) then
        bif (decide (x8.N<=last)) then
         some true
        else
         some (decide (12<=x8.N))
       else
        some false
   else
    bif (v103 == 2) then
     bif (decide (x8.N<0)) then
      some true
     else
      bif (decide (41666<x8.N)) then
       some true
      else
       bif (decide (6<v103)) then
        bif (decide (x8.N<=last)) then
         some true
        else
         some (decide (12<=x8.N))
       else
        some false
    else
     bif (decide (6<v103)) then
      bif (decide (x8.N<=last)) then
       some true
      else
       some (decide (12<=x8.N))
     else
      some false
   ):Option Bool).bind fun odd =>
    bif odd then
     some (.inr ([],(Au.mk x8.At 3)))
    else
     bif (decide (6<v103)) then
      (Xi x8.N (IntKind.i64.wrap (1*2 ^ min x8.N.toNat IntKind.i64.bits))).bind fun q =>
      CF n x (IntKind.i64.wrap (v103+1)) x8.N (bits .or .i64 c2 q)
     else
      CF n x (IntKind.i64.wrap (v103+1)) last c2
  else
   some (.inl c2)
def DA:Nat->((List Av)×Au)->(List Az)->Int->Option ((List Az) ⊕ ((List Az)×Au))
 |0,_,_,_=>none
 |n+1,f,out1,v36 =>
  bif (decide (v36<(f.1.length:Int))) then
   (gi f.1 v36).bind fun x =>
   (GD n x).bind fun s =>
   bif (!s.2) then
    some (.inr ([],(Au.mk x.At 5)))
   else
    bif ((out1.length:Int) == 40) then
     some (.inr ([],(Au.mk x.At 2)))
    else
     (Cj n 0 0 f.2.At f.2.E x.Word x.Args x.Body x.At out1).bind fun c =>
     bif c then
      (gi x.Args 0).bind fun x1 =>
      some (.inr ([],(Au.mk x1.At 9)))
     else
      (gi x.Args 0).bind fun x2 =>
      (gi x.Args 1).bind fun x3 =>
      (gi x.Args 2).bind fun x4 =>
      (gi x.Args 3).bind fun x5 =>
      (gi x.Args 4).bind fun x6 =>
      (gi x.Args 5).bind fun x7 =>
      ((CF n x 0 (-1) 0
      ):Option (Int ⊕ ((List Az)×Au))).bind fun y1=>match y1 with
      |.inl c1 =>
       (Fi 0 0 f.2.At f.2.E x.Word x.Args x.Body x.At x2.S s.1 x3.N x4.N x5.E.Op x5.E.N x5.E.S x5.E.Kids x5.E.At x6.E.Op x6.E.N x6.E.S x6.E.Kids x6.E.At x7.E.Op x7.E.N x7.E.S x7.E.Kids x7.E.At c1).bind fun w =>
       ((BZ n x5 x6 x7 0
       ):Option (Unit ⊕ ((List Az)×Au))).bind fun y2=>match y2 with
       |.inl _ =>
        (some [(Az.mk x2.S s.1 x3.N x4.N x5.E x6.E x7.E c1)]).bind fun l =>
        (D5 241 out1 l).bind fun l1 =>
        DA n f l1 (IntKind.i64.wrap (v36+1))
       |.inr o=>some (.inr o)
      |.inr o=>some (.inr o)
  else
   some (.inl out1)
def DF (n:Nat)(src:ByteArray):Option ((List Az)×Au) :=
 (Hj n src).bind fun f =>
 bif (f.2.E != 0) then
  some ([],f.2)
 else
  (some ()).bind fun u =>
  ((DA n f [] 0
  ):Option ((List Az) ⊕ ((List Az)×Au))).bind fun y=>match y with
  |.inl out =>
   some (out,(Au.mk 0 0))
  |.inr o=>some o
mutual
def BO:Nat->Aa->Int->Int->Option Int
 |0,_,_,_=>none
 |n+1,e,n_2,k =>
  ((bif (decide (k<(e.Kids.length:Int))) then
   some (decide (0<=n_2))
  else
   some false
  ):Option Bool).bind fun v16 =>
   bif v16 then
    (gi e.Kids k).bind fun x =>
    (BC n x n_2).bind fun n_3 =>
    BO n e n_3 (IntKind.i64.wrap (k+1))
   else
    some n_2
def BC:Nat->Aa->Int->Option Int
 |0,_,_=>none
 |n+1,e,n_ =>
  ((BO n e (IntKind.i64.wrap (n_-1)) 0
  ):Option Int).bind fun n_1 =>
   some n_1
end
theorem ET (n:Nat)(e:Aa)(n_2:Int)(k:Int):BO (n+1) e n_2 k =
 ((bif (decide (k<(e.Kids.length:Int))) then
  some (decide (0<=n_2))
 else
  some false
 ):Option Bool).bind fun v16 =>
  bif v16 then
   (gi e.Kids k).bind fun x =>
   (BC n x n_2).bind fun n_3 =>
   BO n e n_3 (IntKind.i64.wrap (k+1))
  else
   some n_2:=by rw [BO]
theorem Mh (n:Nat)(e:Aa)(n_:Int):BC (n+1) e n_ =
 ((BO n e (IntKind.i64.wrap (n_-1)) 0
 ):Option Int).bind fun n_1 =>
  some n_1:=by rw [BC]
def FL:Nat->(List Az)->(List Az)->Bool->Int->Option (Unit ⊕ Bool)
 |0,_,_,_,_=>none
 |n+1,a_,b,offsets,k =>
  bif (decide (k<(a_.length:Int))) then
   (gi a_ k).bind fun x =>
   (gi b k).bind fun x1 =>
   (B5 n x.From x1.From offsets).bind fun from_ =>
   (B5 n x.To x1.To offsets).bind fun to =>
   (B5 n x.When x1.When offsets).bind fun when =>
   ((bif (!from_) then
    some true
   else
    bif (!to) then
     some true
    else
     bif (!when) then
      some true
     else
      bif (!decide (x.Name=x1.Name)) then
       some true
      else
       bif (x.Kind != x1.Kind) then
        some true
       else
        bif (x.Rank != x1.Rank) then
         some true
        else
         bif (x.Known != x1.Known) then
          some true
         else
          some (x.Houses != x1.Houses)
   ):Option Bool).bind fun v94 =>
    bif v94 then
     some (.inr false)
    else
     FL n a_ b offsets (IntKind.i64.wrap (k+1))
  else
   some (.inl ())
def Kg (n:Nat)(a_:(List Az))(b:(List Az))(offsets:Bool):Option Bool :=
 bif ((a_.length:Int) != (b.length:Int)) then
  some false
 else
  ((FL n a_ b offsets 0
  ):Option (Unit ⊕ Bool)).bind fun y=>match y with
  |.inl _ =>
   some true
  |.inr o=>some o
def Ez (n:Nat)(e:Aa)(n_:Int):Option Bool :=
 (BC n (Aa.mk e.Op e.N e.S e.Kids e.At) n_).bind fun l =>
 some (decide (0<=l))
def It:Option ByteArray :=
 some ⟨#[107,101,101,112,32,116,97,120,32,50,32,48,32,40,115,116,111,114,101,100,41,32,40,115,116,111,114,101,100,32,43,32,55,32,42,32,121,101,97,114,41,32,40,98,111,114,110,40,111,119,110,101,114,41,32,60,32,110,101,118,101,114,41,59,32,112,108,97,99,101,32,104,111,109,101,32,49,32,51,32,40,100,97,121,40,48,41,41,32,40,110,101,118,101,114,41,32,40,111,119,110,101,114,32,33,61,32,112,101,114,115,111,110,40,48,41,41,32,45,62,32,48,32,50,59]⟩
def GQ (s:ByteArray):Option Aa :=
 some (Aa.mk 3 0 s [] 0)
def C8 (n_:Int):Option Aa :=
 some (Aa.mk 1 n_ ⟨#[]⟩ [] 0)
def Cc (op:Int)(a_:Aa)(b:Aa):Option Aa :=
 (some [a_,b]).bind fun l =>
 some (Aa.mk op 0 ⟨#[]⟩ l 0)
def Hk (n:Nat)(src:ByteArray)(at_:Int)(e:Int):Option Bool :=
 (DF n src).bind fun c =>
 ((bif ((c.1.length:Int) == 0) then
  some ((c.2.At == at_)&&((c.2.E == e)&&true))
 else
  some false
 ):Option Bool).bind fun v6 =>
  some v6
def Iu (n:Nat):Option Bool :=
 (It).bind fun s =>
 (DF n s).bind fun c =>
 ((bif (!((c.2.At == 0)&&((c.2.E == 0)&&true))) then
  some true
 else
  bif ((c.1.length:Int) != 2) then
   some true
  else
   (EG n c.1).bind fun c2 =>
   some (c2 != 0)
 ):Option Bool).bind fun v47 =>
  bif v47 then
   some false
  else
   (((gi c.1 0).bind fun x2 =>
   bif (!decide (x2.Name=⟨#[116,97,120]⟩)) then
    some true
   else
    bif (x2.Kind != 1) then
     some true
    else
     bif (x2.Rank != 2) then
      some true
     else
      bif (x2.Known != 0) then
       some true
      else
       bif (x2.Houses != 0) then
        some true
       else
        (gi c.1 1).bind fun x3 =>
        bif (!decide (x3.Name=⟨#[104,111,109,101]⟩)) then
         some true
        else
         bif (x3.Kind != 3) then
          some true
         else
          bif (x3.Rank != 1) then
           some true
          else
           bif (x3.Known != 3) then
            some true
           else
            some (x3.Houses != 5)
   ):Option Bool).bind fun v115 =>
    bif v115 then
     some false
    else
     (some [(Bm.mk 1 4 3 5)]).bind fun l =>
     (gi c.1 0).bind fun x =>
     (E9 n x (AB.mk l 10 4) 4).bind fun s1 =>
     (E9 n x (AB.mk l 10 4) 5).bind fun s2 =>
     (gi c.1 1).bind fun x1 =>
     (E9 n x1 (AB.mk l 10 4) 2).bind fun s3 =>
     (E9 n x1 (AB.mk l 10 4) 3).bind fun s4 =>
     (GQ ⟨#[110,101,118,101,114]⟩).bind fun n_ =>
     (C8 5).bind fun n_1 =>
     (Cc 11 n_ n_1).bind fun t =>
     (Bd n t (AB.mk l 10 4) 0).bind fun v_ =>
     (C8 3).bind fun n_2 =>
     (some [n_2]).bind fun l1 =>
     (C8 9).bind fun n_3 =>
     (Cc 11 (Aa.mk 4 0 ⟨#[100,97,121]⟩ l1 0) n_3).bind fun t1 =>
     (Bd n t1 (AB.mk l 10 4) 0).bind fun v_1 =>
     (GQ ⟨#[110,101,118,101,114]⟩).bind fun n_4 =>
     (GQ ⟨#[115,116,111,114,101,100]⟩).bind fun n_5 =>
     (Cc 11 n_4 n_5).bind fun t2 =>
     (Bd n t2 (AB.mk l 10 4) 0).bind fun v_2 =>
     ((bif (s1.2.2.2 != 0) then
      some true
     else
      bif (s2.2.2.2 != 0) then
       some true
      else
       bif (s3.2.2.2 != 0) then
        some true
       else
        bif (s4.2.2.2 != 0) then
         some true
        else
         bif (v_.2 != 0) then
          some true
         else
          bif (v_1.2 != 0) then
           some true
          else
           some (v_2.2 != 0)
     ):Option Bool).bind fun v210 =>
      bif v210 then
       some false
      else
       ((bif (s1.1 != 10) then
        some true
       else
        bif (s1.2.1 != 2565) then
         some true
        else
         bif s1.2.2.1 then
          some true
         else
          bif (!s2.2.2.1) then
           some true
          else
           bif (s3.1 != 0) then
            some true
           else
            bif (s3.2.1 != 41667) then
             some true
            else
             bif s3.2.2.1 then
              some true
             else
              bif (!s4.2.2.1) then
               some true
              else
               bif (v_.1 != 41667) then
                some true
               else
                bif (v_1.1 != 0) then
                 some true
                else
                 some (v_2.1 != 41657)
       ):Option Bool).bind fun v250 =>
        bif v250 then
         some false
        else
         (GH n c.1).bind fun s5 =>
         (DF n s5.1).bind fun c1 =>
         ((bif (s5.2 == 0) then
          bif (c1.2.E == 0) then
           (Kg n c1.1 c.1 false).bind fun s6 =>
           bif s6 then
            (Hk n ⟨#[107,101,101,112,32,97,32,49,32,48,32,40,55,41,32,40,110,101,118,101,114,41,32,40,49,32,60,32,50,41,59]⟩ 11 7).bind fun f =>
            bif f then
             (Hk n ⟨#[100,114,111,112,32,97,32,49,32,48,32,40,115,116,111,114,101,100,41,32,40,110,101,118,101,114,41,32,40,120,41,59]⟩ 29 6).bind fun f1 =>
             some f1
            else
             some false
           else
            some false
          else
           some false
         else
          some false
         ):Option Bool).bind fun v0_ =>
          some v0_
def LD:Option Bool:=Iu 60
def Dd (n:Nat)(e:Aa)(d:AB)(known:Int):Option Bool :=
 (Ez n (Aa.mk e.Op e.N e.S e.Kids e.At) 100).bind fun few =>
 ((bif (!few) then
  some true
 else
  bif (decide (60<(d.Facts.length:Int))) then
   some true
  else
   (CA n d known).bind fun k =>
   some (k != 0)
 ):Option Bool).bind fun v44 =>
  bif v44 then
   (LD).bind fun s =>
   some s
  else
   (Fl (Aa.mk e.Op e.N e.S e.Kids e.At)).bind fun t =>
   (Bd n (Aa.mk e.Op e.N e.S e.Kids e.At) d known).bind fun v_ =>
   bif (t.2 != 0) then
    (((LD).bind fun s1 =>
    bif s1 then
     bif (v_.2 == t.2) then
      bif (v_.1 == 0) then
       some (t.1 == 0)
      else
       some false
     else
      some false
    else
     some false
    ):Option Bool).bind fun v6 =>
     some v6
   else
    bif (v_.2 != 0) then
     some false
    else
     bif (t.1 == 1) then
      (some [(Aa.mk e.Op e.N e.S e.Kids e.At)]).bind fun l =>
      (Bd n (Aa.mk 6 0 ⟨#[]⟩ l 0) d known).bind fun v_1 =>
      (C8 0).bind fun n_ =>
      (Cc 10 (Aa.mk e.Op e.N e.S e.Kids e.At) n_).bind fun t1 =>
      (Bd n t1 d known).bind fun v_2 =>
      (((LD).bind fun s2 =>
      bif s2 then
       bif (decide ((-999999999999999)<=v_.1)) then
        bif (decide (v_.1<=999999999999999)) then
         bif (v_1.2 == 0) then
          bif (v_2.2 == 0) then
           bif (v_1.1 == (IntKind.i64.wrap (0-v_.1))) then
            some (v_2.1 == v_.1)
           else
            some false
          else
           some false
         else
          some false
        else
         some false
       else
        some false
      else
       some false
      ):Option Bool).bind fun v61 =>
       some v61
     else
      bif (t.1 == 2) then
       (C8 0).bind fun n_1 =>
       (Cc 10 (Aa.mk e.Op e.N e.S e.Kids e.At) n_1).bind fun t2 =>
       (Bd n t2 d known).bind fun v_3 =>
       (Cc 11 (Aa.mk e.Op e.N e.S e.Kids e.At) (Aa.mk e.Op e.N e.S e.Kids e.At)).bind fun t3 =>
       (Bd n t3 d known).bind fun v_4 =>
       (((LD).bind fun s3 =>
       bif s3 then
        bif (decide (0<=v_.1)) then
         bif (decide (v_.1<=41667)) then
          bif (v_3.2 == 0) then
           bif (v_4.2 == 0) then
            bif (v_3.1 == v_.1) then
             some (v_4.1 == 0)
            else
             some false
           else
            some false
          else
           some false
         else
          some false
        else
         some false
       else
        some false
       ):Option Bool).bind fun v62 =>
        some v62
      else
       bif (t.1 == 3) then
        (some [(Aa.mk e.Op e.N e.S e.Kids e.At)]).bind fun l1 =>
        (Bd n (Aa.mk 5 0 ⟨#[]⟩ l1 0) d known).bind fun v_5 =>
        (Cc 18 (Aa.mk e.Op e.N e.S e.Kids e.At) (Aa.mk 5 0 ⟨#[]⟩ l1 0)).bind fun t4 =>
        (Bd n t4 d known).bind fun v_6 =>
        (Cc 19 (Aa.mk e.Op e.N e.S e.Kids e.At) (Aa.mk 5 0 ⟨#[]⟩ l1 0)).bind fun t5 =>
        (Bd n t5 d known).bind fun v_7 =>
        (((LD).bind fun s4 =>
        bif s4 then
         bif (v_.1 == 0) then
          bif (v_5.2 == 0) then
           bif (v_6.2 == 0) then
            bif (v_7.2 == 0) then
             bif (v_5.1 == (IntKind.i64.wrap (1-v_.1))) then
              bif (v_6.1 == 0) then
               some (v_7.1 == 1)
              else
               some false
             else
              some false
            else
             some false
           else
            some false
          else
           some false
         else
          bif (v_.1 == 1) then
           bif (v_5.2 == 0) then
            bif (v_6.2 == 0) then
             bif (v_7.2 == 0) then
              bif (v_5.1 == (IntKind.i64.wrap (1-v_.1))) then
               bif (v_6.1 == 0) then
                some (v_7.1 == 1)
               else
                some false
              else
               some false
             else
              some false
            else
             some false
           else
            some false
          else
           some false
        else
         some false
        ):Option Bool).bind fun v63 =>
         some v63
       else
        bif (t.1 == 4) then
         (Cc 12 (Aa.mk e.Op e.N e.S e.Kids e.At) (Aa.mk e.Op e.N e.S e.Kids e.At)).bind fun t6 =>
         (Bd n t6 d known).bind fun v_8 =>
         (((LD).bind fun s5 =>
         bif s5 then
          bif (decide (0<=v_.1)) then
           bif (decide (v_.1<=1000)) then
            bif (v_8.2 == 0) then
             some (v_8.1 == 1)
            else
             some false
           else
            some false
          else
           some false
         else
          some false
         ):Option Bool).bind fun v64 =>
          some v64
        else
         some false
abbrev hC (l:List Az):PV:=hP l Ey
abbrev oC (l:List Az):PV:=oP l Ey
end Go.Sp
