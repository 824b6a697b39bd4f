/-
  Chapter 33 as plain functions, second part: what is exported, the specification, the laws; no program. (Printed by lift.py.)
-/
import Derived.Test.YtkcfmlfkfagejaaGreatDoorU15
set_option linter.unusedVariables false
set_option linter.unusedSimpArgs false
namespace Go.Sp
open Go Go.Vl
set_option linter.unusedVariables false
structure A0 where
 Name:ByteArray
 Kind:Int
 Rank:Int
 Known:Int
 From:Ab
 To:Ab
 When:Ab
 Houses:Int
def E0 (x:A0):List PV:=[tP x.Name,iP x.Kind,iP x.Rank,iP x.Known,iP x.From.Op,iP x.From.N,tP x.From.S,hP x.From.Kids AQ,iP x.From.At,iP x.To.Op,iP x.To.N,tP x.To.S,hP x.To.Kids AQ,iP x.To.At,iP x.When.Op,iP x.When.N,tP x.When.S,hP x.When.Kids AQ,iP x.When.At,iP x.Houses]
theorem K7 (x:A0):E0 x=[tP x.Name,iP x.Kind,iP x.Rank,iP x.Known,iP x.From.Op,iP x.From.N,tP x.From.S,hP x.From.Kids AQ,iP x.From.At,iP x.To.Op,iP x.To.N,tP x.To.S,hP x.To.Kids AQ,iP x.To.At,iP x.When.Op,iP x.When.N,tP x.When.S,hP x.When.Kids AQ,iP x.When.At,iP x.Houses]:=rfl
theorem Kf (x:A0):(E0 x).length=20:=rfl
def Ai:Rw A0:=⟨E0,_,20,K7,Kf⟩
def Ke (x:Int):List PV:=[uP x]
theorem SG (x:Int):Ke x=[uP x]:=rfl
theorem Rm (x:Int):(Ke x).length=1:=rfl
def VR:Rw Int:=⟨Ke,_,1,SG,Rm⟩
def Bt:Nat->A1->Int->Option (Unit ⊕ Int)
 |0,_,_=>none
 |n+1,d,v14 =>
  bif (decide (v14<(d.Facts.length:Int))) then
   (gi d.Facts v14).bind fun x =>
   ((bif (decide (x.Kind<1)) then
    some true
   else
    bif (decide (5<x.Kind)) then
     some true
    else
     bif (decide (x.Who<1)) then
      some true
     else
      bif (decide (1000<x.Who)) then
       some true
      else
       bif (decide (x.Day<0)) then
        some true
       else
        bif (decide (41666<x.Day)) then
         some true
        else
         bif (decide (x.Known<0)) then
          some true
         else
          some (decide (41666<x.Known))
   ):Option Bool).bind fun v55 =>
    bif v55 then
     some (.inr 1)
    else
     Bt n d (IntKind.i64.wrap (v14+1))
  else
   some (.inl ())
theorem Fy (n:Nat)(d:A1)(v14:Int):Bt (n+1) d v14 =
 bif (decide (v14<(d.Facts.length:Int))) then
  (gi d.Facts v14).bind fun x =>
  ((bif (decide (x.Kind<1)) then
   some true
  else
   bif (decide (5<x.Kind)) then
    some true
   else
    bif (decide (x.Who<1)) then
     some true
    else
     bif (decide (1000<x.Who)) then
      some true
     else
      bif (decide (x.Day<0)) then
       some true
      else
       bif (decide (41666<x.Day)) then
        some true
       else
        bif (decide (x.Known<0)) then
         some true
        else
         some (decide (41666<x.Known))
  ):Option Bool).bind fun v55 =>
   bif v55 then
    some (.inr 1)
   else
    Bt n d (IntKind.i64.wrap (v14+1))
 else
  some (.inl ()):=by rw [Bt]
def BN (n:Nat)(d:A1)(known:Int):Option Int :=
 bif (decide (200<(d.Facts.length:Int))) then
  some 2
 else
  ((Bt n d 0
  ):Option (Unit ⊕ Int)).bind fun y=>match y with
  |.inl _ =>
   ((bif (decide (d.Stored<0)) then
    some true
   else
    bif (decide (41666<d.Stored)) then
     some true
    else
     bif (decide (known<0)) then
      some true
     else
      bif (decide (41666<known)) then
       some true
      else
       bif (decide (d.Owner<0)) then
        some true
       else
        some (decide (1000<d.Owner))
   ):Option Bool).bind fun v82 =>
    bif v82 then
     some 1
    else
     some 0
  |.inr o=>some o
def BM (n:Nat)(e:Ab)(d:A1)(known:Int):Option (Int×Int) :=
 (some ()).bind fun u =>
 (Jt (Ab.mk e.Op e.N e.S e.Kids e.At)).bind fun f =>
 bif (f.2.2.E != 0) then
  some (0,f.2.2.E)
 else
  (BN n d known).bind fun x =>
  bif (x != 0) then
   some (0,x)
  else
   (PC (Ab.mk e.Op e.N e.S e.Kids e.At) (Ah.mk d known)).bind fun v_ =>
   some (v_,0)
def F6 (c:Int):Option Bool :=
 ((bif (decide (97<=c)) then
  bif (decide (c<=122)) then
   some false
  else
   bif (decide (65<=c)) then
    bif (decide (c<=90)) then
     some false
    else
     bif (c == 95) then
      some false
     else
      bif (decide (48<=c)) then
       some (!(decide (c<=57)))
      else
       some true
   else
    bif (c == 95) then
     some false
    else
     bif (decide (48<=c)) then
      some (!(decide (c<=57)))
     else
      some true
 else
  bif (decide (65<=c)) then
   bif (decide (c<=90)) then
    some false
   else
    bif (c == 95) then
     some false
    else
     bif (decide (48<=c)) then
      some (!(decide (c<=57)))
     else
      some true
  else
   bif (c == 95) then
    some false
   else
    bif (decide (48<=c)) then
     some (!(decide (c<=57)))
    else
     some true
 ):Option Bool).bind fun v2 =>
  some v2
def BQ:Nat->(List Int)->Int->Option (Unit ⊕ Int)
 |0,_,_=>none
 |n+1,s,v8 =>
  bif (decide (v8<(s.length:Int))) then
   (gi s v8).bind fun x =>
   (F6 x).bind fun i =>
   bif i then
    some (.inr v8)
   else
    BQ n s (IntKind.i64.wrap (v8+1))
  else
   some (.inl ())
def Dz (n:Nat)(s:(List Int)):Option Int :=
 ((BQ n s 0
 ):Option (Unit ⊕ Int)).bind fun y=>match y with
 |.inl _ =>
  some (-1)
 |.inr o=>some o
def Da (n:Nat)(s:(List Int)):Option Bool :=
 (Dz n s).bind fun i =>
 some (decide (0<=i))
def GF (n:Nat)(s:ByteArray):Option Bool :=
 ((bif (decide (s=⟨#[]⟩)) then
  some true
 else
  bif (decide (32<(s.size:Int))) then
   some true
  else
   (gb s 0).bind fun c1 =>
   bif (decide (48<=c1)) then
    some (decide (c1<=57))
   else
    some false
 ):Option Bool).bind fun v19 =>
  bif v19 then
   some false
  else
   (R6 s).bind fun b =>
   (Da n b).bind fun c =>
   some (!c)
def ER (c:ByteArray)(c1:Int)(c2:Int)(c3:Int)(c4:Int)(c5:Int)(c6:ByteArray)(c7:(List Ab))(c8:Int)(c9:Int)(c10:Int)(c11:ByteArray)(c12:(List Ab))(c13:Int)(c14:Int)(c15:Int)(c16:ByteArray)(c17:(List Ab))(c18:Int)(c19:Int)(x:A0):Option Bool :=
 some (decide (x.Name=c))
def BF:Nat->(List A0)->ByteArray->Int->Int->Int->Int->Int->ByteArray->(List Ab)->Int->Int->Int->ByteArray->(List Ab)->Int->Int->Int->ByteArray->(List Ab)->Int->Int->Int->Option (Unit ⊕ Int)
 |0,_,_,_,_,_,_,_,_,_,_,_,_,_,_,_,_,_,_,_,_,_,_=>none
 |n+1,s,c,c1,c2,c3,c4,c5,c6,c7,c8,c9,c10,c11,c12,c13,c14,c15,c16,c17,c18,c19,v8 =>
  bif (decide (v8<(s.length:Int))) then
   (gi s v8).bind fun x =>
   (ER c c1 c2 c3 c4 c5 c6 c7 c8 c9 c10 c11 c12 c13 c14 c15 c16 c17 c18 c19 x).bind fun c20 =>
   bif c20 then
    some (.inr v8)
   else
    BF n s c c1 c2 c3 c4 c5 c6 c7 c8 c9 c10 c11 c12 c13 c14 c15 c16 c17 c18 c19 (IntKind.i64.wrap (v8+1))
  else
   some (.inl ())
def CZ (n:Nat)(c:ByteArray)(c1:Int)(c2:Int)(c3:Int)(c4:Int)(c5:Int)(c6:ByteArray)(c7:(List Ab))(c8:Int)(c9:Int)(c10:Int)(c11:ByteArray)(c12:(List Ab))(c13:Int)(c14:Int)(c15:Int)(c16:ByteArray)(c17:(List Ab))(c18:Int)(c19:Int)(s:(List A0)):Option Int :=
 ((BF n s c c1 c2 c3 c4 c5 c6 c7 c8 c9 c10 c11 c12 c13 c14 c15 c16 c17 c18 c19 0
 ):Option (Unit ⊕ Int)).bind fun y=>match y with
 |.inl _ =>
  some (-1)
 |.inr o=>some o
def Cj (n:Nat)(c:ByteArray)(c1:Int)(c2:Int)(c3:Int)(c4:Int)(c5:Int)(c6:ByteArray)(c7:(List Ab))(c8:Int)(c9:Int)(c10:Int)(c11:ByteArray)(c12:(List Ab))(c13:Int)(c14:Int)(c15:Int)(c16:ByteArray)(c17:(List Ab))(c18:Int)(c19:Int)(s:(List A0)):Option Bool :=
 (CZ n c c1 c2 c3 c4 c5 c6 c7 c8 c9 c10 c11 c12 c13 c14 c15 c16 c17 c18 c19 s).bind fun c20 =>
 some (decide (0<=c20))
def Fi (c:ByteArray)(c1:Int)(c2:Int)(c3:Int)(c4:Int)(c5:Int)(c6:ByteArray)(c7:(List Ab))(c8:Int)(c9:Int)(c10:Int)(c11:ByteArray)(c12:(List Ab))(c13:Int)(c14:Int)(c15:Int)(c16:ByteArray)(c17:(List Ab))(c18:Int)(c19:Int):Option Unit :=
 some ()
def CF:Nat->A0->Int->Option (Unit ⊕ Int)
 |0,_,_=>none
 |n+1,x,v94 =>
  bif (v94 == 0) then
   (Jt x.From).bind fun f2 =>
   bif (f2.2.2.E != 0) then
    some (.inr f2.2.2.E)
   else
    bif (f2.1 != 2) then
     some (.inr 7)
    else
     CF n x 1
  else
   bif (v94 == 1) then
    (Jt x.To).bind fun f1 =>
    bif (f1.2.2.E != 0) then
     some (.inr f1.2.2.E)
    else
     bif (f1.1 != 2) then
      some (.inr 7)
     else
      CF n x 2
   else
    bif (v94 == 2) then
     (Jt x.When).bind fun f =>
     bif (f.2.2.E != 0) then
      some (.inr f.2.2.E)
     else
      bif (f.1 != 3) then
       some (.inr 7)
      else
       CF n x 3
    else
     bif (v94 == 3) then
      some (.inl ())
     else
      none
def EA:Nat->(List A0)->Int->Option (Unit ⊕ Int)
 |0,_,_=>none
 |n+1,l,v20 =>
  bif (decide (v20<(l.length:Int))) then
   (gi l v20).bind fun x =>
   (GF n x.Name).bind fun i =>
   bif (!i) then
    some (.inr 6)
   else
    (VY l 0 v20).bind fun l1 =>
    (Cj n x.Name x.Kind x.Rank x.Known x.From.Op x.From.N x.From.S x.From.Kids x.From.At x.To.Op x.To.N x.To.S x.To.Kids x.To.At x.When.Op x.When.N x.When.S x.When.Kids x.When.At x.Houses l1).bind fun c =>
    bif c then
     some (.inr 9)
    else
     ((bif (decide (x.Kind<1)) then
      some true
     else
      some (decide (3<x.Kind))
     ):Option Bool).bind fun v39 =>
      bif v39 then
       some (.inr 1)
      else
       ((bif (decide (x.Rank<0)) then
        some true
       else
        bif (decide (9<x.Rank)) then
         some true
        else
         bif (decide (x.Known<0)) then
          some true
         else
          bif (decide (41666<x.Known)) then
           some true
          else
           bif (!(x.Kind == 3)) then
            bif (x.Houses != 0) then
             some true
            else
             bif (x.Kind == 3) then
              bif (decide (x.Houses<1)) then
               some true
              else
               some (decide (4096<=x.Houses))
             else
              some false
           else
            bif (x.Kind == 3) then
             bif (decide (x.Houses<1)) then
              some true
             else
              some (decide (4096<=x.Houses))
            else
             some false
       ):Option Bool).bind fun v48 =>
        bif v48 then
         some (.inr 3)
        else
         (Fi x.Name x.Kind x.Rank x.Known x.From.Op x.From.N x.From.S x.From.Kids x.From.At x.To.Op x.To.N x.To.S x.To.Kids x.To.At x.When.Op x.When.N x.When.S x.When.Kids x.When.At x.Houses).bind fun w =>
         ((CF n x 0
         ):Option (Unit ⊕ Int)).bind fun y3=>match y3 with
         |.inl _ =>
          EA n l (IntKind.i64.wrap (v20+1))
         |.inr o=>some (.inr o)
  else
   some (.inl ())
def EH (n:Nat)(l:(List A0)):Option Int :=
 bif (decide (40<(l.length:Int))) then
  some 2
 else
  (some ()).bind fun u =>
  ((EA n l 0
  ):Option (Unit ⊕ Int)).bind fun y=>match y with
  |.inl _ =>
   some 0
  |.inr o=>some o
def E9 (n:Nat)(c:A0)(d:A1)(known:Int):Option (Int×Int×Bool×Int) :=
 (some [c]).bind fun l =>
 (EH n l).bind fun e =>
 bif (e != 0) then
  some (0,0,false,e)
 else
  (BN n d known).bind fun e1 =>
  bif (e1 != 0) then
   some (0,0,false,e1)
  else
   (some ()).bind fun u =>
   (((PC c.From (Ah.mk d known)).bind fun from_1 =>
   (PC c.To (Ah.mk d known)).bind fun UW =>
   bif (decide (c.Known<=known)) then
    (PC c.When (Ah.mk d known)).bind fun v_ =>
    some (from_1,UW,(v_ == 1))
   else
    some (from_1,UW,false)
   ):Option (Int×Int×Bool)).bind fun y=>match y with
   |(from_,to,applies) =>
    some (from_,to,applies,0)
def FJ:Option (ByteArray×ByteArray×ByteArray×ByteArray) :=
 some (⟨#[]⟩,⟨#[107,101,101,112]⟩,⟨#[100,114,111,112]⟩,⟨#[112,108,97,99,101]⟩)
def Fh (c:ByteArray)(c1:Int)(c2:Int)(c3:Int)(c4:Int)(c5:Int)(c6:ByteArray)(c7:(List Ab))(c8:Int)(c9:Int)(c10:Int)(c11:ByteArray)(c12:(List Ab))(c13:Int)(c14:Int)(c15:Int)(c16:ByteArray)(c17:(List Ab))(c18:Int)(c19:Int)(f:ByteArray)(f1:(List AH))(f2:(List Av))(f3:Int):Option Unit :=
 some ()
def Dc:Nat->A0->Int->(List AH)->Option (List AH)
 |0,_,_,_=>none
 |n+1,x,v67,f3 =>
  bif (decide (v67<12)) then
   (Xq v67 (x.Houses.fdiv (2 ^ min v67.toNat IntKind.i64.bits))).bind fun q =>
   bif ((bits .and .i64 q 1) == 1) then
    (some [(AH.mk 2 v67 ⟨#[]⟩ (Ab.mk 0 0 ⟨#[]⟩ [] 0) 0)]).bind fun l4 =>
    (C0 105 f3 l4).bind fun l5 =>
    Dc n x (IntKind.i64.wrap (v67+1)) l5
   else
    Dc n x (IntKind.i64.wrap (v67+1)) f3
  else
   some f3
def Cr:Nat->A0->Int->(List AH)->Option (List AH)
 |0,_,_,_=>none
 |n+1,x,v45,f4 =>
  bif (v45 == 0) then
   (some [(AH.mk 5 0 ⟨#[]⟩ x.From 0)]).bind fun l12 =>
   (C0 105 f4 l12).bind fun l13 =>
   Cr n x 1 l13
  else
   bif (v45 == 1) then
    (some [(AH.mk 5 0 ⟨#[]⟩ x.To 0)]).bind fun l10 =>
    (C0 105 f4 l10).bind fun l11 =>
    Cr n x 2 l11
   else
    bif (v45 == 2) then
     (some [(AH.mk 5 0 ⟨#[]⟩ x.When 0)]).bind fun l8 =>
     (C0 105 f4 l8).bind fun l9 =>
     Cr n x 3 l9
    else
     bif (v45 == 3) then
      some f4
     else
      none
def Eh:Nat->(List A0)->(List Av)->Int->Option (List Av)
 |0,_,_,_=>none
 |n+1,l,forms1,v21 =>
  bif (decide (v21<(l.length:Int))) then
   (gi l v21).bind fun x =>
   (FJ).bind fun w =>
   (gi [w.1,w.2.1,w.2.2.1,w.2.2.2] x.Kind).bind fun x1 =>
   (some [(AH.mk 1 0 x.Name (Ab.mk 0 0 ⟨#[]⟩ [] 0) 0),(AH.mk 2 x.Rank ⟨#[]⟩ (Ab.mk 0 0 ⟨#[]⟩ [] 0) 0),(AH.mk 2 x.Known ⟨#[]⟩ (Ab.mk 0 0 ⟨#[]⟩ [] 0) 0)]).bind fun l1 =>
   (Fh x.Name x.Kind x.Rank x.Known x.From.Op x.From.N x.From.S x.From.Kids x.From.At x.To.Op x.To.N x.To.S x.To.Kids x.To.At x.When.Op x.When.N x.When.S x.When.Kids x.When.At x.Houses x1 l1 [] 0).bind fun w1 =>
   ((Cr n x 0 l1
   ):Option (List AH)).bind fun f =>
    ((bif (x.Kind == 3) then
     (some [(AH.mk 4 0 ⟨#[]⟩ (Ab.mk 0 0 ⟨#[]⟩ [] 0) 0)]).bind fun l6 =>
     (C0 105 f l6).bind fun l7 =>
     some l7
    else
     some f
    ):Option (List AH)).bind fun f1 =>
     ((Dc n x 0 f1
     ):Option (List AH)).bind fun f2 =>
      (some [(Av.mk x1 f2 [] 0)]).bind fun l2 =>
      (C0 73 forms1 l2).bind fun l3 =>
      Eh n l l3 (IntKind.i64.wrap (v21+1))
  else
   some forms1
def GG (n:Nat)(l:(List A0)):Option (ByteArray×Int) :=
 (EH n l).bind fun e =>
 bif (e != 0) then
  some (⟨#[]⟩,e)
 else
  ((Eh n l [] 0
  ):Option (List Av)).bind fun forms =>
   (Jo n forms).bind fun p =>
   some (p.1,p.2)
def DD:Nat->(List ByteArray)->ByteArray->Int->Option (Unit ⊕ Int)
 |0,_,_,_=>none
 |n+1,s,v_,v8 =>
  bif (decide (v8<(s.length:Int))) then
   (gi s v8).bind fun x =>
   bif (decide (v_=x)) then
    some (.inr v8)
   else
    DD n s v_ (IntKind.i64.wrap (v8+1))
  else
   some (.inl ())
def Gg (n:Nat)(s:(List ByteArray))(v_:ByteArray):Option Int :=
 ((DD n s v_ 0
 ):Option (Unit ⊕ Int)).bind fun y=>match y with
 |.inl _ =>
  some (-1)
 |.inr o=>some o
def Eg:Nat->Av->(List Int)->Int->Option (Unit ⊕ (Int×Bool))
 |0,_,_,_=>none
 |n+1,f,want,v52 =>
  bif (decide (v52<(f.Args.length:Int))) then
   (gi f.Args v52).bind fun x =>
   (gi want (if (IntKind.i64.wrap ((want.length:Int)-1))<v52 then (IntKind.i64.wrap ((want.length:Int)-1)) else v52)).bind fun x1 =>
   bif (x.Kind != x1) then
    some (.inr (0,false))
   else
    Eg n f want (IntKind.i64.wrap (v52+1))
  else
   some (.inl ())
def GC (n:Nat)(f:Av):Option (Int×Bool) :=
 (FJ).bind fun l =>
 (Gg n [l.2.1,l.2.2.1,l.2.2.2] f.Word).bind fun i =>
 (some [1,2,2,5,5,5]).bind fun l1 =>
 ((bif ((IntKind.i64.wrap (i+1)) == 3) then
  (some [4,2]).bind fun l2 =>
  (C0 9 l1 l2).bind fun l3 =>
  some l3
 else
  some l1
 ):Option (List Int)).bind fun want =>
  ((bif ((IntKind.i64.wrap (i+1)) == 0) then
   some true
  else
   bif (decide (0<(f.Body.length:Int))) then
    some true
   else
    bif (decide ((f.Args.length:Int)<(want.length:Int))) then
     some true
    else
     bif ((IntKind.i64.wrap (i+1)) != 3) then
      some (decide ((want.length:Int)<(f.Args.length:Int)))
     else
      some false
  ):Option Bool).bind fun v48 =>
   bif v48 then
    some (0,false)
   else
    ((Eg n f want 0
    ):Option (Unit ⊕ (Int×Bool))).bind fun y2=>match y2 with
    |.inl _ =>
     some ((IntKind.i64.wrap (i+1)),true)
    |.inr o=>some o
def Eb (q:Int)(q1:Int)(p:Int)(p1:Int)(f:ByteArray)(f1:(List AH))(f2:(List Av))(f3:Int)(c:A0):Option Bool :=
 (gi f1 0).bind fun x =>
 some (decide (c.Name=x.S))
def BC:Nat->(List A0)->Int->Int->Int->Int->ByteArray->(List AH)->(List Av)->Int->Int->Option (Unit ⊕ Int)
 |0,_,_,_,_,_,_,_,_,_,_=>none
 |n+1,s,q,q1,p,p1,f,f1,f2,f3,v8 =>
  bif (decide (v8<(s.length:Int))) then
   (gi s v8).bind fun x =>
   (Eb q q1 p p1 f f1 f2 f3 x).bind fun c =>
   bif c then
    some (.inr v8)
   else
    BC n s q q1 p p1 f f1 f2 f3 (IntKind.i64.wrap (v8+1))
  else
   some (.inl ())
def CJ (n:Nat)(q:Int)(q1:Int)(p:Int)(p1:Int)(f:ByteArray)(f1:(List AH))(f2:(List Av))(f3:Int)(s:(List A0)):Option Int :=
 ((BC n s q q1 p p1 f f1 f2 f3 0
 ):Option (Unit ⊕ Int)).bind fun y=>match y with
 |.inl _ =>
  some (-1)
 |.inr o=>some o
def Ck (n:Nat)(q:Int)(q1:Int)(p:Int)(p1:Int)(f:ByteArray)(f1:(List AH))(f2:(List Av))(f3:Int)(s:(List A0)):Option Bool :=
 (CJ n q q1 p p1 f f1 f2 f3 s).bind fun c =>
 some (decide (0<=c))
def Fg (q:Int)(q1:Int)(p:Int)(p1:Int)(f:ByteArray)(f1:(List AH))(f2:(List Av))(f3:Int)(c:ByteArray)(c1:Int)(c2:Int)(c3:Int)(c4:Int)(c5:Int)(c6:ByteArray)(c7:(List Ab))(c8:Int)(c9:Int)(c10:Int)(c11:ByteArray)(c12:(List Ab))(c13:Int)(c14:Int)(c15:Int)(c16:ByteArray)(c17:(List Ab))(c18:Int)(c19:Int):Option Unit :=
 some ()
def BY:Nat->AH->AH->AH->Int->Option (Unit ⊕ ((List A0)×Au))
 |0,_,_,_,_=>none
 |n+1,x5,x6,x7,v170 =>
  bif (v170 == 0) then
   (Jt x5.E).bind fun f3 =>
   bif (f3.2.2.E != 0) then
    some (.inr ([],f3.2.2))
   else
    bif (f3.1 != 2) then
     some (.inr ([],(Au.mk x5.At 7)))
    else
     BY n x5 x6 x7 1
  else
   bif (v170 == 1) then
    (Jt x6.E).bind fun f2 =>
    bif (f2.2.2.E != 0) then
     some (.inr ([],f2.2.2))
    else
     bif (f2.1 != 2) then
      some (.inr ([],(Au.mk x6.At 7)))
     else
      BY n x5 x6 x7 2
   else
    bif (v170 == 2) then
     (Jt x7.E).bind fun f1 =>
     bif (f1.2.2.E != 0) then
      some (.inr ([],f1.2.2))
     else
      bif (f1.1 != 3) then
       some (.inr ([],(Au.mk x7.At 7)))
      else
       BY n x5 x6 x7 3
    else
     bif (v170 == 3) then
      some (.inl ())
     else
      none
def CI:Nat->Av->Int->Int->Int->Option (Int ⊕ ((List A0)×Au))
 |0,_,_,_,_=>none
 |n+1,x,v103,last,c2 =>
  bif (decide (v103<(x.Args.length:Int))) then
   (gi x.Args v103).bind fun x8 =>
   ((bif (v103 == 1) then
    bif (decide (x8.N<0)) then
     some true
    else
     bif (decide (9<x8.N)) then
      some true
     else
      bif (v103 == 2) then
       bif (decide (x8.N<0)) then
        some true
       else
        bif (decide (41666<x8.N)) then
         some true
        else
         bif (decide (6<v103)) then
          bif (decide (x8.N<=last)) then
           some true
          else
           some (decide (12<=x8.N))
         else
          some false
      else
       bif (decide (6<v103)) then
        bif (decide (x8.N<=last)) then
         some true
        else
         some (decide (12<=x8.N))
       else
        some false
   else
    bif (v103 == 2) then
     bif (decide (x8.N<0)) then
      some true
     else
      bif (decide (41666<x8.N)) then
       some true
      else
       bif (decide (6<v103)) then
        bif (decide (x8.N<=last)) then
         some true
        else
         some (decide (12<=x8.N))
       else
        some false
    else
     bif (decide (6<v103)) then
      bif (decide (x8.N<=last)) then
       some true
      else
       some (decide (12<=x8.N))
     else
      some false
   ):Option Bool).bind fun odd =>
    bif odd then
     some (.inr ([],(Au.mk x8.At 3)))
    else
     bif (decide (6<v103)) then
      (Xq x8.N (IntKind.i64.wrap (1*2 ^ min x8.N.toNat IntKind.i64.bits))).bind fun q =>
      CI n x (IntKind.i64.wrap (v103+1)) x8.N (bits .or .i64 c2 q)
     else
      CI n x (IntKind.i64.wrap (v103+1)) last c2
  else
   some (.inl c2)
def DC:Nat->((List Av)×Au)->(List A0)->Int->Option ((List A0) ⊕ ((List A0)×Au))
 |0,_,_,_=>none
 |n+1,f,out1,v36 =>
  bif (decide (v36<(f.1.length:Int))) then
   (gi f.1 v36).bind fun x =>
   (GC n x).bind fun s =>
   bif (!s.2) then
    some (.inr ([],(Au.mk x.At 5)))
   else
    bif ((out1.length:Int) == 40) then
     some (.inr ([],(Au.mk x.At 2)))
    else
     (Ck n 0 0 f.2.At f.2.E x.Word x.Args x.Body x.At out1).bind fun c =>
     bif c then
      (gi x.Args 0).bind fun x1 =>
      some (.inr ([],(Au.mk x1.At 9)))
     else
      (gi x.Args 0).bind fun x2 =>
      (gi x.Args 1).bind fun x3 =>
      (gi x.Args 2).bind fun x4 =>
      (gi x.Args 3).bind fun x5 =>
      (gi x.Args 4).bind fun x6 =>
      (gi x.Args 5).bind fun x7 =>
      ((CI n x 0 (-1) 0
      ):Option (Int ⊕ ((List A0)×Au))).bind fun y1=>match y1 with
      |.inl c1 =>
       (Fg 0 0 f.2.At f.2.E x.Word x.Args x.Body x.At x2.S s.1 x3.N x4.N x5.E.Op x5.E.N x5.E.S x5.E.Kids x5.E.At x6.E.Op x6.E.N x6.E.S x6.E.Kids x6.E.At x7.E.Op x7.E.N x7.E.S x7.E.Kids x7.E.At c1).bind fun w =>
       ((BY n x5 x6 x7 0
       ):Option (Unit ⊕ ((List A0)×Au))).bind fun y2=>match y2 with
       |.inl _ =>
        (some [(A0.mk x2.S s.1 x3.N x4.N x5.E x6.E x7.E c1)]).bind fun l =>
        (C0 241 out1 l).bind fun l1 =>
        DC n f l1 (IntKind.i64.wrap (v36+1))
       |.inr o=>some (.inr o)
      |.inr o=>some (.inr o)
  else
   some (.inl out1)
def DH (n:Nat)(src:ByteArray):Option ((List A0)×Au) :=
 (Hh n src).bind fun f =>
 bif (f.2.E != 0) then
  some ([],f.2)
 else
  (some ()).bind fun u =>
  ((DC n f [] 0
  ):Option ((List A0) ⊕ ((List A0)×Au))).bind fun y=>match y with
  |.inl out =>
   some (out,(Au.mk 0 0))
  |.inr o=>some o
mutual
def BO:Nat->Ab->Int->Int->Option Int
 |0,_,_,_=>none
 |n+1,e,n_2,k =>
  ((bif (decide (k<(e.Kids.length:Int))) then
   some (decide (0<=n_2))
  else
   some false
  ):Option Bool).bind fun v16 =>
   bif v16 then
    (gi e.Kids k).bind fun x =>
    (BB n x n_2).bind fun n_3 =>
    BO n e n_3 (IntKind.i64.wrap (k+1))
   else
    some n_2
def BB:Nat->Ab->Int->Option Int
 |0,_,_=>none
 |n+1,e,n_ =>
  ((BO n e (IntKind.i64.wrap (n_-1)) 0
  ):Option Int).bind fun n_1 =>
   some n_1
end
theorem ES (n:Nat)(e:Ab)(n_2:Int)(k:Int):BO (n+1) e n_2 k =
 ((bif (decide (k<(e.Kids.length:Int))) then
  some (decide (0<=n_2))
 else
  some false
 ):Option Bool).bind fun v16 =>
  bif v16 then
   (gi e.Kids k).bind fun x =>
   (BB n x n_2).bind fun n_3 =>
   BO n e n_3 (IntKind.i64.wrap (k+1))
  else
   some n_2:=by rw [BO]
theorem Mk (n:Nat)(e:Ab)(n_:Int):BB (n+1) e n_ =
 ((BO n e (IntKind.i64.wrap (n_-1)) 0
 ):Option Int).bind fun n_1 =>
  some n_1:=by rw [BB]
def FM:Nat->(List A0)->(List A0)->Bool->Int->Option (Unit ⊕ Bool)
 |0,_,_,_,_=>none
 |n+1,a_,b,offsets,k =>
  bif (decide (k<(a_.length:Int))) then
   (gi a_ k).bind fun x =>
   (gi b k).bind fun x1 =>
   (B5 n x.From x1.From offsets).bind fun from_ =>
   (B5 n x.To x1.To offsets).bind fun to =>
   (B5 n x.When x1.When offsets).bind fun when =>
   ((bif (!from_) then
    some true
   else
    bif (!to) then
     some true
    else
     bif (!when) then
      some true
     else
      bif (!decide (x.Name=x1.Name)) then
       some true
      else
       bif (x.Kind != x1.Kind) then
        some true
       else
        bif (x.Rank != x1.Rank) then
         some true
        else
         bif (x.Known != x1.Known) then
          some true
         else
          some (x.Houses != x1.Houses)
   ):Option Bool).bind fun v94 =>
    bif v94 then
     some (.inr false)
    else
     FM n a_ b offsets (IntKind.i64.wrap (k+1))
  else
   some (.inl ())
def Kh (n:Nat)(a_:(List A0))(b:(List A0))(offsets:Bool):Option Bool :=
 bif ((a_.length:Int) != (b.length:Int)) then
  some false
 else
  ((FM n a_ b offsets 0
  ):Option (Unit ⊕ Bool)).bind fun y=>match y with
  |.inl _ =>
   some true
  |.inr o=>some o
def E1 (n:Nat)(e:Ab)(n_:Int):Option Bool :=
 (BB n (Ab.mk e.Op e.N e.S e.Kids e.At) n_).bind fun l =>
 some (decide (0<=l))
def Ir:Option ByteArray :=
 some ⟨#[107,101,101,112,32,116,97,120,32,50,32,48,32,40,115,116,111,114,101,100,41,32,40,115,116,111,114,101,100,32,43,32,55,32,42,32,121,101,97,114,41,32,40,98,111,114,110,40,111,119,110,101,114,41,32,60,32,110,101,118,101,114,41,59,32,112,108,97,99,101,32,104,111,109,101,32,49,32,51,32,40,100,97,121,40,48,41,41,32,40,110,101,118,101,114,41,32,40,111,119,110,101,114,32,33,61,32,112,101,114,115,111,110,40,48,41,41,32,45,62,32,48,32,50,59]⟩
def GP (s:ByteArray):Option Ab :=
 some (Ab.mk 3 0 s [] 0)
def Ft (n_:Int):Option Ab :=
 some (Ab.mk 1 n_ ⟨#[]⟩ [] 0)
def H3 (op:Int)(a_:Ab)(b:Ab):Option Ab :=
 (some [a_,b]).bind fun l =>
 some (Ab.mk op 0 ⟨#[]⟩ l 0)
def Hi (n:Nat)(src:ByteArray)(at_:Int)(e:Int):Option Bool :=
 (DH n src).bind fun c =>
 ((bif ((c.1.length:Int) == 0) then
  some ((c.2.At == at_)&&((c.2.E == e)&&true))
 else
  some false
 ):Option Bool).bind fun v6 =>
  some v6
def It (n:Nat):Option Bool :=
 (Ir).bind fun s =>
 (DH n s).bind fun c =>
 ((bif (!((c.2.At == 0)&&((c.2.E == 0)&&true))) then
  some true
 else
  bif ((c.1.length:Int) != 2) then
   some true
  else
   (EH n c.1).bind fun c2 =>
   some (c2 != 0)
 ):Option Bool).bind fun v47 =>
  bif v47 then
   some false
  else
   (((gi c.1 0).bind fun x2 =>
   bif (!decide (x2.Name=⟨#[116,97,120]⟩)) then
    some true
   else
    bif (x2.Kind != 1) then
     some true
    else
     bif (x2.Rank != 2) then
      some true
     else
      bif (x2.Known != 0) then
       some true
      else
       bif (x2.Houses != 0) then
        some true
       else
        (gi c.1 1).bind fun x3 =>
        bif (!decide (x3.Name=⟨#[104,111,109,101]⟩)) then
         some true
        else
         bif (x3.Kind != 3) then
          some true
         else
          bif (x3.Rank != 1) then
           some true
          else
           bif (x3.Known != 3) then
            some true
           else
            some (x3.Houses != 5)
   ):Option Bool).bind fun v115 =>
    bif v115 then
     some false
    else
     (some [(Az.mk 1 4 3 5)]).bind fun l =>
     (gi c.1 0).bind fun x =>
     (E9 n x (A1.mk l 10 4) 4).bind fun s1 =>
     (E9 n x (A1.mk l 10 4) 5).bind fun s2 =>
     (gi c.1 1).bind fun x1 =>
     (E9 n x1 (A1.mk l 10 4) 2).bind fun s3 =>
     (E9 n x1 (A1.mk l 10 4) 3).bind fun s4 =>
     (GP ⟨#[110,101,118,101,114]⟩).bind fun n_ =>
     (Ft 5).bind fun n_1 =>
     (H3 11 n_ n_1).bind fun t =>
     (BM n t (A1.mk l 10 4) 0).bind fun v_ =>
     (Ft 3).bind fun n_2 =>
     (some [n_2]).bind fun l1 =>
     (Ft 9).bind fun n_3 =>
     (H3 11 (Ab.mk 4 0 ⟨#[100,97,121]⟩ l1 0) n_3).bind fun t1 =>
     (BM n t1 (A1.mk l 10 4) 0).bind fun v_1 =>
     (GP ⟨#[110,101,118,101,114]⟩).bind fun n_4 =>
     (GP ⟨#[115,116,111,114,101,100]⟩).bind fun n_5 =>
     (H3 11 n_4 n_5).bind fun t2 =>
     (BM n t2 (A1.mk l 10 4) 0).bind fun v_2 =>
     ((bif (s1.2.2.2 != 0) then
      some true
     else
      bif (s2.2.2.2 != 0) then
       some true
      else
       bif (s3.2.2.2 != 0) then
        some true
       else
        bif (s4.2.2.2 != 0) then
         some true
        else
         bif (v_.2 != 0) then
          some true
         else
          bif (v_1.2 != 0) then
           some true
          else
           some (v_2.2 != 0)
     ):Option Bool).bind fun v210 =>
      bif v210 then
       some false
      else
       ((bif (s1.1 != 10) then
        some true
       else
        bif (s1.2.1 != 2565) then
         some true
        else
         bif s1.2.2.1 then
          some true
         else
          bif (!s2.2.2.1) then
           some true
          else
           bif (s3.1 != 0) then
            some true
           else
            bif (s3.2.1 != 41667) then
             some true
            else
             bif s3.2.2.1 then
              some true
             else
              bif (!s4.2.2.1) then
               some true
              else
               bif (v_.1 != 41667) then
                some true
               else
                bif (v_1.1 != 0) then
                 some true
                else
                 some (v_2.1 != 41657)
       ):Option Bool).bind fun v250 =>
        bif v250 then
         some false
        else
         (GG n c.1).bind fun s5 =>
         (DH n s5.1).bind fun c1 =>
         ((bif (s5.2 == 0) then
          bif (c1.2.E == 0) then
           (Kh n c1.1 c.1 false).bind fun s6 =>
           bif s6 then
            (Hi n ⟨#[107,101,101,112,32,97,32,49,32,48,32,40,55,41,32,40,110,101,118,101,114,41,32,40,49,32,60,32,50,41,59]⟩ 11 7).bind fun f =>
            bif f then
             (Hi n ⟨#[100,114,111,112,32,97,32,49,32,48,32,40,115,116,111,114,101,100,41,32,40,110,101,118,101,114,41,32,40,120,41,59]⟩ 29 6).bind fun f1 =>
             some f1
            else
             some false
           else
            some false
          else
           some false
         else
          some false
         ):Option Bool).bind fun v0_ =>
          some v0_
def Od:Option Bool:=It 60
def AY:Nat->A1->Int->Int->(List Az)->Option (List Az)
 |0,_,_,_,_=>none
 |n+1,d,k,i,turned2 =>
  bif (decide (i<(d.Facts.length:Int))) then
   bif (i != k) then
    (gi d.Facts i).bind fun x =>
    (some [x]).bind fun l =>
    (C0 33 turned2 l).bind fun l1 =>
    AY n d k (IntKind.i64.wrap (i+1)) l1
   else
    AY n d k (IntKind.i64.wrap (i+1)) turned2
  else
   some turned2
theorem CB (n:Nat)(d:A1)(k:Int)(i:Int)(turned2:(List Az)):AY (n+1) d k i turned2 =
 bif (decide (i<(d.Facts.length:Int))) then
  bif (i != k) then
   (gi d.Facts i).bind fun x =>
   (some [x]).bind fun l =>
   (C0 33 turned2 l).bind fun l1 =>
   AY n d k (IntKind.i64.wrap (i+1)) l1
  else
   AY n d k (IntKind.i64.wrap (i+1)) turned2
 else
  some turned2:=by rw [AY]
def AW:Nat->Int->A1->Int->Option (Unit ⊕ Bool)
 |0,_,_,_=>none
 |n+1,q,d,i1 =>
  bif (decide (i1<q)) then
   (((gi d.Facts i1).bind fun x2 =>
   (gi d.Facts q).bind fun x3 =>
   bif (x2.Kind == x3.Kind) then
    some (x2.Who == x3.Who)
   else
    some false
   ):Option Bool).bind fun v156 =>
    bif v156 then
     (Od).bind fun s2 =>
     some (.inr s2)
    else
     AW n q d (IntKind.i64.wrap (i1+1))
  else
   some (.inl ())
theorem CA (n:Nat)(q:Int)(d:A1)(i1:Int):AW (n+1) q d i1 =
 bif (decide (i1<q)) then
  (((gi d.Facts i1).bind fun x2 =>
  (gi d.Facts q).bind fun x3 =>
  bif (x2.Kind == x3.Kind) then
   some (x2.Who == x3.Who)
  else
   some false
  ):Option Bool).bind fun v156 =>
   bif v156 then
    (Od).bind fun s2 =>
    some (.inr s2)
   else
    AW n q d (IntKind.i64.wrap (i1+1))
 else
  some (.inl ()):=by rw [AW]
def AV:Nat->A1->(Int×Int)->Int->(List Az)->Option (List Az)
 |0,_,_,_,_=>none
 |n+1,d,days,k1,early1 =>
  bif (decide (k1<(d.Facts.length:Int))) then
   (gi d.Facts k1).bind fun x4 =>
   bif (decide (x4.Known<=days.1)) then
    (some [x4]).bind fun l4 =>
    (C0 33 early1 l4).bind fun l5 =>
    AV n d days (IntKind.i64.wrap (k1+1)) l5
   else
    AV n d days (IntKind.i64.wrap (k1+1)) early1
  else
   some early1
theorem C9 (n:Nat)(d:A1)(days:(Int×Int))(k1:Int)(early1:(List Az)):AV (n+1) d days k1 early1 =
 bif (decide (k1<(d.Facts.length:Int))) then
  (gi d.Facts k1).bind fun x4 =>
  bif (decide (x4.Known<=days.1)) then
   (some [x4]).bind fun l4 =>
   (C0 33 early1 l4).bind fun l5 =>
   AV n d days (IntKind.i64.wrap (k1+1)) l5
  else
   AV n d days (IntKind.i64.wrap (k1+1)) early1
 else
  some early1:=by rw [AV]
def Du (n:Nat)(e:Ab)(d:A1)(days:(Int×Int))(at_:Int):Option Bool :=
 (E1 n (Ab.mk e.Op e.N e.S e.Kids e.At) 100).bind fun few =>
 ((bif (!few) then
  some true
 else
  bif (decide (60<(d.Facts.length:Int))) then
   some true
  else
   bif (decide (days.2<days.1)) then
    some true
   else
    (BN n d days.1).bind fun k2 =>
    bif (k2 != 0) then
     some true
    else
     (BN n d days.2).bind fun k3 =>
     some (k3 != 0)
 ):Option Bool).bind fun v52 =>
  bif v52 then
   (Od).bind fun s =>
   some s
  else
   (BM n (Ab.mk e.Op e.N e.S e.Kids e.At) d days.1).bind fun v_ =>
   ((AV n d days 0 []
   ):Option (List Az)).bind fun early =>
    (BM n (Ab.mk e.Op e.N e.S e.Kids e.At) (A1.mk early d.Stored d.Owner) days.2).bind fun v_1 =>
    ((bif (v_.2 != v_1.2) then
     some true
    else
     some (v_1.1 != v_.1)
    ):Option Bool).bind fun v108 =>
     bif v108 then
      some false
     else
      ((bif (decide (0<(d.Facts.length:Int))) then
       (V2 (d.Facts.length:Int) ((IntKind.i64.wrap at_).tmod (d.Facts.length:Int))).bind fun q =>
       ((AW n q d 0
       ):Option (Unit ⊕ Bool)).bind fun y6=>match y6 with
       |.inl _ =>
        (gi d.Facts q).bind fun x1 =>
        (some [x1]).bind fun l2 =>
        (C0 33 [] l2).bind fun l3 =>
        some (.inl (q,l3))
       |.inr o=>some (.inr o)
      else
       some (.inl (0,[]))
      ):Option ((Int×(List Az)) ⊕ Bool)).bind fun y3=>match y3 with
      |.inl (k,turned) =>
       ((AY n d k 0 turned
       ):Option (List Az)).bind fun turned1 =>
        (BM n (Ab.mk e.Op e.N e.S e.Kids e.At) (A1.mk turned1 d.Stored d.Owner) days.1).bind fun v_2 =>
        (((Od).bind fun s1 =>
        bif s1 then
         bif (v_2.2 == v_.2) then
          some (v_2.1 == v_.1)
         else
          some false
        else
         some false
        ):Option Bool).bind fun v8 =>
         some v8
      |.inr o=>some o
abbrev hC (l:List A0):PV:=hP l E0
abbrev oC (l:List A0):PV:=oP l E0
end Go.Sp
