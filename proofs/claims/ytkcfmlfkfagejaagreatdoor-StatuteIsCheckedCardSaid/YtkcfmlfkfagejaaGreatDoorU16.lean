/-
  Chapter 33 as plain functions, second part: what is exported, the specification, the laws; no program. (Printed by lift.py.)
-/
import Derived.Test.YtkcfmlfkfagejaaGreatDoorU15
set_option linter.unusedVariables false
set_option linter.unusedSimpArgs false
namespace Go.Sp
open Go Go.Vl
set_option linter.unusedVariables false
structure IT where
 L:(List Ac)
 P:Am
structure Ao where
 Name:ByteArray
 Kind:Int
 Rank:Int
 Known:Int
 From:Ab
 To:Ab
 When:Ab
 Houses:Int
def Ff (x:Ao):List PV:=[tP x.Name,iP x.Kind,iP x.Rank,iP x.Known,iP x.From.Op,iP x.From.N,tP x.From.S,hP x.From.Kids Bu,iP x.From.At,iP x.To.Op,iP x.To.N,tP x.To.S,hP x.To.Kids Bu,iP x.To.At,iP x.When.Op,iP x.When.N,tP x.When.S,hP x.When.Kids Bu,iP x.When.At,iP x.Houses]
theorem Lt (x:Ao):Ff x=[tP x.Name,iP x.Kind,iP x.Rank,iP x.Known,iP x.From.Op,iP x.From.N,tP x.From.S,hP x.From.Kids Bu,iP x.From.At,iP x.To.Op,iP x.To.N,tP x.To.S,hP x.To.Kids Bu,iP x.To.At,iP x.When.Op,iP x.When.N,tP x.When.S,hP x.When.Kids Bu,iP x.When.At,iP x.Houses]:=rfl
theorem KS (x:Ao):(Ff x).length=20:=rfl
def Ak:Rw Ao:=⟨Ff,_,20,Lt,KS⟩
structure BP where
 L:(List Aj)
 X:Ab
 P:Am
structure Cj where
 F:Aj
 To:Int
 N:Int
 E:Int
structure Cl where
 A:Aw
 To:Int
 E:Int
structure A5 where
 X:Ab
 To:Int
 E:Int
structure B7 where
 N:Int
 Op:Int
def KQ (x:Int):List PV:=[uP x]
theorem U1 (x:Int):KQ x=[uP x]:=rfl
theorem SH (x:Int):(KQ x).length=1:=rfl
def Yw:Rw Int:=⟨KQ,_,1,U1,SH⟩
def Ho (src:ByteArray):Option IT:=some ⟨(Fi src).1,(Fi src).2⟩
def Fu:Nat->BC->Int->Option (Unit ⊕ Int)
 |0,_,_=>none
 |n+1,d,v14 =>
  bif (decide (v14<(d.Facts.length:Int))) then
   (gi d.Facts v14).bind fun x =>
   ((bif (decide (x.Kind<1)) then
    some true
   else
    bif (decide (5<x.Kind)) then
     some true
    else
     bif (decide (x.Who<1)) then
      some true
     else
      bif (decide (1000<x.Who)) then
       some true
      else
       bif (decide (x.Day<0)) then
        some true
       else
        bif (decide (41666<x.Day)) then
         some true
        else
         bif (decide (x.Known<0)) then
          some true
         else
          some (decide (41666<x.Known))
   ):Option Bool).bind fun v55 =>
    bif v55 then
     some (.inr 1)
    else
     Fu n d (IntKind.i64.wrap (v14+1))
  else
   some (.inl ())
def GC (n:Nat)(d:BC)(known:Int):Option Int :=
 bif (decide (200<(d.Facts.length:Int))) then
  some 2
 else
  ((Fu n d 0
  ):Option (Unit ⊕ Int)).bind fun y=>match y with
  |.inl _ =>
   ((bif (decide (d.Stored<0)) then
    some true
   else
    bif (decide (41666<d.Stored)) then
     some true
    else
     bif (decide (known<0)) then
      some true
     else
      bif (decide (41666<known)) then
       some true
      else
       bif (decide (d.Owner<0)) then
        some true
       else
        some (decide (1000<d.Owner))
   ):Option Bool).bind fun v82 =>
    bif v82 then
     some 1
    else
     some 0
  |.inr o=>some o
def F2 (n:Nat)(e:Ab)(d:BC)(known:Int):Option (Int×Int) :=
 (some ()).bind fun u =>
 (Gg (Ab.mk e.Op e.N e.S e.Kids e.At)).bind fun f =>
 bif (f.2.2.E != 0) then
  some (0,f.2.2.E)
 else
  (GC n d known).bind fun x =>
  bif (x != 0) then
   some (0,x)
  else
   (Ur (Ab.mk e.Op e.N e.S e.Kids e.At) (Al.mk d known)).bind fun v_ =>
   some (v_,0)
def Dk (c:Int):Option Bool :=
 ((bif (decide (97<=c)) then
  bif (decide (c<=122)) then
   some false
  else
   bif (decide (65<=c)) then
    bif (decide (c<=90)) then
     some false
    else
     bif (c == 95) then
      some false
     else
      bif (decide (48<=c)) then
       some (!(decide (c<=57)))
      else
       some true
   else
    bif (c == 95) then
     some false
    else
     bif (decide (48<=c)) then
      some (!(decide (c<=57)))
     else
      some true
 else
  bif (decide (65<=c)) then
   bif (decide (c<=90)) then
    some false
   else
    bif (c == 95) then
     some false
    else
     bif (decide (48<=c)) then
      some (!(decide (c<=57)))
     else
      some true
  else
   bif (c == 95) then
    some false
   else
    bif (decide (48<=c)) then
     some (!(decide (c<=57)))
    else
     some true
 ):Option Bool).bind fun v2 =>
  some v2
def AQ:Nat->(List Int)->Int->Option (Unit ⊕ Int)
 |0,_,_=>none
 |n+1,s,v8 =>
  bif (decide (v8<(s.length:Int))) then
   (gi s v8).bind fun x =>
   (Dk x).bind fun i =>
   bif i then
    some (.inr v8)
   else
    AQ n s (IntKind.i64.wrap (v8+1))
  else
   some (.inl ())
theorem DQ (n:Nat)(s:(List Int))(v8:Int):AQ (n+1) s v8 =
 bif (decide (v8<(s.length:Int))) then
  (gi s v8).bind fun x =>
  (Dk x).bind fun i =>
  bif i then
   some (.inr v8)
  else
   AQ n s (IntKind.i64.wrap (v8+1))
 else
  some (.inl ()):=by rw [AQ]
def CU (n:Nat)(s:(List Int)):Option Int :=
 ((AQ n s 0
 ):Option (Unit ⊕ Int)).bind fun y=>match y with
 |.inl _ =>
  some (-1)
 |.inr o=>some o
def Ce (n:Nat)(s:(List Int)):Option Bool :=
 (CU n s).bind fun i =>
 some (decide (0<=i))
def DZ (n:Nat)(s:ByteArray):Option Bool :=
 ((bif (decide (s=⟨#[]⟩)) then
  some true
 else
  bif (decide (32<(s.size:Int))) then
   some true
  else
   (gb s 0).bind fun c1 =>
   bif (decide (48<=c1)) then
    some (decide (c1<=57))
   else
    some false
 ):Option Bool).bind fun v19 =>
  bif v19 then
   some false
  else
   (Og s).bind fun b =>
   (Ce n b).bind fun c =>
   some (!c)
def Dm (c:ByteArray)(c1:Int)(c2:Int)(c3:Int)(c4:Int)(c5:Int)(c6:ByteArray)(c7:(List Ab))(c8:Int)(c9:Int)(c10:Int)(c11:ByteArray)(c12:(List Ab))(c13:Int)(c14:Int)(c15:Int)(c16:ByteArray)(c17:(List Ab))(c18:Int)(c19:Int)(x:Ao):Option Bool :=
 some (decide (x.Name=c))
def AL:Nat->(List Ao)->ByteArray->Int->Int->Int->Int->Int->ByteArray->(List Ab)->Int->Int->Int->ByteArray->(List Ab)->Int->Int->Int->ByteArray->(List Ab)->Int->Int->Int->Option (Unit ⊕ Int)
 |0,_,_,_,_,_,_,_,_,_,_,_,_,_,_,_,_,_,_,_,_,_,_=>none
 |n+1,s,c,c1,c2,c3,c4,c5,c6,c7,c8,c9,c10,c11,c12,c13,c14,c15,c16,c17,c18,c19,v8 =>
  bif (decide (v8<(s.length:Int))) then
   (gi s v8).bind fun x =>
   (Dm c c1 c2 c3 c4 c5 c6 c7 c8 c9 c10 c11 c12 c13 c14 c15 c16 c17 c18 c19 x).bind fun c20 =>
   bif c20 then
    some (.inr v8)
   else
    AL n s c c1 c2 c3 c4 c5 c6 c7 c8 c9 c10 c11 c12 c13 c14 c15 c16 c17 c18 c19 (IntKind.i64.wrap (v8+1))
  else
   some (.inl ())
theorem Dy (n:Nat)(s:(List Ao))(c:ByteArray)(c1:Int)(c2:Int)(c3:Int)(c4:Int)(c5:Int)(c6:ByteArray)(c7:(List Ab))(c8:Int)(c9:Int)(c10:Int)(c11:ByteArray)(c12:(List Ab))(c13:Int)(c14:Int)(c15:Int)(c16:ByteArray)(c17:(List Ab))(c18:Int)(c19:Int)(v8:Int):AL (n+1) s c c1 c2 c3 c4 c5 c6 c7 c8 c9 c10 c11 c12 c13 c14 c15 c16 c17 c18 c19 v8 =
 bif (decide (v8<(s.length:Int))) then
  (gi s v8).bind fun x =>
  (Dm c c1 c2 c3 c4 c5 c6 c7 c8 c9 c10 c11 c12 c13 c14 c15 c16 c17 c18 c19 x).bind fun c20 =>
  bif c20 then
   some (.inr v8)
  else
   AL n s c c1 c2 c3 c4 c5 c6 c7 c8 c9 c10 c11 c12 c13 c14 c15 c16 c17 c18 c19 (IntKind.i64.wrap (v8+1))
 else
  some (.inl ()):=by rw [AL]
def CB (n:Nat)(c:ByteArray)(c1:Int)(c2:Int)(c3:Int)(c4:Int)(c5:Int)(c6:ByteArray)(c7:(List Ab))(c8:Int)(c9:Int)(c10:Int)(c11:ByteArray)(c12:(List Ab))(c13:Int)(c14:Int)(c15:Int)(c16:ByteArray)(c17:(List Ab))(c18:Int)(c19:Int)(s:(List Ao)):Option Int :=
 ((AL n s c c1 c2 c3 c4 c5 c6 c7 c8 c9 c10 c11 c12 c13 c14 c15 c16 c17 c18 c19 0
 ):Option (Unit ⊕ Int)).bind fun y=>match y with
 |.inl _ =>
  some (-1)
 |.inr o=>some o
def B1 (n:Nat)(c:ByteArray)(c1:Int)(c2:Int)(c3:Int)(c4:Int)(c5:Int)(c6:ByteArray)(c7:(List Ab))(c8:Int)(c9:Int)(c10:Int)(c11:ByteArray)(c12:(List Ab))(c13:Int)(c14:Int)(c15:Int)(c16:ByteArray)(c17:(List Ab))(c18:Int)(c19:Int)(s:(List Ao)):Option Bool :=
 (CB n c c1 c2 c3 c4 c5 c6 c7 c8 c9 c10 c11 c12 c13 c14 c15 c16 c17 c18 c19 s).bind fun c20 =>
 some (decide (0<=c20))
def DB (c:ByteArray)(c1:Int)(c2:Int)(c3:Int)(c4:Int)(c5:Int)(c6:ByteArray)(c7:(List Ab))(c8:Int)(c9:Int)(c10:Int)(c11:ByteArray)(c12:(List Ab))(c13:Int)(c14:Int)(c15:Int)(c16:ByteArray)(c17:(List Ab))(c18:Int)(c19:Int):Option Unit :=
 some ()
def AH:Nat->Ao->Int->Option (Unit ⊕ Int)
 |0,_,_=>none
 |n+1,x,v94 =>
  bif (v94 == 0) then
   (Gg x.From).bind fun f2 =>
   bif (f2.2.2.E != 0) then
    some (.inr f2.2.2.E)
   else
    bif (f2.1 != 2) then
     some (.inr 7)
    else
     AH n x 1
  else
   bif (v94 == 1) then
    (Gg x.To).bind fun f1 =>
    bif (f1.2.2.E != 0) then
     some (.inr f1.2.2.E)
    else
     bif (f1.1 != 2) then
      some (.inr 7)
     else
      AH n x 2
   else
    bif (v94 == 2) then
     (Gg x.When).bind fun f =>
     bif (f.2.2.E != 0) then
      some (.inr f.2.2.E)
     else
      bif (f.1 != 3) then
       some (.inr 7)
      else
       AH n x 3
    else
     bif (v94 == 3) then
      some (.inl ())
     else
      none
theorem Dt (n:Nat)(x:Ao)(v94:Int):AH (n+1) x v94 =
 bif (v94 == 0) then
  (Gg x.From).bind fun f2 =>
  bif (f2.2.2.E != 0) then
   some (.inr f2.2.2.E)
  else
   bif (f2.1 != 2) then
    some (.inr 7)
   else
    AH n x 1
 else
  bif (v94 == 1) then
   (Gg x.To).bind fun f1 =>
   bif (f1.2.2.E != 0) then
    some (.inr f1.2.2.E)
   else
    bif (f1.1 != 2) then
     some (.inr 7)
    else
     AH n x 2
  else
   bif (v94 == 2) then
    (Gg x.When).bind fun f =>
    bif (f.2.2.E != 0) then
     some (.inr f.2.2.E)
    else
     bif (f.1 != 3) then
      some (.inr 7)
     else
      AH n x 3
   else
    bif (v94 == 3) then
     some (.inl ())
    else
     none:=by rw [AH]
def Cv:Nat->(List Ao)->Int->Option (Unit ⊕ Int)
 |0,_,_=>none
 |n+1,l,v20 =>
  bif (decide (v20<(l.length:Int))) then
   (gi l v20).bind fun x =>
   (DZ n x.Name).bind fun i =>
   bif (!i) then
    some (.inr 6)
   else
    (Uc l 0 v20).bind fun l1 =>
    (B1 n x.Name x.Kind x.Rank x.Known x.From.Op x.From.N x.From.S x.From.Kids x.From.At x.To.Op x.To.N x.To.S x.To.Kids x.To.At x.When.Op x.When.N x.When.S x.When.Kids x.When.At x.Houses l1).bind fun c =>
    bif c then
     some (.inr 9)
    else
     ((bif (decide (x.Kind<1)) then
      some true
     else
      some (decide (3<x.Kind))
     ):Option Bool).bind fun v39 =>
      bif v39 then
       some (.inr 1)
      else
       ((bif (decide (x.Rank<0)) then
        some true
       else
        bif (decide (9<x.Rank)) then
         some true
        else
         bif (decide (x.Known<0)) then
          some true
         else
          bif (decide (41666<x.Known)) then
           some true
          else
           bif (!(x.Kind == 3)) then
            bif (x.Houses != 0) then
             some true
            else
             bif (x.Kind == 3) then
              bif (decide (x.Houses<1)) then
               some true
              else
               some (decide (4096<=x.Houses))
             else
              some false
           else
            bif (x.Kind == 3) then
             bif (decide (x.Houses<1)) then
              some true
             else
              some (decide (4096<=x.Houses))
            else
             some false
       ):Option Bool).bind fun v48 =>
        bif v48 then
         some (.inr 3)
        else
         (DB x.Name x.Kind x.Rank x.Known x.From.Op x.From.N x.From.S x.From.Kids x.From.At x.To.Op x.To.N x.To.S x.To.Kids x.To.At x.When.Op x.When.N x.When.S x.When.Kids x.When.At x.Houses).bind fun w =>
         ((AH n x 0
         ):Option (Unit ⊕ Int)).bind fun y3=>match y3 with
         |.inl _ =>
          Cv n l (IntKind.i64.wrap (v20+1))
         |.inr o=>some (.inr o)
  else
   some (.inl ())
theorem Gn (n:Nat)(l:(List Ao))(v20:Int):Cv (n+1) l v20 =
 bif (decide (v20<(l.length:Int))) then
  (gi l v20).bind fun x =>
  (DZ n x.Name).bind fun i =>
  bif (!i) then
   some (.inr 6)
  else
   (Uc l 0 v20).bind fun l1 =>
   (B1 n x.Name x.Kind x.Rank x.Known x.From.Op x.From.N x.From.S x.From.Kids x.From.At x.To.Op x.To.N x.To.S x.To.Kids x.To.At x.When.Op x.When.N x.When.S x.When.Kids x.When.At x.Houses l1).bind fun c =>
   bif c then
    some (.inr 9)
   else
    ((bif (decide (x.Kind<1)) then
     some true
    else
     some (decide (3<x.Kind))
    ):Option Bool).bind fun v39 =>
     bif v39 then
      some (.inr 1)
     else
      ((bif (decide (x.Rank<0)) then
       some true
      else
       bif (decide (9<x.Rank)) then
        some true
       else
        bif (decide (x.Known<0)) then
         some true
        else
         bif (decide (41666<x.Known)) then
          some true
         else
          bif (!(x.Kind == 3)) then
           bif (x.Houses != 0) then
            some true
           else
            bif (x.Kind == 3) then
             bif (decide (x.Houses<1)) then
              some true
             else
              some (decide (4096<=x.Houses))
            else
             some false
          else
           bif (x.Kind == 3) then
            bif (decide (x.Houses<1)) then
             some true
            else
             some (decide (4096<=x.Houses))
           else
            some false
      ):Option Bool).bind fun v48 =>
       bif v48 then
        some (.inr 3)
       else
        (DB x.Name x.Kind x.Rank x.Known x.From.Op x.From.N x.From.S x.From.Kids x.From.At x.To.Op x.To.N x.To.S x.To.Kids x.To.At x.When.Op x.When.N x.When.S x.When.Kids x.When.At x.Houses).bind fun w =>
        ((AH n x 0
        ):Option (Unit ⊕ Int)).bind fun y3=>match y3 with
        |.inl _ =>
         Cv n l (IntKind.i64.wrap (v20+1))
        |.inr o=>some (.inr o)
 else
  some (.inl ()):=by rw [Cv]
def Dh (n:Nat)(l:(List Ao)):Option Int :=
 bif (decide (40<(l.length:Int))) then
  some 2
 else
  (some ()).bind fun u =>
  ((Cv n l 0
  ):Option (Unit ⊕ Int)).bind fun y=>match y with
  |.inl _ =>
   some 0
  |.inr o=>some o
def Ft (n:Nat)(c:Ao)(d:BC)(known:Int):Option (Int×Int×Bool×Int) :=
 (some [c]).bind fun l =>
 (Dh n l).bind fun e =>
 bif (e != 0) then
  some (0,0,false,e)
 else
  (GC n d known).bind fun e1 =>
  bif (e1 != 0) then
   some (0,0,false,e1)
  else
   (some ()).bind fun u =>
   (((Ur c.From (Al.mk d known)).bind fun from_1 =>
   (Ur c.To (Al.mk d known)).bind fun Xp =>
   bif (decide (c.Known<=known)) then
    (Ur c.When (Al.mk d known)).bind fun v_ =>
    some (from_1,Xp,(v_ == 1))
   else
    some (from_1,Xp,false)
   ):Option (Int×Int×Bool)).bind fun y=>match y with
   |(from_,to,applies) =>
    some (from_,to,applies,0)
def F1:Option (ByteArray×ByteArray×ByteArray×ByteArray) :=
 some (⟨#[]⟩,⟨#[107,101,101,112]⟩,⟨#[100,114,111,112]⟩,⟨#[112,108,97,99,101]⟩)
def FQ (c:ByteArray)(c1:Int)(c2:Int)(c3:Int)(c4:Int)(c5:Int)(c6:ByteArray)(c7:(List Ab))(c8:Int)(c9:Int)(c10:Int)(c11:ByteArray)(c12:(List Ab))(c13:Int)(c14:Int)(c15:Int)(c16:ByteArray)(c17:(List Ab))(c18:Int)(c19:Int)(f:ByteArray)(f1:(List Aw))(f2:(List Aj))(f3:Int):Option Unit :=
 some ()
def DC:Nat->Ao->Int->(List Aw)->Option (List Aw)
 |0,_,_,_=>none
 |n+1,x,v67,f3 =>
  bif (decide (v67<12)) then
   (XT v67 (x.Houses.fdiv (2 ^ min v67.toNat IntKind.i64.bits))).bind fun q =>
   bif ((bits .and .i64 q 1) == 1) then
    (some [(Aw.mk 2 v67 ⟨#[]⟩ (Ab.mk 0 0 ⟨#[]⟩ [] 0) 0)]).bind fun l4 =>
    (Cp 105 f3 l4).bind fun l5 =>
    DC n x (IntKind.i64.wrap (v67+1)) l5
   else
    DC n x (IntKind.i64.wrap (v67+1)) f3
  else
   some f3
def CS:Nat->Ao->Int->(List Aw)->Option (List Aw)
 |0,_,_,_=>none
 |n+1,x,v45,f4 =>
  bif (v45 == 0) then
   (some [(Aw.mk 5 0 ⟨#[]⟩ x.From 0)]).bind fun l12 =>
   (Cp 105 f4 l12).bind fun l13 =>
   CS n x 1 l13
  else
   bif (v45 == 1) then
    (some [(Aw.mk 5 0 ⟨#[]⟩ x.To 0)]).bind fun l10 =>
    (Cp 105 f4 l10).bind fun l11 =>
    CS n x 2 l11
   else
    bif (v45 == 2) then
     (some [(Aw.mk 5 0 ⟨#[]⟩ x.When 0)]).bind fun l8 =>
     (Cp 105 f4 l8).bind fun l9 =>
     CS n x 3 l9
    else
     bif (v45 == 3) then
      some f4
     else
      none
def EN:Nat->(List Ao)->(List Aj)->Int->Option (List Aj)
 |0,_,_,_=>none
 |n+1,l,forms1,v21 =>
  bif (decide (v21<(l.length:Int))) then
   (gi l v21).bind fun x =>
   (F1).bind fun w =>
   (gi [w.1,w.2.1,w.2.2.1,w.2.2.2] x.Kind).bind fun x1 =>
   (some [(Aw.mk 1 0 x.Name (Ab.mk 0 0 ⟨#[]⟩ [] 0) 0),(Aw.mk 2 x.Rank ⟨#[]⟩ (Ab.mk 0 0 ⟨#[]⟩ [] 0) 0),(Aw.mk 2 x.Known ⟨#[]⟩ (Ab.mk 0 0 ⟨#[]⟩ [] 0) 0)]).bind fun l1 =>
   (FQ x.Name x.Kind x.Rank x.Known x.From.Op x.From.N x.From.S x.From.Kids x.From.At x.To.Op x.To.N x.To.S x.To.Kids x.To.At x.When.Op x.When.N x.When.S x.When.Kids x.When.At x.Houses x1 l1 [] 0).bind fun w1 =>
   ((CS n x 0 l1
   ):Option (List Aw)).bind fun f =>
    ((bif (x.Kind == 3) then
     (some [(Aw.mk 4 0 ⟨#[]⟩ (Ab.mk 0 0 ⟨#[]⟩ [] 0) 0)]).bind fun l6 =>
     (Cp 105 f l6).bind fun l7 =>
     some l7
    else
     some f
    ):Option (List Aw)).bind fun f1 =>
     ((DC n x 0 f1
     ):Option (List Aw)).bind fun f2 =>
      (some [(Aj.mk x1 f2 [] 0)]).bind fun l2 =>
      (Cp 73 forms1 l2).bind fun l3 =>
      EN n l l3 (IntKind.i64.wrap (v21+1))
  else
   some forms1
def H4 (n:Nat)(l:(List Ao)):Option (ByteArray×Int) :=
 (Dh n l).bind fun e =>
 bif (e != 0) then
  some (⟨#[]⟩,e)
 else
  ((EN n l [] 0
  ):Option (List Aj)).bind fun forms =>
   (JW n forms).bind fun p =>
   some (p.1,p.2)
def BV:Nat->(List ByteArray)->ByteArray->Int->Option (Unit ⊕ Int)
 |0,_,_,_=>none
 |n+1,s,v_,v8 =>
  bif (decide (v8<(s.length:Int))) then
   (gi s v8).bind fun x =>
   bif (decide (v_=x)) then
    some (.inr v8)
   else
    BV n s v_ (IntKind.i64.wrap (v8+1))
  else
   some (.inl ())
theorem FE (n:Nat)(s:(List ByteArray))(v_:ByteArray)(v8:Int):BV (n+1) s v_ v8 =
 bif (decide (v8<(s.length:Int))) then
  (gi s v8).bind fun x =>
  bif (decide (v_=x)) then
   some (.inr v8)
  else
   BV n s v_ (IntKind.i64.wrap (v8+1))
 else
  some (.inl ()):=by rw [BV]
def Ew (n:Nat)(s:(List ByteArray))(v_:ByteArray):Option Int :=
 ((BV n s v_ 0
 ):Option (Unit ⊕ Int)).bind fun y=>match y with
 |.inl _ =>
  some (-1)
 |.inr o=>some o
def Ck:Nat->Aj->(List Int)->Int->Option (Unit ⊕ (Int×Bool))
 |0,_,_,_=>none
 |n+1,f,want,v52 =>
  bif (decide (v52<(f.Args.length:Int))) then
   (gi f.Args v52).bind fun x =>
   (gi want (if (IntKind.i64.wrap ((want.length:Int)-1))<v52 then (IntKind.i64.wrap ((want.length:Int)-1)) else v52)).bind fun x1 =>
   bif (x.Kind != x1) then
    some (.inr (0,false))
   else
    Ck n f want (IntKind.i64.wrap (v52+1))
  else
   some (.inl ())
theorem FR (n:Nat)(f:Aj)(want:(List Int))(v52:Int):Ck (n+1) f want v52 =
 bif (decide (v52<(f.Args.length:Int))) then
  (gi f.Args v52).bind fun x =>
  (gi want (if (IntKind.i64.wrap ((want.length:Int)-1))<v52 then (IntKind.i64.wrap ((want.length:Int)-1)) else v52)).bind fun x1 =>
  bif (x.Kind != x1) then
   some (.inr (0,false))
  else
   Ck n f want (IntKind.i64.wrap (v52+1))
 else
  some (.inl ()):=by rw [Ck]
def DX (n:Nat)(f:Aj):Option (Int×Bool) :=
 (F1).bind fun l =>
 (Ew n [l.2.1,l.2.2.1,l.2.2.2] f.Word).bind fun i =>
 (some [1,2,2,5,5,5]).bind fun l1 =>
 ((bif ((IntKind.i64.wrap (i+1)) == 3) then
  (some [4,2]).bind fun l2 =>
  (Cp 9 l1 l2).bind fun l3 =>
  some l3
 else
  some l1
 ):Option (List Int)).bind fun want =>
  ((bif ((IntKind.i64.wrap (i+1)) == 0) then
   some true
  else
   bif (decide (0<(f.Body.length:Int))) then
    some true
   else
    bif (decide ((f.Args.length:Int)<(want.length:Int))) then
     some true
    else
     bif ((IntKind.i64.wrap (i+1)) != 3) then
      some (decide ((want.length:Int)<(f.Args.length:Int)))
     else
      some false
  ):Option Bool).bind fun v48 =>
   bif v48 then
    some (0,false)
   else
    ((Ck n f want 0
    ):Option (Unit ⊕ (Int×Bool))).bind fun y2=>match y2 with
    |.inl _ =>
     some ((IntKind.i64.wrap (i+1)),true)
    |.inr o=>some o
def CC (q:Int)(q1:Int)(p:Int)(p1:Int)(f:ByteArray)(f1:(List Aw))(f2:(List Aj))(f3:Int)(c:Ao):Option Bool :=
 (gi f1 0).bind fun x =>
 some (decide (c.Name=x.S))
def Ba:Nat->(List Ao)->Int->Int->Int->Int->ByteArray->(List Aw)->(List Aj)->Int->Int->Option (Unit ⊕ Int)
 |0,_,_,_,_,_,_,_,_,_,_=>none
 |n+1,s,q,q1,p,p1,f,f1,f2,f3,v8 =>
  bif (decide (v8<(s.length:Int))) then
   (gi s v8).bind fun x =>
   (CC q q1 p p1 f f1 f2 f3 x).bind fun c =>
   bif c then
    some (.inr v8)
   else
    Ba n s q q1 p p1 f f1 f2 f3 (IntKind.i64.wrap (v8+1))
  else
   some (.inl ())
theorem Ct (n:Nat)(s:(List Ao))(q:Int)(q1:Int)(p:Int)(p1:Int)(f:ByteArray)(f1:(List Aw))(f2:(List Aj))(f3:Int)(v8:Int):Ba (n+1) s q q1 p p1 f f1 f2 f3 v8 =
 bif (decide (v8<(s.length:Int))) then
  (gi s v8).bind fun x =>
  (CC q q1 p p1 f f1 f2 f3 x).bind fun c =>
  bif c then
   some (.inr v8)
  else
   Ba n s q q1 p p1 f f1 f2 f3 (IntKind.i64.wrap (v8+1))
 else
  some (.inl ()):=by rw [Ba]
def C3 (n:Nat)(q:Int)(q1:Int)(p:Int)(p1:Int)(f:ByteArray)(f1:(List Aw))(f2:(List Aj))(f3:Int)(s:(List Ao)):Option Int :=
 ((Ba n s q q1 p p1 f f1 f2 f3 0
 ):Option (Unit ⊕ Int)).bind fun y=>match y with
 |.inl _ =>
  some (-1)
 |.inr o=>some o
def B2 (n:Nat)(q:Int)(q1:Int)(p:Int)(p1:Int)(f:ByteArray)(f1:(List Aw))(f2:(List Aj))(f3:Int)(s:(List Ao)):Option Bool :=
 (C3 n q q1 p p1 f f1 f2 f3 s).bind fun c =>
 some (decide (0<=c))
def DA (q:Int)(q1:Int)(p:Int)(p1:Int)(f:ByteArray)(f1:(List Aw))(f2:(List Aj))(f3:Int)(c:ByteArray)(c1:Int)(c2:Int)(c3:Int)(c4:Int)(c5:Int)(c6:ByteArray)(c7:(List Ab))(c8:Int)(c9:Int)(c10:Int)(c11:ByteArray)(c12:(List Ab))(c13:Int)(c14:Int)(c15:Int)(c16:ByteArray)(c17:(List Ab))(c18:Int)(c19:Int):Option Unit :=
 some ()
def Be:Nat->Aw->Aw->Aw->Int->Option (Unit ⊕ ((List Ao)×Am))
 |0,_,_,_,_=>none
 |n+1,x5,x6,x7,v170 =>
  bif (v170 == 0) then
   (Gg x5.E).bind fun f3 =>
   bif (f3.2.2.E != 0) then
    some (.inr ([],f3.2.2))
   else
    bif (f3.1 != 2) then
     some (.inr ([],(Am.mk x5.At 7)))
    else
     Be n x5 x6 x7 1
  else
   bif (v170 == 1) then
    (Gg x6.E).bind fun f2 =>
    bif (f2.2.2.E != 0) then
     some (.inr ([],f2.2.2))
    else
     bif (f2.1 != 2) then
      some (.inr ([],(Am.mk x6.At 7)))
     else
      Be n x5 x6 x7 2
   else
    bif (v170 == 2) then
     (Gg x7.E).bind fun f1 =>
     bif (f1.2.2.E != 0) then
      some (.inr ([],f1.2.2))
     else
      bif (f1.1 != 3) then
       some (.inr ([],(Am.mk x7.At 7)))
      else
       Be n x5 x6 x7 3
    else
     bif (v170 == 3) then
      some (.inl ())
     else
      none
theorem CT (n:Nat)(x5:Aw)(x6:Aw)(x7:Aw)(v170:Int):Be (n+1) x5 x6 x7 v170 =
 bif (v170 == 0) then
  (Gg x5.E).bind fun f3 =>
  bif (f3.2.2.E != 0) then
   some (.inr ([],f3.2.2))
  else
   bif (f3.1 != 2) then
    some (.inr ([],(Am.mk x5.At 7)))
   else
    Be n x5 x6 x7 1
 else
  bif (v170 == 1) then
   (Gg x6.E).bind fun f2 =>
   bif (f2.2.2.E != 0) then
    some (.inr ([],f2.2.2))
   else
    bif (f2.1 != 2) then
     some (.inr ([],(Am.mk x6.At 7)))
    else
     Be n x5 x6 x7 2
  else
   bif (v170 == 2) then
    (Gg x7.E).bind fun f1 =>
    bif (f1.2.2.E != 0) then
     some (.inr ([],f1.2.2))
    else
     bif (f1.1 != 3) then
      some (.inr ([],(Am.mk x7.At 7)))
     else
      Be n x5 x6 x7 3
   else
    bif (v170 == 3) then
     some (.inl ())
    else
     none:=by rw [Be]
def By:Nat->Aj->Int->Int->Int->Option (Int ⊕ ((List Ao)×Am))
 |0,_,_,_,_=>none
 |n+1,x,v103,last,c2 =>
  bif (decide (v103<(x.Args.length:Int))) then
   (gi x.Args v103).bind fun x8 =>
   ((bif (v103 == 1) then
    bif (decide (x8.N<0)) then
     some true
    else
     bif (decide (9<x8.N)) then
      some true
     else
      bif (v103 == 2) then
       bif (decide (x8.N<0)) then
        some true
       else
        bif (decide (41666<x8.N)) then
         some true
        else
         bif (decide (6<v103)) then
          bif (decide (x8.N<=last)) then
           some true
          else
           some (decide (12<=x8.N))
         else
          some false
      else
       bif (decide (6<v103)) then
        bif (decide (x8.N<=last)) then
         some true
        else
         some (decide (12<=x8.N))
       else
        some false
   else
    bif (v103 == 2) then
     bif (decide (x8.N<0)) then
      some true
     else
      bif (decide (41666<x8.N)) then
       some true
      else
       bif (decide (6<v103)) then
        bif (decide (x8.N<=last)) then
         some true
        else
         some (decide (12<=x8.N))
       else
        some false
    else
     bif (decide (6<v103)) then
      bif (decide (x8.N<=last)) then
       some true
      else
       some (decide (12<=x8.N))
     else
      some false
   ):Option Bool).bind fun odd =>
    bif odd then
     some (.inr ([],(Am.mk x8.At 3)))
    else
     bif (decide (6<v103)) then
      (XT x8.N (IntKind.i64.wrap (1*2 ^ min x8.N.toNat IntKind.i64.bits))).bind fun q =>
      By n x (IntKind.i64.wrap (v103+1)) x8.N (bits .or .i64 c2 q)
     else
      By n x (IntKind.i64.wrap (v103+1)) last c2
  else
   some (.inl c2)
theorem FC (n:Nat)(x:Aj)(v103:Int)(last:Int)(c2:Int):By (n+1) x v103 last c2 =
 bif (decide (v103<(x.Args.length:Int))) then
  (gi x.Args v103).bind fun x8 =>
  ((bif (v103 == 1) then
   bif (decide (x8.N<0)) then
    some true
   else
    bif (decide (9<x8.N)) then
     some true
    else
     bif (v103 == 2) then
      bif (decide (x8.N<0)) then
       some true
      else
       bif (decide (41666<x8.N)) then
        some true
       else
        bif (decide (6<v103)) then
         bif (decide (x8.N<=last)) then
          some true
         else
          some (decide (12<=x8.N))
        else
         some false
     else
      bif (decide (6<v103)) then
       bif (decide (x8.N<=last)) then
        some true
       else
        some (decide (12<=x8.N))
      else
       some false
  else
   bif (v103 == 2) then
    bif (decide (x8.N<0)) then
     some true
    else
     bif (decide (41666<x8.N)) then
      some true
     else
      bif (decide (6<v103)) then
       bif (decide (x8.N<=last)) then
        some true
       else
        some (decide (12<=x8.N))
      else
       some false
   else
    bif (decide (6<v103)) then
     bif (decide (x8.N<=last)) then
      some true
     else
      some (decide (12<=x8.N))
    else
     some false
  ):Option Bool).bind fun odd =>
   bif odd then
    some (.inr ([],(Am.mk x8.At 3)))
   else
    bif (decide (6<v103)) then
     (XT x8.N (IntKind.i64.wrap (1*2 ^ min x8.N.toNat IntKind.i64.bits))).bind fun q =>
     By n x (IntKind.i64.wrap (v103+1)) x8.N (bits .or .i64 c2 q)
    else
     By n x (IntKind.i64.wrap (v103+1)) last c2
 else
  some (.inl c2):=by rw [By]
def BU:Nat->((List Aj)×Am)->(List Ao)->Int->Option ((List Ao) ⊕ ((List Ao)×Am))
 |0,_,_,_=>none
 |n+1,f,out1,v36 =>
  bif (decide (v36<(f.1.length:Int))) then
   (gi f.1 v36).bind fun x =>
   (DX n x).bind fun s =>
   bif (!s.2) then
    some (.inr ([],(Am.mk x.At 5)))
   else
    bif ((out1.length:Int) == 40) then
     some (.inr ([],(Am.mk x.At 2)))
    else
     (B2 n 0 0 f.2.At f.2.E x.Word x.Args x.Body x.At out1).bind fun c =>
     bif c then
      (gi x.Args 0).bind fun x1 =>
      some (.inr ([],(Am.mk x1.At 9)))
     else
      (gi x.Args 0).bind fun x2 =>
      (gi x.Args 1).bind fun x3 =>
      (gi x.Args 2).bind fun x4 =>
      (gi x.Args 3).bind fun x5 =>
      (gi x.Args 4).bind fun x6 =>
      (gi x.Args 5).bind fun x7 =>
      ((By n x 0 (-1) 0
      ):Option (Int ⊕ ((List Ao)×Am))).bind fun y1=>match y1 with
      |.inl c1 =>
       (DA 0 0 f.2.At f.2.E x.Word x.Args x.Body x.At x2.S s.1 x3.N x4.N x5.E.Op x5.E.N x5.E.S x5.E.Kids x5.E.At x6.E.Op x6.E.N x6.E.S x6.E.Kids x6.E.At x7.E.Op x7.E.N x7.E.S x7.E.Kids x7.E.At c1).bind fun w =>
       ((Be n x5 x6 x7 0
       ):Option (Unit ⊕ ((List Ao)×Am))).bind fun y2=>match y2 with
       |.inl _ =>
        (some [(Ao.mk x2.S s.1 x3.N x4.N x5.E x6.E x7.E c1)]).bind fun l =>
        (Cp 241 out1 l).bind fun l1 =>
        BU n f l1 (IntKind.i64.wrap (v36+1))
       |.inr o=>some (.inr o)
      |.inr o=>some (.inr o)
  else
   some (.inl out1)
theorem FD (n:Nat)(f:((List Aj)×Am))(out1:(List Ao))(v36:Int):BU (n+1) f out1 v36 =
 bif (decide (v36<(f.1.length:Int))) then
  (gi f.1 v36).bind fun x =>
  (DX n x).bind fun s =>
  bif (!s.2) then
   some (.inr ([],(Am.mk x.At 5)))
  else
   bif ((out1.length:Int) == 40) then
    some (.inr ([],(Am.mk x.At 2)))
   else
    (B2 n 0 0 f.2.At f.2.E x.Word x.Args x.Body x.At out1).bind fun c =>
    bif c then
     (gi x.Args 0).bind fun x1 =>
     some (.inr ([],(Am.mk x1.At 9)))
    else
     (gi x.Args 0).bind fun x2 =>
     (gi x.Args 1).bind fun x3 =>
     (gi x.Args 2).bind fun x4 =>
     (gi x.Args 3).bind fun x5 =>
     (gi x.Args 4).bind fun x6 =>
     (gi x.Args 5).bind fun x7 =>
     ((By n x 0 (-1) 0
     ):Option (Int ⊕ ((List Ao)×Am))).bind fun y1=>match y1 with
     |.inl c1 =>
      (DA 0 0 f.2.At f.2.E x.Word x.Args x.Body x.At x2.S s.1 x3.N x4.N x5.E.Op x5.E.N x5.E.S x5.E.Kids x5.E.At x6.E.Op x6.E.N x6.E.S x6.E.Kids x6.E.At x7.E.Op x7.E.N x7.E.S x7.E.Kids x7.E.At c1).bind fun w =>
      ((Be n x5 x6 x7 0
      ):Option (Unit ⊕ ((List Ao)×Am))).bind fun y2=>match y2 with
      |.inl _ =>
       (some [(Ao.mk x2.S s.1 x3.N x4.N x5.E x6.E x7.E c1)]).bind fun l =>
       (Cp 241 out1 l).bind fun l1 =>
       BU n f l1 (IntKind.i64.wrap (v36+1))
      |.inr o=>some (.inr o)
     |.inr o=>some (.inr o)
 else
  some (.inl out1):=by rw [BU]
def Cb (n:Nat)(src:ByteArray):Option ((List Ao)×Am) :=
 (Di n src).bind fun f =>
 bif (f.2.E != 0) then
  some ([],f.2)
 else
  (some ()).bind fun u =>
  ((BU n f [] 0
  ):Option ((List Ao) ⊕ ((List Ao)×Am))).bind fun y=>match y with
  |.inl out =>
   some (out,(Am.mk 0 0))
  |.inr o=>some o
def GG:Nat->(List Ao)->(List Ao)->Bool->Int->Option (Unit ⊕ Bool)
 |0,_,_,_,_=>none
 |n+1,a_,b,offsets,k =>
  bif (decide (k<(a_.length:Int))) then
   (gi a_ k).bind fun x =>
   (gi b k).bind fun x1 =>
   (BZ n x.From x1.From offsets).bind fun from_ =>
   (BZ n x.To x1.To offsets).bind fun to =>
   (BZ n x.When x1.When offsets).bind fun when =>
   ((bif (!from_) then
    some true
   else
    bif (!to) then
     some true
    else
     bif (!when) then
      some true
     else
      bif (!decide (x.Name=x1.Name)) then
       some true
      else
       bif (x.Kind != x1.Kind) then
        some true
       else
        bif (x.Rank != x1.Rank) then
         some true
        else
         bif (x.Known != x1.Known) then
          some true
         else
          some (x.Houses != x1.Houses)
   ):Option Bool).bind fun v94 =>
    bif v94 then
     some (.inr false)
    else
     GG n a_ b offsets (IntKind.i64.wrap (k+1))
  else
   some (.inl ())
def KU (n:Nat)(a_:(List Ao))(b:(List Ao))(offsets:Bool):Option Bool :=
 bif ((a_.length:Int) != (b.length:Int)) then
  some false
 else
  ((GG n a_ b offsets 0
  ):Option (Unit ⊕ Bool)).bind fun y=>match y with
  |.inl _ =>
   some true
  |.inr o=>some o
def IX:Option ByteArray :=
 some ⟨#[107,101,101,112,32,116,97,120,32,50,32,48,32,40,115,116,111,114,101,100,41,32,40,115,116,111,114,101,100,32,43,32,55,32,42,32,121,101,97,114,41,32,40,98,111,114,110,40,111,119,110,101,114,41,32,60,32,110,101,118,101,114,41,59,32,112,108,97,99,101,32,104,111,109,101,32,49,32,51,32,40,100,97,121,40,48,41,41,32,40,110,101,118,101,114,41,32,40,111,119,110,101,114,32,33,61,32,112,101,114,115,111,110,40,48,41,41,32,45,62,32,48,32,50,59]⟩
def HC (s:ByteArray):Option Ab :=
 some (Ab.mk 3 0 s [] 0)
def Gc (n_:Int):Option Ab :=
 some (Ab.mk 1 n_ ⟨#[]⟩ [] 0)
def Iw (op:Int)(a_:Ab)(b:Ab):Option Ab :=
 (some [a_,b]).bind fun l =>
 some (Ab.mk op 0 ⟨#[]⟩ l 0)
def HY (n:Nat)(src:ByteArray)(at_:Int)(e:Int):Option Bool :=
 (Cb n src).bind fun c =>
 ((bif ((c.1.length:Int) == 0) then
  some ((c.2.At == at_)&&((c.2.E == e)&&true))
 else
  some false
 ):Option Bool).bind fun v6 =>
  some v6
def IY (n:Nat):Option Bool :=
 (IX).bind fun s =>
 (Cb n s).bind fun c =>
 ((bif (!((c.2.At == 0)&&((c.2.E == 0)&&true))) then
  some true
 else
  bif ((c.1.length:Int) != 2) then
   some true
  else
   (Dh n c.1).bind fun c2 =>
   some (c2 != 0)
 ):Option Bool).bind fun v47 =>
  bif v47 then
   some false
  else
   (((gi c.1 0).bind fun x2 =>
   bif (!decide (x2.Name=⟨#[116,97,120]⟩)) then
    some true
   else
    bif (x2.Kind != 1) then
     some true
    else
     bif (x2.Rank != 2) then
      some true
     else
      bif (x2.Known != 0) then
       some true
      else
       bif (x2.Houses != 0) then
        some true
       else
        (gi c.1 1).bind fun x3 =>
        bif (!decide (x3.Name=⟨#[104,111,109,101]⟩)) then
         some true
        else
         bif (x3.Kind != 3) then
          some true
         else
          bif (x3.Rank != 1) then
           some true
          else
           bif (x3.Known != 3) then
            some true
           else
            some (x3.Houses != 5)
   ):Option Bool).bind fun v115 =>
    bif v115 then
     some false
    else
     (some [(BK.mk 1 4 3 5)]).bind fun l =>
     (gi c.1 0).bind fun x =>
     (Ft n x (BC.mk l 10 4) 4).bind fun s1 =>
     (Ft n x (BC.mk l 10 4) 5).bind fun s2 =>
     (gi c.1 1).bind fun x1 =>
     (Ft n x1 (BC.mk l 10 4) 2).bind fun s3 =>
     (Ft n x1 (BC.mk l 10 4) 3).bind fun s4 =>
     (HC ⟨#[110,101,118,101,114]⟩).bind fun n_ =>
     (Gc 5).bind fun n_1 =>
     (Iw 11 n_ n_1).bind fun t =>
     (F2 n t (BC.mk l 10 4) 0).bind fun v_ =>
     (Gc 3).bind fun n_2 =>
     (some [n_2]).bind fun l1 =>
     (Gc 9).bind fun n_3 =>
     (Iw 11 (Ab.mk 4 0 ⟨#[100,97,121]⟩ l1 0) n_3).bind fun t1 =>
     (F2 n t1 (BC.mk l 10 4) 0).bind fun v_1 =>
     (HC ⟨#[110,101,118,101,114]⟩).bind fun n_4 =>
     (HC ⟨#[115,116,111,114,101,100]⟩).bind fun n_5 =>
     (Iw 11 n_4 n_5).bind fun t2 =>
     (F2 n t2 (BC.mk l 10 4) 0).bind fun v_2 =>
     ((bif (s1.2.2.2 != 0) then
      some true
     else
      bif (s2.2.2.2 != 0) then
       some true
      else
       bif (s3.2.2.2 != 0) then
        some true
       else
        bif (s4.2.2.2 != 0) then
         some true
        else
         bif (v_.2 != 0) then
          some true
         else
          bif (v_1.2 != 0) then
           some true
          else
           some (v_2.2 != 0)
     ):Option Bool).bind fun v210 =>
      bif v210 then
       some false
      else
       ((bif (s1.1 != 10) then
        some true
       else
        bif (s1.2.1 != 2565) then
         some true
        else
         bif s1.2.2.1 then
          some true
         else
          bif (!s2.2.2.1) then
           some true
          else
           bif (s3.1 != 0) then
            some true
           else
            bif (s3.2.1 != 41667) then
             some true
            else
             bif s3.2.2.1 then
              some true
             else
              bif (!s4.2.2.1) then
               some true
              else
               bif (v_.1 != 41667) then
                some true
               else
                bif (v_1.1 != 0) then
                 some true
                else
                 some (v_2.1 != 41657)
       ):Option Bool).bind fun v250 =>
        bif v250 then
         some false
        else
         (H4 n c.1).bind fun s5 =>
         (Cb n s5.1).bind fun c1 =>
         ((bif (s5.2 == 0) then
          bif (c1.2.E == 0) then
           (KU n c1.1 c.1 false).bind fun s6 =>
           bif s6 then
            (HY n ⟨#[107,101,101,112,32,97,32,49,32,48,32,40,55,41,32,40,110,101,118,101,114,41,32,40,49,32,60,32,50,41,59]⟩ 11 7).bind fun f =>
            bif f then
             (HY n ⟨#[100,114,111,112,32,97,32,49,32,48,32,40,115,116,111,114,101,100,41,32,40,110,101,118,101,114,41,32,40,120,41,59]⟩ 29 6).bind fun f1 =>
             some f1
            else
             some false
           else
            some false
          else
           some false
         else
          some false
         ):Option Bool).bind fun v0_ =>
          some v0_
def Rh:Option Bool:=IY 60
def Df (n:Nat)(src:ByteArray):Option Bool :=
 bif (decide (600<(src.size:Int))) then
  (Rh).bind fun s =>
  some s
 else
  (Cb n src).bind fun c =>
  bif (c.2.E != 0) then
   (((Rh).bind fun s1 =>
   bif s1 then
    bif ((c.1.length:Int) == 0) then
     bif (decide (0<=c.2.At)) then
      some (decide (c.2.At<=(src.size:Int)))
     else
      some false
    else
     some false
   else
    some false
   ):Option Bool).bind fun v2 =>
    some v2
  else
   (((Rh).bind fun s2 =>
   bif s2 then
    (Dh n c.1).bind fun c1 =>
    bif (c1 == 0) then
     some (c.2.At == 0)
    else
     some false
   else
    some false
   ):Option Bool).bind fun v21 =>
    some v21
def Bg (l:(List Ac))(k:Int)(s:ByteArray):Option Bool :=
 (((gi l k).bind fun x =>
 bif (x.Kind == 4) then
  some (decide (x.S=s))
 else
  some false
 ):Option Bool).bind fun v6 =>
  some v6
def FY (l:(List Ac))(k:Int):Option Bool :=
 (Bg l k ⟨#[40]⟩).bind fun open_ =>
 (Bg l k ⟨#[45]⟩).bind fun minus =>
 (((gi l k).bind fun x =>
 bif (decide (1<=x.Kind)) then
  bif (decide (x.Kind<=3)) then
   some true
  else
   bif open_ then
    some true
   else
    some minus
 else
  bif open_ then
   some true
  else
   some minus
 ):Option Bool).bind fun v4 =>
  some v4
def DE (l:(List Ac))(k:Int)(depth:Int)(not_:Bool):Option Int :=
 (FY l k).bind fun can =>
 (Bg l k ⟨#[33]⟩).bind fun bang =>
 ((bif (!can) then
  bif (!not_) then
   some true
  else
   some (!bang)
 else
  some false
 ):Option Bool).bind fun v26 =>
  bif v26 then
   some 5
  else
   bif (decide (30<depth)) then
    some 2
   else
    some 0
def Cn:Nat->(List ByteArray)->(List Ac)->Int->(List Int)->Int->Option (Unit ⊕ B7)
 |0,_,_,_,_,_=>none
 |n+1,l1,l,k,l2,i =>
  bif (decide (i<(l1.length:Int))) then
   (gi l1 i).bind fun x =>
   (Bg l k x).bind fun is_ =>
   bif is_ then
    (gi l2 i).bind fun x1 =>
    some (.inr (B7.mk x1 (IntKind.i64.wrap (7+i))))
   else
    Cn n l1 l k l2 (IntKind.i64.wrap (i+1))
  else
   some (.inl ())
def GR (n:Nat)(l:(List Ac))(k:Int):Option B7 :=
 (some [⟨#[42]⟩,⟨#[47]⟩,⟨#[37]⟩,⟨#[43]⟩,⟨#[45]⟩,⟨#[61,61]⟩,⟨#[33,61]⟩,⟨#[60]⟩,⟨#[60,61]⟩,⟨#[62]⟩,⟨#[62,61]⟩,⟨#[38,38]⟩,⟨#[124,124]⟩]).bind fun l1 =>
 (some [6,6,6,5,5,4,4,4,4,4,4,2,1]).bind fun l2 =>
 ((Cn n l1 l k l2 0
 ):Option (Unit ⊕ B7)).bind fun y=>match y with
 |.inl _ =>
  some (B7.mk 0 0)
 |.inr o=>some o
mutual
def AY:Nat->(List Ac)->Int->Int->Option A5
 |0,_,_,_=>none
 |n+1,l,k,depth =>
  (DE l k depth true).bind fun e =>
  bif (e != 0) then
   some (A5.mk (Ab.mk 0 0 ⟨#[]⟩ [] 0) k e)
  else
   (AK n l k 1 depth).bind fun c =>
   bif (c.E != 0) then
    some c
   else
    (Bg l c.To ⟨#[63]⟩).bind fun ask =>
    bif (!ask) then
     some c
    else
     (AY n l (IntKind.i64.wrap (c.To+1)) (IntKind.i64.wrap (depth+1))).bind fun a_ =>
     bif (a_.E != 0) then
      some a_
     else
      (Bg l a_.To ⟨#[58]⟩).bind fun colon =>
      bif (!colon) then
       some (A5.mk (Ab.mk 0 0 ⟨#[]⟩ [] 0) a_.To 5)
      else
       (AY n l (IntKind.i64.wrap (a_.To+1)) (IntKind.i64.wrap (depth+1))).bind fun b =>
       bif (b.E != 0) then
        some b
       else
        (some [c.X,a_.X,b.X]).bind fun l1 =>
        some (A5.mk (Ab.mk 20 0 ⟨#[]⟩ l1 c.X.At) b.To 0)
def AF:Nat->(List Ac)->Int->A5->Int->Int->Int->ByteArray->(List Ab)->Int->Int->Option ((Int×Int×ByteArray×(List Ab)×Int×Int) ⊕ A5)
 |0,_,_,_,_,_,_,_,_,_,_=>none
 |n+1,l,n_,x,depth,x7,x8,x9,x10,x11,x12 =>
  bif (x12 == 0) then
   (GR n l x11).bind fun op =>
   bif (op.N != n_) then
    some (.inr (A5.mk (Ab.mk x7 x8 x9 x10 x.X.At) x11 x12))
   else
    (AK n l (IntKind.i64.wrap (x11+1)) (IntKind.i64.wrap (n_+1)) depth).bind fun y1 =>
    bif (y1.E != 0) then
     some (.inr y1)
    else
     (some [(Ab.mk x7 x8 x9 x10 x.X.At),y1.X]).bind fun l1 =>
     bif (n_ == 4) then
      some (.inr (A5.mk (Ab.mk op.Op 0 ⟨#[]⟩ l1 x.X.At) y1.To 0))
     else
      AF n l n_ x depth op.Op 0 ⟨#[]⟩ l1 y1.To 0
  else
   some (.inl (x7,x8,x9,x10,x11,x12))
def AK:Nat->(List Ac)->Int->Int->Int->Option A5
 |0,_,_,_,_=>none
 |n+1,l,k,n_,depth =>
  bif (decide (6<n_)) then
   (BE n l k depth).bind fun m_ =>
   some m_
  else
   bif (n_ == 3) then
    (BY n l k depth).bind fun b =>
    some b
   else
    (AK n l k (IntKind.i64.wrap (n_+1)) depth).bind fun x =>
    ((AF n l n_ x depth x.X.Op x.X.N x.X.S x.X.Kids x.To x.E
    ):Option ((Int×Int×ByteArray×(List Ab)×Int×Int) ⊕ A5)).bind fun y=>match y with
    |.inl (x1,x2,x3,x4,x5,x6) =>
     some (A5.mk (Ab.mk x1 x2 x3 x4 x.X.At) x5 x6)
    |.inr o=>some o
def BE:Nat->(List Ac)->Int->Int->Option A5
 |0,_,_,_=>none
 |n+1,l,k,depth =>
  (Bg l k ⟨#[45]⟩).bind fun is_ =>
  bif (!is_) then
   (Ci n l k depth).bind fun a_ =>
   some a_
  else
   (DE l (IntKind.i64.wrap (k+1)) (IntKind.i64.wrap (depth+1)) false).bind fun e =>
   bif (e != 0) then
    some (A5.mk (Ab.mk 0 0 ⟨#[]⟩ [] 0) (IntKind.i64.wrap (k+1)) e)
   else
    (BE n l (IntKind.i64.wrap (k+1)) (IntKind.i64.wrap (depth+1))).bind fun x =>
    bif (x.E != 0) then
     some x
    else
     (gi l k).bind fun x1 =>
     (some [x.X]).bind fun l1 =>
     some (A5.mk (Ab.mk 6 0 ⟨#[]⟩ l1 x1.At) x.To 0)
def Ci:Nat->(List Ac)->Int->Int->Option A5
 |0,_,_,_=>none
 |n+1,l,k,depth =>
  (gi l k).bind fun x =>
  (Bg l k ⟨#[40]⟩).bind fun open_ =>
  bif open_ then
   (AY n l (IntKind.i64.wrap (k+1)) (IntKind.i64.wrap (depth+1))).bind fun x1 =>
   bif (x1.E != 0) then
    some x1
   else
    (Bg l x1.To ⟨#[41]⟩).bind fun shut =>
    bif (!shut) then
     some (A5.mk (Ab.mk 0 0 ⟨#[]⟩ [] 0) x1.To 5)
    else
     some (A5.mk x1.X (IntKind.i64.wrap (x1.To+1)) 0)
  else
   bif (x.Kind == 2) then
    some (A5.mk (Ab.mk 1 x.N ⟨#[]⟩ [] x.At) (IntKind.i64.wrap (k+1)) 0)
   else
    bif (x.Kind == 3) then
     some (A5.mk (Ab.mk 2 0 x.S [] x.At) (IntKind.i64.wrap (k+1)) 0)
    else
     bif (x.Kind != 1) then
      some (A5.mk (Ab.mk 0 0 ⟨#[]⟩ [] 0) k 5)
     else
      (Bg l (IntKind.i64.wrap (k+1)) ⟨#[40]⟩).bind fun call =>
      bif (!call) then
       some (A5.mk (Ab.mk 3 0 x.S [] x.At) (IntKind.i64.wrap (k+1)) 0)
      else
       (CE n l k depth).bind fun a_ =>
       some a_
def BY:Nat->(List Ac)->Int->Int->Option A5
 |0,_,_,_=>none
 |n+1,l,k,depth =>
  (Bg l k ⟨#[33]⟩).bind fun is_ =>
  bif (!is_) then
   (AK n l k 4 depth).bind fun b =>
   some b
  else
   (DE l (IntKind.i64.wrap (k+1)) (IntKind.i64.wrap (depth+1)) true).bind fun e =>
   bif (e != 0) then
    some (A5.mk (Ab.mk 0 0 ⟨#[]⟩ [] 0) (IntKind.i64.wrap (k+1)) e)
   else
    (BY n l (IntKind.i64.wrap (k+1)) (IntKind.i64.wrap (depth+1))).bind fun x =>
    bif (x.E != 0) then
     some x
    else
     (gi l k).bind fun x1 =>
     (some [x.X]).bind fun l1 =>
     some (A5.mk (Ab.mk 5 0 ⟨#[]⟩ l1 x1.At) x.To 0)
def B3:Nat->(List Ac)->Int->Ac->Int->(List Ab)->Option A5
 |0,_,_,_,_,_=>none
 |n+1,l,depth,x,at_,out =>
  (DE l at_ (IntKind.i64.wrap (depth+1)) true).bind fun e =>
  ((bif (e == 0) then
   bif ((out.length:Int) == 40) then
    some true
   else
    some (e == 2)
  else
   some (e == 2)
  ):Option Bool).bind fun v51 =>
   bif v51 then
    some (A5.mk (Ab.mk 0 0 ⟨#[]⟩ [] 0) at_ 2)
   else
    (AY n l at_ (IntKind.i64.wrap (depth+1))).bind fun x1 =>
    bif (x1.E != 0) then
     some x1
    else
     (some [x1.X]).bind fun l1 =>
     (Cp 65 out l1).bind fun l2 =>
     (Bg l x1.To ⟨#[41]⟩).bind fun shut =>
     bif shut then
      some (A5.mk (Ab.mk 4 0 x.S l2 x.At) (IntKind.i64.wrap (x1.To+1)) 0)
     else
      (Bg l x1.To ⟨#[44]⟩).bind fun comma =>
      bif (!comma) then
       some (A5.mk (Ab.mk 0 0 ⟨#[]⟩ [] 0) x1.To 5)
      else
       B3 n l depth x (IntKind.i64.wrap (x1.To+1)) l2
def CE:Nat->(List Ac)->Int->Int->Option A5
 |0,_,_,_=>none
 |n+1,l,k,depth =>
  (gi l k).bind fun x =>
  (Bg l (IntKind.i64.wrap (k+2)) ⟨#[41]⟩).bind fun empty =>
  bif empty then
   some (A5.mk (Ab.mk 4 0 x.S [] x.At) (IntKind.i64.wrap ((IntKind.i64.wrap (k+2))+1)) 0)
  else
   B3 n l depth x (IntKind.i64.wrap (k+2)) []
end
def Ec (n:Nat)(l:(List Ac))(k:Int):Option Cl :=
 (gi l k).bind fun x =>
 ((bif (decide (1<=x.Kind)) then
  some (decide (x.Kind<=3))
 else
  some false
 ):Option Bool).bind fun v21 =>
  bif v21 then
   some (Cl.mk (Aw.mk x.Kind x.N x.S (Ab.mk 0 0 ⟨#[]⟩ [] 0) x.At) (IntKind.i64.wrap (k+1)) 0)
  else
   (Bg l k ⟨#[45,62]⟩).bind fun arrow =>
   bif arrow then
    some (Cl.mk (Aw.mk 4 0 ⟨#[]⟩ (Ab.mk 0 0 ⟨#[]⟩ [] 0) x.At) (IntKind.i64.wrap (k+1)) 0)
   else
    (Bg l k ⟨#[45]⟩).bind fun minus =>
    bif minus then
     (gi l (IntKind.i64.wrap (k+1))).bind fun x1 =>
     bif (x1.Kind != 2) then
      some (Cl.mk (Aw.mk 0 0 ⟨#[]⟩ (Ab.mk 0 0 ⟨#[]⟩ [] 0) 0) (IntKind.i64.wrap (k+1)) 5)
     else
      some (Cl.mk (Aw.mk 2 (IntKind.i64.wrap (0-x1.N)) ⟨#[]⟩ (Ab.mk 0 0 ⟨#[]⟩ [] 0) x.At) (IntKind.i64.wrap (k+2)) 0)
    else
     (AY n l (IntKind.i64.wrap (k+1)) 1).bind fun x2 =>
     bif (x2.E != 0) then
      some (Cl.mk (Aw.mk 0 0 ⟨#[]⟩ (Ab.mk 0 0 ⟨#[]⟩ [] 0) 0) x2.To x2.E)
     else
      (Bg l x2.To ⟨#[41]⟩).bind fun shut =>
      bif (!shut) then
       some (Cl.mk (Aw.mk 0 0 ⟨#[]⟩ (Ab.mk 0 0 ⟨#[]⟩ [] 0) 0) x2.To 5)
      else
       some (Cl.mk (Aw.mk 5 0 ⟨#[]⟩ x2.X x.At) (IntKind.i64.wrap (x2.To+1)) 0)
mutual
def Bp:Nat->(List Ac)->Ac->(List Aw)->Int->(List Aj)->Int->Int->Option Cj
 |0,_,_,_,_,_,_,_=>none
 |n+1,l,x,out,depth,out2,out3,out4 =>
  (Bg l out3 ⟨#[125]⟩).bind fun shut =>
  bif shut then
   some (Cj.mk (Aj.mk x.S out out2 x.At) (IntKind.i64.wrap (out3+1)) out4 0)
  else
   (Ch n l out3 (IntKind.i64.wrap (depth+1)) out4).bind fun x1 =>
   bif (x1.E != 0) then
    some x1
   else
    (some [x1.F]).bind fun l1 =>
    (Cp 73 out2 l1).bind fun l2 =>
    Bp n l x out depth l2 x1.To x1.N
def Bn:Nat->(List Ac)->Ac->Int->(List Aw)->Int->Option (((List Aw)×Int) ⊕ Cj)
 |0,_,_,_,_,_=>none
 |n+1,l,x,n_,out5,out6 =>
  (Bg l out6 ⟨#[59]⟩).bind fun semi =>
  bif semi then
   some (.inr (Cj.mk (Aj.mk x.S out5 [] x.At) (IntKind.i64.wrap (out6+1)) (IntKind.i64.wrap (n_+1)) 0))
  else
   (Bg l out6 ⟨#[123]⟩).bind fun open_ =>
   bif open_ then
    some (.inl (out5,out6))
   else
    (FY l out6).bind fun can =>
    (Bg l out6 ⟨#[45,62]⟩).bind fun arrow =>
    ((bif (!can) then
     some (!arrow)
    else
     some false
    ):Option Bool).bind fun v77 =>
     bif v77 then
      some (.inr (Cj.mk (Aj.mk ⟨#[]⟩ [] [] 0) out6 0 5))
     else
      bif ((out5.length:Int) == 40) then
       some (.inr (Cj.mk (Aj.mk ⟨#[]⟩ [] [] 0) out6 0 2))
      else
       (Ec n l out6).bind fun a_ =>
       bif (a_.E != 0) then
        some (.inr (Cj.mk (Aj.mk ⟨#[]⟩ [] [] 0) a_.To 0 a_.E))
       else
        (some [a_.A]).bind fun l3 =>
        (Cp 105 out5 l3).bind fun l4 =>
        Bn n l x n_ l4 a_.To
def Ch:Nat->(List Ac)->Int->Int->Int->Option Cj
 |0,_,_,_,_=>none
 |n+1,l,k,depth,n_ =>
  (gi l k).bind fun x =>
  bif (x.Kind != 1) then
   some (Cj.mk (Aj.mk ⟨#[]⟩ [] [] 0) k 0 5)
  else
   ((bif (decide (30<depth)) then
    some true
   else
    some (decide (2000<=n_))
   ):Option Bool).bind fun v30 =>
    bif v30 then
     some (Cj.mk (Aj.mk ⟨#[]⟩ [] [] 0) k 0 2)
    else
     ((Bn n l x n_ [] (IntKind.i64.wrap (k+1))
     ):Option (((List Aw)×Int) ⊕ Cj)).bind fun y1=>match y1 with
     |.inl (out,out1) =>
      Bp n l x out depth [] (IntKind.i64.wrap (out1+1)) (IntKind.i64.wrap (n_+1))
     |.inr o=>some o
end
def Bo:Nat->IT->(List Aj)->Int->Int->Option ((List Aj) ⊕ BP)
 |0,_,_,_,_=>none
 |n+1,t,out1,k,n_ =>
  (gi t.L k).bind fun x =>
  bif (x.Kind != 5) then
   (Ch n t.L k 1 n_).bind fun x1 =>
   bif (x1.E != 0) then
    (gi t.L x1.To).bind fun x2 =>
    some (.inr (BP.mk [] (Ab.mk 0 0 ⟨#[]⟩ [] 0) (Am.mk x2.At x1.E)))
   else
    (some [x1.F]).bind fun l =>
    (Cp 73 out1 l).bind fun l1 =>
    Bo n t l1 x1.To x1.N
  else
   some (.inl out1)
def Ek (n:Nat)(src:ByteArray):Option BP :=
 (Ho src).bind fun t =>
 bif (t.P.E != 0) then
  some (BP.mk [] (Ab.mk 0 0 ⟨#[]⟩ [] 0) t.P)
 else
  ((Bo n t [] 0 0
  ):Option ((List Aj) ⊕ BP)).bind fun y=>match y with
  |.inl out =>
   some (BP.mk out (Ab.mk 0 0 ⟨#[]⟩ [] 0) (Am.mk 0 0))
  |.inr o=>some o
abbrev hC (l:List Ao):PV:=hP l Ff
abbrev oC (l:List Ao):PV:=oP l Ff
end Go.Sp
