/-
  Chapter 33 as plain functions, second part: what is exported, the specification, the laws; no program. (Printed by lift.py.)
-/
import Derived.Test.YtkcfmlfkfagejaaGreatDoorU15
set_option linter.unusedVariables false
set_option linter.unusedSimpArgs false
namespace Go.Sp
open Go Go.Vl
set_option linter.unusedVariables false
structure Qz where
 L:(List Ab)
 P:Am
structure Ag where
 Name:Â
 Kind:Int
 Rank:Int
 Known:Int
 From:Aa
 To:Aa
 When:Aa
 Houses:Int
def DN (x:Ag):List PV:=[tP x.Name,iP x.Kind,iP x.Rank,iP x.Known,iP x.From.Op,iP x.From.N,tP x.From.S,hP x.From.Kids Bn,iP x.From.At,iP x.To.Op,iP x.To.N,tP x.To.S,hP x.To.Kids Bn,iP x.To.At,iP x.When.Op,iP x.When.N,tP x.When.S,hP x.When.Kids Bn,iP x.When.At,iP x.Houses]
theorem Jk (x:Ag):DN x=[tP x.Name,iP x.Kind,iP x.Rank,iP x.Known,iP x.From.Op,iP x.From.N,tP x.From.S,hP x.From.Kids Bn,iP x.From.At,iP x.To.Op,iP x.To.N,tP x.To.S,hP x.To.Kids Bn,iP x.To.At,iP x.When.Op,iP x.When.N,tP x.When.S,hP x.When.Kids Bn,iP x.When.At,iP x.Houses]:=rfl
theorem IF (x:Ag):(DN x).length=20:=rfl
def Ak:Rw Ag:=⟨DN,_,20,Jk,IF⟩
structure Db where
 L:(List Ai)
 X:Aa
 P:Am
structure Cb where
 F:Ai
 To:Int
 N:Int
 E:Int
structure Cj where
 A:Ao
 To:Int
 E:Int
structure Aw where
 X:Aa
 To:Int
 E:Int
structure BF where
 N:Int
 Op:Int
def J0 (x:Int):List PV:=[uP x]
theorem YH (x:Int):J0 x=[uP x]:=rfl
theorem W6 (x:Int):(J0 x).length=1:=rfl
def Pc:Rw Int:=⟨J0,_,1,YH,W6⟩
def JE (src:Â):Option Qz:=some ⟨(FN src).1,(FN src).2⟩
def FZ:Nat->BG->Int->Option (Unit ⊕ Int)
 |0,_,_=>none
 |n+1,d,v14 =>
  bif (decide (v14<(d.Facts.length:Int))) then
   (gi d.Facts v14).bind fun x =>
   ((bif (decide (x.Kind<1)) then
    some true
   else
    bif (decide (5<x.Kind)) then
     some true
    else
     bif (decide (x.Who<1)) then
      some true
     else
      bif (decide (1000<x.Who)) then
       some true
      else
       bif (decide (x.Day<0)) then
        some true
       else
        bif (decide (41666<x.Day)) then
         some true
        else
         bif (decide (x.Known<0)) then
          some true
         else
          some (decide (41666<x.Known))
   ):Option Bool).bind fun v55 =>
    bif v55 then
     some (.inr 1)
    else
     FZ n d (À (v14+1))
  else
   some (.inl ())
def H8 (n:Nat)(d:BG)(known:Int):Option Int :=
 bif (decide (200<(d.Facts.length:Int))) then
  some 2
 else
  ((FZ n d 0
  ):Option (Unit ⊕ Int)).bind fun y=>match y with
  |.inl _ =>
   ((bif (decide (d.Stored<0)) then
    some true
   else
    bif (decide (41666<d.Stored)) then
     some true
    else
     bif (decide (known<0)) then
      some true
     else
      bif (decide (41666<known)) then
       some true
      else
       bif (decide (d.Owner<0)) then
        some true
       else
        some (decide (1000<d.Owner))
   ):Option Bool).bind fun v82 =>
    bif v82 then
     some 1
    else
     some 0
  |.inr o=>some o
def Gl (n:Nat)(e:Aa)(d:BG)(known:Int):Option (Int×Int) :=
 (some ()).bind fun u =>
 (Ha (Aa.mk e.Op e.N e.S e.Kids e.At)).bind fun f =>
 bif (f.2.2.E != 0) then
  some (0,f.2.2.E)
 else
  (H8 n d known).bind fun x =>
  bif (x != 0) then
   some (0,x)
  else
   (Y8 (Aa.mk e.Op e.N e.S e.Kids e.At) (Al.mk d known)).bind fun v_ =>
   some (v_,0)
def DG (c:Int):Option Bool :=
 ((bif (decide (97<=c)) then
  bif (decide (c<=122)) then
   some false
  else
   bif (decide (65<=c)) then
    bif (decide (c<=90)) then
     some false
    else
     bif (c == 95) then
      some false
     else
      bif (decide (48<=c)) then
       some (!(decide (c<=57)))
      else
       some true
   else
    bif (c == 95) then
     some false
    else
     bif (decide (48<=c)) then
      some (!(decide (c<=57)))
     else
      some true
 else
  bif (decide (65<=c)) then
   bif (decide (c<=90)) then
    some false
   else
    bif (c == 95) then
     some false
    else
     bif (decide (48<=c)) then
      some (!(decide (c<=57)))
     else
      some true
  else
   bif (c == 95) then
    some false
   else
    bif (decide (48<=c)) then
     some (!(decide (c<=57)))
    else
     some true
 ):Option Bool).bind fun v2 =>
  some v2
def AO:Nat->(List Int)->Int->Option (Unit ⊕ Int)
 |0,_,_=>none
 |n+1,s,v8 =>
  bif (decide (v8<(s.length:Int))) then
   (gi s v8).bind fun x =>
   (DG x).bind fun i =>
   bif i then
    some (.inr v8)
   else
    AO n s (À (v8+1))
  else
   some (.inl ())
theorem E1 (n:Nat)(s:(List Int))(v8:Int):AO (n+1) s v8 =
 bif (decide (v8<(s.length:Int))) then
  (gi s v8).bind fun x =>
  (DG x).bind fun i =>
  bif i then
   some (.inr v8)
  else
   AO n s (À (v8+1))
 else
  some (.inl ()):=by rw [AO]
def Dr (n:Nat)(s:(List Int)):Option Int :=
 ((AO n s 0
 ):Option (Unit ⊕ Int)).bind fun y=>match y with
 |.inl _ =>
  some (-1)
 |.inr o=>some o
def Cx (n:Nat)(s:(List Int)):Option Bool :=
 (Dr n s).bind fun i =>
 some (decide (0<=i))
def ED (n:Nat)(s:Â):Option Bool :=
 ((bif (decide (s=⟨#[]⟩)) then
  some true
 else
  bif (decide (32<(s.size:Int))) then
   some true
  else
   (gb s 0).bind fun c1 =>
   bif (decide (48<=c1)) then
    some (decide (c1<=57))
   else
    some false
 ):Option Bool).bind fun v19 =>
  bif v19 then
   some false
  else
   (QW s).bind fun b =>
   (Cx n b).bind fun c =>
   some (!c)
def DL (c:Â)(c1:Int)(c2:Int)(c3:Int)(c4:Int)(c5:Int)(c6:Â)(c7:(List Aa))(c8:Int)(c9:Int)(c10:Int)(c11:Â)(c12:(List Aa))(c13:Int)(c14:Int)(c15:Int)(c16:Â)(c17:(List Aa))(c18:Int)(c19:Int)(x:Ag):Option Bool :=
 some (decide (x.Name=c))
def AH:Nat->(List Ag)->Â->Int->Int->Int->Int->Int->Â->(List Aa)->Int->Int->Int->Â->(List Aa)->Int->Int->Int->Â->(List Aa)->Int->Int->Int->Option (Unit ⊕ Int)
 |0,_,_,_,_,_,_,_,_,_,_,_,_,_,_,_,_,_,_,_,_,_,_=>none
 |n+1,s,c,c1,c2,c3,c4,c5,c6,c7,c8,c9,c10,c11,c12,c13,c14,c15,c16,c17,c18,c19,v8 =>
  bif (decide (v8<(s.length:Int))) then
   (gi s v8).bind fun x =>
   (DL c c1 c2 c3 c4 c5 c6 c7 c8 c9 c10 c11 c12 c13 c14 c15 c16 c17 c18 c19 x).bind fun c20 =>
   bif c20 then
    some (.inr v8)
   else
    AH n s c c1 c2 c3 c4 c5 c6 c7 c8 c9 c10 c11 c12 c13 c14 c15 c16 c17 c18 c19 (À (v8+1))
  else
   some (.inl ())
theorem DV (n:Nat)(s:(List Ag))(c:Â)(c1:Int)(c2:Int)(c3:Int)(c4:Int)(c5:Int)(c6:Â)(c7:(List Aa))(c8:Int)(c9:Int)(c10:Int)(c11:Â)(c12:(List Aa))(c13:Int)(c14:Int)(c15:Int)(c16:Â)(c17:(List Aa))(c18:Int)(c19:Int)(v8:Int):AH (n+1) s c c1 c2 c3 c4 c5 c6 c7 c8 c9 c10 c11 c12 c13 c14 c15 c16 c17 c18 c19 v8 =
 bif (decide (v8<(s.length:Int))) then
  (gi s v8).bind fun x =>
  (DL c c1 c2 c3 c4 c5 c6 c7 c8 c9 c10 c11 c12 c13 c14 c15 c16 c17 c18 c19 x).bind fun c20 =>
  bif c20 then
   some (.inr v8)
  else
   AH n s c c1 c2 c3 c4 c5 c6 c7 c8 c9 c10 c11 c12 c13 c14 c15 c16 c17 c18 c19 (À (v8+1))
 else
  some (.inl ()):=by rw [AH]
def CU (n:Nat)(c:Â)(c1:Int)(c2:Int)(c3:Int)(c4:Int)(c5:Int)(c6:Â)(c7:(List Aa))(c8:Int)(c9:Int)(c10:Int)(c11:Â)(c12:(List Aa))(c13:Int)(c14:Int)(c15:Int)(c16:Â)(c17:(List Aa))(c18:Int)(c19:Int)(s:(List Ag)):Option Int :=
 ((AH n s c c1 c2 c3 c4 c5 c6 c7 c8 c9 c10 c11 c12 c13 c14 c15 c16 c17 c18 c19 0
 ):Option (Unit ⊕ Int)).bind fun y=>match y with
 |.inl _ =>
  some (-1)
 |.inr o=>some o
def B2 (n:Nat)(c:Â)(c1:Int)(c2:Int)(c3:Int)(c4:Int)(c5:Int)(c6:Â)(c7:(List Aa))(c8:Int)(c9:Int)(c10:Int)(c11:Â)(c12:(List Aa))(c13:Int)(c14:Int)(c15:Int)(c16:Â)(c17:(List Aa))(c18:Int)(c19:Int)(s:(List Ag)):Option Bool :=
 (CU n c c1 c2 c3 c4 c5 c6 c7 c8 c9 c10 c11 c12 c13 c14 c15 c16 c17 c18 c19 s).bind fun c20 =>
 some (decide (0<=c20))
def Ee (c:Â)(c1:Int)(c2:Int)(c3:Int)(c4:Int)(c5:Int)(c6:Â)(c7:(List Aa))(c8:Int)(c9:Int)(c10:Int)(c11:Â)(c12:(List Aa))(c13:Int)(c14:Int)(c15:Int)(c16:Â)(c17:(List Aa))(c18:Int)(c19:Int):Option Unit :=
 some ()
def AD:Nat->Ag->Int->Option (Unit ⊕ Int)
 |0,_,_=>none
 |n+1,x,v94 =>
  bif (v94 == 0) then
   (Ha x.From).bind fun f2 =>
   bif (f2.2.2.E != 0) then
    some (.inr f2.2.2.E)
   else
    bif (f2.1 != 2) then
     some (.inr 7)
    else
     AD n x 1
  else
   bif (v94 == 1) then
    (Ha x.To).bind fun f1 =>
    bif (f1.2.2.E != 0) then
     some (.inr f1.2.2.E)
    else
     bif (f1.1 != 2) then
      some (.inr 7)
     else
      AD n x 2
   else
    bif (v94 == 2) then
     (Ha x.When).bind fun f =>
     bif (f.2.2.E != 0) then
      some (.inr f.2.2.E)
     else
      bif (f.1 != 3) then
       some (.inr 7)
      else
       AD n x 3
    else
     bif (v94 == 3) then
      some (.inl ())
     else
      none
theorem DR (n:Nat)(x:Ag)(v94:Int):AD (n+1) x v94 =
 bif (v94 == 0) then
  (Ha x.From).bind fun f2 =>
  bif (f2.2.2.E != 0) then
   some (.inr f2.2.2.E)
  else
   bif (f2.1 != 2) then
    some (.inr 7)
   else
    AD n x 1
 else
  bif (v94 == 1) then
   (Ha x.To).bind fun f1 =>
   bif (f1.2.2.E != 0) then
    some (.inr f1.2.2.E)
   else
    bif (f1.1 != 2) then
     some (.inr 7)
    else
     AD n x 2
  else
   bif (v94 == 2) then
    (Ha x.When).bind fun f =>
    bif (f.2.2.E != 0) then
     some (.inr f.2.2.E)
    else
     bif (f.1 != 3) then
      some (.inr 7)
     else
      AD n x 3
   else
    bif (v94 == 3) then
     some (.inl ())
    else
     none:=by rw [AD]
def CE:Nat->(List Ag)->Int->Option (Unit ⊕ Int)
 |0,_,_=>none
 |n+1,l,v20 =>
  bif (decide (v20<(l.length:Int))) then
   (gi l v20).bind fun x =>
   (ED n x.Name).bind fun i =>
   bif (!i) then
    some (.inr 6)
   else
    (Yh l 0 v20).bind fun l1 =>
    (B2 n x.Name x.Kind x.Rank x.Known x.From.Op x.From.N x.From.S x.From.Kids x.From.At x.To.Op x.To.N x.To.S x.To.Kids x.To.At x.When.Op x.When.N x.When.S x.When.Kids x.When.At x.Houses l1).bind fun c =>
    bif c then
     some (.inr 9)
    else
     ((bif (decide (x.Kind<1)) then
      some true
     else
      some (decide (3<x.Kind))
     ):Option Bool).bind fun v39 =>
      bif v39 then
       some (.inr 1)
      else
       ((bif (decide (x.Rank<0)) then
        some true
       else
        bif (decide (9<x.Rank)) then
         some true
        else
         bif (decide (x.Known<0)) then
          some true
         else
          bif (decide (41666<x.Known)) then
           some true
          else
           bif (!(x.Kind == 3)) then
            bif (x.Houses != 0) then
             some true
            else
             bif (x.Kind == 3) then
              bif (decide (x.Houses<1)) then
               some true
              else
               some (decide (4096<=x.Houses))
             else
              some false
           else
            bif (x.Kind == 3) then
             bif (decide (x.Houses<1)) then
              some true
             else
              some (decide (4096<=x.Houses))
            else
             some false
       ):Option Bool).bind fun v48 =>
        bif v48 then
         some (.inr 3)
        else
         (Ee x.Name x.Kind x.Rank x.Known x.From.Op x.From.N x.From.S x.From.Kids x.From.At x.To.Op x.To.N x.To.S x.To.Kids x.To.At x.When.Op x.When.N x.When.S x.When.Kids x.When.At x.Houses).bind fun w =>
         ((AD n x 0
         ):Option (Unit ⊕ Int)).bind fun y3=>match y3 with
         |.inl _ =>
          CE n l (À (v20+1))
         |.inr o=>some (.inr o)
  else
   some (.inl ())
theorem Hi (n:Nat)(l:(List Ag))(v20:Int):CE (n+1) l v20 =
 bif (decide (v20<(l.length:Int))) then
  (gi l v20).bind fun x =>
  (ED n x.Name).bind fun i =>
  bif (!i) then
   some (.inr 6)
  else
   (Yh l 0 v20).bind fun l1 =>
   (B2 n x.Name x.Kind x.Rank x.Known x.From.Op x.From.N x.From.S x.From.Kids x.From.At x.To.Op x.To.N x.To.S x.To.Kids x.To.At x.When.Op x.When.N x.When.S x.When.Kids x.When.At x.Houses l1).bind fun c =>
   bif c then
    some (.inr 9)
   else
    ((bif (decide (x.Kind<1)) then
     some true
    else
     some (decide (3<x.Kind))
    ):Option Bool).bind fun v39 =>
     bif v39 then
      some (.inr 1)
     else
      ((bif (decide (x.Rank<0)) then
       some true
      else
       bif (decide (9<x.Rank)) then
        some true
       else
        bif (decide (x.Known<0)) then
         some true
        else
         bif (decide (41666<x.Known)) then
          some true
         else
          bif (!(x.Kind == 3)) then
           bif (x.Houses != 0) then
            some true
           else
            bif (x.Kind == 3) then
             bif (decide (x.Houses<1)) then
              some true
             else
              some (decide (4096<=x.Houses))
            else
             some false
          else
           bif (x.Kind == 3) then
            bif (decide (x.Houses<1)) then
             some true
            else
             some (decide (4096<=x.Houses))
           else
            some false
      ):Option Bool).bind fun v48 =>
       bif v48 then
        some (.inr 3)
       else
        (Ee x.Name x.Kind x.Rank x.Known x.From.Op x.From.N x.From.S x.From.Kids x.From.At x.To.Op x.To.N x.To.S x.To.Kids x.To.At x.When.Op x.When.N x.When.S x.When.Kids x.When.At x.Houses).bind fun w =>
        ((AD n x 0
        ):Option (Unit ⊕ Int)).bind fun y3=>match y3 with
        |.inl _ =>
         CE n l (À (v20+1))
        |.inr o=>some (.inr o)
 else
  some (.inl ()):=by rw [CE]
def DD (n:Nat)(l:(List Ag)):Option Int :=
 bif (decide (40<(l.length:Int))) then
  some 2
 else
  (some ()).bind fun u =>
  ((CE n l 0
  ):Option (Unit ⊕ Int)).bind fun y=>match y with
  |.inl _ =>
   some 0
  |.inr o=>some o
def FY (n:Nat)(c:Ag)(d:BG)(known:Int):Option (Int×Int×Bool×Int) :=
 (some [c]).bind fun l =>
 (DD n l).bind fun e =>
 bif (e != 0) then
  some (0,0,false,e)
 else
  (H8 n d known).bind fun e1 =>
  bif (e1 != 0) then
   some (0,0,false,e1)
  else
   (some ()).bind fun u =>
   (((Y8 c.From (Al.mk d known)).bind fun from_1 =>
   (Y8 c.To (Al.mk d known)).bind fun to1 =>
   bif (decide (c.Known<=known)) then
    (Y8 c.When (Al.mk d known)).bind fun v_ =>
    some (from_1,to1,(v_ == 1))
   else
    some (from_1,to1,false)
   ):Option (Int×Int×Bool)).bind fun y=>match y with
   |(from_,to,applies) =>
    some (from_,to,applies,0)
def Fe:Option (ByteArray×ByteArray×ByteArray×ByteArray) :=
 some (⟨#[]⟩,⟨#[107,101,101,112]⟩,⟨#[100,114,111,112]⟩,⟨#[112,108,97,99,101]⟩)
def F1 (c:Â)(c1:Int)(c2:Int)(c3:Int)(c4:Int)(c5:Int)(c6:Â)(c7:(List Aa))(c8:Int)(c9:Int)(c10:Int)(c11:Â)(c12:(List Aa))(c13:Int)(c14:Int)(c15:Int)(c16:Â)(c17:(List Aa))(c18:Int)(c19:Int)(f:Â)(f1:(List Ao))(f2:(List Ai))(f3:Int):Option Unit :=
 some ()
def C2:Nat->Ag->Int->(List Ao)->Option (List Ao)
 |0,_,_,_=>none
 |n+1,x,v67,f3 =>
  bif (decide (v67<12)) then
   (Yi v67 (x.Houses.fdiv (2 ^ min v67.toNat IntKind.i64.bits))).bind fun q =>
   bif ((bits .and .i64 q 1) == 1) then
    (some [(Ao.mk 2 v67 ⟨#[]⟩ (Aa.mk 0 0 ⟨#[]⟩ [] 0) 0)]).bind fun l4 =>
    (B4 105 f3 l4).bind fun l5 =>
    C2 n x (À (v67+1)) l5
   else
    C2 n x (À (v67+1)) f3
  else
   some f3
def B8:Nat->Ag->Int->(List Ao)->Option (List Ao)
 |0,_,_,_=>none
 |n+1,x,v45,f4 =>
  bif (v45 == 0) then
   (some [(Ao.mk 5 0 ⟨#[]⟩ x.From 0)]).bind fun l12 =>
   (B4 105 f4 l12).bind fun l13 =>
   B8 n x 1 l13
  else
   bif (v45 == 1) then
    (some [(Ao.mk 5 0 ⟨#[]⟩ x.To 0)]).bind fun l10 =>
    (B4 105 f4 l10).bind fun l11 =>
    B8 n x 2 l11
   else
    bif (v45 == 2) then
     (some [(Ao.mk 5 0 ⟨#[]⟩ x.When 0)]).bind fun l8 =>
     (B4 105 f4 l8).bind fun l9 =>
     B8 n x 3 l9
    else
     bif (v45 == 3) then
      some f4
     else
      none
def Cg:Nat->(List Ag)->(List Ai)->Int->Option (List Ai)
 |0,_,_,_=>none
 |n+1,l,forms1,v21 =>
  bif (decide (v21<(l.length:Int))) then
   (gi l v21).bind fun x =>
   (Fe).bind fun w =>
   (gi [w.1,w.2.1,w.2.2.1,w.2.2.2] x.Kind).bind fun x1 =>
   (some [(Ao.mk 1 0 x.Name (Aa.mk 0 0 ⟨#[]⟩ [] 0) 0),(Ao.mk 2 x.Rank ⟨#[]⟩ (Aa.mk 0 0 ⟨#[]⟩ [] 0) 0),(Ao.mk 2 x.Known ⟨#[]⟩ (Aa.mk 0 0 ⟨#[]⟩ [] 0) 0)]).bind fun l1 =>
   (F1 x.Name x.Kind x.Rank x.Known x.From.Op x.From.N x.From.S x.From.Kids x.From.At x.To.Op x.To.N x.To.S x.To.Kids x.To.At x.When.Op x.When.N x.When.S x.When.Kids x.When.At x.Houses x1 l1 [] 0).bind fun w1 =>
   ((B8 n x 0 l1
   ):Option (List Ao)).bind fun f =>
    ((bif (x.Kind == 3) then
     (some [(Ao.mk 4 0 ⟨#[]⟩ (Aa.mk 0 0 ⟨#[]⟩ [] 0) 0)]).bind fun l6 =>
     (B4 105 f l6).bind fun l7 =>
     some l7
    else
     some f
    ):Option (List Ao)).bind fun f1 =>
     ((C2 n x 0 f1
     ):Option (List Ao)).bind fun f2 =>
      (some [(Ai.mk x1 f2 [] 0)]).bind fun l2 =>
      (B4 73 forms1 l2).bind fun l3 =>
      Cg n l l3 (À (v21+1))
  else
   some forms1
def BP (n:Nat)(l:(List Ag)):Option (ByteArray×Int) :=
 (DD n l).bind fun e =>
 bif (e != 0) then
  some (⟨#[]⟩,e)
 else
  ((Cg n l [] 0
  ):Option (List Ai)).bind fun forms =>
   (Jl n forms).bind fun p =>
   some (p.1,p.2)
def Cn:Nat->(List Â)->Â->Int->Option (Unit ⊕ Int)
 |0,_,_,_=>none
 |n+1,s,v_,v8 =>
  bif (decide (v8<(s.length:Int))) then
   (gi s v8).bind fun x =>
   bif (decide (v_=x)) then
    some (.inr v8)
   else
    Cn n s v_ (À (v8+1))
  else
   some (.inl ())
theorem G9 (n:Nat)(s:(List Â))(v_:Â)(v8:Int):Cn (n+1) s v_ v8 =
 bif (decide (v8<(s.length:Int))) then
  (gi s v8).bind fun x =>
  bif (decide (v_=x)) then
   some (.inr v8)
  else
   Cn n s v_ (À (v8+1))
 else
  some (.inl ()):=by rw [Cn]
def EW (n:Nat)(s:(List Â))(v_:Â):Option Int :=
 ((Cn n s v_ 0
 ):Option (Unit ⊕ Int)).bind fun y=>match y with
 |.inl _ =>
  some (-1)
 |.inr o=>some o
def C1:Nat->Ai->(List Int)->Int->Option (Unit ⊕ (Int×Bool))
 |0,_,_,_=>none
 |n+1,f,want,v52 =>
  bif (decide (v52<(f.Args.length:Int))) then
   (gi f.Args v52).bind fun x =>
   (gi want (if (À ((want.length:Int)-1))<v52 then (À ((want.length:Int)-1)) else v52)).bind fun x1 =>
   bif (x.Kind != x1) then
    some (.inr (0,false))
   else
    C1 n f want (À (v52+1))
  else
   some (.inl ())
theorem GP (n:Nat)(f:Ai)(want:(List Int))(v52:Int):C1 (n+1) f want v52 =
 bif (decide (v52<(f.Args.length:Int))) then
  (gi f.Args v52).bind fun x =>
  (gi want (if (À ((want.length:Int)-1))<v52 then (À ((want.length:Int)-1)) else v52)).bind fun x1 =>
  bif (x.Kind != x1) then
   some (.inr (0,false))
  else
   C1 n f want (À (v52+1))
 else
  some (.inl ()):=by rw [C1]
def DK (n:Nat)(f:Ai):Option (Int×Bool) :=
 (Fe).bind fun l =>
 (EW n [l.2.1,l.2.2.1,l.2.2.2] f.Word).bind fun i =>
 (some [1,2,2,5,5,5]).bind fun l1 =>
 ((bif ((À (i+1)) == 3) then
  (some [4,2]).bind fun l2 =>
  (B4 9 l1 l2).bind fun l3 =>
  some l3
 else
  some l1
 ):Option (List Int)).bind fun want =>
  ((bif ((À (i+1)) == 0) then
   some true
  else
   bif (decide (0<(f.Body.length:Int))) then
    some true
   else
    bif (decide ((f.Args.length:Int)<(want.length:Int))) then
     some true
    else
     bif ((À (i+1)) != 3) then
      some (decide ((want.length:Int)<(f.Args.length:Int)))
     else
      some false
  ):Option Bool).bind fun v48 =>
   bif v48 then
    some (0,false)
   else
    ((C1 n f want 0
    ):Option (Unit ⊕ (Int×Bool))).bind fun y2=>match y2 with
    |.inl _ =>
     some ((À (i+1)),true)
    |.inr o=>some o
def CW (q:Int)(q1:Int)(p:Int)(p1:Int)(f:Â)(f1:(List Ao))(f2:(List Ai))(f3:Int)(c:Ag):Option Bool :=
 (gi f1 0).bind fun x =>
 some (decide (c.Name=x.S))
def AW:Nat->(List Ag)->Int->Int->Int->Int->Â->(List Ao)->(List Ai)->Int->Int->Option (Unit ⊕ Int)
 |0,_,_,_,_,_,_,_,_,_,_=>none
 |n+1,s,q,q1,p,p1,f,f1,f2,f3,v8 =>
  bif (decide (v8<(s.length:Int))) then
   (gi s v8).bind fun x =>
   (CW q q1 p p1 f f1 f2 f3 x).bind fun c =>
   bif c then
    some (.inr v8)
   else
    AW n s q q1 p p1 f f1 f2 f3 (À (v8+1))
  else
   some (.inl ())
theorem CB (n:Nat)(s:(List Ag))(q:Int)(q1:Int)(p:Int)(p1:Int)(f:Â)(f1:(List Ao))(f2:(List Ai))(f3:Int)(v8:Int):AW (n+1) s q q1 p p1 f f1 f2 f3 v8 =
 bif (decide (v8<(s.length:Int))) then
  (gi s v8).bind fun x =>
  (CW q q1 p p1 f f1 f2 f3 x).bind fun c =>
  bif c then
   some (.inr v8)
  else
   AW n s q q1 p p1 f f1 f2 f3 (À (v8+1))
 else
  some (.inl ()):=by rw [AW]
def CL (n:Nat)(q:Int)(q1:Int)(p:Int)(p1:Int)(f:Â)(f1:(List Ao))(f2:(List Ai))(f3:Int)(s:(List Ag)):Option Int :=
 ((AW n s q q1 p p1 f f1 f2 f3 0
 ):Option (Unit ⊕ Int)).bind fun y=>match y with
 |.inl _ =>
  some (-1)
 |.inr o=>some o
def B3 (n:Nat)(q:Int)(q1:Int)(p:Int)(p1:Int)(f:Â)(f1:(List Ao))(f2:(List Ai))(f3:Int)(s:(List Ag)):Option Bool :=
 (CL n q q1 p p1 f f1 f2 f3 s).bind fun c =>
 some (decide (0<=c))
def Ed (q:Int)(q1:Int)(p:Int)(p1:Int)(f:Â)(f1:(List Ao))(f2:(List Ai))(f3:Int)(c:Â)(c1:Int)(c2:Int)(c3:Int)(c4:Int)(c5:Int)(c6:Â)(c7:(List Aa))(c8:Int)(c9:Int)(c10:Int)(c11:Â)(c12:(List Aa))(c13:Int)(c14:Int)(c15:Int)(c16:Â)(c17:(List Aa))(c18:Int)(c19:Int):Option Unit :=
 some ()
def Bc:Nat->Ao->Ao->Ao->Int->Option (Unit ⊕ ((List Ag)×Am))
 |0,_,_,_,_=>none
 |n+1,x5,x6,x7,v170 =>
  bif (v170 == 0) then
   (Ha x5.E).bind fun f3 =>
   bif (f3.2.2.E != 0) then
    some (.inr ([],f3.2.2))
   else
    bif (f3.1 != 2) then
     some (.inr ([],(Am.mk x5.At 7)))
    else
     Bc n x5 x6 x7 1
  else
   bif (v170 == 1) then
    (Ha x6.E).bind fun f2 =>
    bif (f2.2.2.E != 0) then
     some (.inr ([],f2.2.2))
    else
     bif (f2.1 != 2) then
      some (.inr ([],(Am.mk x6.At 7)))
     else
      Bc n x5 x6 x7 2
   else
    bif (v170 == 2) then
     (Ha x7.E).bind fun f1 =>
     bif (f1.2.2.E != 0) then
      some (.inr ([],f1.2.2))
     else
      bif (f1.1 != 3) then
       some (.inr ([],(Am.mk x7.At 7)))
      else
       Bc n x5 x6 x7 3
    else
     bif (v170 == 3) then
      some (.inl ())
     else
      none
theorem Dq (n:Nat)(x5:Ao)(x6:Ao)(x7:Ao)(v170:Int):Bc (n+1) x5 x6 x7 v170 =
 bif (v170 == 0) then
  (Ha x5.E).bind fun f3 =>
  bif (f3.2.2.E != 0) then
   some (.inr ([],f3.2.2))
  else
   bif (f3.1 != 2) then
    some (.inr ([],(Am.mk x5.At 7)))
   else
    Bc n x5 x6 x7 1
 else
  bif (v170 == 1) then
   (Ha x6.E).bind fun f2 =>
   bif (f2.2.2.E != 0) then
    some (.inr ([],f2.2.2))
   else
    bif (f2.1 != 2) then
     some (.inr ([],(Am.mk x6.At 7)))
    else
     Bc n x5 x6 x7 2
  else
   bif (v170 == 2) then
    (Ha x7.E).bind fun f1 =>
    bif (f1.2.2.E != 0) then
     some (.inr ([],f1.2.2))
    else
     bif (f1.1 != 3) then
      some (.inr ([],(Am.mk x7.At 7)))
     else
      Bc n x5 x6 x7 3
   else
    bif (v170 == 3) then
     some (.inl ())
    else
     none:=by rw [Bc]
def By:Nat->Ai->Int->Int->Int->Option (Int ⊕ ((List Ag)×Am))
 |0,_,_,_,_=>none
 |n+1,x,v103,last,c2 =>
  bif (decide (v103<(x.Args.length:Int))) then
   (gi x.Args v103).bind fun x8 =>
   ((bif (v103 == 1) then
    bif (decide (x8.N<0)) then
     some true
    else
     bif (decide (9<x8.N)) then
      some true
     else
      bif (v103 == 2) then
       bif (decide (x8.N<0)) then
        some true
       else
        bif (decide (41666<x8.N)) then
         some true
        else
         bif (decide (6<v103)) then
          bif (decide (x8.N<=last)) then
           some true
          else
           some (decide (12<=x8.N))
         else
          some false
      else
       bif (decide (6<v103)) then
        bif (decide (x8.N<=last)) then
         some true
        else
         some (decide (12<=x8.N))
       else
        some false
   else
    bif (v103 == 2) then
     bif (decide (x8.N<0)) then
      some true
     else
      bif (decide (41666<x8.N)) then
       some true
      else
       bif (decide (6<v103)) then
        bif (decide (x8.N<=last)) then
         some true
        else
         some (decide (12<=x8.N))
       else
        some false
    else
     bif (decide (6<v103)) then
      bif (decide (x8.N<=last)) then
       some true
      else
       some (decide (12<=x8.N))
     else
      some false
   ):Option Bool).bind fun odd =>
    bif odd then
     some (.inr ([],(Am.mk x8.At 3)))
    else
     bif (decide (6<v103)) then
      (Yi x8.N (À (1*2 ^ min x8.N.toNat IntKind.i64.bits))).bind fun q =>
      By n x (À (v103+1)) x8.N (bits .or .i64 c2 q)
     else
      By n x (À (v103+1)) last c2
  else
   some (.inl c2)
theorem G7 (n:Nat)(x:Ai)(v103:Int)(last:Int)(c2:Int):By (n+1) x v103 last c2 =
 bif (decide (v103<(x.Args.length:Int))) then
  (gi x.Args v103).bind fun x8 =>
  ((bif (v103 == 1) then
   bif (decide (x8.N<0)) then
    some true
   else
    bif (decide (9<x8.N)) then
     some true
    else
     bif (v103 == 2) then
      bif (decide (x8.N<0)) then
       some true
      else
       bif (decide (41666<x8.N)) then
        some true
       else
        bif (decide (6<v103)) then
         bif (decide (x8.N<=last)) then
          some true
         else
          some (decide (12<=x8.N))
        else
         some false
     else
      bif (decide (6<v103)) then
       bif (decide (x8.N<=last)) then
        some true
       else
        some (decide (12<=x8.N))
      else
       some false
  else
   bif (v103 == 2) then
    bif (decide (x8.N<0)) then
     some true
    else
     bif (decide (41666<x8.N)) then
      some true
     else
      bif (decide (6<v103)) then
       bif (decide (x8.N<=last)) then
        some true
       else
        some (decide (12<=x8.N))
      else
       some false
   else
    bif (decide (6<v103)) then
     bif (decide (x8.N<=last)) then
      some true
     else
      some (decide (12<=x8.N))
    else
     some false
  ):Option Bool).bind fun odd =>
   bif odd then
    some (.inr ([],(Am.mk x8.At 3)))
   else
    bif (decide (6<v103)) then
     (Yi x8.N (À (1*2 ^ min x8.N.toNat IntKind.i64.bits))).bind fun q =>
     By n x (À (v103+1)) x8.N (bits .or .i64 c2 q)
    else
     By n x (À (v103+1)) last c2
 else
  some (.inl c2):=by rw [By]
def Cm:Nat->((List Ai)×Am)->(List Ag)->Int->Option ((List Ag) ⊕ ((List Ag)×Am))
 |0,_,_,_=>none
 |n+1,f,out1,v36 =>
  bif (decide (v36<(f.1.length:Int))) then
   (gi f.1 v36).bind fun x =>
   (DK n x).bind fun s =>
   bif (!s.2) then
    some (.inr ([],(Am.mk x.At 5)))
   else
    bif ((out1.length:Int) == 40) then
     some (.inr ([],(Am.mk x.At 2)))
    else
     (B3 n 0 0 f.2.At f.2.E x.Word x.Args x.Body x.At out1).bind fun c =>
     bif c then
      (gi x.Args 0).bind fun x1 =>
      some (.inr ([],(Am.mk x1.At 9)))
     else
      (gi x.Args 0).bind fun x2 =>
      (gi x.Args 1).bind fun x3 =>
      (gi x.Args 2).bind fun x4 =>
      (gi x.Args 3).bind fun x5 =>
      (gi x.Args 4).bind fun x6 =>
      (gi x.Args 5).bind fun x7 =>
      ((By n x 0 (-1) 0
      ):Option (Int ⊕ ((List Ag)×Am))).bind fun y1=>match y1 with
      |.inl c1 =>
       (Ed 0 0 f.2.At f.2.E x.Word x.Args x.Body x.At x2.S s.1 x3.N x4.N x5.E.Op x5.E.N x5.E.S x5.E.Kids x5.E.At x6.E.Op x6.E.N x6.E.S x6.E.Kids x6.E.At x7.E.Op x7.E.N x7.E.S x7.E.Kids x7.E.At c1).bind fun w =>
       ((Bc n x5 x6 x7 0
       ):Option (Unit ⊕ ((List Ag)×Am))).bind fun y2=>match y2 with
       |.inl _ =>
        (some [(Ag.mk x2.S s.1 x3.N x4.N x5.E x6.E x7.E c1)]).bind fun l =>
        (B4 241 out1 l).bind fun l1 =>
        Cm n f l1 (À (v36+1))
       |.inr o=>some (.inr o)
      |.inr o=>some (.inr o)
  else
   some (.inl out1)
theorem G8 (n:Nat)(f:((List Ai)×Am))(out1:(List Ag))(v36:Int):Cm (n+1) f out1 v36 =
 bif (decide (v36<(f.1.length:Int))) then
  (gi f.1 v36).bind fun x =>
  (DK n x).bind fun s =>
  bif (!s.2) then
   some (.inr ([],(Am.mk x.At 5)))
  else
   bif ((out1.length:Int) == 40) then
    some (.inr ([],(Am.mk x.At 2)))
   else
    (B3 n 0 0 f.2.At f.2.E x.Word x.Args x.Body x.At out1).bind fun c =>
    bif c then
     (gi x.Args 0).bind fun x1 =>
     some (.inr ([],(Am.mk x1.At 9)))
    else
     (gi x.Args 0).bind fun x2 =>
     (gi x.Args 1).bind fun x3 =>
     (gi x.Args 2).bind fun x4 =>
     (gi x.Args 3).bind fun x5 =>
     (gi x.Args 4).bind fun x6 =>
     (gi x.Args 5).bind fun x7 =>
     ((By n x 0 (-1) 0
     ):Option (Int ⊕ ((List Ag)×Am))).bind fun y1=>match y1 with
     |.inl c1 =>
      (Ed 0 0 f.2.At f.2.E x.Word x.Args x.Body x.At x2.S s.1 x3.N x4.N x5.E.Op x5.E.N x5.E.S x5.E.Kids x5.E.At x6.E.Op x6.E.N x6.E.S x6.E.Kids x6.E.At x7.E.Op x7.E.N x7.E.S x7.E.Kids x7.E.At c1).bind fun w =>
      ((Bc n x5 x6 x7 0
      ):Option (Unit ⊕ ((List Ag)×Am))).bind fun y2=>match y2 with
      |.inl _ =>
       (some [(Ag.mk x2.S s.1 x3.N x4.N x5.E x6.E x7.E c1)]).bind fun l =>
       (B4 241 out1 l).bind fun l1 =>
       Cm n f l1 (À (v36+1))
      |.inr o=>some (.inr o)
     |.inr o=>some (.inr o)
 else
  some (.inl out1):=by rw [Cm]
def CR (n:Nat)(src:Â):Option ((List Ag)×Am) :=
 (Dk n src).bind fun f =>
 bif (f.2.E != 0) then
  some ([],f.2)
 else
  (some ()).bind fun u =>
  ((Cm n f [] 0
  ):Option ((List Ag) ⊕ ((List Ag)×Am))).bind fun y=>match y with
  |.inl out =>
   some (out,(Am.mk 0 0))
  |.inr o=>some o
def IG (c:Ag)(k:Int):Option Aa :=
 bif (k == 0) then
  some c.From
 else
  bif (k == 1) then
   some c.To
  else
   some c.When
mutual
def CJ:Nat->Aa->Int->Int->Option Int
 |0,_,_,_=>none
 |n+1,e,n_2,k =>
  ((bif (decide (k<(e.Kids.length:Int))) then
   some (decide (0<=n_2))
  else
   some false
  ):Option Bool).bind fun v16 =>
   bif v16 then
    (gi e.Kids k).bind fun x =>
    (BZ n x n_2).bind fun n_3 =>
    CJ n e n_3 (À (k+1))
   else
    some n_2
def BZ:Nat->Aa->Int->Option Int
 |0,_,_=>none
 |n+1,e,n_ =>
  ((CJ n e (À (n_-1)) 0
  ):Option Int).bind fun n_1 =>
   some n_1
end
theorem Gx (n:Nat)(e:Aa)(n_2:Int)(k:Int):CJ (n+1) e n_2 k =
 ((bif (decide (k<(e.Kids.length:Int))) then
  some (decide (0<=n_2))
 else
  some false
 ):Option Bool).bind fun v16 =>
  bif v16 then
   (gi e.Kids k).bind fun x =>
   (BZ n x n_2).bind fun n_3 =>
   CJ n e n_3 (À (k+1))
  else
   some n_2:=by rw [CJ]
theorem P7 (n:Nat)(e:Aa)(n_:Int):BZ (n+1) e n_ =
 ((CJ n e (À (n_-1)) 0
 ):Option Int).bind fun n_1 =>
  some n_1:=by rw [BZ]
def Ch:Nat->(List Ag)->Int->Int->Int->Option Int
 |0,_,_,_,_=>none
 |n+1,l,i,n_4,k =>
  ((bif (decide (k<3)) then
   some (decide (0<=n_4))
  else
   some false
  ):Option Bool).bind fun v25 =>
   bif v25 then
    (gi l i).bind fun x =>
    (IG x k).bind fun p =>
    (BZ n p n_4).bind fun n_5 =>
    Ch n l i n_5 (À (k+1))
   else
    some n_4
theorem GX (n:Nat)(l:(List Ag))(i:Int)(n_4:Int)(k:Int):Ch (n+1) l i n_4 k =
 ((bif (decide (k<3)) then
  some (decide (0<=n_4))
 else
  some false
 ):Option Bool).bind fun v25 =>
  bif v25 then
   (gi l i).bind fun x =>
   (IG x k).bind fun p =>
   (BZ n p n_4).bind fun n_5 =>
   Ch n l i n_5 (À (k+1))
  else
   some n_4:=by rw [Ch]
def D8:Nat->(List Ag)->Int->Int->Option Int
 |0,_,_,_=>none
 |n+1,l,n_2,i =>
  ((bif (decide (i<(l.length:Int))) then
   some (decide (0<=n_2))
  else
   some false
  ):Option Bool).bind fun v17 =>
   bif v17 then
    ((Ch n l i n_2 0
    ):Option Int).bind fun n_3 =>
     D8 n l n_3 (À (i+1))
   else
    some n_2
theorem GY (n:Nat)(l:(List Ag))(n_2:Int)(i:Int):D8 (n+1) l n_2 i =
 ((bif (decide (i<(l.length:Int))) then
  some (decide (0<=n_2))
 else
  some false
 ):Option Bool).bind fun v17 =>
  bif v17 then
   ((Ch n l i n_2 0
   ):Option Int).bind fun n_3 =>
    D8 n l n_3 (À (i+1))
  else
   some n_2:=by rw [D8]
def JF (n:Nat)(l:(List Ag))(n_:Int):Option Bool :=
 bif (decide (50<(l.length:Int))) then
  some false
 else
  ((D8 n l n_ 0
  ):Option Int).bind fun n_1 =>
   some (decide (0<=n_1))
def Ez:Nat->(List Ag)->(List Ag)->Bool->Int->Option (Unit ⊕ Bool)
 |0,_,_,_,_=>none
 |n+1,a_,b,offsets,k =>
  bif (decide (k<(a_.length:Int))) then
   (gi a_ k).bind fun x =>
   (gi b k).bind fun x1 =>
   (BJ n x.From x1.From offsets).bind fun from_ =>
   (BJ n x.To x1.To offsets).bind fun to =>
   (BJ n x.When x1.When offsets).bind fun when =>
   ((bif (!from_) then
    some true
   else
    bif (!to) then
     some true
    else
     bif (!when) then
      some true
     else
      bif (!decide (x.Name=x1.Name)) then
       some true
      else
       bif (x.Kind != x1.Kind) then
        some true
       else
        bif (x.Rank != x1.Rank) then
         some true
        else
         bif (x.Known != x1.Known) then
          some true
         else
          some (x.Houses != x1.Houses)
   ):Option Bool).bind fun v94 =>
    bif v94 then
     some (.inr false)
    else
     Ez n a_ b offsets (À (k+1))
  else
   some (.inl ())
def Hs (n:Nat)(a_:(List Ag))(b:(List Ag))(offsets:Bool):Option Bool :=
 bif ((a_.length:Int) != (b.length:Int)) then
  some false
 else
  ((Ez n a_ b offsets 0
  ):Option (Unit ⊕ Bool)).bind fun y=>match y with
  |.inl _ =>
   some true
  |.inr o=>some o
def Kz:Option Â :=
 some ⟨#[107,101,101,112,32,116,97,120,32,50,32,48,32,40,115,116,111,114,101,100,41,32,40,115,116,111,114,101,100,32,43,32,55,32,42,32,121,101,97,114,41,32,40,98,111,114,110,40,111,119,110,101,114,41,32,60,32,110,101,118,101,114,41,59,32,112,108,97,99,101,32,104,111,109,101,32,49,32,51,32,40,100,97,121,40,48,41,41,32,40,110,101,118,101,114,41,32,40,111,119,110,101,114,32,33,61,32,112,101,114,115,111,110,40,48,41,41,32,45,62,32,48,32,50,59]⟩
def IL (s:Â):Option Aa :=
 some (Aa.mk 3 0 s [] 0)
def GZ (n_:Int):Option Aa :=
 some (Aa.mk 1 n_ ⟨#[]⟩ [] 0)
def JK (op:Int)(a_:Aa)(b:Aa):Option Aa :=
 (some [a_,b]).bind fun l =>
 some (Aa.mk op 0 ⟨#[]⟩ l 0)
def Jn (n:Nat)(src:Â)(at_:Int)(e:Int):Option Bool :=
 (CR n src).bind fun c =>
 ((bif ((c.1.length:Int) == 0) then
  some ((c.2.At == at_)&&((c.2.E == e)&&true))
 else
  some false
 ):Option Bool).bind fun v6 =>
  some v6
def K0 (n:Nat):Option Bool :=
 (Kz).bind fun s =>
 (CR n s).bind fun c =>
 ((bif (!((c.2.At == 0)&&((c.2.E == 0)&&true))) then
  some true
 else
  bif ((c.1.length:Int) != 2) then
   some true
  else
   (DD n c.1).bind fun c2 =>
   some (c2 != 0)
 ):Option Bool).bind fun v47 =>
  bif v47 then
   some false
  else
   (((gi c.1 0).bind fun x2 =>
   bif (!decide (x2.Name=⟨#[116,97,120]⟩)) then
    some true
   else
    bif (x2.Kind != 1) then
     some true
    else
     bif (x2.Rank != 2) then
      some true
     else
      bif (x2.Known != 0) then
       some true
      else
       bif (x2.Houses != 0) then
        some true
       else
        (gi c.1 1).bind fun x3 =>
        bif (!decide (x3.Name=⟨#[104,111,109,101]⟩)) then
         some true
        else
         bif (x3.Kind != 3) then
          some true
         else
          bif (x3.Rank != 1) then
           some true
          else
           bif (x3.Known != 3) then
            some true
           else
            some (x3.Houses != 5)
   ):Option Bool).bind fun v115 =>
    bif v115 then
     some false
    else
     (some [(BS.mk 1 4 3 5)]).bind fun l =>
     (gi c.1 0).bind fun x =>
     (FY n x (BG.mk l 10 4) 4).bind fun s1 =>
     (FY n x (BG.mk l 10 4) 5).bind fun s2 =>
     (gi c.1 1).bind fun x1 =>
     (FY n x1 (BG.mk l 10 4) 2).bind fun s3 =>
     (FY n x1 (BG.mk l 10 4) 3).bind fun s4 =>
     (IL ⟨#[110,101,118,101,114]⟩).bind fun n_ =>
     (GZ 5).bind fun n_1 =>
     (JK 11 n_ n_1).bind fun t =>
     (Gl n t (BG.mk l 10 4) 0).bind fun v_ =>
     (GZ 3).bind fun n_2 =>
     (some [n_2]).bind fun l1 =>
     (GZ 9).bind fun n_3 =>
     (JK 11 (Aa.mk 4 0 ⟨#[100,97,121]⟩ l1 0) n_3).bind fun t1 =>
     (Gl n t1 (BG.mk l 10 4) 0).bind fun v_1 =>
     (IL ⟨#[110,101,118,101,114]⟩).bind fun n_4 =>
     (IL ⟨#[115,116,111,114,101,100]⟩).bind fun n_5 =>
     (JK 11 n_4 n_5).bind fun t2 =>
     (Gl n t2 (BG.mk l 10 4) 0).bind fun v_2 =>
     ((bif (s1.2.2.2 != 0) then
      some true
     else
      bif (s2.2.2.2 != 0) then
       some true
      else
       bif (s3.2.2.2 != 0) then
        some true
       else
        bif (s4.2.2.2 != 0) then
         some true
        else
         bif (v_.2 != 0) then
          some true
         else
          bif (v_1.2 != 0) then
           some true
          else
           some (v_2.2 != 0)
     ):Option Bool).bind fun v210 =>
      bif v210 then
       some false
      else
       ((bif (s1.1 != 10) then
        some true
       else
        bif (s1.2.1 != 2565) then
         some true
        else
         bif s1.2.2.1 then
          some true
         else
          bif (!s2.2.2.1) then
           some true
          else
           bif (s3.1 != 0) then
            some true
           else
            bif (s3.2.1 != 41667) then
             some true
            else
             bif s3.2.2.1 then
              some true
             else
              bif (!s4.2.2.1) then
               some true
              else
               bif (v_.1 != 41667) then
                some true
               else
                bif (v_1.1 != 0) then
                 some true
                else
                 some (v_2.1 != 41657)
       ):Option Bool).bind fun v250 =>
        bif v250 then
         some false
        else
         (BP n c.1).bind fun s5 =>
         (CR n s5.1).bind fun c1 =>
         ((bif (s5.2 == 0) then
          bif (c1.2.E == 0) then
           (Hs n c1.1 c.1 false).bind fun s6 =>
           bif s6 then
            (Jn n ⟨#[107,101,101,112,32,97,32,49,32,48,32,40,55,41,32,40,110,101,118,101,114,41,32,40,49,32,60,32,50,41,59]⟩ 11 7).bind fun f =>
            bif f then
             (Jn n ⟨#[100,114,111,112,32,97,32,49,32,48,32,40,115,116,111,114,101,100,41,32,40,110,101,118,101,114,41,32,40,120,41,59]⟩ 29 6).bind fun f1 =>
             some f1
            else
             some false
           else
            some false
          else
           some false
         else
          some false
         ):Option Bool).bind fun v0_ =>
          some v0_
def UX:Option Bool:=K0 60
def DA (n:Nat)(l:(List Ag)):Option Bool :=
 (JF n l 200).bind fun few =>
 bif (!few) then
  (UX).bind fun s =>
  some s
 else
  (BP n l).bind fun s1 =>
  bif (s1.2 != 0) then
   (((UX).bind fun s2 =>
   bif s2 then
    some (decide (s1.1=⟨#[]⟩))
   else
    some false
   ):Option Bool).bind fun v2 =>
    some v2
  else
   (CR n s1.1).bind fun c =>
   (BP n c.1).bind fun s3 =>
   (((UX).bind fun s4 =>
   bif s4 then
    bif (c.2.E == 0) then
     (Hs n c.1 l false).bind fun s5 =>
     bif s5 then
      (DD n c.1).bind fun c1 =>
      bif (c1 == 0) then
       bif (s3.2 == 0) then
        some (decide (s3.1=s1.1))
       else
        some false
      else
       some false
     else
      some false
    else
     some false
   else
    some false
   ):Option Bool).bind fun v21 =>
    some v21
def Au (l:(List Ab))(k:Int)(s:Â):Option Bool :=
 (((gi l k).bind fun x =>
 bif (x.Kind == 4) then
  some (decide (x.S=s))
 else
  some false
 ):Option Bool).bind fun v6 =>
  some v6
def Ga (l:(List Ab))(k:Int):Option Bool :=
 (Au l k ⟨#[40]⟩).bind fun open_ =>
 (Au l k ⟨#[45]⟩).bind fun minus =>
 (((gi l k).bind fun x =>
 bif (decide (1<=x.Kind)) then
  bif (decide (x.Kind<=3)) then
   some true
  else
   bif open_ then
    some true
   else
    some minus
 else
  bif open_ then
   some true
  else
   some minus
 ):Option Bool).bind fun v4 =>
  some v4
def EK (l:(List Ab))(k:Int)(depth:Int)(not_:Bool):Option Int :=
 (Ga l k).bind fun can =>
 (Au l k ⟨#[33]⟩).bind fun bang =>
 ((bif (!can) then
  bif (!not_) then
   some true
  else
   some (!bang)
 else
  some false
 ):Option Bool).bind fun v26 =>
  bif v26 then
   some 5
  else
   bif (decide (30<depth)) then
    some 2
   else
    some 0
def CM:Nat->(List Â)->(List Ab)->Int->(List Int)->Int->Option (Unit ⊕ BF)
 |0,_,_,_,_,_=>none
 |n+1,l1,l,k,l2,i =>
  bif (decide (i<(l1.length:Int))) then
   (gi l1 i).bind fun x =>
   (Au l k x).bind fun is_ =>
   bif is_ then
    (gi l2 i).bind fun x1 =>
    some (.inr (BF.mk x1 (À (7+i))))
   else
    CM n l1 l k l2 (À (i+1))
  else
   some (.inl ())
def LF (n:Nat)(l:(List Ab))(k:Int):Option BF :=
 (some [⟨#[42]⟩,⟨#[47]⟩,⟨#[37]⟩,⟨#[43]⟩,⟨#[45]⟩,⟨#[61,61]⟩,⟨#[33,61]⟩,⟨#[60]⟩,⟨#[60,61]⟩,⟨#[62]⟩,⟨#[62,61]⟩,⟨#[38,38]⟩,⟨#[124,124]⟩]).bind fun l1 =>
 (some [6,6,6,5,5,4,4,4,4,4,4,2,1]).bind fun l2 =>
 ((CM n l1 l k l2 0
 ):Option (Unit ⊕ BF)).bind fun y=>match y with
 |.inl _ =>
  some (BF.mk 0 0)
 |.inr o=>some o
mutual
def Bl:Nat->(List Ab)->Int->Int->Option Aw
 |0,_,_,_=>none
 |n+1,l,k,depth =>
  (EK l k depth true).bind fun e =>
  bif (e != 0) then
   some (Aw.mk (Aa.mk 0 0 ⟨#[]⟩ [] 0) k e)
  else
   (Ax n l k 1 depth).bind fun c =>
   bif (c.E != 0) then
    some c
   else
    (Au l c.To ⟨#[63]⟩).bind fun ask =>
    bif (!ask) then
     some c
    else
     (Bl n l (À (c.To+1)) (À (depth+1))).bind fun a_ =>
     bif (a_.E != 0) then
      some a_
     else
      (Au l a_.To ⟨#[58]⟩).bind fun colon =>
      bif (!colon) then
       some (Aw.mk (Aa.mk 0 0 ⟨#[]⟩ [] 0) a_.To 5)
      else
       (Bl n l (À (a_.To+1)) (À (depth+1))).bind fun b =>
       bif (b.E != 0) then
        some b
       else
        (some [c.X,a_.X,b.X]).bind fun l1 =>
        some (Aw.mk (Aa.mk 20 0 ⟨#[]⟩ l1 c.X.At) b.To 0)
def AI:Nat->(List Ab)->Int->Aw->Int->Int->Int->Â->(List Aa)->Int->Int->Option ((Int×Int×ByteArray×(List Aa)×Int×Int) ⊕ Aw)
 |0,_,_,_,_,_,_,_,_,_,_=>none
 |n+1,l,n_,x,depth,x7,x8,x9,x10,x11,x12 =>
  bif (x12 == 0) then
   (LF n l x11).bind fun op =>
   bif (op.N != n_) then
    some (.inr (Aw.mk (Aa.mk x7 x8 x9 x10 x.X.At) x11 x12))
   else
    (Ax n l (À (x11+1)) (À (n_+1)) depth).bind fun y1 =>
    bif (y1.E != 0) then
     some (.inr y1)
    else
     (some [(Aa.mk x7 x8 x9 x10 x.X.At),y1.X]).bind fun l1 =>
     bif (n_ == 4) then
      some (.inr (Aw.mk (Aa.mk op.Op 0 ⟨#[]⟩ l1 x.X.At) y1.To 0))
     else
      AI n l n_ x depth op.Op 0 ⟨#[]⟩ l1 y1.To 0
  else
   some (.inl (x7,x8,x9,x10,x11,x12))
def Ax:Nat->(List Ab)->Int->Int->Int->Option Aw
 |0,_,_,_,_=>none
 |n+1,l,k,n_,depth =>
  bif (decide (6<n_)) then
   (B9 n l k depth).bind fun m_ =>
   some m_
  else
   bif (n_ == 3) then
    (Ca n l k depth).bind fun b =>
    some b
   else
    (Ax n l k (À (n_+1)) depth).bind fun x =>
    ((AI n l n_ x depth x.X.Op x.X.N x.X.S x.X.Kids x.To x.E
    ):Option ((Int×Int×ByteArray×(List Aa)×Int×Int) ⊕ Aw)).bind fun y=>match y with
    |.inl (x1,x2,x3,x4,x5,x6) =>
     some (Aw.mk (Aa.mk x1 x2 x3 x4 x.X.At) x5 x6)
    |.inr o=>some o
def B9:Nat->(List Ab)->Int->Int->Option Aw
 |0,_,_,_=>none
 |n+1,l,k,depth =>
  (Au l k ⟨#[45]⟩).bind fun is_ =>
  bif (!is_) then
   (BB n l k depth).bind fun a_ =>
   some a_
  else
   (EK l (À (k+1)) (À (depth+1)) false).bind fun e =>
   bif (e != 0) then
    some (Aw.mk (Aa.mk 0 0 ⟨#[]⟩ [] 0) (À (k+1)) e)
   else
    (B9 n l (À (k+1)) (À (depth+1))).bind fun x =>
    bif (x.E != 0) then
     some x
    else
     (gi l k).bind fun x1 =>
     (some [x.X]).bind fun l1 =>
     some (Aw.mk (Aa.mk 6 0 ⟨#[]⟩ l1 x1.At) x.To 0)
def BB:Nat->(List Ab)->Int->Int->Option Aw
 |0,_,_,_=>none
 |n+1,l,k,depth =>
  (gi l k).bind fun x =>
  (Au l k ⟨#[40]⟩).bind fun open_ =>
  bif open_ then
   (Bl n l (À (k+1)) (À (depth+1))).bind fun x1 =>
   bif (x1.E != 0) then
    some x1
   else
    (Au l x1.To ⟨#[41]⟩).bind fun shut =>
    bif (!shut) then
     some (Aw.mk (Aa.mk 0 0 ⟨#[]⟩ [] 0) x1.To 5)
    else
     some (Aw.mk x1.X (À (x1.To+1)) 0)
  else
   bif (x.Kind == 2) then
    some (Aw.mk (Aa.mk 1 x.N ⟨#[]⟩ [] x.At) (À (k+1)) 0)
   else
    bif (x.Kind == 3) then
     some (Aw.mk (Aa.mk 2 0 x.S [] x.At) (À (k+1)) 0)
    else
     bif (x.Kind != 1) then
      some (Aw.mk (Aa.mk 0 0 ⟨#[]⟩ [] 0) k 5)
     else
      (Au l (À (k+1)) ⟨#[40]⟩).bind fun call =>
      bif (!call) then
       some (Aw.mk (Aa.mk 3 0 x.S [] x.At) (À (k+1)) 0)
      else
       (Dy n l k depth).bind fun a_ =>
       some a_
def Ca:Nat->(List Ab)->Int->Int->Option Aw
 |0,_,_,_=>none
 |n+1,l,k,depth =>
  (Au l k ⟨#[33]⟩).bind fun is_ =>
  bif (!is_) then
   (Ax n l k 4 depth).bind fun b =>
   some b
  else
   (EK l (À (k+1)) (À (depth+1)) true).bind fun e =>
   bif (e != 0) then
    some (Aw.mk (Aa.mk 0 0 ⟨#[]⟩ [] 0) (À (k+1)) e)
   else
    (Ca n l (À (k+1)) (À (depth+1))).bind fun x =>
    bif (x.E != 0) then
     some x
    else
     (gi l k).bind fun x1 =>
     (some [x.X]).bind fun l1 =>
     some (Aw.mk (Aa.mk 5 0 ⟨#[]⟩ l1 x1.At) x.To 0)
def BU:Nat->(List Ab)->Int->Ab->Int->(List Aa)->Option Aw
 |0,_,_,_,_,_=>none
 |n+1,l,depth,x,at_,out =>
  (EK l at_ (À (depth+1)) true).bind fun e =>
  ((bif (e == 0) then
   bif ((out.length:Int) == 40) then
    some true
   else
    some (e == 2)
  else
   some (e == 2)
  ):Option Bool).bind fun v51 =>
   bif v51 then
    some (Aw.mk (Aa.mk 0 0 ⟨#[]⟩ [] 0) at_ 2)
   else
    (Bl n l at_ (À (depth+1))).bind fun x1 =>
    bif (x1.E != 0) then
     some x1
    else
     (some [x1.X]).bind fun l1 =>
     (B4 65 out l1).bind fun l2 =>
     (Au l x1.To ⟨#[41]⟩).bind fun shut =>
     bif shut then
      some (Aw.mk (Aa.mk 4 0 x.S l2 x.At) (À (x1.To+1)) 0)
     else
      (Au l x1.To ⟨#[44]⟩).bind fun comma =>
      bif (!comma) then
       some (Aw.mk (Aa.mk 0 0 ⟨#[]⟩ [] 0) x1.To 5)
      else
       BU n l depth x (À (x1.To+1)) l2
def Dy:Nat->(List Ab)->Int->Int->Option Aw
 |0,_,_,_=>none
 |n+1,l,k,depth =>
  (gi l k).bind fun x =>
  (Au l (À (k+2)) ⟨#[41]⟩).bind fun empty =>
  bif empty then
   some (Aw.mk (Aa.mk 4 0 x.S [] x.At) (À ((À (k+2))+1)) 0)
  else
   BU n l depth x (À (k+2)) []
end
def CQ (n:Nat)(l:(List Ab))(k:Int):Option Cj :=
 (gi l k).bind fun x =>
 ((bif (decide (1<=x.Kind)) then
  some (decide (x.Kind<=3))
 else
  some false
 ):Option Bool).bind fun v21 =>
  bif v21 then
   some (Cj.mk (Ao.mk x.Kind x.N x.S (Aa.mk 0 0 ⟨#[]⟩ [] 0) x.At) (À (k+1)) 0)
  else
   (Au l k ⟨#[45,62]⟩).bind fun arrow =>
   bif arrow then
    some (Cj.mk (Ao.mk 4 0 ⟨#[]⟩ (Aa.mk 0 0 ⟨#[]⟩ [] 0) x.At) (À (k+1)) 0)
   else
    (Au l k ⟨#[45]⟩).bind fun minus =>
    bif minus then
     (gi l (À (k+1))).bind fun x1 =>
     bif (x1.Kind != 2) then
      some (Cj.mk (Ao.mk 0 0 ⟨#[]⟩ (Aa.mk 0 0 ⟨#[]⟩ [] 0) 0) (À (k+1)) 5)
     else
      some (Cj.mk (Ao.mk 2 (À (0-x1.N)) ⟨#[]⟩ (Aa.mk 0 0 ⟨#[]⟩ [] 0) x.At) (À (k+2)) 0)
    else
     (Bl n l (À (k+1)) 1).bind fun x2 =>
     bif (x2.E != 0) then
      some (Cj.mk (Ao.mk 0 0 ⟨#[]⟩ (Aa.mk 0 0 ⟨#[]⟩ [] 0) 0) x2.To x2.E)
     else
      (Au l x2.To ⟨#[41]⟩).bind fun shut =>
      bif (!shut) then
       some (Cj.mk (Ao.mk 0 0 ⟨#[]⟩ (Aa.mk 0 0 ⟨#[]⟩ [] 0) 0) x2.To 5)
      else
       some (Cj.mk (Ao.mk 5 0 ⟨#[]⟩ x2.X x.At) (À (x2.To+1)) 0)
mutual
def Bt:Nat->(List Ab)->Ab->(List Ao)->Int->(List Ai)->Int->Int->Option Cb
 |0,_,_,_,_,_,_,_=>none
 |n+1,l,x,out,depth,out2,out3,out4 =>
  (Au l out3 ⟨#[125]⟩).bind fun shut =>
  bif shut then
   some (Cb.mk (Ai.mk x.S out out2 x.At) (À (out3+1)) out4 0)
  else
   (C0 n l out3 (À (depth+1)) out4).bind fun x1 =>
   bif (x1.E != 0) then
    some x1
   else
    (some [x1.F]).bind fun l1 =>
    (B4 73 out2 l1).bind fun l2 =>
    Bt n l x out depth l2 x1.To x1.N
def AZ:Nat->(List Ab)->Ab->Int->(List Ao)->Int->Option (((List Ao)×Int) ⊕ Cb)
 |0,_,_,_,_,_=>none
 |n+1,l,x,n_,out5,out6 =>
  (Au l out6 ⟨#[59]⟩).bind fun semi =>
  bif semi then
   some (.inr (Cb.mk (Ai.mk x.S out5 [] x.At) (À (out6+1)) (À (n_+1)) 0))
  else
   (Au l out6 ⟨#[123]⟩).bind fun open_ =>
   bif open_ then
    some (.inl (out5,out6))
   else
    (Ga l out6).bind fun can =>
    (Au l out6 ⟨#[45,62]⟩).bind fun arrow =>
    ((bif (!can) then
     some (!arrow)
    else
     some false
    ):Option Bool).bind fun v77 =>
     bif v77 then
      some (.inr (Cb.mk (Ai.mk ⟨#[]⟩ [] [] 0) out6 0 5))
     else
      bif ((out5.length:Int) == 40) then
       some (.inr (Cb.mk (Ai.mk ⟨#[]⟩ [] [] 0) out6 0 2))
      else
       (CQ n l out6).bind fun a_ =>
       bif (a_.E != 0) then
        some (.inr (Cb.mk (Ai.mk ⟨#[]⟩ [] [] 0) a_.To 0 a_.E))
       else
        (some [a_.A]).bind fun l3 =>
        (B4 105 out5 l3).bind fun l4 =>
        AZ n l x n_ l4 a_.To
def C0:Nat->(List Ab)->Int->Int->Int->Option Cb
 |0,_,_,_,_=>none
 |n+1,l,k,depth,n_ =>
  (gi l k).bind fun x =>
  bif (x.Kind != 1) then
   some (Cb.mk (Ai.mk ⟨#[]⟩ [] [] 0) k 0 5)
  else
   ((bif (decide (30<depth)) then
    some true
   else
    some (decide (2000<=n_))
   ):Option Bool).bind fun v30 =>
    bif v30 then
     some (Cb.mk (Ai.mk ⟨#[]⟩ [] [] 0) k 0 2)
    else
     ((AZ n l x n_ [] (À (k+1))
     ):Option (((List Ao)×Int) ⊕ Cb)).bind fun y1=>match y1 with
     |.inl (out,out1) =>
      Bt n l x out depth [] (À (out1+1)) (À (n_+1))
     |.inr o=>some o
end
def Cp:Nat->Qz->(List Ai)->Int->Int->Option ((List Ai) ⊕ Db)
 |0,_,_,_,_=>none
 |n+1,t,out1,k,n_ =>
  (gi t.L k).bind fun x =>
  bif (x.Kind != 5) then
   (C0 n t.L k 1 n_).bind fun x1 =>
   bif (x1.E != 0) then
    (gi t.L x1.To).bind fun x2 =>
    some (.inr (Db.mk [] (Aa.mk 0 0 ⟨#[]⟩ [] 0) (Am.mk x2.At x1.E)))
   else
    (some [x1.F]).bind fun l =>
    (B4 73 out1 l).bind fun l1 =>
    Cp n t l1 x1.To x1.N
  else
   some (.inl out1)
def FL (n:Nat)(src:Â):Option Db :=
 (JE src).bind fun t =>
 bif (t.P.E != 0) then
  some (Db.mk [] (Aa.mk 0 0 ⟨#[]⟩ [] 0) t.P)
 else
  ((Cp n t [] 0 0
  ):Option ((List Ai) ⊕ Db)).bind fun y=>match y with
  |.inl out =>
   some (Db.mk out (Aa.mk 0 0 ⟨#[]⟩ [] 0) (Am.mk 0 0))
  |.inr o=>some o
abbrev hC (l:List Ag):PV:=hP l DN
abbrev oC (l:List Ag):PV:=oP l DN
end Go.Sp
