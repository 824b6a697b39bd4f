/-
  Chapter 33 as plain functions, second part: what is exported, the specification, the laws; no program. (Printed by lift.py.)
-/
import Derived.Test.YtkcfmlfkfagejaaGreatDoorU15
set_option linter.unusedVariables false
set_option linter.unusedSimpArgs false
namespace Go.Sp
open Go Go.Vl
set_option linter.unusedVariables false
structure Aj where
 Name:ByteArray
 Kind:Int
 Rank:Int
 Known:Int
 From:Aa
 To:Aa
 When:Aa
 Houses:Int
def C7 (x:Aj):List PV:=[tP x.Name,iP x.Kind,iP x.Rank,iP x.Known,iP x.From.Op,iP x.From.N,tP x.From.S,hP x.From.Kids Ba,iP x.From.At,iP x.To.Op,iP x.To.N,tP x.To.S,hP x.To.Kids Ba,iP x.To.At,iP x.When.Op,iP x.When.N,tP x.When.S,hP x.When.Kids Ba,iP x.When.At,iP x.Houses]
theorem Ge (x:Aj):C7 x=[tP x.Name,iP x.Kind,iP x.Rank,iP x.Known,iP x.From.Op,iP x.From.N,tP x.From.S,hP x.From.Kids Ba,iP x.From.At,iP x.To.Op,iP x.To.N,tP x.To.S,hP x.To.Kids Ba,iP x.To.At,iP x.When.Op,iP x.When.N,tP x.When.S,hP x.When.Kids Ba,iP x.When.At,iP x.Houses]:=rfl
theorem LB (x:Aj):(C7 x).length=20:=rfl
def Ai:Rw Aj:=⟨C7,_,20,Ge,LB⟩
structure Gf where
 N:Int
 E:Int
structure BI where
 T:Int
 P:Av
structure F7 where
 From:Int
 To:Int
 Is:Bool
 E:Int
def L9 (x:Int):List PV:=[uP x]
theorem Vv (x:Int):L9 x=[uP x]:=rfl
theorem TM (x:Int):(L9 x).length=1:=rfl
def YK:Rw Int:=⟨L9,_,1,Vv,TM⟩
def Bt:Nat->Au->Int->Option (Unit ⊕ Int)
 |0,_,_=>none
 |n+1,d,v14 =>
  bif (decide (v14<(d.Facts.length:Int))) then
   (gi d.Facts v14).bind fun x =>
   ((bif (decide (x.Kind<1)) then
    some true
   else
    bif (decide (5<x.Kind)) then
     some true
    else
     bif (decide (x.Who<1)) then
      some true
     else
      bif (decide (1000<x.Who)) then
       some true
      else
       bif (decide (x.Day<0)) then
        some true
       else
        bif (decide (41666<x.Day)) then
         some true
        else
         bif (decide (x.Known<0)) then
          some true
         else
          some (decide (41666<x.Known))
   ):Option Bool).bind fun v55 =>
    bif v55 then
     some (.inr 1)
    else
     Bt n d (IntKind.i64.wrap (v14+1))
  else
   some (.inl ())
theorem EK (n:Nat)(d:Au)(v14:Int):Bt (n+1) d v14 =
 bif (decide (v14<(d.Facts.length:Int))) then
  (gi d.Facts v14).bind fun x =>
  ((bif (decide (x.Kind<1)) then
   some true
  else
   bif (decide (5<x.Kind)) then
    some true
   else
    bif (decide (x.Who<1)) then
     some true
    else
     bif (decide (1000<x.Who)) then
      some true
     else
      bif (decide (x.Day<0)) then
       some true
      else
       bif (decide (41666<x.Day)) then
        some true
       else
        bif (decide (x.Known<0)) then
         some true
        else
         some (decide (41666<x.Known))
  ):Option Bool).bind fun v55 =>
   bif v55 then
    some (.inr 1)
   else
    Bt n d (IntKind.i64.wrap (v14+1))
 else
  some (.inl ()):=by rw [Bt]
def C2 (n:Nat)(d:Au)(known:Int):Option Int :=
 bif (decide (200<(d.Facts.length:Int))) then
  some 2
 else
  ((Bt n d 0
  ):Option (Unit ⊕ Int)).bind fun y=>match y with
  |.inl _ =>
   ((bif (decide (d.Stored<0)) then
    some true
   else
    bif (decide (41666<d.Stored)) then
     some true
    else
     bif (decide (known<0)) then
      some true
     else
      bif (decide (41666<known)) then
       some true
      else
       bif (decide (d.Owner<0)) then
        some true
       else
        some (decide (1000<d.Owner))
   ):Option Bool).bind fun v82 =>
    bif v82 then
     some 1
    else
     some 0
  |.inr o=>some o
def C1 (n:Nat)(e:Aa)(d:Au)(known:Int):Option (Int×Int) :=
 (some ()).bind fun u =>
 (Ip (Aa.mk e.Op e.N e.S e.Kids e.At)).bind fun f =>
 bif (f.2.2.E != 0) then
  some (0,f.2.2.E)
 else
  (C2 n d known).bind fun x =>
  bif (x != 0) then
   some (0,x)
  else
   (PE (Aa.mk e.Op e.N e.S e.Kids e.At) (Ag.mk d known)).bind fun v_ =>
   some (v_,0)
def Di (c:Int):Option Bool :=
 ((bif (decide (97<=c)) then
  bif (decide (c<=122)) then
   some false
  else
   bif (decide (65<=c)) then
    bif (decide (c<=90)) then
     some false
    else
     bif (c == 95) then
      some false
     else
      bif (decide (48<=c)) then
       some (!(decide (c<=57)))
      else
       some true
   else
    bif (c == 95) then
     some false
    else
     bif (decide (48<=c)) then
      some (!(decide (c<=57)))
     else
      some true
 else
  bif (decide (65<=c)) then
   bif (decide (c<=90)) then
    some false
   else
    bif (c == 95) then
     some false
    else
     bif (decide (48<=c)) then
      some (!(decide (c<=57)))
     else
      some true
  else
   bif (c == 95) then
    some false
   else
    bif (decide (48<=c)) then
     some (!(decide (c<=57)))
    else
     some true
 ):Option Bool).bind fun v2 =>
  some v2
def AI:Nat->(List Int)->Int->Option (Unit ⊕ Int)
 |0,_,_=>none
 |n+1,s,v8 =>
  bif (decide (v8<(s.length:Int))) then
   (gi s v8).bind fun x =>
   (Di x).bind fun i =>
   bif i then
    some (.inr v8)
   else
    AI n s (IntKind.i64.wrap (v8+1))
  else
   some (.inl ())
theorem DT (n:Nat)(s:(List Int))(v8:Int):AI (n+1) s v8 =
 bif (decide (v8<(s.length:Int))) then
  (gi s v8).bind fun x =>
  (Di x).bind fun i =>
  bif i then
   some (.inr v8)
  else
   AI n s (IntKind.i64.wrap (v8+1))
 else
  some (.inl ()):=by rw [AI]
def CJ (n:Nat)(s:(List Int)):Option Int :=
 ((AI n s 0
 ):Option (Unit ⊕ Int)).bind fun y=>match y with
 |.inl _ =>
  some (-1)
 |.inr o=>some o
def BQ (n:Nat)(s:(List Int)):Option Bool :=
 (CJ n s).bind fun i =>
 some (decide (0<=i))
def Eb (n:Nat)(s:ByteArray):Option Bool :=
 ((bif (decide (s=⟨#[]⟩)) then
  some true
 else
  bif (decide (32<(s.size:Int))) then
   some true
  else
   (gb s 0).bind fun c1 =>
   bif (decide (48<=c1)) then
    some (decide (c1<=57))
   else
    some false
 ):Option Bool).bind fun v19 =>
  bif v19 then
   some false
  else
   (OZ s).bind fun b =>
   (BQ n b).bind fun c =>
   some (!c)
def Dm (c:ByteArray)(c1:Int)(c2:Int)(c3:Int)(c4:Int)(c5:Int)(c6:ByteArray)(c7:(List Aa))(c8:Int)(c9:Int)(c10:Int)(c11:ByteArray)(c12:(List Aa))(c13:Int)(c14:Int)(c15:Int)(c16:ByteArray)(c17:(List Aa))(c18:Int)(c19:Int)(x:Aj):Option Bool :=
 some (decide (x.Name=c))
def AF:Nat->(List Aj)->ByteArray->Int->Int->Int->Int->Int->ByteArray->(List Aa)->Int->Int->Int->ByteArray->(List Aa)->Int->Int->Int->ByteArray->(List Aa)->Int->Int->Int->Option (Unit ⊕ Int)
 |0,_,_,_,_,_,_,_,_,_,_,_,_,_,_,_,_,_,_,_,_,_,_=>none
 |n+1,s,c,c1,c2,c3,c4,c5,c6,c7,c8,c9,c10,c11,c12,c13,c14,c15,c16,c17,c18,c19,v8 =>
  bif (decide (v8<(s.length:Int))) then
   (gi s v8).bind fun x =>
   (Dm c c1 c2 c3 c4 c5 c6 c7 c8 c9 c10 c11 c12 c13 c14 c15 c16 c17 c18 c19 x).bind fun c20 =>
   bif c20 then
    some (.inr v8)
   else
    AF n s c c1 c2 c3 c4 c5 c6 c7 c8 c9 c10 c11 c12 c13 c14 c15 c16 c17 c18 c19 (IntKind.i64.wrap (v8+1))
  else
   some (.inl ())
theorem Dz (n:Nat)(s:(List Aj))(c:ByteArray)(c1:Int)(c2:Int)(c3:Int)(c4:Int)(c5:Int)(c6:ByteArray)(c7:(List Aa))(c8:Int)(c9:Int)(c10:Int)(c11:ByteArray)(c12:(List Aa))(c13:Int)(c14:Int)(c15:Int)(c16:ByteArray)(c17:(List Aa))(c18:Int)(c19:Int)(v8:Int):AF (n+1) s c c1 c2 c3 c4 c5 c6 c7 c8 c9 c10 c11 c12 c13 c14 c15 c16 c17 c18 c19 v8 =
 bif (decide (v8<(s.length:Int))) then
  (gi s v8).bind fun x =>
  (Dm c c1 c2 c3 c4 c5 c6 c7 c8 c9 c10 c11 c12 c13 c14 c15 c16 c17 c18 c19 x).bind fun c20 =>
  bif c20 then
   some (.inr v8)
  else
   AF n s c c1 c2 c3 c4 c5 c6 c7 c8 c9 c10 c11 c12 c13 c14 c15 c16 c17 c18 c19 (IntKind.i64.wrap (v8+1))
 else
  some (.inl ()):=by rw [AF]
def Ct (n:Nat)(c:ByteArray)(c1:Int)(c2:Int)(c3:Int)(c4:Int)(c5:Int)(c6:ByteArray)(c7:(List Aa))(c8:Int)(c9:Int)(c10:Int)(c11:ByteArray)(c12:(List Aa))(c13:Int)(c14:Int)(c15:Int)(c16:ByteArray)(c17:(List Aa))(c18:Int)(c19:Int)(s:(List Aj)):Option Int :=
 ((AF n s c c1 c2 c3 c4 c5 c6 c7 c8 c9 c10 c11 c12 c13 c14 c15 c16 c17 c18 c19 0
 ):Option (Unit ⊕ Int)).bind fun y=>match y with
 |.inl _ =>
  some (-1)
 |.inr o=>some o
def Bk (n:Nat)(c:ByteArray)(c1:Int)(c2:Int)(c3:Int)(c4:Int)(c5:Int)(c6:ByteArray)(c7:(List Aa))(c8:Int)(c9:Int)(c10:Int)(c11:ByteArray)(c12:(List Aa))(c13:Int)(c14:Int)(c15:Int)(c16:ByteArray)(c17:(List Aa))(c18:Int)(c19:Int)(s:(List Aj)):Option Bool :=
 (Ct n c c1 c2 c3 c4 c5 c6 c7 c8 c9 c10 c11 c12 c13 c14 c15 c16 c17 c18 c19 s).bind fun c20 =>
 some (decide (0<=c20))
def D9 (c:ByteArray)(c1:Int)(c2:Int)(c3:Int)(c4:Int)(c5:Int)(c6:ByteArray)(c7:(List Aa))(c8:Int)(c9:Int)(c10:Int)(c11:ByteArray)(c12:(List Aa))(c13:Int)(c14:Int)(c15:Int)(c16:ByteArray)(c17:(List Aa))(c18:Int)(c19:Int):Option Unit :=
 some ()
def AD:Nat->Aj->Int->Option (Unit ⊕ Int)
 |0,_,_=>none
 |n+1,x,v94 =>
  bif (v94 == 0) then
   (Ip x.From).bind fun f2 =>
   bif (f2.2.2.E != 0) then
    some (.inr f2.2.2.E)
   else
    bif (f2.1 != 2) then
     some (.inr 7)
    else
     AD n x 1
  else
   bif (v94 == 1) then
    (Ip x.To).bind fun f1 =>
    bif (f1.2.2.E != 0) then
     some (.inr f1.2.2.E)
    else
     bif (f1.1 != 2) then
      some (.inr 7)
     else
      AD n x 2
   else
    bif (v94 == 2) then
     (Ip x.When).bind fun f =>
     bif (f.2.2.E != 0) then
      some (.inr f.2.2.E)
     else
      bif (f.1 != 3) then
       some (.inr 7)
      else
       AD n x 3
    else
     bif (v94 == 3) then
      some (.inl ())
     else
      none
theorem Dt (n:Nat)(x:Aj)(v94:Int):AD (n+1) x v94 =
 bif (v94 == 0) then
  (Ip x.From).bind fun f2 =>
  bif (f2.2.2.E != 0) then
   some (.inr f2.2.2.E)
  else
   bif (f2.1 != 2) then
    some (.inr 7)
   else
    AD n x 1
 else
  bif (v94 == 1) then
   (Ip x.To).bind fun f1 =>
   bif (f1.2.2.E != 0) then
    some (.inr f1.2.2.E)
   else
    bif (f1.1 != 2) then
     some (.inr 7)
    else
     AD n x 2
  else
   bif (v94 == 2) then
    (Ip x.When).bind fun f =>
    bif (f.2.2.E != 0) then
     some (.inr f.2.2.E)
    else
     bif (f.1 != 3) then
      some (.inr 7)
     else
      AD n x 3
   else
    bif (v94 == 3) then
     some (.inl ())
    else
     none:=by rw [AD]
def Cb:Nat->(List Aj)->Int->Option (Unit ⊕ Int)
 |0,_,_=>none
 |n+1,l,v20 =>
  bif (decide (v20<(l.length:Int))) then
   (gi l v20).bind fun x =>
   (Eb n x.Name).bind fun i =>
   bif (!i) then
    some (.inr 6)
   else
    (VM l 0 v20).bind fun l1 =>
    (Bk n x.Name x.Kind x.Rank x.Known x.From.Op x.From.N x.From.S x.From.Kids x.From.At x.To.Op x.To.N x.To.S x.To.Kids x.To.At x.When.Op x.When.N x.When.S x.When.Kids x.When.At x.Houses l1).bind fun c =>
    bif c then
     some (.inr 9)
    else
     ((bif (decide (x.Kind<1)) then
      some true
     else
      some (decide (3<x.Kind))
     ):Option Bool).bind fun v39 =>
      bif v39 then
       some (.inr 1)
      else
       ((bif (decide (x.Rank<0)) then
        some true
       else
        bif (decide (9<x.Rank)) then
         some true
        else
         bif (decide (x.Known<0)) then
          some true
         else
          bif (decide (41666<x.Known)) then
           some true
          else
           bif (!(x.Kind == 3)) then
            bif (x.Houses != 0) then
             some true
            else
             bif (x.Kind == 3) then
              bif (decide (x.Houses<1)) then
               some true
              else
               some (decide (4096<=x.Houses))
             else
              some false
           else
            bif (x.Kind == 3) then
             bif (decide (x.Houses<1)) then
              some true
             else
              some (decide (4096<=x.Houses))
            else
             some false
       ):Option Bool).bind fun v48 =>
        bif v48 then
         some (.inr 3)
        else
         (D9 x.Name x.Kind x.Rank x.Known x.From.Op x.From.N x.From.S x.From.Kids x.From.At x.To.Op x.To.N x.To.S x.To.Kids x.To.At x.When.Op x.When.N x.When.S x.When.Kids x.When.At x.Houses).bind fun w =>
         ((AD n x 0
         ):Option (Unit ⊕ Int)).bind fun y3=>match y3 with
         |.inl _ =>
          Cb n l (IntKind.i64.wrap (v20+1))
         |.inr o=>some (.inr o)
  else
   some (.inl ())
theorem Gx (n:Nat)(l:(List Aj))(v20:Int):Cb (n+1) l v20 =
 bif (decide (v20<(l.length:Int))) then
  (gi l v20).bind fun x =>
  (Eb n x.Name).bind fun i =>
  bif (!i) then
   some (.inr 6)
  else
   (VM l 0 v20).bind fun l1 =>
   (Bk n x.Name x.Kind x.Rank x.Known x.From.Op x.From.N x.From.S x.From.Kids x.From.At x.To.Op x.To.N x.To.S x.To.Kids x.To.At x.When.Op x.When.N x.When.S x.When.Kids x.When.At x.Houses l1).bind fun c =>
   bif c then
    some (.inr 9)
   else
    ((bif (decide (x.Kind<1)) then
     some true
    else
     some (decide (3<x.Kind))
    ):Option Bool).bind fun v39 =>
     bif v39 then
      some (.inr 1)
     else
      ((bif (decide (x.Rank<0)) then
       some true
      else
       bif (decide (9<x.Rank)) then
        some true
       else
        bif (decide (x.Known<0)) then
         some true
        else
         bif (decide (41666<x.Known)) then
          some true
         else
          bif (!(x.Kind == 3)) then
           bif (x.Houses != 0) then
            some true
           else
            bif (x.Kind == 3) then
             bif (decide (x.Houses<1)) then
              some true
             else
              some (decide (4096<=x.Houses))
            else
             some false
          else
           bif (x.Kind == 3) then
            bif (decide (x.Houses<1)) then
             some true
            else
             some (decide (4096<=x.Houses))
           else
            some false
      ):Option Bool).bind fun v48 =>
       bif v48 then
        some (.inr 3)
       else
        (D9 x.Name x.Kind x.Rank x.Known x.From.Op x.From.N x.From.S x.From.Kids x.From.At x.To.Op x.To.N x.To.S x.To.Kids x.To.At x.When.Op x.When.N x.When.S x.When.Kids x.When.At x.Houses).bind fun w =>
        ((AD n x 0
        ):Option (Unit ⊕ Int)).bind fun y3=>match y3 with
        |.inl _ =>
         Cb n l (IntKind.i64.wrap (v20+1))
        |.inr o=>some (.inr o)
 else
  some (.inl ()):=by rw [Cb]
def DO (n:Nat)(l:(List Aj)):Option Int :=
 bif (decide (40<(l.length:Int))) then
  some 2
 else
  (some ()).bind fun u =>
  ((Cb n l 0
  ):Option (Unit ⊕ Int)).bind fun y=>match y with
  |.inl _ =>
   some 0
  |.inr o=>some o
def CZ (n:Nat)(c:Aj)(d:Au)(known:Int):Option (Int×Int×Bool×Int) :=
 (some [c]).bind fun l =>
 (DO n l).bind fun e =>
 bif (e != 0) then
  some (0,0,false,e)
 else
  (C2 n d known).bind fun e1 =>
  bif (e1 != 0) then
   some (0,0,false,e1)
  else
   (some ()).bind fun u =>
   (((PE c.From (Ag.mk d known)).bind fun from_1 =>
   (PE c.To (Ag.mk d known)).bind fun XN =>
   bif (decide (c.Known<=known)) then
    (PE c.When (Ag.mk d known)).bind fun v_ =>
    some (from_1,XN,(v_ == 1))
   else
    some (from_1,XN,false)
   ):Option (Int×Int×Bool)).bind fun y=>match y with
   |(from_,to,applies) =>
    some (from_,to,applies,0)
def GL:Option (ByteArray×ByteArray×ByteArray×ByteArray) :=
 some (⟨#[]⟩,⟨#[107,101,101,112]⟩,⟨#[100,114,111,112]⟩,⟨#[112,108,97,99,101]⟩)
def Ga (c:ByteArray)(c1:Int)(c2:Int)(c3:Int)(c4:Int)(c5:Int)(c6:ByteArray)(c7:(List Aa))(c8:Int)(c9:Int)(c10:Int)(c11:ByteArray)(c12:(List Aa))(c13:Int)(c14:Int)(c15:Int)(c16:ByteArray)(c17:(List Aa))(c18:Int)(c19:Int)(f:ByteArray)(f1:(List AK))(f2:(List Ay))(f3:Int):Option Unit :=
 some ()
def DA:Nat->Aj->Int->(List AK)->Option (List AK)
 |0,_,_,_=>none
 |n+1,x,v67,f3 =>
  bif (decide (v67<12)) then
   (gnn v67 (x.Houses.fdiv (2 ^ min v67.toNat IntKind.i64.bits))).bind fun q =>
   bif ((bits .and .i64 q 1) == 1) then
    (some [(AK.mk 2 v67 ⟨#[]⟩ (Aa.mk 0 0 ⟨#[]⟩ [] 0) 0)]).bind fun l4 =>
    (D7 105 f3 l4).bind fun l5 =>
    DA n x (IntKind.i64.wrap (v67+1)) l5
   else
    DA n x (IntKind.i64.wrap (v67+1)) f3
  else
   some f3
def CI:Nat->Aj->Int->(List AK)->Option (List AK)
 |0,_,_,_=>none
 |n+1,x,v45,f4 =>
  bif (v45 == 0) then
   (some [(AK.mk 5 0 ⟨#[]⟩ x.From 0)]).bind fun l12 =>
   (D7 105 f4 l12).bind fun l13 =>
   CI n x 1 l13
  else
   bif (v45 == 1) then
    (some [(AK.mk 5 0 ⟨#[]⟩ x.To 0)]).bind fun l10 =>
    (D7 105 f4 l10).bind fun l11 =>
    CI n x 2 l11
   else
    bif (v45 == 2) then
     (some [(AK.mk 5 0 ⟨#[]⟩ x.When 0)]).bind fun l8 =>
     (D7 105 f4 l8).bind fun l9 =>
     CI n x 3 l9
    else
     bif (v45 == 3) then
      some f4
     else
      none
def ER:Nat->(List Aj)->(List Ay)->Int->Option (List Ay)
 |0,_,_,_=>none
 |n+1,l,forms1,v21 =>
  bif (decide (v21<(l.length:Int))) then
   (gi l v21).bind fun x =>
   (GL).bind fun w =>
   (gi [w.1,w.2.1,w.2.2.1,w.2.2.2] x.Kind).bind fun x1 =>
   (some [(AK.mk 1 0 x.Name (Aa.mk 0 0 ⟨#[]⟩ [] 0) 0),(AK.mk 2 x.Rank ⟨#[]⟩ (Aa.mk 0 0 ⟨#[]⟩ [] 0) 0),(AK.mk 2 x.Known ⟨#[]⟩ (Aa.mk 0 0 ⟨#[]⟩ [] 0) 0)]).bind fun l1 =>
   (Ga x.Name x.Kind x.Rank x.Known x.From.Op x.From.N x.From.S x.From.Kids x.From.At x.To.Op x.To.N x.To.S x.To.Kids x.To.At x.When.Op x.When.N x.When.S x.When.Kids x.When.At x.Houses x1 l1 [] 0).bind fun w1 =>
   ((CI n x 0 l1
   ):Option (List AK)).bind fun f =>
    ((bif (x.Kind == 3) then
     (some [(AK.mk 4 0 ⟨#[]⟩ (Aa.mk 0 0 ⟨#[]⟩ [] 0) 0)]).bind fun l6 =>
     (D7 105 f l6).bind fun l7 =>
     some l7
    else
     some f
    ):Option (List AK)).bind fun f1 =>
     ((DA n x 0 f1
     ):Option (List AK)).bind fun f2 =>
      (some [(Ay.mk x1 f2 [] 0)]).bind fun l2 =>
      (D7 73 forms1 l2).bind fun l3 =>
      ER n l l3 (IntKind.i64.wrap (v21+1))
  else
   some forms1
def HO (n:Nat)(l:(List Aj)):Option (ByteArray×Int) :=
 (DO n l).bind fun e =>
 bif (e != 0) then
  some (⟨#[]⟩,e)
 else
  ((ER n l [] 0
  ):Option (List Ay)).bind fun forms =>
   (K6 n forms).bind fun p =>
   some (p.1,p.2)
def Er:Nat->(List ByteArray)->ByteArray->Int->Option (Unit ⊕ Int)
 |0,_,_,_=>none
 |n+1,s,v_,v8 =>
  bif (decide (v8<(s.length:Int))) then
   (gi s v8).bind fun x =>
   bif (decide (v_=x)) then
    some (.inr v8)
   else
    Er n s v_ (IntKind.i64.wrap (v8+1))
  else
   some (.inl ())
def Hl (n:Nat)(s:(List ByteArray))(v_:ByteArray):Option Int :=
 ((Er n s v_ 0
 ):Option (Unit ⊕ Int)).bind fun y=>match y with
 |.inl _ =>
  some (-1)
 |.inr o=>some o
def EP:Nat->Ay->(List Int)->Int->Option (Unit ⊕ (Int×Bool))
 |0,_,_,_=>none
 |n+1,f,want,v52 =>
  bif (decide (v52<(f.Args.length:Int))) then
   (gi f.Args v52).bind fun x =>
   (gi want (if (IntKind.i64.wrap ((want.length:Int)-1))<v52 then (IntKind.i64.wrap ((want.length:Int)-1)) else v52)).bind fun x1 =>
   bif (x.Kind != x1) then
    some (.inr (0,false))
   else
    EP n f want (IntKind.i64.wrap (v52+1))
  else
   some (.inl ())
def HL (n:Nat)(f:Ay):Option (Int×Bool) :=
 (GL).bind fun l =>
 (Hl n [l.2.1,l.2.2.1,l.2.2.2] f.Word).bind fun i =>
 (some [1,2,2,5,5,5]).bind fun l1 =>
 ((bif ((IntKind.i64.wrap (i+1)) == 3) then
  (some [4,2]).bind fun l2 =>
  (D7 9 l1 l2).bind fun l3 =>
  some l3
 else
  some l1
 ):Option (List Int)).bind fun want =>
  ((bif ((IntKind.i64.wrap (i+1)) == 0) then
   some true
  else
   bif (decide (0<(f.Body.length:Int))) then
    some true
   else
    bif (decide ((f.Args.length:Int)<(want.length:Int))) then
     some true
    else
     bif ((IntKind.i64.wrap (i+1)) != 3) then
      some (decide ((want.length:Int)<(f.Args.length:Int)))
     else
      some false
  ):Option Bool).bind fun v48 =>
   bif v48 then
    some (0,false)
   else
    ((EP n f want 0
    ):Option (Unit ⊕ (Int×Bool))).bind fun y2=>match y2 with
    |.inl _ =>
     some ((IntKind.i64.wrap (i+1)),true)
    |.inr o=>some o
def EL (q:Int)(q1:Int)(p:Int)(p1:Int)(f:ByteArray)(f1:(List AK))(f2:(List Ay))(f3:Int)(c:Aj):Option Bool :=
 (gi f1 0).bind fun x =>
 some (decide (c.Name=x.S))
def BS:Nat->(List Aj)->Int->Int->Int->Int->ByteArray->(List AK)->(List Ay)->Int->Int->Option (Unit ⊕ Int)
 |0,_,_,_,_,_,_,_,_,_,_=>none
 |n+1,s,q,q1,p,p1,f,f1,f2,f3,v8 =>
  bif (decide (v8<(s.length:Int))) then
   (gi s v8).bind fun x =>
   (EL q q1 p p1 f f1 f2 f3 x).bind fun c =>
   bif c then
    some (.inr v8)
   else
    BS n s q q1 p p1 f f1 f2 f3 (IntKind.i64.wrap (v8+1))
  else
   some (.inl ())
def Dn (n:Nat)(q:Int)(q1:Int)(p:Int)(p1:Int)(f:ByteArray)(f1:(List AK))(f2:(List Ay))(f3:Int)(s:(List Aj)):Option Int :=
 ((BS n s q q1 p p1 f f1 f2 f3 0
 ):Option (Unit ⊕ Int)).bind fun y=>match y with
 |.inl _ =>
  some (-1)
 |.inr o=>some o
def C6 (n:Nat)(q:Int)(q1:Int)(p:Int)(p1:Int)(f:ByteArray)(f1:(List AK))(f2:(List Ay))(f3:Int)(s:(List Aj)):Option Bool :=
 (Dn n q q1 p p1 f f1 f2 f3 s).bind fun c =>
 some (decide (0<=c))
def FZ (q:Int)(q1:Int)(p:Int)(p1:Int)(f:ByteArray)(f1:(List AK))(f2:(List Ay))(f3:Int)(c:ByteArray)(c1:Int)(c2:Int)(c3:Int)(c4:Int)(c5:Int)(c6:ByteArray)(c7:(List Aa))(c8:Int)(c9:Int)(c10:Int)(c11:ByteArray)(c12:(List Aa))(c13:Int)(c14:Int)(c15:Int)(c16:ByteArray)(c17:(List Aa))(c18:Int)(c19:Int):Option Unit :=
 some ()
def Cv:Nat->AK->AK->AK->Int->Option (Unit ⊕ ((List Aj)×Av))
 |0,_,_,_,_=>none
 |n+1,x5,x6,x7,v170 =>
  bif (v170 == 0) then
   (Ip x5.E).bind fun f3 =>
   bif (f3.2.2.E != 0) then
    some (.inr ([],f3.2.2))
   else
    bif (f3.1 != 2) then
     some (.inr ([],(Av.mk x5.At 7)))
    else
     Cv n x5 x6 x7 1
  else
   bif (v170 == 1) then
    (Ip x6.E).bind fun f2 =>
    bif (f2.2.2.E != 0) then
     some (.inr ([],f2.2.2))
    else
     bif (f2.1 != 2) then
      some (.inr ([],(Av.mk x6.At 7)))
     else
      Cv n x5 x6 x7 2
   else
    bif (v170 == 2) then
     (Ip x7.E).bind fun f1 =>
     bif (f1.2.2.E != 0) then
      some (.inr ([],f1.2.2))
     else
      bif (f1.1 != 3) then
       some (.inr ([],(Av.mk x7.At 7)))
      else
       Cv n x5 x6 x7 3
    else
     bif (v170 == 3) then
      some (.inl ())
     else
      none
def Dl:Nat->Ay->Int->Int->Int->Option (Int ⊕ ((List Aj)×Av))
 |0,_,_,_,_=>none
 |n+1,x,v103,last,c2 =>
  bif (decide (v103<(x.Args.length:Int))) then
   (gi x.Args v103).bind fun x8 =>
   ((bif (v103 == 1) then
    bif (decide (x8.N<0)) then
     some true
    else
     bif (decide (9<x8.N)) then
      some true
     else
      bif (v103 == 2) then
       bif (decide (x8.N<0)) then
        some true
       else
        bif (decide (41666<x8.N)) then
         some true
        else
         bif (decide (6<v103)) then
          bif (decide (x8.N<=last)) then
           some true
          else
           some (decide (12<=x8.N))
         else
          some false
      else
       bif (decide (6<v103)) then
        bif (decide (x8.N<=last)) then
         some true
        else
         some (decide (12<=x8.N))
       else
        some false
   else
    bif (v103 == 2) then
     bif (decide (x8.N<0)) then
      some true
     else
      bif (decide (41666<x8.N)) then
       some true
      else
       bif (decide (6<v103)) then
        bif (decide (x8.N<=last)) then
         some true
        else
         some (decide (12<=x8.N))
       else
        some false
    else
     bif (decide (6<v103)) then
      bif (decide (x8.N<=last)) then
       some true
      else
       some (decide (12<=x8.N))
     else
      some false
   ):Option Bool).bind fun odd =>
    bif odd then
     some (.inr ([],(Av.mk x8.At 3)))
    else
     bif (decide (6<v103)) then
      (gnn x8.N (IntKind.i64.wrap (1*2 ^ min x8.N.toNat IntKind.i64.bits))).bind fun q =>
      Dl n x (IntKind.i64.wrap (v103+1)) x8.N (bits .or .i64 c2 q)
     else
      Dl n x (IntKind.i64.wrap (v103+1)) last c2
  else
   some (.inl c2)
def Ep:Nat->((List Ay)×Av)->(List Aj)->Int->Option ((List Aj) ⊕ ((List Aj)×Av))
 |0,_,_,_=>none
 |n+1,f,out1,v36 =>
  bif (decide (v36<(f.1.length:Int))) then
   (gi f.1 v36).bind fun x =>
   (HL n x).bind fun s =>
   bif (!s.2) then
    some (.inr ([],(Av.mk x.At 5)))
   else
    bif ((out1.length:Int) == 40) then
     some (.inr ([],(Av.mk x.At 2)))
    else
     (C6 n 0 0 f.2.At f.2.E x.Word x.Args x.Body x.At out1).bind fun c =>
     bif c then
      (gi x.Args 0).bind fun x1 =>
      some (.inr ([],(Av.mk x1.At 9)))
     else
      (gi x.Args 0).bind fun x2 =>
      (gi x.Args 1).bind fun x3 =>
      (gi x.Args 2).bind fun x4 =>
      (gi x.Args 3).bind fun x5 =>
      (gi x.Args 4).bind fun x6 =>
      (gi x.Args 5).bind fun x7 =>
      ((Dl n x 0 (-1) 0
      ):Option (Int ⊕ ((List Aj)×Av))).bind fun y1=>match y1 with
      |.inl c1 =>
       (FZ 0 0 f.2.At f.2.E x.Word x.Args x.Body x.At x2.S s.1 x3.N x4.N x5.E.Op x5.E.N x5.E.S x5.E.Kids x5.E.At x6.E.Op x6.E.N x6.E.S x6.E.Kids x6.E.At x7.E.Op x7.E.N x7.E.S x7.E.Kids x7.E.At c1).bind fun w =>
       ((Cv n x5 x6 x7 0
       ):Option (Unit ⊕ ((List Aj)×Av))).bind fun y2=>match y2 with
       |.inl _ =>
        (some [(Aj.mk x2.S s.1 x3.N x4.N x5.E x6.E x7.E c1)]).bind fun l =>
        (D7 241 out1 l).bind fun l1 =>
        Ep n f l1 (IntKind.i64.wrap (v36+1))
       |.inr o=>some (.inr o)
      |.inr o=>some (.inr o)
  else
   some (.inl out1)
def Ez (n:Nat)(src:ByteArray):Option ((List Aj)×Av) :=
 (IB n src).bind fun f =>
 bif (f.2.E != 0) then
  some ([],f.2)
 else
  (some ()).bind fun u =>
  ((Ep n f [] 0
  ):Option ((List Aj) ⊕ ((List Aj)×Av))).bind fun y=>match y with
  |.inl out =>
   some (out,(Av.mk 0 0))
  |.inr o=>some o
def Fj (c:Aj)(k:Int):Option Aa :=
 bif (k == 0) then
  some c.From
 else
  bif (k == 1) then
   some c.To
  else
   some c.When
mutual
def Ci:Nat->Aa->Int->Int->Option Int
 |0,_,_,_=>none
 |n+1,e,n_2,k =>
  ((bif (decide (k<(e.Kids.length:Int))) then
   some (decide (0<=n_2))
  else
   some false
  ):Option Bool).bind fun v16 =>
   bif v16 then
    (gi e.Kids k).bind fun x =>
    (B7 n x n_2).bind fun n_3 =>
    Ci n e n_3 (IntKind.i64.wrap (k+1))
   else
    some n_2
def B7:Nat->Aa->Int->Option Int
 |0,_,_=>none
 |n+1,e,n_ =>
  ((Ci n e (IntKind.i64.wrap (n_-1)) 0
  ):Option Int).bind fun n_1 =>
   some n_1
end
theorem FF (n:Nat)(e:Aa)(n_2:Int)(k:Int):Ci (n+1) e n_2 k =
 ((bif (decide (k<(e.Kids.length:Int))) then
  some (decide (0<=n_2))
 else
  some false
 ):Option Bool).bind fun v16 =>
  bif v16 then
   (gi e.Kids k).bind fun x =>
   (B7 n x n_2).bind fun n_3 =>
   Ci n e n_3 (IntKind.i64.wrap (k+1))
  else
   some n_2:=by rw [Ci]
theorem NQ (n:Nat)(e:Aa)(n_:Int):B7 (n+1) e n_ =
 ((Ci n e (IntKind.i64.wrap (n_-1)) 0
 ):Option Int).bind fun n_1 =>
  some n_1:=by rw [B7]
def B9:Nat->(List Aj)->Int->Int->Int->Option Int
 |0,_,_,_,_=>none
 |n+1,l,i,n_4,k =>
  ((bif (decide (k<3)) then
   some (decide (0<=n_4))
  else
   some false
  ):Option Bool).bind fun v25 =>
   bif v25 then
    (gi l i).bind fun x =>
    (Fj x k).bind fun p =>
    (B7 n p n_4).bind fun n_5 =>
    B9 n l i n_5 (IntKind.i64.wrap (k+1))
   else
    some n_4
theorem Gg (n:Nat)(l:(List Aj))(i:Int)(n_4:Int)(k:Int):B9 (n+1) l i n_4 k =
 ((bif (decide (k<3)) then
  some (decide (0<=n_4))
 else
  some false
 ):Option Bool).bind fun v25 =>
  bif v25 then
   (gi l i).bind fun x =>
   (Fj x k).bind fun p =>
   (B7 n p n_4).bind fun n_5 =>
   B9 n l i n_5 (IntKind.i64.wrap (k+1))
  else
   some n_4:=by rw [B9]
def Dd:Nat->(List Aj)->Int->Int->Option Int
 |0,_,_,_=>none
 |n+1,l,n_2,i =>
  ((bif (decide (i<(l.length:Int))) then
   some (decide (0<=n_2))
  else
   some false
  ):Option Bool).bind fun v17 =>
   bif v17 then
    ((B9 n l i n_2 0
    ):Option Int).bind fun n_3 =>
     Dd n l n_3 (IntKind.i64.wrap (i+1))
   else
    some n_2
theorem Gi (n:Nat)(l:(List Aj))(n_2:Int)(i:Int):Dd (n+1) l n_2 i =
 ((bif (decide (i<(l.length:Int))) then
  some (decide (0<=n_2))
 else
  some false
 ):Option Bool).bind fun v17 =>
  bif v17 then
   ((B9 n l i n_2 0
   ):Option Int).bind fun n_3 =>
    Dd n l n_3 (IntKind.i64.wrap (i+1))
  else
   some n_2:=by rw [Dd]
def IW (n:Nat)(l:(List Aj))(n_:Int):Option Bool :=
 bif (decide (50<(l.length:Int))) then
  some false
 else
  ((Dd n l n_ 0
  ):Option Int).bind fun n_1 =>
   some (decide (0<=n_1))
def C8 (op:Int):Option Int :=
 ((bif (decide (1<=op)) then
  some (decide (op<=3))
 else
  some false
 ):Option Bool).bind fun v8 =>
  bif v8 then
   some 0
  else
   bif (op == 4) then
    some (-1)
   else
    ((bif (op == 5) then
     some true
    else
     some (op == 6)
    ):Option Bool).bind fun v16 =>
     bif v16 then
      some 1
     else
      bif (op == 20) then
       some 3
      else
       some 2
def DC (name:ByteArray):Option Int :=
 bif (decide (name=⟨#[98,111,114,110]⟩)) then
  some 1
 else
  bif (decide (name=⟨#[100,105,101,100]⟩)) then
   some 2
  else
   bif (decide (name=⟨#[97,115,107,101,100]⟩)) then
    some 3
   else
    bif (decide (name=⟨#[104,101,108,100]⟩)) then
     some 4
    else
     bif (decide (name=⟨#[108,105,102,116,101,100]⟩)) then
      some 5
     else
      some 0
def CQ (name:ByteArray)(t:(List Int)):Option (Int×Int) :=
 (DC name).bind fun f =>
 ((bif (decide (0<f)) then
  some true
 else
  bif (decide (name=⟨#[100,97,121]⟩)) then
   some true
  else
   some (decide (name=⟨#[112,101,114,115,111,110]⟩))
 ):Option Bool).bind fun one =>
  ((bif (decide (name=⟨#[109,105,110]⟩)) then
   some true
  else
   some (decide (name=⟨#[109,97,120]⟩))
  ):Option Bool).bind fun two =>
   ((bif (!one) then
    some (!two)
   else
    some false
   ):Option Bool).bind fun v32 =>
    bif v32 then
     some (0,6)
    else
     ((bif one then
      bif ((t.length:Int) != 1) then
       some true
      else
       bif two then
        some ((t.length:Int) != 2)
       else
        some false
     else
      bif two then
       some ((t.length:Int) != 2)
      else
       some false
     ):Option Bool).bind fun v46 =>
      bif v46 then
       some (0,1)
      else
       ((bif (decide (0<f)) then
        (gi t 0).bind fun x4 =>
        bif (x4 == 4) then
         some true
        else
         bif (decide (name=⟨#[100,97,121]⟩)) then
          some (x4 == 1)
         else
          some false
       else
        bif (decide (name=⟨#[100,97,121]⟩)) then
         (gi t 0).bind fun x5 =>
         some (x5 == 1)
        else
         some false
       ):Option Bool).bind fun v63 =>
        bif v63 then
         some (2,0)
        else
         ((bif (decide (name=⟨#[112,101,114,115,111,110]⟩)) then
          (gi t 0).bind fun x3 =>
          some (x3 == 1)
         else
          some false
         ):Option Bool).bind fun v71 =>
          bif v71 then
           some (4,0)
          else
           ((bif two then
            (gi t 0).bind fun x1 =>
            (gi t 1).bind fun x2 =>
            bif (x1 == x2) then
             some (decide (x1<=2))
            else
             some false
           else
            some false
           ):Option Bool).bind fun v87 =>
            bif v87 then
             (gi t 0).bind fun x =>
             some (x,0)
            else
             some (0,7)
def Fu (op:Int)(t:(List Int)):Option Int :=
 ((bif (op == 6) then
  (gi t 0).bind fun x21 =>
  some (x21 == 1)
 else
  some false
 ):Option Bool).bind fun v17 =>
  bif v17 then
   some 1
  else
   ((bif (op == 5) then
    (gi t 0).bind fun x20 =>
    some (x20 == 3)
   else
    some false
   ):Option Bool).bind fun v25 =>
    bif v25 then
     some 3
    else
     ((bif (op == 20) then
      (gi t 0).bind fun x17 =>
      bif (x17 == 3) then
       (gi t 1).bind fun x18 =>
       (gi t 2).bind fun x19 =>
       some (x18 == x19)
      else
       some false
     else
      some false
     ):Option Bool).bind fun v42 =>
      bif v42 then
       (gi t 1).bind fun x =>
       some x
      else
       bif ((t.length:Int) != 2) then
        some 0
       else
        (((gi t 0).bind fun x15 =>
        bif (x15 == 1) then
         (gi t 1).bind fun x16 =>
         some (x16 == 1)
        else
         some false
        ):Option Bool).bind fun numbers =>
         (((gi t 0).bind fun x13 =>
         bif (x13 == 2) then
          (gi t 1).bind fun x14 =>
          some (x14 == 2)
         else
          some false
         ):Option Bool).bind fun days =>
          ((bif (op == 7) then
           some numbers
          else
           bif (op == 10) then
            some numbers
           else
            bif (op == 11) then
             some numbers
            else
             some false
          ):Option Bool).bind fun v80 =>
           bif v80 then
            some 1
           else
            ((bif (op == 10) then
             (gi t 0).bind fun x9 =>
             bif (x9 == 2) then
              (gi t 1).bind fun x10 =>
              some (x10 == 1)
             else
              some false
            else
             bif (op == 11) then
              (gi t 0).bind fun x11 =>
              bif (x11 == 2) then
               (gi t 1).bind fun x12 =>
               some (x12 == 1)
              else
               some false
             else
              some false
            ):Option Bool).bind fun v98 =>
             bif v98 then
              some 2
             else
              ((bif (op == 11) then
               some days
              else
               some false
              ):Option Bool).bind fun v103 =>
               bif v103 then
                some 1
               else
                ((bif (decide (14<=op)) then
                 bif (decide (op<=17)) then
                  bif numbers then
                   some true
                  else
                   some days
                 else
                  some false
                else
                 some false
                ):Option Bool).bind fun v115 =>
                 bif v115 then
                  some 3
                 else
                  ((bif (op == 12) then
                   bif numbers then
                    some true
                   else
                    bif days then
                     some true
                    else
                     (gi t 0).bind fun x5 =>
                     bif (x5 == 4) then
                      (gi t 1).bind fun x6 =>
                      some (x6 == 4)
                     else
                      some false
                  else
                   bif (op == 13) then
                    bif numbers then
                     some true
                    else
                     bif days then
                      some true
                     else
                      (gi t 0).bind fun x7 =>
                      bif (x7 == 4) then
                       (gi t 1).bind fun x8 =>
                       some (x8 == 4)
                      else
                       some false
                   else
                    some false
                  ):Option Bool).bind fun v139 =>
                   bif v139 then
                    some 3
                   else
                    ((bif (op == 18) then
                     (gi t 0).bind fun x1 =>
                     bif (x1 == 3) then
                      (gi t 1).bind fun x2 =>
                      some (x2 == 3)
                     else
                      some false
                    else
                     bif (op == 19) then
                      (gi t 0).bind fun x3 =>
                      bif (x3 == 3) then
                       (gi t 1).bind fun x4 =>
                       some (x4 == 3)
                      else
                       some false
                     else
                      some false
                    ):Option Bool).bind fun v157 =>
                     bif v157 then
                      some 3
                     else
                      some 0
mutual
def Cj:Nat->Aa->(List Int)->Int->Option ((List Int) ⊕ BI)
 |0,_,_,_=>none
 |n+1,e,t1,k =>
  bif (decide (k<(e.Kids.length:Int))) then
   (gi e.Kids k).bind fun x =>
   (AT n x).bind fun x1 =>
   bif (x1.P.E != 0) then
    some (.inr x1)
   else
    (some [x1.T]).bind fun l =>
    (D7 9 t1 l).bind fun l1 =>
    Cj n e l1 (IntKind.i64.wrap (k+1))
  else
   some (.inl t1)
def AT:Nat->Aa->Option BI
 |0,_=>none
 |n+1,e =>
  (C8 e.Op).bind fun n_ =>
  ((bif (decide (e.Op<1)) then
   some true
  else
   bif (decide (20<e.Op)) then
    some true
   else
    bif (decide (0<=n_)) then
     some ((e.Kids.length:Int) != n_)
    else
     some false
  ):Option Bool).bind fun v32 =>
   bif v32 then
    some (BI.mk 0 (Av.mk e.At 1))
   else
    ((Cj n e [] 0
    ):Option ((List Int) ⊕ BI)).bind fun y1=>match y1 with
    |.inl t =>
     ((bif (e.Op == 1) then
      ((bif (decide (e.N<0)) then
       some true
      else
       some (decide (999999999999999<e.N))
      ):Option Bool).bind fun v75 =>
       bif v75 then
        some (0,1)
       else
        some (1,7)
     else
      bif (e.Op == 2) then
       some (0,7)
      else
       bif (e.Op == 3) then
        bif (decide (e.S=⟨#[121,101,97,114]⟩)) then
         some (1,7)
        else
         ((bif (decide (e.S=⟨#[115,116,111,114,101,100]⟩)) then
          some (decide (e.S=⟨#[115,116,111,114,101,100]⟩))
         else
          some (decide (e.S=⟨#[110,101,118,101,114]⟩))
         ):Option Bool).bind fun v84 =>
          bif v84 then
           some (2,7)
          else
           bif (decide (e.S=⟨#[111,119,110,101,114]⟩)) then
            some (4,7)
           else
            some (0,6)
       else
        bif (e.Op == 4) then
         (CQ e.S t).bind fun c =>
         some (c.1,c.2)
        else
         (Fu e.Op t).bind fun out1 =>
         some (out1,7)
     ):Option (Int×Int)).bind fun y2=>match y2 with
     |(out,err) =>
      bif (out == 0) then
       some (BI.mk 0 (Av.mk e.At err))
      else
       some (BI.mk out (Av.mk 0 0))
    |.inr o=>some o
end
theorem Ic (n:Nat)(e:Aa)(t1:(List Int))(k:Int):Cj (n+1) e t1 k =
 bif (decide (k<(e.Kids.length:Int))) then
  (gi e.Kids k).bind fun x =>
  (AT n x).bind fun x1 =>
  bif (x1.P.E != 0) then
   some (.inr x1)
  else
   (some [x1.T]).bind fun l =>
   (D7 9 t1 l).bind fun l1 =>
   Cj n e l1 (IntKind.i64.wrap (k+1))
 else
  some (.inl t1):=by rw [Cj]
theorem NR (n:Nat)(e:Aa):AT (n+1) e =
 (C8 e.Op).bind fun n_ =>
 ((bif (decide (e.Op<1)) then
  some true
 else
  bif (decide (20<e.Op)) then
   some true
  else
   bif (decide (0<=n_)) then
    some ((e.Kids.length:Int) != n_)
   else
    some false
 ):Option Bool).bind fun v32 =>
  bif v32 then
   some (BI.mk 0 (Av.mk e.At 1))
  else
   ((Cj n e [] 0
   ):Option ((List Int) ⊕ BI)).bind fun y1=>match y1 with
   |.inl t =>
    ((bif (e.Op == 1) then
     ((bif (decide (e.N<0)) then
      some true
     else
      some (decide (999999999999999<e.N))
     ):Option Bool).bind fun v75 =>
      bif v75 then
       some (0,1)
      else
       some (1,7)
    else
     bif (e.Op == 2) then
      some (0,7)
     else
      bif (e.Op == 3) then
       bif (decide (e.S=⟨#[121,101,97,114]⟩)) then
        some (1,7)
       else
        ((bif (decide (e.S=⟨#[115,116,111,114,101,100]⟩)) then
         some (decide (e.S=⟨#[115,116,111,114,101,100]⟩))
        else
         some (decide (e.S=⟨#[110,101,118,101,114]⟩))
        ):Option Bool).bind fun v84 =>
         bif v84 then
          some (2,7)
         else
          bif (decide (e.S=⟨#[111,119,110,101,114]⟩)) then
           some (4,7)
          else
           some (0,6)
      else
       bif (e.Op == 4) then
        (CQ e.S t).bind fun c =>
        some (c.1,c.2)
       else
        (Fu e.Op t).bind fun out1 =>
        some (out1,7)
    ):Option (Int×Int)).bind fun y2=>match y2 with
    |(out,err) =>
     bif (out == 0) then
      some (BI.mk 0 (Av.mk e.At err))
     else
      some (BI.mk out (Av.mk 0 0))
   |.inr o=>some o:=by rw [AT]
def C9:Nat->Au->Int->Option (Unit ⊕ Int)
 |0,_,_=>none
 |n+1,d,k =>
  bif (decide (k<(d.Facts.length:Int))) then
   (gi d.Facts k).bind fun x =>
   ((bif (decide (x.Kind<1)) then
    some true
   else
    bif (decide (5<x.Kind)) then
     some true
    else
     bif (decide (x.Who<1)) then
      some true
     else
      bif (decide (1000<x.Who)) then
       some true
      else
       bif (decide (x.Day<0)) then
        some true
       else
        bif (decide (41666<x.Day)) then
         some true
        else
         bif (decide (x.Known<0)) then
          some true
         else
          some (decide (41666<x.Known))
   ):Option Bool).bind fun v60 =>
    bif v60 then
     some (.inr 1)
    else
     C9 n d (IntKind.i64.wrap (k+1))
  else
   some (.inl ())
theorem Lk (n:Nat)(d:Au)(k:Int):C9 (n+1) d k =
 bif (decide (k<(d.Facts.length:Int))) then
  (gi d.Facts k).bind fun x =>
  ((bif (decide (x.Kind<1)) then
   some true
  else
   bif (decide (5<x.Kind)) then
    some true
   else
    bif (decide (x.Who<1)) then
     some true
    else
     bif (decide (1000<x.Who)) then
      some true
     else
      bif (decide (x.Day<0)) then
       some true
      else
       bif (decide (41666<x.Day)) then
        some true
       else
        bif (decide (x.Known<0)) then
         some true
        else
         some (decide (41666<x.Known))
  ):Option Bool).bind fun v60 =>
   bif v60 then
    some (.inr 1)
   else
    C9 n d (IntKind.i64.wrap (k+1))
 else
  some (.inl ()):=by rw [C9]
def Ej (n:Nat)(d:Au)(known:Int):Option Int :=
 bif (decide (200<(d.Facts.length:Int))) then
  some 2
 else
  ((C9 n d 0
  ):Option (Unit ⊕ Int)).bind fun y=>match y with
  |.inl _ =>
   ((bif (decide (d.Stored<0)) then
    some true
   else
    bif (decide (41666<d.Stored)) then
     some true
    else
     bif (decide (known<0)) then
      some true
     else
      bif (decide (41666<known)) then
       some true
      else
       bif (decide (d.Owner<0)) then
        some true
       else
        some (decide (1000<d.Owner))
   ):Option Bool).bind fun v86 =>
    bif v86 then
     some 1
    else
     some 0
  |.inr o=>some o
def B4:Nat->Au->Int->Int->Int->Int->Int->Int->Option Int
 |0,_,_,_,_,_,_,_=>none
 |n+1,d,kind,who,known,out1,best,k =>
  bif (decide (k<(d.Facts.length:Int))) then
   (gi d.Facts k).bind fun x =>
   ((bif (x.Kind == kind) then
    bif (x.Who == who) then
     bif (decide (x.Known<=known)) then
      some (decide (best<=x.Known))
     else
      some false
    else
     some false
   else
    some false
   ):Option Bool).bind fun v46 =>
    bif v46 then
     B4 n d kind who known x.Day x.Known (IntKind.i64.wrap (k+1))
    else
     B4 n d kind who known out1 best (IntKind.i64.wrap (k+1))
  else
   some out1
theorem Ig (n:Nat)(d:Au)(kind:Int)(who:Int)(known:Int)(out1:Int)(best:Int)(k:Int):B4 (n+1) d kind who known out1 best k =
 bif (decide (k<(d.Facts.length:Int))) then
  (gi d.Facts k).bind fun x =>
  ((bif (x.Kind == kind) then
   bif (x.Who == who) then
    bif (decide (x.Known<=known)) then
     some (decide (best<=x.Known))
    else
     some false
   else
    some false
  else
   some false
  ):Option Bool).bind fun v46 =>
   bif v46 then
    B4 n d kind who known x.Day x.Known (IntKind.i64.wrap (k+1))
   else
    B4 n d kind who known out1 best (IntKind.i64.wrap (k+1))
 else
  some out1:=by rw [B4]
def CR (n:Nat)(d:Au)(known:Int)(kind:Int)(who:Int):Option Int :=
 ((B4 n d kind who known 41667 (-1) 0
 ):Option Int).bind fun out =>
  some out
def Dg (a_:Int)(b:Int):Option Int :=
 ((bif (a_ == 0) then
  some true
 else
  some (b == 0)
 ):Option Bool).bind fun v14 =>
  bif v14 then
   some 0
  else
   (ZO (if (IntKind.i64.wrap (0-b)) > b then (IntKind.i64.wrap (0-b)) else b) (IntKind.i64.wrap ((999999999999999:Int).tdiv (if (IntKind.i64.wrap (0-b)) > b then (IntKind.i64.wrap (0-b)) else b)))).bind fun q =>
   ((bif (decide ((if (IntKind.i64.wrap (0-a_)) > a_ then (IntKind.i64.wrap (0-a_)) else a_)<=q)) then
    some (IntKind.i64.wrap ((if (IntKind.i64.wrap (0-a_)) > a_ then (IntKind.i64.wrap (0-a_)) else a_)*(if (IntKind.i64.wrap (0-b)) > b then (IntKind.i64.wrap (0-b)) else b)))
   else
    some 999999999999999
   ):Option Int).bind fun n_ =>
    ((bif (decide (a_<0)) then
     bif (decide (0<b)) then
      some true
     else
      bif (decide (0<a_)) then
       some (decide (b<0))
      else
       some false
    else
     bif (decide (0<a_)) then
      some (decide (b<0))
     else
      some false
    ):Option Bool).bind fun v45 =>
     bif v45 then
      some (IntKind.i64.wrap (0-n_))
     else
      some n_
def DB (d:Int)(n_:Int):Option Int :=
 bif (d == 41667) then
  some d
 else
  some (if (if 41667<(IntKind.i64.wrap (d+n_)) then 41667 else (IntKind.i64.wrap (d+n_))) > 0 then (if 41667<(IntKind.i64.wrap (d+n_)) then 41667 else (IntKind.i64.wrap (d+n_))) else 0)
def C4 (n_:Int):Option Int :=
 some (if (if 999999999999999<n_ then 999999999999999 else n_) > (-999999999999999) then (if 999999999999999<n_ then 999999999999999 else n_) else (-999999999999999))
def BH (is_:Bool):Option Int :=
 bif is_ then
  some 1
 else
  some 0
def F6 (op:Int)(a_:Int)(b:Int):Option Int :=
 bif (op == 12) then
  (BH (a_ == b)).bind fun t =>
  some t
 else
  bif (op == 13) then
   (BH (a_ != b)).bind fun t1 =>
   some t1
  else
   bif (op == 14) then
    (BH (decide (a_<b))).bind fun t2 =>
    some t2
   else
    bif (op == 15) then
     (BH (decide (a_<=b))).bind fun t3 =>
     some t3
    else
     bif (op == 16) then
      (BH (decide (b<a_))).bind fun t4 =>
      some t4
     else
      (BH (decide (b<=a_))).bind fun t5 =>
      some t5
mutual
def BV:Nat->Aa->Au->Int->(List Int)->Int->Option (List Int)
 |0,_,_,_,_,_=>none
 |n+1,e,d,known,x26,k =>
  bif (decide (k<(e.Kids.length:Int))) then
   (gi e.Kids k).bind fun x27 =>
   (Bo n x27 d known).bind fun e5 =>
   (some [e5]).bind fun l1 =>
   (D7 9 x26 l1).bind fun l2 =>
   BV n e d known l2 (IntKind.i64.wrap (k+1))
  else
   some x26
def Bo:Nat->Aa->Au->Int->Option Int
 |0,_,_,_=>none
 |n+1,e,d,known =>
  ((BV n e d known [] 0
  ):Option (List Int)).bind fun x =>
   bif (e.Op == 1) then
    some e.N
   else
    bif (e.Op == 3) then
     bif (decide (e.S=⟨#[121,101,97,114]⟩)) then
      some 365
     else
      bif (decide (e.S=⟨#[115,116,111,114,101,100]⟩)) then
       some d.Stored
      else
       bif (decide (e.S=⟨#[111,119,110,101,114]⟩)) then
        some d.Owner
       else
        some 41667
    else
     bif (e.Op == 4) then
      bif (decide (e.S=⟨#[100,97,121]⟩)) then
       (gi x 0).bind fun x1 =>
       some (if (if 41667<x1 then 41667 else x1) > 0 then (if 41667<x1 then 41667 else x1) else 0)
      else
       bif (decide (e.S=⟨#[112,101,114,115,111,110]⟩)) then
        (gi x 0).bind fun x2 =>
        some (if (if 1000<x2 then 1000 else x2) > 0 then (if 1000<x2 then 1000 else x2) else 0)
       else
        bif (decide (e.S=⟨#[109,105,110]⟩)) then
         (gi x 0).bind fun x3 =>
         (gi x 1).bind fun x4 =>
         some (if x4<x3 then x4 else x3)
        else
         bif (decide (e.S=⟨#[109,97,120]⟩)) then
          (gi x 0).bind fun x5 =>
          (gi x 1).bind fun x6 =>
          some (if x6 > x5 then x6 else x5)
         else
          (gi x 0).bind fun x7 =>
          (DC e.S).bind fun f =>
          (CR n d known f x7).bind fun l =>
          some l
     else
      bif (e.Op == 5) then
       (gi x 0).bind fun x8 =>
       some (IntKind.i64.wrap (1-x8))
      else
       bif (e.Op == 6) then
        (gi x 0).bind fun x9 =>
        some (IntKind.i64.wrap (0-x9))
       else
        bif (e.Op == 7) then
         (gi x 0).bind fun x10 =>
         (gi x 1).bind fun x11 =>
         (Dg x10 x11).bind fun p =>
         some p
        else
         ((bif (e.Op == 10) then
          some (e.Op == 10)
         else
          some (e.Op == 11)
         ):Option Bool).bind fun v116 =>
          bif v116 then
           (gi x 1).bind fun x12 =>
           ((bif (e.Op == 11) then
            some (IntKind.i64.wrap (0-x12))
           else
            some x12
           ):Option Int).bind fun n_ =>
            (gi e.Kids 0).bind fun x13 =>
            (AT n x13).bind fun left =>
            (gi e.Kids 1).bind fun x14 =>
            (AT n x14).bind fun right =>
            ((bif (left.T == 2) then
             some (right.T == 1)
            else
             some false
            ):Option Bool).bind fun v144 =>
             bif v144 then
              (gi x 0).bind fun x15 =>
              (DB x15 n_).bind fun m_ =>
              some m_
             else
              (gi x 0).bind fun x16 =>
              (C4 (IntKind.i64.wrap (x16+n_))).bind fun n_1 =>
              some n_1
          else
           bif (e.Op == 18) then
            (gi x 0).bind fun x17 =>
            (gi x 1).bind fun x18 =>
            some (IntKind.i64.wrap (x17*x18))
           else
            bif (e.Op == 19) then
             (gi x 0).bind fun x19 =>
             (gi x 1).bind fun x20 =>
             some (if x20 > x19 then x20 else x19)
            else
             bif (e.Op == 20) then
              (gi x 0).bind fun x21 =>
              bif (x21 == 1) then
               (gi x 1).bind fun x22 =>
               some x22
              else
               (gi x 2).bind fun x23 =>
               some x23
             else
              (gi x 0).bind fun x24 =>
              (gi x 1).bind fun x25 =>
              (F6 e.Op x24 x25).bind fun c =>
              some c
end
theorem Ih (n:Nat)(e:Aa)(d:Au)(known:Int)(x26:(List Int))(k:Int):BV (n+1) e d known x26 k =
 bif (decide (k<(e.Kids.length:Int))) then
  (gi e.Kids k).bind fun x27 =>
  (Bo n x27 d known).bind fun e5 =>
  (some [e5]).bind fun l1 =>
  (D7 9 x26 l1).bind fun l2 =>
  BV n e d known l2 (IntKind.i64.wrap (k+1))
 else
  some x26:=by rw [BV]
theorem NS (n:Nat)(e:Aa)(d:Au)(known:Int):Bo (n+1) e d known =
 ((BV n e d known [] 0
 ):Option (List Int)).bind fun x =>
  bif (e.Op == 1) then
   some e.N
  else
   bif (e.Op == 3) then
    bif (decide (e.S=⟨#[121,101,97,114]⟩)) then
     some 365
    else
     bif (decide (e.S=⟨#[115,116,111,114,101,100]⟩)) then
      some d.Stored
     else
      bif (decide (e.S=⟨#[111,119,110,101,114]⟩)) then
       some d.Owner
      else
       some 41667
   else
    bif (e.Op == 4) then
     bif (decide (e.S=⟨#[100,97,121]⟩)) then
      (gi x 0).bind fun x1 =>
      some (if (if 41667<x1 then 41667 else x1) > 0 then (if 41667<x1 then 41667 else x1) else 0)
     else
      bif (decide (e.S=⟨#[112,101,114,115,111,110]⟩)) then
       (gi x 0).bind fun x2 =>
       some (if (if 1000<x2 then 1000 else x2) > 0 then (if 1000<x2 then 1000 else x2) else 0)
      else
       bif (decide (e.S=⟨#[109,105,110]⟩)) then
        (gi x 0).bind fun x3 =>
        (gi x 1).bind fun x4 =>
        some (if x4<x3 then x4 else x3)
       else
        bif (decide (e.S=⟨#[109,97,120]⟩)) then
         (gi x 0).bind fun x5 =>
         (gi x 1).bind fun x6 =>
         some (if x6 > x5 then x6 else x5)
        else
         (gi x 0).bind fun x7 =>
         (DC e.S).bind fun f =>
         (CR n d known f x7).bind fun l =>
         some l
    else
     bif (e.Op == 5) then
      (gi x 0).bind fun x8 =>
      some (IntKind.i64.wrap (1-x8))
     else
      bif (e.Op == 6) then
       (gi x 0).bind fun x9 =>
       some (IntKind.i64.wrap (0-x9))
      else
       bif (e.Op == 7) then
        (gi x 0).bind fun x10 =>
        (gi x 1).bind fun x11 =>
        (Dg x10 x11).bind fun p =>
        some p
       else
        ((bif (e.Op == 10) then
         some (e.Op == 10)
        else
         some (e.Op == 11)
        ):Option Bool).bind fun v116 =>
         bif v116 then
          (gi x 1).bind fun x12 =>
          ((bif (e.Op == 11) then
           some (IntKind.i64.wrap (0-x12))
          else
           some x12
          ):Option Int).bind fun n_ =>
           (gi e.Kids 0).bind fun x13 =>
           (AT n x13).bind fun left =>
           (gi e.Kids 1).bind fun x14 =>
           (AT n x14).bind fun right =>
           ((bif (left.T == 2) then
            some (right.T == 1)
           else
            some false
           ):Option Bool).bind fun v144 =>
            bif v144 then
             (gi x 0).bind fun x15 =>
             (DB x15 n_).bind fun m_ =>
             some m_
            else
             (gi x 0).bind fun x16 =>
             (C4 (IntKind.i64.wrap (x16+n_))).bind fun n_1 =>
             some n_1
         else
          bif (e.Op == 18) then
           (gi x 0).bind fun x17 =>
           (gi x 1).bind fun x18 =>
           some (IntKind.i64.wrap (x17*x18))
          else
           bif (e.Op == 19) then
            (gi x 0).bind fun x19 =>
            (gi x 1).bind fun x20 =>
            some (if x20 > x19 then x20 else x19)
           else
            bif (e.Op == 20) then
             (gi x 0).bind fun x21 =>
             bif (x21 == 1) then
              (gi x 1).bind fun x22 =>
              some x22
             else
              (gi x 2).bind fun x23 =>
              some x23
            else
             (gi x 0).bind fun x24 =>
             (gi x 1).bind fun x25 =>
             (F6 e.Op x24 x25).bind fun c =>
             some c:=by rw [Bo]
def FR (n:Nat)(e:Aa)(d:Au)(known:Int):Option Gf :=
 (AT n (Aa.mk e.Op e.N e.S e.Kids e.At)).bind fun t =>
 bif (t.P.E != 0) then
  some (Gf.mk 0 t.P.E)
 else
  (Ej n d known).bind fun x =>
  bif (x != 0) then
   some (Gf.mk 0 x)
  else
   (Bo n (Aa.mk e.Op e.N e.S e.Kids e.At) d known).bind fun e1 =>
   some (Gf.mk e1 0)
def BM:Nat->ByteArray->Int->Option (Unit ⊕ Bool)
 |0,_,_=>none
 |n+1,s,k =>
  bif (decide (k<(s.size:Int))) then
   (gb s k).bind fun c =>
   ((bif (decide (97<=c)) then
    bif (decide (c<=122)) then
     some true
    else
     bif (decide (65<=c)) then
      bif (decide (c<=90)) then
       some true
      else
       some (c == 95)
     else
      some (c == 95)
   else
    bif (decide (65<=c)) then
     bif (decide (c<=90)) then
      some true
     else
      some (c == 95)
    else
     some (c == 95)
   ):Option Bool).bind fun letter =>
    ((bif (!letter) then
     bif (k == 0) then
      some true
     else
      bif (decide (c<48)) then
       some true
      else
       some (decide (57<c))
    else
     some false
    ):Option Bool).bind fun v54 =>
     bif v54 then
      some (.inr false)
     else
      BM n s (IntKind.i64.wrap (k+1))
  else
   some (.inl ())
theorem Ha (n:Nat)(s:ByteArray)(k:Int):BM (n+1) s k =
 bif (decide (k<(s.size:Int))) then
  (gb s k).bind fun c =>
  ((bif (decide (97<=c)) then
   bif (decide (c<=122)) then
    some true
   else
    bif (decide (65<=c)) then
     bif (decide (c<=90)) then
      some true
     else
      some (c == 95)
    else
     some (c == 95)
  else
   bif (decide (65<=c)) then
    bif (decide (c<=90)) then
     some true
    else
     some (c == 95)
   else
    some (c == 95)
  ):Option Bool).bind fun letter =>
   ((bif (!letter) then
    bif (k == 0) then
     some true
    else
     bif (decide (c<48)) then
      some true
     else
      some (decide (57<c))
   else
    some false
   ):Option Bool).bind fun v54 =>
    bif v54 then
     some (.inr false)
    else
     BM n s (IntKind.i64.wrap (k+1))
 else
  some (.inl ()):=by rw [BM]
def Fv (n:Nat)(s:ByteArray):Option Bool :=
 ((bif (decide ((s.size:Int)<1)) then
  some true
 else
  some (decide (32<(s.size:Int)))
 ):Option Bool).bind fun v13 =>
  bif v13 then
   some false
  else
   ((BM n s 0
   ):Option (Unit ⊕ Bool)).bind fun y1=>match y1 with
   |.inl _ =>
    some true
   |.inr o=>some o
def BU:Nat->(List Aj)->ByteArray->Int->Option (Unit ⊕ Bool)
 |0,_,_,_=>none
 |n+1,l,s,k =>
  bif (decide (k<(l.length:Int))) then
   (gi l k).bind fun x =>
   bif (decide (x.Name=s)) then
    some (.inr true)
   else
    BU n l s (IntKind.i64.wrap (k+1))
  else
   some (.inl ())
theorem Hr (n:Nat)(l:(List Aj))(s:ByteArray)(k:Int):BU (n+1) l s k =
 bif (decide (k<(l.length:Int))) then
  (gi l k).bind fun x =>
  bif (decide (x.Name=s)) then
   some (.inr true)
  else
   BU n l s (IntKind.i64.wrap (k+1))
 else
  some (.inl ()):=by rw [BU]
def FQ (n:Nat)(l:(List Aj))(s:ByteArray):Option Bool :=
 ((BU n l s 0
 ):Option (Unit ⊕ Bool)).bind fun y=>match y with
 |.inl _ =>
  some false
 |.inr o=>some o
def Bp:Nat->Aj->Int->Option (Unit ⊕ Int)
 |0,_,_=>none
 |n+1,x,k =>
  bif (decide (k<3)) then
   (Fj x k).bind fun p =>
   (AT n p).bind fun t =>
   bif (t.P.E != 0) then
    some (.inr t.P.E)
   else
    ((bif (decide (k<2)) then
     bif (t.T != 2) then
      some true
     else
      bif (k == 2) then
       some (t.T != 3)
      else
       some false
    else
     bif (k == 2) then
      some (t.T != 3)
     else
      some false
    ):Option Bool).bind fun v115 =>
     bif v115 then
      some (.inr 7)
     else
      Bp n x (IntKind.i64.wrap (k+1))
  else
   some (.inl ())
theorem Hs (n:Nat)(x:Aj)(k:Int):Bp (n+1) x k =
 bif (decide (k<3)) then
  (Fj x k).bind fun p =>
  (AT n p).bind fun t =>
  bif (t.P.E != 0) then
   some (.inr t.P.E)
  else
   ((bif (decide (k<2)) then
    bif (t.T != 2) then
     some true
    else
     bif (k == 2) then
      some (t.T != 3)
     else
      some false
   else
    bif (k == 2) then
     some (t.T != 3)
    else
     some false
   ):Option Bool).bind fun v115 =>
    bif v115 then
     some (.inr 7)
    else
     Bp n x (IntKind.i64.wrap (k+1))
 else
  some (.inl ()):=by rw [Bp]
def CA:Nat->(List Aj)->Int->Option (Unit ⊕ Int)
 |0,_,_=>none
 |n+1,l,i =>
  bif (decide (i<(l.length:Int))) then
   (gi l i).bind fun x =>
   (Fv n x.Name).bind fun name =>
   bif (!name) then
    some (.inr 6)
   else
    (VM l 0 i).bind fun l1 =>
    (FQ n l1 x.Name).bind fun again =>
    bif again then
     some (.inr 9)
    else
     ((bif (decide (x.Kind<1)) then
      some true
     else
      some (decide (3<x.Kind))
     ):Option Bool).bind fun v41 =>
      bif v41 then
       some (.inr 1)
      else
       ((bif (decide (x.Rank<0)) then
        some true
       else
        bif (decide (9<x.Rank)) then
         some true
        else
         bif (decide (x.Known<0)) then
          some true
         else
          bif (decide (41666<x.Known)) then
           some true
          else
           bif (decide (x.Kind<3)) then
            bif (x.Houses != 0) then
             some true
            else
             bif (x.Kind == 3) then
              bif (decide (x.Houses<1)) then
               some true
              else
               some (decide (4095<x.Houses))
             else
              some false
           else
            bif (x.Kind == 3) then
             bif (decide (x.Houses<1)) then
              some true
             else
              some (decide (4095<x.Houses))
            else
             some false
       ):Option Bool).bind fun v84 =>
        bif v84 then
         some (.inr 3)
        else
         ((Bp n x 0
         ):Option (Unit ⊕ Int)).bind fun y3=>match y3 with
         |.inl _ =>
          CA n l (IntKind.i64.wrap (i+1))
         |.inr o=>some (.inr o)
  else
   some (.inl ())
theorem Ht (n:Nat)(l:(List Aj))(i:Int):CA (n+1) l i =
 bif (decide (i<(l.length:Int))) then
  (gi l i).bind fun x =>
  (Fv n x.Name).bind fun name =>
  bif (!name) then
   some (.inr 6)
  else
   (VM l 0 i).bind fun l1 =>
   (FQ n l1 x.Name).bind fun again =>
   bif again then
    some (.inr 9)
   else
    ((bif (decide (x.Kind<1)) then
     some true
    else
     some (decide (3<x.Kind))
    ):Option Bool).bind fun v41 =>
     bif v41 then
      some (.inr 1)
     else
      ((bif (decide (x.Rank<0)) then
       some true
      else
       bif (decide (9<x.Rank)) then
        some true
       else
        bif (decide (x.Known<0)) then
         some true
        else
         bif (decide (41666<x.Known)) then
          some true
         else
          bif (decide (x.Kind<3)) then
           bif (x.Houses != 0) then
            some true
           else
            bif (x.Kind == 3) then
             bif (decide (x.Houses<1)) then
              some true
             else
              some (decide (4095<x.Houses))
            else
             some false
          else
           bif (x.Kind == 3) then
            bif (decide (x.Houses<1)) then
             some true
            else
             some (decide (4095<x.Houses))
           else
            some false
      ):Option Bool).bind fun v84 =>
       bif v84 then
        some (.inr 3)
       else
        ((Bp n x 0
        ):Option (Unit ⊕ Int)).bind fun y3=>match y3 with
        |.inl _ =>
         CA n l (IntKind.i64.wrap (i+1))
        |.inr o=>some (.inr o)
 else
  some (.inl ()):=by rw [CA]
def Hb (n:Nat)(l:(List Aj)):Option Int :=
 bif (decide (40<(l.length:Int))) then
  some 2
 else
  ((CA n l 0
  ):Option (Unit ⊕ Int)).bind fun y=>match y with
  |.inl _ =>
   some 0
  |.inr o=>some o
def Ie (n:Nat)(c:Aj)(d:Au)(known:Int):Option F7 :=
 (some [c]).bind fun l =>
 (Hb n l).bind fun e =>
 bif (e != 0) then
  some (F7.mk 0 0 false e)
 else
  (Ej n d known).bind fun e1 =>
  bif (e1 != 0) then
   some (F7.mk 0 0 false e1)
  else
   (((Bo n c.From d known).bind fun e3 =>
   (Bo n c.To d known).bind fun e4 =>
   bif (decide (c.Known<=known)) then
    (Bo n c.When d known).bind fun e5 =>
    some (e3,e4,(e5 == 1))
   else
    some (e3,e4,false)
   ):Option (Int×Int×Bool)).bind fun y=>match y with
   |(q,q1,q2) =>
    some (F7.mk q q1 q2 0)
def GO:Nat->(List Aj)->(List Aj)->Bool->Int->Option (Unit ⊕ Bool)
 |0,_,_,_,_=>none
 |n+1,a_,b,offsets,k =>
  bif (decide (k<(a_.length:Int))) then
   (gi a_ k).bind fun x =>
   (gi b k).bind fun x1 =>
   (BJ n x.From x1.From offsets).bind fun from_ =>
   (BJ n x.To x1.To offsets).bind fun to =>
   (BJ n x.When x1.When offsets).bind fun when =>
   ((bif (!from_) then
    some true
   else
    bif (!to) then
     some true
    else
     bif (!when) then
      some true
     else
      bif (!decide (x.Name=x1.Name)) then
       some true
      else
       bif (x.Kind != x1.Kind) then
        some true
       else
        bif (x.Rank != x1.Rank) then
         some true
        else
         bif (x.Known != x1.Known) then
          some true
         else
          some (x.Houses != x1.Houses)
   ):Option Bool).bind fun v94 =>
    bif v94 then
     some (.inr false)
    else
     GO n a_ b offsets (IntKind.i64.wrap (k+1))
  else
   some (.inl ())
def LD (n:Nat)(a_:(List Aj))(b:(List Aj))(offsets:Bool):Option Bool :=
 bif ((a_.length:Int) != (b.length:Int)) then
  some false
 else
  ((GO n a_ b offsets 0
  ):Option (Unit ⊕ Bool)).bind fun y=>match y with
  |.inl _ =>
   some true
  |.inr o=>some o
def J6:Option ByteArray :=
 some ⟨#[107,101,101,112,32,116,97,120,32,50,32,48,32,40,115,116,111,114,101,100,41,32,40,115,116,111,114,101,100,32,43,32,55,32,42,32,121,101,97,114,41,32,40,98,111,114,110,40,111,119,110,101,114,41,32,60,32,110,101,118,101,114,41,59,32,112,108,97,99,101,32,104,111,109,101,32,49,32,51,32,40,100,97,121,40,48,41,41,32,40,110,101,118,101,114,41,32,40,111,119,110,101,114,32,33,61,32,112,101,114,115,111,110,40,48,41,41,32,45,62,32,48,32,50,59]⟩
def Io (s:ByteArray):Option Aa :=
 some (Aa.mk 3 0 s [] 0)
def Gp (n_:Int):Option Aa :=
 some (Aa.mk 1 n_ ⟨#[]⟩ [] 0)
def IY (op:Int)(a_:Aa)(b:Aa):Option Aa :=
 (some [a_,b]).bind fun l =>
 some (Aa.mk op 0 ⟨#[]⟩ l 0)
def IC (n:Nat)(src:ByteArray)(at_:Int)(e:Int):Option Bool :=
 (Ez n src).bind fun c =>
 ((bif ((c.1.length:Int) == 0) then
  some ((c.2.At == at_)&&((c.2.E == e)&&true))
 else
  some false
 ):Option Bool).bind fun v6 =>
  some v6
def J7 (n:Nat):Option Bool :=
 (J6).bind fun s =>
 (Ez n s).bind fun c =>
 ((bif (!((c.2.At == 0)&&((c.2.E == 0)&&true))) then
  some true
 else
  bif ((c.1.length:Int) != 2) then
   some true
  else
   (DO n c.1).bind fun c2 =>
   some (c2 != 0)
 ):Option Bool).bind fun v47 =>
  bif v47 then
   some false
  else
   (((gi c.1 0).bind fun x2 =>
   bif (!decide (x2.Name=⟨#[116,97,120]⟩)) then
    some true
   else
    bif (x2.Kind != 1) then
     some true
    else
     bif (x2.Rank != 2) then
      some true
     else
      bif (x2.Known != 0) then
       some true
      else
       bif (x2.Houses != 0) then
        some true
       else
        (gi c.1 1).bind fun x3 =>
        bif (!decide (x3.Name=⟨#[104,111,109,101]⟩)) then
         some true
        else
         bif (x3.Kind != 3) then
          some true
         else
          bif (x3.Rank != 1) then
           some true
          else
           bif (x3.Known != 3) then
            some true
           else
            some (x3.Houses != 5)
   ):Option Bool).bind fun v115 =>
    bif v115 then
     some false
    else
     (some [(Bl.mk 1 4 3 5)]).bind fun l =>
     (gi c.1 0).bind fun x =>
     (CZ n x (Au.mk l 10 4) 4).bind fun s1 =>
     (CZ n x (Au.mk l 10 4) 5).bind fun s2 =>
     (gi c.1 1).bind fun x1 =>
     (CZ n x1 (Au.mk l 10 4) 2).bind fun s3 =>
     (CZ n x1 (Au.mk l 10 4) 3).bind fun s4 =>
     (Io ⟨#[110,101,118,101,114]⟩).bind fun n_ =>
     (Gp 5).bind fun n_1 =>
     (IY 11 n_ n_1).bind fun t =>
     (C1 n t (Au.mk l 10 4) 0).bind fun v_ =>
     (Gp 3).bind fun n_2 =>
     (some [n_2]).bind fun l1 =>
     (Gp 9).bind fun n_3 =>
     (IY 11 (Aa.mk 4 0 ⟨#[100,97,121]⟩ l1 0) n_3).bind fun t1 =>
     (C1 n t1 (Au.mk l 10 4) 0).bind fun v_1 =>
     (Io ⟨#[110,101,118,101,114]⟩).bind fun n_4 =>
     (Io ⟨#[115,116,111,114,101,100]⟩).bind fun n_5 =>
     (IY 11 n_4 n_5).bind fun t2 =>
     (C1 n t2 (Au.mk l 10 4) 0).bind fun v_2 =>
     ((bif (s1.2.2.2 != 0) then
      some true
     else
      bif (s2.2.2.2 != 0) then
       some true
      else
       bif (s3.2.2.2 != 0) then
        some true
       else
        bif (s4.2.2.2 != 0) then
         some true
        else
         bif (v_.2 != 0) then
          some true
         else
          bif (v_1.2 != 0) then
           some true
          else
           some (v_2.2 != 0)
     ):Option Bool).bind fun v210 =>
      bif v210 then
       some false
      else
       ((bif (s1.1 != 10) then
        some true
       else
        bif (s1.2.1 != 2565) then
         some true
        else
         bif s1.2.2.1 then
          some true
         else
          bif (!s2.2.2.1) then
           some true
          else
           bif (s3.1 != 0) then
            some true
           else
            bif (s3.2.1 != 41667) then
             some true
            else
             bif s3.2.2.1 then
              some true
             else
              bif (!s4.2.2.1) then
               some true
              else
               bif (v_.1 != 41667) then
                some true
               else
                bif (v_1.1 != 0) then
                 some true
                else
                 some (v_2.1 != 41657)
       ):Option Bool).bind fun v250 =>
        bif v250 then
         some false
        else
         (HO n c.1).bind fun s5 =>
         (Ez n s5.1).bind fun c1 =>
         ((bif (s5.2 == 0) then
          bif (c1.2.E == 0) then
           (LD n c1.1 c.1 false).bind fun s6 =>
           bif s6 then
            (IC n ⟨#[107,101,101,112,32,97,32,49,32,48,32,40,55,41,32,40,110,101,118,101,114,41,32,40,49,32,60,32,50,41,59]⟩ 11 7).bind fun f =>
            bif f then
             (IC n ⟨#[100,114,111,112,32,97,32,49,32,48,32,40,115,116,111,114,101,100,41,32,40,110,101,118,101,114,41,32,40,120,41,59]⟩ 29 6).bind fun f1 =>
             some f1
            else
             some false
           else
            some false
          else
           some false
         else
          some false
         ):Option Bool).bind fun v0_ =>
          some v0_
def UA:Option Bool:=J7 60
def A4:Nat->(List Aa)->Au->Int->Int->Option (Unit ⊕ Bool)
 |0,_,_,_,_=>none
 |n+1,l1,d,known,k2 =>
  bif (decide (k2<3)) then
   (gi l1 k2).bind fun x1 =>
   (C1 n x1 d known).bind fun v_ =>
   (FR n x1 d known).bind fun x2 =>
   ((bif (v_.1 != x2.N) then
    some true
   else
    some (v_.2 != x2.E)
   ):Option Bool).bind fun v67 =>
    bif v67 then
     some (.inr false)
    else
     A4 n l1 d known (IntKind.i64.wrap (k2+1))
  else
   some (.inl ())
theorem CE (n:Nat)(l1:(List Aa))(d:Au)(known:Int)(k2:Int):A4 (n+1) l1 d known k2 =
 bif (decide (k2<3)) then
  (gi l1 k2).bind fun x1 =>
  (C1 n x1 d known).bind fun v_ =>
  (FR n x1 d known).bind fun x2 =>
  ((bif (v_.1 != x2.N) then
   some true
  else
   some (v_.2 != x2.E)
  ):Option Bool).bind fun v67 =>
   bif v67 then
    some (.inr false)
   else
    A4 n l1 d known (IntKind.i64.wrap (k2+1))
 else
  some (.inl ()):=by rw [A4]
def BP (n:Nat)(c:Aj)(d:Au)(known:Int):Option Bool :=
 (some [c]).bind fun l =>
 (IW n l 150).bind fun few =>
 ((bif (!few) then
  some true
 else
  some (decide (250<(d.Facts.length:Int)))
 ):Option Bool).bind fun v28 =>
  bif v28 then
   (UA).bind fun s =>
   some s
  else
   (some [c.From,c.To,c.When]).bind fun l1 =>
   ((A4 n l1 d known 0
   ):Option (Unit ⊕ Bool)).bind fun y1=>match y1 with
   |.inl _ =>
    (CZ n c d known).bind fun s1 =>
    (Ie n c d known).bind fun x =>
    (((UA).bind fun s2 =>
    bif s2 then
     (C2 n d known).bind fun k =>
     (Ej n d known).bind fun k1 =>
     bif (k == k1) then
      bif (s1.1 == x.From) then
       bif (s1.2.1 == x.To) then
        bif (s1.2.2.1 == x.Is) then
         some (s1.2.2.2 == x.E)
        else
         some false
       else
        some false
      else
       some false
     else
      some false
    else
     some false
    ):Option Bool).bind fun v6 =>
     some v6
   |.inr o=>some o
abbrev hC (l:List Aj):PV:=hP l C7
abbrev oC (l:List Aj):PV:=oP l C7
end Go.Sp
