/-
  Chapter 33 as plain functions, first part: parsing, the operations, find and value; no program. (Printed by lift.py, but for what the lexer answers.) Plain functions with fuel: what holds for all large fuel. No program. The table of operations, as a plain list for every order of the map of comparisons. (The pieces printed by lift.py.) The table of operations: what its pieces compute. The names' types; the table as one of many lists. No program. What find finds, in plain words, whatever order the table of operations is in. No program. The search ends alike in every order of the table; find, in plain words. No program. What value computes, in plain words, whatever order the table of operations is in. No program. Statute as plain functions: what is exported, the specification; no program. (Printed by lift.py.) Expressions and dossiers in memory, opened. Private vectors: slices that are written in place later. No program. Words for private vectors and arrays that are written in place. No program. A range over a function, in plain values. The iterator reads a slice of ints that is behind a box, and may write the array; the two are no places of the walk while the loop runs. The rule for a range over a function. A function that ranges over a function. Words for a range over a function. The contracts of slices.Sort and slices.Compact, laid at this program (written by the kit's own tools, in plain words). slices.Sort of ints, as a function of an array that is a place. Duty as plain functions. (Printed by lift.py.) What the laws of duty share, as plain functions. (Printed by lift.py.) DutyTellsAStory as a plain function. (Printed by lift.py.) A story and a pair of 16-bit numbers in memory, opened. The closed facts of the row of DutyTellsAStory.
-/
import Derived.Lib.Join
import Derived.Lib.ItoaNum
import Derived.Lib.EndianBits
import Derived.Shelf.Sort.Plain
import Derived.Shelf.Slices.In.SortNone
import Derived.Shelf.Slices.CompactI
import Derived.Test.YtehfpameijkafaaGreatDoorProg
import Derived.JoinedOf
import Derived.Test.YtehfpameijkafaaGreatDoorY4
import Derived.Test.YtehfpameijkafaaGreatDoorY6
import Derived.Test.YtehfpameijkafaaGreatDoorY9
import Derived.Test.YtehfpameijkafaaGreatDoorY10
set_option linter.unusedVariables false
set_option linter.unusedSimpArgs false
namespace Go.Sp
open Go Go.Vl
set_option linter.unusedVariables false
structure An where
 Kind:Int
 At:Int
 S:Å
 N:Int
def E1 (x:An):List PV:=[iP x.Kind,iP x.At,tP x.S,iP x.N]
theorem IA (x:An):E1 x=[iP x.Kind,iP x.At,tP x.S,iP x.N]:=rfl
theorem Ic (x:An):(E1 x).length=4:=rfl
def Cg:Rw An:=⟨E1,_,4,IA,Ic⟩
structure Ak where
 At:Int
 E:Int
structure AE where
 sign:Å
 op:Int
 level:Int
def DV (x:AE):List PV:=[tP x.sign,iP x.op,iP x.level]
theorem Lq (x:AE):DV x=[tP x.sign,iP x.op,iP x.level]:=rfl
theorem Kt (x:AE):(DV x).length=3:=rfl
def Er:Rw AE:=⟨DV,_,3,Lq,Kt⟩
structure Ab where
 l:(List An)
 forms:Int
structure Ah where
 Op:Int
 N:Int
 S:Å
 Kids:(List Ah)
 At:Int
mutual
def Bk:Ah->List PV
 |.mk fOp fN fS fKids fAt=>[iP fOp,iP fN,tP fS,.sl (GF fKids) .shared,iP fAt]
def GF:List Ah->List (List PV)
 | []=>[]
 |x::l=>Bk x::GF l
end
theorem I9:∀ l:List Ah,GF l=l.map Bk
 | []=>rfl
 |x::l=>by rw [GF,I9 l];rfl
theorem JG (x:Ah):Bk x=[iP x.Op,iP x.N,tP x.S,hP x.Kids Bk,iP x.At]:=by
 cases x;rw [Bk];simp only [I9]
theorem Nt (x:Ah):(Bk x).length=5:=by rw [JG];rfl
def BQ:Rw Ah:=⟨Bk,_,5,JG,Nt⟩
structure Bq where
 Kind:Int
 N:Int
 S:Å
 E:Ah
 At:Int
def Fj (x:Bq):List PV:=[iP x.Kind,iP x.N,tP x.S,iP x.E.Op,iP x.E.N,tP x.E.S,hP x.E.Kids Bk,iP x.E.At,iP x.At]
theorem Pl (x:Bq):Fj x=[iP x.Kind,iP x.N,tP x.S,iP x.E.Op,iP x.E.N,tP x.E.S,hP x.E.Kids Bk,iP x.E.At,iP x.At]:=rfl
theorem Ox (x:Bq):(Fj x).length=9:=rfl
def Bj:Rw Bq:=⟨Fj,_,9,Pl,Ox⟩
structure Au where
 Word:Å
 Args:(List Bq)
 Body:(List Au)
 At:Int
mutual
def Ch:Au->List PV
 |.mk fWord fArgs fBody fAt=>[tP fWord,hP fArgs Fj,.sl (GD fBody) .shared,iP fAt]
def GD:List Au->List (List PV)
 | []=>[]
 |x::l=>Ch x::GD l
end
theorem I8:∀ l:List Au,GD l=l.map Ch
 | []=>rfl
 |x::l=>by rw [GD,I8 l];rfl
theorem FB (x:Au):Ch x=[tP x.Word,hP x.Args Fj,hP x.Body Ch,iP x.At]:=by
 cases x;rw [Ch];simp only [I8]
theorem Gy (x:Au):(Ch x).length=4:=by rw [FB];rfl
def Ec:Rw Au:=⟨Ch,_,4,FB,Gy⟩
structure Aq where
 At:Int
 E:Int
structure Bo where
 Kind:Int
 Who:Int
 Day:Int
 Known:Int
def Fu (x:Bo):List PV:=[iP x.Kind,iP x.Who,iP x.Day,iP x.Known]
theorem Ow (x:Bo):Fu x=[iP x.Kind,iP x.Who,iP x.Day,iP x.Known]:=rfl
theorem Ns (x:Bo):(Fu x).length=4:=rfl
def BC:Rw Bo:=⟨Fu,_,4,Ow,Ns⟩
structure Ap where
 Facts:(List Bo)
 Stored:Int
 Owner:Int
structure Ai where
 d:Ap
 known:Int
structure Aa where
 op:Int
 name:Å
 args:(List Int)
 kind:Int
 do_:Do
def BG (x:Int):List PV:=[iP x]
theorem Bs (x:Int):BG x=[iP x]:=rfl
theorem Ku (x:Int):(BG x).length=1:=rfl
def A7:Rw Int:=⟨BG,_,1,Bs,Ku⟩
def AO (x:Aa):List PV:=[iP x.op,tP x.name,hP x.args BG,iP x.kind,.fno (Le x.do_) (JH x.do_) (JX x.do_)]
theorem BK (x:Aa):AO x=[iP x.op,tP x.name,hP x.args BG,iP x.kind,.fno (Le x.do_) (JH x.do_) (JX x.do_)]:=rfl
theorem BW (x:Aa):(AO x).length=5:=rfl
def GU:Rw Aa:=⟨AO,_,5,BK,BW⟩
structure Bn where
 ops:(List Aa)
 names:(List (ByteArray×Int))
def Fi (x:Å):List PV:=[tP x]
theorem Iw (x:Å):Fi x=[tP x]:=rfl
theorem Ks (x:Å):(Fi x).length=1:=rfl
def KU:Rw Å:=⟨Fi,_,1,Iw,Ks⟩
def ZR (t:Lx.Tok):An:=⟨(t.kind:Int),(t.at_:Int),⟨⟨t.s⟩⟩,(t.n:Int)⟩
def IH (src:Å):List An×Ak :=
 if 65536<src.size then ([],⟨0,2⟩)
 else match Lx.tokens src.data.toList with
  |.ok ts=>(ts.map ZR,⟨0,0⟩)
  |.error (p,e)=>([],⟨(p:Int),(e:Int)⟩)
def IG (src:Å):Option (List An×Ak):=some (IH src)
def FD:Option (List AE) :=
 (some [(AE.mk ⟨#[42]⟩ 7 6),(AE.mk ⟨#[47]⟩ 8 6),(AE.mk ⟨#[37]⟩ 9 6),(AE.mk ⟨#[43]⟩ 10 5),(AE.mk ⟨#[45]⟩ 11 5),(AE.mk ⟨#[61,61]⟩ 12 4),(AE.mk ⟨#[33,61]⟩ 13 4),(AE.mk ⟨#[60]⟩ 14 4),(AE.mk ⟨#[60,61]⟩ 15 4),(AE.mk ⟨#[62]⟩ 16 4),(AE.mk ⟨#[62,61]⟩ 17 4),(AE.mk ⟨#[38,38]⟩ 18 2),(AE.mk ⟨#[124,124]⟩ 19 1)]).bind fun l =>
 some l
def Bb (p:Ab)(e:Int):Option (Ex Aq Ab Unit) :=
 (gi p.l 0).bind fun x =>
 some (.pan (Aq.mk x.At e) p)
def AH (p:Ab):Option (An×Ab) :=
 (gi p.l 0).bind fun x =>
 (ZD p.l 1 (p.l.length:Int)).bind fun l =>
 some (x,(Ab.mk l p.forms))
def Bd (p:Ab)(s:Å):Option Bool :=
 (((gi p.l 0).bind fun x =>
 bif (x.Kind == 4) then
  some (decide (x.S=s))
 else
  some false
 ):Option Bool).bind fun v4 =>
  some v4
def CR (p:Ab):Option Bool :=
 (gi p.l 0).bind fun x =>
 ((bif (x.Kind == 1) then
  some (x.Kind == 1)
 else
  bif (x.Kind == 2) then
   some (x.Kind == 2)
  else
   some (x.Kind == 3)
 ):Option Bool).bind fun v10 =>
  bif v10 then
   some true
  else
   (((Bd p ⟨#[40]⟩).bind fun i =>
   bif i then
    some true
   else
    (Bd p ⟨#[45]⟩).bind fun i1 =>
    some i1
   ):Option Bool).bind fun v2 =>
    some v2
def F3 (p:Ab):Option (Ex Aq Ab Int) :=
 (gi p.l 0).bind fun x =>
 bif (x.Kind != 2) then
  (Bb p 5).bind fun y=>match y with
  |.ok f p1 =>
   (AH p1).bind fun n_ =>
   some (.ok n_.1.N n_.2)
  |.pan e p2=>some (.pan e p2)
 else
  (AH p).bind fun n_1 =>
  some (.ok n_1.1.N n_1.2)
def CM (p:Ab)(depth:Int)(not_:Bool):Option (Ex Aq Ab Unit) :=
 (((CR p).bind fun b =>
 bif (!b) then
  bif not_ then
   (Bd p ⟨#[33]⟩).bind fun i =>
   some (!i)
  else
   some true
 else
  some false
 ):Option Bool).bind fun v16 =>
  ((bif v16 then
   (Bb p 5).bind fun y3=>match y3 with
   |.ok f1 p5 =>
    some (.inl (p5.l,p5.forms))
   |.pan e3 p6=>some (.inr (.pan e3 p6))
  else
   some (.inl (p.l,p.forms))
  ):Option (((List An)×Int) ⊕ (Ex Aq Ab Unit))).bind fun y1=>match y1 with
  |.inl (p1,p2) =>
   bif (decide (30<depth)) then
    (Bb (Ab.mk p1 p2) 2).bind fun y2=>match y2 with
    |.ok f p3 =>
     some (.ok () p3)
    |.pan e2 p4=>some (.pan e2 p4)
   else
    some (.ok () (Ab.mk p1 p2))
  |.inr o=>some o
def CL (p:Ab)(s:Å):Option (Ex Aq Ab Unit) :=
 (Bd p s).bind fun i =>
 bif (!i) then
  (Bb p 5).bind fun y=>match y with
  |.ok f p1 =>
   (AH p1).bind fun n_ =>
   some (.ok () n_.2)
  |.pan e p2=>some (.pan e p2)
 else
  (AH p).bind fun n_1 =>
  some (.ok () n_1.2)
def DY (p:(List An))(p1:Int)(n_:Int)(q:Int)(q1:Int)(q2:Å)(q3:(List Ah))(q4:Int)(e:Int)(e1:Int)(e2:Å)(e3:(List Ah))(e4:Int)(b:AE):Option Bool :=
 ((bif (b.level == n_) then
  (Bd (Ab.mk p p1) b.sign).bind fun i =>
  some i
 else
  some false
 ):Option Bool).bind fun v4 =>
  some v4
def BU:Nat->(List AE)->(List An)->Int->Int->Int->Int->Å->(List Ah)->Int->Int->Int->Å->(List Ah)->Int->Int->Option (Unit ⊕ Int)
 |0,_,_,_,_,_,_,_,_,_,_,_,_,_,_,_=>none
 |n+1,s,p,p1,n_,q,q1,q2,q3,q4,e,e1,e2,e3,e4,v8 =>
  bif (decide (v8<(s.length:Int))) then
   (gi s v8).bind fun x =>
   (DY p p1 n_ q q1 q2 q3 q4 e e1 e2 e3 e4 x).bind fun l =>
   bif l then
    some (.inr v8)
   else
    BU n s p p1 n_ q q1 q2 q3 q4 e e1 e2 e3 e4 (À (v8+1))
  else
   some (.inl ())
def CV (n:Nat)(p:(List An))(p1:Int)(n_:Int)(q:Int)(q1:Int)(q2:Å)(q3:(List Ah))(q4:Int)(e:Int)(e1:Int)(e2:Å)(e3:(List Ah))(e4:Int)(s:(List AE)):Option Int :=
 ((BU n s p p1 n_ q q1 q2 q3 q4 e e1 e2 e3 e4 0
 ):Option (Unit ⊕ Int)).bind fun y=>match y with
 |.inl _ =>
  some (-1)
 |.inr o=>some o
mutual
def AL:Nat->Ab->Int->Option (Ex Aq Ab Ah)
 |0,_,_=>none
 |n+1,p,depth =>
  (CM p depth true).bind fun y=>match y with
  |.ok d p1 =>
   (Bc n p1 1 depth).bind fun y1=>match y1 with
   |.ok e1 p3 =>
    (Bd p3 ⟨#[63]⟩).bind fun i =>
    bif (!i) then
     some (.ok e1 p3)
    else
     (AH p3).bind fun n_ =>
     (AL n n_.2 (À (depth+1))).bind fun y2=>match y2 with
     |.ok a_ p5 =>
      (CL p5 ⟨#[58]⟩).bind fun y3=>match y3 with
      |.ok n_1 p7 =>
       (AL n p7 (À (depth+1))).bind fun y4=>match y4 with
       |.ok e5 p9 =>
        (some [e1,a_,e5]).bind fun l =>
        some (.ok (Ah.mk 20 0 ⟨#[]⟩ l e1.At) p9)
       |.pan e6 p10=>some (.pan e6 p10)
      |.pan e4 p8=>some (.pan e4 p8)
     |.pan e3 p6=>some (.pan e3 p6)
   |.pan e2 p4=>some (.pan e2 p4)
  |.pan e p2=>some (.pan e p2)
def Dp:Nat->Int->Ah->Int->(List An)->Int->Int->Int->Å->(List Ah)->Option (Ex Aq Ab Ah)
 |0,_,_,_,_,_,_,_,_,_=>none
 |n+1,n_1,e2,depth,p5,p6,e4,e5,e6,e7 =>
  (FD).bind fun o_ =>
  (CV n p5 p6 n_1 0 0 ⟨#[]⟩ [] 0 e4 e5 e6 e7 e2.At o_).bind fun k =>
  bif (decide (k<0)) then
   some (.ok (Ah.mk e4 e5 e6 e7 e2.At) (Ab.mk p5 p6))
  else
   (AH (Ab.mk p5 p6)).bind fun n_3 =>
   (FD).bind fun o_1 =>
   (gi o_1 k).bind fun x =>
   (Bc n n_3.2 (À (n_1+1)) depth).bind fun y3=>match y3 with
   |.ok l p7 =>
    (some [(Ah.mk e4 e5 e6 e7 e2.At),l]).bind fun l1 =>
    bif (n_1 == 4) then
     some (.ok (Ah.mk x.op 0 ⟨#[]⟩ l1 e2.At) p7)
    else
     Dp n n_1 e2 depth p7.l p7.forms x.op 0 ⟨#[]⟩ l1
   |.pan e8 p8=>some (.pan e8 p8)
def Bc:Nat->Ab->Int->Int->Option (Ex Aq Ab Ah)
 |0,_,_,_=>none
 |n+1,p,n_,depth =>
  ((bif (n_ == 3) then
   (Bd p ⟨#[33]⟩).bind fun i =>
   bif i then
    (AH p).bind fun n_4 =>
    (CM n_4.2 (À (depth+1)) true).bind fun y4=>match y4 with
    |.ok d p9 =>
     (Bc n p9 3 (À (depth+1))).bind fun y5=>match y5 with
     |.ok l2 p11 =>
      (some [l2]).bind fun l3 =>
      some (.inr (.ok (Ah.mk 5 0 ⟨#[]⟩ l3 n_4.1.At) p11))
     |.pan e10 p12=>some (.inr (.pan e10 p12))
    |.pan e9 p10=>some (.inr (.pan e9 p10))
   else
    some (.inl (À (n_+1)))
  else
   some (.inl n_)
  ):Option (Int ⊕ (Ex Aq Ab Ah))).bind fun y=>match y with
  |.inl n_1 =>
   bif (n_1 == 7) then
    (B4 n p depth).bind fun y1=>match y1 with
    |.ok n_2 p1 =>
     some (.ok n_2 p1)
    |.pan e1 p2=>some (.pan e1 p2)
   else
    (Bc n p (À (n_1+1)) depth).bind fun y2=>match y2 with
    |.ok e2 p3 =>
     Dp n n_1 e2 depth p3.l p3.forms e2.Op e2.N e2.S e2.Kids
    |.pan e3 p4=>some (.pan e3 p4)
  |.inr o=>some o
def B4:Nat->Ab->Int->Option (Ex Aq Ab Ah)
 |0,_,_=>none
 |n+1,p,depth =>
  (Bd p ⟨#[45]⟩).bind fun i =>
  bif (!i) then
   (B6 n p depth).bind fun y=>match y with
   |.ok a_ p1 =>
    some (.ok a_ p1)
   |.pan e p2=>some (.pan e p2)
  else
   (AH p).bind fun n_ =>
   (CM n_.2 (À (depth+1)) false).bind fun y1=>match y1 with
   |.ok d p3 =>
    (B4 n p3 (À (depth+1))).bind fun y2=>match y2 with
    |.ok n_1 p5 =>
     (some [n_1]).bind fun l =>
     some (.ok (Ah.mk 6 0 ⟨#[]⟩ l n_.1.At) p5)
    |.pan e2 p6=>some (.pan e2 p6)
   |.pan e1 p4=>some (.pan e1 p4)
def CF:Nat->Int->(List An)->Int->(List Ah)->Option (((List An)×Int×(List Ah)) ⊕ (Ex Aq Ab Ah))
 |0,_,_,_,_=>none
 |n+1,depth,p5,p6,e3 =>
  (Bd (Ab.mk p5 p6) ⟨#[41]⟩).bind fun i1 =>
  bif (!i1) then
   ((bif (decide (0<(e3.length:Int))) then
    (CL (Ab.mk p5 p6) ⟨#[44]⟩).bind fun y7=>match y7 with
    |.ok n_2 p17 =>
     some (.inl (p17.l,p17.forms))
    |.pan e11 p18=>some (.inr (.pan e11 p18))
   else
    some (.inl (p5,p6))
   ):Option (((List An)×Int) ⊕ (Ex Aq Ab Ah))).bind fun y2=>match y2 with
   |.inl (p7,p8) =>
    bif ((e3.length:Int) == 40) then
     (CM (Ab.mk p7 p8) 0 true).bind fun y3=>match y3 with
     |.ok d p9 =>
      (Bb p9 2).bind fun y4=>match y4 with
      |.ok f p11 =>
       (AL n p11 (À (depth+1))).bind fun y5=>match y5 with
       |.ok e7 p13 =>
        (some [e7]).bind fun l =>
        (CH 64 e3 l).bind fun l1 =>
        CF n depth p13.l p13.forms l1
       |.pan e8 p14=>some (.inr (.pan e8 p14))
      |.pan e6 p12=>some (.inr (.pan e6 p12))
     |.pan e5 p10=>some (.inr (.pan e5 p10))
    else
     (AL n (Ab.mk p7 p8) (À (depth+1))).bind fun y6=>match y6 with
     |.ok e9 p15 =>
      (some [e9]).bind fun l2 =>
      (CH 64 e3 l2).bind fun l3 =>
      CF n depth p15.l p15.forms l3
     |.pan e10 p16=>some (.inr (.pan e10 p16))
   |.inr o=>some (.inr o)
  else
   some (.inl (p5,p6,e3))
def B6:Nat->Ab->Int->Option (Ex Aq Ab Ah)
 |0,_,_=>none
 |n+1,p,depth =>
  (CR p).bind fun b =>
  ((bif (!b) then
   (Bb p 5).bind fun y10=>match y10 with
   |.ok f1 p23 =>
    some (.inl (p23.l,p23.forms))
   |.pan e15 p24=>some (.inr (.pan e15 p24))
  else
   some (.inl (p.l,p.forms))
  ):Option (((List An)×Int) ⊕ (Ex Aq Ab Ah))).bind fun y=>match y with
  |.inl (p1,p2) =>
   (AH (Ab.mk p1 p2)).bind fun t =>
   bif (t.1.Kind == 2) then
    some (.ok (Ah.mk 1 t.1.N t.1.S [] t.1.At) t.2)
   else
    bif (t.1.Kind == 3) then
     some (.ok (Ah.mk 2 t.1.N t.1.S [] t.1.At) t.2)
    else
     bif (t.1.Kind == 1) then
      (Bd t.2 ⟨#[40]⟩).bind fun i =>
      bif (!i) then
       some (.ok (Ah.mk 3 t.1.N t.1.S [] t.1.At) t.2)
      else
       (AH t.2).bind fun n_ =>
       ((CF n depth n_.2.l n_.2.forms []
       ):Option (((List An)×Int×(List Ah)) ⊕ (Ex Aq Ab Ah))).bind fun y1=>match y1 with
       |.inl (p3,p4,e1) =>
        (AH (Ab.mk p3 p4)).bind fun n_1 =>
        some (.ok (Ah.mk 4 t.1.N t.1.S e1 t.1.At) n_1.2)
       |.inr o=>some o
     else
      (AL n t.2 (À (depth+1))).bind fun y8=>match y8 with
      |.ok e12 p19 =>
       (CL p19 ⟨#[41]⟩).bind fun y9=>match y9 with
       |.ok n_3 p21 =>
        some (.ok e12 p21)
       |.pan e14 p22=>some (.pan e14 p22)
      |.pan e13 p20=>some (.pan e13 p20)
  |.inr o=>some o
end
def Fw (n:Nat)(p:Ab):Option (Ex Aq Ab Bq) :=
 (AH p).bind fun t =>
 bif (t.1.Kind == 1) then
  some (.ok (Bq.mk 1 t.1.N t.1.S (Ah.mk 0 0 ⟨#[]⟩ [] 0) t.1.At) t.2)
 else
  bif (t.1.Kind == 2) then
   some (.ok (Bq.mk 2 t.1.N t.1.S (Ah.mk 0 0 ⟨#[]⟩ [] 0) t.1.At) t.2)
  else
   bif (t.1.Kind == 3) then
    some (.ok (Bq.mk 3 t.1.N t.1.S (Ah.mk 0 0 ⟨#[]⟩ [] 0) t.1.At) t.2)
   else
    bif (decide (t.1.S=⟨#[45]⟩)) then
     (F3 t.2).bind fun y=>match y with
     |.ok n_ p1 =>
      some (.ok (Bq.mk 2 (À (0-n_)) ⟨#[]⟩ (Ah.mk 0 0 ⟨#[]⟩ [] 0) t.1.At) p1)
     |.pan e p2=>some (.pan e p2)
    else
     bif (decide (t.1.S=⟨#[45,62]⟩)) then
      some (.ok (Bq.mk 4 t.1.N ⟨#[]⟩ (Ah.mk 0 0 ⟨#[]⟩ [] 0) t.1.At) t.2)
     else
      bif (decide (t.1.S=⟨#[40]⟩)) then
       (AL n t.2 1).bind fun y1=>match y1 with
       |.ok e1 p3 =>
        (CL p3 ⟨#[41]⟩).bind fun y2=>match y2 with
        |.ok n_1 p5 =>
         some (.ok (Bq.mk 5 t.1.N ⟨#[]⟩ e1 t.1.At) p5)
        |.pan e3 p6=>some (.pan e3 p6)
       |.pan e2 p4=>some (.pan e2 p4)
      else
       some (.ok (Bq.mk 0 t.1.N ⟨#[]⟩ (Ah.mk 0 0 ⟨#[]⟩ [] 0) t.1.At) t.2)
mutual
def D9:Nat->Int->(List An)->Int->(List Au)->Option (((List An)×Int×(List Au)) ⊕ (Ex Aq Ab Au))
 |0,_,_,_,_=>none
 |n+1,depth,p9,p10,f2 =>
  (Bd (Ab.mk p9 p10) ⟨#[125]⟩).bind fun i =>
  bif (!i) then
   (BM n (Ab.mk p9 p10) (À (depth+1))).bind fun y5=>match y5 with
   |.ok f3 p11 =>
    (some [f3]).bind fun l =>
    (CH 72 f2 l).bind fun l1 =>
    D9 n depth p11.l p11.forms l1
   |.pan e5 p12=>some (.inr (.pan e5 p12))
  else
   some (.inl (p9,p10,f2))
def CE:Nat->(List An)->Int->(List Bq)->Option (((List An)×Int×(List Bq)) ⊕ (Ex Aq Ab Au))
 |0,_,_,_=>none
 |n+1,p13,p14,f4 =>
  (((Bd (Ab.mk p13 p14) ⟨#[59]⟩).bind fun i2 =>
  bif (!i2) then
   (Bd (Ab.mk p13 p14) ⟨#[123]⟩).bind fun i3 =>
   some (!i3)
  else
   some false
  ):Option Bool).bind fun v49 =>
   bif v49 then
    (((CR (Ab.mk p13 p14)).bind fun b =>
    bif (!b) then
     (Bd (Ab.mk p13 p14) ⟨#[45,62]⟩).bind fun i1 =>
     some (!i1)
    else
     some false
    ):Option Bool).bind fun v57 =>
     ((bif v57 then
      (Bb (Ab.mk p13 p14) 5).bind fun y12=>match y12 with
      |.ok f6 p23 =>
       some (.inl (p23.l,p23.forms))
      |.pan e12 p24=>some (.inr (.pan e12 p24))
     else
      some (.inl (p13,p14))
     ):Option (((List An)×Int) ⊕ (Ex Aq Ab Au))).bind fun y8=>match y8 with
     |.inl (p15,p16) =>
      bif ((f4.length:Int) == 40) then
       (Bb (Ab.mk p15 p16) 2).bind fun y9=>match y9 with
       |.ok f5 p17 =>
        (Fw n p17).bind fun y10=>match y10 with
        |.ok a_ p19 =>
         (some [a_]).bind fun l2 =>
         (CH 104 f4 l2).bind fun l3 =>
         CE n p19.l p19.forms l3
        |.pan e10 p20=>some (.inr (.pan e10 p20))
       |.pan e9 p18=>some (.inr (.pan e9 p18))
      else
       (Fw n (Ab.mk p15 p16)).bind fun y11=>match y11 with
       |.ok a_1 p21 =>
        (some [a_1]).bind fun l4 =>
        (CH 104 f4 l4).bind fun l5 =>
        CE n p21.l p21.forms l5
       |.pan e11 p22=>some (.inr (.pan e11 p22))
     |.inr o=>some (.inr o)
   else
    some (.inl (p13,p14,f4))
def BM:Nat->Ab->Int->Option (Ex Aq Ab Au)
 |0,_,_=>none
 |n+1,p,depth =>
  (gi p.l 0).bind fun x =>
  ((bif (x.Kind != 1) then
   (Bb p 5).bind fun y14=>match y14 with
   |.ok f8 p27 =>
    some (.inl (p27.l,p27.forms))
   |.pan e14 p28=>some (.inr (.pan e14 p28))
  else
   some (.inl (p.l,p.forms))
  ):Option (((List An)×Int) ⊕ (Ex Aq Ab Au))).bind fun y=>match y with
  |.inl (p1,p2) =>
   ((bif (decide (30<depth)) then
    some true
   else
    some (decide (2000<(À (p2+1))))
   ):Option Bool).bind fun v32 =>
    ((bif v32 then
     (Bb (Ab.mk p1 (À (p2+1))) 2).bind fun y13=>match y13 with
     |.ok f7 p25 =>
      some (.inl (p25.l,p25.forms))
     |.pan e13 p26=>some (.inr (.pan e13 p26))
    else
     some (.inl (p1,(À (p2+1))))
    ):Option (((List An)×Int) ⊕ (Ex Aq Ab Au))).bind fun y2=>match y2 with
    |.inl (p3,p4) =>
     (AH (Ab.mk p3 p4)).bind fun t =>
     ((CE n t.2.l t.2.forms []
     ):Option (((List An)×Int×(List Bq)) ⊕ (Ex Aq Ab Au))).bind fun y3=>match y3 with
     |.inl (p5,p6,f) =>
      (AH (Ab.mk p5 p6)).bind fun n_ =>
      bif (decide (n_.1.S=⟨#[59]⟩)) then
       some (.ok (Au.mk t.1.S f [] t.1.At) n_.2)
      else
       ((D9 n depth n_.2.l n_.2.forms []
       ):Option (((List An)×Int×(List Au)) ⊕ (Ex Aq Ab Au))).bind fun y4=>match y4 with
       |.inl (p7,p8,f1) =>
        (AH (Ab.mk p7 p8)).bind fun n_1 =>
        some (.ok (Au.mk t.1.S f f1 t.1.At) n_1.2)
       |.inr o=>some o
     |.inr o=>some o
    |.inr o=>some o
  |.inr o=>some o
end
def DO:Nat->(List Au)->(List An)->Int->Option (((List Au)×(List An)×Int) ⊕ (Ex Aq ((List Au)×(List An)×Int) Unit))
 |0,_,_,_=>none
 |n+1,out2,q6,q7 =>
  (gi q6 0).bind fun x =>
  bif (x.Kind != 5) then
   (BM n (Ab.mk q6 q7) 1).bind fun y1=>match y1 with
   |.ok f s =>
    (CH 72 out2 [f]).bind fun out3 =>
    DO n out3 s.l s.forms
   |.pan e1 s1=>some (.inr (.pan e1 (out2,s1.l,s1.forms)))
  else
   some (.inl (out2,q6,q7))
def Fx (n:Nat)(q:Int)(q1:Int)(out:(List Au))(bad:Int)(bad1:Int)(q2:(List An))(q3:Int):Option (Ex Aq ((List Au)×(List An)×Int) Unit) :=
 ((DO n out q2 q3
 ):Option (((List Au)×(List An)×Int) ⊕ (Ex Aq ((List Au)×(List An)×Int) Unit))).bind fun y=>match y with
 |.inl (out1,q4,q5) =>
  some (.ok () (out1,q4,q5))
 |.inr o=>some o
def Es (n:Nat)(q:Int)(q1:Int)(out:(List Au))(src:Å):Option (Ak×(List Au)) :=
 (IG src).bind fun t =>
 bif (t.2.E != 0) then
  some (t.2,out)
 else
  (Fx n q q1 out t.2.At t.2.E t.1 0).bind fun y=>match y with
  |.ok f c =>
   (gi c.2.1 0).bind fun x =>
   bif (x.Kind != 5) then
    (Bb (Ab.mk c.2.1 c.2.2) 5).bind fun y1=>match y1 with
    |.ok f1 s =>
     some ((Ak.mk 0 0),c.1)
    |.pan e1 s1=>some ((Ak.mk e1.At e1.E),c.1)
   else
    some ((Ak.mk 0 0),c.1)
  |.pan e c1=>some ((Ak.mk e.At e.E),c1.1)
def Ie (n:Nat)(src:Å):Option ((List Au)×Ak) :=
 (Es n 0 0 [] src).bind fun bad =>
 bif (bad.1.E != 0) then
  some ([],bad.1)
 else
  some (bad.2,bad.1)
def Fc (m_:Ai)(x:(List Int)):Option Int :=
 (gi x 0).bind fun x1 =>
 some (À (0-x1))
def Et (x:Int)(y:Int):Option (Int×Int) :=
 some ((IntKind.u64.wrap ((IntKind.u64.wrap ((IntKind.u64.wrap ((x.fdiv (2 ^ min (32:Int).toNat IntKind.u64.bits))*(y.fdiv (2 ^ min (32:Int).toNat IntKind.u64.bits))))+((IntKind.u64.wrap ((IntKind.u64.wrap ((x.fdiv (2 ^ min (32:Int).toNat IntKind.u64.bits))*(bits .and .u64 y 4294967295)))+((IntKind.u64.wrap ((bits .and .u64 x 4294967295)*(bits .and .u64 y 4294967295))).fdiv (2 ^ min (32:Int).toNat IntKind.u64.bits)))).fdiv (2 ^ min (32:Int).toNat IntKind.u64.bits))))+((IntKind.u64.wrap ((bits .and .u64 (IntKind.u64.wrap ((IntKind.u64.wrap ((x.fdiv (2 ^ min (32:Int).toNat IntKind.u64.bits))*(bits .and .u64 y 4294967295)))+((IntKind.u64.wrap ((bits .and .u64 x 4294967295)*(bits .and .u64 y 4294967295))).fdiv (2 ^ min (32:Int).toNat IntKind.u64.bits)))) 4294967295)+(IntKind.u64.wrap ((bits .and .u64 x 4294967295)*(y.fdiv (2 ^ min (32:Int).toNat IntKind.u64.bits)))))).fdiv (2 ^ min (32:Int).toNat IntKind.u64.bits)))),(IntKind.u64.wrap (x*y)))
def Da (a_:Int)(b:Int):Option Int :=
 (Et (IntKind.u64.wrap (if (À (0-a_)) > a_ then (À (0-a_)) else a_)) (IntKind.u64.wrap (if (À (0-b)) > b then (À (0-b)) else b))).bind fun m_ =>
 ((bif (m_.1 == 0) then
  some (decide (m_.2<999999999999999))
 else
  some false
 ):Option Bool).bind fun v27 =>
  ((bif v27 then
   some (À m_.2)
  else
   some 999999999999999
  ):Option Int).bind fun n_ =>
   bif (!((decide (a_<0)) == (decide (b<0)))) then
    some (À (0-n_))
   else
    some n_
def Fb (m_:Ai)(x:(List Int)):Option Int :=
 (gi x 0).bind fun x1 =>
 (gi x 1).bind fun x2 =>
 (Da x1 x2).bind fun t =>
 some t
def CB (n_:Int):Option Int :=
 some (if (if 999999999999999<n_ then 999999999999999 else n_) > (-999999999999999) then (if 999999999999999<n_ then 999999999999999 else n_) else (-999999999999999))
def EZ (m_:Ai)(x:(List Int)):Option Int :=
 (gi x 0).bind fun x1 =>
 (gi x 1).bind fun x2 =>
 (CB (À (x1+x2))).bind fun n_ =>
 some n_
def Ff (n_:Int):Option Int :=
 some (if (if 41667<n_ then 41667 else n_) > 0 then (if 41667<n_ then 41667 else n_) else 0)
def Db (d:Int)(n_:Int):Option Int :=
 bif (d == 41667) then
  some d
 else
  (Ff (À (d+n_))).bind fun d1 =>
  some d1
def EY (m_:Ai)(x:(List Int)):Option Int :=
 (gi x 0).bind fun x1 =>
 (gi x 1).bind fun x2 =>
 (Db x1 x2).bind fun m_1 =>
 some m_1
def EX (m_:Ai)(x:(List Int)):Option Int :=
 (gi x 0).bind fun x1 =>
 (gi x 1).bind fun x2 =>
 (CB (À (x1-x2))).bind fun n_ =>
 some n_
def EW (m_:Ai)(x:(List Int)):Option Int :=
 (gi x 0).bind fun x1 =>
 (gi x 1).bind fun x2 =>
 (Db x1 (À (0-x2))).bind fun m_1 =>
 some m_1
def EV (m_:Ai)(x:(List Int)):Option Int :=
 (gi x 0).bind fun x1 =>
 (gi x 1).bind fun x2 =>
 some (À (x1-x2))
def EU (m_:Ai)(x:(List Int)):Option Int :=
 (gi x 0).bind fun x1 =>
 some (À (1-x1))
def ET (m_:Ai)(x:(List Int)):Option Int :=
 (gi x 0).bind fun x1 =>
 (gi x 1).bind fun x2 =>
 some (bits .and .i64 x1 x2)
def EF (m_:Ai)(x:(List Int)):Option Int :=
 (gi x 0).bind fun x1 =>
 (gi x 1).bind fun x2 =>
 some (bits .or .i64 x1 x2)
def EE (m_:Ai)(x:(List Int)):Option Int :=
 (gi x 0).bind fun x1 =>
 (Ff x1).bind fun d =>
 some d
def ED (m_:Ai)(x:(List Int)):Option Int :=
 (gi x 0).bind fun x1 =>
 some (if (if 1000<x1 then 1000 else x1) > 0 then (if 1000<x1 then 1000 else x1) else 0)
def E5 (m_:Ai)(x:(List Int)):Option Int :=
 (gi x 0).bind fun x1 =>
 (gi x (À (2-x1))).bind fun x2 =>
 some x2
def E4 (m_:Ai)(x:(List Int)):Option Int :=
 (gi x 0).bind fun x1 =>
 (gi x 1).bind fun x2 =>
 some (if x2<x1 then x2 else x1)
def E3 (m_:Ai)(x:(List Int)):Option Int :=
 (gi x 0).bind fun x1 =>
 (gi x 1).bind fun x2 =>
 some (if x2 > x1 then x2 else x1)
def EB (a_:Int)(b:Int):Option Bool :=
 some (decide (a_<b))
def EA (a_:Int)(b:Int):Option Bool :=
 some (decide (a_<=b))
def E9 (a_:Int)(b:Int):Option Bool :=
 some (decide (b<a_))
def E8 (a_:Int)(b:Int):Option Bool :=
 some (decide (b<=a_))
def E7 (a_:Int)(b:Int):Option Bool :=
 some (a_ == b)
def E6 (a_:Int)(b:Int):Option Bool :=
 some (a_ != b)
def Bu:Nat->Ai->Int->Int->Int->Int->Option Int
 |0,_,_,_,_,_=>none
 |n+1,m_,kind,who,best1,v14 =>
  bif (decide (v14<(m_.d.Facts.length:Int))) then
   (gi m_.d.Facts v14).bind fun x1 =>
   ((bif (x1.Kind == kind) then
    bif (x1.Who == who) then
     bif (decide (x1.Known<=m_.known)) then
      bif (decide (best1<0)) then
       some true
      else
       (gi m_.d.Facts best1).bind fun x2 =>
       some (decide (x2.Known<=x1.Known))
     else
      some false
    else
     some false
   else
    some false
   ):Option Bool).bind fun v51 =>
    bif v51 then
     Bu n m_ kind who v14 (À (v14+1))
    else
     Bu n m_ kind who best1 (À (v14+1))
  else
   some best1
def Cr (n:Nat)(m_:Ai)(kind:Int)(who:Int):Option Int :=
 ((Bu n m_ kind who (-1) 0
 ):Option Int).bind fun best =>
  bif (decide (best<0)) then
   some 41667
  else
   (gi m_.d.Facts best).bind fun x =>
   some x.Day
def CU (b:Bool):Option Int :=
 bif b then
  some 1
 else
  some 0
def EC (n:Nat)(k:Int)(m_:Ai)(x:(List Int)):Option Int :=
 (gi x 0).bind fun x1 =>
 (Cr n m_ (À (k+1)) x1).bind fun f =>
 some f
def Dy (m_:Ai)(x:(List Int)):Option Int :=
 (gi x 0).bind fun x1 =>
 (gi x 1).bind fun x2 =>
 (EB x1 x2).bind fun o_ =>
 (CU o_).bind fun f =>
 some f
def Dx (m_:Ai)(x:(List Int)):Option Int :=
 (gi x 0).bind fun x1 =>
 (gi x 1).bind fun x2 =>
 (EA x1 x2).bind fun o_ =>
 (CU o_).bind fun f =>
 some f
def Dw (m_:Ai)(x:(List Int)):Option Int :=
 (gi x 0).bind fun x1 =>
 (gi x 1).bind fun x2 =>
 (E9 x1 x2).bind fun o_ =>
 (CU o_).bind fun f =>
 some f
def Dv (m_:Ai)(x:(List Int)):Option Int :=
 (gi x 0).bind fun x1 =>
 (gi x 1).bind fun x2 =>
 (E8 x1 x2).bind fun o_ =>
 (CU o_).bind fun f =>
 some f
def Du (m_:Ai)(x:(List Int)):Option Int :=
 (gi x 0).bind fun x1 =>
 (gi x 1).bind fun x2 =>
 (E7 x1 x2).bind fun o_ =>
 (CU o_).bind fun f =>
 some f
def Dt (m_:Ai)(x:(List Int)):Option Int :=
 (gi x 0).bind fun x1 =>
 (gi x 1).bind fun x2 =>
 (E6 x1 x2).bind fun o_ =>
 (CU o_).bind fun f =>
 some f
def DT (op:Int):Option Int :=
 ((bif (op == 1) then
  some (op == 1)
 else
  bif (op == 2) then
   some (op == 2)
  else
   some (op == 3)
 ):Option Bool).bind fun v4 =>
  bif v4 then
   some 0
  else
   ((bif (op == 5) then
    some (op == 5)
   else
    some (op == 6)
   ):Option Bool).bind fun v8 =>
    bif v8 then
     some 1
    else
     bif (op == 20) then
      some 3
     else
      bif (op == 4) then
       some (-1)
      else
       some 2
def AR (s:(List Aa))(s1:(List (ByteArray×Int)))(e:Int)(e1:Int)(e2:Å)(e3:(List Ah))(e4:Int)(o_:Int)(o_1:Å)(o_2:(List Int))(o_3:Int)(o_4:Do)(p:Int)(p1:Int)(x:Int):Option (Int×Aa×Ak) :=
 some (0,(Aa.mk 0 ⟨#[]⟩ [] 0 Do.nil),(Ak.mk e4 x))
def BP:Nat->(List Int)->(List Int)->Int->Option (Unit ⊕ Bool)
 |0,_,_,_=>none
 |n+1,s1,s2,v13 =>
  bif (decide (v13<(s1.length:Int))) then
   (gi s1 v13).bind fun x =>
   (gi s2 v13).bind fun x1 =>
   bif (x != x1) then
    some (.inr false)
   else
    BP n s1 s2 (À (v13+1))
  else
   some (.inl ())
def D0 (n:Nat)(s1:(List Int))(s2:(List Int)):Option Bool :=
 bif ((s1.length:Int) != (s2.length:Int)) then
  some false
 else
  ((BP n s1 s2 0
  ):Option (Unit ⊕ Bool)).bind fun y=>match y with
  |.inl _ =>
   some true
  |.inr o=>some o
mutual
def AS:Nat->Bn->Ah->(List Int)->Bool->Bool->Int->Option ((Bool×Bool) ⊕ (Int×Aa×Ak))
 |0,_,_,_,_,_,_=>none
 |n+1,s,e,types,known1,fits1,v121 =>
  bif (decide (v121<(s.ops.length:Int))) then
   (gi s.ops v121).bind fun x =>
   ((bif (x.op != e.Op) then
    some true
   else
    bif (x.op == 4) then
     some (!decide (x.name=e.S))
    else
     some false
   ):Option Bool).bind fun v141 =>
    bif v141 then
     AS n s e types known1 fits1 (À (v121+1))
    else
     ((bif fits1 then
      some true
     else
      some ((x.args.length:Int) == (types.length:Int))
     ):Option Bool).bind fun fits2 =>
      (D0 n x.args types).bind fun e9 =>
      bif e9 then
       some (.inr (x.kind,x,(Ak.mk 0 0)))
      else
       AS n s e types true fits2 (À (v121+1))
  else
   some (.inl (known1,fits1))
def Bt:Nat->Ah->Bn->(List Int)->Int->Option ((List Int) ⊕ (Int×Aa×Ak))
 |0,_,_,_,_=>none
 |n+1,e,s,types1,v52 =>
  bif (decide (v52<(e.Kids.length:Int))) then
   (gi e.Kids v52).bind fun x1 =>
   (A5 n s x1).bind fun f7 =>
   bif (f7.2.2.E != 0) then
    some (.inr (0,(Aa.mk 0 ⟨#[]⟩ [] 0 Do.nil),f7.2.2))
   else
    (some [f7.1]).bind fun l =>
    (CH 8 types1 l).bind fun l1 =>
    Bt n e s l1 (À (v52+1))
  else
   some (.inl types1)
def A5:Nat->Bn->Ah->Option (Int×Aa×Ak)
 |0,_,_=>none
 |n+1,s,e =>
  (DT e.Op).bind fun n_ =>
  ((bif (decide (e.Op<1)) then
   some true
  else
   bif (decide (20<e.Op)) then
    some true
   else
    bif (decide (0<=n_)) then
     some ((e.Kids.length:Int) != n_)
    else
     some false
  ):Option Bool).bind fun v43 =>
   bif v43 then
    (AR s.ops s.names e.Op e.N e.S e.Kids e.At 0 ⟨#[]⟩ [] 0 Do.nil 0 0 1).bind fun f =>
    some (f.1,f.2.1,f.2.2)
   else
    ((Bt n e s [] 0
    ):Option ((List Int) ⊕ (Int×Aa×Ak))).bind fun y1=>match y1 with
    |.inl types =>
     bif (e.Op == 1) then
      ((bif (decide (e.N<0)) then
       some true
      else
       some (decide (999999999999999<e.N))
      ):Option Bool).bind fun v84 =>
       bif v84 then
        (AR s.ops s.names e.Op e.N e.S e.Kids e.At 0 ⟨#[]⟩ [] 0 Do.nil 0 0 1).bind fun f1 =>
        some (f1.1,f1.2.1,f1.2.2)
       else
        some (1,(Aa.mk 0 ⟨#[]⟩ [] 0 Do.nil),(Ak.mk 0 0))
     else
      bif (e.Op == 2) then
       (AR s.ops s.names e.Op e.N e.S e.Kids e.At 0 ⟨#[]⟩ [] 0 Do.nil 0 0 7).bind fun f2 =>
       some (f2.1,f2.2.1,f2.2.2)
      else
       bif (e.Op == 3) then
        bif (Dl s.names e.S).2 then
         some ((Dl s.names e.S).1,(Aa.mk 0 ⟨#[]⟩ [] 0 Do.nil),(Ak.mk 0 0))
        else
         (AR s.ops s.names e.Op e.N e.S e.Kids e.At 0 ⟨#[]⟩ [] 0 Do.nil 0 0 6).bind fun f3 =>
         some (f3.1,f3.2.1,f3.2.2)
       else
        ((AS n s e types false false 0
        ):Option ((Bool×Bool) ⊕ (Int×Aa×Ak))).bind fun y3=>match y3 with
        |.inl (known,fits) =>
         ((bif (e.Op == 4) then
          some (!known)
         else
          some false
         ):Option Bool).bind fun v160 =>
          bif v160 then
           (AR s.ops s.names e.Op e.N e.S e.Kids e.At 0 ⟨#[]⟩ [] 0 Do.nil 0 0 6).bind fun f4 =>
           some (f4.1,f4.2.1,f4.2.2)
          else
           ((bif (e.Op == 4) then
            some (!fits)
           else
            some false
           ):Option Bool).bind fun v173 =>
            bif v173 then
             (AR s.ops s.names e.Op e.N e.S e.Kids e.At 0 ⟨#[]⟩ [] 0 Do.nil 0 0 1).bind fun f5 =>
             some (f5.1,f5.2.1,f5.2.2)
            else
             (AR s.ops s.names e.Op e.N e.S e.Kids e.At 0 ⟨#[]⟩ [] 0 Do.nil 0 0 7).bind fun f6 =>
             some (f6.1,f6.2.1,f6.2.2)
        |.inr o=>some o
    |.inr o=>some o
end
def Gj (n:Nat)(d:Do)(m:Ai)(x:List Int):Option Int:=match d with
 |.c 82=>Fc m x
 |.c 83=>Fb m x
 |.c 85=>EZ m x
 |.c 87=>EY m x
 |.c 89=>EX m x
 |.c 90=>EW m x
 |.c 91=>EV m x
 |.c 92=>EU m x
 |.c 93=>ET m x
 |.c 94=>EF m x
 |.c 95=>EE m x
 |.c 97=>ED m x
 |.c 108=>E5 m x
 |.c 109=>E4 m x
 |.c 110=>E3 m x
 |.k k=>EC n k m x
 |.is 100=>Dy m x
 |.is 101=>Dx m x
 |.is 102=>Dw m x
 |.is 103=>Dv m x
 |.is 104=>Du m x
 |.is 105=>Dt m x
 |_=>none
mutual
def Bg:Nat->Ah->Bn->Ai->(List Int)->Int->Option (List Int)
 |0,_,_,_,_,_=>none
 |n+1,e,s,m_,x1,v35 =>
  bif (decide (v35<(e.Kids.length:Int))) then
   (gi e.Kids v35).bind fun x2 =>
   (A4 n s x2 m_).bind fun v_ =>
   (some [v_]).bind fun l =>
   (CH 8 x1 l).bind fun l1 =>
   Bg n e s m_ l1 (À (v35+1))
  else
   some x1
def A4:Nat->Bn->Ah->Ai->Option Int
 |0,_,_,_=>none
 |n+1,s,e,m_ =>
  bif (e.Op == 1) then
   some e.N
  else
   bif (e.Op == 3) then
    some ((Dl [(⟨#[121,101,97,114]⟩,365),(⟨#[115,116,111,114,101,100]⟩,m_.d.Stored),(⟨#[110,101,118,101,114]⟩,41667),(⟨#[111,119,110,101,114]⟩,m_.d.Owner)] e.S).1)
   else
    ((Bg n e s m_ [] 0
    ):Option (List Int)).bind fun x =>
     (A5 n s (Ah.mk e.Op e.N e.S e.Kids e.At)).bind fun f =>
     (gfn f.2.1.do_).bind fun d =>
     (Gj n d m_ x).bind fun r1 =>
     some r1
end
abbrev hT (l:List An):PV:=hP l E1
abbrev oT (l:List An):PV:=oP l E1
abbrev hX (l:List Ah):PV:=hP l Bk
abbrev oX (l:List Ah):PV:=oP l Bk
abbrev hF (l:List Au):PV:=hP l Ch
abbrev oF (l:List Au):PV:=oP l Ch
abbrev hA (l:List Bq):PV:=hP l Fj
abbrev oA (l:List Bq):PV:=oP l Fj
abbrev hS (l:List Å):PV:=hP l Fi
abbrev oS (l:List Å):PV:=oP l Fi
abbrev hI (l:List Int):PV:=hP l BG
abbrev oI (l:List Int):PV:=oP l BG
abbrev hZ (l:List Bo):PV:=hP l Fu
abbrev oZ (l:List Bo):PV:=oP l Fu
abbrev hO (l:List Aa):PV:=hP l AO
abbrev oO (l:List Aa):PV:=oP l AO
abbrev hE (l:List AE):PV:=hP l DV
abbrev oE (l:List AE):PV:=oP l DV
abbrev kT (x:An):List PV:=[iP x.Kind,iP x.At,tP x.S,iP x.N]
abbrev kE (x:AE):List PV:=[tP x.sign,iP x.op,iP x.level]
abbrev kX (x:Ah):List PV:=[iP x.Op,iP x.N,tP x.S,hX x.Kids,iP x.At]
abbrev kA (x:Bq):List PV:=[iP x.Kind,iP x.N,tP x.S,iP x.E.Op,iP x.E.N,tP x.E.S,hX x.E.Kids,iP x.E.At,iP x.At]
abbrev kF (x:Au):List PV:=[tP x.Word,hA x.Args,hF x.Body,iP x.At]
abbrev kZ (x:Bo):List PV:=[iP x.Kind,iP x.Who,iP x.Day,iP x.Known]
abbrev kD (x:Ap):List PV:=[hZ x.Facts,iP x.Stored,iP x.Owner]
abbrev kM (x:Ai):List PV:=[hZ x.d.Facts,iP x.d.Stored,iP x.d.Owner,iP x.known]
abbrev kO (x:Aa):List PV:=[iP x.op,tP x.name,hI x.args,iP x.kind,.fno (Le x.do_) (JH x.do_) (JX x.do_)]
end Go.Sp
namespace Go.Sp
open Go
def Ev {α:Type}(f:Nat->Option α)(a:α):Prop:=∃ N,∀ n,N<=n->f n=some a
namespace Ev
variable {α β:Type} {f:Nat->Option α} {a:α} {b:β}
theorem const {x:Option α}(h:x=some a):Ev (fun _=>x) a:=⟨0,fun _ _=>h⟩
theorem pure:Ev (fun _=>some a) a:=const rfl
theorem of (h:∀ n,f n=some a):Ev f a:=⟨0,fun n _=>h n⟩
theorem bind {g:Nat->α->Option β}(h:Ev f a)(k:Ev (fun n=>g n a) b):Ev (fun n=>(f n).bind (g n)) b:=by
 obtain⟨N,h⟩:=h
 obtain⟨M,k⟩:=k
 exact⟨max N M,fun n c=>by
  show (f n).bind (g n)=some b
  rw [h n (by omega)];exact k n (by omega)⟩
theorem step {F:Nat->Option α}(e:∀ n,F (n+1)=f n)(h:Ev f a):Ev F a:=by
 obtain⟨N,h⟩:=h
 refine⟨N+1,fun n b=>?_⟩
 obtain⟨m,rfl⟩:∃ m,n=m+1:=⟨n-1,by omega⟩
 rw [e];exact h m (by omega)
theorem congr {g:Nat->Option α}(h:Ev g a)(e:∀ n,f n=g n):Ev f a:=by
 obtain⟨N,h⟩:=h
 exact⟨N,fun n b=>(e n).trans (h n b)⟩
theorem get (h:Ev f a):∃ n,f n=some a:=by
 obtain⟨N,h⟩:=h
 exact⟨N,h N (Ü _)⟩
end Ev
theorem CI {x:Int}(h1 : -9223372036854775808<=x)(h2:x<9223372036854775808):À x=x:=by
 unfold À;rw [IntKind.wrap_i64];omega
end Go.Sp
namespace Go.Sp
open Go Go.Vl
set_option linter.unusedVariables false
def Be:Nat->(List Int)->(List Aa)->Int->Option (List Aa)
 |0,_,_,_=>none
 |n+1,l1,l3,v86 =>
  bif (decide (v86<(l1.length:Int))) then
   (gi l1 v86).bind fun x =>
   (some [3,x,x]).bind fun l4 =>
   (some [(Aa.mk 20 ⟨#[]⟩ l4 x (Do.c 108))]).bind fun l5 =>
   (CH 64 l3 l5).bind fun l6 =>
   ((bif (x == 1) then
    some true
   else
    some (x == 2)
   ):Option Bool).bind fun v103 =>
    bif v103 then
     (some [x,x]).bind fun l7 =>
     (some [x,x]).bind fun l8 =>
     (some [(Aa.mk 4 ⟨#[109,105,110]⟩ l7 x (Do.c 109)),(Aa.mk 4 ⟨#[109,97,120]⟩ l8 x (Do.c 110))]).bind fun l9 =>
     (CH 64 l6 l9).bind fun l10 =>
     Be n l1 l10 (À (v86+1))
    else
     Be n l1 l6 (À (v86+1))
  else
   some l3
def Yr (n:Nat)(l:(List Aa)):Option (List Aa) :=
 (some [1,2,3,4]).bind fun l1 =>
 ((Be n l1 l 0
 ):Option (List Aa)).bind fun l2 =>
  some l2
def AT:Nat->(List Int)->Int->Nat->(List Aa)->Int->Option ((List Aa)×Int×Bool)
 |0,_,_,_,_,_=>none
 |n+1,l1,op,f,l3,v601 =>
  bif (decide (v601<(l1.length:Int))) then
   (gi l1 v601).bind fun x =>
   ((bif (x != 4) then
    some true
   else
    bif (op == 12) then
     some true
    else
     some (op == 13)
   ):Option Bool).bind fun v73 =>
    bif v73 then
     (some [x,x]).bind fun l4 =>
     (some [(Aa.mk op ⟨#[]⟩ l4 3 (Do.is f))]).bind fun l5 =>
     (CH 64 l3 l5).bind fun l6 =>
     AT n l1 op f l6 (À (v601+1))
    else
     AT n l1 op f l3 (À (v601+1))
  else
   some (l3,v601,(decide (v601<(l1.length:Int))))
def Aah (n:Nat)(l:(List Aa))(op:Int)(f:Nat):Option (List Aa) :=
 (some [1,2,4]).bind fun l1 =>
 ((AT n l1 op f l 0
 ):Option ((List Aa)×Int×Bool)).bind fun y=>match y with
 |(l2,v60,v61) =>
  some l2
def C1:Nat->(List Å)->(List Aa)->Int->Option ((List Aa)×Int×Bool)
 |0,_,_,_=>none
 |n+1,l13,l15,v371 =>
  bif (decide (v371<(l13.length:Int))) then
   (gi l13 v371).bind fun x =>
   (some [4]).bind fun l16 =>
   (some [(Aa.mk 4 x l16 2 (Do.k v371))]).bind fun l17 =>
   (CH 64 l15 l17).bind fun l18 =>
   C1 n l13 l18 (À (v371+1))
  else
   some (l15,v371,(decide (v371<(l13.length:Int))))
def Acl (n:Nat):Option (List Aa) :=
 (some [1]).bind fun l =>
 (some [1,1]).bind fun l1 =>
 (some [1,1]).bind fun l2 =>
 (some [2,1]).bind fun l3 =>
 (some [1,1]).bind fun l4 =>
 (some [2,1]).bind fun l5 =>
 (some [2,2]).bind fun l6 =>
 (some [3]).bind fun l7 =>
 (some [3,3]).bind fun l8 =>
 (some [3,3]).bind fun l9 =>
 (some [1]).bind fun l10 =>
 (some [1]).bind fun l11 =>
 (some [(Aa.mk 6 ⟨#[]⟩ l 1 (Do.c 82)),(Aa.mk 7 ⟨#[]⟩ l1 1 (Do.c 83)),(Aa.mk 10 ⟨#[]⟩ l2 1 (Do.c 85)),(Aa.mk 10 ⟨#[]⟩ l3 2 (Do.c 87)),(Aa.mk 11 ⟨#[]⟩ l4 1 (Do.c 89)),(Aa.mk 11 ⟨#[]⟩ l5 2 (Do.c 90)),(Aa.mk 11 ⟨#[]⟩ l6 1 (Do.c 91)),(Aa.mk 5 ⟨#[]⟩ l7 3 (Do.c 92)),(Aa.mk 18 ⟨#[]⟩ l8 3 (Do.c 93)),(Aa.mk 19 ⟨#[]⟩ l9 3 (Do.c 94)),(Aa.mk 4 ⟨#[100,97,121]⟩ l10 2 (Do.c 95)),(Aa.mk 4 ⟨#[112,101,114,115,111,110]⟩ l11 4 (Do.c 97))]).bind fun l12 =>
 (some [⟨#[98,111,114,110]⟩,⟨#[100,105,101,100]⟩,⟨#[97,115,107,101,100]⟩,⟨#[104,101,108,100]⟩,⟨#[108,105,102,116,101,100]⟩]).bind fun l13 =>
 ((C1 n l13 l12 0
 ):Option ((List Aa)×Int×Bool)).bind fun y=>match y with
 |(l14,v37,v38) =>
  some l14
def C9:List (Value×Value):=[(.int .i64 14,.func (.func 100) #[] #[]),(.int .i64 15,.func (.func 101) #[] #[]),(.int .i64 16,.func (.func 102) #[] #[]),(.int .i64 17,.func (.func 103) #[] #[]),(.int .i64 12,.func (.func 104) #[] #[]),(.int .i64 13,.func (.func 105) #[] #[])]
def opk:List (Int×Nat):=[(14,100),(15,101),(16,102),(17,103),(12,104),(13,105)]
end Go.Sp
namespace Go.Sp
open Go Go.Vl
def Fq:List Aa :=
 [⟨6,⟨#[]⟩,[1],1,.c 82⟩,⟨7,⟨#[]⟩,[1,1],1,.c 83⟩,⟨10,⟨#[]⟩,[1,1],1,.c 85⟩,⟨10,⟨#[]⟩,[2,1],2,.c 87⟩,⟨11,⟨#[]⟩,[1,1],1,.c 89⟩,⟨11,⟨#[]⟩,[2,1],2,.c 90⟩,
  ⟨11,⟨#[]⟩,[2,2],1,.c 91⟩,⟨5,⟨#[]⟩,[3],3,.c 92⟩,⟨18,⟨#[]⟩,[3,3],3,.c 93⟩,⟨19,⟨#[]⟩,[3,3],3,.c 94⟩,⟨4,⟨#[100,97,121]⟩,[1],2,.c 95⟩,⟨4,⟨#[112,101,114,115,111,110]⟩,[1],4,.c 97⟩,
  ⟨4,⟨#[98,111,114,110]⟩,[4],2,.k 0⟩,⟨4,⟨#[100,105,101,100]⟩,[4],2,.k 1⟩,⟨4,⟨#[97,115,107,101,100]⟩,[4],2,.k 2⟩,⟨4,⟨#[104,101,108,100]⟩,[4],2,.k 3⟩,⟨4,⟨#[108,105,102,116,101,100]⟩,[4],2,.k 4⟩]
def I1 (op:Int)(f:Nat):List Aa :=
 [⟨op,⟨#[]⟩,[1,1],3,.is f⟩,⟨op,⟨#[]⟩,[2,2],3,.is f⟩]++if op=12∨op=13 then [⟨op,⟨#[]⟩,[4,4],3,.is f⟩] else []
def Gt (i:Nat):List Aa:=match opk[i]? with
 |some (op,f)=>I1 op f
 |none=>[]
def NP:List Aa :=
 [⟨20,⟨#[]⟩,[3,1,1],1,.c 108⟩,⟨4,⟨#[109,105,110]⟩,[1,1],1,.c 109⟩,⟨4,⟨#[109,97,120]⟩,[1,1],1,.c 110⟩,⟨20,⟨#[]⟩,[3,2,2],2,.c 108⟩,⟨4,⟨#[109,105,110]⟩,[2,2],2,.c 109⟩,⟨4,⟨#[109,97,120]⟩,[2,2],2,.c 110⟩,
  ⟨20,⟨#[]⟩,[3,3,3],3,.c 108⟩,⟨20,⟨#[]⟩,[3,4,4],4,.c 108⟩]
def Ord (os:List Nat):Prop:=os.Nodup/\(∀ i∈os,i<6)/\∀ i,i<6->i∈os
theorem Aai:Acl 20=some Fq:=by kernel_rfl
theorem YE {l ys:List Aa}(h1:l.length<=100)(h2:ys.length<=100):CH 64 l ys=some (l++ys):=by
 unfold CH
 rw [Ç (by omega)]
theorem Aag (l:List Aa)(op:Int)(f:Nat)(hl:l.length<=40):Aah 20 l op f=some (l++I1 op f):=by
 unfold Aah
 rw [Á]
 rw [AT.eq_2]
 rw [show (decide ((0:Int)<(([1,2,4]:List Int).length:Int)))=true from rfl,Ñ,show gi ([1,2,4]:List Int) 0=some 1 from rfl,Á]
 rw [show ((1:Int) != 4)=true from rfl,Ñ,Á,Ñ,Á,Á,YE (by omega) (by simp),Á]
 rw [AT.eq_2]
 rw [show (decide (À (0+1)<(([1,2,4]:List Int).length:Int)))=true from rfl,Ñ,show gi ([1,2,4]:List Int) (À (0+1))=some 2 from rfl,Á]
 rw [show ((2:Int) != 4)=true from rfl,Ñ,Á,Ñ,Á,Á,YE (by simp;omega) (by simp),Á]
 rw [AT.eq_2]
 rw [show (decide (À (À (0+1)+1)<(([1,2,4]:List Int).length:Int)))=true from rfl,Ñ,show gi ([1,2,4]:List Int) (À (À (0+1)+1))=some 4 from rfl,Á]
 rw [show ((4:Int) != 4)=false from rfl,Ï]
 by_cases h:op=12∨op=13
 . have e:((bif (op == 12) then some true else some (op == 13)):Option Bool)=some true:=by
    rcases h with h|h<;>subst h<;>rfl
   rw [e,Á,Ñ,Á,Á,YE (by simp;omega) (by simp),Á,AT.eq_2]
   rw [show (decide (À (À (À (0+1)+1)+1)<(([1,2,4]:List Int).length:Int)))=false from rfl,Ï,Á]
   unfold I1
   rw [Ç h]
   simp only [ð]
   rfl
 . have e:((bif (op == 12) then some true else some (op == 13)):Option Bool)=some false:=by
    have a:(op == 12)=false:=by simpa using fun e=>h (.inl e)
    have b:(op == 13)=false:=by simpa using fun e=>h (.inr e)
    rw [a,b];rfl
   rw [e,Á,Ï,AT.eq_2]
   rw [show (decide (À (À (À (0+1)+1)+1)<(([1,2,4]:List Int).length:Int)))=false from rfl,Ï,Á]
   unfold I1
   rw [Ä h]
   simp only [ð]
   rfl
theorem Wh (l:List Aa)(hl:l.length<=40):Yr 20 l=some (l++NP):=by
 unfold Yr
 rw [Á]
 have step:∀ (n:Nat) (v x:Int) (m:List Aa),m.length<=60->(decide (v<(([1,2,3,4]:List Int).length:Int)))=true->gi [1,2,3,4] v=some x ->
  Be (n+1) [1,2,3,4] m v=Be n [1,2,3,4] (m++(⟨20,⟨#[]⟩,[3,x,x],x,.c 108⟩::if x=1∨x=2 then [⟨4,⟨#[109,105,110]⟩,[x,x],x,.c 109⟩,⟨4,⟨#[109,97,120]⟩,[x,x],x,.c 110⟩] else [])) (À (v+1)):=by
  intro n v x m d a b
  rw [Be.eq_2,a,Ñ,b,Á,Á,Á,YE (by omega) (by simp),Á]
  by_cases h:x=1∨x=2
  . have e:((bif (x == 1) then some true else some (x == 2)):Option Bool)=some true:=by
     rcases h with h|h<;>subst h<;>rfl
    rw [e,Á,Ñ,Á,Á,Á,YE (by simp;omega) (by simp),Á,Ç h,ð]
    rfl
  . have e:((bif (x == 1) then some true else some (x == 2)):Option Bool)=some false:=by
     have a:(x == 1)=false:=by simpa using fun e=>h (.inl e)
     have b:(x == 2)=false:=by simpa using fun e=>h (.inr e)
     rw [a,b];rfl
    rw [e,Á,Ï,Ä h]
 rw [step 19 0 1 l (by omega) rfl rfl,step 18 _ 2 _ (by simp;omega) rfl rfl,step 17 _ 3 _ (by simp;omega) rfl rfl,step 16 _ 4 _ (by simp;omega) rfl rfl,Be.eq_2,
  show (decide (À (À (À (À (0+1)+1)+1)+1)<(([1,2,3,4]:List Int).length:Int)))=false from rfl,Ï,Á]
 simp only [ð]
 rfl
theorem Aaf (l:List Aa)(hl:l.length<=40):∃ r,Yr 20 l=some r:=⟨_,Wh l hl⟩
theorem ndl:∀ (n:Nat) (l:List Nat),l.Nodup->(∀ i∈l,i<n)->l.length<=n
 |0,l,_,h=>by
  cases l with
  |nil=>simp
  |cons a r=>exact absurd (h a (by simp)) (by omega)
 |n+1,l,hn,h=>by
  have h1:=ndl n (l.erase n) (hn.erase n) (fun i hi=>by
   have h2:=h i (List.mem_of_mem_erase hi)
   have h3:i≠n:=fun e=>by
    subst e
    exact (List.Nodup.not_mem_erase hn) hi
   omega)
  rw [List.length_erase] at h1
  split at h1<;>omega
theorem XB (i:Nat):(Gt i).length<=3:=by
 unfold Gt
 split
 . unfold I1;split<;>simp
 . simp
theorem PH:∀ (s:List Nat),(s.flatMap Gt).length<=3*s.length
 | []=>by simp
 |a::r=>by
  have h1:=PH r
  have h2:=XB a
  rw [List.flatMap_cons,Ô,æ]
  omega
section
variable {seen:List Nat} {i:Nat} {l l' r:List Aa} {op:Int} {f:Nat}
theorem Ve (hlen:seen.length<=6)(hl:l=Fq++seen.flatMap Gt):l.length<=40:=by
 have:=PH seen
 rw [hl,Ô]
 have e:Fq.length=17:=rfl
 omega
theorem Afp (i:Nat)(h:i<C9.length):∃ op f,C9[i]?=some (.int .i64 op,.func (.func f) #[] #[])/\opk[i]?=some (op,f):=by
 have a:i<6:=h
 match i,a with
 |0,_=>exact⟨14,100,rfl,rfl⟩
 |1,_=>exact⟨15,101,rfl,rfl⟩
 |2,_=>exact⟨16,102,rfl,rfl⟩
 |3,_=>exact⟨17,103,rfl,rfl⟩
 |4,_=>exact⟨12,104,rfl,rfl⟩
 |5,_=>exact⟨13,105,rfl,rfl⟩
theorem Acj (hnd:seen.Nodup)(hlt:∀ i∈seen,i<6)(hall:∀ i,i<C9.length->i∈seen):Ord seen:=⟨hnd,hlt,fun i hi=>hall i hi⟩
theorem nd1 (hnd:seen.Nodup)(hn:i∉seen):(seen++[i]).Nodup:=by
 rw [ď]
 refine⟨hnd,by simp,fun a c b hb=>?_⟩
 rw [List.mem_singleton.1 hb]
 rintro rfl;exact hn c
theorem lt1 (hlt:∀ i∈seen,i<6)(hi:i<C9.length):∀ j∈seen++[i],j<6:=fun j hj=>by
 rcases List.mem_append.1 hj with h|h
 . exact hlt j h
 . rw [List.mem_singleton.1 h];exact hi
theorem Afi (hnd:seen.Nodup)(hlt:∀ i∈seen,i<6)(hn:i∉seen)(hi:i<C9.length):6-(seen++[i]).length<6-seen.length:=by
 have:=ndl 6 _ (nd1 hnd hn) (lt1 hlt hi)
 rw [Ô,List.length_singleton] at this ⊢
 omega
theorem Afj (hnd:seen.Nodup)(hlt:∀ i∈seen,i<6)(hl:l=Fq++seen.flatMap Gt)(hn:i∉seen)(hi:i<C9.length)(hop:opk[i]?=some (op,f))(hB:r=l++I1 op f)(h:some l'=some r) :
 (seen++[i]).Nodup/\(∀ j∈seen++[i],j<6)/\(seen++[i]).length<=6/\l'=Fq++(seen++[i]).flatMap Gt:=by
 refine⟨nd1 hnd hn,lt1 hlt hi,ndl 6 _ (nd1 hnd hn) (lt1 hlt hi),?_⟩
 rw [Af h,hB,hl,List.flatMap_append,ð]
 congr 2
 rw [List.flatMap_cons,List.flatMap_nil,Ĝ]
 unfold Gt
 rw [hop]
end
def opsOf (os:List Nat):List Aa:=Fq++os.flatMap Gt++NP
end Go.Sp
namespace Go.Sp
open Go Go.Vl
def C7:List (ByteArray×Int):=[(⟨#[121,101,97,114]⟩,1),(⟨#[115,116,111,114,101,100]⟩,2),(⟨#[110,101,118,101,114]⟩,2),(⟨#[111,119,110,101,114]⟩,4)]
instance (os:List Nat):Decidable (Ord os):=by unfold Ord;exact inferInstance
def Ra (os:List Nat):List Nat:=if Ord os then os else [0,1,2,3,4,5]
theorem QZ (os:List Nat):Ord (Ra os):=by
 unfold Ra
 split
 . assumption
 . decide
theorem Yq {os:List Nat}(h:Ord os):Ra os=os:=Ç h
abbrev Bh:PV:=.dis fun os=>(opsOf (Ra os)).map AO
abbrev CO:PV:=.vmp (M7 C7)
end Go.Sp
namespace Go.Sp
open Go
def Z9:Aa:=⟨0,⟨#[]⟩,[],0,.nil⟩
abbrev SA (p x:Int):Int×Aa×Ak:=(0,Z9,⟨p,x⟩)
def arity (op:Int):Int:=if op=1∨op=2∨op=3 then 0 else if op=5∨op=6 then 1 else if op=20 then 3 else if op=4 then -1 else 2
theorem Tx (op:Int):DT op=some (arity op):=by
 by_cases c:op=1
 . subst c;rfl
 by_cases d:op=2
 . subst d;rfl
 by_cases e:op=3
 . subst e;rfl
 by_cases f:op=5
 . subst f;rfl
 by_cases g:op=6
 . subst g;rfl
 by_cases b:op=20
 . subst b;rfl
 by_cases i:op=4
 . subst i;rfl
 unfold DT arity
 have b1:(op == 1)=false:=by simpa using c
 have b2:(op == 2)=false:=by simpa using d
 have b3:(op == 3)=false:=by simpa using e
 have b4:(op == 4)=false:=by simpa using i
 have b5:(op == 5)=false:=by simpa using f
 have b6:(op == 6)=false:=by simpa using g
 have b20:(op == 20)=false:=by simpa using b
 simp only [b1,b2,b3,b4,b5,b6,b20,Ï,Á]
 simp [c,d,e,i,f,g,b]
def hit (op:Int)(s:Å)(o:Aa):Bool:=o.op == op&&(!(o.op == 4)||decide (o.name=s))
def pick (op:Int)(s:Å)(ts:List Int)(l:List Aa):Option Aa:=l.find? fun o=>hit op s o&&decide (o.args=ts)
def known (op:Int)(s:Å)(l:List Aa):Bool:=l.any (hit op s)
def MF (op:Int)(s:Å)(ts:List Int)(l:List Aa):Bool:=l.any fun o=>hit op s o&&((o.args.length:Int) == (ts.length:Int))
theorem Qw {k:Nat}(h:k<4611686018427387904):À ((k:Int)+1)=((k+1:Nat):Int):=by
 rw [CI (by omega) (by omega)];omega
theorem Sn {α:Type}{l:List α}{k:Nat}{x:α}{r:List α}(h:l.drop k=x::r):gi l (k:Int)=some x:=by
 have a:l[k]?=some x:=by
  have:=congrArg (·[0]?) h
  simpa [List.getElem?_drop] using this
 unfold gi
 rw [Ç (by omega)];exact a
theorem Ha {α:Type}{l:List α}{k:Nat}{x:α}{r:List α}(h:l.drop k=x::r):l.drop (k+1)=r/\k<l.length:=by
 constructor
 . have:=congrArg (List.drop 1) h
   rw [ĥ] at this
   rw [this];rfl
 . by_cases a:k<l.length
   . exact a
   . rw [č (by omega)] at h;cases h
theorem MN {α:Type}{l:List α}{k:Nat}(h:l.drop k=[])(hk:k<=l.length):k=l.length:=by
 have:=congrArg List.length h
 rw [ù,ì] at this
 omega
theorem Uz {k n:Nat}(h:k<n):(decide ((k:Int)<(n:Int)))=true:=by rw [Í];omega
theorem YX (a b:List Int)(hab:a.length=b.length)(ha:a.length<=1000000000):∀ (r:List Int) (k:Nat),a.drop k=r->k<=a.length->Ev (fun n=>BP n a b (k:Int)) (if a.drop k=b.drop k then .inl () else .inr false)
 | [],k,hr,hk=>by
  have he:=MN hr hk
  refine Ev.step (f:=fun n=>some (.inl ())) (fun n=>?_) ?_
  . rw [BP.eq_2,show (decide ((k:Int)<(a.length:Int)))=false by rw [Û];omega];rfl
  . rw [Ç (by rw [hr,č (by omega)])];exact Ev.pure
 |x::r,k,hr,hk=>by
  obtain⟨h1,h2⟩:=Ha hr
  have hkb:k<b.length:=by omega
  have hb:b.drop k=b[k]::b.drop (k+1):=ě hkb
  have ih:=YX a b hab ha r (k+1) h1 (by omega)
  refine Ev.step (f:=fun n=>bif (x != b[k]) then some (.inr false) else BP n a b ((k+1:Nat):Int)) (fun n=>?_) ?_
  . rw [BP.eq_2,Uz h2,Ñ,Sn hr,Á,Sn hb,Á,Qw (by omega)]
  . by_cases d:x=b[k]
    . subst d
      simp only [Đ,Ï]
      have e:(a.drop k=b.drop k)↔(a.drop (k+1)=b.drop (k+1)):=by
       rw [hr,hb,h1]
       exact⟨fun h=>(ĭ h).2,fun h=>by rw [h]⟩
      by_cases c:a.drop (k+1)=b.drop (k+1)
      . rw [Ç (e.2 c)];rw [Ç c] at ih;exact ih
      . rw [Ä (fun h=>c (e.1 h))];rw [Ä c] at ih;exact ih
    . rw [Ä (by rw [hr,hb];intro h;exact d (ĭ h).1)]
      simp only [show (x != b[k])=true by simpa using d,Ñ]
      exact Ev.pure
theorem YW (a b:List Int)(ha:a.length<=1000000000):Ev (fun n=>D0 n a b) (decide (a=b)):=by
 unfold D0
 by_cases h:a.length=b.length
 . rw [show ((a.length:Int) != (b.length:Int))=false by simp [h]]
   simp only [Ï]
   refine Ev.bind (YX a b h ha _ 0 rfl (Ĉ _)) ?_
   simp only [List.drop_zero]
   by_cases e:a=b
   . rw [Ç e,Ì e];exact Ev.pure
   . rw [Ä e,Ë e];exact Ev.pure
 . rw [show ((a.length:Int) != (b.length:Int))=true by simp;omega]
   rw [Ë (fun e=>h (by rw [e]))]
   exact Ev.pure
def C2 (op:Int)(s:Å)(ts:List Int)(l:List Aa)(kn fi:Bool):(Bool×Bool) ⊕ (Int×Aa×Ak) :=
 match pick op s ts l with
 |some o=>.inr (o.kind,o,⟨0,0⟩)
 |none=>.inl (kn||known op s l,fi||MF op s ts l)
theorem LM (l:List Aa)(ns:List (ByteArray×Int))(e:Ah)(ts:List Int)(hl:l.length<=1000000)(ha:∀ o∈l,o.args.length<=1000) :
 ∀ (r:List Aa) (k:Nat) (kn fi:Bool),l.drop k=r->k<=l.length->Ev (fun n=>AS n ⟨l,ns⟩ e ts kn fi (k:Int)) (C2 e.Op e.S ts r kn fi)
 | [],k,kn,fi,hr,hk=>by
  have he:=MN hr hk
  refine Ev.step (f:=fun n=>some (.inl (kn,fi))) (fun n=>?_) ?_
  . rw [AS.eq_2,show (decide ((k:Int)<(l.length:Int)))=false by rw [Û];omega];rfl
  . have:C2 e.Op e.S ts [] kn fi=.inl (kn,fi):=by simp [C2,pick,known,MF]
    rw [this];exact Ev.pure
 |o::r,k,kn,fi,hr,hk=>by
  obtain⟨j,m⟩:=Ha hr
  have c:o∈l:=í (by rw [hr];simp)
  have a:((bif (o.op != e.Op) then some true else bif (o.op == 4) then some (!decide (o.name=e.S)) else some false):Option Bool)=some (!hit e.Op e.S o):=by
   unfold hit
   by_cases c1:o.op=e.Op
   . rw [show (o.op != e.Op)=false by simp [c1],show (o.op == e.Op)=true by simp [c1],Ï,Bool.true_and]
     cases c2:(o.op == 4) with
     |true=>simp
     |false=>simp
   . rw [show (o.op != e.Op)=true by simp [c1],show (o.op == e.Op)=false by simp [c1],Ñ,Bool.false_and];rfl
  cases b:hit e.Op e.S o with
  |false =>
   have ih:=LM l ns e ts hl ha r (k+1) kn fi j (by omega)
   have es:C2 e.Op e.S ts (o::r) kn fi=C2 e.Op e.S ts r kn fi:=by simp [C2,pick,known,MF,b]
   rw [es]
   refine Ev.step (fun n=>?_) ih
   rw [AS.eq_2,Uz m,Ñ,Sn hr,Á,a,b,Á,Ģ,Ñ,Qw (by omega)]
  |true =>
   have d:((bif fi then some true else some ((o.args.length:Int) == (ts.length:Int))):Option Bool)=some (fi||((o.args.length:Int) == (ts.length:Int))):=by cases fi<;>rfl
   refine Ev.step (f:=fun n=>(D0 n o.args ts).bind fun e9=>bif e9 then some (.inr (o.kind,o,⟨0,0⟩)) else AS n ⟨l,ns⟩ e ts true (fi||((o.args.length:Int) == (ts.length:Int))) ((k+1:Nat):Int)) (fun n=>?_) ?_
   . rw [AS.eq_2,Uz m,Ñ,Sn hr,Á,a,b,Á,þ,Ï,d,Á,Qw (by omega)]
   . refine Ev.bind (YW o.args ts (by have:=ha o c;omega)) ?_
     by_cases e1:o.args=ts
     . have es:C2 e.Op e.S ts (o::r) kn fi=.inr (o.kind,o,⟨0,0⟩):=by simp [C2,pick,b,e1]
       rw [Ì e1,es];exact Ev.pure
     . have ih:=LM l ns e ts hl ha r (k+1) true (fi||((o.args.length:Int) == (ts.length:Int))) j (by omega)
       have es:C2 e.Op e.S ts (o::r) kn fi=C2 e.Op e.S ts r true (fi||((o.args.length:Int) == (ts.length:Int))):=by
        have p:pick e.Op e.S ts (o::r)=pick e.Op e.S ts r:=by simp [pick,b,e1]
        have g:known e.Op e.S (o::r)=true:=by simp [known,b]
        have i:MF e.Op e.S ts (o::r)=(((o.args.length:Int) == (ts.length:Int))||MF e.Op e.S ts r):=by simp [MF,b]
        unfold C2
        rw [p,g,i]
        cases pick e.Op e.S ts r with
        |some o'=>rfl
        |none=>simp only [Bool.or_true,Bool.true_or,Bool.or_assoc]
       rw [Ë e1,es]
       exact ih
end Go.Sp
namespace Go.Sp
open Go
def Se (i:Nat):Int:=((opk[i]?).map (·.1)).getD 0
theorem Ul {i:Nat}{o:Aa}(h:o∈Gt i):o.op=Se i:=by
 unfold Gt at h
 unfold Se
 split at h
 . rename_i op f e
   rw [e]
   unfold I1 at h
   split at h<;>simp at h
   . rcases h with rfl|rfl|rfl<;>rfl
   . rcases h with rfl|rfl<;>rfl
 . simp at h
theorem Ys:∀ i,i<6->∀ j,j<6->Se i=Se j->i=j:=by decide
theorem N9 {l:List Nat}{op:Int}(h:∀ i∈l,Se i≠op):(l.flatMap Gt).filter (fun o=>o.op == op)=[]:=by
 rw [List.filter_eq_nil_iff]
 intro o b
 obtain⟨i,c,a⟩:=List.mem_flatMap.1 b
 have:=h i c
 rw [<- Ul a] at this
 simpa using this
theorem TS {os:List Nat}(h:Ord os)(op:Int):(os.flatMap Gt).filter (fun o=>o.op == op)=match (List.range 6).find? (fun i=>Se i == op) with|some i=>Gt i|none=>[]:=by
 cases c:(List.range 6).find? (fun i=>Se i == op) with
 |none =>
  rw [List.find?_eq_none] at c
  refine N9 fun i m=>?_
  have:=c i (List.mem_range.2 (h.2.1 i m))
  simpa using this
 |some i =>
  have d:=List.find?_some c
  have l:=List.mem_range.1 (List.mem_of_find?_eq_some c)
  have d:Se i=op:=by simpa using d
  obtain⟨l1,l2,rfl⟩:=List.append_of_mem (h.2.2 i l)
  have a:=h.1
  rw [ď] at a
  have f:i∉l1:=fun n=>a.2.2 i n i (by simp) rfl
  have g:i∉l2:=(List.nodup_cons.1 a.2.1).1
  have other:∀ j∈l1++i::l2,j≠i->Se j≠op:=fun j b k e=>k (Ys j (h.2.1 j b) i l (e.trans d.symm))
  rw [List.flatMap_append,ė,List.flatMap_cons,ė]
  rw [N9 (fun j b=>other j (by simp [b]) (fun e=>f (e ▸ b))),N9 (fun j b=>other j (by simp [b]) (fun e=>g (e ▸ b)))]
  rw [ć,Ĝ]
  refine List.filter_eq_self.2 fun o p=>?_
  rw [Ul p,d];simp
def Jl:List Aa:=opsOf [0,1,2,3,4,5]
theorem Wg:Ord [0,1,2,3,4,5]:=by decide
theorem Vq {os:List Nat}(h:Ord os)(op:Int):(opsOf os).filter (fun o=>o.op == op)=Jl.filter (fun o=>o.op == op):=by
 unfold Jl opsOf
 rw [ė,ė,ė,ė,TS h,TS Wg]
theorem YB {op:Int}{s:Å}{o:Aa}(h:hit op s o=true):(o.op == op)=true:=by
 unfold hit at h
 rw [Æ] at h
 exact h.1
theorem Wr (op:Int)(s:Å)(o:Aa):((o.op == op)&&hit op s o)=hit op s o:=by
 cases h:hit op s o with
 |false=>simp
 |true=>simp [YB h]
theorem NW (op:Int)(s:Å)(ts:List Int)(l:List Aa):pick op s ts (l.filter fun o=>o.op == op)=pick op s ts l:=by
 unfold pick
 rw [List.find?_filter]
 congr 1
 funext o
 cases h:hit op s o with
 |false=>simp
 |true=>simp [YB h]
theorem M8 (op:Int)(s:Å)(l:List Aa):known op s (l.filter fun o=>o.op == op)=known op s l:=by
 unfold known
 rw [List.any_filter]
 congr 1
 funext o
 exact Wr op s o
theorem Oh (op:Int)(s:Å)(ts:List Int)(l:List Aa):MF op s ts (l.filter fun o=>o.op == op)=MF op s ts l:=by
 unfold MF
 rw [List.any_filter]
 congr 1
 funext o
 rw [<- Bool.and_assoc,Wr]
theorem RO {os:List Nat}(h:Ord os)(op:Int)(s:Å)(ts:List Int)(kn fi:Bool):C2 op s ts (opsOf os) kn fi=C2 op s ts Jl kn fi:=by
 unfold C2
 rw [<- NW,<- M8,<- Oh,Vq h,NW,M8,Oh]
theorem Xc {os:List Nat}(h:Ord os):(opsOf os).length<=1000000:=by
 unfold opsOf
 have:=PH os
 have a:=ndl 6 os h.1 h.2.1
 rw [Ô,Ô]
 have e1:Fq.length=17:=rfl
 have e2:NP.length=8:=rfl
 omega
theorem UP {os:List Nat}:∀ o∈opsOf os,o.args.length<=1000:=by
 intro o ho
 unfold opsOf at ho
 rcases List.mem_append.1 ho with ho|ho
 . rcases List.mem_append.1 ho with ho|ho
   . have:Fq.all (fun o=>decide (o.args.length<=1000))=true:=by decide
     rw [Ú] at this
     simpa using this o ho
   . obtain⟨i,_,a⟩:=List.mem_flatMap.1 ho
     unfold Gt at a
     split at a
     . unfold I1 at a
       split at a<;>simp at a
       . rcases a with rfl|rfl|rfl<;>simp
       . rcases a with rfl|rfl<;>simp
     . simp at a
 . have:NP.all (fun o=>decide (o.args.length<=1000))=true:=by decide
   rw [Ú] at this
   simpa using this o ho
mutual
def Fg:Ah->Bool
 |.mk _ _ _ kids _=>decide (kids.length<=1000000)&&Nn kids
def Nn:List Ah->Bool
 | []=>true
 |e::l=>Fg e&&Nn l
end
mutual
def Ba:Ah->Int×Aa×Ak
 |.mk op n s kids p =>
  if op<1∨20<op∨(0<=arity op/\(kids.length:Int)≠arity op) then SA p 1
  else match DJ kids with
   |.inr o=>o
   |.inl ts =>
    if op=1 then (if n<0∨999999999999999<n then SA p 1 else (1,Z9,⟨0,0⟩))
    else if op=2 then SA p 7
    else if op=3 then (if (Dl C7 s).2=true then ((Dl C7 s).1,Z9,⟨0,0⟩) else SA p 6)
    else match C2 op s ts Jl false false with
     |.inr o=>o
     |.inl (kn,fi)=>if op=4/\kn=false then SA p 6 else if op=4/\fi=false then SA p 1 else SA p 7
def DJ:List Ah->List Int ⊕ (Int×Aa×Ak)
 | []=>.inl []
 |e::l =>
  if (Ba e).2.2.E≠0 then .inr (0,Z9,(Ba e).2.2)
  else match DJ l with
   |.inl ts=>.inl ((Ba e).1::ts)
   |.inr o=>.inr o
end
theorem Aby {l ys:List Int}(h1:l.length<=1000000)(h2:ys.length<=1000000):CH 8 l ys=some (l++ys):=by
 unfold CH
 rw [Ç (by omega)]
theorem TG (s:Bn)(e:Ah)(hk:e.Kids.length<=1000000)(hf:∀ x∈e.Kids,Ev (fun n=>A5 n s x) (Ba x)) :
 ∀ (r:List Ah) (k:Nat) (ts:List Int),e.Kids.drop k=r->k<=e.Kids.length->ts.length=k->Ev (fun n=>Bt n e s ts (k:Int)) (match DJ r with|.inl us=>.inl (ts++us)|.inr o=>.inr o)
 | [],k,ts,hr,hkl,_=>by
  have he:=MN hr hkl
  refine Ev.step (f:=fun n=>some (.inl ts)) (fun n=>?_) ?_
  . rw [Bt.eq_2,show (decide ((k:Int)<(e.Kids.length:Int)))=false by rw [Û];omega];rfl
  . rw [DJ];simp only [Ĝ];exact Ev.pure
 |x::r,k,ts,hr,hkl,hts=>by
  obtain⟨h1,h2⟩:=Ha hr
  have hmem:x∈e.Kids:=í (by rw [hr];simp)
  refine Ev.step (f:=fun n=>(A5 n s x).bind fun f7=>bif (f7.2.2.E != 0) then some (.inr (0,Z9,f7.2.2)) else Bt n e s (ts++[f7.1]) ((k+1:Nat):Int)) (fun n=>?_) ?_
  . rw [Bt.eq_2,Uz h2,Ñ,Sn hr,Á]
    congr 1
    funext f7
    rw [Á,Aby (by omega) (by simp),Á,Qw (by omega)]
    rfl
  . refine Ev.bind (hf x hmem) ?_
    rw [DJ]
    by_cases c:(Ba x).2.2.E=0
    . have ih:=TG s e hk hf r (k+1) (ts++[(Ba x).1]) h1 (by omega) (by simp [hts])
      simp only [show ((Ba x).2.2.E != 0)=false by simpa using c,Ï]
      rw [Ä (by simpa using c)]
      cases ht:DJ r with
      |inl us=>rw [ht] at ih;simpa [ð] using ih
      |inr o=>rw [ht] at ih;exact ih
    . simp only [show ((Ba x).2.2.E != 0)=true by simpa using c,Ñ]
      rw [Ç c];exact Ev.pure
theorem Xx (ops:List Aa)(os:List Nat)(ho:Ord os)(hops:ops=opsOf os)(e:Ah)(hk:e.Kids.length<=1000000)(hf:∀ x∈e.Kids,Ev (fun n=>A5 n ⟨ops,C7⟩ x) (Ba x)) :
 Ev (fun n=>A5 n ⟨ops,C7⟩ e) (Ba e):=by
 obtain⟨op,num,str,kids,at0⟩:=e
 simp only at hk hf
 have b:=TG ⟨ops,C7⟩ ⟨op,num,str,kids,at0⟩ hk hf kids 0 [] rfl (Ĉ _) rfl
 have a:∀ ts,Ev (fun n=>AS n ⟨ops,C7⟩ ⟨op,num,str,kids,at0⟩ ts false false 0) (C2 op str ts Jl false false):=fun ts=>by
  have:=LM ops C7 ⟨op,num,str,kids,at0⟩ ts (by rw [hops];exact Xc ho) (by rw [hops];exact UP) ops 0 false false rfl (Ĉ _)
  rw [hops,RO ho] at this
  rw [hops];exact this
 refine Ev.step (fun n=>A5.eq_2 ⟨ops,C7⟩ ⟨op,num,str,kids,at0⟩ n) ?_
 simp only [Tx,Á,AR]
 rw [Ba]
 have j:((bif (decide (op<1)) then some true else bif (decide (20<op)) then some true else bif (decide (0<=arity op)) then some ((kids.length:Int) != arity op) else some false):Option Bool) =
  some (decide (op<1∨20<op∨(0<=arity op/\(kids.length:Int)≠arity op))):=by
  by_cases c1:op<1
  . simp [c1]
  by_cases c2:20<op
  . simp [c1,c2]
  by_cases c3:0<=arity op
  . by_cases c4:(kids.length:Int)=arity op
    . simp [c1,c2,c3,c4]
    . simp [c1,c2,c3,c4]
  . simp [c1,c2,c3]
 simp only [j,Á]
 by_cases c:op<1∨20<op∨(0<=arity op/\(kids.length:Int)≠arity op)
 . rw [Ç c]
   simp only [Ì c,Ñ,Á]
   exact Ev.pure
 . rw [Ä c]
   simp only [Ë c,Ï]
   refine Ev.bind b ?_
   cases k:DJ kids with
   |inr o=>exact Ev.pure
   |inl ts =>
    simp only [ć]
    by_cases d:op=1
    . subst d
      simp only [Ă,Ñ,ø]
      by_cases n1:num<0
      . simp only [n1,decide_true,Ñ,Á,true_or,ø];exact Ev.pure
      . by_cases n2:999999999999999<num
        . simp only [n1,n2,decide_true,decide_false,Ñ,Ï,Á,or_true,ø];exact Ev.pure
        . simp only [n1,n2,decide_false,Ï,Á,or_self,û];exact Ev.pure
    simp only [show (op == 1)=false by simpa using d,Ï,Ä d]
    by_cases f:op=2
    . subst f
      simp only [Ă,Ñ,ø,Á];exact Ev.pure
    simp only [show (op == 2)=false by simpa using f,Ï,Ä f]
    by_cases g:op=3
    . subst g
      simp only [Ă,Ñ,ø]
      cases l:(Dl C7 str).2 with
      |true=>simp only [Ñ,ø];exact Ev.pure
      |false=>simp only [Ï,â,û,Á];exact Ev.pure
    simp only [show (op == 3)=false by simpa using g,Ï,Ä g]
    refine Ev.bind (a ts) ?_
    cases hs:C2 op str ts Jl false false with
    |inr o=>exact Ev.pure
    |inl y =>
     obtain⟨kn,fi⟩:=y
     simp only
     by_cases i:op=4
     . subst i
       simp only [Ă,Ñ,Á,õ]
       cases kn with
       |false=>simp only [Ģ,Ñ,ø,Á];exact Ev.pure
       |true =>
        cases fi with
        |false=>simp only [þ,Ģ,Ñ,Ï,ø,Á,Bool.true_eq_false,û];exact Ev.pure
        |true=>simp only [þ,Ï,Á,Bool.true_eq_false,û];exact Ev.pure
     . simp only [show (op == 4)=false by simpa using i,Ï,Á,i,false_and,û];exact Ev.pure
mutual
theorem Sr {os:List Nat}(ho:Ord os):∀ (e:Ah),Fg e=true->Ev (fun n=>A5 n ⟨opsOf os,C7⟩ e) (Ba e)
 |.mk op num str kids at0,h=>by
  rw [Fg,Æ,Í] at h
  exact Xx (opsOf os) os ho rfl _ h.1 (TU ho kids h.2)
theorem TU {os:List Nat}(ho:Ord os):∀ (l:List Ah),Nn l=true->∀ x∈l,Ev (fun n=>A5 n ⟨opsOf os,C7⟩ x) (Ba x)
 | [],_,x,hx=>by simp at hx
 |e::l,h,x,hx=>by
  rw [Nn,Æ] at h
  rcases List.mem_cons.1 hx with hx|hx
  . rw [hx];exact Sr ho e h.1
  . exact TU ho l h.2 x hx
end
def Hn (e:Ah):Option (Int×Aa×Ak):=if Fg e=true then some (Ba e) else none
end Go.Sp
namespace Go.Sp
open Go
def HP (n:Int):Int:=if n < -999999999999999 then -999999999999999 else if 999999999999999<n then 999999999999999 else n
def KG (n:Int):Int:=if n<0 then 0 else if 41667<n then 41667 else n
def Qa (n:Int):Int:=if n<0 then 0 else if 1000<n then 1000 else n
def En (d n:Int):Int:=if d=41667 then d else KG (d+n)
def HU (t v:Int):Prop:=(t=1/\-999999999999999<=v/\v<=999999999999999)∨(t=2/\0<=v/\v<=41667)∨(t=3/\0<=v/\v<=1)∨(t=4/\0<=v/\v<=1000)
def okF (f:Bo):Bool:=decide (1<=f.Kind/\f.Kind<=5/\1<=f.Who/\f.Who<=1000/\0<=f.Day/\f.Day<=41666/\0<=f.Known/\f.Known<=41666)
def DL (d:Ap)(known:Int):Int :=
 if 200<d.Facts.length then 2
 else if d.Facts.all okF=true/\0<=d.Stored/\d.Stored<=41666/\0<=known/\known<=41666/\0<=d.Owner/\d.Owner<=1000 then 0 else 1
structure OkM (m:Ai):Prop where
 len:m.d.Facts.length<=200
 facts:∀ f∈m.d.Facts,okF f=true
 st:0<=m.d.Stored/\m.d.Stored<=41666
 kn:0<=m.known/\m.known<=41666
 ow:0<=m.d.Owner/\m.d.Owner<=1000
theorem Yw {m:Ai}(h:DL m.d m.known=0):OkM m:=by
 unfold DL at h
 split at h
 . cases h
 . rename_i c
   split at h
   . rename_i b
     exact⟨by omega,List.all_eq_true.1 b.1,⟨b.2.1,b.2.2.1⟩,⟨b.2.2.2.1,b.2.2.2.2.1⟩,b.2.2.2.2.2⟩
   . cases h
theorem UL (x1 x0 y1 y0:Int):(4294967296*x1+x0)*(4294967296*y1+y0)=18446744073709551616*(x1*y1)+4294967296*(x1*y0)+4294967296*(x0*y1)+x0*y0:=by
 grind
theorem Zn {x:Int}(h0:0<=x)(h1:x<18446744073709551616):bits .and .u64 x 4294967295=x % 4294967296:=by
 have h:=bits_mask .u64 64 (by decide) wraps_u64 32 (by decide) x h0 (by omega)
 simpa using h
theorem Y1 (x y:Int)(hx:0<=x)(hx2:x<=999999999999999)(hy:0<=y)(hy2:y<=999999999999999):Et x y=some (x*y / 18446744073709551616,x*y % 18446744073709551616):=by
 have hs:(2:Int) ^ min (32:Int).toNat IntKind.u64.bits=4294967296:=by decide
 unfold Et
 rw [hs,Zn hx (by omega),Zn hy (by omega)]
 simp only [Int.fdiv_eq_ediv_of_nonneg _ (show (0:Int)<=4294967296 by decide)]
 have ex:x=4294967296*(x / 4294967296)+x % 4294967296:=by omega
 have ey:y=4294967296*(y / 4294967296)+y % 4294967296:=by omega
 have a:=UL (x / 4294967296) (x % 4294967296) (y / 4294967296) (y % 4294967296)
 rw [<- ex,<- ey] at a
 rw [IntKind.wrap_u64 (x*y)]
 have b1:0<=x / 4294967296/\x / 4294967296<=232831:=by omega
 have b2:0<=x % 4294967296/\x % 4294967296<=4294967295:=by omega
 have b3:0<=y / 4294967296/\y / 4294967296<=232831:=by omega
 have b4:0<=y % 4294967296/\y % 4294967296<=4294967295:=by omega
 generalize x / 4294967296=x1 at *
 generalize x % 4294967296=x0 at *
 generalize y / 4294967296=y1 at *
 generalize y % 4294967296=y0 at *
 have p1:=Int.mul_le_mul b1.2 b3.2 b3.1 (by decide)
 have p2:=Int.mul_le_mul b1.2 b4.2 b4.1 (by decide)
 have p3:=Int.mul_le_mul b2.2 b3.2 b3.1 (by decide)
 have p4:=Int.mul_le_mul b2.2 b4.2 b4.1 (by decide)
 have q1:=Int.mul_nonneg b1.1 b3.1
 have q2:=Int.mul_nonneg b1.1 b4.1
 have q3:=Int.mul_nonneg b2.1 b3.1
 have q4:=Int.mul_nonneg b2.1 b4.1
 rw [a]
 generalize x1*y1=A at *
 generalize x1*y0=B at *
 generalize x0*y1=E at *
 generalize x0*y0=C at *
 rw [wraps_u64 A (by omega) (by omega),wraps_u64 B (by omega) (by omega),wraps_u64 C (by omega) (by omega),wraps_u64 E (by omega) (by omega)]
 rw [wraps_u64 (B+C / 4294967296) (by omega) (by omega)]
 rw [Zn (by omega) (by omega)]
 rw [wraps_u64 (A+(B+C / 4294967296) / 4294967296) (by omega) (by omega),wraps_u64 ((B+C / 4294967296) % 4294967296+E) (by omega) (by omega)]
 rw [wraps_u64 _ (by omega) (by omega)]
 congr 2
 omega
theorem Zq {a:Int}(h : -999999999999999<=a/\a<=999999999999999):IntKind.u64.wrap (if (À (0-a)) > a then (À (0-a)) else a)=if a<0 then -a else a:=by
 rw [CI (by omega) (by omega)]
 by_cases c:a<0
 . rw [Ç (by omega),Ç c,wraps_u64 _ (by omega) (by omega)];omega
 . rw [Ä (by omega),Ä c,wraps_u64 _ (by omega) (by omega)]
theorem XW (a b:Int)(ha : -999999999999999<=a/\a<=999999999999999)(hb : -999999999999999<=b/\b<=999999999999999):Da a b=some (HP (a*b)):=by
 unfold Da
 rw [Zq ha,Zq hb]
 generalize f:(if a<0 then -a else a)=x
 generalize g:(if b<0 then -b else b)=y
 have x0:0<=x/\x<=999999999999999:=by split at f<;>omega
 have y0:0<=y/\y<=999999999999999:=by split at g<;>omega
 rw [Y1 x y x0.1 x0.2 y0.1 y0.2,Á]
 have k:=Int.mul_nonneg x0.1 y0.1
 have d:a*b=if (decide (a<0)) == (decide (b<0)) then x*y else -(x*y):=by
  grind [Da,HP]
 generalize x*y=p at *
 have i:((bif ((p / 18446744073709551616:Int) == 0) then some (decide ((p % 18446744073709551616:Int)<999999999999999)) else some false):Option Bool)=some (decide (p<999999999999999)):=by
  by_cases c:p / 18446744073709551616=0
  . grind [Da,HP]
  . rw [show ((p / 18446744073709551616:Int) == 0)=false by simpa using c,Ï]
    congr 1
    symm;rw [Û];omega
 simp only [i,Á]
 have j:((bif (decide (p<999999999999999)) then some (À (p % 18446744073709551616)) else some 999999999999999):Option Int)=some (if p<999999999999999 then p else 999999999999999):=by
  by_cases c:p<999999999999999
  . rw [Ì c,Ñ,Ç c,CI (by omega) (by omega)];congr 1;omega
  . rw [Ë c,Ï,Ä c]
 simp only [j,Á]
 rw [d]
 have e:∃ q,(if p<999999999999999 then p else 999999999999999)=q/\0<=q/\q<=999999999999999/\(p<=999999999999999->q=p)/\(999999999999999<p->q=999999999999999):=by
  refine⟨_,rfl,?_⟩
  split<;>omega
 obtain⟨q,e,q1,q2,q3,q4⟩:=e
 rw [e]
 unfold HP
 cases l:(decide (a<0)) == (decide (b<0)) with
 |true =>
  rw [þ,Ï,Ç rfl,Ä (by omega)]
  congr 1
  by_cases c:999999999999999<p
  . rw [Ç c];omega
  . rw [Ä c];omega
 |false =>
  rw [Ģ,Ñ,Ä Bool.false_ne_true,CI (by omega) (by omega)]
  congr 1
  by_cases c:999999999999999<p
  . rw [Ç (by omega)];omega
  . rw [Ä (by omega),Ä (by omega)];omega
def ZA (known kind who:Int)(f:Bo):Bool:=f.Kind == kind&&(f.Who == who&&decide (f.Known<=known))
def QY (b:Option Bo)(f:Bo):Bool:=match b with
 |none=>true
 |some g=>decide (g.Known<=f.Known)
def JI (p:Bo->Bool):List Bo->Option Bo->Option Bo
 | [],b=>b
 |f::r,b=>JI p r (if (p f&&QY b f)=true then some f else b)
def Zd:Option Bo->Int
 |none=>41667
 |some f=>f.Day
def Dk (m:Ai)(kind who:Int):Int:=Zd (JI (ZA m.known kind who) m.d.Facts none)
def Aed (l:List Bo)(i:Int)(b:Option Bo):Prop:=match b with
 |none=>i = -1
 |some f=>0<=i/\gi l i=some f
theorem PL (m:Ai)(kind who:Int)(hl:m.d.Facts.length<=200):∀ (r:List Bo) (k:Nat) (i:Int) (b:Option Bo),m.d.Facts.drop k=r->k<=m.d.Facts.length->Aed m.d.Facts i b ->
 ∃ j,Ev (fun n=>Bu n m kind who i (k:Int)) j/\Aed m.d.Facts j (JI (ZA m.known kind who) r b)
 | [],k,i,b,hr,hk,hb=>by
  have he:=MN hr hk
  refine⟨i,Ev.step (f:=fun n=>some i) (fun n=>?_) Ev.pure,hb⟩
  rw [Bu.eq_2,show (decide ((k:Int)<(m.d.Facts.length:Int)))=false by rw [Û];omega];rfl
 |f::r,k,i,b,hr,hk,hb=>by
  obtain⟨h1,h2⟩:=Ha hr
  have hg:=Sn hr
  have hc:((bif (f.Kind == kind) then
   bif (f.Who == who) then
    bif (decide (f.Known<=m.known)) then
     bif (decide (i<0)) then
      some true
     else
      (gi m.d.Facts i).bind fun x2 =>
      some (decide (x2.Known<=f.Known))
    else
     some false
   else
    some false
   else
    some false
   ):Option Bool)=some (ZA m.known kind who f&&QY b f):=by
   unfold ZA
   cases (f.Kind == kind)<;>cases (f.Who == who)<;>cases (decide (f.Known<=m.known))<;>simp only [Ñ,Ï,Ğ,Bool.true_and,Bool.false_and,Bool.and_false]
   cases b with
   |none =>
    have:i = -1:=hb
    subst this
    rfl
   |some g =>
    have hb:0<=i/\gi m.d.Facts i=some g:=hb
    rw [show decide (i<0)=false by rw [Û];omega,Ï,hb.2];rfl
  cases e:(ZA m.known kind who f&&QY b f) with
  |true =>
   obtain⟨j,a,c⟩:=PL m kind who hl r (k+1) (k:Int) (some f) h1 (by omega) ⟨by omega,hg⟩
   refine⟨j,Ev.step (fun n=>?_) a,?_⟩
   . grind [Bu.eq_2,Uz,Qw]
   . rw [JI,Ç e];exact c
  |false =>
   obtain⟨j,a,c⟩:=PL m kind who hl r (k+1) i b h1 (by omega) hb
   refine⟨j,Ev.step (fun n=>?_) a,?_⟩
   . grind [Bu.eq_2,Uz,Qw]
   . rw [JI,Ä (by rw [e];exact Bool.false_ne_true)];exact c
theorem Aa9 (m:Ai)(kind who:Int)(hl:m.d.Facts.length<=200):Ev (fun n=>Cr n m kind who) (Dk m kind who):=by
 obtain⟨j,b,a⟩:=PL m kind who hl m.d.Facts 0 (-1) none rfl (Ĉ _) rfl
 unfold Cr
 refine Ev.bind b ?_
 unfold Dk
 cases hb:JI (ZA m.known kind who) m.d.Facts none with
 |none =>
  rw [hb] at a
  have:j = -1:=a
  subst this
  exact Ev.pure
 |some f =>
  rw [hb] at a
  have a:0<=j/\gi m.d.Facts j=some f:=a
  simp only [show decide (j<0)=false by rw [Û];omega,Ï,a.2,Á]
  exact Ev.pure
theorem R3 {p:Bo->Bool}:∀ {l:List Bo} {b:Option Bo} {f:Bo},JI p l b=some f->f∈l∨b=some f
 | [],b,f,h=>.inr h
 |x::l,b,f,h=>by
  rw [JI] at h
  rcases R3 h with h|h
  . exact .inl (è _ h)
  . split at h
    . exact .inl (by rw [Af h];simp)
    . exact .inr h
theorem Y4 {m:Ai}(hm:OkM m)(kind who:Int):0<=Dk m kind who/\Dk m kind who<=41667:=by
 unfold Dk
 cases hb:JI (ZA m.known kind who) m.d.Facts none with
 |none=>exact⟨by decide,by decide⟩
 |some f =>
  rcases R3 hb with h|h
  . have:=hm.facts f h
    unfold okF at this
    rw [Í] at this
    unfold Zd
    simp only
    omega
  . cases h
def K7 (b:Bool):Int:=if b=true then 1 else 0
def Sd (m:Ai)(d:Do)(x:List Int):Int:=match d with
 |.c 82=>-(x.getD 0 0)
 |.c 83=>HP (x.getD 0 0*x.getD 1 0)
 |.c 85=>HP (x.getD 0 0+x.getD 1 0)
 |.c 87=>En (x.getD 0 0) (x.getD 1 0)
 |.c 89=>HP (x.getD 0 0-x.getD 1 0)
 |.c 90=>En (x.getD 0 0) (-(x.getD 1 0))
 |.c 91=>x.getD 0 0-x.getD 1 0
 |.c 92=>1-x.getD 0 0
 |.c 93=>x.getD 0 0*x.getD 1 0
 |.c 94=>max (x.getD 0 0) (x.getD 1 0)
 |.c 95=>KG (x.getD 0 0)
 |.c 97=>Qa (x.getD 0 0)
 |.c 108=>if x.getD 0 0=1 then x.getD 1 0 else x.getD 2 0
 |.c 109=>min (x.getD 0 0) (x.getD 1 0)
 |.c 110=>max (x.getD 0 0) (x.getD 1 0)
 |.k k=>Dk m (k+1) (x.getD 0 0)
 |.is 100=>K7 (decide (x.getD 0 0<x.getD 1 0))
 |.is 101=>K7 (decide (x.getD 0 0<=x.getD 1 0))
 |.is 102=>K7 (decide (x.getD 1 0<x.getD 0 0))
 |.is 103=>K7 (decide (x.getD 1 0<=x.getD 0 0))
 |.is 104=>K7 (x.getD 0 0 == x.getD 1 0)
 |.is 105=>K7 (x.getD 0 0 != x.getD 1 0)
 |_=>0
def Q9:List Int->List Int->Prop
 | [],[]=>True
 |t::ts,x::xs=>HU t x/\Q9 ts xs
 |_,_=>False
theorem Afw {t:Int}{xs:List Int}(h:Q9 [t] xs):∃ a,xs=[a]/\HU t a:=by
 match xs,h with
 | [a],h=>exact⟨a,rfl,h.1⟩
theorem Afv {t u:Int}{xs:List Int}(h:Q9 [t,u] xs):∃ a b,xs=[a,b]/\HU t a/\HU u b:=by
 match xs,h with
 | [a,b],h=>exact⟨a,b,rfl,h.1,h.2.1⟩
theorem Afu {t u v:Int}{xs:List Int}(h:Q9 [t,u,v] xs):∃ a b c,xs=[a,b,c]/\HU t a/\HU u b/\HU v c:=by
 match xs,h with
 | [a,b,c],h=>exact⟨a,b,c,rfl,h.1,h.2.1,h.2.2.1⟩
theorem Rf (n:Int):CB n=some (HP n):=by
 unfold CB HP
 congr 1
 repeat' split
 all_goals omega
theorem Zc (n:Int):Ff n=some (KG n):=by
 unfold Ff KG
 congr 1
 repeat' split
 all_goals omega
theorem T8 {d n:Int}(h : -1000000000000000<=n/\n<=1000000000000000)(h2:0<=d/\d<=41667):Db d n=some (En d n):=by
 grind [Db,En,Zc,CI]
theorem Ab5 {a b:Int}(ha:0<=a/\a<=1)(hb:0<=b/\b<=1):bits .and .i64 a b=a*b/\bits .or .i64 a b=max a b:=by
 have c:a=0∨a=1:=by omega
 have d:b=0∨b=1:=by omega
 rcases c with rfl|rfl<;>rcases d with rfl|rfl<;>decide
theorem YM (b:Bool):(CU b).bind (fun f=>some f)=some (K7 b):=by cases b<;>rfl
instance (t v:Int):Decidable (HU t v):=by unfold HU;exact inferInstance
theorem Aa5 (b:Bool):HU 3 (K7 b):=by cases b<;>decide
theorem op1 {t:Int}(m:Ai){d:Do}{k:Int}(h:∀ a,HU t a->Ev (fun n=>Gj n d m [a]) (Sd m d [a])/\HU k (Sd m d [a])):∀ xs,Q9 [t] xs->Ev (fun n=>Gj n d m xs) (Sd m d xs)/\HU k (Sd m d xs):=by
 intro xs b
 obtain⟨a,rfl,c⟩:=Afw b
 exact h a c
theorem Yt {t u:Int}(m:Ai){d:Do}{k:Int}(h:∀ a b,HU t a->HU u b->Ev (fun n=>Gj n d m [a,b]) (Sd m d [a,b])/\HU k (Sd m d [a,b])):∀ xs,Q9 [t,u] xs->Ev (fun n=>Gj n d m xs) (Sd m d xs)/\HU k (Sd m d xs):=by
 intro xs c
 obtain⟨a,b,rfl,e,f⟩:=Afv c
 exact h a b e f
theorem op3 {t u v:Int}(m:Ai){d:Do}{k:Int}(h:∀ a b c,HU t a->HU u b->HU v c->Ev (fun n=>Gj n d m [a,b,c]) (Sd m d [a,b,c])/\HU k (Sd m d [a,b,c])):∀ xs,Q9 [t,u,v] xs->Ev (fun n=>Gj n d m xs) (Sd m d xs)/\HU k (Sd m d xs):=by
 intro xs e
 obtain⟨a,b,c,rfl,f,g,i⟩:=Afu e
 exact h a b c f g i
theorem in1 {v:Int}(h:HU 1 v) : -999999999999999<=v/\v<=999999999999999:=by unfold HU at h;omega
theorem in2 {v:Int}(h:HU 2 v):0<=v/\v<=41667:=by unfold HU at h;omega
theorem ZB {v:Int}(h:HU 3 v):0<=v/\v<=1:=by unfold HU at h;omega
theorem to1 {v:Int}(h : -999999999999999<=v/\v<=999999999999999):HU 1 v:=by unfold HU;omega
theorem to2 {v:Int}(h:0<=v/\v<=41667):HU 2 v:=by unfold HU;omega
theorem to3 {v:Int}(h:0<=v/\v<=1):HU 3 v:=by unfold HU;omega
theorem to4 {v:Int}(h:0<=v/\v<=1000):HU 4 v:=by unfold HU;omega
theorem NI (n:Int):HU 1 (HP n):=to1 (by unfold HP;split<;>(try split)<;>omega)
theorem R1 (n:Int):HU 2 (KG n):=to2 (by unfold KG;split<;>(try split)<;>omega)
theorem XG (n:Int):HU 4 (Qa n):=to4 (by unfold Qa;split<;>(try split)<;>omega)
theorem T9 {d:Int}(n:Int)(h:0<=d/\d<=41667):HU 2 (En d n):=by
 unfold En
 split
 . exact to2 h
 . exact R1 _
def SO (m:Ai)(o:Aa):Prop:=∀ xs,Q9 o.args xs->Ev (fun n=>Gj n o.do_ m xs) (Sd m o.do_ xs)/\HU o.kind (Sd m o.do_ xs)
theorem Aal (m:Ai)(hm:OkM m):∀ o∈Fq,SO m o:=by
 have fact:∀ (s:Å) (k:Int),k=0∨k=1∨k=2∨k=3∨k=4->SO m ⟨4,s,[4],2,.k k⟩:=fun s k g=>op1 m fun a c=>by
  refine⟨?_,to2 (Y4 hm _ _)⟩
  show Ev (fun n=>(gi [a] 0).bind fun x1=>(Cr n m (À (k+1)) x1).bind fun f=>some f) (Dk m (k+1) a)
  rw [CI (by omega) (by omega)]
  show Ev (fun n=>(Cr n m (k+1) a).bind fun f=>some f) (Dk m (k+1) a)
  exact Ev.bind (Aa9 m (k+1) a hm.len) Ev.pure
 unfold Fq
 simp only [List.forall_mem_cons,List.not_mem_nil,false_imp_iff,implies_true,and_true]
 refine⟨?_,?_,?_,?_,?_,?_,?_,?_,?_,?_,?_,?_,fact _ _ (by simp),fact _ _ (by simp),fact _ _ (by simp),fact _ _ (by simp),fact _ _ (by simp)⟩
 . refine op1 m fun a c=>?_
   have:=in1 c
   refine⟨Ev.const ?_,to1 (by show _<=-a/\-a<=_;omega)⟩
   show some (À (0-a))=some (-a)
   rw [CI (by omega) (by omega)];congr 1;omega
 . refine Yt m fun a b c hb=>⟨Ev.const ?_,NI _⟩
   show (Da a b).bind _=_
   rw [XW a b (in1 c) (in1 hb)];rfl
 . refine Yt m fun a b c hb=>⟨Ev.const ?_,NI _⟩
   have:=in1 c
   have:=in1 hb
   show (CB (À (a+b))).bind _=_
   rw [CI (by omega) (by omega),Rf];rfl
 . refine Yt m fun a b c hb=>⟨Ev.const ?_,T9 _ (in2 c)⟩
   have:=in1 hb
   show (Db a b).bind _=_
   rw [T8 (by omega) (in2 c)];rfl
 . refine Yt m fun a b c hb=>⟨Ev.const ?_,NI _⟩
   have:=in1 c
   have:=in1 hb
   show (CB (À (a-b))).bind _=_
   rw [CI (by omega) (by omega),Rf];rfl
 . refine Yt m fun a b c hb=>⟨Ev.const ?_,T9 _ (in2 c)⟩
   have:=in1 hb
   show (Db a (À (0-b))).bind _=_
   rw [CI (by omega) (by omega),T8 (by omega) (in2 c),show (0:Int)-b = -b by omega];rfl
 . refine Yt m fun a b c hb=>?_
   have:=in2 c
   have:=in2 hb
   refine⟨Ev.const ?_,to1 (by show _<=a-b/\a-b<=_;omega)⟩
   show some (À (a-b))=some (a-b)
   rw [CI (by omega) (by omega)]
 . refine op1 m fun a c=>?_
   have:=ZB c
   refine⟨Ev.const ?_,to3 (by show _<=1-a/\1-a<=_;omega)⟩
   show some (À (1-a))=some (1-a)
   rw [CI (by omega) (by omega)]
 . refine Yt m fun a b c hb=>?_
   have d:a=0∨a=1:=by have:=ZB c;omega
   have e:b=0∨b=1:=by have:=ZB hb;omega
   refine⟨Ev.const ?_,?_⟩
   . show some (bits .and .i64 a b)=some (a*b)
     rw [(Ab5 (ZB c) (ZB hb)).1]
   . show HU 3 (a*b)
     rcases d with rfl|rfl<;>rcases e with rfl|rfl<;>decide
 . refine Yt m fun a b c hb=>?_
   have d:a=0∨a=1:=by have:=ZB c;omega
   have e:b=0∨b=1:=by have:=ZB hb;omega
   refine⟨Ev.const ?_,?_⟩
   . show some (bits .or .i64 a b)=some (max a b)
     rw [(Ab5 (ZB c) (ZB hb)).2]
   . show HU 3 (max a b)
     rcases d with rfl|rfl<;>rcases e with rfl|rfl<;>decide
 . refine op1 m fun a c=>⟨Ev.const ?_,R1 _⟩
   show (Ff a).bind _=_
   rw [Zc];rfl
 . refine op1 m fun a c=>⟨Ev.const ?_,XG _⟩
   show some (if (if 1000<a then 1000 else a) > 0 then (if 1000<a then 1000 else a) else 0)=some (Qa a)
   unfold Qa
   congr 1
   repeat' split
   all_goals omega
theorem Aco (m:Ai)(i:Nat):∀ o∈Gt i,SO m o:=by
 have cmp:∀ (op t:Int) (f:Nat),f=100∨f=101∨f=102∨f=103∨f=104∨f=105->SO m ⟨op,⟨#[]⟩,[t,t],3,.is f⟩:=fun op t f d=>Yt m fun a b _ _=>by
  rcases d with rfl|rfl|rfl|rfl|rfl|rfl<;>exact⟨Ev.const (YM _),Aa5 _⟩
 intro o c
 unfold Gt at c
 split at c
 . rename_i op f e
   have d:f=100∨f=101∨f=102∨f=103∨f=104∨f=105:=by
    grind [opk,List.mem_of_getElem?]
   unfold I1 at c
   split at c<;>simp at c
   . rcases c with rfl|rfl|rfl<;>exact cmp _ _ _ d
   . rcases c with rfl|rfl<;>exact cmp _ _ _ d
 . simp at c
theorem Aak (m:Ai):∀ o∈NP,SO m o:=by
 have ite:∀ t:Int,SO m ⟨20,⟨#[]⟩,[3,t,t],t,.c 108⟩:=fun t=>op3 m fun a b c d hb f=>by
  have g:a=0∨a=1:=by have:=ZB d;omega
  rcases g with rfl|rfl
  . exact⟨Ev.const rfl,f⟩
  . exact⟨Ev.const rfl,hb⟩
 have mn:∀ t:Int,SO m ⟨4,⟨#[109,105,110]⟩,[t,t],t,.c 109⟩:=fun t=>Yt m fun a b d hb=>by
  have e:Sd m (.c 109) [a,b]=min a b:=rfl
  rw [e]
  refine⟨Ev.const ?_,?_⟩
  . show some (if b<a then b else a)=some (min a b)
    congr 1
    split<;>omega
  . grind [NP]
 have mx:∀ t:Int,SO m ⟨4,⟨#[109,97,120]⟩,[t,t],t,.c 110⟩:=fun t=>Yt m fun a b d hb=>by
  have e:Sd m (.c 110) [a,b]=max a b:=rfl
  rw [e]
  refine⟨Ev.const ?_,?_⟩
  . show some (if b > a then b else a)=some (max a b)
    congr 1
    split<;>omega
  . grind [NP]
 unfold NP
 simp only [List.forall_mem_cons,List.not_mem_nil,false_imp_iff,implies_true,and_true]
 exact⟨ite 1,mn 1,mx 1,ite 2,mn 2,mx 2,ite 3,ite 4⟩
theorem Ack (m:Ai)(hm:OkM m)(os:List Nat):∀ o∈opsOf os,SO m o:=by
 grind [opsOf,Aal,Aco,Aak]
theorem R4 {p x:Int}(h:x≠0):¬ (SA p x).2.2.E=0:=h
theorem YO {op num at0:Int}{str:Å}{kids:List Ah}(h:(Ba (.mk op num str kids at0)).2.2.E=0) :
 ∃ ts,DJ kids=.inl ts/\((op=1/\0<=num/\num<=999999999999999/\kids=[]/\Ba (.mk op num str kids at0)=(1,Z9,⟨0,0⟩))
  ∨ (op=3/\(Dl C7 str).2=true/\kids=[]/\Ba (.mk op num str kids at0)=((Dl C7 str).1,Z9,⟨0,0⟩))
  ∨ (op≠1/\op≠3/\∃ o,o∈Jl/\pick op str ts Jl=some o/\o.args=ts/\Ba (.mk op num str kids at0)=(o.kind,o,⟨0,0⟩))):=by
 rw [Ba] at h ⊢
 by_cases c:op<1∨20<op∨(0<=arity op/\(kids.length:Int)≠arity op)
 . rw [Ç c] at h;exact absurd h (R4 (by decide))
 rw [Ä c] at h ⊢
 cases g:DJ kids with
 |inr o =>
  rw [g] at h
  exfalso
  have key:∀ (l:List Ah) (o:Int×Aa×Ak),DJ l=.inr o->o.2.2.E≠0:=by
   intro l
   induction l with
   |nil=>intro o h;cases h
   |cons e l ih =>
    intro o h
    rw [DJ] at h
    split at h
    . rename_i a;cases h;exact a
    . split at h
      . cases h
      . rename_i d;cases h;exact ih _ d
  exact key _ _ g h
 |inl ts =>
  refine⟨ts,rfl,?_⟩
  rw [g] at h
  simp only at h ⊢
  have a1:arity op=0->kids=[]:=fun k=>by
   grind [arity,List.length_eq_zero_iff]
  by_cases a:op=1
  . rw [Ç a] at h ⊢
    split at h
    . exact absurd h (R4 (by decide))
    . rename_i d
      rw [Ä d]
      exact .inl ⟨a,by omega,by omega,a1 (by subst a;rfl),rfl⟩
  rw [Ä a] at h ⊢
  by_cases d:op=2
  . rw [Ç d] at h;exact absurd h (R4 (by decide))
  rw [Ä d] at h ⊢
  by_cases f:op=3
  . rw [Ç f] at h ⊢
    split at h
    . rename_i i
      rw [Ç i]
      exact .inr (.inl ⟨f,i,a1 (by subst f;rfl),rfl⟩)
    . exact absurd h (R4 (by decide))
  rw [Ä f] at h ⊢
  refine .inr (.inr ⟨a,f,?_⟩)
  unfold C2 at h ⊢
  cases j:pick op str ts Jl with
  |some o =>
   have b:=j
   unfold pick at b
   have m1:=List.mem_of_find?_eq_some b
   have m2:=List.find?_some b
   rw [Æ,Í] at m2
   exact⟨o,m1,rfl,m2.2,rfl⟩
  |none =>
   rw [j] at h
   simp only at h
   split at h
   . exact absurd h (R4 (by decide))
   . split at h<;>exact absurd h (R4 (by decide))
mutual
def Ho (m:Ai):Ah->Int
 |.mk op n s kids p =>
  if op=1 then n
  else if op=3 then (Dl [(⟨#[121,101,97,114]⟩,365),(⟨#[115,116,111,114,101,100]⟩,m.d.Stored),(⟨#[110,101,118,101,114]⟩,41667),(⟨#[111,119,110,101,114]⟩,m.d.Owner)] s).1
  else Sd m (Ba (.mk op n s kids p)).2.1.do_ (QA m kids)
def QA (m:Ai):List Ah->List Int
 | []=>[]
 |e::l=>Ho m e::QA m l
end
theorem Aaq (m:Ai)(hm:OkM m)(s:Å)(h:(Dl C7 s).2=true) :
 HU (Dl C7 s).1 (Dl [(⟨#[121,101,97,114]⟩,365),(⟨#[115,116,111,114,101,100]⟩,m.d.Stored),(⟨#[110,101,118,101,114]⟩,41667),(⟨#[111,119,110,101,114]⟩,m.d.Owner)] s).1:=by
 have a:=hm.st
 have b:=hm.ow
 all_goals grind [C7,Dl,to1,to2,to4]
theorem YD {m:Ai}{d:Do}{xs:List Int}{v:Int}(h:Ev (fun n=>Gj n d m xs) v):gfn d=some d:=by
 obtain⟨n,h⟩:=h.get
 cases d with
 |nil=>cases h
 |_=>rfl
theorem Tb (s:Bn)(m:Ai)(e:Ah)(hk:e.Kids.length<=1000000)(hf:∀ x∈e.Kids,Ev (fun n=>A4 n s x m) (Ho m x)) :
 ∀ (r:List Ah) (k:Nat) (vs:List Int),e.Kids.drop k=r->k<=e.Kids.length->vs.length=k->Ev (fun n=>Bg n e s m vs (k:Int)) (vs++QA m r)
 | [],k,vs,hr,hkl,_=>by
  have he:=MN hr hkl
  refine Ev.step (f:=fun n=>some vs) (fun n=>?_) ?_
  . rw [Bg.eq_2,show (decide ((k:Int)<(e.Kids.length:Int)))=false by rw [Û];omega];rfl
  . rw [QA,Ĝ];exact Ev.pure
 |x::r,k,vs,hr,hkl,hvs=>by
  obtain⟨h1,h2⟩:=Ha hr
  have hmem:x∈e.Kids:=í (by rw [hr];simp)
  refine Ev.step (f:=fun n=>(A4 n s x m).bind fun v=>Bg n e s m (vs++[v]) ((k+1:Nat):Int)) (fun n=>?_) ?_
  . rw [Bg.eq_2,Uz h2,Ñ,Sn hr,Á]
    congr 1
    funext v
    rw [Á,Aby (by omega) (by simp),Á,Qw (by omega)]
  . refine Ev.bind (hf x hmem) ?_
    have ih:=Tb s m e hk hf r (k+1) (vs++[Ho m x]) h1 (by omega) (by simp [hvs])
    rw [QA]
    simpa [ð] using ih
def Ab7 (os:List Nat)(m:Ai)(e:Ah):Prop:=Ev (fun n=>A4 n ⟨opsOf os,C7⟩ e m) (Ho m e)/\HU (Ba e).1 (Ho m e)
theorem U2 {os:List Nat}(ho:Ord os)(m:Ai)(hm:OkM m)(op num at0:Int)(str:Å)(kids:List Ah)(hs:Fg (.mk op num str kids at0)=true)(ht:(Ba (.mk op num str kids at0)).2.2.E=0)
 (hkids:∀ ts,DJ kids=.inl ts->Q9 ts (QA m kids)/\∀ x∈kids,Ev (fun n=>A4 n ⟨opsOf os,C7⟩ x m) (Ho m x)):Ab7 os m (.mk op num str kids at0):=by
 have a:=Sr ho _ hs
 have e:=hs
 rw [Fg,Æ,Í] at e
 obtain⟨ts,k,l⟩:=YO ht
 obtain⟨k1,k2⟩:=hkids ts k
 rcases l with⟨rfl,n1,n2,_,b⟩|⟨rfl,n1,_,b⟩|⟨c1,c3,o,g,p,i,b⟩
 . refine⟨?_,?_⟩
   . refine Ev.step (f:=fun n=>some num) (fun n=>?_) ?_
     . rw [A4.eq_2];rfl
     . rw [Ho,Ç rfl];exact Ev.pure
   . rw [b,Ho,Ç rfl];exact to1 ⟨by omega,n2⟩
 . refine⟨?_,?_⟩
   . refine Ev.step (f:=fun n=>some (Ho m (.mk 3 num str kids at0))) (fun n=>?_) Ev.pure
     rw [A4.eq_2,Ho,Ä (by decide),Ç rfl];rfl
   . rw [b,Ho,Ä (by decide),Ç rfl];exact Aaq m hm str n1
 . have c:=Ack m hm _ o g (QA m kids) (by rw [i];exact k1)
   have j:Ho m (.mk op num str kids at0)=Sd m o.do_ (QA m kids):=by rw [Ho,Ä c1,Ä c3,b]
   refine⟨?_,?_⟩
   . have loop:=Tb ⟨opsOf os,C7⟩ m (.mk op num str kids at0) e.1 k2 kids 0 [] rfl (Ĉ _) rfl
     refine Ev.step (f:=fun n=>(Bg n (.mk op num str kids at0) ⟨opsOf os,C7⟩ m [] 0).bind fun x=>(A5 n ⟨opsOf os,C7⟩ (.mk op num str kids at0)).bind fun f=>(gfn f.2.1.do_).bind fun d=>(Gj n d m x).bind fun r1=>some r1) (fun n=>?_) ?_
     . grind [A4.eq_2]
     . refine Ev.bind loop (Ev.bind a ?_)
       rw [b,j]
       simp only [ć,YD c.1,Á]
       exact Ev.bind c.1 Ev.pure
   . rw [b,j];exact c.2
mutual
theorem OV {os:List Nat}(ho:Ord os)(m:Ai)(hm:OkM m):∀ (e:Ah),Fg e=true->(Ba e).2.2.E=0->Ab7 os m e
 |.mk op num str kids at0,hs,ht=>by
  refine U2 ho m hm op num at0 str kids hs ht fun ts hts=>?_
  rw [Fg,Æ] at hs
  exact QL ho m hm kids ts hs.2 hts
theorem QL {os:List Nat}(ho:Ord os)(m:Ai)(hm:OkM m):∀ (l:List Ah) (ts:List Int),Nn l=true->DJ l=.inl ts->Q9 ts (QA m l)/\∀ x∈l,Ev (fun n=>A4 n ⟨opsOf os,C7⟩ x m) (Ho m x)
 | [],ts,_,ht=>by
  rw [DJ] at ht
  cases ht
  exact⟨trivial,fun x hx=>by simp at hx⟩
 |e::l,ts,hs,ht=>by
  rw [Nn,Æ] at hs
  rw [DJ] at ht
  by_cases c:(Ba e).2.2.E=0
  . rw [Ä (by simpa using c)] at ht
    cases ht2:DJ l with
    |inr o=>rw [ht2] at ht;cases ht
    |inl us =>
     rw [ht2] at ht
     cases ht
     obtain⟨g1,g2⟩:=OV ho m hm e hs.1 c
     obtain⟨r1,r2⟩:=QL ho m hm l us hs.2 ht2
     refine⟨⟨g2,r1⟩,fun x hx=>?_⟩
     rcases List.mem_cons.1 hx with hx|hx
     . rw [hx];exact g1
     . exact r2 x hx
  . rw [Ç c] at ht;cases ht
end
def U3 (e:Ah)(m:Ai):Option Int:=if Fg e=true/\(Ba e).2.2.E=0/\DL m.d m.known=0 then some (Ho m e) else none
end Go.Sp
namespace Go.Sp
open Go Go.Vl
set_option linter.unusedVariables false
structure Ad where
 Name:Å
 Kind:Int
 Rank:Int
 Known:Int
 From:Ah
 To:Ah
 When:Ah
 Houses:Int
def BJ (x:Ad):List PV:=[tP x.Name,iP x.Kind,iP x.Rank,iP x.Known,iP x.From.Op,iP x.From.N,tP x.From.S,hP x.From.Kids Bk,iP x.From.At,iP x.To.Op,iP x.To.N,tP x.To.S,hP x.To.Kids Bk,iP x.To.At,iP x.When.Op,iP x.When.N,tP x.When.S,hP x.When.Kids Bk,iP x.When.At,iP x.Houses]
theorem Mx (x:Ad):BJ x=[tP x.Name,iP x.Kind,iP x.Rank,iP x.Known,iP x.From.Op,iP x.From.N,tP x.From.S,hP x.From.Kids Bk,iP x.From.At,iP x.To.Op,iP x.To.N,tP x.To.S,hP x.To.Kids Bk,iP x.To.At,iP x.When.Op,iP x.When.N,tP x.When.S,hP x.When.Kids Bk,iP x.When.At,iP x.Houses]:=rfl
theorem LP (x:Ad):(BJ x).length=20:=rfl
def AZ:Rw Ad:=⟨BJ,_,20,Mx,LP⟩
def Iv (x:Int):List PV:=[uP x]
theorem WW (x:Int):Iv x=[uP x]:=rfl
theorem UI (x:Int):(Iv x).length=1:=rfl
def Ly:Rw Int:=⟨Iv,_,1,WW,UI⟩
def BT:Nat->Ap->Int->Option (Unit ⊕ Int)
 |0,_,_=>none
 |n+1,d,v14 =>
  bif (decide (v14<(d.Facts.length:Int))) then
   (gi d.Facts v14).bind fun x =>
   ((bif (decide (x.Kind<1)) then
    some true
   else
    bif (decide (5<x.Kind)) then
     some true
    else
     bif (decide (x.Who<1)) then
      some true
     else
      bif (decide (1000<x.Who)) then
       some true
      else
       bif (decide (x.Day<0)) then
        some true
       else
        bif (decide (41666<x.Day)) then
         some true
        else
         bif (decide (x.Known<0)) then
          some true
         else
          some (decide (41666<x.Known))
   ):Option Bool).bind fun v55 =>
    bif v55 then
     some (.inr 1)
    else
     BT n d (À (v14+1))
  else
   some (.inl ())
def Ez (n:Nat)(d:Ap)(known:Int):Option Int :=
 bif (decide (200<(d.Facts.length:Int))) then
  some 2
 else
  ((BT n d 0
  ):Option (Unit ⊕ Int)).bind fun y=>match y with
  |.inl _ =>
   ((bif (decide (d.Stored<0)) then
    some true
   else
    bif (decide (41666<d.Stored)) then
     some true
    else
     bif (decide (known<0)) then
      some true
     else
      bif (decide (41666<known)) then
       some true
      else
       bif (decide (d.Owner<0)) then
        some true
       else
        some (decide (1000<d.Owner))
   ):Option Bool).bind fun v82 =>
    bif v82 then
     some 1
    else
     some 0
  |.inr o=>some o
def DU (c:Int):Option Bool :=
 ((bif (decide (97<=c)) then
  bif (decide (c<=122)) then
   some false
  else
   bif (decide (65<=c)) then
    bif (decide (c<=90)) then
     some false
    else
     bif (c == 95) then
      some false
     else
      bif (decide (48<=c)) then
       some (!(decide (c<=57)))
      else
       some true
   else
    bif (c == 95) then
     some false
    else
     bif (decide (48<=c)) then
      some (!(decide (c<=57)))
     else
      some true
 else
  bif (decide (65<=c)) then
   bif (decide (c<=90)) then
    some false
   else
    bif (c == 95) then
     some false
    else
     bif (decide (48<=c)) then
      some (!(decide (c<=57)))
     else
      some true
  else
   bif (c == 95) then
    some false
   else
    bif (decide (48<=c)) then
     some (!(decide (c<=57)))
    else
     some true
 ):Option Bool).bind fun v2 =>
  some v2
def AW:Nat->(List Int)->Int->Option (Unit ⊕ Int)
 |0,_,_=>none
 |n+1,s,v8 =>
  bif (decide (v8<(s.length:Int))) then
   (gi s v8).bind fun x =>
   (DU x).bind fun i =>
   bif i then
    some (.inr v8)
   else
    AW n s (À (v8+1))
  else
   some (.inl ())
def CK (n:Nat)(s:(List Int)):Option Int :=
 ((AW n s 0
 ):Option (Unit ⊕ Int)).bind fun y=>match y with
 |.inl _ =>
  some (-1)
 |.inr o=>some o
def BV (n:Nat)(s:(List Int)):Option Bool :=
 (CK n s).bind fun i =>
 some (decide (0<=i))
def Fe (n:Nat)(s:Å):Option Bool :=
 ((bif (decide (s=⟨#[]⟩)) then
  some true
 else
  bif (decide (32<(s.size:Int))) then
   some true
  else
   (gb s 0).bind fun c1 =>
   bif (decide (48<=c1)) then
    some (decide (c1<=57))
   else
    some false
 ):Option Bool).bind fun v19 =>
  bif v19 then
   some false
  else
   (PF s).bind fun b =>
   (BV n b).bind fun c =>
   some (!c)
def El (c:Å)(c1:Int)(c2:Int)(c3:Int)(c4:Int)(c5:Int)(c6:Å)(c7:(List Ah))(c8:Int)(c9:Int)(c10:Int)(c11:Å)(c12:(List Ah))(c13:Int)(c14:Int)(c15:Int)(c16:Å)(c17:(List Ah))(c18:Int)(c19:Int)(x:Ad):Option Bool :=
 some (decide (x.Name=c))
def AI:Nat->(List Ad)->Å->Int->Int->Int->Int->Int->Å->(List Ah)->Int->Int->Int->Å->(List Ah)->Int->Int->Int->Å->(List Ah)->Int->Int->Int->Option (Unit ⊕ Int)
 |0,_,_,_,_,_,_,_,_,_,_,_,_,_,_,_,_,_,_,_,_,_,_=>none
 |n+1,s,c,c1,c2,c3,c4,c5,c6,c7,c8,c9,c10,c11,c12,c13,c14,c15,c16,c17,c18,c19,v8 =>
  bif (decide (v8<(s.length:Int))) then
   (gi s v8).bind fun x =>
   (El c c1 c2 c3 c4 c5 c6 c7 c8 c9 c10 c11 c12 c13 c14 c15 c16 c17 c18 c19 x).bind fun c20 =>
   bif c20 then
    some (.inr v8)
   else
    AI n s c c1 c2 c3 c4 c5 c6 c7 c8 c9 c10 c11 c12 c13 c14 c15 c16 c17 c18 c19 (À (v8+1))
  else
   some (.inl ())
def Cx (n:Nat)(c:Å)(c1:Int)(c2:Int)(c3:Int)(c4:Int)(c5:Int)(c6:Å)(c7:(List Ah))(c8:Int)(c9:Int)(c10:Int)(c11:Å)(c12:(List Ah))(c13:Int)(c14:Int)(c15:Int)(c16:Å)(c17:(List Ah))(c18:Int)(c19:Int)(s:(List Ad)):Option Int :=
 ((AI n s c c1 c2 c3 c4 c5 c6 c7 c8 c9 c10 c11 c12 c13 c14 c15 c16 c17 c18 c19 0
 ):Option (Unit ⊕ Int)).bind fun y=>match y with
 |.inl _ =>
  some (-1)
 |.inr o=>some o
def BI (n:Nat)(c:Å)(c1:Int)(c2:Int)(c3:Int)(c4:Int)(c5:Int)(c6:Å)(c7:(List Ah))(c8:Int)(c9:Int)(c10:Int)(c11:Å)(c12:(List Ah))(c13:Int)(c14:Int)(c15:Int)(c16:Å)(c17:(List Ah))(c18:Int)(c19:Int)(s:(List Ad)):Option Bool :=
 (Cx n c c1 c2 c3 c4 c5 c6 c7 c8 c9 c10 c11 c12 c13 c14 c15 c16 c17 c18 c19 s).bind fun c20 =>
 some (decide (0<=c20))
def Fs (c:Å)(c1:Int)(c2:Int)(c3:Int)(c4:Int)(c5:Int)(c6:Å)(c7:(List Ah))(c8:Int)(c9:Int)(c10:Int)(c11:Å)(c12:(List Ah))(c13:Int)(c14:Int)(c15:Int)(c16:Å)(c17:(List Ah))(c18:Int)(c19:Int):Option Unit :=
 some ()
def AB:Nat->Ad->Int->Option (Unit ⊕ Int)
 |0,_,_=>none
 |n+1,x,v94 =>
  bif (v94 == 0) then
   (Hn x.From).bind fun f2 =>
   bif (f2.2.2.E != 0) then
    some (.inr f2.2.2.E)
   else
    bif (f2.1 != 2) then
     some (.inr 7)
    else
     AB n x 1
  else
   bif (v94 == 1) then
    (Hn x.To).bind fun f1 =>
    bif (f1.2.2.E != 0) then
     some (.inr f1.2.2.E)
    else
     bif (f1.1 != 2) then
      some (.inr 7)
     else
      AB n x 2
   else
    bif (v94 == 2) then
     (Hn x.When).bind fun f =>
     bif (f.2.2.E != 0) then
      some (.inr f.2.2.E)
     else
      bif (f.1 != 3) then
       some (.inr 7)
      else
       AB n x 3
    else
     bif (v94 == 3) then
      some (.inl ())
     else
      none
def C5:Nat->(List Ad)->Int->Option (Unit ⊕ Int)
 |0,_,_=>none
 |n+1,l,v20 =>
  bif (decide (v20<(l.length:Int))) then
   (gi l v20).bind fun x =>
   (Fe n x.Name).bind fun i =>
   bif (!i) then
    some (.inr 6)
   else
    (ZD l 0 v20).bind fun l1 =>
    (BI n x.Name x.Kind x.Rank x.Known x.From.Op x.From.N x.From.S x.From.Kids x.From.At x.To.Op x.To.N x.To.S x.To.Kids x.To.At x.When.Op x.When.N x.When.S x.When.Kids x.When.At x.Houses l1).bind fun c =>
    bif c then
     some (.inr 9)
    else
     ((bif (decide (x.Kind<1)) then
      some true
     else
      some (decide (3<x.Kind))
     ):Option Bool).bind fun v39 =>
      bif v39 then
       some (.inr 1)
      else
       ((bif (decide (x.Rank<0)) then
        some true
       else
        bif (decide (9<x.Rank)) then
         some true
        else
         bif (decide (x.Known<0)) then
          some true
         else
          bif (decide (41666<x.Known)) then
           some true
          else
           bif (!(x.Kind == 3)) then
            bif (x.Houses != 0) then
             some true
            else
             bif (x.Kind == 3) then
              bif (decide (x.Houses<1)) then
               some true
              else
               some (decide (4096<=x.Houses))
             else
              some false
           else
            bif (x.Kind == 3) then
             bif (decide (x.Houses<1)) then
              some true
             else
              some (decide (4096<=x.Houses))
            else
             some false
       ):Option Bool).bind fun v48 =>
        bif v48 then
         some (.inr 3)
        else
         (Fs x.Name x.Kind x.Rank x.Known x.From.Op x.From.N x.From.S x.From.Kids x.From.At x.To.Op x.To.N x.To.S x.To.Kids x.To.At x.When.Op x.When.N x.When.S x.When.Kids x.When.At x.Houses).bind fun w =>
         ((AB n x 0
         ):Option (Unit ⊕ Int)).bind fun y3=>match y3 with
         |.inl _ =>
          C5 n l (À (v20+1))
         |.inr o=>some (.inr o)
  else
   some (.inl ())
def E0 (n:Nat)(l:(List Ad)):Option Int :=
 bif (decide (40<(l.length:Int))) then
  some 2
 else
  (some ()).bind fun u =>
  ((C5 n l 0
  ):Option (Unit ⊕ Int)).bind fun y=>match y with
  |.inl _ =>
   some 0
  |.inr o=>some o
def Ft (n:Nat)(c:Ad)(d:Ap)(known:Int):Option (Int×Int×Bool×Int) :=
 (some [c]).bind fun l =>
 (E0 n l).bind fun e =>
 bif (e != 0) then
  some (0,0,false,e)
 else
  (Ez n d known).bind fun e1 =>
  bif (e1 != 0) then
   some (0,0,false,e1)
  else
   (some ()).bind fun u =>
   (((U3 c.From (Ai.mk d known)).bind fun from_1 =>
   (U3 c.To (Ai.mk d known)).bind fun to_1 =>
   bif (decide (c.Known<=known)) then
    (U3 c.When (Ai.mk d known)).bind fun v_ =>
    some (from_1,to_1,(v_ == 1))
   else
    some (from_1,to_1,false)
   ):Option (Int×Int×Bool)).bind fun y=>match y with
   |(from_,to_,applies) =>
    some (from_,to_,applies,0)
def It:Option (ByteArray×ByteArray×ByteArray×ByteArray) :=
 some (⟨#[]⟩,⟨#[107,101,101,112]⟩,⟨#[100,114,111,112]⟩,⟨#[112,108,97,99,101]⟩)
def Em:Nat->(List Å)->Å->Int->Option (Unit ⊕ Int)
 |0,_,_,_=>none
 |n+1,s,v_,v8 =>
  bif (decide (v8<(s.length:Int))) then
   (gi s v8).bind fun x =>
   bif (decide (v_=x)) then
    some (.inr v8)
   else
    Em n s v_ (À (v8+1))
  else
   some (.inl ())
def Hg (n:Nat)(s:(List Å))(v_:Å):Option Int :=
 ((Em n s v_ 0
 ):Option (Unit ⊕ Int)).bind fun y=>match y with
 |.inl _ =>
  some (-1)
 |.inr o=>some o
def EN:Nat->Au->(List Int)->Int->Option (Unit ⊕ (Int×Bool))
 |0,_,_,_=>none
 |n+1,f,want,v52 =>
  bif (decide (v52<(f.Args.length:Int))) then
   (gi f.Args v52).bind fun x =>
   (gi want (if (À ((want.length:Int)-1))<v52 then (À ((want.length:Int)-1)) else v52)).bind fun x1 =>
   bif (x.Kind != x1) then
    some (.inr (0,false))
   else
    EN n f want (À (v52+1))
  else
   some (.inl ())
def FX (n:Nat)(f:Au):Option (Int×Bool) :=
 (It).bind fun l =>
 (Hg n [l.2.1,l.2.2.1,l.2.2.2] f.Word).bind fun i =>
 (some [1,2,2,5,5,5]).bind fun l1 =>
 ((bif ((À (i+1)) == 3) then
  (some [4,2]).bind fun l2 =>
  (CH 8 l1 l2).bind fun l3 =>
  some l3
 else
  some l1
 ):Option (List Int)).bind fun want =>
  ((bif ((À (i+1)) == 0) then
   some true
  else
   bif (decide (0<(f.Body.length:Int))) then
    some true
   else
    bif (decide ((f.Args.length:Int)<(want.length:Int))) then
     some true
    else
     bif ((À (i+1)) != 3) then
      some (decide ((want.length:Int)<(f.Args.length:Int)))
     else
      some false
  ):Option Bool).bind fun v48 =>
   bif v48 then
    some (0,false)
   else
    ((EN n f want 0
    ):Option (Unit ⊕ (Int×Bool))).bind fun y2=>match y2 with
    |.inl _ =>
     some ((À (i+1)),true)
    |.inr o=>some o
def EG (q:Int)(q1:Int)(p:Int)(p1:Int)(f:Å)(f1:(List Bq))(f2:(List Au))(f3:Int)(c:Ad):Option Bool :=
 (gi f1 0).bind fun x =>
 some (decide (c.Name=x.S))
def BX:Nat->(List Ad)->Int->Int->Int->Int->Å->(List Bq)->(List Au)->Int->Int->Option (Unit ⊕ Int)
 |0,_,_,_,_,_,_,_,_,_,_=>none
 |n+1,s,q,q1,p,p1,f,f1,f2,f3,v8 =>
  bif (decide (v8<(s.length:Int))) then
   (gi s v8).bind fun x =>
   (EG q q1 p p1 f f1 f2 f3 x).bind fun c =>
   bif c then
    some (.inr v8)
   else
    BX n s q q1 p p1 f f1 f2 f3 (À (v8+1))
  else
   some (.inl ())
def Dh (n:Nat)(q:Int)(q1:Int)(p:Int)(p1:Int)(f:Å)(f1:(List Bq))(f2:(List Au))(f3:Int)(s:(List Ad)):Option Int :=
 ((BX n s q q1 p p1 f f1 f2 f3 0
 ):Option (Unit ⊕ Int)).bind fun y=>match y with
 |.inl _ =>
  some (-1)
 |.inr o=>some o
def BY (n:Nat)(q:Int)(q1:Int)(p:Int)(p1:Int)(f:Å)(f1:(List Bq))(f2:(List Au))(f3:Int)(s:(List Ad)):Option Bool :=
 (Dh n q q1 p p1 f f1 f2 f3 s).bind fun c =>
 some (decide (0<=c))
def EM (q:Int)(q1:Int)(p:Int)(p1:Int)(f:Å)(f1:(List Bq))(f2:(List Au))(f3:Int)(c:Å)(c1:Int)(c2:Int)(c3:Int)(c4:Int)(c5:Int)(c6:Å)(c7:(List Ah))(c8:Int)(c9:Int)(c10:Int)(c11:Å)(c12:(List Ah))(c13:Int)(c14:Int)(c15:Int)(c16:Å)(c17:(List Ah))(c18:Int)(c19:Int):Option Unit :=
 some ()
def AK:Nat->Bq->Bq->Bq->Int->Option (Unit ⊕ ((List Ad)×Ak))
 |0,_,_,_,_=>none
 |n+1,x5,x6,x7,v170 =>
  bif (v170 == 0) then
   (Hn x5.E).bind fun f3 =>
   bif (f3.2.2.E != 0) then
    some (.inr ([],f3.2.2))
   else
    bif (f3.1 != 2) then
     some (.inr ([],(Ak.mk x5.At 7)))
    else
     AK n x5 x6 x7 1
  else
   bif (v170 == 1) then
    (Hn x6.E).bind fun f2 =>
    bif (f2.2.2.E != 0) then
     some (.inr ([],f2.2.2))
    else
     bif (f2.1 != 2) then
      some (.inr ([],(Ak.mk x6.At 7)))
     else
      AK n x5 x6 x7 2
   else
    bif (v170 == 2) then
     (Hn x7.E).bind fun f1 =>
     bif (f1.2.2.E != 0) then
      some (.inr ([],f1.2.2))
     else
      bif (f1.1 != 3) then
       some (.inr ([],(Ak.mk x7.At 7)))
      else
       AK n x5 x6 x7 3
    else
     bif (v170 == 3) then
      some (.inl ())
     else
      none
def C4:Nat->Au->Int->Int->Int->Option (Int ⊕ ((List Ad)×Ak))
 |0,_,_,_,_=>none
 |n+1,x,v103,last,c2 =>
  bif (decide (v103<(x.Args.length:Int))) then
   (gi x.Args v103).bind fun x8 =>
   ((bif (v103 == 1) then
    bif (decide (x8.N<0)) then
     some true
    else
     bif (decide (9<x8.N)) then
      some true
     else
      bif (v103 == 2) then
       bif (decide (x8.N<0)) then
        some true
       else
        bif (decide (41666<x8.N)) then
         some true
        else
         bif (decide (6<v103)) then
          bif (decide (x8.N<=last)) then
           some true
          else
           some (decide (12<=x8.N))
         else
          some false
      else
       bif (decide (6<v103)) then
        bif (decide (x8.N<=last)) then
         some true
        else
         some (decide (12<=x8.N))
       else
        some false
   else
    bif (v103 == 2) then
     bif (decide (x8.N<0)) then
      some true
     else
      bif (decide (41666<x8.N)) then
       some true
      else
       bif (decide (6<v103)) then
        bif (decide (x8.N<=last)) then
         some true
        else
         some (decide (12<=x8.N))
       else
        some false
    else
     bif (decide (6<v103)) then
      bif (decide (x8.N<=last)) then
       some true
      else
       some (decide (12<=x8.N))
     else
      some false
   ):Option Bool).bind fun odd =>
    bif odd then
     some (.inr ([],(Ak.mk x8.At 3)))
    else
     bif (decide (6<v103)) then
      (gnn x8.N (À (1*2 ^ min x8.N.toNat IntKind.i64.bits))).bind fun q =>
      C4 n x (À (v103+1)) x8.N (bits .or .i64 c2 q)
     else
      C4 n x (À (v103+1)) last c2
  else
   some (.inl c2)
def AF:Nat->((List Au)×Ak)->(List Ad)->Int->Option ((List Ad) ⊕ ((List Ad)×Ak))
 |0,_,_,_=>none
 |n+1,f,out1,v36 =>
  bif (decide (v36<(f.1.length:Int))) then
   (gi f.1 v36).bind fun x =>
   (FX n x).bind fun s =>
   bif (!s.2) then
    some (.inr ([],(Ak.mk x.At 5)))
   else
    bif ((out1.length:Int) == 40) then
     some (.inr ([],(Ak.mk x.At 2)))
    else
     (BY n 0 0 f.2.At f.2.E x.Word x.Args x.Body x.At out1).bind fun c =>
     bif c then
      (gi x.Args 0).bind fun x1 =>
      some (.inr ([],(Ak.mk x1.At 9)))
     else
      (gi x.Args 0).bind fun x2 =>
      (gi x.Args 1).bind fun x3 =>
      (gi x.Args 2).bind fun x4 =>
      (gi x.Args 3).bind fun x5 =>
      (gi x.Args 4).bind fun x6 =>
      (gi x.Args 5).bind fun x7 =>
      ((C4 n x 0 (-1) 0
      ):Option (Int ⊕ ((List Ad)×Ak))).bind fun y1=>match y1 with
      |.inl c1 =>
       (EM 0 0 f.2.At f.2.E x.Word x.Args x.Body x.At x2.S s.1 x3.N x4.N x5.E.Op x5.E.N x5.E.S x5.E.Kids x5.E.At x6.E.Op x6.E.N x6.E.S x6.E.Kids x6.E.At x7.E.Op x7.E.N x7.E.S x7.E.Kids x7.E.At c1).bind fun w =>
       ((AK n x5 x6 x7 0
       ):Option (Unit ⊕ ((List Ad)×Ak))).bind fun y2=>match y2 with
       |.inl _ =>
        (some [(Ad.mk x2.S s.1 x3.N x4.N x5.E x6.E x7.E c1)]).bind fun l =>
        (CH 240 out1 l).bind fun l1 =>
        AF n f l1 (À (v36+1))
       |.inr o=>some (.inr o)
      |.inr o=>some (.inr o)
  else
   some (.inl out1)
def Cv (n:Nat)(src:Å):Option ((List Ad)×Ak) :=
 (Ie n src).bind fun f =>
 bif (f.2.E != 0) then
  some ([],f.2)
 else
  (some ()).bind fun u =>
  ((AF n f [] 0
  ):Option ((List Ad) ⊕ ((List Ad)×Ak))).bind fun y=>match y with
  |.inl out =>
   some (out,(Ak.mk 0 0))
  |.inr o=>some o
abbrev hC (l:List Ad):PV:=hP l BJ
abbrev oC (l:List Ad):PV:=oP l BJ
abbrev kC (x:Ad):List PV:=[tP x.Name,iP x.Kind,iP x.Rank,iP x.Known,iP x.From.Op,iP x.From.N,tP x.From.S,hX x.From.Kids,iP x.From.At,iP x.To.Op,iP x.To.N,tP x.To.S,hX x.To.Kids,iP x.To.At,iP x.When.Op,iP x.When.N,tP x.When.S,hX x.When.Kids,iP x.When.At,iP x.Houses]
end Go.Sp
namespace Go.Proofs.YtehfpameijkafaaGreatDoor
open Go.ChangeShapes Go.WideShapes Go.ChangeAt Go.RowKit Go.Q Go.Vl Go.Sp
set_option maxRecDepth 100000
abbrev UC (w:World):Nat->Nat->Prop:=fun b i=>(w.cell? ⟨b,i,none⟩).isSome=true
def Row (w:World)(r:List PV)(cs:List Value):Prop:=cs.length=r.length/\∀ j (hj:j<r.length),∃ u,cs[j]?=some u/\u.oneCell'=true/\∀ φ,V w (UC w) φ r[j] u
theorem Row.nil {w:World}:Row w [] []:=⟨rfl,fun j hj=>absurd hj (by simp)⟩
theorem Row.cons {w:World}{p:PV}{r:List PV}{u:Value}{cs:List Value}(h1:u.oneCell'=true)(h:∀ φ,V w (UC w) φ p u)(k:Row w r cs):Row w (p::r) (u::cs):=by
 refine⟨by simp [k.1],fun j a=>?_⟩
 cases j with
 |zero=>exact⟨u,rfl,h1,h⟩
 |succ j=>exact k.2 j (by simpa using a)
theorem Wi {w:World}{r:List PV}{cs:Array Value}(hy:Row w r cs.toList):∀ φ,V w (UC w) φ (.agg r) (.agg cs):=by
 have c:cs.size=r.length:=by have:=hy.1;simpa using this
 refine fun φ=>.agg _ _ _ c (fun i b=>?_) (fun i b=>?_)
 . obtain⟨u,a,_,d⟩:=hy.2 i b
   have e:cs.getD i Go.undef=u:=by
    rw [Ą] at a
    rw [É,a];rfl
   rw [e];exact d φ
 . obtain⟨u,a,f,_⟩:=hy.2 i (by rw [c] at b;exact b)
   have e:cs.getD i Go.undef=u:=by
    rw [Ą] at a
    rw [É,a];rfl
   rw [e];exact f
theorem Aau {w:World}{f:Nat}{ps:List PV}{vs:Array Value}(hvc:VC Tryz.prog f ps [] fun x σ'=>x=.ret (.lit (.bool true))/\σ'=[])(hn:vs.size=ps.length)(hv:∀ i (hi:i<ps.length),V w (UC w) [] ps[i] (vs.getD i Go.undef))(hg:PC w)(hb:∀ b∈Vj,b<w.heap.size) :
 Calls Tryz.prog f vs w fun e w'=>e=.returned (.bool true)/\Below w.heap.size w w':=by
 refine (hvc.out (U:=UC w) (vs:=vs) hg hb (fun b i c=>?_) hn fun i hi=>hv i hi).mono fun e w' a=>?_
 . obtain⟨u,c⟩:=Option.isSome_iff_exists.1 c
   exact World.block_lt_of_cell? _ _ c
 . obtain⟨⟨x,σ',G',⟨rfl,_⟩,v,d,g,_⟩,j⟩:=a
   refine⟨?_,j⟩
   have key:∀ {p:PV} {v:Value},V w' G'.U G'.φ p v->p=.lit (.bool true)->v=.bool true:=fun h e=>by
    cases h with
    |lit _ _=>injection e
    |_=>cases e
   rw [key g rfl] at d;exact d
end Go.Proofs.YtehfpameijkafaaGreatDoor
namespace Go.Vl
open Go Go.RowKit
def setL (st:St):Loc->PV->St
 |.tmp t,p=>st.put (some t) p
 |.cell k j,p=>{ st with σ:=st.σ.set k ((st.σ.getD k []).set j p) }
 |_,_=>st
def N3:Loc->Bool
 |.tmp _=>true
 |.cell _ _=>true
 |_=>false
def WE (w:World)(G:Gh)(tm:Nat->Value):Loc->Value->Prop
 |.tmp t,v=>tm t=v
 |.cell k j,v=>∃ b,G.φ[k]?=some b/\w.cell? ⟨b,j,none⟩=some v
 |_,_=>False
def Rc:PV->Bool
 |.undef=>true
 |.asl _ _ _ _=>true
 |.prv _=>true
 |.sl _ .own=>true
 |.sl _ .shared=>true
 |_=>false
def Dn (xs:List (List Value))(m:Nat):List PV:=xs.flatten.map .lit++List.replicate m .undef
section
variable {w w0:World} {G G0:Gh} {st:St} {tm:Nat->Value} {l:Loc} {p:PV} {v:Value}
theorem Inv.getL {xs:List (List Value)}(h:Inv w0 G0 st tm w G)(hl:N3 l=true)(hc:AP st l=.prv xs):∃ v,WE w G tm l v/\V w G.U G.φ (.prv xs) v/\B9 w G l xs v:=by
 cases l with
 |tmp t =>
  have r:st.get t=.prv xs:=hc
  have i:=h.env.v t
  have m:=h.env.tag t
  rw [r] at i m
  exact⟨tm t,rfl,i,m⟩
 |cell k j =>
  have hc:(st.σ.getD k []).getD j .undef=.prv xs:=hc
  cases a:st.σ[k]? with
  |none=>simp [List.getD,a] at hc
  |some cs =>
   cases c:cs[j]? with
   |none=>simp [List.getD,a,c] at hc
   |some p =>
    obtain rfl:p=.prv xs:=by simpa [List.getD,a,c] using hc
    have f:=(List.getElem?_eq_some_iff.1 a).1
    have n:G.φ[k]?=some (G.φ[k]'(by rw [h.store.len];exact f)):=Ã _
    obtain⟨⟨o',arr,s,⟨d,x⟩,b⟩,o⟩:=h.store.blk k _ cs n a
    have g:NM cs:=fun q e=>by
     subst e
     match j,c with
     |0,c=>cases c;rfl
    obtain⟨T,rfl⟩:=d.cells g
    obtain⟨u,y,C,z,B⟩:=b j _ c
    exact⟨u,⟨_,n,by simp only [World.cell?,s];simpa using y⟩,z,B⟩
 |_=>cases hl
theorem Inv.setL (h:Inv w0 G0 st tm w G)(hv:WE w G tm l v)(hV:V w G.U G.φ p v)(hT:Ca w G l p v)(hp:Rc p=true)(h1:v.oneCell'=true)(hno:∀ ys,AP st l≠.sl ys .own)(hm:(AP st l).isM=false) :
 Inv w0 G0 (Vl.setL st l p) tm w G:=by
 cases l with
 |tmp t =>
  obtain rfl:tm t=v:=hv
  have:=h.put t hV (by
   cases p with
   |sl xs g=>cases g<;>first|exact hT|cases hp|trivial
   |prv xs=>exact hT
   |asl=>trivial
   |undef=>trivial
   |_=>cases hp)
  rw [GQ] at this
  exact this
 |cell k j =>
  obtain⟨b,A,B⟩:=hv
  have r:k<st.σ.length:=by rw [<- h.store.len];exact (List.getElem?_eq_some_iff.1 A).1
  have m:st.σ[k]?=some st.σ[k]:=Ã r
  have s:st.σ.getD k []=st.σ[k]:=by simp [List.getD,r]
  show Inv w0 G0 { st with σ:=st.σ.set k ((st.σ.getD k []).set j p) } tm w G
  rw [s]
  have hno:∀ ys,(st.σ[k]).getD j .undef≠.sl ys .own:=fun ys e=>hno ys (by show (st.σ.getD k []).getD j .undef=_;rw [s];exact e)
  have hm:((st.σ[k]).getD j .undef).isM=false:=by have:((st.σ.getD k []).getD j .undef).isM=false:=hm;rw [s] at this;exact this
  generalize st.σ[k]=cs at *
  obtain⟨⟨o',arr,C,⟨n,D⟩,x⟩,I⟩:=h.store.blk k b cs A m
  by_cases a:j<cs.length
  . have M:cs[j]?=some cs[j]:=Ã a
    have E:cs.getD j .undef=cs[j]:=by simp [List.getD,a]
    rw [E] at hno hm
    have y:NM cs:=fun q e=>by
     subst e
     have:j=0:=by simpa using a
     subst this;exact hm
    have z:∀ p∈cs,p.isM=false:=by
     rcases n with F|⟨kvs,_,_,e,_⟩|⟨_,_,e,_⟩
     . exact F.2
     . exact absurd (y _ e) (by simp [PV.isM])
     . exact absurd (y _ e) (by simp [PV.isM])
    obtain⟨T,rfl⟩:=n.cells y
    have N:arr[j]?=some v:=by simpa [World.cell?,C] using B
    have o:∀ i,(cs.set j p)[i]?=if i=j then some p else cs[i]?:=fun i=>by
     rw [List.getElem?_set]
     by_cases e:j=i
     . subst e;simp [a]
     . rw [Ä e,Ä (fun e2=>e e2.symm)]
    have d:∀ i c,(cs.set j p)[i]?=some c->∃ u,arr[i]?=some u/\u.oneCell'=true/\V w G.U G.φ c u/\Ca w G (.cell k i) c u:=by
     intro i c f
     rw [o i] at f
     by_cases e:i=j
     . subst e
       rw [Ç rfl] at f
       obtain rfl:=Af f
       exact⟨v,N,h1,hV,hT⟩
     . rw [Ä e] at f
       exact x i c f
    refine h.setBlock (cs:=cs) (cs':=cs.set j p) A m C C (fun kvs hm=>?_) (fun _ _=>rfl) rfl rfl rfl ⟨by simpa using D,fun i f=>?_⟩ (fun i c f=>?_) (fun t ys i f=>?_)
    . rcases List.mem_or_eq_of_mem_set hm with h1|rfl
      . exact z kvs h1
      . cases kvs<;>first|rfl|cases hp
    . obtain⟨u,h1,J,K,_⟩:=d i _ (Ã f)
      have:arr.getD i Go.undef=u:=by simp [h1]
      rw [this];exact⟨K,J⟩
    . obtain⟨u,h1,J,K,O⟩:=d i c f
      have:arr.getD i Go.undef=u:=by simp [h1]
      rw [this];exact O
    . have L:=h.env.tag t
      rw [f] at L
      obtain⟨cs2,b2,e1,e2,_,_⟩:=L
      obtain rfl:=Af (m.symm.trans e1)
      have H:i≠j:=by
       rintro rfl
       exact hno ys (by rw [M] at e2;exact Af e2)
      exact⟨by rw [o i,Ä H],rfl⟩
  . have e1:cs.set j p=cs:=List.set_eq_of_length_le (Nat.le_of_not_lt a)
    have e2:st.σ.set k cs=st.σ:=List.ext_getElem? fun i=>by
     rw [List.getElem?_set]
     by_cases e:k=i
     . subst e;rw [Ç rfl,Ç r];exact m.symm
     . rw [Ä e]
    rw [e1,e2]
    exact h
 |_=>exact hv.elim
theorem KI (hl:N3 l=true):AP (Vl.setL st l .undef) l=.undef:=by
 cases l with
 |tmp t=>rw [AP];show (st.put (some t) .undef).get t=_;rw [B7,Ç rfl]
 |cell k j =>
  show ((st.σ.set k ((st.σ.getD k []).set j .undef)).getD k []).getD j .undef=_
  by_cases a:k<st.σ.length
  . by_cases b:j<(st.σ[k]).length
    . simp [List.getD,a,b]
    . simp [List.getD,a,b]
  . simp [List.getD,a]
 |_=>cases hl
theorem Inv.setUndef (h:Inv w0 G0 st tm w G)(hc:Rc (AP st l)=true)(hno:∀ ys,AP st l≠.sl ys .own)(hv:WE w G tm l v)(h1:v.oneCell'=true):Inv w0 G0 (Vl.setL st l .undef) tm w G :=
 h.setL hv (.undef _ _) trivial rfl h1 hno (by revert hc;generalize AP st l=q;intro hc;cases q<;>first|rfl|cases hc)
theorem Wc {φ:List Nat}{U:Nat->Nat->Prop}{xs:List (List Value)}(h:V w U φ (.prv xs) v):v.oneCell'=true:=by cases h;rfl
theorem Inv.toOwn {xs:List (List Value)}(h:Inv w0 G0 st tm w G)(hl:N3 l=true)(hc:AP st l=.prv xs):∃ G',Inv w0 G0 (Vl.setL (Vl.setL st l .undef) l (.sl (xs.map fun x=>x.map .lit) .own)) tm w G':=by
 obtain⟨v,A,J,hT⟩:=h.getL hl hc
 have q:=Wc J
 have H:=h.setUndef (by rw [hc];rfl) (by rw [hc];simp) A q
 have f:=KI (st:=st) hl
 have o:∀ l',some l=some l'->∀ ys,AP (Vl.setL st l .undef) l'≠.sl ys .own:=fun l' e ys e2=>by
  obtain rfl:=Af e
  rw [f] at e2;cases e2
 have r:∀ l',some l=some l'->∀ ys,AP (Vl.setL st l .undef) l'≠.prv ys:=fun l' e ys e2=>by
  obtain rfl:=Af e
  rw [f] at e2;cases e2
 rcases hT with⟨rfl,rfl⟩|⟨b,cap,sz,T,arr,rfl,C,d,n,B,hb,⟨s,K,u⟩,I⟩
 . exact⟨G,H.setL A (.nil _ _) (.inl ⟨rfl,rfl⟩) rfl rfl (o l rfl) (by rw [f];rfl)⟩
 . have D:=h.store.ob b (by rw [B];simp)
   have L:=H.reblk (w':=w) (m:=xs.length*sz) (l0:=l) D.2 (.inr (by rw [B];simp)) (by rw [B];exact o) (by rw [B];exact r) rfl rfl rfl (Ü _) (fun _ _ _=>rfl) (fun i M=>absurd M (I i)) hb
   have E:xs.length*sz<=arr.size:=by rw [s];exact î _ d.1
   have z:∀ i j,i<xs.length->j<sz->i*sz+j<arr.size:=fun i j hi g=>ñ (Iz hi g) E
   have c:(xs.map fun x=>x.map PV.lit).length=xs.length:=by simp
   refine⟨_,L.setL ?_ (p:=.sl (xs.map fun x=>x.map .lit) .own) ?_ ?_ rfl q (o l rfl) (by rw [f];rfl)⟩
   . cases l with
     |tmp t=>exact A
     |cell k j=>exact A
     |_=>cases hl
   . rw [<- c]
     refine .sl _ _ _ b 0 sz cap (fun i j=>arr.getD (i*sz+j) Go.undef) (by rw [c];exact d.1) d.2 (fun i hi=>?_) (fun i j hi g=>.inr ⟨rfl,?_⟩) (fun i j hi g=>?_) (fun i j hi g=>?_) (fun i hi j g=>?_) (by simp) (by simp)
     . rw [é,Î];exact n _ (Ù _)
     . rw [c] at hi ⊢
       have:=Iz hi g;omega
     . rw [c] at hi
       have:=z i j hi g
       simp only [World.cell?,hb,ò]
       simp [this]
     . rw [c] at hi
       exact K _ (z i j hi g)
     . rw [c] at hi
       have F:j<(xs[i]).length:=by simpa using g
       rw [u i hi j F]
       simp only [é]
       exact .lit _ _
   . exact .inr ⟨b,cap,sz,T,arr,by rw [c],by simpa using C,fun x N=>by
      obtain⟨y,O,rfl⟩:=List.mem_map.1 N
      rw [Î];exact n y O,Ç rfl,hb,s,fun i hi=>by
      rw [c]
      rcases hi with hi|hi
      . exact absurd hi (I i)
      . exact hi.2⟩
def unC (st:St):Loc->St
 |.cell k j=>{ (st.stripC k j 1) with σ:=st.σ.set k ((st.σ.getD k []).set j (.sl [] .shared)) }
 |.tmp t=>st.put (some t) (.sl [] .shared)
 |_=>st
theorem Inv.toPrv (h:Inv w0 G0 st tm w G)(hl:N3 l=true)(hc:AP st l=.sl [] .own):Inv w0 G0 (Vl.setL (unC st l) l (.prv [])) tm w G:=by
 have nilV:∀ {v:Value},Az w G l [] v->v=.slice none 0 0:=fun h=>by
  rcases h with⟨_,e⟩|⟨b,cap,sz,T,arr,_,n,_⟩
  . exact e
  . exact absurd rfl n
 cases l with
 |tmp t =>
  have x:st.get t=.sl [] .own:=hc
  have y:=h.env.tag t
  rw [x] at y
  have e:=nilV y
  have z:=h.share x
  exact z.setL (l:=.tmp t) rfl (p:=.prv []) (by rw [e];exact .prv _ [] none 0) (.inl ⟨rfl,e⟩) rfl (by rw [e];rfl) (fun ys e2=>by rw [AP,B7,Ç rfl] at e2;cases e2) (by rw [AP,B7,Ç rfl];rfl)
 |cell k j =>
  have hc:(st.σ.getD k []).getD j .undef=.sl [] .own:=hc
  cases a:st.σ[k]? with
  |none=>simp [List.getD,a] at hc
  |some cs =>
   cases c:cs[j]? with
   |none=>simp [List.getD,a,c] at hc
   |some p =>
    obtain rfl:p=.sl [] .own:=by simpa [List.getD,a,c] using hc
    have f:=(List.getElem?_eq_some_iff.1 a).1
    have o:=(List.getElem?_eq_some_iff.1 c).1
    have A:G.φ[k]?=some (G.φ[k]'(by rw [h.store.len];exact f)):=Ã _
    obtain⟨⟨o',arr,C,⟨g,D⟩,d⟩,B⟩:=h.store.blk k _ cs A a
    have r:NM cs:=fun q e=>by
     subst e
     match j,c with
     |0,c=>cases c;rfl
    obtain⟨T,rfl⟩:=g.cells r
    obtain⟨u,E,z,H,F⟩:=d j _ c
    have e:=nilV F
    have hI:=h.shareCell a c
    have i:st.σ.getD k []=cs:=by simp [List.getD,a]
    have m:AP (unC st (.cell k j)) (.cell k j)=.sl [] .shared:=by
     show ((st.σ.set k ((st.σ.getD k []).set j (.sl [] .shared))).getD k []).getD j .undef=_
     rw [i];simp [List.getD,f,o]
    have s:Inv w0 G0 (unC st (.cell k j)) tm w G:=by
     show Inv w0 G0 { (st.stripC k j 1) with σ:=st.σ.set k ((st.σ.getD k []).set j (.sl [] .shared)) } tm w G
     rw [i];exact hI
    exact s.setL (l:=.cell k j) ⟨_,A,by simp only [World.cell?,C];simpa using E⟩ (p:=.prv []) (by rw [e];exact .prv _ [] none 0) (.inl ⟨rfl,e⟩) rfl (by rw [e];rfl) (fun ys e2=>by rw [m] at e2;cases e2) (by rw [m];rfl)
 |_=>cases hl
def VD (st:St)(cs:List PV):St:={ st with σ:=st.σ++[cs] }
theorem Inv.addPlace {b:Nat}{cs:List PV}{arr:Array Value}{T:TypeId}{l0:Loc}(h:Inv w0 G0 st tm w G)(hΩ:G.Ω b=some l0)(hno:∀ ys,AP st l0≠.sl ys .own)(hno2:∀ ys,AP st l0≠.prv ys)
 (hb:w.heap[b]?=some (.cells arr T (0,0))) (hsz:arr.size=cs.length) (hm:∀ p∈cs,p.isM=false) (hU:∀ i,¬ G.U b i)
 (hv:∀ j c,cs[j]?=some c->(arr.getD j Go.undef).oneCell'=true/\V w G.U [] c (arr.getD j Go.undef)/\(∀ xs,c≠.sl xs .own)/\∀ xs,c≠.prv xs) :
 Inv w0 G0 (VD st cs) tm w { U:=G.U,φ:=G.φ++[b],Ω:=fun b'=>if b'=b then none else G.Ω b' }:=by
 have H:=h.store.ob b (by rw [hΩ];simp)
 have B:=h.store.len
 have N:∀ (k x:Nat),G.φ[k]?=some x->(G.φ++[b])[k]?=some x:=fun k x z=>by
  rw [Õ (List.getElem?_eq_some_iff.1 z).1];exact z
 have O:∀ {p:PV} {v:Value},V w G.U G.φ p v->V w G.U (G.φ++[b]) p v:=fun hv=>hv.mono (fun _ _ h=>⟨h,Kp.refl⟩) N
 have own:∀ {l xs v},l≠l0->Az w G l xs v->Az w { U:=G.U,φ:=G.φ++[b],Ω:=fun b'=>if b'=b then none else G.Ω b' } l xs v:=fun f I=>I.to rfl fun b2 d=>by
  show (if b2=b then none else G.Ω b2)=_
  rw [Ä (fun e=>f (by rw [e,hΩ] at d;exact (Af d).symm))];exact d
 have prv:∀ {l xs v},l≠l0->B9 w G l xs v->B9 w { U:=G.U,φ:=G.φ++[b],Ω:=fun b'=>if b'=b then none else G.Ω b' } l xs v:=fun f I=>I.to rfl fun b2 d=>by
  show (if b2=b then none else G.Ω b2)=_
  rw [Ä (fun e=>f (by rw [e,hΩ] at d;exact (Af d).symm))];exact d
 refine⟨h.ext.trans ⟨rfl,rfl,rfl,Ü _,fun _ _ _ _=>rfl,fun _ _ h=>⟨h,Kp.refl⟩,fun _ _ h=>.inl h,fun b' n=>.inr (fun e=>n (by show (if b'=b then none else G.Ω b')=none;split<;>first|rfl|exact e)),[b],rfl,fun b' n=>by
  obtain rfl:b'=b:=by simpa using n
  exact .inr (by rw [hΩ];simp)⟩,⟨by simp [VD,B],?_,fun k b' cs2 z C=>?_,h.store.ub,fun b' n=>?_⟩,fun t=>O (h.env.v t),fun t=>?_⟩
 . rw [ď]
   refine⟨h.store.nodup,by simp,fun x R y S e=>?_⟩
   obtain rfl:y=b:=by simpa using S
   exact H.2 (e ▸ R)
 . by_cases J:k<st.σ.length
   . have K:G.φ[k]?=some b':=by rw [Õ (by omega)] at z;exact z
     have D:st.σ[k]?=some cs2:=by
      have:(st.σ++[cs])[k]?=some cs2:=C
      rw [Õ J] at this;exact this
     obtain⟨⟨o',arr',g1,⟨g2,g3⟩,g4⟩,g5⟩:=h.store.blk k b' cs2 K D
     refine⟨⟨o',arr',g1,⟨g2,g3⟩,fun j c F=>?_⟩,g5⟩
     obtain⟨v,k1,k2,k3,k4⟩:=g4 j c F
     refine⟨v,k1,k2,O k3,?_⟩
     unfold Ca at k4 ⊢
     split
     . rename_i xs
       refine own (fun e=>hno xs ?_) k4
       rw [<- e];simp [AP,List.getD,D,F]
     . rename_i xs
       refine prv (fun e=>hno2 xs ?_) k4
       rw [<- e];simp [AP,List.getD,D,F]
     . trivial
   . have L:k=st.σ.length:=by
      have:=(List.getElem?_eq_some_iff.1 C).1
      simp [VD] at this;omega
     subst L
     obtain rfl:b=b':=by
      rw [ß (by omega)] at z
      simpa [B] using z
     obtain rfl:cs=cs2:=by
      have:(st.σ++[cs])[st.σ.length]?=some cs2:=C
      simpa using this
     refine⟨⟨_,arr,hb,⟨.inl ⟨⟨T,rfl⟩,hm⟩,hsz⟩,fun j c F=>?_⟩,hU⟩
     obtain⟨k1,k2,k3,k4⟩:=hv j c F
     have M:j<arr.size:=by rw [hsz];exact (List.getElem?_eq_some_iff.1 F).1
     refine⟨arr.getD j Go.undef,by simp [M],k1,k2.mono (fun _ _ h=>⟨h,Kp.refl⟩) (fun k x z=>by simp at z),?_⟩
     unfold Ca
     split
     . exact absurd rfl (k3 _)
     . exact absurd rfl (k4 _)
     . trivial
 . have d:(if b'=b then none else G.Ω b')≠none:=n
   split at d
   . exact absurd rfl d
   . rename_i f
     have:=h.store.ob b' d
     refine⟨this.1,fun hm=>?_⟩
     rcases List.mem_append.1 hm with hm|hm
     . exact this.2 hm
     . exact f (by simpa using hm)
 . have E:=h.env.tag t
   show Dz w _ (VD st cs) tm t (st.get t) (tm t)
   have o:∀ xs,st.get t=.sl xs .own->Loc.tmp t≠l0:=fun xs e e2=>hno xs (by rw [<- e2];exact e)
   have r:∀ xs,st.get t=.prv xs->Loc.tmp t≠l0:=fun xs e e2=>hno2 xs (by rw [<- e2];exact e)
   have s:∀ c2 i xs,st.get t=.tup c2->c2[i]?=some (.sl xs .own)->Loc.tcomp t i≠l0:=fun c2 i xs e e3 e2=>hno xs (by rw [<- e2];simp [AP,e,List.getD,e3])
   revert E o r s
   generalize st.get t=q
   intro E o r s
   cases q with
   |prv xs=>exact prv (r xs rfl) E
   |sl xs g =>
    cases g with
    |own=>exact own (o xs rfl) E
    |view m =>
     cases m with
     |cell k j =>
      obtain⟨c2,b2,e1,e2,e3,e4⟩:=E
      exact⟨c2,b2,by show (st.σ++[cs])[k]?=_;rw [Õ (List.getElem?_eq_some_iff.1 e1).1];exact e1,e2,N _ _ e3,e4⟩
     |_=>exact E
    |_=>trivial
   |tup c2 =>
    intro i xs P
    obtain⟨arr2,u,k1,k2,k3⟩:=E i xs P
    exact⟨arr2,u,k1,k2,own (s c2 i xs rfl P) k3⟩
   |_=>trivial
def VN (st:St)(l:Loc)(xs:List (List Value))(cap m:Nat):St:=Vl.setL (VD (Vl.setL st l .undef) (Dn xs m)) l (.asl st.σ.length 0 xs.length cap)
theorem Yg (l:Loc)(p:PV):(Vl.setL st l p).σ.length=st.σ.length:=by
 cases l with
 |tmp t=>show (st.put (some t) p).σ.length=_;rw [Kx]
 |cell k j=>show (st.σ.set _ _).length=_;simp
 |_=>rfl
theorem OF {xs:List (List Value)}{m sz:Nat}(hrow:∀ x∈xs,x.length=sz):(Dn xs m).length=xs.length*sz+m:=by
 simp only [Dn,Ô,Î,List.length_replicate,DG xs hrow]
theorem SE {xs:List (List Value)}{m sz i j:Nat}(hrow:∀ x∈xs,x.length=sz)(hi:i<xs.length)(hj:j<(xs[i]).length):(Dn xs m)[i*sz+j]?=some (.lit xs[i][j]):=by
 have e:=Fo xs hrow i hi j hj
 have a:=(List.getElem?_eq_some_iff.1 e).1
 unfold Dn
 rw [Õ (by rw [Î];exact a),ç,e];rfl
theorem MV {xs:List (List Value)}{m:Nat}{p:PV}(h:p∈Dn xs m):p=.undef∨∃ v,p=.lit v:=by
 unfold Dn at h
 rcases List.mem_append.1 h with h|h
 . obtain⟨v,_,rfl⟩:=List.mem_map.1 h;exact .inr ⟨v,rfl⟩
 . exact .inl (List.eq_of_mem_replicate h)
theorem Inv.thaw {xs:List (List Value)}(h:Inv w0 G0 st tm w G)(hl:N3 l=true)(hc:AP st l=.prv xs)(hne:xs≠[]) :
 ∃ cap m sz G',xs.length<=cap/\cap*sz=xs.length*sz+m/\(∀ x∈xs,x.length=sz)/\Inv w0 G0 (VN st l xs cap m) tm w G':=by
 obtain⟨v,D,I,hT⟩:=h.getL hl hc
 have u:=Wc I
 have J:=h.setUndef (by rw [hc];rfl) (by rw [hc];simp) D u
 have g:=KI (st:=st) hl
 rcases hT with⟨e,_⟩|⟨b,cap,sz,T,arr,rfl,hne,f,d,K,hb,⟨y,L,z⟩,M⟩
 . exact absurd e hne
 have N:xs.length*sz<=arr.size:=by rw [y];exact î _ f.1
 have O:cap*sz=xs.length*sz+(cap*sz-xs.length*sz):=by omega
 have E:arr.size=(Dn xs (cap*sz-xs.length*sz)).length:=by rw [OF d,y];omega
 have A:0<sz∨sz=0:=by omega
 have P:=J.addPlace (cs:=Dn xs (cap*sz-xs.length*sz)) (T:=T) K (by rw [g];simp) (by rw [g];simp) hb E (fun p R=>by
  rcases MV R with rfl|⟨v,rfl⟩<;>rfl) M (fun q c r=>by
  have S:=(List.getElem?_eq_some_iff.1 r).1
  refine⟨L q (by omega),?_,?_,?_⟩
  . by_cases B:q<xs.length*sz
    . have C:0<sz:=by rcases A with h|h;exact h;rw [h] at B;omega
      have F:q / sz<xs.length:=(Nat.div_lt_iff_lt_mul C).2 B
      have H:q % sz<(xs[q / sz]).length:=by rw [d _ (Ù F)];exact Nat.mod_lt _ C
      have e:q / sz*sz+q % sz=q:=by rw [Nat.mul_comm,Nat.div_add_mod]
      have k1:=SE (m:=cap*sz-xs.length*sz) d F H
      have k2:=z _ F _ H
      rw [e] at k1 k2
      rw [r] at k1
      rw [Af k1,k2]
      exact .lit _ _
    . have:c=.undef:=by
       unfold Dn at r
       rw [ß (by rw [Î,DG xs d];omega)] at r
       exact List.eq_of_mem_replicate (Ò r)
      rw [this];exact .undef _ _
  . rcases MV (Ò r) with rfl|⟨v,rfl⟩<;>simp
  . rcases MV (Ò r) with rfl|⟨v,rfl⟩<;>simp)
 have i:G.φ.length=st.σ.length:=h.store.len
 have n:AP (VD (Vl.setL st l .undef) (Dn xs (cap*sz-xs.length*sz))) l=.undef:=by
  cases l with
  |tmp t=>exact g
  |cell k j =>
   have s:k<st.σ.length:=by
    rw [<- i]
    obtain⟨b,s,_⟩:=D
    exact (List.getElem?_eq_some_iff.1 s).1
   have o:((Vl.setL st (.cell k j) .undef).σ.getD k []).getD j .undef=.undef:=g
   show (((Vl.setL st (.cell k j) .undef).σ++[_]).getD k []).getD j .undef=.undef
   simp only [List.getD] at o ⊢
   rw [Õ (by rw [Yg];exact s)]
   exact o
  |_=>cases hl
 refine⟨cap,cap*sz-xs.length*sz,sz,_,f.1,O,d,P.setL (p:=.asl st.σ.length 0 xs.length cap) (v:=.slice (some ⟨b,0,none⟩) xs.length cap) ?_ (.asl _ _ _ _ _ b (by rw [<- i];simp) f.1 f.2) trivial rfl u (by rw [n];simp) (by rw [n];rfl)⟩
 cases l with
 |tmp t=>exact D
 |cell k j =>
  obtain⟨b',s,g⟩:=D
  exact⟨b',by show (G.φ++[b])[k]?=_;rw [Õ (List.getElem?_eq_some_iff.1 s).1];exact s,g⟩
 |_=>cases hl
def Ug (st:St)(n:Nat):St:={ st with σ:=st.σ.take n }
def VK (st:St)(l:Loc)(n:Nat)(xs:List (List Value)):St:=Vl.setL (Ug (Vl.setL st l .undef) n) l (.prv xs)
theorem Inv.unthaw {xs:List (List Value)}{n cap m sz:Nat}(h:Inv w0 G0 st tm w G)(hl:N3 l=true)(hc:AP st l=.asl n 0 xs.length cap)(hne:xs≠[])(hn:G0.φ.length<=n)(hk:st.σ[n]?=some (Dn xs m))(hlast:st.σ.length=n+1)
 (hrow:∀ x∈xs,x.length=sz) (hsz:cap*sz=xs.length*sz+m) (hl2:(match l with|.cell k _=>decide (k<n)|_=>true)=true)
 (hf:(∀ t,(((Vl.setL st l .undef).get t).fits n&&Mr n ((Vl.setL st l .undef).get t))=true)/\DH n ((Vl.setL st l .undef).σ.take n)=true) :
 ∃ G',Inv w0 G0 (VK st l n xs) tm w G':=by
 have J:G.φ.length=st.σ.length:=h.store.len
 obtain⟨v,H,hV⟩:∃ v,WE w G tm l v/\V w G.U G.φ (.asl n 0 xs.length cap) v:=by
  cases l with
  |tmp t =>
   have hg:st.get t=_:=hc
   have H:=h.env.v t
   rw [hg] at H
   exact⟨tm t,rfl,H⟩
  |cell k j =>
   have hc:(st.σ.getD k []).getD j .undef=.asl n 0 xs.length cap:=hc
   cases o:st.σ[k]? with
   |none=>simp [List.getD,o] at hc
   |some cs =>
    cases s:cs[j]? with
    |none=>simp [List.getD,o,s] at hc
    |some p =>
     obtain rfl:p=.asl n 0 xs.length cap:=by simpa [List.getD,o,s] using hc
     have R:=(List.getElem?_eq_some_iff.1 o).1
     have hk:G.φ[k]?=some (G.φ[k]'(by rw [J];exact R)):=Ã _
     obtain⟨⟨o',arr,O,⟨r,hsz⟩,d⟩,z⟩:=h.store.blk k _ cs hk o
     have S:NM cs:=fun q e=>by
      subst e
      match j,s with
      |0,s=>cases s;rfl
     obtain⟨T,rfl⟩:=r.cells S
     obtain⟨u,hu,P,f,Y⟩:=d j _ s
     exact⟨u,⟨_,hk,by simp only [World.cell?,O];simpa using hu⟩,f⟩
  |_=>cases hl
 cases hV with
 |asl _ _ _ _ _ b hb K C =>
 have h0:=h.setUndef (by rw [hc];rfl) (by rw [hc];simp) H rfl
 have y:=KI (st:=st) hl
 obtain⟨⟨o',arr,O,⟨r,L⟩,d⟩,z⟩:=h.store.blk n b _ hb hk
 obtain⟨T,rfl⟩:=r.cells (fun q e=>by
  rcases MV (xs:=xs) (m:=m) (p:=q) (by rw [e];simp) with rfl|⟨v,rfl⟩<;>rfl)
 have W:b∉G.φ.take n:=fun hm=>by
  obtain⟨i,M,e⟩:=ö hm
  have hi2:i<n:=by simp at M;omega
  have e2:G.φ[i]?=some b:=by rw [<- e,List.getElem_take];exact Ã _
  have:=(List.getElem?_inj (List.getElem?_eq_some_iff.1 e2).1 h.store.nodup).1 (e2.trans hb.symm)
  omega
 have Z:G.Ω b=none:=by
  cases e:G.Ω b with
  |none=>rfl
  |some l=>exact absurd (Ò hb) (h.store.ob b (by rw [e];simp)).2
 have N:w0.heap.size<=b∨G0.Ω b≠none:=by
  obtain⟨ψ,hφ,hψ⟩:=h.ext.phi
  refine hψ b ?_
  rw [hφ,ß hn] at hb
  exact Ò hb
 have f:=h0.take0 hn hf
 have X:b<w.heap.size:=(Array.getElem?_eq_some_iff.1 O).1
 have own:∀ {l2 xs v},Az w { G with φ:=G.φ.take n } l2 xs v->Az w { U:=G.U,φ:=G.φ.take n,Ω:=fun b'=>if b'=b then some l else G.Ω b' } l2 xs v:=fun P=>P.to rfl fun b2 a=>by
  show (if b2=b then some l else G.Ω b2)=_
  rw [Ä (fun e=>by rw [e] at a;exact absurd (Z.symm.trans a) (by simp))];exact a
 have prv:∀ {l2 xs v},B9 w { G with φ:=G.φ.take n } l2 xs v->B9 w { U:=G.U,φ:=G.φ.take n,Ω:=fun b'=>if b'=b then some l else G.Ω b' } l2 xs v:=fun P=>P.to rfl fun b2 a=>by
  show (if b2=b then some l else G.Ω b2)=_
  rw [Ä (fun e=>by rw [e] at a;exact absurd (Z.symm.trans a) (by simp))];exact a
 have Y:Inv w0 G0 (Ug (Vl.setL st l .undef) n) tm w { U:=G.U,φ:=G.φ.take n,Ω:=fun b'=>if b'=b then some l else G.Ω b' }:=by
  refine⟨⟨f.ext.os,f.ext.tape,f.ext.output,f.ext.size,f.ext.frame,f.ext.cells,f.ext.newU,fun b' D=>?_,f.ext.phi⟩,⟨f.store.len,f.store.nodup,fun k b' cs hk hc=>?_,f.store.ub,fun b' D=>?_⟩,f.env.v,fun t=>?_⟩
  . have a:(if b'=b then some l else G.Ω b')≠none:=D
    by_cases e:b'=b
    . subst e;exact N
    . rw [Ä e] at a;exact f.ext.newΩ b' a
  . obtain⟨⟨o',arr',g1,⟨g2,g3⟩,g4⟩,g5⟩:=f.store.blk k b' cs hk hc
    refine⟨⟨o',arr',g1,⟨g2,g3⟩,fun j c s=>?_⟩,g5⟩
    obtain⟨v,k1,k2,k3,k4⟩:=g4 j c s
    refine⟨v,k1,k2,k3,?_⟩
    unfold Ca at k4 ⊢
    split
    . exact own k4
    . exact prv k4
    . trivial
  . have a:(if b'=b then some l else G.Ω b')≠none:=D
    by_cases e:b'=b
    . subst e;exact⟨X,W⟩
    . rw [Ä e] at a;exact f.store.ob b' a
  . have I:=f.env.tag t
    show Dz w _ (Ug (Vl.setL st l .undef) n) tm t ((Vl.setL st l .undef).get t) (tm t)
    revert I
    show Dz w _ (Ug (Vl.setL st l .undef) n) tm t ((Vl.setL st l .undef).get t) (tm t)->_
    generalize (Vl.setL st l .undef).get t=q
    intro I
    cases q with
    |prv xs=>exact prv I
    |sl xs g =>
     cases g with
     |own=>exact own I
     |view m=>cases m<;>exact I
     |_=>trivial
    |tup c2 =>
     intro i xs M
     obtain⟨arr2,u,k1,k2,k3⟩:=I i xs M
     exact⟨arr2,u,k1,k2,own k3⟩
    |_=>trivial
 have A:AP (Ug (Vl.setL st l .undef) n) l=.undef:=by
  cases l with
  |tmp t=>exact y
  |cell k j =>
   have B:((Vl.setL st (.cell k j) .undef).σ.getD k []).getD j .undef=.undef:=y
   have E:k<n:=by simpa using hl2
   show (((Vl.setL st (.cell k j) .undef).σ.take n).getD k []).getD j .undef=.undef
   simp only [List.getD] at B ⊢
   rw [Ā,Ç E]
   exact B
  |_=>cases hl
 have F:(Dn xs m).length=xs.length*sz+m:=OF hrow
 refine⟨_,Y.setL (p:=.prv xs) (v:=.slice (some ⟨b,0,none⟩) xs.length cap) ?_ (.prv _ _ _ _) (.inr ⟨b,cap,sz,T,arr,rfl,hne,⟨K,C⟩,hrow,Ç rfl,O,⟨by rw [L,F,hsz],fun q hq=>?_,fun i M j s=>?_⟩,z⟩) rfl rfl (by rw [A];simp) (by rw [A];rfl)⟩
 . cases l with
   |tmp t=>exact H
   |cell k j =>
    obtain⟨b',hk,y⟩:=H
    have E:k<n:=by simpa using hl2
    exact⟨b',by show (G.φ.take n)[k]?=_;rw [Ā,Ç E];exact hk,y⟩
   |_=>cases hl
 . obtain⟨v,k1,k2,_⟩:=d q _ (Ã (by omega))
   simpa [k1] using k2
 . obtain⟨v,k1,k2,k3,_⟩:=d _ _ (SE (m:=m) hrow M s)
   have e:arr.getD (i*sz+j) Go.undef=v:=by simp [k1]
   rw [e]
   cases k3
   rfl
end
end Go.Vl
namespace Go.Sp
open Go Go.RowKit Go.Q Go.Vl
def ZC (x:List TI×St):Bool:=match LU 99 x.1 with
 |.code _::_=>true
 |_=>false
section
variable {P:Program} {L:Cf} {N:Nat} {Q:AX->St->Prop} {x:List TI×St}
theorem Zl {X:St->Prop}(hc:ZC x=true)(hw:FQ N x.2 X)(h:∀ s,X s->WX P L N Q (LU 99 x.1,s)):WX P L N Q x:=by
 unfold ZC at hc
 refine⟨zp (n:=99) ?_⟩
 split at hc
 . rename_i c k e
   rw [e]
   refine FQ.bind hw fun s hs=>?_
   have:=(h s hs).s
   simp only at this
   rw [e] at this
   exact this
 . cases hc
theorem pvX (l:Vl.Loc)(h:WX P L N Q (LU 99 x.1,setL (unC x.2 l) l (.prv [])))(he:(ZC x&&N3 l,AP x.2 l)=(true,.sl [] .own):=by kernel_rfl):WX P L N Q x:=by
 obtain⟨e1,e2⟩:=Ó he
 rw [Æ] at e1
 exact Zl e1.1 (FQ.of (st2:=setL (unC x.2 l) l (.prv [])) (fun w0 G0 tm w G _ hI=>⟨G,hI.toPrv e1.2 e2⟩) rfl) fun s hs=>by subst hs;exact h
theorem poX (l:Vl.Loc)(xs:List (List Value))(h:WX P L N Q (LU 99 x.1,setL (setL x.2 l .undef) l (.sl (xs.map fun x=>x.map .lit) .own)))(he:(ZC x&&N3 l,AP x.2 l)=(true,.prv xs):=by kernel_rfl):WX P L N Q x:=by
 obtain⟨e1,e2⟩:=Ó he
 rw [Æ] at e1
 exact Zl e1.1 (FQ.of (st2:=setL (setL x.2 l .undef) l (.sl (xs.map fun x=>x.map .lit) .own)) (fun w0 G0 tm w G _ hI=>hI.toOwn e1.2 e2) rfl) fun s hs=>by subst hs;exact h
theorem thX (l:Vl.Loc)(xs:List (List Value))(hne:xs≠[])(h:∀ cap m sz,xs.length<=cap->cap*sz=xs.length*sz+m->(∀ x∈xs,x.length=sz)->WX P L N Q (LU 99 x.1,VN x.2 l xs cap m))
 (he:(ZC x&&N3 l,AP x.2 l)=(true,.prv xs):=by kernel_rfl):WX P L N Q x:=by
 obtain⟨e1,e2⟩:=Ó he
 rw [Æ] at e1
 refine Zl (X:=fun s=>∃ cap m sz,xs.length<=cap/\cap*sz=xs.length*sz+m/\(∀ x∈xs,x.length=sz)/\s=VN x.2 l xs cap m) e1.1 (fun w0 G0 tm w G _ hI=>?_) fun s hs=>?_
 . obtain⟨cap,m,sz,G',a,b,c,d⟩:=hI.thaw e1.2 e2 hne
   exact⟨_,G',⟨cap,m,sz,a,b,c,rfl⟩,d⟩
 . obtain⟨cap,m,sz,a,b,c,rfl⟩:=hs
   exact h cap m sz a b c
def Zi (n:Nat):Vl.Loc->Bool
 |.cell k _=>Nat.ble (k+1) n
 |_=>true
theorem unX (l:Vl.Loc)(xs:List (List Value))(n cap m:Nat){sz:Nat}(hne:xs≠[])(hsz:cap*sz=xs.length*sz+m)(hrow:∀ x∈xs,x.length=sz)(h:WX P L N Q (LU 99 x.1,VK x.2 l n xs))
 (he:((ZC x&&N3 l)&&((Nat.ble N n&&Nat.beq x.2.σ.length (n+1))&&(Zi n l&&((setL x.2 l .undef).env.all (fun z=>(Cj (setL x.2 l .undef).env z.1).fits n&&Mr n (Cj (setL x.2 l .undef).env z.1))&&DH n ((setL x.2 l .undef).σ.take n)))),AP x.2 l,x.2.σ[n]?)=(true,.asl n 0 xs.length cap,some (Dn xs m)):=by kernel_rfl):WX P L N Q x:=by
 simp only [È,Æ] at he
 obtain⟨⟨⟨e1,e2⟩,⟨⟨e3,e4⟩,e5,e6,e7⟩⟩,e8,e9⟩:=he
 refine Zl e1 (FQ.of (st2:=VK x.2 l n xs) (fun w0 G0 tm w G hN hI=>hI.unthaw e2 e8 hne (Ĕ hN (Ø e3)) e9 (Nat.eq_of_beq_eq_true e4) hrow hsz ?_ ⟨?_,e7⟩) rfl) fun s hs=>by subst hs;exact h
 . cases l with
   |cell k j=>exact Ì (Ø e5)
   |_=>rfl
 . exact Xv (p:=fun q=>q.fits n&&Mr n q) rfl _ e6
end
structure Rl (α:Type) where
 vals:α->List Value
 n:Nat
 len:∀ x,(vals x).length=n
def JW {α:Type}(l:List α)(i:Int)(x:α):Option (List α):=if 0<=i/\i<(l.length:Int) then some (l.set i.toNat x) else none
def gx (n:Nat)(i:Int):Option Unit:=if 0<=i/\i<(n:Int) then some () else none
theorem DN {n:Nat}{i:Int}{u:Unit}(h:gx n i=some u):0<=i/\i<(n:Int):=by
 unfold gx at h
 split at h
 . assumption
 . cases h
section
variable {α:Type} (R:Rl α)
theorem Rl.row (l:List α):∀ x∈l.map R.vals,x.length=R.n:=fun x hx=>by
 obtain⟨y,_,rfl⟩:=List.mem_map.1 hx
 exact R.len y
theorem YC {l:List α}{i:Int}{x:α}(h:gi l i=some x):0<=i/\i.toNat<l.length/\l[i.toNat]?=some x:=by
 unfold gi at h
 split at h
 . rename_i a
   exact⟨a,(List.getElem?_eq_some_iff.1 h).1,h⟩
 . cases h
theorem Zj {l:List α}{m i j:Nat}{x:α}{v:Value}(h:l[i]?=some x)(hv:(R.vals x)[j]?=some v):(Dn (l.map R.vals) m)[i*R.n+j]?=some (.lit v):=by
 have a:=(List.getElem?_eq_some_iff.1 h).1
 have e:(l.map R.vals)[i]'(by simpa using a)=R.vals x:=by
  rw [é];congr 1;rw [Ã a] at h;exact Af h
 have b:=(List.getElem?_eq_some_iff.1 hv)
 have:=SE (m:=m) (R.row l) (i:=i) (by simpa using a) (j:=j) (by rw [e];exact b.1)
 rw [this];congr 2
 simp only [e];exact b.2
theorem Qj {xs:List (List Value)}{m:Nat}:∀ q∈Dn xs m,q=.undef∨∃ v,q=.lit v:=fun _ hq=>MV hq
theorem ldE {l:List α}{m:Nat}{i:Int}{x:α}(h:gi l i=some x):LdA true (Dn (l.map R.vals) m) (0+i.toNat*R.n) R.n (.agg ((R.vals x).map .lit)):=by
 obtain⟨_,e,f⟩:=YC h
 have a:=OF (m:=m) (R.row l)
 have b:(i.toNat+1)*R.n<=l.length*R.n:=î _ e
 rw [ó,ĝ] at b
 rw [Î] at a
 refine⟨Qj,?_⟩
 rw [Ç rfl,ò]
 refine⟨by omega,?_⟩
 congr 1
 refine List.ext_getElem? fun j=>?_
 rw [Ā,ç]
 by_cases c:j<R.n
 . rw [Ç c,List.getElem?_drop]
   have d:(R.vals x)[j]?=some ((R.vals x)[j]'(by rw [R.len];exact c)):=Ã _
   rw [Zj R f d,d];rfl
 . rw [Ä c,List.getElem?_eq_none (by rw [R.len];omega)];rfl
theorem ldF {l:List α}{m off:Nat}{i:Int}{x:α}{v:Value}(h:gi l i=some x)(hv:(R.vals x)[off]?=some v):LdA false (Dn (l.map R.vals) m) (0+i.toNat*R.n+off) 1 (.lit v):=by
 obtain⟨_,c,b⟩:=YC h
 have e:=Zj R (m:=m) b hv
 have a:=(List.getElem?_eq_some_iff.1 e).1
 refine⟨Qj,?_⟩
 rw [Ä (by simp),ò]
 exact⟨a,by rw [List.getD,e];rfl⟩
theorem TR {n:Nat}:∀ (xs:List (List Value)) (i j:Nat) (y:List Value),(∀ x∈xs,x.length=n)->i<xs.length->j+y.length<=n ->
 splice (xs.flatten.map PV.lit) (i*n+j) (y.map .lit)=((xs.set i (((xs.getD i []).take j)++y++((xs.getD i []).drop (j+y.length)))).flatten).map PV.lit
 | [],i,j,y,_,hi,_=>by simp at hi
 |x::xs,0,j,y,h,_,hj=>by
  have hx:=h x (by simp)
  unfold splice
  simp only [Nat.zero_mul,ò,List.flatten_cons,ā,List.set_cons_zero,List.getD_cons_zero,Î]
  rw [Ĩ (by simp;omega),ĩ (by simp;omega)]
  simp [List.map_take,List.map_drop,ð]
 |x::xs,i+1,j,y,h,hi,hj=>by
  have hx:=h x (by simp)
  have ih:=TR xs i j y (fun x hx=>h x (by simp [hx])) (by simpa using hi) hj
  unfold splice at ih ⊢
  simp only [List.flatten_cons,ā,List.set_cons_succ,List.getD_cons_succ,Î] at ih ⊢
  rw [<- ih]
  have e:(i+1)*n+j=(x.map PV.lit).length+(i*n+j):=by rw [Î,hx,ó];omega
  rw [e,List.take_length_add_append,ī,List.drop_length_add_append]
  simp [ð]
theorem UE {cs ds ns:List PV}{o:Nat}(h:o+ns.length<=cs.length):splice (cs++ds) o ns=splice cs o ns++ds:=by
 unfold splice
 rw [Ĩ (by omega),ĩ (by omega)]
 simp [ð]
theorem stF {l l':List α}{m off:Nat}{i:Int}{x x':α}{y:List Value}(h:gi l i=some x)(h':JW l i x'=some l')(hy:off+y.length<=R.n)(hx:(R.vals x).take off++y++(R.vals x).drop (off+y.length)=R.vals x') :
 StA (Dn (l.map R.vals) m) (0+i.toNat*R.n+off) y.length (y.map .lit) (Dn (l'.map R.vals) m):=by
 obtain⟨f,d,g⟩:=YC h
 have a:=OF (m:=m) (R.row l)
 have c:(i.toNat+1)*R.n<=l.length*R.n:=î _ d
 rw [ó,ĝ] at c
 rw [Î] at a
 obtain rfl:l.set i.toNat x'=l':=by
  unfold JW at h'
  rw [Ç ⟨f,by omega⟩] at h'
  exact Af h'
 rw [ò]
 refine⟨Qj,by simp,by omega,?_⟩
 unfold Dn
 have b:=DG (l.map R.vals) (R.row l)
 rw [Î] at b
 rw [UE (by rw [Î,Î,b];omega),TR (n:=R.n) _ _ _ _ (R.row l) (by simpa using d) hy]
 congr 3
 have e:(l.map R.vals).getD i.toNat []=R.vals x:=by simp [List.getD,g]
 rw [e,hx,List.map_set]
theorem stE {l l':List α}{m:Nat}{i:Int}{x':α}(h':JW l i x'=some l'):StA (Dn (l.map R.vals) m) (0+i.toNat*R.n) R.n ((R.vals x').map .lit) (Dn (l'.map R.vals) m):=by
 have hb:0<=i/\i<(l.length:Int):=by
  unfold JW at h'
  split at h'
  . assumption
  . cases h'
 have a:i.toNat<l.length:=by omega
 have b:gi l i=some l[i.toNat]:=by unfold gi;rw [Ç hb.1];exact Ã a
 have:=stF R (m:=m) (off:=0) (y:=R.vals x') b h' (by rw [R.len];omega) (by rw [List.take_zero,ć,ò,R.len,č (by rw [R.len];exact Ü _),Ĝ])
 rw [R.len,Nat.add_zero] at this
 exact this
theorem apP {b:Nat}{l z ys:List α}(hy:ys≠[])(h:CH b l ys=some z) :
 (decide (((l.map R.vals).length+(ys.map R.vals).length)*b<=140737488355328)&&(!((ys.map R.vals).isEmpty)&&((l.map R.vals).all (fun x=>x.length == R.n)&&(ys.map R.vals).all (fun x=>x.length == R.n))))=true/\PV.prv (l.map R.vals++ys.map R.vals)=.prv (z.map R.vals):=by
 unfold CH at h
 split at h
 . rename_i hb
   obtain rfl:=Af h
   refine⟨?_,by simp⟩
   have a:∀ l:List α,(l.map R.vals).all (fun x=>x.length == R.n)=true:=fun l=>by
    rw [Ú];intro y hy;rw [ý];exact R.row l y hy
   rw [a,a]
   simp only [Î,Ğ,Æ,Í,å,List.isEmpty_eq_false_iff]
   exact⟨hb,by simpa using hy⟩
 . cases h
def MY (b sz n:Nat){i:Int}(h:0<=i/\i<(n:Int)):Fa:=⟨.val (.ptr b (0+i.toNat*sz)),decide (0<=i/\i<(n:Int))=true/\PV.ptr b (0+i.toNat*sz)=.ptr b (0+i.toNat*sz),Ì h,rfl⟩
def U0 {l:List α}(m:Nat){i:Int}{x:α}(h:gi l i=some x):Fa:=⟨.ald (.agg ((R.vals x).map .lit)),_,ldE R (m:=m) h⟩
def flf {l:List α}(m off:Nat){i:Int}{x:α}{v:Value}(h:gi l i=some x)(hv:(R.vals x)[off]?=some v):Fa:=⟨.ald (.lit v),_,ldF R (m:=m) (off:=off) h hv⟩
def fsE {l l':List α}(m:Nat){i:Int}{x':α}(h:JW l i x'=some l'):Fa:=⟨.ast (Dn (l'.map R.vals) m),_,stE R (m:=m) h⟩
def fap {b:Nat}{l z ys:List α}(hy:ys≠[])(h:CH b l ys=some z):Fa:=⟨.val (.prv (z.map R.vals)),_,apP R hy h⟩
end
section
variable {P:Program} {L:Cf} {N:Nat} {Q:AX->St->Prop} {x:List TI×St} {α:Type}
def Abp (st:St)(l:Vl.Loc)(xs:List (List Value))(n cap m:Nat):St:=setL (VD (setL st l .undef) (Dn xs m)) l (.asl st.σ.length 0 n cap)
theorem thR (R:Rl α)(lc:Vl.Loc)(l:List α)(n:Nat)(hn:l.length=n)(hne:l≠[])(h:∀ cap m,l.length<=cap->cap*R.n=n*R.n+m->WX P L N Q (LU 99 x.1,Abp x.2 lc (l.map R.vals) n cap m))
 (he:(ZC x&&N3 lc,AP x.2 lc)=(true,.prv (l.map R.vals)):=by kernel_rfl):WX P L N Q x:=by
 refine thX lc (l.map R.vals) (by simpa using hne) (fun cap m sz a c d=>?_) he
 obtain⟨y,r,rfl⟩:∃ y r,l=y::r:=by cases l with|nil=>exact absurd rfl hne|cons y r=>exact⟨y,r,rfl⟩
 obtain rfl:R.n=sz:=by rw [<- d (R.vals y) (by simp),R.len]
 have e:((y::r).map R.vals).length=n:=by rw [Î];exact hn
 have b:=h cap m (by rw [<- hn] at *;rw [Î] at a;exact a) (by rw [<- e];exact c)
 unfold Abp at b
 unfold VN
 rw [e];exact b
theorem unR (R:Rl α)(lc:Vl.Loc)(l:List α)(p n cap m:Nat)(hn:l.length=n)(hne:l≠[])(hsz:cap*R.n=n*R.n+m)(h:WX P L N Q (LU 99 x.1,VK x.2 lc p (l.map R.vals)))
 (he:((ZC x&&N3 lc)&&((Nat.ble N p&&Nat.beq x.2.σ.length (p+1))&&(Zi p lc&&((setL x.2 lc .undef).env.all (fun z=>(Cj (setL x.2 lc .undef).env z.1).fits p&&Mr p (Cj (setL x.2 lc .undef).env z.1))&&DH p ((setL x.2 lc .undef).σ.take p)))),AP x.2 lc,x.2.σ[p]?)=(true,.asl p 0 n cap,some (Dn (l.map R.vals) m)):=by kernel_rfl):WX P L N Q x:=by
 subst hn
 have e:(l.map R.vals).length=l.length:=Î _
 refine unX lc (l.map R.vals) p cap m (by simpa using hne) (sz:=R.n) (by rw [e];exact hsz) (R.row l) h ?_
 rw [e];exact he
theorem poR (R:Rl α)(row:α->List PV)(lc:Vl.Loc)(l:List α)(h:WX P L N Q (LU 99 x.1,setL (setL x.2 lc .undef) lc (.sl (l.map row) .own)))(hr:∀ x,(R.vals x).map PV.lit=row x:=by intro _;rfl)
 (a:(ZC x&&N3 lc,AP x.2 lc)=(true,.prv (l.map R.vals)):=by kernel_rfl):WX P L N Q x:=by
 refine poX lc (l.map R.vals) ?_ a
 have e:(l.map R.vals).map (fun x=>x.map PV.lit)=l.map row:=by rw [List.map_map];exact List.map_congr_left fun x _=>hr x
 rw [e];exact h
theorem hwX (t:Nat)(h:WX P L N Q (LU 99 x.1,x.2.put (some t) (.mit [] [77])))(he:ZC x=true:=by kernel_rfl):WX P L N Q x :=
 Zl he (FQ.of (st2:=x.2.put (some t) (.mit [] [77])) (fun w0 G0 tm w G _ hI=>⟨G,by have:=hI.put t (p:=.mit [] [77]) (.mit _ _ _ (tm t)) trivial;rwa [GQ] at this⟩) rfl) fun s hs=>by subst hs;exact h
theorem IF {l:List α}(h:l.isEmpty=false):l≠[]:=by simpa using h
theorem Uf {l:List α}(h:l.isEmpty=true):l=[]:=by simpa using h
theorem Hj {l:List α}{n:Nat}(h:(l.length == n)=true):l.length=n:=by simpa using h
theorem Ny {l r:List α}(h:r.length=l.length)(hl:l≠[]):r≠[]:=by rintro rfl;exact hl (ã h.symm)
end
end Go.Sp
namespace Go.Vl
open Go Go.RowKit
structure R7 (b:Nat) (w w':World):Prop where
 os:w'.os=w.os
 tape:w'.tape=w.tape
 output:w'.output=w.output
 size:w.heap.size<=w'.heap.size
 same:∀ k,k<w.heap.size->k≠b->w'.heap[k]?=w.heap[k]?
structure Ml (G:Gh) (b:Nat):Prop where
 phi:b∉G.φ
 own:G.Ω b=none
 noU:∀ i,¬ G.U b i
section
variable {w w' w0:World} {G G' G0:Gh} {st st':St} {tm:Nat->Value} {b c:Nat} {σ:List (List PV)} {p:PV} {v:Value} {N:Nat}
theorem R7.putObj (w:World)(b:Nat)(o:Obj):R7 b w (w.putObj b o):=⟨rfl,rfl,rfl,by simp,fun k _ h=>World.putObj_heap_other h⟩
theorem R7.alloc (w:World)(b:Nat)(o:Obj):R7 b w (w.alloc o):=⟨rfl,rfl,rfl,by simp,fun k h _=>ê w o k h⟩
theorem Ml.ext (h:Ml G b)(hl:b<w.heap.size)(hx:Ext w G w' G'):Ml G' b:=by
 obtain⟨ψ,a,c⟩:=hx.phi
 refine⟨fun hm=>?_,?_,fun i d=>?_⟩
 . rw [a] at hm
   rcases List.mem_append.1 hm with hm|hm
   . exact h.phi hm
   . rcases c b hm with k|k
     . omega
     . exact k h.own
 . cases e:G'.Ω b with
   |none=>rfl
   |some l =>
    rcases hx.newΩ b (by rw [e];simp) with k|k
    . omega
    . exact absurd h.own k
 . rcases hx.newU b i d with k|k|k
   . exact h.noU i k
   . omega
   . exact k h.own
theorem Ml.same (h:Ml G b)(hl:b<w.heap.size)(hx:Ext w G w' G'):w'.heap[b]?=w.heap[b]?:=hx.frame b hl h.phi h.own
theorem Ay.phi_lt (h:Ay w G σ)(hb:b∈G.φ):b<w.heap.size:=by
 obtain⟨k,a,c⟩:=ö hb
 have d:k<σ.length:=by rw [<- h.len];exact a
 obtain⟨⟨o,arr,e,_⟩,_⟩:=h.blk k b σ[k] (by rw [Ã a,c]) (Ã d)
 exact (Array.getElem?_eq_some_iff.1 e).1
theorem Ay.fresh (h:Ay w G σ)(hb:w.heap.size<=b):Ml G b:=by
 refine⟨fun a=>?_,?_,fun i c=>?_⟩
 . have:=h.phi_lt a;omega
 . cases e:G.Ω b with
   |none=>rfl
   |some l=>have:=(h.ob b (by rw [e];simp)).1;omega
 . have:=h.ub b i c;omega
theorem V.but (hs:Ay w G σ)(hu:Ml G b)(hb:R7 b w w'){φ:List Nat}(h:V w G.U φ p v):V w' G.U φ p v :=
 h.mono (fun b2 i hu2=>⟨hu2,Kp.of (hb.same b2 (hs.ub b2 i hu2) (fun e=>hu.noU i (e ▸ hu2)))⟩) (fun _ _ h=>h)
theorem KJ (hs:Ay w G σ)(hu:Ml G b)(hb:R7 b w w'){l:Loc}:∀ b2,G.Ω b2=some l->G.Ω b2=some l/\w'.heap[b2]?=w.heap[b2]?/\∀ i,G.U b2 i->G.U b2 i:=fun b2 h =>
 ⟨h,hb.same b2 (hs.ob b2 (by rw [h];simp)).1 (fun e=>by rw [e,hu.own] at h;cases h),fun _ h=>h⟩
theorem Ay.but (h:Ay w G σ)(hu:Ml G b)(hb:R7 b w w'):Ay w' G σ:=by
 refine⟨h.len,h.nodup,fun k b1 cs m p=>?_,fun b1 i f=>ñ (h.ub b1 i f) hb.size,fun b1 hB=>⟨ñ (h.ob b1 hB).1 hb.size,(h.ob b1 hB).2⟩⟩
 obtain⟨⟨T,arr,n,o,q⟩,r⟩:=h.blk k b1 cs m p
 have g:b1<w.heap.size:=(Array.getElem?_eq_some_iff.1 n).1
 have l:b1≠b:=fun e=>hu.phi (e ▸ Ò m)
 refine⟨⟨T,arr,(hb.same b1 g l).trans n,⟨o.1.mono (fun b2 i a=>⟨a,Kp.of (hb.same b2 (h.ub b2 i a) (fun e=>hu.noU i (e ▸ a)))⟩),o.2⟩,fun j c s=>?_⟩,r⟩
 obtain⟨v,t,u,x,d⟩:=q j c s
 refine⟨v,t,u,x.but h hu hb,?_⟩
 unfold Ca at d ⊢
 split
 . exact Az.keep d (KJ h hu hb)
 . exact B9.keep d (KJ h hu hb)
 . trivial
theorem Hp.but (hs:Ay w G st.σ)(h:Hp w G st tm)(hu:Ml G b)(hb:R7 b w w'):Hp w' G st tm:=by
 refine⟨fun t=>(h.v t).but hs hu hb,fun t=>?_⟩
 have a:=h.tag t
 revert a
 generalize st.get t=p
 generalize tm t=v
 intro a
 cases p with
 |sl xs g=>cases g with
  |own=>exact Az.keep (show Az w G (.tmp t) xs v from a) (KJ hs hu hb)
  |view l=>cases l with
   |cell k j =>
    obtain⟨cs,b1,f,m,c,n⟩:=a
    have d:=Ò c
    exact⟨cs,b1,f,m,c,(Ċ (w:=w) (hb.same b1 (hs.phi_lt d) (fun e=>hu.phi (e ▸ d)))).trans n⟩
   |_=>exact a
  |_=>trivial
 |prv xs=>exact B9.keep (show B9 w G (.tmp t) xs v from a) (KJ hs hu hb)
 |tup cs =>
  intro i xs o
  obtain⟨arr,u,k1,k2,k3⟩:=a i xs o
  exact⟨arr,u,k1,k2,Az.keep k3 (KJ hs hu hb)⟩
 |_=>trivial
theorem Ext.but (h:Ext w0 G0 w G)(hs:Ay w G σ)(hu:Ml G b)(hn:w0.heap.size<=b∨b∈G0.φ∨G0.Ω b≠none)(hb:R7 b w w'):Ext w0 G0 w' G:=by
 refine⟨hb.os.trans h.os,hb.tape.trans h.tape,hb.output.trans h.output,Ĕ h.size hb.size,fun k c d f=>?_,fun b2 i a=>?_,h.newU,h.newΩ,h.phi⟩
 . rw [hb.same k (ñ c h.size) ?_,h.frame k c d f]
   rintro rfl
   rcases hn with k1|k1|k1
   . omega
   . exact d k1
   . exact k1 f
 . obtain⟨k1,k2⟩:=h.cells b2 i a
   exact⟨k1,k2.trans (Kp.of (hb.same b2 (hs.ub b2 i k1) (fun e=>hu.noU i (e ▸ k1))))⟩
theorem Inv.but (h:Inv w0 G0 st tm w G)(hu:Ml G b)(hn:w0.heap.size<=b∨b∈G0.φ∨G0.Ω b≠none)(hb:R7 b w w'):Inv w0 G0 st tm w' G :=
 ⟨h.ext.but h.store hu hn hb,h.store.but hu hb,h.env.but h.store hu hb⟩
def Gh.reb (G:Gh)(N:Nat):Gh:={ U:=G.U,φ:=G.φ.take N,Ω:=fun b=>if b∈G.φ.drop N then some (.tmp 0) else G.Ω b }
theorem Yk:Ext w (G.reb N) w G:=by
 refine⟨rfl,rfl,rfl,Ü _,fun _ _ _ _=>rfl,fun _ _ h=>⟨h,Kp.refl⟩,fun _ _ h=>.inl h,fun b hb=>.inr ?_,G.φ.drop N,(ă N G.φ).symm,fun b hb=>.inr ?_⟩
 . show (if b∈G.φ.drop N then some (Loc.tmp 0) else G.Ω b)≠none
   split
   . simp
   . exact hb
 . show (if b∈G.φ.drop N then some (Loc.tmp 0) else G.Ω b)≠none
   rw [Ç hb];simp
theorem Ext.drop_new (h:Ext w0 G0 w G)(hN:G0.φ.length<=N)(hb:b∈G.φ.drop N):w0.heap.size<=b∨G0.Ω b≠none:=by
 obtain⟨ψ,a,c⟩:=h.phi
 rw [a,List.drop_append,č hN,ć] at hb
 exact c b (í hb)
theorem Ext.reb (h:Ext w0 G0 w G)(hN:G0.φ.length<=N):Ext w0 G0 w (G.reb N):=by
 refine⟨h.os,h.tape,h.output,h.size,h.frame,h.cells,h.newU,fun b hb=>?_,?_⟩
 . change (if b∈G.φ.drop N then some (Loc.tmp 0) else G.Ω b)≠none at hb
   split at hb
   . rename_i a;exact h.drop_new hN a
   . exact h.newΩ b hb
 . obtain⟨ψ,c,d⟩:=h.phi
   refine⟨ψ.take (N-G0.φ.length),?_,fun b hb=>d b (ü hb)⟩
   show G.φ.take N=_
   rw [c,List.take_append,List.take_of_length_le hN]
theorem Cu.reb (h:Cu w G):Cu w (G.reb N):=by
 refine⟨h.1,fun b hb=>?_⟩
 obtain⟨d,c,e⟩:=h.2 b hb
 refine⟨d,fun a=>c (ü a),?_⟩
 show (if b∈G.φ.drop N then some (Loc.tmp 0) else G.Ω b)=none
 rw [Ä (fun a=>c (í a))];exact e
theorem Ml.reb (h:Ml G b):Ml (G.reb N) b:=by
 refine⟨fun a=>h.phi (ü a),?_,h.noU⟩
 show (if b∈G.φ.drop N then some (Loc.tmp 0) else G.Ω b)=none
 rw [Ä (fun a=>h.phi (í a))];exact h.own
end
end Go.Vl
namespace Go.Vl
open Go Go.RowKit
def Iter (P:Program)(gf:FuncId)(lb:Array Value)(ba:Nat)(H:World->Prop)(xs:List Int):Prop :=
 ∀ W:World,H W->∀ (l:Nat) (J Jx:List Int->World->Prop),
  (∀ s A B,J s A->R7 ba A B->J s B)->(∀ s A B,Jx s A->R7 ba A B->Jx s B) ->
  (∀ pre x W1,J pre W1->pre++[x] <+: xs->YieldAt (F0 none) 0 P l #[.int .i64 x] W1 fun e W' =>
   (e=.returned (.bool true)/\J (pre++[x]) W'/\W'.heap[ba]?=W1.heap[ba]?)∨(e=.returned (.bool false)/\Jx (pre++[x]) W')) ->
  J [] W ->
  CallsIn (F0 none) 0 P gf (#[.func (.yield l) #[] #[]]++lb) W fun e W'=>(∃ v,e=.returned v)/\(J xs W'∨∃ pre,Jx pre W')
abbrev Kv (z:Int):List Value:=[.int .i64 z]
def Z6 (P:Program)(gf:FuncId)(zs xs:List Int):Prop :=
 ∀ (b0 ba cap:Nat) (T Ta:TypeId) (arr:Array Value),b0≠ba->zs.length<=cap->cap<=9223372036854775807->(∀ i (h:i<zs.length),arr[i]?=some (.int .i64 zs[i])) ->
  Iter P gf #[.pointer (some ⟨b0,0,none⟩)] ba (fun W=>W.heap[b0]?=some (.cells #[.slice (some ⟨ba,0,none⟩) zs.length cap] T (0,0))/\W.heap[ba]?=some (.cells arr Ta (0,0))) xs
def Rnd (m:Nat)(X:List (List PV)->Prop)(st:St):Prop:=FQ m st fun st2=>DH m (st2.σ.take m)=true/\X (st2.σ.take m)
def Uw (m:Nat)(env0:List (Nat×PV))(I:List (List PV)->Prop)(KA:AX->St->Prop)(x:AX)(st:St):Prop :=
 match x with
 |.normal=>Rnd m I st
 |.pan _=>False
 |x=>Rnd m (fun σ=>KA x ⟨env0,σ⟩) st
def Z4 (P:Program)(L:Cf)(N:Nat)(g:Operand)(ps:Array Tmp)(assign body:Code)(KA:AX->St->Prop)(st:St):Prop :=
 ∃ (m gf tv:Nat) (σm:List (List PV)) (env0:List (Nat×PV)) (zs xs:List Int) (I:List Int->List (List PV)->Prop),
  (st.σ=σm++[[.prv (zs.map Kv)]]/\σm.length=m/\N<=m/\DH m σm=true/\zs≠[]) /\
  (Ck st g=.fn gf [.ptr m 0]/\Im P gf=true/\ps = #[tv]/\Z6 P gf zs xs) /\
  (∀ t,Cj env0 t=.undef∨(Cj env0 t=st.get t/\plain (st.get t)=true/\(st.get t).fits m=true)) /\
  (I [] σm/\∀ pre σ',I pre σ'->σ'.length=m) /\
  (∀ pre x σ',I pre σ'->pre++[x] <+: xs->WS P L m [.code assign] (fun ax st2=>ax=.normal/\st2.σ.length=m/\WS P L m [.code body] (Uw m env0 (I (pre++[x])) KA) st2) ⟨(tv,.lit (.int .i64 x))::env0,σ'⟩) /\
  ∀ σ',I xs σ'->KA .normal ⟨env0,σ'⟩
def Abv:Code->Option AX
 |.ret=>some .ret
 |.exit id=>some (.exit id)
 |_=>none
def MP (D:Nat):Deferred:={ target:=.collected D,args:=#[] }
structure Over (w0:World) (G0:Gh) (a:Act) (D:Nat) (st:St) (w:World) (G:Gh):Prop where
 inv:Inv w0 G0 st (AG a) w G
 unc:Ml G D
 lt:D<w.heap.size
 ge:w0.heap.size<=D
 is:w.heap[D]?=some (.deferred (some []))
section
variable {w w' w0:World} {G G' G0:Gh} {P:Program} {st st':St} {a:Act} {n N:Nat} {L:Cf} {KA:AX->St->Prop} {Q:Exit->Act->World->Prop}
def Gh.lose (G:Gh)(m ba:Nat):Gh:={ U:=G.U,φ:=G.φ.take m,Ω:=fun b=>if b=ba then none else G.Ω b }
theorem Ae8 {m ba:Nat}{σm:List (List PV)}{c1:List PV}(h:Inv w0 G0 st (AG a) w G)(hσ:st.σ=σm++[c1])(hm:σm.length=m)(hN:G0.φ.length<=m)(hf:DH m σm=true)(hba:G.Ω ba=some (.cell m 0)){env0:List (Nat×PV)}
 (he:∀ t,Cj env0 t=.undef∨(Cj env0 t=st.get t/\plain (st.get t)=true/\(st.get t).fits m=true)):Inv w0 G0 ⟨env0,σm⟩ (AG a) w (G.lose m ba):=by
 have g:st.σ.take m=σm:=by rw [hσ,List.take_left' hm]
 have l:∀ b,(G.lose m ba).Ω b≠none->G.Ω b≠none:=fun b hb=>by
  change (if b=ba then none else G.Ω b)≠none at hb
  split at hb
  . exact absurd rfl hb
  . exact hb
 refine⟨?_,?_,⟨fun t=>?_,fun t=>?_⟩⟩
 . have d:=h.ext
   refine⟨d.os,d.tape,d.output,d.size,d.frame,d.cells,d.newU,fun b hb=>d.newΩ b (l b hb),?_⟩
   obtain⟨ψ,o,p⟩:=d.phi
   refine⟨ψ.take (m-G0.φ.length),?_,fun b hb=>p b (ü hb)⟩
   show G.φ.take m=_
   rw [o,List.take_append,List.take_of_length_le hN]
 . have hs:=h.store.take (N:=m) (by rw [g];exact hf)
   rw [g] at hs
   refine⟨hs.len,hs.nodup,fun k b cs q n=>?_,hs.ub,fun b hb=>hs.ob b (l b hb)⟩
   obtain⟨⟨T,arr,r,s,u⟩,x⟩:=hs.blk k b cs q n
   have C:k<m:=by rw [<- hm];exact (List.getElem?_eq_some_iff.1 n).1
   have keep:∀ (j:Nat) (b2:Nat),G.Ω b2=some (.cell k j)->(G.lose m ba).Ω b2=some (.cell k j)/\w.heap[b2]?=w.heap[b2]?/\∀ i,(G.lose m ba).U b2 i->G.U b2 i:=fun j b2 e=>by
    refine⟨?_,rfl,fun _ h=>h⟩
    show (if b2=ba then none else G.Ω b2)=_
    rw [Ä,e]
    rintro rfl
    rw [hba] at e
    cases e;omega
   refine⟨⟨T,arr,r,s,fun j c y=>?_⟩,x⟩
   obtain⟨v,z,A,B,f⟩:=u j c y
   refine⟨v,z,A,B,?_⟩
   unfold Ca at f ⊢
   split
   . exact Az.keep (G:=G) f (keep j)
   . exact B9.keep (G:=G) f (keep j)
   . trivial
 . show V w G.U (G.φ.take m) (Cj env0 t) _
   rcases he t with k|⟨k1,_,k3⟩
   . rw [k];exact .undef _ _
   . rw [k1];exact (h.env.v t).fits k3
 . show Dz _ _ _ _ t (Cj env0 t) _
   rcases he t with k|⟨k1,k2,_⟩
   . rw [k];trivial
   . rw [k1];exact DX k2 _ _ _ _
theorem UH {m:Nat}{σm:List (List PV)}{zs:List Int}(h:Ay w G st.σ)(hσ:st.σ=σm++[[.prv (zs.map Kv)]])(hm:σm.length=m)(hz:zs≠[]) :
 ∃ b0 ba cap T Ta,∃ arr:Array Value,G.φ[m]?=some b0/\G.Ω ba=some (.cell m 0)/\(∀ i,¬ G.U ba i)/\b0≠ba/\zs.length<=cap/\cap<=9223372036854775807/\(∀ i (h:i<zs.length),arr[i]?=some (.int .i64 zs[i])) /\
  w.heap[b0]?=some (.cells #[.slice (some ⟨ba,0,none⟩) zs.length cap] T (0,0))/\w.heap[ba]?=some (.cells arr Ta (0,0)):=by
 have l:=h.len
 rw [hσ] at l
 simp only [Ô,æ,ì,hm] at l
 have b:G.φ[m]?=some (G.φ[m]'(by omega)):=Ã _
 revert b
 generalize (G.φ[m]'(by omega))=b0
 intro b
 have s0:st.σ[m]?=some [.prv (zs.map Kv)]:=by rw [hσ,ß (by omega),hm];simp
 obtain⟨⟨o0,arr0,k1,⟨k2,k3⟩,k4⟩,_⟩:=h.blk m b0 _ b s0
 have c0:∃ T,o0=.cells arr0 T (0,0):=by
  rcases k2 with k2|⟨kvs,es,c,k2,_⟩|⟨kvs,seen,k2,_⟩
  . exact k2.1
  . cases k2
  . cases k2
 obtain⟨T,rfl⟩:=c0
 obtain⟨v,v1,v2,v3,v4⟩:=k4 0 _ rfl
 have v5:B9 w G (.cell m 0) (zs.map Kv) v:=v4
 rcases v5 with⟨e1,_⟩|⟨ba,cap,sz,Ta,arr,rfl,o,⟨d,f⟩,g,n,a,⟨p,q,j⟩,r⟩
 . exact absurd (List.map_eq_nil_iff.1 e1) hz
 have k:sz=1:=by
  cases zs with
  |nil=>exact absurd rfl hz
  |cons z zs=>have:=g (Kv z) (by simp);exact this.symm
 subst k
 rw [Î] at d v1
 refine⟨b0,ba,cap,T,Ta,arr,b,n,r,?_,d,f,fun i s=>?_,?_,a⟩
 . rintro rfl
   exact (h.ob _ (by rw [n];simp)).2 (Ò b)
 . have:=j i (by simpa using s) 0 (by simp)
   rw [Nat.mul_one,Nat.add_zero] at this
   have e:i<arr.size:=by omega
   rw [É,à e] at this
   rw [à e]
   simp at this
   rw [this]
 . rw [k1]
   have hz:arr0 = #[.slice (some ⟨ba,0,none⟩) zs.length cap]:=by
    have t:arr0.size=1:=k3
    apply Array.ext'
    have:arr0.toList.length=1:=t
    match u:arr0.toList,this with
    | [x],_ =>
     have:arr0[0]?=some x:=by rw [<- Ą,u];rfl
     rw [v1] at this
     obtain rfl:=Af this
     rfl
   rw [hz]
theorem Ts (hgl:Cu w0 G0)(hm:P.follows .mixedOrders=true)(hN:G0.φ.length<=N){g:Operand}{ps:Array Tmp}{assign body:Code}(hok:Cc L.pl n assign=true/\Cc L.pl n body=true)
 (hnd:CN assign=true/\CN body=true) (htv:∀ t∈ps.toList,t<n) (h:Inv w0 G0 st (AG a) w G) (hs:a.tmps.size=n) (hr:Z4 P L N g ps assign body KA st)
 (hdone:∀ D st' w' G',Over w0 G0 a D st' w' G'->KA .normal st'->Q .normal { a with defers:=MP D::a.defers } w')
 (hstop:∀ D c x st' w' G',Abv c=some x->Over w0 G0 a D st' w' G'->KA x st'->c.wpIn (F0 none) 0 P Q { a with defers:=MP D::a.defers } w') :
 (Code.rangeFunc g ps assign body).wpIn (F0 none) 0 P Q a w:=by
 obtain⟨m,gf,tv,σm,env0,zs,xs,I,⟨hσ,hml,hNm,hfit,hzne⟩,⟨hg,hct,rfl,hit⟩,S,⟨hI0,hIl⟩,hround,hfin⟩:=hr
 have htv:tv<n:=htv tv (by simp)
 have hN2:G0.φ.length<=m:=by omega
 obtain⟨b0,ba,cap,T,Ta,arr,hb0,hba,hbaU,hne,hc,hcm,harr,hw0,hwa⟩:=UH h.store hσ hml hzne
 have hgv:a.eval g=.func (.func gf) #[] #[.pointer (some ⟨b0,0,none⟩)]:=by
  have hv:=Bz (a:=a) h.env g
  rw [hg] at hv
  revert hv;generalize a.eval g=z;intro hv
  cases hv with
  |fn _ _ _ arrc hn hcaps =>
   have h1:=hcaps 0 (by simp)
   have e1:arrc = #[arrc.getD 0 Go.undef]:=by
    apply Array.ext
    . simpa using hn
    . intro i h1 h2
      have:i=0:=by simp at h2;exact h2
      subst this
      simp [Array.getD,h1]
   have h2:arrc.getD 0 Go.undef=.pointer (some ⟨b0,0,none⟩):=by
    revert h1;generalize arrc.getD 0 Go.undef=z;intro h1
    cases h1 with
    |ptr _ _ _ k R=>rw [hb0] at R;obtain rfl:=Af R;rfl
   rw [e1,h2]
 have hd:=Ae8 h hσ hml hN2 hfit hba S
 have Y:=h.store.len
 rw [hσ] at Y
 simp only [Ô,æ,ì,hml] at Y
 have F:=h.store.ob ba (by rw [hba];simp)
 have hba_lt:ba<w.heap.size:=F.1
 have hua:Ml (G.lose m ba) ba:=⟨fun hmem=>F.2 (ü hmem),by show (if ba=ba then none else G.Ω ba)=none;rw [Ç rfl],hbaU⟩
 have hban:w0.heap.size<=ba∨ba∈G0.φ∨G0.Ω ba≠none:=by
  rcases h.ext.newΩ ba (by rw [hba];simp) with k|k
  . exact .inl k
  . exact .inr (.inr k)
 refine wpIn_rangeFunc ?_
 intro fn hfn
 obtain⟨rec,j⟩:∃ rec:LoopState->Option Code->Loop,rec=fun st pe=>{ state:=st,pending:=pe,fn,tmps:=a.tmps,params:=#[tv],assign,body,defers:=w.heap.size }:=⟨_,rfl⟩
 obtain⟨D,hD⟩:∃ D,D=w.heap.size:=⟨_,rfl⟩
 obtain⟨W1,Z⟩:∃ W1,(w.alloc (.deferred (some []))).alloc (.loop (rec .ready none))=W1:=⟨_,rfl⟩
 have hbut1:R7 D w (w.alloc (.deferred (some []))):=.alloc _ _ _
 have hbut2:R7 (D+1) (w.alloc (.deferred (some []))) W1:=by rw [<- Z];exact .alloc _ _ _
 have hs1:W1.heap.size=w.heap.size+2:=by rw [<- Z];simp
 have hL1:W1.heap[D+1]?=some (.loop (rec .ready none)):=by
  rw [<- Z,hD];have:=World.alloc_heap_new (w.alloc (.deferred (some []))) (.loop (rec .ready none));rwa [World.size_alloc] at this
 have hK1:W1.heap[D]?=some (.deferred (some [])):=by
  rw [<- Z,hD];exact (ê _ _ _ (by simp)).trans (World.alloc_heap_new w _)
 have hge:w0.heap.size<=D:=by rw [hD];exact h.ext.size
 have huD:Ml (G.lose m ba) D:=hd.store.fresh (by omega)
 have huL:Ml (G.lose m ba) (D+1):=hd.store.fresh (by omega)
 have hinv1:Inv w0 G0 ⟨env0,σm⟩ (AG a) W1 (G.lose m ba):=(hd.but huD (.inl hge) hbut1).but huL (.inl (by omega)) hbut2
 have hold:∀ k,k<w.heap.size->W1.heap[k]?=w.heap[k]?:=fun k R=>by rw [hbut2.same k (by simp;omega) (by omega),hbut1.same k R (by omega)]
 obtain⟨J,hJ⟩:∃ J:List Int->World->Prop,J=fun pre W=>∃ σ' G',I pre σ'/\Inv w0 G0 ⟨env0,σ'⟩ (AG a) W G'/\Ml G' ba/\Ml G' (D+1)/\Ml G' D/\ba<W.heap.size/\W.heap[D+1]?=some (.loop (rec .ready none))/\W.heap[D]?=some (.deferred (some [])):=⟨_,rfl⟩
 obtain⟨Jx,hJx⟩:∃ Jx:List Int->World->Prop,Jx=fun _ W=>∃ c x σ' G',Abv c=some x/\KA x ⟨env0,σ'⟩/\Inv w0 G0 ⟨env0,σ'⟩ (AG a) W G'/\Ml G' ba/\Ml G' (D+1)/\Ml G' D/\ba<W.heap.size/\W.heap[D+1]?=some (.loop (rec .done (some c)))/\W.heap[D]?=some (.deferred (some [])):=⟨_,rfl⟩
 have p:ba≠D/\ba≠D+1:=by omega
 have step:∀ {A B:World},R7 ba A B->∀ {k:Nat} {o:Obj},k≠ba->A.heap[k]?=some o->B.heap[k]?=some o:=fun hb k o R ho=>(hb.same k (Array.getElem?_eq_some_iff.1 ho).1 R).trans ho
 refine⟨D+1,[MP D],W1,{ target:=.fn (.func gf) #[.pointer (some ⟨b0,0,none⟩)],args:=#[.func (.yield (D+1)) #[] #[]] },W1,gf,#[.func (.yield (D+1)) #[] #[]]++#[.pointer (some ⟨b0,0,none⟩)],W1,?_,?_,fun _ _=>trivial,?_,JZ,?_⟩
 . rw [<- Z,j,hD];exact run_enterLoop_outer _ _ _ _ _
 . simp only [resolve,hgv]
   simp [go_sem]
 . simp [invoke,go_sem,IQ hct]
 refine ((hit b0 ba cap T Ta arr hne hc hcm harr) W1 ⟨(hold b0 (Array.getElem?_eq_some_iff.1 hw0).1).trans hw0,(hold ba hba_lt).trans hwa⟩ (D+1) J Jx ?_ ?_ ?_ ?_).mono ?_
 . intro s A B hA hb
   rw [hJ] at hA ⊢
   obtain⟨σ',G',h1,h2,h3,h4,h5,h6,h7,h8⟩:=hA
   exact⟨σ',G',h1,h2.but h3 hban hb,h3,h4,h5,ñ h6 hb.size,step hb (Ę p.2) h7,step hb (Ę p.1) h8⟩
 . intro s A B hA hb
   rw [hJx] at hA ⊢
   obtain⟨c,x,σ',G',h0,h1,h2,h3,h4,h5,h6,h7,h8⟩:=hA
   exact⟨c,x,σ',G',h0,h1,h2.but h3 hban hb,h3,h4,h5,ñ h6 hb.size,step hb (Ę p.2) h7,step hb (Ę p.1) h8⟩
 . -- one round
   intro pre x W hA hpre
   rw [hJ] at hA
   obtain⟨σ',G',hI,b,H,q,u,K,hl,R⟩:=hA
   have hllt:D+1<W.heap.size:=(Array.getElem?_eq_some_iff.1 hl).1
   have hy:=run_yield (P:=P) (args:=#[.int .i64 x]) hl (by rw [j];rfl)
   rw [j] at hy
   have hy2:(Instr.yield (D+1) #[.int .i64 x]).run P W=.ok (.round (D+1) fn (a.tmps.setIfInBounds tv (.int .i64 x)) assign body) W:=by simpa using hy
   refine⟨fn,_,assign,body,hy2,roundIn_of_wpIn hfn ?_⟩
   obtain⟨a0,ha0⟩:∃ a0:Act,a0 = { tmps:=a.tmps.setIfInBounds tv (.int .i64 x),defers:=[] }:=⟨_,rfl⟩
   have htm:∀ t,AG a0 t=if tv=t then .int .i64 x else AG a t:=fun t=>by
    have:=congrFun (Bm (a:=a) (d:=tv) (by omega) (.int .i64 x)) t
    rw [ha0];exact this
   have hlenm:G'.φ.length<=m:=by have:=b.store.len;have h2:=hIl pre σ' hI;simp only at this;omega
   have hinv0:Inv W G' ⟨(tv,.lit (.int .i64 x))::env0,σ'⟩ (AG a0) W G':=by
    refine⟨Ext.refl _ _,b.store,⟨fun t=>?_,fun t=>?_⟩⟩
    . rw [htm]
      show V W G'.U G'.φ (if tv=t then _ else Cj env0 t) _
      split
      . exact .lit _ _
      . exact b.env.v t
    . show Dz _ _ _ _ t (if tv=t then _ else Cj env0 t) _
      split
      . trivial
      . rcases S t with k|⟨k1,k2,_⟩
        . rw [k];trivial
        . rw [k1];exact DX k2 _ _ _ _
   obtain⟨stA,GA,hWA,hinvA⟩:=hround pre x σ' hI hpre W G' (AG a0) W G' hlenm hinv0
   have hsz0:a0.tmps.size=n:=by rw [ha0];simpa using hs
   have hgoal:=Qn (P:=P) (L:=L) (r:=some (D+1)) (ds:=[]) (hgl.ext b.ext) hm hlenm assign _ stA a0 W GA hok.1 (fun _=>hnd.1) hinvA (by rw [ha0]) hsz0 hWA
   rw [ha0] at hgoal
   refine wpIn_mono hgoal ?_
   rintro e1 a1 W2 M
   cases e1 with
   |normal =>
    obtain⟨hsz1,hd1,st2,G2,⟨_,hl2,hbody⟩,e⟩:=M
    have C:=e.ext
    have hl2':W2.heap[D+1]?=some (.loop (rec .ready none)):=(q.same hllt C).trans hl
    have y:=q.ext hllt C
    have hba2:=(H.same K C)
    have hua2:=H.ext K C
    have hDlt:D<W.heap.size:=by omega
    have hk2:=(u.same hDlt C).trans R
    have huD2:=u.ext hDlt C
    obtain⟨W3,O⟩:∃ W3,W3=W2.putObj (D+1) (.loop { rec .ready none with state:=.busy }):=⟨_,rfl⟩
    have hb3:R7 (D+1) W2 W3:=by rw [O];exact .putObj _ _ _
    have hx3:Ext w0 G0 W3 G2:=(b.ext.trans C).but e.store y (.inl (by omega)) hb3
    have inv3:Inv W3 G2 st2 (AG a1) W3 G2:=⟨Ext.refl _ _,e.store.but y hb3,e.env.but e.store y hb3⟩
    have hs32:W2.heap.size=W3.heap.size:=by rw [O];simp
    have hs2:=C.size
    have hl3:W3.heap[D+1]?=some (.loop { rec .ready none with state:=.busy }):=by rw [O];exact World.putObj_heap_same (by omega)
    have hk3:W3.heap[D]?=some (.deferred (some [])):=by rw [O,World.putObj_heap_other (by omega)];exact hk2
    have hba3:W3.heap[ba]?=W.heap[ba]?:=by rw [O,World.putObj_heap_other p.2];exact hba2
    have hlen2:G2.φ.length=m:=by rw [e.store.len];exact hl2
    refine⟨W3,by rw [O];exact run_beginRound hl2' (by rw [j]),?_⟩
    obtain⟨stB,GB,hWB,hinvB⟩:=hbody W3 G2 (AG a1) W3 G2 (by omega) inv3
    refine wpIn_mono (Qn (P:=P) (L:=L) (r:=some (D+1)) (ds:=[]) (hgl.ext hx3) hm (ÿ hlen2) body _ stB a1 W3 GB hok.2 (fun _=>hnd.2) hinvB hd1 hsz1 hWB) ?_
    rintro e3 a3 W4 M
    have fin:∀ (X:List (List PV)->Prop) (st3:St) (G3:Gh) (jump:Option Code),Rnd m X st3->Inv W3 G2 st3 (AG a3) W4 G3->∃ σ'' G5 W5,X σ''/\(Instr.endRound (D+1) jump).run P W4=.ok (.bool jump.isNone) W5/\Inv w0 G0 ⟨env0,σ''⟩ (AG a) W5 G5/\Ml G5 ba/\Ml G5 (D+1)/\Ml G5 D /\
     ba<W5.heap.size/\W5.heap[D+1]?=some (.loop (rec (if jump.isNone then .ready else .done) jump))/\W5.heap[D]?=some (.deferred (some []))/\W5.heap[ba]?=W.heap[ba]?:=by
     intro X st3 G3 jump hX f
     obtain⟨st4,G4,⟨hf4,hX4⟩,hinv4⟩:=hX W3 G2 (AG a3) W4 G3 (by omega) f
     have E:=hinv4.ext.take hlen2
     have hs4:=hinv4.store.take hf4
     have hl4:W4.heap[D+1]?=some (.loop { rec .ready none with state:=.busy }):=(y.same (by omega) E).trans hl3
     have hul4:=y.ext (by omega) E
     have hua4:=hua2.ext (by omega) E
     have huD4:=huD2.ext (by omega) E
     have hk4:=(huD2.same (by omega) E).trans hk3
     have hba4:=(hua2.same (by omega) E).trans hba3
     have hz4:=E.size
     have l:=run_endRound (P:=P) jump hl4
     refine⟨_,_,W4.putObj (D+1) (.loop (rec (if jump.isNone then .ready else .done) jump)),hX4,by rw [j] at l ⊢;exact l,?_,hua4,hul4,huD4,by simp;omega,World.putObj_heap_same (by omega),by rw [World.putObj_heap_other (by omega)];exact hk4,by rw [World.putObj_heap_other p.2];exact hba4⟩
     have hinv5:Inv w0 G0 ⟨env0,st4.σ.take m⟩ (AG a) W4 { G4 with φ:=G4.φ.take m }:=by
      refine⟨hx3.trans E,hs4,⟨fun t=>?_,fun t=>?_⟩⟩
      . exact E.V ((C.V (b.env.v t)).but e.store y hb3)
      . show Dz _ _ _ _ t (Cj env0 t) _
        rcases S t with k|⟨k1,k2,_⟩
        . rw [k];trivial
        . rw [k1];exact DX k2 _ _ _ _
     exact hinv5.but hul4 (.inl (by omega)) (.putObj _ _ _)
    cases e3 with
    |normal =>
     obtain⟨_,_,st3,G3,hX,f⟩:=M
     obtain⟨σ'',G5,W5,k1,k2,k3,k4,k5,k6,k7,k8,k9,k10⟩:=fin _ st3 G3 none hX f
     exact⟨_,_,k2,.inl ⟨rfl,by rw [hJ];exact⟨σ'',G5,k1,k3,k4,k5,k6,k7,k8,k9⟩,k10⟩⟩
    |ret =>
     obtain⟨_,_,st3,G3,hX,f⟩:=M
     obtain⟨σ'',G5,W5,k1,k2,k3,k4,k5,k6,k7,k8,k9,k10⟩:=fin (fun σ=>KA .ret ⟨env0,σ⟩) st3 G3 (some .ret) hX f
     exact⟨_,_,k2,.inr ⟨rfl,by rw [hJx];exact⟨.ret,.ret,σ'',G5,rfl,k1,k3,k4,k5,k6,k7,k8,k9⟩⟩⟩
    |exit id =>
     obtain⟨_,_,st3,G3,hX,f⟩:=M
     obtain⟨σ'',G5,W5,k1,k2,k3,k4,k5,k6,k7,k8,k9,k10⟩:=fin (fun σ=>KA (.exit id) ⟨env0,σ⟩) st3 G3 (some (.exit id)) hX f
     exact⟨_,_,k2,.inr ⟨rfl,by rw [hJx];exact⟨.exit id,.exit id,σ'',G5,rfl,k1,k3,k4,k5,k6,k7,k8,k9⟩⟩⟩
    |panic c=>obtain⟨_,st3,G3,hX,_⟩:=M;exact hX.elim
    |goto t=>exact M.elim
    |outgrown=>exact M.elim
   |exit id=>obtain⟨_,_,_,_,⟨hax,_⟩,_⟩:=M;cases hax
   |ret=>obtain⟨_,_,_,_,⟨hax,_⟩,_⟩:=M;cases hax
   |panic c=>obtain⟨_,_,_,⟨hax,_⟩,_⟩:=M;cases hax
   |goto t=>exact M.elim
   |outgrown=>exact M.elim
 . rw [hJ];exact⟨σm,_,hI0,hinv1,hua,huL,huD,by omega,hL1,hK1⟩
 . -- behind the iterator
   rintro e2 W2 ⟨⟨v,rfl⟩,hA|⟨pre,hA⟩⟩
   . rw [hJ] at hA
     obtain⟨σ',G',hI,b,H,q,u,K,hl,R⟩:=hA
     have hlt2:=(Array.getElem?_eq_some_iff.1 hl).1
     have l:=run_endLoop (P:=P) hl (by rw [j];simp)
     rw [j] at l
     refine⟨none,_,l,hdone D _ _ G' ⟨b.but q (.inl (by omega)) (.putObj _ _ _),u,by simp;omega,hge,by rw [World.putObj_heap_other (by omega)];exact R⟩ (hfin σ' hI)⟩
   . rw [hJx] at hA
     obtain⟨c,x,σ',G',hj,hI,b,H,q,u,K,hl,R⟩:=hA
     have hlt2:=(Array.getElem?_eq_some_iff.1 hl).1
     have l:=run_endLoop (P:=P) hl (by rw [j];simp)
     rw [j] at l
     exact⟨some c,_,l,hstop D c x _ _ G' hj ⟨b.but q (.inl (by omega)) (.putObj _ _ _),u,by simp;omega,hge,by rw [World.putObj_heap_other (by omega)];exact R⟩ hI⟩
end
end Go.Vl
namespace Go.Vl
open Go Go.RowKit
structure Z3 where
 bid:Nat
 g:Operand
 ps:Array Tmp
 assign:Code
 body:Code
def Z3.code (t:Z3):Code:=.block t.bid (.rangeFunc t.g t.ps t.assign t.body)
def flat:Code->List Code
 |.seq a b=>flat a++flat b
 |c=>[c]
def Iu:List Code->Option (List Code×Z3×List Code)
 | []=>none
 |.block bid (.rangeFunc g ps assign body)::l=>some ([],⟨bid,g,ps,assign,body⟩,l)
 |c::l=>(Iu l).map fun r=>(c::r.1,r.2)
theorem QO:∀ {l ags:List Code} {t:Z3} {bgs:List Code},Iu l=some (ags,t,bgs)->l=ags++t.code::bgs
 | [],_,_,_,h=>by cases h
 |c::l,ags,t,bgs,h=>by
  unfold Iu at h
  split at h
  . rename_i e;cases e
  . rename_i e
    obtain⟨rfl,rfl⟩:=ĭ e
    simp only [Â,È] at h
    obtain⟨rfl,rfl,rfl⟩:=h
    rfl
  . rename_i e
    obtain⟨rfl,rfl⟩:=ĭ e
    simp only [Ī,È,Prod.exists] at h
    obtain⟨a,t2,b2,h1,rfl,rfl,rfl⟩:=h
    rw [QO h1];rfl
theorem L9 {P:Program}{Q:Exit->Act->World->Prop}{next:Act->World->Prop}:∀ (l1 l2:List Code),XO P Q (l1++l2) next=XO P Q l1 (XO P Q l2 next)
 | [],_=>rfl
 |c::l1,l2=>by
  show (fun a w=>c.wp P (Exit.then (XO P Q (l1++l2) next) Q) a w)=_
  rw [L9 l1 l2];rfl
theorem Aa4 {P:Program}{Q:Exit->Act->World->Prop}:∀ (c:Code) {next:Act->World->Prop} {a:Act} {w:World},XO P Q (flat c) next a w->c.wp P (Exit.then next Q) a w:=by
 intro c
 induction c with
 |seq x y b d =>
  intro next a w h
  have h:XO P Q (flat x++flat y) next a w:=h
  rw [L9] at h
  refine wp_seq (wp_mono (b h) fun e a' w' f=>?_)
  cases e with
  |normal=>exact d f
  |_=>exact f
 |_=>intro next a w h;exact h
theorem YK {P:Program}{Q:Exit->Act->World->Prop}{c:Code}{a:Act}{w:World}(h:XO P Q (flat c) (Q .normal) a w):c.wp P Q a w :=
 wp_mono (Aa4 c h) fun e a w h=>by cases e<;>exact h
def Po (P:Program)(L:Cf)(N:Nat)(t:Z3)(b:List Code)(Q:AX->St->Prop)(x:AX)(st:St):Prop:=match x with
 |.normal=>Bx (Z4 P L N t.g t.ps t.assign t.body (KT P L N (.blk t.bid::(b.map TI.code++[.code .skip])) Q) st)
 |x=>Q x st
def okR (L:Cf)(n:Nat)(ags:List Code)(t:Z3)(b:List Code)(k:Nat):Bool :=
 ags.all (Cc L.pl n)&&(b.all (Cc L.pl n)&&(Cc L.pl n t.assign&&(Cc L.pl n t.body&&(CN t.assign&&(CN t.body&&(t.ps.toList.all (fun x=>decide (x<n))&&decide (k<=n)))))))
section
variable {w w' w0:World} {G G' G0:Gh} {P:Program} {st st':St} {a:Act} {n N:Nat} {L:Cf}
theorem VC.introR {f:FuncId}{fn:Func}{c:Code}{ags b:List Code}{t:Z3}{args:List PV}{σ:List (List PV)}{Q:Cb->List (List PV)->Prop}(L:Cf)
 (hf:P.funcs[f]?=some fn) (hb:fn.body=some c) (hm:P.follows .mixedOrders=true) (hs:Iu (flat c)=some (ags,t,b))
 (hok:okR L fn.ntmps ags t b args.length=true)
 (h:WS P L σ.length (ags.map TI.code++[.code .skip]) (Po P L σ.length t b (C6 P fn σ.length Q)) (HR args σ)):VC P f args σ Q:=by
 unfold okR at hok
 simp only [Æ,Í,Ú] at hok
 obtain⟨A,B,C,E,F,H,V,hn⟩:=hok
 intro w G vs I W hv hΩ u
 have hc:CallsIn Fence.wide 0 P f vs w (fun e w'=>∃ x σ' G',Q x σ'/\CT w' G' x e/\Ay w' G' σ'/\Ext w G w' G'):=by
  refine callsIn_of_wp_marks hf hb trivial ((wpIn_wide (n:=0)).2 (YK ?_))
  rw [QO hs,L9]
  have X:(vs++Array.replicate (fn.ntmps-vs.size) Go.undef).size=fn.ntmps:=by simp;omega
  have s:∀ t,(HR args σ).get t=match args[t]? with|some p=>Bf p|none=>.undef:=by
   intro t
   show Cj (args.zipIdx.map fun x=>(x.2,Bf x.1)) t=_
   rw [K5 args 0 t];simp;rfl
  have J:Inv w G (HR args σ) (AG { tmps:=vs++Array.replicate (fn.ntmps-vs.size) Go.undef,defers:=[] }) w G:=by
   refine⟨Ext.refl _ _,I,⟨fun t=>?_,fun t=>?_⟩⟩
   . rw [s]
     cases e:args[t]? with
     |none=>exact .undef _ _
     |some p =>
      have Y:=List.getElem?_eq_some_iff.1 e
      have:=hv t Y.1
      rw [Y.2] at this
      have e2:AG { tmps:=vs++Array.replicate (fn.ntmps-vs.size) Go.undef,defers:=[] } t=vs.getD t Go.undef:=by
       show (vs++_).getD t Go.undef=_
       rw [É,ô (by rw [W];exact Y.1),É]
      rw [e2];exact Cp this
   . rw [s]
     cases e:args[t]? with
     |none=>trivial
     |some p=>exact DX (Bp p) _ _ _ _
  have hN:G.φ.length=σ.length:=I.len
  have v:=ÿ hN
  -- at the function's end
  have fin1:∀ (a:Act) (w1:World) (st:St) (G1:Gh),a.defers=[]->Inv w G st (AG a) w1 G1->C6 P fn σ.length Q .ret st->LeavesInM Fence.wide 0 P fn a.tmps (fun e w'=>∃ x σ' G',Q x σ'/\CT w' G' x e/\Ay w' G' σ'/\Ext w G w' G') a.defers .returning w1:=by
   intro a w1 st G1 K hI m
   rw [K]
   exact KW hN hI m
  have fin2:∀ (a:Act) (D:Nat) (w1:World) (st:St) (G1:Gh),a.defers=[MP D]->Over w G a D st w1 G1->C6 P fn σ.length Q .ret st->LeavesInM Fence.wide 0 P fn a.tmps (fun e w'=>∃ x σ' G',Q x σ'/\CT w' G' x e/\Ay w' G' σ'/\Ext w G w' G') a.defers .returning w1:=by
   intro a D w1 st G1 K hO m
   rw [K]
   exact⟨by simp,.inl ⟨D,_,rfl,run_takeDeferred hO.is,KW hN (hO.inv.but hO.unc (.inl hO.ge) (.putObj _ _ _)) m⟩⟩
  have finP:∀ (a:Act) (D:Nat) (w1:World) (st:St) (G1:Gh) (c:List PanicEntry),a.defers=[MP D]->Ext w G w1 G1->Ay w1 G1 st.σ->Ml G1 D->w.heap.size<=D->w1.heap[D]?=some (.deferred (some []))->C6 P fn σ.length Q (.pan c) st ->
   LeavesInM Fence.wide 0 P fn a.tmps (fun e w'=>∃ x σ' G',Q x σ'/\CT w' G' x e/\Ay w' G' σ'/\Ext w G w' G') a.defers (.panicking c) w1:=by
   intro a D w1 st G1 c K U g hu Z his m
   rw [K]
   have hb:=R7.putObj w1 D (.deferred none)
   exact⟨by simp,.inl ⟨D,_,rfl,run_takeDeferred his,Md (p:=.undef) (U.but g hu (.inl Z) hb) (g.but hu hb) hN m rfl (fun r e=>by cases e)⟩⟩
  refine KQ (ds:=[]) u hm v ?_ ?_ ags _ _ w G (by rw [Ú];exact A) J rfl X h
  . intro a1 w1 st1 G1 g M hI1 m
    obtain⟨m⟩:=m
    have after:∀ D st2 w2 G2,Over w G a1 D st2 w2 G2->KT P L σ.length (.blk t.bid::(b.map TI.code++[.code .skip])) (C6 P fn σ.length Q) .normal st2 ->
     XO P (bodyPostM Fence.wide 0 P fn (fun e w'=>∃ x σ' G',Q x σ'/\CT w' G' x e/\Ay w' G' σ'/\Ext w G w' G')) b (bodyPostM Fence.wide 0 P fn (fun e w'=>∃ x σ' G',Q x σ'/\CT w' G' x e/\Ay w' G' σ'/\Ext w G w' G') .normal) { a1 with defers:=MP D::a1.defers } w2:=by
     intro D st2 w2 G2 hO i
     have O:=hO.inv.ext
     have R:Cu w2 (G2.reb σ.length):=(u.ext O).reb
     have hNr:(G2.reb σ.length).φ.length<=σ.length:=by show (G2.φ.take σ.length).length<=_;simp;omega
     have hir:Inv w2 (G2.reb σ.length) st2 (AG a1) w2 G2:=⟨Yk,hO.inv.store,hO.inv.env⟩
     have S:Ext w G w2 (G2.reb σ.length):=O.reb v
     have o:Ml (G2.reb σ.length) D:=hO.unc.reb
     have over:∀ (a2:Act) (st4:St) (w4:World) (G4:Gh),Inv w2 (G2.reb σ.length) st4 (AG a2) w4 G4->Over w G a2 D st4 w4 G4:=fun a2 st4 w4 G4 hI =>
      ⟨⟨S.trans hI.ext,hI.store,hI.env⟩,o.ext hO.lt hI.ext,ñ hO.lt hI.ext.size,hO.ge,(o.same hO.lt hI.ext).trans hO.is⟩
     refine KQ (P:=P) (L:=L) (ds:=[MP D]) R hm hNr ?_ ?_ b st2 { a1 with defers:=MP D::a1.defers } w2 G2 (by rw [Ú];exact B) hir (by simp [M]) g i
     . intro a2 w4 st4 G4 _ q T d
       exact fin2 a2 D w4 st4 G4 q (over a2 st4 w4 G4 T) d
     . intro e a2 w4 y j
       cases e with
       |normal=>exact absurd rfl y
       |ret =>
        obtain⟨_,q,st4,G4,d,T⟩:=j
        exact fin2 a2 D w4 st4 G4 q (over a2 st4 w4 G4 T) d
       |exit id=>obtain⟨_,_,st4,G4,d,_⟩:=j;exact d.elim
       |panic c =>
        obtain⟨q,st4,G4,d,k,z⟩:=j
        exact finP a2 D w4 st4 G4 c q (S.trans k) z (o.ext hO.lt k) hO.ge ((o.same hO.lt k).trans hO.is) d
       |goto l=>exact j.elim
       |outgrown=>exact j.elim
    have pass:∀ {x:AX} {st'},x≠.normal->KT P L σ.length (b.map TI.code++[.code .skip]) (C6 P fn σ.length Q) x st'->C6 P fn σ.length Q x st':=by
     intro x st' U
     have key:∀ l:List Code,KT P L σ.length (l.map TI.code++[.code .skip]) (C6 P fn σ.length Q) x st'->C6 P fn σ.length Q x st':=by
      intro l
      induction l with
      |nil=>intro h;cases x<;>first|exact absurd rfl U|exact h
      |cons c l ih=>intro h;cases x<;>first|exact absurd rfl U|exact ih h
     exact key b
    refine (wpIn_wide (n:=0)).1 (wpIn_block ?_)
    refine Ts (N:=σ.length) (L:=L) u hm v ⟨C,E⟩ ⟨F,H⟩ V hI1 g m ?_ ?_
    . intro D st2 w2 G2 hO i
      exact after D st2 w2 G2 hO i
    . intro D c x st2 w2 G2 hj hO i
      cases c with
      |ret =>
       cases hj
       refine wpIn_ret ?_
       exact fin2 { a1 with defers:=MP D::a1.defers } D w2 st2 G2 (by simp [M]) ⟨hO.inv,hO.unc,hO.lt,hO.ge,hO.is⟩ (pass (by simp) i)
      |exit id =>
       cases hj
       refine wpIn_exit ?_
       have i:(if id=t.bid then KT P L σ.length (b.map TI.code++[.code .skip]) (C6 P fn σ.length Q) .normal st2 else KT P L σ.length (b.map TI.code++[.code .skip]) (C6 P fn σ.length Q) (.exit id) st2):=i
       show (if id=t.bid then _ else _)
       by_cases e:id=t.bid
       . rw [Ç e] at i ⊢
         exact after D st2 w2 G2 hO i
       . rw [Ä e] at i
         exact (pass (by simp) i).elim
      |_=>cases hj
  . intro e a1 w1 y j
    cases e with
    |normal=>exact absurd rfl y
    |ret =>
     obtain⟨_,q,st4,G4,d,T⟩:=j
     exact fin1 a1 w1 st4 G4 q T d
    |exit id=>obtain⟨_,_,st4,G4,d,_⟩:=j;exact d.elim
    |panic c =>
     obtain⟨q,st4,G4,d,k,z⟩:=j
     show LeavesInM _ _ _ _ _ _ a1.defers _ _
     rw [q]
     exact Md (p:=.undef) k z hN d rfl (fun r e=>by cases e)
    |goto l=>exact j.elim
    |outgrown=>exact j.elim
 exact (callsIn_wide (n:=0)).1 hc
end
end Go.Vl
namespace Go.Sp
open Go Go.RowKit Go.Q Go.Vl
def Zo (fn:Func):List Code:=match Iu (flat (fn.body.getD .skip)) with|some r=>r.1|none=>[]
def tR (fn:Func):Z3:=match Iu (flat (fn.body.getD .skip)) with|some r=>r.2.1|none=>⟨0,.tmp 0,#[],.skip,.skip⟩
def bR (fn:Func):List Code:=match Iu (flat (fn.body.getD .skip)) with|some r=>r.2.2|none=>[]
def YY:Code:=.cond (.const (.bool true)) .skip .skip
def Ae9 (fn:Func)(args:List PV)(σ:List (List PV)):List TI×St:=((Zo fn).map TI.code++[.code YY],HR args σ)
def Af0 (k:List TI):Bool:=match LU 99 k with
 | []=>true
 |_=>false
def isE (k:List TI):Bool:=match LU 99 k with
 | [.code (.cond (.const (.bool true)) .skip .skip)]=>true
 |_=>false
def Aev (k:List TI):Bool:=match LU 99 k with
 |.code .ret::_=>true
 |_=>false
section
variable {P:Program} {L:Cf} {N m:Nat} {Q:AX->St->Prop} {x:List TI×St} {fn:Func} {f:FuncId} {args:List PV} {R:PV}
theorem VH:∀ (l:List Code) {x:AX} {st:St},KT P L N (l.map TI.code++[.code YY]) Q x st->KT P L N (l.map TI.code++[.code .skip]) Q x st
 | [],x,st,h=>by
  cases x with
  |normal =>
   refine FQ.bind (X:=fun s=>W P L N YY (KT P L N [] Q) s) h fun s h=>?_
   have h:FQ N s (W P L N .skip (KT P L N [] Q)):=h
   exact h
  |_=>exact h
 |c::l,x,st,h=>by
  cases x with
  |normal=>exact FQ.mono h fun s h=>OG c (fun x st h=>VH l h) s h
  |_=>exact VH l h
theorem vR {σ:List (List PV)}{Q:Cb->List (List PV)->Prop}(L:Cf)(hf:P.funcs[f]?=some fn)(hm:P.follows .mixedOrders=true)(h:WX P L σ.length (Po P L σ.length (tR fn) (bR fn) (C6 P fn σ.length Q)) (Ae9 fn args σ))
 (hb:((Iu (flat (fn.body.getD .skip))).isSome&&(fn.body.isSome&&okR L fn.ntmps (Zo fn) (tR fn) (bR fn) args.length))=true:=by kernel_rfl):VC P f args σ Q:=by
 simp only [Æ] at hb
 obtain⟨a,d,g⟩:=hb
 refine VC.introR (c:=fn.body.getD .skip) (ags:=Zo fn) (t:=tR fn) (b:=bR fn) L hf ?_ hm ?_ g (VH _ h.s)
 . cases e:fn.body with
   |none=>rw [e] at d;cases d
   |some c=>rfl
 . unfold Zo tR bR
   cases e:Iu (flat (fn.body.getD .skip)) with
   |none=>rw [e] at a;cases a
   |some r=>rfl
theorem vRP (L:Cf)(hf:P.funcs[f]?=some fn)(hm:P.follows .mixedOrders=true)(h:∀ Q:Cb->List (List PV)->Prop,(∀ y,shareP y=R->Q (.ret y) [])->WX P L 0 (Po P L 0 (tR fn) (bR fn) (C6 P fn 0 Q)) (Ae9 fn args []))
 (hb:((Iu (flat (fn.body.getD .skip))).isSome&&(fn.body.isSome&&okR L fn.ntmps (Zo fn) (tR fn) (bR fn) args.length))=true:=by kernel_rfl) (a:(EO args&&R.pure)=true:=by kernel_rfl):Cz P f args R:=by
 rw [Æ] at a
 exact VC.fin (fun Q b=>vR L hf hm (h Q b) hb) a.1 a.2
theorem rtG {t:Z3}{b:List Code}{Q:Cb->List (List PV)->Prop}(n:Nat)(qs:List (Nat×Fa)){R:PV}{σ:List (List PV)}(hQ:∀ y,shareP y=R->Q (.ret y) σ)
 (he:(SP P L n qs x,RM (rtR P fn N (nx P L n qs x)))=(some (EI qs),some (R,σ)):=by kernel_rfl):WX P L N (Po P L N t b (C6 P fn N Q)) x:=by
 obtain⟨e1,e2⟩:=Ó he
 refine Ux ?_ e1
 generalize nx P L n qs x=z at e2
 obtain⟨k,st⟩:=z
 unfold rtR at e2
 refine⟨zp (n:=99) ?_⟩
 split at e2
 . rename_i k1 e
   simp only at e
   rw [e]
   refine HS ?_
   show C6 P fn N Q .ret st
   cases e3:RS P fn N st with
   |none=>rw [e3] at e2;cases e2
   |some z =>
    obtain⟨p,σ1⟩:=z
    rw [e3] at e2
    obtain⟨rfl,rfl⟩:=Ó (Af e2)
    exact (IB e3 (hQ p rfl)).1
 . cases e2
theorem YZ {k:List TI}{st:St}(h:isE k=true)(hq:Q .normal st):WS P L N k Q st:=by
 unfold isE at h
 refine zp (n:=99) ?_
 split at h
 . rename_i e
   rw [e]
   exact FE rfl (WA hq)
 . cases h
theorem rgE {env0:List (Nat×PV)}{J:List (List PV)->Prop}{KA:AX->St->Prop}(n:Nat)(qs:List (Nat×Fa)){σ1:List (List PV)}(h:J σ1)
 (he:(SP P L n qs x,isE (nx P L n qs x).1,DH m ((nx P L n qs x).2.σ.take m),(nx P L n qs x).2.σ.take m)=(some (EI qs),true,true,σ1):=by kernel_rfl):WX P L m (Uw m env0 J KA) x:=by
 simp only [È] at he
 obtain⟨e1,e2,e3,e4⟩:=he
 exact Ux ⟨YZ e2 (FQ.rfl ⟨e3,by rw [e4];exact h⟩)⟩ e1
theorem rgT {env0:List (Nat×PV)}{J:List (List PV)->Prop}{t:Z3}{b:List Code}{Q:Cb->List (List PV)->Prop}(n:Nat)(qs:List (Nat×Fa)){R:PV}{σ:List (List PV)}(hQ:∀ y,shareP y=R->Q (.ret y) σ)
 (he:(SP P L n qs x,Aev (nx P L n qs x).1,DH m ((nx P L n qs x).2.σ.take m),RM (RS P fn N ⟨env0,(nx P L n qs x).2.σ.take m⟩))=(some (EI qs),true,true,some (R,σ)):=by kernel_rfl) :
 WX P L m (Uw m env0 J (KT P L N (.blk t.bid::(b.map TI.code++[.code .skip])) (C6 P fn N Q))) x:=by
 simp only [È] at he
 obtain⟨e1,e2,e3,e4⟩:=he
 refine Ux ⟨zp (n:=99) ?_⟩ e1
 unfold Aev at e2
 split at e2
 . rename_i k1 e
   rw [e]
   refine HS (FQ.rfl ⟨e3,?_⟩)
   show KT P L N _ (C6 P fn N Q) .ret _
   rw [Qt]
   cases e5:RS P fn N ⟨env0,(nx P L n qs x).2.σ.take m⟩ with
   |none=>rw [e5] at e4;cases e4
   |some z =>
    obtain⟨p,σ1⟩:=z
    rw [e5] at e4
    obtain⟨rfl,rfl⟩:=Ó (Af e4)
    exact (IB e5 (hQ p rfl)).1
 . cases e2
theorem Rnd.bind {X:List (List PV)->Prop}{st:St}(h:FQ m st (Rnd m X)):Rnd m X st:=FQ.bind h fun _ h=>h
theorem VE {env0:List (Nat×PV)}{J:List (List PV)->Prop}{KA:AX->St->Prop}{a:Code}{st:St}(h:WS P L m [.code a,.code YY] (Uw m env0 J KA) st):WS P L m [.code a] (Uw m env0 J KA) st:=by
 refine FQ.mono h fun st2 h=>OG a (fun x st h=>?_) st2 h
 cases x with
 |normal =>
  refine Rnd.bind (FQ.bind h fun s h=>?_)
  have h:FQ m s (W P L m .skip (KT P L m [] (Uw m env0 J KA))):=h
  exact h
 |_=>exact h
def Adq (m:Nat)(env0:List (Nat×PV)):Bool:=env0.all fun x=>plain x.2&&x.2.fits m
theorem Adp {st:St}{env0:List (Nat×PV)}(h:env0.map (fun x=>(x.1,st.get x.1))=env0)(hb:Adq m env0=true):∀ t,Cj env0 t=.undef∨(Cj env0 t=st.get t/\plain (st.get t)=true/\(st.get t).fits m=true):=by
 intro t
 unfold Adq at hb
 induction env0 with
 |nil=>exact .inl rfl
 |cons y r ih =>
  obtain⟨k,v⟩:=y
  simp only [Þ,List.cons.injEq,È,õ] at h
  rw [ą,Æ,Æ] at hb
  show (if k=t then v else Cj r t)=_∨(if k=t then v else Cj r t)=_/\_
  by_cases e:k=t
  . subst e
    rw [Ç rfl]
    refine .inr ⟨h.1.symm,?_⟩
    rw [h.1];exact hb.1
  . rw [Ä e];exact ih h.2 hb.2
theorem rgW {t:Z3}{b:List Code}{Qr:AX->St->Prop}{S Y:Type}(n:Nat)(qs:List (Nat×Fa))(m gf tv:Nat)(zs xs:List Int)(env0:List (Nat×PV))(g:List Int->S->Option Y)(C:S->List (List PV))(T:Int->S->St)(s0:S){y:Y}(hg:g xs s0=some y)(hne:zs≠[])(hit:Z6 P gf zs xs)
 (hC:∀ s,(C s).length=m/\DH m (C s)=true)
 (hT:∀ v s,(SP P L 1 [] ([.code t.assign],⟨(tv,iP v)::env0,C s⟩),(nx P L 1 [] ([.code t.assign],⟨(tv,iP v)::env0,C s⟩)).1,(nx P L 1 [] ([.code t.assign],⟨(tv,iP v)::env0,C s⟩)).2.σ.length,low (keys (T v s)) m (nx P L 1 [] ([.code t.assign],⟨(tv,iP v)::env0,C s⟩)).2)=(some [],[],m,T v s))
 (he:(SP P L n qs x,isE (nx P L n qs x).1,(nx P L n qs x).2.σ,Ck (nx P L n qs x).2 t.g,Im P gf,t.ps,Nat.ble N m,env0.map (fun z=>(z.1,(nx P L n qs x).2.get z.1)),Adq m env0)=(some (EI qs),true,C s0++[[.prv (zs.map Kv)]],.fn gf [.ptr m 0],true,#[tv],true,env0,true))
 (hr:∀ v rest s,g (v::rest) s=some y->∀ J:List (List PV)->Prop,(∀ s',g rest s'=some y->J (C s'))->WX P L m (Uw m env0 J (KT P L N (.blk t.bid::(b.map TI.code++[.code .skip])) Qr)) ([.code t.body,.code YY],T v s))
 (hf:∀ s,g [] s=some y->WX P L N Qr ((.blk t.bid::(b.map TI.code++[.code .skip])),⟨env0,C s⟩)):WX P L N (Po P L N t b Qr) x:=by
 simp only [È] at he
 obtain⟨e1,e2,e3,e4,e5,e6,e7,e8,e9⟩:=he
 refine Ux ⟨YZ e2 ⟨m,gf,tv,C s0,env0,zs,xs,fun pre σ'=>∃ s rest,xs=pre++rest/\g rest s=some y/\σ'=C s,⟨e3,(hC s0).1,Ø e7,(hC s0).2,hne⟩,⟨e4,e5,e6,hit⟩,Adp e8 e9,⟨⟨s0,xs,rfl,hg,rfl⟩,?_⟩,?_,?_⟩⟩ e1
 . rintro pre σ' ⟨s,rest,_,_,rfl⟩;exact (hC s).1
 . rintro pre v σ' ⟨s,rest,c,a,rfl⟩ f
   have d:[v] <+: rest:=by rw [c] at f;exact (List.prefix_append_right_inj pre).1 f
   obtain⟨rest',rfl⟩:=d
   have i:=hT v s
   simp only [È] at i
   obtain⟨k1,k2,k3,k4⟩:=i
   have hb:=hr v rest' s a (fun σ'=>∃ s rest,xs=(pre++[v])++rest/\g rest s=some y/\σ'=C s) (fun s' e=>⟨s',rest',by rw [c];simp,e,rfl⟩)
   have j:WX P L m (fun ax st2=>ax=.normal/\st2.σ.length=m/\WS P L m [.code t.body] (Uw m env0 (fun σ'=>∃ s rest,xs=(pre++[v])++rest/\g rest s=some y/\σ'=C s) (KT P L N (.blk t.bid::(b.map TI.code++[.code .skip])) Qr)) st2) ([.code t.assign],⟨(tv,iP v)::env0,C s⟩):=by
    refine Ux (n:=1) (qs:=[]) ⟨?_⟩ k1
    rw [k2]
    exact⟨rfl,k3,VE (JJ _ _ rfl (Ü _) k4 hb.s)⟩
   exact j.s
 . rintro σ' ⟨s,rest,c,a,rfl⟩
   have:rest=[]:=by
    have:=congrArg List.length c
    simp at this;exact this
   subst this
   exact (hf s a).s
end
def Adl {α:Type}(l:List α)(i:Int)(f:α->α):Option (List α):=(gi l i).bind fun x=>JW l i (f x)
section
variable {α:Type} (R:Rl α)
theorem stM {l l':List α}{m off:Nat}{i:Int}{f:α->α}{y:List Value}(h:Adl l i f=some l')(hy:off+y.length<=R.n)(hx:∀ x,(R.vals x).take off++y++(R.vals x).drop (off+y.length)=R.vals (f x)) :
 StA (Dn (l.map R.vals) m) (0+i.toNat*R.n+off) y.length (y.map .lit) (Dn (l'.map R.vals) m):=by
 obtain⟨x,a,b⟩:=Ac h
 exact stF R a b hy (hx x)
def fsM {l l':List α}(m off:Nat){i:Int}{f:α->α}(y:List Value)(h:Adl l i f=some l')(hy:off+y.length<=R.n)(hx:∀ x,(R.vals x).take off++y++(R.vals x).drop (off+y.length)=R.vals (f x)):Fa:=⟨.ast (Dn (l'.map R.vals) m),_,stM R (m:=m) (off:=off) h hy hx⟩
end
def br2 (P:Program)(L:Cf)(k:List TI)(st:St):Option (List TI×(Bool->St)):=match LU 99 k with
 |.code (.region i ops false)::k'=>match Di L.pl i,ops.toList with
  |none,[o1,o2]=>match o1.guard,Hl P o1 st,o2.op,o2.dst,o2.guard with
   |none,some (true,st1),.binOp .eql t x (.const (.slice none 0 0)) _,some d,none=>match Ck st1 x with
    |.sl [] _=>if ((Hl P o2 st1).isNone&&UF P t)=true then some (k',fun b=>clr L.L (st1.put (some d) (.lit (.bool b)))) else none
    |_=>none
   |_,_,_,_,_=>none
  |_,_=>none
 |_=>none
section
variable {P:Program} {L:Cf} {N:Nat} {Q:AX->St->Prop} {x:List TI×St}
theorem Zh {k k':List TI}{st:St}{f:Bool->St}(h:br2 P L k st=some (k',f))(hk:∀ b,WS P L N k' Q (f b)):WS P L N k Q st:=by
 unfold br2 at h
 refine zp (n:=99) ?_
 split at h
 . rename_i i ops k1 e
   rw [e]
   split at h
   . rename_i o1 o2 j c
     split at h
     . rename_i st1 t y t2 d l m a p o
       split at h
       . rename_i g q
         split at h
         . rename_i hs
           simp only [Â,È] at h
           obtain⟨rfl,rfl⟩:=h
           refine H3 j fun K' r hP=>?_
           rw [c]
           unfold B1
           rw [show Cy ops st o1=some true by unfold Cy;rw [l]]
           simp only
           rw [m]
           simp only
           refine⟨trivial,?_⟩
           unfold B1
           rw [show Cy ops st1 o2=some true by unfold Cy;rw [o]]
           simp only
           have hb:∀ b,B1 P ops K' [] (st1.put (some d) (.lit (.bool b))):=fun b=>r _ _ rfl (hk b)
           rw [Æ,Option.isNone_iff_eq_none] at hs
           rw [hs.1]
           simp only
           rw [show Eo P o2 st1=none by unfold Eo;rw [a]]
           simp only
           rw [show L6 o2 st1=none by unfold L6;rw [a]]
           simp only
           unfold QF
           rw [a,p]
           simp only
           rw [q]
           exact⟨hs.2,hb true,hb false⟩
         . cases h
       . cases h
     . cases h
   . cases h
 . cases h
def brT (P:Program)(L:Cf)(x:List TI×St)(b:Bool):List TI×St:=match br2 P L x.1 x.2 with
 |some (k,f)=>(k,f b)
 |none=>x
theorem brN (n:Nat)(qs:List (Nat×Fa))(h:∀ b,WX P L N Q (brT P L (nx P L n qs x) b))(he:(SP P L n qs x,(br2 P L (nx P L n qs x).1 (nx P L n qs x).2).isSome)=(some (EI qs),true):=by kernel_rfl):WX P L N Q x:=by
 simp only [È] at he
 obtain⟨e1,e2⟩:=he
 refine Ux ⟨?_⟩ e1
 cases e:br2 P L (nx P L n qs x).1 (nx P L n qs x).2 with
 |none=>rw [e] at e2;cases e2
 |some z =>
  obtain⟨k',f⟩:=z
  refine Zh e fun b=>?_
  have:=(h b).s
  unfold brT at this
  rw [e] at this
  exact this
end
end Go.Sp
namespace Go.Proofs
open Go.Shelf
def Tryz.lays189_ren:Go.Shelf.Ren:=⟨fun|189=>52|125=>76|257=>75|128=>130|129=>131|294=>121|295=>122|296=>123|297=>124|298=>125|299=>126|216=>127|300=>128|301=>129|328=>149|329=>150|330=>151|331=>152|332=>153|215=>154|343=>165|n=>n,fun|28=>29|3=>3|46=>175|0=>0|51=>203|53=>205|4=>4|183=>197|182=>196|131=>129|5=>5|9=>9|218=>221|222=>225|228=>235|229=>236|n=>n,fun|n=>n⟩
theorem Tryz.lays189:Go.Proofs.Lays.n189 Tryz.prog Tryz.lays189_ren:={
 mixed:=by kernel_rfl
 f125:=Tryz.func76.trans (congrArg some (by kernel_rfl))
 f128:=Tryz.func130.trans (congrArg some (by kernel_rfl))
 f129:=Tryz.func131.trans (congrArg some (by kernel_rfl))
 f189:=Tryz.func52.trans (congrArg some (by kernel_rfl))
 f215:=Tryz.func154.trans (congrArg some (by kernel_rfl))
 f216:=Tryz.func127.trans (congrArg some (by kernel_rfl))
 f257:=Tryz.func75.trans (congrArg some (by kernel_rfl))
 f294:=Tryz.func121.trans (congrArg some (by kernel_rfl))
 f295:=Tryz.func122.trans (congrArg some (by kernel_rfl))
 f296:=Tryz.func123.trans (congrArg some (by kernel_rfl))
 f297:=Tryz.func124.trans (congrArg some (by kernel_rfl))
 f298:=Tryz.func125.trans (congrArg some (by kernel_rfl))
 f299:=Tryz.func126.trans (congrArg some (by kernel_rfl))
 f300:=Tryz.func128.trans (congrArg some (by kernel_rfl))
 f301:=Tryz.func129.trans (congrArg some (by kernel_rfl))
 f328:=Tryz.func149.trans (congrArg some (by kernel_rfl))
 f329:=Tryz.func150.trans (congrArg some (by kernel_rfl))
 f330:=Tryz.func151.trans (congrArg some (by kernel_rfl))
 f331:=Tryz.func152.trans (congrArg some (by kernel_rfl))
 f332:=Tryz.func153.trans (congrArg some (by kernel_rfl))
 f343:=Tryz.func165.trans (congrArg some (by kernel_rfl))
 t0:=Tryz.underlying0
 a0:=Tryz.isAgg0
 z0:=Tryz.sizeOf0
 v0:=Tryz.zeroValue0
 t3:=Tryz.underlying3
 a3:=Tryz.isAgg3
 z3:=Tryz.sizeOf3
 v3:=Tryz.zeroValue3
 t4:=Tryz.underlying4
 a4:=Tryz.isAgg4
 z4:=Tryz.sizeOf4
 v4:=Tryz.zeroValue4
 t5:=Tryz.underlying5
 a5:=Tryz.isAgg5
 z5:=Tryz.sizeOf5
 v5:=Tryz.zeroValue5
 t9:=Tryz.underlying9
 a9:=Tryz.isAgg9
 z9:=Tryz.sizeOf9
 v9:=Tryz.zeroValue9
 t28:=Tryz.underlying29
 a28:=Tryz.isAgg29
 z28:=Tryz.sizeOf29
 v28:=Tryz.zeroValue29
 t46:=Tryz.underlying175
 a46:=Tryz.isAgg175
 z46:=Tryz.sizeOf175
 v46:=Tryz.zeroValue175
 t51:=Tryz.underlying203
 a51:=Tryz.isAgg203
 z51:=Tryz.sizeOf203
 v51:=Tryz.zeroValue203
 t53:=Tryz.underlying205
 a53:=Tryz.isAgg205
 z53:=Tryz.sizeOf205
 v53:=Tryz.zeroValue205
 t131:=Tryz.underlying129
 a131:=Tryz.isAgg129
 z131:=Tryz.sizeOf129
 v131:=Tryz.zeroValue129
 t182:=Tryz.underlying196
 a182:=Tryz.isAgg196
 z182:=Tryz.sizeOf196
 v182:=Tryz.zeroValue196
 t183:=Tryz.underlying197
 a183:=Tryz.isAgg197
 z183:=Tryz.sizeOf197
 v183:=Tryz.zeroValue197
 t218:=Tryz.underlying221
 a218:=Tryz.isAgg221
 z218:=Tryz.sizeOf221
 v218:=Tryz.zeroValue221
 t222:=Tryz.underlying225
 a222:=Tryz.isAgg225
 z222:=Tryz.sizeOf225
 v222:=Tryz.zeroValue225
 t228:=Tryz.underlying235
 a228:=Tryz.isAgg235
 z228:=Tryz.sizeOf235
 v228:=Tryz.zeroValue235
 t229:=Tryz.underlying236
 a229:=Tryz.isAgg236
 z229:=Tryz.sizeOf236
 v229:=Tryz.zeroValue236 }
open Go.Sort Go.RowKit in
theorem Tryz.slices_Sort_int (blk off cap:Nat)(zs:List Int)(w:World)(hH:Holds (Value.int .i64) w blk off zs.toArray)(hblk:blk<w.heap.size)(hsz:zs.length<4611686018427387904) :
 Calls Tryz.prog 52 #[.slice (some ⟨blk,off,none⟩) zs.length cap] w fun e w' =>
  e=.returned (.tuple #[])/\∃ n os,w'=grow (putRow (Value.int .i64) (Sort.ahead w n) blk off (zs.mergeSort fun x y=>decide (x<=y)).toArray) os:=Any.slices_Sort_int Tryz.lays189 blk off cap zs w hH hblk hsz
def Tryz.laysNm220_ren:Go.Shelf.Ren:=⟨fun|20=>54|n=>n,fun|22=>29|3=>3|4=>4|0=>0|n=>n,fun|n=>n⟩
theorem Tryz.laysNm220:Go.Proofs.Lays2.n20 Tryz.prog Tryz.laysNm220_ren:={
 mixed:=by kernel_rfl
 f20:=Tryz.func54.trans (congrArg some (by kernel_rfl))
 t0:=Tryz.underlying0
 a0:=Tryz.isAgg0
 z0:=Tryz.sizeOf0
 v0:=Tryz.zeroValue0
 t3:=Tryz.underlying3
 a3:=Tryz.isAgg3
 z3:=Tryz.sizeOf3
 v3:=Tryz.zeroValue3
 t4:=Tryz.underlying4
 a4:=Tryz.isAgg4
 z4:=Tryz.sizeOf4
 v4:=Tryz.zeroValue4
 t22:=Tryz.underlying29
 a22:=Tryz.isAgg29
 z22:=Tryz.sizeOf29
 v22:=Tryz.zeroValue29
 i3:=by kernel_rfl }
open Go.RowKit Go.Lib Go.Sort in
theorem Tryz.slices_Compact_int (blk off cap:Nat)(zs:List Int)(w:World)(hH:Holds (Value.int .i64) w blk off zs.toArray)(hsz:zs.length<=9223372036854775807)(hcap:zs.length<=cap) :
 Calls Tryz.prog 54 #[.slice (some ⟨blk,off,none⟩) zs.length cap] w fun e w'=>e=.returned (.slice (some ⟨blk,off,none⟩) (Lib.compact zs).length cap)/\∃ q,w'=putRow (Value.int .i64) (Sort.ahead w q) blk off (Lib.compact zs++List.replicate (zs.length-(Lib.compact zs).length) 0).toArray:=Any.slices_Compact_int Tryz.laysNm220 blk off cap zs w hH hsz hcap
open Go.RowKit Go.Sort in
theorem Tryz.slices_Sort_int_none (p:Option Addr)(cap:Nat)(w:World) :
 Calls Tryz.prog 52 #[.slice p 0 cap] w fun e w'=>e=.returned (.tuple #[])/\w'=w:=Any.slices_Sort_int_none Tryz.lays189 p cap w
end Go.Proofs
namespace Go.Sp
open Go Go.RowKit Go.Proofs Go.Sort Go.Vl
theorem YL (zs:List Int):(zs.map Kv).flatten.map PV.lit=zs.map fun z=>PV.lit (.int .i64 z):=by
 induction zs with
 |nil=>rfl
 |cons z zs ih=>simp only [Þ,List.flatten_cons,ā,ih];rfl
theorem OD (zs:List Int)(e:Nat):(Dn (zs.map Kv) e).length=zs.length+e:=by
 unfold Dn;rw [YL];simp
theorem W9 (zs:List Int)(e i:Nat)(h:i<zs.length):(Dn (zs.map Kv) e)[i]?=some (.lit (.int .i64 zs[i])):=by
 unfold Dn
 rw [YL,Õ (by simpa using h)]
 simp [h]
theorem OE (zs:List Int)(e:Nat):∀ p∈Dn (zs.map Kv) e,p=.undef∨∃ v,p=.lit v:=by
 intro p a
 unfold Dn at a
 rcases List.mem_append.1 a with h|h
 . obtain⟨v,_,rfl⟩:=List.mem_map.1 h;exact .inr ⟨v,rfl⟩
 . exact .inl (List.mem_replicate.1 h).2
section
variable {w w':World} {G:Gh} {P:Program} {σ:List (List PV)}
theorem XJ {k b e:Nat}{zs:List Int}(h:Ay w G σ)(h1:G.φ[k]?=some b)(s1:σ[k]?=some (Dn (zs.map Kv) e)) :
 ∃ T,∃ arr:Array Value,w.heap[b]?=some (.cells arr T (0,0))/\arr.size=zs.length+e/\(∀ i,i<arr.size->(arr.getD i Go.undef).oneCell'=true)/\∀ i (h:i<zs.length),arr[i]?=some (.int .i64 zs[i]):=by
 obtain⟨⟨o1,arr1,l1,⟨l2,l3⟩,l4⟩,_⟩:=h.blk k b _ h1 s1
 have c1:∃ T,o1=.cells arr1 T (0,0):=by
  rcases l2 with k2|⟨kvs,es,c,k2,_⟩|⟨kvs,seen,k2,_⟩
  . exact k2.1
  . exfalso
    have:=OE zs e (.mp kvs) (by rw [k2];simp)
    rcases this with h|⟨v,h⟩<;>cases h
  . exfalso
    have:=OE zs e (.mit kvs seen) (by rw [k2];simp)
    rcases this with h|⟨v,h⟩<;>cases h
 obtain⟨T,rfl⟩:=c1
 refine⟨T,arr1,l1,by rw [l3,OD],fun i a=>?_,fun i a=>?_⟩
 . obtain⟨u,u1,u2,_⟩:=l4 i _ (Ã (by rw [<- l3];exact a))
   rw [É,u1];exact u2
 . obtain⟨u,u1,u2,u3,u4⟩:=l4 i _ (W9 zs e i a)
   cases u3 with
   |lit=>exact u1
theorem NV (enc:Int->Value)(w:World)(b:Nat)(d:Array Int)(k:Nat)(hk:k≠b):(putRow enc w b 0 d).heap[k]?=w.heap[k]?:=by
 show (w.heap.modify b _)[k]?=_
 rw [Array.getElem?_modify,Ä (Ę hk)]
theorem NU (enc:Int->Value)(w:World)(b:Nat)(d:Array Int){arr:Array Value}{T:TypeId}{f:Nat×Nat}(h:w.heap[b]?=some (.cells arr T f)):(putRow enc w b 0 d).heap[b]?=some (.cells (putCells enc 0 d arr) T f):=by
 show (w.heap.modify b _)[b]?=_
 rw [Array.getElem?_modify,Ç rfl,h];rfl
theorem Mz (zs:List Int)(arr:Array Value)(i:Nat):(putCells (Value.int .i64) 0 zs.toArray arr).getD i Go.undef=if h:i<zs.length/\i<arr.size then .int .i64 (zs[i]'h.1) else arr.getD i Go.undef:=by
 unfold putCells
 rw [É,Array.getElem?_mapIdx,É]
 by_cases a:i<arr.size
 . rw [à a]
   by_cases h:i<zs.length
   . simp [h,a]
   . simp [h]
 . rw [Array.getElem?_eq_none (by omega)]
   simp [a]
theorem Lz (zs:List Int)(arr:Array Value):(putCells (Value.int .i64) 0 zs.toArray arr).size=arr.size:=by simp [putCells]
theorem VC.arrI {f:FuncId}{zs zs':List Int}{b cap e:Nat}(hl:zs'.length=zs.length)
 (hc:∀ (blk:Nat) (w:World),Holds (Value.int .i64) w blk 0 zs.toArray->blk<w.heap.size->Calls P f #[.slice (some ⟨blk,0,none⟩) zs.length cap] w fun e w'=>e=.returned (.tuple #[])/\∃ n os,w'=grow (putRow (Value.int .i64) (Sort.ahead w n) blk 0 zs'.toArray) os)
 (hσ:σ[b]?=some (Dn (zs.map Kv) e)):I2 P f [.asl b 0 zs.length cap] σ (.ret (.tup [])) (σ.set b (Dn (zs'.map Kv) e)):=by
 intro w G vs hs y J S K
 have A:=J 0 (by simp)
 have m:vs.size=1:=y
 generalize q:(PV.asl b 0 zs.length cap)=p at A
 have B:∃ blk,G.φ[b]?=some blk/\vs = #[.slice (some ⟨blk,0,none⟩) zs.length cap]:=by
  have e1:vs = #[vs.getD 0 Go.undef]:=by
   apply Array.ext
   . simpa using m
   . intro i L I
     have:i=0:=by simp at I;exact I
     subst this
     simp [Array.getD,L]
  have d:V w G.U G.φ p (vs.getD 0 Go.undef):=by rw [<- q] at A ⊢;exact A
  revert d
  generalize vs.getD 0 Go.undef=z at e1
  intro d
  cases d with
  |asl _ _ _ _ _ k C M W=>cases q;exact⟨k,C,e1⟩
  |_=>cases q
 obtain⟨blk,D,rfl⟩:=B
 obtain⟨T,arr,x,E,r,s⟩:=XJ hs D hσ
 have F:blk<w.heap.size:=hs.phi_lt (Ò D)
 have hH:Holds (Value.int .i64) w blk 0 zs.toArray:=by
  intro j H
  have u:j<zs.length:=by simpa using H
  refine⟨?_,?_⟩
  . rw [ò]
    have h:=s j u
    simp [World.cell?,x,h,u]
  . simp [World.frozen?,x]
 refine (hc blk w hH F).mono ?_
 rintro e2 w' ⟨rfl,n,os,rfl⟩
 have hI:Inv w G ⟨[],σ⟩ (fun _=>Go.undef) w G:=⟨Ext.refl _ _,hs,⟨fun t=>.undef _ _,fun t=>trivial⟩⟩
 have g:=hI.setBlock (w':=putRow (Value.int .i64) (Sort.ahead w n) blk 0 zs'.toArray) (cs':=Dn (zs'.map Kv) e) (arr':=putCells (Value.int .i64) 0 zs'.toArray arr) D hσ x
  (NU _ (Sort.ahead w n) blk _ x) (fun p q=>by rcases OE zs' e p q with h|⟨v,h⟩<;>rw [h]<;>rfl) (fun i a=>NV _ (Sort.ahead w n) blk _ i a) rfl rfl rfl
  ⟨by rw [Lz,E,OD,hl],fun i a=>?_⟩ ?_ (fun t xs j h=>by cases h)
 . have B:∀ (w1 w2:World) (o:Array Obj),w2=grow w1 o->Below w1.heap.size w1 w2:=by
    rintro w1 w2 o rfl
    exact⟨rfl,rfl,rfl,by simp,fun k C=>by show (w1.heap++o)[k]?=_;rw [ô C]⟩
   have hB:=B (putRow (Value.int .i64) (Sort.ahead w n) blk 0 zs'.toArray) _ os rfl
   refine⟨_,_,_,⟨rfl,rfl⟩,⟨_,rfl,.tup _ _ _ rfl (fun i a=>by simp at a),fun i xs a=>by simp at a⟩,g.store.below hB (fun b i l=>.inl l) (fun b i l=>l),g.ext.trans (Ext.ofBelow g.store hB (fun b i l=>.inl l) (fun b i l=>l))⟩
 . rw [OD,hl] at a
   rw [Mz]
   split
   . rename_i h
     have e3:=W9 zs' e i h.1
     obtain⟨X,N⟩:=List.getElem?_eq_some_iff.1 e3
     rw [N]
     exact⟨.lit _ _,rfl⟩
   . rename_i h
     have O:¬ i<zs'.length:=fun R=>h ⟨R,by omega⟩
     refine⟨?_,r i (by omega)⟩
     have:(Dn (zs'.map Kv) e)[i]'(by rw [OD,hl];exact a)=.undef:=by
      unfold Dn
      simp only [YL]
      rw [Ď (by simpa using O)]
      simp
     rw [this];exact .undef _ _
 . intro j c H
   rcases OE zs' e c (Ò H) with h|⟨v,h⟩<;>rw [h]<;>trivial
end
def Vh (x:Int):List Int->List Int
 | []=>[x]
 |y::r=>bif decide (x<=y) then x::y::r else y::Vh x r
def Iy:List Int->List Int
 | []=>[]
 |x::r=>Vh x (Iy r)
theorem N6 (x:Int):∀ l,(Vh x l).Perm (x::l)
 | []=>.refl _
 |y::r=>by
  unfold Vh
  by_cases h:x<=y
  . rw [Ì h];exact .refl _
  . rw [Ë h];exact ((N6 x r).cons y).trans (.swap _ _ _)
theorem FL:∀ l,(Iy l).Perm l
 | []=>.refl _
 |x::r=>(N6 x _).trans ((FL r).cons x)
theorem Oe (x:Int):∀ l,l.Pairwise (·<=·)->(Vh x l).Pairwise (·<=·)
 | [],_=>by simp [Vh]
 |y::r,h=>by
  have hr:=List.pairwise_cons.1 h
  unfold Vh
  by_cases hx:x<=y
  . rw [Ì hx]
    exact List.pairwise_cons.2 ⟨fun z hz=>by
     rcases List.mem_cons.1 hz with rfl|hz
     . exact hx
     . exact Int.le_trans hx (hr.1 z hz),h⟩
  . rw [Ë hx]
    refine List.pairwise_cons.2 ⟨fun z hz=>?_,Oe x r hr.2⟩
    rcases List.mem_cons.1 ((N6 x r).mem_iff.1 hz) with rfl|hz
    . omega
    . exact hr.1 z hz
theorem GK:∀ l,(Iy l).Pairwise (·<=·)
 | []=>.nil
 |x::r=>Oe x _ (GK r)
theorem Xo (l:List Int):(l.mergeSort fun x y=>decide (x<=y))=Iy l:=by
 refine List.Perm.eq_of_pairwise (le:=fun x y:Int=>x<=y) (fun a b _ _ d e=>Int.le_antisymm d e) ?_ (GK l) ((List.mergeSort_perm _ _).trans (FL l).symm)
 have:=List.pairwise_mergeSort (le:=fun x y:Int=>decide (x<=y)) (fun a b c d e=>by simp at d e ⊢;omega) (fun a b=>by simp;omega) l
 exact this.imp (fun h=>by simpa using h)
def Qv:List Int->List Int
 | []=>[]
 | [x]=>[x]
 |x::y::r=>bif decide (x=y) then Qv (y::r) else x::Qv (y::r)
theorem PX:∀ (l:List Int) (y x:Int),Qv (l++[y,x])=Qv (l++[y])++(if y=x then [] else [x])
 | [],y,x=>by
  show Qv [y,x]=Qv [y]++_
  by_cases h:y=x
  . subst h;simp [Qv]
  . simp [Qv,h]
 | [z],y,x=>by
  show Qv (z::y::[x])=Qv [z,y]++_
  have ih:=PX [] y x
  have ih:Qv (y::[x])=Qv [y]++(if y=x then [] else [x]):=ih
  rw [Qv,ih]
  by_cases h:z=y
  . subst h;simp [Qv]
  . simp [Qv,h]
 |z::z2::l,y,x=>by
  have ih:=PX (z2::l) y x
  simp only [List.cons_append] at ih ⊢
  rw [Qv,Qv,ih]
  by_cases h:z=z2
  . subst h;simp
  . simp [h]
theorem Il (d e:Array Int):∀ m,(∀ j,j<m->d[j]! = e[j]!)->Lib.compactUpTo d m=Lib.compactUpTo e m
 |0,_=>rfl
 |m+1,h=>by
  rw [Lib.compactUpTo_succ,Lib.compactUpTo_succ,Il d e m (fun j hj=>h j (by omega)),h m (by omega)]
  have:Lib.keeps d m=Lib.keeps e m:=by
   unfold Lib.keeps
   rw [h m (by omega)]
   by_cases a:m=0
   . simp [a]
   . rw [h (m-1) (by omega)]
  rw [this]
theorem V3 (l:List Int):Lib.compact l=Qv l:=by
 have key:∀ r:List Int,Lib.compact r.reverse=Qv r.reverse:=by
  intro r
  induction r with
  |nil=>rfl
  |cons x r ih =>
   cases r with
   |nil=>simp [Lib.compact,Lib.compactUpTo,Qv,Lib.keeps,List.range_succ]
   |cons y r =>
    rw [List.reverse_cons,List.reverse_cons,ð]
    show Lib.compact (r.reverse++[y,x])=Qv (r.reverse++[y,x])
    rw [PX]
    rw [List.reverse_cons] at ih
    rw [<- ih]
    unfold Lib.compact
    have c:(r.reverse++[y,x]).length=(r.reverse++[y]).length+1:=by simp
    rw [c,Lib.compactUpTo_succ]
    rw [Il (r.reverse++[y,x]).toArray (r.reverse++[y]).toArray _ (fun j d=>?_)]
    . congr 1
      have f:(r.reverse++[y,x]).toArray[(r.reverse++[y]).length]! = x:=by simp
      have g:(r.reverse++[y,x]).toArray[(r.reverse++[y]).length-1]! = y:=by simp
      unfold Lib.keeps
      rw [f,g]
      by_cases h:y=x
      . subst h;simp
      . have:¬ x=y:=fun e=>h e.symm
        simp [h,this]
    . simp only [Ô,List.length_reverse,æ,ì] at d
      simp only [List.getElem!_toArray,List.getElem!_eq_getElem?_getD]
      by_cases b:j<r.length
      . rw [Õ (by simpa using b),Õ (by simpa using b)]
      . have:j=r.length:=by omega
        subst this
        rw [ß (by simp),ß (by simp)]
        simp
 have:=key l.reverse
 rwa [List.reverse_reverse] at this
def H2 (zs:List Int):List Int:=(Qv zs).filter fun x=>decide (x<=41666)
def Rp (zs:List Int):Option (List Int):=if zs.length<4611686018427387904 then some (Iy zs) else none
theorem XS {zs r:List Int}{σ:List (List PV)}{b cap e:Nat}(h:Rp zs=some r)(hσ:σ[b]?=some (Dn (zs.map Kv) e)):I2 Tryz.prog 52 [.asl b 0 zs.length cap] σ (.ret (.tup [])) (σ.set b (Dn (r.map Kv) e)):=by
 unfold Rp at h
 split at h
 . rename_i c
   cases h
   exact VC.arrI (FL zs).length_eq (fun blk w hH a=>by rw [<- Xo];exact Tryz.slices_Sort_int blk 0 cap zs w hH a c) hσ
 . cases h
end Go.Sp
namespace Go.Sp
open Go Go.Vl
set_option linter.unusedVariables false
structure Ae where
 from_:Int
 to_:Int
 clause:Int
def CA (x:Ae):List PV:=[iP x.from_,iP x.to_,iP x.clause]
theorem Nr (x:Ae):CA x=[iP x.from_,iP x.to_,iP x.clause]:=rfl
theorem Mw (x:Ae):(CA x).length=3:=rfl
def BF:Rw Ae:=⟨CA,_,3,Nr,Mw⟩
structure B0 where
 State:Int
 Houses:Int
 By:(List Int)
structure AQ where
 From:Int
 To:Int
 State:Int
 Houses:Int
def D4 (x:AQ):List PV:=[iP x.From,iP x.To,iP x.State,iP x.Houses]
theorem LO (x:AQ):D4 x=[iP x.From,iP x.To,iP x.State,iP x.Houses]:=rfl
theorem Lr (x:AQ):(D4 x).length=4:=rfl
def CD:Rw AQ:=⟨D4,_,4,LO,Lr⟩
def Aj:Rl Ae:=⟨fun x=>[(.int .i64 x.from_),(.int .i64 x.to_),(.int .i64 x.clause)],3,fun _=>rfl⟩
def EH:Rl Int:=⟨fun x=>[(.int .i64 x)],1,fun _=>rfl⟩
def Bi:Rl AQ:=⟨fun x=>[(.int .i64 x.From),(.int .i64 x.To),(.int .i64 x.State),(.int .i64 x.Houses)],4,fun _=>rfl⟩
def CX (cv1:(List Ad))(a_:Ae)(b:Ae):Option Int :=
 (gi cv1 b.clause).bind fun x =>
 (gi cv1 a_.clause).bind fun x1 =>
 some (À (x.Rank-x1.Rank))
def Aw:Nat->Int->Nat->(List Ad)->Int->(List Ae)->Option (List Ae)
 |0,_,_,_,_,_=>none
 |n+1,a_,n_,cv1,j,data4 =>
  ((bif (decide (a_<j)) then
   (gx n_ j).bind fun _ =>
   (gi data4 j).bind fun x2 =>
   (gx n_ (À (j-1))).bind fun _ =>
   (gi data4 (À (j-1))).bind fun x3 =>
   (CX cv1 x2 x3).bind fun s =>
   some (decide (s<0))
  else
   some false
  ):Option Bool).bind fun v34 =>
   bif v34 then
    (gx n_ (À (j-1))).bind fun _ =>
    (gi data4 (À (j-1))).bind fun x =>
    (gx n_ j).bind fun _ =>
    (gi data4 j).bind fun x1 =>
    (JW data4 j x).bind fun data5 =>
    (JW data5 (À (j-1)) x1).bind fun data6 =>
    Aw n a_ n_ cv1 (À (j-1)) data6
   else
    some data4
def AD:Nat->Int->Int->Nat->(List Ad)->Int->(List Ae)->Option (List Ae)
 |0,_,_,_,_,_,_=>none
 |n+1,b,a_,n_,cv1,i,data2 =>
  bif (decide (i<b)) then
   ((Aw n a_ n_ cv1 i data2
   ):Option (List Ae)).bind fun data3 =>
    AD n b a_ n_ cv1 (À (i+1)) data3
  else
   some data2
def AA (n:Nat)(cv1:(List Ad))(n_:Nat)(data:(List Ae))(a_:Int)(b:Int):Option (List Ae) :=
 ((AD n b a_ n_ cv1 (À (a_+1)) data
 ):Option (List Ae)).bind fun data1 =>
  some data1
def AN:Nat->Int->Nat->Int->Int->Int->(List Ae)->Option (List Ae)
 |0,_,_,_,_,_,_=>none
 |n+1,n_1,n_,b,a_,i,data2 =>
  bif (decide (i<n_1)) then
   (gx n_ (À (b+i))).bind fun _ =>
   (gi data2 (À (b+i))).bind fun x =>
   (gx n_ (À (a_+i))).bind fun _ =>
   (gi data2 (À (a_+i))).bind fun x1 =>
   (JW data2 (À (a_+i)) x).bind fun data3 =>
   (JW data3 (À (b+i)) x1).bind fun data4 =>
   AN n n_1 n_ b a_ (À (i+1)) data4
  else
   some data2
def Bl (n:Nat)(cv1:(List Ad))(n_:Nat)(data:(List Ae))(a_:Int)(b:Int)(n_1:Int):Option (List Ae) :=
 ((AN n n_1 n_ b a_ 0 data
 ):Option (List Ae)).bind fun data1 =>
  some data1
def A0:Nat->(List Ad)->Nat->Int->Int->Int->(List Ae)->Option (Int×(List Ae))
 |0,_,_,_,_,_,_=>none
 |n+1,cv1,n_,m_1,i1,j,data3 =>
  bif (i1 != j) then
   bif (decide (j<i1)) then
    (Bl n cv1 n_ data3 (À (m_1-i1)) m_1 j).bind fun data4 =>
    A0 n cv1 n_ m_1 (À (i1-j)) j data4
   else
    (Bl n cv1 n_ data3 (À (m_1-i1)) (À ((À (m_1+j))-i1)) i1).bind fun data5 =>
    A0 n cv1 n_ m_1 i1 (À (j-i1)) data5
  else
   some (i1,data3)
def Bv (n:Nat)(cv1:(List Ad))(n_:Nat)(data:(List Ae))(a_:Int)(m_1:Int)(b:Int):Option (List Ae) :=
 ((A0 n cv1 n_ m_1 (À (m_1-a_)) (À (b-m_1)) data
 ):Option (Int×(List Ae))).bind fun y=>match y with
 |(i,data1) =>
  (Bl n cv1 n_ data1 (À (m_1-i)) m_1 i).bind fun data2 =>
  some data2
mutual
def AV:Nat->Int->Nat->Int->(List Ae)->Option (List Ae)
 |0,_,_,_,_=>none
 |n+1,i,n_,k,data2 =>
  bif (decide (k<(À (i-1)))) then
   (gx n_ (À (k+1))).bind fun _ =>
   (gi data2 (À (k+1))).bind fun x =>
   (gx n_ k).bind fun _ =>
   (gi data2 k).bind fun x1 =>
   (JW data2 k x).bind fun data3 =>
   (JW data3 (À (k+1)) x1).bind fun data4 =>
   AV n i n_ (À (k+1)) data4
  else
   some data2
def A2:Nat->Nat->(List Ae)->Int->(List Ad)->Int->Int->Option Int
 |0,_,_,_,_,_,_=>none
 |n+1,n_,data,a_,cv1,i1,j =>
  bif (decide (i1<j)) then
   (gx n_ (À ((IntKind.u64.wrap (À (i1+j))).fdiv (2 ^ min (1:Int).toNat IntKind.u64.bits)))).bind fun _ =>
   (gi data (À ((IntKind.u64.wrap (À (i1+j))).fdiv (2 ^ min (1:Int).toNat IntKind.u64.bits)))).bind fun x2 =>
   (gx n_ a_).bind fun _ =>
   (gi data a_).bind fun x3 =>
   (CX cv1 x2 x3).bind fun s =>
   bif (decide (s<0)) then
    A2 n n_ data a_ cv1 (À ((À ((IntKind.u64.wrap (À (i1+j))).fdiv (2 ^ min (1:Int).toNat IntKind.u64.bits)))+1)) j
   else
    A2 n n_ data a_ cv1 i1 (À ((IntKind.u64.wrap (À (i1+j))).fdiv (2 ^ min (1:Int).toNat IntKind.u64.bits)))
  else
   some i1
def AU:Nat->Int->Nat->Int->(List Ae)->Option (List Ae)
 |0,_,_,_,_=>none
 |n+1,i2,n_,k1,data6 =>
  bif (decide (i2<k1)) then
   (gx n_ (À (k1-1))).bind fun _ =>
   (gi data6 (À (k1-1))).bind fun x4 =>
   (gx n_ k1).bind fun _ =>
   (gi data6 k1).bind fun x5 =>
   (JW data6 k1 x4).bind fun data7 =>
   (JW data7 (À (k1-1)) x5).bind fun data8 =>
   AU n i2 n_ (À (k1-1)) data8
  else
   some data6
def A1:Nat->Nat->Int->(List Ae)->(List Ad)->Int->Int->Option Int
 |0,_,_,_,_,_,_=>none
 |n+1,n_,m_1,data,cv1,i3,j1 =>
  bif (decide (i3<j1)) then
   (gx n_ m_1).bind fun _ =>
   (gi data m_1).bind fun x6 =>
   (gx n_ (À ((IntKind.u64.wrap (À (i3+j1))).fdiv (2 ^ min (1:Int).toNat IntKind.u64.bits)))).bind fun _ =>
   (gi data (À ((IntKind.u64.wrap (À (i3+j1))).fdiv (2 ^ min (1:Int).toNat IntKind.u64.bits)))).bind fun x7 =>
   (CX cv1 x6 x7).bind fun s1 =>
   bif (!(decide (s1<0))) then
    A1 n n_ m_1 data cv1 (À ((À ((IntKind.u64.wrap (À (i3+j1))).fdiv (2 ^ min (1:Int).toNat IntKind.u64.bits)))+1)) j1
   else
    A1 n n_ m_1 data cv1 i3 (À ((IntKind.u64.wrap (À (i3+j1))).fdiv (2 ^ min (1:Int).toNat IntKind.u64.bits)))
  else
   some i3
def Av:Nat->Nat->Int->Int->Int->(List Ae)->(List Ad)->Int->Int->Option Int
 |0,_,_,_,_,_,_,_,_=>none
 |n+1,n_,a_,b,m_1,data,cv1,start2,r_1 =>
  bif (decide (start2<r_1)) then
   (gx n_ (À ((À ((À ((À ((IntKind.u64.wrap (À (a_+b))).fdiv (2 ^ min (1:Int).toNat IntKind.u64.bits)))+m_1))-1))-(À ((IntKind.u64.wrap (À (start2+r_1))).fdiv (2 ^ min (1:Int).toNat IntKind.u64.bits)))))).bind fun _ =>
   (gi data (À ((À ((À ((À ((IntKind.u64.wrap (À (a_+b))).fdiv (2 ^ min (1:Int).toNat IntKind.u64.bits)))+m_1))-1))-(À ((IntKind.u64.wrap (À (start2+r_1))).fdiv (2 ^ min (1:Int).toNat IntKind.u64.bits)))))).bind fun x8 =>
   (gx n_ (À ((IntKind.u64.wrap (À (start2+r_1))).fdiv (2 ^ min (1:Int).toNat IntKind.u64.bits)))).bind fun _ =>
   (gi data (À ((IntKind.u64.wrap (À (start2+r_1))).fdiv (2 ^ min (1:Int).toNat IntKind.u64.bits)))).bind fun x9 =>
   (CX cv1 x8 x9).bind fun s2 =>
   bif (!(decide (s2<0))) then
    Av n n_ a_ b m_1 data cv1 (À ((À ((IntKind.u64.wrap (À (start2+r_1))).fdiv (2 ^ min (1:Int).toNat IntKind.u64.bits)))+1)) r_1
   else
    Av n n_ a_ b m_1 data cv1 start2 (À ((IntKind.u64.wrap (À (start2+r_1))).fdiv (2 ^ min (1:Int).toNat IntKind.u64.bits)))
  else
   some start2
def Am:Nat->(List Ad)->Nat->(List Ae)->Int->Int->Int->Option (List Ae)
 |0,_,_,_,_,_,_=>none
 |n+1,cv1,n_,data,a_,m_1,b =>
  bif ((À (m_1-a_)) == 1) then
   ((A2 n n_ data a_ cv1 m_1 b
   ):Option Int).bind fun i =>
    ((AV n i n_ a_ data
    ):Option (List Ae)).bind fun data1 =>
     some data1
  else
   bif ((À (b-m_1)) == 1) then
    ((A1 n n_ m_1 data cv1 a_ m_1
    ):Option Int).bind fun i2 =>
     ((AU n i2 n_ m_1 data
     ):Option (List Ae)).bind fun data5 =>
      some data5
   else
    ((bif (decide ((À ((IntKind.u64.wrap (À (a_+b))).fdiv (2 ^ min (1:Int).toNat IntKind.u64.bits)))<m_1)) then
     some ((À ((À ((À ((IntKind.u64.wrap (À (a_+b))).fdiv (2 ^ min (1:Int).toNat IntKind.u64.bits)))+m_1))-b)),(À ((IntKind.u64.wrap (À (a_+b))).fdiv (2 ^ min (1:Int).toNat IntKind.u64.bits))))
    else
     some (a_,m_1)
    ):Option (Int×Int)).bind fun y4=>match y4 with
    |(start,r_) =>
     ((Av n n_ a_ b m_1 data cv1 start r_
     ):Option Int).bind fun start1 =>
      ((bif (decide (start1<m_1)) then
       some (decide (m_1<(À ((À ((À ((IntKind.u64.wrap (À (a_+b))).fdiv (2 ^ min (1:Int).toNat IntKind.u64.bits)))+m_1))-start1))))
      else
       some false
      ):Option Bool).bind fun v185 =>
       ((bif v185 then
        (Bv n cv1 n_ data start1 m_1 (À ((À ((À ((IntKind.u64.wrap (À (a_+b))).fdiv (2 ^ min (1:Int).toNat IntKind.u64.bits)))+m_1))-start1))).bind fun data13 =>
        some data13
       else
        some data
       ):Option (List Ae)).bind fun data9 =>
        ((bif (decide (a_<start1)) then
         some (decide (start1<(À ((IntKind.u64.wrap (À (a_+b))).fdiv (2 ^ min (1:Int).toNat IntKind.u64.bits)))))
        else
         some false
        ):Option Bool).bind fun v199 =>
         ((bif v199 then
          (Am n cv1 n_ data9 a_ start1 (À ((IntKind.u64.wrap (À (a_+b))).fdiv (2 ^ min (1:Int).toNat IntKind.u64.bits)))).bind fun data12 =>
          some data12
         else
          some data9
         ):Option (List Ae)).bind fun data10 =>
          ((bif (decide ((À ((IntKind.u64.wrap (À (a_+b))).fdiv (2 ^ min (1:Int).toNat IntKind.u64.bits)))<(À ((À ((À ((IntKind.u64.wrap (À (a_+b))).fdiv (2 ^ min (1:Int).toNat IntKind.u64.bits)))+m_1))-start1)))) then
           some (decide ((À ((À ((À ((IntKind.u64.wrap (À (a_+b))).fdiv (2 ^ min (1:Int).toNat IntKind.u64.bits)))+m_1))-start1))<b))
          else
           some false
          ):Option Bool).bind fun v213 =>
           bif v213 then
            (Am n cv1 n_ data10 (À ((IntKind.u64.wrap (À (a_+b))).fdiv (2 ^ min (1:Int).toNat IntKind.u64.bits))) (À ((À ((À ((IntKind.u64.wrap (À (a_+b))).fdiv (2 ^ min (1:Int).toNat IntKind.u64.bits)))+m_1))-start1)) b).bind fun data11 =>
            some data11
           else
            some data10
end
def A9:Nat->Int->(List Ad)->Nat->Int->Int->Int->(List Ae)->Option (Int×Int×(List Ae))
 |0,_,_,_,_,_,_,_=>none
 |n+1,n_1,cv1,n_,blockSize,a_3,b3,data7 =>
  bif (decide (b3<=n_1)) then
   (Am n cv1 n_ data7 a_3 (À (a_3+blockSize)) b3).bind fun data8 =>
   A9 n n_1 cv1 n_ blockSize b3 (À (b3+(À (2*blockSize)))) data8
  else
   some (a_3,b3,data7)
def A3:Nat->Int->(List Ad)->Nat->Int->Int->Int->(List Ae)->Option (List Ae)
 |0,_,_,_,_,_,_,_=>none
 |n+1,n_1,cv1,n_,blockSize,a_1,b1,data4 =>
  bif (decide (blockSize<n_1)) then
   ((A9 n n_1 cv1 n_ blockSize 0 (À (2*blockSize)) data4
   ):Option (Int×Int×(List Ae))).bind fun y2=>match y2 with
   |(a_2,b2,data5) =>
    bif (decide ((À (a_2+blockSize))<n_1)) then
     (Am n cv1 n_ data5 a_2 (À (a_2+blockSize)) n_1).bind fun data6 =>
     A3 n n_1 cv1 n_ (À (blockSize*2)) a_2 b2 data6
    else
     A3 n n_1 cv1 n_ (À (blockSize*2)) a_2 b2 data5
  else
   some data4
def A8:Nat->Int->(List Ad)->Nat->Int->Int->(List Ae)->Option (Int×Int×(List Ae))
 |0,_,_,_,_,_,_=>none
 |n+1,n_1,cv1,n_,a_4,b4,data9 =>
  bif (decide (b4<=n_1)) then
   (AA n cv1 n_ data9 a_4 b4).bind fun data10 =>
   A8 n n_1 cv1 n_ b4 (À (b4+20)) data10
  else
   some (a_4,b4,data9)
def B3 (n:Nat)(cv1:(List Ad))(n_:Nat)(data:(List Ae))(n_1:Int):Option (List Ae) :=
 ((A8 n n_1 cv1 n_ 0 20 data
 ):Option (Int×Int×(List Ae))).bind fun y=>match y with
 |(a_,b,data1) =>
  (AA n cv1 n_ data1 a_ n_1).bind fun data2 =>
  ((A3 n n_1 cv1 n_ 20 a_ b data2
  ):Option (List Ae)).bind fun data3 =>
   some data3
def BL (n:Nat)(cv1:(List Ad))(n_:Nat)(x:(List Ae)):Option (List Ae) :=
 (B3 n cv1 n_ x (n_:Int)).bind fun x1 =>
 some x1
def Ce:Nat->(List Ad)->Ap->Int->(List Ae)->Int->Option (List Ae)
 |0,_,_,_,_,_=>none
 |n+1,l,d,known,out1,v30 =>
  bif (decide (v30<(l.length:Int))) then
   (gi l v30).bind fun x =>
   (Ft n x d known).bind fun s =>
   bif s.2.2.1 then
    (CH 24 out1 [(Ae.mk s.1 s.2.1 v30)]).bind fun l2 =>
    Ce n l d known l2 (À (v30+1))
   else
    Ce n l d known out1 (À (v30+1))
  else
   some out1
def Cs (n:Nat)(l:(List Ad))(d:Ap)(known:Int):Option ((List Ae)×Int) :=
 (E0 n l).bind fun e =>
 bif (e != 0) then
  some ([],e)
 else
  (Ez n d known).bind fun e1 =>
  bif (e1 != 0) then
   some ([],e1)
  else
   ((Ce n l d known [] 0
   ):Option (List Ae)).bind fun out =>
    bif out.isEmpty then
     some ([],0)
    else
     (BL n l out.length out).bind fun l1 =>
     bif (l1.length == out.length) then
      some (l1,0)
     else
      none
def De (s:Ae)(day:Int):Option Bool :=
 ((bif (decide (s.from_<=day)) then
  some (decide (day<=s.to_))
 else
  some false
 ):Option Bool).bind fun v4 =>
  some v4
def Dm (h_:Int)(other:Int):Option Int :=
 bif ((bits .and .i64 h_ other) == 0) then
  some h_
 else
  some (bits .and .i64 h_ other)
def BS:Nat->(List Ae)->(List Ad)->Ad->Int->Int->Int->Bool->Option (Int×Int×Bool)
 |0,_,_,_,_,_,_,_=>none
 |n+1,s,l,x1,day,i2,common1,some_1 =>
  ((bif (decide (i2<(s.length:Int))) then
   (gi s i2).bind fun x4 =>
   (gi l x4.clause).bind fun x5 =>
   some (x5.Rank == x1.Rank)
  else
   some false
  ):Option Bool).bind fun v43 =>
   bif v43 then
    (gi s i2).bind fun x2 =>
    (gi l x2.clause).bind fun x3 =>
    ((bif (x3.Kind == 3) then
     (De x2 day).bind fun a_ =>
     some a_
    else
     some false
    ):Option Bool).bind fun v64 =>
     bif v64 then
      BS n s l x1 day (À (i2+1)) (bits .and .i64 common1 x3.Houses) true
     else
      BS n s l x1 day (À (i2+1)) common1 some_1
   else
    some (i2,common1,some_1)
def Cd:Nat->(List Ae)->(List Ad)->Int->Int->Int->Option (Int ⊕ Int)
 |0,_,_,_,_,_=>none
 |n+1,s,l,day,out1,i =>
  bif (decide (i<(s.length:Int))) then
   (gi s i).bind fun x =>
   (gi l x.clause).bind fun x1 =>
   ((BS n s l x1 day i 4095 false
   ):Option (Int×Int×Bool)).bind fun y1=>match y1 with
   |(i1,common,some_) =>
    ((bif some_ then
     some (common == 0)
    else
     some false
    ):Option Bool).bind fun v71 =>
     bif v71 then
      some (.inr 0)
     else
      bif some_ then
       (Dm out1 common).bind fun out2 =>
       Cd n s l day out2 i1
      else
       Cd n s l day out1 i1
  else
   some (.inl out1)
def HN (n:Nat)(l:(List Ad))(s:(List Ae))(day:Int):Option Int :=
 ((Cd n s l day 4095 0
 ):Option (Int ⊕ Int)).bind fun y=>match y with
 |.inl out =>
  some out
 |.inr o=>some o
def C8:Nat->(List Ae)->(List Ad)->Int->Int->Int->Int->(List Int)->Option (Int×(List Int))
 |0,_,_,_,_,_,_,_=>none
 |n+1,s,l,day,rank,v19,out2,out3 =>
  bif (decide (v19<(s.length:Int))) then
   (gi s v19).bind fun x =>
   (gi l x.clause).bind fun x1 =>
   ((bif (x1.Kind == 3) then
    some true
   else
    (De x day).bind fun a_ =>
    bif (!a_) then
     some true
    else
     some (decide (x1.Rank<rank))
   ):Option Bool).bind fun v42 =>
    bif v42 then
     C8 n s l day rank (À (v19+1)) out2 out3
    else
     (CH 8 out3 [x.clause]).bind fun l1 =>
     bif (out2 == 0) then
      C8 n s l day x1.Rank (À (v19+1)) x1.Kind l1
     else
      bif (out2 != x1.Kind) then
       C8 n s l day x1.Rank (À (v19+1)) 3 l1
      else
       C8 n s l day x1.Rank (À (v19+1)) out2 l1
  else
   some (out2,out3)
def Ik (n:Nat)(l:(List Ad))(s:(List Ae))(day:Int):Option B0 :=
 (HN n l s day).bind fun w =>
 ((C8 n s l day (-1) 0 0 []
 ):Option (Int×(List Int))).bind fun y=>match y with
 |(out,out1) =>
  bif out1.isEmpty then
   some (B0.mk out w [])
  else
   (Rp out1).bind fun data =>
   bif (data.length == out1.length) then
    some (B0.mk out w data)
   else
    none
def Gf:Nat->(List Ae)->Int->(List Int)->Option (List Int)
 |0,_,_,_=>none
 |n+1,s,v9,l1 =>
  bif (decide (v9<(s.length:Int))) then
   (gi s v9).bind fun x =>
   (CH 8 l1 [x.from_,(À (x.to_+1))]).bind fun l2 =>
   Gf n s (À (v9+1)) l2
  else
   some l1
def FM (n:Nat)(s:(List Ae)):Option (List Int) :=
 ((Gf n s 0 [0]
 ):Option (List Int)).bind fun l =>
  bif l.isEmpty then
   none
  else
   (Rp l).bind fun data =>
   bif (data.length == l.length) then
    some data
   else
    none
def BZ (n:Nat)(l:(List Ad))(s:((List Ae)×Int)):List Int->(List AQ)->Option ((List AQ)×Int)
 | [],out =>
  some (out,0)
 |day::days,out =>
  (Ik n l s.1 day).bind fun x =>
  bif out.isEmpty then
   (CH 32 [] [(AQ.mk day 41666 x.State x.Houses)]).bind fun l1 =>
   BZ n l s days l1
  else
   ((bif (decide (0<(out.length:Int))) then
    (gx out.length (À ((out.length:Int)-1))).bind fun _ =>
    (gi out (À ((out.length:Int)-1))).bind fun x1 =>
    bif (x1.State == x.State) then
     some (x1.Houses == x.Houses)
    else
     some false
   else
    some false
   ):Option Bool).bind fun v56 =>
    bif v56 then
     bif (out.length == out.length) then
      BZ n l s days out
     else
      none
    else
     bif (decide (0<(out.length:Int))) then
      (gx out.length (À ((out.length:Int)-1))).bind fun _ =>
      (Adl out (À ((out.length:Int)-1)) (fun z=>{ z with To:=(À (day-1)) })).bind fun l2 =>
      bif (l2.length == out.length) then
       (CH 32 l2 [(AQ.mk day 41666 x.State x.Houses)]).bind fun l3 =>
       BZ n l s days l3
      else
       none
     else
      bif (out.length == out.length) then
       (CH 32 out [(AQ.mk day 41666 x.State x.Houses)]).bind fun l4 =>
       BZ n l s days l4
      else
       none
def Gg (n:Nat)(l:(List Ad))(d:Ap)(known:Int):Option ((List AQ)×Int) :=
 (Cs n l d known).bind fun s =>
 bif (s.2 != 0) then
  some ([],s.2)
 else
  (FM n s.1).bind fun zs =>
  bif zs.isEmpty then
   none
  else
  bif decide (zs.length*8<=140737488351232) then
   BZ n l s (H2 zs) []
  else
   none
def Ep (n:Nat)(l:(List Ad))(d:Ap)(day:Int)(known:Int):Option (B0×Int) :=
 (Cs n l d known).bind fun s =>
 bif (s.2 != 0) then
  some ((B0.mk 0 0 []),s.2)
 else
  ((bif (decide (day<0)) then
   some true
  else
   some (decide (41666<day))
  ):Option Bool).bind fun v28 =>
   bif v28 then
    some ((B0.mk 0 0 []),1)
   else
    (Ik n l s.1 day).bind fun a_ =>
    some (a_,0)
def DZ:Nat->((List AQ)×Int)->Ap->Int->Int->Int->Option (Int×Int)
 |0,_,_,_,_,_=>none
 |n+1,s,d,keep1,drop1,v24 =>
  bif (decide (v24<(s.1.length:Int))) then
   (gi s.1 v24).bind fun x =>
   bif (x.State == 1) then
    DZ n s d x.To drop1 (À (v24+1))
   else
    ((bif (x.State == 2) then
     some (decide (d.Stored<=x.To))
    else
     some false
    ):Option Bool).bind fun v34 =>
     bif v34 then
      DZ n s d keep1 (if (if d.Stored > x.From then d.Stored else x.From)<drop1 then (if d.Stored > x.From then d.Stored else x.From) else drop1) (À (v24+1))
     else
      DZ n s d keep1 drop1 (À (v24+1))
  else
   some (keep1,drop1)
def KF (n:Nat)(l:(List Ad))(d:Ap)(known:Int):Option (Int×Int×Int) :=
 (Gg n l d known).bind fun s =>
 bif (s.2 != 0) then
  some (0,0,s.2)
 else
  ((DZ n s d (-1) 41667 0
  ):Option (Int×Int)).bind fun y=>match y with
  |(keep,drop) =>
   some (keep,drop,0)
def Eu (n:Nat)(l:(List Ad))(s:((List Ae)×Int))(s1:((List Ae)×Int)):List Int->Option (Int×Int)
 | [] =>
  some (41667,0)
 |day::days =>
  (Ik n l s.1 day).bind fun x =>
  (Ik n l s1.1 day).bind fun y1 =>
  ((bif (x.State != y1.State) then
   some true
  else
   some (x.Houses != y1.Houses)
  ):Option Bool).bind fun v61 =>
   bif v61 then
    some (day,0)
   else
    Eu n l s s1 days
def Hy (n:Nat)(l:(List Ad))(d:Ap)(known:Int)(later:Int):Option (Int×Int) :=
 (Cs n l d known).bind fun s =>
 bif (s.2 != 0) then
  some (0,s.2)
 else
  (Cs n l d later).bind fun s1 =>
  bif (s1.2 != 0) then
   some (0,s1.2)
  else
   ((bif s.1.isEmpty then
    (CH 24 [] s1.1).bind fun l1 =>
    (FM n l1).bind fun zs =>
    some zs
   else
    (CH 24 [] s.1).bind fun c =>
    (CH 24 c s1.1).bind fun l2 =>
    (FM n l2).bind fun zs1 =>
    some zs1
   ):Option (List Int)).bind fun q =>
    bif q.isEmpty then
     none
    else
    bif decide (q.length*8<=140737488351232) then
     Eu n l s s1 (H2 q)
    else
     none
abbrev K4 (l:List Ae):PV:=hP l CA
abbrev hX8 (l:List AQ):PV:=hP l D4
abbrev kX6 (x:Ae):List PV:=[iP x.from_,iP x.to_,iP x.clause]
abbrev Sl (x:B0):List PV:=[iP x.State,iP x.Houses,hI x.By]
abbrev kX8 (x:AQ):List PV:=[iP x.From,iP x.To,iP x.State,iP x.Houses]
end Go.Sp
namespace Go.Sp
open Go Go.Vl
set_option linter.unusedVariables false
def GG:Nat->B0->B0->Int->Option (Unit ⊕ Bool)
 |0,_,_,_=>none
 |n+1,a_,b,k =>
  bif (decide (k<(a_.By.length:Int))) then
   (gi a_.By k).bind fun x =>
   (gi b.By k).bind fun x1 =>
   bif (x != x1) then
    some (.inr false)
   else
    GG n a_ b (À (k+1))
  else
   some (.inl ())
def LQ (n:Nat)(a_:B0)(b:B0):Option Bool :=
 ((bif (a_.State != b.State) then
  some true
 else
  bif (a_.Houses != b.Houses) then
   some true
  else
   some ((a_.By.length:Int) != (b.By.length:Int))
 ):Option Bool).bind fun v26 =>
  bif v26 then
   some false
  else
   ((GG n a_ b 0
   ):Option (Unit ⊕ Bool)).bind fun y1=>match y1 with
   |.inl _ =>
    some true
   |.inr o=>some o
def CW:Nat->(List AQ)->(List AQ)->Int->Option (Unit ⊕ Bool)
 |0,_,_,_=>none
 |n+1,a_,b,k =>
  bif (decide (k<(a_.length:Int))) then
   (gi a_ k).bind fun x =>
   (gi b k).bind fun x1 =>
   bif (!((x.From == x1.From)&&((x.To == x1.To)&&((x.State == x1.State)&&((x.Houses == x1.Houses)&&true))))) then
    some (.inr false)
   else
    CW n a_ b (À (k+1))
  else
   some (.inl ())
def F2 (n:Nat)(a_:(List AQ))(b:(List AQ)):Option Bool :=
 bif ((a_.length:Int) != (b.length:Int)) then
  some false
 else
  ((CW n a_ b 0
  ):Option (Unit ⊕ Bool)).bind fun y=>match y with
  |.inl _ =>
   some true
  |.inr o=>some o
def Gc (n:Nat)(l:(List Ad))(d:Ap)(day:Int)(known:Int)(want:B0):Option Bool :=
 (Ep n l d day known).bind fun a_ =>
 ((bif (a_.2 == 0) then
  (LQ n a_.1 want).bind fun s =>
  some s
 else
  some false
 ):Option Bool).bind fun v10 =>
  some v10
def Jt (n:Nat):Option Bool :=
 (Cv n ⟨#[107,101,101,112,32,116,97,120,32,50,32,48,32,40,115,116,111,114,101,100,41,32,40,115,116,111,114,101,100,32,43,32,49,48,48,41,32,40,48,32,61,61,32,48,41,59,32,100,114,111,112,32,119,105,115,104,32,49,32,48,32,40,97,115,107,101,100,40,111,119,110,101,114,41,41,32,40,110,101,118,101,114,41,32,40,97,115,107,101,100,40,111,119,110,101,114,41,32,60,32,110,101,118,101,114,41,59,32,100,114,111,112,32,101,110,100,32,50,32,48,32,40,115,116,111,114,101,100,32,43,32,49,48,48,41,32,40,110,101,118,101,114,41,32,40,48,32,61,61,32,48,41,59,32,112,108,97,99,101,32,104,111,109,101,32,49,32,48,32,40,100,97,121,40,48,41,41,32,40,110,101,118,101,114,41,32,40,48,32,61,61,32,48,41,32,45,62,32,48,32,50,59,32,112,108,97,99,101,32,119,97,114,32,51,32,50,48,32,40,100,97,121,40,53,48,41,41,32,40,110,101,118,101,114,41,32,40,48,32,61,61,32,48,41,32,45,62,32,49,32,50,59]⟩).bind fun c =>
 (some [(Bo.mk 3 4 30 40)]).bind fun l =>
 ((bif ((c.2.At == 0)&&((c.2.E == 0)&&true)) then
  (some [0]).bind fun l7 =>
  (Gc n c.1 (Ap.mk l 10 4) 30 40 (B0.mk 1 5 l7)).bind fun i3 =>
  bif i3 then
   (Gc n c.1 (Ap.mk l 10 4) 5 40 (B0.mk 0 5 [])).bind fun i4 =>
   bif i4 then
    (some [0]).bind fun l8 =>
    (Gc n c.1 (Ap.mk l 10 4) 60 40 (B0.mk 1 4 l8)).bind fun i5 =>
    some i5
   else
    some false
  else
   some false
 else
  some false
 ):Option Bool).bind fun one =>
  (((some [0,2]).bind fun l4 =>
  (Gc n c.1 (Ap.mk l 10 4) 110 40 (B0.mk 3 4 l4)).bind fun i =>
  bif i then
   (some [2]).bind fun l5 =>
   (Gc n c.1 (Ap.mk l 10 4) 120 40 (B0.mk 2 4 l5)).bind fun i1 =>
   bif i1 then
    (some [0]).bind fun l6 =>
    (Gc n c.1 (Ap.mk l 10 4) 60 10 (B0.mk 1 5 l6)).bind fun i2 =>
    some i2
   else
    some false
  else
   some false
  ):Option Bool).bind fun two =>
   (Gg n c.1 (Ap.mk l 10 4) 40).bind fun s =>
   (KF n c.1 (Ap.mk l 10 4) 40).bind fun b =>
   (Hy n c.1 (Ap.mk l 10 4) 10 40).bind fun l1 =>
   (Hy n c.1 (Ap.mk l 10 4) 20 40).bind fun l2 =>
   (some [(AQ.mk 0 9 0 5),(AQ.mk 10 49 1 5),(AQ.mk 50 109 1 4),(AQ.mk 110 110 3 4),(AQ.mk 111 41666 2 4)]).bind fun l3 =>
   ((bif one then
    bif two then
     bif (s.2 == 0) then
      (F2 n s.1 l3).bind fun s1 =>
      bif s1 then
       bif (b.2.2 == 0) then
        bif (b.1 == 109) then
         bif (b.2.1 == 111) then
          bif (l1.2 == 0) then
           bif (l1.1 == 50) then
            bif (l2.2 == 0) then
             some (l2.1 == 41667)
            else
             some false
           else
            some false
          else
           some false
         else
          some false
        else
         some false
       else
        some false
      else
       some false
     else
      some false
    else
     some false
   else
    some false
   ):Option Bool).bind fun v0_ =>
    some v0_
def QQ:Option Bool:=Jt 60
end Go.Sp
namespace Go.Sp
open Go Go.Vl
set_option linter.unusedVariables false
structure Ef where
 Stored:Int
 Term:Int
 Asked:Int
 Held:Int
 Lifted:Int
 KnownAsked:Int
 KnownHeld:Int
 KnownLifted:Int
def Hi (x:Ef):List PV:=[.lit (.int .u16 x.Stored),.lit (.int .u16 x.Term),.lit (.int .u16 x.Asked),.lit (.int .u16 x.Held),.lit (.int .u16 x.Lifted),.lit (.int .u16 x.KnownAsked),.lit (.int .u16 x.KnownHeld),.lit (.int .u16 x.KnownLifted)]
theorem LN (x:Ef):Hi x=[.lit (.int .u16 x.Stored),.lit (.int .u16 x.Term),.lit (.int .u16 x.Asked),.lit (.int .u16 x.Held),.lit (.int .u16 x.Lifted),.lit (.int .u16 x.KnownAsked),.lit (.int .u16 x.KnownHeld),.lit (.int .u16 x.KnownLifted)]:=rfl
mutual
def B2:Nat->Int->Option Å
 |0,_=>none
 |n+1,n_ =>
  bif (decide (n_<10)) then
   (some [(IntKind.u8.wrap (À (48+n_)))]).bind fun l =>
   some (Xs l)
  else
   (B2 n (À (n_.tdiv 10))).bind fun d =>
   (B2 n (n_.tmod 10)).bind fun d1 =>
   (MD d d1).bind fun s =>
   some s
end
def As (n_:Int):Option Int :=
 some ((À n_).tmod 41667)
def Dq (n:Nat)(s:Ef)(days:(Int×Int)):Option Bool :=
 (B2 n (À s.Term)).bind fun d =>
 (MD ⟨#[107,101,101,112,32,116,101,114,109,32,50,32,48,32,40,115,116,111,114,101,100,41,32,40,115,116,111,114,101,100,32,43,32]⟩ d).bind fun s1 =>
 (MD s1 ⟨#[41,32,40,48,32,61,61,32,48,41,59,32,100,114,111,112,32,119,105,115,104,32,49,32,48,32,40,97,115,107,101,100,40,111,119,110,101,114,41,41,32,40,110,101,118,101,114,41,32,40,97,115,107,101,100,40,111,119,110,101,114,41,32,60,32,110,101,118,101,114,41,59,32,107,101,101,112,32,104,111,108,100,32,51,32,48,32,40,104,101,108,100,40,111,119,110,101,114,41,41,32,40,108,105,102,116,101,100,40,111,119,110,101,114,41,32,45,32,49,41,32,40,104,101,108,100,40,111,119,110,101,114,41,32,60,32,110,101,118,101,114,41,59]⟩).bind fun s2 =>
 (Cv n s2).bind fun c =>
 bif (!((c.2.At == 0)&&((c.2.E == 0)&&true))) then
  some false
 else
  (As s.Stored).bind fun d1 =>
  (As s.Asked).bind fun d2 =>
  (As s.KnownAsked).bind fun d3 =>
  (As s.Held).bind fun d4 =>
  (As s.KnownHeld).bind fun d5 =>
  (As s.Lifted).bind fun d6 =>
  (As s.KnownLifted).bind fun d7 =>
  (some [(Bo.mk 3 7 d2 d3),(Bo.mk 4 7 d4 d5),(Bo.mk 5 7 d6 d7)]).bind fun l =>
  (As days.1).bind fun day =>
  (As days.2).bind fun known =>
  (((As s.KnownAsked).bind fun d12 =>
  bif (decide (d12<=known)) then
   (As s.Asked).bind fun d13 =>
   some (decide (d13<=day))
  else
   some false
  ):Option Bool).bind fun v83 =>
   ((bif v83 then
    some 2
   else
    some 0
   ):Option Int).bind fun want =>
    ((bif (decide (d1<=day)) then
     some (decide (day<=(if 41667<(À (d1+(À s.Term))) then 41667 else (À (d1+(À s.Term))))))
    else
     some false
    ):Option Bool).bind fun v98 =>
     ((bif v98 then
      some 1
     else
      some want
     ):Option Int).bind fun Kb =>
      (((As s.KnownHeld).bind fun d10 =>
      bif (decide (d10<=known)) then
       (As s.Held).bind fun d11 =>
       some (decide (d11<=day))
      else
       some false
      ):Option Bool).bind fun held =>
       (((As s.KnownLifted).bind fun d8 =>
       bif (decide (d8<=known)) then
        (As s.Lifted).bind fun d9 =>
        some (decide ((if (À (d9-1)) > 0 then (À (d9-1)) else 0)<day))
       else
        some false
       ):Option Bool).bind fun lifted =>
        ((bif held then
         some (!lifted)
        else
         some false
        ):Option Bool).bind fun v133 =>
         bif v133 then
          (Ep n c.1 (Ap.mk l d1 7) day known).bind fun a_ =>
          (((QQ).bind fun s3 =>
          bif s3 then
           bif (a_.2 == 0) then
            bif (a_.1.State == 1) then
             some (a_.1.Houses == 4095)
            else
             some false
           else
            some false
          else
           some false
          ):Option Bool).bind fun v4 =>
           some v4
         else
          (Ep n c.1 (Ap.mk l d1 7) day known).bind fun a_1 =>
          (((QQ).bind fun s4 =>
          bif s4 then
           bif (a_1.2 == 0) then
            bif (a_1.1.State == Kb) then
             some (a_1.1.Houses == 4095)
            else
             some false
           else
            some false
          else
           some false
          ):Option Bool).bind fun v41 =>
           some v41
abbrev P2 (x:Ef):List PV:=[.lit (.int .u16 x.Stored),.lit (.int .u16 x.Term),.lit (.int .u16 x.Asked),.lit (.int .u16 x.Held),.lit (.int .u16 x.Lifted),.lit (.int .u16 x.KnownAsked),.lit (.int .u16 x.KnownHeld),.lit (.int .u16 x.KnownLifted)]
end Go.Sp
namespace Go.Proofs.YtehfpameijkafaaGreatDoor
open Go.ChangeShapes Go.WideShapes Go.ChangeAt Go.RowKit Go.Q Go.Vl Go.Sp
set_option maxRecDepth 100000
theorem Qz {n:Int}(h:(Lit.int .u16 n).wf=true):0<=n/\n<=65535:=by
 have h:(decide (IntKind.u16.min<=n)&&decide (n<=IntKind.u16.max))=true:=h
 rw [Æ,Í,Í] at h
 exact h
theorem Sf {w:World}{r:Reach}{b0:Nat}{v:Value}(h:Value.okWide Tryz.prog w r b0 75 v):∃ cs,v=.agg cs:=by
 simp only [Value.okWide,Tryz.underlying75] at h
 obtain⟨cs,e,_⟩:=h
 exact⟨cs,e⟩
theorem Xg {w:World}{r:Reach}{b0:Nat}{v:Value}(h:Value.okWide Tryz.prog w r b0 76 v):∃ cs,v=.agg cs:=by
 simp only [Value.okWide,Tryz.underlying76] at h
 obtain⟨cs,e,_⟩:=h
 exact⟨cs,e⟩
theorem ZO {w:World}{r:Reach}{b0:Nat}{cs:Array Value}(h:Value.okWide Tryz.prog w r b0 76 (.agg cs)):cs.size=2:=by
 have c76:Tryz.prog.cellsOf 76=2:=by kernel_rfl
 simp only [Value.okWide,Tryz.underlying76] at h
 obtain⟨c,e,h2,_⟩:=h
 rw [c76] at h2
 cases e
 exact h2
def Z8 (x:Int):Prop:=0<=x/\x<=65535
theorem Acm {H:Type}{enc:TypeId×Value->H}{w:World}{held:Bool}{fuel:Nat}{cs:Array Value}{x:DataW H×List MemPlace}(h:DataW.trod enc Tryz.prog w 0 (fun _=>true) held fuel 76 (Value.agg cs).cells.toList=some x)(hl:cs.size=2) :
 ∃ y:Int×Int,(∀ φ,V w (UC w) φ (.agg [.lit (.int .u16 y.1),.lit (.int .u16 y.2)]) (.agg cs))/\Z8 y.1/\Z8 y.2:=by
 have c60:Tryz.prog.cellsOf 60=1:=by kernel_rfl
 have h:DataW.trod enc Tryz.prog w 0 (fun _=>true) held fuel 76 cs.toList=some x:=h
 have hl:cs.toList.length=2:=by simpa using hl
 match hcs:cs.toList,hl with
 | [v1,v2],_ =>
  rw [hcs] at h
  obtain⟨xs,m,rfl,rfl,_,hl,hx⟩:=DataW.trod_array Tryz.underlying76 h
  have h0:=hx 0 (by omega)
  have h1:=hx 1 (by omega)
  rw [c60,Ã (by omega)] at h0 h1
  obtain⟨k0,e0,_,r0⟩:=đ Tryz.underlying60 h0
  obtain⟨k1,e1,_,r1⟩:=đ Tryz.underlying60 h1
  have f0:v1=.int .u16 k0:=(ĭ e0).1
  have f1:v2=.int .u16 k1:=(ĭ e1).1
  clear e0 e1
  subst f0 f1
  refine⟨(k0,k1),Wi ?_,Qz r0,Qz r1⟩
  rw [hcs]
  exact .cons rfl (fun φ=>.lit _ _) (.cons rfl (fun φ=>.lit _ _) .nil)
def Aci (y:Ef):Prop:=Z8 y.Stored/\Z8 y.Term/\Z8 y.Asked/\Z8 y.Held/\Z8 y.Lifted/\Z8 y.KnownAsked/\Z8 y.KnownHeld/\Z8 y.KnownLifted
theorem Xd {H:Type}{enc:TypeId×Value->H}{w:World}{held:Bool}{fuel:Nat}{cs:Array Value}{x:DataW H×List MemPlace}(h:DataW.trod enc Tryz.prog w 0 (fun _=>true) held fuel 75 (Value.agg cs).cells.toList=some x) :
 ∃ y:Ef,(∀ φ,V w (UC w) φ (.agg (Hi y)) (.agg cs))/\Aci y:=by
 have c75:Tryz.prog.cellsOf 75=8:=by kernel_rfl
 have c60:Tryz.prog.cellsOf 60=1:=by kernel_rfl
 have h:DataW.trod enc Tryz.prog w 0 (fun _=>true) held fuel 75 cs.toList=some x:=h
 obtain⟨xs,n,hn,rfl,hl,hxl,hf⟩:=DataW.trod_struct Tryz.underlying75 h
 rw [c75] at hl
 match hcs:cs.toList,hl with
 | [v0,v1,v2,v3,v4,v5,v6,v7],_ =>
  rw [hcs] at hf
  have hx4:xs.length=8:=hxl
  have f0:DataW.trod enc Tryz.prog w 0 (fun _=>true) held n 60 (List.take (Tryz.prog.cellsOf 60) [v0,v1,v2,v3,v4,v5,v6,v7])=xs[0]?:=hf 0 _ rfl
  have f1:DataW.trod enc Tryz.prog w 0 (fun _=>true) held n 60 (List.take (Tryz.prog.cellsOf 60) [v1,v2,v3,v4,v5,v6,v7])=xs[1]?:=hf 1 _ rfl
  have f2:DataW.trod enc Tryz.prog w 0 (fun _=>true) held n 60 (List.take (Tryz.prog.cellsOf 60) [v2,v3,v4,v5,v6,v7])=xs[2]?:=hf 2 _ rfl
  have f3:DataW.trod enc Tryz.prog w 0 (fun _=>true) held n 60 (List.take (Tryz.prog.cellsOf 60) [v3,v4,v5,v6,v7])=xs[3]?:=hf 3 _ rfl
  have f4:DataW.trod enc Tryz.prog w 0 (fun _=>true) held n 60 (List.take (Tryz.prog.cellsOf 60) [v4,v5,v6,v7])=xs[4]?:=hf 4 _ rfl
  have f5:DataW.trod enc Tryz.prog w 0 (fun _=>true) held n 60 (List.take (Tryz.prog.cellsOf 60) [v5,v6,v7])=xs[5]?:=hf 5 _ rfl
  have f6:DataW.trod enc Tryz.prog w 0 (fun _=>true) held n 60 (List.take (Tryz.prog.cellsOf 60) [v6,v7])=xs[6]?:=hf 6 _ rfl
  have f7:DataW.trod enc Tryz.prog w 0 (fun _=>true) held n 60 (List.take (Tryz.prog.cellsOf 60) [v7])=xs[7]?:=hf 7 _ rfl
  rw [c60] at f0 f1 f2 f3 f4 f5 f6 f7
  simp only [List.take_succ_cons,List.take_zero] at f0 f1 f2 f3 f4 f5 f6 f7
  rw [Ã (by omega)] at f0 f1 f2 f3 f4 f5 f6 f7
  obtain⟨k0,e0,_,r0⟩:=đ Tryz.underlying60 f0
  obtain⟨k1,e1,_,r1⟩:=đ Tryz.underlying60 f1
  obtain⟨k2,e2,_,r2⟩:=đ Tryz.underlying60 f2
  obtain⟨k3,e3,_,r3⟩:=đ Tryz.underlying60 f3
  obtain⟨k4,e4,_,r4⟩:=đ Tryz.underlying60 f4
  obtain⟨k5,e5,_,r5⟩:=đ Tryz.underlying60 f5
  obtain⟨k6,e6,_,r6⟩:=đ Tryz.underlying60 f6
  obtain⟨k7,e7,_,r7⟩:=đ Tryz.underlying60 f7
  simp only [List.cons.injEq,and_true] at e0 e1 e2 e3 e4 e5 e6 e7
  subst e0 e1 e2 e3 e4 e5 e6 e7
  refine⟨⟨k0,k1,k2,k3,k4,k5,k6,k7⟩,Wi ?_,Qz r0,Qz r1,Qz r2,Qz r3,Qz r4,Qz r5,Qz r6,Qz r7⟩
  rw [hcs,LN]
  exact .cons rfl (fun φ=>.lit _ _) (.cons rfl (fun φ=>.lit _ _) (.cons rfl (fun φ=>.lit _ _) (.cons rfl (fun φ=>.lit _ _) (.cons rfl (fun φ=>.lit _ _) (.cons rfl (fun φ=>.lit _ _) (.cons rfl (fun φ=>.lit _ _) (.cons rfl (fun φ=>.lit _ _) .nil)))))))
end Go.Proofs.YtehfpameijkafaaGreatDoor
namespace Go.Proofs.YtehfpameijkafaaGreatDoor
open Go.ChangeShapes Go.WideShapes Go.ChangeAt Go.RowKit
set_option maxRecDepth 100000
theorem FG {a b:Bool}(h:a=true)(k:b=true):(a&&b)=true:=by rw [h,k];rfl
theorem Aeu:(Rows.dutyTellsAStoryRow.wf (OpenSpec.ofChange Rows.dutyTellsAStorySpec))=true:=by kernel_rfl
theorem Aet:(laidOutB Tryz.prog)=true:=by kernel_rfl
theorem Aes:(mapsRowed Tryz.prog)=true:=by kernel_rfl
theorem Aer:(Tryz.f7.params.all (Tryz.prog.readableRec ·))=true:=by kernel_rfl
theorem Aeq:(namedTie Tryz.prog Rows.dutyTellsAStoryRow.named Rows.dutyTellsAStorySpec.vars)=true:=by kernel_rfl
theorem Aep:((Rows.dutyTellsAStoryRow.stops == []))=true:=by kernel_rfl
theorem Aeo:((Tryz.prog.stops == []))=true:=by kernel_rfl
theorem Aen:((Rows.dutyTellsAStoryRow.knobs == []))=true:=by kernel_rfl
theorem Aem:((Tryz.prog.stopKnobs == []))=true:=by kernel_rfl
theorem Ael:((Rows.dutyTellsAStoryRow.inPlace == Tryz.prog.inPlace 7))=true:=by kernel_rfl
theorem Ade:((Rows.dutyTellsAStoryRow.unfollowed == Tryz.prog.unfollowed 7))=true:=by kernel_rfl
theorem Adc:((Rows.dutyTellsAStoryRow.recurses == Tryz.prog.recurses 7))=true:=by kernel_rfl
theorem Adb:((Rows.dutyTellsAStoryRow.named == Tryz.prog.varsNamed 7))=true:=by kernel_rfl
theorem Ada:((Rows.dutyTellsAStoryRow.maps == (Tryz.f7.params.toList++Rows.dutyTellsAStorySpec.plain.varTypes Tryz.prog).any (Tryz.prog.mapsRec ·)))=true:=by kernel_rfl
theorem Ac9:((Rows.dutyTellsAStoryRow.ifaces == (Tryz.f7.params.toList++Rows.dutyTellsAStorySpec.plain.varTypes Tryz.prog).any (Tryz.prog.ifacesRec ·)))=true:=by kernel_rfl
theorem Ac8:((Rows.dutyTellsAStoryRow.mapsOut == Tryz.prog.mapsAmong Tryz.f7.resultTypes.toList))=true:=by kernel_rfl
theorem Ac7:((Rows.dutyTellsAStoryRow.loops == (Tryz.f7.params.toList++Rows.dutyTellsAStorySpec.plain.varTypes Tryz.prog).any (Tryz.prog.loopsFrom ·)))=true:=by kernel_rfl
theorem Ac6:((Rows.dutyTellsAStoryRow.wideKeys == (Tryz.f7.params.toList++Rows.dutyTellsAStorySpec.plain.varTypes Tryz.prog++Tryz.f7.resultTypes.toList).any (Tryz.prog.wideKeysFrom ·)))=true:=by kernel_rfl
theorem Ac5:(Rows.dutyTellsAStorySpec.vars.all (Tryz.prog.varReadable ·))=true:=by kernel_rfl
theorem Ac4:(Tryz.f7.resultTypes.all (fun t=>Tryz.prog.readableRec t&&decide (t<Tryz.prog.types.size)))=true:=by kernel_rfl
theorem Ac3:((Rows.dutyTellsAStoryRow.ifacesOut == Tryz.f7.resultTypes.toList.any (Tryz.prog.ifacesRec ·)))=true:=by kernel_rfl
theorem Ac2:((Rows.dutyTellsAStoryRow.loopsOut == Tryz.f7.resultTypes.toList.any (Tryz.prog.loopsFrom ·)))=true:=by kernel_rfl
theorem Ac1:((Rows.dutyTellsAStoryRow.plainKeys == Tryz.prog.plainKeys))=true:=by kernel_rfl
theorem Ac0:(Rows.dutyTellsAStoryRow.shortTexts.isNone)=true:=by kernel_rfl
theorem Acz:(Tryz.prog.stopsHeard)=true:=by kernel_rfl
theorem Acy:(Tryz.prog.mayEnter)=true:=by kernel_rfl
theorem Acx:((Rows.dutyTellsAStoryRow.lifted == Tryz.prog.liftsFinal))=true:=by kernel_rfl
theorem Acw:((Tryz.prog.make == some Rows.dutyTellsAStoryRow.make))=true:=by kernel_rfl
theorem Acv:((Rows.dutyTellsAStoryRow.kinds == (if Rows.dutyTellsAStoryRow.domain.isEmpty then [] else Tryz.f7.params.toList.map fun t=>match Tryz.prog.underlying t with|some (.int k)=>some k|_=>none)))=true:=by kernel_rfl
theorem Acu:((Rows.dutyTellsAStoryRow.pinned == Rows.dutyTellsAStoryRow.pinnedBy))=true:=by kernel_rfl
theorem Acs:((Rows.dutyTellsAStoryRow.veiled == (Tryz.f7.params.toList++Rows.dutyTellsAStorySpec.plain.varTypes Tryz.prog++Tryz.f7.resultTypes.toList).any (Tryz.prog.veiledRec ·)))=true:=by kernel_rfl
theorem Acr:(Rows.dutyTellsAStoryRow.veiledFits Tryz.prog Tryz.f7.params.toList (Tryz.f7.params.toList++Rows.dutyTellsAStorySpec.plain.varTypes Tryz.prog++Tryz.f7.resultTypes.toList))=true:=by kernel_rfl
theorem jf7:joinedFacts Tryz.prog 7 Tryz.f7 Rows.dutyTellsAStorySpec Rows.dutyTellsAStoryRow=true:=(FG (FG (FG (FG (FG (FG (FG (FG (FG (FG (FG (FG (FG (FG (FG (FG (FG (FG (FG (FG (FG (FG (FG (FG (FG (FG (FG (FG (FG (FG (FG Aeu Aet) Aes) Aer) Aeq) Aep) Aeo) Aen) Aem) Ael) Ade) Adc) Adb) Ada) Ac9) Ac8) Ac7) Ac6) Ac5) Ac4) Ac3) Ac2) Ac1) Ac0) Acz) Acy) Acx) Acw) Acv) Acu) Acs) Acr)
end Go.Proofs.YtehfpameijkafaaGreatDoor
